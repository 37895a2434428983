import Derived.Test.YtnhbioehiiifdaaGreatA01
import Derived.Great.BuildSlice
import Derived.Deep.QuietTactic
import Derived.Maps.OwnSet
import Derived.Maps.RangeWalk
import Derived.StringKeys
import Derived.KernelRfl
import Derived.JoinedOf
set_option maxRecDepth 100000
set_option maxHeartbeats 16000000
set_option linter.all false
namespace Go.Proofs.YtnhbioehiiifdaaGreat
open Go.ChangeShapes Go.WideShapes Go.ChangeAt Go.RowKit
def D0 (A:List Nat):List Edge→Nat
 |[]=>0
 |e::es=>(if Region.binds .any e=true then(1<<<e.on)|||A.getD e.on 0 else 0)|||D0 A es
def ancAll:List Oper→List Nat→List Nat
 |[],A=>A
 |o::os,A=>ancAll os (A++[D0 A o.after.toList])
def Down (a:List Oper)(l:Nat→Bool):Prop:=∀(k:Nat) (o:Oper),a[k]?=some o→l k=true→∀e∈o.after,Region.binds .any e=true→l e.on=true
theorem Kr {A:List Nat}{l:Nat→Bool}(d:∀k i,(A.getD k 0).testBit i=true→l k=true→l i=true):∀(es:List Edge),(∀e∈es,Region.binds .any e=true→l e.on=true)→∀i,(D0 A es).testBit i=true→l i=true
 |[],_,i,h=>by simp[D0]at h
 |e::es,hd,i,h=>by
  unfold D0 at h;rw[Gh,CQ]at h;rcases h with h|h
  ·by_cases a:Region.binds .any e=true
   ·rw[Ay a,Gh,CQ]at h
    have b:=hd e (by simp) a;rcases h with h|h
    ·rw[Nat.one_shiftLeft,Nat.testBit_two_pow]at h
     have:e.on=i:=by simpa using h
     rw[←this];exact b
    ·exact d _ _ h b
   ·rw[Aw a]at h
    simp at h
  ·exact Kr d es (fun f g=>hd f (by simp[g])) i h
theorem Mc {j:List Oper}{l:Nat→Bool}(f:Down j l):∀(a:List Oper) (A:List Nat),(∀k o,a[k]?=some o→j[A.length+k]?=some o)→(∀k i,(A.getD k 0).testBit i=true→l k=true→l i=true)→
  ∀k i,((ancAll a A).getD k 0).testBit i=true→l k=true→l i=true
 |[],A,_,hA=>hA
 |o::a,A,hs,hA=>by
  refine Mc f a (A++[D0 A o.after.toList]) (fun k q h=> ?_) (fun k i h g=> ?_)
  ·have:=hs (k+1) q (by simpa using h)
   rw[Aj,List.length_singleton,Cv,Nat.add_comm 1 k];exact this
  ·by_cases p:k<A.length
   ·rw[Af,AK p,←Af]at h
    exact hA k i h g
   ·by_cases b:k=A.length
    ·subst b
     rw[Af,AC (Av _),C8]at h;have d:=hs 0 o (by simp);rw[Nat.add_zero]at d;exact Kr hA _ (fun e b m=>f _ o d g e (by simpa using b) m) i h
    ·rw[Af,D7 (by simp;omega)]at h
     simp at h
theorem J8 {a:List Oper}{l:Nat→Bool}(b:Down a l){k i:Nat}(h:((ancAll a []).getD k 0).testBit i=true)(d:l k=true):l i=true:=
 Mc b a [] (fun k o h=>by simpa using h) (fun k i h=>by simp at h) k i h d
theorem LZ {A:List Nat}{n:Nat}(b:∀k i,(A.getD k 0).testBit i=true→i<k):∀(es:List Edge),(∀e∈es,Region.binds .any e=true→e.on<n)→∀i,(D0 A es).testBit i=true→i<n
 |[],_,i,h=>by simp[D0]at h
 |e::es,hd,i,h=>by
  unfold D0 at h;rw[Gh,CQ]at h;rcases h with h|h
  ·by_cases a:Region.binds .any e=true
   ·rw[Ay a,Gh,CQ]at h
    have g:=hd e (by simp) a;rcases h with h|h
    ·rw[Nat.one_shiftLeft,Nat.testBit_two_pow]at h
     have:e.on=i:=by simpa using h
     omega
    ·have:=b _ _ h;omega
   ·rw[Aw a]at h
    simp at h
  ·exact LZ b es (fun d f=>hd d (by simp[f])) i h
theorem Nl:∀(a:List Oper) (A:List Nat),C7 a A.length=true→(∀k i,(A.getD k 0).testBit i=true→i<k)→∀k i,((ancAll a A).getD k 0).testBit i=true→i<k
 |[],A,_,hA=>hA
 |o::a,A,hb,hA=>by
  have d:=FO (o::a) A.length 0 o hb (by simp);simp only[C7,Ar]at hb;refine Nl a (A++[D0 A o.after.toList]) (by rw[Aj,List.length_singleton];exact hb.2) (fun k i h=> ?_);by_cases g:k<A.length
  ·rw[Af,AK g,←Af]at h
   exact hA k i h
  ·by_cases b:k=A.length
   ·subst b
    rw[Af,AC (Av _),C8]at h;exact LZ hA _ (fun e b f=>by have:=d e (by simpa using b) f;omega) i h
   ·rw[Af,D7 (by simp;omega)]at h
    simp at h
theorem anc_lt {a:List Oper}{k i:Nat}(b:C7 a 0=true)(h:((ancAll a []).getD k 0).testBit i=true)(d:k<a.length):i<k:=Nl a [] b (fun k i h=>by simp at h) k i h
def mY (A c k:Nat)(x:Nat→Value):Nat→Value:=fun i=>if(c.testBit i&&A.testBit i)=true then x i else undef
def mL (c:Nat)(l:Nat→Bool):Nat→Bool:=fun i=>c.testBit i&&l i
def mX (c:Nat)(l:Nat→Bool)(x:Nat→Value):Nat→Value:=fun i=>if(c.testBit i&&l i)=true then x i else undef
def mV (c:Nat)(V:List ((Nat→Value)→Value))(A:List Nat)(x:Nat→Value)(k:Nat):Value:=if c.testBit k=true then x k else(V.getD k (fun _=>undef)) (mY (A.getD k 0) c k x)
structure Mix (os:List Oper) (c:Nat) (V:List ((Nat→Value)→Value)) (St:(Nat→Bool)→(Nat→Value)→World→Prop) (a:Act) (l:Nat→Bool) (x:Nat→Value) (w:World):Prop where
 down:Down os l
 own:∀k,l k=false→x k=ownVals os a k
 val:∀k,k<os.length→c.testBit k=false→l k=true→x k=mV c V (ancAll os []) x k
 st:St (mL c l) (mX c l x) w
def Dz (c:Nat)(V:List ((Nat→Value)→Value))(A:List Nat)(x:Nat→Value):List Edge→Prop
 |[]=>True
 |e::es=>(Region.binds .any e=true→x e.on=mV c V A x e.on)∧Dz c V A x es
section
variable {c:Nat} {V:List ((Nat→Value)→Value)} {A:List Nat} {x:Nat→Value} {n:Nat} {es:List Edge}
@[simp] theorem dv_nil:Dz c V A x []↔True:=Iff.rfl
@[simp] theorem dv_data:Dz c V A x (⟨n,.data⟩::es)↔(x n=mV c V A x n∧Dz c V A x es):=⟨fun h=>⟨h.1 rfl,h.2⟩,fun h=>⟨fun _=>h.1,h.2⟩⟩
@[simp] theorem dv_chain:Dz c V A x (⟨n,.chain⟩::es)↔(x n=mV c V A x n∧Dz c V A x es):=⟨fun h=>⟨h.1 rfl,h.2⟩,fun h=>⟨fun _=>h.1,h.2⟩⟩
@[simp] theorem dv_phase:Dz c V A x (⟨n,.phase⟩::es)↔(x n=mV c V A x n∧Dz c V A x es):=⟨fun h=>⟨h.1 rfl,h.2⟩,fun h=>⟨fun _=>h.1,h.2⟩⟩
@[simp] theorem dv_text {d:Departure}:Dz c V A x (⟨n,.textOnly d⟩::es)↔Dz c V A x es:=⟨fun h=>h.2,fun h=>⟨fun hb=>absurd hb (by simp[Region.binds]),h⟩⟩
@[simp] theorem dv_gc {d:Departure}:Dz c V A x (⟨n,.gcOnly d⟩::es)↔Dz c V A x es:=⟨fun h=>h.2,fun h=>⟨fun hb=>absurd hb (by simp[Region.binds]),h⟩⟩
end
theorem LO {b:List Oper}{c:Nat}{V:List ((Nat→Value)→Value)}{g:(Nat→Bool)→(Nat→Value)→World→Prop}{a:Act}{l:Nat→Bool}{x:Nat→Value}{w:World}(h:Mix b c V g a l x w):
  ∀es:List Edge,BD l es→(∀e∈es,Region.binds .any e=true→e.on<b.length)→Dz c V (ancAll b []) x es
 |[],_,_=>trivial
 |e::es,hd,hn=>⟨fun d=>by
   cases f:c.testBit e.on with
   |true=>unfold mV;rw[Ay f]
   |false=>exact h.val e.on (hn e (by simp) d) f (hd.1 d),LO h es hd.2 (fun i j=>hn i (by simp[j]))⟩
section
variable {P:Program} {Q:Exit→Act→World→Prop}
abbrev Ss (P:Program)(e:List Oper)(A:List Nat)(Q:Exit→Act→World→Prop)(c:Nat)(V:List ((Nat→Value)→Value))(f:(Nat→Bool)→(Nat→Value)→World→Prop)(a:Act)(k:Nat)(o:Oper):Prop:=
 ∀(L:Nat→Bool) (X x:Nat→Value) (W:World),f L X W→(∀i,L i=true→X i=x i)→(∀i,(c.testBit i&&(A.getD k 0).testBit i)=true→L i=true)→Dz c V (A) x o.after.toList→(∀i,(A.getD i 0).testBit k=true→x i=ownVals e a i)→(∀i,(A.getD i 0).testBit k=true→L i=false)→
  ∀b,Al e 0 x a=b→∀d:Act→World→Prop,(∀v h g,v=(V.getD k (fun _=>undef)) (mY (A.getD k 0) c k x)→b.put o.dst v=h→f L X g→d h g)→
   if Region.wanted o (yielded e.toArray b.tmps)=true then Oper.wp P o b W d Q else d (b.put o.dst undef) W
abbrev WL (P:Program)(e:List Oper)(A:List Nat)(Q:Exit→Act→World→Prop)(c:Nat)(V:List ((Nat→Value)→Value))(f:(Nat→Bool)→(Nat→Value)→World→Prop)(a:Act)(k:Nat)(o:Oper):Prop:=
 ∀(L:Nat→Bool) (X x:Nat→Value) (W:World),f L X W→L k=false→(∀i,L i=true→X i=x i)→(∀i,(c.testBit i&&(A.getD k 0).testBit i)=true→L i=true)→Dz c V (A) x o.after.toList→(∀i,(A.getD i 0).testBit k=true→x i=ownVals e a i)→(∀i,(A.getD i 0).testBit k=true→L i=false)→
  ∀b,Al e 0 x a=b→∀d:Act→World→Prop,(∀v h g,b.put o.dst v=h→f (upd L k true) (upd X k v) g→d h g)→
   if Region.wanted o (yielded e.toArray b.tmps)=true then Oper.wp P o b W d Q else d (b.put o.dst undef) W
def Gk (P:Program)(d:List Oper)(A:List Nat)(Q:Exit→Act→World→Prop)(c:Nat)(V:List ((Nat→Value)→Value))(b:(Nat→Bool)→(Nat→Value)→World→Prop)(a:Act):Nat→List Oper→Prop
 |_,[]=>True
 |k,o::l=>(if c.testBit k=true then WL P d A Q c V b a k o else Ss P d A Q c V b a k o)∧Gk P d A Q c V b a (k+1) l
theorem Gk.still {d:List Oper}{A:List Nat}{c:Nat}{V:List ((Nat→Value)→Value)}{b:(Nat→Bool)→(Nat→Value)→World→Prop}{a:Act}{k:Nat}{o:Oper}{l:List Oper}(e:c.testBit k=false)(h:Ss P d A Q c V b a k o)(f:Gk P d A Q c V b a (k+1) l):Gk P d A Q c V b a k (o::l):=
 ⟨by rw[Aw (by rw[e];decide)];exact h,f⟩
theorem Gk.turn {d:List Oper}{A:List Nat}{c:Nat}{V:List ((Nat→Value)→Value)}{b:(Nat→Bool)→(Nat→Value)→World→Prop}{a:Act}{k:Nat}{o:Oper}{l:List Oper}(e:c.testBit k=true)(h:WL P d A Q c V b a k o)(f:Gk P d A Q c V b a (k+1) l):Gk P d A Q c V b a k (o::l):=
 ⟨by rw[Ay e];exact h,f⟩
theorem Gk.nil {d:List Oper}{A:List Nat}{c:Nat}{V:List ((Nat→Value)→Value)}{b:(Nat→Bool)→(Nat→Value)→World→Prop}{a:Act}{k:Nat}:Gk P d A Q c V b a k []:=trivial
theorem Gk.s {d:List Oper}{A:List Nat}{c:Nat}{V:List ((Nat→Value)→Value)}{b:(Nat→Bool)→(Nat→Value)→World→Prop}{a:Act}{k:Nat}{o:Oper}{l:List Oper}(h:Ss P d A Q c V b a k o)(f:Gk P d A Q c V b a (k+1) l)(e:c.testBit k=false:=by rfl):Gk P d A Q c V b a k (o::l):= .still e h f
theorem Gk.t {d:List Oper}{A:List Nat}{c:Nat}{V:List ((Nat→Value)→Value)}{b:(Nat→Bool)→(Nat→Value)→World→Prop}{a:Act}{k:Nat}{o:Oper}{l:List Oper}(h:WL P d A Q c V b a k o)(f:Gk P d A Q c V b a (k+1) l)(e:c.testBit k=true:=by rfl):Gk P d A Q c V b a k (o::l):= .turn e h f
theorem Gk.at {b:List Oper}{c:Nat}{V:List ((Nat→Value)→Value)}{d:(Nat→Bool)→(Nat→Value)→World→Prop}{a:Act}:∀(l:List Oper) (i k:Nat) (o:Oper),Gk P b (ancAll b []) Q c V d a i l→l[k]?=some o→
  if c.testBit (i+k)=true then WL P b (ancAll b []) Q c V d a (i+k) o else Ss P b (ancAll b []) Q c V d a (i+k) o
 |[],_,_,_,_,h=>by simp at h
 |o'::l,i,0,o,hs,h=>by simp only[List.getElem?_cons_zero,BU]at h;subst h;exact hs.1
 |o'::l,i,k+1,o,hs,h=>by
  simp only[List.getElem?_cons_succ]at h;have:=Gk.at l (i+1) k o hs.2 h
  rwa [show i+1+k=i+(k+1) by omega]at this
theorem mY_upd {a:List Oper}{c k i:Nat}{l:Nat→Bool}{x:Nat→Value}(e:Down a l)(f:l k=true)(b:l i=false)(v:Value):mY ((ancAll a []).getD k 0) c k (upd x i v)=mY ((ancAll a []).getD k 0) c k x:=by
 funext j
 unfold mY;by_cases d:j=i
 ·subst d
  by_cases h:(c.testBit j&&((ancAll a []).getD k 0).testBit j)=true
  ·rw[Ar]at h
   rw[J8 e h.2 f]at b;cases b
  ·rw[Aw h,Aw h]
 ·rw[Bs _ _ _ _ d]
theorem VL {b:List Oper}{c k i:Nat}{V:List ((Nat→Value)→Value)}{l:Nat→Bool}{x:Nat→Value}(e:Down b l)(d:l k=true)(a:l i=false)(v:Value):mV c V (ancAll b []) (upd x i v) k=mV c V (ancAll b []) x k:=by
 have f:k≠i:=by rintro rfl;rw[d]at a;cases a
 unfold mV;rw[Bs _ _ _ _ f,mY_upd e d a]
theorem Down.upd {g:List Oper}{l:Nat→Bool}(h:Down g l)(m:C7 g 0=true){k:Nat}{o:Oper}(s:g[k]?=some o)(f:BD l o.after.toList):Down g (upd l k true):=by
 intro j t d r e a p;by_cases q:j=k
 ·subst q
  rw[s]at d;injection d with d;subst d
  have:∀es:List Edge,BD l es→∀e∈es,Region.binds .any e=true→l e.on=true:=by
   intro es
   induction es with
   |nil=>intro _ e a;cases a
   |cons e' es ih=>
    intro f e a m;rcases Ac.1 a with rfl|a
    ·exact f.1 m
    ·exact ih f.2 e a m
  have i:=this _ f e (by simpa using a) p;by_cases b:e.on=j
  ·rw[b,Bh]
  ·rw[Bs _ _ _ _ b];exact i
 ·rw[Bs _ _ _ _ q]at r
  have i:=h j t d r e a p;by_cases b:e.on=k
  ·rw[b,Bh]
  ·rw[Bs _ _ _ _ b];exact i
theorem Mix.step {d:List Oper}{c:Nat}{V:List ((Nat→Value)→Value)}{L:(Nat→Bool)→(Nat→Value)→World→Prop}{a:Act}(t:C7 d 0=true)(hs:Gk P d (ancAll d []) Q c V L a 0 d){k:Nat}{o:Oper}(B:d[k]?=some o):
  Sn P d Q (Mix d c V L a) a k o:=by
 intro l x w g r u K N;have Z:k<d.length:=(Ai.1 B).1
 have S:=LO g o.after.toList u (fun e m G=>by have:=FO d 0 k o t B e (by simpa using m) G;omega)
 have ab:∀e∈o.after,Region.binds .any e=true→l e.on=true:=by
  intro e m G
  have:∀es:List Edge,BD l es→∀e∈es,Region.binds .any e=true→l e.on=true:=by
   intro es
   induction es with
   |nil=>intro _ e m;cases m
   |cons e' es ih=>
    intro u e m t;rcases Ac.1 m with rfl|m
    ·exact u.1 t
    ·exact ih u.2 e m t
  exact this _ u e (by simpa using m) G
 have F:=g.down.upd t B u
 have R:∀i,(c.testBit i&&((ancAll d []).getD k 0).testBit i)=true→mL c l i=true:=by
  intro i f;rw[Ar]at f;have M:=J8 F f.2 (Bh _ _ _)
  have aa:i≠k:=by have:=anc_lt t f.2 Z;omega
  rw[Bs _ _ _ _ aa]at M;unfold mL;rw[f.1,M];rfl
 have O:∀i,mL c l i=true→mX c l x i=x i:=fun i f=>by unfold mX;unfold mL at f;rw[Ay f]
 have y:=Gk.at d 0 k o hs B;rw[AP]at y
 have X:∀i,((ancAll d []).getD i 0).testBit k=true→x i=ownVals d a i:=fun i f=>g.own i (by
  cases h:l i with
  |false=>rfl
  |true=>rw[J8 g.down f h]at r;cases r)
 have U:∀i,((ancAll d []).getD i 0).testBit k=true→mL c l i=false:=fun i f=>by
  unfold mL
  cases h:l i with
  |false=>rw[Bool.and_false]
  |true=>rw[J8 g.down f h]at r;cases r
 have W:∀v i,upd l k true i=false→upd x k v i=ownVals d a i:=fun v i f=>by
  by_cases b:i=k
  ·subst b;rw[Bh]at f;cases f
  ·rw[Bs _ _ _ _ b]at f⊢
   exact g.own i f
 cases p:c.testBit k with
 |false=>
  rw[Aw (by rw[p];decide)]at y;refine y (mL c l) (mX c l x) x w g.st O R S X U _ rfl K (fun v Y C hv H J=>H▸N v C ⟨F,W v,fun j I q s=> ?_, ?_⟩)
  ·by_cases z:j=k
   ·subst z
    rw[Bh];unfold mV;rw[Aw (by rw[q];decide)]
    have:mY ((ancAll d []).getD j 0) c j (upd x j v)=mY ((ancAll d []).getD j 0) c j x:=by
     funext i
     unfold mY;by_cases T:i=j
     ·subst T;rw[q];rfl
     ·rw[Bs _ _ _ _ T]
    rw[this];exact hv
   ·rw[Bs _ _ _ _ z]at s⊢
    rw[VL g.down s r];exact g.val j I q s
  ·have D:mL c (upd l k true)=mL c l:=by
    funext i
    unfold mL;by_cases b:i=k
    ·subst b;rw[p];rfl
    ·rw[Bs _ _ _ _ b]
   have E:mX c (upd l k true) (upd x k v)=mX c l x:=by
    funext i
    unfold mX;by_cases b:i=k
    ·subst b;rw[p];rfl
    ·rw[Bs _ _ _ _ b,Bs _ _ _ _ b]
   rw[D,E];exact J
 |true=>
  rw[Ay p]at y;refine y (mL c l) (mX c l x) x w g.st (by unfold mL;rw[r,Bool.and_false]) O R S X U _ rfl K (fun v Y C H J=>H▸N v C ⟨F,W v,fun j I q s=> ?_, ?_⟩)
  ·have z:j≠k:=by rintro rfl;rw[p]at q;cases q
   rw[Bs _ _ _ _ z]at s⊢;rw[VL g.down s r];exact g.val j I q s
  ·have D:mL c (upd l k true)=upd (mL c l) k true:=by
    funext i
    unfold mL;by_cases b:i=k
    ·subst b;rw[p,Bh,Bh];rfl
    ·rw[Bs _ _ _ _ b,Bs _ _ _ _ b]
   have E:mX c (upd l k true) (upd x k v)=upd (mX c l x) k v:=by
    funext i
    unfold mX;by_cases b:i=k
    ·subst b;rw[p,Bh,Bh,Bh];rfl
    ·rw[Bs _ _ _ _ b,Bs _ _ _ _ b,Bs _ _ _ _ b]
   rw[D,E];exact J
theorem Mix.steps {b:List Oper}{c:Nat}{V:List ((Nat→Value)→Value)}{d:(Nat→Bool)→(Nat→Value)→World→Prop}{a:Act}(e:C7 b 0=true)(f:Gk P b (ancAll b []) Q c V d a 0 b):∀(l:List Oper) (i:Nat),(∀k o,l[k]?=some o→b[i+k]?=some o)→IU P b Q (Mix b c V d a) a i l
 |[],i,_=>trivial
 |o::l,i,h=>⟨Mix.step e f (by simpa using h 0 o (by simp)),Mix.steps e f l (i+1) (fun k j g=>by have:=h (k+1) j (by simpa using g);rwa [show i+1+k=i+(k+1) by omega])⟩
def FK (c:Nat)(V:List ((Nat→Value)→Value))(A:List Nat)(X:Nat→Value)(k:Nat):Value:=if c.testBit k=true then X k else(V.getD k (fun _=>undef)) (fun i=>if(c.testBit i&&(A.getD k 0).testBit i)=true then X i else undef)
theorem Ln (b:List Oper):∀(i:Nat) (x y:Nat→Value) (a:Act),(∀k,k<b.length→x (i+k)=y (i+k))→Al b i x a=Al b i y a:=by
 induction b with
 |nil=>intro i x y a _;rfl
 |cons o b ih=>intro i x y a h;simp only[Al];rw[show x i=y i from h 0 (by simp)];exact ih _ _ _ _ (fun k d=>by have:=h (k+1) (by simp;omega);rwa [show i+(k+1)=i+1+k by omega]at this)
theorem Bq {b:List Oper}{A:List Nat}{id:Nat}{a:Act}{w:World}(c:Nat)(V:List ((Nat→Value)→Value))(g:(Nat→Bool)→(Nat→Value)→World→Prop)(y:P.follows .mixedOrders=true)(t:E7 b=true)(p:C7 b 0=true)(s:ancAll b []=A)
  (r:∀X,g (fun _=>false) X w.drew) (z:Gk P b A Q c V g a 0 b)
  (u:∀L X m,g L X m→(∀i,i<b.length→c.testBit i=true→L i=true)→Q .normal (Al b 0 (FK c V A X) a) m):
  (Code.region id b.toArray true).wp P Q a w:=by
 subst s;refine E9 (Mix b c V g a) y t p (⟨(fun k o B d=>by cases d),(fun k f=>rfl),(fun k f e d=>by cases d), ?_⟩) (Mix.steps p z b 0 (fun k o h=>by simpa using h)) b.length rfl (fun l x m j d=> ?_)
 ·have q:mL c (fun _=>false)=fun _=>false:=by funext i;unfold mL;rw[Bool.and_false]
  rw[q];exact r _
 ·have:=u _ _ _ j.st (fun i v e=>by unfold mL;rw[e,d i v];rfl)
  rw[Ln b 0 _ x a (fun k f=> ?_)]at this
  ·exact this
  ·rw[AP]
   unfold FK
   cases e:c.testBit k with
   |true=>rw[Ay rfl];unfold mX;rw[e,d k f];rfl
   |false=>
    rw[Aw (by decide),j.val k f e (d k f)];unfold mV;rw[Aw (by rw[e];decide)];refine A3 _ (funext fun i=> ?_);unfold mY mX;by_cases h:(c.testBit i&&((ancAll b []).getD k 0).testBit i)=true
    ·rw[Ay h,Ay h]
     rw[Ar]at h;rw[h.1,J8 j.down h.2 (d k f)];rfl
    ·rw[Aw h,Aw h]
theorem wM {b:List Oper}{A:List Nat}{id:Nat}{a:Act}{w:World}(c:Nat)(V:List ((Nat→Value)→Value))(d:(Nat→Bool)→(Nat→Value)→World→Prop)
  (f:∀X,d (fun _=>false) X w.drew) (m:Gk P b A Q c V d a 0 b)
  (k:∀L X e,d L X e→(∀i,i<b.length→c.testBit i=true→L i=true)→Q .normal (Al b 0 (FK c V A X) a) e) (l:P.follows .mixedOrders=true:=by kernel_rfl) (j:E7 b=true:=by kernel_rfl) (h:C7 b 0=true:=by kernel_rfl) (g:ancAll b []=A:=by kernel_rfl):
  (Code.region id b.toArray true).wp P Q a w:=Bq c V d l j h g f m k
end
section
variable {α:Type} {enc:α→List Value} {k:Nat}
def rows (enc:α→List Value)(L:List α):List Value:=(L.map enc).flatten
theorem E2 (y:α)(L:List α):rows enc (y::L)=enc y++rows enc L:=by simp[rows]
theorem Ij (L M:List α):rows enc (L++M)=rows enc L++rows enc M:=by simp[rows]
theorem I8 (L:List α)(y:α):rows enc (L++[y])=rows enc L++enc y:=by simp[rows]
theorem Eo (a:∀x,(enc x).length =k)(L:List α):(rows enc L).length =L.length*k:=by
 induction L with
 |nil=>simp[rows]
 |cons y L ih=>rw[E2,Aj,ih,a,List.length_cons,Dv,Nat.one_mul,Nat.add_comm]
theorem ON (b:∀x,∀v∈enc x,v.oneCell'=true)(L:List α):∀u∈rows enc L,u.oneCell'=true:=by intro u a;obtain⟨c,d,a⟩:=DY.1 a;obtain⟨y,f,rfl⟩:=AI.1 d;exact b y u a
theorem I9 (a:∀x,(enc x).length =k):∀(L:List α) (i:Nat) (y:α) (j:Nat),L[i]?=some y→j<k→(rows enc L)[i*k+j]?=(enc y)[j]?
 |[],i,y,j,h,_=>by simp at h
 |x::L,0,y,j,h,hj=>by simp at h;subst h;rw[E2,Nat.zero_mul,AP,AK (by rw[a];exact hj)]
 |x::L,i+1,y,j,h,hj=>by rw[E2,show(i+1)*k+j=(enc x).length +(i*k+j) by rw[a,Dv,Nat.one_mul];omega,AC (by omega)];rw[show(enc x).length +(i*k+j)-(enc x).length =i*k+j by omega];exact I9 a L i y j (by simpa using h) hj
theorem JI (a:∀x,(enc x).length =k):∀(L:List α) (i:Nat),(rows enc L).take (i*k)=rows enc (L.take i)
 |[],i=>by simp[rows]
 |x::L,0=>by simp[rows]
 |x::L,i+1=>by rw[E2,show(i+1)*k=(enc x).length +i*k by rw[a,Dv,Nat.one_mul];omega,List.take_length_add_append,JI a L i,List.take_succ_cons,E2]
theorem JK (a:∀x,(enc x).length =k):∀(L:List α) (i:Nat),(rows enc L).drop (i*k)=rows enc (L.drop i)
 |[],i=>by simp[rows]
 |x::L,0=>by simp
 |x::L,i+1=>by rw[E2,show(i+1)*k=(enc x).length +i*k by rw[a,Dv,Nat.one_mul];omega,List.drop_length_add_append,JK a L i,BB]
theorem QW (a:∀x,(enc x).length =k)(L:List α)(i:Nat):(rows enc L).take (i*k)++(rows enc L).drop ((i+1)*k)=rows enc (L.eraseIdx i):=by rw[List.eraseIdx_eq_take_drop_succ,JI a,JK a,Ij]
theorem Vn (a:∀x,(enc x).length =k)(L:List α)(i:Nat)(y:α)(b:i<L.length):BQ (rows enc L) (i*k) (enc y)=rows enc (L.set i y):=by unfold BQ;rw[a,show i*k+k=(i+1)*k by rw[Dv,Nat.one_mul],JI a,JK a,CF,Ay b,Ij,E2]
theorem V4 (A B C a:List Value)(j:Nat)(h:j+a.length≤B.length):BQ (A++(B++C)) (A.length+j) a=A++(BQ B j a++C):=by unfold BQ;rw[List.take_length_add_append,BE (by omega),show A.length+j+a.length=A.length+(j+a.length) by omega,List.drop_length_add_append,C3 h];simp
theorem MC (a:List Value)(o:Nat)(u:Value)(h:o<a.length):a.set o u=BQ a o [u]:=by rw[CF,Ay h];rfl
theorem JJ (b:∀x,(enc x).length =k)(L:List α)(i:Nat)(h:i<L.length)(d f:α)(c a:List Value)(j:Nat)(l:j+a.length≤k)(g:enc f=BQ (enc d) j a):BQ (rows enc (L.set i d)++c) (i*k+j) a=rows enc (L.set i f)++c:=by
 have e:∀y,rows enc (L.set i y)=rows enc (L.take i)++(enc y++rows enc (L.drop (i+1))):=fun y=>by rw[CF,Ay h,Ij,E2]
 have m:(rows enc (L.take i)).length =i*k:=by rw[Eo b,Az,BZ (by omega)]
 rw[e,e,Ax,Ax,←m,V4 _ _ _ _ _ (by rw[b];exact l),g];simp
variable {w:World} {base n:Nat} {T:TypeId} {v:Value}
theorem C5 {xs:List Value}(h:w.ownsRow base T k v n xs):∀b,v.ownBlock=some b→Ty w b T:=by
 intro b a;rcases h.2 with⟨rfl,f⟩|⟨g,cap,d,rfl,_,c,_⟩
 ·cases a
 ·cases a;exact⟨_,_,c⟩
theorem Keep.ownsRow {w a:World}{xs:List Value}{S:List Nat}(h:w.ownsRow base T k v n xs)(m:Keep S w a)(d:∀b,v.ownBlock=some b→b∉S):a.ownsRow base T k v n xs:=by
 have j:=B3 h;refine⟨h.1, ?_⟩;rcases h.2 with⟨rfl,l⟩|⟨g,cap,c,rfl,f,i,r⟩
 ·exact .inl ⟨rfl,l⟩
 ·exact .inr ⟨g,cap,c,rfl,f,by rw[m.block g (j g rfl).2 (d g rfl)];exact i,r⟩
def Do:=@Keep.ownsRow
theorem Cq {L:List α}(c:∀x,(enc x).length =k)(h:w.ownsRow base T k v L.length (rows enc L)){i:Nat}{y:α}(f:L[i]?=some y):
  ∃g cap,v=.slice (some ⟨g,0,none⟩) L.length cap∧base≤g∧g<w.heap.size∧w.rangeAt g (i*k) (enc y)∧(∀j,w.frozen? ⟨g,j,none⟩=false)∧Ty w g T:=by
 have u:=(Ai.1 f).1;have o:=B3 h;rcases h.2 with⟨rfl,z⟩|⟨g,cap,q,rfl,l,b,A,r,s,p⟩
 ·omega
 ·refine⟨g,cap,rfl,l,(o g rfl).2,fun j x d=> ?_,fun j=>by simp[World.frozen?,b],⟨_,_,b⟩⟩
  have m:j<k:=by have:=(Ai.1 d).1;rw[c]at this;exact this
  have a:=I9 c L i y j f m;rw[d,←p,BP]at a
  split at a
  ·simp only[World.cell?,b]
   rw[←CV];exact a
  ·cases a
theorem E4 {xs:List Value}(h:w.ownsRow base T k v n xs)(o:0<n):∃g cap spare,v=.slice (some ⟨g,0,none⟩) n cap∧n≤cap∧base≤g∧Blk w g (xs++spare) T∧cap*k=xs.length+spare.length∧cap≤maxLen:=by
 rcases h.2 with⟨rfl,m⟩|⟨g,cap,a,rfl,b,f,i,c,d,j⟩
 ·omega
 ·have l:=h.1
  have e:xs++a.toList.drop (n*k)=a.toList:=by
   conv=>rhs;rw[←BX (n*k) a.toList]
   rw[j]
  refine⟨g,cap,a.toList.drop (n*k),rfl,i,b, ?_, ?_,c⟩
  ·unfold Blk
   rw[e];exact f
  ·have:=A3 List.length e
   rw[Aj]at this;rw[this];simpa using d.symm
theorem Blk.ownsRow {xs spare:List Value}{g cap:Nat}(h:Blk w g (xs++spare) T)(a:xs.length=n*k)(f:n≤cap)(c:cap*k=xs.length+spare.length)(d:cap≤maxLen)(b:base≤g):w.ownsRow base T k (.slice (some ⟨g,0,none⟩) n cap) n xs:=
 ⟨a,.inr ⟨g,cap,_,rfl,b,h,f,d,by simp[c],by rw[←a];simp⟩⟩
def Yy:=@Blk.ownsRow
variable {P:Program} {t e:TypeId}
theorem KI (g:P.underlying t=some (.slice e))(w:World)(b:Nat)(a:List Value)(f:a.length=k)(h:Blk w b a T)(d:∀v∈a,v.oneCell'=true):Src P k t (.slice (some ⟨b,0,none⟩) 1 1) 1 a w:=by refine CC _ g ⟨b,0,none⟩ 1 1 a (by rw[f,Nat.one_mul]) ?_ d;intro j x i;rw[show(⟨b,0,none⟩:Addr).add j=⟨b,j,none⟩ by by_cases c:j=0<;>simp[Addr.add,c],h.cell];exact i
theorem Ny {w:World}{j:Array Oper}{o:Oper}{a:Act}{K:Act→World→Prop}{Q:Exit→Act→World→Prop}{F:Prop}(c:o.guard=none)(x:Operand)(d:o.op=.buildSlice t 1 #[(0,x)])(b:List Value)(g:a.eval x=.agg b.toArray)
  (f:∀W:World,(Instr.buildSlice t 1 #[(0,.agg b.toArray)]).run P W=.ok (.slice (some ⟨W.heap.size,0,none⟩) 1 1) (W.alloc (.cells b.toArray T)))
  (h:K (a.put o.dst (.slice (some ⟨w.heap.size,0,none⟩) 1 1)) (w.alloc (.cells b.toArray T))):if Region.wanted o (yielded j a.tmps)=true then Oper.wp P o a w K Q else F:=by
 rw[Ay (by simp[Region.wanted,c])];unfold Oper.wp execOp;have e:(#[(0,x)]:Array (Nat×Operand)).map (fun(i,x)=>(i,a.eval x))=#[(0,.agg b.toArray)]:=by simp[g]
 simp only[d,e,Db,f,Result.andThen_ok];exact h
theorem DM {i:Array Oper}{rest:List Oper}{op:Oper}{a:Act}{w:World}{Q:Exit→Act→World→Prop}(l:op.guard=none)(ty:TypeId)(x y:Operand)(p:op.op=.store ty x y)
  (b o:Nat) (c cells:List Value) (q:a.eval x=pr b o) (r:a.eval y=.agg cells.toArray) (f:Blk w b c T) (g:o+cells.length≤c.length) (m:(P.info? ty).map (·.size)=some cells.length) (j:∀v∈cells,v.oneCell'=true)
  (h:∀d,Blk d b (BQ c o cells) T→Keep [b] w d→wpList P i Q rest (a.put op.dst undef) d):wpList P i Q (op::rest) a w:=
 wpList_store_mid l ty x y p b o cells.toArray q r (f.there o _ (by simpa using g)) (by simpa using m) (Fe j) (h _ (f.setCells cells o w _ g) (E6 _ _ _ _ (By _ _) (.inl (by simp))))
theorem Wf (w:World)(T:TypeId)(k:Nat):(w.alloc (.cells #[] T)).ownsRow w.heap.size T k (.slice (some ⟨w.heap.size,0,none⟩) 0 0) 0 []:=⟨by simp,.inr ⟨w.heap.size,0,#[],rfl,Av _,BY w [] T,by simp,by unfold maxLen;omega,by simp,by simp⟩⟩
end
structure As where
 P:List Nat→World→Prop
 keep:∀ {F S:List Nat} {w w':World},P F w→Keep S w w'→(∀q∈S,q∉F)→P F w'
 lt:∀ {F:List Nat} {w:World},P F w→∀q∈F,q<w.heap.size
def J9:List As→List Nat→World→Prop
 |[],F,_=>F=[]
 |A::l,F,w=>∃a c,F=a++c∧A.P a w∧J9 l c w∧∀q∈a,q∉c
theorem J9.keep:∀ {l:List As} {F S:List Nat} {w w':World},J9 l F w→Keep S w w'→(∀q∈S,q∉F)→J9 l F w'
 |[],_,_,_,_,h,_,_=>h
 |A::l,_,S,w,w',⟨F1,F2,rfl,h1,h2,hd⟩,k,hS=>⟨F1,F2,rfl,A.keep h1 k (fun q c a=>hS q c (A2 _ a)),J9.keep h2 k (fun q c a=>hS q c (AQ _ a)),hd⟩
theorem J9.lt:∀ {l:List As} {F:List Nat} {w:World},J9 l F w→∀q∈F,q<w.heap.size
 |[],_,_,h,q,a=>by have c:_=[]:=h;rw[c]at a;cases a
 |A::l,_,w,⟨F1,F2,rfl,h1,h2,hd⟩,q,a=>by
  rcases Ag.1 a with a|a
  ·exact A.lt h1 q a
  ·exact J9.lt h2 q a
theorem J9.app:∀ {l m:List As} {F G:List Nat} {w:World},J9 l F w→J9 m G w→(∀q∈F,q∉G)→J9 (l++m) (F++G) w
 |[],m,F,G,w,h,hm,hd=>by have c:F=[]:=h;subst c;exact hm
 |A::l,m,_,G,w,⟨F1,F2,rfl,h1,h2,hd⟩,hm,hG=>
  ⟨F1,F2++G,by rw[Ax],h1,J9.app h2 hm (fun q a=>hG q (AQ _ a)),fun q a d=>by
   rcases Ag.1 d with h|h
   ·exact hd q a h
   ·exact hG q (A2 _ a) h⟩
theorem J9.split:∀ {l m:List As} {F:List Nat} {w:World},J9 (l++m) F w→∃a c,F=a++c∧J9 l a w∧J9 m c w∧∀q∈a,q∉c
 |[],m,F,w,h=>⟨[],F,rfl,rfl,h,by simp⟩
 |A::l,m,_,w,⟨a,c,rfl,h1,h2,hd⟩=>by
  obtain⟨e,g,rfl,j,k,i⟩:=J9.split h2;refine⟨a++e,g,by rw[Ax],⟨a,e,rfl,h1,j,fun q d n=>hd q d (A2 _ n)⟩,k,fun q d f=> ?_⟩;rcases Ag.1 d with h|h
  ·exact hd q h (AQ _ f)
  ·exact i q h f
theorem J9.perm {l m:List As}(p:l.Perm m):∀ {F:List Nat} {w:World},J9 l F w→∃G,J9 m G w∧∀q,q∈G↔q∈F:=by
 induction p with
 |nil=>exact fun h=>⟨_,h,fun _=>Iff.rfl⟩
 |cons A p ih=>rintro F w ⟨c,e,rfl,g,i,d⟩;obtain⟨G,j,a⟩:=ih i;exact⟨c++G,⟨c,G,rfl,g,j,fun q h n=>d q h ((a q).1 n)⟩,fun q=>by rw[Ag,Ag,a q]⟩
 |swap A B l=>
  rintro F w ⟨c,_,rfl,g,⟨e,f,rfl,i,o,s⟩,d⟩;refine⟨e++(c++f),⟨e,c++f,rfl,i,⟨c,f,rfl,g,o,fun q a h=>d q a (AQ _ h)⟩,fun q a h=> ?_⟩,fun q=> ?_⟩
  ·rcases Ag.1 h with h|h
   ·exact d q h (A2 _ a)
   ·exact s q a h
  ·simp only[Ag]
   constructor
   ·rintro(h|h|h)
    ·exact .inr (.inl h)
    ·exact .inl h
    ·exact .inr (.inr h)
   ·rintro(h|h|h)
    ·exact .inr (.inl h)
    ·exact .inl h
    ·exact .inr (.inr h)
 |trans _ _ ih1 ih2=>intro F w h;obtain⟨G,j,a⟩:=ih1 h;obtain⟨k,r,t⟩:=ih2 j;exact⟨k,r,fun q=>(t q).trans (a q)⟩
def Sp (l:List As)(w:World):Prop:=∃F,J9 l F w
section
variable {A B:As} {l m R:List As} {w w':World}
theorem Sp.perm (h:Sp l w)(p:l.Perm m):Sp m w:=by obtain⟨F,hF⟩:=h;obtain⟨G,a,_⟩:=J9.perm p hF;exact⟨G,a⟩
theorem Sp.still (h:Sp l w)(k:Keep [] w w'):Sp l w':=by obtain⟨F,hF⟩:=h;exact⟨F,hF.keep k (by simp)⟩
theorem Sp.drew (h:Sp l w):Sp l w.drew:=h.still (By _ _).drew
theorem Sp.step (h:Sp (A::R) w):∃F,A.P F w∧∀(l:List As) (w':World) (G:List Nat),J9 l G w'→Keep F w w'→(∀q∈G,q∈F∨w.heap.size≤q)→Sp (l++R) w':=by
 obtain⟨_,e,f,rfl,g,c,d⟩:=h;refine⟨e,g,fun l w' G j k i=>⟨G++f,J9.app j (c.keep k d) (fun q n h=> ?_)⟩⟩;rcases i q n with a|a
 ·exact d q a h
 ·have:=c.lt q h;omega
theorem Sp.one (h:Sp (A::R) w):∃F,A.P F w∧∀(B:As) (w':World) (G:List Nat),B.P G w'→Keep F w w'→(∀q∈G,q∈F∨w.heap.size≤q)→Sp (B::R) w':=by obtain⟨F,hF,d⟩:=h.step;exact⟨F,hF,fun B w' G a k c=>d [B] w' G ⟨G,[],(AE _).symm,a,rfl,by simp⟩ k c⟩
theorem Sp.two (h:Sp (A::B::R) w):∃a c,A.P a w∧B.P c w∧(∀q∈a,q∉c)∧∀(l:List As) (w':World) (G:List Nat),J9 l G w'→Keep (a++c) w w'→(∀q∈G,q∈a++c∨w.heap.size≤q)→Sp (l++R) w':=by
 obtain⟨_,a,_,rfl,n,⟨c,f,rfl,o,g,r⟩,i⟩:=h;refine⟨a,c,n,o,fun q e h=>i q e (A2 _ h),fun l w' G s k p=> ?_⟩
 have j:∀q∈a++c,q∉f:=fun q e h=>by
  rcases Ag.1 e with d|d
  ·exact i q d (AQ _ h)
  ·exact r q d h
 refine⟨G++f,J9.app s (g.keep k j) (fun q e h=> ?_)⟩;rcases p q e with d|d
 ·exact j q d h
 ·have:=g.lt q h;omega
theorem Sp.new (h:Sp R w)(k:Keep [] w w'){G:List Nat}(c:J9 l G w')(a:∀q∈G,w.heap.size≤q):Sp (l++R) w':=by obtain⟨F,hF⟩:=h;exact⟨G++F,J9.app c (hF.keep k (by simp)) (fun q d h=>by have e:=hF.lt q h;have f:=a q d;omega)⟩
theorem Sp.new1 (h:Sp R w)(k:Keep [] w w'){G:List Nat}(a:B.P G w')(c:∀q∈G,w.heap.size≤q):Sp (B::R) w':=
 h.new (l:=[B]) (G:=G) k ⟨G,[],(AE _).symm,a,rfl,by simp⟩ c
theorem Sp.drop (h:Sp (A::R) w):Sp R w:=by obtain⟨_,d,a,rfl,e,c,f⟩:=h;exact⟨a,c⟩
theorem Sp.dropL (h:Sp (l++R) w):Sp R w:=by obtain⟨F,hF⟩:=h;obtain⟨d,a,rfl,e,c,f⟩:=J9.split hF;exact⟨a,c⟩
theorem Sp.weak (h:Sp (A::R) w)(g:∀F,A.P F w→B.P F w):Sp (B::R) w:=by obtain⟨_,a,c,rfl,d,e,f⟩:=h;exact⟨_,a,c,rfl,g _ d,e,f⟩
end
def pull:Nat→List As→List As
 |n+1,a::l=>match pull n l with
  |b::l'=>b::a::l'
  |[]=>[a]
 |_,l=>l
def push:Nat→List As→List As
 |n+1,a::b::l=>b::push n (a::l)
 |_,l=>l
theorem MJ:∀(n:Nat) (l:List As),(pull n l).Perm l
 |0,l=>by cases l<;>exact Df _
 |n+1,[]=>Df _
 |n+1,a::l=>by
  have c:=MJ n l;unfold pull
  split
  ·rename_i b l' he
   rw[he]at c;exact(List.Perm.swap a b l').trans (List.Perm.cons a c)
  ·rename_i he
   rw[he]at c;exact List.Perm.cons a c
theorem MI:∀(n:Nat) (l:List As),(push n l).Perm l
 |0,l=>by cases l<;>exact Df _
 |n+1,[]=>Df _
 |n+1,[a]=>Df _
 |n+1,a::b::l=>by unfold push;exact(List.Perm.cons b (MI n (a::l))).trans (List.Perm.swap a b l)
theorem Sp.pull {l:List As}{w:World}(h:Sp l w)(n:Nat):Sp (pull n l) w:=h.perm (MJ n l).symm
theorem Sp.push {l:List As}{w:World}(h:Sp l w)(n:Nat):Sp (push n l) w:=h.perm (MI n l).symm
def ED (l:List As):As:=⟨J9 l,J9.keep,J9.lt⟩
def As.ex {α:Sort _}(f:α→As):As:=⟨fun F w=>∃a,(f a).P F w,fun⟨a,h⟩ k c=>⟨a,(f a).keep h k c⟩,fun⟨a,h⟩=>(f a).lt h⟩
def As.and (p:Prop)(A:As):As:=⟨fun F w=>p∧A.P F w,fun⟨c,h⟩ k a=>⟨c,A.keep h k a⟩,fun⟨_,h⟩=>A.lt h⟩
section
variable {R l:List As} {w w':World}
theorem Sp.open_ (h:Sp (ED l::R) w):Sp (l++R) w:=by obtain⟨_,e,f,rfl,a,c,d⟩:=h;exact⟨_,J9.app a c d⟩
theorem Sp.close (l:List As)(h:Sp (l++R) w):Sp (ED l::R) w:=by obtain⟨F,hF⟩:=h;obtain⟨a,c,rfl,d,e,f⟩:=J9.split hF;exact⟨_,a,c,rfl,d,e,f⟩
def DV:=@Sp.close
theorem Sp.exE {α:Sort _}{f:α→As}(h:Sp (As.ex f::R) w):∃a,Sp (f a::R) w:=by obtain⟨_,c,d,rfl,⟨a,e⟩,g,i⟩:=h;exact⟨a,_,c,d,rfl,e,g,i⟩
theorem Sp.exI {α:Sort _}{f:α→As}(a:α)(h:Sp (f a::R) w):Sp (As.ex f::R) w:=by obtain⟨_,c,d,rfl,e,g,i⟩:=h;exact⟨_,c,d,rfl,⟨a,e⟩,g,i⟩
theorem Sp.andE {p:Prop}{A:As}(h:Sp (As.and p A::R) w):p∧Sp (A::R) w:=by obtain⟨_,a,c,rfl,⟨g,d⟩,e,f⟩:=h;exact⟨g,_,a,c,rfl,d,e,f⟩
theorem Sp.andI {p:Prop}{A:As}(g:p)(h:Sp (A::R) w):Sp (As.and p A::R) w:=by obtain⟨_,a,c,rfl,d,e,f⟩:=h;exact⟨_,a,c,rfl,⟨g,d⟩,e,f⟩
def AM (b:Nat)(cs:List Value)(T:TypeId):As:=⟨fun F w=>F=[b]∧Blk w b cs T,fun⟨hF,h⟩ k c=>⟨hF,h.keep k (fun d=>c b d (by rw[hF];simp))⟩,fun⟨hF,h⟩ q a=>by rw[hF]at a;simp at a;subst a;exact h.lt⟩
def BF (T:TypeId)(k:Nat)(v:Value)(n:Nat)(xs:List Value):As:=⟨fun F w=>F=v.ownBlock.toList∧w.ownsRow 0 T k v n xs,fun⟨hF,h⟩ f c=>⟨hF,Do h f (fun b d e=>c b e (by rw[hF,d];simp))⟩,fun⟨hF,h⟩ q a=>by rw[hF]at a;exact(B3 h q (by simpa using a)).2⟩
variable {b:Nat} {cs:List Value} {T:TypeId}
theorem Sp.blk (h:Sp (AM b cs T::R) w):Blk w b cs T:=by obtain⟨_,c,d,rfl,⟨_,a⟩,e,f⟩:=h;exact a
theorem Sp.row {k n:Nat}{v:Value}{xs:List Value}(h:Sp (BF T k v n xs::R) w):w.ownsRow 0 T k v n xs:=by obtain⟨_,c,d,rfl,⟨_,a⟩,e,f⟩:=h;exact a
theorem Sp.set (h:Sp (AM b cs T::R) w){a:List Value}(c:Blk w' b a T)(k:Keep [b] w w'):Sp (AM b a T::R) w':=by obtain⟨F,⟨hF,f⟩,e⟩:=h.one;exact e _ _ [b] ⟨rfl,c⟩ (hF▸k) (fun q d=> .inl (by rw[hF];exact d))
theorem Sp.setCell (h:Sp (AM b cs T::R) w)(i:Nat)(v:Value):Sp (AM b (cs.set i v) T::R) (w.setCell ⟨b,i,none⟩ v):=
 h.set (h.blk.set i v) (Or (p:=⟨b,i,none⟩) (By [b] w) (.inl (Ah.2 rfl)) v)
theorem Sp.alloc (h:Sp R w)(cs:List Value)(T:TypeId):Sp (AM w.heap.size cs T::R) (w.alloc (.cells cs.toArray T)):=
 h.new1 (G:=[w.heap.size]) ((By _ _).alloc _) ⟨rfl,BY _ _ _⟩ (by simp)
theorem Sp.nilRow (h:Sp R w)(T:TypeId)(k:Nat):Sp (BF T k (.slice none 0 0) 0 []::R) w:=
 h.new1 (G:=[]) (By _ _) ⟨rfl,AY w 0 T k⟩ (by simp)
theorem Sp.at {A:As}:∀ {l:List As} {w:World},Sp l w→∀n:Nat,l[n]?=some A→∃F,A.P F w
 |[],_,_,n,hn=>by simp at hn
 |B::l,w,⟨_,F1,F2,rfl,h1,h2,hd⟩,0,hn=>by simp at hn;subst hn;exact⟨F1,h1⟩
 |B::l,w,⟨_,F1,F2,rfl,h1,h2,hd⟩,n+1,hn=>Sp.at (l:=l) ⟨F2,h2⟩ n (by simpa using hn)
theorem Sp.pre {l m:List As}{w:World}(h:Sp (l++m) w):Sp l w:=by obtain⟨F,hF⟩:=h;obtain⟨a,d,rfl,c,e,f⟩:=J9.split hF;exact⟨a,c⟩
end
def Kw (is:List Nat)(l:List As):List As:=is.filterMap (fun i=>l[i]?)
theorem QS (l:List As):Kw (List.range l.length) l=l:=by
 unfold Kw
 induction l with
 |nil=>rfl
 |cons a l ih=>rw[List.length_cons,List.range_succ_eq_map,List.filterMap_cons];simp only[List.getElem?_cons_zero,List.filterMap_map,Function.comp_def,List.getElem?_cons_succ];rw[ih]
theorem T3 {is:List Nat}{l:List As}(h:is.isPerm (List.range l.length)=true):(Kw is l).Perm l:=by have:=(List.isPerm_iff.1 h).filterMap (fun i=>l[i]?);have e:=QS l;unfold Kw at*;rw[e]at this;exact this
theorem Vh (is a:List Nat)(l:List As):Kw (is++a) l=Kw is l++Kw a l:=List.filterMap_append
theorem Sp.sel {l R:List As}{w:World}(h:Sp (l++R) w)(is:List Nat)(k:Nat)(a:l.length=k)(c:is.isPerm (List.range k)=true):Sp (Kw is l++R) w:=
 h.perm ((T3 (by rw[a];exact c)).symm.append_right R)
def YH:=@Sp.sel
theorem Sp.focus {l R:List As}{w:World}(h:Sp (l++R) w)(is d:List Nat)(k:Nat)(c:l.length=k)(n:(is++d).isPerm (List.range k)=true):∃F,J9 (Kw is l) F w∧∀(a:List Nat) (m:List As) (w':World) (G:List Nat),J9 m G w'→Keep F w w'→(∀q∈G,q∈F∨w.heap.size≤q)→(m++Kw d l).length =a.length→a.isPerm (List.range a.length)=true→Sp (Kw a (m++Kw d l)++R) w':=by have e:=h.sel _ k c n;rw[Vh,Ax]at e;obtain⟨F,hF,o⟩:=(DV _ e).step;refine⟨F,hF,fun a m w' G j p g i c=> ?_⟩;have f:=o m w' G j p g;rw[←Ax]at f;exact f.sel _ _ i c
def Yq:=@Sp.focus
theorem Ky (a b:Nat)(e:a<256)(f:b<256):bits .and .u8 (a:Int) (b:Int)=((a&&&b:Nat):Int):=by
 have g:a&&&b<2^8:=Nat.and_lt_two_pow _ (by omega)
 have c:(BitVec.ofInt 8 (a:Int)).toNat =a:=by rw[BitVec.ofInt_natCast,Ck];exact AR (by omega)
 have d:(BitVec.ofInt 8 (b:Int)).toNat =b:=by rw[BitVec.ofInt_natCast,Ck];exact AR (by omega)
 show IntKind.u8.wrap ((BitVec.ofInt 8 (a:Int)&&&BitVec.ofInt 8 (b:Int)).toNat :Int)=_;rw[BitVec.toNat_and,c,d,IntKind.wrap_u8];omega
theorem LU (a b:Nat)(e:a<256)(f:b<256):bits .or .u8 (a:Int) (b:Int)=((a|||b:Nat):Int):=by
 have g:a|||b<2^8:=Nat.or_lt_two_pow (by omega) (by omega)
 have c:(BitVec.ofInt 8 (a:Int)).toNat =a:=by rw[BitVec.ofInt_natCast,Ck];exact AR (by omega)
 have d:(BitVec.ofInt 8 (b:Int)).toNat =b:=by rw[BitVec.ofInt_natCast,Ck];exact AR (by omega)
 show IntKind.u8.wrap ((BitVec.ofInt 8 (a:Int)|||BitVec.ofInt 8 (b:Int)).toNat :Int)=_;rw[BitVec.toNat_or,c,d,IntKind.wrap_u8];omega
theorem or128:∀x,x<256→x|||128=x % 128+128:=by decide+kernel
theorem and127 (x:Nat):x&&&127=x % 128:=Nat.and_two_pow_sub_one_eq_mod x 7
theorem or8 (u:Nat):bits .or .u8 (IntKind.u8.wrap (u:Int)) 128=((u % 128+128:Nat):Int):=by
 have e:IntKind.u8.wrap (u:Int)=((u % 256:Nat):Int):=by rw[IntKind.wrap_u8];omega
 rw[e,show(128:Int)=((128:Nat):Int)from rfl,LU _ _ (by omega) (by omega),or128 _ (by omega)];omega
theorem or8m (u:Nat):bits .or .u8 ((u:Int) % 256) 128=((u % 128+128:Nat):Int):=by rw[←or8,IntKind.wrap_u8]
theorem and8 (c:Nat)(h:c<256):bits .and .u8 (c:Int) 127=((c % 128:Nat):Int):=by rw[show(127:Int)=((127:Nat):Int)from rfl,Ky _ _ h (by omega),and127]
theorem Oy (x:Nat)(h:x<18446744073709551616):18446744073709551615^^^x=18446744073709551615-x:=by
 have a:=BitVec.toNat_not (x:=BitVec.ofNat 64 x);have b:(~~~(BitVec.ofNat 64 x))=BitVec.allOnes 64^^^BitVec.ofNat 64 x:=by rw[BitVec.allOnes_xor]
 rw[b,BitVec.toNat_xor,BitVec.toNat_allOnes,Ck,AR h]at a;simpa using a
theorem Pe (u x s:Nat)(h:u<2^s):u|||x*2^s=u+x*2^s:=by rw[Nat.or_comm,Nat.mul_comm,←Nat.two_pow_add_eq_or_of_lt h x];omega
theorem Xo (x:Nat)(h:x<9223372036854775808):bits .xor .i64 (-1) (x:Int)= -(x:Int)-1:=by
 have a:BitVec.ofInt 64 (-1)=BitVec.allOnes 64:=by decide
 have b:(BitVec.ofInt 64 (x:Int)).toNat =x:=by rw[BitVec.ofInt_natCast,Ck];exact AR (by omega)
 show IntKind.i64.wrap ((BitVec.ofInt 64 (-1)^^^BitVec.ofInt 64 (x:Int)).toNat :Int)=_;rw[a,BitVec.toNat_xor,b,BitVec.toNat_allOnes];have c:=Oy x (by omega);have e:(2^64-1:Nat)=18446744073709551615:=rfl;rw[e,c,A9];omega
def SS (v:Value):Option (DataW Value×List MemPlace):=some (.held v,[])
def MV {β:Type}(P:Program)(k:TypeId)(ky:β→Lit)(w:World)(g n:Nat)(f:β→Option Value):Prop:=
 ∃D:DataW Value,w.ownsMap P k SS g n D∧Maps.IsMap D∧∀b:β,Maps.has D (ky b)=(f b).isSome ∧∀x,f b=some x→∀z,D.atKey (ky b) z=.held x
section
variable {P:Program} {k:TypeId} {w w':World} {g n:Nat} {β:Type} {ky:β→Lit} {f:β→Option Value}
theorem MV.made (P:Program)(k:TypeId)(ky:β→Lit)(w:World):MV P k ky (w.alloc (.map #[] 0)) w.heap.size 0 (fun _=>none):=
 ⟨.map [],World.ownsMap_made w _ _ _,Maps.isMap_empty,fun k=>⟨rfl,fun x h=>by cases h⟩⟩
theorem MV.lt (h:MV P k ky w g n f):g<w.heap.size:=by obtain⟨D,h,_⟩:=h;exact h.lt
theorem MV.keep {S:List Nat}(h:MV P k ky w g n f)(i:Keep S w w')(e:g∉S):MV P k ky w' g n f:=by obtain⟨D,⟨b,clock,a,r⟩,c⟩:=h;have d:=(Cd.1 a).1;exact⟨D,⟨b,clock,by rw[i.block g d e];exact a,r⟩,c⟩
theorem MV.ne {b:Nat}{T:TypeId}(h:MV P k ky w g n f)(d:Ty w b T):b≠g:=by obtain⟨D,⟨e,clock,c,_⟩,_⟩:=h;rintro rfl;obtain⟨_,_,a⟩:=d;rw[c]at a;cases a
theorem MV.look {t e:TypeId}(h:MV P k ky w g n f)(K:Maps.Keyed P k)(p:P.underlying t=some (.map k e)){z:Value}(q:(zeroValue e).run P w=.ok z w){key:Value}{kl:β}(m:keyOf P k key=some (ky kl)):
  (Instr.lookup t (.map (some g)) key false).run P w=.ok ((f kl).getD z) w:=by
 obtain⟨D,j,r,l⟩:=h;obtain⟨v,ps,o,b⟩:=j.lookup (t:=t) K p q (show SS z=some (.held z,[])from rfl) m
 have a:DataW.held v=D.atKey (ky kl) (.held z):=by unfold SS at b;simp only[BU,Prod.mk.injEq]at b;exact b.1
 obtain⟨d,i⟩:=l kl;rw[o]
 cases c:f kl with
 |none=>rw[Maps.atKey_of_not_has (by rw[d,c];rfl)]at a;injection a with a;rw[a];rfl
 |some x=>rw[i x c]at a;injection a with a;rw[a];rfl
theorem MV.put [DecidableEq β]{t e:TypeId}(h:MV P k ky w g n f)(K:Maps.Keyed P k)(ht:P.underlying t=some (.map k e)){key:Value}{kl:β}(hk:keyOf P k key=some (ky kl))(hky:∀i j,ky i=ky j→i=j)(x:Value)(hn:n<maxLen):
  ∃w',(Instr.mapUpdate t (.map (some g)) key x).run P w=.ok () w'∧MV P k ky w' g (n+1) (fun j=>if j=kl then some x else f j)∧Keep [g] w w':=by
 obtain⟨D,m,c,d⟩:=h;obtain⟨w',o,p,q⟩:=m.update (t:=t) K ht hn hk (show SS x=some (.held x,[])from rfl);have l:=K.key hk;refine⟨w',o,⟨_,p,c.put _ _,fun j=> ?_⟩,by simpa using DJ q⟩;by_cases b:j=kl
 ·subst b
  simp only[D5];refine⟨Maps.has_put_same c l _,fun y a z=> ?_⟩;injection a with a;subst a;exact Maps.atKey_put_same c l _ _
 ·simp only[Aw b]
  rw[Maps.has_put_other (fun e=>b (hky _ _ e))];exact⟨(d j).1,fun y a z=>by rw[Maps.atKey_put_other (fun e=>b (hky _ _ e))];exact(d j).2 y a z⟩
theorem MV.del [DecidableEq β]{t e:TypeId}(h:MV P k ky w g n f)(K:Maps.Keyed P k)(ht:P.underlying t=some (.map k e)){key:Value}{kl:β}(hk:keyOf P k key=some (ky kl))(hky:∀i j,ky i=ky j→i=j)(ty:TypeId):
  ∃w',(Builtin.delete_ #[t,k] ty #[.map (some g),key]).run P w=.ok (.tuple #[]) w'∧MV P k ky w' g n (fun j=>if j=kl then none else f j)∧Keep [g] w w':=by
 obtain⟨D,d,l,c⟩:=h;obtain⟨w',m,o,p⟩:=d.drop K ht hk ty;refine⟨w',m,⟨_,o,l.del _,fun j=> ?_⟩,by simpa using DJ p.grown⟩;by_cases a:j=kl
 ·subst a
  simp only[D5];exact⟨Maps.has_del_same,fun y b=>by cases b⟩
 ·simp only[Aw a]
  rw[Maps.has_del_other (fun e=>a (hky _ _ e))];exact⟨(c j).1,fun y b z=>by rw[Maps.atKey_del_other (fun e=>a (hky _ _ e))];exact(c j).2 y b z⟩
end
def kyI (a:Int):Lit:= .int .i64 a
def kyS (s:ByteArray):Lit:= .string s.data.toList
theorem SR:∀i j,kyI i=kyI j→i=j:=fun i j h=>by unfold kyI at h;injection h
theorem X5:∀i j,kyS i=kyS j→i=j:=fun i j h=>by unfold kyS at h;injection h with h;exact ByteArray.ext (Array.toList_inj.1 h)
theorem SM {P:Program}{k:TypeId}(a:P.underlying k=some .string)(s:ByteArray)(h:s.size≤1000000):keyOf P k (.string s)=some (kyS s):=WideMaps.keyOf_string_mk a (by unfold maxLen;omega)
theorem VJ {P:Program}{k:TypeId}(b:P.underlying k=some (.int .i64))(a:Int)(h: -9223372036854775808≤a∧a≤9223372036854775807):keyOf P k (.int .i64 a)=some (kyI a):=Maps.keyOf_int_mk b (by simp[Lit.wf,IntKind.min,IntKind.max,IntKind.signed,IntKind.bits];omega)
abbrev Str:=ByteArray
def FZ (k:Str):Nat:=IN (sb k)
def JE:List Nat→List Nat→Bool
 |_,[]=>false
 |[],_::_=>true
 |a::l,b::m=>decide (a<b)||(decide (a=b)&&JE l m)
def UR (a b:Str):Bool:=JE (sb a) (sb b)
abbrev se:Str:=ByteArray.empty
structure Wm where
 kind:Nat
 src:Nat:=0
 dst:Nat:=0
 epoch:Nat:=0
 tick:Nat:=0
 seq:Nat:=0
 n:Nat:=0
 id:Nat:=0
 op:Nat:=0
 key:Str:=se
 err:Nat:=0
 last:Bool:=false
 it:Str×Str×Bool:=(se,se,false)
 its:List (Str×Str):=[]
 mks:List (Nat×Str):=[]
 mem:List Nat:=[]
 base:Nat:=0
 old:List Nat:=[]
deriving DecidableEq
structure Mv where
 frm:Nat
 too:Nat
 src:Nat
 dst:Nat
deriving DecidableEq
def Yb (x:Nat):List Nat→List Nat
 |[]=>[x]
 |y::l=>if x<y then x::y::l else if x=y then y::l else y::Yb x l
def VA:List Nat→List Nat
 |[]=>[]
 |x::l=>Yb x (VA l)
def V1 (a b:List (Nat×Nat)):List Nat→Nat→List Mv→List Mv
 |[],_,acc=>acc
 |too::l,frm,acc=>
  let s:=Eg a too
  let d:=Eg b too
  let c:=if s=d then acc else match acc with
   |m::acc0=>if m.too+1=frm∧m.src=s∧m.dst=d then {m with too:=too}::acc0 else⟨frm,too,s,d⟩::acc
   |[]=>[⟨frm,too,s,d⟩]
  V1 a b l (too+1) c
def V0 (a b:List (Nat×Nat)):List Mv:=(V1 a b (VA (a.map Prod.fst++b.map Prod.fst++[18446744073709551615])) 0 []).reverse
def KT (l:List Mv)(h:Nat):Bool:=l.any (fun m=>decide (m.frm≤h∧h≤m.too))
abbrev Cache:=List (Str×Str)
def GA (k v:Str):Cache→Cache
 |[]=>[(k,v)]
 |(k',v')::l=>if UR k k' then(k,v)::(k',v')::l else if k=k' then(k,v)::l else(k',v')::GA k v l
def cGet (c:Cache)(k:Str):Option Str:=(c.find? (fun p=>decide (p.1=k))).map Prod.snd
def W8 (c:Cache)(a:List Str):Cache:=c.filter (fun p=> !a.contains p.1)
def cNext (c:Cache)(f t:Nat)(after:Str):Option (Str×Str):=c.find? (fun p=>UR after p.1&&decide (f≤FZ p.1∧FZ p.1≤t))
structure Who where
 node:Nat
 id:Nat
 op:Nat
 key:Str
deriving DecidableEq
structure Wt where
 w:Who
 id:Nat
 too:Nat
 whn:Nat
deriving DecidableEq
structure OutS where
 epoch:Nat
 src:Nat
 dst:Nat
 parts:List Mv
 tick:Nat
 count:Nat
 id:Nat
 cur:Wm
 part:Nat
 after:Str
 sent:Bool
 frozen:Bool
 fin:Nat
 known:Nat
structure InS where
 epoch:Nat
 src:Nat
 dst:Nat
 parts:List Mv
 id:Nat
 n:Nat
 known:Nat
 last:Bool
structure Disk where
 boot:Nat:=0
 epoch:Nat:=0
 ready:Nat:=0
 frozen:Bool:=false
 cache:Cache:=[]
 jk:List Str:=[]
 used:Nat:=0
structure Rp where
 id:Nat
 op:Nat
 key:Str
 err:Nat
 val:Str
 has:Bool
deriving DecidableEq
structure Nd where
 id:Nat
 dk:Disk
 lep:Nat:=0
 lend:Nat:=0
 ltop:Nat:=0
 ring:Option (Nat×List Nat):=none
 tlast:Nat:=0
 toks:List (Nat×Str×Bool):=[]
 knows:Bool:=false
 parts:List Mv:=[]
 outs:List (Nat×OutS):=[]
 ins:List (Nat×InS):=[]
 waits:List Wt:=[]
 reads:List (Who×Nat):=[]
 asked:Nat:=0
 msgs:List Wm:=[]
 reps:List Rp:=[]
namespace Nd
def pts (n:Nd):List (Nat×Nat):=match n.ring with|none=>[]|some r=>ptsOf r.2
def own (n:Nd)(k:Str):Nat:=Eg n.pts (FZ k)
def say (n:Nd)(l:List Wm):Nd:={n with msgs:=n.msgs++l.map (fun m=> {m with src:=n.id})}
def tell (n:Nd)(w:Who)(err:Nat)(val:Str)(a:Bool):Nd:=
 if w.node=0 then {n with reps:=n.reps++[⟨w.id,w.op,w.key,err,val,a⟩]}
 else n.say [{kind:=14,dst:=w.node,id:=w.id,err:=err,it:=if w.op=1∧err=0 then(w.key,val, !a)else(se,se,false)}]
def good (n:Nd)(a:Nat):Bool:=decide (0<n.dk.epoch∧n.dk.epoch=n.lep∧a<n.lend)
def serves (n:Nd)(a:Nat)(k:Str):Bool:=
 if n.own k≠n.id∨n.good a=false then false
 else if n.dk.frozen=false then true
 else n.knows&& !KT (n.parts.filter (fun m=>decide (m.src=n.id))) (FZ k)
def recLen (k v:Str):Nat:=k.size+v.size+20
def dropKeys (n:Nd)(a:List Str):Nd:={n with dk:={n.dk with cache:=W8 n.dk.cache a,used:=n.dk.used+(a.map (fun k=>recLen k se)).sum }}
def drops (n:Nd)(f:Str→Bool):Nd:=match(n.dk.cache.map Prod.fst).filter f with
 |[]=>n
 |l=>n.dropKeys l
def strange (n:Nd):Nd:=match n.ring with
 |none=>n
 |some _=>n.drops (fun k=>decide (n.own k≠n.id))
def still (n:Nd):Nd:={n with knows:=false,parts:=[],outs:=[],ins:=[]}
def save (n:Nd)(ep rd:Nat)(a:Bool):Nd:={n with dk:={n.dk with epoch:=ep,ready:=rd,frozen:=a}}
def clear (n:Nd):Nd:={n with toks:=n.toks.map (fun t=>(t.1,t.2.1,false))}
def adopt (n:Nd)(a:Nat)(mem:List Nat):Nd:=
 if a=n.dk.epoch then
  match n.ring with
  |some _=>n
  |none=>
   let b:={n with ring:=some (a,mem)}
   if n.dk.ready=0 then b.strange else b
 else
  let b:=if a=n.dk.ready then n else {n with dk:={n.dk with cache:=[],used:=n.dk.used+9}}
  let d:=(({(b.save a 0 false)with ring:=some (a,mem)}:Nd).strange)
  let c:=({d with lep:=0,lend:=0,ltop:=0}:Nd).clear.still
  let e:=c.waits.foldl (fun n w=>n.tell w.w 6 se false) c
  {e with waits:=[]}
def giveUp (n:Nd):Nd:=((n.save n.dk.epoch 0 false).still).strange
def take (n:Nd)(b a ep:Nat):Nd:=
 if ep<1∨ep<n.ltop∨b<a∨20≤b-a∨(ep=n.lep∧a+20≤n.lend)then n
 else {n with lep:=ep,lend:=a+20,ltop:=ep}
end Nd
namespace OutS
def entriesGo (c:Cache)(parts:List Mv):Nat→Nat→Nat→Str→List (Str×Str)→List (Str×Str)×Nat×Str
 |0,_,part,after,acc=>(acc.reverse,part,after)
 |f+1,n,part,after,acc=>
  if n≤acc.length then(acc.reverse,part,after)
  else match parts[part]? with
   |none=>(acc.reverse,part,after)
   |some p=>match cNext c p.frm p.too after with
    |none=>entriesGo c parts f n (part+1) se acc
    |some x=>entriesGo c parts f n part x.1 (if KT (parts.take part) (FZ x.1)then acc else x::acc)
def entries (o:OutS)(d:Disk)(n:Nat):List (Str×Str)×Nat×Str:=entriesGo d.cache o.parts (d.cache.length+o.parts.length+1) n o.part o.after []
def read (o:OutS)(d:Disk)(n:Nat):OutS:=
 let r:=o.entries d 4
 let a:={o with part:=r.2.1,after:=r.2.2}
 {a with cur:={kind:=5,src:=o.src,dst:=o.dst,epoch:=o.epoch,id:=o.id,tick:=o.tick,n:=n,seq:=d.jk.length,its:=r.1,last:=(a.entries d 1).1.isEmpty }}
def begin (o:OutS)(d:Disk):OutS:=
 let b:={o with count:=o.count+1,id:=d.boot*1048576+(o.count+1),part:=0,after:=se,sent:=false}
 let a:=b.read d 1
 {a with known:=a.cur.seq}
def send (d:Disk)(a src dst:Nat)(parts:List Mv):OutS:=begin ⟨a,src,dst,parts,0,0,0,{kind:=0},0,se,false,false,0,0⟩ d
def done (o:OutS):Bool:=o.sent&&o.frozen&&decide (o.fin≤o.known)
def next (o:OutS)(d:Disk):OutS×List Wm:=
 if o.done then(o,[])
 else if o.sent=false then(o,[o.cur])
 else if o.frozen=false then(o,[])
 else if o.known≤d.jk.length then
  (o,[{kind:=8,src:=o.src,dst:=o.dst,epoch:=o.epoch,id:=o.id,tick:=o.tick,seq:=o.known,mks:=((d.jk.zipIdx.map (fun p=>(p.2+1,p.1))).drop o.known).take 4}])
 else let a:=o.begin d;(a,[a.cur])
def hear (o:OutS)(d:Disk)(m:Wm):OutS×List Wm:=
 if(m.kind≠6∧m.kind≠9)∨m.epoch≠o.epoch∨m.src≠o.dst∨m.dst≠o.src then(o,[])
 else
  let r:OutS×Bool:=
   if m.tick≠o.tick then(({o with tick:=m.tick}:OutS).begin d,true)
   else if m.id≠o.id then(o,false)
   else if m.kind=6 then
    if m.n=0 then(o.begin d,true)
    else if m.n≠o.cur.n∨o.sent=true then(o,false)
    else if o.cur.last then({o with sent:=true},true)
    else(o.read d (m.n+1),true)
   else if o.known<m.seq then({o with known:=m.seq},true)
   else(o,false)
  if r.2 then r.1.next d else(r.1,[])
def freeze (o:OutS)(d:Disk):OutS:={o with frozen:=true,fin:=d.jk.length}
end OutS
namespace InS
def say (x:InS)(a kind id n seq:Nat):List Wm:=[{kind:=kind,src:=x.dst,dst:=x.src,epoch:=x.epoch,id:=id,tick:=a,n:=n,seq:=seq}]
def covers (x:InS)(k:Str):Bool:=KT x.parts (FZ k)
def put (x:InS)(d:Disk)(m:Wm):InS×Disk:=
 ({x with n:=m.n,last:=m.last},m.its.foldl (fun d y=>if x.covers y.1 then {d with cache:=GA y.1 y.2 d.cache,used:=d.used+Nd.recLen y.1 y.2}else d) d)
def hear (x:InS)(d:Disk)(m:Wm):InS×Disk×List Wm:=
 if(m.kind≠5∧m.kind≠8)∨m.epoch≠x.epoch∨m.src≠x.src∨m.dst≠x.dst then(x,d,[])
 else if m.tick≠d.boot then(x,d,x.say d.boot 6 m.id 0 0)
 else if m.kind=5 then
  if m.n=1∧x.id<m.id then
   let b:=(d.cache.map Prod.fst).filter x.covers
   let c:={d with cache:=W8 d.cache b,used:=d.used+(b.map (fun k=>Nd.recLen k se)).sum }
   let r:=({x with id:=m.id,known:=m.seq}:InS).put c m
   (r.1,r.2,r.1.say d.boot 6 m.id r.1.n 0)
  else if m.id=x.id∧m.n=x.n+1 then
   let r:=x.put d m
   (r.1,r.2,r.1.say d.boot 6 m.id r.1.n 0)
  else if m.id=x.id∧1≤m.n∧m.n≤x.n then(x,d,x.say d.boot 6 m.id x.n 0)
  else if x.id<m.id then(x,d,x.say d.boot 6 m.id 0 0)
  else(x,d,[])
 else
  if x.id<m.id then(x,d,x.say d.boot 6 m.id 0 0)
  else if m.id<x.id∨x.last=false∨x.known<m.seq then(x,d,[])
  else
   let r:=m.mks.foldl (fun(a:InS×Disk×Bool) y=>
    if a.2.2 then a
    else if y.1≤a.1.known then a
    else if y.1≠a.1.known+1 then(a.1,a.2.1,true)
    else({a.1 with known:=y.1},(if a.1.covers y.2 then {a.2.1 with cache:=W8 a.2.1.cache [y.2],used:=a.2.1.used+Nd.recLen y.2 se}else a.2.1),false)) (x,d,false)
   (r.1,r.2.1,r.1.say d.boot 9 m.id 0 r.1.known)
end InS
namespace Nd
def outAt (n:Nd)(a:Nat):Option OutS:=(n.outs.find? (fun p=>decide (p.1=a))).map Prod.snd
def setOut (n:Nd)(a:Nat)(o:OutS):Nd:={n with outs:=n.outs.map (fun p=>if p.1=a then(a,o)else p)}
def next (n:Nd)(a:Nat):Nd:=match n.outAt a with
 |none=>n
 |some o=>let r:=o.next n.dk;(n.setOut a r.1).say r.2
def allSent (n:Nd):Bool:=n.outs.all (fun p=>p.2.sent)
def allDone (n:Nd):Bool:=n.outs.all (fun p=>p.2.done)
def did (n:Nd):Nd×List Wm×List Rp:=({n with msgs:=[],reps:=[]},n.msgs,n.reps)
def beat (n:Nd)(b:Nat):Nd×List Wm×List Rp:=
 let c:=n.say [{kind:=1,tick:=b,epoch:=n.dk.epoch,seq:=n.dk.ready}]
 let a:=[1,2,3,4,5].foldl next c
 let d:=a.waits.foldl (fun(n:Nd) w=>if b-w.whn<60 then n else n.tell w.w 10 se false) a
 ({d with waits:=a.waits.filter (fun w=>decide (b-w.whn<60))}:Nd).did
def learn (n:Nd)(m:Wm):Nd×List Nat:=
 if n.knows then(n,[])
 else
  let parts:=V0 (ptsOf m.old) (ptsOf m.mem)
  let c:=parts.filter (fun p=>decide (p.src=n.id))
  let b:=parts.filter (fun p=>decide (p.dst=n.id))
  let outs:=[1,2,3,4,5].filterMap (fun a=>let t:=c.filter (fun p=>decide (p.dst=a));if t.isEmpty then none else some (a,OutS.send n.dk m.epoch n.id a t))
  let ins:=[1,2,3,4,5].filterMap (fun a=>let t:=b.filter (fun p=>decide (p.src=a));if t.isEmpty then none else some (a,(⟨m.epoch,a,n.id,t,0,0,0,false⟩:InS)))
  ({n with knows:=true,parts:=parts,outs:=outs,ins:=ins},outs.map Prod.fst)
def mayNodes (l:List Nat):Bool:= !l.isEmpty&&l.all (fun n=>decide (1≤n∧n≤5))&&(l.zip (l.drop 1)).all (fun p=>decide (p.1<p.2))
def prepare (n:Nd)(m:Wm):Nd:=
 if m.epoch≤n.dk.epoch∨m.epoch<n.dk.ready∨m.base<n.dk.epoch∨m.epoch≤m.base∨mayNodes m.old=false then n
 else
  let a:=if n.dk.epoch<m.base then n.adopt m.base m.old else n
  let d:=if a.dk.ready<m.epoch then
    let d:=if 0<a.dk.ready then a.giveUp else a
    let f:=d.save a.dk.epoch m.epoch false
    let e:=(V0 (ptsOf m.old) (ptsOf m.mem)).filter (fun p=>decide (p.dst=n.id))
    f.drops (fun k=>KT e (FZ k))
   else a
  let r:=d.learn m
  let b:=if m.kind=7 then
    let b:=(r.1.save r.1.dk.epoch r.1.dk.ready true).clear
    {b with outs:=b.outs.map (fun p=>(p.1,p.2.freeze b.dk))}
   else r.1
  let c:=r.2.foldl next b
  if m.kind=3 then c.say [{kind:=4,epoch:=m.epoch,last:=c.allSent}]
  else if c.allDone then c.say [{kind:=10,epoch:=m.epoch}]
  else c
def have_ (n:Nd)(m:Wm):Nd:=match n.outAt m.src with
 |none=>n
 |some o=>
  let r:=o.hear n.dk m
  let a:=(n.setOut m.src r.1).say r.2
  if a.dk.frozen&&a.allDone then a.say [{kind:=10,epoch:=m.epoch}]
  else if !a.dk.frozen&&a.allSent then a.say [{kind:=4,epoch:=m.epoch,last:=true}]
  else a
def grant (n:Nd)(b:Nat)(m:Wm):Nd:=
 if m.epoch<n.dk.epoch∨(m.epoch=n.dk.epoch∧m.kind=11)then n
 else
  let a:=n.adopt m.epoch m.mem
  if m.kind=2 then a.take b m.tick m.epoch else a
def keyOk (k:Str):Bool:=decide (1≤k.size∧k.size≤40)
def get (n:Nd)(w:Who):Nd:=match cGet n.dk.cache w.key with
 |some v=>n.tell w 0 v true
 |none=> {n with tlast:=n.tlast+1,toks:=n.toks++[(n.tlast+1,w.key,true)],reads:=n.reads++[(w,n.tlast+1)]}
def killTok (n:Nd)(k:Str):Nd:={n with toks:=n.toks.map (fun t=>if t.2.1=k then(t.1,k,false)else t)}
def kill (n:Nd)(k:Str):Nd:=({n with dk:={n.dk with jk:=n.dk.jk++[k]}}:Nd).dropKeys [k]
def ask (n:Nd)(a:Nat)(w:Who):Nd:=
 if(w.op≠1∧w.op≠2)∨keyOk w.key=false then n.tell w 1 se false
 else if n.ring.isNone then n.tell w 6 se false
 else if n.own w.key≠n.id then
  let id:=n.dk.boot*1048576+(n.asked+1)
  ({n with asked:=n.asked+1,waits:=n.waits++[⟨w,id,n.own w.key,a⟩]}:Nd).say [{kind:=13,dst:=n.own w.key,id:=id,op:=w.op,key:=w.key,epoch:=n.dk.epoch}]
 else if n.serves a w.key=false then n.tell w 6 se false
 else if w.op=2 then((n.killTok w.key).kill w.key).tell w 0 se false
 else n.get w
def foreign (n:Nd)(a:Nat)(m:Wm):Nd:=
 if m.epoch≠n.dk.epoch then n.tell ⟨m.src,m.id,m.op,m.key⟩ 7 se false else n.ask a ⟨m.src,m.id,m.op,m.key⟩
def answer (n:Nd)(m:Wm):Nd:=match n.waits.find? (fun w=>decide (w.too=m.src∧w.id=m.id))with
 |none=>n
 |some w=>
  let a:=if m.err=7 then 6 else m.err
  let b:=decide (a=0∧w.w.op=1∧m.it.1≠se)&& !m.it.2.2
  ({n with waits:=n.waits.eraseP (fun w=>decide (w.too=m.src∧w.id=m.id))}:Nd).tell w.w a (if b then m.it.2.1 else se) b
def step (n:Nd)(b:Nat)(m:Wm):Nd×List Wm×List Rp:=
 let a:=decide (0<n.dk.ready∧m.epoch=n.dk.ready)
 (if m.kind=2∨m.kind=11 then(if mayNodes m.mem then n.grant b m else n)
  else if m.kind=3∨m.kind=7 then(if mayNodes m.mem then n.prepare m else n)
  else if m.kind=12 then(if a then n.giveUp else n)
  else if m.kind=5∨m.kind=8 then
   (if a then match n.ins.find? (fun p=>decide (p.1=m.src))with
    |none=>n
    |some p=>let r:=p.2.hear n.dk m;({n with dk:=r.2.1,ins:=n.ins.map (fun q=>if q.1=m.src then(q.1,r.1)else q)}:Nd).say r.2.2
   else n)
  else if m.kind=6∨m.kind=9 then(if a then n.have_ m else n)
  else if m.kind=13 then n.foreign b m
  else if m.kind=14 then n.answer m
  else n).did
def read (n:Nd)(e i:Nat)(val:Str)(b:Bool):Nd×List Wm×List Rp:=match n.reads[i]? with
 |none=>(n,[],[])
 |some r=>
  let c:={n with reads:=n.reads.eraseIdx i}
  let v:=if b then val else se
  let good:=match c.toks.find? (fun t=>decide (t.1=r.2))with|some t=>t.2.2|none=>false
  let a:={c with toks:=c.toks.filter (fun t=>decide (t.1≠r.2))}
  let d:=if good&&b&&decide (v.size≤200)&&a.serves e r.1.key then {a with dk:={a.dk with cache:=GA r.1.key v a.dk.cache,used:=a.dk.used+recLen r.1.key v}}else a
  (d.tell r.1 0 v b).did
end Nd
structure Au where
 epoch:Nat
 top:Nat
 mem:List Nat
 num:Nat:=0
 phase:Nat:=0
 dest:List Nat:=[]
 nodes:List Nat:=[]
 lost:Nat:=0
 done:List Nat:=[]
 gr:List (Nat×Nat):=[]
namespace Au
def both (a b:List Nat)(c:Nat):List Nat:=[1,2,3,4,5].filter (fun n=>decide (n≠c)&&(a.contains n||b.contains n))
def tell (c:Au)(kind:Nat)(l:List Nat):List Wm:=l.map (fun n=> {kind:=kind,dst:=n,epoch:=c.num,mem:=c.dest,base:=c.epoch,old:=c.mem})
def member (c:Au)(kind too tick:Nat):Wm:={kind:=kind,dst:=too,tick:=tick,epoch:=c.epoch,mem:=c.mem}
def noChange (c:Au):Au:={c with num:=0,phase:=0,dest:=[],nodes:=[],lost:=0,done:=[]}
def commit (c:Au)(now:Nat):Au×List Wm:=
 match c.gr.find? (fun p=>decide (p.1=c.lost))with
 |some p=>if 0<c.lost∧now-p.2<40 then(c,[])else go c
 |none=>go c
where go (c:Au):Au×List Wm:=
 let nodes:=both c.mem c.dest 0
 let c1:=({c with epoch:=c.num,mem:=c.dest}:Au).noChange
 (c1,nodes.map (fun n=>c1.member 11 n 0))
def beat (c:Au)(a:Nat):Au×List Wm:=
 if c.num=0 then(c,[])
 else if c.phase=1 then(c,c.tell 3 c.nodes)
 else if c.phase=2 then(c,c.tell 7 c.nodes)
 else c.commit a
def note (c:Au)(m:Wm)(phase:Nat):Au×Bool:=
 if c.num=0∨m.epoch≠c.num∨c.phase≠phase∨c.nodes.contains m.src=false then(c,false)
 else
  let c1:=if c.done.contains m.src then c else {c with done:=c.done++[m.src]}
  if c1.done.length<c1.nodes.length then(c1,false)else({c1 with phase:=c1.phase+1,done:=[]},true)
def setGr (l:List (Nat×Nat))(a t:Nat):List (Nat×Nat):=(a,t)::l.filter (fun p=>decide (p.1≠a))
def renew (c:Au)(a:Nat)(m:Wm):Au×List Wm:=
 let l:=if c.epoch<m.seq∧m.seq≠c.num then[({kind:=12,dst:=m.src,epoch:=m.seq}:Wm)]else[]
 if c.mem.contains m.src&&decide (m.src≠c.lost)then({c with gr:=setGr c.gr m.src a},l++[c.member 2 m.src m.tick])
 else if m.epoch<c.epoch then(c,l++[c.member 11 m.src 0])
 else(c,l)
def step (c:Au)(a:Nat)(m:Wm):Au×List Wm:=
 if m.kind=1 then c.renew a m
 else if m.kind=4 then
  if m.last=true then let r:=c.note m 1;if r.2 then(r.1,r.1.tell 7 r.1.nodes)else(r.1,[])else(c,[])
 else if m.kind=10 then let r:=c.note m 2;if r.2 then r.1.commit a else(r.1,[])
 else(c,[])
end Au
structure Call where
 id:Nat
 op:Nat
 key:Str
 node:Nat
 frm:Nat
 too:Nat:=0
 done:Bool:=false
 rp:Rp:=⟨0,0,se,0,se,false⟩
structure Cl where
 c:Option Au
 cd:Nat×Nat×List Nat
 cc:Nat:=0
 nodes:Nat→Option Nd
 devs:Nat→Disk
 clk:Nat→Nat:=fun _=>0
 made:Nat→Bool
 net:List Wm:=[]
 onow:Nat:=0
 org:List (Str×Nat×Str×Bool):=[]
 log:List Call:=[]
def Ej {α:Type}(f:Nat→α)(a:Nat)(x:α):Nat→α:=fun b=>if b=a then x else f b
namespace Cl
def send (s:Cl)(l:List Wm):Cl:={s with net:=s.net++l.take (300-s.net.length)}
def endCall (s:Cl)(r:Rp):Cl:={s with log:=s.log.map (fun c=>if c.id=r.id∧c.done=false∧c.op=r.op∧c.key=r.key then {c with done:=true,too:=s.onow,rp:=r}else c)}
def setNd (s:Cl)(a:Nat)(n:Nd):Cl:={s with nodes:=Ej s.nodes a (some n),devs:=Ej s.devs a n.dk}
def came (s:Cl)(a:Nat)(r:Nd×List Wm×List Rp):Cl:=r.2.2.foldl endCall ((s.setNd a r.1).send r.2.1)
def start (s:Cl)(a:Nat):Cl:=
 let d:=s.devs a
 let b:Disk:=if s.made a then {d with boot:=d.boot+1}else {boot:=1}
 {s with nodes:=Ej s.nodes a (some {id:=a,dk:=b}),devs:=Ej s.devs a b,made:=Ej s.made a true}
def make (mem:List Nat):Cl:=mem.foldl start {c:=some ⟨1,1,mem,0,0,[],[],0,[],[]⟩,cd:=(1,1,mem),nodes:=fun _=>none,devs:=fun _=> {},made:=fun _=>false}
def setAu (s:Cl)(c:Au):Cl:={s with c:=some c,cd:=(c.epoch,c.top,c.mem)}
def hears (s:Cl)(m:Wm):Cl:=
 if m.dst=0 then match s.c with
  |none=>s
  |some c=>let r:=c.step s.cc m;(s.setAu r.1).send r.2
 else match s.nodes m.dst with
  |none=>s
  |some n=>s.came m.dst (n.step (s.clk m.dst) m)
def tick (s:Cl)(a:Nat):Cl:=
 if a=0 then
  let b:={s with cc:=s.cc+1}
  match b.c with
  |none=>b
  |some c=>let r:=c.beat b.cc;(b.setAu r.1).send r.2
 else
  let b:={s with clk:=Ej s.clk a (s.clk a+1)}
  match b.nodes a with
  |none=>b
  |some n=>b.came a (n.beat (b.clk a))
def drop (s:Cl)(i:Nat):Cl:={s with net:=s.net.eraseIdx i}
def sendAt (s:Cl)(i:Nat):Cl:=match s.net[i]? with
 |none=>s
 |some m=>(s.drop i).hears m
def orgAt (s:Cl)(pos:Nat)(k:Str):Str×Bool:=match(s.org.filter (fun p=>decide (p.1=k∧p.2.1≤pos))).getLast? with
 |some p=>(p.2.2.1,p.2.2.2)
 |none=>(se,false)
def set (s:Cl)(k v:Str):Cl:={s with onow:=s.onow+1,org:=s.org++[(k,s.onow+1,v,true)]}
def read (s:Cl)(a i:Nat):Cl:=match s.nodes a with
 |none=>s
 |some n=>match n.reads[i]? with
  |none=>s
  |some r=>let v:=s.orgAt s.onow r.1.key;s.came a (n.read (s.clk a) i v.1 v.2)
def call (s:Cl)(op a:Nat)(k:Str):Cl:=match s.nodes a with
 |none=>s
 |some n=>
  let id:=s.log.length+1
  ({s with log:=s.log++[⟨id,op,k,a,s.onow,0,false,⟨0,0,se,0,se,false⟩⟩]}:Cl).came a ((n.ask (s.clk a) ⟨0,id,op,k⟩).did)
def crash (s:Cl)(a:Nat):Cl:=
 if a=0 then {s with c:=none}
 else {s with nodes:=Ej s.nodes a none,log:=s.log.map (fun c=>if c.node=a∧c.done=false then {c with done:=true,too:=s.onow,rp:=⟨c.id,c.op,c.key,8,se,false⟩}else c)}
def nReads (s:Cl)(a:Nat):Nat:=match s.nodes a with|none=>0|some n=>n.reads.length
def reads (s:Cl):Nat:=([1,2,3,4,5].map s.nReads).sum
end Cl
structure Pl where
 key:ByteArray
 pos:Nat
 has:Bool
 gone:Bool
def pl0:Pl:=⟨ByteArray.empty,0,false,false⟩
abbrev Tab:=List Pl
def probe (t:Tab)(key:ByteArray)(k:Nat):Nat:=(FZ key % t.length+k) % t.length
def Fv (t:Tab)(key:ByteArray):Nat→Nat→Option Nat→Option Nat×Option Nat
 |0,_,f=>(none,f)
 |n+1,k,f=>
  let p:=t.getD (probe t key k) pl0
  if p.has=true∧p.key=key then(some (probe t key k),some (probe t key k))
  else
   let a:=if p.has=false∧f=none then some (probe t key k)else f
   if p.has=false∧p.gone=false then(none,a)else Fv t key n (k+1) a
def find (t:Tab)(key:ByteArray):Option Nat×Option Nat:=Fv t key t.length 0 none
structure TabOk (t:Tab) (u:Nat):Prop where
 pos:0<t.length
 reach:∀(i:Nat) (p:Pl),t[i]?=some p→p.has=true→∃k,k<t.length∧probe t p.key k=i∧∀j,j<k→(t.getD (probe t p.key j) pl0).has =true∨(t.getD (probe t p.key j) pl0).gone =true
 one:∀(i j:Nat) (p q:Pl),t[i]?=some p→t[j]?=some q→p.has=true→q.has=true→p.key=q.key→i=j
 used:u=t.countP (fun p=>p.has||p.gone)
 flag:∀p∈t,p.has=true→p.gone=false
theorem Ip {t:Tab}(h:0<t.length)(key:ByteArray)(k:Nat):probe t key k<t.length:=C1 _ h
theorem Re {t:Tab}(h:0<t.length)(key:ByteArray)(k:Nat):probe t key (k+1)=(probe t key k+1) % t.length:=by show(FZ key % t.length+(k+1)) % t.length=((FZ key % t.length+k) % t.length+1) % t.length;generalize FZ key % t.length=a;rw[Nat.mod_add_mod (a+k),Cv]
theorem TO {t:Tab}(h:0<t.length)(key:ByteArray)(i:Nat)(b:i<t.length):∃k,k<t.length∧probe t key k=i:=by
 let a:=FZ key % t.length
 have c:FZ key % t.length<t.length:=C1 _ h;by_cases d:FZ key % t.length≤i
 ·refine⟨i-FZ key % t.length,by omega, ?_⟩
  unfold probe;rw[show FZ key % t.length+(i-FZ key % t.length)=i by omega];exact AR b
 ·refine⟨i+t.length-FZ key % t.length,by omega, ?_⟩
  unfold probe;rw[show FZ key % t.length+(i+t.length-FZ key % t.length)=i+t.length by omega,Nat.add_mod_right];exact AR b
theorem TN {t:Tab}(h:0<t.length)(key:ByteArray){j k:Nat}(f:j<t.length)(g:k<t.length)(b:probe t key j=probe t key k):j=k:=by
 unfold probe at b;have e:FZ key % t.length<t.length:=C1 _ h;generalize FZ key % t.length=a at*
 have c:(a+j) % t.length=if a+j<t.length then a+j else a+j-t.length:=by
  split
  ·exact AR ‹_›
  ·rw[Nat.mod_eq_sub_mod (by omega)]
   exact AR (by omega)
 have d:(a+k) % t.length=if a+k<t.length then a+k else a+k-t.length:=by
  split
  ·exact AR ‹_›
  ·rw[Nat.mod_eq_sub_mod (by omega)]
   exact AR (by omega)
 rw[c,d]at b
 split at b<;>split at b<;>omega
theorem PU {t:Tab}{key:ByteArray}(i:Nat)(a:Nat)(o:probe t key a=i)(p:Pl)(q:t.getD i pl0=p)(m:p.has=true∧p.key=key)
  (r:∀j,j<a→((t.getD (probe t key j) pl0).has =true∨(t.getD (probe t key j) pl0).gone =true)∧¬((t.getD (probe t key j) pl0).has =true∧(t.getD (probe t key j) pl0).key =key)):
  ∀(n k:Nat) (f:Option Nat),k≤a→a<k+n→Fv t key n k f=(some i,some i):=by
 intro n
 induction n with
 |zero=>intro k f d e;omega
 |succ n ih=>
  intro k f d e;unfold Fv;by_cases l:k=a
  ·subst l
   rw[o,q,Ay m]
  ·have b:=r k (by omega)
   rw[Aw b.2]
   have g:¬((t.getD (probe t key k) pl0).has =false∧(t.getD (probe t key k) pl0).gone =false):=by
    intro c;rcases b.1 with h|h
    ·rw[c.1]at h;cases h
    ·rw[c.2]at h;cases h
   simp only;rw[Aw g];exact ih (k+1) _ (by omega) (by omega)
theorem TabOk.find_some {t:Tab}{u:Nat}(h:TabOk t u){i:Nat}{p:Pl}(a:t[i]?=some p)(c:p.has=true):find t p.key=(some i,some i):=by
 obtain⟨k,l,f,m⟩:=h.reach i p a c;have n:=(Ai.1 a).1;refine PU i k f p (by rw[Af,a];rfl) ⟨c,rfl⟩ (fun j g=>⟨m j g,fun d=> ?_⟩) t.length 0 none (by omega) (by omega);have b:=Ip h.pos p.key j
 have e:=h.one (probe t p.key j) i _ p (Ad b) a (by
  have:=d.1;rw[Af,Ad b]at this;exact this) c (by
  have:=d.2;rw[Af,Ad b]at this;exact this)
 have:=TN h.pos p.key (by omega) l (e.trans f.symm);omega
theorem PV {t:Tab}{key:ByteArray}(A:∀p∈t,¬(p.has=true∧p.key=key))(B:0<t.length):
  ∀(n k:Nat) (f:Option Nat),(Fv t key n k f).1 =none∧
   ((Fv t key n k f).2 =f∧(f≠none∨∀j,k≤j→j<k+n→(t.getD (probe t key j) pl0).has =true)∨
    f=none∧∃j,k≤j∧j<k+n∧(Fv t key n k f).2 =some (probe t key j)∧(t.getD (probe t key j) pl0).has =false∧∀i,k≤i→i<j→(t.getD (probe t key i) pl0).has =true):=by
 intro n
 induction n with
 |zero=>intro k f;exact⟨rfl,.inl ⟨rfl,by by_cases h:f=none;exact .inr (fun j o q=>by omega);exact .inl h⟩⟩
 |succ n ih=>
  intro k f
  have z:t.getD (probe t key k) pl0∈t:=by have y:=Ip B key k;rw[Af,Ad y];exact BS _
  unfold Fv;simp only;rw[Aw (A _ z)];by_cases b:(t.getD (probe t key k) pl0).has =true
  ·have g:¬((t.getD (probe t key k) pl0).has =false∧f=none):=fun d=>by rw[d.1]at b;cases b
   have u:¬((t.getD (probe t key k) pl0).has =false∧(t.getD (probe t key k) pl0).gone =false):=fun d=>by rw[d.1]at b;cases b
   rw[Aw g,Aw u];obtain⟨o,q⟩:=ih (k+1) f;refine⟨o, ?_⟩;rcases q with⟨a,c⟩|⟨a,j,c,C,v,w,x⟩
   ·refine .inl ⟨a, ?_⟩
    rcases c with c|c
    ·exact .inl c
    ·exact .inr (fun j r l=>by
      by_cases m:j=k
      ·subst m;exact b
      ·exact c j (by omega) (by omega))
   ·exact .inr ⟨a,j,by omega,by omega,v,w,fun i r l=>by
     by_cases m:i=k
     ·subst m;exact b
     ·exact x i (by omega) l⟩
  ·have s:(t.getD (probe t key k) pl0).has =false:=by simpa using b
   by_cases e:f=none
   ·subst e
    rw[Ay (show(t.getD (probe t key k) pl0).has =false∧(none:Option Nat)=none from⟨s,rfl⟩)];refine⟨?_,.inr ⟨rfl,k,Av _,by omega, ?_,s,fun i r l=>by omega⟩⟩
    ·split
     ·rfl
     ·exact(ih (k+1) _).1
    ·split
     ·rfl
     ·rcases(ih (k+1) (some (probe t key k))).2 with⟨a,_⟩|⟨a,_⟩
      ·exact a
      ·cases a
   ·have g:¬((t.getD (probe t key k) pl0).has =false∧f=none):=fun d=>e d.2
    rw[Aw g];refine⟨?_,.inl ⟨?_,.inl e⟩⟩
    ·split
     ·rfl
     ·exact(ih (k+1) _).1
    ·split
     ·rfl
     ·rcases(ih (k+1) f).2 with⟨a,_⟩|⟨a,_⟩
      ·exact a
      ·exact absurd a e
theorem Na {t:Tab}{key:ByteArray}(o:∀p∈t,¬(p.has=true∧p.key=key))(c:0<t.length)(m:∃p∈t,p.has=false):
  (find t key).1 =none∧∃j,j<t.length∧(find t key).2 =some (probe t key j)∧(t.getD (probe t key j) pl0).has =false∧∀i,i<j→(t.getD (probe t key i) pl0).has =true:=by
 obtain⟨d,e⟩:=PV o c t.length 0 none;refine⟨d, ?_⟩;rcases e with⟨s,a⟩|⟨_,j,a,u,f,g,h⟩
 ·exfalso
  rcases a with a|a
  ·exact a rfl
  ·obtain⟨p,q,r⟩:=m
   obtain⟨i,b⟩:=Bf q;have n:=(Ai.1 b).1;obtain⟨k,v,l⟩:=TO c key i n;have:=a k (by omega) (by omega);rw[l,Af,b]at this;rw[show(some p).getD pl0=p from rfl,r]at this;cases this
 ·exact⟨j,by omega,f,g,fun i b=>h i (by omega) b⟩
theorem PL {t:Tab}{i:Nat}(x:Pl)(a:i<t.length)(j:Nat):(t.set i x).getD j pl0=if i=j then x else t.getD j pl0:=by
 rw[Af,Af,CM];by_cases h:i=j
 ·subst h;rw[Ay rfl,Ay a,Ay rfl];rfl
 ·rw[Aw h,Aw h]
theorem JM (t:Tab)(i:Nat)(x:Pl)(key:ByteArray)(k:Nat):probe (t.set i x) key k=probe t key k:=by unfold probe;rw[Bi]
theorem X9 {t:Tab}{i:Nat}{p:Pl}(h:t[i]?=some p):t.getD i pl0=p:=by rw[Af,h];rfl
theorem Tg {t:Tab}{i:Nat}(h:i<t.length):t[i]?=some (t.getD i pl0):=by rw[Af,Ad h];rfl
theorem LR {t:Tab}{i:Nat}{p:Pl}(f:Pl→Bool)(x:Pl)(h:t[i]?=some p):(t.set i x).countP f+(if f p=true then 1 else 0)=t.countP f+(if f x=true then 1 else 0):=by
 induction t generalizing i with
 |nil=>simp at h
 |cons a t ih=>
  cases i with
  |zero=>simp only[List.getElem?_cons_zero,BU]at h;subst h;rw[List.set_cons_zero,GB,GB];omega
  |succ i=>simp only[List.getElem?_cons_succ]at h;have:=ih h;rw[List.set_cons_succ,GB,GB];omega
section
variable {t:Tab} {u:Nat}
theorem TabOk.add (h:TabOk t u){key:ByteArray}(y:∀p∈t,¬(p.has=true∧p.key=key)){j:Nat}(v:j<t.length)(C:(t.getD (probe t key j) pl0).has =false)
  (E:∀i,i<j→(t.getD (probe t key i) pl0).has =true) (pos:Nat):TabOk (t.set (probe t key j) ⟨key,pos,true,false⟩) (u+if(t.getD (probe t key j) pl0).gone =true then 0 else 1):=by
 have l:=Ip h.pos key j;have D:=Tg l;generalize G:t.getD (probe t key j) pl0=p at*;generalize B:probe t key j=i at*
 have z:∀(m:ByteArray) (k:Nat),((t.getD (probe t m k) pl0).has =true∨(t.getD (probe t m k) pl0).gone =true)→((t.set i ⟨key,pos,true,false⟩).getD (probe (t.set i ⟨key,pos,true,false⟩) m k) pl0).has =true∨((t.set i ⟨key,pos,true,false⟩).getD (probe (t.set i ⟨key,pos,true,false⟩) m k) pl0).gone =true:=by
  intro m k f;rw[JM,PL _ l]
  split
  ·exact .inl rfl
  ·exact f
 refine⟨by rw[Bi];exact h.pos,fun k q c o=> ?_,fun a b q r c d e n f=> ?_, ?_,fun q c o=> ?_⟩
 ·rw[Bi]
  rw[CM]at c;by_cases x:i=k
  ·subst x
   rw[Ay rfl,Ay l]at c;injection c with c;subst c;exact⟨j,v,by rw[JM];exact B,fun k f=>z _ _ (.inl (E k f))⟩
  ·rw[Aw x]at c
   obtain⟨F,e,n,A⟩:=h.reach k q c o;exact⟨F,e,by rw[JM];exact n,fun j v=>z _ _ (A j v)⟩
 ·rw[CM]at c d
  by_cases s:i=a
  ·rw[Ay s,Ay (s▸l)]at c
   injection c with c;by_cases g:i=b
   ·omega
   ·rw[Aw g]at d
    subst c;exact absurd ⟨n,f.symm⟩ (y r (Aq d))
  ·rw[Aw s]at c
   by_cases g:i=b
   ·rw[Ay g,Ay (g▸l)]at d
    injection d with d;subst d;exact absurd ⟨e,f⟩ (y q (Aq c))
   ·rw[Aw g]at d
    exact h.one a b q r c d e n f
 ·have:=LR (fun p=>p.has||p.gone) ⟨key,pos,true,false⟩ D
  rw[h.used];simp only[C,CH,Bool.true_or,D5]at this;by_cases w:p.gone=true
  ·rw[Ay w]at this⊢;omega
  ·rw[Aw w]at this⊢;omega
 ·rcases DC c with e|e
  ·exact h.flag q e o
  ·subst e;rfl
theorem TabOk.new (n:Nat)(h:0<n):TabOk (List.replicate n pl0) 0:=by
 have d:∀(i:Nat) (p:Pl),(List.replicate n pl0)[i]?=some p→p=pl0:=by intro i p a;exact DL (Aq a)
 refine⟨by simpa using h,fun i p a b=> ?_,fun i j p q a g c e f=> ?_, ?_,fun p a b=> ?_⟩
 ·rw[d i p a]at b;cases b
 ·rw[d i p a]at c;cases c
 ·rw[List.countP_replicate];rfl
 ·rw[DL a];rfl
theorem TabOk.free (h:TabOk t u)(e:u<t.length):∃p∈t,p.has=false∧p.gone=false:=by
 apply Classical.byContradiction;intro c
 have:t.countP (fun p=>p.has||p.gone)=t.length:=by
  rw[List.countP_eq_length];intro p d
  cases b:p.has with
  |true=>rfl
  |false=>
   cases a:p.gone with
   |true=>rfl
   |false=>exact absurd ⟨p,d,b,a⟩ c
 rw[h.used]at e;omega
end
def ents (t:Tab):List (ByteArray×Nat):=t.filterMap (fun p=>if p.has=true then some (p.key,p.pos)else none)
theorem Fn {t:Tab}{k:ByteArray}{pos:Nat}:(k,pos)∈ents t↔∃(i:Nat) (p:Pl),t[i]?=some p∧p.has=true∧p.key=k∧p.pos=pos:=by
 unfold ents;rw[F6];constructor
 ·rintro⟨p,hp,he⟩
  obtain⟨i,a⟩:=Bf hp
  split at he
  ·injection he with he
   injection he with h1 h2;exact⟨i,p,a,‹_›,h1,h2⟩
  ·cases he
 ·rintro⟨i,p,a,hh,rfl,rfl⟩
  exact⟨p,Aq a,by rw[Ay hh]⟩
theorem Me {t:Tab}{key:ByteArray}:(∀p∈t,¬(p.has=true∧p.key=key))↔∀pos,(key,pos)∉ents t:=by
 constructor
 ·intro h pos e
  obtain⟨i,p,a,b,d,_⟩:=Fn.1 e;exact h p (Aq a) ⟨b,d⟩
 ·intro h p b c
  obtain⟨i,a⟩:=Bf b;exact h p.pos (Fn.2 ⟨i,p,a,c.1,c.2,rfl⟩)
theorem Wc {t:Tab}{u:Nat}(h:TabOk t u){key:ByteArray}{i:Nat}(e:i<t.length)(f:(t.getD i pl0).has =false)(pos:Nat)(k:ByteArray)(q:Nat)(m:∀pos,(key,pos)∉ents t):
  (k,q)∈ents (t.set i ⟨key,pos,true,false⟩)↔(k=key∧q=pos)∨(k≠key∧(k,q)∈ents t):=by
 have l:=Tg e;rw[Fn];constructor
 ·rintro⟨j,r,a,c,rfl,rfl⟩
  rw[CM]at a;by_cases d:i=j
  ·rw[Ay d,Ay (d▸e)]at a
   injection a with a;subst a;exact .inl ⟨rfl,rfl⟩
  ·rw[Aw d]at a
   have b:=Fn.2 ⟨j,r,a,c,rfl,rfl⟩;exact .inr ⟨fun g=>m r.pos (g▸b),b⟩
 ·rintro(⟨rfl,rfl⟩|⟨g,b⟩)
  ·exact⟨i,⟨k,q,true,false⟩,by rw[CM,Ay rfl,Ay e],rfl,rfl,rfl⟩
  ·obtain⟨j,r,a,c,rfl,rfl⟩:=Fn.1 b
   refine⟨j,r, ?_,c,rfl,rfl⟩;rw[CM,Aw]
   ·exact a
   ·rintro rfl
    rw[l]at a;injection a with a;rw[a,c]at f;cases f
theorem Iy (n:Nat):ents (List.replicate n pl0)=[]:=by unfold ents;rw[List.filterMap_eq_nil_iff];intro p a;rw[DL a];rfl
theorem PY (t:Tab):(ents t).length =t.countP (fun p=>p.has):=by
 unfold ents
 induction t with
 |nil=>rfl
 |cons p t ih=>
  rw[List.filterMap_cons,GB]
  cases a:p.has with
  |true=>simp only[D5,List.length_cons,ih]
  |false=>simp only[Bool.false_eq_true,D1,ih,Nat.add_zero]
theorem GJ (a b:Nat×Nat):GK a b=true↔a.1<b.1∨(a.1=b.1∧a.2<b.2):=by unfold GK;simp
theorem FY (a b:Nat×Nat):GK a b=false↔¬(a.1<b.1∨(a.1=b.1∧a.2<b.2)):=by rw[←GJ];simp
theorem TL (a b:Nat×Nat)(c:GK a b=false)(d:GK b a=false):a=b:=by
 rw[FY]at c d;obtain⟨x,y⟩:=a;obtain⟨z,u⟩:=b;simp only at c d;have e:x=z:=by omega
 subst e;have f:y=u:=by omega
 rw[f]
theorem IY (x:Nat×Nat):∀l,(Lo x l).Perm (x::l)
 |[]=>Df _
 |y::l=>by
  unfold Lo
  split
  ·exact Df _
  ·exact((IY x l).cons y).trans (List.Perm.swap ..)
theorem Kb:∀l,(NE l).Perm l
 |[]=>Df _
 |x::l=>(IY x _).trans ((Kb l).cons x)
def KD (l:List (Nat×Nat)):Prop:=l.Pairwise (fun a b=>GK b a=false)
theorem OY (x:Nat×Nat):∀l,KD l→KD (Lo x l)
 |[],_=>by unfold KD Lo;simp
 |y::l,h=>by
  unfold KD at h⊢;have c:=h;rw[B9]at h;unfold Lo;by_cases b:GK x y=true
  ·rw[Ay b,B9]
   refine⟨fun z a=> ?_,c⟩;rcases Ac.1 a with rfl|a
   ·rw[FY];rw[GJ]at b;omega
   ·have:=h.1 z a
    rw[FY]at this⊢;rw[GJ]at b;omega
  ·rw[Aw b,B9]
   refine⟨fun z a=> ?_,OY x l h.2⟩;rcases Ac.1 ((IY x l).mem_iff.1 a)with rfl|a
   ·simpa using b
   ·exact h.1 z a
theorem MK:∀l,KD (NE l)
 |[]=>Gp
 |x::l=>OY x _ (MK l)
theorem SD:∀l m:List (Nat×Nat),l.Perm m→KD l→KD m→l=m
 |[],m,h,_,_=>(List.nil_perm.1 h).symm
 |x::l,[],h,_,_=>absurd (List.perm_nil.1 h) (by simp)
 |x::l,y::m,h,hl,hm=>by
  have c:x=y:=by
   unfold KD at hl hm;rw[B9]at hl hm;have a:y∈x::l:=h.mem_iff.2 (Bx ..);have b:x∈y::m:=h.mem_iff.1 (Bx ..);rcases Ac.1 a with e|a
   ·exact e.symm
   ·rcases Ac.1 b with e|b
    ·exact e
    ·exact TL x y (hm.1 x b) (hl.1 y a)
  subst c;unfold KD at hl hm;rw[B9]at hl hm;rw[SD l m ((List.perm_cons x).1 h) hl.2 hm.2]
theorem Vx {mem:List Nat}{l:List (Nat×Nat)}(h:l.Perm (Dd mem))(a:KD l):l=ptsOf mem:=
 SD l _ (h.trans (Kb _).symm) a (MK _)
def Iz (V:List Value)(x:Nat→Value):List Edge→Prop
 |[]=>True
 |e::es=>(Region.binds .any e=true→x e.on=V.getD e.on undef)∧Iz V x es
section
variable {V:List Value} {x:Nat→Value} {n:Nat} {es:List Edge}
@[simp] theorem dk_nil:Iz V x []↔True:=Iff.rfl
@[simp] theorem dk_data:Iz V x (⟨n,.data⟩::es)↔(x n=V.getD n undef∧Iz V x es):=⟨fun h=>⟨h.1 rfl,h.2⟩,fun h=>⟨fun _=>h.1,h.2⟩⟩
@[simp] theorem dk_chain:Iz V x (⟨n,.chain⟩::es)↔(x n=V.getD n undef∧Iz V x es):=⟨fun h=>⟨h.1 rfl,h.2⟩,fun h=>⟨fun _=>h.1,h.2⟩⟩
@[simp] theorem dk_guard:Iz V x (⟨n,.guard⟩::es)↔(x n=V.getD n undef∧Iz V x es):=⟨fun h=>⟨h.1 rfl,h.2⟩,fun h=>⟨fun _=>h.1,h.2⟩⟩
@[simp] theorem dk_phase:Iz V x (⟨n,.phase⟩::es)↔(x n=V.getD n undef∧Iz V x es):=⟨fun h=>⟨h.1 rfl,h.2⟩,fun h=>⟨fun _=>h.1,h.2⟩⟩
@[simp] theorem dk_text {d:Departure}:Iz V x (⟨n,.textOnly d⟩::es)↔Iz V x es:=⟨fun h=>h.2,fun h=>⟨fun hb=>absurd hb (by simp[Region.binds]),h⟩⟩
@[simp] theorem dk_gc {d:Departure}:Iz V x (⟨n,.gcOnly d⟩::es)↔Iz V x es:=⟨fun h=>h.2,fun h=>⟨fun hb=>absurd hb (by simp[Region.binds]),h⟩⟩
end
section
variable {P:Program} {Q:Exit→Act→World→Prop}
abbrev WN (P:Program)(e:List Oper)(A:List Nat)(Q:Exit→Act→World→Prop)(c:Nat)(V:List Value)(f:(Nat→Bool)→World→Prop)(a:Act)(k:Nat)(o:Oper):Prop:=
 ∀(L:Nat→Bool) (x:Nat→Value) (W:World),f L W→(∀i,(c.testBit i&&(A.getD k 0).testBit i)=true→L i=true)→(∀i,(A.getD i 0).testBit k=true→x i=ownVals e a i)→(∀i,(A.getD i 0).testBit k=true→L i=false)→Iz V x o.after.toList→
  ∀b,Al e 0 x a=b→∀d:Act→World→Prop,(∀h g,b.put o.dst (V.getD k undef)=h→f L g→d h g)→
   if Region.wanted o (yielded e.toArray b.tmps)=true then Oper.wp P o b W d Q else d (b.put o.dst undef) W
abbrev Yp (P:Program)(e:List Oper)(A:List Nat)(Q:Exit→Act→World→Prop)(c:Nat)(V:List Value)(f:(Nat→Bool)→World→Prop)(a:Act)(k:Nat)(o:Oper):Prop:=
 ∀(L:Nat→Bool) (x:Nat→Value) (W:World),f L W→L k=false→(∀i,(c.testBit i&&(A.getD k 0).testBit i)=true→L i=true)→(∀i,(A.getD i 0).testBit k=true→x i=ownVals e a i)→(∀i,(A.getD i 0).testBit k=true→L i=false)→Iz V x o.after.toList→
  ∀b,Al e 0 x a=b→∀d:Act→World→Prop,(∀h g,b.put o.dst (V.getD k undef)=h→f (upd L k true) g→d h g)→
   if Region.wanted o (yielded e.toArray b.tmps)=true then Oper.wp P o b W d Q else d (b.put o.dst undef) W
def I2 (P:Program)(d:List Oper)(A:List Nat)(Q:Exit→Act→World→Prop)(c:Nat)(V:List Value)(b:(Nat→Bool)→World→Prop)(a:Act):Nat→List Oper→Prop
 |_,[]=>True
 |k,o::l=>(if c.testBit k=true then Yp P d A Q c V b a k o else WN P d A Q c V b a k o)∧I2 P d A Q c V b a (k+1) l
theorem I2.still {d:List Oper}{A:List Nat}{c:Nat}{V:List Value}{b:(Nat→Bool)→World→Prop}{a:Act}{k:Nat}{o:Oper}{l:List Oper}(e:c.testBit k=false)(h:WN P d A Q c V b a k o)(f:I2 P d A Q c V b a (k+1) l):I2 P d A Q c V b a k (o::l):=
 ⟨by rw[Aw (by rw[e];decide)];exact h,f⟩
theorem I2.turn {d:List Oper}{A:List Nat}{c:Nat}{V:List Value}{b:(Nat→Bool)→World→Prop}{a:Act}{k:Nat}{o:Oper}{l:List Oper}(e:c.testBit k=true)(h:Yp P d A Q c V b a k o)(f:I2 P d A Q c V b a (k+1) l):I2 P d A Q c V b a k (o::l):=
 ⟨by rw[Ay e];exact h,f⟩
theorem I2.s {d:List Oper}{A:List Nat}{c:Nat}{V:List Value}{b:(Nat→Bool)→World→Prop}{a:Act}{k:Nat}{o:Oper}{l:List Oper}(h:WN P d A Q c V b a k o)(f:I2 P d A Q c V b a (k+1) l)(e:c.testBit k=false:=by rfl):I2 P d A Q c V b a k (o::l):= .still e h f
theorem I2.t {d:List Oper}{A:List Nat}{c:Nat}{V:List Value}{b:(Nat→Bool)→World→Prop}{a:Act}{k:Nat}{o:Oper}{l:List Oper}(h:Yp P d A Q c V b a k o)(f:I2 P d A Q c V b a (k+1) l)(e:c.testBit k=true:=by rfl):I2 P d A Q c V b a k (o::l):= .turn e h f
theorem I2.nil {d:List Oper}{A:List Nat}{c:Nat}{V:List Value}{b:(Nat→Bool)→World→Prop}{a:Act}{k:Nat}:I2 P d A Q c V b a k []:=trivial
def kSt (V:List Value)(a:(Nat→Bool)→World→Prop)(U:Nat→Bool)(X:Nat→Value)(W:World):Prop:=a U W∧∀i,U i=true→X i=V.getD i undef
def kV (V:List Value):List ((Nat→Value)→Value):=V.map (fun v _=>v)
theorem VQ (V:List Value)(k:Nat)(y:Nat→Value):((kV V).getD k (fun _=>undef)) y=V.getD k undef:=by
 unfold kV;rw[Af,Af,AN]
 cases V[k]?<;>rfl
theorem Ob {c k:Nat}{V:List Value}{A:List Nat}{x X:Nat→Value}{L:Nat→Bool}(f:∀i,L i=true→X i=x i)(d:∀i,L i=true→X i=V.getD i undef)(b:∀i,(c.testBit i&&(A.getD k 0).testBit i)=true→L i=true):
  ∀es:List Edge,(∀e∈es,Region.binds .any e=true→(A.getD k 0).testBit e.on=true)→Dz c (kV V) A x es→Iz V x es
 |[],_,_=>trivial
 |e::es,hb,h=>⟨fun g=>by
   have a:=h.1 g;unfold mV at a
   cases j:c.testBit e.on with
   |true=>have l:=b e.on (by rw[j,hb e (by simp) g];rfl);rw[←f _ l,d _ l]
   |false=>rw[Aw (by rw[j];decide),VQ]at a;exact a,Ob f d b es (fun m o=>hb m (by simp[o])) h.2⟩
theorem Kq {A:List Nat}:∀(es:List Edge) (e:Edge),e∈es→Region.binds .any e=true→(D0 A es).testBit e.on=true
 |[],e,h,_=>by cases h
 |e'::es,e,h,hb=>by
  unfold D0;rw[Gh,CQ];rcases Ac.1 h with rfl|h
  ·left
   rw[Ay hb,Gh,CQ];left;rw[Nat.one_shiftLeft,Nat.testBit_two_pow];simp
  ·exact .inr (Kq es e h hb)
theorem Ma:∀(a:List Oper) (A:List Nat) (k:Nat),k<A.length→(ancAll a A).getD k 0=A.getD k 0
 |[],A,k,_=>rfl
 |o::a,A,k,h=>by show(ancAll a (A++[D0 A o.after.toList])).getD k 0=_;rw[Ma a _ k (by simp;omega)];rw[Af,AK h,←Af]
theorem Mb:∀(a:List Oper) (A:List Nat) (k:Nat) (o:Oper),a[k]?=some o→∀e∈o.after,Region.binds .any e=true→((ancAll a A).getD (A.length+k) 0).testBit e.on=true
 |[],A,k,o,h,_,_,_=>by simp at h
 |o'::a,A,0,o,h,e,he,hb=>by simp only[List.getElem?_cons_zero,BU]at h;subst h;show((ancAll a (A++[D0 A o'.after.toList])).getD (A.length+0) 0).testBit e.on=true;rw[Nat.add_zero,Ma a _ _ (by simp)];rw[Af,AC (Av _),C8];exact Kq _ e (by simpa using he) hb
 |o'::a,A,k+1,o,h,e,he,hb=>by
  simp only[List.getElem?_cons_succ]at h;show((ancAll a (A++[D0 A o'.after.toList])).getD (A.length+(k+1)) 0).testBit e.on=true;have:=Mb a (A++[D0 A o'.after.toList]) k o h e he hb
  rwa [Aj,List.length_singleton,show A.length+1+k=A.length+(k+1) by omega]at this
theorem I2.mix {f:List Oper}{c:Nat}{V:List Value}{B:(Nat→Bool)→World→Prop}{a:Act}:∀(l:List Oper) (k:Nat),(∀j o,l[j]?=some o→f[k+j]?=some o)→I2 P f (ancAll f []) Q c V B a k l→Gk P f (ancAll f []) Q c (kV V) (kSt V B) a k l
 |[],k,_,_=>trivial
 |o::l,k,hl,h=>by
  have G:=hl 0 o (by simp);rw[Nat.add_zero]at G
  have C:∀e∈o.after.toList,Region.binds .any e=true→((ancAll f []).getD k 0).testBit e.on=true:=fun e I H=>by
   have:=Mb f [] k o G e (by simpa using I) H
   rwa [show([]:List Nat).length +k=k by simp]at this
  refine⟨?_,I2.mix l (k+1) (fun j M J=>by have:=hl (j+1) M (by simpa using J);rwa [show k+1+j=k+(j+1) by omega]) h.2⟩;have m:=h.1
  cases D:c.testBit k with
  |true=>
   rw[Ay D]at m;rw[Ay rfl];intro L X x W d K w g z A u b s p t;refine m L x W d.1 K g A u (Ob w d.2 g _ C z) b s p (fun r q y v=>t _ r q y ⟨v,fun i E=> ?_⟩);by_cases F:i=k
   ·subst F;rw[Bh]
   ·rw[Bs _ _ _ _ F]at E⊢;exact d.2 i E
  |false=>rw[Aw (by rw[D];decide)]at m;rw[Aw (by decide)];intro L X x W d w g z A u b s p t;exact m L x W d.1 g A u (Ob w d.2 g _ C z) b s p (fun r q y v=>t _ r q (VQ _ _ _).symm y ⟨v,d.2⟩)
theorem AO {b:List Oper}{A:List Nat}{id:Nat}{a:Act}{w:World}(c:Nat)(V:List Value)(d:(Nat→Bool)→World→Prop)(v:P.follows .mixedOrders=true)(r:E7 b=true)(p:C7 b 0=true)(m:ancAll b []=A)
  (l:d (fun _=>false) w.drew) (y:I2 P b A Q c V d a 0 b)
  (s:∀L e,d L e→(∀i,i<b.length→c.testBit i=true→L i=true)→Q .normal (Al b 0 (fun k=>V.getD k undef) a) e):
  (Code.region id b.toArray true).wp P Q a w:=by
 subst m;refine Bq c (kV V) (kSt V d) v r p rfl (fun X=>⟨l,fun i t=>by cases t⟩) (I2.mix b 0 (fun j o h=>by simpa using h) y) (fun L X e g f=> ?_);have:=s L e g.1 f;rw[Ln b 0 _ (FK c (kV V) (ancAll b []) X) a (fun k u=> ?_)]at this
 ·exact this
 ·rw[AP]
  unfold FK
  cases q:c.testBit k with
  |true=>rw[Ay rfl,g.2 k (f k u q)]
  |false=>rw[Aw (by decide),VQ]
theorem wK {b:List Oper}{A:List Nat}{id:Nat}{a:Act}{w:World}(c:Nat)(V:List Value)(d:(Nat→Bool)→World→Prop)
  (f:d (fun _=>false) w.drew) (o:I2 P b A Q c V d a 0 b)
  (l:∀L e,d L e→(∀i,i<b.length→c.testBit i=true→L i=true)→Q .normal (Al b 0 (fun k=>V.getD k undef) a) e) (m:P.follows .mixedOrders=true:=by kernel_rfl) (j:E7 b=true:=by kernel_rfl) (h:C7 b 0=true:=by kernel_rfl) (g:ancAll b []=A:=by kernel_rfl):
  (Code.region id b.toArray true).wp P Q a w:=AO c V d m j h g f o l
end
theorem Lb {P:Program}{w:World}{j:Array Oper}{o:Oper}{a:Act}{K:Act→World→Prop}{Q:Exit→Act→World→Prop}{F:Prop}(d:o.guard=none)(ty:TypeId)(b:Array (Nat×Operand))(e:o.op=.build ty b)(c:Array (Nat×Value))(g:b.map (fun(i,x)=>(i,a.eval x))=c)(u:Value)
  (f:∀W:World,(Instr.build ty c).run P W=.ok u W) (h:K (a.put o.dst u) w):if Region.wanted o (yielded j a.tmps)=true then Oper.wp P o a w K Q else F:=by
 rw[Ay (by simp[Region.wanted,d])];unfold Oper.wp execOp;simp only[e,g,Db,f,Result.andThen_ok];exact h
theorem Cb {P:Program}{w:World}{e:Array Oper}{o:Oper}{a:Act}{K:Act→World→Prop}{Q:Exit→Act→World→Prop}{F:Prop}(ty:TypeId)(x:Operand)(l:o.op=.load ty x)
  (g:Nat) (p:a.eval x=pr g 0) (t:TypeId) (b:Array Value) (c:Nat×Nat) (d:TypeDesc) (i:w.heap[g]?=some (.cells b t c))
  (m:P.underlying ty=some d) (f:(match d with| .struct _| .array _ _=>true|_=>false)=true) (k:(P.info? ty).map (·.size)=some b.size)
  (j:Region.wanted o (yielded e a.tmps)=true) (h:K (a.put o.dst (.agg b)) w):
  if Region.wanted o (yielded e a.tmps)=true then Oper.wp P o a w K Q else F:=by
 rw[Ay j];exact wp_load_row ty x l g p t b c d i m f k h
end Go.Proofs.YtnhbioehiiifdaaGreat
namespace Go.Proofs.YtnhbioehiiifdaaGreat.topNoLease
open Go.Proofs.YtnhbioehiiifdaaGreat
theorem c1:OpenClaim.wf (OpenSpec.ofChange Rows.topNoLeaseSpec) Rows.topNoLeaseRow=true:=by kernel_rfl
theorem c2:laidOutB Tryz.pinned.checked.prog=true:=by kernel_rfl
theorem c3:mapsRowed Tryz.pinned.checked.prog=true:=by kernel_rfl
theorem c4:(Tryz.f4.params.all fun x=>Tryz.pinned.checked.prog.readableRec x)=true:=by kernel_rfl
theorem c5:namedTie Tryz.pinned.checked.prog Rows.topNoLeaseRow.named Rows.topNoLeaseSpec.vars=true:=by kernel_rfl
theorem c6:(Rows.topNoLeaseRow.stops==[])=true:=by kernel_rfl
theorem c7:(Tryz.pinned.checked.prog.stops==[])=true:=by kernel_rfl
theorem c8:(Rows.topNoLeaseRow.knobs==[])=true:=by kernel_rfl
theorem c9:(Tryz.pinned.checked.prog.stopKnobs==[])=true:=by kernel_rfl
theorem c10:(Rows.topNoLeaseRow.inPlace==Tryz.pinned.checked.prog.inPlace 4)=true:=by kernel_rfl
theorem c11:(Rows.topNoLeaseRow.unfollowed==Tryz.pinned.checked.prog.unfollowed 4)=true:=by kernel_rfl
theorem c12:(Rows.topNoLeaseRow.recurses==Tryz.pinned.checked.prog.recurses 4)=true:=by kernel_rfl
theorem c13:(Rows.topNoLeaseRow.named==Tryz.pinned.checked.prog.varsNamed 4)=true:=by kernel_rfl
theorem c14:(Rows.topNoLeaseRow.maps==(Tryz.f4.params.toList++DataSpec.varTypes Tryz.pinned.checked.prog Rows.topNoLeaseSpec.plain).any fun x=>Tryz.pinned.checked.prog.mapsRec x)=true:=by kernel_rfl
theorem c15:(Rows.topNoLeaseRow.ifaces==(Tryz.f4.params.toList++DataSpec.varTypes Tryz.pinned.checked.prog Rows.topNoLeaseSpec.plain).any fun x=>Tryz.pinned.checked.prog.ifacesRec x)=true:=by kernel_rfl
theorem c16:(Rows.topNoLeaseRow.mapsOut==Tryz.pinned.checked.prog.mapsAmong Tryz.f4.resultTypes.toList)=true:=by kernel_rfl
theorem c17:(Rows.topNoLeaseRow.loops==(Tryz.f4.params.toList++DataSpec.varTypes Tryz.pinned.checked.prog Rows.topNoLeaseSpec.plain).any fun x=>Tryz.pinned.checked.prog.loopsFrom x)=true:=by kernel_rfl
theorem c18:(Rows.topNoLeaseRow.wideKeys==(Tryz.f4.params.toList++DataSpec.varTypes Tryz.pinned.checked.prog Rows.topNoLeaseSpec.plain++Tryz.f4.resultTypes.toList).any fun x=>Tryz.pinned.checked.prog.wideKeysFrom x)=true:=by kernel_rfl
theorem c19:(Rows.topNoLeaseSpec.vars.all fun x=>Tryz.pinned.checked.prog.varReadable x)=true:=by kernel_rfl
theorem c20:(Tryz.f4.resultTypes.all fun t=>Tryz.pinned.checked.prog.readableRec t&&decide (t<Tryz.pinned.checked.prog.types.size))=true:=by kernel_rfl
theorem c21:(Rows.topNoLeaseRow.ifacesOut==Tryz.f4.resultTypes.toList.any fun x=>Tryz.pinned.checked.prog.ifacesRec x)=true:=by kernel_rfl
theorem c22:(Rows.topNoLeaseRow.loopsOut==Tryz.f4.resultTypes.toList.any fun x=>Tryz.pinned.checked.prog.loopsFrom x)=true:=by kernel_rfl
theorem c23:(Rows.topNoLeaseRow.plainKeys==Tryz.pinned.checked.prog.plainKeys)=true:=by kernel_rfl
theorem c24:Rows.topNoLeaseRow.shortTexts.isNone=true:=by kernel_rfl
theorem c25:Tryz.pinned.checked.prog.stopsHeard=true:=by kernel_rfl
theorem c26:Tryz.pinned.checked.prog.mayEnter=true:=by kernel_rfl
theorem c27:(Rows.topNoLeaseRow.lifted==Tryz.pinned.checked.prog.liftsFinal)=true:=by kernel_rfl
theorem c28:(Tryz.pinned.checked.prog.make==some Rows.topNoLeaseRow.make)=true:=by kernel_rfl
theorem c29:(Rows.topNoLeaseRow.kinds==if Rows.topNoLeaseRow.domain.isEmpty=true then[]else List.map (fun t=>match Tryz.pinned.checked.prog.underlying t with|some (TypeDesc.int k)=>some k|x=>none) Tryz.f4.params.toList)=true:=by kernel_rfl
theorem c30:(Rows.topNoLeaseRow.pinned==Rows.topNoLeaseRow.pinnedBy)=true:=by kernel_rfl
theorem c31:(Rows.topNoLeaseRow.veiled==(Tryz.f4.params.toList++DataSpec.varTypes Tryz.pinned.checked.prog Rows.topNoLeaseSpec.plain++Tryz.f4.resultTypes.toList).any fun x=>Tryz.pinned.checked.prog.veiledRec x)=true:=by kernel_rfl
theorem c32:Rows.topNoLeaseRow.veiledFits Tryz.pinned.checked.prog Tryz.f4.params.toList (Tryz.f4.params.toList++DataSpec.varTypes Tryz.pinned.checked.prog Rows.topNoLeaseSpec.plain++Tryz.f4.resultTypes.toList)=true:=by kernel_rfl
theorem closed:joinedFacts Tryz.pinned.checked.prog 4 Tryz.f4 Rows.topNoLeaseSpec Rows.topNoLeaseRow=true:=by unfold joinedFacts;simp only[Ar];exact⟨⟨⟨⟨⟨⟨⟨⟨⟨⟨⟨⟨⟨⟨⟨⟨⟨⟨⟨⟨⟨⟨⟨⟨⟨⟨⟨⟨⟨⟨⟨c1,c2⟩,c3⟩,c4⟩,c5⟩,c6⟩,c7⟩,c8⟩,c9⟩,c10⟩,c11⟩,c12⟩,c13⟩,c14⟩,c15⟩,c16⟩,c17⟩,c18⟩,c19⟩,c20⟩,c21⟩,c22⟩,c23⟩,c24⟩,c25⟩,c26⟩,c27⟩,c28⟩,c29⟩,c30⟩,c31⟩,c32⟩
theorem isNamed:Tryz.pinned.checked.prog.funcNamed Rows.topNoLeaseRow.func=some 4:=by kernel_rfl
theorem inst:Tryz.f4.isInstance Tryz.pinned.checked.prog Rows.topNoLeaseRow.origin Rows.topNoLeaseRow.targs:=by first|exact DE (by kernel_rfl)|rfl
theorem wrapped:Tryz.f4.isWrapper Tryz.pinned.checked.prog Rows.topNoLeaseRow.wrapper Rows.topNoLeaseRow.mainSum:=by unfold Func.isWrapper;first|(rw[Ay (by decide+kernel)];kernel_rfl)|(rw[Aw (by decide+kernel)];exact⟨rfl,rfl⟩)
end Go.Proofs.YtnhbioehiiifdaaGreat.topNoLease
