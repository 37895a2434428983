import Derived.Test.YtnhbioehiiifdaaGreatR01
import Derived.Great.BuildSlice
import Derived.Deep.QuietTactic
import Derived.Lib.SmallJoins
import Derived.Deep.RegionLaw
set_option maxRecDepth 100000
set_option maxHeartbeats 16000000
set_option linter.all false
namespace Go.Proofs.YtnhbioehiiifdaaGreat
open Go.ChangeShapes Go.WideShapes Go.ChangeAt Go.RowKit
def D0 (A:List Nat):List Edge→Nat
 |[]=>0
 |e::es=>(if Region.binds .any e=true then(1<<<e.on)|||A.getD e.on 0 else 0)|||D0 A es
def ancAll:List Oper→List Nat→List Nat
 |[],A=>A
 |o::os,A=>ancAll os (A++[D0 A o.after.toList])
def Down (a:List Oper)(l:Nat→Bool):Prop:=∀(k:Nat) (o:Oper),a[k]?=some o→l k=true→∀e∈o.after,Region.binds .any e=true→l e.on=true
theorem Kr {A:List Nat}{l:Nat→Bool}(d:∀k i,(A.getD k 0).testBit i=true→l k=true→l i=true):∀(es:List Edge),(∀e∈es,Region.binds .any e=true→l e.on=true)→∀i,(D0 A es).testBit i=true→l i=true
 |[],_,i,h=>by simp[D0]at h
 |e::es,hd,i,h=>by
  unfold D0 at h;rw[Gh,CQ]at h;rcases h with h|h
  ·by_cases a:Region.binds .any e=true
   ·rw[Ay a,Gh,CQ]at h
    have b:=hd e (by simp) a;rcases h with h|h
    ·rw[Nat.one_shiftLeft,Nat.testBit_two_pow]at h
     have:e.on=i:=by simpa using h
     rw[←this];exact b
    ·exact d _ _ h b
   ·rw[Aw a]at h
    simp at h
  ·exact Kr d es (fun f g=>hd f (by simp[g])) i h
theorem Mc {j:List Oper}{l:Nat→Bool}(f:Down j l):∀(a:List Oper) (A:List Nat),(∀k o,a[k]?=some o→j[A.length+k]?=some o)→(∀k i,(A.getD k 0).testBit i=true→l k=true→l i=true)→
  ∀k i,((ancAll a A).getD k 0).testBit i=true→l k=true→l i=true
 |[],A,_,hA=>hA
 |o::a,A,hs,hA=>by
  refine Mc f a (A++[D0 A o.after.toList]) (fun k q h=> ?_) (fun k i h g=> ?_)
  ·have:=hs (k+1) q (by simpa using h)
   rw[Aj,List.length_singleton,Cv,Nat.add_comm 1 k];exact this
  ·by_cases p:k<A.length
   ·rw[Af,AK p,←Af]at h
    exact hA k i h g
   ·by_cases b:k=A.length
    ·subst b
     rw[Af,AC (Av _),C8]at h;have d:=hs 0 o (by simp);rw[Nat.add_zero]at d;exact Kr hA _ (fun e b m=>f _ o d g e (by simpa using b) m) i h
    ·rw[Af,D7 (by simp;omega)]at h
     simp at h
theorem J8 {a:List Oper}{l:Nat→Bool}(b:Down a l){k i:Nat}(h:((ancAll a []).getD k 0).testBit i=true)(d:l k=true):l i=true:=
 Mc b a [] (fun k o h=>by simpa using h) (fun k i h=>by simp at h) k i h d
theorem LZ {A:List Nat}{n:Nat}(b:∀k i,(A.getD k 0).testBit i=true→i<k):∀(es:List Edge),(∀e∈es,Region.binds .any e=true→e.on<n)→∀i,(D0 A es).testBit i=true→i<n
 |[],_,i,h=>by simp[D0]at h
 |e::es,hd,i,h=>by
  unfold D0 at h;rw[Gh,CQ]at h;rcases h with h|h
  ·by_cases a:Region.binds .any e=true
   ·rw[Ay a,Gh,CQ]at h
    have g:=hd e (by simp) a;rcases h with h|h
    ·rw[Nat.one_shiftLeft,Nat.testBit_two_pow]at h
     have:e.on=i:=by simpa using h
     omega
    ·have:=b _ _ h;omega
   ·rw[Aw a]at h
    simp at h
  ·exact LZ b es (fun d f=>hd d (by simp[f])) i h
theorem Nl:∀(a:List Oper) (A:List Nat),C7 a A.length=true→(∀k i,(A.getD k 0).testBit i=true→i<k)→∀k i,((ancAll a A).getD k 0).testBit i=true→i<k
 |[],A,_,hA=>hA
 |o::a,A,hb,hA=>by
  have d:=FO (o::a) A.length 0 o hb (by simp);simp only[C7,Ar]at hb;refine Nl a (A++[D0 A o.after.toList]) (by rw[Aj,List.length_singleton];exact hb.2) (fun k i h=> ?_);by_cases g:k<A.length
  ·rw[Af,AK g,←Af]at h
   exact hA k i h
  ·by_cases b:k=A.length
   ·subst b
    rw[Af,AC (Av _),C8]at h;exact LZ hA _ (fun e b f=>by have:=d e (by simpa using b) f;omega) i h
   ·rw[Af,D7 (by simp;omega)]at h
    simp at h
theorem anc_lt {a:List Oper}{k i:Nat}(b:C7 a 0=true)(h:((ancAll a []).getD k 0).testBit i=true)(d:k<a.length):i<k:=Nl a [] b (fun k i h=>by simp at h) k i h
def mY (A c k:Nat)(x:Nat→Value):Nat→Value:=fun i=>if(c.testBit i&&A.testBit i)=true then x i else undef
def mL (c:Nat)(l:Nat→Bool):Nat→Bool:=fun i=>c.testBit i&&l i
def mX (c:Nat)(l:Nat→Bool)(x:Nat→Value):Nat→Value:=fun i=>if(c.testBit i&&l i)=true then x i else undef
def mV (c:Nat)(V:List ((Nat→Value)→Value))(A:List Nat)(x:Nat→Value)(k:Nat):Value:=if c.testBit k=true then x k else(V.getD k (fun _=>undef)) (mY (A.getD k 0) c k x)
structure Mix (os:List Oper) (c:Nat) (V:List ((Nat→Value)→Value)) (St:(Nat→Bool)→(Nat→Value)→World→Prop) (a:Act) (l:Nat→Bool) (x:Nat→Value) (w:World):Prop where
 down:Down os l
 own:∀k,l k=false→x k=ownVals os a k
 val:∀k,k<os.length→c.testBit k=false→l k=true→x k=mV c V (ancAll os []) x k
 st:St (mL c l) (mX c l x) w
def Dz (c:Nat)(V:List ((Nat→Value)→Value))(A:List Nat)(x:Nat→Value):List Edge→Prop
 |[]=>True
 |e::es=>(Region.binds .any e=true→x e.on=mV c V A x e.on)∧Dz c V A x es
section
variable {c:Nat} {V:List ((Nat→Value)→Value)} {A:List Nat} {x:Nat→Value} {n:Nat} {es:List Edge}
@[simp] theorem dv_nil:Dz c V A x []↔True:=Iff.rfl
@[simp] theorem dv_data:Dz c V A x (⟨n,.data⟩::es)↔(x n=mV c V A x n∧Dz c V A x es):=⟨fun h=>⟨h.1 rfl,h.2⟩,fun h=>⟨fun _=>h.1,h.2⟩⟩
@[simp] theorem dv_chain:Dz c V A x (⟨n,.chain⟩::es)↔(x n=mV c V A x n∧Dz c V A x es):=⟨fun h=>⟨h.1 rfl,h.2⟩,fun h=>⟨fun _=>h.1,h.2⟩⟩
@[simp] theorem dv_phase:Dz c V A x (⟨n,.phase⟩::es)↔(x n=mV c V A x n∧Dz c V A x es):=⟨fun h=>⟨h.1 rfl,h.2⟩,fun h=>⟨fun _=>h.1,h.2⟩⟩
@[simp] theorem dv_text {d:Departure}:Dz c V A x (⟨n,.textOnly d⟩::es)↔Dz c V A x es:=⟨fun h=>h.2,fun h=>⟨fun hb=>absurd hb (by simp[Region.binds]),h⟩⟩
@[simp] theorem dv_gc {d:Departure}:Dz c V A x (⟨n,.gcOnly d⟩::es)↔Dz c V A x es:=⟨fun h=>h.2,fun h=>⟨fun hb=>absurd hb (by simp[Region.binds]),h⟩⟩
end
theorem LO {b:List Oper}{c:Nat}{V:List ((Nat→Value)→Value)}{g:(Nat→Bool)→(Nat→Value)→World→Prop}{a:Act}{l:Nat→Bool}{x:Nat→Value}{w:World}(h:Mix b c V g a l x w):
  ∀es:List Edge,BD l es→(∀e∈es,Region.binds .any e=true→e.on<b.length)→Dz c V (ancAll b []) x es
 |[],_,_=>trivial
 |e::es,hd,hn=>⟨fun d=>by
   cases f:c.testBit e.on with
   |true=>unfold mV;rw[Ay f]
   |false=>exact h.val e.on (hn e (by simp) d) f (hd.1 d),LO h es hd.2 (fun i j=>hn i (by simp[j]))⟩
section
variable {P:Program} {Q:Exit→Act→World→Prop}
abbrev Ss (P:Program)(e:List Oper)(A:List Nat)(Q:Exit→Act→World→Prop)(c:Nat)(V:List ((Nat→Value)→Value))(f:(Nat→Bool)→(Nat→Value)→World→Prop)(a:Act)(k:Nat)(o:Oper):Prop:=
 ∀(L:Nat→Bool) (X x:Nat→Value) (W:World),f L X W→(∀i,L i=true→X i=x i)→(∀i,(c.testBit i&&(A.getD k 0).testBit i)=true→L i=true)→Dz c V (A) x o.after.toList→(∀i,(A.getD i 0).testBit k=true→x i=ownVals e a i)→(∀i,(A.getD i 0).testBit k=true→L i=false)→
  ∀b,Al e 0 x a=b→∀d:Act→World→Prop,(∀v h g,v=(V.getD k (fun _=>undef)) (mY (A.getD k 0) c k x)→b.put o.dst v=h→f L X g→d h g)→
   if Region.wanted o (yielded e.toArray b.tmps)=true then Oper.wp P o b W d Q else d (b.put o.dst undef) W
abbrev WL (P:Program)(e:List Oper)(A:List Nat)(Q:Exit→Act→World→Prop)(c:Nat)(V:List ((Nat→Value)→Value))(f:(Nat→Bool)→(Nat→Value)→World→Prop)(a:Act)(k:Nat)(o:Oper):Prop:=
 ∀(L:Nat→Bool) (X x:Nat→Value) (W:World),f L X W→L k=false→(∀i,L i=true→X i=x i)→(∀i,(c.testBit i&&(A.getD k 0).testBit i)=true→L i=true)→Dz c V (A) x o.after.toList→(∀i,(A.getD i 0).testBit k=true→x i=ownVals e a i)→(∀i,(A.getD i 0).testBit k=true→L i=false)→
  ∀b,Al e 0 x a=b→∀d:Act→World→Prop,(∀v h g,b.put o.dst v=h→f (upd L k true) (upd X k v) g→d h g)→
   if Region.wanted o (yielded e.toArray b.tmps)=true then Oper.wp P o b W d Q else d (b.put o.dst undef) W
def Gk (P:Program)(d:List Oper)(A:List Nat)(Q:Exit→Act→World→Prop)(c:Nat)(V:List ((Nat→Value)→Value))(b:(Nat→Bool)→(Nat→Value)→World→Prop)(a:Act):Nat→List Oper→Prop
 |_,[]=>True
 |k,o::l=>(if c.testBit k=true then WL P d A Q c V b a k o else Ss P d A Q c V b a k o)∧Gk P d A Q c V b a (k+1) l
theorem Gk.still {d:List Oper}{A:List Nat}{c:Nat}{V:List ((Nat→Value)→Value)}{b:(Nat→Bool)→(Nat→Value)→World→Prop}{a:Act}{k:Nat}{o:Oper}{l:List Oper}(e:c.testBit k=false)(h:Ss P d A Q c V b a k o)(f:Gk P d A Q c V b a (k+1) l):Gk P d A Q c V b a k (o::l):=
 ⟨by rw[Aw (by rw[e];decide)];exact h,f⟩
theorem Gk.turn {d:List Oper}{A:List Nat}{c:Nat}{V:List ((Nat→Value)→Value)}{b:(Nat→Bool)→(Nat→Value)→World→Prop}{a:Act}{k:Nat}{o:Oper}{l:List Oper}(e:c.testBit k=true)(h:WL P d A Q c V b a k o)(f:Gk P d A Q c V b a (k+1) l):Gk P d A Q c V b a k (o::l):=
 ⟨by rw[Ay e];exact h,f⟩
theorem Gk.nil {d:List Oper}{A:List Nat}{c:Nat}{V:List ((Nat→Value)→Value)}{b:(Nat→Bool)→(Nat→Value)→World→Prop}{a:Act}{k:Nat}:Gk P d A Q c V b a k []:=trivial
theorem Gk.s {d:List Oper}{A:List Nat}{c:Nat}{V:List ((Nat→Value)→Value)}{b:(Nat→Bool)→(Nat→Value)→World→Prop}{a:Act}{k:Nat}{o:Oper}{l:List Oper}(h:Ss P d A Q c V b a k o)(f:Gk P d A Q c V b a (k+1) l)(e:c.testBit k=false:=by rfl):Gk P d A Q c V b a k (o::l):= .still e h f
theorem Gk.t {d:List Oper}{A:List Nat}{c:Nat}{V:List ((Nat→Value)→Value)}{b:(Nat→Bool)→(Nat→Value)→World→Prop}{a:Act}{k:Nat}{o:Oper}{l:List Oper}(h:WL P d A Q c V b a k o)(f:Gk P d A Q c V b a (k+1) l)(e:c.testBit k=true:=by rfl):Gk P d A Q c V b a k (o::l):= .turn e h f
theorem Gk.at {b:List Oper}{c:Nat}{V:List ((Nat→Value)→Value)}{d:(Nat→Bool)→(Nat→Value)→World→Prop}{a:Act}:∀(l:List Oper) (i k:Nat) (o:Oper),Gk P b (ancAll b []) Q c V d a i l→l[k]?=some o→
  if c.testBit (i+k)=true then WL P b (ancAll b []) Q c V d a (i+k) o else Ss P b (ancAll b []) Q c V d a (i+k) o
 |[],_,_,_,_,h=>by simp at h
 |o'::l,i,0,o,hs,h=>by simp only[List.getElem?_cons_zero,BU]at h;subst h;exact hs.1
 |o'::l,i,k+1,o,hs,h=>by
  simp only[List.getElem?_cons_succ]at h;have:=Gk.at l (i+1) k o hs.2 h
  rwa [show i+1+k=i+(k+1) by omega]at this
theorem mY_upd {a:List Oper}{c k i:Nat}{l:Nat→Bool}{x:Nat→Value}(e:Down a l)(f:l k=true)(b:l i=false)(v:Value):mY ((ancAll a []).getD k 0) c k (upd x i v)=mY ((ancAll a []).getD k 0) c k x:=by
 funext j
 unfold mY;by_cases d:j=i
 ·subst d
  by_cases h:(c.testBit j&&((ancAll a []).getD k 0).testBit j)=true
  ·rw[Ar]at h
   rw[J8 e h.2 f]at b;cases b
  ·rw[Aw h,Aw h]
 ·rw[Bs _ _ _ _ d]
theorem VL {b:List Oper}{c k i:Nat}{V:List ((Nat→Value)→Value)}{l:Nat→Bool}{x:Nat→Value}(e:Down b l)(d:l k=true)(a:l i=false)(v:Value):mV c V (ancAll b []) (upd x i v) k=mV c V (ancAll b []) x k:=by
 have f:k≠i:=by rintro rfl;rw[d]at a;cases a
 unfold mV;rw[Bs _ _ _ _ f,mY_upd e d a]
theorem Down.upd {g:List Oper}{l:Nat→Bool}(h:Down g l)(m:C7 g 0=true){k:Nat}{o:Oper}(s:g[k]?=some o)(f:BD l o.after.toList):Down g (upd l k true):=by
 intro j t d r e a p;by_cases q:j=k
 ·subst q
  rw[s]at d;injection d with d;subst d
  have:∀es:List Edge,BD l es→∀e∈es,Region.binds .any e=true→l e.on=true:=by
   intro es
   induction es with
   |nil=>intro _ e a;cases a
   |cons e' es ih=>
    intro f e a m;rcases Ac.1 a with rfl|a
    ·exact f.1 m
    ·exact ih f.2 e a m
  have i:=this _ f e (by simpa using a) p;by_cases b:e.on=j
  ·rw[b,Bh]
  ·rw[Bs _ _ _ _ b];exact i
 ·rw[Bs _ _ _ _ q]at r
  have i:=h j t d r e a p;by_cases b:e.on=k
  ·rw[b,Bh]
  ·rw[Bs _ _ _ _ b];exact i
theorem Mix.step {d:List Oper}{c:Nat}{V:List ((Nat→Value)→Value)}{L:(Nat→Bool)→(Nat→Value)→World→Prop}{a:Act}(t:C7 d 0=true)(hs:Gk P d (ancAll d []) Q c V L a 0 d){k:Nat}{o:Oper}(B:d[k]?=some o):
  Sn P d Q (Mix d c V L a) a k o:=by
 intro l x w g r u K N;have Z:k<d.length:=(Ai.1 B).1
 have S:=LO g o.after.toList u (fun e m G=>by have:=FO d 0 k o t B e (by simpa using m) G;omega)
 have ab:∀e∈o.after,Region.binds .any e=true→l e.on=true:=by
  intro e m G
  have:∀es:List Edge,BD l es→∀e∈es,Region.binds .any e=true→l e.on=true:=by
   intro es
   induction es with
   |nil=>intro _ e m;cases m
   |cons e' es ih=>
    intro u e m t;rcases Ac.1 m with rfl|m
    ·exact u.1 t
    ·exact ih u.2 e m t
  exact this _ u e (by simpa using m) G
 have F:=g.down.upd t B u
 have R:∀i,(c.testBit i&&((ancAll d []).getD k 0).testBit i)=true→mL c l i=true:=by
  intro i f;rw[Ar]at f;have M:=J8 F f.2 (Bh _ _ _)
  have aa:i≠k:=by have:=anc_lt t f.2 Z;omega
  rw[Bs _ _ _ _ aa]at M;unfold mL;rw[f.1,M];rfl
 have O:∀i,mL c l i=true→mX c l x i=x i:=fun i f=>by unfold mX;unfold mL at f;rw[Ay f]
 have y:=Gk.at d 0 k o hs B;rw[AP]at y
 have X:∀i,((ancAll d []).getD i 0).testBit k=true→x i=ownVals d a i:=fun i f=>g.own i (by
  cases h:l i with
  |false=>rfl
  |true=>rw[J8 g.down f h]at r;cases r)
 have U:∀i,((ancAll d []).getD i 0).testBit k=true→mL c l i=false:=fun i f=>by
  unfold mL
  cases h:l i with
  |false=>rw[Bool.and_false]
  |true=>rw[J8 g.down f h]at r;cases r
 have W:∀v i,upd l k true i=false→upd x k v i=ownVals d a i:=fun v i f=>by
  by_cases b:i=k
  ·subst b;rw[Bh]at f;cases f
  ·rw[Bs _ _ _ _ b]at f⊢
   exact g.own i f
 cases p:c.testBit k with
 |false=>
  rw[Aw (by rw[p];decide)]at y;refine y (mL c l) (mX c l x) x w g.st O R S X U _ rfl K (fun v Y C hv H J=>H▸N v C ⟨F,W v,fun j I q s=> ?_, ?_⟩)
  ·by_cases z:j=k
   ·subst z
    rw[Bh];unfold mV;rw[Aw (by rw[q];decide)]
    have:mY ((ancAll d []).getD j 0) c j (upd x j v)=mY ((ancAll d []).getD j 0) c j x:=by
     funext i
     unfold mY;by_cases T:i=j
     ·subst T;rw[q];rfl
     ·rw[Bs _ _ _ _ T]
    rw[this];exact hv
   ·rw[Bs _ _ _ _ z]at s⊢
    rw[VL g.down s r];exact g.val j I q s
  ·have D:mL c (upd l k true)=mL c l:=by
    funext i
    unfold mL;by_cases b:i=k
    ·subst b;rw[p];rfl
    ·rw[Bs _ _ _ _ b]
   have E:mX c (upd l k true) (upd x k v)=mX c l x:=by
    funext i
    unfold mX;by_cases b:i=k
    ·subst b;rw[p];rfl
    ·rw[Bs _ _ _ _ b,Bs _ _ _ _ b]
   rw[D,E];exact J
 |true=>
  rw[Ay p]at y;refine y (mL c l) (mX c l x) x w g.st (by unfold mL;rw[r,Bool.and_false]) O R S X U _ rfl K (fun v Y C H J=>H▸N v C ⟨F,W v,fun j I q s=> ?_, ?_⟩)
  ·have z:j≠k:=by rintro rfl;rw[p]at q;cases q
   rw[Bs _ _ _ _ z]at s⊢;rw[VL g.down s r];exact g.val j I q s
  ·have D:mL c (upd l k true)=upd (mL c l) k true:=by
    funext i
    unfold mL;by_cases b:i=k
    ·subst b;rw[p,Bh,Bh];rfl
    ·rw[Bs _ _ _ _ b,Bs _ _ _ _ b]
   have E:mX c (upd l k true) (upd x k v)=upd (mX c l x) k v:=by
    funext i
    unfold mX;by_cases b:i=k
    ·subst b;rw[p,Bh,Bh,Bh];rfl
    ·rw[Bs _ _ _ _ b,Bs _ _ _ _ b,Bs _ _ _ _ b]
   rw[D,E];exact J
theorem Mix.steps {b:List Oper}{c:Nat}{V:List ((Nat→Value)→Value)}{d:(Nat→Bool)→(Nat→Value)→World→Prop}{a:Act}(e:C7 b 0=true)(f:Gk P b (ancAll b []) Q c V d a 0 b):∀(l:List Oper) (i:Nat),(∀k o,l[k]?=some o→b[i+k]?=some o)→IU P b Q (Mix b c V d a) a i l
 |[],i,_=>trivial
 |o::l,i,h=>⟨Mix.step e f (by simpa using h 0 o (by simp)),Mix.steps e f l (i+1) (fun k j g=>by have:=h (k+1) j (by simpa using g);rwa [show i+1+k=i+(k+1) by omega])⟩
def FK (c:Nat)(V:List ((Nat→Value)→Value))(A:List Nat)(X:Nat→Value)(k:Nat):Value:=if c.testBit k=true then X k else(V.getD k (fun _=>undef)) (fun i=>if(c.testBit i&&(A.getD k 0).testBit i)=true then X i else undef)
theorem Ln (b:List Oper):∀(i:Nat) (x y:Nat→Value) (a:Act),(∀k,k<b.length→x (i+k)=y (i+k))→Al b i x a=Al b i y a:=by
 induction b with
 |nil=>intro i x y a _;rfl
 |cons o b ih=>intro i x y a h;simp only[Al];rw[show x i=y i from h 0 (by simp)];exact ih _ _ _ _ (fun k d=>by have:=h (k+1) (by simp;omega);rwa [show i+(k+1)=i+1+k by omega]at this)
theorem Bq {b:List Oper}{A:List Nat}{id:Nat}{a:Act}{w:World}(c:Nat)(V:List ((Nat→Value)→Value))(g:(Nat→Bool)→(Nat→Value)→World→Prop)(y:P.follows .mixedOrders=true)(t:E7 b=true)(p:C7 b 0=true)(s:ancAll b []=A)
  (r:∀X,g (fun _=>false) X w.drew) (z:Gk P b A Q c V g a 0 b)
  (u:∀L X m,g L X m→(∀i,i<b.length→c.testBit i=true→L i=true)→Q .normal (Al b 0 (FK c V A X) a) m):
  (Code.region id b.toArray true).wp P Q a w:=by
 subst s;refine E9 (Mix b c V g a) y t p (⟨(fun k o B d=>by cases d),(fun k f=>rfl),(fun k f e d=>by cases d), ?_⟩) (Mix.steps p z b 0 (fun k o h=>by simpa using h)) b.length rfl (fun l x m j d=> ?_)
 ·have q:mL c (fun _=>false)=fun _=>false:=by funext i;unfold mL;rw[Bool.and_false]
  rw[q];exact r _
 ·have:=u _ _ _ j.st (fun i v e=>by unfold mL;rw[e,d i v];rfl)
  rw[Ln b 0 _ x a (fun k f=> ?_)]at this
  ·exact this
  ·rw[AP]
   unfold FK
   cases e:c.testBit k with
   |true=>rw[Ay rfl];unfold mX;rw[e,d k f];rfl
   |false=>
    rw[Aw (by decide),j.val k f e (d k f)];unfold mV;rw[Aw (by rw[e];decide)];refine A3 _ (funext fun i=> ?_);unfold mY mX;by_cases h:(c.testBit i&&((ancAll b []).getD k 0).testBit i)=true
    ·rw[Ay h,Ay h]
     rw[Ar]at h;rw[h.1,J8 j.down h.2 (d k f)];rfl
    ·rw[Aw h,Aw h]
theorem wM {b:List Oper}{A:List Nat}{id:Nat}{a:Act}{w:World}(c:Nat)(V:List ((Nat→Value)→Value))(d:(Nat→Bool)→(Nat→Value)→World→Prop)
  (f:∀X,d (fun _=>false) X w.drew) (m:Gk P b A Q c V d a 0 b)
  (k:∀L X e,d L X e→(∀i,i<b.length→c.testBit i=true→L i=true)→Q .normal (Al b 0 (FK c V A X) a) e) (l:P.follows .mixedOrders=true:=by kernel_rfl) (j:E7 b=true:=by kernel_rfl) (h:C7 b 0=true:=by kernel_rfl) (g:ancAll b []=A:=by kernel_rfl):
  (Code.region id b.toArray true).wp P Q a w:=Bq c V d l j h g f m k
end
section
variable {α:Type} {enc:α→List Value} {k:Nat}
def rows (enc:α→List Value)(L:List α):List Value:=(L.map enc).flatten
theorem E2 (y:α)(L:List α):rows enc (y::L)=enc y++rows enc L:=by simp[rows]
theorem Ij (L M:List α):rows enc (L++M)=rows enc L++rows enc M:=by simp[rows]
theorem I8 (L:List α)(y:α):rows enc (L++[y])=rows enc L++enc y:=by simp[rows]
theorem Eo (a:∀x,(enc x).length =k)(L:List α):(rows enc L).length =L.length*k:=by
 induction L with
 |nil=>simp[rows]
 |cons y L ih=>rw[E2,Aj,ih,a,List.length_cons,Dv,Nat.one_mul,Nat.add_comm]
theorem ON (b:∀x,∀v∈enc x,v.oneCell'=true)(L:List α):∀u∈rows enc L,u.oneCell'=true:=by intro u a;obtain⟨c,d,a⟩:=DY.1 a;obtain⟨y,f,rfl⟩:=AI.1 d;exact b y u a
theorem I9 (a:∀x,(enc x).length =k):∀(L:List α) (i:Nat) (y:α) (j:Nat),L[i]?=some y→j<k→(rows enc L)[i*k+j]?=(enc y)[j]?
 |[],i,y,j,h,_=>by simp at h
 |x::L,0,y,j,h,hj=>by simp at h;subst h;rw[E2,Nat.zero_mul,AP,AK (by rw[a];exact hj)]
 |x::L,i+1,y,j,h,hj=>by rw[E2,show(i+1)*k+j=(enc x).length +(i*k+j) by rw[a,Dv,Nat.one_mul];omega,AC (by omega)];rw[show(enc x).length +(i*k+j)-(enc x).length =i*k+j by omega];exact I9 a L i y j (by simpa using h) hj
theorem JI (a:∀x,(enc x).length =k):∀(L:List α) (i:Nat),(rows enc L).take (i*k)=rows enc (L.take i)
 |[],i=>by simp[rows]
 |x::L,0=>by simp[rows]
 |x::L,i+1=>by rw[E2,show(i+1)*k=(enc x).length +i*k by rw[a,Dv,Nat.one_mul];omega,List.take_length_add_append,JI a L i,List.take_succ_cons,E2]
theorem JK (a:∀x,(enc x).length =k):∀(L:List α) (i:Nat),(rows enc L).drop (i*k)=rows enc (L.drop i)
 |[],i=>by simp[rows]
 |x::L,0=>by simp
 |x::L,i+1=>by rw[E2,show(i+1)*k=(enc x).length +i*k by rw[a,Dv,Nat.one_mul];omega,List.drop_length_add_append,JK a L i,BB]
theorem QW (a:∀x,(enc x).length =k)(L:List α)(i:Nat):(rows enc L).take (i*k)++(rows enc L).drop ((i+1)*k)=rows enc (L.eraseIdx i):=by rw[List.eraseIdx_eq_take_drop_succ,JI a,JK a,Ij]
theorem Vn (a:∀x,(enc x).length =k)(L:List α)(i:Nat)(y:α)(b:i<L.length):BQ (rows enc L) (i*k) (enc y)=rows enc (L.set i y):=by unfold BQ;rw[a,show i*k+k=(i+1)*k by rw[Dv,Nat.one_mul],JI a,JK a,CF,Ay b,Ij,E2]
theorem V4 (A B C a:List Value)(j:Nat)(h:j+a.length≤B.length):BQ (A++(B++C)) (A.length+j) a=A++(BQ B j a++C):=by unfold BQ;rw[List.take_length_add_append,BE (by omega),show A.length+j+a.length=A.length+(j+a.length) by omega,List.drop_length_add_append,C3 h];simp
theorem MC (a:List Value)(o:Nat)(u:Value)(h:o<a.length):a.set o u=BQ a o [u]:=by rw[CF,Ay h];rfl
theorem JJ (b:∀x,(enc x).length =k)(L:List α)(i:Nat)(h:i<L.length)(d f:α)(c a:List Value)(j:Nat)(l:j+a.length≤k)(g:enc f=BQ (enc d) j a):BQ (rows enc (L.set i d)++c) (i*k+j) a=rows enc (L.set i f)++c:=by
 have e:∀y,rows enc (L.set i y)=rows enc (L.take i)++(enc y++rows enc (L.drop (i+1))):=fun y=>by rw[CF,Ay h,Ij,E2]
 have m:(rows enc (L.take i)).length =i*k:=by rw[Eo b,Az,BZ (by omega)]
 rw[e,e,Ax,Ax,←m,V4 _ _ _ _ _ (by rw[b];exact l),g];simp
variable {w:World} {base n:Nat} {T:TypeId} {v:Value}
theorem C5 {xs:List Value}(h:w.ownsRow base T k v n xs):∀b,v.ownBlock=some b→Ty w b T:=by
 intro b a;rcases h.2 with⟨rfl,f⟩|⟨g,cap,d,rfl,_,c,_⟩
 ·cases a
 ·cases a;exact⟨_,_,c⟩
theorem Keep.ownsRow {w a:World}{xs:List Value}{S:List Nat}(h:w.ownsRow base T k v n xs)(m:Keep S w a)(d:∀b,v.ownBlock=some b→b∉S):a.ownsRow base T k v n xs:=by
 have j:=B3 h;refine⟨h.1, ?_⟩;rcases h.2 with⟨rfl,l⟩|⟨g,cap,c,rfl,f,i,r⟩
 ·exact .inl ⟨rfl,l⟩
 ·exact .inr ⟨g,cap,c,rfl,f,by rw[m.block g (j g rfl).2 (d g rfl)];exact i,r⟩
def Do:=@Keep.ownsRow
theorem Cq {L:List α}(c:∀x,(enc x).length =k)(h:w.ownsRow base T k v L.length (rows enc L)){i:Nat}{y:α}(f:L[i]?=some y):
  ∃g cap,v=.slice (some ⟨g,0,none⟩) L.length cap∧base≤g∧g<w.heap.size∧w.rangeAt g (i*k) (enc y)∧(∀j,w.frozen? ⟨g,j,none⟩=false)∧Ty w g T:=by
 have u:=(Ai.1 f).1;have o:=B3 h;rcases h.2 with⟨rfl,z⟩|⟨g,cap,q,rfl,l,b,A,r,s,p⟩
 ·omega
 ·refine⟨g,cap,rfl,l,(o g rfl).2,fun j x d=> ?_,fun j=>by simp[World.frozen?,b],⟨_,_,b⟩⟩
  have m:j<k:=by have:=(Ai.1 d).1;rw[c]at this;exact this
  have a:=I9 c L i y j f m;rw[d,←p,BP]at a
  split at a
  ·simp only[World.cell?,b]
   rw[←CV];exact a
  ·cases a
theorem E4 {xs:List Value}(h:w.ownsRow base T k v n xs)(o:0<n):∃g cap spare,v=.slice (some ⟨g,0,none⟩) n cap∧n≤cap∧base≤g∧Blk w g (xs++spare) T∧cap*k=xs.length+spare.length∧cap≤maxLen:=by
 rcases h.2 with⟨rfl,m⟩|⟨g,cap,a,rfl,b,f,i,c,d,j⟩
 ·omega
 ·have l:=h.1
  have e:xs++a.toList.drop (n*k)=a.toList:=by
   conv=>rhs;rw[←BX (n*k) a.toList]
   rw[j]
  refine⟨g,cap,a.toList.drop (n*k),rfl,i,b, ?_, ?_,c⟩
  ·unfold Blk
   rw[e];exact f
  ·have:=A3 List.length e
   rw[Aj]at this;rw[this];simpa using d.symm
theorem Blk.ownsRow {xs spare:List Value}{g cap:Nat}(h:Blk w g (xs++spare) T)(a:xs.length=n*k)(f:n≤cap)(c:cap*k=xs.length+spare.length)(d:cap≤maxLen)(b:base≤g):w.ownsRow base T k (.slice (some ⟨g,0,none⟩) n cap) n xs:=
 ⟨a,.inr ⟨g,cap,_,rfl,b,h,f,d,by simp[c],by rw[←a];simp⟩⟩
def Yy:=@Blk.ownsRow
variable {P:Program} {t e:TypeId}
theorem KI (g:P.underlying t=some (.slice e))(w:World)(b:Nat)(a:List Value)(f:a.length=k)(h:Blk w b a T)(d:∀v∈a,v.oneCell'=true):Src P k t (.slice (some ⟨b,0,none⟩) 1 1) 1 a w:=by refine CC _ g ⟨b,0,none⟩ 1 1 a (by rw[f,Nat.one_mul]) ?_ d;intro j x i;rw[show(⟨b,0,none⟩:Addr).add j=⟨b,j,none⟩ by by_cases c:j=0<;>simp[Addr.add,c],h.cell];exact i
theorem Ny {w:World}{j:Array Oper}{o:Oper}{a:Act}{K:Act→World→Prop}{Q:Exit→Act→World→Prop}{F:Prop}(c:o.guard=none)(x:Operand)(d:o.op=.buildSlice t 1 #[(0,x)])(b:List Value)(g:a.eval x=.agg b.toArray)
  (f:∀W:World,(Instr.buildSlice t 1 #[(0,.agg b.toArray)]).run P W=.ok (.slice (some ⟨W.heap.size,0,none⟩) 1 1) (W.alloc (.cells b.toArray T)))
  (h:K (a.put o.dst (.slice (some ⟨w.heap.size,0,none⟩) 1 1)) (w.alloc (.cells b.toArray T))):if Region.wanted o (yielded j a.tmps)=true then Oper.wp P o a w K Q else F:=by
 rw[Ay (by simp[Region.wanted,c])];unfold Oper.wp execOp;have e:(#[(0,x)]:Array (Nat×Operand)).map (fun(i,x)=>(i,a.eval x))=#[(0,.agg b.toArray)]:=by simp[g]
 simp only[d,e,Db,f,Result.andThen_ok];exact h
theorem DM {i:Array Oper}{rest:List Oper}{op:Oper}{a:Act}{w:World}{Q:Exit→Act→World→Prop}(l:op.guard=none)(ty:TypeId)(x y:Operand)(p:op.op=.store ty x y)
  (b o:Nat) (c cells:List Value) (q:a.eval x=pr b o) (r:a.eval y=.agg cells.toArray) (f:Blk w b c T) (g:o+cells.length≤c.length) (m:(P.info? ty).map (·.size)=some cells.length) (j:∀v∈cells,v.oneCell'=true)
  (h:∀d,Blk d b (BQ c o cells) T→Keep [b] w d→wpList P i Q rest (a.put op.dst undef) d):wpList P i Q (op::rest) a w:=
 wpList_store_mid l ty x y p b o cells.toArray q r (f.there o _ (by simpa using g)) (by simpa using m) (Fe j) (h _ (f.setCells cells o w _ g) (E6 _ _ _ _ (By _ _) (.inl (by simp))))
theorem Wf (w:World)(T:TypeId)(k:Nat):(w.alloc (.cells #[] T)).ownsRow w.heap.size T k (.slice (some ⟨w.heap.size,0,none⟩) 0 0) 0 []:=⟨by simp,.inr ⟨w.heap.size,0,#[],rfl,Av _,BY w [] T,by simp,by unfold maxLen;omega,by simp,by simp⟩⟩
end
structure As where
 P:List Nat→World→Prop
 keep:∀ {F S:List Nat} {w w':World},P F w→Keep S w w'→(∀q∈S,q∉F)→P F w'
 lt:∀ {F:List Nat} {w:World},P F w→∀q∈F,q<w.heap.size
def J9:List As→List Nat→World→Prop
 |[],F,_=>F=[]
 |A::l,F,w=>∃a c,F=a++c∧A.P a w∧J9 l c w∧∀q∈a,q∉c
theorem J9.keep:∀ {l:List As} {F S:List Nat} {w w':World},J9 l F w→Keep S w w'→(∀q∈S,q∉F)→J9 l F w'
 |[],_,_,_,_,h,_,_=>h
 |A::l,_,S,w,w',⟨F1,F2,rfl,h1,h2,hd⟩,k,hS=>⟨F1,F2,rfl,A.keep h1 k (fun q c a=>hS q c (A2 _ a)),J9.keep h2 k (fun q c a=>hS q c (AQ _ a)),hd⟩
theorem J9.lt:∀ {l:List As} {F:List Nat} {w:World},J9 l F w→∀q∈F,q<w.heap.size
 |[],_,_,h,q,a=>by have c:_=[]:=h;rw[c]at a;cases a
 |A::l,_,w,⟨F1,F2,rfl,h1,h2,hd⟩,q,a=>by
  rcases Ag.1 a with a|a
  ·exact A.lt h1 q a
  ·exact J9.lt h2 q a
theorem J9.app:∀ {l m:List As} {F G:List Nat} {w:World},J9 l F w→J9 m G w→(∀q∈F,q∉G)→J9 (l++m) (F++G) w
 |[],m,F,G,w,h,hm,hd=>by have c:F=[]:=h;subst c;exact hm
 |A::l,m,_,G,w,⟨F1,F2,rfl,h1,h2,hd⟩,hm,hG=>
  ⟨F1,F2++G,by rw[Ax],h1,J9.app h2 hm (fun q a=>hG q (AQ _ a)),fun q a d=>by
   rcases Ag.1 d with h|h
   ·exact hd q a h
   ·exact hG q (A2 _ a) h⟩
theorem J9.split:∀ {l m:List As} {F:List Nat} {w:World},J9 (l++m) F w→∃a c,F=a++c∧J9 l a w∧J9 m c w∧∀q∈a,q∉c
 |[],m,F,w,h=>⟨[],F,rfl,rfl,h,by simp⟩
 |A::l,m,_,w,⟨a,c,rfl,h1,h2,hd⟩=>by
  obtain⟨e,g,rfl,j,k,i⟩:=J9.split h2;refine⟨a++e,g,by rw[Ax],⟨a,e,rfl,h1,j,fun q d n=>hd q d (A2 _ n)⟩,k,fun q d f=> ?_⟩;rcases Ag.1 d with h|h
  ·exact hd q h (AQ _ f)
  ·exact i q h f
theorem J9.perm {l m:List As}(p:l.Perm m):∀ {F:List Nat} {w:World},J9 l F w→∃G,J9 m G w∧∀q,q∈G↔q∈F:=by
 induction p with
 |nil=>exact fun h=>⟨_,h,fun _=>Iff.rfl⟩
 |cons A p ih=>rintro F w ⟨c,e,rfl,g,i,d⟩;obtain⟨G,j,a⟩:=ih i;exact⟨c++G,⟨c,G,rfl,g,j,fun q h n=>d q h ((a q).1 n)⟩,fun q=>by rw[Ag,Ag,a q]⟩
 |swap A B l=>
  rintro F w ⟨c,_,rfl,g,⟨e,f,rfl,i,o,s⟩,d⟩;refine⟨e++(c++f),⟨e,c++f,rfl,i,⟨c,f,rfl,g,o,fun q a h=>d q a (AQ _ h)⟩,fun q a h=> ?_⟩,fun q=> ?_⟩
  ·rcases Ag.1 h with h|h
   ·exact d q h (A2 _ a)
   ·exact s q a h
  ·simp only[Ag]
   constructor
   ·rintro(h|h|h)
    ·exact .inr (.inl h)
    ·exact .inl h
    ·exact .inr (.inr h)
   ·rintro(h|h|h)
    ·exact .inr (.inl h)
    ·exact .inl h
    ·exact .inr (.inr h)
 |trans _ _ ih1 ih2=>intro F w h;obtain⟨G,j,a⟩:=ih1 h;obtain⟨k,r,t⟩:=ih2 j;exact⟨k,r,fun q=>(t q).trans (a q)⟩
def Sp (l:List As)(w:World):Prop:=∃F,J9 l F w
section
variable {A B:As} {l m R:List As} {w w':World}
theorem Sp.perm (h:Sp l w)(p:l.Perm m):Sp m w:=by obtain⟨F,hF⟩:=h;obtain⟨G,a,_⟩:=J9.perm p hF;exact⟨G,a⟩
theorem Sp.still (h:Sp l w)(k:Keep [] w w'):Sp l w':=by obtain⟨F,hF⟩:=h;exact⟨F,hF.keep k (by simp)⟩
theorem Sp.drew (h:Sp l w):Sp l w.drew:=h.still (By _ _).drew
theorem Sp.step (h:Sp (A::R) w):∃F,A.P F w∧∀(l:List As) (w':World) (G:List Nat),J9 l G w'→Keep F w w'→(∀q∈G,q∈F∨w.heap.size≤q)→Sp (l++R) w':=by
 obtain⟨_,e,f,rfl,g,c,d⟩:=h;refine⟨e,g,fun l w' G j k i=>⟨G++f,J9.app j (c.keep k d) (fun q n h=> ?_)⟩⟩;rcases i q n with a|a
 ·exact d q a h
 ·have:=c.lt q h;omega
theorem Sp.one (h:Sp (A::R) w):∃F,A.P F w∧∀(B:As) (w':World) (G:List Nat),B.P G w'→Keep F w w'→(∀q∈G,q∈F∨w.heap.size≤q)→Sp (B::R) w':=by obtain⟨F,hF,d⟩:=h.step;exact⟨F,hF,fun B w' G a k c=>d [B] w' G ⟨G,[],(AE _).symm,a,rfl,by simp⟩ k c⟩
theorem Sp.two (h:Sp (A::B::R) w):∃a c,A.P a w∧B.P c w∧(∀q∈a,q∉c)∧∀(l:List As) (w':World) (G:List Nat),J9 l G w'→Keep (a++c) w w'→(∀q∈G,q∈a++c∨w.heap.size≤q)→Sp (l++R) w':=by
 obtain⟨_,a,_,rfl,n,⟨c,f,rfl,o,g,r⟩,i⟩:=h;refine⟨a,c,n,o,fun q e h=>i q e (A2 _ h),fun l w' G s k p=> ?_⟩
 have j:∀q∈a++c,q∉f:=fun q e h=>by
  rcases Ag.1 e with d|d
  ·exact i q d (AQ _ h)
  ·exact r q d h
 refine⟨G++f,J9.app s (g.keep k j) (fun q e h=> ?_)⟩;rcases p q e with d|d
 ·exact j q d h
 ·have:=g.lt q h;omega
theorem Sp.new (h:Sp R w)(k:Keep [] w w'){G:List Nat}(c:J9 l G w')(a:∀q∈G,w.heap.size≤q):Sp (l++R) w':=by obtain⟨F,hF⟩:=h;exact⟨G++F,J9.app c (hF.keep k (by simp)) (fun q d h=>by have e:=hF.lt q h;have f:=a q d;omega)⟩
theorem Sp.new1 (h:Sp R w)(k:Keep [] w w'){G:List Nat}(a:B.P G w')(c:∀q∈G,w.heap.size≤q):Sp (B::R) w':=
 h.new (l:=[B]) (G:=G) k ⟨G,[],(AE _).symm,a,rfl,by simp⟩ c
theorem Sp.drop (h:Sp (A::R) w):Sp R w:=by obtain⟨_,d,a,rfl,e,c,f⟩:=h;exact⟨a,c⟩
theorem Sp.dropL (h:Sp (l++R) w):Sp R w:=by obtain⟨F,hF⟩:=h;obtain⟨d,a,rfl,e,c,f⟩:=J9.split hF;exact⟨a,c⟩
theorem Sp.weak (h:Sp (A::R) w)(g:∀F,A.P F w→B.P F w):Sp (B::R) w:=by obtain⟨_,a,c,rfl,d,e,f⟩:=h;exact⟨_,a,c,rfl,g _ d,e,f⟩
end
def pull:Nat→List As→List As
 |n+1,a::l=>match pull n l with
  |b::l'=>b::a::l'
  |[]=>[a]
 |_,l=>l
def push:Nat→List As→List As
 |n+1,a::b::l=>b::push n (a::l)
 |_,l=>l
theorem MJ:∀(n:Nat) (l:List As),(pull n l).Perm l
 |0,l=>by cases l<;>exact Df _
 |n+1,[]=>Df _
 |n+1,a::l=>by
  have c:=MJ n l;unfold pull
  split
  ·rename_i b l' he
   rw[he]at c;exact(List.Perm.swap a b l').trans (List.Perm.cons a c)
  ·rename_i he
   rw[he]at c;exact List.Perm.cons a c
theorem MI:∀(n:Nat) (l:List As),(push n l).Perm l
 |0,l=>by cases l<;>exact Df _
 |n+1,[]=>Df _
 |n+1,[a]=>Df _
 |n+1,a::b::l=>by unfold push;exact(List.Perm.cons b (MI n (a::l))).trans (List.Perm.swap a b l)
theorem Sp.pull {l:List As}{w:World}(h:Sp l w)(n:Nat):Sp (pull n l) w:=h.perm (MJ n l).symm
theorem Sp.push {l:List As}{w:World}(h:Sp l w)(n:Nat):Sp (push n l) w:=h.perm (MI n l).symm
def ED (l:List As):As:=⟨J9 l,J9.keep,J9.lt⟩
def As.ex {α:Sort _}(f:α→As):As:=⟨fun F w=>∃a,(f a).P F w,fun⟨a,h⟩ k c=>⟨a,(f a).keep h k c⟩,fun⟨a,h⟩=>(f a).lt h⟩
def As.and (p:Prop)(A:As):As:=⟨fun F w=>p∧A.P F w,fun⟨c,h⟩ k a=>⟨c,A.keep h k a⟩,fun⟨_,h⟩=>A.lt h⟩
section
variable {R l:List As} {w w':World}
theorem Sp.open_ (h:Sp (ED l::R) w):Sp (l++R) w:=by obtain⟨_,e,f,rfl,a,c,d⟩:=h;exact⟨_,J9.app a c d⟩
theorem Sp.close (l:List As)(h:Sp (l++R) w):Sp (ED l::R) w:=by obtain⟨F,hF⟩:=h;obtain⟨a,c,rfl,d,e,f⟩:=J9.split hF;exact⟨_,a,c,rfl,d,e,f⟩
def DV:=@Sp.close
theorem Sp.exE {α:Sort _}{f:α→As}(h:Sp (As.ex f::R) w):∃a,Sp (f a::R) w:=by obtain⟨_,c,d,rfl,⟨a,e⟩,g,i⟩:=h;exact⟨a,_,c,d,rfl,e,g,i⟩
theorem Sp.exI {α:Sort _}{f:α→As}(a:α)(h:Sp (f a::R) w):Sp (As.ex f::R) w:=by obtain⟨_,c,d,rfl,e,g,i⟩:=h;exact⟨_,c,d,rfl,⟨a,e⟩,g,i⟩
theorem Sp.andE {p:Prop}{A:As}(h:Sp (As.and p A::R) w):p∧Sp (A::R) w:=by obtain⟨_,a,c,rfl,⟨g,d⟩,e,f⟩:=h;exact⟨g,_,a,c,rfl,d,e,f⟩
theorem Sp.andI {p:Prop}{A:As}(g:p)(h:Sp (A::R) w):Sp (As.and p A::R) w:=by obtain⟨_,a,c,rfl,d,e,f⟩:=h;exact⟨_,a,c,rfl,⟨g,d⟩,e,f⟩
def AM (b:Nat)(cs:List Value)(T:TypeId):As:=⟨fun F w=>F=[b]∧Blk w b cs T,fun⟨hF,h⟩ k c=>⟨hF,h.keep k (fun d=>c b d (by rw[hF];simp))⟩,fun⟨hF,h⟩ q a=>by rw[hF]at a;simp at a;subst a;exact h.lt⟩
def BF (T:TypeId)(k:Nat)(v:Value)(n:Nat)(xs:List Value):As:=⟨fun F w=>F=v.ownBlock.toList∧w.ownsRow 0 T k v n xs,fun⟨hF,h⟩ f c=>⟨hF,Do h f (fun b d e=>c b e (by rw[hF,d];simp))⟩,fun⟨hF,h⟩ q a=>by rw[hF]at a;exact(B3 h q (by simpa using a)).2⟩
variable {b:Nat} {cs:List Value} {T:TypeId}
theorem Sp.blk (h:Sp (AM b cs T::R) w):Blk w b cs T:=by obtain⟨_,c,d,rfl,⟨_,a⟩,e,f⟩:=h;exact a
theorem Sp.row {k n:Nat}{v:Value}{xs:List Value}(h:Sp (BF T k v n xs::R) w):w.ownsRow 0 T k v n xs:=by obtain⟨_,c,d,rfl,⟨_,a⟩,e,f⟩:=h;exact a
theorem Sp.set (h:Sp (AM b cs T::R) w){a:List Value}(c:Blk w' b a T)(k:Keep [b] w w'):Sp (AM b a T::R) w':=by obtain⟨F,⟨hF,f⟩,e⟩:=h.one;exact e _ _ [b] ⟨rfl,c⟩ (hF▸k) (fun q d=> .inl (by rw[hF];exact d))
theorem Sp.setCell (h:Sp (AM b cs T::R) w)(i:Nat)(v:Value):Sp (AM b (cs.set i v) T::R) (w.setCell ⟨b,i,none⟩ v):=
 h.set (h.blk.set i v) (Or (p:=⟨b,i,none⟩) (By [b] w) (.inl (Ah.2 rfl)) v)
theorem Sp.alloc (h:Sp R w)(cs:List Value)(T:TypeId):Sp (AM w.heap.size cs T::R) (w.alloc (.cells cs.toArray T)):=
 h.new1 (G:=[w.heap.size]) ((By _ _).alloc _) ⟨rfl,BY _ _ _⟩ (by simp)
theorem Sp.nilRow (h:Sp R w)(T:TypeId)(k:Nat):Sp (BF T k (.slice none 0 0) 0 []::R) w:=
 h.new1 (G:=[]) (By _ _) ⟨rfl,AY w 0 T k⟩ (by simp)
theorem Sp.at {A:As}:∀ {l:List As} {w:World},Sp l w→∀n:Nat,l[n]?=some A→∃F,A.P F w
 |[],_,_,n,hn=>by simp at hn
 |B::l,w,⟨_,F1,F2,rfl,h1,h2,hd⟩,0,hn=>by simp at hn;subst hn;exact⟨F1,h1⟩
 |B::l,w,⟨_,F1,F2,rfl,h1,h2,hd⟩,n+1,hn=>Sp.at (l:=l) ⟨F2,h2⟩ n (by simpa using hn)
theorem Sp.pre {l m:List As}{w:World}(h:Sp (l++m) w):Sp l w:=by obtain⟨F,hF⟩:=h;obtain⟨a,d,rfl,c,e,f⟩:=J9.split hF;exact⟨a,c⟩
end
def Kw (is:List Nat)(l:List As):List As:=is.filterMap (fun i=>l[i]?)
theorem QS (l:List As):Kw (List.range l.length) l=l:=by
 unfold Kw
 induction l with
 |nil=>rfl
 |cons a l ih=>rw[List.length_cons,List.range_succ_eq_map,List.filterMap_cons];simp only[List.getElem?_cons_zero,List.filterMap_map,Function.comp_def,List.getElem?_cons_succ];rw[ih]
theorem T3 {is:List Nat}{l:List As}(h:is.isPerm (List.range l.length)=true):(Kw is l).Perm l:=by have:=(List.isPerm_iff.1 h).filterMap (fun i=>l[i]?);have e:=QS l;unfold Kw at*;rw[e]at this;exact this
theorem Vh (is a:List Nat)(l:List As):Kw (is++a) l=Kw is l++Kw a l:=List.filterMap_append
theorem Sp.sel {l R:List As}{w:World}(h:Sp (l++R) w)(is:List Nat)(k:Nat)(a:l.length=k)(c:is.isPerm (List.range k)=true):Sp (Kw is l++R) w:=
 h.perm ((T3 (by rw[a];exact c)).symm.append_right R)
def YH:=@Sp.sel
theorem Sp.focus {l R:List As}{w:World}(h:Sp (l++R) w)(is d:List Nat)(k:Nat)(c:l.length=k)(n:(is++d).isPerm (List.range k)=true):∃F,J9 (Kw is l) F w∧∀(a:List Nat) (m:List As) (w':World) (G:List Nat),J9 m G w'→Keep F w w'→(∀q∈G,q∈F∨w.heap.size≤q)→(m++Kw d l).length =a.length→a.isPerm (List.range a.length)=true→Sp (Kw a (m++Kw d l)++R) w':=by have e:=h.sel _ k c n;rw[Vh,Ax]at e;obtain⟨F,hF,o⟩:=(DV _ e).step;refine⟨F,hF,fun a m w' G j p g i c=> ?_⟩;have f:=o m w' G j p g;rw[←Ax]at f;exact f.sel _ _ i c
def Yq:=@Sp.focus
def Sv (n x:Int):Int:=if 0≤x∧x≤1099511627776-n then n+x else n
def I4 (n:Int)(l:List Int):Int:=l.foldl Sv n
structure IsClock (w:World) (b:Nat) (n:Int):Prop where
 blk:Blk w b [.int .i64 n] 158
 lo:0≤n
 hi:n≤1099511627776
theorem IsClock.keep {S:List Nat}{w a:World}{b:Nat}{n:Int}(h:IsClock w b n)(k:Keep S w a)(c:b∉S):IsClock a b n:=⟨h.blk.keep k c,h.lo,h.hi⟩
theorem DN {b:Nat}{n:Int}{w:World}(h:IsClock w b n):
  Calls Tryz.prog 53 #[pr b 0] w fun e a=>e=.returned (.int .i64 n)∧w=a:=by
 have c:=h.blk.cell 0;clear h;go_enter Tryz.func53,Tryz.ntmps53;go_wp2;go_ret;exact⟨rfl,rfl⟩
def Sw (n t:Int):Int:=if t<0∨n<t then 0 else n-t
theorem E0 {b:Nat}{n:Int}{w:World}(t:Int)(h:IsClock w b n)(m:Int)(d:m=Sw n t):
  Calls Tryz.prog 167 #[pr b 0,.int .i64 t] w fun e f=>e=.returned (.int .i64 m)∧w=f:=by
 subst d;have j:=h.blk.cell 0;obtain⟨_,g,i⟩:=h;unfold Sw;by_cases a:t<0
 ·go_enter Tryz.func167,Tryz.ntmps167
  go_wp2;go_ret;exact⟨by simp[a],rfl⟩
 ·by_cases c:n<t
  all_goals go_enter Tryz.func167,Tryz.ntmps167;go_wp2;go_ret;exact⟨by simp[a,c],rfl⟩
def Ticked (b:Nat)(m:Int)(w:World)(e:Ending)(a:World):Prop:=e=.returned (.int .i64 m)∧IsClock a b m∧Keep [b] w a
theorem Ts {b:Nat}{n:Int}{w:World}(a:Option Addr)(cap:Nat)(h:IsClock w b n)(m:Int)(g:m=I4 n [1]):
  Calls Tryz.prog 87 #[pr b 0,.slice a 0 cap] w (Ticked b m w):=by
 subst g;have o:=h.blk.lt;have c:=h.blk;obtain⟨_,j,k⟩:=h;have f:=c.cell 0;have i:=c.free 0;have d:=h_ c;clear c;simp only[List.getElem?_cons_zero]at f;by_cases l:1≤1099511627776-n
 ·have e:I4 n [1]=n+1:=by simp[I4,Sv];omega
  rw[e];clear e;go_enter Tryz.func87,Tryz.ntmps87;go_wp2
  go_rounds 2
  go_ret;exact⟨rfl,⟨(d.out.set 0 _).alloc _,by omega,by omega⟩,((By _ _).setCell (by simp) _).alloc _⟩
 ·have e:I4 n [1]=n:=by simp[I4,Sv];omega
  rw[e];clear e;go_enter Tryz.func87,Tryz.ntmps87;go_wp2
  go_rounds 2
  go_ret;exact⟨rfl,⟨(d.out.alloc _),by omega,by omega⟩,((By _ _).alloc _)⟩
theorem Buf.ty {w:World}{base:Nat}{E:TypeId}{v:Value}{l:List Nat}(h:Buf w base E v l):∀k,v.ownBlock=some k→Ty w k E:=by
 have a:Own w base E v (Bb l):=by unfold Own;rw[Bd];exact h
 exact a.ty
def Hy (w:World)(s d at_ turn:Nat)(c:List Nat)(b:Nat):Prop:=
 ∃a,Blk w s [pr d 0,.int .i64 at_,.int .i64 turn,a,.int .i64 b] 209∧Buf w 0 5 a c
theorem Hy.keep {w f:World}{s d at_ turn:Nat}{e:List Nat}{c:Nat}{S:List Nat}(h:Hy w s d at_ turn e c)(k:Keep S w f)(g:s∉S)(j:∀x∈S,¬Ty w x 5):Hy f s d at_ turn e c:=by obtain⟨n,i,a⟩:=h;exact⟨n,i.keep k g,a.keep k (fun b l m=>j b m (a.ty b l))⟩
theorem Hy.lt {w:World}{s d at_ turn:Nat}{c:List Nat}{b:Nat}(h:Hy w s d at_ turn c b):s<w.heap.size:=by obtain⟨e,a,_⟩:=h;exact a.lt
theorem O6 {w:World}{d sb:Nat}{L:List Sec}{c:Nat}(a:IsDev w d sb L c)(at_:Nat)(f:at_+1<L.length):
  Calls Tryz.prog 108 #[pr d 0,.int .i64 at_] w fun e b=>e=.returned (.bool true)∧w=b:=by
 have g:=a.max;have h:(0:Int)≤at_:=by omega
 have i:(at_:Int)<(L.length:Int)-1:=by omega
 go_enter Tryz.func108,Tryz.ntmps108;go_wp2_with fail;refine(IH a).mono ?_;rintro e j ⟨rfl,rfl⟩;go_wp2;go_ret;exact⟨rfl,rfl⟩
theorem NW (L:List Sec):(L.map flushSec).map flushSec=L.map flushSec:=by simp[flushSec]
theorem Ud (L:List Sec)(i:Nat)(a b m:Sec)(z:List Nat)(c:z=List.replicate 64 0)(f:a.now=z)(g:b.now=z):
  ((((L.set i a).set (i+1) b).map flushSec).map flushSec).set i m=((L.map flushSec).set (i+1) zeroSec).set i m:=by
 have d:flushSec a=zeroSec:=by unfold flushSec zeroSec;rw[f,c]
 have e:flushSec b=zeroSec:=by unfold flushSec zeroSec;rw[g,c]
 rw[NW,Gl,Gl,d,e,List.set_comm _ _ (show i≠i+1 by omega),List.set_set]
theorem Ti {w:World}{d sb:Nat}{L:List Sec}{c:Nat}(hd:IsDev w d sb L c)(at_:Nat)(hat:at_+1<L.length)(bv:Value)(text:List Nat)
  (hr:Rd w bv text) (a:∀c∈text,c<256) (hl:text.length≤40) (hc:c+5≤1099511627776) (hlo:∀b,bv.ownBlock=some b→0<text.length→b<w.heap.size∧b≠d∧b≠sb):
  Calls Tryz.prog 83 #[pr d 0,.int .i64 at_,bv] w fun e k=>∃s,e=.returned (.tuple #[pr s 0,.int .i64 0])∧
   IsDev k d sb (((L.map flushSec).set (at_+1) zeroSec).set at_ ⟨Cz 1 text,Cz 1 text,false⟩) (c+5)∧Hy k s d at_ 1 text 0∧Keep [d,sb] w k∧w.heap.size≤s:=by
 obtain⟨I,B,E,F,G⟩:=AU In;have S:=hr;obtain⟨_,Q,R,rfl,_,_⟩:=hr;have q0:(text.length:Int)≤40:=by omega
 have ai:=hd.max;have ag:=hd.dev.lt;have aj:=hd.secs.lt;go_enter Tryz.func83,Tryz.ntmps83;go_wp2_with fail;refine(O6 hd at_ hat).mono ?_;rintro e w1 ⟨rfl,rfl⟩;go_wp2_with fail;refine wp_loop_rounds 3 ?_;rw[rounds_succ]
 go_wp2_with (at_make;refine DI _ rfl _ _ 81 rfl 5 I _ Ao B E (by rw[F];rfl) (by decide) _ 64 rfl rfl (by omega) (by rw[G];omega) (by omega) ?_)
 obtain⟨g,ac,Z⟩:=Gw (show at_<L.length by omega);have D:Bb (List.replicate 64 0)=List.replicate 64 (.int .u8 0):=by simp[Bb,bc]
 have t:∀W:World,Rd (W.alloc (.cells (List.replicate 64 (.int .u8 0)).toArray 5)) (.slice (some ⟨W.heap.size,0,none⟩) 64 64) (List.replicate 64 0):=fun W=>by rw[←D];exact Y1 W (Bb (List.replicate 64 0)) 5 1 64 64 (by simp) (by omega) _ rfl
 have H:∀x∈List.replicate 64 0,x<256:=by intro x i;simp at i;omega
 obtain⟨m,n⟩:=i_2 t H;clear t H D;have u:=hd.keep ((By [] w).alloc (.cells (List.replicate 64 (.int .u8 0)).toArray 5)) (by simp) (by simp);have q:=I0 u at_ g ac _ (List.replicate 64 0) (m.out w) (by simp) n.out (by omega);refine q.mono ?_;rintro e l ⟨rfl,v,J⟩;clear q;have N:Keep [d,sb] w l:=((By _ _).alloc _).trans J;have C:∀s:Sec,s∈L→BQ s.now 0 (List.replicate 64 0)=List.replicate 64 0:=fun s hs=>by simp[BQ,(hd.ok s hs).1]
 have q1:((at_+1:Nat):Int)=(at_:Int)+1:=by omega
 obtain⟨j,ad,aa⟩:=Gw hat
 have ae:(L.set at_ ⟨BQ g.now 0 (List.replicate 64 0),g.lasts,true⟩)[at_+1]?=some j:=by rw[List.getElem?_set_ne (by omega)];exact ad
 clear J u;go_wp2_with fail;rw[rounds_succ]
 go_wp2_with (at_make;refine DI _ rfl _ _ 81 rfl 5 I _ Ao B E (by rw[F];rfl) (by decide) _ 64 rfl rfl (by omega) (by rw[G];omega) (by omega) ?_)
 rw[←q1];have y:=v.keep ((By [] l).alloc (.cells (List.replicate 64 (.int .u8 0)).toArray 5)) (by simp) (by simp);have r:=I0 y (at_+1) j ae _ (List.replicate 64 0) (m.out l) (by simp) n.out (by omega);refine r.mono ?_;rintro e w4 ⟨rfl,z,K⟩;have O:Keep [d,sb] w w4:=(N.alloc _).trans K;clear r y v K;go_wp2_with fail;rw[rounds_succ];go_wp2_with fail;refine(GV z (by omega)).mono ?_;rintro e f ⟨rfl,X,M⟩;have o:=O.trans M;clear M z;go_wp2_with fail;have T:Blk (f.alloc (.cells #[pr d 0,.int .i64 at_,.int .i64 0,.slice none 0 0,.int .i64 0] 209)) f.heap.size [pr d 0,.int .i64 at_,.int .i64 0,.slice none 0 0,.int .i64 0] 209:=BY _ _ _;have af:=o.size;have Y:=X.keep ((By [] f).alloc (.cells #[pr d 0,.int .i64 at_,.int .i64 0,.slice none 0 0,.int .i64 0] 209)) (by simp) (by simp);have p:Keep [d,sb] w (f.alloc (.cells #[pr d 0,.int .i64 at_,.int .i64 0,.slice none 0 0,.int .i64 0] 209)):=o.alloc _;have ab:=Yw S p (by intro b a h;have:=hlo b a h;simp;omega);have P:=M4 at_ 0 0 (.slice none 0 0) 0 1 (.slice Q text.length R) text Y T ab a hl (by simp;omega) (by omega) (by omega) (fun b a h=>by have:=hlo b a h;simp;omega);refine P.mono ?_;rintro e w7 ⟨rfl,A,⟨tv,U,V⟩,k7⟩;go_wp2;go_ret2;refine⟨f.heap.size,rfl, ?_,⟨tv,U,V.mono (by omega)⟩,p.then k7 (by intro x i ah;simp at i⊢;omega),af⟩;rw[show at_+0=at_ from rfl,Ud L at_ _ _ _ (List.replicate 64 0) rfl (C g Z) (C j aa)]at A;exact A
def CA (x:List Nat):Nat:=unbe ((x.drop 4).take 8)
theorem JH (n:Nat)(t:List Nat):(Cz n t).drop 4=E1 n t:=by unfold Cz;rw[Cp (by simp)]
theorem Gv (n:Nat)(t:List Nat)(a:n<18446744073709551616):CA (Cz n t)=n:=by unfold CA;rw[JH];unfold E1;rw[Ca (by simp),FD];exact AR a
theorem Nw:CA (List.replicate 64 0)=0:=by decide
def Pair (L:List Sec)(at_ a turn:Nat)(b:List Nat):Prop:=
 ∃y,CA y<turn∧L[at_+a]?=some ⟨Cz turn b,Cz turn b,false⟩∧L[at_+(1-a)]?=some ⟨y,y,false⟩
theorem Pair.make (L:List Sec)(at_:Nat)(a:List Nat)(h:at_+1<L.length):Pair (((L.map flushSec).set (at_+1) zeroSec).set at_ ⟨Cz 1 a,Cz 1 a,false⟩) at_ 0 1 a:=by
 refine⟨List.replicate 64 0,by rw[Nw];omega, ?_, ?_⟩
 ·rw[show at_+0=at_ from rfl,Gm (by simp;omega)]
 ·rw[show at_+(1-0)=at_+1 from rfl,List.getElem?_set_ne (by omega),Gm (by simp;omega)]
  rfl
theorem Pair.save {L:List Sec}{at_ a turn:Nat}{c:List Nat}(h:Pair L at_ a turn c)(i:a≤1)(f:turn<18446744073709551616)(b:List Nat):
  Pair ((L.map flushSec).set (at_+(1-a)) ⟨Cz (turn+1) b,Cz (turn+1) b,false⟩) at_ (1-a) (turn+1) b:=by
 obtain⟨y,j,d,e⟩:=h;have g:=(Ai.1 e).1;refine⟨Cz turn c,by rw[Gv _ _ f];omega, ?_, ?_⟩
 ·rw[Gm (by simpa using g)]
 ·rw[show 1-(1-a)=a by omega,List.getElem?_set_ne (by omega),AN,d]
  rfl
section
variable {P:Program}
theorem FW (w:World){C:Array Oper}{o:Oper}{a:Act}{K:Act→World→Prop}{Q:Exit→Act→World→Prop}{F:Prop}(p:o.guard=none)(s x:Operand)(t j:TypeId)
  (r:o.op=.call {callee:= .builtin .append,args:=#[s,x],argTypes:=#[t,j]}) (e:TypeId) (i:TypeInfo) (A:P.underlying t=some (.slice e)) (q:P.info? e=some i)
  (g b f:Nat) (c:Array Value) (n:w.heap[g]?=some (.cells c e (0,0))) (y:a.eval s=.slice (some ⟨g,0,none⟩) b f) (k:Value) (m:Nat) (d:List Value) (B:a.eval x=k) (z:Src P i.size j k m d w)
  (v:b+m≤f) (l:b*i.size+d.length≤c.size)
  (h:K (a.put o.dst (.slice (some ⟨g,0,none⟩) (b+m) f)) (w.setRow g (c.toList.take (b*i.size)++d++c.toList.drop (b*i.size+d.length)).toArray)):
  if Region.wanted o (yielded C a.tmps)=true then Oper.wp P o a w K Q else F:=by
 rw[Ay (by simp[Region.wanted,p])];have u:=Gx (P:=P) w t j o.type e i A q g b f c n k m d z v l;unfold Oper.wp execOp;simp only[r,resolve,invoke,builtin,Db,Sem.run_pure,Result.andThen_ok,DZ,Br,Cy,y,B,u];exact h
theorem IM (w:World)(t e ty:TypeId)(z:Value)(a:List Value)(j:P.underlying t=some (.slice e))(k:∀w,(zeroValue e).run P w=.ok z w)(l:(Builtin.zeroCells z.cells 1).toList =a)(f:∀v∈a,v.oneCell'=true)
  (g o c:Nat) (b:Array Value) (i:w.heap[g]?=some (.cells b e (0,0))) (h:o+a.length≤b.size):
  (Builtin.clear_ #[t] ty #[.slice (some ⟨g,o,none⟩) 1 c]).run P w=.ok (.tuple #[]) (w.setRow g (b.toList.take o++a++b.toList.drop (o+a.length)).toArray):=by
 have d:=run_storeCells_at P g o e a 0 b w i (by simpa using h) f;simp only[Nat.add_zero]at d;simp[Builtin.clear_,Cn j,k,l,d]
theorem SY (xs c:List Value)(a b k:Nat)(e:List Value)(i:a≤b)(j:b≤xs.length)(l:xs.length≤c.length)(h:c.take xs.length=xs)(m:xs.length-b=k):
  (((c.take a++xs.drop b++c.drop (a+k)).take (a+k))++e++((c.take a++xs.drop b++c.drop (a+k)).drop (a+k+e.length))).take (a+k)=xs.take a++xs.drop b:=by
 have f:c.take a=xs.take a:=by rw[←h,List.take_take,BZ (by omega)]
 have d:(xs.take a++xs.drop b).length =a+k:=by rw[Aj,Az,A5];omega
 rw[f];have g:(xs.take a++xs.drop b++c.drop (a+k)).take (a+k)=xs.take a++xs.drop b:=by rw[←d];exact DX
 rw[g,Ax]
 conv=>lhs;rw[←d]
 exact DX
end
theorem Tryz.infoDelMsg:(Tryz.prog.info? 175).map (fun i=>(i.size,i.bytes))=some (21,256):=by kernel_rfl
theorem Su {w:World}{base g n cap:Nat}{xs:List Value}(h:w.ownsRow base 175 21 (.slice (some ⟨g,0,none⟩) n cap) n xs)(F:∀u∈xs,u.oneCell'=true)(i:Nat)(K:i<n)(hn:n≤1000000)(jv:Int)(r:jv=(i:Int)+1):
  Calls Tryz.prog 126 #[.slice (some ⟨g,0,none⟩) n cap,.int .i64 (i:Int),.int .i64 jv] w fun e w'=>e=.returned (.slice (some ⟨g,0,none⟩) (n-1) cap)∧
   w'.ownsRow base 175 21 (.slice (some ⟨g,0,none⟩) (n-1) cap) (n-1) (xs.take (i*21)++xs.drop ((i+1)*21))∧Keep [g] w w':=by
 subst r;obtain⟨s,hh⟩:=h;rcases hh with⟨H,_⟩|⟨g',ar,f,H,hb,J,az,ah,C,O⟩
 ·cases H
 injection H with hc1 _ hc2;injection hc1 with hc1;injection hc1 with hc1;subst hc1 hc2
 obtain⟨a,L,y⟩:∃a,Tryz.prog.info? 175=some a∧a.size=21:=by
  have:=Tryz.infoDelMsg
  cases K:Tryz.prog.info? 175 with
  |none=>rw[K]at this;cases this
  |some a=>rw[K]at this;injection this with this;injection this with F h2;exact⟨a,rfl,F⟩
 obtain⟨j,r⟩:∃j,j=i+1:=⟨_,rfl⟩;have aa:j≤n:=by omega
 have R:Hid ((i:Int)+1=(j:Int)):=h_ (by omega);rw[R.out];obtain⟨b,t⟩:∃b,b=xs.drop (j*21):=⟨_,rfl⟩;have o:b.length=(n-j)*21:=by rw[t,A5,s,←Nat.sub_mul]
 have X:f.toList.length=cap*21:=by simpa using C
 obtain⟨T,G,ab⟩:∃T:Value,T=(.slice (if cap=j then some ⟨g,0,none⟩else some ⟨g,j*21,none⟩) (n-j) (cap-j))∧∀W:World,W.heap[g]?=some (.cells f 175 (0,0))→Src Tryz.prog a.size 66 T (n-j) b W:=by
  refine⟨_,rfl,fun W hW=> ?_⟩;rw[y];by_cases p:cap=j
  ·rw[Ay p]
   have V:n-j=0:=by omega
   have aj:b=[]:=Bv (by rw[o,V,Nat.zero_mul]);rw[V,aj];refine CC _ BT _ 0 _ [] rfl (fun jj x l=>by simp at l) (by simp)
  ·rw[Aw p]
   refine CC _ BT _ (n-j) _ b o (fun jj x l=> ?_) (fun u hu=>F u (by rw[t]at hu;exact AB hu));have ay:=(Ai.1 l).1;rw[Gq];simp only[World.cell?,hW];rw[t,Bp]at l;rw[←O,BP]at l
   split at l
   ·rw[←CV];exact l
   ·cases l
 have al:=h_ (ab w.drew J)
 have aq:Hid (∀W:World,(Instr.sliceAt 66 (.slice (some ⟨g,0,none⟩) n cap) (some (.int .i64 (j:Int))) none none).run Tryz.prog W=.ok T W):=h_ (fun W=>by
  rw[G];have q:(j:Int)≤n:=by omega
  by_cases p:cap=j
  ·simp[Instr.sliceAt,Cn BT,Instr.slice,Instr.sliceBounds,Instr.sliceBound,asIntOf,aa,sizeOf,typeInfo,L,y,p]
  ·simp[Instr.sliceAt,Cn BT,Instr.slice,Instr.sliceBounds,Instr.sliceBound,asIntOf,aa,sizeOf,typeInfo,L,y,p,Addr.add];omega)
 obtain⟨d,D⟩:∃c1:Array Value,c1=(f.toList.take (i*a.size)++b++f.toList.drop (i*a.size+b.length)).toArray :=⟨_,rfl⟩;have I:i*a.size+b.length≤f.size:=by rw[y,o,C,←Dv];exact Ch _ (by omega)
 have N:d.size=cap*21:=by rw[D];simp only[C2,Aj,Az,A5,X];rw[C]at I;omega
 obtain⟨c,B⟩:∃c,c=w.drew.setRow g d:=⟨_,rfl⟩;have Z:c.heap[g]?=some (.cells d 175 (0,0)):=by rw[B];exact setRow_heap w.drew g f _ _ _ J
 obtain⟨z,am,Q,ac⟩:∃z:Value,(∀w,(zeroValue 175).run Tryz.prog w=.ok z w)∧(Builtin.zeroCells z.cells 1).toList.length =21∧(Builtin.zeroCells z.cells 1).toList.all (fun v=>v.oneCell')=true:=⟨_,Tryz.zeroValue175,by kernel_rfl,by kernel_rfl⟩;obtain⟨m,ad⟩:∃m:List Value,m=(Builtin.zeroCells z.cells 1).toList :=⟨_,rfl⟩;rw[←ad]at Q ac;have an:∀v∈m,v.oneCell'=true:=fun v hv=>(Cr.1 ac) v hv
 have ag:(n-1)*21+m.length≤d.size:=by rw[N,Q];omega
 obtain⟨A,E⟩:∃c2:Array Value,c2=(d.toList.take ((n-1)*21)++m++d.toList.drop ((n-1)*21+m.length)).toArray :=⟨_,rfl⟩
 have au:∀ty,(Builtin.clear_ #[66] ty #[.slice (some ⟨g,(n-1)*21,none⟩) (n-(n-1)) (cap-(n-1))]).run Tryz.prog c=.ok (.tuple #[]) (c.setRow g A):=
  fun ty=>by rw[show n-(n-1)=1 by omega,E];exact IM c _ _ ty _ m BT am ad.symm an g ((n-1)*21) _ d Z ag
 have S:Hid ((c.setRow g A).ownsRow base 175 21 (.slice (some ⟨g,0,none⟩) (n-1) cap) (n-1) (xs.take (i*21)++xs.drop ((i+1)*21))∧Keep [g] w (c.setRow g A)):=h_ (by
  have ak:n*21-j*21=(n-j)*21:=(Nat.sub_mul _ _ _).symm;have U:i*21+(n-j)*21=(n-1)*21:=by omega
  refine⟨⟨by rw[Aj,Az,A5,s];omega,.inr ⟨g,cap,A,rfl,hb,setRow_heap c g d _ _ _ Z,by omega,ah, ?_, ?_⟩⟩, ?_⟩
  ·rw[E]
   have:d.toList.length=cap*21:=by simpa using N
   simp only[C2,Aj,Az,A5,this,Q];omega
  ·have Y:=SY xs f.toList (i*21) (j*21) ((n-j)*21) m (by omega) (by omega) (by omega) (by rw[s];exact O) (by rw[s,ak])
   rw[U]at Y;rw[E,D,y,o,U,t,r]at*;exact Y
  ·rw[B]
   exact⟨rfl,rfl,rfl,by simp[World.setRow],fun k hk hn=>by
    have M:k≠g:=by simpa using hn
    rw[setRow_other _ _ _ _ M,setRow_other _ _ _ _ M];rfl⟩)
 obtain⟨HW,ae,af⟩:=i_3 B D I;have aw:i≤cap:=by omega
 have ax:j≤cap:=by omega
 obtain⟨HT,ap⟩:=i_2 G o;have M:¬(i:Int)=(j:Int):=by omega
 have av:(n:Int)≤1000000:=by omega
 have ai:i+(n-j)=n-1:=by omega
 obtain⟨ao,HL⟩:=i_2 r ai;clear E r G B D I t o X O C s N ab R;go_enter Tryz.func126,Tryz.ntmps126;go_wp2_with fail
 go_region_law (refine FW _ rfl (.tmp 22) (.tmp 25) _ 66 rfl 175 a BT L g i cap f J (by simp[Act.eval,Act.put]) T (n-j) b (by simp[Act.eval,Act.put];exact HT.out.symm) al.out (by omega) af.out ?_;rw[←ae.out,←HW.out])
 go_wp2_with fail
 all_goals (go_ret;first|exact⟨rfl,S.out⟩|(have hq:=‹cap=j›;rw[←hq];exact⟨rfl,S.out⟩))
theorem Tryz.infoDelRd:(Tryz.prog.info? 138).map (fun i=>(i.size,i.bytes))=some (5,48):=by kernel_rfl
theorem UO {w:World}{base g n cap:Nat}{xs:List Value}(h:w.ownsRow base 138 5 (.slice (some ⟨g,0,none⟩) n cap) n xs)(F:∀u∈xs,u.oneCell'=true)(i:Nat)(K:i<n)(hn:n≤1000000)(jv:Int)(r:jv=(i:Int)+1):
  Calls Tryz.prog 127 #[.slice (some ⟨g,0,none⟩) n cap,.int .i64 (i:Int),.int .i64 jv] w fun e w'=>e=.returned (.slice (some ⟨g,0,none⟩) (n-1) cap)∧
   w'.ownsRow base 138 5 (.slice (some ⟨g,0,none⟩) (n-1) cap) (n-1) (xs.take (i*5)++xs.drop ((i+1)*5))∧Keep [g] w w':=by
 subst r;obtain⟨s,hh⟩:=h;rcases hh with⟨H,_⟩|⟨g',ar,f,H,hb,J,az,ah,C,O⟩
 ·cases H
 injection H with hc1 _ hc2;injection hc1 with hc1;injection hc1 with hc1;subst hc1 hc2
 obtain⟨a,L,y⟩:∃a,Tryz.prog.info? 138=some a∧a.size=5:=by
  have:=Tryz.infoDelRd
  cases K:Tryz.prog.info? 138 with
  |none=>rw[K]at this;cases this
  |some a=>rw[K]at this;injection this with this;injection this with F h2;exact⟨a,rfl,F⟩
 obtain⟨j,r⟩:∃j,j=i+1:=⟨_,rfl⟩;have aa:j≤n:=by omega
 have R:Hid ((i:Int)+1=(j:Int)):=h_ (by omega);rw[R.out];obtain⟨b,t⟩:∃b,b=xs.drop (j*5):=⟨_,rfl⟩;have o:b.length=(n-j)*5:=by rw[t,A5,s,←Nat.sub_mul]
 have X:f.toList.length=cap*5:=by simpa using C
 obtain⟨T,G,ab⟩:∃T:Value,T=(.slice (if cap=j then some ⟨g,0,none⟩else some ⟨g,j*5,none⟩) (n-j) (cap-j))∧∀W:World,W.heap[g]?=some (.cells f 138 (0,0))→Src Tryz.prog a.size 65 T (n-j) b W:=by
  refine⟨_,rfl,fun W hW=> ?_⟩;rw[y];by_cases p:cap=j
  ·rw[Ay p]
   have V:n-j=0:=by omega
   have aj:b=[]:=Bv (by rw[o,V,Nat.zero_mul]);rw[V,aj];refine CC _ CL _ 0 _ [] rfl (fun jj x l=>by simp at l) (by simp)
  ·rw[Aw p]
   refine CC _ CL _ (n-j) _ b o (fun jj x l=> ?_) (fun u hu=>F u (by rw[t]at hu;exact AB hu));have ay:=(Ai.1 l).1;rw[Gq];simp only[World.cell?,hW];rw[t,Bp]at l;rw[←O,BP]at l
   split at l
   ·rw[←CV];exact l
   ·cases l
 have al:=h_ (ab w.drew J)
 have aq:Hid (∀W:World,(Instr.sliceAt 65 (.slice (some ⟨g,0,none⟩) n cap) (some (.int .i64 (j:Int))) none none).run Tryz.prog W=.ok T W):=h_ (fun W=>by
  rw[G];have q:(j:Int)≤n:=by omega
  by_cases p:cap=j
  ·simp[Instr.sliceAt,Cn CL,Instr.slice,Instr.sliceBounds,Instr.sliceBound,asIntOf,aa,sizeOf,typeInfo,L,y,p]
  ·simp[Instr.sliceAt,Cn CL,Instr.slice,Instr.sliceBounds,Instr.sliceBound,asIntOf,aa,sizeOf,typeInfo,L,y,p,Addr.add];omega)
 obtain⟨d,D⟩:∃c1:Array Value,c1=(f.toList.take (i*a.size)++b++f.toList.drop (i*a.size+b.length)).toArray :=⟨_,rfl⟩;have I:i*a.size+b.length≤f.size:=by rw[y,o,C,←Dv];exact Ch _ (by omega)
 have N:d.size=cap*5:=by rw[D];simp only[C2,Aj,Az,A5,X];rw[C]at I;omega
 obtain⟨c,B⟩:∃c,c=w.drew.setRow g d:=⟨_,rfl⟩;have Z:c.heap[g]?=some (.cells d 138 (0,0)):=by rw[B];exact setRow_heap w.drew g f _ _ _ J
 obtain⟨z,am,Q,ac⟩:∃z:Value,(∀w,(zeroValue 138).run Tryz.prog w=.ok z w)∧(Builtin.zeroCells z.cells 1).toList.length =5∧(Builtin.zeroCells z.cells 1).toList.all (fun v=>v.oneCell')=true:=⟨_,Tryz.zeroValue138,by kernel_rfl,by kernel_rfl⟩;obtain⟨m,ad⟩:∃m:List Value,m=(Builtin.zeroCells z.cells 1).toList :=⟨_,rfl⟩;rw[←ad]at Q ac;have an:∀v∈m,v.oneCell'=true:=fun v hv=>(Cr.1 ac) v hv
 have ag:(n-1)*5+m.length≤d.size:=by rw[N,Q];omega
 obtain⟨A,E⟩:∃c2:Array Value,c2=(d.toList.take ((n-1)*5)++m++d.toList.drop ((n-1)*5+m.length)).toArray :=⟨_,rfl⟩
 have au:∀ty,(Builtin.clear_ #[65] ty #[.slice (some ⟨g,(n-1)*5,none⟩) (n-(n-1)) (cap-(n-1))]).run Tryz.prog c=.ok (.tuple #[]) (c.setRow g A):=
  fun ty=>by rw[show n-(n-1)=1 by omega,E];exact IM c _ _ ty _ m CL am ad.symm an g ((n-1)*5) _ d Z ag
 have S:Hid ((c.setRow g A).ownsRow base 138 5 (.slice (some ⟨g,0,none⟩) (n-1) cap) (n-1) (xs.take (i*5)++xs.drop ((i+1)*5))∧Keep [g] w (c.setRow g A)):=h_ (by
  have ak:n*5-j*5=(n-j)*5:=(Nat.sub_mul _ _ _).symm;have U:i*5+(n-j)*5=(n-1)*5:=by omega
  refine⟨⟨by rw[Aj,Az,A5,s];omega,.inr ⟨g,cap,A,rfl,hb,setRow_heap c g d _ _ _ Z,by omega,ah, ?_, ?_⟩⟩, ?_⟩
  ·rw[E]
   have:d.toList.length=cap*5:=by simpa using N
   simp only[C2,Aj,Az,A5,this,Q];omega
  ·have Y:=SY xs f.toList (i*5) (j*5) ((n-j)*5) m (by omega) (by omega) (by omega) (by rw[s];exact O) (by rw[s,ak])
   rw[U]at Y;rw[E,D,y,o,U,t,r]at*;exact Y
  ·rw[B]
   exact⟨rfl,rfl,rfl,by simp[World.setRow],fun k hk hn=>by
    have M:k≠g:=by simpa using hn
    rw[setRow_other _ _ _ _ M,setRow_other _ _ _ _ M];rfl⟩)
 obtain⟨HW,ae,af⟩:=i_3 B D I;have aw:i≤cap:=by omega
 have ax:j≤cap:=by omega
 obtain⟨HT,ap⟩:=i_2 G o;have M:¬(i:Int)=(j:Int):=by omega
 have av:(n:Int)≤1000000:=by omega
 have ai:i+(n-j)=n-1:=by omega
 obtain⟨ao,HL⟩:=i_2 r ai;clear E r G B D I t o X O C s N ab R;go_enter Tryz.func127,Tryz.ntmps127;go_wp2_with fail
 go_region_law (refine FW _ rfl (.tmp 22) (.tmp 25) _ 65 rfl 138 a CL L g i cap f J (by simp[Act.eval,Act.put]) T (n-j) b (by simp[Act.eval,Act.put];exact HT.out.symm) al.out (by omega) af.out ?_;rw[←ae.out,←HW.out])
 go_wp2_with fail
 all_goals (go_ret;first|exact⟨rfl,S.out⟩|(have hq:=‹cap=j›;rw[←hq];exact⟨rfl,S.out⟩))
theorem Tryz.infoDelWt:(Tryz.prog.info? 223).map (fun i=>(i.size,i.bytes))=some (7,64):=by kernel_rfl
theorem Delete_Wt {w:World}{base g n cap:Nat}{xs:List Value}(h:w.ownsRow base 223 7 (.slice (some ⟨g,0,none⟩) n cap) n xs)(F:∀u∈xs,u.oneCell'=true)(i:Nat)(K:i<n)(hn:n≤1000000)(jv:Int)(r:jv=(i:Int)+1):
  Calls Tryz.prog 207 #[.slice (some ⟨g,0,none⟩) n cap,.int .i64 (i:Int),.int .i64 jv] w fun e w'=>e=.returned (.slice (some ⟨g,0,none⟩) (n-1) cap)∧
   w'.ownsRow base 223 7 (.slice (some ⟨g,0,none⟩) (n-1) cap) (n-1) (xs.take (i*7)++xs.drop ((i+1)*7))∧Keep [g] w w':=by
 subst r;obtain⟨s,hh⟩:=h;rcases hh with⟨H,_⟩|⟨g',ar,f,H,hb,J,az,ah,C,O⟩
 ·cases H
 injection H with hc1 _ hc2;injection hc1 with hc1;injection hc1 with hc1;subst hc1 hc2
 obtain⟨a,L,y⟩:∃a,Tryz.prog.info? 223=some a∧a.size=7:=by
  have:=Tryz.infoDelWt
  cases K:Tryz.prog.info? 223 with
  |none=>rw[K]at this;cases this
  |some a=>rw[K]at this;injection this with this;injection this with F h2;exact⟨a,rfl,F⟩
 obtain⟨j,r⟩:∃j,j=i+1:=⟨_,rfl⟩;have aa:j≤n:=by omega
 have R:Hid ((i:Int)+1=(j:Int)):=h_ (by omega);rw[R.out];obtain⟨b,t⟩:∃b,b=xs.drop (j*7):=⟨_,rfl⟩;have o:b.length=(n-j)*7:=by rw[t,A5,s,←Nat.sub_mul]
 have X:f.toList.length=cap*7:=by simpa using C
 obtain⟨T,G,ab⟩:∃T:Value,T=(.slice (if cap=j then some ⟨g,0,none⟩else some ⟨g,j*7,none⟩) (n-j) (cap-j))∧∀W:World,W.heap[g]?=some (.cells f 223 (0,0))→Src Tryz.prog a.size 64 T (n-j) b W:=by
  refine⟨_,rfl,fun W hW=> ?_⟩;rw[y];by_cases p:cap=j
  ·rw[Ay p]
   have V:n-j=0:=by omega
   have aj:b=[]:=Bv (by rw[o,V,Nat.zero_mul]);rw[V,aj];refine CC _ Tryz.underlying64 _ 0 _ [] rfl (fun jj x l=>by simp at l) (by simp)
  ·rw[Aw p]
   refine CC _ Tryz.underlying64 _ (n-j) _ b o (fun jj x l=> ?_) (fun u hu=>F u (by rw[t]at hu;exact AB hu));have ay:=(Ai.1 l).1;rw[Gq];simp only[World.cell?,hW];rw[t,Bp]at l;rw[←O,BP]at l
   split at l
   ·rw[←CV];exact l
   ·cases l
 have al:=h_ (ab w.drew J)
 have aq:Hid (∀W:World,(Instr.sliceAt 64 (.slice (some ⟨g,0,none⟩) n cap) (some (.int .i64 (j:Int))) none none).run Tryz.prog W=.ok T W):=h_ (fun W=>by
  rw[G];have q:(j:Int)≤n:=by omega
  by_cases p:cap=j
  ·simp[Instr.sliceAt,Cn Tryz.underlying64,Instr.slice,Instr.sliceBounds,Instr.sliceBound,asIntOf,aa,sizeOf,typeInfo,L,y,p]
  ·simp[Instr.sliceAt,Cn Tryz.underlying64,Instr.slice,Instr.sliceBounds,Instr.sliceBound,asIntOf,aa,sizeOf,typeInfo,L,y,p,Addr.add];omega)
 obtain⟨d,D⟩:∃c1:Array Value,c1=(f.toList.take (i*a.size)++b++f.toList.drop (i*a.size+b.length)).toArray :=⟨_,rfl⟩;have I:i*a.size+b.length≤f.size:=by rw[y,o,C,←Dv];exact Ch _ (by omega)
 have N:d.size=cap*7:=by rw[D];simp only[C2,Aj,Az,A5,X];rw[C]at I;omega
 obtain⟨c,B⟩:∃c,c=w.drew.setRow g d:=⟨_,rfl⟩;have Z:c.heap[g]?=some (.cells d 223 (0,0)):=by rw[B];exact setRow_heap w.drew g f _ _ _ J
 obtain⟨z,am,Q,ac⟩:∃z:Value,(∀w,(zeroValue 223).run Tryz.prog w=.ok z w)∧(Builtin.zeroCells z.cells 1).toList.length =7∧(Builtin.zeroCells z.cells 1).toList.all (fun v=>v.oneCell')=true:=⟨_,Tryz.zeroValue223,by kernel_rfl,by kernel_rfl⟩;obtain⟨m,ad⟩:∃m:List Value,m=(Builtin.zeroCells z.cells 1).toList :=⟨_,rfl⟩;rw[←ad]at Q ac;have an:∀v∈m,v.oneCell'=true:=fun v hv=>(Cr.1 ac) v hv
 have ag:(n-1)*7+m.length≤d.size:=by rw[N,Q];omega
 obtain⟨A,E⟩:∃c2:Array Value,c2=(d.toList.take ((n-1)*7)++m++d.toList.drop ((n-1)*7+m.length)).toArray :=⟨_,rfl⟩
 have au:∀ty,(Builtin.clear_ #[64] ty #[.slice (some ⟨g,(n-1)*7,none⟩) (n-(n-1)) (cap-(n-1))]).run Tryz.prog c=.ok (.tuple #[]) (c.setRow g A):=
  fun ty=>by rw[show n-(n-1)=1 by omega,E];exact IM c _ _ ty _ m Tryz.underlying64 am ad.symm an g ((n-1)*7) _ d Z ag
 have S:Hid ((c.setRow g A).ownsRow base 223 7 (.slice (some ⟨g,0,none⟩) (n-1) cap) (n-1) (xs.take (i*7)++xs.drop ((i+1)*7))∧Keep [g] w (c.setRow g A)):=h_ (by
  have ak:n*7-j*7=(n-j)*7:=(Nat.sub_mul _ _ _).symm;have U:i*7+(n-j)*7=(n-1)*7:=by omega
  refine⟨⟨by rw[Aj,Az,A5,s];omega,.inr ⟨g,cap,A,rfl,hb,setRow_heap c g d _ _ _ Z,by omega,ah, ?_, ?_⟩⟩, ?_⟩
  ·rw[E]
   have:d.toList.length=cap*7:=by simpa using N
   simp only[C2,Aj,Az,A5,this,Q];omega
  ·have Y:=SY xs f.toList (i*7) (j*7) ((n-j)*7) m (by omega) (by omega) (by omega) (by rw[s];exact O) (by rw[s,ak])
   rw[U]at Y;rw[E,D,y,o,U,t,r]at*;exact Y
  ·rw[B]
   exact⟨rfl,rfl,rfl,by simp[World.setRow],fun k hk hn=>by
    have M:k≠g:=by simpa using hn
    rw[setRow_other _ _ _ _ M,setRow_other _ _ _ _ M];rfl⟩)
 obtain⟨HW,ae,af⟩:=i_3 B D I;have aw:i≤cap:=by omega
 have ax:j≤cap:=by omega
 obtain⟨HT,ap⟩:=i_2 G o;have M:¬(i:Int)=(j:Int):=by omega
 have av:(n:Int)≤1000000:=by omega
 have ai:i+(n-j)=n-1:=by omega
 obtain⟨ao,HL⟩:=i_2 r ai;clear E r G B D I t o X O C s N ab R;go_enter Tryz.func207,Tryz.ntmps207;go_wp2_with fail
 go_region_law (refine FW _ rfl (.tmp 22) (.tmp 25) _ 64 rfl 223 a Tryz.underlying64 L g i cap f J (by simp[Act.eval,Act.put]) T (n-j) b (by simp[Act.eval,Act.put];exact HT.out.symm) al.out (by omega) af.out ?_;rw[←ae.out,←HW.out])
 go_wp2_with fail
 all_goals (go_ret;first|exact⟨rfl,S.out⟩|(have hq:=‹cap=j›;rw[←hq];exact⟨rfl,S.out⟩))
def Iz (V:List Value)(x:Nat→Value):List Edge→Prop
 |[]=>True
 |e::es=>(Region.binds .any e=true→x e.on=V.getD e.on undef)∧Iz V x es
section
variable {V:List Value} {x:Nat→Value} {n:Nat} {es:List Edge}
@[simp] theorem dk_nil:Iz V x []↔True:=Iff.rfl
@[simp] theorem dk_data:Iz V x (⟨n,.data⟩::es)↔(x n=V.getD n undef∧Iz V x es):=⟨fun h=>⟨h.1 rfl,h.2⟩,fun h=>⟨fun _=>h.1,h.2⟩⟩
@[simp] theorem dk_chain:Iz V x (⟨n,.chain⟩::es)↔(x n=V.getD n undef∧Iz V x es):=⟨fun h=>⟨h.1 rfl,h.2⟩,fun h=>⟨fun _=>h.1,h.2⟩⟩
@[simp] theorem dk_guard:Iz V x (⟨n,.guard⟩::es)↔(x n=V.getD n undef∧Iz V x es):=⟨fun h=>⟨h.1 rfl,h.2⟩,fun h=>⟨fun _=>h.1,h.2⟩⟩
@[simp] theorem dk_phase:Iz V x (⟨n,.phase⟩::es)↔(x n=V.getD n undef∧Iz V x es):=⟨fun h=>⟨h.1 rfl,h.2⟩,fun h=>⟨fun _=>h.1,h.2⟩⟩
@[simp] theorem dk_text {d:Departure}:Iz V x (⟨n,.textOnly d⟩::es)↔Iz V x es:=⟨fun h=>h.2,fun h=>⟨fun hb=>absurd hb (by simp[Region.binds]),h⟩⟩
@[simp] theorem dk_gc {d:Departure}:Iz V x (⟨n,.gcOnly d⟩::es)↔Iz V x es:=⟨fun h=>h.2,fun h=>⟨fun hb=>absurd hb (by simp[Region.binds]),h⟩⟩
end
section
variable {P:Program} {Q:Exit→Act→World→Prop}
abbrev WN (P:Program)(e:List Oper)(A:List Nat)(Q:Exit→Act→World→Prop)(c:Nat)(V:List Value)(f:(Nat→Bool)→World→Prop)(a:Act)(k:Nat)(o:Oper):Prop:=
 ∀(L:Nat→Bool) (x:Nat→Value) (W:World),f L W→(∀i,(c.testBit i&&(A.getD k 0).testBit i)=true→L i=true)→(∀i,(A.getD i 0).testBit k=true→x i=ownVals e a i)→(∀i,(A.getD i 0).testBit k=true→L i=false)→Iz V x o.after.toList→
  ∀b,Al e 0 x a=b→∀d:Act→World→Prop,(∀h g,b.put o.dst (V.getD k undef)=h→f L g→d h g)→
   if Region.wanted o (yielded e.toArray b.tmps)=true then Oper.wp P o b W d Q else d (b.put o.dst undef) W
abbrev Yp (P:Program)(e:List Oper)(A:List Nat)(Q:Exit→Act→World→Prop)(c:Nat)(V:List Value)(f:(Nat→Bool)→World→Prop)(a:Act)(k:Nat)(o:Oper):Prop:=
 ∀(L:Nat→Bool) (x:Nat→Value) (W:World),f L W→L k=false→(∀i,(c.testBit i&&(A.getD k 0).testBit i)=true→L i=true)→(∀i,(A.getD i 0).testBit k=true→x i=ownVals e a i)→(∀i,(A.getD i 0).testBit k=true→L i=false)→Iz V x o.after.toList→
  ∀b,Al e 0 x a=b→∀d:Act→World→Prop,(∀h g,b.put o.dst (V.getD k undef)=h→f (upd L k true) g→d h g)→
   if Region.wanted o (yielded e.toArray b.tmps)=true then Oper.wp P o b W d Q else d (b.put o.dst undef) W
def I2 (P:Program)(d:List Oper)(A:List Nat)(Q:Exit→Act→World→Prop)(c:Nat)(V:List Value)(b:(Nat→Bool)→World→Prop)(a:Act):Nat→List Oper→Prop
 |_,[]=>True
 |k,o::l=>(if c.testBit k=true then Yp P d A Q c V b a k o else WN P d A Q c V b a k o)∧I2 P d A Q c V b a (k+1) l
theorem I2.still {d:List Oper}{A:List Nat}{c:Nat}{V:List Value}{b:(Nat→Bool)→World→Prop}{a:Act}{k:Nat}{o:Oper}{l:List Oper}(e:c.testBit k=false)(h:WN P d A Q c V b a k o)(f:I2 P d A Q c V b a (k+1) l):I2 P d A Q c V b a k (o::l):=
 ⟨by rw[Aw (by rw[e];decide)];exact h,f⟩
theorem I2.turn {d:List Oper}{A:List Nat}{c:Nat}{V:List Value}{b:(Nat→Bool)→World→Prop}{a:Act}{k:Nat}{o:Oper}{l:List Oper}(e:c.testBit k=true)(h:Yp P d A Q c V b a k o)(f:I2 P d A Q c V b a (k+1) l):I2 P d A Q c V b a k (o::l):=
 ⟨by rw[Ay e];exact h,f⟩
theorem I2.s {d:List Oper}{A:List Nat}{c:Nat}{V:List Value}{b:(Nat→Bool)→World→Prop}{a:Act}{k:Nat}{o:Oper}{l:List Oper}(h:WN P d A Q c V b a k o)(f:I2 P d A Q c V b a (k+1) l)(e:c.testBit k=false:=by rfl):I2 P d A Q c V b a k (o::l):= .still e h f
theorem I2.t {d:List Oper}{A:List Nat}{c:Nat}{V:List Value}{b:(Nat→Bool)→World→Prop}{a:Act}{k:Nat}{o:Oper}{l:List Oper}(h:Yp P d A Q c V b a k o)(f:I2 P d A Q c V b a (k+1) l)(e:c.testBit k=true:=by rfl):I2 P d A Q c V b a k (o::l):= .turn e h f
theorem I2.nil {d:List Oper}{A:List Nat}{c:Nat}{V:List Value}{b:(Nat→Bool)→World→Prop}{a:Act}{k:Nat}:I2 P d A Q c V b a k []:=trivial
def kSt (V:List Value)(a:(Nat→Bool)→World→Prop)(U:Nat→Bool)(X:Nat→Value)(W:World):Prop:=a U W∧∀i,U i=true→X i=V.getD i undef
def kV (V:List Value):List ((Nat→Value)→Value):=V.map (fun v _=>v)
theorem VQ (V:List Value)(k:Nat)(y:Nat→Value):((kV V).getD k (fun _=>undef)) y=V.getD k undef:=by
 unfold kV;rw[Af,Af,AN]
 cases V[k]?<;>rfl
theorem Ob {c k:Nat}{V:List Value}{A:List Nat}{x X:Nat→Value}{L:Nat→Bool}(f:∀i,L i=true→X i=x i)(d:∀i,L i=true→X i=V.getD i undef)(b:∀i,(c.testBit i&&(A.getD k 0).testBit i)=true→L i=true):
  ∀es:List Edge,(∀e∈es,Region.binds .any e=true→(A.getD k 0).testBit e.on=true)→Dz c (kV V) A x es→Iz V x es
 |[],_,_=>trivial
 |e::es,hb,h=>⟨fun g=>by
   have a:=h.1 g;unfold mV at a
   cases j:c.testBit e.on with
   |true=>have l:=b e.on (by rw[j,hb e (by simp) g];rfl);rw[←f _ l,d _ l]
   |false=>rw[Aw (by rw[j];decide),VQ]at a;exact a,Ob f d b es (fun m o=>hb m (by simp[o])) h.2⟩
theorem Kq {A:List Nat}:∀(es:List Edge) (e:Edge),e∈es→Region.binds .any e=true→(D0 A es).testBit e.on=true
 |[],e,h,_=>by cases h
 |e'::es,e,h,hb=>by
  unfold D0;rw[Gh,CQ];rcases Ac.1 h with rfl|h
  ·left
   rw[Ay hb,Gh,CQ];left;rw[Nat.one_shiftLeft,Nat.testBit_two_pow];simp
  ·exact .inr (Kq es e h hb)
theorem Ma:∀(a:List Oper) (A:List Nat) (k:Nat),k<A.length→(ancAll a A).getD k 0=A.getD k 0
 |[],A,k,_=>rfl
 |o::a,A,k,h=>by show(ancAll a (A++[D0 A o.after.toList])).getD k 0=_;rw[Ma a _ k (by simp;omega)];rw[Af,AK h,←Af]
theorem Mb:∀(a:List Oper) (A:List Nat) (k:Nat) (o:Oper),a[k]?=some o→∀e∈o.after,Region.binds .any e=true→((ancAll a A).getD (A.length+k) 0).testBit e.on=true
 |[],A,k,o,h,_,_,_=>by simp at h
 |o'::a,A,0,o,h,e,he,hb=>by simp only[List.getElem?_cons_zero,BU]at h;subst h;show((ancAll a (A++[D0 A o'.after.toList])).getD (A.length+0) 0).testBit e.on=true;rw[Nat.add_zero,Ma a _ _ (by simp)];rw[Af,AC (Av _),C8];exact Kq _ e (by simpa using he) hb
 |o'::a,A,k+1,o,h,e,he,hb=>by
  simp only[List.getElem?_cons_succ]at h;show((ancAll a (A++[D0 A o'.after.toList])).getD (A.length+(k+1)) 0).testBit e.on=true;have:=Mb a (A++[D0 A o'.after.toList]) k o h e he hb
  rwa [Aj,List.length_singleton,show A.length+1+k=A.length+(k+1) by omega]at this
theorem I2.mix {f:List Oper}{c:Nat}{V:List Value}{B:(Nat→Bool)→World→Prop}{a:Act}:∀(l:List Oper) (k:Nat),(∀j o,l[j]?=some o→f[k+j]?=some o)→I2 P f (ancAll f []) Q c V B a k l→Gk P f (ancAll f []) Q c (kV V) (kSt V B) a k l
 |[],k,_,_=>trivial
 |o::l,k,hl,h=>by
  have G:=hl 0 o (by simp);rw[Nat.add_zero]at G
  have C:∀e∈o.after.toList,Region.binds .any e=true→((ancAll f []).getD k 0).testBit e.on=true:=fun e I H=>by
   have:=Mb f [] k o G e (by simpa using I) H
   rwa [show([]:List Nat).length +k=k by simp]at this
  refine⟨?_,I2.mix l (k+1) (fun j M J=>by have:=hl (j+1) M (by simpa using J);rwa [show k+1+j=k+(j+1) by omega]) h.2⟩;have m:=h.1
  cases D:c.testBit k with
  |true=>
   rw[Ay D]at m;rw[Ay rfl];intro L X x W d K w g z A u b s p t;refine m L x W d.1 K g A u (Ob w d.2 g _ C z) b s p (fun r q y v=>t _ r q y ⟨v,fun i E=> ?_⟩);by_cases F:i=k
   ·subst F;rw[Bh]
   ·rw[Bs _ _ _ _ F]at E⊢;exact d.2 i E
  |false=>rw[Aw (by rw[D];decide)]at m;rw[Aw (by decide)];intro L X x W d w g z A u b s p t;exact m L x W d.1 g A u (Ob w d.2 g _ C z) b s p (fun r q y v=>t _ r q (VQ _ _ _).symm y ⟨v,d.2⟩)
theorem AO {b:List Oper}{A:List Nat}{id:Nat}{a:Act}{w:World}(c:Nat)(V:List Value)(d:(Nat→Bool)→World→Prop)(v:P.follows .mixedOrders=true)(r:E7 b=true)(p:C7 b 0=true)(m:ancAll b []=A)
  (l:d (fun _=>false) w.drew) (y:I2 P b A Q c V d a 0 b)
  (s:∀L e,d L e→(∀i,i<b.length→c.testBit i=true→L i=true)→Q .normal (Al b 0 (fun k=>V.getD k undef) a) e):
  (Code.region id b.toArray true).wp P Q a w:=by
 subst m;refine Bq c (kV V) (kSt V d) v r p rfl (fun X=>⟨l,fun i t=>by cases t⟩) (I2.mix b 0 (fun j o h=>by simpa using h) y) (fun L X e g f=> ?_);have:=s L e g.1 f;rw[Ln b 0 _ (FK c (kV V) (ancAll b []) X) a (fun k u=> ?_)]at this
 ·exact this
 ·rw[AP]
  unfold FK
  cases q:c.testBit k with
  |true=>rw[Ay rfl,g.2 k (f k u q)]
  |false=>rw[Aw (by decide),VQ]
theorem wK {b:List Oper}{A:List Nat}{id:Nat}{a:Act}{w:World}(c:Nat)(V:List Value)(d:(Nat→Bool)→World→Prop)
  (f:d (fun _=>false) w.drew) (o:I2 P b A Q c V d a 0 b)
  (l:∀L e,d L e→(∀i,i<b.length→c.testBit i=true→L i=true)→Q .normal (Al b 0 (fun k=>V.getD k undef) a) e) (m:P.follows .mixedOrders=true:=by kernel_rfl) (j:E7 b=true:=by kernel_rfl) (h:C7 b 0=true:=by kernel_rfl) (g:ancAll b []=A:=by kernel_rfl):
  (Code.region id b.toArray true).wp P Q a w:=AO c V d m j h g f o l
end
theorem Lb {P:Program}{w:World}{j:Array Oper}{o:Oper}{a:Act}{K:Act→World→Prop}{Q:Exit→Act→World→Prop}{F:Prop}(d:o.guard=none)(ty:TypeId)(b:Array (Nat×Operand))(e:o.op=.build ty b)(c:Array (Nat×Value))(g:b.map (fun(i,x)=>(i,a.eval x))=c)(u:Value)
  (f:∀W:World,(Instr.build ty c).run P W=.ok u W) (h:K (a.put o.dst u) w):if Region.wanted o (yielded j a.tmps)=true then Oper.wp P o a w K Q else F:=by
 rw[Ay (by simp[Region.wanted,d])];unfold Oper.wp execOp;simp only[e,g,Db,f,Result.andThen_ok];exact h
theorem Cb {P:Program}{w:World}{e:Array Oper}{o:Oper}{a:Act}{K:Act→World→Prop}{Q:Exit→Act→World→Prop}{F:Prop}(ty:TypeId)(x:Operand)(l:o.op=.load ty x)
  (g:Nat) (p:a.eval x=pr g 0) (t:TypeId) (b:Array Value) (c:Nat×Nat) (d:TypeDesc) (i:w.heap[g]?=some (.cells b t c))
  (m:P.underlying ty=some d) (f:(match d with| .struct _| .array _ _=>true|_=>false)=true) (k:(P.info? ty).map (·.size)=some b.size)
  (j:Region.wanted o (yielded e a.tmps)=true) (h:K (a.put o.dst (.agg b)) w):
  if Region.wanted o (yielded e a.tmps)=true then Oper.wp P o a w K Q else F:=by
 rw[Ay j];exact wp_load_row ty x l g p t b c d i m f k h
end Go.Proofs.YtnhbioehiiifdaaGreat
