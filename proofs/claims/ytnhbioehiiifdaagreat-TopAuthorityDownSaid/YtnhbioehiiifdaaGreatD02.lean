import Derived.Test.YtnhbioehiiifdaaGreatD01
import Derived.Great.BuildSlice
import Derived.Deep.QuietTactic
set_option maxRecDepth 100000
set_option maxHeartbeats 16000000
set_option linter.all false
namespace Go.Proofs.YtnhbioehiiifdaaGreat
open Go.ChangeShapes Go.WideShapes Go.ChangeAt Go.RowKit
def upd {α:Type}(f:Nat→α)(i:Nat)(v:α):Nat→α:=fun j=>if j=i then v else f j
@[simp] theorem Bh {α:Type} (f:Nat→α) (i:Nat) (v:α):upd f i v i=v:=by simp[upd]
theorem Bs {α:Type}(f:Nat→α)(i j:Nat)(v:α)(h:j≠i):upd f i v j=f j:=by simp[upd,h]
def Al:List Oper→Nat→(Nat→Value)→Act→Act
 |[],_,_,a=>a
 |o::os,i,x,a=>Al os (i+1) x (a.put o.dst (x i))
def E7:List Oper→Bool
 |[]=>true
 |o::os=>(match o.dst with|none=>true|some d=>os.all (fun a=>a.dst !=some d))&&E7 os
def C7:List Oper→Nat→Bool
 |[],_=>true
 |o::os,i=>o.after.toList.all (fun e=> !Region.binds .any e||decide (e.on<i))&&C7 os (i+1)
def BD (l:Nat→Bool):List Edge→Prop
 |[]=>True
 |e::es=>(Region.binds .any e=true→l e.on=true)∧BD l es
theorem BD.at {l:Nat→Bool}{i:Nat}:∀ {es:List Edge},BD l es→(es.any fun e=>Region.binds .any e&&e.on==i)=true→l i=true
 |[],_,h=>by cases h
 |e::es,h,a=>by
  rw[List.any_cons,CQ,Ar]at a;rcases a with⟨b,c⟩|a
  ·rw[←eq_of_beq c];exact h.1 b
  ·exact BD.at h.2 a
theorem Ko {l:Nat→Bool}:∀a:List Edge,(∀e∈a,Region.binds .any e=true→l e.on=true)→BD l a
 |[],_=>trivial
 |e::a,h=>⟨h e (by simp),Ko a (fun b c=>h b (by simp[c]))⟩
theorem NB (a:Act)(d:Option Tmp)(v u:Value):(a.put d v).put d u=a.put d u:=by cases d<;>simp[Act.put]
theorem OT (b:List Oper):∀(i:Nat) (x:Nat→Value) (a:Act) (d:Option Tmp) (v:Value),(∀o∈b,∀t,o.dst=some t→d≠some t)→Al b i x (a.put d v)=(Al b i x a).put d v:=by
 induction b with
 |nil=>intro i x a d v _;rfl
 |cons o b ih=>intro i x a d v h;simp only[Al];rw[Act.put_comm a v (x i) (fun t f c=>h o (by simp) t c f),ih _ _ _ _ _ (fun g e=>h g (by simp[e]))]
theorem NC (b:List Oper):∀(i:Nat) (x:Nat→Value) (a:Act) (k:Nat) (v:Value),k<i→Al b i (upd x k v) a=Al b i x a:=by
 induction b with
 |nil=>intro i x a k v _;rfl
 |cons o b ih=>intro i x a k v h;simp only[Al];rw[Bs _ _ _ _ (by omega),ih _ _ _ _ _ (by omega)]
theorem Vw (b:List Oper):∀(i:Nat) (x:Nat→Value) (a:Act) (k:Nat) (v:Value) (o:Oper),E7 b=true→b[k]?=some o→Al b i (upd x (i+k) v) a=(Al b i x a).put o.dst v:=by
 induction b with
 |nil=>intro i x a k v o _ h;simp at h
 |cons o' b ih=>
  intro i x a k v o c h;simp only[E7,Ar]at c
  cases k with
  |zero=>
   simp only[List.getElem?_cons_zero,BU]at h;subst h;simp only[Al,Nat.add_zero,Bh];rw[NC _ _ _ _ _ _ (by omega)]
   have d:∀o∈b,∀t,o.dst=some t→o'.dst≠some t:=by intro o f t g e;have:=c.1;rw[e]at this;simp only[Cr]at this;have:=this o f;rw[g]at this;simp at this
   rw[OT b _ _ _ _ _ d,OT b _ _ _ _ _ d,NB]
  |succ k=>simp only[List.getElem?_cons_succ]at h;simp only[Al];rw[Bs _ _ _ _ (by omega),show i+(k+1)=(i+1)+k by omega];exact ih _ _ _ _ _ _ c.2 h
def ownVals (b:List Oper)(a:Act):Nat→Value:=fun i=>match(b[i]?).bind (·.dst)with
 |some d=>a.tmps.getD d undef
 |none=>undef
theorem Vv (a:Act)(d:Option Tmp)(v:Value)(h:∀t,d=some t→v=a.tmps.getD t undef):a.put d v=a:=by
 cases d with
 |none=>rfl
 |some t=>
  obtain⟨g,c⟩:=a;have:=h t rfl;subst this;simp only[Act.put,Act.mk.injEq,and_true];apply Array.ext
  ·simp
  ·intro j f b
   rw[Array.getElem_setIfInBounds]
   ·split
    ·rename_i e;subst e;simp[Array.getD,b]
    ·rfl
theorem MG (b:List Oper):∀(i:Nat) (x:Nat→Value) (a:Act),(∀k o d,b[k]?=some o→o.dst=some d→x (i+k)=a.tmps.getD d undef)→Al b i x a=a:=by
 induction b with
 |nil=>intro i x a _;rfl
 |cons o b ih=>intro i x a h;simp only[Al];rw[Vv a o.dst (x i) (fun t f=>h 0 o t rfl f)];exact ih _ _ _ (fun k g d e c=>by have:=h (k+1) g d (by simpa using e) c;rw[←this];congr 1;omega)
section
variable {P:Program} {Q:Exit→Act→World→Prop}
def Sn (P:Program)(b:List Oper)(Q:Exit→Act→World→Prop)(J:(Nat→Bool)→(Nat→Value)→World→Prop)(a:Act)(i:Nat)(o:Oper):Prop:=
 ∀(l:Nat→Bool) (x:Nat→Value) (w:World),J l x w→l i=false→BD l o.after.toList→
  ∀c:Act→World→Prop,(∀v w',J (upd l i true) (upd x i v) w'→c ((Al b 0 x a).put o.dst v) w')→
   if Region.wanted o (yielded b.toArray (Al b 0 x a).tmps)=true then Oper.wp P o (Al b 0 x a) w c Q else c ((Al b 0 x a).put o.dst undef) w
def IU (P:Program)(b:List Oper)(Q:Exit→Act→World→Prop)(J:(Nat→Bool)→(Nat→Value)→World→Prop)(a:Act):Nat→List Oper→Prop
 |_,[]=>True
 |i,o::os=>Sn P b Q J a i o∧IU P b Q J a (i+1) os
theorem IU.at {c:List Oper}{J:(Nat→Bool)→(Nat→Value)→World→Prop}{a:Act}:∀(b:List Oper) (i k:Nat) (o:Oper),IU P c Q J a i b→b[k]?=some o→Sn P c Q J a (i+k) o
 |[],_,_,_,_,h=>by simp at h
 |o'::b,i,0,o,hs,h=>by simp only[List.getElem?_cons_zero,BU]at h;subst h;exact hs.1
 |o'::b,i,k+1,o,hs,h=>by
  simp only[List.getElem?_cons_succ]at h;have:=IU.at b (i+1) k o hs.2 h
  rwa [show i+1+k=i+(k+1) by omega]at this
theorem FO:∀(a:List Oper) (i k:Nat) (o:Oper),C7 a i=true→a[k]?=some o→∀e∈o.after,Region.binds .any e=true→e.on<i+k
 |[],_,_,_,_,h=>by simp at h
 |o'::a,i,0,o,hb,h=>by simp only[List.getElem?_cons_zero,BU]at h;subst h;simp only[C7,Ar,Cr,CQ,Bool.not_eq_true',A0]at hb;intro e c b;have:=(hb.1 e (by simpa using c)).resolve_left (by simp[b]);omega
 |o'::a,i,k+1,o,hb,h=>by simp only[List.getElem?_cons_succ]at h;simp only[C7,Ar]at hb;intro e c b;have:=FO a (i+1) k o hb.2 h e c b;omega
theorem Md {a:Array Oper}{b:Array Bool}(f:C7 a.toList 0=true)(n:b.size=a.size)(m:Region.ready .any a b=[]):∀i,i<a.size→b.getD i false=true:=by
 intro i
 induction i using Nat.strongRecOn with
 |ind i ih=>
  intro c
  cases h:b.getD i false with
  |true=>rfl
  |false=>
   exfalso
   have d:i∈Region.ready .any a b:=by
    rw[mem_ready];refine⟨?_,a[i],by simp[c], ?_⟩
    ·have k:i<b.size:=by omega
     simp only[Array.getD,k,dif_pos]at h⊢;exact h
    ·intro e j g
     have:=FO a.toList 0 i a[i] f (by simp[c]) e j g;exact ih e.on (by omega) (by omega)
   rw[m]at d;simp at d
theorem RK (l:List Bool)(i:Nat)(h:l[i]?=some false):(l.set i true).count false+1=l.count false:=by
 induction l generalizing i with
 |nil=>simp at h
 |cons b l ih=>
  cases i with
  |zero=>simp only[List.getElem?_cons_zero,BU]at h;subst h;simp
  |succ i=>simp only[List.getElem?_cons_succ]at h;have:=ih i h;simp only[List.set_cons_succ,List.count_cons];omega
theorem M5 {c:Array Oper}{J:(Nat→Bool)→(Nat→Value)→World→Prop}{a:Act}(H:E7 c.toList=true)(s:C7 c.toList 0=true)
  (M:IU P c.toList Q J a 0 c.toList) (t:∀l x w,J l x w→(∀i,i<c.size→l i=true)→Q .normal (Al c.toList 0 x a) w):
  ∀(h:Nat) (b:Array Bool) (x:Nat→Value) (w:World),b.size=c.size→b.toList.count false≤h→J (fun i=>b.getD i false) x w→
   wpAny P .any c Q h b (Al c.toList 0 x a) w:=by
 intro h
 induction h with
 |zero=>
  intro b x w g G n
  have p:Region.ready .any c b=[]:=by
   apply List.eq_nil_iff_forall_not_mem.2;intro i d;rw[mem_ready]at d;obtain⟨k,o,m,_⟩:=d;have f:i<b.size:=by rw[g];exact(Cd.1 m).1
   have:false∈b.toList:=by simp only[Array.getD,f,dif_pos]at k;rw[←k];simp
   have:=List.count_pos_iff.2 this;omega
  exact⟨p,t _ _ _ n (fun i d=>Md s g p i d)⟩
 |succ h ih=>
  intro b x w g G n;refine⟨fun p=>t _ _ _ n (fun i d=>Md s g p i d), ?_⟩;intro i d;rw[mem_ready]at d;obtain⟨k,o,m,I⟩:=d;have f:i<b.size:=by rw[g];exact(Cd.1 m).1
  have q:b.getD i false=false:=by simp only[Array.getD,f,dif_pos]at k⊢;exact k
  have u:c.toList[i]?=some o:=by simpa using m
  have y:=IU.at c.toList 0 i o M u;rw[AP]at y;refine wpOp_step m (fun z E=> ?_);have:=y (fun i=>b.getD i false) x w n q (Ko _ (fun e K F=>I e (by simpa using K) F)) z (fun v w' D=> ?_)
  ·simpa using this
  ·refine E _ _ ?_
   have e:=Vw c.toList 0 x a i v o H u;rw[AP]at e;rw[←e]
   have L:b.toList[i]?=some false:=by rw[CV,Array.getElem?_eq_getElem f];simp only[Array.getD,f,dif_pos]at q;exact A3 some q
   refine ih _ _ _ (by simp[g]) ?_ ?_
   ·have:=RK b.toList i L
    simp only[Array.toList_setIfInBounds];omega
   ·have A:(fun j=>(b.setIfInBounds i true).getD j false)=upd (fun i=>b.getD i false) i true:=by
     funext j
     by_cases r:j=i
     ·subst r;rw[Bh];simp[f]
     ·rw[Bs _ _ _ _ r,getD_set_ne _ (Ne.symm r)]
    rw[A];exact D
def Back (J:(Nat→Bool)→(Nat→Value)→World→Prop)(l:Nat→Bool)(x:Nat→Value)(i:Nat)(o:Oper)(b:Act)(a:Act→World→Prop):Prop:=
 ∀v w',J (upd l i true) (upd x i v) w'→a (b.put o.dst v) w'
theorem Back.go {J:(Nat→Bool)→(Nat→Value)→World→Prop}{l:Nat→Bool}{x:Nat→Value}{i:Nat}{o:Oper}{a:Act→World→Prop}{b:Act}
  (h:Back J l x i o b a) (v:Value) {w':World} {c:Act} (e:b.put o.dst v=c) (d:J (upd l i true) (upd x i v) w'):a c w':=e▸h v w' d
def Oq (P:Program)(d:List Oper)(Q:Exit→Act→World→Prop)(J:(Nat→Bool)→(Nat→Value)→World→Prop)(a:Act)(l:Nat→Bool)(x:Nat→Value)(w:World)(i:Nat)(o:Oper):Prop:=
 ∀b,Al d 0 x a=b→∀c:Act→World→Prop,Back J l x i o b c→if Region.wanted o (yielded d.toArray b.tmps)=true then Oper.wp P o b w c Q else c (b.put o.dst undef) w
theorem Oq.of {d:List Oper}{J:(Nat→Bool)→(Nat→Value)→World→Prop}{a:Act}{l:Nat→Bool}{x:Nat→Value}{w:World}{i:Nat}{o:Oper}{b:Act}(f:Al d 0 x a=b)
  (h:∀c:Act→World→Prop,Back J l x i o b c→if Region.wanted o (yielded d.toArray b.tmps)=true then Oper.wp P o b w c Q else c (b.put o.dst undef) w):Oq P d Q J a l x w i o:=by
 intro j g c e;rw[←g,f]at*;exact h c e
theorem IU.cons {b:List Oper}{J:(Nat→Bool)→(Nat→Value)→World→Prop}{a:Act}{o:Oper}{c:List Oper}(i:Nat)
  (h:∀(l:Nat→Bool) (x:Nat→Value) (w:World),J l x w→l i=false→BD l o.after.toList→Oq P b Q J a l x w i o)
  (k:IU P b Q J a (i+1) c):IU P b Q J a i (o::c):=⟨fun l x w e j g d f=>h l x w e j g _ rfl d f,k⟩
theorem IU.nil {b:List Oper}{J:(Nat→Bool)→(Nat→Value)→World→Prop}{a:Act}(i:Nat):IU P b Q J a i []:=trivial
def SlV (l:Nat→Bool)(x:Nat→Value):Nat→List (Option Value)→Prop
 |_,[]=>True
 |k,none::t=>SlV l x (k+1) t
 |k,some v::t=>(l k=true→x k=v)∧SlV l x (k+1) t
theorem SlV.iff {l:Nat→Bool}{x:Nat→Value}:∀ {L:List (Option Value)} {k:Nat},SlV l x k L↔∀i v,L[i]?=some (some v)→l (k+i)=true→x (k+i)=v
 |[],k=>⟨fun _ i v h=>by simp at h,fun _=>trivial⟩
 |none::t,k=>by
  unfold SlV;rw[SlV.iff];constructor
  ·intro h i v a b
   cases i with
   |zero=>simp at a
   |succ i=>have:=h i v (by simpa using a) (by rw[show k+1+i=k+(i+1) by omega];exact b);rw[show k+(i+1)=k+1+i by omega];exact this
  ·intro h i v a b
   have:=h (i+1) v (by simpa using a) (by rw[show k+(i+1)=k+1+i by omega];exact b);rw[show k+1+i=k+(i+1) by omega];exact this
 |some u::t,k=>by
  unfold SlV;rw[SlV.iff];constructor
  ·rintro⟨h0,h⟩ i v a b
   cases i with
   |zero=>simp at a;subst a;exact h0 b
   |succ i=>have:=h i v (by simpa using a) (by rw[show k+1+i=k+(i+1) by omega];exact b);rw[show k+(i+1)=k+1+i by omega];exact this
  ·intro h
   refine⟨h 0 u rfl,fun i v a b=> ?_⟩;have:=h (i+1) v (by simpa using a) (by rw[show k+(i+1)=k+1+i by omega];exact b);rw[show k+1+i=k+(i+1) by omega];exact this
def YG:=@SlV.iff
theorem SlV.n {x:Nat→Value}{L:List (Option Value)}{k:Nat}:SlV (fun _=>false) x k L:=YG.2 (fun _ _ _ h=>by cases h)
def Yr:=@SlV.n
theorem SlV.a {l:Nat→Bool}{x:Nat→Value}{L:List (Option Value)}(h:SlV l x 0 L)(i:Nat){v:Value}(b:l i=true)(e:L[i]?=some (some v)):x i=v:=by
 have:=YG.1 h i v e (by rw[AP];exact b)
 rwa [AP]at this
theorem SlV.q {l:Nat→Bool}{x:Nat→Value}{L:List (Option Value)}(h:SlV l x 0 L){i:Nat}{u v:Value}(e:u=v):SlV (upd l i true) (upd x i u) 0 (L.set i (some v)):=YG.2 (fun j w b d=>by
 rw[AP]at d⊢;by_cases c:j=i
 ·subst c
  rw[CM]at b;simp only[D5]at b
  split at b
  ·cases b;rw[Bh];exact e
  ·cases b
 ·rw[Bs _ _ _ _ c]at d⊢
  rw[List.getElem?_set_ne (fun h=>c h.symm)]at b;exact h.a j d b)
theorem SlV.r {l:Nat→Bool}{x:Nat→Value}{L:List (Option Value)}(h:SlV l x 0 L){i:Nat}{v:Value}:SlV (upd l i true) (upd x i v) 0 (L.set i (some v)):=h.q rfl
theorem SlV.s {l:Nat→Bool}{x:Nat→Value}{L:List (Option Value)}(h:SlV l x 0 L){i:Nat}{v:Value}(e:L.getD i none=none):SlV (upd l i true) (upd x i v) 0 L:=YG.2 (fun j w d b=>by
 rw[AP]at b⊢;by_cases c:j=i
 ·subst c;rw[Af,d]at e;cases e
 ·rw[Bs _ _ _ _ c]at b⊢
  exact h.a j b d)
theorem AZ {c:List Oper}{id:Nat}{a:Act}{w:World}(J:(Nat→Bool)→(Nat→Value)→World→Prop)(r:P.follows .mixedOrders=true)(m:E7 c=true)(j:C7 c 0=true)
  (h:∀x,J (fun _=>false) x w.drew) (t:IU P c Q J a 0 c) (n:Nat) (s:c.length=n) (f:∀l x w,J l x w→(∀i,i<n→l i=true)→Q .normal (Al c 0 x a) w):
  (Code.region id c.toArray true).wp P Q a w:=by
 obtain⟨b,rfl⟩:∃b:Array Oper,c=b.toList:=⟨c.toArray,rfl⟩;subst s;rw[show b.toList.toArray=b from rfl];replace f:∀l x w,J l x w→(∀i,i<b.size→l i=true)→Q .normal (Al b.toList 0 x a) w:=f;refine wp_region_any r ?_
 have e:Al b.toList 0 (ownVals b.toList a) a=a:=MG _ _ _ _ (fun k o d q p=>by simp only[AP,ownVals,q,Option.bind_some,p])
 have:=M5 (P:=P) (Q:=Q) m j t f b.size (Array.replicate b.size false) (ownVals b.toList a) w.drew (by simp) (by simp) (by
  have g:(fun i=>(Array.replicate b.size false).getD i false)=fun _=>false:=by funext i;simp[Array.getD]
  rw[g];exact h _)
 rw[e]at this;exact this
theorem E9 {c:List Oper}{id:Nat}{a:Act}{w:World}(J:(Nat→Bool)→(Nat→Value)→World→Prop)(r:P.follows .mixedOrders=true)(m:E7 c=true)(j:C7 c 0=true)
  (h:J (fun _=>false) (ownVals c a) w.drew) (t:IU P c Q J a 0 c) (n:Nat) (s:c.length=n) (f:∀l x w,J l x w→(∀i,i<n→l i=true)→Q .normal (Al c 0 x a) w):
  (Code.region id c.toArray true).wp P Q a w:=by
 obtain⟨b,rfl⟩:∃b:Array Oper,c=b.toList:=⟨c.toArray,rfl⟩;subst s;rw[show b.toList.toArray=b from rfl];replace f:∀l x w,J l x w→(∀i,i<b.size→l i=true)→Q .normal (Al b.toList 0 x a) w:=f;refine wp_region_any r ?_
 have e:Al b.toList 0 (ownVals b.toList a) a=a:=MG _ _ _ _ (fun k o d q p=>by simp only[AP,ownVals,q,Option.bind_some,p])
 have:=M5 (P:=P) (Q:=Q) m j t f b.size (Array.replicate b.size false) (ownVals b.toList a) w.drew (by simp) (by simp) (by
  have g:(fun i=>(Array.replicate b.size false).getD i false)=fun _=>false:=by funext i;simp[Array.getD]
  rw[g];exact h)
 rw[e]at this;exact this
end
section
variable {P:Program} {Q:Exit→Act→World→Prop}
theorem IU.s {b:List Oper}{J:(Nat→Bool)→(Nat→Value)→World→Prop}{a:Act}{o:Oper}{c:List Oper}{i:Nat}
  (h:∀(l:Nat→Bool) (x:Nat→Value) (w:World),J l x w→l i=false→BD l o.after.toList→Oq P b Q J a l x w i o)
  (d:IU P b Q J a (i+1) c):IU P b Q J a i (o::c):=IU.cons i h d
theorem IU.n {b:List Oper}{J:(Nat→Bool)→(Nat→Value)→World→Prop}{a:Act}{i:Nat}:IU P b Q J a i []:=trivial
theorem wI {b:List Oper}{id:Nat}{a:Act}{w:World}(J:(Nat→Bool)→(Nat→Value)→World→Prop)
  (c:∀x,J (fun _=>false) x w.drew) (j:IU P b Q J a 0 b) (n:Nat) (f:∀l x w,J l x w→(∀i,i<n→l i=true)→Q .normal (Al b 0 x a) w) (g:P.follows .mixedOrders=true:=by kernel_rfl) (e:E7 b=true:=by kernel_rfl) (d:C7 b 0=true:=by kernel_rfl) (h:b.length=n:=by rfl):
  (Code.region id b.toArray true).wp P Q a w:=AZ J g e d c j n h f
theorem wIo {b:List Oper}{id:Nat}{a:Act}{w:World}(J:(Nat→Bool)→(Nat→Value)→World→Prop)
  (c:J (fun _=>false) (ownVals b a) w.drew) (j:IU P b Q J a 0 b) (n:Nat) (f:∀l x w,J l x w→(∀i,i<n→l i=true)→Q .normal (Al b 0 x a) w) (g:P.follows .mixedOrders=true:=by kernel_rfl) (e:E7 b=true:=by kernel_rfl) (d:C7 b 0=true:=by kernel_rfl) (h:b.length=n:=by rfl):
  (Code.region id b.toArray true).wp P Q a w:=E9 J g e d c j n h f
end
def D0 (A:List Nat):List Edge→Nat
 |[]=>0
 |e::es=>(if Region.binds .any e=true then(1<<<e.on)|||A.getD e.on 0 else 0)|||D0 A es
def ancAll:List Oper→List Nat→List Nat
 |[],A=>A
 |o::os,A=>ancAll os (A++[D0 A o.after.toList])
def Down (a:List Oper)(l:Nat→Bool):Prop:=∀(k:Nat) (o:Oper),a[k]?=some o→l k=true→∀e∈o.after,Region.binds .any e=true→l e.on=true
theorem Kr {A:List Nat}{l:Nat→Bool}(d:∀k i,(A.getD k 0).testBit i=true→l k=true→l i=true):∀(es:List Edge),(∀e∈es,Region.binds .any e=true→l e.on=true)→∀i,(D0 A es).testBit i=true→l i=true
 |[],_,i,h=>by simp[D0]at h
 |e::es,hd,i,h=>by
  unfold D0 at h;rw[Gh,CQ]at h;rcases h with h|h
  ·by_cases a:Region.binds .any e=true
   ·rw[Ay a,Gh,CQ]at h
    have b:=hd e (by simp) a;rcases h with h|h
    ·rw[Nat.one_shiftLeft,Nat.testBit_two_pow]at h
     have:e.on=i:=by simpa using h
     rw[←this];exact b
    ·exact d _ _ h b
   ·rw[Aw a]at h
    simp at h
  ·exact Kr d es (fun f g=>hd f (by simp[g])) i h
theorem Mc {j:List Oper}{l:Nat→Bool}(f:Down j l):∀(a:List Oper) (A:List Nat),(∀k o,a[k]?=some o→j[A.length+k]?=some o)→(∀k i,(A.getD k 0).testBit i=true→l k=true→l i=true)→
  ∀k i,((ancAll a A).getD k 0).testBit i=true→l k=true→l i=true
 |[],A,_,hA=>hA
 |o::a,A,hs,hA=>by
  refine Mc f a (A++[D0 A o.after.toList]) (fun k q h=> ?_) (fun k i h g=> ?_)
  ·have:=hs (k+1) q (by simpa using h)
   rw[Aj,List.length_singleton,Cv,Nat.add_comm 1 k];exact this
  ·by_cases p:k<A.length
   ·rw[Af,AK p,←Af]at h
    exact hA k i h g
   ·by_cases b:k=A.length
    ·subst b
     rw[Af,AC (Av _),C8]at h;have d:=hs 0 o (by simp);rw[Nat.add_zero]at d;exact Kr hA _ (fun e b m=>f _ o d g e (by simpa using b) m) i h
    ·rw[Af,D7 (by simp;omega)]at h
     simp at h
theorem J8 {a:List Oper}{l:Nat→Bool}(b:Down a l){k i:Nat}(h:((ancAll a []).getD k 0).testBit i=true)(d:l k=true):l i=true:=
 Mc b a [] (fun k o h=>by simpa using h) (fun k i h=>by simp at h) k i h d
theorem LZ {A:List Nat}{n:Nat}(b:∀k i,(A.getD k 0).testBit i=true→i<k):∀(es:List Edge),(∀e∈es,Region.binds .any e=true→e.on<n)→∀i,(D0 A es).testBit i=true→i<n
 |[],_,i,h=>by simp[D0]at h
 |e::es,hd,i,h=>by
  unfold D0 at h;rw[Gh,CQ]at h;rcases h with h|h
  ·by_cases a:Region.binds .any e=true
   ·rw[Ay a,Gh,CQ]at h
    have g:=hd e (by simp) a;rcases h with h|h
    ·rw[Nat.one_shiftLeft,Nat.testBit_two_pow]at h
     have:e.on=i:=by simpa using h
     omega
    ·have:=b _ _ h;omega
   ·rw[Aw a]at h
    simp at h
  ·exact LZ b es (fun d f=>hd d (by simp[f])) i h
theorem Nl:∀(a:List Oper) (A:List Nat),C7 a A.length=true→(∀k i,(A.getD k 0).testBit i=true→i<k)→∀k i,((ancAll a A).getD k 0).testBit i=true→i<k
 |[],A,_,hA=>hA
 |o::a,A,hb,hA=>by
  have d:=FO (o::a) A.length 0 o hb (by simp);simp only[C7,Ar]at hb;refine Nl a (A++[D0 A o.after.toList]) (by rw[Aj,List.length_singleton];exact hb.2) (fun k i h=> ?_);by_cases g:k<A.length
  ·rw[Af,AK g,←Af]at h
   exact hA k i h
  ·by_cases b:k=A.length
   ·subst b
    rw[Af,AC (Av _),C8]at h;exact LZ hA _ (fun e b f=>by have:=d e (by simpa using b) f;omega) i h
   ·rw[Af,D7 (by simp;omega)]at h
    simp at h
theorem anc_lt {a:List Oper}{k i:Nat}(b:C7 a 0=true)(h:((ancAll a []).getD k 0).testBit i=true)(d:k<a.length):i<k:=Nl a [] b (fun k i h=>by simp at h) k i h
def mY (A c k:Nat)(x:Nat→Value):Nat→Value:=fun i=>if(c.testBit i&&A.testBit i)=true then x i else undef
def mL (c:Nat)(l:Nat→Bool):Nat→Bool:=fun i=>c.testBit i&&l i
def mX (c:Nat)(l:Nat→Bool)(x:Nat→Value):Nat→Value:=fun i=>if(c.testBit i&&l i)=true then x i else undef
def mV (c:Nat)(V:List ((Nat→Value)→Value))(A:List Nat)(x:Nat→Value)(k:Nat):Value:=if c.testBit k=true then x k else(V.getD k (fun _=>undef)) (mY (A.getD k 0) c k x)
structure Mix (os:List Oper) (c:Nat) (V:List ((Nat→Value)→Value)) (St:(Nat→Bool)→(Nat→Value)→World→Prop) (a:Act) (l:Nat→Bool) (x:Nat→Value) (w:World):Prop where
 down:Down os l
 own:∀k,l k=false→x k=ownVals os a k
 val:∀k,k<os.length→c.testBit k=false→l k=true→x k=mV c V (ancAll os []) x k
 st:St (mL c l) (mX c l x) w
def Dz (c:Nat)(V:List ((Nat→Value)→Value))(A:List Nat)(x:Nat→Value):List Edge→Prop
 |[]=>True
 |e::es=>(Region.binds .any e=true→x e.on=mV c V A x e.on)∧Dz c V A x es
section
variable {c:Nat} {V:List ((Nat→Value)→Value)} {A:List Nat} {x:Nat→Value} {n:Nat} {es:List Edge}
@[simp] theorem dv_nil:Dz c V A x []↔True:=Iff.rfl
@[simp] theorem dv_data:Dz c V A x (⟨n,.data⟩::es)↔(x n=mV c V A x n∧Dz c V A x es):=⟨fun h=>⟨h.1 rfl,h.2⟩,fun h=>⟨fun _=>h.1,h.2⟩⟩
@[simp] theorem dv_chain:Dz c V A x (⟨n,.chain⟩::es)↔(x n=mV c V A x n∧Dz c V A x es):=⟨fun h=>⟨h.1 rfl,h.2⟩,fun h=>⟨fun _=>h.1,h.2⟩⟩
@[simp] theorem dv_phase:Dz c V A x (⟨n,.phase⟩::es)↔(x n=mV c V A x n∧Dz c V A x es):=⟨fun h=>⟨h.1 rfl,h.2⟩,fun h=>⟨fun _=>h.1,h.2⟩⟩
@[simp] theorem dv_text {d:Departure}:Dz c V A x (⟨n,.textOnly d⟩::es)↔Dz c V A x es:=⟨fun h=>h.2,fun h=>⟨fun hb=>absurd hb (by simp[Region.binds]),h⟩⟩
@[simp] theorem dv_gc {d:Departure}:Dz c V A x (⟨n,.gcOnly d⟩::es)↔Dz c V A x es:=⟨fun h=>h.2,fun h=>⟨fun hb=>absurd hb (by simp[Region.binds]),h⟩⟩
end
theorem LO {b:List Oper}{c:Nat}{V:List ((Nat→Value)→Value)}{g:(Nat→Bool)→(Nat→Value)→World→Prop}{a:Act}{l:Nat→Bool}{x:Nat→Value}{w:World}(h:Mix b c V g a l x w):
  ∀es:List Edge,BD l es→(∀e∈es,Region.binds .any e=true→e.on<b.length)→Dz c V (ancAll b []) x es
 |[],_,_=>trivial
 |e::es,hd,hn=>⟨fun d=>by
   cases f:c.testBit e.on with
   |true=>unfold mV;rw[Ay f]
   |false=>exact h.val e.on (hn e (by simp) d) f (hd.1 d),LO h es hd.2 (fun i j=>hn i (by simp[j]))⟩
section
variable {P:Program} {Q:Exit→Act→World→Prop}
abbrev Ss (P:Program)(e:List Oper)(A:List Nat)(Q:Exit→Act→World→Prop)(c:Nat)(V:List ((Nat→Value)→Value))(f:(Nat→Bool)→(Nat→Value)→World→Prop)(a:Act)(k:Nat)(o:Oper):Prop:=
 ∀(L:Nat→Bool) (X x:Nat→Value) (W:World),f L X W→(∀i,L i=true→X i=x i)→(∀i,(c.testBit i&&(A.getD k 0).testBit i)=true→L i=true)→Dz c V (A) x o.after.toList→(∀i,(A.getD i 0).testBit k=true→x i=ownVals e a i)→(∀i,(A.getD i 0).testBit k=true→L i=false)→
  ∀b,Al e 0 x a=b→∀d:Act→World→Prop,(∀v h g,v=(V.getD k (fun _=>undef)) (mY (A.getD k 0) c k x)→b.put o.dst v=h→f L X g→d h g)→
   if Region.wanted o (yielded e.toArray b.tmps)=true then Oper.wp P o b W d Q else d (b.put o.dst undef) W
abbrev WL (P:Program)(e:List Oper)(A:List Nat)(Q:Exit→Act→World→Prop)(c:Nat)(V:List ((Nat→Value)→Value))(f:(Nat→Bool)→(Nat→Value)→World→Prop)(a:Act)(k:Nat)(o:Oper):Prop:=
 ∀(L:Nat→Bool) (X x:Nat→Value) (W:World),f L X W→L k=false→(∀i,L i=true→X i=x i)→(∀i,(c.testBit i&&(A.getD k 0).testBit i)=true→L i=true)→Dz c V (A) x o.after.toList→(∀i,(A.getD i 0).testBit k=true→x i=ownVals e a i)→(∀i,(A.getD i 0).testBit k=true→L i=false)→
  ∀b,Al e 0 x a=b→∀d:Act→World→Prop,(∀v h g,b.put o.dst v=h→f (upd L k true) (upd X k v) g→d h g)→
   if Region.wanted o (yielded e.toArray b.tmps)=true then Oper.wp P o b W d Q else d (b.put o.dst undef) W
def Gk (P:Program)(d:List Oper)(A:List Nat)(Q:Exit→Act→World→Prop)(c:Nat)(V:List ((Nat→Value)→Value))(b:(Nat→Bool)→(Nat→Value)→World→Prop)(a:Act):Nat→List Oper→Prop
 |_,[]=>True
 |k,o::l=>(if c.testBit k=true then WL P d A Q c V b a k o else Ss P d A Q c V b a k o)∧Gk P d A Q c V b a (k+1) l
theorem Gk.still {d:List Oper}{A:List Nat}{c:Nat}{V:List ((Nat→Value)→Value)}{b:(Nat→Bool)→(Nat→Value)→World→Prop}{a:Act}{k:Nat}{o:Oper}{l:List Oper}(e:c.testBit k=false)(h:Ss P d A Q c V b a k o)(f:Gk P d A Q c V b a (k+1) l):Gk P d A Q c V b a k (o::l):=
 ⟨by rw[Aw (by rw[e];decide)];exact h,f⟩
theorem Gk.turn {d:List Oper}{A:List Nat}{c:Nat}{V:List ((Nat→Value)→Value)}{b:(Nat→Bool)→(Nat→Value)→World→Prop}{a:Act}{k:Nat}{o:Oper}{l:List Oper}(e:c.testBit k=true)(h:WL P d A Q c V b a k o)(f:Gk P d A Q c V b a (k+1) l):Gk P d A Q c V b a k (o::l):=
 ⟨by rw[Ay e];exact h,f⟩
theorem Gk.nil {d:List Oper}{A:List Nat}{c:Nat}{V:List ((Nat→Value)→Value)}{b:(Nat→Bool)→(Nat→Value)→World→Prop}{a:Act}{k:Nat}:Gk P d A Q c V b a k []:=trivial
theorem Gk.s {d:List Oper}{A:List Nat}{c:Nat}{V:List ((Nat→Value)→Value)}{b:(Nat→Bool)→(Nat→Value)→World→Prop}{a:Act}{k:Nat}{o:Oper}{l:List Oper}(h:Ss P d A Q c V b a k o)(f:Gk P d A Q c V b a (k+1) l)(e:c.testBit k=false:=by rfl):Gk P d A Q c V b a k (o::l):= .still e h f
theorem Gk.t {d:List Oper}{A:List Nat}{c:Nat}{V:List ((Nat→Value)→Value)}{b:(Nat→Bool)→(Nat→Value)→World→Prop}{a:Act}{k:Nat}{o:Oper}{l:List Oper}(h:WL P d A Q c V b a k o)(f:Gk P d A Q c V b a (k+1) l)(e:c.testBit k=true:=by rfl):Gk P d A Q c V b a k (o::l):= .turn e h f
theorem Gk.at {b:List Oper}{c:Nat}{V:List ((Nat→Value)→Value)}{d:(Nat→Bool)→(Nat→Value)→World→Prop}{a:Act}:∀(l:List Oper) (i k:Nat) (o:Oper),Gk P b (ancAll b []) Q c V d a i l→l[k]?=some o→
  if c.testBit (i+k)=true then WL P b (ancAll b []) Q c V d a (i+k) o else Ss P b (ancAll b []) Q c V d a (i+k) o
 |[],_,_,_,_,h=>by simp at h
 |o'::l,i,0,o,hs,h=>by simp only[List.getElem?_cons_zero,BU]at h;subst h;exact hs.1
 |o'::l,i,k+1,o,hs,h=>by
  simp only[List.getElem?_cons_succ]at h;have:=Gk.at l (i+1) k o hs.2 h
  rwa [show i+1+k=i+(k+1) by omega]at this
theorem mY_upd {a:List Oper}{c k i:Nat}{l:Nat→Bool}{x:Nat→Value}(e:Down a l)(f:l k=true)(b:l i=false)(v:Value):mY ((ancAll a []).getD k 0) c k (upd x i v)=mY ((ancAll a []).getD k 0) c k x:=by
 funext j
 unfold mY;by_cases d:j=i
 ·subst d
  by_cases h:(c.testBit j&&((ancAll a []).getD k 0).testBit j)=true
  ·rw[Ar]at h
   rw[J8 e h.2 f]at b;cases b
  ·rw[Aw h,Aw h]
 ·rw[Bs _ _ _ _ d]
theorem VL {b:List Oper}{c k i:Nat}{V:List ((Nat→Value)→Value)}{l:Nat→Bool}{x:Nat→Value}(e:Down b l)(d:l k=true)(a:l i=false)(v:Value):mV c V (ancAll b []) (upd x i v) k=mV c V (ancAll b []) x k:=by
 have f:k≠i:=by rintro rfl;rw[d]at a;cases a
 unfold mV;rw[Bs _ _ _ _ f,mY_upd e d a]
theorem Down.upd {g:List Oper}{l:Nat→Bool}(h:Down g l)(m:C7 g 0=true){k:Nat}{o:Oper}(s:g[k]?=some o)(f:BD l o.after.toList):Down g (upd l k true):=by
 intro j t d r e a p;by_cases q:j=k
 ·subst q
  rw[s]at d;injection d with d;subst d
  have:∀es:List Edge,BD l es→∀e∈es,Region.binds .any e=true→l e.on=true:=by
   intro es
   induction es with
   |nil=>intro _ e a;cases a
   |cons e' es ih=>
    intro f e a m;rcases Ac.1 a with rfl|a
    ·exact f.1 m
    ·exact ih f.2 e a m
  have i:=this _ f e (by simpa using a) p;by_cases b:e.on=j
  ·rw[b,Bh]
  ·rw[Bs _ _ _ _ b];exact i
 ·rw[Bs _ _ _ _ q]at r
  have i:=h j t d r e a p;by_cases b:e.on=k
  ·rw[b,Bh]
  ·rw[Bs _ _ _ _ b];exact i
theorem Mix.step {d:List Oper}{c:Nat}{V:List ((Nat→Value)→Value)}{L:(Nat→Bool)→(Nat→Value)→World→Prop}{a:Act}(t:C7 d 0=true)(hs:Gk P d (ancAll d []) Q c V L a 0 d){k:Nat}{o:Oper}(B:d[k]?=some o):
  Sn P d Q (Mix d c V L a) a k o:=by
 intro l x w g r u K N;have Z:k<d.length:=(Ai.1 B).1
 have S:=LO g o.after.toList u (fun e m G=>by have:=FO d 0 k o t B e (by simpa using m) G;omega)
 have ab:∀e∈o.after,Region.binds .any e=true→l e.on=true:=by
  intro e m G
  have:∀es:List Edge,BD l es→∀e∈es,Region.binds .any e=true→l e.on=true:=by
   intro es
   induction es with
   |nil=>intro _ e m;cases m
   |cons e' es ih=>
    intro u e m t;rcases Ac.1 m with rfl|m
    ·exact u.1 t
    ·exact ih u.2 e m t
  exact this _ u e (by simpa using m) G
 have F:=g.down.upd t B u
 have R:∀i,(c.testBit i&&((ancAll d []).getD k 0).testBit i)=true→mL c l i=true:=by
  intro i f;rw[Ar]at f;have M:=J8 F f.2 (Bh _ _ _)
  have aa:i≠k:=by have:=anc_lt t f.2 Z;omega
  rw[Bs _ _ _ _ aa]at M;unfold mL;rw[f.1,M];rfl
 have O:∀i,mL c l i=true→mX c l x i=x i:=fun i f=>by unfold mX;unfold mL at f;rw[Ay f]
 have y:=Gk.at d 0 k o hs B;rw[AP]at y
 have X:∀i,((ancAll d []).getD i 0).testBit k=true→x i=ownVals d a i:=fun i f=>g.own i (by
  cases h:l i with
  |false=>rfl
  |true=>rw[J8 g.down f h]at r;cases r)
 have U:∀i,((ancAll d []).getD i 0).testBit k=true→mL c l i=false:=fun i f=>by
  unfold mL
  cases h:l i with
  |false=>rw[Bool.and_false]
  |true=>rw[J8 g.down f h]at r;cases r
 have W:∀v i,upd l k true i=false→upd x k v i=ownVals d a i:=fun v i f=>by
  by_cases b:i=k
  ·subst b;rw[Bh]at f;cases f
  ·rw[Bs _ _ _ _ b]at f⊢
   exact g.own i f
 cases p:c.testBit k with
 |false=>
  rw[Aw (by rw[p];decide)]at y;refine y (mL c l) (mX c l x) x w g.st O R S X U _ rfl K (fun v Y C hv H J=>H▸N v C ⟨F,W v,fun j I q s=> ?_, ?_⟩)
  ·by_cases z:j=k
   ·subst z
    rw[Bh];unfold mV;rw[Aw (by rw[q];decide)]
    have:mY ((ancAll d []).getD j 0) c j (upd x j v)=mY ((ancAll d []).getD j 0) c j x:=by
     funext i
     unfold mY;by_cases T:i=j
     ·subst T;rw[q];rfl
     ·rw[Bs _ _ _ _ T]
    rw[this];exact hv
   ·rw[Bs _ _ _ _ z]at s⊢
    rw[VL g.down s r];exact g.val j I q s
  ·have D:mL c (upd l k true)=mL c l:=by
    funext i
    unfold mL;by_cases b:i=k
    ·subst b;rw[p];rfl
    ·rw[Bs _ _ _ _ b]
   have E:mX c (upd l k true) (upd x k v)=mX c l x:=by
    funext i
    unfold mX;by_cases b:i=k
    ·subst b;rw[p];rfl
    ·rw[Bs _ _ _ _ b,Bs _ _ _ _ b]
   rw[D,E];exact J
 |true=>
  rw[Ay p]at y;refine y (mL c l) (mX c l x) x w g.st (by unfold mL;rw[r,Bool.and_false]) O R S X U _ rfl K (fun v Y C H J=>H▸N v C ⟨F,W v,fun j I q s=> ?_, ?_⟩)
  ·have z:j≠k:=by rintro rfl;rw[p]at q;cases q
   rw[Bs _ _ _ _ z]at s⊢;rw[VL g.down s r];exact g.val j I q s
  ·have D:mL c (upd l k true)=upd (mL c l) k true:=by
    funext i
    unfold mL;by_cases b:i=k
    ·subst b;rw[p,Bh,Bh];rfl
    ·rw[Bs _ _ _ _ b,Bs _ _ _ _ b]
   have E:mX c (upd l k true) (upd x k v)=upd (mX c l x) k v:=by
    funext i
    unfold mX;by_cases b:i=k
    ·subst b;rw[p,Bh,Bh,Bh];rfl
    ·rw[Bs _ _ _ _ b,Bs _ _ _ _ b,Bs _ _ _ _ b]
   rw[D,E];exact J
theorem Mix.steps {b:List Oper}{c:Nat}{V:List ((Nat→Value)→Value)}{d:(Nat→Bool)→(Nat→Value)→World→Prop}{a:Act}(e:C7 b 0=true)(f:Gk P b (ancAll b []) Q c V d a 0 b):∀(l:List Oper) (i:Nat),(∀k o,l[k]?=some o→b[i+k]?=some o)→IU P b Q (Mix b c V d a) a i l
 |[],i,_=>trivial
 |o::l,i,h=>⟨Mix.step e f (by simpa using h 0 o (by simp)),Mix.steps e f l (i+1) (fun k j g=>by have:=h (k+1) j (by simpa using g);rwa [show i+1+k=i+(k+1) by omega])⟩
def FK (c:Nat)(V:List ((Nat→Value)→Value))(A:List Nat)(X:Nat→Value)(k:Nat):Value:=if c.testBit k=true then X k else(V.getD k (fun _=>undef)) (fun i=>if(c.testBit i&&(A.getD k 0).testBit i)=true then X i else undef)
theorem Ln (b:List Oper):∀(i:Nat) (x y:Nat→Value) (a:Act),(∀k,k<b.length→x (i+k)=y (i+k))→Al b i x a=Al b i y a:=by
 induction b with
 |nil=>intro i x y a _;rfl
 |cons o b ih=>intro i x y a h;simp only[Al];rw[show x i=y i from h 0 (by simp)];exact ih _ _ _ _ (fun k d=>by have:=h (k+1) (by simp;omega);rwa [show i+(k+1)=i+1+k by omega]at this)
theorem Bq {b:List Oper}{A:List Nat}{id:Nat}{a:Act}{w:World}(c:Nat)(V:List ((Nat→Value)→Value))(g:(Nat→Bool)→(Nat→Value)→World→Prop)(y:P.follows .mixedOrders=true)(t:E7 b=true)(p:C7 b 0=true)(s:ancAll b []=A)
  (r:∀X,g (fun _=>false) X w.drew) (z:Gk P b A Q c V g a 0 b)
  (u:∀L X m,g L X m→(∀i,i<b.length→c.testBit i=true→L i=true)→Q .normal (Al b 0 (FK c V A X) a) m):
  (Code.region id b.toArray true).wp P Q a w:=by
 subst s;refine E9 (Mix b c V g a) y t p (⟨(fun k o B d=>by cases d),(fun k f=>rfl),(fun k f e d=>by cases d), ?_⟩) (Mix.steps p z b 0 (fun k o h=>by simpa using h)) b.length rfl (fun l x m j d=> ?_)
 ·have q:mL c (fun _=>false)=fun _=>false:=by funext i;unfold mL;rw[Bool.and_false]
  rw[q];exact r _
 ·have:=u _ _ _ j.st (fun i v e=>by unfold mL;rw[e,d i v];rfl)
  rw[Ln b 0 _ x a (fun k f=> ?_)]at this
  ·exact this
  ·rw[AP]
   unfold FK
   cases e:c.testBit k with
   |true=>rw[Ay rfl];unfold mX;rw[e,d k f];rfl
   |false=>
    rw[Aw (by decide),j.val k f e (d k f)];unfold mV;rw[Aw (by rw[e];decide)];refine A3 _ (funext fun i=> ?_);unfold mY mX;by_cases h:(c.testBit i&&((ancAll b []).getD k 0).testBit i)=true
    ·rw[Ay h,Ay h]
     rw[Ar]at h;rw[h.1,J8 j.down h.2 (d k f)];rfl
    ·rw[Aw h,Aw h]
theorem wM {b:List Oper}{A:List Nat}{id:Nat}{a:Act}{w:World}(c:Nat)(V:List ((Nat→Value)→Value))(d:(Nat→Bool)→(Nat→Value)→World→Prop)
  (f:∀X,d (fun _=>false) X w.drew) (m:Gk P b A Q c V d a 0 b)
  (k:∀L X e,d L X e→(∀i,i<b.length→c.testBit i=true→L i=true)→Q .normal (Al b 0 (FK c V A X) a) e) (l:P.follows .mixedOrders=true:=by kernel_rfl) (j:E7 b=true:=by kernel_rfl) (h:C7 b 0=true:=by kernel_rfl) (g:ancAll b []=A:=by kernel_rfl):
  (Code.region id b.toArray true).wp P Q a w:=Bq c V d l j h g f m k
end
section
variable {α:Type} {enc:α→List Value} {k:Nat}
def rows (enc:α→List Value)(L:List α):List Value:=(L.map enc).flatten
theorem E2 (y:α)(L:List α):rows enc (y::L)=enc y++rows enc L:=by simp[rows]
theorem Ij (L M:List α):rows enc (L++M)=rows enc L++rows enc M:=by simp[rows]
theorem I8 (L:List α)(y:α):rows enc (L++[y])=rows enc L++enc y:=by simp[rows]
theorem Eo (a:∀x,(enc x).length =k)(L:List α):(rows enc L).length =L.length*k:=by
 induction L with
 |nil=>simp[rows]
 |cons y L ih=>rw[E2,Aj,ih,a,List.length_cons,Dv,Nat.one_mul,Nat.add_comm]
theorem ON (b:∀x,∀v∈enc x,v.oneCell'=true)(L:List α):∀u∈rows enc L,u.oneCell'=true:=by intro u a;obtain⟨c,d,a⟩:=DY.1 a;obtain⟨y,f,rfl⟩:=AI.1 d;exact b y u a
theorem I9 (a:∀x,(enc x).length =k):∀(L:List α) (i:Nat) (y:α) (j:Nat),L[i]?=some y→j<k→(rows enc L)[i*k+j]?=(enc y)[j]?
 |[],i,y,j,h,_=>by simp at h
 |x::L,0,y,j,h,hj=>by simp at h;subst h;rw[E2,Nat.zero_mul,AP,AK (by rw[a];exact hj)]
 |x::L,i+1,y,j,h,hj=>by rw[E2,show(i+1)*k+j=(enc x).length +(i*k+j) by rw[a,Dv,Nat.one_mul];omega,AC (by omega)];rw[show(enc x).length +(i*k+j)-(enc x).length =i*k+j by omega];exact I9 a L i y j (by simpa using h) hj
theorem JI (a:∀x,(enc x).length =k):∀(L:List α) (i:Nat),(rows enc L).take (i*k)=rows enc (L.take i)
 |[],i=>by simp[rows]
 |x::L,0=>by simp[rows]
 |x::L,i+1=>by rw[E2,show(i+1)*k=(enc x).length +i*k by rw[a,Dv,Nat.one_mul];omega,List.take_length_add_append,JI a L i,List.take_succ_cons,E2]
theorem JK (a:∀x,(enc x).length =k):∀(L:List α) (i:Nat),(rows enc L).drop (i*k)=rows enc (L.drop i)
 |[],i=>by simp[rows]
 |x::L,0=>by simp
 |x::L,i+1=>by rw[E2,show(i+1)*k=(enc x).length +i*k by rw[a,Dv,Nat.one_mul];omega,List.drop_length_add_append,JK a L i,BB]
theorem QW (a:∀x,(enc x).length =k)(L:List α)(i:Nat):(rows enc L).take (i*k)++(rows enc L).drop ((i+1)*k)=rows enc (L.eraseIdx i):=by rw[List.eraseIdx_eq_take_drop_succ,JI a,JK a,Ij]
theorem Vn (a:∀x,(enc x).length =k)(L:List α)(i:Nat)(y:α)(b:i<L.length):BQ (rows enc L) (i*k) (enc y)=rows enc (L.set i y):=by unfold BQ;rw[a,show i*k+k=(i+1)*k by rw[Dv,Nat.one_mul],JI a,JK a,CF,Ay b,Ij,E2]
theorem V4 (A B C a:List Value)(j:Nat)(h:j+a.length≤B.length):BQ (A++(B++C)) (A.length+j) a=A++(BQ B j a++C):=by unfold BQ;rw[List.take_length_add_append,BE (by omega),show A.length+j+a.length=A.length+(j+a.length) by omega,List.drop_length_add_append,C3 h];simp
theorem MC (a:List Value)(o:Nat)(u:Value)(h:o<a.length):a.set o u=BQ a o [u]:=by rw[CF,Ay h];rfl
theorem JJ (b:∀x,(enc x).length =k)(L:List α)(i:Nat)(h:i<L.length)(d f:α)(c a:List Value)(j:Nat)(l:j+a.length≤k)(g:enc f=BQ (enc d) j a):BQ (rows enc (L.set i d)++c) (i*k+j) a=rows enc (L.set i f)++c:=by
 have e:∀y,rows enc (L.set i y)=rows enc (L.take i)++(enc y++rows enc (L.drop (i+1))):=fun y=>by rw[CF,Ay h,Ij,E2]
 have m:(rows enc (L.take i)).length =i*k:=by rw[Eo b,Az,BZ (by omega)]
 rw[e,e,Ax,Ax,←m,V4 _ _ _ _ _ (by rw[b];exact l),g];simp
variable {w:World} {base n:Nat} {T:TypeId} {v:Value}
theorem C5 {xs:List Value}(h:w.ownsRow base T k v n xs):∀b,v.ownBlock=some b→Ty w b T:=by
 intro b a;rcases h.2 with⟨rfl,f⟩|⟨g,cap,d,rfl,_,c,_⟩
 ·cases a
 ·cases a;exact⟨_,_,c⟩
theorem Keep.ownsRow {w a:World}{xs:List Value}{S:List Nat}(h:w.ownsRow base T k v n xs)(m:Keep S w a)(d:∀b,v.ownBlock=some b→b∉S):a.ownsRow base T k v n xs:=by
 have j:=B3 h;refine⟨h.1, ?_⟩;rcases h.2 with⟨rfl,l⟩|⟨g,cap,c,rfl,f,i,r⟩
 ·exact .inl ⟨rfl,l⟩
 ·exact .inr ⟨g,cap,c,rfl,f,by rw[m.block g (j g rfl).2 (d g rfl)];exact i,r⟩
def Do:=@Keep.ownsRow
theorem Cq {L:List α}(c:∀x,(enc x).length =k)(h:w.ownsRow base T k v L.length (rows enc L)){i:Nat}{y:α}(f:L[i]?=some y):
  ∃g cap,v=.slice (some ⟨g,0,none⟩) L.length cap∧base≤g∧g<w.heap.size∧w.rangeAt g (i*k) (enc y)∧(∀j,w.frozen? ⟨g,j,none⟩=false)∧Ty w g T:=by
 have u:=(Ai.1 f).1;have o:=B3 h;rcases h.2 with⟨rfl,z⟩|⟨g,cap,q,rfl,l,b,A,r,s,p⟩
 ·omega
 ·refine⟨g,cap,rfl,l,(o g rfl).2,fun j x d=> ?_,fun j=>by simp[World.frozen?,b],⟨_,_,b⟩⟩
  have m:j<k:=by have:=(Ai.1 d).1;rw[c]at this;exact this
  have a:=I9 c L i y j f m;rw[d,←p,BP]at a
  split at a
  ·simp only[World.cell?,b]
   rw[←CV];exact a
  ·cases a
theorem E4 {xs:List Value}(h:w.ownsRow base T k v n xs)(o:0<n):∃g cap spare,v=.slice (some ⟨g,0,none⟩) n cap∧n≤cap∧base≤g∧Blk w g (xs++spare) T∧cap*k=xs.length+spare.length∧cap≤maxLen:=by
 rcases h.2 with⟨rfl,m⟩|⟨g,cap,a,rfl,b,f,i,c,d,j⟩
 ·omega
 ·have l:=h.1
  have e:xs++a.toList.drop (n*k)=a.toList:=by
   conv=>rhs;rw[←BX (n*k) a.toList]
   rw[j]
  refine⟨g,cap,a.toList.drop (n*k),rfl,i,b, ?_, ?_,c⟩
  ·unfold Blk
   rw[e];exact f
  ·have:=A3 List.length e
   rw[Aj]at this;rw[this];simpa using d.symm
theorem Blk.ownsRow {xs spare:List Value}{g cap:Nat}(h:Blk w g (xs++spare) T)(a:xs.length=n*k)(f:n≤cap)(c:cap*k=xs.length+spare.length)(d:cap≤maxLen)(b:base≤g):w.ownsRow base T k (.slice (some ⟨g,0,none⟩) n cap) n xs:=
 ⟨a,.inr ⟨g,cap,_,rfl,b,h,f,d,by simp[c],by rw[←a];simp⟩⟩
def Yy:=@Blk.ownsRow
variable {P:Program} {t e:TypeId}
theorem KI (g:P.underlying t=some (.slice e))(w:World)(b:Nat)(a:List Value)(f:a.length=k)(h:Blk w b a T)(d:∀v∈a,v.oneCell'=true):Src P k t (.slice (some ⟨b,0,none⟩) 1 1) 1 a w:=by refine CC _ g ⟨b,0,none⟩ 1 1 a (by rw[f,Nat.one_mul]) ?_ d;intro j x i;rw[show(⟨b,0,none⟩:Addr).add j=⟨b,j,none⟩ by by_cases c:j=0<;>simp[Addr.add,c],h.cell];exact i
theorem Ny {w:World}{j:Array Oper}{o:Oper}{a:Act}{K:Act→World→Prop}{Q:Exit→Act→World→Prop}{F:Prop}(c:o.guard=none)(x:Operand)(d:o.op=.buildSlice t 1 #[(0,x)])(b:List Value)(g:a.eval x=.agg b.toArray)
  (f:∀W:World,(Instr.buildSlice t 1 #[(0,.agg b.toArray)]).run P W=.ok (.slice (some ⟨W.heap.size,0,none⟩) 1 1) (W.alloc (.cells b.toArray T)))
  (h:K (a.put o.dst (.slice (some ⟨w.heap.size,0,none⟩) 1 1)) (w.alloc (.cells b.toArray T))):if Region.wanted o (yielded j a.tmps)=true then Oper.wp P o a w K Q else F:=by
 rw[Ay (by simp[Region.wanted,c])];unfold Oper.wp execOp;have e:(#[(0,x)]:Array (Nat×Operand)).map (fun(i,x)=>(i,a.eval x))=#[(0,.agg b.toArray)]:=by simp[g]
 simp only[d,e,Db,f,Result.andThen_ok];exact h
theorem DM {i:Array Oper}{rest:List Oper}{op:Oper}{a:Act}{w:World}{Q:Exit→Act→World→Prop}(l:op.guard=none)(ty:TypeId)(x y:Operand)(p:op.op=.store ty x y)
  (b o:Nat) (c cells:List Value) (q:a.eval x=pr b o) (r:a.eval y=.agg cells.toArray) (f:Blk w b c T) (g:o+cells.length≤c.length) (m:(P.info? ty).map (·.size)=some cells.length) (j:∀v∈cells,v.oneCell'=true)
  (h:∀d,Blk d b (BQ c o cells) T→Keep [b] w d→wpList P i Q rest (a.put op.dst undef) d):wpList P i Q (op::rest) a w:=
 wpList_store_mid l ty x y p b o cells.toArray q r (f.there o _ (by simpa using g)) (by simpa using m) (Fe j) (h _ (f.setCells cells o w _ g) (E6 _ _ _ _ (By _ _) (.inl (by simp))))
theorem Wf (w:World)(T:TypeId)(k:Nat):(w.alloc (.cells #[] T)).ownsRow w.heap.size T k (.slice (some ⟨w.heap.size,0,none⟩) 0 0) 0 []:=⟨by simp,.inr ⟨w.heap.size,0,#[],rfl,Av _,BY w [] T,by simp,by unfold maxLen;omega,by simp,by simp⟩⟩
end
structure As where
 P:List Nat→World→Prop
 keep:∀ {F S:List Nat} {w w':World},P F w→Keep S w w'→(∀q∈S,q∉F)→P F w'
 lt:∀ {F:List Nat} {w:World},P F w→∀q∈F,q<w.heap.size
def J9:List As→List Nat→World→Prop
 |[],F,_=>F=[]
 |A::l,F,w=>∃a c,F=a++c∧A.P a w∧J9 l c w∧∀q∈a,q∉c
theorem J9.keep:∀ {l:List As} {F S:List Nat} {w w':World},J9 l F w→Keep S w w'→(∀q∈S,q∉F)→J9 l F w'
 |[],_,_,_,_,h,_,_=>h
 |A::l,_,S,w,w',⟨F1,F2,rfl,h1,h2,hd⟩,k,hS=>⟨F1,F2,rfl,A.keep h1 k (fun q c a=>hS q c (A2 _ a)),J9.keep h2 k (fun q c a=>hS q c (AQ _ a)),hd⟩
theorem J9.lt:∀ {l:List As} {F:List Nat} {w:World},J9 l F w→∀q∈F,q<w.heap.size
 |[],_,_,h,q,a=>by have c:_=[]:=h;rw[c]at a;cases a
 |A::l,_,w,⟨F1,F2,rfl,h1,h2,hd⟩,q,a=>by
  rcases Ag.1 a with a|a
  ·exact A.lt h1 q a
  ·exact J9.lt h2 q a
theorem J9.app:∀ {l m:List As} {F G:List Nat} {w:World},J9 l F w→J9 m G w→(∀q∈F,q∉G)→J9 (l++m) (F++G) w
 |[],m,F,G,w,h,hm,hd=>by have c:F=[]:=h;subst c;exact hm
 |A::l,m,_,G,w,⟨F1,F2,rfl,h1,h2,hd⟩,hm,hG=>
  ⟨F1,F2++G,by rw[Ax],h1,J9.app h2 hm (fun q a=>hG q (AQ _ a)),fun q a d=>by
   rcases Ag.1 d with h|h
   ·exact hd q a h
   ·exact hG q (A2 _ a) h⟩
theorem J9.split:∀ {l m:List As} {F:List Nat} {w:World},J9 (l++m) F w→∃a c,F=a++c∧J9 l a w∧J9 m c w∧∀q∈a,q∉c
 |[],m,F,w,h=>⟨[],F,rfl,rfl,h,by simp⟩
 |A::l,m,_,w,⟨a,c,rfl,h1,h2,hd⟩=>by
  obtain⟨e,g,rfl,j,k,i⟩:=J9.split h2;refine⟨a++e,g,by rw[Ax],⟨a,e,rfl,h1,j,fun q d n=>hd q d (A2 _ n)⟩,k,fun q d f=> ?_⟩;rcases Ag.1 d with h|h
  ·exact hd q h (AQ _ f)
  ·exact i q h f
theorem J9.perm {l m:List As}(p:l.Perm m):∀ {F:List Nat} {w:World},J9 l F w→∃G,J9 m G w∧∀q,q∈G↔q∈F:=by
 induction p with
 |nil=>exact fun h=>⟨_,h,fun _=>Iff.rfl⟩
 |cons A p ih=>rintro F w ⟨c,e,rfl,g,i,d⟩;obtain⟨G,j,a⟩:=ih i;exact⟨c++G,⟨c,G,rfl,g,j,fun q h n=>d q h ((a q).1 n)⟩,fun q=>by rw[Ag,Ag,a q]⟩
 |swap A B l=>
  rintro F w ⟨c,_,rfl,g,⟨e,f,rfl,i,o,s⟩,d⟩;refine⟨e++(c++f),⟨e,c++f,rfl,i,⟨c,f,rfl,g,o,fun q a h=>d q a (AQ _ h)⟩,fun q a h=> ?_⟩,fun q=> ?_⟩
  ·rcases Ag.1 h with h|h
   ·exact d q h (A2 _ a)
   ·exact s q a h
  ·simp only[Ag]
   constructor
   ·rintro(h|h|h)
    ·exact .inr (.inl h)
    ·exact .inl h
    ·exact .inr (.inr h)
   ·rintro(h|h|h)
    ·exact .inr (.inl h)
    ·exact .inl h
    ·exact .inr (.inr h)
 |trans _ _ ih1 ih2=>intro F w h;obtain⟨G,j,a⟩:=ih1 h;obtain⟨k,r,t⟩:=ih2 j;exact⟨k,r,fun q=>(t q).trans (a q)⟩
def Sp (l:List As)(w:World):Prop:=∃F,J9 l F w
section
variable {A B:As} {l m R:List As} {w w':World}
theorem Sp.perm (h:Sp l w)(p:l.Perm m):Sp m w:=by obtain⟨F,hF⟩:=h;obtain⟨G,a,_⟩:=J9.perm p hF;exact⟨G,a⟩
theorem Sp.still (h:Sp l w)(k:Keep [] w w'):Sp l w':=by obtain⟨F,hF⟩:=h;exact⟨F,hF.keep k (by simp)⟩
theorem Sp.drew (h:Sp l w):Sp l w.drew:=h.still (By _ _).drew
theorem Sp.step (h:Sp (A::R) w):∃F,A.P F w∧∀(l:List As) (w':World) (G:List Nat),J9 l G w'→Keep F w w'→(∀q∈G,q∈F∨w.heap.size≤q)→Sp (l++R) w':=by
 obtain⟨_,e,f,rfl,g,c,d⟩:=h;refine⟨e,g,fun l w' G j k i=>⟨G++f,J9.app j (c.keep k d) (fun q n h=> ?_)⟩⟩;rcases i q n with a|a
 ·exact d q a h
 ·have:=c.lt q h;omega
theorem Sp.one (h:Sp (A::R) w):∃F,A.P F w∧∀(B:As) (w':World) (G:List Nat),B.P G w'→Keep F w w'→(∀q∈G,q∈F∨w.heap.size≤q)→Sp (B::R) w':=by obtain⟨F,hF,d⟩:=h.step;exact⟨F,hF,fun B w' G a k c=>d [B] w' G ⟨G,[],(AE _).symm,a,rfl,by simp⟩ k c⟩
theorem Sp.two (h:Sp (A::B::R) w):∃a c,A.P a w∧B.P c w∧(∀q∈a,q∉c)∧∀(l:List As) (w':World) (G:List Nat),J9 l G w'→Keep (a++c) w w'→(∀q∈G,q∈a++c∨w.heap.size≤q)→Sp (l++R) w':=by
 obtain⟨_,a,_,rfl,n,⟨c,f,rfl,o,g,r⟩,i⟩:=h;refine⟨a,c,n,o,fun q e h=>i q e (A2 _ h),fun l w' G s k p=> ?_⟩
 have j:∀q∈a++c,q∉f:=fun q e h=>by
  rcases Ag.1 e with d|d
  ·exact i q d (AQ _ h)
  ·exact r q d h
 refine⟨G++f,J9.app s (g.keep k j) (fun q e h=> ?_)⟩;rcases p q e with d|d
 ·exact j q d h
 ·have:=g.lt q h;omega
theorem Sp.new (h:Sp R w)(k:Keep [] w w'){G:List Nat}(c:J9 l G w')(a:∀q∈G,w.heap.size≤q):Sp (l++R) w':=by obtain⟨F,hF⟩:=h;exact⟨G++F,J9.app c (hF.keep k (by simp)) (fun q d h=>by have e:=hF.lt q h;have f:=a q d;omega)⟩
theorem Sp.new1 (h:Sp R w)(k:Keep [] w w'){G:List Nat}(a:B.P G w')(c:∀q∈G,w.heap.size≤q):Sp (B::R) w':=
 h.new (l:=[B]) (G:=G) k ⟨G,[],(AE _).symm,a,rfl,by simp⟩ c
theorem Sp.drop (h:Sp (A::R) w):Sp R w:=by obtain⟨_,d,a,rfl,e,c,f⟩:=h;exact⟨a,c⟩
theorem Sp.dropL (h:Sp (l++R) w):Sp R w:=by obtain⟨F,hF⟩:=h;obtain⟨d,a,rfl,e,c,f⟩:=J9.split hF;exact⟨a,c⟩
theorem Sp.weak (h:Sp (A::R) w)(g:∀F,A.P F w→B.P F w):Sp (B::R) w:=by obtain⟨_,a,c,rfl,d,e,f⟩:=h;exact⟨_,a,c,rfl,g _ d,e,f⟩
end
def pull:Nat→List As→List As
 |n+1,a::l=>match pull n l with
  |b::l'=>b::a::l'
  |[]=>[a]
 |_,l=>l
def push:Nat→List As→List As
 |n+1,a::b::l=>b::push n (a::l)
 |_,l=>l
theorem MJ:∀(n:Nat) (l:List As),(pull n l).Perm l
 |0,l=>by cases l<;>exact Df _
 |n+1,[]=>Df _
 |n+1,a::l=>by
  have c:=MJ n l;unfold pull
  split
  ·rename_i b l' he
   rw[he]at c;exact(List.Perm.swap a b l').trans (List.Perm.cons a c)
  ·rename_i he
   rw[he]at c;exact List.Perm.cons a c
theorem MI:∀(n:Nat) (l:List As),(push n l).Perm l
 |0,l=>by cases l<;>exact Df _
 |n+1,[]=>Df _
 |n+1,[a]=>Df _
 |n+1,a::b::l=>by unfold push;exact(List.Perm.cons b (MI n (a::l))).trans (List.Perm.swap a b l)
theorem Sp.pull {l:List As}{w:World}(h:Sp l w)(n:Nat):Sp (pull n l) w:=h.perm (MJ n l).symm
theorem Sp.push {l:List As}{w:World}(h:Sp l w)(n:Nat):Sp (push n l) w:=h.perm (MI n l).symm
def ED (l:List As):As:=⟨J9 l,J9.keep,J9.lt⟩
def As.ex {α:Sort _}(f:α→As):As:=⟨fun F w=>∃a,(f a).P F w,fun⟨a,h⟩ k c=>⟨a,(f a).keep h k c⟩,fun⟨a,h⟩=>(f a).lt h⟩
def As.and (p:Prop)(A:As):As:=⟨fun F w=>p∧A.P F w,fun⟨c,h⟩ k a=>⟨c,A.keep h k a⟩,fun⟨_,h⟩=>A.lt h⟩
section
variable {R l:List As} {w w':World}
theorem Sp.open_ (h:Sp (ED l::R) w):Sp (l++R) w:=by obtain⟨_,e,f,rfl,a,c,d⟩:=h;exact⟨_,J9.app a c d⟩
theorem Sp.close (l:List As)(h:Sp (l++R) w):Sp (ED l::R) w:=by obtain⟨F,hF⟩:=h;obtain⟨a,c,rfl,d,e,f⟩:=J9.split hF;exact⟨_,a,c,rfl,d,e,f⟩
def DV:=@Sp.close
theorem Sp.exE {α:Sort _}{f:α→As}(h:Sp (As.ex f::R) w):∃a,Sp (f a::R) w:=by obtain⟨_,c,d,rfl,⟨a,e⟩,g,i⟩:=h;exact⟨a,_,c,d,rfl,e,g,i⟩
theorem Sp.exI {α:Sort _}{f:α→As}(a:α)(h:Sp (f a::R) w):Sp (As.ex f::R) w:=by obtain⟨_,c,d,rfl,e,g,i⟩:=h;exact⟨_,c,d,rfl,⟨a,e⟩,g,i⟩
theorem Sp.andE {p:Prop}{A:As}(h:Sp (As.and p A::R) w):p∧Sp (A::R) w:=by obtain⟨_,a,c,rfl,⟨g,d⟩,e,f⟩:=h;exact⟨g,_,a,c,rfl,d,e,f⟩
theorem Sp.andI {p:Prop}{A:As}(g:p)(h:Sp (A::R) w):Sp (As.and p A::R) w:=by obtain⟨_,a,c,rfl,d,e,f⟩:=h;exact⟨_,a,c,rfl,⟨g,d⟩,e,f⟩
def AM (b:Nat)(cs:List Value)(T:TypeId):As:=⟨fun F w=>F=[b]∧Blk w b cs T,fun⟨hF,h⟩ k c=>⟨hF,h.keep k (fun d=>c b d (by rw[hF];simp))⟩,fun⟨hF,h⟩ q a=>by rw[hF]at a;simp at a;subst a;exact h.lt⟩
def BF (T:TypeId)(k:Nat)(v:Value)(n:Nat)(xs:List Value):As:=⟨fun F w=>F=v.ownBlock.toList∧w.ownsRow 0 T k v n xs,fun⟨hF,h⟩ f c=>⟨hF,Do h f (fun b d e=>c b e (by rw[hF,d];simp))⟩,fun⟨hF,h⟩ q a=>by rw[hF]at a;exact(B3 h q (by simpa using a)).2⟩
variable {b:Nat} {cs:List Value} {T:TypeId}
theorem Sp.blk (h:Sp (AM b cs T::R) w):Blk w b cs T:=by obtain⟨_,c,d,rfl,⟨_,a⟩,e,f⟩:=h;exact a
theorem Sp.row {k n:Nat}{v:Value}{xs:List Value}(h:Sp (BF T k v n xs::R) w):w.ownsRow 0 T k v n xs:=by obtain⟨_,c,d,rfl,⟨_,a⟩,e,f⟩:=h;exact a
theorem Sp.set (h:Sp (AM b cs T::R) w){a:List Value}(c:Blk w' b a T)(k:Keep [b] w w'):Sp (AM b a T::R) w':=by obtain⟨F,⟨hF,f⟩,e⟩:=h.one;exact e _ _ [b] ⟨rfl,c⟩ (hF▸k) (fun q d=> .inl (by rw[hF];exact d))
theorem Sp.setCell (h:Sp (AM b cs T::R) w)(i:Nat)(v:Value):Sp (AM b (cs.set i v) T::R) (w.setCell ⟨b,i,none⟩ v):=
 h.set (h.blk.set i v) (Or (p:=⟨b,i,none⟩) (By [b] w) (.inl (Ah.2 rfl)) v)
theorem Sp.alloc (h:Sp R w)(cs:List Value)(T:TypeId):Sp (AM w.heap.size cs T::R) (w.alloc (.cells cs.toArray T)):=
 h.new1 (G:=[w.heap.size]) ((By _ _).alloc _) ⟨rfl,BY _ _ _⟩ (by simp)
theorem Sp.nilRow (h:Sp R w)(T:TypeId)(k:Nat):Sp (BF T k (.slice none 0 0) 0 []::R) w:=
 h.new1 (G:=[]) (By _ _) ⟨rfl,AY w 0 T k⟩ (by simp)
theorem Sp.at {A:As}:∀ {l:List As} {w:World},Sp l w→∀n:Nat,l[n]?=some A→∃F,A.P F w
 |[],_,_,n,hn=>by simp at hn
 |B::l,w,⟨_,F1,F2,rfl,h1,h2,hd⟩,0,hn=>by simp at hn;subst hn;exact⟨F1,h1⟩
 |B::l,w,⟨_,F1,F2,rfl,h1,h2,hd⟩,n+1,hn=>Sp.at (l:=l) ⟨F2,h2⟩ n (by simpa using hn)
theorem Sp.pre {l m:List As}{w:World}(h:Sp (l++m) w):Sp l w:=by obtain⟨F,hF⟩:=h;obtain⟨a,d,rfl,c,e,f⟩:=J9.split hF;exact⟨a,c⟩
end
def Kw (is:List Nat)(l:List As):List As:=is.filterMap (fun i=>l[i]?)
theorem QS (l:List As):Kw (List.range l.length) l=l:=by
 unfold Kw
 induction l with
 |nil=>rfl
 |cons a l ih=>rw[List.length_cons,List.range_succ_eq_map,List.filterMap_cons];simp only[List.getElem?_cons_zero,List.filterMap_map,Function.comp_def,List.getElem?_cons_succ];rw[ih]
theorem T3 {is:List Nat}{l:List As}(h:is.isPerm (List.range l.length)=true):(Kw is l).Perm l:=by have:=(List.isPerm_iff.1 h).filterMap (fun i=>l[i]?);have e:=QS l;unfold Kw at*;rw[e]at this;exact this
theorem Vh (is a:List Nat)(l:List As):Kw (is++a) l=Kw is l++Kw a l:=List.filterMap_append
theorem Sp.sel {l R:List As}{w:World}(h:Sp (l++R) w)(is:List Nat)(k:Nat)(a:l.length=k)(c:is.isPerm (List.range k)=true):Sp (Kw is l++R) w:=
 h.perm ((T3 (by rw[a];exact c)).symm.append_right R)
def YH:=@Sp.sel
theorem Sp.focus {l R:List As}{w:World}(h:Sp (l++R) w)(is d:List Nat)(k:Nat)(c:l.length=k)(n:(is++d).isPerm (List.range k)=true):∃F,J9 (Kw is l) F w∧∀(a:List Nat) (m:List As) (w':World) (G:List Nat),J9 m G w'→Keep F w w'→(∀q∈G,q∈F∨w.heap.size≤q)→(m++Kw d l).length =a.length→a.isPerm (List.range a.length)=true→Sp (Kw a (m++Kw d l)++R) w':=by have e:=h.sel _ k c n;rw[Vh,Ax]at e;obtain⟨F,hF,o⟩:=(DV _ e).step;refine⟨F,hF,fun a m w' G j p g i c=> ?_⟩;have f:=o m w' G j p g;rw[←Ax]at f;exact f.sel _ _ i c
def Yq:=@Sp.focus
def SS (v:Value):Option (DataW Value×List MemPlace):=some (.held v,[])
def MV {β:Type}(P:Program)(k:TypeId)(ky:β→Lit)(w:World)(g n:Nat)(f:β→Option Value):Prop:=
 ∃D:DataW Value,w.ownsMap P k SS g n D∧Maps.IsMap D∧∀b:β,Maps.has D (ky b)=(f b).isSome ∧∀x,f b=some x→∀z,D.atKey (ky b) z=.held x
section
variable {P:Program} {k:TypeId} {w w':World} {g n:Nat} {β:Type} {ky:β→Lit} {f:β→Option Value}
theorem MV.made (P:Program)(k:TypeId)(ky:β→Lit)(w:World):MV P k ky (w.alloc (.map #[] 0)) w.heap.size 0 (fun _=>none):=
 ⟨.map [],World.ownsMap_made w _ _ _,Maps.isMap_empty,fun k=>⟨rfl,fun x h=>by cases h⟩⟩
theorem MV.lt (h:MV P k ky w g n f):g<w.heap.size:=by obtain⟨D,h,_⟩:=h;exact h.lt
theorem MV.keep {S:List Nat}(h:MV P k ky w g n f)(i:Keep S w w')(e:g∉S):MV P k ky w' g n f:=by obtain⟨D,⟨b,clock,a,r⟩,c⟩:=h;have d:=(Cd.1 a).1;exact⟨D,⟨b,clock,by rw[i.block g d e];exact a,r⟩,c⟩
theorem MV.ne {b:Nat}{T:TypeId}(h:MV P k ky w g n f)(d:Ty w b T):b≠g:=by obtain⟨D,⟨e,clock,c,_⟩,_⟩:=h;rintro rfl;obtain⟨_,_,a⟩:=d;rw[c]at a;cases a
theorem MV.look {t e:TypeId}(h:MV P k ky w g n f)(K:Maps.Keyed P k)(p:P.underlying t=some (.map k e)){z:Value}(q:(zeroValue e).run P w=.ok z w){key:Value}{kl:β}(m:keyOf P k key=some (ky kl)):
  (Instr.lookup t (.map (some g)) key false).run P w=.ok ((f kl).getD z) w:=by
 obtain⟨D,j,r,l⟩:=h;obtain⟨v,ps,o,b⟩:=j.lookup (t:=t) K p q (show SS z=some (.held z,[])from rfl) m
 have a:DataW.held v=D.atKey (ky kl) (.held z):=by unfold SS at b;simp only[BU,Prod.mk.injEq]at b;exact b.1
 obtain⟨d,i⟩:=l kl;rw[o]
 cases c:f kl with
 |none=>rw[Maps.atKey_of_not_has (by rw[d,c];rfl)]at a;injection a with a;rw[a];rfl
 |some x=>rw[i x c]at a;injection a with a;rw[a];rfl
theorem MV.put [DecidableEq β]{t e:TypeId}(h:MV P k ky w g n f)(K:Maps.Keyed P k)(ht:P.underlying t=some (.map k e)){key:Value}{kl:β}(hk:keyOf P k key=some (ky kl))(hky:∀i j,ky i=ky j→i=j)(x:Value)(hn:n<maxLen):
  ∃w',(Instr.mapUpdate t (.map (some g)) key x).run P w=.ok () w'∧MV P k ky w' g (n+1) (fun j=>if j=kl then some x else f j)∧Keep [g] w w':=by
 obtain⟨D,m,c,d⟩:=h;obtain⟨w',o,p,q⟩:=m.update (t:=t) K ht hn hk (show SS x=some (.held x,[])from rfl);have l:=K.key hk;refine⟨w',o,⟨_,p,c.put _ _,fun j=> ?_⟩,by simpa using DJ q⟩;by_cases b:j=kl
 ·subst b
  simp only[D5];refine⟨Maps.has_put_same c l _,fun y a z=> ?_⟩;injection a with a;subst a;exact Maps.atKey_put_same c l _ _
 ·simp only[Aw b]
  rw[Maps.has_put_other (fun e=>b (hky _ _ e))];exact⟨(d j).1,fun y a z=>by rw[Maps.atKey_put_other (fun e=>b (hky _ _ e))];exact(d j).2 y a z⟩
theorem MV.del [DecidableEq β]{t e:TypeId}(h:MV P k ky w g n f)(K:Maps.Keyed P k)(ht:P.underlying t=some (.map k e)){key:Value}{kl:β}(hk:keyOf P k key=some (ky kl))(hky:∀i j,ky i=ky j→i=j)(ty:TypeId):
  ∃w',(Builtin.delete_ #[t,k] ty #[.map (some g),key]).run P w=.ok (.tuple #[]) w'∧MV P k ky w' g n (fun j=>if j=kl then none else f j)∧Keep [g] w w':=by
 obtain⟨D,d,l,c⟩:=h;obtain⟨w',m,o,p⟩:=d.drop K ht hk ty;refine⟨w',m,⟨_,o,l.del _,fun j=> ?_⟩,by simpa using DJ p.grown⟩;by_cases a:j=kl
 ·subst a
  simp only[D5];exact⟨Maps.has_del_same,fun y b=>by cases b⟩
 ·simp only[Aw a]
  rw[Maps.has_del_other (fun e=>a (hky _ _ e))];exact⟨(c j).1,fun y b z=>by rw[Maps.atKey_del_other (fun e=>a (hky _ _ e))];exact(c j).2 y b z⟩
end
def kyI (a:Int):Lit:= .int .i64 a
def kyS (s:ByteArray):Lit:= .string s.data.toList
theorem SR:∀i j,kyI i=kyI j→i=j:=fun i j h=>by unfold kyI at h;injection h
theorem X5:∀i j,kyS i=kyS j→i=j:=fun i j h=>by unfold kyS at h;injection h with h;exact ByteArray.ext (Array.toList_inj.1 h)
theorem SM {P:Program}{k:TypeId}(a:P.underlying k=some .string)(s:ByteArray)(h:s.size≤1000000):keyOf P k (.string s)=some (kyS s):=WideMaps.keyOf_string_mk a (by unfold maxLen;omega)
theorem VJ {P:Program}{k:TypeId}(b:P.underlying k=some (.int .i64))(a:Int)(h: -9223372036854775808≤a∧a≤9223372036854775807):keyOf P k (.int .i64 a)=some (kyI a):=Maps.keyOf_int_mk b (by simp[Lit.wf,IntKind.min,IntKind.max,IntKind.signed,IntKind.bits];omega)
section
variable {P:Program} {w:World} {ops:Array Oper} {a:Act} {K:Act→World→Prop} {Q:Exit→Act→World→Prop} {F:Prop}
theorem D3 (t e:TypeId)(i:TypeInfo)(p:P.underlying t=some (.slice e))(m:P.info? e=some i)(q:i.size=1)(c:Option Addr)(n cap:Nat)(h:List Value)(g d:Int)(lo b:Nat)(j:g=lo)(k:d=b)(f:lo≤b)(o:b≤n)(r:n≤cap):
  ∃S:Value,(∀W:World,(Instr.sliceAt t (.slice c n cap) (some (.int .i64 g)) (some (.int .i64 d)) none).run P W=.ok S W)∧(∀W:World,Rv W 1 (.slice c n cap) n h→Rv W 1 S (b-lo) ((h.drop lo).take (b-lo)))∧S.ownBlock=(Value.slice c n cap).ownBlock :=by
 subst j k;exact⟨_,fun W=>Xg (P:=P) (w:=W) t e i p m q c n cap lo b cap f (by omega) (Av _) none (.inl ⟨rfl,rfl⟩),fun W l=>l.cut lo b f o c cap rfl,EE c n cap lo _ _⟩
theorem Fi (t e:TypeId)(i:TypeInfo)(l:P.underlying t=some (.slice e))(k:P.info? e=some i)(m:i.size=1)(b:Option Addr)(n cap:Nat)(h:List Value)(g:Int)(lo:Nat)(j:g=lo)(f:lo≤n):
  ∃S:Value,(∀W:World,(Instr.sliceAt t (.slice b n cap) (some (.int .i64 g)) none none).run P W=.ok S W)∧(∀W:World,Rv W 1 (.slice b n cap) n h→Rv W 1 S (n-lo) (h.drop lo))∧S.ownBlock=(Value.slice b n cap).ownBlock :=by
 subst j;refine⟨_,fun W=>IX (P:=P) (w:=W) t e i l k m b n cap lo f,fun W c=> ?_,EE b n cap lo _ _⟩;have o:=c.len;have d:=c.cut lo n f (Av _) b cap rfl;rw[Ba (by rw[A5];omega)]at d;exact d
theorem ID (t e:TypeId)(i:TypeInfo)(m:P.underlying t=some (.slice e))(k:P.info? e=some i)(o:i.size=1)(b:Option Addr)(n cap:Nat)(g:List Value)(f:Int)(c:Nat)(h:f=c)(l:c≤n)(d:n≤cap):
  ∃S:Value,(∀W:World,(Instr.sliceAt t (.slice b n cap) none (some (.int .i64 f)) none).run P W=.ok S W)∧(∀W:World,Rv W 1 (.slice b n cap) n g→Rv W 1 S c (g.take c))∧S.ownBlock=(Value.slice b n cap).ownBlock :=by
 subst h;refine⟨_,fun W=>Lk (P:=P) (w:=W) t e i m k o b n cap c (by omega),fun W j=> ?_,EE b n cap 0 _ _⟩;have d:=j.cut 0 c (by omega) l b cap rfl;rw[Bj,Nat.sub_zero]at d;exact d
theorem Rv.rd {v:Value}{n:Nat}{l:List Nat}(h:Rv w 1 v n (Bb l))(b:l.length=n):Rd w v l:=by subst b;exact h
def Yv:=@Rv.rd
theorem N6 (t h ty e:TypeId)(i:TypeInfo)(p:P.underlying t=some (.slice e))(z:P.info? e=some i)(E:i.size=1)(b f c g:Nat)(x:Value)(n:Nat)(l:List Value)
  (C:Rv w 1 x n l) (s:∀u∈l,u.oneCell'=true) (q:w.there b f (min n c)):
  (Builtin.copy_ #[t,h] ty #[.slice (some ⟨b,f,none⟩) c g,x]).run P w=.ok (goInt ((min n c:Nat):Int)) (w.setCells b f (l.take c)):=by
 obtain⟨I,r,cap,rfl,H,v⟩:=C;have o:(P.info? e).map (·.size)=some 1:=by rw[z];simp[E]
 by_cases k:min n c=0
 ·have B:l.take c=[]:=by
   apply Bv;rw[Az];omega
  rw[run_copy_none w t h ty e (some ⟨b,f,none⟩) r c g n cap p o k,B,k];rfl
 ·obtain⟨sb,G,rfl,_,y⟩:=v (by omega)
  have m:(l.take c).length =min n c:=by rw[Az];omega
  have:=run_copy_cells w t h ty e b f c g ⟨sb,G,none⟩ n cap (l.take c) p o m (fun j u d=>by
    rw[BP]at d
    split at d
    ·have A:j<l.length:=(Ai.1 d).1
     rw[Gq,y j A,d]
    ·cases d) (fun j d=>(q j (by omega)).1) (fun j d=>(q j (by omega)).2) (fun u D=>s u (AH D))
  rw[this,m]
theorem Mn {o:Oper}(A:Region.wanted o (yielded ops a.tmps)=true)(s x:Operand)(t j:TypeId)
  (p:o.op=.call {callee:= .builtin .copy,args:=#[s,x],argTypes:=#[t,j]}) (e:TypeId) (i:TypeInfo) (y:P.underlying t=some (.slice e)) (m:P.info? e=some i) (C:i.size=1)
  (b d c g:Nat) (v:a.eval s=.slice (some ⟨b,d,none⟩) c g) (f:Value) (n:Nat) (l:List Value) (B:a.eval x=f) (q:Rv w 1 f n l) (k:∀u∈l,u.oneCell'=true) (z:w.there b d (min n c))
  (h:K (a.put o.dst (goInt ((min n c:Nat):Int))) (w.setCells b d (l.take c))):if Region.wanted o (yielded ops a.tmps)=true then Oper.wp P o a w K Q else F:=by
 rw[Ay A];have r:=N6 (P:=P) (w:=w) t j o.type e i y m C b d c g f n l q k z;unfold Oper.wp execOp;simp only[p,resolve,invoke,builtin,Db,Sem.run_pure,Result.andThen_ok,DZ,Br,Cy,v,B,r];exact h
theorem O2 {o:Oper}(h:o.guard=none){t:Array Value}{b:Array Oper}:Region.wanted o (yielded b t)=true:=by simp[Region.wanted,h]
end
theorem V5 {α:Type}(A old B X:List α)(h:X.length=old.length)(o:Nat)(a:o=A.length):BQ (A++(old++B)) o X=A++(X++B):=by subst a;unfold BQ;rw[DX,Ec,h];simp[Ec]
theorem Jo {w:World}{b:Nat}{T:TypeId}(A old B:List Nat)(o k cap n:Nat)(h:Blk w b (Bb (A++(old++B))) T)(l:o=A.length)(g:k=old.length)(j:n<18446744073709551616)(i:old.length≤8)(f:A.length≤1000000):
  Calls Tryz.prog 252 #[.slice (some ⟨b,o,none⟩) k cap,.int .u64 n] w fun e a=>e=.returned (.tuple #[])∧Blk a b (Bb (A++(be k n++B))) T∧Keep [b] w a:=by
 subst l g;rw[←Ax]at h;refine(OC A old B cap n h j i f).mono ?_;rintro e a ⟨rfl,c,d⟩;exact⟨rfl,by rw[←Ax];exact c,d⟩
theorem GH (a b:Nat):List.replicate (a+b) 0=List.replicate a 0++List.replicate b (0:Nat):=(List.replicate_append_replicate ..).symm
def Dg (i:Nat):Nat:=if i=0 then 42 else 48
def EX (i base:Nat):List Nat:=if i=0 then be 6 base else[]
def BK (a:List Nat)(i:Nat):List Nat:=(a.drop (st0 i)).take (Dg i)
def D8 (gen base run i:Nat)(a:List Nat):List Nat:=be 6 gen++(be 4 run++([i]++([(BK a i).length]++(EX i base++(BK a i++List.replicate (Dg i-(BK a i).length) 0)))))
def sgImg (gen base run i:Nat)(a:List Nat):List Nat:=be 4 (crcSum (D8 gen base run i a))++D8 gen base run i a
theorem GY (i:Nat):Dg i≤48∧42≤Dg i:=by unfold Dg;split<;>omega
theorem JF (i base:Nat):(EX i base).length =48-Dg i:=by unfold EX Dg;split<;>simp
theorem QP (i base:Nat):∀c∈EX i base,c<256:=by
 unfold EX
 split
 ·exact Fj _ _
 ·intro c h;cases h
theorem GZ (a:List Nat)(i:Nat):(BK a i).length ≤Dg i:=by unfold BK;rw[Az];omega
theorem OE (a:List Nat)(i:Nat):(BK a i).length =min (Dg i) (a.length-st0 i):=by unfold BK;rw[Az,A5]
theorem N0 (a:List Nat)(i:Nat)(h:∀c∈a,c<256):∀c∈BK a i,c<256:=fun c b=>h c (AB (AH b))
theorem Lh (gen base run i:Nat)(a:List Nat):(D8 gen base run i a).length =60:=by have b:=GY i;have c:=JF i base;have d:=GZ a i;unfold D8;simp only[Aj,WC,List.length_cons,List.length_nil,G5];omega
theorem Id (gen base run i:Nat)(a:List Nat)(g:i<256)(d:∀c∈a,c<256):∀c∈D8 gen base run i a,c<256:=by
 intro c b;have e:=GY i;have f:=GZ a i;unfold D8 at b;simp only[Ag,Ac,Am,AG,List.mem_replicate]at b;rcases b with h|h|h|h|h|h|h
 ·exact Fj _ _ c h
 ·exact Fj _ _ c h
 ·omega
 ·omega
 ·exact QP _ _ c h
 ·exact N0 a i d c h
 ·omega
theorem GG (gen base run i:Nat)(a:List Nat):(sgImg gen base run i a).length =64:=by unfold sgImg;rw[Aj,WC,Lh]
theorem Lg (gen base run i:Nat)(a:List Nat)(e:i<256)(b:∀c∈a,c<256):∀c∈sgImg gen base run i a,c<256:=by
 intro c d;rcases Ag.1 d with h|h
 ·exact Fj _ _ c h
 ·exact Id gen base run i a e b c h
def sgC (gen base run:Int)(vb vr:Value):List Value:=[.int .i64 gen,.int .i64 base,.int .i64 run,vb,vr]
section
variable {w:World} {p:Nat} {gen base run:Int} {vb vr:Value} {T:TypeId}
theorem Fl (h:Blk w p (sgC gen base run vb vr) T):w.cell? ⟨p,0,none⟩=some (.int .i64 gen):=h.cell 0
theorem OK (h:Blk w p (sgC gen base run vb vr) T):w.cell? ⟨p,1,none⟩=some (.int .i64 base):=h.cell 1
theorem Hv (h:Blk w p (sgC gen base run vb vr) T):w.cell? ⟨p,3,none⟩=some vb:=h.cell 3
theorem IL (h:Blk w p (sgC gen base run vb vr) T):w.cell? ⟨p,4,none⟩=some vr:=h.cell 4
end
def sectJ (n:World)(p a i gen base lo f:Nat)(m:Int)(d:Option Addr)(e:Nat)(vr k:Value)(b g h j:List Nat)(l:Nat→Bool)(x:Nat→Value)(c:World):Prop:=
 (l 15=false→Blk c a (Bb g) 5)∧
 (l 15=true→l 18=false→Blk c a (Bb h) 5)∧
 (l 18=true→Blk c a (Bb j) 5)∧
 (l 18=true→l 15=true)∧
 (Blk c p (sgC gen base m (.slice d b.length e) vr) 358)∧
 (Rd c (.slice d b.length e) b)∧
 (Keep [a] n c)∧
 (l 15=true→x 15=.int .i64 (f:Int)∧l 15=true)∧
 (l 16=true→x 16=.int .u8 (f:Int)∧l 15=true)∧
 SlV l x 0 [some (.slice (some ⟨a,0,none⟩) 64 64),some (.slice (some ⟨a,64-Dg i,none⟩) (Dg i) (Dg i)),some (pr p 0),some (pr p 0),some (pr p 3),some (.slice d b.length e),some (.int .i64 (i:Int)),some (.int .i64 (st0 i:Int)),some (pr p 0),some (pr p 0),some (pr p 3),some (.slice d b.length e),some (.int .i64 (b.length:Int)),some (.int .i64 (lo:Int)),some k,none,none,some (pr a 15),none]
theorem OA (l:List Nat)(a:∀c∈l,c<256):crcSum l<4294967296:=by unfold crcSum;omega
theorem XK {w:World}{base g:Nat}{E:TypeId}{cells:List Value}(h:Blk w g cells E)(c:base≤g)(n b:Nat)(a:cells.length=n*b)(d:n≤maxLen):w.ownsRow base E b (.slice (some ⟨g,0,none⟩) n n) n cells:=
 ⟨a,.inr ⟨g,n,cells.toArray,rfl,c,h,Av _,d,by simp[a],by simp[←a]⟩⟩
theorem Un (n:Int):goInt n=.int .i64 n:=rfl
theorem QT {w:World}{p:Nat}(gen base:Nat)(r0:Int)(vb vr:Value)(d:List Nat)(hs:Blk w p (sgC gen base r0 vb vr) 358)(hr:Rd w vb d)(hb:∀c∈d,c<256)(hl:d.length≤1000)(i run:Nat)(D:i<8)(hg:gen<281474976710656∧base<281474976710656∧run<4294967296):
  Calls Tryz.prog 276 #[pr p 0,.int .i64 (i:Int),.int .i64 (run:Int)] w fun e j=>∃v',e=.returned v'∧Buf j w.heap.size 5 v' (sgImg gen base run i d)∧Keep [] w j:=by
 obtain⟨i8,aw,cy,ax,cz⟩:=AU In;obtain⟨c5,c6,c7⟩:=hg;obtain⟨_,F,G,rfl,_,_⟩:=id hr;go_enter Tryz.func276,Tryz.ntmps276
 go_upto_region 2 with(at_make;refine DI _ rfl _ _ 81 rfl 5 i8 _ Ao aw cy (by rw[ax];rfl) (by decide) _ 64 rfl rfl (by omega) (by rw[cz];omega) (by omega) ?_)
 change Code.wp _ _ _ _ (w.alloc (.cells (Bb (List.replicate 4 0++List.replicate 6 0++List.replicate 54 0)).toArray 5));have bz:Blk (w.alloc (.cells (Bb (List.replicate 4 0++List.replicate 6 0++List.replicate 54 0)).toArray 5)) w.heap.size (Bb (List.replicate 4 0++List.replicate 6 0++List.replicate 54 0)) 5:=BY _ _ _;have K0:=(By [] w).alloc (.cells (Bb (List.replicate 4 0++List.replicate 6 0++List.replicate 54 0)).toArray 5);have au:=hs.keep K0 (by simp);have bl:Rd _ _ d:=hr.keep K0 (by simp);have c8:=hs.lt;generalize w.alloc (.cells (Bb (List.replicate 4 0++List.replicate 6 0++List.replicate 54 0)).toArray 5)=w0 at*;have y:=h_ (show(∀q,(Value.slice F d.length G).ownBlock =some q→0<d.length→q≠w.heap.size)∧p≠w.heap.size from⟨fun q f H=>by have:=hr.lo q f H;omega,by omega⟩);generalize b9:w.heap.size=xb at*;have c0:=h_ b9;have s0:=Fl au;refine BJ 7 (by kernel_rfl) (by kernel_rfl) ?_;simp only[List.take_succ_cons,List.take_zero,BB,Bj]
 repeat still_step
 refine Du ?_;clear s0;go_wp2_with fail;refine(Jo (List.replicate 4 0) (List.replicate 6 0) (List.replicate 54 0) 4 6 60 gen (by rw[←Ax];exact bz.drew) (by simp) (by simp) (by omega) (by simp) (by simp)).mono ?_;rintro e w1 ⟨rfl,ag,k1⟩;have br:=au.drew.keep k1 (by simp;exact y.out.2);have bm:Rd w1 _ d:=Yw (bl.keep (By [] _).drew (by simp)) k1 (fun q f H=>by simp;exact y.out.1 q f H);have K1:Keep [] w w1:=(K0.drew).then k1 (fun q f ak=>by simp at f;omega);clear bz au bl K0 k1 hs hr;rw[show(54:Nat)=4+50 from rfl,GH,←Ax]at ag;go_wp2_with fail;refine(Jo (List.replicate 4 0++be 6 gen) (List.replicate 4 0) (List.replicate 50 0) 10 4 54 run (by rw[←Ax];rw[←Ax]at ag;exact ag) (by simp) (by simp) (by omega) (by simp) (by simp)).mono ?_;rintro e M ⟨rfl,b0,t⟩;have bs:=br.keep t (by simp;exact y.out.2);have bn:Rd M _ d:=Yw bm t (fun q f H=>by simp;exact y.out.1 q f H);have K2:Keep [] w M:=K1.then t (fun q f ak=>by simp at f;omega);clear ag br bm K1 t;obtain⟨k,af⟩:∃P:List Nat,P=(List.replicate 4 0++be 6 gen)++be 4 run:=⟨_,rfl⟩;have o:k.length=14:=by rw[af];simp
 have ah:Blk M xb (Bb (k++List.replicate 50 0)) 5:=by rw[af,Ax];exact b0
 have cf:=h_ af;have f1:=ah.free 14
 have f0:M.cell? ⟨xb,14,none⟩=some (.int .u8 0):=by rw[ah.cell];unfold Bb;rw[AL,AC (by simp[o])];simp[o];rfl
 have b1:Blk (M.setCell ⟨xb,14,none⟩ (.int .u8 (i:Int))) xb (Bb (k++([i]++([0]++(List.replicate (48-Dg i) 0++List.replicate (Dg i) 0))))) 5:=by
  have R:=ah.set 14 (.int .u8 (i:Int))
  have h2:(Bb (k++List.replicate 50 0)).set 14 (.int .u8 (i:Int))=Bb (k++([i]++([0]++(List.replicate (48-Dg i) 0++List.replicate (Dg i) 0)))):=by have hw:=GY i;rw[←GH,show 48-Dg i+Dg i=48 by omega,show(50:Nat)=1+(1+48)from rfl,GH,GH];unfold Bb;rw[AL,AL,CU _ _ (by simp[o])];simp[o,bc]
  rw[h2]at R;exact R
 have Y:Keep [xb] M (M.setCell ⟨xb,14,none⟩ (.int .u8 (i:Int))):=(By _ _).setCell (.inl (by simp)) _;have bt:=bs.keep Y (by simp;exact y.out.2);have bo:Rd _ _ d:=Yw bn Y (fun q f H=>by simp;exact y.out.1 q f H);have K3:Keep [] w _:=K2.then Y (fun q f ak=>by simp at f;omega);clear b0 ah bs bn K2 Y af;go_upto_region 5 with fail;generalize M.setCell ⟨xb,14,none⟩ (.int .u8 (i:Int))=E at*;clear f0 f1;obtain⟨ao,ad,an,am⟩:=i_4 b1 bt bo K3;clear b1 bt bo K3;go_upto_if 30 with fail;go_cut [8] (fun s8 wc=>s8=.slice (some ⟨xb,64-Dg i,none⟩) (Dg i) (Dg i)∧Blk wc xb (Bb (k++([i]++([0]++(EX i base++List.replicate (Dg i) 0))))) 5∧Blk wc p (sgC gen base r0 (.slice F d.length G) vr) 358∧Rd wc (.slice F d.length G) d∧Keep [] w wc)
 case first=>
  rcases(show i=0∨1≤i by omega)with rfl|R
  ·have s1:=OK ad.out
   go_wp2_with fail;refine BJ 7 (by kernel_rfl) (by kernel_rfl) ?_;simp only[List.take_succ_cons,List.take_zero,BB,Bj]
   repeat still_step
   refine Du ?_;clear s1;go_wp2_with fail;refine(Jo (k++([0]++[0])) (List.replicate 6 0) (List.replicate 42 0) 16 6 48 base (by have:=ao.out.drew;simp only[Ax]at this⊢;exact this) (by simp[o]) (by simp) (by omega) (by simp) (by simp;omega)).mono ?_;rintro e w4 ⟨rfl,U,k4⟩;have cq:=h_ U;have ci:=h_ (ad.out.drew.keep k4 (by simp;exact y.out.2));have ch:Hid (Rd w4 (.slice F d.length G) d):=h_ (Yw (Yx an.out (By [] _).drew (by simp)) k4 (fun q f H=>by simp;exact y.out.1 q f H));have cd:Hid (Keep [] w w4):=h_ (am.out.drew.then k4 (fun q f ak=>by simp at f;omega));clear U k4;go_wp2_with fail;go_meet;exact⟨rfl,by have:=cq.out;simp only[Ax]at this⊢;exact this,ci.out,ch.out,cd.out⟩
  ·have q:((i:Int)==0)=false:=by simp;omega
   have hw:Dg i=48:=by unfold Dg;rw[Aw (by omega)]
   have hp:EX i base=[]:=by unfold EX;rw[Aw (by omega)]
   obtain⟨HW,HP⟩:=i_2 hw hp;clear hw hp;go_wp2_with fail;go_meet;refine⟨by rw[HW.out], ?_,ad.out,an.out,am.out⟩;have:=ao.out;rw[HW.out]at this⊢;rw[HP.out];exact this
 case rest=>
 obtain⟨rfl,U,bu,bp,bk⟩:=hcut;clear ao ad an am;obtain⟨lo,b5⟩:∃lo,lo=min (st0 i) d.length:=⟨_,rfl⟩;have b6:lo≤d.length:=by omega
 have b3:d.drop lo=d.drop (st0 i):=by
  by_cases h:st0 i≤d.length
  ·rw[b5,BZ h]
  ·rw[Bz (by omega),Bz (by omega)]
 obtain⟨g,aj⟩:∃g,g=(BK d i).length :=⟨_,rfl⟩;have ct:=GZ d i;have cv:=GY i;have al:=JF i base;have ce:Hid ((if d.length<st0 i then(d.length:Int)else(st0 i:Int))=(lo:Int)):=h_ (by split<;>omega);have cp:Hid (IntKind.u8.wrap (g:Int)=(g:Int)):=h_ (by simp[IntKind.wrap,IntKind.bits,IntKind.signed];omega);have bb:=h_ D;have ca:=h_ (show g≤48 by omega)
 obtain⟨SV,hcut,bx⟩:∃SV,(∀W:World,(Instr.sliceAt 81 (.slice F d.length G) (some (.int .i64 (lo:Int))) none none).run Tryz.prog W=.ok SV W)∧(∀W:World,Rd W (.slice F d.length G) d→Rv W 1 SV (d.length-lo) (Bb (d.drop lo))):=by refine⟨_,fun W=>IX (P:=Tryz.prog) (w:=W) 81 5 i8 Ao aw ax F d.length G lo b6,fun W Q=> ?_⟩;have:=Rv.cut Q lo d.length b6 (Av _) F G rfl;rw[D4,Ba (by rw[A5];omega)]at this;exact this
 obtain⟨cb,ck⟩:=i_2 hcut bx
 have cc:Hid (goInt ((min (d.length-lo) (Dg i):Nat):Int)=.int .i64 (g:Int)):=h_ (by
  rw[Un,aj,OE]
  congr 1
  omega)
 have cn:Hid ((Bb (d.drop lo)).take (Dg i)=Bb (BK d i)):=h_ (by rw[b3];unfold Bb BK;rw[List.map_take]);have ap:(k++([i]++([0]++(EX i base++List.replicate (Dg i) 0)))).length =64:=by simp[o,al];omega
 obtain⟨B0,aa⟩:∃B,B=k++([i]++([0]++(EX i base++List.replicate (Dg i) 0))):=⟨_,rfl⟩;obtain⟨Z,ab⟩:∃B,B=k++([i]++([0]++(EX i base++(BK d i++List.replicate (Dg i-g) 0)))):=⟨_,rfl⟩;obtain⟨B2,aq⟩:∃B,B=k++([i]++([g]++(EX i base++(BK d i++List.replicate (Dg i-g) 0)))):=⟨_,rfl⟩;have cs:Z.length=64:=by rw[ab];simp[o,al];omega
 have cm:Hid (64-Dg i+min (d.length-lo) (Dg i)≤(Bb B0).length):=h_ (by rw[Bd,aa,ap];omega);have co:Hid (64-Dg i+(Bb (BK d i)).length ≤(Bb B0).length):=h_ (by rw[Bd,Bd,aa,ap];omega)
 have bf:Hid (BQ (Bb B0) (64-Dg i) (Bb (BK d i))=Bb Z):=h_ (by
  have hA:(Bb (k++([i]++([0]++EX i base)))).length =64-Dg i:=by simp[o,al];omega
  rw[aa,ab,show Dg i=g+(Dg i-g) by omega,GH];have R:=V5 (Bb (k++([i]++([0]++EX i base)))) (Bb (List.replicate g 0)) (Bb (List.replicate (Dg i-g) 0)) (Bb (BK d i)) (by simp[aj]) (64-Dg i) hA.symm;rw[show g+(Dg i-g)=Dg i by omega];simp only[DW,Ax]at R⊢;exact R)
 have ba:Hid (∀W:World,Blk W xb (Bb Z) 5→W.cell? ⟨xb,15,none⟩=some (.int .u8 0)):=h_ (fun W Q=>by rw[Q.cell,ab];simp only[DW];rw[AC (by simp[o])];simp[o];rfl)
 have bg:Hid ((Bb Z).set 15 (.int .u8 (g:Int))=Bb B2):=h_ (by rw[ab,aq];simp only[DW];rw[CU _ _ (by simp[o])];simp[o,Bb,bc])
 have az:Hid (B2=List.replicate 4 0++D8 gen base run i d):=h_ (by rw[aq,cf.out];unfold D8;rw[←aj];simp only[Ax])
 rw[←aa]at U;clear hcut bx b5 aj ct cv al ap aa ab aq cs b3 D;go_wp2_with fail;refine wI (sectJ wc p xb i gen base lo g r0 F G vr SV d B0 Z B2) ?aS (.s ?a0<|.s ?a1<|.s ?a2<|.s ?a3<|.s ?a4<|.s ?a5<|.s ?a6<|.s ?a7<|.s ?a8<|.s ?a9<|.s ?a10<|.s ?a11<|.s ?a12<|.s ?a13<|.s ?a14<|.s ?a15<|.s ?a16<|.s ?a17<|.s ?a18<|.n) 19 ?aF
 case aS=>intro x;exact⟨fun _=>U.drew,fun h=>absurd h (by decide),fun h=>absurd h (by decide),fun h=>absurd h (by decide),bu.drew,Yx bp (By [] _).drew (by simp),(By _ _).drew,fun h=>absurd h (by decide),fun h=>absurd h (by decide),Yr⟩
 case a16=>
  intro l x j O D V;obtain⟨J,K,L,I,m,v,u,A,C,vS⟩:=O;have bh:=A (V.at rfl);have c4:=ca.out;refine Oq.of (b:= ?bS16) ?eS16 ?_
  case eS16=>simp only[Al,Act.put,A8,A7,A6,bh.1];rfl
  intro K' N;go_simp;exact N.go _ rfl ⟨J,K,L,I,m,v,u,A,fun _=>⟨A3 (Value.int .u8) cp.out,bh.2⟩,vS.s rfl⟩
 case a18=>
  intro l x j O D V;obtain⟨J,K,L,I,m,v,u,A,C,vS⟩:=O;have ae:=C (V.at rfl);have cr:=vS.a 17 (V.at rfl) rfl;have X:=K ae.2 D;have f1:=X.free 15;have f0:=ba.out j X;refine Oq.of (b:= ?bS18) ?eS18 ?_
  case eS18=>simp only[Al,Act.put,A8,A7,A6,ae.1,cr];rfl
  intro K' N;have bd:=h_ ae.2;clear ae;go_simp;have b8:=X.set 15 (.int .u8 (g:Int));rw[bg.out]at b8;have t:Keep [xb] j (j.setCell ⟨xb,15,none⟩ (.int .u8 (g:Int))):=(By _ _).setCell (.inl (by simp)) _;have ac:=y.out;exact N.go undef rfl ⟨fun h=>absurd (show l 15=false from h) (by simp[bd.out]),fun _ h=>Bool.noConfusion (show true=false from h),fun _=>b8,fun _=>bd.out,m.keep t (by simp;exact ac.2),Yw v t (fun q f ay=>by simp;exact ac.1 q f ay),u.trans t,A,C,vS.s rfl⟩
 case aF=>
  intro l x E O hl;obtain⟨J,K,L,I,m,v,u,A,C,vS⟩:=O;have ai:=L (hl 18 (by decide));clear A C J K L I U bu bp hl vS;simp only[Al,Act.put,A8,A7,A6];simp only[AP,Nat.reduceAdd];have K6:Keep [] w E:=bk.then u (fun q f ak=>by simp at f;omega);clear m v u bk;rw[az.out]at ai;have b4:=Lh gen base run i d;have b2:=Id gen base run i d (by have:=bb.out;omega) hb;have cu:=ai.lt;have HI:=h_ (show be 4 (crcSum (D8 gen base run i d))++D8 gen base run i d=sgImg gen base run i d from rfl);have m:=OA (D8 gen base run i d) b2
  generalize D8 gen base run i d=body at*;have HE:=h_ (rfl:crcSum body=crcSum body);generalize bw:crcSum body=S at m HI HE;have cj:=h_ bw.symm;clear bw HE az bf bg ba
  have bq:Rd E (.slice (some ⟨xb,4,none⟩) 60 60) body:=by unfold Rd;rw[b4];refine⟨by simp[b4],_,60,rfl,by omega,fun _=>⟨_,4,rfl,cu,fun i D=> ?_⟩⟩;rw[ai.cell];unfold Bb;rw[AL,AC (by simp)];simp
  have hp:Rv (E.alloc (.cells #[.slice (some ⟨xb,4,none⟩) 60 60] 81)).drew 1 (.slice (some ⟨E.heap.size,0,none⟩) 1 1) 1 [.slice (some ⟨xb,4,none⟩) 60 60]:=(Y1 E [.slice (some ⟨xb,4,none⟩) 60 60] 81 1 1 1 rfl (by omega) _ rfl).keep (By [] _).drew (by simp);have f:Rd (E.alloc (.cells #[.slice (some ⟨xb,4,none⟩) 60 60] 81)).drew (.slice (some ⟨xb,4,none⟩) 60 60) body:=Yx (Rv.alloc bq _) (By [] _).drew (by simp);have bi:Blk (E.alloc (.cells #[.slice (some ⟨xb,4,none⟩) 60 60] 81)).drew xb (Bb (List.replicate 4 0++body)) 5:=(ai.alloc _).drew;have av:=IG _ _ _ body hp f b2 (by omega) S cj.out;have ar:Calls Tryz.prog 252 #[.slice (some ⟨xb,0,none⟩) 4 64,.int .u64 S] (E.alloc (.cells #[.slice (some ⟨xb,4,none⟩) 60 60] 81)).drew fun e j=>e=.returned (.tuple #[])∧Blk j xb (Bb (be 4 S++body)) 5∧Keep [xb] (E.alloc (.cells #[.slice (some ⟨xb,4,none⟩) 60 60] 81)).drew j:=OC [] (List.replicate 4 0) body 64 S bi (by omega) (by simp) (by simp)
  obtain⟨SI,bv⟩:∃z:Int,z=(S:Int):=⟨_,rfl⟩;have c1:0≤SI:=by omega
  have c2:SI<4294967296:=by omega
  rw[←bv]at av ar;clear bv
  have cw:IntKind.u64.wrap SI=SI:=by simp[IntKind.wrap,IntKind.bits,IntKind.signed];omega
  obtain⟨cl,cg⟩:=i_2 av ar;clear av ar hp f bi bq;go_wp2_with fail
  go_region_with
   (first
    |(go_at_call 252;(try rw[←cx]);(try rw[cw]);refine cg.out.mono ?_;rintro e w4 ⟨rfl,bj,Y⟩)
    |(go_at_call 153;refine cl.out.mono ?_;rintro e ws ⟨rfl,cx⟩)
    |fail)
  rw[HI.out]at bj;have K7:Keep [] w w4:=((K6.alloc _).drew.then Y (by simp;omega));go_wp2;go_ret;exact⟨_,rfl,(XK (base:=xb) bj (Av _) 64 1 (by simp[GG]) (by unfold maxLen;omega):w4.ownsRow _ _ _ _ _ _)|>fun h=>by unfold Buf;rw[GG,b9];exact h,K7⟩
 all_goals
  intro l x j O D V;obtain⟨J,K,L,I,m,v,u,A,C,vS⟩:=O;have Q:=vS;have hD:=V;simp only[SlV]at Q
  try simp[BD,Region.binds]at hD
  refine Oq.of (by simp only[Al,Act.put,A8,A7,A6,hD,Q];rfl) ?_;clear hD Q;intro K' N
 case a7=>go_simp;refine(I6 i (by have:=bb.out;omega) (st0 i:Int) rfl).mono ?_;rintro e M ⟨rfl,rfl⟩;go_simp;exact N.go _ rfl ⟨J,K,L,I,m,v,u,A,C,vS.r⟩
 case a13=>go_simp;exact N.go _ rfl ⟨J,K,L,I,m,v,u,A,C,vS.q (A3 (Value.int .i64) ce.out)⟩
 case a15=>have b7:=J D;refine Mn (O2 rfl) (.tmp 42) (.tmp 55) 81 81 rfl 5 i8 Ao aw ax xb (64-Dg i) (Dg i) (Dg i) rfl SV (d.length-lo) (Bb (d.drop lo)) rfl (ck.out j v) (Fk _) (b7.there _ _ cm.out) ?_;rw[cc.out,cn.out];have X:=b7.setCells (Bb (BK d i)) (64-Dg i) j _ co.out;rw[bf.out]at X;have t:Keep [xb] j (j.setCells xb (64-Dg i) (Bb (BK d i))):=E6 _ _ _ _ (By _ _) (.inl (by simp));have ac:=y.out;exact N.go (.int .i64 (g:Int)) rfl ⟨fun h=>Bool.noConfusion (show true=false from h),fun _ _=>X,fun h=>absurd (I h) (by simp[D]),fun _=>rfl,m.keep t (by simp;exact ac.2),Yw v t (fun q f ay=>by simp;exact ac.1 q f ay),u.trans t,fun _=>⟨rfl,rfl⟩,fun h=>absurd ((C h).2) (by simp[D]),vS.s rfl⟩
 all_goals have c3:=Hv m;have hcut:=cb.out;go_simp;exact N.go _ rfl ⟨J,K,L,I,m,v,u,A,C,vS.r⟩
def Iz (V:List Value)(x:Nat→Value):List Edge→Prop
 |[]=>True
 |e::es=>(Region.binds .any e=true→x e.on=V.getD e.on undef)∧Iz V x es
section
variable {V:List Value} {x:Nat→Value} {n:Nat} {es:List Edge}
@[simp] theorem dk_nil:Iz V x []↔True:=Iff.rfl
@[simp] theorem dk_data:Iz V x (⟨n,.data⟩::es)↔(x n=V.getD n undef∧Iz V x es):=⟨fun h=>⟨h.1 rfl,h.2⟩,fun h=>⟨fun _=>h.1,h.2⟩⟩
@[simp] theorem dk_chain:Iz V x (⟨n,.chain⟩::es)↔(x n=V.getD n undef∧Iz V x es):=⟨fun h=>⟨h.1 rfl,h.2⟩,fun h=>⟨fun _=>h.1,h.2⟩⟩
@[simp] theorem dk_guard:Iz V x (⟨n,.guard⟩::es)↔(x n=V.getD n undef∧Iz V x es):=⟨fun h=>⟨h.1 rfl,h.2⟩,fun h=>⟨fun _=>h.1,h.2⟩⟩
@[simp] theorem dk_phase:Iz V x (⟨n,.phase⟩::es)↔(x n=V.getD n undef∧Iz V x es):=⟨fun h=>⟨h.1 rfl,h.2⟩,fun h=>⟨fun _=>h.1,h.2⟩⟩
@[simp] theorem dk_text {d:Departure}:Iz V x (⟨n,.textOnly d⟩::es)↔Iz V x es:=⟨fun h=>h.2,fun h=>⟨fun hb=>absurd hb (by simp[Region.binds]),h⟩⟩
@[simp] theorem dk_gc {d:Departure}:Iz V x (⟨n,.gcOnly d⟩::es)↔Iz V x es:=⟨fun h=>h.2,fun h=>⟨fun hb=>absurd hb (by simp[Region.binds]),h⟩⟩
end
section
variable {P:Program} {Q:Exit→Act→World→Prop}
abbrev WN (P:Program)(e:List Oper)(A:List Nat)(Q:Exit→Act→World→Prop)(c:Nat)(V:List Value)(f:(Nat→Bool)→World→Prop)(a:Act)(k:Nat)(o:Oper):Prop:=
 ∀(L:Nat→Bool) (x:Nat→Value) (W:World),f L W→(∀i,(c.testBit i&&(A.getD k 0).testBit i)=true→L i=true)→(∀i,(A.getD i 0).testBit k=true→x i=ownVals e a i)→(∀i,(A.getD i 0).testBit k=true→L i=false)→Iz V x o.after.toList→
  ∀b,Al e 0 x a=b→∀d:Act→World→Prop,(∀h g,b.put o.dst (V.getD k undef)=h→f L g→d h g)→
   if Region.wanted o (yielded e.toArray b.tmps)=true then Oper.wp P o b W d Q else d (b.put o.dst undef) W
abbrev Yp (P:Program)(e:List Oper)(A:List Nat)(Q:Exit→Act→World→Prop)(c:Nat)(V:List Value)(f:(Nat→Bool)→World→Prop)(a:Act)(k:Nat)(o:Oper):Prop:=
 ∀(L:Nat→Bool) (x:Nat→Value) (W:World),f L W→L k=false→(∀i,(c.testBit i&&(A.getD k 0).testBit i)=true→L i=true)→(∀i,(A.getD i 0).testBit k=true→x i=ownVals e a i)→(∀i,(A.getD i 0).testBit k=true→L i=false)→Iz V x o.after.toList→
  ∀b,Al e 0 x a=b→∀d:Act→World→Prop,(∀h g,b.put o.dst (V.getD k undef)=h→f (upd L k true) g→d h g)→
   if Region.wanted o (yielded e.toArray b.tmps)=true then Oper.wp P o b W d Q else d (b.put o.dst undef) W
def I2 (P:Program)(d:List Oper)(A:List Nat)(Q:Exit→Act→World→Prop)(c:Nat)(V:List Value)(b:(Nat→Bool)→World→Prop)(a:Act):Nat→List Oper→Prop
 |_,[]=>True
 |k,o::l=>(if c.testBit k=true then Yp P d A Q c V b a k o else WN P d A Q c V b a k o)∧I2 P d A Q c V b a (k+1) l
theorem I2.still {d:List Oper}{A:List Nat}{c:Nat}{V:List Value}{b:(Nat→Bool)→World→Prop}{a:Act}{k:Nat}{o:Oper}{l:List Oper}(e:c.testBit k=false)(h:WN P d A Q c V b a k o)(f:I2 P d A Q c V b a (k+1) l):I2 P d A Q c V b a k (o::l):=
 ⟨by rw[Aw (by rw[e];decide)];exact h,f⟩
theorem I2.turn {d:List Oper}{A:List Nat}{c:Nat}{V:List Value}{b:(Nat→Bool)→World→Prop}{a:Act}{k:Nat}{o:Oper}{l:List Oper}(e:c.testBit k=true)(h:Yp P d A Q c V b a k o)(f:I2 P d A Q c V b a (k+1) l):I2 P d A Q c V b a k (o::l):=
 ⟨by rw[Ay e];exact h,f⟩
theorem I2.s {d:List Oper}{A:List Nat}{c:Nat}{V:List Value}{b:(Nat→Bool)→World→Prop}{a:Act}{k:Nat}{o:Oper}{l:List Oper}(h:WN P d A Q c V b a k o)(f:I2 P d A Q c V b a (k+1) l)(e:c.testBit k=false:=by rfl):I2 P d A Q c V b a k (o::l):= .still e h f
theorem I2.t {d:List Oper}{A:List Nat}{c:Nat}{V:List Value}{b:(Nat→Bool)→World→Prop}{a:Act}{k:Nat}{o:Oper}{l:List Oper}(h:Yp P d A Q c V b a k o)(f:I2 P d A Q c V b a (k+1) l)(e:c.testBit k=true:=by rfl):I2 P d A Q c V b a k (o::l):= .turn e h f
theorem I2.nil {d:List Oper}{A:List Nat}{c:Nat}{V:List Value}{b:(Nat→Bool)→World→Prop}{a:Act}{k:Nat}:I2 P d A Q c V b a k []:=trivial
def kSt (V:List Value)(a:(Nat→Bool)→World→Prop)(U:Nat→Bool)(X:Nat→Value)(W:World):Prop:=a U W∧∀i,U i=true→X i=V.getD i undef
def kV (V:List Value):List ((Nat→Value)→Value):=V.map (fun v _=>v)
theorem VQ (V:List Value)(k:Nat)(y:Nat→Value):((kV V).getD k (fun _=>undef)) y=V.getD k undef:=by
 unfold kV;rw[Af,Af,AN]
 cases V[k]?<;>rfl
theorem Ob {c k:Nat}{V:List Value}{A:List Nat}{x X:Nat→Value}{L:Nat→Bool}(f:∀i,L i=true→X i=x i)(d:∀i,L i=true→X i=V.getD i undef)(b:∀i,(c.testBit i&&(A.getD k 0).testBit i)=true→L i=true):
  ∀es:List Edge,(∀e∈es,Region.binds .any e=true→(A.getD k 0).testBit e.on=true)→Dz c (kV V) A x es→Iz V x es
 |[],_,_=>trivial
 |e::es,hb,h=>⟨fun g=>by
   have a:=h.1 g;unfold mV at a
   cases j:c.testBit e.on with
   |true=>have l:=b e.on (by rw[j,hb e (by simp) g];rfl);rw[←f _ l,d _ l]
   |false=>rw[Aw (by rw[j];decide),VQ]at a;exact a,Ob f d b es (fun m o=>hb m (by simp[o])) h.2⟩
theorem Kq {A:List Nat}:∀(es:List Edge) (e:Edge),e∈es→Region.binds .any e=true→(D0 A es).testBit e.on=true
 |[],e,h,_=>by cases h
 |e'::es,e,h,hb=>by
  unfold D0;rw[Gh,CQ];rcases Ac.1 h with rfl|h
  ·left
   rw[Ay hb,Gh,CQ];left;rw[Nat.one_shiftLeft,Nat.testBit_two_pow];simp
  ·exact .inr (Kq es e h hb)
theorem Ma:∀(a:List Oper) (A:List Nat) (k:Nat),k<A.length→(ancAll a A).getD k 0=A.getD k 0
 |[],A,k,_=>rfl
 |o::a,A,k,h=>by show(ancAll a (A++[D0 A o.after.toList])).getD k 0=_;rw[Ma a _ k (by simp;omega)];rw[Af,AK h,←Af]
theorem Mb:∀(a:List Oper) (A:List Nat) (k:Nat) (o:Oper),a[k]?=some o→∀e∈o.after,Region.binds .any e=true→((ancAll a A).getD (A.length+k) 0).testBit e.on=true
 |[],A,k,o,h,_,_,_=>by simp at h
 |o'::a,A,0,o,h,e,he,hb=>by simp only[List.getElem?_cons_zero,BU]at h;subst h;show((ancAll a (A++[D0 A o'.after.toList])).getD (A.length+0) 0).testBit e.on=true;rw[Nat.add_zero,Ma a _ _ (by simp)];rw[Af,AC (Av _),C8];exact Kq _ e (by simpa using he) hb
 |o'::a,A,k+1,o,h,e,he,hb=>by
  simp only[List.getElem?_cons_succ]at h;show((ancAll a (A++[D0 A o'.after.toList])).getD (A.length+(k+1)) 0).testBit e.on=true;have:=Mb a (A++[D0 A o'.after.toList]) k o h e he hb
  rwa [Aj,List.length_singleton,show A.length+1+k=A.length+(k+1) by omega]at this
theorem I2.mix {f:List Oper}{c:Nat}{V:List Value}{B:(Nat→Bool)→World→Prop}{a:Act}:∀(l:List Oper) (k:Nat),(∀j o,l[j]?=some o→f[k+j]?=some o)→I2 P f (ancAll f []) Q c V B a k l→Gk P f (ancAll f []) Q c (kV V) (kSt V B) a k l
 |[],k,_,_=>trivial
 |o::l,k,hl,h=>by
  have G:=hl 0 o (by simp);rw[Nat.add_zero]at G
  have C:∀e∈o.after.toList,Region.binds .any e=true→((ancAll f []).getD k 0).testBit e.on=true:=fun e I H=>by
   have:=Mb f [] k o G e (by simpa using I) H
   rwa [show([]:List Nat).length +k=k by simp]at this
  refine⟨?_,I2.mix l (k+1) (fun j M J=>by have:=hl (j+1) M (by simpa using J);rwa [show k+1+j=k+(j+1) by omega]) h.2⟩;have m:=h.1
  cases D:c.testBit k with
  |true=>
   rw[Ay D]at m;rw[Ay rfl];intro L X x W d K w g z A u b s p t;refine m L x W d.1 K g A u (Ob w d.2 g _ C z) b s p (fun r q y v=>t _ r q y ⟨v,fun i E=> ?_⟩);by_cases F:i=k
   ·subst F;rw[Bh]
   ·rw[Bs _ _ _ _ F]at E⊢;exact d.2 i E
  |false=>rw[Aw (by rw[D];decide)]at m;rw[Aw (by decide)];intro L X x W d w g z A u b s p t;exact m L x W d.1 g A u (Ob w d.2 g _ C z) b s p (fun r q y v=>t _ r q (VQ _ _ _).symm y ⟨v,d.2⟩)
theorem AO {b:List Oper}{A:List Nat}{id:Nat}{a:Act}{w:World}(c:Nat)(V:List Value)(d:(Nat→Bool)→World→Prop)(v:P.follows .mixedOrders=true)(r:E7 b=true)(p:C7 b 0=true)(m:ancAll b []=A)
  (l:d (fun _=>false) w.drew) (y:I2 P b A Q c V d a 0 b)
  (s:∀L e,d L e→(∀i,i<b.length→c.testBit i=true→L i=true)→Q .normal (Al b 0 (fun k=>V.getD k undef) a) e):
  (Code.region id b.toArray true).wp P Q a w:=by
 subst m;refine Bq c (kV V) (kSt V d) v r p rfl (fun X=>⟨l,fun i t=>by cases t⟩) (I2.mix b 0 (fun j o h=>by simpa using h) y) (fun L X e g f=> ?_);have:=s L e g.1 f;rw[Ln b 0 _ (FK c (kV V) (ancAll b []) X) a (fun k u=> ?_)]at this
 ·exact this
 ·rw[AP]
  unfold FK
  cases q:c.testBit k with
  |true=>rw[Ay rfl,g.2 k (f k u q)]
  |false=>rw[Aw (by decide),VQ]
theorem wK {b:List Oper}{A:List Nat}{id:Nat}{a:Act}{w:World}(c:Nat)(V:List Value)(d:(Nat→Bool)→World→Prop)
  (f:d (fun _=>false) w.drew) (o:I2 P b A Q c V d a 0 b)
  (l:∀L e,d L e→(∀i,i<b.length→c.testBit i=true→L i=true)→Q .normal (Al b 0 (fun k=>V.getD k undef) a) e) (m:P.follows .mixedOrders=true:=by kernel_rfl) (j:E7 b=true:=by kernel_rfl) (h:C7 b 0=true:=by kernel_rfl) (g:ancAll b []=A:=by kernel_rfl):
  (Code.region id b.toArray true).wp P Q a w:=AO c V d m j h g f o l
end
theorem Lb {P:Program}{w:World}{j:Array Oper}{o:Oper}{a:Act}{K:Act→World→Prop}{Q:Exit→Act→World→Prop}{F:Prop}(d:o.guard=none)(ty:TypeId)(b:Array (Nat×Operand))(e:o.op=.build ty b)(c:Array (Nat×Value))(g:b.map (fun(i,x)=>(i,a.eval x))=c)(u:Value)
  (f:∀W:World,(Instr.build ty c).run P W=.ok u W) (h:K (a.put o.dst u) w):if Region.wanted o (yielded j a.tmps)=true then Oper.wp P o a w K Q else F:=by
 rw[Ay (by simp[Region.wanted,d])];unfold Oper.wp execOp;simp only[e,g,Db,f,Result.andThen_ok];exact h
theorem Cb {P:Program}{w:World}{e:Array Oper}{o:Oper}{a:Act}{K:Act→World→Prop}{Q:Exit→Act→World→Prop}{F:Prop}(ty:TypeId)(x:Operand)(l:o.op=.load ty x)
  (g:Nat) (p:a.eval x=pr g 0) (t:TypeId) (b:Array Value) (c:Nat×Nat) (d:TypeDesc) (i:w.heap[g]?=some (.cells b t c))
  (m:P.underlying ty=some d) (f:(match d with| .struct _| .array _ _=>true|_=>false)=true) (k:(P.info? ty).map (·.size)=some b.size)
  (j:Region.wanted o (yielded e a.tmps)=true) (h:K (a.put o.dst (.agg b)) w):
  if Region.wanted o (yielded e a.tmps)=true then Oper.wp P o a w K Q else F:=by
 rw[Ay j];exact wp_load_row ty x l g p t b c d i m f k h
end Go.Proofs.YtnhbioehiiifdaaGreat
