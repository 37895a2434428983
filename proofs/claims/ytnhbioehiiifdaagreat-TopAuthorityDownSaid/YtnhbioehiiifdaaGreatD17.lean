import Derived.Test.YtnhbioehiiifdaaGreatD14
import Derived.Test.YtnhbioehiiifdaaGreatD15
set_option maxRecDepth 100000
set_option maxHeartbeats 16000000
set_option linter.all false
namespace Go.Proofs.YtnhbioehiiifdaaGreat
open Go.ChangeShapes Go.WideShapes Go.ChangeAt Go.RowKit
section
variable {w w':World} {d sb c frm segs:Nat} {L:List Sec}
theorem Oa (J:IsDev w d sb L c)(Q:∀i,frm≤i→i<frm+segs*8→nowF L i=List.replicate 64 0)(P:20≤segs∧segs≤199)(M:frm+segs*8≤L.length):
  Calls Tryz.prog 210 #[pr d 0,.int .i64 (frm:Int),.int .i64 (segs:Int)] w fun e w'=>∃v a b k h l,e=.returned (.tuple #[pr v 0,.int .i64 0])∧
   FlOk w' w.heap.size v a b k d frm segs 1 h l L EP 0 0 []∧Keep [] w w'∧∀q∈Iw v a b k h l,w.heap.size≤q:=by
 have V:=h_ (openZ J Q ⟨by omega,P.2⟩ M);clear J Q M;go_enter Tryz.func210,Tryz.ntmps210;go_wp2_with fail;refine V.out.mono ?_;rintro e w2 ⟨a,h,l,run',rfl,F,K,O,R⟩;have G:LogOk w2 w.heap.size a d frm segs 1 run' true h l L 0:=F;have f:=h_4 G K O R;clear F K O R G;go_wp2_with fail;refine IC.mono ?_;rintro e j ⟨b,k,rfl,I,r,z,p⟩;obtain⟨u,o⟩:∃u,u=j.alloc (.cells #[pr a 0,pr b 0] 283):=⟨_,rfl⟩;have s:Keep [] j u:=by rw[o];exact(By _ _).alloc _
 have E:Blk u j.heap.size [pr a 0,pr b 0] 283:=by rw[o];exact BY j _ _
 have g:=(f.out.1.still r).still s;have y:=g.sizesG P.2;have A:=h_ (Mg g.at_ y.1 y.2.1);have X:=f.out.2.2.2.size;have Y:=r.size;have m:=FlOk.fresh (t:=1) E g f.out.2.1 f.out.2.2.1 (Av _) (I.still s);have B:=h_4 m ((f.out.2.2.2.trans r).trans s) (show w.heap.size≤j.heap.size by omega) (show w.heap.size≤b∧w.heap.size≤k by omega);rw[o]at A B;have N:=g.at_.lt;have U:=h_ N;have T:Hid (l.flatMap Sg.rs=[]):=h_ (by rw[LH,f.out.2.1];rfl);clear I r z p s E g y X Y m N o;go_wp2_with fail;refine A.out.mono ?_;rintro e w5 ⟨v5,W,rfl,H,x,S⟩
 have aa:W=[]:=by rw[T.out]at x;exact List.map_eq_nil_iff.1 x
 subst aa
 obtain⟨D,c5,rfl⟩:∃D c5,v5=.slice D 0 c5:=by exact A4 H.own
 have C:=h_ S;clear H x S;go_wp2
 go_loopw [32] (fun ab wr=>ab=.int .i64 0∧wr=w5) (fun _ _=>0)
 case atStart=>exact⟨rfl,rfl⟩
 case round=>
 obtain⟨rfl,rfl⟩:=hrel;go_wp2;go_ret2;obtain⟨m,Z,z,p⟩:=B.out;refine⟨_,a,b,k,h,l,rfl,m.still C.out,Z.trans C.out,fun q n=> ?_⟩;simp only[Iw,Ac]at n;rcases n with rfl|rfl|rfl|n
 ·exact z
 ·exact p.1
 ·exact p.2
 ·exact(U.out q n).1
end
structure StD where
 k:Nat
 s:Nat
 turn:Nat
 slot:Nat
 jB:Nat
 jb:Nat
 jlb:Nat
 jvl:Value
 jv:Value
 jl:List Sg
 fB:Nat
 cb:Nat
 lb:Nat
 xb:Nat
 xg:Nat
 vl:Value
 l:List Sg
 T:Tab
 cnt:Nat
 used:Nat
def StD.jF (x:StD):List Nat:=Go.Proofs.YtnhbioehiiifdaaGreat.jF x.jb x.jlb x.jv x.jvl x.jl
def StD.fF (x:StD):List Nat:=Iw x.cb x.lb x.xb x.xg x.vl x.l
def StD.F (x:StD)(stb:Nat):List Nat:=stb::x.k::x.s::(x.jF++x.fF)
structure StAt (w:World) (stb d sb c t segs:Nat) (L:List Sec) (bt:Nat) (st ep rd:Int) (fz:Bool) (M:List JMk) (R:List (Nat×FR)) (x:StD):Prop where
 blk:Blk w stb [.pointer (some ⟨x.cb,0,none⟩),.pointer (some ⟨x.jb,0,none⟩),.pointer (some ⟨x.k,0,none⟩),.int .i64 st] 76
 dev:IsDev w d sb L c
 kep:IsKep0 w x.k x.s d 0 x.turn x.slot bt ep rd fz
 lim:x.slot≤1∧x.turn≤t
 jn:JOk w x.jB x.jb x.jlb d 2 t x.jvl x.jv x.jl L M
 fl:FlOk w x.fB x.cb x.lb x.xb x.xg d 162 segs t x.vl x.l L x.T x.cnt x.used R
 apart:∀q∈x.jF,q∉x.fF
 segs_:20≤segs∧segs≤199∧162+segs*8≤L.length
theorem StAt.keep {w w':World}{stb d sb c t segs:Nat}{L:List Sec}{g:Nat}{i ep rd:Int}{fz:Bool}{M:List JMk}{R:List (Nat×FR)}{x:StD}{S:List Nat}(h:StAt w stb d sb c t segs L g i ep rd fz M R x)(k:Keep S w w')(j:d∉S)(l:sb∉S)(e:∀q∈S,q∉x.F stb):StAt w' stb d sb c t segs L g i ep rd fz M R x:=by refine⟨h.blk.keep k (fun a=>e _ a (by simp[StD.F])),h.dev.keep k j l,h.kep.keep' k (fun a=>e _ a (by simp[StD.F])) (fun a=>e _ a (by simp[StD.F])),h.lim,h.jn.keep k (fun q f a=>e q a (by simp[StD.F,StD.jF,f])),h.fl.keep k (fun q f a=>e q f (by simp[StD.F,StD.fF,a])),h.apart,h.segs_⟩
section
variable {w w':World} {d sb c k s turn slot t segs:Nat} {L:List Sec} {b:Nat} {ep rd:Int} {fz:Bool} {M:List JMk}
theorem Pa (hd:IsDev w d sb L c)(K:c+100≤1099511627776)(hk:IsKep0 w k s d 0 turn slot b ep rd fz)(R:slot≤1)(U:turn≤t)(P:Ep ((b:Int)+1) ep rd fz=true)(S:t≤100000)(A:∀i,2≤i→i<162→nowF L i=List.replicate 64 0)
  (V:∀i,162≤i→i<162+segs*8→nowF L i=List.replicate 64 0) (D:20≤segs∧segs≤199) (hL:162+segs*8≤L.length∧L.length<162+segs*8+8):
  Calls Tryz.prog 158 #[pr d 0,pr k 0] w fun e w'=>∃stb x f,e=.returned (.tuple #[pr stb 0,.int .i64 0])∧
   StAt w' stb d sb (c+2) (t+100) segs f (b+1) ((b:Int)+1) ep rd fz [] [] x∧f.length=L.length∧Keep [d,sb,s,k] w w'∧x.k=k∧x.s=s∧(∀q∈x.F stb,q=k∨q=s∨w.heap.size≤q)∧
   f=(L.map flushSec).set (0+(1-slot)) ⟨Cz (turn+1) (meText ((b:Int)+1) ep rd fz),Cz (turn+1) (meText ((b:Int)+1) ep rd fz),false⟩∧x.slot=1-slot∧x.turn=turn+1∧x.T=EP∧x.used=0∧x.cnt=0:=by
 have Z:∀W,Keep [] w W→Hid (Calls Tryz.prog 22 #[pr k 0] W fun x w'=>x=.returned (SP b ep rd fz)∧Keep [] W w'):=fun W Y=>h_ (Ir (hk.keep' Y (by simp) (by simp)))
 have ag:=(Z w (By _ _)).out;have H:=h_2 hd hk;have a:=h_9 K R U P S A V D hL;have Z:=h_ ag;clear hd hk K R U P S A V D hL ag;go_enter Tryz.func158,Tryz.ntmps158;go_wp2_with fail;refine Z.out.mono ?_;rintro e G ⟨rfl,k2⟩;have ab:=h_ k2;clear k2
 have ao:(b:Int)+1≤1099511627776:=by have:=a.out.2.2.2.1;unfold Ep Ly at this;simp only[Ar,A0]at this;omega
 have aj:∀W,Keep [] w W→Hid (Calls Tryz.prog 188 #[pr k 0,SP ((b:Int)+1) ep rd fz] W fun x w'=>x=.returned (.int .i64 0)∧
   IsDev w' d sb ((L.map flushSec).set (0+(1-slot)) ⟨Cz (turn+1) (meText ((b:Int)+1) ep rd fz),Cz (turn+1) (meText ((b:Int)+1) ep rd fz),false⟩) (c+2)∧IsKep0 w' k s d 0 (turn+1) (1-slot) ((b:Int)+1) ep rd fz∧Keep [d,sb,s,k] W w'):=fun W Y=>h_
   (Jd (H.out.1.keep Y (by simp) (by simp)) (H.out.2.keep' Y (by simp) (by simp)) ((b:Int)+1) ep rd fz a.out.2.2.2.1.symm (by omega) (Int.le_refl _) a.out.2.1 (by have:=a.out.2.2.2.2.2.2.2.2.1;omega) (by have:=a.out.2.2.1;have:=a.out.2.2.2.2.1;omega) (by have:=a.out.1;omega))
 have ac:Blk (G.alloc (.cells #[.int .i64 ((b:Int)+1),.int .i64 ep,.int .i64 rd,.bool fz] 49)) G.heap.size [.int .i64 ((b:Int)+1),.int .i64 ep,.int .i64 rd,.bool fz] 49:=BY G _ _;have k4:Keep [] G (G.alloc (.cells #[.int .i64 ((b:Int)+1),.int .i64 ep,.int .i64 rd,.bool fz] 49)):=(By _ _).alloc _;have I:=h_2 ac (ab.out.trans k4);clear ac k4;go_wp2_with fail;refine(aj _ I.out.2).out.mono ?_;rintro e w5 ⟨rfl,r,O,o⟩;obtain⟨f,z⟩:∃f,f=(L.map flushSec).set (0+(1-slot)) ⟨Cz (turn+1) (meText ((b:Int)+1) ep rd fz),Cz (turn+1) (meText ((b:Int)+1) ep rd fz),false⟩:=⟨_,rfl⟩;rw[←z]at r;have ai:=h_ z;obtain⟨K,R,U,P,S,A,V,D,ak⟩:=a.out;have C:f.length=L.length:=by rw[z];simp
 have Q:∀i,2≤i→nowF f i=nowF L i:=fun i hi=>by rw[z,DF _ _ _ _ (by simp;omega),Aw (by omega),CS]
 have ad:=I.out.1.keep o (by have p:=H.out.1.dev.lt;have v:=H.out.1.secs.lt;have h3:=H.out.2.1.lt;have h4:=H.out.2.2.lt;have h5:=ab.out.size;simp only[Ac,Am,AG];omega)
 have HJ:=h_ (JOpenZ (frm:=2) (t:=t) r (fun i p v=>by rw[Q i p];exact A i p v) (by omega));have n:=h_7 r O (I.out.2.size) ((I.out.2.mono (S':=[d,sb,s,k]) (by simp)).trans o) C Q ad;clear r O o z K R U P S A V D ak C Q ad;go_wp2_with fail;refine HJ.out.mono ?_;rintro e w6 ⟨X,am,an,jv,jl,rfl,B,m⟩;have aa:=n.out.1.keep m (by simp) (by simp);have ah:=h_ (IH aa);have HF:=h_ (Oa (frm:=162) (segs:=segs) aa (fun i p v=>by rw[n.out.2.2.2.2.2.1 i (by omega)];exact a.out.2.2.2.2.2.2.1 i p v) a.out.2.2.2.2.2.2.2.1 (by have:=a.out.2.2.2.2.2.2.2.2.1;have:=n.out.2.2.2.2.1;omega));have H6:=h_2 B m;clear B m aa;have aq:f.length<162+segs*8+8∧162+segs*8≤f.length:=by have:=a.out.2.2.2.2.2.2.2.2;have:=n.out.2.2.2.2.1;omega
 have D:=a.out.2.2.2.2.2.2.2.1;go_wp2_with fail;refine ah.out.mono ?_;rintro e w7 ⟨rfl,rfl⟩;go_wp2_with fail;have g:((f.length:Int)-162)/8=(segs:Int):=by omega
 rw[g];clear g;refine HF.out.mono ?_;rintro e u ⟨J,lb,xb,xg,vl,l,rfl,N,j,y⟩;have ae:=((n.out.2.2.2.2.2.2).keep H6.out.2 (by simp)).keep j (by simp);have c0:=ae.cell 0;have H8:=h_3 N j y;clear N j y ae;go_wp2;go_ret2;obtain⟨r,O,ar,o,C,Q,_⟩:=n.out;obtain⟨B,m⟩:=H6.out;obtain⟨N,j,y⟩:=H8.out;have E:Keep [] u (u.alloc (.cells #[pr J 0,pr X 0,pr k 0,.int .i64 ((b:Int)+1)] 76)):=(By _ _).alloc _;have hB:Blk (u.alloc (.cells #[pr J 0,pr X 0,pr k 0,.int .i64 ((b:Int)+1)] 76)) u.heap.size [pr J 0,pr X 0,pr k 0,.int .i64 ((b:Int)+1)] 76:=BY u _ _;have av:=m.size;have aw:=j.size;have au:=o.size;have af:=(B.lt);have ap:=a.out.2.1;have ax:=a.out.2.2.1;have al:1-slot≤1:=by omega
 refine⟨u.heap.size,⟨k,s,turn+1,1-slot,w5.heap.size,X,am,an,jv,jl,w6.heap.size,J,lb,xb,xg,vl,l,EP,0,0⟩,f,rfl,⟨hB,((r.keep m (by simp) (by simp)).keep j (by simp) (by simp)).keep E (by simp) (by simp), ?_,⟨al,by show turn+1≤t+100;omega⟩,((B.still j).still E).later (by omega),(N.still E).later (by omega),fun q g hm=> ?_,⟨a.out.2.2.2.2.2.2.2.1.1,a.out.2.2.2.2.2.2.2.1.2,by rw[C];exact a.out.2.2.2.2.2.2.2.2.1⟩⟩,C,((o.trans (m.mono (by simp))).trans (j.mono (by simp))).trans (E.mono (by simp)),rfl,rfl,fun q g=> ?_,ai.out,rfl,rfl,rfl,rfl,rfl⟩
 ·have h:=((O.keep' m (by simp) (by simp)).keep' j (by simp) (by simp)).keep' E (by simp) (by simp)
  show IsKep0 _ k s d 0 (turn+1) (1-slot) ((b+1:Nat):Int) ep rd fz
  push_cast
  exact h
 ·have p:=(af q g).2
  have v:=y q hm;omega
 ·simp only[StD.F,StD.jF,StD.fF,Ac,Ag]at g
  rcases g with rfl|rfl|rfl|g|g
  ·right;right;omega
  ·left;rfl
  ·right;left;rfl
  ·have:=(af q g).1;right;right;omega
  ·have:=y q g;right;right;omega
end
theorem Iu (L:List Sec)(i:Nat)(b:List Nat):∀s∈(L.map flushSec).set i ⟨b,b,false⟩,flushSec s=s:=by
 intro s a;rcases DC a with h|h
 ·obtain⟨t,_,rfl⟩:=AI.1 h
  rfl
 ·rw[h];rfl
section
variable {w w':World} {d sb c segs:Nat} {L:List Sec}
theorem M7 (a:IsDev w d sb L c)(f:192≤L.length):Calls Tryz.prog 156 #[pr d 0] w fun e w'=>e=.returned (.int .i64 0)∧w'=w:=by
 have b:=h_ (IH a);have g:¬(L.length:Int)<192:=by omega
 clear a f;go_enter Tryz.func156,Tryz.ntmps156;go_wp2_with fail;refine b.out.mono ?_;rintro e h ⟨rfl,rfl⟩;go_wp2;go_ret;exact⟨rfl,rfl⟩
theorem QM (E:IsDev w d sb L c)(hc:c+L.length+200≤1099511627776)(ah:20≤segs∧segs≤199)(hL:162+segs*8≤L.length∧L.length<162+segs*8+8):
  Calls Tryz.prog 115 #[pr d 0] w fun e w'=>∃stb x D c',e=.returned (.tuple #[pr stb 0,.int .i64 0])∧
   StAt w' stb d sb c' 101 segs D 1 1 0 0 false [] [] x∧c'≤c+L.length+10∧D.length=L.length∧Keep [d,sb] w w'∧(∀q∈x.F stb,w.heap.size≤q)∧
   (∀s∈D,flushSec s=s)∧Pair D 0 x.slot x.turn (meText ((1:Nat):Int) 0 0 false)∧(∀i,162≤i→i<162+segs*8→nowF D i=List.replicate 64 0)∧x.T=EP∧x.used=0∧x.cnt=0:=by
 obtain⟨i8,an,av,aw,ax⟩:=AU In;have am:=h_ (M7 E (by omega));have ab:=h_ (IH E);have aq:=E.max;have H:=h_ E;have f:=h_3 hc ah hL;obtain⟨n,X⟩:∃n,n=L.length:=⟨_,rfl⟩;rw[←X]at ab aq;have o:=h_ X;clear E hc ah hL X;go_enter Tryz.func115,Tryz.ntmps115;go_wp2_with fail;refine am.out.mono ?_;rintro e w2 ⟨rfl,y⟩;have h3:=y.symm;subst h3;go_wp2_with fail;refine ab.out.mono ?_;rintro e w2 ⟨rfl,y⟩;subst y;go_wp2
 go_loopw [2,3,16] (fun s2 s3 ay wr=>∃(i:Nat) (p:List Sec),s2=.pointer none∧s3=.int .i64 0∧ay=.int .i64 (i:Int)∧i≤n∧IsDev wr d sb p (c+i)∧p.length=n∧(∀j,j<i→nowF p j=List.replicate 64 0)∧Keep [d,sb] w wr) (fun _ _ x _=>n+1-(intOf x).toNat)
 case atStart=>exact⟨0,L,rfl,rfl,rfl,AA _,by rw[Nat.add_zero];exact H.out,o.out.symm,fun j J=>absurd J (by omega),By _ _⟩
 case round=>
 obtain⟨i,p,rfl,rfl,rfl,hi,g,C,l,a⟩:=hrel;by_cases ap:i<n
 ·have q0:(i:Int)<(n:Int):=by omega
  obtain⟨s,Z⟩:∃s,p[i]?=some s:=⟨_,Ad (by omega)⟩;have hz:Bb (List.replicate 64 0)=List.replicate 64 (.int .u8 0):=by simp[Bb,bc]
  have ag:Rd (wr.alloc (.cells (List.replicate 64 (.int .u8 0)).toArray 5)) (.slice (some ⟨wr.heap.size,0,none⟩) 64 64) (List.replicate 64 0):=by rw[←hz];exact Y1 wr (Bb (List.replicate 64 0)) 5 1 64 64 (by simp) (by omega) _ rfl
  have G:Keep [] wr (wr.alloc (.cells (List.replicate 64 (.int .u8 0)).toArray 5)):=(By _ _).alloc _;have ad:=g.keep G (by simp) (by simp);have HW:=h_ (I0 ad i s Z _ (List.replicate 64 0) ag (by simp) (by intro x hx;simp at hx;omega) (by have:=f.out.1;have:=o.out;omega));have M:BQ s.now 0 (List.replicate 64 0)=List.replicate 64 0:=by simp[BQ,(g.ok s (Aq Z)).1]
  have U:=h_6 g C l a G M;clear g C l a G ad M ag hz Z
  go_wp2_with (at_make;refine DI _ rfl _ _ 81 rfl 5 i8 _ Ao an av (by rw[aw];rfl) (by decide) _ 64 rfl rfl (by omega) (by rw[ax];omega) (by omega) ?_)
  refine HW.out.mono ?_;rintro e w3 ⟨rfl,r,m⟩;have S:=h_2 r m;clear r m;go_wp2_with fail;obtain⟨r,m⟩:=S.out;obtain⟨g,C,l,a,G,M⟩:=U.out
  exact⟨⟨i+1,_,by first|rfl|trivial,by first|rfl|trivial,by go_num,by omega,by rw[←Cv];exact r,by rw[Bi];exact C,fun j J=>by
   rw[DF _ _ _ _ (by omega)];by_cases he:j=i
   ·rw[Ay he];exact M
   ·rw[Aw he];exact l j (by omega),(a.trans (G.mono (by simp))).trans m⟩,by simp only[intOf];omega⟩
 ·obtain rfl:i=n:=by omega
  have q0:¬(i:Int)<(i:Int):=by omega
  have B:p.length=L.length:=by rw[C];exact o.out
  have af:=Uc g 0 (by have:=f.out.2.2;omega) (by have:=f.out.1;have:=o.out;omega);have HM:=h_ af;have U:=h_4 g B l a;clear g C l a B af;go_wp2_with fail;refine HM.out.mono ?_;rintro e w3 ⟨k,s,rfl,r,ae,m,W,aa⟩;obtain⟨g,B,l,a⟩:=U.out;obtain⟨v,z⟩:∃v,v=((p.map flushSec).set (0+1) zeroSec).set 0 ⟨Cz 1 (meText 0 0 0 false),Cz 1 (meText 0 0 0 false),false⟩:=⟨_,rfl⟩;rw[←z]at r;have aj:=h_ z
  have al:Hid (∀j,2≤j→j<L.length→nowF v j=List.replicate 64 0):=h_ (fun j J ao=>by rw[z,DF _ _ _ _ (by simp;omega),Aw (by omega),DF _ _ _ _ (by simp;omega),Aw (by omega),CS];exact l j (by have:=o.out;omega))
  have ak:=h_ B;have A:v.length=L.length:=by rw[z];simp[B]
  have Y:∀j,2≤j→j<L.length→nowF v j=List.replicate 64 0:=fun j J ao=>by rw[z,DF _ _ _ _ (by simp;omega),Aw (by omega),DF _ _ _ _ (by simp;omega),Aw (by omega),CS];exact l j (by have:=o.out;omega)
  have HP:=h_ (Pa (segs:=segs) (t:=1) (b:=0) r (by have:=f.out.1;have:=o.out;omega) ae.weak (by decide) (by decide) (by decide) (by decide) (fun j V y=>Y j V (by have:=f.out.2.2;omega)) (fun j V y=>Y j (by omega) (by have:=f.out.2.2;omega)) f.out.2.1 (by rw[A];exact f.out.2.2));have S:=h_5 A a m W aa;clear r ae m W aa g B l a z A Y;go_wp2_with fail;refine HP.out.mono ?_;rintro e w4 ⟨stb,x,L4,rfl,P,K,R,ar,au,hF,I,O,Q,hT,ai,ac⟩;have H4:=h_4 P K R hF;have u:=h_6 I O Q hT ai ac;clear P K R ar au hF I O Q hT ai ac;go_wp2;go_ret2;obtain⟨P,K,R,hF⟩:=H4.out;obtain⟨A,a,m,W,aa⟩:=S.out;have a0:=a.size;have az:=m.size;refine⟨stb,x,L4,_,rfl,P,by have:=o.out;omega,by rw[K,A],(a.trans m).then R (fun q N ap=> ?_),fun q N=> ?_, ?_, ?_, ?_,u.out.2.2.2.1,u.out.2.2.2.2.1,u.out.2.2.2.2.2⟩
  ·simp only[Ac,Am,AG]at N⊢
   rcases N with h|h|h|h
   ·exact .inl h
   ·exact .inr h
   ·omega
   ·omega
  ·rcases hF q N with h|h|h<;>omega
  ·rw[u.out.1]
   exact Iu _ _ _
  ·obtain⟨I,O,Q,_⟩:=u.out
   rw[I,O,Q]
   have hp:Pair v 0 0 1 (meText 0 0 0 false):=by rw[aj.out];exact Pair.make p 0 _ (by have:=ak.out;have:=f.out.2.2;omega)
   exact hp.save (by decide) (by decide) _
  ·intro i V y
   rw[u.out.1,DF _ _ _ _ (by simp;have:=A;have:=f.out.2.2;omega),Aw (by omega),CS];exact al.out i (by omega) (by have:=f.out.2.2;omega)
end
section
variable {w w':World} {stb d sb c t segs:Nat} {L:List Sec} {bt:Nat} {st ep rd:Int} {fz:Bool} {M:List JMk} {R:List (Nat×FR)} {x:StD}
theorem FlOk.notT {B g i k m frm n p:Nat}{j:Value}{l:List Sg}{T:Tab}(h:FlOk w B g i k m d frm segs t j l L T n p R){E:TypeId}{b:Nat}(e:Ty w b E)(a:E∉ [283,326,330,333,359,358,353,5]):b∉Iw g i k m j l:=by
 intro f;obtain⟨s,u,r,q,o,_⟩:=h.log;simp only[Ac,Am,AG,not_or]at a;simp only[Iw,Ac]at f;rcases f with rfl|rfl|rfl|f
 ·exact e.ne h.blk.ty a.1 rfl
 ·exact e.ne h.idx.blk.ty a.2.1 rfl
 ·exact e.ne h.idx.row.ty a.2.2.1 rfl
 ·exact o.at_.apartT e (by simp only[Ac,Am,AG,not_or];exact a.2.2.2) f
theorem JOk.devCongr {B g j frm:Nat}{k v:Value}{l:List Sg}{f:List Sec}(h:JOk w B g j d frm t k v l L M)(n:∀i,frm≤i→i<frm+160→nowF f i=nowF L i):JOk w B g j d frm t k v l f M:=by obtain⟨p,r,m,q,e,o⟩:=h.log;exact⟨h.at_,h.new,⟨p,r,m,q,⟨e.at_,e.dev.congr (fun i a b=>n i a (by omega)) (by decide),e.say⟩,o⟩,h.tail,h.few,h.seq⟩
theorem StAt.others (h:StAt w stb d sb c t segs L bt st ep rd fz M R x):stb∉d::sb::x.fF∧x.k∉d::sb::x.fF∧x.s∉d::sb::x.fF∧∀q∈x.jF,q∉d::sb::x.fF:=by
 have m:=h.jn.notT h.dev.dev.ty (by decide);have n:=h.jn.notT h.dev.secs.ty (by decide)
 have e:∀ {E:TypeId} {b:Nat},Ty w b E→E∉ [283,326,330,333,359,358,353,5]→E≠182→E≠232→b∉d::sb::x.fF:=by
  intro E b f i j l a;simp only[Ac]at a;rcases a with rfl|rfl|a
  ·exact f.ne h.dev.dev.ty j rfl
  ·exact f.ne h.dev.secs.ty l rfl
  ·exact h.fl.notT f i a
 refine⟨e h.blk.ty (by decide) (by decide) (by decide),e h.kep.1.ty (by decide) (by decide) (by decide),e h.kep.2.ty (by decide) (by decide) (by decide),fun q g a=> ?_⟩;simp only[Ac]at a;rcases a with rfl|rfl|a
 ·exact m g
 ·exact n g
 ·exact h.apart q g a
theorem StAt.put (h:StAt w stb d sb c t segs L bt st ep rd fz M R x)(v:c+20<1099511627776)(H:t≤1000000)
  (key val:Str) (o:itMay key val 0 false=true) (E:rpF R key=none) (A:encN (R.map frRec)+(FR.put key val).body.length +8≤2225) (G:2*x.used<x.T.length∧x.used+1≤x.T.length∧x.cnt+1≤x.T.length):
  Calls Tryz.prog 129 #[pr x.cb 0,L7 key val 0 false] w fun e w'=>e=.returned (.int .i64 0)∧∃b f j pos,StAt w' stb d sb j (t+1) segs f bt st ep rd fz M (R++[(pos,.put key val)]) b∧j≤c+12∧f.length=L.length∧
   Keep (d::sb::x.fF) w w'∧(∀q∈b.F stb,q∈x.F stb∨w.heap.size≤q)∧b.cb=x.cb∧b.jb=x.jb∧b.k=x.k∧b.T.length=x.T.length∧b.used≤x.used+1∧b.cnt=x.cnt+1∧b.slot=x.slot∧b.turn=x.turn∧(∀i,i<162→nowF f i=nowF L i):=by
 refine(Ut h.fl h.dev v H ⟨h.segs_.1,h.segs_.2.1⟩ h.segs_.2.2 key val o E A G).mono ?_;rintro e w' ⟨rfl,S,J,f,j,s,Q,pos,B,I,u,z,y,n,hF,p,r⟩;obtain⟨K,N,O,P⟩:=h.others;have D:=h.jn.lt;refine⟨rfl,{x with vl:=S,l:=J,T:=s,cnt:=x.cnt+1,used:=Q},f,j,pos,⟨h.blk.keep n K,z,h.kep.keep' n N O,⟨h.lim.1,by have:=h.lim.2;show x.turn≤t+1;omega⟩,((h.jn.keep n P).devCongr (fun i a m=>r i (by omega))).later (by omega),B,fun q g o=> ?_,by rw[p];exact h.segs_⟩,y,p,n,fun q g=> ?_,rfl,rfl,rfl,u,I,rfl,rfl,rfl,fun i C=>r i (.inl C)⟩
 ·rcases hF q o with a|a
  ·exact h.apart q g a
  ·have:=(D q g).2;omega
 ·simp only[StD.F,StD.jF,StD.fF,Ac,Ag]at g⊢
  rcases g with a|a|a|a|a
  ·simp[a]
  ·simp[a]
  ·simp[a]
  ·simp[a]
  ·rcases hF q a with m|m
   ·simp[m]
   ·exact .inr m
theorem StAt.flush (h:StAt w stb d sb c t segs L bt st ep rd fz M R x)(k:c<1099511627776):
  Calls Tryz.prog 130 #[pr x.cb 0] w fun e w'=>e=.returned (.int .i64 0)∧StAt w' stb d sb (c+1) t segs (L.map flushSec) bt st ep rd fz M R x∧Keep [d,sb] w w':=by
 refine(PT h.fl h.dev k (by have:=h.segs_;omega)).mono ?_;rintro e w' ⟨rfl,l,m,a⟩;obtain⟨o,p,r,s⟩:=h.others
 have f:∀ {b:Nat},b∉d::sb::x.fF→b∉ [d,sb]:=fun j g=>j (by simp only[Ac,Am,AG]at g⊢;rcases g with h|h<;>simp[h])
 exact⟨rfl,⟨h.blk.keep a (f o),l,h.kep.keep' a (f p) (f r),h.lim,(h.jn.keep a (fun q n=>f (s q n))).devCongr (fun i _ _=>CS L i),m,h.apart,by rw[AD];exact h.segs_⟩,a⟩
end
theorem stStarted_any {w:World}{stb d sb c t segs:Nat}{L:List Sec}{b:Nat}{a ep rd:Int}{f:Bool}{M:List JMk}{R:List (Nat×FR)}{x:StD}(h:StAt w stb d sb c t segs L b a ep rd f M R x):Calls Tryz.prog 178 #[pr stb 0] w fun e g=>e=.returned (.int .i64 a)∧g=w:=by have c3:w.cell? ⟨stb,3,none⟩=some (.int .i64 a):=h.blk.cell 3;clear h;go_enter Tryz.func178,Tryz.ntmps178;go_wp2;go_ret;exact⟨rfl,rfl⟩
section
variable {w w':World} {B cb lb xb xg d sb c frm segs t cnt used:Nat} {vl bv:Value} {l:List Sg} {L:List Sec} {T:Tab} {R:List (Nat×FR)}
theorem RH (h:FlOk w B cb lb xb xg d frm segs t vl l L T cnt used R)(Q:IsDev w d sb L c)(G:c+20<1099511627776)(ht:t≤1000000)(ac:20≤segs∧segs≤199)(aw:frm+segs*8≤L.length)(he:encN (R.map frRec)+9≤2225):
  Calls Tryz.prog 229 #[pr cb 0] w fun e w'=>e=.returned (.int .i64 0)∧∃K ag J I D X pos,FlOk w' B cb lb K ag d frm segs (t+1) J I (D.map flushSec) EP 0 0 (R++[(pos,.wipe)])∧IsDev w' d sb (D.map flushSec) X∧X≤c+13∧
   Keep (d::sb::Iw cb lb xb xg vl l) w w'∧(∀q∈Iw cb lb K ag J I,q∈Iw cb lb xb xg vl l∨w.heap.size≤q)∧D.length=L.length∧(∀i,(i<frm∨frm+segs*8≤i)→nowF D i=nowF L i):=by
 obtain⟨U,a7,fr,q,P,Y,h2,h3,h4,N⟩:=h.log
 have S:encN (R.map frRec++[(U,FR.wipe.body)])≤2225:=by rw[GP,FU];show _+(1+8+encN [])≤_;have:encN []=0:=rfl;omega
 have u:Keep [] w (w.alloc (.cells #[.int .u8 2] 5)):=(By _ _).alloc _;have ay:Rd (w.alloc (.cells #[.int .u8 2] 5)) (.slice (some ⟨w.heap.size,0,none⟩) 1 1) [2]:=Y1 w (Bb [2]) 5 1 1 1 rfl (by omega) _ rfl;have E:=h.still u;have ao:=P.still u;have ar:=Q.keep u (by simp) (by simp)
 have ax:∀q,(Value.slice (some ⟨w.heap.size,0,none⟩) 1 1).ownBlock =some q→q∉d::sb::DG lb vl l:=fun q n=>by have e:w.heap.size=q:=Option.some.inj n;exact P.at_.newNot Q (by omega)
 have az:=h_ (MZ E.blk ao ar G ⟨Y,by omega⟩ (by omega) (by omega) ac aw ay (body:=[2]) ⟨by decide,by decide⟩ (by intro c G;simp at G;omega) ax E.idx E.tail S E.heads.1 E.heads.2);have H:=h_7 h P Q G ac u S;have a1:=h_5 Y h2 h3 h4 N;clear h P Q G ht ac aw he Y h2 h3 h4 N S u ay E ao ar ax;go_enter Tryz.func229,Tryz.ntmps229;go_wp2_with fail;refine az.out.mono ?_;rintro e w7 ⟨rfl,J,I,D,X,aj,al,ak,ad,M,Z,aa,ab,a4,ah⟩;have j:=h_9 aj al ak ad M Z aa ab ah;clear aj al ak ad M Z aa ab a4 ah;go_wp2_with fail;refine IC.mono ?_;rintro e V ⟨K,ag,rfl,ap,z,am,an⟩;have O:=j.out.2.2.2.2.2.2.2.2.keep z (by simp);have c0:V.cell? ⟨cb,0,none⟩=some (pr lb 0):=O.cell 0;have c1:V.cell? ⟨cb,1,none⟩=some (pr xb 0):=O.cell 1;have fz:V.frozen? ⟨cb,1,none⟩=false:=O.free 1;obtain⟨W,ae⟩:∃W,W=V.setCell ⟨cb,1,none⟩ (pr K 0):=⟨_,rfl⟩;have A:Keep [cb] V W:=by rw[ae];exact Or (p:=⟨cb,1,none⟩) (By _ _) (.inl (by simp)) _
 have C:Blk W cb [pr lb 0,pr K 0] 283:=by rw[ae];exact O.set 1 _
 have aq:cb∉DG lb J I:=fun f=>j.out.1.at_.apartT j.out.2.2.2.2.2.2.2.2.ty (by decide) f
 have F:=(j.out.1.still z).keep A (fun q n f=>by rw[Ah]at f;subst f;exact aq n);have m:=(j.out.2.1.keep z (by simp) (by simp)).keep A (fun f=>by rw[Ah]at f;exact j.out.2.1.dev.ty.ne j.out.2.2.2.2.2.2.2.2.ty (by decide) f) (fun f=>by rw[Ah]at f;exact j.out.2.1.secs.ty.ne j.out.2.2.2.2.2.2.2.2.ty (by decide) f)
 have s:=ap.keep A (fun q n f=>by rw[Ah]at n;subst n;have:=j.out.2.2.2.2.2.2.2.2.lt;simp only[Ac,Am,AG]at f;omega)
 have c9:W.cell? ⟨cb,0,none⟩=some (pr lb 0):=C.cell 0;have a0:=h_ (Mf F.at_ m (by have:=j.out.2.2.1;have:=H.out.2.2.2.1;omega));have H9:=h_8 F m s C z A am an;clear ap z am an O A C aq F m s;go_wp2_with fail;rw[←ae];clear ae c0 c1 fz;go_wp2_with fail;refine a0.out.mono ?_;rintro e bc ⟨rfl,a5,af⟩;go_wp2;go_ret;obtain⟨aj,al,ak,ad,M,Z,aa,ab,ah⟩:=j.out;obtain⟨F,m,s,C,z,A,am,an⟩:=H9.out;obtain⟨av,P,Q,G,ac,u,S⟩:=H.out;obtain⟨Y,h2,h3,h4,N⟩:=a1.out;have a8:=u.size;have a9:=M.size;have ba:=z.size;have bb:=A.size;have a6:∀x∈[d,sb],x∉DG lb J I:=fun x hx f=>F.at_.apart m x f hx
 have ai:=F.keep af (fun q n f=>a6 q f n)
 have a2:=C.keep af (fun f=>by
  simp only[Ac,Am,AG]at f;rcases f with f|f
  ·exact m.dev.ty.ne C.ty (by decide) f.symm
  ·exact m.secs.ty.ne C.ty (by decide) f.symm)
 have a3:=s.keep af (fun q n f=>by
  simp only[Ac,Am,AG]at n f;rcases n with rfl|rfl<;>rcases f with rfl|rfl
  ·exact m.dev.ty.ne s.blk.ty (by decide) rfl
  ·exact m.dev.ty.ne s.row.ty (by decide) rfl
  ·exact m.secs.ty.ne s.blk.ty (by decide) rfl
  ·exact m.secs.ty.ne s.row.ty (by decide) rfl)
 have eR:(R++[(U,FR.wipe)]).map frRec=R.map frRec++[(U,FR.wipe.body)]:=by simp[frRec]
 have au:ents EP=[]:=Iy 16;refine⟨rfl,K,ag,J,I,D,X+1,U,⟨a2,⟨U+1,a7,false,q+1,⟨ai.at_,ai.dev.flush (by omega),ai.say⟩,by omega,by omega,by omega,by omega,fun r g=> ?_⟩,by rw[eR];exact ad,by rw[eR];exact S, ?_,a3,TabOk.new 16 (by decide),fun k pos=> ?_,by rw[au];rfl,fun r g k v hk=> ?_⟩,a5,by omega, ?_,fun y o=> ?_,aa,ab⟩
 ·rcases Ag.1 g with g|g
  ·have:=N r g;omega
  ·simp at g;subst g;simp
 ·rw[CD]
  refine⟨av.up,by simp,fun a ha b hb=> ?_⟩;simp at hb;subst hb;exact N a ha
 ·rw[au,Js]
  simp[Xi]
 ·rcases Ag.1 g with g|g
  ·exact av.may r g k v hk
  ·simp at g;subst g
   cases hk
 ·refine(((u.mono (S':=d::sb::Iw cb lb xb xg vl l) (by simp)).trans (M.mono (S':=d::sb::Iw cb lb xb xg vl l) (fun y o _=> ?_))).trans (z.mono (S':=d::sb::Iw cb lb xb xg vl l) (by simp))).trans ((A.mono (S':=d::sb::Iw cb lb xb xg vl l) (fun y o _=> ?_)).trans (af.mono (S':=d::sb::Iw cb lb xb xg vl l) (fun y o _=> ?_)))
  ·simp only[Iw,Ac]at o⊢
   rcases o with h|h|h|h<;>simp[h]
  ·simp only[Iw,Ac,Am,AG]at o⊢
   simp[o]
  ·simp only[Iw,Ac,Am,AG]at o⊢
   rcases o with h|h<;>simp[h]
 ·simp only[Iw,Ac]at o⊢
  rcases o with h|h|h|h
  ·simp[h]
  ·exact .inr (by omega)
  ·exact .inr (by omega)
  ·rcases Z y h with h|h
   ·simp[h]
   ·exact .inr (by omega)
end
section
variable {w w':World} {stb d sb c t segs:Nat} {L:List Sec} {bt:Nat} {st ep rd:Int} {fz:Bool} {M:List JMk} {R:List (Nat×FR)} {x:StD}
theorem FlOk.devCongr {B g k o p frm j m:Nat}{n:Value}{l:List Sg}{T:Tab}{f:List Sec}(h:FlOk w B g k o p d frm segs t n l L T j m R)(v:0<segs)(s:∀i,frm≤i→i<frm+segs*8→nowF f i=nowF L i):FlOk w B g k o p d frm segs t n l f T j m R:=by obtain⟨y,z,r,q,e,u⟩:=h.log;exact⟨h.blk,⟨y,z,r,q,⟨e.at_,e.dev.congr (fun i a b=>s i a (by omega)) v,e.say⟩,u⟩,h.tail,h.few,h.up,h.idx,h.tab,h.says,h.cnt_,h.may⟩
theorem StAt.wipe (h:StAt w stb d sb c t segs L bt st ep rd fz M R x)(r:c+20<1099511627776)(C:t≤1000000)(v:encN (R.map frRec)+9≤2225):
  Calls Tryz.prog 229 #[pr x.cb 0] w fun e w'=>e=.returned (.int .i64 0)∧∃b f j pos,StAt w' stb d sb j (t+1) segs (f.map flushSec) bt st ep rd fz M (R++[(pos,.wipe)]) b∧j≤c+13∧f.length=L.length∧
   Keep (d::sb::x.fF) w w'∧(∀q∈b.F stb,q∈x.F stb∨w.heap.size≤q)∧b.cb=x.cb∧b.jb=x.jb∧b.k=x.k∧b.T=EP∧b.used=0∧b.cnt=0∧b.slot=x.slot∧b.turn=x.turn∧(∀i,i<162→nowF f i=nowF L i):=by
 refine(RH h.fl h.dev r C ⟨h.segs_.1,h.segs_.2.1⟩ h.segs_.2.2 v).mono ?_;rintro e w' ⟨rfl,K,N,J,D,f,j,pos,y,u,s,n,hF,o,p⟩;obtain⟨E,G,H,I⟩:=h.others;have A:=h.jn.lt;refine⟨rfl,{x with xb:=K,xg:=N,vl:=J,l:=D,T:=EP,cnt:=0,used:=0},f,j,pos,⟨h.blk.keep n E,u,h.kep.keep' n G H,⟨h.lim.1,by have:=h.lim.2;show x.turn≤t+1;omega⟩,((h.jn.keep n I).devCongr (fun i a m=>by rw[CS];exact p i (by omega))).later (by omega),y,fun q g B=> ?_,by rw[AD,o];exact h.segs_⟩,s,o,n,fun q g=> ?_,rfl,rfl,rfl,rfl,rfl,rfl,rfl,rfl,fun i z=>p i (.inl z)⟩
 ·rcases hF q B with a|a
  ·exact h.apart q g a
  ·have:=(A q g).2;omega
 ·simp only[StD.F,StD.jF,StD.fF,Ac,Ag]at g⊢
  rcases g with a|a|a|a|a
  ·simp[a]
  ·simp[a]
  ·simp[a]
  ·simp[a]
  ·rcases hF q a with m|m
   ·simp[m]
   ·exact .inr m
theorem StAt.keeper (h:StAt w stb d sb c t segs L bt st ep rd fz M R x):stb∉ [d,sb,x.s,x.k]∧(∀q∈x.jF,q∉ [d,sb,x.s,x.k])∧∀q∈x.fF,q∉ [d,sb,x.s,x.k]:=by
 have j:=h.jn.notT h.dev.dev.ty (by decide);have l:=h.jn.notT h.dev.secs.ty (by decide);have m:=h.jn.notT h.kep.2.ty (by decide);have n:=h.jn.notT h.kep.1.ty (by decide);have e:=h.fl.notT h.dev.dev.ty (by decide);have f:=h.fl.notT h.dev.secs.ty (by decide);have g:=h.fl.notT h.kep.2.ty (by decide);have i:=h.fl.notT h.kep.1.ty (by decide);refine⟨fun a=> ?_,fun q b a=> ?_,fun q b a=> ?_⟩
 ·simp only[Ac,Am,AG]at a
  rcases a with a|a|a|a
  ·exact h.dev.dev.ty.ne h.blk.ty (by decide) a.symm
  ·exact h.dev.secs.ty.ne h.blk.ty (by decide) a.symm
  ·exact h.kep.2.ty.ne h.blk.ty (by decide) a.symm
  ·exact h.kep.1.ty.ne h.blk.ty (by decide) a.symm
 ·simp only[Ac,Am,AG]at a
  rcases a with rfl|rfl|rfl|rfl
  ·exact j b
  ·exact l b
  ·exact m b
  ·exact n b
 ·simp only[Ac,Am,AG]at a
  rcases a with rfl|rfl|rfl|rfl
  ·exact e b
  ·exact f b
  ·exact g b
  ·exact i b
theorem StAt.save (h:StAt w stb d sb c t segs L bt st ep rd fz M R x)(A:c+20<1099511627776)(E:t≤1000000)(e r:Int)(f:Bool)(b:true=Ep (bt:Int) e r f)(n:ep≤e):
  Calls Tryz.prog 188 #[pr x.k 0,SP (bt:Int) e r f] w fun y w'=>y=.returned (.int .i64 0)∧
   StAt w' stb d sb (c+2) (t+1) segs ((L.map flushSec).set (0+(1-x.slot)) ⟨Cz (x.turn+1) (meText (bt:Int) e r f),Cz (x.turn+1) (meText (bt:Int) e r f),false⟩) bt st e r f M R {x with turn:=x.turn+1,slot:=1-x.slot}∧Keep [d,sb,x.s,x.k] w w':=by
 obtain⟨u,v,z⟩:=h.keeper;have C:=h.lim;have D:=h.segs_;refine(Jd h.dev h.kep (bt:Int) e r f b (Int.le_refl _) n h.lim.1 (by omega) (by omega) (by omega)).mono ?_;rintro y w' ⟨rfl,m,o,a⟩
 have g:∀i,2≤i→nowF ((L.map flushSec).set (0+(1-x.slot)) ⟨Cz (x.turn+1) (meText (bt:Int) e r f),Cz (x.turn+1) (meText (bt:Int) e r f),false⟩) i=nowF L i:=fun i B=>by rw[DF _ _ _ _ (by simp;omega),Aw (by omega),CS]
 refine⟨rfl,⟨h.blk.keep a u,m,o,⟨by show 1-x.slot≤1;omega,by show x.turn+1≤t+1;omega⟩,((h.jn.keep a v).devCongr (fun i j l=>g i (by omega))).later (by omega),((h.fl.keep a (fun q b p=>z q p b)).devCongr (by omega) (fun i j l=>g i (by omega))).later (by omega),h.apart,by rw[Bi,AD];exact h.segs_⟩,a⟩
end
end Go.Proofs.YtnhbioehiiifdaaGreat
