import Derived.Test.YtnhbioehiiifdaaGreatD02
import Derived.Test.YtnhbioehiiifdaaGreatD04
import Derived.Test.YtnhbioehiiifdaaGreatD06
import Derived.Lib.SmallJoins
set_option maxRecDepth 100000
set_option maxHeartbeats 16000000
set_option linter.all false
namespace Go.Proofs.YtnhbioehiiifdaaGreat
open Go.ChangeShapes Go.WideShapes Go.ChangeAt Go.RowKit
theorem JH (n:Nat)(t:List Nat):(Cz n t).drop 4=E1 n t:=by unfold Cz;rw[Cp (by simp)]
theorem T9 (n:Nat)(t:List Nat):(Cz n t).take 4=be 4 (crcSum (E1 n t)):=by unfold Cz;rw[Ca (by simp)]
theorem Gv (n:Nat)(t:List Nat)(a:n<18446744073709551616):CA (Cz n t)=n:=by unfold CA;rw[JH];unfold E1;rw[Ca (by simp),FD];exact AR a
theorem Sy (n:Nat)(t:List Nat):(Cz n t).drop 12=[t.length]++(t++List.replicate (51-t.length) 0):=by
 have:(Cz n t).drop 12=((Cz n t).drop 4).drop 8:=by rw[Bu]
 rw[this,JH];unfold E1;rw[Cp (by simp)]
theorem Up (l:List Nat)(k:Nat):l.getD k 0=(l.drop k).getD 0 0:=by simp[Af]
theorem Sz (n:Nat)(t:List Nat):(Cz n t).getD 12 0=t.length:=by rw[Up,Sy];rfl
theorem JX (n:Nat)(t:List Nat):Fh (Cz n t)=t:=by
 unfold Fh;rw[Sz];have:(Cz n t).drop 13=((Cz n t).drop 12).drop 1:=by rw[Bu]
 rw[this,Sy,List.singleton_append,BB,Bj,Ca rfl]
theorem JY (c n:Nat)(t:List Nat)(a:t.length≤40)(b:∀x∈t,x<256)(d:n<9223372036854775808):FE c (Cz n t)=decide (c<n):=by unfold FE;have f:=JT (E1 n t) (IW n t a b);rw[JH,T9,FD,Gv _ _ (by omega),Sz];have e:crcSum (E1 n t) % 256^4=crcSum (E1 n t):=AR (by simpa using f);rw[e];simp[a,d]
theorem Nw:CA (List.replicate 64 0)=0:=by decide
theorem QK (c:Nat)(x:List Nat)(h:CA x≤c):FE c x=false:=by unfold FE;have:decide (c<CA x)=false:=Ak (by omega);rw[this];simp
theorem Nx (c:Sup3)(k:Nat)(x:List Nat):(CG c k x).turn =c.turn∨(CG c k x).turn =CA x:=by
 unfold CG
 split
 ·exact .inr rfl
 ·exact .inl rfl
theorem O9 (n:Nat)(t y:List Nat)(c:t.length≤40)(b:∀x∈t,x<256)(a:0<n)(d:n<9223372036854775808)(f:CA y≤n):FV (Cz n t) y 2=⟨n,0,t⟩:=by
 show CG (CG ⟨0,0,[]⟩ 0 (Cz n t)) 1 y=_
 have e:CG ⟨0,0,[]⟩ 0 (Cz n t)=⟨n,0,t⟩:=by unfold CG;rw[JY _ _ _ c b d,Ay (by simpa using a),Gv _ _ (by omega),JX]
 rw[e];unfold CG;rw[QK _ _ f];rfl
theorem O8 (n:Nat)(t y:List Nat)(e:t.length≤40)(b:∀x∈t,x<256)(a:0<n)(f:n<9223372036854775808)(g:CA y<n):FV y (Cz n t) 2=⟨n,1,t⟩:=by
 show CG (CG ⟨0,0,[]⟩ 0 y) 1 (Cz n t)=_
 have d:(CG ⟨0,0,[]⟩ 0 y).turn <n:=by
  rcases Nx ⟨0,0,[]⟩ 0 y with h|h
  ·rw[h];exact a
  ·rw[h];exact g
 generalize CG ⟨0,0,[]⟩ 0 y=c at*;unfold CG;rw[JY _ _ _ e b f,Ay (by simpa using d),Gv _ _ (by omega),JX]
def Pair (L:List Sec)(at_ a turn:Nat)(b:List Nat):Prop:=
 ∃y,CA y<turn∧L[at_+a]?=some ⟨Cz turn b,Cz turn b,false⟩∧L[at_+(1-a)]?=some ⟨y,y,false⟩
theorem Pair.make (L:List Sec)(at_:Nat)(a:List Nat)(h:at_+1<L.length):Pair (((L.map flushSec).set (at_+1) zeroSec).set at_ ⟨Cz 1 a,Cz 1 a,false⟩) at_ 0 1 a:=by
 refine⟨List.replicate 64 0,by rw[Nw];omega, ?_, ?_⟩
 ·rw[show at_+0=at_ from rfl,Gm (by simp;omega)]
 ·rw[show at_+(1-0)=at_+1 from rfl,List.getElem?_set_ne (by omega),Gm (by simp;omega)]
  rfl
theorem Pair.save {L:List Sec}{at_ a turn:Nat}{c:List Nat}(h:Pair L at_ a turn c)(i:a≤1)(f:turn<18446744073709551616)(b:List Nat):
  Pair ((L.map flushSec).set (at_+(1-a)) ⟨Cz (turn+1) b,Cz (turn+1) b,false⟩) at_ (1-a) (turn+1) b:=by
 obtain⟨y,j,d,e⟩:=h;have g:=(Ai.1 e).1;refine⟨Cz turn c,by rw[Gv _ _ f];omega, ?_, ?_⟩
 ·rw[Gm (by simpa using g)]
 ·rw[show 1-(1-a)=a by omega,List.getElem?_set_ne (by omega),AN,d]
  rfl
theorem Hq (L:List Sec)(keep:List Bool)(i:Nat)(y:List Nat)(h:L[i]?=some ⟨y,y,false⟩):(De L keep L.length)[i]?=some ⟨y,y,false⟩:=by
 have b:=(Ai.1 h).1;unfold De;rw[AN,List.getElem?_range b];have a:L.getD i zeroSec=⟨y,y,false⟩:=by rw[Af,h];rfl
 show some (Ha (DU L keep i))=_;unfold DU Ha;rw[a];rfl
theorem Pair.crash {L:List Sec}{at_ a turn:Nat}{b:List Nat}(h:Pair L at_ a turn b)(keep:List Bool):Pair (De L keep L.length) at_ a turn b:=by obtain⟨y,e,c,d⟩:=h;exact⟨y,e,Hq _ _ _ _ c,Hq _ _ _ _ d⟩
theorem UK {w:World}{d sb:Nat}{L:List Sec}{c:Nat}(z:IsDev w d sb L c){at_ b turn:Nat}{a:List Nat}(h:Pair L at_ b turn a)(E:b≤1)
  (o:a.length≤40) (m:∀x∈a,x<256) (j:0<turn) (p:turn<9223372036854775808):
  Calls Tryz.prog 132 #[pr d 0,.int .i64 at_] w fun e i=>∃s,e=.returned (.tuple #[pr s 0,.int .i64 0])∧w.heap.size≤s∧Hy i s d at_ turn a b∧Keep [] w i:=by
 obtain⟨y,D,k,l⟩:=h
 have C:∃f g,L[at_]?=some f∧L[at_+1]?=some g∧FV f.now g.now 2=⟨turn,b,a⟩:=by
  rcases(show b=0∨b=1 by omega)with rfl|rfl
  ·exact⟨_,_,k,l,O9 turn a y o m j p (by omega)⟩
  ·exact⟨_,_,l,k,O8 turn a y o m j p D⟩
 obtain⟨f,g,q,t,e⟩:=C;refine(WJ z at_ f g q t).mono ?_;rintro r i ⟨A,n⟩;rw[e]at n;rcases n with⟨u,_⟩|⟨_,s,rfl,B,v⟩
 ·exact absurd u (by show¬turn=0;omega)
 ·exact⟨s,rfl,B,v,A⟩
abbrev SP (b e r:Int)(f:Bool):Value:= .agg #[.int .i64 b,.int .i64 e,.int .i64 r,.bool f]
def IP (b e r:Int)(f:Bool):List Value:=[.int .i64 b,.int .i64 e,.int .i64 r,.bool f]
def Ly (n:Int):Bool:=decide (0≤n)&&decide (n≤1099511627776)
def Ep (b e r:Int)(f:Bool):Bool:=Ly b&&(Ly e&&(Ly r&&((decide (r=0)||decide (e<r))&&(!f||decide (0<r)))))
theorem Fo (n:Int):Ly n=true↔0≤n∧n≤1099511627776:=by unfold Ly;rw[Ar,A0,A0]
theorem X2 {n:Int}(h:¬(0≤n∧n≤1099511627776)):Ly n=false:=by
 cases a:Ly n with
 |false=>rfl
 |true=>exact absurd ((Fo n).1 a) h
theorem MT {w:World}(b e r:Int)(f:Bool)(q:Bool)(hq:q=Ep b e r f):
  Calls Tryz.prog 208 #[SP b e r f] w fun x P=>x=.returned (.bool q)∧Keep [] w P:=by
 have z:=h_ hq;clear hq;go_enter Tryz.func208,Tryz.ntmps208;go_wp2_with fail;have m:Blk ((w.alloc (.cells (IP b e r f).toArray 49)).alloc (.cells (ints [b,e,r]).toArray 2)) w.heap.size (IP b e r f) 49:=(BY _ _ _).alloc _;have l:Blk ((w.alloc (.cells (IP b e r f).toArray 49)).alloc (.cells (ints [b,e,r]).toArray 2)) (w.heap.size+1) (ints [b,e,r]) 2:=Yt _ _ _ _ (by simp);have d:Keep [] w ((w.alloc (.cells (IP b e r f).toArray 49)).alloc (.cells (ints [b,e,r]).toArray 2)):=((By _ _).alloc _).alloc _;obtain⟨Q,G⟩:∃W,W=(w.alloc (.cells (IP b e r f).toArray 49)).alloc (.cells (ints [b,e,r]).toArray 2):=⟨_,rfl⟩;change Code.wp _ _ _ _ ((w.alloc (.cells (IP b e r f).toArray 49)).alloc (.cells (ints [b,e,r]).toArray 2));rw[←G]at m l d⊢;clear G;generalize w.heap.size+1=sb at*;generalize w.heap.size=xb at*;have M:=l.cell 0;have N:=l.cell 1;have O:=l.cell 2;simp only[ints,Br,Cy,List.getElem?_cons_succ,List.getElem?_cons_zero]at M N O;have R:=m.cell 1;have S:=m.cell 2;have T:=m.cell 3;simp only[IP,List.getElem?_cons_succ,List.getElem?_cons_zero]at R S T;clear m l
 have F:∀n:Int,n∈[b,e,r]→¬(0≤n∧n≤1099511627776)→q=false:=by intro n E h;have t:=X2 h;rw[z.out];unfold Ep;simp only[Ac,Am,AG]at E;rcases E with rfl|rfl|rfl<;>simp[t]
 have k:=h_ F;clear F
 go_loopw [13] (fun i wr=>∃j:Nat,j≤3∧i=.int .i64 j∧wr=Q∧(0<j→0≤b∧b≤1099511627776)∧(1<j→0≤e∧e≤1099511627776)∧(2<j→0≤r∧r≤1099511627776)) (fun i _=>3-(intOf i).toNat)
 case atStart=>exact⟨0,by omega,rfl,rfl,by omega,by omega,by omega⟩
 case round=>
  obtain⟨j,V,rfl,rfl,t,B,C⟩:=hrel;obtain⟨u,v,A⟩:=i_3 t B C;clear t B C;have K:j=0∨j=1∨j=2∨j=3:=by omega
  rcases K with rfl|rfl|rfl|rfl
  ·by_cases a:b<0
   ·have c:=k.out b (by simp) (by omega)
    have o:decide (b<0)=true:=An a;subst c;go_wp2;go_ret;exact⟨rfl,d⟩
   have o:decide (b<0)=false:=Ak a;by_cases g:1099511627776<b
   ·have c:=k.out b (by simp) (by omega)
    have p:decide (1099511627776<b)=true:=An g;subst c;go_wp2;go_ret;exact⟨rfl,d⟩
   have p:decide (1099511627776<b)=false:=Ak g;go_wp2
   go_roundw
   case rel=>exact⟨1,by omega,by first|rfl|trivial,by first|rfl|trivial,by intros;omega,by intros;omega,by intros;omega⟩
   case measure=>simp[intOf]
  ·by_cases a:e<0
   ·have c:=k.out e (by simp) (by omega)
    have o:decide (e<0)=true:=An a;subst c;go_wp2;go_ret;exact⟨rfl,d⟩
   have o:decide (e<0)=false:=Ak a;by_cases g:1099511627776<e
   ·have c:=k.out e (by simp) (by omega)
    have p:decide (1099511627776<e)=true:=An g;subst c;go_wp2;go_ret;exact⟨rfl,d⟩
   have p:decide (1099511627776<e)=false:=Ak g;go_wp2
   go_roundw
   case rel=>exact⟨2,by omega,by first|rfl|trivial,by first|rfl|trivial,by have:=u.out (by omega);intros;omega,by intros;omega,by intros;omega⟩
   case measure=>simp[intOf]
  ·by_cases a:r<0
   ·have c:=k.out r (by simp) (by omega)
    have o:decide (r<0)=true:=An a;subst c;go_wp2;go_ret;exact⟨rfl,d⟩
   have o:decide (r<0)=false:=Ak a;by_cases g:1099511627776<r
   ·have c:=k.out r (by simp) (by omega)
    have p:decide (1099511627776<r)=true:=An g;subst c;go_wp2;go_ret;exact⟨rfl,d⟩
   have p:decide (1099511627776<r)=false:=Ak g;go_wp2
   go_roundw
   case rel=>exact⟨3,by omega,by first|rfl|trivial,by first|rfl|trivial,by have:=u.out (by omega);intros;omega,by have:=v.out (by omega);intros;omega,by intros;omega⟩
   case measure=>simp[intOf]
  ·have H:=(Fo b).2 (u.out (by omega))
   have I:=(Fo e).2 (v.out (by omega));have J:=(Fo r).2 (A.out (by omega));have X:=(A.out (by omega)).1;have U:=(v.out (by omega)).1;have D:q=((decide (r=0)||decide (e<r))&&(!f||decide (0<r))):=by rw[z.out];unfold Ep;rw[H,I,J];rfl
   have s:=h_ D;clear H I J D;by_cases a:r=0
   ·subst a
    cases f
    ·have c:q=true:=by rw[s.out];rfl
     subst c;go_wp2;go_ret;exact⟨rfl,d⟩
    ·have c:q=false:=by rw[s.out];rfl
     subst c;go_wp2;go_ret;exact⟨rfl,d⟩
   have Y:(r==0)=false:=by simpa using a
   by_cases g:e<r
   ·have y:decide (e<r)=true:=An g
    have L:decide (0<r)=true:=An (by omega);have c:q=true:=by rw[s.out,y,L];simp
    subst c;cases f
    ·go_wp2
     go_ret;exact⟨rfl,d⟩
    ·go_wp2
     go_ret;exact⟨rfl,d⟩
   ·have y:decide (e<r)=false:=Ak g
    have c:q=false:=by rw[s.out,y,Ak a];rfl
    subst c;go_wp2;go_ret;exact⟨rfl,d⟩
def fN (f:Bool):Int:=if f=true then 1 else 0
theorem RL (f:Bool):II (fN f):=by cases f<;>(unfold fN II;simp)
def meText (b e r:Int)(f:Bool):List Nat:=BL [b,e,r,fN f]
theorem Jc {b e r:Int}{f:Bool}(h:∀n∈[b,e,r],II n):(meText b e r f).length ≤40:=by have:=Hc [b,e,r,fN f] (by intro n a;simp only[Ac,Am,AG]at a;rcases a with rfl|rfl|rfl|rfl;exact h _ (by simp);exact h _ (by simp);exact h _ (by simp);exact RL f);unfold meText;simpa using this
theorem Lx {w:World}(b e r:Int)(f:Bool)(hi:∀n∈[b,e,r],II n):
  Calls Tryz.prog 211 #[SP b e r f] w fun x k=>∃v,x=.returned v∧Buf k w.heap.size 5 v (meText b e r f)∧Keep [] w k:=by
 have c:=h_ hi;clear hi;go_enter Tryz.func211,Tryz.ntmps211;go_upto_if 5 with fail;go_cut [3] (fun s wc=>s=.int .i64 (fN f)∧Blk wc w.heap.size (IP b e r f) 49∧Keep [] w wc)
 case first=>
  cases f
  ·go_wp2_with fail
   go_meet;exact⟨rfl,BY _ _ _,(By _ _).alloc _⟩
  ·go_wp2_with fail
   go_meet;exact⟨rfl,BY _ _ _,(By _ _).alloc _⟩
 case rest=>
 obtain⟨rfl,a,d⟩:=hcut;have D:=d.size;have z:=a.cell 0;have A:=a.cell 1;have B:=a.cell 2;simp only[IP,List.getElem?_cons_succ,List.getElem?_cons_zero]at z A B;have i:=RL f;have h:∀n∈[b,e,r,fN f],II n:=by intro n j;simp only[Ac,Am,AG]at j;rcases j with rfl|rfl|rfl|rfl;exact c.out _ (by simp);exact c.out _ (by simp);exact c.out _ (by simp);exact i
 have g:meText b e r f=BL [b,e,r,fN f]:=rfl;obtain⟨m,l⟩:=i_2 g h;clear g h i a;generalize fN f=fn at*;go_wp2_with fail;have p:Rv (wc.alloc (.cells (ints [b,e,r,fn]).toArray 2)) 1 (.slice (some ⟨wc.heap.size,0,none⟩) [b,e,r,fn].length [b,e,r,fn].length) [b,e,r,fn].length (ints [b,e,r,fn]):=Ih (Yt _ _ _ _ (by simp)) rfl;refine(Ou w.heap.size (.slice none 0 0) [] _ [b,e,r,fn] (Y4 _ _ _) p (by intro _ q C t;cases t) l.out (by simp) (by simp;omega)).mono ?_;rintro x E ⟨v,rfl,o⟩;go_wp2;go_ret;refine⟨v,rfl, ?_,(d.alloc _).trans (o.keep.mono (by intro y u _;cases u))⟩;rw[m.out];have:=o.buf
 rwa [List.nil_append]at this
def WO (w:World)(k s d at_ turn a:Nat)(b e r:Int)(f:Bool):Prop:=
 Blk w k [pr s 0,.int .i64 b,.int .i64 e,.int .i64 r,.bool f] 116∧Hy w s d at_ turn (meText b e r f) a
theorem N4 (W:World):(Instr.build 49 #[]).run Tryz.prog W=.ok (SP 0 0 0 false) W:=DD W _ _ _ (by kernel_rfl)
theorem P4:(meText 0 0 0 false).length ≤40:=Jc (by intro n a;simp at a;subst a;exact⟨by omega,by omega⟩)
theorem Iq (b e r:Int)(f:Bool):∀c∈meText b e r f,c<256:=Io _
theorem JQ {b e r:Int}{f:Bool}(h:true=Ep b e r f):∀n∈[b,e,r],II n:=by
 have h:=h.symm;unfold Ep at h;simp only[Ar,Fo]at h;intro n a;simp only[Ac,Am,AG]at a;rcases a with rfl|rfl|rfl
 ·exact⟨by omega,by omega⟩
 ·exact⟨by omega,by omega⟩
 ·exact⟨by omega,by omega⟩
theorem Uc {w:World}{d sb:Nat}{L:List Sec}{c:Nat}(hd:IsDev w d sb L c)(at_:Nat)(hat:at_+1<L.length)(hc:c+5≤1099511627776):
  Calls Tryz.prog 161 #[pr d 0,.int .i64 at_] w fun x e=>∃k s,x=.returned (.tuple #[pr k 0,.int .i64 0])∧
   IsDev e d sb (((L.map flushSec).set (at_+1) zeroSec).set at_ ⟨Cz 1 (meText 0 0 0 false),Cz 1 (meText 0 0 0 false),false⟩) (c+5)∧WO e k s d at_ 1 0 0 0 0 false∧Keep [d,sb] w e∧w.heap.size≤k∧w.heap.size≤s:=by
 have A:=N4;have p:=hd.dev.lt;have r:=hd.secs.lt;go_enter Tryz.func161,Tryz.ntmps161;go_wp2_with fail;refine(Lx 0 0 0 false (by intro n g;simp at g;subst g;exact⟨by omega,by omega⟩)).mono ?_;rintro x B ⟨v,rfl,b,a⟩;have f:=hd.keep a (by simp) (by simp);have y:=a.size;go_wp2_with fail;refine(Ti f at_ hat v (meText 0 0 0 false) b.rd (Iq _ _ _ _) P4 hc (fun q o _=>by have:=b.lt q o;omega)).mono ?_;rintro x j ⟨s,rfl,m,h,i,u⟩;have l:Keep [d,sb] w j:=(a.mono (by simp)).trans i;have z:=i.size;have t:=h.lt;clear hd f b a;go_wp2;go_ret2;refine⟨j.heap.size,s,rfl,m.keep ((By [] _).alloc _) (by simp) (by simp),⟨BY _ _ _,h.keep ((By [] _).alloc _) (by simp) (by simp)⟩,l.alloc _,by omega,by omega⟩
def svD (j:World)(c k s:Nat)(b e r:Int)(f:Bool)(d g i:Int)(h:Bool)(l:Nat→Bool)(x:Nat→Value)(a:World):Prop:=
 (Blk a c (IP b e r f) 49)∧
 (Blk a k [pr s 0,.int .i64 d,.int .i64 g,.int .i64 i,.bool h] 116)∧
 (Keep [] j a)∧
 SlV l x 0 [some (SP b e r f),some (.bool true),some (.bool false),some (.bool false),some (pr c 0),some (.int .i64 b),some (pr k 0),some (pr k 0),some (pr k 1),some (pr k 1),some (.int .i64 d),some (.bool false),some (.bool false),some (.bool false),some (pr c 1),some (.int .i64 e),some (pr k 0),some (pr k 0),some (pr k 1),some (pr k 2),some (.int .i64 g),some (.bool false),some (.bool false),some (.bool false)]
def Ff (w:World)(s d at_ turn:Nat)(c:List Nat)(a:Nat):Prop:=
 ∃b,Blk w s [pr d 0,.int .i64 at_,.int .i64 turn,b,.int .i64 a] 209
theorem Hy.weak {w:World}{s d at_ turn:Nat}{b:List Nat}{a:Nat}(h:Hy w s d at_ turn b a):Ff w s d at_ turn b a:=by obtain⟨e,c,_⟩:=h;exact⟨e,c⟩
theorem Ff.keep' {w c:World}{s d at_ turn:Nat}{b:List Nat}{a:Nat}{S:List Nat}(h:Ff w s d at_ turn b a)(k:Keep S w c)(e:s∉S):Ff c s d at_ turn b a:=by obtain⟨g,f⟩:=h;exact⟨g,f.keep k e⟩
theorem Ff.keep {w c:World}{s d at_ turn:Nat}{b:List Nat}{a:Nat}{S:List Nat}(h:Ff w s d at_ turn b a)(k:Keep S w c)(e:s∉S)(_:∀x∈S,¬Ty w x 5):Ff c s d at_ turn b a:=h.keep' k e
theorem Ff.lt {w:World}{s d at_ turn:Nat}{c:List Nat}{b:Nat}(h:Ff w s d at_ turn c b):s<w.heap.size:=by obtain⟨e,a⟩:=h;exact a.lt
theorem Ff.ty {w:World}{s d at_ turn:Nat}{c:List Nat}{b:Nat}(h:Ff w s d at_ turn c b):Ty w s 209:=by obtain⟨e,a⟩:=h;exact a.ty
def IsKep0 (w:World)(k s d at_ turn a:Nat)(b e r:Int)(f:Bool):Prop:=
 Blk w k [pr s 0,.int .i64 b,.int .i64 e,.int .i64 r,.bool f] 116∧Ff w s d at_ turn (meText b e r f) a
theorem WO.weak {w:World}{k s d at_ turn a:Nat}{b e r:Int}{f:Bool}(h:WO w k s d at_ turn a b e r f):IsKep0 w k s d at_ turn a b e r f:=⟨h.1,h.2.weak⟩
theorem IsKep0.keep' {w g:World}{k s d at_ turn c:Nat}{b e r:Int}{f:Bool}{S:List Nat}(h:IsKep0 w k s d at_ turn c b e r f)(a:Keep S w g)(i:k∉S)(j:s∉S):IsKep0 g k s d at_ turn c b e r f:=
 ⟨h.1.keep a i,h.2.keep' a j⟩
theorem WI {w:World}{s d sb:Nat}{L:List Sec}{c:Nat}{at_ turn:Nat}{text0:List Nat}{slot:Nat}(hd:IsDev w d sb L c)(hs:Ff w s d at_ turn text0 slot)(bv:Value)(text:List Nat)
  (hr:Rd w bv text) (hb:∀c∈text,c<256) (hl:text.length≤40) (hslot:slot≤1) (hat:at_+1<L.length) (hn:turn+1<9223372036854775808) (hc:c+2≤1099511627776)
  (hlo:∀b,bv.ownBlock=some b→0<text.length→b<w.heap.size∧b≠d∧b≠sb∧b≠s):
  Calls Tryz.prog 212 #[pr s 0,bv] w fun e f=>e=.returned (.int .i64 0)∧IsDev f d sb ((L.map flushSec).set (at_+(1-slot)) ⟨Cz (turn+1) text,Cz (turn+1) text,false⟩) (c+2)∧
   Ff f s d at_ (turn+1) text (1-slot)∧Keep [d,sb,s] w f:=by
 obtain⟨x,a⟩:=hs;have g:=hr;obtain⟨_,m,n,rfl,_,_⟩:=hr;have A:(text.length:Int)≤40:=by omega
 have o:=a.cell 2;have p:=a.cell 4;simp only[List.getElem?_cons_succ,List.getElem?_cons_zero]at o p;have j:=fun W (k:Keep [] w W)=>M4 at_ (1-slot) turn x slot (turn+1) (.slice m text.length n) text (hd.keep k (by simp) (by simp)) (a.keep k (by simp)) (g.keep k (by simp)) hb hl (by omega) (by omega) hc (fun b h i=>⟨by have:=(hlo b h i).1;have:=k.size;omega,(hlo b h i).2⟩)
 have l:=h_ j;have u:((1-slot:Nat):Int)=1-(slot:Int):=by omega
 have v:((turn+1:Nat):Int)=(turn:Int)+1:=by omega
 clear j hlo g;go_enter Tryz.func212,Tryz.ntmps212;go_wp2_with fail;refine BJ 12 (by kernel_rfl) (by kernel_rfl) ?_;simp only[List.take_succ_cons,List.take_zero,BB,Bj]
 repeat still_step
 refine Du ?_;go_wp2_with fail;rw[←u,←v];refine(l.out _ (By [] _).drew).mono ?_;rintro e B ⟨rfl,r,⟨y,q,z⟩,t⟩;go_wp2;go_ret;exact⟨rfl,r,⟨y,q⟩,(By _ _).drew.trans t⟩
theorem Ir {w:World}{k s d at_ turn n:Nat}{b e r:Int}{f:Bool}(m:IsKep0 w k s d at_ turn n b e r f):
  Calls Tryz.prog 22 #[pr k 0] w fun x o=>x=.returned (SP b e r f)∧Keep [] w o:=by
 obtain⟨a,_⟩:=m;go_enter Tryz.func22,Tryz.ntmps22;have c1:=(a.alloc (.cells (IP 0 0 0 false).toArray 49)).cell 1;have c2:=(a.alloc (.cells (IP 0 0 0 false).toArray 49)).cell 2;have c3:=(a.alloc (.cells (IP 0 0 0 false).toArray 49)).cell 3;have c4:=(a.alloc (.cells (IP 0 0 0 false).toArray 49)).cell 4;have p:=BY w (IP 0 0 0 false) 49;simp only[List.getElem?_cons_zero,List.getElem?_cons_succ]at c1 c2 c3 c4;unfold IP at c1 c2 c3 c4;have q:=a.lt;go_wp2_with fail;have c:=BY w (IP b e r f) 49;have l:=(By [] w).alloc (.cells (IP b e r f).toArray 49);change bodyPost _ _ _ _ _ (w.alloc (.cells (IP b e r f).toArray 49));generalize w.alloc (.cells (IP b e r f).toArray 49)=w5 at*;refine Be (v:=SP b e r f) ?_ rfl ⟨rfl,l⟩;have g:=c.cell 0;have h:=c.cell 1;have i:=c.cell 2;have j:=c.cell 3;simp only[IP,List.getElem?_cons_zero,List.getElem?_cons_succ]at g h i j;simp[results,Tryz.results22,go_sem,g,h,i,j]
def svE0 (n:World)(o k s d sb at_ turn g c:Nat)(L:List Sec)(b e r:Int)(f:Bool)(h i m:Int)(j:Bool)(l:Nat→Bool)(x:Nat→Value)(a:World):Prop:=
 (Blk a o (IP b e r f) 49)∧
 (Blk a k [pr s 0,.int .i64 h,.int .i64 i,.int .i64 m,.bool j] 116)∧
 (l 6=false→IsDev a d sb L c∧Ff a s d at_ turn (meText h i m j) g)∧
 (l 6=true→IsDev a d sb ((L.map flushSec).set (at_+(1-g)) ⟨Cz (turn+1) (meText b e r f),Cz (turn+1) (meText b e r f),false⟩) (c+2)∧Ff a s d at_ (turn+1) (meText b e r f) (1-g))∧
 (Keep [d,sb,s] n a)∧
 (l 5=true→Buf a n.heap.size 5 (x 5) (meText b e r f))∧
 SlV l x 0 [some (pr k 0),some (pr k 0),some (pr k 0),some (pr s 0),some (SP b e r f),none,some (.int .i64 0),some (.int .i64 0)]
theorem Jd {w:World}{d sb:Nat}{L:List Sec}{c:Nat}(E:IsDev w d sb L c){k s at_ turn slot:Nat}{b0 e0 r0:Int}{f0:Bool}(hk:IsKep0 w k s d at_ turn slot b0 e0 r0 f0)(b e r:Int)(f:Bool)
  (v:true=Ep b e r f) (hb0:b0≤b) (he0:e0≤e) (hslot:slot≤1) (hat:at_+1<L.length) (hn:turn+1<9223372036854775808) (hc:c+2≤1099511627776):
  Calls Tryz.prog 188 #[pr k 0,SP b e r f] w fun x I=>x=.returned (.int .i64 0)∧
   IsDev I d sb ((L.map flushSec).set (at_+(1-slot)) ⟨Cz (turn+1) (meText b e r f),Cz (turn+1) (meText b e r f),false⟩) (c+2)∧IsKep0 I k s d at_ (turn+1) (1-slot) b e r f∧Keep [d,sb,s,k] w I:=by
 have HQ:=h_ v;have HI:=h_ (JQ v);have ab:=h_ (Jc (f:=f) (JQ v));have p1:decide (b<b0)=false:=Ak (by omega);have p2:decide (e<e0)=false:=Ak (by omega);clear v hb0 he0;obtain⟨g,J⟩:=hk;go_enter Tryz.func188,Tryz.ntmps188;go_wp2_with fail;have Q:=BY w (IP b e r f) 49;have O:=g.alloc (.cells (IP b e r f).toArray 49);have G:=(By [] w).alloc (.cells (IP b e r f).toArray 49);obtain⟨w1,aa⟩:∃W,W=w.alloc (.cells (IP b e r f).toArray 49):=⟨_,rfl⟩;change Code.wp _ _ _ _ (w.alloc (.cells (IP b e r f).toArray 49));rw[←aa]at Q O G⊢;have X:=E.keep G (by simp) (by simp);have Y:=J.keep G (by simp) (by simp);clear aa E J g;generalize w.heap.size=xb at*;refine wI (svD w1 xb k s b e r f b0 e0 r0 f0) ?aS (.s ?a0<|.s ?a1<|.s ?a2<|.s ?a3<|.s ?a4<|.s ?a5<|.s ?a6<|.s ?a7<|.s ?a8<|.s ?a9<|.s ?a10<|.s ?a11<|.s ?a12<|.s ?a13<|.s ?a14<|.s ?a15<|.s ?a16<|.s ?a17<|.s ?a18<|.s ?a19<|.s ?a20<|.s ?a21<|.s ?a22<|.s ?a23<|.n) 24 ?aF
 case aS=>intro x;exact⟨Q.drew,O.drew,(By _ _).drew,Yr⟩
 case aF=>
  intro l x M B F;obtain⟨i,g,j,vS⟩:=B;have S:=vS.a 23 (F 23 (by decide)) rfl;simp only[Al,Act.put,A8,A7,A6,S];have K:=G.trans j;clear S F;have Z:=i;have V:=g;have p:=X.keep j (by simp) (by simp);have C:=Y.keep j (by simp) (by simp);have K3:=K;have R:=h_ (show xb≠d∧xb≠sb∧xb≠s∧k≠d∧k≠sb∧k≠s∧k≠xb∧d<M.heap.size∧sb<M.heap.size∧s<M.heap.size from⟨i.ty.ne p.dev.ty (by decide),i.ty.ne p.secs.ty (by decide),i.ty.ne C.ty (by decide),g.ty.ne p.dev.ty (by decide),g.ty.ne p.secs.ty (by decide),g.ty.ne C.ty (by decide),g.ty.ne i.ty (by decide),p.dev.lt,p.secs.lt,C.lt⟩);clear Q O G j K i g X Y vS;go_wp2_with fail;refine wI (svE0 M xb k s d sb at_ turn slot c L b e r f b0 e0 r0 f0) ?bS (.s ?b0<|.s ?b1<|.s ?b2<|.s ?b3<|.s ?b4<|.s ?b5<|.s ?b6<|.s ?b7<|.n) 8 ?bF
  case bS=>intro x;exact⟨Z.drew,V.drew,fun _=>⟨p.keep ((By [] _).drew) (by simp) (by simp),C.keep ((By [] _).drew) (by simp) (by simp)⟩,fun h=>absurd h (by decide),(By _ _).drew,fun h=>absurd h (by decide),Yr⟩
  case bF=>intro l x w4 B F;obtain⟨i,g,z,A,j,u,vS⟩:=B;have U:=vS.a 7 (F 7 (by decide)) rfl;obtain⟨ad,ae⟩:=A (F 6 (by decide));simp only[Al,Act.put,A8,A7,A6,U];clear u U F z A Z V p C vS;have x0:=i.cell 0;have x1:=i.cell 1;have N:=i.cell 2;have x3:=i.cell 3;have g1:=g.cell 1;have g2:=g.cell 2;have g3:=g.cell 3;have g4:=g.cell 4;have f1:=g.free 1;have f2:=g.free 2;have f3:=g.free 3;have f4:=g.free 4;simp only[IP,List.getElem?_cons_zero,List.getElem?_cons_succ]at x0 x1 N x3 g1 g2 g3 g4;go_wp2;go_ret;have ac:=(((g.set 1 (.int .i64 b)).set 2 (.int .i64 e)).set 3 (.int .i64 r)).set 4 (.bool f);have P:Keep [k] w4 ((((w4.setCell ⟨k,1,none⟩ (.int .i64 b)).setCell ⟨k,2,none⟩ (.int .i64 e)).setCell ⟨k,3,none⟩ (.int .i64 r)).setCell ⟨k,4,none⟩ (.bool f)):=((((By _ _).setCell (.inl (by simp)) _).setCell (.inl (by simp)) _).setCell (.inl (by simp)) _).setCell (.inl (by simp)) _;have ag:=R.out;refine⟨rfl,ad.keep P (by simp;omega) (by simp;omega),⟨ac,ae.keep P (by simp;omega) (by intro y hy;simp at hy;subst hy;exact fun h=>g.ty.ne h (by decide) rfl)⟩, ?_⟩;exact(K3.mono (by simp)).trans ((j.mono (by simp)).trans (P.mono (by simp)))
  all_goals
   intro l x I B hi E;obtain⟨i,g,z,A,j,u,vS⟩:=B;have D:=vS;have t:=E;simp only[SlV]at D
   try simp[BD,Region.binds]at t
   refine Oq.of (by simp only[Al,Act.put,A8,A7,A6,t,D];rfl) ?_;clear t D;intro K' o
  case b3=>have H:=g.cell 0;simp only[List.getElem?_cons_zero]at H;go_simp;exact o.go _ rfl ⟨i,g,z,A,j,u,vS.r⟩
  case b4=>have H:=i.cell 0;have c1:=i.cell 1;have c2:=i.cell 2;have c3:=i.cell 3;simp only[IP,List.getElem?_cons_zero,List.getElem?_cons_succ]at H c1 c2 c3;go_simp;exact o.go _ rfl ⟨i,g,z,A,j,u,vS.r⟩
  case b5=>go_simp;refine(Lx b e r f HI.out).mono ?_;rintro N w2 ⟨v2,rfl,af,m⟩;go_simp;exact o.go v2 rfl ⟨i.keep m (by simp),g.keep m (by simp),fun h=>⟨(z h).1.keep m (by simp) (by simp),(z h).2.keep m (by simp) (by simp)⟩,fun h=>⟨(A h).1.keep m (by simp) (by simp),(A h).2.keep m (by simp) (by simp)⟩,j.trans (m.mono (by simp)),fun _=>af.mono j.size,vS.s rfl⟩
  case b6=>have T:=u (E.at rfl);go_simp;obtain⟨t,J⟩:=z hi;have ag:=R.out;refine(WI t J (x 5) (meText b e r f) T.rd (Iq _ _ _ _) ab.out hslot hat hn hc (fun q v _=>by have:=T.lt q v;omega)).mono ?_;rintro N w2 ⟨rfl,p,C,m⟩;go_simp;exact o.go _ rfl ⟨i.keep m (by simp;omega),g.keep m (by simp;omega),fun h=>Bool.noConfusion (show true=false from h),fun _=>⟨p,C⟩,j.trans m,fun h=>(u h).keep m (fun q v=>by have:=(u h).lt q v;simp;omega),vS.r⟩
  all_goals go_simp;exact o.go _ rfl ⟨i,g,z,A,j,u,vS.r⟩
 all_goals
  intro l x I B hi E;obtain⟨i,g,j,vS⟩:=B;have D:=vS;have t:=E;simp only[SlV]at D
  try simp[BD,Region.binds]at t
  refine Oq.of (by simp only[Al,Act.put,A8,A7,A6,t,D];rfl) ?_;clear t D;intro K' o
 case a0=>have H:=i.cell 0;have c1:=i.cell 1;have c2:=i.cell 2;have c3:=i.cell 3;simp only[IP,List.getElem?_cons_zero,List.getElem?_cons_succ]at H c1 c2 c3;go_simp;exact o.go _ rfl ⟨i,g,j,vS.r⟩
 case a1=>go_simp;refine(MT b e r f _ HQ.out).mono ?_;rintro N w2 ⟨rfl,m⟩;go_simp;exact o.go _ rfl ⟨i.keep m (by simp),g.keep m (by simp),j.trans m,vS.r⟩
 case a5=>have c:=i.cell 0;simp only[IP,List.getElem?_cons_zero,List.getElem?_cons_succ]at c;go_simp;exact o.go _ rfl ⟨i,g,j,vS.r⟩
 case a10=>have c:=g.cell 1;simp only[List.getElem?_cons_zero,List.getElem?_cons_succ]at c;go_simp;exact o.go _ rfl ⟨i,g,j,vS.r⟩
 case a15=>have c:=i.cell 1;simp only[IP,List.getElem?_cons_zero,List.getElem?_cons_succ]at c;go_simp;exact o.go _ rfl ⟨i,g,j,vS.r⟩
 case a20=>have c:=g.cell 2;simp only[List.getElem?_cons_zero,List.getElem?_cons_succ]at c;go_simp;exact o.go _ rfl ⟨i,g,j,vS.r⟩
 all_goals go_simp;exact o.go _ rfl ⟨i,g,j,vS.r⟩
def rfC (n p:Nat)(s:Nat×Nat):Bool:=decide (s.1=0)||(decide (p<s.2)||(decide (p=s.2)&&decide (n<s.1)))
def rfLow (n p:Nat)(s:Nat×Nat):Nat×Nat:=if rfC n p s=true then(n,p)else s
def rfBest (h n p:Nat)(s:Nat×Nat):Nat×Nat:=if(decide (h≤p)&&rfC n p s)=true then(n,p)else s
def rfGo (h n:Nat):Nat→(Nat×Nat)×(Nat×Nat)→(Nat×Nat)×(Nat×Nat)
 |0,s=>s
 |k+1,s=>(rfBest h n (MM n k) (rfGo h n k s).1,rfLow n (MM n k) (rfGo h n k s).2)
def rfAt (h:Nat):Nat→(Nat×Nat)×(Nat×Nat)
 |0=>((0,0),(0,0))
 |i+1=>rfGo h (i+1) 8 (rfAt h i)
def refOwner (h:Nat):Nat:=if(rfAt h 2).1.1 =0 then(rfAt h 2).2.1 else(rfAt h 2).1.1
section
variable {w:World}
theorem RefNodes_12 {g cap:Nat}(q:w.cell? ⟨g,0,none⟩=some (.int .i64 1))(r:w.cell? ⟨g,1,none⟩=some (.int .i64 2)):Calls Tryz.prog 55 #[.slice (some ⟨g,0,none⟩) 2 cap] w fun e B=>e=.returned (.bool true)∧Keep [] w B:=by
 have f:=h_2 q r;clear q r;go_enter Tryz.func55,Tryz.ntmps55;go_wp2
 go_loopw [3] (fun p wr=>(p=.int .i64 0∨p=.int .i64 1∨p=.int .i64 2)∧Keep [] w wr) (fun x _=>3-(intOf x).toNat)
 case atStart=>exact⟨.inl rfl,By _ _⟩
 case round=>
 obtain⟨v,t⟩:=hrel;have h:=h_ t;clear t;rcases v with rfl|rfl|rfl
 ·go_wp2_with fail
  refine wK (A:=[0,0,3,7,15,31,63,63,255,511,1023,2047,4095,8191,16383,32767,65535,65535,262143,524287,65535,65535,2162687,7405567,15794175,33554431,67108863,134217727]) 0 [.slice (some ⟨g,0,none⟩) 2 cap,.int .i64 0,pr g 0,.int .i64 1,.bool false,.bool false,.slice (some ⟨g,0,none⟩) 2 cap,.int .i64 0,pr g 0,.int .i64 1,.bool false,.bool false,.bool false,.int .i64 0,.bool false,.bool false,undef,undef,undef,undef,undef,undef,undef,undef,undef,undef,.bool false,.bool false] (fun _ W=>Keep [] w W) ?mstart (.s ?m0<|.s ?m1<|.s ?m2<|.s ?m3<|.s ?m4<|.s ?m5<|.s ?m6<|.s ?m7<|.s ?m8<|.s ?m9<|.s ?m10<|.s ?m11<|.s ?m12<|.s ?m13<|.s ?m14<|.s ?m15<|.s ?m16<|.s ?m17<|.s ?m18<|.s ?m19<|.s ?m20<|.s ?m21<|.s ?m22<|.s ?m23<|.s ?m24<|.s ?m25<|.s ?m26<|.s ?m27<|.nil) ?mfin
  case mstart=>exact h.out.drew
  case mfin=>
   intro L C a n;have i:=h_ a;clear a n;simp[Al,Act.put];go_wp2
   go_roundw
   case rel=>exact⟨.inr (.inl rfl),i.out⟩
   case measure=>decide
  all_goals intro L D W a k o m d b c u l;clear k o m;have j:=h_ a;have y:=a.cell1' f.out.1;have z:=a.cell1' f.out.2;clear a;simp at d;simp only[Al,Act.put,A8,A7,A6,d]at c;subst c;go_simp;exact l _ _ rfl j.out
 ·go_wp2_with fail
  refine wK (A:=[0,0,3,7,15,31,63,63,255,511,1023,2047,4095,8191,16383,32767,65535,65535,262143,524287,65535,65535,2162687,7405567,15794175,33554431,67108863,134217727]) 0 [.slice (some ⟨g,0,none⟩) 2 cap,.int .i64 1,pr g 1,.int .i64 2,.bool false,.bool false,.slice (some ⟨g,0,none⟩) 2 cap,.int .i64 1,pr g 1,.int .i64 2,.bool false,.bool false,.bool false,.int .i64 1,.bool true,.bool true,.slice (some ⟨g,0,none⟩) 2 cap,.int .i64 1,pr g 1,.int .i64 2,.slice (some ⟨g,0,none⟩) 2 cap,.int .i64 1,.int .i64 0,pr g 0,.int .i64 1,.bool false,.bool false,.bool false] (fun _ W=>Keep [] w W) ?nstart (.s ?n0<|.s ?n1<|.s ?n2<|.s ?n3<|.s ?n4<|.s ?n5<|.s ?n6<|.s ?n7<|.s ?n8<|.s ?n9<|.s ?n10<|.s ?n11<|.s ?n12<|.s ?n13<|.s ?n14<|.s ?n15<|.s ?n16<|.s ?n17<|.s ?n18<|.s ?n19<|.s ?n20<|.s ?n21<|.s ?n22<|.s ?n23<|.s ?n24<|.s ?n25<|.s ?n26<|.s ?n27<|.nil) ?nfin
  case nstart=>exact h.out.drew
  case nfin=>
   intro L C a n;have i:=h_ a;clear a n;simp[Al,Act.put];go_wp2
   go_roundw
   case rel=>exact⟨.inr (.inr rfl),i.out⟩
   case measure=>decide
  all_goals intro L D W a k o m d b c u l;clear k o m;have j:=h_ a;have y:=a.cell1' f.out.1;have z:=a.cell1' f.out.2;clear a;simp at d;simp only[Al,Act.put,A8,A7,A6,d]at c;subst c;go_simp;exact l _ _ rfl j.out
 ·go_wp2
  go_ret;exact⟨rfl,h.out⟩
theorem RefOwner_12 {g cap:Nat}(h:Nat)(J:w.cell? ⟨g,0,none⟩=some (.int .i64 1))(K:w.cell? ⟨g,1,none⟩=some (.int .i64 2)):Calls Tryz.prog 43 #[.slice (some ⟨g,0,none⟩) 2 cap,.int .u64 (h:Int)] w fun e w'=>e=.returned (.int .i64 (refOwner h:Int))∧Keep [] w w':=by
 have R:=h_ (RefNodes_12 (cap:=cap) J K)
 have HC:Hid (∀W,Keep [] w W→∀i,i<2→W.cell? ⟨g,i,none⟩=some (.int .i64 ((i+1:Nat):Int))):=h_ (fun W k i V=>by
  rcases(by omega:i=0∨i=1)with rfl|rfl
  ·exact k.cell1' J
  ·exact k.cell1' K)
 clear J K;go_enter Tryz.func43,Tryz.ntmps43;go_wp2_with fail;refine R.out.mono ?_;rintro e w2 ⟨rfl,Y⟩;have F:=h_ Y;clear R Y;go_wp2
 go_loopw [9,10,11,5,6,7,8] (fun s9 aa ac N v O y wr=>∃i:Nat,s9=.int .i64 (i:Int)∧i≤2∧N=.int .i64 ((rfAt h i).1.1 :Int)∧v=.int .i64 ((rfAt h i).2.1 :Int)∧O=.int .u64 ((rfAt h i).1.2 :Int)∧y=.int .u64 ((rfAt h i).2.2 :Int)∧Keep [] w wr) (fun x _ _ _ _ _ _ _=>3-(intOf x).toNat)
 case atStart=>exact⟨0,rfl,AA _,rfl,rfl,rfl,rfl,F.out⟩
 case round=>
 obtain⟨i,rfl,V,rfl,rfl,rfl,rfl,p⟩:=hrel;by_cases r:i<2
 ·have Z:(i:Int)<2:=by omega
  have ag:decide ((i:Int)<2)=true:=An Z;obtain⟨s,M⟩:∃s,s=rfAt h i:=⟨_,rfl⟩;have S:Hid (rfAt h (i+1)=rfGo h (i+1) 8 s):=h_ (by rw[M];rfl);rw[←M];have E:=h_ r;obtain⟨n,L⟩:∃n,n=i+1:=⟨_,rfl⟩;rw[←L]at S;have u:=h_ L;have af:n≤2:=by omega
  have z:=h_ p;clear M V r L p F;go_wp2_with fail
  rename World=>wo
  go_loopw [10,11,5,6,7,8] (fun aa ac N v O y wr=>∃k:Nat,aa=.int .i64 (k:Int)∧k≤8∧N=.int .i64 ((rfGo h n k s).1.1 :Int)∧v=.int .i64 ((rfGo h n k s).2.1 :Int)∧O=.int .u64 ((rfGo h n k s).1.2 :Int)∧y=.int .u64 ((rfGo h n k s).2.2 :Int)∧Keep [] w wr) (fun x _ _ _ _ _ _=>9-(intOf x).toNat)
  case atStart=>exact⟨0,rfl,AA _,rfl,rfl,rfl,rfl,z.out⟩
  case round=>
  obtain⟨k,rfl,p,rfl,rfl,rfl,rfl,X⟩:=hrel;have A:=h_ X;clear X;by_cases r:k<8
  ·have q1:(k:Int)<8:=by omega
   have ah:decide ((k:Int)<8)=true:=An q1;have r0:=HC.out wr A.out i E.out;rw[←u.out]at r0;have G:=h_ (RefPoint_any (w:=wr) n k (by omega) (by omega));have d:Hid (rfGo h n (k+1) s=(rfBest h n (MM n k) (rfGo h n k s).1,rfLow n (MM n k) (rfGo h n k s).2)):=h_ rfl;obtain⟨P,U⟩:∃P,P=MM n k:=⟨_,rfl⟩;rw[←U]at G d;obtain⟨⟨⟨b,at_⟩,l,lo⟩,m⟩:∃t,t=rfGo h n k s:=⟨_,rfl⟩;rw[←m]at d⊢;have B:=h_ r;clear U m r p;simp only at d⊢;go_wp2_with fail;refine G.out.mono ?_;rintro e Q ⟨rfl,rfl⟩;clear G;go_upto_region 12 with fail;go_cut [50] (fun ad wc=>ad=.bool (rfC n P (l,lo))∧Q=wc)
   case first=>
    by_cases c1:l=0
    ·skip
     have e:rfC n P (l,lo)=true:=by unfold rfC;simp;omega
     have f:((l:Int)==0)=true:=by simp;omega
     have j:(l:Int)=0:=by omega
     have a:=h_ e;clear e c1;go_wp2_with fail;go_meet;exact⟨by rw[a.out],rfl⟩
    ·by_cases c2:P<lo
     ·skip
      have e:rfC n P (l,lo)=true:=by unfold rfC;simp;omega
      have f:((l:Int)==0)=false:=by simp;omega
      have j:¬(l:Int)=0:=by omega
      have H:(P:Int)<(lo:Int):=by omega
      have a:=h_ e;clear e c1 c2;go_wp2_with fail;go_meet;exact⟨by rw[a.out],rfl⟩
     ·by_cases c3:P=lo
      ·by_cases c4:n<l
       ·skip
        have e:rfC n P (l,lo)=true:=by unfold rfC;simp;omega
        have f:((l:Int)==0)=false:=by simp;omega
        have j:¬(l:Int)=0:=by omega
        have I:(n:Int)<(l:Int):=by omega
        clear c4;subst c3;have a:=h_ e;clear e c1 c2;go_wp2_with fail;go_meet;exact⟨by rw[a.out],rfl⟩
       ·skip
        have e:rfC n P (l,lo)=false:=by unfold rfC;simp;omega
        have f:((l:Int)==0)=false:=by simp;omega
        have j:¬(l:Int)=0:=by omega
        have I:¬(n:Int)<(l:Int):=by omega
        clear c4;subst c3;have a:=h_ e;clear e c1 c2;go_wp2_with fail;go_meet;exact⟨by rw[a.out],rfl⟩
      ·skip
       have e:rfC n P (l,lo)=false:=by unfold rfC;simp;omega
       have f:((l:Int)==0)=false:=by simp;omega
       have j:¬(l:Int)=0:=by omega
       have H:¬(P:Int)<(lo:Int):=by omega
       have d3:((P:Int)==(lo:Int))=false:=by simp;omega
       have ab:¬(P:Int)=(lo:Int):=by omega
       have a:=h_ e;clear e c1 c2 c3;go_wp2_with fail;go_meet;exact⟨by rw[a.out],rfl⟩
   case rest=>
   obtain⟨rfl,rfl⟩:=hcut;go_upto_if 50 with fail;go_cut [6,8] (fun v y wc=>v=.int .i64 ((rfLow n P (l,lo)).1 :Int)∧y=.int .u64 ((rfLow n P (l,lo)).2 :Int)∧Q=wc)
   case first=>
    cases c:rfC n P (l,lo)with
    |true=>
     have e:rfLow n P (l,lo)=(n,P):=by unfold rfLow;rw[Ay c]
     have a:=h_ e;clear c e;go_wp2_with fail;go_meet;exact⟨by rw[a.out],by rw[a.out],rfl⟩
    |false=>
     have e:rfLow n P (l,lo)=(l,lo):=by unfold rfLow;rw[Aw (by rw[c];decide)]
     have a:=h_ e;clear c e;go_wp2_with fail;go_meet;exact⟨by rw[a.out],by rw[a.out],rfl⟩
   case rest=>
   obtain⟨rfl,rfl,rfl⟩:=hcut;generalize rfLow n P (l,lo)=lw at*;go_upto_region 14 with fail;go_cut [80] (fun ae wc=>ae=.bool (decide (h≤P)&&rfC n P (b,at_))∧Q=wc)
   case first=>
    by_cases D:h≤P
    ·have d0:(h:Int)≤(P:Int):=by omega
     have T:decide (h≤P)=true:=An D;have o:=h_ T;clear T D;by_cases c1:b=0
     ·skip
      have e:rfC n P (b,at_)=true:=by unfold rfC;simp;omega
      have f:((b:Int)==0)=true:=by simp;omega
      have j:(b:Int)=0:=by omega
      have a:=h_ e;clear e c1;go_wp2_with fail;go_meet;exact⟨by rw[o.out,Dx,a.out],rfl⟩
     ·by_cases c2:P<at_
      ·skip
       have e:rfC n P (b,at_)=true:=by unfold rfC;simp;omega
       have f:((b:Int)==0)=false:=by simp;omega
       have j:¬(b:Int)=0:=by omega
       have H:(P:Int)<(at_:Int):=by omega
       have a:=h_ e;clear e c1 c2;go_wp2_with fail;go_meet;exact⟨by rw[o.out,Dx,a.out],rfl⟩
      ·by_cases c3:P=at_
       ·by_cases c4:n<b
        ·skip
         have e:rfC n P (b,at_)=true:=by unfold rfC;simp;omega
         have f:((b:Int)==0)=false:=by simp;omega
         have j:¬(b:Int)=0:=by omega
         have I:(n:Int)<(b:Int):=by omega
         clear c4;subst c3;have a:=h_ e;clear e c1 c2;go_wp2_with fail;go_meet;exact⟨by rw[o.out,Dx,a.out],rfl⟩
        ·skip
         have e:rfC n P (b,at_)=false:=by unfold rfC;simp;omega
         have f:((b:Int)==0)=false:=by simp;omega
         have j:¬(b:Int)=0:=by omega
         have I:¬(n:Int)<(b:Int):=by omega
         clear c4;subst c3;have a:=h_ e;clear e c1 c2;go_wp2_with fail;go_meet;exact⟨by rw[o.out,Dx,a.out],rfl⟩
       ·skip
        have e:rfC n P (b,at_)=false:=by unfold rfC;simp;omega
        have f:((b:Int)==0)=false:=by simp;omega
        have j:¬(b:Int)=0:=by omega
        have H:¬(P:Int)<(at_:Int):=by omega
        have d3:((P:Int)==(at_:Int))=false:=by simp;omega
        have ab:¬(P:Int)=(at_:Int):=by omega
        have a:=h_ e;clear e c1 c2 c3;go_wp2_with fail;go_meet;exact⟨by rw[o.out,Dx,a.out],rfl⟩
    ·have d0:¬(h:Int)≤(P:Int):=by omega
     have o:Hid (decide (h≤P)=false):=h_ (Ak D);clear D;go_wp2_with fail;go_meet;exact⟨by rw[o.out,Bool.false_and],rfl⟩
   case rest=>
   obtain⟨rfl,rfl⟩:=hcut
   cases c:(decide (h≤P)&&rfC n P (b,at_))with
   |true=>
    have e:rfBest h n P (b,at_)=(n,P):=by unfold rfBest;rw[Ay c]
    have a:=h_ e;clear c e;go_wp2
    go_roundw
    case rel=>exact⟨k+1,by go_num,by have:=B.out;omega,by rw[d.out,a.out],by rw[d.out],by rw[d.out,a.out],by rw[d.out],A.out⟩
    case measure=>simp only[intOf];have:=B.out;omega
   |false=>
    have e:rfBest h n P (b,at_)=(b,at_):=by unfold rfBest;rw[Aw (by rw[c];decide)]
    have a:=h_ e;clear c e;go_wp2
    go_roundw
    case rel=>exact⟨k+1,by go_num,by have:=B.out;omega,by rw[d.out,a.out],by rw[d.out],by rw[d.out,a.out],by rw[d.out],A.out⟩
    case measure=>simp only[intOf];have:=B.out;omega
  ·obtain rfl:k=8:=by omega
   have q1:¬(8:Int)<8:=by omega
   rw[←S.out];obtain⟨t,m⟩:∃t,t=rfAt h n:=⟨_,rfl⟩;rw[←m];have C:=h_ m;clear m r p;go_wp2
   go_roundw
   case rel=>exact⟨i+1,by go_num,by have:=E.out;omega,by rw[C.out,u.out],by rw[C.out,u.out],by rw[C.out,u.out],by rw[C.out,u.out],A.out⟩
   case measure=>simp only[intOf];have:=E.out;omega
 ·obtain rfl:i=2:=by omega
  have Z:¬(2:Int)<2:=by omega
  have q:Hid (refOwner h=if(rfAt h 2).1.1 =0 then(rfAt h 2).2.1 else(rfAt h 2).1.1):=h_ rfl;have z:=h_ p;obtain⟨⟨⟨b,at_⟩,l,lo⟩,m⟩:∃t,t=rfAt h 2:=⟨_,rfl⟩;rw[←m]at q⊢;clear m p F;simp only at q⊢;by_cases c:b=0
  ·have f:((b:Int)==0)=true:=by simp;omega
   have j:(b:Int)=0:=by omega
   have a:Hid (refOwner h=l):=h_ (by rw[q.out,Ay c]);clear c q;go_wp2;go_ret;exact⟨by rw[a.out];rfl,z.out⟩
  ·have f:((b:Int)==0)=false:=by simp;omega
   have j:¬(b:Int)=0:=by omega
   have a:Hid (refOwner h=b):=h_ (by rw[q.out,Aw c]);clear c q;go_wp2;go_ret;exact⟨by rw[a.out];rfl,z.out⟩
end
theorem topOwner_12 {w:World}{g cap:Nat}(key:ByteArray)(j:key.size≤1000000)(f:w.cell? ⟨g,0,none⟩=some (.int .i64 1))(h:w.cell? ⟨g,1,none⟩=some (.int .i64 2)):
  Calls Tryz.prog 23 #[.string key,.slice (some ⟨g,0,none⟩) 2 cap] w fun e m=>e=.returned (.int .i64 (refOwner (IN (sb key)):Int))∧Keep [] w m:=by
 have a:=(By [] w).alloc (.cells #[.string key] 9);have i:=BY w [.string key] 9;have d:=h_ (RefOf_one w.heap.size 1 1 rfl key (i.cell 0) j);have b:=h_ (RefOwner_12 (cap:=cap) (IN (sb key)) (a.cell1' f) (a.cell1' h));have c:=h_ a;clear a i f h j;go_enter Tryz.func23,Tryz.ntmps23;go_wp2_with fail;refine d.out.mono ?_;rintro e n ⟨rfl,rfl⟩;clear d;go_wp2_with fail;refine b.out.mono ?_;rintro e o ⟨rfl,k⟩;have l:=h_ (c.out.trans k);clear k b c;go_wp2;go_ret;exact⟨rfl,l.out⟩
end Go.Proofs.YtnhbioehiiifdaaGreat
