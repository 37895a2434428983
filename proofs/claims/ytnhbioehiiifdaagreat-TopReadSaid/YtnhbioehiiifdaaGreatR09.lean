import Derived.Test.YtnhbioehiiifdaaGreatR03
import Derived.Test.YtnhbioehiiifdaaGreatR04
import Derived.Test.YtnhbioehiiifdaaGreatR05
set_option maxRecDepth 100000
set_option maxHeartbeats 16000000
set_option linter.all false
namespace Go.Proofs.YtnhbioehiiifdaaGreat
open Go.ChangeShapes Go.WideShapes Go.ChangeAt Go.RowKit
abbrev SP (b e r:Int)(f:Bool):Value:= .agg #[.int .i64 b,.int .i64 e,.int .i64 r,.bool f]
def IP (b e r:Int)(f:Bool):List Value:=[.int .i64 b,.int .i64 e,.int .i64 r,.bool f]
def Ly (n:Int):Bool:=decide (0≤n)&&decide (n≤1099511627776)
def Ep (b e r:Int)(f:Bool):Bool:=Ly b&&(Ly e&&(Ly r&&((decide (r=0)||decide (e<r))&&(!f||decide (0<r)))))
theorem Fo (n:Int):Ly n=true↔0≤n∧n≤1099511627776:=by unfold Ly;rw[Ar,A0,A0]
theorem X2 {n:Int}(h:¬(0≤n∧n≤1099511627776)):Ly n=false:=by
 cases a:Ly n with
 |false=>rfl
 |true=>exact absurd ((Fo n).1 a) h
theorem MT {w:World}(b e r:Int)(f:Bool)(q:Bool)(hq:q=Ep b e r f):
  Calls Tryz.prog 208 #[SP b e r f] w fun x P=>x=.returned (.bool q)∧Keep [] w P:=by
 have z:=h_ hq;clear hq;go_enter Tryz.func208,Tryz.ntmps208;go_wp2_with fail;have m:Blk ((w.alloc (.cells (IP b e r f).toArray 49)).alloc (.cells (ints [b,e,r]).toArray 2)) w.heap.size (IP b e r f) 49:=(BY _ _ _).alloc _;have l:Blk ((w.alloc (.cells (IP b e r f).toArray 49)).alloc (.cells (ints [b,e,r]).toArray 2)) (w.heap.size+1) (ints [b,e,r]) 2:=Yt _ _ _ _ (by simp);have d:Keep [] w ((w.alloc (.cells (IP b e r f).toArray 49)).alloc (.cells (ints [b,e,r]).toArray 2)):=((By _ _).alloc _).alloc _;obtain⟨Q,G⟩:∃W,W=(w.alloc (.cells (IP b e r f).toArray 49)).alloc (.cells (ints [b,e,r]).toArray 2):=⟨_,rfl⟩;change Code.wp _ _ _ _ ((w.alloc (.cells (IP b e r f).toArray 49)).alloc (.cells (ints [b,e,r]).toArray 2));rw[←G]at m l d⊢;clear G;generalize w.heap.size+1=sb at*;generalize w.heap.size=xb at*;have M:=l.cell 0;have N:=l.cell 1;have O:=l.cell 2;simp only[ints,Br,Cy,List.getElem?_cons_succ,List.getElem?_cons_zero]at M N O;have R:=m.cell 1;have S:=m.cell 2;have T:=m.cell 3;simp only[IP,List.getElem?_cons_succ,List.getElem?_cons_zero]at R S T;clear m l
 have F:∀n:Int,n∈[b,e,r]→¬(0≤n∧n≤1099511627776)→q=false:=by intro n E h;have t:=X2 h;rw[z.out];unfold Ep;simp only[Ac,Am,AG]at E;rcases E with rfl|rfl|rfl<;>simp[t]
 have k:=h_ F;clear F
 go_loopw [13] (fun i wr=>∃j:Nat,j≤3∧i=.int .i64 j∧wr=Q∧(0<j→0≤b∧b≤1099511627776)∧(1<j→0≤e∧e≤1099511627776)∧(2<j→0≤r∧r≤1099511627776)) (fun i _=>3-(intOf i).toNat)
 case atStart=>exact⟨0,by omega,rfl,rfl,by omega,by omega,by omega⟩
 case round=>
  obtain⟨j,V,rfl,rfl,t,B,C⟩:=hrel;obtain⟨u,v,A⟩:=i_3 t B C;clear t B C;have K:j=0∨j=1∨j=2∨j=3:=by omega
  rcases K with rfl|rfl|rfl|rfl
  ·by_cases a:b<0
   ·have c:=k.out b (by simp) (by omega)
    have o:decide (b<0)=true:=An a;subst c;go_wp2;go_ret;exact⟨rfl,d⟩
   have o:decide (b<0)=false:=Ak a;by_cases g:1099511627776<b
   ·have c:=k.out b (by simp) (by omega)
    have p:decide (1099511627776<b)=true:=An g;subst c;go_wp2;go_ret;exact⟨rfl,d⟩
   have p:decide (1099511627776<b)=false:=Ak g;go_wp2
   go_roundw
   case rel=>exact⟨1,by omega,by first|rfl|trivial,by first|rfl|trivial,by intros;omega,by intros;omega,by intros;omega⟩
   case measure=>simp[intOf]
  ·by_cases a:e<0
   ·have c:=k.out e (by simp) (by omega)
    have o:decide (e<0)=true:=An a;subst c;go_wp2;go_ret;exact⟨rfl,d⟩
   have o:decide (e<0)=false:=Ak a;by_cases g:1099511627776<e
   ·have c:=k.out e (by simp) (by omega)
    have p:decide (1099511627776<e)=true:=An g;subst c;go_wp2;go_ret;exact⟨rfl,d⟩
   have p:decide (1099511627776<e)=false:=Ak g;go_wp2
   go_roundw
   case rel=>exact⟨2,by omega,by first|rfl|trivial,by first|rfl|trivial,by have:=u.out (by omega);intros;omega,by intros;omega,by intros;omega⟩
   case measure=>simp[intOf]
  ·by_cases a:r<0
   ·have c:=k.out r (by simp) (by omega)
    have o:decide (r<0)=true:=An a;subst c;go_wp2;go_ret;exact⟨rfl,d⟩
   have o:decide (r<0)=false:=Ak a;by_cases g:1099511627776<r
   ·have c:=k.out r (by simp) (by omega)
    have p:decide (1099511627776<r)=true:=An g;subst c;go_wp2;go_ret;exact⟨rfl,d⟩
   have p:decide (1099511627776<r)=false:=Ak g;go_wp2
   go_roundw
   case rel=>exact⟨3,by omega,by first|rfl|trivial,by first|rfl|trivial,by have:=u.out (by omega);intros;omega,by have:=v.out (by omega);intros;omega,by intros;omega⟩
   case measure=>simp[intOf]
  ·have H:=(Fo b).2 (u.out (by omega))
   have I:=(Fo e).2 (v.out (by omega));have J:=(Fo r).2 (A.out (by omega));have X:=(A.out (by omega)).1;have U:=(v.out (by omega)).1;have D:q=((decide (r=0)||decide (e<r))&&(!f||decide (0<r))):=by rw[z.out];unfold Ep;rw[H,I,J];rfl
   have s:=h_ D;clear H I J D;by_cases a:r=0
   ·subst a
    cases f
    ·have c:q=true:=by rw[s.out];rfl
     subst c;go_wp2;go_ret;exact⟨rfl,d⟩
    ·have c:q=false:=by rw[s.out];rfl
     subst c;go_wp2;go_ret;exact⟨rfl,d⟩
   have Y:(r==0)=false:=by simpa using a
   by_cases g:e<r
   ·have y:decide (e<r)=true:=An g
    have L:decide (0<r)=true:=An (by omega);have c:q=true:=by rw[s.out,y,L];simp
    subst c;cases f
    ·go_wp2
     go_ret;exact⟨rfl,d⟩
    ·go_wp2
     go_ret;exact⟨rfl,d⟩
   ·have y:decide (e<r)=false:=Ak g
    have c:q=false:=by rw[s.out,y,Ak a];rfl
    subst c;go_wp2;go_ret;exact⟨rfl,d⟩
def fN (f:Bool):Int:=if f=true then 1 else 0
theorem RL (f:Bool):II (fN f):=by cases f<;>(unfold fN II;simp)
def meText (b e r:Int)(f:Bool):List Nat:=BL [b,e,r,fN f]
theorem Jc {b e r:Int}{f:Bool}(h:∀n∈[b,e,r],II n):(meText b e r f).length ≤40:=by have:=Hc [b,e,r,fN f] (by intro n a;simp only[Ac,Am,AG]at a;rcases a with rfl|rfl|rfl|rfl;exact h _ (by simp);exact h _ (by simp);exact h _ (by simp);exact RL f);unfold meText;simpa using this
theorem Lx {w:World}(b e r:Int)(f:Bool)(hi:∀n∈[b,e,r],II n):
  Calls Tryz.prog 211 #[SP b e r f] w fun x k=>∃v,x=.returned v∧Buf k w.heap.size 5 v (meText b e r f)∧Keep [] w k:=by
 have c:=h_ hi;clear hi;go_enter Tryz.func211,Tryz.ntmps211;go_upto_if 5 with fail;go_cut [3] (fun s wc=>s=.int .i64 (fN f)∧Blk wc w.heap.size (IP b e r f) 49∧Keep [] w wc)
 case first=>
  cases f
  ·go_wp2_with fail
   go_meet;exact⟨rfl,BY _ _ _,(By _ _).alloc _⟩
  ·go_wp2_with fail
   go_meet;exact⟨rfl,BY _ _ _,(By _ _).alloc _⟩
 case rest=>
 obtain⟨rfl,a,d⟩:=hcut;have D:=d.size;have z:=a.cell 0;have A:=a.cell 1;have B:=a.cell 2;simp only[IP,List.getElem?_cons_succ,List.getElem?_cons_zero]at z A B;have i:=RL f;have h:∀n∈[b,e,r,fN f],II n:=by intro n j;simp only[Ac,Am,AG]at j;rcases j with rfl|rfl|rfl|rfl;exact c.out _ (by simp);exact c.out _ (by simp);exact c.out _ (by simp);exact i
 have g:meText b e r f=BL [b,e,r,fN f]:=rfl;obtain⟨m,l⟩:=i_2 g h;clear g h i a;generalize fN f=fn at*;go_wp2_with fail;have p:Rv (wc.alloc (.cells (ints [b,e,r,fn]).toArray 2)) 1 (.slice (some ⟨wc.heap.size,0,none⟩) [b,e,r,fn].length [b,e,r,fn].length) [b,e,r,fn].length (ints [b,e,r,fn]):=Ih (Yt _ _ _ _ (by simp)) rfl;refine(Ou w.heap.size (.slice none 0 0) [] _ [b,e,r,fn] (Y4 _ _ _) p (by intro _ q C t;cases t) l.out (by simp) (by simp;omega)).mono ?_;rintro x E ⟨v,rfl,o⟩;go_wp2;go_ret;refine⟨v,rfl, ?_,(d.alloc _).trans (o.keep.mono (by intro y u _;cases u))⟩;rw[m.out];have:=o.buf
 rwa [List.nil_append]at this
def WO (w:World)(k s d at_ turn a:Nat)(b e r:Int)(f:Bool):Prop:=
 Blk w k [pr s 0,.int .i64 b,.int .i64 e,.int .i64 r,.bool f] 116∧Hy w s d at_ turn (meText b e r f) a
theorem N4 (W:World):(Instr.build 49 #[]).run Tryz.prog W=.ok (SP 0 0 0 false) W:=DD W _ _ _ (by kernel_rfl)
theorem P4:(meText 0 0 0 false).length ≤40:=Jc (by intro n a;simp at a;subst a;exact⟨by omega,by omega⟩)
theorem Iq (b e r:Int)(f:Bool):∀c∈meText b e r f,c<256:=Io _
theorem JQ {b e r:Int}{f:Bool}(h:true=Ep b e r f):∀n∈[b,e,r],II n:=by
 have h:=h.symm;unfold Ep at h;simp only[Ar,Fo]at h;intro n a;simp only[Ac,Am,AG]at a;rcases a with rfl|rfl|rfl
 ·exact⟨by omega,by omega⟩
 ·exact⟨by omega,by omega⟩
 ·exact⟨by omega,by omega⟩
theorem Uc {w:World}{d sb:Nat}{L:List Sec}{c:Nat}(hd:IsDev w d sb L c)(at_:Nat)(hat:at_+1<L.length)(hc:c+5≤1099511627776):
  Calls Tryz.prog 161 #[pr d 0,.int .i64 at_] w fun x e=>∃k s,x=.returned (.tuple #[pr k 0,.int .i64 0])∧
   IsDev e d sb (((L.map flushSec).set (at_+1) zeroSec).set at_ ⟨Cz 1 (meText 0 0 0 false),Cz 1 (meText 0 0 0 false),false⟩) (c+5)∧WO e k s d at_ 1 0 0 0 0 false∧Keep [d,sb] w e∧w.heap.size≤k∧w.heap.size≤s:=by
 have A:=N4;have p:=hd.dev.lt;have r:=hd.secs.lt;go_enter Tryz.func161,Tryz.ntmps161;go_wp2_with fail;refine(Lx 0 0 0 false (by intro n g;simp at g;subst g;exact⟨by omega,by omega⟩)).mono ?_;rintro x B ⟨v,rfl,b,a⟩;have f:=hd.keep a (by simp) (by simp);have y:=a.size;go_wp2_with fail;refine(Ti f at_ hat v (meText 0 0 0 false) b.rd (Iq _ _ _ _) P4 hc (fun q o _=>by have:=b.lt q o;omega)).mono ?_;rintro x j ⟨s,rfl,m,h,i,u⟩;have l:Keep [d,sb] w j:=(a.mono (by simp)).trans i;have z:=i.size;have t:=h.lt;clear hd f b a;go_wp2;go_ret2;refine⟨j.heap.size,s,rfl,m.keep ((By [] _).alloc _) (by simp) (by simp),⟨BY _ _ _,h.keep ((By [] _).alloc _) (by simp) (by simp)⟩,l.alloc _,by omega,by omega⟩
def svD (j:World)(c k s:Nat)(b e r:Int)(f:Bool)(d g i:Int)(h:Bool)(l:Nat→Bool)(x:Nat→Value)(a:World):Prop:=
 (Blk a c (IP b e r f) 49)∧
 (Blk a k [pr s 0,.int .i64 d,.int .i64 g,.int .i64 i,.bool h] 116)∧
 (Keep [] j a)∧
 SlV l x 0 [some (SP b e r f),some (.bool true),some (.bool false),some (.bool false),some (pr c 0),some (.int .i64 b),some (pr k 0),some (pr k 0),some (pr k 1),some (pr k 1),some (.int .i64 d),some (.bool false),some (.bool false),some (.bool false),some (pr c 1),some (.int .i64 e),some (pr k 0),some (pr k 0),some (pr k 1),some (pr k 2),some (.int .i64 g),some (.bool false),some (.bool false),some (.bool false)]
def Ff (w:World)(s d at_ turn:Nat)(c:List Nat)(a:Nat):Prop:=
 ∃b,Blk w s [pr d 0,.int .i64 at_,.int .i64 turn,b,.int .i64 a] 209
theorem Hy.weak {w:World}{s d at_ turn:Nat}{b:List Nat}{a:Nat}(h:Hy w s d at_ turn b a):Ff w s d at_ turn b a:=by obtain⟨e,c,_⟩:=h;exact⟨e,c⟩
theorem Ff.keep' {w c:World}{s d at_ turn:Nat}{b:List Nat}{a:Nat}{S:List Nat}(h:Ff w s d at_ turn b a)(k:Keep S w c)(e:s∉S):Ff c s d at_ turn b a:=by obtain⟨g,f⟩:=h;exact⟨g,f.keep k e⟩
theorem Ff.keep {w c:World}{s d at_ turn:Nat}{b:List Nat}{a:Nat}{S:List Nat}(h:Ff w s d at_ turn b a)(k:Keep S w c)(e:s∉S)(_:∀x∈S,¬Ty w x 5):Ff c s d at_ turn b a:=h.keep' k e
theorem Ff.lt {w:World}{s d at_ turn:Nat}{c:List Nat}{b:Nat}(h:Ff w s d at_ turn c b):s<w.heap.size:=by obtain⟨e,a⟩:=h;exact a.lt
theorem Ff.ty {w:World}{s d at_ turn:Nat}{c:List Nat}{b:Nat}(h:Ff w s d at_ turn c b):Ty w s 209:=by obtain⟨e,a⟩:=h;exact a.ty
def IsKep0 (w:World)(k s d at_ turn a:Nat)(b e r:Int)(f:Bool):Prop:=
 Blk w k [pr s 0,.int .i64 b,.int .i64 e,.int .i64 r,.bool f] 116∧Ff w s d at_ turn (meText b e r f) a
theorem WO.weak {w:World}{k s d at_ turn a:Nat}{b e r:Int}{f:Bool}(h:WO w k s d at_ turn a b e r f):IsKep0 w k s d at_ turn a b e r f:=⟨h.1,h.2.weak⟩
theorem IsKep0.keep' {w g:World}{k s d at_ turn c:Nat}{b e r:Int}{f:Bool}{S:List Nat}(h:IsKep0 w k s d at_ turn c b e r f)(a:Keep S w g)(i:k∉S)(j:s∉S):IsKep0 g k s d at_ turn c b e r f:=
 ⟨h.1.keep a i,h.2.keep' a j⟩
theorem WI {w:World}{s d sb:Nat}{L:List Sec}{c:Nat}{at_ turn:Nat}{text0:List Nat}{slot:Nat}(hd:IsDev w d sb L c)(hs:Ff w s d at_ turn text0 slot)(bv:Value)(text:List Nat)
  (hr:Rd w bv text) (hb:∀c∈text,c<256) (hl:text.length≤40) (hslot:slot≤1) (hat:at_+1<L.length) (hn:turn+1<9223372036854775808) (hc:c+2≤1099511627776)
  (hlo:∀b,bv.ownBlock=some b→0<text.length→b<w.heap.size∧b≠d∧b≠sb∧b≠s):
  Calls Tryz.prog 212 #[pr s 0,bv] w fun e f=>e=.returned (.int .i64 0)∧IsDev f d sb ((L.map flushSec).set (at_+(1-slot)) ⟨Cz (turn+1) text,Cz (turn+1) text,false⟩) (c+2)∧
   Ff f s d at_ (turn+1) text (1-slot)∧Keep [d,sb,s] w f:=by
 obtain⟨x,a⟩:=hs;have g:=hr;obtain⟨_,m,n,rfl,_,_⟩:=hr;have A:(text.length:Int)≤40:=by omega
 have o:=a.cell 2;have p:=a.cell 4;simp only[List.getElem?_cons_succ,List.getElem?_cons_zero]at o p;have j:=fun W (k:Keep [] w W)=>M4 at_ (1-slot) turn x slot (turn+1) (.slice m text.length n) text (hd.keep k (by simp) (by simp)) (a.keep k (by simp)) (g.keep k (by simp)) hb hl (by omega) (by omega) hc (fun b h i=>⟨by have:=(hlo b h i).1;have:=k.size;omega,(hlo b h i).2⟩)
 have l:=h_ j;have u:((1-slot:Nat):Int)=1-(slot:Int):=by omega
 have v:((turn+1:Nat):Int)=(turn:Int)+1:=by omega
 clear j hlo g;go_enter Tryz.func212,Tryz.ntmps212;go_wp2_with fail;refine BJ 12 (by kernel_rfl) (by kernel_rfl) ?_;simp only[List.take_succ_cons,List.take_zero,BB,Bj]
 repeat still_step
 refine Du ?_;go_wp2_with fail;rw[←u,←v];refine(l.out _ (By [] _).drew).mono ?_;rintro e B ⟨rfl,r,⟨y,q,z⟩,t⟩;go_wp2;go_ret;exact⟨rfl,r,⟨y,q⟩,(By _ _).drew.trans t⟩
theorem Ir {w:World}{k s d at_ turn n:Nat}{b e r:Int}{f:Bool}(m:IsKep0 w k s d at_ turn n b e r f):
  Calls Tryz.prog 22 #[pr k 0] w fun x o=>x=.returned (SP b e r f)∧Keep [] w o:=by
 obtain⟨a,_⟩:=m;go_enter Tryz.func22,Tryz.ntmps22;have c1:=(a.alloc (.cells (IP 0 0 0 false).toArray 49)).cell 1;have c2:=(a.alloc (.cells (IP 0 0 0 false).toArray 49)).cell 2;have c3:=(a.alloc (.cells (IP 0 0 0 false).toArray 49)).cell 3;have c4:=(a.alloc (.cells (IP 0 0 0 false).toArray 49)).cell 4;have p:=BY w (IP 0 0 0 false) 49;simp only[List.getElem?_cons_zero,List.getElem?_cons_succ]at c1 c2 c3 c4;unfold IP at c1 c2 c3 c4;have q:=a.lt;go_wp2_with fail;have c:=BY w (IP b e r f) 49;have l:=(By [] w).alloc (.cells (IP b e r f).toArray 49);change bodyPost _ _ _ _ _ (w.alloc (.cells (IP b e r f).toArray 49));generalize w.alloc (.cells (IP b e r f).toArray 49)=w5 at*;refine Be (v:=SP b e r f) ?_ rfl ⟨rfl,l⟩;have g:=c.cell 0;have h:=c.cell 1;have i:=c.cell 2;have j:=c.cell 3;simp only[IP,List.getElem?_cons_zero,List.getElem?_cons_succ]at g h i j;simp[results,Tryz.results22,go_sem,g,h,i,j]
def svE0 (n:World)(o k s d sb at_ turn g c:Nat)(L:List Sec)(b e r:Int)(f:Bool)(h i m:Int)(j:Bool)(l:Nat→Bool)(x:Nat→Value)(a:World):Prop:=
 (Blk a o (IP b e r f) 49)∧
 (Blk a k [pr s 0,.int .i64 h,.int .i64 i,.int .i64 m,.bool j] 116)∧
 (l 6=false→IsDev a d sb L c∧Ff a s d at_ turn (meText h i m j) g)∧
 (l 6=true→IsDev a d sb ((L.map flushSec).set (at_+(1-g)) ⟨Cz (turn+1) (meText b e r f),Cz (turn+1) (meText b e r f),false⟩) (c+2)∧Ff a s d at_ (turn+1) (meText b e r f) (1-g))∧
 (Keep [d,sb,s] n a)∧
 (l 5=true→Buf a n.heap.size 5 (x 5) (meText b e r f))∧
 SlV l x 0 [some (pr k 0),some (pr k 0),some (pr k 0),some (pr s 0),some (SP b e r f),none,some (.int .i64 0),some (.int .i64 0)]
theorem Jd {w:World}{d sb:Nat}{L:List Sec}{c:Nat}(E:IsDev w d sb L c){k s at_ turn slot:Nat}{b0 e0 r0:Int}{f0:Bool}(hk:IsKep0 w k s d at_ turn slot b0 e0 r0 f0)(b e r:Int)(f:Bool)
  (v:true=Ep b e r f) (hb0:b0≤b) (he0:e0≤e) (hslot:slot≤1) (hat:at_+1<L.length) (hn:turn+1<9223372036854775808) (hc:c+2≤1099511627776):
  Calls Tryz.prog 188 #[pr k 0,SP b e r f] w fun x I=>x=.returned (.int .i64 0)∧
   IsDev I d sb ((L.map flushSec).set (at_+(1-slot)) ⟨Cz (turn+1) (meText b e r f),Cz (turn+1) (meText b e r f),false⟩) (c+2)∧IsKep0 I k s d at_ (turn+1) (1-slot) b e r f∧Keep [d,sb,s,k] w I:=by
 have HQ:=h_ v;have HI:=h_ (JQ v);have ab:=h_ (Jc (f:=f) (JQ v));have p1:decide (b<b0)=false:=Ak (by omega);have p2:decide (e<e0)=false:=Ak (by omega);clear v hb0 he0;obtain⟨g,J⟩:=hk;go_enter Tryz.func188,Tryz.ntmps188;go_wp2_with fail;have Q:=BY w (IP b e r f) 49;have O:=g.alloc (.cells (IP b e r f).toArray 49);have G:=(By [] w).alloc (.cells (IP b e r f).toArray 49);obtain⟨w1,aa⟩:∃W,W=w.alloc (.cells (IP b e r f).toArray 49):=⟨_,rfl⟩;change Code.wp _ _ _ _ (w.alloc (.cells (IP b e r f).toArray 49));rw[←aa]at Q O G⊢;have X:=E.keep G (by simp) (by simp);have Y:=J.keep G (by simp) (by simp);clear aa E J g;generalize w.heap.size=xb at*;refine wI (svD w1 xb k s b e r f b0 e0 r0 f0) ?aS (.s ?a0<|.s ?a1<|.s ?a2<|.s ?a3<|.s ?a4<|.s ?a5<|.s ?a6<|.s ?a7<|.s ?a8<|.s ?a9<|.s ?a10<|.s ?a11<|.s ?a12<|.s ?a13<|.s ?a14<|.s ?a15<|.s ?a16<|.s ?a17<|.s ?a18<|.s ?a19<|.s ?a20<|.s ?a21<|.s ?a22<|.s ?a23<|.n) 24 ?aF
 case aS=>intro x;exact⟨Q.drew,O.drew,(By _ _).drew,Yr⟩
 case aF=>
  intro l x M B F;obtain⟨i,g,j,vS⟩:=B;have S:=vS.a 23 (F 23 (by decide)) rfl;simp only[Al,Act.put,A8,A7,A6,S];have K:=G.trans j;clear S F;have Z:=i;have V:=g;have p:=X.keep j (by simp) (by simp);have C:=Y.keep j (by simp) (by simp);have K3:=K;have R:=h_ (show xb≠d∧xb≠sb∧xb≠s∧k≠d∧k≠sb∧k≠s∧k≠xb∧d<M.heap.size∧sb<M.heap.size∧s<M.heap.size from⟨i.ty.ne p.dev.ty (by decide),i.ty.ne p.secs.ty (by decide),i.ty.ne C.ty (by decide),g.ty.ne p.dev.ty (by decide),g.ty.ne p.secs.ty (by decide),g.ty.ne C.ty (by decide),g.ty.ne i.ty (by decide),p.dev.lt,p.secs.lt,C.lt⟩);clear Q O G j K i g X Y vS;go_wp2_with fail;refine wI (svE0 M xb k s d sb at_ turn slot c L b e r f b0 e0 r0 f0) ?bS (.s ?b0<|.s ?b1<|.s ?b2<|.s ?b3<|.s ?b4<|.s ?b5<|.s ?b6<|.s ?b7<|.n) 8 ?bF
  case bS=>intro x;exact⟨Z.drew,V.drew,fun _=>⟨p.keep ((By [] _).drew) (by simp) (by simp),C.keep ((By [] _).drew) (by simp) (by simp)⟩,fun h=>absurd h (by decide),(By _ _).drew,fun h=>absurd h (by decide),Yr⟩
  case bF=>intro l x w4 B F;obtain⟨i,g,z,A,j,u,vS⟩:=B;have U:=vS.a 7 (F 7 (by decide)) rfl;obtain⟨ad,ae⟩:=A (F 6 (by decide));simp only[Al,Act.put,A8,A7,A6,U];clear u U F z A Z V p C vS;have x0:=i.cell 0;have x1:=i.cell 1;have N:=i.cell 2;have x3:=i.cell 3;have g1:=g.cell 1;have g2:=g.cell 2;have g3:=g.cell 3;have g4:=g.cell 4;have f1:=g.free 1;have f2:=g.free 2;have f3:=g.free 3;have f4:=g.free 4;simp only[IP,List.getElem?_cons_zero,List.getElem?_cons_succ]at x0 x1 N x3 g1 g2 g3 g4;go_wp2;go_ret;have ac:=(((g.set 1 (.int .i64 b)).set 2 (.int .i64 e)).set 3 (.int .i64 r)).set 4 (.bool f);have P:Keep [k] w4 ((((w4.setCell ⟨k,1,none⟩ (.int .i64 b)).setCell ⟨k,2,none⟩ (.int .i64 e)).setCell ⟨k,3,none⟩ (.int .i64 r)).setCell ⟨k,4,none⟩ (.bool f)):=((((By _ _).setCell (.inl (by simp)) _).setCell (.inl (by simp)) _).setCell (.inl (by simp)) _).setCell (.inl (by simp)) _;have ag:=R.out;refine⟨rfl,ad.keep P (by simp;omega) (by simp;omega),⟨ac,ae.keep P (by simp;omega) (by intro y hy;simp at hy;subst hy;exact fun h=>g.ty.ne h (by decide) rfl)⟩, ?_⟩;exact(K3.mono (by simp)).trans ((j.mono (by simp)).trans (P.mono (by simp)))
  all_goals
   intro l x I B hi E;obtain⟨i,g,z,A,j,u,vS⟩:=B;have D:=vS;have t:=E;simp only[SlV]at D
   try simp[BD,Region.binds]at t
   refine Oq.of (by simp only[Al,Act.put,A8,A7,A6,t,D];rfl) ?_;clear t D;intro K' o
  case b3=>have H:=g.cell 0;simp only[List.getElem?_cons_zero]at H;go_simp;exact o.go _ rfl ⟨i,g,z,A,j,u,vS.r⟩
  case b4=>have H:=i.cell 0;have c1:=i.cell 1;have c2:=i.cell 2;have c3:=i.cell 3;simp only[IP,List.getElem?_cons_zero,List.getElem?_cons_succ]at H c1 c2 c3;go_simp;exact o.go _ rfl ⟨i,g,z,A,j,u,vS.r⟩
  case b5=>go_simp;refine(Lx b e r f HI.out).mono ?_;rintro N w2 ⟨v2,rfl,af,m⟩;go_simp;exact o.go v2 rfl ⟨i.keep m (by simp),g.keep m (by simp),fun h=>⟨(z h).1.keep m (by simp) (by simp),(z h).2.keep m (by simp) (by simp)⟩,fun h=>⟨(A h).1.keep m (by simp) (by simp),(A h).2.keep m (by simp) (by simp)⟩,j.trans (m.mono (by simp)),fun _=>af.mono j.size,vS.s rfl⟩
  case b6=>have T:=u (E.at rfl);go_simp;obtain⟨t,J⟩:=z hi;have ag:=R.out;refine(WI t J (x 5) (meText b e r f) T.rd (Iq _ _ _ _) ab.out hslot hat hn hc (fun q v _=>by have:=T.lt q v;omega)).mono ?_;rintro N w2 ⟨rfl,p,C,m⟩;go_simp;exact o.go _ rfl ⟨i.keep m (by simp;omega),g.keep m (by simp;omega),fun h=>Bool.noConfusion (show true=false from h),fun _=>⟨p,C⟩,j.trans m,fun h=>(u h).keep m (fun q v=>by have:=(u h).lt q v;simp;omega),vS.r⟩
  all_goals go_simp;exact o.go _ rfl ⟨i,g,z,A,j,u,vS.r⟩
 all_goals
  intro l x I B hi E;obtain⟨i,g,j,vS⟩:=B;have D:=vS;have t:=E;simp only[SlV]at D
  try simp[BD,Region.binds]at t
  refine Oq.of (by simp only[Al,Act.put,A8,A7,A6,t,D];rfl) ?_;clear t D;intro K' o
 case a0=>have H:=i.cell 0;have c1:=i.cell 1;have c2:=i.cell 2;have c3:=i.cell 3;simp only[IP,List.getElem?_cons_zero,List.getElem?_cons_succ]at H c1 c2 c3;go_simp;exact o.go _ rfl ⟨i,g,j,vS.r⟩
 case a1=>go_simp;refine(MT b e r f _ HQ.out).mono ?_;rintro N w2 ⟨rfl,m⟩;go_simp;exact o.go _ rfl ⟨i.keep m (by simp),g.keep m (by simp),j.trans m,vS.r⟩
 case a5=>have c:=i.cell 0;simp only[IP,List.getElem?_cons_zero,List.getElem?_cons_succ]at c;go_simp;exact o.go _ rfl ⟨i,g,j,vS.r⟩
 case a10=>have c:=g.cell 1;simp only[List.getElem?_cons_zero,List.getElem?_cons_succ]at c;go_simp;exact o.go _ rfl ⟨i,g,j,vS.r⟩
 case a15=>have c:=i.cell 1;simp only[IP,List.getElem?_cons_zero,List.getElem?_cons_succ]at c;go_simp;exact o.go _ rfl ⟨i,g,j,vS.r⟩
 case a20=>have c:=g.cell 2;simp only[List.getElem?_cons_zero,List.getElem?_cons_succ]at c;go_simp;exact o.go _ rfl ⟨i,g,j,vS.r⟩
 all_goals go_simp;exact o.go _ rfl ⟨i,g,j,vS.r⟩
theorem Ld:∀a b c:List Nat,JE a b=true→JE b c=true→JE a c=true
 |_,[],_,h,_=>by cases ‹List Nat›<;>simp[JE]at h
 |_,_::_,[],_,h=>by simp[JE]at h
 |[],_::_,_::_,_,_=>rfl
 |x::a,y::b,z::c,e,d=>by
  unfold JE at*;simp only[CQ,Ar,A0]at*;rcases e with e|⟨rfl,e⟩
  ·rcases d with d|⟨rfl,d⟩
   ·left;omega
   ·exact .inl e
  ·rcases d with d|⟨rfl,d⟩
   ·exact .inl d
   ·exact .inr ⟨rfl,Ld a b c e d⟩
theorem Le:∀a b:List Nat,JE a b=false→JE b a=false→a=b
 |[],[],_,_=>rfl
 |[],_::_,h,_=>by simp[JE]at h
 |_::_,[],_,h=>by simp[JE]at h
 |x::a,y::b,h1,h2=>by
  unfold JE at h1 h2;simp only[Bool.or_eq_false_iff,Bool.and_eq_false_iff,decide_eq_false_iff_not]at h1 h2;have e:x=y:=by omega
  subst e;have c:=h1.2.resolve_left (by simp);have d:=h2.2.resolve_left (by simp);rw[Le a b c d]
theorem sb_inj {a b:Str}(h:sb a=sb b):a=b:=by rw[←KY a,←KY b,h]
theorem Tz (a b c:Str)(h:UR a b=true)(k:UR b c=true):UR a c=true:=Ld _ _ _ h k
theorem T1 (a b:Str)(h:UR a b=false)(k:UR b a=false):a=b:=sb_inj (Le _ _ h k)
def COk (c:Cache):Prop:=c.Pairwise (fun a b=>UR a.1 b.1=true)
theorem Fd (k v:Str)(c:Cache)(x:Str):cGet ((k,v)::c) x=if k=x then some v else cGet c x:=by
 unfold cGet;rw[List.find?_cons];by_cases h:k=x
 ·simp[h]
 ·simp[h]
theorem Qy:∀(c:Cache) (k v x:Str),COk c→cGet (GA k v c) x=if x=k then some v else cGet c x
 |[],k,v,x,_=>by
  show cGet [(k,v)] x=_;rw[Fd];by_cases h:x=k
  ·rw[Ay h,Ay h.symm]
  ·rw[Aw h,Aw (fun e=>h e.symm)]
 |(k',v')::c,k,v,x,hc=>by
  unfold COk at hc;rw[B9]at hc;unfold GA;by_cases d:UR k k'=true
  ·rw[Ay d,Fd]
   by_cases h:x=k
   ·rw[Ay h,Ay h.symm]
   ·rw[Aw h,Aw (fun e=>h e.symm)]
  ·rw[Aw d]
   by_cases b:k=k'
   ·rw[Ay b,Fd,Fd]
    subst b;by_cases h:x=k
    ·rw[Ay h,Ay h.symm]
    ·rw[Aw h,Aw (fun e=>h e.symm),Aw (fun e=>h e.symm)]
   ·rw[Aw b,Fd,Fd,Qy c k v x hc.2]
    by_cases a:k'=x
    ·rw[Ay a,Ay a,Aw (fun e=>b (e.symm.trans a.symm))]
    ·rw[Aw a,Aw a]
theorem Qx:∀(c:Cache) (k v:Str) (p:Str×Str),p∈GA k v c→p=(k,v)∨p∈c
 |[],k,v,p,h=>by rcases Ah.1 h with rfl;exact .inl rfl
 |(k',v')::c,k,v,p,h=>by
  unfold GA at h
  split at h
  ·rcases Ac.1 h with h|h
   ·exact .inl h
   ·exact .inr h
  ·split at h
   ·rcases Ac.1 h with h|h
    ·exact .inl h
    ·exact .inr (Ap _ h)
   ·rcases Ac.1 h with h|h
    ·exact .inr (h▸Bx ..)
    ·rcases Qx c k v p h with h|h
     ·exact .inl h
     ·exact .inr (Ap _ h)
theorem Tc:∀(c:Cache) (k v:Str),COk c→COk (GA k v c)
 |[],k,v,_=>by unfold COk GA;simp
 |(k',v')::c,k,v,hc=>by
  unfold COk at hc⊢;have e:=hc;rw[B9]at hc;unfold GA;by_cases b:UR k k'=true
  ·rw[Ay b,B9]
   refine⟨fun p a=> ?_,e⟩;rcases Ac.1 a with rfl|a
   ·exact b
   ·exact Tz _ _ _ b (hc.1 p a)
  ·rw[Aw b]
   by_cases d:k=k'
   ·rw[Ay d,B9]
    subst d;exact⟨hc.1,hc.2⟩
   ·rw[Aw d,B9]
    refine⟨fun p a=> ?_,Tc c k v hc.2⟩;rcases Qx c k v p a with rfl|a
    ·cases f:UR k' k with
     |true=>rfl
     |false=>exact absurd (T1 k k' (by simpa using b) f) d
    ·exact hc.1 p a
end Go.Proofs.YtnhbioehiiifdaaGreat
