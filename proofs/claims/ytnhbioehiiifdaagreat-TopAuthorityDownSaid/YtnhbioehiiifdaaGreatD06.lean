import Derived.Test.YtnhbioehiiifdaaGreatD03
set_option maxRecDepth 100000
set_option maxHeartbeats 16000000
set_option linter.all false
namespace Go.Proofs.YtnhbioehiiifdaaGreat
open Go.ChangeShapes Go.WideShapes Go.ChangeAt Go.RowKit
def CA (x:List Nat):Nat:=unbe ((x.drop 4).take 8)
def Fh (x:List Nat):List Nat:=(x.drop 13).take (x.getD 12 0)
def FE (turn:Nat)(x:List Nat):Bool:=crcSum (x.drop 4)==unbe (x.take 4)&&(decide (CA x<9223372036854775808)&&(decide (turn<CA x)&&decide (x.getD 12 0≤40)))
structure Sup3 where
 turn:Nat
 slot:Nat
 text:List Nat
def CG (c:Sup3)(k:Nat)(x:List Nat):Sup3:=if FE c.turn x=true then⟨CA x,k,Fh x⟩else c
def FV (a b:List Nat):Nat→Sup3
 |0=>⟨0,0,[]⟩
 |1=>CG ⟨0,0,[]⟩ 0 a
 |_=>CG (CG ⟨0,0,[]⟩ 0 a) 1 b
theorem Buf.head {w:World}{base:Nat}{E:TypeId}{v:Value}{l:List Nat}(h:Buf w base E v l)(b:0<l.length):
  ∃g cap spare,v=.slice (some ⟨g,0,none⟩) l.length cap∧l.length≤cap∧base≤g∧Blk w g (Bb l++spare) E:=by
 have a:Own w base E v (Bb l):=by unfold Own;rw[Bd];exact h
 have:=a.blk (by rw[Bd];exact b);rw[Bd]at this;exact this
theorem KJ {w:World}{g:Nat}{E:TypeId}{l:List Nat}{spare:List Value}(h:Blk w g (Bb l++spare) E)(o n cap:Nat)(e:o+n≤l.length)(c:n≤cap)(m:List Nat)(d:m=(l.drop o).take n):
  Rd w (.slice (some ⟨g,o,none⟩) n cap) m:=by
 subst d;have a:((l.drop o).take n).length =n:=by simp;omega
 refine⟨by simp,_,cap,by rw[a],by rw[a];exact c,fun _=>⟨g,o,rfl,h.lt,fun i b=> ?_⟩⟩;rw[Bd,a]at b;rw[h.cell,AK (by simp;omega)];unfold Bb;simp[BP,b]
theorem WJ {w:World}{d sb:Nat}{L:List Sec}{c:Nat}(hd:IsDev w d sb L c)(at_:Nat)(s0 s1:Sec)(hs0:L[at_]?=some s0)(hs1:L[at_+1]?=some s1):
  Calls Tryz.prog 132 #[pr d 0,.int .i64 at_] w fun e O=>Keep [] w O∧
   (((FV s0.now s1.now 2).turn =0∧e=.returned (.tuple #[.pointer none,.int .i64 3]))∨
    ((FV s0.now s1.now 2).turn ≠0∧∃s,e=.returned (.tuple #[pr s 0,.int .i64 0])∧w.heap.size≤s∧
     Hy O s d at_ (FV s0.now s1.now 2).turn (FV s0.now s1.now 2).text (FV s0.now s1.now 2).slot)):=by
 have bd:at_+1<L.length:=(Ai.1 hs1).1;have bf:=Aq hs0;have bg:=Aq hs1;have bt:=hd.max;have bq:=hd.dev.lt;have bu:=hd.secs.lt;go_enter Tryz.func132,Tryz.ntmps132;go_wp2_with fail;refine(O6 hd at_ bd).mono ?_;rintro e w1 ⟨rfl,rfl⟩;go_wp2_with fail;have an:Blk (w.alloc (.cells #[pr d 0,.int .i64 at_,.int .i64 0,.slice none 0 0,.int .i64 0] 209)) w.heap.size [pr d 0,.int .i64 at_,.int .i64 0,.slice none 0 0,.int .i64 0] 209:=BY _ _ _
 go_loopw [23] (fun i wr=>∃k:Nat,k≤2∧i=.int .i64 k∧∃n,Blk wr w.heap.size [pr d 0,.int .i64 at_,.int .i64 (FV s0.now s1.now k).turn,n,.int .i64 (FV s0.now s1.now k).slot] 209∧Buf wr w.heap.size 5 n (FV s0.now s1.now k).text ∧Keep [] w wr) (fun i _=>2-(intOf i).toNat)
 case atStart=>exact⟨0,by omega,rfl,_,an,Y4 _ _ _,(By _ _).alloc _⟩
 case round=>
  obtain⟨k,hk,rfl,n,Y,ah,Q⟩:=hrel;clear an;by_cases br:k<2
  ·have q0:(k:Int)<2:=by omega
   obtain⟨a,bi,az,a1⟩:∃a,L[at_+k]?=some a∧a∈L∧FV s0.now s1.now (k+1)=CG (FV s0.now s1.now k) k a.now:=by
    have:k=0∨k=1:=by omega
    rcases this with rfl|rfl
    ·exact⟨s0,hs0,bf,rfl⟩
    ·exact⟨s1,hs1,bg,rfl⟩
   have bk:=(hd.ok a az).1;have T:=(hd.ok a az).2.2.1;have I:=h_ a1;clear a1;generalize ab:FV s0.now s1.now k=cu at*;have q1:((at_+k:Nat):Int)=(at_:Int)+(k:Int):=by omega
   go_wp2_with fail;rw[←q1];refine(Ot (hd.keep Q (by simp) (by simp)) (at_+k) a bi).mono ?_;rintro e q ⟨xv,rfl,hx,k2⟩;obtain⟨g,f,spare,rfl,bl,bp,M⟩:=hx.head (by omega);rw[bk]at bl⊢;go_wp2_with fail
   have a8:unbe ((a.now.drop 4).take 8)<18446744073709551616:=by have:=KF ((a.now.drop 4).take 8) (fun c x=>T c (AB (AH x)));rw[show((a.now.drop 4).take 8).length =8 by simp;omega]at this;simpa using this
   have a0:Rd q (.slice (some ⟨g,4,none⟩) 8 (f-4)) ((a.now.drop 4).take 8):=KJ M 4 8 _ (by omega) (by omega) _ rfl;have au:Calls Tryz.prog 183 #[.slice (some ⟨g,4,none⟩) 8 (f-4)] q fun e O=>e=.returned (.int .u64 (CA a.now))∧q=O:=SU _ _ a0 (fun c x=>T c (AB (AH x))) (by simp;omega) _ rfl
   refine au.mono ?_;rintro e w3 ⟨rfl,rfl⟩;clear au a0;have a9:crcSum (a.now.drop 4)<4294967296:=JT _ (fun c x=>T c (AB x));have hp:Rv (q.alloc (.cells #[.slice (some ⟨g,4,none⟩) 60 (f-4)] 81)).drew 1 (.slice (some ⟨q.heap.size,0,none⟩) 1 1) 1 [.slice (some ⟨g,4,none⟩) 60 (f-4)]:=(Y1 q [.slice (some ⟨g,4,none⟩) 60 (f-4)] 81 1 1 1 rfl (by omega) _ rfl).keep (By [] _).drew (by simp);have H:Blk (q.alloc (.cells #[.slice (some ⟨g,4,none⟩) 60 (f-4)] 81)).drew g (Bb a.now++spare) 5:=(M.alloc _).drew;have hq:Rd (q.alloc (.cells #[.slice (some ⟨g,4,none⟩) 60 (f-4)] 81)).drew (.slice (some ⟨g,4,none⟩) 60 (f-4)) (a.now.drop 4):=KJ H 4 60 _ (by omega) (by omega) _ (by rw[Ba (by simp;omega)]);have af:=IG _ _ _ (a.now.drop 4) hp hq (fun c x=>T c (AB x)) (by simp;omega) _ rfl;have ad:Calls Tryz.prog 183 #[.slice (some ⟨g,0,none⟩) 4 f] (q.alloc (.cells #[.slice (some ⟨g,4,none⟩) 60 (f-4)] 81)).drew fun e O=>e=.returned (.int .u64 (unbe (a.now.take 4):Nat))∧(q.alloc (.cells #[.slice (some ⟨g,4,none⟩) 60 (f-4)] 81)).drew =O:=SU _ _ (KJ H 0 4 _ (by omega) (by omega) _ (by simp)) (fun c x=>T c (AH x)) (by simp;omega) _ rfl
   have Z:=Q.trans k2;have J:=Y.keep k2 (by simp);have ai:=ah.keep k2 (by simp);have be:=FE;obtain⟨p,ar⟩:∃z:Int,z=(crcSum (a.now.drop 4):Int):=⟨_,rfl⟩;obtain⟨v,ao⟩:∃z:Int,z=(unbe (a.now.take 4):Int):=⟨_,rfl⟩;have bn:0≤p:=by omega
   have bo:p<4294967296:=by omega
   have bx:IntKind.u64.wrap p=p:=by simp[IntKind.wrap,IntKind.bits,IntKind.signed];omega
   obtain⟨W,aa⟩:∃z:Int,z=(CA a.now:Int):=⟨_,rfl⟩;have ba:0≤W:=by omega
   have bb:W<18446744073709551616:=by unfold CA at aa;omega
   rw[←aa];obtain⟨o,ae⟩:∃z:Int,z=IntKind.i64.wrap W:=⟨_,rfl⟩;have bm:IntKind.i64.wrap W=o:=ae.symm
   have aq:(CA a.now<9223372036854775808∧o=CA a.now)∨(¬CA a.now<9223372036854775808∧o<0):=by rw[ae,aa];unfold CA at*;simp[IntKind.wrap,IntKind.bits,IntKind.signed];omega
   obtain⟨m,hm⟩:∃z:Nat,z=a.now.getD 12 0:=⟨_,rfl⟩;have HM:=h_ hm
   have a2:q.cell? ⟨g,12,none⟩=some (.int .u8 m):=by rw[M.cell,AK (by simp;omega),EL _ _ (by omega),hm];rfl
   have P:=J.cell 2;simp only[List.getElem?_cons_succ,List.getElem?_cons_zero]at P
   have aw:FE cu.turn a.now=(p==v&&(decide ((cu.turn:Int)<o)&&decide (m≤40))):=by unfold FE;rw[Bool.eq_iff_iff];simp only[Ar,beq_iff_eq,A0];omega
   rw[←ar]at af;rw[←ao]at ad;clear ae ba bb aa
   have pS:(q.alloc (.cells #[.slice (some ⟨g,4,none⟩) 60 (f-4)] 81)).drew.cell? ⟨w.heap.size,2,none⟩=some (.int .i64 cu.turn):=by have:=((J.alloc (.cells #[.slice (some ⟨g,4,none⟩) 60 (f-4)] 81)).drew).cell 2;simpa only[List.getElem?_cons_succ,List.getElem?_cons_zero]using this
   have pX:(q.alloc (.cells #[.slice (some ⟨g,4,none⟩) 60 (f-4)] 81)).drew.cell? ⟨g,12,none⟩=some (.int .u8 m):=by rw[←a2,H.cell,M.cell]
   obtain⟨PS,y⟩:=i_2 pS pX;clear pS pX;obtain⟨a3,V,U,am,HX⟩:=i_5 aq af ad aw M;clear af ad aw hp hq H M be a9 a8 hx Y ah Q k2 ab ar ao hm aq;have y1:¬f=4:=by omega
   have y2:(4:Int)≤(f:Int):=by omega
   have y3:(64:Int)≤(f:Int):=by omega
   by_cases F:FE cu.turn a.now=true
   ·have ag:=F
    rw[am.out]at ag;simp only[Ar,beq_iff_eq,A0]at ag;obtain⟨t,D,K⟩:=ag;have N:CG cu k a.now=⟨CA a.now,k,Fh a.now⟩:=by unfold CG;rw[Ay F]
    have a5:=h_ N;clear N F;have ac:(p==v)=true:=by simpa using t
    have z1:decide ((cu.turn:Int)<o)=true:=An D;have z2:decide ((m:Int)≤(40:Int))=true:=An (by omega);have z3:decide (m≤40)=true:=An K;have bs:m≤40:=K;have ap:o=(CA a.now:Int):=by have:=a3.out;omega
    have a4:=h_ ap;clear ap;clear t D K;go_wp2_with fail
    first
     |(go_region_with
       (first
        |(go_at_call 153;refine V.out.mono ?_;rintro e ws ⟨rfl,u⟩;have B:=PS.out;have A:=y.out;rw[u]at B A)
        |(go_at_call 183;(try rw[←u]);refine U.out.mono ?_;rintro e j ⟨rfl,h⟩;have r:=PS.out;have l:=y.out;rw[h]at r l)
        |fail))
     |fail
    have C:Blk j w.heap.size [pr d 0,.int .i64 at_,.int .i64 cu.turn,n,.int .i64 cu.slot] 209:=by rw[←h];exact(J.alloc _).drew
    have E:Keep [] w j:=by rw[←h];exact(Z.alloc _).drew
    have H:Blk j g (Bb a.now++spare) 5:=by rw[←h];exact(HX.out.alloc _).drew
    have v1:IntKind.i64.wrap (m:Int)=(m:Int):=by simp[IntKind.wrap,IntKind.bits,IntKind.signed];omega
    have v2:IntKind.i64.wrap (13+(m:Int))=13+(m:Int):=by simp[IntKind.wrap,IntKind.bits,IntKind.signed];omega
    have v3:(13:Int)+(m:Int)≤(f:Int):=by omega
    have v4:¬f=13:=by omega
    clear r l B A;have l:=H.cell 12;rw[AK (by simp;omega),EL _ _ (by omega),←HM.out]at l;unfold bc at l;go_wp2_with fail;have av:=Fg (w:=j) (.slice (some ⟨g,13,none⟩) m (f-13)) (Fh a.now) (KJ H 13 m _ (by omega) (by omega) _ (by unfold Fh;rw[HM.out])) (by unfold Fh;simp;omega);refine av.mono ?_;rintro e w5 ⟨nv,rfl,aj,k5⟩;clear av;have G:=C.keep k5 (by simp);have a7:=E.trans k5;obtain⟨na,ak,rfl⟩:=aj.slice;have s2:=G.cell 2;have s3:=G.cell 3;have s4:=G.cell 4;have f2:=G.free 2;have f3:=G.free 3;have f4:=G.free 4;simp only[List.getElem?_cons_succ,List.getElem?_cons_zero]at s2 s3 s4;clear l P a2;go_wp2_with fail;have a6:=((G.set 2 (.int .i64 o)).set 4 (.int .i64 k)).set 3 (.slice na (Fh a.now).length ak);have ax:Keep [w.heap.size] w5 (((w5.setCell ⟨w.heap.size,2,none⟩ (.int .i64 o)).setCell ⟨w.heap.size,4,none⟩ (.int .i64 k)).setCell ⟨w.heap.size,3,none⟩ (.slice na (Fh a.now).length ak)):=Or (Or (Or (By _ _) (.inl (by simp)) _) (.inl (by simp)) _) (.inl (by simp)) _;have bj:=E.size
    go_roundw
    case rel=>
     refine⟨k+1,by omega,by go_num, ?_⟩;rw[I.out,a5.out];refine⟨.slice na (Fh a.now).length ak, ?_,(aj.mono bj).keep ax ?_,a7.then ax (by simp)⟩
     ·show Blk _ _ [_,_,.int .i64 (CA a.now:Int),_,_] _
      rw[←a4.out];exact a6
     ·intro b hb ay
      simp at ay;subst ay;have:=(aj.lt _ hb).1;have:=C.lt;omega
    case measure=>simp[intOf];omega
   ·have N:CG cu k a.now=cu:=by unfold CG;rw[Aw F]
    have bh:¬p=v∨(p=v∧¬(cu.turn:Int)<o)∨(p=v∧(cu.turn:Int)<o∧¬m≤40):=by
     rw[am.out]at F;simp only[Ar,beq_iff_eq,A0]at F;by_cases X:p=v
     ·by_cases h2:(cu.turn:Int)<o
      ·by_cases h3:m≤40
       ·exact absurd ⟨X,h2,h3⟩ F
       ·exact .inr (.inr ⟨X,h2,h3⟩)
      ·exact .inr (.inl ⟨X,h2⟩)
     ·exact .inl X
    rw[←I.out]at N;have I:=h_ N;clear N F;rcases bh with t|⟨t,D⟩|⟨t,D,K⟩
    ·have ac:(p==v)=false:=by simpa using t
     clear t;go_wp2_with fail
     first
      |(go_region_with
        (first
         |(go_at_call 153;refine V.out.mono ?_;rintro e ws ⟨rfl,u⟩;have B:=PS.out;have A:=y.out;rw[u]at B A)
         |(go_at_call 183;(try rw[←u]);refine U.out.mono ?_;rintro e j ⟨rfl,h⟩;have r:=PS.out;have l:=y.out;rw[h]at r l)
         |fail))
      |fail
     all_goals
      have C:Blk j w.heap.size [pr d 0,.int .i64 at_,.int .i64 cu.turn,n,.int .i64 cu.slot] 209:=by rw[←h];exact(J.alloc _).drew
      have R:Buf j w.heap.size 5 n cu.text:=by rw[←h];exact ai.alloc _
      have E:Keep [] w j:=by rw[←h];exact(Z.alloc _).drew
      clear r l;go_wp2
      go_roundw
      case rel=>exact⟨k+1,by omega,by go_num,by rw[I.out];exact⟨n,C,R,E⟩⟩
      case measure=>simp[intOf];omega
    ·have ac:(p==v)=true:=by simpa using t
     have z1:decide ((cu.turn:Int)<o)=false:=Ak D;clear t D;go_wp2_with fail
     first
      |(go_region_with
        (first
         |(go_at_call 153;refine V.out.mono ?_;rintro e ws ⟨rfl,u⟩;have B:=PS.out;have A:=y.out;rw[u]at B A)
         |(go_at_call 183;(try rw[←u]);refine U.out.mono ?_;rintro e j ⟨rfl,h⟩;have r:=PS.out;have l:=y.out;rw[h]at r l)
         |fail))
      |fail
     all_goals
      have C:Blk j w.heap.size [pr d 0,.int .i64 at_,.int .i64 cu.turn,n,.int .i64 cu.slot] 209:=by rw[←h];exact(J.alloc _).drew
      have R:Buf j w.heap.size 5 n cu.text:=by rw[←h];exact ai.alloc _
      have E:Keep [] w j:=by rw[←h];exact(Z.alloc _).drew
      clear r l;go_wp2
      go_roundw
      case rel=>exact⟨k+1,by omega,by go_num,by rw[I.out];exact⟨n,C,R,E⟩⟩
      case measure=>simp[intOf];omega
    ·have ac:(p==v)=true:=by simpa using t
     have z1:decide ((cu.turn:Int)<o)=true:=An D;have z2:decide ((m:Int)≤(40:Int))=false:=Ak (by omega);have z3:decide (m≤40)=false:=Ak K;clear t D K;go_wp2_with fail
     first
      |(go_region_with
        (first
         |(go_at_call 153;refine V.out.mono ?_;rintro e ws ⟨rfl,u⟩;have B:=PS.out;have A:=y.out;rw[u]at B A)
         |(go_at_call 183;(try rw[←u]);refine U.out.mono ?_;rintro e j ⟨rfl,h⟩;have r:=PS.out;have l:=y.out;rw[h]at r l)
         |fail))
      |fail
     all_goals
      have C:Blk j w.heap.size [pr d 0,.int .i64 at_,.int .i64 cu.turn,n,.int .i64 cu.slot] 209:=by rw[←h];exact(J.alloc _).drew
      have R:Buf j w.heap.size 5 n cu.text:=by rw[←h];exact ai.alloc _
      have E:Keep [] w j:=by rw[←h];exact(Z.alloc _).drew
      clear r l;go_wp2
      go_roundw
      case rel=>exact⟨k+1,by omega,by go_num,by rw[I.out];exact⟨n,C,R,E⟩⟩
      case measure=>simp[intOf];omega
  ·obtain rfl:k=2:=by omega
   have P:=Y.cell 2;simp only[List.getElem?_cons_succ,List.getElem?_cons_zero]at P;generalize ab:FV s0.now s1.now 2=cu at*;have al:=h_ ab;clear ab;by_cases S:cu.turn=0
   ·rw[S]at P
    go_wp2;go_ret2;exact⟨Q,.inl ⟨by rw[al.out];exact S,rfl⟩⟩
   ·have bv:((cu.turn:Int)==0)=false:=by simpa using S
    have bw:¬(cu.turn:Int)=0:=by omega
    have HT:=h_ S;clear S;go_wp2;go_ret2;rw[al.out];exact⟨Q,.inr ⟨HT.out,w.heap.size,rfl,Av _,n,Y,ah.mono (AA _)⟩⟩
end Go.Proofs.YtnhbioehiiifdaaGreat
