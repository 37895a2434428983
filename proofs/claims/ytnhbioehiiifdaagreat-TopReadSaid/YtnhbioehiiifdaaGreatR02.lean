import Derived.Test.YtnhbioehiiifdaaGreatR01
set_option maxRecDepth 100000
set_option maxHeartbeats 16000000
set_option linter.all false
namespace Go.Proofs.YtnhbioehiiifdaaGreat
open Go.ChangeShapes Go.WideShapes Go.ChangeAt Go.RowKit
theorem V5 {α:Type}(A old B X:List α)(h:X.length=old.length)(o:Nat)(a:o=A.length):BQ (A++(old++B)) o X=A++(X++B):=by subst a;unfold BQ;rw[DX,Ec,h];simp[Ec]
theorem Jo {w:World}{b:Nat}{T:TypeId}(A old B:List Nat)(o k cap n:Nat)(h:Blk w b (Bb (A++(old++B))) T)(l:o=A.length)(g:k=old.length)(j:n<18446744073709551616)(i:old.length≤8)(f:A.length≤1000000):
  Calls Tryz.prog 252 #[.slice (some ⟨b,o,none⟩) k cap,.int .u64 n] w fun e a=>e=.returned (.tuple #[])∧Blk a b (Bb (A++(be k n++B))) T∧Keep [b] w a:=by
 subst l g;rw[←Ax]at h;refine(OC A old B cap n h j i f).mono ?_;rintro e a ⟨rfl,c,d⟩;exact⟨rfl,by rw[←Ax];exact c,d⟩
theorem GH (a b:Nat):List.replicate (a+b) 0=List.replicate a 0++List.replicate b (0:Nat):=(List.replicate_append_replicate ..).symm
def Dg (i:Nat):Nat:=if i=0 then 42 else 48
def EX (i base:Nat):List Nat:=if i=0 then be 6 base else[]
def BK (a:List Nat)(i:Nat):List Nat:=(a.drop (st0 i)).take (Dg i)
def D8 (gen base run i:Nat)(a:List Nat):List Nat:=be 6 gen++(be 4 run++([i]++([(BK a i).length]++(EX i base++(BK a i++List.replicate (Dg i-(BK a i).length) 0)))))
def sgImg (gen base run i:Nat)(a:List Nat):List Nat:=be 4 (crcSum (D8 gen base run i a))++D8 gen base run i a
theorem GY (i:Nat):Dg i≤48∧42≤Dg i:=by unfold Dg;split<;>omega
theorem JF (i base:Nat):(EX i base).length =48-Dg i:=by unfold EX Dg;split<;>simp
theorem QP (i base:Nat):∀c∈EX i base,c<256:=by
 unfold EX
 split
 ·exact Fj _ _
 ·intro c h;cases h
theorem GZ (a:List Nat)(i:Nat):(BK a i).length ≤Dg i:=by unfold BK;rw[Az];omega
theorem OE (a:List Nat)(i:Nat):(BK a i).length =min (Dg i) (a.length-st0 i):=by unfold BK;rw[Az,A5]
theorem N0 (a:List Nat)(i:Nat)(h:∀c∈a,c<256):∀c∈BK a i,c<256:=fun c b=>h c (AB (AH b))
theorem Lh (gen base run i:Nat)(a:List Nat):(D8 gen base run i a).length =60:=by have b:=GY i;have c:=JF i base;have d:=GZ a i;unfold D8;simp only[Aj,WC,List.length_cons,List.length_nil,G5];omega
theorem Id (gen base run i:Nat)(a:List Nat)(g:i<256)(d:∀c∈a,c<256):∀c∈D8 gen base run i a,c<256:=by
 intro c b;have e:=GY i;have f:=GZ a i;unfold D8 at b;simp only[Ag,Ac,Am,AG,List.mem_replicate]at b;rcases b with h|h|h|h|h|h|h
 ·exact Fj _ _ c h
 ·exact Fj _ _ c h
 ·omega
 ·omega
 ·exact QP _ _ c h
 ·exact N0 a i d c h
 ·omega
theorem GG (gen base run i:Nat)(a:List Nat):(sgImg gen base run i a).length =64:=by unfold sgImg;rw[Aj,WC,Lh]
theorem Lg (gen base run i:Nat)(a:List Nat)(e:i<256)(b:∀c∈a,c<256):∀c∈sgImg gen base run i a,c<256:=by
 intro c d;rcases Ag.1 d with h|h
 ·exact Fj _ _ c h
 ·exact Id gen base run i a e b c h
def sgC (gen base run:Int)(vb vr:Value):List Value:=[.int .i64 gen,.int .i64 base,.int .i64 run,vb,vr]
section
variable {w:World} {p:Nat} {gen base run:Int} {vb vr:Value} {T:TypeId}
theorem Fl (h:Blk w p (sgC gen base run vb vr) T):w.cell? ⟨p,0,none⟩=some (.int .i64 gen):=h.cell 0
theorem OK (h:Blk w p (sgC gen base run vb vr) T):w.cell? ⟨p,1,none⟩=some (.int .i64 base):=h.cell 1
theorem Hv (h:Blk w p (sgC gen base run vb vr) T):w.cell? ⟨p,3,none⟩=some vb:=h.cell 3
theorem IL (h:Blk w p (sgC gen base run vb vr) T):w.cell? ⟨p,4,none⟩=some vr:=h.cell 4
end
def sectJ (n:World)(p a i gen base lo f:Nat)(m:Int)(d:Option Addr)(e:Nat)(vr k:Value)(b g h j:List Nat)(l:Nat→Bool)(x:Nat→Value)(c:World):Prop:=
 (l 15=false→Blk c a (Bb g) 5)∧
 (l 15=true→l 18=false→Blk c a (Bb h) 5)∧
 (l 18=true→Blk c a (Bb j) 5)∧
 (l 18=true→l 15=true)∧
 (Blk c p (sgC gen base m (.slice d b.length e) vr) 358)∧
 (Rd c (.slice d b.length e) b)∧
 (Keep [a] n c)∧
 (l 15=true→x 15=.int .i64 (f:Int)∧l 15=true)∧
 (l 16=true→x 16=.int .u8 (f:Int)∧l 15=true)∧
 SlV l x 0 [some (.slice (some ⟨a,0,none⟩) 64 64),some (.slice (some ⟨a,64-Dg i,none⟩) (Dg i) (Dg i)),some (pr p 0),some (pr p 0),some (pr p 3),some (.slice d b.length e),some (.int .i64 (i:Int)),some (.int .i64 (st0 i:Int)),some (pr p 0),some (pr p 0),some (pr p 3),some (.slice d b.length e),some (.int .i64 (b.length:Int)),some (.int .i64 (lo:Int)),some k,none,none,some (pr a 15),none]
theorem OA (l:List Nat)(a:∀c∈l,c<256):crcSum l<4294967296:=by unfold crcSum;omega
theorem XK {w:World}{base g:Nat}{E:TypeId}{cells:List Value}(h:Blk w g cells E)(c:base≤g)(n b:Nat)(a:cells.length=n*b)(d:n≤maxLen):w.ownsRow base E b (.slice (some ⟨g,0,none⟩) n n) n cells:=
 ⟨a,.inr ⟨g,n,cells.toArray,rfl,c,h,Av _,d,by simp[a],by simp[←a]⟩⟩
theorem Un (n:Int):goInt n=.int .i64 n:=rfl
theorem QT {w:World}{p:Nat}(gen base:Nat)(r0:Int)(vb vr:Value)(d:List Nat)(hs:Blk w p (sgC gen base r0 vb vr) 358)(hr:Rd w vb d)(hb:∀c∈d,c<256)(hl:d.length≤1000)(i run:Nat)(D:i<8)(hg:gen<281474976710656∧base<281474976710656∧run<4294967296):
  Calls Tryz.prog 276 #[pr p 0,.int .i64 (i:Int),.int .i64 (run:Int)] w fun e j=>∃v',e=.returned v'∧Buf j w.heap.size 5 v' (sgImg gen base run i d)∧Keep [] w j:=by
 obtain⟨i8,aw,cy,ax,cz⟩:=AU In;obtain⟨c5,c6,c7⟩:=hg;obtain⟨_,F,G,rfl,_,_⟩:=id hr;go_enter Tryz.func276,Tryz.ntmps276
 go_upto_region 2 with(at_make;refine DI _ rfl _ _ 81 rfl 5 i8 _ Ao aw cy (by rw[ax];rfl) (by decide) _ 64 rfl rfl (by omega) (by rw[cz];omega) (by omega) ?_)
 change Code.wp _ _ _ _ (w.alloc (.cells (Bb (List.replicate 4 0++List.replicate 6 0++List.replicate 54 0)).toArray 5));have bz:Blk (w.alloc (.cells (Bb (List.replicate 4 0++List.replicate 6 0++List.replicate 54 0)).toArray 5)) w.heap.size (Bb (List.replicate 4 0++List.replicate 6 0++List.replicate 54 0)) 5:=BY _ _ _;have K0:=(By [] w).alloc (.cells (Bb (List.replicate 4 0++List.replicate 6 0++List.replicate 54 0)).toArray 5);have au:=hs.keep K0 (by simp);have bl:Rd _ _ d:=hr.keep K0 (by simp);have c8:=hs.lt;generalize w.alloc (.cells (Bb (List.replicate 4 0++List.replicate 6 0++List.replicate 54 0)).toArray 5)=w0 at*;have y:=h_ (show(∀q,(Value.slice F d.length G).ownBlock =some q→0<d.length→q≠w.heap.size)∧p≠w.heap.size from⟨fun q f H=>by have:=hr.lo q f H;omega,by omega⟩);generalize b9:w.heap.size=xb at*;have c0:=h_ b9;have s0:=Fl au;refine BJ 7 (by kernel_rfl) (by kernel_rfl) ?_;simp only[List.take_succ_cons,List.take_zero,BB,Bj]
 repeat still_step
 refine Du ?_;clear s0;go_wp2_with fail;refine(Jo (List.replicate 4 0) (List.replicate 6 0) (List.replicate 54 0) 4 6 60 gen (by rw[←Ax];exact bz.drew) (by simp) (by simp) (by omega) (by simp) (by simp)).mono ?_;rintro e w1 ⟨rfl,ag,k1⟩;have br:=au.drew.keep k1 (by simp;exact y.out.2);have bm:Rd w1 _ d:=Yw (bl.keep (By [] _).drew (by simp)) k1 (fun q f H=>by simp;exact y.out.1 q f H);have K1:Keep [] w w1:=(K0.drew).then k1 (fun q f ak=>by simp at f;omega);clear bz au bl K0 k1 hs hr;rw[show(54:Nat)=4+50 from rfl,GH,←Ax]at ag;go_wp2_with fail;refine(Jo (List.replicate 4 0++be 6 gen) (List.replicate 4 0) (List.replicate 50 0) 10 4 54 run (by rw[←Ax];rw[←Ax]at ag;exact ag) (by simp) (by simp) (by omega) (by simp) (by simp)).mono ?_;rintro e M ⟨rfl,b0,t⟩;have bs:=br.keep t (by simp;exact y.out.2);have bn:Rd M _ d:=Yw bm t (fun q f H=>by simp;exact y.out.1 q f H);have K2:Keep [] w M:=K1.then t (fun q f ak=>by simp at f;omega);clear ag br bm K1 t;obtain⟨k,af⟩:∃P:List Nat,P=(List.replicate 4 0++be 6 gen)++be 4 run:=⟨_,rfl⟩;have o:k.length=14:=by rw[af];simp
 have ah:Blk M xb (Bb (k++List.replicate 50 0)) 5:=by rw[af,Ax];exact b0
 have cf:=h_ af;have f1:=ah.free 14
 have f0:M.cell? ⟨xb,14,none⟩=some (.int .u8 0):=by rw[ah.cell];unfold Bb;rw[AL,AC (by simp[o])];simp[o];rfl
 have b1:Blk (M.setCell ⟨xb,14,none⟩ (.int .u8 (i:Int))) xb (Bb (k++([i]++([0]++(List.replicate (48-Dg i) 0++List.replicate (Dg i) 0))))) 5:=by
  have R:=ah.set 14 (.int .u8 (i:Int))
  have h2:(Bb (k++List.replicate 50 0)).set 14 (.int .u8 (i:Int))=Bb (k++([i]++([0]++(List.replicate (48-Dg i) 0++List.replicate (Dg i) 0)))):=by have hw:=GY i;rw[←GH,show 48-Dg i+Dg i=48 by omega,show(50:Nat)=1+(1+48)from rfl,GH,GH];unfold Bb;rw[AL,AL,CU _ _ (by simp[o])];simp[o,bc]
  rw[h2]at R;exact R
 have Y:Keep [xb] M (M.setCell ⟨xb,14,none⟩ (.int .u8 (i:Int))):=(By _ _).setCell (.inl (by simp)) _;have bt:=bs.keep Y (by simp;exact y.out.2);have bo:Rd _ _ d:=Yw bn Y (fun q f H=>by simp;exact y.out.1 q f H);have K3:Keep [] w _:=K2.then Y (fun q f ak=>by simp at f;omega);clear b0 ah bs bn K2 Y af;go_upto_region 5 with fail;generalize M.setCell ⟨xb,14,none⟩ (.int .u8 (i:Int))=E at*;clear f0 f1;obtain⟨ao,ad,an,am⟩:=i_4 b1 bt bo K3;clear b1 bt bo K3;go_upto_if 30 with fail;go_cut [8] (fun s8 wc=>s8=.slice (some ⟨xb,64-Dg i,none⟩) (Dg i) (Dg i)∧Blk wc xb (Bb (k++([i]++([0]++(EX i base++List.replicate (Dg i) 0))))) 5∧Blk wc p (sgC gen base r0 (.slice F d.length G) vr) 358∧Rd wc (.slice F d.length G) d∧Keep [] w wc)
 case first=>
  rcases(show i=0∨1≤i by omega)with rfl|R
  ·have s1:=OK ad.out
   go_wp2_with fail;refine BJ 7 (by kernel_rfl) (by kernel_rfl) ?_;simp only[List.take_succ_cons,List.take_zero,BB,Bj]
   repeat still_step
   refine Du ?_;clear s1;go_wp2_with fail;refine(Jo (k++([0]++[0])) (List.replicate 6 0) (List.replicate 42 0) 16 6 48 base (by have:=ao.out.drew;simp only[Ax]at this⊢;exact this) (by simp[o]) (by simp) (by omega) (by simp) (by simp;omega)).mono ?_;rintro e w4 ⟨rfl,U,k4⟩;have cq:=h_ U;have ci:=h_ (ad.out.drew.keep k4 (by simp;exact y.out.2));have ch:Hid (Rd w4 (.slice F d.length G) d):=h_ (Yw (Yx an.out (By [] _).drew (by simp)) k4 (fun q f H=>by simp;exact y.out.1 q f H));have cd:Hid (Keep [] w w4):=h_ (am.out.drew.then k4 (fun q f ak=>by simp at f;omega));clear U k4;go_wp2_with fail;go_meet;exact⟨rfl,by have:=cq.out;simp only[Ax]at this⊢;exact this,ci.out,ch.out,cd.out⟩
  ·have q:((i:Int)==0)=false:=by simp;omega
   have hw:Dg i=48:=by unfold Dg;rw[Aw (by omega)]
   have hp:EX i base=[]:=by unfold EX;rw[Aw (by omega)]
   obtain⟨HW,HP⟩:=i_2 hw hp;clear hw hp;go_wp2_with fail;go_meet;refine⟨by rw[HW.out], ?_,ad.out,an.out,am.out⟩;have:=ao.out;rw[HW.out]at this⊢;rw[HP.out];exact this
 case rest=>
 obtain⟨rfl,U,bu,bp,bk⟩:=hcut;clear ao ad an am;obtain⟨lo,b5⟩:∃lo,lo=min (st0 i) d.length:=⟨_,rfl⟩;have b6:lo≤d.length:=by omega
 have b3:d.drop lo=d.drop (st0 i):=by
  by_cases h:st0 i≤d.length
  ·rw[b5,BZ h]
  ·rw[Bz (by omega),Bz (by omega)]
 obtain⟨g,aj⟩:∃g,g=(BK d i).length :=⟨_,rfl⟩;have ct:=GZ d i;have cv:=GY i;have al:=JF i base;have ce:Hid ((if d.length<st0 i then(d.length:Int)else(st0 i:Int))=(lo:Int)):=h_ (by split<;>omega);have cp:Hid (IntKind.u8.wrap (g:Int)=(g:Int)):=h_ (by simp[IntKind.wrap,IntKind.bits,IntKind.signed];omega);have bb:=h_ D;have ca:=h_ (show g≤48 by omega)
 obtain⟨SV,hcut,bx⟩:∃SV,(∀W:World,(Instr.sliceAt 81 (.slice F d.length G) (some (.int .i64 (lo:Int))) none none).run Tryz.prog W=.ok SV W)∧(∀W:World,Rd W (.slice F d.length G) d→Rv W 1 SV (d.length-lo) (Bb (d.drop lo))):=by refine⟨_,fun W=>IX (P:=Tryz.prog) (w:=W) 81 5 i8 Ao aw ax F d.length G lo b6,fun W Q=> ?_⟩;have:=Rv.cut Q lo d.length b6 (Av _) F G rfl;rw[D4,Ba (by rw[A5];omega)]at this;exact this
 obtain⟨cb,ck⟩:=i_2 hcut bx
 have cc:Hid (goInt ((min (d.length-lo) (Dg i):Nat):Int)=.int .i64 (g:Int)):=h_ (by
  rw[Un,aj,OE]
  congr 1
  omega)
 have cn:Hid ((Bb (d.drop lo)).take (Dg i)=Bb (BK d i)):=h_ (by rw[b3];unfold Bb BK;rw[List.map_take]);have ap:(k++([i]++([0]++(EX i base++List.replicate (Dg i) 0)))).length =64:=by simp[o,al];omega
 obtain⟨B0,aa⟩:∃B,B=k++([i]++([0]++(EX i base++List.replicate (Dg i) 0))):=⟨_,rfl⟩;obtain⟨Z,ab⟩:∃B,B=k++([i]++([0]++(EX i base++(BK d i++List.replicate (Dg i-g) 0)))):=⟨_,rfl⟩;obtain⟨B2,aq⟩:∃B,B=k++([i]++([g]++(EX i base++(BK d i++List.replicate (Dg i-g) 0)))):=⟨_,rfl⟩;have cs:Z.length=64:=by rw[ab];simp[o,al];omega
 have cm:Hid (64-Dg i+min (d.length-lo) (Dg i)≤(Bb B0).length):=h_ (by rw[Bd,aa,ap];omega);have co:Hid (64-Dg i+(Bb (BK d i)).length ≤(Bb B0).length):=h_ (by rw[Bd,Bd,aa,ap];omega)
 have bf:Hid (BQ (Bb B0) (64-Dg i) (Bb (BK d i))=Bb Z):=h_ (by
  have hA:(Bb (k++([i]++([0]++EX i base)))).length =64-Dg i:=by simp[o,al];omega
  rw[aa,ab,show Dg i=g+(Dg i-g) by omega,GH];have R:=V5 (Bb (k++([i]++([0]++EX i base)))) (Bb (List.replicate g 0)) (Bb (List.replicate (Dg i-g) 0)) (Bb (BK d i)) (by simp[aj]) (64-Dg i) hA.symm;rw[show g+(Dg i-g)=Dg i by omega];simp only[DW,Ax]at R⊢;exact R)
 have ba:Hid (∀W:World,Blk W xb (Bb Z) 5→W.cell? ⟨xb,15,none⟩=some (.int .u8 0)):=h_ (fun W Q=>by rw[Q.cell,ab];simp only[DW];rw[AC (by simp[o])];simp[o];rfl)
 have bg:Hid ((Bb Z).set 15 (.int .u8 (g:Int))=Bb B2):=h_ (by rw[ab,aq];simp only[DW];rw[CU _ _ (by simp[o])];simp[o,Bb,bc])
 have az:Hid (B2=List.replicate 4 0++D8 gen base run i d):=h_ (by rw[aq,cf.out];unfold D8;rw[←aj];simp only[Ax])
 rw[←aa]at U;clear hcut bx b5 aj ct cv al ap aa ab aq cs b3 D;go_wp2_with fail;refine wI (sectJ wc p xb i gen base lo g r0 F G vr SV d B0 Z B2) ?aS (.s ?a0<|.s ?a1<|.s ?a2<|.s ?a3<|.s ?a4<|.s ?a5<|.s ?a6<|.s ?a7<|.s ?a8<|.s ?a9<|.s ?a10<|.s ?a11<|.s ?a12<|.s ?a13<|.s ?a14<|.s ?a15<|.s ?a16<|.s ?a17<|.s ?a18<|.n) 19 ?aF
 case aS=>intro x;exact⟨fun _=>U.drew,fun h=>absurd h (by decide),fun h=>absurd h (by decide),fun h=>absurd h (by decide),bu.drew,Yx bp (By [] _).drew (by simp),(By _ _).drew,fun h=>absurd h (by decide),fun h=>absurd h (by decide),Yr⟩
 case a16=>
  intro l x j O D V;obtain⟨J,K,L,I,m,v,u,A,C,vS⟩:=O;have bh:=A (V.at rfl);have c4:=ca.out;refine Oq.of (b:= ?bS16) ?eS16 ?_
  case eS16=>simp only[Al,Act.put,A8,A7,A6,bh.1];rfl
  intro K' N;go_simp;exact N.go _ rfl ⟨J,K,L,I,m,v,u,A,fun _=>⟨A3 (Value.int .u8) cp.out,bh.2⟩,vS.s rfl⟩
 case a18=>
  intro l x j O D V;obtain⟨J,K,L,I,m,v,u,A,C,vS⟩:=O;have ae:=C (V.at rfl);have cr:=vS.a 17 (V.at rfl) rfl;have X:=K ae.2 D;have f1:=X.free 15;have f0:=ba.out j X;refine Oq.of (b:= ?bS18) ?eS18 ?_
  case eS18=>simp only[Al,Act.put,A8,A7,A6,ae.1,cr];rfl
  intro K' N;have bd:=h_ ae.2;clear ae;go_simp;have b8:=X.set 15 (.int .u8 (g:Int));rw[bg.out]at b8;have t:Keep [xb] j (j.setCell ⟨xb,15,none⟩ (.int .u8 (g:Int))):=(By _ _).setCell (.inl (by simp)) _;have ac:=y.out;exact N.go undef rfl ⟨fun h=>absurd (show l 15=false from h) (by simp[bd.out]),fun _ h=>Bool.noConfusion (show true=false from h),fun _=>b8,fun _=>bd.out,m.keep t (by simp;exact ac.2),Yw v t (fun q f ay=>by simp;exact ac.1 q f ay),u.trans t,A,C,vS.s rfl⟩
 case aF=>
  intro l x E O hl;obtain⟨J,K,L,I,m,v,u,A,C,vS⟩:=O;have ai:=L (hl 18 (by decide));clear A C J K L I U bu bp hl vS;simp only[Al,Act.put,A8,A7,A6];simp only[AP,Nat.reduceAdd];have K6:Keep [] w E:=bk.then u (fun q f ak=>by simp at f;omega);clear m v u bk;rw[az.out]at ai;have b4:=Lh gen base run i d;have b2:=Id gen base run i d (by have:=bb.out;omega) hb;have cu:=ai.lt;have HI:=h_ (show be 4 (crcSum (D8 gen base run i d))++D8 gen base run i d=sgImg gen base run i d from rfl);have m:=OA (D8 gen base run i d) b2
  generalize D8 gen base run i d=body at*;have HE:=h_ (rfl:crcSum body=crcSum body);generalize bw:crcSum body=S at m HI HE;have cj:=h_ bw.symm;clear bw HE az bf bg ba
  have bq:Rd E (.slice (some ⟨xb,4,none⟩) 60 60) body:=by unfold Rd;rw[b4];refine⟨by simp[b4],_,60,rfl,by omega,fun _=>⟨_,4,rfl,cu,fun i D=> ?_⟩⟩;rw[ai.cell];unfold Bb;rw[AL,AC (by simp)];simp
  have hp:Rv (E.alloc (.cells #[.slice (some ⟨xb,4,none⟩) 60 60] 81)).drew 1 (.slice (some ⟨E.heap.size,0,none⟩) 1 1) 1 [.slice (some ⟨xb,4,none⟩) 60 60]:=(Y1 E [.slice (some ⟨xb,4,none⟩) 60 60] 81 1 1 1 rfl (by omega) _ rfl).keep (By [] _).drew (by simp);have f:Rd (E.alloc (.cells #[.slice (some ⟨xb,4,none⟩) 60 60] 81)).drew (.slice (some ⟨xb,4,none⟩) 60 60) body:=Yx (Rv.alloc bq _) (By [] _).drew (by simp);have bi:Blk (E.alloc (.cells #[.slice (some ⟨xb,4,none⟩) 60 60] 81)).drew xb (Bb (List.replicate 4 0++body)) 5:=(ai.alloc _).drew;have av:=IG _ _ _ body hp f b2 (by omega) S cj.out;have ar:Calls Tryz.prog 252 #[.slice (some ⟨xb,0,none⟩) 4 64,.int .u64 S] (E.alloc (.cells #[.slice (some ⟨xb,4,none⟩) 60 60] 81)).drew fun e j=>e=.returned (.tuple #[])∧Blk j xb (Bb (be 4 S++body)) 5∧Keep [xb] (E.alloc (.cells #[.slice (some ⟨xb,4,none⟩) 60 60] 81)).drew j:=OC [] (List.replicate 4 0) body 64 S bi (by omega) (by simp) (by simp)
  obtain⟨SI,bv⟩:∃z:Int,z=(S:Int):=⟨_,rfl⟩;have c1:0≤SI:=by omega
  have c2:SI<4294967296:=by omega
  rw[←bv]at av ar;clear bv
  have cw:IntKind.u64.wrap SI=SI:=by simp[IntKind.wrap,IntKind.bits,IntKind.signed];omega
  obtain⟨cl,cg⟩:=i_2 av ar;clear av ar hp f bi bq;go_wp2_with fail
  go_region_with
   (first
    |(go_at_call 252;(try rw[←cx]);(try rw[cw]);refine cg.out.mono ?_;rintro e w4 ⟨rfl,bj,Y⟩)
    |(go_at_call 153;refine cl.out.mono ?_;rintro e ws ⟨rfl,cx⟩)
    |fail)
  rw[HI.out]at bj;have K7:Keep [] w w4:=((K6.alloc _).drew.then Y (by simp;omega));go_wp2;go_ret;exact⟨_,rfl,(XK (base:=xb) bj (Av _) 64 1 (by simp[GG]) (by unfold maxLen;omega):w4.ownsRow _ _ _ _ _ _)|>fun h=>by unfold Buf;rw[GG,b9];exact h,K7⟩
 all_goals
  intro l x j O D V;obtain⟨J,K,L,I,m,v,u,A,C,vS⟩:=O;have Q:=vS;have hD:=V;simp only[SlV]at Q
  try simp[BD,Region.binds]at hD
  refine Oq.of (by simp only[Al,Act.put,A8,A7,A6,hD,Q];rfl) ?_;clear hD Q;intro K' N
 case a7=>go_simp;refine(I6 i (by have:=bb.out;omega) (st0 i:Int) rfl).mono ?_;rintro e M ⟨rfl,rfl⟩;go_simp;exact N.go _ rfl ⟨J,K,L,I,m,v,u,A,C,vS.r⟩
 case a13=>go_simp;exact N.go _ rfl ⟨J,K,L,I,m,v,u,A,C,vS.q (A3 (Value.int .i64) ce.out)⟩
 case a15=>have b7:=J D;refine Mn (O2 rfl) (.tmp 42) (.tmp 55) 81 81 rfl 5 i8 Ao aw ax xb (64-Dg i) (Dg i) (Dg i) rfl SV (d.length-lo) (Bb (d.drop lo)) rfl (ck.out j v) (Fk _) (b7.there _ _ cm.out) ?_;rw[cc.out,cn.out];have X:=b7.setCells (Bb (BK d i)) (64-Dg i) j _ co.out;rw[bf.out]at X;have t:Keep [xb] j (j.setCells xb (64-Dg i) (Bb (BK d i))):=E6 _ _ _ _ (By _ _) (.inl (by simp));have ac:=y.out;exact N.go (.int .i64 (g:Int)) rfl ⟨fun h=>Bool.noConfusion (show true=false from h),fun _ _=>X,fun h=>absurd (I h) (by simp[D]),fun _=>rfl,m.keep t (by simp;exact ac.2),Yw v t (fun q f ay=>by simp;exact ac.1 q f ay),u.trans t,fun _=>⟨rfl,rfl⟩,fun h=>absurd ((C h).2) (by simp[D]),vS.s rfl⟩
 all_goals have c3:=Hv m;have hcut:=cb.out;go_simp;exact N.go _ rfl ⟨J,K,L,I,m,v,u,A,C,vS.r⟩
end Go.Proofs.YtnhbioehiiifdaaGreat
