import Derived.Test.YtnhbioehiiifdaaGreatD02
import Derived.Test.YtnhbioehiiifdaaGreatD03
import Derived.BigQuiet
set_option maxRecDepth 100000
set_option maxHeartbeats 16000000
set_option linter.all false
namespace Go.Proofs.YtnhbioehiiifdaaGreat
open Go.ChangeShapes Go.WideShapes Go.ChangeAt Go.RowKit
def lgC (d:Nat)(frm segs:Int)(vl:Value)(nx run:Int)(fr:Bool):List Value:=[pr d 0,.int .i64 frm,.int .i64 segs,vl,.int .i64 nx,.int .i64 run,.bool fr]
section
variable {w:World} {lb d:Nat} {frm segs nx run:Int} {vl:Value} {fr:Bool} {T:TypeId}
theorem Ug (h:Blk w lb (lgC d frm segs vl nx run fr) T):w.cell? ⟨lb,0,none⟩=some (pr d 0):=h.cell 0
theorem lg_1 (h:Blk w lb (lgC d frm segs vl nx run fr) T):w.cell? ⟨lb,1,none⟩=some (.int .i64 frm):=h.cell 1
theorem lg_2 (h:Blk w lb (lgC d frm segs vl nx run fr) T):w.cell? ⟨lb,2,none⟩=some (.int .i64 segs):=h.cell 2
theorem Hk (h:Blk w lb (lgC d frm segs vl nx run fr) T):w.cell? ⟨lb,3,none⟩=some vl:=h.cell 3
theorem PA (h:Blk w lb (lgC d frm segs vl nx run fr) T):w.cell? ⟨lb,4,none⟩=some (.int .i64 nx):=h.cell 4
theorem VP (h:Blk w lb (lgC d frm segs vl nx run fr) T):w.cell? ⟨lb,5,none⟩=some (.int .i64 run):=h.cell 5
theorem lg_6 (h:Blk w lb (lgC d frm segs vl nx run fr) T):w.cell? ⟨lb,6,none⟩=some (.bool fr):=h.cell 6
end
theorem Ek {S:List Nat}{a w:World}(h:Keep S a w)(n:Nat):Keep S a (w.drewN n):=⟨h.os,h.tape,h.output,h.size,h.block⟩
def writeJ (k:World)(d sb lb p c frm f g i e base run:Nat)(L:List Sec)(h:Sec)(segs nx:Int)(m:Int)(vl j n:Value)(fr:Bool)(b:List Nat)(l:Nat→Bool)(x:Nat→Value)(a:World):Prop:=
 (l 20=false→IsDev a d sb L c)∧
 (l 20=true→IsDev a d sb (L.set g ⟨BQ h.now 0 (sgImg e base run i b),h.lasts,true⟩) (c+1))∧
 (Blk a lb (lgC d frm segs vl nx run fr) 333)∧
 (Blk a p (sgC e base m j n) 358)∧
 (Rd a j b)∧
 (Keep [d,sb] k a)∧
 (l 20=true→l 19=true)∧
 (l 19=true→Buf a k.heap.size 5 (x 19) (sgImg e base run i b))∧
 SlV l x 0 [some (pr lb 0),some (pr lb 0),some (pr lb 0),some (pr d 0),some (pr lb 0),some (pr lb 0),some (pr lb 1),some (.int .i64 (frm:Int)),some (.int .i64 (f:Int)),some (.int .i64 ((f:Int)*8)),some (.int .i64 ((frm:Int)+(f:Int)*8)),some (.int .i64 (i:Int)),some (.int .i64 (g:Int)),some (pr p 0),some (.int .i64 (i:Int)),some (pr lb 0),some (pr lb 0),some (pr lb 5),some (.int .i64 (run:Int)),none,some (.int .i64 0),some (.int .i64 0)]
theorem Lz {w:World}{d sb lb p c:Nat}{L:List Sec}(g:IsDev w d sb L c)(hc:c<1099511627776)(frm segs:Nat)(vl:Value)(nx:Int)(run:Nat)(fr:Bool)(A:Blk w lb (lgC d frm segs vl nx run fr) 333)
  (b base:Nat) (W:Int) (J X:Value) (f:List Nat) (I:Blk w p (sgC b base W J X) 358) (hr:Rd w J f) (R:∀c∈f,c<256) (ab:f.length≤1000) (i:Nat) (H:i<8) (S:b<281474976710656∧base<281474976710656∧run<4294967296)
  (bg:0<b) (am:0<segs∧segs≤200) (bf:frm≤100000) (k:Nat) (ad:k=frm+(b-1) % segs*8+i) (U:k<L.length) (ag:∀q,J.ownBlock=some q→0<f.length→q∉ [d,sb]):
  Calls Tryz.prog 254 #[pr lb 0,pr p 0,.int .i64 (i:Int)] w fun e Y=>e=.returned (.int .i64 0)∧IsDev Y d sb (L.set k ⟨sgImg b base run i f,(L.getD k zeroSec).lasts,true⟩) (c+1)∧Keep [d,sb] w Y:=by
 obtain⟨E,V,ak⟩:=Gw U;have al:=g.ok E ak;have ac:L.getD k zeroSec=E:=by rw[Af,V];rfl
 have ah:BQ E.now 0 (sgImg b base run i f)=sgImg b base run i f:=by unfold BQ;rw[List.take_zero,List.nil_append,AP,Bz (by rw[GG,al.1];omega),AE]
 have ap:Hid (L.set k ⟨BQ E.now 0 (sgImg b base run i f),E.lasts,true⟩=L.set k ⟨sgImg b base run i f,(L.getD k zeroSec).lasts,true⟩):=h_ (by rw[ah,ac]);have ay:=h_ V;have ar:=h_ (Lg b base run i f (by omega) R);obtain⟨HC,ao,an,aq,HG⟩:=i_5 hc R ab H S
 have Z:=h_ (show lb∉ [d,sb]∧p∉ [d,sb]from⟨by
  have N:=A.ty.ne g.dev.ty (by decide);have O:=A.ty.ne g.secs.ty (by decide);simp;exact⟨N,O⟩,by
  have N:=I.ty.ne g.dev.ty (by decide);have O:=I.ty.ne g.secs.ty (by decide);simp;exact⟨N,O⟩⟩)
 have aw:=h_ ag;have av:Hid (∀q,w.heap.size≤q→q∉ [d,sb]):=h_ (fun q M=>by have:=g.dev.lt;have:=g.secs.lt;simp;omega);obtain⟨j,K⟩:∃j,j=(b-1) % segs:=⟨_,rfl⟩;have bk:j<segs:=by rw[K];exact C1 _ am.1
 have ae:(((b:Int)-1) % (segs:Int))=(j:Int):=by rw[K,show((b:Int)-1)=((b-1:Nat):Int) by omega];exact(Int.natCast_emod _ _).symm
 have bj:(((b:Int)-1).tmod (segs:Int))=(j:Int):=by rw[EO (by omega)];exact ae
 rw[←K]at ad;have au:Hid ((frm:Int)+(j:Int)*8+(i:Int)=(k:Int)):=h_ (by omega);have bo:=h_ (show j<200∧frm≤100000∧i<8 by omega);have az:Hid (IntKind.i64.wrap ((j:Int)*8)=(j:Int)*8):=h_ (by rw[A9];omega);have ba:Hid (IntKind.i64.wrap ((frm:Int)+(j:Int)*8)=(frm:Int)+(j:Int)*8):=h_ (by rw[A9];omega);have bb:Hid (IntKind.i64.wrap ((frm:Int)+(j:Int)*8+(i:Int))=(k:Int)):=h_ (by rw[A9];have:=au.out;omega);have bm:(segs:Int)≠0:=by omega
 have bi:1≤(b:Int):=by omega
 have s0:=Fl I;have l2:=lg_2 A;have bh:=S.1;clear V ak al ac ah K R ab H S hc ad bf;go_enter Tryz.func254,Tryz.ntmps254;go_upto_region 1 with fail
 go_quiet (fail)
 have D:=Ek (By [] w) nq;have z:=g.keep D (by simp) (by simp);have af:=A.keep D (by simp);have aj:=I.keep D (by simp);have ai:=Yx hr D (by simp);have bp:=h_ U;have HZ:=h_ (show w.heap.size≤(w.drewN nq).heap.size from D.size);clear g A I hr s0 l2 U bk ae bj bm bi bh am bg ag;generalize w.drewN nq=w1 at*;go_wp2_with fail;refine wI (writeJ w1 d sb lb p c frm j k i b base run L E segs nx W vl J X fr f) ?aS (.s ?a0<|.s ?a1<|.s ?a2<|.s ?a3<|.s ?a4<|.s ?a5<|.s ?a6<|.s ?a7<|.s ?a8<|.s ?a9<|.s ?a10<|.s ?a11<|.s ?a12<|.s ?a13<|.s ?a14<|.s ?a15<|.s ?a16<|.s ?a17<|.s ?a18<|.s ?a19<|.s ?a20<|.s ?a21<|.n) 22 ?aF
 case aS=>intro x;exact⟨fun _=>z.keep (By [] _).drew (by simp) (by simp),fun h=>absurd h (by decide),af.drew,aj.drew,Yx ai (By [] _).drew (by simp),(By _ _).drew,fun h=>absurd h (by decide),fun h=>absurd h (by decide),Yr⟩
 case aF=>intro l x w3 P A;obtain⟨B,z,m,y,v,t,C,u,vS⟩:=P;have aa:=vS.a 21 (A 21 (by decide)) rfl;have F:=z (A 20 (by decide));simp only[Al,Act.put,A8,A7,A6,aa];rw[ap.out]at F;have K9:Keep [d,sb] w w3:=(D.mono (by simp)).trans t;clear u m y v t z af aj ai aa C D A B vS;go_wp2;go_ret;exact⟨rfl,F,K9⟩
 all_goals
  intro l x Y P H g;obtain⟨B,z,m,y,v,t,C,u,vS⟩:=P;have Q:=vS;have F:=g;simp only[SlV]at Q
  try simp[BD,Region.binds]at F
  refine Oq.of (by simp only[Al,Act.put,A8,A7,A6,F,Q];rfl) ?_;clear F Q;intro K' G
 case a9=>go_simp;exact G.go _ rfl ⟨B,z,m,y,v,t,C,u,vS.q (A3 (Value.int .i64) az.out)⟩
 case a10=>go_simp;exact G.go _ rfl ⟨B,z,m,y,v,t,C,u,vS.q (A3 (Value.int .i64) ba.out)⟩
 case a12=>go_simp;exact G.go _ rfl ⟨B,z,m,y,v,t,C,u,vS.q (A3 (Value.int .i64) bb.out)⟩
 case a19=>go_simp;refine(QT b base W J X f y v ao.out an.out i run aq.out HG.out).mono ?_;rintro e w2 ⟨v2,rfl,bd,o⟩;go_simp;exact G.go v2 rfl ⟨fun h=>(B h).keep o (by simp) (by simp),fun h=>absurd (C h) (by simp[H]),m.keep o (by simp),y.keep o (by simp),Yx v o (by simp),t.trans (o.mono (by simp)),fun _=>rfl,fun _=>bd.mono t.size,vS.s rfl⟩
 case a20=>have bc:=u (g.at rfl);have ax:Hid (l 19=true):=h_ (g.at rfl);go_simp;have bl:=bc.rd;refine(I0 (B H) k E ay.out _ (sgImg b base run i f) bl (by rw[GG];omega) (ar.out) HC.out).mono ?_;rintro e w2 ⟨rfl,be,o⟩;go_simp;exact G.go _ rfl ⟨fun h=>Bool.noConfusion (show true=false from h),fun _=>be,m.keep o (Z.out.1),y.keep o (Z.out.2),Yw v o (fun q M bn=>aw.out q M bn),t.trans o,fun _=>ax.out,fun h=>Buf.keep (u h) o (fun q M=>av.out q (AJ HZ.out (Buf.lt (u h) q M).1)),vS.r⟩
 all_goals have c0:=Ug m;have c1:=lg_1 m;have c5:=VP m;go_simp;exact G.go _ rfl ⟨B,z,m,y,v,t,C,u,vS.r⟩
def QJ (r:World)(p g h o c b:Nat)(m:Int)(f q i j:Value)(n:Option Addr)(k X:List Nat)(l:Nat→Bool)(x:Nat→Value)(a:World):Prop:=
 ∃e d,(Blk a p (sgC e d m f q) 358)∧
 (l 12=true→e=(c:Int))∧
 (l 15=true→d=(b:Int))∧
 (Buf a 0 5 (.slice (some ⟨g,0,none⟩) 64 h) X)∧
 (Buf a 0 5 f k)∧
 (Keep [p] r a)∧
 SlV l x 0 [some (pr p 0),some (pr p 0),some (.slice (some ⟨g,0,none⟩) 64 h),some i,some (.int .u64 (c:Int)),some (.int .i64 (c:Int)),some (.slice n 48 o),some j,some (.int .u64 (b:Int)),some (.int .i64 (b:Int)),some (pr p 0),some (pr p 0),none,some (pr p 0),some (pr p 1),none]
def Vb (s:World)(p b c z m f g t u o k i w:Nat)(q:Int)(r e h v:Value)(y j:Option Addr)(n X:List Nat)(l:Nat→Bool)(x:Nat→Value)(a:World):Prop:=
 ∃d,(Blk a p (sgC (o:Int) (k:Int) q (.slice j n.length m) r) 358)∧
 (Buf a 0 5 (.slice (some ⟨b,0,none⟩) 64 c) X)∧
 (Keep [] s a)∧
 (l 2=true→x 2=.slice (some ⟨d,0,none⟩) 1 1∧Blk a d [e] 81)∧
 SlV l x 0 [some (.slice (some ⟨b,0,none⟩) 64 c),some e,none,some (.int .u32 (f:Int)),some (.int .u64 (f:Int)),some (.slice (some ⟨b,0,none⟩) 64 c),some h,some (.int .u64 (g:Int)),some (.bool true),some (.bool true),none,none,none,none,none,none,none,none,some undef,some (.bool true),some (.bool true),none,none,none,none,none,some undef,some (.bool true),some (.bool true),none,none,none,none,none,some undef,some (.bool true),some (.bool true),none,none,none,none,none,none,some undef,some (.bool true),some (.bool true),none,none,none,none,none,none,none,some undef,some (.bool true)]
structure Fld (X:List Nat) (SN FN GN RN BN i cl:Nat):Prop where
 len:X.length=64
 byte:∀c∈X,c<256
 s:SN=crcSum (X.drop 4)
 f:FN=unbe (X.take 4)
 g:GN=unbe ((X.drop 4).take 6)
 r:RN=unbe ((X.drop 10).take 4)
 b:BN=unbe ((X.drop 16).take 6)
 i:i=X.getD 14 0
 c:cl=X.getD 15 0
theorem U9 (l:List Nat)(k:Nat):(Bb l).drop k=Bb (l.drop k):=by simp[Bb]
theorem Sf (l:List Nat)(k:Nat):(Bb l).take k=Bb (l.take k):=by simp[Bb]
theorem EA (l:List Nat)(k:Nat)(b:l.length≤k)(a:∀c∈l,c<256):unbe l<256^k:=AW (KF l a) (EM (by omega) b)
abbrev Rcd:=Nat×List Nat
def J5 (r:Rcd):List Nat:=be 2 r.2.length++(be 6 r.1++r.2)
def encRs (l:List Rcd):List Nat:=(l.map J5).flatten
def Rcd.ok (r:Rcd):Prop:=1≤r.2.length∧r.2.length≤300∧r.1<281474976710656∧∀c∈r.2,c<256
theorem Fr (r:Rcd):(J5 r).length =8+r.2.length:=by unfold J5;simp;omega
theorem Uw (r:Rcd)(h:r.ok):∀c∈J5 r,c<256:=by
 intro c d;unfold J5 at d;rcases Ag.1 d with a|a
 ·exact Fj _ _ c a
 ·rcases Ag.1 a with b|b
  ·exact Fj _ _ c b
  ·exact h.2.2.2 c b
theorem Ho (l:List Rcd)(h:∀r∈l,r.ok):∀c∈encRs l,c<256:=by intro c a;unfold encRs at a;obtain⟨x,e,b⟩:=DY.1 a;obtain⟨r,d,rfl⟩:=AI.1 e;exact Uw r (h r d) c b
theorem Hn (l:List Rcd)(r:Rcd):encRs (l++[r])=encRs l++J5 r:=by unfold encRs;simp
structure Rc where
 r:Rcd
 v:Value
def rcC (y:Rc):List Value:=[.int .i64 (y.r.1:Int),y.v]
def rcCs (L:List Rc):List Value:=(L.map rcC).flatten
theorem TH (L:List Rc)(y:Rc):rcCs (L++[y])=rcCs L++rcC y:=by unfold rcCs;simp
structure RRow (w:World) (base:Nat) (v:Value) (L:List Rc):Prop where
 own:w.ownsRow base 353 2 v L.length (rcCs L)
 ok:∀y∈L,Buf w base 5 y.v y.r.2∧y.v.oneCell'=true
def Mj (v:Value)(L:List Rc):List Nat:=v.ownBlock.toList++L.flatMap (fun y=>y.v.ownBlock.toList)
theorem RRow.nil (w:World)(base:Nat):RRow w base (.slice none 0 0) []:=⟨⟨rfl,.inl ⟨rfl,rfl⟩⟩,by simp⟩
theorem RRow.slice {w:World}{base:Nat}{v:Value}{L:List Rc}(h:RRow w base v L):∃a cap,v=.slice a L.length cap:=A4 h.own
theorem RRow.lt {w:World}{base:Nat}{v:Value}{L:List Rc}(h:RRow w base v L):∀q∈Mj v L,base≤q∧q<w.heap.size:=by
 intro q a;unfold Mj at a;rcases Ag.1 a with a|a
 ·rcases h.own.2 with⟨rfl,_⟩|⟨g,cap,e,rfl,b,c,_⟩
  ·cases a
  ·simp[Value.ownBlock]at a
   subst a;exact⟨b,(Cd.1 c).1⟩
 ·obtain⟨y,d,a⟩:=Bm.1 a
  exact(h.ok y d).1.lt q (Ae.1 a)
theorem RRow.keep {w f:World}{base:Nat}{v:Value}{L:List Rc}{S:List Nat}(h:RRow w base v L)(k:Keep S w f)(d:∀q∈Mj v L,q∉S):RRow f base v L:=by
 refine⟨⟨h.own.1, ?_⟩,fun y c=>⟨(h.ok y c).1.keep k (fun b a=>d b (AQ _ (Bm.2 ⟨y,c,Ae.2 a⟩))),(h.ok y c).2⟩⟩;rcases h.own.2 with j|⟨g,cap,i,rfl,a,e,r⟩
 ·exact .inl j
 ·refine .inr ⟨g,cap,i,rfl,a, ?_,r⟩
  rw[k.block g (Cd.1 e).1 (d g (A2 _ (by simp[Value.ownBlock])))];exact e
theorem RRow.still {w a:World}{base:Nat}{v:Value}{L:List Rc}(h:RRow w base v L)(k:Keep [] w a):RRow a base v L:=h.keep k (by simp)
theorem RRow.ty {w:World}{base:Nat}{v:Value}{L:List Rc}(h:RRow w base v L):∀q∈Mj v L,Ty w q 353∨Ty w q 5:=by
 intro q a;unfold Mj at a;rcases Ag.1 a with a|a
 ·rcases h.own.2 with⟨rfl,_⟩|⟨g,cap,d,rfl,e,b,_⟩
  ·cases a
  ·simp[Value.ownBlock]at a
   subst a;exact .inl ⟨_,_,b⟩
 ·obtain⟨y,c,a⟩:=Bm.1 a
  exact .inr ((h.ok y c).1.own.ty q (Ae.1 a))
theorem Tryz.infoRec:(Tryz.prog.info? 353).map (fun i=>(i.zero,i.size,i.bytes))=some (some (.agg #[.int .i64 0,.slice none 0 0]),2,32):=by kernel_rfl
def YF:=@Tryz.infoRec
theorem RRow.rty {w:World}{base:Nat}{v:Value}{L:List Rc}(h:RRow w base v L){q:Nat}{T:TypeId}(d:Ty w q T)(b:T≠353):q∉v.ownBlock.toList:=by
 intro a;rcases h.own.2 with⟨rfl,_⟩|⟨g,cap,e,rfl,f,c,_⟩
 ·cases a
 ·simp[Value.ownBlock]at a
  subst a;exact d.ne ⟨_,_,c⟩ b rfl
theorem RRow.snoc {w d:World}{base:Nat}{v e:Value}{L:List Rc}(h:RRow w base v L)(y:Rc)(c:Buf w base 5 y.v y.r.2)(f:y.v.oneCell'=true)(i:d.ownsRow base 353 2 e (L.length+1) (rcCs L++rcC y))(k:Keep v.ownBlock.toList w d):RRow d base e (L++[y]):=by
 refine⟨by rw[Aj,TH];exact i,fun z a=> ?_⟩;rcases Ag.1 a with a|a
 ·exact⟨(h.ok z a).1.keep k (fun b c=>h.rty ((h.ok z a).1.own.ty b c) (by decide)),(h.ok z a).2⟩
 ·simp only[Ac,Am,AG]at a
  subst a;exact⟨c.keep k (fun b g=>h.rty (c.own.ty b g) (by decide)),f⟩
theorem QO {P:Program}{t:TypeId}{e:TypeId}(w:World)(b:Nat)(n:Int)(v:Value)(d:Blk w b [.int .i64 n,v] e)(g:P.underlying t=some (.slice e))(c:v.oneCell'=true):
  Src P 2 t (.slice (some ⟨b,0,none⟩) 1 1) 1 [.int .i64 n,v] w:=by
 refine CC _ g ⟨b,0,none⟩ 1 1 [.int .i64 n,v] rfl (fun j x f=> ?_) (fun u a=> ?_)
 ·rw[Gq,AP,d.cell,f]
 ·simp only[Ac,Am,AG]at a
  rcases a with rfl|rfl
  ·rfl
  ·exact c
theorem Fld.any (X:List Nat)(b:X.length=64)(a:∀c∈X,c<256):Fld X (crcSum (X.drop 4)) (unbe (X.take 4)) (unbe ((X.drop 4).take 6)) (unbe ((X.drop 10).take 4)) (unbe ((X.drop 16).take 6)) (X.getD 14 0) (X.getD 15 0):=
 ⟨b,a,rfl,rfl,rfl,rfl,rfl,rfl,rfl⟩
section
variable (gen base run i:Nat) (buf:List Nat)
theorem Lf:(sgImg gen base run i buf).drop 4=D8 gen base run i buf:=by unfold sgImg;exact Cp (by simp)
theorem Vf:(sgImg gen base run i buf).take 4=be 4 (crcSum (D8 gen base run i buf)):=by unfold sgImg;exact Ca (by simp)
theorem MB:(sgImg gen base run i buf).drop 10=be 4 run++([i]++([(BK buf i).length]++(EX i base++(BK buf i++List.replicate (Dg i-(BK buf i).length) 0)))):=by rw[show(10:Nat)=4+6 from rfl,←Bu,Lf];unfold D8;exact Cp (by simp)
theorem JG:(sgImg gen base run i buf).drop 14=[i]++([(BK buf i).length]++(EX i base++(BK buf i++List.replicate (Dg i-(BK buf i).length) 0))):=by rw[show(14:Nat)=10+4 from rfl,←Bu,MB];exact Cp (by simp)
theorem LE (l:List Nat)(k j:Nat):l.getD (k+j) 0=(l.drop k).getD j 0:=by rw[Af,Af,Bp]
theorem I7 (b:i<256)(a:∀c∈buf,c<256)(e:gen<281474976710656∧run<4294967296):
  Fld (sgImg gen base run i buf) (crcSum (D8 gen base run i buf)) (crcSum (D8 gen base run i buf)) gen run (unbe (((sgImg gen base run i buf).drop 16).take 6)) i (BK buf i).length :=by
 have d:=OA _ (Id gen base run i buf b a);refine⟨GG _ _ _ _ _,Lg gen base run i buf b a,by rw[Lf], ?_, ?_, ?_,rfl, ?_, ?_⟩
 ·rw[Vf,FD,AR (by omega)]
 ·rw[Lf]
  unfold D8;rw[Ca (by simp),FD,AR (by omega)]
 ·rw[MB,Ca (by simp),FD,AR (by omega)]
 ·rw[show(14:Nat)=14+0 from rfl,LE,JG]
  rfl
 ·rw[show(15:Nat)=14+1 from rfl,LE,JG]
  rfl
end
theorem Ic (i:Nat):st0 (i+1)=st0 i+Dg i:=by unfold st0 Dg;split<;>omega
theorem Vd {i j:Nat}(h:i≤j):st0 i≤st0 j:=by unfold st0;omega
structure SegDev (L:List Sec) (a gen base:Nat) (buf:List Nat) (rn:Nat→Nat):Prop where
 on:∀i,i<8→(i=0∨st0 i<buf.length)→(L.getD (a+i) zeroSec).now =sgImg gen base (rn i) i buf
 run:∀i,i<8→rn i<4294967295
 up:∀i j,i≤j→j<8→(j=0∨st0 j<buf.length)→rn i≤rn j
 off:∀i,i<8→0<i→buf.length≤st0 i→crcSum ((L.getD (a+i) zeroSec).now.drop 4)≠unbe ((L.getD (a+i) zeroSec).now.take 4)∨unbe (((L.getD (a+i) zeroSec).now.drop 4).take 6)≠gen
def runOf (s:Sec):Nat:=unbe ((s.now.drop 10).take 4)
theorem O7 {w:World}{p g m bv bq:Nat}{ag:Int}{vb vr:Value}{L X:List Nat}{K FN C RN H i0 cl i:Nat}(hF:Fld X K FN C RN H i0 cl)(bb:64≤m)(ac:Blk w p (sgC bv bq ag vb vr) 358)(ab:Buf w 0 5 vb L)(J:Buf w 0 5 (.slice (some ⟨g,0,none⟩) 64 m) X)
  (hi:i<8) (af ad:Nat) (u:(i=0∧af=C∧ad=H)∨(0<i∧af=bv∧ad=bq)) (dc:K≠FN):
  Calls Tryz.prog 294 #[pr p 0,.int .i64 (i:Int),.slice (some ⟨g,0,none⟩) 64 m] w fun e o=>e=.returned (.bool false)∧Blk o p (sgC af ad ag vb vr) 358∧Keep [p] w o:=by
 have Q8:Hid ((((K:Nat):Int) !=((FN:Nat):Int))=true):=h_ (by simp;omega);clear dc;obtain⟨Z,U,dy,V,dz⟩:=AU In;obtain⟨az,T,av,cc,ar,au,ap,cn,ay⟩:=hF;obtain⟨ba,ae,rfl⟩:=ab.slice;have D:Hid (∀W:World,Buf W 0 5 (.slice (some ⟨g,0,none⟩) 64 m) X→Rv W 1 (.slice (some ⟨g,0,none⟩) 64 m) 64 (Bb X)):=h_ (fun W h=>by have:=h.rd;unfold Rd at this;rw[az]at this;exact this);obtain⟨ah,bz,cg,_⟩:=D3 (P:=Tryz.prog) 81 5 Z Ao U V (some ⟨g,0,none⟩) 64 m (Bb X) 4 10 4 10 rfl rfl (by omega) (by omega) bb;obtain⟨bp,da,ce,_⟩:=D3 (P:=Tryz.prog) 81 5 Z Ao U V (some ⟨g,0,none⟩) 64 m (Bb X) 10 14 10 14 rfl rfl (by omega) (by omega) bb;obtain⟨S4,bx,cf,_⟩:=Fi (P:=Tryz.prog) 81 5 Z Ao U V (some ⟨g,0,none⟩) 64 m (Bb X) 4 4 rfl (by omega);obtain⟨an,bw,cd,_⟩:=ID (P:=Tryz.prog) 81 5 Z Ao U V (some ⟨g,0,none⟩) 64 m (Bb X) 4 4 rfl (by omega) bb;obtain⟨T0,aq,ch,aw⟩:=Fi (P:=Tryz.prog) 81 5 Z Ao U V (some ⟨g,0,none⟩) 64 m (Bb X) 16 16 rfl (by omega);have ao:∀k,(Bb X).drop k=Bb (X.drop k):=U9 X;have bt:∀k,(Bb X).take k=Bb (X.take k):=Sf X;have c2:Hid (∀W:World,Rv W 1 (.slice (some ⟨g,0,none⟩) 64 m) 64 (Bb X)→Rv W 1 ah 6 (Bb ((X.drop 4).take 6))):=h_ (fun W h=>by have:=cg W h;rw[D4]at this;exact this);have c1:Hid (∀W:World,Rv W 1 (.slice (some ⟨g,0,none⟩) 64 m) 64 (Bb X)→Rv W 1 bp 4 (Bb ((X.drop 10).take 4))):=h_ (fun W h=>by have:=ce W h;rw[D4]at this;exact this);have bh:Hid (∀W:World,Rv W 1 (.slice (some ⟨g,0,none⟩) 64 m) 64 (Bb X)→Rv W 1 S4 60 (Bb (X.drop 4))):=h_ (fun W h=>by have:=cf W h;rw[ao]at this;exact this);obtain⟨_,dj,dk,de,_,_⟩:=id (bh.out w (D.out w J));subst de;have c0:Hid (∀W:World,Rv W 1 (.slice (some ⟨g,0,none⟩) 64 m) 64 (Bb X)→Rv W 1 an 4 (Bb (X.take 4))):=h_ (fun W h=>by have:=cd W h;rw[bt]at this;exact this);have aa:Hid (∀W:World,Rv W 1 (.slice (some ⟨g,0,none⟩) 64 m) 64 (Bb X)→Rv W 1 T0 48 (Bb (X.drop 16))):=h_ (fun W h=>by have:=ch W h;rw[ao]at this;exact this);obtain⟨_,v,y,dh,cq,_⟩:=id (aa.out w (D.out w J));subst dh;have br:∀k,(Bb (X.drop 16)).drop k=Bb ((X.drop 16).drop k):=U9 _;have bs:∀k,(Bb (X.drop 16)).take k=Bb ((X.drop 16).take k):=Sf _;obtain⟨T6,ca,ci,_⟩:=ID (P:=Tryz.prog) 81 5 Z Ao U V v 48 y (Bb (X.drop 16)) 6 6 rfl (by omega) cq;obtain⟨c8,cb,cj,ck⟩:=Fi (P:=Tryz.prog) 81 5 Z Ao U V v 48 y (Bb (X.drop 16)) 6 6 rfl (by omega)
 have bi:Hid (∀W:World,Rv W 1 (.slice v 48 y) 48 (Bb (X.drop 16))→Rv W 1 T6 6 (Bb ((X.drop 16).take 6))):=h_ (fun W h=>by have:=ci W h;rw[bs]at this;exact this);have al:Hid (∀W:World,Rv W 1 (.slice v 48 y) 48 (Bb (X.drop 16))→Rv W 1 c8 42 (Bb (X.drop 22))):=h_ (fun W h=>by have:=cj W h;rw[br,Bu]at this;exact this);obtain⟨_,tb,cs,dg,_,_⟩:=id (al.out w (aa.out w (D.out w J)));subst dg;obtain⟨cw,cv,cu,bd,be⟩:=i_5 bz bx bw ca cb;have am:=h_ (show(Value.slice v 48 y).ownBlock =some g∧(Value.slice tb 42 cs).ownBlock =some g from⟨aw,ck.trans aw⟩);have df:∀(Y:List Nat),(∀c∈Y,c∈X)→∀c∈Y,c<256:=fun Y h c A=>T c (h c A)
 have bn:Hid (∀c∈(X.drop 4).take 6,c<256):=h_ (fun c A=>T c (AB (AH A)));have bo:Hid (∀c∈(X.drop 10).take 4,c<256):=h_ (fun c A=>T c (AB (AH A)));have bl:Hid (∀c∈(X.drop 16).take 6,c<256):=h_ (fun c A=>T c (AB (AH A)));have bm:Hid (∀c∈X.drop 4,c<256):=h_ (fun c A=>T c (AB A));have c7:Hid (∀c∈X.take 4,c<256):=h_ (fun c A=>T c (AH A));have aj:Hid (((X.drop 4).take 6).length =6):=h_ (by rw[Az,A5];omega);have ak:Hid (((X.drop 10).take 4).length =4):=h_ (by rw[Az,A5];omega);have ai:Hid (((X.drop 16).take 6).length =6):=h_ (by rw[Az,A5];omega);have bf:Hid ((X.drop 4).length =60):=h_ (by rw[A5];omega);have bg:Hid ((X.take 4).length =4):=h_ (by rw[Az];omega);have dv:C<281474976710656:=by rw[ar];exact EA _ 6 (by rw[aj.out];omega) bn.out
 have dw:RN<4294967296:=by rw[au];exact EA _ 4 (by rw[ak.out];omega) bo.out
 have du:H<281474976710656:=by rw[ap];exact EA _ 6 (by rw[ai.out];omega) bl.out
 have dx:K<4294967296:=by rw[av];exact OA _ bm.out
 have dd:cl<256:=by rw[ay,Af,Ad (by omega)];exact T _ (BS _)
 obtain⟨cy,cz,ct,c3,cx⟩:=i_5 ar au ap av cc;have c5:Hid (IntKind.i64.wrap (C:Int)=(C:Int)):=h_ (by rw[A9];omega);have c4:Hid (IntKind.i64.wrap (H:Int)=(H:Int)):=h_ (by rw[A9];omega);have c6:Hid (IntKind.u64.wrap (K:Int)=(K:Int)):=h_ (by simp[IntKind.wrap,IntKind.bits,IntKind.signed];omega);have ds:Hid (IntKind.i64.wrap (cl:Int)=(cl:Int)):=h_ (by rw[A9];omega);have dt:Hid (IntKind.i64.wrap (i:Int)=(i:Int)):=h_ (by rw[A9];omega);obtain⟨dn,dp⟩:=i_2 dd hi
 have dl:Hid (∀W:World,Buf W 0 5 (.slice (some ⟨g,0,none⟩) 64 m) X→W.cell? ⟨g,14,none⟩=some (.int .u8 (i0:Int))):=h_ (fun W h=>by have h1:=(h.own.cell (n:=64) (by rw[Bd,az]) 14 (by omega)).1;rw[h1,EL X 14 (by omega),←cn];rfl)
 have dm:Hid (∀W:World,Buf W 0 5 (.slice (some ⟨g,0,none⟩) 64 m) X→W.cell? ⟨g,15,none⟩=some (.int .u8 (cl:Int))):=h_ (fun W h=>by have h1:=(h.own.cell (n:=64) (by rw[Bd,az]) 15 (by omega)).1;rw[h1,EL X 15 (by omega),←ay];rfl)
 have bj:Hid (∀q,(Value.slice (some ⟨g,0,none⟩) 64 m).ownBlock =some q→q∉ [p]):=h_ (fun q B hm=>by simp only[Ah]at hm;subst hm;exact(J.ty' _ B).ne ac.ty (by decide) rfl)
 have bc:Hid (∀q,(Value.slice ba L.length ae).ownBlock =some q→q∉ [p]):=h_ (fun q B hm=>by simp only[Ah]at hm;subst hm;exact(ab.ty' _ B).ne ac.ty (by decide) rfl)
 have H2:=h_ u;clear bz bx bw ca cb cg ce cf cd ch ci cj ao bt br bs ar au ap av cc cn ay u aw ck cq df hi;go_enter Tryz.func294,Tryz.ntmps294;go_upto_if 12 with fail;go_cut [7] (fun s7 wc=>∃v y,s7=.slice v (Dg i) y∧(Value.slice v (Dg i) y).ownBlock =some g∧Rv wc 1 (.slice v (Dg i) y) (Dg i) (Bb (X.drop (64-Dg i)))∧Blk wc p (sgC af ad ag (.slice ba L.length ae) vr) 358∧Buf wc 0 5 (.slice (some ⟨g,0,none⟩) 64 m) X∧Buf wc 0 5 (.slice ba L.length ae) L∧Keep [p] w wc)
 case first=>
  rcases H2.out with⟨h0,Q,O⟩|⟨h0,Q,O⟩
  ·subst h0
   obtain⟨EG,EB⟩:=i_2 Q O;clear Q O;have dr:Hid (Dg 0=42):=h_ rfl;clear aq;go_wp2_with fail;refine wI (QJ w p g m y C H ag (.slice ba L.length ae) vr ah T6 v L X) ?aS (.s ?a0<|.s ?a1<|.s ?a2<|.s ?a3<|.s ?a4<|.s ?a5<|.s ?a6<|.s ?a7<|.s ?a8<|.s ?a9<|.s ?a10<|.s ?a11<|.s ?a12<|.s ?a13<|.s ?a14<|.s ?a15<|.n) 16 ?aF
   case aS=>intro x;exact⟨_,_,ac.drew,fun h=>absurd h (by decide),fun h=>absurd h (by decide),J.keep (By [] _).drew (by simp),ab.keep (By [] _).drew (by simp),(By _ _).drew,Yr⟩
   case aF=>intro l x w3 I hl;obtain⟨N,M,d,F,E,f,z,j,vS⟩:=I;have Q:=F (hl 12 (by decide));have O:=E (hl 15 (by decide));subst Q O;clear F E hl vS;simp only[Al,Act.put,A8,A7,A6];simp only[AP,Nat.reduceAdd];obtain⟨HS,HX,HB,HK⟩:=i_4 d f z j;have hcut:=be.out;clear d f z j ac J ab;go_wp2_with fail;go_meet;exact⟨tb,cs,rfl,am.out.2,al.out _ (aa.out _ (D.out _ HX.out)),(by rw[EG.out,EB.out];exact HS.out),HX.out,HB.out,HK.out⟩
   all_goals
    intro l x o I hi hd;obtain⟨N,M,d,F,E,f,z,j,vS⟩:=I;have S:=vS;have R:=hd;simp only[SlV]at S
    try simp[BD,Region.binds]at R
    refine Oq.of (by simp only[Al,Act.put,A8,A7,A6,R,S];rfl) ?_;clear R S;intro K' t
   case a4=>go_simp;refine(CB ah ((X.drop 4).take 6) (Yv (c2.out o (D.out o f)) aj.out) bn.out (by rw[aj.out];omega) C cy.out).mono ?_;rintro e w2 ⟨rfl,rfl⟩;go_simp;exact t.go _ rfl ⟨N,M,d,F,E,f,z,j,vS.r⟩
   case a5=>go_simp;exact t.go _ rfl ⟨N,M,d,F,E,f,z,j,vS.q ((by first|rfl|exact A3 (Value.int .i64) c5.out))⟩
   case a7=>have hcut:=bd.out;go_simp;exact t.go _ rfl ⟨N,M,d,F,E,f,z,j,vS.r⟩
   case a8=>go_simp;refine(CB T6 ((X.drop 16).take 6) (Yv (bi.out o (aa.out o (D.out o f))) ai.out) bl.out (by rw[ai.out];omega) H ct.out).mono ?_;rintro e w2 ⟨rfl,rfl⟩;go_simp;exact t.go _ rfl ⟨N,M,d,F,E,f,z,j,vS.r⟩
   case a9=>go_simp;exact t.go _ rfl ⟨N,M,d,F,E,f,z,j,vS.q ((by first|rfl|exact A3 (Value.int .i64) c4.out))⟩
   case a12=>have f0:=Fl d;have f1:=d.free 0;go_simp;have k2:Keep [p] o (o.setCell ⟨p,0,none⟩ (.int .i64 (C:Int))):=(By _ _).setCell (.inl (by simp)) _;exact t.go undef rfl ⟨(C:Int),M,d.set 0 _,fun _=>rfl,E,f.keep k2 (fun q B=>bj.out q B),z.keep k2 (fun q B=>bc.out q B),j.trans k2,vS.s rfl⟩
   case a15=>have f0:=OK d;have f1:=d.free 1;go_simp;have k2:Keep [p] o (o.setCell ⟨p,1,none⟩ (.int .i64 (H:Int))):=(By _ _).setCell (.inl (by simp)) _;exact t.go undef rfl ⟨N,(H:Int),d.set 1 _,F,fun _=>rfl,f.keep k2 (fun q B=>bj.out q B),z.keep k2 (fun q B=>bc.out q B),j.trans k2,vS.s rfl⟩
   all_goals have hcut:=cw.out;go_simp;exact t.go _ rfl ⟨N,M,d,F,E,f,z,j,vS.r⟩
  ·have q:((i:Int)==0)=false:=by simp;omega
   have hw:Dg i=48:=by unfold Dg;rw[Aw (by omega)]
   obtain⟨HW,EG,EB⟩:=i_3 hw Q O;clear hw aq h0 Q O;go_wp2_with fail;go_meet;refine⟨v,y,by rw[HW.out],by rw[HW.out];exact am.out.1, ?_,by rw[EG.out,EB.out];exact ac,J,ab,By _ _⟩;rw[HW.out];exact aa.out w (D.out w J)
 case rest=>
 clear ac J ab aq aa bi al bd be am;obtain⟨v,y,rfl,cr,db,cp,ax,c9,K1⟩:=hcut;have dq:=h_ cr;clear cr;generalize di:wc=wq at*;clear di;have bk:=h_ (D.out wq ax);go_wp2_with fail;refine(CB bp ((X.drop 10).take 4) (Yv (c1.out wq bk.out) ak.out) bo.out (by rw[ak.out];omega) RN cz.out).mono ?_;rintro e w1 ⟨rfl,rfl⟩;have co:=cp;have cm:=ax;clear cp ax da bk;go_wp2_with fail;refine wI (Vb wq p g m y ae K FN C RN af ad i cl ag vr (.slice dj 60 dk) an ah v ba L X) ?bS (.s ?b0<|.s ?b1<|.s ?b2<|.s ?b3<|.s ?b4<|.s ?b5<|.s ?b6<|.s ?b7<|.s ?b8<|.s ?b9<|.s ?b10<|.s ?b11<|.s ?b12<|.s ?b13<|.s ?b14<|.s ?b15<|.s ?b16<|.s ?b17<|.s ?b18<|.s ?b19<|.s ?b20<|.s ?b21<|.s ?b22<|.s ?b23<|.s ?b24<|.s ?b25<|.s ?b26<|.s ?b27<|.s ?b28<|.s ?b29<|.s ?b30<|.s ?b31<|.s ?b32<|.s ?b33<|.s ?b34<|.s ?b35<|.s ?b36<|.s ?b37<|.s ?b38<|.s ?b39<|.s ?b40<|.s ?b41<|.s ?b42<|.s ?b43<|.s ?b44<|.s ?b45<|.s ?b46<|.s ?b47<|.s ?b48<|.s ?b49<|.s ?b50<|.s ?b51<|.s ?b52<|.s ?b53<|.s ?b54<|.n) 55 ?bF
 case bS=>intro x;exact⟨0,co.drew,cm.keep (By [] _).drew (by simp),(By _ _).drew,fun h=>absurd h (by decide),Yr⟩
 case b3=>
  intro l x o I hi hd;obtain⟨G,d,f,j,u,vS⟩:=I;have e2:=u (hd.at rfl);refine Oq.of (b:= ?bB3) ?eB3 ?_
  case eB3=>simp only[Al,Act.put,A8,A7,A6,e2.1];rfl
  intro K' t;go_simp;refine(IG _ _ _ (X.drop 4) (Ih e2.2 rfl) (Yv (bh.out o (D.out o f)) bf.out) bm.out (by rw[bf.out];omega) K c3.out).mono ?_;rintro e w2 ⟨rfl,rfl⟩;go_simp;exact t.go _ rfl ⟨G,d,f,j,u,vS.r⟩
 case bF=>intro l x w3 I hl;obtain⟨G,d,f,j,u,vS⟩:=I;have bu:=vS.a 54 (hl 54 (by decide)) rfl;simp only[Al,Act.put,A8,A7,A6,bu];simp only[AP,Nat.reduceAdd];have HS:=h_ d;have HK:=h_ (K1.trans (j.mono (by simp)));clear d j f co cm c9 db K1 bu hl;go_wp2;go_ret;exact⟨rfl,HS.out,HK.out⟩
 all_goals
  intro l x o I hi hd;obtain⟨G,d,f,j,u,vS⟩:=I;have S:=vS;have R:=hd;simp only[SlV]at S
  try simp[BD,Region.binds]at R
  refine Oq.of (by simp only[Al,Act.put,A8,A7,A6,R,S];rfl) ?_;clear R S;intro K' t
 case b2=>go_simp;exact t.go _ rfl ⟨o.heap.size,d.alloc _,f.alloc _,j.alloc _,fun _=>⟨rfl,BY _ [_] _⟩,vS.s rfl⟩
 case b4=>go_simp;exact t.go _ rfl ⟨G,d,f,j,u,vS.q ((by first|rfl|exact A3 (Value.int .u64) c6.out))⟩
 case b6=>have hcut:=cu.out;go_simp;exact t.go _ rfl ⟨G,d,f,j,u,vS.r⟩
 case b7=>go_simp;refine(CB an (X.take 4) (Yv (c0.out o (D.out o f)) bg.out) c7.out (by rw[bg.out];omega) FN cx.out).mono ?_;rintro e w2 ⟨rfl,rfl⟩;go_simp;exact t.go _ rfl ⟨G,d,f,j,u,vS.r⟩
 all_goals
  have hcut:=cv.out;have q:=Q8.out;go_simp
  first|exact t.go _ rfl ⟨G,d,f,j,u,vS.r⟩|exact t.go undef rfl ⟨G,d,f,j,u,vS.r⟩|exact t.go undef rfl ⟨G,d,f,j,u,vS.s rfl⟩
def Vs (h:World)(d sb a c frm g k i:Nat)(L:List Sec)(segs m n:Int)(o:Value)(j:Bool)(X:List Nat)(l:Nat→Bool)(x:Nat→Value)(f:World):Prop:=
 ∃b e,(IsDev f d sb L c)∧
 (Blk f a (lgC d frm segs o m n j) 333)∧
 (Keep [] h f)∧
 (l 14=true∨l 15=true∨l 17=true→l 13=true)∧
 (l 13=true→x 13=.tuple #[.slice (some ⟨b,0,none⟩) 64 e,.int .i64 0]∧Buf f h.heap.size 5 (.slice (some ⟨b,0,none⟩) 64 e) X)∧
 (l 14=true→x 14=.tuple #[.slice (some ⟨b,0,none⟩) 64 e,.int .i64 0])∧
 (l 15=true→x 15=.slice (some ⟨b,0,none⟩) 64 e)∧
 (l 17=true→x 17=.slice (some ⟨b,0,none⟩) 64 e)∧
 SlV l x 0 [some (pr a 0),some (pr a 0),some (pr a 0),some (pr d 0),some (pr a 0),some (pr a 0),some (pr a 1),some (.int .i64 (frm:Int)),some (.int .i64 (g:Int)),some (.int .i64 ((g:Int)*8)),some (.int .i64 ((frm:Int)+(g:Int)*8)),some (.int .i64 (i:Int)),some (.int .i64 (k:Int)),none,none,none,some (.int .i64 0),none,some (.int .i64 0)]
def Vr (n:World)(a d j k c:Nat)(frm segs f g h:Int)(i m:Value)(e:Bool)(X:List Nat)(l:Nat→Bool)(x:Nat→Value)(b:World):Prop:=
 (l 13=false→Blk b a (lgC d frm segs i f g e) 333)∧
 (l 13=true→Blk b a (lgC d frm segs i f h e) 333)∧
 (l 13=true→l 4=true)∧
 (Buf b 0 5 (.slice (some ⟨j,0,none⟩) 64 k) X)∧
 (Keep [a] n b)∧
 (l 10=true→x 10=.int .i64 h∧Hid (l 4=true))∧
 SlV l x 0 [some (pr a 0),some (pr a 0),some (pr a 0),some (pr a 5),some (.int .i64 g),some (.slice (some ⟨j,0,none⟩) 64 k),some m,some (.int .u64 (c:Int)),some (.int .i64 (c:Int)),some (.int .i64 ((c:Int)+1)),none,some (pr a 0),some (pr a 5),none]
theorem Buf.at64 {w:World}{base:Nat}{E:TypeId}{v:Value}{l:List Nat}(h:Buf w base E v l)(a:l.length=64):∃g cap,v=.slice (some ⟨g,0,none⟩) 64 cap:=by obtain⟨g,cap,rfl,_⟩:=h.at' (by omega);rw[a];exact⟨g,cap,rfl⟩
structure RdZ (W0:World) (p lb d:Nat) (frm segs nx run:Int) (vl:Value) (fr:Bool) (w':World):Prop where
 seg:Blk w' p (sgC 0 0 0 (.slice none 0 0) (.slice none 0 0)) 358
 log:Blk w' lb (lgC d frm segs vl nx run fr) 333
 keep:Keep [lb] W0 w'
 new:W0.heap.size≤p
theorem Ox:crcSum (List.replicate 60 0)≠0:=by decide+kernel
theorem KE (k:Nat):unbe (List.replicate k 0)=0:=by
 induction k with
 |zero=>rfl
 |succ k ih=>rw[List.replicate_succ'];simp[unbe,Gn]at ih⊢;omega
theorem TF {w:World}{d sb A c:Nat}{L:List Sec}(g:IsDev w d sb L c)(frm segs:Nat)(U:Value)(T I:Int)(Q:Bool)(H:Blk w A (lgC d frm segs U T I Q) 333)(S a:Nat)
  (hk:S<segs∧segs≤200∧frm≤100000) (ha:a=frm+S*8) (bo:a+8≤L.length) (hZ:∀i,i<8→(L.getD (a+i) zeroSec).now =List.replicate 64 0) (bu:1≤I∧I<4294967296):
  Calls Tryz.prog 268 #[pr A 0,.int .i64 (S:Int)] w fun e K=>e=.returned (.pointer none)∧Blk K A (lgC d frm segs U T I Q) 333∧Keep [A] w K:=by
 obtain⟨i8,cv,c9,c2,da⟩:=AU In;obtain⟨cp,HK,HA,bw,cf,HD,ca⟩:=i_7 hZ hk ha bo bu g H.lt;have aw:=h_ (show d≠A∧sb≠A from⟨g.dev.ty.ne H.ty (by decide),g.secs.ty.ne H.ty (by decide)⟩);have ck:Hid (IntKind.i64.wrap ((S:Int)*8)=(S:Int)*8):=h_ (by rw[A9];omega);have cl:Hid (IntKind.i64.wrap ((frm:Int)+(S:Int)*8)=(frm:Int)+(S:Int)*8):=h_ (by rw[A9];omega);have cu:∀W:World,(Instr.build 358 #[]).run Tryz.prog W=.ok (.agg (sgC 0 0 0 (.slice none 0 0) (.slice none 0 0)).toArray) W:=fun W=>DD W _ _ _ (by rfl)
 clear hZ hk ha bo bu g;go_enter Tryz.func268,Tryz.ntmps268;go_upto_region 2 with fail
 have bn:RdZ w w.heap.size A d frm segs T I U Q (w.alloc (.cells (sgC 0 0 0 (.slice none 0 0) (.slice none 0 0)).toArray 358)):=
  ⟨BY _ _ _,H.keep ((By [] w).alloc _) (by simp),(By _ w).alloc _,Av _⟩
 change Code.wp _ _ _ _ (w.alloc (.cells (sgC 0 0 0 (.slice none 0 0) (.slice none 0 0)).toArray 358));have ba:=h_ bn;clear bn H cu;generalize w.alloc (.cells (sgC 0 0 0 (.slice none 0 0) (.slice none 0 0)).toArray 358)=wa at*;generalize w.heap.size=p at*;go_wp2
 go_loopw [6,12] (fun s6 c3 wr=>∃(i:Nat) (wh:Bool),s6=.bool wh∧c3=.int .i64 (i:Int)∧i≤8∧RdZ w p A d frm segs T I U Q wr∧((wh=true∧i=0)∨(wh=false∧0<i))) (fun _ x _=>9-(intOf x).toNat)
 case atStart=>exact⟨0,true,rfl,rfl,by omega,ba.out,.inl ⟨rfl,rfl⟩⟩
 case round=>
 clear ba;obtain⟨i,wh,rfl,rfl,bs,C,hC⟩:=hrel;by_cases ad:i<8
 ·have q0:decide ((i:Int)<8)=true:=An (by omega)
  obtain⟨ab,bt⟩:∃ab,ab=a+i:=⟨_,rfl⟩;obtain⟨sc,ar,bv⟩:=Gw (show ab<L.length by have:=bw.out;omega);have au:=HD.out.ok sc bv;obtain⟨X,k⟩:∃X,X=sc.now:=⟨_,rfl⟩;have br:L.getD (a+i) zeroSec=sc:=by rw[←bt,Af,ar];rfl
  have ci:=h_ ar;have ae:Hid (X=List.replicate 64 0):=h_ (by rw[k,←br];exact cp.out i ad);have cj:Hid (sc.now=X):=h_ k.symm;have Y:Hid (X.length=64):=h_ (by rw[k];exact au.1);have bc:Hid (∀c∈X,c<256):=h_ (by rw[k];exact au.2.2.1);have cm:Hid (IntKind.i64.wrap ((frm:Int)+(S:Int)*8+(i:Int))=(ab:Int)):=h_ (by have:=HA.out;have:=HK.out;rw[A9];omega);have bq:=HD.out.keep C.keep (by simpa using aw.out.1) (by simpa using aw.out.2);have bk:=C.log;obtain⟨HW,av,cb⟩:=i_3 C hC ad;clear ar bv au k br C hC bt bs;go_wp2_with fail;refine wI (Vs wr d sb A c frm S ab i L segs T I U Q X) ?aS (.s ?a0<|.s ?a1<|.s ?a2<|.s ?a3<|.s ?a4<|.s ?a5<|.s ?a6<|.s ?a7<|.s ?a8<|.s ?a9<|.s ?a10<|.s ?a11<|.s ?a12<|.s ?a13<|.s ?a14<|.s ?a15<|.s ?a16<|.s ?a17<|.s ?a18<|.n) 19 ?aF
  case aS=>intro x;exact⟨0,0,bq.keep (By [] _).drew (by simp) (by simp),bk.drew,(By _ _).drew,fun h=>absurd h (by decide),fun h=>absurd h (by decide),fun h=>absurd h (by decide),fun h=>absurd h (by decide),fun h=>absurd h (by decide),Yr⟩
  case a14=>
   intro l x K t G g;obtain⟨u,v,z,m,f,y,o,B,D,E,vS⟩:=t;have cr:=o (g.at rfl);have ac:Hid (l 13=true):=h_ (g.at rfl);refine Oq.of (b:= ?bA14) ?eA14 ?_
   case eA14=>simp only[Al,Act.put,A8,A7,A6,cr.1];rfl
   intro K' j;go_simp;exact j.go _ rfl ⟨u,v,z,m,f,fun h=>ac.out,o,fun _=>rfl,D,E,vS.s rfl⟩
  case a15=>
   intro l x K t G g;obtain⟨u,v,z,m,f,y,o,B,D,E,vS⟩:=t;have am:=B (g.at rfl);have ac:Hid (l 13=true):=h_ (y (.inl (g.at rfl)));refine Oq.of (b:= ?bA15) ?eA15 ?_
   case eA15=>simp only[Al,Act.put,A8,A7,A6,am];rfl
   intro K' j;go_simp;exact j.go _ rfl ⟨u,v,z,m,f,fun h=>ac.out,o,B,fun _=>rfl,E,vS.s rfl⟩
  case a16=>
   intro l x K t G g;obtain⟨u,v,z,m,f,y,o,B,D,E,vS⟩:=t;have am:=B (g.at rfl);refine Oq.of (b:= ?bA16) ?eA16 ?_
   case eA16=>simp only[Al,Act.put,A8,A7,A6,am];rfl
   intro K' j;go_simp;exact j.go _ rfl ⟨u,v,z,m,f,y,o,B,D,E,vS.r⟩
  case a17=>
   intro l x K t G g;obtain⟨u,v,z,m,f,y,o,B,D,E,vS⟩:=t;have cs:=D (g.at rfl);have ac:Hid (l 13=true):=h_ (y (.inr (.inl (g.at rfl))));refine Oq.of (b:= ?bA17) ?eA17 ?_
   case eA17=>simp only[Al,Act.put,A8,A7,A6,cs];rfl
   intro K' j;go_simp;exact j.go _ rfl ⟨u,v,z,m,f,fun h=>ac.out,o,B,D,fun _=>rfl,vS.s rfl⟩
  case aF=>
   intro l x w3 t H;obtain⟨u,v,z,m,f,y,o,B,D,E,vS⟩:=t;have ap:=(o (H 13 (by decide))).2.mono (AA _);have c7:=h_ ((o (H 13 (by decide))).2.lt u rfl).1;have be:=E (H 17 (by decide));have bf:=vS.a 18 (H 18 (by decide)) rfl;simp only[Al,Act.put,A8,A7,A6,be,bf];simp only[AP,Nat.reduceAdd];have ay:=h_ f;have bj:=m;clear o B D E z m f y bq bk be bf H vS;obtain⟨J,ah⟩:∃J,J=unbe ((X.drop 10).take 4):=⟨_,rfl⟩;obtain⟨al,bh,bm,_⟩:=D3 (P:=Tryz.prog) 81 5 i8 Ao cv c2 (some ⟨u,0,none⟩) 64 v (Bb X) 10 14 10 14 rfl rfl (by omega) (by omega) (by obtain⟨_,a,c,he,hc,_⟩:=ap.rd;rw[Y.out]at he hc;injection he with _ h2 h3;omega);have bz:=h_ bh
   have ch:Hid (∀W:World,Buf W 0 5 (.slice (some ⟨u,0,none⟩) 64 v) X→Rd W al ((X.drop 10).take 4)):=h_ (fun W h=>by have h1:=h.rd;unfold Rd at h1;rw[Y.out]at h1;have h2:=bm W h1;rw[D4]at h2;exact Yv h2 (by rw[Az,A5,Y.out];rfl))
   have bd:Hid (∀c∈(X.drop 10).take 4,c<256):=h_ (fun c hc=>bc.out c (AB (AH hc)));have az:Hid (((X.drop 10).take 4).length =4):=h_ (by rw[Az,A5,Y.out];omega);have ao:J=0:=by rw[ah,ae.out];exact KE 4
   have c4:=h_ ao;have cx:J<4294967296:=by rw[ah];exact EA _ 4 (by rw[az.out];omega) bd.out
   have ce:=h_ ah;have cn:Hid (IntKind.i64.wrap (J:Int)=(J:Int)):=h_ (by rw[A9];omega);have co:Hid (IntKind.i64.wrap ((J:Int)+1)=(J:Int)+1):=h_ (by rw[A9];omega);obtain⟨ai,aq⟩:∃r:Int,r=I:=⟨_,rfl⟩;have cc:Hid ((if I<(J:Int)+1 then(J:Int)+1 else I)=ai):=h_ (by have:=cf.out;rw[aq,ao];split<;>omega);have cd:=h_ aq;clear bh bm ah aq ao;generalize cy:w3=w6 at*;clear cy;go_wp2_with fail;refine wI (Vr w6 A d u v J frm segs T I ai U al Q X) ?bS (.s ?b0<|.s ?b1<|.s ?b2<|.s ?b3<|.s ?b4<|.s ?b5<|.s ?b6<|.s ?b7<|.s ?b8<|.s ?b9<|.s ?b10<|.s ?b11<|.s ?b12<|.s ?b13<|.n) 14 ?bF
   case bS=>intro x;exact⟨fun _=>bj.drew,fun h=>absurd h (by decide),fun h=>absurd h (by decide),ap.keep (By [] _).drew (by simp),(By _ _).drew,fun h=>absurd h (by decide),Yr⟩
   case b13=>
    intro l x K t G g;obtain⟨F,N,R,k,f,M,vS⟩:=t;have af:=M (g.at rfl);have cq:=vS.a 12 (g.at rfl) rfl;have c5:=VP (F G);have f5:=(F G).free 5;refine Oq.of (b:= ?bB13) ?eB13 ?_
    case eB13=>simp only[Al,Act.put,A8,A7,A6,af.1,cq];rfl
    intro K' j;have aj:=af.2;have af:=af.1;go_simp;have k2:Keep [A] K (K.setCell ⟨A,5,none⟩ (.int .i64 ai)):=(By _ _).setCell (.inl (by simp)) _;have ct:=(F G).set 5 (.int .i64 ai);exact j.go undef rfl ⟨fun h=>Bool.noConfusion (show true=false from h),fun _=>ct,fun _=>aj.out,k.keep k2 (fun q hq V=>by simp only[Ah]at V;subst V;exact(k.ty' q hq).ne (F G).ty (by decide) rfl),f.trans k2,M,vS.s rfl⟩
   case bF=>
    intro l x w3 t H;obtain⟨F,N,R,k,f,M,vS⟩:=t;have an:=N (H 13 (by decide));simp only[Al,Act.put,A8,A7,A6];simp only[AP,Nat.reduceAdd];have cw:p∉ [A]:=by have:=ca.out;simp;omega
    have ak:Hid (RdZ w p A d frm segs T I U Q w3):=h_ (by have O:=HW.out;rw[cd.out]at an;exact⟨(O.seg.keep ay.out (by simp)).keep f cw,an,O.keep.trans ((ay.out.mono (by simp)).trans f),O.new⟩)
    have bb:=h_ k;clear M F N R k f H an bj ap cx vS
    cases wh with
    |false=>
     have c8:0<i:=by rcases av.out with⟨h,_⟩|⟨_,h⟩;cases h;exact h
     have q5:((i:Int)==0)=false:=by simp;omega
     go_wp2
     go_roundw
     case rel=>exact⟨i+1,false,rfl,by go_num,by omega,ak.out,.inr ⟨rfl,by omega⟩⟩
     case measure=>simp only[intOf];omega
    |true=>
     have cz:64≤v:=by obtain⟨_,a,c,he,hc,_⟩:=bb.out.rd;rw[Y.out]at he hc;injection he with _ h2 h3;omega
     obtain rfl:i=0:=by rcases av.out with⟨_,h⟩|⟨h,_⟩;exact h;cases h
     have hF:=Fld.any X Y.out bc.out;have bi:unbe ((X.drop 4).take 6)=0:=by rw[ae.out];exact KE 6
     have bg:unbe ((X.drop 16).take 6)=0:=by rw[ae.out];exact KE 6
     rw[bi,bg]at hF;have bp:crcSum (X.drop 4)≠unbe (X.take 4):=by rw[ae.out];exact fun e=>Ox (e.trans (KE 4))
     have HT:=h_ (O7 hF cz ak.out.seg (Y4 w3 0 5) bb.out cb.out 0 0 (.inl ⟨rfl,rfl,rfl⟩) bp);have q5:(((0:Nat):Int)==0)=true:=rfl;clear hF bi bg bp;go_wp2_with fail;refine HT.out.mono ?_;rintro e w4 ⟨rfl,g1,k4⟩
     have aa:RdZ w p A d frm segs T I U Q w4:=by have O:=ak.out;refine⟨g1,O.log.keep k4 (fun V=> ?_),O.keep.then k4 (fun q hq ad=>absurd O.new (by simp at hq;omega)),O.new⟩;simp only[Ah]at V;subst V;exact O.log.ty.ne O.seg.ty (by decide) rfl
     have c6:=h_ aa;have f0:=g1.free 0;have c0:=Fl g1;have g2:=g1.set 0 (.int .i64 0);have k5:Keep [p] w4 (w4.setCell ⟨p,0,none⟩ (.int .i64 0)):=(By _ _).setCell (.inl (by simp)) _
     have bl:RdZ w p A d frm segs T I U Q (w4.setCell ⟨p,0,none⟩ (.int .i64 0)):=by refine⟨g2,aa.log.keep k5 (fun V=> ?_),aa.keep.then k5 (fun q hq ad=>absurd aa.new (by simp at hq;omega)),aa.new⟩;simp only[Ah]at V;subst V;exact aa.log.ty.ne g1.ty (by decide) rfl
     have cg:=h_ bl;clear aa bl g1 g2 k4 k5 HT;go_wp2
     go_roundw
     case rel=>exact⟨1,false,rfl,by go_num,by omega,cg.out,.inr ⟨rfl,by omega⟩⟩
     case measure=>simp only[intOf];omega
   all_goals
    intro l x K t G g;obtain⟨F,N,R,k,f,M,vS⟩:=t;have C:=vS;have Z:=g;simp only[SlV]at C
    try simp[BD,Region.binds]at Z
    refine Oq.of (by simp only[Al,Act.put,A8,A7,A6,Z,C];rfl) ?_;clear Z C;intro K' j
   case b4=>have c5:=VP (F (by cases hq:l 13 with|false=>rfl|true=>exact absurd (R hq) (by simp[G])));go_simp;exact j.go _ rfl ⟨F,N,fun _=>rfl,k,f,fun h=>⟨(M h).1,h_ rfl⟩,vS.r⟩
   case b7=>go_simp;refine(CB al ((X.drop 10).take 4) (ch.out K k) bd.out (by rw[az.out];omega) J ce.out).mono ?_;rintro e w2 ⟨rfl,rfl⟩;go_simp;exact j.go _ rfl ⟨F,N,R,k,f,M,vS.r⟩
   case b8=>go_simp;exact j.go _ rfl ⟨F,N,R,k,f,M,vS.q ((by first|rfl|exact A3 (Value.int .i64) cn.out))⟩
   case b9=>go_simp;exact j.go _ rfl ⟨F,N,R,k,f,M,vS.q ((by first|rfl|exact A3 (Value.int .i64) co.out))⟩
   case b10=>have aj:Hid (l 4=true):=h_ (g.at rfl);go_simp;exact j.go _ rfl ⟨F,N,R,k,f,fun _=>⟨A3 (Value.int .i64) cc.out,aj⟩,vS.s rfl⟩
   all_goals have hcut:=bz.out;go_simp;exact j.go _ rfl ⟨F,N,R,k,f,M,vS.r⟩
  all_goals
   intro l x K t G g;obtain⟨u,v,z,m,f,y,o,B,D,E,vS⟩:=t;have C:=vS;have Z:=g;simp only[SlV]at C
   try simp[BD,Region.binds]at Z
   refine Oq.of (by simp only[Al,Act.put,A8,A7,A6,Z,C];rfl) ?_;clear Z C;intro K' j
  case a9=>go_simp;exact j.go _ rfl ⟨u,v,z,m,f,y,o,B,D,E,vS.q ((by first|rfl|exact A3 (Value.int .i64) ck.out))⟩
  case a10=>go_simp;exact j.go _ rfl ⟨u,v,z,m,f,y,o,B,D,E,vS.q ((by first|rfl|exact A3 (Value.int .i64) cl.out))⟩
  case a12=>go_simp;exact j.go _ rfl ⟨u,v,z,m,f,y,o,B,D,E,vS.q ((by first|rfl|exact A3 (Value.int .i64) cm.out))⟩
  case a13=>go_simp;refine(Ot z ab sc ci.out).mono ?_;rintro e w2 ⟨v2,rfl,ag,k2⟩;rw[cj.out]at ag;obtain⟨x2,x3,rfl⟩:=ag.at64 Y.out;have bx:=h_ (ag.mono f.size);clear ag;go_simp;exact j.go (.tuple #[.slice (some ⟨x2,0,none⟩) 64 x3,.int .i64 0]) rfl ⟨x2,x3,z.keep k2 (by simp) (by simp),m.keep k2 (by simp),f.trans k2,fun _=>rfl,fun _=>⟨rfl,bx.out⟩,fun h=>absurd (y (.inl h)) (by simp[G]),fun h=>absurd (y (.inr (.inl h))) (by simp[G]),fun h=>absurd (y (.inr (.inr h))) (by simp[G]),vS.s rfl⟩
  all_goals have c0:=Ug m;have c1:=lg_1 m;go_simp;exact j.go _ rfl ⟨u,v,z,m,f,y,o,B,D,E,vS.r⟩
 ·obtain rfl:i=8:=by omega
  rw[show((8:Nat):Int)=8 from rfl];have q1:decide (((0:Nat):Int)<1)=true:=rfl;have s0:=Fl C.seg;have HW:=h_ C;clear C hC ad bs;go_wp2_with fail
  go_quiet (fail)
  have k1:=Ek (By [] wr) nq;have ax:=h_ k1;clear k1;go_wp2;go_ret;exact⟨rfl,HW.out.log.keep ax.out (by simp),HW.out.keep.trans (ax.out.mono (by simp))⟩
structure Sg where
 p:Nat
 gen:Nat
 base:Nat
 run:Int
 vb:Value
 vr:Value
 recs:List Rc
def Sg.rs (s:Sg):List Rcd:=s.recs.map (·.r)
def Sg.F (s:Sg):List Nat:=s.p::(s.vb.ownBlock.toList++Mj s.vr s.recs)
def sgPtr (s:Sg):Value:=pr s.p 0
structure SgAt (w:World) (B:Nat) (s:Sg):Prop where
 blk:Blk w s.p (sgC s.gen s.base s.run s.vb s.vr) 358
 buf:Buf w B 5 s.vb (encRs s.rs)
 recs:RRow w B s.vr s.recs
 new:B≤s.p
 nd:s.F.Nodup
theorem SgAt.keep {w c:World}{B:Nat}{s:Sg}{S:List Nat}(h:SgAt w B s)(k:Keep S w c)(a:∀q∈s.F,q∉S):SgAt c B s:=
 ⟨h.blk.keep k (a _ (by simp[Sg.F])),h.buf.keep k (fun q b=>a q (by simp[Sg.F,b])),h.recs.keep k (fun q b=>a q (by simp[Sg.F,b])),h.new,h.nd⟩
theorem SgAt.still {w a:World}{B:Nat}{s:Sg}(h:SgAt w B s)(k:Keep [] w a):SgAt a B s:=h.keep k (by simp)
theorem SgAt.lt {w:World}{B:Nat}{s:Sg}(h:SgAt w B s):∀q∈s.F,B≤q∧q<w.heap.size:=by
 intro q a;unfold Sg.F at a;rcases Ac.1 a with rfl|a
 ·exact⟨h.new,h.blk.lt⟩
 ·rcases Ag.1 a with a|a
  ·exact h.buf.lt q (Ae.1 a)
  ·exact h.recs.lt q a
theorem SgAt.ty {w:World}{B:Nat}{s:Sg}(h:SgAt w B s):∀q∈s.F,Ty w q 358∨Ty w q 353∨Ty w q 5:=by
 intro q a;unfold Sg.F at a;rcases Ac.1 a with rfl|a
 ·exact .inl h.blk.ty
 ·rcases Ag.1 a with a|a
  ·exact .inr (.inr (h.buf.ty' q (Ae.1 a)))
  ·exact .inr (h.recs.ty q a)
structure SgRow (w:World) (B:Nat) (v:Value) (l:List Sg):Prop where
 own:Own w B 359 v (l.map sgPtr)
 ok:∀s∈l,SgAt w B s
def sgF (l:List Sg):List Nat:=l.flatMap Sg.F
theorem SgRow.nil (w:World)(B:Nat):SgRow w B (.slice none 0 0) []:=⟨YA _ _ _,by simp⟩
def delK (f:World)(a b c1 c2 d g h segs:Nat)(e:Bool)(l:Nat→Bool)(x:Nat→Value)(c:World):Prop:=
 (c.cell? ⟨a,0,none⟩=some (.int .i64 (g:Int)))∧
 (c.cell? ⟨b,0,none⟩=some (.int .i64 (h:Int)))∧
 (c.cell? ⟨c1,0,none⟩=some (pr b 0))∧
 (c.cell? ⟨c2,0,none⟩=some (pr d 0))∧
 (c.cell? ⟨d,2,none⟩=some (.int .i64 (segs:Int)))∧
 (Keep [] f c)∧
 SlV l x 0 [some (pr a 0),some (pr a 0),some (pr a 0),some (.int .i64 (g:Int)),some (pr b 0),some (pr b 0),some (pr b 0),some (.int .i64 (h:Int)),some (pr d 0),some (pr d 0),some (pr d 2),some (.int .i64 (segs:Int)),some (.int .i64 ((h:Int)-(segs:Int))),some (.bool e),some (.bool e)]
theorem Uy {w:World}{a b c1 c2 z g h segs:Nat}(Ml:w.cell? ⟨a,0,none⟩=some (.int .i64 (g:Int)))(G:w.cell? ⟨b,0,none⟩=some (.int .i64 (h:Int)))(H:w.cell? ⟨c1,0,none⟩=some (pr b 0))(I:w.cell? ⟨c2,0,none⟩=some (pr z 0))(J:w.cell? ⟨z,2,none⟩=some (.int .i64 (segs:Int)))(L:g<281474976710656∧h<281474976710656∧segs≤200):
  Calls Tryz.prog 275 #[pr a 0,pr c1 0,pr c2 0] w fun e C=>e=.returned (.bool (decide ((g:Int)≤(h:Int)-(segs:Int))))∧Keep [] w C:=by
 have E:Hid (IntKind.i64.wrap ((h:Int)-(segs:Int))=(h:Int)-(segs:Int)):=h_ (by rw[A9];omega);obtain⟨F,y⟩:∃m:Bool,m=decide ((g:Int)≤(h:Int)-(segs:Int)):=⟨_,rfl⟩;have D:=h_ y.symm;rw[←y];clear y L;go_enter Tryz.func275,Tryz.ntmps275;go_upto_region 1 with fail;refine wI (delK w a b c1 c2 z g h segs F) ?aS (.s ?a0<|.s ?a1<|.s ?a2<|.s ?a3<|.s ?a4<|.s ?a5<|.s ?a6<|.s ?a7<|.s ?a8<|.s ?a9<|.s ?a10<|.s ?a11<|.s ?a12<|.s ?a13<|.s ?a14<|.n) 15 ?aF
 case aS=>intro x;exact⟨Ml,G,H,I,J,(By _ _).drew,Yr⟩
 case aF=>intro l x O u B;obtain⟨c,d,f,i,j,k,vS⟩:=u;have A:=vS.a 14 (B 14 (by decide)) rfl;simp only[Al,Act.put,A8,A7,A6,A];clear A c d f i j B vS;go_wp2;go_ret;exact⟨rfl,k⟩
 all_goals
  intro l x C u N K;obtain⟨c,d,f,i,j,k,vS⟩:=u;have v:=vS;have t:=K;simp only[SlV]at v
  try simp[BD,Region.binds]at t
  refine Oq.of (by simp only[Al,Act.put,A8,A7,A6,t,v];rfl) ?_;clear t v;intro M o
 case a4=>have p:=f;go_simp;exact o.go _ rfl ⟨c,d,f,i,j,k,vS.r⟩
 case a7=>have p:=d;go_simp;exact o.go _ rfl ⟨c,d,f,i,j,k,vS.r⟩
 case a8=>have p:=i;go_simp;exact o.go _ rfl ⟨c,d,f,i,j,k,vS.r⟩
 case a11=>have p:=j;go_simp;exact o.go _ rfl ⟨c,d,f,i,j,k,vS.r⟩
 case a12=>go_simp;exact o.go _ rfl ⟨c,d,f,i,j,k,vS.q ((by first|rfl|exact A3 (Value.int .i64) E.out))⟩
 case a13=>go_simp;exact o.go _ rfl ⟨c,d,f,i,j,k,vS.q ((by first|rfl|exact A3 Value.bool D.out))⟩
 all_goals have p:=c;go_simp;exact o.go _ rfl ⟨c,d,f,i,j,k,vS.r⟩
def Yl (k c1 c2:Nat):Value:= .func (.func k) #[] #[pr c1 0,pr c2 0]
def WH (w:World)(k c1 c2:Nat)(l:List Sg)(a:Nat→Bool):Prop:=
 ∀s∈l,Calls Tryz.prog k #[sgPtr s,pr c1 0,pr c2 0] w fun e b=>e=.returned (.bool (a s.gen))∧Keep [] w b
def NV (a:Nat→Bool)(l:List Sg):Int:=if l.findIdx (fun s=>a s.gen)<l.length then(l.findIdx (fun s=>a s.gen):Int)else-1
theorem PG {w:World}{B c1 c2:Nat}{v:Value}{l:List Sg}{d:Nat→Bool}(y:Own w B 359 v (l.map sgPtr))(E:∀W,Keep [] w W→WH W 275 c1 c2 l d)(D:l.length≤1000):
  Calls Tryz.prog 297 #[v,Yl 275 c1 c2] w fun e R=>e=.returned (.int .i64 (NV d l))∧Keep [] w R:=by
 obtain⟨a,cap,rfl⟩:=y.slice;rw[AD];obtain⟨C,J,I⟩:=i_3 y E D;clear y E D;unfold Yl;go_enter Tryz.func297,Tryz.ntmps297;go_wp2
 go_loopw [8] (fun Q wr=>∃i:Nat,Q=.int .i64 (i:Int)∧i≤l.length∧(∀j (h:j<l.length),j<i→d (l[j]).gen =false)∧Keep [] w wr) (fun x _=>l.length+1-(intOf x).toNat)
 case atStart=>exact⟨0,rfl,AA _,fun j _ h=>absurd h (by omega),By _ _⟩
 case round=>
 obtain⟨i,rfl,U,r,b⟩:=hrel;by_cases c:i<l.length
 ·have P:decide ((i:Int)<(l.length:Int))=true:=An (by omega)
  obtain⟨k,z⟩:=i_2 b r
  obtain⟨n,rfl⟩:∃n,a=some ⟨n,0,none⟩:=by obtain⟨g,T,N,_⟩:=C.out.at_ (by simp;omega);injection N with o;exact⟨g,o⟩
  have F:=(C.out.keep b (by simp)).cell (by simp) i (by simpa using c);have L:wr.cell? ⟨n,i,none⟩=some (pr ((l[i]).p) 0):=by rw[F.1];simp[c,sgPtr]
  have q:=J.out wr b l[i] (BS c);unfold sgPtr at q;obtain⟨K,S⟩:=i_2 q c;clear q F b r;go_wp2_with fail;refine K.out.mono ?_;rintro e X ⟨rfl,H⟩;have A:=h_ (k.out.trans H);clear H L
  cases f:d (l[i]).gen with
  |true=>
   have m:=h_ f;clear f;go_wp2;go_ret;refine⟨?_,A.out⟩
   have t:l.findIdx (fun s=>d s.gen)=i:=by refine(List.findIdx_eq c).2 ⟨m.out,fun j G=> ?_⟩;rw[z.out j (by omega) G]
   unfold NV;rw[t,Ay c];rfl
  |false=>
   have m:=h_ f;have V:=I.out;clear f;go_wp2
   go_roundw
   case rel=>
    refine⟨i+1,by go_num,by omega,fun j h G=> ?_,A.out⟩;by_cases O:j<i
    ·exact z.out j h O
    ·obtain rfl:j=i:=by omega
     exact m.out
   case measure=>simp only[intOf];omega
 ·obtain rfl:i=l.length:=by omega
  have P:decide ((l.length:Int)<(l.length:Int))=false:=by simp
  have k:=h_ b;clear b;go_wp2;go_ret;refine⟨?_,k.out⟩
  have t:¬l.findIdx (fun s=>d s.gen)<l.length:=by intro u;have o:=List.findIdx_getElem (w:=u);have M:=r _ u u;exact absurd (o.symm.trans M) (by decide)
  unfold NV;rw[Aw t];rfl
def Ed (w:World)(s:Sg):Prop:=w.cell? ⟨s.p,0,none⟩=some (.int .i64 (s.gen:Int))∧Ty w s.p 358∧s.gen<281474976710656
theorem Ed.keep {w d:World}{s:Sg}{S:List Nat}(h:Ed w s)(k:Keep S w d)(c:s.p∉S):Ed d s:=⟨by rw[k.cell h.2.1.lt c];exact h.1,h.2.1.keep k c,h.2.2⟩
theorem Ed.keep0 {w c:World}{s:Sg}(h:Ed w s)(k:Keep [] w c):Ed c s:=h.keep k (by simp)
theorem Uh {w:World}(n:Nat)(b:n≤12):Calls Tryz.prog 290 #[.int .u64 (n:Int)] w fun e a=>(∃k,e=.returned (.int .i64 k))∧a=w:=by
 have h:n=0∨n=1∨n=2∨n=3∨n=4∨n=5∨n=6∨n=7∨n=8∨n=9∨n=10∨n=11∨n=12:=by omega
 rcases h with rfl|rfl|rfl|rfl|rfl|rfl|rfl|rfl|rfl|rfl|rfl|rfl|rfl<;>
 ·go_enter Tryz.func290,Tryz.ntmps290
  go_wp2;go_ret;exact⟨⟨_,rfl⟩,rfl⟩
theorem X3 {w:World}(n:Nat)(a:n≤12):Calls Tryz.prog 262 #[.int .u64 (n:Int)] w fun e b=>(∃k,e=.returned (.int .i64 k))∧b=w:=by have c:=h_ a;clear a;go_enter Tryz.func262,Tryz.ntmps262;go_wp2_with fail;refine(Uh n c.out).mono ?_;rintro e b ⟨⟨k,rfl⟩,rfl⟩;go_wp2;go_ret;exact⟨⟨_,rfl⟩,rfl⟩
def CMP:Value:= .func (.func 270) #[] #[]
theorem RA {w:World}{a:Option Addr}{cap:Nat}:Calls Tryz.prog 317 #[.slice a 0 cap,.int .i64 0,.int .i64 0,CMP] w fun e c=>e=.returned (.tuple #[])∧c=w:=by
 unfold CMP;go_enter Tryz.func317,Tryz.ntmps317;go_wp2
 go_loopw [8] (fun b wr=>b=.int .i64 1∧wr=w) (fun x _=>0)
 case atStart=>exact⟨rfl,rfl⟩
 case round=>
 obtain⟨rfl,rfl⟩:=hrel;go_wp2
 go_end0
 exact⟨rfl,rfl⟩
structure JMk where
 seq:Nat
 key:List Nat
 pos:Nat
def mkC (a:JMk):List Value:=[.int .i64 (a.seq:Int),.string (toStr a.key),.int .i64 (a.pos:Int)]
def P1 (A:List JMk):List Value:=(A.map mkC).flatten
def MRow (w:World)(base:Nat)(v:Value)(A:List JMk):Prop:=w.ownsRow base 321 3 v A.length (P1 A)
theorem MRow.keep {w w':World}{base:Nat}{v:Value}{A:List JMk}{S:List Nat}(h:MRow w base v A)(k:Keep S w w')(e:∀b,v.ownBlock=some b→b∉S):MRow w' base v A:=by
 refine⟨h.1, ?_⟩;rcases h.2 with d|⟨g,cap,c,rfl,f,a,r⟩
 ·exact .inl d
 ·exact .inr ⟨g,cap,c,rfl,f,by rw[k.block g (Cd.1 a).1 (e g rfl)];exact a,r⟩
theorem MRow.lt {w:World}{base:Nat}{v:Value}{A:List JMk}(h:MRow w base v A):∀b,v.ownBlock=some b→base≤b∧b<w.heap.size:=B3 h
theorem MRow.ty {w:World}{base:Nat}{v:Value}{A:List JMk}(h:MRow w base v A):∀k,v.ownBlock=some k→Ty w k 321:=by
 intro k a;unfold MRow at h;rcases h.2 with⟨rfl,_⟩|⟨g,cap,c,rfl,_,b,_⟩
 ·cases a
 ·cases a;exact⟨_,_,b⟩
def jnC (lb:Nat)(v:Value):List Value:=[pr lb 0,v]
structure JAt (w:World) (B jb lb:Nat) (v:Value) (M:List JMk):Prop where
 blk:Blk w jb (jnC lb v) 319
 row:MRow w B v M
section
variable {w w':World} {B jb lb:Nat} {v:Value} {M:List JMk}
theorem JAt.keep {S:List Nat}(h:JAt w B jb lb v M)(k:Keep S w w')(c:jb∉S)(a:∀b,v.ownBlock=some b→b∉S):JAt w' B jb lb v M:=⟨h.blk.keep k c,h.row.keep k a⟩
end
end Go.Proofs.YtnhbioehiiifdaaGreat
