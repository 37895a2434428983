import Derived.Test.YtnhbioehiiifdaaGreatA01
import Derived.BigQuiet
set_option maxRecDepth 100000
set_option maxHeartbeats 16000000
set_option linter.all false
namespace Go.Proofs.YtnhbioehiiifdaaGreat
open Go.ChangeShapes Go.WideShapes Go.ChangeAt Go.RowKit
def lgC (d:Nat)(frm segs:Int)(vl:Value)(nx run:Int)(fr:Bool):List Value:=[pr d 0,.int .i64 frm,.int .i64 segs,vl,.int .i64 nx,.int .i64 run,.bool fr]
section
variable {w:World} {lb d:Nat} {frm segs nx run:Int} {vl:Value} {fr:Bool} {T:TypeId}
theorem Ug (h:Blk w lb (lgC d frm segs vl nx run fr) T):w.cell? ⟨lb,0,none⟩=some (pr d 0):=h.cell 0
theorem lg_1 (h:Blk w lb (lgC d frm segs vl nx run fr) T):w.cell? ⟨lb,1,none⟩=some (.int .i64 frm):=h.cell 1
theorem lg_2 (h:Blk w lb (lgC d frm segs vl nx run fr) T):w.cell? ⟨lb,2,none⟩=some (.int .i64 segs):=h.cell 2
theorem Hk (h:Blk w lb (lgC d frm segs vl nx run fr) T):w.cell? ⟨lb,3,none⟩=some vl:=h.cell 3
theorem PA (h:Blk w lb (lgC d frm segs vl nx run fr) T):w.cell? ⟨lb,4,none⟩=some (.int .i64 nx):=h.cell 4
theorem VP (h:Blk w lb (lgC d frm segs vl nx run fr) T):w.cell? ⟨lb,5,none⟩=some (.int .i64 run):=h.cell 5
theorem lg_6 (h:Blk w lb (lgC d frm segs vl nx run fr) T):w.cell? ⟨lb,6,none⟩=some (.bool fr):=h.cell 6
end
theorem Ek {S:List Nat}{a w:World}(h:Keep S a w)(n:Nat):Keep S a (w.drewN n):=⟨h.os,h.tape,h.output,h.size,h.block⟩
def writeJ (k:World)(d sb lb p c frm f g i e base run:Nat)(L:List Sec)(h:Sec)(segs nx:Int)(m:Int)(vl j n:Value)(fr:Bool)(b:List Nat)(l:Nat→Bool)(x:Nat→Value)(a:World):Prop:=
 (l 20=false→IsDev a d sb L c)∧
 (l 20=true→IsDev a d sb (L.set g ⟨BQ h.now 0 (sgImg e base run i b),h.lasts,true⟩) (c+1))∧
 (Blk a lb (lgC d frm segs vl nx run fr) 333)∧
 (Blk a p (sgC e base m j n) 358)∧
 (Rd a j b)∧
 (Keep [d,sb] k a)∧
 (l 20=true→l 19=true)∧
 (l 19=true→Buf a k.heap.size 5 (x 19) (sgImg e base run i b))∧
 SlV l x 0 [some (pr lb 0),some (pr lb 0),some (pr lb 0),some (pr d 0),some (pr lb 0),some (pr lb 0),some (pr lb 1),some (.int .i64 (frm:Int)),some (.int .i64 (f:Int)),some (.int .i64 ((f:Int)*8)),some (.int .i64 ((frm:Int)+(f:Int)*8)),some (.int .i64 (i:Int)),some (.int .i64 (g:Int)),some (pr p 0),some (.int .i64 (i:Int)),some (pr lb 0),some (pr lb 0),some (pr lb 5),some (.int .i64 (run:Int)),none,some (.int .i64 0),some (.int .i64 0)]
theorem Lz {w:World}{d sb lb p c:Nat}{L:List Sec}(g:IsDev w d sb L c)(hc:c<1099511627776)(frm segs:Nat)(vl:Value)(nx:Int)(run:Nat)(fr:Bool)(A:Blk w lb (lgC d frm segs vl nx run fr) 333)
  (b base:Nat) (W:Int) (J X:Value) (f:List Nat) (I:Blk w p (sgC b base W J X) 358) (hr:Rd w J f) (R:∀c∈f,c<256) (ab:f.length≤1000) (i:Nat) (H:i<8) (S:b<281474976710656∧base<281474976710656∧run<4294967296)
  (bg:0<b) (am:0<segs∧segs≤200) (bf:frm≤100000) (k:Nat) (ad:k=frm+(b-1) % segs*8+i) (U:k<L.length) (ag:∀q,J.ownBlock=some q→0<f.length→q∉ [d,sb]):
  Calls Tryz.prog 254 #[pr lb 0,pr p 0,.int .i64 (i:Int)] w fun e Y=>e=.returned (.int .i64 0)∧IsDev Y d sb (L.set k ⟨sgImg b base run i f,(L.getD k zeroSec).lasts,true⟩) (c+1)∧Keep [d,sb] w Y:=by
 obtain⟨E,V,ak⟩:=Gw U;have al:=g.ok E ak;have ac:L.getD k zeroSec=E:=by rw[Af,V];rfl
 have ah:BQ E.now 0 (sgImg b base run i f)=sgImg b base run i f:=by unfold BQ;rw[List.take_zero,List.nil_append,AP,Bz (by rw[GG,al.1];omega),AE]
 have ap:Hid (L.set k ⟨BQ E.now 0 (sgImg b base run i f),E.lasts,true⟩=L.set k ⟨sgImg b base run i f,(L.getD k zeroSec).lasts,true⟩):=h_ (by rw[ah,ac]);have ay:=h_ V;have ar:=h_ (Lg b base run i f (by omega) R);obtain⟨HC,ao,an,aq,HG⟩:=i_5 hc R ab H S
 have Z:=h_ (show lb∉ [d,sb]∧p∉ [d,sb]from⟨by
  have N:=A.ty.ne g.dev.ty (by decide);have O:=A.ty.ne g.secs.ty (by decide);simp;exact⟨N,O⟩,by
  have N:=I.ty.ne g.dev.ty (by decide);have O:=I.ty.ne g.secs.ty (by decide);simp;exact⟨N,O⟩⟩)
 have aw:=h_ ag;have av:Hid (∀q,w.heap.size≤q→q∉ [d,sb]):=h_ (fun q M=>by have:=g.dev.lt;have:=g.secs.lt;simp;omega);obtain⟨j,K⟩:∃j,j=(b-1) % segs:=⟨_,rfl⟩;have bk:j<segs:=by rw[K];exact C1 _ am.1
 have ae:(((b:Int)-1) % (segs:Int))=(j:Int):=by rw[K,show((b:Int)-1)=((b-1:Nat):Int) by omega];exact(Int.natCast_emod _ _).symm
 have bj:(((b:Int)-1).tmod (segs:Int))=(j:Int):=by rw[EO (by omega)];exact ae
 rw[←K]at ad;have au:Hid ((frm:Int)+(j:Int)*8+(i:Int)=(k:Int)):=h_ (by omega);have bo:=h_ (show j<200∧frm≤100000∧i<8 by omega);have az:Hid (IntKind.i64.wrap ((j:Int)*8)=(j:Int)*8):=h_ (by rw[A9];omega);have ba:Hid (IntKind.i64.wrap ((frm:Int)+(j:Int)*8)=(frm:Int)+(j:Int)*8):=h_ (by rw[A9];omega);have bb:Hid (IntKind.i64.wrap ((frm:Int)+(j:Int)*8+(i:Int))=(k:Int)):=h_ (by rw[A9];have:=au.out;omega);have bm:(segs:Int)≠0:=by omega
 have bi:1≤(b:Int):=by omega
 have s0:=Fl I;have l2:=lg_2 A;have bh:=S.1;clear V ak al ac ah K R ab H S hc ad bf;go_enter Tryz.func254,Tryz.ntmps254;go_upto_region 1 with fail
 go_quiet (fail)
 have D:=Ek (By [] w) nq;have z:=g.keep D (by simp) (by simp);have af:=A.keep D (by simp);have aj:=I.keep D (by simp);have ai:=Yx hr D (by simp);have bp:=h_ U;have HZ:=h_ (show w.heap.size≤(w.drewN nq).heap.size from D.size);clear g A I hr s0 l2 U bk ae bj bm bi bh am bg ag;generalize w.drewN nq=w1 at*;go_wp2_with fail;refine wI (writeJ w1 d sb lb p c frm j k i b base run L E segs nx W vl J X fr f) ?aS (.s ?a0<|.s ?a1<|.s ?a2<|.s ?a3<|.s ?a4<|.s ?a5<|.s ?a6<|.s ?a7<|.s ?a8<|.s ?a9<|.s ?a10<|.s ?a11<|.s ?a12<|.s ?a13<|.s ?a14<|.s ?a15<|.s ?a16<|.s ?a17<|.s ?a18<|.s ?a19<|.s ?a20<|.s ?a21<|.n) 22 ?aF
 case aS=>intro x;exact⟨fun _=>z.keep (By [] _).drew (by simp) (by simp),fun h=>absurd h (by decide),af.drew,aj.drew,Yx ai (By [] _).drew (by simp),(By _ _).drew,fun h=>absurd h (by decide),fun h=>absurd h (by decide),Yr⟩
 case aF=>intro l x w3 P A;obtain⟨B,z,m,y,v,t,C,u,vS⟩:=P;have aa:=vS.a 21 (A 21 (by decide)) rfl;have F:=z (A 20 (by decide));simp only[Al,Act.put,A8,A7,A6,aa];rw[ap.out]at F;have K9:Keep [d,sb] w w3:=(D.mono (by simp)).trans t;clear u m y v t z af aj ai aa C D A B vS;go_wp2;go_ret;exact⟨rfl,F,K9⟩
 all_goals
  intro l x Y P H g;obtain⟨B,z,m,y,v,t,C,u,vS⟩:=P;have Q:=vS;have F:=g;simp only[SlV]at Q
  try simp[BD,Region.binds]at F
  refine Oq.of (by simp only[Al,Act.put,A8,A7,A6,F,Q];rfl) ?_;clear F Q;intro K' G
 case a9=>go_simp;exact G.go _ rfl ⟨B,z,m,y,v,t,C,u,vS.q (A3 (Value.int .i64) az.out)⟩
 case a10=>go_simp;exact G.go _ rfl ⟨B,z,m,y,v,t,C,u,vS.q (A3 (Value.int .i64) ba.out)⟩
 case a12=>go_simp;exact G.go _ rfl ⟨B,z,m,y,v,t,C,u,vS.q (A3 (Value.int .i64) bb.out)⟩
 case a19=>go_simp;refine(QT b base W J X f y v ao.out an.out i run aq.out HG.out).mono ?_;rintro e w2 ⟨v2,rfl,bd,o⟩;go_simp;exact G.go v2 rfl ⟨fun h=>(B h).keep o (by simp) (by simp),fun h=>absurd (C h) (by simp[H]),m.keep o (by simp),y.keep o (by simp),Yx v o (by simp),t.trans (o.mono (by simp)),fun _=>rfl,fun _=>bd.mono t.size,vS.s rfl⟩
 case a20=>have bc:=u (g.at rfl);have ax:Hid (l 19=true):=h_ (g.at rfl);go_simp;have bl:=bc.rd;refine(I0 (B H) k E ay.out _ (sgImg b base run i f) bl (by rw[GG];omega) (ar.out) HC.out).mono ?_;rintro e w2 ⟨rfl,be,o⟩;go_simp;exact G.go _ rfl ⟨fun h=>Bool.noConfusion (show true=false from h),fun _=>be,m.keep o (Z.out.1),y.keep o (Z.out.2),Yw v o (fun q M bn=>aw.out q M bn),t.trans o,fun _=>ax.out,fun h=>Buf.keep (u h) o (fun q M=>av.out q (AJ HZ.out (Buf.lt (u h) q M).1)),vS.r⟩
 all_goals have c0:=Ug m;have c1:=lg_1 m;have c5:=VP m;go_simp;exact G.go _ rfl ⟨B,z,m,y,v,t,C,u,vS.r⟩
def FX (X:List Nat)(i a:Nat):List Nat:=(X.drop (64-Dg i)).take a
def QJ (r:World)(p g h o c b:Nat)(m:Int)(f q i j:Value)(n:Option Addr)(k X:List Nat)(l:Nat→Bool)(x:Nat→Value)(a:World):Prop:=
 ∃e d,(Blk a p (sgC e d m f q) 358)∧
 (l 12=true→e=(c:Int))∧
 (l 15=true→d=(b:Int))∧
 (Buf a 0 5 (.slice (some ⟨g,0,none⟩) 64 h) X)∧
 (Buf a 0 5 f k)∧
 (Keep [p] r a)∧
 SlV l x 0 [some (pr p 0),some (pr p 0),some (.slice (some ⟨g,0,none⟩) 64 h),some i,some (.int .u64 (c:Int)),some (.int .i64 (c:Int)),some (.slice n 48 o),some j,some (.int .u64 (b:Int)),some (.int .i64 (b:Int)),some (pr p 0),some (pr p 0),none,some (pr p 0),some (pr p 1),none]
def takeJ9 (s:World)(p h t q e i c:Nat)(m j n:Int)(r u:Value)(o d:Option Addr)(a X:List Nat)(l:Nat→Bool)(x:Nat→Value)(b:World):Prop:=
 ∃f g,(l 13=false→Blk b p (sgC m j n (.slice d a.length e) r) 358)∧
 (l 13=true→Blk b p (sgC m j n (.slice f (a.length+c) g) r) 358)∧
 (l 13=true→l 4=true∧l 10=true)∧
 (l 10=false→Buf b 0 5 (.slice d a.length e) a)∧
 (l 10=true→Buf b 0 5 (.slice f (a.length+c) g) (a++FX X i c)∧∀k,(.slice f (a.length+c) g:Value).ownBlock =some k→(.slice d a.length e:Value).ownBlock =some k∨s.heap.size≤k)∧
 (Buf b 0 5 (.slice (some ⟨h,0,none⟩) 64 t) X)∧
 (Rv b 1 (.slice o (Dg i) q) (Dg i) (Bb (X.drop (64-Dg i))))∧
 (Keep (p::(.slice d a.length e:Value).ownBlock.toList) s b)∧
 (l 10=true→x 10=.slice f (a.length+c) g∧Hid (l 4=true))∧
 SlV l x 0 [some (pr p 0),some (pr p 0),some (pr p 0),some (pr p 3),some (.slice d a.length e),some (.slice o (Dg i) q),some (.slice (some ⟨h,0,none⟩) 64 t),some (pr h 15),some (.int .u8 (c:Int)),some u,none,some (pr p 0),some (pr p 3),none]
def WY (w:World)(p a b u k e y c o z s i m:Nat)(n:Int)(v h q r:Value)(t j:Option Addr)(f X:List Nat)(l:Nat→Bool)(x:Nat→Value)(d:World):Prop:=
 ∃g,(Blk d p (sgC (c:Int) (s:Int) n (.slice j f.length k) v) 358)∧
 (Buf d 0 5 (.slice (some ⟨a,0,none⟩) 64 b) X)∧
 (Keep [] w d)∧
 (l 2=true→x 2=.slice (some ⟨g,0,none⟩) 1 1∧Blk d g [h] 81)∧
 SlV l x 0 [some (.slice (some ⟨a,0,none⟩) 64 b),some h,none,some (.int .u32 (e:Int)),some (.int .u64 (e:Int)),some (.slice (some ⟨a,0,none⟩) 64 b),some q,some (.int .u64 (e:Int)),some (.bool false),some (.bool false),some (.slice (some ⟨a,0,none⟩) 64 b),some r,some (.int .u64 (c:Int)),some (.int .i64 (c:Int)),some (pr p 0),some (pr p 0),some (pr p 0),some (.int .i64 (c:Int)),some (.bool false),some (.bool false),some (.bool false),some (.int .i64 (o:Int)),some (pr p 0),some (pr p 0),some (pr p 2),some (.int .i64 n),some (.bool false),some (.bool false),some (.bool false),some (.slice (some ⟨a,0,none⟩) 64 b),some (pr a 14),some (.int .u8 (i:Int)),some (.int .i64 (i:Int)),some (.int .i64 (i:Int)),some (.bool false),some (.bool false),some (.bool false),some (.slice (some ⟨a,0,none⟩) 64 b),some (pr a 15),some (.int .u8 (m:Int)),some (.int .i64 (m:Int)),some (.slice t (Dg i) u),some (.int .i64 (Dg i:Int)),some (.bool false),some (.bool false),some (.bool false),some (pr p 0),some (pr p 0),some (pr p 3),some (.slice j f.length k),some (.int .i64 (f.length:Int)),some (.int .i64 (i:Int)),some (.int .i64 (st0 i:Int)),some (.bool false),some (.bool false)]
def Vb (s:World)(p b c z m f g t u o k i w:Nat)(q:Int)(r e h v:Value)(y j:Option Addr)(n X:List Nat)(l:Nat→Bool)(x:Nat→Value)(a:World):Prop:=
 ∃d,(Blk a p (sgC (o:Int) (k:Int) q (.slice j n.length m) r) 358)∧
 (Buf a 0 5 (.slice (some ⟨b,0,none⟩) 64 c) X)∧
 (Keep [] s a)∧
 (l 2=true→x 2=.slice (some ⟨d,0,none⟩) 1 1∧Blk a d [e] 81)∧
 SlV l x 0 [some (.slice (some ⟨b,0,none⟩) 64 c),some e,none,some (.int .u32 (f:Int)),some (.int .u64 (f:Int)),some (.slice (some ⟨b,0,none⟩) 64 c),some h,some (.int .u64 (g:Int)),some (.bool true),some (.bool true),none,none,none,none,none,none,none,none,some undef,some (.bool true),some (.bool true),none,none,none,none,none,some undef,some (.bool true),some (.bool true),none,none,none,none,none,some undef,some (.bool true),some (.bool true),none,none,none,none,none,none,some undef,some (.bool true),some (.bool true),none,none,none,none,none,none,none,some undef,some (.bool true)]
def Va (t:World)(p b c z o d u f v h n i w:Nat)(r:Int)(s g j k:Value)(y m:Option Addr)(q X:List Nat)(l:Nat→Bool)(x:Nat→Value)(a:World):Prop:=
 ∃e,(Blk a p (sgC (h:Int) (n:Int) r (.slice m q.length o) s) 358)∧
 (Buf a 0 5 (.slice (some ⟨b,0,none⟩) 64 c) X)∧
 (Keep [] t a)∧
 (l 2=true→x 2=.slice (some ⟨e,0,none⟩) 1 1∧Blk a e [g] 81)∧
 SlV l x 0 [some (.slice (some ⟨b,0,none⟩) 64 c),some g,none,some (.int .u32 (d:Int)),some (.int .u64 (d:Int)),some (.slice (some ⟨b,0,none⟩) 64 c),some j,some (.int .u64 (d:Int)),some (.bool false),some (.bool false),some (.slice (some ⟨b,0,none⟩) 64 c),some k,some (.int .u64 (f:Int)),some (.int .i64 (f:Int)),some (pr p 0),some (pr p 0),some (pr p 0),some (.int .i64 (h:Int)),some (.bool true),some (.bool true),some (.bool true),none,none,none,none,none,some undef,some (.bool true),some (.bool true),none,none,none,none,none,some undef,some (.bool true),some (.bool true),none,none,none,none,none,none,some undef,some (.bool true),some (.bool true),none,none,none,none,none,none,none,some undef,some (.bool true)]
structure Fld (X:List Nat) (SN FN GN RN BN i cl:Nat):Prop where
 len:X.length=64
 byte:∀c∈X,c<256
 s:SN=crcSum (X.drop 4)
 f:FN=unbe (X.take 4)
 g:GN=unbe ((X.drop 4).take 6)
 r:RN=unbe ((X.drop 10).take 4)
 b:BN=unbe ((X.drop 16).take 6)
 i:i=X.getD 14 0
 c:cl=X.getD 15 0
theorem U9 (l:List Nat)(k:Nat):(Bb l).drop k=Bb (l.drop k):=by simp[Bb]
theorem Sf (l:List Nat)(k:Nat):(Bb l).take k=Bb (l.take k):=by simp[Bb]
theorem EA (l:List Nat)(k:Nat)(b:l.length≤k)(a:∀c∈l,c<256):unbe l<256^k:=AW (KF l a) (EM (by omega) b)
abbrev Rcd:=Nat×List Nat
def J5 (r:Rcd):List Nat:=be 2 r.2.length++(be 6 r.1++r.2)
def encRs (l:List Rcd):List Nat:=(l.map J5).flatten
def Rcd.ok (r:Rcd):Prop:=1≤r.2.length∧r.2.length≤300∧r.1<281474976710656∧∀c∈r.2,c<256
theorem Fr (r:Rcd):(J5 r).length =8+r.2.length:=by unfold J5;simp;omega
theorem Uw (r:Rcd)(h:r.ok):∀c∈J5 r,c<256:=by
 intro c d;unfold J5 at d;rcases Ag.1 d with a|a
 ·exact Fj _ _ c a
 ·rcases Ag.1 a with b|b
  ·exact Fj _ _ c b
  ·exact h.2.2.2 c b
theorem Ho (l:List Rcd)(h:∀r∈l,r.ok):∀c∈encRs l,c<256:=by intro c a;unfold encRs at a;obtain⟨x,e,b⟩:=DY.1 a;obtain⟨r,d,rfl⟩:=AI.1 e;exact Uw r (h r d) c b
theorem Hn (l:List Rcd)(r:Rcd):encRs (l++[r])=encRs l++J5 r:=by unfold encRs;simp
structure Rc where
 r:Rcd
 v:Value
def rcC (y:Rc):List Value:=[.int .i64 (y.r.1:Int),y.v]
def rcCs (L:List Rc):List Value:=(L.map rcC).flatten
theorem TH (L:List Rc)(y:Rc):rcCs (L++[y])=rcCs L++rcC y:=by unfold rcCs;simp
structure RRow (w:World) (base:Nat) (v:Value) (L:List Rc):Prop where
 own:w.ownsRow base 353 2 v L.length (rcCs L)
 ok:∀y∈L,Buf w base 5 y.v y.r.2∧y.v.oneCell'=true
def Mj (v:Value)(L:List Rc):List Nat:=v.ownBlock.toList++L.flatMap (fun y=>y.v.ownBlock.toList)
theorem RRow.nil (w:World)(base:Nat):RRow w base (.slice none 0 0) []:=⟨⟨rfl,.inl ⟨rfl,rfl⟩⟩,by simp⟩
theorem RRow.slice {w:World}{base:Nat}{v:Value}{L:List Rc}(h:RRow w base v L):∃a cap,v=.slice a L.length cap:=A4 h.own
theorem RRow.mono {w:World}{base a:Nat}{v:Value}{L:List Rc}(h:RRow w base v L)(b:a≤base):RRow w a v L:=by
 refine⟨⟨h.own.1, ?_⟩,fun y c=>⟨(h.ok y c).1.mono b,(h.ok y c).2⟩⟩;rcases h.own.2 with e|⟨g,cap,d,f,i,j⟩
 ·exact .inl e
 ·exact .inr ⟨g,cap,d,f,AJ b i,j⟩
theorem RRow.lt {w:World}{base:Nat}{v:Value}{L:List Rc}(h:RRow w base v L):∀q∈Mj v L,base≤q∧q<w.heap.size:=by
 intro q a;unfold Mj at a;rcases Ag.1 a with a|a
 ·rcases h.own.2 with⟨rfl,_⟩|⟨g,cap,e,rfl,b,c,_⟩
  ·cases a
  ·simp[Value.ownBlock]at a
   subst a;exact⟨b,(Cd.1 c).1⟩
 ·obtain⟨y,d,a⟩:=Bm.1 a
  exact(h.ok y d).1.lt q (Ae.1 a)
theorem RRow.keep {w f:World}{base:Nat}{v:Value}{L:List Rc}{S:List Nat}(h:RRow w base v L)(k:Keep S w f)(d:∀q∈Mj v L,q∉S):RRow f base v L:=by
 refine⟨⟨h.own.1, ?_⟩,fun y c=>⟨(h.ok y c).1.keep k (fun b a=>d b (AQ _ (Bm.2 ⟨y,c,Ae.2 a⟩))),(h.ok y c).2⟩⟩;rcases h.own.2 with j|⟨g,cap,i,rfl,a,e,r⟩
 ·exact .inl j
 ·refine .inr ⟨g,cap,i,rfl,a, ?_,r⟩
  rw[k.block g (Cd.1 e).1 (d g (A2 _ (by simp[Value.ownBlock])))];exact e
theorem RRow.still {w a:World}{base:Nat}{v:Value}{L:List Rc}(h:RRow w base v L)(k:Keep [] w a):RRow a base v L:=h.keep k (by simp)
theorem RRow.ty {w:World}{base:Nat}{v:Value}{L:List Rc}(h:RRow w base v L):∀q∈Mj v L,Ty w q 353∨Ty w q 5:=by
 intro q a;unfold Mj at a;rcases Ag.1 a with a|a
 ·rcases h.own.2 with⟨rfl,_⟩|⟨g,cap,d,rfl,e,b,_⟩
  ·cases a
  ·simp[Value.ownBlock]at a
   subst a;exact .inl ⟨_,_,b⟩
 ·obtain⟨y,c,a⟩:=Bm.1 a
  exact .inr ((h.ok y c).1.own.ty q (Ae.1 a))
theorem Tryz.infoRec:(Tryz.prog.info? 353).map (fun i=>(i.zero,i.size,i.bytes))=some (some (.agg #[.int .i64 0,.slice none 0 0]),2,32):=by kernel_rfl
def YF:=@Tryz.infoRec
theorem RRow.rty {w:World}{base:Nat}{v:Value}{L:List Rc}(h:RRow w base v L){q:Nat}{T:TypeId}(d:Ty w q T)(b:T≠353):q∉v.ownBlock.toList:=by
 intro a;rcases h.own.2 with⟨rfl,_⟩|⟨g,cap,e,rfl,f,c,_⟩
 ·cases a
 ·simp[Value.ownBlock]at a
  subst a;exact d.ne ⟨_,_,c⟩ b rfl
theorem RRow.snoc {w d:World}{base:Nat}{v v':Value}{L:List Rc}(h:RRow w base v L)(y:Rc)(c:Buf w base 5 y.v y.r.2)(e:y.v.oneCell'=true)(g:d.ownsRow base 353 2 v' (L.length+1) (rcCs L++rcC y))(k:Keep v.ownBlock.toList w d):RRow d base v' (L++[y]):=by
 refine⟨by rw[Aj,TH];exact g,fun z a=> ?_⟩;rcases Ag.1 a with a|a
 ·exact⟨(h.ok z a).1.keep k (fun b c=>h.rty ((h.ok z a).1.own.ty b c) (by decide)),(h.ok z a).2⟩
 ·simp only[Ac,Am,AG]at a
  subst a;exact⟨c.keep k (fun b f=>h.rty (c.own.ty b f) (by decide)),e⟩
theorem QO {P:Program}{t:TypeId}{e:TypeId}(w:World)(b:Nat)(n:Int)(v:Value)(d:Blk w b [.int .i64 n,v] e)(g:P.underlying t=some (.slice e))(c:v.oneCell'=true):
  Src P 2 t (.slice (some ⟨b,0,none⟩) 1 1) 1 [.int .i64 n,v] w:=by
 refine CC _ g ⟨b,0,none⟩ 1 1 [.int .i64 n,v] rfl (fun j x f=> ?_) (fun u a=> ?_)
 ·rw[Gq,AP,d.cell,f]
 ·simp only[Ac,Am,AG]at a
  rcases a with rfl|rfl
  ·rfl
  ·exact c
def recJ (k:World)(m p N f h pos A:Nat)(o base run:Int)(r:Value)(e g:Option Addr)(a:List Rc)(body s:List Nat)(l:Nat→Bool)(x:Nat→Value)(b:World):Prop:=
 ∃c d i j n,(l 23=false→Blk b p (sgC o base run (.slice e N f) (.slice g a.length h)) 358)∧
 (l 23=true→Blk b p (sgC o base run (.slice e N f) (.slice i (a.length+1) j)) 358)∧
 (l 23=true→l 4=true∧l 20=true)∧
 (l 20=true→l 17=true)∧
 (l 20=false→RRow b m (.slice g a.length h) a)∧
 (l 20=true→RRow b m (.slice i (a.length+1) j) (a++[⟨(pos,body),.slice c body.length d⟩]))∧
 (Buf b 0 5 (.slice e N f) s)∧
 (Keep (p::(.slice g a.length h:Value).ownBlock.toList) k b)∧
 (l 17=true→x 17=.slice c body.length d∧(l 20=false→Buf b k.heap.size 5 (.slice c body.length d) body)∧∀q,(.slice c body.length d:Value).ownBlock =some q→k.heap.size≤q)∧
 (l 18=true→x 18=.agg #[.int .i64 (pos:Int),.slice c body.length d]∧Hid (l 17=true))∧
 (l 19=true→x 19=.slice (some ⟨n,0,none⟩) 1 1∧(l 20=false→Blk b n [.int .i64 (pos:Int),.slice c body.length d] 353)∧Hid (l 17=true))∧
 (l 20=true→x 20=.slice i (a.length+1) j∧Hid (l 4=true))∧
 SlV l x 0 [some (pr p 0),some (pr p 0),some (pr p 0),some (pr p 4),some (.slice g a.length h),some (.int .i64 (pos:Int)),some (pr p 0),some (pr p 0),some (pr p 3),some (.slice e N f),some (.int .i64 (A:Int)),some (.int .i64 ((A:Int)+8)),some (.int .i64 (A:Int)),some (.int .i64 ((A:Int)+8)),some (.int .i64 (body.length:Int)),some (.int .i64 ((A:Int)+8+(body.length:Int))),some r,none,none,none,none,some (pr p 0),some (pr p 4),none]
theorem RM (rs:List Rcd)(j:Nat)(r:Rcd)(h:rs[j]?=some r):encRs rs=encRs (rs.take j)++(J5 r++encRs (rs.drop (j+1))):=by
 have c:=(Ai.1 h)
 have e:rs=rs.take j++r::rs.drop (j+1):=by obtain⟨a,b⟩:=c;rw[←b];exact(BX j rs).symm.trans (by rw[Cj a])
 conv=>lhs;rw[e]
 unfold encRs;simp
theorem ge8 (N A:Nat)(h:A+8≤N):decide ((8:Int)≤(N:Int)-(A:Int))=true:=An (by omega)
theorem OP {w:World}{p:Nat}(ac base run:Int)(vb:Value)(rs:List Rcd)(b2:∀r∈rs,r.ok)(hs:Blk w p (sgC ac base run vb (.slice none 0 0)) 358)(f:Buf w 0 5 vb (encRs rs))(hN:(encRs rs).length ≤1000):
  Calls Tryz.prog 295 #[pr p 0] w fun e V=>e=.returned (.tuple #[])∧∃vr L,L.map (·.r)=rs∧Blk V p (sgC ac base run vb vr) 358∧RRow V w.heap.size vr L∧(Mj vr L).Nodup ∧Keep [p] w V:=by
 obtain⟨i8,ao,c9,aq,da⟩:=AU In;obtain⟨iR,cn,cw,cx,cy⟩:=AU YF;obtain⟨g,m,rfl⟩:=f.slice;obtain⟨N,bb⟩:∃N,N=(encRs rs).length :=⟨_,rfl⟩;rw[←bb]at hs f hN⊢;have an:N≤m:=by obtain⟨_,a,c,he,hc,_⟩:=f.rd;injection he with _ h2 h3;omega
 obtain⟨HB,bn,aw,c1,b8⟩:=i_5 f b2 bb hs.lt hs.ty
 have c7:∀W:World,(Instr.sliceAt 81 (.slice g N m) none (some (.int .i64 (N:Int))) none).run Tryz.prog W=.ok (.slice g N m) W:=fun W=>by
  rw[Lk (P:=Tryz.prog) (w:=W) 81 5 i8 Ao ao aq g N m N an]
  have:(if m=0 then g else g.map (·.add 0))=g:=by
   split
   ·rfl
   ·cases g with
    |none=>rfl
    |some a=>obtain⟨b,o,q⟩:=a;simp[Addr.add]
  rw[this,Nat.sub_zero,Nat.sub_zero]
 clear f b2 bb;go_enter Tryz.func295,Tryz.ntmps295;go_wp2
 go_loopw [2] (fun x wr=>∃(j:Nat) (L:List Rc) (vr:Value),j≤rs.length∧x=.int .i64 (((encRs (rs.take j)).length :Nat):Int)∧L.map (·.r)=rs.take j∧Blk wr p (sgC ac base run (.slice g N m) vr) 358∧RRow wr w.heap.size vr L∧(Mj vr L).Nodup ∧Keep [p] w wr) (fun x _=>N+1-(intOf x).toNat)
 case atStart=>exact⟨0,[],_,by omega,rfl,rfl,hs,RRow.nil _ _,by simp[Mj,Value.ownBlock],By _ _⟩
 case round=>
  clear hs;obtain⟨j,L,vr,hj,rfl,hL,ae,aa,am,ad⟩:=hrel;obtain⟨ra,af,rfl⟩:=aa.slice;have c3:=Hv ae;by_cases bg:j<rs.length
  ·obtain⟨r,hr⟩:∃r,rs[j]?=some r:=⟨_,Ad bg⟩
   have ct:=bn.out r (Aq hr);have bd:=RM rs j r hr;obtain⟨pos,body⟩:=r;obtain⟨k1,G,k3,k4⟩:1≤body.length∧body.length≤300∧pos<281474976710656∧∀c∈body,c<256:=ct;have b1:encRs (rs.take (j+1))=encRs (rs.take j)++J5 (pos,body):=by rw[BH,hr];simp[Hn]
   have bs:L.length=j:=by have:=A3 List.length hL;simp at this;omega
   obtain⟨A,hA⟩:∃A,A=(encRs (rs.take j)).length :=⟨_,rfl⟩
   have c6:A+8+body.length≤N:=by have C:=aw.out;rw[bd,Aj,Aj,Fr]at C;simp only at C;omega
   have cq:(encRs (rs.take (j+1))).length =A+8+body.length:=by rw[b1,Aj,Fr,hA];simp only;omega
   have bf:(encRs rs).drop A=be 2 body.length++(be 6 pos++(body++encRs (rs.drop (j+1)))):=by rw[bd,hA,EN];unfold J5;simp
   have bc:(encRs rs).drop (A+2)=be 6 pos++(body++encRs (rs.drop (j+1))):=by rw[←Bu,bf,Cp (by simp)]
   have bw:(encRs rs).drop (A+8)=body++encRs (rs.drop (j+1)):=by rw[show A+8=A+2+6 by omega,←Bu,bc,Cp (by simp)]
   rw[←hA];have cm:=Ho rs bn.out;obtain⟨S2,ch,ab,_⟩:=D3 (P:=Tryz.prog) 81 5 i8 Ao ao aq g N m (Bb (encRs rs)) (A:Int) ((A:Int)+2) A (A+2) rfl (by omega) (by omega) (by omega) an;obtain⟨S6,ci,bu,_⟩:=D3 (P:=Tryz.prog) 81 5 i8 Ao ao aq g N m (Bb (encRs rs)) ((A:Int)+2) ((A:Int)+8) (A+2) (A+8) (by omega) (by omega) (by omega) (by omega) an;obtain⟨SB,br,bv,_⟩:=D3 (P:=Tryz.prog) 81 5 i8 Ao ao aq g N m (Bb (encRs rs)) ((A:Int)+8) ((A:Int)+8+(body.length:Int)) (A+8) (A+8+body.length) (by omega) (by omega) (by omega) (by omega) an;have ap:∀W:World,Buf W 0 5 (.slice g N m) (encRs rs)→Rv W 1 (.slice g N m) N (Bb (encRs rs)):=fun W h=>by have:=h.rd;unfold Rd at this;rw[←aw.out]at this;exact this
   have b9:Hid (∀W:World,Buf W 0 5 (.slice g N m) (encRs rs)→Rd W S2 (be 2 body.length)):=h_ (fun W h=>by have C:=ab W (ap W h);rw[D4,bf,show A+2-A=2 by omega,Ca (by simp)]at C;exact Yv C (by simp))
   have ca:Hid (∀W:World,Buf W 0 5 (.slice g N m) (encRs rs)→Rd W S6 (be 6 pos)):=h_ (fun W h=>by have C:=bu W (ap W h);rw[D4,bc,show A+8-(A+2)=6 by omega,Ca (by simp)]at C;exact Yv C (by simp))
   have cb:Hid (∀W:World,Buf W 0 5 (.slice g N m) (encRs rs)→Rd W SB body):=h_ (fun W h=>by have C:=bv W (ap W h);rw[D4,bw,show A+8+body.length-(A+8)=body.length by omega,Ca rfl]at C;exact Yv C rfl)
   have cd:Hid (body.length=unbe (be 2 body.length)):=h_ (by rw[FD,AR (by omega)]);have ce:Hid (pos=unbe (be 6 pos)):=h_ (by rw[FD,AR (by omega)]);have b4:=h_ br;have bq:Buf wr 0 5 (.slice g N m) (encRs rs):=HB.out.keep ad (fun q d U=>by simp only[Ah]at U;subst U;exact(HB.out.ty' _ d).ne b8.out (by decide) rfl);have ar:=h_ bq
   have ag:=h_ (show body.length≤300∧A+8+body.length≤N∧N≤1000∧j<1000∧L.length≤1000 by
    have:j≤(encRs (rs.take j)).length :=by
     have h9:∀l:List Rcd,l.length≤(encRs l).length :=fun l=>by
      induction l with
      |nil=>simp
      |cons a t ih=>have:=Fr a;unfold encRs at ih⊢;simp only[Br,List.flatten_cons,Aj,List.length_cons];omega
     have:=h9 (rs.take j);rw[Az]at this;omega
    omega)
   have bk:Hid (IntKind.i64.wrap ((A:Int)+8)=(A:Int)+8):=h_ (by rw[A9];omega);have b3:Hid (IntKind.i64.wrap ((A:Int)+8+(body.length:Int))=(A:Int)+8+(body.length:Int)):=h_ (by rw[A9];omega);have HJ:=h_ (show j<rs.length∧L.length=j from⟨bg,bs⟩);obtain⟨HL,b7,ax,au⟩:=i_4 hL cq am ad;have cc:Hid (rs.take (j+1)=rs.take j++[(pos,body)]):=h_ (by rw[BH,hr];simp);have bl:=h_ ad.size;have q0:=ge8 N A (by omega);have q1:decide ((body.length:Int)<1)=false:=Ak (by omega);have cz:decide (body.length<1)=false:=Ak (by omega);have q2:decide ((300:Int)<(body.length:Int))=false:=Ak (by omega);have c0:decide (300<body.length)=false:=Ak (by omega);have q3:decide ((N:Int)-(A:Int)-8<(body.length:Int))=false:=Ak (by omega);have c5:A≤1000:=by omega
   have c8:body.length≤300:=by omega
   clear ab bu bv ap br bf bc bw b1 bd hA hL am ad cm hr bs bq k4;go_wp2_with fail;refine(CB S2 (be 2 body.length) (b9.out wr ar.out) (Fj _ _) (by simp) body.length cd.out).mono ?_;rintro e w1 ⟨rfl,rfl⟩;go_wp2_with fail;refine(CB S6 (be 6 pos) (ca.out wr ar.out) (Fj _ _) (by simp) pos ce.out).mono ?_;rintro e w1 ⟨rfl,rfl⟩;have cs:(pos:Int)<281474976710656:=by omega
   go_wp2_with fail;have bp:=ar.out;clear ch ci cs;refine wI (recJ wr w.heap.size p N m af pos A ac base run SB g ra L body (encRs rs)) ?aS (.s ?a0<|.s ?a1<|.s ?a2<|.s ?a3<|.s ?a4<|.s ?a5<|.s ?a6<|.s ?a7<|.s ?a8<|.s ?a9<|.s ?a10<|.s ?a11<|.s ?a12<|.s ?a13<|.s ?a14<|.s ?a15<|.s ?a16<|.s ?a17<|.s ?a18<|.s ?a19<|.s ?a20<|.s ?a21<|.s ?a22<|.s ?a23<|.n) 24 ?aF
   case aS=>intro x;exact⟨none,0,none,0,0,fun _=>ae.drew,fun h=>absurd h (by decide),fun h=>absurd h (by decide),fun h=>absurd h (by decide),fun _=>aa.still (By [] _).drew,fun h=>absurd h (by decide),bp.keep (By [] _).drew (by simp),(By _ _).drew,fun h=>absurd h (by decide),fun h=>absurd h (by decide),fun h=>absurd h (by decide),fun h=>absurd h (by decide),Yr⟩
   case a18=>
    intro l x V Y B T;obtain⟨i,k,H,I,R,z,Q,J,S,E,O,f,D,u,K,F,M,vS⟩:=Y;have e5:=vS.a 5 (T.at rfl) rfl;have cf:=u (T.at rfl);have ah:Hid (l 17=true):=h_ (T.at rfl);refine Oq.of (b:= ?bR18) ?eR18 ?_
    case eR18=>simp only[Al,Act.put,A8,A7,A6,e5,cf.1];rfl
    intro K' X;go_simp;exact X.go _ rfl ⟨i,k,H,I,R,z,Q,J,S,E,O,f,D,u,fun _=>⟨rfl,ah⟩,F,M,vS.s rfl⟩
   case a19=>
    intro l x V Y B T;obtain⟨i,k,H,I,R,z,Q,J,S,E,O,f,D,u,K,F,M,vS⟩:=Y;have bo:=K (T.at rfl);refine Oq.of (b:= ?bR19) ?eR19 ?_
    case eR19=>simp only[Al,Act.put,A8,A7,A6,bo.1];rfl
    intro K' X;go_simp;exact X.go _ rfl ⟨i,k,H,I,V.heap.size,fun h=>(z h).alloc _,fun h=>(Q h).alloc _,J,S,fun h=>(E h).still ((By [] _).alloc _),fun h=>(O h).still ((By [] _).alloc _),f.alloc _,D.alloc _,fun h=>⟨(u h).1,fun Z=>((u h).2.1 Z).alloc _,(u h).2.2⟩,K,fun _=>⟨rfl,fun _=>BY _ [.int .i64 (pos:Int),.slice i body.length k] _,bo.2⟩,M,vS.s rfl⟩
   case a20=>
    intro l x V Y B T;obtain⟨i,k,H,I,R,z,Q,J,S,E,O,f,D,u,K,F,M,vS⟩:=Y;have e4:=vS.a 4 (T.at rfl) rfl;have az:=F (T.at rfl);have av:Hid (l 4=true):=h_ (T.at rfl);have ah:=az.2.2;have ck:=(u ah.out).2.1 B;have cl:=az.2.1 B;refine Oq.of (b:= ?bR20) ?eR20 ?_
    case eR20=>simp only[Al,Act.put,A8,A7,A6,e4,az.1];rfl
    intro K' X;refine BO _ rfl (.tmp 56) (.tmp 71) 350 350 rfl w.heap.size 353 iR _ 2 32 El cn cw cx cy rfl (by decide) (.slice ra L.length af) L.length (rcCs L) rfl (E B).own _ 1 [.int .i64 (pos:Int),.slice i body.length k] rfl (QO V R _ _ cl El rfl) (by unfold maxLen;have:=ag.out;omega) (by have:=ag.out;omega) (AJ bl.out D.size) ?_;intro v2 w2 g2 g3 _ g4;obtain⟨bi,bj,rfl⟩:=A4 g2;have G:Keep (.slice ra L.length af:Value).ownBlock.toList V w2:=DJ g3;have cj:RRow w2 w.heap.size (.slice bi (L.length+1) bj) (L++[⟨(pos,body),.slice i body.length k⟩]):=(E B).snoc ⟨(pos,body),.slice i body.length k⟩ (ck.mono bl.out) rfl g2 G;have cv:=(E B).ty;exact X.go (.slice bi (L.length+1) bj) rfl ⟨i,k,bi,bj,R,fun h=>(z h).keep G (fun U=>(E B).rty (z h).ty (by decide) U),fun h=>absurd (J h).2 (by simp[B]),fun h=>⟨(J h).1,rfl⟩,fun _=>ah.out,fun h=>Bool.noConfusion (show true=false from h),fun _=>cj,f.keep G (fun q d U=>(E B).rty (f.ty' q d) (by decide) U),D.trans (G.mono (fun q d _=>Ap _ d)),fun h=>⟨(u h).1,fun Z=>Bool.noConfusion (show true=false from Z),(u h).2.2⟩,K,fun h=>⟨(F h).1,fun Z=>Bool.noConfusion (show true=false from Z),(F h).2.2⟩,fun _=>⟨rfl,av⟩,vS.s rfl⟩
   case a23=>
    intro l x V Y B T;obtain⟨i,k,H,I,R,z,Q,J,S,E,O,f,D,u,K,F,M,vS⟩:=Y;have al:=M (T.at rfl);have cg:=vS.a 22 (T.at rfl) rfl;have c4:=IL (z B);have f4:=(z B).free 4;have ai:Hid (l 20=true):=h_ (T.at rfl);refine Oq.of (b:= ?bR23) ?eR23 ?_
    case eR23=>simp only[Al,Act.put,A8,A7,A6,al.1,cg];rfl
    intro K' X;have av:=al.2;have al:=al.1;go_simp;have G:Keep [p] V (V.setCell ⟨p,4,none⟩ (.slice H (L.length+1) I)):=(By _ _).setCell (.inl (by simp)) _;have ab:=(z B).set 4 (.slice H (L.length+1) I);have bh:=(z B).ty;exact X.go undef rfl ⟨i,k,H,I,R,fun h=>Bool.noConfusion (show true=false from h),fun _=>ab,fun _=>⟨av.out,ai.out⟩,S,fun h=>absurd ai.out (by simp[show l 20=false from h]),fun h=>(O h).keep G (fun q d U=>by simp only[Ah]at U;subst U;rcases(O h).ty q d with C|C;exact C.ne bh (by decide) rfl;exact C.ne bh (by decide) rfl),f.keep G (fun q d U=>by simp only[Ah]at U;subst U;exact(f.ty' q d).ne bh (by decide) rfl),D.trans (G.mono (fun q d _=>by simp only[Ah]at d;subst d;exact Ac.2 (.inl rfl))),fun h=>⟨(u h).1,fun Z=>absurd ai.out (by simp[show l 20=false from Z]),(u h).2.2⟩,K,fun h=>⟨(F h).1,fun Z=>absurd ai.out (by simp[show l 20=false from Z]),(F h).2.2⟩,M,vS.s rfl⟩
   case aF=>
    intro l x w3 Y hl;obtain⟨i,k,H,I,R,z,Q,J,S,E,O,f,D,u,K,F,M,vS⟩:=Y;have hS:=Q (hl 23 (by decide));have bt:=O (hl 20 (by decide));have bx:=(u (hl 17 (by decide))).2.2;simp only[Al,Act.put,A8,A7,A6];simp only[AP,Nat.reduceAdd];obtain⟨HS,aj,b5,ak⟩:=i_4 hS bt bx aa
    have b6:Hid (Keep [p] w w3):=h_ (au.out.then D (fun q d bg=>by
     rcases Ac.1 d with rfl|d
     ·simp
     ·exact absurd (aa.lt q (A2 _ d)).1 (by omega)))
    clear u K F M z Q J S E O f D hl hS bt bx ae aa bp c3 q0 q1 cz q2 c0 q3 vS;go_wp2
    go_roundw
    case rel=>
     refine⟨j+1,L++[⟨(pos,body),.slice i body.length k⟩],.slice H (L.length+1) I,by have:=HJ.out;omega, ?_, ?_,HS.out,aj.out, ?_,b6.out⟩
     ·rw[b7.out]
      exact A3 (Value.int .i64) (by omega)
     ·rw[AL,HL.out,cc.out]
      rfl
     ·have bz:=ak.out.lt
      have b0:=ax.out;have cv:=aj.out.ty;unfold Mj at b0 bz⊢;rw[Bg,BI,Eb,AE];have co:=(BV.1 b0).2.1;have cr:∀q∈L.flatMap (fun y=>y.v.ownBlock.toList),q<wr.heap.size:=fun q d=>(bz q (AQ _ d)).2
      have cp:∀q∈(Value.slice i body.length k).ownBlock.toList,wr.heap.size≤q:=fun q d=>b5.out q (Ae.1 d)
      have hu:∀q∈L.flatMap (fun y=>y.v.ownBlock.toList)++(Value.slice i body.length k).ownBlock.toList,Ty w3 q 5:=fun q d=>by
       have h9:∀y∈L++[⟨(pos,body),.slice i body.length k⟩],∀q∈y.v.ownBlock.toList,Ty w3 q 5:=fun y hy q d=>(aj.out.ok y hy).1.own.ty q (Ae.1 d)
       rcases Ag.1 d with d|d
       ·obtain⟨y,hy,d⟩:=Bm.1 d
        exact h9 y (A2 _ hy) q d
       ·exact h9 ⟨(pos,body),.slice i body.length k⟩ (by simp) q d
      refine BV.2 ⟨?_,BV.2 ⟨co, ?_,fun a ha b hb=>by have:=cr a ha;have:=cp b hb;omega⟩,fun a ha b hb=> ?_⟩
      ·cases (Value.slice H (L.length+1) I).ownBlock <;>simp
      ·cases (Value.slice i body.length k).ownBlock <;>simp
      ·rintro rfl
       exact aj.out.rty (hu a hb) (by decide) ha
    case measure=>simp only[intOf];have:=ag.out;omega
   all_goals
    intro l x V Y B T;obtain⟨i,k,H,I,R,z,Q,J,S,E,O,f,D,u,K,F,M,vS⟩:=Y;have hW:=vS;have hD:=T;simp only[SlV]at hW
    try simp[BD,Region.binds]at hD
    refine Oq.of (by simp only[Al,Act.put,A8,A7,A6,hD,hW];rfl) ?_;clear hD hW;intro K' X
   case a4=>have c4:=IL (z (by cases d:l 23 with|false=>rfl|true=>exact absurd (J d).1 (by simp[B])));go_simp;exact X.go _ rfl ⟨i,k,H,I,R,z,Q,fun h=>⟨rfl,(J h).2⟩,S,E,O,f,D,u,K,F,fun h=>⟨(M h).1,h_ rfl⟩,vS.r⟩
   case a11=>go_simp;exact X.go _ rfl ⟨i,k,H,I,R,z,Q,J,S,E,O,f,D,u,K,F,M,vS.q ((by first|rfl|exact A3 (Value.int .i64) bk.out))⟩
   case a13=>go_simp;exact X.go _ rfl ⟨i,k,H,I,R,z,Q,J,S,E,O,f,D,u,K,F,M,vS.q ((by first|rfl|exact A3 (Value.int .i64) bk.out))⟩
   case a15=>go_simp;exact X.go _ rfl ⟨i,k,H,I,R,z,Q,J,S,E,O,f,D,u,K,F,M,vS.q ((by first|rfl|exact A3 (Value.int .i64) b3.out))⟩
   case a17=>go_simp;refine(Fg SB body (cb.out V f) (by have:=ag.out;omega)).mono ?_;rintro e w2 ⟨v2,rfl,ba,G⟩;obtain⟨c2,c3,rfl⟩:=ba.slice;have bm:=h_ (ba.mono D.size);clear ba;go_simp;exact X.go (.slice c2 body.length c3) rfl ⟨c2,c3,H,I,R,fun h=>(z h).keep G (by simp),fun h=>(Q h).keep G (by simp),J,fun _=>rfl,fun h=>(E h).still G,fun h=>absurd (S h) (by simp[B]),f.keep G (by simp),D.trans (G.mono (by simp)),fun _=>⟨rfl,fun _=>bm.out,fun q d=>(bm.out.lt q d).1⟩,fun h=>absurd (K h).2.out (by simp[B]),fun h=>absurd (F h).2.2.out (by simp[B]),M,vS.s rfl⟩
   all_goals
    have c3:V.cell? ⟨p,3,none⟩=some (.slice g N m):=by cases d:l 23 with|false=>exact Hv (z d)|true=>exact Hv (Q d)
    have hcut:=b4.out;go_simp;exact X.go _ rfl ⟨i,k,H,I,R,z,Q,J,S,E,O,f,D,u,K,F,M,vS.r⟩
  ·obtain rfl:j=rs.length:=by omega
   obtain⟨HL,ay,ak,ax,au⟩:=i_5 hL ae aa am ad;rw[Bt,←aw.out];have f3:=ae.free 3;have q0:decide ((8:Int)≤(N:Int)-(N:Int))=false:=by simp
   clear hL ae aa am ad;go_wp2
   go_end0
   have cu:(sgC ac base run (.slice g N m) (.slice ra L.length af)).set 3 (.slice g N m)=sgC ac base run (.slice g N m) (.slice ra L.length af):=rfl;have ab:=ay.out.set 3 (.slice g N m);rw[cu]at ab;have G:Keep [p] wr (wr.setCell ⟨p,3,none⟩ (.slice g N m)):=(By _ _).setCell (.inl (by simp)) _;refine⟨rfl,_,L,by rw[HL.out,Bt],ab,ak.out.keep G (fun q d U=> ?_),ax.out,au.out.trans G⟩;simp only[Ah]at U;subst U;rcases ak.out.ty q d with C|C
   ·exact C.ne ay.out.ty (by decide) rfl
   ·exact C.ne ay.out.ty (by decide) rfl
theorem Fld.any (X:List Nat)(b:X.length=64)(a:∀c∈X,c<256):Fld X (crcSum (X.drop 4)) (unbe (X.take 4)) (unbe ((X.drop 4).take 6)) (unbe ((X.drop 10).take 4)) (unbe ((X.drop 16).take 6)) (X.getD 14 0) (X.getD 15 0):=
 ⟨b,a,rfl,rfl,rfl,rfl,rfl,rfl,rfl⟩
section
variable (gen base run i:Nat) (buf:List Nat)
theorem Lf:(sgImg gen base run i buf).drop 4=D8 gen base run i buf:=by unfold sgImg;exact Cp (by simp)
theorem Vf:(sgImg gen base run i buf).take 4=be 4 (crcSum (D8 gen base run i buf)):=by unfold sgImg;exact Ca (by simp)
theorem MB:(sgImg gen base run i buf).drop 10=be 4 run++([i]++([(BK buf i).length]++(EX i base++(BK buf i++List.replicate (Dg i-(BK buf i).length) 0)))):=by rw[show(10:Nat)=4+6 from rfl,←Bu,Lf];unfold D8;exact Cp (by simp)
theorem JG:(sgImg gen base run i buf).drop 14=[i]++([(BK buf i).length]++(EX i base++(BK buf i++List.replicate (Dg i-(BK buf i).length) 0))):=by rw[show(14:Nat)=10+4 from rfl,←Bu,MB];exact Cp (by simp)
theorem MA:(sgImg gen base run i buf).drop 16=EX i base++(BK buf i++List.replicate (Dg i-(BK buf i).length) 0):=by rw[show(16:Nat)=14+2 from rfl,←Bu,JG];rfl
theorem LE (l:List Nat)(k j:Nat):l.getD (k+j) 0=(l.drop k).getD j 0:=by rw[Af,Af,Bp]
theorem I7 (b:i<256)(a:∀c∈buf,c<256)(e:gen<281474976710656∧run<4294967296):
  Fld (sgImg gen base run i buf) (crcSum (D8 gen base run i buf)) (crcSum (D8 gen base run i buf)) gen run (unbe (((sgImg gen base run i buf).drop 16).take 6)) i (BK buf i).length :=by
 have d:=OA _ (Id gen base run i buf b a);refine⟨GG _ _ _ _ _,Lg gen base run i buf b a,by rw[Lf], ?_, ?_, ?_,rfl, ?_, ?_⟩
 ·rw[Vf,FD,AR (by omega)]
 ·rw[Lf]
  unfold D8;rw[Ca (by simp),FD,AR (by omega)]
 ·rw[MB,Ca (by simp),FD,AR (by omega)]
 ·rw[show(14:Nat)=14+0 from rfl,LE,JG]
  rfl
 ·rw[show(15:Nat)=14+1 from rfl,LE,JG]
  rfl
theorem QR (a:base<281474976710656):unbe (((sgImg gen base run 0 buf).drop 16).take 6)=base:=by rw[MA];unfold EX;rw[Ay rfl,Ca (by simp),FD,AR (by omega)]
theorem QQ:FX (sgImg gen base run i buf) i (BK buf i).length =BK buf i:=by have b:=GY i;have a:=JF i base;unfold FX;rw[show 64-Dg i=16+(48-Dg i) by omega,←Bu,MA,Cp a];exact Ca rfl
end
theorem Ic (i:Nat):st0 (i+1)=st0 i+Dg i:=by unfold st0 Dg;split<;>omega
theorem RX (buf:List Nat)(i:Nat):buf.take (st0 i)++BK buf i=buf.take (st0 (i+1)):=by unfold BK;rw[Ic,List.take_add]
theorem Vd {i j:Nat}(h:i≤j):st0 i≤st0 j:=by unfold st0;omega
structure SegDev (L:List Sec) (a gen base:Nat) (buf:List Nat) (rn:Nat→Nat):Prop where
 on:∀i,i<8→(i=0∨st0 i<buf.length)→(L.getD (a+i) zeroSec).now =sgImg gen base (rn i) i buf
 run:∀i,i<8→rn i<4294967295
 up:∀i j,i≤j→j<8→(j=0∨st0 j<buf.length)→rn i≤rn j
 off:∀i,i<8→0<i→buf.length≤st0 i→crcSum ((L.getD (a+i) zeroSec).now.drop 4)≠unbe ((L.getD (a+i) zeroSec).now.take 4)∨unbe (((L.getD (a+i) zeroSec).now.drop 4).take 6)≠gen
def runOf (s:Sec):Nat:=unbe ((s.now.drop 10).take 4)
theorem WX {w:World}{p t A db cw:Nat}{ap:Int}{vb vr:Value}{m X:List Nat}{SN FN F L BN i0 y i:Nat}(hF:Fld X SN FN F L BN i0 y)(bu:64≤A)(ao:Blk w p (sgC db cw ap vb vr) 358)(al:Buf w 0 5 vb m)(aa:Buf w 0 5 (.slice (some ⟨t,0,none⟩) 64 A) X)
  (I:i<8) (ay ae:Nat) (B:(i=0∧ay=F∧ae=BN)∨(0<i∧ay=db∧ae=cw)) (fa:SN=FN) (e7:F=ay) (fb:ap≤(L:Int)) (e8:i=i0) (dz:y≤Dg i) (dy:m.length=st0 i) (e9:∀q,vb.ownBlock=some q→q≠t):
  Calls Tryz.prog 294 #[pr p 0,.int .i64 (i:Int),.slice (some ⟨t,0,none⟩) 64 A] w fun e j=>e=.returned (.bool true)∧∃ca:Value,Blk j p (sgC ay ae L ca vr) 358∧Buf j 0 5 ca (m++FX X i y)∧(∀k,ca.ownBlock=some k→vb.ownBlock=some k∨w.heap.size≤k)∧Keep (p::vb.ownBlock.toList) w j:=by
 have ez:Hid (decide ((L:Int)<ap)=false):=h_ (Ak (by omega));have bh:Hid (decide (Dg i<y)=false∧decide ((Dg i:Int)<(y:Int))=false):=h_ ⟨Ak (by omega),Ak (by omega)⟩;have cu:Hid (((m.length:Int) !=(st0 i:Int))=false∧(m.length !=st0 i)=false):=h_ ⟨by simp;omega,by simp;omega⟩;obtain⟨ea,cg⟩:=i_2 dy dz;subst fa e8;subst e7;clear fb dz dy;obtain⟨i8,ab,fh,ac,fi⟩:=AU In;obtain⟨bt,ah,bo,dk,bm,bn,bk,d0,bs⟩:=hF;obtain⟨M,N,rfl⟩:=al.slice;have R:Hid (∀W:World,Buf W 0 5 (.slice (some ⟨t,0,none⟩) 64 A) X→Rv W 1 (.slice (some ⟨t,0,none⟩) 64 A) 64 (Bb X)):=h_ (fun W h=>by have:=h.rd;unfold Rd at this;rw[bt]at this;exact this);obtain⟨au,dg,dp,_⟩:=D3 (P:=Tryz.prog) 81 5 i8 Ao ab ac (some ⟨t,0,none⟩) 64 A (Bb X) 4 10 4 10 rfl rfl (by omega) (by omega) bu;obtain⟨cv,e3,dm,_⟩:=D3 (P:=Tryz.prog) 81 5 i8 Ao ab ac (some ⟨t,0,none⟩) 64 A (Bb X) 10 14 10 14 rfl rfl (by omega) (by omega) bu;obtain⟨S4,df,dn,_⟩:=Fi (P:=Tryz.prog) 81 5 i8 Ao ab ac (some ⟨t,0,none⟩) 64 A (Bb X) 4 4 rfl (by omega);obtain⟨bi,de,dl,_⟩:=ID (P:=Tryz.prog) 81 5 i8 Ao ab ac (some ⟨t,0,none⟩) 64 A (Bb X) 4 4 rfl (by omega) bu;obtain⟨T0,bl,dq,bp⟩:=Fi (P:=Tryz.prog) 81 5 i8 Ao ab ac (some ⟨t,0,none⟩) 64 A (Bb X) 16 16 rfl (by omega);have bj:∀k,(Bb X).drop k=Bb (X.drop k):=U9 X;have cz:∀k,(Bb X).take k=Bb (X.take k):=Sf X;have cm:Hid (∀W:World,Rv W 1 (.slice (some ⟨t,0,none⟩) 64 A) 64 (Bb X)→Rv W 1 au 6 (Bb ((X.drop 4).take 6))):=h_ (fun W h=>by have:=dp W h;rw[D4]at this;exact this);have eo:Hid (∀W:World,Rv W 1 (.slice (some ⟨t,0,none⟩) 64 A) 64 (Bb X)→Rv W 1 cv 4 (Bb ((X.drop 10).take 4))):=h_ (fun W h=>by have:=dm W h;rw[D4]at this;exact this);have cl:Hid (∀W:World,Rv W 1 (.slice (some ⟨t,0,none⟩) 64 A) 64 (Bb X)→Rv W 1 S4 60 (Bb (X.drop 4))):=h_ (fun W h=>by have:=dn W h;rw[bj]at this;exact this);obtain⟨_,fj,fk,fc,_,_⟩:=id (cl.out w (R.out w aa));subst fc;have en:Hid (∀W:World,Rv W 1 (.slice (some ⟨t,0,none⟩) 64 A) 64 (Bb X)→Rv W 1 bi 4 (Bb (X.take 4))):=h_ (fun W h=>by have:=dl W h;rw[cz]at this;exact this);have ak:Hid (∀W:World,Rv W 1 (.slice (some ⟨t,0,none⟩) 64 A) 64 (Bb X)→Rv W 1 T0 48 (Bb (X.drop 16))):=h_ (fun W h=>by have:=dq W h;rw[bj]at this;exact this);obtain⟨_,C,D,ff,d5,_⟩:=id (ak.out w (R.out w aa))
 subst ff;have cx:∀k,(Bb (X.drop 16)).drop k=Bb ((X.drop 16).drop k):=U9 _;have cy:∀k,(Bb (X.drop 16)).take k=Bb ((X.drop 16).take k):=Sf _;obtain⟨T6,dh,ds,_⟩:=ID (P:=Tryz.prog) 81 5 i8 Ao ab ac C 48 D (Bb (X.drop 16)) 6 6 rfl (by omega) d5;obtain⟨e0,di,dt,du⟩:=Fi (P:=Tryz.prog) 81 5 i8 Ao ab ac C 48 D (Bb (X.drop 16)) 6 6 rfl (by omega);have cn:Hid (∀W:World,Rv W 1 (.slice C 48 D) 48 (Bb (X.drop 16))→Rv W 1 T6 6 (Bb ((X.drop 16).take 6))):=h_ (fun W h=>by have:=ds W h;rw[cy]at this;exact this);have bd:Hid (∀W:World,Rv W 1 (.slice C 48 D) 48 (Bb (X.drop 16))→Rv W 1 e0 42 (Bb (X.drop 22))):=h_ (fun W h=>by have:=dt W h;rw[cx,Bu]at this;exact this);obtain⟨_,tb,d7,fe,_,_⟩:=id (bd.out w (ak.out w (R.out w aa)));subst fe;obtain⟨cd,ee,ed,ce,cf⟩:=i_5 dg df de dh di;have be:=h_ (show(Value.slice C 48 D).ownBlock =some t∧(Value.slice tb 42 d7).ownBlock =some t from⟨bp,du.trans bp⟩);have fd:∀(Y:List Nat),(∀c∈Y,c∈X)→∀c∈Y,c<256:=fun Y h c O=>ah c (h c O)
 have bg:Hid (∀c∈(X.drop 4).take 6,c<256):=h_ (fun c O=>ah c (AB (AH O)));have ct:Hid (∀c∈(X.drop 10).take 4,c<256):=h_ (fun c O=>ah c (AB (AH O)));have cr:Hid (∀c∈(X.drop 16).take 6,c<256):=h_ (fun c O=>ah c (AB (AH O)));have cs:Hid (∀c∈X.drop 4,c<256):=h_ (fun c O=>ah c (AB O));have ey:Hid (∀c∈X.take 4,c<256):=h_ (fun c O=>ah c (AH O));have aq:Hid (((X.drop 4).take 6).length =6):=h_ (by rw[Az,A5];omega);have bc:Hid (((X.drop 10).take 4).length =4):=h_ (by rw[Az,A5];omega);have bb:Hid (((X.drop 16).take 6).length =6):=h_ (by rw[Az,A5];omega);have aj:Hid ((X.drop 4).length =60):=h_ (by rw[A5];omega);have ck:Hid ((X.take 4).length =4):=h_ (by rw[Az];omega);have fn:F<281474976710656:=by rw[bm];exact EA _ 6 (by rw[aq.out];omega) bg.out
 have fo:L<4294967296:=by rw[bn];exact EA _ 4 (by rw[bc.out];omega) ct.out
 have fm:BN<281474976710656:=by rw[bk];exact EA _ 6 (by rw[bb.out];omega) cr.out
 have fp:SN<4294967296:=by rw[bo];exact OA _ cs.out
 have e6:y<256:=by rw[bs,Af,Ad (by omega)];exact ah _ (BS _)
 obtain⟨ch,em,ec,ep,ei⟩:=i_5 bm bn bk bo dk;have co:Hid (IntKind.i64.wrap (F:Int)=(F:Int)):=h_ (by rw[A9];omega);have et:Hid (IntKind.i64.wrap (BN:Int)=(BN:Int)):=h_ (by rw[A9];omega);have eu:Hid (IntKind.u64.wrap (SN:Int)=(SN:Int)):=h_ (by simp[IntKind.wrap,IntKind.bits,IntKind.signed];omega);have ev:Hid (IntKind.i64.wrap (y:Int)=(y:Int)):=h_ (by rw[A9];omega);have ew:Hid (IntKind.i64.wrap (i:Int)=(i:Int)):=h_ (by rw[A9];omega);obtain⟨ef,ci⟩:=i_2 e6 I
 have d8:Hid (∀W:World,Buf W 0 5 (.slice (some ⟨t,0,none⟩) 64 A) X→W.cell? ⟨t,14,none⟩=some (.int .u8 (i:Int))):=h_ (fun W h=>by have h1:=(h.own.cell (n:=64) (by rw[Bd,bt]) 14 (by omega)).1;rw[h1,EL X 14 (by omega),←d0];rfl)
 have cb:Hid (∀W:World,Buf W 0 5 (.slice (some ⟨t,0,none⟩) 64 A) X→W.cell? ⟨t,15,none⟩=some (.int .u8 (y:Int))):=h_ (fun W h=>by have h1:=(h.own.cell (n:=64) (by rw[Bd,bt]) 15 (by omega)).1;rw[h1,EL X 15 (by omega),←bs];rfl)
 have ar:Hid (∀q,(Value.slice (some ⟨t,0,none⟩) 64 A).ownBlock =some q→q∉ [p]):=h_ (fun q z K=>by simp only[Ah]at K;subst K;exact(aa.ty' _ z).ne ao.ty (by decide) rfl)
 have aw:Hid (∀q,(Value.slice M m.length N).ownBlock =some q→q∉ [p]):=h_ (fun q z K=>by simp only[Ah]at K;subst K;exact(al.ty' _ z).ne ao.ty (by decide) rfl)
 have H2:=h_ B;clear dg df de dh di dp dm dn dl dq ds dt bj cz cx cy bm bn bk bo dk d0 bs B bp du d5 fd I;go_enter Tryz.func294,Tryz.ntmps294;go_upto_if 12 with fail;go_cut [7] (fun s7 wc=>∃C D,s7=.slice C (Dg i) D∧(Value.slice C (Dg i) D).ownBlock =some t∧Rv wc 1 (.slice C (Dg i) D) (Dg i) (Bb (X.drop (64-Dg i)))∧Blk wc p (sgC F ae ap (.slice M m.length N) vr) 358∧Buf wc 0 5 (.slice (some ⟨t,0,none⟩) 64 A) X∧Buf wc 0 5 (.slice M m.length N) m∧Keep [p] w wc)
 case first=>
  rcases H2.out with⟨h0,eg,eb⟩|⟨h0,eg,eb⟩
  ·subst h0
   obtain⟨EG,EB⟩:=i_2 eg eb;clear eg eb;have fl:Hid (Dg 0=42):=h_ rfl;clear bl;go_wp2_with fail;refine wI (QJ w p t A D F BN ap (.slice M m.length N) vr au T6 C m X) ?aS (.s ?a0<|.s ?a1<|.s ?a2<|.s ?a3<|.s ?a4<|.s ?a5<|.s ?a6<|.s ?a7<|.s ?a8<|.s ?a9<|.s ?a10<|.s ?a11<|.s ?a12<|.s ?a13<|.s ?a14<|.s ?a15<|.n) 16 ?aF
   case aS=>intro x;exact⟨_,_,ao.drew,fun h=>absurd h (by decide),fun h=>absurd h (by decide),aa.keep (By [] _).drew (by simp),al.keep (By [] _).drew (by simp),(By _ _).drew,Yr⟩
   case aF=>intro l x w3 H J;obtain⟨gx,bx,g,Z,u,d,S,f,vS⟩:=H;have eg:=Z (J 12 (by decide));have eb:=u (J 15 (by decide));subst eg eb;clear Z u J vS;simp only[Al,Act.put,A8,A7,A6];simp only[AP,Nat.reduceAdd];obtain⟨HS,HX,HB,HK⟩:=i_4 g d S f;have hcut:=cf.out;clear g d S f ao aa al;go_wp2_with fail;go_meet;exact⟨tb,d7,rfl,be.out.2,bd.out _ (ak.out _ (R.out _ HX.out)),(by rw[EB.out];exact HS.out),HX.out,HB.out,HK.out⟩
   all_goals
    intro l x j H I Q;obtain⟨gx,bx,g,Z,u,d,S,f,vS⟩:=H;have V:=vS;have T:=Q;simp only[SlV]at V
    try simp[BD,Region.binds]at T
    refine Oq.of (by simp only[Al,Act.put,A8,A7,A6,T,V];rfl) ?_;clear T V;intro K' o
   case a4=>go_simp;refine(CB au ((X.drop 4).take 6) (Yv (cm.out j (R.out j d)) aq.out) bg.out (by rw[aq.out];omega) F ch.out).mono ?_;rintro e w2 ⟨rfl,rfl⟩;go_simp;exact o.go _ rfl ⟨gx,bx,g,Z,u,d,S,f,vS.r⟩
   case a5=>go_simp;exact o.go _ rfl ⟨gx,bx,g,Z,u,d,S,f,vS.q ((by first|rfl|exact A3 (Value.int .i64) co.out))⟩
   case a7=>have hcut:=ce.out;go_simp;exact o.go _ rfl ⟨gx,bx,g,Z,u,d,S,f,vS.r⟩
   case a8=>go_simp;refine(CB T6 ((X.drop 16).take 6) (Yv (cn.out j (ak.out j (R.out j d))) bb.out) cr.out (by rw[bb.out];omega) BN ec.out).mono ?_;rintro e w2 ⟨rfl,rfl⟩;go_simp;exact o.go _ rfl ⟨gx,bx,g,Z,u,d,S,f,vS.r⟩
   case a9=>go_simp;exact o.go _ rfl ⟨gx,bx,g,Z,u,d,S,f,vS.q ((by first|rfl|exact A3 (Value.int .i64) et.out))⟩
   case a12=>have f0:=Fl g;have f1:=g.free 0;go_simp;have E:Keep [p] j (j.setCell ⟨p,0,none⟩ (.int .i64 (F:Int))):=(By _ _).setCell (.inl (by simp)) _;exact o.go undef rfl ⟨(F:Int),bx,g.set 0 _,fun _=>rfl,u,d.keep E (fun q z=>ar.out q z),S.keep E (fun q z=>aw.out q z),f.trans E,vS.s rfl⟩
   case a15=>have f0:=OK g;have f1:=g.free 1;go_simp;have E:Keep [p] j (j.setCell ⟨p,1,none⟩ (.int .i64 (BN:Int))):=(By _ _).setCell (.inl (by simp)) _;exact o.go undef rfl ⟨gx,(BN:Int),g.set 1 _,Z,fun _=>rfl,d.keep E (fun q z=>ar.out q z),S.keep E (fun q z=>aw.out q z),f.trans E,vS.s rfl⟩
   all_goals have hcut:=cd.out;go_simp;exact o.go _ rfl ⟨gx,bx,g,Z,u,d,S,f,vS.r⟩
  ·have q:((i:Int)==0)=false:=by simp;omega
   have hw:Dg i=48:=by unfold Dg;rw[Aw (by omega)]
   obtain⟨HW,EG,EB⟩:=i_3 hw eg eb;clear hw bl h0 eg eb;go_wp2_with fail;go_meet;refine⟨C,D,by rw[HW.out],by rw[HW.out];exact be.out.1, ?_,by rw[EG.out,EB.out];exact ao,aa,al,By _ _⟩;rw[HW.out];exact ak.out w (R.out w aa)
 case rest=>
 clear ao aa al bl ak cn bd ce cf be;obtain⟨C,D,rfl,d6,dr,d3,br,dc,K1⟩:=hcut;have bf:=h_ d6;clear d6;generalize fg:wc=wq at*;clear fg;have cq:=h_ (R.out wq br);go_wp2_with fail;refine(CB cv ((X.drop 10).take 4) (Yv (eo.out wq cq.out) bc.out) ct.out (by rw[bc.out];omega) L em.out).mono ?_;rintro e w1 ⟨rfl,rfl⟩;have d2:=d3;have dw:=br;clear d3 br e3 cq;go_wp2_with fail;refine wI (WY wq p t A D N SN SN F L F ae i y ap vr (.slice fj 60 fk) bi au C M m X) ?bS (.s ?b0<|.s ?b1<|.s ?b2<|.s ?b3<|.s ?b4<|.s ?b5<|.s ?b6<|.s ?b7<|.s ?b8<|.s ?b9<|.s ?b10<|.s ?b11<|.s ?b12<|.s ?b13<|.s ?b14<|.s ?b15<|.s ?b16<|.s ?b17<|.s ?b18<|.s ?b19<|.s ?b20<|.s ?b21<|.s ?b22<|.s ?b23<|.s ?b24<|.s ?b25<|.s ?b26<|.s ?b27<|.s ?b28<|.s ?b29<|.s ?b30<|.s ?b31<|.s ?b32<|.s ?b33<|.s ?b34<|.s ?b35<|.s ?b36<|.s ?b37<|.s ?b38<|.s ?b39<|.s ?b40<|.s ?b41<|.s ?b42<|.s ?b43<|.s ?b44<|.s ?b45<|.s ?b46<|.s ?b47<|.s ?b48<|.s ?b49<|.s ?b50<|.s ?b51<|.s ?b52<|.s ?b53<|.s ?b54<|.n) 55 ?bF
 case bS=>intro x;exact⟨0,d2.drew,dw.keep (By [] _).drew (by simp),(By _ _).drew,fun h=>absurd h (by decide),Yr⟩
 case b3=>
  intro l x j H I Q;obtain⟨G,g,d,f,B,vS⟩:=H;have e2:=B (Q.at rfl);refine Oq.of (b:= ?bB3) ?eB3 ?_
  case eB3=>simp only[Al,Act.put,A8,A7,A6,e2.1];rfl
  intro K' o;go_simp;refine(IG _ _ _ (X.drop 4) (Ih e2.2 rfl) (Yv (cl.out j (R.out j d)) aj.out) cs.out (by rw[aj.out];omega) SN ep.out).mono ?_;rintro e w2 ⟨rfl,rfl⟩;go_simp;exact o.go _ rfl ⟨G,g,d,f,B,vS.r⟩
 case bF=>
  intro l x w3 H J;obtain⟨G,g,d,f,B,vS⟩:=H;have da:=vS.a 54 (J 54 (by decide)) rfl;simp only[Al,Act.put,A8,A7,A6,da];simp only[AP,Nat.reduceAdd];have c2:=XX g;have f2:=g.free 2;have d4:Blk (w3.setCell ⟨p,2,none⟩ (.int .i64 (L:Int))) p (sgC (F:Int) (ae:Int) (L:Int) (.slice M m.length N) vr) 358:=g.set 2 _;have k8:Keep [p] w3 (w3.setCell ⟨p,2,none⟩ (.int .i64 (L:Int))):=(By _ _).setCell (.inl (by simp)) _;have dx:=d.keep k8 (fun q z=>ar.out q z);have dd:=(dc.keep f (by simp)).keep k8 (fun q z=>aw.out q z);have bv:t∉ [p]:=ar.out t rfl;have bq:=Yx (Yx dr f (by simp)) k8 (fun b u _=>by rw[bf.out]at u;injection u with u;subst u;exact bv);have K9:=(K1.trans (f.mono (by simp))).trans k8;have cp:=h_ e9;clear g f d d2 dw dc dr K1 da J B k8 vS;go_upto_region 9 with fail;generalize w3.setCell ⟨p,2,none⟩ (.int .i64 (L:Int))=w9 at*;clear c2 f2;obtain⟨T8,dj,dv,_⟩:=Wq (P:=Tryz.prog) 81 5 i8 Ao ab ac C (Dg i) D (Bb (X.drop (64-Dg i))) (y:Int) y rfl (by have:=cg.out;omega) (by obtain⟨_,a,c,he,O,_⟩:=bq;injection he with _ _ h3;omega);have eh:=h_ dj;have eq:Hid (∀W:World,Rv W 1 (.slice C (Dg i) D) (Dg i) (Bb (X.drop (64-Dg i)))→Rv W 1 T8 y (Bb (FX X i y))):=h_ (fun W h=>by have:=dv W h;rw[Sf]at this;exact this);have d1:(FX X i y).length =y:=by unfold FX;rw[Az,A5];have:=cg.out;have:=GY i;omega
  have d9:Hid (∀(W:World) (v:Value),W.ownsRow 0 5 1 v (m.length+y) (Bb m++Bb (FX X i y))→Buf W 0 5 v (m++FX X i y)):=h_ (fun W v h=>by unfold Buf;rw[Aj,d1,DW];exact h);have cc:Hid (m.length≤1000):=h_ (by have:=ea.out;have:=ci.out;unfold st0 at*;omega);have el:Hid (p∉(Value.slice M m.length N).ownBlock.toList):=h_ (fun K=>aw.out p (Ae.1 K) (by simp));have ex:Hid (∀q,(Value.slice (some ⟨t,0,none⟩) 64 A).ownBlock =some q→q∉(Value.slice M m.length N).ownBlock.toList):=h_ (fun q z K=>by injection z with z;exact cp.out q (Ae.1 K) z.symm);have es:Hid (∀b,(Value.slice C (Dg i) D).ownBlock =some b→∀ {n:Nat},b<n→b∉(Value.slice M m.length N).ownBlock.toList):=h_ (fun b u _ _ K=>by rw[bf.out]at u;injection u with u;exact cp.out b (Ae.1 K) u.symm);have er:Hid (∀b,(Value.slice C (Dg i) D).ownBlock =some b→∀ {n:Nat},b<n→b∉ [p]):=h_ (fun b u _ _=>by rw[bf.out]at u;injection u with u;subst u;exact bv);clear dj dv d1 bv;refine wI (takeJ9 w9 p t A D N i y F ae L vr T8 C M m X) ?cS (.s ?c0<|.s ?c1<|.s ?c2<|.s ?c3<|.s ?c4<|.s ?c5<|.s ?c6<|.s ?c7<|.s ?c8<|.s ?c9<|.s ?c10<|.s ?c11<|.s ?c12<|.s ?c13<|.n) 14 ?cF
  case cS=>intro x;exact⟨none,0,fun _=>d4.drew,fun h=>absurd h (by decide),fun h=>absurd h (by decide),fun _=>dd.keep (By [] _).drew (by simp),fun h=>absurd h (by decide),dx.keep (By [] _).drew (by simp),Yx bq (By [] _).drew (by simp),(By _ _).drew,fun h=>absurd h (by decide),Yr⟩
  case c13=>
   intro l x j H I Q;obtain⟨va,ai,U,an,ad,am,ag,d,hT,f,af,vS⟩:=H;have ax:=af (Q.at rfl);have e1:=vS.a 12 (Q.at rfl) rfl;have c3:=Hv (U I);have f3:=(U I).free 3;have ba:Hid (l 10=true):=h_ (Q.at rfl);refine Oq.of (b:= ?bC13) ?eC13 ?_
   case eC13=>simp only[Al,Act.put,A8,A7,A6,ax.1,e1];rfl
   intro K' o;have aj:=ax.2;have ax:=ax.1;go_simp;have E:Keep [p] j (j.setCell ⟨p,3,none⟩ (.slice va (m.length+y) ai)):=(By _ _).setCell (.inl (by simp)) _;obtain⟨av,az⟩:=ag ba.out;have e5:=(U I).set 3 (.slice va (m.length+y) ai);exact o.go undef rfl ⟨va,ai,fun h=>Bool.noConfusion (show true=false from h),fun _=>e5,fun _=>⟨aj.out,ba.out⟩,fun h=>absurd ba.out (by simp[show l 10=false from h]),fun _=>⟨av.keep E (fun q z K=>(av.ty' q z).ne (U I).ty (by decide) (by simpa using K)),az⟩,d.keep E (fun q z=>ar.out q z),Yx hT E (fun b u J=>er.out b u J),f.trans (E.mono (by simp)),af,vS.s rfl⟩
  case cF=>intro l x w3 H J;obtain⟨va,ai,U,an,ad,am,ag,d,hT,f,af,vS⟩:=H;have g:=an (J 13 (by decide));obtain⟨av,az⟩:=ag (J 10 (by decide));simp only[Al,Act.put,A8,A7,A6];simp only[AP,Nat.reduceAdd];obtain⟨HS,ej,ek,HK,cj⟩:=i_5 g av az f K9;clear af U an ad am ag d hT f J d4 dx dd bq K9 g av az vS;go_wp2;go_ret;refine⟨rfl,_,HS.out,ej.out,fun k hk=>(ek.out k hk).imp id (fun h=>AJ cj.out.size h),(cj.out.mono (by simp)).trans HK.out⟩
  all_goals
   intro l x j H I Q;obtain⟨va,ai,U,an,ad,am,ag,d,hT,f,af,vS⟩:=H;have V:=vS;have T:=Q;simp only[SlV]at V
   try simp[BD,Region.binds]at T
   refine Oq.of (by simp only[Al,Act.put,A8,A7,A6,T,V];rfl) ?_;clear T V;intro K' o
  case c4=>have c3:=Hv (U (by cases z:l 13 with|false=>rfl|true=>exact absurd (ad z).1 (by simp[I])));go_simp;exact o.go _ rfl ⟨va,ai,U,an,fun h=>⟨rfl,(ad h).2⟩,am,ag,d,hT,f,fun h=>⟨(af h).1,h_ rfl⟩,vS.r⟩
  case c10=>have aj:Hid (l 4=true):=h_ (Q.at rfl);refine BO _ rfl (.tmp 96) (.tmp 101) 81 81 rfl 0 5 i8 (.int .u8 0) 1 1 Ao ab fh ac fi rfl (by decide) (.slice M m.length N) m.length (Bb m) rfl (am I) T8 y (Bb (FX X i y)) rfl (Rv.src (eq.out j hT) Ao (Fk _)) (by unfold maxLen;have:=cc.out;have:=bh.out.1;omega) (by have:=cc.out;have:=ef.out;omega) (by omega) ?_;intro v2 w2 g2 g3 _ g4;obtain⟨bw,bz,rfl⟩:=A4 g2;have E:Keep (.slice M m.length N:Value).ownBlock.toList j w2:=DJ g3;have e4:Buf w2 0 5 (.slice bw (m.length+y) bz) (m++FX X i y):=d9.out w2 _ g2;exact o.go (.slice bw (m.length+y) bz) rfl ⟨bw,bz,fun h=>(U h).keep E el.out,fun h=>absurd (ad h).2 (by simp[I]),fun h=>⟨(ad h).1,rfl⟩,fun h=>Bool.noConfusion (show true=false from h),fun _=>⟨e4,fun k hk=>(g4 k hk).imp id (fun h=>AJ f.size h)⟩,d.keep E ex.out,Yx hT E (fun b u J=>es.out b u J),f.trans (E.mono (fun q z _=>Ap _ z)),fun _=>⟨rfl,aj⟩,vS.s rfl⟩
  all_goals have c15:=cb.out j d;have hcut:=eh.out;go_simp;exact o.go _ rfl ⟨va,ai,U,an,ad,am,ag,d,hT,f,af,vS.r⟩
 all_goals
  intro l x j H I Q;obtain⟨G,g,d,f,B,vS⟩:=H;have V:=vS;have T:=Q;simp only[SlV]at V
  try simp[BD,Region.binds]at T
  refine Oq.of (by simp only[Al,Act.put,A8,A7,A6,T,V];rfl) ?_;clear T V;intro K' o
 case b2=>go_simp;exact o.go _ rfl ⟨j.heap.size,g.alloc _,d.alloc _,f.alloc _,fun _=>⟨rfl,BY _ [_] _⟩,vS.s rfl⟩
 case b4=>go_simp;exact o.go _ rfl ⟨G,g,d,f,B,vS.q ((by first|rfl|exact A3 (Value.int .u64) eu.out))⟩
 case b6=>have hcut:=ed.out;go_simp;exact o.go _ rfl ⟨G,g,d,f,B,vS.r⟩
 case b7=>go_simp;refine(CB bi (X.take 4) (Yv (en.out j (R.out j d)) ck.out) ey.out (by rw[ck.out];omega) SN ei.out).mono ?_;rintro e w2 ⟨rfl,rfl⟩;go_simp;exact o.go _ rfl ⟨G,g,d,f,B,vS.r⟩
 case b11=>have hcut:=cd.out;go_simp;exact o.go _ rfl ⟨G,g,d,f,B,vS.r⟩
 case b12=>go_simp;refine(CB au ((X.drop 4).take 6) (Yv (cm.out j (R.out j d)) aq.out) bg.out (by rw[aq.out];omega) F ch.out).mono ?_;rintro e w2 ⟨rfl,rfl⟩;go_simp;exact o.go _ rfl ⟨G,g,d,f,B,vS.r⟩
 case b13=>go_simp;exact o.go _ rfl ⟨G,g,d,f,B,vS.q ((by first|rfl|exact A3 (Value.int .i64) co.out))⟩
 case b32=>go_simp;exact o.go _ rfl ⟨G,g,d,f,B,vS.q ((by first|rfl|exact A3 (Value.int .i64) ew.out))⟩
 case b40=>go_simp;exact o.go _ rfl ⟨G,g,d,f,B,vS.q ((by first|rfl|exact A3 (Value.int .i64) ev.out))⟩
 case b43=>have q:=bh.out.1;have q':=bh.out.2;go_simp;exact o.go _ rfl ⟨G,g,d,f,B,vS.r⟩
 case b52=>go_simp;refine(I6 i (by have:=ci.out;omega) (st0 i:Int) rfl).mono ?_;rintro e w2 ⟨rfl,rfl⟩;go_simp;exact o.go _ rfl ⟨G,g,d,f,B,vS.r⟩
 case b53=>have q:=cu.out.1;have q':=cu.out.2;go_simp;exact o.go _ rfl ⟨G,g,d,f,B,vS.r⟩
 all_goals have hcut:=ee.out;have c0:=Fl g;have c2:=XX g;have q:=ez.out;have c14:=d8.out j d;have c15:=cb.out j d;have c3:=Hv g;go_simp;exact o.go _ rfl ⟨G,g,d,f,B,vS.r⟩
end Go.Proofs.YtnhbioehiiifdaaGreat
