import Derived.Test.YtnhbioehiiifdaaGreatB13
import Derived.Test.YtnhbioehiiifdaaGreatB14
set_option maxRecDepth 100000
set_option maxHeartbeats 16000000
set_option linter.all false
namespace Go.Proofs.YtnhbioehiiifdaaGreat
open Go.ChangeShapes Go.WideShapes Go.ChangeAt Go.RowKit
def Vs (h:World)(d sb a c frm g k i:Nat)(L:List Sec)(segs m run:Int)(n:Value)(j:Bool)(X:List Nat)(l:Nat→Bool)(x:Nat→Value)(f:World):Prop:=
 ∃b e,(IsDev f d sb L c)∧
 (Blk f a (lgC d frm segs n m run j) 333)∧
 (Keep [] h f)∧
 (l 14=true∨l 15=true∨l 17=true→l 13=true)∧
 (l 13=true→x 13=.tuple #[.slice (some ⟨b,0,none⟩) 64 e,.int .i64 0]∧Buf f h.heap.size 5 (.slice (some ⟨b,0,none⟩) 64 e) X)∧
 (l 14=true→x 14=.tuple #[.slice (some ⟨b,0,none⟩) 64 e,.int .i64 0])∧
 (l 15=true→x 15=.slice (some ⟨b,0,none⟩) 64 e)∧
 (l 17=true→x 17=.slice (some ⟨b,0,none⟩) 64 e)∧
 SlV l x 0 [some (pr a 0),some (pr a 0),some (pr a 0),some (pr d 0),some (pr a 0),some (pr a 0),some (pr a 1),some (.int .i64 (frm:Int)),some (.int .i64 (g:Int)),some (.int .i64 ((g:Int)*8)),some (.int .i64 ((frm:Int)+(g:Int)*8)),some (.int .i64 (i:Int)),some (.int .i64 (k:Int)),none,none,none,some (.int .i64 0),none,some (.int .i64 0)]
def Vr (m:World)(a d i j c:Nat)(frm segs f run g:Int)(h k:Value)(e:Bool)(X:List Nat)(l:Nat→Bool)(x:Nat→Value)(b:World):Prop:=
 (l 13=false→Blk b a (lgC d frm segs h f run e) 333)∧
 (l 13=true→Blk b a (lgC d frm segs h f g e) 333)∧
 (l 13=true→l 4=true)∧
 (Buf b 0 5 (.slice (some ⟨i,0,none⟩) 64 j) X)∧
 (Keep [a] m b)∧
 (l 10=true→x 10=.int .i64 g∧Hid (l 4=true))∧
 SlV l x 0 [some (pr a 0),some (pr a 0),some (pr a 0),some (pr a 5),some (.int .i64 run),some (.slice (some ⟨i,0,none⟩) 64 j),some k,some (.int .u64 (c:Int)),some (.int .i64 (c:Int)),some (.int .i64 ((c:Int)+1)),none,some (pr a 0),some (pr a 5),none]
theorem Buf.at64 {w:World}{base:Nat}{E:TypeId}{v:Value}{l:List Nat}(h:Buf w base E v l)(a:l.length=64):∃g cap,v=.slice (some ⟨g,0,none⟩) 64 cap:=by obtain⟨g,cap,rfl,_⟩:=h.at' (by omega);rw[a];exact⟨g,cap,rfl⟩
theorem Buf.lift {w:World}{B:Nat}{E:TypeId}{v:Value}{l:List Nat}(h:Buf w 0 E v l)(c:∀q,v.ownBlock=some q→B≤q):Buf w B E v l:=by
 refine⟨h.1, ?_⟩;rcases h.2 with b|⟨g,cap,a,rfl,_,r⟩
 ·exact .inl b
 ·exact .inr ⟨g,cap,a,rfl,c g rfl,r⟩
def RdC (e base:Nat)(d:List Nat)(h:Nat→Nat)(i:Nat)(g:Bool)(c a f:Nat)(b:List Nat):Prop:=
 (g=true∧((i=0∧c=0∧a=0∧f=0∧b=[])∨(0<i∧c=e∧a=base∧f=h (i-1)∧b=d.take (st0 i))))∨(g=false∧0<i∧c=e∧a=base∧b=d)
structure RdW (W0:World) (p lb d:Nat) (frm segs nx run:Int) (vl:Value) (fr:Bool) (a M:Nat) (L:List Sec) (i g0 b0 r0:Nat) (cur:List Nat) (vb:Value) (run2:Int) (w':World):Prop where
 seg:Blk w' p (sgC g0 b0 r0 vb (.slice none 0 0)) 358
 buf:Buf w' W0.heap.size 5 vb cur
 log:Blk w' lb (lgC d frm segs vl nx run2 fr) 333
 lo:run≤run2
 hi:run2≤max run (M+1)
 all:∀j,j<i→(runOf (L.getD (a+j) zeroSec):Int)<run2
 keep:Keep [lb] W0 w'
 new:W0.heap.size≤p
theorem TE {w:World}{d sb u c:Nat}{L:List Sec}(m:IsDev w d sb L c)(frm segs:Nat)(vl:Value)(nx run:Int)(fr:Bool)(U:Blk w u (lgC d frm segs vl nx run fr) 333)(Z a M D base:Nat)(rs:List Rcd)(rn:Nat→Nat)
  (hk:Z<segs∧segs≤200∧frm≤100000) (ha:a=frm+Z*8) (ct:a+8≤L.length) (hS:SegDev L a D base (encRs rs) rn) (bx:∀r∈rs,r.ok) (cu:(encRs rs).length ≤378) (hg:0<D∧D<281474976710656∧base<281474976710656) (c3:(D-1) % segs=Z)
  (de:0≤run∧run<4294967296) (hM:M<4294967295∧∀i,i<8→runOf (L.getD (a+i) zeroSec)≤M):
  Calls Tryz.prog 268 #[pr u 0,.int .i64 (Z:Int)] w fun e B=>∃p G vr Lr O rr,e=.returned (pr p 0)∧Lr.map (·.r)=rs∧Blk B p (sgC D base rr G vr) 358∧Buf B w.heap.size 5 G (encRs rs)∧RRow B w.heap.size vr Lr∧
   w.heap.size≤p∧Blk B u (lgC d frm segs vl nx O fr) 333∧run≤O∧O≤max run (M+1)∧(∀i,i<8→(runOf (L.getD (a+i) zeroSec):Int)<O)∧Keep [u] w B∧(p::(G.ownBlock.toList++Mj vr Lr)).Nodup :=by
 obtain⟨i8,ec,es,en,et⟩:=AU In;obtain⟨HS,ds,ce,HG,dm,HK,HA,di,HM⟩:=i_9 hS bx cu hg c3 hk ha ct hM;obtain⟨eq,HD⟩:=i_2 de m;have dk:=h_ (Ho rs bx);have dp:=h_ U.lt;have cf:=h_ (show d≠u∧sb≠u from⟨m.dev.ty.ne U.ty (by decide),m.secs.ty.ne U.ty (by decide)⟩);have dy:Hid (IntKind.i64.wrap ((Z:Int)*8)=(Z:Int)*8):=h_ (by rw[A9];omega);have dz:Hid (IntKind.i64.wrap ((frm:Int)+(Z:Int)*8)=(frm:Int)+(Z:Int)*8):=h_ (by rw[A9];omega);have ea:∀W:World,(Instr.build 358 #[]).run Tryz.prog W=.ok (.agg (sgC 0 0 0 (.slice none 0 0) (.slice none 0 0)).toArray) W:=fun W=>DD W _ _ _ (by rfl)
 clear hS bx cu hg c3 hk ha ct hM de m;go_enter Tryz.func268,Tryz.ntmps268;go_upto_region 2 with fail
 have cs:RdW w w.heap.size u d frm segs nx run vl fr a M L 0 0 0 0 [] (.slice none 0 0) run (w.alloc (.cells (sgC 0 0 0 (.slice none 0 0) (.slice none 0 0)).toArray 358)):=
  ⟨BY _ _ _,Y4 _ _ _,U.keep ((By [] w).alloc _) (by simp),Int.le_refl _,Int.le_max_left _ _,fun j hj=>absurd hj (by omega),(By _ w).alloc _,Av _⟩
 change Code.wp _ _ _ _ (w.alloc (.cells (sgC 0 0 0 (.slice none 0 0) (.slice none 0 0)).toArray 358));have ck:=h_ cs;clear cs U ea;generalize w.alloc (.cells (sgC 0 0 0 (.slice none 0 0) (.slice none 0 0)).toArray 358)=wa at*;generalize w.heap.size=p at*;go_wp2
 go_loopw [6,12] (fun s6 eo wr=>∃(i:Nat) (wh:Bool) (v b0 r0:Nat) (ac:List Nat) (G:Value) (rq:Int),s6=.bool wh∧eo=.int .i64 (i:Int)∧i≤8∧RdW w p u d frm segs nx run vl fr a M L i v b0 r0 ac G rq wr∧RdC D base (encRs rs) rn i wh v b0 r0 ac) (fun _ x _=>9-(intOf x).toNat)
 case atStart=>exact⟨0,true,0,0,0,[],_,run,rfl,rfl,by omega,ck.out,.inl ⟨rfl,.inl ⟨rfl,rfl,rfl,rfl,rfl⟩⟩⟩
 case round=>
 clear ck;obtain⟨i,wh,v,b0,r0,ac,G,rq,rfl,rfl,c4,I,hC⟩:=hrel;by_cases ao:i<8
 ·have q0:decide ((i:Int)<8)=true:=An (by omega)
  obtain⟨ah,bs⟩:∃ah,ah=a+i:=⟨_,rfl⟩;obtain⟨sc,cb,dg⟩:=Gw (show ah<L.length by have:=di.out;omega);have cc:=HD.out.ok sc dg;obtain⟨X,A⟩:∃X,X=sc.now:=⟨_,rfl⟩;have c2:L.getD (a+i) zeroSec=sc:=by rw[←bs,Af,cb];rfl
  obtain⟨dx,cg⟩:=i_2 cb c2;have bj:Hid (sc.now=X):=h_ A.symm;have af:Hid (X.length=64):=h_ (by rw[A];exact cc.1);have cl:Hid (∀c∈X,c<256):=h_ (by rw[A];exact cc.2.2.1);have d0:Hid (IntKind.i64.wrap ((frm:Int)+(Z:Int)*8+(i:Int))=(ah:Int)):=h_ (by have:=HA.out;have:=HK.out;rw[A9];omega);have cz:=HD.out.keep I.keep (by simpa using cf.out.1) (by simpa using cf.out.2);have aj:=I.log;obtain⟨HW,ar,ae,ep⟩:=i_4 I hC ao bs;clear cb dg cc A c2 I hC bs c4;go_wp2_with fail;refine wI (Vs wr d sb u c frm Z ah i L segs nx rq vl fr X) ?aS (.s ?a0<|.s ?a1<|.s ?a2<|.s ?a3<|.s ?a4<|.s ?a5<|.s ?a6<|.s ?a7<|.s ?a8<|.s ?a9<|.s ?a10<|.s ?a11<|.s ?a12<|.s ?a13<|.s ?a14<|.s ?a15<|.s ?a16<|.s ?a17<|.s ?a18<|.n) 19 ?aF
  case aS=>intro x;exact⟨0,0,cz.keep (By [] _).drew (by simp) (by simp),aj.drew,(By _ _).drew,fun h=>absurd h (by decide),fun h=>absurd h (by decide),fun h=>absurd h (by decide),fun h=>absurd h (by decide),fun h=>absurd h (by decide),Yr⟩
  case a14=>
   intro l x B F K m;obtain⟨y,C,J,z,g,H,E,N,R,S,vS⟩:=F;have d7:=E (m.at rfl);have ai:Hid (l 13=true):=h_ (m.at rfl);refine Oq.of (b:= ?bA14) ?eA14 ?_
   case eA14=>simp only[Al,Act.put,A8,A7,A6,d7.1];rfl
   intro K' o;go_simp;exact o.go _ rfl ⟨y,C,J,z,g,fun h=>ai.out,E,fun _=>rfl,R,S,vS.s rfl⟩
  case a15=>
   intro l x B F K m;obtain⟨y,C,J,z,g,H,E,N,R,S,vS⟩:=F;have bl:=N (m.at rfl);have ai:Hid (l 13=true):=h_ (H (.inl (m.at rfl)));refine Oq.of (b:= ?bA15) ?eA15 ?_
   case eA15=>simp only[Al,Act.put,A8,A7,A6,bl];rfl
   intro K' o;go_simp;exact o.go _ rfl ⟨y,C,J,z,g,fun h=>ai.out,E,N,fun _=>rfl,S,vS.s rfl⟩
  case a16=>
   intro l x B F K m;obtain⟨y,C,J,z,g,H,E,N,R,S,vS⟩:=F;have bl:=N (m.at rfl);refine Oq.of (b:= ?bA16) ?eA16 ?_
   case eA16=>simp only[Al,Act.put,A8,A7,A6,bl];rfl
   intro K' o;go_simp;exact o.go _ rfl ⟨y,C,J,z,g,H,E,N,R,S,vS.r⟩
  case a17=>
   intro l x B F K m;obtain⟨y,C,J,z,g,H,E,N,R,S,vS⟩:=F;have d8:=R (m.at rfl);have ai:Hid (l 13=true):=h_ (H (.inr (.inl (m.at rfl))));refine Oq.of (b:= ?bA17) ?eA17 ?_
   case eA17=>simp only[Al,Act.put,A8,A7,A6,d8];rfl
   intro K' o;go_simp;exact o.go _ rfl ⟨y,C,J,z,g,fun h=>ai.out,E,N,R,fun _=>rfl,vS.s rfl⟩
  case aF=>
   intro l x w3 F U;obtain⟨y,C,J,z,g,H,E,N,R,S,vS⟩:=F;have bo:=(E (U 13 (by decide))).2.mono (AA _);have d5:=h_ ((E (U 13 (by decide))).2.lt y rfl).1;have cn:=S (U 17 (by decide));have co:=vS.a 18 (U 18 (by decide)) rfl;simp only[Al,Act.put,A8,A7,A6,cn,co];simp only[AP,Nat.reduceAdd];have bc:=h_ g;have bm:=z;clear E N R S J z g H cz aj cn co U vS;obtain⟨V,bn⟩:∃V,V=unbe ((X.drop 10).take 4):=⟨_,rfl⟩;obtain⟨bk,cp,cr,_⟩:=D3 (P:=Tryz.prog) 81 5 i8 Ao ec en (some ⟨y,0,none⟩) 64 C (Bb X) 10 14 10 14 rfl rfl (by omega) (by omega) (by obtain⟨_,a,c,he,hc,_⟩:=bo.rd;rw[af.out]at he hc;injection he with _ h2 h3;omega);have dl:=h_ cp
   have dv:Hid (∀W:World,Buf W 0 5 (.slice (some ⟨y,0,none⟩) 64 C) X→Rd W bk ((X.drop 10).take 4)):=h_ (fun W h=>by have Y:=h.rd;unfold Rd at Y;rw[af.out]at Y;have h2:=cr W Y;rw[D4]at h2;exact Yv h2 (by rw[Az,A5,af.out];rfl))
   have cm:Hid (∀c∈(X.drop 10).take 4,c<256):=h_ (fun c hc=>cl.out c (AB (AH hc)));have au:Hid (((X.drop 10).take 4).length =4):=h_ (by rw[Az,A5,af.out];omega);have ej:V<4294967296:=by rw[bn];exact EA _ 4 (by rw[au.out];omega) cm.out
   have cj:=h_ bn;have d1:Hid (IntKind.i64.wrap (V:Int)=(V:Int)):=h_ (by rw[A9];omega);have d2:Hid (IntKind.i64.wrap ((V:Int)+1)=(V:Int)+1):=h_ (by rw[A9];omega);obtain⟨O,ca⟩:∃r:Int,r=max rq ((V:Int)+1):=⟨_,rfl⟩;have dq:Hid ((if rq<(V:Int)+1 then(V:Int)+1 else rq)=O):=h_ (by rw[ca];split<;>omega);have du:=h_ ca;clear cp cr bn ca;generalize em:w3=w6 at*;clear em;go_wp2_with fail;refine wI (Vr w6 u d y C V frm segs nx rq O vl bk fr X) ?bS (.s ?b0<|.s ?b1<|.s ?b2<|.s ?b3<|.s ?b4<|.s ?b5<|.s ?b6<|.s ?b7<|.s ?b8<|.s ?b9<|.s ?b10<|.s ?b11<|.s ?b12<|.s ?b13<|.n) 14 ?bF
   case bS=>intro x;exact⟨fun _=>bm.drew,fun h=>absurd h (by decide),fun h=>absurd h (by decide),bo.keep (By [] _).drew (by simp),(By _ _).drew,fun h=>absurd h (by decide),Yr⟩
   case b13=>
    intro l x B F K m;obtain⟨T,ab,ad,A,g,aa,vS⟩:=F;have aw:=aa (m.at rfl);have d6:=vS.a 12 (m.at rfl) rfl;have c5:=VP (T K);have f5:=(T K).free 5;refine Oq.of (b:= ?bB13) ?eB13 ?_
    case eB13=>simp only[Al,Act.put,A8,A7,A6,aw.1,d6];rfl
    intro K' o;have bf:=aw.2;have aw:=aw.1;go_simp;have k2:Keep [u] B (B.setCell ⟨u,5,none⟩ (.int .i64 O)):=(By _ _).setCell (.inl (by simp)) _;have d9:=(T K).set 5 (.int .i64 O);exact o.go undef rfl ⟨fun h=>Bool.noConfusion (show true=false from h),fun _=>d9,fun _=>bf.out,A.keep k2 (fun q k t=>by simp only[Ah]at t;subst t;exact(A.ty' q k).ne (T K).ty (by decide) rfl),g.trans k2,aa,vS.s rfl⟩
   case bF=>
    intro l x w3 F U;obtain⟨T,ab,ad,A,g,aa,vS⟩:=F;have cq:=ab (U 13 (by decide));simp only[Al,Act.put,A8,A7,A6];simp only[AP,Nat.reduceAdd];have eg:p∉ [u]:=by have:=dp.out;simp;omega
    have db:∀q,Ty w6 q 5→q∉ [u]:=fun q k t=>by simp only[Ah]at t;subst t;exact k.ne bm.ty (by decide) rfl
    have bq:=HW.out.buf.keep bc.out (by simp)
    have Q:Hid (RdW w p u d frm segs nx run vl fr a M L (i+1) v b0 r0 ac G O w3):=h_ (by
     have f:=HW.out;have dd:runOf (L.getD (a+i) zeroSec)=V:=by rw[cg.out];unfold runOf;rw[bj.out,cj.out]
     have t:=HM.out.2 i ae.out;rw[dd]at t;have h2:=du.out;refine⟨(f.seg.keep bc.out (by simp)).keep g eg,bq.keep g (fun q k=>db q (bq.ty' q k)),cq,Int.le_trans f.lo (by rw[h2];exact Int.le_max_left _ _), ?_,fun j hj=> ?_,f.keep.trans ((bc.out.mono (by simp)).trans g),f.new⟩
     ·have:=f.hi;omega
     ·by_cases ed:j<i
      ·have:=f.all j ed;omega
      ·obtain rfl:j=i:=by omega
       rw[dd];omega)
    have av:=h_ A;have d4:=h_ (show wr.heap.size≤y from d5.out);clear aa T ab ad A g U cq bm bo db bq ej vS
    cases wh with
    |false=>
     have az:0<i:=by rcases ar.out with⟨h,_⟩|⟨_,h,_⟩;cases h;exact h
     have q5:((i:Int)==0)=false:=by simp;omega
     go_wp2
     go_roundw
     case rel=>
      refine⟨i+1,false,v,b0,r0,ac,G,O,rfl,by go_num,by omega,Q.out,.inr ?_⟩;rcases ar.out with⟨h,_⟩|⟨_,_,h⟩
      ·cases h
      ·exact⟨rfl,by omega,h⟩
     case measure=>simp only[intOf];omega
    |true=>
     have cd:64≤C:=by obtain⟨_,a,c,he,hc,_⟩:=av.out.rd;rw[af.out]at he hc;injection he with _ h2 h3;omega
     have bv:∀q,G.ownBlock=some q→q≠y:=fun q k=>by have:=(HW.out.buf.lt q k).2;have:=d4.out;omega
     have hg:=HG.out;have ba:(L.getD (a+i) zeroSec).now =X:=by rw[cg.out,bj.out]
     have bu:∀q∈p::G.ownBlock.toList,q∉ [u]∧w.heap.size≤q∧u≠q:=fun q k=>by
      have c8:=Q.out.log.ty;rcases Ac.1 k with rfl|k
      ·have Y:=Q.out.seg.ty.ne c8 (by decide)
       exact⟨by simpa using Y,Q.out.new,fun e=>Y e.symm⟩
      ·have Y:=(Q.out.buf.ty' q (Ae.1 k)).ne c8 (by decide)
       exact⟨by simpa using Y,(Q.out.buf.lt q (Ae.1 k)).1,fun e=>Y e.symm⟩
     have be:=h_ bu;by_cases bt:i=0∨st0 i<(encRs rs).length
     ·have ay:=HS.out.on i ae.out bt
      rw[ba]at ay;have ek:=HS.out.run i ae.out;have hF:=I7 D base (rn i) i (encRs rs) (by omega) dk.out ⟨hg.2.1,by omega⟩;have bz:=QQ D base (rn i) i (encRs rs);rw[←ay]at hF bz
      have am:ac.length=st0 i∧ac=(encRs rs).take (st0 i)∧(r0:Int)≤(rn i:Int)∧((i=0∧D=D∧base=unbe ((X.drop 16).take 6))∨(0<i∧D=v∧base=b0)):=by
       rcases ar.out with⟨_,⟨h0,_,_,ap,ag⟩|⟨h0,an,al,ap,ag⟩⟩|⟨h,_⟩
       ·subst h0 ap ag
        refine⟨rfl,rfl,by omega,.inl ⟨rfl,rfl, ?_⟩⟩;rw[ay,QR D base (rn 0) (encRs rs) hg.2.2]
       ·subst ap ag
        have h9:st0 i<(encRs rs).length :=by rcases bt with h|h;omega;exact h
        refine⟨by rw[Az];omega,rfl, ?_,.inr ⟨h0,an.symm,al.symm⟩⟩;have:=HS.out.up (i-1) i (by omega) ae.out bt;omega
       ·cases h
      obtain⟨cv,cw,cx,cy⟩:=am;have hT:=WX (w:=w3) hF cd Q.out.seg (Q.out.buf.mono (AA _)) av.out ae.out D base cy rfl rfl cx rfl (GZ _ _) cv bv;rw[bz,cw,RX]at hT;have HT:=h_ hT;clear hT hF bz cv cw cx cy ay ek ba bu bv hg;go_wp2_with fail;refine HT.out.mono ?_;rintro e w4 ⟨rfl,dh,g1,g2,g3,k4⟩
      have ak:RdW w p u d frm segs nx run vl fr a M L (i+1) D base (rn i) ((encRs rs).take (st0 (i+1))) dh O w4:=by
       have f:=Q.out;have hz:=f.keep.size;refine⟨g1,g2.lift (fun q k=> ?_),f.log.keep k4 (fun t=>(be.out u t).2.2 rfl),f.lo,f.hi,f.all,f.keep.then k4 (fun q k ao=>absurd (be.out q k).2.1 (by omega)),f.new⟩;rcases g3 q k with h|h
       ·exact(f.buf.lt q h).1
       ·omega
      have bh:=h_ ak;clear ak g1 g2 g3 k4 HT;go_wp2
      go_roundw
      case rel=>exact⟨i+1,true,D,base,rn i,_,dh,O,rfl,by go_num,by omega,bh.out,.inl ⟨rfl,.inr ⟨by omega,rfl,rfl,by simp,rfl⟩⟩⟩
      case measure=>simp only[intOf];omega
     ·have az:0<i:=by omega
      have c9:(encRs rs).length ≤st0 i:=by omega
      have bw:=HS.out.off i ae.out az c9;rw[ba]at bw;have hF:=Fld.any X af.out cl.out
      have am:v=D∧b0=base∧ac=encRs rs:=by
       rcases ar.out with⟨_,⟨h0,_⟩|⟨h0,an,al,ap,ag⟩⟩|⟨h,_⟩
       ·omega
       ·exact⟨an,al,by rw[ag,Ba c9]⟩
       ·cases h
      obtain⟨rfl,rfl,rfl⟩:=am
      have hT:Calls Tryz.prog 294 #[pr p 0,.int .i64 (i:Int),.slice (some ⟨y,0,none⟩) 64 C] w3 fun e B=>e=.returned (.bool false)∧Blk B p (sgC v b0 r0 G (.slice none 0 0)) 358∧Keep [p] w3 B:=by
       by_cases br:crcSum (X.drop 4)=unbe (X.take 4)
       ·exact UY hF cd Q.out.seg (Q.out.buf.mono (AA _)) av.out ae.out v b0 (.inr ⟨az,rfl,rfl⟩) br (bw.resolve_left (fun h=>h br))
       ·exact O7 hF cd Q.out.seg (Q.out.buf.mono (AA _)) av.out ae.out v b0 (.inr ⟨az,rfl,rfl⟩) br
      have HT:=h_ hT;have q5:((i:Int)==0)=false:=by simp;omega
      clear hT hF bw ba bu bv hg;go_wp2_with fail;refine HT.out.mono ?_;rintro e w4 ⟨rfl,g1,k4⟩
      have ak:RdW w p u d frm segs nx run vl fr a M L (i+1) v b0 r0 (encRs rs) G O w4:=by have f:=Q.out;have hz:=f.keep.size;have eh:=f.seg.ty;refine⟨g1,f.buf.keep k4 (fun q k t=> ?_),f.log.keep k4 (fun t=>(be.out u (Ac.2 (.inl (by simpa using t)))).2.2 rfl),f.lo,f.hi,f.all,f.keep.then k4 (fun q k ao=>absurd f.new (by simp at k;omega)),f.new⟩;simp only[Ah]at t;subst t;exact(f.buf.ty' q k).ne eh (by decide) rfl
      have bh:=h_ ak;clear ak g1 k4 HT;go_wp2
      go_roundw
      case rel=>exact⟨i+1,false,v,b0,r0,_,G,O,rfl,by go_num,by omega,bh.out,.inr ⟨rfl,by omega,rfl,rfl,rfl⟩⟩
      case measure=>simp only[intOf];omega
   all_goals
    intro l x B F K m;obtain⟨T,ab,ad,A,g,aa,vS⟩:=F;have I:=vS;have hD:=m;simp only[SlV]at I
    try simp[BD,Region.binds]at hD
    refine Oq.of (by simp only[Al,Act.put,A8,A7,A6,hD,I];rfl) ?_;clear hD I;intro K' o
   case b4=>have c5:=VP (T (by cases k:l 13 with|false=>rfl|true=>exact absurd (ad k) (by simp[K])));go_simp;exact o.go _ rfl ⟨T,ab,fun _=>rfl,A,g,fun h=>⟨(aa h).1,h_ rfl⟩,vS.r⟩
   case b7=>go_simp;refine(CB bk ((X.drop 10).take 4) (dv.out B A) cm.out (by rw[au.out];omega) V cj.out).mono ?_;rintro e w2 ⟨rfl,rfl⟩;go_simp;exact o.go _ rfl ⟨T,ab,ad,A,g,aa,vS.r⟩
   case b8=>go_simp;exact o.go _ rfl ⟨T,ab,ad,A,g,aa,vS.q ((by first|rfl|exact A3 (Value.int .i64) d1.out))⟩
   case b9=>go_simp;exact o.go _ rfl ⟨T,ab,ad,A,g,aa,vS.q ((by first|rfl|exact A3 (Value.int .i64) d2.out))⟩
   case b10=>have bf:Hid (l 4=true):=h_ (m.at rfl);go_simp;exact o.go _ rfl ⟨T,ab,ad,A,g,fun _=>⟨A3 (Value.int .i64) dq.out,bf⟩,vS.s rfl⟩
   all_goals have hcut:=dl.out;go_simp;exact o.go _ rfl ⟨T,ab,ad,A,g,aa,vS.r⟩
  all_goals
   intro l x B F K m;obtain⟨y,C,J,z,g,H,E,N,R,S,vS⟩:=F;have I:=vS;have hD:=m;simp only[SlV]at I
   try simp[BD,Region.binds]at hD
   refine Oq.of (by simp only[Al,Act.put,A8,A7,A6,hD,I];rfl) ?_;clear hD I;intro K' o
  case a9=>go_simp;exact o.go _ rfl ⟨y,C,J,z,g,H,E,N,R,S,vS.q ((by first|rfl|exact A3 (Value.int .i64) dy.out))⟩
  case a10=>go_simp;exact o.go _ rfl ⟨y,C,J,z,g,H,E,N,R,S,vS.q ((by first|rfl|exact A3 (Value.int .i64) dz.out))⟩
  case a12=>go_simp;exact o.go _ rfl ⟨y,C,J,z,g,H,E,N,R,S,vS.q ((by first|rfl|exact A3 (Value.int .i64) d0.out))⟩
  case a13=>go_simp;refine(Ot J ah sc dx.out).mono ?_;rintro e w2 ⟨v2,rfl,ax,k2⟩;rw[bj.out]at ax;obtain⟨x2,x3,rfl⟩:=ax.at64 af.out;have dj:=h_ (ax.mono g.size);clear ax;go_simp;exact o.go (.tuple #[.slice (some ⟨x2,0,none⟩) 64 x3,.int .i64 0]) rfl ⟨x2,x3,J.keep k2 (by simp) (by simp),z.keep k2 (by simp),g.trans k2,fun _=>rfl,fun _=>⟨rfl,dj.out⟩,fun h=>absurd (H (.inl h)) (by simp[K]),fun h=>absurd (H (.inr (.inl h))) (by simp[K]),fun h=>absurd (H (.inr (.inr h))) (by simp[K]),vS.s rfl⟩
  all_goals have c0:=Ug z;have c1:=lg_1 z;go_simp;exact o.go _ rfl ⟨y,C,J,z,g,H,E,N,R,S,vS.r⟩
 ·obtain rfl:i=8:=by omega
  have am:v=D∧b0=base∧ac=encRs rs:=by
   rcases hC with⟨_,⟨h0,_⟩|⟨h0,an,al,ap,ag⟩⟩|⟨_,_,Y,h2,h3⟩
   ·omega
   ·exact⟨an,al,by rw[ag,Ba (by have:=ce.out;unfold st0;omega)]⟩
   ·exact⟨Y,h2,h3⟩
  obtain⟨rfl,rfl,rfl⟩:=am;rw[show((8:Nat):Int)=8 from rfl];have hg:=HG.out;have hk:=HK.out;have eb:1≤(v:Int):=by omega
  have q1:decide ((v:Int)<1)=false:=Ak (by omega);have el:(segs:Int)≠0:=by omega
  have c6:(((v:Int)-1) % (segs:Int))=(Z:Int):=by rw[←dm.out,show((v:Int)-1)=((v-1:Nat):Int) by omega];exact(Int.natCast_emod _ _).symm
  have ee:(((v:Int)-1).tmod (segs:Int))=(Z:Int):=by rw[EO (by omega)];exact c6
  have s0:=Fl I.seg;have l2:=lg_2 I.log;have HW:=h_ I;clear I hC ao c4;go_wp2_with fail
  go_quiet (fail)
  have k1:=Ek (By [] wr) nq;have bb:=HW.out.seg.keep k1 (by simp);have bp:=HW.out.buf.keep k1 (by simp);have c7:=HW.out.log.keep k1 (by simp);have ci:=h_ (OP (v:Int) (b0:Int) (r0:Int) G rs ds.out bb (bp.mono (AA _)) (by have:=ce.out;omega));obtain⟨aq,ch,bi,dt⟩:=i_4 bp c7 bb.ty bb.lt;have dn:=h_ (HW.out.keep.trans (k1.mono (by simp)));have d3:=h_ k1.size;clear bb bp c7 k1 s0 l2 c6 ee el q1 eb;go_wp2_with fail;refine ci.out.mono ?_;rintro e w9 ⟨rfl,vr,Lr,aj,df,dc,da,k9⟩;obtain⟨dw,bg,bd,au,dr⟩:=i_5 df dc k9 aj da;clear df dc k9 ci aj da;go_wp2;go_ret;have f:=HW.out;have hz:=f.keep.size;have er:=d3.out
  have ef:(p::(G.ownBlock.toList++Mj vr Lr)).Nodup :=by
   refine List.nodup_cons.2 ⟨fun t=> ?_,BV.2 ⟨?_,dr.out,fun q k q' ei e=> ?_⟩⟩
   ·rcases Ag.1 t with h|h
    ·exact(aq.out.ty' p (by simpa using h)).ne bi.out (by decide) rfl
    ·have Y:=(bg.out.lt p h).1
     have h2:=dt.out;omega
   ·cases G.ownBlock<;>simp
   ·have Y:=aq.out.lt q (by simpa using k)
    have h2:=bg.out.lt q' ei;omega
  refine⟨p,G,vr,Lr,rq,r0,rfl,au.out,dw.out,aq.out.keep bd.out (fun q k t=> ?_),bg.out.mono (by omega),f.new,ch.out.keep bd.out (fun t=> ?_),f.lo,f.hi,fun i K=>f.all i K,dn.out.then bd.out (fun q k ao=>by simp at k;have:=f.new;omega),ef⟩
  ·simp only[Ah]at t
   subst t;exact(aq.out.ty' q k).ne bi.out (by decide) rfl
  ·simp only[Ah]at t
   subst t;exact ch.out.ty.ne bi.out (by decide) rfl
structure RdZ (W0:World) (p lb d:Nat) (frm segs nx run:Int) (vl:Value) (fr:Bool) (w':World):Prop where
 seg:Blk w' p (sgC 0 0 0 (.slice none 0 0) (.slice none 0 0)) 358
 log:Blk w' lb (lgC d frm segs vl nx run fr) 333
 keep:Keep [lb] W0 w'
 new:W0.heap.size≤p
theorem Ox:crcSum (List.replicate 60 0)≠0:=by decide+kernel
theorem KE (k:Nat):unbe (List.replicate k 0)=0:=by
 induction k with
 |zero=>rfl
 |succ k ih=>rw[List.replicate_succ'];simp[unbe,Gn]at ih⊢;omega
theorem TF {w:World}{d sb A c:Nat}{L:List Sec}(g:IsDev w d sb L c)(frm segs:Nat)(T:Value)(S run:Int)(O:Bool)(H:Blk w A (lgC d frm segs T S run O) 333)(R a:Nat)
  (hk:R<segs∧segs≤200∧frm≤100000) (ha:a=frm+R*8) (bn:a+8≤L.length) (hZ:∀i,i<8→(L.getD (a+i) zeroSec).now =List.replicate 64 0) (bt:1≤run∧run<4294967296):
  Calls Tryz.prog 268 #[pr A 0,.int .i64 (R:Int)] w fun e J=>e=.returned (.pointer none)∧Blk J A (lgC d frm segs T S run O) 333∧Keep [A] w J:=by
 obtain⟨i8,cu,c8,cz,c9⟩:=AU In;obtain⟨co,HK,HA,bv,ce,HD,bz⟩:=i_7 hZ hk ha bn bt g H.lt;have av:=h_ (show d≠A∧sb≠A from⟨g.dev.ty.ne H.ty (by decide),g.secs.ty.ne H.ty (by decide)⟩);have cj:Hid (IntKind.i64.wrap ((R:Int)*8)=(R:Int)*8):=h_ (by rw[A9];omega);have ck:Hid (IntKind.i64.wrap ((frm:Int)+(R:Int)*8)=(frm:Int)+(R:Int)*8):=h_ (by rw[A9];omega);have ct:∀W:World,(Instr.build 358 #[]).run Tryz.prog W=.ok (.agg (sgC 0 0 0 (.slice none 0 0) (.slice none 0 0)).toArray) W:=fun W=>DD W _ _ _ (by rfl)
 clear hZ hk ha bn bt g;go_enter Tryz.func268,Tryz.ntmps268;go_upto_region 2 with fail
 have bm:RdZ w w.heap.size A d frm segs S run T O (w.alloc (.cells (sgC 0 0 0 (.slice none 0 0) (.slice none 0 0)).toArray 358)):=
  ⟨BY _ _ _,H.keep ((By [] w).alloc _) (by simp),(By _ w).alloc _,Av _⟩
 change Code.wp _ _ _ _ (w.alloc (.cells (sgC 0 0 0 (.slice none 0 0) (.slice none 0 0)).toArray 358));have az:=h_ bm;clear bm H ct;generalize w.alloc (.cells (sgC 0 0 0 (.slice none 0 0) (.slice none 0 0)).toArray 358)=wa at*;generalize w.heap.size=p at*;go_wp2
 go_loopw [6,12] (fun s6 c2 wr=>∃(i:Nat) (wh:Bool),s6=.bool wh∧c2=.int .i64 (i:Int)∧i≤8∧RdZ w p A d frm segs S run T O wr∧((wh=true∧i=0)∨(wh=false∧0<i))) (fun _ x _=>9-(intOf x).toNat)
 case atStart=>exact⟨0,true,rfl,rfl,by omega,az.out,.inl ⟨rfl,rfl⟩⟩
 case round=>
 clear az;obtain⟨i,wh,rfl,rfl,br,C,hC⟩:=hrel;by_cases ac:i<8
 ·have q0:decide ((i:Int)<8)=true:=An (by omega)
  obtain⟨aa,bs⟩:∃aa,aa=a+i:=⟨_,rfl⟩;obtain⟨sc,aq,bu⟩:=Gw (show aa<L.length by have:=bv.out;omega);have ar:=HD.out.ok sc bu;obtain⟨X,k⟩:∃X,X=sc.now:=⟨_,rfl⟩;have bq:L.getD (a+i) zeroSec=sc:=by rw[←bs,Af,aq];rfl
  have ch:=h_ aq;have ad:Hid (X=List.replicate 64 0):=h_ (by rw[k,←bq];exact co.out i ac);have ci:Hid (sc.now=X):=h_ k.symm;have V:Hid (X.length=64):=h_ (by rw[k];exact ar.1);have bb:Hid (∀c∈X,c<256):=h_ (by rw[k];exact ar.2.2.1);have cl:Hid (IntKind.i64.wrap ((frm:Int)+(R:Int)*8+(i:Int))=(aa:Int)):=h_ (by have:=HA.out;have:=HK.out;rw[A9];omega);have bp:=HD.out.keep C.keep (by simpa using av.out.1) (by simpa using av.out.2);have bj:=C.log;obtain⟨HW,au,ca⟩:=i_3 C hC ac;clear aq bu ar k bq C hC bs br;go_wp2_with fail;refine wI (Vs wr d sb A c frm R aa i L segs S run T O X) ?aS (.s ?a0<|.s ?a1<|.s ?a2<|.s ?a3<|.s ?a4<|.s ?a5<|.s ?a6<|.s ?a7<|.s ?a8<|.s ?a9<|.s ?a10<|.s ?a11<|.s ?a12<|.s ?a13<|.s ?a14<|.s ?a15<|.s ?a16<|.s ?a17<|.s ?a18<|.n) 19 ?aF
  case aS=>intro x;exact⟨0,0,bp.keep (By [] _).drew (by simp) (by simp),bj.drew,(By _ _).drew,fun h=>absurd h (by decide),fun h=>absurd h (by decide),fun h=>absurd h (by decide),fun h=>absurd h (by decide),fun h=>absurd h (by decide),Yr⟩
  case a14=>
   intro l x J t G g;obtain⟨u,v,z,m,f,y,o,B,D,E,vS⟩:=t;have cq:=o (g.at rfl);have ab:Hid (l 13=true):=h_ (g.at rfl);refine Oq.of (b:= ?bA14) ?eA14 ?_
   case eA14=>simp only[Al,Act.put,A8,A7,A6,cq.1];rfl
   intro K' j;go_simp;exact j.go _ rfl ⟨u,v,z,m,f,fun h=>ab.out,o,fun _=>rfl,D,E,vS.s rfl⟩
  case a15=>
   intro l x J t G g;obtain⟨u,v,z,m,f,y,o,B,D,E,vS⟩:=t;have al:=B (g.at rfl);have ab:Hid (l 13=true):=h_ (y (.inl (g.at rfl)));refine Oq.of (b:= ?bA15) ?eA15 ?_
   case eA15=>simp only[Al,Act.put,A8,A7,A6,al];rfl
   intro K' j;go_simp;exact j.go _ rfl ⟨u,v,z,m,f,fun h=>ab.out,o,B,fun _=>rfl,E,vS.s rfl⟩
  case a16=>
   intro l x J t G g;obtain⟨u,v,z,m,f,y,o,B,D,E,vS⟩:=t;have al:=B (g.at rfl);refine Oq.of (b:= ?bA16) ?eA16 ?_
   case eA16=>simp only[Al,Act.put,A8,A7,A6,al];rfl
   intro K' j;go_simp;exact j.go _ rfl ⟨u,v,z,m,f,y,o,B,D,E,vS.r⟩
  case a17=>
   intro l x J t G g;obtain⟨u,v,z,m,f,y,o,B,D,E,vS⟩:=t;have cr:=D (g.at rfl);have ab:Hid (l 13=true):=h_ (y (.inr (.inl (g.at rfl))));refine Oq.of (b:= ?bA17) ?eA17 ?_
   case eA17=>simp only[Al,Act.put,A8,A7,A6,cr];rfl
   intro K' j;go_simp;exact j.go _ rfl ⟨u,v,z,m,f,fun h=>ab.out,o,B,D,fun _=>rfl,vS.s rfl⟩
  case aF=>
   intro l x w3 t H;obtain⟨u,v,z,m,f,y,o,B,D,E,vS⟩:=t;have ao:=(o (H 13 (by decide))).2.mono (AA _);have c6:=h_ ((o (H 13 (by decide))).2.lt u rfl).1;have bd:=E (H 17 (by decide));have be:=vS.a 18 (H 18 (by decide)) rfl;simp only[Al,Act.put,A8,A7,A6,bd,be];simp only[AP,Nat.reduceAdd];have ax:=h_ f;have bi:=m;clear o B D E z m f y bp bj bd be H vS;obtain⟨I,ag⟩:∃I,I=unbe ((X.drop 10).take 4):=⟨_,rfl⟩;obtain⟨ak,bg,bl,_⟩:=D3 (P:=Tryz.prog) 81 5 i8 Ao cu cz (some ⟨u,0,none⟩) 64 v (Bb X) 10 14 10 14 rfl rfl (by omega) (by omega) (by obtain⟨_,a,c,he,hc,_⟩:=ao.rd;rw[V.out]at he hc;injection he with _ h2 h3;omega);have bx:=h_ bg
   have cg:Hid (∀W:World,Buf W 0 5 (.slice (some ⟨u,0,none⟩) 64 v) X→Rd W ak ((X.drop 10).take 4)):=h_ (fun W h=>by have h1:=h.rd;unfold Rd at h1;rw[V.out]at h1;have h2:=bl W h1;rw[D4]at h2;exact Yv h2 (by rw[Az,A5,V.out];rfl))
   have bc:Hid (∀c∈(X.drop 10).take 4,c<256):=h_ (fun c hc=>bb.out c (AB (AH hc)));have ay:Hid (((X.drop 10).take 4).length =4):=h_ (by rw[Az,A5,V.out];omega);have an:I=0:=by rw[ag,ad.out];exact KE 4
   have c3:=h_ an;have cw:I<4294967296:=by rw[ag];exact EA _ 4 (by rw[ay.out];omega) bc.out
   have cd:=h_ ag;have cm:Hid (IntKind.i64.wrap (I:Int)=(I:Int)):=h_ (by rw[A9];omega);have cn:Hid (IntKind.i64.wrap ((I:Int)+1)=(I:Int)+1):=h_ (by rw[A9];omega);obtain⟨ah,ap⟩:∃r:Int,r=run:=⟨_,rfl⟩;have cb:Hid ((if run<(I:Int)+1 then(I:Int)+1 else run)=ah):=h_ (by have:=ce.out;rw[ap,an];split<;>omega);have cc:=h_ ap;clear bg bl ag ap an;generalize cx:w3=w6 at*;clear cx;go_wp2_with fail;refine wI (Vr w6 A d u v I frm segs S run ah T ak O X) ?bS (.s ?b0<|.s ?b1<|.s ?b2<|.s ?b3<|.s ?b4<|.s ?b5<|.s ?b6<|.s ?b7<|.s ?b8<|.s ?b9<|.s ?b10<|.s ?b11<|.s ?b12<|.s ?b13<|.n) 14 ?bF
   case bS=>intro x;exact⟨fun _=>bi.drew,fun h=>absurd h (by decide),fun h=>absurd h (by decide),ao.keep (By [] _).drew (by simp),(By _ _).drew,fun h=>absurd h (by decide),Yr⟩
   case b13=>
    intro l x J t G g;obtain⟨F,M,Q,k,f,K,vS⟩:=t;have ae:=K (g.at rfl);have cp:=vS.a 12 (g.at rfl) rfl;have c5:=VP (F G);have f5:=(F G).free 5;refine Oq.of (b:= ?bB13) ?eB13 ?_
    case eB13=>simp only[Al,Act.put,A8,A7,A6,ae.1,cp];rfl
    intro K' j;have ai:=ae.2;have ae:=ae.1;go_simp;have k2:Keep [A] J (J.setCell ⟨A,5,none⟩ (.int .i64 ah)):=(By _ _).setCell (.inl (by simp)) _;have cs:=(F G).set 5 (.int .i64 ah);exact j.go undef rfl ⟨fun h=>Bool.noConfusion (show true=false from h),fun _=>cs,fun _=>ai.out,k.keep k2 (fun q hq U=>by simp only[Ah]at U;subst U;exact(k.ty' q hq).ne (F G).ty (by decide) rfl),f.trans k2,K,vS.s rfl⟩
   case bF=>
    intro l x w3 t H;obtain⟨F,M,Q,k,f,K,vS⟩:=t;have am:=M (H 13 (by decide));simp only[Al,Act.put,A8,A7,A6];simp only[AP,Nat.reduceAdd];have cv:p∉ [A]:=by have:=bz.out;simp;omega
    have aj:Hid (RdZ w p A d frm segs S run T O w3):=h_ (by have N:=HW.out;rw[cc.out]at am;exact⟨(N.seg.keep ax.out (by simp)).keep f cv,am,N.keep.trans ((ax.out.mono (by simp)).trans f),N.new⟩)
    have ba:=h_ k;clear K F M Q k f H am bi ao cw vS
    cases wh with
    |false=>
     have c7:0<i:=by rcases au.out with⟨h,_⟩|⟨_,h⟩;cases h;exact h
     have q5:((i:Int)==0)=false:=by simp;omega
     go_wp2
     go_roundw
     case rel=>exact⟨i+1,false,rfl,by go_num,by omega,aj.out,.inr ⟨rfl,by omega⟩⟩
     case measure=>simp only[intOf];omega
    |true=>
     have cy:64≤v:=by obtain⟨_,a,c,he,hc,_⟩:=ba.out.rd;rw[V.out]at he hc;injection he with _ h2 h3;omega
     obtain rfl:i=0:=by rcases au.out with⟨_,h⟩|⟨h,_⟩;exact h;cases h
     have hF:=Fld.any X V.out bb.out;have bh:unbe ((X.drop 4).take 6)=0:=by rw[ad.out];exact KE 6
     have bf:unbe ((X.drop 16).take 6)=0:=by rw[ad.out];exact KE 6
     rw[bh,bf]at hF;have bo:crcSum (X.drop 4)≠unbe (X.take 4):=by rw[ad.out];exact fun e=>Ox (e.trans (KE 4))
     have HT:=h_ (O7 hF cy aj.out.seg (Y4 w3 0 5) ba.out ca.out 0 0 (.inl ⟨rfl,rfl,rfl⟩) bo);have q5:(((0:Nat):Int)==0)=true:=rfl;clear hF bh bf bo;go_wp2_with fail;refine HT.out.mono ?_;rintro e w4 ⟨rfl,g1,k4⟩
     have Z:RdZ w p A d frm segs S run T O w4:=by have N:=aj.out;refine⟨g1,N.log.keep k4 (fun U=> ?_),N.keep.then k4 (fun q hq ac=>absurd N.new (by simp at hq;omega)),N.new⟩;simp only[Ah]at U;subst U;exact N.log.ty.ne N.seg.ty (by decide) rfl
     have c4:=h_ Z;have f0:=g1.free 0;have c0:=Fl g1;have g2:=g1.set 0 (.int .i64 0);have k5:Keep [p] w4 (w4.setCell ⟨p,0,none⟩ (.int .i64 0)):=(By _ _).setCell (.inl (by simp)) _
     have bk:RdZ w p A d frm segs S run T O (w4.setCell ⟨p,0,none⟩ (.int .i64 0)):=by refine⟨g2,Z.log.keep k5 (fun U=> ?_),Z.keep.then k5 (fun q hq ac=>absurd Z.new (by simp at hq;omega)),Z.new⟩;simp only[Ah]at U;subst U;exact Z.log.ty.ne g1.ty (by decide) rfl
     have cf:=h_ bk;clear Z bk g1 g2 k4 k5 HT;go_wp2
     go_roundw
     case rel=>exact⟨1,false,rfl,by go_num,by omega,cf.out,.inr ⟨rfl,by omega⟩⟩
     case measure=>simp only[intOf];omega
   all_goals
    intro l x J t G g;obtain⟨F,M,Q,k,f,K,vS⟩:=t;have C:=vS;have Y:=g;simp only[SlV]at C
    try simp[BD,Region.binds]at Y
    refine Oq.of (by simp only[Al,Act.put,A8,A7,A6,Y,C];rfl) ?_;clear Y C;intro K' j
   case b4=>have c5:=VP (F (by cases hq:l 13 with|false=>rfl|true=>exact absurd (Q hq) (by simp[G])));go_simp;exact j.go _ rfl ⟨F,M,fun _=>rfl,k,f,fun h=>⟨(K h).1,h_ rfl⟩,vS.r⟩
   case b7=>go_simp;refine(CB ak ((X.drop 10).take 4) (cg.out J k) bc.out (by rw[ay.out];omega) I cd.out).mono ?_;rintro e w2 ⟨rfl,rfl⟩;go_simp;exact j.go _ rfl ⟨F,M,Q,k,f,K,vS.r⟩
   case b8=>go_simp;exact j.go _ rfl ⟨F,M,Q,k,f,K,vS.q ((by first|rfl|exact A3 (Value.int .i64) cm.out))⟩
   case b9=>go_simp;exact j.go _ rfl ⟨F,M,Q,k,f,K,vS.q ((by first|rfl|exact A3 (Value.int .i64) cn.out))⟩
   case b10=>have ai:Hid (l 4=true):=h_ (g.at rfl);go_simp;exact j.go _ rfl ⟨F,M,Q,k,f,fun _=>⟨A3 (Value.int .i64) cb.out,ai⟩,vS.s rfl⟩
   all_goals have hcut:=bx.out;go_simp;exact j.go _ rfl ⟨F,M,Q,k,f,K,vS.r⟩
  all_goals
   intro l x J t G g;obtain⟨u,v,z,m,f,y,o,B,D,E,vS⟩:=t;have C:=vS;have Y:=g;simp only[SlV]at C
   try simp[BD,Region.binds]at Y
   refine Oq.of (by simp only[Al,Act.put,A8,A7,A6,Y,C];rfl) ?_;clear Y C;intro K' j
  case a9=>go_simp;exact j.go _ rfl ⟨u,v,z,m,f,y,o,B,D,E,vS.q ((by first|rfl|exact A3 (Value.int .i64) cj.out))⟩
  case a10=>go_simp;exact j.go _ rfl ⟨u,v,z,m,f,y,o,B,D,E,vS.q ((by first|rfl|exact A3 (Value.int .i64) ck.out))⟩
  case a12=>go_simp;exact j.go _ rfl ⟨u,v,z,m,f,y,o,B,D,E,vS.q ((by first|rfl|exact A3 (Value.int .i64) cl.out))⟩
  case a13=>go_simp;refine(Ot z aa sc ch.out).mono ?_;rintro e w2 ⟨v2,rfl,af,k2⟩;rw[ci.out]at af;obtain⟨x2,x3,rfl⟩:=af.at64 V.out;have bw:=h_ (af.mono f.size);clear af;go_simp;exact j.go (.tuple #[.slice (some ⟨x2,0,none⟩) 64 x3,.int .i64 0]) rfl ⟨x2,x3,z.keep k2 (by simp) (by simp),m.keep k2 (by simp),f.trans k2,fun _=>rfl,fun _=>⟨rfl,bw.out⟩,fun h=>absurd (y (.inl h)) (by simp[G]),fun h=>absurd (y (.inr (.inl h))) (by simp[G]),fun h=>absurd (y (.inr (.inr h))) (by simp[G]),vS.s rfl⟩
  all_goals have c0:=Ug m;have c1:=lg_1 m;go_simp;exact j.go _ rfl ⟨u,v,z,m,f,y,o,B,D,E,vS.r⟩
 ·obtain rfl:i=8:=by omega
  rw[show((8:Nat):Int)=8 from rfl];have q1:decide (((0:Nat):Int)<1)=true:=rfl;have s0:=Fl C.seg;have HW:=h_ C;clear C hC ac br;go_wp2_with fail
  go_quiet (fail)
  have k1:=Ek (By [] wr) nq;have aw:=h_ k1;clear k1;go_wp2;go_ret;exact⟨rfl,HW.out.log.keep aw.out (by simp),HW.out.keep.trans (aw.out.mono (by simp))⟩
structure Sg where
 p:Nat
 gen:Nat
 base:Nat
 run:Int
 vb:Value
 vr:Value
 recs:List Rc
def Sg.rs (s:Sg):List Rcd:=s.recs.map (·.r)
def Sg.F (s:Sg):List Nat:=s.p::(s.vb.ownBlock.toList++Mj s.vr s.recs)
def sgPtr (s:Sg):Value:=pr s.p 0
structure SgAt (w:World) (B:Nat) (s:Sg):Prop where
 blk:Blk w s.p (sgC s.gen s.base s.run s.vb s.vr) 358
 buf:Buf w B 5 s.vb (encRs s.rs)
 recs:RRow w B s.vr s.recs
 new:B≤s.p
 nd:s.F.Nodup
theorem SgAt.keep {w c:World}{B:Nat}{s:Sg}{S:List Nat}(h:SgAt w B s)(k:Keep S w c)(a:∀q∈s.F,q∉S):SgAt c B s:=
 ⟨h.blk.keep k (a _ (by simp[Sg.F])),h.buf.keep k (fun q b=>a q (by simp[Sg.F,b])),h.recs.keep k (fun q b=>a q (by simp[Sg.F,b])),h.new,h.nd⟩
theorem SgAt.still {w a:World}{B:Nat}{s:Sg}(h:SgAt w B s)(k:Keep [] w a):SgAt a B s:=h.keep k (by simp)
theorem SgAt.lt {w:World}{B:Nat}{s:Sg}(h:SgAt w B s):∀q∈s.F,B≤q∧q<w.heap.size:=by
 intro q a;unfold Sg.F at a;rcases Ac.1 a with rfl|a
 ·exact⟨h.new,h.blk.lt⟩
 ·rcases Ag.1 a with a|a
  ·exact h.buf.lt q (Ae.1 a)
  ·exact h.recs.lt q a
theorem SgAt.ty {w:World}{B:Nat}{s:Sg}(h:SgAt w B s):∀q∈s.F,Ty w q 358∨Ty w q 353∨Ty w q 5:=by
 intro q a;unfold Sg.F at a;rcases Ac.1 a with rfl|a
 ·exact .inl h.blk.ty
 ·rcases Ag.1 a with a|a
  ·exact .inr (.inr (h.buf.ty' q (Ae.1 a)))
  ·exact .inr (h.recs.ty q a)
structure SgRow (w:World) (B:Nat) (v:Value) (l:List Sg):Prop where
 own:Own w B 359 v (l.map sgPtr)
 ok:∀s∈l,SgAt w B s
def sgF (l:List Sg):List Nat:=l.flatMap Sg.F
theorem SgRow.nil (w:World)(B:Nat):SgRow w B (.slice none 0 0) []:=⟨YA _ _ _,by simp⟩
def cmpJ (f:World)(a b g h:Nat)(e d:Int)(l:Nat→Bool)(x:Nat→Value)(c:World):Prop:=
 (c.cell? ⟨a,0,none⟩=some (.int .i64 (g:Int)))∧
 (c.cell? ⟨b,0,none⟩=some (.int .i64 (h:Int)))∧
 (Keep [] f c)∧
 SlV l x 0 [some (pr a 0),some (pr a 0),some (pr a 0),some (.int .i64 (g:Int)),some (pr b 0),some (pr b 0),some (pr b 0),some (.int .i64 (h:Int)),some (.int .i64 ((g:Int)-(h:Int))),some (.int .i64 e),some (.int .i64 d),some (.int .i64 d)]
def delJ (e:World)(a b c1 c2 g h segs:Nat)(d:Bool)(l:Nat→Bool)(x:Nat→Value)(c:World):Prop:=
 (c.cell? ⟨a,0,none⟩=some (.int .i64 (g:Int)))∧
 (c.cell? ⟨b,0,none⟩=some (.int .i64 (h:Int)))∧
 (c.cell? ⟨c1,0,none⟩=some (pr b 0))∧
 (c.cell? ⟨c2,0,none⟩=some (.int .i64 (segs:Int)))∧
 (Keep [] e c)∧
 SlV l x 0 [some (pr a 0),some (pr a 0),some (pr a 0),some (.int .i64 (g:Int)),some (pr b 0),some (pr b 0),some (pr b 0),some (.int .i64 (h:Int)),some (.int .i64 (segs:Int)),some (.int .i64 ((h:Int)-(segs:Int))),some (.bool d),some (.bool d)]
def delK (f:World)(a b c1 c2 d g h segs:Nat)(e:Bool)(l:Nat→Bool)(x:Nat→Value)(c:World):Prop:=
 (c.cell? ⟨a,0,none⟩=some (.int .i64 (g:Int)))∧
 (c.cell? ⟨b,0,none⟩=some (.int .i64 (h:Int)))∧
 (c.cell? ⟨c1,0,none⟩=some (pr b 0))∧
 (c.cell? ⟨c2,0,none⟩=some (pr d 0))∧
 (c.cell? ⟨d,2,none⟩=some (.int .i64 (segs:Int)))∧
 (Keep [] f c)∧
 SlV l x 0 [some (pr a 0),some (pr a 0),some (pr a 0),some (.int .i64 (g:Int)),some (pr b 0),some (pr b 0),some (pr b 0),some (.int .i64 (h:Int)),some (pr d 0),some (pr d 0),some (pr d 2),some (.int .i64 (segs:Int)),some (.int .i64 ((h:Int)-(segs:Int))),some (.bool e),some (.bool e)]
theorem XE {w:World}{a b:Nat}{g h:Nat}(Ml:w.cell? ⟨a,0,none⟩=some (.int .i64 (g:Int)))(F:w.cell? ⟨b,0,none⟩=some (.int .i64 (h:Int)))(H:g<281474976710656∧h<281474976710656):
  Calls Tryz.prog 270 #[pr a 0,pr b 0] w fun e A=>e=.returned (.int .i64 (if g<h then-1 else if h<g then 1 else 0))∧Keep [] w A:=by
 have D:Hid (IntKind.i64.wrap ((g:Int)-(h:Int))=(g:Int)-(h:Int)):=h_ (by rw[A9];omega);obtain⟨u,t⟩:∃m:Int,m=if(g:Int)-(h:Int)< -1 then-1 else(g:Int)-(h:Int):=⟨_,rfl⟩
 obtain⟨z,p⟩:∃m:Int,m=if g<h then-1 else if h<g then 1 else 0:=⟨_,rfl⟩
 have C:=h_ t.symm;have B:Hid ((if(1:Int)<u then 1 else u)=z):=h_ (by rw[p,t];(repeat' split)<;>omega);rw[←p];clear t p H;go_enter Tryz.func270,Tryz.ntmps270;go_upto_region 1 with fail;refine wI (cmpJ w a b g h u z) ?aS (.s ?a0<|.s ?a1<|.s ?a2<|.s ?a3<|.s ?a4<|.s ?a5<|.s ?a6<|.s ?a7<|.s ?a8<|.s ?a9<|.s ?a10<|.s ?a11<|.n) 12 ?aF
 case aS=>intro x;exact⟨Ml,F,(By _ _).drew,Yr⟩
 case aF=>intro l x K k y;obtain⟨c,d,f,vS⟩:=k;have v:=vS.a 11 (y 11 (by decide)) rfl;simp only[Al,Act.put,A8,A7,A6,v];clear v c d y vS;go_wp2;go_ret;exact⟨rfl,f⟩
 all_goals
  intro l x A k J G;obtain⟨c,d,f,vS⟩:=k;have o:=vS;have j:=G;simp only[SlV]at o
  try simp[BD,Region.binds]at j
  refine Oq.of (by simp only[Al,Act.put,A8,A7,A6,j,o];rfl) ?_;clear j o;intro I i
 case a7=>have E:=d;go_simp;exact i.go _ rfl ⟨c,d,f,vS.r⟩
 case a8=>go_simp;exact i.go _ rfl ⟨c,d,f,vS.q ((by first|rfl|exact A3 (Value.int .i64) D.out))⟩
 case a9=>go_simp;exact i.go _ rfl ⟨c,d,f,vS.q ((by first|rfl|exact A3 (Value.int .i64) C.out))⟩
 case a10=>go_simp;exact i.go _ rfl ⟨c,d,f,vS.q ((by first|rfl|exact A3 (Value.int .i64) B.out))⟩
 all_goals have E:=c;go_simp;exact i.go _ rfl ⟨c,d,f,vS.r⟩
theorem Wk {w:World}{a b c1 c2 g h segs:Nat}(Ml:w.cell? ⟨a,0,none⟩=some (.int .i64 (g:Int)))(E:w.cell? ⟨b,0,none⟩=some (.int .i64 (h:Int)))(F:w.cell? ⟨c1,0,none⟩=some (pr b 0))(G:w.cell? ⟨c2,0,none⟩=some (.int .i64 (segs:Int)))(I:g<281474976710656∧h<281474976710656∧segs≤200):
  Calls Tryz.prog 272 #[pr a 0,pr c1 0,pr c2 0] w fun e A=>e=.returned (.bool (decide ((g:Int)≤(h:Int)-(segs:Int))))∧Keep [] w A:=by
 have C:Hid (IntKind.i64.wrap ((h:Int)-(segs:Int))=(h:Int)-(segs:Int)):=h_ (by rw[A9];omega);obtain⟨D,v⟩:∃m:Bool,m=decide ((g:Int)≤(h:Int)-(segs:Int)):=⟨_,rfl⟩;have B:=h_ v.symm;rw[←v];clear v I;go_enter Tryz.func272,Tryz.ntmps272;go_upto_region 1 with fail;refine wI (delJ w a b c1 c2 g h segs D) ?aS (.s ?a0<|.s ?a1<|.s ?a2<|.s ?a3<|.s ?a4<|.s ?a5<|.s ?a6<|.s ?a7<|.s ?a8<|.s ?a9<|.s ?a10<|.s ?a11<|.n) 12 ?aF
 case aS=>intro x;exact⟨Ml,E,F,G,(By _ _).drew,Yr⟩
 case aF=>intro l x L t z;obtain⟨c,d,f,i,j,vS⟩:=t;have y:=vS.a 11 (z 11 (by decide)) rfl;simp only[Al,Act.put,A8,A7,A6,y];clear y c d f i z vS;go_wp2;go_ret;exact⟨rfl,j⟩
 all_goals
  intro l x A t K H;obtain⟨c,d,f,i,j,vS⟩:=t;have u:=vS;have p:=H;simp only[SlV]at u
  try simp[BD,Region.binds]at p
  refine Oq.of (by simp only[Al,Act.put,A8,A7,A6,p,u];rfl) ?_;clear p u;intro J k
 case a4=>have o:=f;go_simp;exact k.go _ rfl ⟨c,d,f,i,j,vS.r⟩
 case a7=>have o:=d;go_simp;exact k.go _ rfl ⟨c,d,f,i,j,vS.r⟩
 case a8=>have o:=i;go_simp;exact k.go _ rfl ⟨c,d,f,i,j,vS.r⟩
 case a9=>go_simp;exact k.go _ rfl ⟨c,d,f,i,j,vS.q ((by first|rfl|exact A3 (Value.int .i64) C.out))⟩
 case a10=>go_simp;exact k.go _ rfl ⟨c,d,f,i,j,vS.q ((by first|rfl|exact A3 Value.bool B.out))⟩
 all_goals have o:=c;go_simp;exact k.go _ rfl ⟨c,d,f,i,j,vS.r⟩
theorem Uy {w:World}{a b c1 c2 z g h segs:Nat}(Ml:w.cell? ⟨a,0,none⟩=some (.int .i64 (g:Int)))(G:w.cell? ⟨b,0,none⟩=some (.int .i64 (h:Int)))(H:w.cell? ⟨c1,0,none⟩=some (pr b 0))(I:w.cell? ⟨c2,0,none⟩=some (pr z 0))(J:w.cell? ⟨z,2,none⟩=some (.int .i64 (segs:Int)))(L:g<281474976710656∧h<281474976710656∧segs≤200):
  Calls Tryz.prog 275 #[pr a 0,pr c1 0,pr c2 0] w fun e C=>e=.returned (.bool (decide ((g:Int)≤(h:Int)-(segs:Int))))∧Keep [] w C:=by
 have E:Hid (IntKind.i64.wrap ((h:Int)-(segs:Int))=(h:Int)-(segs:Int)):=h_ (by rw[A9];omega);obtain⟨F,y⟩:∃m:Bool,m=decide ((g:Int)≤(h:Int)-(segs:Int)):=⟨_,rfl⟩;have D:=h_ y.symm;rw[←y];clear y L;go_enter Tryz.func275,Tryz.ntmps275;go_upto_region 1 with fail;refine wI (delK w a b c1 c2 z g h segs F) ?aS (.s ?a0<|.s ?a1<|.s ?a2<|.s ?a3<|.s ?a4<|.s ?a5<|.s ?a6<|.s ?a7<|.s ?a8<|.s ?a9<|.s ?a10<|.s ?a11<|.s ?a12<|.s ?a13<|.s ?a14<|.n) 15 ?aF
 case aS=>intro x;exact⟨Ml,G,H,I,J,(By _ _).drew,Yr⟩
 case aF=>intro l x O u B;obtain⟨c,d,f,i,j,k,vS⟩:=u;have A:=vS.a 14 (B 14 (by decide)) rfl;simp only[Al,Act.put,A8,A7,A6,A];clear A c d f i j B vS;go_wp2;go_ret;exact⟨rfl,k⟩
 all_goals
  intro l x C u N K;obtain⟨c,d,f,i,j,k,vS⟩:=u;have v:=vS;have t:=K;simp only[SlV]at v
  try simp[BD,Region.binds]at t
  refine Oq.of (by simp only[Al,Act.put,A8,A7,A6,t,v];rfl) ?_;clear t v;intro M o
 case a4=>have p:=f;go_simp;exact o.go _ rfl ⟨c,d,f,i,j,k,vS.r⟩
 case a7=>have p:=d;go_simp;exact o.go _ rfl ⟨c,d,f,i,j,k,vS.r⟩
 case a8=>have p:=i;go_simp;exact o.go _ rfl ⟨c,d,f,i,j,k,vS.r⟩
 case a11=>have p:=j;go_simp;exact o.go _ rfl ⟨c,d,f,i,j,k,vS.r⟩
 case a12=>go_simp;exact o.go _ rfl ⟨c,d,f,i,j,k,vS.q ((by first|rfl|exact A3 (Value.int .i64) E.out))⟩
 case a13=>go_simp;exact o.go _ rfl ⟨c,d,f,i,j,k,vS.q ((by first|rfl|exact A3 Value.bool D.out))⟩
 all_goals have p:=c;go_simp;exact o.go _ rfl ⟨c,d,f,i,j,k,vS.r⟩
def Yl (k c1 c2:Nat):Value:= .func (.func k) #[] #[pr c1 0,pr c2 0]
def WH (w:World)(k c1 c2:Nat)(l:List Sg)(a:Nat→Bool):Prop:=
 ∀s∈l,Calls Tryz.prog k #[sgPtr s,pr c1 0,pr c2 0] w fun e b=>e=.returned (.bool (a s.gen))∧Keep [] w b
def NV (a:Nat→Bool)(l:List Sg):Int:=if l.findIdx (fun s=>a s.gen)<l.length then(l.findIdx (fun s=>a s.gen):Int)else-1
theorem RC {w:World}{B c1 c2:Nat}{v:Value}{l:List Sg}{d:Nat→Bool}(y:Own w B 359 v (l.map sgPtr))(E:∀W,Keep [] w W→WH W 272 c1 c2 l d)(D:l.length≤1000):
  Calls Tryz.prog 297 #[v,Yl 272 c1 c2] w fun e R=>e=.returned (.int .i64 (NV d l))∧Keep [] w R:=by
 obtain⟨a,cap,rfl⟩:=y.slice;rw[AD];obtain⟨C,J,I⟩:=i_3 y E D;clear y E D;unfold Yl;go_enter Tryz.func297,Tryz.ntmps297;go_wp2
 go_loopw [8] (fun Q wr=>∃i:Nat,Q=.int .i64 (i:Int)∧i≤l.length∧(∀j (h:j<l.length),j<i→d (l[j]).gen =false)∧Keep [] w wr) (fun x _=>l.length+1-(intOf x).toNat)
 case atStart=>exact⟨0,rfl,AA _,fun j _ h=>absurd h (by omega),By _ _⟩
 case round=>
 obtain⟨i,rfl,U,r,b⟩:=hrel;by_cases c:i<l.length
 ·have P:decide ((i:Int)<(l.length:Int))=true:=An (by omega)
  obtain⟨k,z⟩:=i_2 b r
  obtain⟨n,rfl⟩:∃n,a=some ⟨n,0,none⟩:=by obtain⟨g,T,N,_⟩:=C.out.at_ (by simp;omega);injection N with o;exact⟨g,o⟩
  have F:=(C.out.keep b (by simp)).cell (by simp) i (by simpa using c);have L:wr.cell? ⟨n,i,none⟩=some (pr ((l[i]).p) 0):=by rw[F.1];simp[c,sgPtr]
  have q:=J.out wr b l[i] (BS c);unfold sgPtr at q;obtain⟨K,S⟩:=i_2 q c;clear q F b r;go_wp2_with fail;refine K.out.mono ?_;rintro e X ⟨rfl,H⟩;have A:=h_ (k.out.trans H);clear H L
  cases f:d (l[i]).gen with
  |true=>
   have m:=h_ f;clear f;go_wp2;go_ret;refine⟨?_,A.out⟩
   have t:l.findIdx (fun s=>d s.gen)=i:=by refine(List.findIdx_eq c).2 ⟨m.out,fun j G=> ?_⟩;rw[z.out j (by omega) G]
   unfold NV;rw[t,Ay c];rfl
  |false=>
   have m:=h_ f;have V:=I.out;clear f;go_wp2
   go_roundw
   case rel=>
    refine⟨i+1,by go_num,by omega,fun j h G=> ?_,A.out⟩;by_cases O:j<i
    ·exact z.out j h O
    ·obtain rfl:j=i:=by omega
     exact m.out
   case measure=>simp only[intOf];omega
 ·obtain rfl:i=l.length:=by omega
  have P:decide ((l.length:Int)<(l.length:Int))=false:=by simp
  have k:=h_ b;clear b;go_wp2;go_ret;refine⟨?_,k.out⟩
  have t:¬l.findIdx (fun s=>d s.gen)<l.length:=by intro u;have o:=List.findIdx_getElem (w:=u);have M:=r _ u u;exact absurd (o.symm.trans M) (by decide)
  unfold NV;rw[Aw t];rfl
theorem PG {w:World}{B c1 c2:Nat}{v:Value}{l:List Sg}{d:Nat→Bool}(y:Own w B 359 v (l.map sgPtr))(E:∀W,Keep [] w W→WH W 275 c1 c2 l d)(D:l.length≤1000):
  Calls Tryz.prog 297 #[v,Yl 275 c1 c2] w fun e R=>e=.returned (.int .i64 (NV d l))∧Keep [] w R:=by
 obtain⟨a,cap,rfl⟩:=y.slice;rw[AD];obtain⟨C,J,I⟩:=i_3 y E D;clear y E D;unfold Yl;go_enter Tryz.func297,Tryz.ntmps297;go_wp2
 go_loopw [8] (fun Q wr=>∃i:Nat,Q=.int .i64 (i:Int)∧i≤l.length∧(∀j (h:j<l.length),j<i→d (l[j]).gen =false)∧Keep [] w wr) (fun x _=>l.length+1-(intOf x).toNat)
 case atStart=>exact⟨0,rfl,AA _,fun j _ h=>absurd h (by omega),By _ _⟩
 case round=>
 obtain⟨i,rfl,U,r,b⟩:=hrel;by_cases c:i<l.length
 ·have P:decide ((i:Int)<(l.length:Int))=true:=An (by omega)
  obtain⟨k,z⟩:=i_2 b r
  obtain⟨n,rfl⟩:∃n,a=some ⟨n,0,none⟩:=by obtain⟨g,T,N,_⟩:=C.out.at_ (by simp;omega);injection N with o;exact⟨g,o⟩
  have F:=(C.out.keep b (by simp)).cell (by simp) i (by simpa using c);have L:wr.cell? ⟨n,i,none⟩=some (pr ((l[i]).p) 0):=by rw[F.1];simp[c,sgPtr]
  have q:=J.out wr b l[i] (BS c);unfold sgPtr at q;obtain⟨K,S⟩:=i_2 q c;clear q F b r;go_wp2_with fail;refine K.out.mono ?_;rintro e X ⟨rfl,H⟩;have A:=h_ (k.out.trans H);clear H L
  cases f:d (l[i]).gen with
  |true=>
   have m:=h_ f;clear f;go_wp2;go_ret;refine⟨?_,A.out⟩
   have t:l.findIdx (fun s=>d s.gen)=i:=by refine(List.findIdx_eq c).2 ⟨m.out,fun j G=> ?_⟩;rw[z.out j (by omega) G]
   unfold NV;rw[t,Ay c];rfl
  |false=>
   have m:=h_ f;have V:=I.out;clear f;go_wp2
   go_roundw
   case rel=>
    refine⟨i+1,by go_num,by omega,fun j h G=> ?_,A.out⟩;by_cases O:j<i
    ·exact z.out j h O
    ·obtain rfl:j=i:=by omega
     exact m.out
   case measure=>simp only[intOf];omega
 ·obtain rfl:i=l.length:=by omega
  have P:decide ((l.length:Int)<(l.length:Int))=false:=by simp
  have k:=h_ b;clear b;go_wp2;go_ret;refine⟨?_,k.out⟩
  have t:¬l.findIdx (fun s=>d s.gen)<l.length:=by intro u;have o:=List.findIdx_getElem (w:=u);have M:=r _ u u;exact absurd (o.symm.trans M) (by decide)
  unfold NV;rw[Aw t];rfl
def UF (a b:Sg):Prop:=a.gen≤b.gen
def Ed (w:World)(s:Sg):Prop:=w.cell? ⟨s.p,0,none⟩=some (.int .i64 (s.gen:Int))∧Ty w s.p 358∧s.gen<281474976710656
theorem Ed.keep {w d:World}{s:Sg}{S:List Nat}(h:Ed w s)(k:Keep S w d)(c:s.p∉S):Ed d s:=⟨by rw[k.cell h.2.1.lt c];exact h.1,h.2.1.keep k c,h.2.2⟩
theorem Ed.keep0 {w c:World}{s:Sg}(h:Ed w s)(k:Keep [] w c):Ed c s:=h.keep k (by simp)
section
variable {w:World} {B ba N cap J1:Nat} {A R':List Sg} {a b:Sg} {T:TypeId}
theorem KN (d:Own w B T (.slice (some ⟨ba,0,none⟩) N cap) ((A++b::a::R').map sgPtr))(c:N=(A++b::a::R').length):N=((A++b::a::R').map sgPtr).length :=by rw[AD];exact c
theorem NG (d:Own w B T (.slice (some ⟨ba,0,none⟩) N cap) ((A++b::a::R').map sgPtr))(c:N=(A++b::a::R').length)(e:A.length=J1):w.cell? ⟨ba,J1+1,none⟩=some (pr a.p 0)∧w.frozen? ⟨ba,J1+1,none⟩=false:=by have h:=d.cell (KN d c) (J1+1) (by rw[c];simp;omega);refine⟨?_,h.2⟩;rw[h.1,AN,AC (by omega),show J1+1-A.length=1 by omega];rfl
theorem KO (d:Own w B T (.slice (some ⟨ba,0,none⟩) N cap) ((A++b::a::R').map sgPtr))(c:N=(A++b::a::R').length)(e:A.length=J1):w.cell? ⟨ba,J1,none⟩=some (pr b.p 0)∧w.frozen? ⟨ba,J1,none⟩=false:=by have h:=d.cell (KN d c) J1 (by rw[c];simp;omega);refine⟨?_,h.2⟩;rw[h.1,AN,AC (by omega),show J1-A.length=0 by omega];rfl
theorem Pb (c:Own w B T (.slice (some ⟨ba,0,none⟩) N cap) ((A++b::a::R').map sgPtr))(d:N=(A++b::a::R').length)(e:A.length=J1)(u:Sg):Own (w.setCell ⟨ba,J1+1,none⟩ (pr u.p 0)) B T (.slice (some ⟨ba,0,none⟩) N cap) ((A++b::u::R').map sgPtr):=by have h:=c.set (KN c d) (J1+1) (sgPtr u);rw[←Gl,CU _ _ (by omega),show J1+1-A.length=1 by omega]at h;exact h.1
theorem Pc (c:Own w B T (.slice (some ⟨ba,0,none⟩) N cap) ((A++b::a::R').map sgPtr))(d:N=(A++b::a::R').length)(e:A.length=J1)(u:Sg):Own (w.setCell ⟨ba,J1,none⟩ (pr u.p 0)) B T (.slice (some ⟨ba,0,none⟩) N cap) ((A++u::a::R').map sgPtr):=by have h:=c.set (KN c d) J1 (sgPtr u);rw[←Gl,CU _ _ (by omega),show J1-A.length=0 by omega]at h;exact h.1
end
def insJ4 (h:World)(B ba N cap J1:Nat)(A:List Sg)(d e:Sg)(R':List Sg)(g:Int)(f:Bool)(l:Nat→Bool)(x:Nat→Value)(c:World):Prop:=
 (Own c B 359 (.slice (some ⟨ba,0,none⟩) N cap) ((A++e::d::R').map sgPtr))∧
 (Ed c d)∧
 (Ed c e)∧
 (Keep [ba] h c)∧
 SlV l x 0 [some (.int .i64 ((J1+1:Nat):Int)),some (.int .i64 0),some (.bool true),some (.bool true),some (.func (.func 270) #[] #[]),some (.slice (some ⟨ba,0,none⟩) N cap),some (.int .i64 ((J1+1:Nat):Int)),some (pr ba (J1+1)),some (pr d.p 0),some (.slice (some ⟨ba,0,none⟩) N cap),some (.int .i64 ((J1+1:Nat):Int)),some (.int .i64 (J1:Int)),some (pr ba J1),some (pr e.p 0),some (.int .i64 g),some (.bool f),some (.bool f)]
def insJ6 (f:World)(B ba N cap J1:Nat)(A:List Sg)(d e:Sg)(R':List Sg)(l:Nat→Bool)(x:Nat→Value)(c:World):Prop:=
 (l 15=false→l 17=false→Own c B 359 (.slice (some ⟨ba,0,none⟩) N cap) ((A++e::d::R').map sgPtr))∧
 (l 15=true→l 17=false→Own c B 359 (.slice (some ⟨ba,0,none⟩) N cap) ((A++e::e::R').map sgPtr))∧
 (l 15=false→l 17=true→Own c B 359 (.slice (some ⟨ba,0,none⟩) N cap) ((A++d::d::R').map sgPtr))∧
 (l 15=true→l 17=true→Own c B 359 (.slice (some ⟨ba,0,none⟩) N cap) ((A++d::e::R').map sgPtr))∧
 (Keep [ba] f c)∧
 (l 15=true→l 9=true∧l 13=true)∧
 (l 17=true→l 9=true∧l 13=true)∧
 SlV l x 0 [some (.slice (some ⟨ba,0,none⟩) N cap),some (.int .i64 ((J1+1:Nat):Int)),some (.slice (some ⟨ba,0,none⟩) N cap),some (.int .i64 ((J1+1:Nat):Int)),some (.int .i64 (J1:Int)),some (.slice (some ⟨ba,0,none⟩) N cap),some (.int .i64 ((J1+1:Nat):Int)),some (.int .i64 (J1:Int)),some (pr ba J1),some (pr e.p 0),some (.slice (some ⟨ba,0,none⟩) N cap),some (.int .i64 ((J1+1:Nat):Int)),some (pr ba (J1+1)),some (pr d.p 0),some (pr ba (J1+1)),none,some (pr ba J1),none]
theorem RB {w:World}{B ba cap:Nat}{l₀:List Sg}(hv:Own w B 359 (.slice (some ⟨ba,0,none⟩) l₀.length cap) (l₀.map sgPtr))(hG:∀s∈l₀,Ed w s)(hN:l₀.length≤1000∧0<l₀.length):
  Calls Tryz.prog 317 #[.slice (some ⟨ba,0,none⟩) l₀.length cap,.int .i64 0,.int .i64 (l₀.length:Int),.func (.func 270) #[] #[]] w fun e O=>e=.returned (.tuple #[])∧∃m:List Sg,m.Perm l₀∧m.Pairwise UF∧Own O B 359 (.slice (some ⟨ba,0,none⟩) l₀.length cap) (m.map sgPtr)∧Keep [ba] w O:=by
 obtain⟨HV,HG,Z⟩:=i_3 hv hG hN;clear hv hG hN;go_enter Tryz.func317,Tryz.ntmps317;go_wp2
 go_loopw [8] (fun s8 wr=>∃(i:Nat) (m:List Sg),s8=.int .i64 (i:Int)∧1≤i∧i≤l₀.length∧m.Perm l₀∧(m.take i).Pairwise UF∧Own wr B 359 (.slice (some ⟨ba,0,none⟩) l₀.length cap) (m.map sgPtr)∧Keep [ba] w wr) (fun x _=>l₀.length+1-(intOf x).toNat)
 case atStart=>exact⟨1,l₀,rfl,by omega,Z.out.2,Df _,by cases l₀<;>simp,HV.out,By _ _⟩
 case round=>
 obtain⟨i,m,rfl,h1,v,t,R,f,d⟩:=hrel;by_cases bq:i<l₀.length
 ·have q0:decide ((i:Int)<(l₀.length:Int))=true:=An (by omega)
  have bf:m.length=l₀.length:=t.length_eq;obtain⟨bl,HP,HS,HO,HK⟩:=i_5 bf t R f d;have HI:=h_ (show 1≤i∧i<l₀.length from⟨h1,bq⟩);clear t R f d bf h1 v;go_wp2
  go_loopw [9] (fun s9 bg=>∃(A C:List Sg) (x:Sg),s9=.int .i64 (A.length:Int)∧A.length+C.length=i∧(A++x::(C++m.drop (i+1))).Perm l₀∧(A++C).Pairwise UF∧(∀c∈C,UF x c)∧Own bg B 359 (.slice (some ⟨ba,0,none⟩) l₀.length cap) ((A++x::(C++m.drop (i+1))).map sgPtr)∧Keep [ba] w bg) (fun y _=>(intOf y).toNat)
  case atStart=>
   have Q:i<m.length:=by rw[bl.out];exact HI.out.2
   have he:m.take i++m[i]::([]++m.drop (i+1))=m:=by rw[List.nil_append,←Cj Q,BX]
   refine⟨m.take i,[],m[i], ?_,by simp;omega,by rw[he];exact HP.out,by rw[AE];exact HS.out,by simp,by rw[he];exact HO.out,HK.out⟩;rw[Az,BZ (EV Q)]
  case round=>
  obtain⟨A1,C,j,rfl,S,t,R,hC,f,d⟩:=hrel;rcases List.eq_nil_or_concat A1 with rfl|⟨A,g,rfl⟩
  ·have q1:decide ((0:Int)>0)=false:=by simp
   obtain⟨HO,aa,ad,ac,ae,ab⟩:=i_6 f d t hC R S;clear f d t hC R S;rw[show((([]:List Sg).length :Nat):Int)=0 from rfl];have hn:=Z.out.1;go_upto_region 4 with fail
   go_quiet (fail)
   have bj:=h_ (Ek aa.out nq);have bm:=h_ (HO.out.keep (Ek (By [] wr) nq) (by simp));clear HO aa;generalize wr.drewN nq=wr3 at*;go_wp2
   go_roundw
   case rel=>
    refine⟨i+1,j::(C++m.drop (i+1)),by go_num,by omega,by omega,ad.out, ?_,bm.out,bj.out⟩;have aq:C.length=i:=by have:=ab.out;simpa using this
    rw[List.take_succ_cons,←aq,DX];exact B9.2 ⟨ac.out,by simpa using ae.out⟩
   case measure=>simp only[intOf];omega
  ·rw[List.concat_eq_append]at*
   obtain⟨J1,an⟩:∃J1,A.length=J1:=⟨_,rfl⟩;have be:(A++[g]).length =J1+1:=by simp[an]
   rw[be]at*;rw[Ax,List.singleton_append]at t f;obtain⟨R',ao⟩:∃R',R'=C++m.drop (i+1):=⟨_,rfl⟩;rw[←ao]at t f;have F:Hid (l₀.length=(A++g::j::R').length):=h_ t.length_eq.symm;have E:=h_ an;have P:Hid (J1+1<l₀.length):=h_ (by rw[F.out];simp;omega);have ax:Ed wr j:=(HG.out j (t.mem_iff.1 (by simp))).keep d (by simp;exact(HG.out j (t.mem_iff.1 (by simp))).2.1.ne (HV.out.ty ba rfl) (by decide));have ay:Ed wr g:=(HG.out g (t.mem_iff.1 (by simp))).keep d (by simp;exact(HG.out g (t.mem_iff.1 (by simp))).2.1.ne (HV.out.ty ba rfl) (by decide));have az:=f;obtain⟨aa,ad,ae,ac,ai,ab⟩:=i_6 d t R hC ao S;obtain⟨CR,am⟩:∃c:Int,c=if j.gen<g.gen then-1 else if g.gen<j.gen then 1 else 0:=⟨_,rfl⟩
   obtain⟨bb,ap⟩:∃b:Bool,b=decide (CR<0):=⟨_,rfl⟩;obtain⟨bi,bh⟩:=i_2 am.symm ap.symm;have au:Hid (bb=decide (j.gen<g.gen)):=h_ (by rw[ap,am];split<;>rename_i h<;>simp[h];split<;>simp);have bp:Hid (decide (((J1+1:Nat):Int)>0)=true):=h_ (An (by omega));have ah:Hid (IntKind.i64.wrap (((J1+1:Nat):Int)-1)=(J1:Int)):=h_ (by rw[A9];have:=P.out;have:=Z.out.1;omega);have ag:Hid (IntKind.i64.wrap (J1:Int)=(J1:Int)):=h_ (by rw[A9];have:=P.out;have:=Z.out.1;omega);clear d t R hC ao S f an am ap be;go_upto_region 4 with fail;refine wI (insJ4 wr B ba l₀.length cap J1 A j g R' CR bb) ?aS (.s ?a0<|.s ?a1<|.s ?a2<|.s ?a3<|.s ?a4<|.s ?a5<|.s ?a6<|.s ?a7<|.s ?a8<|.s ?a9<|.s ?a10<|.s ?a11<|.s ?a12<|.s ?a13<|.s ?a14<|.s ?a15<|.s ?a16<|.n) 17 ?aF
   case aS=>intro x;exact⟨az.drew,ax.keep0 (By [] _).drew,ay.keep0 (By [] _).drew,(By _ _).drew,Yr⟩
   case aF=>
    intro l x w3 W Q;obtain⟨f,G,H,d,vS⟩:=W;have af:=f;have av:=h_ d;have aw:=vS.a 16 (Q 16 (by decide)) rfl;simp only[Al,Act.put,A8,A7,A6,aw];clear f d Q aw az G H ax ay vS;generalize w3=w4 at*
    cases bb with
    |true=>
     go_upto_region 6 with fail;refine wI (insJ6 w4 B ba l₀.length cap J1 A j g R') ?bS (.s ?b0<|.s ?b1<|.s ?b2<|.s ?b3<|.s ?b4<|.s ?b5<|.s ?b6<|.s ?b7<|.s ?b8<|.s ?b9<|.s ?b10<|.s ?b11<|.s ?b12<|.s ?b13<|.s ?b14<|.s ?b15<|.s ?b16<|.s ?b17<|.n) 18 ?bF
     case bS=>intro x;exact⟨fun _ _=>af.drew,fun h=>absurd h (by decide),fun _ h=>absurd h (by decide),fun h=>absurd h (by decide),(By _ _).drew,fun h=>absurd h (by decide),fun h=>absurd h (by decide),Yr⟩
     case bF=>
      intro l x w3 W Q;obtain⟨o,J,I,M,d,z,D,vS⟩:=W;have bc:=M (Q 15 (by decide)) (Q 17 (by decide));have bk:=h_ (aa.out.trans (av.out.trans d));simp only[Al,Act.put,A8,A7,A6];clear o J I M d Q af z D vS;generalize w3=w6 at*;have bo:=h_ bc;clear bc;have hn:=Z.out.1;have br:=P.out;go_wp2
      go_roundw
      case rel=>
       refine⟨A,g::C,j,by rw[E.out], ?_, ?_, ?_, ?_, ?_,bk.out⟩
       ·have:=ab.out;simp at this⊢;omega
       ·refine List.Perm.trans ?_ ad.out
        rw[ai.out,List.cons_append];exact List.Perm.append_left _ (List.Perm.swap _ _ _)
       ·have:=ae.out
        rw[Ax]at this;exact this
       ·intro c K
        rcases Ac.1 K with rfl|K
        ·have:=au.out
         exact EV (DE this.symm)
        ·exact ac.out c K
       ·have:=bo.out
        rw[ai.out]at this;exact this
      case measure=>simp only[intOf];omega
     all_goals
      intro l x O W v Y;obtain⟨o,J,I,M,d,z,D,vS⟩:=W;have X:=vS;have V:=Y;simp only[SlV]at X
      try simp[BD,Region.binds]at V
      refine Oq.of (by simp only[Al,Act.put,A8,A7,A6,V,X];rfl) ?_;clear V X;intro K' k
     case b4=>go_simp;exact k.go _ rfl ⟨o,J,I,M,d,z,D,vS.q ((by first|rfl|exact A3 (Value.int .i64) ah.out|exact A3 (Value.int .i64) ag.out))⟩
     case b7=>go_simp;exact k.go _ rfl ⟨o,J,I,M,d,z,D,vS.q ((by first|rfl|exact A3 (Value.int .i64) ah.out|exact A3 (Value.int .i64) ag.out))⟩
     case b8=>go_simp;rw[Ay (by have:=P.out;omega)];exact k.go _ rfl ⟨o,J,I,M,d,z,D,vS.r⟩
     case b9=>
      have ak:l 15=false:=by cases L:l 15 with|false=>rfl|true=>exact absurd (z L).1 (by simp[v])
      have al:l 17=false:=by cases L:l 17 with|false=>rfl|true=>exact absurd (D L).1 (by simp[v])
      have c0:=(KO (o ak al) (F.out.trans (by simp)) E.out).1;go_simp;exact k.go _ rfl ⟨o,J,I,M,d,fun h=>⟨rfl,(z h).2⟩,fun h=>⟨rfl,(D h).2⟩,vS.r⟩
     case b12=>go_simp;rw[Ay (by have:=P.out;omega)];exact k.go _ rfl ⟨o,J,I,M,d,z,D,vS.r⟩
     case b13=>
      have ak:l 15=false:=by cases L:l 15 with|false=>rfl|true=>exact absurd (z L).2 (by simp[v])
      have al:l 17=false:=by cases L:l 17 with|false=>rfl|true=>exact absurd (D L).2 (by simp[v])
      have c0:=(NG (o ak al) (F.out.trans (by simp)) E.out).1;go_simp;exact k.go _ rfl ⟨o,J,I,M,d,fun h=>⟨(z h).1,rfl⟩,fun h=>⟨(D h).1,rfl⟩,vS.r⟩
     case b14=>go_simp;rw[Ay (by have:=P.out;omega)];exact k.go _ rfl ⟨o,J,I,M,d,z,D,vS.r⟩
     case b15=>
      have L9:=h_ (show l 9=true from Y.at rfl);have aj:=h_ (show l 13=true from Y.at rfl);obtain⟨u0,cu,fu⟩:∃u,O.cell? ⟨ba,J1+1,none⟩=some u∧O.frozen? ⟨ba,J1+1,none⟩=false:=by cases L:l 17 with|false=>exact⟨_,NG (o v L) (F.out.trans (by simp)) E.out⟩|true=>exact⟨_,NG (I v L) (F.out.trans (by simp)) E.out⟩
      go_simp;have U:Keep [ba] O _:=((By [ba] O).setCell (p:=⟨ba,J1+1,none⟩) (.inl (by simp)) (pr g.p 0));exact k.go undef rfl ⟨fun h=>Bool.noConfusion (show true=false from h),fun _ h=>Pb (o v h) (F.out.trans (by simp)) E.out g,fun h=>Bool.noConfusion (show true=false from h),fun _ h=>Pb (I v h) (F.out.trans (by simp)) E.out g,d.trans U,fun _=>⟨L9.out,aj.out⟩,D,vS.s rfl⟩
     case b16=>go_simp;rw[Ay (by have:=P.out;omega)];exact k.go _ rfl ⟨o,J,I,M,d,z,D,vS.r⟩
     case b17=>
      have L9:=h_ (show l 9=true from Y.at rfl);have aj:=h_ (show l 13=true from Y.at rfl);obtain⟨u0,cu,fu⟩:∃u,O.cell? ⟨ba,J1,none⟩=some u∧O.frozen? ⟨ba,J1,none⟩=false:=by cases L:l 15 with|false=>exact⟨_,KO (o L v) (F.out.trans (by simp)) E.out⟩|true=>exact⟨_,KO (J L v) (F.out.trans (by simp)) E.out⟩
      go_simp;have U:Keep [ba] O _:=((By [ba] O).setCell (p:=⟨ba,J1,none⟩) (.inl (by simp)) (pr j.p 0));exact k.go undef rfl ⟨fun _ h=>Bool.noConfusion (show true=false from h),fun _ h=>Bool.noConfusion (show true=false from h),fun h _=>Pc (o h v) (F.out.trans (by simp)) E.out j,fun h _=>Pc (J h v) (F.out.trans (by simp)) E.out j,d.trans U,z,fun _=>⟨L9.out,aj.out⟩,vS.s rfl⟩
     all_goals go_simp;exact k.go _ rfl ⟨o,J,I,M,d,z,D,vS.r⟩
    |false=>
     have bn:=h_ af;have hn:=Z.out.1;clear af;go_wp2
     go_roundw
     case rel=>
      refine⟨i+1,A++g::j::R',by go_num,by omega,by omega,ad.out, ?_,bn.out,aa.out.trans (av.out.mono (by simp))⟩;have hS:=ae.out;have hC:=ac.out
      have bd:g.gen≤j.gen:=by have:=au.out;exact EU (of_decide_eq_false this.symm)
      have ht:(A++g::j::R').take (i+1)=A++g::j::C:=by
       rw[ai.out];have aq:(A++g::j::C).length =i+1:=by have:=ab.out;simp at this⊢;omega
       rw[show A++g::j::(C++m.drop (i+1))=(A++g::j::C)++m.drop (i+1) by simp,←aq,DX]
      rw[ht];rw[Ax,List.singleton_append,CD]at hS;obtain⟨hA,ar,S⟩:=hS;rw[CD];refine⟨hA, ?_, ?_⟩
      ·rw[B9]at ar⊢
       refine⟨?_,B9.2 ⟨hC,ar.2⟩⟩;intro c K;rcases Ac.1 K with rfl|K
       ·exact bd
       ·exact ar.1 c K
      ·intro a ha c K
       rcases Ac.1 K with rfl|K
       ·exact S a ha c (by simp)
       ·rcases Ac.1 K with rfl|K
        ·exact AJ (S a ha g (by simp)) bd
        ·exact S a ha c (by simp[K])
     case measure=>simp only[intOf];omega
   all_goals
    intro l x O W v Y;obtain⟨f,G,H,d,vS⟩:=W;have X:=vS;have V:=Y;simp only[SlV]at X
    try simp[BD,Region.binds]at V
    refine Oq.of (by simp only[Al,Act.put,A8,A7,A6,V,X];rfl) ?_;clear V X;intro K' k
   case a2=>go_simp;exact k.go _ rfl ⟨f,G,H,d,vS.q ((by first|rfl|exact A3 Value.bool bp.out))⟩
   case a7=>go_simp;rw[Ay (by have:=P.out;omega)];exact k.go _ rfl ⟨f,G,H,d,vS.r⟩
   case a11=>go_simp;exact k.go _ rfl ⟨f,G,H,d,vS.q ((by first|rfl|exact A3 (Value.int .i64) ah.out|exact A3 (Value.int .i64) ag.out))⟩
   case a12=>go_simp;rw[Ay (by have:=P.out;omega)];exact k.go _ rfl ⟨f,G,H,d,vS.r⟩
   case a13=>have c0:=(KO f F.out E.out).1;go_simp;exact k.go _ rfl ⟨f,G,H,d,vS.r⟩
   case a14=>have bs:=G;have bt:=H;go_simp;refine(XE G.1 H.1 ⟨G.2.2,H.2.2⟩).mono ?_;rintro e w2 ⟨rfl,U⟩;go_simp;exact k.go _ rfl ⟨f.keep U (by simp),G.keep0 U,H.keep0 U,d.trans (U.mono (by simp)),vS.q (A3 (Value.int .i64) bi.out)⟩
   case a15=>go_simp;exact k.go _ rfl ⟨f,G,H,d,vS.q ((by first|rfl|exact A3 Value.bool bh.out))⟩
   all_goals have c0:=(NG f F.out E.out).1;go_simp;exact k.go _ rfl ⟨f,G,H,d,vS.r⟩
 ·obtain rfl:i=l₀.length:=by omega
  have q0:decide ((l₀.length:Int)<(l₀.length:Int))=false:=by simp
  obtain⟨HK,HP,HS,HO⟩:=i_4 d t R f;clear d t R f;go_wp2
  go_end0
  refine⟨rfl,m,HP.out, ?_,HO.out,HK.out⟩;have:=HS.out
  rwa [←HP.out.length_eq,Bt]at this
theorem Uh {w:World}(n:Nat)(b:n≤12):Calls Tryz.prog 290 #[.int .u64 (n:Int)] w fun e a=>(∃k,e=.returned (.int .i64 k))∧a=w:=by
 have h:n=0∨n=1∨n=2∨n=3∨n=4∨n=5∨n=6∨n=7∨n=8∨n=9∨n=10∨n=11∨n=12:=by omega
 rcases h with rfl|rfl|rfl|rfl|rfl|rfl|rfl|rfl|rfl|rfl|rfl|rfl|rfl<;>
 ·go_enter Tryz.func290,Tryz.ntmps290
  go_wp2;go_ret;exact⟨⟨_,rfl⟩,rfl⟩
theorem X3 {w:World}(n:Nat)(a:n≤12):Calls Tryz.prog 262 #[.int .u64 (n:Int)] w fun e b=>(∃k,e=.returned (.int .i64 k))∧b=w:=by have c:=h_ a;clear a;go_enter Tryz.func262,Tryz.ntmps262;go_wp2_with fail;refine(Uh n c.out).mono ?_;rintro e b ⟨⟨k,rfl⟩,rfl⟩;go_wp2;go_ret;exact⟨⟨_,rfl⟩,rfl⟩
def CMP:Value:= .func (.func 270) #[] #[]
theorem RA {w:World}{a:Option Addr}{cap:Nat}:Calls Tryz.prog 317 #[.slice a 0 cap,.int .i64 0,.int .i64 0,CMP] w fun e c=>e=.returned (.tuple #[])∧c=w:=by
 unfold CMP;go_enter Tryz.func317,Tryz.ntmps317;go_wp2
 go_loopw [8] (fun b wr=>b=.int .i64 1∧wr=w) (fun x _=>0)
 case atStart=>exact⟨rfl,rfl⟩
 case round=>
 obtain⟨rfl,rfl⟩:=hrel;go_wp2
 go_end0
 exact⟨rfl,rfl⟩
def So (m l:List Sg):Prop:=m.Perm l∧m.Pairwise UF
theorem X6 {w:World}{B:Nat}{v:Value}{l:List Sg}(b:Own w B 359 v (l.map sgPtr))(i:∀s∈l,Ed w s)(k:l.length≤12):
  Calls Tryz.prog 317 #[v,.int .i64 0,.int .i64 (l.length:Int),CMP] w fun e c=>e=.returned (.tuple #[])∧∃m,So m l∧Own c B 359 v (m.map sgPtr)∧Keep v.ownBlock.toList w c:=by
 cases l with
 |nil=>obtain⟨a,cap,rfl⟩:=b.slice;refine(RA).mono ?_;rintro e c ⟨rfl,rfl⟩;exact⟨rfl,[],⟨Df _,Gp⟩,b,By _ _⟩
 |cons s l=>obtain⟨j,cap,rfl,_⟩:=b.at_ (by simp);rw[AD]at b⊢;refine(RB b i ⟨by omega,by simp⟩).mono ?_;rintro e c ⟨rfl,m,d,f,g,h⟩;exact⟨rfl,m,⟨d,f⟩,g,h⟩
theorem Xn {w:World}{B:Nat}{v:Value}{l:List Sg}(k:Int)(f:Own w B 359 v (l.map sgPtr))(c:∀s∈l,Ed w s)(d:l.length≤12):
  Calls Tryz.prog 296 #[v,.int .i64 0,.int .i64 (l.length:Int),.int .i64 k,CMP] w fun e a=>e=.returned (.tuple #[])∧∃m,So m l∧Own a B 359 v (m.map sgPtr)∧Keep v.ownBlock.toList w a:=by
 obtain⟨i,g,b⟩:=i_3 f c d;have q:decide ((l.length:Int)≤12)=true:=An (by omega);have r:(l.length≤12)=True:=eq_true (by omega);have p:=b.out;clear f c d;go_enter Tryz.func296,Tryz.ntmps296;go_wp2
 go_loopw [1,2,3] (fun j n o wr=>j=.int .i64 0∧n=.int .i64 (l.length:Int)∧o=.int .i64 k∧wr=w) (fun _ _ _ _=>0)
 case atStart=>exact⟨rfl,rfl,rfl,rfl⟩
 case round=>
 obtain⟨rfl,rfl,rfl,rfl⟩:=hrel;go_wp2_with fail;refine(X6 i.out g.out b.out).mono ?_;rintro e a ⟨rfl,h⟩;have H:=h_ h;clear h;go_wp2_with fail;refine Be (v:= .tuple #[]) (Cx (by kernel_rfl) _ _ _) rfl ?_;exact⟨rfl,H.out⟩
theorem Ve {w:World}{B:Nat}{v:Value}{l:List Sg}(c:Own w B 359 v (l.map sgPtr))(f:∀s∈l,Ed w s)(g:l.length≤12):
  Calls Tryz.prog 269 #[v,CMP] w fun e d=>e=.returned (.tuple #[])∧∃m,So m l∧Own d B 359 v (m.map sgPtr)∧Keep v.ownBlock.toList w d:=by
 obtain⟨n,j,b⟩:=i_3 c f g;obtain⟨a,cap,i⟩:=c.slice;rw[AD]at i;subst i;have o:=b.out;clear c f g;go_enter Tryz.func269,Tryz.ntmps269;go_wp2_with fail;refine(X3 l.length b.out).mono ?_;rintro e d ⟨⟨k,rfl⟩,rfl⟩;go_wp2_with fail;refine(Xn k n.out j.out b.out).mono ?_;rintro e p ⟨rfl,h⟩;have H:=h_ h;clear h;go_wp2
 go_end0
 exact⟨rfl,H.out⟩
theorem Own.parts {w:World}{base:Nat}{E:TypeId}{g n cap:Nat}{c:List Value}(h:Own w base E (.slice (some ⟨g,0,none⟩) n cap) c)(k:n=c.length):
  ∃a,Blk w g a E∧a.length=cap∧n≤cap∧cap≤maxLen∧base≤g∧a.take n=c:=by
 subst k;rcases h.2 with⟨b,_⟩|⟨q,p,d,b,e,i,f,j,m,o⟩
 ·cases b
 ·injection b with h1 h2 h3
  injection h1 with h1;injection h1 with h1;subst h1 h3;refine⟨d.toList,i,by simpa using m,f,j,e,by simpa using o⟩
theorem Own.ofBlk {w:World}{base:Nat}{E:TypeId}{g n cap:Nat}{a:List Value}(h:Blk w g a E)(c:a.length=cap)(d:n≤cap)(e:cap≤maxLen)(f:base≤g):Own w base E (.slice (some ⟨g,0,none⟩) n cap) (a.take n):=by
 have b:(a.take n).length =n:=by rw[Az];omega
 refine⟨by simp,.inr ⟨g,cap,a.toArray,by rw[b],f,h,by rw[b];exact d,e,by simpa using c,by rw[b];simp⟩⟩
def NJ:Value:= .pointer none
theorem WT (w:World):(zeroValue 359).run Tryz.prog w=.ok NJ w:=by kernel_rfl
theorem Own.clear {w:World}{base:Nat}{E:TypeId}{g n cap i:Nat}{a:List Value}(h:Own w base E (.slice (some ⟨g,0,none⟩) n cap) a)(p:n=a.length)(m:i≤n):
  Own (w.setCells g i (List.replicate (n-i) NJ)) base E (.slice (some ⟨g,0,none⟩) i cap) (a.take i)∧Keep [g] w (w.setCells g i (List.replicate (n-i) NJ)):=by
 obtain⟨b,j,q,r,c,d,f⟩:=h.parts p;have k:=Blk.setCells (List.replicate (n-i) NJ) i w b j (by rw[G5];omega);refine⟨?_, ?_⟩
 ·have o:(BQ b i (List.replicate (n-i) NJ)).length =cap:=by
   unfold BQ;simp;omega
  have:=Own.ofBlk (base:=base) k o (n:=i) (by omega) c d
  have e:(BQ b i (List.replicate (n-i) NJ)).take i=a.take i:=by unfold BQ;rw[BE (by rw[Az];omega),List.take_take,Nat.min_self,←f,List.take_take,BZ m]
  rw[e]at this;exact this
 ·exact E6 _ _ _ _ (By [g] w) (.inl (by simp))
theorem Kj {α:Type}(p:α→Bool)(l:List α)(j:Nat)(h:j<l.length):(l.take (j+1)).filter p=(l.take j).filter p++(if p l[j]then[l[j]]else[]):=by
 rw[BH,List.filter_append,Ad h]
 cases a:p l[j]<;>simp[a]
theorem Wl {pd:Nat→Bool}{l:List Sg}(h:¬l.findIdx (fun s=>pd s.gen)<l.length):l.filter (fun s=> !pd s.gen)=l:=by
 rw[List.filter_eq_self];intro s b
 have:∀x∈l,pd x.gen=false:=by
  have:=List.findIdx_le_length (xs:=l) (p:=fun s=>pd s.gen);have a:l.findIdx (fun s=>pd s.gen)=l.length:=by omega
  rw[List.findIdx_eq_length]at a;exact a
 simp[this s b]
theorem Ux {pd:Nat→Bool}{l:List Sg}(h:l.findIdx (fun s=>pd s.gen)<l.length):(l.take (l.findIdx (fun s=>pd s.gen)+1)).filter (fun s=> !pd s.gen)=l.take (l.findIdx (fun s=>pd s.gen)):=by have a:pd (l[l.findIdx (fun s=>pd s.gen)]).gen =true:=List.findIdx_getElem (w:=h);rw[Kj _ _ _ h,a];simp only[Bool.not_true,Bool.false_eq_true,D1,AE];rw[List.filter_eq_self];intro s c;obtain⟨j,b,rfl⟩:=Dq c;rw[List.getElem_take];rw[Az]at b;have:=List.not_of_lt_findIdx (xs:=l) (p:=fun s=>pd s.gen) (i:=j) (by omega);simpa using this
section
variable {w:World} {B c1 c2:Nat} {v:Value} {l:List Sg} {pd:Nat→Bool}
theorem Oc (F:Own w B 359 v (l.map sgPtr))(S:∀W,Keep v.ownBlock.toList w W→WH W 275 c1 c2 l pd)(Q:l.length≤1000):
  Calls Tryz.prog 271 #[v,Yl 275 c1 c2] w fun e w'=>∃v',e=.returned v'∧Own w' B 359 v' ((l.filter (fun s=> !pd s.gen)).map sgPtr)∧Keep v.ownBlock.toList w w'∧v'.ownBlock=v.ownBlock:=by
 obtain⟨N,HP,HN⟩:=i_3 F S Q;have ac:= @PG w B c1 c2 v l pd F (fun W k=>S W (k.mono (by simp))) Q;have HI:=h_ ac;obtain⟨a,cap,ad⟩:=F.slice;rw[AD]at ad;subst ad;clear F S Q ac;go_enter Tryz.func271,Tryz.ntmps271;go_wp2_with fail;refine HI.out.mono ?_;rintro e w1 ⟨rfl,k1⟩;have y:=h_ k1;clear k1;by_cases h:l.findIdx (fun s=>pd s.gen)<l.length
 case neg=>have r:=h_ (Wl h);rw[show NV pd l= -1 from Aw h];clear h;go_wp2;go_ret;exact⟨_,rfl,by rw[r.out];exact N.out.keep y.out (by simp),y.out.mono (by simp),rfl⟩
 obtain⟨m,V⟩:∃m,m=l.findIdx (fun s=>pd s.gen):=⟨_,rfl⟩;rw[show NV pd l=(m:Int)from by rw[V];exact Ay h];have r:=h_ (Ux h);rw[←V]at r h
 obtain⟨b,af⟩:∃b,a=some ⟨b,0,none⟩:=by obtain⟨g,ak,he,_⟩:=N.out.at_ (by rw[AD];omega);injection he with A;exact⟨g,A⟩
 subst af;have HL:=h_ h;have q1:((m:Int)==-1)=false:=by simp
 have hn:=HN.out;have ar:=HL.out;clear h V;go_wp2
 go_loopw [5,6] (fun s5 s6 wr=>∃(i j:Nat) (K:List Sg) (c:List Value),s5=.int .i64 (i:Int)∧s6=.int .i64 (j:Int)∧i<j∧j≤l.length∧K.length=i∧(l.take j).filter (fun s=> !pd s.gen)=K∧c.take i=K.map sgPtr∧c.drop j=(l.drop j).map sgPtr∧c.length=l.length∧Own wr B 359 (.slice (some ⟨b,0,none⟩) l.length cap) c∧Keep [b] w wr) (fun _ x _=>l.length+1-(intOf x).toNat)
 case atStart=>refine⟨m,m+1,l.take m,l.map sgPtr,rfl,by go_num,by omega,by omega,by rw[Az];omega,r.out,by rw[List.map_take],by rw[Dw],by simp,N.out.keep y.out (by simp),y.out.mono (by simp)⟩
 case round=>
 obtain⟨i,j,K,c,rfl,rfl,X,aq,P,O,q,D,f,d,C⟩:=hrel;obtain⟨H,aa,J,M,Y,n,HO,I⟩:=i_8 X P O q D f d C;by_cases o:j<l.length
 ·have q0:decide ((j:Int)<(l.length:Int))=true:=An (by omega)
  have c0:wr.cell? ⟨b,j,none⟩=some (pr ((l[j]).p) 0):=by
   rw[(d.cell f.symm j o).1];have:(c.drop j)[0]?=c[j]?:=by rw[Bp,Nat.add_zero]
   rw[←this,D,AN,Bp,Nat.add_zero,Ad o];rfl
  have T:=HP.out wr C l[j] (BS o);unfold sgPtr at T;obtain⟨HS,aj⟩:=i_2 T o;have Z:=h_ (Kj (fun s=> !pd s.gen) l j o);clear T P O q D f d C;unfold Yl;go_wp2_with fail;refine HS.out.mono ?_;rintro e w2 ⟨rfl,k2⟩;have z:=h_ k2;clear k2 c0
  cases E:pd (l[j]).gen with
  |true=>
   have L:=h_ E;clear E X;go_wp2
   go_roundw
   case rel=>
    refine⟨i,j+1,K,c,rfl,by go_num,by have:=H.out;omega,by omega,aa.out, ?_,M.out, ?_,n.out,HO.out.keep z.out (by simp),I.out.trans (z.out.mono (by simp))⟩
    ·rw[Z.out,J.out,Aw (by rw[Bool.not_eq_true'];simp;exact L.out),AE]
    ·rw[←Bu,Y.out,←Dw,Bu]
   case measure=>simp only[intOf];omega
  |false=>
   have L:=h_ E;have R:=HO.out.keep z.out (by simp);have U:=R.cell n.out.symm i (by omega);obtain⟨u0,c0,f0⟩:∃u,w2.cell? ⟨b,i,none⟩=some u∧w2.frozen? ⟨b,i,none⟩=false:=⟨_,U.1.trans (Ad (by rw[n.out];omega)),U.2⟩;have ab:=(R.set n.out.symm i (pr ((l[j]).p) 0)).1;have ae:=h_ ab;have ai:i<l.length:=by omega
   clear E X R U ab;go_wp2
   go_roundw
   case rel=>
    refine⟨i+1,j+1,K++[l[j]],c.set i (sgPtr l[j]),by go_num,by go_num,by have:=H.out;omega,by omega,by simp[aa.out], ?_, ?_, ?_,by rw[Bi];exact n.out,ae.out, ?_⟩
    ·rw[Z.out,J.out,Ay (by simp;exact L.out)]
     rfl
    ·rw[BH,List.take_set_of_le (Av _),M.out,Gm (by rw[n.out];omega)];simp
    ·rw[List.drop_set_of_lt (by have:=H.out;omega),←Bu,Y.out,←Dw,Bu]
    ·exact(I.out.trans (z.out.mono (by simp))).setCell (.inl (by simp)) _
   case measure=>simp only[intOf];omega
 ·obtain rfl:j=l.length:=by omega
  have q0:decide ((l.length:Int)<(l.length:Int))=false:=by simp
  have ai:i<l.length:=by omega
  obtain⟨cs,hb,ah,am,an,al,_⟩:=d.parts f.symm;have ao:¬cap=i:=by omega
  have ap:i≤cap:=by omega
  have ag:∀ty,(Builtin.clear_ #[331] ty #[.slice (some ⟨b,i,none⟩) (l.length-i) (cap-i)]).run Tryz.prog wr=.ok (.tuple #[]) (wr.setCells b i (List.replicate (l.length-i) NJ)):=fun ty=>
   Lib.run_clear_slice wr _ _ ty NJ Fz (WT) rfl rfl b i _ _ (by omega)
    (fun t q=>by rw[(d.cell f.symm (i+t) (by omega)).1,Ad (by omega)];rfl) (fun t q=>(d.cell f.symm (i+t) (by omega)).2)
  have hC:=d.clear f.symm (by omega:i≤l.length);have G:=h_ hC;obtain⟨W,hW⟩:∃W,W=wr.setCells b i (List.replicate (l.length-i) NJ):=⟨_,rfl⟩;rw[←hW]at ag G;clear hW hC hb ah d C q D O P f;go_wp2;go_ret;refine⟨_,rfl, ?_, ?_,rfl⟩
  ·have A:=G.out.1
   rw[M.out,←J.out,Bt]at A;exact A
  ·exact I.out.trans G.out.2
theorem Qd (b:Own w B 359 v (l.map sgPtr))(d:∀W,Keep [] w W→WH W 272 c1 c2 l pd)(c:l.length≤1000)(g:∀s∈l,pd s.gen=false):
  Calls Tryz.prog 271 #[v,Yl 272 c1 c2] w fun e o=>e=.returned v∧Keep [] w o:=by
 have p:=h_ b;have f:= @RC w B c1 c2 v l pd b d c;have k:=h_ f
 have hF:NV pd l= -1:=by refine Aw ?_;rw[List.findIdx_eq_length.2 (fun x n=>by simp[g x n])];omega
 have j:=h_ hF;obtain⟨a,cap,h⟩:=b.slice;rw[AD]at h;subst h;clear b d c f hF g;go_enter Tryz.func271,Tryz.ntmps271;go_wp2_with fail;refine k.out.mono ?_;rintro e q ⟨rfl,i⟩;have m:=h_ i;clear i;rw[j.out];go_wp2;go_ret;exact⟨rfl,m.out⟩
end
def DG (lb:Nat)(vl:Value)(l:List Sg):List Nat:=lb::(vl.ownBlock.toList++sgF l)
structure LogAt (w:World) (B lb d frm segs nx run:Nat) (fr:Bool) (vl:Value) (l:List Sg):Prop where
 blk:Blk w lb (lgC d (frm:Int) (segs:Int) vl (nx:Int) (run:Int) fr) 333
 row:SgRow w B vl l
 nd:(sgF l).Nodup
 new:B≤lb
section
variable {w w':World} {B lb d frm segs nx run:Nat} {fr:Bool} {vl:Value} {l:List Sg}
theorem SgRow.keep {S:List Nat}(h:SgRow w B vl l)(k:Keep S w w')(b:∀q∈vl.ownBlock.toList++sgF l,q∉S):SgRow w' B vl l:=
 ⟨h.own.keep k (fun q a=>b q (A2 _ (Ae.2 a))),fun s c=>(h.ok s c).keep k (fun q a=>b q (AQ _ (Bm.2 ⟨s,c,a⟩)))⟩
theorem LogAt.keep {S:List Nat}(h:LogAt w B lb d frm segs nx run fr vl l)(k:Keep S w w')(a:∀q∈DG lb vl l,q∉S):LogAt w' B lb d frm segs nx run fr vl l:=
 ⟨h.blk.keep k (a lb (by simp[DG])),h.row.keep k (fun q b=>a q (Ap _ b)),h.nd,h.new⟩
theorem LogAt.still (h:LogAt w B lb d frm segs nx run fr vl l)(k:Keep [] w w'):LogAt w' B lb d frm segs nx run fr vl l:=h.keep k (by simp)
theorem LogAt.ty (h:LogAt w B lb d frm segs nx run fr vl l):∀q∈DG lb vl l,Ty w q 333∨Ty w q 359∨Ty w q 358∨Ty w q 353∨Ty w q 5:=by
 intro q a;unfold DG at a;rcases Ac.1 a with rfl|a
 ·exact .inl h.blk.ty
 ·rcases Ag.1 a with a|a
  ·exact .inr (.inl (h.row.own.ty q (Ae.1 a)))
  ·obtain⟨s,b,a⟩:=Bm.1 a
   exact .inr (.inr ((h.row.ok s b).ty q a))
theorem LogAt.lt (h:LogAt w B lb d frm segs nx run fr vl l):∀q∈DG lb vl l,B≤q∧q<w.heap.size:=by
 intro q a;unfold DG at a;rcases Ac.1 a with rfl|a
 ·exact⟨h.new,h.blk.lt⟩
 ·rcases Ag.1 a with a|a
  ·exact h.row.own.lt q (Ae.1 a)
  ·obtain⟨s,b,a⟩:=Bm.1 a
   exact(h.row.ok s b).lt q a
theorem LogAt.apartT {T:TypeId}{b:Nat}(h:LogAt w B lb d frm segs nx run fr vl l)(a:Ty w b T)(c:T∉ [333,359,358,353,5]):b∉DG lb vl l:=by
 intro e;simp only[Ac,Am,AG,not_or]at c;obtain⟨f,g,i,j,k⟩:=c;rcases h.ty b e with t|t|t|t|t
 ·exact a.ne t f rfl
 ·exact a.ne t g rfl
 ·exact a.ne t i rfl
 ·exact a.ne t j rfl
 ·exact a.ne t k rfl
theorem LogAt.apart {L:List Sec}{sb c a:Nat}(h:LogAt w B lb d frm segs nx run fr vl l)(b:IsDev w a sb L c):∀q∈DG lb vl l,q∉ [a,sb]:=by
 intro q f e;simp only[Ac,Am,AG]at e;rcases e with rfl|rfl
 ·exact h.apartT b.dev.ty (by decide) f
 ·exact h.apartT b.secs.ty (by decide) f
theorem LogAt.seg_at (h:LogAt w B lb d frm segs nx run fr vl l)(i:Nat)(s:Sg)(c:l[i]?=some s):∃a cap,vl=.slice (some ⟨a,0,none⟩) l.length cap∧w.cell? ⟨a,i,none⟩=some (pr s.p 0):=by have e:i<l.length:=(Ai.1 c).1;obtain⟨a,cap,b,_⟩:=h.row.own.at_ (by rw[AD];omega);rw[AD]at b;subst b;refine⟨a,cap,rfl, ?_⟩;rw[(h.row.own.cell (by simp) i e).1,AN,c];rfl
theorem LogAt.slice (h:LogAt w B lb d frm segs nx run fr vl l):∃a cap,vl=.slice a l.length cap:=by obtain⟨a,cap,b⟩:=h.row.own.slice;rw[AD]at b;exact⟨a,cap,b⟩
theorem NA:∀(L:List Rc) (i:Nat) (b:i<L.length),(rcCs L)[i*2]?=some (.int .i64 ((L[i]).r.1 :Int))∧(rcCs L)[i*2+1]?=some (L[i]).v
 |y::L,0,_=>by simp[rcCs,rcC]
 |y::L,i+1,b=>by
  have c:=NA L i (by simpa using b);have e:rcCs (y::L)=rcC y++rcCs L:=by simp[rcCs]
  have a:(rcC y).length =2:=rfl;rw[e];refine⟨?_, ?_⟩
  ·rw[AC (by rw[a];omega),a,show(i+1)*2-2=i*2 by omega,c.1];rfl
  ·rw[AC (by rw[a];omega),a,show(i+1)*2+1-2=i*2+1 by omega,c.2];rfl
theorem RRow.at_ {v:Value}{L:List Rc}(h:RRow w B v L)(i:Nat)(a:i<L.length):∃g cap,v=.slice (some ⟨g,0,none⟩) L.length cap∧w.cell? ⟨g,i*2,none⟩=some (.int .i64 ((L[i]).r.1 :Int))∧w.cell? ⟨g,i*2+1,none⟩=some (L[i]).v :=by
 have b:=h.own;rcases h.own.2 with⟨_,f⟩|⟨g,cap,e,c,_⟩
 ·omega
 ·subst c
  refine⟨g,cap,rfl, ?_, ?_⟩
  ·rw[Cg b (i*2) (by omega),(NA L i a).1]
  ·rw[Cg b (i*2+1) (by omega),(NA L i a).2]
theorem Mf {L:List Sec}{sb c:Nat}(h:LogAt w B lb d frm segs nx run fr vl l)(g:IsDev w d sb L c)(f:c<1099511627776):
  Calls Tryz.prog 176 #[pr lb 0] w fun e w'=>e=.returned (.int .i64 0)∧IsDev w' d sb (L.map flushSec) (c+1)∧Keep [d,sb] w w':=by
 have m:=Ug h.blk;have k:=h_ (GV g f);clear h g f;go_enter Tryz.func176,Tryz.ntmps176;go_wp2_with fail;refine k.out.mono ?_;rintro e n ⟨rfl,a,b⟩;obtain⟨i,j⟩:=i_2 a b;clear a b m;go_wp2;go_ret;exact⟨rfl,i.out,j.out⟩
def Ix (l:List Sg)(nx:Nat):Nat:=match l.flatMap Sg.rs with|[]=>nx|r::_=>r.1
theorem UN (h:LogAt w B lb d frm segs nx run fr vl l)(u:l.length≤1000):
  Calls Tryz.prog 218 #[pr lb 0] w fun e w'=>e=.returned (.int .i64 (Ix l nx:Int))∧w'=w:=by
 have c3:=Hk h.blk;obtain⟨a,cap,rfl⟩:=h.slice;obtain⟨H,A⟩:=i_2 h u;clear h u;go_enter Tryz.func218,Tryz.ntmps218;go_wp2_with fail;clear c3
 go_loopw [12] (fun J wr=>∃i:Nat,J=.int .i64 (i:Int)∧i≤l.length∧(l.take i).flatMap Sg.rs=[]∧wr=w) (fun x _=>l.length+1-(intOf x).toNat)
 case atStart=>exact⟨0,rfl,AA _,by simp,rfl⟩
 case round=>
 obtain⟨i,rfl,O,f,rfl⟩:=hrel;by_cases v:i<l.length
 ·have G:decide ((i:Int)<(l.length:Int))=true:=An (by omega)
  obtain⟨s,k⟩:∃s,l[i]?=some s:=⟨_,Ad v⟩;obtain⟨K,M,o,L⟩:=H.out.seg_at i s k;injection o with o;subst o;have j:=H.out.row.ok s (Aq k);have c4:=IL j.blk;obtain⟨R,S,n⟩:=j.recs.slice;rw[n]at c4;obtain⟨E,c,D,C,p⟩:=i_5 j f n v k;have P:=A.out;clear j f n k
  cases b:s.recs with
  |nil=>
   rw[b]at c4;have I:decide ((0:Int)<((([]:List Rc).length :Nat):Int))=false:=by simp
   have m:=h_ b;clear b;rw[show(([]:List Rc).length :Nat)=0 from rfl]at c4;go_wp2
   go_roundw
   case rel=>refine⟨i+1,by go_num,by omega, ?_,by first|exact rfl|trivial⟩;rw[BH,Bg,c.out,p.out];simp[Sg.rs,m.out]
   case measure=>simp only[intOf];omega
  |cons y ys=>
   have m:=h_ b;obtain⟨g,N,t,z,F⟩:=E.out.recs.at_ 0 (by rw[b];simp);rw[D.out]at t;injection t with hg1 hg2 hg3;subst hg1 hg3;rw[Nat.zero_mul]at z;rw[b]at c4;have q:s.recs[0]'(by rw[b];simp)=y:=by simp[b]
   rw[q]at z;clear F;rw[List.length_cons]at c4;have I:decide ((0:Int)<((ys.length+1:Nat):Int))=true:=An (by omega);have Q:(0<ys.length+1)=True:=eq_true (by omega);clear b hg2 q;go_wp2;go_ret;refine⟨?_,rfl⟩
   have:l.flatMap Sg.rs=y.r::(ys.map (·.r)++(l.drop (i+1)).flatMap Sg.rs):=by
    conv=>lhs;rw[←BX i l,Bg,c.out,Cj C.out,(Ai.1 p.out).2]
    simp[Sg.rs,m.out]
   unfold Ix;rw[this];rfl
 ·obtain rfl:i=l.length:=by omega
  have G:decide ((l.length:Int)<(l.length:Int))=false:=by simp
  have c:=h_ f;have c4:=PA H.out.blk;clear f;go_wp2;go_ret;refine⟨?_,rfl⟩;have:=c.out;rw[Bt]at this;unfold Ix;rw[this];rfl
end
theorem SW : ∀ (l : List Sg) (n : Nat), (∀ s ∈ l, s.recs.length ≤ n) → (l.flatMap Sg.rs).length ≤ l.length * n
  | [], n, _ => by simp
  | s :: l, n, h => by
    have h1 := h s (by simp)
    have ih := SW l n (fun x hx => h x (by simp [hx]))
    simp only [BI, Aj, List.length_cons, Sg.rs, AD]

    rw [Dv]
    omega
def allJ (j:World)(n g pos:Nat)(e k:Option Addr)(f m:Nat)(a:List Rc)(body:List Nat)(l:Nat→Bool)(x:Nat→Value)(b:World):Prop:=
 ∃c d h i o,(l 8=false→Blk b g [.int .i64 (pos:Int),.slice k body.length m] 353)∧
 (Buf b 0 5 (.slice k body.length m) body)∧
 (l 8=false→RRow b n (.slice e a.length f) a)∧
 (l 8=true→RRow b n (.slice h (a.length+1) i) (a++[⟨(pos,body),.slice c body.length d⟩]))∧
 (l 8=true→l 2=true∧l 4=true∧l 5=true)∧
 (l 9=true→l 0=true∧l 8=true)∧
 (l 5=true→l 4=true)∧
 (l 9=false→x 9=.slice e a.length f)∧
 (Keep (.slice e a.length f:Value).ownBlock.toList j b)∧
 (l 5=true→x 5=.slice c body.length d∧(l 8=false→Buf b j.heap.size 5 (.slice c body.length d) body)∧∀q,(.slice c body.length d:Value).ownBlock =some q→j.heap.size≤q)∧
 (l 6=true→x 6=.agg #[.int .i64 (pos:Int),.slice c body.length d]∧Hid (l 5=true)∧Hid (l 2=true∧l 4=true))∧
 (l 7=true→x 7=.slice (some ⟨o,0,none⟩) 1 1∧(l 8=false→Blk b o [.int .i64 (pos:Int),.slice c body.length d] 353)∧Hid (l 5=true)∧Hid (l 2=true∧l 4=true))∧
 (l 8=true→x 8=.slice h (a.length+1) i∧Hid (l 0=true))∧
 (l 9=true→x 9=.slice h (a.length+1) i)∧
 SlV l x 0 [some (.slice e a.length f),some (pr g 0),some (.int .i64 (pos:Int)),some (pr g 1),some (.slice k body.length m)]
theorem Mg {w:World}{B lb d frm segs nx run:Nat}{fr:Bool}{vl:Value}{l₀:List Sg}(h:LogAt w B lb d frm segs nx run fr vl l₀)(hl:l₀.length≤1000∧∀s∈l₀,s.recs.length≤1000)(bf:∀s∈l₀,∀r∈s.rs,r.ok):
  Calls Tryz.prog 246 #[pr lb 0] w fun e T=>∃v L,e=.returned v∧RRow T w.heap.size v L∧L.map (·.r)=l₀.flatMap Sg.rs∧Keep [] w T:=by
 obtain⟨iR,b2,b3,b4,b5⟩:=AU YF;have c3:=Hk h.blk;obtain⟨a,cap,rfl⟩:=h.slice;obtain⟨H,HL,bq⟩:=i_3 h hl bf;clear h hl bf;go_enter Tryz.func246,Tryz.ntmps246;go_wp2_with fail;clear c3
 go_loopw [3,15] (fun s3 b6 wr=>∃(i:Nat) (L:List Rc),b6=.int .i64 (i:Int)∧i≤l₀.length∧RRow wr w.heap.size s3 L∧L.map (·.r)=(l₀.take i).flatMap Sg.rs∧Keep [] w wr) (fun _ x _=>l₀.length+1-(intOf x).toNat)
 case atStart=>exact⟨0,[],rfl,AA _,RRow.nil _ _,by simp,By _ _⟩
 case round=>
 obtain⟨i,L,rfl,C,V,he,c⟩:=hrel;by_cases be:i<l₀.length
 ·have q0:decide ((i:Int)<(l₀.length:Int))=true:=An (by omega)
  obtain⟨s,aa⟩:∃s,l₀[i]?=some s:=⟨_,Ad be⟩;have Z:=H.out.still c;obtain⟨ba,ca,hv,c0⟩:=Z.seg_at i s aa;injection hv with hv;subst hv;have X:=Z.row.ok s (Aq aa);have c4:=IL X.blk;obtain⟨ra,rc,an⟩:=X.recs.slice;rw[an]at c4;obtain⟨HS,bu,ay,HE,W,HK⟩:=i_6 X an aa he V c;have hn:=HL.out.1;have cb:=HL.out.2 s (Aq aa);have bt:=h_ (bq.out s (Aq aa));clear X an aa he V c Z;go_wp2
  go_loopw [3,24] (fun s3 b7 bh=>∃(j:Nat) (L:List Rc),b7=.int .i64 (j:Int)∧j≤s.recs.length∧RRow bh w.heap.size s3 L∧L.map (·.r)=(l₀.take i).flatMap Sg.rs++(s.recs.take j).map (·.r)∧Keep [] w bh) (fun _ x _=>s.recs.length+1-(intOf x).toNat)
  case atStart=>exact⟨0,L,rfl,AA _,W.out,by rw[HE.out];simp,HK.out⟩
  case round=>
  obtain⟨j,U,rfl,hj,V,ai,c⟩:=hrel;clear W c0 c4;by_cases aj:j<s.recs.length
  ·have q1:decide ((j:Int)<(s.recs.length:Int))=true:=An (by omega)
   have Z:=H.out.still c;have X:=Z.row.ok s (Aq ay.out);obtain⟨y,hy⟩:∃y,s.recs[j]?=some y:=⟨_,Ad aj⟩;obtain⟨g,gc,hg,k0,k1⟩:=X.recs.at_ j aj;rw[bu.out]at hg;injection hg with hg1 hg2 hg3;subst hg1 hg3;have bg:s.recs[j]'aj=y:=(Ai.1 hy).2;rw[bg]at k0 k1;obtain⟨ya,ab,ap⟩:=((X.recs.ok y (Aq hy)).1).slice;obtain⟨oa,aq,rfl⟩:=V.slice;obtain⟨pos,al⟩:∃p,p=y.r.1:=⟨_,rfl⟩;obtain⟨body,ah⟩:∃b,b=y.r.2:=⟨_,rfl⟩;rw[←al]at k0;rw[ap,←ah]at k1
   have bd:Buf wr 0 5 (.slice ya body.length ab) body:=by have:=((X.recs.ok y (Aq hy)).1).mono (AA _);rw[ap,←ah]at this;exact this
   have ao:y.r=(pos,body):=by rw[al,ah]
   obtain⟨bw,HY,W,ae,af,bv⟩:=i_6 ao hy V ai c bd
   have bi:Hid (body.length≤300):=h_ (by have:=bt.out y.r (AI.2 ⟨y,Aq hy,rfl⟩);have h2:=this.2.1;rw[ao]at h2;exact h2)
   have b8:=h_ aj;clear hg2 ap bg al ah V ai c Z X hy bd ao
   have ax:Hid (U.length≤1001000):=h_ (by
    have h1:U.length=((l₀.take i).flatMap Sg.rs++(s.recs.take j).map (·.r)).length :=by rw[←ae.out,AD]
    have h2:=SW (l₀.take i) 1000 (fun x hx=>HL.out.2 x (AH hx));rw[h1,Aj,AD,Az]
    have h3:(l₀.take i).length *1000≤1000000:=by
     rw[Az];have:=HL.out.1;have:min i l₀.length≤1000:=by omega
     calc min i l₀.length*1000≤1000*1000:=Ch _ this
      _=1000000:=by decide
    omega)
   go_upto_region 10 with fail;have ag:=BY wr [.int .i64 (pos:Int),.slice ya body.length ab] 353;have KA:=(By [] wr).alloc (.cells #[.int .i64 (pos:Int),.slice ya body.length ab] 353);have bs:=h_ W.out.lt;obtain⟨rb,am⟩:∃rb,rb=wr.heap.size:=⟨_,rfl⟩;rw[←am]at ag⊢;simp only[List.toArray]at ag;have b9:=h_ am;generalize hW:wr.alloc (.cells #[.int .i64 (pos:Int),.slice ya body.length ab] 353)=wa at*;have av:Hid (w.heap.size≤wa.heap.size):=h_ (AJ af.out.size KA.size);have bb:=W.out.still KA;have bc:=bv.out.keep KA (by simp);have bk:=h_ KA;clear am hW KA;refine wIo (allJ wa w.heap.size rb pos oa ya aq ab U body) ?aS (.s ?a0<|.s ?a1<|.s ?a2<|.s ?a3<|.s ?a4<|.s ?a5<|.s ?a6<|.s ?a7<|.s ?a8<|.s ?a9<|.n) 10 ?aF
   case aS=>exact⟨none,0,none,0,0,fun _=>ag.drew,bc.keep (By [] _).drew (by simp),fun _=>bb.still (By [] _).drew,fun h=>absurd h (by decide),fun h=>absurd h (by decide),fun h=>absurd h (by decide),fun h=>absurd h (by decide),fun _=>rfl,(By _ _).drew,fun h=>absurd h (by decide),fun h=>absurd h (by decide),fun h=>absurd h (by decide),fun h=>absurd h (by decide),fun h=>absurd h (by decide),Yr⟩
   case a0=>
    intro l x T R C F;obtain⟨t,u,P,Q,J,E,A,z,M,k,D,N,I,c,m,o,f,G,K,vS⟩:=R;have f9:l 9=false:=by cases S:l 9 with|false=>rfl|true=>exact absurd (D S).1 (by simp[C])
    have e9:=I f9;refine Oq.of (b:= ?bA0) ?eA0 ?_
    case eA0=>simp only[Al,Act.put,A8,A7,A6,e9];rfl
    intro K' O;go_simp;exact O.go _ rfl ⟨t,u,P,Q,J,E,A,z,M,k,fun h=>⟨rfl,(D h).2⟩,N,I,c,m,o,f,fun h=>⟨(G h).1,h_ rfl⟩,K,vS.r⟩
   case a6=>
    intro l x T R C F;obtain⟨t,u,P,Q,J,E,A,z,M,k,D,N,I,c,m,o,f,G,K,vS⟩:=R;have e2:=vS.a 2 (F.at rfl) rfl;have e5:=m (F.at rfl);have ac:Hid (l 5=true):=h_ (F.at rfl);have bm:Hid (l 2=true):=h_ (F.at rfl);refine Oq.of (b:= ?bA6) ?eA6 ?_
    case eA6=>simp only[Al,Act.put,A8,A7,A6,e2,e5.1];rfl
    intro K' O;go_simp;exact O.go _ rfl ⟨t,u,P,Q,J,E,A,z,M,k,D,N,I,c,m,fun _=>⟨rfl,ac,h_ ⟨bm.out,N ac.out⟩⟩,f,G,K,vS.s rfl⟩
   case a7=>
    intro l x T R C F;obtain⟨t,u,P,Q,J,E,A,z,M,k,D,N,I,c,m,o,f,G,K,vS⟩:=R;have e6:=o (F.at rfl);refine Oq.of (b:= ?bA7) ?eA7 ?_
    case eA7=>simp only[Al,Act.put,A8,A7,A6,e6.1];rfl
    intro K' O;go_simp;exact O.go _ rfl ⟨t,u,P,Q,T.heap.size,fun h=>(E h).alloc _,A.alloc _,fun h=>(z h).still ((By [] _).alloc _),fun h=>(M h).still ((By [] _).alloc _),k,D,N,I,c.alloc _,fun h=>⟨(m h).1,fun ad=>((m h).2.1 ad).alloc _,(m h).2.2⟩,o,fun _=>⟨rfl,fun _=>BY _ [.int .i64 (pos:Int),.slice t body.length u] _,e6.2.1,e6.2.2⟩,G,K,vS.s rfl⟩
   case a8=>
    intro l x T R C F;obtain⟨t,u,P,Q,J,E,A,z,M,k,D,N,I,c,m,o,f,G,K,vS⟩:=R;have e0:=vS.a 0 (F.at rfl) rfl;have e7:=f (F.at rfl);have bl:Hid (l 0=true):=h_ (F.at rfl);have ac:=e7.2.2.1;have bp:Hid (l 2=true∧l 4=true∧l 5=true):=h_ ⟨e7.2.2.2.out.1,e7.2.2.2.out.2,ac.out⟩;have b0:=(m ac.out).2.1 C;have b1:=e7.2.1 C;refine Oq.of (b:= ?bA8) ?eA8 ?_
    case eA8=>simp only[Al,Act.put,A8,A7,A6,e0,e7.1];rfl
    intro K' O;refine BO _ rfl (.tmp 28) (.tmp 35) 350 350 rfl w.heap.size 353 iR _ 2 32 El b2 b3 b4 b5 rfl (by decide) (.slice oa U.length aq) U.length (rcCs U) rfl (z C).own _ 1 [.int .i64 (pos:Int),.slice t body.length u] rfl (QO T J _ _ b1 El rfl) (by unfold maxLen;have:=ax.out;omega) (by have:=ax.out;omega) (AJ av.out c.size) ?_;intro v2 w2 g2 g3 _ g4;obtain⟨ar,au,rfl⟩:=A4 g2;have Y:Keep (.slice oa U.length aq:Value).ownBlock.toList T w2:=DJ g3;have bx:RRow w2 w.heap.size (.slice ar (U.length+1) au) (U++[⟨(pos,body),.slice t body.length u⟩]):=(z C).snoc ⟨(pos,body),.slice t body.length u⟩ (b0.mono av.out) rfl g2 Y;have bz:=z C;exact O.go (.slice ar (U.length+1) au) rfl ⟨t,u,ar,au,J,fun h=>Bool.noConfusion (show true=false from h),A.keep Y (fun q S=>bz.rty (A.ty' q S) (by decide)),fun h=>Bool.noConfusion (show true=false from h),fun _=>bx,fun _=>bp.out,fun h=>⟨(D h).1,rfl⟩,N,I,c.trans Y,fun h=>⟨(m h).1,fun ad=>Bool.noConfusion (show true=false from ad),(m h).2.2⟩,o,fun h=>⟨(f h).1,fun ad=>Bool.noConfusion (show true=false from ad),(f h).2.2⟩,fun _=>⟨rfl,bl⟩,fun h=>absurd (D h).2 (by simp[C]),vS.s rfl⟩
   case a9=>
    intro l x T R C F;obtain⟨t,u,P,Q,J,E,A,z,M,k,D,N,I,c,m,o,f,G,K,vS⟩:=R;have e8:=G (F.at rfl);have bo:Hid (l 8=true):=h_ (F.at rfl);refine Oq.of (b:= ?bA9) ?eA9 ?_
    case eA9=>simp only[Al,Act.put,A8,A7,A6,e8.1];rfl
    intro K' O;go_simp;exact O.go _ rfl ⟨t,u,P,Q,J,E,A,z,M,k,fun _=>⟨e8.2.out,bo.out⟩,N,fun h=>Bool.noConfusion (show true=false from h),c,m,o,f,G,fun _=>rfl,vS.s rfl⟩
   case aF=>
    intro l x w3 R hl;obtain⟨t,u,P,Q,J,E,A,z,M,k,D,N,I,c,m,o,f,G,K,vS⟩:=R;have az:=M (hl 8 (by decide));have e9:=K (hl 9 (by decide));simp only[Al,Act.put,A8,A7,A6,e9];have br:=h_ az
    have bj:Hid (Keep [] w w3):=h_ ((af.out.trans bk.out).then c (fun q S be=>by exact absurd (bs.out q (A2 _ S)).1 (by omega)))
    clear m o f G K E A z M k D N I c hl az e9 bb bc ag k0 k1 vS;go_wp2
    go_roundw
    case rel=>refine⟨j+1,U++[⟨(pos,body),.slice t body.length u⟩],by go_num,by omega,br.out, ?_,bj.out⟩;rw[AL,ae.out,BH,HY.out,AL,Ax];simp[bw.out]
    case measure=>simp only[intOf];omega

   all_goals
    intro l x T R C F;obtain⟨t,u,P,Q,J,E,A,z,M,k,D,N,I,c,m,o,f,G,K,vS⟩:=R;have hW:=vS;have hD:=F;simp only[SlV]at hW
    try simp[BD,Region.binds]at hD
    refine Oq.of (by simp only[Al,Act.put,A8,A7,A6,hD,hW];rfl) ?_;clear hD hW;intro K' O
   case a2=>
    have f8:l 8=false:=by cases S:l 8 with|false=>rfl|true=>exact absurd (k S).1 (by simp[C])
    have c0:T.cell? ⟨rb,0,none⟩=some (.int .i64 (pos:Int)):=(E f8).cell 0;go_simp;exact O.go _ rfl ⟨t,u,P,Q,J,E,A,z,M,fun h=>⟨rfl,(k h).2.1,(k h).2.2⟩,D,N,I,c,m,fun h=>⟨(o h).1,(o h).2.1,h_ ⟨rfl,(o h).2.2.out.2⟩⟩,fun h=>⟨(f h).1,(f h).2.1,(f h).2.2.1,h_ ⟨rfl,(f h).2.2.2.out.2⟩⟩,G,K,vS.r⟩
   case a4=>
    have f8:l 8=false:=by cases S:l 8 with|false=>rfl|true=>exact absurd (k S).2.1 (by simp[C])
    have c1:T.cell? ⟨rb,1,none⟩=some (.slice ya body.length ab):=(E f8).cell 1;go_simp;exact O.go _ rfl ⟨t,u,P,Q,J,E,A,z,M,fun h=>⟨(k h).1,rfl,(k h).2.2⟩,D,fun _=>rfl,I,c,m,fun h=>⟨(o h).1,(o h).2.1,h_ ⟨(o h).2.2.out.1,rfl⟩⟩,fun h=>⟨(f h).1,(f h).2.1,(f h).2.2.1,h_ ⟨(f h).2.2.2.out.1,rfl⟩⟩,G,K,vS.r⟩
   case a5=>
    have f8:l 8=false:=by cases S:l 8 with|false=>rfl|true=>exact absurd (k S).2.2 (by simp[C])
    have bn:Hid (l 4=true):=h_ (F.at rfl);go_simp;refine(Fg _ body A.rd (by have:=bi.out;omega)).mono ?_;rintro e w2 ⟨v2,rfl,ak,Y⟩;obtain⟨c2,c3,rfl⟩:=ak.slice;have aw:=h_ (ak.mono c.size);clear ak;go_simp;exact O.go (.slice c2 body.length c3) rfl ⟨c2,c3,P,Q,J,fun h=>(E h).keep Y (by simp),A.keep Y (by simp),fun h=>(z h).still Y,fun h=>absurd (f8.symm.trans h) (by decide),fun h=>⟨(k h).1,(k h).2.1,rfl⟩,D,fun _=>bn.out,I,c.trans (Y.mono (by simp)),fun _=>⟨rfl,fun _=>aw.out,fun q S=>(aw.out.lt q S).1⟩,fun h=>absurd (o h).2.1.out (by simp[C]),fun h=>absurd (f h).2.2.1.out (by simp[C]),G,K,vS.s rfl⟩
   all_goals go_simp;exact O.go _ rfl ⟨t,u,P,Q,J,E,A,z,M,k,D,N,I,c,m,o,f,G,K,vS.r⟩
  ·obtain rfl:j=s.recs.length:=by omega
   have q1:decide ((s.recs.length:Int)<(s.recs.length:Int))=false:=by simp
   obtain⟨W,ae,af⟩:=i_3 V ai c;clear V ai c;go_wp2
   go_roundw
   case rel=>refine⟨_,_,_,_,⟨i+1,rfl,by omega,U,W.out, ?_,af.out⟩,rfl,rfl,rfl,by go_num⟩;rw[ae.out,BH,Bg,ay.out,Bt];simp[Sg.rs]
   case measure=>simp only[intOf];omega
 ·obtain rfl:i=l₀.length:=by omega
  have q0:decide ((l₀.length:Int)<(l₀.length:Int))=false:=by simp
  obtain⟨W,HE,HK⟩:=i_3 V he c;clear V he c;go_wp2;go_ret;refine⟨_,L,rfl,W.out, ?_,HK.out⟩;rw[HE.out,Bt]
def Kx (a b:Nat):Int:=if a<b then-1 else if b<a then 1 else 0
theorem OR {w:World}(a b:Nat)(v:Value)(f:a<281474976710656∧b<281474976710656)(l:v.oneCell'=true):
  Calls Tryz.prog 301 #[.agg #[.int .i64 (a:Int),v],.int .i64 (b:Int)] w fun e k=>e=.returned (.int .i64 (Kx a b))∧Keep [] w k:=by
 have g:=BY w [.int .i64 (a:Int),v] 353;have K:=(By [] w).alloc (.cells #[.int .i64 (a:Int),v] 353);have d:=g.cell 0;obtain⟨i,h⟩:=i_2 K f;have m:(w.alloc (.cells #[.int .i64 (a:Int),v] 353)).cell? ⟨w.heap.size,0,none⟩=some (.int .i64 (a:Int)):=d;clear d g K f;have c:wrap64 ((a:Int)-(b:Int))=(a:Int)-(b:Int):=by have:=h.out;unfold wrap64;omega
 have j:=h_ c;clear c;go_enter Tryz.func301,Tryz.ntmps301;go_wp2_with fail
 all_goals
  go_ret;refine⟨?_,i.out⟩;have c:=j.out;refine A3 (fun z=>Ending.returned (Value.int .i64 z)) ?_;unfold Kx
  (repeat' split)<;>omega
def Q9 (L:List Rc):Prop:=L.Pairwise (fun a b=>a.r.1<b.r.1)
def RFN:Value:= .func (.func 301) #[] #[]
theorem Q9.le {L:List Rc}(h:Q9 L){i j:Nat}{a b:Rc}(e:L[i]?=some a)(f:L[j]?=some b)(g:i<j):a.r.1<b.r.1:=by obtain⟨c,rfl⟩:=Ai.1 e;obtain⟨d,rfl⟩:=Ai.1 f;exact DB.1 h i j c d g
theorem Qz {w:World}{B:Nat}{v:Value}{L:List Rc}(h:RRow w B v L)(Z:Q9 L)(V:L.length≤1000)(X:∀y∈L,y.r.1<281474976710656)(pos:Nat)(Y:pos<281474976710656):
  Calls Tryz.prog 300 #[v,.int .i64 (pos:Int),RFN] w fun e w'=>∃(i:Nat) (b:Bool),e=.returned (.tuple #[.int .i64 (i:Int),.bool b])∧(b=true→∃y,L[i]?=some y∧y.r.1=pos)∧(b=false→∀y∈L,y.r.1≠pos)∧Keep [] w w':=by
 obtain⟨a,cap,rfl⟩:=h.slice;obtain⟨H,K,R,S,T⟩:=i_5 h Z V X Y;clear h Z V X Y;unfold RFN;go_enter Tryz.func300,Tryz.ntmps300;go_wp2
 go_loopw [9,10] (fun s9 aa wr=>∃(i j:Nat),s9=.int .i64 (i:Int)∧aa=.int .i64 (j:Int)∧i≤j∧j≤L.length∧(∀k y,L[k]?=some y→k<i→y.r.1<pos)∧(∀k y,L[k]?=some y→j≤k→pos≤y.r.1)∧Keep [] w wr) (fun x y _=>(intOf y).toNat -(intOf x).toNat)
 case atStart=>exact⟨0,L.length,rfl,rfl,AA _,Av _,fun k y _ h=>absurd h (by omega),fun k y f h=>by have:=(Ai.1 f).1;omega,By _ _⟩
 case round=>
 obtain⟨i,j,rfl,rfl,ab,ac,F,E,s⟩:=hrel;obtain⟨J,Q,I⟩:=i_3 F E s;by_cases ad:i<j
 ·have q0:decide ((i:Int)<(j:Int))=true:=An (by omega)
  have W:(i+j)/2<L.length:=by omega
  obtain⟨y,f⟩:∃y,L[(i+j)/2]?=some y:=⟨_,Ad W⟩;have q:=H.out.still s;obtain⟨g,gc,O,A,C⟩:=q.at_ ((i+j)/2) W;injection O with hg1 hg2 hg3;subst hg1 hg3;rw[(Ai.1 f).2]at A C;have p:=(q.ok y (Aq f)).2;have o:=h_ f;have hn:=R.out;have G:=h_ p;have M:=h_ (S.out y (Aq f));clear F E s hg2 q f p;go_wp2_with fail;refine(OR y.r.1 pos y.v ⟨M.out,T.out⟩ G.out).mono ?_;rintro e w2 ⟨rfl,D⟩;have t:=h_ (I.out.trans D);clear D A C;by_cases l:y.r.1<pos
  ·rw[show Kx y.r.1 pos= -1 from Ay l]
   have n:=h_ l;clear l;go_wp2
   go_roundw
   case rel=>
    refine⟨(i+j)/2+1,j,by go_num,rfl,by omega,by omega, ?_,Q.out,t.out⟩;intro k z d m;by_cases N:k=(i+j)/2
    ·subst N
     rw[o.out]at d;injection d with d;subst d;exact n.out
    ·exact Nat.lt_trans (K.out.le d o.out (by omega)) n.out
   case measure=>simp only[intOf];omega
  ·have P:decide (Kx y.r.1 pos<0)=false:=by
    refine Ak ?_;unfold Kx;rw[Aw l]
    split<;>omega
   have n:=h_ l;obtain⟨cv,u⟩:∃c:Int,c=Kx y.r.1 pos:=⟨_,rfl⟩;rw[←u]at P⊢;clear l u;go_wp2
   go_roundw
   case rel=>
    refine⟨i,(i+j)/2,rfl,by go_num,by omega,by omega,J.out, ?_,t.out⟩;intro k z d m;by_cases N:k=(i+j)/2
    ·subst N
     rw[o.out]at d;injection d with d;subst d;exact EU n.out
    ·exact AJ (EU n.out) (EV (K.out.le o.out d (by omega)))
   case measure=>simp only[intOf];omega
 ·obtain rfl:i=j:=by omega
  have q0:decide ((i:Int)<(i:Int))=false:=by simp
  by_cases U:i<L.length
  ·have q1:decide ((i:Int)<(L.length:Int))=true:=An (by omega)
   obtain⟨y,f⟩:∃y,L[i]?=some y:=⟨_,Ad U⟩;have q:=H.out.still s;obtain⟨g,gc,O,A,C⟩:=q.at_ i U;injection O with hg1 hg2 hg3;subst hg1 hg3;rw[(Ai.1 f).2]at A C;have p:=(q.ok y (Aq f)).2;have o:=h_ f;have hn:=R.out;have G:=h_ p;have M:=h_ (S.out y (Aq f));clear F E s hg2 q f p;go_wp2_with fail;refine(OR y.r.1 pos y.v ⟨M.out,T.out⟩ G.out).mono ?_;rintro e w2 ⟨rfl,D⟩;have t:=h_ (I.out.trans D);clear D A C;by_cases l:y.r.1=pos
   ·rw[show Kx y.r.1 pos=0 by unfold Kx;rw[l];simp]
    have n:=h_ l;clear l;go_wp2;go_ret2;exact⟨i,true,rfl,fun _=>⟨y,o.out,n.out⟩,fun h=>absurd h (by decide),t.out⟩
   ·have P:(Kx y.r.1 pos==0)=false:=by
     have:Kx y.r.1 pos≠0:=by unfold Kx;split;omega;split<;>omega
     simpa using this
    have n:=h_ l;obtain⟨cv,u⟩:∃c:Int,c=Kx y.r.1 pos:=⟨_,rfl⟩;rw[←u]at P⊢;clear l u;go_wp2;go_ret2;refine⟨i,false,rfl,fun h=>absurd h (by decide),fun _ z d=> ?_,t.out⟩;obtain⟨k,m⟩:=Bf d;by_cases p:k<i
    ·exact Nat.ne_of_lt (J.out k z m p)
    ·by_cases h2:k=i
     ·subst h2
      rw[o.out]at m;injection m with m;subst m;exact n.out
     ·have h3:=K.out.le o.out m (by omega)
      have h4:=Q.out i y o.out (Av _);omega
  ·have q1:decide ((i:Int)<(L.length:Int))=false:=by simp;omega
   clear F E s;go_wp2;go_ret2;refine⟨i,false,rfl,fun h=>absurd h (by decide),fun _ z d=> ?_,I.out⟩;obtain⟨k,m⟩:=Bf d;have:=(Ai.1 m).1;exact Nat.ne_of_lt (J.out k z m (by omega))
def GotRec (b:World)(l:List Sg)(pos:Nat)(e:Ending)(a:World):Prop:=
 (∃v r,e=.returned (.tuple #[v,.int .i64 0])∧r∈l.flatMap Sg.rs∧r.1=pos∧Buf a b.heap.size 5 v r.2)∨(e=.returned (.tuple #[.slice none 0 0,.int .i64 9])∧∀r∈l.flatMap Sg.rs,r.1≠pos)
theorem UL {w:World}{B W d frm segs nx run:Nat}{fr:Bool}{vl:Value}{l:List Sg}(h:LogAt w B W d frm segs nx run fr vl l)(P:l.length≤1000∧∀s∈l,s.recs.length≤1000)(Q:∀s∈l,∀r∈s.rs,r.ok)(S:∀s∈l,Q9 s.recs)(pos:Nat)(R:pos<281474976710656):
  Calls Tryz.prog 279 #[pr W 0,.int .i64 (pos:Int)] w fun e X=>GotRec w l pos e X∧Keep [] w X:=by
 have c3:=Hk h.blk;obtain⟨a,cap,rfl⟩:=h.slice;obtain⟨H,z,K,HU,HP⟩:=i_5 h P Q S R;clear h P Q S R;go_enter Tryz.func279,Tryz.ntmps279;go_wp2_with fail;clear c3
 go_loopw [17] (fun ah wr=>∃i:Nat,ah=.int .i64 (i:Int)∧i≤l.length∧(∀r∈(l.take i).flatMap Sg.rs,r.1≠pos)∧Keep [] w wr) (fun x _=>l.length+1-(intOf x).toNat)
 case atStart=>exact⟨0,rfl,AA _,by simp,By _ _⟩
 case round=>
 obtain⟨i,rfl,hi,F,n⟩:=hrel;obtain⟨I,J⟩:=i_2 F n;by_cases af:i<l.length
 ·have q0:decide ((i:Int)<(l.length:Int))=true:=An (by omega)
  obtain⟨s,p⟩:∃s,l[i]?=some s:=⟨_,Ad af⟩;have D:=H.out.still n;obtain⟨ba,ai,m,L⟩:=D.seg_at i s p;injection m with m hv2 hv3;subst m hv3;clear hv2;have j:=Aq p;have o:=D.row.ok s j;have c4:=IL o.blk;obtain⟨HS,C⟩:=i_2 o p;have hn:=z.out.1;have G:=h_ (@Qz wr B s.vr s.recs o.recs (HU.out s j) (z.out.2 s j) (fun y c=>(K.out s j y.r (AI.2 ⟨y,c,rfl⟩)).2.2.1) pos HP.out);unfold RFN at G;have ab:=h_ (K.out s j);clear o p D j F n;go_wp2_with fail;refine G.out.mono ?_;rintro e w2 ⟨k,b,rfl,E,hF,t⟩;have u:=h_ (J.out.trans t);have A:=h_ (HS.out.still t)
  cases b with
  |false=>
   have Z:=h_ (hF rfl);clear t E hF L c4;go_wp2
   go_roundw
   case rel=>
    refine⟨i+1,by go_num,by omega, ?_,u.out⟩;intro r f;rw[BH,Bg,C.out]at f;rcases Ag.1 f with f|f
    ·exact I.out r f
    ·simp[Sg.rs]at f
     obtain⟨y,c,rfl⟩:=f;exact Z.out y c
   case measure=>simp only[intOf];omega
  |true=>obtain⟨y,c,T⟩:=E rfl;have ae:=(Ai.1 c).1;have M:=IL A.out.blk;obtain⟨g,gc,O,k0,U⟩:=A.out.recs.at_ k ae;rw[O]at M;rw[(Ai.1 c).2]at U;have q:=Aq c;have N:=(A.out.recs.ok y q).1;have ag:=(ab.out y.r (AI.2 ⟨y,q,rfl⟩)).2.1;have Y:=h_ (Fg y.v y.r.2 N.rd (by omega));obtain⟨ac,ad⟩:=i_2 q T;have aj:=z.out.2 s (Aq C.out);clear t E hF L c4 c T q N ag O k0;go_wp2_with fail;refine Y.out.mono ?_;rintro e w3 ⟨v,rfl,m,V⟩;obtain⟨HV,aa⟩:=i_2 m V;clear m V U M;go_wp2;go_ret2;refine⟨.inl ⟨v,y.r,rfl, ?_,ad.out,HV.out.mono u.out.size⟩,u.out.trans aa.out⟩;exact Bm.2 ⟨s,Aq C.out,AI.2 ⟨y,ac.out,rfl⟩⟩
 ·obtain rfl:i=l.length:=by omega
  have q0:decide ((l.length:Int)<(l.length:Int))=false:=by simp
  clear F n;go_wp2;go_ret2;refine⟨.inr ⟨rfl, ?_⟩,J.out⟩;have:=I.out
  rwa [Bt]at this
end Go.Proofs.YtnhbioehiiifdaaGreat
