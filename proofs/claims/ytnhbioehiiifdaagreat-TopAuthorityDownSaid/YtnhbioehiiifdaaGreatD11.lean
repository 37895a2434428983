import Derived.Test.YtnhbioehiiifdaaGreatD08
import Derived.Test.YtnhbioehiiifdaaGreatD09
import Derived.Lib.SmallJoins
set_option maxRecDepth 100000
set_option maxHeartbeats 16000000
set_option linter.all false
namespace Go.Proofs.YtnhbioehiiifdaaGreat
open Go.ChangeShapes Go.WideShapes Go.ChangeAt Go.RowKit
def appJ15 (p:World)(B a t g bs N n f s:Nat)(u:Int)(e r:Option Addr)(v:Value)(m j body:List Nat)(l:Nat→Bool)(x:Nat→Value)(b:World):Prop:=
 ∃k o h i,(l 11=false→Blk b a (sgC (g:Int) (bs:Int) (u:Int) (.slice e N f) v) 358)∧
 (l 11=true→Blk b a (sgC (g:Int) (bs:Int) (u:Int) (.slice h (N+8+n) i) v) 358)∧
 (l 6=false→Buf b B 5 (.slice e N f) m)∧
 (l 6=true→l 8=false→Buf b B 5 (.slice k (N+8) o) (m++j))∧
 (l 8=true→Buf b B 5 (.slice h (N+8+n) i) (m++j++body))∧
 (Blk b t (Bb j) 360)∧
 (Rd b (.slice r n s) body)∧
 (l 6=true→∀q,(.slice k (N+8) o:Value).ownBlock =some q→(.slice e N f:Value).ownBlock =some q∨p.heap.size≤q)∧
 (l 8=true→∀q,(.slice h (N+8+n) i:Value).ownBlock =some q→(.slice e N f:Value).ownBlock =some q∨p.heap.size≤q)∧
 (l 11=true→l 8=true)∧
 (l 8=true→l 6=true)∧
 (l 6=true→l 4=true)∧
 (Keep (a::(.slice e N f:Value).ownBlock.toList) p b)∧
 (l 8=true→x 8=.slice h (N+8+n) i)∧
 SlV l x 0 [some (pr a 0),some (pr a 0),some (pr a 0),some (pr a 3),some (.slice e N f),some (.slice (some ⟨t,0,none⟩) 8 8),some (.slice k (N+8) o),some (.slice r n s),none,some (pr a 0),some (pr a 3),none]
def appJ24 (o:World)(B b lb g bs n a nx j t:Nat)(u:Int)(i s:Option Addr)(v:Value)(r:List Rc)(body:List Nat)(l:Nat→Bool)(x:Nat→Value)(e:World):Prop:=
 ∃f h k m p,(l 16=false→Blk e b (sgC (g:Int) (bs:Int) (u:Int) v (.slice i a j)) 358)∧
 (l 16=true→Blk e b (sgC (g:Int) (bs:Int) (u:Int) v (.slice k (a+1) m)) 358)∧
 (e.cell? ⟨lb,4,none⟩=some (.int .i64 (nx:Int)))∧
 (Rd e (.slice s n t) body)∧
 (l 13=false→RRow e B (.slice i a j) r)∧
 (l 13=true→RRow e B (.slice k (a+1) m) (r++[⟨(nx,body),.slice f n h⟩]))∧
 (l 13=true→∀q,(.slice k (a+1) m:Value).ownBlock =some q→(.slice i a j:Value).ownBlock =some q∨o.heap.size≤q)∧
 (l 10=true→∀q,(.slice f n h:Value).ownBlock =some q→o.heap.size≤q)∧
 (l 16=true→l 13=true)∧
 (l 13=true→l 4=true∧l 10=true)∧
 (Keep (b::(.slice i a j:Value).ownBlock.toList) o e)∧
 (l 10=true→x 10=.slice f n h∧(l 13=false→Buf e o.heap.size 5 (.slice f n h) body))∧
 (l 11=true→x 11=.agg #[.int .i64 (nx:Int),.slice f n h]∧Hid (l 10=true))∧
 (l 12=true→x 12=.slice (some ⟨p,0,none⟩) 1 1∧(l 13=false→Blk e p [.int .i64 (nx:Int),.slice f n h] 353)∧Hid (l 10=true))∧
 SlV l x 0 [some (pr b 0),some (pr b 0),some (pr b 0),some (pr b 4),some (.slice i a j),some (pr lb 0),some (pr lb 0),some (pr lb 4),some (.int .i64 (nx:Int)),some (.slice s n t),none,none,none,some (.slice k (a+1) m),some (pr b 0),some (pr b 4),none]
def appJ28 (f:World)(lb d sb frm segs nx run e:Nat)(vl:Value)(b:List Sec)(l:Nat→Bool)(x:Nat→Value)(a:World):Prop:=
 (Blk a lb (lgC d (frm:Int) (segs:Int) vl (((nx+1:Nat):Nat):Int) (run:Int) false) 333)∧
 (l 9=false→IsDev a d sb b e)∧
 (l 9=true→IsDev a d sb (b.map flushSec) (e+1))∧
 (Keep [d,sb] f a)∧
 SlV l x 0 [some (pr lb 0),some (pr lb 0),some (pr lb 4),some (.int .i64 (((nx+1:Nat):Nat):Int)),some (.int .i64 (nx:Int)),some (pr lb 0),some (pr lb 0),some (pr lb 0),some (pr d 0),some (.int .i64 0),some (.int .i64 (nx:Int)),some (.int .i64 0)]
section
variable {w:World} {B lb d sb c frm segs nx run:Nat} {fr:Bool} {vl bv:Value} {l₀:List Sg} {L:List Sec} {body:List Nat}
theorem Sh (h:LogAt w B lb d frm segs nx run fr vl l₀)(v:IsDev w d sb L c)(hc:c+20<1099511627776)(J:l₀.length≤199)(hg:∀s∈l₀,0<s.gen∧s.gen+1<281474976710656∧s.base<281474976710656)(gh:nx+1<281474976710656)(gl:run<4294967296)
  (cy:0<segs∧segs≤200) (ga:frm≤100000) (ak:frm+segs*8≤L.length) (gi:∀s∈l₀,∀r∈s.rs,r.ok) (gj:∀s∈l₀,(encRs s.rs).length ≤378∧s.recs.length≤100)
  (P:Rd w bv body) (dr:1≤body.length∧body.length≤300) (f5:∀c∈body,c<256) (f6:∀q,bv.ownBlock=some q→q∉d::sb::DG lb vl l₀):
  Calls Tryz.prog 216 #[pr lb 0,bv] w fun e z=>e=.returned (.tuple #[.int .i64 (nx:Int),.int .i64 0])∧AppOut w z B lb d sb frm segs nx run fr vl l₀ L c body:=by
 obtain⟨_,ba,bb,iw,_⟩:=id P;subst iw;obtain⟨H,HD,HC,HL,de,az,fh,dk,e0⟩:=i_9 h v hc J hg gh gl cy ga;obtain⟨fd,ff,d1,HB,ey,g7,bm⟩:=i_7 ak gi gj P dr f5 f6;obtain⟨a,cap,i3⟩:=h.slice;subst i3;obtain⟨i8,gc,gt,gu,gv⟩:=AU In;obtain⟨iR,iy,i4,i5,i6⟩:=AU YF;have k3:=Hk h.blk;have q1:decide ((body.length:Int)<1)=false:=Ak (by omega);have jp:decide (body.length<1)=false:=Ak (by omega);have q2:decide ((body.length:Int)>300)=false:=Ak (by omega);have jq:decide (300<body.length)=false:=Ak (by omega);have q3:¬body.length<1:=by omega
 have q4:¬300<body.length:=by omega
 have ir:1≤body.length:=dr.1;have f3:body.length≤300:=dr.2;clear h v hc hg gh gl cy ga ak gi gj P dr f5 f6;go_enter Tryz.func216,Tryz.ntmps216;go_upto_region 6 with fail
 obtain⟨nb,gg⟩:∃b:Bool,(b=true↔need l₀ body.length):=by
  by_cases hh:need l₀ body.length
  ·exact⟨true,by simp[hh]⟩
  ·exact⟨false,by simp[hh]⟩
 have ai:=h_ gg;clear gg;go_cut [49] (fun s wc=>s=.bool nb∧w=wc)
 case first=>
  by_cases cx:l₀=[]
  ·have hz:l₀.length=0:=by rw[cx];rfl
   have i0:nb=true:=ai.out.2 (by rw[cx];trivial);subst i0;have q0:((l₀.length:Int)==0)=true:=by rw[hz];rfl
   clear cx hz k3;go_wp2_with fail;go_meet;exact⟨rfl,rfl⟩
  ·have jk:0<l₀.length:=Cs.2 cx
   obtain⟨s,cz⟩:∃s,l₀[l₀.length-1]?=some s:=⟨_,Ad (by omega)⟩;have gb:l₀.getLast?=some s:=by rw[Ci];exact cz
   have eo:need l₀ body.length↔370-(body.length:Int)<((encRs s.rs).length :Int):=by unfold need;rw[gb]
   obtain⟨la,jg,E,c0⟩:=H.out.seg_at _ s cz;injection E with E au hv3;subst E hv3;have ep:=H.out.row.ok s (Aq cz);have c3:=Hv ep.blk;obtain⟨va,bl,av⟩:=ep.buf.slice;rw[av]at c3;have q0:((l₀.length:Int)==0)=false:=by simp;omega
   have jn:(l₀.length==0)=false:=by simp;omega
   have jo:¬l₀.length=0:=by omega
   have f:nb=decide (370-(body.length:Int)<((encRs s.rs).length :Int)):=by
    cases nb with
    |true=>exact(An (eo.1 (ai.out.1 rfl))).symm
    |false=>exact(Ak (fun h=>Bool.noConfusion (ai.out.2 (eo.2 h)))).symm
   have i2:=(d1.out s (Aq cz)).1;have HQ:=h_ f;obtain⟨N,hN⟩:∃N,N=(encRs s.rs).length :=⟨_,rfl⟩;rw[←hN]at c3 i2 HQ;have h0:Hid (decide ((N:Int)>370-(body.length:Int))=nb):=h_ HQ.out.symm;clear au cz gb eo ep av f hN cx;go_wp2_with fail;go_meet;exact⟨A3 Value.bool h0.out,rfl⟩
 case rest=>
 obtain⟨rfl,rfl⟩:=hcut;go_upto_if 49 with fail;go_cut [] (fun wc=>∃gz l1 L1 c1,Ready w wc B lb d sb frm segs nx run fr (.slice a l₀.length cap) gz l₀ l1 L L1 c c1 body.length)
 case first=>
  have g8:=h_ (@R7 w B lb d sb c frm segs nx run fr (.slice a l₀.length cap) l₀ L H.out HD.out (by have:=HC.out;omega) (by have:=HL.out;omega) (fun s hs=>⟨(de.out s hs).1,(de.out s hs).2.1⟩) (by have:=az.out;omega) fh.out dk.out e0.out _ rfl (by have o:=fd.out;have h2:(nextGen l₀-1) % segs<segs:=C1 _ dk.out.1;omega))
  clear k3
  cases nb with
  |true=>have d0:=h_ (ai.out.1 rfl);go_wp2_with fail;refine g8.out.mono ?_;rintro e K ⟨p,jb,rfl,hA,bj,cq,hp,f⟩;obtain⟨HA,dd,bf,HP,HQ⟩:=i_5 hA bj cq hp f;clear hA bj cq hp f;go_wp2_with fail;go_meet;exact⟨jb,_,_,_,HA.out,dd.out,bf.out,HQ.out,.inr ⟨d0.out,rfl,⟨p,rfl,HP.out⟩,rfl⟩⟩
  |false=>have d0:=h_ (fun h=>Bool.noConfusion (ai.out.2 h):¬need l₀ body.length);go_wp2_with fail;go_meet;exact⟨_,l₀,L,c,H.out,HD.out,By _ _,fun q f=> .inl f,.inl ⟨d0.out,rfl,rfl,rfl⟩⟩
 case rest=>
 obtain⟨gz,l1,L1,c1,hR⟩:=hcut;obtain⟨A,s,iz,il,cy,gn,gp,gm⟩:=hR.last ey.out.2 HL.out de.out (by have:=az.out;omega) ff.out d1.out;subst iz;have gd:(A++[s]).length =A.length+1:=by simp
 obtain⟨la,bh,E,c0⟩:=hR.at_.seg_at A.length s (by simp);rw[gd]at E;subst E;have k3:=Hk hR.at_.blk;obtain⟨V,d2,h9,ib,h7⟩:=i_5 hR cy gn gp gm;clear hR cy gn gp gm gd ai ff d1 de;have jh:=il;go_upto_region 10 with fail
 go_quiet (fail)
 have fk:=V.out.at_.keep (Ek (By [] wc) nq) (by simp);have bj:=V.out.dev.keep (Ek (By [] wc) nq) (by simp) (by simp);have cq:=Ek V.out.keep nq;generalize wc.drewN nq=K at*;obtain⟨bf,db,dd⟩:=i_3 cq fk bj;clear fk bj cq c0 k3;go_upto_region 12 with fail;have ej:=BY K (Bb ([]++([0,0]++[0,0,0,0,0,0]))) 360;have KH:=(By [] K).alloc (.cells (Bb ([]++([0,0]++[0,0,0,0,0,0]))).toArray 360);rw[show(#[.int .u8 0,.int .u8 0,.int .u8 0,.int .u8 0,.int .u8 0,.int .u8 0,.int .u8 0,.int .u8 0]:Array Value)=(Bb ([]++([0,0]++[0,0,0,0,0,0]))).toArray from rfl];obtain⟨P,el⟩:∃P,P=K.heap.size:=⟨_,rfl⟩;rw[←el]at ej⊢;have cl:=h_ el;generalize K.alloc (.cells (Bb ([]++([0,0]++[0,0,0,0,0,0]))).toArray 360)=w3 at*;obtain⟨dw,ex⟩:=i_2 KH ej;clear el ej KH;go_wp2_with fail;refine(Jo [] [0,0] [0,0,0,0,0,0] 0 2 8 body.length ex.out rfl rfl (by have:=ey.out.2;omega) (by decide) (by simp)).mono ?_;rintro e w4 ⟨rfl,cs,eu⟩;have ew:=h_ cs;have dt:=h_ ((db.out.still dw.out).keep eu (fun q f=>by have:=(db.out.lt q f).2;have:=cl.out;simp;omega));have e5:Hid (Keep [] K w4):=h_ (dw.out.then eu (by intro x hx ak;simp at hx;have:=cl.out;omega));have G:=PA dt.out.blk;clear cs eu ex dw;go_upto_region 13 with fail;refine BJ 6 (by kernel_rfl) (by kernel_rfl) ?_;simp only[List.take_succ_cons,List.take_zero,BB,Bj]
 repeat still_step
 refine Du ?_;go_wp2_with fail;rw[show IntKind.u64.wrap (nx:Int)=(nx:Int) by rw[Dy];have:=az.out;omega]
 have cs:Blk w4.drew P (Bb (be 2 body.length++([0,0,0,0,0,0]++[]))) 360:=by have:=ew.out.drew;simp only[List.nil_append,AE]at this⊢;exact this
 refine(Jo (be 2 body.length) [0,0,0,0,0,0] [] 2 6 6 nx cs (by simp) rfl (by have:=az.out;omega) (by decide) (by simp)).mono ?_;rintro e w5 ⟨rfl,ei,gx⟩;obtain⟨bp,dn⟩:∃H,H=be 2 body.length++be 6 nx:=⟨_,rfl⟩;rw[AE,←dn]at ei;have di:Hid (bp.length=8):=h_ (by rw[dn];simp);have ho:=h_ dn;have d7:Keep [P] w4 w5:=((By [P] w4).drew).trans gx
 have bd:=h_ (dt.out.keep d7 (fun q f=>by have o:=db.out.lt q f;have h2:=cl.out;simp;omega))
 have bg:Hid (Keep [] K w5):=h_ (e5.out.then d7 (by intro x hx ak;simp at hx;have:=cl.out;omega));have g6:=h_ ei;clear cs dn gx d7 G ei ew dt e5;have ar:=bd.out.row.ok s (by simp);obtain⟨va,bl,av⟩:=ar.buf.slice;have c3:=Hv ar.blk;rw[av]at c3;obtain⟨N,hN⟩:∃N,N=(encRs s.rs).length :=⟨_,rfl⟩;rw[←hN]at c3 av;have cf:=ar.blk;have cb:=ar.buf;rw[av]at cf cb;have dl:=h_ av;have ai:Hid ((encRs s.rs).length =N):=h_ hN.symm;have dz:Hid ((encRs s.rs++bp).length =N+8):=h_ (by rw[Aj,di.out,hN]);have jd:Hid (body.length=body.length):=h_ rfl;have bt:Hid (N+body.length≤370):=h_ (by rw[hN];exact ib.out);have ft:=g6.out
 have f1:Rd w5 (.slice ba body.length bb) body:=by
  have o:=HB.out.keep0 bf.out (fun q f _ g=>bm.out q f (by
   simp only[Ac]at g⊢;rcases g with rfl|rfl|rfl|g
   ·exact .inl rfl
   ·exact .inr (.inl rfl)
   ·exact .inr (.inr (by simp[DG]))
   ·exact .inr (.inr (Ap _ (A2 _ g)))))
  exact o.keep0 bg.out (by simp)
 have bn:Hid (B≤w5.heap.size):=h_ (by have o:=bd.out.lt lb (by simp[DG]);omega);have ek:∀q,(Value.slice ba body.length bb).ownBlock =some q→q<w.heap.size:=fun q f=>HB.out.lo q f (by omega)
 have cj:Hid (∀q,(Value.slice ba body.length bb).ownBlock =some q→q∉(Value.slice va N bl).ownBlock.toList ∧q<w5.heap.size):=h_ (fun q f=>⟨fun g=>by
   have cv:q∈DG lb (.slice (some ⟨la,0,none⟩) (A.length+1) bh) (A++[s]):=by simp only[DG,Ac,Ag];refine .inr (.inr (Bm.2 ⟨s,by simp, ?_⟩));unfold Sg.F;rw[av];exact Ap _ (A2 _ g)
   rcases V.out.foot q cv with o|o
   ·exact bm.out q f (Ap _ (Ap _ o))
   ·have:=ek q f;omega,by have o:=ek q f;have h2:=bf.out.size;have h3:=bg.out.size;omega⟩)
 have du:Hid (∀q,(Value.slice ba body.length bb).ownBlock =some q→q≠s.p):=h_ (fun q f he=>by
   have cv:q∈DG lb (.slice (some ⟨la,0,none⟩) (A.length+1) bh) (A++[s]):=by simp only[DG,Ac,Ag];refine .inr (.inr (Bm.2 ⟨s,by simp, ?_⟩));simp[Sg.F,he]
   rcases V.out.foot q cv with o|o
   ·exact bm.out q f (Ap _ (Ap _ o))
   ·have:=ek q f;omega)
 have ia:Hid (P≠s.p):=h_ (by have o:=(db.out.lt s.p (by simp only[DG,Ac,Ag];exact .inr (.inr (Bm.2 ⟨s,by simp,by simp[Sg.F]⟩)))).2;have h2:=cl.out;omega)
 have im:=bt.out;clear av hN ar;go_upto_region 15 with fail;clear im;refine wI (appJ15 w5 B s.p P s.gen s.base N body.length bl bb s.run va ba s.vr (encRs s.rs) bp body) ?aS (.s ?a0<|.s ?a1<|.s ?a2<|.s ?a3<|.s ?a4<|.s ?a5<|.s ?a6<|.s ?a7<|.s ?a8<|.s ?a9<|.s ?a10<|.s ?a11<|.n) 12 ?aF
 case aS=>intro x;exact⟨none,0,none,0,fun _=>cf.drew,fun h=>absurd h (by decide),fun _=>cb.keep (By [] _).drew (by simp),fun h=>absurd h (by decide),fun h=>absurd h (by decide),ft.drew,f1.keep0 (By [] _).drew (by simp),fun h=>absurd h (by decide),fun h=>absurd h (by decide),fun h=>absurd h (by decide),fun h=>absurd h (by decide),fun h=>absurd h (by decide),(By _ _).drew,fun h=>absurd h (by decide),Yr⟩
 case a11=>
  intro l x z D u v;obtain⟨a1,am,a2,aa,m,I,bz,ca,ac,hH,y,bc,au,ap,d8,d6,i,h8,vS⟩:=D;have e8:=h8 (v.at rfl);have bw:=vS.a 10 (v.at rfl) rfl;have ah:Hid (l 8=true):=h_ (v.at rfl);have c0:=Hv (m u);have f0:=(m u).free 3;refine Oq.of (b:= ?bA11) ?eA11 ?_
  case eA11=>simp only[Al,Act.put,A8,A7,A6,e8,bw];rfl
  intro K' C;go_simp;have j:Keep [s.p] z _:=((By [s.p] z).setCell (p:=⟨s.p,3,none⟩) (.inl (by simp)) (.slice a2 (N+8+body.length) aa));have ef:=(m u).set 3 (.slice a2 (N+8+body.length) aa);have an:=(m u).ty;exact C.go undef rfl ⟨a1,am,a2,aa,fun h=>Bool.noConfusion (show true=false from h),fun _=>ef,fun h=>absurd (h.symm.trans (d8 ah.out)) (by decide),fun _ h=>absurd (h.symm.trans ah.out) (by decide),fun h=>(ac h).keep j (fun q f g=>by simp only[Ah]at g;subst g;exact((ac h).ty' _ f).ne an (by decide) rfl),hH.keep j (by simp;exact ia.out),y.keep0 j (fun q f _ g=>by simp only[Ah]at g;subst g;exact du.out _ f rfl),bc,au,fun _=>ah.out,d8,d6,i.trans (j.mono (by simp)),h8,vS.s rfl⟩
 case aF=>
  intro l x w3 D J;obtain⟨a1,am,a2,aa,m,I,bz,ca,ac,hH,y,bc,au,ap,d8,d6,i,h8,vS⟩:=D;have fy:=I (J 11 (by decide));have ea:=ac (J 8 (by decide));have gq:=au (J 8 (by decide));simp only[Al,Act.put,A8,A7,A6];simp only[AP,Nat.reduceAdd];obtain⟨fi,ic,bq⟩:=i_3 fy gq i;obtain⟨B2,cp⟩:∃X,X=encRs s.rs++bp++body:=⟨_,rfl⟩;rw[←cp]at ea;obtain⟨jc,dc⟩:=i_2 cp ea;have bs:Hid (B2.length=N+8+body.length):=h_ (by rw[cp,Aj,dz.out]);have dj:Hid (B2=encRs (s.rs++[((nx,body):Rcd)])):=h_ (by rw[cp,Hn,ho.out];simp[J5]);have h5:Hid (Rcd.ok (nx,body)):=h_ ⟨ir,f3,by have:=az.out;omega,g7.out⟩
  have g1:Hid (∀c∈B2,c<256):=h_ (by
   rw[dj.out];refine Ho _ (fun r hr=> ?_);rcases Ag.1 hr with hr|hr
   ·exact h9.out r hr
   ·simp only[Ac,Am,AG]at hr
    subst hr;exact h5.out)
  have fm:IsDev w3 d sb L1 c1:=by
   have cu:=dd.out.keep bg.out (by simp) (by simp);refine cu.keep i (fun g=> ?_) (fun g=> ?_)
   ·rcases Ac.1 g with h|h
    ·exact cu.dev.ty.ne cf.ty (by decide) h
    ·exact cu.dev.ty.ne (cb.ty' _ (Ae.1 h)) (by decide) rfl
   ·rcases Ac.1 g with h|h
    ·exact cu.secs.ty.ne cf.ty (by decide) h
    ·exact cu.secs.ty.ne (cb.ty' _ (Ae.1 h)) (by decide) rfl
  have fv:Blk w3 lb (lgC d (frm:Int) (segs:Int) (.slice (some ⟨la,0,none⟩) (A.length+1) bh) (nx:Int) (run:Int) fr) 333:=bd.out.blk.keep i (fun g=>by
   rcases Ac.1 g with h|h
   ·exact bd.out.blk.ty.ne cf.ty (by decide) h
   ·exact bd.out.blk.ty.ne (cb.ty' _ (Ae.1 h)) (by decide) rfl)
  have e9:=h_ fv
  have cm:Hid (L1.length=L.length∧c1≤c+2):=h_ (by
   rcases V.out.how with⟨_,_,rfl,rfl⟩|⟨_,rfl,_,rfl⟩
   ·exact⟨rfl,by omega⟩
   ·refine⟨by simp,by omega⟩)
  clear h8 m I bz ca ac hH y bc au ap d8 d6 J i fy ea gq cp fv cf cb ft f1 c3 vS;generalize w3=w6 at*;have ck:=h_ fm;clear fm;go_wp2
  go_loopw [95] (fun ja wr=>∃(k cc:Nat),ja=.int .i64 (k:Int)∧k≤8∧cc≤c1+k∧IsDev wr d sb (Gu (frm+(s.gen-1) % segs*8) s.gen s.base run B2 N L1 k) cc∧Keep [d,sb] w6 wr) (fun x _=>9-(intOf x).toNat)
  case atStart=>exact⟨0,c1,rfl,by omega,by omega,ck.out,By _ _⟩
  case round=>
  obtain⟨k,cc,rfl,ji,ds,fq,cr⟩:=hrel
  have aq:∀ {b:Nat} {T:TypeId},Ty w6 b T→T≠182→T≠232→b∉ [d,sb]:=by
   intro b T ht o h2 g;simp only[Ac,Am,AG]at g;rcases g with rfl|rfl
   ·exact ht.ne ck.out.dev.ty o rfl
   ·exact ht.ne ck.out.secs.ty h2 rfl
  have eh:=fi.out.keep cr (aq fi.out.ty (by decide) (by decide));have fl:=dc.out.keep cr (fun q f=>aq (dc.out.ty' q f) (by decide) (by decide));have fw:=e9.out.keep cr (aq e9.out.ty (by decide) (by decide));have c3:=Hv eh;obtain⟨bu,hd,cn,al,ao⟩:=i_5 eh fl fw fq cr;have ig:Hid (∀q,(Value.slice a2 (N+8+body.length) aa).ownBlock =some q→q∉ [d,sb]):=h_ (fun q f=>aq (dc.out.ty' q f) (by decide) (by decide));clear eh fl fw fq cr aq;by_cases hk:k<8
  ·have q5:decide ((k:Int)<8)=true:=An (by omega)
   have br:=h_ hk;have jm:st0 (k+1)≤400:=by unfold st0;omega
   have jl:st0 k≤400:=by unfold st0;omega
   have HW:Hid (IntKind.i64.wrap ((k:Int)+1)=(k:Int)+1):=h_ (by rw[A9];omega);have d4:Hid (∀W:World,Calls Tryz.prog 253 #[.int .i64 ((k:Int)+1)] W fun e z=>e=.returned (.int .i64 (st0 (k+1):Int))∧z=W):=h_ (fun W=>(show Calls Tryz.prog 253 #[.int .i64 ((k+1:Nat):Int)] W _ from(I6 (k+1) (by omega) _ rfl).mono (fun e z ⟨a,b⟩=>⟨a,b.symm⟩)));have d3:Hid (∀W:World,Calls Tryz.prog 253 #[.int .i64 (k:Int)] W fun e z=>e=.returned (.int .i64 (st0 k:Int))∧z=W):=h_ (fun W=>(I6 k (by omega) _ rfl).mono (fun e z ⟨a,b⟩=>⟨a,b.symm⟩));by_cases hw:N<st0 (k+1)∧st0 k<B2.length
   ·have q6:decide ((st0 (k+1):Int)>(N:Int))=true:=An (by omega)
    have q7:decide ((st0 k:Int)<((N+8+body.length:Nat):Int))=true:=An (by have:=bs.out;omega);have gy:decide (N<st0 (k+1))=true:=An (by omega);have i9:decide (st0 k<N+8+body.length)=true:=An (by have:=bs.out;omega);have q8:decide ((st0 k:Int)<(N:Int)+8+(body.length:Int))=true:=An (by have:=bs.out;omega);have io:(st0 k:Int)<(N:Int)+8+(body.length:Int):=by have:=bs.out;omega
    have ih:=h_ hw;clear hw;go_upto_region 19 with fail
    go_quiet ((go_at_call 253;first|exact Calls.quiet_of_same (d4.out _)|exact Calls.quiet_of_same (d3.out _)))
    have KQ:=Ek (By [] wr) nq;have ag:=h_ KQ;generalize wr.drewN nq=wq at*;clear KQ c3;go_wp2_with fail
    refine(Lz (al.out.keep ag.out (by simp) (by simp)) (by have:=HC.out;have:=cm.out;omega) frm segs _ (nx:Int) run fr (cn.out.keep ag.out (by simp)) s.gen s.base s.run _ s.vr B2 (bu.out.keep ag.out (by simp)) (hd.out.keep ag.out (by simp)).rd g1.out (by have:=bs.out;have:=bt.out;omega) k br.out ⟨d2.out.2.1,d2.out.2.2,fh.out⟩ d2.out.1 dk.out e0.out (frm+(s.gen-1) % segs*8+k) rfl (by rw[GD];have o:=fd.out;have h2:(s.gen-1) % segs<segs:=C1 _ dk.out.1;have h3:=cm.out.1;have h4:=br.out;omega) (fun q f _=>ig.out q f)).mono ?_
    rintro e w7 ⟨rfl,fn,k7⟩;obtain⟨hj,hq⟩:=i_2 fn k7;clear fn k7;go_wp2
    go_roundw
    case rel=>refine⟨k+1,cc+1,by go_num,by omega,by omega, ?_,ao.out.trans ((ag.out.mono (by simp)).trans hq.out)⟩;show IsDev w7 d sb (if _ then _ else _) _;rw[Ay ih.out];exact hj.out
    case measure=>simp only[intOf];omega
   ·have et:Gu (frm+(s.gen-1) % segs*8) s.gen s.base run B2 N L1 (k+1)=Gu (frm+(s.gen-1) % segs*8) s.gen s.base run B2 N L1 k:=by
     show(if _ then _ else _)=_;rw[Aw hw]
    have fj:=h_ et;have gf:=bs.out;by_cases gs:N<st0 (k+1)
    ·have q6:decide ((st0 (k+1):Int)>(N:Int))=true:=An (by omega)
     have q7:decide ((st0 k:Int)<((N+8+body.length:Nat):Int))=false:=Ak (by omega);have gy:decide (N<st0 (k+1))=true:=An (by omega);have i9:decide (st0 k<N+8+body.length)=false:=Ak (by omega);have q8:decide ((st0 k:Int)<(N:Int)+8+(body.length:Int))=false:=Ak (by omega);have io:¬(st0 k:Int)<(N:Int)+8+(body.length:Int):=by omega
     clear hw gs gf et;go_upto_region 19 with fail
     go_quiet ((go_at_call 253;first|exact Calls.quiet_of_same (d4.out _)|exact Calls.quiet_of_same (d3.out _)))
     have KQ:=Ek (By [] wr) nq;have ag:=h_ KQ;generalize wr.drewN nq=wq at*;clear KQ c3;go_wp2
     go_roundw
     case rel=>refine⟨k+1,cc,by go_num,by omega,by omega, ?_,ao.out.trans (ag.out.mono (by simp))⟩;rw[fj.out];exact al.out.keep ag.out (by simp) (by simp)
     case measure=>simp only[intOf];omega
    ·have q6:decide ((st0 (k+1):Int)>(N:Int))=false:=Ak (by omega)
     have gy:decide (N<st0 (k+1))=false:=Ak (by omega);clear hw gs gf et;go_upto_region 19 with fail
     go_quiet ((go_at_call 253;first|exact Calls.quiet_of_same (d4.out _)|exact Calls.quiet_of_same (d3.out _)))
     have KQ:=Ek (By [] wr) nq;have ag:=h_ KQ;generalize wr.drewN nq=wq at*;clear KQ c3;go_wp2
     go_roundw
     case rel=>refine⟨k+1,cc,by go_num,by omega,by omega, ?_,ao.out.trans (ag.out.mono (by simp))⟩;rw[fj.out];exact al.out.keep ag.out (by simp) (by simp)
     case measure=>simp only[intOf];omega
  ·obtain rfl:k=8:=by omega
   have q5:decide (((8:Nat):Int)<8)=false:=by simp
   have jr:decide ((8:Int)<8)=false:=by simp
   have g9:Hid (body.length≤300):=h_ f3;have je:Hid (body.length=body.length∧True):=h_ ⟨rfl,trivial⟩;have jf:Hid (s.recs.length=s.recs.length∧True):=h_ ⟨rfl,trivial⟩;have fe:Hid (s.recs.length≤100):=h_ h7.out;have hb:=bn;have bn:Hid (B≤wr.heap.size):=h_ (by have o:=hb.out;have h2:=bq.out.size;have h3:=ao.out.size;omega);have fb:Hid (lb≠s.p):=h_ (cn.out.ty.ne bu.out.ty (by decide))
   have aq:∀ {b:Nat} {T:TypeId},Ty w6 b T→T≠182→T≠232→b∉ [d,sb]:=by
    intro b T ht o h2 g;simp only[Ac,Am,AG]at g;rcases g with rfl|rfl
    ·exact ht.ne ck.out.dev.ty o rfl
    ·exact ht.ne ck.out.secs.ty h2 rfl
   have ar:=bd.out.row.ok s (by simp);have cw:=ar.nd;unfold Sg.F at cw;rw[dl.out,List.nodup_cons,BV]at cw
   have ed:RRow w6 B s.vr s.recs:=ar.recs.keep bq.out (fun q f g=>by
    rcases Ac.1 g with h|h
    ·subst h;exact cw.1 (AQ _ f)
    ·exact cw.2.2.2 q h q f rfl)
   have ce:RRow wr B s.vr s.recs:=ed.keep ao.out (fun q f=>by
    rcases ed.ty q f with h|h
    ·exact aq h (by decide) (by decide)
    ·exact aq h (by decide) (by decide))
   have f2:Rd wr (.slice ba body.length bb) body:=by
    have o:=HB.out.keep0 bf.out (fun q f _ g=>bm.out q f (by
     simp only[Ac]at g⊢;rcases g with rfl|rfl|rfl|g
     ·exact .inl rfl
     ·exact .inr (.inl rfl)
     ·exact .inr (.inr (by simp[DG]))
     ·exact .inr (.inr (Ap _ (A2 _ g)))))
    have h2:=o.keep0 bg.out (by simp)
    have h3:=h2.keep0 bq.out (fun q f _ g=>by
     rcases Ac.1 g with h|h
     ·exact du.out q f h
     ·exact(cj.out q f).1 h)
    exact h3.keep0 ao.out (fun q f _ g=>bm.out q f (by
     simp only[Ac,Am,AG]at g⊢;rcases g with rfl|rfl
     ·exact .inl rfl
     ·exact .inr (.inl rfl)))
   clear ed ar cw aq;have G:=PA cn.out;have c4:=IL bu.out;obtain⟨ra,da,ci⟩:=ce.slice;rw[ci]at c4
   have fa:Hid (lb∉(Value.slice ra s.recs.length da).ownBlock.toList):=h_ (by rw[←ci];exact ce.rty cn.out.ty (by decide))
   have ha:Hid (∀q,(Value.slice ba body.length bb).ownBlock =some q→q∉(Value.slice ra s.recs.length da).ownBlock.toList ∧q<wr.heap.size):=h_ (fun q f=>⟨fun g=>by
    have cv:q∈DG lb (.slice (some ⟨la,0,none⟩) (A.length+1) bh) (A++[s]):=by simp only[DG,Ac,Ag];refine .inr (.inr (Bm.2 ⟨s,by simp, ?_⟩));unfold Sg.F Mj;rw[ci];exact Ap _ (AQ _ (A2 _ g))
    rcases V.out.foot q cv with o|o
    ·exact bm.out q f (Ap _ (Ap _ o))
    ·have:=HB.out.lo q f (by omega);omega,by have o:=(cj.out q f).2;have h2:=bq.out.size;have h3:=ao.out.size;omega⟩)
   have eg:=bu.out;rw[ci]at eg ce;have d5:=h_ ci;clear c3 ci;go_upto_region 24 with fail;refine wI (appJ24 wr B s.p lb s.gen s.base body.length s.recs.length nx da bb s.run ra ba (.slice a2 (N+8+body.length) aa) s.recs body) ?bS (.s ?b0<|.s ?b1<|.s ?b2<|.s ?b3<|.s ?b4<|.s ?b5<|.s ?b6<|.s ?b7<|.s ?b8<|.s ?b9<|.s ?b10<|.s ?b11<|.s ?b12<|.s ?b13<|.s ?b14<|.s ?b15<|.s ?b16<|.n) 17 ?bF
   case bS=>intro x;exact⟨none,0,none,0,0,fun _=>eg.drew,fun h=>absurd h (by decide),G,f2.keep0 (By [] _).drew (by simp),fun _=>ce.still (By [] _).drew,fun h=>absurd h (by decide),fun h=>absurd h (by decide),fun h=>absurd h (by decide),fun h=>absurd h (by decide),fun h=>absurd h (by decide),(By _ _).drew,fun h=>absurd h (by decide),fun h=>absurd h (by decide),fun h=>absurd h (by decide),Yr⟩
   case b11=>
    intro l x z D u v;obtain⟨M,O,S,U,af,m,I,G,y,aj,ad,E,ae,Z,Y,i,Q,ab,R,vS⟩:=D;have e8:=vS.a 8 (v.at rfl) rfl;have bw:=Q (v.at rfl);have df:Hid (l 10=true):=h_ (v.at rfl);refine Oq.of (b:= ?bB11) ?eB11 ?_
    case eB11=>simp only[Al,Act.put,A8,A7,A6,e8,bw.1];rfl
    intro K' C;go_simp;exact C.go _ rfl ⟨M,O,S,U,af,m,I,G,y,aj,ad,E,ae,Z,Y,i,Q,fun _=>⟨rfl,df⟩,R,vS.s rfl⟩
   case b12=>
    intro l x z D u v;obtain⟨M,O,S,U,af,m,I,G,y,aj,ad,E,ae,Z,Y,i,Q,ab,R,vS⟩:=D;have co:=ab (v.at rfl);refine Oq.of (b:= ?bB12) ?eB12 ?_
    case eB12=>simp only[Al,Act.put,A8,A7,A6,co.1];rfl
    intro K' C;go_simp;exact C.go _ rfl ⟨M,O,S,U,z.heap.size,fun h=>(m h).alloc _,fun h=>(I h).alloc _,((By [] _).alloc _).cell1 G (by simp),y.keep0 ((By [] _).alloc _) (by simp),fun h=>(aj h).still ((By [] _).alloc _),fun h=>(ad h).still ((By [] _).alloc _),E,ae,Z,Y,i.alloc _,fun h=>⟨(Q h).1,fun ay=>((Q h).2 ay).alloc _⟩,ab,fun _=>⟨rfl,fun _=>BY _ [.int .i64 (nx:Int),.slice M body.length O] _,co.2⟩,vS.s rfl⟩
   case b13=>
    intro l x z D u v;obtain⟨M,O,S,U,af,m,I,G,y,aj,ad,E,ae,Z,Y,i,Q,ab,R,vS⟩:=D;have e4:=vS.a 4 (v.at rfl) rfl;have d9:=R (v.at rfl);have dx:Hid (l 4=true):=h_ (v.at rfl);have df:=d9.2.2;have bx:l 16=false:=by cases f:l 16 with|false=>rfl|true=>exact absurd (Z f) (by simp[u])
    have it:=(Q df.out).2 u;have iv:=d9.2.1 u;have ee:=aj u;have an:=(m bx).ty;refine Oq.of (b:= ?bB13) ?eB13 ?_
    case eB13=>simp only[Al,Act.put,A8,A7,A6,e4,d9.1];rfl
    intro K' C;refine BO _ rfl (.tmp 125) (.tmp 133) 350 350 rfl B 353 iR _ 2 32 El iy i4 i5 i6 rfl (by decide) (.slice ra s.recs.length da) s.recs.length (rcCs s.recs) rfl (rrow_n ee) _ 1 [.int .i64 (nx:Int),.slice M body.length O] rfl (QO z af _ _ iv El rfl) (by unfold maxLen;have:=fe.out;omega) (by have:=fe.out;omega) (AJ bn.out i.size) ?_;intro v2 K g2 g3 _ g4;obtain⟨aw,ax,rfl⟩:=A4 g2;have j:Keep (.slice ra s.recs.length da:Value).ownBlock.toList z K:=DJ g3;have ip:RRow K B (.slice aw (s.recs.length+1) ax) (s.recs++[⟨(nx,body),.slice M body.length O⟩]):=ee.snoc ⟨(nx,body),.slice M body.length O⟩ (it.mono bn.out) rfl g2 j;exact C.go (.slice aw (s.recs.length+1) ax) rfl ⟨M,O,aw,ax,af,fun h=>(m h).keep j (ee.rty an (by decide)),fun h=>absurd (bx.symm.trans h) (by decide),j.cell1 G fa.out,y.keep0 j (fun q f _=>(ha.out q f).1),fun h=>Bool.noConfusion (show true=false from h),fun _=>ip,fun _ q f=>(g4 q f).imp id (fun h=>AJ i.size h),ae,fun _=>rfl,fun _=>⟨dx.out,df.out⟩,i.trans (j.mono (fun q f _=>Ap _ f)),fun h=>⟨(Q h).1,fun ay=>Bool.noConfusion (show true=false from ay)⟩,ab,fun h=>⟨(R h).1,fun ay=>Bool.noConfusion (show true=false from ay),(R h).2.2⟩,vS.r⟩
   case bF=>
    intro l x w3 D J;obtain⟨M,O,S,U,af,m,I,G,y,aj,ad,E,ae,Z,Y,i,Q,ab,R,vS⟩:=D;have fz:=I (J 16 (by decide));have fx:=ad (J 13 (by decide));have gr:=E (J 13 (by decide));have f7:=ae (J 10 (by decide))
    have dp:=cn.out.keep i (fun g=>by
     rcases Ac.1 g with h|h
     ·exact fb.out h
     ·exact fa.out h)
    simp only[Al,Act.put,A8,A7,A6];simp only[AP,Nat.reduceAdd];obtain⟨h6,h1,ie,hf,ah,br,fg⟩:=i_7 fz fx gr f7 dp i ce;have k6:=lg_6 dp;have f4:=dp.free 4;have jj:nx+1<281474976710656:=az.out;clear Q ab R m I y aj ad E ae Z Y J i fz fx gr f7 dp f2 ce eg c4 vS;generalize w3=w8 at*;have en:= @XQ w5 w6 wr w8 B lb d sb frm segs nx run c1 fr (.slice (some ⟨la,0,none⟩) (A.length+1) bh) (.slice a2 (N+8+body.length) aa) (.slice S (s.recs.length+1) U) (.slice M body.length O) A s L1 B2 body nx bd.out (dd.out.keep bg.out (by simp) (by simp)) (by rw[dl.out];exact bq.out) ao.out (by rw[d5.out];exact br.out) ah.out h6.out dc.out dj.out h1.out (by rw[dl.out];exact ic.out) (by rw[d5.out];exact ie.out) hf.out;obtain⟨hv,hn⟩:=i_2 en.1 en.2
    have fo:IsDev w8 d sb (Gu (frm+(s.gen-1) % segs*8) s.gen s.base run B2 N L1 8) cc:=al.out.keep br.out (fun g=>by
     rcases Ac.1 g with h|h
     ·exact al.out.dev.ty.ne bu.out.ty (by decide) h
     ·rcases fg.out.ty d (A2 _ h)with t|t
      ·exact al.out.dev.ty.ne t (by decide) rfl
      ·exact al.out.dev.ty.ne t (by decide) rfl) (fun g=>by
     rcases Ac.1 g with h|h
     ·exact al.out.secs.ty.ne bu.out.ty (by decide) h
     ·rcases fg.out.ty sb (A2 _ h)with t|t
      ·exact al.out.secs.ty.ne t (by decide) rfl
      ·exact al.out.secs.ty.ne t (by decide) rfl)
    have bo:=h_ fo
    have eq:∀q∈s.F,q∈DG lb (.slice a l₀.length cap) l₀∨w.heap.size≤q:=fun q f=>V.out.foot q (by simp only[DG,Ac,Ag];exact .inr (.inr (Bm.2 ⟨s,by simp,f⟩)))
    have fu:Keep (d::sb::DG lb (.slice a l₀.length cap) l₀) w w8:=by
     have e1:Keep (d::sb::DG lb (.slice a l₀.length cap) l₀) w K:=bf.out.mono (fun q f _=>by
      simp only[DG,Ac,Ag]at f⊢;rcases f with h|h|h|h
      ·exact .inl h
      ·exact .inr (.inl h)
      ·exact .inr (.inr (.inl h))
      ·exact .inr (.inr (.inr (.inl h))))
     have e2:=e1.trans (bg.out.mono (by simp))
     have up:∀q∈s.F,q<w.heap.size→q∈d::sb::DG lb (.slice a l₀.length cap) l₀:=fun q f ak=>by
      rcases eq q f with h|h
      ·exact Ap _ (Ap _ h)
      ·omega
     have e3:=e2.then bq.out (fun q f ak=>by
      refine up q ?_ ak;unfold Sg.F;rw[dl.out];rcases Ac.1 f with h|h
      ·exact Ac.2 (.inl h)
      ·exact Ap _ (A2 _ h))
     have e4:=e3.trans (ao.out.mono (fun q f _=>by simp only[Ac,Am,AG]at f;rcases f with rfl|rfl<;>simp))
     exact e4.then br.out (fun q f ak=>by
      refine up q ?_ ak;unfold Sg.F Mj;rw[d5.out];rcases Ac.1 f with h|h
      ·exact Ac.2 (.inl h)
      ·exact Ap _ (AQ _ (A2 _ h)))
    have e7:=h_ fu
    have fs:∀q∈DG lb (.slice (some ⟨la,0,none⟩) (A.length+1) bh) (A++[s.add (.slice a2 (N+8+body.length) aa) (.slice S (s.recs.length+1) U) nx body (.slice M body.length O)]),q∈DG lb (.slice a l₀.length cap) l₀∨w.heap.size≤q:=by
     intro q f;have hz:w.heap.size≤w5.heap.size:=by have o:=bf.out.size;have h2:=bg.out.size;omega
     have ix:=hn.out;simp only[DG,sgF,Bg,BI,Eb,AE,Ac,Ag]at f;rcases f with h|h|h|h
     ·exact V.out.foot q (by simp[DG,h])
     ·exact V.out.foot q (by simp only[DG,Ac,Ag];exact .inr (.inl h))
     ·exact V.out.foot q (by simp only[DG,sgF,Bg,Ac,Ag];exact .inr (.inr (.inl h)))
     ·rcases ix q h with h'|h'
      ·exact eq q h'
      ·exact .inr (by omega)
    have ez:=h_ fs;have i7:w8.cell? ⟨lb,4,none⟩=some (.int .i64 (nx:Int)):=PA ah.out;have bk:=(ah.out.set 4 (.int .i64 ((nx:Int)+1)));have ge:=hv.out.setC (nx':=nx+1) (run':=run) (fr':=fr) 4 (.int .i64 ((nx:Int)+1)) bk;have fc:=h_ ge;have ds:=ds;have dv:=h_ ds;clear en fo fu fs ge ds eq
    cases fr with
    |false=>have gw:=lg_6 bk;clear bk G;go_wp2;go_ret2;refine⟨rfl,wc,_,A,s,L1,c1,_,_,_,cc,V.out,fc.out, ?_,by have:=dv.out;have:=cm.out;omega,e7.out.setCell (.inl (by simp[DG])) _,ez.out⟩;rw[←dj.out,ai.out];exact bo.out.keep ((By [lb] w8).setCell (p:=⟨lb,4,none⟩) (.inl (by simp)) _) (by simp;exact bo.out.dev.ty.ne ah.out.ty (by decide)) (by simp;exact bo.out.secs.ty.ne ah.out.ty (by decide))
    |true=>
     have gw:=lg_6 bk;have ik:=bk.free 6;have iu:=bk.set 6 (.bool false);have dy:=h_ (fc.out.setC (nx':=nx+1) (run':=run) (fr':=false) 6 (.bool false) iu);have cd:=bo.out.keep (((By [lb] w8).setCell (p:=⟨lb,4,none⟩) (.inl (by simp)) (.int .i64 ((nx:Int)+1))).setCell (p:=⟨lb,6,none⟩) (.inl (by simp)) (.bool false)) (by simp;exact bo.out.dev.ty.ne ah.out.ty (by decide)) (by simp;exact bo.out.secs.ty.ne ah.out.ty (by decide));have hu:Hid (Keep (d::sb::DG lb (.slice a l₀.length cap) l₀) w ((w8.setCell ⟨lb,4,none⟩ (.int .i64 ((nx:Int)+1))).setCell ⟨lb,6,none⟩ (.bool false))):=h_ ((e7.out.setCell (.inl (by simp[DG])) _).setCell (.inl (by simp[DG])) _);clear G;go_upto_region 28 with fail;clear gw ik bk f4 i7;generalize(w8.setCell ⟨lb,4,none⟩ (.int .i64 ((nx:Int)+1))).setCell ⟨lb,6,none⟩ (.bool false)=w9 at*;have dq:=dy.out.blk;have hi:Hid (cc<1099511627776):=h_ (by have:=dv.out;have:=cm.out;have:=HC.out;omega);have ii:Hid (IntKind.i64.wrap ((nx:Int)+1-1)=(nx:Int)):=h_ (by rw[A9];have:=az.out;omega);have ij:Hid (IntKind.i64.wrap (nx:Int)=(nx:Int)):=h_ (by rw[A9];have:=az.out;omega)
     have f9:lb∉ [d,sb]:=by simp only[Ac,Am,AG,not_or];exact⟨dq.ty.ne cd.dev.ty (by decide),dq.ty.ne cd.secs.ty (by decide)⟩
     have hm:=h_ f9;obtain⟨LW,ec⟩:∃LW,LW=Gu (frm+(s.gen-1) % segs*8) s.gen s.base run B2 N L1 8:=⟨_,rfl⟩;rw[←ec]at cd;have hy:=h_ ec;clear ec f9;refine wI (appJ28 w9 lb d sb frm segs nx run cc (.slice (some ⟨la,0,none⟩) (A.length+1) bh) LW) ?cS (.s ?c0<|.s ?c1<|.s ?c2<|.s ?c3<|.s ?c4<|.s ?c5<|.s ?c6<|.s ?c7<|.s ?c8<|.s ?c9<|.s ?c10<|.s ?c11<|.n) 12 ?cF
     case cS=>intro x;exact⟨dq.drew,fun _=>cd.keep (By [] _).drew (by simp) (by simp),fun h=>absurd h (by decide),(By _ _).drew,Yr⟩
     case cF=>
      intro l x w3 D J;obtain⟨hL,cg,ch,i,vS⟩:=D;have fp:=ch (J 9 (by decide));have bw:=vS.a 10 (J 10 (by decide)) rfl;have co:=vS.a 11 (J 11 (by decide)) rfl;simp only[Al,Act.put,A8,A7,A6,bw,co];simp only[AP,Nat.reduceAdd];obtain⟨hl,e6⟩:=i_2 fp i;have g0:=h_ (dy.out.apart cd);clear hL cg ch i J fp bw co cd dq vS;generalize w3=wz at*;go_wp2;go_ret2;refine⟨rfl,wc,_,A,s,L1,c1,_,_,_,cc+1,V.out,dy.out.keep e6.out (fun q f g=> ?_), ?_,by have:=dv.out;have:=cm.out;omega,hu.out.trans (e6.out.mono (fun q f _=>by simp only[Ac,Am,AG]at f;rcases f with rfl|rfl<;>simp)),ez.out⟩
      ·exact g0.out q f g
      ·rw[←dj.out,ai.out,←hy.out]
       exact hl.out
     all_goals
      intro l x z D u v;obtain⟨hL,cg,ch,i,vS⟩:=D;have hW:=vS;have hD:=v;simp only[SlV]at hW
      try simp[BD,Region.binds]at hD
      refine Oq.of (by simp only[Al,Act.put,A8,A7,A6,hD,hW];rfl) ?_;clear hD hW;intro K' C
     case c4=>go_simp;exact C.go _ rfl ⟨hL,cg,ch,i,vS.q ((by first|rfl|exact A3 (Value.int .i64) ii.out|exact A3 (Value.int .i64) ij.out))⟩
     case c8=>have c0:=Ug hL;go_simp;exact C.go _ rfl ⟨hL,cg,ch,i,vS.r⟩
     case c9=>go_simp;refine(GV (cg u) hi.out).mono ?_;rintro e K ⟨rfl,bj,j⟩;go_simp;exact C.go _ rfl ⟨hL.keep j hm.out,fun h=>Bool.noConfusion (show true=false from h),fun _=>bj,i.trans j,vS.r⟩
     all_goals have c0:=PA hL;go_simp;exact C.go _ rfl ⟨hL,cg,ch,i,vS.r⟩
   all_goals
    intro l x z D u v;obtain⟨M,O,S,U,af,m,I,G,y,aj,ad,E,ae,Z,Y,i,Q,ab,R,vS⟩:=D;have hW:=vS;have hD:=v;simp only[SlV]at hW
    try simp[BD,Region.binds]at hD
    refine Oq.of (by simp only[Al,Act.put,A8,A7,A6,hD,hW];rfl) ?_;clear hD hW;intro K' C
   case b4=>
    have dm:l 13=false:=by cases f:l 13 with|false=>rfl|true=>exact absurd (Y f).1 (by simp[u])
    have bx:l 16=false:=by cases f:l 16 with|false=>rfl|true=>exact absurd (Z f) (by simp[dm])
    have c0:=IL (m bx);go_simp;exact C.go _ rfl ⟨M,O,S,U,af,m,I,G,y,aj,ad,E,ae,Z,fun h=>⟨rfl,(Y h).2⟩,i,Q,ab,R,vS.r⟩
   case b10=>
    have dm:l 13=false:=by cases f:l 13 with|false=>rfl|true=>exact absurd (Y f).2 (by simp[u])
    have bx:l 16=false:=by cases f:l 16 with|false=>rfl|true=>exact absurd (Z f) (by simp[dm])
    go_simp;refine(Fg _ body y (by have:=g9.out;omega)).mono ?_;rintro e K ⟨v2,rfl,ac,j⟩;obtain⟨p2,p3,i1⟩:=ac.slice;subst i1;have ev:=h_ (ac.mono i.size);have g5:=h_ (fun q f=>(ev.out.lt q f).1);clear ac;go_simp;exact C.go (.slice p2 body.length p3) rfl ⟨p2,p3,S,U,af,fun h=>(m h).keep j (by simp),fun h=>absurd (bx.symm.trans h) (by decide),j.cell1 G (by simp),y.keep0 j (by simp),fun h=>(aj h).still j,fun h=>absurd (dm.symm.trans h) (by decide),E,fun _=>g5.out,Z,fun h=>⟨(Y h).1,rfl⟩,i.trans (j.mono (by simp)),fun _=>⟨rfl,fun _=>ev.out⟩,fun h=>absurd (ab h).2.out (by simp[u]),fun h=>absurd (R h).2.2.out (by simp[u]),vS.s rfl⟩
   case b16=>have dg:Hid (l 13=true):=h_ (v.at rfl);have c0:=IL (m u);have f0:=(m u).free 4;go_simp;have j:Keep [s.p] z _:=((By [s.p] z).setCell (p:=⟨s.p,4,none⟩) (.inl (by simp)) (.slice S (s.recs.length+1) U));have ef:=(m u).set 4 (.slice S (s.recs.length+1) U);have an:=(m u).ty;exact C.go undef rfl ⟨M,O,S,U,af,fun h=>Bool.noConfusion (show true=false from h),fun _=>ef,j.cell1 G (by simp;exact fb.out),y.keep0 j (fun q f _ g=>by simp only[Ah]at g;exact du.out q f g),fun h=>absurd (h.symm.trans dg.out) (by decide),fun h=>(ad h).keep j (fun q f g=>by simp only[Ah]at g;subst g;rcases(ad h).ty _ f with o|o;exact o.ne an (by decide) rfl;exact o.ne an (by decide) rfl),E,ae,fun _=>dg.out,Y,i.trans (j.mono (by simp)),fun h=>⟨(Q h).1,fun ay=>absurd (ay.symm.trans dg.out) (by decide)⟩,ab,fun h=>⟨(R h).1,fun ay=>absurd (ay.symm.trans dg.out) (by decide),(R h).2.2⟩,vS.s rfl⟩
   all_goals have c0:=G;go_simp;exact C.go _ rfl ⟨M,O,S,U,af,m,I,G,y,aj,ad,E,ae,Z,Y,i,Q,ab,R,vS.r⟩
 all_goals
  intro l x z D u v;obtain⟨a1,am,a2,aa,m,I,bz,ca,ac,hH,y,bc,au,ap,d8,d6,i,h8,vS⟩:=D;have hW:=vS;have hD:=v;simp only[SlV]at hW
  try simp[BD,Region.binds]at hD
  refine Oq.of (by simp only[Al,Act.put,A8,A7,A6,hD,hW];rfl) ?_;clear hD hW;intro K' C
 case a4=>
  have bi:l 11=false:=by cases f:l 11 with|false=>rfl|true=>exact absurd (d6 (d8 (ap f))) (by simp[u])
  have c0:=Hv (m bi);go_simp;exact C.go _ rfl ⟨a1,am,a2,aa,m,I,bz,ca,ac,hH,y,bc,au,ap,d8,fun _=>rfl,i,h8,vS.r⟩
 case a6=>
  have dx:Hid (l 4=true):=h_ (v.at rfl);have f8:l 8=false:=by cases f:l 8 with|false=>rfl|true=>exact absurd (d8 f) (by simp[u])
  have bi:l 11=false:=by cases f:l 11 with|false=>rfl|true=>exact absurd (ap f) (by simp[f8])
  have hB:=bz u;have an:=(m bi).ty;have ct:=hB.ty';have iq:=XJ hH di.out;refine BO _ rfl (.tmp 88) (.tmp 89) 81 81 rfl B 5 i8 _ 1 1 Ao gc gt gu gv rfl (by decide) (.slice va N bl) N (Bb (encRs s.rs)) rfl (Yo hB ai.out) _ 8 (Bb bp) rfl (XV (iq.src Ao) di.out) (by unfold maxLen;have:=bt.out;omega) (by have:=bt.out;omega) (AJ bn.out i.size) ?_;intro v2 K g2 g3 _ g4;obtain⟨aw,ax,rfl⟩:=A4 g2;have j:Keep (.slice va N bl:Value).ownBlock.toList z K:=DJ g3;have eb:=Td g2 ai.out di.out;have er:s.p∉(.slice va N bl:Value).ownBlock.toList :=fun g=>(ct s.p (Ae.1 g)).ne an (by decide) rfl
  have em:P∉(.slice va N bl:Value).ownBlock.toList :=fun g=>(ct P (Ae.1 g)).ne hH.ty (by decide) rfl
  exact C.go (.slice aw (N+8) ax) rfl ⟨aw,ax,a2,aa,fun h=>(m h).keep j er,fun h=>absurd (bi.symm.trans h) (by decide),fun h=>Bool.noConfusion (show true=false from h),fun _ _=>eb,fun h=>absurd (f8.symm.trans h) (by decide),hH.keep j em,y.keep0 j (fun q f _=>(cj.out q f).1),fun _ q f=>(g4 q f).imp id (fun h=>AJ i.size h),fun h=>absurd (f8.symm.trans h) (by decide),ap,fun _=>rfl,fun _=>dx.out,i.trans (j.mono (fun q f _=>Ap _ f)),fun h=>absurd (f8.symm.trans h) (by decide),vS.r⟩
 case a8=>
  have dh:Hid (l 6=true):=h_ (v.at rfl);have bi:l 11=false:=by cases f:l 11 with|false=>rfl|true=>exact absurd (ap f) (by simp[u])
  have hB:=ca dh.out u;have an:=(m bi).ty;have ct:=hB.ty';have es:=bc dh.out;refine BO _ rfl (.tmp 90) (.tmp 91) 81 81 rfl B 5 i8 _ 1 1 Ao gc gt gu gv rfl (by decide) (.slice a1 (N+8) am) (N+8) (Bb ((encRs s.rs)++bp)) rfl (Yo hB dz.out) _ body.length (Bb body) rfl (XV (y.src Ao) rfl) (by unfold maxLen;have:=bt.out;omega) (by have:=bt.out;omega) (AJ bn.out i.size) ?_;intro v2 K g2 g3 _ g4;obtain⟨aw,ax,rfl⟩:=A4 g2;have j:Keep (.slice a1 (N+8) am:Value).ownBlock.toList z K:=DJ g3;have eb:=Td g2 dz.out rfl;have er:s.p∉(.slice a1 (N+8) am:Value).ownBlock.toList :=fun g=>(ct s.p (Ae.1 g)).ne an (by decide) rfl
  have em:P∉(.slice a1 (N+8) am:Value).ownBlock.toList :=fun g=>(ct P (Ae.1 g)).ne hH.ty (by decide) rfl
  exact C.go (.slice aw (N+8+body.length) ax) rfl ⟨a1,am,aw,ax,fun h=>(m h).keep j er,fun h=>absurd (bi.symm.trans h) (by decide),fun h=>absurd (h.symm.trans dh.out) (by decide),fun _ h=>Bool.noConfusion (show true=false from h),fun _=>eb,hH.keep j em,y.keep0 j (fun q f _ g=>by rcases es q (Ae.1 g)with h|h;exact(cj.out q f).1 (Ae.2 h);have:=(cj.out q f).2;omega),bc,fun _ q f=>by rcases g4 q f with h|h;exact es q h;exact .inr (AJ i.size h),fun _=>rfl,fun _=>dh.out,d6,i.then2 j (fun q f ak=>by rcases es q (Ae.1 f)with h|h;exact Ap _ (Ae.2 h);exact absurd ak (by omega)),fun _=>rfl,vS.s rfl⟩
 all_goals go_simp;exact C.go _ rfl ⟨a1,am,a2,aa,m,I,bz,ca,ac,hH,y,bc,au,ap,d8,d6,i,h8,vS.r⟩
end
structure PSeg where
 gen:Nat
 base:Nat
 rs:List Rcd
 rn:Nat→Nat
structure PS where
 gen:Nat
 base:Nat
 rs:List Rcd
def Sg.ps (s:Sg):PS:=⟨s.gen,s.base,s.rs⟩
theorem LogAt.reblk {w g:World}{B b d frm segs o p nx' run':Nat}{j fr':Bool}{f:Value}{l:List Sg}(h:LogAt w B b d frm segs o p j f l)(k:Keep [b] w g)(m:Blk g b (lgC d (frm:Int) (segs:Int) f (nx':Int) (run':Int) fr') 333):
  LogAt g B b d frm segs nx' run' fr' f l:=by
 refine⟨m,h.row.keep k (fun q a i=> ?_),h.nd,h.new⟩;simp only[Ah]at i;subst i;have e:=h.blk.ty;rcases Ag.1 a with a|a
 ·exact e.ne (h.row.own.ty _ (Ae.1 a)) (by decide) rfl
 ·obtain⟨s,n,a⟩:=Bm.1 a
  rcases(h.row.ok s n).ty _ a with t|t|t
  ·exact e.ne t (by decide) rfl
  ·exact e.ne t (by decide) rfl
  ·exact e.ne t (by decide) rfl
theorem Ik:∀(l:List Rcd),(∀r∈l,r.ok)→9*l.length≤(encRs l).length
 |[],_=>by simp[encRs]
 |r::l,h=>by
  have f:=Ik l (fun x a=>h x (by simp[a]));have b:=(h r (by simp)).1;have e:encRs (r::l)=J5 r++encRs l:=by simp[encRs]
  rw[e,Aj,Fr,List.length_cons];omega
def nowF (L:List Sec)(i:Nat):List Nat:=(L.getD i zeroSec).now
def genF (L:List Sec)(i:Nat):Nat:=unbe (((nowF L i).drop 4).take 6)
def badF (L:List Sec)(i:Nat):Prop:=crcSum ((nowF L i).drop 4)≠unbe ((nowF L i).take 4)
theorem Fm (L:List Sec)(i:Nat):runOf (L.getD i zeroSec)=unbe (((nowF L i).drop 10).take 4):=rfl
theorem CS (L:List Sec)(i:Nat):nowF (L.map flushSec) i=nowF L i:=by
 unfold nowF;rw[Af,Af,AN]
 cases L[i]?<;>rfl
theorem SH (a:Bool)(L:List Sec)(i:Nat):nowF (fl a L) i=nowF L i:=by
 unfold fl;split
 ·exact CS L i
 ·rfl
theorem fl_len (a:Bool)(L:List Sec):(fl a L).length =L.length:=by unfold fl;split<;>simp
theorem DF (L:List Sec)(j:Nat)(s:Sec)(i:Nat)(a:j<L.length):nowF (L.set j s) i=if i=j then s.now else nowF L i:=by
 unfold nowF;rw[Af,Af,CM];by_cases h:j=i
 ·subst h;simp[a]
 ·rw[Aw h,Aw (fun e=>h e.symm)]
theorem SegDev.congr {L d:List Sec}{a g base:Nat}{f:List Nat}{k:Nat→Nat}(h:SegDev L a g base f k)(j:∀i,i<8→nowF d (a+i)=nowF L (a+i)):SegDev d a g base f k:=by
 refine⟨fun i b c=> ?_,h.run,h.up,fun i b l c=> ?_⟩
 ·have:=h.on i b c
  rw[←this];exact j i b
 ·have:=h.off i b l c
  have e:=j i b;unfold nowF at e;rw[e];exact this
def lastG (S:List PS):Nat:=match S.getLast? with|none=>0|some s=>s.gen
structure DevOk (L:List Sec) (frm segs run:Nat) (S:List PS):Prop where
 seg:∀s∈S,∃rn,SegDev L (frm+(s.gen-1) % segs*8) s.gen s.base (encRs s.rs) rn
 zero:∀k,k<segs→(∀s∈S,(s.gen-1) % segs≠k)→∀i,i<8→nowF L (frm+k*8+i)=List.replicate 64 0
 runs:∀i,frm≤i→i<frm+segs*8→runOf (L.getD i zeroSec)≤run
 old:∀i,frm≤i→i<frm+segs*8→badF L i∨genF L i≤lastG S
structure SOk (segs:Nat) (S:List PS) (nx q:Nat):Prop where
 len:S.length≤segs
 gens:∃g0,1≤g0∧(S.length<segs→g0=1)∧∀i s,S[i]?=some s→s.gen=g0+i
 small:∀s∈S,s.gen≤q∧s.base<140737488355328
 ok:∀s∈S,(∀r∈s.rs,r.ok)∧(encRs s.rs).length ≤378∧s.rs≠[]
 pos:(S.flatMap PS.rs).Pairwise (fun a b=>a.1<b.1)
 below:∀r∈S.flatMap PS.rs,1≤r.1∧r.1<nx
 tight:∀i a b r,S[i]?=some a→S[i+1]?=some b→b.rs.head?=some r→370<(encRs a.rs).length +r.2.length
theorem DevOk.congr {L d:List Sec}{frm segs g:Nat}{S:List PS}(h:DevOk L frm segs g S)(c:∀i,frm≤i→i<frm+segs*8→nowF d i=nowF L i)(m:0<segs):DevOk d frm segs g S:=by
 refine⟨fun s n=> ?_,fun k f j i e=> ?_,fun i a b=> ?_,fun i a b=> ?_⟩
 ·obtain⟨o,l⟩:=h.seg s n
  have f:(s.gen-1) % segs<segs:=C1 _ m;exact⟨o,l.congr (fun i e=>c _ (by omega) (by omega))⟩
 ·rw[c _ (by omega) (by omega)];exact h.zero k f j i e
 ·rw[Fm,c i a b,←Fm];exact h.runs i a b
 ·have:=h.old i a b
  unfold badF genF at this⊢;rw[c i a b];exact this
theorem DevOk.flush {L:List Sec}{frm segs a:Nat}{S:List PS}(h:DevOk L frm segs a S)(b:0<segs):DevOk (L.map flushSec) frm segs a S:=h.congr (fun i _ _=>CS L i) b
theorem NP {a b m:Nat}(e:a<b)(f:b<a+m):a % m≠b % m:=by
 intro h;have c:(b-a) % m=0:=Nat.sub_mod_eq_zero_of_mod_eq h.symm;have d:b-a<m:=by omega
 rw[AR d]at c;omega
theorem US (L:List Sec)(i:Nat)(h:nowF L i=List.replicate 64 0):badF L i:=by unfold badF;rw[h,show(List.replicate 64 0).drop 4=List.replicate 60 0 by decide,show unbe ((List.replicate 64 0).take 4)=0 by decide];exact Ox
section
variable {segs nx q:Nat} {S:List PS}
theorem SOk.last (h:SOk segs S nx q){s:PS}(d:s∈S):s.gen≤lastG S:=by obtain⟨e,f,_,a⟩:=h.gens;obtain⟨i,b⟩:=Bf d;have g:=(Ai.1 b).1;unfold lastG;rw[Ci];obtain⟨t,c⟩:∃t,S[S.length-1]?=some t:=⟨_,Ad (by omega)⟩;rw[c];show s.gen≤t.gen;rw[a i s b,a _ t c];omega
theorem SOk.near (h:SOk segs S nx q){s:PS}(d:s∈S):lastG S<s.gen+segs∧1≤s.gen:=by obtain⟨e,f,_,a⟩:=h.gens;obtain⟨i,b⟩:=Bf d;have g:=(Ai.1 b).1;have j:=h.len;unfold lastG;rw[Ci];obtain⟨t,c⟩:∃t,S[S.length-1]?=some t:=⟨_,Ad (by omega)⟩;rw[c];show t.gen<s.gen+segs∧1≤s.gen;rw[a i s b,a _ t c];omega
def Fx (segs:Nat)(S:List PS)(nx:Nat):List PS:=S.filter (fun s=> !decide ((s.gen:Int)≤((lastG S+1:Nat):Int)-(segs:Int)))++[⟨lastG S+1,nx,[]⟩]
theorem DevOk.begin {L:List Sec}{frm d:Nat}(h:DevOk L frm segs d S)(l:SOk segs S nx q)(E:0<segs)(M:frm+segs*8≤L.length)(P:d<4294967200)(O:q+1<281474976710656)(x:List Nat)(b:Bool):
  DevOk ((L.set (frm+lastG S % segs*8) ⟨sgImg (lastG S+1) nx d 0 [],x,b⟩).map flushSec) frm segs d (Fx segs S nx):=by
 have J:lastG S % segs<segs:=C1 _ E
 have G:lastG S≤q:=by
  unfold lastG
  cases w:S.getLast? with
  |none=>exact AA _
  |some s=>exact(l.small s (GT w)).1
 have j:∀i,nowF ((L.set (frm+lastG S % segs*8) ⟨sgImg (lastG S+1) nx d 0 [],x,b⟩).map flushSec) i=if i=frm+lastG S % segs*8 then sgImg (lastG S+1) nx d 0 []else nowF L i:=by intro i;rw[CS,DF _ _ _ _ (by omega)]
 have v:(Fx segs S nx).getLast? =some ⟨lastG S+1,nx,[]⟩:=by unfold Fx;simp
 have A:lastG (Fx segs S nx)=lastG S+1:=by show(match(Fx segs S nx).getLast? with|none=>0|some s=>s.gen)=_;rw[v]
 have t:=I7 (lastG S+1) nx d 0 [] (by decide) (by simp) ⟨by omega,by omega⟩;refine⟨?_, ?_, ?_, ?_⟩
 ·intro s a
  unfold Fx at a;rcases Ag.1 a with a|a
  ·obtain⟨p,D⟩:=List.mem_filter.1 a
   have B:=l.near p;have K:=l.last p;have I:lastG S+1<s.gen+segs:=by simp at D;omega
   have N:(s.gen-1) % segs≠lastG S % segs:=NP (by omega) (by omega);obtain⟨F,C⟩:=h.seg s p;refine⟨F,C.congr (fun i m=> ?_)⟩;rw[j,Aw (by omega)]
  ·simp only[Ac,Am,AG]at a
   subst a;refine⟨fun _=>d,⟨?_,fun _ _=>by omega,fun _ _ _ _ _=>Av _, ?_⟩⟩
   ·intro i m f
    have:i=0:=by
     rcases f with f|f
     ·exact f
     ·simp[encRs]at f
    subst this;show nowF _ _=_;rw[j,show(lastG S+1-1)=lastG S by omega,Nat.add_zero,Ay rfl];simp[encRs]
   ·intro i m f _
    show badF _ _∨genF _ _≠_;have e:lastG S+1-1=lastG S:=by omega
    have c:=h.old (frm+lastG S % segs*8+i) (by omega) (by omega);simp only[e];unfold badF genF at c⊢;rw[j,Aw (by omega)];rcases c with c|c
    ·exact .inl c
    ·exact .inr (by omega)
 ·intro k y u i m
  have z:lastG S % segs≠k:=by have:=u ⟨lastG S+1,nx,[]⟩ (by unfold Fx;simp);simpa using this
  rw[j,Aw (by omega)];refine h.zero k y (fun s a=> ?_) i m;by_cases H:(s.gen:Int)≤((lastG S+1:Nat):Int)-(segs:Int)
  ·have B:=l.near a
   have e:s.gen-1+segs=lastG S:=by omega
   rw[←Nat.add_mod_right,e];exact z
  ·exact u s (by unfold Fx;exact A2 _ (List.mem_filter.2 ⟨a,by simp;omega⟩))
 ·intro i c n
  rw[Fm,j]
  split
  ·have:=t.r
   rw[←this];exact Av _
  ·rw[←Fm];exact h.runs i c n
 ·intro i c n
  rw[A];unfold badF genF;rw[j]
  split
  ·right
   have:=t.g;rw[←this];exact Av _
  ·rcases h.old i c n with o|o
   ·exact .inl o
   ·exact .inr (Nat.le_succ_of_le o)
end
theorem JB (a g base h:Nat)(c:List Nat)(e:Nat)(L:List Sec)(n:a+8≤L.length):∀k,k≤8→∀i,nowF (Gu a g base h c e L k) i=if a≤i∧i<a+k∧e<st0 (i-a+1)∧st0 (i-a)<c.length then sgImg g base h (i-a) c else nowF L i
 |0,_,i=>by rw[Aw (by omega)];rfl
 |k+1,hk,i=>by
  have l:=JB a g base h c e L n k (by omega) i;show nowF (if e<st0 (k+1)∧st0 k<c.length then _ else _) i=_;by_cases f:e<st0 (k+1)∧st0 k<c.length
  ·rw[Ay f,DF _ _ _ _ (by rw[GD];omega)]
   by_cases j:i=a+k
   ·subst j
    rw[Ay rfl,Ay (by rw[show a+k-a=k by omega];exact⟨by omega,by omega,f⟩),show a+k-a=k by omega]
   ·rw[Aw j,l]
    by_cases b:a≤i∧i<a+k∧e<st0 (i-a+1)∧st0 (i-a)<c.length
    ·rw[Ay b,Ay ⟨b.1,by omega,b.2.2⟩]
    ·rw[Aw b,Aw (fun d=>b ⟨d.1,by omega,d.2.2⟩)]
  ·rw[Aw f,l]
   by_cases b:a≤i∧i<a+k∧e<st0 (i-a+1)∧st0 (i-a)<c.length
   ·rw[Ay b,Ay ⟨b.1,by omega,b.2.2⟩]
   ·rw[Aw b,Aw (fun d=>by
     by_cases m:i=a+k
     ·subst m
      rw[show a+k-a=k by omega]at d;exact f d.2.2
     ·exact b ⟨d.1,by omega,d.2.2⟩)]
theorem OD {a b:List Nat}{i:Nat}(h:BK a i=BK b i)(c base d:Nat):sgImg c base d i a=sgImg c base d i b:=by unfold sgImg D8;rw[h]
theorem U5 (old ext:List Nat)(i:Nat)(h:st0 (i+1)≤old.length):BK (old++ext) i=BK old i:=by unfold BK;rw[Ic]at h;rw[C3 (by omega),BE (by rw[A5];omega)]
theorem DevOk.add {L:List Sec}{frm segs p:Nat}{A:List PS}{s:PS}(h:DevOk L frm segs p (A++[s]))(U:0<segs)(W:frm+segs*8≤L.length)(Z:p<4294967200)(r:Rcd)(I:∀x∈A,(x.gen-1) % segs≠(s.gen-1) % segs)(F:s.gen<281474976710656)
  (K:∀c∈encRs (s.rs++[r]),c<256):
  DevOk (Gu (frm+(s.gen-1) % segs*8) s.gen s.base p (encRs (s.rs++[r])) (encRs s.rs).length L 8) frm segs p (A++[⟨s.gen,s.base,s.rs++[r]⟩]):=by
 have V:(s.gen-1) % segs<segs:=C1 _ U;obtain⟨a,z⟩:∃a,a=frm+(s.gen-1) % segs*8:=⟨_,rfl⟩;obtain⟨t,w⟩:∃b,b=encRs (s.rs++[r]):=⟨_,rfl⟩;obtain⟨old,C⟩:∃b,b=encRs s.rs:=⟨_,rfl⟩;have y:t=old++J5 r:=by rw[w,C,Hn]
 rw[←z,←w,←C];have v:=JB a s.gen s.base p t old.length L (by omega) 8 (Av _);generalize Gu a s.gen s.base p t old.length L 8=L' at v⊢;have H:∀i,(i<a∨a+8≤i)→nowF L' i=nowF L i:=fun i m=>by rw[v,Aw (by omega)]
 have R:lastG (A++[⟨s.gen,s.base,s.rs++[r]⟩])=lastG (A++[s]):=by unfold lastG;simp
 have T:lastG (A++[s])=s.gen:=by unfold lastG;simp
 have D:∀c∈t,c<256:=by rw[w];exact K
 have E:=fun i (m:i<8)=>I7 s.gen s.base p i t (by omega) D ⟨F,by omega⟩
 refine⟨?_, ?_, ?_, ?_⟩
 ·intro x l
  rcases Ag.1 l with l|l
  ·obtain⟨q,o⟩:=h.seg x (A2 _ l)
   have Y:=I x l;refine⟨q,o.congr (fun i m=>H _ (by omega))⟩
  ·simp only[Ac,Am,AG]at l
   subst l;obtain⟨q,o⟩:=h.seg s (by simp);rw[←z,←C]at o;show∃q,SegDev L' (frm+(s.gen-1) % segs*8) s.gen s.base (encRs (s.rs++[r])) q;rw[←z,←w]
   have S:∀i,i<8→(i=0∨st0 i<old.length)→q i≤p:=by
    intro i m n;have f:=o.on i m n;have d:=h.runs (a+i) (by omega) (by omega);rw[Fm]at d;unfold nowF at d;rw[f]at d;have J:∀c∈old,c<256:=fun c B=>D c (by rw[y];exact A2 _ B)
    have u:=(I7 s.gen s.base (q i) i old (by omega) J ⟨F,by have:=o.run i m;omega⟩).r;omega
   refine⟨fun i=>if old.length<st0 (i+1)then p else q i,⟨?_, ?_, ?_, ?_⟩⟩
   ·intro i m n
    show nowF L' (a+i)=_;rw[v];have e:a+i-a=i:=by omega
    rw[e];by_cases f:old.length<st0 (i+1)
    ·have d:st0 i<t.length:=by
      rcases n with n|n
      ·subst n
       rw[y,Aj,Fr];show 0<_;omega
      ·exact n
     rw[Ay ⟨by omega,by omega,f,d⟩];simp only[f,D5]
    ·rw[Aw (fun u=>f u.2.2.1)]
     have d:i=0∨st0 i<old.length:=by right;have:=Ic i;have:=(GY i).2;omega
     have u:=o.on i m d;unfold nowF;rw[u];simp only[f,D1];rw[y];exact OD (U5 old (J5 r) i (by omega)).symm _ _ _
   ·intro i m
    show(if _ then _ else _)<_
    split
    ·omega
    ·exact o.run i m
   ·intro i j M O n
    show(if _ then _ else _)≤(if _ then _ else _);have X:=Vd (show i+1≤j+1 by omega);by_cases f:old.length<st0 (i+1)
    ·rw[Ay f,Ay (by omega)];exact Av _
    ·rw[Aw f]
     have N:i=0∨st0 i<old.length:=by right;have:=Ic i;have:=(GY i).2;omega
     by_cases d:old.length<st0 (j+1)
     ·rw[Ay d]
      exact S i (by omega) N
     ·rw[Aw d]
      refine o.up i j M O ?_;right;have:=Ic j;have:=(GY j).2;omega
   ·intro i m n f
    have d:old.length≤st0 i:=by rw[y,Aj]at f;omega
    have u:=o.off i m n d;show badF L' (a+i)∨genF L' (a+i)≠_;unfold badF genF;rw[v,Aw (by rw[show a+i-a=i by omega];omega)];exact u
 ·intro k P G i m
  have Q:(s.gen-1) % segs≠k:=G ⟨s.gen,s.base,s.rs++[r]⟩ (by simp);rw[H _ (by omega)];refine h.zero k P (fun x l=> ?_) i m;rcases Ag.1 l with l|l
  ·exact G x (A2 _ l)
  ·simp only[Ac,Am,AG]at l
   subst l;exact Q
 ·intro i f d
  rw[Fm,v]
  split
  ·rename_i B
   rw[←(E (i-a) (by omega)).r];exact Av _
  ·rw[←Fm];exact h.runs i f d
 ·intro i f d
  rw[R];unfold badF genF;rw[v]
  split
  ·rename_i B
   right;rw[←(E (i-a) (by omega)).g,T];exact Av _
  ·exact h.old i f d
def Jx (S:List PS)(n:Nat):Bool:=match S.getLast? with|none=>true|some s=>decide (370<(encRs s.rs).length +n)
def XS (S:List PS)(r:Rcd):List PS:=match S.getLast? with|none=>S|some s=>S.dropLast++[⟨s.gen,s.base,s.rs++[r]⟩]
def M2 (segs:Nat)(S:List PS)(nx:Nat)(body:List Nat):List PS:=XS (if Jx S body.length=true then Fx segs S nx else S) (nx,body)
theorem JV (A:List PS)(s:PS)(r:Rcd):XS (A++[s]) r=A++[⟨s.gen,s.base,s.rs++[r]⟩]:=by unfold XS;simp
section
variable {segs nx q:Nat} {S:List PS}
theorem SOk.lastG_eq (h:SOk segs S nx q):∃a,1≤a∧(S.length<segs→a=1)∧(∀i s,S[i]?=some s→s.gen=a+i)∧lastG S+1=a+S.length:=by
 obtain⟨a,e,f,c⟩:=h.gens
 cases b:S.getLast? with
 |none=>have:S=[]:=List.getLast?_eq_none_iff.1 b;subst this;exact⟨1,Av _,fun _=>rfl,fun i s g=>by simp at g,by simp[lastG]⟩
 |some t=>
  refine⟨a,e,f,c, ?_⟩;have d:S[S.length-1]?=some t:=by rw[←Ci];exact b
  have k:=(Ai.1 d).1;have j:=c _ t d;unfold lastG;rw[b];show t.gen+1=_;omega
theorem SOk.kept (h:SOk segs S nx q)(f:0<segs):S.filter (fun s=> !decide ((s.gen:Int)≤((lastG S+1:Nat):Int)-(segs:Int)))=S.drop (if S.length=segs then 1 else 0):=by
 obtain⟨g,j,k,b,d⟩:=h.lastG_eq;have l:=h.len;by_cases a:S.length=segs
 ·rw[Ay a]
  cases S with
  |nil=>rfl
  |cons x T=>have m:=b 0 x rfl;rw[List.filter_cons_of_neg (by simp at d a⊢;omega),List.drop_one,List.tail_cons,List.filter_eq_self];intro s e;obtain⟨i,c⟩:=Bf e;have f:=b (i+1) s (by simpa using c);simp at d a⊢;omega
 ·rw[Aw a,Bj,List.filter_eq_self]
  intro s e;obtain⟨i,c⟩:=Bf e;have f:=b i s c;simp at d⊢;omega
theorem SOk.app (h:SOk segs S nx q)(ab:2≤segs)(C:1≤nx∧nx<140737488355328)(body:List Nat)(v:Rcd.ok (nx,body)):SOk segs (M2 segs S nx body) (nx+1) (q+1)∧
  ∃j,(M2 segs S nx body).flatMap PS.rs=(S.flatMap PS.rs).drop j++[(nx,body)]∧(0<j→(M2 segs S nx body).length =segs)∧S.length≤(M2 segs S nx body).length :=by
 have W:body.length≤300:=v.2.1;unfold M2
 cases m:Jx S body.length with
 |true=>
  simp only[D5];obtain⟨n,G,u,p,Z⟩:=h.lastG_eq;have aa:=h.len;unfold Fx;rw[h.kept (by omega),JV,List.nil_append];obtain⟨t,L⟩:∃t,t=(if S.length=segs then 1 else 0):=⟨_,rfl⟩;rw[←L]
  have T:t≤1∧(t=1→S.length=segs)∧(t=0→S.length<segs):=by rw[L];split<;>omega
  have ac:t≤S.length:=by omega
  have o:(S.drop t).length =S.length-t:=A5;have J:∀x∈S.drop t,x∈S:=fun x d=>AB d
  have E:(S.drop t).flatMap PS.rs=(S.flatMap PS.rs).drop ((S.take t).flatMap PS.rs).length :=by
   conv=>rhs;rw[←BX t S,Bg]
   rw[BX,EN]
  refine⟨⟨?_,⟨n+t,by omega, ?_, ?_⟩, ?_, ?_, ?_, ?_, ?_⟩,⟨((S.take t).flatMap PS.rs).length, ?_, ?_, ?_⟩⟩
  ·rw[Aj,o];simp;omega
  ·intro g
   rw[Aj,o]at g;simp at g;have:=u (by omega);omega
  ·intro i s e
   by_cases l:i<(S.drop t).length
   ·rw[AK l,Bp]at e
    have:=p _ s e;omega
   ·rw[AC (by omega)]at e
    have F:i-(S.drop t).length =0:=by have:=(Ai.1 e).1;simp at this;simp;omega
    rw[F]at e;simp at e;subst e;show lastG S+1=n+t+i;omega
  ·intro s e
   rcases Ag.1 e with e|e
   ·have:=h.small s (J s e);omega
   ·simp only[Ac,Am,AG]at e
    subst e
    have V:lastG S≤q:=by
     unfold lastG
     cases O:S.getLast? with
     |none=>exact AA _
     |some s=>exact(h.small s (GT O)).1
    exact⟨by show lastG S+1≤q+1;omega,C.2⟩
  ·intro s e
   rcases Ag.1 e with e|e
   ·exact h.ok s (J s e)
   ·simp only[Ac,Am,AG]at e
    subst e;refine⟨?_, ?_,by simp⟩
    ·intro r c
     simp only[Ac,Am,AG]at c;subst c;exact v
    ·simp[encRs,Fr];omega
  ·rw[Bg,E,CD]
   refine⟨h.pos.sublist (List.drop_sublist _ _),by simp,fun a k b f=> ?_⟩;simp at f;subst f;exact(h.below a (AB k)).2
  ·intro r c
   rw[Bg,E]at c;rcases Ag.1 c with c|c
   ·have:=h.below r (AB c);omega
   ·simp at c
    subst c;exact⟨C.1,by show nx<nx+1;omega⟩
  ·intro i a b r k f c
   by_cases l:i+1<(S.drop t).length
   ·rw[AK (by omega),Bp]at k
    rw[AK l,Bp]at f;exact h.tight (t+i) a b r k (by rw[show t+i+1=t+(i+1) by omega];exact f) c
   ·have Y:i+1=(S.drop t).length :=by
     have:=(Ai.1 f).1;rw[Aj]at this;simp at this⊢;simp at l;omega
    rw[AK (by omega),Bp]at k;rw[AC (by omega),show i+1-(S.drop t).length =0 by omega]at f;simp at f;subst f;simp at c;subst c
    have P:S.getLast?=some a:=by
     rw[Ci,←k]
     congr 1
     omega
    unfold Jx at m;rw[P]at m;exact DE m
  ·rw[Bg,E];simp
  ·intro H
   rw[Aj,o]
   have:t≠0:=by intro M;rw[M]at H;simp at H
   simp;have:=T.2.1 (by omega);omega
  ·rw[Aj,o];simp;omega
 |false=>
  simp only[Bool.false_eq_true,D1]
  cases B:S.getLast? with
  |none=>unfold Jx at m;rw[B]at m;cases m
  |some s=>
   obtain⟨A,rfl⟩:=EY.1 B
   have X:(encRs s.rs).length +body.length≤370:=by unfold Jx at m;rw[B]at m;have:=of_decide_eq_false m;omega
   rw[JV];have D:s∈A++[s]:=by simp
   have w:(A++[(⟨s.gen,s.base,s.rs++[(nx,body)]⟩:PS)]).flatMap PS.rs=(A++[s]).flatMap PS.rs++[(nx,body)]:=by simp[Bg]
   have z:∀(i:Nat) (x:PS),(A++[(⟨s.gen,s.base,s.rs++[(nx,body)]⟩:PS)])[i]?=some x→(A++[s])[i]?=some x∨(i=A.length∧x=⟨s.gen,s.base,s.rs++[(nx,body)]⟩):=by
    intro i x d;by_cases l:i<A.length
    ·rw[AK l]at d⊢;exact .inl d
    ·rw[AC (by omega)]at d
     have F:=(Ai.1 d).1;simp at F;have U:i-A.length=0:=by omega
     rw[U]at d;simp at d;exact .inr ⟨by omega,d.symm⟩
   have I:(A++[s])[A.length]?=some s:=by simp
   refine⟨⟨?_, ?_, ?_, ?_, ?_, ?_, ?_⟩,⟨0,by rw[w];simp,fun h=>absurd h (by omega),by simp⟩⟩
   ·have:=h.len;simp at this⊢;exact this
   ·obtain⟨n,G,u,p⟩:=h.gens
    refine⟨n,G,fun g=>u (by simp at g⊢;exact g),fun i x d=> ?_⟩;rcases z i x d with g|⟨rfl,rfl⟩
    ·exact p i x g
    ·exact p _ s I
   ·intro x d
    rcases Ag.1 d with d|d
    ·have:=h.small x (A2 _ d);omega
    ·simp only[Ac,Am,AG]at d
     subst d;have:=h.small s D;exact⟨by show s.gen≤_;omega,this.2⟩
   ·intro x d
    rcases Ag.1 d with d|d
    ·exact h.ok x (A2 _ d)
    ·simp only[Ac,Am,AG]at d
     subst d;have R:=h.ok s D;refine⟨?_, ?_,by simp⟩
     ·intro r c
      rcases Ag.1 c with c|c
      ·exact R.1 r c
      ·simp only[Ac,Am,AG]at c
       subst c;exact v
     ·show(encRs (s.rs++[(nx,body)])).length ≤378
      rw[Hn,Aj,Fr];show _+(8+body.length)≤378;omega
   ·rw[w,CD]
    refine⟨h.pos,by simp,fun a k b f=> ?_⟩;simp at f;subst f;exact(h.below a k).2
   ·intro r c
    rw[w]at c;rcases Ag.1 c with c|c
    ·have:=h.below r c;omega
    ·simp at c
     subst c;exact⟨C.1,by show nx<nx+1;omega⟩
   ·intro i a b r k f c
    rcases z i a k with g|⟨l,_⟩
    ·rcases z (i+1) b f with N|⟨l,rfl⟩
     ·exact h.tight i a b r g N c
     ·have Q:=(h.ok s D).2.2
      refine h.tight i a s r g (by rw[l];exact I) ?_
      cases K:s.rs with
      |nil=>exact absurd K Q
      |cons y ys=>simp only[K,List.cons_append,List.head?_cons]at c;simpa using c
    ·have:=(Ai.1 f).1
     simp at this;omega
end
structure LogOk (w:World) (B lb d frm segs nx run:Nat) (fr:Bool) (vl:Value) (l:List Sg) (L:List Sec) (q:Nat):Prop where
 at_:LogAt w B lb d frm segs nx run fr vl l
 dev:DevOk L frm segs run (l.map Sg.ps)
 say:SOk segs (l.map Sg.ps) nx q
theorem IZ (l:List Sg):nextGen l=lastG (l.map Sg.ps)+1:=by
 unfold nextGen lastG;rw[List.getLast?_map]
 cases l.getLast?<;>rfl
theorem SK (l:List Sg)(n:Nat):need l n↔Jx (l.map Sg.ps) n=true:=by
 unfold need Jx;rw[List.getLast?_map]
 cases l.getLast? with
 |none=>simp
 |some s=>show(370-(n:Int)<((encRs s.rs).length :Int))↔decide (370<(encRs s.rs).length +n)=true;rw[decide_eq_true_iff];omega
theorem WB (l:List Sg)(segs nx p:Nat):(l.filter (fun s=> !decide ((s.gen:Int)≤(nextGen l:Int)-(segs:Int)))++[(⟨p,nextGen l,nx,0,nilS,nilS,[]⟩:Sg)]).map Sg.ps=Fx segs (l.map Sg.ps) nx:=by unfold Fx;rw[AL,IZ,List.filter_map];rfl
theorem SOk.apartL {segs nx q:Nat}{A:List PS}{s:PS}(h:SOk segs (A++[s]) nx q):∀x∈A,(x.gen-1) % segs≠(s.gen-1) % segs:=by obtain⟨k,m,_,a⟩:=h.gens;intro x f;obtain⟨i,b⟩:=Bf f;have e:=(Ai.1 b).1;have g:=a i x (by rw[AK e];exact b);have j:=a A.length s (by simp);have:=h.len;simp at this;exact NP (by omega) (by omega)
section
variable {w:World} {B lb d sb c frm segs nx run q:Nat} {fr:Bool} {vl bv:Value} {l:List Sg} {L:List Sec} {body:List Nat}
theorem WF (h:LogOk w B lb d frm segs nx run fr vl l L q)(F:IsDev w d sb L c)(U:c+20<1099511627776)(ac:1≤nx∧nx<140737488355328)(I:run<4294967200)(hq:q+2<281474976710656)
  (aj:3≤segs∧segs≤199) (v:frm+segs*8≤L.length) (R:Rd w bv body) (t:1≤body.length∧body.length≤300) (E:∀c∈body,c<256) (S:∀q,bv.ownBlock=some q→q∉d::sb::DG lb vl l):
  Calls Tryz.prog 216 #[pr lb 0,bv] w fun e m=>e=.returned (.tuple #[.int .i64 (nx:Int),.int .i64 0])∧∃J y g j,LogOk m B lb d frm segs (nx+1) run false J y g (q+1)∧IsDev m d sb g j∧j≤c+12∧
   y.map Sg.ps=M2 segs (l.map Sg.ps) nx body∧Keep (d::sb::DG lb vl l) w m∧(∀q∈DG lb J y,q∈DG lb vl l∨w.heap.size≤q)∧g.length=L.length∧(∀i,(i<frm∨frm+segs*8≤i)→nowF g i=nowF L i):=by
 have ai:=F.max;have ae:Rcd.ok (nx,body):=⟨t.1,t.2,by show nx<_;omega,E⟩;have b:∀s∈l,s.ps∈l.map Sg.ps:=fun s a=>AI.2 ⟨s,a,rfl⟩
 have ab:∀s∈l,1≤s.gen:=fun s a=>(h.say.near (b s a)).2
 have ah:l.length≤segs:=by have:=h.say.len;simpa using this
 refine(Sh h.at_ F U (by omega) (fun s a=>⟨ab s a,by have:=(h.say.small _ (b s a)).1;show s.gen+1<_;have e:s.ps.gen=s.gen:=rfl;omega,by have:=(h.say.small _ (b s a)).2;have e:s.ps.base=s.base:=rfl;omega⟩) (by omega) (by omega) ⟨by omega,by omega⟩ (by omega) v (fun s a=>(h.say.ok _ (b s a)).1) (fun s a=>⟨(h.say.ok _ (b s a)).2.1,by
   have h1:=Ik s.rs (h.say.ok _ (b s a)).1;have h2:(encRs s.rs).length ≤378:=(h.say.ok _ (b s a)).2.1;have h3:s.rs.length=s.recs.length:=by simp[Sg.rs]
   omega⟩) R t E S).mono ?_
 rintro e m ⟨rfl,wc,af,A,s,n,c1,z,C,o,j,P,Z,W,V,N,hF⟩;have f:=(h.say.app (by omega) ac body ae).1
 have O:n.length=L.length∧DevOk n frm segs run ((A++[s]).map Sg.ps)∧(∀i,(i<frm∨frm+segs*8≤i)→nowF n i=nowF L i)∧XS ((A++[s]).map Sg.ps) (nx,body)=M2 segs (l.map Sg.ps) nx body:=by
  unfold M2;rcases P.how with⟨x,u,rfl,rfl⟩|⟨x,rfl,⟨p,u,hp⟩,rfl⟩
  ·rw[u]
   have aa:Jx (l.map Sg.ps) body.length=false:=by
    cases Y:Jx (l.map Sg.ps) body.length with
    |false=>rfl
    |true=>exact absurd ((SK l body.length).2 Y) x
   rw[aa];exact⟨rfl,h.dev,fun _ _=>rfl,rfl⟩
  ·rw[u,WB,(SK l body.length).1 x]
   have e:nextGen l-1=lastG (l.map Sg.ps):=by rw[IZ];omega
   have K:nextGen l=lastG (l.map Sg.ps)+1:=IZ l;rw[e,K];refine⟨by simp,h.dev.begin h.say (by omega) v I (by omega) _ _,fun i G=> ?_,rfl⟩;have ag:lastG (l.map Sg.ps) % segs<segs:=C1 _ (by omega);rw[CS,DF _ _ _ _ (by omega),Aw (by omega)]
 obtain⟨r,D,ad,Q⟩:=O
 have H:(A++[s.add z C nx body o]).map Sg.ps=M2 segs (l.map Sg.ps) nx body:=by rw[←Q,AL,AL,Br,Cy,Br,Cy,JV];simp[Sg.add,Sg.ps,Sg.rs]
 rw[←H]at f
 have k:(A++[s.add z C nx body o]).map Sg.ps=A.map Sg.ps++[⟨s.gen,s.base,s.rs++[(nx,body)]⟩]:=by simp[Sg.add,Sg.ps,Sg.rs]
 have T:∀c∈encRs (s.rs++[(nx,body)]),c<256:=by have:=(f.ok ⟨s.gen,s.base,s.rs++[(nx,body)]⟩ (by rw[k];simp)).1;exact Ho _ this
 have X:s.gen<281474976710656:=by have:=(f.small ⟨s.gen,s.base,s.rs++[(nx,body)]⟩ (by rw[k];simp)).1;have e:(PS.mk s.gen s.base (s.rs++[(nx,body)])).gen =s.gen:=rfl;omega
 have M:=DevOk.add (by rw[AL]at D;exact D) (by omega) (by rw[r];exact v) I (nx,body) (by rw[k]at f;exact f.apartL) X T
 have hk:(s.gen-1) % segs<segs:=C1 _ (by omega);refine⟨rfl,af,A++[s.add z C nx body o],_,j,⟨Z, ?_,f⟩,W,V,H,N,hF, ?_, ?_⟩
 ·rw[k]
  exact M.congr (fun i _ _=>SH fr _ i) (by omega)
 ·rw[fl_len,GD,r]
 ·intro i G
  rw[SH,JB _ _ _ _ _ _ _ (by rw[r];omega) 8 (Av _),Aw (by omega)];exact ad i G
end
theorem DevOk.fresh {L:List Sec}{frm segs:Nat}(e:∀i,frm≤i→i<frm+segs*8→nowF L i=List.replicate 64 0)(h:0<segs):DevOk L frm segs 0 []:=by refine⟨by simp,fun k g _ i f=>e _ (by omega) (by omega),fun i a b=> ?_,fun i a b=> .inl (US L i (e i a b))⟩;rw[Fm,e i a b];decide
theorem SOk.fresh (segs q:Nat):SOk segs [] 1 q:=⟨AA _,⟨1,Av _,fun _=>rfl,by simp⟩,by simp,by simp,by simp,by simp,by simp⟩
section
variable {w w' w0:World} {B lb d sb c frm segs nx run q:Nat} {fr:Bool} {vl:Value} {l:List Sg} {L:List Sec}
theorem LogOk.keep {S:List Nat}(h:LogOk w B lb d frm segs nx run fr vl l L q)(k:Keep S w w')(a:∀x∈DG lb vl l,x∉S):LogOk w' B lb d frm segs nx run fr vl l L q:=⟨h.at_.keep k a,h.dev,h.say⟩
theorem LogOk.still (h:LogOk w B lb d frm segs nx run fr vl l L q)(k:Keep [] w w'):LogOk w' B lb d frm segs nx run fr vl l L q:=h.keep k (by simp)
theorem LogAt.newNot (h:LogAt w B lb d frm segs nx run fr vl l)(e:IsDev w d sb L c){b:Nat}(g:w.heap.size≤b):b∉d::sb::DG lb vl l:=by
 intro f;simp only[Ac]at f;rcases f with a|a|a
 ·have:=e.dev.lt;omega
 ·have:=e.secs.lt;omega
 ·have:=(h.lt b a).2;omega
end
theorem LH (l:List Sg):l.flatMap Sg.rs=(l.map Sg.ps).flatMap PS.rs:=by
 induction l with
 |nil=>rfl
 |cons s l ih=>rw[BI,ih,Br,BI];rfl
def Tight (S:List PS):Prop:=∀i a b r,S[i]?=some a→S[i+1]?=some b→b.rs.head?=some r→370<(encRs a.rs).length +r.2.length
structure Tail (segs:Nat) (S:List PS) (all:List Rcd):Prop where
 tail:∃k,S.flatMap PS.rs=all.drop k∧k≤all.length∧(0<k→S.length=segs)
theorem Tail.nil (segs:Nat):Tail segs [] []:=⟨0,rfl,AA _,fun h=>absurd h (by omega)⟩
theorem Tail.app {segs a q:Nat}{S:List PS}{b:List Rcd}(h:Tail segs S b)(g:SOk segs S a q)(t:2≤segs)(s:1≤a∧a<140737488355328)(body:List Nat)(l:Rcd.ok (a,body)):Tail segs (M2 segs S a body) (b++[(a,body)]):=by
 obtain⟨k,d,r,m⟩:=h.tail;obtain⟨i,j,c,n,u⟩:=g.app t s body l;have v:=i.len;by_cases o:j=0
 ·subst o
  rw[Bj,d]at c;refine⟨k, ?_,by simp;omega,fun f=> ?_⟩
  ·rw[c,C3 r]
  ·have:=m f;omega
 ·have e:=n (by omega)
  by_cases p:k+j≤b.length
  ·refine⟨k+j, ?_,by simp;omega,fun _=>e⟩
   rw[c,d,Bu,C3 p]
  ·refine⟨b.length, ?_,by simp,fun _=>e⟩
   rw[c,d,Bu,Bz (by omega),EN];rfl
def encN (l:List Rcd):Nat:=(encRs l).length
theorem GP (l m:List Rcd):encN (l++m)=encN l+encN m:=by unfold encN encRs;simp
theorem FU (r:Rcd)(l:List Rcd):encN (r::l)=r.2.length+8+encN l:=by
 have e:encRs (r::l)=J5 r++encRs l:=by simp[encRs]
 unfold encN;rw[e,Aj,Fr];omega
theorem Nc:∀(n:Nat) (S:List PS),S.length≤n→Tight S→(∀s∈S,s.rs≠[])→371*(S.length/2)≤encN (S.flatMap PS.rs)
 |0,S,hn,_,_=>by
  have:S.length=0:=by omega
  rw[this];omega
 |n+1,S,hn,ht,hne=>by
  match S,hn,ht,hne with
  |[],_,_,_=>simp
  |[a],_,_,_=>simp
  |a::b::T,hn,ht,hne=>
   have o:=Nc n T (by simp at hn;omega) (fun i x y r j k g=>ht (i+2) x y r (by simpa using j) (by simpa using k) g) (fun s h=>hne s (by simp[h]));have f:=hne b (by simp)
   cases c:b.rs with
   |nil=>exact absurd c f
   |cons r R=>
    have m:=ht 0 a b r rfl rfl (by rw[c];rfl)
    have d:encN ((a::b::T).flatMap PS.rs)=encN a.rs+(encN b.rs+encN (T.flatMap PS.rs)):=by rw[BI,BI,GP,GP]
    have e:encN b.rs=r.2.length+8+encN R:=by rw[c,FU]
    have l:encN a.rs=(encRs a.rs).length :=rfl;rw[d,e];simp only[List.length_cons];omega
theorem SOk.pairs {segs b q:Nat}{S:List PS}(h:SOk segs S b q):371*(S.length/2)≤encN (S.flatMap PS.rs):=
 Nc S.length S (Av _) h.tight (fun s a=>(h.ok s a).2.2)
theorem Ng (l:List Rcd)(k:Nat):encN (l.drop k)≤encN l:=by
 conv=>rhs;rw[←BX k l,GP]
 omega
theorem Tail.wholeG {segs nx q:Nat}{S:List PS}{all:List Rcd}(h:Tail segs S all)(i:SOk segs S nx q)(p:20≤segs)(n:encN all≤2225):S.flatMap PS.rs=all∧S.length≤12:=by
 obtain⟨k,a,o,j⟩:=h.tail;have b:=i.pairs;rw[a]at b;have m:=Ng all k;have e:S.length≤12:=by omega
 refine⟨?_,e⟩
 have f:k=0:=by apply Nat.le_zero.1;apply EU;intro g;have:=j g;omega
 rw[a,f,Bj]
def flAddS (a:World)(xb xg cnt used:Nat)(T:Tab)(b:Nat)(U:Nat→Bool)(X:Nat→Value)(W:World):Prop:=
 (U 9=false→Keep [] a W)∧Keep [xb] a W∧(U 8=true→X 8=.int .i64 (b:Int))∧IxAt W xb xg T cnt used
section
variable {w w':World} {B cb lb xb xg d sb c frm segs nx run q cnt used:Nat} {fr:Bool} {vl bv:Value} {l:List Sg} {L:List Sec} {T:Tab} {all:List Rcd} {body:List Nat}
theorem MZ (a:Blk w cb [pr lb 0,pr xb 0] 283)(h:LogOk w B lb d frm segs nx run fr vl l L q)(k:IsDev w d sb L c)(hc:c+20<1099511627776)(Q:1≤nx∧nx<140737488355328)(ay:run<4294967200)(g:q+2<281474976710656)
  (al:20≤segs∧segs≤199) (av:frm+segs*8≤L.length) (hb:Rd w bv body) (ab:1≤body.length∧body.length≤300) (ai:∀c∈body,c<256) (ap:∀q,bv.ownBlock=some q→q∉d::sb::DG lb vl l)
  (j:IxAt w xb xg T cnt used) (hT:Tail segs (l.map Sg.ps) all) (he:encN (all++[(nx,body)])≤2225) (ax:∀x∈T,x.has=true→∀r,all.head?=some r→r.1≤x.pos) (au:all=[]→∀x∈T,x.has=false):
  Calls Tryz.prog 173 #[pr cb 0,bv] w fun e w'=>e=.returned (.tuple #[.int .i64 (nx:Int),.int .i64 0])∧∃R p y V,LogOk w' B lb d frm segs (nx+1) run false R p y (q+1)∧IsDev w' d sb y V∧V≤c+12∧
   Tail segs (p.map Sg.ps) (all++[(nx,body)])∧Keep (xb::d::sb::DG lb vl l) w w'∧(∀q∈DG lb R p,q∈DG lb vl l∨w.heap.size≤q)∧y.length=L.length∧(∀i,(i<frm∨frm+segs*8≤i)→nowF y i=nowF L i)∧
   IxAt w' xb xg T cnt used∧Blk w' cb [pr lb 0,pr xb 0] 283:=by
 have a2:=h_ (WF h k hc Q ay g ⟨by omega,al.2⟩ av hb ab ai ap);have c0:=a.cell 0
 have aq:cb∉d::sb::DG lb vl l:=by
  intro o;simp only[Ac]at o;rcases o with rfl|rfl|o
  ·exact a.ty.ne k.dev.ty (by decide) rfl
  ·exact a.ty.ne k.secs.ty (by decide) rfl
  ·exact h.at_.apartT a.ty (by decide) o
 have am:∀q∈d::sb::DG lb vl l,q∉ [xb,xg]:=by
  intro q g o
  have b:Ty w q 326∨Ty w q 330:=by
   simp only[Ac,Am,AG]at o;rcases o with rfl|rfl
   ·exact .inl j.blk.ty
   ·exact .inr j.row.ty
  simp only[Ac]at g;rcases g with rfl|rfl|g
  ·rcases b with b|b
   ·exact b.ne k.dev.ty (by decide) rfl
   ·exact b.ne k.dev.ty (by decide) rfl
  ·rcases b with b|b
   ·exact b.ne k.secs.ty (by decide) rfl
   ·exact b.ne k.secs.ty (by decide) rfl
  ·rcases b with b|b
   ·exact h.at_.apartT b (by decide) g
   ·exact h.at_.apartT b (by decide) g
 have ar:cb≠xb:=a.ty.ne j.blk.ty (by decide);have az:=hT.app h.say (by omega) Q body ⟨ab.1,ab.2,by show nx<_;omega,ai⟩;obtain⟨HB,HX⟩:=i_2 a j;have I:=h_3 aq am ar;have J:=h_5 az he ax al au;have an:Hid (∀q∈d::sb::DG lb vl l,q≠xb):=h_ (fun q g e=>am q g (by simp[e]));clear a h k hc Q ay g al av hb ab ai ap j hT he ax aq am az ar au;go_enter Tryz.func173,Tryz.ntmps173;go_wp2_with fail;refine a2.out.mono ?_;rintro e w2 ⟨rfl,R,p,y,V,E,ad,ac,aw,D,Y,Z,af⟩;have z:=HB.out.keep D I.out.1;have aa:=HX.out.keep D I.out.2.1;have F:=J.out.1;rw[←aw]at F;obtain⟨a0,a1⟩:=F.wholeG E.say J.out.2.2.2.1.1 J.out.2.1;have ak:p.length≤1000:=by rw[AD]at a1;omega
 obtain⟨K,ae⟩:∃K,K=Ix p (nx+1):=⟨_,rfl⟩
 have aj:∀x∈T,x.has=true→(K:Int)≤(x.pos:Int):=by
  intro x G hh;have e:p.flatMap Sg.rs=all++[(nx,body)]:=by rw[LH];exact a0
  rw[ae];unfold Ix;rw[e]
  cases ao:all with
  |nil=>have:=J.out.2.2.2.2 ao x G;rw[hh]at this;cases this
  |cons r rs=>have:=J.out.2.2.1 x G hh r (by rw[ao];rfl);simp only[List.cons_append];omega
 have d0:=z.cell 0;have d1:=z.cell 1;have n:=h_7 E ad z aa ak ae aj;have a5:=h_6 D Y Z af F ac;clear E ad aw D Y Z af z aa F a0 a1 ak ae aj ac;go_wp2_with fail;clear d0 d1;refine wM (A:=[0,1,3,7,0,16,48,112,240,511]) 768 [fun _=>pr cb 0,fun _=>pr cb 0,fun _=>pr cb 1,fun _=>pr xb 0,fun _=>pr cb 0,fun _=>pr cb 0,fun _=>pr cb 0,fun _=>pr lb 0,fun _=>undef,fun _=>undef] (flAddS w2 xb xg cnt used T K) ?start (.s ?m0<|.s ?m1<|.s ?m2<|.s ?m3<|.s ?m4<|.s ?m5<|.s ?m6<|.s ?m7<|.t ?m8<|.t ?m9<|.nil) ?fin
 case start=>intro X;exact⟨fun _=>(By _ _).drew,(By _ _).drew,fun h=>absurd h (by decide),n.out.2.2.2.1.still (By [] _).drew⟩
 case fin=>
  intro U X w3 v k;obtain⟨_,u,_,C⟩:=v;have a3:=h_2 u C;clear u C k;simp[Al,Act.put,FK,Ab];go_wp2;go_ret2;obtain⟨u,C⟩:=a3.out;obtain⟨E,ad,z,aa,ak,ae,aj⟩:=n.out;obtain⟨D,Y,Z,af,F,ac⟩:=a5.out;have Q:∀q∈DG lb R p,q≠xb:=fun q g e=>E.at_.apartT (e▸aa.blk.ty) (by decide) g
  refine⟨rfl,R,p,y,V,E.keep u (fun x G o=>Q x G (by simpa using o)),ad.keep u (by simp;exact fun e=>an.out d (by simp) e) (by simp;exact fun e=>an.out sb (by simp) e),ac,F,(D.mono (S':=xb::d::sb::DG lb vl l) (fun x G _=>Ap _ G)).trans (u.mono (S':=xb::d::sb::DG lb vl l) (by simp)),Y,Z,af,C,z.keep u (by simp;exact I.out.2.2)⟩
 case' m8|m9=>intro U X x W v hl j M P ag O B a K' N;have m:=h_ v;obtain⟨_,f,_⟩:=v;have a:=n.out.2.2.1.keep f (by simp;exact I.out.2.2);have d0:=a.cell 0;have d1:=a.cell 1;clear a f;simp[mV,mY,Ab]at P;simp only[Al,Act.put,A8,A7,A6,P]at a;subst a
 case m8=>have H:U 9=false:=O 9 (by decide);clear j M ag O;have f:=m.out.1 H;have S:=h_ (UN (n.out.1.still f).at_ n.out.2.2.2.2.1);rw[←n.out.2.2.2.2.2.1]at S;have a4:=h_ H;clear f H;go_simp;refine S.out.mono ?_;rintro e w3 ⟨rfl,rfl⟩;go_simp;refine N _ _ _ rfl ⟨fun _=>m.out.1 a4.out,m.out.2.1,fun _=>by rw[Bh],m.out.2.2.2⟩
 case m9=>have H:U 9=false:=hl;have u8:U 8=true:=M 8 (by decide);have e8:=j 8 u8;have ah:=m.out.2.2.1 u8;rw[ah]at e8;have f:=m.out.1 H;have S:=h_ (PC (n.out.2.2.2.1.still f) (K:Int) n.out.2.2.2.2.2.2);have HU:=h_2 u8 ah;have HK:=h_ f;simp only[←e8]at N⊢;clear j M ag O f H e8 ah u8;go_simp;refine S.out.mono ?_;rintro e w3 ⟨rfl,C,k3⟩;go_simp;refine N _ _ _ rfl ⟨fun h=>by simp[upd]at h,m.out.2.1.trans k3,fun _=>by rw[Bs _ _ _ _ (by decide)];exact HU.out.2,C⟩
 all_goals intro U X x W v j M P ag O B a K' N;clear j M ag O;have m:=h_ v;obtain⟨_,f,_⟩:=v;have a:=n.out.2.2.1.keep f (by simp;exact I.out.2.2);have d0:=a.cell 0;have d1:=a.cell 1;clear a f;simp[mV,mY,Ab]at P;simp only[Al,Act.put,A8,A7,A6,P]at a;subst a;go_simp;exact N _ _ _ rfl rfl m.out
end
inductive FR where
 |put (k v:Str)
 |del (k:Str)
 |wipe
def FR.body:FR→List Nat
 | .put k v=>1::BM [(k,v,0,false)]
 | .del k=>if itMay k ByteArray.empty 0 true=true then 1::BM [(k,ByteArray.empty,0,true)]else[1,0]
 | .wipe=>[2]
def Xi (f:Str→Option (Nat×Str))(r:Nat×FR):Str→Option (Nat×Str):=match r.2 with
 | .put k v=>fun x=>if x=k then some (r.1,v)else f x
 | .del k=>fun x=>if x=k then none else f x
 | .wipe=>fun _=>none
def rpF (R:List (Nat×FR)):Str→Option (Nat×Str):=R.foldl Xi (fun _=>none)
theorem Js (R:List (Nat×FR))(r:Nat×FR):rpF (R++[r])=Xi (rpF R) r:=by unfold rpF;rw[Gn];rfl
theorem Ll:∀(R:List (Nat×FR)) (f:Str→Option (Nat×Str)) (k:Str) (pos:Nat) (v:Str),R.foldl Xi f k=some (pos,v)→(pos,FR.put k v)∈R∨f k=some (pos,v)
 |[],f,k,pos,v,h=> .inr h
 |r::R,f,k,pos,v,h=>by
  rcases Ll R (Xi f r) k pos v h with h|h
  ·exact .inl (Ap _ h)
  ·obtain⟨p,b⟩:=r
   unfold Xi at h
   cases b with
   |put k2 v2=>
    simp only at h;by_cases a:k=k2
    ·rw[Ay a]at h
     injection h with h;injection h with h1 h2;left;rw[←h1,←h2,a];exact Bx ..
    ·rw[Aw a]at h;exact .inr h
   |del k2=>
    simp only at h;by_cases a:k=k2
    ·rw[Ay a]at h;cases h
    ·rw[Aw a]at h;exact .inr h
   |wipe=>cases h
theorem N7 {R:List (Nat×FR)}{k:Str}{pos:Nat}{v:Str}(h:rpF R k=some (pos,v)):(pos,FR.put k v)∈R:=by
 rcases Ll R _ k pos v h with h|h
 ·exact h
 ·cases h
structure CacheOf (R:List (Nat×FR)) (C:Cache):Prop where
 ok:COk C
 at_:∀k,cGet C k=(rpF R k).map Prod.snd
theorem CacheOf.nil:CacheOf [] []:=⟨Gp,fun k=>rfl⟩
theorem CacheOf.put {R:List (Nat×FR)}{C:Cache}(h:CacheOf R C)(pos:Nat)(k v:Str):CacheOf (R++[(pos,.put k v)]) (GA k v C):=by
 refine⟨Tc C k v h.ok,fun x=> ?_⟩;rw[Qy C k v x h.ok,Js];show _=Option.map Prod.snd (if x=k then some (pos,v)else rpF R x);by_cases a:x=k
 ·rw[Ay a,Ay a];rfl
 ·rw[Aw a,Aw a,h.at_]
theorem CacheOf.wipe {R:List (Nat×FR)}{C:Cache}(pos:Nat):CacheOf (R++[(pos,.wipe)]) []:=by refine⟨Gp,fun x=> ?_⟩;rw[Js];rfl
def IdxOf (R:List (Nat×FR))(T:Tab):Prop:=∀k pos,(k,pos)∈ents T↔(rpF R k).map Prod.fst=some pos
def frRec (r:Nat×FR):Rcd:=(r.1,r.2.body)
def Iw (cb lb xb xg:Nat)(vl:Value)(l:List Sg):List Nat:=cb::xb::xg::DG lb vl l
structure FlOk (w:World) (B cb lb xb xg d frm segs t:Nat) (vl:Value) (l:List Sg) (L:List Sec) (T:Tab) (cnt used:Nat) (R:List (Nat×FR)):Prop where
 blk:Blk w cb [.pointer (some ⟨lb,0,none⟩),.pointer (some ⟨xb,0,none⟩)] 283
 log:∃nx run fr q,LogOk w B lb d frm segs nx run fr vl l L q∧1≤nx∧nx≤t∧run≤t∧q≤t∧∀r∈R,r.1<nx
 tail:Tail segs (l.map Sg.ps) (R.map frRec)
 few:encN (R.map frRec)≤2225
 up:R.Pairwise (fun a b=>a.1<b.1)
 idx:IxAt w xb xg T cnt used
 tab:TabOk T used
 says:IdxOf R T
 cnt_:cnt=(ents T).length
 may:∀r∈R,∀k v,r.2=.put k v→itMay k v 0 false=true
section
variable {w w':World} {B cb lb xb xg d sb c frm segs t cnt used:Nat} {vl bv:Value} {l:List Sg} {L:List Sec} {T:Tab} {R:List (Nat×FR)}
theorem FlOk.keep {S:List Nat}(h:FlOk w B cb lb xb xg d frm segs t vl l L T cnt used R)(k:Keep S w w')(b:∀q∈S,q∉Iw cb lb xb xg vl l):FlOk w' B cb lb xb xg d frm segs t vl l L T cnt used R:=by obtain⟨p,r,f,q,o,g,i,j,m,n⟩:=h.log;refine⟨h.blk.keep k (fun a=>b cb a (by simp[Iw])),⟨p,r,f,q,o.keep k (fun x e a=>b x a (by simp[Iw,e])),g,i,j,m,n⟩,h.tail,h.few,h.up,h.idx.keep k (fun x e a=>b x e ?_),h.tab,h.says,h.cnt_,h.may⟩;simp only[Ac,Am,AG]at a;rcases a with rfl|rfl<;>simp[Iw]
theorem FlOk.still (h:FlOk w B cb lb xb xg d frm segs t vl l L T cnt used R)(k:Keep [] w w'):FlOk w' B cb lb xb xg d frm segs t vl l L T cnt used R:=h.keep k (by simp)
theorem FlOk.later {a:Nat}(h:FlOk w B cb lb xb xg d frm segs t vl l L T cnt used R)(o:t≤a):FlOk w B cb lb xb xg d frm segs a vl l L T cnt used R:=by obtain⟨i,j,b,q,g,e,k,m,n,f⟩:=h.log;exact⟨h.blk,⟨i,j,b,q,g,e,by omega,by omega,by omega,f⟩,h.tail,h.few,h.up,h.idx,h.tab,h.says,h.cnt_,h.may⟩
theorem FlOk.find (h:FlOk w B cb lb xb xg d frm segs t vl l L T cnt used R)(key:Str):match rpF R key with
  |some (pos,v)=>∃i x,(find T key).1 =some i∧T[i]?=some x∧x.pos=pos
  |none=>∀p∈T,¬(p.has=true∧p.key=key):=by
 cases b:rpF R key with
 |none=>refine Me.2 (fun pos f=> ?_);have:=(h.says key pos).1 f;rw[b]at this;cases this
 |some y=>obtain⟨pos,v⟩:=y;obtain⟨i,p,a,g,e,j⟩:=Fn.1 ((h.says key pos).2 (by rw[b];rfl));subst e;exact⟨i,p,by rw[h.tab.find_some a g],a,j⟩
theorem FlOk.heads (h:FlOk w B cb lb xb xg d frm segs t vl l L T cnt used R):(∀x∈T,x.has=true→∀r,(R.map frRec).head? =some r→r.1≤x.pos)∧(R.map frRec=[]→∀x∈T,x.has=false):=by
 have k:∀x∈T,x.has=true→∃v,(x.pos,FR.put x.key v)∈R:=fun x g f=>by
  obtain⟨i,m⟩:=Bf g;have:=(h.says x.key x.pos).1 (Fn.2 ⟨i,x,m,f,rfl,rfl⟩)
  cases e:rpF R x.key with
  |none=>rw[e]at this;cases this
  |some y=>obtain⟨pos,v⟩:=y;rw[e]at this;injection this with this;simp only at this;subst this;exact⟨v,N7 e⟩
 refine⟨fun x g f r e=> ?_,fun j x g=> ?_⟩
 ·obtain⟨v,b⟩:=k x g f
  cases R with
  |nil=>cases b
  |cons a R=>
   simp only[Br,List.head?_cons,BU]at e;subst e;rcases Ac.1 b with rfl|b
   ·exact Av _
   ·exact EV (((B9.1 h.up).1) _ b)
 ·cases f:x.has with
  |false=>rfl
  |true=>obtain⟨v,b⟩:=k x g f;rw[List.map_eq_nil_iff]at j;rw[j]at b;cases b
theorem PT (h:FlOk w B cb lb xb xg d frm segs t vl l L T cnt used R)(f:IsDev w d sb L c)(G:c<1099511627776)(J:0<segs):Calls Tryz.prog 130 #[pr cb 0] w fun e w'=>
  e=.returned (.int .i64 0)∧IsDev w' d sb (L.map flushSec) (c+1)∧FlOk w' B cb lb xb xg d frm segs t vl l (L.map flushSec) T cnt used R∧Keep [d,sb] w w':=by
 have O:=h.blk.cell 0;obtain⟨K,N,z,q,g,m,n,o,p,r⟩:=h.log;have v:=h_ (Mf g.at_ f G)
 have s:∀x∈[d,sb],x∉Iw cb lb xb xg vl l:=by
  intro x k i
  have a:Ty w x 182∨Ty w x 232:=by
   simp only[Ac,Am,AG]at k;rcases k with rfl|rfl
   ·exact .inl f.dev.ty
   ·exact .inr f.secs.ty
  simp only[Iw,Ac]at i;rcases i with rfl|rfl|rfl|i
  ·rcases a with a|a<;>exact a.ne h.blk.ty (by decide) rfl
  ·rcases a with a|a<;>exact a.ne h.idx.blk.ty (by decide) rfl
  ·rcases a with a|a<;>exact a.ne h.idx.row.ty (by decide) rfl
  ·exact g.at_.apart f x i k
 obtain⟨H,y⟩:=i_2 h s;clear h f g s m n o p r;go_enter Tryz.func130,Tryz.ntmps130;go_wp2_with fail;refine v.out.mono ?_;rintro e P ⟨rfl,I,u⟩;go_wp2;go_ret;obtain⟨K,N,z,q,g,m,n,o,p,r⟩:=H.out.log;have b:=H.out.keep u y.out;obtain⟨nx',run',fr',M,j,A,C,D,E,F⟩:=b.log;exact⟨rfl,I,⟨b.blk,⟨nx',run',fr',M,⟨j.at_,j.dev.flush J,j.say⟩,A,C,D,E,F⟩,b.tail,b.few,b.up,b.idx,b.tab,b.says,b.cnt_,b.may⟩,u⟩
theorem FlOk.fresh {a:Nat}{b:Bool}(e:Blk w cb [pr lb 0,pr xb 0] 283)(f:LogOk w B lb d frm segs 1 a b vl l L 0)(h:l.map Sg.ps=[])(i:a≤t)(j:1≤t)(g:IxAt w xb xg EP 0 0):
  FlOk w B cb lb xb xg d frm segs t vl l L EP 0 0 []:=
 ⟨e,⟨1,a,b,0,f,Av _,j,i,AA _,by simp⟩,by rw[h];exact Tail.nil _,by decide,Gp,g,TabOk.new 16 (by decide),fun k pos=>by have:ents EP=[]:=Iy 16;rw[this];simp[rpF],by rw[show ents EP=[]from Iy 16];rfl,by simp⟩
end
theorem Im (k v:Str)(a:itMay k v 0 false=true):1≤(FR.put k v).body.length ∧(FR.put k v).body.length ≤300∧(BM [(k,v,0,false)]).length +1=(FR.put k v).body.length :=by
 have h:=a;unfold itMay itKey at a;simp only[Ar,A0]at a
 have e:BM [(k,v,0,false)]=Dc (k,v,0,false):=by unfold BM;rw[Ay (by simp[Dj,h])];simp[CE]
 have i:=Hb k v (by omega) (by omega)
 have j:(BL [(0:Int),gN false]).length ≤2:=by
  have g:BL [(0:Int),gN false]=Ga (zz 0)++Ga (zz 0):=by simp[BL,gN]
  have b:=DO 1 (zz 0) (by decide) (by decide);rw[g,Aj];omega
 have m:(Dc (k,v,0,false)).length =(B8 [k,v]).length +(BL [(0:Int),gN false]).length :=by unfold Dc;rw[Aj]
 have f:(BM [(k,v,0,false)]).length =(Dc (k,v,0,false)).length :=by rw[e]
 have b:(FR.put k v).body.length =(BM [(k,v,0,false)]).length +1:=rfl;rw[b,f];omega
theorem Jt (k v:Str):∀c∈(FR.put k v).body,c<256:=by
 intro c a;unfold FR.body at a;rcases Ac.1 a with rfl|a
 ·decide
 ·exact LB _ c a
section
variable {w w':World} {B cb lb xb xg d sb c frm segs t cnt used:Nat} {vl bv:Value} {l:List Sg} {L:List Sec} {T:Tab} {R:List (Nat×FR)}
theorem Ut (h:FlOk w B cb lb xb xg d frm segs t vl l L T cnt used R)(hd:IsDev w d sb L c)(hc:c+20<1099511627776)(ht:t≤1000000)(br:20≤segs∧segs≤199)(a1:frm+segs*8≤L.length)
  (key val:Str) (g:itMay key val 0 false=true) (hn:rpF R key=none) (he:encN (R.map frRec)+(FR.put key val).body.length +8≤2225) (a2:2*used<T.length∧used+1≤T.length∧cnt+1≤T.length):
  Calls Tryz.prog 129 #[pr cb 0,L7 key val 0 false] w fun e w'=>e=.returned (.int .i64 0)∧∃ap l' K c' T' bt pos,FlOk w' B cb lb xb xg d frm segs (t+1) ap l' K T' (cnt+1) bt (R++[(pos,.put key val)])∧bt≤used+1∧T'.length=T.length∧IsDev w' d sb K c'∧c'≤c+12∧
   Keep (d::sb::Iw cb lb xb xg vl l) w w'∧(∀q∈Iw cb lb xb xg ap l',q∈Iw cb lb xb xg vl l∨w.heap.size≤q)∧K.length=L.length∧(∀i,(i<frm∨frm+segs*8≤i)→nowF K i=nowF L i):=by
 obtain⟨s,cg,fr,q,hL,h1,h2,h3,h4,h5⟩:=h.log
 have bn:key.size≤40∧val.size≤200:=by unfold itMay itKey at g;simp only[Ar,A0]at g;omega
 have bi:=Im key val g;have bh:=Jt key val;have U:=h.find key;rw[hn]at U;simp only at U
 obtain⟨az,j,hj,aj,S,bm⟩:=Na U h.tab.pos (by obtain⟨p,hp,ca,_⟩:=h.tab.free (by omega);exact⟨p,hp,ca⟩)
 have V:=h.tab.add U hj S bm s;have al:=Ip h.tab.pos key j;obtain⟨i,hi⟩:∃i,i=probe T key j:=⟨_,rfl⟩;rw[←hi]at aj V S al;obtain⟨x,G⟩:∃x,T[i]?=some x:=⟨_,Ad al⟩;have a4:T.getD i pl0=x:=X9 G;rw[a4]at V;have ai:=fun k q=>Wc h.tab al S s k q (Me.1 U)
 have ah:(ents (T.set i ⟨key,s,true,false⟩)).length =cnt+1:=by rw[h.cnt_,PY,PY];have:=LR (fun p:Pl=>p.has) ⟨key,s,true,false⟩ G;rw[a4]at S;simp only[S]at this;simpa using this
 have bl:encN (R.map frRec++[(s,(FR.put key val).body)])≤2225:=by rw[GP,FU];show _+((FR.put key val).body.length +8+encN [])≤_;have:encN []=0:=rfl;omega
 obtain⟨w1,an⟩:∃w1,w1=w.alloc (.cells #[.string key,.string val,.int .i64 0,.bool false] 171):=⟨_,rfl⟩;have k1:Keep [] w w1:=by rw[an];exact(By _ _).alloc _
 have be:Blk w1 w.heap.size (E8 key val 0 false) 171:=by rw[an];exact BY w _ _
 have b0:∀W,Hid (Calls Tryz.prog 163 #[L7 key val 0 false] W fun e w'=>e=.returned (.bool true)∧Keep [] W w'):=fun W=>h_ (FT key val 0 false (by omega) (by omega) true g.symm)
 have H:=h_2 h hL;have C:=h_4 hd hc br a1;have a7:=h_2 be k1;have D:=h_6 h1 h2 h3 h4 h5 ht;have J:=h_3 bi bh bl;have n:=h_7 V ai ah az aj G a2;have aa:=h_3 bn g hn;obtain⟨i8,b9,cd,ce,cf⟩:=AU In;obtain⟨u,aw⟩:∃u,u=w.heap.size:=⟨_,rfl⟩;have a6:=h_ aw;clear h hL hd hc ht br a1 g hn he a2 h1 h2 h3 h4 h5 bn bi bh U az aj S bm V hj al hi G a4 ai ah bl k1 be;go_enter Tryz.func129,Tryz.ntmps129;go_wp2_with fail;rw[←an,←aw];clear an aw;refine(b0 _).out.mono ?_;rintro e f ⟨rfl,k2⟩;have bf:=a7.out.1.keep k2 (by simp);have z:=h_2 bf (a7.out.2.trans k2);rw[←a6.out]at z;have c0:f.cell? ⟨u,0,none⟩=some (.string key):=z.out.1.cell 0;have c1:f.cell? ⟨u,1,none⟩=some (.string val):=z.out.1.cell 1;have c2:f.cell? ⟨u,2,none⟩=some (.int .i64 0):=z.out.1.cell 2;have c3:f.cell? ⟨u,3,none⟩=some (.bool false):=z.out.1.cell 3;have Y:=z.out.1.keep (Keep.alloc (By [] f) (.cells #[.int .u8 1] 5)) (by simp);have e0:(f.alloc (.cells #[.int .u8 1] 5)).cell? ⟨u,0,none⟩=some (.string key):=Y.cell 0;have Z:(f.alloc (.cells #[.int .u8 1] 5)).cell? ⟨u,1,none⟩=some (.string val):=Y.cell 1;have e2:(f.alloc (.cells #[.int .u8 1] 5)).cell? ⟨u,2,none⟩=some (.int .i64 0):=Y.cell 2;have e3:(f.alloc (.cells #[.int .u8 1] 5)).cell? ⟨u,3,none⟩=some (.bool false):=Y.cell 3
 have bq:IRd ((f.alloc (.cells #[.int .u8 1] 5)).alloc (.cells #[.string key,.string val,.int .i64 0,.bool false] 171)) (.slice (some ⟨f.heap.size+1,0,none⟩) 1 1) [(key,val,0,false)]:=by
  have:=Y1 (f.alloc (.cells #[.int .u8 1] 5)) (ic [(key,val,0,false)]) 171 4 1 1 rfl (by omega) _ rfl;have e:(f.alloc (.cells #[.int .u8 1] 5)).heap.size =f.heap.size+1:=by simp
  rw[e]at this;exact this
 have ba:(f.alloc (.cells #[.int .u8 1] 5)).ownsRow f.heap.size 5 1 (.slice (some ⟨f.heap.size,0,none⟩) 1 1) 1 (Bb [1]):=Yy (xs:=Bb [1]) (spare:=[]) (BY f _ _) rfl (Av _) rfl (by unfold maxLen;omega) (Av _);have bw:=h_ (show Buf _ f.heap.size 5 (.slice (some ⟨f.heap.size,0,none⟩) 1 1) [1]from ba);have b2:=h_ bq;clear k2 bf Y bq ba;go_wp2_with fail;clear e0 Z e2 e3 c0 c1 c2 c3;refine(J4 _ _ b2.out (by simp) (by intro y m;simp at m;subst m;have:=aa.out.1;simp only;omega)).mono ?_;rintro e w5 ⟨v5,rfl,⟨hE,_⟩,k5⟩;have K5:Keep [] f w5:=(((By [] f).alloc _).alloc _).trans k5;have bb:=(bw.out.alloc _).keep k5 (by simp);have a3:=hE.rd.src (P:=Tryz.prog) Ao;obtain⟨a5,n5,rfl⟩:=hE.slice;obtain⟨el,ay⟩:∃el,el=(BM [(key,val,0,false)]).length :=⟨_,rfl⟩;rw[←ay]at a3⊢;have bx:=h_ ay;have ab:=h_3 bb a3 K5;have bk:el≤300:=by have:=J.out.1;omega
 have bs:f.heap.size≤w5.heap.size:=K5.size;have ar:=h_2 bk bs;clear hE k5 K5 bb a3 ay bk bs
 go_wp2_with (first|(at_builtin;refine Bl _ rfl _ _ 81 81 rfl f.heap.size 5 i8 (.int .u8 0) 1 1 Ao b9 cd ce cf rfl (by decide) _ 1 (Bb [1]) rfl ab.out.1 _ el _ rfl ab.out.2.1 (by have:=ar.out.1;unfold maxLen;omega) (by have:=ar.out.1;omega) ar.out.2 ?_;intro v6 w6 a8 a9 _ b5)|fail)
 have av:Buf w6 f.heap.size 5 v6 (FR.put key val).body :=by have Z:(FR.put key val).body =[1]++BM [(key,val,0,false)]:=rfl;unfold Buf;rw[Z,Aj,DW,←bx.out];exact a8
 have au:Keep [] f w6:=ab.out.2.2.then (DJ a9) (fun x G a1=>by have:=(ab.out.1.lt x (Ae.1 G)).1;omega)
 have X:Keep [] w w6:=z.out.2.trans au;have N:=H.out.1.still X;have bc:=H.out.2.still X;have bj:=C.out.1.keep X (by simp) (by simp);have bo:∀q,v6.ownBlock=some q→q∉d::sb::DG lb vl l:=fun q A=>(H.out.2.still z.out.2).at_.newNot (C.out.1.keep z.out.2 (by simp) (by simp)) (av.lt q A).1
 have bd:=MZ N.blk bc bj C.out.2.1 ⟨D.out.1,by have:=D.out;omega⟩ (by have:=D.out;omega) (by have:=D.out;omega) C.out.2.2.1 C.out.2.2.2 av.rd ⟨J.out.1.1,J.out.1.2.1⟩ J.out.2.1 bo N.idx N.tail J.out.2.2 N.heads.1 N.heads.2;have bu:=h_ bd;have aq:=h_2 X (z.out.1.keep au (by simp));clear av au X N bc bj bo bd a8 a9 b5;refine bu.out.mono ?_;rintro e I ⟨rfl,ap,l',K,c',O,Q,ag,am,K7,ad,ae,ak,E,M⟩
 have ax:∀q∈xb::d::sb::DG lb vl l,q<w.heap.size:=by
  intro q A;simp only[Ac]at A;rcases A with rfl|rfl|rfl|A
  ·exact H.out.1.idx.blk.lt
  ·exact C.out.1.dev.lt
  ·exact C.out.1.secs.lt
  ·exact(H.out.2.at_.lt q A).2
 have bg:=aq.out.2.keep K7 (fun g=>by have:=ax u g;rw[a6.out]at this;omega);have cc:=MX E n.out.2.2.2.2.2.2.1 key (by have:=aa.out.1;omega) s (by have:=D.out;omega) i x n.out.2.2.2.1 n.out.2.2.2.2.1 n.out.2.2.2.2.2.1 ⟨by have:=n.out.2.2.2.2.2.2.2.1;split<;>omega,n.out.2.2.2.2.2.2.2.2⟩;have bp:=MX (E.still (By [] I).drew) n.out.2.2.2.2.2.2.1 key (by have:=aa.out.1;omega) s (by have:=D.out;omega) i x n.out.2.2.2.1 n.out.2.2.2.2.1 n.out.2.2.2.2.2.1 ⟨by have:=n.out.2.2.2.2.2.2.2.1;split<;>omega,n.out.2.2.2.2.2.2.2.2⟩;have b1:=h_ bp;have d1:I.cell? ⟨cb,1,none⟩=some (pr xb 0):=M.cell 1;have d2:I.cell? ⟨u,0,none⟩=some (.string key):=bg.cell 0;have b3:=h_9 O Q E M ag am ad ae ak;have bz:=h_2 K7 ax;clear O Q E M ag am ad ae ak K7 ax bg cc bp;go_wp2_with fail;refine BJ 7 (by kernel_rfl) (by kernel_rfl) ?_;simp only[List.take_succ_cons,List.take_zero,BB,Bj]
 repeat still_step
 refine Du ?_;clear d1 d2;go_wp2_with fail;refine b1.out.mono ?_;rintro e w8 ⟨rfl,af,K8⟩;have b4:=h_2 af K8;clear af K8;go_wp2;go_ret;obtain⟨af,K8⟩:=b4.out;have ac:Keep [xb,xg] I w8:=((By [] I).drew.mono (S':=[xb,xg]) (by simp)).trans K8;obtain⟨O,Q,E,M,ag,am,ad,ae,ak⟩:=b3.out;obtain⟨V,ai,ah,az,aj,G,a2⟩:=n.out;have a0:=H.out.1;obtain⟨h1,h2,h3,h4,h5,ht⟩:=D.out
 have ao:∀q∈[xb,xg],Ty I q 326∨Ty I q 330:=by
  intro q A;simp only[Ac,Am,AG]at A;rcases A with rfl|rfl
  ·exact .inl E.blk.ty
  ·exact .inr E.row.ty
 have b7:=O.keep ac (fun y m g=>by
  rcases ao y g with h|h
  ·exact O.at_.apartT h (by decide) m
  ·exact O.at_.apartT h (by decide) m)
 have b8:=Q.keep ac (fun g=>by
  rcases ao d g with h|h<;>exact h.ne Q.dev.ty (by decide) rfl) (fun g=>by
  rcases ao sb g with h|h<;>exact h.ne Q.secs.ty (by decide) rfl)
 have b6:=M.keep ac (fun g=>by rcases ao cb g with h|h<;>exact h.ne M.ty (by decide) rfl)
 have eR:(R++[(s,FR.put key val)]).map frRec=R.map frRec++[(s,(FR.put key val).body)]:=by simp[frRec]
 have ch:=aq.out.1.size;refine⟨rfl,ap,l',K,c',T.set i ⟨key,s,true,false⟩,_,s,⟨b6,⟨s+1,cg,false,q+1,b7,by omega,by omega,by omega,by omega,fun r o=> ?_⟩,by rw[eR];exact am,by rw[eR];exact J.out.2.2, ?_,af,V,fun k pos=> ?_,ah.symm,fun r o k v F=> ?_⟩,by split<;>omega,by rw[Bi],b8,ag, ?_,fun y m=> ?_,ae,ak⟩
 ·rcases Ag.1 o with o|o
  ·have:=h5 r o;omega
  ·simp at o;subst o;simp
 ·rw[CD]
  refine⟨a0.up,by simp,fun a ha b hb=> ?_⟩;simp at hb;subst hb;exact h5 a ha
 ·rw[ai k pos,Js]
  show _↔Option.map Prod.fst (if k=key then some (s,val)else rpF R k)=some pos;by_cases F:k=key
  ·rw[Ay F];simp[F,eq_comm]
  ·rw[Aw F]
   simp only[F,false_and,false_or,ne_eq,not_false_iff,true_and];exact a0.says k pos
 ·rcases Ag.1 o with o|o
  ·exact a0.may r o k v F
  ·simp at o;subst o
   injection F with Z e2;subst Z e2;exact aa.out.2.1
 ·exact((aq.out.1.mono (S':=d::sb::Iw cb lb xb xg vl l) (by simp)).trans (bz.out.1.mono (S':=d::sb::Iw cb lb xb xg vl l) (fun y m _=>by
   simp only[Iw,Ac]at m⊢;rcases m with h|h|h|h<;>simp[h]))).trans (ac.mono (S':=d::sb::Iw cb lb xb xg vl l) (fun y m _=>by
   simp only[Iw,Ac,Am,AG]at m⊢;rcases m with h|h<;>simp[h]))
 ·simp only[Iw,Ac]at m⊢
  rcases m with h|h|h|h
  ·simp[h]
  ·simp[h]
  ·simp[h]
  ·rcases ad y h with h|h
   ·simp[h]
   ·exact .inr (by omega)
end
def recOf (a:JMk):Rcd:=(a.pos,Ga (zz (a.seq:Int))++a.key)
def jF (jb lb:Nat)(v vl:Value)(l:List Sg):List Nat:=jb::(v.ownBlock.toList++DG lb vl l)
structure JOk (w:World) (B jb lb d frm t:Nat) (vl v:Value) (l:List Sg) (L:List Sec) (M:List JMk):Prop where
 at_:JAt w B jb lb v M
 new:B≤jb
 log:∃nx run fr q,LogOk w B lb d frm 20 nx run fr vl l L q∧1≤nx∧nx≤t∧run≤t∧q≤t
 tail:Tail 20 (l.map Sg.ps) (M.map recOf)
 few:encN (M.map recOf)≤2225
 seq:∀i a,M[i]?=some a→a.seq=i+1
section
variable {w w':World} {B jb lb d sb c frm t:Nat} {vl v:Value} {l:List Sg} {L:List Sec} {M:List JMk}
theorem JOk.keep {S:List Nat}(h:JOk w B jb lb d frm t vl v l L M)(k:Keep S w w')(a:∀x∈jF jb lb v vl l,x∉S):JOk w' B jb lb d frm t vl v l L M:=by obtain⟨p,r,e,q,m,f,g,i,j⟩:=h.log;refine⟨h.at_.keep k (a jb (by simp[jF])) (fun b n=>a b (by simp[jF,n])),h.new,⟨p,r,e,q,m.keep k (fun x o=>a x (by simp[jF,o])),f,g,i,j⟩,h.tail,h.few,h.seq⟩
theorem JOk.still (h:JOk w B jb lb d frm t vl v l L M)(k:Keep [] w w'):JOk w' B jb lb d frm t vl v l L M:=h.keep k (by simp)
theorem JOk.later {a:Nat}(h:JOk w B jb lb d frm t vl v l L M)(n:t≤a):JOk w B jb lb d frm a vl v l L M:=by obtain⟨g,i,b,q,f,e,j,k,m⟩:=h.log;exact⟨h.at_,h.new,⟨g,i,b,q,f,e,by omega,by omega,by omega⟩,h.tail,h.few,h.seq⟩
theorem JOk.lt (h:JOk w B jb lb d frm t vl v l L M):∀x∈jF jb lb v vl l,B≤x∧x<w.heap.size:=by
 intro x a;obtain⟨f,g,e,q,b,_⟩:=h.log;unfold jF at a;rcases Ac.1 a with rfl|a
 ·exact⟨h.new,h.at_.blk.lt⟩
 ·rcases Ag.1 a with a|a
  ·exact h.at_.row.lt x (Ae.1 a)
  ·exact b.at_.lt x a
theorem JOk.tys (h:JOk w B jb lb d frm t vl v l L M):∀x∈jF jb lb v vl l,Ty w x 319∨Ty w x 321∨Ty w x 333∨Ty w x 359∨Ty w x 358∨Ty w x 353∨Ty w x 5:=by
 intro x a;obtain⟨f,g,e,q,b,_⟩:=h.log;unfold jF at a;rcases Ac.1 a with rfl|a
 ·exact .inl h.at_.blk.ty
 ·rcases Ag.1 a with a|a
  ·exact .inr (.inl (h.at_.row.ty x (Ae.1 a)))
  ·exact .inr (.inr (b.at_.ty x a))
theorem JOk.notT {T:TypeId}{b:Nat}(h:JOk w B jb lb d frm t vl v l L M)(a:Ty w b T)(e:T∉ [319,321,333,359,358,353,5]):b∉jF jb lb v vl l:=by
 intro f;simp only[Ac,Am,AG,not_or]at e;obtain⟨g,i,j,k,m,n,o⟩:=e;rcases h.tys b f with t|t|t|t|t|t|t
 ·exact a.ne t g rfl
 ·exact a.ne t i rfl
 ·exact a.ne t j rfl
 ·exact a.ne t k rfl
 ·exact a.ne t m rfl
 ·exact a.ne t n rfl
 ·exact a.ne t o rfl
end
def kb (k:ByteArray):List Nat:=sb k
def JDev (L:List Sec)(frm t:Nat)(M:List JMk):Prop:=
 ∃S b c q,DevOk L frm 20 c S∧SOk 20 S b q∧(1≤b∧b≤t∧c≤t∧q≤t)∧Tail 20 S (M.map recOf)∧encN (M.map recOf)≤2225∧∀i a,M[i]?=some a→a.seq=i+1
end Go.Proofs.YtnhbioehiiifdaaGreat
