import Derived.Test.YtnhbioehiiifdaaGreatD20
set_option maxRecDepth 100000
set_option maxHeartbeats 16000000
set_option linter.all false
namespace Go.Proofs.YtnhbioehiiifdaaGreat
open Go.ChangeShapes Go.WideShapes Go.ChangeAt Go.RowKit
structure Nd.ReadOk (n:Nd) (B t i:Nat) (q:Who) (tok:Nat) (val:Str):Prop where
 lim:B≤800000
 at_:n.reads[i]?=some (q,tok)
 few:n.reads.length≤1000∧n.tlast≤100000∧tok≤100000
 tok_:∃key,n.toks.find? (fun t=>decide (t.1=tok))=some (tok,key,true)
 may:itMay q.key val 0 false=true
 new:cGet n.dk.cache q.key=none
 room:n.dk.used+Nd.recLen q.key val≤2225∧n.dk.cache.length<8
 serves:n.serves t q.key=true
 msgs:n.msgs.length<300∧n.reps.length<300
def Nd.rd1 (n:Nd)(i:Nat):Nd:={n with reads:=n.reads.eraseIdx i}
def Nd.rd2 (n:Nd)(i a:Nat):Nd:={n.rd1 i with toks:=n.toks.filter (fun t=>decide (t.1≠a))}
def Nd.rd3 (n:Nd)(i a:Nat)(key val:Str):Nd:={n.rd2 i a with dk:={n.dk with cache:=GA key val n.dk.cache,used:=n.dk.used+Nd.recLen key val}}
theorem Is {k v:Str}(h:itMay k v 0 false=true):1≤k.size∧k.size≤40∧v.size≤200:=by unfold itMay itKey at h;simp only[Ar,A0]at h;omega
theorem TG {n:Nd}{B t i:Nat}{q:Who}{c:Nat}{val:Str}(h:n.ReadOk B t i q c val):n.read t i val true=((n.rd3 i c q.key val).tell q 0 val true).did :=by
 unfold Nd.read;rw[h.at_];simp only[D5];obtain⟨key,f⟩:=h.tok_;rw[f];have g:(n.rd2 i c).serves t q.key=true:=h.serves;have j:=Is h.may;have d:(true&&true&&decide (val.size≤200)&&(n.rd2 i c).serves t q.key)=true:=by rw[g];simp;omega
 have e:∀(a b:Nd),(if(true&&true&&decide (val.size≤200)&&(n.rd2 i c).serves t q.key)=true then a else b)=a:=fun a b=>by rw[Ay d]
 exact A3 (fun z:Nd=>(z.tell q 0 val true).did) (e _ _)
def useS (x:NdP)(n:Nd)(B t i a:Nat)(v:NdV)(q:Who)(b:Nat)(R:List As)(L:Nat→Bool)(W:World):Prop:=
 NdK x W∧Blk W b (rdC (q,a)) 138∧(L 6=false→Sp (GW x (n.rd1 i) B v++AF x.cb t::AM b (rdC (q,a)) 138::R) W)∧(L 6=true→Sp (GW x (n.rd2 i a) B v++AF x.cb t::AM b (rdC (q,a)) 138::R) W)
def putNS (x:NdP)(n:Nd)(B t i a:Nat)(val:Str)(q:Who)(b:Nat)(R:List As)(L:Nat→Bool)(W:World):Prop:=
 NdK x W∧Blk W b (rdC (q,a)) 138∧(L 12=false→Sp (CJ x (n.rd2 i a) B::AF x.cb t::AM b (rdC (q,a)) 138::R) W)∧(L 12=true→Sp (ndB x (n.rd3 i a q.key val) (B+1)::AF x.cb t::AM b (rdC (q,a)) 138::R) W)
section
variable {R:List As} {w w':World} {x:NdP} {n:Nd} {B t:Nat} {v:NdV}
theorem Xv (h:Sp (CJ x n B::AF x.cb t::R) w)(i:Nat)(q:Who)(a:Nat)(val:Str)(K:n.ReadOk B t i q a val):
  Calls Tryz.prog 95 #[pr x.nb 0,.int .i64 (i:Int),.string val,.bool true] w fun e w'=>∃M N,e=.returned (.agg #[M,N])∧Sp (CJ x (n.read t i val true).1 (B+1)::Dp M (n.read t i val true).2.1 ::Dn N (n.read t i val true).2.2 ::AF x.cb t::R) w':=by
 rw[TG K];have h1:Sp (CJ x n B::AF x.cb t::AM w.heap.size [.slice none 0 0,.slice none 0 0] 69::R) (w.alloc (.cells #[.slice none 0 0,.slice none 0 0] 69)):=(h.alloc [.slice none 0 0,.slice none 0 0] 69).push 2;have hi:i<n.reads.length:=(Ai.1 K.at_).1;obtain⟨v,hq,an,hL⟩:=h1.nd;have ar:=hL.ndL_r hq an;obtain⟨g,cap,aq,_,_,a7,_,_⟩:=Cq (k:=5) KK ar.rd K.at_
 have c10:(w.alloc (.cells #[.slice none 0 0,.slice none 0 0] 69)).cell? ⟨x.nb,10,none⟩=some (.slice (some ⟨g,0,none⟩) n.reads.length cap):=by have:=ar.blk.cell 10;rw[aq]at this;exact this
 have r:=h_5 hL hq an aq a7;obtain⟨f,HI⟩:=i_2 K hi;have q0:¬(i:Int)<0:=by omega
 have q1:¬(n.reads.length:Int)≤(i:Int):=by omega
 have bq:decide (n.reads.length≤i)=false:=Ak (by omega);obtain⟨H,ap⟩:∃H,H=n.reads.length:=⟨_,rfl⟩;have bs:(i:Int)<(H:Int):=by omega
 have bt:i<H:=by omega
 rw[←ap]at c10 q1 bq;have ad:=h_ ap;have bu:H≤1000:=by have:=K.few;omega
 clear h h1 K hi hL hq an ar aq a7 ap;go_enter Tryz.func95,Tryz.ntmps95;go_upto_region 3 with fail;obtain⟨b8,ak⟩:∃b,b=w.heap.size:=⟨_,rfl⟩;obtain⟨w1,Y⟩:∃w1,w1=w.alloc (.cells #[.slice none 0 0,.slice none 0 0] 69):=⟨_,rfl⟩;rw[←ak,←Y]at r;rw[←Y]at c10;rw[←Y,←ak];clear Y ak;have HG:=h_ r.out.2.2.2.2
 go_upto_region 4 with(first|(refine Bc rfl 138 _ rfl g (i*5) rfl [.int .i64 (q.node:Int),.int .i64 (q.id:Int),.int .i64 (q.op:Int),.string q.key,.int .i64 (a:Int)] _ HG.out Tryz.underlying138 rfl (by rfl) ?_)|fail)
 obtain⟨b9,al⟩:∃b,b=w1.heap.size:=⟨_,rfl⟩;have C:=r.out.1.alloc (rdC (q,a)) 138;obtain⟨S,au⟩:∃S,S=w1.alloc (.cells #[.int .i64 (q.node:Int),.int .i64 (q.id:Int),.int .i64 (q.op:Int),.string q.key,.int .i64 (a:Int)] 138):=⟨_,rfl⟩;have C:Sp (AM b9 (rdC (q,a)) 138::(GW x n B v++AF x.cb t::AM b8 [.slice none 0 0,.slice none 0 0] 69::R)) S:=by rw[au,al];exact C
 have C:Sp (GW x n B v++AF x.cb t::AM b9 (rdC (q,a)) 138::AM b8 [.slice none 0 0,.slice none 0 0] 69::R) S:=by exact YH (l:=AM b9 (rdC (q,a)) 138::GW x n B v++[AF x.cb t]) (R:=AM b8 [.slice none 0 0,.slice none 0 0] 69::R) C [1,2,3,4,5,6,7,8,9,10,11,0] 12 rfl rfl
 rw[←au,←al];clear au al;have ba:=C.ndL_r r.out.2.1 r.out.2.2.1
 have bi:S.cell? ⟨x.nb,10,none⟩=some (.slice (some ⟨g,0,none⟩) H cap):=by have:=ba.blk.cell 10;rw[r.out.2.2.2.1,←ad.out]at this;exact this
 obtain⟨g',af,a4,a3⟩:=Pz C i HI.out (by have:=ad.out;omega);have HE:Hid (Value.slice (some ⟨g,0,none⟩) H cap=v.rv):=h_ (by rw[r.out.2.2.2.1,ad.out]);obtain⟨HD,bg⟩:=i_2 a3 a4;have ac:=h_2 r.out.2.1 r.out.2.2.1;clear C ba a3 a4 c10 r HG;go_wp2_with fail;rw[HE.out];refine HD.out.mono ?_;rintro e w3 ⟨rfl,h3⟩;have aj:=(h3.pull 1).blk;have bj:w3.cell? ⟨x.nb,10,none⟩=some v.rv:=aj.cell 10;have bk:=aj.free 10;have h4:=(h3.pull 1).setCell 10 (.slice (some ⟨g',0,none⟩) (n.reads.length-1) af);have H4:=h_ h4;clear h3 h4 aj HD bi;go_upto_region 7 with fail;obtain⟨w4,av⟩:∃w4,w4=w3.setCell ⟨x.nb,10,none⟩ (.slice (some ⟨g',0,none⟩) (n.reads.length-1) af):=⟨_,rfl⟩;rw[←av]at H4;rw[←av];clear av bj bk;obtain⟨I,X⟩:∃I:NdV,I={v with rv:= .slice (some ⟨g',0,none⟩) (n.reads.length-1) af}:=⟨_,rfl⟩
 have h5:Sp (GW x (n.rd1 i) B I++AF x.cb t::AM b9 (rdC (q,a)) 138::AM b8 [.slice none 0 0,.slice none 0 0] 69::R) w4:=by rw[X];exact YH (l:=[_,_,_,_,_,_,_,_,_,_]) H4.out [0,2,3,4,5,6,1,7,8,9] 10 rfl rfl
 obtain⟨br,H5⟩:=i_2 X h5;have ao:(n.rd1 i).Quiet :=ac.out.1.same rfl rfl rfl rfl rfl rfl rfl;have am:I.mt.map (·.m)=(n.rd1 i).msgs.map wmMs:=by rw[X];exact ac.out.2
 have O:=h_2 ao am;have az:=h_ (h5.ndL_r ao am).k;clear h5 H4 X ao am ac bg;obtain⟨key,a5⟩:=f.out.tok_;have bh:=h_ a5;clear a5 C;refine wK (A:=[0,1,3,7,0,16,63,127,255,255,511,2047]) 64 [pr x.nb 0,pr x.nb 0,pr x.nb 4,pr x.tk 0,pr b9 4,.int .i64 (a:Int),.tuple #[.string key,.bool true],.tuple #[.string key,.bool true],.string key,.bool true,.string key,.bool true] (useS x n B t i a I q b9 (AM b8 [.slice none 0 0,.slice none 0 0] 69::R)) ?mstart (.s ?m0<|.s ?m1<|.s ?m2<|.s ?m3<|.s ?m4<|.s ?m5<|.t ?m6<|.s ?m7<|.s ?m8<|.s ?m9<|.s ?m10<|.s ?m11<|.nil) ?mfin
 case mstart=>exact⟨az.out.still (By _ _).drew,(H5.out.pull 11).blk.drew,fun _=>H5.out.drew,(fun h=>by cases h)⟩
 case mfin=>
  intro L w9 c Q;have G:=c.2.2.2 (Q 6 (by decide) (by decide));have G:=Yz (n:=n.rd2 i a) I (O.out.1.same rfl rfl rfl rfl rfl rfl rfl) O.out.2 G;have H9:=h_ G;obtain⟨v9,bb⟩:=G.ndR;have ae:=h_ (JO bb ((G.pull 1).clock) q.key (by have:=Is f.out.may;omega));have a9:(n.rd2 i a).serves t q.key=true:=f.out.serves;rw[a9]at ae;have Z:w9.cell? ⟨b9,3,none⟩=some (.string q.key):=(G.pull 2).blk.cell 3;have bo:=(Is f.out.may).2.2;have s0:(val.size:Int)≤200:=by omega
  clear c Q G bb a9 H5 az O;simp[Al,Act.put];go_wp2_with fail;refine ae.out.mono ?_;rintro e bv ⟨rfl,bc⟩;have ag:=H9.out.still bc;obtain⟨ay,ab⟩:=i_2 ag.ndK ag;clear ae H9 ag bc Z s0 bo;go_wp2_with fail;refine wK (A:=[0,1,3,7,15,31,63,0,128,384,0,1920,4095,8191]) 4096 [pr x.nb 0,pr x.nb 0,pr x.nb 0,pr x.stb 0,pr x.stb 0,pr x.stb 0,pr x.ca 0,pr b9 0,pr b9 3,.string q.key,.string val,L7 q.key val 0 false,.int .i64 0,.bool true] (putNS x n B t i a val q b9 (AM b8 [.slice none 0 0,.slice none 0 0] 69::R)) ?bstart (.s ?b0<|.s ?b1<|.s ?b2<|.s ?b3<|.s ?b4<|.s ?b5<|.s ?b6<|.s ?b7<|.s ?b8<|.s ?b9<|.s ?b10<|.s ?b11<|.t ?b12<|.s ?b13<|.nil) ?bfin
  case bstart=>exact⟨ay.out.still (By _ _).drew,(ab.out.pull 2).blk.drew,fun _=>ab.out.drew,(fun h=>by cases h)⟩
  case bfin=>
   intro L bw c Q;have V:=c.2.2.2 (Q 12 (by decide) (by decide));have aw:=h_ V;have F:=V.ndKB.c0;have U:=V.ndKB.e0;clear c Q V ay ab;simp[Al,Act.put];go_wp2_with fail;refine(VF aw.out (by have:=f.out.lim;omega)).mono ?_;rintro e aa ⟨rfl,J⟩;have z0:aa.cell? ⟨b9,0,none⟩=some (.int .i64 (q.node:Int)):=(J.pull 2).blk.cell 0;have z1:aa.cell? ⟨b9,1,none⟩=some (.int .i64 (q.id:Int)):=(J.pull 2).blk.cell 1;have z2:aa.cell? ⟨b9,2,none⟩=some (.int .i64 (q.op:Int)):=(J.pull 2).blk.cell 2;have z3:aa.cell? ⟨b9,3,none⟩=some (.string q.key):=(J.pull 2).blk.cell 3;have ax:=h_ J;clear J aw F U;go_wp2_with fail;refine(KP ax.out q 0 val true f.out.msgs).mono ?_;rintro e bx ⟨rfl,a1⟩;have bf:=h_ a1;clear a1 ax z0 z1 z2 z3;go_wp2_with fail;refine(Lu bf.out).mono ?_;rintro e bz ⟨M,N,rfl,a2⟩;have T:=h_ a2;clear a2;have bm:=(T.out.pull 5).blk;obtain⟨ma,mc,a6⟩:=(T.out.pull 1).msgsV;obtain⟨ra,rc,a8⟩:=(T.out.pull 2).repsV;have a0:=h_2 a6 a8;clear a6 a8
   go_wp2_with (refine AS rfl _ _ _ rfl b8 [.slice none 0 0,.slice none 0 0] [M,N] 69 rfl rfl bm rfl Ys (by intro v hv;simp at hv;rcases hv with h|h;(rw[h,a0.out.1];rfl);(rw[h,a0.out.2];rfl)) ?_;intro cc ah bp)
   have bl:=((T.out.pull 5).set ah bp);refine Be (v:= .agg #[M,N]) ?_ rfl ⟨M,N,rfl, ?_⟩
   ·have F:=ah.cell 0
    have d1:=ah.cell 1;simp only[List.getElem?_cons_zero,List.getElem?_cons_succ]at F d1;simp[results,Tryz.results95,go_sem,F,d1]
   ·exact((bl.drop).pull 4).drop
  case b12=>intro L xv W c hl y E D p b o K' z;clear y E D;have u:=h_ c;obtain⟨j,d,_⟩:=c;have F:=j.c0;have U:=j.e0;have Z:W.cell? ⟨b9,0+3,none⟩=some (.string q.key):=d.cell 3;have be:W.cell? ⟨b9,3,none⟩=some (.string q.key):=d.cell 3;clear j d;simp at p;simp only[Al,Act.put,A8,A7,A6,p]at o;subst o;go_simp;clear F U Z be;have h0:=u.out.2.2.1 hl;refine(nd_put h0 f.out.lim q.key val f.out.may f.out.new f.out.room.1 f.out.room.2).mono ?_;rintro e w8 ⟨rfl,P⟩;go_simp;exact z _ _ rfl ⟨P.ndKB,(P.pull 2).blk,fun h=>by simp[upd]at h,fun _=>P⟩
  all_goals intro L xv W c y E D p b o K' z;have u:=h_ c;obtain⟨j,d,_⟩:=c;have F:=j.c0;have U:=j.e0;have Z:W.cell? ⟨b9,0+3,none⟩=some (.string q.key):=d.cell 3;have be:W.cell? ⟨b9,3,none⟩=some (.string q.key):=d.cell 3;clear j d;simp at p;simp only[Al,Act.put,A8,A7,A6,p]at o;subst o
  case b11=>clear y E D;refine Lb rfl 171 _ rfl #[(0,.string q.key),(1,.string val)] (by simp only[DZ,Br,Cy];rfl) (L7 q.key val 0 false) (fun W=>DD W _ _ _ (by rfl)) ?_;exact z _ _ rfl u.out
  all_goals clear y E D;go_simp;exact z _ _ rfl u.out
 case m6=>intro L xv W c hl y E D p b o K' z;clear y E D;have u:=h_ c;obtain⟨j,d,_⟩:=c;have d4:=j.c4;have r1:W.cell? ⟨b9,1+3,none⟩=some (.int .i64 (a:Int)):=d.cell 4;have bd:W.cell? ⟨b9,4,none⟩=some (.int .i64 (a:Int)):=d.cell 4;clear j d;simp at p;simp only[Al,Act.put,A8,A7,A6,p]at o;subst o;go_simp;clear d4 r1 bd;have h0:=u.out.2.2.1 hl;refine(Xw h0 f.out.few.2.1 a f.out.few.2.2 key true bh.out).mono ?_;rintro e w8 ⟨rfl,P⟩;go_simp;have ai:Sp (GW x (n.rd2 i a) B I++AF x.cb t::AM b9 (rdC (q,a)) 138::AM b8 [.slice none 0 0,.slice none 0 0] 69::R) w8:=P;have bn:=ai.ndL_r (O.out.1.same rfl rfl rfl rfl rfl rfl rfl) O.out.2;exact z _ _ rfl ⟨bn.k,(ai.pull 11).blk,fun h=>by simp[upd]at h,fun _=>ai⟩
 all_goals intro L xv W c y E D p b o K' z;clear y E D;have u:=h_ c;obtain⟨j,d,_⟩:=c;have d4:=j.c4;have r1:W.cell? ⟨b9,1+3,none⟩=some (.int .i64 (a:Int)):=d.cell 4;have bd:W.cell? ⟨b9,4,none⟩=some (.int .i64 (a:Int)):=d.cell 4;clear j d;simp at p;simp only[Al,Act.put,A8,A7,A6,p]at o;subst o;go_simp;exact z _ _ rfl u.out
end
def Nd.fresh (id:Nat):Nd:={id:=id,dk:={boot:=1}}
theorem Nd.fresh_quiet (id:Nat)(h:1≤id∧id≤5):(Nd.fresh id).Quiet :=⟨rfl,rfl,rfl,rfl,rfl,rfl,h⟩
section
variable {R:List As} {w w':World} {cb d t B:Nat}
theorem Xs (h:Sp (Qc d 1200::AF cb t::R) w)(id:Nat)(z:1≤id∧id≤5):
  Calls Tryz.prog 86 #[.int .i64 (id:Int),pr d 0,pr cb 0] w fun e w'=>∃x:NdP,e=.returned (.tuple #[pr x.nb 0,.int .i64 0])∧x.cb=cb∧x.d=d∧Sp (CJ x (Nd.fresh id) 0::AF cb t::R) w':=by
 obtain⟨F,⟨sb,L,c,rfl,n,Y,V⟩,J⟩:=h.step;refine(Ry (segs:=129) id cb z n (by omega) (by decide) (by omega)).mono ?_;rintro e w' ⟨f,le,g,l,stb,y,s,u,rfl,m,K,W,Z,p,j,k,hF,D,H,I,hz,C,N,E⟩;have X:d∉y.F stb∧sb∉y.F stb:=⟨fun b=>by have:=hF d (by simp[b]);have:=n.dev.lt;omega,fun b=>by have:=hF sb (by simp[b]);have:=n.secs.lt;omega⟩
 have M:StOk w' ⟨f,cb,d,sb,stb,le,g,y.k,y.cb,y.jb⟩ {boot:=1} 0 s u 101 [] [] y:=
  ⟨K,rfl,rfl,rfl,by omega,by omega,rfl,CacheOf.nil,Av _,by rw[C,N,E];exact⟨rfl,Av _,Av _⟩,H,I⟩
 have aa:=m.lt;have O:f≠le:=fun e=>m.ty.ne (e▸p.blk.ty) (by decide) rfl
 have P:f≠g:=fun e=>m.ty.ne (e▸j.blk.ty) (by decide) rfl
 have Q:f≠l:=fun e=>j.map.ne m.ty e
 have S:le≠g:=fun e=>p.blk.ty.ne (e▸j.blk.ty) (by decide) rfl
 have T:le≠l:=fun e=>j.map.ne p.blk.ty e
 have n6:g≠l:=fun e=>j.map.ne j.blk.ty e
 have A:∀q∈[f,le,g,l],q≠d∧q≠sb:=fun q a=>by have r:=hF q (A2 _ a);have v:=n.dev.lt;have U:=n.secs.lt;omega
 have o:∀q∈[f,le,g,l],q∉y.G ⟨f,cb,d,sb,stb,le,g,y.k,y.cb,y.jb⟩:=fun q a b=>by
  have r:=A q a;simp only[StD.G,Ac]at b;rcases b with e|e|e
  ·exact r.1 e
  ·exact r.2 e
  ·exact D q a e
 refine⟨⟨f,cb,d,sb,stb,le,g,y.k,y.cb,y.jb⟩,rfl,rfl,rfl, ?_⟩
 have v:=J (GW ⟨f,cb,d,sb,stb,le,g,y.k,y.cb,y.jb⟩ (Nd.fresh id) 0 ⟨none,.slice none 0 0,.slice none 0 0,.slice none 0 0,.slice none 0 0,[]⟩) w'
  ([f]++(y.G ⟨f,cb,d,sb,stb,le,g,y.k,y.cb,y.jb⟩++([le]++([]++(KG g l []++([]++([]++([]++([]++[]))))))))) ?_ k (fun q a=> ?_)
 ·exact Yz ⟨none,.slice none 0 0,.slice none 0 0,.slice none 0 0,.slice none 0 0,[]⟩ (Nd.fresh_quiet id z) rfl v
 ·refine J9.cons ⟨rfl,m⟩ (J9.cons ⟨s,u,101,[],[],y,rfl,M⟩ (J9.cons ⟨rfl,p⟩ (J9.cons rfl (J9.cons ⟨l,0,[],_,rfl,j,Av _,fun i=>rfl,fun i _=>rfl⟩
   (J9.cons ⟨rfl,AY w' 0 _ _⟩ (J9.cons ⟨rfl,AY w' 0 _ _⟩ (J9.cons ⟨rfl,AY w' 0 _ _⟩ (J9.cons ⟨by simp,by simp⟩ (J9.single ⟨rfl,AY w' 0 _ _⟩) (by simp)) (by simp)) (by simp)) (by simp)) (by simp)) (by simp)) ?_) ?_) ?_
  ·intro q a b
   simp[KG]at a b;subst a;rcases b with e|e
   ·exact S e
   ·exact T e
  ·intro q a b
   simp only[List.nil_append,AE,Ag,Ah,KG,Ac,Am,AG]at b;rcases b with rfl|rfl|rfl
   ·exact o q (by simp) a
   ·exact o q (by simp) a
   ·exact o q (by simp) a
  ·intro q a b
   rw[Ah]at a;subst a;simp only[List.nil_append,AE,Ag,Ah,KG,Ac,Am,AG]at b;rcases b with h|rfl|rfl|rfl
   ·exact o q (by simp) h
   ·exact O rfl
   ·exact P rfl
   ·exact Q rfl
 ·simp only[List.nil_append,AE,Ag,Ah,KG,Ac,Am,AG,StD.G]at a⊢
  rcases a with rfl|(rfl|rfl|h)|rfl|rfl|rfl
  ·exact .inr (hF q (by simp))
  ·exact .inl (.inl rfl)
  ·exact .inl (.inr rfl)
  ·exact .inr (hF q (by simp[h]))
  ·exact .inr (hF q (by simp))
  ·exact .inr (hF q (by simp))
  ·exact .inr (hF q (by simp))
end
def As.le (A B:As):Prop:=∀F w,A.P F w→B.P F w
theorem As.le_refl (A:As):A.le A:=fun _ _ h=>h
def Gj:=@As.le_refl
def LeL:List As→List As→Prop
 |[],[]=>True
 |a::l,b::m=>a.le b∧LeL l m
 |_,_=>False
theorem J9.le:∀ {l m:List As} {F:List Nat} {w:World},LeL l m→J9 l F w→J9 m F w
 |[],[],_,_,_,h=>h
 |a::l,b::m,_,w,⟨h1,h2⟩,⟨F1,F2,e,ha,hl,hd⟩=>⟨F1,F2,e,h1 F1 w ha,J9.le h2 hl,hd⟩
 |[],_::_,_,_,h,_=>h.elim
 |_::_,[],_,_,h,_=>h.elim
theorem Ev {l m:List As}(h:LeL l m):(ED l).le (ED m):=fun F w hF=>J9.le h hF
theorem Wb {α:Sort _}{f g:α→As}(h:∀a,(f a).le (g a)):(As.ex f).le (As.ex g):=fun F w ⟨a,hF⟩=>⟨a,h a F w hF⟩
theorem Sj {p:Prop}{A B:As}(h:A.le B):(As.and p A).le (As.and p B):=fun F w ⟨a,hF⟩=>⟨a,h F w hF⟩
theorem Sp.le {A B:As}{R:List As}{w:World}(h:Sp (A::R) w)(a:A.le B):Sp (B::R) w:=h.weak (fun F hF=>a F w hF)
theorem stA_le {x:NdP}{k:Disk}{B B':Nat}(a:B≤B'):(UQ x k B).le (UQ x k B'):=fun F w ⟨L,c,t,M,Q,y,hF,h⟩=>⟨L,c,t,M,Q,y,hF,⟨h.at_,h.kp,h.ca,h.jo,h.len,by have:=h.lim;omega,h.jk,h.cache,h.used,h.tab,h.last,h.pair⟩⟩
theorem NO {x:NdP}{n:Nd}{B B':Nat}(a:B≤B'):(CJ x n B).le (CJ x n B'):=
 Wb fun v=>Sj (Ev ⟨Gj _,stA_le a,Gj _,Gj _,Gj _,Gj _,Gj _,Gj _,Gj _,Gj _,trivial⟩)
theorem Wu {x:CtP}{a:Au}{B B':Nat}(b:B≤B'):(Ni x a B).le (Ni x a B'):=fun F w ⟨s,g,sb,d,j,e,c,base,n,f,hF,h⟩=>⟨s,g,sb,d,j,e,c,base,n,f,hF,⟨h.ct,h.rows,h.base_,h.dev,h.gr,AJ h.few b,h.rel⟩⟩
def FDev (L:List Sec)(t:Nat)(Q:List (Nat×FR)):Prop:=
 ∃S c d q,DevOk L 162 129 d S∧SOk 129 S c q∧(1≤c∧c≤t∧d≤t∧q≤t)∧Tail 129 S (Q.map frRec)∧encN (Q.map frRec)≤2225∧Q.Pairwise (fun a b=>a.1<b.1)∧(∀r∈Q,r.1<c)∧∀r∈Q,∀k v,r.2=.put k v→itMay k v 0 false=true
structure CrOk (w:World) (d sb:Nat) (k:Disk) (B:Nat) (L:List Sec) (c t slot turn:Nat) (M:List JMk) (Q:List (Nat×FR)):Prop where
 dev:IsDev w d sb L c
 len:L.length=1200
 lim:c≤5000+20*B∧t≤1000+B
 sup:slot≤1∧0<turn∧turn≤t
 last:∀s∈L,flushSec s=s
 pair:Pair L 0 slot turn (meText (k.boot:Int) (k.epoch:Int) (k.ready:Int) k.frozen)
 jn:JDev L 2 t M
 jk:M.map (fun a=>toStr a.key)=k.jk
 fl:FDev L t Q
 cache:CacheOf Q k.cache
 used:encN (Q.map frRec)≤k.used
def SZ (d:Nat)(k:Disk)(B:Nat):As:=⟨fun F w=>∃(sb:Nat) (L:List Sec) (c t a turn:Nat) (M:List JMk) (Q:List (Nat×FR)),F=[d,sb]∧CrOk w d sb k B L c t a turn M Q,
 fun⟨sb,L,c,t,a,turn,M,Q,hF,h⟩ g f=>⟨sb,L,c,t,a,turn,M,Q,hF,⟨h.dev.keep g (fun b=>f _ b (by rw[hF];simp)) (fun b=>f _ b (by rw[hF];simp)),h.len,h.lim,h.sup,h.last,h.pair,h.jn,h.jk,h.fl,h.cache,h.used⟩⟩,fun⟨sb,L,c,t,a,turn,M,Q,hF,h⟩ q e=>by
  rw[hF]at e;simp only[Ac,Am,AG]at e;rcases e with rfl|rfl
  ·exact h.dev.dev.lt
  ·exact h.dev.secs.lt⟩
theorem crA_le {d:Nat}{k:Disk}{B B':Nat}(b:B≤B'):(SZ d k B).le (SZ d k B'):=fun F w ⟨sb,L,c,t,a,turn,M,Q,hF,h⟩=>⟨sb,L,c,t,a,turn,M,Q,hF,⟨h.dev,h.len,by have:=h.lim;omega,h.sup,h.last,h.pair,h.jn,h.jk,h.fl,h.cache,h.used⟩⟩
def cdA (d:Nat)(k:Nat×Nat×List Nat):As:=⟨fun F w=>∃(sb:Nat) (L:List Sec) (c a turn:Nat),F=[d,sb]∧IsDev w d sb L c∧Pair L 0 a turn (stT (k.1:Int) (k.2.1:Int) (k.2.2.map Int.ofNat))∧a≤1∧0<turn∧turn≤2*k.2.1∧c≤4*k.2.1+5,
 fun⟨sb,L,c,a,turn,hF,h,e⟩ j g=>⟨sb,L,c,a,turn,hF,h.keep j (fun b=>g _ b (by rw[hF];simp)) (fun b=>g _ b (by rw[hF];simp)),e⟩,fun⟨sb,L,c,a,turn,hF,h,e⟩ q f=>by
  rw[hF]at f;simp only[Ac,Am,AG]at f;rcases f with rfl|rfl
  ·exact h.dev.lt
  ·exact h.secs.lt⟩
def noA:As:=⟨fun _ _=>False,fun h=>h.elim,fun h=>h.elim⟩
def Jq (o:Option Nat)(d k:Nat)(nd:Option Nd)(t B:Nat)(made:Bool)(a:Disk):As:=
 match o,nd with
 |some nb,some n=>As.ex fun x:NdP=>As.and (x.nb=nb∧x.cb=k∧x.d=d∧made=true) (ED [CJ x n B,AF k t])
 |none,none=>ED [if made=true then SZ d a B else Qc d 1200,AF k t]
 |_,_=>noA
theorem GF {o:Option Nat}{d k:Nat}{nd:Option Nd}{t B B':Nat}{made:Bool}{a:Disk}(b:B≤B'):(Jq o d k nd t B made a).le (Jq o d k nd t B' made a):=by
 unfold Jq
 cases o with
 |none=>
  cases nd with
  |none=>
   refine Ev ⟨?_,Gj _,trivial⟩
   split
   ·exact crA_le b
   ·exact Gj _
  |some n=>exact Gj _
 |some nb=>
  cases nd with
  |none=>exact Gj _
  |some n=>exact Wb fun x=>Sj (Ev ⟨NO b,Gj _,trivial⟩)
def C0 (o:Option Nat)(d k:Nat)(c:Option Au)(t B:Nat)(b:Nat×Nat×List Nat):As:=
 match o,c with
 |some p,some a=>ED [Ni ⟨p,k,d⟩ a B,AF k t]
 |none,none=>ED [cdA d b,AF k t]
 |_,_=>noA
theorem LX {o:Option Nat}{d k:Nat}{c:Option Au}{t B B':Nat}{b:Nat×Nat×List Nat}(e:B≤B'):(C0 o d k c t B b).le (C0 o d k c t B' b):=by
 unfold C0
 cases o with
 |none=>cases c with
  |none=>exact Gj _
  |some n=>exact Gj _
 |some nb=>cases c with
  |none=>exact Gj _
  |some a=>exact Ev ⟨Wu e,Gj _,trivial⟩
structure ClV where
 cp:Option Nat
 cdv:Nat
 ccv:Nat
 nd:Nat→Option Nat
 dv:Nat→Nat
 ck:Nat→Nat
 np:Nat
 op:Nat
 lp:Nat
def pt (b:Nat):Value:=pr b 0
def BW (v:ClV)(made:Nat→Bool):List Value:=
 [Cu v.cp,pt v.cdv,pt v.ccv,.pointer none,Cu (v.nd 1),Cu (v.nd 2),Cu (v.nd 3),Cu (v.nd 4),Cu (v.nd 5),.pointer none,pt (v.dv 1),pt (v.dv 2),pt (v.dv 3),pt (v.dv 4),pt (v.dv 5),
  .pointer none,pt (v.ck 1),pt (v.ck 2),pt (v.ck 3),pt (v.ck 4),pt (v.ck 5),.bool false,.bool (made 1),.bool (made 2),.bool (made 3),.bool (made 4),.bool (made 5),pt v.np,pt v.op,pt v.lp]
def AX (v:ClV)(S:Cl)(B i:Nat):As:=Jq (v.nd i) (v.dv i) (v.ck i) (S.nodes i) (S.clk i) B (S.made i) (S.devs i)
def CW (v:ClV)(S:Cl)(B:Nat):As:=ED [AX v S B 1,AX v S B 2,AX v S B 3,AX v S B 4,AX v S B 5]
def Dh (v:ClV)(S:Cl)(B i:Nat):As:=ED (([1,2,3,4,5].filter (fun j=>decide (j≠i))).map (AX v S B))
section
variable {R:List As} {w w':World} {v v':ClV} {S S':Cl} {B B' i p:Nat}
theorem Sp.slotOut (h:Sp (CW v S B::R) w)(c:1≤i∧i≤5):Sp (AX v S B i::Dh v S B i::R) w:=by
 have b:Sp ([AX v S B 1,AX v S B 2,AX v S B 3,AX v S B 4,AX v S B 5]++R) w:=h.open_;rcases(by omega:i=1∨i=2∨i=3∨i=4∨i=5)with rfl|rfl|rfl|rfl|rfl
 ·have a:Sp ([AX v S B 2,AX v S B 3,AX v S B 4,AX v S B 5]++(AX v S B 1::R)) w:=b.sel [1,2,3,4,0] 5 rfl rfl
  exact(DV _ a).pull 1
 ·have a:Sp ([AX v S B 1,AX v S B 3,AX v S B 4,AX v S B 5]++(AX v S B 2::R)) w:=b.sel [0,2,3,4,1] 5 rfl rfl
  exact(DV _ a).pull 1
 ·have a:Sp ([AX v S B 1,AX v S B 2,AX v S B 4,AX v S B 5]++(AX v S B 3::R)) w:=b.sel [0,1,3,4,2] 5 rfl rfl
  exact(DV _ a).pull 1
 ·have a:Sp ([AX v S B 1,AX v S B 2,AX v S B 3,AX v S B 5]++(AX v S B 4::R)) w:=b.sel [0,1,2,4,3] 5 rfl rfl
  exact(DV _ a).pull 1
 ·have a:Sp ([AX v S B 1,AX v S B 2,AX v S B 3,AX v S B 4]++(AX v S B 5::R)) w:=b.sel [0,1,2,3,4] 5 rfl rfl
  exact(DV _ a).pull 1
structure SameAt (v v':ClV) (S S':Cl) (j:Nat):Prop where
 nd:v'.nd j=v.nd j
 dv:v'.dv j=v.dv j
 ck:v'.ck j=v.ck j
 node:S'.nodes j=S.nodes j
 clk:S'.clk j=S.clk j
 made:S'.made j=S.made j
 dev:S'.devs j=S.devs j
theorem SameAt.le {j:Nat}(h:SameAt v v' S S' j)(a:B≤B'):(AX v S B j).le (AX v' S' B' j):=by unfold AX;rw[h.nd,h.dv,h.ck,h.node,h.clk,h.made,h.dev];exact GF a
theorem Sp.slotIn (h:Sp (AX v' S' B' i::Dh v S B i::R) w)(e:1≤i∧i≤5)(a:B≤B')(b:∀j,j≠i→SameAt v v' S S' j):Sp (CW v' S' B'::R) w:=by
 have d:=h.pull 1;rcases(by omega:i=1∨i=2∨i=3∨i=4∨i=5)with rfl|rfl|rfl|rfl|rfl
 ·have c:=d.le (B:=ED [AX v' S' B' 2,AX v' S' B' 3,AX v' S' B' 4,AX v' S' B' 5]) (Ev (m:=[AX v' S' B' 2,AX v' S' B' 3,AX v' S' B' 4,AX v' S' B' 5]) ⟨(b 2 (by decide)).le a,(b 3 (by decide)).le a,(b 4 (by decide)).le a,(b 5 (by decide)).le a,trivial⟩)
  exact DV [_,_,_,_,_] (YH (l:=[AX v' S' B' 2,AX v' S' B' 3,AX v' S' B' 4,AX v' S' B' 5,AX v' S' B' 1]) c.open_ [4,0,1,2,3] 5 rfl rfl)
 ·have c:=d.le (B:=ED [AX v' S' B' 1,AX v' S' B' 3,AX v' S' B' 4,AX v' S' B' 5]) (Ev (m:=[AX v' S' B' 1,AX v' S' B' 3,AX v' S' B' 4,AX v' S' B' 5]) ⟨(b 1 (by decide)).le a,(b 3 (by decide)).le a,(b 4 (by decide)).le a,(b 5 (by decide)).le a,trivial⟩)
  exact DV [_,_,_,_,_] (YH (l:=[AX v' S' B' 1,AX v' S' B' 3,AX v' S' B' 4,AX v' S' B' 5,AX v' S' B' 2]) c.open_ [0,4,1,2,3] 5 rfl rfl)
 ·have c:=d.le (B:=ED [AX v' S' B' 1,AX v' S' B' 2,AX v' S' B' 4,AX v' S' B' 5]) (Ev (m:=[AX v' S' B' 1,AX v' S' B' 2,AX v' S' B' 4,AX v' S' B' 5]) ⟨(b 1 (by decide)).le a,(b 2 (by decide)).le a,(b 4 (by decide)).le a,(b 5 (by decide)).le a,trivial⟩)
  exact DV [_,_,_,_,_] (YH (l:=[AX v' S' B' 1,AX v' S' B' 2,AX v' S' B' 4,AX v' S' B' 5,AX v' S' B' 3]) c.open_ [0,1,4,2,3] 5 rfl rfl)
 ·have c:=d.le (B:=ED [AX v' S' B' 1,AX v' S' B' 2,AX v' S' B' 3,AX v' S' B' 5]) (Ev (m:=[AX v' S' B' 1,AX v' S' B' 2,AX v' S' B' 3,AX v' S' B' 5]) ⟨(b 1 (by decide)).le a,(b 2 (by decide)).le a,(b 3 (by decide)).le a,(b 5 (by decide)).le a,trivial⟩)
  exact DV [_,_,_,_,_] (YH (l:=[AX v' S' B' 1,AX v' S' B' 2,AX v' S' B' 3,AX v' S' B' 5,AX v' S' B' 4]) c.open_ [0,1,2,4,3] 5 rfl rfl)
 ·have c:=d.le (B:=ED [AX v' S' B' 1,AX v' S' B' 2,AX v' S' B' 3,AX v' S' B' 4]) (Ev (m:=[AX v' S' B' 1,AX v' S' B' 2,AX v' S' B' 3,AX v' S' B' 4]) ⟨(b 1 (by decide)).le a,(b 2 (by decide)).le a,(b 3 (by decide)).le a,(b 4 (by decide)).le a,trivial⟩)
  exact DV [_,_,_,_,_] (YH (l:=[AX v' S' B' 1,AX v' S' B' 2,AX v' S' B' 3,AX v' S' B' 4,AX v' S' B' 5]) c.open_ [0,1,2,3,4] 5 rfl rfl)
theorem M9 (a:B≤B'):(CW v S B).le (CW v S B'):=Ev ⟨GF a,GF a,GF a,GF a,GF a,trivial⟩
end
def Bo (p:Nat)(v:ClV)(S:Cl)(B:Nat):List As:=
 [AM p (BW v S.made) 104,CI v.np S.net,FI v.op S.onow S.org,F9 v.lp S.log,C0 v.cp v.cdv v.ccv S.c S.cc B S.cd,CW v S B]
def Dm (L:List Call):Prop:=∀(i:Nat) (c:Call),L[i]?=some c→c.id=i+1
def CN (p:Nat)(S:Cl)(B:Nat):As:=As.ex fun v:ClV=>As.and (Dm S.log) (ED (Bo p v S B))
section
variable {R:List As} {w w':World} {v v':ClV} {S S':Cl} {B B' i p:Nat}
theorem Sp.cls (h:Sp (CN p S B::R) w):∃v:ClV,Dm S.log∧Sp (Bo p v S B++R) w:=by obtain⟨v,h⟩:=h.exE;obtain⟨a,h⟩:=h.andE;exact⟨v,a,h.open_⟩
theorem Sp.clsI (v:ClV)(a:Dm S.log)(h:Sp (Bo p v S B++R) w):Sp (CN p S B::R) w:=Sp.exI v (Sp.andI a (DV _ h))
def Yu:=@Sp.clsI
theorem Ta (a:B≤B'):LeL (Bo p v S B) (Bo p v S B'):=⟨Gj _,Gj _,Gj _,Gj _,LX a,M9 a,trivial⟩
theorem Sp.clsMono (h:Sp (CN p S B::R) w)(a:B≤B'):Sp (CN p S B'::R) w:=h.le (Wb fun v=>Sj (Ev (Ta a)))
theorem Gd (v:ClV)(made:Nat→Bool)(a:1≤i∧i≤5):(BW v made)[3+i]?=some (Cu (v.nd i)):=by rcases(by omega:i=1∨i=2∨i=3∨i=4∨i=5)with rfl|rfl|rfl|rfl|rfl<;>rfl
theorem FQ (v:ClV)(made:Nat→Bool)(a:1≤i∧i≤5):(BW v made)[9+i]?=some (pt (v.dv i)):=by rcases(by omega:i=1∨i=2∨i=3∨i=4∨i=5)with rfl|rfl|rfl|rfl|rfl<;>rfl
theorem B5 (v:ClV)(made:Nat→Bool)(a:1≤i∧i≤5):(BW v made)[15+i]?=some (pt (v.ck i)):=by rcases(by omega:i=1∨i=2∨i=3∨i=4∨i=5)with rfl|rfl|rfl|rfl|rfl<;>rfl
theorem Qt (v:ClV)(made:Nat→Bool)(a:1≤i∧i≤5):(BW v made)[21+i]?=some (.bool (made i)):=by rcases(by omega:i=1∨i=2∨i=3∨i=4∨i=5)with rfl|rfl|rfl|rfl|rfl<;>rfl
end
section
variable {R:List As} {w w':World} {v v':ClV} {S S':Cl} {B B' i p:Nat}
theorem cl_net (h:Blk w p (BW v S.made) 104):Calls Tryz.prog 34 #[pt p] w fun e w'=>e=.returned (pt v.np)∧w'=w:=by have c27:w.cell? ⟨p,27,none⟩=some (pt v.np):=h.cell 27;unfold pt at*;clear h;go_enter Tryz.func34,Tryz.ntmps34;go_wp2_with fail;go_ret;exact⟨rfl,rfl⟩
theorem U1 (h:Blk w p (BW v S.made) 104):Calls Tryz.prog 30 #[pt p] w fun e w'=>e=.returned (pt v.op)∧w'=w:=by have c27:w.cell? ⟨p,28,none⟩=some (pt v.op):=h.cell 28;unfold pt at*;clear h;go_enter Tryz.func30,Tryz.ntmps30;go_wp2_with fail;go_ret;exact⟨rfl,rfl⟩
theorem Ww (h:Blk w p (BW v S.made) 104):Calls Tryz.prog 28 #[pt p] w fun e w'=>e=.returned (pt v.lp)∧w'=w:=by have c27:w.cell? ⟨p,29,none⟩=some (pt v.lp):=h.cell 29;unfold pt at*;clear h;go_enter Tryz.func28,Tryz.ntmps28;go_wp2_with fail;go_ret;exact⟨rfl,rfl⟩
theorem RV (h:Blk w p (BW v S.made) 104):Calls Tryz.prog 61 #[pt p] w fun e w'=>e=.returned (Cu v.cp)∧w'=w:=by have c27:w.cell? ⟨p,0,none⟩=some (Cu v.cp):=h.cell 0;unfold pt Cu at*;clear h;go_enter Tryz.func61,Tryz.ntmps61;go_wp2_with fail;go_ret;exact⟨rfl,rfl⟩
theorem IE (h:Blk w p (BW v S.made) 104)(a:1≤i∧i≤5):Calls Tryz.prog 19 #[pt p,.int .i64 (i:Int)] w fun e w'=>e=.returned (Cu (v.nd i))∧w'=w:=by
 have c27:w.cell? ⟨p,3+i,none⟩=some (Cu (v.nd i)):=by rw[h.cell];exact Gd v S.made a
 have b:¬(i:Int)<1:=by omega
 have c:¬(5:Int)<(i:Int):=by omega
 have d:(i:Int)<6:=by omega
 have f:i<6:=by omega
 unfold pt Cu at*;clear h a;go_enter Tryz.func19,Tryz.ntmps19;go_wp2;go_ret;exact⟨rfl,rfl⟩
end
def DS (a:Nat)(L:List Call)(r:Rp):List Call:=L.map (fun c=>if c.id=r.id∧c.done=false∧c.op=r.op∧c.key=r.key then {c with done:=true,too:=a,rp:=r}else c)
def Hs (a:Nat):List Call→List Rp→Prop
 |_,[]=>True
 |L,r::K=>(∃(i:Nat) (c:Call),r.id=i+1∧L[i]?=some c∧c.done=false∧c.op=r.op∧c.key=r.key)∧Hs a (DS a L r) K
theorem Wd {f:Nat}{L:List Call}{r:Rp}(e:Dm L){i:Nat}{c:Call}(o:r.id=i+1)(a:L[i]?=some c)(g:c.done=false)(n:c.op=r.op)(l:c.key=r.key):DS f L r=L.set i (Qw c f r):=by
 apply List.ext_getElem?;intro j;unfold DS;rw[AN,CM];by_cases b:i=j
 ·subst b
  have m:=(Ai.1 a).1;rw[a,Ay rfl,Ay m];have:=e i c a;simp only[Option.map_some];rw[Ay ⟨by omega,g,n,l⟩];rfl
 ·rw[Aw b]
  cases k:L[j]? with
  |none=>rfl
  |some d=>have:=e j d k;simp only[Option.map_some];rw[Aw (by intro h;omega)]
theorem We {f:Nat}{L:List Call}{r:Rp}(e:Dm L):Dm (DS f L r):=by
 intro i c a;unfold DS at a;rw[AN]at a;obtain⟨d,b,rfl⟩:=Gg.1 a;have:=e i d b
 split<;>exact this
theorem LI {a:Nat}:∀(K:List Rp) (L:List Call),Dm L→Dm (K.foldl (DS a) L)
 |[],L,h=>h
 |r::K,L,h=>LI K _ (We h)
theorem Hs.at {a:Nat}:∀(K:List Rp) (L:List Call),Hs a L K→∀(j:Nat) (r:Rp),K[j]?=some r→∃(i:Nat) (c:Call),r.id=i+1∧((K.take j).foldl (DS a) L)[i]?=some c∧c.done=false∧c.op=r.op∧c.key=r.key
 |[],_,_,j,r,h=>by simp at h
 |r0::K,L,h,0,r,hr=>by simp at hr;subst hr;exact h.1
 |r0::K,L,h,j+1,r,hr=>by have:=Hs.at K _ h.2 j r (by simpa using hr);simpa using this
theorem Uq (K:List Rp)(S:Cl):(K.foldl Cl.endCall S)={S with log:=K.foldl (DS S.onow) S.log}:=by
 induction K generalizing S with
 |nil=>rfl
 |cons r K ih=>rw[List.foldl_cons,ih];rfl
theorem Ku {α β:Type}(f:β→α→β)(K:List α)(j:Nat)(r:α)(b:β)(h:K[j]?=some r):(K.take (j+1)).foldl f b=f ((K.take j).foldl f b) r:=by rw[BH,Gn,h];rfl
section
variable {R:List As} {w w':World} {v v':ClV} {S S':Cl} {B B' i p:Nat} {ms rp:Value} {M:List Wm} {K:List Rp}
def cameS (p:Nat)(v:ClV)(S:Cl)(B c:Nat)(r:Rp)(a b:List Call)(R:List As)(L:Nat→Bool)(W:World):Prop:=
 Blk W p (BW v S.made) 104∧Blk W c (rpC r) 43∧(L 10=false→Sp (Bo p v {S with log:=a} B++R) W)∧(L 10=true→Sp (Bo p v {S with log:=b} B++R) W)
def came0S (p:Nat)(v:ClV)(S:Cl)(B a:Nat)(ms rp:Value)(M:List Wm)(R:List As)(L:Nat→Bool)(W:World):Prop:=
 Blk W p (BW v S.made) 104∧Blk W a [ms,rp] 69∧(L 6=false→Sp (Bo p v S B++Dp ms M::R) W)∧(L 6=true→Sp (Bo p v {S with net:=S.net++M} B++R) W)
theorem J6 (h:Sp (Bo p v S B++Dp ms M::Dn rp K::R) w)(hM:∀m∈M,m.Ok)(H:S.net.length+M.length≤300)(hK:Hs S.onow S.log K)(hn:Dm S.log)(hk:K.length≤1000):
  Calls Tryz.prog 90 #[pt p,.agg #[ms,rp]] w fun e w'=>e=.returned (.tuple #[])∧Sp (Bo p v {S with net:=S.net++M,log:=K.foldl (DS S.onow) S.log} B++R) w':=by
 obtain⟨D,E,af⟩:=(h.pull 6).msgsV;obtain⟨C,f,ah⟩:=(h.pull 7).repsV;have ar:=af;have au:=ah;have V:=(h.alloc [ms,rp] 69);have V:Sp (Bo p v S B++Dp ms M::Dn rp K::AM w.heap.size [ms,rp] 69::R) (w.alloc (.cells #[ms,rp] 69)):=V.push 8;have F:=h_ V;have T:=h_6 hM H hK hn af ah;unfold pt;clear h V hM H hK hn af ah;subst ar;subst au;go_enter Tryz.func90,Tryz.ntmps90;go_wp2_with fail;obtain⟨b3,ab⟩:∃b,b=w.heap.size:=⟨_,rfl⟩;obtain⟨w1,ai⟩:∃w1,w1=w.alloc (.cells #[.slice D M.length E,.slice C K.length f] 69):=⟨_,rfl⟩;rw[←ab,←ai]at F;rw[←ab,←ai];clear ab ai;obtain⟨I,ae⟩:∃m,m=M.length:=⟨_,rfl⟩;obtain⟨kl,Y⟩:∃m,m=K.length:=⟨_,rfl⟩;rw[←ae,←Y]at F⊢;have aa:=h_2 ae Y;rw[←Y]at hk;clear ae Y;refine wK (A:=[0,1,3,7,0,16,63]) 64 [pr p 0,pr p 0,pr p 27,pr v.np 0,pr b3 0,.slice D I E,.int .i64 (M.length:Int)] (came0S p v S B b3 (.slice D I E) (.slice C kl f) M (Dn (.slice C kl f) K::AM b3 [.slice D I E,.slice C kl f] 69::R)) ?mstart (.s ?m0<|.s ?m1<|.s ?m2<|.s ?m3<|.s ?m4<|.s ?m5<|.t ?m6<|.nil) ?mfin
 case mstart=>exact⟨F.out.blk.drew,(F.out.pull 8).blk.drew,fun _=>F.out.drew,(fun h=>by cases h)⟩
 case mfin=>
  intro L w9 a P;have c:=a.2.2.2 (P 6 (by decide) (by decide));have H9:=h_ c;have m1:w9.cell? ⟨b3,1,none⟩=some (.slice C kl f):=a.2.1.cell 1;clear a P c F;simp[Al,Act.put];go_wp2_with fail;clear m1
  go_loopw [16] (fun ay wr=>∃j:Nat,ay=.int .i64 (j:Int)∧j≤kl∧Sp (Bo p v {S with net:=S.net++M,log:=(K.take j).foldl (DS S.onow) S.log} B++Dn (.slice C kl f) K::R) wr) (fun x _=>kl+1-(intOf x).toNat)
  case atStart=>exact⟨0,rfl,AA _,(H9.out.pull 7).drop⟩
  case round=>
  obtain⟨j,rfl,hj,hr⟩:=hrel;have HR:=h_ hr;by_cases am:j<kl
  ·obtain⟨r,ag⟩:∃r,K[j]?=some r:=⟨_,Ad (by rw[←aa.out.2];exact am)⟩
   have q0:(j:Int)<(kl:Int):=by omega
   have ax:decide (j<kl)=true:=An am;obtain⟨g,cap,ad,_,_,an,_,_⟩:=Cq (k:=6) S7 ((hr.pull 6).row) ag
   have aq:C=some ⟨g,0,none⟩∧cap=f:=by rw[←aa.out.2]at ad;injection ad with J U N;exact⟨J,N.symm⟩
   obtain⟨ao,ak⟩:=i_2 an ag;obtain⟨av,_⟩:=aq;subst av;clear an ad hr ag
   go_upto_region 5 with(first|(refine Bc rfl 43 _ rfl g (j*6) rfl [.int .i64 (r.id:Int),.int .i64 (r.op:Int),.string r.key,.int .i64 (r.err:Int),.string r.val,.bool r.has] _ ao.out Tryz.underlying43 rfl (by rfl) ?_)|fail)
   obtain⟨b5,ac⟩:∃b,b=wr.heap.size:=⟨_,rfl⟩;obtain⟨w2,aj⟩:∃w2,w2=wr.alloc (.cells #[.int .i64 (r.id:Int),.int .i64 (r.op:Int),.string r.key,.int .i64 (r.err:Int),.string r.val,.bool r.has] 43):=⟨_,rfl⟩
   have h2:Sp (Bo p v {S with net:=S.net++M,log:=(K.take j).foldl (DS S.onow) S.log} B++Dn (.slice (some ⟨g,0,none⟩) kl f) K::AM b5 (rpC r) 43::R) w2:=by rw[aj,ac];exact(HR.out.alloc (rpC r) 43).push 7
   have Q:=h_ h2;rw[←ac,←aj];clear ac aj h2 HR;refine wK (A:=[0,1,3,7,0,0,32,96,224,480,1023]) 1024 [pr p 0,pr p 0,pr p 29,pr v.lp 0,.agg (rpC r).toArray,pr p 0,pr p 0,pr p 28,pr v.op 0,.int .i64 (S.onow:Int),.bool true] (cameS p v {S with net:=S.net++M} B b5 r ((K.take j).foldl (DS S.onow) S.log) ((K.take (j+1)).foldl (DS S.onow) S.log) (Dn (.slice (some ⟨g,0,none⟩) kl f) K::AM b5 (rpC r) 43::R)) ?bstart (.s ?b0<|.s ?b1<|.s ?b2<|.s ?b3<|.s ?b4<|.s ?b5<|.s ?b6<|.s ?b7<|.s ?b8<|.s ?b9<|.t ?b10<|.nil) ?bfin
   case bstart=>exact⟨Q.out.blk.drew,(Q.out.pull 7).blk.drew,fun _=>Q.out.drew,(fun h=>by cases h)⟩
   case bfin=>
    intro L w9 a P;have c:=a.2.2.2 (P 10 (by decide) (by decide));have H9:=h_ c;clear a P c Q;simp[Al,Act.put];go_wp2
    go_roundw
    case rel=>exact⟨j+1,by go_num,by omega,(H9.out.pull 7).drop⟩
    case measure=>simp only[intOf];omega
   case b10=>intro L xv W a H u z q o b n K' y;clear u z q;have l:=h_ a;obtain⟨d,h5,_⟩:=a;have c28:W.cell? ⟨p,28,none⟩=some (pr v.op 0):=d.cell 28;have c29:W.cell? ⟨p,29,none⟩=some (pr v.lp 0):=d.cell 29;clear d h5;simp at o;simp only[Al,Act.put,A8,A7,A6,o]at n;subst n;go_simp;clear c28 c29;have G:=l.out.2.2.1 H;obtain⟨ii,cc,J,U,N,e4,e5⟩:=T.out.2.2.1.at K _ j r ak.out;have al:Dm ((K.take j).foldl (DS S.onow) S.log):=LI _ _ T.out.2.2.2.1;refine(W4 (G.pull 3) r S.onow ii J cc U N e4 e5).mono ?_;rintro e Z ⟨rfl,X⟩;rw[←Wd al J U N e4 e5,←Ku (DS S.onow) K j r S.log ak.out]at X;clear al J U N e4 e5 G;go_simp;have c:Sp (Bo p v {S with net:=S.net++M,log:=(K.take (j+1)).foldl (DS S.onow) S.log} B++Dn (.slice (some ⟨g,0,none⟩) kl f) K::AM b5 (rpC r) 43::R) Z:=X.push 3;exact y _ _ rfl ⟨c.blk,(c.pull 7).blk,fun h=>by simp[upd]at h,fun _=>c⟩
   all_goals intro L xv W a u z q o b n K' y;have l:=h_ a;obtain⟨d,h5,_⟩:=a;have c28:W.cell? ⟨p,28,none⟩=some (pr v.op 0):=d.cell 28;have c29:W.cell? ⟨p,29,none⟩=some (pr v.lp 0):=d.cell 29;clear d h5;simp at o;simp only[Al,Act.put,A8,A7,A6,o]at n;subst n
   case b4=>clear u z q;refine Cb 43 _ rfl b5 (by rfl) 43 (rpC r).toArray (0,0) _ l.out.2.1 Tryz.underlying43 rfl (by rfl) (by rfl) ?_;exact y _ _ rfl l.out
   case b9=>have aw:L 10=false:=q 10 (by decide);clear u z q;go_simp;clear c28 c29;have G:=l.out.2.2.1 aw;refine(Lq (G.pull 2)).mono ?_;rintro e Z ⟨rfl,rfl⟩;go_simp;exact y _ _ rfl l.out
   all_goals clear u z q;go_simp;exact y _ _ rfl l.out
  ·have he:j=kl:=by omega
   subst he;have q0:¬(j:Int)<(j:Int):=by omega
   have ax:decide (j<j)=false:=Ak (by omega);go_wp2
   go_end0
   refine⟨rfl, ?_⟩;have hh:=(HR.out.pull 6).drop;rw[aa.out.2,Bt]at hh;exact hh
 case m6=>intro L xv W a H u z q o b n K' y;clear u z q;have l:=h_ a;obtain⟨d,O,_⟩:=a;have c27:W.cell? ⟨p,27,none⟩=some (pr v.np 0):=d.cell 27;have m0:W.cell? ⟨b3,0,none⟩=some (.slice D I E):=O.cell 0;clear d O;simp at o;simp only[Al,Act.put,A8,A7,A6,o]at n;subst n;go_simp;clear c27 m0;have G:=l.out.2.2.1 H;have ap:=(G.pull 6).pull 2;refine(Ja ap T.out.1 T.out.2.1).mono ?_;rintro e Z ⟨rfl,X⟩;go_simp;have c:Sp (Bo p v {S with net:=S.net++M} B++Dn (.slice C kl f) K::AM b3 [.slice D I E,.slice C kl f] 69::R) Z:=X.push 1;exact y _ _ rfl ⟨c.blk,(c.pull 7).blk,fun h=>by simp[upd]at h,fun _=>c⟩
 all_goals intro L xv W a u z q o b n K' y;clear u z q;have l:=h_ a;obtain⟨d,O,_⟩:=a;have c27:W.cell? ⟨p,27,none⟩=some (pr v.np 0):=d.cell 27;have m0:W.cell? ⟨b3,0,none⟩=some (.slice D I E):=O.cell 0;clear d O;simp at o;simp only[Al,Act.put,A8,A7,A6,o]at n;subst n;go_simp;exact y _ _ rfl l.out
end
def Cl.setNdT (S:Cl)(a:Nat)(n:Nd)(t:Nat):Cl:={S with nodes:=Ej S.nodes a (some n),devs:=Ej S.devs a n.dk,clk:=Ej S.clk a t}
theorem Da {α:Type}(f:Nat→α)(a:Nat)(y:α):Ej f a y a=y:=Ay rfl
theorem Di {α:Type}(f:Nat→α)(a:Nat)(y:α){b:Nat}(h:b≠a):Ej f a y b=f b:=Aw h
theorem XA {α:Type}(f:Nat→α)(a:Nat):Ej f a (f a)=f:=by
 funext b
 unfold Ej
 split
 ·rename_i h;rw[h]
 ·rfl
theorem Cl.setNdT_clk (S:Cl)(a:Nat)(n:Nd):S.setNdT a n (S.clk a)=S.setNd a n:=by unfold Cl.setNdT Cl.setNd;rw[XA]
def YC:=@Cl.setNdT_clk
theorem Cl.came_eq (S:Cl)(a:Nat)(r:Nd×List Wm×List Rp)(h:S.net.length+r.2.1.length≤300):S.came a r={S.setNd a r.1 with net:=S.net++r.2.1,log:=r.2.2.foldl (DS S.onow) S.log}:=by unfold Cl.came;rw[Uq];unfold Cl.send;have e:(S.setNd a r.1).net =S.net:=rfl;rw[e,Ba (by omega)];rfl
def Y3:=@Cl.came_eq
section
variable {R R':List As} {w w':World} {v v':ClV} {S S':Cl} {B B' a p:Nat} {n n':Nd}
theorem Sp.slotUp (h:Sp (AX v S B a::R) w)(i:S.nodes a=some n):∃x:NdP,v.nd a=some x.nb∧x.cb=v.ck a∧x.d=v.dv a∧S.made a=true∧Sp (CJ x n B::AF x.cb (S.clk a)::R) w:=by
 unfold AX Jq at h;rw[i]at h
 cases c:v.nd a with
 |none=>rw[c]at h;obtain⟨F,hF,_⟩:=h.one;exact hF.elim
 |some nb=>rw[c]at h;obtain⟨x,h⟩:=h.exE;obtain⟨⟨e,b,f,g⟩,h⟩:=h.andE;exact⟨x,by rw[e],b,f,g,by rw[b];exact h.open_⟩
theorem Sp.slotDown (h:Sp (AX v S B a::R) w)(c:S.nodes a=none):v.nd a=none∧Sp ((if S.made a=true then SZ (v.dv a) (S.devs a) B else Qc (v.dv a) 1200)::AF (v.ck a) (S.clk a)::R) w:=by
 unfold AX Jq at h;rw[c]at h
 cases b:v.nd a with
 |none=>rw[b]at h;exact⟨rfl,h.open_⟩
 |some nb=>rw[b]at h;obtain⟨F,hF,_⟩:=h.one;exact hF.elim
theorem Sp.slotUpI {x:NdP}{t:Nat}(h:Sp (CJ x n B::AF x.cb t::R) w)(c:v.nd a=some x.nb)(b:x.cb=v.ck a)(e:x.d=v.dv a)(g:S.nodes a=some n)(i:S.clk a=t)(f:S.made a=true):Sp (AX v S B a::R) w:=by unfold AX Jq;rw[c,g,f,i];rw[b]at h;exact Sp.exI x (Sp.andI ⟨rfl,b,e,rfl⟩ (DV [_,_] h))
theorem Sp.ndOut (h:Sp (Bo p v S B++R) w)(i:1≤a∧a≤5)(u:S.nodes a=some n):∃x:NdP,v.nd a=some x.nb∧x.cb=v.ck a∧
  Sp (CJ x n B::AF x.cb (S.clk a)::Dh v S B a::AM p (BW v S.made) 104::CI v.np S.net::FI v.op S.onow S.org::F9 v.lp S.log::C0 v.cp v.cdv v.ccv S.c S.cc B S.cd::R) w∧
  ∀(w':World) (n':Nd) (b B':Nat) (R':List As),B≤B'→Sp (CJ x n' B'::AF x.cb b::Dh v S B a::AM p (BW v S.made) 104::CI v.np S.net::FI v.op S.onow S.org::F9 v.lp S.log::C0 v.cp v.cdv v.ccv S.c S.cc B S.cd::R') w'→Sp (Bo p v (S.setNdT a n' b) B'++R') w':=by
 have m:Sp (CW v S B::AM p (BW v S.made) 104::CI v.np S.net::FI v.op S.onow S.org::F9 v.lp S.log::C0 v.cp v.cdv v.ccv S.c S.cc B S.cd::R) w:=h.pull 5;obtain⟨x,e,f,k,l,o⟩:=(m.slotOut i).slotUp u;refine⟨x,e,f,o,fun w' n' b B' R' g q=> ?_⟩;have r:Sp (AX v (S.setNdT a n' b) B' a::Dh v S B a::_) w':=q.slotUpI e f k (Da _ _ _) (Da _ _ _) l
 have s:Sp (CW v (S.setNdT a n' b) B'::AM p (BW v S.made) 104::CI v.np S.net::FI v.op S.onow S.org::F9 v.lp S.log::C0 v.cp v.cdv v.ccv S.c S.cc B S.cd::R') w':=
  r.slotIn i g (fun j d=>⟨rfl,rfl,rfl,Di _ _ _ d,Di _ _ _ d,rfl,Di _ _ _ d⟩)
 have t:=s.push 5;exact(t.pull 4).le (LX g)|>.push 4
end
def hearS (p a:Nat)(v:ClV)(S:Cl)(B B' c:Nat)(b:List Value)(y:Tm)(n':Nd)(M:List Wm)(K:List Rp)(R:List As)(U:Nat→Bool)(X:Nat→Value)(W:World):Prop:=
 Blk W c b 175∧(U 10=false→W.cell? ⟨p,3+a,none⟩=some (Cu (v.nd a)))∧
 (U 9=false→U 10=false→Sp (Bo p v S B++Gs y::AM c b 175::R) W)∧
 (U 9=true→U 10=false→∃d e,X 9=.agg #[d,e]∧Sp (Bo p v (S.setNd a n') B'++Dp d M::Dn e K::Gs y::AM c b 175::R) W)∧
 (U 10=true→Sp (Bo p v {S.setNd a n' with net:=S.net++M,log:=K.foldl (DS S.onow) S.log} B'++Gs y::AM c b 175::R) W)
section
variable {R:List As} {w w':World} {v:ClV} {S:Cl} {B B' a p:Nat} {n n':Nd} {M:List Wm} {K:List Rp}
theorem Ql {y:Tm}{m:Wm}(h:Sp (Bo p v S B++Gs y::R) w)(Z:y.m=wmMs m)(z:m.dst=a)(ha:1≤a∧a≤5)(hn:S.nodes a=some n)(j:B≤B')
  (ad:∀(x:NdP) (W:World) (R':List As),Sp (CJ x n B::Gs y::AF x.cb (S.clk a)::R') W→Calls Tryz.prog 107 #[pr x.nb 0,.agg (Cm y).toArray] W fun e w'=>∃D E,e=.returned (.agg #[D,E])∧Sp (CJ x n' B'::Dp D M::Dn E K::Gs y::AF x.cb (S.clk a)::R') w')
  (hM:∀m∈M,m.Ok) (G:S.net.length+M.length≤300) (hK:Hs S.onow S.log K) (ac:Dm S.log) (hk:K.length≤1000):
  Calls Tryz.prog 78 #[pt p,.agg (Cm y).toArray] w fun e w'=>e=.returned (.tuple #[])∧Sp (Bo p v {S.setNd a n' with net:=S.net++M,log:=K.foldl (DS S.onow) S.log} B'++R) w':=by
 obtain⟨d,N⟩:∃d,d=Cm y:=⟨_,rfl⟩;have Y:Sp (Bo p v S B++Gs y::AM w.heap.size d 175::R) (w.alloc (.cells d.toArray 175)):=(h.alloc d 175).push 7;have ab:=(Y.pull 7).blk;have m2:(w.alloc (.cells d.toArray 175)).cell? ⟨w.heap.size,2,none⟩=some (.int .i64 (m.dst:Int)):=by rw[ab.cell 2,N];simp[Cm,CZ,Z,wmMs]
 rw[z]at m2;have c:=h_9 ad hM G hK ac hk hn ha j;have i:=h_3 N Z z;have H:=h_ Y;have q0:((a:Int)==0)=false:=by simp;omega
 have q1:¬(a:Int)=0:=by omega
 have q2:(a:Int)<6:=by omega
 have q3:a<6:=by omega
 rw[←N];unfold pt;clear h Y ab ad hM G hK ac hk hn ha j N Z z;go_enter Tryz.func78,Tryz.ntmps78;go_wp2_with fail;obtain⟨u,O⟩:∃b,b=w.heap.size:=⟨_,rfl⟩;obtain⟨w1,P⟩:∃w1,w1=w.alloc (.cells d.toArray 175):=⟨_,rfl⟩;rw[←O,←P]at H;rw[←O,←P]at m2;rw[←O,←P];clear O P m2;refine wM (A:=[0,0,0,4,2,18,62,126,0,510,1023]) 1536 [fun _=>pr p 0,fun _=>pr p 0,fun _=>pr u 2,fun _=> .int .i64 (a:Int),fun _=>pr p 0,fun _=>pr p 3,fun _=>pr p (3+a),fun _=>Cu (v.nd a),fun _=> .agg d.toArray,fun _=>undef,fun _=>undef] (hearS p a v S B B' u d y n' M K R) ?start (.s ?m0<|.s ?m1<|.s ?m2<|.s ?m3<|.s ?m4<|.s ?m5<|.s ?m6<|.s ?m7<|.s ?m8<|.t ?m9<|.t ?m10<|.nil) ?fin
 case start=>intro X;exact⟨(H.out.pull 7).blk.drew,fun _=>by rw[H.out.blk.drew.cell];exact Gd v _ c.out.2.2.2.2.2.2.2.1,fun _ _=>H.out.drew,(fun h=>by cases h),(fun h=>by cases h)⟩
 case fin=>
  intro U X w7 f z;have h7:=f.2.2.2.2 (z 10 (by decide) (by decide));have H7:=h_ h7;clear f z h7;simp[Al,Act.put,FK,Ab];go_wp2_with fail
  first
   |go_end0
   |refine Be (v:= .tuple #[]) (Cx rfl _ _ _) rfl ?_
  exact⟨rfl,(((H7.out.pull 6).drop).pull 6).drop⟩
 case' m9|m10=>
  intro U X xv W f G r o F C k B j K' q;have g:=h_ f;have m2:W.cell? ⟨u,2,none⟩=some (.int .i64 (a:Int)):=by rw[f.1.cell 2,i.out.1];simp[Cm,CZ,i.out.2.1,wmMs,i.out.2.2]
  clear f;simp[mV,mY,Ab]at F;simp only[Al,Act.put,A8,A7,A6,F]at j;subst j
 case m9=>
  have Q:U 10=false:=k 10 (by decide);clear r o C k m2;have h0:=g.out.2.2.1 G Q;obtain⟨x,e1,e2,I,aa⟩:=h0.ndOut c.out.2.2.2.2.2.2.2.1 c.out.2.2.2.2.2.2.1;have hs:=c.out.1 x W _ ((I.pull 8).push 1);rw[←i.out.1]at hs;have ep:Cu (v.nd a)=pr x.nb 0:=by rw[e1];rfl
  have T:=h_2 aa ep;clear h0 I aa ep e1 e2;go_simp;rw[T.out.2];refine hs.mono ?_;rintro e w3 ⟨D,E,rfl,J⟩;have L:=T.out.1 w3 n' (S.clk a) B' (Dp D M::Dn E K::Gs y::AM u d 175::R) c.out.2.2.2.2.2.2.2.2 (J.sel (l:=[_,_,_,_,_,_,_,_,_,_,_,_]) [0,4,5,6,7,8,9,10,1,2,3,11] 12 rfl rfl);rw[YC]at L;rw[←T.out.2];go_simp;exact q _ _ _ rfl ⟨(L.pull 9).blk,fun _=>by rw[L.blk.cell];exact Gd v _ c.out.2.2.2.2.2.2.2.1,fun h=>by simp[upd]at h,fun _ _=>⟨D,E,Bh _ _ _,L⟩,fun h=>by simp[upd,Q]at h⟩
 case m10=>have u9:U 9=true:=o 9 (by decide);have V:=r 9 u9;clear r o C k m2;obtain⟨D,E,g1,I⟩:=g.out.2.2.2.1 u9 G;rw[g1]at V;simp only[←V]at q⊢;clear V;have hc:=J6 I c.out.2.1 c.out.2.2.1 c.out.2.2.2.1 c.out.2.2.2.2.1 c.out.2.2.2.2.2.1;unfold pt at hc;go_simp;refine hc.mono ?_;rintro e w3 ⟨rfl,J⟩;go_simp;exact q _ _ _ rfl ⟨(J.pull 7).blk,fun h=>by simp[upd]at h,fun _ h=>by simp[upd]at h,fun _ h=>by simp[upd]at h,fun _=>J⟩
 all_goals
  intro U X xv W f r o F C k B j K' q;have g:=h_ f;have m2:W.cell? ⟨u,2,none⟩=some (.int .i64 (a:Int)):=by rw[f.1.cell 2,i.out.1];simp[Cm,CZ,i.out.2.1,wmMs,i.out.2.2]
  clear f;simp[mV,mY,Ab]at F;simp only[Al,Act.put,A8,A7,A6,F]at j;subst j
 case m7=>have Q:U 10=false:=k 10 (by decide);clear r o C k;have c3:W.cell? ⟨p,3+a,none⟩=some (Cu (v.nd a)):=g.out.2.1 Q;unfold Cu at*;go_simp;exact q _ _ _ rfl rfl g.out
 case m8=>clear r o C k;refine Cb 175 _ rfl u (by rfl) 175 d.toArray (0,0) _ g.out.1 AV rfl (by rw[i.out.1];exact C4) (by rfl) ?_;exact q _ _ _ rfl rfl g.out
 all_goals clear r o C k;go_simp;exact q _ _ _ rfl rfl g.out
end
theorem UE {w:World}(m:Ms)(a b f d:Value):Calls Tryz.prog 106 #[.pointer none,Yi m a b f d] w fun e w'=>e=.returned (.slice none 0 0)∧Keep [] w w':=by go_enter Tryz.func106,Tryz.ntmps106;go_wp2;go_ret;exact⟨rfl,(By [] w).alloc _⟩
def hear0S (p:Nat)(v:ClV)(S f:Cl)(B B' e:Nat)(d:List Value)(y:Tm)(M:List Wm)(R:List As)(U:Nat→Bool)(X:Nat→Value)(W:World):Prop:=
 Blk W e d 175∧Blk W p (BW v S.made) 104∧
 (U 9=false→U 10=false→Sp (Bo p v S B++Gs y::AM e d 175::R) W)∧
 (U 9=true→U 10=false→∃(a:Option Addr) (c:Nat) (b:List Tm),X 9=.slice a b.length c∧(∀z∈b,TmOk W z)∧b.map (·.m)=M.map wmMs∧Sp (Bo p v f B'++BF 175 21 (X 9) b.length (tc b)::Gs y::AM e d 175::R) W)∧
 (U 10=true→Sp (Bo p v {f with net:=S.net++M} B'++Gs y::AM e d 175::R) W)
section
variable {R:List As} {w w':World} {v:ClV} {S:Cl} {B B' p:Nat} {c c':Au} {M:List Wm}
theorem Sp.auOut (h:Sp (Bo p v S B++R) w)(k:S.c=some c):∃b,v.cp=some b∧Sp (Ni ⟨b,v.ccv,v.cdv⟩ c B::AF v.ccv S.cc::AM p (BW v S.made) 104::CI v.np S.net::FI v.op S.onow S.org::F9 v.lp S.log::CW v S B::R) w∧
  ∀(w':World) (c':Au) (e B':Nat) (d:List As),B≤B'→Sp (Ni ⟨b,v.ccv,v.cdv⟩ c' B'::AF v.ccv e::AM p (BW v S.made) 104::CI v.np S.net::FI v.op S.onow S.org::F9 v.lp S.log::CW v S B::d) w'→Sp (Bo p v {S.setAu c' with cc:=e} B'++d) w':=by
 have a:Sp (C0 v.cp v.cdv v.ccv S.c S.cc B S.cd::AM p (BW v S.made) 104::CI v.np S.net::FI v.op S.onow S.org::F9 v.lp S.log::CW v S B::R) w:=h.pull 4;unfold C0 at a;rw[k]at a
 cases f:v.cp with
 |none=>rw[f]at a;obtain⟨F,hF,_⟩:=a.one;exact hF.elim
 |some b=>
  rw[f]at a;refine⟨b,rfl,a.open_,fun w' c' e B' d j g=> ?_⟩
  have i:Sp (C0 v.cp v.cdv v.ccv (some c') e B' (c'.epoch,c'.top,c'.mem)::AM p (BW v S.made) 104::CI v.np S.net::FI v.op S.onow S.org::F9 v.lp S.log::CW v S B::d) w':=by unfold C0;rw[f];exact DV [_,_] g
  exact(((i.pull 5).le (M9 j)).push 5).push 4
theorem Sp.auDown (h:Sp (Bo p v S B++R) w)(b:S.c=none):v.cp=none:=by
 have a:Sp (C0 v.cp v.cdv v.ccv S.c S.cc B S.cd::_) w:=h.pull 4;unfold C0 at a;rw[b]at a
 cases d:v.cp with
 |none=>rfl
 |some cp=>rw[d]at a;obtain⟨F,hF,_⟩:=a.one;exact hF.elim
theorem Qm {y:Tm}{m:Wm}(h:Sp (Bo p v S B++Gs y::R) w)(hy:y.m=wmMs m)(r:m.dst=0)(N:S.c=some c)(g:B≤B')
  (ad:∀(x:CtP) (W:World) (R':List As),Sp (Ni x c B::AF x.kb S.cc::Gs y::R') W→Calls Tryz.prog 106 #[pr x.c 0,.agg (Cm y).toArray] W fun e w'=>∃u f,e=.returned u∧(∀z∈f,TmOk w' z)∧f.map (·.m)=M.map wmMs∧Sp (BF 175 21 u f.length (tc f)::Ni x c' B'::AF x.kb S.cc::Gs y::R') w')
  (hM:∀m∈M,m.Ok) (I:S.net.length+M.length≤300):
  Calls Tryz.prog 78 #[pt p,.agg (Cm y).toArray] w fun e w'=>e=.returned (.tuple #[])∧Sp (Bo p v {S.setAu c' with net:=S.net++M} B'++R) w':=by
 obtain⟨a,K⟩:∃a,a=Cm y:=⟨_,rfl⟩;have Y:Sp (Bo p v S B++Gs y::AM w.heap.size a 175::R) (w.alloc (.cells a.toArray 175)):=(h.alloc a 175).push 7;have ac:=(Y.pull 7).blk;have m2:(w.alloc (.cells a.toArray 175)).cell? ⟨w.heap.size,2,none⟩=some (.int .i64 0):=by rw[ac.cell 2,K];simp[Cm,CZ,hy,wmMs,r]
 have D:=h_5 ad hM I N g;have HY:=h_3 K hy r;have J:=h_ Y;rw[←K];unfold pt;clear h Y ac ad hM I N g K hy r;go_enter Tryz.func78,Tryz.ntmps78;go_wp2_with fail;obtain⟨E,L⟩:∃b,b=w.heap.size:=⟨_,rfl⟩;obtain⟨w1,O⟩:∃w1,w1=w.alloc (.cells a.toArray 175):=⟨_,rfl⟩;rw[←L,←O]at J;rw[←L,←O]at m2;rw[←L,←O];clear L O m2;refine wM (A:=[0,1,3,7,0,16,48,112,0,496,1023]) 1536 [fun _=>pr p 0,fun _=>pr p 0,fun _=>pr p 27,fun _=>pr v.np 0,fun _=>pr p 0,fun _=>pr p 0,fun _=>pr p 0,fun _=>Cu v.cp,fun _=> .agg a.toArray,fun _=>undef,fun _=>undef] (hear0S p v S (S.setAu c') B B' E a y M R) ?start (.s ?m0<|.s ?m1<|.s ?m2<|.s ?m3<|.s ?m4<|.s ?m5<|.s ?m6<|.s ?m7<|.s ?m8<|.t ?m9<|.t ?m10<|.nil) ?fin
 case start=>intro X;exact⟨(J.out.pull 7).blk.drew,J.out.blk.drew,fun _ _=>J.out.drew,(fun h=>by cases h),(fun h=>by cases h)⟩
 case fin=>
  intro U X w7 d r;have h7:=d.2.2.2.2 (r 10 (by decide) (by decide));have H7:=h_ h7;clear d r h7;simp[Al,Act.put,FK,Ab];go_wp2_with fail
  first
   |go_end0
   |refine Be (v:= .tuple #[]) (Cx rfl _ _ _) rfl ?_
  exact⟨rfl,(((H7.out.pull 6).drop).pull 6).drop⟩
 case' m9|m10=>intro U X xv W d I o j H C n B g K' k;have i:=h_ d;have T:W.cell? ⟨p,0,none⟩=some (Cu v.cp):=d.2.1.cell 0;have c27:W.cell? ⟨p,27,none⟩=some (pr v.np 0):=d.2.1.cell 27;clear d;simp[mV,mY,Ab]at H;simp only[Al,Act.put,A8,A7,A6,H]at g;subst g
 case m9=>
  have af:U 10=false:=n 10 (by decide);clear o j C n T c27;have h0:=i.out.2.2.1 I af;obtain⟨cp,e1,F,ab⟩:=h0.auOut D.out.2.2.2.1;have hs:=D.out.1 ⟨cp,v.ccv,v.cdv⟩ W _ ((F.pull 7).push 2);rw[←HY.out.1]at hs;have ep:Cu v.cp=pr cp 0:=by rw[e1];rfl
  have Q:=h_2 ab ep;clear h0 F ab ep e1;go_simp;rw[Q.out.2];refine hs.mono ?_;rintro e P ⟨u,f,rfl,hT,aa,G⟩;have hu:=G.row;obtain⟨ua,uc,ae⟩:=A4 hu;have q:=Q.out.1 P c' S.cc B' (BF 175 21 u f.length (tc f)::Gs y::AM E a 175::R) D.out.2.2.2.2 (G.sel (l:=[_,_,_,_,_,_,_,_,_,_]) [1,2,4,5,6,7,8,0,3,9] 10 rfl rfl);have Z:Sp (Bo p v (S.setAu c') B'++BF 175 21 u f.length (tc f)::Gs y::AM E a 175::R) P:=q;have ag:=h_ ae;clear G q hu ae;rw[←Q.out.2];go_simp;exact k _ _ _ rfl ⟨(Z.pull 8).blk,Z.blk,fun h=>by simp[upd]at h,fun _ _=>⟨ua,uc,f,by rw[Bh];exact ag.out,hT,aa,by rw[Bh];exact Z⟩,fun h=>by simp[upd,af]at h⟩
 case m10=>have u9:U 9=true:=j 9 (by decide);have V:=o 9 u9;clear o j C n T c27;obtain⟨ua,uc,f,g1,hT,aa,F⟩:=i.out.2.2.2.1 u9 I;rw[g1]at V F;simp only[←V]at k⊢;clear V;have N:=NK (M:=M) ((F.pull 6).pull 2) hT aa D.out.2.1 D.out.2.2.1;go_simp;refine N.mono ?_;rintro e P ⟨rfl,G⟩;have q:Sp (Bo p v {S.setAu c' with net:=S.net++M} B'++Gs y::AM E a 175::R) P:=G.push 1;go_simp;exact k _ _ _ rfl ⟨(q.pull 7).blk,q.blk,fun _ h=>by simp[upd]at h,fun _ h=>by simp[upd]at h,fun _=>q⟩
 all_goals intro U X xv W d o j H C n B g K' k;have i:=h_ d;have T:W.cell? ⟨p,0,none⟩=some (Cu v.cp):=d.2.1.cell 0;have c27:W.cell? ⟨p,27,none⟩=some (pr v.np 0):=d.2.1.cell 27;clear d;simp[mV,mY,Ab]at H;simp only[Al,Act.put,A8,A7,A6,H]at g;subst g
 case m7=>clear o j C n;unfold Cu at*;go_simp;exact k _ _ _ rfl rfl i.out
 case m8=>clear o j C n;refine Cb 175 _ rfl E (by rfl) 175 a.toArray (0,0) _ i.out.1 AV rfl (by rw[HY.out.1];exact C4) (by rfl) ?_;exact k _ _ _ rfl rfl i.out
 all_goals clear o j C n;go_simp;exact k _ _ _ rfl rfl i.out
theorem Mz {y:Tm}{m:Wm}(h:Sp (Bo p v S B++Gs y::R) w)(t:y.m=wmMs m)(g:m.dst=0)(H:S.c=none)(J:S.net.length≤300):
  Calls Tryz.prog 78 #[pt p,.agg (Cm y).toArray] w fun e w'=>e=.returned (.tuple #[])∧Sp (Bo p v S B++R) w':=by
 obtain⟨a,k⟩:∃a,a=Cm y:=⟨_,rfl⟩;have r:Sp (Bo p v S B++Gs y::AM w.heap.size a 175::R) (w.alloc (.cells a.toArray 175)):=(h.alloc a 175).push 7;have G:=(r.pull 7).blk;have m2:(w.alloc (.cells a.toArray 175)).cell? ⟨w.heap.size,2,none⟩=some (.int .i64 0):=by rw[G.cell 2,k];simp[Cm,CZ,t,wmMs,g]
 have x:=h_2 J (h.auDown H);have z:=h_3 k t g;have u:=h_ r;rw[←k];unfold pt;clear h r G H k t g J;go_enter Tryz.func78,Tryz.ntmps78;go_wp2_with fail;obtain⟨C,n⟩:∃b,b=w.heap.size:=⟨_,rfl⟩;obtain⟨K,q⟩:∃K,K=w.alloc (.cells a.toArray 175):=⟨_,rfl⟩;rw[←n,←q]at u;rw[←n,←q]at m2;rw[←n,←q];clear n q m2;refine wK (A:=[0,1,3,7,0,16,48,112,0,496,1023]) 0 [pr p 0,pr p 0,pr p 27,pr v.np 0,pr p 0,pr p 0,pr p 0,.pointer none,.agg a.toArray,.slice none 0 0,.int .i64 0] (fun _ W=>Sp (Bo p v S B++Gs y::AM C a 175::R) W) ?mstart (.s ?m0<|.s ?m1<|.s ?m2<|.s ?m3<|.s ?m4<|.s ?m5<|.s ?m6<|.s ?m7<|.s ?m8<|.s ?m9<|.s ?m10<|.nil) ?mfin
 case mstart=>exact u.out.drew
 case mfin=>
  intro L V d g;have N:=h_ d;clear d g;simp[Al,Act.put];go_wp2_with fail
  first
   |go_end0
   |refine Be (v:= .tuple #[]) (Cx rfl _ _ _) rfl ?_
  exact⟨rfl,(((N.out.pull 6).drop).pull 6).drop⟩
 all_goals
  intro L X W d i o l I b F U j;have f:=h_ d;have D:W.cell? ⟨p,0,none⟩=some (.pointer none):=by rw[d.blk.cell];show some (Cu v.cp)=_;rw[x.out.2];rfl
  have c27:W.cell? ⟨p,27,none⟩=some (pr v.np 0):=d.blk.cell 27;clear d;simp at I;simp only[Al,Act.put,A8,A7,A6,I]at F;subst F
 case m8=>clear i o l;refine Cb 175 _ rfl C (by rfl) 175 a.toArray (0,0) _ (f.out.pull 7).blk AV rfl (by rw[z.out.1];exact C4) (by rfl) ?_;exact j _ _ rfl f.out
 case m9=>
  clear i o l;go_simp;clear D c27;have O:=UE (w:=W) y.m (.slice none 0 0) (.slice none 0 0) y.vm y.vo;have P:Calls Tryz.prog 106 #[.pointer none,.agg a.toArray] W fun e w'=>e=.returned (.slice none 0 0)∧Keep [] W w':=by rw[z.out.1];exact O
  refine P.mono ?_;rintro e T ⟨rfl,Q⟩;go_simp;exact j _ _ rfl (f.out.still Q)
 case m10=>clear i o l;go_simp;clear D c27;refine(Ja (M:=[]) ((f.out.noMsgs.push 1).pull 1|>.push 0|>fun h=>((f.out.pull 1).noMsgs.push 1)) (by simp) (by simp;exact x.out.1)).mono ?_;rintro e T ⟨rfl,E⟩;rw[AE]at E;go_simp;exact j _ _ rfl (E.push 1)
 all_goals clear i o l;go_simp;exact j _ _ rfl f.out
end
theorem Pu {w:World}:Calls Tryz.prog 91 #[.pointer none] w fun e w'=>e=.returned (.agg #[.slice none 0 0,.slice none 0 0])∧Keep [] w w':=by
 have f:Blk (w.alloc (.cells #[.slice none 0 0,.slice none 0 0] 69)) w.heap.size [.slice none 0 0,.slice none 0 0] 69:=BY w _ _;have i:Keep [] w (w.alloc (.cells #[.slice none 0 0,.slice none 0 0] 69)):=(By _ _).alloc _;have k:∀W:World,(Instr.build 69 #[]).run Tryz.prog W=.ok (.agg #[.slice none 0 0,.slice none 0 0]) W:=fun W=>DD W _ _ _ (by rfl)
 have H:=h_2 f i;clear f i;go_enter Tryz.func91,Tryz.ntmps91
 go_wp2_with (refine AS rfl _ _ _ rfl w.heap.size [.slice none 0 0,.slice none 0 0] [.slice none 0 0,.slice none 0 0] 69 rfl rfl H.out.1 rfl Ys (by intro v h;simp at h;rw[h];rfl) ?_;intro m d j)
 refine Be (v:= .agg #[.slice none 0 0,.slice none 0 0]) ?_ rfl ⟨rfl,H.out.2.then j (fun q g l=>by simp only[Ah]at g;subst g;omega)⟩;have b:=d.cell 0;have c:=d.cell 1;simp only[List.getElem?_cons_zero,List.getElem?_cons_succ]at b c;simp[results,Tryz.results91,go_sem,b,c]
theorem Sp.noReps {R:List As}{w:World}(h:Sp R w):Sp (Dn (.slice none 0 0) []::R) w:=h.nilRow _ _
section
variable {R:List As} {w w':World} {v:ClV} {S:Cl} {B B' a p:Nat} {n n':Nd} {M:List Wm} {K:List Rp}
theorem Sp.clkFacts (h:Sp (Bo p v S B++R) w)(b:1≤a∧a≤5):w.cell? ⟨p,3+a,none⟩=some (Cu (v.nd a))∧w.cell? ⟨p,15+a,none⟩=some (pt (v.ck a)):=
 ⟨by rw[h.blk.cell];exact Gd v _ b,by rw[h.blk.cell];exact B5 v _ b⟩
theorem RS (h:Sp (Bo p v S B++R) w)(d:1≤a∧a≤5)(J:S.nodes a=some n)(A:B≤B')(P:S.clk a<1000000)
  (F:∀(x:NdP) (W:World) (t:List As),Sp (CJ x n B::AF x.cb (S.clk a+1)::t) W→Calls Tryz.prog 91 #[pr x.nb 0] W fun e w'=>∃f g,e=.returned (.agg #[f,g])∧Sp (CJ x n' B'::Dp f M::Dn g K::AF x.cb (S.clk a+1)::t) w')
  (D:∀m∈M,m.Ok) (H:S.net.length+M.length≤300) (C:Hs S.onow S.log K) (I:Dm S.log) (G:K.length≤1000):
  Calls Tryz.prog 69 #[pt p,.int .i64 (a:Int)] w fun e w'=>e=.returned (.int .i64 0)∧Sp (Bo p v {S.setNdT a n' (S.clk a+1)with net:=S.net++M,log:=K.foldl (DS S.onow) S.log} B'++R) w':=by
 obtain⟨x,i,j,c,E⟩:=h.ndOut d J;obtain⟨c3,c15⟩:=h.clkFacts d;rw[i]at c3;rw[←j]at c15;have O:w.cell? ⟨p,15+a,none⟩=some (pr x.cb 0):=c15;have T:¬(a:Int)<0:=by omega
 have U:¬(5:Int)<(a:Int):=by omega
 have V:((a:Int)==0)=false:=by simp;omega
 have X:¬(a:Int)=0:=by omega
 have Y:(a:Int)<6:=by omega
 have Z:a<6:=by omega
 have s:=h_ (FP (c.pull 1) (by omega));have b:=h_ (Aa F (Aa D (Aa H (Aa C (Aa I (Aa G (Aa A (Aa d (Aa E (Aa i j))))))))));unfold pt;clear h c E c3 c15 i j F D H C I G A d P J;go_enter Tryz.func69,Tryz.ntmps69;go_wp2_with fail;refine s.out.mono ?_;rintro e o ⟨rfl,c⟩;have L:Blk o p (BW v S.made) 104:=(c.pull 3).blk
 have c3:o.cell? ⟨p,3+a,none⟩=some (pr x.nb 0):=by rw[L.cell,Gd v _ b.out.2.2.2.2.2.2.2.1,b.out.2.2.2.2.2.2.2.2.2.1];rfl
 have q:=h_ (b.out.1 x o _ (c.push 1));clear s c L O;go_wp2_with fail;refine q.out.mono ?_;rintro e Q ⟨f,g,rfl,u⟩;have y:=b.out.2.2.2.2.2.2.2.2.1 Q n' (S.clk a+1) B' (Dp f M::Dn g K::R) b.out.2.2.2.2.2.2.1 (u.sel (l:=[_,_,_,_,_,_,_,_,_,_]) [0,3,4,5,6,7,8,9,1,2] 10 rfl rfl);have k:=J6 y b.out.2.1 b.out.2.2.1 b.out.2.2.2.1 b.out.2.2.2.2.1 b.out.2.2.2.2.2.1;unfold pt at k;have r:=h_ k;clear u y k q c3;go_wp2_with fail;refine r.out.mono ?_;rintro e w5 ⟨rfl,z⟩;have N:=h_ z;clear z r;go_wp2;go_ret;exact⟨rfl,N.out⟩
theorem Oe (h:Sp (Bo p v S B++R) w)(g:1≤a∧a≤5)(m:S.nodes a=none)(G:S.clk a<1000000)(z:Dm S.log)(y:S.net.length≤300):
  Calls Tryz.prog 69 #[pt p,.int .i64 (a:Int)] w fun e w'=>e=.returned (.int .i64 0)∧Sp (Bo p v {S with clk:=Ej S.clk a (S.clk a+1)} B++R) w':=by
 have t:Sp (CW v S B::AM p (BW v S.made) 104::CI v.np S.net::FI v.op S.onow S.org::F9 v.lp S.log::C0 v.cp v.cdv v.ccv S.c S.cc B S.cd::R) w:=h.pull 5;obtain⟨s,f⟩:=(t.slotOut g).slotDown m;obtain⟨c3,c15⟩:=h.clkFacts g;have C:w.cell? ⟨p,15+a,none⟩=some (pr (v.ck a) 0):=c15;have H:¬(a:Int)<0:=by omega
 have I:¬(5:Int)<(a:Int):=by omega
 have J:((a:Int)==0)=false:=by simp;omega
 have L:¬(a:Int)=0:=by omega
 have N:(a:Int)<6:=by omega
 have O:a<6:=by omega
 have r:=h_ (FP (f.pull 1) (by omega));have b:=h_5 z y g m s;unfold pt;clear h t f c3 c15 z y g G m s;go_enter Tryz.func69,Tryz.ntmps69;go_wp2_with fail;refine r.out.mono ?_;rintro e i ⟨rfl,f⟩
 have u:Sp (AX v {S with clk:=Ej S.clk a (S.clk a+1)} B a::Dh v S B a::AM p (BW v S.made) 104::CI v.np S.net::FI v.op S.onow S.org::F9 v.lp S.log::C0 v.cp v.cdv v.ccv S.c S.cc B S.cd::R) i:=by unfold AX Jq;rw[b.out.2.2.2.2];have F:({S with clk:=Ej S.clk a (S.clk a+1)}:Cl).nodes a=none:=b.out.2.2.2.1;rw[F];show Sp (ED [_,AF (v.ck a) (Ej S.clk a (S.clk a+1) a)]::_) i;rw[Da];exact DV [_,_] (f.push 1)
 have x:=u.slotIn b.out.2.2.1 (Av B) (fun j E=>⟨rfl,rfl,rfl,rfl,Di _ _ _ E,rfl,rfl⟩);have d:Sp (Bo p v {S with clk:=Ej S.clk a (S.clk a+1)} B++R) i:=x.push 5
 have c3:i.cell? ⟨p,3+a,none⟩=some (.pointer none):=by rw[d.blk.cell];have:=Gd v S.made b.out.2.2.1;rw[b.out.2.2.2.2]at this;exact this
 have k:=h_ d;clear r f u x d C;go_wp2_with fail;refine Pu.mono ?_;rintro e P ⟨rfl,o⟩;have l:=J6 (M:=[]) (K:=[]) (((k.out.still o).noReps.noMsgs.push 7).pull 1|>.push 7|>fun _=>((((k.out.still o).noReps).noMsgs.push 7).push 0|>fun _=>(((k.out.still o).noReps.push 6).noMsgs.push 6))) (by simp) (by simpa using b.out.2.1) trivial b.out.1 (by simp);unfold pt at l;have q:=h_ l;clear l c3;go_wp2_with fail;refine q.out.mono ?_;rintro e Q ⟨rfl,d⟩;have A:=h_ d;clear d q;go_wp2;go_ret;refine⟨rfl, ?_⟩;have D:=A.out
 have e:({({S with clk:=Ej S.clk a (S.clk a+1)}:Cl)with net:=S.net++[],log:=([]:List Rp).foldl (DS S.onow) S.log}:Cl)={S with clk:=Ej S.clk a (S.clk a+1)}:=by rw[AE];rfl
 exact e▸D
theorem WD {o:Option Nat}{d k t:Nat}{c:Option Au}{f:Nat×Nat×List Nat}(h:Sp (C0 o d k c t B f::R) w)(i:t<1000000):Calls Tryz.prog 87 #[pr k 0,.slice none 0 0] w fun e w'=>e=.returned (.int .i64 ((t+1:Nat):Int))∧Sp (C0 o d k c (t+1) B f::R) w':=by
 cases o with
 |none=>
  cases c with
  |none=>refine(FP ((Sp.open_ (l:=[_,_]) h).pull 1) (by omega)).mono ?_;rintro e g ⟨rfl,b⟩;exact⟨rfl,DV [_,_] (b.push 1)⟩
  |some c=>obtain⟨F,hF,_⟩:=h.one;exact hF.elim
 |some cp=>
  cases c with
  |none=>obtain⟨F,hF,_⟩:=h.one;exact hF.elim
  |some c=>refine(FP ((Sp.open_ (l:=[_,_]) h).pull 1) (by omega)).mono ?_;rintro e g ⟨rfl,b⟩;exact⟨rfl,DV [_,_] (b.push 1)⟩
theorem WE {o:Option Nat}{d k t:Nat}{c:Option Au}{b:Nat×Nat×List Nat}(h:Sp (C0 o d k c t B b::R) w)(f:∀a,c=some a→a.num=0):Calls Tryz.prog 89 #[Cu o] w fun e w'=>e=.returned (.slice none 0 0)∧w'=w:=by
 cases o with
 |none=>
  cases c with
  |none=>exact Wa WQ
  |some c=>obtain⟨F,hF,_⟩:=h.one;exact hF.elim
 |some cp=>
  cases c with
  |none=>obtain⟨F,hF,_⟩:=h.one;exact hF.elim
  |some c=>exact Od (x:=⟨cp,k,d⟩) (a:=c) (B:=B) (R:=AF k t::R) (Sp.open_ (l:=[Ni ⟨cp,k,d⟩ c B,AF k t]) h) (f c rfl)
theorem RT (h:Sp (Bo p v S B++R) w)(z:∀c,S.c=some c→c.num=0)(F:S.cc<1000000)(D:S.net.length≤300):
  Calls Tryz.prog 69 #[pt p,.int .i64 0] w fun e w'=>e=.returned (.int .i64 0)∧Sp (Bo p v {S with cc:=S.cc+1} B++R) w':=by
 have c2:w.cell? ⟨p,2,none⟩=some (pr v.ccv 0):=h.blk.cell 2;have t:Sp (C0 v.cp v.cdv v.ccv S.c S.cc B S.cd::AM p (BW v S.made) 104::CI v.np S.net::FI v.op S.onow S.org::F9 v.lp S.log::CW v S B::R) w:=h.pull 4
 have o:Hid (Calls Tryz.prog 87 #[pr v.ccv 0,.slice none 0 0] w fun e w'=>e=.returned (.int .i64 ((S.cc+1:Nat):Int))∧Sp (Bo p v {S with cc:=S.cc+1} B++R) w'):=by refine h_ ?_;refine(WD t F).mono ?_;rintro e Q ⟨rfl,g⟩;exact⟨rfl,g.push 4⟩
 have J:∀W q,Sp (Bo p v {S with cc:=S.cc+1} B++q) W→Hid (Calls Tryz.prog 89 #[Cu v.cp] W fun e w'=>e=.returned (.slice none 0 0)∧w'=W):=fun W q O=>h_ (WE (O.pull 4) z)
 have N:=h_ D;unfold pt;clear h t z F D;go_enter Tryz.func69,Tryz.ntmps69;go_wp2_with fail;refine o.out.mono ?_;rintro e Q ⟨rfl,g⟩;have H:=h_ g;clear o g c2;obtain⟨G,E⟩:∃a,Cu v.cp=.pointer a:=⟨_,rfl⟩;have m:=h_ E;clear E;go_wp2_with fail;refine wK (A:=[0,1,3,7,0,16,48,112,240,511]) 0 [pr p 0,pr p 0,pr p 27,pr v.np 0,pr p 0,pr p 0,pr p 0,.pointer G,.slice none 0 0,.int .i64 0] (fun _ W=>Sp (Bo p v {S with cc:=S.cc+1} B++R) W) ?mstart (.s ?m0<|.s ?m1<|.s ?m2<|.s ?m3<|.s ?m4<|.s ?m5<|.s ?m6<|.s ?m7<|.s ?m8<|.s ?m9<|.nil) ?mfin
 case mstart=>exact H.out.drew
 case mfin=>intro L V d P;have I:=h_ d;clear d P;simp[Al,Act.put];go_wp2;go_ret;exact⟨rfl,I.out⟩
 all_goals
  intro L X W d i l k C b x U j;have f:=h_ d;have r:W.cell? ⟨p,0,none⟩=some (.pointer G):=by rw[←m.out];exact d.blk.cell 0
  have c27:W.cell? ⟨p,27,none⟩=some (pr v.np 0):=d.blk.cell 27;clear d;simp at C;simp only[Al,Act.put,A8,A7,A6,C]at x;subst x
 case m8=>clear i l k;go_simp;clear r c27;have y:=(J W R f.out).out;rw[m.out]at y;refine y.mono ?_;rintro e T ⟨rfl,rfl⟩;go_simp;exact j _ _ rfl f.out
 case m9=>clear i l k;go_simp;clear r c27;refine(Ja (M:=[]) (((f.out.pull 1).noMsgs.push 1)) (by simp) (by simp;exact N.out)).mono ?_;rintro e T ⟨rfl,u⟩;rw[AE]at u;go_simp;exact j _ _ rfl (u.push 1)
 all_goals clear i l k;go_simp;exact j _ _ rfl f.out
end
def BC (b a n:Nat)(key val:Str)(on:Bool)(kv:Value):List Value:=[.int .i64 (b:Int),.int .i64 (a:Int),.int .i64 (n:Int),.string key,.string val,.bool on,kv]
def En (v:Value)(i:Nat):Value:=match v with
 | .tuple a=>a.getD i undef
 |_=>undef
def Ia (u:Bool)(A:As):As:=if u then A else ED []
theorem Sp.nilA {R:List As}{w:World}(h:Sp R w):Sp (ED []::R) w:=DV [] h
def QH:List Value:=[.int .i64 0,.int .i64 0,.int .i64 0,.int .i64 0,.int .i64 0,.int .i64 0,.int .i64 0,.int .i64 0,.int .i64 0,.string ⟨#[]⟩,.int .i64 0,.bool false,.string ⟨#[]⟩,.string ⟨#[]⟩,.int .i64 0,.bool false,.slice none 0 0,.slice none 0 0,.slice none 0 0,.int .i64 0,.slice none 0 0]
def mailS (p:Nat)(v:ClV)(S:Cl)(B c:Nat)(s:List Value)(m:Wm)(R:List As)(U:Nat→Bool)(X:Nat→Value)(W:World):Prop:=
 ∃(y:Tm) (b:Nat),(U 6=true→X 6=.tuple #[.agg (Cm y).toArray,.bool true]∧y.m=wmMs m)∧(U 10=true→X 10=pr b 0)∧Sp (Bo p v S B++Ia (U 6) (Gs y)::Ia (U 10) (AM b (if U 11 then Cm y else QH) 175)::AM c s 39::R) W
section
variable {R:List As} {w w':World} {v:ClV} {S S':Cl} {B B' a p i an:Nat} {m:Wm} {key val:Str} {on:Bool} {kv:Value}
theorem XG (h:Sp (Bo p v S B++R) w)(hm:S.net[i]?=some m)
  (hh:∀(y:Tm) (W:World) (R':List As),y.m=wmMs m→Sp (Bo p v (S.drop i) B++Gs y::R') W→Calls Tryz.prog 78 #[pt p,.agg (Cm y).toArray] W fun e w'=>e=.returned (.tuple #[])∧Sp (Bo p v S' B'++R') w'):
  Calls Tryz.prog 70 #[pt p,.agg (BC 2 an i key val on kv).toArray] w fun e w'=>e=.returned (.int .i64 0)∧Sp (Bo p v S' B'++R) w':=by
 obtain⟨s,N⟩:∃s,s=BC 2 an i key val on kv:=⟨_,rfl⟩;have k:Sp (Bo p v S B++AM w.heap.size s 39::R) (w.alloc (.cells s.toArray 39)):=(h.alloc s 39).push 6;have P:=h_ k;have z:=h_3 hm hh N;rw[←N];unfold pt;clear h k hm hh N;go_enter Tryz.func70,Tryz.ntmps70;go_wp2_with fail;obtain⟨j,ag⟩:∃b,b=w.heap.size:=⟨_,rfl⟩;obtain⟨w1,ah⟩:∃w1,w1=w.alloc (.cells s.toArray 39):=⟨_,rfl⟩;rw[←ag,←ah]at P;rw[←ag,←ah];clear ag ah;refine wM (A:=[0,1,3,7,0,16,63,127,255,255,0,1535,4095]) 3136 [fun _=>pr p 0,fun _=>pr p 0,fun _=>pr p 27,fun _=>pr v.np 0,fun _=>pr j 2,fun _=> .int .i64 (i:Int),fun _=>undef,fun y=>y 6,fun y=>En (y 6) 0,fun y=>En (y 6) 1,fun _=>undef,fun _=>undef,fun y=>En (y 6) 1] (mailS p v S B j s m R) ?start (.s ?m0<|.s ?m1<|.s ?m2<|.s ?m3<|.s ?m4<|.s ?m5<|.t ?m6<|.s ?m7<|.s ?m8<|.s ?m9<|.t ?m10<|.t ?m11<|.s ?m12<|.nil) ?fin
 case start=>intro X;exact⟨⟨wmMs m,undef,undef⟩,0,(fun h=>by cases h),(fun h=>by cases h),((P.out.drew.nilA.push 6).nilA.push 6)⟩
 case fin=>
  intro U X w7 g hd;have h6:=hd 6 (by decide) (by decide);have af:=hd 10 (by decide) (by decide);have aj:=hd 11 (by decide) (by decide);obtain⟨y,b,f,d,c⟩:=g;obtain⟨f,hy⟩:=f h6;have d:=d af;rw[h6,af,aj]at c;have k:Sp (Bo p v S B++Gs y::AM b (Cm y) 175::AM j s 39::R) w7:=c;clear hd c h6 af aj P;have N:=(k.pull 8).blk;have s0:w7.cell? ⟨j,0,none⟩=some (.int .i64 2):=by rw[N.cell,z.out.2.2];rfl
  have K:w7.cell? ⟨j,2,none⟩=some (.int .i64 (i:Int)):=by rw[N.cell,z.out.2.2];rfl
  have c27:w7.cell? ⟨p,27,none⟩=some (pr v.np 0):=k.blk.cell 27;have al:i<S.net.length:=(Ai.1 z.out.1).1;have HD:=h_ (Rr (k.drew.pull 1) i al);have HY:=h_ hy;clear k N al hy;simp[Al,Act.put,FK,Ab,f,d,En];clear f d;go_wp2_with fail;refine BJ 6 (by kernel_rfl) (by kernel_rfl) ?_;simp only[List.take_succ_cons,List.take_zero,BB,Bj]
  repeat still_step
  refine Du ?_;clear s0 K c27;go_wp2_with fail;refine HD.out.mono ?_;rintro e w8 ⟨rfl,h8⟩;have M:Sp (Bo p v (S.drop i) B++Gs y::AM b (Cm y) 175::AM j s 39::R) w8:=h8.push 1;have s0:w8.cell? ⟨j,0,none⟩=some (.int .i64 2):=by rw[(M.pull 8).blk.cell,z.out.2.2];rfl
  have H9:=h_ M;have HM:=h_ (M.pull 7).blk;clear h8 M HD
  go_wp2_with (refine BA 175 _ rfl b rfl 175 (Cm y).toArray (0,0) _ HM.out AV rfl C4 (by rfl) ?_)
  have hc:=z.out.2.1 y w8 _ HY.out H9.out;unfold pt at hc;refine hc.mono ?_;rintro e w9 ⟨rfl,M⟩;have ap:=h_ (((M.pull 6).drop.pull 6).drop);clear M hc H9 HM s0;go_wp2;go_ret;exact⟨rfl,ap.out⟩
 case m8=>
  intro U X O W g o n x G u B r K' E;have Q:=g;have q:U 6=true:=n 6 (by decide);have C:=o 6 q;obtain⟨y1,b1,Z,ab,ac⟩:=g;rw[(Z q).1]at C;clear Z ab ac q;have g:=Q;clear Q;clear o n G u;have D:=h_ g;obtain⟨y,b,f,d,c⟩:=g;have c27:W.cell? ⟨p,27,none⟩=some (pr v.np 0):=c.blk.cell 27;have K:W.cell? ⟨j,2,none⟩=some (.int .i64 (i:Int)):=by rw[(c.pull 8).blk.cell,z.out.2.2];rfl
  clear c f d y b;simp[mV,mY,Ab]at x;simp only[Al,Act.put,A8,A7,A6,x]at r;subst r;have L:=h_ C.symm;clear C;go_simp;rw[L.out];go_simp;exact E (.agg (Cm y1).toArray) _ _ (show .agg (Cm y1).toArray =En (O 6) 0 by rw[L.out];rfl) (by rw[L.out];first|done|rfl) D.out
 case m9=>
  intro U X O W g o n x G u B r K' E;have Q:=g;have q:U 6=true:=n 6 (by decide);have C:=o 6 q;obtain⟨y1,b1,Z,ab,ac⟩:=g;rw[(Z q).1]at C;clear Z ab ac q;have g:=Q;clear Q;clear o n G u;have D:=h_ g;obtain⟨y,b,f,d,c⟩:=g;have c27:W.cell? ⟨p,27,none⟩=some (pr v.np 0):=c.blk.cell 27;have K:W.cell? ⟨j,2,none⟩=some (.int .i64 (i:Int)):=by rw[(c.pull 8).blk.cell,z.out.2.2];rfl
  clear c f d y b;simp[mV,mY,Ab]at x;simp only[Al,Act.put,A8,A7,A6,x]at r;subst r;have L:=h_ C.symm;clear C;go_simp;rw[L.out];go_simp;exact E (.bool true) _ _ (show .bool true=En (O 6) 1 by rw[L.out];rfl) (by rw[L.out];first|done|rfl) D.out
 case' m6|m10|m11=>
  intro U X O W g hl o n x G u B r K' E;have D:=h_ g;obtain⟨y,b,f,d,c⟩:=g;have c27:W.cell? ⟨p,27,none⟩=some (pr v.np 0):=c.blk.cell 27;have K:W.cell? ⟨j,2,none⟩=some (.int .i64 (i:Int)):=by rw[(c.pull 8).blk.cell,z.out.2.2];rfl
  clear c f d y b;simp[mV,mY,Ab]at x;simp only[Al,Act.put,A8,A7,A6,x]at r;subst r
 case m6=>have I:U 11=false:=u 11 (by decide);clear o n G u c27 K;obtain⟨y,b,f,d,c⟩:=D.out;rw[I]at c;have aq:=Rq ((c.pull 1)) i m z.out.1;have H:=h_2 d I;clear f d c I;go_simp;refine aq.mono ?_;rintro e w3 ⟨y3,rfl,ar,h3⟩;have J:=(h3.pull 7).drop;have h5:=J.sel (l:=[_,_,_,_,_,_,_,_,_]) [2,1,3,4,5,6,0,7,8] 9 rfl rfl;have H5:=h_ h5;clear h3 J h5;go_simp;refine E _ _ _ rfl ⟨y3,b,fun _=>⟨rfl,ar⟩,fun h=>H.out.1 h, ?_⟩;show Sp (Bo p v S B++Ia (upd U 6 true 6) (Gs y3)::Ia (upd U 6 true 10) (AM b (if upd U 6 true 11=true then Cm y3 else QH) 175)::AM j s 39::R) w3;have T:upd U 6 true 6=true:=rfl;have V:upd U 6 true 10=U 10:=rfl;have Y:upd U 6 true 11=false:=H.out.2;rw[T,V,Y];exact H5.out
 case m10=>have I:U 11=false:=u 11 (by decide);clear o n G u c27 K;obtain⟨y,b,f,d,c⟩:=D.out;have J:=(c.pull 7).drop;have h5:=(J.alloc QH 175).push 7;have H:=h_3 f I h5;clear f d c J h5 I;go_simp;refine E _ _ _ rfl ⟨y,W.heap.size,fun h=>H.out.1 h,fun _=>rfl, ?_⟩;show Sp (Bo p v S B++Ia (upd U 10 true 6) (Gs y)::Ia (upd U 10 true 10) (AM W.heap.size (if upd U 10 true 11=true then Cm y else QH) 175)::AM j s 39::R) _;have T:upd U 10 true 6=U 6:=rfl;have V:upd U 10 true 10=true:=rfl;have Y:upd U 10 true 11=false:=H.out.2.1;rw[T,V,Y];exact H.out.2.2
 case m11=>have q:U 6=true:=n 6 (by decide);have aa:U 10=true:=n 10 (by decide);have C:=o 6 q;have ai:=o 10 aa;clear o n G u c27 K;obtain⟨y,b,f,d,c⟩:=D.out;have ae:=f q;have ad:=d aa;rw[ae.1]at C;rw[ad]at ai;rw[q,aa]at c;have I:U 11=false:=hl;rw[I]at c;have k:=c.pull 7;have k:Sp (AM b QH 175::Bo p v S B++Gs y::AM j s 39::R) W:=k;have ao:=k.pull 7;obtain⟨F,am⟩:=ao.tm;have hb:=k.blk;have H:=h_5 ae ad q aa k;have P:=h_ (am.one);clear f d ae ad c q aa k I hl ao am;refine Eu rfl _ _ _ rfl b QH (Cm y) 175 (by show O 10=_;rw[←ai]) (by show En (O 6) 0=_;rw[←C];rfl) hb rfl C4 P.out ?_;intro w3 ak k3;have J:=(H.out.2.2.2.2.set ak k3).push 7;have H4:=h_ J;clear ak k3 J hb;refine E _ _ _ rfl ⟨y,b,fun _=>H.out.1,fun _=>H.out.2.1, ?_⟩;show Sp (Bo p v S B++Ia (upd U 11 true 6) (Gs y)::Ia (upd U 11 true 10) (AM b (if upd U 11 true 11=true then Cm y else QH) 175)::AM j s 39::R) w3;have T:upd U 11 true 6=true:=H.out.2.2.1;have V:upd U 11 true 10=true:=H.out.2.2.2.1;have Y:upd U 11 true 11=true:=rfl;rw[T,V,Y];exact H4.out
 all_goals
  intro U X O W g o n x G u B r K' E;clear o n G u;have D:=h_ g;obtain⟨y,b,f,d,c⟩:=g;have c27:W.cell? ⟨p,27,none⟩=some (pr v.np 0):=c.blk.cell 27;have K:W.cell? ⟨j,2,none⟩=some (.int .i64 (i:Int)):=by rw[(c.pull 8).blk.cell,z.out.2.2];rfl
  clear c f d y b;simp[mV,mY,Ab]at x;simp only[Al,Act.put,A8,A7,A6,x]at r;subst r;go_simp;exact E _ _ _ rfl rfl D.out
end
def Cl.called (S:Cl)(op a:Nat)(key:Str):Cl:={S with log:=S.log++[Ml (S.log.length+1) op key a S.onow]}
theorem Dm.called {L:List Call}{op a pos:Nat}{key:Str}(h:Dm L):Dm (L++[Ml (L.length+1) op key a pos]):=by
 intro i c b;by_cases e:i<L.length
 ·rw[AK e]at b
  exact h i c b
 ·rw[AC (by omega)]at b
  have d:i-L.length=0:=by
   rcases F5 (i-L.length)with h|h
   ·exact h
   ·rw[D7 (by rw[List.length_singleton];exact h)]at b;cases b
  rw[d]at b;simp at b;rw[←b];show L.length+1=i+1;omega
def callS (p a op:Nat)(key:Str)(v:ClV)(S:Cl)(B B':Nat)(n':Nd)(M:List Wm)(K:List Rp)(R:List As)(U:Nat→Bool)(X:Nat→Value)(W:World):Prop:=
 Blk W p (BW v S.made) 104∧
 (U 14=false→Sp (Bo p v S B++R) W)∧
 (U 14=true→X 14=.int .i64 ((S.log.length+1:Nat):Int))∧
 (U 14=true→U 17=false→Sp (Bo p v (S.called op a key) B++R) W)∧
 (U 17=true→U 18=false→∃b c,X 17=.agg #[b,c]∧Sp (Bo p v ((S.called op a key).setNd a n') B'++Dp b M::Dn c K::R) W)∧
 (U 18=true→Sp (Bo p v {(S.called op a key).setNd a n' with net:=S.net++M,log:=K.foldl (DS S.onow) (S.called op a key).log } B'++R) W)
section
variable {R:List As} {w w':World} {v:ClV} {S:Cl} {B B' a p op:Nat} {n n':Nd} {M:List Wm} {K:List Rp} {key:Str}
theorem XH (h:Sp (Bo p v S B++R) w)(H:1≤a∧a≤5)(O:S.nodes a=some n)(f:B≤B')(ah:op≤1000)(ho:S.onow≤1000000)(ad:S.log.length<10000)
  (ai:∀(x:NdP) (W:World) (R':List As),Sp (CJ x n B::AF x.cb (S.clk a)::R') W→Calls Tryz.prog 96 #[pr x.nb 0,.int .i64 ((S.log.length+1:Nat):Int),.int .i64 (op:Int),.string key] W fun e w'=>∃C D,e=.returned (.agg #[C,D])∧Sp (CJ x n' B'::Dp C M::Dn D K::AF x.cb (S.clk a)::R') w')
  (hM:∀m∈M,m.Ok) (F:S.net.length+M.length≤300) (hK:Hs S.onow (S.called op a key).log K) (ae:Dm S.log) (hk:K.length≤1000):
  Calls Tryz.prog 73 #[pt p,.int .i64 (op:Int),.int .i64 (a:Int),.string key] w fun e w'=>e=.returned (.int .i64 0)∧Sp (Bo p v {(S.called op a key).setNd a n' with net:=S.net++M,log:=K.foldl (DS S.onow) (S.called op a key).log } B'++R) w':=by
 obtain⟨V,u,N,e3,e4⟩:=h.ndOut H O;have ep:Cu (v.nd a)=pr V.nb 0:=by rw[u];rfl
 have P:=IE h.blk H;rw[ep]at P;obtain⟨J,HE⟩:=i_2 P u;have c:=h_ (Aa ai (Aa hM (Aa F (Aa hK (Aa ae (Aa hk (Aa O (Aa H (Aa f (Aa ah (Aa ho ad)))))))))));have Y:=h_ h;obtain⟨I,ag⟩:∃I,I=V.nb:=⟨_,rfl⟩;rw[←ag]at J HE;unfold pt at*;clear h ai hM F hK ae hk O H f ah ho ad u N e3 e4 ep P ag V;go_enter Tryz.func73,Tryz.ntmps73;go_wp2_with fail;refine J.out.mono ?_;rintro e w1 ⟨rfl,rfl⟩;clear J;go_wp2_with fail;refine wM (A:=[0,0,0,4,12,28,0,0,0,0,512,1536,3584,7680,16380,0,0,131070,262143]) 409600 [fun _=>pr p 0,fun _=>pr I 0,fun _=>pr p 0,fun _=>pr p 0,fun _=>pr p 29,fun _=>pr v.lp 0,fun _=> .int .i64 (op:Int),fun _=> .string key,fun _=> .int .i64 (a:Int),fun _=>pr p 0,fun _=>pr p 0,fun _=>pr p 28,fun _=>pr v.op 0,fun _=> .int .i64 (S.onow:Int),fun _=>undef,fun _=> .int .i64 (op:Int),fun _=> .string key,fun _=>undef,fun _=>undef] (callS p a op key v S B B' n' M K R) ?start (.s ?m0<|.s ?m1<|.s ?m2<|.s ?m3<|.s ?m4<|.s ?m5<|.s ?m6<|.s ?m7<|.s ?m8<|.s ?m9<|.s ?m10<|.s ?m11<|.s ?m12<|.s ?m13<|.t ?m14<|.s ?m15<|.s ?m16<|.t ?m17<|.t ?m18<|.nil) ?fin
 case start=>intro X;exact⟨Y.out.blk.drew,fun _=>Y.out.drew,(fun h=>by cases h),(fun h=>by cases h),(fun h=>by cases h),(fun h=>by cases h)⟩
 case fin=>intro U X w7 b hd;have h7:=b.2.2.2.2.2 (hd 18 (by decide) (by decide));have H7:=h_ h7;clear b hd h7;simp[Al,Act.put,FK,Ab];go_wp2;go_ret;exact⟨rfl,H7.out⟩
 case m13=>intro U X xv W b k i q z d B f K' j;have aj:U 14=false:=d 14 (by decide);have aa:=b.2.1 aj;clear aj;clear k i z d;have g:=h_ b;have c28:W.cell? ⟨p,28,none⟩=some (pr v.op 0):=b.1.cell 28;have c29:W.cell? ⟨p,29,none⟩=some (pr v.lp 0):=b.1.cell 29;clear b;simp[mV,mY,Ab]at q;simp only[Al,Act.put,A8,A7,A6,q]at f;subst f;clear c28 c29;have d:=Lq (aa.pull 2);clear aa;go_simp;refine d.mono ?_;rintro e E ⟨rfl,rfl⟩;go_simp;exact j _ _ _ rfl rfl g.out
 case' m14|m17|m18=>intro U X xv W b F k i q z d B f K' j;have g:=h_ b;have c28:W.cell? ⟨p,28,none⟩=some (pr v.op 0):=b.1.cell 28;have c29:W.cell? ⟨p,29,none⟩=some (pr v.lp 0):=b.1.cell 29;clear b;simp[mV,mY,Ab]at q;simp only[Al,Act.put,A8,A7,A6,q]at f;subst f
 case m14=>have al:U 17=false:=d 17 (by decide);have Q:U 18=false:=d 18 (by decide);clear k i z d c28 c29;have hb:=RW ((g.out.2.1 F).pull 3) c.out.2.2.2.2.2.2.2.2.2.2.2 op key a S.onow ⟨c.out.2.2.2.2.2.2.2.2.2.1,by have:=c.out.2.2.2.2.2.2.2.1;omega,c.out.2.2.2.2.2.2.2.2.2.2.1⟩;go_simp;refine hb.mono ?_;rintro e E ⟨rfl,y⟩;have o:Sp (Bo p v (S.called op a key) B++R) E:=y.push 3;have Z:=h_ o;clear y o hb;go_simp;exact j _ _ _ rfl ⟨Z.out.blk,fun h=>by simp[upd]at h,fun _=>rfl,fun _ _=>Z.out,fun h=>by simp[upd,al]at h,fun h=>by simp[upd,Q]at h⟩
 case m17=>
  have r:U 14=true:=i 14 (by decide);have Q:U 18=false:=d 18 (by decide);have ab:=k 14 r;clear k i z d c28 c29;have h0:=g.out.2.2.2.1 r F;rw[g.out.2.2.1 r]at ab;have af:(S.called op a key).nodes a=some n:=c.out.2.2.2.2.2.2.1;obtain⟨x,u,N,G,ac⟩:=h0.ndOut c.out.2.2.2.2.2.2.2.1 af;have hs:=c.out.1 x W _ G;rw[HE.out]at u;have hx:I=x.nb:=by simpa using u
  rw[←hx]at hs;have ak:=h_ ac;clear h0 G ac u N af hx;simp only[←ab]at j⊢;go_simp;refine hs.mono ?_;rintro e E ⟨C,D,rfl,y⟩;have o:=ak.out E n' (S.clk a) B' (Dp C M::Dn D K::R) c.out.2.2.2.2.2.2.2.2.1 (y.sel (l:=[_,_,_,_,_,_,_,_,_,_]) [0,3,4,5,6,7,8,9,1,2] 10 rfl rfl)
  have h5:Sp (Bo p v ((S.called op a key).setNd a n') B'++Dp C M::Dn D K::R) E:=by have:=YC (S.called op a key) a n';rw[←this];exact o
  have H5:=h_ h5;clear y o h5;go_simp;exact j _ _ _ rfl ⟨H5.out.blk,fun h=>by simp[upd,r]at h,fun _=>g.out.2.2.1 r,fun _ h=>by simp[upd]at h,fun _ _=>⟨C,D,Bh _ _ _,H5.out⟩,fun h=>by simp[upd,Q]at h⟩
 case m18=>have r:U 14=true:=i 14 (by decide);have T:U 17=true:=i 17 (by decide);have L:=k 17 T;clear k i z d c28 c29;obtain⟨C,D,g1,G⟩:=g.out.2.2.2.2.1 T F;rw[g1]at L;simp only[←L]at j⊢;clear L;have hc:=J6 G c.out.2.1 c.out.2.2.1 c.out.2.2.2.1 c.out.2.2.2.2.1.called c.out.2.2.2.2.2.1;unfold pt at hc;go_simp;refine hc.mono ?_;rintro e E ⟨rfl,y⟩;have o:Sp (Bo p v {(S.called op a key).setNd a n' with net:=S.net++M,log:=K.foldl (DS S.onow) (S.called op a key).log } B'++R) E:=y;go_simp;exact j _ _ _ rfl ⟨o.blk,fun h=>by simp[upd,r]at h,fun _=>g.out.2.2.1 r,fun _ h=>by simp[upd,T]at h,fun _ h=>by simp[upd]at h,fun _=>o⟩
 all_goals intro U X xv W b k i q z d B f K' j;clear k i z d;have g:=h_ b;have c28:W.cell? ⟨p,28,none⟩=some (pr v.op 0):=b.1.cell 28;have c29:W.cell? ⟨p,29,none⟩=some (pr v.lp 0):=b.1.cell 29;clear b;simp[mV,mY,Ab]at q;simp only[Al,Act.put,A8,A7,A6,q]at f;subst f;go_simp;exact j _ _ _ rfl rfl g.out
end
section
variable {R:List As} {w w':World} {v:ClV} {S:Cl} {B B' a p i tok:Nat} {n n':Nd} {M:List Wm} {K:List Rp} {q:Who} {val:Str} {has:Bool}
theorem XF (h:Sp (Bo p v S B++R) w)(C:1≤a∧a≤5)(hn:S.nodes a=some n)(o:B≤B')(F:n.reads[i]?=some (q,tok))(ae:q.key.size≤1000)(ah:n.reads.length≤1000)(hv:Hz (setsOf S.org q.key) S.onow=(val,has))
  (ai:∀(x:NdP) (W:World) (O:List As),Sp (CJ x n B::AF x.cb (S.clk a)::O) W→Calls Tryz.prog 95 #[pr x.nb 0,.int .i64 (i:Int),.string val,.bool has] W fun e w'=>∃t z,e=.returned (.agg #[t,z])∧Sp (CJ x n' B'::Dp t M::Dn z K::AF x.cb (S.clk a)::O) w')
  (Z:∀m∈M,m.Ok) (hl:S.net.length+M.length≤300) (X:Hs S.onow S.log K) (af:Dm S.log) (hk:K.length≤1000):
  Calls Tryz.prog 71 #[pt p,.int .i64 (a:Int),.int .i64 (i:Int)] w fun e w'=>e=.returned (.int .i64 0)∧Sp (Bo p v {S.setNd a n' with net:=S.net++M,log:=K.foldl (DS S.onow) S.log} B'++R) w':=by
 obtain⟨x,P,e2,Q,aa⟩:=h.ndOut C hn;have ep:Cu (v.nd a)=pr x.nb 0:=by rw[P];rfl
 have E:=IE h.blk C;rw[ep]at E;have I:=h_ E;have r:i<n.reads.length:=(Ai.1 F).1;have d:=h_ (Aa ai (Aa Z (Aa hl (Aa X (Aa af (Aa hk (Aa o (Aa F (Aa ae (Aa hv (Aa aa r)))))))))));have J:=h_ (Pr Q ah);unfold pt at*;clear h ai Z hl X af hk o F ae hv Q aa ah C hn P ep e2 E;go_enter Tryz.func71,Tryz.ntmps71;go_wp2_with fail;refine I.out.mono ?_;rintro e w1 ⟨rfl,rfl⟩;clear I;go_wp2_with fail;refine J.out.mono ?_;rintro e w2 ⟨u,rfl,j,k3⟩;obtain⟨g,uc,sp,hu,_,_,ak,_⟩:=E4 j.row (Nat.lt_of_le_of_lt (AA _) r);subst hu;obtain⟨H3,H⟩:=i_2 j r;have q0:¬(i:Int)<0:=by omega
 have q1:¬(n.reads.length:Int)≤(i:Int):=by omega
 have y:(i:Int)<(n.reads.length:Int):=by omega
 clear j k3 ak r J;go_wp2_with fail;have aj:=h_ y;have ac:decide ((i:Int)<0)=false:=by simp
 clear q0 q1 y;have ab:decide (n.reads.length≤i)=false:=Ak (by have:=H.out;omega);rw[ac,ab,Bool.or_false];clear ac ab;refine wK (A:=[0,1,3,7,0,0,48,112,255,511,1023,1023,2047,8191]) 0 [pr p 0,pr p 0,pr p 28,pr v.op 0,.slice (some ⟨g,0,none⟩) n.reads.length uc,.int .i64 (i:Int),pr g i,.string q.key,.tuple #[.string val,.bool has],.tuple #[.string val,.bool has],.string val,.bool has,.string val,.bool has] (fun _ W=>Sp (BF 9 1 (.slice (some ⟨g,0,none⟩) n.reads.length uc) n.reads.length (Ow n.reads)::CJ x n B::AF x.cb (S.clk a)::Dh v S B a::AM p (BW v S.made) 104::CI v.np S.net::FI v.op S.onow S.org::F9 v.lp S.log::C0 v.cp v.cdv v.ccv S.c S.cc B S.cd::R) W) ?mstart (.s ?m0<|.s ?m1<|.s ?m2<|.s ?m3<|.s ?m4<|.s ?m5<|.s ?m6<|.s ?m7<|.s ?m8<|.s ?m9<|.s ?m10<|.s ?m11<|.s ?m12<|.s ?m13<|.nil) ?mfin
 case mstart=>exact H3.out.drew
 case mfin=>intro L w7 f hd;have H7:=h_ (f.pull 0).drop;clear f hd;simp[Al,Act.put];go_wp2_with fail;refine(d.out.1 x w7 _ H7.out).mono ?_;rintro e w8 ⟨t,z,rfl,U⟩;have k:=d.out.2.2.2.2.2.2.2.2.2.2.1 w8 n' (S.clk a) B' (Dp t M::Dn z K::R) d.out.2.2.2.2.2.2.1 (U.sel (l:=[_,_,_,_,_,_,_,_,_,_]) [0,3,4,5,6,7,8,9,1,2] 10 rfl rfl);rw[YC]at k;have D:=J6 k d.out.2.1 d.out.2.2.1 d.out.2.2.2.1 d.out.2.2.2.2.1 d.out.2.2.2.2.2.1;unfold pt at D;have G:=h_ D;clear U k D;go_wp2_with fail;refine G.out.mono ?_;rintro e w9 ⟨rfl,k⟩;have H9:=h_ k;clear k G;go_wp2;go_ret;exact⟨rfl,H9.out⟩
 all_goals
  intro L xv W f V ag hN ad b o K' Y;have N:=h_ f;have c28:W.cell? ⟨p,28,none⟩=some (pr v.op 0):=(f.pull 4).blk.cell 28;have r0:W.cell? ⟨g,i,none⟩=some (.string q.key):=by rw[Cg f.row i (by rw[FC];exact H.out)];simp[Ow,d.out.2.2.2.2.2.2.2.1]
  have y:=aj.out;clear f;simp at ad;simp only[Al,Act.put,A8,A7,A6,ad]at o;subst o
 case m8=>clear V ag hN;go_simp;clear c28 r0 y;refine(V8 (N.out.pull 6) q.key d.out.2.2.2.2.2.2.2.2.1).mono ?_;rintro e w3 ⟨rfl,j⟩;have T:=j.push 6;have H4:=h_ T;clear j T;rw[d.out.2.2.2.2.2.2.2.2.2.1];go_simp;exact Y _ _ rfl H4.out
 all_goals clear V ag hN;go_simp;exact Y _ _ rfl N.out
end
theorem Tryz.sizeStep:(Tryz.prog.info? 39).map (·.size)=some 7:=by kernel_rfl
def Y0:=@Tryz.sizeStep
section
variable {R Q:List As} {w w':World} {v:ClV} {S:Cl} {B a p i:Nat} {key val:Str} {on:Bool} {kv:Value} {c:Int}
theorem Hr (h:Sp (Bo p v S B++R) w)
  (l:∀(W:World) (j:List As),Sp (Bo p v S B++j) W→Calls Tryz.prog 69 #[pt p,.int .i64 (a:Int)] W fun e w'=>e=.returned (.int .i64 c)∧Sp (Q++j) w'):
  Calls Tryz.prog 51 #[pt p,.agg (BC 1 a i key val on kv).toArray] w fun e w'=>e=.returned (.int .i64 c)∧Sp (Q++R) w':=by
 obtain⟨s,b⟩:∃s,s=BC 1 a i key val on kv:=⟨_,rfl⟩;have f:Sp (Bo p v S B++AM w.heap.size s 39::R) (w.alloc (.cells s.toArray 39)):=(h.alloc s 39).push 6;have d:=(f.pull 6).blk;obtain⟨q,r⟩:=i_2 d b;have n:(w.alloc (.cells s.toArray 39)).cell? ⟨w.heap.size,0,none⟩=some (.int .i64 1):=by rw[d.cell,b];rfl
 have o:(w.alloc (.cells s.toArray 39)).cell? ⟨w.heap.size,1,none⟩=some (.int .i64 (a:Int)):=by rw[d.cell,b];rfl
 have g:=h_ (l _ _ f);rw[←b];unfold pt at*;clear h f d l b;go_enter FB,ES;go_wp2_with fail;refine g.out.mono ?_;rintro e t ⟨rfl,k⟩;have m:=h_ k;clear k g n o;go_wp2;go_ret;exact⟨rfl,(((DV Q m.out).pull 1).drop).open_⟩
theorem Ol (h:Sp (Bo p v S B++R) w)
  (m:∀(W:World) (k:List As),Sp (Bo p v S B++k) W→Calls Tryz.prog 70 #[pt p,.agg (BC 2 a i key val on kv).toArray] W fun e w'=>e=.returned (.int .i64 c)∧Sp (Q++k) w'):
  Calls Tryz.prog 51 #[pt p,.agg (BC 2 a i key val on kv).toArray] w fun e w'=>e=.returned (.int .i64 c)∧Sp (Q++R) w':=by
 obtain⟨s,b⟩:∃s,s=BC 2 a i key val on kv:=⟨_,rfl⟩;have g:Sp (Bo p v S B++AM w.heap.size s 39::R) (w.alloc (.cells s.toArray 39)):=(h.alloc s 39).push 6;have j:=(g.pull 6).blk;obtain⟨o,f⟩:=i_2 j b;have q:(w.alloc (.cells s.toArray 39)).cell? ⟨w.heap.size,0,none⟩=some (.int .i64 2):=by rw[j.cell,b];rfl
 have d:=h_ (m _ _ g);rw[←b];unfold pt at*;clear h g j m b;go_enter FB,ES
 go_wp2_with (refine BA 39 _ rfl w.heap.size rfl 39 s.toArray (0,0) _ o.out Dk rfl (by rw[f.out];exact Y0) (by rfl) ?_)
 rw[f.out];rw[f.out]at d;refine d.out.mono ?_;rintro e r ⟨rfl,l⟩;have n:=h_ l;clear l d q;go_wp2;go_ret;exact⟨rfl,(((DV Q n.out).pull 1).drop).open_⟩
theorem Oj (h:Sp (Bo p v S B++R) w)
  (l:∀(W:World) (j:List As),Sp (Bo p v S B++j) W→Calls Tryz.prog 71 #[pt p,.int .i64 (a:Int),.int .i64 (i:Int)] W fun e w'=>e=.returned (.int .i64 c)∧Sp (Q++j) w'):
  Calls Tryz.prog 51 #[pt p,.agg (BC 5 a i key val on kv).toArray] w fun e w'=>e=.returned (.int .i64 c)∧Sp (Q++R) w':=by
 obtain⟨s,b⟩:∃s,s=BC 5 a i key val on kv:=⟨_,rfl⟩;have f:Sp (Bo p v S B++AM w.heap.size s 39::R) (w.alloc (.cells s.toArray 39)):=(h.alloc s 39).push 6;have d:=(f.pull 6).blk;obtain⟨r,t⟩:=i_2 d b;have n:(w.alloc (.cells s.toArray 39)).cell? ⟨w.heap.size,0,none⟩=some (.int .i64 5):=by rw[d.cell,b];rfl
 have o:(w.alloc (.cells s.toArray 39)).cell? ⟨w.heap.size,1,none⟩=some (.int .i64 (a:Int)):=by rw[d.cell,b];rfl
 have q:(w.alloc (.cells s.toArray 39)).cell? ⟨w.heap.size,2,none⟩=some (.int .i64 (i:Int)):=by rw[d.cell,b];rfl
 have g:=h_ (l _ _ f);rw[←b];unfold pt at*;clear h f d l b;go_enter FB,ES;go_wp2_with fail;refine g.out.mono ?_;rintro e u ⟨rfl,k⟩;have m:=h_ k;clear k g n o q;go_wp2;go_ret;exact⟨rfl,(((DV Q m.out).pull 1).drop).open_⟩
theorem Qq (h:Sp (Bo p v S B++R) w)
  (l:∀(W:World) (j:List As),Sp (Bo p v S B++j) W→Calls Tryz.prog 73 #[pt p,.int .i64 1,.int .i64 (a:Int),.string key] W fun e w'=>e=.returned (.int .i64 c)∧Sp (Q++j) w'):
  Calls Tryz.prog 51 #[pt p,.agg (BC 7 a i key val on kv).toArray] w fun e w'=>e=.returned (.int .i64 c)∧Sp (Q++R) w':=by
 obtain⟨s,b⟩:∃s,s=BC 7 a i key val on kv:=⟨_,rfl⟩;have f:Sp (Bo p v S B++AM w.heap.size s 39::R) (w.alloc (.cells s.toArray 39)):=(h.alloc s 39).push 6;have d:=(f.pull 6).blk;obtain⟨r,t⟩:=i_2 d b;have n:(w.alloc (.cells s.toArray 39)).cell? ⟨w.heap.size,0,none⟩=some (.int .i64 7):=by rw[d.cell,b];rfl
 have o:(w.alloc (.cells s.toArray 39)).cell? ⟨w.heap.size,1,none⟩=some (.int .i64 (a:Int)):=by rw[d.cell,b];rfl
 have q:(w.alloc (.cells s.toArray 39)).cell? ⟨w.heap.size,3,none⟩=some (.string key):=by rw[d.cell,b];rfl
 have g:=h_ (l _ _ f);rw[←b];unfold pt at*;clear h f d l b;go_enter FB,ES;go_wp2_with fail;refine g.out.mono ?_;rintro e u ⟨rfl,k⟩;have m:=h_ k;clear k g n o q;go_wp2;go_ret;exact⟨rfl,(((DV Q m.out).pull 1).drop).open_⟩
theorem Oi (h:Sp (Bo p v S B++R) w)
  (l:∀(W:World) (j:List As),Sp (Bo p v S B++j) W→Calls Tryz.prog 75 #[pt p,.int .i64 (a:Int)] W fun e w'=>e=.returned (.int .i64 c)∧Sp (Q++j) w'):
  Calls Tryz.prog 51 #[pt p,.agg (BC 10 a i key val on kv).toArray] w fun e w'=>e=.returned (.int .i64 c)∧Sp (Q++R) w':=by
 obtain⟨s,b⟩:∃s,s=BC 10 a i key val on kv:=⟨_,rfl⟩;have f:Sp (Bo p v S B++AM w.heap.size s 39::R) (w.alloc (.cells s.toArray 39)):=(h.alloc s 39).push 6;have d:=(f.pull 6).blk;obtain⟨q,r⟩:=i_2 d b;have n:(w.alloc (.cells s.toArray 39)).cell? ⟨w.heap.size,0,none⟩=some (.int .i64 10):=by rw[d.cell,b];rfl
 have o:(w.alloc (.cells s.toArray 39)).cell? ⟨w.heap.size,1,none⟩=some (.int .i64 (a:Int)):=by rw[d.cell,b];rfl
 have g:=h_ (l _ _ f);rw[←b];unfold pt at*;clear h f d l b;go_enter FB,ES;go_wp2_with fail;refine g.out.mono ?_;rintro e t ⟨rfl,k⟩;have m:=h_ k;clear k g n o;go_wp2;go_ret;exact⟨rfl,(((DV Q m.out).pull 1).drop).open_⟩
end
section
variable {R:List As} {w w':World} {v:ClV} {S:Cl} {B a p i:Nat} {key val:Str} {on:Bool} {kv:Value}
theorem Qp (h:Sp (Bo p v S B++R) w)(x:S.onow<100000)(u:key.size≤1000)(y:val.size≤1000):
  Calls Tryz.prog 51 #[pt p,.agg (BC 6 a i key val true kv).toArray] w fun e w'=>e=.returned (.int .i64 0)∧Sp (Bo p v (S.set key val) B++R) w':=by
 obtain⟨s,j⟩:∃s,s=BC 6 a i key val true kv:=⟨_,rfl⟩;have m:Sp (Bo p v S B++AM w.heap.size s 39::R) (w.alloc (.cells s.toArray 39)):=(h.alloc s 39).push 6;have c:=(m.pull 6).blk;have A:(w.alloc (.cells s.toArray 39)).cell? ⟨w.heap.size,0,none⟩=some (.int .i64 6):=by rw[c.cell,j];rfl
 obtain⟨l,f⟩:=i_2 j m;have k:=h_3 x u y;rw[←j];unfold pt at*;clear h m c j x u y;go_enter FB,ES;go_wp2_with fail;obtain⟨g,n⟩:∃b,b=w.heap.size:=⟨_,rfl⟩;obtain⟨d,o⟩:∃d,d=w.alloc (.cells s.toArray 39):=⟨_,rfl⟩;rw[←n,←o]at f;clear A;rw[←n,←o];clear n o;have c:=(f.out.pull 6).blk;have C:d.cell? ⟨g,3,none⟩=some (.string key):=by rw[c.cell,l.out];rfl
 have D:d.cell? ⟨g,4,none⟩=some (.string val):=by rw[c.cell,l.out];rfl
 have E:d.cell? ⟨g,5,none⟩=some (.bool true):=by rw[c.cell,l.out];rfl
 have c28:d.cell? ⟨p,28,none⟩=some (pr v.op 0):=f.out.blk.cell 28;have q:=h_ (V6 (f.out.drew.pull 2) k.out.1 key val k.out.2.1 k.out.2.2 true);clear c;refine BJ 10 (by kernel_rfl) (by kernel_rfl) ?_;simp only[List.take_succ_cons,List.take_zero,BB,Bj]
 repeat still_step
 refine Du ?_;clear C D E c28;go_wp2_with fail;refine q.out.mono ?_;rintro e F ⟨rfl,r⟩;have t:Sp (Bo p v (S.set key val) B++AM g s 39::R) F:=r.push 2;have z:=h_ t;clear r t q;go_wp2;go_ret;exact⟨rfl,(z.out.pull 6).drop⟩
end
def Au.risen (k:Nat×Nat×List Nat)(t:Nat):Au:=⟨k.1,k.2.1,k.2.2,0,0,[],[],0,[],[(1,t),(2,t),(3,t),(4,t),(5,t)]⟩
theorem gF_risen (t i:Nat):gF (t:Int) 5 (i:Int)=(([(1,t),(2,t),(3,t),(4,t),(5,t)]:List (Nat×Nat)).find? (fun p=>decide (p.1=i))).map (fun p=>(p.2:Int)):=by
 unfold gF;by_cases h:1≤i∧i≤5
 ·rw[Ay (by omega)]
  rcases(by omega:i=1∨i=2∨i=3∨i=4∨i=5)with rfl|rfl|rfl|rfl|rfl<;>rfl
 ·rw[Aw (by omega)]
  have b:([(1,t),(2,t),(3,t),(4,t),(5,t)]:List (Nat×Nat)).find? (fun p=>decide (p.1=i))=none:=by rw[List.find?_eq_none];intro p a;simp only[Ac,Am,AG]at a;rcases a with rfl|rfl|rfl|rfl|rfl<;>simp<;>omega
  rw[b];rfl
section
variable {R:List As} {w w':World} {d kb t B:Nat} {k:Nat×Nat×List Nat}
theorem ct_open (h:Sp (cdA d k::AF kb t::R) w)(u:nodesOk (k.2.2.map Int.ofNat)=true)(P:1≤k.1∧k.1≤k.2.1∧k.2.1≤1000000)(A:5≤B):
  Calls Tryz.prog 101 #[pt d,pt kb] w fun e w'=>∃c,e=.returned (.tuple #[pt c,.int .i64 0])∧Sp (Ni ⟨c,kb,d⟩ (Au.risen k t) B::AF kb t::R) w':=by
 obtain⟨M,N,⟨sb,L,J,K,turn,m,C,v,x,y,I,Q⟩,⟨n,o⟩,p,H⟩:=h.two;have z:=(VB u).2.2;have S:=o.blk.lt;refine(Open_ct C v x y (by omega) u ⟨by omega,by omega,by omega⟩ (pt kb) (t:Int) (.inr ⟨kb,rfl,o⟩)).mono ?_;rintro e w' ⟨c,f,s,g,l,O,rfl,b,T,U,V,W,j⟩
 have E:f=kb:=by
  rcases j with j|⟨j,_⟩
  ·unfold pt at j
   simp only[Value.pointer.injEq,BU,Addr.mk.injEq]at j;exact j.1.symm
  ·cases j
 subst E
 have G:CtR w' (auCt (Au.risen k t)) l (.slice none 0 0) (.slice none 0 0) (.slice none 0 0) w'.heap.size:=
  ⟨b.own.mono (AA _),YA _ _ _,YA _ _ _,YA _ _ _,fun q a=>(b.own.lt q a).2,(fun q a=>by cases a),(fun q a=>by cases a),z,by show(0:Nat)≤5;omega,by show(0:Nat)≤5;omega,by show(0:Nat)≤5;omega⟩
 have D:CtD0 w' d sb s (stT (k.1:Int) (k.2.1:Int) (k.2.2.map Int.ofNat)) (2*k.2.1):=⟨L,J,turn,K,b.dev,b.sup.weak,v,x,y,I,by omega⟩
 have F:CtOk w' ⟨c,f,d⟩ (Au.risen k t) B s g sb l (.slice none 0 0) (.slice none 0 0) (.slice none 0 0) w'.heap.size 5 (gF (t:Int) 5):=
  ⟨b.ct,G,Av _,D,b.gr,A,fun i=>gF_risen t i⟩
 refine⟨c,rfl,H [Ni ⟨c,f,d⟩ (Au.risen k t) B,AF f t] w' (Qf ⟨c,f,d⟩ s g sb l (.slice none 0 0) (.slice none 0 0) (.slice none 0 0)++[f])
  ⟨_,_,rfl,⟨s,g,sb,l,_,_,_,w'.heap.size,5,gF (t:Int) 5,rfl,F⟩,⟨[f],[],rfl,⟨rfl,b.ck⟩,rfl,by simp⟩, ?_⟩ (b.keep.mono (by simp)) ?_⟩
 ·intro q a r
  rw[Ah]at r;subst r;simp only[Qf,Ac,Ag]at a;rcases a with e|e|e|e|e|e|e|e|e
  ·omega
  ·omega
  ·omega
  ·exact p d (by rw[m];simp) (by rw[n,e];simp)
  ·exact p sb (by rw[m];simp) (by rw[n,e];simp)
  ·have:=(b.own.lt q (Ae.1 e)).1;omega
  ·cases e
  ·cases e
  ·cases e
 ·intro q a
  simp only[Qf,Ag,Ac,Am,AG]at a;rw[m,n];rcases a with(e|e|e|e|e|e|e|e|e)|e
  ·right;omega
  ·right;omega
  ·right;omega
  ·left;rw[e];simp
  ·left;rw[e];simp
  ·right;exact(b.own.lt q (Ae.1 e)).1
  ·cases e
  ·cases e
  ·cases e
  ·left;rw[e];simp
end
section
variable {R:List As} {w w':World} {v:ClV} {S:Cl} {B a p:Nat} {x:CtP} {c:Au}
theorem Ws (h:Sp (Ni x c B::R) w){kv:Value}{keep:List Bool}(u:Rv w 1 kv keep.length (WA keep))(I:keep.length≤1000):Calls Tryz.prog 99 #[pr x.d 0,kv] w fun e w'=>∃d,e=.returned (pr d 0)∧Sp (cdA d (c.epoch,c.top,c.mem)::R) w':=by
 obtain⟨F,⟨s,g,sb,K,N,M,J,base,n,f,hF,o⟩,z⟩:=h.one;obtain⟨L,k,turn,G,r,_,y,A,D,C,H⟩:=o.dev;refine(Nn r kv keep u (by omega)).mono ?_;rintro e w' ⟨b,j,rfl,t,E,l,m⟩
 exact⟨b,rfl,z (cdA b (c.epoch,c.top,c.mem)) w' [b,j] ⟨j,_,0,G,turn,rfl,t,y.crash keep,A,D,C,by omega⟩ (E.mono (by simp)) (fun q i=>by
  simp only[Ac,Am,AG]at i;rcases i with rfl|rfl
  ·exact .inr l
  ·exact .inr m)⟩
theorem cl_crash_auK (h:Sp (Bo p v S B++R) w)(f:S.c=some c)(o:S.cd=(c.epoch,c.top,c.mem)){kv:Value}{keep:List Bool}(r:Rv w 1 kv keep.length (WA keep))(q:keep.length≤1000):
  Calls Tryz.prog 74 #[pt p,.int .i64 0,kv] w fun e w'=>e=.returned (.int .i64 0)∧∃A:ClV,Sp (Bo p A (S.crash 0) B++R) w':=by
 obtain⟨cp,j,k,_⟩:=h.auOut f;have u:w.cell? ⟨p,0,none⟩=some (pr cp 0):=by rw[h.blk.cell];show some (Cu v.cp)=_;rw[j];rfl
 have c1:w.cell? ⟨p,1,none⟩=some (pr v.cdv 0):=h.blk.cell 1;have i:=h_ (Ws k r q);have t:=h_2 f o;unfold pt;clear h k f o j r q;go_enter Tryz.func74,Tryz.ntmps74;go_wp2_with fail;refine i.out.mono ?_;rintro e g ⟨d,rfl,m⟩;have b:Sp (AM p (BW v S.made) 104::cdA d (c.epoch,c.top,c.mem)::AF v.ccv S.cc::CI v.np S.net::FI v.op S.onow S.org::F9 v.lp S.log::CW v S B::R) g:=m.pull 2;have u:g.cell? ⟨p,0,none⟩=some (Cu v.cp):=b.blk.cell 0;have c1:g.cell? ⟨p,1,none⟩=some (pr v.cdv 0):=b.blk.cell 1;have C:=Eh b.blk 0;have D:=Eh b.blk 1;have s:=h_ ((b.setCell 0 (.pointer none)).setCell 1 (pt d));clear m b i;go_wp2;go_ret;refine⟨rfl,{v with cp:=none,cdv:=d}, ?_⟩;have y:Sp (AM p (BW {v with cp:=none,cdv:=d} S.made) 104::cdA d (c.epoch,c.top,c.mem)::AF v.ccv S.cc::CI v.np S.net::FI v.op S.onow S.org::F9 v.lp S.log::CW v S B::R) _:=s.out;have z:=(DV [_,_] (y.sel (l:=[_,_,_,_,_,_,_]) [1,2,0,3,4,5,6] 7 rfl rfl)).push 4;have e:S.crash 0={S with c:=none}:=rfl;rw[e];have n:Sp (Bo p {v with cp:=none,cdv:=d} {S with c:=none,cd:=(c.epoch,c.top,c.mem)} B++R) _:=z;rw[←t.out.2]at n;exact n
end
end Go.Proofs.YtnhbioehiiifdaaGreat
