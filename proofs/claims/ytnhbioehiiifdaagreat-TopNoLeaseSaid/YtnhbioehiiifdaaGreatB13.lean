import Derived.Test.YtnhbioehiiifdaaGreatB09
set_option maxRecDepth 100000
set_option maxHeartbeats 16000000
set_option linter.all false
namespace Go.Proofs.YtnhbioehiiifdaaGreat
open Go.ChangeShapes Go.WideShapes Go.ChangeAt Go.RowKit
theorem UY {w:World}{p j t bz bt:Nat}{ah:Int}{vb vr:Value}{L X:List Nat}{I FN v RN H i0 cl i:Nat}(hF:Fld X I FN v RN H i0 cl)(bb:64≤t)(ac:Blk w p (sgC bz bt ah vb vr) 358)(ab:Buf w 0 5 vb L)(K:Buf w 0 5 (.slice (some ⟨j,0,none⟩) 64 t) X)
  (hi:i<8) (R af:Nat) (u:(i=0∧R=v∧af=H)∨(0<i∧R=bz∧af=bt)) (df:I=FN) (dd:v≠R):
  Calls Tryz.prog 294 #[pr p 0,.int .i64 (i:Int),.slice (some ⟨j,0,none⟩) 64 t] w fun e o=>e=.returned (.bool false)∧Blk o p (sgC R af ah vb vr) 358∧Keep [p] w o:=by
 have c8:Hid ((((v:Nat):Int) !=((R:Nat):Int))=true):=h_ (by simp;omega);subst df;clear dd;obtain⟨i8,V,d0,Z,d1⟩:=AU In;obtain⟨az,U,av,cf,ar,au,ap,cq,ay⟩:=hF;obtain⟨ba,ag,rfl⟩:=ab.slice;have B:Hid (∀W:World,Buf W 0 5 (.slice (some ⟨j,0,none⟩) 64 t) X→Rv W 1 (.slice (some ⟨j,0,none⟩) 64 t) 64 (Bb X)):=h_ (fun W h=>by have:=h.rd;unfold Rd at this;rw[az]at this;exact this);obtain⟨ae,cc,cj,_⟩:=D3 (P:=Tryz.prog) 81 5 i8 Ao V Z (some ⟨j,0,none⟩) 64 t (Bb X) 4 10 4 10 rfl rfl (by omega) (by omega) bb;obtain⟨bs,db,ch,_⟩:=D3 (P:=Tryz.prog) 81 5 i8 Ao V Z (some ⟨j,0,none⟩) 64 t (Bb X) 10 14 10 14 rfl rfl (by omega) (by omega) bb;obtain⟨S4,cb,ci,_⟩:=Fi (P:=Tryz.prog) 81 5 i8 Ao V Z (some ⟨j,0,none⟩) 64 t (Bb X) 4 4 rfl (by omega);obtain⟨an,ca,cg,_⟩:=ID (P:=Tryz.prog) 81 5 i8 Ao V Z (some ⟨j,0,none⟩) 64 t (Bb X) 4 4 rfl (by omega) bb;obtain⟨T0,aq,ck,aw⟩:=Fi (P:=Tryz.prog) 81 5 i8 Ao V Z (some ⟨j,0,none⟩) 64 t (Bb X) 16 16 rfl (by omega);have ao:∀k,(Bb X).drop k=Bb (X.drop k):=U9 X;have bw:∀k,(Bb X).take k=Bb (X.take k):=Sf X;have bk:Hid (∀W:World,Rv W 1 (.slice (some ⟨j,0,none⟩) 64 t) 64 (Bb X)→Rv W 1 ae 6 (Bb ((X.drop 4).take 6))):=h_ (fun W h=>by have:=cj W h;rw[D4]at this;exact this);have c3:Hid (∀W:World,Rv W 1 (.slice (some ⟨j,0,none⟩) 64 t) 64 (Bb X)→Rv W 1 bs 4 (Bb ((X.drop 10).take 4))):=h_ (fun W h=>by have:=ch W h;rw[D4]at this;exact this);have bj:Hid (∀W:World,Rv W 1 (.slice (some ⟨j,0,none⟩) 64 t) 64 (Bb X)→Rv W 1 S4 60 (Bb (X.drop 4))):=h_ (fun W h=>by have:=ci W h;rw[ao]at this;exact this);obtain⟨_,dl,dm,dg,_,_⟩:=id (bj.out w (B.out w K));subst dg;have c2:Hid (∀W:World,Rv W 1 (.slice (some ⟨j,0,none⟩) 64 t) 64 (Bb X)→Rv W 1 an 4 (Bb (X.take 4))):=h_ (fun W h=>by have:=cg W h;rw[bw]at this;exact this);have aa:Hid (∀W:World,Rv W 1 (.slice (some ⟨j,0,none⟩) 64 t) 64 (Bb X)→Rv W 1 T0 48 (Bb (X.drop 16))):=h_ (fun W h=>by have:=ck W h;rw[ao]at this;exact this);obtain⟨_,y,z,dj,ct,_⟩:=id (aa.out w (B.out w K));subst dj;have bu:∀k,(Bb (X.drop 16)).drop k=Bb ((X.drop 16).drop k):=U9 _;have bv:∀k,(Bb (X.drop 16)).take k=Bb ((X.drop 16).take k):=Sf _;obtain⟨T6,cd,cm,_⟩:=ID (P:=Tryz.prog) 81 5 i8 Ao V Z y 48 z (Bb (X.drop 16)) 6 6 rfl (by omega) ct;obtain⟨c9,ce,cn,co⟩:=Fi (P:=Tryz.prog) 81 5 i8 Ao V Z y 48 z (Bb (X.drop 16)) 6 6 rfl (by omega)
 have bl:Hid (∀W:World,Rv W 1 (.slice y 48 z) 48 (Bb (X.drop 16))→Rv W 1 T6 6 (Bb ((X.drop 16).take 6))):=h_ (fun W h=>by have:=cm W h;rw[bv]at this;exact this);have ak:Hid (∀W:World,Rv W 1 (.slice y 48 z) 48 (Bb (X.drop 16))→Rv W 1 c9 42 (Bb (X.drop 22))):=h_ (fun W h=>by have:=cn W h;rw[bu,Bu]at this;exact this);obtain⟨_,tb,cv,di,_,_⟩:=id (ak.out w (aa.out w (B.out w K)));subst di;obtain⟨bd,cy,cx,be,bf⟩:=i_5 cc cb ca cd ce;have al:=h_ (show(Value.slice y 48 z).ownBlock =some j∧(Value.slice tb 42 cv).ownBlock =some j from⟨aw,co.trans aw⟩);have dh:∀(Y:List Nat),(∀c∈Y,c∈X)→∀c∈Y,c<256:=fun Y h c D=>U c (h c D)
 have am:Hid (∀c∈(X.drop 4).take 6,c<256):=h_ (fun c D=>U c (AB (AH D)));have br:Hid (∀c∈(X.drop 10).take 4,c<256):=h_ (fun c D=>U c (AB (AH D)));have bp:Hid (∀c∈(X.drop 16).take 6,c<256):=h_ (fun c D=>U c (AB (AH D)));have bq:Hid (∀c∈X.drop 4,c<256):=h_ (fun c D=>U c (AB D));have c7:Hid (∀c∈X.take 4,c<256):=h_ (fun c D=>U c (AH D));have ad:Hid (((X.drop 4).take 6).length =6):=h_ (by rw[Az,A5];omega);have aj:Hid (((X.drop 10).take 4).length =4):=h_ (by rw[Az,A5];omega);have ai:Hid (((X.drop 16).take 6).length =6):=h_ (by rw[Az,A5];omega);have bh:Hid ((X.drop 4).length =60):=h_ (by rw[A5];omega);have bi:Hid ((X.take 4).length =4):=h_ (by rw[Az];omega);have dx:v<281474976710656:=by rw[ar];exact EA _ 6 (by rw[ad.out];omega) am.out
 have dy:RN<4294967296:=by rw[au];exact EA _ 4 (by rw[aj.out];omega) br.out
 have dw:H<281474976710656:=by rw[ap];exact EA _ 6 (by rw[ai.out];omega) bp.out
 have dz:I<4294967296:=by rw[av];exact OA _ bq.out
 have de:cl<256:=by rw[ay,Af,Ad (by omega)];exact U _ (BS _)
 obtain⟨bg,c1,cw,c4,cz⟩:=i_5 ar au ap av cf;have bm:Hid (IntKind.i64.wrap (v:Int)=(v:Int)):=h_ (by rw[A9];omega);have c5:Hid (IntKind.i64.wrap (H:Int)=(H:Int)):=h_ (by rw[A9];omega);have c6:Hid (IntKind.u64.wrap (I:Int)=(I:Int)):=h_ (by simp[IntKind.wrap,IntKind.bits,IntKind.signed];omega);have du:Hid (IntKind.i64.wrap (cl:Int)=(cl:Int)):=h_ (by rw[A9];omega);have dv:Hid (IntKind.i64.wrap (i:Int)=(i:Int)):=h_ (by rw[A9];omega);obtain⟨dq,dr⟩:=i_2 de hi
 have dn:Hid (∀W:World,Buf W 0 5 (.slice (some ⟨j,0,none⟩) 64 t) X→W.cell? ⟨j,14,none⟩=some (.int .u8 (i0:Int))):=h_ (fun W h=>by have h1:=(h.own.cell (n:=64) (by rw[Bd,az]) 14 (by omega)).1;rw[h1,EL X 14 (by omega),←cq];rfl)
 have dp:Hid (∀W:World,Buf W 0 5 (.slice (some ⟨j,0,none⟩) 64 t) X→W.cell? ⟨j,15,none⟩=some (.int .u8 (cl:Int))):=h_ (fun W h=>by have h1:=(h.own.cell (n:=64) (by rw[Bd,az]) 15 (by omega)).1;rw[h1,EL X 15 (by omega),←ay];rfl)
 have bn:Hid (∀q,(Value.slice (some ⟨j,0,none⟩) 64 t).ownBlock =some q→q∉ [p]):=h_ (fun q E hm=>by simp only[Ah]at hm;subst hm;exact(K.ty' _ E).ne ac.ty (by decide) rfl)
 have bc:Hid (∀q,(Value.slice ba L.length ag).ownBlock =some q→q∉ [p]):=h_ (fun q E hm=>by simp only[Ah]at hm;subst hm;exact(ab.ty' _ E).ne ac.ty (by decide) rfl)
 have H2:=h_ u;clear cc cb ca cd ce cj ch ci cg ck cm cn ao bw bu bv ar au ap av cf cq ay u aw co ct dh hi;go_enter Tryz.func294,Tryz.ntmps294;go_upto_if 12 with fail;go_cut [7] (fun s7 wc=>∃y z,s7=.slice y (Dg i) z∧(Value.slice y (Dg i) z).ownBlock =some j∧Rv wc 1 (.slice y (Dg i) z) (Dg i) (Bb (X.drop (64-Dg i)))∧Blk wc p (sgC R af ah (.slice ba L.length ag) vr) 358∧Buf wc 0 5 (.slice (some ⟨j,0,none⟩) 64 t) X∧Buf wc 0 5 (.slice ba L.length ag) L∧Keep [p] w wc)
 case first=>
  rcases H2.out with⟨h0,Q,O⟩|⟨h0,Q,O⟩
  ·subst h0
   obtain⟨EG,EB⟩:=i_2 Q O;clear Q O;have dt:Hid (Dg 0=42):=h_ rfl;clear aq;go_wp2_with fail;refine wI (QJ w p j t z v H ah (.slice ba L.length ag) vr ae T6 y L X) ?aS (.s ?a0<|.s ?a1<|.s ?a2<|.s ?a3<|.s ?a4<|.s ?a5<|.s ?a6<|.s ?a7<|.s ?a8<|.s ?a9<|.s ?a10<|.s ?a11<|.s ?a12<|.s ?a13<|.s ?a14<|.s ?a15<|.n) 16 ?aF
   case aS=>intro x;exact⟨_,_,ac.drew,fun h=>absurd h (by decide),fun h=>absurd h (by decide),K.keep (By [] _).drew (by simp),ab.keep (By [] _).drew (by simp),(By _ _).drew,Yr⟩
   case aF=>intro l x w3 J hl;obtain⟨N,M,d,G,F,f,C,g,vS⟩:=J;have Q:=G (hl 12 (by decide));have O:=F (hl 15 (by decide));subst Q O;clear G F hl vS;simp only[Al,Act.put,A8,A7,A6];simp only[AP,Nat.reduceAdd];obtain⟨HS,HX,HB,HK⟩:=i_4 d f C g;have hcut:=bf.out;clear d f C g ac K ab;go_wp2_with fail;go_meet;exact⟨tb,cv,rfl,al.out.2,ak.out _ (aa.out _ (B.out _ HX.out)),(by rw[EG.out,EB.out];exact HS.out),HX.out,HB.out,HK.out⟩
   all_goals
    intro l x o J hi hd;obtain⟨N,M,d,G,F,f,C,g,vS⟩:=J;have T:=vS;have S:=hd;simp only[SlV]at T
    try simp[BD,Region.binds]at S
    refine Oq.of (by simp only[Al,Act.put,A8,A7,A6,S,T];rfl) ?_;clear S T;intro K' m
   case a4=>go_simp;refine(CB ae ((X.drop 4).take 6) (Yv (bk.out o (B.out o f)) ad.out) am.out (by rw[ad.out];omega) v bg.out).mono ?_;rintro e w2 ⟨rfl,rfl⟩;go_simp;exact m.go _ rfl ⟨N,M,d,G,F,f,C,g,vS.r⟩
   case a5=>go_simp;exact m.go _ rfl ⟨N,M,d,G,F,f,C,g,vS.q ((by first|rfl|exact A3 (Value.int .i64) bm.out))⟩
   case a7=>have hcut:=be.out;go_simp;exact m.go _ rfl ⟨N,M,d,G,F,f,C,g,vS.r⟩
   case a8=>go_simp;refine(CB T6 ((X.drop 16).take 6) (Yv (bl.out o (aa.out o (B.out o f))) ai.out) bp.out (by rw[ai.out];omega) H cw.out).mono ?_;rintro e w2 ⟨rfl,rfl⟩;go_simp;exact m.go _ rfl ⟨N,M,d,G,F,f,C,g,vS.r⟩
   case a9=>go_simp;exact m.go _ rfl ⟨N,M,d,G,F,f,C,g,vS.q ((by first|rfl|exact A3 (Value.int .i64) c5.out))⟩
   case a12=>have f0:=Fl d;have f1:=d.free 0;go_simp;have k2:Keep [p] o (o.setCell ⟨p,0,none⟩ (.int .i64 (v:Int))):=(By _ _).setCell (.inl (by simp)) _;exact m.go undef rfl ⟨(v:Int),M,d.set 0 _,fun _=>rfl,F,f.keep k2 (fun q E=>bn.out q E),C.keep k2 (fun q E=>bc.out q E),g.trans k2,vS.s rfl⟩
   case a15=>have f0:=OK d;have f1:=d.free 1;go_simp;have k2:Keep [p] o (o.setCell ⟨p,1,none⟩ (.int .i64 (H:Int))):=(By _ _).setCell (.inl (by simp)) _;exact m.go undef rfl ⟨N,(H:Int),d.set 1 _,G,fun _=>rfl,f.keep k2 (fun q E=>bn.out q E),C.keep k2 (fun q E=>bc.out q E),g.trans k2,vS.s rfl⟩
   all_goals have hcut:=bd.out;go_simp;exact m.go _ rfl ⟨N,M,d,G,F,f,C,g,vS.r⟩
  ·have q:((i:Int)==0)=false:=by simp;omega
   have hw:Dg i=48:=by unfold Dg;rw[Aw (by omega)]
   obtain⟨HW,EG,EB⟩:=i_3 hw Q O;clear hw aq h0 Q O;go_wp2_with fail;go_meet;refine⟨y,z,by rw[HW.out],by rw[HW.out];exact al.out.1, ?_,by rw[EG.out,EB.out];exact ac,K,ab,By _ _⟩;rw[HW.out];exact aa.out w (B.out w K)
 case rest=>
 clear ac K ab aq aa bl ak be bf al;obtain⟨y,z,rfl,cu,dc,cs,ax,da,K1⟩:=hcut;have ds:=h_ cu;clear cu;generalize dk:wc=wq at*;clear dk;have bo:=h_ (B.out wq ax);go_wp2_with fail;refine(CB bs ((X.drop 10).take 4) (Yv (c3.out wq bo.out) aj.out) br.out (by rw[aj.out];omega) RN c1.out).mono ?_;rintro e w1 ⟨rfl,rfl⟩;have cr:=cs;have cp:=ax;clear cs ax db bo;go_wp2_with fail;refine wI (Va wq p j t z ag I I v RN R af i cl ah vr (.slice dl 60 dm) an ae y ba L X) ?bS (.s ?b0<|.s ?b1<|.s ?b2<|.s ?b3<|.s ?b4<|.s ?b5<|.s ?b6<|.s ?b7<|.s ?b8<|.s ?b9<|.s ?b10<|.s ?b11<|.s ?b12<|.s ?b13<|.s ?b14<|.s ?b15<|.s ?b16<|.s ?b17<|.s ?b18<|.s ?b19<|.s ?b20<|.s ?b21<|.s ?b22<|.s ?b23<|.s ?b24<|.s ?b25<|.s ?b26<|.s ?b27<|.s ?b28<|.s ?b29<|.s ?b30<|.s ?b31<|.s ?b32<|.s ?b33<|.s ?b34<|.s ?b35<|.s ?b36<|.s ?b37<|.s ?b38<|.s ?b39<|.s ?b40<|.s ?b41<|.s ?b42<|.s ?b43<|.s ?b44<|.s ?b45<|.s ?b46<|.s ?b47<|.s ?b48<|.s ?b49<|.s ?b50<|.s ?b51<|.s ?b52<|.s ?b53<|.s ?b54<|.n) 55 ?bF
 case bS=>intro x;exact⟨0,cr.drew,cp.keep (By [] _).drew (by simp),(By _ _).drew,fun h=>absurd h (by decide),Yr⟩
 case b3=>
  intro l x o J hi hd;obtain⟨A,d,f,g,u,vS⟩:=J;have e2:=u (hd.at rfl);refine Oq.of (b:= ?bB3) ?eB3 ?_
  case eB3=>simp only[Al,Act.put,A8,A7,A6,e2.1];rfl
  intro K' m;go_simp;refine(IG _ _ _ (X.drop 4) (Ih e2.2 rfl) (Yv (bj.out o (B.out o f)) bh.out) bq.out (by rw[bh.out];omega) I c4.out).mono ?_;rintro e w2 ⟨rfl,rfl⟩;go_simp;exact m.go _ rfl ⟨A,d,f,g,u,vS.r⟩
 case bF=>intro l x w3 J hl;obtain⟨A,d,f,g,u,vS⟩:=J;have bx:=vS.a 54 (hl 54 (by decide)) rfl;simp only[Al,Act.put,A8,A7,A6,bx];simp only[AP,Nat.reduceAdd];have HS:=h_ d;have HK:=h_ (K1.trans (g.mono (by simp)));clear d g f cr cp da dc K1 bx hl;go_wp2;go_ret;exact⟨rfl,HS.out,HK.out⟩
 all_goals
  intro l x o J hi hd;obtain⟨A,d,f,g,u,vS⟩:=J;have T:=vS;have S:=hd;simp only[SlV]at T
  try simp[BD,Region.binds]at S
  refine Oq.of (by simp only[Al,Act.put,A8,A7,A6,S,T];rfl) ?_;clear S T;intro K' m
 case b2=>go_simp;exact m.go _ rfl ⟨o.heap.size,d.alloc _,f.alloc _,g.alloc _,fun _=>⟨rfl,BY _ [_] _⟩,vS.s rfl⟩
 case b4=>go_simp;exact m.go _ rfl ⟨A,d,f,g,u,vS.q ((by first|rfl|exact A3 (Value.int .u64) c6.out))⟩
 case b6=>have hcut:=cx.out;go_simp;exact m.go _ rfl ⟨A,d,f,g,u,vS.r⟩
 case b7=>go_simp;refine(CB an (X.take 4) (Yv (c2.out o (B.out o f)) bi.out) c7.out (by rw[bi.out];omega) I cz.out).mono ?_;rintro e w2 ⟨rfl,rfl⟩;go_simp;exact m.go _ rfl ⟨A,d,f,g,u,vS.r⟩
 case b11=>have hcut:=bd.out;go_simp;exact m.go _ rfl ⟨A,d,f,g,u,vS.r⟩
 case b12=>go_simp;refine(CB ae ((X.drop 4).take 6) (Yv (bk.out o (B.out o f)) ad.out) am.out (by rw[ad.out];omega) v bg.out).mono ?_;rintro e w2 ⟨rfl,rfl⟩;go_simp;exact m.go _ rfl ⟨A,d,f,g,u,vS.r⟩
 case b13=>go_simp;exact m.go _ rfl ⟨A,d,f,g,u,vS.q ((by first|rfl|exact A3 (Value.int .i64) bm.out))⟩
 all_goals
  have hcut:=cy.out;have c0:=Fl d;have q:=c8.out;go_simp
  first|exact m.go _ rfl ⟨A,d,f,g,u,vS.r⟩|exact m.go undef rfl ⟨A,d,f,g,u,vS.r⟩|exact m.go undef rfl ⟨A,d,f,g,u,vS.s rfl⟩
end Go.Proofs.YtnhbioehiiifdaaGreat
