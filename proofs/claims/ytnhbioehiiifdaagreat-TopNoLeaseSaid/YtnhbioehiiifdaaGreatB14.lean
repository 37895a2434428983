import Derived.Test.YtnhbioehiiifdaaGreatB09
set_option maxRecDepth 100000
set_option maxHeartbeats 16000000
set_option linter.all false
namespace Go.Proofs.YtnhbioehiiifdaaGreat
open Go.ChangeShapes Go.WideShapes Go.ChangeAt Go.RowKit
theorem O7 {w:World}{p g m bv bq:Nat}{ag:Int}{vb vr:Value}{L X:List Nat}{K FN C RN H i0 cl i:Nat}(hF:Fld X K FN C RN H i0 cl)(bb:64≤m)(ac:Blk w p (sgC bv bq ag vb vr) 358)(ab:Buf w 0 5 vb L)(J:Buf w 0 5 (.slice (some ⟨g,0,none⟩) 64 m) X)
  (hi:i<8) (af ad:Nat) (u:(i=0∧af=C∧ad=H)∨(0<i∧af=bv∧ad=bq)) (dc:K≠FN):
  Calls Tryz.prog 294 #[pr p 0,.int .i64 (i:Int),.slice (some ⟨g,0,none⟩) 64 m] w fun e o=>e=.returned (.bool false)∧Blk o p (sgC af ad ag vb vr) 358∧Keep [p] w o:=by
 have Q8:Hid ((((K:Nat):Int) !=((FN:Nat):Int))=true):=h_ (by simp;omega);clear dc;obtain⟨Z,U,dy,V,dz⟩:=AU In;obtain⟨az,T,av,cc,ar,au,ap,cn,ay⟩:=hF;obtain⟨ba,ae,rfl⟩:=ab.slice;have D:Hid (∀W:World,Buf W 0 5 (.slice (some ⟨g,0,none⟩) 64 m) X→Rv W 1 (.slice (some ⟨g,0,none⟩) 64 m) 64 (Bb X)):=h_ (fun W h=>by have:=h.rd;unfold Rd at this;rw[az]at this;exact this);obtain⟨ah,bz,cg,_⟩:=D3 (P:=Tryz.prog) 81 5 Z Ao U V (some ⟨g,0,none⟩) 64 m (Bb X) 4 10 4 10 rfl rfl (by omega) (by omega) bb;obtain⟨bp,da,ce,_⟩:=D3 (P:=Tryz.prog) 81 5 Z Ao U V (some ⟨g,0,none⟩) 64 m (Bb X) 10 14 10 14 rfl rfl (by omega) (by omega) bb;obtain⟨S4,bx,cf,_⟩:=Fi (P:=Tryz.prog) 81 5 Z Ao U V (some ⟨g,0,none⟩) 64 m (Bb X) 4 4 rfl (by omega);obtain⟨an,bw,cd,_⟩:=ID (P:=Tryz.prog) 81 5 Z Ao U V (some ⟨g,0,none⟩) 64 m (Bb X) 4 4 rfl (by omega) bb;obtain⟨T0,aq,ch,aw⟩:=Fi (P:=Tryz.prog) 81 5 Z Ao U V (some ⟨g,0,none⟩) 64 m (Bb X) 16 16 rfl (by omega);have ao:∀k,(Bb X).drop k=Bb (X.drop k):=U9 X;have bt:∀k,(Bb X).take k=Bb (X.take k):=Sf X;have c2:Hid (∀W:World,Rv W 1 (.slice (some ⟨g,0,none⟩) 64 m) 64 (Bb X)→Rv W 1 ah 6 (Bb ((X.drop 4).take 6))):=h_ (fun W h=>by have:=cg W h;rw[D4]at this;exact this);have c1:Hid (∀W:World,Rv W 1 (.slice (some ⟨g,0,none⟩) 64 m) 64 (Bb X)→Rv W 1 bp 4 (Bb ((X.drop 10).take 4))):=h_ (fun W h=>by have:=ce W h;rw[D4]at this;exact this);have bh:Hid (∀W:World,Rv W 1 (.slice (some ⟨g,0,none⟩) 64 m) 64 (Bb X)→Rv W 1 S4 60 (Bb (X.drop 4))):=h_ (fun W h=>by have:=cf W h;rw[ao]at this;exact this);obtain⟨_,dj,dk,de,_,_⟩:=id (bh.out w (D.out w J));subst de;have c0:Hid (∀W:World,Rv W 1 (.slice (some ⟨g,0,none⟩) 64 m) 64 (Bb X)→Rv W 1 an 4 (Bb (X.take 4))):=h_ (fun W h=>by have:=cd W h;rw[bt]at this;exact this);have aa:Hid (∀W:World,Rv W 1 (.slice (some ⟨g,0,none⟩) 64 m) 64 (Bb X)→Rv W 1 T0 48 (Bb (X.drop 16))):=h_ (fun W h=>by have:=ch W h;rw[ao]at this;exact this);obtain⟨_,v,y,dh,cq,_⟩:=id (aa.out w (D.out w J));subst dh;have br:∀k,(Bb (X.drop 16)).drop k=Bb ((X.drop 16).drop k):=U9 _;have bs:∀k,(Bb (X.drop 16)).take k=Bb ((X.drop 16).take k):=Sf _;obtain⟨T6,ca,ci,_⟩:=ID (P:=Tryz.prog) 81 5 Z Ao U V v 48 y (Bb (X.drop 16)) 6 6 rfl (by omega) cq;obtain⟨c8,cb,cj,ck⟩:=Fi (P:=Tryz.prog) 81 5 Z Ao U V v 48 y (Bb (X.drop 16)) 6 6 rfl (by omega)
 have bi:Hid (∀W:World,Rv W 1 (.slice v 48 y) 48 (Bb (X.drop 16))→Rv W 1 T6 6 (Bb ((X.drop 16).take 6))):=h_ (fun W h=>by have:=ci W h;rw[bs]at this;exact this);have al:Hid (∀W:World,Rv W 1 (.slice v 48 y) 48 (Bb (X.drop 16))→Rv W 1 c8 42 (Bb (X.drop 22))):=h_ (fun W h=>by have:=cj W h;rw[br,Bu]at this;exact this);obtain⟨_,tb,cs,dg,_,_⟩:=id (al.out w (aa.out w (D.out w J)));subst dg;obtain⟨cw,cv,cu,bd,be⟩:=i_5 bz bx bw ca cb;have am:=h_ (show(Value.slice v 48 y).ownBlock =some g∧(Value.slice tb 42 cs).ownBlock =some g from⟨aw,ck.trans aw⟩);have df:∀(Y:List Nat),(∀c∈Y,c∈X)→∀c∈Y,c<256:=fun Y h c A=>T c (h c A)
 have bn:Hid (∀c∈(X.drop 4).take 6,c<256):=h_ (fun c A=>T c (AB (AH A)));have bo:Hid (∀c∈(X.drop 10).take 4,c<256):=h_ (fun c A=>T c (AB (AH A)));have bl:Hid (∀c∈(X.drop 16).take 6,c<256):=h_ (fun c A=>T c (AB (AH A)));have bm:Hid (∀c∈X.drop 4,c<256):=h_ (fun c A=>T c (AB A));have c7:Hid (∀c∈X.take 4,c<256):=h_ (fun c A=>T c (AH A));have aj:Hid (((X.drop 4).take 6).length =6):=h_ (by rw[Az,A5];omega);have ak:Hid (((X.drop 10).take 4).length =4):=h_ (by rw[Az,A5];omega);have ai:Hid (((X.drop 16).take 6).length =6):=h_ (by rw[Az,A5];omega);have bf:Hid ((X.drop 4).length =60):=h_ (by rw[A5];omega);have bg:Hid ((X.take 4).length =4):=h_ (by rw[Az];omega);have dv:C<281474976710656:=by rw[ar];exact EA _ 6 (by rw[aj.out];omega) bn.out
 have dw:RN<4294967296:=by rw[au];exact EA _ 4 (by rw[ak.out];omega) bo.out
 have du:H<281474976710656:=by rw[ap];exact EA _ 6 (by rw[ai.out];omega) bl.out
 have dx:K<4294967296:=by rw[av];exact OA _ bm.out
 have dd:cl<256:=by rw[ay,Af,Ad (by omega)];exact T _ (BS _)
 obtain⟨cy,cz,ct,c3,cx⟩:=i_5 ar au ap av cc;have c5:Hid (IntKind.i64.wrap (C:Int)=(C:Int)):=h_ (by rw[A9];omega);have c4:Hid (IntKind.i64.wrap (H:Int)=(H:Int)):=h_ (by rw[A9];omega);have c6:Hid (IntKind.u64.wrap (K:Int)=(K:Int)):=h_ (by simp[IntKind.wrap,IntKind.bits,IntKind.signed];omega);have ds:Hid (IntKind.i64.wrap (cl:Int)=(cl:Int)):=h_ (by rw[A9];omega);have dt:Hid (IntKind.i64.wrap (i:Int)=(i:Int)):=h_ (by rw[A9];omega);obtain⟨dn,dp⟩:=i_2 dd hi
 have dl:Hid (∀W:World,Buf W 0 5 (.slice (some ⟨g,0,none⟩) 64 m) X→W.cell? ⟨g,14,none⟩=some (.int .u8 (i0:Int))):=h_ (fun W h=>by have h1:=(h.own.cell (n:=64) (by rw[Bd,az]) 14 (by omega)).1;rw[h1,EL X 14 (by omega),←cn];rfl)
 have dm:Hid (∀W:World,Buf W 0 5 (.slice (some ⟨g,0,none⟩) 64 m) X→W.cell? ⟨g,15,none⟩=some (.int .u8 (cl:Int))):=h_ (fun W h=>by have h1:=(h.own.cell (n:=64) (by rw[Bd,az]) 15 (by omega)).1;rw[h1,EL X 15 (by omega),←ay];rfl)
 have bj:Hid (∀q,(Value.slice (some ⟨g,0,none⟩) 64 m).ownBlock =some q→q∉ [p]):=h_ (fun q B hm=>by simp only[Ah]at hm;subst hm;exact(J.ty' _ B).ne ac.ty (by decide) rfl)
 have bc:Hid (∀q,(Value.slice ba L.length ae).ownBlock =some q→q∉ [p]):=h_ (fun q B hm=>by simp only[Ah]at hm;subst hm;exact(ab.ty' _ B).ne ac.ty (by decide) rfl)
 have H2:=h_ u;clear bz bx bw ca cb cg ce cf cd ch ci cj ao bt br bs ar au ap av cc cn ay u aw ck cq df hi;go_enter Tryz.func294,Tryz.ntmps294;go_upto_if 12 with fail;go_cut [7] (fun s7 wc=>∃v y,s7=.slice v (Dg i) y∧(Value.slice v (Dg i) y).ownBlock =some g∧Rv wc 1 (.slice v (Dg i) y) (Dg i) (Bb (X.drop (64-Dg i)))∧Blk wc p (sgC af ad ag (.slice ba L.length ae) vr) 358∧Buf wc 0 5 (.slice (some ⟨g,0,none⟩) 64 m) X∧Buf wc 0 5 (.slice ba L.length ae) L∧Keep [p] w wc)
 case first=>
  rcases H2.out with⟨h0,Q,O⟩|⟨h0,Q,O⟩
  ·subst h0
   obtain⟨EG,EB⟩:=i_2 Q O;clear Q O;have dr:Hid (Dg 0=42):=h_ rfl;clear aq;go_wp2_with fail;refine wI (QJ w p g m y C H ag (.slice ba L.length ae) vr ah T6 v L X) ?aS (.s ?a0<|.s ?a1<|.s ?a2<|.s ?a3<|.s ?a4<|.s ?a5<|.s ?a6<|.s ?a7<|.s ?a8<|.s ?a9<|.s ?a10<|.s ?a11<|.s ?a12<|.s ?a13<|.s ?a14<|.s ?a15<|.n) 16 ?aF
   case aS=>intro x;exact⟨_,_,ac.drew,fun h=>absurd h (by decide),fun h=>absurd h (by decide),J.keep (By [] _).drew (by simp),ab.keep (By [] _).drew (by simp),(By _ _).drew,Yr⟩
   case aF=>intro l x w3 I hl;obtain⟨N,M,d,F,E,f,z,j,vS⟩:=I;have Q:=F (hl 12 (by decide));have O:=E (hl 15 (by decide));subst Q O;clear F E hl vS;simp only[Al,Act.put,A8,A7,A6];simp only[AP,Nat.reduceAdd];obtain⟨HS,HX,HB,HK⟩:=i_4 d f z j;have hcut:=be.out;clear d f z j ac J ab;go_wp2_with fail;go_meet;exact⟨tb,cs,rfl,am.out.2,al.out _ (aa.out _ (D.out _ HX.out)),(by rw[EG.out,EB.out];exact HS.out),HX.out,HB.out,HK.out⟩
   all_goals
    intro l x o I hi hd;obtain⟨N,M,d,F,E,f,z,j,vS⟩:=I;have S:=vS;have R:=hd;simp only[SlV]at S
    try simp[BD,Region.binds]at R
    refine Oq.of (by simp only[Al,Act.put,A8,A7,A6,R,S];rfl) ?_;clear R S;intro K' t
   case a4=>go_simp;refine(CB ah ((X.drop 4).take 6) (Yv (c2.out o (D.out o f)) aj.out) bn.out (by rw[aj.out];omega) C cy.out).mono ?_;rintro e w2 ⟨rfl,rfl⟩;go_simp;exact t.go _ rfl ⟨N,M,d,F,E,f,z,j,vS.r⟩
   case a5=>go_simp;exact t.go _ rfl ⟨N,M,d,F,E,f,z,j,vS.q ((by first|rfl|exact A3 (Value.int .i64) c5.out))⟩
   case a7=>have hcut:=bd.out;go_simp;exact t.go _ rfl ⟨N,M,d,F,E,f,z,j,vS.r⟩
   case a8=>go_simp;refine(CB T6 ((X.drop 16).take 6) (Yv (bi.out o (aa.out o (D.out o f))) ai.out) bl.out (by rw[ai.out];omega) H ct.out).mono ?_;rintro e w2 ⟨rfl,rfl⟩;go_simp;exact t.go _ rfl ⟨N,M,d,F,E,f,z,j,vS.r⟩
   case a9=>go_simp;exact t.go _ rfl ⟨N,M,d,F,E,f,z,j,vS.q ((by first|rfl|exact A3 (Value.int .i64) c4.out))⟩
   case a12=>have f0:=Fl d;have f1:=d.free 0;go_simp;have k2:Keep [p] o (o.setCell ⟨p,0,none⟩ (.int .i64 (C:Int))):=(By _ _).setCell (.inl (by simp)) _;exact t.go undef rfl ⟨(C:Int),M,d.set 0 _,fun _=>rfl,E,f.keep k2 (fun q B=>bj.out q B),z.keep k2 (fun q B=>bc.out q B),j.trans k2,vS.s rfl⟩
   case a15=>have f0:=OK d;have f1:=d.free 1;go_simp;have k2:Keep [p] o (o.setCell ⟨p,1,none⟩ (.int .i64 (H:Int))):=(By _ _).setCell (.inl (by simp)) _;exact t.go undef rfl ⟨N,(H:Int),d.set 1 _,F,fun _=>rfl,f.keep k2 (fun q B=>bj.out q B),z.keep k2 (fun q B=>bc.out q B),j.trans k2,vS.s rfl⟩
   all_goals have hcut:=cw.out;go_simp;exact t.go _ rfl ⟨N,M,d,F,E,f,z,j,vS.r⟩
  ·have q:((i:Int)==0)=false:=by simp;omega
   have hw:Dg i=48:=by unfold Dg;rw[Aw (by omega)]
   obtain⟨HW,EG,EB⟩:=i_3 hw Q O;clear hw aq h0 Q O;go_wp2_with fail;go_meet;refine⟨v,y,by rw[HW.out],by rw[HW.out];exact am.out.1, ?_,by rw[EG.out,EB.out];exact ac,J,ab,By _ _⟩;rw[HW.out];exact aa.out w (D.out w J)
 case rest=>
 clear ac J ab aq aa bi al bd be am;obtain⟨v,y,rfl,cr,db,cp,ax,c9,K1⟩:=hcut;have dq:=h_ cr;clear cr;generalize di:wc=wq at*;clear di;have bk:=h_ (D.out wq ax);go_wp2_with fail;refine(CB bp ((X.drop 10).take 4) (Yv (c1.out wq bk.out) ak.out) bo.out (by rw[ak.out];omega) RN cz.out).mono ?_;rintro e w1 ⟨rfl,rfl⟩;have co:=cp;have cm:=ax;clear cp ax da bk;go_wp2_with fail;refine wI (Vb wq p g m y ae K FN C RN af ad i cl ag vr (.slice dj 60 dk) an ah v ba L X) ?bS (.s ?b0<|.s ?b1<|.s ?b2<|.s ?b3<|.s ?b4<|.s ?b5<|.s ?b6<|.s ?b7<|.s ?b8<|.s ?b9<|.s ?b10<|.s ?b11<|.s ?b12<|.s ?b13<|.s ?b14<|.s ?b15<|.s ?b16<|.s ?b17<|.s ?b18<|.s ?b19<|.s ?b20<|.s ?b21<|.s ?b22<|.s ?b23<|.s ?b24<|.s ?b25<|.s ?b26<|.s ?b27<|.s ?b28<|.s ?b29<|.s ?b30<|.s ?b31<|.s ?b32<|.s ?b33<|.s ?b34<|.s ?b35<|.s ?b36<|.s ?b37<|.s ?b38<|.s ?b39<|.s ?b40<|.s ?b41<|.s ?b42<|.s ?b43<|.s ?b44<|.s ?b45<|.s ?b46<|.s ?b47<|.s ?b48<|.s ?b49<|.s ?b50<|.s ?b51<|.s ?b52<|.s ?b53<|.s ?b54<|.n) 55 ?bF
 case bS=>intro x;exact⟨0,co.drew,cm.keep (By [] _).drew (by simp),(By _ _).drew,fun h=>absurd h (by decide),Yr⟩
 case b3=>
  intro l x o I hi hd;obtain⟨G,d,f,j,u,vS⟩:=I;have e2:=u (hd.at rfl);refine Oq.of (b:= ?bB3) ?eB3 ?_
  case eB3=>simp only[Al,Act.put,A8,A7,A6,e2.1];rfl
  intro K' t;go_simp;refine(IG _ _ _ (X.drop 4) (Ih e2.2 rfl) (Yv (bh.out o (D.out o f)) bf.out) bm.out (by rw[bf.out];omega) K c3.out).mono ?_;rintro e w2 ⟨rfl,rfl⟩;go_simp;exact t.go _ rfl ⟨G,d,f,j,u,vS.r⟩
 case bF=>intro l x w3 I hl;obtain⟨G,d,f,j,u,vS⟩:=I;have bu:=vS.a 54 (hl 54 (by decide)) rfl;simp only[Al,Act.put,A8,A7,A6,bu];simp only[AP,Nat.reduceAdd];have HS:=h_ d;have HK:=h_ (K1.trans (j.mono (by simp)));clear d j f co cm c9 db K1 bu hl;go_wp2;go_ret;exact⟨rfl,HS.out,HK.out⟩
 all_goals
  intro l x o I hi hd;obtain⟨G,d,f,j,u,vS⟩:=I;have S:=vS;have R:=hd;simp only[SlV]at S
  try simp[BD,Region.binds]at R
  refine Oq.of (by simp only[Al,Act.put,A8,A7,A6,R,S];rfl) ?_;clear R S;intro K' t
 case b2=>go_simp;exact t.go _ rfl ⟨o.heap.size,d.alloc _,f.alloc _,j.alloc _,fun _=>⟨rfl,BY _ [_] _⟩,vS.s rfl⟩
 case b4=>go_simp;exact t.go _ rfl ⟨G,d,f,j,u,vS.q ((by first|rfl|exact A3 (Value.int .u64) c6.out))⟩
 case b6=>have hcut:=cu.out;go_simp;exact t.go _ rfl ⟨G,d,f,j,u,vS.r⟩
 case b7=>go_simp;refine(CB an (X.take 4) (Yv (c0.out o (D.out o f)) bg.out) c7.out (by rw[bg.out];omega) FN cx.out).mono ?_;rintro e w2 ⟨rfl,rfl⟩;go_simp;exact t.go _ rfl ⟨G,d,f,j,u,vS.r⟩
 all_goals
  have hcut:=cv.out;have q:=Q8.out;go_simp
  first|exact t.go _ rfl ⟨G,d,f,j,u,vS.r⟩|exact t.go undef rfl ⟨G,d,f,j,u,vS.r⟩|exact t.go undef rfl ⟨G,d,f,j,u,vS.s rfl⟩
end Go.Proofs.YtnhbioehiiifdaaGreat
