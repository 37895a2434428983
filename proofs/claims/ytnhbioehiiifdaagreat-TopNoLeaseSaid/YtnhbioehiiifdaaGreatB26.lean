import Derived.Test.YtnhbioehiiifdaaGreatB23
import Derived.Test.YtnhbioehiiifdaaGreatB24
set_option maxRecDepth 100000
set_option maxHeartbeats 16000000
set_option linter.all false
namespace Go.Proofs.YtnhbioehiiifdaaGreat
open Go.ChangeShapes Go.WideShapes Go.ChangeAt Go.RowKit
def againS (p a:Nat)(v:ClV)(S:Cl)(B:Nat)(R:List As)(U:Nat→Bool)(X:Nat→Value)(W:World):Prop:=
 Blk W p (BW v S.made) 104∧
 (U 13=false→Sp (SZ (v.dv a) (S.devs a) B::AF (v.ck a) (S.clk a)::Gy p v S B a (BW v S.made) R) W)∧
 (U 13=true→∃x:NdP,X 13=.tuple #[pr x.nb 0,.int .i64 0]∧x.cb=v.ck a∧x.d=v.dv a∧Sp (CJ x (Nd.again a (S.devs a)) (B+100)::AF (v.ck a) (S.clk a)::Gy p v S B a (BW v S.made) R) W)
section
variable {R:List As} {w w':World} {v:ClV} {S:Cl} {B a p:Nat}
theorem LS (h:Sp (Bo p v S B++R) w)(ha:1≤a∧a≤5)(hn:S.nodes a=none)(hm:S.made a=true)(hk:(S.devs a).Quiet)(ah:B≤800000):
  Calls Tryz.prog 68 #[pt p,.int .i64 (a:Int)] w fun e w'=>e=.returned (.int .i64 0)∧∃v':ClV,Sp (Bo p v' (S.start a) (B+100)++R) w':=by
 have h1:Sp (CW v S B::AM p (BW v S.made) 104::CI v.np S.net::FI v.op S.onow S.org::F9 v.lp S.log::C0 v.cp v.cdv v.ccv S.c S.cc B S.cd::R) w:=h.pull 5;obtain⟨J,h2⟩:=(h1.slotOut ha).slotDown hn;rw[hm]at h2;have T:Sp (SZ (v.dv a) (S.devs a) B::AF (v.ck a) (S.clk a)::Gy p v S B a (BW v S.made) R) w:=h2;have g:=h.blk;have c21:w.cell? ⟨p,21+a,none⟩=some (.bool true):=by rw[g.cell,Qt v _ ha,hm]
 obtain⟨P,HB⟩:=i_2 T g;have f:=h_6 ha hn hm J hk ah;have q0:(a:Int)<6:=by omega
 have q1:a<6:=by omega
 unfold pt;clear h h1 h2 T g ha hn hm J hk ah;go_enter Tryz.func68,Tryz.ntmps68;go_wp2_with fail;clear c21;refine wM (A:=[0,0,0,2,10,30,62,0,0,128,640,1920,3968,8191,16383,32767,32767,65535,262143]) 8192 [fun _=> .int .i64 (a:Int),fun _=>pr p 0,fun _=> .int .i64 (a:Int),fun _=>pr p 0,fun _=>pr p 9,fun _=>pr p (9+a),fun _=>pr (v.dv a) 0,fun _=>pr p 0,fun _=> .int .i64 (a:Int),fun _=>pr p 0,fun _=>pr p 15,fun _=>pr p (15+a),fun _=>pr (v.ck a) 0,fun _=>undef,fun y=>y 13,fun y=>En (y 13) 0,fun y=>En (y 13) 1,fun y=>En (y 13) 0,fun y=>En (y 13) 1] (againS p a v S B R) ?start (.s ?m0<|.s ?m1<|.s ?m2<|.s ?m3<|.s ?m4<|.s ?m5<|.s ?m6<|.s ?m7<|.s ?m8<|.s ?m9<|.s ?m10<|.s ?m11<|.s ?m12<|.t ?m13<|.s ?m14<|.s ?m15<|.s ?m16<|.s ?m17<|.s ?m18<|.nil) ?fin
 case start=>intro X;exact⟨HB.out.drew,fun _=>P.out.drew,(fun h=>by cases h)⟩
 case m13=>
  intro U X E W d Z C m k z o B i I r;have q:=h_ d;have c9:W.cell? ⟨p,9+a,none⟩=some (pr (v.dv a) 0):=by rw[d.1.cell];exact FQ v _ f.out.1
  have c15:W.cell? ⟨p,15+a,none⟩=some (pr (v.ck a) 0):=by rw[d.1.cell];exact B5 v _ f.out.1
  clear d;simp[mV,mY,Ab]at k;simp only[Al,Act.put,A8,A7,A6,k]at i;subst i;clear C m z o c9 c15;have h0:=q.out.2.1 Z;have hc:=Xr h0 a f.out.1 f.out.2.2.2.2.1 f.out.2.2.2.2.2;go_simp;refine hc.mono ?_;rintro e w3 ⟨x,rfl,e2,e3,T⟩;have P:=h_ T;clear h0 T hc;go_simp;exact r _ _ _ rfl ⟨(P.out.pull 3).blk,fun h=>by simp[upd]at h,fun _=>⟨x,Bh _ _ _,e2,e3,P.out⟩⟩
 case fin=>
  intro U X w7 d O;obtain⟨x,D,K,M,N⟩:=d.2.2 (O 13 (by decide) (by decide));have H7:=h_ N;have HX:=h_2 K M;clear d O K M N P HB;simp[Al,Act.put,FK,Ab,D,En];clear D;go_wp2_with fail;refine wK (A:=[0,0,0,0,0,1,33,115,243,4,516,2047,4095]) 4352 [pr p 0,.int .i64 (a:Int),pr p 0,.int .i64 (a:Int),pr x.nb 0,pr p 0,pr p 3,pr p (3+a),undef,pr p 0,pr p 21,pr p (21+a),undef] (fun L W=>Sp (CJ x (Nd.again a (S.devs a)) (B+100)::AF (v.ck a) (S.clk a)::Gy p v S B a (if L 12=true then(BW v S.made|>.set (3+a) (pr x.nb 0)).set (21+a) (.bool true)else if L 8=true then(BW v S.made).set (3+a) (pr x.nb 0)else BW v S.made) R) W) ?bstart (.s ?b0<|.s ?b1<|.s ?b2<|.s ?b3<|.s ?b4<|.s ?b5<|.s ?b6<|.s ?b7<|.t ?b8<|.s ?b9<|.s ?b10<|.s ?b11<|.t ?b12<|.nil) ?bfin
  case bstart=>exact H7.out.drew
  case bfin=>
   intro L w8 d O;have h8:=O 8 (by decide) (by decide);have af:=O 12 (by decide) (by decide);rw[af]at d;have h9:Sp (CJ x (Nd.again a (S.devs a)) (B+100)::AF (v.ck a) (S.clk a)::Gy p v S B a (((BW v S.made).set (3+a) (Cu (some x.nb))).set (21+a) (.bool true)) R) w8:=d;rw[Nj _ _ _ f.out.1,Kp _ _ f.out.1]at h9;rw[←HX.out.1]at h9
   have ad:Sp (AX (v.setNd a (some x.nb)) (S.start a) (B+100) a::Dh v S B a::AM p (BW (v.setNd a (some x.nb)) (Ej S.made a true)) 104::CI v.np S.net::FI v.op S.onow S.org::F9 v.lp S.log::C0 v.cp v.cdv v.ccv S.c S.cc B S.cd::R) w8:=
    h9.slotUpI (n:=Nd.again a (S.devs a)) (Da _ _ _) HX.out.1 HX.out.2 (by show Ej S.nodes a _ a=_;rw[Da,f.out.2.2.1];rfl) rfl (Da _ _ _)
   have ae:=ad.slotIn (S:=S) (S':=S.start a) f.out.1 (by omega:B≤B+100) (fun j hj=>⟨Di _ _ _ hj,rfl,rfl,Di _ _ _ hj,rfl,Di _ _ _ hj,Di _ _ _ hj⟩);have ag:=((ae.pull 5).le (LX (by omega:B≤B+100)));have ac:=h_ (ag.sel (l:=[_,_,_,_,_,_]) [2,3,4,5,0,1] 6 rfl rfl);clear d O h8 af h9 ad ae ag;simp[Al,Act.put];go_wp2;go_ret;exact⟨rfl,v.setNd a (some x.nb),ac.out⟩
  case b8=>
   intro L E W d Z m z o k b i I r;have aa:L 12=false:=o 12 (by decide);have ac:=h_ aa;clear aa;clear m z o;have q:=h_ d;have g:=(d.pull 3).blk
   have c3:∃u,W.cell? ⟨p,3+a,none⟩=some u:=by
    rw[g.cell]
    have:3+a<(if L 12=true then(BW v S.made|>.set (3+a) (pr x.nb 0)).set (21+a) (.bool true)else if L 8=true then(BW v S.made).set (3+a) (pr x.nb 0)else BW v S.made).length :=by
     have:=f.out.1
     split
     ·simp[BW];omega
     ·split<;>(simp[BW];omega)
    exact⟨_,Ad this⟩
   have c21:∃u,W.cell? ⟨p,21+a,none⟩=some u:=by
    rw[g.cell]
    have:21+a<(if L 12=true then(BW v S.made|>.set (3+a) (pr x.nb 0)).set (21+a) (.bool true)else if L 8=true then(BW v S.made).set (3+a) (pr x.nb 0)else BW v S.made).length :=by
     have:=f.out.1
     split
     ·simp[BW];omega
     ·split<;>(simp[BW];omega)
    exact⟨_,Ad this⟩
   have f3:W.frozen? ⟨p,3+a,none⟩=false:=Eh g _;have ab:W.frozen? ⟨p,21+a,none⟩=false:=Eh g _;obtain⟨u3,c3⟩:=c3;obtain⟨ai,c21⟩:=c21;clear g d;simp at k;simp only[Al,Act.put,A8,A7,A6,k]at i;subst i;go_simp;have V:=((q.out.pull 3).setCell (3+a) (pr x.nb 0)).push 3;have H4:=h_ V;clear V c3 c21 f3 ab;refine r _ _ rfl ?_;have aa:=ac.out;have J:upd L 8 true 12=false:=aa;have e2:upd L 8 true 8=true:=rfl;have Y:=H4.out;rw[Z,aa]at Y;show Sp (CJ x (Nd.again a (S.devs a)) (B+100)::AF (v.ck a) (S.clk a)::Gy p v S B a (if upd L 8 true 12=true then(BW v S.made|>.set (3+a) (pr x.nb 0)).set (21+a) (.bool true)else if upd L 8 true 8=true then(BW v S.made).set (3+a) (pr x.nb 0)else BW v S.made) R) _;rw[J,e2];exact Y
  case b12=>
   intro L E W d Z m z o k b i I r;have n8:L 8=true:=m 8 (by decide);have H8:=h_ n8;clear n8;clear m z o;have q:=h_ d;have g:=(d.pull 3).blk
   have c3:∃u,W.cell? ⟨p,3+a,none⟩=some u:=by
    rw[g.cell]
    have:3+a<(if L 12=true then(BW v S.made|>.set (3+a) (pr x.nb 0)).set (21+a) (.bool true)else if L 8=true then(BW v S.made).set (3+a) (pr x.nb 0)else BW v S.made).length :=by
     have:=f.out.1
     split
     ·simp[BW];omega
     ·split<;>(simp[BW];omega)
    exact⟨_,Ad this⟩
   have c21:∃u,W.cell? ⟨p,21+a,none⟩=some u:=by
    rw[g.cell]
    have:21+a<(if L 12=true then(BW v S.made|>.set (3+a) (pr x.nb 0)).set (21+a) (.bool true)else if L 8=true then(BW v S.made).set (3+a) (pr x.nb 0)else BW v S.made).length :=by
     have:=f.out.1
     split
     ·simp[BW];omega
     ·split<;>(simp[BW];omega)
    exact⟨_,Ad this⟩
   have f3:W.frozen? ⟨p,3+a,none⟩=false:=Eh g _;have ab:W.frozen? ⟨p,21+a,none⟩=false:=Eh g _;obtain⟨u3,c3⟩:=c3;obtain⟨ai,c21⟩:=c21;clear g d;simp at k;simp only[Al,Act.put,A8,A7,A6,k]at i;subst i;go_simp;have V:=((q.out.pull 3).setCell (21+a) (.bool true)).push 3;have H4:=h_ V;clear V c3 c21 f3 ab;refine r _ _ rfl ?_;have n8:=H8.out;have J:upd L 12 true 12=true:=rfl;have Y:=H4.out;rw[Z,n8]at Y;show Sp (CJ x (Nd.again a (S.devs a)) (B+100)::AF (v.ck a) (S.clk a)::Gy p v S B a (if upd L 12 true 12=true then(BW v S.made|>.set (3+a) (pr x.nb 0)).set (21+a) (.bool true)else if upd L 12 true 8=true then(BW v S.made).set (3+a) (pr x.nb 0)else BW v S.made) R) _;rw[J];exact Y
  all_goals
   intro L E W d m z o k b i I r;clear m z o;have q:=h_ d;have g:=(d.pull 3).blk
   have c3:∃u,W.cell? ⟨p,3+a,none⟩=some u:=by
    rw[g.cell]
    have:3+a<(if L 12=true then(BW v S.made|>.set (3+a) (pr x.nb 0)).set (21+a) (.bool true)else if L 8=true then(BW v S.made).set (3+a) (pr x.nb 0)else BW v S.made).length :=by
     have:=f.out.1
     split
     ·simp[BW];omega
     ·split<;>(simp[BW];omega)
    exact⟨_,Ad this⟩
   have c21:∃u,W.cell? ⟨p,21+a,none⟩=some u:=by
    rw[g.cell]
    have:21+a<(if L 12=true then(BW v S.made|>.set (3+a) (pr x.nb 0)).set (21+a) (.bool true)else if L 8=true then(BW v S.made).set (3+a) (pr x.nb 0)else BW v S.made).length :=by
     have:=f.out.1
     split
     ·simp[BW];omega
     ·split<;>(simp[BW];omega)
    exact⟨_,Ad this⟩
   have f3:W.frozen? ⟨p,3+a,none⟩=false:=Eh g _;have ab:W.frozen? ⟨p,21+a,none⟩=false:=Eh g _;obtain⟨u3,c3⟩:=c3;obtain⟨ai,c21⟩:=c21;clear g d;simp at k;simp only[Al,Act.put,A8,A7,A6,k]at i;subst i;go_simp;exact r _ _ rfl q.out
 case m15=>
  intro U X E W d C m k z o B i I r;have Q:=d;have H:U 13=true:=m 13 (by decide);have G:=C 13 H;obtain⟨x1,D,K,M,N⟩:=d.2.2 H;rw[D]at G;clear D K M N H;have d:=Q;clear Q;clear C m z o;have q:=h_ d;have c9:W.cell? ⟨p,9+a,none⟩=some (pr (v.dv a) 0):=by rw[d.1.cell];exact FQ v _ f.out.1
  have c15:W.cell? ⟨p,15+a,none⟩=some (pr (v.ck a) 0):=by rw[d.1.cell];exact B5 v _ f.out.1
  clear d;simp[mV,mY,Ab]at k;simp only[Al,Act.put,A8,A7,A6,k]at i;subst i;have F:=h_ G.symm;clear G;go_simp;rw[F.out];go_simp;exact r (pr x1.nb 0) _ _ (show pr x1.nb 0=En (E 13) 0 by rw[F.out];rfl) (by rw[F.out];first|done|rfl) q.out
 case m16=>
  intro U X E W d C m k z o B i I r;have Q:=d;have H:U 13=true:=m 13 (by decide);have G:=C 13 H;obtain⟨x1,D,K,M,N⟩:=d.2.2 H;rw[D]at G;clear D K M N H;have d:=Q;clear Q;clear C m z o;have q:=h_ d;have c9:W.cell? ⟨p,9+a,none⟩=some (pr (v.dv a) 0):=by rw[d.1.cell];exact FQ v _ f.out.1
  have c15:W.cell? ⟨p,15+a,none⟩=some (pr (v.ck a) 0):=by rw[d.1.cell];exact B5 v _ f.out.1
  clear d;simp[mV,mY,Ab]at k;simp only[Al,Act.put,A8,A7,A6,k]at i;subst i;have F:=h_ G.symm;clear G;go_simp;rw[F.out];go_simp;exact r (.int .i64 0) _ _ (show .int .i64 0=En (E 13) 1 by rw[F.out];rfl) (by rw[F.out];first|done|rfl) q.out
 all_goals
  intro U X E W d C m k z o B i I r;clear C m z o;have q:=h_ d;have c9:W.cell? ⟨p,9+a,none⟩=some (pr (v.dv a) 0):=by rw[d.1.cell];exact FQ v _ f.out.1
  have c15:W.cell? ⟨p,15+a,none⟩=some (pr (v.ck a) 0):=by rw[d.1.cell];exact B5 v _ f.out.1
  clear d;simp[mV,mY,Ab]at k;simp only[Al,Act.put,A8,A7,A6,k]at i;subst i;go_simp;exact r _ _ _ rfl rfl q.out
end
section
variable {R:List As} {w w':World} {v:ClV} {S:Cl} {B a p:Nat}
theorem RU (h:Sp (Bo p v S B++R) w)(b:1≤a∧a≤5)(d:S.nodes a=none)(n:S.made a=true)(m:(S.devs a).Quiet)(k:B≤800000):
  Calls Tryz.prog 75 #[pt p,.int .i64 (a:Int)] w fun e w'=>e=.returned (.int .i64 0)∧∃v':ClV,Sp (Bo p v' (S.start a) (B+100)++R) w':=by
 have i:Sp (CW v S B::AM p (BW v S.made) 104::CI v.np S.net::FI v.op S.onow S.org::F9 v.lp S.log::C0 v.cp v.cdv v.ccv S.c S.cc B S.cd::R) w:=h.pull 5;obtain⟨g,_⟩:=(i.slotOut b).slotDown d;have l:=h.blk;have c3:w.cell? ⟨p,3+a,none⟩=some (.pointer none):=by rw[l.cell,Gd v _ b,g];rfl
 have f:=h_ (LS h b d n m k);have q:¬(a:Int)<0:=by omega
 have r:¬(5:Int)<(a:Int):=by omega
 have s:((a:Int)==0)=false:=by simp;omega
 have t:(0:Int)<(a:Int):=by omega
 have u:(a:Int)<6:=by omega
 have x:a<6:=by omega
 have y:0<a:=by omega
 unfold pt at*;clear h i l d n m k b g;go_enter Tryz.func75,Tryz.ntmps75;go_wp2_with fail;refine f.out.mono ?_;rintro e z ⟨rfl,v',j⟩;have o:=h_ j;clear j f c3;go_wp2;go_ret;exact⟨rfl,v',o.out⟩
end
def S8 (S:Cl)(a:Nat):Bool:=decide (1≤a∧a≤5)&&((S.nodes a).isNone &&(S.made a&&((S.devs a).cache.isEmpty &&decide ((S.devs a).used ≤9∧(S.devs a).ready =0∧(S.devs a).frozen =false∧(S.devs a).boot ≤1000000∧(S.devs a).epoch ≤1000000))))
section
variable {R:List As} {w w':World} {S:Cl} {B p i a:Nat} {key val:Str} {on:Bool} {n:Nd}
theorem riseA (h:Sp (CN p S B::R) w)(b:S8 S a=true)(x:B≤790000):Calls Tryz.prog 51 #[pt p,.agg (BC 10 a i key val on (.slice none 0 0)).toArray] w fun e w'=>e=.returned (.int .i64 0)∧Sp (CN p (S.start a) (B+100)::R) w':=by obtain⟨v,g,h⟩:=h.cls;unfold S8 at b;simp only[Ar,A0,Ea,Option.isNone_iff_eq_none]at b;obtain⟨j,k,l,m,o,q,r,s,t⟩:=b;refine(Oi (Q:=[CN p (S.start a) (B+100)]) (c:=0) h (fun W u f=> ?_));refine(RU f j k l ⟨m,o,q,r,s,t⟩ (by omega)).mono ?_;rintro e w' ⟨rfl,v',d⟩;exact⟨rfl,Yu v' g d⟩
end
end Go.Proofs.YtnhbioehiiifdaaGreat
