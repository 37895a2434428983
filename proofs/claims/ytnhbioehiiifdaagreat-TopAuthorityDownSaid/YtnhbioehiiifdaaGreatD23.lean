import Derived.Test.YtnhbioehiiifdaaGreatD21
import Derived.Test.YtnhbioehiiifdaaGreatD22
set_option maxRecDepth 100000
set_option maxHeartbeats 16000000
set_option linter.all false
namespace Go.Proofs.YtnhbioehiiifdaaGreat
open Go.ChangeShapes Go.WideShapes Go.ChangeAt Go.RowKit
def ClV.setNd (v:ClV)(a:Nat)(o:Option Nat):ClV:={v with nd:=Ej v.nd a o}
theorem Nj (v:ClV)(made:Nat→Bool){a:Nat}(o:Option Nat)(b:1≤a∧a≤5):(BW v made).set (3+a) (Cu o)=BW (v.setNd a o) made:=by rcases(by omega:a=1∨a=2∨a=3∨a=4∨a=5)with rfl|rfl|rfl|rfl|rfl<;>rfl
theorem Kp (v:ClV)(made:Nat→Bool){a:Nat}(b:1≤a∧a≤5):(BW v made).set (21+a) (.bool true)=BW v (Ej made a true):=by rcases(by omega:a=1∨a=2∨a=3∨a=4∨a=5)with rfl|rfl|rfl|rfl|rfl<;>rfl
def Gy (p:Nat)(v:ClV)(S:Cl)(B a:Nat)(C:List Value)(R:List As):List As:=
 Dh v S B a::AM p C 104::CI v.np S.net::FI v.op S.onow S.org::F9 v.lp S.log::C0 v.cp v.cdv v.ccv S.c S.cc B S.cd::R
def startS (p a:Nat)(v:ClV)(S:Cl)(B:Nat)(R:List As)(U:Nat→Bool)(X:Nat→Value)(W:World):Prop:=
 Blk W p (BW v S.made) 104∧
 (U 13=false→Sp (Qc (v.dv a) 1200::AF (v.ck a) (S.clk a)::Gy p v S B a (BW v S.made) R) W)∧
 (U 13=true→∃x:NdP,X 13=.tuple #[pr x.nb 0,.int .i64 0]∧x.cb=v.ck a∧x.d=v.dv a∧Sp (CJ x (Nd.fresh a) 0::AF (v.ck a) (S.clk a)::Gy p v S B a (BW v S.made) R) W)
section
variable {R:List As} {w w':World} {v:ClV} {S:Cl} {B a p:Nat}
theorem Og (h:Sp (Bo p v S B++R) w)(ha:1≤a∧a≤5)(hn:S.nodes a=none)(hm:S.made a=false):
  Calls Tryz.prog 68 #[pt p,.int .i64 (a:Int)] w fun e w'=>e=.returned (.int .i64 0)∧∃v':ClV,Sp (Bo p v' (S.start a) B++R) w':=by
 have h1:Sp (CW v S B::AM p (BW v S.made) 104::CI v.np S.net::FI v.op S.onow S.org::F9 v.lp S.log::C0 v.cp v.cdv v.ccv S.c S.cc B S.cd::R) w:=h.pull 5;obtain⟨I,h2⟩:=(h1.slotOut ha).slotDown hn;rw[hm]at h2;have Q:Sp (Qc (v.dv a) 1200::AF (v.ck a) (S.clk a)::Gy p v S B a (BW v S.made) R) w:=h2;have f:=h.blk;have c21:w.cell? ⟨p,21+a,none⟩=some (.bool false):=by rw[f.cell,Qt v _ ha,hm]
 obtain⟨O,HB⟩:=i_2 Q f;have k:=h_4 ha hn hm I;have q0:(a:Int)<6:=by omega
 have q1:a<6:=by omega
 unfold pt;clear h h1 h2 Q f ha hn hm I;go_enter Tryz.func68,Tryz.ntmps68;go_wp2_with fail;clear c21;refine wM (A:=[0,0,0,2,10,30,62,0,0,128,640,1920,3968,8191,16383,32767,32767,65535,262143]) 8192 [fun _=> .int .i64 (a:Int),fun _=>pr p 0,fun _=> .int .i64 (a:Int),fun _=>pr p 0,fun _=>pr p 9,fun _=>pr p (9+a),fun _=>pr (v.dv a) 0,fun _=>pr p 0,fun _=> .int .i64 (a:Int),fun _=>pr p 0,fun _=>pr p 15,fun _=>pr p (15+a),fun _=>pr (v.ck a) 0,fun _=>undef,fun y=>y 13,fun y=>En (y 13) 0,fun y=>En (y 13) 1,fun y=>En (y 13) 0,fun y=>En (y 13) 1] (startS p a v S B R) ?start (.s ?m0<|.s ?m1<|.s ?m2<|.s ?m3<|.s ?m4<|.s ?m5<|.s ?m6<|.s ?m7<|.s ?m8<|.s ?m9<|.s ?m10<|.s ?m11<|.s ?m12<|.t ?m13<|.s ?m14<|.s ?m15<|.s ?m16<|.s ?m17<|.s ?m18<|.nil) ?fin
 case start=>intro X;exact⟨HB.out.drew,fun _=>O.out.drew,(fun h=>by cases h)⟩
 case m13=>
  intro U X D W d Y z l i r m B g H q;have o:=h_ d;have c9:W.cell? ⟨p,9+a,none⟩=some (pr (v.dv a) 0):=by rw[d.1.cell];exact FQ v _ k.out.1
  have c15:W.cell? ⟨p,15+a,none⟩=some (pr (v.ck a) 0):=by rw[d.1.cell];exact B5 v _ k.out.1
  clear d;simp[mV,mY,Ab]at i;simp only[Al,Act.put,A8,A7,A6,i]at g;subst g;clear z l r m c9 c15;have h0:=o.out.2.1 Y;have hc:=Xs h0 a k.out.1;go_simp;refine hc.mono ?_;rintro e w3 ⟨x,rfl,e2,e3,Q⟩;have O:=h_ Q;clear h0 Q hc;go_simp;exact q _ _ _ rfl ⟨(O.out.pull 3).blk,fun h=>by simp[upd]at h,fun _=>⟨x,Bh _ _ _,e2,e3,O.out⟩⟩
 case fin=>
  intro U X w7 d N;obtain⟨x,C,J,K,M⟩:=d.2.2 (N 13 (by decide) (by decide));have H7:=h_ M;have HX:=h_2 J K;clear d N J K M O HB;simp[Al,Act.put,FK,Ab,C,En];clear C;go_wp2_with fail;refine wK (A:=[0,0,0,0,0,1,33,115,243,4,516,2047,4095]) 4352 [pr p 0,.int .i64 (a:Int),pr p 0,.int .i64 (a:Int),pr x.nb 0,pr p 0,pr p 3,pr p (3+a),undef,pr p 0,pr p 21,pr p (21+a),undef] (fun L W=>Sp (CJ x (Nd.fresh a) 0::AF (v.ck a) (S.clk a)::Gy p v S B a (if L 12=true then(BW v S.made|>.set (3+a) (pr x.nb 0)).set (21+a) (.bool true)else if L 8=true then(BW v S.made).set (3+a) (pr x.nb 0)else BW v S.made) R) W) ?bstart (.s ?b0<|.s ?b1<|.s ?b2<|.s ?b3<|.s ?b4<|.s ?b5<|.s ?b6<|.s ?b7<|.t ?b8<|.s ?b9<|.s ?b10<|.s ?b11<|.t ?b12<|.nil) ?bfin
  case bstart=>exact H7.out.drew
  case bfin=>
   intro L w8 d N;have h8:=N 8 (by decide) (by decide);have ae:=N 12 (by decide) (by decide);rw[ae]at d;have h9:Sp (CJ x (Nd.fresh a) 0::AF (v.ck a) (S.clk a)::Gy p v S B a (((BW v S.made).set (3+a) (Cu (some x.nb))).set (21+a) (.bool true)) R) w8:=d;rw[Nj _ _ _ k.out.1,Kp _ _ k.out.1]at h9;rw[←HX.out.1]at h9
   have ac:Sp (AX (v.setNd a (some x.nb)) (S.start a) B a::Dh v S B a::AM p (BW (v.setNd a (some x.nb)) (Ej S.made a true)) 104::CI v.np S.net::FI v.op S.onow S.org::F9 v.lp S.log::C0 v.cp v.cdv v.ccv S.c S.cc B S.cd::R) w8:=
    (h9.le (NO (AA B))).slotUpI (n:=Nd.fresh a) (Da _ _ _) HX.out.1 HX.out.2 (by show Ej S.nodes a _ a=_;rw[Da,k.out.2.2.1];rfl) rfl (Da _ _ _)
   have ad:=ac.slotIn (S:=S) (S':=S.start a) k.out.1 (Av B) (fun j hj=>⟨Di _ _ _ hj,rfl,rfl,Di _ _ _ hj,rfl,Di _ _ _ hj,Di _ _ _ hj⟩);have ab:=h_ (ad.push 5);clear d N h8 ae h9 ac ad;simp[Al,Act.put];go_wp2;go_ret;exact⟨rfl,v.setNd a (some x.nb),ab.out⟩
  case b8=>
   intro L D W d Y l r m i b g H q;have Z:L 12=false:=m 12 (by decide);have ab:=h_ Z;clear Z;clear l r m;have o:=h_ d;have f:=(d.pull 3).blk
   have c3:∃u,W.cell? ⟨p,3+a,none⟩=some u:=by
    rw[f.cell]
    have:3+a<(if L 12=true then(BW v S.made|>.set (3+a) (pr x.nb 0)).set (21+a) (.bool true)else if L 8=true then(BW v S.made).set (3+a) (pr x.nb 0)else BW v S.made).length :=by
     have:=k.out.1
     split
     ·simp[BW];omega
     ·split<;>(simp[BW];omega)
    exact⟨_,Ad this⟩
   have c21:∃u,W.cell? ⟨p,21+a,none⟩=some u:=by
    rw[f.cell]
    have:21+a<(if L 12=true then(BW v S.made|>.set (3+a) (pr x.nb 0)).set (21+a) (.bool true)else if L 8=true then(BW v S.made).set (3+a) (pr x.nb 0)else BW v S.made).length :=by
     have:=k.out.1
     split
     ·simp[BW];omega
     ·split<;>(simp[BW];omega)
    exact⟨_,Ad this⟩
   have f3:W.frozen? ⟨p,3+a,none⟩=false:=Eh f _;have aa:W.frozen? ⟨p,21+a,none⟩=false:=Eh f _;obtain⟨u3,c3⟩:=c3;obtain⟨af,c21⟩:=c21;clear f d;simp at i;simp only[Al,Act.put,A8,A7,A6,i]at g;subst g;go_simp;have T:=((o.out.pull 3).setCell (3+a) (pr x.nb 0)).push 3;have H4:=h_ T;clear T c3 c21 f3 aa;refine q _ _ rfl ?_;have Z:=ab.out;have I:upd L 8 true 12=false:=Z;have e2:upd L 8 true 8=true:=rfl;have V:=H4.out;rw[Y,Z]at V;show Sp (CJ x (Nd.fresh a) 0::AF (v.ck a) (S.clk a)::Gy p v S B a (if upd L 8 true 12=true then(BW v S.made|>.set (3+a) (pr x.nb 0)).set (21+a) (.bool true)else if upd L 8 true 8=true then(BW v S.made).set (3+a) (pr x.nb 0)else BW v S.made) R) _;rw[I,e2];exact V
  case b12=>
   intro L D W d Y l r m i b g H q;have n8:L 8=true:=l 8 (by decide);have H8:=h_ n8;clear n8;clear l r m;have o:=h_ d;have f:=(d.pull 3).blk
   have c3:∃u,W.cell? ⟨p,3+a,none⟩=some u:=by
    rw[f.cell]
    have:3+a<(if L 12=true then(BW v S.made|>.set (3+a) (pr x.nb 0)).set (21+a) (.bool true)else if L 8=true then(BW v S.made).set (3+a) (pr x.nb 0)else BW v S.made).length :=by
     have:=k.out.1
     split
     ·simp[BW];omega
     ·split<;>(simp[BW];omega)
    exact⟨_,Ad this⟩
   have c21:∃u,W.cell? ⟨p,21+a,none⟩=some u:=by
    rw[f.cell]
    have:21+a<(if L 12=true then(BW v S.made|>.set (3+a) (pr x.nb 0)).set (21+a) (.bool true)else if L 8=true then(BW v S.made).set (3+a) (pr x.nb 0)else BW v S.made).length :=by
     have:=k.out.1
     split
     ·simp[BW];omega
     ·split<;>(simp[BW];omega)
    exact⟨_,Ad this⟩
   have f3:W.frozen? ⟨p,3+a,none⟩=false:=Eh f _;have aa:W.frozen? ⟨p,21+a,none⟩=false:=Eh f _;obtain⟨u3,c3⟩:=c3;obtain⟨af,c21⟩:=c21;clear f d;simp at i;simp only[Al,Act.put,A8,A7,A6,i]at g;subst g;go_simp;have T:=((o.out.pull 3).setCell (21+a) (.bool true)).push 3;have H4:=h_ T;clear T c3 c21 f3 aa;refine q _ _ rfl ?_;have n8:=H8.out;have I:upd L 12 true 12=true:=rfl;have V:=H4.out;rw[Y,n8]at V;show Sp (CJ x (Nd.fresh a) 0::AF (v.ck a) (S.clk a)::Gy p v S B a (if upd L 12 true 12=true then(BW v S.made|>.set (3+a) (pr x.nb 0)).set (21+a) (.bool true)else if upd L 12 true 8=true then(BW v S.made).set (3+a) (pr x.nb 0)else BW v S.made) R) _;rw[I];exact V
  all_goals
   intro L D W d l r m i b g H q;clear l r m;have o:=h_ d;have f:=(d.pull 3).blk
   have c3:∃u,W.cell? ⟨p,3+a,none⟩=some u:=by
    rw[f.cell]
    have:3+a<(if L 12=true then(BW v S.made|>.set (3+a) (pr x.nb 0)).set (21+a) (.bool true)else if L 8=true then(BW v S.made).set (3+a) (pr x.nb 0)else BW v S.made).length :=by
     have:=k.out.1
     split
     ·simp[BW];omega
     ·split<;>(simp[BW];omega)
    exact⟨_,Ad this⟩
   have c21:∃u,W.cell? ⟨p,21+a,none⟩=some u:=by
    rw[f.cell]
    have:21+a<(if L 12=true then(BW v S.made|>.set (3+a) (pr x.nb 0)).set (21+a) (.bool true)else if L 8=true then(BW v S.made).set (3+a) (pr x.nb 0)else BW v S.made).length :=by
     have:=k.out.1
     split
     ·simp[BW];omega
     ·split<;>(simp[BW];omega)
    exact⟨_,Ad this⟩
   have f3:W.frozen? ⟨p,3+a,none⟩=false:=Eh f _;have aa:W.frozen? ⟨p,21+a,none⟩=false:=Eh f _;obtain⟨u3,c3⟩:=c3;obtain⟨af,c21⟩:=c21;clear f d;simp at i;simp only[Al,Act.put,A8,A7,A6,i]at g;subst g;go_simp;exact q _ _ rfl o.out
 case m15=>
  intro U X D W d z l i r m B g H q;have P:=d;have G:U 13=true:=l 13 (by decide);have F:=z 13 G;obtain⟨x1,C,J,K,M⟩:=d.2.2 G;rw[C]at F;clear C J K M G;have d:=P;clear P;clear z l r m;have o:=h_ d;have c9:W.cell? ⟨p,9+a,none⟩=some (pr (v.dv a) 0):=by rw[d.1.cell];exact FQ v _ k.out.1
  have c15:W.cell? ⟨p,15+a,none⟩=some (pr (v.ck a) 0):=by rw[d.1.cell];exact B5 v _ k.out.1
  clear d;simp[mV,mY,Ab]at i;simp only[Al,Act.put,A8,A7,A6,i]at g;subst g;have E:=h_ F.symm;clear F;go_simp;rw[E.out];go_simp;exact q (pr x1.nb 0) _ _ (show pr x1.nb 0=En (D 13) 0 by rw[E.out];rfl) (by rw[E.out];first|done|rfl) o.out
 case m16=>
  intro U X D W d z l i r m B g H q;have P:=d;have G:U 13=true:=l 13 (by decide);have F:=z 13 G;obtain⟨x1,C,J,K,M⟩:=d.2.2 G;rw[C]at F;clear C J K M G;have d:=P;clear P;clear z l r m;have o:=h_ d;have c9:W.cell? ⟨p,9+a,none⟩=some (pr (v.dv a) 0):=by rw[d.1.cell];exact FQ v _ k.out.1
  have c15:W.cell? ⟨p,15+a,none⟩=some (pr (v.ck a) 0):=by rw[d.1.cell];exact B5 v _ k.out.1
  clear d;simp[mV,mY,Ab]at i;simp only[Al,Act.put,A8,A7,A6,i]at g;subst g;have E:=h_ F.symm;clear F;go_simp;rw[E.out];go_simp;exact q (.int .i64 0) _ _ (show .int .i64 0=En (D 13) 1 by rw[E.out];rfl) (by rw[E.out];first|done|rfl) o.out
 all_goals
  intro U X D W d z l i r m B g H q;clear z l r m;have o:=h_ d;have c9:W.cell? ⟨p,9+a,none⟩=some (pr (v.dv a) 0):=by rw[d.1.cell];exact FQ v _ k.out.1
  have c15:W.cell? ⟨p,15+a,none⟩=some (pr (v.ck a) 0):=by rw[d.1.cell];exact B5 v _ k.out.1
  clear d;simp[mV,mY,Ab]at i;simp only[Al,Act.put,A8,A7,A6,i]at g;subst g;go_simp;exact q _ _ _ rfl rfl o.out
end
def Mr (l:List (Nat×Nat))(f:Nat×Nat→Nat)(i:Nat):Value:=Cu ((l[i]?).map f)
def IT (c:Option Nat)(b:Nat)(a:Option Nat)(e op d:Nat)(l:List (Nat×Nat)):List Value:=
 [Cu c,pt b,Cu a,.pointer none,.pointer none,.pointer none,.pointer none,.pointer none,.pointer none,.pointer none,Mr l Prod.fst 0,Mr l Prod.fst 1,Mr l Prod.fst 2,Mr l Prod.fst 3,Mr l Prod.fst 4,
  .pointer none,Mr l Prod.snd 0,Mr l Prod.snd 1,Mr l Prod.snd 2,Mr l Prod.snd 3,Mr l Prod.snd 4,.bool false,.bool false,.bool false,.bool false,.bool false,.bool false,pt e,pt op,pt d]
theorem XI {i:Option Nat}{g:Nat}{f:Option Nat}{k op j:Nat}:∀ {l:List (Nat×Nat)} (q:Nat×Nat),l.length<5→((IT i g f k op j l).set (9+(l.length+1)) (pt q.1)).set (15+(l.length+1)) (pt q.2)=IT i g f k op j (l++[q])
 |[],q,_=>rfl
 |[a],q,_=>rfl
 |[a,b],q,_=>rfl
 |[a,b,c],q,_=>rfl
 |[a,b,c,d],q,_=>rfl
 |a::b::c::d::e::l,q,h=>by simp at h;omega
def newV (c b a e op d:Nat)(l:List (Nat×Nat)):ClV:=⟨some c,b,a,fun _=>none,fun i=>(l.getD (i-1) (0,0)).1,fun i=>(l.getD (i-1) (0,0)).2,e,op,d⟩
theorem Wz {i g f k op j:Nat}:∀ {l:List (Nat×Nat)},l.length=5→IT (some i) g (some f) k op j l=BW (newV i g f k op j l) (fun _=>false)
 |[a,b,c,d,e],_=>rfl
 |[],h=>by simp at h
 |[_],h=>by simp at h
 |[_,_],h=>by simp at h
 |[_,_,_],h=>by simp at h
 |[_,_,_,_],h=>by simp at h
 |_::_::_::_::_::_::_,h=>by simp at h
def Kn (l:List (Nat×Nat)):As:=ED (l.map fun q=>ED [Qc q.1 1200,AF q.2 0])
theorem Sp.devsAdd {R:List As}{w:World}{l:List (Nat×Nat)}{d k:Nat}(h:Sp (Qc d 1200::AF k 0::Kn l::R) w):Sp (Kn (l++[(d,k)])::R) w:=by have a:Sp (ED [Qc d 1200,AF k 0]::Kn l::R) w:=DV [_,_] h;have b:=(a.pull 1).open_;unfold Kn;rw[AL];refine DV _ ?_;rw[Ax];exact b
def newS (p i:Nat)(C:List Value)(R:List As)(U:Nat→Bool)(X:Nat→Value)(W:World):Prop:=
 ∃(d k:Nat),(U 4=true→X 4=pr d 0)∧(U 6=true→X 6=pr k 0)∧
 Sp (Ia (U 4) (Qc d 1200)::Ia (U 6) (AF k 0)::AM p (if U 14=true then(C.set (9+i) (pt d)).set (15+i) (pt k)else if U 10=true then C.set (9+i) (pt d)else C) 104::R) W
theorem Qb {R:List As}{w:World}(h:Sp R w)(n:Nat)(g:1≤n∧n≤2048):Calls Tryz.prog 63 #[.int .i64 (n:Int)] w fun e w'=>∃d,e=.returned (pr d 0)∧Sp (Qc d n::R) w':=by refine(Th (n:Int) n (by omega)).mono ?_;rintro e w' ⟨b,sb,rfl,a,k,c,f⟩;exact⟨b,rfl,h.new1 (G:=[b,sb]) k ⟨sb,_,0,rfl,a,by simp,by omega⟩ (by simp;omega)⟩
theorem OB {a b:Nat}(S:Cl)(h:a≠b):(S.start b).nodes a=S.nodes a∧(S.start b).made a=S.made a:=⟨Di _ _ _ h,Di _ _ _ h⟩
theorem Jm {a:Nat}:∀(l:List Nat) (S:Cl),a∉l→(l.foldl Cl.start S).nodes a=S.nodes a∧(l.foldl Cl.start S).made a=S.made a
 |[],S,_=>⟨rfl,rfl⟩
 |b::l,S,h=>by have c:=Jm l (S.start b) (fun f=>h (Ap _ f));have d:=OB S (b:=b) (a:=a) (fun e=>h (e▸Bx ..));exact⟨c.1.trans d.1,c.2.trans d.2⟩
theorem IV:∀(l:List Nat) (S:Cl),(l.foldl Cl.start S).log =S.log
 |[],S=>rfl
 |b::l,S=>(IV l (S.start b)).trans rfl
def Cl.made0 (mem:List Nat):Cl:={c:=some (Au.new mem),cd:=(1,1,mem),nodes:=fun _=>none,devs:=fun _=> {},made:=fun _=>false}
theorem Cl.make_eq (mem:List Nat):Cl.make mem=mem.foldl Cl.start (Cl.made0 mem):=rfl
section
variable {R:List As} {w w':World} {nv:Value} {mem:List Nat}
theorem cl_New (h:Sp (BF 3 1 nv mem.length (ints (mem.map Int.ofNat))::R) w)(ao:nodesOk (mem.map Int.ofNat)=true)(hm:∀a∈mem,1≤a∧a≤5)(Y:mem.length≤5)(am:mem.Nodup):
  Calls Tryz.prog 47 #[nv] w fun e w'=>∃p,e=.returned (pt p)∧Sp (CN p (Cl.make mem) 0::R) w':=by
 obtain⟨D,K,ax⟩:=A4 h.row;have a4:=ax;subst a4;have aj:mem.length=(mem.map Int.ofNat).length :=by simp
 have ai:Rv w 1 (.slice D mem.length K) (mem.map Int.ofNat).length (ints (mem.map Int.ofNat)):=by rw[←aj];exact Fa h.row
 have HM:=h_ (Dr _ _ ai (by rw[←aj];omega) true ao.symm);have H1:=h_ h;have HQ:=h_5 ao hm Y am aj;obtain⟨f,al⟩:∃f,f=mem.length:=⟨_,rfl⟩;rw[←al]at H1 HM;have Q:=h_ al;rw[←al];clear h ai ao hm Y am aj al ax;go_enter Tryz.func47,Tryz.ntmps47;go_wp2_with fail;refine HM.out.mono ?_;rintro e w1 ⟨rfl,rfl⟩;clear HM;go_wp2_with fail;refine(Qb H1.out 2 (by omega)).mono ?_;rintro e w2 ⟨n,rfl,I⟩;have H2:=h_ I;clear I H1;go_wp2_with fail;refine(TW H2.out).mono ?_;rintro e w3 ⟨y,rfl,N⟩;have Z:=h_ N;clear N H2;go_wp2_with fail;refine(V7 Z.out).mono ?_;rintro e w4 ⟨op,rfl,h4⟩;have H4:=h_ h4;clear h4 Z;go_wp2_with fail;refine(Wy H4.out).mono ?_;rintro e w5 ⟨r,rfl,h5⟩;have h6:=h5.alloc (IT none n none y op r []) 104;have h6:Sp (AM w5.heap.size (IT none n none y op r []) 104::F9 r []::FI op 0 []::CI y []::Qc n 2::BF 3 1 (.slice D f K) f (ints (mem.map Int.ofNat))::R) _:=h6;have H6:=h_ h6;clear h5 h6 H4;go_wp2_with fail;obtain⟨b,hb⟩:∃b,b=w5.heap.size:=⟨_,rfl⟩;obtain⟨w6,ap⟩:∃w6,w6=w5.alloc (.cells (IT none n none y op r []).toArray 104):=⟨_,rfl⟩;rw[←hb,←ap]at H6;show Calls _ _ _ (w5.alloc (.cells (IT none n none y op r []).toArray 104)) _;rw[←hb,←ap];clear hb ap;have ah:=(H6.out.pull 5).row
 have ai:Rv w6 1 (.slice D f K) (mem.map Int.ofNat).length (ints (mem.map Int.ofNat)):=by rw[←HQ.out.2.2.2.2,←Q.out];exact Fa ah
 refine(XC (H6.out.pull 4) (.slice D f K) mem ai HQ.out.1).mono ?_;rintro e w7 ⟨c,kb,rfl,a1,h7⟩;have h8:Sp (AM b (IT none n none y op r []) 104::Ni ⟨c,kb,n⟩ (Au.new mem) 0::AF kb 0::F9 r []::FI op 0 []::CI y []::BF 3 1 (.slice D f K) f (ints (mem.map Int.ofNat))::R) w7:=h7.pull 2;have d0:w7.cell? ⟨b,0,none⟩=some (.pointer none):=h8.blk.cell 0;have d2:w7.cell? ⟨b,2,none⟩=some (.pointer none):=h8.blk.cell 2;have f0:=Eh h8.blk 0;have f2:=Eh h8.blk 2;have H8:=h_ ((h8.setCell 0 (Cu (some c))).setCell 2 (Cu (some kb)));clear H6 ah ai h7 h8;go_wp2_with fail;clear d0 d2 f0 f2 a1;obtain⟨w8,aq⟩:∃w8,w8=(w7.setCell ⟨b,0,none⟩ (pr c 0)).setCell ⟨b,2,none⟩ (pr kb 0):=⟨_,rfl⟩
 have H9:Hid (Sp (AM b (IT (some c) n (some kb) y op r []) 104::Kn []::Ni ⟨c,kb,n⟩ (Au.new mem) 0::AF kb 0::F9 r []::FI op 0 []::CI y []::BF 3 1 (.slice D f K) f (ints (mem.map Int.ofNat))::R) w8):=h_ (by rw[aq];exact(DV [] H8.out).push 1)
 rw[←aq];clear aq H8
 go_loopw [6] (fun s6 wr=>∃(l:List (Nat×Nat)) (j:Nat),s6=.int .i64 (j:Int)∧j=l.length+1∧l.length≤5∧Sp (AM b (IT (some c) n (some kb) y op r l) 104::Kn l::Ni ⟨c,kb,n⟩ (Au.new mem) 0::AF kb 0::F9 r []::FI op 0 []::CI y []::BF 3 1 (.slice D f K) f (ints (mem.map Int.ofNat))::R) wr) (fun x _=>7-(intOf x).toNat)
 case atStart=>exact⟨[],1,rfl,rfl,by simp,H9.out⟩
 case round=>
 obtain⟨l,j,rfl,hj,a8,P⟩:=hrel;obtain⟨S,HJ⟩:=i_2 P hj;clear P hj H9;by_cases ak:j≤5
 ·have q0:(j:Int)≤5:=by omega
  have q1:(j:Int)<6:=by omega
  have q2:¬(j:Int)<0:=by omega
  have q3:j<6:=by omega
  go_wp2_with fail;refine wM (A:=[0,0,0,0,0,0,32,1,129,403,915,4,2052,8191,16383]) 17488 [fun _=>pr b 0,fun _=> .int .i64 (j:Int),fun _=>pr b 0,fun _=> .int .i64 (j:Int),fun _=>undef,fun _=> .agg #[.int .i64 0],fun _=>undef,fun _=>pr b 0,fun _=>pr b 9,fun _=>pr b (9+j),fun _=>undef,fun _=>pr b 0,fun _=>pr b 15,fun _=>pr b (15+j),fun _=>undef] (newS b j (IT (some c) n (some kb) y op r l) (Kn l::Ni ⟨c,kb,n⟩ (Au.new mem) 0::AF kb 0::F9 r []::FI op 0 []::CI y []::BF 3 1 (.slice D f K) f (ints (mem.map Int.ofNat))::R)) ?start (.s ?m0<|.s ?m1<|.s ?m2<|.s ?m3<|.t ?m4<|.s ?m5<|.t ?m6<|.s ?m7<|.s ?m8<|.s ?m9<|.t ?m10<|.s ?m11<|.s ?m12<|.s ?m13<|.t ?m14<|.nil) ?fin
  case start=>intro X;exact⟨0,0,(fun h=>by cases h),(fun h=>by cases h),(S.out.drew.nilA.nilA)⟩
  case fin=>
   intro U X w9 C hd;obtain⟨d,k,o,q,m⟩:=C;have u4:=hd 4 (by decide) (by decide);have u6:=hd 6 (by decide) (by decide);have az:=hd 14 (by decide) (by decide);have o:=o u4;have q:=q u6;rw[u4,u6,az]at m;have z:Sp (Qc d 1200::AF k 0::AM b (((IT (some c) n (some kb) y op r l).set (9+j) (pt d)).set (15+j) (pt k)) 104::Kn l::Ni ⟨c,kb,n⟩ (Au.new mem) 0::AF kb 0::F9 r []::FI op 0 []::CI y []::BF 3 1 (.slice D f K) f (ints (mem.map Int.ofNat))::R) w9:=m;rw[HJ.out,XI (l:=l) (d,k) (by have:=HJ.out;omega)]at z;have I:=((z.pull 2).push 3).devsAdd;have H2:=h_ (I.pull 1);clear hd m u4 u6 az z I S;simp[Al,Act.put,FK,Ab,o,q];clear o q;go_wp2
   go_roundw
   ·exact⟨l++[(d,k)],j+1,by simp,by rw[Aj,List.length_singleton];have:=HJ.out;omega,by rw[Aj,List.length_singleton];have:=HJ.out;omega,H2.out⟩
   ·simp only[intOf];omega
  case' m4|m6|m10|m14=>
   intro U X xv W C Y O M af ac L B hB K' ab;have aa:=h_ C;have f9:W.frozen? ⟨b,9+j,none⟩=false:=by obtain⟨d,k,_,_,h⟩:=C;exact Eh (h.pull 2).blk _
   have ae:W.frozen? ⟨b,15+j,none⟩=false:=by obtain⟨d,k,_,_,h⟩:=C;exact Eh (h.pull 2).blk _
   have c9:∃u,W.cell? ⟨b,9+j,none⟩=some u:=by
    obtain⟨d,k,_,_,h⟩:=C;rw[(h.pull 2).blk.cell];refine⟨_,Ad ?_⟩
    split
    ·simp[IT];omega
    ·split<;>(simp[IT];omega)
   have c15:∃u,W.cell? ⟨b,15+j,none⟩=some u:=by
    obtain⟨d,k,_,_,h⟩:=C;rw[(h.pull 2).blk.cell];refine⟨_,Ad ?_⟩
    split
    ·simp[IT];omega
    ·split<;>(simp[IT];omega)
   obtain⟨u9,c9⟩:=c9;obtain⟨a7,c15⟩:=c15;clear C;simp[mV,mY,Ab]at af;simp only[Al,Act.put,A8,A7,A6,af]at hB;subst hB
  case m4=>have ad:U 10=false:=L 10 (by decide);have J:U 14=false:=L 14 (by decide);clear O M ac L c9 c15 f9 ae;obtain⟨d,k,o,q,m⟩:=aa.out;rw[Y,ad,J]at m;have hc:=Qb m.drop 1200 (by omega);have H:=h_3 q ad J;clear m ad J o q;go_simp;refine hc.mono ?_;rintro e w3 ⟨d2,rfl,N⟩;have Z:=h_ N;clear N hc;go_simp;refine ab _ _ _ rfl ⟨d2,k,fun _=>rfl,fun h=>H.out.1 h, ?_⟩;show Sp (Ia (upd U 4 true 4) (Qc d2 1200)::Ia (upd U 4 true 6) (AF k 0)::AM b (if upd U 4 true 14=true then _ else if upd U 4 true 10=true then _ else _) 104::_) w3;have T:upd U 4 true 4=true:=rfl;have V:upd U 4 true 6=U 6:=rfl;have e3:upd U 4 true 10=false:=H.out.2.1;have G:upd U 4 true 14=false:=H.out.2.2;rw[T,V,e3,G];exact Z.out
  case m6=>have J:U 14=false:=L 14 (by decide);clear O M ac L c9 c15 f9 ae;obtain⟨d,k,o,q,m⟩:=aa.out;rw[Y,J]at m;have z:=((m.pull 1).drop).alloc [.int .i64 0] 158;have I:=(z.le (B:=AF W.heap.size 0) (fun F w h=>⟨h.1,h.2,by omega,by omega⟩)).push 1;have H:=h_3 o J I;clear m J o q z I;go_simp;refine ab _ _ _ rfl ⟨d,W.heap.size,fun h=>H.out.1 h,fun _=>rfl, ?_⟩;show Sp (Ia (upd U 6 true 4) (Qc d 1200)::Ia (upd U 6 true 6) (AF W.heap.size 0)::AM b (if upd U 6 true 14=true then _ else if upd U 6 true 10=true then _ else _) 104::_) _;have T:upd U 6 true 4=U 4:=rfl;have V:upd U 6 true 6=true:=rfl;have e3:upd U 6 true 10=U 10:=rfl;have G:upd U 6 true 14=false:=H.out.2.1;rw[T,V,e3,G];exact H.out.2.2
  case m10=>have u4:U 4=true:=M 4 (by decide);have G:=O 4 u4;have J:U 14=false:=L 14 (by decide);have a0:=h_ J;clear O M ac L;obtain⟨d,k,o,q,m⟩:=aa.out;have gs:=o u4;rw[gs]at G;have E:=h_ G.symm;rw[Y]at m;rw[J]at m;clear J;have z:=((m.pull 2).setCell (9+j) (pt d)).push 2;have H:=h_3 o q z;clear m o q z gs G;go_simp;rw[E.out];go_simp;clear c9 c15 f9 ae;refine ab undef _ _ (by rw[E.out];first|done|rfl) ⟨d,k,fun h=>H.out.1 h,fun h=>H.out.2.1 h, ?_⟩;show Sp (Ia (upd U 10 true 4) (Qc d 1200)::Ia (upd U 10 true 6) (AF k 0)::AM b (if upd U 10 true 14=true then _ else if upd U 10 true 10=true then _ else _) 104::_) _;have T:upd U 10 true 4=U 4:=rfl;have V:upd U 10 true 6=U 6:=rfl;have e3:upd U 10 true 10=true:=rfl;have G:upd U 10 true 14=false:=a0.out;rw[T,V,e3,G];exact H.out.2.2
  case m14=>have u6:U 6=true:=M 6 (by decide);have e6:=O 6 u6;have ad:U 10=true:=M 10 (by decide);clear O M ac L;obtain⟨d,k,o,q,m⟩:=aa.out;have gs:=q u6;rw[gs]at e6;have E:=h_ e6.symm;rw[Y]at m;rw[ad]at m;clear ad;have z:=((m.pull 2).setCell (15+j) (pt k)).push 2;have H:=h_3 o q z;clear m o q z gs e6;go_simp;rw[E.out];go_simp;clear c9 c15 f9 ae;refine ab undef _ _ (by rw[E.out];first|done|rfl) ⟨d,k,fun h=>H.out.1 h,fun h=>H.out.2.1 h, ?_⟩;show Sp (Ia (upd U 14 true 4) (Qc d 1200)::Ia (upd U 14 true 6) (AF k 0)::AM b (if upd U 14 true 14=true then _ else if upd U 14 true 10=true then _ else _) 104::_) _;have T:upd U 14 true 4=U 4:=rfl;have V:upd U 14 true 6=U 6:=rfl;have G:upd U 14 true 14=true:=rfl;rw[T,V,G];exact H.out.2.2
  all_goals
   intro U X xv W C O M af ac L B hB K' ab;clear O M ac L;have aa:=h_ C;have f9:W.frozen? ⟨b,9+j,none⟩=false:=by obtain⟨d,k,_,_,h⟩:=C;exact Eh (h.pull 2).blk _
   have ae:W.frozen? ⟨b,15+j,none⟩=false:=by obtain⟨d,k,_,_,h⟩:=C;exact Eh (h.pull 2).blk _
   have c9:∃u,W.cell? ⟨b,9+j,none⟩=some u:=by
    obtain⟨d,k,_,_,h⟩:=C;rw[(h.pull 2).blk.cell];refine⟨_,Ad ?_⟩
    split
    ·simp[IT];omega
    ·split<;>(simp[IT];omega)
   have c15:∃u,W.cell? ⟨b,15+j,none⟩=some u:=by
    obtain⟨d,k,_,_,h⟩:=C;rw[(h.pull 2).blk.cell];refine⟨_,Ad ?_⟩
    split
    ·simp[IT];omega
    ·split<;>(simp[IT];omega)
   obtain⟨u9,c9⟩:=c9;obtain⟨a7,c15⟩:=c15;clear C;simp[mV,mY,Ab]at af;simp only[Al,Act.put,A8,A7,A6,af]at hB;subst hB;go_simp;exact ab _ _ _ rfl rfl aa.out
 ·have he:l.length=5:=by have:=HJ.out;omega
  have q0:¬(j:Int)≤5:=by omega
  have m:=S.out;rw[Wz he]at m;have z:=m.sel (l:=[_,_,_,_,_,_,_,_]) [2,3,0,6,5,4,1,7] 8 rfl rfl;have I:=(DV [_,_] z).push 4
  have N:Sp (Bo b (newV c n kb y op r l) (Cl.made0 mem) 0++BF 3 1 (.slice D f K) f (ints (mem.map Int.ofNat))::R) wr:=by
   match l,he with
   |[q1,q2,q3,q4,q5],_=>exact I
  have Z:=h_ N;clear m z I N S ak;go_wp2_with fail;clear q0
  go_loopw [59] (fun a6 wr=>∃(v:ClV) (i:Nat),a6=.int .i64 (i:Int)∧i≤f∧Sp (Bo b v ((mem.take i).foldl Cl.start (Cl.made0 mem)) 0++BF 3 1 (.slice D f K) f (ints (mem.map Int.ofNat))::R) wr) (fun x _=>f+1-(intOf x).toNat)
  case atStart=>exact⟨_,0,rfl,AA _,Z.out⟩
  case round=>
  obtain⟨v,i,rfl,hi,P⟩:=hrel;have S:=h_ P;by_cases ak:i<f
  ·have q0:(i:Int)<(f:Int):=by omega
   have a5:decide (i<f)=true:=An ak;have a9:f≤5:=by rw[Q.out];exact HQ.out.2.2.1
   have ah:=(P.pull 6).row;obtain⟨g,uc,sp,hu,_,_,ay,_⟩:=E4 ah (Nat.lt_of_le_of_lt (AA _) ak);have a3:D=some ⟨g,0,none⟩:=by injection hu
   have ag:mem[i]?=some (mem[i]'(by have:=Q.out;omega)):=Ad _;obtain⟨a,ha⟩:∃a,a=mem[i]'(by have:=Q.out;omega):=⟨_,rfl⟩;rw[←ha]at ag;have av:a∈mem:=Aq ag
   have r0:wr.cell? ⟨g,i,none⟩=some (.int .i64 (a:Int)):=by rw[ay.cell,AK (by rw[CK,AD];have:=Q.out;omega)];unfold ints;rw[AN,AN,ag];rfl
   have aw:a∉mem.take i:=fun hm=>by obtain⟨k,hk,au⟩:=GU.1 hm;rw[Az]at hk;rw[List.getElem_take]at au;have am:=HQ.out.2.2.2.1;exact DB.1 am k i (by omega) (by have:=Q.out;omega) (by omega) (by rw[au,ha])
   have ho:=Jm (a:=a) (mem.take i) (Cl.made0 mem) aw;have an:=Og P (HQ.out.2.1 a av) (ho.1.trans rfl) (ho.2.trans rfl);rw[show(List.foldl Cl.start (Cl.made0 mem) (mem.take i)).start a=(mem.take (i+1)).foldl Cl.start (Cl.made0 mem)from by rw[BH,Gn,ag];rfl]at an;unfold pt at an;have ar:=h_ an;subst a3;clear P ah ay hu av aw ho an ha ag hi;go_wp2_with fail;refine ar.out.mono ?_;rintro e w9 ⟨rfl,v',h9⟩;have H9:=h_ h9;clear h9 ar r0 S;go_wp2
   go_roundw
   ·exact⟨v',i+1,by simp,by omega,H9.out⟩
   ·simp only[intOf];omega
  ·have a2:i=f:=by omega
   subst a2;have q0:¬(i:Int)<(i:Int):=by omega
   have a5:decide (i<i)=false:=Ak (by omega);clear P;go_wp2;go_ret;refine⟨b,rfl, ?_⟩;have h9:=(S.out.pull 6).drop;rw[Q.out,Bt]at h9;exact Yu v (by rw[Cl.make_eq,IV];intro i c hc;simp[Cl.made0]at hc) h9
end
def Wm.okB (m:Wm):Bool:=mayM (wmMs m)&&(decide (m.key.size≤1000)&&(decide (m.it.1.size≤1000)&&(decide (m.it.2.1.size≤1000)&&(m.its.isEmpty&&(m.mks.isEmpty&&(decide (m.mem.length≤1000)&&decide (m.old.length≤1000)))))))
theorem Wm.okB_ok {m:Wm}(h:m.okB=true):m.Ok:=by
 unfold Wm.okB at h;simp only[Ar,A0,Ea]at h;obtain⟨e,j,k,l,c,d,f,g⟩:=h;refine⟨e,⟨?_,⟨?_, ?_⟩, ?_, ?_, ?_, ?_, ?_, ?_⟩,f,g⟩
 ·show m.key.size≤_;omega
 ·show m.it.1.size≤_;omega
 ·show m.it.2.1.size≤_;omega
 ·intro y b;simp[wmMs,c]at b
 ·intro y b;simp[wmMs,d]at b
 ·simp[wmMs,c]
 ·simp[wmMs,d]
 ·simp[wmMs];omega
 ·simp[wmMs];omega
def Nb (b:Nat):List Call→List Rp→Bool
 |_,[]=>true
 |L,r::K=>(decide (1≤r.id)&&(match L[r.id-1]? with|some c=> !c.done&&decide (c.op=r.op∧c.key=r.key)|none=>false))&&Nb b (DS b L r) K
theorem PZ {e:Nat}:∀(K:List Rp) (L:List Call),Nb e L K=true→Hs e L K
 |[],_,_=>trivial
 |r::K,L,h=>by
  unfold Nb at h;simp only[Ar,A0]at h;obtain⟨⟨g,b⟩,f⟩:=h
  cases d:L[r.id-1]? with
  |none=>rw[d]at b;cases b
  |some c=>rw[d]at b;simp only[Ar,Bool.not_eq_true',A0]at b;exact⟨⟨r.id-1,c,by omega,d,b.1,b.2.1,b.2.2⟩,PZ K _ f⟩
def Rj (S:Cl)(r:Nd×List Wm×List Rp):Bool:=r.2.1.all Wm.okB&&(decide (S.net.length+r.2.1.length≤300)&&(Nb S.onow S.log r.2.2&&decide (r.2.2.length≤1000)))
theorem Jw {S:Cl}{r:Nd×List Wm×List Rp}(h:Rj S r=true):(∀m∈r.2.1,m.Ok)∧S.net.length+r.2.1.length≤300∧Hs S.onow S.log r.2.2∧r.2.2.length≤1000:=by unfold Rj at h;simp only[Ar,A0,Cr]at h;exact⟨fun m b=>Wm.okB_ok (h.1 m b),h.2.1,PZ _ _ h.2.2.1,h.2.2.2⟩
theorem Dm.ends {b:Nat}{L:List Call}(K:List Rp)(h:Dm L):Dm (K.foldl (DS b) L):=LI K L h
section
variable {R:List As} {w w':World} {v:ClV} {S:Cl} {B a p i an op:Nat} {key val:Str} {on:Bool} {kv:Value} {n:Nd}
theorem Sp.cdFree (h:Sp (Bo p v S B++R) w){c:Au}(e:S.c=some c)(cd:Nat×Nat×List Nat):Sp (Bo p v {S with cd:=cd} B++R) w:=by
 have b:Sp (C0 v.cp v.cdv v.ccv S.c S.cc B S.cd::AM p (BW v S.made) 104::CI v.np S.net::FI v.op S.onow S.org::F9 v.lp S.log::CW v S B::R) w:=h.pull 4
 have d:Sp (C0 v.cp v.cdv v.ccv S.c S.cc B cd::AM p (BW v S.made) 104::CI v.np S.net::FI v.op S.onow S.org::F9 v.lp S.log::CW v S B::R) w:=by
  refine b.le ?_;rw[e]
  cases v.cp with
  |none=>exact fun F w h=>h.elim
  |some cp=>exact Gj _
 exact d.push 4
def O5 (S:Cl)(a:Nat):Bool:=
 if a=0 then(match S.c with|none=>true|some c=>decide (c.num=0))&&(decide (S.cc<1000000)&&decide (S.net.length≤300))
 else decide (a≤5)&&(decide (S.clk a<1000000)&&(decide (S.net.length≤300)&&(match S.nodes a with
  |none=>true
  |some n=>n.waits.isEmpty&&(decide (n.msgs.length<300)&&Rj S (n.beat (S.clk a+1))))))
theorem Cl.tick_down (b:S.c=none):S.tick 0={S with cc:=S.cc+1}:=by unfold Cl.tick;rw[Ay rfl];simp only[b]
theorem Cl.tick_up {c:Au}(e:S.c=some c)(b:c.num=0):S.tick 0={S with cc:=S.cc+1,cd:=(c.epoch,c.top,c.mem)}:=by
 unfold Cl.tick;rw[Ay rfl];have d:c.beat (S.cc+1)=(c,[]):=by unfold Au.beat;rw[Ay b]
 simp only[e,d,Cl.setAu,Cl.send,List.take_nil,AE]
theorem tickT (h:Sp (CN p S B::R) w)(b:O5 S a=true):Calls Tryz.prog 69 #[pt p,.int .i64 (a:Int)] w fun e w'=>e=.returned (.int .i64 0)∧Sp (CN p (S.tick a) B::R) w':=by
 obtain⟨v,g,h⟩:=h.cls;unfold O5 at b;by_cases k:a=0
 ·subst k
  rw[Ay rfl]at b;simp only[Ar,A0]at b;refine(RT h (fun c f=> ?_) b.2.1 b.2.2).mono ?_
  ·rw[f]at b;simpa using b.1
  ·rintro e w' ⟨rfl,d⟩
   refine⟨rfl, ?_⟩;rcases f:S.c with _|c
   ·rw[Cl.tick_down f]
    exact Yu v g d
   ·rw[f]at b
    rw[Cl.tick_up f (by simpa using b.1)];exact Yu v g (d.cdFree (c:=c) f (c.epoch,c.top,c.mem))
 ·rw[Aw k]at b
  simp only[Ar,A0]at b;obtain⟨D,m,q,b⟩:=b;have l:1≤a∧a≤5:=by omega
  cases j:S.nodes a with
  |none=>refine(Oe h l j m g q).mono ?_;rintro e w' ⟨rfl,d⟩;refine⟨rfl, ?_⟩;unfold Cl.tick;rw[Aw k];simp only[j];exact Yu v g d
  |some n=>
   rw[j]at b;simp only[Ar,A0,Ea]at b;obtain⟨t,r,s⟩:=b;obtain⟨y,o,z,A⟩:=Jw s;refine(RS h l j (Av B) m (fun x W C u=>Xu u t r) y o z g A).mono ?_;rintro e w' ⟨rfl,d⟩;refine⟨rfl, ?_⟩
   have e:S.tick a={S.setNdT a (n.beat (S.clk a+1)).1 (S.clk a+1)with net:=S.net++(n.beat (S.clk a+1)).2.1,log:=(n.beat (S.clk a+1)).2.2.foldl (DS S.onow) S.log}:=by unfold Cl.tick;rw[Aw k];simp only[j];rw[Da,Y3 _ _ _ (by exact o)];rfl
   rw[e];exact Yu v (g.ends _) d
theorem tickA (h:Sp (CN p S B::R) w)(f:O5 S a=true):Calls Tryz.prog 51 #[pt p,.agg (BC 1 a i key val on kv).toArray] w fun e w'=>e=.returned (.int .i64 0)∧Sp (CN p (S.tick a) B::R) w':=by obtain⟨v,d,h⟩:=h.cls;exact Hr (Q:=[CN p (S.tick a) B]) (c:=0) h (fun W g b=>tickT (Yu v d b) f)
end
def RD (n:Nd)(m:Wm):Bool:=
 decide (m.kind=2∨m.kind=11)&&(decide (m.tick≤1099511627776)&&(nodesOk (m.mem.map Int.ofNat)&&(decide (m.dst=n.id)&&(decide (m.epoch=n.dk.epoch→m.kind=2→n.ring.isSome=true)&&decide (n.dk.epoch<m.epoch→m.mem.length≤5∧(∀n∈m.mem,n≤1000)∧(0<(ptsOf m.mem).length ∧(ptsOf m.mem).length ≤1000)∧m.epoch≤1000000∧n.dk.boot≤1000000∧n.dk.used+9≤2225∧n.waits.isEmpty=true∧n.toks.isEmpty=true)))))
theorem Um {n:Nd}{m:Wm}(h:RD n m=true):n.GrantOk m∧nodesOk (m.mem.map Int.ofNat)=true∧m.dst=n.id:=by
 unfold RD at h;simp only[Ar,A0]at h;obtain⟨l,o,j,q,r,s⟩:=h;refine⟨⟨l,o,fun e k u=> ?_,fun t=> ?_⟩,j,q⟩
 ·have:=r e k
  rw[u]at this;cases this
 ·obtain⟨a,b,c,d,e,f,g,i⟩:=s t
  exact⟨j,a,b,c,d,e,f,by simpa using g,by simpa using i⟩
def XP (n:Nd)(key:Str):Bool:=
 itKey key&&(decide (key.size≤1000)&&(decide (n.dk.cache.length≤15)&&(decide (n.msgs.length<300∧n.reps.length<300)&&(decide (n.tlast<100000∧n.reads.length<1000)&&decide (n.ring.isNone=true∨n.own key=n.id)))))
theorem askB_who {n:Nd}{key:Str}{B:Nat}(h:XP n key=true)(j:B≤800000)(q:Who)(k:q.key=key)(l:q.op=1):n.AskOk B q∧(n.ring=none∨n.own q.key=n.id):=by subst k;unfold XP at h;simp only[Ar,A0]at h;obtain⟨b,c,d,e,f,g⟩:=h;exact⟨⟨j,b,c,l,d,e,f⟩,g.imp (fun h=>by simpa using h) (fun h=>h)⟩
theorem XO {n:Nd}{key:Str}{B id:Nat}(h:XP n key=true)(b:B≤800000):n.AskOk B ⟨0,id,1,key⟩∧(n.ring=none∨n.own key=n.id):=askB_who h b ⟨0,id,1,key⟩ rfl rfl
def askMB (n:Nd)(m:Wm):Bool:=decide (m.kind=13∧m.dst=n.id∧m.op=1∧m.epoch=n.dk.epoch)&&XP n m.key
def ansB (n:Nd)(m:Wm):Bool:=decide (m.kind=14∧m.dst=n.id∧n.waits.length≤1000∧n.msgs.length<300∧n.reps.length<300)
theorem step_ask (n:Nd)(t:Nat)(m:Wm)(c:m.kind=13)(b:m.epoch=n.dk.epoch):n.step t m=(n.ask t m.who).did :=by unfold Nd.step Nd.foreign;simp[c,b];rfl
theorem step_answer (n:Nd)(t:Nat)(m:Wm)(b:m.kind=14):n.step t m=(n.answer m).did :=by unfold Nd.step;simp[b]
def PH (S:Cl)(m:Wm):Bool:=
 m.okB&&(if m.dst=0 then(match S.c with
  |none=>decide (S.net.length≤300)
  |some c=>decide (m.kind=1∧m.seq=0)&&(c.mem.contains m.src&&(decide (m.src≠c.lost)&&((c.renew S.cc m).2.all Wm.okB&&decide (S.net.length+(c.renew S.cc m).2.length ≤300)))))
 else decide (m.dst≤5)&&(match S.nodes m.dst with
  |none=>false
  |some n=>(RD n m||(askMB n m||ansB n m))&&Rj S (n.step (S.clk m.dst) m)))
section
variable {R:List As} {w w':World} {v:ClV} {S:Cl} {B a p i an op:Nat} {key val:Str} {on:Bool} {kv:Value} {n:Nd}
theorem Cl.send_all {S:Cl}{M:List Wm}(h:S.net.length+M.length≤300):S.send M={S with net:=S.net++M}:=by unfold Cl.send;rw[Ba (by omega)]
theorem hearsL {y:Tm}{m:Wm}(h:Sp (Bo p v S B++Gs y::R) w)(f:y.m=wmMs m)(X:Dm S.log)(b:PH S m=true)(hB:B≤790000):
  Calls Tryz.prog 78 #[pt p,.agg (Cm y).toArray] w fun e w'=>e=.returned (.tuple #[])∧Sp (Bo p v (S.hears m) (B+2)++R) w':=by
 unfold PH at b;simp only[Ar]at b;obtain⟨j,b⟩:=b;have j:=Wm.okB_ok j;by_cases g:m.dst=0
 ·rw[Ay g]at b
  rcases hc:S.c with _|c
  ·rw[hc]at b
   have e:S.hears m=S:=by unfold Cl.hears;rw[Ay g];simp only[hc]
   rw[e];refine(Mz h f g hc (by simpa using b)).mono ?_;rintro e w' ⟨rfl,k⟩;exact⟨rfl,(((DV _ k).le (Ev (Ta (by omega:B≤B+2)))).open_)⟩
  ·rw[hc]at b
   simp only[Ar,A0,Cr]at b;obtain⟨⟨E,Z⟩,U,V,t,F⟩:=b
   have e:S.hears m={S.setAu (c.renew S.cc m).1 with net:=S.net++(c.renew S.cc m).2 }:=by
    unfold Cl.hears;rw[Ay g];simp only[hc];have aa:c.step S.cc m=c.renew S.cc m:=by unfold Au.step;rw[Ay E]
    rw[aa];exact Cl.send_all (S:=S.setAu (c.renew S.cc m).1) F
   rw[e];refine(Qm h f g hc (by omega:B≤B+2) (fun x W I o=> ?_) (fun m Y=>Wm.okB_ok (t m Y)) F);refine(Wr o f j g E Z U V (by omega)).mono ?_;rintro e w' ⟨u,H,rfl,Q,l,s⟩;refine⟨u,H,rfl,Q,l, ?_⟩;exact((s.pull 1).le (Wu (by omega))).push 1
 ·rw[Aw g]at b
  simp only[Ar,A0]at b;obtain⟨T,b⟩:=b;rcases hn:S.nodes m.dst with _|n
  ·rw[hn]at b;cases b
  ·rw[hn]at b
   simp only[Ar,CQ]at b;obtain⟨d,t⟩:=b;obtain⟨o1,G,o3,o4⟩:=Jw t
   have e:S.hears m={S.setNd m.dst (n.step (S.clk m.dst) m).1 with net:=S.net++(n.step (S.clk m.dst) m).2.1,log:=(n.step (S.clk m.dst) m).2.2.foldl (DS S.onow) S.log}:=by unfold Cl.hears;rw[Aw g];simp only[hn];exact Y3 _ _ _ G
   rw[e];refine Ql h f rfl ⟨by omega,T⟩ hn (by omega:B≤B+2) (fun x W I o=> ?_) o1 G o3 X o4;rcases d with d|d|d
   ·obtain⟨N,O,P⟩:=Um d
    exact Mx o f j P (by omega) N O
   ·unfold askMB at d
    simp only[Ar,A0]at d;obtain⟨⟨q,z,A,r⟩,k5⟩:=d;obtain⟨L,M⟩:=askB_who (B:=B) k5 (by omega) m.who rfl A;rw[step_ask n _ m q r];refine(nd_Step_ask o f j z q (fun K J l=>nd_foreign_same l f r (fun W3 R3 s=>Rs s m.who L M))).mono ?_;rintro e w' ⟨C,D,rfl,k⟩;exact⟨C,D,rfl,k.le (NO (by omega))⟩
   ·unfold ansB at d
    simp only[A0]at d;obtain⟨q,z,A,r⟩:=d;rw[step_answer n _ m q];refine(nd_Step_answer o f j z q (fun K J l=>nd_answer l f A r)).mono ?_;rintro e w' ⟨C,D,rfl,k⟩;exact⟨C,D,rfl,k.le (NO (by omega))⟩
theorem Ul (h:Dm S.log)(m:Wm)(b:PH S m=true):Dm (S.hears m).log :=by
 unfold PH at b;simp only[Ar]at b;obtain⟨_,b⟩:=b;unfold Cl.hears;by_cases d:m.dst=0
 ·rw[Ay d]
  rcases hc:S.c with _|c
  ·simpa only[hc]using h
  ·simp only[hc];exact h
 ·rw[Aw d]at b⊢
  rcases hn:S.nodes m.dst with _|n
  ·simpa only[hn]using h
  ·rw[hn]at b
   simp only[Ar]at b;simp only[hn];rw[Y3 _ _ _ (Jw b.2.2).2.1];exact h.ends _
def OJ (S:Cl)(i:Nat):Bool:=match S.net[i]? with
 |none=>false
 |some m=>PH (S.drop i) m
theorem XW (h:Sp (CN p S B::R) w)(b:OJ S i=true)(g:B≤790000):Calls Tryz.prog 51 #[pt p,.agg (BC 2 an i key val on kv).toArray] w fun e w'=>e=.returned (.int .i64 0)∧Sp (CN p (S.sendAt i) (B+2)::R) w':=by
 obtain⟨v,d,h⟩:=h.cls;unfold OJ at b;rcases hm:S.net[i]? with _|m
 ·rw[hm]at b;cases b
 ·rw[hm]at b
  have e:S.sendAt i=(S.drop i).hears m:=by unfold Cl.sendAt;simp only[hm]
  rw[e];refine(Ol (c:=0) (a:=an) (key:=key) (val:=val) (on:=on) (kv:=kv) h (fun W o j=>XG j hm (fun y r q l k=>hearsL k l d b g))).mono ?_;rintro e w' ⟨rfl,f⟩;exact⟨rfl,Yu v (Ul (S:=S.drop i) d m b) f⟩
end
def awayB (n:Nd)(key:Str):Bool:=itKey key&&(decide (key.size≤1000∧n.msgs.length<300∧n.waits.length<1000∧n.dk.boot≤1000000∧n.asked<1000000)&&(n.ring.isSome&&decide (n.own key≠n.id)))
theorem awayB_ok {n:Nd}{key:Str}{id:Nat}(h:awayB n key=true):n.AwayOk ⟨0,id,1,key⟩:=by unfold awayB at h;simp only[Ar,A0]at h;obtain⟨c,⟨d,f,g,j,k⟩,b,l⟩:=h;exact⟨c,d,rfl,f,g,⟨j,k⟩,(fun e=>by rw[e]at b;cases b),l⟩
def LT (S:Cl)(a:Nat)(key:Str):Bool:=
 decide (1≤a∧a≤5∧S.onow≤1000000∧S.log.length<10000)&&(match S.nodes a with
  |none=>false
  |some n=>(XP n key||awayB n key)&&Rj (S.called 1 a key) (n.ask (S.clk a) ⟨0,S.log.length+1,1,key⟩).did)
def MF (S:Cl)(a i:Nat):Bool:=
 decide (1≤a∧a≤5)&&(match S.nodes a with
  |none=>false
  |some n=>match n.reads[i]? with
   |none=>false
   |some (q,tok)=>
    let val:=(S.orgAt S.onow q.key).1
    decide (Hz (setsOf S.org q.key) S.onow=(val,true))&&(decide (S.orgAt S.onow q.key=(val,true))&&(decide (q.key.size≤1000∧n.reads.length≤1000∧n.tlast≤100000∧tok≤100000)&&((match n.toks.find? (fun t=>decide (t.1=tok))with
     |some t=>decide (t.1=tok)&&t.2.2
     |none=>false)&&(itMay q.key val 0 false&&((cGet n.dk.cache q.key).isNone &&(decide (n.dk.used+Nd.recLen q.key val≤2225∧n.dk.cache.length<8)&&(n.serves (S.clk a) q.key&&(decide (n.msgs.length<300∧n.reps.length<300)&&Rj S (n.read (S.clk a) i val true))))))))))
section
variable {R:List As} {w w':World} {v:ClV} {S:Cl} {B a p i an op:Nat} {key val:Str} {on:Bool} {kv:Value} {n:Nd}
theorem setA (h:Sp (CN p S B::R) w)(f:S.onow<100000)(c:key.size≤1000)(g:val.size≤1000):Calls Tryz.prog 51 #[pt p,.agg (BC 6 a i key val true kv).toArray] w fun e w'=>e=.returned (.int .i64 0)∧Sp (CN p (S.set key val) B::R) w':=by obtain⟨v,d,h⟩:=h.cls;refine(Qp h f c g).mono ?_;rintro e w' ⟨rfl,b⟩;exact⟨rfl,Yu v d b⟩
theorem getA (h:Sp (CN p S B::R) w)(b:LT S a key=true)(J:B≤790000):Calls Tryz.prog 51 #[pt p,.agg (BC 7 a i key val on kv).toArray] w fun e w'=>e=.returned (.int .i64 0)∧Sp (CN p (S.call 1 a key) (B+2)::R) w':=by
 obtain⟨v,k,h⟩:=h.cls;unfold LT at b;simp only[Ar,A0]at b;obtain⟨⟨o,q,u,t⟩,b⟩:=b;rcases hn:S.nodes a with _|n
 ·rw[hn]at b;cases b
 ·rw[hn]at b
  simp only[Ar,CQ]at b;obtain⟨f,y⟩:=b;obtain⟨C,m,D,E⟩:=Jw y
  have e:S.call 1 a key={(S.called 1 a key).setNd a (n.ask (S.clk a) ⟨0,S.log.length+1,1,key⟩).did.1 with net:=S.net++(n.ask (S.clk a) ⟨0,S.log.length+1,1,key⟩).did.2.1,log:=(n.ask (S.clk a) ⟨0,S.log.length+1,1,key⟩).did.2.2.foldl (DS S.onow) (S.called 1 a key).log }:=by unfold Cl.call;simp only[hn];exact Y3 (S.called 1 a key) _ _ m
  rw[e];refine(Qq (c:=0) h (fun W F s=>XH (op:=1) (n':=(n.ask (S.clk a) ⟨0,S.log.length+1,1,key⟩).did.1) s ⟨o,q⟩ hn (by omega:B≤B+2) (by omega) u t (fun x H G l=> ?_) C m D k E)).mono ?_
  ·rcases f with f|f
   ·obtain⟨z,A⟩:=XO (B:=B) (id:=S.log.length+1) f (by omega)
    refine(Ru l (S.log.length+1) key z A).mono ?_;rintro e w' ⟨g,j,rfl,d⟩;exact⟨g,j,rfl,d.le (NO (by omega))⟩
   ·refine(Rt l (S.log.length+1) 1 key (fun I R3 d=>nd_ask_away d ⟨0,S.log.length+1,1,key⟩ (awayB_ok f))).mono ?_
    rintro e w' ⟨g,j,rfl,d⟩;exact⟨g,j,rfl,d.le (NO (by omega))⟩
  ·rintro e w' ⟨rfl,r⟩
   exact⟨rfl,Yu v (k.called.ends _) r⟩
theorem XY (h:Sp (CN p S B::R) w)(b:MF S a i=true)(Z:B≤790000):Calls Tryz.prog 51 #[pt p,.agg (BC 5 a i key val on kv).toArray] w fun e w'=>e=.returned (.int .i64 0)∧Sp (CN p (S.read a i) (B+2)::R) w':=by
 obtain⟨v,j,h⟩:=h.cls;unfold MF at b;simp only[Ar,A0]at b;obtain⟨K,b⟩:=b;rcases hn:S.nodes a with _|n
 ·rw[hn]at b;cases b
 ·rw[hn]at b
  simp only at b;rcases hr:n.reads[i]? with _|⟨q,f⟩
  ·rw[hr]at b;cases b
  ·rw[hr]at b
   simp only[Ar,A0]at b;obtain⟨l,z,⟨A,g,C,D⟩,d,E,F,⟨m,o⟩,r,⟨s,u⟩,y⟩:=b;obtain⟨O,k,P,Q⟩:=Jw y
   have L:∃key,n.toks.find? (fun t=>decide (t.1=f))=some (f,key,true):=by
    rcases hf:n.toks.find? (fun t=>decide (t.1=f))with _|⟨t1,U,t3⟩
    ·rw[hf]at d;cases d
    ·rw[hf]at d
     simp only[Ar,A0]at d;exact⟨U,by rw[hf,d.1,d.2]⟩
   have e:S.read a i={S.setNd a (n.read (S.clk a) i (S.orgAt S.onow q.key).1 true).1 with net:=S.net++(n.read (S.clk a) i (S.orgAt S.onow q.key).1 true).2.1,log:=(n.read (S.clk a) i (S.orgAt S.onow q.key).1 true).2.2.foldl (DS S.onow) S.log}:=by
    unfold Cl.read;simp only[hn,hr];have G:(S.orgAt S.onow q.key).2 =true:=by rw[z]
    rw[G];exact Y3 _ _ _ k
   rw[e];refine(Oj (c:=0) h (fun W V J=>XF (n':=(n.read (S.clk a) i (S.orgAt S.onow q.key).1 true).1) J K hn (by omega:B≤B+2) hr A g l (fun x Y X M=> ?_) O k P j Q)).mono ?_
   ·refine(Xv M i q f _ ⟨by omega,hr,⟨g,C,D⟩,L,E,by simpa using F,⟨m,o⟩,r,⟨s,u⟩⟩).mono ?_
    rintro e w' ⟨N,T,rfl,I⟩;exact⟨N,T,rfl,I.le (NO (by omega))⟩
   ·rintro e w' ⟨rfl,H⟩
    exact⟨rfl,Yu v (j.ends _) H⟩
end
def IK (S:Cl)(a:Nat):Option Cl:=if O5 S a=true then some (S.tick a)else none
def Nu (S:Cl):Option Cl:=(IK S 0).bind fun S=>(IK S 1).bind fun S=>(IK S 2).bind fun S=>(IK S 3).bind fun S=>(IK S 4).bind fun S=>IK S 5
def Vg (S:Cl):Option Cl:=if OJ S 0=true then some (S.sendAt 0)else none
def Ez:Nat→Cl→Option Cl
 |0,S=>some S
 |f+1,S=>match S.net with
  |[]=>some S
  |_::_=>(Vg S).bind (Ez f)
def QX (S:Cl):Option Cl:=(Nu S).bind (Ez 500)
def Ee:Nat→Cl→Option Cl
 |0,S=>some S
 |n+1,S=>(QX S).bind (Ee n)
def Vt (a i:Nat)(S:Cl):Option Cl:=if MF S a i=true then some (S.read a i)else none
def Vo (S:Cl)(a:List Nat):Bool:=(S.log.zip a).all fun p=> !p.1.done||(decide (p.1.frm≤p.1.too∧p.1.rp.key=p.1.key∧p.1.rp.id=p.1.id)&&(!decide (p.1.op=1∧p.1.rp.err=0)||heldB (setsOf S.org p.1.key) p.1.rp.val p.1.rp.has p.2 p.1.too))
def kS:Str:=⟨#[107]⟩
def vS:Str:=⟨#[118]⟩
structure LwP where
 p:Nat
 lv:Value
 kv:Value
def R4 (q:LwP)(mt:List Value):List Value:=pt q.p::q.lv::(mt++[q.kv])
def Ei:List Value:=[.string ⟨#[97]⟩,.string ⟨#[98]⟩,.string ⟨#[99]⟩,.string ⟨#[100]⟩,.string ⟨#[101]⟩,.string ⟨#[102]⟩,.string ⟨#[103]⟩,.string ⟨#[104]⟩]
def GL (wp:Nat)(q:LwP)(S:Cl)(low:List Nat)(mt:List Value)(B:Nat):List As:=[AM wp (R4 q mt) 53,CN q.p S B,BF 3 1 q.lv low.length (ints (low.map Int.ofNat)),BF 9 1 q.kv 8 Ei]
def Hi (wp:Nat)(S:Cl)(low:List Nat)(mt:List Value)(B:Nat):As:=As.ex fun q:LwP=>As.and (mt.length=24) (ED (GL wp q S low mt B))
theorem C6 {s:Str}{n:Nat}(h:s.size≤n):DA s n=s:=by
 unfold DA
 split
 ·omega
 ·rfl
section
variable {R:List As} {w w':World} {S S':Cl} {B B' wp a i:Nat} {low:List Nat} {mt:List Value} {key val:Str} {c:Int}
theorem Sp.lw (h:Sp (Hi wp S low mt B::R) w):∃q:LwP,mt.length=24∧Sp (GL wp q S low mt B++R) w:=by obtain⟨q,h⟩:=h.exE;obtain⟨b,h⟩:=h.andE;exact⟨q,b,h.open_⟩
theorem Sp.lwI (q:LwP)(b:mt.length=24)(h:Sp (GL wp q S low mt B++R) w):Sp (Hi wp S low mt B::R) w:=Sp.exI q (Sp.andI b (DV _ h))
def Y5:=@Sp.lwI
theorem Er {p:Nat}(h:Sp (CN p S B::R) w):∃d,(Calls Tryz.prog 28 #[pt p] w fun e w'=>e=.returned (pt d)∧w'=w)∧∀W:World,Keep [] w W→Calls Tryz.prog 29 #[pt d] W fun e w'=>∃u,e=.returned u∧Sp (BF 87 13 u S.log.length (rows caC S.log)::CN p S B::R) w':=by obtain⟨v,g,h⟩:=h.cls;refine⟨v.lp,Ww h.blk,fun W k=> ?_⟩;refine(Qv ((h.still k).pull 3)).mono ?_;rintro e w' ⟨u,rfl,b⟩;refine⟨u,rfl, ?_⟩;have f:Sp (Bo p v S B++BF 87 13 u S.log.length (rows caC S.log)::R) w':=(b.pull 1|>.push 4|>fun _=>((b.push 6).push 3));exact(Yu v g f).pull 1
theorem lw_Step_lowX {X:As}{k y kc:Nat}{ka:Option Addr}(ag:k≠1∧k≠7∧k≠8)(ah:y≤80)(h:Sp (Hi wp S low mt B::X::R) w)(hk:key.size≤45)
  (hc:∀(p:Nat) (W:World) (R':List As),Sp (CN p S B::X::R') W→Calls Tryz.prog 51 #[pt p,.agg (BC k a i key ⟨#[]⟩ false (.slice ka y kc)).toArray] W fun e w'=>e=.returned (.int .i64 c)∧Sp (CN p S' B'::X::R') w') (ai:S'.log.length≠low.length+1) (ak:S'.log.length≤100000∧low.length≤100000):
  Calls Tryz.prog 32 #[pt wp,.agg (BC k a i key ⟨#[]⟩ false (.slice ka y kc)).toArray] w fun e w'=>e=.returned (.int .i64 c)∧Sp (Hi wp S' low mt B'::X::R) w':=by
 obtain⟨q,al,h⟩:=h.lw;obtain⟨s,hs⟩:∃s,s=BC k a i key ⟨#[]⟩ false (.slice ka y kc):=⟨_,rfl⟩;have h1:Sp (AM w.heap.size s 39::GL wp q S low mt B++X::R) (w.alloc (.cells s.toArray 39)):=h.alloc s 39;have T:=h_ h1;have f:=h_8 hk hs al hc ai ak ag ah;have kc:DA key 45=key:=C6 hk;have kv:DA ⟨#[]⟩ 60=⟨#[]⟩:=C6 (by decide);have ae:=h_2 kc kv;rw[←hs];unfold pt;clear h h1 hk ag ah hs al hc ai ak kc kv;go_enter GS,Gf;go_wp2_with fail;obtain⟨b3,Z⟩:∃b,b=w.heap.size:=⟨_,rfl⟩;obtain⟨w1,ad⟩:∃w1,w1=w.alloc (.cells s.toArray 39):=⟨_,rfl⟩;rw[←Z,←ad]at T;rw[←Z,←ad];clear Z ad;refine wK (A:=[0,1,3,0,8,31,31,127,255,511]) 0 [pr b3 3,.string key,.string key,pr b3 4,.string ⟨#[]⟩,.string ⟨#[]⟩,pr b3 3,undef,pr b3 4,undef] (fun _ W=>Sp (AM b3 s 39::GL wp q S low mt B++X::R) W) ?mstart (.s ?m0<|.s ?m1<|.s ?m2<|.s ?m3<|.s ?m4<|.s ?m5<|.s ?m6<|.s ?m7<|.s ?m8<|.s ?m9<|.nil) ?mfin
 case mstart=>exact T.out.drew
 case mfin=>
  intro L F d N;have D:=d.blk;have s0:F.cell? ⟨b3,0,none⟩=some (.int .i64 (k:Int)):=by rw[D.cell,f.out.2.1];rfl
  have s5:F.cell? ⟨b3,5,none⟩=some (.bool false):=by rw[D.cell,f.out.2.1];rfl
  have s6:F.cell? ⟨b3,6,none⟩=some (.slice ka y kc):=by rw[D.cell,f.out.2.1];rfl
  have E:F.cell? ⟨b3,4,none⟩=some (.string ⟨#[]⟩):=by rw[D.cell,f.out.2.1];rfl
  have z:F.frozen? ⟨b3,4,none⟩=false:=Eh D _;have r:=d.setCell 4 (.string ⟨#[]⟩);rw[show s.set 4 (.string ⟨#[]⟩)=s from by rw[f.out.2.1];rfl]at r;have U:=h_ r;clear r;have H2:=h_ d;clear d N D T;have aq:¬(80:Int)<(y:Int):=by have:=f.out.2.2.2.2.2.2.2;omega
  have ar:¬80<y:=by have:=f.out.2.2.2.2.2.2.2;omega
  have k1:((k:Int)==1)=false:=by have:=f.out.2.2.2.2.2.2.1.1;simp;omega
  have k7:((k:Int)==7)=false:=by have:=f.out.2.2.2.2.2.2.1.2.1;simp;omega
  have k8:((k:Int)==8)=false:=by have:=f.out.2.2.2.2.2.2.1.2.2;simp;omega
  have an:¬k=1:=f.out.2.2.2.2.2.2.1.1;have ao:¬k=7:=f.out.2.2.2.2.2.2.1.2.1;have ap:¬k=8:=f.out.2.2.2.2.2.2.1.2.2;simp[Al,Act.put];go_wp2_with fail;clear s0 s5 s6 E z aq ar k1 k7 k8 an ao ap;obtain⟨P,am⟩:∃P,P=F.setCell ⟨b3,4,none⟩ (.string ⟨#[]⟩):=⟨_,rfl⟩;rw[←am]at U⊢;have H3:=h_ U.out;clear U;clear am H2;refine wK (A:=[0,1,3,7,0,31,63]) 32 [pr wp 0,pr wp 0,pr wp 0,pr q.p 0,.agg s.toArray,.int .i64 c,.int .i64 c] (fun L W=>Sp (AM b3 s 39::(if L 5=true then GL wp q S' low mt B' else GL wp q S low mt B)++X::R) W) ?bstart (.s ?b0<|.s ?b1<|.s ?b2<|.s ?b3<|.s ?b4<|.t ?b5<|.s ?b6<|.nil) ?bfin
  case bstart=>exact H3.out.drew
  case bfin=>
   intro L Q d N;rw[N 5 (by decide) (by decide)]at d;have C:Sp (AM b3 s 39::GL wp q S' low mt B'++X::R) Q:=d;obtain⟨lp,aj,af⟩:=Er (C.pull 2);have J:Q.cell? ⟨wp,0,none⟩=some (pr q.p 0):=(C.pull 1).blk.cell 0;have I:=h_2 aj (af Q (By _ _));unfold pt at I;clear d N C aj af H3;simp[Al,Act.put];go_wp2_with fail;refine I.out.1.mono ?_;rintro e w5 ⟨rfl,rfl⟩;go_wp2_with fail;refine I.out.2.mono ?_;rintro e w6 ⟨u,rfl,Y⟩;obtain⟨ua,uc,hu⟩:=A4 Y.row;have G:=Y.drop;have J:w6.cell? ⟨wp,0,none⟩=some (pr q.p 0):=(G.pull 2).blk.cell 0;have d1:w6.cell? ⟨wp,1,none⟩=some q.lv:=(G.pull 2).blk.cell 1;obtain⟨la,lc,ab⟩:=A4 (G.pull 3).row;rw[ab]at d1;have H7:=h_2 G ab;obtain⟨nl,ac⟩:∃n,n=S'.log.length:=⟨_,rfl⟩;obtain⟨ll,aa⟩:∃n,n=low.length:=⟨_,rfl⟩;have aw:¬(nl:Int)=(ll:Int)+1:=by have:=f.out.2.2.2.2.1;omega
   have au:nl≤100000:=by rw[ac];exact f.out.2.2.2.2.2.1.1
   have av:ll≤100000:=by rw[aa];exact f.out.2.2.2.2.2.1.2
   subst hu;rw[←aa]at d1;rw[←ac];clear Y G I ab ac aa;go_wp2;go_ret;exact⟨rfl,Y5 q f.out.2.2.1 ((H7.out.1.pull 1).drop.push 1)⟩
  case b5=>
   intro L xv W d hl j o m x b v K' l;clear j o m;have g:=h_ d
   have J:W.cell? ⟨wp,0,none⟩=some (pr q.p 0):=by
    cases H:L 5 with
    |false=>rw[H]at d;exact(d.pull 1).blk.cell 0
    |true=>rw[H]at d;exact(d.pull 1).blk.cell 0
   clear d;simp at x;simp only[Al,Act.put,A8,A7,A6,x]at v;subst v;go_simp;clear J;have V:=g.out;rw[hl]at V;have M:=f.out.2.2.2.1 q.p W _ ((V.pull 5).pull 3);rw[←f.out.2.1]at M;unfold pt at M;refine M.mono ?_;rintro e Q ⟨rfl,C⟩;have H4:=h_ ((C.push 3).push 5);clear V C M;go_simp;exact l _ _ rfl H4.out
  all_goals
   intro L xv W d j o m x b v K' l;have g:=h_ d
   have J:W.cell? ⟨wp,0,none⟩=some (pr q.p 0):=by
    cases H:L 5 with
    |false=>rw[H]at d;exact(d.pull 1).blk.cell 0
    |true=>rw[H]at d;exact(d.pull 1).blk.cell 0
   clear d;simp at x;simp only[Al,Act.put,A8,A7,A6,x]at v;subst v
  case b4=>clear j o m;refine Cb 39 _ rfl b3 (by rfl) 39 s.toArray (0,0) _ g.out.blk Dk rfl (by rw[f.out.2.1];exact Y0) (by rfl) ?_;exact l _ _ rfl g.out
  all_goals clear j o m;go_simp;exact l _ _ rfl g.out
 all_goals
  intro L xv W d j o m x b v K' l;have g:=h_ d;have O:W.cell? ⟨b3,3,none⟩=some (.string key):=by rw[d.blk.cell,f.out.2.1];rfl
  have E:W.cell? ⟨b3,4,none⟩=some (.string ⟨#[]⟩):=by rw[d.blk.cell,f.out.2.1];rfl
  have K:W.frozen? ⟨b3,3,none⟩=false:=Eh d.blk _;have z:W.frozen? ⟨b3,4,none⟩=false:=Eh d.blk _;clear d;simp at x;simp only[Al,Act.put,A8,A7,A6,x]at v;subst v
 case m2=>clear j o m;go_simp;clear O E K z;refine(DP key 45 (by have:=f.out.1;omega) (by omega)).mono ?_;rintro e P ⟨rfl,rfl⟩;rw[ae.out.1];go_simp;exact l _ _ rfl g.out
 case m5=>clear j o m;go_simp;clear O E K z;refine(DP ⟨#[]⟩ 60 (by decide) (by omega)).mono ?_;rintro e P ⟨rfl,rfl⟩;rw[ae.out.2];go_simp;exact l _ _ rfl g.out
 case m7=>clear j o m;go_simp;clear O E K z;have r:=g.out.setCell 3 (.string key);rw[show s.set 3 (.string key)=s from by rw[f.out.2.1];rfl]at r;exact l _ _ rfl r
 case m9=>clear j o m;go_simp;clear O E K z;have r:=g.out.setCell 4 (.string ⟨#[]⟩);rw[show s.set 4 (.string ⟨#[]⟩)=s from by rw[f.out.2.1];rfl]at r;exact l _ _ rfl r
 all_goals clear j o m;go_simp;exact l _ _ rfl g.out
theorem lw_Step_low {k:Nat}(l:k≠1∧k≠7∧k≠8)(h:Sp (Hi wp S low mt B::R) w)(j:key.size≤45)
  (g:∀(p:Nat) (W:World) (b:List As),Sp (CN p S B::b) W→Calls Tryz.prog 51 #[pt p,.agg (BC k a i key ⟨#[]⟩ false (.slice none 0 0)).toArray] W fun e w'=>e=.returned (.int .i64 c)∧Sp (CN p S' B'::b) w') (m:S'.log.length≠low.length+1) (n:S'.log.length≤100000∧low.length≤100000):
  Calls Tryz.prog 32 #[pt wp,.agg (BC k a i key ⟨#[]⟩ false (.slice none 0 0)).toArray] w fun e w'=>e=.returned (.int .i64 c)∧Sp (Hi wp S' low mt B'::R) w':=by
 refine(lw_Step_lowX (X:=ED []) l (AA 80) (h.nilA.push 1) j (fun p W b f=>g p W (ED []::b) f) m n).mono ?_;rintro e w' ⟨rfl,d⟩;exact⟨rfl,(d.pull 1).drop⟩
theorem Jz (h:Sp (Hi wp S low mt B::R) w)(f:key.size≤45)
  (d:∀(p:Nat) (W:World) (b:List As),Sp (CN p S B::b) W→Calls Tryz.prog 51 #[pt p,.agg (BC 2 a i key ⟨#[]⟩ false (.slice none 0 0)).toArray] W fun e w'=>e=.returned (.int .i64 c)∧Sp (CN p S' B'::b) w') (g:S'.log.length≠low.length+1) (j:S'.log.length≤100000∧low.length≤100000):
  Calls Tryz.prog 32 #[pt wp,.agg (BC 2 a i key ⟨#[]⟩ false (.slice none 0 0)).toArray] w fun e w'=>e=.returned (.int .i64 c)∧Sp (Hi wp S' low mt B'::R) w':=lw_Step_low (by decide) h f d g j
theorem J0 (h:Sp (Hi wp S low mt B::R) w)(f:key.size≤45)
  (d:∀(p:Nat) (W:World) (b:List As),Sp (CN p S B::b) W→Calls Tryz.prog 51 #[pt p,.agg (BC 5 a i key ⟨#[]⟩ false (.slice none 0 0)).toArray] W fun e w'=>e=.returned (.int .i64 c)∧Sp (CN p S' B'::b) w') (g:S'.log.length≠low.length+1) (j:S'.log.length≤100000∧low.length≤100000):
  Calls Tryz.prog 32 #[pt wp,.agg (BC 5 a i key ⟨#[]⟩ false (.slice none 0 0)).toArray] w fun e w'=>e=.returned (.int .i64 c)∧Sp (Hi wp S' low mt B'::R) w':=lw_Step_low (by decide) h f d g j
theorem NS (h:Sp (Hi wp S low mt B::R) w)(f:key.size≤45)
  (d:∀(p:Nat) (W:World) (b:List As),Sp (CN p S B::b) W→Calls Tryz.prog 51 #[pt p,.agg (BC 10 a i key ⟨#[]⟩ false (.slice none 0 0)).toArray] W fun e w'=>e=.returned (.int .i64 c)∧Sp (CN p S' B'::b) w') (g:S'.log.length≠low.length+1) (j:S'.log.length≤100000∧low.length≤100000):
  Calls Tryz.prog 32 #[pt wp,.agg (BC 10 a i key ⟨#[]⟩ false (.slice none 0 0)).toArray] w fun e w'=>e=.returned (.int .i64 c)∧Sp (Hi wp S' low mt B'::R) w':=lw_Step_low (by decide) h f d g j
theorem P7 (h:Sp (Hi wp S low mt B::R) w)(X:key.size≤45)(hv:val.size≤60)
  (hc:∀(p:Nat) (W:World) (R':List As),Sp (CN p S B::R') W→Calls Tryz.prog 51 #[pt p,.agg (BC 6 a i key val true (.slice none 0 0)).toArray] W fun e w'=>e=.returned (.int .i64 c)∧Sp (CN p S' B'::R') w') (ae:S'.log.length≠low.length+1) (ag:S'.log.length≤100000∧low.length≤100000):
  Calls Tryz.prog 32 #[pt wp,.agg (BC 6 a i key val true (.slice none 0 0)).toArray] w fun e w'=>e=.returned (.int .i64 c)∧Sp (Hi wp S' low mt B'::R) w':=by
 obtain⟨q,ah,h⟩:=h.lw;obtain⟨s,hs⟩:∃s,s=BC 6 a i key val true (.slice none 0 0):=⟨_,rfl⟩;have h1:Sp (AM w.heap.size s 39::GL wp q S low mt B++R) (w.alloc (.cells s.toArray 39)):=h.alloc s 39;have P:=h_ h1;have f:=h_7 X hs ah hc ae ag hv;have kc:DA key 45=key:=C6 X;have kv:DA val 60=val:=C6 hv;have ac:=h_2 kc kv;rw[←hs];unfold pt;clear h h1 X hs ah hc ae ag kc kv hv;go_enter GS,Gf;go_wp2_with fail;obtain⟨b3,V⟩:∃b,b=w.heap.size:=⟨_,rfl⟩;obtain⟨w1,ab⟩:∃w1,w1=w.alloc (.cells s.toArray 39):=⟨_,rfl⟩;rw[←V,←ab]at P;rw[←V,←ab];clear V ab;refine wK (A:=[0,1,3,0,8,31,31,127,255,511]) 0 [pr b3 3,.string key,.string key,pr b3 4,.string val,.string val,pr b3 3,undef,pr b3 4,undef] (fun _ W=>Sp (AM b3 s 39::GL wp q S low mt B++R) W) ?mstart (.s ?m0<|.s ?m1<|.s ?m2<|.s ?m3<|.s ?m4<|.s ?m5<|.s ?m6<|.s ?m7<|.s ?m8<|.s ?m9<|.nil) ?mfin
 case mstart=>exact P.out.drew
 case mfin=>
  intro L M d I;have G:=d.blk;have s0:M.cell? ⟨b3,0,none⟩=some (.int .i64 6):=by rw[G.cell,f.out.2.1];rfl
  have s5:M.cell? ⟨b3,5,none⟩=some (.bool true):=by rw[G.cell,f.out.2.1];rfl
  have s6:M.cell? ⟨b3,6,none⟩=some (.slice none 0 0):=by rw[G.cell,f.out.2.1];rfl
  have Q:=h_ d;clear d I G P;simp[Al,Act.put];go_wp2_with fail;clear s0 s5 s6;obtain⟨N,ai⟩:∃N,N=M:=⟨_,rfl⟩;rw[←ai]at Q⊢;have H3:=h_ Q.out;clear ai Q;refine wK (A:=[0,1,3,7,0,31,63]) 32 [pr wp 0,pr wp 0,pr wp 0,pr q.p 0,.agg s.toArray,.int .i64 c,.int .i64 c] (fun L W=>Sp (AM b3 s 39::(if L 5=true then GL wp q S' low mt B' else GL wp q S low mt B)++R) W) ?bstart (.s ?b0<|.s ?b1<|.s ?b2<|.s ?b3<|.s ?b4<|.t ?b5<|.s ?b6<|.nil) ?bfin
  case bstart=>exact H3.out.drew
  case bfin=>
   intro L O d I;rw[I 5 (by decide) (by decide)]at d;have v:Sp (AM b3 s 39::GL wp q S' low mt B'++R) O:=d;obtain⟨lp,af,ad⟩:=Er (v.pull 2);have D:O.cell? ⟨wp,0,none⟩=some (pr q.p 0):=(v.pull 1).blk.cell 0;have C:=h_2 af (ad O (By _ _));unfold pt at C;clear d I v af ad H3;simp[Al,Act.put];go_wp2_with fail;refine C.out.1.mono ?_;rintro e w5 ⟨rfl,rfl⟩;go_wp2_with fail;refine C.out.2.mono ?_;rintro e w6 ⟨u,rfl,U⟩;obtain⟨ua,uc,hu⟩:=A4 U.row;have x:=U.drop;have D:w6.cell? ⟨wp,0,none⟩=some (pr q.p 0):=(x.pull 2).blk.cell 0;have d1:w6.cell? ⟨wp,1,none⟩=some q.lv:=(x.pull 2).blk.cell 1;obtain⟨la,lc,Z⟩:=A4 (x.pull 3).row;rw[Z]at d1;have H7:=h_2 x Z;obtain⟨nl,aa⟩:∃n,n=S'.log.length:=⟨_,rfl⟩;obtain⟨ll,Y⟩:∃n,n=low.length:=⟨_,rfl⟩;have al:¬(nl:Int)=(ll:Int)+1:=by have:=f.out.2.2.2.2.1;omega
   have aj:nl≤100000:=by rw[aa];exact f.out.2.2.2.2.2.1.1
   have ak:ll≤100000:=by rw[Y];exact f.out.2.2.2.2.2.1.2
   subst hu;rw[←Y]at d1;rw[←aa];clear U x C Z aa Y;go_wp2;go_ret;exact⟨rfl,Y5 q f.out.2.2.1 ((H7.out.1.pull 1).drop.push 1)⟩
  case b5=>
   intro L xv W d hl j m l r b o K' k;clear j m l;have g:=h_ d
   have D:W.cell? ⟨wp,0,none⟩=some (pr q.p 0):=by
    cases y:L 5 with
    |false=>rw[y]at d;exact(d.pull 1).blk.cell 0
    |true=>rw[y]at d;exact(d.pull 1).blk.cell 0
   clear d;simp at r;simp only[Al,Act.put,A8,A7,A6,r]at o;subst o;go_simp;clear D;have T:=g.out;rw[hl]at T;have H:=f.out.2.2.2.1 q.p W _ ((T.pull 2));rw[←f.out.2.1]at H;unfold pt at H;refine H.mono ?_;rintro e O ⟨rfl,v⟩;have H4:=h_ (v.push 2);clear T v H;go_simp;exact k _ _ rfl H4.out
  all_goals
   intro L xv W d j m l r b o K' k;have g:=h_ d
   have D:W.cell? ⟨wp,0,none⟩=some (pr q.p 0):=by
    cases y:L 5 with
    |false=>rw[y]at d;exact(d.pull 1).blk.cell 0
    |true=>rw[y]at d;exact(d.pull 1).blk.cell 0
   clear d;simp at r;simp only[Al,Act.put,A8,A7,A6,r]at o;subst o
  case b4=>clear j m l;refine Cb 39 _ rfl b3 (by rfl) 39 s.toArray (0,0) _ g.out.blk Dk rfl (by rw[f.out.2.1];exact Y0) (by rfl) ?_;exact k _ _ rfl g.out
  all_goals clear j m l;go_simp;exact k _ _ rfl g.out
 all_goals
  intro L xv W d j m l r b o K' k;have g:=h_ d;have J:W.cell? ⟨b3,3,none⟩=some (.string key):=by rw[d.blk.cell,f.out.2.1];rfl
  have K:W.cell? ⟨b3,4,none⟩=some (.string val):=by rw[d.blk.cell,f.out.2.1];rfl
  have E:W.frozen? ⟨b3,3,none⟩=false:=Eh d.blk _;have F:W.frozen? ⟨b3,4,none⟩=false:=Eh d.blk _;clear d;simp at r;simp only[Al,Act.put,A8,A7,A6,r]at o;subst o
 case m2=>clear j m l;go_simp;clear J K E F;refine(DP key 45 (by have:=f.out.1;omega) (by omega)).mono ?_;rintro e N ⟨rfl,rfl⟩;rw[ac.out.1];go_simp;exact k _ _ rfl g.out
 case m5=>clear j m l;go_simp;clear J K E F;refine(DP val 60 (by have:=f.out.2.2.2.2.2.2;omega) (by omega)).mono ?_;rintro e N ⟨rfl,rfl⟩;rw[ac.out.2];go_simp;exact k _ _ rfl g.out
 case m7=>clear j m l;go_simp;clear J K E F;have z:=g.out.setCell 3 (.string key);rw[show s.set 3 (.string key)=s from by rw[f.out.2.1];rfl]at z;exact k _ _ rfl z
 case m9=>clear j m l;go_simp;clear J K E F;have z:=g.out.setCell 4 (.string val);rw[show s.set 4 (.string val)=s from by rw[f.out.2.1];rfl]at z;exact k _ _ rfl z
 all_goals clear j m l;go_simp;exact k _ _ rfl g.out
end
def Ex:Nat→Nat→Cl→Option Cl
 |0,_,S=>some S
 |k+1,a,S=>(IK S a).bind (Ex k (a+1))
theorem M6 (S:Cl):Nu S=Ex 6 0 S:=by
 have h:∀o:Option Cl,o.bind (Ex 0 6)=o:=fun o=>by cases o<;>rfl
 unfold Nu Ex
 congr 1;funext S
 unfold Ex
 congr 1;funext S
 unfold Ex
 congr 1;funext S
 unfold Ex
 congr 1;funext S
 unfold Ex
 congr 1;funext S
 unfold Ex;rw[h]
section
variable {R:List As} {w w':World} {S S':Cl} {B B' wp a i:Nat} {low:List Nat} {mt:List Value} {key val:Str} {c:Int}
theorem NR (h:Sp (Hi wp S low mt B::R) w)(P:Nu S=some S'):
  Calls Tryz.prog 32 #[pt wp,.agg (BC 1 0 0 ⟨#[]⟩ ⟨#[]⟩ false (.slice none 0 0)).toArray] w fun e w'=>e=.returned (.int .i64 0)∧Sp (Hi wp S' low mt B::R) w':=by
 rw[M6]at P;obtain⟨q,ac,h⟩:=h.lw;obtain⟨s,O⟩:∃s,s=BC 1 0 0 ⟨#[]⟩ ⟨#[]⟩ false (.slice none 0 0):=⟨_,rfl⟩;have X:Sp (AM w.heap.size s 39::GL wp q S low mt B++R) (w.alloc (.cells s.toArray 39)):=h.alloc s 39;have J:=h_ X;have j:=h_3 P O ac;have kc:DA ⟨#[]⟩ 45=⟨#[]⟩:=C6 (by decide);have kv:DA ⟨#[]⟩ 60=⟨#[]⟩:=C6 (by decide);have V:=h_2 kc kv;rw[←O];unfold pt;clear h X O ac P kc kv;go_enter GS,Gf;go_wp2_with fail;obtain⟨d,N⟩:∃b,b=w.heap.size:=⟨_,rfl⟩;obtain⟨w1,Q⟩:∃w1,w1=w.alloc (.cells s.toArray 39):=⟨_,rfl⟩;rw[←N,←Q]at J;rw[←N,←Q];clear N Q;refine wK (A:=[0,1,3,0,8,31,31,127,255,511]) 0 [pr d 3,.string ⟨#[]⟩,.string ⟨#[]⟩,pr d 4,.string ⟨#[]⟩,.string ⟨#[]⟩,pr d 3,undef,pr d 4,undef] (fun _ W=>Sp (AM d s 39::GL wp q S low mt B++R) W) ?mstart (.s ?m0<|.s ?m1<|.s ?m2<|.s ?m3<|.s ?m4<|.s ?m5<|.s ?m6<|.s ?m7<|.s ?m8<|.s ?m9<|.nil) ?mfin
 case mstart=>exact J.out.drew
 case mfin=>
  intro L t f hd;have l:=f.blk;have s0:t.cell? ⟨d,0,none⟩=some (.int .i64 1):=by rw[l.cell,j.out.2.1];rfl
  have T:t.cell? ⟨d,5,none⟩=some (.bool false):=by rw[l.cell,j.out.2.1];rfl
  have s6:t.cell? ⟨d,6,none⟩=some (.slice none 0 0):=by rw[l.cell,j.out.2.1];rfl
  have r:t.cell? ⟨d,4,none⟩=some (.string ⟨#[]⟩):=by rw[l.cell,j.out.2.1];rfl
  have o:t.frozen? ⟨d,4,none⟩=false:=Eh l _;have m:=f.setCell 4 (.string ⟨#[]⟩);rw[show s.set 4 (.string ⟨#[]⟩)=s from by rw[j.out.2.1];rfl]at m;have K:=h_ m;clear m;have H2:=h_ f;clear f hd l J;simp[Al,Act.put];go_wp2_with fail;clear s0 T s6 r o;obtain⟨I,ad⟩:∃I,I=t.setCell ⟨d,4,none⟩ (.string ⟨#[]⟩):=⟨_,rfl⟩;rw[←ad]at K⊢;have U:=h_ K.out;clear K;clear ad H2
  go_loopw [5] (fun T wr=>∃(n:Cl) (a:Nat),T=.int .i64 (a:Int)∧a≤6∧Ex (6-a) a n=some S'∧Sp (AM d s 39::GL wp q n low mt B++R) wr) (fun x _=>7-(intOf x).toNat)
  case atStart=>exact⟨S,0,rfl,AA _,j.out.1,U.out⟩
  case round=>
  obtain⟨n,a,rfl,ha,g,D⟩:=hrel;by_cases ae:a≤5
  ·have q0:(a:Int)≤5:=by omega
   obtain⟨k,hk⟩:∃k,6-a=k+1:=⟨5-a,by omega⟩;rw[hk]at g;unfold Ex at g
   have G:O5 n a=true∧Ex k (a+1) (n.tick a)=some S':=by
    unfold IK at g;by_cases l:O5 n a=true
    ·rw[Ay l]at g;exact⟨l,g⟩
    ·rw[Aw l]at g;cases g
   have ab:k=6-(a+1):=by omega
   rw[ab]at G;have d0:wr.cell? ⟨wp,0,none⟩=some (pr q.p 0):=(D.pull 1).blk.cell 0;have g:=tickA (i:=0) (key:=⟨#[]⟩) (val:=⟨#[]⟩) (on:=false) (kv:= .slice none 0 0) (D.pull 2) G.1;unfold BC at g;unfold pt at g;have M:=h_2 g G.2;clear D g G hk ab U;go_wp2_with fail;refine M.out.1.mono ?_;rintro e w5 ⟨rfl,Y⟩;have E:=h_2 (Y.push 2) M.out.2;clear Y M d0;go_wp2
   go_roundw
   ·exact⟨n.tick a,a+1,by simp,by omega,E.out.2,E.out.1⟩
   ·simp only[intOf];omega
  ·have he:a=6:=by omega
   subst he;have f:n=S':=by simpa[Ex]using g
   subst f;have E:=h_ D;clear D;go_wp2;go_ret;exact⟨rfl,Y5 q j.out.2.2 E.out.drop⟩
 all_goals
  intro L xv W f v C z aa b Z K' y;have u:=h_ f;have H:W.cell? ⟨d,3,none⟩=some (.string ⟨#[]⟩):=by rw[f.blk.cell,j.out.2.1];rfl
  have r:W.cell? ⟨d,4,none⟩=some (.string ⟨#[]⟩):=by rw[f.blk.cell,j.out.2.1];rfl
  have F:W.frozen? ⟨d,3,none⟩=false:=Eh f.blk _;have o:W.frozen? ⟨d,4,none⟩=false:=Eh f.blk _;clear f;simp at aa;simp only[Al,Act.put,A8,A7,A6,aa]at Z;subst Z
 case m2=>clear v C z;go_simp;clear H r F o;refine(DP ⟨#[]⟩ 45 (by decide) (by omega)).mono ?_;rintro e I ⟨rfl,rfl⟩;rw[V.out.1];go_simp;exact y _ _ rfl u.out
 case m5=>clear v C z;go_simp;clear H r F o;refine(DP ⟨#[]⟩ 60 (by decide) (by omega)).mono ?_;rintro e I ⟨rfl,rfl⟩;rw[V.out.2];go_simp;exact y _ _ rfl u.out
 case m7=>clear v C z;go_simp;clear H r F o;have m:=u.out.setCell 3 (.string ⟨#[]⟩);rw[show s.set 3 (.string ⟨#[]⟩)=s from by rw[j.out.2.1];rfl]at m;exact y _ _ rfl m
 case m9=>clear v C z;go_simp;clear H r F o;have m:=u.out.setCell 4 (.string ⟨#[]⟩);rw[show s.set 4 (.string ⟨#[]⟩)=s from by rw[j.out.2.1];rfl]at m;exact y _ _ rfl m
 all_goals clear v C z;go_simp;exact y _ _ rfl u.out
end
theorem Cl.ends_len (K:List Rp)(S:Cl):(K.foldl Cl.endCall S).log.length =S.log.length:=by
 induction K generalizing S with
 |nil=>rfl
 |cons r K ih=>rw[List.foldl_cons,ih];unfold Cl.endCall;rw[AD]
theorem Cl.came_len (S:Cl)(a:Nat)(r:Nd×List Wm×List Rp):(S.came a r).log.length =S.log.length:=by unfold Cl.came;rw[Cl.ends_len];rfl
def YI:=@Cl.came_len
theorem Cl.tick_len (S:Cl)(a:Nat):(S.tick a).log.length =S.log.length:=by
 unfold Cl.tick
 split
 ·simp only
  split<;>rfl
 ·simp only
  split
  ·rfl
  ·rw[YI]
theorem Cl.hears_len (S:Cl)(m:Wm):(S.hears m).log.length =S.log.length:=by
 unfold Cl.hears
 split
 ·split<;>rfl
 ·split
  ·rfl
  ·rw[YI]
theorem Cl.sendAt_len (S:Cl)(i:Nat):(S.sendAt i).log.length =S.log.length:=by
 unfold Cl.sendAt
 split
 ·rfl
 ·rw[Cl.hears_len];rfl
def YD:=@Cl.sendAt_len
theorem Tt {S S':Cl}{a:Nat}(h:IK S a=some S'):S'.log.length=S.log.length:=by
 unfold IK at h
 split at h
 ·injection h with h;rw[←h,Cl.tick_len]
 ·cases h
theorem KZ:∀(k a:Nat) {S S':Cl},Ex k a S=some S'→S'.log.length=S.log.length
 |0,a,S,S',h=>by injection h with h;rw[h]
 |k+1,a,S,S',h=>by unfold Ex at h;obtain⟨d,b,c⟩:=Cc.1 h;rw[KZ k (a+1) c,Tt b]
theorem Lj {S S':Cl}(h:Vg S=some S'):OJ S 0=true∧S'=S.sendAt 0:=by
 unfold Vg at h
 split at h
 ·rename_i hb;injection h with h;exact⟨hb,h.symm⟩
 ·cases h
theorem Jf:∀(k:Nat) {S S':Cl},Ez k S=some S'→S'.log.length=S.log.length
 |0,S,S',h=>by injection h with h;rw[h]
 |k+1,S,S',h=>by
  unfold Ez at h
  split at h
  ·injection h with h;rw[h]
  ·obtain⟨d,b,c⟩:=Cc.1 h
   rw[Jf k c,(Lj b).2,YD]
theorem roundC_len {S S':Cl}(h:QX S=some S'):S'.log.length=S.log.length:=by unfold QX at h;obtain⟨d,b,c⟩:=Cc.1 h;rw[M6]at b;rw[Jf _ c,KZ _ _ b]
theorem roundsC_len:∀(k:Nat) {S S':Cl},Ee k S=some S'→S'.log.length=S.log.length
 |0,S,S',h=>by injection h with h;rw[h]
 |k+1,S,S',h=>by unfold Ee at h;obtain⟨d,b,c⟩:=Cc.1 h;rw[roundsC_len k c,roundC_len b]
theorem LN {k:Nat}{S S':Cl}(h:Ez k S=some S')(b:S.net=[]):S=S':=by
 cases k with
 |zero=>injection h
 |succ k=>unfold Ez at h;rw[b]at h;simpa using h
theorem Km {k:Nat}{S S':Cl}(h:Ez (k+1) S=some S')(e:S.net≠[]):OJ S 0=true∧Ez k (S.sendAt 0)=some S':=by
 unfold Ez at h
 split at h
 ·rename_i hh;exact absurd hh e
 ·obtain⟨f,b,c⟩:=Cc.1 h
  obtain⟨d,rfl⟩:=Lj b;exact⟨d,c⟩
def JA:List Value:=(List.replicate 6 [.int .i64 0,.int .i64 0,.int .i64 0,.bool false]).flatten
section
variable {R:List As} {w w':World} {S S':Cl} {B B' wp a i n:Nat} {low:List Nat} {mt:List Value} {nv:Value} {mem:List Nat}
theorem Sp.lwMono (h:Sp (Hi wp S low mt B::R) w)(b:B≤B'):Sp (Hi wp S low mt B'::R) w:=by obtain⟨q,c,h⟩:=h.lw;exact Y5 q c ((((h.pull 1)).clsMono b).push 1)
theorem Qr {p:Nat}(h:Sp (CN p S B::R) w):∃b,(Calls Tryz.prog 34 #[pt p] w fun e w'=>e=.returned (pt b)∧w'=w)∧Calls Tryz.prog 35 #[pt b] w fun e w'=>e=.returned (.int .i64 (S.net.length:Int))∧w'=w:=by obtain⟨v,c,h⟩:=h.cls;exact⟨v.np,cl_net h.blk,TX (h.pull 1)⟩
theorem VN (h:Sp (BF 3 1 nv mem.length (ints (mem.map Int.ofNat))::R) w)(q:nodesOk (mem.map Int.ofNat)=true)(m:∀a∈mem,1≤a∧a≤5)(k:mem.length≤5)(o:mem.Nodup):
  Calls Tryz.prog 27 #[nv] w fun e w'=>∃wp,e=.returned (pt wp)∧Sp (Hi wp (Cl.make mem) [] JA 0::R) w':=by
 have c:=h_ (cl_New h q m k o);clear h q m k o;go_enter Tryz.func27,Tryz.ntmps27;go_wp2_with fail;refine c.out.mono ?_;rintro e b ⟨p,rfl,d⟩;have f:=d.alloc Ei 9;have g:=f.alloc (R4 ⟨p,.slice none 0 0,.slice (some ⟨b.heap.size,0,none⟩) 8 8⟩ JA) 53;have r:=h_ g;clear d f g c;unfold pt;go_wp2;go_ret;refine⟨b.heap.size+1,rfl, ?_⟩;have j:=r.out;have v:(b.alloc (.cells Ei.toArray 9)).heap.size =b.heap.size+1:=by simp
 rw[v]at j;have s:=((j.pull 1).le (B:=BF 9 1 (.slice (some ⟨b.heap.size,0,none⟩) 8 8) 8 Ei) (fun F W h=>⟨h.1,Yy (spare:=[]) (by rw[AE];exact h.2) rfl (Av _) rfl (by decide) (AA _)⟩));have t:=s.nilRow 3 1;have u:Sp (GL (b.heap.size+1) ⟨p,.slice none 0 0,.slice (some ⟨b.heap.size,0,none⟩) 8 8⟩ (Cl.make mem) [] JA 0++R) _:=t.sel (l:=[_,_,_,_]) [2,3,0,1] 4 rfl rfl;exact Y5 _ rfl u
theorem MU (h:Sp (Hi wp S low mt B::R) w)(d:Ee n S=some S')(T:B+1000*n≤700000)(hn:n≤1000)(ac:S.log.length=low.length)(ab:low.length≤90000):
  Calls Tryz.prog 33 #[pt wp,.int .i64 (n:Int)] w fun e w'=>e=.returned (.tuple #[])∧Sp (Hi wp S' low mt (B+1000*n)::R) w':=by
 have M:=h_ h;have y:=h_4 d T ac ab;unfold pt;clear h d T ac ab;go_enter Tryz.func33,Tryz.ntmps33;go_wp2
 go_loopw [4] (fun s4 wr=>∃(t:Cl) (i:Nat),s4=.int .i64 (i:Int)∧i≤n∧Ee (n-i) t=some S'∧t.log.length=low.length∧Sp (Hi wp t low mt (B+1000*i)::R) wr) (fun x _=>n+1-(intOf x).toNat)
 case atStart=>exact⟨S,0,rfl,AA _,y.out.1,y.out.2.2.1,by simpa using M.out⟩
 case round=>
 obtain⟨t,i,rfl,hi,r,Y,d⟩:=hrel;by_cases aj:i<n
 ·have q0:(i:Int)<(n:Int):=by omega
  obtain⟨k,H⟩:∃k,n-i=k+1:=⟨n-i-1,by omega⟩;rw[H]at r;unfold Ee at r;obtain⟨N,F,G⟩:=Cc.1 r;unfold QX at F;obtain⟨O,z,V⟩:=Cc.1 F;have g:=NR d z;unfold BC at g;unfold pt at g;have Z:O.log.length=low.length:=by rw[M6]at z;rw[KZ _ _ z,Y]
  have u:k=n-(i+1):=by omega
  rw[u]at G;have l:=h_4 g V G Z;clear d r H F G z V g Z Y u M
  rename World=>wo
  go_wp2_with fail;refine l.out.1.mono ?_;rintro e w2 ⟨rfl,P⟩;have A:=h_ P;clear P;go_wp2
  go_loopw [5] (fun s5 wr=>∃(b:Cl) (k:Nat),s5=.int .i64 (k:Int)∧k≤500∧Ez (500-k) b=some N∧b.log.length=low.length∧Sp (Hi wp b low mt (B+1000*i+2*k)::R) wr) (fun x _=>501-(intOf x).toNat)
  case atStart=>exact⟨O,0,rfl,AA _,l.out.2.1,l.out.2.2.2,by simpa using A.out⟩
  case round=>
  obtain⟨b,k,rfl,H,j,v,d⟩:=hrel;obtain⟨q,ah,J⟩:=d.lw;have D:wr.cell? ⟨wp,0,none⟩=some (pr q.p 0):=J.blk.cell 0;obtain⟨np,ad,aa⟩:=Qr (J.pull 1);have s:=h_2 ad aa;have m:=h_ d;clear d J ad aa ah;unfold pt at s;by_cases ak:k<500
  ·have q1:(k:Int)<500:=by omega
   have al:decide ((k:Int)<500)=true:=An q1;go_wp2_with fail;refine s.out.1.mono ?_;rintro e w3 ⟨rfl,rfl⟩;go_wp2_with fail;refine s.out.2.mono ?_;rintro e w3 ⟨rfl,rfl⟩;clear s;by_cases o:b.net=[]
   ·have E:=LN j o
    subst E;have q2:(b.net.length:Int)=0:=by rw[o];rfl
    have am:¬(0:Int)<(b.net.length:Int):=by omega
    have ai:decide (0<b.net.length)=false:=Ak (by omega);have f:=h_3 (m.out.lwMono (B':=B+1000*(i+1)) (by omega)) l.out.2.2.1 v;clear m l j v o D A;go_wp2
    go_roundw
    ·exact⟨b,i+1,by simp,by omega,f.out.2.1,f.out.2.2,f.out.1⟩
    ·simp only[intOf];omega
   ·have ae:0<b.net.length:=Cs.2 o
    have q2:(0:Int)<(b.net.length:Int):=by omega
    have ai:decide (0<b.net.length)=true:=An ae;obtain⟨L,u⟩:∃L,500-k=L+1:=⟨499-k,by omega⟩;rw[u]at j;obtain⟨af,K⟩:=Km j o;have X:L=500-(k+1):=by omega
    rw[X]at K;have U:B+1000*i+2*k≤790000:=by have:=y.out.2.1;omega
    have I:(b.sendAt 0).log.length =low.length:=by rw[YD,v]
    have g:=Jz (a:=0) (i:=0) (key:=⟨#[]⟩) (c:=0) m.out (by decide) (fun p W R' hW=>XW hW af U) (by rw[I];omega) (by have:=y.out.2.2.2;omega);unfold BC at g;unfold pt at g;have C:=h_3 g K I;clear g af K I U u X j o ae m;go_wp2_with fail;refine C.out.1.mono ?_;rintro e w4 ⟨rfl,Q⟩;have H4:=h_ Q;clear Q D;go_wp2
    go_roundw
    ·exact⟨b.sendAt 0,k+1,by simp,by omega,C.out.2.1,C.out.2.2,H4.out⟩
    ·simp only[intOf];omega
  ·have ag:k=500:=by omega
   subst ag
   have E:b=N:=by rw[C8]at j;injection j
   subst E;have f:=h_3 (m.out.lwMono (B':=B+1000*(i+1)) (by omega)) l.out.2.2.1 v;clear m l j v D A s;go_wp2
   go_roundw
   ·exact⟨b,i+1,by simp,by omega,f.out.2.1,f.out.2.2,f.out.1⟩
   ·simp only[intOf];omega
 ·have he:i=n:=by omega
  subst he
  have hS:t=S':=by rw[C8]at r;injection r
  subst hS;have f:=h_ d;clear d;go_wp2
  go_end0
  exact⟨rfl,f.out⟩
end
theorem Sp.rowGrow {R:List As}{w w':World}{T:TypeId}{k n m:Nat}{v b:Value}{xs d:List Value}(h:Sp (BF T k v n xs::R) w)(e:w'.ownsRow 0 T k b m d)(l:Keep v.ownBlock.toList w w')(f:∀q,b.ownBlock=some q→v.ownBlock=some q∨w.heap.size≤q):Sp (BF T k b m d::R) w':=by
 obtain⟨F,⟨hF,_⟩,j⟩:=h.one;refine j _ _ b.ownBlock.toList ⟨rfl,e⟩ (hF▸l) (fun q g=> ?_);rcases f q (Ae.1 g)with h|h
 ·exact .inl (by rw[hF];exact Ae.2 h)
 ·exact .inr h
section
variable {R:List As} {w w':World} {S S':Cl} {B B' wp a i:Nat} {low:List Nat} {mt:List Value} {key val:Str} {c:Int}
theorem Kg (h:Sp (Hi wp S low mt B::R) w)(hk:key.size≤45)(az:∀c∈S.log,c.op=1)
  (hc:∀(p:Nat) (W:World) (R':List As),Sp (CN p S B::R') W→Calls Tryz.prog 51 #[pt p,.agg (BC 7 a i key ⟨#[]⟩ false (.slice none 0 0)).toArray] W fun e w'=>e=.returned (.int .i64 c)∧Sp (CN p S' B'::R') w') (ar:S'.log.length=low.length+1) (aw:S.log.length≤10000∧low.length≤10000):
  Calls Tryz.prog 32 #[pt wp,.agg (BC 7 a i key ⟨#[]⟩ false (.slice none 0 0)).toArray] w fun e w'=>e=.returned (.int .i64 c)∧Sp (Hi wp S' (low++[0]) mt B'::R) w':=by
 obtain⟨q,ax,h⟩:=h.lw;obtain⟨s,hs⟩:∃s,s=BC 7 a i key ⟨#[]⟩ false (.slice none 0 0):=⟨_,rfl⟩;have h1:Sp (AM w.heap.size s 39::GL wp q S low mt B++R) (w.alloc (.cells s.toArray 39)):=h.alloc s 39;have H1:=h_ h1;have f:=h_7 hk hs ax hc ar aw az;have kc:DA key 45=key:=C6 hk;have kv:DA ⟨#[]⟩ 60=⟨#[]⟩:=C6 (by decide);have an:=h_2 kc kv;rw[←hs];unfold pt;clear h h1 hk hs ax hc ar aw kc kv az;go_enter GS,Gf;go_wp2_with fail;obtain⟨b3,aj⟩:∃b,b=w.heap.size:=⟨_,rfl⟩;obtain⟨w1,al⟩:∃w1,w1=w.alloc (.cells s.toArray 39):=⟨_,rfl⟩;rw[←aj,←al]at H1;rw[←aj,←al];clear aj al;refine wK (A:=[0,1,3,0,8,31,31,127,255,511]) 0 [pr b3 3,.string key,.string key,pr b3 4,.string ⟨#[]⟩,.string ⟨#[]⟩,pr b3 3,undef,pr b3 4,undef] (fun _ W=>Sp (AM b3 s 39::GL wp q S low mt B++R) W) ?mstart (.s ?m0<|.s ?m1<|.s ?m2<|.s ?m3<|.s ?m4<|.s ?m5<|.s ?m6<|.s ?m7<|.s ?m8<|.s ?m9<|.nil) ?mfin
 case mstart=>exact H1.out.drew
 case mfin=>
  intro L M d U;have T:=d.blk;have s0:M.cell? ⟨b3,0,none⟩=some (.int .i64 7):=by rw[T.cell,f.out.2.1];rfl
  have s5:M.cell? ⟨b3,5,none⟩=some (.bool false):=by rw[T.cell,f.out.2.1];rfl
  have s6:M.cell? ⟨b3,6,none⟩=some (.slice none 0 0):=by rw[T.cell,f.out.2.1];rfl
  have V:M.cell? ⟨b3,4,none⟩=some (.string ⟨#[]⟩):=by rw[T.cell,f.out.2.1];rfl
  have P:M.frozen? ⟨b3,4,none⟩=false:=Eh T _;have G:=d.setCell 4 (.string ⟨#[]⟩);rw[show s.set 4 (.string ⟨#[]⟩)=s from by rw[f.out.2.1];rfl]at G;have ad:=h_ G;clear G;have H2:=h_ d;clear d U T H1;simp[Al,Act.put];obtain⟨bi,av,ae⟩:=Er (ad.out.pull 2);have ae:=ae _ (By _ _);have O:M.cell? ⟨wp,0,none⟩=some (pr q.p 0):=(H2.out.pull 1).blk.cell 0;have ak:¬wp=b3:=fun e=>(H2.out.pull 1).blk.ty.ne (e▸H2.out.blk.ty) (by decide) rfl
  have a7:¬b3=wp:=fun e=>ak e.symm
  have X:=h_2 av ae;unfold pt at X;clear av ae;go_wp2_with fail;clear s0 s5 s6 V P O ak a7;obtain⟨w3,a0⟩:∃w3,w3=M.setCell ⟨b3,4,none⟩ (.string ⟨#[]⟩):=⟨_,rfl⟩;rw[←a0]at ad X⊢;have H3:=h_ ad.out;clear a0 H2 ad;refine X.out.1.mono ?_;rintro e w4 ⟨rfl,rfl⟩;go_wp2_with fail;refine X.out.2.mono ?_;rintro e w5 ⟨u,rfl,Y⟩;obtain⟨ua,uc,hu⟩:=A4 Y.row;subst hu;have Q:Sp (BF 87 13 (.slice ua S.log.length uc) S.log.length (rows caC S.log)::AM b3 s 39::GL wp q S low mt B++R) w5:=(Y.push 1).push 2|>fun _=>((Y.pull 1).push 3|>.pull 1|>fun _=>(Y.sel (l:=[_,_,_,_,_,_]) [0,2,3,1,4,5] 6 rfl rfl))
  have H6:=h_ Q;obtain⟨o,H⟩:∃n,n=S.log.length:=⟨_,rfl⟩;have bh:o≤10000:=by rw[H];exact f.out.2.2.2.2.2.1.1
  rw[←H]at H6;rw[←H];have ai:=h_ H;clear Y Q X H3 H;go_wp2
  go_loopw [6,8] (fun s6 s8 wr=>∃i:Nat,s6=.int .i64 0∧s8=.int .i64 (i:Int)∧i≤o∧Sp (BF 87 13 (.slice ua o uc) o (rows caC S.log)::AM b3 s 39::GL wp q S low mt B++R) wr) (fun _ x _=>o+1-(intOf x).toNat)
  case atStart=>exact⟨0,rfl,rfl,AA _,H6.out⟩
  case round=>
  obtain⟨j,rfl,rfl,hj,hr⟩:=hrel;have HR:=h_ hr;by_cases ag:j<o
  ·obtain⟨y,hy⟩:∃y,S.log[j]?=some y:=⟨_,Ad (by rw[←ai.out];exact ag)⟩
   have q0:(j:Int)<(o:Int):=by omega
   have am:decide (j<o)=true:=An ag;have ay:=f.out.2.2.2.2.2.2 y (Aq hy);obtain⟨g,cap,ap,_,_,a8,_,_⟩:=Cq (k:=13) CX (by have:=hr.row;rw[ai.out]at this;exact this) hy
   have a6:ua=some ⟨g,0,none⟩:=by injection ap
   subst a6;have HY:=h_2 hy ay;clear hr ap a8 hy ay H6;go_wp2_with fail;clear q0 am;have a1:=h_ ag;refine wK (A:=[0,0,3,7,15,31,63,127,127,511,1023,2047,127,4223,16383,32767,65535,131071,131071,524287,1048575,2097151,4194303,8388607,16777215,16777215,67108863,134217727,268435455,536870911,1073741823,2147483647]) 0 [.slice (some ⟨g,0,none⟩) o uc,.int .i64 (j:Int),pr g (j*13),pr g (j*13+1),.int .i64 1,.bool false,.bool false,undef,undef,undef,undef,undef,undef,undef,undef,.bool false,.bool false,undef,undef,undef,undef,undef,.bool false,.bool false,undef,undef,undef,undef,undef,undef,undef,.bool false] (fun _ W=>Sp (BF 87 13 (.slice (some ⟨g,0,none⟩) o uc) o (rows caC S.log)::AM b3 s 39::GL wp q S low mt B++R) W) ?cstart (.s ?c0<|.s ?c1<|.s ?c2<|.s ?c3<|.s ?c4<|.s ?c5<|.s ?c6<|.s ?c7<|.s ?c8<|.s ?c9<|.s ?c10<|.s ?c11<|.s ?c12<|.s ?c13<|.s ?c14<|.s ?c15<|.s ?c16<|.s ?c17<|.s ?c18<|.s ?c19<|.s ?c20<|.s ?c21<|.s ?c22<|.s ?c23<|.s ?c24<|.s ?c25<|.s ?c26<|.s ?c27<|.s ?c28<|.s ?c29<|.s ?c30<|.s ?c31<|.nil) ?cfin
   case cstart=>exact HR.out.drew
   case cfin=>
    intro L N d U;have H7:=h_ d;clear d U HR;simp[Al,Act.put];go_wp2
    go_roundw
    ·exact⟨j+1,rfl,by simp,by omega,H7.out⟩
    ·simp only[intOf];omega
   all_goals
    intro L xv W d m C z E b D K' v;clear m C z;have r:=h_ d
    have r1:W.cell? ⟨g,j*13+1,none⟩=some (.int .i64 1):=by
     obtain⟨g',be,a5,_,_,a9,_,_⟩:=Cq (k:=13) CX (by have:=d.row;rw[ai.out]at this;exact this) HY.out.1;have e:g'=g:=by injection a5 with J e2 e3;injection J with J;injection J with J;exact J.symm
     subst e;have:=a9 1 (.int .i64 (y.op:Int)) rfl;rw[HY.out.2]at this;exact this
    have q0:(j:Int)<(o:Int):=by have:=a1.out;omega
    clear d;simp at E;simp only[Al,Act.put,A8,A7,A6,E]at D;subst D;go_simp;exact v _ _ rfl r.out
  ·have he:j=o:=by omega
   subst he;have q0:¬(j:Int)<(j:Int):=by omega
   have am:decide (j<j)=false:=Ak (by omega);clear hr H6;go_wp2_with fail;have H3:=h_ HR.out.drop;clear HR q0 am hj ag;refine wK (A:=[0,1,3,7,0,31,63]) 32 [pr wp 0,pr wp 0,pr wp 0,pr q.p 0,.agg s.toArray,.int .i64 c,.int .i64 c] (fun L W=>Sp (AM b3 s 39::(if L 5=true then GL wp q S' low mt B' else GL wp q S low mt B)++R) W) ?bstart (.s ?b0<|.s ?b1<|.s ?b2<|.s ?b3<|.s ?b4<|.t ?b5<|.s ?b6<|.nil) ?bfin
   case bstart=>exact H3.out.drew
   case bfin=>
    intro L w4 d U;rw[U 5 (by decide) (by decide)]at d;have F:Sp (AM b3 s 39::GL wp q S' low mt B'++R) w4:=d;obtain⟨lp,au,ao⟩:=Er (F.pull 2);have O:w4.cell? ⟨wp,0,none⟩=some (pr q.p 0):=(F.pull 1).blk.cell 0;have ac:=h_2 au (ao w4 (By _ _));unfold pt at ac;clear d U F au ao H3;simp[Al,Act.put];go_wp2_with fail;refine ac.out.1.mono ?_;rintro e w5 ⟨rfl,rfl⟩;go_wp2_with fail;refine ac.out.2.mono ?_;rintro e N ⟨u,rfl,Q⟩;obtain⟨ua,uc,hu⟩:=A4 Q.row;have Z:=Q.drop;have O:N.cell? ⟨wp,0,none⟩=some (pr q.p 0):=(Z.pull 2).blk.cell 0;have d1:N.cell? ⟨wp,1,none⟩=some q.lv:=(Z.pull 2).blk.cell 1;obtain⟨la,lc,ab⟩:=A4 (Z.pull 3).row;rw[ab]at d1;have H7:=h_2 Z ab;obtain⟨o,H⟩:∃n,n=S'.log.length:=⟨_,rfl⟩;obtain⟨K,aa⟩:∃n,n=low.length:=⟨_,rfl⟩;have bf:(o:Int)=(K:Int)+1:=by have:=f.out.2.2.2.2.1;omega
    have a4:o=K+1:=by omega
    have bg:K≤10000:=by rw[aa];exact f.out.2.2.2.2.2.1.2
    subst hu;rw[←aa]at d1;rw[←H];have aq:Keep [] N (N.alloc (.cells #[.int .i64 0] 3)):=(By _ _).alloc _;have m:=H7.out.1.still aq;have ah:=(m.pull 3).row;rw[ab]at ah;rw[←aa]at ah;have ak:¬wp=N.heap.size:=by have:=(H7.out.1.pull 2).blk.lt;omega
    have I:=h_4 m ah aa ab;obtain⟨i0,hi,bb,bc,bd⟩:=AU Tryz.infoI;clear Q Z ac ab H m ah aq aa;subst a4
    go_wp2_with (at_builtin;go_loud (refine Bl _ rfl _ _ 22 22 rfl 0 3 i0 (.int .i64 0) 1 8 Dl hi bb bc bd rfl (by decide) _ K _ rfl I.out.2.1 _ 1 _ rfl (Lc Dl N (.int .i64 0) rfl 3 _ rfl) (by unfold maxLen;omega) (by omega) (AA _) ?_;intro v1 w8 h2 h3 _ F;obtain⟨va,vc,ba⟩:=A4 h2;have h9:=(I.out.1.pull 3).rowGrow h2 (by rw[I.out.2.2.2,←I.out.2.2.1];exact DJ h3) (fun q hq=>by rw[I.out.2.2.2,←I.out.2.2.1];exact F q hq);have c1:=(h9.pull 3).blk.cell 1;have f1:=Eh (h9.pull 3).blk 1;have H9:=h_ h9;subst ba;clear h2 h3 F h9))
    go_ret;have a2:=((H9.out.pull 3).setCell 1 (.slice va (K+1) vc)).sel (l:=[_,_,_,_,_]) [3,0,2,1,4] 5 rfl rfl;have a3:=a2.drop;refine⟨rfl,Y5 (LwP.mk q.p (.slice va (K+1) vc) q.kv) f.out.2.2.1 ?_⟩;have J:(low++[0]).length =K+1:=by rw[Aj,List.length_singleton,I.out.2.2.1]
    have e2:ints ((low++[0]).map Int.ofNat)=ints (low.map Int.ofNat)++[.int .i64 0]:=by rw[AL,PF];rfl
    unfold GL;rw[J,e2];exact a3
   case b5=>
    intro L xv W d hl m C z E b D K' v;clear m C z;have r:=h_ d
    have O:W.cell? ⟨wp,0,none⟩=some (pr q.p 0):=by
     cases hL:L 5 with
     |false=>rw[hL]at d;exact(d.pull 1).blk.cell 0
     |true=>rw[hL]at d;exact(d.pull 1).blk.cell 0
    clear d;simp at E;simp only[Al,Act.put,A8,A7,A6,E]at D;subst D;go_simp;clear O;have h0:=r.out;rw[hl]at h0;have af:=f.out.2.2.2.1 q.p W _ ((h0.pull 2));rw[←f.out.2.1]at af;unfold pt at af;refine af.mono ?_;rintro e w4 ⟨rfl,F⟩;have H4:=h_ (F.push 2);clear h0 F af;go_simp;exact v _ _ rfl H4.out
   all_goals
    intro L xv W d m C z E b D K' v;have r:=h_ d
    have O:W.cell? ⟨wp,0,none⟩=some (pr q.p 0):=by
     cases hL:L 5 with
     |false=>rw[hL]at d;exact(d.pull 1).blk.cell 0
     |true=>rw[hL]at d;exact(d.pull 1).blk.cell 0
    clear d;simp at E;simp only[Al,Act.put,A8,A7,A6,E]at D;subst D
   case b4=>clear m C z;refine Cb 39 _ rfl b3 (by rfl) 39 s.toArray (0,0) _ r.out.blk Dk rfl (by rw[f.out.2.1];exact Y0) (by rfl) ?_;exact v _ _ rfl r.out
   all_goals clear m C z;go_simp;exact v _ _ rfl r.out
 all_goals
  intro L xv W d m C z E b D K' v;have r:=h_ d;have s3:W.cell? ⟨b3,3,none⟩=some (.string key):=by rw[d.blk.cell,f.out.2.1];rfl
  have V:W.cell? ⟨b3,4,none⟩=some (.string ⟨#[]⟩):=by rw[d.blk.cell,f.out.2.1];rfl
  have f3:W.frozen? ⟨b3,3,none⟩=false:=Eh d.blk _;have P:W.frozen? ⟨b3,4,none⟩=false:=Eh d.blk _;clear d;simp at E;simp only[Al,Act.put,A8,A7,A6,E]at D;subst D
 case m2=>clear m C z;go_simp;clear s3 V f3 P;refine(DP key 45 (by have:=f.out.1;omega) (by omega)).mono ?_;rintro e w3 ⟨rfl,rfl⟩;rw[an.out.1];go_simp;exact v _ _ rfl r.out
 case m5=>clear m C z;go_simp;clear s3 V f3 P;refine(DP ⟨#[]⟩ 60 (by decide) (by omega)).mono ?_;rintro e w3 ⟨rfl,rfl⟩;rw[an.out.2];go_simp;exact v _ _ rfl r.out
 case m7=>clear m C z;go_simp;clear s3 V f3 P;have G:=r.out.setCell 3 (.string key);rw[show s.set 3 (.string key)=s from by rw[f.out.2.1];rfl]at G;exact v _ _ rfl G
 case m9=>clear m C z;go_simp;clear s3 V f3 P;have G:=r.out.setCell 4 (.string ⟨#[]⟩);rw[show s.set 4 (.string ⟨#[]⟩)=s from by rw[f.out.2.1];rfl]at G;exact v _ _ rfl G
 all_goals clear m C z;go_simp;exact v _ _ rfl r.out
end
def riseL (p:Nat)(v:ClV)(S:Cl)(B:Nat)(R:List As):List As:=AM p (BW v S.made) 104::CI v.np S.net::FI v.op S.onow S.org::F9 v.lp S.log::CW v S B::R
def riseS (p:Nat)(v:ClV)(S:Cl)(B:Nat)(R:List As)(U:Nat→Bool)(X:Nat→Value)(W:World):Prop:=
 Blk W p (BW v S.made) 104∧
 (U 8=false→Sp (cdA v.cdv S.cd::AF v.ccv S.cc::riseL p v S B R) W)∧
 (U 8=true→∃a,X 8=.tuple #[pr a 0,.int .i64 0]∧Sp (Ni ⟨a,v.ccv,v.cdv⟩ (Au.risen S.cd S.cc) B::AF v.ccv S.cc::riseL p v S B R) W)
section
variable {R:List As} {w w':World} {v:ClV} {S:Cl} {B p:Nat}
theorem cl_rise_au (h:Sp (Bo p v S B++R) w)(o:S.c=none)(V:nodesOk (S.cd.2.2.map Int.ofNat)=true)(T:1≤S.cd.1∧S.cd.1≤S.cd.2.1∧S.cd.2.1≤1000000)(b:5≤B):
  Calls Tryz.prog 75 #[pt p,.int .i64 0] w fun e w'=>e=.returned (.int .i64 0)∧∃v':ClV,Sp (Bo p v' S.rise0 B++R) w':=by
 have F:=h.auDown o;have G:Sp (C0 v.cp v.cdv v.ccv S.c S.cc B S.cd::AM p (BW v S.made) 104::CI v.np S.net::FI v.op S.onow S.org::F9 v.lp S.log::CW v S B::R) w:=h.pull 4;rw[F,o]at G;have O:Sp (cdA v.cdv S.cd::AF v.ccv S.cc::riseL p v S B R) w:=Sp.open_ (l:=[cdA v.cdv S.cd,AF v.ccv S.cc]) G;have I:=h.blk;have M:w.cell? ⟨p,0,none⟩=some (.pointer none):=by rw[I.cell];show some (Cu v.cp)=_;rw[F];rfl
 obtain⟨J,L⟩:=i_2 O I;have D:=h_3 V T b;unfold pt;clear h G O I o V T b F;go_enter Tryz.func75,Tryz.ntmps75;go_wp2_with fail;clear M;refine wM (A:=[0,1,3,7,0,16,48,112,255,511,1023,1023,2047,8191]) 256 [fun _=>pr p 0,fun _=>pr p 0,fun _=>pr p 1,fun _=>pr v.cdv 0,fun _=>pr p 0,fun _=>pr p 0,fun _=>pr p 2,fun _=>pr v.ccv 0,fun _=>undef,fun y=>y 8,fun y=>En (y 8) 0,fun y=>En (y 8) 1,fun y=>En (y 8) 0,fun y=>En (y 8) 1] (riseS p v S B R) ?start (.s ?m0<|.s ?m1<|.s ?m2<|.s ?m3<|.s ?m4<|.s ?m5<|.s ?m6<|.s ?m7<|.t ?m8<|.s ?m9<|.s ?m10<|.s ?m11<|.s ?m12<|.s ?m13<|.nil) ?fin
 case start=>intro X;exact⟨L.out.drew,fun _=>J.out.drew,(fun h=>by cases h)⟩
 case m8=>intro U X z W a hl g f d q n B b E m;have j:=h_ a;have c1:W.cell? ⟨p,1,none⟩=some (pr v.cdv 0):=a.1.cell 1;have c2:W.cell? ⟨p,2,none⟩=some (pr v.ccv 0):=a.1.cell 2;clear a;simp[mV,mY,Ab]at d;simp only[Al,Act.put,A8,A7,A6,d]at b;subst b;clear g f q n c1 c2;have N:=j.out.2.1 hl;have o:=ct_open N D.out.1 D.out.2.1 D.out.2.2;unfold pt at o;go_simp;refine o.mono ?_;rintro e w3 ⟨cp,rfl,P⟩;have K:=h_ P;clear N P o;go_simp;exact m _ _ _ rfl ⟨(K.out.pull 2).blk,fun h=>by simp[upd]at h,fun _=>⟨cp,Bh _ _ _,K.out⟩⟩
 case fin=>intro U X Y a Q;obtain⟨cp,i,u⟩:=a.2.2 (Q 8 (by decide) (by decide));have C:Sp (AM p (BW v S.made) 104::Ni ⟨cp,v.ccv,v.cdv⟩ (Au.risen S.cd S.cc) B::AF v.ccv S.cc::CI v.np S.net::FI v.op S.onow S.org::F9 v.lp S.log::CW v S B::R) Y:=u.pull 2;have M:Y.cell? ⟨p,0,none⟩=some (Cu v.cp):=C.blk.cell 0;have f0:=Eh C.blk 0;have H:=C.setCell 0 (pt cp);unfold pt at H;have Z:=h_ H;clear a Q u C H J L;simp[Al,Act.put,FK,Ab,i,En];clear i;go_wp2;go_ret;refine⟨rfl,{v with cp:=some cp}, ?_⟩;have h6:Sp (AM p (BW {v with cp:=some cp} S.made) 104::Ni ⟨cp,v.ccv,v.cdv⟩ (Au.risen S.cd S.cc) B::AF v.ccv S.cc::CI v.np S.net::FI v.op S.onow S.org::F9 v.lp S.log::CW v S B::R) _:=Z.out;exact(DV [_,_] (h6.sel (l:=[_,_,_,_,_,_,_]) [1,2,0,3,4,5,6] 7 rfl rfl)).push 4
 case m10=>intro U X z W a g f d q n B b E m;have x:=a;have r:U 8=true:=f 8 (by decide);have k:=g 8 r;obtain⟨cp,i,u⟩:=a.2.2 r;rw[i]at k;clear i u r;have a:=x;clear x;clear g f q n;have j:=h_ a;have c1:W.cell? ⟨p,1,none⟩=some (pr v.cdv 0):=a.1.cell 1;have c2:W.cell? ⟨p,2,none⟩=some (pr v.ccv 0):=a.1.cell 2;clear a;simp[mV,mY,Ab]at d;simp only[Al,Act.put,A8,A7,A6,d]at b;subst b;have E8:=h_ k.symm;clear k;go_simp;rw[E8.out];go_simp;exact m (pr cp 0) _ _ (show pr cp 0=En (z 8) 0 by rw[E8.out];rfl) (by rw[E8.out];first|done|rfl) j.out
 case m11=>intro U X z W a g f d q n B b E m;have x:=a;have r:U 8=true:=f 8 (by decide);have k:=g 8 r;obtain⟨cp,i,u⟩:=a.2.2 r;rw[i]at k;clear i u r;have a:=x;clear x;clear g f q n;have j:=h_ a;have c1:W.cell? ⟨p,1,none⟩=some (pr v.cdv 0):=a.1.cell 1;have c2:W.cell? ⟨p,2,none⟩=some (pr v.ccv 0):=a.1.cell 2;clear a;simp[mV,mY,Ab]at d;simp only[Al,Act.put,A8,A7,A6,d]at b;subst b;have E8:=h_ k.symm;clear k;go_simp;rw[E8.out];go_simp;exact m (.int .i64 0) _ _ (show .int .i64 0=En (z 8) 1 by rw[E8.out];rfl) (by rw[E8.out];first|done|rfl) j.out
 all_goals intro U X z W a g f d q n B b E m;clear g f q n;have j:=h_ a;have c1:W.cell? ⟨p,1,none⟩=some (pr v.cdv 0):=a.1.cell 1;have c2:W.cell? ⟨p,2,none⟩=some (pr v.ccv 0):=a.1.cell 2;clear a;simp[mV,mY,Ab]at d;simp only[Al,Act.put,A8,A7,A6,d]at b;subst b;go_simp;exact m _ _ _ rfl rfl j.out
end
def riseAuB (S:Cl):Bool:=S.c.isNone&&(nodesOk (S.cd.2.2.map Int.ofNat)&&decide (1≤S.cd.1∧S.cd.1≤S.cd.2.1∧S.cd.2.1≤1000000))
section
variable {R:List As} {w w':World} {S:Cl} {B p i:Nat} {key val:Str} {on:Bool} {kv:Value}
theorem riseAuA (h:Sp (CN p S B::R) w)(a:riseAuB S=true)(d:5≤B):Calls Tryz.prog 51 #[pt p,.agg (BC 10 0 i key val on kv).toArray] w fun e w'=>e=.returned (.int .i64 0)∧Sp (CN p S.rise0 B::R) w':=by obtain⟨v,g,h⟩:=h.cls;unfold riseAuB at a;simp only[Ar,A0,Option.isNone_iff_eq_none]at a;obtain⟨j,k,l⟩:=a;refine(Oi (Q:=[CN p S.rise0 B]) (c:=0) h (fun W n f=> ?_));refine(cl_rise_au f j k l d).mono ?_;rintro e w' ⟨rfl,m,b⟩;exact⟨rfl,Yu m g b⟩
end
def noReads (S:Cl):Bool:=[1,2,3,4,5].all (fun a=>decide (S.nReads a=0))
theorem noReads_at {S:Cl}(h:noReads S=true){a:Nat}(b:1≤a∧a≤5):S.nReads a=0:=by unfold noReads at h;simp only[Cr,A0]at h;exact h a (by rcases(by omega:a=1∨a=2∨a=3∨a=4∨a=5)with rfl|rfl|rfl|rfl|rfl<;>simp)
def roundD (S:Cl):Option Cl:=(Nu S).bind fun b=>(Ez 200 b).bind fun a=>if(a.net.isEmpty&&noReads a)=true then some a else none
theorem roundD_at {S S':Cl}(h:roundD S=some S'):∃a,Nu S=some a∧Ez 200 a=some S'∧S'.net=[]∧noReads S'=true:=by
 unfold roundD at h;rcases h1:Nu S with _|a
 ·rw[h1]at h;cases h
 ·rw[h1]at h
  simp only[Option.bind_some]at h;rcases h2:Ez 200 a with _|c
  ·rw[h2]at h;cases h
  ·rw[h2]at h
   simp only[Option.bind_some]at h;by_cases b:(c.net.isEmpty&&noReads c)=true
   ·rw[Ay b]at h
    injection h with h;subst h;simp only[Ar,Ea]at b;exact⟨a,rfl,h2,b.1,b.2⟩
   ·rw[Aw b]at h;cases h
def upB (S:Cl):Bool:=match S.c with
 |none=>false
 |some c=>c.mem.all (fun a=>decide (1≤a∧a≤5)&&(S.nodes a).isSome)&&decide ((0<c.mem.length∧c.mem.length≤5)∧S.log.length≤10000)
def restN:Nat→Cl→Option Cl
 |0,_=>none
 |k+1,S=>match roundD S with
  |none=>none
  |some S1=>if upB S1=false then none else if S1.rests=true then(if k=0 then some S1 else none)else restN k S1
theorem restN_at {k:Nat}{S S':Cl}(h:restN (k+1) S=some S'):∃a,roundD S=some a∧upB a=true∧(a.rests=true∧k=0∧a=S'∨a.rests=false∧restN k a=some S'):=by
 unfold restN at h;rcases h1:roundD S with _|a
 ·rw[h1]at h;cases h
 ·rw[h1]at h
  simp only at h
  cases c:upB a with
  |false=>rw[c,Ay rfl]at h;cases h
  |true=>
   rw[c,Aw (by decide)]at h;refine⟨a,rfl,c, ?_⟩
   cases d:a.rests with
   |true=>
    rw[d,Ay rfl]at h;by_cases b:k=0
    ·rw[Ay b]at h
     injection h with h;exact .inl ⟨rfl,b,h⟩
    ·rw[Aw b]at h;cases h
   |false=>rw[d,Aw (by decide)]at h;exact .inr ⟨rfl,h⟩
theorem upB_at {S:Cl}(h:upB S=true):∃c,S.c=some c∧(0<c.mem.length∧c.mem.length≤5)∧S.log.length≤10000∧∀a∈c.mem,(1≤a∧a≤5)∧∃n,S.nodes a=some n:=by
 unfold upB at h;rcases hc:S.c with _|c
 ·rw[hc]at h;cases h
 ·rw[hc]at h
  simp only[Ar,A0,Cr]at h;refine⟨c,rfl,h.2.1,h.2.2,fun a b=> ?_⟩;have:=h.1 a b;exact⟨this.1,Option.isSome_iff_exists.1 this.2⟩
def restAt (S:Cl)(a:Nat):Bool:=match S.nodes a with|none=>false|some n=> !n.dk.frozen&&n.good (S.clk a)
theorem rests_eq {S:Cl}{c:Au}(a:S.c=some c):S.rests=(c.mem.all (restAt S)&&decide (c.num=0)&&decide (S.openCalls=0)):=by unfold Cl.rests;rw[a];rfl
theorem all_take {α:Type}(f:α→Bool):∀(l:List α) (i:Nat) (a:α),l[i]?=some a→(l.take (i+1)).all f=((l.take i).all f&&f a)
 |[],i,a,h=>by simp at h
 |b::l,0,a,h=>by simp at h;subst h;simp
 |b::l,i+1,a,h=>by have:=all_take f l i a (by simpa using h);simp only[List.take_succ_cons,List.all_cons]at this⊢;rw[this,Bool.and_assoc]
def SX (S:Cl):Bool:=match S.c with
 |some c=>decide (S.cd=(c.epoch,c.top,c.mem))
 |none=>false
end Go.Proofs.YtnhbioehiiifdaaGreat
