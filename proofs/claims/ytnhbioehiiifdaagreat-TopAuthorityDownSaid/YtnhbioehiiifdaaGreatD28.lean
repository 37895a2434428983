import Derived.Test.YtnhbioehiiifdaaGreatD24
import Derived.Test.YtnhbioehiiifdaaGreatD25
set_option maxRecDepth 100000
set_option maxHeartbeats 16000000
set_option linter.all false
namespace Go.Proofs.YtnhbioehiiifdaaGreat
open Go.ChangeShapes Go.WideShapes Go.ChangeAt Go.RowKit
def opens (L:List Call):Nat:=(L.filter (fun c=> !c.done)).length
theorem opens_le (L:List Call):opens L≤L.length:=D6 _ _
theorem opens_succ (L:List Call)(i:Nat)(y:Call)(h:L[i]?=some y):opens (L.take (i+1))=opens (L.take i)+(if y.done=true then 0 else 1):=by
 have b:=(Ai.1 h).1;have e:L[i]=y:=(Ai.1 h).2;unfold opens;rw[Bw b,List.filter_append,Aj,e]
 cases a:y.done<;>simp[a]
section
variable {R:List As} {w:World} {p:Nat} {C:List Call}
theorem clOpen_sp (h:Sp (F9 p C::R) w)(H:C.length≤10000):Calls Tryz.prog 81 #[pt p] w fun e X=>e=.returned (.int .i64 (opens C:Int))∧Sp (F9 p C::R) X:=by
 have B:=h_ (Qv h);have O:=h_ H;unfold pt;clear h H;go_enter Tryz.func81,Tryz.ntmps81;go_wp2_with fail;refine B.out.mono ?_;rintro e w2 ⟨u,rfl,s⟩;obtain⟨M,N,T⟩:=A4 s.row;subst T;have f:=h_ s;obtain⟨n,t⟩:∃n,n=C.length:=⟨_,rfl⟩;rw[←t]at f⊢;have q:=h_ t;have aa:n≤10000:=by have:=O.out;omega
 clear s B t;go_wp2
 go_loopw [9,3] (fun W V wr=>∃i:Nat,W=.int .i64 (i:Int)∧i≤n∧V=.int .i64 (opens (C.take i):Int)∧Sp (BF 87 13 (.slice M n N) n (rows caC C)::F9 p C::R) wr) (fun x _ _=>n+1-(intOf x).toNat)
 case atStart=>exact⟨0,rfl,AA _,rfl,f.out⟩
 case round=>
 obtain⟨i,rfl,Z,rfl,m⟩:=hrel;have D:=h_ m;have S:opens (C.take i)≤i:=AJ (opens_le _) (by rw[Az];omega);by_cases I:i<n
 ·have U:(i:Int)<(n:Int):=by omega
  have ab:decide (i<n)=true:=An I;obtain⟨y,z⟩:∃y,C[i]?=some y:=⟨_,Ad (by rw[←q.out];exact I)⟩;obtain⟨g,cap,G,_,_,K,_,_⟩:=Cq (k:=13) CX (by have:=m.row;rw[q.out]at this;exact this) z;have Q:M=some ⟨g,0,none⟩:=by injection G
  subst Q;have v:=opens_succ C i y z;obtain⟨o,J⟩:∃o,o=opens (C.take i):=⟨_,rfl⟩;rw[←J]at v S⊢;obtain⟨F,E⟩:=i_2 v K;have L:Sp (AM wr.heap.size M3 87::BF 87 13 (.slice (some ⟨g,0,none⟩) n N) n (rows caC C)::F9 p C::R) (wr.alloc (.cells M3.toArray 87)):=D.out.alloc M3 87;have j:=h_ L;clear m G K z L v J f
  cases l:y.done with
  |true=>
   have b:=h_ l;clear l
   go_wp2_with (first|(refine Bc rfl 87 _ rfl g (i*13) rfl (caC y) _ E.out Tryz.underlying87 rfl (by rfl) ?_)|(refine AS rfl _ _ _ rfl wr.heap.size M3 (caC y) 87 rfl rfl j.out.blk rfl Y7 (J7 y) ?_;intro A a d;have c:=j.out.set a d;have Y:A.cell? ⟨wr.heap.size,6,none⟩=some (.bool true):=(by rw[a.cell];show some (Value.bool y.done)=_;rw[b.out]);have r:=h_ c;clear c a d))
   go_roundw
   case rel=>exact⟨i+1,by go_num,by omega,by rw[F.out,b.out,Ay rfl,Nat.add_zero],r.out.drop⟩
   case measure=>simp only[intOf];omega
  |false=>
   have b:=h_ l;clear l
   go_wp2_with (first|(refine Bc rfl 87 _ rfl g (i*13) rfl (caC y) _ E.out Tryz.underlying87 rfl (by rfl) ?_)|(refine AS rfl _ _ _ rfl wr.heap.size M3 (caC y) 87 rfl rfl j.out.blk rfl Y7 (J7 y) ?_;intro A a d;have c:=j.out.set a d;have Y:A.cell? ⟨wr.heap.size,6,none⟩=some (.bool false):=(by rw[a.cell];show some (Value.bool y.done)=_;rw[b.out]);have r:=h_ c;clear c a d))
   go_roundw
   case rel=>exact⟨i+1,by go_num,by omega,by rw[F.out,b.out,Aw (by decide)];go_num,r.out.drop⟩
   case measure=>simp only[intOf];omega
 ·obtain rfl:i=n:=by omega
  have U:¬(i:Int)<(i:Int):=by omega
  have P:opens (C.take i)=opens C:=by rw[q.out,Bt]
  rw[P];clear m f;go_wp2;go_ret;exact⟨rfl,D.out.drop⟩
end
section
variable {R:List As} {w w':World} {x:CtP} {a:Au} {S:Cl} {B p:Nat}
theorem ct_members (h:Sp (Ni x a B::R) w)(i:0<a.mem.length):Calls Tryz.prog 79 #[pr x.c 0] w fun e w'=>∃u,e=.returned u∧Sp (BF 3 1 u a.mem.length (ints (a.mem.map Int.ofNat))::Ni x a B::R) w':=by
 obtain⟨F,⟨s,g,sb,r,v,t,o,base,n,f,hF,b⟩,m⟩:=h.one;refine(QB b.ct b.rows (by show 0<(a.mem.map Int.ofNat).length;rw[AD];exact i)).mono ?_;rintro e w' ⟨u,rfl,d,k⟩;refine⟨u,rfl,h.new1 (G:=u.ownBlock.toList) k ⟨rfl, ?_⟩ (fun q l=>(d.lt q (Ae.1 l)).1)⟩;have j:(ints (a.mem.map Int.ofNat)).length =a.mem.length:=by simp[ints]
 rw[←j];exact Hd d (AA _)
theorem down_at (h:S.down=false):(∃c,S.c=some c)∧∀a,1≤a→a≤5→S.made a=true→∃n,S.nodes a=some n:=by
 unfold Cl.down at h;rw[Bool.or_eq_false_iff,List.any_eq_false]at h;obtain⟨e,b⟩:=h;constructor
 ·cases f:S.c with
  |none=>rw[f]at b;cases b
  |some c=>exact⟨c,rfl⟩
 ·intro a j k g
  have d:=e a (by rcases(by omega:a=1∨a=2∨a=3∨a=4∨a=5)with rfl|rfl|rfl|rfl|rfl<;>simp)
  cases i:S.nodes a with
  |none=>rw[g,i]at d;exact absurd rfl d
  |some n=>exact⟨n,rfl⟩
theorem cl_down (h:Sp (CN p S B::R) w)(r:S.down=false):Calls Tryz.prog 58 #[pt p] w fun e w'=>e=.returned (.bool false)∧w'=w:=by
 obtain⟨v,y,h⟩:=h.cls;obtain⟨⟨c,q⟩,s⟩:=down_at r;obtain⟨t,l,_⟩:=h.auOut q;have f:=h.blk
 have g:∀a,1≤a→a≤5→S.made a=true→∃b,v.nd a=some b:=fun a m o d=>by obtain⟨n,z⟩:=s a m o d;obtain⟨x,u,_⟩:=h.ndOut ⟨m,o⟩ z;exact⟨_,u⟩
 have D:w.cell? ⟨p,0,none⟩=some (pr t 0):=by rw[f.cell];show some (Cu v.cp)=_;rw[l];rfl
 have i:=h_2 g f;unfold pt;clear h f g s q r y l;go_enter Tryz.func58,Tryz.ntmps58;go_wp2
 go_loopw [3] (fun C wr=>∃a:Nat,C=.int .i64 (a:Int)∧1≤a∧a≤6∧w=wr) (fun x _=>7-(intOf x).toNat)
 case atStart=>exact⟨1,rfl,Av _,by omega,rfl⟩
 case round=>
 obtain⟨a,rfl,j,E,rfl⟩:=hrel;by_cases k:a≤5
 ·have A:(a:Int)≤5:=by omega
  have F:(a:Int)<6:=by omega
  have G:a<6:=by omega
  have c21:w.cell? ⟨p,21+a,none⟩=some (.bool (S.made a)):=by rw[i.out.2.cell];exact Qt v _ ⟨j,k⟩
  have c3:w.cell? ⟨p,3+a,none⟩=some (Cu (v.nd a)):=by rw[i.out.2.cell];exact Gd v _ ⟨j,k⟩
  have g:=i.out.1 a j k
  cases d:S.made a with
  |false=>
   rw[d]at c21;clear d g;go_wp2
   go_roundw
   case rel=>exact⟨a+1,by go_num,by omega,by omega,by first|rfl|trivial⟩
   case measure=>simp only[intOf];omega
  |true=>
   obtain⟨b,f⟩:=g d;rw[d]at c21;rw[f]at c3;unfold Cu at c3;clear d g f;go_wp2
   go_roundw
   case rel=>exact⟨a+1,by go_num,by omega,by omega,by first|rfl|trivial⟩
   case measure=>simp only[intOf];omega
 ·obtain rfl:a=6:=by omega
  have A:¬(6:Int)≤5:=by omega
  go_wp2;go_ret;exact⟨rfl,rfl⟩
theorem cl_rests (h:Sp (CN p S B::R) w)(hu:upB S=true):Calls Tryz.prog 60 #[pt p] w fun e w'=>e=.returned (.bool S.rests)∧Sp (CN p S B::R) w':=by
 obtain⟨c,V,ae,av,ax⟩:=upB_at hu;obtain⟨v,aw,h⟩:=h.cls;obtain⟨E,O,t,_⟩:=h.auOut V;have ao:C0 v.cp v.cdv v.ccv S.c S.cc B S.cd=ED [Ni ⟨E,v.ccv,v.cdv⟩ c B,AF v.ccv S.cc]:=by rw[O,V];rfl
 have c0:w.cell? ⟨p,0,none⟩=some (pr E 0):=by rw[h.blk.cell];show some (Cu v.cp)=_;rw[O];rfl
 have HM:=h_ (ct_members t ae.1);obtain⟨n,hn⟩:∃n,n=c.mem.length:=⟨_,rfl⟩;rw[←hn]at HM;rw[rests_eq V];have d:=h_7 hn ae.2 av ax ao O aw;unfold pt;clear h t hu V ae av ax ao O aw hn;go_enter Tryz.func60,Tryz.ntmps60;go_wp2_with fail;refine HM.out.mono ?_;rintro e w2 ⟨u,rfl,h3⟩;obtain⟨q,r,a5⟩:=A4 h3.row;subst a5;have h4:Sp (Ni ⟨E,v.ccv,v.cdv⟩ c B::AF v.ccv S.cc::AM p (BW v S.made) 104::CI v.np S.net::FI v.op S.onow S.org::F9 v.lp S.log::CW v S B::BF 3 1 (.slice q n r) n (ints (c.mem.map Int.ofNat))::R) w2:=h3.push 7;have y:Sp (C0 v.cp v.cdv v.ccv S.c S.cc B S.cd::AM p (BW v S.made) 104::CI v.np S.net::FI v.op S.onow S.org::F9 v.lp S.log::CW v S B::BF 3 1 (.slice q n r) n (ints (c.mem.map Int.ofNat))::R) w2:=by rw[d.out.2.2.2.2.1];exact DV [_,_] h4
 have F:Sp (Bo p v S B++BF 3 1 (.slice q n r) n (ints (c.mem.map Int.ofNat))::R) w2:=y.push 4;have H6:=h_ F;have a8:n≤5:=by have:=d.out.1;have:=d.out.2.1;omega
 clear h3 h4 y F HM c0;go_wp2
 go_loopw [12,4,5] (fun a7 s4 s5 wr=>∃i:Nat,a7=.int .i64 (i:Int)∧i≤n∧(c.mem.take i).all (restAt S)=true∧Sp (Bo p v S B++BF 3 1 (.slice q n r) n (ints (c.mem.map Int.ofNat))::R) wr) (fun x _ _ _=>n+1-(intOf x).toNat)
 case atStart=>exact⟨0,rfl,AA _,rfl,H6.out⟩
 case round=>
 obtain⟨i,rfl,hi,I,f⟩:=hrel;clear H6;by_cases z:i<n
 ·have q0:(i:Int)<(n:Int):=by omega
  have a6:decide (i<n)=true:=An z;obtain⟨a,G⟩:∃a,c.mem[i]?=some a:=⟨_,Ad (by rw[←d.out.1];exact z)⟩;obtain⟨⟨al,am⟩,nd,af⟩:=d.out.2.2.2.1 a (Aq G);obtain⟨g,gc,sp,au,_,_,a3,_⟩:=E4 (f.pull 6).row (Nat.lt_of_le_of_lt (AA _) z);have a4:q=some ⟨g,0,none⟩:=by injection au
  subst a4
  have r0:wr.cell? ⟨g,i,none⟩=some (.int .i64 (a:Int)):=by rw[Cg (f.pull 6).row i (by rw[FC];exact z)];simp[ints,G]
  have h1:Sp (CW v S B::AM p (BW v S.made) 104::CI v.np S.net::FI v.op S.onow S.org::F9 v.lp S.log::C0 v.cp v.cdv v.ccv S.c S.cc B S.cd::BF 3 1 (.slice (some ⟨g,0,none⟩) n r) n (ints (c.mem.map Int.ofNat))::R) wr:=f.pull 5;obtain⟨x,x1,x2,x3,x4,t⟩:=(h1.slotOut ⟨al,am⟩).slotUp af;obtain⟨nv,C⟩:=t.ndR;have ap:=(t.pull 1).clock;have c3:wr.cell? ⟨p,3+a,none⟩=some (pr x.nb 0):=by rw[f.blk.cell,Gd v _ ⟨al,am⟩,x1];rfl
  have q1:(a:Int)<6:=by omega
  have q2:a<6:=by omega
  have Z:=all_take (restAt S) c.mem i a G;have ag:restAt S a=nd.good (S.clk a):=by unfold restAt;rw[af];simp[C.quiet.frozen]
  rw[I,Dx,ag]at Z;have ay:a∈c.mem:=Aq G
  have ad:nd.good (S.clk a)=false→(c.mem.all (restAt S))=false:=fun hg=>by rw[List.all_eq_false];exact⟨a,ay,by rw[ag,hg];decide⟩
  have ai:∀W,Keep [] wr W→Hid (Calls Tryz.prog 22 #[pr x.kp 0] W fun e w'=>e=.returned (.agg #[.int .i64 (nd.dk.boot:Int),.int .i64 (nd.dk.epoch:Int),.int .i64 0,.bool false])∧Keep [] W w'):=fun W k=>h_ (G4 (C.still k))
  have ah:∀W,Keep [] wr W→Hid (Calls Tryz.prog 39 #[pr x.le 0,.int .i64 (nd.dk.epoch:Int)] W fun e w'=>e=.returned (.bool (nd.good (S.clk a)))∧Keep [] W w'):=fun W k=>h_ (Xt (C.still k) (ap.keep k (by simp)))
  obtain⟨P,ar⟩:∃b,b=nd.good (S.clk a):=⟨_,rfl⟩;rw[←ar]at ah Z ad;have ac:=C.blk;unfold ndC at ac;have H:=h_2 ac C.stb;have D:=h_3 f Z ad;have HI:=h_ z;clear f I G af au a3 h1 x1 x2 x3 x4 t C ap Z ag ay ad ar ac z;go_wp2_with fail;clear r0 c3 q0 a6 q1 q2;refine wK (A:=[0,1,3,7,15,31,63,127,255,511,1023,2047,4095,8191,16383,32767,65535,131071,16383,278527,802815,1851391,3948543,8142847,16531455,33308671,66863103,134217727,268435455,536870911]) 0 [pr x.nb 0,.bool false,.bool false,pr x.nb 0,pr x.nb 0,pr x.nb 0,pr x.stb 0,pr x.stb 0,pr x.stb 2,pr x.kp 0,.agg #[.int .i64 (nd.dk.boot:Int),.int .i64 (nd.dk.epoch:Int),.int .i64 0,.bool false],.bool false,.bool false,.bool false,pr x.nb 0,pr x.nb 0,pr x.nb 1,pr x.le 0,pr x.nb 0,pr x.nb 0,pr x.nb 0,pr x.stb 0,pr x.stb 0,pr x.stb 2,pr x.kp 0,.agg #[.int .i64 (nd.dk.boot:Int),.int .i64 (nd.dk.epoch:Int),.int .i64 0,.bool false],.int .i64 (nd.dk.epoch:Int),.bool P,.bool (!P),.bool (!P)] (fun _ W=>Keep [] wr W) ?mstart (.s ?m0<|.s ?m1<|.s ?m2<|.s ?m3<|.s ?m4<|.s ?m5<|.s ?m6<|.s ?m7<|.s ?m8<|.s ?m9<|.s ?m10<|.s ?m11<|.s ?m12<|.s ?m13<|.s ?m14<|.s ?m15<|.s ?m16<|.s ?m17<|.s ?m18<|.s ?m19<|.s ?m20<|.s ?m21<|.s ?m22<|.s ?m23<|.s ?m24<|.s ?m25<|.s ?m26<|.s ?m27<|.s ?m28<|.s ?m29<|.nil) ?mfin
  case mstart=>exact(By _ _).drew
  case mfin=>
   intro L w7 m hd;have aj:=h_ (D.out.1.still m);clear m hd;simp[Al,Act.put]
   cases P with
   |true=>
    go_wp2
    go_roundw
    case rel=>exact⟨i+1,by go_num,by have:=HI.out;omega,D.out.2.1,aj.out⟩
    case measure=>simp only[intOf];have:=HI.out;omega
   |false=>go_wp2;go_ret;exact⟨by rw[D.out.2.2 (by first|rfl|trivial),Bool.false_and,Bool.false_and];first|done|rfl,Yu v d.out.2.2.2.2.2.2 (aj.out.pull 6).drop⟩
  all_goals intro L xv W m Q Y U aq b hB K' T;have j:=h_ m;have ab:=H.out.1.keep m (by simp);have ak:=H.out.2.keep m (by simp);have d0:W.cell? ⟨x.nb,0,none⟩=some (pr x.stb 0):=ab.cell 0;have d1:W.cell? ⟨x.nb,1,none⟩=some (pr x.le 0):=ab.cell 1;have e2:W.cell? ⟨x.stb,2,none⟩=some (pr x.kp 0):=ak.cell 2;clear ab ak m;simp at aq;simp only[Al,Act.put,A8,A7,A6,aq]at hB;subst hB
  case m10=>clear Q Y U;go_simp;refine(ai W j.out).out.mono ?_;rintro e w3 ⟨rfl,K⟩;go_simp;exact T _ _ rfl (j.out.trans K)
  case m25=>clear Q Y U;go_simp;refine(ai W j.out).out.mono ?_;rintro e w3 ⟨rfl,K⟩;go_simp;exact T _ _ rfl (j.out.trans K)
  case m27=>clear Q Y U;go_simp;refine(ah W j.out).out.mono ?_;rintro e w3 ⟨rfl,K⟩;go_simp;exact T _ _ rfl (j.out.trans K)
  all_goals clear Q Y U;go_simp;exact T _ _ rfl j.out
 ·obtain rfl:i=n:=by omega
  have q0:¬(i:Int)<(i:Int):=by omega
  have an:c.mem.all (restAt S)=true:=by rw[d.out.1,Bt]at I;exact I
  have a1:=h_ an;have y:Sp (C0 v.cp v.cdv v.ccv S.c S.cc B S.cd::AM p (BW v S.made) 104::CI v.np S.net::FI v.op S.onow S.org::F9 v.lp S.log::CW v S B::BF 3 1 (.slice q i r) i (ints (c.mem.map Int.ofNat))::R) wr:=f.pull 4;rw[d.out.2.2.2.2.1]at y;have hU:=ct_under (Sp.open_ (l:=[Ni ⟨E,v.ccv,v.cdv⟩ c B,AF v.ccv S.cc]) y);have hO:=clOpen_sp (f.pull 3) d.out.2.2.1;have c0:wr.cell? ⟨p,0,none⟩=some (pr E 0):=by rw[f.blk.cell];show some (Cu v.cp)=_;rw[d.out.2.2.2.2.2.1];rfl
  have c29:wr.cell? ⟨p,29,none⟩=some (pr v.lp 0):=f.blk.cell 29;have az:S.openCalls=opens S.log:=rfl;unfold pt at hO;obtain⟨N,M,D⟩:=i_3 hU hO f;obtain⟨o,ho⟩:∃o,o=opens S.log:=⟨_,rfl⟩;rw[←ho]at M;have a2:Hid (S.openCalls=o):=h_ (by rw[az,ho]);clear f I an y hU hO az ho;by_cases X:c.num=0
  ·have q1:(c.num:Int)=0:=by omega
   have a0:((c.num:Int)==0)=true:=by simp[X]
   go_wp2_with fail;refine N.out.mono ?_;rintro e w3 ⟨rfl,rfl⟩;go_wp2_with fail;refine M.out.mono ?_;rintro e w4 ⟨rfl,F⟩
   have H7:Hid (Sp (CN p S B::R) w4):=h_ (by have h7:Sp (Bo p v S B++BF 3 1 (.slice q i r) i (ints (c.mem.map Int.ofNat))::R) w4:=F.push 3;exact Yu v d.out.2.2.2.2.2.2 (h7.pull 6).drop)
   have J:(c.mem.all (restAt S)&&decide (c.num=0)&&decide (S.openCalls=0))=decide (o=0):=by rw[a1.out,a2.out,An X,Dx,Dx]
   have aa:=h_ J;clear J F N M c0 c29 q1 a0 X;go_wp2;go_ret;exact⟨by rw[aa.out];cases o<;>first|rfl|simp,H7.out⟩
  ·have q1:¬(c.num:Int)=0:=by omega
   have a0:((c.num:Int)==0)=false:=by simp;omega
   go_wp2_with fail;refine N.out.mono ?_;rintro e w3 ⟨rfl,rfl⟩;have J:(c.mem.all (restAt S)&&decide (c.num=0)&&decide (S.openCalls=0))=false:=by rw[Ak X,Bool.and_false,Bool.false_and]
   have aa:=h_ J;clear J N M;go_wp2;go_ret;exact⟨by rw[aa.out];first|done|rfl,Yu v d.out.2.2.2.2.2.2 (D.out.pull 6).drop⟩
end
theorem ndReads_nil {w:World}:Calls Tryz.prog 37 #[.pointer none] w fun e w'=>e=.returned (.slice none 0 0)∧w'=w:=by go_enter Tryz.func37,Tryz.ntmps37;go_wp2_with fail;go_ret;exact⟨rfl,rfl⟩
section
variable {R:List As} {w w':World} {S S':Cl} {B B' a p k tp wp:Nat} {m:Wm} {L:List Wm} {low:List Nat} {mt:List Value}
theorem hearsT {y:Tm}(h:Sp (CN p S B::Gs y::R) w)(g:y.m=wmMs m)(b:PH S m=true)(f:B≤790000):Calls Tryz.prog 78 #[pt p,.agg (Cm y).toArray] w fun e w'=>e=.returned (.tuple #[])∧Sp (CN p (S.hears m) (B+2)::R) w':=by obtain⟨v,c,h⟩:=h.cls;refine(hearsL h g c b f).mono ?_;rintro e w' ⟨rfl,d⟩;exact⟨rfl,Yu v (Ul c m b) d⟩
theorem takeT_some (h:Sp (CN p S B::R) w)(d:S.net=m::L):∃f,w.cell? ⟨p,27,none⟩=some (pt f)∧Calls Tryz.prog 77 #[pt f,.int .i64 0] w fun e w'=>∃y:Tm,e=.returned (.tuple #[.agg (Cm y).toArray,.bool true])∧y.m=wmMs m∧Sp (CN p (S.drop 0) B::Gs y::R) w':=by
 obtain⟨v,j,h⟩:=h.cls;refine⟨v.np,h.blk.cell 27, ?_⟩;have b:Sp (CI v.np S.net::AM p (BW v S.made) 104::FI v.op S.onow S.org::F9 v.lp S.log::C0 v.cp v.cdv v.ccv S.c S.cc B S.cd::CW v S B::R) w:=h.pull 1;rw[d]at b;refine(netTake_some b).mono ?_;rintro e w' ⟨y,rfl,l,g⟩;have e:S.drop 0={S with net:=L}:=by unfold Cl.drop;rw[d];rfl
 rw[e];have i:Sp (Bo p v {S with net:=L} B++Gs y::R) w':=(g.push 6).push 1;exact⟨y,rfl,l,Yu v j i⟩
theorem takeT_none (h:Sp (CN p S B::R) w)(f:S.net=[]):∃g,w.cell? ⟨p,27,none⟩=some (pt g)∧Calls Tryz.prog 77 #[pt g,.int .i64 0] w fun e w'=>e=.returned (.tuple #[.agg QH.toArray,.bool false])∧Sp (CN p S B::R) w':=by obtain⟨v,j,h⟩:=h.cls;refine⟨v.np,h.blk.cell 27, ?_⟩;have b:Sp (CI v.np S.net::AM p (BW v S.made) 104::FI v.op S.onow S.org::F9 v.lp S.log::C0 v.cp v.cdv v.ccv S.c S.cc B S.cd::CW v S B::R) w:=h.pull 1;rw[f]at b;refine(netTake_none b).mono ?_;rintro e w' ⟨rfl,d⟩;rw[←f]at d;have i:Sp (Bo p v S B++R) w':=d.push 1;exact⟨rfl,Yu v j i⟩
theorem clReads_none (h:Sp (CN p S B::R) w)(f:1≤a∧a≤5)(b:S.nReads a=0):∃o,w.cell? ⟨p,3+a,none⟩=some (.pointer o)∧Calls Tryz.prog 37 #[.pointer o] w fun e w'=>∃i l,e=.returned (.slice i 0 l)∧Sp (CN p S B::R) w':=by
 have z:=h;obtain⟨v,D,h⟩:=h.cls;have c3:w.cell? ⟨p,3+a,none⟩=some (Cu (v.nd a)):=by rw[h.blk.cell];exact Gd v _ f
 have n:Sp (CW v S B::AM p (BW v S.made) 104::CI v.np S.net::FI v.op S.onow S.org::F9 v.lp S.log::C0 v.cp v.cdv v.ccv S.c S.cc B S.cd::R) w:=h.pull 5
 cases g:S.nodes a with
 |none=>obtain⟨d,_⟩:=(n.slotOut f).slotDown g;rw[d]at c3;refine⟨none,c3,ndReads_nil.mono ?_⟩;rintro e w' ⟨rfl,rfl⟩;exact⟨none,0,rfl,z⟩
 |some nd=>unfold Cl.nReads at b;rw[g]at b;have b:nd.reads.length=0:=b;obtain⟨x,d,s,t,y,A⟩:=(n.slotOut f).slotUp g;rw[d]at c3;refine⟨some ⟨x.nb,0,none⟩,c3,(Pr A (by omega)).mono ?_⟩;rintro e w' ⟨u,rfl,q,_⟩;obtain⟨i,l,r⟩:=A4 q.row;rw[b]at r;refine⟨i,l,by rw[r], ?_⟩;have C:=(q.drop.slotUpI d s t g rfl y).slotIn f (Av B) (fun j E=>⟨rfl,rfl,rfl,rfl,rfl,rfl,rfl⟩);exact Yu v D (C.push 5)
theorem cl_round (h:Sp (CN p S B::R) w)(c:roundD S=some S')(hB:B+400≤790000):Calls Tryz.prog 59 #[pt p] w fun e w'=>e=.returned (.tuple #[])∧Sp (CN p S' (B+400)::R) w':=by
 obtain⟨O,P,h2,h3,h4⟩:=roundD_at c;rw[M6]at P;have H:=h_ h;have u:=h_5 P h2 h3 h4 hB;unfold pt;clear h c P h2 h3 h4 hB;go_enter Tryz.func59,Tryz.ntmps59;go_wp2
 go_loopw [2] (fun s2 wr=>∃(j:Cl) (a:Nat),s2=.int .i64 (a:Int)∧a≤6∧Ex (6-a) a j=some O∧Sp (CN p j B::R) wr) (fun x _=>7-(intOf x).toNat)
 case atStart=>exact⟨S,0,rfl,AA _,u.out.1,H.out⟩
 case round=>
 obtain⟨j,a,rfl,ha,i,c⟩:=hrel;by_cases J:a≤5
 ·have W:(a:Int)≤5:=by omega
  obtain⟨k,U⟩:∃k,6-a=k+1:=⟨5-a,by omega⟩;rw[U]at i;unfold Ex at i
  have M:O5 j a=true∧Ex k (a+1) (j.tick a)=some O:=by
   unfold IK at i;by_cases G:O5 j a=true
   ·rw[Ay G]at i;exact⟨G,i⟩
   ·rw[Aw G]at i;cases i
  have I:k=6-(a+1):=by omega
  rw[I]at M;have n:=tickT c M.1;unfold pt at n;have d:=h_2 n M.2;clear c n M i U I H;go_wp2_with fail;refine d.out.1.mono ?_;rintro e t ⟨rfl,l⟩;have Z:=h_2 l d.out.2;clear l d;go_wp2
  go_roundw
  case rel=>exact⟨j.tick a,a+1,by go_num,by omega,Z.out.2,Z.out.1⟩
  case measure=>simp only[intOf];omega
 ·obtain rfl:a=6:=by omega
  have hS:j=O:=by simpa[Ex]using i
  subst hS;have W:¬(6:Int)≤5:=by omega
  have Y:=h_ c;clear c i H J ha;go_wp2
  go_loopw [13,3,4,15] (fun af s3 s4 ah wr=>∃(g:Cl) (k:Nat),af=.int .i64 (k:Int)∧k≤200∧Ez (200-k) g=some S'∧Sp (CN p g (B+2*k)::R) wr) (fun x _ _ _ _=>201-(intOf x).toNat)
  case atStart=>exact⟨j,0,rfl,AA _,u.out.2.1,by simpa using Y.out⟩
  case round=>
  obtain⟨g,k,rfl,U,q,c⟩:=hrel;clear Y;have X:(k:Int)<3000:=by omega
  have ae:decide ((k:Int)<3000)=true:=An X
  cases r:g.net with
  |nil=>
   have ad:=LN q r;subst ad;obtain⟨np,c27,n⟩:=takeT_none c r;unfold pt at*;have d:=h_ n;clear c n r q;go_wp2_with fail;refine d.out.mono ?_;rintro e t ⟨rfl,l⟩;have s:=h_ (l.alloc QH 175);clear l d c27
   go_wp2_with (refine AS rfl _ _ _ rfl t.heap.size QH QH 175 rfl rfl s.out.blk rfl C4 zMsg_one ?_;intro w6 z D;have C:=s.out.set z D;have v:=h_ C.drop;clear C z D)
   clear s X ae
   rename World=>wo
   go_loopw [5,39,40,41] (fun s5 ai aj ac wr=>∃a:Nat,s5=.int .i64 (a:Int)∧1≤a∧a≤6∧Sp (CN p g (B+400)::R) wr) (fun x _ _ _ _=>7-(intOf x).toNat)
   case atStart=>exact⟨1,rfl,Av _,by omega,v.out.clsMono (by omega)⟩
   case round=>
   obtain⟨a,rfl,aa,ag,c⟩:=hrel;clear v;by_cases J:a≤5
   ·have W:(a:Int)≤5:=by omega
    have X:(a:Int)<6:=by omega
    have q2:a<6:=by omega
    obtain⟨o,c3,hR⟩:=clReads_none c ⟨aa,J⟩ (noReads_at u.out.2.2.2.1 ⟨aa,J⟩);have HR:=h_ hR;clear c hR;go_wp2_with fail;refine HR.out.mono ?_;rintro e w7 ⟨ua,uc,rfl,A⟩;have E:=h_ A;clear A HR c3;go_wp2_with fail
    rename World=>wo2
    go_loopw [41] (fun ac wr=>ac=.int .i64 0∧Sp (CN p g (B+400)::R) wr) (fun _ _=>0)
    case atStart=>exact⟨rfl,E.out⟩
    case round=>
    obtain⟨rfl,c⟩:=hrel;have N:=h_ c;clear c E;go_wp2
    go_roundw
    case rel=>exact⟨a+1,by go_num,by omega,by omega,N.out⟩
    case measure=>simp only[intOf];omega
   ·obtain rfl:a=6:=by omega
    have W:¬(6:Int)≤5:=by omega
    have N:=h_ c;clear c;go_wp2
    go_end0
    exact⟨rfl,N.out⟩
  |cons m L=>
   obtain⟨f,hf⟩:∃f,200-k=f+1:=by
    rcases Gi k 200 with h|h
    ·exact⟨200-k-1,by omega⟩
    ·exfalso
     rw[show 200-k=0 by omega]at q;injection q with q;have:=u.out.2.2.1;rw[←q,r]at this;cases this
   rw[hf]at q;obtain⟨K,Q⟩:=Km q (by rw[r];simp);have V:g.net[0]?=some m:=by rw[r];rfl
   have e1:g.sendAt 0=(g.drop 0).hears m:=by unfold Cl.sendAt;simp only[V]
   unfold OJ at K;rw[V]at K;rw[e1,show f=200-(k+1) by omega]at Q;obtain⟨np,c27,n⟩:=takeT_some c r;unfold pt at*;have d:=h_3 n K Q;have I:k+1≤200:=by omega
   clear c n r q K Q V e1 hf;go_wp2_with fail;refine d.out.1.mono ?_;rintro e t ⟨y,rfl,hy,l⟩;obtain⟨F,ab⟩:=(l.pull 1).tm;have H1:=h_ ab.one;have s:=h_2 hy (l.alloc QH 175);clear l c27 ab hy;obtain⟨b,G⟩:∃b,b=t.heap.size:=⟨_,rfl⟩
   go_wp2_with (first|(refine AS rfl _ _ _ rfl t.heap.size QH (Cm y) 175 rfl rfl s.out.2.blk rfl C4 H1.out ?_;intro w6 z D;have C:=s.out.2.set z D;have v:=h_ C;clear C z D)|(refine BA 175 _ rfl t.heap.size rfl 175 (Cm y).toArray (0,0) _ v.out.blk AV rfl C4 (by rfl) ?_))
   have T:=hearsT (v.out.push 2) s.out.1 d.out.2.1 (by have:=u.out.2.2.2.2;omega);unfold pt at T;have HH:=h_ T;clear T;refine HH.out.mono ?_;rintro e w7 ⟨rfl,A⟩;have E:=h_ ((A.pull 1).drop);clear A HH;go_wp2
   go_roundw
   case rel=>exact⟨(g.drop 0).hears m,k+1,by go_num,I,d.out.2.2,E.out⟩
   case measure=>simp only[intOf];omega
theorem cl_Rest (h:Sp (CN p S B::R) w)(F:S.down=false)(b:restN k S=some S')(J:k≤100)(E:B+400*k≤790000):Calls Tryz.prog 45 #[pt p,.int .i64 100] w fun e w'=>e=.returned (.bool true)∧Sp (CN p S' (B+400*k)::R) w':=by
 obtain⟨r,rfl⟩:∃j,k=j+1:=by
  cases k with
  |zero=>cases b
  |succ j=>exact⟨j,rfl⟩
 have H:=h_ h;have u:=h_ (cl_down h F);have g:=h_3 b J E;unfold pt at*;clear h F b J E;go_enter Tryz.func45,Tryz.ntmps45;go_wp2_with fail;refine u.out.mono ?_;rintro e U ⟨rfl,rfl⟩;clear u;go_wp2
 go_loopw [14] (fun T wr=>∃(n:Cl) (i j:Nat),T=.int .i64 (i:Int)∧i+j=r∧restN (j+1) n=some S'∧Sp (CN p n (B+400*i)::R) wr) (fun x _=>101-(intOf x).toNat)
 case atStart=>exact⟨S,0,r,rfl,by omega,g.out.1,by simpa using H.out⟩
 case round=>
 obtain⟨n,i,j,rfl,I,K,b⟩:=hrel;obtain⟨O,y,z,A⟩:=restN_at K;have G:i<100:=by have:=g.out.2.1;omega
 have M:(i:Int)<100:=by omega
 have Q:decide ((i:Int)<100)=true:=An M;have o:=cl_round b y (by have:=g.out.2.2;omega);unfold pt at o;have l:=h_3 o z A;have f:=h_2 G I;clear b o y z A K H G I;go_wp2_with fail;refine l.out.1.mono ?_;rintro e V ⟨rfl,C⟩;have q:=cl_rests C l.out.2.1;unfold pt at q;have v:=h_ q;clear C q;go_wp2_with fail;refine v.out.mono ?_;rintro e W ⟨rfl,D⟩;have t:=h_ D;clear D v;rcases l.out.2.2 with⟨c,d,P⟩|⟨c,d⟩
 ·subst d P
  rw[c];clear c M Q;go_wp2;go_ret;exact⟨rfl,by have:=f.out.2;rw[show B+400*(r+1)=B+400*i+400 by omega];exact t.out⟩
 ·rw[c]
  obtain⟨s,rfl⟩:∃s,j=s+1:=by
   cases j with
   |zero=>cases d
   |succ j=>exact⟨j,rfl⟩
  have N:=h_ d;clear c d;go_wp2
  go_roundw
  case rel=>exact⟨O,i+1,s,by go_num,by have:=f.out;omega,N.out,by rw[show B+400*(i+1)=B+400*i+400 by omega];exact t.out⟩
  case measure=>simp only[intOf];have:=f.out;omega
theorem top_rest (h:Sp (Gt tp wp S low mt B true::R) w)(l:S.down=false)(r:restN k S=some S')(n:k≤100)(i:B+400*k≤790000):Calls Tryz.prog 24 #[pt tp] w fun e w'=>e=.returned (.bool true)∧Sp (Gt tp wp S' low mt (B+400*k) true::R) w':=by have b:Sp (AM tp [pt wp,.bool true] 33::Hi wp S low mt B::R) w:=h.open_;have v:w.cell? ⟨tp,0,none⟩=some (pr wp 0):=b.blk.cell 0;have x:w.cell? ⟨tp,1,none⟩=some (.bool true):=b.blk.cell 1;obtain⟨q,o,c⟩:=(b.pull 1).lw;have u:w.cell? ⟨wp,0,none⟩=some (pr q.p 0):=c.blk.cell 0;have j:=cl_Rest (c.pull 1) l r n i;obtain⟨d,t⟩:=i_2 j o;unfold pt at*;clear h b c j l r n i o;go_enter Tryz.func24,Tryz.ntmps24;go_wp2_with fail;refine d.out.mono ?_;rintro e y ⟨rfl,f⟩;have g:Sp (GL wp q S' low mt (B+400*k)++AM tp [pt wp,.bool true] 33::R) y:=f.push 1;have s:=h_ (DV [_,_] ((Y5 q t.out g).push 1));clear f g d v x u;go_wp2;go_ret;exact⟨rfl,s.out⟩
end
end Go.Proofs.YtnhbioehiiifdaaGreat
