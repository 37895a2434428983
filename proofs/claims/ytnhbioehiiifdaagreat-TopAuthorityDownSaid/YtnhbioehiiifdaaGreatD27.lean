import Derived.Test.YtnhbioehiiifdaaGreatD25
set_option maxRecDepth 100000
set_option maxHeartbeats 16000000
set_option linter.all false
namespace Go.Proofs.YtnhbioehiiifdaaGreat
open Go.ChangeShapes Go.WideShapes Go.ChangeAt Go.RowKit
theorem Tryz.sizeMeta1:(Tryz.prog.info? 49).map (·.size)=some 4:=by kernel_rfl
def zMta:List Value:=[.int .i64 0,.int .i64 0,.int .i64 0,.bool false]
theorem mtaC_one (m:Mta):∀v∈mtaC m,v.oneCell'=true:=by intro v b;simp only[mtaC,Ac,Am,AG]at b;rcases b with rfl|rfl|rfl|rfl<;>rfl
theorem lwC_meta (q:LwP)(f:Nat→Mta)(a:Nat)(b:1≤a∧a≤5):(R4 q (metasC f))[2+a*4]?=some (.int .i64 ((f a).1 :Int))∧(R4 q (metasC f))[2+a*4+1]?=some (.int .i64 ((f a).2.1 :Int)):=by rcases(by omega:a=1∨a=2∨a=3∨a=4∨a=5)with rfl|rfl|rfl|rfl|rfl<;>exact⟨rfl,rfl⟩
theorem lwC_over (q:LwP)(f:Nat→Mta)(a:Nat)(m:Mta)(b:1≤a∧a≤5):BQ (R4 q (metasC f)) (2+a*4) (mtaC m)=R4 q (metasC (Ej f a m)):=by rcases(by omega:a=1∨a=2∨a=3∨a=4∨a=5)with rfl|rfl|rfl|rfl|rfl<;>rfl
section
variable {R:List As} {w w':World} {S:Cl} {B p a wp:Nat} {n:Nd} {low:List Nat} {f:Nat→Mta}
theorem clNode_rd (h:Sp (CN p S B::R) w)(d:1≤a∧a≤5)(j:S.nodes a=some n):∃(x:NdP) (v:NdV),(∀W,Keep [] w W→Calls Tryz.prog 19 #[pt p,.int .i64 (a:Int)] W fun e w'=>e=.returned (pt x.nb)∧w'=W)∧NdR w x n B v∧IsClock w x.cb (S.clk a:Int):=by obtain⟨v,s,h⟩:=h.cls;have i:Sp (CW v S B::AM p (BW v S.made) 104::CI v.np S.net::FI v.op S.onow S.org::F9 v.lp S.log::C0 v.cp v.cdv v.ccv S.c S.cc B S.cd::R) w:=h.pull 5;obtain⟨x,g,o,q,r,b⟩:=(i.slotOut d).slotUp j;obtain⟨m,l⟩:=b.ndR;refine⟨x,m,fun W k=> ?_,l,(b.pull 1).clock⟩;have:=IE (h.still k).blk d;rw[g]at this;exact this
theorem lw_One (h:Sp (Hi wp S low (metasC f) B::R) w)(ap:oneB S f=true):
  Calls Tryz.prog 25 #[pt wp] w fun e w'=>e=.returned (.bool true)∧Sp (Hi wp S low (metasC (updTo f S 5)) B::R) w':=by
 obtain⟨q,ax,h⟩:=h.lw;obtain⟨kg,kc,a2,am,_,_,_,_⟩:=E4 (h.pull 3).row (by decide);have H:=h_ h;have M:=h_2 ap am;unfold pt;clear h ax ap am;go_enter Tryz.func25,Tryz.ntmps25;go_wp2
 go_loopw [3,4,5,6] (fun s3 s4 s5 s6 wr=>∃i:Nat,s3=.int .i64 (i:Int)∧i≤8∧Sp (GL wp q S low (metasC f) B++R) wr) (fun x _ _ _ _=>9-(intOf x).toNat)
 case atStart=>exact⟨0,rfl,AA _,H.out⟩
 case round=>
 obtain⟨i,rfl,hi,d⟩:=hrel;clear H;have U:wr.cell? ⟨wp,26,none⟩=some (.slice (some ⟨kg,0,none⟩) 8 kc):=by rw[←M.out.2];exact d.blk.cell 26
 have l:=h_ d;clear d;by_cases r:i<8
 ·have D:(i:Int)<8:=by omega
  have az:decide ((i:Int)<8)=true:=An D;have v:=h_ r;clear r hi;go_wp2_with fail;clear U
  rename World=>wo
  go_loopw [4,5,6] (fun s4 s5 s6 wr=>∃a:Nat,s5=.int .i64 (a:Int)∧1≤a∧a≤6∧s4=.int .i64 (serveTo S (keyN i) (a-1):Int)∧Sp (GL wp q S low (metasC f) B++R) wr) (fun _ x _ _=>7-(intOf x).toNat)
  case atStart=>exact⟨1,rfl,Av _,by omega,rfl,l.out⟩
  case round=>
  obtain⟨a,rfl,z,ai,rfl,d⟩:=hrel;clear l D az;by_cases r:a≤5
  ·have D:(a:Int)≤5:=by omega
   have af:=serveTo_le S (keyN i) (a-1)
   have C:serveTo S (keyN i) a=serveTo S (keyN i) (a-1)+serveAt S (keyN i) a:=by obtain⟨b,rfl⟩:∃b,a=b+1:=⟨a-1,by omega⟩;rfl
   obtain⟨c,F⟩:∃c,c=serveTo S (keyN i) (a-1):=⟨_,rfl⟩;rw[←F]at af C⊢;have N:wr.cell? ⟨wp,0,none⟩=some (pr q.p 0):=d.blk.cell 0;have a1:c≤5:=by omega
   cases m:S.nodes a with
   |none=>
    obtain⟨o,k,O,_⟩:=IF (d.pull 1) ⟨z,r⟩;rw[O m]at k;have P:serveAt S (keyN i) a=0:=by unfold serveAt;rw[m]
    rw[P,Nat.add_zero]at C;unfold pt Cu at k;have j:=h_2 k C;have l:=h_ d;clear d k O P C m F af;go_wp2_with fail;refine j.out.1.mono ?_;rintro e w2 ⟨rfl,rfl⟩;clear N;go_wp2
    go_roundw
    case rel=>exact⟨a+1,by go_num,by omega,by omega,by rw[Nat.add_sub_cancel,j.out.2],l.out⟩
    case measure=>simp only[intOf];omega
   |some nd=>
    obtain⟨x,nv,k,G,X⟩:=clNode_rd (d.pull 1) ⟨z,r⟩ m
    have al:wr.cell? ⟨kg,i,none⟩=some (.string (keyN i)):=by have J:=(d.pull 3).row;rw[M.out.2]at J;rw[Cg J i (by have:=v.out;omega)];exact lwKeys_at i v.out
    have ag:=JO G X (keyN i) (by show(1:Nat)≤1000;omega);have P:serveAt S (keyN i) a=if nd.serves (S.clk a) (keyN i)=true then 1 else 0:=by unfold serveAt;rw[m]
    rw[P]at C;obtain⟨sv,aq⟩:∃b,b=nd.serves (S.clk a) (keyN i):=⟨_,rfl⟩;rw[←aq]at ag C;have U:wr.cell? ⟨wp,26,none⟩=some (.slice (some ⟨kg,0,none⟩) 8 kc):=by rw[←M.out.2];exact d.blk.cell 26
    unfold pt at k;have j:=h_3 (k wr (By _ _)) ag C;have l:=h_ d;have qi:(i:Int)<8:=by have:=v.out;omega
    have a0:i<8:=v.out;obtain⟨kk,ae⟩:∃kk,kk=keyN i:=⟨_,rfl⟩;rw[←ae]at al j;have ah:=h_ ae;clear d k P C m F af G X ag aq ae;go_wp2_with fail;refine j.out.1.mono ?_;rintro e w2 ⟨rfl,rfl⟩;go_wp2_with fail;refine j.out.2.1.mono ?_;rintro e w3 ⟨rfl,Q⟩;have I:=h_ (l.out.still Q);clear Q N U al qi a0 l
    cases sv with
    |true=>
     have e:=j.out.2.2;rw[Ay rfl]at e;have HE:=h_ e;clear e j;go_wp2
     go_roundw
     case rel=>exact⟨a+1,by go_num,by omega,by omega,by rw[Nat.add_sub_cancel,←ah.out,HE.out];go_num,I.out⟩
     case measure=>simp only[intOf];omega
    |false=>
     have e:=j.out.2.2;rw[Aw (by decide)]at e;have HE:=h_ e;clear e j;go_wp2
     go_roundw
     case rel=>exact⟨a+1,by go_num,by omega,by omega,by rw[Nat.add_sub_cancel,←ah.out,HE.out,Nat.add_zero],I.out⟩
     case measure=>simp only[intOf];omega
  ·obtain rfl:a=6:=by omega
   have D:¬(6:Int)≤5:=by omega
   have ak:=oneB_key M.out.1 v.out;obtain⟨c,F⟩:∃c,c=serveTo S (keyN i) (6-1):=⟨_,rfl⟩;have aw:c≤1:=by rw[F];exact ak
   rw[←F];have q1:¬(1:Int)<(c:Int):=by omega
   have a3:decide ((c:Int)>1)=false:=Ak (by omega);have qi:i<8:=v.out;have l:=h_ d;clear d ak F aw r z ai;go_wp2
   go_roundw
   case rel=>exact⟨i+1,by go_num,by have:=v.out;omega,l.out⟩
   case measure=>simp only[intOf];have:=v.out;omega
 ·obtain rfl:i=8:=by omega
  have D:¬(8:Int)<8:=by omega
  clear r hi;go_wp2_with fail;clear U D
  rename World=>wo
  go_loopw [7,8,9] (fun s7 s8 s9 wr=>∃a:Nat,s7=.int .i64 (a:Int)∧1≤a∧a≤6∧Sp (GL wp q S low (metasC (updTo f S (a-1))) B++R) wr) (fun x _ _ _=>7-(intOf x).toNat)
  case atStart=>exact⟨1,rfl,Av _,by omega,l.out⟩
  case round=>
  obtain⟨a,rfl,z,ai,d⟩:=hrel;clear l;by_cases r:a≤5
  ·have D:(a:Int)≤5:=by omega
   have t:updTo f S a=updA (updTo f S (a-1)) S a:=by obtain⟨b,rfl⟩:∃b,a=b+1:=⟨a-1,by omega⟩;rfl
   have V:=updTo_at f S (a-1) a (by omega);obtain⟨g,hg⟩:∃g,g=updTo f S (a-1):=⟨_,rfl⟩;rw[←hg]at d t V
   have N:wr.cell? ⟨wp,0,none⟩=some (pr q.p 0):=d.blk.cell 0
   cases m:S.nodes a with
   |none=>
    obtain⟨o,k,O,_⟩:=IF (d.pull 1) ⟨z,r⟩;rw[O m]at k;unfold pt Cu at k;unfold updA at t;rw[m]at t;have j:=h_2 k t;have l:=h_ d;clear d k O t m hg V
    go_wp2_with fail;refine j.out.1.mono ?_;rintro e w2 ⟨rfl,rfl⟩;clear N;go_wp2
    go_roundw
    case rel=>exact⟨a+1,by go_num,by omega,by omega,by rw[Nat.add_sub_cancel,j.out.2];exact l.out⟩
    case measure=>simp only[intOf];omega
   |some nd=>
    obtain⟨x,nv,k,G,X⟩:=clNode_rd (d.pull 1) ⟨z,r⟩ m;obtain⟨o1,o2,o3,o4⟩:=oneB_at M.out.1 ⟨z,r⟩ m;unfold updA at t;rw[m]at t;have an:=G4 G;have n0:wr.cell? ⟨x.nb,0,none⟩=some (pr x.stb 0):=G.blk.cell 0;have n2:wr.cell? ⟨x.stb,2,none⟩=some (pr x.kp 0):=G.stb.cell 2;have ao:((.int .i64 (nd.dk.boot:Int):Value)::.int .i64 (nd.dk.epoch:Int)::.int .i64 0::.bool false::[])=mtaC nd.mta:=by unfold mtaC Nd.mta;rw[o3,o4];rfl
    unfold pt at k;have j:=h_7 (k wr (By _ _)) an t V o1 o2 ao;have u:=h_2 z r;have l:=h_ d;clear d k t m hg G X an V o1 o2 o3 o4 ao;go_wp2_with fail;refine j.out.1.mono ?_;rintro e w2 ⟨rfl,rfl⟩;go_wp2_with fail;refine j.out.2.1.mono ?_;rintro e w3 ⟨rfl,Q⟩;have h3:=(l.out.still Q).alloc zMta 49;have I:=h_ h3;clear Q h3 N n0 n2 l;obtain⟨y,ad⟩:∃b,b=w3.heap.size:=⟨_,rfl⟩
    go_wp2_with (refine AS rfl _ _ _ rfl w3.heap.size zMta [.int .i64 (nd.dk.boot:Int),.int .i64 (nd.dk.epoch:Int),.int .i64 0,.bool false] 49 rfl rfl I.out.blk rfl Tryz.sizeMeta1 (by rw[j.out.2.2.2.2.2.2];exact mtaC_one _) ?_;intro w5 h5 k5;have hs:=I.out.set h5 k5;rw[←ad]at hs;have T:=h_ hs;clear hs h5 k5 I)
    rw[←ad];clear ad;have q3:¬(nd.dk.boot:Int)<((g a).1 :Int):=by have J:=j.out.2.2.2.1;have h2:=j.out.2.2.2.2.1;rw[J];omega
    have q4:¬(nd.dk.epoch:Int)<((g a).2.1 :Int):=by have J:=j.out.2.2.2.1;have h2:=j.out.2.2.2.2.2.1;rw[J];omega
    have q5:(a:Int)<6:=by have:=u.out;omega
    have q6:a<6:=by have:=u.out;omega
    refine wK (A:=[0,1,0,0,4,20,60,124,252,511,1023,2047,4095,2047,2047,10239,43007,124927,255999,518143,1048575,2097151]) 0 [pr y 0,.int .i64 (nd.dk.boot:Int),pr wp 0,.int .i64 (a:Int),pr wp 0,pr wp 2,pr wp (2+a*4),pr wp (2+a*4),.int .i64 ((g a).1 :Int),.bool false,.bool false,pr y 1,.int .i64 (nd.dk.epoch:Int),pr wp 0,.int .i64 (a:Int),pr wp 0,pr wp 2,pr wp (2+a*4),pr wp (2+a*4+1),.int .i64 ((g a).2.1 :Int),.bool false,.bool false] (fun _ W=>Keep [] w5 W) ?mstart (.s ?m0<|.s ?m1<|.s ?m2<|.s ?m3<|.s ?m4<|.s ?m5<|.s ?m6<|.s ?m7<|.s ?m8<|.s ?m9<|.s ?m10<|.s ?m11<|.s ?m12<|.s ?m13<|.s ?m14<|.s ?m15<|.s ?m16<|.s ?m17<|.s ?m18<|.s ?m19<|.s ?m20<|.s ?m21<|.nil) ?mfin
    case mstart=>exact(By _ _).drew
    case mfin=>
     intro L Y E hd;have K:=T.out.still E;have b0:Y.cell? ⟨y,0,none⟩=some (.int .i64 (nd.dk.boot:Int)):=K.blk.cell 0;have b1:Y.cell? ⟨y,1,none⟩=some (.int .i64 (nd.dk.epoch:Int)):=K.blk.cell 1;have b2:Y.cell? ⟨y,2,none⟩=some (.int .i64 0):=K.blk.cell 2;have b3:Y.cell? ⟨y,3,none⟩=some (.bool false):=K.blk.cell 3;have Z:=h_ K;clear E hd K q3 q4 T;simp[Al,Act.put];go_wp2_with fail;refine BJ 6 (by kernel_rfl) (by kernel_rfl) ?_;simp only[List.take_succ_cons,List.take_zero,BB,Bj]
     repeat still_step
     refine Du ?_;refine DM rfl _ _ _ rfl wp (2+a*4) (R4 q (metasC g)) [.int .i64 (nd.dk.boot:Int),.int .i64 (nd.dk.epoch:Int),.int .i64 0,.bool false] rfl rfl (Z.out.pull 1).drew.blk (by have:=u.out;show 2+a*4+4≤27;omega) Tryz.sizeMeta1 (by rw[j.out.2.2.2.2.2.2];exact mtaC_one _) ?_;intro w8 h8 k8;have h9:=(Z.out.pull 1).drew.set h8 k8;rw[j.out.2.2.2.2.2.2,lwC_over q g a _ u.out]at h9;have aa:Sp (GL wp q S low (metasC (Ej g a nd.mta)) B++R) w8:=(h9.pull 1).drop;rw[←j.out.2.2.1]at aa;have ar:=h_ aa;clear h8 k8 h9 aa b0 b1 b2 b3 Z;go_wp2
     go_roundw
     case rel=>exact⟨a+1,by go_num,by omega,by have:=u.out;omega,by rw[Nat.add_sub_cancel];exact ar.out⟩
     case measure=>simp only[intOf];have:=u.out;omega
    all_goals
     intro L xv W E hA ay hN aj b hB K' av;clear hA ay hN;have au:=h_ E;have ab:=T.out.blk.keep E (by simp);have ac:=(T.out.pull 1).blk.keep E (by simp);have b0:W.cell? ⟨y,0,none⟩=some (.int .i64 (nd.dk.boot:Int)):=ab.cell 0;have b1:W.cell? ⟨y,1,none⟩=some (.int .i64 (nd.dk.epoch:Int)):=ab.cell 1;have m0:W.cell? ⟨wp,2+a*4,none⟩=some (.int .i64 ((g a).1 :Int)):=by rw[ac.cell];exact(lwC_meta q g a u.out).1
     have m1:W.cell? ⟨wp,2+a*4+1,none⟩=some (.int .i64 ((g a).2.1 :Int)):=by rw[ac.cell];exact(lwC_meta q g a u.out).2
     clear ab ac E;simp at aj;simp only[Al,Act.put,A8,A7,A6,aj]at hB;subst hB;go_simp;exact av _ _ rfl au.out
  ·obtain rfl:a=6:=by omega
   have D:¬(6:Int)≤5:=by omega
   have H8:=h_ d;clear d;go_wp2;go_ret;exact⟨rfl,Y5 q (metasC_len _) H8.out⟩
end
end Go.Proofs.YtnhbioehiiifdaaGreat
