import Derived.Test.YtnhbioehiiifdaaGreatD23
set_option maxRecDepth 100000
set_option maxHeartbeats 16000000
set_option linter.all false
namespace Go.Proofs.YtnhbioehiiifdaaGreat
open Go.ChangeShapes Go.WideShapes Go.ChangeAt Go.RowKit
def JL (S:Cl)(low:List Nat):Bool:=Vo S low&&(decide (S.log.length=low.length)&&(decide (low.length≤10000)&&(S.log.zip low).all fun p=>decide (p.1.op=1∧p.2≤p.1.too∧p.1.too≤S.onow∧p.1.key.size≤1000)))
structure RightAt (S:Cl) (y:Call) (lo:Nat):Prop where
 op:y.op=1
 lo_:lo≤y.too∧y.too≤S.onow
 key:y.key.size≤1000
 done_:y.done=true→y.frm≤y.too∧y.rp.key=y.key∧y.rp.id=y.id
 held:y.done=true→y.rp.err=0→heldB (setsOf S.org y.key) y.rp.val y.rp.has lo y.too=true
theorem TC {S:Cl}{low:List Nat}(h:JL S low=true){i:Nat}{y:Call}(f:S.log[i]?=some y):∃lo,low[i]?=some lo∧RightAt S y lo:=by
 unfold JL Vo at h;simp only[Ar,A0,Cr]at h;obtain⟨j,m,n,k⟩:=h;have o:=(Ai.1 f).1;obtain⟨lo,e⟩:∃lo,low[i]?=some lo:=⟨_,Ad (by omega)⟩
 have g:(y,lo)∈S.log.zip low:=by refine Aq (i:=i) ?_;rw[List.getElem?_zip_eq_some];exact⟨f,e⟩
 have c:=j _ g;have b:=k _ g;refine⟨lo,e,⟨b.1,b.2.1|>fun h=>⟨h,b.2.2.1⟩,b.2.2.2,fun d=> ?_,fun d l=> ?_⟩⟩
 ·simp only[d,Bool.not_true,CH,Ar,A0]at c
  exact c.1
 ·simp[d,l]at c
  exact c.2.resolve_left (fun h=>h b.1)
theorem Tryz.sizeCallW:(Tryz.prog.info? 87).map (·.size)=some 13:=by kernel_rfl
def Y7:=@Tryz.sizeCallW
def M3:List Value:=[.int .i64 0,.int .i64 0,.string ⟨#[]⟩,.int .i64 0,.int .i64 0,.int .i64 0,.bool false,.int .i64 0,.int .i64 0,.string ⟨#[]⟩,.int .i64 0,.string ⟨#[]⟩,.bool false]
section
variable {R:List As} {w w':World} {S S':Cl} {B B' wp a i:Nat} {low:List Nat} {mt:List Value}
theorem VM (h:Sp (Hi wp S low mt B::R) w)(z:JL S low=true):
  Calls Tryz.prog 14 #[pt wp] w fun e w'=>e=.returned (.bool true)∧Sp (Hi wp S low mt B::R) w':=by
 obtain⟨q,a2,h⟩:=h.lw
 have ax:S.log.length=low.length∧low.length≤10000:=by unfold JL at z;simp only[Ar,A0]at z;exact⟨z.2.1,z.2.2.1⟩
 obtain⟨v,ay,H⟩:=(h.pull 1).cls;have H:Sp (Bo q.p v S B++AM wp (R4 q mt) 53::BF 3 1 q.lv low.length (ints (low.map Int.ofNat))::BF 9 1 q.kv 8 Ei::R) w:=H;have aq:∀W,Sp (Bo q.p v S B++AM wp (R4 q mt) 53::BF 3 1 q.lv low.length (ints (low.map Int.ofNat))::BF 9 1 q.kv 8 Ei::R) W→Sp (Hi wp S low mt B::R) W:=fun W hW=>Y5 q a2 ((Yu v ay hW).push 1)
 have a0:=Ww H.blk;have ap:=Qv (H.pull 3);obtain⟨la,lc,a1⟩:=A4 (H.pull 7).row;have d0:w.cell? ⟨wp,0,none⟩=some (pr q.p 0):=(H.pull 6).blk.cell 0;have r:=h_6 z ax aq a0 ap a1;unfold pt at*;clear z ax aq a0 ap h H ay a2 a1;go_enter Tryz.func14,Tryz.ntmps14;go_wp2_with fail;refine r.out.2.2.2.1.mono ?_;rintro e w2 ⟨rfl,rfl⟩;go_wp2_with fail;refine r.out.2.2.2.2.1.mono ?_;rintro e w3 ⟨u,rfl,N⟩;obtain⟨ua,P,hu⟩:=A4 N.row;subst hu;have h4:Sp (BF 87 13 (.slice ua S.log.length P) S.log.length (rows caC S.log)::Bo q.p v S B++AM wp (R4 q mt) 53::BF 3 1 q.lv low.length (ints (low.map Int.ofNat))::BF 9 1 q.kv 8 Ei::R) w3:=N.sel (l:=[_,_,_,_,_,_,_]) [0,2,3,4,1,5,6] 7 rfl rfl;have d0:w3.cell? ⟨wp,0,none⟩=some (pr q.p 0):=(h4.pull 7).blk.cell 0;have d1:w3.cell? ⟨wp,1,none⟩=some q.lv:=(h4.pull 7).blk.cell 1;rw[r.out.2.2.2.2.2]at d1;have H4:=h_ h4;obtain⟨nl,ai⟩:∃n,n=S.log.length:=⟨_,rfl⟩;obtain⟨d,ag⟩:∃n,n=low.length:=⟨_,rfl⟩;have bc:nl≤10000:=by have:=r.out.2.1;omega
 have a8:d=nl:=by have:=r.out.2.1;omega
 rw[←ag]at d1;rw[←ai]at H4⊢;have G:=h_2 ai ag;clear N h4 ai ag;subst a8;go_wp2_with fail;clear d0 d1
 go_loopw [4] (fun s4 wr=>∃i:Nat,s4=.int .i64 (i:Int)∧i≤d∧Sp (BF 87 13 (.slice ua d P) d (rows caC S.log)::Bo q.p v S B++AM wp (R4 q mt) 53::BF 3 1 q.lv low.length (ints (low.map Int.ofNat))::BF 9 1 q.kv 8 Ei::R) wr) (fun x _=>d+1-(intOf x).toNat)
 case atStart=>exact⟨0,rfl,AA _,H4.out⟩
 case round=>
 obtain⟨j,rfl,hj,z⟩:=hrel;have HR:=h_ z;by_cases ad:j<d
 ·obtain⟨y,hy⟩:∃y,S.log[j]?=some y:=⟨_,Ad (by rw[←G.out.1];exact ad)⟩
  obtain⟨lo,az,a4⟩:=TC r.out.1 hy;have J:(j:Int)<(d:Int):=by omega
  have a7:decide (j<d)=true:=An ad;obtain⟨g,cap,au,_,_,a5,_,_⟩:=Cq (k:=13) CX (by have:=z.row;rw[G.out.1]at this;exact this) hy;have a9:ua=some ⟨g,0,none⟩:=by injection au
  subst a9;have E:=h_3 hy az a4;have ao:=h_ a5;clear z au a5 hy az a4 H4;have a6:Sp (AM wr.heap.size M3 87::BF 87 13 (.slice (some ⟨g,0,none⟩) d P) d (rows caC S.log)::Bo q.p v S B++AM wp (R4 q mt) 53::BF 3 1 q.lv low.length (ints (low.map Int.ofNat))::BF 9 1 q.kv 8 Ei::R) (wr.alloc (.cells M3.toArray 87)):=HR.out.alloc M3 87;have ac:=h_ a6;have av:∀W,Blk W wr.heap.size (caC y) 87→Keep [wr.heap.size] (wr.alloc (.cells M3.toArray 87)) W→Sp (AM wr.heap.size (caC y) 87::BF 87 13 (.slice (some ⟨g,0,none⟩) d P) d (rows caC S.log)::Bo q.p v S B++AM wp (R4 q mt) 53::BF 3 1 q.lv low.length (ints (low.map Int.ofNat))::BF 9 1 q.kv 8 Ei::R) W:=fun W m hk=>ac.out.set m hk
  have ae:=h_ av;clear a6 av;by_cases X:y.done=true
  ·have F:=E.out.2.2.done_ X
   have q5:¬(y.too:Int)<(y.frm:Int):=by have:=F.1;omega
   have a3:=E.out.2.2.op;have C:=h_4 X F.2.1 F.2.2 a3;clear F X a3
   go_wp2_with (first|(refine Bc rfl 87 _ rfl g (j*13) rfl (caC y) _ ao.out Tryz.underlying87 rfl (by rfl) ?_)|(refine AS rfl _ _ _ rfl wr.heap.size M3 (caC y) 87 rfl rfl ac.out.blk rfl Y7 (J7 y) ?_;intro t o ab;have hs:=ae.out t o ab;have z6:t.cell? ⟨wr.heap.size,6,none⟩=some (.bool true):=(by rw[o.cell];show some (Value.bool y.done)=_;rw[C.out.1]);have z4:t.cell? ⟨wr.heap.size,4,none⟩=some (.int .i64 (y.frm:Int)):=o.cell 4;have z5:t.cell? ⟨wr.heap.size,5,none⟩=some (.int .i64 (y.too:Int)):=o.cell 5;have z2:t.cell? ⟨wr.heap.size,2,none⟩=some (.string y.key):=o.cell 2;have z9:t.cell? ⟨wr.heap.size,9,none⟩=some (.string y.key):=(by rw[o.cell];show some (Value.string y.rp.key)=_;rw[C.out.2.1]);have z7:t.cell? ⟨wr.heap.size,7,none⟩=some (.int .i64 (y.id:Int)):=(by rw[o.cell];show some (Value.int .i64 (y.rp.id:Int))=_;rw[C.out.2.2.1]);have z0:t.cell? ⟨wr.heap.size,0,none⟩=some (.int .i64 (y.id:Int)):=o.cell 0;have bb:t.cell? ⟨wr.heap.size,11,none⟩=some (.string y.rp.val):=o.cell 11;have M:=h_ hs;clear hs o ab)|fail)
   obtain⟨I,bd,be,ah,_,_,ba,_⟩:=E4 (M.out.pull 9).row (by rw[←G.out.2];omega)
   have aw:la=some ⟨I,0,none⟩:=by rw[r.out.2.2.2.2.2]at ah;injection ah
   obtain⟨c,af⟩:∃b,b=wr.heap.size:=⟨_,rfl⟩;rw[←af]at M;clear z6 z4 z5 z2 z9 z7 z0 bb ac ae ba ah q5;rw[←af];clear af;have am:=h_ aw;have D:=h_2 J ad;subst aw;clear J a7 ad;by_cases O:y.rp.err=0
   ·have HE:=h_2 O (E.out.2.2.held C.out.1 O)
    clear O;refine wK (A:=[0,1,3,7,15,31,63,127,255,511,1023,2047,4095,8191,16383,1023,33791,1023,1023,263167,787455,1023,2098175,6292479,14681087,1023,65012735,132121599,1023,268436479,1073741823,2147483647,4294967295]) 0 [pr c 1,.int .i64 1,.bool true,.bool true,pr c 7,pr c 10,.int .i64 0,.bool true,.bool true,.bool true,pr wp 0,pr wp 0,pr wp 0,pr q.p 0,pr v.op 0,pr c 2,.string y.key,.string y.rp.val,pr c 7,pr c 12,.bool y.rp.has,pr wp 0,pr wp 0,pr wp 1,.slice (some ⟨I,0,none⟩) d lc,.int .i64 (j:Int),pr I j,.int .i64 (lo:Int),pr c 5,.int .i64 (y.too:Int),.bool true,.bool false,.bool false] (fun _ W=>Sp (AM c (caC y) 87::BF 87 13 (.slice (some ⟨g,0,none⟩) d P) d (rows caC S.log)::Bo q.p v S B++AM wp (R4 q mt) 53::BF 3 1 q.lv low.length (ints (low.map Int.ofNat))::BF 9 1 q.kv 8 Ei::R) W) ?cstart (.s ?c0<|.s ?c1<|.s ?c2<|.s ?c3<|.s ?c4<|.s ?c5<|.s ?c6<|.s ?c7<|.s ?c8<|.s ?c9<|.s ?c10<|.s ?c11<|.s ?c12<|.s ?c13<|.s ?c14<|.s ?c15<|.s ?c16<|.s ?c17<|.s ?c18<|.s ?c19<|.s ?c20<|.s ?c21<|.s ?c22<|.s ?c23<|.s ?c24<|.s ?c25<|.s ?c26<|.s ?c27<|.s ?c28<|.s ?c29<|.s ?c30<|.s ?c31<|.s ?c32<|.nil) ?cfin
    case cstart=>exact M.out.drew
    case cfin=>
     intro L w7 f F;have H7:=h_ (f.drop);clear f F;simp[Al,Act.put];go_wp2
     go_roundw
     ·exact⟨j+1,by simp,by have:=D.out.2;omega,by rw[am.out]at*;exact H7.out⟩
     ·simp only[intOf];have:=D.out.2;omega
    all_goals
     intro L xv W f Q Z V Y b T K' U;have K:=h_ f;have m:=f.blk;have z1:W.cell? ⟨c,1,none⟩=some (.int .i64 1):=by rw[m.cell];show some (Value.int .i64 (y.op:Int))=_;rw[C.out.2.2.2];rfl
     have ak:W.cell? ⟨c,10,none⟩=some (.int .i64 0):=by rw[m.cell];show some (Value.int .i64 (y.rp.err:Int))=_;rw[HE.out.1];rfl
     have z2:W.cell? ⟨c,2,none⟩=some (.string y.key):=m.cell 2;have al:W.cell? ⟨c,12,none⟩=some (.bool y.rp.has):=m.cell 12;have z5:W.cell? ⟨c,5,none⟩=some (.int .i64 (y.too:Int)):=m.cell 5;have d0:W.cell? ⟨wp,0,none⟩=some (pr q.p 0):=(f.pull 8).blk.cell 0;have d1:W.cell? ⟨wp,1,none⟩=some (.slice (some ⟨I,0,none⟩) d lc):=by rw[(f.pull 8).blk.cell 1];show some q.lv=_;rw[r.out.2.2.2.2.2,←G.out.2]
     have l0:W.cell? ⟨I,j,none⟩=some (.int .i64 (lo:Int)):=by have aa:=(f.pull 9).row;rw[r.out.2.2.2.2.2]at aa;rw[Cg aa j (by rw[FC,←G.out.2];exact D.out.2)];unfold ints;rw[AN,AN,E.out.2.1];rfl
     have J:=D.out.1;clear f m;simp at Y;simp only[Al,Act.put,A8,A7,A6,Y]at T;subst T
    case c14=>clear Q Z V;go_simp;clear z1 ak z2 al z5 d0 d1 l0 J;have ho:=U1 (K.out.pull 2).blk;unfold pt at ho;refine ho.mono ?_;rintro e w3 ⟨rfl,rfl⟩;go_simp;exact U _ _ rfl K.out
    case c30=>clear Q Z V;go_simp;clear z1 ak z2 al z5 d0 d1 l0 J;refine(TS (K.out.pull 4) y.key y.rp.val E.out.2.2.key y.rp.has lo y.too E.out.2.2.lo_.1 E.out.2.2.lo_.2).mono ?_;rintro e w3 ⟨rfl,N⟩;have H3:=h_ (N.push 4);clear N;rw[HE.out.2];go_simp;exact U _ _ rfl H3.out
    all_goals clear Q Z V;go_simp;exact U _ _ rfl K.out
   ·have HE:=h_ O
    have qe:¬(y.rp.err:Int)=0:=by omega
    have aj:((y.rp.err:Int)==0)=false:=by simpa using O
    have an:=h_2 qe aj;clear O qe aj;refine wK (A:=[0,1,3,7,15,31,63,127,255,511,1023,2047,4095,8191,16383,1023,33791,1023,1023,263167,787455,1023,2098175,6292479,14681087,1023,65012735,132121599,1023,268436479,1073741823,2147483647,4294967295]) 0 [pr c 1,.int .i64 1,.bool true,.bool true,pr c 7,pr c 10,.int .i64 (y.rp.err:Int),.bool false,.bool false,.bool false,undef,undef,undef,undef,undef,undef,undef,undef,undef,undef,undef,undef,undef,undef,undef,undef,undef,undef,undef,undef,undef,undef,.bool false] (fun _ W=>Sp (AM c (caC y) 87::BF 87 13 (.slice (some ⟨g,0,none⟩) d P) d (rows caC S.log)::Bo q.p v S B++AM wp (R4 q mt) 53::BF 3 1 q.lv low.length (ints (low.map Int.ofNat))::BF 9 1 q.kv 8 Ei::R) W) ?dstart (.s ?d0<|.s ?d1<|.s ?d2<|.s ?d3<|.s ?d4<|.s ?d5<|.s ?d6<|.s ?d7<|.s ?d8<|.s ?d9<|.s ?d10<|.s ?d11<|.s ?d12<|.s ?d13<|.s ?d14<|.s ?d15<|.s ?d16<|.s ?d17<|.s ?d18<|.s ?d19<|.s ?d20<|.s ?d21<|.s ?d22<|.s ?d23<|.s ?d24<|.s ?d25<|.s ?d26<|.s ?d27<|.s ?d28<|.s ?d29<|.s ?d30<|.s ?d31<|.s ?d32<|.nil) ?dfin
    case dstart=>exact M.out.drew
    case dfin=>
     intro L w7 f F;have H7:=h_ (f.drop);clear f F;simp[Al,Act.put];go_wp2
     go_roundw
     ·exact⟨j+1,by simp,by have:=D.out.2;omega,by rw[am.out]at*;exact H7.out⟩
     ·simp only[intOf];have:=D.out.2;omega
    all_goals
     intro L xv W f Q Z V Y b T K' U;clear Q Z V;have K:=h_ f;have m:=f.blk;have z1:W.cell? ⟨c,1,none⟩=some (.int .i64 1):=by rw[m.cell];show some (Value.int .i64 (y.op:Int))=_;rw[C.out.2.2.2];rfl
     have ak:W.cell? ⟨c,10,none⟩=some (.int .i64 (y.rp.err:Int)):=by rw[m.cell];show some (Value.int .i64 (y.rp.err:Int))=_;rfl
     have z2:W.cell? ⟨c,2,none⟩=some (.string y.key):=m.cell 2;have al:W.cell? ⟨c,12,none⟩=some (.bool y.rp.has):=m.cell 12;have z5:W.cell? ⟨c,5,none⟩=some (.int .i64 (y.too:Int)):=m.cell 5;have d0:W.cell? ⟨wp,0,none⟩=some (pr q.p 0):=(f.pull 8).blk.cell 0;have d1:W.cell? ⟨wp,1,none⟩=some (.slice (some ⟨I,0,none⟩) d lc):=by rw[(f.pull 8).blk.cell 1];show some q.lv=_;rw[r.out.2.2.2.2.2,←G.out.2]
     have l0:W.cell? ⟨I,j,none⟩=some (.int .i64 (lo:Int)):=by have aa:=(f.pull 9).row;rw[r.out.2.2.2.2.2]at aa;rw[Cg aa j (by rw[FC,←G.out.2];exact D.out.2)];unfold ints;rw[AN,AN,E.out.2.1];rfl
     have J:=D.out.1;clear f m;have qe:=an.out.1;have aj:=an.out.2;simp at Y;simp only[Al,Act.put,A8,A7,A6,Y]at T;subst T;go_simp;exact U _ _ rfl K.out
  ·have ar:y.done=false:=by simpa using X
   have C:=h_ ar;clear X ar
   go_wp2_with (first|(refine Bc rfl 87 _ rfl g (j*13) rfl (caC y) _ ao.out Tryz.underlying87 rfl (by rfl) ?_)|(refine AS rfl _ _ _ rfl wr.heap.size M3 (caC y) 87 rfl rfl ac.out.blk rfl Y7 (J7 y) ?_;intro t o ab;have hs:=ae.out t o ab;have z6:t.cell? ⟨wr.heap.size,6,none⟩=some (.bool false):=(by rw[o.cell];show some (Value.bool y.done)=_;rw[C.out]);have M:=h_ hs;clear hs o ab)|fail)
   go_roundw
   ·exact⟨j+1,by simp,by omega,M.out.drop⟩
   ·simp only[intOf];omega
 ·have he:j=d:=by omega
  subst he;have J:¬(j:Int)<(j:Int):=by omega
  have a7:decide (j<j)=false:=Ak (by omega);clear z H4;go_wp2;go_ret;exact⟨rfl,r.out.2.2.1 _ HR.out.drop⟩
end
def oldA (w0:World):As:=⟨fun F w=>F=List.range w0.heap.size∧Keep [] w0 w,fun⟨hF,h⟩ k c=>⟨hF,h.then k (fun q b d=>absurd (by rw[hF];exact List.mem_range.2 d) (c q b))⟩,fun⟨hF,h⟩ q b=>by rw[hF]at b;exact AW (List.mem_range.1 b) h.size⟩
theorem Sp.old (w:World):Sp [oldA w] w:=⟨List.range w.heap.size,List.range w.heap.size,[],(AE _).symm,⟨rfl,By _ _⟩,rfl,by simp⟩
section
variable {R:List As} {w w' w0:World} {v:ClV} {S S':Cl} {B B' wp a i p:Nat} {low:List Nat} {mt:List Value}
theorem Sp.oldK (h:Sp (oldA w0::R) w):Keep [] w0 w:=by obtain⟨F,hF,_⟩:=h.one;exact hF.2
theorem IF (h:Sp (CN p S B::R) w)(d:1≤a∧a≤5):∃o,(Calls Tryz.prog 19 #[pt p,.int .i64 (a:Int)] w fun e w'=>e=.returned (Cu o)∧w'=w)∧(S.nodes a=none→o=none)∧(∀n,S.nodes a=some n→∃b,o=some b):=by
 obtain⟨v,k,h⟩:=h.cls;refine⟨v.nd a,IE h.blk d,fun f=> ?_,fun n f=> ?_⟩
 ·have j:Sp (CW v S B::AM p (BW v S.made) 104::CI v.np S.net::FI v.op S.onow S.org::F9 v.lp S.log::C0 v.cp v.cdv v.ccv S.c S.cc B S.cd::R) w:=h.pull 5
  exact((j.slotOut d).slotDown f).1
 ·obtain⟨x,g,_⟩:=h.ndOut d f
  exact⟨_,g⟩
theorem Om (h:Sp (CN p S B::R) w):∃o,(Calls Tryz.prog 61 #[pt p] w fun e w'=>e=.returned (Cu o)∧w'=w)∧(∀c,S.c=some c→∃b,o=some b):=by obtain⟨v,j,h⟩:=h.cls;refine⟨v.cp,RV h.blk,fun c f=> ?_⟩;obtain⟨g,d,_⟩:=h.auOut f;exact⟨_,d⟩
theorem Oh (h:Sp (CN p S B::R) w):
  Calls Tryz.prog 51 #[pt p,.agg (BC 0 0 0 ⟨#[]⟩ ⟨#[]⟩ false (.slice none 0 0)).toArray] w fun e w'=>e=.returned (.int .i64 1)∧Sp (CN p S B::R) w':=by
 obtain⟨s,b⟩:∃s,s=BC 0 0 0 ⟨#[]⟩ ⟨#[]⟩ false (.slice none 0 0):=⟨_,rfl⟩;have c:=h.still ((By _ _).alloc (.cells s.toArray 39));have d:Blk (w.alloc (.cells s.toArray 39)) w.heap.size s 39:=BY _ _ _;have g:(w.alloc (.cells s.toArray 39)).cell? ⟨w.heap.size,0,none⟩=some (.int .i64 0):=by rw[d.cell,b];rfl
 have f:=h_ c;rw[←b];unfold pt;clear h c d b;go_enter FB,ES;go_wp2;go_ret;exact⟨rfl,f.out⟩
end
def Q0:Bool:=match Ee 3 (Cl.make [1])with
 |none=>false
 |some S1=>LT (S1.set kS vS) 1 kS&&(MF ((S1.set kS vS).call 1 1 kS) 1 0&&(decide (S1.log.length=0∧S1.onow=0∧((S1.set kS vS).call 1 1 kS).log.length =1∧(((S1.set kS vS).call 1 1 kS).read 1 0).log.length =1)&&(JL (((S1.set kS vS).call 1 1 kS).read 1 0) [0]&&(match(((S1.set kS vS).call 1 1 kS).read 1 0).log[0]? with
  |some c=>c.done&&decide (c.rp.val=vS)
  |none=>false))))
set_option maxRecDepth 1000000 in
theorem U8:Q0=true:=by decide+kernel
theorem U7:∃a d e:Cl,Ee 3 (Cl.make [1])=some a∧d=(a.set kS vS).call 1 1 kS∧e=d.read 1 0∧LT (a.set kS vS) 1 kS=true∧MF d 1 0=true∧a.log.length=0∧a.onow=0∧d.log.length=1∧e.log.length=1∧JL e [0]=true∧∃c,e.log[0]?=some c∧c.done=true∧c.rp.val=vS:=by
 have h:=U8;unfold Q0 at h
 split at h
 ·cases h
 ·rename_i a hS1
  simp only[Ar,A0]at h;obtain⟨f,g,⟨i,j,k,l⟩,m,b⟩:=h;refine⟨a,_,_,hS1,rfl,rfl,f,g,i,j,k,l,m, ?_⟩
  split at b
  ·rename_i c hc
   simp only[Ar,A0]at b;exact⟨c,hc,b.1,b.2⟩
  ·cases b
section
variable {R:List As} {w w':World}
theorem Oo (h:Sp R w):Calls Tryz.prog 46 #[] w fun e w'=>e=.returned (.bool true)∧Sp R w':=by
 obtain⟨f,S2,S3,r1,r2,r3,M,N,l1,o1,l2,l3,ag,c,X,Y,Z⟩:=U7;have O:=(h.alloc [.int .i64 1] 3).le (B:=BF 3 1 (.slice (some ⟨w.heap.size,0,none⟩) 1 1) 1 [.int .i64 1]) (fun F W h=>⟨h.1,Yy (spare:=[]) (by rw[AE];exact h.2) rfl (Av _) rfl (by decide) (AA _)⟩);have v:=h_ (VN (mem:=[1]) O (by decide) (by simp) (by simp) (by simp));have b:=h_ (Aa r1 (Aa r2 (Aa r3 (Aa M (Aa N (Aa l1 (Aa o1 (Aa l2 (Aa l3 (Aa ag (Aa X (Aa Y Z))))))))))));unfold pt at v;clear h O r1 r2 r3 M N l1 o1 l2 l3 ag X Y Z;go_enter Tryz.func46,Tryz.ntmps46;go_wp2_with fail;refine v.out.mono ?_;rintro e w2 ⟨K,rfl,A⟩;obtain⟨q,al,s⟩:=A.lw;have t:w2.cell? ⟨K,0,none⟩=some (pr q.p 0):=s.blk.cell 0;obtain⟨n1,ac,_,am⟩:=IF (a:=1) (s.pull 1) (by omega);obtain⟨x1,rfl⟩:=am _ rfl;obtain⟨n2,ad,ah,_⟩:=IF (a:=2) (s.pull 1) (by omega);have e2:=ah rfl;subst e2;obtain⟨n3,ae,ai⟩:=Om (s.pull 1);obtain⟨x3,rfl⟩:=ai (Au.new [1]) rfl;have x:=h_ (MU (n:=3) A b.out.1 (by omega) (by omega) rfl (by simp));have j:=h_3 ac ad ae;unfold pt Cu at j;unfold pt at x;clear s A ah ai ac ad ae v al;go_wp2_with fail;refine j.out.1.mono ?_;rintro e J ⟨rfl,rfl⟩;go_wp2_with fail;refine j.out.2.1.mono ?_;rintro e J ⟨rfl,rfl⟩;go_wp2_with fail;refine j.out.2.2.mono ?_;rintro e J ⟨rfl,rfl⟩;clear j;go_wp2_with fail;refine x.out.mono ?_;rintro e J ⟨rfl,Q⟩;have aj:=P7 (a:=0) (i:=0) (key:=kS) (val:=vS) (c:=0) Q (by decide) (by decide) (fun p W L r=>setA (kv:= .slice none 0 0) r (by rw[b.out.2.2.2.2.2.2.1];omega) (by decide) (by decide)) (by show f.log.length≠_;rw[b.out.2.2.2.2.2.1];simp) ⟨by show f.log.length≤_;rw[b.out.2.2.2.2.2.1];omega,by simp⟩;have d:=h_ aj;unfold BC pt at d;clear Q aj t x;go_wp2_with fail;refine d.out.mono ?_;rintro e w4 ⟨rfl,S⟩
 have af:∀c∈(f.set kS vS).log,c.op=1:=by have:(f.set kS vS).log =[]:=List.length_eq_zero_iff.1 b.out.2.2.2.2.2.1;rw[this];simp
 have D:=Kg (S':=(f.set kS vS).call 1 1 kS) (a:=1) (i:=0) (key:=kS) (c:=0) S (by decide) af (fun p W L r=>getA r b.out.2.2.2.1 (by omega)) (by rw[←b.out.2.1];exact b.out.2.2.2.2.2.2.2.1) ⟨by show f.log.length≤_;rw[b.out.2.2.2.2.2.1];omega,by simp⟩;rw[←b.out.2.1]at D;have d:=h_ D;unfold BC pt at d;clear S af D;go_wp2_with fail;refine d.out.mono ?_;rintro e w5 ⟨rfl,T⟩;have H:=J0 (a:=1) (i:=0) (key:=⟨#[]⟩) (c:=0) T (by decide) (fun p W L r=>XY r b.out.2.2.2.2.1 (by omega)) (by rw[←b.out.2.2.1,b.out.2.2.2.2.2.2.2.2.1];simp) ⟨by rw[←b.out.2.2.1,b.out.2.2.2.2.2.2.2.2.1];omega,by simp⟩;rw[←b.out.2.2.1]at H;have d:=h_ H;unfold BC pt at d;clear T H;go_wp2_with fail;refine d.out.mono ?_;rintro e w6 ⟨rfl,U⟩;obtain⟨q6,ab,E⟩:=U.lw;have t:w6.cell? ⟨K,0,none⟩=some (pr q6.p 0):=E.blk.cell 0;obtain⟨lp,aa,V⟩:=Er (E.pull 1);have m:=h_3 aa (V w6 (By _ _)) ab;unfold pt at m;clear aa V E U d ab;go_wp2_with fail;refine m.out.1.mono ?_;rintro e w7 ⟨rfl,rfl⟩;go_wp2_with fail;refine m.out.2.1.mono ?_;rintro e w8 ⟨u,rfl,C⟩;obtain⟨g,cap,hu,_,_,I,_,_⟩:=Cq (k:=13) CX C.row b.out.2.2.2.2.2.2.2.2.2.2.1
 have c6:w8.cell? ⟨g,6,none⟩=some (.bool true):=by have:=I 6 (.bool c.done) rfl;rw[b.out.2.2.2.2.2.2.2.2.2.2.2.1]at this;simpa using this
 have c11:w8.cell? ⟨g,11,none⟩=some (.string ⟨#[118]⟩):=by have:=I 11 (.string c.rp.val) rfl;rw[b.out.2.2.2.2.2.2.2.2.2.2.2.2]at this;simpa[vS]using this
 rw[b.out.2.2.2.2.2.2.2.2.1]at hu;have o:=Y5 (mt:=JA) q6 m.out.2.2 (C.sel (l:=[_,_,_,_,_]) [2,1,3,4,0] 5 rfl rfl);have y:=h_ (VM o b.out.2.2.2.2.2.2.2.2.2.1);unfold pt at y;subst hu;clear C o I m t;go_wp2_with fail;refine y.out.mono ?_;rintro e w9 ⟨rfl,o⟩;obtain⟨q9,an,G⟩:=o.lw;have t:w9.cell? ⟨K,0,none⟩=some (pr q9.p 0):=G.blk.cell 0;have z:=h_ (Oh (G.pull 1));unfold BC pt at z;clear o G y c6 c11;go_wp2_with fail;refine z.out.mono ?_;rintro e ao ⟨rfl,P⟩;have ak:=h_ (Sp.dropL (l:=[_,_,_,_,_]) P);clear P z;go_wp2;go_ret;exact⟨rfl,ak.out⟩
end
def Gt (tp wp:Nat)(S:Cl)(low:List Nat)(mt:List Value)(B:Nat)(ok:Bool):As:=ED [AM tp [pt wp,.bool ok] 33,Hi wp S low mt B]
section
variable {R:List As} {w w':World} {S S':Cl} {B B' tp wp a i n:Nat} {low low':List Nat} {mt:List Value} {nv:Value} {mem:List Nat} {s:List Value}
theorem To (h:Sp R w):Calls Tryz.prog 6 #[] w fun e w'=>e=.returned (.bool true)∧Sp R w':=by
 have H:=h_ h;clear h;go_enter Tryz.func6,Tryz.ntmps6;go_wp2_with fail
 have d:Calls Tryz.prog 26 #[] w fun e w'=>e=.returned (.bool true)∧Sp R w':=by go_enter Tryz.func26,Tryz.ntmps26;go_wp2_with fail;refine(Oo H.out).mono ?_;rintro e f ⟨rfl,b⟩;have c:=h_ b;clear b;go_wp2;go_ret;exact⟨rfl,c.out⟩
 refine d.mono ?_;rintro e f ⟨rfl,b⟩;have c:=h_ b;clear b;go_wp2;go_ret;exact⟨rfl,c.out⟩
theorem KV (h:Sp (Gt tp wp S low mt B true::R) w)(l:Ee n S=some S')(f:B+1000*n≤700000)(k:n≤1000)(j:S.log.length=low.length)(g:low.length≤90000):
  Calls Tryz.prog 17 #[pt tp,.int .i64 (n:Int)] w fun e w'=>e=.returned (.tuple #[])∧Sp (Gt tp wp S' low mt (B+1000*n) true::R) w':=by
 have b:Sp (AM tp [pt wp,.bool true] 33::Hi wp S low mt B::R) w:=h.open_;have o:w.cell? ⟨tp,0,none⟩=some (pr wp 0):=b.blk.cell 0;have p:w.cell? ⟨tp,1,none⟩=some (.bool true):=b.blk.cell 1;have c:=h_ (MU (b.pull 1) l f k j g);unfold pt at*;clear h b l f k j g;go_enter Tryz.func17,Tryz.ntmps17;go_wp2_with fail;refine c.out.mono ?_;rintro e q ⟨rfl,d⟩;have m:=h_ d;clear d c;go_wp2
 go_end0
 exact⟨rfl,DV [_,_] (m.out.push 1)⟩
theorem UV (h:Sp (BF 3 1 nv mem.length (ints (mem.map Int.ofNat))::R) w)(o:nodesOk (mem.map Int.ofNat)=true)(l:∀a∈mem,1≤a∧a≤5)(j:mem.length≤5)(m:mem.Nodup)(p:Ee 3 (Cl.make mem)=some S'):
  Calls Tryz.prog 8 #[nv] w fun e w'=>∃tp wp,e=.returned (pt tp)∧Sp (Gt tp wp S' [] JA 3000 true::R) w':=by
 have d:=h_2 (VN h o l j m) p;unfold pt at*;clear h o l j m p;go_enter Tryz.func8,Tryz.ntmps8;go_wp2_with fail;refine d.out.1.mono ?_;rintro e r ⟨wp,rfl,f⟩;have b:=f.alloc [pt wp,.bool true] 33;have g:Sp (Gt r.heap.size wp (Cl.make mem) [] JA 0 true::R) _:=DV [_,_] b;have k:(Cl.make mem).log.length =([]:List Nat).length :=by rw[Cl.make_eq,IV];rfl
 have c:=h_ (KV (n:=3) g d.out.2 (by omega) (by omega) k (by simp));unfold pt at c;clear f b g k;go_wp2_with fail;refine c.out.mono ?_;rintro e t ⟨rfl,b⟩;have q:=h_ b;clear b c;go_wp2;go_ret;exact⟨_,wp,rfl,q.out⟩
theorem top_stepX {X:As}(h:Sp (Gt tp wp S low mt B true::X::R) w)(J:s.length=7)(I:∀v∈s,v.oneCell'=true)
  (G:∀(W:World) (D:List As),Sp (Hi wp S low mt B::X::D) W→Calls Tryz.prog 32 #[pt wp,.agg s.toArray] W fun e w'=>e=.returned (.int .i64 0)∧Sp (Hi wp S' low' mt B'::X::D) w'):
  Calls Tryz.prog 16 #[pt tp,.agg s.toArray] w fun e w'=>e=.returned (.tuple #[])∧Sp (Gt tp wp S' low' mt B' true::X::R) w':=by
 have E:Sp (AM tp [pt wp,.bool true] 33::Hi wp S low mt B::X::R) w:=h.open_;have F:Sp (AM w.heap.size s 39::AM tp [pt wp,.bool true] 33::Hi wp S low mt B::X::R) (w.alloc (.cells s.toArray 39)):=E.alloc s 39;have p:=h_ F;have C:=h_3 G J I;unfold pt;clear h E F G J I;go_enter Tryz.func16,Tryz.ntmps16;go_wp2_with fail;obtain⟨r,x⟩:∃b,b=w.heap.size:=⟨_,rfl⟩;obtain⟨N,z⟩:∃N,N=w.alloc (.cells s.toArray 39):=⟨_,rfl⟩;rw[←x,←z]at p;rw[←x,←z];clear x z;refine wK (A:=[0,1,3,7,15,31,63,127,255,31,1023,2047,4095]) 1024 [pr tp 0,pr tp 0,pr tp 1,.bool true,.bool true,pr tp 0,pr tp 0,pr tp 0,pr wp 0,.agg s.toArray,.int .i64 0,.bool false,.bool false] (fun L W=>Sp (AM r s 39::AM tp [pt wp,.bool true] 33::(if L 10=true then Hi wp S' low' mt B' else Hi wp S low mt B)::X::R) W) ?mstart (.s ?m0<|.s ?m1<|.s ?m2<|.s ?m3<|.s ?m4<|.s ?m5<|.s ?m6<|.s ?m7<|.s ?m8<|.s ?m9<|.t ?m10<|.s ?m11<|.s ?m12<|.nil) ?mfin
 case mstart=>exact p.out.drew
 case mfin=>
  intro L O c H;rw[H 10 (by decide) (by decide)]at c;have f:Sp (Hi wp S' low' mt B'::AM r s 39::AM tp [pt wp,.bool true] 33::X::R) O:=c.pull 2;have q:=h_ ((f.pull 1).drop);clear c H f p;simp[Al,Act.put];go_wp2
  go_end0
  exact⟨rfl,DV [_,_] (q.out.push 1)⟩
 case m10=>intro L T W c Q k o m j b g P l;clear k o m;have d:=h_ c;have K:W.cell? ⟨tp,0,none⟩=some (pr wp 0):=(c.pull 1).blk.cell 0;have M:W.cell? ⟨tp,1,none⟩=some (.bool true):=(c.pull 1).blk.cell 1;clear c;simp at j;simp only[Al,Act.put,A8,A7,A6,j]at g;subst g;go_simp;clear K M;have u:=d.out;rw[Q]at u;have y:=C.out.1 W _ ((u.pull 3).pull 3);unfold pt at y;refine y.mono ?_;rintro e O ⟨rfl,f⟩;have q:=h_ ((f.push 3).push 3);clear u f y;go_simp;exact l _ _ rfl q.out
 all_goals intro L T W c k o m j b g P l;have d:=h_ c;have K:W.cell? ⟨tp,0,none⟩=some (pr wp 0):=(c.pull 1).blk.cell 0;have M:W.cell? ⟨tp,1,none⟩=some (.bool true):=(c.pull 1).blk.cell 1;clear c;simp at j;simp only[Al,Act.put,A8,A7,A6,j]at g;subst g
 case m9=>clear k o m;refine Cb 39 _ rfl r (by rfl) 39 s.toArray (0,0) _ d.out.blk Dk rfl (by rw[C2,C.out.2.1];exact Y0) (by rfl) ?_;exact l _ _ rfl d.out
 all_goals clear k o m;go_simp;exact l _ _ rfl d.out
theorem Ib (h:Sp (Gt tp wp S low mt B true::R) w)(j:s.length=7)(g:∀v∈s,v.oneCell'=true)
  (f:∀(W:World) (b:List As),Sp (Hi wp S low mt B::b) W→Calls Tryz.prog 32 #[pt wp,.agg s.toArray] W fun e w'=>e=.returned (.int .i64 0)∧Sp (Hi wp S' low' mt B'::b) w'):
  Calls Tryz.prog 16 #[pt tp,.agg s.toArray] w fun e w'=>e=.returned (.tuple #[])∧Sp (Gt tp wp S' low' mt B' true::R) w':=by
 refine(top_stepX (X:=ED []) (h.nilA.push 1) j g (fun W b d=>f W (ED []::b) d)).mono ?_;rintro e w' ⟨rfl,c⟩;exact⟨rfl,(c.pull 1).drop⟩
end
def FF (S:Cl)(a:Nat):Nat:=((List.range (a-1)).map (fun i=>S.nReads (i+1))).sum
theorem N9 (S:Cl)(a:Nat)(b:1≤a):FF S (a+1)=FF S a+S.nReads a:=by
 unfold FF;have e:a+1-1=(a-1)+1:=by omega
 rw[e,Ft,AL,List.sum_append];simp only[Br,Cy,List.sum_cons,List.sum_nil,Nat.add_zero];rw[show a-1+1=a by omega]
theorem OQ (S:Cl):FF S 6=S.reads:=by unfold FF Cl.reads;simp[Ft]
def fewReads (S:Cl):Bool:=[1,2,3,4,5].all (fun a=>decide (S.nReads a≤1000))
theorem Kk {S:Cl}(h:fewReads S=true){a:Nat}(b:1≤a∧a≤5):S.nReads a≤1000:=by unfold fewReads at h;simp only[Cr,A0]at h;exact h a (by rcases(by omega:a=1∨a=2∨a=3∨a=4∨a=5)with rfl|rfl|rfl|rfl|rfl<;>simp)
section
variable {R:List As} {w w':World} {S S':Cl} {B B' tp wp a i n p:Nat} {low low':List Nat} {mt:List Value} {nd:Nd}
theorem Tb (h:Sp (CN p S B::R) w)(d:1≤a∧a≤5)(g:S.nodes a=some nd)(z:nd.reads.length≤1000):∃b,(Calls Tryz.prog 19 #[pt p,.int .i64 (a:Int)] w fun e w'=>e=.returned (pt b)∧w'=w)∧
  Calls Tryz.prog 37 #[pt b] w fun e w'=>∃u,e=.returned u∧Sp (BF 9 1 u nd.reads.length (Ow nd.reads)::CN p S B::R) w':=by
 obtain⟨v,A,h⟩:=h.cls;have k:=IE h.blk d;have q:Sp (CW v S B::AM p (BW v S.made) 104::CI v.np S.net::FI v.op S.onow S.org::F9 v.lp S.log::C0 v.cp v.cdv v.ccv S.c S.cc B S.cd::R) w:=h.pull 5;obtain⟨x,f,l,m,o,r⟩:=(q.slotOut d).slotUp g;rw[f]at k;refine⟨x.nb,k, ?_⟩;refine(Pr r z).mono ?_;rintro e w' ⟨u,rfl,s,_⟩;have t:Sp (CJ x nd B::AF x.cb (S.clk a)::Dh v S B a::AM p (BW v S.made) 104::CI v.np S.net::FI v.op S.onow S.org::F9 v.lp S.log::C0 v.cp v.cdv v.ccv S.c S.cc B S.cd::BF 9 1 u nd.reads.length (Ow nd.reads)::R) w':=s.push 8;have y:=(t.slotUpI f l m g rfl o).slotIn d (Av B) (fun j C=>⟨rfl,rfl,rfl,rfl,rfl,rfl,rfl⟩);exact⟨u,rfl,(Yu v A (y.push 5)).pull 1⟩
theorem Tn {ok:Bool}(h:Sp (Gt tp wp S low mt B ok::R) w)(F:fewReads S=true):
  Calls Tryz.prog 36 #[pt tp] w fun e w'=>e=.returned (.int .i64 (S.reads:Int))∧Sp (Gt tp wp S low mt B ok::R) w':=by
 have C:Sp (AM tp [pt wp,.bool ok] 33::Hi wp S low mt B::R) w:=h.open_;obtain⟨q,G,D⟩:=((C.pull 1)).lw;have j:Sp (CN q.p S B::AM wp (R4 q mt) 53::AM tp [pt wp,.bool ok] 33::BF 3 1 q.lv low.length (ints (low.map Int.ofNat))::BF 9 1 q.kv 8 Ei::R) w:=D.sel (l:=[_,_,_,_,_]) [1,0,4,2,3] 5 rfl rfl
 have E:∀W,Sp (CN q.p S B::AM wp (R4 q mt) 53::AM tp [pt wp,.bool ok] 33::BF 3 1 q.lv low.length (ints (low.map Int.ofNat))::BF 9 1 q.kv 8 Ei::R) W→Sp (Gt tp wp S low mt B ok::R) W:=fun W Q=>DV [_,_] ((Y5 q G (Q.sel (l:=[_,_,_,_,_]) [1,0,3,4,2] 5 rfl rfl)).push 1)
 have r:=h_ j;have y:=h_2 E F;unfold pt;clear h C D j E F G;go_enter Tryz.func36,Tryz.ntmps36;go_wp2
 go_loopw [3,4] (fun Y Z wr=>∃a:Nat,Y=.int .i64 (FF S a:Int)∧Z=.int .i64 (a:Int)∧1≤a∧a≤6∧FF S a≤1000*a∧Sp (CN q.p S B::AM wp (R4 q mt) 53::AM tp [pt wp,.bool ok] 33::BF 3 1 q.lv low.length (ints (low.map Int.ofNat))::BF 9 1 q.kv 8 Ei::R) wr) (fun _ x _=>7-(intOf x).toNat)
 case atStart=>exact⟨1,rfl,rfl,Av _,by omega,by simp[FF],r.out⟩
 case round=>
 obtain⟨a,rfl,rfl,s,aa,U,d⟩:=hrel;have z:=h_ d;by_cases t:a≤5
 ·have X:(a:Int)≤5:=by omega
  have N:wr.cell? ⟨tp,0,none⟩=some (pr wp 0):=(d.pull 2).blk.cell 0;have A:wr.cell? ⟨wp,0,none⟩=some (pr q.p 0):=(d.pull 1).blk.cell 0;have f:=N9 S a s
  cases g:S.nodes a with
  |none=>
   obtain⟨o,k,H,_⟩:=IF d ⟨s,t⟩;rw[H g]at k;have m:S.nReads a=0:=by unfold Cl.nReads;rw[g]
   rw[m,Nat.add_zero]at f;have c:=h_2 k f;unfold pt Cu at c;clear d k H m f r g;go_wp2_with fail;refine c.out.1.mono ?_;rintro e O ⟨rfl,rfl⟩;clear N A;go_wp2
   go_roundw
   ·exact⟨a+1,by rw[c.out.2,Nat.add_zero],by simp,by omega,by omega,by rw[c.out.2];omega,z.out⟩
   ·simp only[intOf];omega
  |some nd=>
   have I:nd.reads.length≤1000:=by have:=Kk y.out.2 ⟨s,t⟩;unfold Cl.nReads at this;rw[g]at this;exact this
   obtain⟨b,k,v⟩:=Tb d ⟨s,t⟩ g I;have m:S.nReads a=nd.reads.length:=by unfold Cl.nReads;rw[g]
   rw[m]at f;obtain⟨L,J⟩:∃L,L=nd.reads.length:=⟨_,rfl⟩;rw[←J]at f v I;obtain⟨M,K⟩:∃M,M=FF S a:=⟨_,rfl⟩;rw[←K]at f U⊢;have c:=h_3 k f v;unfold pt at c;clear d k v m f r g J K;go_wp2_with fail;refine c.out.1.mono ?_;rintro e O ⟨rfl,rfl⟩;go_wp2_with fail;refine c.out.1.mono ?_;rintro e O ⟨rfl,rfl⟩;go_wp2_with fail;refine c.out.2.2.mono ?_;rintro e w3 ⟨u,rfl,j⟩;obtain⟨ua,uc,V⟩:=A4 j.row;subst V;have P:=h_ j.drop;clear j N A;go_wp2
   go_roundw
   ·exact⟨a+1,by rw[c.out.2.1];simp,by simp,by omega,by omega,by rw[c.out.2.1];omega,P.out⟩
   ·simp only[intOf];omega
 ·have T:a=6:=by omega
  subst T;have X:¬(6:Int)≤5:=by omega
  clear d r;go_wp2;go_ret;refine⟨by rw[←OQ];rfl,y.out.1 _ z.out⟩
end
def IA (a:Nat)(S:Cl):Option Cl:=if fewReads S=true then(if 0<S.nReads a then Vt a 0 S else some S)else none
def Il:Nat→Nat→Cl→Option Cl
 |0,_,S=>some S
 |k+1,a,S=>(IA a S).bind (Il k (a+1))
def M1 (rd:Bool):Nat→Cl→Option Cl
 |0,_=>none
 |f+1,S=>(Ez 299 S).bind fun b=>if b.net.isEmpty&&fewReads b then(if rd=false∨b.reads=0 then some b else(Il 5 1 b).bind (M1 rd f))else none
theorem Cl.read_len (S:Cl)(a i:Nat):(S.read a i).log.length =S.log.length:=by
 unfold Cl.read
 split
 ·rfl
 ·split
  ·rfl
  ·rw[YI]
def Y9:=@Cl.read_len
theorem Mo {a:Nat}{S S':Cl}(h:IA a S=some S'):S'.log.length=S.log.length:=by
 unfold IA Vt at h
 split at h
 ·split at h
  ·split at h
   ·injection h with h;rw[←h,Y9]
   ·cases h
  ·injection h with h;rw[h]
 ·cases h
theorem Lm:∀(k a:Nat) {S S':Cl},Il k a S=some S'→S'.log.length=S.log.length
 |0,a,S,S',h=>by injection h with h;rw[h]
 |k+1,a,S,S',h=>by unfold Il at h;obtain⟨e,b,d⟩:=Cc.1 h;rw[Lm k (a+1) d,Mo b]
theorem LY {rd:Bool}{f:Nat}{S S':Cl}(h:M1 rd (f+1) S=some S'):∃b,Ez 299 S=some b∧b.net=[]∧fewReads b=true∧((rd=false∨b.reads=0)∧b=S'∨¬(rd=false∨b.reads=0)∧∃e,Il 5 1 b=some e∧M1 rd f e=some S'):=by
 unfold M1 at h;obtain⟨b,g,d⟩:=Cc.1 h
 split at d
 ·rename_i hc
  simp only[Ar,Ea]at hc;refine⟨b,g,hc.1,hc.2, ?_⟩
  split at d
  ·rename_i hr
   injection d with d;exact .inl ⟨hr,d⟩
  ·rename_i hr
   obtain⟨e,j,k⟩:=Cc.1 d;exact .inr ⟨hr,e,j,k⟩
 ·cases d
theorem Q3 {rd:Bool}:∀(f:Nat) {S S':Cl},M1 rd f S=some S'→S'.log.length=S.log.length
 |0,S,S',h=>by cases h
 |f+1,S,S',h=>by
  obtain⟨j,b,_,_,d⟩:=LY h;rcases d with⟨_,rfl⟩|⟨_,k,e,g⟩
  ·exact Jf _ b
  ·rw[Q3 f g,Lm _ _ e,Jf _ b]
theorem GE {d a n:Nat}{key val:Str}{on:Bool}:∀v∈BC d a n key val on (.slice none 0 0),v.oneCell'=true:=by intro v b;simp only[BC,Ac,Am,AG]at b;rcases b with rfl|rfl|rfl|rfl|rfl|rfl|rfl<;>rfl
theorem stepC_oneK {d a n:Nat}{key val:Str}{on:Bool}{kv:Value}(e:kv.oneCell'=true):∀v∈BC d a n key val on kv,v.oneCell'=true:=by
 intro v b;simp only[BC,Ac,Am,AG]at b;rcases b with rfl|rfl|rfl|rfl|rfl|rfl|rfl
 all_goals first|exact e|rfl
def UT:List Value:=[.int .i64 0,.int .i64 0,.string ⟨#[]⟩,.int .i64 0,.string ⟨#[]⟩,.bool false]
section
variable {R:List As} {w w':World} {S S':Cl} {B B' tp wp a i n p:Nat} {low low':List Nat} {mt:List Value} {nd:Nd} {key:Str} {c:Call}
theorem Sp.top {ok:Bool}(h:Sp (Gt tp wp S low mt B ok::R) w):∃q:LwP,Sp (CN q.p S B::AM wp (R4 q mt) 53::AM tp [pt wp,.bool ok] 33::BF 3 1 q.lv low.length (ints (low.map Int.ofNat))::BF 9 1 q.kv 8 Ei::R) w∧
  ∀W b,Sp (CN q.p S B::AM wp (R4 q mt) 53::AM tp [pt wp,.bool ok] 33::BF 3 1 q.lv low.length (ints (low.map Int.ofNat))::BF 9 1 q.kv 8 Ei::b) W→Sp (Gt tp wp S low mt B ok::b) W:=by
 have d:Sp (AM tp [pt wp,.bool ok] 33::Hi wp S low mt B::R) w:=h.open_;obtain⟨q,g,e⟩:=((d.pull 1)).lw;exact⟨q,e.sel (l:=[_,_,_,_,_]) [1,0,4,2,3] 5 rfl rfl,fun W b f=>DV [_,_] ((Y5 q g (f.sel (l:=[_,_,_,_,_]) [1,0,3,4,2] 5 rfl rfl)).push 1)⟩
theorem Sp.topMono {ok:Bool}(h:Sp (Gt tp wp S low mt B ok::R) w)(d:B≤B'):Sp (Gt tp wp S low mt B' ok::R) w:=by have b:Sp (AM tp [pt wp,.bool ok] 33::Hi wp S low mt B::R) w:=h.open_;exact DV [_,_] (((b.pull 1).lwMono d).push 1)
end
theorem Tryz.sizeReply:(Tryz.prog.info? 43).map (·.size)=some 6:=by kernel_rfl
section
variable {R:List As} {w w':World} {S S':Cl} {B B' tp wp a i n p:Nat} {low low':List Nat} {mt:List Value} {nd:Nd} {key:Str} {c:Call}
theorem WV (h:Sp (Gt tp wp S low mt B true::R) w)(hk:key.size≤45)(br:LT S a key=true)(b4:∀c∈S.log,c.op=1)(cf:S.log.length=low.length)(ad:low.length≤9000)
  (ar:(S.call 1 a key).log.length =low.length+1) (a9:M1 true 20 (S.call 1 a key)=some S') (hc:S'.log[low.length]?=some c) (Y:B+20000≤700000):
  Calls Tryz.prog 18 #[pt tp,.int .i64 7,.int .i64 (a:Int),.string key,.bool true] w fun e w'=>e=.returned (.tuple #[.agg (rpC c.rp).toArray,.bool c.done])∧Sp (Gt tp wp S' (low++[0]) mt (B+20000) true::R) w':=by
 have h1:=(h.alloc UT 43).push 1;have h1:Sp (Gt tp wp S low mt B true::AM w.heap.size UT 43::R) (w.alloc (.cells UT.toArray 43)):=h1;have K:=Ib (s:=BC 7 a 0 key ⟨#[]⟩ false (.slice none 0 0)) h1 rfl GE (fun W R' T=>Kg (S':=S.call 1 a key) (c:=0) T hk b4 (fun p W R' T=>getA T br (by omega)) ar ⟨by omega,by omega⟩);have ag:=h_ K;have bz:S'.log.length=low.length+1:=by rw[Q3 _ a9,ar]
 have HQ:=h_6 a9 hc Y ar bz ad;unfold BC pt at ag;unfold pt;clear h h1 hk br b4 cf ad ar a9 hc Y K bz;go_enter Tryz.func18,Tryz.ntmps18;go_wp2_with fail;refine ag.out.mono ?_;rintro e w2 ⟨rfl,h2⟩;obtain⟨q,z,P⟩:=h2.top;have Q:w2.cell? ⟨tp,0,none⟩=some (pr wp 0):=(z.pull 2).blk.cell 0;have t1:w2.cell? ⟨tp,1,none⟩=some (.bool true):=(z.pull 2).blk.cell 1;have H:w2.cell? ⟨wp,0,none⟩=some (pr q.p 0):=(z.pull 1).blk.cell 0;obtain⟨lp,ao,am⟩:=Er z;have G:=h_3 ao (am w2 (By _ _)) P;obtain⟨E,bq⟩:∃b,b=w.heap.size:=⟨_,rfl⟩;rw[←bq]at G⊢;unfold pt at G;clear ag h2 z P ao am bq;go_wp2_with fail;refine G.out.1.mono ?_;rintro e w3 ⟨rfl,rfl⟩;go_wp2_with fail;refine G.out.2.1.mono ?_;rintro e w4 ⟨u,rfl,I⟩;obtain⟨ua,uc,hu⟩:=A4 I.row;rw[HQ.out.2.2.2.1]at hu;subst hu;obtain⟨U,ad⟩:∃n,n=low.length:=⟨_,rfl⟩;have h5:=G.out.2.2 w4 _ I.drop;obtain⟨H5,HL⟩:=i_2 h5 ad;have cp:U≤9000:=by rw[ad];exact HQ.out.2.2.2.2.2
 rw[←ad];clear I h5 G Q t1 H ad;go_wp2
 go_loopw [13] (fun cl wr=>∃(Si:Cl) (i:Nat),cl=.int .i64 (i:Int)∧i≤19∧M1 true (20-i) Si=some S'∧Si.log.length=U+1∧Sp (Gt tp wp Si (low++[0]) mt (B+2+700*i) true::AM E UT 43::R) wr) (fun x _=>20-(intOf x).toNat)
 case atStart=>exact⟨_,0,rfl,by omega,HQ.out.1,by rw[HQ.out.2.2.2.1,HL.out],by simpa using H5.out⟩
 case round=>
 obtain⟨Si,i,rfl,hi,a1,b1,J⟩:=hrel;obtain⟨f,hf⟩:∃f,20-i=f+1:=⟨19-i,by omega⟩;rw[hf]at a1;obtain⟨S1,bt,bu,bv,bw⟩:=LY a1;have HA:=h_6 bt bu bv bw hf b1;have HR:=h_ J;have q0:(i:Int)<20:=by omega
 clear a1 bt bu bv bw hf b1 J H5
 rename World=>wo
 go_wp2
 go_loopw [14] (fun cm wr=>∃(m:Cl) (k:Nat),cm=.int .i64 (k:Int)∧k≤299∧Ez (299-k) m=some S1∧m.log.length=U+1∧Sp (Gt tp wp m (low++[0]) mt (B+2+700*i+2*k) true::AM E UT 43::R) wr) (fun x _=>300-(intOf x).toNat)
 case atStart=>exact⟨Si,0,rfl,AA _,HA.out.1,HA.out.2.2.2.2.2,by simpa using HR.out⟩
 case round=>
 obtain⟨m,k,rfl,hk,ac,a3,J⟩:=hrel;obtain⟨q,z,P⟩:=J.top;have Q:wr.cell? ⟨tp,0,none⟩=some (pr wp 0):=(z.pull 2).blk.cell 0;have H:wr.cell? ⟨wp,0,none⟩=some (pr q.p 0):=(z.pull 1).blk.cell 0;obtain⟨np,b2,b0⟩:=Qr z;have HN:=h_2 b2 b0;have HR:=h_ J;unfold pt at HN;have q1:(k:Int)<300:=by omega
 have ci:decide ((k:Int)<300)=true:=An q1;clear J z P b2 b0;go_wp2_with fail;refine HN.out.1.mono ?_;rintro e w5 ⟨rfl,rfl⟩;go_wp2_with fail;refine HN.out.2.mono ?_;rintro e w5 ⟨rfl,rfl⟩;clear HN;by_cases Z:m.net=[]
 ·have ce:=LN ac Z
  subst ce;have q2:(m.net.length:Int)=0:=by rw[Z];rfl
  have cj:¬(0:Int)<(m.net.length:Int):=by omega
  have cb:decide (0<m.net.length)=false:=Ak (by omega);have al:=Tn HR.out HA.out.2.2.1;unfold pt at al;have bb:=h_ al;clear HR ac Z Q H al;go_wp2_with fail;refine bb.out.mono ?_;rintro e w6 ⟨rfl,h6⟩;have H6:=h_ h6;clear h6 bb q2 cj cb q1 ci;have ay:B+2+700*i+2*k≤B+20000:=by omega
  by_cases hz:m.reads=0
  ·have cd:m=S':=by
    rcases HA.out.2.2.2.1 with⟨_,h⟩|⟨h,_⟩
    ·exact h
    ·exact absurd (.inr hz) h
   subst cd;obtain⟨q,z,P⟩:=(H6.out.topMono ay).top;have Q:w6.cell? ⟨tp,0,none⟩=some (pr wp 0):=(z.pull 2).blk.cell 0;have H:w6.cell? ⟨wp,0,none⟩=some (pr q.p 0):=(z.pull 1).blk.cell 0;obtain⟨lp,ao,am⟩:=Er z;have G:=h_3 ao (am w6 (By _ _)) P;have qz:(m.reads:Int)=0:=by omega
   unfold pt at G;clear z P ao am H6 ay hz;go_wp2_with fail;refine G.out.1.mono ?_;rintro e w7 ⟨rfl,rfl⟩;go_wp2_with fail;refine G.out.2.1.mono ?_;rintro e w8 ⟨u,rfl,X⟩;have bs:m.log[U]?=some c:=by rw[HL.out];exact HQ.out.2.1
   obtain⟨g,cap,hu,_,_,b7,_,_⟩:=Cq (k:=13) CX X.row bs;rw[show m.log.length=U+1 from a3]at hu;subst hu;have b9:=(G.out.2.2 w8 _ X.drop).alloc M3 87;obtain⟨ax,bc⟩:=i_2 b9 b7;clear X b7 b9 Q H bs qz
   go_wp2_with (first|(refine Bc rfl 87 _ rfl g (U*13) rfl (caC c) _ bc.out Tryz.underlying87 rfl (by rfl) ?_)|(refine AS rfl _ _ _ rfl w8.heap.size M3 (caC c) 87 rfl rfl ax.out.blk rfl Y7 (J7 c) ?_;intro ct bl ca;have hs:=ax.out.set bl ca;have HW:=h_ hs;clear hs bl ca)|fail)
   obtain⟨j,bp⟩:∃b,b=w8.heap.size:=⟨_,rfl⟩;rw[←bp]at HW⊢;clear bp ax bc G;have cc:=h_ (HW.out.sel (l:=[_,_,_]) [0,2,1] 3 rfl rfl);clear HW;refine wK (A:=[0,1,0,4,3,31]) 16 [pr j 7,.agg (rpC c.rp).toArray,pr j 6,.bool c.done,undef,.bool c.done] (fun L W=>Sp (AM j (caC c) 87::AM E (if L 4=true then rpC c.rp else UT) 43::Gt tp wp m (low++[0]) mt (B+20000) true::R) W) ?mstart (.s ?m0<|.s ?m1<|.s ?m2<|.s ?m3<|.t ?m4<|.s ?m5<|.nil) ?mfin
   case mstart=>exact cc.out.drew
   case mfin=>
    intro L ae O hd;rw[hd 4 (by decide) (by decide)]at O;have N:Sp (AM j (caC c) 87::AM E (rpC c.rp) 43::Gt tp wp m (low++[0]) mt (B+20000) true::R) ae:=O;have d:=(N.pull 1).blk;have H:ae.cell? ⟨E,0,none⟩=some (.int .i64 (c.rp.id:Int)):=d.cell 0;have d1:ae.cell? ⟨E,1,none⟩=some (.int .i64 (c.rp.op:Int)):=d.cell 1;have d2:ae.cell? ⟨E,2,none⟩=some (.string c.rp.key):=d.cell 2;have d3:ae.cell? ⟨E,3,none⟩=some (.int .i64 (c.rp.err:Int)):=d.cell 3;have d4:ae.cell? ⟨E,4,none⟩=some (.string c.rp.val):=d.cell 4;have d5:ae.cell? ⟨E,5,none⟩=some (.bool c.rp.has):=d.cell 5;have M:=h_ (N.drop.drop);clear O hd N d;simp[Al,Act.put]
    first
     |refine Be (v:= .tuple #[.agg (rpC c.rp).toArray,.bool c.done]) ?_ rfl ⟨rfl,M.out⟩
     |(go_wp2_with fail;refine Be (v:= .tuple #[.agg (rpC c.rp).toArray,.bool c.done]) ?_ rfl ⟨rfl,M.out⟩)
    simp[results,Tryz.results18,go_sem,H,d1,d2,d3,d4,d5,rpC]
   case m4=>intro L xv W O hl hA a5 hN an b Y K' az;clear hA a5 hN;have av:=h_ O;have d:=O.blk;have f6:W.cell? ⟨j,6,none⟩=some (.bool c.done):=d.cell 6;have f7:W.cell? ⟨j,7,none⟩=some (.int .i64 (c.rp.id:Int)):=d.cell 7;have f8:W.cell? ⟨j,7+1,none⟩=some (.int .i64 (c.rp.op:Int)):=d.cell 8;have f9:W.cell? ⟨j,7+2,none⟩=some (.string c.rp.key):=d.cell 9;have bd:W.cell? ⟨j,7+3,none⟩=some (.int .i64 (c.rp.err:Int)):=d.cell 10;have bf:W.cell? ⟨j,7+4,none⟩=some (.string c.rp.val):=d.cell 11;have bh:W.cell? ⟨j,7+5,none⟩=some (.bool c.rp.has):=d.cell 12;have bj:W.cell? ⟨j,8,none⟩=some (.int .i64 (c.rp.op:Int)):=d.cell 8;have bk:W.cell? ⟨j,9,none⟩=some (.string c.rp.key):=d.cell 9;have be:W.cell? ⟨j,10,none⟩=some (.int .i64 (c.rp.err:Int)):=d.cell 10;have bg:W.cell? ⟨j,11,none⟩=some (.string c.rp.val):=d.cell 11;have bi:W.cell? ⟨j,12,none⟩=some (.bool c.rp.has):=d.cell 12;clear O d;simp at an;simp only[Al,Act.put,A8,A7,A6,an]at Y;subst Y;clear f6 f7 f8 f9 bd bf bh bj bk be bg bi;have V:=av.out;rw[hl]at V;have H0:=h_ V;clear V;refine Eu rfl _ _ _ rfl E UT (rpC c.rp) 43 rfl rfl (H0.out.pull 1).blk rfl Tryz.sizeReply (N8 c.rp) ?_;intro w3 bo k3;have H3:=h_ (((H0.out.pull 1).set bo k3).push 1);clear bo k3;exact az _ _ rfl H3.out
   all_goals intro L xv W O hA a5 hN an b Y K' az;clear hA a5 hN;have av:=h_ O;have d:=O.blk;have f6:W.cell? ⟨j,6,none⟩=some (.bool c.done):=d.cell 6;have f7:W.cell? ⟨j,7,none⟩=some (.int .i64 (c.rp.id:Int)):=d.cell 7;have f8:W.cell? ⟨j,7+1,none⟩=some (.int .i64 (c.rp.op:Int)):=d.cell 8;have f9:W.cell? ⟨j,7+2,none⟩=some (.string c.rp.key):=d.cell 9;have bd:W.cell? ⟨j,7+3,none⟩=some (.int .i64 (c.rp.err:Int)):=d.cell 10;have bf:W.cell? ⟨j,7+4,none⟩=some (.string c.rp.val):=d.cell 11;have bh:W.cell? ⟨j,7+5,none⟩=some (.bool c.rp.has):=d.cell 12;have bj:W.cell? ⟨j,8,none⟩=some (.int .i64 (c.rp.op:Int)):=d.cell 8;have bk:W.cell? ⟨j,9,none⟩=some (.string c.rp.key):=d.cell 9;have be:W.cell? ⟨j,10,none⟩=some (.int .i64 (c.rp.err:Int)):=d.cell 10;have bg:W.cell? ⟨j,11,none⟩=some (.string c.rp.val):=d.cell 11;have bi:W.cell? ⟨j,12,none⟩=some (.bool c.rp.has):=d.cell 12;clear O d;simp at an;simp only[Al,Act.put,A8,A7,A6,an]at Y;subst Y;go_simp;exact az _ _ rfl av.out
  ·obtain⟨S2,b6,a6⟩:∃S2,Il 5 1 m=some S2∧M1 true f S2=some S':=by
    rcases HA.out.2.2.2.1 with⟨h,_⟩|⟨_,h⟩
    ·rcases h with h|h
     ·cases h
     ·exact absurd h hz
    ·exact h
   have bx:i+1≤19∧f=20-(i+1):=by
    have:=HA.out.2.2.2.2.1;refine⟨?_,by omega⟩;rcases F5 f with h|h
    ·subst h;cases a6
    ·omega
   have qz:¬(m.reads:Int)=0:=by omega
   have ck:((m.reads:Int)==0)=false:=by simpa using hz
   have af:=h_4 b6 a6 bx a3;clear b6 a6 bx ay hz
   rename World=>wo2
   go_wp2_with fail;clear qz ck
   go_loopw [15] (fun cn wr=>∃(C:Cl) (r:Nat),cn=.int .i64 (r:Int)∧1≤r∧r≤6∧Il (6-r) r C=some S2∧C.log.length=U+1∧Sp (Gt tp wp C (low++[0]) mt (B+2+700*i+600+2*r) true::AM E UT 43::R) wr) (fun x _=>7-(intOf x).toNat)
   case atStart=>exact⟨m,1,rfl,Av _,by omega,af.out.1,af.out.2.2.2,H6.out.topMono (by omega)⟩
   case round=>
   obtain⟨C,r,rfl,a0,co,aa,aj,J⟩:=hrel;have ba:=h_ J;by_cases a4:r≤5
   ·have q0:(r:Int)≤5:=by omega
    obtain⟨k2,ah⟩:∃k2,6-r=k2+1:=⟨5-r,by omega⟩;rw[ah]at aa;unfold Il at aa;obtain⟨Sb,y,F⟩:=Cc.1 aa;have ai:k2=6-(r+1):=by omega
    rw[ai]at F;unfold IA at y
    have aq:fewReads C=true:=by
     split at y
     ·assumption
     ·cases y
    rw[Ay aq]at y;obtain⟨q,z,P⟩:=J.top;have Q:wr.cell? ⟨tp,0,none⟩=some (pr wp 0):=(z.pull 2).blk.cell 0;have H:wr.cell? ⟨wp,0,none⟩=some (pr q.p 0):=(z.pull 1).blk.cell 0
    cases hn:C.nodes r with
    |none=>
     obtain⟨o,ho,b3,_⟩:=IF z ⟨a0,a4⟩;rw[b3 hn]at ho;have V:C.nReads r=0:=by unfold Cl.nReads;rw[hn]
     rw[Aw (by omega)]at y;have ab:C=Sb:=by injection y
     subst ab;have D:=h_3 ho F aj;unfold pt Cu at D;clear J z P ho b3 V y F aa hn ah ai aj aq;go_wp2_with fail;refine D.out.1.mono ?_;rintro e w7 ⟨rfl,rfl⟩;clear Q H;go_wp2
     go_roundw
     ·exact⟨C,r+1,by simp,by omega,by omega,D.out.2.1,D.out.2.2,ba.out.topMono (by omega)⟩
     ·simp only[intOf];omega
    |some nd=>
     have al:nd.reads.length≤1000:=by have:=Kk aq ⟨a0,a4⟩;unfold Cl.nReads at this;rw[hn]at this;exact this
     obtain⟨b,ho,a8⟩:=Tb z ⟨a0,a4⟩ hn al;have V:C.nReads r=nd.reads.length:=by unfold Cl.nReads;rw[hn]
     rw[V]at y;obtain⟨rl,b8⟩:∃rl,rl=nd.reads.length:=⟨_,rfl⟩;rw[←b8]at y a8 al;have D:=h_5 ho F a8 P y;have ap:=h_ aj;unfold pt at D;clear J z P ho a8 V y F aa hn b8 ah ai aj aq;go_wp2_with fail;refine D.out.1.mono ?_;rintro e w7 ⟨rfl,rfl⟩;go_wp2_with fail;refine D.out.1.mono ?_;rintro e w7 ⟨rfl,rfl⟩;go_wp2_with fail;refine D.out.2.2.1.mono ?_;rintro e w8 ⟨u,rfl,X⟩;obtain⟨cr,cs,ch⟩:=A4 X.row;subst ch;have N:=D.out.2.2.2.1 w8 _ X.drop;by_cases ak:0<rl
     ·have q3:(0:Int)<(rl:Int):=by omega
      have cq:decide (0<rl)=true:=An ak;have y:=D.out.2.2.2.2;rw[Ay ak]at y;unfold Vt at y
      have a7:MF C r 0=true:=by
       split at y
       ·assumption
       ·cases y
      rw[Ay a7]at y;have ab:C.read r 0=Sb:=by injection y
      have K:=Ib (s:=BC 5 r 0 ⟨#[]⟩ ⟨#[]⟩ false (.slice none 0 0)) N rfl GE (fun W R' T=>J0 (S':=C.read r 0) (a:=r) (i:=0) (key:=⟨#[]⟩) (c:=0) T (by decide) (fun p W R' T=>XY T a7 (by have:=HQ.out.2.2.1;omega)) (by rw[Y9,ap.out,Aj,List.length_singleton,←HL.out];omega) (by rw[Y9,ap.out,Aj,List.length_singleton,←HL.out];omega));have a2:(C.read r 0).log.length =U+1:=by rw[Y9,ap.out]
      rw[ab]at K a2;unfold BC pt at K;have ag:=h_2 K a2;clear X N y a7 ab K a2 Q H;go_wp2_with fail;refine ag.out.1.mono ?_;rintro e w9 ⟨rfl,N⟩;have M:=h_ (N.topMono (B':=B+2+700*i+600+2*(r+1)) (by omega));clear N;go_wp2
      go_roundw
      ·exact⟨Sb,r+1,by simp,by omega,by omega,D.out.2.1,ag.out.2,M.out⟩
      ·simp only[intOf];omega
     ·have cg:rl=0:=by omega
      subst cg;have y:=D.out.2.2.2.2;rw[Aw (by omega)]at y;have ab:C=Sb:=by injection y
      have F:=D.out.2.1;rw[←ab]at F;have M:=h_2 (N.topMono (B':=B+2+700*i+600+2*(r+1)) (by omega)) F;clear X N y ab F Q H ak;go_wp2
      go_roundw
      ·exact⟨C,r+1,by simp,by omega,by omega,M.out.2,ap.out,M.out.1⟩
      ·simp only[intOf];omega
   ·have he:r=6:=by omega
    subst he
    have bn:C=S2:=by rw[C8]at aa;injection aa
    have q0:¬(6:Int)≤5:=by omega
    have I:=af.out.2.1;rw[af.out.2.2.1.2,←bn]at I;have M:=h_3 (ba.out.topMono (B':=B+2+700*(i+1)) (by omega)) I aj;clear J aa bn I aj;go_wp2
    go_roundw
    ·exact⟨C,i+1,by simp,af.out.2.2.1.1,M.out.2.1,M.out.2.2,M.out.1⟩
    ·simp only[intOf];have:=af.out.2.2.1.1;omega
 ·have ak:0<m.net.length:=Cs.2 Z
  have q2:(0:Int)<(m.net.length:Int):=by omega
  have cb:decide (0<m.net.length)=true:=An ak
  have ah:k≠299:=by
   rintro rfl;rw[C8]at ac;have:m=S1:=by injection ac
   rw[this]at Z;exact Z HA.out.2.1
  obtain⟨k2,ah⟩:∃k2,299-k=k2+1:=⟨298-k,by omega⟩;rw[ah]at ac;obtain⟨y,F⟩:=Km ac Z;have ai:k2=299-(k+1):=by omega
  rw[ai]at F;have bm:B+2+700*i+2*k≤790000:=by have:=HQ.out.2.2.1;omega
  have au:(m.sendAt 0).log.length =U+1:=by rw[YD,a3]
  have b5:Sp (AM tp [pt wp,.bool true] 33::Hi wp m (low++[0]) mt (B+2+700*i+2*k)::AM E UT 43::R) _:=HR.out.open_;have K:=Jz (a:=0) (i:=0) (key:=⟨#[]⟩) (c:=0) (b5.pull 1) (by decide) (fun p W R' T=>XW T y bm) (by rw[au,Aj,List.length_singleton,←HL.out];omega) (by rw[au,Aj,List.length_singleton,←HL.out];omega);unfold BC at K;unfold pt at K;have aw:=h_3 K F au;clear K y F au bm ai ac Z ak HR b5;go_wp2_with fail;refine aw.out.1.mono ?_;rintro e w4 ⟨rfl,I⟩;have I:Sp (Gt tp wp (m.sendAt 0) (low++[0]) mt (B+2+700*i+2*(k+1)) true::AM E UT 43::R) w4:=DV [_,_] (I.push 1);have H4:=h_ I;clear I H Q;go_wp2
  go_roundw
  ·exact⟨m.sendAt 0,k+1,by simp,by omega,aw.out.2.1,aw.out.2.2,H4.out⟩
  ·simp only[intOf];omega
end
abbrev Mta:=Nat×Nat×Nat×Bool
def mtaC (m:Mta):List Value:=[.int .i64 (m.1:Int),.int .i64 (m.2.1:Int),.int .i64 (m.2.2.1:Int),.bool m.2.2.2]
def metasC (f:Nat→Mta):List Value:=mtaC (f 0)++(mtaC (f 1)++(mtaC (f 2)++(mtaC (f 3)++(mtaC (f 4)++mtaC (f 5)))))
def mtaZ:Nat→Mta:=fun _=>(0,0,0,false)
theorem metasC_len (f:Nat→Mta):(metasC f).length =24:=rfl
def Nd.mta (n:Nd):Mta:=(n.dk.boot,n.dk.epoch,n.dk.ready,n.dk.frozen)
def keyN (i:Nat):Str:=⟨#[(97+i).toUInt8]⟩
theorem lwKeys_at (i:Nat)(a:i<8):Ei[i]?=some (.string (keyN i)):=by
 match i,a with
 |0,_=>rfl
 |1,_=>rfl
 |2,_=>rfl
 |3,_=>rfl
 |4,_=>rfl
 |5,_=>rfl
 |6,_=>rfl
 |7,_=>rfl
def serveAt (S:Cl)(key:Str)(a:Nat):Nat:=match S.nodes a with|none=>0|some n=>if n.serves (S.clk a) key=true then 1 else 0
def serveTo (S:Cl)(key:Str):Nat→Nat
 |0=>0
 |a+1=>serveTo S key a+serveAt S key (a+1)
theorem serveAt_le (S:Cl)(key:Str)(a:Nat):serveAt S key a≤1:=by
 unfold serveAt
 split
 ·omega
 ·split<;>omega
theorem serveTo_le (S:Cl)(key:Str):∀a,serveTo S key a≤a
 |0=>Av _
 |a+1=>by have:=serveTo_le S key a;have:=serveAt_le S key (a+1);unfold serveTo;omega
def updA (f:Nat→Mta)(S:Cl)(a:Nat):Nat→Mta:=match S.nodes a with|none=>f|some n=>Ej f a n.mta
def updTo (f:Nat→Mta)(S:Cl):Nat→Nat→Mta
 |0=>f
 |a+1=>updA (updTo f S a) S (a+1)
def oneB (S:Cl)(f:Nat→Mta):Bool:=(List.range 8).all (fun i=>decide (serveTo S (keyN i) 5≤1))&& [1,2,3,4,5].all (fun a=>match S.nodes a with|none=>true|some n=>decide ((f a).1 ≤n.dk.boot∧(f a).2.1 ≤n.dk.epoch∧n.dk.ready=0∧n.dk.frozen=false))
theorem oneB_key {S:Cl}{f:Nat→Mta}(h:oneB S f=true){i:Nat}(a:i<8):serveTo S (keyN i) 5≤1:=by unfold oneB at h;simp only[Ar,Cr,A0,List.mem_range]at h;exact h.1 i a
theorem oneB_at {S:Cl}{f:Nat→Mta}(h:oneB S f=true){a:Nat}(d:1≤a∧a≤5){n:Nd}(c:S.nodes a=some n):(f a).1 ≤n.dk.boot∧(f a).2.1 ≤n.dk.epoch∧n.dk.ready=0∧n.dk.frozen=false:=by unfold oneB at h;simp only[Ar,Cr]at h;have b:=h.2 a (by rcases(by omega:a=1∨a=2∨a=3∨a=4∨a=5)with rfl|rfl|rfl|rfl|rfl<;>simp);rw[c]at b;simpa using b
theorem updTo_at (f:Nat→Mta)(S:Cl):∀(k a:Nat),k<a→updTo f S k a=f a
 |0,a,_=>rfl
 |k+1,a,h=>by
  unfold updTo updA;have:=updTo_at f S k a (by omega)
  cases b:S.nodes (k+1)with
  |none=>exact this
  |some n=>show Ej (updTo f S k) (k+1) n.mta a=f a;rw[Di _ _ _ (by omega)];exact this
section
variable {R Q:List As} {X:As} {w w' w0:World} {v:ClV} {S:Cl} {B a p i:Nat} {key val:Str} {on:Bool} {kv:Value} {c:Int}
theorem cl_Step_crashX (h:Sp (Bo p v S B++X::R) w)
  (l:∀(W:World) (j:List As),Sp (Bo p v S B++X::j) W→Calls Tryz.prog 74 #[pt p,.int .i64 (a:Int),kv] W fun e w'=>e=.returned (.int .i64 c)∧Sp (Q++X::j) w'):
  Calls Tryz.prog 51 #[pt p,.agg (BC 9 a i key val on kv).toArray] w fun e w'=>e=.returned (.int .i64 c)∧Sp (Q++X::R) w':=by
 obtain⟨s,b⟩:∃s,s=BC 9 a i key val on kv:=⟨_,rfl⟩;have f:Sp (Bo p v S B++X::AM w.heap.size s 39::R) (w.alloc (.cells s.toArray 39)):=(h.alloc s 39).push 7;have d:=(f.pull 7).blk;have n:(w.alloc (.cells s.toArray 39)).cell? ⟨w.heap.size,0,none⟩=some (.int .i64 9):=by rw[d.cell,b];rfl
 have o:(w.alloc (.cells s.toArray 39)).cell? ⟨w.heap.size,1,none⟩=some (.int .i64 (a:Int)):=by rw[d.cell,b];rfl
 have q:(w.alloc (.cells s.toArray 39)).cell? ⟨w.heap.size,6,none⟩=some (kv):=by rw[d.cell,b];rfl
 have g:=h_ (l _ _ f);rw[←b];unfold pt at*;clear h f d l b;go_enter FB,ES;go_wp2_with fail;refine g.out.mono ?_;rintro e r ⟨rfl,k⟩;have m:=h_ k;clear k g n o q;go_wp2;go_ret;exact⟨rfl,(((DV Q m.out).pull 2).drop).open_⟩
theorem fallK (h:Sp (CN p S B::oldA w0::R) w)(b:SX S=true){keep:List Bool}(j:Rv w0 1 kv keep.length (WA keep))(g:keep.length≤1000):Calls Tryz.prog 51 #[pt p,.agg (BC 9 0 i key val on kv).toArray] w fun e w'=>e=.returned (.int .i64 0)∧Sp (CN p (S.crash 0) B::oldA w0::R) w':=by
 obtain⟨v,l,h⟩:=h.cls;unfold SX at b;rcases hc:S.c with _|c
 ·rw[hc]at b;cases b
 ·rw[hc]at b
  refine(cl_Step_crashX (Q:=[CN p (S.crash 0) B]) (X:=oldA w0) (a:=0) (c:=0) h (fun W n d=> ?_));have k:Rv W 1 kv keep.length (WA keep):=j.keep ((d.pull 6).oldK) (by simp);refine(cl_crash_auK d hc (by simpa using b) k g).mono ?_;rintro e w' ⟨rfl,m,f⟩;exact⟨rfl,Yu m l f⟩
end
end Go.Proofs.YtnhbioehiiifdaaGreat
