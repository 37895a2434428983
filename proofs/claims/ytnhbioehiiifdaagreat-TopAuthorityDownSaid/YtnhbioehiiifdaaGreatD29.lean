import Derived.Test.YtnhbioehiiifdaaGreatD26
import Derived.Test.YtnhbioehiiifdaaGreatD27
import Derived.Test.YtnhbioehiiifdaaGreatD28
set_option maxRecDepth 100000
set_option maxHeartbeats 16000000
set_option linter.all false
namespace Go.Proofs.YtnhbioehiiifdaaGreat
open Go.ChangeShapes Go.WideShapes Go.ChangeAt Go.RowKit
section
variable {R:List As} {w w' w0:World} {S S' S2 S8 S9:Cl} {B B' tp wp a i n k:Nat} {low:List Nat} {mt:List Value} {nd:Nd} {c:Call} {X:As}
theorem top_fallK (h:Sp (Gt tp wp S low mt B true::oldA w0::R) w)(f:SX S=true){keep:List Bool}{ka:Option Addr}{kc:Nat}(g:Rv w0 1 (.slice ka keep.length kc) keep.length (WA keep))(j:keep.length≤4)(m:S.log.length=low.length)(l:low.length≤1000):
  Calls Tryz.prog 16 #[pt tp,.agg (BC 9 0 0 ⟨#[]⟩ ⟨#[]⟩ false (.slice ka keep.length kc)).toArray] w fun e w'=>e=.returned (.tuple #[])∧Sp (Gt tp wp (S.crash 0) low mt B true::oldA w0::R) w':=
 top_stepX h rfl (stepC_oneK rfl) (fun W d b=>lw_Step_lowX (S':=S.crash 0) (a:=0) (i:=0) (key:=⟨#[]⟩) (c:=0) (by decide) (by omega) b (by decide) (fun p W d b=>fallK b f g (by omega)) (by show S.log.length≠_;omega) ⟨by show S.log.length≤_;omega,by omega⟩)
theorem top_riseAu (h:Sp (Gt tp wp S low mt B true::R) w)(g:riseAuB S=true)(f:5≤B)(l:S.log.length=low.length)(j:low.length≤1000):
  Calls Tryz.prog 16 #[pt tp,.agg (BC 10 0 0 ⟨#[]⟩ ⟨#[]⟩ false (.slice none 0 0)).toArray] w fun e w'=>e=.returned (.tuple #[])∧Sp (Gt tp wp S.rise0 low mt B true::R) w':=
 Ib h rfl GE (fun W d b=>NS (S':=S.rise0) (a:=0) (i:=0) (key:=⟨#[]⟩) (c:=0) b (by decide) (fun p W d b=>riseAuA b g f) (by show S.log.length≠_;omega) ⟨by show S.log.length≤_;omega,by omega⟩)
theorem tell_len {rd:Bool}{key val:Str}(b:TellAt rd a i key val S S2 c):S2.log.length=i+1:=by rw[Q3 _ b.run,Cl.call_len b.call,b.len]
theorem tell_get {key val:Str}(h:Sp (Gt tp wp S low mt B true::R) w)(b:TellAt true a i key val S S2 c)(g:key.size≤45)(d:low.length=i)(j:i≤1000)(f:B+20000≤700000):
  Calls Tryz.prog 12 #[pt tp,.int .i64 (a:Int),.string key,.string val] w fun e w'=>e=.returned (.bool true)∧Sp (Gt tp wp S2 (low++[0]) mt (B+20000) true::R) w':=
 top_get h b.told (WV h g b.call b.ops (by rw[b.len,d]) (by omega) (by rw[Cl.call_len b.call,b.len,d]) b.run (by rw[d];exact b.last) f)
theorem tell_warm {key val:Str}(h:Sp (Gt tp wp S low mt B true::R) w)(b:TellAt false a i key val S S2 c)(g:key.size≤45)(d:low.length=i)(j:i≤1000)(f:B+20000≤700000):
  Calls Tryz.prog 13 #[pt tp,.int .i64 (a:Int),.string key,.string val] w fun e w'=>e=.returned (.bool true)∧Sp (Gt tp wp S2 (low++[0]) mt (B+20000) true::R) w':=
 top_warm h b.told (top_ask0 h g b.call b.ops (by rw[b.len,d]) (by omega) (by rw[Cl.call_len b.call,b.len,d]) b.run (by rw[d];exact b.last) f)
theorem topAuthorityDown_walk (x:Int)(v1:Value)(w:World)(w0:(Lit.int .i64 x).wf =true)(w1:∃keep:List Bool,Rv w 1 v1 keep.length (WA keep)∧keep.length≤9223372036854775807):
  Calls Tryz.prog 5 #[.int .i64 x,v1] w fun e w'=>e=.returned (.bool true)∧Below w.heap.size w w':=by
 have hx: -9223372036854775808≤x∧x≤9223372036854775807:=by have hI:II x:=i64_wf w0;unfold II at hI;omega
 obtain⟨keep,ag,m⟩:=w1;obtain⟨_,ka,kc,rfl,ba,_⟩:=id ag;obtain⟨n,hn⟩:∃n,n=JD x 40:=⟨_,rfl⟩;have ad:n≤39:=by have:=Tx x 40 (by omega);omega
 obtain⟨o,S1,S4,c4,r1,o1,l1,t4,f4,aq⟩:=authDown_run;obtain⟨S6,k,S8,S9,nd,c9,r6,A⟩:=aq n ad;obtain⟨own,a0⟩:∃own,own=ownD:=⟨_,rfl⟩;have HB:=h_ (To (Sp.old w));have r:=h_3 hx hn ad;have HV:=h_2 ag m;have f:=h_7 r1 o1 l1 t4 f4 r6 A;have j:=h_2 a0 o;obtain⟨ib,a9,_,bb,_⟩:=AU Tryz.infoB;obtain⟨u,ab⟩:∃u,u=keep.length:=⟨_,rfl⟩;rw[←ab]at HV m⊢;have y:=h_ ab;clear hx hn ad o r1 o1 l1 t4 f4 aq r6 A w0 ag ba a0 ab;go_enter Tryz.func5,Tryz.ntmps5;go_wp2_with fail;refine HB.out.mono ?_;rintro e w2 ⟨rfl,t⟩;have N:=h_ t;have HS:Hid (Calls Tryz.prog 7 #[.int .i64 x,.int .i64 40] w2 fun e w'=>e=.returned (.int .i64 (n:Int))∧w'=w2):=h_ (by rw[r.out.2.1];exact Nq x 40 (by omega) r.out.1);clear t HB;go_wp2_with fail;refine HS.out.mono ?_;rintro e I ⟨rfl,rfl⟩;clear HS;go_upto_if 15 with fail;go_cut [1] (fun s1 wc=>∃(K:Option Addr) (L:Nat) (l:List Bool),s1=.slice K l.length L∧Rv I 1 (.slice K l.length L) l.length (WA l)∧l.length≤4∧I=wc)
 case first=>
  have a2:=HV.out.1.keep N.out.oldK (by simp);have al:=h_ a2;clear a2;by_cases h4:4<u
  ·have q0:(4:Int)<(u:Int):=by omega
   go_wp2_with (refine wpList_slice_to _ _ _ _ _ _ _ 4 ib Tryz.underlying37 a9 bb _ u _ _ 4 rfl rfl rfl al.out (by omega) ?_;intro v6 D o6;obtain⟨_,a6,c6,rfl,_,_⟩:=id D)
   go_meet;have ac:(keep.take 4).length =4:=by rw[Az,←y.out];omega
   refine⟨a6,c6,keep.take 4,by rw[ac], ?_,by rw[ac];omega,rfl⟩;rw[ac];have e:WA (keep.take 4)=(WA keep).take 4:=by unfold WA;rw[List.map_take]
   rw[e];exact D
  ·have q0:¬(4:Int)<(u:Int):=by omega
   go_wp2_with fail;go_meet;exact⟨ka,kc,keep,by rw[y.out],by have:=al.out;rw[y.out]at this;exact this,by have:=y.out;omega,rfl⟩
 case rest=>
 obtain⟨K,L,l,rfl,a3,au,rfl⟩:=hcut;have a8:=h_ N.out.oldK;have V:=h_2 a3 au;clear a3 HV y N m;obtain⟨kl,m⟩:∃kl,kl=l.length:=⟨_,rfl⟩;have O:=h_ m;rw[←m]at V au⊢;clear m;have s:=((Sp.old I).alloc [.int .i64 1,.int .i64 2] 3).le (B:=BF 3 1 (.slice (some ⟨I.heap.size,0,none⟩) 2 2) 2 [.int .i64 1,.int .i64 2]) (fun F W h=>⟨h.1,Yy (spare:=[]) (by rw[AE];exact h.2) rfl (Av _) rfl (by decide) (AA _)⟩);have P:=h_ (UV (mem:=[1,2]) s (by decide) (by simp) (by simp) (by simp) f.out.1);unfold pt at P;clear s;go_wp2_with fail;refine P.out.mono ?_;rintro e w5 ⟨tp,wp,rfl,h5⟩;have g:=top_set (key:=kS) (val:=vS) h5 (by have:=f.out.2.1;omega) (by decide) (by decide) (by rw[f.out.2.2.1];rfl) (by simp);have b:=h_ g;unfold kS vS pt at b;clear h5 g P;go_wp2_with fail;refine b.out.mono ?_;rintro e w6 ⟨rfl,D⟩;have g:=tell_get D f.out.2.2.2.1 (by decide) rfl (by omega) (by omega);have b:=h_ g;unfold pt at b;unfold kS vS at b;clear D g;go_wp2_with fail;refine b.out.mono ?_;rintro e w7 ⟨rfl,h7⟩;have g:=top_fallK (keep:=l) (ka:=K) (kc:=L) h7 f.out.2.2.2.2.1 (by have:=V.out.1;rw[O.out]at this;exact this) (by have:=V.out.2;have:=O.out;omega) (tell_len f.out.2.2.2.1) (by simp);rw[←O.out]at g;have b:=h_ g;unfold BC pt at b;clear h7 g;go_wp2_with fail;refine b.out.mono ?_;rintro e w8 ⟨rfl,h8⟩;have Y:=h_ (KV (n:=n) h8 f.out.2.2.2.2.2.1 (by have:=r.out.2.2;omega) (by have:=r.out.2.2;omega) (by show S4.log.length=1;exact tell_len f.out.2.2.2.1) (by simp));unfold pt at Y;clear h8 b;go_wp2_with fail;refine Y.out.mono ?_;rintro e w9 ⟨rfl,h9⟩;have J:=h9.alloc [.int .i64 1,.int .i64 2] 3;have a1:refOwner (IN (sb kS))=own:=j.out.1.symm;have ae:=topOwner_12 (cap:=2) kS (by decide) (J.blk.cell 0) (J.blk.cell 1);rw[a1]at ae;have Q:=h_ ae;unfold kS at Q;have aj:=h_ J.drop;clear h9 J a1 ae Y;go_wp2_with fail;refine Q.out.mono ?_;rintro e H ⟨rfl,a4⟩;have M:=h_ (aj.out.still a4);clear a4 Q aj;have d:=f.out.2.2.2.2.2.2;have o:1≤own∧own≤5:=by have s:=j.out.1;have t:=j.out.2;rw[←s]at t;omega
 obtain⟨q,E,_⟩:=M.out.top;obtain⟨xn,vn,ay,az,ar⟩:=clNode_rd (a:=own) E o (by rw[j.out.1];exact d.nd);have ah:=JO az ar kS (by decide);rw[j.out.1,d.serves]at ah;have v:H.cell? ⟨tp,0,none⟩=some (pr wp 0):=(E.pull 2).blk.cell 0;have t1:H.cell? ⟨tp,1,none⟩=some (.bool true):=(E.pull 2).blk.cell 1;have d0:H.cell? ⟨wp,0,none⟩=some (pr q.p 0):=(E.pull 1).blk.cell 0;have ax:=ay H (By _ _);have z:=h_2 ax ah;unfold kS at z;unfold pt at z;clear d E ay az ar ah ax o;go_upto_region 14 with fail;go_cut [53] (fun bc wc=>bc=.bool false∧Keep [] H wc)
 case first=>
  go_wp2_with fail;refine z.out.1.mono ?_;rintro e be ⟨rfl,rfl⟩;go_wp2_with fail;refine z.out.2.mono ?_;rintro e bf ⟨rfl,G⟩;by_cases aw:n<20
  ·have q0:(n:Int)<20:=by omega
   rw[An aw];clear v t1 d0;go_wp2_with fail;go_meet;exact⟨rfl,G⟩
  ·have q0:¬(n:Int)<20:=by omega
   rw[Ak aw];clear v t1 d0;go_wp2_with fail;go_meet;exact⟨by rw[Ak (by omega)],G⟩
 case rest=>
 obtain⟨rfl,G⟩:=hcut;have ak:=h_ (M.out.still G);clear G v t1 d0 z M;have d:=f.out.2.2.2.2.2.2;have av:S6.log.length=1:=by rw[roundsC_len _ f.out.2.2.2.2.2.1];show S4.log.length=1;exact tell_len f.out.2.2.2.1
 have b:=h_ (top_riseAu ak.out d.rise (by omega) av (by simp));unfold BC pt at b;clear av ak;go_wp2_with fail;refine b.out.mono ?_;rintro e bg ⟨rfl,am⟩;have U:=h_ (top_rest am d.down d.rest (by have:=d.few;omega) (by have:=d.few;have:=r.out.2.2;omega));unfold pt at U;clear am b;go_wp2_with fail;refine U.out.mono ?_;rintro e bh ⟨rfl,an⟩;have ai:=d.tell;rw[←j.out.1]at ai;have C:=h_ (tell_warm an ai (by decide) rfl (by omega) (by have:=d.few;have:=r.out.2.2;omega));unfold pt at C;unfold kS vS at C;have o:own≤3:=by have s:=j.out.1;have t:=j.out.2;rw[←s]at t;omega
 have q3:(3:Int)-(own:Int)=((3-own:Nat):Int):=by omega
 have HA:=h_2 d.one d.right;clear an ai d U;go_wp2_with fail
 first
  |refine C.out.mono ?_
  |(rw[q3];refine C.out.mono ?_)
 rintro e a5 ⟨rfl,ao⟩;clear q3 o;have af:Sp (AM tp [pt wp,.bool true] 33::Hi wp S9 ([]++[0]++[0]) (metasC mtaZ) (3000+20000+1000*n+400*k+20000)::[oldA I]) a5:=ao.open_;have v:a5.cell? ⟨tp,0,none⟩=some (pr wp 0):=af.blk.cell 0;have T:=h_ (lw_One (af.pull 1) HA.out.1);unfold pt at T;clear ao af C;go_wp2_with fail;refine T.out.mono ?_;rintro e bd ⟨rfl,aa⟩;have v:bd.cell? ⟨tp,0,none⟩=some (pr wp 0):=(aa.pull 1).blk.cell 0;have Z:=h_ (VM aa HA.out.2);unfold pt at Z;clear aa T;go_wp2_with fail;refine Z.out.mono ?_;rintro e bi ⟨rfl,ap⟩;have a7:=h_ (a8.out.trans ((ap.pull 2).oldK));clear ap Z v;go_wp2;go_ret;exact⟨rfl,a7.out.below⟩
end
end Go.Proofs.YtnhbioehiiifdaaGreat
