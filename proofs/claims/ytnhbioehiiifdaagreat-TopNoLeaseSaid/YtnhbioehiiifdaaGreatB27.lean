import Derived.Test.YtnhbioehiiifdaaGreatB25
import Derived.Test.YtnhbioehiiifdaaGreatB26
set_option maxRecDepth 100000
set_option maxHeartbeats 16000000
set_option linter.all false
namespace Go.Proofs.YtnhbioehiiifdaaGreat
open Go.ChangeShapes Go.WideShapes Go.ChangeAt Go.RowKit
def Wj (a b:Disk):Bool:=decide (a.boot=b.boot∧a.epoch=b.epoch∧a.ready=b.ready∧a.frozen=b.frozen∧a.cache=b.cache∧a.jk=b.jk∧a.used=b.used)
theorem Wi {a b:Disk}(h:Wj a b=true):a=b:=by
 unfold Wj at h;simp only[A0]at h;obtain⟨c,d,e,f,g,i,j⟩:=h
 cases a;cases b
 simp_all
structure Nd.Lone (n:Nd):Prop where
 id:n.id=1
 ring:n.ring=none
 msgs:n.msgs=[]
 reps:n.reps=[]
 reads:n.reads=[]
 few:n.dk.cache.length≤15∧n.tlast<100000
 epoch:n.dk.epoch=1
def Nd.loneB (n:Nd):Bool:=decide (n.id=1)&&(n.ring.isNone&&(n.msgs.isEmpty&&(n.reps.isEmpty&&(n.reads.isEmpty&&decide (n.dk.cache.length≤15∧n.tlast<100000∧n.dk.epoch=1)))))
theorem Nd.loneB_ok {n:Nd}(h:n.loneB=true):n.Lone:=by unfold Nd.loneB at h;simp only[Ar,A0,Ea,Option.isNone_iff_eq_none]at h;obtain⟨a,b,c,d,e,f,g,i⟩:=h;exact⟨a,b,c,d,e,⟨f,g⟩,i⟩
def loneB (S:Cl):Bool:=S.net.isEmpty&&(S.log.isEmpty&&(decide (S.onow≤1000)&&(decide (S.reads=0)&&(fewReads S&&(match S.nodes 1 with
 |none=>false
 |some n=>n.loneB)))))
structure LoneCl (S:Cl) (n:Nd):Prop where
 net:S.net=[]
 log:S.log=[]
 now:S.onow≤1000
 reads:S.reads=0
 few:fewReads S=true
 nd:S.nodes 1=some n
 lone:n.Lone
theorem loneB_ok {S:Cl}(h:loneB S=true):∃n,LoneCl S n:=by
 unfold loneB at h;simp only[Ar,A0,Ea]at h;obtain⟨b,c,d,e,f,a⟩:=h
 split at a
 ·cases a
 ·rename_i n hn
  exact⟨n,b,c,d,e,f,hn,Nd.loneB_ok a⟩
def SQ:Nat→Cl→Bool
 |0,S=>loneB S
 |n+1,S=>loneB S&&(match QX S with|none=>false|some S1=>SQ n S1)
theorem P9:∀(m:Nat) (S:Cl),SQ m S=true→∀n,n≤m→∃S',Ee n S=some S'∧loneB S'=true
 |0,S,h,n,hn=>by
  obtain rfl:n=0:=by omega
  exact⟨S,rfl,h⟩
 |m+1,S,h,n,hn=>by
  unfold SQ at h;simp only[Ar]at h;obtain⟨b,a⟩:=h
  cases n with
  |zero=>exact⟨S,rfl,b⟩
  |succ n=>
   split at a
   ·cases a
   ·rename_i S1 hS
    obtain⟨S',c,d⟩:=P9 m S1 a n (by omega);refine⟨S', ?_,d⟩;unfold Ee;rw[hS];exact c
def Pk:Bool:=match Ee 3 (Cl.make [1,2])with
 |none=>false
 |some S1=>SX S1&&(match(S1.crash 0).nodes 1 with
  |none=>false
  |some n1=>Wj ((S1.crash 0).devs 1) n1.dk&&((S1.crash 0).log.isEmpty &&(S8 ((S1.crash 0).crash 1) 1&&SQ 29 (((S1.crash 0).crash 1).start 1))))
set_option maxRecDepth 1000000 in
theorem Rm:Pk=true:=by decide+kernel
theorem Pj (n:Nat)(s:n≤29):∃(a b g i c:Cl) (f j:Nd),Ee 3 (Cl.make [1,2])=some a∧SX a=true∧b=a.crash 0∧b.nodes 1=some f∧b.devs 1=f.dk∧b.log=[]∧g=b.crash 1∧S8 g 1=true∧i=g.start 1∧i.log=[]∧Ee n i=some c∧LoneCl c j:=by
 have h:=Rm;unfold Pk at h
 split at h
 ·cases h
 ·rename_i a hS1
  simp only[Ar]at h;obtain⟨k,d⟩:=h
  split at d
  ·cases d
  ·rename_i f hn1
   simp only[Ar,Ea]at d;obtain⟨l,e,m,o⟩:=d;obtain⟨c,p,q⟩:=P9 29 _ o n s;obtain⟨j,r⟩:=loneB_ok q;refine⟨a,_,_,_,c,f,j,hS1,k,rfl,hn1,Wi l,e,rfl,m,rfl, ?_,p,r⟩;unfold Cl.start;show((a.crash 0).crash 1).log =[];unfold Cl.crash at e⊢;rw[Ay rfl]at e;rw[Aw (by decide),Ay rfl];show List.map _ a.log=[];rw[show a.log=[]from e];rfl
def Hj (key:Str):Rp:=⟨1,1,key,6,se,false⟩
def Fc (S:Cl)(key:Str):Call:={Ml 1 1 key 1 S.onow with done:=true,too:=S.onow,rp:=Hj key}
theorem MW {S:Cl}{n:Nd}{key:Str}(h:LoneCl S n)(l:itKey key=true)(u:key.size≤1000):LT S 1 key=true∧S.call 1 1 key={S.setNd 1 n with log:=[Fc S key]}:=by
 obtain⟨f,g,r,s,t,i,a⟩:=h
 have o:n.ask (S.clk 1) ⟨0,1,1,key⟩={n with reps:=[Hj key]}:=by unfold Nd.ask;rw[Aw (by rw[LA l];simp),Ay (by rw[a.ring];rfl)];unfold Nd.tell;rw[Ay rfl,a.reps];rfl
 have k:(n.ask (S.clk 1) ⟨0,1,1,key⟩).did =(n,[],[Hj key]):=by rw[o];unfold Nd.did;have b:=a.msgs;have c:=a.reps;cases n;simp only at b c;subst b c;rfl
 have j:(S.called 1 1 key).log =[Ml 1 1 key 1 S.onow]:=by unfold Cl.called;rw[g];rfl
 have d:S.log.length=0:=by rw[g];rfl
 have p:DS S.onow [Ml 1 1 key 1 S.onow] (Hj key)=[Fc S key]:=by unfold DS Fc Hj Ml;simp
 refine⟨?_, ?_⟩
 ·unfold LT
  rw[i];simp only[d,AP];rw[k];unfold XP Rj;rw[l,j,a.ring,a.msgs,a.reps,a.reads];have b:(S.called 1 1 key).net =[]:=f;have c:(S.called 1 1 key).onow =S.onow:=rfl;rw[b,c];have q:=a.few;unfold Nb Nb;simp[Hj,Ml];omega
 ·have e:S.call 1 1 key={(S.called 1 1 key).setNd 1 n with net:=(S.called 1 1 key).net ++[],log:=[Hj key].foldl (DS (S.called 1 1 key).onow) (S.called 1 1 key).log }:=by
   have m:=Y3 (S.called 1 1 key) 1 (n,[],[Hj key]) (by show S.net.length+0≤300;rw[f];simp);rw[←m,←k];unfold Cl.call;simp only[i,d,AP];unfold Cl.called;rw[d];rfl
  rw[e,j];show({(S.called 1 1 key).setNd 1 n with net:=S.net++[],log:=DS S.onow [Ml 1 1 key 1 S.onow] (Hj key)}:Cl)=_;rw[p,AE];rfl
theorem VO {S:Cl}{n:Nd}{key:Str}(h:LoneCl S n)(o:itKey key=true)(p:key.size≤1000):M1 true 20 (S.call 1 1 key)=some (S.call 1 1 key):=by
 obtain⟨_,l⟩:=MW h o p;rw[l];obtain⟨k,_,q,c,d,m,r⟩:=h
 have f:∀a,({S.setNd 1 n with log:=[Fc S key]}:Cl).nReads a=S.nReads a:=fun a=>by
  unfold Cl.nReads Cl.setNd;by_cases e:a=1
  ·subst e
   simp only[Da,m]
  ·simp only[Di _ _ _ e]
 have g:({S.setNd 1 n with log:=[Fc S key]}:Cl).reads =0:=by unfold Cl.reads at c⊢;rw[show({S.setNd 1 n with log:=[Fc S key]}:Cl).nReads =S.nReads from funext f];exact c
 have i:fewReads ({S.setNd 1 n with log:=[Fc S key]}:Cl)=true:=by unfold fewReads at d⊢;simp only[f];exact d
 have b:({S.setNd 1 n with log:=[Fc S key]}:Cl).net =[]:=k;unfold M1
 have j:Ez 299 ({S.setNd 1 n with log:=[Fc S key]}:Cl)=some {S.setNd 1 n with log:=[Fc S key]}:=by unfold Ez;rw[b]
 rw[j];show(if(_&&fewReads _)=true then _ else none)=_;rw[i,b];simp only[List.isEmpty_nil,Bool.and_self,D5];rw[Ay (.inr g)]
theorem OI {n:Nd}(h:n.ring=none)(b:1≤n.id)(t:Nat)(key:Str):n.serves t key=false:=by unfold Nd.serves;rw[Ay];left;unfold Nd.own Nd.pts;rw[h];show Eg [] _≠_;unfold Eg;simp;omega
section
variable {R:List As} {w w':World} {S S':Cl} {B B' tp wp a i p:Nat} {low:List Nat} {mt:List Value} {n:Nd} {key:Str} {c:Call}
theorem Wx (h:Sp (CN p S B::R) w)(d:1≤a∧a≤5)(j:S.nodes a=some n):∃(x:NdP) (v:NdV),(∀W,Keep [] w W→Calls Tryz.prog 19 #[pt p,.int .i64 (a:Int)] W fun e w'=>e=.returned (pt x.nb)∧w'=W)∧NdR w x n B v∧IsClock w x.cb (S.clk a:Int):=by obtain⟨v,s,h⟩:=h.cls;have g:Sp (CW v S B::AM p (BW v S.made) 104::CI v.np S.net::FI v.op S.onow S.org::F9 v.lp S.log::C0 v.cp v.cdv v.ccv S.c S.cc B S.cd::R) w:=h.pull 5;obtain⟨x,f,o,q,r,b⟩:=(g.slotOut d).slotUp j;obtain⟨m,l⟩:=b.ndR;refine⟨x,m,fun W k=> ?_,l,(b.pull 1).clock⟩;have:=IE (h.still k).blk d;rw[f]at this;exact this
theorem Kt (x:Int)(key:ByteArray)(w:World)(w0:(Lit.int .i64 x).wf =true)(w1:key.size≤maxLen):
  Calls Tryz.prog 4 #[.int .i64 x,.string key] w fun e w'=>e=.returned (.bool true)∧Below w.heap.size w w':=by
 have hx: -9223372036854775808≤x∧x≤9223372036854775807:=by have hI:II x:=i64_wf w0;unfold II at hI;omega
 have al:key.size≤9223372036854775807:=by unfold maxLen at w1;omega
 obtain⟨n,hn⟩:∃n,n=JD x 30:=⟨_,rfl⟩;have aq:n≤29:=by have:=Tx x 30 (by omega);omega
 have Y:=h_ (To (Sp.old w));have m:=h_4 hx al hn aq;clear w0 w1 hx al hn aq;go_enter Tryz.func4,Tryz.ntmps4;go_wp2_with fail;refine Y.out.mono ?_;rintro e w2 ⟨rfl,h2⟩;have X:=h_ h2;have HS:Hid (Calls Tryz.prog 7 #[.int .i64 x,.int .i64 30] w2 fun e w'=>e=.returned (.int .i64 (n:Int))∧w'=w2):=h_ (by rw[m.out.2.2.1];exact Nq x 30 (by omega) m.out.1);clear h2 Y;go_wp2_with fail;refine HS.out.mono ?_;rintro e w3 ⟨rfl,rfl⟩;have Z:=h_ (Sq (w:=w3) key m.out.2.1 _ rfl);clear HS;go_wp2_with fail;refine Z.out.mono ?_;rintro e w4 ⟨rfl,rfl⟩;clear Z
 cases hk:itKey key with
 |false=>go_wp2;go_ret;exact⟨rfl,X.out.oldK.below⟩
 |true=>
 obtain⟨S1,S2,S3,S4,r,n1,u,r1,f1,e2,ap,ak,an,e3,f3,e4,ao,r5,j⟩:=Pj n m.out.2.2.2;have b:=h_ (Aa r1 (Aa f1 (Aa e2 (Aa ap (Aa ak (Aa an (Aa e3 (Aa f3 (Aa e4 (Aa ao (Aa r5 (Aa j hk))))))))))));have z:=(X.out.alloc [.int .i64 1,.int .i64 2] 3).le (B:=BF 3 1 (.slice (some ⟨w3.heap.size,0,none⟩) 2 2) 2 [.int .i64 1,.int .i64 2]) (fun F W h=>⟨h.1,Yy (spare:=[]) (by rw[AE];exact h.2) rfl (Av _) rfl (by decide) (AA _)⟩);have I:=h_ (UV (mem:=[1,2]) z (by decide) (by simp) (by simp) (by simp) b.out.1);unfold pt at I;clear r1 f1 e2 ap ak an e3 f3 e4 ao r5 j hk z;go_wp2_with fail;refine I.out.mono ?_;rintro e w5 ⟨tp,wp,rfl,h5⟩;have l:=Ib (s:=BC 9 0 0 ⟨#[]⟩ ⟨#[]⟩ false (.slice none 0 0)) h5 rfl GE (fun W y d=>IQ (S':=S2) (a:=0) (i:=0) (key:=⟨#[]⟩) (c:=0) d (by decide) (fun p W y d=>by rw[b.out.2.2.1];exact fallA d b.out.2.1) (by rw[b.out.2.2.2.2.2.1];simp) (by rw[b.out.2.2.2.2.2.1];simp));have g:=h_ l;unfold BC pt at g;clear h5 l I;go_wp2_with fail;refine g.out.mono ?_;rintro e w6 ⟨rfl,h6⟩;have O:S3.log=[]:=by rw[b.out.2.2.2.2.2.2.1];unfold Cl.crash;rw[Aw (by decide)];show List.map _ S2.log=[];rw[b.out.2.2.2.2.2.1];rfl
 have l:=Ib (s:=BC 9 1 0 ⟨#[]⟩ ⟨#[]⟩ false (.slice none 0 0)) h6 rfl GE (fun W y d=>IQ (S':=S3) (a:=1) (i:=0) (key:=⟨#[]⟩) (c:=0) d (by decide) (fun p W y d=>by rw[b.out.2.2.2.2.2.2.1];exact XB d (by omega) b.out.2.2.2.1 b.out.2.2.2.2.1 b.out.2.2.2.2.2.1) (by rw[O];simp) (by rw[O];simp));have g:=h_ l;unfold BC pt at g;clear h6 l O;go_wp2_with fail;refine g.out.mono ?_;rintro e w7 ⟨rfl,h7⟩;have l:=Ib (s:=BC 10 1 0 ⟨#[]⟩ ⟨#[]⟩ false (.slice none 0 0)) h7 rfl GE (fun W y d=>NS (S':=S4) (a:=1) (i:=0) (key:=⟨#[]⟩) (c:=0) d (by decide) (fun p W y d=>by rw[b.out.2.2.2.2.2.2.2.2.1];exact riseA d b.out.2.2.2.2.2.2.2.1 (by omega)) (by rw[b.out.2.2.2.2.2.2.2.2.2.1];simp) (by rw[b.out.2.2.2.2.2.2.2.2.2.1];simp));have g:=h_ l;unfold BC pt at g;clear h7 l;go_wp2_with fail;refine g.out.mono ?_;rintro e w8 ⟨rfl,h8⟩;have K:=h_ (KV (n:=n) h8 b.out.2.2.2.2.2.2.2.2.2.2.1 (by have:=m.out.2.2.2;omega) (by have:=m.out.2.2.2;omega) (by rw[b.out.2.2.2.2.2.2.2.2.2.1];rfl) (by simp));unfold pt at K;clear h8 g;go_wp2_with fail;refine K.out.mono ?_;rintro e w9 ⟨rfl,h9⟩;have j:=b.out.2.2.2.2.2.2.2.2.2.2.2.1;have A:=b.out.2.2.2.2.2.2.2.2.2.2.2.2;have a1:key.size≤40:=by unfold itKey at A;simp only[Ar,A0]at A;omega
 obtain⟨ai,N⟩:=MW j A (by omega);have ah:=VO j A (by omega);have P:(r.call 1 1 key).log =[Fc r key]:=by rw[N]
 have E:=h_ (WV (a:=1) (c:=Fc r key) h9 (by omega) ai (by rw[j.log];simp) (by rw[j.log];rfl) (by simp) (by rw[P];rfl) ah (by rw[P];rfl) (by have:=m.out.2.2.2;omega));have t:Hid ((r.call 1 1 key).nodes 1=some u∧u.Lone):=h_ ⟨by rw[N];show Ej r.nodes 1 (some u) 1=some u;exact Da _ _ _,j.lone⟩;obtain⟨S6,ag⟩:∃S6,S6=r.call 1 1 key:=⟨_,rfl⟩;rw[←ag]at E t;unfold pt at E;clear h9 j A a1 ai N ah P ag K;go_wp2_with fail;refine E.out.mono ?_;rintro e ay ⟨rfl,af⟩;obtain⟨q,hq,_⟩:=af.top;have av:=hq.alloc UT 43;have ad:=h_ av;clear af av E hq;obtain⟨o,M⟩:∃o,o=Fc r key:=⟨_,rfl⟩;have aa:Hid (o.done=true∧o.rp.err=6):=h_ (by rw[M];exact⟨rfl,rfl⟩);rw[←M];clear M
 go_wp2_with (refine AS rfl _ _ _ rfl ay.heap.size UT (rpC o.rp) 43 rfl rfl ad.out.blk rfl Tryz.sizeReply (N8 o.rp) ?_;intro D L aw;have C:=ad.out.set L aw;have z3:D.cell? ⟨ay.heap.size,3,none⟩=some (.int .i64 6):=(by rw[L.cell];show some (Value.int .i64 (o.rp.err:Int))=_;rw[aa.out.2];rfl);have t0:D.cell? ⟨tp,0,none⟩=some (pr wp 0):=(C.pull 3).blk.cell 0;have t1:D.cell? ⟨tp,1,none⟩=some (.bool true):=(C.pull 3).blk.cell 1;have d0:D.cell? ⟨wp,0,none⟩=some (pr q.p 0):=(C.pull 2).blk.cell 0;have a4:=aa.out.1;have ac:=h_ C;clear C L aw)
 obtain⟨xn,vn,ar,T,aj⟩:=Wx (a:=1) (ac.out.pull 1) (by omega) t.out.1;have au:=(EF T).2 t.out.2.ring
 have am:key.size≤1000:=by have z:=b.out.2.2.2.2.2.2.2.2.2.2.2.2;unfold itKey at z;simp only[Ar,A0]at z;omega
 have f:=h_5 ar T aj au am;unfold pt at f;clear ar T aj au am;refine(f.out.1 D (By _ _)).mono ?_;rintro e a6 ⟨rfl,rfl⟩;have V:=JO f.out.2.1 f.out.2.2.1 key f.out.2.2.2.2;rw[OI t.out.2.ring (by rw[t.out.2.id];exact Av _)]at V;have ae:=h_ V;clear V;go_wp2_with fail;refine ae.out.mono ?_;rintro e a7 ⟨rfl,H⟩;have v:=h_ H;have a2:=H.cell1' t0;have a0:=H.cell1' d0;clear H t0 t1 d0 z3 ae;go_wp2_with fail;refine(f.out.1 _ v.out).mono ?_;rintro e a8 ⟨rfl,rfl⟩;have U:=Pq (f.out.2.1.still v.out);rw[f.out.2.2.2.1]at U;have J:=h_ U;unfold Cu at J;clear U;go_wp2_with fail;refine J.out.mono ?_;rintro e a9 ⟨rfl,rfl⟩;clear J;go_wp2_with fail;refine(f.out.1 _ v.out).mono ?_;rintro e ba ⟨rfl,rfl⟩;have G:=f.out.2.1.still v.out;have n0:=G.k.c0;have n2:=G.k.e2;have Q:=G4 G;rw[show(u.dk.epoch:Int)=1 by rw[t.out.2.epoch];rfl]at Q;have ab:=h_ Q;have a5:=SO (u.dk.boot:Int) 1;clear Q;clear G;go_wp2_with fail;refine ab.out.mono ?_;rintro e a3 ⟨rfl,ax⟩;have az:Hid (Keep [] w a3):=h_ ((Sp.oldK ((ac.out.pull 6))).trans (v.out.trans ax));clear ax n0 n2 ab a2 a0;go_wp2;go_ret;exact⟨rfl,az.out.below⟩
end
end Go.Proofs.YtnhbioehiiifdaaGreat
