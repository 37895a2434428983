import Derived.Test.YtnhbioehiiifdaaGreatD19
set_option maxRecDepth 100000
set_option maxHeartbeats 16000000
set_option linter.all false
namespace Go.Proofs.YtnhbioehiiifdaaGreat
open Go.ChangeShapes Go.WideShapes Go.ChangeAt Go.RowKit
section
variable {R:List As} {w w':World} {x:NdP} {n:Nd} {B B' t:Nat} {v:NdV}
theorem Sp.ndMono (h:Sp (CJ x n B::R) w)(e:B≤B'):Sp (CJ x n B'::R) w:=by obtain⟨L,c,t,M,Q,y,a,b,d⟩:=h.ndSt;have:=d n.dk B' w L c t M Q y ⟨a.at_,a.kp,a.ca,a.jo,a.len,by have:=a.lim;omega,a.jk,a.cache,a.used,a.tab,a.last,a.pair⟩ b.ready b.frozen (By _ _) (fun q b=> .inl b);exact this
theorem Sp.tm {y:Tm}(h:Sp (Gs y::R) w):∃F,MqOk w F y:=by obtain⟨F,⟨h,_⟩,_⟩:=h.one;exact⟨F,h⟩
theorem Vq {j:Value}{ep:Nat}{mem:List Nat}(h:Sp R w)(u:Rv w 1 j (mem.map Int.ofNat).length (ints (mem.map Int.ofNat)))(f:nodesOk (mem.map Int.ofNat)=true)(r:mem.length≤5)(p:∀n∈mem,n≤1000)(d:1≤ep∧ep≤1000000)(s:0<(ptsOf mem).length ∧(ptsOf mem).length ≤1000):
  Calls Tryz.prog 191 #[.int .i64 (ep:Int),j] w fun e w'=>∃b,e=.returned (pr b 0)∧Sp (rgA (some b) (some (ep,mem))::R) w'∧Keep [] w w':=by
 refine(TD j mem ep u f r p (by omega)).mono ?_;rintro e w' ⟨b,l,m,rfl,c,k,hF⟩;refine⟨b,rfl,h.new1 (G:=Xj b l m) k ⟨l,m,rfl,c,fun q a=> ?_,s⟩ hF,k⟩;simp only[Xj,Ac,Ag]at a;rcases a with rfl|a|a
 ·exact c.blk.lt
 ·have o:0<mem.length:=by
   unfold nodesOk at f;simp only[Ar,A0,AD]at f;exact f.1
  obtain⟨sb,y,cap,d,_,i,_⟩:=c.nodes.at1 o;rw[d]at a;simp[Value.ownBlock]at a;obtain⟨_,rfl⟩:=a;exact i
 ·obtain⟨g,cap,d,i,_⟩:=c.pts
  rw[d]at a;simp[Value.ownBlock]at a;subst a;exact i
def Nd.anew (n:Nd)(ep:Nat)(mem:List Nat):Nd:={n with dk:={n.dk with cache:=[],used:=n.dk.used+9,epoch:=ep,ready:=0,frozen:=false},ring:=some (ep,mem),lep:=0,lend:=0,ltop:=0,waits:=[],toks:=[],knows:=false,parts:=[],outs:=[],ins:=[]}
theorem UC (n:Nd)(ep:Nat)(mem:List Nat)(d:n.Quiet)(c:ep≠n.dk.epoch)(h:0<ep)(b:n.waits=[])(a:n.toks=[]):n.adopt ep mem=n.anew ep mem:=by
 unfold Nd.adopt;rw[Aw c];have e:ep≠n.dk.ready:=by rw[d.ready];omega
 rw[Aw e];obtain⟨p,g,l,k,m,s,u,y,j,parts,q,i,z,reads,f,o,r⟩:=n;simp only at b a;subst b a;rfl
theorem Sm (n:Nd)(mem:List Nat)(h:n.ring≠none):n.adopt n.dk.epoch mem=n:=by
 unfold Nd.adopt;rw[Ay rfl]
 cases a:n.ring with
 |none=>exact absurd a h
 |some r=>rfl
theorem NN {y:Tm}{ep:Nat}{mem:List Nat}(h:Sp (CJ x n B::Gs y::R) w)(hB:B≤800000)(N:y.m.mem=mem.map Int.ofNat)(af:nodesOk (mem.map Int.ofNat)=true)(hl:mem.length≤5)(hb:∀n∈mem,n≤1000)(hp:0<(ptsOf mem).length ∧(ptsOf mem).length ≤1000)
  (s:n.dk.epoch<ep∧ep≤1000000) (ad:n.dk.boot≤1000000) (hu:n.dk.used+9≤2225) (K:n.waits=[]) (j:n.toks=[]):
  Calls Tryz.prog 186 #[pr x.nb 0,.int .i64 (ep:Int),y.vm] w fun e w'=>e=.returned (.tuple #[])∧Sp (CJ x (n.adopt ep mem) (B+2)::Gs y::R) w':=by
 obtain⟨v,q⟩:=h.ndR;have p:=q.quiet;rw[UC n ep mem p (by omega) (by omega) K j]
 obtain⟨ym,yc,O⟩:∃a c,y.vm=.slice a mem.length c:=by obtain⟨F,u⟩:=(h.pull 1).tm;have h1:=u.mem;rw[N]at h1;obtain⟨_,a,c,s,_⟩:=h1;exact⟨a,c,by rw[s,AD]⟩
 have Y:=h_2 O N;have c0:=q.k.c0;have e2:=q.k.e2;have HM:=h_ (G4 q);have HS:=h_ h;have d:=h_9 af hl hb hp s ad hu K j;obtain⟨X,HQ⟩:=i_2 hB p;have q0:((ep:Int)==(n.dk.epoch:Int))=false:=by simp;omega
 have P:¬(ep:Int)=(n.dk.epoch:Int):=by omega
 have Q:((ep:Int) !=0)=true:=by simp;omega
 have S:¬(ep:Int)=0:=by omega
 rw[O];clear h q O N af hl hb hp s ad hu K j hB p;go_enter Tryz.func186,Tryz.ntmps186;go_wp2_with fail;refine HM.out.mono ?_;rintro e f ⟨rfl,k2⟩
 have g:Sp (CJ x n B::Gs y::AM f.heap.size [.int .i64 (n.dk.boot:Int),.int .i64 (n.dk.epoch:Int),.int .i64 0,.bool false] 49::R) (f.alloc (.cells #[.int .i64 (n.dk.boot:Int),.int .i64 (n.dk.epoch:Int),.int .i64 0,.bool false] 49)):=
  ((HS.out.still k2).alloc [.int .i64 (n.dk.boot:Int),.int .i64 (n.dk.epoch:Int),.int .i64 0,.bool false] 49).push 2
 have m1:(f.alloc (.cells #[.int .i64 (n.dk.boot:Int),.int .i64 (n.dk.epoch:Int),.int .i64 0,.bool false] 49)).cell? ⟨f.heap.size,1,none⟩=some (.int .i64 (n.dk.epoch:Int)):=(g.pull 2).blk.cell 1;have m2:(f.alloc (.cells #[.int .i64 (n.dk.boot:Int),.int .i64 (n.dk.epoch:Int),.int .i64 0,.bool false] 49)).cell? ⟨f.heap.size,2,none⟩=some (.int .i64 0):=(g.pull 2).blk.cell 2;have ar:=g.ndK.c0;have au:=g.ndK.e0;have T:=h_ g;clear g k2 c0 e2;go_wp2_with fail;obtain⟨Z,G⟩:∃b,b=f.heap.size:=⟨_,rfl⟩;obtain⟨w3,L⟩:∃w3,w3=f.alloc (.cells #[.int .i64 (n.dk.boot:Int),.int .i64 (n.dk.epoch:Int),.int .i64 0,.bool false] 49):=⟨_,rfl⟩;rw[←L,←G]at T;rw[←L,←G];clear m1 m2 ar au L G;refine(Xp T.out (by have:=X.out;omega) d.out.2.2.2.2.2.2.1).mono ?_;rintro e w4 ⟨rfl,o⟩;have d0:=o.ndK.c0;have d2:=o.ndK.e2;have m0:w4.cell? ⟨Z,0,none⟩=some (.int .i64 (n.dk.boot:Int)):=(o.pull 2).blk.cell 0;have U:=h_ o;clear o;go_wp2_with fail;refine BJ 11 (by kernel_rfl) (by kernel_rfl) ?_;simp only[List.take_succ_cons,List.take_zero,BB,Bj]
 repeat still_step
 refine Du ?_;clear d0 d2 m0;go_wp2_with fail;obtain⟨l,i⟩:∃l:Nd,l={n with dk:={n.dk with cache:=[],used:=n.dk.used+9}}:=⟨_,rfl⟩;rw[←i]at U;have r:=h_ i;have I:=Xq U.out.drew (by have:=X.out;omega) ep (by rw[i];have:=d.out.2.2.2.2.1;show n.dk.epoch≤ep;omega) (by rw[i];have:=d.out;exact⟨this.2.2.2.2.2.1,this.2.2.2.2.1.2⟩)
 have ag:Calls Tryz.prog 188 #[pr x.kp 0,.agg #[.int .i64 (n.dk.boot:Int),.int .i64 (ep:Int),.int .i64 0,.bool false]] w4.drew fun e w'=>e=.returned (.int .i64 0)∧Sp (CJ x (l.save ep 0 false) (B+1+1)::Gs y::AM Z [.int .i64 (n.dk.boot:Int),.int .i64 (n.dk.epoch:Int),.int .i64 0,.bool false] 49::R) w':=by rw[i]at I⊢;exact I
 clear I i;refine ag.mono ?_;rintro e w5 ⟨rfl,h5⟩;clear ag;have V:=h_ h5;clear h5;go_wp2_with fail;obtain⟨F,u⟩:=(V.out.pull 1).tm;have H:=u.mem;rw[Y.out.2,Y.out.1]at H;have ae:=Vq (ep:=ep) V.out H d.out.1 d.out.2.1 d.out.2.2.1 (by have:=d.out.2.2.2.2.1;omega) d.out.2.2.2.1;clear u H;refine ae.mono ?_;rintro e w6 ⟨rb,rfl,C,_⟩;clear ae;obtain⟨fz,h7⟩:=C.ndSetRing;obtain⟨v6,ah⟩:=(C.drop).ndR;have c3:w6.cell? ⟨x.nb,3,none⟩=some (Cu v6.rg):=ah.ringc;have z:=h_ h7;clear C h7 ah;go_wp2_with fail;clear c3 fz;obtain⟨w7,ai⟩:∃w7,w7=w6.setCell ⟨x.nb,3,none⟩ (pr rb 0):=⟨_,rfl⟩;rw[←ai]at z⊢;clear ai;refine(Pp z.out (by rw[r.out];rfl) (by simp)).mono ?_;rintro e w8 ⟨rfl,k8⟩;have D:=z.out.still k8;have d1:=D.ndK.c1;have H8:=h_ D;clear D k8;go_wp2_with fail;refine(NL H8.out).mono ?_;rintro e w9 ⟨rfl,E⟩;have d4:=E.ndK.c4;have W:=h_ E;clear E d1;go_wp2_with fail;refine(Po W.out (by rw[r.out];exact d.out.2.2.2.2.2.2.2.2)).mono ?_;rintro e a7 ⟨rfl,am⟩;have aa:=W.out.still am;have ao:=h_ aa;clear aa am d4;go_wp2_with fail;refine(TY ao.out).mono ?_;rintro e an ⟨rfl,A⟩;obtain⟨a6,J⟩:=A.ndR;have M:=J.wt;have ak:(l.save ep 0 false).waits =[]:=by rw[r.out];exact d.out.2.2.2.2.2.2.2.1
 have al:({{l.save ep 0 false with ring:=some (ep,mem)}with lep:=0,lend:=0,ltop:=0}:Nd).waits =[]:=ak;rw[al]at M;obtain⟨wa,wc,aj⟩:=A4 M
 have c9:an.cell? ⟨x.nb,9,none⟩=some (.slice wa 0 wc):=by have:=J.blk.cell 9;rw[aj]at this;exact this
 have ap:=h_ A;clear A J M ak al aj;go_wp2
 go_loopw [86] (fun av aw=>av=.int .i64 0∧aw=an) (fun _ _=>0)
 case atStart=>exact⟨rfl,rfl⟩
 case round=>
 obtain⟨rfl,rfl⟩:=hrel;obtain⟨f9,ab⟩:=ap.out.ndWaits0;have aq:=h_ ab;clear ab;go_wp2
 go_end0
 refine⟨rfl, ?_⟩;have ac:=aq.out
 have e0:({{{l.save ep 0 false with ring:=some (ep,mem)}with lep:=0,lend:=0,ltop:=0}with waits:=[]}:Nd)=n.anew ep mem:=by rw[r.out];have p:=HQ.out;have j:=d.out.2.2.2.2.2.2.2.2;obtain⟨a1,dk,lep,lend,ltop,ring,a4,a5,az,parts,a2,ay,waits,reads,ax,a0,a3⟩:=n;obtain⟨P,Q,S,q4,_⟩:=p;simp only at P Q S q4 j;subst P Q S q4 j;rfl
 rw[e0]at ac;exact((ac.pull 2).drop)
end
section
variable {R:List As} {w w':World} {x:NdP} {n:Nd} {B t:Nat} {v:NdV}
theorem Mw (h:Sp (CJ x n B::R) w)(i:n.ring≠none)(s:Value):Calls Tryz.prog 186 #[pr x.nb 0,.int .i64 (n.dk.epoch:Int),s] w fun e w'=>e=.returned (.tuple #[])∧Keep [] w w':=by
 obtain⟨v,b⟩:=h.ndR;have p:=b.k.c0;have q:=b.k.e2;have m:=h_ (G4 b)
 obtain⟨c,j⟩:∃c,v.rg=some c:=by
  cases r:v.rg with
  |none=>exact absurd ((EF b).1 r) i
  |some c=>exact⟨c,rfl⟩
 have f:=h_2 b j;clear h b i j;go_enter Tryz.func186,Tryz.ntmps186;go_wp2_with fail;refine m.out.mono ?_;rintro e a ⟨rfl,l⟩;have d:Keep [] w (a.alloc (.cells #[.int .i64 (n.dk.boot:Int),.int .i64 (n.dk.epoch:Int),.int .i64 0,.bool false] 49)):=l.alloc _;have g:Blk (a.alloc (.cells #[.int .i64 (n.dk.boot:Int),.int .i64 (n.dk.epoch:Int),.int .i64 0,.bool false] 49)) a.heap.size [.int .i64 (n.dk.boot:Int),.int .i64 (n.dk.epoch:Int),.int .i64 0,.bool false] 49:=BY a _ _;have y:(a.alloc (.cells #[.int .i64 (n.dk.boot:Int),.int .i64 (n.dk.epoch:Int),.int .i64 0,.bool false] 49)).cell? ⟨a.heap.size,1,none⟩=some (.int .i64 (n.dk.epoch:Int)):=g.cell 1;have c3:=(f.out.1.still d).ringc;rw[f.out.2]at c3;have u:(a.alloc (.cells #[.int .i64 (n.dk.boot:Int),.int .i64 (n.dk.epoch:Int),.int .i64 0,.bool false] 49)).cell? ⟨x.nb,3,none⟩=some (pr c 0):=c3;have o:=h_ d;clear c3 l d g p q;go_wp2_with fail
 first
  |go_end0
  |refine Be (v:= .tuple #[]) (Cx rfl _ _ _) rfl ?_
 exact⟨rfl,o.out⟩
structure Nd.GrantOk (n:Nd) (m:Wm):Prop where
 kind:m.kind=2∨m.kind=11
 tick:m.tick≤1099511627776
 ring:m.epoch=n.dk.epoch→m.kind=2→n.ring≠none
 anew:n.dk.epoch<m.epoch→nodesOk (m.mem.map Int.ofNat)=true∧m.mem.length≤5∧(∀n∈m.mem,n≤1000)∧(0<(ptsOf m.mem).length ∧(ptsOf m.mem).length ≤1000)∧m.epoch≤1000000∧n.dk.boot≤1000000∧n.dk.used+9≤2225∧n.waits=[]∧n.toks=[]
theorem Ps {y:Tm}{m:Wm}(h:Sp (CJ x n B::Gs y::AF x.cb t::R) w)(I:y.m=wmMs m)(hB:B≤800000)(hg:n.GrantOk m):
  Calls Tryz.prog 143 #[pr x.nb 0,.agg (Cm y).toArray] w fun e w'=>e=.returned (.tuple #[])∧Sp (CJ x (n.grant t m) (B+2)::Gs y::AF x.cb t::R) w':=by
 obtain⟨o,G⟩:∃o,o=Cm y:=⟨_,rfl⟩;have s:Sp (CJ x n B::Gs y::AF x.cb t::AM w.heap.size o 175::R) (w.alloc (.cells o.toArray 175)):=(h.alloc o 175).push 3;have aa:=(s.pull 3).blk;have P:∀i u,(Cm y)[i]?=some u→(w.alloc (.cells o.toArray 175)).cell? ⟨w.heap.size,i,none⟩=some u:=fun i u hu=>by rw[aa.cell i,G];exact hu
 have S:=P 0 (.int .i64 (m.kind:Int)) (by simp[Cm,CZ,I,wmMs]);have V:=P 3 (.int .i64 (m.epoch:Int)) (by simp[Cm,CZ,I,wmMs]);have c0:=s.ndK.c0;have e2:=s.ndK.e2;obtain⟨v,hv⟩:=s.ndR;have N:=h_ (G4 hv);obtain⟨L,l⟩:=i_2 s hg;have c:=h_3 I G hB;rw[←G];clear h s aa P hv hg I hB G;go_enter Tryz.func143,Tryz.ntmps143;have ad:=SO (n.dk.boot:Int) (n.dk.epoch:Int);go_wp2_with fail;obtain⟨r,O⟩:∃b,b=w.heap.size:=⟨_,rfl⟩;obtain⟨w1,H⟩:∃w1,w1=w.alloc (.cells o.toArray 175):=⟨_,rfl⟩;rw[←H,←O]at L S V;rw[←H]at N;rw[←H,←O];clear H O c0 e2;refine N.out.mono ?_;rintro e w2 ⟨rfl,J⟩;have h2:=L.out.still J;have T:=J.cell1' S;have A:=J.cell1' V;have k:=h_ h2;clear L N h2 J S V;rcases Nat.lt_trichotomy m.epoch n.dk.epoch with ac|p|Q
 ·--elder
  have q0:(m.epoch:Int)<(n.dk.epoch:Int):=by omega
  have j:Hid (n.grant t m=n):=h_ (by unfold Nd.grant;rw[Ay (.inl ac)]);go_wp2_with fail
  first
   |go_end0
   |refine Be (v:= .tuple #[]) (Cx rfl _ _ _) rfl ?_
  exact⟨rfl,by rw[j.out];exact((k.out.pull 3).drop).ndMono (by omega)⟩
 ·have q0:¬(m.epoch:Int)<(n.dk.epoch:Int):=by omega
  have C:(m.epoch:Int)=(n.dk.epoch:Int):=by omega
  have ab:=h_ p;rcases l.out.kind with a|a
  ·have j:Hid (n.grant t m=n.take t m.tick m.epoch):=h_ (by
    unfold Nd.grant;rw[Aw (by omega)];simp only;rw[p,Sm n m.mem (l.out.ring p a),Ay a])
   have q2:((m.kind:Int)==11)=false:=by rw[a];rfl
   have q3:((m.kind:Int)==2)=true:=by rw[a];rfl
   have q:=(k.out.pull 3).blk.cell 18;rw[c.out.2.1]at q;have Z:w2.cell? ⟨r,18,none⟩=some y.vm:=q;have HR:=h_ (l.out.ring p a);have F:=h_ a;clear p a q;rw[C]at A;clear C;go_wp2_with fail;refine(Mw k.out HR.out _).mono ?_;rintro e D ⟨rfl,K⟩;have d:=k.out.still K;have U:=K.cell1' T;have W:=K.cell1' A;have X:=(d.pull 3).blk.cell 4;rw[c.out.2.1]at X;have Y:D.cell? ⟨r,4,none⟩=some (.int .i64 (m.tick:Int)):=by rw[X];simp[Cm,CZ,c.out.1,wmMs]
   have c1:=d.ndK.c1;have E:=h_ d;clear d K X T A Z;go_wp2_with fail;refine BJ 8 (by kernel_rfl) (by kernel_rfl) ?_;simp only[List.take_succ_cons,List.take_zero,BB,Bj]
   repeat still_step
   refine Du ?_;clear c1 Y U W;go_wp2_with fail;refine(Jy (ep:=n.dk.epoch) ((E.out.drew.pull 2).push 1) m.tick l.out.tick).mono ?_;rintro e w4 ⟨⟨g,rfl⟩,z⟩;have M:=h_ z;clear z;go_wp2
   go_end0
   refine⟨rfl, ?_⟩;rw[j.out,ab.out];have:=(((M.out.pull 3).drop).pull 2).push 1;exact(this.ndMono (by omega))
  ·have j:Hid (n.grant t m=n):=h_ (by unfold Nd.grant;rw[Ay (.inr ⟨p,a⟩)])
   have q2:((m.kind:Int)==11)=true:=by rw[a];rfl
   clear p a;rw[C]at A;clear C;go_wp2_with fail
   first
    |go_end0
    |refine Be (v:= .tuple #[]) (Cx rfl _ _ _) rfl ?_
   exact⟨rfl,by rw[j.out];exact((k.out.pull 3).drop).ndMono (by omega)⟩
 ·have q0:¬(m.epoch:Int)<(n.dk.epoch:Int):=by omega
  have C:¬(m.epoch:Int)=(n.dk.epoch:Int):=by omega
  have ae:((m.epoch:Int)==(n.dk.epoch:Int))=false:=by simp;omega
  have f:=l.out.anew Q
  have j:Hid (n.grant t m=if m.kind=2 then(n.adopt m.epoch m.mem).take t m.tick m.epoch else n.adopt m.epoch m.mem):=h_ (by unfold Nd.grant;rw[Aw (by omega)])
  have q:=(k.out.pull 3).blk.cell 18;rw[c.out.2.1]at q;have Z:w2.cell? ⟨r,18,none⟩=some y.vm:=q;have HA:=h_ (NN (y:=y) (ep:=m.epoch) (mem:=m.mem) k.out c.out.2.2 (by rw[c.out.1];rfl) f.1 f.2.1 f.2.2.1 f.2.2.2.1 ⟨Q,f.2.2.2.2.1⟩ f.2.2.2.2.2.1 f.2.2.2.2.2.2.1 f.2.2.2.2.2.2.2.1 f.2.2.2.2.2.2.2.2);clear q f Q;go_wp2_with fail;refine HA.out.mono ?_;rintro e D ⟨rfl,d⟩
  have U:D.cell? ⟨r,0,none⟩=some (.int .i64 (m.kind:Int)):=by have:=(d.pull 3).blk.cell 0;rw[c.out.2.1]at this;rw[this];simp[Cm,CZ,c.out.1,wmMs]
  have W:D.cell? ⟨r,3,none⟩=some (.int .i64 (m.epoch:Int)):=by have:=(d.pull 3).blk.cell 3;rw[c.out.2.1]at this;rw[this];simp[Cm,CZ,c.out.1,wmMs]
  have Y:D.cell? ⟨r,4,none⟩=some (.int .i64 (m.tick:Int)):=by have:=(d.pull 3).blk.cell 4;rw[c.out.2.1]at this;rw[this];simp[Cm,CZ,c.out.1,wmMs]
  have c1:=d.ndK.c1;have E:=h_ d;clear d T A Z;rcases l.out.kind with a|a
  ·have q3:((m.kind:Int)==2)=true:=by rw[a];rfl
   have F:=h_ a;clear a;go_wp2_with fail;refine BJ 8 (by kernel_rfl) (by kernel_rfl) ?_;simp only[List.take_succ_cons,List.take_zero,BB,Bj]
   repeat still_step
   refine Du ?_;clear c1 Y U W;go_wp2_with fail;refine(Jy (ep:=m.epoch) ((E.out.drew.pull 2).push 1) m.tick l.out.tick).mono ?_;rintro e w4 ⟨⟨g,rfl⟩,z⟩;have M:=h_ z;clear z;go_wp2
   go_end0
   refine⟨rfl, ?_⟩;rw[j.out,Ay F.out];exact(((M.out.pull 3).drop).pull 2).push 1
  ·have q3:((m.kind:Int)==2)=false:=by rw[a];rfl
   have F:=h_ a;clear a;go_wp2_with fail
   first
    |go_end0
    |refine Be (v:= .tuple #[]) (Cx rfl _ _ _) rfl ?_
   refine⟨rfl, ?_⟩;rw[j.out,Aw (by have:=F.out;omega)];exact(E.out.pull 3).drop
end
theorem Uu {α:Type}(l:List α)(a:α)(p:α→Bool):(l++[a]).find? p=(l.find? p).or (if p a=true then some a else none):=by rw[List.find?_append,List.find?_singleton]
section
variable {R:List As} {w w':World} {x:NdP} {n:Nd} {B t:Nat} {v:NdV}
theorem VG (h:Sp (GW x n B v++R) w)(z:n.tlast<100000)(key:Str):Calls Tryz.prog 228 #[pr x.tk 0,.string key] w fun e w'=>e=.returned (.int .i64 ((n.tlast+1:Nat):Int))∧Sp (GW x {n with tlast:=n.tlast+1,toks:=n.toks++[(n.tlast+1,key,true)]} B v++R) w':=by
 obtain⟨F,hF,E⟩:=Yq (l:=GW x n B v) (R:=R) h [4] [0,1,2,3,5,6,7,8,9] 10 rfl rfl;obtain⟨G,_,rfl,⟨g,m,j,f,rfl,p,I,o,C⟩,rfl,_⟩:=hF;refine(QI p ⟨z,by omega⟩ key).mono ?_;rintro e w' ⟨b,rfl,y,k,H⟩;have s:=E [1,2,3,4,0,5,6,7,8,9] [tkA x.tk (n.tlast+1) (n.toks++[(n.tlast+1,key,true)])] w' (KG x.tk g (b::j)) (J9.single ⟨g,m+1,b::j,_,rfl,y,by omega,fun i=> ?_,fun i d=> ?_⟩) (k.mono (fun q a _=>by simp only[Ac,Am,AG]at a;rcases a with rfl|rfl<;>simp[KG])) (fun q a=> ?_) rfl rfl
 ·exact⟨rfl,s⟩
 ·rw[Uu]
  by_cases d:i=n.tlast+1
  ·subst d
   have A:=p.new ((n.tlast+1:Nat):Int) (by omega);have:=o (n.tlast+1);rw[A]at this
   have D:n.toks.find? (fun t=>decide (t.1=n.tlast+1))=none:=by
    cases u:n.toks.find? (fun t=>decide (t.1=n.tlast+1))with
    |none=>rfl
    |some q=>rw[u]at this;cases this
   rw[D];simp
  ·have c:¬((i:Int)=((n.tlast+1:Nat):Int)):=by omega
   simp only[Aw c];rw[o i]
   have r:(if(decide (n.tlast+1=i))=true then some (n.tlast+1,key,true)else none)=none:=by rw[Aw];simp;omega
   rw[r,Option.or_none]
 ·have c:¬(i=((n.tlast+1:Nat):Int)):=by omega
  simp only[Aw c];exact C i d
 ·simp only[KG,Ac]at a
  rcases a with h|h|h|h
  ·exact .inl (by simp[KG,h])
  ·exact .inl (by simp[KG,h])
  ·exact .inr (by omega)
  ·exact .inl (by simp[KG,h])
theorem Xw (h:Sp (GW x n B v++R) w)(J:n.tlast≤100000)(i:Nat)(I:i≤100000)(key:Str)(good:Bool)(z:n.toks.find? (fun t=>decide (t.1=i))=some (i,key,good)):Calls Tryz.prog 128 #[pr x.tk 0,.int .i64 (i:Int)] w fun e w'=>e=.returned (.tuple #[.string key,.bool good])∧Sp (GW x {n with toks:=n.toks.filter (fun t=>decide (t.1≠i))} B v++R) w':=by
 obtain⟨F,hF,G⟩:=Yq (l:=GW x n B v) (R:=R) h [4] [0,1,2,3,5,6,7,8,9] 10 rfl rfl;obtain⟨H,_,rfl,⟨g,m,p,f,rfl,A,D,s,E⟩,rfl,_⟩:=hF;have r:=s i;rw[z]at r;obtain⟨q,a,u⟩:=Gg.1 r;obtain⟨b,L,K⟩:=q;simp only[Prod.mk.injEq]at u;obtain⟨rfl,rfl⟩:=u;refine(Tq A i (by omega) a).mono ?_;rintro e w' ⟨rfl,C,k⟩;have y:=G [1,2,3,4,0,5,6,7,8,9] [tkA x.tk n.tlast (n.toks.filter (fun t=>decide (t.1≠i)))] w' (KG x.tk g p) (J9.single ⟨g,m,p,_,rfl,C,D,fun j=> ?_,fun j d=> ?_⟩) (k.mono (fun q a _=>by simp only[Ah]at a;subst a;simp[KG])) (fun q a=> .inl (by simpa using a)) rfl rfl
 ·exact⟨rfl,y⟩
 ·by_cases d:j=i
  ·subst d
   simp only[D5]
   have:(n.toks.filter (fun t=>decide (t.1≠j))).find? (fun t=>decide (t.1=j))=none:=by rw[List.find?_eq_none];intro t c;rw[List.mem_filter]at c;simpa using c.2
   rw[this]
  ·have o:¬((j:Int)=(i:Int)):=by omega
   simp only[Aw o];rw[s j,List.find?_filter]
   congr 2
   funext t
   by_cases c:t.1=j
   ·simp[c,d]
   ·simp[c]
 ·have o:¬(j=(i:Int)):=by omega
  simp only[Aw o];exact E j d
end
theorem KK (q:Who×Nat):(rdC q).length =5:=rfl
theorem SA (q:Who×Nat):∀v∈rdC q,v.oneCell'=true:=by intro v a;simp only[rdC,Ac,Am,AG]at a;rcases a with rfl|rfl|rfl|rfl|rfl<;>rfl
theorem Tryz.infoRd:(Tryz.prog.info? 138).map (fun i=>(i.zero,i.size,i.bytes))=some (some (.agg #[.int .i64 0,.int .i64 0,.int .i64 0,.string ByteArray.empty,.int .i64 0]),5,48):=by kernel_rfl
theorem Vu (c:Who×Nat):Instr.fill (fun i=>some (i*5,5)) ((Array.range (1*5)).map ((Value.agg #[.int .i64 0,.int .i64 0,.int .i64 0,.string ByteArray.empty,.int .i64 0]).cells[· % 5]!)) [(0,.agg (rdC c).toArray)]=some (rdC c).toArray :=by kernel_rfl
theorem Vl (c:Who×Nat)(W:World):(Instr.buildSlice 65 1 #[(0,.agg (rdC c).toArray)]).run Tryz.prog W=.ok (.slice (some ⟨W.heap.size,0,none⟩) 1 1) (W.alloc (.cells (rdC c).toArray 138)):=by obtain⟨e,b,d,a,f⟩:=AU Tryz.infoRd;exact run_buildSlice W _ _ 1 _ _ e _ CL b d (by rw[a];decide) (by rw[a];decide) (by rw[a];exact Vu c)
def Fu (q:Who):List Value:=O1 q.node q.id q.op q.key
def got (n:Nd)(key:Str):Str×Str×Bool:=match cGet n.dk.cache key with
 |some s=>(key,s,true)
 |none=>(se,se,false)
def get1S (c:World)(x:NdP)(n:Nd)(B t:Nat)(v:NdV)(R:List As)(d:Nat)(q:Who)(a:Str×Str×Bool)(U:Nat→Bool)(X:Nat→Value)(W:World):Prop:=
 Keep [] c W∧(U 21=true→∃b,X 21=pr b 0∧c.heap.size≤b∧(U 22=false→Blk W b [.string ByteArray.empty,.string ByteArray.empty,.int .i64 0,.bool false] 171)∧(U 22=true→Blk W b (E8 a.1 a.2.1 0 false) 171))∧(U 22=true→U 21=true)
def get4S (x:NdP)(n:Nd)(B t:Nat)(v:NdV)(R:List As)(a:Nat)(q:Who)(U:Nat→Bool)(X:Nat→Value)(W:World):Prop:=
 W.cell? ⟨x.nb,4,none⟩=some (pr x.tk 0)∧Blk W a (Fu q) 136∧(U 15=false→W.cell? ⟨x.nb,10,none⟩=some v.rv)∧
 (U 12=false→Sp (GW x n B v++AF x.cb t::AM a (Fu q) 136::R) W)∧
 (U 12=true→U 14=false→Sp (GW x {n with tlast:=n.tlast+1,toks:=n.toks++[(n.tlast+1,q.key,true)]} B v++AF x.cb t::AM a (Fu q) 136::R) W)∧
 (U 14=true→U 15=false→∃b,X 14=.slice (some ⟨b,0,none⟩) 1 1∧Sp (AM b (rdC (q,n.tlast+1)) 138::(GW x {n with tlast:=n.tlast+1,toks:=n.toks++[(n.tlast+1,q.key,true)]} B v++AF x.cb t::AM a (Fu q) 136::R)) W)∧
 (U 15=true→U 18=false→Sp (BF 138 5 (X 15) (n.reads++[(q,n.tlast+1)]).length (rows rdC (n.reads++[(q,n.tlast+1)]))::
  AM x.nb (ndC x.stb x.le n.id v.rg x.tk v.wv v.rv n.asked v.ms v.rp) 71::UQ x n.dk B::Yj x.le x.cb n.lep n.lend n.ltop::rgA v.rg n.ring::tkA x.tk (n.tlast+1) (n.toks++[(n.tlast+1,q.key,true)])::
  BF 223 7 v.wv n.waits.length (rows wtC n.waits)::BF 175 21 v.ms v.mt.length (tc v.mt)::WS v.mt::BF 43 6 v.rp n.reps.length (rows rpC n.reps)::AF x.cb t::AM a (Fu q) 136::R) W)∧
 (U 18=true→Sp (GW x {{n with tlast:=n.tlast+1,toks:=n.toks++[(n.tlast+1,q.key,true)]}with reads:=n.reads++[(q,n.tlast+1)]} B {v with rv:=X 15}++AF x.cb t::AM a (Fu q) 136::R) W)∧
 (U 12=true→X 12=.int .i64 ((n.tlast+1:Nat):Int))
section
variable {R:List As} {w w':World} {x:NdP} {n:Nd} {B t:Nat} {v:NdV}
theorem NM (h:NdR w x n B v)(d:B≤900000)(key:Str)(g:key.size≤1000)(f:n.dk.cache.length≤15)(c:Int):Calls Tryz.prog 227 #[pr x.ca 0,.string key,.int .i64 c] w fun e w'=>
  e=.returned (.tuple #[.agg #[.string (got n key).1,.string (got n key).2.1,.int .i64 0,.bool false],.bool (got n key).2.2])∧Keep [] w w':=by
 have a:=Pt h d key g f c;unfold got
 cases b:cGet n.dk.cache key with
 |none=>rw[b]at a;exact a
 |some s=>rw[b]at a;exact a
theorem nd_get (h:Sp (CJ x n B::AF x.cb t::R) w)(y:B≤800000)(q:Who)(hk:q.key.size≤1000)(hc:n.dk.cache.length≤15)(hm:n.msgs.length<300∧n.reps.length<300)(C:n.tlast<100000∧n.reads.length<1000):
  Calls Tryz.prog 181 #[pr x.nb 0,.agg (Fu q).toArray] w fun e w'=>e=.returned (.tuple #[])∧Sp (CJ x (n.get q) B::AF x.cb t::R) w':=by
 obtain⟨m,ap⟩:∃m,m=got n q.key:=⟨_,rfl⟩;have h1:Sp (CJ x n B::AF x.cb t::AM w.heap.size (Fu q) 136::R) (w.alloc (.cells (Fu q).toArray 136)):=(h.alloc (Fu q) 136).push 2;have J:=h_6 y hk hc hm C ap;have H1:=h_ h1;clear h h1 y hk hc hm C ap;go_enter Tryz.func181,Tryz.ntmps181;go_wp2_with fail;obtain⟨b3,ak⟩:∃b,b=w.heap.size:=⟨_,rfl⟩;obtain⟨w1,am⟩:∃w1,w1=w.alloc (.cells (Fu q).toArray 136):=⟨_,rfl⟩;have aa:Hid (Sp (CJ x n B::AF x.cb t::AM b3 (Fu q) 136::R) w1):=h_ (by rw[am,ak];exact H1.out);clear H1;rw[←am,←ak];clear am ak;obtain⟨v,z⟩:=aa.out.ndR;have ae:=(aa.out.pull 1).clock;have ar:=(aa.out.pull 2).blk;have K:=h_3 z ae ar;clear z ae ar;refine wM (A:=[0,1,3,7,15,31,63,0,128,0,512,1536,3584,7680,15872,32256,65024,131071,262143,524287,524287,0,3145727,8388607]) 6291456 [fun _=>pr x.nb 0,fun _=>pr x.nb 0,fun _=>pr x.nb 0,fun _=>pr x.stb 0,fun _=>pr x.stb 0,fun _=>pr x.stb 0,fun _=>pr x.ca 0,fun _=>pr b3 3,fun _=> .string q.key,fun _=>pr x.nb 0,fun _=>pr x.nb 0,fun _=>pr x.nb 1,fun _=>pr x.le 0,fun _=>pr x.le 0,fun _=>pr x.le 0,fun _=>pr x.cb 0,fun _=> .int .i64 (t:Int),fun _=> .tuple #[.agg #[.string m.1,.string m.2.1,.int .i64 0,.bool false],.bool m.2.2],fun _=> .tuple #[.agg #[.string m.1,.string m.2.1,.int .i64 0,.bool false],.bool m.2.2],fun _=> .agg #[.string m.1,.string m.2.1,.int .i64 0,.bool false],fun _=> .bool m.2.2,fun _=>undef,fun _=>undef,fun _=> .bool m.2.2] (get1S w1 x n B t v R b3 q m) ?start (.s ?m0<|.s ?m1<|.s ?m2<|.s ?m3<|.s ?m4<|.s ?m5<|.s ?m6<|.s ?m7<|.s ?m8<|.s ?m9<|.s ?m10<|.s ?m11<|.s ?m12<|.s ?m13<|.s ?m14<|.s ?m15<|.s ?m16<|.s ?m17<|.s ?m18<|.s ?m19<|.s ?m20<|.t ?m21<|.t ?m22<|.s ?m23<|.nil) ?fin
 case start=>intro X;exact⟨(By _ _).drew,(fun h=>by cases h),(fun h=>by cases h)⟩
 case fin=>
  intro U X V j Q;obtain⟨hK,i,_⟩:=j;obtain⟨b,L,g2,_,g4⟩:=i (Q 21 (by decide) (by decide));have p:=g4 (Q 22 (by decide) (by decide));have h7:Sp (CJ x n B::AF x.cb t::AM b3 (Fu q) 136::R) V:=aa.out.still hK;have H:=h_2 h7 p;clear hK i Q h7 g2 g4 p aa K;simp[Al,Act.put,FK,Ab,L];clear L;have ah:=h_ J.out.2.2.2.2.2;have Y:V.cell? ⟨b3,0,none⟩=some (.int .i64 (q.node:Int)):=(H.out.1.pull 2).blk.cell 0;have Z:V.cell? ⟨b3,1,none⟩=some (.int .i64 (q.id:Int)):=(H.out.1.pull 2).blk.cell 1;have z2:V.cell? ⟨b3,2,none⟩=some (.int .i64 (q.op:Int)):=(H.out.1.pull 2).blk.cell 2;have z3:V.cell? ⟨b3,3,none⟩=some (.string q.key):=(H.out.1.pull 2).blk.cell 3
  cases O:cGet n.dk.cache q.key with
  |some s=>
   have hi:m=(q.key,s,true):=by rw[ah.out];unfold got;rw[O]
   subst hi;have i1:V.cell? ⟨b,1,none⟩=some (.string s):=H.out.2.cell 1;have ag:=h_ O;clear O;go_wp2_with fail;refine(KP H.out.1 q 0 s true J.out.2.2.2.1).mono ?_;rintro e w8 ⟨rfl,h8⟩;have H8:=h_ h8;clear h8;go_wp2_with fail
   first
    |go_end0
    |refine Be (v:= .tuple #[]) (Cx rfl _ _ _) rfl ?_
   refine⟨rfl, ?_⟩;have e:n.get q=n.tell q 0 s true:=by unfold Nd.get;rw[ag.out]
   rw[e];exact(H8.out.pull 2).drop
  |none=>
   have hi:m=(se,se,false):=by rw[ah.out];unfold got;rw[O]
   subst hi;have ag:=h_ O;clear O ah;obtain⟨v,I,al,hL⟩:=H.out.1.nd;have c10:=(hL.ndL_r I al).blk.cell 10;have HL:=h_3 hL I al;have ae:=((H.out.1.pull 1)).clock;clear hL I al ae;obtain⟨im,a2,a5,a6,a7⟩:=AU Tryz.infoRd;have c4:=H.out.1.ndK.c4;go_wp2_with fail;refine wM (A:=[0,0,2,6,14,0,0,64,192,448,0,1024,4032,8160,16352,32766,65535,131071,262143]) 315392 [fun _=>pr x.nb 0,fun _=>pr x.nb 0,fun _=>pr x.nb 0,fun _=>pr x.nb 10,fun _=>v.rv,fun _=> .agg (Fu q).toArray,fun _=>pr x.nb 0,fun _=>pr x.nb 0,fun _=>pr x.nb 4,fun _=>pr x.tk 0,fun _=>pr b3 3,fun _=> .string q.key,fun _=>undef,fun _=> .agg (rdC (q,n.tlast+1)).toArray,fun _=>undef,fun _=>undef,fun _=>pr x.nb 0,fun _=>pr x.nb 10,fun _=>undef] (get4S x n B t v R b3 q) ?bstart (.s ?b0<|.s ?b1<|.s ?b2<|.s ?b3<|.s ?b4<|.s ?b5<|.s ?b6<|.s ?b7<|.s ?b8<|.s ?b9<|.s ?b10<|.s ?b11<|.t ?b12<|.s ?b13<|.t ?b14<|.t ?b15<|.s ?b16<|.s ?b17<|.t ?b18<|.nil) ?bfin
   case bstart=>intro X;exact⟨c4,(H.out.1.pull 2).blk,fun _=>c10,fun _=>HL.out.1.drew,(fun h=>by cases h),(fun h=>by cases h),(fun h=>by cases h),(fun h=>by cases h),(fun h=>by cases h)⟩
   case bfin=>
    intro U X w9 j Q;have h9:=j.2.2.2.2.2.2.2.1 (Q 18 (by decide) (by decide));have H9:=h_ h9;clear j Q h9;simp[Al,Act.put,FK,Ab];go_wp2_with fail
    first
     |go_end0
     |refine Be (v:= .tuple #[]) (Cx rfl _ _ _) rfl ?_
    refine⟨rfl, ?_⟩;have e:n.get q={{n with tlast:=n.tlast+1,toks:=n.toks++[(n.tlast+1,q.key,true)]}with reads:=n.reads++[(q,n.tlast+1)]}:=by unfold Nd.get;rw[ag.out]
    rw[e];have ax:=Yz (n:={{n with tlast:=n.tlast+1,toks:=n.toks++[(n.tlast+1,q.key,true)]}with reads:=n.reads++[(q,n.tlast+1)]}) (R:=AF x.cb t::AM b3 (Fu q) 136::R) {v with rv:=X 15} (HL.out.2.1.same rfl rfl rfl rfl rfl rfl rfl) HL.out.2.2 H9.out;exact(ax.pull 2).drop
   case' b12|b14|b15|b18=>intro U X xv W j C i f G r g B y K' o;have d:=h_ j;obtain⟨ab,E,_⟩:=j;have d4:W.cell? ⟨x.nb,4,none⟩=some (pr x.tk 0):=ab;have Y:W.cell? ⟨b3,0,none⟩=some (.int .i64 (q.node:Int)):=E.cell 0;have Z:W.cell? ⟨b3,1,none⟩=some (.int .i64 (q.id:Int)):=E.cell 1;have z2:W.cell? ⟨b3,2,none⟩=some (.int .i64 (q.op:Int)):=E.cell 2;have z3:W.cell? ⟨b3,3,none⟩=some (.string q.key):=E.cell 3;clear ab E;simp[mV,mY,Ab]at G;simp only[Al,Act.put,A8,A7,A6,G]at y;subst y
   case b12=>
    have a8:U 14=false:=g 14 (by decide);have S:U 15=false:=g 15 (by decide);have ac:U 18=false:=g 18 (by decide);clear i f r g d4 Y Z z2 z3;have h0:=d.out.2.2.2.1 C;go_simp;refine(VG h0 J.out.2.2.2.2.1.1 q.key).mono ?_;rintro e w3 ⟨rfl,u⟩;go_simp;have bc:=(u.pre.at 0 rfl);refine o _ _ _ rfl ⟨?_, ?_, ?_,fun h=>by simp[upd]at h,fun _ _=>u,fun h=>by simp[upd,a8]at h,fun h=>by simp[upd,S]at h,fun h=>by simp[upd,ac]at h,fun _=>Bh _ _ _⟩
    ·obtain⟨F,_,p⟩:=u.pre.at 0 rfl
     exact p.cell 4
    ·obtain⟨F,_,p⟩:=u.at 11 rfl
     exact p
    ·intro _
     obtain⟨F,_,p⟩:=u.pre.at 0 rfl;exact p.cell 10
   case b14=>have D:U 12=true:=f 12 (by decide);have S:U 15=false:=g 15 (by decide);have ac:U 18=false:=g 18 (by decide);clear i f r g d4 Y Z z2 z3;have h1:=d.out.2.2.2.2.1 D C;refine Ny (T:=138) rfl (.tmp 46) rfl (rdC (q,n.tlast+1)) (by rfl) (Vl (q,n.tlast+1)) ?_;have kk:Keep [] W (W.alloc (.cells (rdC (q,n.tlast+1)).toArray 138)):=(By _ _).alloc _;have N:=h1.alloc (rdC (q,n.tlast+1)) 138;refine o _ _ _ rfl ⟨kk.cell1' d.out.1,d.out.2.1.keep kk (by simp),fun h=>kk.cell1' (d.out.2.2.1 S),fun h=>by simp[upd,D]at h,fun _ h=>by simp[upd]at h,fun _ _=>⟨W.heap.size,Bh _ _ _,N⟩,fun h=>by simp[upd,S]at h,fun h=>by simp[upd,ac]at h,fun _=>by rw[Bs _ _ _ _ (by decide)];exact d.out.2.2.2.2.2.2.2.2 D⟩
   case b15=>
    have ad:U 14=true:=f 14 (by decide);have D:U 12=true:=f 12 (by decide);have ac:U 18=false:=g 18 (by decide);have av:=i 14 ad;clear i f r g d4 Y Z z2 z3;obtain⟨b,a4,N⟩:=d.out.2.2.2.2.2.1 ad C;have ay:=N.blk;obtain⟨F,hF,hs⟩:=Yq (l:=AM b (rdC (q,n.tlast+1)) 138::GW x {n with tlast:=n.tlast+1,toks:=n.toks++[(n.tlast+1,q.key,true)]} B v) (R:=AF x.cb t::AM b3 (Fu q) 136::R) N [0,7] [1,2,3,4,5,6,8,9,10] 11 rfl rfl;obtain⟨F0,_,rfl,⟨rfl,_⟩,⟨F1,_,rfl,⟨rfl,aq⟩,rfl,_⟩,M⟩:=hF;obtain⟨ra,rc,bd⟩:=A4 aq;have a3:=KI (P:=Tryz.prog) CL W b (rdC (q,n.tlast+1)) (KK _) ay (SA _);have be:n.reads.length<1000:=J.out.2.2.2.2.1.2;have c10:W.cell? ⟨x.nb,10,none⟩=some v.rv:=d.out.2.2.1 C;refine BO _ rfl (.tmp 37) (.tmp 47) 65 65 rfl 0 138 im _ 5 48 CL a2 a5 a6 a7 rfl (by decide) _ n.reads.length _ (by rfl) aq _ 1 _ (by rw[←a4,av];rfl) a3 (by unfold maxLen;omega) (by omega) (AA _) ?_;intro v2 w2 az a0 _ a1;have kg:=DJ a0
    have u:=hs [0,1,2,3,4,5,6,7,8,9] [BF 138 5 v2 (n.reads++[(q,n.tlast+1)]).length (rows rdC (n.reads++[(q,n.tlast+1)]))] w2 v2.ownBlock.toList (J9.single ⟨rfl,by rw[Aj,List.length_singleton,I8];exact az⟩) (kg.mono (fun q I _=>by simp;right;exact Ae.1 I)) (fun q I=>by
     rcases a1 q (Ae.1 I)with h|h
     ·exact .inl (by simp[h])
     ·exact .inr h) rfl rfl
    refine o _ _ _ rfl ⟨?_, ?_,fun h=>by simp[upd]at h,fun h=>by simp[upd,D]at h,fun _ h=>by simp[upd,ad]at h,fun _ h=>by simp[upd]at h,fun _ _=> ?_,fun h=>by simp[upd,ac]at h,fun _=>by rw[Bs _ _ _ _ (by decide)];exact d.out.2.2.2.2.2.2.2.2 D⟩
    ·obtain⟨F,_,p⟩:=u.pre.at 1 rfl
     exact p.cell 4
    ·obtain⟨F,_,p⟩:=u.at 11 rfl
     exact p
    ·rw[Bh]
     exact u
   case b18=>
    have af:U 15=true:=f 15 (by decide);have ad:U 14=true:=f 14 (by decide);have D:U 12=true:=f 12 (by decide);have ai:=i 15 af;clear i f r g d4 Y Z z2 z3;have u:=d.out.2.2.2.2.2.2.1 af C
    obtain⟨xa,xc,hx⟩:∃a c,X 15=.slice a (n.reads.length+1) c:=by obtain⟨a,c,hh⟩:=A4 u.row;exact⟨a,c,by rw[hh,Aj,List.length_singleton]⟩
    have aj:=(u.pull 1).blk;have c10:W.cell? ⟨x.nb,10,none⟩=some v.rv:=aj.cell 10;have ba:=aj.free 10;have h4:=((u.pull 1).setCell 10 (X 15));have HX:=h_ hx;rw[hx]at ai;simp only[←ai]at o⊢;clear ai u aj;go_simp;refine o undef _ _ rfl ⟨?_, ?_,fun h=>by simp[upd,af]at h,fun h=>by simp[upd,D]at h,fun _ h=>by simp[upd,ad]at h,fun _ h=>by simp[upd,af]at h,fun _ h=>by simp[upd]at h,fun _=> ?_,fun _=>by rw[Bs _ _ _ _ (by decide)];exact d.out.2.2.2.2.2.2.2.2 D⟩
    ·rw[←hx];exact h4.blk.cell 4
    ·rw[←hx]
     obtain⟨F,_,p⟩:=h4.at 11 rfl;exact p
    ·rw[Bs _ _ _ _ (by decide),←hx]
     exact h4.sel (l:=[_,_,_,_,_,_,_,_,_,_]) [0,2,3,4,5,6,1,7,8,9] 10 rfl rfl
   all_goals intro U X xv W j i f G r g B y K' o;have d:=h_ j;obtain⟨ab,E,_⟩:=j;have d4:W.cell? ⟨x.nb,4,none⟩=some (pr x.tk 0):=ab;have Y:W.cell? ⟨b3,0,none⟩=some (.int .i64 (q.node:Int)):=E.cell 0;have Z:W.cell? ⟨b3,1,none⟩=some (.int .i64 (q.id:Int)):=E.cell 1;have z2:W.cell? ⟨b3,2,none⟩=some (.int .i64 (q.op:Int)):=E.cell 2;have z3:W.cell? ⟨b3,3,none⟩=some (.string q.key):=E.cell 3;clear ab E;simp[mV,mY,Ab]at G;simp only[Al,Act.put,A8,A7,A6,G]at y;subst y
   case b13=>have D:U 12=true:=f 12 (by decide);have ao:=i 12 D;clear i f r g;have au:=d.out.2.2.2.2.2.2.2.2 D;rw[au]at ao;refine Lb rfl 138 _ rfl #[(0,.agg (Fu q).toArray),(1,.int .i64 ((n.tlast+1:Nat):Int))] (by rw[ao];simp only[DZ,Br,Cy];rfl) (.agg (rdC (q,n.tlast+1)).toArray) (fun W=>DD W _ _ _ (by rfl)) ?_;exact o _ _ _ rfl rfl d.out
   case b4=>have S:U 15=false:=g 15 (by decide);clear i f r g;have c10:W.cell? ⟨x.nb,10,none⟩=some v.rv:=d.out.2.2.1 S;go_simp;exact o _ _ _ rfl rfl d.out
   all_goals clear i f r g;go_simp;exact o _ _ _ rfl rfl d.out
 case' m21|m22=>intro U X xv W j C i f G r g B y K' o;have d:=h_ j;have z:=K.out.1.still j.1;have M:=z.k.c0;have d1:=z.k.c1;have e0:=z.k.e0;have l0:W.cell? ⟨x.le,0,none⟩=some (pr x.cb 0):=z.le.blk.cell 0;have q3:W.cell? ⟨b3,3,none⟩=some (.string q.key):=(K.out.2.2.keep j.1 (by simp)).cell 3;clear z j;simp[mV,mY,Ab]at G;simp only[Al,Act.put,A8,A7,A6,G]at y;subst y
 case m21=>
  clear i f r g M d1 e0 l0 q3;go_simp;have a9:U 22=false:=by cases h:U 22 with|false=>rfl|true=>rw[d.out.2.2 h]at C;cases C
  have kk:Keep [] W (W.alloc (.cells #[.string ByteArray.empty,.string ByteArray.empty,.int .i64 0,.bool false] 171)):=(By _ _).alloc _;refine o _ _ _ rfl ⟨d.out.1.trans kk,fun _=>⟨W.heap.size,Bh _ _ _,d.out.1.size,fun _=>BY W [.string ByteArray.empty,.string ByteArray.empty,.int .i64 0,.bool false] _,fun h=> ?_⟩,fun h=>by simp[upd]⟩;simp[upd,a9]at h
 case m22=>have an:U 21=true:=f 21 (by decide);have aw:=i 21 an;clear i f r g M d1 e0 l0 q3;obtain⟨b,L,g2,g3,g4⟩:=d.out.2.1 an;have p:=g3 C;refine Eu rfl _ _ _ rfl b [.string ByteArray.empty,.string ByteArray.empty,.int .i64 0,.bool false] (E8 m.1 m.2.1 0 false) 171 (by rw[←L,aw];rfl) (by rfl) p rfl If (EJ _ _ _ _) ?_;intro w2 N k2;refine o undef _ _ rfl ⟨d.out.1.then k2 (fun q I bb=>by simp only[Ah]at I;subst I;omega),fun _=>⟨b,by rw[Bs _ _ _ _ (by decide)];exact L,g2,fun h=>by simp[upd]at h,fun _=>N⟩,fun _=>by simp[upd,an]⟩
 all_goals intro U X xv W j i f G r g B y K' o;have d:=h_ j;have z:=K.out.1.still j.1;have M:=z.k.c0;have d1:=z.k.c1;have e0:=z.k.e0;have l0:W.cell? ⟨x.le,0,none⟩=some (pr x.cb 0):=z.le.blk.cell 0;have q3:W.cell? ⟨b3,3,none⟩=some (.string q.key):=(K.out.2.2.keep j.1 (by simp)).cell 3;clear z j;simp[mV,mY,Ab]at G;simp only[Al,Act.put,A8,A7,A6,G]at y;subst y
 case m16=>clear i f r g;clear M d1 e0 l0 q3;go_simp;refine(DN (K.out.2.1.keep d.out.1 (by simp))).mono ?_;rintro e w3 ⟨rfl,rfl⟩;go_simp;exact o _ _ _ rfl rfl d.out
 case m17=>clear i f r g;clear M d1 e0 l0 q3;have hg:=NM (K.out.1.still d.out.1) (by have:=J.out.1;omega) q.key J.out.2.1 J.out.2.2.1 (t:Int);rw[←J.out.2.2.2.2.2]at hg;go_simp;refine hg.mono ?_;rintro e w3 ⟨rfl,k3⟩;go_simp;refine o _ _ _ rfl rfl ⟨d.out.1.trans k3,fun h=> ?_,d.out.2.2⟩;obtain⟨b,L,g2,g3,g4⟩:=d.out.2.1 h;exact⟨b,L,g2,fun h=>(g3 h).keep k3 (by simp),fun h=>(g4 h).keep k3 (by simp)⟩
 all_goals clear i f r g;go_simp;exact o _ _ _ rfl rfl d.out
end
structure Nd.AskOk (n:Nd) (B:Nat) (q:Who):Prop where
 lim:B≤800000
 key:itKey q.key=true
 size:q.key.size≤1000
 op:q.op=1
 few:n.dk.cache.length≤15
 msgs:n.msgs.length<300∧n.reps.length<300
 toks:n.tlast<100000∧n.reads.length<1000
theorem LA {k:Str}(h:itKey k=true):Nd.keyOk k=true:=by unfold itKey at h;unfold Nd.keyOk;simp only[Ar,A0]at h⊢;exact h
section
variable {R:List As} {w w':World} {x:NdP} {n:Nd} {B t:Nat} {v:NdV}
theorem Rs (h:Sp (CJ x n B::AF x.cb t::R) w)(q:Who)(hq:n.AskOk B q)(F:n.ring=none∨n.own q.key=n.id):
  Calls Tryz.prog 131 #[pr x.nb 0,.agg (Fu q).toArray] w fun e w'=>e=.returned (.tuple #[])∧Sp (CJ x (n.ask t q) B::AF x.cb t::R) w':=by
 have J:Sp (CJ x n B::AF x.cb t::AM w.heap.size (Fu q) 136::R) (w.alloc (.cells (Fu q).toArray 136)):=(h.alloc (Fu q) 136).push 2;have c:=h_2 hq F;have Z:=h_ J;clear h J hq F;go_enter Tryz.func131,Tryz.ntmps131;go_wp2_with fail;obtain⟨m,V⟩:∃b,b=w.heap.size:=⟨_,rfl⟩;obtain⟨G,Y⟩:∃G,G=w.alloc (.cells (Fu q).toArray 136):=⟨_,rfl⟩;have C:Hid (Sp (CJ x n B::AF x.cb t::AM m (Fu q) 136::R) G):=h_ (by rw[Y,V];exact Z.out);clear Z;rw[←Y,←V];clear Y V;obtain⟨v,k⟩:=C.out.ndR;have ae:=(C.out.pull 1).clock;have ai:=(C.out.pull 2).blk;obtain⟨l,g⟩:∃a,Cu v.rg=.pointer a:=⟨_,rfl⟩
 have d:n.ring=none→l=none:=fun X=>by have J:=(EF k).2 X;rw[J]at g;unfold Cu at g;injection g with h;exact h.symm
 have ah:n.ring≠none→l≠none:=fun X hn=>by
  cases p:v.rg with
  |none=>exact X ((EF k).1 p)
  |some b=>rw[p,hn]at g;unfold Cu at g;injection g with h;cases h
 have f:=h_6 k ae ai g d ah;have c3:G.cell? ⟨x.nb,3,none⟩=some (.pointer l):=by rw[←g];exact k.ringc
 obtain⟨own,ag⟩:∃o,o=n.own q.key:=⟨_,rfl⟩;have S:=h_ ag;clear k ae ai g d ah ag c3;refine wK (A:=[0,1,3,7,0,16,63,127]) 0 [pr x.nb 0,pr x.nb 0,pr x.nb 3,.pointer l,pr m 3,.string q.key,.int .i64 (own:Int),.int .i64 (own:Int)] (fun _ W=>Keep [] G W) ?mstart (.s ?m0<|.s ?m1<|.s ?m2<|.s ?m3<|.s ?m4<|.s ?m5<|.s ?m6<|.s ?m7<|.nil) ?mfin
 case mstart=>exact(By _ _).drew
 case mfin=>
  intro L z j hd;have h7:=C.out.still j;have i:=h_ h7;have I:=h_ (f.out.1.still j);have c3:z.cell? ⟨x.nb,3,none⟩=some (.pointer l):=by rw[←f.out.2.2.2.1];exact I.out.ringc
  have c2:=I.out.id;clear j hd h7 C;simp[Al,Act.put];have z0:z.cell? ⟨m,0,none⟩=some (.int .i64 (q.node:Int)):=(i.out.pull 2).blk.cell 0;have z1:z.cell? ⟨m,1,none⟩=some (.int .i64 (q.id:Int)):=(i.out.pull 2).blk.cell 1;have z2:z.cell? ⟨m,2,none⟩=some (.int .i64 (q.op:Int)):=(i.out.pull 2).blk.cell 2;have z3:z.cell? ⟨m,3,none⟩=some (.string q.key):=(i.out.pull 2).blk.cell 3;have K:=c.out.1.op;have o1:((q.op:Int) !=1)=false:=by rw[K];rfl
  have o2:((q.op:Int)==2)=false:=by rw[K];rfl
  have Q:=h_ K;clear K;have aa:=h_ (KU (w:=z) q.key (by have:=c.out.1.size;omega) true c.out.1.key.symm);go_wp2_with fail;refine aa.out.mono ?_;rintro e w8 ⟨rfl,rfl⟩;clear aa;by_cases d:n.ring=none
  ·have M:=f.out.2.2.2.2.1 d
   have H:=h_ d;clear d;rw[M]at c3;go_wp2_with fail;refine(KP i.out q 6 se false c.out.1.msgs).mono ?_;rintro e w9 ⟨rfl,E⟩;have H9:=h_ E;clear E;go_wp2_with fail
   first
    |go_end0
    |refine Be (v:= .tuple #[]) (Cx rfl _ _ _) rfl ?_
   refine⟨rfl, ?_⟩
   have e:n.ask t q=n.tell q 6 se false:=by unfold Nd.ask;rw[Aw (by rw[LA c.out.1.key];simp[Q.out]),Ay (by rw[H.out];rfl)]
   rw[e];exact(H9.out.pull 2).drop
  ·have M:=f.out.2.2.2.2.2 d
   obtain⟨O,aj⟩:∃O,l=some O:=by cases p:l with|none=>exact absurd p M|some O=>exact⟨O,rfl⟩
   have u:own=n.id:=by rw[S.out];exact c.out.2.resolve_left d
   have H:=h_2 d u;have w0:((own:Int) !=(n.id:Int))=false:=by rw[u];simp
   rw[aj]at c3;clear d M u;have ac:=h_ (JO I.out ((i.out.pull 1).clock) q.key c.out.1.size);go_wp2_with fail;refine ac.out.mono ?_;rintro e w9 ⟨rfl,y⟩;have E:=i.out.still y;have ab:=h_ E;have al:=y.cell1' z0;have am:=y.cell1' z1;have an:=y.cell1' z2;have ao:=y.cell1' z3
   have HE:Hid (n.ask t q=if n.serves t q.key=false then n.tell q 6 se false else n.get q):=h_ (by
    unfold Nd.ask;rw[Aw (by rw[LA c.out.1.key];simp[Q.out]),Aw (by cases p:n.ring with|none=>exact absurd p H.out.1|some r=>simp),Aw (by rw[←S.out,H.out.2];simp)]
    split
    ·rfl
    ·rw[Aw (by rw[Q.out];decide)])
   clear E y z0 z1 z2 z3 c3 c2 i I ac
   cases N:n.serves t q.key with
   |false=>
    have U:=h_ N;clear N;simp only[Bool.not_false];go_wp2_with fail;refine(KP ab.out q 6 se false c.out.1.msgs).mono ?_;rintro e ak ⟨rfl,D⟩;have P:=h_ D;clear D;go_wp2_with fail
    first
     |go_end0
     |refine Be (v:= .tuple #[]) (Cx rfl _ _ _) rfl ?_
    refine⟨rfl, ?_⟩;rw[HE.out,Ay U.out];exact(P.out.pull 2).drop
   |true=>
    have U:=h_ N;clear N;simp only[Bool.not_true];go_wp2_with fail;refine(nd_get ab.out c.out.1.lim q c.out.1.size c.out.1.few c.out.1.msgs c.out.1.toks).mono ?_;rintro e ak ⟨rfl,D⟩;have P:=h_ D;clear D;go_wp2_with fail
    first
     |go_end0
     |refine Be (v:= .tuple #[]) (Cx rfl _ _ _) rfl ?_
    refine⟨rfl, ?_⟩;rw[HE.out,Aw (by rw[U.out];decide)];exact(P.out.pull 2).drop
 all_goals
  intro L xv W j hA F hN af b hB K' ad;have T:=h_ j;have k:=f.out.1.still j;have c3:W.cell? ⟨x.nb,3,none⟩=some (.pointer l):=by rw[←f.out.2.2.2.1];exact k.ringc
  have q3:W.cell? ⟨m,3,none⟩=some (.string q.key):=(f.out.2.2.1.keep j (by simp)).cell 3;clear k j;simp at af;simp only[Al,Act.put,A8,A7,A6,af]at hB;subst hB
 case m6=>clear hA F hN;go_simp;clear c3 q3;have u:=Yc (f.out.1.still T.out) q.key (by have:=c.out.1.size;omega);rw[f.out.2.2.2.1,←S.out]at u;refine u.mono ?_;rintro e w3 ⟨rfl,k3⟩;go_simp;exact ad _ _ rfl (T.out.trans k3)
 all_goals clear hA F hN;go_simp;exact ad _ _ rfl T.out
end
section
variable {R:List As} {w w':World} {x:NdP} {n n':Nd} {B B' t:Nat} {v:NdV}
theorem Rt (h:Sp (CJ x n B::AF x.cb t::R) w)(id op:Nat)(key:Str)
  (r:∀(W:World) (k:List As),Sp (CJ x n B::AF x.cb t::k) W→Calls Tryz.prog 131 #[pr x.nb 0,.agg (Fu ⟨0,id,op,key⟩).toArray] W fun e w'=>e=.returned (.tuple #[])∧Sp (CJ x n' B'::AF x.cb t::k) w'):
  Calls Tryz.prog 96 #[pr x.nb 0,.int .i64 (id:Int),.int .i64 (op:Int),.string key] w fun e w'=>∃a c,e=.returned (.agg #[a,c])∧Sp (CJ x n'.did.1 B'::Dp a n'.did.2.1::Dn c n'.did.2.2::AF x.cb t::R) w':=by
 have o:Sp (CJ x n B::AF x.cb t::AM w.heap.size [.slice none 0 0,.slice none 0 0] 69::R) (w.alloc (.cells #[.slice none 0 0,.slice none 0 0] 69)):=(h.alloc [.slice none 0 0,.slice none 0 0] 69).push 2;have f:=h_ (r _ _ o);have D:∀W:World,(Instr.build 136 #[(0,.int .i64 0),(1,.int .i64 (id:Int)),(2,.int .i64 (op:Int)),(3,.string key)]).run Tryz.prog W=.ok (.agg (Fu ⟨0,id,op,key⟩).toArray) W:=fun W=>DD W _ _ _ (by rfl)
 clear h o r;go_enter Tryz.func96,Tryz.ntmps96;go_wp2_with fail;obtain⟨A,i⟩:∃b,b=w.heap.size:=⟨_,rfl⟩;rw[←i]at f;rw[←i];clear i D;refine f.out.mono ?_;rintro e M ⟨rfl,q⟩;have z:=h_ q;clear q f;go_wp2_with fail;refine(Lu z.out).mono ?_;rintro e K ⟨a,c,rfl,p⟩;have d:=h_ p;clear p;have E:=(d.out.pull 4).blk;obtain⟨G,H,s⟩:=(d.out.pull 1).msgsV;obtain⟨I,J,u⟩:=(d.out.pull 2).repsV;have j:=h_2 s u;clear s u
 go_wp2_with (refine AS rfl _ _ _ rfl A [.slice none 0 0,.slice none 0 0] [a,c] 69 rfl rfl E rfl Ys (by intro v y;simp at y;rcases y with h|h;(rw[h,j.out.1];rfl);(rw[h,j.out.2];rfl)) ?_;intro L g F)
 have C:=((d.out.pull 4).set g F);refine Be (v:= .agg #[a,c]) ?_ rfl ⟨a,c,rfl, ?_⟩
 ·have l:=g.cell 0
  have m:=g.cell 1;simp only[List.getElem?_cons_zero,List.getElem?_cons_succ]at l m;simp[results,Tryz.results96,go_sem,l,m]
 ·exact C.drop
theorem Ru (h:Sp (CJ x n B::AF x.cb t::R) w)(id:Nat)(key:Str)(f:n.AskOk B ⟨0,id,1,key⟩)(d:n.ring=none∨n.own key=n.id):
  Calls Tryz.prog 96 #[pr x.nb 0,.int .i64 (id:Int),.int .i64 1,.string key] w fun e w'=>∃a b,e=.returned (.agg #[a,b])∧Sp (CJ x (n.ask t ⟨0,id,1,key⟩).did.1 B::Dp a (n.ask t ⟨0,id,1,key⟩).did.2.1 ::Dn b (n.ask t ⟨0,id,1,key⟩).did.2.2 ::AF x.cb t::R) w':=
 Rt h id 1 key (fun W g c=>Rs c ⟨0,id,1,key⟩ f d)
end
theorem P6 (l:List Nat):nodesOk (l.map Int.ofNat)=Nd.mayNodes l:=by
 rw[Bool.eq_iff_iff];unfold nodesOk Nd.mayNodes Ey;simp only[Ar,A0,AD,Bool.not_eq_true',List.isEmpty_eq_false_iff,Cr]
 have c:∀j,j<l.length→(l.map Int.ofNat).getD j 0=((l.getD j 0:Nat):Int):=fun j a=>by rw[Af,AN,Ad a,Af,Ad a];rfl
 have g:∀j,j<l.length→l.getD j 0∈l:=fun j a=>by rw[Af,Ad a];exact BS a
 constructor
 ·rintro⟨h1,h2⟩
  refine⟨⟨fun h=>by simp[h]at h1,fun n i=> ?_⟩,fun p k=> ?_⟩
  ·obtain⟨j,a,rfl⟩:=GU.1 i
   have b:=h2 j a;rw[c j a,Af,Ad a]at b;simp only[Option.getD_some]at b;omega
  ·obtain⟨j,a,rfl⟩:=GU.1 k
   have d:j+1<l.length:=by simp at a;omega
   have b:=(h2 (j+1) d).2.2 (by omega);rw[Nat.add_sub_cancel,c j (by omega),c (j+1) d,Af,Ad (by omega:j<l.length),Af,Ad d]at b;simp only[Option.getD_some]at b;simp only[List.getElem_zip,List.getElem_drop];have e:l[1+j]'(by omega)=l[j+1]:=by congr 1;omega
   rw[e];omega
 ·rintro⟨⟨h1,h2⟩,b⟩
  refine⟨Cs.2 h1,fun j a=> ?_⟩;have o:=h2 _ (g j a);refine⟨by rw[c j a];omega,by rw[c j a];omega,fun m=> ?_⟩;rw[c j a,c (j-1) (by omega)]
  have f:=b (l[j-1]'(by omega),l[j]) (by
   rw[GU];refine⟨j-1,by simp;omega, ?_⟩;simp only[List.getElem_zip,List.getElem_drop]
   congr 1
   congr 1
   omega)
  rw[Af,Ad (by omega:j-1<l.length),Af,Ad a];simp only[Option.getD_some];simp only at f;omega
section
variable {R:List As} {w w':World} {x:NdP} {n:Nd} {B t:Nat} {v:NdV}
theorem Mx {y:Tm}{m:Wm}(h:Sp (CJ x n B::Gs y::AF x.cb t::R) w)(hy:y.m=wmMs m)(ao:m.Ok)(S:m.dst=n.id)(I:B≤800000)(hg:n.GrantOk m)(ad:nodesOk (m.mem.map Int.ofNat)=true):
  Calls Tryz.prog 107 #[pr x.nb 0,.agg (Cm y).toArray] w fun e w'=>∃g i,e=.returned (.agg #[g,i])∧Sp (CJ x (n.step t m).1 (B+2)::Dp g (n.step t m).2.1 ::Dn i (n.step t m).2.2 ::Gs y::AF x.cb t::R) w':=by
 have ap:n.step t m=(n.grant t m).did :=by unfold Nd.step;simp only;rw[Ay hg.kind,Ay (by rw[←P6];exact ad)]
 rw[ap];clear ap;obtain⟨c,aa⟩:∃c,c=Cm y:=⟨_,rfl⟩;have h1:Sp (CJ x n B::Gs y::AF x.cb t::AM w.heap.size c 175::R) (w.alloc (.cells c.toArray 175)):=(h.alloc c 175).push 3;have G:=(h1.alloc [.slice none 0 0,.slice none 0 0] 69);have aq:(w.alloc (.cells c.toArray 175)).heap.size =w.heap.size+1:=by simp
 rw[aq]at G;have G:Sp (CJ x n B::Gs y::AF x.cb t::AM w.heap.size c 175::AM (w.heap.size+1) [.slice none 0 0,.slice none 0 0] 69::R) _:=G.push 4;have H2:=h_ G;have a:=h_7 hy aa ao S I hg ad;rw[←aa];clear h h1 G hy ao S I hg aa ad aq;go_enter Tryz.func107,Tryz.ntmps107;go_wp2_with fail;obtain⟨V,ac⟩:∃b,b=w.heap.size+1:=⟨_,rfl⟩;obtain⟨k,ab⟩:∃b,b=w.heap.size:=⟨_,rfl⟩;obtain⟨T,ah⟩:∃T,T=(w.alloc (.cells c.toArray 175)).alloc (.cells #[.slice none 0 0,.slice none 0 0] 69):=⟨_,rfl⟩;have r:Hid (Sp (CJ x n B::Gs y::AF x.cb t::AM k c 175::AM V [.slice none 0 0,.slice none 0 0] 69::R) T):=h_ (by rw[ah,ac,ab];exact H2.out);clear H2;rw[←ah,←ac,←ab];clear ah ab ac;obtain⟨v,d⟩:=r.out.ndR;have f:=(r.out.pull 3).blk;obtain⟨F,am⟩:=(r.out.pull 1).tm;have ak:=h_ am;have P:=h_2 d f;have q0:((m.dst:Int) !=(n.id:Int))=false:=by rw[a.out.2.2.2.1];simp
 clear d f am;refine wK (A:=[0,1,3,7,15,7,39,103,231,511,1023,2047,4095,8191,16383,32767]) 0 [pr x.nb 0,.bool false,.bool false,pr k 2,.int .i64 (m.dst:Int),pr x.nb 0,pr x.nb 0,pr x.nb 2,.int .i64 (n.id:Int),.bool false,.bool false,.bool false,.agg c.toArray,.bool true,.bool false,.bool false] (fun _ W=>Keep [] T W) ?mstart (.s ?m0<|.s ?m1<|.s ?m2<|.s ?m3<|.s ?m4<|.s ?m5<|.s ?m6<|.s ?m7<|.s ?m8<|.s ?m9<|.s ?m10<|.s ?m11<|.s ?m12<|.s ?m13<|.s ?m14<|.s ?m15<|.nil) ?mfin
 case mstart=>exact(By _ _).drew
 case mfin=>
  intro L w7 p S;have h7:=r.out.still p;have u:=h_ h7;clear p S r ak h7 P;have l:=u.out.ndK.c0;have d2:=u.out.ndK.e2;obtain⟨v7,ar⟩:=u.out.ndR;have aj:=h_ (G4 ar);have az:=X0 (n.dk.boot:Int) (n.dk.epoch:Int);clear ar;simp[Al,Act.put];go_wp2_with fail;refine aj.out.mono ?_;rintro e w8 ⟨rfl,k8⟩;have Q:=u.out.still k8;have M:=h_ Q;have f:=(Q.pull 3).blk;have m0:w8.cell? ⟨k,0,none⟩=some (.int .i64 (m.kind:Int)):=by rw[f.cell 0,a.out.2.1];simp[Cm,CZ,a.out.1,wmMs]
  have au:w8.cell? ⟨k,18,none⟩=some y.vm:=by rw[f.cell 18,a.out.2.1];rfl
  obtain⟨F8,an⟩:=(Q.pull 1).tm;have ag:=an.mem;rw[a.out.1]at ag;have O:=h_ (Dr y.vm (wmMs m).mem ag (by have:=a.out.2.2.1.small;simp[wmMs];omega) true a.out.2.2.2.2.2.2.symm);have N:=h_ f;clear l d2 aj Q k8 u f an ag;have aw:=a.out.2.2.2.2.2.1.kind;rcases aw with q|q
  ·have k0:((m.kind:Int)==2)=true:=by rw[q];rfl
   clear q;go_wp2_with fail;refine O.out.mono ?_;rintro e w9 ⟨rfl,rfl⟩
   go_wp2_with (refine BA 175 _ rfl k rfl 175 c.toArray (0,0) _ N.out AV rfl (by rw[a.out.2.1];exact C4) (by rfl) ?_)
   rw[a.out.2.1];refine(Ps ((M.out.pull 3).push 3) a.out.1 a.out.2.2.2.2.1 a.out.2.2.2.2.2.1).mono ?_;rintro e w9 ⟨rfl,H⟩;have U:=h_ H;clear H M N O m0 au;go_wp2_with fail;refine(Lu U.out).mono ?_;rintro e ax ⟨g,i,rfl,E⟩;have j:=h_ E;clear E;have ae:=(j.out.pull 6).blk;obtain⟨ma,mc,J⟩:=(j.out.pull 1).msgsV;obtain⟨ra,rc,K⟩:=(j.out.pull 2).repsV;have z:=h_2 J K;clear J K
   go_wp2_with (refine AS rfl _ _ _ rfl V [.slice none 0 0,.slice none 0 0] [g,i] 69 rfl rfl ae rfl Ys (by intro v d;simp at d;rcases d with h|h;(rw[h,z.out.1];rfl);(rw[h,z.out.2];rfl)) ?_;intro ay o ai)
   have X:=((j.out.pull 6).set o ai);refine Be (v:= .agg #[g,i]) ?_ rfl ⟨g,i,rfl, ?_⟩
   ·have l:=o.cell 0
    have D:=o.cell 1;simp only[List.getElem?_cons_zero,List.getElem?_cons_succ]at l D;simp[results,Tryz.results107,go_sem,l,D]
   ·exact((X.drop).pull 5).drop
  ·have k0:((m.kind:Int)==2)=false:=by rw[q];rfl
   have k1:((m.kind:Int)==11)=true:=by rw[q];rfl
   clear q;go_wp2_with fail;refine O.out.mono ?_;rintro e w9 ⟨rfl,rfl⟩
   go_wp2_with (refine BA 175 _ rfl k rfl 175 c.toArray (0,0) _ N.out AV rfl (by rw[a.out.2.1];exact C4) (by rfl) ?_)
   rw[a.out.2.1];refine(Ps ((M.out.pull 3).push 3) a.out.1 a.out.2.2.2.2.1 a.out.2.2.2.2.2.1).mono ?_;rintro e w9 ⟨rfl,H⟩;have U:=h_ H;clear H M N O m0 au;go_wp2_with fail;refine(Lu U.out).mono ?_;rintro e ax ⟨g,i,rfl,E⟩;have j:=h_ E;clear E;have ae:=(j.out.pull 6).blk;obtain⟨ma,mc,J⟩:=(j.out.pull 1).msgsV;obtain⟨ra,rc,K⟩:=(j.out.pull 2).repsV;have z:=h_2 J K;clear J K
   go_wp2_with (refine AS rfl _ _ _ rfl V [.slice none 0 0,.slice none 0 0] [g,i] 69 rfl rfl ae rfl Ys (by intro v d;simp at d;rcases d with h|h;(rw[h,z.out.1];rfl);(rw[h,z.out.2];rfl)) ?_;intro ay o ai)
   have X:=((j.out.pull 6).set o ai);refine Be (v:= .agg #[g,i]) ?_ rfl ⟨g,i,rfl, ?_⟩
   ·have l:=o.cell 0
    have D:=o.cell 1;simp only[List.getElem?_cons_zero,List.getElem?_cons_succ]at l D;simp[results,Tryz.results107,go_sem,l,D]
   ·exact((X.drop).pull 5).drop
 all_goals
  intro L xv W p Y af hN al b I K' Z;have C:=h_ p;have d:=P.out.1.still p;have c2:W.cell? ⟨x.nb,2,none⟩=some (.int .i64 (n.id:Int)):=d.id;have f:=P.out.2.keep p (by simp);have m2:W.cell? ⟨k,2,none⟩=some (.int .i64 (m.dst:Int)):=by rw[f.cell 2,a.out.2.1];simp[Cm,CZ,a.out.1,wmMs]
  clear d p f;simp at al;simp only[Al,Act.put,A8,A7,A6,al]at I;subst I
 case m12=>clear Y af hN;refine Cb 175 _ rfl k (by rfl) 175 c.toArray (0,0) _ (P.out.2.keep C.out (by simp)) AV rfl (by rw[a.out.2.1];exact C4) (by rfl) ?_;exact Z _ _ rfl C.out
 case m13=>
  clear Y af hN;go_simp;clear c2 m2;have hm:=ak.out.keep C.out (by simp);have hc:=JP y.m _ _ _ _ hm.rd (by rw[a.out.1];exact a.out.2.2.1.sz) true (by rw[a.out.1];exact a.out.2.2.1.may.symm);have av:Calls Tryz.prog 116 #[.agg c.toArray] W fun e w'=>e=.returned (.bool true)∧Keep [] W w':=by rw[a.out.2.1];exact hc
  refine av.mono ?_;rintro e w3 ⟨rfl,k3⟩;go_simp;exact Z _ _ rfl (C.out.trans k3)
 all_goals clear Y af hN;go_simp;exact Z _ _ rfl C.out
end
theorem OU (k v:Str)(b:itMay k v 0 false=true):(FR.put k v).body.length +8≤Nd.recLen k v:=by
 have d:=b;unfold itMay itKey at b;simp only[Ar,A0]at b
 have e:BM [(k,v,0,false)]=Dc (k,v,0,false):=by unfold BM;rw[Ay (by simp[Dj,d])];simp[CE]
 have g:(B8 [k,v]).length ≤k.size+v.size+4:=by
  have a:B8 [k,v]=Cf k++Cf v:=by simp[B8]
  rw[a,Aj];unfold Cf;rw[Aj,Aj];have j:=DO 2 (zz (k.size:Int)) (by show _<16384;unfold zz;split<;>omega) (by decide);have l:=DO 2 (zz (v.size:Int)) (by show _<16384;unfold zz;split<;>omega) (by decide);have m:(sb k).length =k.size:=CO k;have o:(sb v).length =v.size:=CO v;omega
 have h:(BL [(0:Int),gN false]).length ≤2:=by
  have a:BL [(0:Int),gN false]=Ga (zz 0)++Ga (zz 0):=by simp[BL,gN]
  have c:=DO 1 (zz 0) (by decide) (by decide);rw[a,Aj];omega
 have i:(Dc (k,v,0,false)).length =(B8 [k,v]).length +(BL [(0:Int),gN false]).length :=by unfold Dc;rw[Aj]
 have f:(BM [(k,v,0,false)]).length =(Dc (k,v,0,false)).length :=by rw[e]
 have c:(FR.put k v).body.length =(BM [(k,v,0,false)]).length +1:=rfl;unfold Nd.recLen;omega
theorem W7 (c:Cache)(k v:Str)(h:cGet c k=none):(GA k v c).length =c.length+1:=by
 induction c with
 |nil=>rfl
 |cons p c ih=>
  obtain⟨d,f⟩:=p;rw[Fd]at h;by_cases a:d=k
  ·rw[Ay a]at h;cases h
  ·rw[Aw a]at h
   unfold GA;by_cases b:UR k d=true
   ·rw[Ay b];rfl
   ·rw[Aw b,Aw (fun e=>a e.symm),List.length_cons,ih h,List.length_cons]
structure StOkU (w:World) (x:NdP) (k:Disk) (B:Nat) (L:List Sec) (c t:Nat) (M:List JMk) (Q:List (Nat×FR)) (y:StD):Prop where
 at_:StAt w x.stb x.d x.sb c t 129 L k.boot (k.boot:Int) (k.epoch:Int) (k.ready:Int) k.frozen M Q y
 kp:y.k=x.kp
 ca:y.cb=x.ca
 jo:y.jb=x.jo
 len:L.length=1200
 lim:c+1≤5000+20*B∧t≤1000+B
 jk:M.map (fun a=>toStr a.key)=k.jk
 cache:CacheOf Q k.cache
 used:encN (Q.map frRec)≤k.used
 tab:y.T.length=16∧y.used≤k.cache.length∧y.cnt≤k.cache.length
 pair:Pair (L.map flushSec) 0 y.slot y.turn (meText (k.boot:Int) (k.epoch:Int) (k.ready:Int) k.frozen)
def stB (x:NdP)(k:Disk)(B:Nat):As:=⟨fun F w=>∃(L:List Sec) (c t:Nat) (M:List JMk) (Q:List (Nat×FR)) (y:StD),F=y.G x∧StOkU w x k B L c t M Q y,
 fun⟨L,c,t,M,Q,y,hF,h⟩ e d=>⟨L,c,t,M,Q,y,hF,⟨h.at_.keep e (fun b=>d _ b (by rw[hF];simp[StD.G])) (fun b=>d _ b (by rw[hF];simp[StD.G])) (fun q a b=>d q a (by rw[hF];simp[StD.G,b])),h.kp,h.ca,h.jo,h.len,h.lim,h.jk,h.cache,h.used,h.tab,h.pair⟩⟩,
 fun⟨L,c,t,M,Q,y,hF,h⟩ q a=>by
  rw[hF]at a;simp only[StD.G,Ac]at a;rcases a with rfl|rfl|a
  ·exact h.at_.dev.dev.lt
  ·exact h.at_.dev.secs.lt
  ·exact h.at_.lt q a⟩
def ndLs (x:NdP)(a:As)(n:Nd)(v:NdV):List As:=
 [AM x.nb (ndC x.stb x.le n.id v.rg x.tk v.wv v.rv n.asked v.ms v.rp) 71,a,Yj x.le x.cb n.lep n.lend n.ltop,rgA v.rg n.ring,tkA x.tk n.tlast n.toks,
  BF 223 7 v.wv n.waits.length (rows wtC n.waits),BF 138 5 v.rv n.reads.length (rows rdC n.reads),BF 175 21 v.ms v.mt.length (tc v.mt),WS v.mt,BF 43 6 v.rp n.reps.length (rows rpC n.reps)]
def ndB (x:NdP)(n:Nd)(B:Nat):As:=As.ex fun v:NdV=>As.and (n.Quiet∧v.mt.map (·.m)=n.msgs.map wmMs) (ED (ndLs x (stB x n.dk B) n v))
section
variable {R:List As} {w w':World} {x:NdP} {n:Nd} {B t:Nat} {v:NdV}
theorem Sp.ndKB (h:Sp (ndB x n B::R) w):NdK x w:=by obtain⟨v,h⟩:=h.exE;obtain⟨⟨g,f⟩,h⟩:=h.andE;have e:=h.open_.pre;obtain⟨_,_,a⟩:=e.at 0 rfl;obtain⟨_,L,c,t,M,Q,y,_,b⟩:=e.at 1 rfl;have d:=b.at_.blk;rw[b.kp,b.ca,b.jo]at d;exact⟨a.cell 0,a.cell 1,a.cell 4,a.cell 7,a.cell 8,d.cell 0,d.cell 2⟩
theorem nd_put (h:Sp (CJ x n B::R) w)(V:B≤800000)(key val:Str)(j:itMay key val 0 false=true)(k:cGet n.dk.cache key=none)(hu:n.dk.used+Nd.recLen key val≤2225)(W:n.dk.cache.length<8):
  Calls Tryz.prog 129 #[pr x.ca 0,L7 key val 0 false] w fun e O=>e=.returned (.int .i64 0)∧Sp (ndB x {n with dk:={n.dk with cache:=GA key val n.dk.cache,used:=n.dk.used+Nd.recLen key val}} (B+1)::R) O:=by
 obtain⟨v,b,E,h⟩:=h.nd;obtain⟨F,hF,K⟩:=Yq (l:=GW x n B v) (R:=R) h [1] [0,2,3,4,5,6,7,8,9] 10 rfl rfl;obtain⟨P,_,rfl,⟨L,c,t,M,Q,y,rfl,a⟩,rfl,_⟩:=hF;have Y:=a.lim;have ab:=a.used;have Z:=OU key val j;have aa:=a.tab
 have H:rpF Q key=none:=by
  have:=a.cache.at_ key;rw[k]at this
  cases J:rpF Q key with
  |none=>rfl
  |some p=>rw[J]at this;cases this
 rw[←a.ca];refine(a.at_.put (by omega) (by omega) key val j H (by omega) (by omega)).mono ?_;rintro e w' ⟨rfl,d,f,g,pos,A,X,i,C,hF,m,o,r,S,T,U,s,u,I⟩;refine⟨rfl, ?_⟩;have D:=W7 n.dk.cache key val k
 have N:StOkU w' x {n.dk with cache:=GA key val n.dk.cache,used:=n.dk.used+Nd.recLen key val} (B+1) f g (t+1) M (Q++[(pos,.put key val)]) d:=
  ⟨A,r.trans a.kp,m.trans a.ca,o.trans a.jo,i.trans a.len,by omega,a.jk,a.cache.put pos key val,by
   rw[Nf];show _≤n.dk.used+Nd.recLen key val;omega,by
   show _∧_≤(GA key val n.dk.cache).length ∧_≤(GA key val n.dk.cache).length;rw[D];omega,by rw[s,u];exact a.pair.again a.at_.lim.1 i I⟩
 have z:=K [1,0,2,3,4,5,6,7,8,9] [stB x {n.dk with cache:=GA key val n.dk.cache,used:=n.dk.used+Nd.recLen key val} (B+1)] w' (d.G x) (J9.single ⟨f,g,t+1,M,_,d,rfl,N⟩) (C.mono (fun q b _=>by
  simp only[AE,StD.G,StD.F,Ac,Ag]at b⊢;rcases b with h|h|h
  ·simp[h]
  ·simp[h]
  ·simp[h])) (fun q b=>by
  simp only[AE,StD.G,Ac]at b⊢;rcases b with h|h|h
  ·simp[h]
  ·simp[h]
  ·rcases hF q h with h|h
   ·simp[h]
   ·exact .inr h) rfl rfl
 exact Sp.exI v (Sp.andI ⟨⟨b.knows,b.parts,b.outs,b.ins,b.ready,b.frozen,b.id⟩,E⟩ (DV (ndLs x (stB x {n.dk with cache:=GA key val n.dk.cache,used:=n.dk.used+Nd.recLen key val} (B+1)) {n with dk:={n.dk with cache:=GA key val n.dk.cache,used:=n.dk.used+Nd.recLen key val}} v) z))
theorem VF (h:Sp (ndB x n B::R) w)(o:B≤900000):Calls Tryz.prog 130 #[pr x.ca 0] w fun e k=>e=.returned (.int .i64 0)∧Sp (CJ x n B::R) k:=by
 obtain⟨v,h⟩:=h.exE;obtain⟨⟨b,i⟩,h⟩:=h.andE;obtain⟨F,hF,j⟩:=Yq (l:=ndLs x (stB x n.dk B) n v) (R:=R) h.open_ [1] [0,2,3,4,5,6,7,8,9] 10 rfl rfl;obtain⟨m,_,rfl,⟨L,c,t,M,Q,y,rfl,a⟩,rfl,_⟩:=hF;have p:=a.lim;rw[←a.ca];refine(a.at_.flush (by omega)).mono ?_;rintro e w' ⟨rfl,f,g⟩;refine⟨rfl, ?_⟩
 have d:=j [1,0,2,3,4,5,6,7,8,9] [UQ x n.dk B] w' (y.G x) (J9.single ⟨L.map flushSec,c+1,t,M,Q,y,rfl,⟨f,a.kp,a.ca,a.jo,by rw[AD];exact a.len,by omega,a.jk,a.cache,a.used,a.tab,LF _,a.pair⟩⟩) (g.mono (fun q b _=>by simp only[AE,StD.G,Ac,Am,AG]at b⊢;rcases b with h|h<;>simp[h])) (fun q b=> .inl (by simpa using b)) rfl rfl
 exact Yz v b i d
theorem Pz (h:Sp (GW x n B v++R) w)(i:Nat)(b:i<n.reads.length)(s:n.reads.length≤1000):
  ∃g cap,v.rv=.slice (some ⟨g,0,none⟩) n.reads.length cap∧Calls Tryz.prog 127 #[v.rv,.int .i64 (i:Int),.int .i64 ((i:Int)+1)] w fun e w'=>e=.returned (.slice (some ⟨g,0,none⟩) (n.reads.length-1) cap)∧
   Sp (BF 138 5 (.slice (some ⟨g,0,none⟩) (n.reads.length-1) cap) (n.reads.eraseIdx i).length (rows rdC (n.reads.eraseIdx i))::AM x.nb (ndC x.stb x.le n.id v.rg x.tk v.wv v.rv n.asked v.ms v.rp) 71::UQ x n.dk B::Yj x.le x.cb n.lep n.lend n.ltop::rgA v.rg n.ring::tkA x.tk n.tlast n.toks::
    BF 223 7 v.wv n.waits.length (rows wtC n.waits)::BF 175 21 v.ms v.mt.length (tc v.mt)::WS v.mt::BF 43 6 v.rp n.reps.length (rows rpC n.reps)::R) w':=by
 obtain⟨F,hF,p⟩:=Yq (l:=GW x n B v) (R:=R) h [6] [0,1,2,3,4,5,7,8,9] 10 rfl rfl;obtain⟨r,_,rfl,⟨rfl,d⟩,rfl,_⟩:=hF;obtain⟨g,cap,a,_⟩:=Cq (k:=5) KK d (Ad b);refine⟨g,cap,a, ?_⟩
 have j:Calls Tryz.prog 127 #[v.rv,.int .i64 (i:Int),.int .i64 ((i:Int)+1)] w fun e w'=>e=.returned (.slice (some ⟨g,0,none⟩) (n.reads.length-1) cap)∧w'.ownsRow 0 138 5 (.slice (some ⟨g,0,none⟩) (n.reads.length-1) cap) (n.reads.length-1) ((rows rdC n.reads).take (i*5)++(rows rdC n.reads).drop ((i+1)*5))∧Keep [g] w w':=by rw[a]at d⊢;exact UO d (ON SA _) i b (by omega) _ rfl
 refine j.mono ?_;rintro e w' ⟨rfl,o,k⟩;refine⟨rfl, ?_⟩;have m:(n.reads.eraseIdx i).length =n.reads.length-1:=by rw[List.length_eraseIdx,Ay b]
 have f:=p [0,1,2,3,4,5,6,7,8,9] [BF 138 5 (.slice (some ⟨g,0,none⟩) (n.reads.length-1) cap) (n.reads.eraseIdx i).length (rows rdC (n.reads.eraseIdx i))] w' [g] (J9.single ⟨rfl,by rw[m,←QW KK];exact o⟩) (k.mono (fun q c _=>by rw[a];simpa[Value.ownBlock]using c)) (fun q c=> .inl (by rw[a];simpa[Value.ownBlock]using c)) rfl rfl;exact f
end
theorem wtC_len (q:Wt):(wtC q).length =7:=rfl
theorem wtC_one (q:Wt):∀v∈wtC q,v.oneCell'=true:=by intro v a;simp only[wtC,O1,List.cons_append,List.nil_append,Ac,Am,AG]at a;rcases a with rfl|rfl|rfl|rfl|rfl|rfl|rfl<;>rfl
theorem Tryz.infoWt:(Tryz.prog.info? 223).map (fun i=>(i.zero,i.size,i.bytes))=some (some (.agg #[.int .i64 0,.int .i64 0,.int .i64 0,.string ByteArray.empty,.int .i64 0,.int .i64 0,.int .i64 0]),7,64):=by kernel_rfl
theorem wtC_fill (c:Wt):Instr.fill (fun i=>some (i*7,7)) ((Array.range (1*7)).map ((Value.agg #[.int .i64 0,.int .i64 0,.int .i64 0,.string ByteArray.empty,.int .i64 0,.int .i64 0,.int .i64 0]).cells[· % 7]!)) [(0,.agg (wtC c).toArray)]=some (wtC c).toArray :=by kernel_rfl
theorem run_bsWt (c:Wt)(W:World):(Instr.buildSlice 64 1 #[(0,.agg (wtC c).toArray)]).run Tryz.prog W=.ok (.slice (some ⟨W.heap.size,0,none⟩) 1 1) (W.alloc (.cells (wtC c).toArray 223)):=by obtain⟨e,b,d,a,f⟩:=AU Tryz.infoWt;exact run_buildSlice W _ _ 1 _ _ e _ Tryz.underlying64 b d (by rw[a];decide) (by rw[a];decide) (by rw[a];exact wtC_fill c)
def askM (n:Nd)(q:Who)(id:Nat):Wm:={kind:=13,dst:=n.own q.key,id:=id,op:=q.op,key:=q.key,epoch:=n.dk.epoch}
structure Nd.AwayOk (n:Nd) (q:Who):Prop where
 key:itKey q.key=true
 size:q.key.size≤1000
 op:q.op=1
 msgs:n.msgs.length<300
 waits:n.waits.length<1000
 lim:n.dk.boot≤1000000∧n.asked<1000000
 ring:n.ring≠none
 own:n.own q.key≠n.id
def Nd.more (n:Nd):Nd:={n with asked:=n.asked+1}
def Nd.wait (n:Nd)(a:Wt):Nd:={n with waits:=n.waits++[a]}
theorem ask_away (n:Nd)(t:Nat)(q:Who)(h:n.AwayOk q):n.ask t q=(n.more.wait ⟨q,n.dk.boot*1048576+(n.asked+1),n.own q.key,t⟩).say [askM n q (n.dk.boot*1048576+(n.asked+1))]:=by unfold Nd.ask;rw[Aw (by rw[LA h.key];simp[h.op]),Aw (by cases a:n.ring with|none=>exact absurd a h.ring|some r=>simp),Ay h.own];rfl
def away10S (x:NdP)(n:Nd)(B t:Nat)(v:NdV)(R:List As)(a:Nat)(q:Who)(c:Wt)(U:Nat→Bool)(X:Nat→Value)(W:World):Prop:=
 (W.cell? ⟨x.nb,1,none⟩=some (pr x.le 0)∧W.cell? ⟨x.le,0,none⟩=some (pr x.cb 0)∧IsClock W x.cb (t:Int))∧Blk W a (Fu q) 136∧(U 21=false→W.cell? ⟨x.nb,9,none⟩=some v.wv)∧
 (U 17=false→Sp (GW x n B v++AF x.cb t::AM a (Fu q) 136::R) W)∧
 (U 17=true→U 18=false→∃b,X 17=.slice (some ⟨b,0,none⟩) 1 1∧Sp (AM b (wtC c) 223::(GW x n B v++AF x.cb t::AM a (Fu q) 136::R)) W)∧
 (U 18=true→U 21=false→Sp (BF 223 7 (X 18) (n.waits++[c]).length (rows wtC (n.waits++[c]))::
  AM x.nb (ndC x.stb x.le n.id v.rg x.tk v.wv v.rv n.asked v.ms v.rp) 71::UQ x n.dk B::Yj x.le x.cb n.lep n.lend n.ltop::rgA v.rg n.ring::tkA x.tk n.tlast n.toks::
  BF 138 5 v.rv n.reads.length (rows rdC n.reads)::BF 175 21 v.ms v.mt.length (tc v.mt)::WS v.mt::BF 43 6 v.rp n.reps.length (rows rpC n.reps)::AF x.cb t::AM a (Fu q) 136::R) W)∧
 (U 21=true→Sp (GW x (n.wait c) B {v with wv:=X 18}++AF x.cb t::AM a (Fu q) 136::R) W)
def away11S (x:NdP)(n:Nd)(B t:Nat)(R:List As)(a:Nat)(q:Who)(b:Wm)(U:Nat→Bool)(X:Nat→Value)(W:World):Prop:=
 NdK x W∧Blk W a (Fu q) 136∧(U 17=false→U 18=false→Sp (CJ x n B::AF x.cb t::AM a (Fu q) 136::R) W)∧
 (U 17=true→U 18=false→Sp (CJ x n B::Dp (X 17) [b]::AF x.cb t::AM a (Fu q) 136::R) W)∧
 (U 18=true→Sp (CJ x (n.say [b]) B::AF x.cb t::AM a (Fu q) 136::R) W)
section
variable {R:List As} {w w':World} {x:NdP} {n:Nd} {B t:Nat} {v:NdV}
theorem Sp.ndMore (h:Sp (CJ x n B::R) w):w.cell? ⟨x.nb,11,none⟩=some (.int .i64 (n.asked:Int))∧w.frozen? ⟨x.nb,11,none⟩=false∧Sp (CJ x n.more B::R) (w.setCell ⟨x.nb,11,none⟩ (.int .i64 ((n.asked+1:Nat):Int))):=by
 obtain⟨v,a,d,h⟩:=h.nd;obtain⟨F,hF,e⟩:=Yq (l:=GW x n B v) (R:=R) h [0] [1,2,3,4,5,6,7,8,9] 10 rfl rfl;obtain⟨f,_,rfl,⟨rfl,b⟩,rfl,_⟩:=hF;refine⟨b.cell 11,b.free 11, ?_⟩
 have c:=e [0,1,2,3,4,5,6,7,8,9] [AM x.nb (ndC x.stb x.le n.id v.rg x.tk v.wv v.rv (n.asked+1) v.ms v.rp) 71] (w.setCell ⟨x.nb,11,none⟩ (.int .i64 ((n.asked+1:Nat):Int))) [x.nb]
  (J9.single ⟨rfl,b.set 11 _⟩) (Or (p:=⟨x.nb,11,none⟩) (By _ _) (.inl (by simp)) _) (fun q a=> .inl (by simp at a;simp[a])) rfl rfl
 exact Yz (n:=n.more) v (a.same rfl rfl rfl rfl rfl rfl rfl) d c
theorem nd_ask_away (h:Sp (CJ x n B::AF x.cb t::R) w)(q:Who)(J:n.AwayOk q):
  Calls Tryz.prog 131 #[pr x.nb 0,.agg (Fu q).toArray] w fun e w'=>e=.returned (.tuple #[])∧Sp (CJ x (n.ask t q) B::AF x.cb t::R) w':=by
 have a9:=h_ (ask_away n t q J);have h1:Sp (CJ x n B::AF x.cb t::AM w.heap.size (Fu q) 136::R) (w.alloc (.cells (Fu q).toArray 136)):=(h.alloc (Fu q) 136).push 2;obtain⟨K,H1⟩:=i_2 J h1;clear h h1 J;go_enter Tryz.func131,Tryz.ntmps131;go_wp2_with fail;obtain⟨i,ay⟩:∃b,b=w.heap.size:=⟨_,rfl⟩;obtain⟨w1,a6⟩:∃w1,w1=w.alloc (.cells (Fu q).toArray 136):=⟨_,rfl⟩;have ad:Hid (Sp (CJ x n B::AF x.cb t::AM i (Fu q) 136::R) w1):=h_ (by rw[a6,ay];exact H1.out);clear H1;rw[←a6,←ay];clear a6 ay;obtain⟨v,E⟩:=ad.out.ndR;have bj:=(ad.out.pull 1).clock;have bn:=(ad.out.pull 2).blk
 obtain⟨rb,a5⟩:∃rb,Cu v.rg=.pointer (some rb):=by
  cases hh:v.rg with
  |none=>exact absurd ((EF E).1 hh) K.out.ring
  |some b=>exact⟨⟨b,0,none⟩,rfl⟩
 have HV:=h_4 E bj bn a5;have c3:w1.cell? ⟨x.nb,3,none⟩=some (.pointer (some rb)):=by rw[←a5];exact E.ringc
 obtain⟨own,a4⟩:∃o,o=n.own q.key:=⟨_,rfl⟩;have aj:=h_ a4;obtain⟨id,az⟩:∃id,id=n.dk.boot*1048576+(n.asked+1):=⟨_,rfl⟩;have bu:=h_ az;have HE:Hid (n.ask t q=(n.more.wait ⟨q,id,own,t⟩).say [askM n q id]):=h_ (by rw[az,a4];exact a9.out);clear a9;clear E bj bn a5 a4 c3 az;refine wK (A:=[0,1,3,7,0,16,63,127]) 0 [pr x.nb 0,pr x.nb 0,pr x.nb 3,.pointer (some rb),pr i 3,.string q.key,.int .i64 (own:Int),.int .i64 (own:Int)] (fun _ W=>Keep [] w1 W) ?mstart (.s ?m0<|.s ?m1<|.s ?m2<|.s ?m3<|.s ?m4<|.s ?m5<|.s ?m6<|.s ?m7<|.nil) ?mfin
 case mstart=>exact(By _ _).drew
 case mfin=>
  intro L w7 d N;have h7:=ad.out.still d;have H7:=h_ h7;have aq:=h_ (HV.out.1.still d);have c3:w7.cell? ⟨x.nb,3,none⟩=some (.pointer (some rb)):=by rw[←HV.out.2.2.2];exact aq.out.ringc
  have c2:=aq.out.id;obtain⟨c11,bw,bk⟩:=h7.ndMore;have bb:=h_ bk;clear d N h7 ad bk;simp[Al,Act.put];have z0:w7.cell? ⟨i,0,none⟩=some (.int .i64 (q.node:Int)):=(H7.out.pull 2).blk.cell 0;have z1:w7.cell? ⟨i,1,none⟩=some (.int .i64 (q.id:Int)):=(H7.out.pull 2).blk.cell 1;have G:w7.cell? ⟨i,2,none⟩=some (.int .i64 (q.op:Int)):=(H7.out.pull 2).blk.cell 2;have H:w7.cell? ⟨i,3,none⟩=some (.string q.key):=(H7.out.pull 2).blk.cell 3;have a3:=K.out.op;have o1:((q.op:Int) !=1)=false:=by rw[a3];rfl
  have cd:=h_ a3
  have w0:((own:Int) !=(n.id:Int))=true:=by have:=K.out.own;rw[←aj.out]at this;simp;omega
  have bx:n.asked<1000000:=K.out.lim.2;clear a3;have ba:=h_ (KU (w:=w7) q.key (by have:=K.out.size;omega) true K.out.key.symm);go_wp2_with fail;refine ba.out.mono ?_;rintro e w8 ⟨rfl,rfl⟩;clear ba;go_wp2_with fail;obtain⟨w9,an⟩:∃w9,w9=w7.setCell ⟨x.nb,11,none⟩ (.int .i64 ((n.asked+1:Nat):Int)):=⟨_,rfl⟩;have bi:((n.asked:Int)+1)=((n.asked+1:Nat):Int):=by push_cast;rfl
  first
   |rw[←an]
   |(rw[bi,←an])
  have H9:Hid (Sp (CJ x n.more B::AF x.cb t::AM i (Fu q) 136::R) w9):=h_ (by rw[an];exact bb.out);clear an bi z0 z1 G H c3 c2 c11 bw H7 aq bb w0 o1;obtain⟨m,al⟩:∃m,m=n.more:=⟨_,rfl⟩;rw[←al]at H9;rw[←al]at HE;have Q:Hid (m.dk=n.dk∧m.asked=n.asked+1∧m.waits=n.waits∧m.msgs=n.msgs∧m.own q.key=own):=h_ (by rw[al];exact⟨rfl,rfl,rfl,rfl,aj.out.symm⟩);clear al;obtain⟨v9,bm⟩:=H9.out.ndR;have ar:=h_ bm;obtain⟨bt,af⟩:∃bt,bt=m.dk.boot*1048576:=⟨_,rfl⟩;have bs:=h_ af;have b4:=K.out.lim;have ao:IntKind.i64.wrap ((m.dk.boot:Int)*1048576)=(bt:Int):=by rw[A9];have:=Q.out.1;rw[af,this];omega
  have a0:id=bt+m.asked:=by rw[bu.out,af,Q.out.1,Q.out.2.1]
  have cc:=h_ a0;have ap:IntKind.i64.wrap ((bt:Int)+(m.asked:Int))=(id:Int):=by rw[A9];have h1:=Q.out.1;have S:=Q.out.2.1;rw[a0,af,h1,S];omega
  have bo:(bt:Int)+(m.asked:Int)=(id:Int):=by omega
  have au:=h_3 ao ap bo;clear bm af a0 ao ap bo b4 bx;refine wK (A:=[0,1,3,7,15,31,0,64,192,448,1023,2047]) 0 [pr x.nb 0,pr x.nb 0,pr x.nb 0,pr x.stb 0,.int .i64 (m.dk.boot:Int),.int .i64 (bt:Int),pr x.nb 0,pr x.nb 0,pr x.nb 11,.int .i64 (m.asked:Int),.int .i64 (id:Int),.int .i64 (id:Int)] (fun _ W=>Keep [] w9 W) ?cstart (.s ?c0<|.s ?c1<|.s ?c2<|.s ?c3<|.s ?c4<|.s ?c5<|.s ?c6<|.s ?c7<|.s ?c8<|.s ?c9<|.s ?c10<|.s ?c11<|.nil) ?cfin
  case cstart=>exact(By _ _).drew
  case cfin=>
   intro L ca d N;have be:=H9.out.still d;have ag:=h_ be;clear d N be ar H9 au bs;simp[Al,Act.put];obtain⟨v,J,a2,hL⟩:=ag.out.nd;have HL:=h_3 hL J a2;have ai:=h_ (ag.out.pull 2).blk;have a8:=h_ (ag.out.pull 1).clock;have ak:=h_ (hL.ndL_r J a2);clear hL J a2 ag;obtain⟨im,b3,b7,b8,b9⟩:=AU Tryz.infoWt;obtain⟨C,bp⟩:∃C:Wt,C=⟨q,id,own,t⟩:=⟨_,rfl⟩;have bd:=h_ bp;clear bp;go_wp2_with fail;refine wM (A:=[0,0,2,6,14,0,0,0,0,256,768,1792,3840,7936,16128,32512,65504,131040,262142,524287,1048575,2097151]) 2490368 [fun _=>pr x.nb 0,fun _=>pr x.nb 0,fun _=>pr x.nb 0,fun _=>pr x.nb 9,fun _=>v.wv,fun _=> .agg (Fu q).toArray,fun _=> .int .i64 (id:Int),fun _=> .int .i64 (own:Int),fun _=>pr x.nb 0,fun _=>pr x.nb 0,fun _=>pr x.nb 1,fun _=>pr x.le 0,fun _=>pr x.le 0,fun _=>pr x.le 0,fun _=>pr x.cb 0,fun _=> .int .i64 (t:Int),fun _=> .agg (wtC C).toArray,fun _=>undef,fun _=>undef,fun _=>pr x.nb 0,fun _=>pr x.nb 9,fun _=>undef] (away10S x m B t v R i q C) ?dstart (.s ?d0<|.s ?d1<|.s ?d2<|.s ?d3<|.s ?d4<|.s ?d5<|.s ?d6<|.s ?d7<|.s ?d8<|.s ?d9<|.s ?d10<|.s ?d11<|.s ?d12<|.s ?d13<|.s ?d14<|.s ?d15<|.s ?d16<|.t ?d17<|.t ?d18<|.s ?d19<|.s ?d20<|.t ?d21<|.nil) ?dfin
   case dstart=>intro X;exact⟨⟨ak.out.k.c1,ak.out.le.blk.cell 0,a8.out.keep (By [] ca).drew (by simp)⟩,ai.out,fun _=>ak.out.blk.cell 9,fun _=>HL.out.1.drew,(fun h=>by cases h),(fun h=>by cases h),(fun h=>by cases h)⟩
   case dfin=>
    intro U X cg d N;have bf:=d.2.2.2.2.2.2 (N 21 (by decide) (by decide));have bg:=Yz (n:=m.wait C) (R:=AF x.cb t::AM i (Fu q) 136::R) {v with wv:=X 18} (HL.out.2.1.same rfl rfl rfl rfl rfl rfl rfl) HL.out.2.2 bf;have ah:=h_ bg;clear d N bf bg HL ak a8 ai;simp[Al,Act.put,FK,Ab];obtain⟨M,am⟩:∃M,M=m.wait C:=⟨_,rfl⟩;have bc:Hid (M.dk=n.dk∧M.msgs=n.msgs):=h_ (by rw[am];exact⟨Q.out.1,Q.out.2.2.2.1⟩);rw[←am]at ah;rw[←bd.out,←am]at HE;obtain⟨O,a1⟩:∃O,O=askM n q id:=⟨_,rfl⟩;have ae:Hid (O={kind:=13,dst:=own,id:=id,op:=q.op,key:=q.key,epoch:=M.dk.epoch}):=h_ (by rw[a1];unfold askM;rw[←aj.out,bc.out.1]);rw[←a1]at HE;clear a1 am;have bv:=h_ ah.out.ndK;have ai:=h_ (ah.out.pull 2).blk;go_wp2_with fail;refine wM (A:=[0,0,0,0,8,0,32,0,128,384,896,1920,3968,8064,16256,32640,65534,131070,262143]) 393216 [fun _=>pr x.nb 0,fun _=> .int .i64 (own:Int),fun _=> .int .i64 (id:Int),fun _=>pr i 2,fun _=> .int .i64 (q.op:Int),fun _=>pr i 3,fun _=> .string q.key,fun _=>pr x.nb 0,fun _=>pr x.nb 0,fun _=>pr x.nb 0,fun _=>pr x.stb 0,fun _=>pr x.stb 0,fun _=>pr x.stb 2,fun _=>pr x.kp 0,fun _=> .agg #[.int .i64 (M.dk.boot:Int),.int .i64 (M.dk.epoch:Int),.int .i64 0,.bool false],fun _=> .int .i64 (M.dk.epoch:Int),fun _=> .agg (Cm (FJ (wmMs O))).toArray,fun _=>undef,fun _=>undef] (away11S x M B t R i q O) ?estart (.s ?e0<|.s ?e1<|.s ?e2<|.s ?e3<|.s ?e4<|.s ?e5<|.s ?e6<|.s ?e7<|.s ?e8<|.s ?e9<|.s ?e10<|.s ?e11<|.s ?e12<|.s ?e13<|.s ?e14<|.s ?e15<|.s ?e16<|.t ?e17<|.t ?e18<|.nil) ?efin
    case estart=>intro X;exact⟨bv.out.still (By _ _).drew,ai.out.drew,fun _ _=>ah.out.drew,(fun h=>by cases h),(fun h=>by cases h)⟩
    case efin=>
     intro U X ch d N;have bh:=d.2.2.2.2 (N 18 (by decide) (by decide));have br:=h_ bh;clear d N bh;simp[Al,Act.put,FK,Ab];go_wp2_with fail
     first
      |go_end0
      |refine Be (v:= .tuple #[]) (Cx rfl _ _ _) rfl ?_
     refine⟨rfl, ?_⟩;rw[HE.out];exact(br.out.pull 2).drop
    case' e17|e18=>intro U X xv W d hl u j z r g B y K' p;have f:=h_ d;have d0:=d.1.c0;have e2:=d.1.e2;have G:W.cell? ⟨i,2,none⟩=some (.int .i64 (q.op:Int)):=d.2.1.cell 2;have H:W.cell? ⟨i,3,none⟩=some (.string q.key):=d.2.1.cell 3;clear d;simp[mV,mY,Ab]at z;simp only[Al,Act.put,A8,A7,A6,z]at y;subst y
    case e17=>have ab:U 18=false:=g 18 (by decide);clear u j r g d0 e2 G H;have aa:=f.out.2.2.1 hl ab;refine GX rfl (.tmp 107) rfl (FJ (wmMs O)) (by rfl) ?_;have S:=aa.oneMsg O _ rfl (by rw[ae.out]) (by rw[ae.out]) (by rw[ae.out]) (by rw[ae.out]);have Y:Keep [] W (W.alloc (.cells (Cm (FJ (wmMs O))).toArray 175)):=(By _ _).alloc _;refine p _ _ _ rfl ⟨f.out.1.still Y,f.out.2.1.keep Y (by simp),fun h=>by simp[upd]at h,fun _ _=> ?_,fun h=>by simp[upd,ab]at h⟩;rw[Bh];exact S.push 1
    case e18=>have Z:U 17=true:=j 17 (by decide);have e17:=u 17 Z;clear u j r g d0 e2 G H;have aa:=f.out.2.2.2.1 Z hl;rw[e17]at aa;go_simp;refine(VD aa (by have:=K.out.msgs;rw[bc.out.2];simp;omega)).mono ?_;rintro e w3 ⟨rfl,D⟩;go_simp;exact p _ _ _ rfl ⟨D.ndK,(D.pull 2).blk,fun _ h=>by simp[upd]at h,fun _ h=>by simp[upd]at h,fun _=>D⟩
    all_goals intro U X xv W d u j z r g B y K' p;have f:=h_ d;have d0:=d.1.c0;have e2:=d.1.e2;have G:W.cell? ⟨i,2,none⟩=some (.int .i64 (q.op:Int)):=d.2.1.cell 2;have H:W.cell? ⟨i,3,none⟩=some (.string q.key):=d.2.1.cell 3;clear d;simp[mV,mY,Ab]at z;simp only[Al,Act.put,A8,A7,A6,z]at y;subst y
    case e14=>have bq:U 17=false:=g 17 (by decide);have ab:U 18=false:=g 18 (by decide);clear u j r g;clear d0 e2 G H;have aa:=f.out.2.2.1 bq ab;obtain⟨v,E⟩:=aa.ndR;go_simp;refine(G4 E).mono ?_;rintro e w3 ⟨rfl,k3⟩;go_simp;exact p _ _ _ rfl rfl ⟨f.out.1.still k3,f.out.2.1.keep k3 (by simp),fun _ _=>aa.still k3,fun h=>absurd h (by rw[bq];decide),fun h=>absurd h (by rw[ab];decide)⟩
    case e16=>clear u j r g;clear d0 e2 G H;refine Lb rfl 175 _ rfl #[(0,.int .i64 13),(2,.int .i64 (own:Int)),(7,.int .i64 (id:Int)),(8,.int .i64 (q.op:Int)),(9,.string q.key),(3,.int .i64 (M.dk.epoch:Int))] (by simp only[DZ,Br,Cy];rfl) (.agg (Cm (FJ (wmMs O))).toArray) (fun W=>by rw[ae.out];exact DD W _ _ _ (by rfl)) ?_;exact p _ _ _ rfl rfl f.out
    all_goals clear u j r g;go_simp;exact p _ _ _ rfl rfl f.out
   case' d17|d18|d21=>intro U X xv W d hl u j z r g B y K' p;have f:=h_ d;obtain⟨⟨d1,l0,_⟩,I,_⟩:=d;have z0:W.cell? ⟨i,0,none⟩=some (.int .i64 (q.node:Int)):=I.cell 0;have z1:W.cell? ⟨i,1,none⟩=some (.int .i64 (q.id:Int)):=I.cell 1;have G:W.cell? ⟨i,2,none⟩=some (.int .i64 (q.op:Int)):=I.cell 2;have H:W.cell? ⟨i,3,none⟩=some (.string q.key):=I.cell 3;clear I;simp[mV,mY,Ab]at z;simp only[Al,Act.put,A8,A7,A6,z]at y;subst y
   case d17=>have ab:U 18=false:=g 18 (by decide);have ac:U 21=false:=g 21 (by decide);clear u j r g d1 l0 z0 z1 G H;have h1:=f.out.2.2.2.1 hl;refine Ny (T:=223) rfl (.tmp 86) rfl (wtC C) (by rfl) (run_bsWt C) ?_;have Y:Keep [] W (W.alloc (.cells (wtC C).toArray 223)):=(By _ _).alloc _;have S:=h1.alloc (wtC C) 223;refine p _ _ _ rfl ⟨⟨Y.cell1' f.out.1.1,Y.cell1' f.out.1.2.1,f.out.1.2.2.keep Y (by simp)⟩,f.out.2.1.keep Y (by simp),fun h=>Y.cell1' (f.out.2.2.1 ac),fun h=>by simp[upd]at h,fun _ _=>⟨W.heap.size,Bh _ _ _,S⟩,fun h=>by simp[upd,ab]at h,fun h=>by simp[upd,ac]at h⟩
   case d18=>
    have Z:U 17=true:=j 17 (by decide);have ac:U 21=false:=g 21 (by decide);have e17:=u 17 Z;clear u j r g d1 l0 z0 z1 G H;obtain⟨b,b6,S⟩:=f.out.2.2.2.2.1 Z hl;have bz:=S.blk;obtain⟨F,hF,hs⟩:=Yq (l:=AM b (wtC C) 223::GW x m B v) (R:=AF x.cb t::AM i (Fu q) 136::R) S [0,6] [1,2,3,4,5,7,8,9,10] 11 rfl rfl;obtain⟨F0,_,rfl,⟨rfl,_⟩,⟨F1,_,rfl,⟨rfl,bl⟩,rfl,_⟩,d0⟩:=hF;obtain⟨ra,rc,ce⟩:=A4 bl;have b5:=KI (P:=Tryz.prog) Tryz.underlying64 W b (wtC C) (wtC_len _) bz (wtC_one _);have cf:m.waits.length<1000:=by have:=K.out.waits;rw[Q.out.2.2.1];exact this
    refine BO _ rfl (.tmp 74) (.tmp 87) 64 64 rfl 0 223 im _ 7 64 Tryz.underlying64 b3 b7 b8 b9 rfl (by decide) _ m.waits.length _ (by rfl) bl _ 1 _ (by rw[←b6,e17];rfl) b5 (by unfold maxLen;omega) (by omega) (AA _) ?_;intro v2 w2 b0 b1 _ b2;have kg:=DJ b1
    have D:=hs [0,1,2,3,4,5,6,7,8,9] [BF 223 7 v2 (m.waits++[C]).length (rows wtC (m.waits++[C]))] w2 v2.ownBlock.toList (J9.single ⟨rfl,by rw[Aj,List.length_singleton,I8];exact b0⟩) (kg.mono (fun q J _=>by simp;right;exact Ae.1 J)) (fun q J=>by
     rcases b2 q (Ae.1 J)with h|h
     ·exact .inl (by simp[h])
     ·exact .inr h) rfl rfl
    obtain⟨_,_,V⟩:=D.pre.at 1 rfl;obtain⟨_,_,ax⟩:=D.pre.at 3 rfl;obtain⟨_,_,av⟩:=D.at 10 rfl;obtain⟨_,_,aw⟩:=D.at 11 rfl;refine p _ _ _ rfl ⟨⟨V.cell 1,ax.blk.cell 0,av⟩,aw,fun h=>V.cell 9,fun h=>by simp[upd,Z]at h,fun _ h=>by simp[upd]at h,fun _ _=> ?_,fun h=>by simp[upd,ac]at h⟩;rw[Bh];exact D
   case d21=>
    have a7:U 18=true:=j 18 (by decide);have Z:U 17=true:=j 17 (by decide);have e18:=u 18 a7;clear u j r g d1 l0 z0 z1 G H;have D:=f.out.2.2.2.2.2.1 a7 hl
    obtain⟨xa,xc,hx⟩:∃a c,X 18=.slice a (m.waits.length+1) c:=by obtain⟨a,c,hh⟩:=A4 D.row;exact⟨a,c,by rw[hh,Aj,List.length_singleton]⟩
    have V:=(D.pull 1).blk;have c9:W.cell? ⟨x.nb,9,none⟩=some v.wv:=V.cell 9;have f9:=V.free 9;have h4:=((D.pull 1).setCell 9 (X 18));have HX:=h_ hx;rw[hx]at e18;simp only[←e18]at p⊢;clear e18 D V;go_simp;have h5:=h4.sel (l:=[_,_,_,_,_,_,_,_,_,_]) [0,2,3,4,5,1,6,7,8,9] 10 rfl rfl;obtain⟨_,_,V⟩:=h5.pre.at 0 rfl;obtain⟨_,_,ax⟩:=h5.pre.at 2 rfl;obtain⟨_,_,av⟩:=h5.at 10 rfl;obtain⟨_,_,aw⟩:=h5.at 11 rfl;refine p undef _ _ rfl ⟨?_, ?_,fun h=>by simp[upd]at h,fun h=>by simp[upd,Z]at h,fun _ h=>by simp[upd,a7]at h,fun _ h=>by simp[upd]at h,fun _=> ?_⟩
    ·rw[←hx];exact⟨V.cell 1,ax.blk.cell 0,av⟩
    ·rw[←hx];exact aw
    ·rw[Bs _ _ _ _ (by decide),←hx]
     exact h5
   all_goals intro U X xv W d u j z r g B y K' p;have f:=h_ d;obtain⟨⟨d1,l0,_⟩,I,_⟩:=d;have z0:W.cell? ⟨i,0,none⟩=some (.int .i64 (q.node:Int)):=I.cell 0;have z1:W.cell? ⟨i,1,none⟩=some (.int .i64 (q.id:Int)):=I.cell 1;have G:W.cell? ⟨i,2,none⟩=some (.int .i64 (q.op:Int)):=I.cell 2;have H:W.cell? ⟨i,3,none⟩=some (.string q.key):=I.cell 3;clear I;simp[mV,mY,Ab]at z;simp only[Al,Act.put,A8,A7,A6,z]at y;subst y
   case d4=>have ac:U 21=false:=g 21 (by decide);clear u j r g;have c9:W.cell? ⟨x.nb,9,none⟩=some v.wv:=f.out.2.2.1 ac;go_simp;exact p _ _ _ rfl rfl f.out
   case d15=>clear u j r g;clear d1 l0 z0 z1 G H;go_simp;refine(DN f.out.1.2.2).mono ?_;rintro e w3 ⟨rfl,rfl⟩;go_simp;exact p _ _ _ rfl rfl f.out
   case d16=>clear u j r g;refine Lb rfl 223 _ rfl #[(0,.agg (Fu q).toArray),(1,.int .i64 (id:Int)),(2,.int .i64 (own:Int)),(3,.int .i64 (t:Int))] (by simp only[DZ,Br,Cy];rfl) (.agg (wtC C).toArray) (fun W=>by rw[bd.out];exact DD W _ _ _ (by rfl)) ?_;exact p _ _ _ rfl rfl f.out
   all_goals clear u j r g;go_simp;exact p _ _ _ rfl rfl f.out
  all_goals intro L xv W d j r g z b y K' p;have f:=h_ d;have E:=ar.out.still d;have d0:=E.k.c0;have c11:=E.blk.cell 11;have c11:W.cell? ⟨x.nb,11,none⟩=some (.int .i64 (m.asked:Int)):=c11;have ao:=au.out.1;have ap:=au.out.2.1;clear E d;simp at z;simp only[Al,Act.put,A8,A7,A6,z]at y;subst y
  case c4=>clear j r g;go_simp;clear d0 c11 ao ap;have ho:=nd_started (ar.out.still f.out);refine ho.mono ?_;rintro e w3 ⟨rfl,rfl⟩;go_simp;exact p _ _ rfl f.out
  all_goals clear j r g;go_simp;exact p _ _ rfl f.out
 all_goals
  intro L xv W d j r g z b y K' p;have f:=h_ d;have E:=HV.out.1.still d;have c3:W.cell? ⟨x.nb,3,none⟩=some (.pointer (some rb)):=by rw[←HV.out.2.2.2];exact E.ringc
  have q3:W.cell? ⟨i,3,none⟩=some (.string q.key):=(HV.out.2.2.1.keep d (by simp)).cell 3;clear E d;simp at z;simp only[Al,Act.put,A8,A7,A6,z]at y;subst y
 case m6=>clear j r g;go_simp;clear c3 q3;have ho:=Yc (HV.out.1.still f.out) q.key (by have:=K.out.size;omega);rw[HV.out.2.2.2,←aj.out]at ho;refine ho.mono ?_;rintro e w3 ⟨rfl,k3⟩;go_simp;exact p _ _ rfl (f.out.trans k3)
 all_goals clear j r g;go_simp;exact p _ _ rfl f.out
end
end Go.Proofs.YtnhbioehiiifdaaGreat
