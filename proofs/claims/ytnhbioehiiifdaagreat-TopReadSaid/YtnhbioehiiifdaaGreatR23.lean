import Derived.Test.YtnhbioehiiifdaaGreatR22
set_option maxRecDepth 100000
set_option maxHeartbeats 16000000
set_option linter.all false
namespace Go.Proofs.YtnhbioehiiifdaaGreat
open Go.ChangeShapes Go.WideShapes Go.ChangeAt Go.RowKit
section
variable {R:List As} {w w':World} {S S':Cl} {B B' tp wp a i n p:Nat} {low low':List Nat} {mt:List Value} {nd:Nd} {key:Str} {c:Call}
theorem top_ask0 (h:Sp (Gt tp wp S low mt B true::R) w)(hk:key.size≤45)(a3:LT S a key=true)(bg:∀c∈S.log,c.op=1)(bq:S.log.length=low.length)(I:low.length≤9000)
  (aa:(S.call 1 a key).log.length =low.length+1) (aj:M1 false 20 (S.call 1 a key)=some S') (hc:S'.log[low.length]?=some c) (E:B+20000≤700000):
  Calls Tryz.prog 18 #[pt tp,.int .i64 7,.int .i64 (a:Int),.string key,.bool false] w fun e w'=>e=.returned (.tuple #[.agg (rpC c.rp).toArray,.bool c.done])∧Sp (Gt tp wp S' (low++[0]) mt (B+20000) true::R) w':=by
 have h1:=(h.alloc UT 43).push 1;have h1:Sp (Gt tp wp S low mt B true::AM w.heap.size UT 43::R) (w.alloc (.cells UT.toArray 43)):=h1;have J:=Ib (s:=BC 7 a 0 key ⟨#[]⟩ false (.slice none 0 0)) h1 rfl GE (fun W R' U=>Kg (S':=S.call 1 a key) (c:=0) U hk bg (fun p W R' U=>getA U a3 (by omega)) aa ⟨by omega,by omega⟩);have af:=h_ J;have bb:S'.log.length=low.length+1:=by rw[Q3 _ aj,aa]
 have N:=h_6 aj hc E aa bb I;unfold BC pt at af;unfold pt;clear h h1 hk a3 bg bq I aa aj hc E J bb;go_enter Tryz.func18,Tryz.ntmps18;go_wp2_with fail;refine af.out.mono ?_;rintro e w2 ⟨rfl,h2⟩;obtain⟨q,o,G⟩:=h2.top;have Q:w2.cell? ⟨tp,0,none⟩=some (pr wp 0):=(o.pull 2).blk.cell 0;have t1:w2.cell? ⟨tp,1,none⟩=some (.bool true):=(o.pull 2).blk.cell 1;have C:w2.cell? ⟨wp,0,none⟩=some (pr q.p 0):=(o.pull 1).blk.cell 0;obtain⟨lp,Y,V⟩:=Er o;have y:=h_3 Y (V w2 (By _ _)) G;obtain⟨r,a2⟩:∃b,b=w.heap.size:=⟨_,rfl⟩;rw[←a2]at y⊢;unfold pt at y;clear af h2 o G Y V a2;go_wp2_with fail;refine y.out.1.mono ?_;rintro e w3 ⟨rfl,rfl⟩;go_wp2_with fail;refine y.out.2.1.mono ?_;rintro e w4 ⟨u,rfl,D⟩;obtain⟨ua,uc,Z⟩:=A4 D.row;rw[N.out.2.2.2.1]at Z;subst Z;obtain⟨K,I⟩:∃n,n=low.length:=⟨_,rfl⟩;have h5:=y.out.2.2 w4 _ D.drop;obtain⟨H5,HL⟩:=i_2 h5 I;have bv:K≤9000:=by rw[I];exact N.out.2.2.2.2.2
 rw[←I];clear D h5 y Q t1 C I;go_wp2
 go_loopw [13] (fun bt wr=>∃(T:Cl) (i:Nat),bt=.int .i64 (i:Int)∧i≤19∧M1 false (20-i) T=some S'∧T.log.length=K+1∧Sp (Gt tp wp T (low++[0]) mt (B+2+700*i) true::AM r UT 43::R) wr) (fun x _=>20-(intOf x).toNat)
 case atStart=>exact⟨_,0,rfl,by omega,N.out.1,by rw[N.out.2.2.2.1,HL.out],by simpa using H5.out⟩
 case round=>
 obtain⟨T,i,rfl,hi,ah,bd,P⟩:=hrel;obtain⟨f,hf⟩:∃f,20-i=f+1:=⟨19-i,by omega⟩;rw[hf]at ah;obtain⟨S1,a5,a6,a7,a8⟩:=LY ah;have HA:=h_6 a5 a6 a7 a8 hf bd;have O:=h_ P;have q0:(i:Int)<20:=by omega
 clear ah a5 a6 a7 a8 hf bd P H5
 rename World=>wo
 go_wp2
 go_loopw [14] (fun bu wr=>∃(m:Cl) (k:Nat),bu=.int .i64 (k:Int)∧k≤299∧Ez (299-k) m=some S1∧m.log.length=K+1∧Sp (Gt tp wp m (low++[0]) mt (B+2+700*i+2*k) true::AM r UT 43::R) wr) (fun x _=>300-(intOf x).toNat)
 case atStart=>exact⟨T,0,rfl,AA _,HA.out.1,HA.out.2.2.2.2.2,by simpa using O.out⟩
 case round=>
 obtain⟨m,k,rfl,hk,H,be,P⟩:=hrel;obtain⟨q,o,G⟩:=P.top;have Q:wr.cell? ⟨tp,0,none⟩=some (pr wp 0):=(o.pull 2).blk.cell 0;have C:wr.cell? ⟨wp,0,none⟩=some (pr q.p 0):=(o.pull 1).blk.cell 0;obtain⟨np,bf,bc⟩:=Qr o;have HN:=h_2 bf bc;have O:=h_ P;unfold pt at HN;have q1:(k:Int)<300:=by omega
 have br:decide ((k:Int)<300)=true:=An q1;clear P o G bf bc;go_wp2_with fail;refine HN.out.1.mono ?_;rintro e w5 ⟨rfl,rfl⟩;go_wp2_with fail;refine HN.out.2.mono ?_;rintro e w5 ⟨rfl,rfl⟩;clear HN;by_cases F:m.net=[]
 ·have bp:=LN H F
  subst bp;have q2:(m.net.length:Int)=0:=by rw[F];rfl
  have bs:¬(0:Int)<(m.net.length:Int):=by omega
  have al:decide (0<m.net.length)=false:=Ak (by omega);have H6:=O;clear O H F Q C q2 bs q1 br;have az:B+2+700*i+2*k≤B+20000:=by omega
  ·have bo:m=S':=by
    rcases HA.out.2.2.2.1 with⟨_,h⟩|⟨h,_⟩
    ·exact h
    ·exact absurd (by simp) h
   subst bo;obtain⟨q,o,G⟩:=(H6.out.topMono az).top;have Q:w5.cell? ⟨tp,0,none⟩=some (pr wp 0):=(o.pull 2).blk.cell 0;have C:w5.cell? ⟨wp,0,none⟩=some (pr q.p 0):=(o.pull 1).blk.cell 0;obtain⟨lp,Y,V⟩:=Er o;have y:=h_3 Y (V w5 (By _ _)) G;have qf:decide (0<m.net.length)=false:=al;unfold pt at y;clear o G Y V H6 az;go_wp2_with fail;refine y.out.1.mono ?_;rintro e w7 ⟨rfl,rfl⟩;go_wp2_with fail;refine y.out.2.1.mono ?_;rintro e w8 ⟨u,rfl,h8⟩;have a4:m.log[K]?=some c:=by rw[HL.out];exact N.out.2.1
   obtain⟨g,cap,Z,_,_,bj,_,_⟩:=Cq (k:=13) CX h8.row a4;rw[show m.log.length=K+1 from be]at Z;subst Z;have bl:=(y.out.2.2 w8 _ h8.drop).alloc M3 87;obtain⟨ae,am⟩:=i_2 bl bj;clear h8 bj bl Q C a4 qf al
   go_wp2_with (first|(refine Bc rfl 87 _ rfl g (K*13) rfl (caC c) _ am.out Tryz.underlying87 rfl (by rfl) ?_)|(refine AS rfl _ _ _ rfl w8.heap.size M3 (caC c) 87 rfl rfl ae.out.blk rfl Y7 (J7 c) ?_;intro bw ax bm;have hs:=ae.out.set ax bm;have HW:=h_ hs;clear hs ax bm)|fail)
   obtain⟨j,a1⟩:∃b,b=w8.heap.size:=⟨_,rfl⟩;rw[←a1]at HW⊢;clear a1 ae am y;have bn:=h_ (HW.out.sel (l:=[_,_,_]) [0,2,1] 3 rfl rfl);clear HW;refine wK (A:=[0,1,0,4,3,31]) 16 [pr j 7,.agg (rpC c.rp).toArray,pr j 6,.bool c.done,undef,.bool c.done] (fun L W=>Sp (AM j (caC c) 87::AM r (if L 4=true then rpC c.rp else UT) 43::Gt tp wp m (low++[0]) mt (B+20000) true::R) W) ?mstart (.s ?m0<|.s ?m1<|.s ?m2<|.s ?m3<|.t ?m4<|.s ?m5<|.nil) ?mfin
   case mstart=>exact bn.out.drew
   case mfin=>
    intro L M z hd;rw[hd 4 (by decide) (by decide)]at z;have h9:Sp (AM j (caC c) 87::AM r (rpC c.rp) 43::Gt tp wp m (low++[0]) mt (B+20000) true::R) M:=z;have d:=(h9.pull 1).blk;have C:M.cell? ⟨r,0,none⟩=some (.int .i64 (c.rp.id:Int)):=d.cell 0;have d1:M.cell? ⟨r,1,none⟩=some (.int .i64 (c.rp.op:Int)):=d.cell 1;have d2:M.cell? ⟨r,2,none⟩=some (.string c.rp.key):=d.cell 2;have d3:M.cell? ⟨r,3,none⟩=some (.int .i64 (c.rp.err:Int)):=d.cell 3;have d4:M.cell? ⟨r,4,none⟩=some (.string c.rp.val):=d.cell 4;have d5:M.cell? ⟨r,5,none⟩=some (.bool c.rp.has):=d.cell 5;have H9:=h_ (h9.drop.drop);clear z hd h9 d;simp[Al,Act.put]
    first
     |refine Be (v:= .tuple #[.agg (rpC c.rp).toArray,.bool c.done]) ?_ rfl ⟨rfl,H9.out⟩
     |(go_wp2_with fail;refine Be (v:= .tuple #[.agg (rpC c.rp).toArray,.bool c.done]) ?_ rfl ⟨rfl,H9.out⟩)
    simp[results,Tryz.results18,go_sem,C,d1,d2,d3,d4,d5,rpC]
   case m4=>intro L xv W z hl hA ai hN X b E K' ag;clear hA ai hN;have ac:=h_ z;have d:=z.blk;have f6:W.cell? ⟨j,6,none⟩=some (.bool c.done):=d.cell 6;have f7:W.cell? ⟨j,7,none⟩=some (.int .i64 (c.rp.id:Int)):=d.cell 7;have f8:W.cell? ⟨j,7+1,none⟩=some (.int .i64 (c.rp.op:Int)):=d.cell 8;have f9:W.cell? ⟨j,7+2,none⟩=some (.string c.rp.key):=d.cell 9;have an:W.cell? ⟨j,7+3,none⟩=some (.int .i64 (c.rp.err:Int)):=d.cell 10;have ap:W.cell? ⟨j,7+4,none⟩=some (.string c.rp.val):=d.cell 11;have ar:W.cell? ⟨j,7+5,none⟩=some (.bool c.rp.has):=d.cell 12;have av:W.cell? ⟨j,8,none⟩=some (.int .i64 (c.rp.op:Int)):=d.cell 8;have aw:W.cell? ⟨j,9,none⟩=some (.string c.rp.key):=d.cell 9;have ao:W.cell? ⟨j,10,none⟩=some (.int .i64 (c.rp.err:Int)):=d.cell 10;have aq:W.cell? ⟨j,11,none⟩=some (.string c.rp.val):=d.cell 11;have au:W.cell? ⟨j,12,none⟩=some (.bool c.rp.has):=d.cell 12;clear z d;simp at X;simp only[Al,Act.put,A8,A7,A6,X]at E;subst E;clear f6 f7 f8 f9 an ap ar av aw ao aq au;have h0:=ac.out;rw[hl]at h0;have H0:=h_ h0;clear h0;refine Eu rfl _ _ _ rfl r UT (rpC c.rp) 43 rfl rfl (H0.out.pull 1).blk rfl Tryz.sizeReply (N8 c.rp) ?_;intro w3 a0 k3;have H3:=h_ (((H0.out.pull 1).set a0 k3).push 1);clear a0 k3;exact ag _ _ rfl H3.out
   all_goals intro L xv W z hA ai hN X b E K' ag;clear hA ai hN;have ac:=h_ z;have d:=z.blk;have f6:W.cell? ⟨j,6,none⟩=some (.bool c.done):=d.cell 6;have f7:W.cell? ⟨j,7,none⟩=some (.int .i64 (c.rp.id:Int)):=d.cell 7;have f8:W.cell? ⟨j,7+1,none⟩=some (.int .i64 (c.rp.op:Int)):=d.cell 8;have f9:W.cell? ⟨j,7+2,none⟩=some (.string c.rp.key):=d.cell 9;have an:W.cell? ⟨j,7+3,none⟩=some (.int .i64 (c.rp.err:Int)):=d.cell 10;have ap:W.cell? ⟨j,7+4,none⟩=some (.string c.rp.val):=d.cell 11;have ar:W.cell? ⟨j,7+5,none⟩=some (.bool c.rp.has):=d.cell 12;have av:W.cell? ⟨j,8,none⟩=some (.int .i64 (c.rp.op:Int)):=d.cell 8;have aw:W.cell? ⟨j,9,none⟩=some (.string c.rp.key):=d.cell 9;have ao:W.cell? ⟨j,10,none⟩=some (.int .i64 (c.rp.err:Int)):=d.cell 10;have aq:W.cell? ⟨j,11,none⟩=some (.string c.rp.val):=d.cell 11;have au:W.cell? ⟨j,12,none⟩=some (.bool c.rp.has):=d.cell 12;clear z d;simp at X;simp only[Al,Act.put,A8,A7,A6,X]at E;subst E;go_simp;exact ag _ _ rfl ac.out
 ·have bh:0<m.net.length:=Cs.2 F
  have q2:(0:Int)<(m.net.length:Int):=by omega
  have al:decide (0<m.net.length)=true:=An bh
  have a9:k≠299:=by
   rintro rfl;rw[C8]at H;have:m=S1:=by injection H
   rw[this]at F;exact F HA.out.2.1
  obtain⟨k2,a9⟩:∃k2,299-k=k2+1:=⟨298-k,by omega⟩;rw[a9]at H;obtain⟨bk,ak⟩:=Km H F;have ba:k2=299-(k+1):=by omega
  rw[ba]at ak;have ay:B+2+700*i+2*k≤790000:=by have:=N.out.2.2.1;omega
  have ab:(m.sendAt 0).log.length =K+1:=by rw[YD,be]
  have bi:Sp (AM tp [pt wp,.bool true] 33::Hi wp m (low++[0]) mt (B+2+700*i+2*k)::AM r UT 43::R) _:=O.out.open_;have J:=Jz (a:=0) (i:=0) (key:=⟨#[]⟩) (c:=0) (bi.pull 1) (by decide) (fun p W R' U=>XW U bk ay) (by rw[ab,Aj,List.length_singleton,←HL.out];omega) (by rw[ab,Aj,List.length_singleton,←HL.out];omega);unfold BC at J;unfold pt at J;have ad:=h_3 J ak ab;clear J bk ak ab ay ba H F bh O bi;go_wp2_with fail;refine ad.out.1.mono ?_;rintro e w4 ⟨rfl,D⟩;have D:Sp (Gt tp wp (m.sendAt 0) (low++[0]) mt (B+2+700*i+2*(k+1)) true::AM r UT 43::R) w4:=DV [_,_] (D.push 1);have H4:=h_ D;clear D C Q;go_wp2
  go_roundw
  ·exact⟨m.sendAt 0,k+1,by simp,by omega,ad.out.2.1,ad.out.2.2,H4.out⟩
  ·simp only[intOf];omega
end
section
variable {R:List As} {w w':World} {S S':Cl} {B B' tp wp a i n p:Nat} {low low':List Nat} {mt:List Value} {nd:Nd} {key val:Str} {c:Call}
theorem top_get (h:Sp (Gt tp wp S low mt B true::R) w)(r:c.done=true∧c.rp.err=0∧c.rp.has=true∧c.rp.val=val)
  (o:Calls Tryz.prog 18 #[pt tp,.int .i64 7,.int .i64 (a:Int),.string key,.bool true] w fun e w'=>e=.returned (.tuple #[.agg (rpC c.rp).toArray,.bool c.done])∧Sp (Gt tp wp S' low' mt B' true::R) w'):
  Calls Tryz.prog 12 #[pt tp,.int .i64 (a:Int),.string key,.string val] w fun e w'=>e=.returned (.bool true)∧Sp (Gt tp wp S' low' mt B' true::R) w':=by
 have b:=h_2 o r;unfold pt at*;clear h o r;go_enter Tryz.func12,Tryz.ntmps12;go_wp2_with fail;refine b.out.1.mono ?_;rintro e g ⟨rfl,m⟩;have q:=m.alloc UT 43;have k:=h_ q;clear m q
 go_wp2_with (refine AS rfl _ _ _ rfl g.heap.size UT (rpC c.rp) 43 rfl rfl k.out.blk rfl Tryz.sizeReply (N8 c.rp) ?_;intro f d s;have j:=k.out.set d s;have x:f.cell? ⟨g.heap.size,3,none⟩=some (.int .i64 0):=(by rw[d.cell];show some (Value.int .i64 (c.rp.err:Int))=_;rw[b.out.2.2.1];rfl);have z:f.cell? ⟨g.heap.size,5,none⟩=some (.bool true):=(by rw[d.cell];show some (Value.bool c.rp.has)=_;rw[b.out.2.2.2.1]);have y:f.cell? ⟨g.heap.size,4,none⟩=some (.string val):=(by rw[d.cell];show some (Value.string c.rp.val)=_;rw[b.out.2.2.2.2]);have v:f.cell? ⟨tp,1,none⟩=some (.bool true):=(((j.drop).open_ (l:=[_,_])).blk.cell 1);have u:=b.out.2.1;have t:=h_ j.drop;clear j d s)
 first
  |go_ret
  |(go_wp2;go_ret)
 exact⟨rfl,t.out⟩
theorem top_warm (h:Sp (Gt tp wp S low mt B true::R) w)(r:c.done=true∧c.rp.err=0∧c.rp.has=true∧c.rp.val=val)
  (o:Calls Tryz.prog 18 #[pt tp,.int .i64 7,.int .i64 (a:Int),.string key,.bool false] w fun e w'=>e=.returned (.tuple #[.agg (rpC c.rp).toArray,.bool c.done])∧Sp (Gt tp wp S' low' mt B' true::R) w'):
  Calls Tryz.prog 13 #[pt tp,.int .i64 (a:Int),.string key,.string val] w fun e w'=>e=.returned (.bool true)∧Sp (Gt tp wp S' low' mt B' true::R) w':=by
 have b:=h_2 o r;unfold pt at*;clear h o r;go_enter Tryz.func13,Tryz.ntmps13;go_wp2_with fail;refine b.out.1.mono ?_;rintro e g ⟨rfl,m⟩;have q:=m.alloc UT 43;have k:=h_ q;clear m q
 go_wp2_with (refine AS rfl _ _ _ rfl g.heap.size UT (rpC c.rp) 43 rfl rfl k.out.blk rfl Tryz.sizeReply (N8 c.rp) ?_;intro f d s;have j:=k.out.set d s;have x:f.cell? ⟨g.heap.size,3,none⟩=some (.int .i64 0):=(by rw[d.cell];show some (Value.int .i64 (c.rp.err:Int))=_;rw[b.out.2.2.1];rfl);have z:f.cell? ⟨g.heap.size,5,none⟩=some (.bool true):=(by rw[d.cell];show some (Value.bool c.rp.has)=_;rw[b.out.2.2.2.1]);have y:f.cell? ⟨g.heap.size,4,none⟩=some (.string val):=(by rw[d.cell];show some (Value.string c.rp.val)=_;rw[b.out.2.2.2.2]);have v:f.cell? ⟨tp,1,none⟩=some (.bool true):=(((j.drop).open_ (l:=[_,_])).blk.cell 1);have u:=b.out.2.1;have t:=h_ j.drop;clear j d s)
 first
  |go_ret
  |(go_wp2;go_ret)
 exact⟨rfl,t.out⟩
end
section
variable {R:List As} {w w':World} {S S':Cl} {B B' tp wp a i n p:Nat} {low low':List Nat} {mt:List Value} {key val:Str}
theorem top_set (h:Sp (Gt tp wp S low mt B true::R) w)(k:S.onow<100000)(j:key.size≤45)(l:val.size≤60)(r:S.log.length=low.length)(q:low.length≤9000):
  Calls Tryz.prog 9 #[pt tp,.string key,.string val] w fun e w'=>e=.returned (.tuple #[])∧Sp (Gt tp wp (S.set key val) low mt B true::R) w':=by
 have d:=Ib (s:=BC 6 0 0 key val true (.slice none 0 0)) h rfl GE (fun W o b=>P7 (S':=S.set key val) (a:=0) (i:=0) (c:=0) b j l (fun p W o b=>setA (kv:= .slice none 0 0) b k (by omega) (by omega)) (by show S.log.length≠_;omega) ⟨by show S.log.length≤_;omega,by omega⟩);unfold BC pt at d;have f:=h_ d;unfold pt;clear h k j l r q d;go_enter Tryz.func9,Tryz.ntmps9;go_wp2_with fail;refine f.out.mono ?_;rintro e t ⟨rfl,g⟩;have m:=h_ g;clear g f;go_wp2
 go_end0
 exact⟨rfl,m.out⟩
end
def ownK (k:Nat):Nat:=Eg (ptsOf [1,2,3]) (FZ (keyS k))
structure WNd (S:Cl) (n m a:Nat) (nd:Nd):Prop where
 at_:S.nodes a=some nd
 id:nd.id=a
 waits:nd.waits=[]
 msgs:nd.msgs=[]
 reps:nd.reps=[]
 reads:nd.reads=[]
 few:nd.dk.cache.length≤15∧nd.tlast<100000∧nd.dk.boot≤1000∧nd.asked≤m
 ring:nd.ring=some (1,[1,2,3])
 epoch:nd.dk.epoch=1
 tells:∀k,k<n→ownK k=a→nd.serves (S.clk a) (keyS k)=true∧cGet nd.dk.cache (keyS k)=some (valS k 1)
theorem own_ring {nd:Nd}(h:nd.ring=some (1,[1,2,3]))(k:Nat):nd.own (keyS k)=ownK k:=by unfold Nd.own Nd.pts ownK;rw[h]
theorem tell0_did {nd:Nd}(a:nd.msgs=[])(b:nd.reps=[])(id:Nat)(key val:Str):(nd.tell ⟨0,id,1,key⟩ 0 val true).did =(nd,[],[⟨id,1,key,0,val,true⟩]):=by cases nd;simp only at a b;subst a b;rfl
theorem tellN_did {nd:Nd}(b:nd.msgs=[])(c:nd.reps=[])(a id:Nat)(d:a≠0)(key val:Str):(nd.tell ⟨a,id,1,key⟩ 0 val true).did =(nd,[{kind:=14,src:=nd.id,dst:=a,id:=id,it:=(key,val,false)}],[]):=by cases nd;simp only at b c;subst b c;unfold Nd.tell;rw[Aw d];rfl
theorem ask_tells {nd:Nd}{t:Nat}{q:Who}{v:Str}(d:itKey q.key=true)(a:q.op=1)(e:nd.ring≠none)(g:nd.own q.key=nd.id)(f:nd.serves t q.key=true)(b:cGet nd.dk.cache q.key=some v):nd.ask t q=nd.tell q 0 v true:=by unfold Nd.ask;rw[Aw (by rw[LA d];simp[a]),Aw (by cases c:nd.ring with|none=>exact absurd c e|some r=>simp),Aw (by rw[g];simp),Aw (by rw[f];simp),Aw (by rw[a];decide)];unfold Nd.get;rw[b]
def Nd.asks (nd:Nd)(a:Wt):Nd:={nd with asked:=nd.asked+1,waits:=[a]}
theorem ask_away_did {nd:Nd}{t id:Nat}{key:Str}(h:nd.AwayOk ⟨0,id,1,key⟩)(a:nd.msgs=[])(b:nd.reps=[])(c:nd.waits=[]):
  (nd.ask t ⟨0,id,1,key⟩).did =(nd.asks ⟨⟨0,id,1,key⟩,nd.dk.boot*1048576+(nd.asked+1),nd.own key,t⟩,[{kind:=13,src:=nd.id,dst:=nd.own key,id:=nd.dk.boot*1048576+(nd.asked+1),op:=1,key:=key,epoch:=nd.dk.epoch}],[]):=by
 rw[ask_away nd t _ h];cases nd;simp only at a b c;subst a b c;rfl
theorem answer_did {nd:Nd}{a:Wt}{m:Wm}{id:Nat}{key val:Str}(b:nd.msgs=[])(c:nd.reps=[])(f:a.w=⟨0,id,1,key⟩)(l:a.too=m.src)(j:a.id=m.id)(h:m.err=0)(e:m.it=(key,val,false))(k:key≠se):
  ((nd.asks a).answer m).did =({nd with asked:=nd.asked+1,waits:=[]},[],[⟨id,1,key,0,val,true⟩]):=by
 have i:(nd.asks a).waits.findIdx (ansP m)=0:=by
  show List.findIdx (ansP m) [a]=0;rw[List.findIdx_cons];have:ansP m a=true:=by unfold ansP;rw[An ⟨l,j⟩]
  rw[this];rfl
 have d:ansE m=0:=by unfold ansE;rw[Aw (by omega)];exact h
 have g:ansH m a.w=true:=by unfold ansH;rw[d,e,f,An ⟨rfl,rfl,k⟩];rfl
 rw[answer_some (nd.asks a) m a 0 i.symm (by show 0<1;omega) rfl,d,g,e,f];cases nd;simp only at b c;subst b c;rfl
theorem ask_okB {src dst id ep:Nat}{key:Str}(a:itKey key=true)(e:src≤5∧dst≤5∧src≠dst)(f:id≤1099511627776∧ep≤1099511627776):Wm.okB {kind:=13,src:=src,dst:=dst,id:=id,op:=1,key:=key,epoch:=ep}=true:=by
 unfold itKey at a;simp only[Ar,A0]at a;unfold Wm.okB mayM Gb MS FM MR QG wmMs;have c:¬((src:Int)=(dst:Int)):=by omega
 have d:(se:Str).size =0:=rfl;have b:((se,se,(0:Int),false):It)=VS:=rfl;simp[c,d,b];omega
theorem ans_okB {src dst id:Nat}{key val:Str}(a:itMay key val 0 false=true)(e:src≤5∧dst≤5∧src≠dst)(f:id≤1099511627776):Wm.okB {kind:=14,src:=src,dst:=dst,id:=id,it:=(key,val,false)}=true:=by
 have g:=Is a;unfold Wm.okB mayM Gb MS FM MR QG wmMs;have c:¬((src:Int)=(dst:Int)):=by omega
 have d:(se:Str).size =0:=rfl;have b:Dj (key,val,0,false)=true:=a;simp[c,d,b];omega
structure WCl (S:Cl) (n m:Nat):Prop where
 nd:∀a,1≤a→a≤3→∃nd,WNd S n m a nd
 none_:S.nodes 4=none∧S.nodes 5=none
 net:S.net=[]
 now:S.onow≤1000
 own:∀k,k<n→1≤ownK k∧ownK k≤3
 log:S.log.length≤100+m
 num:Dm S.log
 ops:∀c∈S.log,c.op=1
 key:∀k,k<n→itMay (keyS k) (valS k 1) 0 false=true
 held:∀k,k<n→heldB (setsOf S.org (keyS k)) (valS k 1) true 0 S.onow=true
 right:JL S (List.replicate S.log.length 0)=true
theorem WNd.lift {S S':Cl}{n m b a:Nat}{nd:Nd}(h:WNd S n m a nd)(e:S'.nodes a=some nd)(c:S'.clk a=S.clk a)(g:m≤b):WNd S' n b a nd:=
 ⟨e,h.id,h.waits,h.msgs,h.reps,h.reads,by have:=h.few;omega,h.ring,h.epoch,fun k d f=>by rw[c];exact h.tells k d f⟩
theorem WNd.liftA {S S':Cl}{n m b a:Nat}{nd:Nd}(h:WNd S n m a nd)(e:S'.nodes a=some {nd with asked:=nd.asked+1,waits:=[]})(c:S'.clk a=S.clk a)(g:m+1≤b):WNd S' n b a {nd with asked:=nd.asked+1,waits:=[]}:=
 ⟨e,h.id,rfl,h.msgs,h.reps,h.reads,by have:=h.few;show nd.dk.cache.length≤15∧nd.tlast<100000∧nd.dk.boot≤1000∧nd.asked+1≤b;omega,h.ring,h.epoch,fun k d f=>by rw[c];exact h.tells k d f⟩
theorem rightC_snoc {S S':Cl}{a:List Nat}{c:Call}(h:JL S a=true)(k:S'.log=S.log++[c])(m:S'.org=S.org)(l:S'.onow=S.onow)(j:S.log.length=a.length)(p:a.length<10000)
  (e:c.done=true) (f:c.frm≤c.too∧c.rp.key=c.key∧c.rp.id=c.id) (g:heldB (setsOf S.org c.key) c.rp.val c.rp.has 0 c.too=true) (i:c.op=1∧c.too≤S.onow∧c.key.size≤1000):JL S' (a++[0])=true:=by
 unfold JL Vo at h⊢;rw[k,m,l,List.zip_append j];simp only[Ar,A0,List.all_append,Aj,List.length_singleton]at h⊢;obtain⟨b,n,o,d⟩:=h;refine⟨⟨b, ?_⟩,by omega,by omega,d, ?_⟩
 ·simp[e,f,g]
 ·simp[i]
def wCa (S:Cl)(a k:Nat):Call:=Qw (Ml (S.log.length+1) 1 (keyS k) a S.onow) S.onow ⟨S.log.length+1,1,keyS k,0,valS k 1,true⟩
theorem endL_new {S:Cl}(b:Dm S.log)(a k:Nat):DS S.onow (S.log++[Ml (S.log.length+1) 1 (keyS k) a S.onow]) ⟨S.log.length+1,1,keyS k,0,valS k 1,true⟩=S.log++[wCa S a k]:=by rw[Wd (b.called (op:=1) (a:=a) (pos:=S.onow) (key:=keyS k)) (i:=S.log.length) (c:=Ml (S.log.length+1) 1 (keyS k) a S.onow) rfl (by rw[AC (Av _),C8];rfl) rfl rfl rfl];rw[CU _ _ (Av _),C8];rfl
theorem endsB_new {S:Cl}(a k:Nat):Nb S.onow (S.log++[Ml (S.log.length+1) 1 (keyS k) a S.onow]) [⟨S.log.length+1,1,keyS k,0,valS k 1,true⟩]=true:=by unfold Nb Nb;simp only[Nat.add_sub_cancel];rw[AC (Av _),C8];simp[Ml]
theorem WCl.next {S S':Cl}{n m a k:Nat}(h:WCl S n m)(s:m<100)(f:k<n)(d:S'.log=S.log++[wCa S a k])(j:S'.org=S.org)(g:S'.onow=S.onow)(o:S'.net=[])(l:∀a,1≤a→a≤3→∃nd,WNd S' n (m+1) a nd)(p:S'.nodes 4=none∧S'.nodes 5=none):WCl S' n (m+1):=by
 have q:=h.log;have t:=Is (h.key k f);refine⟨l,p,o,by rw[g];exact h.now,h.own,by rw[d,Aj,List.length_singleton];omega, ?_, ?_,h.key,fun k f=>by rw[j,g];exact h.held k f, ?_⟩
 ·rw[d]
  have i:=We (now:=S.onow) (r:=⟨S.log.length+1,1,keyS k,0,valS k 1,true⟩) (h.num.called (op:=1) (a:=a) (pos:=S.onow) (key:=keyS k));rw[endL_new h.num a k]at i;exact i
 ·intro c b
  rw[d]at b;rcases Ag.1 b with b|b
  ·exact h.ops c b
  ·rw[Ah]at b
   rw[b];rfl
 ·have e:List.replicate S'.log.length 0=List.replicate S.log.length 0++[0]:=by
   rw[d,Aj,List.length_singleton,List.replicate_succ']
  rw[e];exact rightC_snoc h.right d j g (by rw[G5]) (by rw[G5];omega) rfl ⟨Av _,rfl,rfl⟩ (h.held k f) ⟨rfl,Av _,by show(keyS k).size ≤1000;omega⟩
theorem askC_done {S:Cl}(f:S.net=[])(b:∀a,1≤a→a≤5→S.nReads a=0)(c:Cl)(d:Ez 299 c=some S):M1 false 20 c=some S:=by
 unfold M1;rw[d]
 have e:fewReads S=true:=by unfold fewReads;simp only[List.all_cons,List.all_nil,b 1 (by decide) (by decide),b 2 (by decide) (by decide),b 3 (by decide) (by decide),b 4 (by decide) (by decide),b 5 (by decide) (by decide)];decide
 show(if(S.net.isEmpty&&fewReads S)=true then _ else none)=_;rw[f,e];simp
theorem drainC_more {f:Nat}{S S':Cl}{m:Wm}{l:List Wm}(a:S.net=m::l)(b:OJ S 0=true)(h:Ez f (S.sendAt 0)=some S'):Ez (f+1) S=some S':=by unfold Ez;rw[a];unfold Vg;rw[Ay b];exact h
theorem drainC_end {f:Nat}{S:Cl}(a:S.net=[]):Ez f S=some S:=by
 cases f with
 |zero=>rfl
 |succ f=>unfold Ez;rw[a]
theorem WCl.reads {S:Cl}{n m:Nat}(h:WCl S n m):∀a,1≤a→a≤5→S.nReads a=0:=by
 intro a c e;unfold Cl.nReads;by_cases d:a≤3
 ·obtain⟨nd,b⟩:=h.nd a c d
  rw[b.at_];show nd.reads.length=0;rw[b.reads];rfl
 ·rcases(by omega:a=4∨a=5)with rfl|rfl
  ·rw[h.none_.1]
  ·rw[h.none_.2]
theorem send_nd {S:Cl}{m:Wm}{l:List Wm}{nd a:Nd}{M:List Wm}{K:List Rp}(c:S.net=m::l)(o:m.okB=true)(b:m.dst≠0∧m.dst≤5)(f:S.nodes m.dst=some nd)(h:(RD nd m||(askMB nd m||ansB nd m))=true)(g:nd.step (S.clk m.dst) m=(a,M,K))
  (j:M.all Wm.okB=true) (e:l.length+M.length≤300) (i:Nb S.onow S.log K=true) (k:K.length≤1000):OJ S 0=true∧S.sendAt 0={S.setNd m.dst a with net:=l++M,log:=K.foldl (DS S.onow) S.log}:=by
 have d:S.drop 0={S with net:=l}:=by unfold Cl.drop;rw[c];rfl
 have n:({S with net:=l}:Cl).nodes m.dst=some nd:=f;have p:nd.step (({S with net:=l}:Cl).clk m.dst) m=(a,M,K):=g;constructor
 ·unfold OJ
  rw[c];show PH (S.drop 0) m=true;rw[d];unfold PH;rw[o,Aw b.1,n];simp only[p,h,Dx,Ar,A0];refine⟨b.2, ?_⟩;unfold Rj;simp only[Ar,A0];exact⟨j,e,i,k⟩
 ·unfold Cl.sendAt
  rw[c];show(S.drop 0).hears m=_;rw[d];unfold Cl.hears;rw[Aw b.1];simp only[f,g];rw[Y3 {S with net:=l} m.dst (a,M,K) e];rfl
theorem call_nd {S:Cl}{a:Nat}{key:Str}{nd b:Nd}{M:List Wm}{K:List Rp}(c:1≤a∧a≤5)(l:S.onow≤1000000)(k:S.log.length<10000)(f:S.nodes a=some nd)(g:(XP nd key||awayB nd key)=true)(d:(nd.ask (S.clk a) ⟨0,S.log.length+1,1,key⟩).did =(b,M,K))
  (i:M.all Wm.okB=true) (e:S.net.length+M.length≤300) (h:Nb S.onow (S.log++[Ml (S.log.length+1) 1 key a S.onow]) K=true) (j:K.length≤1000):
  LT S a key=true∧S.call 1 a key={S.setNd a b with net:=S.net++M,log:=K.foldl (DS S.onow) (S.log++[Ml (S.log.length+1) 1 key a S.onow])}:=by
 constructor
 ·unfold LT
  rw[f];simp only[d,g,Dx,Ar,A0];refine⟨⟨c.1,c.2,l,k⟩, ?_⟩;unfold Rj;simp only[Ar,A0];exact⟨i,e,h,j⟩
 ·unfold Cl.call
  simp only[f,d];exact Y3 (S.called 1 a key) a (b,M,K) e
theorem Cl.call_len {S:Cl}{a:Nat}{key:Str}(h:LT S a key=true):(S.call 1 a key).log.length =S.log.length+1:=by
 unfold LT at h;simp only[Ar]at h;obtain⟨_,h⟩:=h;unfold Cl.call
 cases b:S.nodes a with
 |none=>rw[b]at h;cases h
 |some n=>simp only;rw[YI];simp
theorem nReads_set (S:Cl)(a:Nat)(nd d:Nd)(N:List Wm)(L:List Call)(h:S.nodes a=some nd)(e:d.reads.length=nd.reads.length)(b:Nat):({S.setNd a d with net:=N,log:=L}:Cl).nReads b=S.nReads b:=by
 unfold Cl.nReads Cl.setNd;by_cases c:b=a
 ·subst c
  simp only[Da,h];exact e
 ·simp only[Di _ _ _ c]
theorem WCl.warm {S:Cl}{n m a k:Nat}(h:WCl S n m)(hm:m<100)(B:k<n)(J:1≤a∧a≤3):
  LT S a (keyS k)=true∧(S.call 1 a (keyS k)).log.length =S.log.length+1∧∃S',M1 false 20 (S.call 1 a (keyS k))=some S'∧S'.log=S.log++[wCa S a k]∧WCl S' n (m+1):=by
 obtain⟨nd,c⟩:=h.nd a J.1 J.2;have ah:=h.key k B;have aw:=Is ah;have y:itKey (keyS k)=true:=by unfold itKey;simp only[Ar,A0];omega
 have av:=h.now;have au:=h.log;have C:=h.net;have D:=own_ring c.ring k;obtain⟨f1,f2,f3,f4⟩:=c.few;by_cases H:ownK k=a
 ·obtain⟨T,Q⟩:=c.tells k B H
  have P:(nd.ask (S.clk a) ⟨0,S.log.length+1,1,keyS k⟩).did =(nd,[],[⟨S.log.length+1,1,keyS k,0,valS k 1,true⟩]):=by rw[ask_tells (q:=⟨0,S.log.length+1,1,keyS k⟩) y rfl (by rw[c.ring];simp) (by show nd.own (keyS k)=nd.id;rw[D,c.id,H]) T Q];exact tell0_did c.msgs c.reps _ _ _
  obtain⟨L,p⟩:=call_nd (S:=S) (key:=keyS k) ⟨J.1,by omega⟩ (by omega) (by omega) c.at_ (by rw[CQ];left;unfold XP;rw[y,c.msgs,c.reps,c.reads,D,c.id];simp;omega) P rfl (by rw[C];simp) (endsB_new a k) (by simp)
  refine⟨L,by rw[Cl.call_len L],S.call 1 a (keyS k), ?_,by rw[p];show List.foldl (DS S.onow) _ [_]=_;rw[List.foldl_cons,List.foldl_nil,endL_new h.num], ?_⟩
  ·rw[p]
   refine askC_done (by show S.net++[]=[];rw[C];rfl) (fun b F h5=> ?_) _ (drainC_end (by show S.net++[]=[];rw[C];rfl));rw[←h.reads b F h5];exact nReads_set S a nd nd _ _ c.at_ rfl b
  ·rw[p]
   refine h.next hm B (a:=a) (by show List.foldl (DS S.onow) _ [_]=_;rw[List.foldl_cons,List.foldl_nil,endL_new h.num]) rfl rfl (by show S.net++[]=[];rw[C];rfl) (fun b F O=> ?_) ?_
   ·by_cases t:b=a
    ·subst t
     exact⟨nd,c.lift (Da _ _ _) rfl (by omega)⟩
    ·obtain⟨W,G⟩:=h.nd b F O
     exact⟨W,G.lift (by show Ej S.nodes a _ b=_;rw[Di _ _ _ t];exact G.at_) rfl (by omega)⟩
   ·exact⟨by show Ej S.nodes a _ 4=_;rw[Di _ _ _ (by omega)];exact h.none_.1,by show Ej S.nodes a _ 5=_;rw[Di _ _ _ (by omega)];exact h.none_.2⟩
 ·obtain⟨ao,ap⟩:=h.own k B
  obtain⟨o,d⟩:=h.nd (ownK k) ao ap;obtain⟨g1,g2,Y,g4⟩:=d.few;obtain⟨T,Q⟩:=d.tells k B rfl;have ai:=own_ring d.ring k;obtain⟨id,an⟩:∃id,id=nd.dk.boot*1048576+(nd.asked+1):=⟨_,rfl⟩;have ae:id≤1099511627776:=by omega
  obtain⟨r,M⟩:∃r:Wt,r=⟨⟨0,S.log.length+1,1,keyS k⟩,id,nd.own (keyS k),S.clk a⟩:=⟨_,rfl⟩;obtain⟨i,u⟩:∃i:Wm,i={kind:=13,src:=nd.id,dst:=nd.own (keyS k),id:=id,op:=1,key:=keyS k,epoch:=nd.dk.epoch}:=⟨_,rfl⟩;obtain⟨j,w⟩:∃j:Wm,j={kind:=14,src:=o.id,dst:=nd.id,id:=id,it:=(keyS k,valS k 1,false)}:=⟨_,rfl⟩
  have ac:awayB nd (keyS k)=true:=by unfold awayB;rw[y,c.msgs,c.waits,D,c.id,c.ring];simp;omega
  have P:(nd.ask (S.clk a) ⟨0,S.log.length+1,1,keyS k⟩).did =(nd.asks r,[i],[]):=by rw[ask_away_did (awayB_ok ac) c.msgs c.reps c.waits,M,u,an]
  have af:i.okB=true:=by rw[u,D,c.id];exact ask_okB y ⟨by omega,by omega,by omega⟩ ⟨ae,by rw[c.epoch];omega⟩
  have ag:j.okB=true:=by rw[w,d.id,c.id];exact ans_okB ah ⟨by omega,by omega,H⟩ ae
  obtain⟨L,p⟩:=call_nd (S:=S) (key:=keyS k) ⟨J.1,by omega⟩ (by omega) (by omega) c.at_ (by rw[ac,Bool.or_true]) P (by simp[af]) (by rw[C];simp) rfl (by simp);obtain⟨g,am⟩:∃g,g=S.call 1 a (keyS k):=⟨_,rfl⟩;rw[←am]at p⊢;have n1:g.net=i::[]:=by rw[p];show S.net++[i]=_;rw[C];rfl
  have U:g.log=S.log++[Ml (S.log.length+1) 1 (keyS k) a S.onow]:=by rw[p];rfl
  have z:i.dst=ownK k:=by rw[u];exact D
  have a1:g.nodes a=some (nd.asks r):=by rw[p];exact Da _ _ _
  have o1:g.nodes i.dst=some o:=by rw[p,z];show Ej S.nodes a _ _=_;rw[Di _ _ _ H];exact d.at_
  have c1:g.clk=S.clk:=by rw[p];rfl
  have ab:XP o (keyS k)=true:=by unfold XP;rw[y,d.msgs,d.reps,d.reads,ai,d.id];simp;omega
  have aq:o.step (g.clk i.dst) i=(o,[j],[]):=by
   rw[step_ask o _ i (by rw[u]) (by rw[u];show nd.dk.epoch=_;rw[c.epoch,d.epoch])];have hw:i.who=⟨nd.id,id,1,keyS k⟩:=by rw[u];rfl
   rw[hw,ask_tells (q:=⟨nd.id,id,1,keyS k⟩) (v:=valS k 1) y rfl (by rw[d.ring];simp) (by show o.own (keyS k)=o.id;rw[ai,d.id]) (by rw[c1,z];exact T) Q,tellN_did d.msgs d.reps _ _ (by rw[c.id];omega),w]
  have aj:(RD o i||(askMB o i||ansB o i))=true:=by
   have e:askMB o i=true:=by unfold askMB;rw[Ar];refine⟨An ⟨by rw[u],by rw[z];exact d.id.symm,by rw[u],by rw[u];show nd.dk.epoch=_;rw[c.epoch,d.epoch]⟩, ?_⟩;rw[u];exact ab
   rw[e,Bool.true_or,Bool.or_true]
  have al:([j]:List Wm).all Wm.okB=true:=by rw[List.all_cons,ag];rfl
  obtain⟨s1,x⟩:=send_nd (S:=g) (K:=[]) n1 af ⟨by rw[z];omega,by rw[z];omega⟩ o1 aj aq al (by simp) rfl (by simp);obtain⟨l,Z⟩:∃l,l=g.sendAt 0:=⟨_,rfl⟩;rw[←Z]at x;have n2:l.net=j::[]:=by rw[x];rfl
  have l2:l.log=g.log:=by rw[x];rfl
  have I:j.dst=a:=by rw[w];exact c.id
  have a2:l.nodes j.dst=some (nd.asks r):=by rw[x,z,I];show Ej g.nodes _ _ a=_;rw[Di _ _ _ (fun e=>H e.symm)];exact a1
  have X:l.onow=S.onow:=by rw[x];show g.onow=_;rw[p];rfl
  obtain⟨E,R⟩:∃E:Nd,E={nd with asked:=nd.asked+1,waits:=[]}:=⟨_,rfl⟩
  have ar:(nd.asks r).step (l.clk j.dst) j=(E,[],[⟨S.log.length+1,1,keyS k,0,valS k 1,true⟩]):=by rw[step_answer _ _ j (by rw[w]),R];exact answer_did c.msgs c.reps (by rw[M]) (by rw[M,w];show nd.own (keyS k)=o.id;rw[D,d.id]) (by rw[M,w]) (by rw[w]) (by rw[w]) (fun e=>by rw[e]at y;exact absurd y (by decide))
  have ak:(RD (nd.asks r) j||(askMB (nd.asks r) j||ansB (nd.asks r) j))=true:=by
   have e:ansB (nd.asks r) j=true:=by unfold ansB;refine An ⟨by rw[w],by rw[w];rfl,by show[r].length ≤1000;simp,by show nd.msgs.length<300;rw[c.msgs];simp,by show nd.reps.length<300;rw[c.reps];simp⟩
   rw[e,Bool.or_true,Bool.or_true]
  obtain⟨s2,A⟩:=send_nd (S:=l) n2 ag ⟨by rw[I];omega,by rw[I];omega⟩ a2 ak ar rfl (by simp) (by rw[X,l2,U];exact endsB_new a k) (by simp);obtain⟨s,aa⟩:∃s,s=l.sendAt 0:=⟨_,rfl⟩;rw[←aa]at A;have V:s.net=[]:=by rw[A];rfl
  have l3:s.log=S.log++[wCa S a k]:=by rw[A];show List.foldl (DS l.onow) l.log [_]=_;rw[X,l2,U,List.foldl_cons,List.foldl_nil,endL_new h.num]
  have N:∀b,s.nodes b=if b=a then some E else S.nodes b:=by
   intro b;rw[A,I];show Ej l.nodes a (some E) b=_;by_cases t:b=a
   ·rw[t,Da,Ay rfl]
   ·rw[Di _ _ _ t,Aw t,x,z]
    show Ej g.nodes (ownK k) (some o) b=_;by_cases ad:b=ownK k
    ·rw[ad,Da,d.at_]
    ·rw[Di _ _ _ ad,p]
     exact Di _ _ _ t
  have k3:s.clk=S.clk:=by rw[A];show l.clk=_;rw[x];exact c1
  have Y:s.org=S.org:=by rw[A];show l.org=_;rw[x];show g.org=_;rw[p];rfl
  have w3:s.onow=S.onow:=by rw[A];exact X
  have hW:WCl s n (m+1):=by
   refine h.next hm B (a:=a) l3 Y w3 V (fun b F O=> ?_) ⟨by rw[N,Aw (by omega)];exact h.none_.1,by rw[N,Aw (by omega)];exact h.none_.2⟩;by_cases t:b=a
   ·subst t
    exact⟨E,by rw[R];exact c.liftA (by rw[N,Ay rfl,R]) (by rw[k3]) (by omega)⟩
   ·obtain⟨W,G⟩:=h.nd b F O
    exact⟨W,G.lift (by rw[N,Aw t];exact G.at_) (by rw[k3]) (by omega)⟩
  refine⟨L,by rw[U,Aj];rfl,s, ?_,l3,hW⟩;exact askC_done V hW.reads g (drainC_more (f:=298) n1 s1 (by rw[←Z];exact drainC_more (f:=297) n2 s2 (by rw[←aa];exact drainC_end V)))
def wndB (S:Cl)(n a:Nat):Bool:=match S.nodes a with
 |none=>false
 |some nd=>decide (nd.id=a)&&(nd.waits.isEmpty&&(nd.msgs.isEmpty&&(nd.reps.isEmpty&&(nd.reads.isEmpty&&(decide (nd.dk.cache.length≤15∧nd.tlast<100000∧nd.dk.boot≤1000∧nd.asked≤20)&&(decide (nd.ring=some (1,[1,2,3]))&&(decide (nd.dk.epoch=1)&&(List.range n).all (fun k=>decide (ownK k≠a)||(nd.serves (S.clk a) (keyS k)&&decide (cGet nd.dk.cache (keyS k)=some (valS k 1)))))))))))
theorem wndB_ok {S:Cl}{n a:Nat}(h:wndB S n a=true):∃nd,WNd S n 20 a nd:=by
 unfold wndB at h
 split at h
 ·cases h
 ·rename_i nd hnd
  simp only[Ar,A0,Ea,Cr,List.mem_range,CQ]at h;obtain⟨b,c,d,e,f,g,i,j,l⟩:=h;exact⟨nd,hnd,b,c,d,e,f,g,i,j,fun k m o=>(l k m).resolve_left (fun h=>h o)⟩
def wclB (S:Cl)(n:Nat):Bool:=
 wndB S n 1&&(wndB S n 2&&(wndB S n 3&&((S.nodes 4).isNone &&((S.nodes 5).isNone &&(S.net.isEmpty&&(decide (S.onow≤1000)&&((List.range n).all (fun k=>decide (1≤ownK k∧ownK k≤3)&&(itMay (keyS k) (valS k 1) 0 false&&heldB (setsOf S.org (keyS k)) (valS k 1) true 0 S.onow))&&(decide (S.log.length=n)&&((S.log.zipIdx.all fun p=>decide (p.1.id=p.2+1))&&(S.log.all (fun c=>decide (c.op=1))&&JL S (List.replicate n 0)))))))))))
theorem wclB_ok {S:Cl}{n:Nat}(w:n≤12)(h:wclB S n=true):WCl S n 20∧S.log.length=n:=by
 unfold wclB at h;simp only[Ar,A0,Ea,Cr,List.mem_range,Option.isNone_iff_eq_none]at h;obtain⟨f,m,o,p,q,r,s,d,e,g,j,l⟩:=h;refine⟨⟨fun a u v=> ?_,⟨p,q⟩,r,s,fun k b=>(d k b).1,by omega,fun i c t=> ?_,j,fun k b=>(d k b).2.1,fun k b=>(d k b).2.2,by rw[e];exact l⟩,e⟩
 ·rcases(by omega:a=1∨a=2∨a=3)with rfl|rfl|rfl
  ·exact wndB_ok f
  ·exact wndB_ok m
  ·exact wndB_ok o
 ·exact g (c,i) (Aq (i:=i) (by rw[List.getElem?_zipIdx,t];simp))
def lastB (S:Cl)(i:Nat):Bool:=match S.log[i]? with
 |none=>false
 |some c=>c.done&&(decide (c.rp.err=0)&&(c.rp.has&&decide (c.rp.val=valS i 1)))
def fillC (i:Nat)(S:Cl):Option Cl:=
 if(decide (S.onow<90000∧S.log.length=i)&&(S.log.all (fun c=>decide (c.op=1))&&LT (S.set (keyS i) (valS i 1)) (1+i % 3) (keyS i)))=true then
  (M1 true 20 ((S.set (keyS i) (valS i 1)).call 1 (1+i % 3) (keyS i))).bind fun a=>if(lastB a i&&decide (a.onow<90000))=true then some (a.set (keyS i) (valS i 2))else none
 else none
structure FillAt (i:Nat) (S S2 S':Cl) (c:Call):Prop where
 now:S.onow<90000
 len:S.log.length=i
 ops:∀c∈S.log,c.op=1
 call:LT (S.set (keyS i) (valS i 1)) (1+i % 3) (keyS i)=true
 run:M1 true 20 ((S.set (keyS i) (valS i 1)).call 1 (1+i % 3) (keyS i))=some S2
 last:S2.log[i]?=some c
 told:c.done=true∧c.rp.err=0∧c.rp.has=true∧c.rp.val=valS i 1
 now2:S2.onow<90000
 end_:S'=S2.set (keyS i) (valS i 2)
theorem fillC_at {i:Nat}{S S':Cl}(h:fillC i S=some S'):∃d c,FillAt i S d S' c:=by
 unfold fillC at h
 split at h
 ·rename_i h0
  simp only[Ar,A0,Cr]at h0;obtain⟨d,e,b⟩:=Cc.1 h
  split at b
  ·rename_i a
   simp only[Ar,A0]at a;obtain⟨a,f⟩:=a;unfold lastB at a
   split at a
   ·cases a
   ·rename_i c hc
    simp only[Ar,A0]at a;injection b with b;exact⟨d,c,h0.1.1,h0.1.2,h0.2.1,h0.2.2,e,hc,a,f,b.symm⟩
  ·cases b
 ·cases h
def fillsC:Nat→Nat→Cl→Option Cl
 |0,_,S=>some S
 |k+1,i,S=>(fillC i S).bind (fillsC k (i+1))
theorem fillsC_next {k i:Nat}{S S':Cl}(h:fillsC (k+1) i S=some S'):∃a,fillC i S=some a∧fillsC k (i+1) a=some S':=Cc.1 h
def warmN:Nat→Nat→Cl→Bool
 |0,i,S=>wclB S i
 |k+1,i,S=>(decide (i=0)||wclB S i)&&(match fillC i S with|none=>false|some S1=>warmN k (i+1) S1)
theorem warmN_at:∀(k i:Nat) (S:Cl),warmN k i S=true→∀n,n≤k→1≤i+n→∃S',fillsC n i S=some S'∧wclB S' (i+n)=true
 |0,i,S,h,n,hn,h1=>by
  obtain rfl:n=0:=by omega
  exact⟨S,rfl,h⟩
 |k+1,i,S,h,n,hn,h1=>by
  unfold warmN at h;simp only[Ar,CQ,A0]at h;obtain⟨b,a⟩:=h
  cases n with
  |zero=>exact⟨S,rfl,b.resolve_left (by omega)⟩
  |succ n=>
   split at a
   ·cases a
   ·rename_i S1 hS
    obtain⟨S',c,d⟩:=warmN_at k (i+1) S1 a n (by omega) (by omega);refine⟨S', ?_,by rw[show i+(n+1)=i+1+n by omega];exact d⟩;unfold fillsC;rw[hS];exact c
def topReadB:Bool:=match Ee 3 (Cl.make [1,2,3])with
 |none=>false
 |some S0=>S0.log.isEmpty&&warmN 12 0 S0
set_option maxRecDepth 1000000 in
theorem topRead_ok:topReadB=true:=by decide+kernel
theorem topRead_run (n:Nat)(i:1≤n)(d:n≤12):∃a b,Ee 3 (Cl.make [1,2,3])=some a∧a.log=[]∧fillsC n 0 a=some b∧WCl b n 20∧b.log.length=n:=by
 have h:=topRead_ok;unfold topReadB at h
 split at h
 ·cases h
 ·rename_i a hS
  simp only[Ar,Ea]at h;obtain⟨b,e,c⟩:=warmN_at 12 0 a h.2 n d (by omega);rw[AP]at c;obtain⟨f,g⟩:=wclB_ok d c;exact⟨a,b,hS,h.1,e,f,g⟩
theorem tmod_nat (i k:Nat)(b:Int)(d:b=(k:Int)):(i:Int).tmod b=((i % k:Nat):Int):=by rw[d];exact(Int.ofNat_tmod i k).symm
theorem keyS_size (i:Nat):(keyS i).size =6:=by unfold keyS;rw[KX];rfl
theorem valS_size (i n:Nat):(valS i n).size =8:=by unfold valS;rw[KX];rfl
theorem rep_snoc (i:Nat):List.replicate i 0++[0]=List.replicate (i+1) 0:=List.replicate_succ'.symm
section
variable {R:List As} {w w':World} {S S' S2 SF:Cl} {B B' tp wp a i n p k m:Nat} {low:List Nat} {mt:List Value} {c:Call}
theorem fill_set (h:Sp (Gt tp wp S (List.replicate i 0) mt B true::R) w)(b:FillAt i S S2 S' c)(d:i≤12):
  Calls Tryz.prog 9 #[pt tp,.string (keyS i),.string (valS i 1)] w fun e w'=>e=.returned (.tuple #[])∧Sp (Gt tp wp (S.set (keyS i) (valS i 1)) (List.replicate i 0) mt B true::R) w':=
 top_set h (by have:=b.now;omega) (by rw[keyS_size];omega) (by rw[valS_size];omega) (by rw[b.len,G5]) (by rw[G5];omega)
theorem fill_get (h:Sp (Gt tp wp (S.set (keyS i) (valS i 1)) (List.replicate i 0) mt B true::R) w)(b:FillAt i S S2 S' c)(j:i≤12)(f:B+20000≤700000):
  Calls Tryz.prog 12 #[pt tp,.int .i64 ((1+i % 3:Nat):Int),.string (keyS i),.string (valS i 1)] w fun e w'=>e=.returned (.bool true)∧Sp (Gt tp wp S2 (List.replicate (i+1) 0) mt (B+20000) true::R) w':=by
 have d:(S.set (keyS i) (valS i 1)).log.length =i:=b.len;refine top_get h b.told ?_;rw[←rep_snoc];exact WV h (by rw[keyS_size];omega) b.call (fun c g=>b.ops c g) (by rw[d,G5]) (by rw[G5];omega) (by rw[Cl.call_len b.call,d,G5]) b.run (by rw[G5];exact b.last) f
theorem fill_len (b:FillAt i S S2 S' c):S2.log.length=i+1:=by rw[Q3 _ b.run,Cl.call_len b.call];show S.log.length+1=_;rw[b.len]
theorem fill_set2 (h:Sp (Gt tp wp S2 (List.replicate (i+1) 0) mt B true::R) w)(b:FillAt i S S2 S' c)(d:i≤12):
  Calls Tryz.prog 9 #[pt tp,.string (keyS i),.string (valS i 2)] w fun e w'=>e=.returned (.tuple #[])∧Sp (Gt tp wp S' (List.replicate (i+1) 0) mt B true::R) w':=by
 rw[b.end_];exact top_set h (by have:=b.now2;omega) (by rw[keyS_size];omega) (by rw[valS_size];omega) (by rw[fill_len b,G5]) (by rw[G5];omega)
theorem warm_any (h:Sp (Gt tp wp S (List.replicate S.log.length 0) mt B true::R) w)(b:WCl S n m)(t:m<100)(s:k<n)(r:1≤a∧a≤3)(q:B+20000≤700000):∃S',WCl S' n (m+1)∧S'.log.length=S.log.length+1∧
  Calls Tryz.prog 13 #[pt tp,.int .i64 (a:Int),.string (keyS k),.string (valS k 1)] w fun e w'=>e=.returned (.bool true)∧Sp (Gt tp wp S' (List.replicate S'.log.length 0) mt (B+20000) true::R) w':=by
 obtain⟨g,j,S',l,d,o⟩:=b.warm t s r;have f:S'.log.length=S.log.length+1:=by rw[d,Aj];rfl
 refine⟨S',o,f, ?_⟩;have u:=b.log;refine top_warm (c:=wCa S a k) h ⟨rfl,rfl,rfl,rfl⟩ ?_;rw[f,←rep_snoc];exact top_ask0 h (by rw[keyS_size];omega) g b.ops (by rw[G5]) (by rw[G5];omega) (by rw[j,G5]) l (by rw[G5,d,AC (Av _),C8];rfl) q
theorem topRead_walk (x:Int)(a0:Option Addr)(V cap:Nat)(z0:List Int)(w:World)(w0:(Lit.int .i64 x).wf =true)(w1:IsRow .i64 w a0 V cap z0):
  Calls Tryz.prog 3 #[.int .i64 x,.slice a0 V cap] w fun e w'=>e=.returned (.bool true)∧Below w.heap.size w w':=by
 have hx: -9223372036854775808≤x∧x≤9223372036854775807:=by have Q:II x:=i64_wf w0;unfold II at Q;omega
 obtain⟨D,J,f,an⟩:=w1.rv;clear w0 w1;generalize z0.take V=who at*;subst D;obtain⟨s,hs⟩:∃s,s=JD x 12:=⟨_,rfl⟩;have am:s≤11:=by have:=Tx x 12 (by omega);omega
 obtain⟨S0,SF,r0,l0,rF,q,al⟩:=topRead_run (s+1) (by omega) (by omega);have HB:=h_ (To (Sp.old w));have u:=h_3 hx hs am;have O:=h_3 f an J;have A:=h_5 r0 l0 rF q al;clear hx hs am f an J r0 l0 rF q al;go_enter Tryz.func3,Tryz.ntmps3;go_wp2_with fail;refine HB.out.mono ?_;rintro e w2 ⟨rfl,h2⟩;have H2:=h_ h2;have HS:Hid (Calls Tryz.prog 7 #[.int .i64 x,.int .i64 12] w2 fun e w'=>e=.returned (.int .i64 (s:Int))∧w'=w2):=h_ (by rw[u.out.2.1];exact Nq x 12 (by omega) u.out.1);clear h2 HB;go_wp2_with fail;refine HS.out.mono ?_;rintro e w3 ⟨rfl,rfl⟩;have j:(s:Int)≤11:=by have:=u.out.2.2;omega
 have P:=(H2.out.alloc [.int .i64 1,.int .i64 2,.int .i64 3] 3).le (B:=BF 3 1 (.slice (some ⟨w3.heap.size,0,none⟩) 3 3) 3 [.int .i64 1,.int .i64 2,.int .i64 3]) (fun F W h=>⟨h.1,Yy (spare:=[]) (by rw[AE];exact h.2) rfl (Av _) rfl (by decide) (AA _)⟩);have M:=h_ (UV (mem:=[1,2,3]) P (by decide) (by simp) (by simp) (by simp) A.out.1);unfold pt at M;clear P HS;go_wp2_with fail;refine M.out.mono ?_;rintro e w5 ⟨tp,wp,rfl,h5⟩;have H5:=h_ h5;clear h5 M j;go_wp2
 go_loopw [7] (fun s7 wr=>∃(S:Cl) (i:Nat),s7=.int .i64 (i:Int)∧i≤s+1∧fillsC (s+1-i) i S=some SF∧Sp (Gt tp wp S (List.replicate i 0) JA (3000+20000*i) true::[oldA w]) wr) (fun x _=>s+1-(intOf x).toNat)
 case atStart=>exact⟨S0,0,rfl,AA _,A.out.2.2.1,H5.out⟩
 case round=>
 obtain⟨S,i,rfl,I,v,f⟩:=hrel;have aa:=h_ f;have r:=u.out.2.2;clear f H5;by_cases l:i<s+1
 ·obtain⟨k,z⟩:∃k,s+1-i=k+1:=⟨s-i,by omega⟩
  rw[z]at v;obtain⟨S1,ah,U⟩:=fillsC_next v;obtain⟨S2,c,hf⟩:=fillC_at ah;have ai:k=s+1-(i+1):=by omega
  rw[ai]at U;have H:=h_2 hf U;have b:=h_ (show i≤11 by omega);have j:(i:Int)<1+(s:Int):=by omega
  have o:decide ((i:Int)<1+(s:Int))=true:=An j;clear v z ah U hf ai l r;go_wp2_with fail;refine(topKey_any i (by have:=b.out;omega)).mono ?_;rintro e X ⟨rfl,k6⟩;have t:=h_ (aa.out.still k6);clear k6;go_wp2_with fail;refine(topVal_any i 1 (by have:=b.out;omega) (by omega)).mono ?_;rintro e w7 ⟨rfl,E⟩;have g:=fill_set (t.out.still E) H.out.1 (by have:=b.out;omega);have d:=h_ g;unfold pt at d;clear E g;go_wp2_with fail;refine d.out.mono ?_;rintro e w8 ⟨rfl,h8⟩;have H8:=h_ h8;clear h8 d t;have q3:(1:Int)+(i:Int).tmod 3=((1+i % 3:Nat):Int):=by have:=tmod_nat i 3 3 rfl;omega
  have a2:(i:Int).tmod 3=((i % 3:Nat):Int):=tmod_nat i 3 3 rfl;go_wp2_with fail;refine(topKey_any i (by have:=b.out;omega)).mono ?_;rintro e w9 ⟨rfl,k9⟩;have G:=h_ (H8.out.still k9);clear k9 H8;go_wp2_with fail;refine(topVal_any i 1 (by have:=b.out;omega) (by omega)).mono ?_;rintro e a8 ⟨rfl,ap⟩;have g:=fill_get (G.out.still ap) H.out.1 (by have:=b.out;omega) (by have:=b.out;omega);have d:=h_ g;unfold pt at d;clear ap g G;go_wp2_with fail
  first
   |refine d.out.mono ?_
   |(rw[show(1:Int)+((i % 3:Nat):Int)=((1+i % 3:Nat):Int) by omega];refine d.out.mono ?_)
  rintro e a9 ⟨rfl,ab⟩;have Y:=h_ ab;clear ab d q3 a2;go_wp2_with fail;refine(topKey_any i (by have:=b.out;omega)).mono ?_;rintro e ba ⟨rfl,aq⟩;have Z:=h_ (Y.out.still aq);clear aq Y;go_wp2_with fail;refine(topVal_any i 2 (by have:=b.out;omega) (by omega)).mono ?_;rintro e bb ⟨rfl,ar⟩;have g:=fill_set2 (Z.out.still ar) H.out.1 (by have:=b.out;omega);have d:=h_ g;unfold pt at d;clear ar g Z;go_wp2_with fail;refine d.out.mono ?_;rintro e bc ⟨rfl,ac⟩;have av:=h_ ac;have a3:=b.out;have r:=u.out.2.2;clear ac d;go_wp2
  go_roundw
  case rel=>exact⟨S1,i+1,by go_num,by omega,H.out.2,av.out⟩
  case measure=>simp only[intOf];omega
 ·obtain rfl:i=s+1:=by omega
  have hS:S=SF:=by rw[C8]at v;injection v
  subst hS;have j:¬((s+1:Nat):Int)<1+(s:Int):=by omega
  have o:decide (((s+1:Nat):Int)<1+(s:Int))=false:=Ak j;clear v l I r;go_wp2_with fail;clear j o
  go_loopw [8,9] (fun s8 s9 wr=>∃(S:Cl) (i:Nat),s8=.int .i64 (i:Int)∧i≤12∧i≤who.length∧WCl S (s+1) (20+i)∧S.log.length=s+1+i∧Sp (Gt tp wp S (List.replicate S.log.length 0) JA (3000+20000*(s+1+i)) true::[oldA w]) wr) (fun x _ _=>12-(intOf x).toNat)
  case atStart=>exact⟨S,0,rfl,AA _,AA _,A.out.2.2.2.1,A.out.2.2.2.2,by rw[A.out.2.2.2.2];exact aa.out⟩
  case round=>
  obtain⟨S,i,rfl,I,ay,q,D,f⟩:=hrel;have r:=u.out.2.2;have J:=O.out.2.2;by_cases l:i<who.length∧i<12
  ·have j:(i:Int)<(who.length:Int):=by omega
   have a5:decide ((i:Int)<(who.length:Int))=true:=An j;have o:(i:Int)<12:=by omega
   have au:decide ((i:Int)<12)=true:=An o;have b:=h_4 l q D r;obtain⟨k,z⟩:∃k,k=i % (s+1):=⟨_,rfl⟩;have aj:k<s+1:=by rw[z];exact C1 _ (by omega)
   have q2:(i:Int).tmod (1+(s:Int))=(k:Int):=by rw[z];exact tmod_nat i (s+1) _ (by omega)
   have a7:¬(1+(s:Int))=0:=by omega
   have L:=h_ aj;obtain⟨sa,so,ca,he,_,_,af⟩:=(O.out.1.keep ((f.pull 1).oldK) (by simp)).at1 (by omega);simp only[Bn]at he;obtain⟨rfl,_,rfl⟩:=he;have ag:wr.cell? ⟨sa,so+i,none⟩=(ints who)[i]?:=af i l.1;rw[Hm _ _ l.1]at ag;have ao:=i64_wf (O.out.2.1 _ (PM l.1));clear af
   generalize who.getD i 0=y at*;have hy: -9223372036854775808≤y∧y≤9223372036854775807:=by have Q:II y:=ao;unfold II at Q;omega
   obtain⟨a,T⟩:∃a,a=JD y 3:=⟨_,rfl⟩;have ae:a<3:=by rw[T];exact Tx y 3 (by omega)
   have ax:Hid (∀W,Calls Tryz.prog 7 #[.int .i64 y,.int .i64 3] W fun e w'=>e=.returned (.int .i64 (a:Int))∧w'=W):=h_ (fun W=>by rw[T];exact Nq y 3 (by omega) hy);obtain⟨aw,HA⟩:=i_2 f ae;clear f l q D r z aj ao hy T ae I ay J;go_wp2_with fail;refine(ax.out _).mono ?_;rintro e X ⟨rfl,rfl⟩;clear ag;have q4:(a:Int)≤2:=by have:=HA.out;omega
   go_wp2_with fail;refine(topKey_any k (by have:=L.out;have:=b.out.2.2.2;omega)).mono ?_;rintro e w7 ⟨rfl,E⟩;have H7:=h_ (aw.out.still E);clear E;go_wp2_with fail;refine(topVal_any k 1 (by have:=L.out;have:=b.out.2.2.2;omega) (by omega)).mono ?_;rintro e w8 ⟨rfl,k8⟩;obtain⟨S',ad,ak,g⟩:=warm_any (a:=1+a) (H7.out.still k8) b.out.2.1 (by have:=b.out.1;omega) L.out (by have:=HA.out;omega) (by have:=b.out;omega);have d:=h_3 g ad ak;unfold pt at d;clear k8 g ad ak H7;go_wp2_with fail
   first
    |refine d.out.1.mono ?_
    |(rw[show(1:Int)+(a:Int)=((1+a:Nat):Int) by omega];refine d.out.1.mono ?_)
   rintro e w9 ⟨rfl,h9⟩;have G:=h_ h9;have a4:=b.out.1;clear h9;go_wp2
   go_roundw
   case rel=>exact⟨S',i+1,by go_num,by have:=b.out.1;omega,by have:=b.out.1;omega,d.out.2.1,by rw[d.out.2.2,b.out.2.2.1];omega,G.out⟩
   case measure=>simp only[intOf];have:=b.out.1;omega
  ·have j:((i:Int)<(who.length:Int))=False∨((i:Int)<12)=False:=by
    by_cases h:i<who.length
    ·exact .inr (eq_false (by omega))
    ·exact .inl (eq_false (by omega))
   have a1:S.log.length≤1000:=by omega
   obtain⟨lg,az⟩:∃lg,lg=Hi wp S (List.replicate S.log.length 0) JA (3000+20000*(s+1+i)):=⟨_,rfl⟩;have K:Sp (AM tp [pt wp,.bool true] 33::Hi wp S (List.replicate S.log.length 0) JA (3000+20000*(s+1+i))::[oldA w]) wr:=f.open_;have t0:wr.cell? ⟨tp,0,none⟩=some (pr wp 0):=K.blk.cell 0;have t1:wr.cell? ⟨tp,1,none⟩=some (.bool true):=K.blk.cell 1;have N:=h_ (VM (K.pull 1) q.right);unfold pt at N;clear f q D r az K I a1;by_cases P:i<who.length
   ·have o:(i:Int)<(who.length:Int):=by omega
    have au:decide ((i:Int)<(who.length:Int))=true:=An o;have q2:¬(i:Int)<12:=by omega
    have a6:decide ((i:Int)<12)=false:=Ak q2;clear j l;go_wp2_with fail;refine N.out.mono ?_;rintro e X ⟨rfl,C⟩;have t:=h_ ((C.pull 2).oldK);clear C;go_wp2;go_ret;exact⟨rfl,t.out.below⟩
   ·have o:¬(i:Int)<(who.length:Int):=by omega
    have au:decide ((i:Int)<(who.length:Int))=false:=Ak o;clear j l;go_wp2_with fail;refine N.out.mono ?_;rintro e X ⟨rfl,C⟩;have t:=h_ ((C.pull 2).oldK);clear C;go_wp2;go_ret;exact⟨rfl,t.out.below⟩
end
end Go.Proofs.YtnhbioehiiifdaaGreat
