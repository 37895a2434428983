import Derived.Test.YtnhbioehiiifdaaGreatD25
set_option maxRecDepth 100000
set_option maxHeartbeats 16000000
set_option linter.all false
namespace Go.Proofs.YtnhbioehiiifdaaGreat
open Go.ChangeShapes Go.WideShapes Go.ChangeAt Go.RowKit
section
variable {R:List As} {w w':World} {S S':Cl} {B B' tp wp a i n p:Nat} {low low':List Nat} {mt:List Value} {nd:Nd} {key:Str} {c:Call}
theorem top_ask0 (h:Sp (Gt tp wp S low mt B true::R) w)(hk:key.size≤45)(a3:LT S a key=true)(bg:∀c∈S.log,c.op=1)(bq:S.log.length=low.length)(I:low.length≤9000)
  (aa:(S.call 1 a key).log.length =low.length+1) (aj:M1 false 20 (S.call 1 a key)=some S') (hc:S'.log[low.length]?=some c) (E:B+20000≤700000):
  Calls Tryz.prog 18 #[pt tp,.int .i64 7,.int .i64 (a:Int),.string key,.bool false] w fun e w'=>e=.returned (.tuple #[.agg (rpC c.rp).toArray,.bool c.done])∧Sp (Gt tp wp S' (low++[0]) mt (B+20000) true::R) w':=by
 have h1:=(h.alloc UT 43).push 1;have h1:Sp (Gt tp wp S low mt B true::AM w.heap.size UT 43::R) (w.alloc (.cells UT.toArray 43)):=h1;have J:=Ib (s:=BC 7 a 0 key ⟨#[]⟩ false (.slice none 0 0)) h1 rfl GE (fun W R' U=>Kg (S':=S.call 1 a key) (c:=0) U hk bg (fun p W R' U=>getA U a3 (by omega)) aa ⟨by omega,by omega⟩);have af:=h_ J;have bb:S'.log.length=low.length+1:=by rw[Q3 _ aj,aa]
 have N:=h_6 aj hc E aa bb I;unfold BC pt at af;unfold pt;clear h h1 hk a3 bg bq I aa aj hc E J bb;go_enter Tryz.func18,Tryz.ntmps18;go_wp2_with fail;refine af.out.mono ?_;rintro e w2 ⟨rfl,h2⟩;obtain⟨q,o,G⟩:=h2.top;have Q:w2.cell? ⟨tp,0,none⟩=some (pr wp 0):=(o.pull 2).blk.cell 0;have t1:w2.cell? ⟨tp,1,none⟩=some (.bool true):=(o.pull 2).blk.cell 1;have C:w2.cell? ⟨wp,0,none⟩=some (pr q.p 0):=(o.pull 1).blk.cell 0;obtain⟨lp,Y,V⟩:=Er o;have y:=h_3 Y (V w2 (By _ _)) G;obtain⟨r,a2⟩:∃b,b=w.heap.size:=⟨_,rfl⟩;rw[←a2]at y⊢;unfold pt at y;clear af h2 o G Y V a2;go_wp2_with fail;refine y.out.1.mono ?_;rintro e w3 ⟨rfl,rfl⟩;go_wp2_with fail;refine y.out.2.1.mono ?_;rintro e w4 ⟨u,rfl,D⟩;obtain⟨ua,uc,Z⟩:=A4 D.row;rw[N.out.2.2.2.1]at Z;subst Z;obtain⟨K,I⟩:∃n,n=low.length:=⟨_,rfl⟩;have h5:=y.out.2.2 w4 _ D.drop;obtain⟨H5,HL⟩:=i_2 h5 I;have bv:K≤9000:=by rw[I];exact N.out.2.2.2.2.2
 rw[←I];clear D h5 y Q t1 C I;go_wp2
 go_loopw [13] (fun bt wr=>∃(T:Cl) (i:Nat),bt=.int .i64 (i:Int)∧i≤19∧M1 false (20-i) T=some S'∧T.log.length=K+1∧Sp (Gt tp wp T (low++[0]) mt (B+2+700*i) true::AM r UT 43::R) wr) (fun x _=>20-(intOf x).toNat)
 case atStart=>exact⟨_,0,rfl,by omega,N.out.1,by rw[N.out.2.2.2.1,HL.out],by simpa using H5.out⟩
 case round=>
 obtain⟨T,i,rfl,hi,ah,bd,P⟩:=hrel;obtain⟨f,hf⟩:∃f,20-i=f+1:=⟨19-i,by omega⟩;rw[hf]at ah;obtain⟨S1,a5,a6,a7,a8⟩:=LY ah;have HA:=h_6 a5 a6 a7 a8 hf bd;have O:=h_ P;have q0:(i:Int)<20:=by omega
 clear ah a5 a6 a7 a8 hf bd P H5
 rename World=>wo
 go_wp2
 go_loopw [14] (fun bu wr=>∃(m:Cl) (k:Nat),bu=.int .i64 (k:Int)∧k≤299∧Ez (299-k) m=some S1∧m.log.length=K+1∧Sp (Gt tp wp m (low++[0]) mt (B+2+700*i+2*k) true::AM r UT 43::R) wr) (fun x _=>300-(intOf x).toNat)
 case atStart=>exact⟨T,0,rfl,AA _,HA.out.1,HA.out.2.2.2.2.2,by simpa using O.out⟩
 case round=>
 obtain⟨m,k,rfl,hk,H,be,P⟩:=hrel;obtain⟨q,o,G⟩:=P.top;have Q:wr.cell? ⟨tp,0,none⟩=some (pr wp 0):=(o.pull 2).blk.cell 0;have C:wr.cell? ⟨wp,0,none⟩=some (pr q.p 0):=(o.pull 1).blk.cell 0;obtain⟨np,bf,bc⟩:=Qr o;have HN:=h_2 bf bc;have O:=h_ P;unfold pt at HN;have q1:(k:Int)<300:=by omega
 have br:decide ((k:Int)<300)=true:=An q1;clear P o G bf bc;go_wp2_with fail;refine HN.out.1.mono ?_;rintro e w5 ⟨rfl,rfl⟩;go_wp2_with fail;refine HN.out.2.mono ?_;rintro e w5 ⟨rfl,rfl⟩;clear HN;by_cases F:m.net=[]
 ·have bp:=LN H F
  subst bp;have q2:(m.net.length:Int)=0:=by rw[F];rfl
  have bs:¬(0:Int)<(m.net.length:Int):=by omega
  have al:decide (0<m.net.length)=false:=Ak (by omega);have H6:=O;clear O H F Q C q2 bs q1 br;have az:B+2+700*i+2*k≤B+20000:=by omega
  ·have bo:m=S':=by
    rcases HA.out.2.2.2.1 with⟨_,h⟩|⟨h,_⟩
    ·exact h
    ·exact absurd (by simp) h
   subst bo;obtain⟨q,o,G⟩:=(H6.out.topMono az).top;have Q:w5.cell? ⟨tp,0,none⟩=some (pr wp 0):=(o.pull 2).blk.cell 0;have C:w5.cell? ⟨wp,0,none⟩=some (pr q.p 0):=(o.pull 1).blk.cell 0;obtain⟨lp,Y,V⟩:=Er o;have y:=h_3 Y (V w5 (By _ _)) G;have qf:decide (0<m.net.length)=false:=al;unfold pt at y;clear o G Y V H6 az;go_wp2_with fail;refine y.out.1.mono ?_;rintro e w7 ⟨rfl,rfl⟩;go_wp2_with fail;refine y.out.2.1.mono ?_;rintro e w8 ⟨u,rfl,h8⟩;have a4:m.log[K]?=some c:=by rw[HL.out];exact N.out.2.1
   obtain⟨g,cap,Z,_,_,bj,_,_⟩:=Cq (k:=13) CX h8.row a4;rw[show m.log.length=K+1 from be]at Z;subst Z;have bl:=(y.out.2.2 w8 _ h8.drop).alloc M3 87;obtain⟨ae,am⟩:=i_2 bl bj;clear h8 bj bl Q C a4 qf al
   go_wp2_with (first|(refine Bc rfl 87 _ rfl g (K*13) rfl (caC c) _ am.out Tryz.underlying87 rfl (by rfl) ?_)|(refine AS rfl _ _ _ rfl w8.heap.size M3 (caC c) 87 rfl rfl ae.out.blk rfl Y7 (J7 c) ?_;intro bw ax bm;have hs:=ae.out.set ax bm;have HW:=h_ hs;clear hs ax bm)|fail)
   obtain⟨j,a1⟩:∃b,b=w8.heap.size:=⟨_,rfl⟩;rw[←a1]at HW⊢;clear a1 ae am y;have bn:=h_ (HW.out.sel (l:=[_,_,_]) [0,2,1] 3 rfl rfl);clear HW;refine wK (A:=[0,1,0,4,3,31]) 16 [pr j 7,.agg (rpC c.rp).toArray,pr j 6,.bool c.done,undef,.bool c.done] (fun L W=>Sp (AM j (caC c) 87::AM r (if L 4=true then rpC c.rp else UT) 43::Gt tp wp m (low++[0]) mt (B+20000) true::R) W) ?mstart (.s ?m0<|.s ?m1<|.s ?m2<|.s ?m3<|.t ?m4<|.s ?m5<|.nil) ?mfin
   case mstart=>exact bn.out.drew
   case mfin=>
    intro L M z hd;rw[hd 4 (by decide) (by decide)]at z;have h9:Sp (AM j (caC c) 87::AM r (rpC c.rp) 43::Gt tp wp m (low++[0]) mt (B+20000) true::R) M:=z;have d:=(h9.pull 1).blk;have C:M.cell? ⟨r,0,none⟩=some (.int .i64 (c.rp.id:Int)):=d.cell 0;have d1:M.cell? ⟨r,1,none⟩=some (.int .i64 (c.rp.op:Int)):=d.cell 1;have d2:M.cell? ⟨r,2,none⟩=some (.string c.rp.key):=d.cell 2;have d3:M.cell? ⟨r,3,none⟩=some (.int .i64 (c.rp.err:Int)):=d.cell 3;have d4:M.cell? ⟨r,4,none⟩=some (.string c.rp.val):=d.cell 4;have d5:M.cell? ⟨r,5,none⟩=some (.bool c.rp.has):=d.cell 5;have H9:=h_ (h9.drop.drop);clear z hd h9 d;simp[Al,Act.put]
    first
     |refine Be (v:= .tuple #[.agg (rpC c.rp).toArray,.bool c.done]) ?_ rfl ⟨rfl,H9.out⟩
     |(go_wp2_with fail;refine Be (v:= .tuple #[.agg (rpC c.rp).toArray,.bool c.done]) ?_ rfl ⟨rfl,H9.out⟩)
    simp[results,Tryz.results18,go_sem,C,d1,d2,d3,d4,d5,rpC]
   case m4=>intro L xv W z hl hA ai hN X b E K' ag;clear hA ai hN;have ac:=h_ z;have d:=z.blk;have f6:W.cell? ⟨j,6,none⟩=some (.bool c.done):=d.cell 6;have f7:W.cell? ⟨j,7,none⟩=some (.int .i64 (c.rp.id:Int)):=d.cell 7;have f8:W.cell? ⟨j,7+1,none⟩=some (.int .i64 (c.rp.op:Int)):=d.cell 8;have f9:W.cell? ⟨j,7+2,none⟩=some (.string c.rp.key):=d.cell 9;have an:W.cell? ⟨j,7+3,none⟩=some (.int .i64 (c.rp.err:Int)):=d.cell 10;have ap:W.cell? ⟨j,7+4,none⟩=some (.string c.rp.val):=d.cell 11;have ar:W.cell? ⟨j,7+5,none⟩=some (.bool c.rp.has):=d.cell 12;have av:W.cell? ⟨j,8,none⟩=some (.int .i64 (c.rp.op:Int)):=d.cell 8;have aw:W.cell? ⟨j,9,none⟩=some (.string c.rp.key):=d.cell 9;have ao:W.cell? ⟨j,10,none⟩=some (.int .i64 (c.rp.err:Int)):=d.cell 10;have aq:W.cell? ⟨j,11,none⟩=some (.string c.rp.val):=d.cell 11;have au:W.cell? ⟨j,12,none⟩=some (.bool c.rp.has):=d.cell 12;clear z d;simp at X;simp only[Al,Act.put,A8,A7,A6,X]at E;subst E;clear f6 f7 f8 f9 an ap ar av aw ao aq au;have h0:=ac.out;rw[hl]at h0;have H0:=h_ h0;clear h0;refine Eu rfl _ _ _ rfl r UT (rpC c.rp) 43 rfl rfl (H0.out.pull 1).blk rfl Tryz.sizeReply (N8 c.rp) ?_;intro w3 a0 k3;have H3:=h_ (((H0.out.pull 1).set a0 k3).push 1);clear a0 k3;exact ag _ _ rfl H3.out
   all_goals intro L xv W z hA ai hN X b E K' ag;clear hA ai hN;have ac:=h_ z;have d:=z.blk;have f6:W.cell? ⟨j,6,none⟩=some (.bool c.done):=d.cell 6;have f7:W.cell? ⟨j,7,none⟩=some (.int .i64 (c.rp.id:Int)):=d.cell 7;have f8:W.cell? ⟨j,7+1,none⟩=some (.int .i64 (c.rp.op:Int)):=d.cell 8;have f9:W.cell? ⟨j,7+2,none⟩=some (.string c.rp.key):=d.cell 9;have an:W.cell? ⟨j,7+3,none⟩=some (.int .i64 (c.rp.err:Int)):=d.cell 10;have ap:W.cell? ⟨j,7+4,none⟩=some (.string c.rp.val):=d.cell 11;have ar:W.cell? ⟨j,7+5,none⟩=some (.bool c.rp.has):=d.cell 12;have av:W.cell? ⟨j,8,none⟩=some (.int .i64 (c.rp.op:Int)):=d.cell 8;have aw:W.cell? ⟨j,9,none⟩=some (.string c.rp.key):=d.cell 9;have ao:W.cell? ⟨j,10,none⟩=some (.int .i64 (c.rp.err:Int)):=d.cell 10;have aq:W.cell? ⟨j,11,none⟩=some (.string c.rp.val):=d.cell 11;have au:W.cell? ⟨j,12,none⟩=some (.bool c.rp.has):=d.cell 12;clear z d;simp at X;simp only[Al,Act.put,A8,A7,A6,X]at E;subst E;go_simp;exact ag _ _ rfl ac.out
 ·have bh:0<m.net.length:=Cs.2 F
  have q2:(0:Int)<(m.net.length:Int):=by omega
  have al:decide (0<m.net.length)=true:=An bh
  have a9:k≠299:=by
   rintro rfl;rw[C8]at H;have:m=S1:=by injection H
   rw[this]at F;exact F HA.out.2.1
  obtain⟨k2,a9⟩:∃k2,299-k=k2+1:=⟨298-k,by omega⟩;rw[a9]at H;obtain⟨bk,ak⟩:=Km H F;have ba:k2=299-(k+1):=by omega
  rw[ba]at ak;have ay:B+2+700*i+2*k≤790000:=by have:=N.out.2.2.1;omega
  have ab:(m.sendAt 0).log.length =K+1:=by rw[YD,be]
  have bi:Sp (AM tp [pt wp,.bool true] 33::Hi wp m (low++[0]) mt (B+2+700*i+2*k)::AM r UT 43::R) _:=O.out.open_;have J:=Jz (a:=0) (i:=0) (key:=⟨#[]⟩) (c:=0) (bi.pull 1) (by decide) (fun p W R' U=>XW U bk ay) (by rw[ab,Aj,List.length_singleton,←HL.out];omega) (by rw[ab,Aj,List.length_singleton,←HL.out];omega);unfold BC at J;unfold pt at J;have ad:=h_3 J ak ab;clear J bk ak ab ay ba H F bh O bi;go_wp2_with fail;refine ad.out.1.mono ?_;rintro e w4 ⟨rfl,D⟩;have D:Sp (Gt tp wp (m.sendAt 0) (low++[0]) mt (B+2+700*i+2*(k+1)) true::AM r UT 43::R) w4:=DV [_,_] (D.push 1);have H4:=h_ D;clear D C Q;go_wp2
  go_roundw
  ·exact⟨m.sendAt 0,k+1,by simp,by omega,ad.out.2.1,ad.out.2.2,H4.out⟩
  ·simp only[intOf];omega
end
section
variable {R:List As} {w w':World} {S S':Cl} {B B' tp wp a i n p:Nat} {low low':List Nat} {mt:List Value} {nd:Nd} {key val:Str} {c:Call}
theorem top_get (h:Sp (Gt tp wp S low mt B true::R) w)(r:c.done=true∧c.rp.err=0∧c.rp.has=true∧c.rp.val=val)
  (o:Calls Tryz.prog 18 #[pt tp,.int .i64 7,.int .i64 (a:Int),.string key,.bool true] w fun e w'=>e=.returned (.tuple #[.agg (rpC c.rp).toArray,.bool c.done])∧Sp (Gt tp wp S' low' mt B' true::R) w'):
  Calls Tryz.prog 12 #[pt tp,.int .i64 (a:Int),.string key,.string val] w fun e w'=>e=.returned (.bool true)∧Sp (Gt tp wp S' low' mt B' true::R) w':=by
 have b:=h_2 o r;unfold pt at*;clear h o r;go_enter Tryz.func12,Tryz.ntmps12;go_wp2_with fail;refine b.out.1.mono ?_;rintro e g ⟨rfl,m⟩;have q:=m.alloc UT 43;have k:=h_ q;clear m q
 go_wp2_with (refine AS rfl _ _ _ rfl g.heap.size UT (rpC c.rp) 43 rfl rfl k.out.blk rfl Tryz.sizeReply (N8 c.rp) ?_;intro f d s;have j:=k.out.set d s;have x:f.cell? ⟨g.heap.size,3,none⟩=some (.int .i64 0):=(by rw[d.cell];show some (Value.int .i64 (c.rp.err:Int))=_;rw[b.out.2.2.1];rfl);have z:f.cell? ⟨g.heap.size,5,none⟩=some (.bool true):=(by rw[d.cell];show some (Value.bool c.rp.has)=_;rw[b.out.2.2.2.1]);have y:f.cell? ⟨g.heap.size,4,none⟩=some (.string val):=(by rw[d.cell];show some (Value.string c.rp.val)=_;rw[b.out.2.2.2.2]);have v:f.cell? ⟨tp,1,none⟩=some (.bool true):=(((j.drop).open_ (l:=[_,_])).blk.cell 1);have u:=b.out.2.1;have t:=h_ j.drop;clear j d s)
 first
  |go_ret
  |(go_wp2;go_ret)
 exact⟨rfl,t.out⟩
theorem top_warm (h:Sp (Gt tp wp S low mt B true::R) w)(r:c.done=true∧c.rp.err=0∧c.rp.has=true∧c.rp.val=val)
  (o:Calls Tryz.prog 18 #[pt tp,.int .i64 7,.int .i64 (a:Int),.string key,.bool false] w fun e w'=>e=.returned (.tuple #[.agg (rpC c.rp).toArray,.bool c.done])∧Sp (Gt tp wp S' low' mt B' true::R) w'):
  Calls Tryz.prog 13 #[pt tp,.int .i64 (a:Int),.string key,.string val] w fun e w'=>e=.returned (.bool true)∧Sp (Gt tp wp S' low' mt B' true::R) w':=by
 have b:=h_2 o r;unfold pt at*;clear h o r;go_enter Tryz.func13,Tryz.ntmps13;go_wp2_with fail;refine b.out.1.mono ?_;rintro e g ⟨rfl,m⟩;have q:=m.alloc UT 43;have k:=h_ q;clear m q
 go_wp2_with (refine AS rfl _ _ _ rfl g.heap.size UT (rpC c.rp) 43 rfl rfl k.out.blk rfl Tryz.sizeReply (N8 c.rp) ?_;intro f d s;have j:=k.out.set d s;have x:f.cell? ⟨g.heap.size,3,none⟩=some (.int .i64 0):=(by rw[d.cell];show some (Value.int .i64 (c.rp.err:Int))=_;rw[b.out.2.2.1];rfl);have z:f.cell? ⟨g.heap.size,5,none⟩=some (.bool true):=(by rw[d.cell];show some (Value.bool c.rp.has)=_;rw[b.out.2.2.2.1]);have y:f.cell? ⟨g.heap.size,4,none⟩=some (.string val):=(by rw[d.cell];show some (Value.string c.rp.val)=_;rw[b.out.2.2.2.2]);have v:f.cell? ⟨tp,1,none⟩=some (.bool true):=(((j.drop).open_ (l:=[_,_])).blk.cell 1);have u:=b.out.2.1;have t:=h_ j.drop;clear j d s)
 first
  |go_ret
  |(go_wp2;go_ret)
 exact⟨rfl,t.out⟩
end
theorem Cl.call_len {S:Cl}{a:Nat}{key:Str}(h:LT S a key=true):(S.call 1 a key).log.length =S.log.length+1:=by
 unfold LT at h;simp only[Ar]at h;obtain⟨_,h⟩:=h;unfold Cl.call
 cases b:S.nodes a with
 |none=>rw[b]at h;cases h
 |some n=>simp only;rw[YI];simp
section
variable {R:List As} {w w':World} {S S':Cl} {B B' tp wp a i n p:Nat} {low low':List Nat} {mt:List Value} {key val:Str}
theorem top_set (h:Sp (Gt tp wp S low mt B true::R) w)(k:S.onow<100000)(j:key.size≤45)(l:val.size≤60)(r:S.log.length=low.length)(q:low.length≤9000):
  Calls Tryz.prog 9 #[pt tp,.string key,.string val] w fun e w'=>e=.returned (.tuple #[])∧Sp (Gt tp wp (S.set key val) low mt B true::R) w':=by
 have d:=Ib (s:=BC 6 0 0 key val true (.slice none 0 0)) h rfl GE (fun W o b=>P7 (S':=S.set key val) (a:=0) (i:=0) (c:=0) b j l (fun p W o b=>setA (kv:= .slice none 0 0) b k (by omega) (by omega)) (by show S.log.length≠_;omega) ⟨by show S.log.length≤_;omega,by omega⟩);unfold BC pt at d;have f:=h_ d;unfold pt;clear h k j l r q d;go_enter Tryz.func9,Tryz.ntmps9;go_wp2_with fail;refine f.out.mono ?_;rintro e t ⟨rfl,g⟩;have m:=h_ g;clear g f;go_wp2
 go_end0
 exact⟨rfl,m.out⟩
end
def ownD:Nat:=refOwner (IN (sb kS))
def toldB (S:Cl)(i:Nat)(v:Str):Bool:=match S.log[i]? with
 |none=>false
 |some c=>c.done&&(decide (c.rp.err=0)&&(c.rp.has&&decide (c.rp.val=v)))
def tellC (rd:Bool)(a i:Nat)(k v:Str)(S:Cl):Option Cl:=
 if(decide (S.log.length=i)&&(S.log.all (fun c=>decide (c.op=1))&&LT S a k))=true then
  (M1 rd 20 (S.call 1 a k)).bind fun b=>if toldB b i v=true then some b else none
 else none
structure TellAt (rd:Bool) (a i:Nat) (k v:Str) (S S2:Cl) (c:Call):Prop where
 len:S.log.length=i
 ops:∀c∈S.log,c.op=1
 call:LT S a k=true
 run:M1 rd 20 (S.call 1 a k)=some S2
 last:S2.log[i]?=some c
 told:c.done=true∧c.rp.err=0∧c.rp.has=true∧c.rp.val=v
theorem tellC_at {rd:Bool}{a i:Nat}{k v:Str}{S d:Cl}(h:tellC rd a i k v S=some d):∃c,TellAt rd a i k v S d c:=by
 unfold tellC at h
 split at h
 ·rename_i h0
  simp only[Ar,A0,Cr]at h0;obtain⟨f,e,b⟩:=Cc.1 h
  split at b
  ·rename_i h3
   unfold toldB at h3
   split at h3
   ·cases h3
   ·rename_i c hc
    simp only[Ar,A0]at h3;injection b with b;subst b;exact⟨c,h0.1,h0.2.1,h0.2.2,e,hc,h3⟩
  ·cases b
 ·cases h
def restF:Nat→Nat→Cl→Option (Nat×Cl)
 |0,_,_=>none
 |f+1,k,S=>match restN k S with
  |some S'=>some (k,S')
  |none=>restF f (k+1) S
theorem restF_at:∀(f k:Nat) {S S':Cl} {j:Nat},restF f k S=some (j,S')→restN j S=some S'∧j<k+f
 |0,_,_,_,_,h=>by cases h
 |f+1,k,S,S',j,h=>by
  unfold restF at h
  split at h
  ·rename_i S2 a
   injection h with h;injection h with h3 h4;subst h3 h4;exact⟨a,by omega⟩
  ·obtain⟨b,a⟩:=restF_at f (k+1) h
   exact⟨b,by omega⟩
def afterB (i:Nat)(S:Cl):Bool:=
 (match S.nodes ownD with|none=>false|some n=>decide (n.serves (S.clk ownD) kS=decide (i<20)))&&(riseAuB S&&(!S.rise0.down&&(match restF 5 1 S.rise0 with
  |none=>false
  |some (k,S8)=>match tellC false (3-ownD) 1 kS vS S8 with
   |none=>false
   |some S9=>oneB S9 mtaZ&&JL S9 [0,0])))
def afterN:Nat→Nat→Cl→Bool
 |0,i,S=>afterB i S
 |f+1,i,S=>afterB i S&&(match QX S with|none=>false|some S1=>afterN f (i+1) S1)
theorem afterN_at:∀(f i:Nat) (S:Cl),afterN f i S=true→∀n,n≤f→∃S',Ee n S=some S'∧afterB (i+n) S'=true
 |0,i,S,h,n,hn=>by
  obtain rfl:n=0:=by omega
  exact⟨S,rfl,h⟩
 |f+1,i,S,h,n,hn=>by
  unfold afterN at h;simp only[Ar]at h;obtain⟨b,a⟩:=h
  cases n with
  |zero=>exact⟨S,rfl,b⟩
  |succ n=>
   split at a
   ·cases a
   ·rename_i S1 hS
    obtain⟨S',c,d⟩:=afterN_at f (i+1) S1 a n (by omega);refine⟨S', ?_,by rw[show i+(n+1)=i+1+n by omega];exact d⟩;unfold Ee;rw[hS];exact c
def authDownB:Bool:=decide (1≤ownD∧ownD≤2)&&(match Ee 3 (Cl.make [1,2])with
 |none=>false
 |some S1=>decide (S1.onow<90000)&&(decide (S1.log.length=0)&&(match tellC true 1 0 kS vS (S1.set kS vS)with
  |none=>false
  |some S4=>SX S4&&afterN 39 0 (S4.crash 0))))
set_option maxRecDepth 1000000 in
theorem authDown_ok:authDownB=true:=by decide+kernel
structure AfterAt (i k:Nat) (S S8 S9:Cl) (n:Nd) (c:Call):Prop where
 nd:S.nodes ownD=some n
 serves:n.serves (S.clk ownD) kS=decide (i<20)
 rise:riseAuB S=true
 down:S.rise0.down=false
 rest:restN k S.rise0=some S8
 few:k≤5
 tell:TellAt false (3-ownD) 1 kS vS S8 S9 c
 one:oneB S9 mtaZ=true
 right:JL S9 [0,0]=true
theorem afterB_at {i:Nat}{S:Cl}(h:afterB i S=true):∃k b d n c,AfterAt i k S b d n c:=by
 unfold afterB at h;simp only[Ar,Bool.not_eq_true']at h;obtain⟨e,f,g,a⟩:=h
 split at e
 ·cases e
 ·rename_i n hn
  split at a
  ·cases a
  ·rename_i k b hr
   split at a
   ·cases a
   ·rename_i d ht
    simp only[Ar]at a;obtain⟨l,m⟩:=restF_at 5 1 hr;obtain⟨c,j⟩:=tellC_at ht;exact⟨k,b,d,n,c,hn,by simpa using e,f,g,l,by omega,j,a.1,a.2⟩
theorem authDown_run:(1≤ownD∧ownD≤2)∧∃a b c4,Ee 3 (Cl.make [1,2])=some a∧a.onow<90000∧a.log.length=0∧TellAt true 1 0 kS vS (a.set kS vS) b c4∧SX b=true∧∀n,n≤39→∃e k f g nd c,Ee n (b.crash 0)=some e∧AfterAt n k e f g nd c:=by
 have h:=authDown_ok;unfold authDownB at h;simp only[Ar,A0]at h;obtain⟨m,h⟩:=h;refine⟨m, ?_⟩
 split at h
 ·cases h
 ·rename_i a hS1
  simp only[Ar,A0]at h;obtain⟨o,p,d⟩:=h
  split at d
  ·cases d
  ·rename_i b hS4
   simp only[Ar]at d;obtain⟨c4,q⟩:=tellC_at hS4;refine⟨a,b,c4,hS1,o,p,q,d.1,fun n r=> ?_⟩;obtain⟨e,j,i⟩:=afterN_at 39 0 _ d.2 n r;rw[AP]at i;obtain⟨k,f,g,nd,c,l⟩:=afterB_at i;exact⟨e,k,f,g,nd,c,j,l⟩
end Go.Proofs.YtnhbioehiiifdaaGreat
