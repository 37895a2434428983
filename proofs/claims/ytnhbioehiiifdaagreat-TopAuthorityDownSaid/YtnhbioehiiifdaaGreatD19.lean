import Derived.Test.YtnhbioehiiifdaaGreatD16
import Derived.Test.YtnhbioehiiifdaaGreatD17
set_option maxRecDepth 100000
set_option maxHeartbeats 16000000
set_option linter.all false
namespace Go.Proofs.YtnhbioehiiifdaaGreat
open Go.ChangeShapes Go.WideShapes Go.ChangeAt Go.RowKit
def Cu (o:Option Nat):Value:= .pointer (o.map (fun b=>⟨b,0,none⟩))
def ndC (stb le id:Nat)(e:Option Nat)(g:Nat)(h rv:Value)(a:Nat)(b f:Value):List Value:=
 [pr stb 0,pr le 0,.int .i64 (id:Int),Cu e,pr g 0,.bool false,.slice none 0 0,.map none,.map none,h,rv,.int .i64 (a:Int),b,f]
theorem StAt.lt {w:World}{stb d sb c t segs:Nat}{L:List Sec}{b:Nat}{g ep rd:Int}{e:Bool}{M:List JMk}{R:List (Nat×FR)}{x:StD}(h:StAt w stb d sb c t segs L b g ep rd e M R x):∀q∈x.F stb,q<w.heap.size:=by
 intro q a;obtain⟨j,l,i,k,f,_⟩:=h.fl.log;simp only[StD.F,StD.jF,StD.fF,Iw,Ac,Ag]at a;rcases a with rfl|rfl|rfl|a|rfl|rfl|rfl|a
 ·exact h.blk.lt
 ·exact h.kep.1.lt
 ·exact h.kep.2.lt
 ·exact(h.jn.lt q a).2
 ·exact h.fl.blk.lt
 ·exact h.fl.idx.blk.lt
 ·exact h.fl.idx.row.lt
 ·exact(f.at_.lt q a).2
section
variable {w w':World} {d sb c segs:Nat} {L:List Sec}
theorem Kf (id stb m:Nat):Calls Tryz.prog 114 #[.int .i64 (id:Int),pr stb 0,.int .i64 0,pr m 0] w fun e w'=>∃p le b l,e=.returned (.tuple #[pr p 0,.int .i64 0])∧
  Blk w' p (ndC stb le id none b (.slice none 0 0) (.slice none 0 0) 0 (.slice none 0 0) (.slice none 0 0)) 71∧IsLease w' le m 0 0 0∧TkAt w' b l 0 0 [] (fun _=>none)∧Keep [] w w'∧(∀q∈[p,le,b,l],w.heap.size≤q):=by
 have v:=h_ (VC m w);go_enter Tryz.func114,Tryz.ntmps114;go_wp2_with fail;refine v.out.mono ?_;rintro e A ⟨rfl,h,i⟩;have t:=h_2 h i;clear h i;go_wp2_with fail;refine Tr.mono ?_;rintro e f ⟨b,l,rfl,j,a,n,o⟩;have u:=h_4 j a n o;clear j a n o;go_wp2;go_ret2;obtain⟨h,i⟩:=t.out;obtain⟨j,a,n,o⟩:=u.out;obtain⟨g,x⟩:∃g,g=ndC stb w.heap.size id none b (.slice none 0 0) (.slice none 0 0) 0 (.slice none 0 0) (.slice none 0 0):=⟨_,rfl⟩;have k:Keep [] f (f.alloc (.cells g.toArray 71)):=(By _ _).alloc _;have r:Blk (f.alloc (.cells g.toArray 71)) f.heap.size g 71:=BY f _ _;have y:=h.size;have z:=a.size;rw[x]at k r;refine⟨f.heap.size,w.heap.size,b,l,rfl,r,(i.keep a (by simp)).keep k (by simp),(j.keep k (by simp)),(h.trans a).trans k,fun q s=> ?_⟩;simp only[Ac,Am,AG]at s;rcases s with rfl|rfl|rfl|rfl<;>omega
theorem Ry (id v:Nat)(N:1≤id∧id≤5)(y:IsDev w d sb L c)(A:c+L.length+200≤1099511627776)(C:20≤segs∧segs≤199)(z:162+segs*8≤L.length∧L.length<162+segs*8+8):
  Calls Tryz.prog 86 #[.int .i64 (id:Int),pr d 0,pr v 0] w fun e w'=>∃f le g h stb x a n,e=.returned (.tuple #[pr f 0,.int .i64 0])∧
   Blk w' f (ndC stb le id none g (.slice none 0 0) (.slice none 0 0) 0 (.slice none 0 0) (.slice none 0 0)) 71∧StAt w' stb d sb n 101 segs a 1 1 0 0 false [] [] x∧n≤c+L.length+10∧a.length=L.length∧
   IsLease w' le v 0 0 0∧TkAt w' g h 0 0 [] (fun _=>none)∧Keep [d,sb] w w'∧(∀q∈[f,le,g,h]++x.F stb,w.heap.size≤q)∧(∀q∈[f,le,g,h],q∉x.F stb)∧
   (∀s∈a,flushSec s=s)∧Pair a 0 x.slot x.turn (meText ((1:Nat):Int) 0 0 false)∧(∀i,162≤i→i<162+segs*8→nowF a i=List.replicate 64 0)∧x.T=EP∧x.used=0∧x.cnt=0:=by
 have I:=h_ (QM y A C z);have H:=h_ y;have P:¬(id:Int)<1:=by omega
 have Q:¬(5:Int)<(id:Int):=by omega
 clear y A C z;go_enter Tryz.func86,Tryz.ntmps86;go_wp2_with fail;refine I.out.mono ?_;rintro e R ⟨stb,x,a,n,rfl,k,p,r,l,hF,B⟩;have G:=h_ B;clear B;have D:=h_5 k p r l hF;clear k p r l hF;go_wp2_with fail;refine(Kf id stb v).mono ?_;rintro e S ⟨f,le,g,h,rfl,o,t,u,m,j⟩;have E:=h_5 o t u m j;clear o t u m j;go_wp2;go_ret2;obtain⟨k,p,r,l,hF⟩:=D.out;obtain⟨o,t,u,m,j⟩:=E.out;have O:=l.size;refine⟨f,le,g,h,stb,x,a,n,rfl,o,k.keep m (by simp) (by simp) (by simp),p,r,t,u,l.trans (m.mono (by simp)),fun q b=> ?_,fun q b J=> ?_,G.out⟩
 ·rcases Ag.1 (show q∈[f,le,g,h]++x.F stb from b)with b|b
  ·have:=j q b;omega
  ·exact hF q b
 ·have K:=j q b
  have M:=k.lt q J;omega
end
theorem Tryz.sizeOut:(Tryz.prog.info? 69).map (·.size)=some 2:=by kernel_rfl
def Ys:=@Tryz.sizeOut
section
variable {w w':World} {nb stb le id tk asked:Nat} {rg:Option Nat} {wv rv ms rp:Value}
theorem Ua (h:Blk w nb (ndC stb le id rg tk wv rv asked ms rp) 71)(E:∃a l c,ms=.slice a l c)(F:∃a l c,rp=.slice a l c):Calls Tryz.prog 125 #[pr nb 0] w fun e w'=>e=.returned (.agg #[ms,rp])∧Blk w' nb (ndC stb le id rg tk wv rv asked (.slice none 0 0) (.slice none 0 0)) 71∧Keep [nb] w w':=by
 obtain⟨b,f,d,rfl⟩:∃a l c,ms=.slice a l c:=E;obtain⟨g,j,i,rfl⟩:∃a l c,rp=.slice a l c:=F;have x:Keep [] w (w.alloc (.cells #[.slice none 0 0,.slice none 0 0] 69)):=(By _ _).alloc _;have p:=h.keep x (by simp);have c12:(w.alloc (.cells #[.slice none 0 0,.slice none 0 0] 69)).cell? ⟨nb,12,none⟩=some (.slice b f d):=p.cell 12;have c13:(w.alloc (.cells #[.slice none 0 0,.slice none 0 0] 69)).cell? ⟨nb,13,none⟩=some (.slice g j i):=p.cell 13;have A:Blk (w.alloc (.cells #[.slice none 0 0,.slice none 0 0] 69)) w.heap.size [.slice none 0 0,.slice none 0 0] 69:=BY w _ _;have k:Keep [] (w.alloc (.cells #[.slice none 0 0,.slice none 0 0] 69)) ((w.alloc (.cells #[.slice none 0 0,.slice none 0 0] 69)).alloc (.cells #[.slice b f d,.slice g j i] 69)):=(By _ _).alloc _
 have B:Blk ((w.alloc (.cells #[.slice none 0 0,.slice none 0 0] 69)).alloc (.cells #[.slice b f d,.slice g j i] 69)) (w.heap.size+1) [.slice b f d,.slice g j i] 69:=by
  have:=BY (w.alloc (.cells #[.slice none 0 0,.slice none 0 0] 69)) [.slice b f d,.slice g j i] 69;have e:(w.alloc (.cells #[.slice none 0 0,.slice none 0 0] 69)).heap.size =w.heap.size+1:=by simp
  rw[e]at this;exact this
 have u:=h.lt;have H:=h_5 (p.keep k (by simp)) (A.keep k (by simp)) B (x.trans k) u;clear h p x A k B u;go_enter Tryz.func125,Tryz.ntmps125
 go_wp2_with (first|((refine DM (T:=71) rfl 69 _ _ rfl nb 12 _ [.slice none 0 0,.slice none 0 0] rfl rfl H.out.1 (show 12+2≤14 by omega) Ys (by intro v m;simp at m;rw[m];rfl) ?_);intro D o n;have t:=H.out.2.2.1.keep n (by have:=H.out.2.2.2.2;simp;omega);have r:D.cell? ⟨w.heap.size+1,0,none⟩=some (.slice b f d):=t.cell 0;have s:D.cell? ⟨w.heap.size+1,1,none⟩=some (.slice g j i):=t.cell 1;have y:=h_2 o n;clear t o n c12 c13)|(refine AS rfl _ _ _ rfl w.heap.size [.slice none 0 0,.slice none 0 0] [.slice b f d,.slice g j i] 69 rfl rfl (H.out.2.1.keep y.out.2 (by have:=H.out.2.2.2.2;simp;omega)) rfl Ys (by intro v m;simp at m;rcases m with rfl|rfl<;>rfl) ?_;intro J z C))
 obtain⟨K,_,_,k,u⟩:=H.out;obtain⟨o,n⟩:=y.out;have I:Keep [nb] w J:=((k.mono (S':=[nb]) (by simp)).trans n).then C (fun q G L=>by simp only[Ah]at G;omega);refine Be (v:= .agg #[.slice b f d,.slice g j i]) ?_ rfl ⟨rfl,o.keep C (by simp;omega),I⟩;have r:=z.cell 0;have s:=z.cell 1;simp only[List.getElem?_cons_zero,List.getElem?_cons_succ]at r s;simp[results,Tryz.results125,go_sem,r,s]
end
def CP (id:Nat)(y:Tm):Tm:=⟨{y.m with src:=(id:Int)},y.vm,y.vo⟩
theorem MY (id:Nat)(y:Tm):(Cm y).set 1 (.int .i64 (id:Int))=Cm (CP id y):=rfl
def sayS (c:World)(nb t:Nat)(d:Value→List Value)(a:Value)(K:List Tm)(y:Tm)(U:Nat→Bool)(X:Nat→Value)(W:World):Prop:=
 ∃b:Nat,Keep (nb::a.ownBlock.toList) c W∧Blk W nb (d (if U 12=true then X 8 else a)) 71∧Blk W t (Cm y) 175∧
 (U 7=true→X 7=.slice (some ⟨b,0,none⟩) 1 1∧(U 8=false→Blk W b (Cm y) 175)∧c.heap.size≤b)∧
 (U 8=false→W.ownsRow 0 175 21 a K.length (tc K))∧
 (U 8=true→W.ownsRow 0 175 21 (X 8) (K.length+1) (tc K++Cm y)∧∀q,(X 8).ownBlock =some q→a.ownBlock=some q∨c.heap.size≤q)∧(U 8=true→U 7=true)∧(U 12=true→U 8=true)
section
variable {w w':World} {nb stb le id tk asked:Nat} {rg:Option Nat} {qv rv ms rp mv:Value} {L M:List Tm}
theorem MP (h:Blk w nb (ndC stb le id rg tk qv rv asked ms rp) 71)(ho:w.ownsRow 0 175 21 ms L.length (tc L))(hm:w.ownsRow 0 175 21 mv M.length (tc M))(a6:∀y∈M,∀u∈Cm y,u.oneCell'=true)(a3:L.length+M.length≤300)(a1:∀b,mv.ownBlock=some b→ms.ownBlock≠some b):
  Calls Tryz.prog 121 #[pr nb 0,mv] w fun e w'=>∃ap,e=.returned (.tuple #[])∧Blk w' nb (ndC stb le id rg tk qv rv asked ap rp) 71∧w'.ownsRow 0 175 21 ap (L.length+M.length) (tc (L++M.map (CP id)))∧
   Keep (nb::ms.ownBlock.toList) w w'∧(∀q,ap.ownBlock=some q→ms.ownBlock=some q∨w.heap.size≤q):=by
 obtain⟨im,bs,b0,b1,ac⟩:=AU Y2;obtain⟨a,cap,rfl⟩:=A4 ho;obtain⟨ma,b2,rfl⟩:=A4 hm;have bv:=C5 ho;have a5:=C5 hm
 have bd:Hid (∀b,(Value.slice ma M.length b2).ownBlock =some b→b∉nb::(Value.slice a L.length cap).ownBlock.toList):=h_ (fun b hb d=>by
  rcases Ac.1 d with rfl|d
  ·exact(a5 _ hb).ne h.ty (by decide) rfl
  ·exact a1 b hb (Ae.1 d))
 have H:=h_2 h ho;obtain⟨HM,bi,au⟩:=i_3 hm a6 a3;have b4:M.length≤300:=by omega
 obtain⟨zs,bc⟩:∃zs:List Value,zs=[.int .i64 0,.int .i64 0,.int .i64 0,.int .i64 0,.int .i64 0,.int .i64 0,.int .i64 0,.int .i64 0,.int .i64 0,.string ByteArray.empty,.int .i64 0,.bool false,.string ByteArray.empty,.string ByteArray.empty,.int .i64 0,.bool false,.slice none 0 0,.slice none 0 0,.slice none 0 0,.int .i64 0,.slice none 0 0]:=⟨_,rfl⟩;have HZ:=h_ bc;clear h ho hm a6 a3 a1 bv a5 bc;go_enter Tryz.func121,Tryz.ntmps121;go_wp2
 go_loopw [8] (fun s8 wr=>∃(j:Nat) (v1:Value),s8=.int .i64 (j:Int)∧j≤M.length∧Blk wr nb (ndC stb le id rg tk qv rv asked v1 rp) 71∧wr.ownsRow 0 175 21 v1 (L.length+j) (tc (L++(M.take j).map (CP id)))∧Keep (nb::(Value.slice a L.length cap).ownBlock.toList) w wr∧
   (∀q,v1.ownBlock=some q→(Value.slice a L.length cap).ownBlock =some q∨w.heap.size≤q)) (fun x _=>M.length+1-(intOf x).toNat)
 case atStart=>exact⟨0,_,rfl,AA _,H.out.1,by simpa using H.out.2,By _ _,fun q d=> .inl d⟩
 case round=>
 obtain⟨j,v1,rfl,hj,J,C,f,E⟩:=hrel;by_cases ab:j<M.length
 ·have q0:decide ((j:Int)<(M.length:Int))=true:=An (by omega)
  obtain⟨V,Y,rfl⟩:=A4 C;obtain⟨y0,hy⟩:∃y,M[j]?=some y:=⟨_,Ad ab⟩;have bb:=Aq hy;have a4:=Do HM.out f bd.out;obtain⟨g,b5,ao,_,_,a2,_⟩:=Cq (enc:=Cm) (L:=M) (fun _=>rfl) a4 hy;injection ao with ao _ _;subst ao;have bg:=h_ a2;have av:=h_ (bi.out y0 bb);have a8:(M.take (j+1)).map (CP id)=(M.take j).map (CP id)++[CP id y0]:=by rw[BH,hy];simp
  have bj:=h_ a8;have T:=h_4 J C f E;have ac:=Yt wr zs 175 wr.heap.size rfl;obtain⟨W2,ak⟩:∃W2,W2=wr.alloc (.cells zs.toArray 175):=⟨_,rfl⟩;have ad:=ak;rw[HZ.out]at ad;change _=wr.alloc (.cells #[.int .i64 0,.int .i64 0,.int .i64 0,.int .i64 0,.int .i64 0,.int .i64 0,.int .i64 0,.int .i64 0,.int .i64 0,.string {data:=#[]},.int .i64 0,.bool false,.string {data:=#[]},.string {data:=#[]},.int .i64 0,.bool false,.slice none 0 0,.slice none 0 0,.slice none 0 0,.int .i64 0,.slice none 0 0] 175)at ad;rw[←ak]at ac;have k2:Keep [] wr W2:=by rw[ak];exact(By _ _).alloc _
  have aq:=h_ k2;obtain⟨t,ht⟩:∃t,t=wr.heap.size:=⟨_,rfl⟩;rw[←ht]at ac;have HT:=h_ ht;have bn:Hid (zs.length=(Cm y0).length):=h_ (by rw[HZ.out];rfl);have a9:t≠nb:=by rw[ht];exact fun e=>by have:=J.lt;omega
  have aw:=h_ a9;clear hy bb a4 a2 J C f E a8 ak k2 a9
  go_wp2_with (first|(refine Bc rfl 175 _ rfl g (j*21) rfl (Cm y0) _ bg.out AV rfl (by rfl) ?_)|(refine AS rfl _ _ _ rfl t zs (Cm y0) 175 (by simp[Act.eval,Act.put,ht]) rfl (by rw[←ad];exact ac) bn.out C4 av.out ?_;intro w5 h5 k5;rw[←ad]at k5;have ag:=(T.out.1.keep aq.out (by simp)).keep k5 (by simpa using fun e=>aw.out e.symm);have c2:w5.cell? ⟨nb,2,none⟩=some (.int .i64 (id:Int)):=ag.cell 2;have e1:=h5.cell 1;have f1:=h5.free 1;simp only[Cm,CZ,List.getElem?_cons_succ,List.getElem?_cons_zero]at e1;have an:=h_3 ag h5 k5;rw[ht]at e1 f1;clear ag h5 k5))
  have al:Blk (w5.setCell ⟨t,1,none⟩ (.int .i64 (id:Int))) t (Cm (CP id y0)) 175:=by have:=an.out.2.1.set 1 (.int .i64 (id:Int));rw[MY]at this;exact this
  have k6:Keep [t] w5 (w5.setCell ⟨t,1,none⟩ (.int .i64 (id:Int))):=(By _ _).setCell (.inl (by simp)) _;rw[←ht];obtain⟨w6,ba⟩:∃w6,w6=w5.setCell ⟨t,1,none⟩ (.int .i64 (id:Int)):=⟨_,rfl⟩;rw[←ba]at al k6⊢;obtain⟨y,am⟩:∃y,y=CP id y0:=⟨_,rfl⟩;rw[←am]at al;have HY:=h_ am;have ai:Keep [] wr w6:=(aq.out.then an.out.2.2 (fun q d ab=>by simp only[Ah]at d;rw[d,HT.out]at ab;omega)).then k6 (fun q d ab=>by simp only[Ah]at d;rw[d,HT.out]at ab;omega);obtain⟨ar,bl⟩:=i_2 ai al;have be:=h_ (T.out.1.keep ai (by simp));have bh:=h_ (Do T.out.2.1 ai (by simp));have bk:Hid (∀b,(Value.slice V (L.length+j) Y).ownBlock =some b→b<wr.heap.size):=h_ (fun b hb=>((B3 T.out.2.1) b hb).2)
  have bm:Hid (∀u∈Cm y,u.oneCell'=true):=h_ (by
   rw[am];intro u hu;rw[←MY]at hu;rcases DC hu with h|h
   ·exact av.out u h
   ·rw[h];rfl)
  have ah:Hid ((L++(M.take j).map (CP id)).length =L.length+j):=h_ (by rw[Aj,AD,Az,BZ (by omega)]);clear am ba al k6 ai ad ac ht;refine wM (A:=[0,0,2,6,14,30,0,64,254,511,1023,2047,4095]) 4480 [fun _=>pr nb 0,fun _=>pr nb 0,fun _=>pr nb 0,fun _=>pr nb 12,fun _=>pr nb 12,fun _=> .slice V (L.length+j) Y,fun _=> .agg (Cm y).toArray,fun _=>undef,fun _=>undef,fun _=>pr nb 0,fun _=>pr nb 12,fun _=>pr nb 12,fun _=>undef] (sayS w6 nb t (fun v=>ndC stb le id rg tk qv rv asked v rp) (.slice V (L.length+j) Y) (L++(M.take j).map (CP id)) y) ?start (.s ?m0<|.s ?m1<|.s ?m2<|.s ?m3<|.s ?m4<|.s ?m5<|.s ?m6<|.t ?m7<|.t ?m8<|.s ?m9<|.s ?m10<|.s ?m11<|.t ?m12<|.nil) ?fin
  case start=>intro X;exact⟨0,(By _ _).drew,be.out.drew,bl.out.drew,fun h=>absurd h (by decide),fun _=>by rw[ah.out];exact Do bh.out (By [] _).drew (fun _ _ h=>by cases h),fun h=>absurd h (by decide),fun h=>absurd h (by decide),fun h=>absurd h (by decide)⟩
  case fin=>
   intro U X w7 hS hd;have d8:=hd 8 (by decide) (by decide);have ax:=hd 12 (by decide) (by decide);obtain⟨b,az,c,i,k,p,z,r,o⟩:=hS;obtain⟨D,Z⟩:=z d8;rw[Ay ax]at c;have aa:(L++(M.take j).map (CP id)).length =L.length+j:=ah.out;rw[aa]at D;obtain⟨ag,bo,k5⟩:=an.out;obtain⟨J,C,f,E⟩:=T.out;have bx:wr.heap.size≤w6.heap.size:=ar.out.size
   have a0:Keep (nb::(Value.slice a L.length cap).ownBlock.toList) w w7:=(f.trans (ar.out.mono (by simp))).then az (fun x n ab=>by
    rcases Ac.1 n with rfl|n
    ·exact Bx ..
    ·rcases E x (Ae.1 n)with h|h
     ·exact Ap _ (Ae.2 h)
     ·omega)
   have bw:=f.size
   have a7:w7.ownsRow 0 175 21 (X 8) (L.length+(j+1)) (tc (L++(M.take (j+1)).map (CP id))):=by rw[bj.out,←Ax,Nv,←HY.out,←Cv];exact D
   have bf:=h_ (Aa c (Aa a7 (Aa a0 (show∀q,(X 8).ownBlock =some q→(Value.slice a L.length cap).ownBlock =some q∨w.heap.size≤q from fun q d=>by
    rcases Z q d with h|h
    ·exact E q h
    ·exact .inr (by omega)))))
   clear az c i k p z r o D Z ag bo k5 J C f E a0 bw bx a7 hd d8 ax;simp[Al,Act.put,FK,Ab];go_wp2
   go_roundw
   case rel=>obtain⟨h1,h2,h3,h4⟩:=bf.out;exact⟨j+1,by push_cast;rfl,by omega,X 8,h1,by rw[←List.map_take];exact h2,h3,h4⟩
   case measure=>simp only[intOf];omega
  case' m7|m8|m12=>intro U X x W hS S I G af m R B c K' Q;have F:=h_ hS;simp[mV,mY,Ab]at af;simp only[Al,Act.put,A8,A7,A6,af]at c;subst c
  case m7=>
   clear I G m R;obtain⟨b,f,c,i,k,p,z,r,o⟩:=F.out;have n8:U 8=false:=by cases h:U 8 with|false=>rfl|true=>rw[r h]at S;cases S
   have K:U 12=false:=by cases h:U 12 with|false=>rfl|true=>rw[o h]at n8;cases n8
   refine GX rfl (.tmp 23) rfl y rfl ?_;have l:Keep [] W (W.alloc (.cells (Cm y).toArray 175)):=(By _ _).alloc _;refine Q _ _ _ rfl ⟨W.heap.size,f.trans (l.mono (by simp)), ?_,i.keep l (by simp),fun _=>⟨Bh _ _ _,fun _=>BY W _ _,f.size⟩,fun _=>Do (p n8) l (by simp),fun h=>by simp[upd,n8]at h,fun h=>by simp[upd,n8]at h,fun h=>by simp[upd,K]at h⟩;simp only[K]at c;simp only[upd,K];exact c.keep l (by simp)
  case m8=>
   have N:U 7=true:=G 7 (by decide);have e7:=I 7 N;clear I G m R;obtain⟨b,f,c,i,k,p,z,r,o⟩:=F.out;have K:U 12=false:=by cases h:U 12 with|false=>rfl|true=>rw[o h]at S;cases S
   obtain⟨ay,bq,br⟩:=k N;have bz:=QN (P:=Tryz.prog) BT W b y (bq S) bm.out;have m:=p S;have aa:(L++(M.take j).map (CP id)).length =L.length+j:=ah.out;rw[aa]at m;refine BO _ rfl (.tmp 22) (.tmp 24) 66 66 rfl 0 175 im _ 21 256 BT bs b0 b1 ac rfl (by decide) _ (L.length+j) _ (by rfl) m _ 1 _ (by rw[←ay,e7];rfl) bz (by have:=au.out;unfold maxLen;omega) (by have:=au.out;omega) (AA _) ?_;intro v2 w2 h2 h3 _ h4;have kg:=DJ h3;have bt:nb∉(Value.slice V (L.length+j) Y).ownBlock.toList :=fun d=>(C5 m _ (Ae.1 d)).ne c.ty (by decide) rfl
   have bu:t∉(Value.slice V (L.length+j) Y).ownBlock.toList :=fun d=>by have:=bk.out _ (Ae.1 d);rw[HT.out]at this;omega
   refine Q _ _ _ rfl ⟨b,f.trans (kg.mono (fun q d _=>Ap _ d)), ?_,i.keep kg bu,fun _=>⟨by rw[Bs _ _ _ _ (by decide)];exact ay,fun h=>by simp[upd]at h,br⟩,fun h=>by simp[upd]at h,fun _=>⟨by rw[Bh,aa];exact h2,fun q d=> ?_⟩,fun _=>by simp[upd,N],fun h=>by simp[upd,K]at h⟩
   ·simp only[K]at c
    simp only[upd,K];exact c.keep kg bt
   ·rw[Bh]at d
    rcases h4 q d with h|h
    ·exact .inl h
    ·exact .inr (AJ f.size h)
  case m12=>
   have O:U 8=true:=G 8 (by decide);have e8:=I 8 O;clear I G m R;obtain⟨b,f,c,i,k,p,z,r,o⟩:=F.out;obtain⟨D,Z⟩:=z O;obtain⟨xa,xc,n⟩:=A4 D;have N:=r O
   have c12:W.cell? ⟨nb,12,none⟩=some (.slice V (L.length+j) Y):=by have:=c.cell 12;simp only[S]at this;exact this
   have b3:=c.free 12;have aa:(L++(M.take j).map (CP id)).length =L.length+j:=ah.out;rw[aa]at n;rw[n]at e8;have HE:=h_3 n O N;simp only[S]at c;have ae:=c.set 12 (X 8);have l:Keep [nb] W (W.setCell ⟨nb,12,none⟩ (X 8)):=(By _ _).setCell (.inl (by simp)) _;rw[n]at ae l;have aj:=(C5 D);have HF:=h_9 ae l f i (k N) D Z aj c.ty;simp only[←e8]at Q⊢;clear ae l f c i k p z r o D Z aj n e8 O N;go_simp;obtain⟨n,O,N⟩:=HE.out;obtain⟨ae,l,f,i,k,D,Z,aj,bp⟩:=HF.out
   refine Q undef _ _ rfl ⟨b,f.trans (l.mono (fun q d _=>by simp at d;rw[d];exact Bx ..)), ?_,i.keep l (by simp;exact aw.out),fun _=>⟨by rw[Bs _ _ _ _ (by decide)];exact k.1,fun h=>by simp[upd,O]at h,k.2.2⟩,fun h=>by simp[upd,O]at h,fun _=>by
    rw[Bs _ _ _ _ (by decide)]
    exact⟨Do D l (fun q d hm=>by simp only[Ah]at hm;subst hm;exact(aj _ d).ne bp (by decide) rfl),Z⟩,fun _=>by simp[upd,N],fun _=>by simp[upd,O]⟩
   rw[Ay (by simp[upd])];rw[Bs _ _ _ _ (by decide),n];exact ae
  all_goals intro U X x W hS I G af m R B c K' Q;have F:=h_ hS;simp[mV,mY,Ab]at af;simp only[Al,Act.put,A8,A7,A6,af]at c;subst c
  case m5=>
   have K:U 12=false:=R 12 (by decide);clear I G m R;obtain⟨b,f,c,i,k,p,z,r,o⟩:=F.out
   have c12:W.cell? ⟨nb,12,none⟩=some (.slice V (L.length+j) Y):=by have:=c.cell 12;simp only[K]at this;exact this
   clear f c i k p z r o;go_simp;exact Q _ _ _ rfl rfl F.out
  case m6=>clear I G m R;obtain⟨b,f,c,i,k,p,z,r,o⟩:=F.out;rw[Ay (by rfl)];refine wp_load_row 175 _ rfl t rfl 175 (Cm y).toArray (0,0) _ i AV rfl C4 ?_;exact Q _ _ _ rfl rfl F.out
  all_goals clear I G m R;go_simp;exact Q _ _ _ rfl rfl F.out
 ·obtain rfl:j=M.length:=by omega
  have q0:decide ((M.length:Int)<(M.length:Int))=false:=Ak (by omega);have T:=h_4 J C f E;clear J C f E;go_wp2
  go_end0
  obtain⟨J,C,f,E⟩:=T.out;rw[Bt]at C;exact⟨_,rfl,J,C,f,E⟩
end
theorem Tryz.infoRp:(Tryz.prog.info? 43).map (fun i=>(i.zero,i.size,i.bytes))=some (some (.agg #[.int .i64 0,.int .i64 0,.string ByteArray.empty,.int .i64 0,.string ByteArray.empty,.bool false]),6,64):=by kernel_rfl
theorem S7 (r:Rp):(rpC r).length =6:=rfl
theorem N8 (r:Rp):∀v∈rpC r,v.oneCell'=true:=by intro v a;simp only[rpC,Ac,Am,AG]at a;rcases a with rfl|rfl|rfl|rfl|rfl|rfl<;>rfl
theorem Vm (c:Rp):Instr.fill (fun i=>some (i*6,6)) ((Array.range (1*6)).map ((Value.agg #[.int .i64 0,.int .i64 0,.string ByteArray.empty,.int .i64 0,.string ByteArray.empty,.bool false]).cells[· % 6]!)) [(0,.agg (rpC c).toArray)]=some (rpC c).toArray :=by kernel_rfl
theorem Vk (c:Rp)(W:World):(Instr.buildSlice 67 1 #[(0,.agg (rpC c).toArray)]).run Tryz.prog W=.ok (.slice (some ⟨W.heap.size,0,none⟩) 1 1) (W.alloc (.cells (rpC c).toArray 43)):=by obtain⟨e,b,d,a,f⟩:=AU Tryz.infoRp;exact run_buildSlice W _ _ 1 _ _ e _ Tryz.underlying67 b d (by rw[a];decide) (by rw[a];decide) (by rw[a];exact Vm c)
def O1 (a id op:Nat)(key:Str):List Value:=[.int .i64 (a:Int),.int .i64 (id:Int),.int .i64 (op:Int),.string key]
def tellS (c:World)(nb t:Nat)(wc:List Value)(d:Value→List Value)(a:Value)(K:List Rp)(y:Rp)(U:Nat→Bool)(X:Nat→Value)(W:World):Prop:=
 ∃b:Nat,Keep (nb::a.ownBlock.toList) c W∧Blk W nb (d (if U 21=true then X 17 else a)) 71∧Blk W t wc 136∧
 (U 16=true→X 16=.slice (some ⟨b,0,none⟩) 1 1∧(U 17=false→Blk W b (rpC y) 43)∧c.heap.size≤b)∧
 (U 17=false→W.ownsRow 0 43 6 a K.length (rows rpC K))∧
 (U 17=true→W.ownsRow 0 43 6 (X 17) (K.length+1) (rows rpC (K++[y]))∧∀q,(X 17).ownBlock =some q→a.ownBlock=some q∨c.heap.size≤q)∧(U 17=true→U 16=true)∧(U 21=true→U 17=true)
section
variable {w w':World} {nb stb le id tk asked:Nat} {rg:Option Nat} {qv rv ms rp:Value} {K:List Rp}
theorem Pw (h:Blk w nb (ndC stb le id rg tk qv rv asked ms rp) 71)(ho:w.ownsRow 0 43 6 rp K.length (rows rpC K))(ay:K.length<300)(g op O:Nat)(key val:Str)(Q:Bool):
  Calls Tryz.prog 124 #[pr nb 0,.agg (O1 0 g op key).toArray,.int .i64 (O:Int),.string val,.bool Q] w fun e w'=>∃ab,e=.returned (.tuple #[])∧Blk w' nb (ndC stb le id rg tk qv rv asked ms ab) 71∧
   w'.ownsRow 0 43 6 ab (K.length+1) (rows rpC (K++[⟨g,op,key,O,val,Q⟩]))∧Keep (nb::rp.ownBlock.toList) w w'∧(∀q,ab.ownBlock=some q→rp.ownBlock=some q∨w.heap.size≤q):=by
 obtain⟨im,ao,au,av,aw⟩:=AU Tryz.infoRp;obtain⟨a,cap,rfl⟩:=A4 ho;obtain⟨y,hy⟩:∃y,y=(⟨g,op,key,O,val,Q⟩:Rp):=⟨_,rfl⟩;rw[←hy];have G:Keep [] w (w.alloc (.cells (O1 0 g op key).toArray 136)):=(By _ _).alloc _;have R:Blk (w.alloc (.cells (O1 0 g op key).toArray 136)) w.heap.size (O1 0 g op key) 136:=BY w _ _;have e0:(w.alloc (.cells (O1 0 g op key).toArray 136)).cell? ⟨w.heap.size,0,none⟩=some (.int .i64 0):=R.cell 0;obtain⟨t,ht⟩:∃t,t=w.heap.size:=⟨_,rfl⟩;have ag:t≠nb:=by rw[ht];exact fun e=>by have:=h.lt;omega
 have ah:∀b,(Value.slice a K.length cap).ownBlock =some b→b<w.heap.size:=fun b hb=>((B3 ho) b hb).2
 have N:=h_4 (h.keep G (by simp)) (Do ho G (by simp)) R G;obtain⟨HT,aj,ak,HY⟩:=i_4 ht ag ah hy;clear h ho G R ht ag ah;go_enter Tryz.func124,Tryz.ntmps124;go_wp2_with fail;rw[←HT.out]at N⊢;obtain⟨w1,R⟩:∃w1,w1=w.alloc (.cells (O1 0 g op key).toArray 136):=⟨_,rfl⟩;rw[←R]at N⊢;clear e0 R;refine wM (A:=[0,0,2,6,14,30,0,64,0,256,0,1024,0,0,0,32704,65472,131070,262143,524287,1048575,2097151]) 2293760 [fun _=>pr nb 0,fun _=>pr nb 0,fun _=>pr nb 0,fun _=>pr nb 12,fun _=>pr nb 13,fun _=> .slice a K.length cap,fun _=>pr t 1,fun _=> .int .i64 (g:Int),fun _=>pr t 2,fun _=> .int .i64 (op:Int),fun _=>pr t 3,fun _=> .string key,fun _=> .int .i64 (O:Int),fun _=> .string val,fun _=> .bool Q,fun _=> .agg #[.int .i64 (g:Int),.int .i64 (op:Int),.string key,.int .i64 (O:Int),.string val,.bool Q],fun _=>undef,fun _=>undef,fun _=>pr nb 0,fun _=>pr nb 12,fun _=>pr nb 13,fun _=>undef] (tellS w1 nb t (O1 0 g op key) (fun v=>ndC stb le id rg tk qv rv asked ms v) (.slice a K.length cap) K y) ?start (.s ?m0<|.s ?m1<|.s ?m2<|.s ?m3<|.s ?m4<|.s ?m5<|.s ?m6<|.s ?m7<|.s ?m8<|.s ?m9<|.s ?m10<|.s ?m11<|.s ?m12<|.s ?m13<|.s ?m14<|.s ?m15<|.t ?m16<|.t ?m17<|.s ?m18<|.s ?m19<|.s ?m20<|.t ?m21<|.nil) ?fin
 case start=>intro X;exact⟨0,(By _ _).drew,N.out.1.drew,N.out.2.2.1.drew,fun h=>absurd h (by decide),fun _=>Do N.out.2.1 (By [] _).drew (fun _ _ h=>by cases h),fun h=>absurd h (by decide),fun h=>absurd h (by decide),fun h=>absurd h (by decide)⟩
 case fin=>
  intro U X w7 L hd;have d8:=hd 17 (by decide) (by decide);have ac:=hd 21 (by decide) (by decide);obtain⟨b,ae,c,d,i,m,o,n,l⟩:=L;obtain⟨p,M⟩:=o d8;rw[Ay ac]at c;have G:=N.out.2.2.2;have af:=G.size
  have ai:=h_ (Aa c (Aa p (Aa ((G.mono (S':=nb::(Value.slice a K.length cap).ownBlock.toList) (by simp)).trans ae) (show∀q,(X 17).ownBlock =some q→(Value.slice a K.length cap).ownBlock =some q∨w.heap.size≤q from fun q f=>by
   rcases M q f with h|h
   ·exact .inl h
   ·exact .inr (AJ af h)))))
  clear ae c d i m o n l p M G af hd d8 ac;simp[Al,Act.put,FK,Ab];go_wp2_with fail;refine Be (Cx rfl _ _ _) rfl ?_;obtain⟨h1,h2,h3,h4⟩:=ai.out;rw[HY.out]at h2;exact⟨rfl,X 17,h1,h2,h3,h4⟩
 case' m16|m17|m21=>intro U X x W L F E D Y r J B c K' I;have H:=h_ L;obtain⟨_,_,_,d,_⟩:=L;have d1:W.cell? ⟨t,1,none⟩=some (.int .i64 (g:Int)):=d.cell 1;have d2:W.cell? ⟨t,2,none⟩=some (.int .i64 (op:Int)):=d.cell 2;have d3:W.cell? ⟨t,3,none⟩=some (.string key):=d.cell 3;clear d;simp[mV,mY,Ab]at Y;simp only[Al,Act.put,A8,A7,A6,Y]at c;subst c
 case m16=>
  clear E D r J d1 d2 d3;obtain⟨b,j,c,d,i,m,o,n,l⟩:=H.out;have Z:U 17=false:=by cases h:U 17 with|false=>rfl|true=>rw[n h]at F;cases F
  have u:U 21=false:=by cases h:U 21 with|false=>rfl|true=>rw[l h]at Z;cases Z
  have ey:Value.agg #[.int .i64 (g:Int),.int .i64 (op:Int),.string key,.int .i64 (O:Int),.string val,.bool Q]=.agg (rpC y).toArray :=by rw[HY.out];rfl
  refine Ny (T:=43) rfl (.tmp 29) rfl (rpC y) (by rw[←ey];rfl) (Vk y) ?_;have k:Keep [] W (W.alloc (.cells (rpC y).toArray 43)):=(By _ _).alloc _;refine I _ _ _ rfl ⟨W.heap.size,j.trans (k.mono (by simp)), ?_,d.keep k (by simp),fun _=>⟨Bh _ _ _,fun _=>BY W _ _,j.size⟩,fun _=>Do (m Z) k (by simp),fun h=>by simp[upd,Z]at h,fun h=>by simp[upd,Z]at h,fun h=>by simp[upd,u]at h⟩;simp only[u]at c;simp only[upd,u];exact c.keep k (by simp)
 case m17=>
  have z:U 16=true:=D 16 (by decide);have e7:=E 16 z;clear E D r J d1 d2 d3;obtain⟨b,j,c,d,i,m,o,n,l⟩:=H.out;have u:U 21=false:=by cases h:U 21 with|false=>rfl|true=>rw[l h]at F;cases F
  obtain⟨ad,am,an⟩:=i z;have ar:=KI (P:=Tryz.prog) Tryz.underlying67 W b (rpC y) (S7 _) (am F) (N8 _);have r:=m F;refine BO _ rfl (.tmp 19) (.tmp 30) 67 67 rfl 0 43 im _ 6 64 Tryz.underlying67 ao au av aw rfl (by decide) _ K.length _ (by rfl) r _ 1 _ (by rw[←ad,e7];rfl) ar (by unfold maxLen;omega) (by omega) (AA _) ?_;intro v2 w2 h2 h3 _ h4;have kg:=DJ h3;have ap:nb∉(Value.slice a K.length cap).ownBlock.toList :=fun f=>(C5 r _ (Ae.1 f)).ne c.ty (by decide) rfl
  have aq:t∉(Value.slice a K.length cap).ownBlock.toList :=fun f=>by have:=ak.out _ (Ae.1 f);rw[HT.out]at this;omega
  refine I _ _ _ rfl ⟨b,j.trans (kg.mono (fun q f _=>Ap _ f)), ?_,d.keep kg aq,fun _=>⟨by rw[Bs _ _ _ _ (by decide)];exact ad,fun h=>by simp[upd]at h,an⟩,fun h=>by simp[upd]at h,fun _=>⟨by rw[Bh,I8];exact h2,fun q f=> ?_⟩,fun _=>by simp[upd,z],fun h=>by simp[upd,u]at h⟩
  ·simp only[u]at c
   simp only[upd,u];exact c.keep kg ap
  ·rw[Bh]at f
   rcases h4 q f with h|h
   ·exact .inl h
   ·exact .inr (AJ j.size h)
 case m21=>
  have C:U 17=true:=D 17 (by decide);have e8:=E 17 C;clear E D r J d1 d2 d3;obtain⟨b,j,c,d,i,m,o,n,l⟩:=H.out;obtain⟨p,M⟩:=o C;obtain⟨xa,xc,S⟩:=A4 p;have z:=n C
  have c13:W.cell? ⟨nb,13,none⟩=some (.slice a K.length cap):=by have:=c.cell 13;simp only[F]at this;exact this
  have ax:=c.free 13;rw[S]at e8;have HE:=h_3 S C z;simp only[F]at c;have V:=c.set 13 (X 17);have k:Keep [nb] W (W.setCell ⟨nb,13,none⟩ (X 17)):=(By _ _).setCell (.inl (by simp)) _;rw[S]at V k;have aa:=(C5 p);have HF:=h_9 V k j d (i z) p M aa c.ty;simp only[←e8]at I⊢;clear V k j c d i m o n l p M aa S e8 C z;go_simp;obtain⟨S,C,z⟩:=HE.out;obtain⟨V,k,j,d,i,p,M,aa,al⟩:=HF.out
  refine I undef _ _ rfl ⟨b,j.trans (k.mono (fun q f _=>by simp at f;rw[f];exact Bx ..)), ?_,d.keep k (by simp;exact aj.out),fun _=>⟨by rw[Bs _ _ _ _ (by decide)];exact i.1,fun h=>by simp[upd,C]at h,i.2.2⟩,fun h=>by simp[upd,C]at h,fun _=>by
   rw[Bs _ _ _ _ (by decide)]
   exact⟨Do p k (fun q f hm=>by simp only[Ah]at hm;subst hm;exact(aa _ f).ne al (by decide) rfl),M⟩,fun _=>by simp[upd,z],fun _=>by simp[upd,C]⟩
  rw[Ay (by simp[upd])];rw[Bs _ _ _ _ (by decide),S];exact V
 all_goals intro U X x W L E D Y r J B c K' I;have H:=h_ L;obtain⟨_,_,_,d,_⟩:=L;have d1:W.cell? ⟨t,1,none⟩=some (.int .i64 (g:Int)):=d.cell 1;have d2:W.cell? ⟨t,2,none⟩=some (.int .i64 (op:Int)):=d.cell 2;have d3:W.cell? ⟨t,3,none⟩=some (.string key):=d.cell 3;clear d;simp[mV,mY,Ab]at Y;simp only[Al,Act.put,A8,A7,A6,Y]at c;subst c
 case m5=>
  have u:U 21=false:=J 21 (by decide);clear E D r J;obtain⟨b,j,c,d,i,m,o,n,l⟩:=H.out
  have c13:W.cell? ⟨nb,13,none⟩=some (.slice a K.length cap):=by have:=c.cell 13;simp only[u]at this;exact this
  clear j c d i m o n l;go_simp;exact I _ _ _ rfl rfl H.out
 all_goals clear E D r J;go_simp;exact I _ _ _ rfl rfl H.out
end
def rdC (q:Who×Nat):List Value:=[.int .i64 (q.1.node:Int),.int .i64 (q.1.id:Int),.int .i64 (q.1.op:Int),.string q.1.key,.int .i64 (q.2:Int)]
def Ow (Q:List (Who×Nat)):List Value:=Q.map (fun q=> .string q.1.key)
section
variable {w w':World} {nb stb le id tk asked:Nat} {rg:Option Nat} {qv rv ms rp:Value} {Q:List (Who×Nat)}
theorem Py (h:Blk w nb (ndC stb le id rg tk qv rv asked ms rp) 71)(x:w.ownsRow 0 138 5 rv Q.length (rows rdC Q))(ae:Q.length≤1000):
  Calls Tryz.prog 37 #[pr nb 0] w fun e w'=>∃v,e=.returned v∧Own w' w.heap.size 9 v (Ow Q)∧Keep [] w w':=by
 obtain⟨i0,hi,af,ag,ah⟩:=AU Tryz.infoS;obtain⟨a,cap,rfl⟩:=A4 x;have c10:w.cell? ⟨nb,10,none⟩=some (.slice a Q.length cap):=h.cell 10;have HO:=h_ x;obtain⟨n,u⟩:∃n,n=Q.length:=⟨_,rfl⟩;rw[←u]at c10 ae;have o:=h_ u;clear h x u;go_enter Tryz.func37,Tryz.ntmps37;go_wp2_with fail;clear c10
 go_loopw [3,13] (fun ai i wr=>∃(j:Nat),i=.int .i64 (j:Int)∧j≤n∧Own wr w.heap.size 9 ai (Ow (Q.take j))∧Keep [] w wr) (fun _ i _=>n+1-(intOf i).toNat)
 case atStart=>exact⟨0,rfl,AA _,YA w _ _,By _ _⟩
 case round=>
 obtain⟨j,rfl,hj,c,d⟩:=hrel;by_cases L:j<n
 ·have q0:(j:Int)<(n:Int):=by omega
  obtain⟨y,A⟩:∃y,Q[j]?=some y:=⟨_,Ad (by rw[←o.out];exact L)⟩;obtain⟨g,aj,s,_,_,J,_⟩:=Cq (enc:=rdC) (fun _=>rfl) (Do HO.out d (by simp)) A;injection s with s _ hce;subst s hce;have M:Ow (Q.take (j+1))=Ow (Q.take j)++[.string y.1.key]:=by unfold Ow;rw[BH,A];simp
  obtain⟨ad,W⟩:=i_2 M J;obtain⟨C,O,rfl⟩:=c.slice;have t:(Ow (Q.take j)).length =j:=by unfold Ow;rw[AD,Az,BZ (by have:=o.out;omega)]
  have D:=h_ t;rw[t];have ab:=h_ c;have K:∀q,(Value.slice C j O).ownBlock =some q→w.heap.size≤q:=fun q z=>(c.lt q (by cases C<;>exact z)).1
  have Z:=h_ K;clear K;have X:=h_ d;have al:=d.size;obtain⟨⟨T,S,U,k⟩,V⟩:=y;clear A J c d M t;obtain⟨b,l⟩:∃b,b=wr.alloc (.cells #[.int .i64 (T:Int),.int .i64 (S:Int),.int .i64 (U:Int),.string k,.int .i64 (V:Int)] 138):=⟨_,rfl⟩;have B:Keep [] wr b:=by rw[l];exact(By _ _).alloc _
  have r:=(ab.out.keep B (by simp)).alloc (.cells #[.string k] 9);have p:Keep [] w (b.alloc (.cells #[.string k] 9)):=(X.out.trans B).trans ((By _ _).alloc _);have m:=Lc (P:=Tryz.prog) Tryz.underlying51 b (.string k) rfl 9 b.heap.size rfl;have I:b.heap.size=wr.heap.size+1:=by rw[l];simp
  rw[I]at m;rw[l]at r m p;obtain⟨aa,ac,Y⟩:=i_3 r m p;have ak:j+1≤1001:=by omega
  clear B r m p l I
  go_wp2_with (first|(refine Bc rfl 138 _ rfl g (j*5) rfl [.int .i64 (T:Int),.int .i64 (S:Int),.int .i64 (U:Int),.string k,.int .i64 (V:Int)] _ W.out Tryz.underlying138 rfl (by rfl) ?_)|(at_builtin;refine Bl _ rfl _ _ 51 51 rfl w.heap.size 9 i0 _ 1 16 Tryz.underlying51 hi af ag ah rfl (by decide) _ j _ rfl (by have:=aa.out;unfold Own at this;rw[D.out]at this;exact this) _ 1 _ rfl ac.out (by unfold maxLen;omega) (by omega) (by simp;omega) ?_;intro v1 R F G _ h4))
  have N:=DJ G
  have H:Own R w.heap.size 9 v1 (Ow (Q.take (j+1))):=by rw[ad.out];unfold Own;rw[Aj,D.out];exact F
  have E:Keep [] w R:=Y.out.then N (fun q z L=>by have:=Z.out q (Ae.1 z);omega)
  have f:=h_2 H E;clear N H E F G h4;go_wp2
  go_roundw
  case rel=>exact⟨j+1,by first|rfl|go_num,by omega,f.out.1,f.out.2⟩
  case measure=>simp only[intOf];omega
 ·obtain rfl:j=n:=by omega
  have q0:¬(j:Int)<(j:Int):=by omega
  have f:=h_2 c d;obtain⟨C,O,rfl⟩:=c.slice;clear c d;go_wp2;go_ret;refine⟨_,rfl, ?_,f.out.2⟩;have e:Q.take j=Q:=Ba (by have:=o.out;omega);have h1:=f.out.1;have e2:Ow Q=Ow (Q.take j):=by rw[e]
  rw[e2];exact h1
end
section
variable {w w':World} {nb stb le id tk asked:Nat} {rg:Option Nat} {qv rv ms rp:Value}
theorem Px (h:Blk w nb (ndC stb le id rg tk qv rv asked ms rp) 71):Calls Tryz.prog 199 #[pr nb 0] w fun e w'=>e=.returned (.tuple #[])∧Blk w' nb (ndC stb le id rg tk qv rv asked ms rp) 71∧Keep [nb] w w':=by
 have c5:w.cell? ⟨nb,5,none⟩=some (.bool false):=h.cell 5;have c6:w.cell? ⟨nb,6,none⟩=some (.slice none 0 0):=h.cell 6;have c7:w.cell? ⟨nb,7,none⟩=some (.map none):=h.cell 7;have c8:w.cell? ⟨nb,8,none⟩=some (.map none):=h.cell 8;have a:=h.free 5;have b:=h.free 6;have c:=h.free 7;have d:=h.free 8;have H:=h_ h;clear h;go_enter Tryz.func199,Tryz.ntmps199;go_wp2
 go_end0
 have h:=(((H.out.set 5 (.bool false)).set 6 (.slice none 0 0)).set 7 (.map none)).set 8 (.map none);exact⟨rfl,h,((((By [nb] w).setCell (.inl (by simp)) _).setCell (.inl (by simp)) _).setCell (.inl (by simp)) _).setCell (.inl (by simp)) _⟩
theorem R0 {w:World}:Calls Tryz.prog 123 #[.pointer none] w fun e w'=>e=.returned (.slice none 0 0)∧w'=w:=by go_enter Tryz.func123,Tryz.ntmps123;go_wp2_with fail;go_ret;exact⟨rfl,rfl⟩
end
def FJ (m:Ms):Tm:=⟨m,.slice none 0 0,.slice none 0 0⟩
def GR (b c err op:Nat)(key val:Str)(a:Bool):Ms:={Rz with kind:=14,dst:=(b:Int),id:=(c:Int),err:=(err:Int),it:=if op=1∧err=0 then(key,val,0, !a)else VS}
section
variable {w w':World} {nb stb le id tk asked:Nat} {rg:Option Nat} {qv rv ms rp:Value} {L:List Tm}
theorem Pv (h:Blk w nb (ndC stb le id rg tk qv rv asked ms rp) 71)(ho:w.ownsRow 0 175 21 ms L.length (tc L))(ar:L.length<300)(a c op err:Nat)(au:1≤a)(key val:Str)(i:Bool):
  Calls Tryz.prog 124 #[pr nb 0,.agg (O1 a c op key).toArray,.int .i64 (err:Int),.string val,.bool i] w fun e w'=>∃D,e=.returned (.tuple #[])∧Blk w' nb (ndC stb le id rg tk qv rv asked D rp) 71∧
   w'.ownsRow 0 175 21 D (L.length+1) (tc (L++[CP id (FJ (GR a c err op key val i))]))∧Keep (nb::ms.ownBlock.toList) w w'∧(∀q,D.ownBlock=some q→ms.ownBlock=some q∨w.heap.size≤q):=by
 obtain⟨im,aq,ay,az,a0⟩:=AU Y2;have P:Keep [] w (w.alloc (.cells (O1 a c op key).toArray 136)):=(By _ _).alloc _;have M:Blk (w.alloc (.cells (O1 a c op key).toArray 136)) w.heap.size (O1 a c op key) 136:=BY w _ _;have e0:(w.alloc (.cells (O1 a c op key).toArray 136)).cell? ⟨w.heap.size,0,none⟩=some (.int .i64 (a:Int)):=M.cell 0;have f:(w.alloc (.cells (O1 a c op key).toArray 136)).cell? ⟨w.heap.size,1,none⟩=some (.int .i64 (c:Int)):=M.cell 1;have q0:((a:Int)==0)=false:=by simp;omega
 have q1:¬(a:Int)=0:=by omega
 have g:=h_4 (h.keep P (by simp)) (Do ho P (by simp)) M P;clear h ho P M;go_enter Tryz.func124,Tryz.ntmps124;go_upto_region 3 with fail;obtain⟨d,aa⟩:∃d,d=w.alloc (.cells (O1 a c op key).toArray 136):=⟨_,rfl⟩;rw[←aa]at g e0 f⊢;have ap:=h_ aa;have an:∀W:World,(Instr.build 175 #[(0,.int .i64 14),(2,.int .i64 (a:Int)),(7,.int .i64 (c:Int)),(10,.int .i64 (err:Int))]).run Tryz.prog W=.ok (Yi {Rz with kind:=14,dst:=(a:Int),id:=(c:Int),err:=(err:Int)} (.slice none 0 0) (.slice none 0 0) (.slice none 0 0) (.slice none 0 0)) W:=fun W=>DD W _ _ _ (by rfl)
 obtain⟨m,Z⟩:∃m,m=({Rz with kind:=14,dst:=(a:Int),id:=(c:Int),err:=(err:Int)}:Ms):=⟨_,rfl⟩;rw[←Z]at an;have U:=h_ Z;obtain⟨o,ah⟩:∃o:List Value,o=[.int .i64 0,.int .i64 0,.int .i64 0,.int .i64 0,.int .i64 0,.int .i64 0,.int .i64 0,.int .i64 0,.int .i64 0,.string ByteArray.empty,.int .i64 0,.bool false,.string ByteArray.empty,.string ByteArray.empty,.int .i64 0,.bool false,.slice none 0 0,.slice none 0 0,.slice none 0 0,.int .i64 0,.slice none 0 0]:=⟨_,rfl⟩;have HZ:=h_ ah;have O:=Yt d o 175 d.heap.size rfl;obtain⟨X,H⟩:∃X,X=d.alloc (.cells o.toArray 175):=⟨_,rfl⟩;have x:=H;rw[HZ.out]at x;change _=d.alloc (.cells #[.int .i64 0,.int .i64 0,.int .i64 0,.int .i64 0,.int .i64 0,.int .i64 0,.int .i64 0,.int .i64 0,.int .i64 0,.string {data:=#[]},.int .i64 0,.bool false,.string {data:=#[]},.string {data:=#[]},.int .i64 0,.bool false,.slice none 0 0,.slice none 0 0,.slice none 0 0,.int .i64 0,.slice none 0 0] 175)at x;rw[←H]at O;have k2:Keep [] d X:=by rw[H];exact(By _ _).alloc _
 have ai:=h_ k2;obtain⟨t,J⟩:∃t,t=d.heap.size:=⟨_,rfl⟩;rw[←J]at O;have V:=h_ J;have am:Hid (o.length=(Cm (FJ m)).length):=h_ (by rw[HZ.out];rfl);clear Z ah H k2;clear aa
 go_upto_region 4 with(refine AS rfl _ _ _ rfl t o (Cm (FJ m)) 175 (by simp[Act.eval,Act.put,J]) (by rw[U.out];simp[Act.eval,Act.put,Cm,FJ,CZ,Rz,VS];try rfl) (by rw[←x];exact O) am.out C4 (Hf _ _ _ _ _ _ _ _ _ _ _ _ _) ?_;intro E h5 k5)
 rw[←x]at k5;have aw:w.heap.size<d.heap.size:=g.out.2.2.1.lt;have ab:Keep [] d E:=ai.out.then k5 (fun q l Y=>by simp only[Ah]at l;rw[l,V.out]at Y;omega);have C:=g.out.2.2.1.keep ab (by simp);have c0:E.cell? ⟨w.heap.size,0,none⟩=some (.int .i64 (a:Int)):=C.cell 0;have c2:E.cell? ⟨w.heap.size,2,none⟩=some (.int .i64 (op:Int)):=C.cell 2;have c3:E.cell? ⟨w.heap.size,3,none⟩=some (.string key):=C.cell 3;have p:=h_3 h5 ab C;have ag:d.heap.size=t:=V.out.symm;clear h5 k5 x O e0 f ab C;obtain⟨j,ae⟩:∃j,j=decide (op=1∧err=0):=⟨_,rfl⟩;have v:=h_ ae;clear ae;rw[ag];clear J ag;dsimp only[Act.put];go_cut [47] (fun s wc=>s=.bool j∧E=wc)
 case first=>
  by_cases f:op=1
  ·have p1:((op:Int)==1)=true:=by simp[f]
   have a1:(op:Int)=1:=by omega
   by_cases F:err=0
   ·have p2:((err:Int)==0)=true:=by simp[F]
    have r:Hid (j=true):=h_ (by rw[v.out];simp[f,F]);subst f F;go_wp2_with fail;go_meet;exact⟨by rw[r.out],rfl⟩
   ·have p2:((err:Int)==0)=false:=by simp;omega
    have r:Hid (j=false):=h_ (by rw[v.out];simp[f,F]);subst f;go_wp2_with fail;go_meet;exact⟨by rw[r.out],rfl⟩
  ·have p1:((op:Int)==1)=false:=by simp;omega
   have r:Hid (j=false):=h_ (by rw[v.out];simp[f]);go_wp2_with fail;go_meet;exact⟨by rw[r.out],rfl⟩
 case rest=>
 obtain⟨rfl,rfl⟩:=hcut;go_upto_if 47 with fail;go_cut [] (fun wc=>Blk wc t (Cm (FJ (GR a c err op key val i))) 175∧Keep [] d wc)
 case first=>
  cases j with
  |true=>
   have A:=DE v.out.symm;have av:=p.out.1;have S:Hid (BQ (Cm (FJ m)) 12 (E8 key val 0 (!i))=Cm (FJ (GR a c err op key val i))):=h_ (by rw[U.out];unfold GR;rw[Ay A];rfl);clear A
   go_wp2_with (refine DM (T:=175) rfl 171 _ _ rfl t 12 _ (E8 key val 0 (!i)) (by simp[Act.eval,Act.put]) (by simp[Act.eval,Act.put,E8]) p.out.1 (show 12+4≤21 by omega) If (EJ _ _ _ _) ?_;intro w6 h6 k6)
   go_meet;rw[S.out]at h6;exact⟨h6,p.out.2.1.then k6 (fun q l Y=>by simp only[Ah]at l;rw[l,V.out]at Y;omega)⟩
  |false=>have A:=of_decide_eq_false v.out.symm;have S:Hid (Cm (FJ m)=Cm (FJ (GR a c err op key val i))):=h_ (by rw[U.out];unfold GR;rw[Aw A];rfl);clear A;go_wp2_with fail;go_meet;exact⟨by rw[←S.out];exact p.out.1,p.out.2.1⟩
 case rest=>
 obtain⟨hy,R⟩:=hcut;obtain⟨y,N⟩:∃y,y=FJ (GR a c err op key val i):=⟨_,rfl⟩;rw[←N]at hy;have al:=h_ N;have ao:∀u∈Cm y,u.oneCell'=true:=by rw[N];exact Hf _ _ _ _ _ _ _ _ _ _ _ _ _
 have kb:Keep [] wc (wc.alloc (.cells (Cm y).toArray 175)):=(By _ _).alloc _;have ad:Blk (wc.alloc (.cells (Cm y).toArray 175)) wc.heap.size (Cm y) 175:=BY wc _ _
 have af:(wc.alloc (.cells (Cm y).toArray 175)).ownsRow 0 175 21 (.slice (some ⟨wc.heap.size,0,none⟩) [y].length 1) [y].length (tc [y]):=by have:=Yy (base:=0) (k:=21) (n:=1) (cap:=1) (xs:=Cm y) (spare:=[]) (T:=175) (by simpa using ad) rfl (Av _) rfl (by unfold maxLen;omega) (AA _);simpa[tc]using this
 have G:=R.trans kb
 have ax:w.heap.size≤wc.heap.size:=by have h1:=g.out.2.2.2.size;have h2:=R.size;omega
 have aj:=h_ (MP (g.out.1.keep G (by simp)) (Do g.out.2.1 G (by simp)) af (by intro z hz;simp at hz;subst hz;exact ao) (by simp;omega) (fun b hb e=>by have h1:wc.heap.size=b:=Option.some.inj hb;have h2:=((B3 g.out.2.1) b e).2;have h3:=R.size;omega))
 have ak:=h_ hy;have ac:=h_ (g.out.2.2.2.trans G);clear N hy R kb ad af G
 go_wp2_with (first|(refine BA 175 _ rfl t (by simp[Act.eval,Act.put]) 175 (Cm y).toArray (0,0) _ ak.out AV rfl C4 (by rfl) ?_)|(refine Jk rfl _ rfl y (by simp[Act.eval,Act.put]) ?_)|fail)
 refine aj.out.mono ?_;rintro e w9 ⟨D,rfl,I,B,Q,K⟩;have HE:=h_4 I B Q K;clear I B Q K;go_wp2
 go_end0
 obtain⟨I,B,Q,K⟩:=HE.out;rw[al.out]at B
 exact⟨D,rfl,I,B,(ac.out.mono (by simp)).trans Q,fun q l=>by
  rcases K q l with h|h
  ·exact .inl h
  ·have:=ac.out.size
   exact .inr (by omega)⟩
end
structure NdP where
 nb:Nat
 cb:Nat
 d:Nat
 sb:Nat
 stb:Nat
 le:Nat
 tk:Nat
 kp:Nat
 ca:Nat
 jo:Nat
structure StOk (w:World) (x:NdP) (k:Disk) (B:Nat) (L:List Sec) (c t:Nat) (M:List JMk) (Q:List (Nat×FR)) (y:StD):Prop where
 at_:StAt w x.stb x.d x.sb c t 129 L k.boot (k.boot:Int) (k.epoch:Int) (k.ready:Int) k.frozen M Q y
 kp:y.k=x.kp
 ca:y.cb=x.ca
 jo:y.jb=x.jo
 len:L.length=1200
 lim:c≤5000+20*B∧t≤1000+B
 jk:M.map (fun a=>toStr a.key)=k.jk
 cache:CacheOf Q k.cache
 used:encN (Q.map frRec)≤k.used
 tab:y.T.length=16∧y.used≤k.cache.length∧y.cnt≤k.cache.length
 last:∀s∈L,flushSec s=s
 pair:Pair L 0 y.slot y.turn (meText (k.boot:Int) (k.epoch:Int) (k.ready:Int) k.frozen)
def StD.G (x:NdP)(y:StD):List Nat:=x.d::x.sb::y.F x.stb
theorem StOk.keep {w w':World}{x:NdP}{k:Disk}{B:Nat}{L:List Sec}{c t:Nat}{M:List JMk}{Q:List (Nat×FR)}{y:StD}{S:List Nat}(h:StOk w x k B L c t M Q y)(e:Keep S w w')(b:∀q∈S,q∉y.G x):StOk w' x k B L c t M Q y:=
 ⟨h.at_.keep e (fun a=>b _ a (by simp[StD.G])) (fun a=>b _ a (by simp[StD.G])) (fun q d a=>b q d (by simp[StD.G,a])),h.kp,h.ca,h.jo,h.len,h.lim,h.jk,h.cache,h.used,h.tab,h.last,h.pair⟩
theorem StOk.lt {w:World}{x:NdP}{k:Disk}{B:Nat}{L:List Sec}{c t:Nat}{M:List JMk}{Q:List (Nat×FR)}{y:StD}(h:StOk w x k B L c t M Q y):∀q∈y.G x,q<w.heap.size:=by
 intro q a;simp only[StD.G,Ac]at a;rcases a with rfl|rfl|a
 ·exact h.at_.dev.dev.lt
 ·exact h.at_.dev.secs.lt
 ·exact h.at_.lt q a
def UQ (x:NdP)(k:Disk)(B:Nat):As:=⟨fun F w=>∃(L:List Sec) (c t:Nat) (M:List JMk) (Q:List (Nat×FR)) (y:StD),F=y.G x∧StOk w x k B L c t M Q y,
 fun⟨L,c,t,M,Q,y,hF,h⟩ b a=>⟨L,c,t,M,Q,y,hF,h.keep b (hF▸a)⟩,fun⟨L,c,t,M,Q,y,hF,h⟩=>hF▸h.lt⟩
def rgA (d:Option Nat)(r:Option (Nat×List Nat)):As:=⟨fun F w=>match d,r with
  |none,none=>F=[]
  |some rb,some q=>∃a c,F=Xj rb a c∧RingAt w rb q.1 q.2 a c∧(∀b∈F,b<w.heap.size)∧0<(ptsOf q.2).length ∧(ptsOf q.2).length ≤1000
  |_,_=>False,
 fun {F S w w'} h k hS=>by
  match d,r,h with
  |none,none,h=>exact h
  |some rb,some q,⟨a,c,hF,h,hl,hp⟩=>exact⟨a,c,hF,h.keep k (hF▸hS),fun b e=>AW (hl b e) k.size,hp⟩,
 fun {F w} h q hq=>by
  match d,r,h with
  |none,none,h=>rw[show F=[]from h]at hq;cases hq
  |some rb,some q,⟨a,c,hF,h,hl,hp⟩=>exact hl _ hq⟩
def tkA (b last:Nat)(d:List (Nat×Str×Bool)):As:=⟨fun F w=>∃g n B f,F=KG b g B∧TkAt w b g n last B f∧n≤last∧(∀i:Nat,(f (i:Int)).map Prod.snd=(d.find? (fun t=>decide (t.1=i))).map Prod.snd)∧∀i:Int,i<0→f i=none,
 fun⟨g,n,B,f,hF,h,e⟩ k c=>⟨g,n,B,f,hF,h.keep k (hF▸c),e⟩,fun⟨g,n,B,f,hF,h,e⟩ q a=>by
  rw[hF]at a;simp only[KG,Ac]at a;rcases a with rfl|rfl|a
  ·exact h.blk.lt
  ·exact h.map.lt
  ·exact h.lt q a⟩
def wtC (q:Wt):List Value:=O1 q.w.node q.w.id q.w.op q.w.key++[.int .i64 (q.id:Int),.int .i64 (q.too:Int),.int .i64 (q.whn:Int)]
structure NdV where
 rg:Option Nat
 wv:Value
 rv:Value
 ms:Value
 rp:Value
 mt:List Tm
def GW (x:NdP)(n:Nd)(B:Nat)(v:NdV):List As:=
 [AM x.nb (ndC x.stb x.le n.id v.rg x.tk v.wv v.rv n.asked v.ms v.rp) 71,UQ x n.dk B,Yj x.le x.cb n.lep n.lend n.ltop,rgA v.rg n.ring,tkA x.tk n.tlast n.toks,
  BF 223 7 v.wv n.waits.length (rows wtC n.waits),BF 138 5 v.rv n.reads.length (rows rdC n.reads),BF 175 21 v.ms v.mt.length (tc v.mt),WS v.mt,BF 43 6 v.rp n.reps.length (rows rpC n.reps)]
structure Nd.Quiet (n:Nd):Prop where
 knows:n.knows=false
 parts:n.parts=[]
 outs:n.outs=[]
 ins:n.ins=[]
 ready:n.dk.ready=0
 frozen:n.dk.frozen=false
 id:1≤n.id∧n.id≤5
def CJ (x:NdP)(n:Nd)(B:Nat):As:=As.ex fun v:NdV=>As.and (n.Quiet∧v.mt.map (·.m)=n.msgs.map wmMs) (ED (GW x n B v))
section
variable {R:List As} {w w':World} {x:NdP} {n:Nd} {B:Nat}
theorem Sp.nd (h:Sp (CJ x n B::R) w):∃v:NdV,n.Quiet∧v.mt.map (·.m)=n.msgs.map wmMs∧Sp (GW x n B v++R) w:=by obtain⟨v,h⟩:=h.exE;obtain⟨⟨b,a⟩,h⟩:=h.andE;exact⟨v,b,a,h.open_⟩
theorem Sp.ndI (v:NdV)(b:n.Quiet)(a:v.mt.map (·.m)=n.msgs.map wmMs) (h:Sp (GW x n B v++R) w):Sp (CJ x n B::R) w:=
 Sp.exI v (Sp.andI ⟨b,a⟩ (DV _ h))
def Yz:=@Sp.ndI
theorem J9.nil (w:World):J9 [] [] w:=rfl
theorem J9.cons {A:As}{l:List As}{F G:List Nat}(h:A.P F w)(b:J9 l G w)(a:∀q∈F,q∉G):J9 (A::l) (F++G) w:=⟨F,G,rfl,h,b,a⟩
theorem J9.single {A:As}{F:List Nat}(h:A.P F w):J9 [A] F w:=⟨F,[],(AE _).symm,h,rfl,by simp⟩
end
structure NdR (w:World) (x:NdP) (n:Nd) (B:Nat) (v:NdV):Prop where
 blk:Blk w x.nb (ndC x.stb x.le n.id v.rg x.tk v.wv v.rv n.asked v.ms v.rp) 71
 st:∃L c t M Q y,StOk w x n.dk B L c t M Q y
 le:IsLease w x.le x.cb (n.lep:Int) (n.lend:Int) (n.ltop:Int)
 rg:∃F,(rgA v.rg n.ring).P F w
 wt:w.ownsRow 0 223 7 v.wv n.waits.length (rows wtC n.waits)
 rd:w.ownsRow 0 138 5 v.rv n.reads.length (rows rdC n.reads)
 ms:w.ownsRow 0 175 21 v.ms v.mt.length (tc v.mt)
 rp:w.ownsRow 0 43 6 v.rp n.reps.length (rows rpC n.reps)
 quiet:n.Quiet
 msgs:v.mt.map (·.m)=n.msgs.map wmMs
def Dn (v:Value)(K:List Rp):As:=BF 43 6 v K.length (rows rpC K)
section
variable {R:List As} {w w':World} {x:NdP} {n:Nd} {B:Nat} {v:NdV}
theorem NdR.still (h:NdR w x n B v)(k:Keep [] w w'):NdR w' x n B v:=by obtain⟨a,⟨L,c,t,M,Q,y,d⟩,e,⟨F,f⟩,g,i,j,l,m,b⟩:=h;exact⟨a.keep k (by simp),⟨L,c,t,M,Q,y,d.keep k (by simp)⟩,e.keep k (by simp),⟨F,(rgA v.rg n.ring).keep f k (by simp)⟩,Do g k (by simp),Do i k (by simp),Do j k (by simp),Do l k (by simp),m,b⟩
theorem NdR.stb (h:NdR w x n B v):Blk w x.stb [pr x.ca 0,pr x.jo 0,pr x.kp 0,.int .i64 (n.dk.boot:Int)] 76:=by obtain⟨L,c,t,M,Q,y,a⟩:=h.st;have b:=a.at_.blk;rw[a.kp,a.ca,a.jo]at b;exact b
theorem Sp.ndL_r (h:Sp (GW x n B v++R) w)(p:n.Quiet)(o:v.mt.map (·.m)=n.msgs.map wmMs):NdR w x n B v:=by have a:=h.pre;obtain⟨_,_,d⟩:=a.at 0 rfl;obtain⟨_,L,c,t,M,Q,y,_,e⟩:=a.at 1 rfl;obtain⟨_,_,f⟩:=a.at 2 rfl;obtain⟨b,g⟩:=a.at 3 rfl;obtain⟨_,_,i⟩:=a.at 5 rfl;obtain⟨_,_,j⟩:=a.at 6 rfl;obtain⟨_,_,k⟩:=a.at 7 rfl;obtain⟨_,_,l⟩:=a.at 9 rfl;exact⟨d,⟨L,c,t,M,Q,y,e⟩,f,⟨b,g⟩,i,j,k,l,p,o⟩
theorem Sp.ndR (h:Sp (CJ x n B::R) w):∃v,NdR w x n B v:=by obtain⟨v,b,a,h⟩:=h.nd;exact⟨v,h.ndL_r b a⟩
theorem SO (b e:Int)(W:World):(Instr.field 49 (.agg #[.int .i64 b,.int .i64 e,.int .i64 0,.bool false]) 1).run Tryz.prog W=.ok (.int .i64 e) W:=by rfl
theorem X0 (b e:Int)(W:World):(Instr.field 49 (.agg #[.int .i64 b,.int .i64 e,.int .i64 0,.bool false]) 2).run Tryz.prog W=.ok (.int .i64 0) W:=by rfl
theorem Xz (b e:Int)(W:World):(Instr.field 49 (.agg #[.int .i64 b,.int .i64 e,.int .i64 0,.bool false]) 3).run Tryz.prog W=.ok (.bool false) W:=by rfl
theorem G4 (h:NdR w x n B v):Calls Tryz.prog 22 #[pr x.kp 0] w fun e w'=>e=.returned (.agg #[.int .i64 (n.dk.boot:Int),.int .i64 (n.dk.epoch:Int),.int .i64 0,.bool false])∧Keep [] w w':=by obtain⟨L,c,t,M,Q,y,a⟩:=h.st;have b:=a.at_.kep;rw[a.kp,h.quiet.ready,h.quiet.frozen]at b;exact Ir b
theorem Xt {t:Nat}(h:NdR w x n B v)(a:IsClock w x.cb (t:Int)):Calls Tryz.prog 39 #[pr x.le 0,.int .i64 (n.dk.epoch:Int)] w fun e w'=>e=.returned (.bool (n.good t))∧Keep [] w w':=
 VZ (n.dk.epoch:Int) h.le a _ (by unfold Nd.good;rw[decide_eq_decide];omega)
theorem Yc (h:NdR w x n B v)(key:Str)(a:key.size≤1000000):Calls Tryz.prog 38 #[Cu v.rg,.string key] w fun e w'=>e=.returned (.int .i64 (n.own key:Int))∧Keep [] w w':=by
 obtain⟨F,hF⟩:=h.rg;unfold Nd.own Nd.pts
 match hr:v.rg,hn:n.ring,hF with
 |none,none,hF=>refine(Of_nil key a).mono ?_;rintro e w' ⟨rfl,k⟩;exact⟨rfl,k⟩
 |some rb,some q,⟨v1,v2,_,hR,_,hl⟩=>exact Vp hR hl key a
 |some _,none,hF=>exact hF.elim
 |none,some _,hF=>exact hF.elim
theorem EF (h:NdR w x n B v):v.rg=none↔n.ring=none:=by
 obtain⟨F,hF⟩:=h.rg
 match hr:v.rg,hn:n.ring,hF with
 |none,none,hF=>simp
 |some rb,some q,_=>simp
 |some _,none,hF=>exact hF.elim
 |none,some _,hF=>exact hF.elim
theorem nd_started (h:NdR w x n B v):Calls Tryz.prog 178 #[pr x.stb 0] w fun e w'=>e=.returned (.int .i64 (n.dk.boot:Int))∧w'=w:=by obtain⟨L,c,t,M,Q,y,a⟩:=h.st;exact stStarted_any a.at_
theorem Pt (h:NdR w x n B v)(i:B≤900000)(key:Str)(g:key.size≤1000)(j:n.dk.cache.length≤15)(f:Int):Calls Tryz.prog 227 #[pr x.ca 0,.string key,.int .i64 f] w fun e w'=>
  e=.returned (match cGet n.dk.cache key with|some s=> .tuple #[L7 key s 0 false,.bool true]|none=> .tuple #[L7 ByteArray.empty ByteArray.empty 0 false,.bool false])∧Keep [] w w':=by
 obtain⟨L,c,t,M,Q,y,a⟩:=h.st;have b:=a.cache.at_ key;have k:=a.lim.2;have l:=a.tab;rw[←a.ca]
 cases d:rpF Q key with
 |none=>rw[d]at b;rw[b];exact RJ a.at_.fl key g d (by omega) f
 |some p=>obtain⟨pos,s⟩:=p;rw[d]at b;rw[b];exact RI a.at_.fl (by decide) (by omega) key g pos s d f
theorem Pr (h:Sp (CJ x n B::R) w)(c:n.reads.length≤1000):Calls Tryz.prog 37 #[pr x.nb 0] w fun e w'=>∃u,e=.returned u∧Sp (BF 9 1 u n.reads.length (Ow n.reads)::CJ x n B::R) w'∧Keep [] w w':=by
 obtain⟨v,b⟩:=h.ndR;refine(Py b.blk b.rd c).mono ?_;rintro e w' ⟨u,rfl,a,k⟩;have d:(Ow n.reads).length =n.reads.length:=by simp[Ow]
 refine⟨u,rfl,h.new1 (G:=u.ownBlock.toList) k ⟨rfl, ?_⟩ (fun q f=>(a.lt q (Ae.1 f)).1),k⟩;have:=Hd a (AA _);rw[d]at this;exact this
theorem VI {F:List Nat}{y:Tm}{id:Nat}(h:MqOk w F y):MqOk w F (CP id y):=⟨h.mem,h.old,h.its,h.mks,h.memF,h.oldF⟩
theorem VD {u:Value}{M:List Wm}(h:Sp (CJ x n B::Dp u M::R) w)(hl:n.msgs.length+M.length≤300):Calls Tryz.prog 121 #[pr x.nb 0,u] w fun e w'=>e=.returned (.tuple #[])∧Sp (CJ x (n.say M) B::R) w':=by
 obtain⟨v,a,G,h⟩:=h.nd;obtain⟨F,hF,hs⟩:=Yq (l:=GW x n B v++[Dp u M]) (R:=R) (by rw[Ax];exact h) [0,7,8,10] [1,2,3,4,5,6,9] 11 rfl rfl;obtain⟨F0,_,rfl,⟨K,C⟩,⟨F1,_,rfl,⟨L,Z⟩,⟨i,_,rfl,⟨V,D⟩,⟨F3,_,rfl,⟨c,A,K0,K1,N,⟨O,ab⟩,⟨j,_,rfl,⟨H,E⟩,rfl,_⟩,ac⟩,rfl,d3⟩,d2⟩,s⟩,r⟩:=hF;have ae:v.mt.length=n.msgs.length:=by have:=A3 List.length G;simpa using this
 have ad:c.length=M.length:=by have:=A3 List.length A;simpa using this
 subst K L O N;refine(MP C Z ab (fun y f=>(H y f).one) (by omega) (fun b Q S=> ?_)).mono ?_
 ·exact s b (by simp[S]) (by simp[Q])
 rintro e w' ⟨p,rfl,P,aa,k,t⟩;refine⟨rfl, ?_⟩
 have g:∀q∈x.nb::v.ms.ownBlock.toList,q∉i∧q∉j:=fun q a=>by
  rcases Ac.1 a with rfl|a
  ·exact⟨fun h=>r x.nb (by simp) (by simp[h]),fun h=>r x.nb (by simp) (by simp[h])⟩
  ·exact⟨fun h=>s q a (by simp[h]),fun h=>s q a (by simp[h])⟩
 have X:(v.mt++c.map (CP n.id)).map (·.m)=(n.say M).msgs.map wmMs:=by
  unfold Nd.say;rw[AL,AL,G,EW,EW]
  congr 1
  have I:c.map ((fun y:Tm=>y.m)∘CP n.id)=(c.map (·.m)).map (fun m=> {m with src:=(n.id:Int)}):=by rw[EW];rfl
  rw[I,A,EW];rfl
 have W:∀y∈v.mt++c.map (CP n.id),MqOk w' (i++j) y:=fun y f=>by
  rcases Ag.1 f with f|f
  ·exact((V y f).keep k (fun q a=>(g q a).1)).mono (fun q a=>A2 _ a)
  ·obtain⟨z,hz,rfl⟩:=AI.1 f
   exact VI (((H z hz).keep k (fun q a=>(g q a).2)).mono (fun q a=>AQ _ a))
 have U:∀q∈i++j,q<w'.heap.size:=fun q a=>by
  have:=k.size;rcases Ag.1 a with a|a
  ·have:=D q a;omega
  ·have:=E q a;omega
 have Y:∀q∈i++j,q<w.heap.size:=fun q a=>by
  rcases Ag.1 a with a|a
  ·exact D q a
  ·exact E q a
 have T:(v.mt++c.map (CP n.id)).length =v.mt.length+c.length:=by simp
 have J:=hs [0,3,4,5,6,7,8,1,2,9] [AM x.nb (ndC x.stb x.le n.id v.rg x.tk v.wv v.rv n.asked p v.rp) 71,BF 175 21 p (v.mt++c.map (CP n.id)).length (tc (v.mt++c.map (CP n.id))),WS (v.mt++c.map (CP n.id))] w' ([x.nb]++(p.ownBlock.toList++(i++j)))
  (J9.cons ⟨rfl,P⟩ (J9.cons ⟨rfl,by rw[T];exact aa⟩ (J9.single ⟨W,U⟩) (fun q a o=> ?_)) (fun q a o=> ?_)) (k.mono (fun q a _=> ?_)) (fun q a=> ?_) rfl rfl
 ·exact Yz ⟨v.rg,v.wv,v.rv,p,v.rp,v.mt++c.map (CP n.id)⟩ ⟨a.knows,a.parts,a.outs,a.ins,a.ready,a.frozen,a.id⟩ X J
 ·rcases t q (Ae.1 a)with h|h
  ·rcases Ag.1 o with d|d
   ·exact(g q (by simp[h])).1 d
   ·exact(g q (by simp[h])).2 d
  ·have:=Y q o;omega
 ·rw[Ah]at a
  subst a;have af:=C.lt;rcases Ag.1 o with h|h
  ·rcases t _ (Ae.1 h)with h|h
   ·exact r x.nb (by simp) (by simp[h])
   ·omega
  ·rcases Ag.1 h with d|d
   ·exact(g x.nb (by simp)).1 d
   ·exact(g x.nb (by simp)).2 d
 ·rcases Ac.1 a with rfl|a
  ·simp
  ·simp[Ae.1 a]
 ·simp only[Ag,Ah]at a
  rcases a with rfl|a|a|a
  ·simp
  ·rcases t q (Ae.1 a)with h|h
   ·simp[h]
   ·exact .inr h
  ·simp[a]
  ·simp[a]
end
theorem XR (b c err op:Nat)(key val:Str)(a:Bool):GR b c err op key val a=wmMs {kind:=14,dst:=b,id:=c,err:=err,it:=if op=1∧err=0 then(key,val, !a)else(se,se,false)}:=by
 unfold GR wmMs;by_cases h:op=1∧err=0
 ·rw[Ay h,Ay h];rfl
 ·rw[Aw h,Aw h];rfl
theorem Nd.Quiet.same {n n':Nd}(h:n.Quiet)(a:n'.knows=n.knows)(b:n'.parts=n.parts)(c:n'.outs=n.outs)(d:n'.ins=n.ins)(e:n'.dk.ready=n.dk.ready)(f:n'.dk.frozen=n.dk.frozen)(g:n'.id=n.id):n'.Quiet:=
 ⟨a.trans h.knows,b.trans h.parts,c.trans h.outs,d.trans h.ins,e.trans h.ready,f.trans h.frozen,by rw[g];exact h.id⟩
section
variable {R:List As} {w w':World} {x:NdP} {n:Nd} {B:Nat} {v:NdV}
theorem KP (h:Sp (CJ x n B::R) w)(q:Who)(b:Nat)(val:Str)(c:Bool)(S:n.msgs.length<300∧n.reps.length<300):
  Calls Tryz.prog 124 #[pr x.nb 0,.agg (O1 q.node q.id q.op q.key).toArray,.int .i64 (b:Int),.string val,.bool c] w fun e w'=>e=.returned (.tuple #[])∧Sp (CJ x (n.tell q b val c) B::R) w':=by
 obtain⟨v,a,I,h⟩:=h.nd;have X:v.mt.length=n.msgs.length:=by have:=A3 List.length I;simpa using this
 obtain⟨i,d,g,f⟩:=q;by_cases u:i=0
 ·subst u
  obtain⟨F,hF,L⟩:=Yq (l:=GW x n B v) (R:=R) h [0,9] [1,2,3,4,5,6,7,8] 10 rfl rfl;obtain⟨N,_,rfl,⟨D,s⟩,⟨O,_,rfl,⟨E,J⟩,rfl,_⟩,t⟩:=hF;subst D E;refine(Pw s J S.2 d g b f val c).mono ?_;rintro e w' ⟨z,rfl,G,K,k,o⟩;refine⟨rfl, ?_⟩;have W:=s.lt
  have C:=L [0,2,3,4,5,6,7,8,9,1] [AM x.nb (ndC x.stb x.le n.id v.rg x.tk v.wv v.rv n.asked v.ms z) 71,BF 43 6 z (n.reps++[(⟨d,g,f,b,val,c⟩:Rp)]).length (rows rpC (n.reps++[(⟨d,g,f,b,val,c⟩:Rp)]))] w' ([x.nb]++z.ownBlock.toList)
   (J9.cons ⟨rfl,G⟩ (J9.single ⟨rfl,by rw[Aj,List.length_singleton];exact K⟩) (fun q a j=> ?_)) (k.mono (fun q a _=> ?_)) (fun q a=> ?_) rfl rfl
  ·refine Yz ⟨v.rg,v.wv,v.rv,v.ms,z,v.mt⟩ (a.same rfl rfl rfl rfl rfl rfl rfl) ?_ C
   exact I
  ·rw[Ah]at a
   subst a;rcases o _ (Ae.1 j)with h|h
   ·exact t x.nb (by simp) (by simp[h])
   ·omega
  ·rcases Ac.1 a with rfl|a
   ·simp
   ·simp[Ae.1 a]
  ·simp only[Ag,Ah]at a
   rcases a with rfl|a
   ·simp
   ·rcases o q (Ae.1 a)with h|h
    ·simp[h]
    ·exact .inr h
 ·obtain⟨F,hF,L⟩:=Yq (l:=GW x n B v) (R:=R) h [0,7,8] [1,2,3,4,5,6,9] 10 rfl rfl
  obtain⟨N,_,rfl,⟨D,s⟩,⟨O,_,rfl,⟨E,J⟩,⟨A,_,rfl,⟨T,M⟩,rfl,_⟩,P⟩,t⟩:=hF;subst D E;refine(Pv s J (by omega) i d g b (by omega) f val c).mono ?_;rintro e w' ⟨r,rfl,G,K,k,o⟩;refine⟨rfl, ?_⟩;have W:=s.lt
  have H:∀q∈x.nb::v.ms.ownBlock.toList,q∉A:=fun q a h=>by
   rcases Ac.1 a with rfl|a
   ·exact t x.nb (by simp) (by simp[h])
   ·exact P q a (by simp[h])
  have U:∀y∈v.mt++[CP n.id (FJ (GR i d b g f val c))],MqOk w' A y:=fun y p=>by
   rcases Ag.1 p with p|p
   ·exact(T y p).keep k H
   ·rw[Ah]at p
    subst p;exact⟨Y6 w' 1,Y6 w' 1,rfl,rfl,fun h=>absurd h (by simp[CP,FJ,GR,Rz]),fun h=>absurd h (by simp[CP,FJ,GR,Rz])⟩
  have V:(v.mt++[CP n.id (FJ (GR i d b g f val c))]).map (·.m)=(n.tell ⟨i,d,g,f⟩ b val c).msgs.map wmMs:=by unfold Nd.tell;rw[Aw u];unfold Nd.say;rw[AL,AL,I];show _++[({GR i d b g f val c with src:=(n.id:Int)}:Ms)]=_;rw[XR];rfl
  have Q:GW x (n.tell ⟨i,d,g,f⟩ b val c) B ⟨v.rg,v.wv,v.rv,r,v.rp,v.mt++[CP n.id (FJ (GR i d b g f val c))]⟩=GW x n B ⟨v.rg,v.wv,v.rv,r,v.rp,v.mt++[CP n.id (FJ (GR i d b g f val c))]⟩:=by unfold Nd.tell;rw[Aw u];rfl
  have C:=L [0,3,4,5,6,7,8,1,2,9] [AM x.nb (ndC x.stb x.le n.id v.rg x.tk v.wv v.rv n.asked r v.rp) 71,BF 175 21 r (v.mt++[CP n.id (FJ (GR i d b g f val c))]).length (tc (v.mt++[CP n.id (FJ (GR i d b g f val c))])),WS (v.mt++[CP n.id (FJ (GR i d b g f val c))])] w' ([x.nb]++(r.ownBlock.toList++A))
   (J9.cons ⟨rfl,G⟩ (J9.cons ⟨rfl,by rw[Aj,List.length_singleton];exact K⟩ (J9.single ⟨U,fun q a=>AW (M q a) k.size⟩) (fun q a j=> ?_)) (fun q a j=> ?_)) (k.mono (fun q a _=> ?_)) (fun q a=> ?_) rfl rfl
  ·refine Yz ⟨v.rg,v.wv,v.rv,r,v.rp,v.mt++[CP n.id (FJ (GR i d b g f val c))]⟩ ?_ V (by rw[Q];exact C)
   unfold Nd.tell;rw[Aw u];exact a.same rfl rfl rfl rfl rfl rfl rfl
  ·rcases o q (Ae.1 a)with h|h
   ·exact H q (by simp[h]) j
   ·have:=M q j;omega
  ·rw[Ah]at a
   subst a;rcases Ag.1 j with h|h
   ·rcases o _ (Ae.1 h)with h|h
    ·exact t x.nb (by simp) (by simp[h])
    ·omega
   ·exact H x.nb (by simp) h
  ·rcases Ac.1 a with rfl|a
   ·simp
   ·simp[Ae.1 a]
  ·simp only[Ag,Ah]at a
   rcases a with rfl|a|a
   ·simp
   ·rcases o q (Ae.1 a)with h|h
    ·simp[h]
    ·exact .inr h
   ·simp[a]
theorem Lu (h:Sp (CJ x n B::R) w):Calls Tryz.prog 125 #[pr x.nb 0] w fun e w'=>∃m o,e=.returned (.agg #[m,o])∧Sp (CJ x {n with msgs:=[],reps:=[]} B::Dp m n.msgs::Dn o n.reps::R) w':=by
 obtain⟨v,a,b,h⟩:=h.nd;obtain⟨F,hF,I⟩:=Yq (l:=GW x n B v) (R:=R) h [0,7,8,9] [1,2,3,4,5,6] 10 rfl rfl;obtain⟨N,_,rfl,⟨s,y⟩,⟨O,_,rfl,⟨t,i⟩,⟨f,_,rfl,A,⟨P,_,rfl,⟨u,j⟩,rfl,_⟩,p⟩,g⟩,c⟩:=hF;subst s t u;obtain⟨J,K,C⟩:=A4 i;obtain⟨L,M,H⟩:=A4 j;refine(Ua y ⟨J,_,K,C⟩ ⟨L,_,M,H⟩).mono ?_;rintro e w' ⟨rfl,z,k⟩;refine⟨v.ms,v.rp,rfl, ?_⟩;have D:∀q,v.ms.ownBlock=some q→q∉ [x.nb]:=fun q a b=>c x.nb (by simp) (by rw[Ah]at b;subst b;simp[a])
 have E:∀q∈[x.nb],q∉f:=fun q a b=>c q a (by simp[b])
 have G:∀q,v.rp.ownBlock=some q→q∉ [x.nb]:=fun q a b=>c x.nb (by simp) (by rw[Ah]at b;subst b;simp[a])
 have r:=I [0,6,7,8,9,10,11,1,2,3,4,5] [AM x.nb (ndC x.stb x.le n.id v.rg x.tk v.wv v.rv n.asked (.slice none 0 0) (.slice none 0 0)) 71,BF 175 21 (.slice none 0 0) 0 [],WS [],BF 43 6 (.slice none 0 0) 0 [],Dp v.ms n.msgs,Dn v.rp n.reps] w' ([x.nb]++([]++([]++([]++((v.ms.ownBlock.toList++f)++v.rp.ownBlock.toList)))))
  (J9.cons ⟨rfl,z⟩ (J9.cons ⟨rfl,AY w' 0 _ _⟩ (J9.cons ⟨by simp,by simp⟩ (J9.cons ⟨rfl,AY w' 0 _ _⟩ (J9.cons ⟨v.mt,b,J9.cons ⟨rfl,Do i k D⟩ (J9.single ((WS v.mt).keep A k E)) (fun q a h=>g q a (by simp[h]))⟩ (J9.single ⟨rfl,Do j k G⟩) (fun q a h=> ?_)) (by simp)) (by simp)) (by simp)) (fun q a h=> ?_)) (k.mono (fun q a _=>by simp at a;simp[a])) (fun q a=> .inl ?_) rfl rfl
 ·exact Yz (R:=Dp v.ms n.msgs::Dn v.rp n.reps::R) ⟨v.rg,v.wv,v.rv,.slice none 0 0,.slice none 0 0,[]⟩ (a.same rfl rfl rfl rfl rfl rfl rfl) rfl r
 ·rcases Ag.1 a with d|d
  ·exact g q d (by simp at h;simp[h])
  ·exact p q d (by simp at h;simp[h])
 ·refine c q a ?_
  simp only[List.nil_append,Ag]at h⊢;rcases h with(h|h)|h
  ·exact .inl h
  ·exact .inr (.inl h)
  ·exact .inr (.inr (.inl h))
 ·simp only[List.nil_append,Ag]at a⊢
  rcases a with a|(a|a)|a
  ·exact .inl a
  ·exact .inr (.inl a)
  ·exact .inr (.inr (.inl a))
  ·exact .inr (.inr (.inr (.inl a)))
end
theorem SJ {L:List Sec}{i:Nat}{s:Sec}(h:L[i]?=some s):nowF L i=s.now:=by unfold nowF;rw[Af,h];rfl
theorem Pair.again {L a:List Sec}{c turn:Nat}{g:List Nat}(h:Pair L 0 c turn g)(b:c≤1)(o:a.length=L.length)(l:∀i,i<162→nowF a i=nowF L i):Pair (a.map flushSec) 0 c turn g:=by
 obtain⟨y,q,j,k⟩:=h
 have d:∀(i:Nat) (s:Sec),i<162→L[i]?=some s→(a.map flushSec)[i]?=some ⟨s.now,s.now,false⟩:=fun i s m b=>by
  have p:i<a.length:=by rw[o];exact(Ai.1 b).1
  have e:a[i]?=some a[i]:=Ad p;have f:=l i m;rw[SJ b,SJ e]at f;rw[AN,e];show some (⟨a[i].now,a[i].now,false⟩:Sec)=_;rw[f]
 exact⟨y,q,d _ _ (by omega) j,d _ _ (by omega) k⟩
theorem LF (L:List Sec):∀s∈L.map flushSec,flushSec s=s:=by intro s a;obtain⟨t,_,rfl⟩:=AI.1 a;rfl
section
variable {R:List As} {w w':World} {x:NdP} {n:Nd} {B t:Nat} {v:NdV}
theorem Sp.ndSt (h:Sp (CJ x n B::R) w):∃L c t M Q y,StOk w x n.dk B L c t M Q y∧n.Quiet∧∀(k:Disk) (B':Nat) (w':World) (d:List Sec) (g i:Nat) (e:List JMk) (f:List (Nat×FR)) (b:StD),StOk w' x k B' d g i e f b→k.ready=0→k.frozen=false→Keep (y.G x) w w'→(∀q∈b.G x,q∈y.G x∨w.heap.size≤q)→Sp (CJ x {n with dk:=k} B'::R) w':=by
 obtain⟨v,a,r,h⟩:=h.nd;obtain⟨F,hF,u⟩:=Yq (l:=GW x n B v) (R:=R) h [1] [0,2,3,4,5,6,7,8,9] 10 rfl rfl;obtain⟨C,_,rfl,⟨L,c,t,M,Q,y,rfl,z⟩,rfl,_⟩:=hF;refine⟨L,c,t,M,Q,y,z,a,fun k B' w' d g i e f b A s o p m=> ?_⟩
 have j:=u [1,0,2,3,4,5,6,7,8,9] [UQ x k B'] w' (b.G x) (J9.single ⟨d,g,i,e,f,b,rfl,A⟩) (p.mono (fun q a _=>by simp[a])) (fun q a=>by
  rcases m q a with h|h
  ·exact .inl (by simp[h])
  ·exact .inr h) rfl rfl
 exact Yz v ⟨a.knows,a.parts,a.outs,a.ins,s,o,a.id⟩ r j
theorem Nf (Q:List (Nat×FR))(pos:Nat)(r:FR):encN ((Q++[(pos,r)]).map frRec)=encN (Q.map frRec)+(r.body.length+8):=by rw[AL,GP];show _+encN [(pos,r.body)]=_;rw[FU];show _+(r.body.length+8+encN [])=_;have:encN []=0:=rfl;omega
theorem Xp (h:Sp (CJ x n B::R) w)(E:B≤900000)(J:n.dk.used+9≤2225):Calls Tryz.prog 229 #[pr x.ca 0] w fun e w'=>e=.returned (.int .i64 0)∧Sp (CJ x {n with dk:={n.dk with cache:=[],used:=n.dk.used+9}} (B+1)::R) w':=by
 obtain⟨L,c,t,M,Q,y,a,b,z⟩:=h.ndSt;have I:=a.lim;have K:=a.used;rw[←a.ca];refine(a.at_.wipe (by omega) (by omega) (by omega)).mono ?_;rintro e w' ⟨rfl,A,D,f,pos,r,H,d,s,hF,g,i,j,k,l,m,o,p,u⟩;refine⟨rfl,z _ _ w' _ f (t+1) M _ A ⟨r,j.trans a.kp,g.trans a.ca,i.trans a.jo,by rw[AD,d];exact a.len,by omega,a.jk,CacheOf.wipe (C:=n.dk.cache) pos, ?_, ?_,LF _, ?_⟩ b.ready b.frozen (s.mono (fun q b _=> ?_)) (fun q b=> ?_)⟩
 ·rw[Nf];show _+(1+8)≤n.dk.used+9;omega
 ·rw[k,l,m];exact⟨rfl,Av _,Av _⟩
 ·rw[o,p];exact a.pair.again a.at_.lim.1 d u
 ·simp only[StD.G,StD.F,Ac,Ag]at b⊢
  rcases b with h|h|h
  ·simp[h]
  ·simp[h]
  ·simp[h]
 ·simp only[StD.G,Ac]at b⊢
  rcases b with h|h|h
  ·simp[h]
  ·simp[h]
  ·rcases hF q h with h|h
   ·simp[h]
   ·exact .inr h
theorem Xq (h:Sp (CJ x n B::R) w)(j:B≤900000)(e:Nat)(k:n.dk.epoch≤e)(l:n.dk.boot≤1000000∧e≤1000000):Calls Tryz.prog 188 #[pr x.kp 0,SP (n.dk.boot:Int) (e:Int) 0 false] w fun y w'=>y=.returned (.int .i64 0)∧Sp (CJ x (n.save e 0 false) (B+1)::R) w':=by
 obtain⟨L,c,t,M,Q,y,a,b,i⟩:=h.ndSt;have o:=a.lim;have d:=a.at_;rw[b.ready,b.frozen]at d;rw[←a.kp];refine(d.save (by omega) (by omega) (e:Int) 0 false ?_ (by omega)).mono ?_
 ·unfold Ep
  rw[(Fo _).2 (by omega),(Fo _).2 (by omega),(Fo _).2 (by omega)];rfl
 rintro e w' ⟨rfl,f,g⟩;have m:=a.len;refine⟨rfl,i _ _ w' _ (c+2) (t+1) M Q _ ⟨f,a.kp,a.ca,a.jo,by rw[Bi,AD];exact a.len,by omega,a.jk,a.cache,a.used,a.tab,Iu _ _ _, ?_⟩ rfl rfl (g.mono (fun q b _=> ?_)) (fun q b=> .inl b)⟩
 ·have:=a.at_.lim
  exact a.pair.save this.1 (by omega) _
 ·simp only[StD.G,StD.F,Ac,Am,AG]at b⊢
  rcases b with h|h|h|h<;>simp[h]
theorem NL (h:Sp (CJ x n B::R) w):Calls Tryz.prog 230 #[pr x.le 0] w fun y w'=>y=.returned (.tuple #[])∧Sp (CJ x {n with lep:=0,lend:=0,ltop:=0} B::R) w':=by obtain⟨v,a,f,h⟩:=h.nd;obtain⟨F,hF,g⟩:=Yq (l:=GW x n B v) (R:=R) h [2] [0,1,3,4,5,6,7,8,9] 10 rfl rfl;obtain⟨i,_,rfl,⟨rfl,c⟩,rfl,_⟩:=hF;refine(Wg c).mono ?_;rintro e w' ⟨rfl,k,d⟩;have b:=g [1,2,0,3,4,5,6,7,8,9] [Yj x.le x.cb 0 0 0] w' [x.le] (J9.single ⟨rfl,d⟩) k (fun q a=> .inl a) rfl rfl;exact⟨rfl,Yz v (a.same rfl rfl rfl rfl rfl rfl rfl) f b⟩
theorem Jy (h:Sp (CJ x n B::AF x.cb t::R) w)(a ep:Nat)(j:a≤1099511627776):Calls Tryz.prog 187 #[pr x.le 0,.int .i64 (a:Int),.int .i64 (ep:Int)] w fun y w'=>(∃g,y=.returned (.bool g))∧Sp (CJ x (n.take t a ep) B::AF x.cb t::R) w':=by
 obtain⟨v,b,A,h⟩:=h.nd;obtain⟨F,hF,j⟩:=Yq (l:=GW x n B v++[AF x.cb t]) (R:=R) (by rw[Ax];exact h) [2,10] [0,1,3,4,5,6,7,8,9] 11 rfl rfl;obtain⟨E,_,rfl,⟨rfl,u⟩,⟨G,_,rfl,⟨rfl,f⟩,rfl,_⟩,s⟩:=hF;have d:x.le≠x.cb:=fun e=>s x.le (by simp) (by simp[e])
 refine(UZ (a:Int) (ep:Int) u f d _ rfl).mono ?_;rintro e w' ⟨rfl,k,c⟩;have r:=f.keep k (by simp;exact fun e=>d e.symm)
 have D:(n.take t a ep).Quiet :=by
  unfold Nd.take
  split
  ·exact b
  ·exact b.same rfl rfl rfl rfl rfl rfl rfl
 refine⟨⟨_,rfl⟩, ?_⟩
 have z:(Yj x.le x.cb (n.take t a ep).lep (n.take t a ep).lend (n.take t a ep).ltop).P [x.le] w':=by
  refine⟨rfl, ?_⟩;unfold Nd.take;unfold Ds at c;by_cases i:ep<1∨ep<n.ltop∨t<a∨20≤t-a∨(ep=n.lep∧a+20≤n.lend)
  ·rw[Ay i]
   rw[Aw (by simp only[A0];omega)]at c;exact c
  ·rw[Aw i]
   rw[Ay (by simp only[A0];omega)]at c
   exact_mod_cast c
 have p:=j [2,3,0,4,5,6,7,8,9,10,1] [Yj x.le x.cb (n.take t a ep).lep (n.take t a ep).lend (n.take t a ep).ltop,AF x.cb t] w' ([x.le]++[x.cb]) (J9.cons z (J9.single ⟨rfl,r⟩) (by simp;exact d)) (k.mono (fun q b _=>by simp at b;simp[b])) (fun q b=> .inl (by simpa using b)) rfl rfl
 have o:GW x (n.take t a ep) B v=[AM x.nb (ndC x.stb x.le n.id v.rg x.tk v.wv v.rv n.asked v.ms v.rp) 71,UQ x n.dk B,Yj x.le x.cb (n.take t a ep).lep (n.take t a ep).lend (n.take t a ep).ltop,rgA v.rg n.ring,tkA x.tk n.tlast n.toks,
   BF 223 7 v.wv n.waits.length (rows wtC n.waits),BF 138 5 v.rv n.reads.length (rows rdC n.reads),BF 175 21 v.ms v.mt.length (tc v.mt),WS v.mt,BF 43 6 v.rp n.reps.length (rows rpC n.reps)]:=by
  unfold Nd.take
  split<;>rfl
 have C:v.mt.map (·.m)=(n.take t a ep).msgs.map wmMs:=by
  unfold Nd.take
  split<;>exact A
 exact Yz (R:=AF x.cb t::R) v D C (by rw[o];exact p)
theorem Po (h:Sp (CJ x n B::R) w)(d:n.toks=[]):Calls Tryz.prog 195 #[pr x.tk 0] w fun y w'=>y=.returned (.int .i64 0)∧Keep [] w w':=by
 obtain⟨v,k,j,h⟩:=h.nd;obtain⟨F,g,m,B',f,hF,b,_,a,c⟩:=h.pre.at 4 rfl;refine Ns b (fun i=> ?_);by_cases e:0≤i
 ·have:=a i.toNat
  rw[d]at this;rw[show((i.toNat:Nat):Int)=i by omega]at this;simpa using this
 ·exact c i (by omega)
end
section
variable {R:List As} {w w':World} {x:NdP} {n:Nd} {B t:Nat} {v:NdV}
theorem JO (h:NdR w x n B v)(Y:IsClock w x.cb (t:Int))(key:Str)(hk:key.size≤1000):Calls Tryz.prog 20 #[pr x.nb 0,.string key] w fun e w'=>e=.returned (.bool (n.serves t key))∧Keep [] w w':=by
 have G:∀W,Keep [] w W→Hid (Calls Tryz.prog 38 #[Cu v.rg,.string key] W fun e w'=>e=.returned (.int .i64 (n.own key:Int))∧Keep [] W w'):=fun W k=>h_ (Yc (h.still k) key (by omega))
 have S:∀W,Keep [] w W→Hid (Calls Tryz.prog 22 #[pr x.kp 0] W fun e w'=>e=.returned (.agg #[.int .i64 (n.dk.boot:Int),.int .i64 (n.dk.epoch:Int),.int .i64 0,.bool false])∧Keep [] W w'):=fun W k=>h_ (G4 (h.still k))
 have Q:∀W,Keep [] w W→Hid (Calls Tryz.prog 39 #[pr x.le 0,.int .i64 (n.dk.epoch:Int)] W fun e w'=>e=.returned (.bool (n.good t))∧Keep [] W w'):=fun W k=>h_ (Xt (h.still k) (Y.keep k (by simp)))
 have ac:=h.stb;obtain⟨ah,O⟩:∃r,r=Cu v.rg:=⟨_,rfl⟩;have p:=h.blk;unfold ndC at p;rw[←O]at G p;have Z:=h.quiet.frozen
 have ad:n.serves t key=(decide (n.own key=n.id)&&n.good t):=by
  unfold Nd.serves;rw[Z];by_cases V:n.own key=n.id
  ·cases h2:n.good t<;>simp[V]
  ·simp[V]
 rw[ad];obtain⟨I,ab⟩:∃a,Cu v.rg=.pointer a:=⟨_,rfl⟩;rw[ab]at O;obtain⟨g,M⟩:∃g,g=n.good t:=⟨_,rfl⟩;rw[←M]at Q;obtain⟨own,N⟩:∃o,o=n.own key:=⟨_,rfl⟩;rw[←N]at G;subst O;have H:=h_2 p ac;rw[←M,←N];obtain⟨id,aa⟩:∃i,i=n.id:=⟨_,rfl⟩;rw[←aa]at H⊢;clear ad Z ab M N p ac h Y aa;by_cases D:own=id
 ·have q0:((own:Int) !=(id:Int))=false:=by simp[D]
  have E:(decide (own=id)&&g)=g:=by simp[D]
  rw[E];clear E D;go_enter Tryz.func20,Tryz.ntmps20;go_wp2_with fail;refine wK (A:=[0,1,3,7,15,31,63,7,255,7,519,1543,3591,8191,16383,32767,65535,131071,262143,524287,65535,1114111,3211263,7405567,15794175,32571391,66125823,133234687,267452415,536870911,1073741823,2147483647]) 0 [pr x.nb 0,.bool false,.bool false,pr x.nb 0,pr x.nb 0,pr x.nb 3,.pointer I,.string key,.int .i64 (own:Int),pr x.nb 0,pr x.nb 0,pr x.nb 2,.int .i64 (id:Int),.bool false,.bool false,.bool false,pr x.nb 0,pr x.nb 0,pr x.nb 1,pr x.le 0,pr x.nb 0,pr x.nb 0,pr x.nb 0,pr x.stb 0,pr x.stb 0,pr x.stb 2,pr x.kp 0,.agg #[.int .i64 (n.dk.boot:Int),.int .i64 (n.dk.epoch:Int),.int .i64 0,.bool false],.int .i64 (n.dk.epoch:Int),.bool g,.bool (!g),.bool (!g)] (fun _ W=>Keep [] w W) ?mstart (.s ?m0<|.s ?m1<|.s ?m2<|.s ?m3<|.s ?m4<|.s ?m5<|.s ?m6<|.s ?m7<|.s ?m8<|.s ?m9<|.s ?m10<|.s ?m11<|.s ?m12<|.s ?m13<|.s ?m14<|.s ?m15<|.s ?m16<|.s ?m17<|.s ?m18<|.s ?m19<|.s ?m20<|.s ?m21<|.s ?m22<|.s ?m23<|.s ?m24<|.s ?m25<|.s ?m26<|.s ?m27<|.s ?m28<|.s ?m29<|.s ?m30<|.s ?m31<|.nil) ?mfin
  case mstart=>exact(By _ _).drew
  case mfin=>
   intro L J c K;have F:=h_ c;have af:=S J c;have X:=H.out.2.keep c (by simp);have p:=H.out.1.keep c (by simp);clear c K;simp[Al,Act.put]
   cases g with
   |false=>simp only[Bool.not_false];go_wp2;go_ret;exact⟨rfl,F.out⟩
   |true=>have T:J.cell? ⟨x.nb,0,none⟩=some (pr x.stb 0):=p.cell 0;have U:J.cell? ⟨x.stb,2,none⟩=some (pr x.kp 0):=X.cell 2;clear p X;simp only[Bool.not_true];go_wp2_with fail;refine af.out.mono ?_;rintro e w8 ⟨rfl,k8⟩;have ae:=h_ k8;clear k8;have ag:=Xz (n.dk.boot:Int) (n.dk.epoch:Int);go_wp2;go_ret;exact⟨rfl,F.out.trans ae.out⟩
  all_goals intro L xv W c j q m C b y K' l;have d:=h_ c;have f:=H.out.1.keep c (by simp);have z:=H.out.2.keep c (by simp);have T:W.cell? ⟨x.nb,0,none⟩=some (pr x.stb 0):=f.cell 0;have d1:W.cell? ⟨x.nb,1,none⟩=some (pr x.le 0):=f.cell 1;have d2:W.cell? ⟨x.nb,2,none⟩=some (.int .i64 (id:Int)):=f.cell 2;have d3:W.cell? ⟨x.nb,3,none⟩=some (.pointer I):=f.cell 3;have U:W.cell? ⟨x.stb,2,none⟩=some (pr x.kp 0):=z.cell 2;clear f z c;simp at C;simp only[Al,Act.put,A8,A7,A6,C]at y;subst y
  case m8=>clear j q m;go_simp;refine(G W d.out).out.mono ?_;rintro e P ⟨rfl,u⟩;go_simp;exact l _ _ rfl (d.out.trans u)
  case m27=>clear j q m;go_simp;refine(S W d.out).out.mono ?_;rintro e P ⟨rfl,u⟩;go_simp;exact l _ _ rfl (d.out.trans u)
  case m29=>clear j q m;go_simp;refine(Q W d.out).out.mono ?_;rintro e P ⟨rfl,u⟩;go_simp;exact l _ _ rfl (d.out.trans u)
  all_goals clear j q m;go_simp;exact l _ _ rfl d.out
 ·have q0:((own:Int) !=(id:Int))=true:=by simp;omega
  have E:(decide (own=id)&&g)=false:=by simp[D]
  rw[E];clear E D;go_enter Tryz.func20,Tryz.ntmps20;go_wp2_with fail;refine wK (A:=[0,1,3,7,15,31,63,7,255,7,519,1543,3591,8191,16383,32767,65535,131071,262143,524287,65535,1114111,3211263,7405567,15794175,32571391,66125823,133234687,267452415,536870911,1073741823,2147483647]) 0 [pr x.nb 0,.bool false,.bool false,pr x.nb 0,pr x.nb 0,pr x.nb 3,.pointer I,.string key,.int .i64 (own:Int),pr x.nb 0,pr x.nb 0,pr x.nb 2,.int .i64 (id:Int),.bool true,.bool true,.bool true,undef,undef,undef,undef,undef,undef,undef,undef,undef,undef,undef,undef,undef,undef,undef,.bool true] (fun _ W=>Keep [] w W) ?bstart (.s ?b0<|.s ?b1<|.s ?b2<|.s ?b3<|.s ?b4<|.s ?b5<|.s ?b6<|.s ?b7<|.s ?b8<|.s ?b9<|.s ?b10<|.s ?b11<|.s ?b12<|.s ?b13<|.s ?b14<|.s ?b15<|.s ?b16<|.s ?b17<|.s ?b18<|.s ?b19<|.s ?b20<|.s ?b21<|.s ?b22<|.s ?b23<|.s ?b24<|.s ?b25<|.s ?b26<|.s ?b27<|.s ?b28<|.s ?b29<|.s ?b30<|.s ?b31<|.nil) ?bfin
  case bstart=>exact(By _ _).drew
  case bfin=>intro L J c K;have F:=h_ c;clear c K;simp[Al,Act.put];go_wp2;go_ret;exact⟨rfl,F.out⟩
  all_goals intro L xv W c j q m C b y K' l;have d:=h_ c;have f:=H.out.1.keep c (by simp);have z:=H.out.2.keep c (by simp);have T:W.cell? ⟨x.nb,0,none⟩=some (pr x.stb 0):=f.cell 0;have d1:W.cell? ⟨x.nb,1,none⟩=some (pr x.le 0):=f.cell 1;have d2:W.cell? ⟨x.nb,2,none⟩=some (.int .i64 (id:Int)):=f.cell 2;have d3:W.cell? ⟨x.nb,3,none⟩=some (.pointer I):=f.cell 3;have U:W.cell? ⟨x.stb,2,none⟩=some (pr x.kp 0):=z.cell 2;clear f z c;simp at C;simp only[Al,Act.put,A8,A7,A6,C]at y;subst y
  case b8=>clear j q m;go_simp;refine(G W d.out).out.mono ?_;rintro e P ⟨rfl,u⟩;go_simp;exact l _ _ rfl (d.out.trans u)
  all_goals clear j q m;go_simp;exact l _ _ rfl d.out
end
structure NdK (x:NdP) (W:World):Prop where
 c0:W.cell? ⟨x.nb,0,none⟩=some (.pointer (some ⟨x.stb,0,none⟩))
 c1:W.cell? ⟨x.nb,1,none⟩=some (.pointer (some ⟨x.le,0,none⟩))
 c4:W.cell? ⟨x.nb,4,none⟩=some (.pointer (some ⟨x.tk,0,none⟩))
 c7:W.cell? ⟨x.nb,7,none⟩=some (.map none)
 c8:W.cell? ⟨x.nb,8,none⟩=some (.map none)
 e0:W.cell? ⟨x.stb,0,none⟩=some (.pointer (some ⟨x.ca,0,none⟩))
 e2:W.cell? ⟨x.stb,2,none⟩=some (.pointer (some ⟨x.kp,0,none⟩))
section
variable {R:List As} {w w':World} {x:NdP} {n:Nd} {B t:Nat} {v:NdV}
theorem NdR.k (h:NdR w x n B v):NdK x w:=⟨h.blk.cell 0,h.blk.cell 1,h.blk.cell 4,h.blk.cell 7,h.blk.cell 8,h.stb.cell 0,h.stb.cell 2⟩
theorem Sp.ndK (h:Sp (CJ x n B::R) w):NdK x w:=by obtain⟨v,a⟩:=h.ndR;exact a.k
theorem NdK.still (h:NdK x w)(k:Keep [] w w'):NdK x w':=⟨k.cell1' h.c0,k.cell1' h.c1,k.cell1' h.c4,k.cell1' h.c7,k.cell1' h.c8,k.cell1' h.e0,k.cell1' h.e2⟩
theorem NdR.id (h:NdR w x n B v):w.cell? ⟨x.nb,2,none⟩=some (.int .i64 (n.id:Int)):=h.blk.cell 2
theorem NdR.ringc (h:NdR w x n B v):w.cell? ⟨x.nb,3,none⟩=some (Cu v.rg):=h.blk.cell 3
theorem Sp.noMsgs (h:Sp R w):Sp (Dp (.slice none 0 0) []::R) w:=
 h.new1 (G:=[]) (By _ _) ⟨[],rfl,[],[],rfl,⟨rfl,AY w 0 _ _⟩,⟨[],[],rfl,⟨by simp,by simp⟩,rfl,by simp⟩,by simp⟩ (by simp)
theorem Sp.msgsV {b:Value}{M:List Wm}(h:Sp (Dp b M::R) w):∃a c,b=.slice a M.length c:=by
 obtain⟨F,⟨L,d,g,i,_,⟨_,f⟩,_⟩,_⟩:=h.one;have e:L.length=M.length:=by have:=A3 List.length d;simpa using this
 rw[←e];exact A4 f
theorem Sp.repsV {rv:Value}{K:List Rp}(h:Sp (Dn rv K::R) w):∃a c,rv=.slice a K.length c:=A4 h.row
theorem Nd.say_nil (n:Nd):n.say []=n:=by unfold Nd.say;rw[Cy,AE]
theorem Sp.oneMsg (h:Sp R w)(m:Wm)(y:Tm)(a:y=FJ (wmMs m))(e:m.its=[])(f:m.mks=[])(g:m.mem=[])(i:m.old=[]):
  Sp (Dp (.slice (some ⟨w.heap.size,0,none⟩) 1 1) [m]::R) (w.alloc (.cells (Cm y).toArray 175)):=by
 have j:Blk (w.alloc (.cells (Cm y).toArray 175)) w.heap.size (Cm y) 175:=BY w _ _;have k:(w.alloc (.cells (Cm y).toArray 175)).ownsRow 0 175 21 (.slice (some ⟨w.heap.size,0,none⟩) 1 1) 1 (Cm y):=Yy (xs:=Cm y) (spare:=[]) (by simpa using j) rfl (Av _) rfl (by unfold maxLen;omega) (AA _);refine h.new1 (G:=[w.heap.size]++([]++[])) ((By _ _).alloc _) ⟨[y],by rw[a];rfl, ?_⟩ (by simp);refine J9.cons ⟨rfl,by simpa[tc]using k⟩ (J9.cons ⟨fun z d=> ?_,by simp⟩ (J9.nil _) (by simp)) (by simp);rw[Ah]at d;subst d;have b:z.m.mem=[]:=by rw[a];show(wmMs m).mem =[];unfold wmMs;rw[g];rfl
 have c:z.m.old=[]:=by rw[a];show(wmMs m).old =[];unfold wmMs;rw[i];rfl
 exact⟨by rw[b,a];exact Y6 _ 1,by rw[c,a];exact Y6 _ 1,by rw[a];show(wmMs m).its =[];unfold wmMs;rw[e];rfl,by rw[a];show(wmMs m).mks =[];unfold wmMs;rw[f];rfl,fun h=>by rw[b]at h;simp at h,fun h=>by rw[c]at h;simp at h⟩
theorem Sp.ndWaits0 (h:Sp (CJ x n B::R) w):w.frozen? ⟨x.nb,9,none⟩=false∧Sp (CJ x {n with waits:=[]} B::R) (w.setCell ⟨x.nb,9,none⟩ (.slice none 0 0)):=by
 obtain⟨v,a,d,h⟩:=h.nd;obtain⟨F,hF,e⟩:=Yq (l:=GW x n B v) (R:=R) h [0,5] [1,2,3,4,6,7,8,9] 10 rfl rfl;obtain⟨f,_,rfl,⟨rfl,b⟩,⟨g,_,rfl,⟨rfl,j⟩,rfl,_⟩,i⟩:=hF;refine⟨b.free 9, ?_⟩
 have c:=e [0,2,3,4,5,1,6,7,8,9] [AM x.nb (ndC x.stb x.le n.id v.rg x.tk (.slice none 0 0) v.rv n.asked v.ms v.rp) 71,BF 223 7 (.slice none 0 0) 0 []] (w.setCell ⟨x.nb,9,none⟩ (.slice none 0 0)) ([x.nb]++[])
  (J9.cons ⟨rfl,b.set 9 _⟩ (J9.single ⟨rfl,AY _ 0 _ _⟩) (by simp)) (Or (p:=⟨x.nb,9,none⟩) (By _ _) (.inl (by simp)) _) (fun q a=> .inl (by simp at a;simp[a])) rfl rfl
 exact Yz ⟨v.rg,.slice none 0 0,v.rv,v.ms,v.rp,v.mt⟩ (a.same rfl rfl rfl rfl rfl rfl rfl) d c
theorem Sp.ndSetRing {b ep:Nat}{mem:List Nat}(h:Sp (rgA (some b) (some (ep,mem))::CJ x n B::R) w):w.frozen? ⟨x.nb,3,none⟩=false∧Sp (CJ x {n with ring:=some (ep,mem)} B::R) (w.setCell ⟨x.nb,3,none⟩ (pr b 0)):=by
 obtain⟨v,a,c,h⟩:=(h.pull 1).nd;obtain⟨F,hF,m⟩:=Yq (l:=GW x n B v++[rgA (some b) (some (ep,mem))]) (R:=R) (by rw[Ax];exact h) [0,3,10] [1,2,4,5,6,7,8,9] 11 rfl rfl;obtain⟨o,_,rfl,⟨rfl,e⟩,⟨r,_,rfl,u,⟨g,_,rfl,k,rfl,_⟩,s⟩,d⟩:=hF;refine⟨e.free 3, ?_⟩;have f:Keep [x.nb] w (w.setCell ⟨x.nb,3,none⟩ (pr b 0)):=Or (p:=⟨x.nb,3,none⟩) (By _ _) (.inl (by simp)) _;have j:=(rgA (some b) (some (ep,mem))).keep k f (fun q a c=>d q a (by simp[c]))
 have i:=m [0,2,3,1,4,5,6,7,8,9] [AM x.nb (ndC x.stb x.le n.id (some b) x.tk v.wv v.rv n.asked v.ms v.rp) 71,rgA (some b) (some (ep,mem))] (w.setCell ⟨x.nb,3,none⟩ (pr b 0)) ([x.nb]++g)
  (J9.cons ⟨rfl,e.set 3 _⟩ (J9.single j) (fun q a c=>d q a (by simp[c]))) (f.mono (fun q a _=>by simp at a;simp[a])) (fun q a=> .inl (by simp at a⊢;rcases a with h|h<;>simp[h])) rfl rfl
 exact Yz ⟨some b,v.wv,v.rv,v.ms,v.rp,v.mt⟩ (a.same rfl rfl rfl rfl rfl rfl rfl) c i
end
def Es (t ep:Nat):Wm:={kind:=1,tick:=t,epoch:=ep}
def beatS (x:NdP)(n:Nd)(B t:Nat)(R:List As)(U:Nat→Bool)(X:Nat→Value)(W:World):Prop:=
 NdK x W∧(U 25=false→U 26=false→Sp (CJ x n B::AF x.cb t::R) W)∧(U 25=true→U 26=false→Sp (CJ x n B::Dp (X 25) [Es t n.dk.epoch]::AF x.cb t::R) W)∧
 (U 26=true→Sp (CJ x (n.say [Es t n.dk.epoch]) B::AF x.cb t::R) W)
theorem XL (n:Nd)(t:Nat)(c:n.Quiet)(g:n.waits=[]):n.beat t=(n.say [Es t n.dk.epoch]).did :=by
 unfold Nd.beat
 have d:({kind:=1,tick:=t,epoch:=n.dk.epoch,seq:=n.dk.ready}:Wm)=Es t n.dk.epoch:=by rw[c.ready];rfl
 have e:∀a,(n.say [Es t n.dk.epoch]).next a=n.say [Es t n.dk.epoch]:=fun a=>by unfold Nd.next Nd.outAt;have:(n.say [Es t n.dk.epoch]).outs =[]:=c.outs;rw[this];rfl
 rw[d];simp only[List.foldl_cons,List.foldl_nil,e];have b:(n.say [Es t n.dk.epoch]).waits =[]:=g;rw[b];simp only[List.foldl_nil,List.filter_nil]
 have f:({n.say [Es t n.dk.epoch]with waits:=[]}:Nd)=n.say [Es t n.dk.epoch]:=by rw[←b]
 rw[f]
section
variable {R:List As} {w w':World} {x:NdP} {n:Nd} {B t:Nat}
theorem Xu (h:Sp (CJ x n B::AF x.cb t::R) w)(E:n.waits=[])(hm:n.msgs.length<300):Calls Tryz.prog 91 #[pr x.nb 0] w fun e w'=>∃y z,e=.returned (.agg #[y,z])∧Sp (CJ x (n.beat t).1 B::Dp y (n.beat t).2.1 ::Dn z (n.beat t).2.2 ::AF x.cb t::R) w':=by
 have hq:n.Quiet:=by obtain⟨v,c⟩:=h.ndR;exact c.quiet
 rw[XL n t hq E];have N:=h_ (h.alloc [.slice none 0 0,.slice none 0 0] 69);have J:=h_2 E hm;obtain⟨i,T⟩:∃i,i=w.heap.size:=⟨_,rfl⟩;rw[←T]at N;clear h E hm hq;go_enter Tryz.func91,Tryz.ntmps91;go_wp2_with fail;rw[←T];clear T;obtain⟨K,Z⟩:∃K,K=w.alloc (.cells #[.slice none 0 0,.slice none 0 0] 69):=⟨_,rfl⟩;have H:Hid (Sp (AM i [.slice none 0 0,.slice none 0 0] 69::CJ x n B::AF x.cb t::R) K):=h_ (by rw[Z];exact N.out);rw[←Z];clear Z N;have H:Hid (Sp (CJ x n B::AF x.cb t::AM i [.slice none 0 0,.slice none 0 0] 69::R) K):=h_ (H.out.push 2);have ac:=h_ H.out.ndK;refine wM (A:=[0,0,2,6,14,30,0,64,192,448,960,1984,4032,8190,16382,0,32768,98304,229376,491520,1015808,2064384,4177918,8372222,16777214,33554430,67108863]) 100663296 [fun _=>pr x.nb 0,fun _=>pr x.nb 0,fun _=>pr x.nb 0,fun _=>pr x.nb 1,fun _=>pr x.le 0,fun _=> .int .i64 (t:Int),fun _=>pr x.nb 0,fun _=>pr x.nb 0,fun _=>pr x.nb 0,fun _=>pr x.stb 0,fun _=>pr x.stb 0,fun _=>pr x.stb 2,fun _=>pr x.kp 0,fun _=> .agg #[.int .i64 (n.dk.boot:Int),.int .i64 (n.dk.epoch:Int),.int .i64 0,.bool false],fun _=> .int .i64 (n.dk.epoch:Int),fun _=>pr x.nb 0,fun _=>pr x.nb 0,fun _=>pr x.nb 0,fun _=>pr x.stb 0,fun _=>pr x.stb 0,fun _=>pr x.stb 2,fun _=>pr x.kp 0,fun _=> .agg #[.int .i64 (n.dk.boot:Int),.int .i64 (n.dk.epoch:Int),.int .i64 0,.bool false],fun _=> .int .i64 0,fun _=> .agg (Cm (FJ (wmMs (Es t n.dk.epoch)))).toArray,fun _=>undef,fun _=>undef] (beatS x n B t (AM i [.slice none 0 0,.slice none 0 0] 69::R)) ?start (.s ?m0<|.s ?m1<|.s ?m2<|.s ?m3<|.s ?m4<|.s ?m5<|.s ?m6<|.s ?m7<|.s ?m8<|.s ?m9<|.s ?m10<|.s ?m11<|.s ?m12<|.s ?m13<|.s ?m14<|.s ?m15<|.s ?m16<|.s ?m17<|.s ?m18<|.s ?m19<|.s ?m20<|.s ?m21<|.s ?m22<|.s ?m23<|.s ?m24<|.t ?m25<|.t ?m26<|.nil) ?fin
 case start=>intro X;exact⟨ac.out.still (By _ _).drew,fun _ _=>H.out.drew,(fun h=>by cases h),(fun h=>by cases h)⟩
 case fin=>
  intro U X w7 b hd;have h7:=b.2.2.2 (hd 26 (by decide) (by decide));have H7:=h_ h7;clear b hd h7;simp[Al,Act.put,FK,Ab];clear ac H;have d7:=H7.out.ndK.c7;go_wp2_with fail;clear d7
  go_loopw [3] (fun s3 wr=>∃k:Nat,s3=.int .i64 ((k:Int)+1)∧k≤5∧Sp (CJ x (n.say [Es t n.dk.epoch]) B::AF x.cb t::AM i [.slice none 0 0,.slice none 0 0] 69::R) wr) (fun x _=>7-(intOf x).toNat)
  case atStart=>exact⟨0,rfl,by omega,H7.out⟩
  case round=>
  obtain⟨k,rfl,hk,V⟩:=hrel;have c7:=V.ndK.c7;have O:=h_ V;clear V;by_cases av:k<5
  ·have q0:(k:Int)+1≤5:=by omega
   have au:∀W:World,(Instr.lookup 62 (.map none) (.int .i64 ((k:Int)+1)) false).run Tryz.prog W=.ok (.pointer none) W:=fun W=>by first|rfl|simp[go_sem]
   go_wp2_with fail;refine R0.mono ?_;rintro e w2 ⟨rfl,rfl⟩;go_wp2_with fail;refine(VD (M:=[]) (O.out.noMsgs.push 1) (by have:=J.out.2;simp[Nd.say];omega)).mono ?_;rintro e L ⟨rfl,u⟩;rw[Nd.say_nil]at u;have H3:=h_ u;clear u;go_wp2
   go_roundw
   case rel=>exact⟨k+1,by go_num,by omega,H3.out⟩
   case measure=>simp only[intOf];omega
  ·have q0:¬(k:Int)+1≤5:=by omega
   obtain⟨v,c⟩:=O.out.ndR;have ab:=c.wt;have ai:(n.say [Es t n.dk.epoch]).waits =[]:=J.out.1;rw[ai]at ab;obtain⟨wa,wc,F⟩:=A4 ab
   have c9:wr.cell? ⟨x.nb,9,none⟩=some (.slice wa 0 wc):=by have:=c.blk.cell 9;rw[F]at this;exact this
   clear c ab ai F;go_wp2_with fail;clear c7 c9
   go_loopw [55,4] (fun ar s4 w2=>ar=.int .i64 0∧s4=.slice none 0 0∧Sp (CJ x (n.say [Es t n.dk.epoch]) B::AF x.cb t::AM i [.slice none 0 0,.slice none 0 0] 69::R) w2) (fun _ _ _=>0)
   case atStart=>exact⟨rfl,rfl,O.out⟩
   case round=>
   obtain⟨rfl,rfl,Y⟩:=hrel;obtain⟨f9,S⟩:=Y.ndWaits0;obtain⟨v2,ah⟩:=Y.ndR;have c9:=ah.blk.cell 9
   have F:({n.say [Es t n.dk.epoch]with waits:=[]}:Nd)=n.say [Es t n.dk.epoch]:=by have E:(n.say [Es t n.dk.epoch]).waits =[]:=J.out.1;rw[←E]
   rw[F]at S;have H9:=h_ S;have al:wr.cell? ⟨x.nb,9,none⟩=some v2.wv:=c9;clear S F ah c9 Y;go_wp2_with fail;obtain⟨w9,aa⟩:∃w9,w9=wr.setCell ⟨x.nb,9,none⟩ (.slice none 0 0):=⟨_,rfl⟩;rw[←aa];have ak:Hid (Sp (CJ x (n.say [Es t n.dk.epoch]) B::AF x.cb t::AM i [.slice none 0 0,.slice none 0 0] 69::R) w9):=h_ (by rw[aa];exact H9.out);clear aa al f9 H9;go_wp2_with fail;refine(Lu ak.out).mono ?_;rintro e aw ⟨y,z,rfl,ae⟩;have I:=h_ ae;clear ae;have ap:=(I.out.pull 4).blk;obtain⟨ma,mc,af⟩:=(I.out.pull 1).msgsV;obtain⟨ra,rc,ag⟩:=(I.out.pull 2).repsV;have ad:=h_2 af ag;clear af ag
   go_wp2_with (refine AS rfl _ _ _ rfl i [.slice none 0 0,.slice none 0 0] [y,z] 69 rfl rfl ap rfl Ys (by intro v c;simp at c;rcases c with h|h;(rw[h,ad.out.1];rfl);(rw[h,ad.out.2];rfl)) ?_;intro ax Q aq)
   have an:=((I.out.pull 4).set Q aq);refine Be (v:= .agg #[y,z]) ?_ rfl ⟨y,z,rfl, ?_⟩
   ·have q:=Q.cell 0
    have r:=Q.cell 1;simp only[List.getElem?_cons_zero,List.getElem?_cons_succ]at q r;simp[results,Tryz.results91,go_sem,q,r]
   ·exact an.drop
 case' m25|m26=>intro U X xv W b hl l j D o a B C K' m;have f:=h_ b;have q:=b.1.c0;have r:=b.1.c1;have P:=b.1.e2;clear b;simp[mV,mY,Ab]at D;simp only[Al,Act.put,A8,A7,A6,D]at C;subst C
 case m25=>have g:U 26=false:=a 26 (by decide);clear l j o a q r P;have d:=f.out.2.1 hl g;refine GX rfl (.tmp 34) rfl (FJ (wmMs (Es t n.dk.epoch))) (by rfl) ?_;have h2:=d.oneMsg (Es t n.dk.epoch) _ rfl rfl rfl rfl rfl;have kk:Keep [] W (W.alloc (.cells (Cm (FJ (wmMs (Es t n.dk.epoch)))).toArray 175)):=(By _ _).alloc _;refine m _ _ _ rfl ⟨f.out.1.still kk,fun h=>by simp[upd]at h,fun _ _=> ?_,fun h=>by simp[upd,g]at h⟩;rw[Bh];exact h2.push 1
 case m26=>have aj:U 25=true:=j 25 (by decide);have am:=l 25 aj;clear l j o a q r P;have d:=f.out.2.2.1 aj hl;rw[am]at d;go_simp;refine(VD d (by have:=J.out.2;simp;omega)).mono ?_;rintro e L ⟨rfl,u⟩;go_simp;exact m _ _ _ rfl ⟨u.ndK,fun _ h=>by simp[upd]at h,fun _ h=>by simp[upd]at h,fun _=>u⟩
 all_goals intro U X xv W b l j D o a B C K' m;have f:=h_ b;have q:=b.1.c0;have r:=b.1.c1;have P:=b.1.e2;clear b;simp[mV,mY,Ab]at D;simp only[Al,Act.put,A8,A7,A6,D]at C;subst C
 case m5=>have p:U 25=false:=a 25 (by decide);have g:U 26=false:=a 26 (by decide);clear l j o a;have d:=f.out.2.1 p g;obtain⟨v,c⟩:=d.ndR;have ao:=(d.pull 1).clock;go_simp;refine(XN c.le ao).mono ?_;rintro e L ⟨rfl,rfl⟩;go_simp;exact m _ _ _ rfl rfl f.out
 case m13=>have p:U 25=false:=a 25 (by decide);have g:U 26=false:=a 26 (by decide);clear l j o a;have d:=f.out.2.1 p g;obtain⟨v,c⟩:=d.ndR;go_simp;refine(G4 c).mono ?_;rintro e L ⟨rfl,G⟩;go_simp;exact m _ _ _ rfl rfl ⟨f.out.1.still G,fun _ _=>d.still G,fun h=>absurd h (by rw[p];decide),fun h=>absurd h (by rw[g];decide)⟩
 case m22=>have p:U 25=false:=a 25 (by decide);have g:U 26=false:=a 26 (by decide);clear l j o a;have d:=f.out.2.1 p g;obtain⟨v,c⟩:=d.ndR;go_simp;refine(G4 c).mono ?_;rintro e L ⟨rfl,G⟩;go_simp;exact m _ _ _ rfl rfl ⟨f.out.1.still G,fun _ _=>d.still G,fun h=>absurd h (by rw[p];decide),fun h=>absurd h (by rw[g];decide)⟩
 all_goals clear l j o a;go_simp;exact m _ _ _ rfl rfl f.out
end
section
variable {w w':World} {B cb lb xb xg d frm segs t cnt used:Nat} {vl:Value} {l:List Sg} {L:List Sec} {T:Tab} {R:List (Nat×FR)}
theorem PR (h:FlOk w B cb lb xb xg d frm segs t vl l L T cnt used R)(a:∀k,rpF R k=none):Calls Tryz.prog 236 #[pr cb 0] w fun e w'=>e=.returned (.slice none 0 0)∧Keep [] w w':=by
 have c1:=h.blk.cell 1
 have b:=h_ (PB h.idx (fun x g=>by
  cases c:x.has with
  |false=>rfl
  |true=>
   obtain⟨i,f⟩:=Bf g;have:=(h.says x.key x.pos).1 (Fn.2 ⟨i,x,f,c,rfl,rfl⟩);rw[a]at this
   cases this))
 clear h a;go_enter Tryz.func236,Tryz.ntmps236;go_wp2_with fail;refine b.out.mono ?_;rintro e m ⟨rfl,j⟩;go_wp2;go_ret;exact⟨rfl,j⟩
end
section
variable {R:List As} {w w':World} {x:NdP} {n:Nd} {B t:Nat} {v:NdV}
theorem VE (h:NdR w x n B v)(b:n.dk.cache=[]):Calls Tryz.prog 236 #[pr x.ca 0] w fun e w'=>e=.returned (.slice none 0 0)∧Keep [] w w':=by
 obtain⟨L,c,t,M,Q,y,a⟩:=h.st;rw[←a.ca];refine PR a.at_.fl (fun k=> ?_);have:=a.cache.at_ k;rw[b]at this
 cases f:rpF Q k with
 |none=>rfl
 |some p=>rw[f]at this;cases this
theorem TZ (h:Sp (CJ x n B::R) w)(b:n.dk.cache=[])(i:Value):Calls Tryz.prog 192 #[pr x.nb 0,i] w fun e w'=>e=.returned (.tuple #[])∧Keep [] w w':=by
 obtain⟨v,a⟩:=h.ndR;have f:=a.k.c0;have g:=a.k.e0;have c:=h_ (VE a b);clear h b a;go_enter Tryz.func192,Tryz.ntmps192;go_wp2_with fail;refine c.out.mono ?_;rintro e p ⟨rfl,j⟩;clear f g;go_wp2
 go_loopw [16,4] (fun m o wr=>m=.int .i64 0∧o=.slice none 0 0∧wr=p) (fun _ _ _=>0)
 case atStart=>exact⟨rfl,rfl,rfl⟩
 case round=>
 obtain⟨rfl,rfl,rfl⟩:=hrel;go_wp2
 go_end0
 exact⟨rfl,j⟩
theorem Pp (h:Sp (CJ x n B::R) w)(g:n.dk.cache=[])(i:n.ring≠none):Calls Tryz.prog 200 #[pr x.nb 0] w fun e w'=>e=.returned (.tuple #[])∧Keep [] w w':=by
 obtain⟨v,c⟩:=h.ndR;have f:Blk (w.alloc (.cells #[pr x.nb 0] 46)) w.heap.size [pr x.nb 0] 46:=BY w _ _;have b:Keep [] w (w.alloc (.cells #[pr x.nb 0] 46)):=(By _ _).alloc _;have k:=c.still b
 obtain⟨a,j⟩:∃a,v.rg=some a:=by
  cases q:v.rg with
  |none=>exact absurd ((EF c).1 q) i
  |some a=>exact⟨a,rfl⟩
 have c3:=k.ringc;rw[j]at c3;have s:(w.alloc (.cells #[pr x.nb 0] 46)).cell? ⟨x.nb,3,none⟩=some (pr a 0):=c3;have u:(w.alloc (.cells #[pr x.nb 0] 46)).cell? ⟨w.heap.size,0,none⟩=some (pr x.nb 0):=f.cell 0;have m:=fun p=>h_ (TZ (h.still b) g p)
 have o:=h_ b;clear h g i c f b k j c3;go_enter Tryz.func200,Tryz.ntmps200;go_wp2_with fail;refine(m _).out.mono ?_;rintro e y ⟨rfl,r⟩;go_wp2
 go_end0
 exact⟨rfl,o.out.trans r⟩
theorem TY (h:Sp (CJ x n B::R) w):Calls Tryz.prog 199 #[pr x.nb 0] w fun e w'=>e=.returned (.tuple #[])∧Sp (CJ x n B::R) w':=by obtain⟨v,a,g,h⟩:=h.nd;obtain⟨F,hF,i⟩:=Yq (l:=GW x n B v) (R:=R) h [0] [1,2,3,4,5,6,7,8,9] 10 rfl rfl;obtain⟨j,_,rfl,⟨rfl,c⟩,rfl,_⟩:=hF;refine(Px c).mono ?_;rintro e w' ⟨rfl,f,k⟩;have b:=i [0,1,2,3,4,5,6,7,8,9] [AM x.nb (ndC x.stb x.le n.id v.rg x.tk v.wv v.rv n.asked v.ms v.rp) 71] w' [x.nb] (J9.single ⟨rfl,f⟩) k (fun q a=> .inl a) rfl rfl;exact⟨rfl,Yz v a g b⟩
end
end Go.Proofs.YtnhbioehiiifdaaGreat
