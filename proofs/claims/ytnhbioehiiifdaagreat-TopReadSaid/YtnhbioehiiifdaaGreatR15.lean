import Derived.Test.YtnhbioehiiifdaaGreatR11
import Derived.Test.YtnhbioehiiifdaaGreatR12
import Derived.Test.YtnhbioehiiifdaaGreatR13
import Derived.Shelf.SlSortCmp.WholeK
set_option maxRecDepth 100000
set_option maxHeartbeats 16000000
set_option linter.all false
namespace Go.Proofs.YtnhbioehiiifdaaGreat
open Go.ChangeShapes Go.WideShapes Go.ChangeAt Go.RowKit
open Go.Shelf Go.Lib Go.Sort
theorem Ra (w:World)(blk cap:Nat)(d:Array (Nat×Nat))(f:HoldsK Kc 2 w blk 0 d)(g:blk<w.heap.size)(h:d.size<4611686018427387904):
  Calls Tryz.prog 264 #[.slice (some ⟨blk,0,none⟩) d.size cap,.func (.func 265) #[] #[]] w fun e i=>e=.returned (.tuple #[])∧∃a n c,PermIn 0 d.size d a∧SortedIn (ltOf Jv) 0 d.size a∧i=sortWorldK Kc 2 w blk 0 n a c:=
 AnyQ.slices_SortFunc Tryz.sortPt 2 Tryz.isAgg168 Tryz.sizeOf168 Kc (fun _=>rfl) (by intro x v b;simp[Kc]at b;rcases b with rfl|rfl<;>rfl) Jv TM 265 #[] blk 0 cap d w
  (by intro j w;rfl) (fun m c k _ x y=>Rb x y _) f g h
end Go.Proofs.YtnhbioehiiifdaaGreat
namespace Go.Proofs.YtnhbioehiiifdaaGreat
open Go.ChangeShapes Go.WideShapes Go.ChangeAt Go.RowKit
def pc:List (Nat×Nat)→List Value
 |[]=>[]
 |x::l=>Kc x++pc l
theorem TP (l m:List (Nat×Nat)):pc (l++m)=pc l++pc m:=by
 induction l with
 |nil=>rfl
 |cons x l ih=>simp[pc,ih,Ax]
theorem XZ:∀(l:List (Nat×Nat)) (i:Nat) (a:Nat×Nat),l[i]?=some a→(pc l)[i*2]?=some (.int .u64 (a.1:Int))∧(pc l)[i*2+1]?=some (.int .i64 (a.2:Int))
 |[],i,a,h=>by simp at h
 |x::l,0,a,h=>by simp at h;subst h;simp[pc,Kc]
 |x::l,i+1,a,h=>by
  have:=XZ l i a (by simpa using h);have e:(i+1)*2=i*2+1+1:=by omega
  rw[e];simpa[pc,Kc]using this
def QA (w:World)(base:Nat)(v:Value)(l:List (Nat×Nat)):Prop:=w.ownsRow base 168 2 v l.length (pc l)
theorem QA.snoc {b:World}{base:Nat}{a:Value}{l:List (Nat×Nat)}{y:Nat×Nat}(h:b.ownsRow base 168 2 a (l.length+1) (pc l++Kc y)):QA b base a (l++[y]):=by unfold QA;rw[TP,Aj];simpa[pc]using h
theorem src_pt {P:Program}{t e:TypeId}(d:P.underlying t=some (.slice e))(w:World)(b:Nat)(y:Nat×Nat)(h:Blk w b (Kc y) 168):
  Src P 2 t (.slice (some ⟨b,0,none⟩) 1 1) 1 (Kc y) w:=by
 refine CC _ d ⟨b,0,none⟩ 1 1 (Kc y) rfl ?_ (by intro v a;simp[Kc]at a;rcases a with rfl|rfl<;>rfl);intro j x f;rw[show(⟨b,0,none⟩:Addr).add j=⟨b,j,none⟩ by by_cases c:j=0<;>simp[Addr.add,c],h.cell];exact f
theorem Tryz.infoPt:(Tryz.prog.info? 168).map (fun i=>(i.zero,i.size,i.bytes))=some (some (.agg #[.int .u64 0,.int .i64 0]),2,16):=by kernel_rfl
def Mp (n i:Nat):List (Nat×Nat):=(List.range i).map (fun i=>(MM n i,n))
theorem TI (n i:Nat):Mp n (i+1)=Mp n i++[(MM n i,n)]:=by unfold Mp;rw[Ft,AL];rfl
theorem OS (n i:Nat):(Mp n i).length =i:=by simp[Mp]
theorem OX (m:List Nat)(n:Nat):Dd (m++[n])=Dd m++Mp n 8:=by unfold Dd Mp;simp
theorem G7 (m:List Nat):(Dd m).length =m.length*8:=by
 induction m with
 |nil=>rfl
 |cons n m ih=>
  have:(Dd (n::m)).length =8+(Dd m).length :=by unfold Dd;simp
  rw[this,ih,List.length_cons];omega
open Go.Shelf Go.Sort in
theorem TK {wr:World}{g cap:Nat}{L:List (Nat×Nat)}(n:Nat)(h:Array Obj)(b:Array (Nat×Nat))(v:HoldsK Kc 2 wr g 0 L.toArray)(q:g<wr.heap.size)(y:PermIn 0 L.toArray.size L.toArray b)(z:SortedIn (ltOf Jv) 0 L.toArray.size b):
  PtR (sortWorldK Kc 2 wr g 0 n b h) (.slice (some ⟨g,0,none⟩) L.length cap) b.toList∧b.toList.Perm L∧KD b.toList∧Keep [g] wr (sortWorldK Kc 2 wr g 0 n b h):=by
 obtain⟨m,_,o⟩:=y;have s:b.size=L.length:=by simpa using m
 have p:HoldsK Kc 2 (sortWorldK Kc 2 wr g 0 n b h) g 0 b:=by
  unfold sortWorldK;refine holdsK_grow (enc:=Kc) (k:=2) _ _ _ _ _ ?_ ?_
  ·simpa[putRowK,putRow,mapBlock,Sort.ahead]using q
  ·exact holdsK_putRowK (enc:=Kc) (k:=2) _ _ _ _ _ (by exact v) m
 have f:Keep [g] wr (sortWorldK Kc 2 wr g 0 n b h):=by
  unfold sortWorldK putRowK;refine⟨rfl,rfl,rfl,by simp[putRow,mapBlock,Sort.ahead],fun k f x=> ?_⟩;rw[heap_grow_old _ _ (by simpa[putRow,mapBlock,Sort.ahead]using f)];have:g≠k:=fun e=>x (by simp[e])
  simp[putRow,mapBlock,Sort.ahead,Array.getElem?_modify,this]
 refine⟨⟨g,cap,by rw[Array.length_toList];simp[s],AW q f.size,fun i a d=> ?_⟩, ?_, ?_,f⟩
 ·have c:i<b.size:=by
   have:=(Ai.1 d).1;simpa using this
  have e:b[i]! =a:=by rw[getElem!_pos b i c];rw[CV]at d;rw[Array.getElem?_eq_getElem c]at d;injection d
  have l:=(p.cell c (show 0<2 by decide)).1;have c1:=(p.cell c (show 1<2 by decide)).1;rw[e]at l c1;exact⟨by simpa[Kc]using l,by simpa[Kc]using c1⟩
 ·have t:(L.toArray.extract 0 L.toArray.size).toList =L:=by simp
  have u:(b.extract 0 L.toArray.size).toList =b.toList:=by rw[show L.toArray.size=b.size by simp[s]];simp
  rw[t,u]at o;exact o
 ·unfold KD
  rw[DB];intro i j c r w;have:=z i j (AA _) w (by simp at r⊢;omega);rw[Ju,getElem!_pos b i (by simpa using c),getElem!_pos b j (by simpa using r)]at this;simpa using this
open Go.Shelf Go.Sort in
theorem Vy {w:World}{base:Nat}{v:Value}{L:List (Nat×Nat)}(h:QA w base v L)(p:0<L.length):∃g cap,v=.slice (some ⟨g,0,none⟩) L.length cap∧HoldsK Kc 2 w g 0 L.toArray∧g<w.heap.size∧base≤g:=by
 obtain⟨g,cap,spare,rfl,_,o,b,_,_⟩:=E4 h p;refine⟨g,cap,rfl,fun j c=> ?_,b.lt,o⟩;rw[size_flatK]at c;rw[get_flatK _ _ _ _ c,AP];refine⟨?_,b.free j⟩;rw[b.cell];have k:j/2<L.length:=by simp at c;omega
 obtain⟨m,n⟩:=XZ L (j/2) L[j/2] (Ad k);have e:L.toArray[j/2]! =L[j/2]:=by rw[getElem!_pos L.toArray _ (by simpa using k)];simp
 rw[e];have l:∀t,t<(pc L).length →(pc L++spare)[t]?=(pc L)[t]?:=fun t q=>AK q
 rcases Nat.mod_two_eq_zero_or_one j with d|d
 ·have a:j=j/2*2:=by omega
  have:(pc L)[j]?=some (.int .u64 (L[j/2].1 :Int)):=by have f:=m;rw[←a]at f;exact f
  rw[l j (Ai.1 this).1,this,d];rfl
 ·have a:j=j/2*2+1:=by omega
  have:(pc L)[j]?=some (.int .i64 (L[j/2].2 :Int)):=by have i:=n;rw[←a]at i;exact i
  rw[l j (Ai.1 this).1,this,d];rfl
theorem XU {w:World}(aa:Value)(mem:List Nat)(h:Rv w 1 aa (mem.map Int.ofNat).length (ints (mem.map Int.ofNat)))(f:nodesOk (mem.map Int.ofNat)=true)(a9:mem.length≤5)(p:∀n∈mem,n≤1000):
  Calls Tryz.prog 235 #[aa] w fun e E=>∃v,e=.returned v∧PtR E v (ptsOf mem)∧Keep [] w E∧(∀b,v.ownBlock=some b→w.heap.size≤b):=by
 have HB:=h_ p
 have ao:0<mem.length:=by unfold nodesOk at f;rw[Ar,A0]at f;simpa using f.1
 have a6:∀(W:World) (a b:Nat),(Instr.build 168 #[(0,.int .u64 (a:Int)),(1,.int .i64 (b:Int))]).run Tryz.prog W=.ok (.agg #[.int .u64 (a:Int),.int .i64 (b:Int)]) W:=fun W a b=>DD W _ _ _ (by rfl)
 obtain⟨i0,hi,bb,bc,bd⟩:=AU Tryz.infoPt;obtain⟨l,r⟩:∃l,l=mem.map Int.ofNat:=⟨_,rfl⟩;have y:l.length=mem.length:=by rw[r];simp
 rw[←r]at h f;have HM:=h_ (Dr aa _ h (by omega) true f.symm);obtain⟨c,t⟩:∃c,c=l.length:=⟨_,rfl⟩
 have s:∀(j n:Nat),mem[j]?=some n→l.getD j 0=(n:Int):=fun j n hj=>by rw[r,Af,AN,hj];rfl
 have ax:=h_ h;obtain⟨_,a,cap,rfl,_,_⟩:=id h;rw[←t]at HM⊢;have d:=h_4 r t y s;have bg:c≤5:=by omega
 have a0:=h_ ao;clear f p r y s h t a9 ao;obtain⟨LL,N⟩:∃LL,LL=ptsOf mem:=⟨_,rfl⟩;rw[←N];have az:=h_ N;clear N;go_enter Tryz.func235,Tryz.ntmps235;go_wp2_with fail;refine HM.out.mono ?_;rintro e w1 ⟨rfl,rfl⟩;go_wp2
 go_loopw [3,12] (fun ab i wr=>∃(j:Nat),i=.int .i64 (j:Int)∧j≤c∧QA wr w.heap.size ab (Dd (mem.take j))∧Keep [] w wr) (fun _ i _=>c-(intOf i).toNat)
 case atStart=>exact⟨0,rfl,by omega,AY w _ _ 2,By _ _⟩
 case round=>
  obtain⟨j,rfl,hj,o,m⟩:=hrel;by_cases an:j<c
  ·have q0:(j:Int)<(c:Int):=by omega
   obtain⟨sb,so,c',he,_,_,ak⟩:=ax.out.at1 (by have:=d.out.2.1;omega);simp only[Bn]at he;obtain⟨rfl,_,rfl⟩:=he;obtain⟨a8,t,y,s⟩:=d.out;obtain⟨n,z⟩:∃n,mem[j]?=some n:=⟨_,Ad (by omega)⟩;have S:=ak j (by omega);rw[Hm _ _ (by omega),s j n z]at S;have a7:=m.cell1' S;have ba:=HB.out n (Aq z);have av:mem.take (j+1)=mem.take j++[n]:=by rw[BH,z];rfl
   obtain⟨a5,F⟩:=i_2 av m;have U:(Dd (mem.take j)).length =j*8:=by rw[G7,Az,BZ (by omega)]
   obtain⟨P,Q⟩:∃P,P=Dd (mem.take j):=⟨_,rfl⟩;rw[←Q]at o U;have H:=h_ o;have HP:=h_2 Q U;clear ak S a8 t y s z av m o Q U;go_wp2_with fail;clear a7
   go_loopw [3,16] (fun ab i w2=>∃(k:Nat),i=.int .i64 (k:Int)∧k≤8∧QA w2 w.heap.size ab (P++Mp n k)∧Keep [] w w2) (fun _ i _=>8-(intOf i).toNat)
   case atStart=>exact⟨0,rfl,by omega,by simpa[Mp]using H.out,F.out⟩
   case round=>
    obtain⟨k,rfl,hk,aj,ai⟩:=hrel;obtain⟨ac,G⟩:=i_2 aj ai;clear aj ai;by_cases bf:k<8
    ·have q1:(k:Int)<8:=by omega
     have ae:∀W,Hid (Calls Tryz.prog 263 #[.int .i64 (n:Int),.int .i64 (k:Int)] W fun e E=>e=.returned (.int .u64 (MM n k:Int))∧E=W):=fun W=>h_ (UG n k ba (by omega))
     obtain⟨pt,X⟩:∃pt,pt=MM n k:=⟨_,rfl⟩;have a3:=h_ X;rw[←X]at ae;clear X;have A:=ac.out;unfold QA at A;have am:Blk (wr.alloc (.cells (Kc (pt,n)).toArray 168)) wr.heap.size (Kc (pt,n)) 168:=BY wr _ _;have kb:Keep [] wr (wr.alloc (.cells (Kc (pt,n)).toArray 168)):=(By _ _).alloc _;have O:=Do A kb (by simp);have au:=src_pt (P:=Tryz.prog) Tryz.underlying164 _ _ (pt,n) am;obtain⟨oa,oc,rfl⟩:=A4 A;obtain⟨C,B⟩:∃C,C=(P++Mp n k).length :=⟨_,rfl⟩;rw[←B]at O⊢;have ap:C≤100:=by rw[B,Aj,HP.out.2,OS];omega
     have u:w.heap.size≤wr.heap.size:=G.out.size;obtain⟨ad,a4,a2,ay⟩:=i_4 O au B kb;have J:=h_2 ap u;clear O au B kb am A ap u;have be:=a6 wr pt n
     go_wp2_with (first|(refine(ae wr).out.mono ?_;rintro e w2 ⟨rfl,rfl⟩)|(at_builtin;refine Bl _ rfl _ _ 164 164 rfl w.heap.size 168 i0 _ 2 16 Tryz.underlying164 hi bb bc bd rfl (by decide) _ C _ rfl ad.out _ 1 _ rfl a4.out (by have:=J.out.1;unfold maxLen;omega) (by have:=J.out.1;omega) (by simp;have:=J.out.2;omega) ?_;intro v1 w3 L h3 _ h4))
     have kg:=DJ h3;rw[a2.out]at L;have ah:=QA.snoc L;rw[Ax,a3.out,←TI]at ah
     have kk:Keep [] w w3:=((G.out.trans ay.out).then kg (fun q Y an=>by have:=(B3 ad.out) q (Ae.1 Y);omega))
     go_roundw
     case rel=>exact⟨k+1,by first|rfl|go_num,by omega,ah,kk⟩
     case measure=>simp only[intOf];omega
    ·obtain rfl:k=8:=by omega
     have q1:¬((8:Nat):Int)<8:=by omega
     have a1:=h_ (show QA _ _ _ (Dd (mem.take (j+1)))from by have:=ac.out;rw[a5.out,OX,←HP.out.1];exact this)
     go_wp2
     go_roundw
     case rel=>exact⟨j+1,by first|rfl|go_num,by omega,a1.out,G.out⟩
     case measure=>simp only[intOf];omega
  ·obtain rfl:j=c:=by omega
   have q0:¬(j:Int)<(j:Int):=by omega
   have H:=h_ (show QA _ _ _ (Dd mem)from by have:=o;rw[Ba (by have:=d.out.2.1;have:=d.out.2.2.1;omega)]at this;exact this)
   have F:=h_ m;clear o m;go_wp2_with fail;obtain⟨g,ag,rfl,M,T,al⟩:=Vy H.out (by rw[G7];have:=a0.out;omega)
   have u:(Dd mem).toArray.size <4611686018427387904:=by
    have h1:=d.out.2.1;have L:=d.out.2.2.1;have:(Dd mem).toArray.size =mem.length*8:=by simp[G7]
    omega
   have R:=Ra wr g ag (Dd mem).toArray M T u;have e:(Dd mem).toArray.size =(Dd mem).length :=by simp
   rw[e]at R;have HS:=h_ R;have x:=h_3 M T al;clear R M u e T al;obtain⟨rl,Z⟩:∃rl,rl=(Dd mem).length :=⟨_,rfl⟩;rw[←Z]at HS⊢;have af:=h_ Z;clear Z;refine HS.out.mono ?_;rintro e w3 ⟨rfl,K,n,os,V,hs,aw⟩;rw[af.out]at V hs;have aq:Sort.PermIn 0 (Dd mem).toArray.size (Dd mem).toArray K:=by simpa using V
   have ar:Sort.SortedIn (ltOf Jv) 0 (Dd mem).toArray.size K:=by simpa using hs
   obtain⟨D,r2,r3,r4⟩:=TK (cap:=ag) n os K x.out.1 x.out.2.1 aq ar;rw[Vx r2 r3,←az.out]at D;rw[←aw]at D r4
   have I:=h_ (Aa D (F.out.then r4 (fun q Y an=>by have:=x.out.2.2;simp at Y;omega)))
   clear V hs aq ar aw D r2 r3 r4;rw[←af.out]at I;go_wp2;go_ret;exact⟨_,rfl,I.out.1,I.out.2,fun b p=>by simp[Value.ownBlock]at p;rw[←p];exact x.out.2.2⟩
section
variable {w w':World} {rb ep:Nat} {mem:List Nat} {v1 v2:Value}
def Xj (rb:Nat)(v1 v2:Value):List Nat:=rb::(v1.ownBlock.toList++v2.ownBlock.toList)
theorem RingAt.keep {S:List Nat}(h:RingAt w rb ep mem v1 v2)(k:Keep S w w')(c:∀q∈S,q∉Xj rb v1 v2):RingAt w' rb ep mem v1 v2:=
 ⟨h.blk.keep k (fun a=>c rb a (by simp[Xj])),h.nodes.keep k (fun b d _ a=>c b a (by simp[Xj,d])),h.pts.keep k (fun b d a=>c b a (by simp[Xj,d]))⟩
theorem RingAt.still (h:RingAt w rb ep mem v1 v2)(k:Keep [] w w'):RingAt w' rb ep mem v1 v2:=h.keep k (by simp)
theorem TD (f:Value)(mem:List Nat)(ep:Nat)(h:Rv w 1 f (mem.map Int.ofNat).length (ints (mem.map Int.ofNat)))(r:nodesOk (mem.map Int.ofNat)=true)(E:mem.length≤5)(x:∀n∈mem,n≤1000)(G:1≤ep∧ep≤1099511627776):
  Calls Tryz.prog 191 #[.int .i64 (ep:Int),f] w fun e w'=>∃rb v1 v2,e=.returned (pr rb 0)∧RingAt w' rb ep mem v1 v2∧Keep [] w w'∧∀q∈Xj rb v1 v2,w.heap.size≤q:=by
 have B:=h_ (Dr f _ h (by simp;omega) true r.symm);have A:=h_ (Ji f _ h (by simp;omega));have F:=h_ h;have C:Hid (∀W,Keep [] w W→Calls Tryz.prog 235 #[f] W fun e w'=>∃v,e=.returned v∧PtR w' v (ptsOf mem)∧Keep [] W w'∧(∀b,v.ownBlock=some b→W.heap.size≤b)):=h_ (fun W D=>XU f mem (h.keep D (by simp)) r E x);have J:¬(ep:Int)<1:=by omega
 have K:¬(1099511627776:Int)<(ep:Int):=by omega
 clear h r x;go_enter Tryz.func191,Tryz.ntmps191
 go_wp2_with (first|(refine B.out.mono ?_;rintro e y ⟨rfl,rfl⟩)|fail)
 refine A.out.mono ?_;rintro e y ⟨v1,rfl,p,i⟩;have g:=p.irv;have m:=p.lt;simp only[AD]at g;have o:=h_3 g m i;clear g m p i;go_wp2_with fail;refine(C.out y o.out.2.2).mono ?_;rintro e t ⟨v2,rfl,j,d,l⟩;have z:=h_3 j d l
 obtain⟨k,c1,rfl⟩:∃k c1,v1=.slice k mem.length c1:=by obtain⟨_,a,cap,rfl,_,_⟩:=o.out.1;exact⟨_,_,rfl⟩
 obtain⟨u,c2,rfl,_,_⟩:=id j;clear j d l;go_wp2;go_ret;obtain⟨g,m,i⟩:=o.out;obtain⟨j,d,l⟩:=z.out;have s:Keep [] t (t.alloc (.cells #[.int .i64 (ep:Int),.slice k mem.length c1,.slice (some ⟨u,0,none⟩) (ptsOf mem).length c2] 166)):=(By _ _).alloc _;have H:=i.size;have I:=d.size;refine⟨_,_,_,rfl,⟨BY t [.int .i64 (ep:Int),.slice k mem.length c1,.slice (some ⟨u,0,none⟩) (ptsOf mem).length c2] _,(g.keep d (by simp)).keep s (by simp),j.keep s (by simp)⟩,(i.trans d).trans s,fun q c=> ?_⟩;unfold Xj at c;rcases Ac.1 c with rfl|c
 ·omega
 ·rcases Ag.1 c with c|c
  ·exact(m q (Ae.1 c)).1
  ·have:=l q (Ae.1 c)
   omega
theorem Of_nil {w:World}(k:Str)(f:k.size≤1000000):Calls Tryz.prog 38 #[.pointer none,.string k] w fun e w'=>e=.returned (.int .i64 0)∧Keep [] w w':=by have b:Keep [] w (w.alloc (.cells #[.string k] 9)):=(By _ _).alloc _;have a:Blk (w.alloc (.cells #[.string k] 9)) w.heap.size [.string k] 9:=BY w _ _;have d:=h_ (Sr w.heap.size 1 1 rfl k (a.cell 0) f);have c:=h_ b;clear b a;go_enter Tryz.func38,Tryz.ntmps38;go_wp2_with fail;refine d.out.mono ?_;rintro e g ⟨rfl,rfl⟩;go_wp2_with fail;refine(UH _).mono ?_;rintro e g ⟨rfl,rfl⟩;go_wp2;go_ret;exact⟨rfl,c.out⟩
theorem Vp (b:RingAt w rb ep mem v1 v2)(d:0<(ptsOf mem).length ∧(ptsOf mem).length ≤1000)(k:Str)(i:k.size≤1000000):Calls Tryz.prog 38 #[pr rb 0,.string k] w fun e w'=>e=.returned (.int .i64 (Eg (ptsOf mem) (IN (sb k)):Int))∧Keep [] w w':=by have a:Keep [] w (w.alloc (.cells #[.string k] 9)):=(By _ _).alloc _;have c:Blk (w.alloc (.cells #[.string k] 9)) w.heap.size [.string k] 9:=BY w _ _;have g:=h_ (Sr w.heap.size 1 1 rfl k (c.cell 0) i);have h:=h_ (UJ (b.still a) d (IN (sb k)) (P3 _));have f:=h_ a;clear a c b d;go_enter Tryz.func38,Tryz.ntmps38;go_wp2_with fail;refine g.out.mono ?_;rintro e l ⟨rfl,rfl⟩;go_wp2_with fail;refine h.out.mono ?_;rintro e l ⟨rfl,j⟩;go_wp2;go_ret;exact⟨rfl,f.out.trans j⟩
end
end Go.Proofs.YtnhbioehiiifdaaGreat
