import Derived.Test.YtnhbioehiiifdaaGreatD07
import Derived.Shelf.SlSortCmp.WholeK
set_option maxRecDepth 100000
set_option maxHeartbeats 16000000
set_option linter.all false
namespace Go.Proofs.YtnhbioehiiifdaaGreat
open Go.ChangeShapes Go.WideShapes Go.ChangeAt Go.RowKit
open Go.Shelf Go.Lib Go.Sort
def Kc (x:Nat×Nat):List Value:=[.int .u64 (x.1:Int),.int .i64 (x.2:Int)]
theorem QC (a b:Nat×Nat)(W:World):Calls Tryz.prog 266 #[.agg #[.int .u64 (a.1:Int),.int .i64 (a.2:Int)],.agg #[.int .u64 (b.1:Int),.int .i64 (b.2:Int)]] W fun e k=>e=.returned (.bool (GK a b))∧∃q h,k=grow (W.drewN q) h:=by
 obtain⟨x,y⟩:=a;obtain⟨z,u⟩:=b;simp only;by_cases d:x<z
 ·have i:(x:Int)<(z:Int):=by omega
  have c:Hid (GK (x,y) (z,u)=true):=h_ ((GJ _ _).2 (.inl d));go_enter Tryz.func266,Tryz.ntmps266;go_wp2;go_ret;exact⟨by rw[c.out];first|rfl|simp[d],0,_,by rw[alloc_eq_grow,alloc_eq_grow,grow_grow];rfl⟩
 ·have i:¬(x:Int)<(z:Int):=by omega
  by_cases g:x=z
  ·subst g
   by_cases f:y<u
   ·have j:(y:Int)<(u:Int):=by omega
    have c:Hid (GK (x,y) (x,u)=true):=h_ ((GJ _ _).2 (.inr ⟨rfl,f⟩));go_enter Tryz.func266,Tryz.ntmps266;go_wp2;go_ret;exact⟨by rw[c.out];first|rfl|simp[f],0,_,by rw[alloc_eq_grow,alloc_eq_grow,grow_grow];rfl⟩
   ·have j:¬(y:Int)<(u:Int):=by omega
    have c:Hid (GK (x,y) (x,u)=false):=h_ ((FY _ _).2 (by simp;omega));go_enter Tryz.func266,Tryz.ntmps266;go_wp2;go_ret;exact⟨by rw[c.out];first|rfl|simp[f],0,_,by rw[alloc_eq_grow,alloc_eq_grow,grow_grow];rfl⟩
  ·have l:¬(x:Int)=(z:Int):=by omega
   have c:Hid (GK (x,y) (z,u)=false):=h_ ((FY _ _).2 (by simp;omega));go_enter Tryz.func266,Tryz.ntmps266;go_wp2;go_ret;exact⟨by rw[c.out];first|rfl|simp[d,g],0,_,by rw[alloc_eq_grow,alloc_eq_grow,grow_grow];rfl⟩
def Jv (a b:Nat×Nat):Int:=if GK a b=true then-1 else if GK b a=true then 1 else 0
theorem Ju (a b:Nat×Nat):ltOf Jv a b=GK a b:=by
 unfold ltOf Jv
 cases GK a b with
 |true=>rfl
 |false=>cases GK b a<;>rfl
theorem TM:SWO (ltOf Jv)where
 irrefl x:=by rw[Ju,FY];omega
 trans x y z h1 h2:=by rw[Ju,GJ]at*;omega
 ntrans x y z h1 h2:=by rw[Ju,FY]at*;omega
theorem Rb (a b:Nat×Nat)(W:World):Calls Tryz.prog 265 #[.agg #[.int .u64 (a.1:Int),.int .i64 (a.2:Int)],.agg #[.int .u64 (b.1:Int),.int .i64 (b.2:Int)]] W fun e G=>e=.returned (.int .i64 (Jv a b))∧∃q h,G=grow (W.drewN q) h:=by
 have u:=h_ (fun(W:World)=>QC a b W);have v:=h_ (fun(W:World)=>QC b a W);obtain⟨A,m⟩:∃r,r=GK a b:=⟨_,rfl⟩;obtain⟨B,n⟩:∃r,r=GK b a:=⟨_,rfl⟩;have k:Hid (Jv a b=if A=true then-1 else if B=true then 1 else 0):=h_ (by rw[m,n];rfl);rw[←m]at u;rw[←n]at v;clear m n;go_enter Tryz.func265,Tryz.ntmps265;go_wp2_with fail;obtain⟨c,l⟩:∃c,c=(W.alloc (.cells #[.int .u64 (a.1:Int),.int .i64 (a.2:Int)] 168)).alloc (.cells #[.int .u64 (b.1:Int),.int .i64 (b.2:Int)] 168):=⟨_,rfl⟩;have f:c=grow W #[.cells #[.int .u64 (a.1:Int),.int .i64 (a.2:Int)] 168,.cells #[.int .u64 (b.1:Int),.int .i64 (b.2:Int)] 168]:=by rw[l,alloc_eq_grow,alloc_eq_grow,grow_grow];rfl
 have F:c.heap.size=W.heap.size+2:=by rw[f];simp[grow]
 have w:c.cell? ⟨W.heap.size,0,none⟩=some (.int .u64 (a.1:Int)):=by rw[f];simp[grow,World.cell?]
 have x:c.cell? ⟨W.heap.size,1,none⟩=some (.int .i64 (a.2:Int)):=by rw[f];simp[grow,World.cell?]
 have y:c.cell? ⟨W.heap.size+1,0,none⟩=some (.int .u64 (b.1:Int)):=by rw[f];simp[grow,World.cell?]
 have z:c.cell? ⟨W.heap.size+1,1,none⟩=some (.int .i64 (b.2:Int)):=by rw[f];simp[grow,World.cell?]
 rw[←l];refine(u.out c).mono ?_;rintro e j ⟨rfl,d,g,rfl⟩;have C:=cell_grown (by show W.heap.size<_;omega) w d g;have c1:=cell_grown (by show W.heap.size<_;omega) x d g;have D:=cell_grown (by show W.heap.size+1<_;omega) y d g;have E:=cell_grown (by show W.heap.size+1<_;omega) z d g;have s:Hid (∃q h,grow (c.drewN d) g=grow (W.drewN q) h):=h_ ⟨d,_,by rw[f];exact grow_grow (W.drewN d) _ g⟩;generalize grow (c.drewN d) g=j at*;clear l f F w x y z;cases A
 ·go_wp2_with fail
  refine(v.out j).mono ?_;rintro e H ⟨rfl,i,o,rfl⟩
  have t:Hid (∃q h,grow (j.drewN i) o=grow (W.drewN q) h):=h_ (by obtain⟨q,p,rfl⟩:=s.out;refine⟨q+i,p++o, ?_⟩;rw[show(grow (W.drewN q) p).drewN i=grow ((W.drewN q).drewN i) p from rfl,grow_grow,World.drewN_drewN])
  generalize grow (j.drewN i) o=H at*;clear C c1 D E;cases B
  ·go_wp2
   go_ret;exact⟨by rw[k.out];rfl,t.out⟩
  ·go_wp2
   go_ret;exact⟨by rw[k.out];rfl,t.out⟩
 ·go_wp2
  go_ret;exact⟨by rw[k.out];rfl,s.out⟩
end Go.Proofs.YtnhbioehiiifdaaGreat
namespace Go.Proofs.YtnhbioehiiifdaaGreat
open Go.Shelf
def Tryz.sortPt_ren:Go.Shelf.Ren:=⟨fun|6=>264|15=>262|14=>291|28=>289|29=>290|20=>308|21=>309|22=>310|23=>311|24=>312|25=>313|26=>314|27=>315|46=>326|47=>303|48=>304|49=>327|50=>328|57=>341|n=>n,fun|22=>164|24=>168|25=>374|3=>3|39=>169|0=>0|53=>246|55=>107|4=>4|46=>389|45=>388|50=>394|5=>5|9=>9|66=>407|70=>411|76=>425|77=>327|n=>n,fun|n=>n⟩
theorem Tryz.sortPt:Go.Proofs.SlLaysF0.n6 Tryz.prog Tryz.sortPt_ren:={
 mixed:=by kernel_rfl
 f6:=⟨Tryz.f264.name,by decide,Tryz.func264.trans (A3 some (by kernel_rfl))⟩
 f14:=⟨Tryz.f291.name,by decide,Tryz.func291.trans (A3 some (by kernel_rfl))⟩
 f15:=Tryz.func262.trans (A3 some (by kernel_rfl))
 f20:=⟨Tryz.f308.name,by decide,Tryz.func308.trans (A3 some (by kernel_rfl))⟩
 f21:=⟨Tryz.f309.name,by decide,Tryz.func309.trans (A3 some (by kernel_rfl))⟩
 f22:=⟨Tryz.f310.name,by decide,Tryz.func310.trans (A3 some (by kernel_rfl))⟩
 f23:=⟨Tryz.f311.name,by decide,Tryz.func311.trans (A3 some (by kernel_rfl))⟩
 f24:=⟨Tryz.f312.name,by decide,Tryz.func312.trans (A3 some (by kernel_rfl))⟩
 f25:=⟨Tryz.f313.name,by decide,Tryz.func313.trans (A3 some (by kernel_rfl))⟩
 f26:=⟨Tryz.f314.name,by decide,Tryz.func314.trans (A3 some (by kernel_rfl))⟩
 f27:=⟨Tryz.f315.name,by decide,Tryz.func315.trans (A3 some (by kernel_rfl))⟩
 f28:=Tryz.func289.trans (A3 some (by kernel_rfl))
 f29:=Tryz.func290.trans (A3 some (by kernel_rfl))
 f46:=⟨Tryz.f326.name,by decide,Tryz.func326.trans (A3 some (by kernel_rfl))⟩
 f47:=Tryz.func303.trans (A3 some (by kernel_rfl))
 f48:=Tryz.func304.trans (A3 some (by kernel_rfl))
 f49:=⟨Tryz.f327.name,by decide,Tryz.func327.trans (A3 some (by kernel_rfl))⟩
 f50:=⟨Tryz.f328.name,by decide,Tryz.func328.trans (A3 some (by kernel_rfl))⟩
 f57:=⟨Tryz.f341.name,by decide,Tryz.func341.trans (A3 some (by kernel_rfl))⟩
 t0:=Tryz.underlying0
 a0:=Tryz.isAgg0
 z0:=Tryz.sizeOf0
 v0:=Tryz.zeroValue0
 t3:=ER
 a3:=Tryz.isAgg3
 z3:=Tryz.sizeOf3
 v3:=Tryz.zeroValue3
 t4:=Tryz.underlying4
 a4:=Tryz.isAgg4
 z4:=Tryz.sizeOf4
 v4:=Tryz.zeroValue4
 t5:=EQ
 a5:=Tryz.isAgg5
 z5:=Tryz.sizeOf5
 v5:=Tryz.zeroValue5
 t9:=BG
 a9:=Tryz.isAgg9
 z9:=Tryz.sizeOf9
 v9:=Tryz.zeroValue9
 t22:=Tryz.underlying164
 a22:=Tryz.isAgg164
 z22:=Tryz.sizeOf164
 v22:=Tryz.zeroValue164
 t25:=Tryz.underlying374
 a25:=Tryz.isAgg374
 z25:=Tryz.sizeOf374
 v25:=Tryz.zeroValue374
 t39:=Tryz.underlying169
 a39:=Tryz.isAgg169
 z39:=Tryz.sizeOf169
 v39:=Tryz.zeroValue169
 t45:=Tryz.underlying388
 a45:=Tryz.isAgg388
 z45:=Tryz.sizeOf388
 v45:=Tryz.zeroValue388
 t46:=Tryz.underlying389
 a46:=Tryz.isAgg389
 z46:=Tryz.sizeOf389
 v46:=Tryz.zeroValue389
 t50:=Tryz.underlying394
 a50:=Tryz.isAgg394
 z50:=Tryz.sizeOf394
 v50:=Tryz.zeroValue394
 t53:=Tryz.underlying246
 a53:=Tryz.isAgg246
 z53:=Tryz.sizeOf246
 v53:=Tryz.zeroValue246
 t55:=Tryz.underlying107
 a55:=Tryz.isAgg107
 z55:=Tryz.sizeOf107
 v55:=Tryz.zeroValue107
 t66:=Tryz.underlying407
 a66:=Tryz.isAgg407
 z66:=Tryz.sizeOf407
 v66:=Tryz.zeroValue407
 t70:=Tryz.underlying411
 a70:=Tryz.isAgg411
 z70:=Tryz.sizeOf411
 v70:=Tryz.zeroValue411
 t76:=Tryz.underlying425
 a76:=Tryz.isAgg425
 z76:=Tryz.sizeOf425
 v76:=Tryz.zeroValue425
 t77:=Tryz.underlying327
 a77:=Tryz.isAgg327
 z77:=Tryz.sizeOf327
 v77:=Tryz.zeroValue327}
end Go.Proofs.YtnhbioehiiifdaaGreat
namespace Go.Proofs.YtnhbioehiiifdaaGreat
open Go.ChangeShapes Go.WideShapes Go.ChangeAt Go.RowKit
open Go.Shelf Go.Lib Go.Sort
theorem Ra (w:World)(blk cap:Nat)(d:Array (Nat×Nat))(f:HoldsK Kc 2 w blk 0 d)(g:blk<w.heap.size)(h:d.size<4611686018427387904):
  Calls Tryz.prog 264 #[.slice (some ⟨blk,0,none⟩) d.size cap,.func (.func 265) #[] #[]] w fun e i=>e=.returned (.tuple #[])∧∃a n c,PermIn 0 d.size d a∧SortedIn (ltOf Jv) 0 d.size a∧i=sortWorldK Kc 2 w blk 0 n a c:=
 AnyQ.slices_SortFunc Tryz.sortPt 2 Tryz.isAgg168 Tryz.sizeOf168 Kc (fun _=>rfl) (by intro x v b;simp[Kc]at b;rcases b with rfl|rfl<;>rfl) Jv TM 265 #[] blk 0 cap d w
  (by intro j w;rfl) (fun m c k _ x y=>Rb x y _) f g h
end Go.Proofs.YtnhbioehiiifdaaGreat
namespace Go.Proofs.YtnhbioehiiifdaaGreat
open Go.ChangeShapes Go.WideShapes Go.ChangeAt Go.RowKit
def pc:List (Nat×Nat)→List Value
 |[]=>[]
 |x::l=>Kc x++pc l
theorem TP (l m:List (Nat×Nat)):pc (l++m)=pc l++pc m:=by
 induction l with
 |nil=>rfl
 |cons x l ih=>simp[pc,ih,Ax]
theorem XZ:∀(l:List (Nat×Nat)) (i:Nat) (a:Nat×Nat),l[i]?=some a→(pc l)[i*2]?=some (.int .u64 (a.1:Int))∧(pc l)[i*2+1]?=some (.int .i64 (a.2:Int))
 |[],i,a,h=>by simp at h
 |x::l,0,a,h=>by simp at h;subst h;simp[pc,Kc]
 |x::l,i+1,a,h=>by
  have:=XZ l i a (by simpa using h);have e:(i+1)*2=i*2+1+1:=by omega
  rw[e];simpa[pc,Kc]using this
def QA (w:World)(base:Nat)(v:Value)(l:List (Nat×Nat)):Prop:=w.ownsRow base 168 2 v l.length (pc l)
theorem QA.snoc {b:World}{base:Nat}{a:Value}{l:List (Nat×Nat)}{y:Nat×Nat}(h:b.ownsRow base 168 2 a (l.length+1) (pc l++Kc y)):QA b base a (l++[y]):=by unfold QA;rw[TP,Aj];simpa[pc]using h
theorem src_pt {P:Program}{t e:TypeId}(d:P.underlying t=some (.slice e))(w:World)(b:Nat)(y:Nat×Nat)(h:Blk w b (Kc y) 168):
  Src P 2 t (.slice (some ⟨b,0,none⟩) 1 1) 1 (Kc y) w:=by
 refine CC _ d ⟨b,0,none⟩ 1 1 (Kc y) rfl ?_ (by intro v a;simp[Kc]at a;rcases a with rfl|rfl<;>rfl);intro j x f;rw[show(⟨b,0,none⟩:Addr).add j=⟨b,j,none⟩ by by_cases c:j=0<;>simp[Addr.add,c],h.cell];exact f
theorem Tryz.infoPt:(Tryz.prog.info? 168).map (fun i=>(i.zero,i.size,i.bytes))=some (some (.agg #[.int .u64 0,.int .i64 0]),2,16):=by kernel_rfl
def Mp (n i:Nat):List (Nat×Nat):=(List.range i).map (fun i=>(MM n i,n))
theorem TI (n i:Nat):Mp n (i+1)=Mp n i++[(MM n i,n)]:=by unfold Mp;rw[Ft,AL];rfl
theorem OS (n i:Nat):(Mp n i).length =i:=by simp[Mp]
theorem OX (m:List Nat)(n:Nat):Dd (m++[n])=Dd m++Mp n 8:=by unfold Dd Mp;simp
theorem G7 (m:List Nat):(Dd m).length =m.length*8:=by
 induction m with
 |nil=>rfl
 |cons n m ih=>
  have:(Dd (n::m)).length =8+(Dd m).length :=by unfold Dd;simp
  rw[this,ih,List.length_cons];omega
open Go.Shelf Go.Sort in
theorem TK {wr:World}{g cap:Nat}{L:List (Nat×Nat)}(n:Nat)(h:Array Obj)(b:Array (Nat×Nat))(v:HoldsK Kc 2 wr g 0 L.toArray)(q:g<wr.heap.size)(y:PermIn 0 L.toArray.size L.toArray b)(z:SortedIn (ltOf Jv) 0 L.toArray.size b):
  PtR (sortWorldK Kc 2 wr g 0 n b h) (.slice (some ⟨g,0,none⟩) L.length cap) b.toList∧b.toList.Perm L∧KD b.toList∧Keep [g] wr (sortWorldK Kc 2 wr g 0 n b h):=by
 obtain⟨m,_,o⟩:=y;have s:b.size=L.length:=by simpa using m
 have p:HoldsK Kc 2 (sortWorldK Kc 2 wr g 0 n b h) g 0 b:=by
  unfold sortWorldK;refine holdsK_grow (enc:=Kc) (k:=2) _ _ _ _ _ ?_ ?_
  ·simpa[putRowK,putRow,mapBlock,Sort.ahead]using q
  ·exact holdsK_putRowK (enc:=Kc) (k:=2) _ _ _ _ _ (by exact v) m
 have f:Keep [g] wr (sortWorldK Kc 2 wr g 0 n b h):=by
  unfold sortWorldK putRowK;refine⟨rfl,rfl,rfl,by simp[putRow,mapBlock,Sort.ahead],fun k f x=> ?_⟩;rw[heap_grow_old _ _ (by simpa[putRow,mapBlock,Sort.ahead]using f)];have:g≠k:=fun e=>x (by simp[e])
  simp[putRow,mapBlock,Sort.ahead,Array.getElem?_modify,this]
 refine⟨⟨g,cap,by rw[Array.length_toList];simp[s],AW q f.size,fun i a d=> ?_⟩, ?_, ?_,f⟩
 ·have c:i<b.size:=by
   have:=(Ai.1 d).1;simpa using this
  have e:b[i]! =a:=by rw[getElem!_pos b i c];rw[CV]at d;rw[Array.getElem?_eq_getElem c]at d;injection d
  have l:=(p.cell c (show 0<2 by decide)).1;have c1:=(p.cell c (show 1<2 by decide)).1;rw[e]at l c1;exact⟨by simpa[Kc]using l,by simpa[Kc]using c1⟩
 ·have t:(L.toArray.extract 0 L.toArray.size).toList =L:=by simp
  have u:(b.extract 0 L.toArray.size).toList =b.toList:=by rw[show L.toArray.size=b.size by simp[s]];simp
  rw[t,u]at o;exact o
 ·unfold KD
  rw[DB];intro i j c r w;have:=z i j (AA _) w (by simp at r⊢;omega);rw[Ju,getElem!_pos b i (by simpa using c),getElem!_pos b j (by simpa using r)]at this;simpa using this
open Go.Shelf Go.Sort in
theorem Vy {w:World}{base:Nat}{v:Value}{L:List (Nat×Nat)}(h:QA w base v L)(p:0<L.length):∃g cap,v=.slice (some ⟨g,0,none⟩) L.length cap∧HoldsK Kc 2 w g 0 L.toArray∧g<w.heap.size∧base≤g:=by
 obtain⟨g,cap,spare,rfl,_,o,b,_,_⟩:=E4 h p;refine⟨g,cap,rfl,fun j c=> ?_,b.lt,o⟩;rw[size_flatK]at c;rw[get_flatK _ _ _ _ c,AP];refine⟨?_,b.free j⟩;rw[b.cell];have k:j/2<L.length:=by simp at c;omega
 obtain⟨m,n⟩:=XZ L (j/2) L[j/2] (Ad k);have e:L.toArray[j/2]! =L[j/2]:=by rw[getElem!_pos L.toArray _ (by simpa using k)];simp
 rw[e];have l:∀t,t<(pc L).length →(pc L++spare)[t]?=(pc L)[t]?:=fun t q=>AK q
 rcases Nat.mod_two_eq_zero_or_one j with d|d
 ·have a:j=j/2*2:=by omega
  have:(pc L)[j]?=some (.int .u64 (L[j/2].1 :Int)):=by have f:=m;rw[←a]at f;exact f
  rw[l j (Ai.1 this).1,this,d];rfl
 ·have a:j=j/2*2+1:=by omega
  have:(pc L)[j]?=some (.int .i64 (L[j/2].2 :Int)):=by have i:=n;rw[←a]at i;exact i
  rw[l j (Ai.1 this).1,this,d];rfl
theorem XU {w:World}(aa:Value)(mem:List Nat)(h:Rv w 1 aa (mem.map Int.ofNat).length (ints (mem.map Int.ofNat)))(f:nodesOk (mem.map Int.ofNat)=true)(a9:mem.length≤5)(p:∀n∈mem,n≤1000):
  Calls Tryz.prog 235 #[aa] w fun e E=>∃v,e=.returned v∧PtR E v (ptsOf mem)∧Keep [] w E∧(∀b,v.ownBlock=some b→w.heap.size≤b):=by
 have HB:=h_ p
 have ao:0<mem.length:=by unfold nodesOk at f;rw[Ar,A0]at f;simpa using f.1
 have a6:∀(W:World) (a b:Nat),(Instr.build 168 #[(0,.int .u64 (a:Int)),(1,.int .i64 (b:Int))]).run Tryz.prog W=.ok (.agg #[.int .u64 (a:Int),.int .i64 (b:Int)]) W:=fun W a b=>DD W _ _ _ (by rfl)
 obtain⟨i0,hi,bb,bc,bd⟩:=AU Tryz.infoPt;obtain⟨l,r⟩:∃l,l=mem.map Int.ofNat:=⟨_,rfl⟩;have y:l.length=mem.length:=by rw[r];simp
 rw[←r]at h f;have HM:=h_ (Dr aa _ h (by omega) true f.symm);obtain⟨c,t⟩:∃c,c=l.length:=⟨_,rfl⟩
 have s:∀(j n:Nat),mem[j]?=some n→l.getD j 0=(n:Int):=fun j n hj=>by rw[r,Af,AN,hj];rfl
 have ax:=h_ h;obtain⟨_,a,cap,rfl,_,_⟩:=id h;rw[←t]at HM⊢;have d:=h_4 r t y s;have bg:c≤5:=by omega
 have a0:=h_ ao;clear f p r y s h t a9 ao;obtain⟨LL,N⟩:∃LL,LL=ptsOf mem:=⟨_,rfl⟩;rw[←N];have az:=h_ N;clear N;go_enter Tryz.func235,Tryz.ntmps235;go_wp2_with fail;refine HM.out.mono ?_;rintro e w1 ⟨rfl,rfl⟩;go_wp2
 go_loopw [3,12] (fun ab i wr=>∃(j:Nat),i=.int .i64 (j:Int)∧j≤c∧QA wr w.heap.size ab (Dd (mem.take j))∧Keep [] w wr) (fun _ i _=>c-(intOf i).toNat)
 case atStart=>exact⟨0,rfl,by omega,AY w _ _ 2,By _ _⟩
 case round=>
  obtain⟨j,rfl,hj,o,m⟩:=hrel;by_cases an:j<c
  ·have q0:(j:Int)<(c:Int):=by omega
   obtain⟨sb,so,c',he,_,_,ak⟩:=ax.out.at1 (by have:=d.out.2.1;omega);simp only[Bn]at he;obtain⟨rfl,_,rfl⟩:=he;obtain⟨a8,t,y,s⟩:=d.out;obtain⟨n,z⟩:∃n,mem[j]?=some n:=⟨_,Ad (by omega)⟩;have S:=ak j (by omega);rw[Hm _ _ (by omega),s j n z]at S;have a7:=m.cell1' S;have ba:=HB.out n (Aq z);have av:mem.take (j+1)=mem.take j++[n]:=by rw[BH,z];rfl
   obtain⟨a5,F⟩:=i_2 av m;have U:(Dd (mem.take j)).length =j*8:=by rw[G7,Az,BZ (by omega)]
   obtain⟨P,Q⟩:∃P,P=Dd (mem.take j):=⟨_,rfl⟩;rw[←Q]at o U;have H:=h_ o;have HP:=h_2 Q U;clear ak S a8 t y s z av m o Q U;go_wp2_with fail;clear a7
   go_loopw [3,16] (fun ab i w2=>∃(k:Nat),i=.int .i64 (k:Int)∧k≤8∧QA w2 w.heap.size ab (P++Mp n k)∧Keep [] w w2) (fun _ i _=>8-(intOf i).toNat)
   case atStart=>exact⟨0,rfl,by omega,by simpa[Mp]using H.out,F.out⟩
   case round=>
    obtain⟨k,rfl,hk,aj,ai⟩:=hrel;obtain⟨ac,G⟩:=i_2 aj ai;clear aj ai;by_cases bf:k<8
    ·have q1:(k:Int)<8:=by omega
     have ae:∀W,Hid (Calls Tryz.prog 263 #[.int .i64 (n:Int),.int .i64 (k:Int)] W fun e E=>e=.returned (.int .u64 (MM n k:Int))∧E=W):=fun W=>h_ (UG n k ba (by omega))
     obtain⟨pt,X⟩:∃pt,pt=MM n k:=⟨_,rfl⟩;have a3:=h_ X;rw[←X]at ae;clear X;have A:=ac.out;unfold QA at A;have am:Blk (wr.alloc (.cells (Kc (pt,n)).toArray 168)) wr.heap.size (Kc (pt,n)) 168:=BY wr _ _;have kb:Keep [] wr (wr.alloc (.cells (Kc (pt,n)).toArray 168)):=(By _ _).alloc _;have O:=Do A kb (by simp);have au:=src_pt (P:=Tryz.prog) Tryz.underlying164 _ _ (pt,n) am;obtain⟨oa,oc,rfl⟩:=A4 A;obtain⟨C,B⟩:∃C,C=(P++Mp n k).length :=⟨_,rfl⟩;rw[←B]at O⊢;have ap:C≤100:=by rw[B,Aj,HP.out.2,OS];omega
     have u:w.heap.size≤wr.heap.size:=G.out.size;obtain⟨ad,a4,a2,ay⟩:=i_4 O au B kb;have J:=h_2 ap u;clear O au B kb am A ap u;have be:=a6 wr pt n
     go_wp2_with (first|(refine(ae wr).out.mono ?_;rintro e w2 ⟨rfl,rfl⟩)|(at_builtin;refine Bl _ rfl _ _ 164 164 rfl w.heap.size 168 i0 _ 2 16 Tryz.underlying164 hi bb bc bd rfl (by decide) _ C _ rfl ad.out _ 1 _ rfl a4.out (by have:=J.out.1;unfold maxLen;omega) (by have:=J.out.1;omega) (by simp;have:=J.out.2;omega) ?_;intro v1 w3 L h3 _ h4))
     have kg:=DJ h3;rw[a2.out]at L;have ah:=QA.snoc L;rw[Ax,a3.out,←TI]at ah
     have kk:Keep [] w w3:=((G.out.trans ay.out).then kg (fun q Y an=>by have:=(B3 ad.out) q (Ae.1 Y);omega))
     go_roundw
     case rel=>exact⟨k+1,by first|rfl|go_num,by omega,ah,kk⟩
     case measure=>simp only[intOf];omega
    ·obtain rfl:k=8:=by omega
     have q1:¬((8:Nat):Int)<8:=by omega
     have a1:=h_ (show QA _ _ _ (Dd (mem.take (j+1)))from by have:=ac.out;rw[a5.out,OX,←HP.out.1];exact this)
     go_wp2
     go_roundw
     case rel=>exact⟨j+1,by first|rfl|go_num,by omega,a1.out,G.out⟩
     case measure=>simp only[intOf];omega
  ·obtain rfl:j=c:=by omega
   have q0:¬(j:Int)<(j:Int):=by omega
   have H:=h_ (show QA _ _ _ (Dd mem)from by have:=o;rw[Ba (by have:=d.out.2.1;have:=d.out.2.2.1;omega)]at this;exact this)
   have F:=h_ m;clear o m;go_wp2_with fail;obtain⟨g,ag,rfl,M,T,al⟩:=Vy H.out (by rw[G7];have:=a0.out;omega)
   have u:(Dd mem).toArray.size <4611686018427387904:=by
    have h1:=d.out.2.1;have L:=d.out.2.2.1;have:(Dd mem).toArray.size =mem.length*8:=by simp[G7]
    omega
   have R:=Ra wr g ag (Dd mem).toArray M T u;have e:(Dd mem).toArray.size =(Dd mem).length :=by simp
   rw[e]at R;have HS:=h_ R;have x:=h_3 M T al;clear R M u e T al;obtain⟨rl,Z⟩:∃rl,rl=(Dd mem).length :=⟨_,rfl⟩;rw[←Z]at HS⊢;have af:=h_ Z;clear Z;refine HS.out.mono ?_;rintro e w3 ⟨rfl,K,n,os,V,hs,aw⟩;rw[af.out]at V hs;have aq:Sort.PermIn 0 (Dd mem).toArray.size (Dd mem).toArray K:=by simpa using V
   have ar:Sort.SortedIn (ltOf Jv) 0 (Dd mem).toArray.size K:=by simpa using hs
   obtain⟨D,r2,r3,r4⟩:=TK (cap:=ag) n os K x.out.1 x.out.2.1 aq ar;rw[Vx r2 r3,←az.out]at D;rw[←aw]at D r4
   have I:=h_ (Aa D (F.out.then r4 (fun q Y an=>by have:=x.out.2.2;simp at Y;omega)))
   clear V hs aq ar aw D r2 r3 r4;rw[←af.out]at I;go_wp2;go_ret;exact⟨_,rfl,I.out.1,I.out.2,fun b p=>by simp[Value.ownBlock]at p;rw[←p];exact x.out.2.2⟩
end Go.Proofs.YtnhbioehiiifdaaGreat
