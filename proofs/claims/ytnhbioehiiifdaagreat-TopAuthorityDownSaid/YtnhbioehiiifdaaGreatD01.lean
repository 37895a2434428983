import Derived.Test.YtnhbioehiiifdaaGreatRows
import Derived.Lib.Hide
import Derived.Handy
import Derived.Deep.AppendSrc
import Derived.StillTailTactics
import Derived.Lib.BufferRead
import Derived.Deep.DrawnRows
import Derived.Deep.RegionHeld3
import Derived.Deep.Slices
import Derived.WalkSpells
import Derived.Deep.DeepCutAuto
import Derived.Deep.CutBlock
set_option maxRecDepth 100000
set_option maxHeartbeats 16000000
set_option linter.all false
namespace Go.Proofs.YtnhbioehiiifdaaGreat
open Go.ChangeShapes Go.WideShapes Go.ChangeAt Go.RowKit
theorem h_{p:Prop}(h:p):Hid p:=h
abbrev pr(b i:Nat):Value:=.pointer (some ⟨b,i,none⟩)
theorem h_2{p q:Prop}(a:p)(b:q):Hid (p∧q):=⟨a,b⟩
theorem i_2{p q:Prop}(a:p)(b:q):Hid p∧Hid q:=⟨a,b⟩
theorem h_3{p q r:Prop}(a:p)(b:q)(c:r):Hid (p∧q∧r):=⟨a,b,c⟩
theorem i_3{p q r:Prop}(a:p)(b:q)(c:r):Hid p∧Hid q∧Hid r:=⟨a,b,c⟩
theorem h_4{p q r s:Prop}(a:p)(b:q)(c:r)(d:s):Hid (p∧q∧r∧s):=⟨a,b,c,d⟩
theorem i_4{p q r s:Prop}(a:p)(b:q)(c:r)(d:s):Hid p∧Hid q∧Hid r∧Hid s:=⟨a,b,c,d⟩
theorem h_5{p q r s t:Prop}(a:p)(b:q)(c:r)(d:s)(e:t):Hid (p∧q∧r∧s∧t):=⟨a,b,c,d,e⟩
theorem i_5{p q r s t:Prop}(a:p)(b:q)(c:r)(d:s)(e:t):Hid p∧Hid q∧Hid r∧Hid s∧Hid t:=⟨a,b,c,d,e⟩
theorem h_6{p q r s t u:Prop}(a:p)(b:q)(c:r)(d:s)(e:t)(f:u):Hid (p∧q∧r∧s∧t∧u):=⟨a,b,c,d,e,f⟩
theorem i_6{p q r s t u:Prop}(a:p)(b:q)(c:r)(d:s)(e:t)(f:u):Hid p∧Hid q∧Hid r∧Hid s∧Hid t∧Hid u:=⟨a,b,c,d,e,f⟩
theorem h_7{p q r s t u v:Prop}(a:p)(b:q)(c:r)(d:s)(e:t)(f:u)(g:v):Hid (p∧q∧r∧s∧t∧u∧v):=⟨a,b,c,d,e,f,g⟩
theorem i_7{p q r s t u v:Prop}(a:p)(b:q)(c:r)(d:s)(e:t)(f:u)(g:v):Hid p∧Hid q∧Hid r∧Hid s∧Hid t∧Hid u∧Hid v:=⟨a,b,c,d,e,f,g⟩
theorem h_8{p q r s t u v x:Prop}(a:p)(b:q)(c:r)(d:s)(e:t)(f:u)(g:v)(i:x):Hid (p∧q∧r∧s∧t∧u∧v∧x):=⟨a,b,c,d,e,f,g,i⟩
theorem i_8{p q r s t u v x:Prop}(a:p)(b:q)(c:r)(d:s)(e:t)(f:u)(g:v)(i:x):Hid p∧Hid q∧Hid r∧Hid s∧Hid t∧Hid u∧Hid v∧Hid x:=⟨a,b,c,d,e,f,g,i⟩
theorem h_9{p q r s t u v x y:Prop}(a:p)(b:q)(c:r)(d:s)(e:t)(f:u)(g:v)(i:x)(j:y):Hid (p∧q∧r∧s∧t∧u∧v∧x∧y):=⟨a,b,c,d,e,f,g,i,j⟩
theorem i_9{p q r s t u v x y:Prop}(a:p)(b:q)(c:r)(d:s)(e:t)(f:u)(g:v)(i:x)(j:y):Hid p∧Hid q∧Hid r∧Hid s∧Hid t∧Hid u∧Hid v∧Hid x∧Hid y:=⟨a,b,c,d,e,f,g,i,j⟩
theorem h_10{p q r s t u v x y z:Prop}(a:p)(b:q)(c:r)(d:s)(e:t)(f:u)(g:v)(i:x)(j:y)(k:z):Hid (p∧q∧r∧s∧t∧u∧v∧x∧y∧z):=⟨a,b,c,d,e,f,g,i,j,k⟩
theorem i_10{p q r s t u v x y z:Prop}(a:p)(b:q)(c:r)(d:s)(e:t)(f:u)(g:v)(i:x)(j:y)(k:z):Hid p∧Hid q∧Hid r∧Hid s∧Hid t∧Hid u∧Hid v∧Hid x∧Hid y∧Hid z:=⟨a,b,c,d,e,f,g,i,j,k⟩
def Aa:=@And.intro
def Ab:=@Nat.testBit_eq_decide_div_mod_eq
def Ac:=@List.mem_cons
def Ad:=@List.getElem?_eq_getElem
def Ae:=@Option.mem_toList
def Af:=@List.getD_eq_getElem?_getD
def Ag:=@List.mem_append
def Ah:=@List.mem_singleton
def Ai:=@List.getElem?_eq_some_iff
def Aj:=@List.length_append
def Ak:=@decide_eq_false
def Am:=@List.not_mem_nil
def An:=@decide_eq_true
def Ao:=@Tryz.underlying81
def Ap:=@List.mem_cons_of_mem
def Aq:=@List.mem_of_getElem?
def Ar:=@Bool.and_eq_true
def Av:=@Nat.le_refl
def Aw:=@if_neg
def Ax:=@List.append_assoc
def Ay:=@if_pos
def Az:=@List.length_take
def A0:=@decide_eq_true_eq
def A2:=@List.mem_append_left
def A3:=@congrArg
def A5:=@List.length_drop
def A9:=@IntKind.wrap_i64
def AA:=@Nat.zero_le
def AB:=@List.mem_of_mem_drop
def AC:=@List.getElem?_append_right
def AD:=@List.length_map
def AE:=@List.append_nil
def AG:=@or_false
def AH:=@List.mem_of_mem_take
def AI:=@List.mem_map
def AJ:=@Nat.le_trans
def AK:=@List.getElem?_append_left
def AL:=@List.map_append
def AN:=@List.getElem?_map
def AP:=@Nat.zero_add
def AQ:=@List.mem_append_right
def AR:=@Nat.mod_eq_of_lt
def AU:=@info_parts
def AV:=@Tryz.underlying175
def AW:=@Nat.lt_of_lt_of_le
def AY:=@World.ownsRow_nil
def Ba:=@List.take_of_length_le
def Bc:=@wpList_load_mid
def Be:=@bodyPost_ret
def Bf:=@List.getElem?_of_mem
def Bg:=@List.flatMap_append
def Bi:=@List.length_set
def Bj:=@List.drop_zero
def Bm:=@List.mem_flatMap
def Bn:=@Value.slice.injEq
def Bp:=@List.getElem?_drop
def Br:=@List.map_cons
def Bt:=@List.take_length
def Bu:=@List.drop_drop
def Bv:=@List.eq_nil_of_length_eq_zero
def Bw:=@List.take_succ_eq_append_getElem
def Bx:=@List.mem_cons_self
def Bz:=@List.drop_of_length_le
def B3:=@World.ownsRow.lt
def B9:=@List.pairwise_cons
def BB:=@List.drop_succ_cons
def BE:=@List.take_append_of_le_length
def BG:=@Tryz.underlying9
def BH:=@List.take_add_one
def BI:=@List.flatMap_cons
def BJ:=@wp_region_still_tail
def BP:=@List.getElem?_take
def BS:=@List.getElem_mem
def BT:=@Tryz.underlying66
def BU:=@Option.some.injEq
def BV:=@List.nodup_append
def BX:=@List.take_append_drop
def BZ:=@Nat.min_eq_left
def Ca:=@List.take_left'
def Cc:=@Option.bind_eq_some_iff
def Cd:=@Array.getElem?_eq_some_iff
def Cg:=@World.ownsRow.cellAt
def Ch:=@Nat.mul_le_mul_right
def Ci:=@List.getLast?_eq_getElem?
def Cj:=@List.drop_eq_getElem_cons
def Ck:=@BitVec.toNat_ofNat
def Cn:=@run_underlying
def Cp:=@List.drop_left'
def Cr:=@List.all_eq_true
def Cs:=@List.length_pos_iff
def Cv:=@Nat.add_assoc
def Cx:=@results_none
def Cy:=@List.map_nil
def C1:=@Nat.mod_lt
def C2:=@List.size_toArray
def C3:=@List.drop_append_of_le_length
def C8:=@Nat.sub_self
def C9:=@Tryz.underlying330
def CC:=@Src.ofSlice
def CD:=@List.pairwise_append
def CF:=@List.set_eq_take_append_cons_drop
def CH:=@Bool.false_or
def CL:=@Tryz.underlying65
def CM:=@List.getElem?_set
def CQ:=@Bool.or_eq_true
def CU:=@List.set_append_right
def CV:=@Array.getElem?_toList
def CY:=@Tryz.underlying2
def Db:=@Sem.run_bind
def Df:=@List.Perm.refl
def Dk:=@Tryz.underlying39
def Dl:=@Tryz.underlying22
def Dq:=@List.getElem_of_mem
def Dt:=@Array.getElem?_eq_none
def Du:=@wpStill_nil
def Dv:=@Nat.add_mul
def Dw:=@List.map_drop
def Dx:=@Bool.true_and
def Dy:=@IntKind.wrap_u64
def D1:=@if_false
def D5:=@if_true
def D6:=@List.length_filter_le
def D7:=@List.getElem?_eq_none
def DB:=@List.pairwise_iff_getElem
def DC:=@List.mem_or_eq_of_mem_set
def DD:=@run_build
def DE:=@of_decide_eq_true
def DL:=@List.eq_of_mem_replicate
def DQ:=@ByteArray.toList_eq
def DX:=@List.take_left
def DY:=@List.mem_flatten
def DZ:=@List.map_toArray
def Ea:=@List.isEmpty_iff
def Eb:=@List.flatMap_nil
def Ec:=@List.drop_append
def El:=@Tryz.underlying350
def Em:=@Tryz.underlying171
def Ew:=@Tryz.ntmps187
def E5:=@not_true_eq_false
def EM:=@Nat.pow_le_pow_right
def EN:=@List.drop_left
def EO:=@Int.tmod_eq_emod_of_nonneg
def EQ:=@Tryz.underlying5
def ER:=@Tryz.underlying3
def ES:=@Tryz.ntmps51
def ET:=@Tryz.func187
def EU:=@Nat.le_of_not_lt
def EV:=@Nat.le_of_lt
def EW:=@List.map_map
def EY:=@List.getLast?_eq_some_iff
def Fe:=@all_oneCell_toArray
def Fs:=@World.cell?_setCells_out
def Ft:=@List.range_succ
def Fz:=@Tryz.underlying331
def F4:=@Tryz.underlying131
def F5:=@Nat.eq_zero_or_pos
def F6:=@List.mem_filterMap
def FB:=@Tryz.func51
def FC:=@Nat.mul_one
def Ge:=@Tryz.underlying82
def Gf:=@Tryz.ntmps32
def Gg:=@Option.map_eq_some_iff
def Gh:=@Nat.testBit_or
def Gi:=@Nat.lt_or_ge
def Gl:=@List.map_set
def Gm:=@List.getElem?_set_self
def Gn:=@List.foldl_append
def Gp:=@List.Pairwise.nil
def Gq:=@Addr.add_lit
def G5:=@List.length_replicate
def GB:=@List.countP_cons
def GC:=@Tryz.ntmps298
def GS:=@Tryz.func32
def GT:=@List.mem_of_getLast?
def GU:=@List.mem_iff_getElem
structure Keep (S:List Nat) (w w':World):Prop where
 os:w'.os=w.os
 tape:w'.tape=w.tape
 output:w'.output=w.output
 size:w.heap.size≤w'.heap.size
 block:∀k,k<w.heap.size→k∉S→w'.heap[k]?=w.heap[k]?
theorem Keep.refl (S:List Nat)(w:World):Keep S w w:=⟨rfl,rfl,rfl,Av _,fun _ _ _=>rfl⟩
def By:=@Keep.refl
theorem Keep.mono {S S':List Nat}{w b:World}(h:Keep S w b)(e:∀k∈S,k<w.heap.size→k∈S'):Keep S' w b:=
 ⟨h.os,h.tape,h.output,h.size,fun k a d=>h.block k a (fun c=>d (e k c a))⟩
theorem Keep.trans {S:List Nat}{a b c:World}(h:Keep S a b)(k:Keep S b c):Keep S a c:=
 ⟨k.os.trans h.os,k.tape.trans h.tape,k.output.trans h.output,AJ h.size k.size,
  fun i d e=>(k.block i (AW d h.size) e).trans (h.block i d e)⟩
theorem Keep.then {S S':List Nat}{a b c:World}(h:Keep S a b)(k:Keep S' b c)(g:∀x∈S',x<a.heap.size→x∈S):Keep S a c:=
 ⟨k.os.trans h.os,k.tape.trans h.tape,k.output.trans h.output,AJ h.size k.size,
  fun i d e=>(k.block i (AW d h.size) (fun f=>e (g i f d))).trans (h.block i d e)⟩
theorem Keep.below {w a:World}(h:Keep [] w a):Below w.heap.size w a:=⟨h.os,h.tape,h.output,h.size,fun k b=>h.block k b (by simp)⟩
theorem Keep.alloc {S:List Nat}{a w:World}(h:Keep S a w)(o:Obj):Keep S a (w.alloc o):=
 ⟨h.os,h.tape,h.output,by have:=h.size;simp;omega,fun k b c=>(Below.heap_alloc _ _ _ (by have:=h.size;omega)).trans (h.block k b c)⟩
theorem Keep.drew {S:List Nat}{a w:World}(h:Keep S a w):Keep S a w.drew:=⟨h.os,h.tape,h.output,h.size,h.block⟩
theorem Keep.setCell {S:List Nat}{a w:World}(h:Keep S a w){p:Addr}(b:p.block∈S∨a.heap.size≤p.block)(u:Value):Keep S a (w.setCell p u):=
 ⟨h.os,h.tape,h.output,by have:=h.size;simpa[World.setCell]using this,fun k d c=>(Below.heap_setCell _ _ _ _ (by
  intro e;subst e;rcases b with b|b
  ·exact c b
  ·omega)).trans (h.block k d c)⟩
def Or:=@Keep.setCell
theorem Keep.cell {S:List Nat}{w a:World}(h:Keep S w a){p:Addr}(c:p.block<w.heap.size)(b:p.block∉S):a.cell? p=w.cell? p:=World.cell?_of_block (w:=w) (h.block p.block c b)
def Blk (w:World)(b:Nat)(a:List Value)(T:TypeId):Prop:=w.heap[b]?=some (.cells a.toArray T (0,0))
theorem Blk.lt {w:World}{b:Nat}{c:List Value}{T:TypeId}(h:Blk w b c T):b<w.heap.size:=by
 unfold Blk at h;rcases Gi b w.heap.size with a|a
 ·exact a
 ·rw[Dt a]at h;cases h
theorem Blk.cell {w:World}{b:Nat}{a:List Value}{T:TypeId}(h:Blk w b a T)(i:Nat):w.cell? ⟨b,i,none⟩=a[i]?:=by unfold Blk at h;simp[World.cell?,h]
theorem Blk.free {w:World}{b:Nat}{a:List Value}{T:TypeId}(h:Blk w b a T)(i:Nat):w.frozen? ⟨b,i,none⟩=false:=by unfold Blk at h;simp[World.frozen?,h]
def Eh:=@Blk.free
theorem Blk.keep {S:List Nat}{w c:World}{b:Nat}{a:List Value}{T:TypeId}(h:Blk w b a T)(k:Keep S w c)(d:b∉S):Blk c b a T:=by have:=k.block b h.lt d;unfold Blk at*;rw[this];exact h
theorem Blk.alloc {w:World}{b:Nat}{a:List Value}{T:TypeId}(h:Blk w b a T)(o:Obj):Blk (w.alloc o) b a T:=by have:=Below.heap_alloc w o b h.lt;unfold Blk at*;rw[this];exact h
theorem Blk.new (w:World)(a:List Value)(T:TypeId):Blk (w.alloc (.cells a.toArray T)) w.heap.size a T:=by unfold Blk;show(w.heap.push _)[w.heap.size]?=_;simp
def BY:=@Blk.new
theorem Blk.new' (w:World)(a:List Value)(T:TypeId)(b:Nat)(c:b=w.heap.size):Blk (w.alloc (.cells a.toArray T)) b a T:=by subst c;exact BY _ _ _
def Yt:=@Blk.new'
theorem Blk.drew {w:World}{b:Nat}{a:List Value}{T:TypeId}(h:Blk w b a T):Blk w.drew b a T:=h
theorem Blk.set {w:World}{b:Nat}{a:List Value}{T:TypeId}(h:Blk w b a T)(i:Nat)(v:Value):Blk (w.setCell ⟨b,i,none⟩ v) b (a.set i v) T:=by unfold Blk at*;simp only[World.setCell,Array.getElem?_modify,D5,h,Option.map_some];simp
theorem Blk.other {w:World}{b:Nat}{c:List Value}{T:TypeId}(h:Blk w b c T){a:Addr}(d:b≠a.block)(v:Value):Blk (w.setCell a v) b c T:=by have:=Below.heap_setCell w a v b d;unfold Blk at*;rw[this];exact h
theorem EC {α:Type}(l:List α)(d:α)(k:Nat)(h:k<l.length):l.take (k+1)=l.take k++[l.getD k d]:=by rw[Bw h];simp[Af,h]
theorem A8 {α:Type _}(l:List α)(i:Nat)(a:α):l.toArray.setIfInBounds i a=(l.set i a).toArray :=List.setIfInBounds_toArray ..
theorem A7 {α:Type _}(a b:α)(l:List α):(a::l).set 0 b=b::l:=rfl
theorem A6 {α:Type _}(a b:α)(n:Nat)(l:List α):(a::l).set (n+1) b=a::l.set n b:=rfl
section
variable {P:Program} (w:World)
theorem Gx (t k ty e:TypeId)(i:TypeInfo)(q:P.underlying t=some (.slice e))(o:P.info? e=some i)
  (g a f:Nat) (b:Array Value) (n:w.heap[g]?=some (.cells b e (0,0))) (x:Value) (m:Nat) (c:List Value) (d:Src P i.size k x m c w)
  (p:a+m≤f) (l:a*i.size+c.length≤b.size):
  (Builtin.append_ #[t,k] ty #[.slice (some ⟨g,0,none⟩) a f,x]).run P w=
   .ok (.slice (some ⟨g,0,none⟩) (a+m) f) (w.setRow g (b.toList.take (a*i.size)++c++b.toList.drop (a*i.size+c.length)).toArray):=by
 have j:=run_storeCells_at P g (a*i.size) e c 0 b w n (by simpa using l) d.one;simp only[Nat.add_zero]at j;rcases d.kind with⟨r,h⟩|h<;>simp[Builtin.append_,Cn q,Cn h,sizeOf,typeInfo,o,d.len,p,d.cells,Gq,j]
theorem Ii (base:Nat)(t p ty e:TypeId)(i:TypeInfo)(z:Value)(h E:Nat)(r:P.underlying t=some (.slice e))(q:P.info? e=some i)(J:i.zero=some z)
  (U:i.size=h) (N:i.bytes=E) (X:z.cells.size=h) (ab:0<h)
  (v:Value) (n:Nat) (xs:List Value) (o:w.ownsRow base e h v n xs)
  (x:Value) (m:Nat) (b:List Value) (c:Src P h p x m b w)
  (F:n+m≤maxLen) (G:(n+m)*E≤140737488355328) (L:base≤w.heap.size):
  ∃s D,(Builtin.append_ #[t,p] ty #[v,x]).run P w=.ok s D∧D.ownsRow base e h s (n+m) (xs++b)∧w.grownBy D v.ownBlock∧
   (s=.slice none 0 0↔v=.slice none 0 0∧m=0)∧(∀k,s.ownBlock=some k→v.ownBlock=some k∨w.heap.size≤k):=by
 subst U;subst N
 have B:b.length=m*i.size:=c.newsLen;have aa:n+m≤9223372036854775807:=by simp only[maxLen]at F;omega
 have l:(xs++b).length =(n+m)*i.size:=by rw[Aj,o.1,B,Dv]
 have grown:∀(old:Nat),old<n+m→∀(row:Option Nat),
   (w.drew.alloc (.cells ((xs++b).toArray ++Builtin.zeroCells z.cells (grownCap w (n+m) old e-(n+m))) e)).ownsRow base e i.size
    (.slice (some ⟨w.heap.size,0,none⟩) (n+m) (grownCap w (n+m) old e)) (n+m) (xs++b)∧
   w.grownBy (w.drew.alloc (.cells ((xs++b).toArray ++Builtin.zeroCells z.cells (grownCap w (n+m) old e-(n+m))) e)) row:=by
  intro old ho row;have R:=grownCap_ge w (n+m) old e;have A:grownCap w (n+m) old e≤maxLen:=grownCap_le_maxLen w (n+m) old e F;refine⟨⟨l,.inr ⟨w.heap.size,_,_,rfl,L,heap_alloc_new w.drew _,R,A, ?_, ?_⟩⟩,⟨rfl,rfl,rfl,by simp,fun k a _=>Below.heap_alloc w.drew _ k a⟩⟩
  ·simp only[Array.size_append,C2,size_zeroCells,X,l,←Dv]
   congr 1
   omega
  ·simp only[Array.toList_append]
   rw[←l];exact DX
 rcases o.2 with⟨rfl,rfl⟩|⟨g,cap,y,rfl,M,H,Z,A,O,V⟩
 ·have W:xs=[]:=Bv (by simpa using o.1)
  subst W;by_cases I:m=0
  ·subst I
   have S:b=[]:=Bv (by simpa using B);subst S;refine⟨.slice none 0 0,w, ?_,AY w base e i.size,⟨rfl,rfl,rfl,Av _,fun _ _ _=>rfl⟩,by simp,fun k a=> .inl a⟩;have K:=c.cells;rcases c.kind with⟨Y,a⟩|a<;>simp[Builtin.append_,Cn r,Cn a,sizeOf,typeInfo,q,c.len,K]
  ·have f:=run_append_grow_src (P:=P) w t p ty e i z r q J none 0 0 [] (run_firstCells_none _ _ _ _ _) x m b c (by omega) (by omega) (growslice_fits (by omega) G)
   have d:=grown 0 (by omega) (Value.ownBlock (.slice none 0 0));simp only[AP,List.nil_append]at d f⊢;exact⟨_,_,f,d.1,d.2,by simp[I],fun k a=> .inr (by cases a;exact Av _)⟩
 ·by_cases C:n+m≤cap
  ·have Q:n*i.size+b.length≤y.size:=by rw[B,O,←Dv];exact Ch _ C
   have f:=Gx (P:=P) w t p ty e i r q g n cap y H x m b c C Q;refine⟨_,_,f,⟨l,.inr ⟨g,cap,_,rfl,M,setRow_heap w g y _ e _ H,C,A, ?_, ?_⟩⟩,⟨rfl,rfl,rfl,by simp,fun k _ a=>setRow_other w g k _ (fun e=>a (by simp[Value.ownBlock,e]))⟩,by simp,fun k a=> .inl a⟩
   ·simp only[C2,Aj,Az,A5,Array.length_toList]
    omega
   ·rw[V,←l]
    exact DX
  ·have T:∀j u,xs[j]?=some u→w.cell? ((⟨g,0,none⟩:Addr).add j)=some u:=o.cells (g:=g) rfl
   have f:=run_append_grow_src (P:=P) w t p ty e i z r q J (some ⟨g,0,none⟩) n cap xs (run_firstCells_some w.drew i.size n ⟨g,0,none⟩ n cap xs o.1 (by simpa using T)) x m b c (by omega) (by omega) (growslice_fits (by omega) G);have d:=grown cap (by omega) (Value.ownBlock (.slice (some ⟨g,0,none⟩) n cap));exact⟨_,_,f,d.1,d.2,by simp,fun k a=> .inr (by cases a;exact Av _)⟩
theorem Bl {p:Array Oper}{rest:List Oper}{o:Oper}{a:Act}{Q:Exit→Act→World→Prop}(F:o.guard=none)(s x:Operand)(t j:TypeId)
  (H:o.op=.call {callee:= .builtin .append,args:=#[s,x],argTypes:=#[t,j]})
  (base:Nat) (e:TypeId) (i:TypeInfo) (z:Value) (b f:Nat) (R:P.underlying t=some (.slice e)) (G:P.info? e=some i) (T:i.zero=some z)
  (M:i.size=b) (D:i.bytes=f) (U:z.cells.size=b) (O:0<b)
  (v:Value) (n:Nat) (xs:List Value) (L:a.eval s=v) (I:w.ownsRow base e b v n xs)
  (l:Value) (m:Nat) (g:List Value) (S:a.eval x=l) (N:Src P b j l m g w)
  (A:n+m≤maxLen) (E:(n+m)*f≤140737488355328) (C:base≤w.heap.size)
  (h:∀c d,d.ownsRow base e b c (n+m) (xs++g)→w.grownBy d v.ownBlock→(c=.slice none 0 0↔v=.slice none 0 0∧m=0)→(∀k,c.ownBlock=some k→v.ownBlock=some k∨w.heap.size≤k)→wpList P p Q rest (a.put o.dst c) d):wpList P p Q (o::rest) a w:=by
 obtain⟨c,d,J,q,r,u,y⟩:=Ii (P:=P) w base t j o.type e i z b f R G T M D U O v n xs I l m g N A E C;refine wpList_plain F fun K B=> ?_
 unfold Oper.wp execOp;simp only[H,resolve,invoke,builtin,Db,Sem.run_pure,Result.andThen_ok,DZ,Br,Cy,L,S,J];exact B _ _ (h c d q r u y)
end
def bc (b:Nat):Value:= .int .u8 (b:Int)
def Bb (l:List Nat):List Value:=l.map bc
@[simp] theorem Bd (l:List Nat):(Bb l).length =l.length:=by simp[Bb]
@[simp] theorem DW (l m:List Nat):Bb (l++m)=Bb l++Bb m:=by simp[Bb]
theorem Fk (l:List Nat):∀u∈Bb l,u.oneCell'=true:=by intro u a;obtain⟨b,_,rfl⟩:=AI.1 a;rfl
theorem EL (l:List Nat)(i:Nat)(h:i<l.length):(Bb l)[i]?=some (bc (l.getD i 0)):=by simp[Bb,AN,Af,h]
structure Rv (w:World) (sz:Nat) (v:Value) (n:Nat) (vs:List Value):Prop where
 len:vs.length=n*sz
 val:∃a cap,v=.slice a n cap∧n≤cap∧(0<vs.length→∃sb so,a=some ⟨sb,so,none⟩∧sb<w.heap.size∧∀i,i<vs.length→w.cell? ⟨sb,so+i,none⟩=vs[i]?)
theorem Rv.nil (w:World)(a:Nat):Rv w a (.slice none 0 0) 0 []:=⟨by simp,none,0,rfl,by simp,fun h=>by simp at h⟩
def Y6:=@Rv.nil
theorem Rv.keep {w g:World}{e:Nat}{v:Value}{n:Nat}{f:List Value}{S:List Nat}(h:Rv w e v n f)(k:Keep S w g)(j:∀b,v.ownBlock=some b→b<w.heap.size→b∉S):Rv g e v n f:=by obtain⟨c,a,cap,rfl,m,h⟩:=h;refine⟨c,a,cap,rfl,m,fun c=> ?_⟩;obtain⟨sb,p,rfl,d,l⟩:=h c;exact⟨sb,p,rfl,AW d k.size,fun i o=>by rw[k.cell d (j sb rfl d)];exact l i o⟩
def Yx:=@Rv.keep
theorem Rv.alloc {w:World}{a:Nat}{v:Value}{n:Nat}{b:List Value}(h:Rv w a v n b)(o:Obj):Rv (w.alloc o) a v n b:=h.keep ((By [] _).alloc o) (by simp)
theorem Rv.src {P:Program}{w:World}{g:Nat}{v:Value}{n:Nat}{b:List Value}{t e:TypeId}(h:Rv w g v n b)(f:P.underlying t=some (.slice e))(k:∀u∈b,u.oneCell'=true):Src P g t v n b w:=by
 obtain⟨d,a,cap,rfl,r,h⟩:=h;by_cases o:0<b.length
 ·obtain⟨sb,q,rfl,x,l⟩:=h o
  refine CC w f ⟨sb,q,none⟩ n cap b d ?_ k;intro j u i;have m:j<b.length:=(Ai.1 i).1;rw[←i,←l j m];by_cases c:j=0
  ·subst c;simp[Addr.add]
  ·simp[Addr.add,c]
 ·have:b=[]:=Bv (by omega)
  subst this
  cases a with
  |none=>
   rcases F5 n with rfl|s
   ·exact Src.ofNil w f cap
   ·have p:g=0:=by
     rcases Nat.mul_eq_zero.1 (show n*g=0 from d.symm)with c|c
     ·omega
     ·exact c
    subst p;exact⟨.inl ⟨e,f⟩,fun _=>rfl,by simp[Builtin.firstCells,loadCells,loadCellsFrom],by simp[Builtin.firstCells,loadCells,loadCellsFrom],d,fun _ h=>by cases h⟩
  |some a=>exact CC w f a n cap [] d (by simp) (by simp)
theorem Rv.at1 {w:World}{v:Value}{n:Nat}{c:List Value}(h:Rv w 1 v n c)(k:0<n):∃sb b cap,v=.slice (some ⟨sb,b,none⟩) n cap∧n≤cap∧sb<w.heap.size∧∀i,i<n→w.cell? ⟨sb,b+i,none⟩=c[i]?:=by obtain⟨j,a,cap,rfl,e,h⟩:=h;obtain⟨sb,b,rfl,f,d⟩:=h (by omega);exact⟨sb,b,cap,rfl,e,f,fun i g=>d i (by omega)⟩
theorem Fa {w:World}{base:Nat}{e:TypeId}{b:Nat}{v:Value}{n:Nat}{c:List Value}(h:w.ownsRow base e b v n c):Rv w b v n c:=by
 rcases h.2 with⟨rfl,l⟩|⟨g,cap,m,rfl,o,f,k,_⟩
 ·subst l
  have:c=[]:=Bv (by simpa using h.1);subst this;exact Y6 w b
 ·refine⟨h.1,_,cap,rfl,k,fun p=>⟨g,0,rfl, ?_,fun i j=> ?_⟩⟩
  ·rcases Gi g w.heap.size with a|a
   ·exact a
   ·rw[Dt a]at f;cases f
  ·have:=World.ownsRow.cells h (g:=g) rfl i _ (Ad j)
   rw[Ad j,←this];by_cases d:i=0
   ·subst d;simp[Addr.add]
   ·simp[Addr.add,d]
theorem A4 {w:World}{base:Nat}{e:TypeId}{b:Nat}{v:Value}{n:Nat}{xs:List Value}(h:w.ownsRow base e b v n xs):∃a c,v=.slice a n c:=by
 rcases h.2 with⟨rfl,rfl⟩|⟨g,c,d,rfl,_⟩
 ·exact⟨none,0,rfl⟩
 ·exact⟨_,c,rfl⟩
theorem Rv.new (w:World)(a:List Value)(T:TypeId)(c n cap:Nat)(f:a.length=n*c)(e:n≤cap)(b:Nat)(d:b=w.heap.size):Rv (w.alloc (.cells a.toArray T)) c (.slice (some ⟨b,0,none⟩) n cap) n a:=by subst d;refine⟨f,_,cap,rfl,e,fun _=>⟨w.heap.size,0,rfl,by simp,fun i g=> ?_⟩⟩;rw[(BY w a T).cell,AP]
def Y1:=@Rv.new
abbrev Rd (w:World)(v:Value)(l:List Nat):Prop:=Rv w 1 v l.length (Bb l)
theorem Rd.keep0 {w e:World}{v:Value}{l:List Nat}{S:List Nat}(h:Rd w v l)(k:Keep S w e)(f:∀b,v.ownBlock=some b→0<l.length→b∉S):Rd e v l:=by obtain⟨c,a,cap,rfl,j,h⟩:=h;refine⟨c,a,cap,rfl,j,fun c=> ?_⟩;obtain⟨sb,n,rfl,d,g⟩:=h c;exact⟨sb,n,rfl,AW d k.size,fun i m=>by rw[k.cell d (f sb rfl (by simpa using c))];exact g i m⟩
def Yw:=@Rd.keep0
theorem Rd.lo {w:World}{v:Value}{l:List Nat}(h:Rd w v l):∀b,v.ownBlock=some b→0<l.length→b<w.heap.size:=by obtain⟨i,a,cap,rfl,g,h⟩:=h;intro b c d;obtain⟨sb,j,rfl,e,f⟩:=h (by simpa using d);cases c;exact e
theorem Rd.src {P:Program}{w:World}{v:Value}{l:List Nat}{t e:TypeId}(h:Rd w v l)(a:P.underlying t=some (.slice e)):Src P 1 t v l.length (Bb l) w:=Rv.src h a (Fk l)
def Buf (w:World)(base:Nat)(E:TypeId)(v:Value)(l:List Nat):Prop:=w.ownsRow base E 1 v l.length (Bb l)
theorem Buf.nil (w:World)(base:Nat)(E:TypeId):Buf w base E (.slice none 0 0) []:=AY w base E 1
def Y4:=@Buf.nil
theorem Buf.slice {w:World}{base:Nat}{E:TypeId}{v:Value}{l:List Nat}(h:Buf w base E v l):∃a cap,v=.slice a l.length cap:=by
 rcases h.2 with⟨rfl,b⟩|⟨g,cap,c,rfl,_⟩
 ·exact⟨none,0,by rw[b]⟩
 ·exact⟨_,_,rfl⟩
theorem Buf.rd {w:World}{base:Nat}{E:TypeId}{v:Value}{l:List Nat}(h:Buf w base E v l):Rd w v l:=Fa h
theorem Buf.keep {w d:World}{base:Nat}{E:TypeId}{v:Value}{l:List Nat}{S:List Nat}(h:Buf w base E v l)(k:Keep S w d)(f:∀b,v.ownBlock=some b→b∉S):Buf d base E v l:=by
 refine⟨h.1, ?_⟩;rcases h.2 with⟨rfl,m⟩|⟨g,cap,e,rfl,i,c,r⟩
 ·exact .inl ⟨rfl,m⟩
 ·refine .inr ⟨g,cap,e,rfl,i, ?_,r⟩
  have j:g<w.heap.size:=by
   rcases Gi g w.heap.size with a|a
   ·exact a
   ·rw[Dt a]at c;cases c
  rw[k.block g j (f g rfl)];exact c
theorem Buf.alloc {w:World}{base:Nat}{E:TypeId}{v:Value}{l:List Nat}(h:Buf w base E v l)(o:Obj):Buf (w.alloc o) base E v l:=
 h.keep ((By [] _).alloc _) (by simp)
theorem Jn {P:Program}{t e:TypeId}(b:P.underlying t=some (.slice e))(w:World)(X:Nat)(T:TypeId):
  Src P 1 t (.slice (some ⟨w.heap.size,0,none⟩) 1 1) 1 (Bb [X]) (w.alloc (.cells #[.int .u8 (X:Int)] T)):=by
 refine CC _ b ⟨w.heap.size,0,none⟩ 1 1 (Bb [X]) rfl ?_ (Fk _);intro j u a
 match j,a with
 |0,a=>simp[Bb]at a;subst a;simp[Addr.add,bc]
 |j+1,a=>simp[Bb]at a
theorem Buf.mono {w:World}{base a:Nat}{E:TypeId}{v:Value}{l:List Nat}(h:Buf w base E v l)(c:a≤base):Buf w a E v l:=by
 refine⟨h.1, ?_⟩;rcases h.2 with⟨rfl,e⟩|⟨g,cap,b,rfl,d,r⟩
 ·exact .inl ⟨rfl,e⟩
 ·exact .inr ⟨g,cap,b,rfl,AJ c d,r⟩
theorem Buf.lt {w:World}{base:Nat}{E:TypeId}{v:Value}{l:List Nat}(h:Buf w base E v l):∀k,v.ownBlock=some k→base≤k∧k<w.heap.size:=B3 h
theorem Keep.grown {w a:World}{row:Option Nat}(h:w.grownBy a row):Keep row.toList w a:=
 ⟨h.os,h.tape,h.output,h.size,fun k b c=>h.block k b (fun e=>c (by simp[←e]))⟩
def DJ:=@Keep.grown
structure Onto (w:World) (base:Nat) (E:TypeId) (v:Value) (l:List Nat) (v':Value) (w':World):Prop where
 buf:Buf w' base E v' l
 keep:Keep v.ownBlock.toList w w'
 own:∀k,v'.ownBlock=some k→v.ownBlock=some k∨w.heap.size≤k
theorem Onto.refl {w:World}{base:Nat}{E:TypeId}{v:Value}{l:List Nat}(h:Buf w base E v l):Onto w base E v l v w:=⟨h,By _ _,fun _ h=> .inl h⟩
def YB:=@Onto.refl
theorem Onto.alloc {w b:World}{base:Nat}{E:TypeId}{v a:Value}{l:List Nat}(h:Onto w base E v l a b)(o:Obj):Onto w base E v l a (b.alloc o):=⟨h.buf.alloc o,h.keep.alloc o,h.own⟩
theorem Onto.app {w d f:World}{base:Nat}{E:TypeId}{v b c:Value}{l m:List Nat}(h:Onto w base E v l b d)(g:f.ownsRow base E 1 c (l.length+m.length) (Bb l++Bb m))(i:d.grownBy f b.ownBlock)
  (j:∀k,c.ownBlock=some k→b.ownBlock=some k∨d.heap.size≤k):Onto w base E v (l++m) c f:=by
 refine⟨by unfold Buf;rw[Aj,DW];exact g,h.keep.then (DJ i) ?_,fun k n=> ?_⟩
 ·intro x o p
  have e:b.ownBlock=some x:=by simpa using o
  rcases h.own x e with a|a
  ·simp[a]
  ·omega
 ·rcases j k n with a|a
  ·exact h.own k a
  ·exact .inr (AJ h.keep.size a)
theorem Onto.trans {w f g:World}{base:Nat}{E:TypeId}{v c d:Value}{l m:List Nat}(h:Onto w base E v l c f)(k:Onto f base E c m d g):Onto w base E v m d g:=by
 refine⟨k.buf,h.keep.then k.keep ?_,fun x b=> ?_⟩
 ·intro x b i
  have e:c.ownBlock=some x:=by simpa using b
  rcases h.own x e with a|a
  ·simp[a]
  ·omega
 ·rcases k.own x b with a|a
  ·exact h.own x a
  ·exact .inr (AJ h.keep.size a)
theorem UD {w:World}{a:Addr}(h:(w.cell? a).isSome =true):∃sb b,a=⟨sb,b,none⟩∧sb<w.heap.size∧∀i,a.add i=⟨sb,b+i,none⟩:=by
 obtain⟨sb,b,e⟩:=a
 have g:e=none:=by
  cases e with
  |none=>rfl
  |some q=>unfold World.cell? at h;split at h<;>simp at h
 subst g
 have f:sb<w.heap.size:=by
  rcases Gi sb w.heap.size with c|c
  ·exact c
  ·simp[World.cell?,Dt c]at h
 refine⟨sb,b,rfl,f,fun i=> ?_⟩;by_cases d:i=0
 ·subst d;simp[Addr.add]
 ·simp[Addr.add,d]
theorem i64_wf {n:Int}(h:(Lit.int .i64 n).wf =true): -9223372036854775808≤n∧n≤9223372036854775807:=by simp[Lit.wf,IntKind.min,IntKind.max,IntKind.signed,IntKind.bits]at h;omega
theorem Tryz.info8:(Tryz.prog.info? 5).map (fun i=>(i.zero,i.size,i.bytes))=some (some (.int .u8 0),1,1):=by kernel_rfl
def In:=@Tryz.info8
theorem Tryz.infoS:(Tryz.prog.info? 9).map (fun i=>(i.zero,i.size,i.bytes))=some (some (.string ByteArray.empty),1,16):=by kernel_rfl
theorem Tryz.infoI:(Tryz.prog.info? 3).map (fun i=>(i.zero,i.size,i.bytes))=some (some (.int .i64 0),1,8):=by kernel_rfl
theorem Tryz.infoB:(Tryz.prog.info? 4).map (fun i=>(i.zero,i.size,i.bytes))=some (some (.bool false),1,1):=by kernel_rfl
def ints (l:List Int):List Value:=l.map (Value.int .i64)
theorem Hm (l:List Int)(i:Nat)(h:i<l.length):(ints l)[i]?=some (.int .i64 (l.getD i 0)):=by simp[ints,AN,Af,h]
def II (n:Int):Prop:=-9223372036854775808≤n∧n≤9223372036854775807
def sb (t:ByteArray):List Nat:=t.data.toList.map UInt8.toNat
theorem CO (t:ByteArray):(sb t).length =t.size:=by simp[sb]
theorem On (t:ByteArray):byteCells t=Bb (sb t):=by simp[byteCells,Bb,sb,bc,EW,Function.comp_def]
def Tv (l:List ByteArray):List Value:=l.map Value.string
theorem WZ (l:List ByteArray)(i:Nat)(h:i<l.length):(Tv l)[i]?=some (.string (l.getD i ByteArray.empty)):=by simp[Tv,AN,Af,h]
theorem PE (l:List Int):∀u∈ints l,u.oneCell'=true:=by intro u a;obtain⟨b,_,rfl⟩:=AI.1 a;rfl
@[simp] theorem CK (l:List Int):(ints l).length =l.length:=by simp[ints]
@[simp] theorem PF (l m:List Int):ints (l++m)=ints l++ints m:=by simp[ints]
def WA (l:List Bool):List Value:=l.map Value.bool
theorem W9 (l:List Bool)(i:Nat)(h:i<l.length):(WA l)[i]?=some (.bool (l.getD i false)):=by simp[WA,AN,Af,h]
def Ty (w:World)(b:Nat)(T:TypeId):Prop:=∃a c,w.heap[b]?=some (.cells a T c)
theorem Ty.ne {w:World}{b e:Nat}{T d:TypeId}(h:Ty w b T)(a:Ty w e d)(g:T≠d):b≠e:=by rintro rfl;obtain⟨c,f,h⟩:=h;obtain⟨i,j,a⟩:=a;rw[h]at a;injection a with a;injection a with _ ht;exact g ht
theorem Blk.ty {w:World}{b:Nat}{a:List Value}{T:TypeId}(h:Blk w b a T):Ty w b T:=⟨_,_,h⟩
theorem Ty.lt {w:World}{b:Nat}{T:TypeId}(h:Ty w b T):b<w.heap.size:=by
 obtain⟨c,f,h⟩:=h;rcases Gi b w.heap.size with a|a
 ·exact a
 ·rw[Dt a]at h;cases h
theorem Ty.keep {w a:World}{b:Nat}{T:TypeId}{S:List Nat}(h:Ty w b T)(k:Keep S w a)(e:b∉S):Ty a b T:=by have d:=h.lt;obtain⟨c,f,h⟩:=h;exact⟨c,f,by rw[k.block b d e];exact h⟩
def Own (w:World)(base:Nat)(E:TypeId)(v:Value)(a:List Value):Prop:=w.ownsRow base E 1 v a.length a
theorem Own.nil (w:World)(base:Nat)(E:TypeId):Own w base E (.slice none 0 0) []:=AY w base E 1
def YA:=@Own.nil
theorem Own.lt {w:World}{base:Nat}{E:TypeId}{v:Value}{a:List Value}(h:Own w base E v a):∀k,v.ownBlock=some k→base≤k∧k<w.heap.size:=B3 h
theorem Own.ty {w:World}{base:Nat}{E:TypeId}{v:Value}{c:List Value}(h:Own w base E v c):∀k,v.ownBlock=some k→Ty w k E:=by
 intro k a;rcases h.2 with⟨rfl,_⟩|⟨g,cap,d,rfl,_,b,_⟩
 ·cases a
 ·cases a;exact⟨_,_,b⟩
theorem Own.slice {w:World}{base:Nat}{E:TypeId}{v:Value}{b:List Value}(h:Own w base E v b):∃a cap,v=.slice a b.length cap:=by
 rcases h.2 with⟨rfl,c⟩|⟨g,cap,d,rfl,_⟩
 ·exact⟨none,0,by rw[c]⟩
 ·exact⟨_,_,rfl⟩
theorem Own.rv {w:World}{base:Nat}{E:TypeId}{v:Value}{a:List Value}(h:Own w base E v a):Rv w 1 v a.length a:=Fa h
theorem Own.keep {w c:World}{base:Nat}{E:TypeId}{v:Value}{a:List Value}{S:List Nat}(h:Own w base E v a)(k:Keep S w c)(e:∀b,v.ownBlock=some b→b∉S):Own c base E v a:=by
 refine⟨h.1, ?_⟩;have j:=h.lt;rcases h.2 with⟨rfl,l⟩|⟨g,cap,d,rfl,f,i,r⟩
 ·exact .inl ⟨rfl,l⟩
 ·exact .inr ⟨g,cap,d,rfl,f,by rw[k.block g (j g rfl).2 (e g rfl)];exact i,r⟩
theorem Own.alloc {w:World}{base:Nat}{E:TypeId}{v:Value}{a:List Value}(h:Own w base E v a)(o:Obj):Own (w.alloc o) base E v a:=World.ownsRow.alloc h o
theorem Own.drew {w:World}{base:Nat}{E:TypeId}{v:Value}{a:List Value}(h:Own w base E v a):Own w.drew base E v a:=h
theorem Own.mono {w:World}{base a:Nat}{E:TypeId}{v:Value}{b:List Value}(h:Own w base E v b)(d:a≤base):Own w a E v b:=by
 refine⟨h.1, ?_⟩;rcases h.2 with⟨rfl,f⟩|⟨g,cap,c,rfl,e,r⟩
 ·exact .inl ⟨rfl,f⟩
 ·exact .inr ⟨g,cap,c,rfl,AJ d e,r⟩
theorem Own.blk {w:World}{base:Nat}{E:TypeId}{v:Value}{a:List Value}(h:Own w base E v a)(l:0<a.length):
  ∃g cap spare,v=.slice (some ⟨g,0,none⟩) a.length cap∧a.length≤cap∧base≤g∧Blk w g (a++spare) E:=by
 rcases h.2 with⟨rfl,k⟩|⟨g,cap,b,rfl,e,i,f,j,m,d⟩
 ·omega
 ·refine⟨g,cap,b.toList.drop a.length,rfl,f,e, ?_⟩
  unfold Blk
  have:a++b.toList.drop a.length=b.toList:=by have c:=BX a.length b.toList;rw[FC]at d;rw[d]at c;exact c
  rw[this];exact i
theorem Own.app {d:World}{base:Nat}{E:TypeId}{c:Value}{b a:List Value}{m:Nat}(e:a.length=m)(h:d.ownsRow base E 1 c (b.length+m) (b++a)):Own d base E c (b++a):=by unfold Own;rw[Aj,e];exact h
theorem Lc {P:Program}{t e:TypeId}(f:P.underlying t=some (.slice e))(w:World)(u:Value)(c:u.oneCell'=true)(T:TypeId)(b:Nat)(d:b=w.heap.size):
  Src P 1 t (.slice (some ⟨b,0,none⟩) 1 1) 1 [u] (w.alloc (.cells #[u] T)):=by
 subst d;refine CC _ f ⟨w.heap.size,0,none⟩ 1 1 [u] rfl ?_ (by simpa using c);intro j x a
 match j,a with
 |0,a=>simp at a;subst a;simp[Addr.add]
 |j+1,a=>simp at a
theorem src_at {P:Program}{t e:TypeId}(f:P.underlying t=some (.slice e))(w:World)(b:Nat)(u:Value)(d:w.cell? ⟨b,0,none⟩=some u)(c:u.oneCell'=true):
  Src P 1 t (.slice (some ⟨b,0,none⟩) 1 1) 1 [u] w:=by
 refine CC _ f ⟨b,0,none⟩ 1 1 [u] rfl ?_ (by simpa using c);intro j x a
 match j,a with
 |0,a=>simp at a;subst a;simpa[Addr.add]using d
 |j+1,a=>simp at a
theorem BO {P:Program}(w:World){U:Array Oper}{o:Oper}{a:Act}{K:Act→World→Prop}{Q:Exit→Act→World→Prop}{F:Prop}(D:o.guard=none)(s x:Operand)(t j:TypeId)
  (G:o.op=.call {callee:= .builtin .append,args:=#[s,x],argTypes:=#[t,j]})
  (base:Nat) (e:TypeId) (i:TypeInfo) (z:Value) (b f:Nat) (O:P.underlying t=some (.slice e)) (E:P.info? e=some i) (S:i.zero=some z)
  (L:i.size=b) (B:i.bytes=f) (T:z.cells.size=b) (N:0<b)
  (v:Value) (n:Nat) (xs:List Value) (J:a.eval s=v) (H:w.ownsRow base e b v n xs)
  (l:Value) (m:Nat) (g:List Value) (R:a.eval x=l) (M:Src P b j l m g w)
  (y:n+m≤maxLen) (C:(n+m)*f≤140737488355328) (A:base≤w.heap.size)
  (h:∀c d,d.ownsRow base e b c (n+m) (xs++g)→w.grownBy d v.ownBlock→(c=.slice none 0 0↔v=.slice none 0 0∧m=0)→(∀k,c.ownBlock=some k→v.ownBlock=some k∨w.heap.size≤k)→K (a.put o.dst c) d):
  if Region.wanted o (yielded U a.tmps)=true then Oper.wp P o a w K Q else F:=by
 rw[Ay (by simp[Region.wanted,D])];obtain⟨c,d,I,p,q,r,u⟩:=Ii (P:=P) w base t j o.type e i z b f O E S L B T N v n xs H l m g M y C A;unfold Oper.wp execOp;simp only[G,resolve,invoke,builtin,Db,Sem.run_pure,Result.andThen_ok,DZ,Br,Cy,J,R,I];exact h c d p q r u
def BQ {α:Type}(l:List α)(o:Nat)(a:List α):List α:=l.take o++(a++l.drop (o+a.length))
theorem Kd {α:Type}(l:List α)(o:Nat)(a:List α)(h:o+a.length≤l.length):(BQ l o a).length =l.length:=by unfold BQ;simp;omega
theorem Pd {α:Type}(l:List α)(o:Nat):BQ l o []=l:=by simp[BQ]
theorem MN {α:Type}(l:List α)(o:Nat)(v:α)(a:List α)(h:o+(a.length+1)≤l.length):BQ (l.set o v) (o+1) a=BQ l o (v::a):=by
 unfold BQ
 have b:(l.set o v).take (o+1)=l.take o++[v]:=by rw[Bw (by simp;omega),List.take_set_of_le (Av _)];simp
 have c:(l.set o v).drop (o+1+a.length)=l.drop (o+(a.length+1)):=by rw[List.drop_set_of_lt (by omega),show o+1+a.length=o+(a.length+1) by omega]
 rw[b,c];simp
theorem Blk.setCells {b:Nat}{T:TypeId}:∀(a:List Value) (o:Nat) (w:World) (c:List Value),Blk w b c T→o+a.length≤c.length→Blk (w.setCells b o a) b (BQ c o a) T:=by
 intro a
 induction a with
 |nil=>intro o w c h _;rw[Pd];exact h
 |cons v a ih=>intro o w c h d;simp only[List.length_cons]at d;rw[←MN c o v a (by omega)];exact ih (o+1) _ _ (h.set o v) (by simp;omega)
theorem Keep.setCells {S:List Nat}{b:Nat}:∀(c:List Value) (o:Nat) (a w:World),Keep S a w→b∈S∨a.heap.size≤b→Keep S a (w.setCells b o c):=by
 intro c
 induction c with
 |nil=>intro o a w h _;exact h
 |cons v c ih=>intro o a w h d;exact ih (o+1) a _ (h.setCell d v) d
def E6:=@Keep.setCells
theorem Blk.range {w:World}{b:Nat}{c:List Value}{T:TypeId}(h:Blk w b c T)(o n:Nat):w.rangeAt b o ((c.drop o).take n):=by
 intro j v a;rw[h.cell];rw[BP]at a
 split at a
 ·rw[←a,Bp]
 ·cases a
theorem Blk.there {w:World}{b:Nat}{a:List Value}{T:TypeId}(h:Blk w b a T)(o n:Nat)(d:o+n≤a.length):w.there b o n:=by intro j c;exact⟨by rw[h.cell,Ad (by omega)];rfl,h.free _⟩
theorem AS {P:Program}{e:Array Oper}{rest:List Oper}{op:Oper}{a:Act}{w:World}{Q:Exit→Act→World→Prop}(g:op.guard=none)(ty:TypeId)(x y:Operand)(j:op.op=.store ty x y)
  (b:Nat) (old cells:List Value) (T:TypeId) (k:a.eval x=pr b 0) (l:a.eval y=.agg cells.toArray)
  (d:Blk w b old T) (m:old.length=cells.length) (i:(P.info? ty).map (·.size)=some cells.length) (f:∀v∈cells,v.oneCell'=true)
  (h:∀c,Blk c b cells T→Keep [b] w c→wpList P e Q rest (a.put op.dst undef) c):wpList P e Q (op::rest) a w:=by
 refine wpList_store_mid g ty x y j b 0 cells.toArray k l (d.there 0 _ (by simp;omega)) (by simpa using i) (Fe f) (h _ ?_ (E6 _ _ _ _ (By _ _) (.inl (by simp))));have:=d.setCells cells 0 w _ (by omega);unfold BQ at this;rw[Bz (by omega)]at this;simpa using this
theorem JC {P:Program}{e:Array Oper}{w:World}{Q:Act→Prop}{a:Act}{op:Oper}{rest:List Oper}(j:op.guard=none)(ty:TypeId)(x:Operand)(l:op.op=.load ty x)
  (b o:Nat) (n:a.eval x=pr b o) (c:List Value) (d:TypeDesc) (g:w.rangeAt b o c)
  (m:P.underlying ty=some d) (i:d.isRow=true) (k:(P.info? ty).map (·.size)=some c.length)
  (h:wpStill P e w Q rest (a.put op.dst (.agg c.toArray))):wpStill P e w Q (op::rest) a:=by
 refine wpStill_step (fun K f=> ?_);rw[Ay (by simp[Region.wanted,j])];unfold Oper.still execOp;simp only[l,n,Instr.loadAt,Instr.sureAddr,Db,Sem.run_pure,Result.andThen_ok,run_loadVar_mid w b o ty c d g m i k];exact⟨rfl,f _ h⟩
theorem Mm {P:Program}{b:Array Oper}{w:World}{Q:Act→Prop}{a:Act}{op:Oper}{rest:List Oper}(d:op.guard=none)(t:TypeId)(parts:Array (Nat×Operand))(e:op.op=.build t parts)
  (ps:Array (Nat×Value)) (f:(parts.map fun(i,x)=>(i,a.eval x))=ps) (v:Value) (g:(Instr.build t ps).run P w=.ok v w)
  (h:wpStill P b w Q rest (a.put op.dst v)):wpStill P b w Q (op::rest) a:=by
 refine wpStill_step (fun K c=> ?_);rw[Ay (by simp[Region.wanted,d])];unfold Oper.still execOp;simp only[e,f,Db,Sem.run_pure,Result.andThen_ok,g];exact⟨rfl,c _ h⟩
structure Sec where
 now:List Nat
 lasts:List Nat
 loose:Bool
def Sec.ok (s:Sec):Prop:=s.now.length=64∧s.lasts.length=64∧(∀c∈s.now,c<256)∧∀c∈s.lasts,c<256
def AT (s:Sec):List Value:=Bb s.now++(Bb s.lasts++[.bool s.loose])
theorem Cw {s:Sec}(h:s.ok):(AT s).length =129:=by unfold AT;simp[h.1,h.2.1]
def devCells (l:List Sec):List Value:=(l.map AT).flatten
theorem CT {l:List Sec}(h:∀s∈l,s.ok):(devCells l).length =129*l.length:=by
 induction l with
 |nil=>rfl
 |cons s l ih=>have:=ih (fun x a=>h x (by simp[a]));have b:=Cw (h s (by simp));simp only[devCells,Br,List.flatten_cons,Aj,List.length_cons]at*;omega
theorem Fw (l m:List Sec):devCells (l++m)=devCells l++devCells m:=by simp[devCells]
theorem G9 (s:Sec)(m:List Sec):devCells (s::m)=AT s++devCells m:=by simp[devCells]
theorem Nh {l:List Sec}(i:Nat)(s:Sec)(a:l[i]?=some s):l=l.take i++s::l.drop (i+1):=by have b:i<l.length:=(Ai.1 a).1;have e:=(Ai.1 a).2;rw[←e,←Cj b,BX]
theorem DT {l:List Sec}(h:∀s∈l,s.ok)(i:Nat)(s:Sec)(a:l[i]?=some s)(j n:Nat)(g:j+n≤129):
  ((devCells l).drop (i*129+j)).take n=((AT s).drop j).take n:=by
 have k:i<l.length:=(Ai.1 a).1;have e:=Nh i s a;have d:s.ok:=h s (Aq a);have b:=Cw d
 have c:(devCells (l.take i)).length =i*129:=by rw[CT (fun x f=>h x (AH f)),Az];omega
 rw[e,Fw,G9,Ec,c,Bz (by omega),List.nil_append,
  show i*129+j-i*129=j by omega,Ec,b,BE (by rw[A5];omega)]
theorem Eq {l:List Sec}(h:∀s∈l,s.ok)(i:Nat)(s a:Sec)(c:l[i]?=some s)(q:a.ok)(j:Nat)(b:List Value)(o:j+b.length≤129)(g:BQ (AT s) j b=AT a):
  BQ (devCells l) (i*129+j) b=devCells (l.set i a):=by
 have k:i<l.length:=(Ai.1 c).1;have e:=Nh i s c;have m:s.ok:=h s (Aq c);have p:=Cw m
 have d:(devCells (l.take i)).length =i*129:=by rw[CT (fun x n=>h x (AH n)),Az];omega
 have f:l.set i a=l.take i++a::l.drop (i+1):=by rw[CF,Ay k]
 rw[f,Fw,G9,←g]
 conv=>lhs;rw[e]
 rw[Fw,G9];unfold BQ
 rw[List.take_append,d,Ba (by omega),show i*129+j-i*129=j by omega,BE (by omega),
  Ec,d,Bz (by omega),List.nil_append,show i*129+j+b.length-i*129=j+b.length by omega,C3 (by omega)]
 simp
theorem Hg {l:List Sec}(h:∀s∈l,s.ok)(i:Nat)(a:Sec)(d:a.ok):∀s∈l.set i a,s.ok:=by
 intro s c;rcases DC c with b|rfl
 ·exact h s b
 ·exact d
theorem My (z:Array Value)(c:0<z.size)(n:Nat):madeCells z (n*z.size)=((List.replicate n z.toList).flatten).toArray :=by
 apply Array.ext';simp only[madeCells,Array.toList_map,Array.toList_range]
 induction n with
 |zero=>simp
 |succ n ih=>
  rw[Nat.succ_mul,List.range_add,AL,ih,List.replicate_succ'];simp only[List.flatten_append,List.flatten_cons,List.flatten_nil,AE,EW]
  congr 1
  apply List.ext_getElem
  ·simp
  ·intro j a b
   simp at a;simp only[List.getElem_map,List.getElem_range,Function.comp_apply];rw[Nat.add_comm,Nat.add_mul_mod_self_right,AR a,getElem!_pos z j a];simp
theorem DI {P:Program}(w:World){d:Array Oper}{rest:List Oper}{o:Oper}{a:Act}{Q:Exit→Act→World→Prop}
  (v:o.guard=none) (l c:Operand) (t:TypeId) (y:o.op=Op.makeSlice t l c)
  (e:TypeId) (i:TypeInfo) (z:Value) (f:P.underlying t=some (.slice e)) (g:P.info? e=some i) (j:i.zero=some z) (k:i.size=z.cells.size) (m:0<z.cells.size)
  (C:Int) (n:Nat) (x:a.eval l=.int .i64 C) (u:a.eval c=.int .i64 C) (p:C=(n:Int)) (A:i.bytes*n≤281474976710656) (B:n≤9223372036854775807)
  (q:wpList P d Q rest (a.put o.dst (.slice (some ⟨w.heap.size,0,none⟩) n n)) (w.alloc (.cells ((List.replicate n z.cells.toList).flatten).toArray e))):
  wpList P d Q (o::rest) a w:=by
 subst p;refine wpList_plain v fun K r=> ?_
 have s:(i.bytes:Int)*(n:Int)≤281474976710656:=by
  have h:((i.bytes*n:Nat):Int)≤281474976710656:=by omega
  rw[Int.natCast_mul]at h;exact h
 have b:=run_make (P:=P) w t e i z f g j .i64 .i64 (n:Int) (n:Int) (by omega) (by omega) s (by omega);rw[k,Int.toNat_natCast,My _ m]at b;unfold Oper.wp execOp;simp only[y,Db,Sem.run_pure,Result.andThen_ok,x,u,b];exact r _ _ q
theorem N5 {P:Program}(w:World)(t k ty e:TypeId)(i:TypeInfo)(s:P.underlying t=some (.slice e))(o:P.info? e=some i)(u:i.size=1)(b d f l:Nat)(x:Value)(n:Nat)(c:List Value)
  (a:Src P 1 k x n c w) (r:n≤f) (h:w.there b d n):
  (Builtin.copy_ #[t,k] ty #[.slice (some ⟨b,d,none⟩) f l,x]).run P w=.ok (goInt n) (w.setCells b d c):=by
 have v:c.length=n:=by have:=a.newsLen;omega
 have g:=run_storeCells_cells (P:=P) b d c 0 w (fun j p=>by simpa using(h j (by omega)).1) (fun j p=>by simpa using(h j (by omega)).2) a.one;have q:min n f=n:=BZ r;have m:=a.cells;simp only[Nat.add_zero]at g;simp[Builtin.copy_,Cn s,sizeOf,typeInfo,o,u,a.len,q,m,Gq,g]
theorem Hu {P:Program}(w:World){l:Array Oper}{rest:List Oper}{o:Oper}{a:Act}{Q:Exit→Act→World→Prop}(p:o.guard=none)(s x:Operand)(t g:TypeId)
  (u:o.op=.call {callee:= .builtin .copy,args:=#[s,x],argTypes:=#[t,g]}) (e:TypeId) (i:TypeInfo) (A:P.underlying t=some (.slice e)) (q:P.info? e=some i) (D:i.size=1)
  (b c d k:Nat) (z:a.eval s=.slice (some ⟨b,c,none⟩) d k) (j:Value) (n:Nat) (f:List Value) (C:a.eval x=j) (y:Src P 1 g j n f w) (r:n≤d) (B:w.there b c n)
  (h:wpList P l Q rest (a.put o.dst (goInt n)) (w.setCells b c f)):wpList P l Q (o::rest) a w:=by
 have v:=N5 (P:=P) w t g o.type e i A q D b c d k j n f y r B;refine wpList_plain p fun K m=> ?_
 unfold Oper.wp execOp;simp only[u,resolve,invoke,builtin,Db,Sem.run_pure,Result.andThen_ok,DZ,Br,Cy,z,C,v];exact m _ _ h
theorem Ky (a b:Nat)(e:a<256)(f:b<256):bits .and .u8 (a:Int) (b:Int)=((a&&&b:Nat):Int):=by
 have g:a&&&b<2^8:=Nat.and_lt_two_pow _ (by omega)
 have c:(BitVec.ofInt 8 (a:Int)).toNat =a:=by rw[BitVec.ofInt_natCast,Ck];exact AR (by omega)
 have d:(BitVec.ofInt 8 (b:Int)).toNat =b:=by rw[BitVec.ofInt_natCast,Ck];exact AR (by omega)
 show IntKind.u8.wrap ((BitVec.ofInt 8 (a:Int)&&&BitVec.ofInt 8 (b:Int)).toNat :Int)=_;rw[BitVec.toNat_and,c,d,IntKind.wrap_u8];omega
theorem LU (a b:Nat)(e:a<256)(f:b<256):bits .or .u8 (a:Int) (b:Int)=((a|||b:Nat):Int):=by
 have g:a|||b<2^8:=Nat.or_lt_two_pow (by omega) (by omega)
 have c:(BitVec.ofInt 8 (a:Int)).toNat =a:=by rw[BitVec.ofInt_natCast,Ck];exact AR (by omega)
 have d:(BitVec.ofInt 8 (b:Int)).toNat =b:=by rw[BitVec.ofInt_natCast,Ck];exact AR (by omega)
 show IntKind.u8.wrap ((BitVec.ofInt 8 (a:Int)|||BitVec.ofInt 8 (b:Int)).toNat :Int)=_;rw[BitVec.toNat_or,c,d,IntKind.wrap_u8];omega
theorem or128:∀x,x<256→x|||128=x % 128+128:=by decide+kernel
theorem and127 (x:Nat):x&&&127=x % 128:=Nat.and_two_pow_sub_one_eq_mod x 7
theorem or8 (u:Nat):bits .or .u8 (IntKind.u8.wrap (u:Int)) 128=((u % 128+128:Nat):Int):=by
 have e:IntKind.u8.wrap (u:Int)=((u % 256:Nat):Int):=by rw[IntKind.wrap_u8];omega
 rw[e,show(128:Int)=((128:Nat):Int)from rfl,LU _ _ (by omega) (by omega),or128 _ (by omega)];omega
theorem or8m (u:Nat):bits .or .u8 ((u:Int) % 256) 128=((u % 128+128:Nat):Int):=by rw[←or8,IntKind.wrap_u8]
theorem and8 (c:Nat)(h:c<256):bits .and .u8 (c:Int) 127=((c % 128:Nat):Int):=by rw[show(127:Int)=((127:Nat):Int)from rfl,Ky _ _ h (by omega),and127]
theorem Oy (x:Nat)(h:x<18446744073709551616):18446744073709551615^^^x=18446744073709551615-x:=by
 have a:=BitVec.toNat_not (x:=BitVec.ofNat 64 x);have b:(~~~(BitVec.ofNat 64 x))=BitVec.allOnes 64^^^BitVec.ofNat 64 x:=by rw[BitVec.allOnes_xor]
 rw[b,BitVec.toNat_xor,BitVec.toNat_allOnes,Ck,AR h]at a;simpa using a
theorem Pe (u x s:Nat)(h:u<2^s):u|||x*2^s=u+x*2^s:=by rw[Nat.or_comm,Nat.mul_comm,←Nat.two_pow_add_eq_or_of_lt h x];omega
theorem Xo (x:Nat)(h:x<9223372036854775808):bits .xor .i64 (-1) (x:Int)= -(x:Int)-1:=by
 have a:BitVec.ofInt 64 (-1)=BitVec.allOnes 64:=by decide
 have b:(BitVec.ofInt 64 (x:Int)).toNat =x:=by rw[BitVec.ofInt_natCast,Ck];exact AR (by omega)
 show IntKind.i64.wrap ((BitVec.ofInt 64 (-1)^^^BitVec.ofInt 64 (x:Int)).toNat :Int)=_;rw[a,BitVec.toNat_xor,b,BitVec.toNat_allOnes];have c:=Oy x (by omega);have e:(2^64-1:Nat)=18446744073709551615:=rfl;rw[e,c,A9];omega
def toStr (l:List Nat):ByteArray:=⟨(l.map UInt8.ofNat).toArray⟩
@[simp] theorem KX (l:List Nat):(toStr l).size =l.length:=by show(l.map UInt8.ofNat).toArray.size =_;simp
theorem Tp {l m:List Nat}(f:∀c∈l,c<256)(g:∀c∈m,c<256)(h:toStr l=toStr m):l=m:=by
 have d:l.map UInt8.ofNat=m.map UInt8.ofNat:=by have:=A3 (fun b:ByteArray=>b.data.toList) h;simpa[toStr]using this
 have a:=A3 (List.map UInt8.toNat) d;simp only[EW]at a
 have key:∀x:List Nat,(∀c∈x,c<256)→x.map (UInt8.toNat∘UInt8.ofNat)=x:=by
  intro x i
  conv=>rhs;rw[←List.map_id x]
  apply List.map_congr_left;intro c e;simp[AR (i c e)]
 rwa [key l f,key m g]at a
theorem Rv.sub {w:World}{n:Nat}{f:List Value}{sb b cap:Nat}(h:Rv w 1 (.slice (some ⟨sb,b,none⟩) n cap) n f)(k m c:Nat)(u:k+m≤n)(l:m≤c):
  Rv w 1 (.slice (some ⟨sb,b+k,none⟩) m c) m ((f.drop k).take m):=by
 obtain⟨v,a,s,d,t,h⟩:=h;simp only[Bn]at d;obtain⟨rfl,_,rfl⟩:=d;refine⟨by simp[Az,A5];omega,_,c,rfl,l,fun q=> ?_⟩
 have x:0<m:=by
  rcases F5 m with rfl|g
  ·simp at q
  ·exact g
 obtain⟨y,z,e,r,j⟩:=h (by omega);simp only[BU,Addr.mk.injEq]at e;obtain⟨rfl,rfl,_⟩:=e;refine⟨sb,b+k,rfl,r,fun i o=> ?_⟩;have p:i<m:=by simp[Az,A5]at o;omega
 rw[Cv,j (k+i) (by omega),BP,Ay p,Bp]
theorem D4 (l:List Nat)(k m:Nat):((Bb l).drop k).take m=Bb ((l.drop k).take m):=by simp[Bb,Dw,List.map_take]
theorem Rv.empty (w:World)(b:Nat)(a:Option Addr)(c:Nat):Rv w b (.slice a 0 c) 0 []:=⟨by simp,a,c,rfl,by omega,fun h=>by simp at h⟩
theorem Rd.str {P:Program}{w:World}{v:Value}{l:List Nat}{src dst e:TypeId}(h:Rd w v l)(q:∀c∈l,c<256)(d:P.underlying src=some (.slice e))(k:P.underlying e=some (.int .u8))(i:P.underlying dst=some .string):
  (convert src dst v).run P w=.ok (.string (toStr l)) w:=by
 obtain⟨_,a,cap,rfl,y,h⟩:=h
 cases a with
 |none=>
  have t:l=[]:=by
   cases l with
   |nil=>rfl
   |cons x r=>obtain⟨_,_,n,_⟩:=h (by simp);cases n
  subst t;exact Lib.run_convert_nil_bytes w src dst e cap d k i
 |some a=>
  have:=run_convert_bytes_back (P:=P) w src dst e a cap (l.map UInt8.ofNat) d k i (by
   intro j s;have b:j<l.length:=by simpa using s
   obtain⟨sb,m,f,d,p⟩:=h (by simpa using(by omega:0<l.length));simp only[BU]at f;subst f
   have o:((⟨sb,m,none⟩:Addr).add j)=⟨sb,m+j,none⟩:=by
    by_cases g:j=0
    ·subst g;simp[Addr.add]
    ·simp[Addr.add,g]
   rw[o,p j (by simpa using b),EL l j b];have u:=q (l[j]) (BS _);simp[bc,Af,b,AR u])
  rw[AD]at this;exact this
section
variable {P:Program} {w:World}
theorem Rv.cut {v:Value}{n:Nat}{e:List Value}(h:Rv w 1 v n e)(lo b:Nat)(t:lo≤b)(s:b≤n):
  ∀a cap,v=.slice a n cap→Rv w 1 (.slice (if cap=lo then a else a.map (·.add lo)) (b-lo) (cap-lo)) (b-lo) ((e.drop lo).take (b-lo)):=by
 rintro a cap rfl;obtain⟨j,p,q,d,r,h⟩:=h;simp only[Bn]at d;obtain⟨rfl,_,rfl⟩:=d;rw[FC]at j;refine⟨by simp[Az,A5];omega,_,_,rfl,by omega,fun l=> ?_⟩;simp only[Az,A5]at l;obtain⟨sb,o,rfl,m,f⟩:=h (by omega);have k:¬cap=lo:=by omega
 refine⟨sb,o+lo, ?_,m,fun i g=> ?_⟩
 ·rw[Aw k]
  simp only[Option.map_some,Addr.add];by_cases c:lo=0
  ·subst c;simp
  ·simp[c]
 ·simp only[Az,A5]at g
  rw[Cv,f (lo+i) (by omega),BP,Ay (by omega),Bp]
theorem EE (a:Option Addr)(n cap lo m c:Nat):(Value.slice (if cap=lo then a else a.map (·.add lo)) m c).ownBlock =(Value.slice a n cap).ownBlock :=by
 cases a with
 |none=>split<;>rfl
 |some a=>
  split
  ·rfl
  ·simp only[Option.map_some,Value.ownBlock,Addr.add]
   split<;>rfl
theorem Xg (t e:TypeId)(i:TypeInfo)(k:P.underlying t=some (.slice e))(c:P.info? e=some i)(o:i.size=1)(a:Option Addr)(n cap l h m:Nat)(d:l≤h)(j:h≤m)(f:m≤cap)(b:Option Value)(g:b=none∧m=cap∨b=some (.int .i64 m)):
  (Instr.sliceAt t (.slice a n cap) (some (.int .i64 (l:Int))) (some (.int .i64 (h:Int))) b).run P w=.ok (.slice (if m=l then a else a.map (·.add l)) (h-l) (m-l)) w:=by
 have p:(0:Int)≤(h:Int)∧(h:Int)≤(m:Int):=by omega
 have q:(0:Int)≤(l:Int)∧(l:Int)≤(h:Int):=by omega
 have r:(0:Int)≤(m:Int)∧(m:Int)≤(cap:Int):=by omega
 rcases g with⟨rfl,rfl⟩|rfl<;>
  simp[Instr.sliceAt,Cn k,Instr.slice,Instr.sliceBounds,Instr.sliceBound,asIntOf,p,q,r,d,j,f,sizeOf,typeInfo,c,o]
theorem IX (t e:TypeId)(i:TypeInfo)(d:P.underlying t=some (.slice e))(b:P.info? e=some i)(f:i.size=1)(a:Option Addr)(n cap l:Nat)(c:l≤n):
  (Instr.sliceAt t (.slice a n cap) (some (.int .i64 (l:Int))) none none).run P w=.ok (.slice (if cap=l then a else a.map (·.add l)) (n-l) (cap-l)) w:=by
 simp[Instr.sliceAt,Cn d,Instr.slice,Instr.sliceBounds,Instr.sliceBound,asIntOf,c,sizeOf,typeInfo,b,f]
theorem Et {h:Array Oper}{rest:List Oper}{Q:Exit→Act→World→Prop}{a:Act}(dst:Option Tmp)(t:TypeId)(x y:Operand)(ty:TypeId)(pos:String)(k:Array Edge)(e:TypeId)(i:TypeInfo)
  (r:P.underlying t=some (.slice e)) (o:P.info? e=some i) (z:i.size=1) (v:Value) (n:Nat) (j:List Value) (lo:Int) (l:Nat)
  (s:a.eval x=v) (u:a.eval y=.int .i64 lo) (p:lo=l) (g:Rv w 1 v n j) (f:l≤n)
  (H:∀c,Rv w 1 c (n-l) (j.drop l)→c.ownBlock=v.ownBlock→wpList P h Q rest (a.put dst c) w):
  wpList P h Q (⟨dst,.slice t x (some y) none none,ty,pos,k,none⟩::rest) a w:=by
 subst p;refine wpList_plain rfl fun K m=> ?_
 have q:=g;obtain⟨B,b,cap,rfl,A,_⟩:=q;unfold Oper.wp execOp;simp only[Db,Sem.run_pure,Result.andThen_ok,s,u,Option.map_some,Option.map_none,IX t e i r o z b n cap l f];have d:=g.cut l n f (Av _) b cap rfl;rw[Ba (by rw[A5];omega)]at d;exact m _ _ (H _ d (EE b n cap l _ _))
theorem Lk (t e:TypeId)(i:TypeInfo)(d:P.underlying t=some (.slice e))(b:P.info? e=some i)(f:i.size=1)(a:Option Addr)(n cap h:Nat)(c:h≤cap):
  (Instr.sliceAt t (.slice a n cap) none (some (.int .i64 (h:Int))) none).run P w=.ok (.slice (if cap=0 then a else a.map (·.add 0)) (h-0) (cap-0)) w:=by
 simp[Instr.sliceAt,Cn d,Instr.slice,Instr.sliceBounds,Instr.sliceBound,asIntOf,c,sizeOf,typeInfo,b,f]
theorem wpList_slice_to {j:Array Oper}{rest:List Oper}{Q:Exit→Act→World→Prop}{a:Act}(dst:Option Tmp)(t:TypeId)(x z:Operand)(ty:TypeId)(pos:String)(l:Array Edge)(e:TypeId)(i:TypeInfo)
  (s:P.underlying t=some (.slice e)) (p:P.info? e=some i) (y:i.size=1) (v:Value) (n:Nat) (k:List Value) (f:Int) (h:Nat)
  (u:a.eval x=v) (A:a.eval z=.int .i64 f) (o:f=h) (g:Rv w 1 v n k) (q:h≤n)
  (H:∀c,Rv w 1 c h (k.take h)→c.ownBlock=v.ownBlock→wpList P j Q rest (a.put dst c) w):
  wpList P j Q (⟨dst,.slice t x none (some z) none,ty,pos,l,none⟩::rest) a w:=by
 subst o;refine wpList_plain rfl fun K m=> ?_
 have r:=g;obtain⟨_,b,cap,rfl,B,_⟩:=r;unfold Oper.wp execOp;simp only[Db,Sem.run_pure,Result.andThen_ok,u,A,Option.map_some,Option.map_none,Lk t e i s p y b n cap h (by omega)];have d:=g.cut 0 h (AA _) q b cap rfl;simp only[Nat.sub_zero,Bj]at d;exact m _ _ (H _ d (by have:=EE b n cap 0 h cap;simpa using this))
end
section
variable {H:Type} {enc:TypeId×Value→H} {P:Program} {w:World}
def Opens (enc:TypeId×Value→H)(P:Program)(w:World)(t:TypeId){α:Type}(g:α→List Value)(R:α→Prop):Prop:=
 ∀(b:Nat) (a:List Value) (x:DataW H×List MemPlace),DataW.trod enc P w 0 (fun _=>true) true b t a=some x→∃y:α,a=g y∧R y
theorem opens_bool {t:TypeId}(a:P.underlying t=some .bool):Opens enc P w t (fun b:Bool=>[.bool b]) (fun _=>True):=fun _ _ _ h=>by obtain⟨b,rfl,_⟩:=DataW.trod_bool a h;exact⟨b,rfl,trivial⟩
theorem Gc {α:Type}(g:α→List Value)(k:Nat)(a:∀y,(g y).length =k):∀(l:List α) (i j:Nat),j<k→(l.map g).flatten[i*k+j]?=(l[i]?).bind fun y=>(g y)[j]?:=by
 intro l
 induction l with
 |nil=>intro i j _;simp
 |cons y l ih=>
  intro i j b;rw[Br,List.flatten_cons]
  cases i with
  |zero=>rw[Nat.zero_mul,AP,AK (by rw[a];exact b)];rfl
  |succ i=>rw[AC (by rw[a,Nat.succ_mul];omega),a,show(i+1)*k+j-k=i*k+j by rw[Nat.succ_mul];omega,ih i j b];rfl
theorem Iv {α:Type}(g:α→List Value)(k:Nat)(a:∀y,(g y).length =k)(l:List α):(l.map g).flatten.length =l.length*k:=by
 induction l with
 |nil=>simp
 |cons y l ih=>rw[Br,List.flatten_cons,Aj,a,ih,List.length_cons,Nat.succ_mul];omega
theorem opens_slice {t e:TypeId}{α:Type}{g:α→List Value}{R:α→Prop}{k:Nat}(Z:P.underlying t=some (.slice e))(S:P.cellsOf e=k)(s:0<k)(o:∀y,(g y).length =k)(U:Opens enc P w e g R):
  Opens enc P w t (fun p:Value×List α=>[p.1]) (fun p=>Rv w k p.1 p.2.length (p.2.map g).flatten ∧p.2.length≤9223372036854775807∧∀y∈p.2,R y):=fun ac cs x h=>by
 rcases Deep.open_slice Z h with⟨rfl,_⟩|⟨a,d,cap,m,n,D,Pl,rfl,_,E,I,J,rfl,u⟩
 ·exact⟨(.slice none 0 0,[]),rfl,Y6 w k,by simp,by simp⟩
 ·simp only[D5]at J
  subst J;rw[S]at u
  have C:∀i,i<d→∃y:α,R y∧∀j,j<k→w.cell? (a.add (i*k+j))=(g y)[j]?:=by intro i c;obtain⟨ab,q,r⟩:=u i (by omega);obtain⟨y,rfl,v⟩:=U _ _ _ r;obtain⟨_,ae,Q⟩:=World.cells?_some q;refine⟨y,v,fun j V=> ?_⟩;have:=Q j V;rw[Deep.add_add]at this;rw[this]
  obtain⟨l,G,X,F⟩:∃l:List α,l.length=d∧(∀y∈l,R y)∧∀i y,l[i]?=some y→∀j,j<k→w.cell? (a.add (i*k+j))=(g y)[j]?:=by
   clear u I E h
   induction d with
   |zero=>exact⟨[],rfl,by simp,by simp⟩
   |succ d ih=>
    obtain⟨l,q,r,N⟩:=ih (fun i c=>C i (by omega));obtain⟨y,v,T⟩:=C d (by omega);refine⟨l++[y],by simp[q], ?_, ?_⟩
    ·intro z b
     rcases Ag.1 b with b|b
     ·exact r z b
     ·rw[Ah.1 b];exact v
    ·intro i z b
     by_cases c:i<l.length
     ·rw[AK c]at b;exact N i z b
     ·rw[AC (by omega)]at b
      have:i=l.length:=by
       rcases F5 (i-l.length)with f|f
       ·omega
       ·rw[D7 (by simp;omega)]at b;cases b
      subst this;rw[C8]at b;simp at b;subst b;rw[q];exact T
  unfold maxLen at I;refine⟨(.slice (some a) d m,l),rfl,⟨Iv g k o l,some a,m,by rw[G],by rw[G];exact E,fun L=> ?_⟩,by show l.length≤_;omega,X⟩;rw[Iv g k o l]at L
  have W:0<l.length:=by
   rcases F5 l.length with f|f
   ·rw[f]at L;omega
   ·exact f
  have M:a.add 0=a:=by simp[Addr.add]
  have A:=F 0 l[0] (Ad W) 0 s;rw[Nat.zero_mul,AP,M]at A;obtain⟨aa,so,rfl,Y,O⟩:=UD (w:=w) (a:=a) (by rw[A,Ad (by rw[o];exact s)];rfl);refine⟨aa,so,rfl,Y,fun i c=> ?_⟩;rw[Iv g k o l]at c;have ad:=Nat.div_add_mod i k;have K:=C1 i s;have B:i/k<l.length:=Nat.div_lt_of_lt_mul (by rw[Nat.mul_comm];exact c);have e:i=i/k*k+i % k:=by rw[Nat.mul_comm];omega
  have:=F (i/k) l[i/k] (Ad B) (i % k) K;rw[O,←e]at this;rw[this]
  conv=>rhs;rw[e]
  rw[Gc g k o l _ _ K,Ad B];rfl
theorem flatten_one {α:Type}(f:α→Value)(l:List α):(l.map fun y=>[f y]).flatten =l.map f:=by
 induction l with
 |nil=>rfl
 |cons y l ih=>simp[ih]
theorem opens_slice1 {t e:TypeId}{α:Type}{f:α→Value}{R:α→Prop}(l:P.underlying t=some (.slice e))(j:P.cellsOf e=1)(k:Opens enc P w e (fun y=>[f y]) R):
  Opens enc P w t (fun p:Value×List α=>[p.1]) (fun p=>Rv w 1 p.1 p.2.length (p.2.map f)∧p.2.length≤9223372036854775807∧∀y∈p.2,R y):=fun c b x h=>by
 obtain⟨p,d,a,g,i⟩:=opens_slice l j (by omega) (fun _=>rfl) k c b x h;exact⟨p,d,by rw[flatten_one]at a;exact a,g,i⟩
theorem opens_bools {t e:TypeId}(i:P.underlying t=some (.slice e))(j:P.underlying e=some .bool)(g:P.cellsOf e=1):
  Opens enc P w t (fun p:Value×List Bool=>[p.1]) (fun p=>Rv w 1 p.1 p.2.length (WA p.2)∧p.2.length≤9223372036854775807):=fun b a x h=>by
 obtain⟨p,c,d,f,_⟩:=opens_slice1 i g (opens_bool j) b a x h;exact⟨p,c,d,f⟩
theorem opens_val {t:TypeId}{α:Type}{f:α→Value}{R:α→Prop}{v:Value}{d:DataW H}{p:List MemPlace}(e:Opens enc P w t (fun y=>[f y]) R)(g:∀y,v.cells.toList=[f y]→v=f y)
  (h:DataW.Trod enc P w 0 (fun _=>true) true t v d p):∃y,v=f y∧R y:=by
 obtain⟨i,c⟩:=h;obtain⟨y,a,b⟩:=e _ _ _ c;exact⟨y,g y a,b⟩
end
theorem Own.set {w:World}{base:Nat}{E:TypeId}{g n cap:Nat}{a:List Value}(h:Own w base E (.slice (some ⟨g,0,none⟩) n cap) a)(b:n=a.length)(i:Nat)(u:Value):
  Own (w.setCell ⟨g,i,none⟩ u) base E (.slice (some ⟨g,0,none⟩) n cap) (a.set i u)∧Keep [g] w (w.setCell ⟨g,i,none⟩ u):=by
 subst b;refine⟨?_,(By _ _).setCell (.inl (by simp)) _⟩;unfold Own;rw[Bi];exact(World.ownsRow.stored h i u).1
theorem Own.at_ {w:World}{base:Nat}{E:TypeId}{v:Value}{a:List Value}(h:Own w base E v a)(e:0<a.length):
  ∃g cap,v=.slice (some ⟨g,0,none⟩) a.length cap∧a.length≤cap∧base≤g∧g<w.heap.size:=by
 obtain⟨g,cap,f,rfl,b,c,d⟩:=h.blk e;exact⟨g,cap,rfl,b,c,d.lt⟩
theorem Own.cell {w:World}{base:Nat}{E:TypeId}{g n cap:Nat}{a:List Value}(h:Own w base E (.slice (some ⟨g,0,none⟩) n cap) a)(b:n=a.length)(i:Nat)(c:i<n):
  w.cell? ⟨g,i,none⟩=a[i]?∧w.frozen? ⟨g,i,none⟩=false:=by
 subst b;exact⟨Cg h i (by omega),World.ownsRow.frozenAt h i⟩
theorem Buf.own {w:World}{base:Nat}{E:TypeId}{v:Value}{l:List Nat}(h:Buf w base E v l):Own w base E v (Bb l):=by unfold Own;rw[Bd];exact h
theorem Buf.ty' {w:World}{base:Nat}{E:TypeId}{v:Value}{l:List Nat}(h:Buf w base E v l):∀k,v.ownBlock=some k→Ty w k E:=h.own.ty
theorem Buf.at' {w:World}{base:Nat}{E:TypeId}{v:Value}{l:List Nat}(h:Buf w base E v l)(a:0<l.length):
  ∃g cap,v=.slice (some ⟨g,0,none⟩) l.length cap∧l.length≤cap∧base≤g∧g<w.heap.size:=by
 have:=h.own.at_ (by rw[Bd];exact a);rw[Bd]at this;exact this
theorem Nr {s t:ByteArray}(h:s.toList=t.toList):s=t:=by rw[DQ,DQ]at h;apply ByteArray.ext;exact Array.toList_inj.1 h
theorem Ih {w:World}{b:Nat}{a:List Value}{T:TypeId}{n:Nat}(h:Blk w b a T)(c:a.length=n):Rv w 1 (.slice (some ⟨b,0,none⟩) n n) n a:=by subst c;refine⟨by simp,_,_,rfl,Av _,fun _=>⟨b,0,rfl,h.lt,fun i d=> ?_⟩⟩;rw[AP,h.cell]
def JU (x:Nat):Nat:=(x/2)^^^(if x % 2=1 then 3988292384 else 0)
def Hp:Nat→Nat→Nat
 |0,x=>x
 |k+1,x=>JU (Hp k x)
def KR (x c:Nat):Nat:=Hp 8 (x^^^c)
def GQ (x:Nat)(l:List Nat):Nat:=l.foldl KR x
def crcSum (l:List Nat):Nat:=4294967295-GQ 4294967295 l
theorem U0 (x:Nat)(h:x<4294967296):JU x<4294967296:=by
 unfold JU;apply Nat.xor_lt_two_pow (n:=32)
 ·omega
 ·split<;>omega
theorem LQ (k x:Nat)(h:x<4294967296):Hp k x<4294967296:=by
 induction k with
 |zero=>exact h
 |succ k ih=>exact U0 _ ih
theorem RQ (x c:Nat)(h:x<4294967296)(a:c<256):KR x c<4294967296:=
 LQ 8 _ (Nat.xor_lt_two_pow (n:=32) h (by omega))
theorem Qg (l:List Nat):∀x,x<4294967296→(∀c∈l,c<256)→GQ x l<4294967296:=by
 induction l with
 |nil=>intro x h _;exact h
 |cons c l ih=>intro x h a;exact ih _ (RQ x c h (a c (by simp))) (fun b d=>a b (by simp[d]))
theorem RP (x:Nat)(l:List Nat)(c:Nat):GQ x (l++[c])=KR (GQ x l) c:=by simp[GQ]
theorem RO (x:Nat)(l:List Nat)(k:Nat)(h:k<l.length):GQ x (l.take (k+1))=KR (GQ x (l.take k)) (l.getD k 0):=by rw[Bw h,RP];simp[Af,h]
theorem Wv (x:Nat)(h:x<4294967296):bits .xor .u32 ((x:Int)/2) (bits .and .u32 3988292384 (IntKind.u32.wrap (-(bits .and .u32 (x:Int) 1))))=((JU x:Nat):Int):=by
 have b:bits .and .u32 (x:Int) 1=((x % 2:Nat):Int):=by rw[show(1:Int)=((1:Nat):Int)from rfl,u32_and_nat _ _ h (by omega),Nat.and_one_is_mod]
 rw[b,show(x:Int)/2=((x/2:Nat):Int) by omega];unfold JU;by_cases a:x % 2=1
 ·rw[a,Ay rfl,show bits .and .u32 3988292384 (IntKind.u32.wrap (-((1:Nat):Int)))=((3988292384:Nat):Int) by decide+kernel,u32_xor_nat _ _ (by omega) (by omega)]
 ·rw[Aw a,show x % 2=0 by omega,show bits .and .u32 3988292384 (IntKind.u32.wrap (-((0:Nat):Int)))=((0:Nat):Int) by decide+kernel,u32_xor_nat _ _ (by omega) (by omega)]
theorem XD (x:Nat)(h:x<4294967296):bits .xor .u32 IntKind.u32.max (x:Int)=((4294967295-x:Nat):Int):=by
 rw[show IntKind.u32.max=((4294967295:Nat):Int) by decide,u32_xor_nat _ _ (by omega) h];have a:=BitVec.toNat_not (x:=BitVec.ofNat 32 x);have b:(~~~(BitVec.ofNat 32 x))=BitVec.allOnes 32^^^BitVec.ofNat 32 x:=by rw[BitVec.allOnes_xor]
 rw[b,BitVec.toNat_xor,BitVec.toNat_allOnes,Ck,AR h]at a;have c:4294967295^^^x=4294967295-x:=by simpa using a
 rw[c]
theorem IG {w:World}(a:Option Addr)(cap:Nat)(m:Value)(l:List Nat)(F:Rv w 1 (.slice a 1 cap) 1 [m])(h:Rd w m l)(f:∀c∈l,c<256)(Q:l.length≤9223372036854775807)(n:Nat)(s:n=crcSum l):
  Calls Tryz.prog 153 #[.slice a 1 cap] w fun e J=>e=.returned (.int .u32 n)∧w=J:=by
 have v:=h_ s;clear s;have p:=h;obtain⟨_,K,L,rfl,_,_⟩:=h;obtain⟨W,Y,pc,b,S,T,t⟩:=F.at1 (by omega);simp only[Bn]at b;obtain⟨rfl,_,rfl⟩:=b;have A:=t 0 (by omega);simp only[Nat.add_zero,List.getElem?_cons_zero]at A;clear t
 go_enter Tryz.func153,Tryz.ntmps153;go_wp2_with fail;refine wp_loop_rounds 2 ?_;rw[rounds_succ];go_wp2_with fail
 go_loop [3,16] (fun x i=>∃k:Nat,k≤l.length∧i=.int .i64 k∧x=.int .u32 (GQ 4294967295 (l.take k):Nat)) (fun _ i=>l.length-(intOf i).toNat)
 case atStart=>exact⟨0,by omega,rfl,rfl⟩
 case round=>
  obtain⟨k,P,rfl,rfl⟩:=hrel;by_cases g:k<l.length
  ·obtain⟨aa,so,M,b,_,U,q⟩:=p.at1 (by omega)
   simp only[Bn]at b;obtain⟨rfl,_,rfl⟩:=b;have o:=q k g;rw[EL l k g]at o;have r:l.getD k 0<256:=f _ (by simp[Af,g]);have d:GQ 4294967295 (l.take k)<4294967296:=Qg _ _ (by omega) (fun c r=>f c (AH r));have y:=h_ (RO 4294967295 l k g);clear q p f;generalize l.getD k 0=c at*;generalize GQ 4294967295 (l.take k)=X at*;unfold bc at o;have H:(k:Int)<l.length:=by omega
   have V:=u32_xor_nat X c d (by omega);have B:X^^^c<4294967296:=Nat.xor_lt_two_pow (n:=32) d (by omega);go_wp2_with fail
   go_loop [3,24] (fun x i=>∃j:Nat,j≤8∧i=.int .i64 j∧x=.int .u32 (Hp j (X^^^c):Nat)) (fun _ i=>8-(intOf i).toNat)
   case atStart=>exact⟨0,by omega,rfl,rfl⟩
   case round=>
    obtain⟨j,N,rfl,rfl⟩:=hrel;by_cases O:j<8
    ·have I:(j:Int)<8:=by omega
     have C:=LQ j _ B;have z:=h_ (show Hp (j+1) (X^^^c)=JU (Hp j (X^^^c))from rfl);generalize Hp j (X^^^c)=Z at*;have G:=Wv Z C;go_wp2_with fail
     go_round
     case rel=>exact⟨j+1,by omega,by go_num,by rw[z.out];simpa[IntKind.wrap_u32']using G⟩
     case measure=>simp[intOf];omega
    ·have I:¬((j:Int)<8):=by omega
     have D:j=8:=by omega
     subst D;go_wp2_with fail
     go_round
     case rel=>exact⟨k+1,by omega,by go_num,by rw[y.out];rfl⟩
     case measure=>simp[intOf];omega
  ·have H:¬((k:Int)<l.length):=by omega
   have E:k=l.length:=by omega
   subst E;rw[Bt];have d:GQ 4294967295 l<4294967296:=Qg _ _ (by omega) f;have R:=XD _ d;have u:=h_ (show crcSum l=4294967295-GQ 4294967295 l from rfl);generalize GQ 4294967295 l=X at*;go_wp2_with fail;rw[rounds_succ];go_wp2;go_ret;exact⟨by rw[v.out,u.out];rfl,rfl⟩
def zeroSec:Sec:=⟨List.replicate 64 0,List.replicate 64 0,false⟩
theorem EZ:zeroSec.ok:=by refine⟨rfl,rfl, ?_, ?_⟩<;>(intro c a;simp[zeroSec]at a;omega)
theorem Tryz.infoSec:(Tryz.prog.info? 232).map (fun i=>(i.zero,i.size,i.bytes))=some (some (.agg (AT zeroSec).toArray),129,129):=by kernel_rfl
def YE:=@Tryz.infoSec
theorem Tk (n:Nat):(List.replicate n (AT zeroSec)).flatten =devCells (List.replicate n zeroSec):=by simp[devCells]
structure IsDev (w:World) (b sb:Nat) (l:List Sec) (calls:Nat):Prop where
 dev:Blk w b [.slice (some ⟨sb,0,none⟩) l.length l.length,.int .i64 calls] 182
 secs:Blk w sb (devCells l) 232
 ne:b≠sb
 ok:∀s∈l,s.ok
 pos:0<l.length
 max:l.length≤2048
 few:calls≤1099511627776
theorem IsDev.keep {S:List Nat}{w a:World}{b sb:Nat}{l:List Sec}{c:Nat}(h:IsDev w b sb l c)(k:Keep S w a)(d:b∉S)(e:sb∉S):IsDev a b sb l c:=
 ⟨h.dev.keep k d,h.secs.keep k e,h.ne,h.ok,h.pos,h.max,h.few⟩
theorem Th {w:World}(n:Int)(k:Nat)(r:(k:Int)=min (max n 1) 2048):
  Calls Tryz.prog 63 #[.int .i64 n] w fun e c=>∃b sb,e=.returned (pr b 0)∧IsDev c b sb (List.replicate k zeroSec) 0∧Keep [] w c∧w.heap.size≤b∧w.heap.size≤sb:=by
 obtain⟨p,f,l,m,o⟩:=AU YE;have g:0<k:=by omega
 have i:k≤2048:=by omega
 have a:(Value.agg (AT zeroSec).toArray).cells.size =129:=by show(AT zeroSec).toArray.size =129;rw[C2,Cw EZ]
 have d:n<1∨(1≤n∧n≤2048)∨2048<n:=by omega
 rcases d with h|⟨h,q⟩|h
 all_goals
  go_enter Tryz.func63,Tryz.ntmps63
  go_wp2_with (at_make;refine DI _ rfl _ _ 180 rfl 232 p _ Tryz.underlying180 f l (by rw[m,a]) (by rw[a];decide) _ k rfl rfl (by omega) (by rw[o];omega) (by omega) ?_)
  go_ret;refine⟨w.heap.size+1,w.heap.size,rfl,⟨?_, ?_,by omega, ?_,by simpa using g,by simpa using i,by omega⟩,((By _ _).alloc _).alloc _,by omega,Av _⟩
  ·rw[G5]
   exact Yt _ _ _ _ (by simp)
  ·rw[←Tk]
   exact(BY _ _ _).alloc _
  ·intro s j
   rw[DL j];exact EZ
theorem SG {w:World}{b sb:Nat}{l:List Sec}{c:Nat}(h:IsDev w b sb l c)(i:Int)(r:Int)(d:r=if 0≤i∧i<l.length then 0 else 4):
  Calls Tryz.prog 151 #[pr b 0,.int .i64 i] w fun e g=>e=.returned (.int .i64 r)∧w=g:=by
 have f:=h.dev.cell 0;simp only[List.getElem?_cons_zero]at f;have n:=h.max;have a:=h_ d;clear d;by_cases j:i<0
 ·go_enter Tryz.func151,Tryz.ntmps151
  go_wp2;go_ret;exact⟨by rw[a.out,Aw (by omega)];rfl,rfl⟩
 ·by_cases k:(l.length:Int)≤i
  ·go_enter Tryz.func151,Tryz.ntmps151
   go_wp2;go_ret;exact⟨by rw[a.out,Aw (by omega)];rfl,rfl⟩
  ·have m:i<l.length:=by omega
   go_enter Tryz.func151,Tryz.ntmps151;go_wp2;go_ret;exact⟨by rw[a.out,Ay (by omega)];rfl,rfl⟩
theorem IH {w:World}{b sb:Nat}{l:List Sec}{c:Nat}(h:IsDev w b sb l c):
  Calls Tryz.prog 150 #[pr b 0] w fun e d=>e=.returned (.int .i64 (l.length:Int))∧w=d:=by
 have a:=h.dev.cell 0;simp only[List.getElem?_cons_zero]at a;go_enter Tryz.func150,Tryz.ntmps150;go_wp2;go_ret;exact⟨rfl,rfl⟩
theorem Mi {w:World}(a:Addr)(cap:Nat)(l:List Nat)(h:Rd w (.slice (some a) l.length cap) l)(v:l.length≤1099511627776):
  Calls Tryz.prog 154 #[.slice (some a) l.length cap] w fun e c=>∃b,e=.returned b∧Buf c w.heap.size 5 b l∧Keep [] w c∧b≠ .slice none 0 0:=by
 obtain⟨q,i,n,o,p⟩:=AU In;have k:=Rd.src (h.alloc (.cells #[] 5)) Ao
 have j:Buf (w.alloc (.cells #[] 5)) w.heap.size 5 (.slice (some ⟨w.heap.size,0,none⟩) 0 0) []:=
  World.ownsRow_made w #[] 0 (Av _) (by unfold maxLen;omega) rfl
 have u:=fun W=>Lib.run_eql_slice_nil (P:=Tryz.prog) W 81 5 (some a) l.length cap 0 0 Ao
 go_enter Tryz.func154,Tryz.ntmps154
 go_wp2_with (at_builtin;refine Bl _ rfl _ _ 81 81 rfl w.heap.size 5 q (.int .u8 0) 1 1 Ao i n o p rfl (by decide) _ 0 [] rfl j _ _ _ rfl k (by unfold maxLen;omega) (by omega) (by simp) ?_;intro r z d f g t)
 go_ret;refine⟨r,rfl, ?_,((By _ _).alloc _).then (DJ f) ?_, ?_⟩
 ·unfold Buf;simpa using d
 ·intro x m y
  have e:(Value.slice (some ⟨w.heap.size,0,none⟩) 0 0).ownBlock =some x:=Ae.1 m;have s:w.heap.size=x:=Option.some.inj e;omega
 ·intro e
  have:=(g.1 e).1;cases this
theorem Gw {l:List Sec}{i:Nat}(h:i<l.length):∃s,l[i]?=some s∧s∈l:=⟨l[i],Ad h,BS h⟩
theorem Ot {w:World}{b sb:Nat}{l:List Sec}{c:Nat}(h:IsDev w b sb l c)(i:Nat)(s:Sec)(f:l[i]?=some s):
  Calls Tryz.prog 182 #[pr b 0,.int .i64 (i:Int)] w fun e g=>∃n,e=.returned (.tuple #[n,.int .i64 0])∧Buf g w.heap.size 5 n s.now∧Keep [] w g:=by
 have z:i<l.length:=(Ai.1 f).1;have v:s.ok:=h.ok s (Aq f);have p:=h.dev.cell 0;simp only[List.getElem?_cons_zero]at p;have A:=h.max;have B:(i:Int)<l.length:=by omega
 have a:=v.1
 have x:Rd w (.slice (some ⟨sb,i*129,none⟩) 64 64) s.now:=by
  refine⟨by simp,_,64,by rw[a],by omega,fun _=>⟨sb,i*129,rfl,h.secs.lt,fun j t=> ?_⟩⟩;rw[Bd,a]at t;have d:=h.secs.range (i*129) 64;have e:=DT h.ok i s f 0 64 (by omega);rw[Nat.add_zero]at e;rw[e]at d
  have o:((AT s).drop 0).take 64=Bb s.now:=by unfold AT;rw[Bj,BE (by simp;omega),Ba (by simp;omega)]
  rw[o]at d;have m:(Bb s.now)[j]?=some (bc (s.now.getD j 0)):=EL s.now j (by omega);rw[d j _ m,m]
 have r:s.now.length≤1099511627776:=by omega
 go_enter Tryz.func182,Tryz.ntmps182;go_wp2_with fail;refine(SG h (i:Int) 0 (by rw[Ay (by omega)])).mono ?_;rintro e g ⟨rfl,rfl⟩;go_wp2_with fail;have k:=Mi (w:=w) ⟨sb,i*129,none⟩ 64 s.now (by rw[a];exact x) r;rw[a]at k;refine k.mono ?_;rintro e C ⟨y,rfl,q,u,_⟩;go_wp2;go_ret2;exact⟨y,rfl,q,u⟩
theorem OF {α:Type}(l:List α)(j:Nat)(v:α)(h:j<l.length):l.set j v=BQ l j [v]:=by unfold BQ;rw[CF,Ay h];simp
theorem Lp (f:List Nat)(i:f.length=64){b:List Nat}(h:b.length=64)(a c:Bool):BQ (AT ⟨f,b,a⟩) 128 [.bool c]=AT ⟨f,b,c⟩:=by
 have e:∀d,AT ⟨f,b,d⟩=(Bb f++Bb b)++[.bool d]:=fun d=>by simp[AT]
 have g:(Bb f++Bb b).length =128:=by simp[i,h]
 rw[e,e];unfold BQ;rw[BE (by omega),Ba (by omega),Bz (by rw[Aj,g];simp)];simp
theorem I0 {w:World}{b sb:Nat}{l:List Sec}{c:Nat}(h:IsDev w b sb l c)(i:Nat)(s:Sec)(t:l[i]?=some s)(v:Value)(m:List Nat)(H:Rd w v m)(T:m.length≤64)(U:∀x∈m,x<256)(hc:c<1099511627776):
  Calls Tryz.prog 109 #[pr b 0,.int .i64 (i:Int),v] w fun e A=>e=.returned (.int .i64 0)∧IsDev A b sb (l.set i ⟨BQ s.now 0 m,s.lasts,true⟩) (c+1)∧Keep [b,sb] w A:=by
 have R:i<l.length:=(Ai.1 t).1;have a:s.ok:=h.ok s (Aq t);have ab:=h.max;have Q:=CT h.ok;obtain⟨Y,S,ac,X,ad⟩:=AU In;have j:(BQ s.now 0 m).length =64:=by rw[Kd _ _ _ (by have:=a.1;omega)];exact a.1
 have q:∀x∈BQ s.now 0 m,x<256:=by
  intro x d;unfold BQ at d;simp only[List.take_zero,List.nil_append,Ag]at d;rcases d with d|d
  ·exact U x d
  ·exact a.2.2.1 x (AB d)
 have y:(⟨BQ s.now 0 m,s.lasts,s.loose⟩:Sec).ok :=⟨j,a.2.1,q,a.2.2.2⟩;have z:(⟨BQ s.now 0 m,s.lasts,true⟩:Sec).ok :=⟨j,a.2.1,q,a.2.2.2⟩
 have G:BQ (AT s) 0 (Bb m)=AT ⟨BQ s.now 0 m,s.lasts,s.loose⟩:=by unfold AT BQ;simp only[List.take_zero,List.nil_append,Bd,AP,DW];rw[C3 (by simp;have:=a.1;omega)];simp[Bb,Dw]
 have n:=Eq h.ok i s _ t y 0 (Bb m) (by simp;omega) G;rw[Nat.add_zero]at n;have f:=h.secs.setCells (Bb m) (i*129) w _ (by simp;omega);rw[n]at f;have p:Keep [sb] w (w.setCells sb (i*129) (Bb m)):=E6 _ _ _ _ (By _ _) (.inl (by simp));have g:=h.dev.keep p (by simpa using h.ne);have u:(l.set i ⟨BQ s.now 0 m,s.lasts,s.loose⟩)[i]?=some ⟨BQ s.now 0 m,s.lasts,s.loose⟩:=by simp[R]
 have k:=Hg h.ok i _ y;have C:=CT k;rw[Bi]at C;have o:=Eq k i _ _ u z 128 [.bool true] (by simp) (Lp _ j a.2.1 _ _);rw[List.set_set,←OF _ _ _ (by omega)]at o;have I:=DT k i _ u 128 1 (by omega)
 have F:(devCells (l.set i ⟨BQ s.now 0 m,s.lasts,s.loose⟩))[i*129+128]?=some (.bool s.loose):=by have B:=A3 (fun x:List Value=>x[0]?) I;simp only[BP,Bp,Nat.zero_lt_one,D5,Nat.add_zero]at B;rw[B];unfold AT;rw[AC (by simp;omega),AC (by simp;have:=a.2.1;omega)];have P:=a.2.1;simp[j,P]
 have L:=g.cell 0;have M:=g.cell 1;have f2:=g.free 1;have N:=f.cell (i*129+128);have f4:=f.free (i*129+128);rw[F]at N;simp only[List.getElem?_cons_zero,List.getElem?_cons_succ]at L M;have O:=h.dev.cell 0;simp only[List.getElem?_cons_zero]at O;have q0:(i:Int)<l.length:=by omega
 have r:=h.ne;have W:=h.secs.there (i*129) m.length (by omega);have V:=Rd.src H Ao
 have D:IsDev (((w.setCells sb (i*129) (Bb m)).setCell ⟨sb,i*129+128,none⟩ (.bool true)).setCell ⟨b,1,none⟩ (.int .i64 ((c+1:Nat):Int))) b sb (l.set i ⟨BQ s.now 0 m,s.lasts,true⟩) (c+1):=by
  refine⟨?_, ?_,r,Hg h.ok i _ z,by simpa using h.pos,by simpa using h.max,by omega⟩
  ·rw[Bi]
   exact(g.other (by simpa using r) _).set 1 _
  ·rw[←o]
   exact(f.set _ _).other (by simpa using r.symm) _
 have E:Keep [b,sb] w (((w.setCells sb (i*129) (Bb m)).setCell ⟨sb,i*129+128,none⟩ (.bool true)).setCell ⟨b,1,none⟩ (.int .i64 ((c+1:Nat):Int))):=
  ((p.mono (by simp)).setCell (by simp) _).setCell (by simp) _
 obtain⟨J,K⟩:=i_2 D E;obtain⟨_,Z,aa,rfl,_,_⟩:=id H;clear D E G n o I F f g p u k C Q y z j q;go_enter Tryz.func109,Tryz.ntmps109;go_wp2_with fail;refine(SG h (i:Int) 0 (by rw[Ay (by omega)])).mono ?_;rintro e A ⟨rfl,rfl⟩
 go_wp2_with (refine Hu _ rfl _ _ 81 81 rfl 5 Y Ao S X sb (i*129) 64 64 rfl _ m.length (Bb m) rfl V T W ?_)
 go_ret;exact⟨rfl,J.out,K.out⟩
def flushSec (s:Sec):Sec:=⟨s.now,s.now,false⟩
def EK (l:List Sec)(k:Nat):List Sec:=(l.take k).map flushSec++l.drop k
theorem PP (l:List Sec):EK l 0=l:=by simp[EK]
theorem RF (l:List Sec):EK l l.length=l.map flushSec:=by simp[EK]
theorem G8 (l:List Sec)(k:Nat)(h:k≤l.length):(EK l k).length =l.length:=by simp[EK];omega
theorem Us (l:List Sec)(k:Nat)(s:Sec)(h:l[k]?=some s):(EK l k)[k]?=some s:=by have a:k<l.length:=(Ai.1 h).1;unfold EK;rw[AC (by simp;omega)];simp only[AD,Az,BZ (EV a),C8,Bp,Nat.add_zero];exact h
theorem PQ (l:List Sec)(k:Nat)(s:Sec)(h:l[k]?=some s):EK l (k+1)=(EK l k).set k (flushSec s):=by
 have a:k<l.length:=(Ai.1 h).1;have e:=(Ai.1 h).2;unfold EK;rw[Bw a,AL,e,Cj a];have b:(List.map flushSec (List.take k l)).length =k:=by simp;omega
 rw[List.set_append,Aw (by omega),b,C8,List.set_cons_zero,Ax];rfl
theorem Ur (l:List Sec)(h:∀s∈l,s.ok)(k:Nat):∀s∈EK l k,s.ok:=by
 intro s a;rcases Ag.1 a with a|a
 ·obtain⟨t,b,rfl⟩:=AI.1 a
  have:=h t (AH b);exact⟨this.1,this.1,this.2.2.1,this.2.2.1⟩
 ·exact h s (AB a)
theorem Tryz.size64:(Tryz.prog.info? 230).map (·.size)=some 64:=by kernel_rfl
def Y8:=@Tryz.size64
def Mh (b sb k:Nat)(v:Value)(a:List Value)(W:World):Prop:=
 W.cell? ⟨b,0,none⟩=some v∧W.rangeAt sb (k*129) a∧W.there sb (k*129+64) a.length∧W.frozen? ⟨sb,k*129+128,none⟩=false∧∃u,W.cell? ⟨sb,k*129+128,none⟩=some (.bool u)
theorem PO {W:World}{b sb k:Nat}{v:Value}{a:List Value}(j:b≠sb)(l:a.length=64)(h:Mh b sb k v a W):Mh b sb k v a (W.setCells sb (k*129+64) a):=by obtain⟨c,d,f,g,u,i⟩:=h;refine⟨by rw[Fs _ _ _ _ _ (fun e _=>absurd e j)];exact c,World.rangeAt_setCells_apart d _ _ _ (.inr (.inl (by omega))),World.there_setCells f _ _ _,by rw[World.frozen?_setCells];exact g,u, ?_⟩;rw[Fs _ _ _ _ _ (fun _ _=> .inr (by simp;omega))];exact i
theorem PN {W:World}{b sb k:Nat}{v:Value}{a:List Value}(j:b≠sb)(l:a.length=64)(h:Mh b sb k v a W)(x:Bool):Mh b sb k v a (W.setCell ⟨sb,k*129+128,none⟩ (.bool x)):=by obtain⟨c,d,f,g,u,i⟩:=h;have e:W.setCell ⟨sb,k*129+128,none⟩ (.bool x)=W.setCells sb (k*129+128) [.bool x]:=rfl;rw[e];refine⟨by rw[Fs _ _ _ _ _ (fun e _=>absurd e j)];exact c,World.rangeAt_setCells_apart d _ _ _ (.inr (.inl (by omega))),World.there_setCells f _ _ _,by rw[World.frozen?_setCells];exact g,x, ?_⟩;exact World.cell?_setCell_same _ _ _ i
theorem Ri (b c:List Nat)(a:Bool)(g:b.length=64)(f:c.length=64):BQ (AT ⟨b,c,a⟩) 64 (Bb b)=AT ⟨b,b,a⟩:=by
 have d:(Bb b).length =64:=by rw[Bd,g]
 have e:(Bb b++Bb c).length =64+(Bb b).length :=by rw[Aj,Bd c,f];omega
 unfold AT BQ;show List.take 64 (Bb b++(Bb c++[Value.bool a]))++(Bb b++List.drop (64+(Bb b).length) (Bb b++(Bb c++[Value.bool a])))=Bb b++(Bb b++[Value.bool a]);rw[Ca d,←Ax (Bb b) (Bb c),Cp e]
theorem GV {w:World}{b sb:Nat}{l:List Sec}{c:Nat}(h:IsDev w b sb l c)(hc:c<1099511627776):
  Calls Tryz.prog 110 #[pr b 0] w fun e d=>e=.returned (.int .i64 0)∧IsDev d b sb (l.map flushSec) (c+1)∧Keep [b,sb] w d:=by
 have R:=h.dev.cell 0;simp only[List.getElem?_cons_zero]at R;have ad:=h.max;go_enter Tryz.func110,Tryz.ntmps110;go_wp2_with fail
 go_loopg [11] l.length (fun g i wr=>∃k:Nat,g=l.length-k∧k≤l.length∧i=.int .i64 k∧Blk wr sb (devCells (EK l k)) 232∧Keep [sb] w wr)
 case atStart=>exact⟨0,rfl,by omega,rfl,by rw[PP];exact h.secs,By _ _⟩
 case round=>
  obtain⟨k,G,r,rfl,f,p⟩:=hrel;have M:=h_ G;clear G;have n:=h.dev.keep p (by simpa using h.ne);have C:=n.cell 0;simp only[List.getElem?_cons_zero]at C;by_cases I:k<l.length
  ·obtain⟨s,o,Y⟩:=Gw I
   have a:=h.ok s Y;have q0:(k:Int)<l.length:=by omega
   have q:=Us l k s o;have j:=Ur l h.ok k;have v:=f.range (k*129) 64;have A:=DT j k s q 0 64 (by omega);rw[Nat.add_zero]at A;rw[A]at v
   have O:((AT s).drop 0).take 64=Bb s.now:=by unfold AT;rw[Bj,BE (by simp;have:=a.1;omega),Ba (by simp;have:=a.1;omega)]
   rw[O]at v;have U:=CT j;rw[G8 l k r]at U;have H:(Bb s.now).length =64:=by rw[Bd,a.1]
   have t1:=f.there (k*129+64) (Bb s.now).length (by omega);have m:=h.ne;have r2:=DT j k s q 128 1 (by omega)
   have K:wr.cell? ⟨sb,k*129+128,none⟩=some (.bool s.loose):=by rw[f.cell];have D:=A3 (fun x:List Value=>x[0]?) r2;simp only[BP,Bp,Nat.zero_lt_one,D5,Nat.add_zero]at D;rw[D];unfold AT;have S:=a.1;have T:=a.2.1;rw[AC (by simp;omega),AC (by simp;omega)];simp[S,T]
   have L:=f.free (k*129+128);have hu:=Tryz.underlying230;have ac:(Tryz.prog.info? 230).map (·.size)=some (Bb s.now).length :=by rw[Y8,Bd,a.1]
   have ab:=Fk s.now
   have u1:(wr.drew.setCells sb (k*129+64) (Bb s.now)).cell? ⟨sb,k*129+128,none⟩=some (.bool s.loose):=by rw[Fs _ _ _ _ _ (fun _ _=> .inr (by have:=a.1;simp;omega))];exact K
   have u2:(wr.drew.setCells sb (k*129+64) (Bb s.now)).frozen? ⟨sb,k*129+128,none⟩=false:=by rw[World.frozen?_setCells];exact L
   have y:Mh b sb k (.slice (some ⟨sb,0,none⟩) l.length l.length) (Bb s.now) wr.drew:=⟨C,v,t1,L,_,K⟩;have z:=PO m H y;have N:=PN m H z false;go_wp2_with fail
   go_region_held3 (fun d=>d.cell? ⟨b,0,none⟩=some (.slice (some ⟨sb,0,none⟩) l.length l.length)∧d.rangeAt sb (k*129) (Bb s.now)∧d.there sb (k*129+64) (Bb s.now).length ∧d.frozen? ⟨sb,k*129+128,none⟩=false∧∃u,d.cell? ⟨sb,k*129+128,none⟩=some (.bool u)) (first|exact y|exact z|exact N) (fail)
   go_wp2_with fail
   go_roundg (l.length-(k+1))
   case measure=>rw[M.out];omega
   case rel=>
    refine⟨k+1,rfl,by omega,by go_num, ?_,(E6 _ _ _ _ p.drew (.inl (by simp))).setCell (.inl (by simp)) _⟩;have J:(⟨s.now,s.now,s.loose⟩:Sec).ok :=⟨a.1,a.1,a.2.2.1,a.2.2.1⟩;have aa:(flushSec s).ok :=⟨a.1,a.1,a.2.2.1,a.2.2.1⟩;have ov:BQ (AT s) 64 (Bb s.now)=AT ⟨s.now,s.now,s.loose⟩:=Ri s.now s.lasts s.loose a.1 a.2.1;have P:=Eq j k s _ q J 64 (Bb s.now) (by omega) ov
    have X:((EK l k).set k ⟨s.now,s.now,s.loose⟩)[k]?=some ⟨s.now,s.now,s.loose⟩:=by rw[CM];simp[G8 l k r,I]
    have F:=Hg j k _ J;have B:=Eq F k _ (flushSec s) X aa 128 [.bool false] (by simp) (Lp _ a.1 a.1 _ _);have V:=CT F;rw[Bi,G8 l k r]at V;rw[List.set_set,←PQ l k s o,←OF _ _ _ (by omega)]at B;have E:=(f.drew).setCells (Bb s.now) (k*129+64) wr.drew _ (by omega);rw[P]at E;rw[←B];exact E.set _ _
  ·obtain rfl:k=l.length:=by omega
   rw[RF]at f;have Q:=n.cell 1;have f2:=n.free 1;simp only[List.getElem?_cons_succ,List.getElem?_cons_zero]at Q;have m:=h.ne
   have W:∀s∈l.map flushSec,s.ok:=by intro s o;obtain⟨t,Z,rfl⟩:=AI.1 o;have:=h.ok t Z;exact⟨this.1,this.1,this.2.2.1,this.2.2.1⟩
   go_wp2;go_ret;refine⟨rfl,⟨?_,f.other (by simpa using m.symm) _,m,W,by simpa using h.pos,by simpa using h.max,by omega⟩,(p.mono (by simp)).setCell (by simp) _⟩;rw[AD];exact n.set 1 _
def D9 (bs:List Bool)(k:Nat):List Int:=((List.range k).filter fun i=>bs.getD i false).map fun(i:Nat)=>(i:Int)
theorem P8 (bs:List Bool)(k:Nat):D9 bs (k+1)=D9 bs k++if bs.getD k false then[(k:Int)]else[]:=by
 unfold D9;rw[Ft,List.filter_append,AL]
 congr 1
 cases a:bs.getD k false<;>simp only[List.filter_cons,a,List.filter_nil]<;>rfl
theorem R5 (bs:List Bool)(k:Nat):(D9 bs k).length ≤k:=by unfold D9;have:=D6 (fun i=>bs.getD i false) (List.range k);simp at this⊢;omega
theorem Uv:∀(v:List Value) (k a:Nat) (cells:List Value),a+k+v.length≤cells.length→
  (v.zipIdx k).foldl (fun(b:Array Value) (x:Value×Nat)=>b.setIfInBounds (a+x.2) x.1) cells.toArray=(BQ cells (a+k) v).toArray :=by
 intro v
 induction v with
 |nil=>intro k a cells _;simp[Pd]
 |cons x v ih=>intro k a cells h;simp only[List.length_cons]at h;simp only[List.zipIdx_cons,List.foldl_cons];rw[List.setIfInBounds_toArray,ih (k+1) a (cells.set (a+k) x) (by simp;omega),←Cv a k 1,MN _ _ _ _ (by omega)]
theorem PW (b:Nat→Option (Nat×Nat))(cells:List Value)(i:Nat)(v:List Value)(rest:List (Nat×Value))(a:Nat)(c:b i=some (a,v.length))(d:a+v.length≤cells.length):
  Instr.fill b cells.toArray ((i,.agg v.toArray)::rest)=Instr.fill b (BQ cells a v).toArray rest:=by
 conv=>lhs;unfold Instr.fill
 simp only[c];rw[Aw (by simp[Value.cells];omega)];have h:=Uv v 0 a cells (by omega);rw[Nat.add_zero]at h;rw[←h]
 congr 1
 rw[←Array.foldl_toList];simp[Value.cells]
theorem Rh (a b c d:List Value)(e:c.length=a.length)(g:d.length=b.length)(r:List Value):BQ (BQ (a++(b++r)) 0 c) a.length d=c++(d++r):=by
 have f:BQ (a++(b++r)) 0 c=c++(b++r):=by unfold BQ;rw[AP,e,EN];rfl
 rw[f];unfold BQ;rw[←e,DX,Ec,Bz (by omega),List.nil_append,show c.length+d.length-c.length=d.length by omega,g,EN]
theorem Tryz.placesSec:(match Tryz.prog.underlying 232 with|some (.struct fs)=>fs.toList.mapM (fun f=>(Tryz.prog.info? f.type).map fun i=>(f.offset,i.size))|_=>none)=some [(0,64),(64,64),(128,1)]:=by kernel_rfl
theorem U6 (x:List Nat)(b:x.length=64)(w:World):(Instr.build 232 #[(0,.agg (Bb x).toArray),(1,.agg (Bb x).toArray)]).run Tryz.prog w=.ok (.agg (AT ⟨x,x,false⟩).toArray) w:=by
 refine DD w _ _ _ ?_;obtain⟨m,g,h,k,l⟩:=AU YE;have a:=Tryz.placesSec;unfold Program.built;revert a
 cases i:Tryz.prog.underlying 232 with
 |none=>intro a;cases a
 |some d=>
  cases d<;>try (intro a;cases a;done)
  case struct fs=>
   intro a;simp only at a;simp only[g,h,a,Value.cells];have c:(Bb x).length =64:=by rw[Bd,b]
   have j:(AT zeroSec).length =129:=Cw EZ;rw[PW _ _ 0 (Bb x) _ 0 (by simp[c]) (by omega),PW _ _ 1 (Bb x) _ 64 (by simp[c]) (by rw[Kd _ _ _ (by omega)];omega)];have e:=Rh (Bb (List.replicate 64 0)) (Bb (List.replicate 64 0)) (Bb x) (Bb x) (by simp[b]) (by simp[b]) [.bool false];simp only[Bd,G5]at e;unfold Instr.fill;show some (BQ (BQ (AT zeroSec) 0 (Bb x)) 64 (Bb x)).toArray =_;have f:AT zeroSec=Bb (List.replicate 64 0)++(Bb (List.replicate 64 0)++[.bool false]):=rfl;rw[f,e];rfl
def DU (l:List Sec)(keep:List Bool)(i:Nat):List Nat:=
 if(l.getD i zeroSec).loose &&keep.getD (D9 (l.map Sec.loose) i).length false then(l.getD i zeroSec).now else(l.getD i zeroSec).lasts
def Ha (x:List Nat):Sec:=⟨x,x,false⟩
def De (l:List Sec)(keep:List Bool)(k:Nat):List Sec:=(List.range k).map fun i=>Ha (DU l keep i)
theorem Qi (l:List Sec)(keep:List Bool)(k:Nat):De l keep (k+1)=De l keep k++[Ha (DU l keep k)]:=by simp[De,Ft]
theorem Qj (l:List Sec)(keep:List Bool)(k n:Nat)(h:k<n):(De l keep k++List.replicate (n-k) zeroSec).set k (Ha (DU l keep k))=De l keep (k+1)++List.replicate (n-(k+1)) zeroSec:=by
 have a:(De l keep k).length =k:=by simp[De]
 rw[List.set_append,Aw (by omega),a,C8,show n-k=(n-(k+1))+1 by omega,List.replicate_succ,List.set_cons_zero,Qi,Ax];rfl
theorem Qh (l:List Sec)(keep:List Bool)(i:Nat)(h:∀s∈l,s.ok):(Ha (DU l keep i)).ok :=by
 have a:(l.getD i zeroSec).ok :=by
  rw[Af]
  cases b:l[i]? with
  |none=>exact EZ
  |some s=>exact h s (Aq b)
 unfold DU
 split
 ·exact⟨a.1,a.1,a.2.2.1,a.2.2.1⟩
 ·exact⟨a.2.1,a.2.1,a.2.2.2,a.2.2.2⟩
theorem Tryz.size129:(Tryz.prog.info? 232).map (·.size)=some 129:=by kernel_rfl
theorem OL:∀W:World,(zeroValue 232).run Tryz.prog W=.ok (.agg (AT zeroSec).toArray) W:=by intro W;obtain⟨e,a,b,c,d⟩:=AU YE;simp[zeroValue,typeInfo,a,b]
def zero64:List Value:=Bb (List.replicate 64 0)
theorem Tryz.info64u:(Tryz.prog.info? 230).map (fun i=>(i.zero,i.size,i.bytes))=some (some (.agg zero64.toArray),64,64):=by kernel_rfl
theorem QV:∀W:World,(zeroValue 230).run Tryz.prog W=.ok (.agg zero64.toArray) W:=by intro W;obtain⟨e,a,b,c,d⟩:=AU Tryz.info64u;simp[zeroValue,typeInfo,a,b]
theorem Jr (s:Sec):∀v∈AT s,v.oneCell'=true:=by
 intro v a;unfold AT at a;rcases Ag.1 a with h|h
 ·exact Fk _ v h
 ·rcases Ag.1 h with h|h
  ·exact Fk _ v h
  ·rw[Ah.1 h];rfl
theorem T5 {w:World}{b:Nat}{s:Sec}{T:TypeId}(a:s.ok)(h:Blk w b (AT s) T):w.rangeAt b 64 (Bb s.lasts):=by
 have c:=h.range 64 64
 have e:((AT s).drop 64).take 64=Bb s.lasts:=by unfold AT;rw[Cp (by rw[Bd,a.1]),Ca (by rw[Bd,a.2.1])]
 rwa [e]at c
theorem Xe {w:World}{b:Nat}{s:Sec}{T:TypeId}(a:s.ok)(h:Blk w b (AT s) T):w.rangeAt b 0 (Bb s.now):=by
 have c:=h.range 0 64
 have e:((AT s).drop 0).take 64=Bb s.now:=by unfold AT;rw[Bj,Ca (by rw[Bd,a.1])]
 rwa [e]at c
theorem T4 {w:World}{b:Nat}{s:Sec}{T:TypeId}(a:s.ok)(h:Blk w b (AT s) T):w.cell? ⟨b,128,none⟩=some (.bool s.loose):=by rw[h.cell];unfold AT;have c:=a.1;have d:=a.2.1;rw[AC (by simp;omega),AC (by simp;omega)];simp[c,d]
def DevS (a c d k:Nat)(v:Value)(b:List Value)(W:World):Prop:=W.cell? ⟨a,0,none⟩=some v∧W.rangeAt d 0 b∧W.there c (k*129) 129
theorem Nn {w:World}{b sb:Nat}{l:List Sec}{c:Nat}(h:IsDev w b sb l c)(kv:Value)(keep:List Bool)(hkeep:Rv w 1 kv keep.length (WA keep))(hkl:keep.length≤9223372036854775807):
  Calls Tryz.prog 99 #[pr b 0,kv] w fun e w'=>∃P ba,e=.returned (pr P 0)∧IsDev w' P ba (De l keep l.length) 0∧Keep [] w w'∧w.heap.size≤P∧w.heap.size≤ba:=by
 have g0:=h.dev.cell 0;simp only[List.getElem?_cons_zero]at g0;have bs:=h.max;have bt:=h.pos;go_enter Tryz.func99,Tryz.ntmps99;go_wp2_with fail;refine(Th (l.length:Int) l.length (by omega)).mono ?_;rintro e w1 ⟨Q,a,rfl,d,ak,bm,bu⟩;have aj:=h.keep ak (by simp) (by simp);have g1:=aj.dev.cell 0;simp only[List.getElem?_cons_zero]at g1;go_wp2_with fail
 go_loopg [6,23] l.length (fun g j i wr=>∃k:Nat,g=l.length-k∧k≤l.length∧i=.int .i64 k∧j=.int .i64 ((D9 (l.map Sec.loose) k).length :Int)∧IsDev wr Q a (De l keep k++List.replicate (l.length-k) zeroSec) 0∧Keep [] w wr)
 case atStart=>exact⟨0,rfl,by omega,rfl,rfl,by simpa[De]using d,ak⟩
 case round=>
  obtain⟨k,hg,hk,rfl,rfl,d,F⟩:=hrel;have HG:=h_ hg;clear hg;have hD:=h.keep F (by simp) (by simp);have f0:=d.dev.cell 0;simp only[List.getElem?_cons_zero]at f0;have r:(De l keep k++List.replicate (l.length-k) zeroSec).length =l.length:=by simp[De];omega
  rw[r]at f0;by_cases a4:k<l.length
  ·obtain⟨s,Y,bv⟩:=Gw a4
   have m:=h.ok s bv;have q0:(k:Int)<l.length:=by omega
   have X:=hD.secs.range (k*129) 129;have R:=DT h.ok k s Y 0 129 (by omega);have G:=Cw m;rw[Nat.add_zero]at R;rw[R,Bj,Ba (Nat.le_of_eq G)]at X;have ay:(Tryz.prog.info? 232).map (·.size)=some (AT s).length :=by rw[Tryz.size129,G]
   have aw:(Tryz.prog.info? 230).map (·.size)=some (Bb s.lasts).length :=by rw[Y8,Bd,m.2.1]
   have ax:(Tryz.prog.info? 230).map (·.size)=some (Bb s.now).length :=by rw[Y8,Bd,m.1]
   have b0:∀W:World,(zeroValue 232).run Tryz.prog W=.ok (.agg (AT zeroSec).toArray) W:=OL;have bz:∀W:World,(zeroValue 230).run Tryz.prog W=.ok (.agg zero64.toArray) W:=QV;have a1:(AT zeroSec).length =(AT s).length :=by rw[G,Cw EZ]
   have a0:zero64.length=(Bb s.lasts).length :=by rw[Bd,m.2.1];rfl
   have a2:(Bb s.lasts).length =(Bb s.now).length :=by rw[Bd,Bd,m.1,m.2.1]
   obtain⟨HU,N,I,J,K,HR,ac,ab,ad⟩:=i_9 Tryz.underlying232 Tryz.underlying230 ay aw ax X a1 a0 a2;have ai:=h_ (Jr s);have ag:=h_ (Fk s.lasts);have ah:=h_ (Fk s.now)
   have ap:D9 (l.map Sec.loose) (k+1)=D9 (l.map Sec.loose) k++if s.loose then[(k:Int)]else[]:=by rw[P8];simp[Af,Y]
   have aq:DU l keep k=if s.loose&&keep.getD (D9 (l.map Sec.loose) k).length false then s.now else s.lasts:=by unfold DU;simp[Af,Y]
   obtain⟨z,A⟩:=i_2 ap aq;clear X ay aw R G a1 a0 ax a2 ap aq;have b6:=d.secs.lt;have b3:=d.dev.lt;have b5:=R5 (l.map Sec.loose) k
   go_upto_if 31 with(first
    |(refine Bc rfl 232 _ rfl sb (k*129) rfl (AT s) _ HR.out HU.out rfl I.out ?_)
    |(refine AS rfl 232 _ _ rfl wr.heap.size (AT zeroSec) (AT s) 232 rfl rfl (BY _ _ _) ac.out I.out ai.out ?_;intro p E al;have o:=((By [] wr).alloc _).then al (by simp);have ae:=h_ (T5 m E))
    |(refine Bc rfl 230 _ rfl wr.heap.size 64 rfl (Bb s.lasts) _ ae.out N.out rfl J.out ?_)
    |(refine AS rfl 230 _ _ rfl p.heap.size zero64 (Bb s.lasts) 230 rfl rfl (BY _ _ _) ab.out J.out ag.out ?_;intro w3 B am;have br:=E.lt;have U:=((By [] p).alloc _).then am (by simp);have T:=E.keep U (by simp);have S:=T4 m T))
   go_cut [6,9] (fun s6 s9 wx=>∃n:Nat,s9=pr n 0∧Blk wx n (Bb (DU l keep k)) 230∧Keep [] wr wx∧wr.heap.size≤n∧s6=.int .i64 ((D9 (l.map Sec.loose) (k+1)).length :Int))
   case first=>
    have C:=o.trans U;have bl:Keep [] w w3:=F.trans C
    cases y:s.loose with
    |false=>rw[y]at S;have f:=h_ y;clear y;go_wp2_with fail;go_meet;exact⟨p.heap.size,rfl,by rw[A.out,f.out];exact B,C,o.size,by rw[z.out,f.out];simp⟩
    |true=>
     rw[y]at S;have f:=h_ y;clear y;by_cases D:(D9 (l.map Sec.loose) k).length <keep.length
     ·obtain⟨ks,ko,b1,rfl,b7,bp,ao⟩:=hkeep.at1 (by omega)
      have af:w3.cell? ⟨ks,ko+(D9 (l.map Sec.loose) k).length,none⟩=some (.bool (keep.getD (D9 (l.map Sec.loose) k).length false)):=by rw[bl.cell bp (by simp),ao _ D,W9 keep _ D]
      have q1:((D9 (l.map Sec.loose) k).length :Int)<keep.length:=by omega
      have q2:decide ((D9 (l.map Sec.loose) k).length <keep.length)=true:=by simpa using D
      clear ao
      cases u:keep.getD (D9 (l.map Sec.loose) k).length false with
      |false=>rw[u]at af;have L:=h_ u;clear u;go_wp2_with fail;go_meet;exact⟨p.heap.size,rfl,by rw[A.out,f.out,L.out];exact B,C,o.size,by rw[z.out,f.out];simp⟩
      |true=>
       rw[u]at af;have L:=h_ u;clear u;have bh:=h_ (Xe m T)
       go_wp2_with (first
        |(refine Bc rfl 230 _ rfl wr.heap.size 0 rfl (Bb s.now) _ bh.out N.out rfl K.out ?_)
        |(refine AS rfl 230 _ _ rfl p.heap.size (Bb s.lasts) (Bb s.now) 230 rfl rfl B ad.out K.out ah.out ?_;intro w4 bi bk))
       go_meet;exact⟨p.heap.size,rfl,by rw[A.out,f.out,L.out];exact bi,C.then bk (by have:=o.size;simp;omega),o.size,by rw[z.out,f.out];simp⟩
     ·have q2:decide ((D9 (l.map Sec.loose) k).length <keep.length)=false:=by simpa using D
      have bc:=h_ (show keep.getD (D9 (l.map Sec.loose) k).length false=false by simp[Af,D7 (EU D)]);obtain⟨_,ka,b1,rfl,_⟩:=id hkeep;go_wp2_with fail;go_meet;exact⟨p.heap.size,rfl,by rw[A.out,f.out,bc.out];exact B,C,o.size,by rw[z.out,f.out];simp⟩
   case rest=>
    obtain⟨n,rfl,bj,an,b9,rfl⟩:=hcut;have q:=d.keep an (by simp) (by simp);have Z:=q.dev.cell 0;simp only[List.getElem?_cons_zero]at Z;rw[r]at Z;have a8:=Qj l keep k l.length a4;have v:=Qh l keep k h.ok;have O:=h_ a8;clear a8;generalize DU l keep k=x at*;have H:x.length=64:=v.1;have a7:=Cw v
    have a6:wc.rangeAt n 0 (Bb x):=by
     have:=bj.range 0 64
     rwa [Bj,Ba (by rw[Bd,H];omega)]at this
    have ar:=CT q.ok;rw[r]at ar;have V:wc.there a (k*129) 129:=q.secs.there _ _ (by omega)
    have hz:(De l keep k++List.replicate (l.length-k) zeroSec)[k]?=some zeroSec:=by rw[AC (by simp[De])];simp[De,List.getElem?_replicate];omega
    have au:Blk (wc.drew.setCells a (k*129) (AT (Ha x))) a (devCells (De l keep (k+1)++List.replicate (l.length-(k+1)) zeroSec)) 232:=by
     have h1:=(q.secs.drew).setCells (AT (Ha x)) (k*129) wc.drew _ (by omega)
     have ov:BQ (AT zeroSec) 0 (AT (Ha x))=AT (Ha x):=by unfold BQ;rw[Bz (by rw[Cw EZ];omega)];simp
     have h2:=Eq q.ok k zeroSec (Ha x) hz v 0 (AT (Ha x)) (by omega) ov;rw[Nat.add_zero]at h2;rw[h2,O.out]at h1;exact h1
    have av:Keep [a] wc (wc.drew.setCells a (k*129) (AT (Ha x))):=E6 _ _ _ _ (By _ _).drew (.inl (by simp));have bn:∀W:World,(Instr.build 232 #[(0,.agg (Bb x).toArray),(1,.agg (Bb x).toArray)]).run Tryz.prog W=.ok (.agg (AT (Ha x)).toArray) W:=U6 x H;have bo:(Tryz.prog.info? 230).map (·.size)=some (Bb x).length :=by rw[Y8,Bd,H]
    have az:(Tryz.prog.info? 232).map (·.size)=some (AT (Ha x)).length :=by rw[Tryz.size129,a7]
    have bq:(Bb x).length =64:=by rw[Bd,H]
    have bx:=Fk x;have a9:=Jr (Ha x);have bw:=Tryz.underlying230;have b8:=Tryz.underlying232
    have a5:∀t∈De l keep (k+1)++List.replicate (l.length-(k+1)) zeroSec,t.ok:=by rw[←O.out];exact Hg d.ok _ _ v
    have a3:(De l keep (k+1)++List.replicate (l.length-(k+1)) zeroSec).length =l.length:=by rw[←O.out,Bi];exact r
    obtain⟨HF,aa,b2,bb,bf,M⟩:=i_6 au av v r a5 a3;have b4:=d.ne;have ca:n≠a:=by omega
    have S0:DevS Q a n k (.slice (some ⟨a,0,none⟩) l.length l.length) (Bb x) wc.drew:=⟨Z,a6,V⟩;have bg:=h_ (show wc.drew.there a (k*129) (AT (Ha x)).toArray.size by rw[C2,a7];exact V);have bd:=h_ (show(Tryz.prog.info? 232).map (·.size)=some (AT (Ha x)).toArray.size by rw[C2];exact az);have be:=h_ (Fe a9);clear az a9 V bx bq;clear au av v r a5 a3 hz ar HU N I J K HR ac ab ad ai ag ah z A al o ae am br U T S E B b0 bz aj g1;go_wp2_with fail;refine BJ 9 (by kernel_rfl) (by kernel_rfl) ?_;simp only[List.take_succ_cons,List.take_zero,BB,Bj]
    repeat (first|(refine JC rfl 230 _ rfl n 0 rfl (Bb x) _ a6 bw rfl bo ?_;simp only[Act.put,A8,A7,A6])|still_step)
    refine Mm rfl 232 _ rfl #[(0,.agg (Bb x).toArray),(1,.agg (Bb x).toArray)] (by go_simp) _ (bn _) ?_;simp only[Act.put,A8,A7,A6]
    repeat still_step
    refine Du ?_
    go_wp2_with (refine wpList_store_mid rfl 232 _ _ rfl a (k*129) (AT (Ha x)).toArray rfl rfl bg.out bd.out be.out ?_)
    go_roundg (l.length-(k+1))
    case measure=>rw[HG.out];omega
    case rel=>
     refine⟨k+1,rfl,by omega,by go_num,rfl,⟨?_, ?_,d.ne,bf.out,by rw[M.out];exact bt,by rw[M.out];exact bs,by omega⟩, ?_⟩
     ·rw[M.out]
      have:=q.dev.keep aa.out (by simpa using d.ne)
      rwa [bb.out]at this
     ·simpa using HF.out
     ·have:=(F.trans an).then aa.out (by simp;omega)
      simpa using this
  ·obtain rfl:k=l.length:=by omega
   rw[C8,List.replicate_zero,AE]at d;go_wp2;go_ret;exact⟨Q,a,rfl,d,F,bm,bu⟩
def be:Nat→Nat→List Nat
 |0,_=>[]
 |m+1,n=>be m (n/256)++[n % 256]
def unbe (l:List Nat):Nat:=l.foldl (fun n c=>n*256+c) 0
@[simp] theorem WC (m n:Nat):(be m n).length =m:=by induction m generalizing n with
 |zero=>rfl
 |succ m ih=>simp[be,ih]
theorem Fj (m n:Nat):∀c∈be m n,c<256:=by
 induction m generalizing n with
 |zero=>simp[be]
 |succ m ih=>
  intro c a;simp only[be,Ag,Ah]at a;rcases a with a|rfl
  ·exact ih _ c a
  ·omega
theorem I3 (l:List Nat)(c:Nat):unbe (l++[c])=unbe l*256+c:=by simp[unbe]
theorem FD (m n:Nat):unbe (be m n)=n % 256^m:=by
 induction m generalizing n with
 |zero=>simp[be,unbe];omega
 |succ m ih=>rw[be,I3,ih,Nat.pow_succ,Nat.mul_comm (256^m) 256,Nat.mod_mul];omega
theorem XM (l:List Nat)(b:∀c∈l,c<256):be l.length (unbe l)=l:=by
 induction h:l.length generalizing l with
 |zero=>rw[List.length_eq_zero_iff.1 h];rfl
 |succ m ih=>obtain⟨a,c,rfl⟩:∃a c,l=a++[c]:=⟨l.dropLast,l.getLast (by intro e;simp[e]at h),(List.dropLast_concat_getLast _).symm⟩;have f:c<256:=b c (by simp);rw[I3,be,show(unbe a*256+c)/256=unbe a by omega,show(unbe a*256+c) % 256=c by omega];rw[ih a (fun x d=>b x (by simp[d])) (by simpa using h)]
theorem KF (l:List Nat)(a:∀c∈l,c<256):unbe l<256^l.length:=by have:=FD l.length (unbe l);rw[XM l a]at this;rw[this];exact C1 _ (Nat.pow_pos (by omega))
theorem be_at (m n i:Nat)(h:i<m):(be m n).getD (m-1-i) 0=n/256^i % 256:=by
 induction m generalizing n i with
 |zero=>omega
 |succ m ih=>
  simp only[be]
  cases i with
  |zero=>simp
  |succ i=>rw[Af,AK (by simp;omega),←Af,show m+1-1-(i+1)=m-1-i by omega,ih _ _ (by omega),Nat.pow_succ,Nat.mul_comm,←Nat.div_div_eq_div_mul]
def Sd (old:List Nat)(n k:Nat):List Nat:=old.take (old.length-k)++(be old.length n).drop (old.length-k)
theorem Q1 (old:List Nat)(n:Nat):Sd old n 0=old:=by simp[Sd]
theorem Tf (old:List Nat)(n:Nat):Sd old n old.length=be old.length n:=by simp[Sd]
theorem Te (old:List Nat)(n k:Nat)(h:k≤old.length):(Sd old n k).length =old.length:=by simp[Sd]
theorem Q2 (old:List Nat)(n k:Nat)(h:k<old.length):(Sd old n k).set (old.length-1-k) (n/256^k % 256)=Sd old n (k+1):=by
 have b:old.length-k=(old.length-1-k)+1:=by omega
 unfold Sd;rw[show old.length-(k+1)=old.length-1-k by omega,b,←be_at _ n k h];generalize c:be old.length n=L;have d:L.length=old.length:=by rw[←c];simp
 generalize e:old.length-1-k=q at*;have a:q<old.length:=by omega
 rw[Bw a,Cj (i:=q) (by omega),Ax];rw[CU _ _ (by simp;omega)];simp[Af,show q<L.length by omega,BZ (EV a)]
theorem SC {w:World}{b:Nat}{T:TypeId}(A old B:List Nat)(cap n:Nat)(h:Blk w b (Bb (A++old++B)) T)(t:n<18446744073709551616)(r:old.length≤8)(q:A.length≤1000000):
  Calls Tryz.prog 152 #[.slice (some ⟨b,A.length,none⟩) old.length cap,.int .u64 n] w fun e d=>e=.returned (.tuple #[])∧Blk d b (Bb (A++be old.length n++B)) T∧Keep [b] w d:=by
 go_enter Tryz.func152,Tryz.ntmps152;go_wp2
 go_loopw [7] (fun i wr=>∃k:Nat,k≤old.length∧i=.int .i64 k∧Blk wr b (Bb (A++Sd old n k++B)) T∧Keep [b] w wr) (fun i _=>old.length-(intOf i).toNat)
 case atStart=>exact⟨0,by omega,rfl,by rw[Q1];exact h,By _ _⟩
 case round=>
  obtain⟨k,l,rfl,a,c⟩:=hrel;by_cases m:k<old.length
  ·have v:(k:Int)<old.length:=by omega
   have x:old.length-1-k<old.length:=by omega
   have s:=Te old n k l
   have j:∃u,wr.cell? ⟨b,A.length+(old.length-1-k),none⟩=some u:=by rw[a.cell,Ad (by simp;omega)];exact⟨_,rfl⟩
   obtain⟨u,o⟩:=j;have p:=a.free (A.length+(old.length-1-k));go_wp2
   go_roundw
   case rel=>
    refine⟨k+1,by omega,by go_num, ?_,c.setCell (by simp) _⟩;have e:=a.set (A.length+(old.length-1-k)) (.int .u8 ((n:Int)/2^(8*k) % 256))
    have f:(Bb (A++Sd old n k++B)).set (A.length+(old.length-1-k)) (.int .u8 ((n:Int)/2^(8*k) % 256))=Bb (A++Sd old n (k+1)++B):=by
     have g:(.int .u8 ((n:Int)/2^(8*k) % 256):Value)=bc (n/256^k % 256):=by unfold bc;rw[show(256:Nat)^k=2^(8*k) by rw[Nat.pow_mul]];simp
     rw[g,←Q2 old n k m];unfold Bb;rw[←Gl]
     congr 1
     rw[Ax,CU _ _ (by omega),Nat.add_sub_cancel_left,List.set_append_left _ _ (by omega),←Ax]
    rw[f]at e;exact e
   case measure=>simp[intOf];omega
  ·obtain rfl:k=old.length:=by omega
   rw[Tf]at a;go_wp2
   go_end0
   exact⟨rfl,a,c⟩
theorem SU {w:World}(v:Value)(l:List Nat)(h:Rd w v l)(f:∀c∈l,c<256)(C:l.length≤8)(n:Nat)(r:n=unbe l):
  Calls Tryz.prog 183 #[v] w fun e y=>e=.returned (.int .u64 n)∧w=y:=by
 have s:=h_ r;clear r;have j:=h;obtain⟨_,a,cap,rfl,_,_⟩:=h;go_enter Tryz.func183,Tryz.ntmps183;go_wp2_with fail
 go_loop [3,8] (fun x i=>∃k:Nat,k≤l.length∧i=.int .i64 k∧x=.int .u64 (unbe (l.take k):Nat)) (fun _ i=>l.length-(intOf i).toNat)
 case atStart=>exact⟨0,by omega,rfl,rfl⟩
 case round=>
  obtain⟨k,u,rfl,rfl⟩:=hrel;by_cases d:k<l.length
  ·obtain⟨G,H,A,q,_,E,o⟩:=j.at1 (by omega)
   simp only[Bn]at q;obtain⟨rfl,_,rfl⟩:=q;have g:=o k d;rw[EL l k d]at g;have p:l.getD k 0<256:=f _ (by simp[Af,d]);have b:=KF (l.take k) (fun c p=>f c (AH p))
   have m:unbe (l.take (k+1))=unbe (l.take k)*256+l.getD k 0:=by rw[Bw d,I3];simp[Af,d]
   have t:=h_ m
   have B:unbe (l.take k)<72057594037927936:=by rw[Az,BZ u]at b;have:(256:Nat)^k≤256^7:=EM (by omega) (by omega);rw[show(256:Nat)^7=72057594037927936 by rfl]at this;omega
   clear o j f m b;generalize l.getD k 0=c at*;generalize unbe (l.take k)=X at*;unfold bc at g;have F:(k:Int)<l.length:=by omega
   have D:bits .or .u64 ((X:Int)*256) (c:Int)=((X*256+c:Nat):Int):=by rw[show(X:Int)*256=((X*256:Nat):Int) by omega,u64_or_nat _ _ (by omega) (by omega),show X*256=2^8*X by omega,←Nat.two_pow_add_eq_or_of_lt (show c<2^8 by omega) X]
   go_wp2_with fail
   go_round
   case rel=>exact⟨k+1,by omega,by go_num,by rw[t.out];go_num⟩
   case measure=>simp[intOf];omega
  ·obtain rfl:k=l.length:=by omega
   rw[Bt];generalize b:unbe l=X at*;have z:=h_ b;clear b;go_wp2;go_ret;exact⟨by rw[s.out];rfl,rfl⟩
theorem OC {w:World}{b:Nat}{T:TypeId}(A old B:List Nat)(cap n:Nat)(h:Blk w b (Bb (A++old++B)) T)(t:n<18446744073709551616)(r:old.length≤8)(q:A.length≤1000000):
  Calls Tryz.prog 252 #[.slice (some ⟨b,A.length,none⟩) old.length cap,.int .u64 n] w fun e d=>e=.returned (.tuple #[])∧Blk d b (Bb (A++be old.length n++B)) T∧Keep [b] w d:=by
 go_enter Tryz.func252,Tryz.ntmps252;go_wp2
 go_loopw [7] (fun i wr=>∃k:Nat,k≤old.length∧i=.int .i64 k∧Blk wr b (Bb (A++Sd old n k++B)) T∧Keep [b] w wr) (fun i _=>old.length-(intOf i).toNat)
 case atStart=>exact⟨0,by omega,rfl,by rw[Q1];exact h,By _ _⟩
 case round=>
  obtain⟨k,l,rfl,a,c⟩:=hrel;by_cases m:k<old.length
  ·have v:(k:Int)<old.length:=by omega
   have x:old.length-1-k<old.length:=by omega
   have s:=Te old n k l
   have j:∃u,wr.cell? ⟨b,A.length+(old.length-1-k),none⟩=some u:=by rw[a.cell,Ad (by simp;omega)];exact⟨_,rfl⟩
   obtain⟨u,o⟩:=j;have p:=a.free (A.length+(old.length-1-k));go_wp2
   go_roundw
   case rel=>
    refine⟨k+1,by omega,by go_num, ?_,c.setCell (by simp) _⟩;have e:=a.set (A.length+(old.length-1-k)) (.int .u8 ((n:Int)/2^(8*k) % 256))
    have f:(Bb (A++Sd old n k++B)).set (A.length+(old.length-1-k)) (.int .u8 ((n:Int)/2^(8*k) % 256))=Bb (A++Sd old n (k+1)++B):=by
     have g:(.int .u8 ((n:Int)/2^(8*k) % 256):Value)=bc (n/256^k % 256):=by unfold bc;rw[show(256:Nat)^k=2^(8*k) by rw[Nat.pow_mul]];simp
     rw[g,←Q2 old n k m];unfold Bb;rw[←Gl]
     congr 1
     rw[Ax,CU _ _ (by omega),Nat.add_sub_cancel_left,List.set_append_left _ _ (by omega),←Ax]
    rw[f]at e;exact e
   case measure=>simp[intOf];omega
  ·obtain rfl:k=old.length:=by omega
   rw[Tf]at a;go_wp2
   go_end0
   exact⟨rfl,a,c⟩
theorem CB {w:World}(v:Value)(l:List Nat)(h:Rd w v l)(f:∀c∈l,c<256)(C:l.length≤8)(n:Nat)(r:n=unbe l):
  Calls Tryz.prog 293 #[v] w fun e y=>e=.returned (.int .u64 n)∧w=y:=by
 have s:=h_ r;clear r;have j:=h;obtain⟨_,a,cap,rfl,_,_⟩:=h;go_enter Tryz.func293,Tryz.ntmps293;go_wp2_with fail
 go_loop [3,8] (fun x i=>∃k:Nat,k≤l.length∧i=.int .i64 k∧x=.int .u64 (unbe (l.take k):Nat)) (fun _ i=>l.length-(intOf i).toNat)
 case atStart=>exact⟨0,by omega,rfl,rfl⟩
 case round=>
  obtain⟨k,u,rfl,rfl⟩:=hrel;by_cases d:k<l.length
  ·obtain⟨G,H,A,q,_,E,o⟩:=j.at1 (by omega)
   simp only[Bn]at q;obtain⟨rfl,_,rfl⟩:=q;have g:=o k d;rw[EL l k d]at g;have p:l.getD k 0<256:=f _ (by simp[Af,d]);have b:=KF (l.take k) (fun c p=>f c (AH p))
   have m:unbe (l.take (k+1))=unbe (l.take k)*256+l.getD k 0:=by rw[Bw d,I3];simp[Af,d]
   have t:=h_ m
   have B:unbe (l.take k)<72057594037927936:=by rw[Az,BZ u]at b;have:(256:Nat)^k≤256^7:=EM (by omega) (by omega);rw[show(256:Nat)^7=72057594037927936 by rfl]at this;omega
   clear o j f m b;generalize l.getD k 0=c at*;generalize unbe (l.take k)=X at*;unfold bc at g;have F:(k:Int)<l.length:=by omega
   have D:bits .or .u64 ((X:Int)*256) (c:Int)=((X*256+c:Nat):Int):=by rw[show(X:Int)*256=((X*256:Nat):Int) by omega,u64_or_nat _ _ (by omega) (by omega),show X*256=2^8*X by omega,←Nat.two_pow_add_eq_or_of_lt (show c<2^8 by omega) X]
   go_wp2_with fail
   go_round
   case rel=>exact⟨k+1,by omega,by go_num,by rw[t.out];go_num⟩
   case measure=>simp[intOf];omega
  ·obtain rfl:k=l.length:=by omega
   rw[Bt];generalize b:unbe l=X at*;have z:=h_ b;clear b;go_wp2;go_ret;exact⟨by rw[s.out];rfl,rfl⟩
def st0 (i:Nat):Nat:=i*48-6
theorem I6 {w:World}(i:Nat)(d:i≤100)(r:Int)(a:r=(st0 i:Int)):Calls Tryz.prog 253 #[.int .i64 (i:Int)] w fun e c=>e=.returned (.int .i64 r)∧w=c:=by
 rcases(show i=0∨1≤i by omega)with rfl|h
 ·have:r=0:=a
  subst this;go_enter Tryz.func253,Tryz.ntmps253;go_wp2;go_ret;exact⟨rfl,rfl⟩
 ·have b:r=(i:Int)*48-6:=by rw[a];unfold st0;omega
  have q:max 0 ((i:Int)*48-6)=(i:Int)*48-6:=by omega
  go_enter Tryz.func253,Tryz.ntmps253;go_wp2;go_ret;exact⟨by rw[b];simp<;>omega,rfl⟩
end Go.Proofs.YtnhbioehiiifdaaGreat
