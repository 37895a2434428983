import Derived.Test.YtnhbioehiiifdaaGreatD12
import Derived.Test.YtnhbioehiiifdaaGreatD13
set_option maxRecDepth 100000
set_option maxHeartbeats 16000000
set_option linter.all false
namespace Go.Proofs.YtnhbioehiiifdaaGreat
open Go.ChangeShapes Go.WideShapes Go.ChangeAt Go.RowKit
section
variable {w w':World} {rb ep:Nat} {mem:List Nat} {v1 v2:Value}
def Xj (rb:Nat)(v1 v2:Value):List Nat:=rb::(v1.ownBlock.toList++v2.ownBlock.toList)
theorem RingAt.keep {S:List Nat}(h:RingAt w rb ep mem v1 v2)(k:Keep S w w')(c:∀q∈S,q∉Xj rb v1 v2):RingAt w' rb ep mem v1 v2:=
 ⟨h.blk.keep k (fun a=>c rb a (by simp[Xj])),h.nodes.keep k (fun b d _ a=>c b a (by simp[Xj,d])),h.pts.keep k (fun b d a=>c b a (by simp[Xj,d]))⟩
theorem RingAt.still (h:RingAt w rb ep mem v1 v2)(k:Keep [] w w'):RingAt w' rb ep mem v1 v2:=h.keep k (by simp)
theorem TD (f:Value)(mem:List Nat)(ep:Nat)(h:Rv w 1 f (mem.map Int.ofNat).length (ints (mem.map Int.ofNat)))(r:nodesOk (mem.map Int.ofNat)=true)(E:mem.length≤5)(x:∀n∈mem,n≤1000)(G:1≤ep∧ep≤1099511627776):
  Calls Tryz.prog 191 #[.int .i64 (ep:Int),f] w fun e w'=>∃rb v1 v2,e=.returned (pr rb 0)∧RingAt w' rb ep mem v1 v2∧Keep [] w w'∧∀q∈Xj rb v1 v2,w.heap.size≤q:=by
 have B:=h_ (Dr f _ h (by simp;omega) true r.symm);have A:=h_ (Ji f _ h (by simp;omega));have F:=h_ h;have C:Hid (∀W,Keep [] w W→Calls Tryz.prog 235 #[f] W fun e w'=>∃v,e=.returned v∧PtR w' v (ptsOf mem)∧Keep [] W w'∧(∀b,v.ownBlock=some b→W.heap.size≤b)):=h_ (fun W D=>XU f mem (h.keep D (by simp)) r E x);have J:¬(ep:Int)<1:=by omega
 have K:¬(1099511627776:Int)<(ep:Int):=by omega
 clear h r x;go_enter Tryz.func191,Tryz.ntmps191
 go_wp2_with (first|(refine B.out.mono ?_;rintro e y ⟨rfl,rfl⟩)|fail)
 refine A.out.mono ?_;rintro e y ⟨v1,rfl,p,i⟩;have g:=p.irv;have m:=p.lt;simp only[AD]at g;have o:=h_3 g m i;clear g m p i;go_wp2_with fail;refine(C.out y o.out.2.2).mono ?_;rintro e t ⟨v2,rfl,j,d,l⟩;have z:=h_3 j d l
 obtain⟨k,c1,rfl⟩:∃k c1,v1=.slice k mem.length c1:=by obtain⟨_,a,cap,rfl,_,_⟩:=o.out.1;exact⟨_,_,rfl⟩
 obtain⟨u,c2,rfl,_,_⟩:=id j;clear j d l;go_wp2;go_ret;obtain⟨g,m,i⟩:=o.out;obtain⟨j,d,l⟩:=z.out;have s:Keep [] t (t.alloc (.cells #[.int .i64 (ep:Int),.slice k mem.length c1,.slice (some ⟨u,0,none⟩) (ptsOf mem).length c2] 166)):=(By _ _).alloc _;have H:=i.size;have I:=d.size;refine⟨_,_,_,rfl,⟨BY t [.int .i64 (ep:Int),.slice k mem.length c1,.slice (some ⟨u,0,none⟩) (ptsOf mem).length c2] _,(g.keep d (by simp)).keep s (by simp),j.keep s (by simp)⟩,(i.trans d).trans s,fun q c=> ?_⟩;unfold Xj at c;rcases Ac.1 c with rfl|c
 ·omega
 ·rcases Ag.1 c with c|c
  ·exact(m q (Ae.1 c)).1
  ·have:=l q (Ae.1 c)
   omega
theorem Of_nil {w:World}(k:Str)(f:k.size≤1000000):Calls Tryz.prog 38 #[.pointer none,.string k] w fun e w'=>e=.returned (.int .i64 0)∧Keep [] w w':=by have b:Keep [] w (w.alloc (.cells #[.string k] 9)):=(By _ _).alloc _;have a:Blk (w.alloc (.cells #[.string k] 9)) w.heap.size [.string k] 9:=BY w _ _;have d:=h_ (Sr w.heap.size 1 1 rfl k (a.cell 0) f);have c:=h_ b;clear b a;go_enter Tryz.func38,Tryz.ntmps38;go_wp2_with fail;refine d.out.mono ?_;rintro e g ⟨rfl,rfl⟩;go_wp2_with fail;refine(UH _).mono ?_;rintro e g ⟨rfl,rfl⟩;go_wp2;go_ret;exact⟨rfl,c.out⟩
theorem Vp (b:RingAt w rb ep mem v1 v2)(d:0<(ptsOf mem).length ∧(ptsOf mem).length ≤1000)(k:Str)(i:k.size≤1000000):Calls Tryz.prog 38 #[pr rb 0,.string k] w fun e w'=>e=.returned (.int .i64 (Eg (ptsOf mem) (IN (sb k)):Int))∧Keep [] w w':=by have a:Keep [] w (w.alloc (.cells #[.string k] 9)):=(By _ _).alloc _;have c:Blk (w.alloc (.cells #[.string k] 9)) w.heap.size [.string k] 9:=BY w _ _;have g:=h_ (Sr w.heap.size 1 1 rfl k (c.cell 0) i);have h:=h_ (UJ (b.still a) d (IN (sb k)) (P3 _));have f:=h_ a;clear a c b d;go_enter Tryz.func38,Tryz.ntmps38;go_wp2_with fail;refine g.out.mono ?_;rintro e l ⟨rfl,rfl⟩;go_wp2_with fail;refine h.out.mono ?_;rintro e l ⟨rfl,j⟩;go_wp2;go_ret;exact⟨rfl,f.out.trans j⟩
end
end Go.Proofs.YtnhbioehiiifdaaGreat
