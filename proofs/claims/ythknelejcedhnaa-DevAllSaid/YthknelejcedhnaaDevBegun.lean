/- The laws' own begun, and what a row of bytes that was read holds. -/
import Derived.Test.YthknelejcedhnaaDevCrash
import Derived.Test.YthknelejcedhnaaOwn
import Derived.Lib.SmallJoins
namespace Go.Proofs.Ythknelejcedhnaa
open Go.ChangeShapes Go.WideShapes Go.ChangeAt Go.RowKit
set_option linter.unusedVariables false
set_option linter.unusedSimpArgs false

theorem Buf.at_ {w : World} {base : Nat} {E : TypeId} {v : Value} {l : List Nat} (h : Buf w base E v l) (hp : 0 < l.length) :
    ∃ g cap, v = .slice (some ⟨g, 0, none⟩) l.length cap ∧ l.length ≤ cap ∧ base ≤ g ∧ g < w.heap.size ∧ (∀ i, i < l.length → w.cell? ⟨g, i, none⟩ = some (bc (l.getD i 0))) ∧ ∀ i, w.frozen? ⟨g, i, none⟩ = false := by
  have hlt := h.lt
  rcases h.2 with ⟨rfl, hn⟩ | ⟨g, cap, cur, rfl, hb, hg, hc, hm, hs, ht⟩
  · omega
  · refine ⟨g, cap, rfl, hc, hb, (hlt g rfl).2, fun i hi => ?_, fun i => by simp [World.frozen?, hg]⟩
    have := World.ownsRow.cells h (g := g) rfl i _ (bcs_at l i hi)
    rw [Addr.add_mid, Nat.zero_add] at this
    exact this
theorem run_u8s (w : World) (cs : List Nat) (b : Nat) (hb : b = w.heap.size) (fr : Nat × Nat) : Rd (w.alloc (.cells (bcs cs).toArray 5 fr)) (.slice (some ⟨b, 0, none⟩) cs.length cs.length) cs := by
  subst hb
  refine ⟨by simp, _, cs.length, rfl, Nat.le_refl _, fun _ => ⟨w.heap.size, 0, rfl, by simp, fun i hi => ?_⟩⟩
  rw [Nat.zero_add, World.cell?_alloc_mark]
  simp
theorem rv_bools (w : World) (bs : List Bool) (b : Nat) (hb : b = w.heap.size) : Rv (w.alloc (.cells (bools bs).toArray 4)) 1 (.slice (some ⟨b, 0, none⟩) bs.length bs.length) bs.length (bools bs) :=
  Rv.new _ _ _ 1 bs.length bs.length (by simp) (Nat.le_refl _) b hb
theorem z64_at (i : Nat) : z64.getD i 0 = 0 := by
  unfold z64
  rw [List.getD_eq_getElem?_getD, List.getElem?_replicate]
  split <;> rfl

def begL : List Sec := (List.replicate 4 zeroSec).set 1 ⟨over z64 0 [97, 98], z64, true⟩
set_option maxRecDepth 100000 in
set_option maxHeartbeats 1000000 in
theorem begun4 (w : World) : Calls Try.prog 25 #[] w fun e w' => e = .returned (.bool true) ∧ Keep [] w w' := by
  have kc := fun (w : World) (C : Array Value) (n c : Nat) => Lib.run_convert_bytes_const (P := Try.prog) w 22 5 C n c Try.underlying22 Try.underlying5
  go_enter Try.func25, Try.ntmps25
  go_wp2_with fail
  refine (New_any 4 4 rfl).mono ?_
  rintro e w1 ⟨b, sb, rfl, hD1, hK1, hb, hsb⟩
  go_wp2_with fail
  have hrd := run_u8s w1 [97, 98] w1.heap.size rfl (2, 3)
  refine (Write_in (hD1.keep ((Keep.refl [] _).alloc _) (by simp) (by simp)) 1 zeroSec rfl _ [97, 98] hrd (by decide) (by decide) (by decide)).mono ?_
  rintro e w2 ⟨rfl, hD2, hK2⟩
  have hKa : Keep [] w w2 := ((hK1.alloc _).then hK2 (by simp; omega))
  change IsDev w2 b sb begL (0 + 1) at hD2
  clear hK2 hD1 hK1 hrd
  go_wp2_with fail
  have hbl := rv_bools w2 [true] w2.heap.size rfl
  refine (Crash_any (hD2.keep ((Keep.refl [] _).alloc _) (by simp) (by simp)) _ [true] hbl (by decide)).mono ?_
  rintro e w3 ⟨b1, sb1, rfl, hE1, hK3, _, _⟩
  have hKb : Keep [] w w3 := (hKa.alloc _).trans hK3
  have hD3 := hD2.keep ((((Keep.refl [] _).alloc _)).trans hK3) (by simp) (by simp)
  go_wp2_with fail
  have e1 : (crashN begL [true] begL.length)[1]? = some (sec2 (over z64 0 [97, 98])) := rfl
  refine (Read_in hE1 1 _ e1).mono ?_
  rintro e w4 ⟨va, rfl, hba, hK4⟩
  have hKc := hKb.trans hK4
  have hD4 := hD3.keep hK4 (by simp) (by simp)
  obtain ⟨ga, ca, rfl, hca, _, hga, hata, _⟩ := hba.at_ (by decide)
  have a1 : w4.cell? ⟨ga, 1, none⟩ = some (.int .u8 98) := hata 1 (by decide)
  clear hata hba hE1 hbl e1 hD2 hD3
  go_wp2_with fail
  refine (Crash_any hD4 _ [] (Rv.nil _ _) (by decide)).mono ?_
  rintro e w5 ⟨b2, sb2, rfl, hE2, hK5, _, _⟩
  have hKd := hKc.trans hK5
  have hD5 := hD4.keep hK5 (by simp) (by simp)
  have a1' := (hK5.cell (p := ⟨ga, 1, none⟩) hga (by simp)).trans a1
  go_wp2_with fail
  have e2 : (crashN begL [] begL.length)[1]? = some (sec2 z64) := rfl
  refine (Read_in hE2 1 _ e2).mono ?_
  rintro e w6 ⟨vb, rfl, hbb, hK6⟩
  have hKe := hKd.trans hK6
  have hD6 := hD5.keep hK6 (by simp) (by simp)
  obtain ⟨gb, cb, rfl, hcb, _, hgb, hatb, _⟩ := hbb.at_ (by decide)
  have b0 : w6.cell? ⟨gb, 0, none⟩ = some (.int .u8 0) := hatb 0 (by decide)
  have a1'' := (hK6.cell (p := ⟨ga, 1, none⟩) (Nat.lt_of_lt_of_le hga hK5.size) (by simp)).trans a1'
  clear hatb hbb hE2 e2 hD4 hD5
  go_wp2_with fail
  refine (Loose_any hD6).mono ?_
  rintro e w7 ⟨vl, rfl, hO, hK7⟩
  have hKf := hKe.trans hK7
  have hD7 := hD6.keep hK7 (by simp) (by simp)
  have hO' : Own w7 w6.heap.size 3 vl (ints [1]) := hO
  obtain ⟨gl, cl, spare, rfl, hcl, _, hbl⟩ := hO'.blk (by decide)
  have c0 : w7.cell? ⟨gl, 0, none⟩ = some (.int .i64 1) := hbl.cell 0
  have a1' := (hK7.cell (p := ⟨ga, 1, none⟩) (Nat.lt_of_lt_of_le hga (Nat.le_trans hK5.size hK6.size)) (by simp)).trans a1''
  have b0' := (hK7.cell (p := ⟨gb, 0, none⟩) hgb (by simp)).trans b0
  clear a1 a1'' hO hO' hbl b0
  go_wp2_with fail
  refine (CallsN_any hD7).mono ?_
  rintro e w' ⟨rfl, rfl⟩
  go_wp2_with fail
  refine (Len_any hD7).mono ?_
  rintro e w' ⟨rfl, rfl⟩
  go_wp2_with fail
  go_ret
  exact ⟨rfl, hKf⟩
end Go.Proofs.Ythknelejcedhnaa
