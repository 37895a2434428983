/- The contracts of vector.Encode, Decode. -/
import Derived.Test.YtpibpgfadkfgbaaVec3
import Derived.Test.YtpibpgfadkfgbaaGetMany
namespace Go.Proofs.Ytpibpgfadkfgbaa
open Go.ChangeShapes Go.WideShapes Go.ChangeAt Go.RowKit
set_option linter.unusedVariables false
set_option linter.unusedSimpArgs false

def vnums (v : Nat → Int) : List Int := [v 1, v 2, v 3, v 4, v 5]
def VOk (v : Nat → Int) : Prop := ∀ i, 1 ≤ i → i ≤ 5 → 0 ≤ v i ∧ v i ≤ 1099511627776
theorem vnums_at (v : Nat → Int) (j : Nat) (h : j < 5) : (vnums v).getD j 0 = v (j + 1) := by
  have : j = 0 ∨ j = 1 ∨ j = 2 ∨ j = 3 ∨ j = 4 := by omega
  rcases this with rfl | rfl | rfl | rfl | rfl <;> rfl
theorem vnums_i64 {v : Nat → Int} (h : VOk v) : ∀ n ∈ vnums v, I64 n := by
  intro n hn
  have h1 := h 1 (by omega) (by omega)
  have h2 := h 2 (by omega) (by omega)
  have h3 := h 3 (by omega) (by omega)
  have h4 := h 4 (by omega) (by omega)
  have h5 := h 5 (by omega) (by omega)
  unfold I64
  simp [vnums] at hn
  rcases hn with rfl | rfl | rfl | rfl | rfl <;> omega
set_option maxHeartbeats 1000000 in
theorem vEncode_any {w : World} (v : Nat → Int) :
    Calls Try.prog 22 #[vec v] w fun e w' => ∃ bv, e = .returned bv ∧ Keep [] w w' ∧ ((VOk v ∧ Buf w' w.heap.size 5 bv (putAll (vnums v))) ∨ (¬ VOk v ∧ bv = .slice none 0 0)) := by
  go_enter Try.func22, Try.ntmps22
  go_wp2_with fail
  have hb0 : Blk (w.alloc (.cells #[.int .i64 (v 0), .int .i64 (v 1), .int .i64 (v 2), .int .i64 (v 3), .int .i64 (v 4), .int .i64 (v 5)] 26)) w.heap.size (v6 v) 26 := Blk.new w (v6 v) 26
  have hk0 : Keep [] w (w.alloc (.cells #[.int .i64 (v 0), .int .i64 (v 1), .int .i64 (v 2), .int .i64 (v 3), .int .i64 (v 4), .int .i64 (v 5)] 26)) := (Keep.refl _ _).alloc _
  go_loop [7] (fun i => ∃ j : Nat, j ≤ 5 ∧ i = .int .i64 j ∧ ∀ i, 1 ≤ i → i ≤ j → 0 ≤ v i ∧ v i ≤ 1099511627776) (fun i => 5 - (intOf i).toNat)
  case atStart => exact ⟨0, by omega, rfl, fun i h1 h2 => by omega⟩
  case round =>
    obtain ⟨j, hj5, rfl, hall⟩ := hrel
    have HA := Lib.hid hall
    clear hall
    by_cases hj : j < 5
    · have q2 : (j : Int) < 5 := by omega
      have c1 := hb0.cell (1 + j)
      rw [v6_at _ _ (by omega)] at c1
      by_cases h1 : v (1 + j) < 0
      · go_wp2_with fail
        go_ret
        exact ⟨_, rfl, hk0, .inr ⟨fun h => by have := h (1 + j) (by omega) (by omega); omega, rfl⟩⟩
      · have q3 : decide (v (1 + j) < 0) = false := decide_eq_false h1
        by_cases h2 : 1099511627776 < v (1 + j)
        · go_wp2_with fail
          go_ret
          exact ⟨_, rfl, hk0, .inr ⟨fun h => by have := h (1 + j) (by omega) (by omega); omega, rfl⟩⟩
        · have q4 : decide (1099511627776 < v (1 + j)) = false := decide_eq_false h2
          go_wp2_with fail
          go_round
          case rel => exact ⟨j + 1, by omega, by go_num, fun i hi1 hi2 => by
            by_cases e : i = j + 1
            · subst e; rw [Nat.add_comm]; omega
            · exact HA.out i hi1 (by omega)⟩
          case measure => simp [intOf]; omega
    · obtain rfl : j = 5 := by omega
      have hok : VOk v := fun i h1 h2 => HA.out i h1 h2
      go_wp2_with fail
      have hns : Rv (w.alloc (.cells #[.int .i64 (v 0), .int .i64 (v 1), .int .i64 (v 2), .int .i64 (v 3), .int .i64 (v 4), .int .i64 (v 5)] 26)) 1 (.slice (some ⟨w.heap.size, 1, none⟩) 5 5) 5 (ints (vnums v)) := by
        refine ⟨rfl, _, 5, rfl, by omega, fun _ => ⟨w.heap.size, 1, rfl, hb0.lt, fun i hi => ?_⟩⟩
        have hi5 : i < 5 := hi
        rw [hb0.cell, v6_at _ _ (by omega), ints_at _ _ hi5, vnums_at _ _ hi5, Nat.add_comm]
      refine (Put_any (w.heap.size + 1) (.slice none 0 0) [] _ (vnums v) (Buf.nil _ _ _) hns (by simp [Value.ownBlock]) (vnums_i64 hok) (by simp [vnums]) (by simp)).mono ?_
      rintro e w1 ⟨v1, rfl, hO⟩
      have hk1 := hk0.then hO.keep (by simp [Value.ownBlock])
      have hbf := hO.buf
      rw [List.nil_append] at hbf
      clear hO hb0 hns
      go_wp2_with fail
      go_ret
      exact ⟨v1, rfl, hk1, .inl ⟨hok, hbf.mono (by omega)⟩⟩
end Go.Proofs.Ytpibpgfadkfgbaa
