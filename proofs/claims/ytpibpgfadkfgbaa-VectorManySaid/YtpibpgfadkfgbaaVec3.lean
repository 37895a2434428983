/- The contract of the laws' same. -/
import Derived.Test.YtpibpgfadkfgbaaVec2
import Derived.Deep.RegionWith
namespace Go.Proofs.Ytpibpgfadkfgbaa
open Go.ChangeShapes Go.WideShapes Go.ChangeAt Go.RowKit
set_option linter.unusedVariables false
set_option linter.unusedSimpArgs false

def vsame (v u : Nat → Int) : Bool := decide (v 1 = u 1) && (decide (v 2 = u 2) && (decide (v 3 = u 3) && (decide (v 4 = u 4) && decide (v 5 = u 5))))
theorem vsame_iff (v u : Nat → Int) : vsame v u = true ↔ ∀ i, 1 ≤ i → i ≤ 5 → v i = u i := by
  unfold vsame
  simp only [Bool.and_eq_true, decide_eq_true_eq]
  constructor
  · rintro ⟨h1, h2, h3, h4, h5⟩ i hi hi5
    have : i = 1 ∨ i = 2 ∨ i = 3 ∨ i = 4 ∨ i = 5 := by omega
    rcases this with rfl | rfl | rfl | rfl | rfl <;> assumption
  · intro h
    exact ⟨h 1 (by omega) (by omega), h 2 (by omega) (by omega), h 3 (by omega) (by omega), h 4 (by omega) (by omega), h 5 (by omega) (by omega)⟩
theorem vget_at (v : Nat → Int) (h0 : v 0 = 0) (j : Nat) (hj : j < 6) : v j = vget v (j : Int) := by
  unfold vget
  by_cases h : 1 ≤ (j : Int) ∧ (j : Int) ≤ 5
  · rw [if_pos h]; simp
  · rw [if_neg h]
    have : j = 0 := by omega
    subst this; exact h0

set_option maxRecDepth 100000 in
set_option maxHeartbeats 4000000 in
theorem same_any {w : World} (v u : Nat → Int) (r : Bool) (hr : r = vsame v u) (hv0 : v 0 = 0) (hu0 : u 0 = 0) :
    Calls Try.prog 16 #[vec v, vec u] w fun e w' => e = .returned (.bool r) ∧ Keep [] w w' := by
  have HR := Lib.hid hr
  have HV0 := Lib.hid hv0
  have HU0 := Lib.hid hu0
  clear hr hv0 hu0
  go_enter Try.func16, Try.ntmps16
  go_wp2_with fail
  have hb0 : Blk ((w.alloc (.cells #[.int .i64 (v 0), .int .i64 (v 1), .int .i64 (v 2), .int .i64 (v 3), .int .i64 (v 4), .int .i64 (v 5)] 26)).alloc (.cells #[.int .i64 (u 0), .int .i64 (u 1), .int .i64 (u 2), .int .i64 (u 3), .int .i64 (u 4), .int .i64 (u 5)] 24)) w.heap.size (v6 v) 26 := (Blk.new w (v6 v) 26).alloc _
  have hb1 : Blk ((w.alloc (.cells #[.int .i64 (v 0), .int .i64 (v 1), .int .i64 (v 2), .int .i64 (v 3), .int .i64 (v 4), .int .i64 (v 5)] 26)).alloc (.cells #[.int .i64 (u 0), .int .i64 (u 1), .int .i64 (u 2), .int .i64 (u 3), .int .i64 (u 4), .int .i64 (u 5)] 24)) (w.heap.size + 1) (v6 u) 24 := Blk.new' _ (v6 u) _ _ (by simp)
  go_loopw [5] (fun i wr => ∃ j : Nat, j ≤ 6 ∧ i = .int .i64 j ∧ (∀ i, i < j → v i = u i) ∧ Blk wr w.heap.size (v6 v) 26 ∧ Blk wr (w.heap.size + 1) (v6 u) 24 ∧ Keep [] w wr) (fun i _ => 6 - (intOf i).toNat)
  case atStart => exact ⟨0, by omega, rfl, fun i h2 => by omega, hb0, hb1, ((Keep.refl _ _).alloc _).alloc _⟩
  case round =>
    obtain ⟨j, hj6, rfl, hall, hV, hU, hK⟩ := hrel
    clear hb0 hb1
    have HA := Lib.hid hall
    clear hall
    by_cases hj : j < 6
    · have q2 : (j : Int) < 6 := by omega
      have c1 := hV.cell j
      have c2 := hU.cell j
      rw [v6_at _ _ hj] at c1 c2
      obtain ⟨d0, d1, d2, d3, d4, d5⟩ := v6_cells hV
      have HG := Lib.hid (vget_at v HV0.out j hj)
      by_cases hc : v j = u j
      · rw [← hc] at c2
        have HC := Lib.hid hc
        clear hc
        go_wp2_with fail
        go_region_held3 (fun w' => w'.cell? ⟨w.heap.size, 0, none⟩ = some (.int .i64 (v 0)) ∧ w'.cell? ⟨w.heap.size, 1, none⟩ = some (.int .i64 (v 1)) ∧ w'.cell? ⟨w.heap.size, 2, none⟩ = some (.int .i64 (v 2)) ∧ w'.cell? ⟨w.heap.size, 3, none⟩ = some (.int .i64 (v 3)) ∧ w'.cell? ⟨w.heap.size, 4, none⟩ = some (.int .i64 (v 4)) ∧ w'.cell? ⟨w.heap.size, 5, none⟩ = some (.int .i64 (v 5)) ∧ w'.cell? ⟨w.heap.size, j, none⟩ = some (.int .i64 (v j)) ∧ w'.cell? ⟨w.heap.size + 1, j, none⟩ = some (.int .i64 (v j)))
          (first | go_keep | (exact ⟨k0, k1, k2, k3, k4, k5, k6, k7⟩))
          (first | (go_at_call 26; refine (vGet_any v (j : Int) (v j) HG.out).mono ?_; rintro e w5 ⟨rfl, hK5⟩; have k0 := (hK5.cell (p := ⟨w.heap.size, 0, none⟩) hV.lt (by simp)).trans d0; have k1 := (hK5.cell (p := ⟨w.heap.size, 1, none⟩) hV.lt (by simp)).trans d1; have k2 := (hK5.cell (p := ⟨w.heap.size, 2, none⟩) hV.lt (by simp)).trans d2; have k3 := (hK5.cell (p := ⟨w.heap.size, 3, none⟩) hV.lt (by simp)).trans d3; have k4 := (hK5.cell (p := ⟨w.heap.size, 4, none⟩) hV.lt (by simp)).trans d4; have k5 := (hK5.cell (p := ⟨w.heap.size, 5, none⟩) hV.lt (by simp)).trans d5; have k6 := (hK5.cell (p := ⟨w.heap.size, j, none⟩) hV.lt (by simp)).trans c1; have k7 := (hK5.cell (p := ⟨w.heap.size + 1, j, none⟩) hU.lt (by simp)).trans c2))
        all_goals
          go_wp2_with fail
          go_roundw
          case rel => exact ⟨j + 1, by omega, by go_num, fun i h2 => by
            by_cases e : i = j
            · subst e; exact HC.out
            · exact HA.out i (by omega), hV.drew.keep hK5 (by simp), hU.drew.keep hK5 (by simp), hK.drew.trans hK5⟩
          case measure => simp [intOf]; omega
      · have HN : r = false := by
          rw [HR.out]
          cases h : vsame v u with
          | false => rfl
          | true =>
            have hj0 : 1 ≤ j := by
              rcases Nat.eq_zero_or_pos j with h0 | h0
              · subst h0; exact absurd (HV0.out.trans HU0.out.symm) hc
              · exact h0
            exact absurd ((vsame_iff v u).1 h j hj0 (by omega)) hc
        subst HN
        have q3 : (v j == u j) = false := by simpa using hc
        have q4 : (v j != u j) = true := by simpa using hc
        go_wp2_with fail
        first
          | (go_region_with (first | (go_at_call 26; refine (vGet_any v (j : Int) (v j) HG.out).mono ?_; rintro e w5 ⟨rfl, hK5⟩; have k7 := (hK5.cell (p := ⟨w.heap.size + 1, j, none⟩) hU.lt (by simp)).trans c2)))
          | fail
        all_goals
          go_wp2_with fail
          go_ret
          exact ⟨rfl, hK.drew.trans hK5⟩
    · obtain rfl : j = 6 := by omega
      have HN : r = true := by rw [HR.out]; exact (vsame_iff v u).2 (fun i h1 h2 => HA.out i (by omega))
      subst HN
      obtain ⟨d0, d1, d2, d3, d4, d5⟩ := v6_cells hV
      go_wp2_with fail
      refine (vGet_any v (-1) 0 rfl).mono ?_
      rintro e w5 ⟨rfl, hK5⟩
      have hV5 := hV.keep hK5 (by simp)
      clear d0 d1 d2 d3 d4 d5
      obtain ⟨d0, d1, d2, d3, d4, d5⟩ := v6_cells hV5
      go_wp2_with fail
      refine (vGet_any v 6 0 rfl).mono ?_
      rintro e w6 ⟨rfl, hK6⟩
      go_wp2_with fail
      go_ret
      exact ⟨rfl, (hK.trans hK5).trans hK6⟩
end Go.Proofs.Ytpibpgfadkfgbaa
