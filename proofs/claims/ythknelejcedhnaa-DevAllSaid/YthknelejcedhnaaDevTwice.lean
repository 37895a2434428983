/- The law DevTwice: its walk. -/
import Derived.Test.YthknelejcedhnaaDevWrite
namespace Go.Proofs.Ythknelejcedhnaa
open Go.ChangeShapes Go.WideShapes Go.ChangeAt Go.RowKit
set_option linter.unusedVariables false
set_option linter.unusedSimpArgs false

theorem crashN_length (l : List Sec) (keep : List Bool) (n : Nat) : (crashN l keep n).length = n := by simp [crashN]
theorem crashN_at (l : List Sec) (keep : List Bool) (n i : Nat) (h : i < n) : (crashN l keep n)[i]? = some (sec2 (crashNow l keep i)) := by simp [crashN, h]
theorem crash_crash (l : List Sec) (a b : List Bool) (n : Nat) : crashN (crashN l a n) b n = crashN l a n := by
  apply List.ext_getElem?
  intro i
  by_cases h : i < n
  · rw [crashN_at _ _ _ _ h, crashN_at _ _ _ _ h]
    have e : (crashN l a n).getD i zeroSec = sec2 (crashNow l a i) := by rw [List.getD_eq_getElem?_getD, crashN_at _ _ _ _ h]; rfl
    conv => lhs; unfold crashNow
    rw [e]
    rfl
  · rw [List.getElem?_eq_none (by rw [crashN_length]; omega), List.getElem?_eq_none (by rw [crashN_length]; omega)]
def IsKeep (w : World) (v : Value) : Prop := ∃ keep : List Bool, Rv w 1 v keep.length (bools keep) ∧ keep.length ≤ 9223372036854775807

set_option maxRecDepth 100000 in
set_option maxHeartbeats 4000000 in
theorem devTwice_walk (ov av bv : Value) (w : World) (w0 : IsOps w ov) (w1 : IsKeep w av) (w2 : IsKeep w bv) :
    Calls Try.prog 13 #[ov, av, bv] w fun e w' => e = .returned (.bool true) ∧ Below w.heap.size w w' := by
  obtain ⟨ops, hops, hol, hok⟩ := w0
  obtain ⟨ka, hka, hkal⟩ := w1
  obtain ⟨kb, hkb, hkbl⟩ := w2
  obtain ⟨_, aa, acap, rfl, _, _⟩ := id hka
  obtain ⟨_, ba, bcap, rfl, _, _⟩ := id hkb
  obtain ⟨_, oa, ocap, rfl, _, _⟩ := id hops
  have hcase : (20 < ka.length ∨ 20 < kb.length) ∨ (ka.length ≤ 20 ∧ kb.length ≤ 20) := by omega
  rcases hcase with hout | ⟨hk1, hk2⟩
  · go_enter Try.func13, Try.ntmps13
    go_wp2_with fail
    refine (begun4 w).mono ?_
    rintro e w0 ⟨rfl, k0⟩
    go_wp2_with fail
    all_goals first | (exfalso; omega) | (go_ret; exact ⟨rfl, k0.below⟩)
  · have q3 : decide ((20 : Int) < (ka.length : Int)) = false := decide_eq_false (by omega)
    have q4 : decide ((20 : Int) < (kb.length : Int)) = false := decide_eq_false (by omega)
    go_enter Try.func13, Try.ntmps13
    go_wp2_with fail
    refine (begun4 w).mono ?_
    rintro e w0 ⟨rfl, k0⟩
    go_wp2_with fail
    refine (New_any 10 10 rfl).mono ?_
    rintro e w1 ⟨b, sb, rfl, hD1, hK1, hb, hsb⟩
    have hKa := k0.trans hK1
    have hbb : w.heap.size ≤ b ∧ w.heap.size ≤ sb := by have := k0.size; omega
    have hl10 : (List.replicate 10 zeroSec).length = 10 := rfl
    clear hK1 k0 hb hsb
    go_wp2_with fail
    go_loopw [9] (fun i wr => ∃ (k c : Nat) (L : List Sec), k ≤ ops.length ∧ k ≤ 30 ∧ i = .int .i64 k ∧ L.length = 10 ∧ c ≤ 2 * k ∧ IsDev wr b sb L c ∧ Keep [] w wr) (fun i _ => ops.length - (intOf i).toNat)
    case atStart => exact ⟨0, 0, _, by omega, by omega, rfl, hl10, by omega, hD1, hKa⟩
    case round =>
      obtain ⟨k, c, L, hk, hk30, rfl, hL, hc, hD, hK⟩ := hrel
      clear hD1 hKa hl10
      have HL := Lib.hid hL
      clear hL
      by_cases hin : k < ops.length ∧ k < 30
      · obtain ⟨hlt, hlt30⟩ := hin
        have q0 : (k : Int) < ops.length := by omega
        have q5 : decide (k < ops.length) = true := decide_eq_true hlt
        have q6 : (k : Int) < 30 := by omega
        obtain ⟨y, hy⟩ : ∃ y, ops[k]? = some y := ⟨_, List.getElem?_eq_getElem hlt⟩
        obtain ⟨og, oo, ocap2, he, _, hog, c0, c1, c2, c3⟩ := ops_at hops k y hy
        simp only [Value.slice.injEq] at he
        obtain ⟨rfl, _, rfl⟩ := he
        have hyo := hok y (List.mem_of_getElem? hy)
        obtain ⟨y0, y1, ⟨y2, m⟩, y3⟩ := y
        simp only at c0 c1 c2 c3
        obtain ⟨hw0, hw1, ⟨hm, hml, hmb⟩, _⟩ := hyo
        simp only at hw0 hw1 hm hml hmb
        rw [← hK.cell hog (by simp)] at c0 c1 c2 c3
        have hmr := hm.keep hK (by simp)
        obtain ⟨_, ma, mcap, rfl, _, _⟩ := id hm
        clear hy hm
        by_cases hy0 : y0 = 0
        · subst hy0
          by_cases hm64 : m.length ≤ 64
          · have q7 : decide ((m.length : Int) ≤ 64) = true := decide_eq_true (by omega)
            go_wp2_with fail
            refine wp_region_still_tail 11 (by kernel_rfl) (by kernel_rfl) ?_
            simp only [List.take_succ_cons, List.take_zero, List.drop_succ_cons, List.drop_zero]
            repeat still_step
            refine wpStill_nil ?_
            go_wp2_with fail
            refine (Write_any (hD.keep (Keep.refl [] _).drew (by simp) (by simp)) y1 _ m (hmr.keep (Keep.refl [] _).drew (by simp)) hmb (by omega)).mono ?_
            rintro e w5 ⟨rfl, hD5, hK5⟩
            have hK6 := hK.drew.then hK5 (by simp; omega)
            have hcl := wCount_le L y1 m
            have hwl := Lib.hid ((wSecs_length L y1 m).trans HL.out)
            go_wp2_with fail
            go_roundw
            case rel => exact ⟨k + 1, _, _, by omega, by omega, by go_num, hwl.out, by omega, hD5, hK6⟩
            case measure => simp [intOf]; omega
          · have q7 : decide ((m.length : Int) ≤ 64) = false := decide_eq_false (by omega)
            go_wp2_with fail
            go_roundw
            case rel => exact ⟨k + 1, c, L, by omega, by omega, by go_num, HL.out, by omega, hD, hK⟩
            case measure => simp [intOf]; omega
        · have q8 : (y0 == 0) = false := by simpa using hy0
          by_cases hy1 : y0 = 1
          · subst hy1
            go_wp2_with fail
            refine (Flush_any hD (by omega)).mono ?_
            rintro e w5 ⟨rfl, hD5, hK5⟩
            have hK6 := hK.then hK5 (by simp; omega)
            have hwl := Lib.hid (show (L.map flushSec).length = 10 by rw [List.length_map]; exact HL.out)
            go_wp2_with fail
            go_roundw
            case rel => exact ⟨k + 1, _, _, by omega, by omega, by go_num, hwl.out, by omega, hD5, hK6⟩
            case measure => simp [intOf]; omega
          · have q9 : (y0 == 1) = false := by simpa using hy1
            go_wp2_with fail
            go_roundw
            case rel => exact ⟨k + 1, c, L, by omega, by omega, by go_num, HL.out, by omega, hD, hK⟩
            case measure => simp [intOf]; omega
      · have hq : k < ops.length ∧ ¬ k < 30 ∨ ¬ k < ops.length := by omega
        have hka2 := hka.keep hK (by simp)
        have hsz := hK.size
        rcases hq with ⟨hq1, hq2⟩ | hq1
        all_goals
          have q5 : decide (k < ops.length) = decide (k < ops.length) := rfl
          first | (have q6 : decide (k < ops.length) = true := decide_eq_true hq1) | (have q6 : decide (k < ops.length) = false := decide_eq_false hq1)
          clear q5
          go_wp2_with fail
          refine (Crash_any hD _ ka hka2 hkal).mono ?_
          rintro e w5 ⟨xb, xsb, rfl, hX, hK5, _, _⟩
          rw [HL.out] at hX
          have hK6 := hK.trans hK5
          have hkb2 := hkb.keep hK6 (by simp)
          go_wp2_with fail
          refine (Crash_any hX _ kb hkb2 hkbl).mono ?_
          rintro e w6 ⟨yb, ysb, rfl, hY, hK7, _, _⟩
          rw [crashN_length, crash_crash] at hY
          have hX2 := hX.keep hK7 (by simp) (by simp)
          have hK8 := hK6.trans hK7
          clear hX hK7 hK6 hK5
          go_wp2_with fail
          go_loopw [12] (fun i wr => ∃ j : Nat, j ≤ 10 ∧ i = .int .i64 j ∧ IsDev wr xb xsb (crashN L ka 10) 0 ∧ IsDev wr yb ysb (crashN L ka 10) 0 ∧ Keep [] w wr) (fun i _ => 10 - (intOf i).toNat)
          case atStart => exact ⟨0, by omega, rfl, hX2, hY, hK8⟩
          case round =>
            obtain ⟨j, hj, rfl, hX3, hY3, hK9⟩ := hrel
            clear hX2 hY hK8
            by_cases hlt : j < 10
            · have q0 : (j : Int) < 10 := by omega
              have hat := Lib.hid (crashN_at L ka 10 j hlt)
              have hsok := hX3.ok _ (List.mem_of_getElem? hat.out)
              go_wp2_with fail
              refine (Read_at hX3 (j : Int) j rfl _ hat.out).mono ?_
              rintro e w7 ⟨vx, rfl, hBx, hK10⟩
              have hX4 := hX3.keep hK10 (by simp) (by simp)
              have hY4 := hY3.keep hK10 (by simp) (by simp)
              go_wp2_with fail
              refine (Read_at hY4 (j : Int) j rfl _ hat.out).mono ?_
              rintro e w8 ⟨vy, rfl, hBy, hK11⟩
              have hX5 := hX4.keep hK11 (by simp) (by simp)
              have hY5 := hY4.keep hK11 (by simp) (by simp)
              have hK12 := (hK9.trans hK10).trans hK11
              have hBx2 := hBx.keep hK11 (by simp)
              obtain ⟨gx, cx, rfl, _⟩ := hBx2.at_ (by rw [hsok.1]; omega)
              obtain ⟨gy, cy, rfl, _⟩ := hBy.at_ (by rw [hsok.1]; omega)
              have hcv1 := Rd.str (P := Try.prog) (src := 22) (dst := 9) hBx2.rd hsok.2.2.1 Try.underlying22 Try.underlying5 Try.underlying9
              have hcv2 := Rd.str (P := Try.prog) (src := 22) (dst := 9) hBy.rd hsok.2.2.1 Try.underlying22 Try.underlying5 Try.underlying9
              clear hBx hBx2 hBy hX4 hY4 hK9 hK10 hK11 hX3 hY3
              go_wp2_with fail
              go_roundw
              case rel => exact ⟨j + 1, by omega, by go_num, hX5, hY5, hK12⟩
              case measure => simp [intOf]; omega
            · obtain rfl : j = 10 := by omega
              go_wp2_with fail
              go_ret
              exact ⟨rfl, hK9.below⟩
end Go.Proofs.Ythknelejcedhnaa
