/- The law MetaFalls: its walk. -/
import Derived.Test.YtnnaleoigiaboaaMetaLaws
namespace Go.Proofs.Ytnnaleoigiaboaa
open Go.ChangeShapes Go.WideShapes Go.ChangeAt Go.RowKit
set_option linter.unusedVariables false
set_option linter.unusedSimpArgs false

theorem meMay_plain {b e : Int} (hb : 0 ≤ b ∧ b ≤ 100) (he : 0 ≤ e ∧ e ≤ 100) : true = meMay b e 0 false := by
  unfold meMay
  rw [(meIn_iff b).2 ⟨by omega, by omega⟩, (meIn_iff e).2 ⟨by omega, by omega⟩]
  rfl
set_option maxRecDepth 100000 in
set_option maxHeartbeats 8000000 in
theorem metaFalls_walk (boot epoch lb le : Int) (w : World) (_w0 : (Lit.int .i64 boot).wf = true) (_w1 : (Lit.int .i64 epoch).wf = true) (_w2 : (Lit.int .i64 lb).wf = true) (_w3 : (Lit.int .i64 le).wf = true) :
    Calls Try.prog 11 #[.int .i64 boot, .int .i64 epoch, .int .i64 lb, .int .i64 le] w fun e w' => e = .returned (.bool true) ∧ Below w.heap.size w w' := by
  clear _w0 _w1 _w2 _w3
  have hbld : ∀ (b e : Int) (W : World), (Instr.build 52 #[(0, .int .i64 b), (1, .int .i64 e)]).run Try.prog W = .ok (meV b e 0 false) W := fun b e W => run_build W _ _ _ (by kernel_rfl)
  have hbA := hbld boot epoch
  have hbB := hbld lb le
  clear hbld
  go_enter Try.func11, Try.ntmps11
  go_wp2_with fail
  refine (begun12 w).mono ?_
  rintro x w0 ⟨rfl, k0⟩
  by_cases h0 : boot < 0
  · have q0 : decide (boot < 0) = true := decide_eq_true h0
    go_wp2_with fail
    go_ret
    exact ⟨rfl, k0.below⟩
  have q0 : decide (boot < 0) = false := decide_eq_false h0
  by_cases h1 : 100 < boot
  · have q1 : decide (100 < boot) = true := decide_eq_true h1
    go_wp2_with fail
    go_ret
    exact ⟨rfl, k0.below⟩
  have q1 : decide (100 < boot) = false := decide_eq_false h1
  by_cases h2 : epoch < 0
  · have q2 : decide (epoch < 0) = true := decide_eq_true h2
    go_wp2_with fail
    go_ret
    exact ⟨rfl, k0.below⟩
  have q2 : decide (epoch < 0) = false := decide_eq_false h2
  by_cases h3 : 100 < epoch
  · have q3 : decide (100 < epoch) = true := decide_eq_true h3
    go_wp2_with fail
    go_ret
    exact ⟨rfl, k0.below⟩
  have q3 : decide (100 < epoch) = false := decide_eq_false h3
  by_cases h4 : lb < 0
  · have q4 : decide (lb < 0) = true := decide_eq_true h4
    go_wp2_with fail
    go_ret
    exact ⟨rfl, k0.below⟩
  have q4 : decide (lb < 0) = false := decide_eq_false h4
  by_cases h5 : le < 0
  · have q5 : decide (le < 0) = true := decide_eq_true h5
    go_wp2_with fail
    go_ret
    exact ⟨rfl, k0.below⟩
  have q5 : decide (le < 0) = false := decide_eq_false h5
  by_cases h6 : 100 < lb
  · have q6 : decide (100 < lb) = true := decide_eq_true h6
    go_wp2_with fail
    go_ret
    exact ⟨rfl, k0.below⟩
  have q6 : decide (100 < lb) = false := decide_eq_false h6
  by_cases h7 : 100 < le
  · have q7 : decide (100 < le) = true := decide_eq_true h7
    go_wp2_with fail
    go_ret
    exact ⟨rfl, k0.below⟩
  have q7 : decide (100 < le) = false := decide_eq_false h7
  have hmA := meMay_plain (b := boot) (e := epoch) (by omega) (by omega)
  have hmB := meMay_plain (b := lb) (e := le) (by omega) (by omega)
  have HMA := Lib.hid hmA
  have HMB := Lib.hid hmB
  have HBE := Lib.hid (show 0 ≤ boot ∧ 0 ≤ epoch by omega)
  clear hmA hmB
  go_wp2_with fail
  clear h0 h1 h2 h3 h4 h5 h6 h7 q0 q1 q2 q3 q4 q5 q6 q7
  refine (New_any 2 2 rfl).mono ?_
  rintro x w1 ⟨d, sb, rfl, hD1, k1, hb, hsb⟩
  go_wp2_with fail
  refine (meMake_in hD1 0 (by decide) (by decide)).mono ?_
  rintro x w2 ⟨k, s, rfl, hD2, hk2, k2, hkz, hsz⟩
  have hL2 : ((((List.replicate 2 zeroSec).map flushSec).set (0 + 1) zeroSec).set 0 ⟨sImg 1 (meText 0 0 0 false), sImg 1 (meText 0 0 0 false), false⟩).length = 2 := by simp
  generalize (((List.replicate 2 zeroSec).map flushSec).set (0 + 1) zeroSec).set 0 ⟨sImg 1 (meText 0 0 0 false), sImg 1 (meText 0 0 0 false), false⟩ = L2 at *
  have hz0 := k0.size
  have hz1 := k1.size
  have K2 : Keep [] w w2 := (k0.trans k1).then k2 (by intro q hq hlt; simp at hq; omega)
  have HLW := Lib.hid (show w.heap.size ≤ d ∧ w.heap.size ≤ sb ∧ w.heap.size ≤ k ∧ w.heap.size ≤ s by omega)
  have hsv := meSave_ok hD2 hk2 boot epoch 0 false HMA.out HBE.out.1 HBE.out.2 (by omega) (by rw [hL2]; omega) (by omega) (by omega)
  clear hD1 k0 k1 k2 hb hsb hkz hsz hz0 hz1 hD2 hk2
  go_wp2_with fail
  refine hsv.mono ?_
  rintro x w5 ⟨rfl, hD5, hk5, k5⟩
  have K5 := K2.then k5 (by intro q hq hlt; have := HLW.out; simp at hq; omega)
  have hL5 : ((L2.map flushSec).set (0 + (1 - 0)) ⟨sImg (1 + 1) (meText boot epoch 0 false), sImg (1 + 1) (meText boot epoch 0 false), false⟩).length = 2 := by simp [hL2]
  generalize (L2.map flushSec).set (0 + (1 - 0)) ⟨sImg (1 + 1) (meText boot epoch 0 false), sImg (1 + 1) (meText boot epoch 0 false), false⟩ = L5 at *
  clear hsv K2 k5 hL2
  by_cases a1 : lb < boot
  · have p1 : decide (lb < boot) = true := decide_eq_true a1
    have hsv := meSave_bad hk5 lb le 0 false (by rintro ⟨_, h8, h9⟩; omega)
    go_wp2_with fail
    refine hsv.mono ?_
    rintro x w6 ⟨rfl, k6⟩
    have hk6 := hk5.keep k6 (by simp) (by simp) (by simp)
    have K6 := K5.trans k6
    clear hsv k6 hk5 hD5
    go_wp2_with fail
    refine (meMeta_any hk6).mono ?_
    rintro x w7 ⟨rfl, k7⟩
    have K7 := K6.trans k7
    go_wp2_with fail
    go_ret
    exact ⟨rfl, (K7.alloc _).below⟩
  have p1 : decide (lb < boot) = false := decide_eq_false a1
  by_cases a2 : le < epoch
  · have p2 : decide (le < epoch) = true := decide_eq_true a2
    have hsv := meSave_bad hk5 lb le 0 false (by rintro ⟨_, h8, h9⟩; omega)
    go_wp2_with fail
    refine hsv.mono ?_
    rintro x w6 ⟨rfl, k6⟩
    have hk6 := hk5.keep k6 (by simp) (by simp) (by simp)
    have K6 := K5.trans k6
    clear hsv k6 hk5 hD5
    go_wp2_with fail
    refine (meMeta_any hk6).mono ?_
    rintro x w7 ⟨rfl, k7⟩
    have K7 := K6.trans k7
    go_wp2_with fail
    go_ret
    exact ⟨rfl, (K7.alloc _).below⟩
  have p2 : decide (le < epoch) = false := decide_eq_false a2
  · have hsv := meSave_ok hD5 hk5 lb le 0 false HMB.out (by omega) (by omega) (by omega) (by rw [hL5]; omega) (by omega) (by omega)
    clear hD5 hk5
    go_wp2_with fail
    refine hsv.mono ?_
    rintro x w6 ⟨rfl, _, hk6, k6⟩
    have K6 := K5.then k6 (by intro q hq hlt; have := HLW.out; simp at hq; omega)
    clear hsv k6
    go_wp2_with fail
    refine (meMeta_any hk6).mono ?_
    rintro x w7 ⟨rfl, k7⟩
    have K7 := K6.trans k7
    go_wp2_with fail
    go_ret
    exact ⟨rfl, (K7.alloc _).below⟩
end Go.Proofs.Ytnnaleoigiaboaa
