/- The law DevSectors: its walk. -/
import Derived.Test.YthknelejcedhnaaDevLaws
import Derived.Test.YthknelejcedhnaaOpen
namespace Go.Proofs.Ythknelejcedhnaa
open Go.ChangeShapes Go.WideShapes Go.ChangeAt Go.RowKit
set_option linter.unusedVariables false
set_option linter.unusedSimpArgs false

/-- Sectors of which the first k were written with just so many bytes. -/
def wrote (l : List Sec) (f : Nat → List Nat) (k : Nat) : List Sec := (List.range l.length).map fun i => if i < k then ⟨over (l.getD i zeroSec).now 0 (f i), (l.getD i zeroSec).lasts, true⟩ else l.getD i zeroSec
theorem wrote_length (l : List Sec) (f : Nat → List Nat) (k : Nat) : (wrote l f k).length = l.length := by simp [wrote]
theorem wrote_at (l : List Sec) (f : Nat → List Nat) (k i : Nat) (h : i < l.length) : (wrote l f k)[i]? = some (if i < k then ⟨over (l.getD i zeroSec).now 0 (f i), (l.getD i zeroSec).lasts, true⟩ else l.getD i zeroSec) := by
  simp [wrote, h]
theorem wrote_zero (l : List Sec) (f : Nat → List Nat) : wrote l f 0 = l := by
  apply List.ext_getElem?
  intro i
  by_cases h : i < l.length
  · rw [wrote_at _ _ _ _ h, if_neg (by omega), List.getD_eq_getElem?_getD, List.getElem?_eq_getElem h]; rfl
  · rw [List.getElem?_eq_none (by rw [wrote_length]; omega), List.getElem?_eq_none (by omega)]
theorem wrote_succ (l : List Sec) (f : Nat → List Nat) (k : Nat) (h : k < l.length) : (wrote l f k).set k ⟨over (l.getD k zeroSec).now 0 (f k), (l.getD k zeroSec).lasts, true⟩ = wrote l f (k + 1) := by
  apply List.ext_getElem?
  intro i
  rw [List.getElem?_set]
  by_cases hi : i < l.length
  · rw [wrote_at _ _ _ _ hi, wrote_at _ _ _ _ hi, wrote_length]
    by_cases e : k = i
    · subst e; simp [hi]
    · rw [if_neg e]
      by_cases h2 : i < k
      · rw [if_pos h2, if_pos (by omega)]
      · rw [if_neg h2, if_neg (by omega)]
  · rw [List.getElem?_eq_none (by rw [wrote_length]; omega), List.getElem?_eq_none (by rw [wrote_length]; omega), wrote_length]
    rw [if_neg (by omega)]

def secA (i : Nat) : List Nat := over z64 0 [1, i % 256]
def secB (i : Nat) : List Nat := over (secA i) 0 [2]
/-- The device ahead of the crash. -/
def dsL (n : Nat) : List Sec := (List.range n).map fun i => ⟨secB i, secA i, true⟩
theorem dsL_length (n : Nat) : (dsL n).length = n := by simp [dsL]
theorem ds_first (n : Nat) : (wrote (List.replicate n zeroSec) (fun i => [1, i % 256]) n).map flushSec = (List.range n).map fun i => ⟨secA i, secA i, false⟩ := by
  unfold wrote
  rw [List.length_replicate, List.map_map]
  apply List.map_congr_left
  intro i hi
  have := List.mem_range.1 hi
  simp [this, flushSec, secA, zeroSec, z64, List.getD_eq_getElem?_getD, List.getElem?_replicate]
theorem ds_second (n : Nat) : wrote ((List.range n).map fun i => ⟨secA i, secA i, false⟩) (fun _ => [2]) n = dsL n := by
  unfold wrote dsL
  rw [List.length_map, List.length_range]
  apply List.map_congr_left
  intro i hi
  have := List.mem_range.1 hi
  simp [this, List.getD_eq_getElem?_getD, secB]
theorem ds_loose (n k : Nat) (h : k ≤ n) : (looseN ((dsL n).map Sec.loose) k).length = k := by
  induction k with
  | zero => rfl
  | succ k ih =>
    rw [looseN_succ, List.length_append, ih (by omega)]
    have : ((dsL n).map Sec.loose).getD k false = true := by
      simp [dsL, List.getD_eq_getElem?_getD, show k < n by omega]
    rw [this]; rfl
theorem ds_crash (n : Nat) (keep : List Bool) (i : Nat) (h : i < n) : (crashN (dsL n) keep n)[i]? = some (sec2 (if keep.getD i false then secB i else secA i)) := by
  have e : (dsL n).getD i zeroSec = ⟨secB i, secA i, true⟩ := by simp [dsL, List.getD_eq_getElem?_getD, h]
  unfold crashN
  rw [List.getElem?_map, List.getElem?_range h]
  simp only [Option.map_some, crashNow, e, ds_loose n i (by omega), Bool.true_and]
theorem secA_cells (i : Nat) : (secA i).length = 64 ∧ (secA i).getD 0 0 = 1 ∧ (secA i).getD 1 0 = i % 256 := ⟨rfl, rfl, rfl⟩
theorem secB_cells (i : Nat) : (secB i).length = 64 ∧ (secB i).getD 0 0 = 2 ∧ (secB i).getD 1 0 = i % 256 := ⟨rfl, rfl, rfl⟩
theorem crash_loose0 (l : List Sec) (keep : List Bool) (n : Nat) : looseN ((crashN l keep n).map Sec.loose) (crashN l keep n).length = [] := by
  unfold looseN
  rw [List.map_eq_nil_iff, List.filter_eq_nil_iff]
  intro i hi
  simp only [crashN, List.map_map, List.getD_eq_getElem?_getD, List.getElem?_map]
  cases (List.range n)[i]? <;> simp [sec2]

theorem open_keep {H : Type} {enc : TypeId × Value → H} {W : World} {v : Value} {d : DataW H} {p : List MemPlace} {r : Reach} {b : Nat}
    (hv : Value.okWide Try.prog W r b 54 v) (h : DataW.Trod enc Try.prog W 0 (fun _ => true) true 54 v d p) : ∃ keep : List Bool, Rv W 1 v keep.length (bools keep) ∧ keep.length ≤ 9223372036854775807 := by
  obtain ⟨a0, len, cap, rfl⟩ := okWide_slice Try.underlying54 hv
  obtain ⟨⟨y, l⟩, hy, h1, h2⟩ := opens_val (f := fun p : Value × List Bool => p.1) (opens_bools Try.underlying54 Try.underlying4 (by kernel_rfl)) (fun y hy => by simpa [Value.cells] using hy) h
  exact ⟨l, hy ▸ h1, h2⟩
theorem IsDev.cast {w : World} {b sb : Nat} {l l' : List Sec} {c : Nat} (h : IsDev w b sb l c) (e : l = l') : IsDev w b sb l' c := e ▸ h
set_option maxRecDepth 100000 in
set_option maxHeartbeats 4000000 in
theorem devSectors_walk (n : Int) (kv : Value) (w : World) (w0 : (Lit.int .i64 n).wf = true) (w1 : ∃ keep : List Bool, Rv w 1 kv keep.length (bools keep) ∧ keep.length ≤ 9223372036854775807) :
    Calls Try.prog 12 #[.int .i64 n, kv] w fun e w' => e = .returned (.bool true) ∧ Below w.heap.size w w' := by
  have hn := i64_wf w0
  obtain ⟨keep, hkeep, hkl⟩ := w1
  clear w0
  obtain ⟨_, ka, kcap, rfl, hkc, _⟩ := id hkeep
  have hcase : (n < 1 ∨ 20 < n ∨ 25 < keep.length) ∨ (1 ≤ n ∧ n ≤ 20 ∧ keep.length ≤ 25) := by omega
  rcases hcase with hout | ⟨hn1, hn2, hk25⟩
  · go_enter Try.func12, Try.ntmps12
    go_wp2_with fail
    refine (begun4 w).mono ?_
    rintro e w0 ⟨rfl, k0⟩
    go_wp2_with fail
    all_goals first | (exfalso; omega) | (go_ret; exact ⟨rfl, k0.below⟩)
  · obtain ⟨N, rfl⟩ : ∃ N : Nat, n = N := ⟨n.toNat, by omega⟩
    have q1 : ¬ (N : Int) < 1 := by omega
    have q2 : decide ((N : Int) < 1) = false := decide_eq_false q1
    have q3 : decide ((20 : Int) < (N : Int)) = false := decide_eq_false (by omega)
    have q4 : decide ((25 : Int) < (keep.length : Int)) = false := decide_eq_false (by omega)
    go_enter Try.func12, Try.ntmps12
    go_wp2_with fail
    refine (begun4 w).mono ?_
    rintro e w0 ⟨rfl, k0⟩
    go_wp2_with fail
    refine (New_any (N : Int) N (by omega)).mono ?_
    rintro e w1 ⟨b, sb, rfl, hD1, hK1, hb, hsb⟩
    have hKa := k0.trans hK1
    have hbb : w.heap.size ≤ b ∧ w.heap.size ≤ sb := by have := k0.size; omega
    clear hK1 k0 hb hsb
    have HL := Lib.hid (List.length_replicate (n := N) (a := zeroSec))
    go_wp2_with fail
    go_loopw [7] (fun i wr => ∃ k : Nat, k ≤ N ∧ i = .int .i64 k ∧ IsDev wr b sb (wrote (List.replicate N zeroSec) (fun i => [1, i % 256]) k) k ∧ Keep [] w wr) (fun i _ => N - (intOf i).toNat)
    case atStart => exact ⟨0, by omega, rfl, hD1.cast (wrote_zero _ _).symm, hKa⟩
    case round =>
      obtain ⟨k, hk, rfl, hD, hK⟩ := hrel
      clear hD1 hKa
      by_cases hlt : k < N
      · have q0 : (k : Int) < N := by omega
        have hu8 : IntKind.u8.wrap (k : Int) = ((k % 256 : Nat) : Int) := by rw [IntKind.wrap_u8]; omega
        have hws := wrote_succ (List.replicate N zeroSec) (fun i => [1, i % 256]) k (by rw [HL.out]; exact hlt)
        have hwa := wrote_at (List.replicate N zeroSec) (fun i => [1, i % 256]) k k (by rw [HL.out]; exact hlt)
        rw [if_neg (by omega)] at hwa
        have HWS := Lib.hid hws
        have HWA := Lib.hid hwa
        clear hws hwa
        go_wp2_with fail
        have hrd := run_u8s wr [1, k % 256] wr.heap.size rfl (0, 0)
        refine (Write_at (hD.keep ((Keep.refl [] _).alloc _) (by simp) (by simp)) (k : Int) k rfl _ HWA.out _ [1, k % 256] hrd (by simp) (by intro x hx; simp at hx; omega) (by omega)).mono ?_
        rintro e w2 ⟨rfl, hD2, hK2⟩
        have hK3 := ((hK.alloc (.cells (bcs [1, k % 256]).toArray 5)).then hK2 (by simp; omega))
        have hD3 := hD2.cast HWS.out
        clear hD2 hrd
        go_wp2_with fail
        go_roundw
        case rel => exact ⟨k + 1, by omega, by go_num, hD3, hK3⟩
        case measure => simp [intOf]; omega
      · obtain rfl : k = N := by omega
        have hl0 : (wrote (List.replicate k zeroSec) (fun i => [1, i % 256]) k).map flushSec = (List.range k).map fun i => ⟨secA i, secA i, false⟩ := ds_first k
        have HL0 := Lib.hid hl0
        clear hl0
        go_wp2_with fail
        refine (Flush_any hD (by omega)).mono ?_
        rintro e w2 ⟨rfl, hD2, hK2⟩
        have hK3 := hK.then hK2 (by simp; omega)
        have hD3 := hD2.cast HL0.out
        have HL1 := Lib.hid (show ((List.range k).map fun i => (⟨secA i, secA i, false⟩ : Sec)).length = k by simp)
        clear hD hK hD2 hK2
        go_wp2_with fail
        go_loopw [8] (fun i wr => ∃ j : Nat, j ≤ k ∧ i = .int .i64 j ∧ IsDev wr b sb (wrote ((List.range k).map fun i => (⟨secA i, secA i, false⟩ : Sec)) (fun _ => [2]) j) (k + 1 + j) ∧ Keep [] w wr) (fun i _ => k - (intOf i).toNat)
        case atStart => exact ⟨0, by omega, rfl, hD3.cast (wrote_zero _ _).symm, hK3⟩
        case round =>
          obtain ⟨j, hj, rfl, hD, hK⟩ := hrel
          clear hD3 hK3
          by_cases hlt2 : j < k
          · have q0 : (j : Int) < k := by omega
            have hws := wrote_succ ((List.range k).map fun i => (⟨secA i, secA i, false⟩ : Sec)) (fun _ => [2]) j (by rw [HL1.out]; exact hlt2)
            have hwa := wrote_at ((List.range k).map fun i => (⟨secA i, secA i, false⟩ : Sec)) (fun _ => [2]) j j (by rw [HL1.out]; exact hlt2)
            rw [if_neg (by omega)] at hwa
            have HWS := Lib.hid hws
            have HWA := Lib.hid hwa
            clear hws hwa
            go_wp2_with fail
            have hrd := run_u8s wr [2] wr.heap.size rfl (0, 0)
            refine (Write_at (hD.keep ((Keep.refl [] _).alloc _) (by simp) (by simp)) (j : Int) j rfl _ HWA.out _ [2] hrd (by simp) (by simp) (by omega)).mono ?_
            rintro e w4 ⟨rfl, hD2, hK2⟩
            have hK3 := ((hK.alloc (.cells (bcs [2]).toArray 5)).then hK2 (by simp; omega))
            have hD3 := hD2.cast HWS.out
            clear hD2 hrd
            go_wp2_with fail
            go_roundw
            case rel => exact ⟨j + 1, by omega, by go_num, hD3, hK3⟩
            case measure => simp [intOf]; omega
          · obtain rfl : j = k := by omega
            have hD3 := hD.cast (ds_second j)
            clear hD
            have hkeep2 := hkeep.keep hK (by simp)
            go_wp2_with fail
            refine (Crash_any hD3 _ keep hkeep2 hkl).mono ?_
            rintro e w5 ⟨cb, csb, rfl, hC, hK5, _, _⟩
            rw [dsL_length] at hC
            have hK6 := hK.trans hK5
            have hD6 := hD3.keep hK5 (by simp) (by simp)
            clear hK hK5 hD3 hkeep2
            go_wp2_with fail
            go_loopw [10] (fun i wr => ∃ m : Nat, m ≤ j ∧ i = .int .i64 m ∧ IsDev wr cb csb (crashN (dsL j) keep j) 0 ∧ IsDev wr b sb (dsL j) (j + 1 + j) ∧ Keep [] w wr) (fun i _ => j - (intOf i).toNat)
            case atStart => exact ⟨0, by omega, rfl, hC, hD6, hK6⟩
            case round =>
              obtain ⟨m, hm, rfl, hC, hD, hK⟩ := hrel
              clear hK6 hD6
              by_cases hlt3 : m < j
              · have q0 : (m : Int) < j := by omega
                have hu8 : IntKind.u8.wrap (m : Int) = ((m % 256 : Nat) : Int) := by rw [IntKind.wrap_u8]; omega
                have e1 := ds_crash j keep m hlt3
                have E1 := Lib.hid e1
                clear e1
                go_wp2_with fail
                refine (Read_at hC (m : Int) m rfl _ E1.out).mono ?_
                rintro e w7 ⟨vb, rfl, hbb, hK7⟩
                have hC7 := hC.keep hK7 (by simp) (by simp)
                have hD7 := hD.keep hK7 (by simp) (by simp)
                have hK8 := hK.trans hK7
                have hkeep2 := hkeep.keep hK8 (by simp)
                clear hC hD hK hK7 E1
                cases hkm : keep.getD m false with
                | true =>
                  have hmk : m < keep.length := by
                    rcases Nat.lt_or_ge m keep.length with h | h
                    · exact h
                    · rw [List.getD_eq_getElem?_getD, List.getElem?_eq_none h] at hkm; cases hkm
                  have q6 : decide (m < keep.length) = true := decide_eq_true hmk
                  have q7 : (m : Int) < keep.length := by omega
                  obtain ⟨ks, ko, kcap2, he, _, hks, hat⟩ := hkeep2.at1 (by omega)
                  simp only [Value.slice.injEq] at he
                  obtain ⟨rfl, _, rfl⟩ := he
                  have g10 : w7.cell? ⟨ks, ko + m, none⟩ = some (.bool true) := by rw [hat _ hmk, bools_at keep _ hmk, hkm]
                  rw [hkm] at hbb
                  have hbb2 : Buf w7 wr.heap.size 5 vb (secB m) := hbb
                  obtain ⟨gb, cbb, hvb, hcb, _, hgb, hatb, _⟩ := hbb2.at_ (by rw [(secB_cells m).1]; omega)
                  rw [(secB_cells m).1] at hvb hatb hcb
                  subst hvb
                  have c0 : w7.cell? ⟨gb, 0, none⟩ = some (.int .u8 2) := by rw [hatb 0 (by omega), (secB_cells m).2.1]; rfl
                  have c1 : w7.cell? ⟨gb, 1, none⟩ = some (.int .u8 ((m % 256 : Nat) : Int)) := by rw [hatb 1 (by omega), (secB_cells m).2.2]; rfl
                  clear hbb2
                  clear hatb hat hkm hbb hkeep2
                  go_wp2_with fail
                  go_roundw
                  case rel => exact ⟨m + 1, by omega, by go_num, hC7, hD7, hK8⟩
                  case measure => simp [intOf]; omega
                | false =>
                  rw [hkm] at hbb
                  have hbb2 : Buf w7 wr.heap.size 5 vb (secA m) := hbb
                  obtain ⟨gb, cbb, hvb, hcb, _, hgb, hatb, _⟩ := hbb2.at_ (by rw [(secA_cells m).1]; omega)
                  rw [(secA_cells m).1] at hvb hatb hcb
                  subst hvb
                  have c0 : w7.cell? ⟨gb, 0, none⟩ = some (.int .u8 1) := by rw [hatb 0 (by omega), (secA_cells m).2.1]; rfl
                  have c1 : w7.cell? ⟨gb, 1, none⟩ = some (.int .u8 ((m % 256 : Nat) : Int)) := by rw [hatb 1 (by omega), (secA_cells m).2.2]; rfl
                  clear hbb2
                  clear hatb hbb
                  by_cases hmk : m < keep.length
                  · have q6 : decide (m < keep.length) = true := decide_eq_true hmk
                    have q7 : (m : Int) < keep.length := by omega
                    obtain ⟨ks, ko, kcap2, he, _, hks, hat⟩ := hkeep2.at1 (by omega)
                    simp only [Value.slice.injEq] at he
                    obtain ⟨rfl, _, rfl⟩ := he
                    have g10 : w7.cell? ⟨ks, ko + m, none⟩ = some (.bool false) := by rw [hat _ hmk, bools_at keep _ hmk, hkm]
                    clear hat hkm hkeep2
                    go_wp2_with fail
                    go_roundw
                    case rel => exact ⟨m + 1, by omega, by go_num, hC7, hD7, hK8⟩
                    case measure => simp [intOf]; omega
                  · have q6 : decide (m < keep.length) = false := decide_eq_false hmk
                    clear hkm hkeep2
                    go_wp2_with fail
                    go_roundw
                    case rel => exact ⟨m + 1, by omega, by go_num, hC7, hD7, hK8⟩
                    case measure => simp [intOf]; omega
              · obtain rfl : m = j := by omega
                have hc0 := Loose_any hC
                rw [crash_loose0] at hc0
                go_wp2_with fail
                refine hc0.mono ?_
                clear hc0
                rintro e w7 ⟨vl, rfl, hO, hK7⟩
                obtain ⟨la, lc, rfl⟩ := ownsRow_slice hO
                have hC7 := hC.keep hK7 (by simp) (by simp)
                have hD7 := hD.keep hK7 (by simp) (by simp)
                have hK8 := hK.trans hK7
                go_wp2_with fail
                refine (CallsN_any hC7).mono ?_
                rintro e w' ⟨rfl, rfl⟩
                have hd0 := Loose_any hD7
                rw [dsL_length] at hd0
                have hLN := ds_loose m m (Nat.le_refl _)
                generalize looseN ((dsL m).map Sec.loose) m = L at *
                go_wp2_with fail
                refine hd0.mono ?_
                clear hd0
                rintro e w8 ⟨vl2, rfl, hO2, hK9⟩
                rw [hLN] at hO2
                obtain ⟨la2, lc2, rfl⟩ := ownsRow_slice hO2
                have hfin := (hK8.trans hK9).below
                go_wp2_with fail
                go_ret
                exact ⟨rfl, hfin⟩
end Go.Proofs.Ythknelejcedhnaa
