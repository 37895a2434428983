/- The laws DevNone, DevSizes: their walks. -/
import Derived.Test.YthknelejcedhnaaDevBegun
namespace Go.Proofs.Ythknelejcedhnaa
open Go.ChangeShapes Go.WideShapes Go.ChangeAt Go.RowKit
set_option linter.unusedVariables false
set_option linter.unusedSimpArgs false

theorem Read_at {w : World} {b sb : Nat} {l : List Sec} {c : Nat} (h : IsDev w b sb l c) (i : Int) (j : Nat) (hi : i = j) (s : Sec) (hs : l[j]? = some s) :
    Calls Try.prog 30 #[.pointer (some ⟨b, 0, none⟩), .int .i64 i] w fun e w' => ∃ v', e = .returned (.tuple #[v', .int .i64 0]) ∧ Buf w' w.heap.size 5 v' s.now ∧ Keep [] w w' := by
  subst hi; exact Read_in h j s hs
theorem Write_at {w : World} {b sb : Nat} {l : List Sec} {c : Nat} (h : IsDev w b sb l c) (i : Int) (j : Nat) (hi : i = j) (s : Sec) (hs : l[j]? = some s) (v : Value) (m : List Nat) (hv : Rd w v m) (hm : m.length ≤ 64) (hmb : ∀ x ∈ m, x < 256) (hc : c < 1099511627776) :
    Calls Try.prog 31 #[.pointer (some ⟨b, 0, none⟩), .int .i64 i, v] w fun e w' => e = .returned (.int .i64 0) ∧ IsDev w' b sb (l.set j ⟨over s.now 0 m, s.lasts, true⟩) (c + 1) ∧ Keep [b, sb] w w' := by
  subst hi; exact Write_in h j s hs v m hv hm hmb hc

set_option maxHeartbeats 1000000 in
theorem devNone_walk (w : World) : Calls Try.prog 11 #[] w fun e w' => e = .returned (.bool true) ∧ Below w.heap.size w w' := by
  go_enter Try.func11, Try.ntmps11
  go_wp2_with fail
  refine (Read_nil 0).mono ?_
  rintro e w' ⟨rfl, rfl⟩
  go_wp2_with fail
  refine (begun4 w).mono ?_
  rintro e w0 ⟨rfl, k0⟩
  go_wp2_with fail
  refine Len_nil.mono ?_
  rintro e w' ⟨rfl, rfl⟩
  go_wp2_with fail
  refine (Write_nil 0 _).mono ?_
  rintro e w' ⟨rfl, rfl⟩
  go_wp2_with fail
  refine Flush_nil.mono ?_
  rintro e w' ⟨rfl, rfl⟩
  go_wp2_with fail
  refine Loose_nil.mono ?_
  rintro e w' ⟨rfl, rfl⟩
  go_wp2_with fail
  refine CallsN_nil.mono ?_
  rintro e w' ⟨rfl, rfl⟩
  go_wp2_with fail
  refine (Crash_nil _).mono ?_
  rintro e w' ⟨rfl, rfl⟩
  go_wp2_with fail
  go_ret
  exact ⟨rfl, (k0.alloc _).below⟩

theorem looseN_zero (k : Nat) : looseN ((List.replicate k zeroSec).map Sec.loose) k = [] := by
  unfold looseN
  rw [List.map_eq_nil_iff, List.filter_eq_nil_iff]
  intro i hi
  simp [zeroSec, List.getD_eq_getElem?_getD, List.getElem?_replicate]
  split <;> rfl
set_option maxHeartbeats 2000000 in
theorem devSizes_walk (n : Int) (w : World) (w0 : (Lit.int .i64 n).wf = true) : Calls Try.prog 8 #[.int .i64 n] w fun e w' => e = .returned (.bool true) ∧ Below w.heap.size w w' := by
  have hn := i64_wf w0
  clear w0
  obtain ⟨k, hk⟩ : ∃ k : Nat, (k : Int) = min (max n 1) 2048 := ⟨(min (max n 1) 2048).toNat, by omega⟩
  have HK := Lib.hid hk
  have hk1 : 0 < k := by omega
  have hk2 : k ≤ 2048 := by omega
  have hcase : (n < 1 ∧ (k : Int) ≤ 1) ∨ (n = 1 ∧ (k : Int) ≤ 1) ∨ (1 < n ∧ n < 2048 ∧ (k : Int) ≤ n ∧ n ≤ k) ∨ (n = 2048 ∧ 2048 ≤ (k : Int)) ∨ (2048 < n ∧ 2048 ≤ (k : Int)) := by omega
  clear hk
  have hlk : (List.replicate k zeroSec).length = k := List.length_replicate
  have HLK := Lib.hid hlk
  have hg : (List.replicate k zeroSec)[k - 1]? = some zeroSec := by rw [List.getElem?_replicate, if_pos (by omega)]
  have HG := Lib.hid hg
  have HZ := Lib.hid (looseN_zero k)
  clear hlk hg
  rcases hcase with ⟨h, h'⟩ | ⟨rfl, h'⟩ | ⟨h, h', h'', h'''⟩ | ⟨rfl, h'⟩ | ⟨h, h'⟩
  all_goals
    go_enter Try.func8, Try.ntmps8
    go_wp2_with fail
    refine (begun4 w).mono ?_
    rintro e w0 ⟨rfl, k0⟩
    go_wp2_with fail
    refine (New_any _ k HK.out).mono ?_
    rintro e w1 ⟨b, sb, rfl, hD1, hK1, hb, hsb⟩
    go_wp2_with fail
    have hln := Len_any hD1
    rw [HLK.out] at hln
    refine hln.mono ?_
    clear hln
    rintro e w' ⟨rfl, rfl⟩
    go_wp2_with fail
    have hlo := Loose_any hD1
    rw [HLK.out, HZ.out] at hlo
    refine hlo.mono ?_
    clear hlo
    rintro e w2 ⟨vl, rfl, hO, hK2⟩
    obtain ⟨la, lc, rfl⟩ := ownsRow_slice hO
    have hD2 := hD1.keep hK2 (by simp) (by simp)
    go_wp2_with fail
    refine (CallsN_any hD2).mono ?_
    rintro e w' ⟨rfl, rfl⟩
    go_wp2_with fail
    refine (Read_at hD2 _ (k - 1) (by omega) zeroSec HG.out).mono ?_
    rintro e w3 ⟨vb, rfl, hbb, hK3⟩
    have hD3 := hD2.keep hK3 (by simp) (by simp)
    obtain ⟨gb, cb, hvb, hcb, _, hgb, hatb, _⟩ := hbb.at_ (show 0 < zeroSec.now.length by decide)
    rw [show zeroSec.now.length = 64 from rfl] at hvb hatb hcb
    subst hvb
    have hz : ∀ i : Nat, i < 64 → w3.cell? ⟨gb, i, none⟩ = some (.int .u8 0) := fun i hi => by rw [hatb i hi]; exact congrArg (fun x => some (bc x)) (z64_at i)
    clear hatb hbb hD1 hD2
    have hfin := (((k0.trans hK1).trans hK2).trans hK3).below
    go_wp2_with fail
    refine (Read_out hD3 _ (.inr (by rw [HLK.out]; omega))).mono ?_
    rintro e w' ⟨rfl, rfl⟩
    go_wp2_with fail
    go_loop [10] (fun i => ∃ j : Nat, j ≤ 64 ∧ i = .int .i64 j) (fun i => 64 - (intOf i).toNat)
    case atStart => exact ⟨0, by omega, rfl⟩
    case round =>
      obtain ⟨j, hj, rfl⟩ := hrel
      by_cases hlt : j < 64
      · have c0 := hz j hlt
        have q0 : (j : Int) < 64 := by omega
        clear hz
        go_wp2_with fail
        go_round
        case rel => exact ⟨j + 1, by omega, by go_num⟩
        case measure => simp [intOf]; omega
      · obtain rfl : j = 64 := by omega
        clear hz
        go_wp2_with fail
        refine (Write_out hD3 (-1) _ (.inl (by omega))).mono ?_
        rintro e w' ⟨rfl, rfl⟩
        go_wp2_with fail
        go_ret
        exact ⟨rfl, hfin⟩
end Go.Proofs.Ythknelejcedhnaa
