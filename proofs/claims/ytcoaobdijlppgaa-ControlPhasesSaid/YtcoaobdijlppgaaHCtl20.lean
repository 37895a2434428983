/- ControlPhases: the walk. -/
import Derived.Test.YtcoaobdijlppgaaHCtl19
import Derived.Test.YtcoaobdijlppgaaG14
namespace Go.Proofs.Ytcoaobdijlppgaa
open Go.ChangeShapes Go.WideShapes Go.ChangeAt Go.RowKit
set_option linter.unusedVariables false
set_option linter.unusedSimpArgs false
set_option maxRecDepth 100000

def Ct.goodB (t : Ct) : Bool := t.mem.all (fun n => decide (1 ≤ n ∧ n ≤ 5)) && decide (0 < t.mem.length) && decide (0 ≤ t.num ∧ t.num ≤ 1099511627776) && decide (0 ≤ t.top ∧ t.top ≤ 1099511627776) && decide (0 ≤ t.epoch ∧ t.epoch ≤ 1099511627776) && decide (0 ≤ t.phase ∧ t.phase ≤ 10) &&
  (decide (t.num = 0) || (t.dest.all (fun n => decide (1 ≤ n ∧ n ≤ 5)) && decide (0 < t.dest.length))) && decide (t.done.length ≤ 4) && decide (0 ≤ t.lost ∧ t.lost ≤ 5)
theorem Ct.goodB_good {t : Ct} (h : t.goodB = true) : t.Good := by
  unfold Ct.goodB at h
  simp only [Bool.and_eq_true, decide_eq_true_eq, Bool.or_eq_true, List.all_eq_true] at h
  obtain ⟨⟨⟨⟨⟨⟨⟨⟨a, b⟩, c⟩, d⟩, e⟩, f⟩, g⟩, i⟩, j⟩ := h
  exact ⟨a, b, c, d, ⟨by omega, by omega⟩, f, fun hn => g.resolve_left hn, i, ⟨by omega, by omega⟩⟩
theorem TRow.cells {w : World} {base g n cap : Nat} {L : List Tm} (h : TRow w base (.slice (some ⟨g, 0, none⟩) n cap) L) (hp : 0 < L.length) : ∀ j x, (tc L)[j]? = some x → w.cell? ⟨g, j, none⟩ = some x := by
  obtain ⟨g', cap', e, h⟩ := h.at0 hp
  injection e with e1 e2 e3
  injection e1 with e1
  injection e1 with e1
  subst e1
  exact h
def phT (phase : Int) (done : List Int) : Ct := ⟨1, 2, [1, 2], 2, phase, [1, 2, 3], [1, 2, 3], 0, done⟩
def phA (sil : Int) (last : Bool) : Nat → Ct
  | 0 => phT 1 []
  | k + 1 => (phA sil last k).word 4 (k + 1) 2 (!decide ((k + 1 : Int) = sil) || last) true
def phB (sil : Int) (last frozen : Bool) : Nat → Ct
  | 0 => phA sil last 3
  | k + 1 => if (!decide ((k + 1 : Int) = sil) || frozen) = true then (phB sil last frozen k).word 10 (k + 1) 2 false true else phB sil last frozen k
theorem ph_good : ∀ sil ∈ ([1, 2, 3] : List Int), ∀ last frozen : Bool, ∀ k ∈ [0, 1, 2, 3], (phA sil last k).goodB = true ∧ (phB sil last frozen k).goodB = true := by decide
theorem ph_lost : ∀ sil ∈ ([1, 2, 3] : List Int), ∀ last frozen : Bool, ∀ k ∈ [0, 1, 2, 3], (phA sil last k).lost ≤ 0 ∧ (phB sil last frozen k).lost ≤ 0 := by decide
theorem ph_end : ∀ sil ∈ ([1, 2, 3] : List Int), ∀ frozen : Bool, (phB sil true true 3 = ⟨2, 2, [1, 2, 3], 0, 0, [], [], 0, []⟩) ∧ (phB sil false frozen 3 = phT 1 (phB sil false frozen 3).done) ∧ (phB sil true false 3 = phT 2 (phB sil true false 3).done) := by
  intro sil hs frozen
  simp only [List.mem_cons, List.not_mem_nil, or_false] at hs
  rcases hs with rfl | rfl | rfl <;> cases frozen <;> exact ⟨rfl, rfl, rfl⟩
theorem sil_in (s : Int) : 1 + s.tmod 3 % 3 ∈ ([1, 2, 3] : List Int) := by
  have : s.tmod 3 % 3 = 0 ∨ s.tmod 3 % 3 = 1 ∨ s.tmod 3 % 3 = 2 := by omega
  rcases this with h | h | h <;> rw [h] <;> decide
def phR (W0 : World) (c d kb g : Nat) (sil : Int) (last : Bool) (i : Nat) (w : World) : Prop := Auth W0.heap.size w c d kb g (phA sil last i) (2 + i) 0 (fun _ => none) 0 ∧ Keep [] W0 w
def phS (W0 : World) (c d kb g : Nat) (sil : Int) (last frozen : Bool) (i : Nat) (w : World) : Prop := Auth W0.heap.size w c d kb g (phB sil last frozen i) (5 + i) 0 (fun _ => none) 0 ∧ Keep [] W0 w
section
variable {W0 : World} {w : World} {c d kb g : Nat} {sil : Int} {last frozen : Bool}
theorem phR.word {i : Nat} (hin : sil ∈ ([1, 2, 3] : List Int)) (hi : i ∈ [0, 1, 2]) (h : phR W0 c d kb g sil last i w) (k : Int) (hk : k = (i : Int) + 1) (b : Bool) (hb : b = (!decide (k = sil) || last)) :
    Calls Try.prog 12 #[.pointer (some ⟨c, 0, none⟩), msV (wordM 4 k 2 b) (.slice none 0 0) (.slice none 0 0) (.slice none 0 0) (.slice none 0 0)] w fun e w' => ∃ a nn cap, e = .returned (.slice a nn cap) ∧ phR W0 c d kb g sil last (i + 1) w' ∧ Turn W0.heap.size w w' := by
  have hG := (ph_good sil hin last true i (by revert hi; simp; omega)).1
  have hL := (ph_lost sil hin last true i (by revert hi; simp; omega)).1
  have hi2 : i ≤ 2 := by revert hi; simp; omega
  subst hb hk
  refine (Auth.word h.1 (Ct.goodB_good hG) (by omega) 4 _ 2 _ true (.inl rfl) (by omega) (by decide) (fun _ => .inl rfl) (fun h => absurd h (by decide))).mono ?_
  rintro e w' ⟨a, nn, cap, rfl, hA, hT⟩
  exact ⟨a, nn, cap, rfl, ⟨hA, hT.after h.2⟩, hT⟩
theorem phS.word {i : Nat} (hin : sil ∈ ([1, 2, 3] : List Int)) (hi : i ∈ [0, 1, 2]) (h : phS W0 c d kb g sil last frozen i w) (k : Int) (hk : k = (i : Int) + 1) (hb : (!decide (k = sil) || frozen) = true) :
    Calls Try.prog 12 #[.pointer (some ⟨c, 0, none⟩), msV (wordM 10 k 2 false) (.slice none 0 0) (.slice none 0 0) (.slice none 0 0) (.slice none 0 0)] w fun e w' => ∃ a nn cap, e = .returned (.slice a nn cap) ∧ phS W0 c d kb g sil last frozen (i + 1) w' ∧ Turn W0.heap.size w w' := by
  have hG := (ph_good sil hin last frozen i (by revert hi; simp; omega)).2
  have hL := (ph_lost sil hin last frozen i (by revert hi; simp; omega)).2
  have hi2 : i ≤ 2 := by revert hi; simp; omega
  subst hk
  refine (Auth.word h.1 (Ct.goodB_good hG) (by omega) 10 _ 2 false true (.inr rfl) (by omega) (by decide) (fun _ => .inl rfl) (fun h => absurd h (by decide))).mono ?_
  rintro e w' ⟨a, nn, cap, rfl, hA, hT⟩
  refine ⟨a, nn, cap, rfl, ?_, hT⟩
  unfold phS phB
  rw [if_pos hb]
  exact ⟨hA, hT.after h.2⟩
theorem phS.skip {i : Nat} (h : phS W0 c d kb g sil last frozen i w) (k : Int) (hk : k = (i : Int) + 1) (hb : (!decide (k = sil) || frozen) = false) : phS W0 c d kb g sil last frozen (i + 1) w := by
  subst hk
  unfold phS phB
  rw [if_neg (by rw [hb]; simp)]
  exact ⟨Auth.up h.1 (by omega), h.2⟩
end
set_option maxHeartbeats 8000000 in
theorem Phases_any {w : World} (s : Int) (hs : I64 s) (last frozen : Bool) :
    Calls Try.prog 3 #[.int .i64 s, .bool last, .bool frozen] w fun e w' => e = .returned (.bool true) ∧ Below w.heap.size w w' := by
  have hin := sil_in s
  have r1 : s.tmod 3 < 3 := Int.tmod_lt_of_pos s (by decide)
  have r2 : -3 < s.tmod 3 := by
    have := Int.lt_tmod_of_pos s (b := 3) (by decide)
    omega
  go_enter Try.func3, Try.ntmps3
  go_wp2_with fail
  refine (begun23 w).mono ?_
  rintro e w0 ⟨rfl, k0⟩
  go_wp2_with fail
  refine (New_any 2 2 (by decide)).mono ?_
  rintro e w1 ⟨d, sb, rfl, hd, k1, z1, z2⟩
  go_wp2_with fail
  have hrow : Rv (w1.alloc (.cells #[.int .i64 1, .int .i64 2] 3)) 1 (.slice (some ⟨w1.heap.size, 0, none⟩) 2 2) 2 (ints [1, 2]) := Rv.new _ (ints [1, 2]) 3 1 2 2 rfl (by omega) w1.heap.size rfl
  have K1 := (Keep.refl [] w1).alloc (.cells #[.int .i64 1, .int .i64 2] 3)
  have hs1 := k1.size
  refine (Auth.make (lo := w0.heap.size) (B := 1) (hd.keep K1 (by simp) (by simp)) (by decide) (by omega) (by decide) _ [1, 2] hrow (by decide) ⟨z1, z2, by simp; omega⟩).mono ?_
  rintro e w2 ⟨c, kb, g, rfl, hA, T2, _, _⟩
  have KK : Keep [] w0 w2 := T2.after (k1.trans K1) |> fun h => h
  clear hd hrow K1 hs1 T2 k1 z1 z2
  generalize 1 + s.tmod 3 % 3 = sil at *
  clear r1 r2 hs
  go_wp2_with fail
  refine (hA.join (by omega) (by decide) (by decide) ⟨by decide, by decide⟩ (by decide) rfl 3 (by decide) (by decide)).mono ?_
  rintro e w3 ⟨v, L, rfl, hO, hL, hA3, T3⟩
  rw [show bothL (Ct.new [1, 2]).mem (bothL (Ct.new [1, 2]).mem [3] 0) 0 = [1, 2, 3] by decide] at hL
  have hlen : L.length = 3 := by have := congrArg List.length hL; simpa using this
  obtain ⟨va, vc, rfl⟩ := hO.slice
  rw [hlen]
  have hR : phR w0 c d kb g sil last 0 w3 := ⟨hA3, T3.after KK⟩
  clear hL hlen hO T3 hA hA3 KK
  have hbp : ∀ (W : World) (k : Int) (b : Bool), (Instr.build 39 #[(0, .int .i64 4), (1, .int .i64 k), (3, .int .i64 2), (11, .bool b)]).run Try.prog W = .ok (msV (wordM 4 k 2 b) (.slice none 0 0) (.slice none 0 0) (.slice none 0 0) (.slice none 0 0)) W := fun W k b => run_prepared W k 2 b
  have hbf : ∀ (W : World) (k : Int), (Instr.build 39 #[(0, .int .i64 10), (1, .int .i64 k), (3, .int .i64 2)]).run Try.prog W = .ok (msV (wordM 10 k 2 false) (.slice none 0 0) (.slice none 0 0) (.slice none 0 0) (.slice none 0 0)) W := fun W k => run_frozen W k 2
  go_wp2_with fail
  go_loopw [11] (fun n wr => ∃ (i : Nat), ((n = .int .i64 1 ∧ i = 0) ∨ (n = .int .i64 2 ∧ i = 1) ∨ (n = .int .i64 3 ∧ i = 2) ∨ (n = .int .i64 4 ∧ i = 3)) ∧ phR w0 c d kb g sil last i wr) (fun n _ => 5 - (intOf n).toNat)
  case atStart => exact ⟨0, .inl ⟨rfl, rfl⟩, hR⟩
  case round =>
    obtain ⟨i, hc, hA⟩ := hrel
    rcases hc with ⟨rfl, rfl⟩ | ⟨rfl, rfl⟩ | ⟨rfl, rfl⟩ | ⟨rfl, rfl⟩
    · by_cases hk : (1 : Int) = sil
      · have q : ((1 : Int) != sil) = false := by simpa using hk
        have HK := Lib.hid hk
        clear hk
        go_wp2_with fail
        refine (phR.word hin (by decide) hA 1 (by decide) last (by rw [decide_eq_true HK.out]; rfl)).mono ?_
        rintro e w5 ⟨a, nn, cap, rfl, hA5, T5⟩
        clear HK
        go_wp2_with fail
        go_roundw
        case rel => exact ⟨1, by simp, hA5⟩
        case measure => simp [intOf]
      · have q : ((1 : Int) != sil) = true := by simpa using hk
        have HK := Lib.hid hk
        clear hk
        go_wp2_with fail
        refine (phR.word hin (by decide) hA 1 (by decide) true (by rw [decide_eq_false HK.out]; rfl)).mono ?_
        rintro e w5 ⟨a, nn, cap, rfl, hA5, T5⟩
        clear HK
        go_wp2_with fail
        go_roundw
        case rel => exact ⟨1, by simp, hA5⟩
        case measure => simp [intOf]
    · by_cases hk : (2 : Int) = sil
      · have q : ((2 : Int) != sil) = false := by simpa using hk
        have HK := Lib.hid hk
        clear hk
        go_wp2_with fail
        refine (phR.word hin (by decide) hA 2 (by decide) last (by rw [decide_eq_true HK.out]; rfl)).mono ?_
        rintro e w5 ⟨a, nn, cap, rfl, hA5, T5⟩
        clear HK
        go_wp2_with fail
        go_roundw
        case rel => exact ⟨2, by simp, hA5⟩
        case measure => simp [intOf]
      · have q : ((2 : Int) != sil) = true := by simpa using hk
        have HK := Lib.hid hk
        clear hk
        go_wp2_with fail
        refine (phR.word hin (by decide) hA 2 (by decide) true (by rw [decide_eq_false HK.out]; rfl)).mono ?_
        rintro e w5 ⟨a, nn, cap, rfl, hA5, T5⟩
        clear HK
        go_wp2_with fail
        go_roundw
        case rel => exact ⟨2, by simp, hA5⟩
        case measure => simp [intOf]
    · by_cases hk : (3 : Int) = sil
      · have q : ((3 : Int) != sil) = false := by simpa using hk
        have HK := Lib.hid hk
        clear hk
        go_wp2_with fail
        refine (phR.word hin (by decide) hA 3 (by decide) last (by rw [decide_eq_true HK.out]; rfl)).mono ?_
        rintro e w5 ⟨a, nn, cap, rfl, hA5, T5⟩
        clear HK
        go_wp2_with fail
        go_roundw
        case rel => exact ⟨3, by simp, hA5⟩
        case measure => simp [intOf]
      · have q : ((3 : Int) != sil) = true := by simpa using hk
        have HK := Lib.hid hk
        clear hk
        go_wp2_with fail
        refine (phR.word hin (by decide) hA 3 (by decide) true (by rw [decide_eq_false HK.out]; rfl)).mono ?_
        rintro e w5 ⟨a, nn, cap, rfl, hA5, T5⟩
        clear HK
        go_wp2_with fail
        go_roundw
        case rel => exact ⟨3, by simp, hA5⟩
        case measure => simp [intOf]
    · have hS : phS w0 c d kb g sil last frozen 0 wr := hA
      clear hA
      go_wp2_with fail
      go_loopw [12] (fun n wr => ∃ (i : Nat), ((n = .int .i64 1 ∧ i = 0) ∨ (n = .int .i64 2 ∧ i = 1) ∨ (n = .int .i64 3 ∧ i = 2) ∨ (n = .int .i64 4 ∧ i = 3)) ∧ phS w0 c d kb g sil last frozen i wr) (fun n _ => 5 - (intOf n).toNat)
      case atStart => exact ⟨0, .inl ⟨rfl, rfl⟩, hS⟩
      case round =>
      clear hS
      obtain ⟨i, hc, hS⟩ := hrel
      rcases hc with ⟨rfl, rfl⟩ | ⟨rfl, rfl⟩ | ⟨rfl, rfl⟩ | ⟨rfl, rfl⟩
      · by_cases hk : (1 : Int) = sil
        · have q : ((1 : Int) != sil) = false := by simpa using hk
          have HK := Lib.hid hk
          clear hk
          cases frozen with
          | false =>
            go_wp2_with fail
            go_roundw
            case rel => exact ⟨1, by simp, phS.skip hS 1 (by decide) (by rw [decide_eq_true HK.out]; rfl)⟩
            case measure => simp [intOf]
          | true =>
            go_wp2_with fail
            refine (phS.word hin (by decide) hS 1 (by decide) (by rw [decide_eq_true HK.out]; rfl)).mono ?_
            rintro e w5 ⟨a, nn, cap, rfl, hA5, T5⟩
            clear HK
            go_wp2_with fail
            go_roundw
            case rel => exact ⟨1, by simp, hA5⟩
            case measure => simp [intOf]
        · have q : ((1 : Int) != sil) = true := by simpa using hk
          have HK := Lib.hid hk
          clear hk
          go_wp2_with fail
          refine (phS.word hin (by decide) hS 1 (by decide) (by rw [decide_eq_false HK.out]; rfl)).mono ?_
          rintro e w5 ⟨a, nn, cap, rfl, hA5, T5⟩
          clear HK
          go_wp2_with fail
          go_roundw
          case rel => exact ⟨1, by simp, hA5⟩
          case measure => simp [intOf]
      · by_cases hk : (2 : Int) = sil
        · have q : ((2 : Int) != sil) = false := by simpa using hk
          have HK := Lib.hid hk
          clear hk
          cases frozen with
          | false =>
            go_wp2_with fail
            go_roundw
            case rel => exact ⟨2, by simp, phS.skip hS 2 (by decide) (by rw [decide_eq_true HK.out]; rfl)⟩
            case measure => simp [intOf]
          | true =>
            go_wp2_with fail
            refine (phS.word hin (by decide) hS 2 (by decide) (by rw [decide_eq_true HK.out]; rfl)).mono ?_
            rintro e w5 ⟨a, nn, cap, rfl, hA5, T5⟩
            clear HK
            go_wp2_with fail
            go_roundw
            case rel => exact ⟨2, by simp, hA5⟩
            case measure => simp [intOf]
        · have q : ((2 : Int) != sil) = true := by simpa using hk
          have HK := Lib.hid hk
          clear hk
          go_wp2_with fail
          refine (phS.word hin (by decide) hS 2 (by decide) (by rw [decide_eq_false HK.out]; rfl)).mono ?_
          rintro e w5 ⟨a, nn, cap, rfl, hA5, T5⟩
          clear HK
          go_wp2_with fail
          go_roundw
          case rel => exact ⟨2, by simp, hA5⟩
          case measure => simp [intOf]
      · by_cases hk : (3 : Int) = sil
        · have q : ((3 : Int) != sil) = false := by simpa using hk
          have HK := Lib.hid hk
          clear hk
          cases frozen with
          | false =>
            go_wp2_with fail
            go_roundw
            case rel => exact ⟨3, by simp, phS.skip hS 3 (by decide) (by rw [decide_eq_true HK.out]; rfl)⟩
            case measure => simp [intOf]
          | true =>
            go_wp2_with fail
            refine (phS.word hin (by decide) hS 3 (by decide) (by rw [decide_eq_true HK.out]; rfl)).mono ?_
            rintro e w5 ⟨a, nn, cap, rfl, hA5, T5⟩
            clear HK
            go_wp2_with fail
            go_roundw
            case rel => exact ⟨3, by simp, hA5⟩
            case measure => simp [intOf]
        · have q : ((3 : Int) != sil) = true := by simpa using hk
          have HK := Lib.hid hk
          clear hk
          go_wp2_with fail
          refine (phS.word hin (by decide) hS 3 (by decide) (by rw [decide_eq_false HK.out]; rfl)).mono ?_
          rintro e w5 ⟨a, nn, cap, rfl, hA5, T5⟩
          clear HK
          go_wp2_with fail
          go_roundw
          case rel => exact ⟨3, by simp, hA5⟩
          case measure => simp [intOf]
      · cases last with
        | false =>
          obtain ⟨D, hD⟩ : ∃ D, phB sil false frozen 3 = phT 1 D := ⟨_, (ph_end sil hin frozen).2.1⟩
          have hG := Ct.goodB_good ((ph_good sil hin false frozen 3 (by decide)).2)
          obtain ⟨hS, hSK⟩ := hS
          rw [hD] at hG hS
          have HG := Lib.hid hG
          clear hD hG
          go_wp2_with fail
          refine (hS.beat_tell HG.out (by show (2 : Int) ≠ 0; decide) 3 (.inl ⟨rfl, rfl⟩)).mono ?_
          rintro e w6 ⟨v, L, rfl, hO, hL, hA6, k6⟩
          have hL : L.map (·.m) = [tellM (phT 1 D) 3 1, tellM (phT 1 D) 3 2, tellM (phT 1 D) 3 3] := hL
          obtain ⟨y1, L1, rfl, h1, hL1⟩ := List.map_eq_cons_iff.1 hL
          obtain ⟨y2, L2, rfl, h2, hL2⟩ := List.map_eq_cons_iff.1 hL1
          obtain ⟨y3, L3, rfl, h3, hL3⟩ := List.map_eq_cons_iff.1 hL2
          obtain rfl := List.map_eq_nil_iff.1 hL3
          obtain ⟨mg, mcap, rfl, _⟩ := hO.at0 (by simp)
          have hU : Calls Try.prog 15 #[.pointer (some ⟨c, 0, none⟩)] w6 fun e w' => e = .returned (.int .i64 2) ∧ w6 = w' := hA6.under
          clear hU hL hL1 hL2 hL3 hS
          have HA6 := Lib.hid hA6
          have HO := Lib.hid hO
          have H1 := Lib.hid h1
          have H2 := Lib.hid h2
          have H3 := Lib.hid h3
          clear hA6 hO h1 h2 h3
          rw [show [y1, y2, y3].length = 3 from rfl]
          go_wp2_with fail
          go_loopw [16] (fun n wr => (n = .int .i64 0 ∨ n = .int .i64 1 ∨ n = .int .i64 2 ∨ n = .int .i64 3) ∧ Keep [] w6 wr) (fun n _ => 5 - (intOf n).toNat)
          case atStart => exact ⟨.inl rfl, Keep.refl _ _⟩
          case round =>
            obtain ⟨hc, hK⟩ := hrel
            have hO := HO.out.still hK
            rcases hc with rfl | rfl | rfl | rfl
            · have a0 : wr.cell? ⟨mg, 0, none⟩ = some (.int .i64 3) := hO.cells (by simp) 0 _ (by show some (Value.int .i64 y1.m.kind) = _; rw [H1.out]; rfl)
              have a3 : wr.cell? ⟨mg, 3, none⟩ = some (.int .i64 2) := hO.cells (by simp) 3 _ (by show some (Value.int .i64 y1.m.epoch) = _; rw [H1.out]; rfl)
              have a19 : wr.cell? ⟨mg, 19, none⟩ = some (.int .i64 1) := hO.cells (by simp) 19 _ (by show some (Value.int .i64 y1.m.base) = _; rw [H1.out]; rfl)
              have a18 : wr.cell? ⟨mg, 18, none⟩ = some y1.vm := hO.cells (by simp) 18 _ rfl
              have a20 : wr.cell? ⟨mg, 20, none⟩ = some y1.vo := hO.cells (by simp) 20 _ rfl
              have e18 : Own wr 0 3 y1.vm (ints [1, 2, 3]) := by have := (hO.ok y1 (by simp)).mem; rw [H1.out] at this; exact this
              have e20 : Own wr 0 3 y1.vo (ints [1, 2]) := by have := (hO.ok y1 (by simp)).old; rw [H1.out] at this; exact this
              have k1 := (Keep.refl [] wr).alloc (.cells #[.int .i64 1, .int .i64 2] 3)
              have hr1 : Rv (wr.alloc (.cells #[.int .i64 1, .int .i64 2] 3)) 1 (.slice (some ⟨wr.heap.size, 0, none⟩) 2 2) 2 (ints [1, 2]) := Rv.new _ (ints [1, 2]) 3 1 2 2 rfl (by omega) wr.heap.size rfl
              have f20 : Rv (wr.alloc (.cells #[.int .i64 1, .int .i64 2] 3)) 1 y1.vo 2 (ints [1, 2]) := (e20.keep k1 (by simp)).irv
              have E1 := Lib.hid (EqInts_any _ _ [1, 2] [1, 2] f20 hr1 (by simp) (by simp) true rfl)
              have E18 := Lib.hid e18
              have HMG := (hO.lt mg rfl).2
              clear hO hr1 f20 e18 e20
              go_wp2_with fail
              refine E1.out.mono ?_
              rintro e w7 ⟨rfl, k7⟩
              have k8 := (k1.trans k7).alloc (.cells #[.int .i64 1, .int .i64 2, .int .i64 3] 3)
              have hr2 : Rv (w7.alloc (.cells #[.int .i64 1, .int .i64 2, .int .i64 3] 3)) 1 (.slice (some ⟨w7.heap.size, 0, none⟩) 3 3) 3 (ints [1, 2, 3]) := Rv.new _ (ints [1, 2, 3]) 3 1 3 3 rfl (by omega) w7.heap.size rfl
              have f18 : Rv (w7.alloc (.cells #[.int .i64 1, .int .i64 2, .int .i64 3] 3)) 1 y1.vm 3 (ints [1, 2, 3]) := (E18.out.keep k8 (by simp)).irv
              have E2 := Lib.hid (EqInts_any _ _ [1, 2, 3] [1, 2, 3] f18 hr2 (by simp) (by simp) true rfl)
              have kk := k1.trans k7
              have b18 : w7.cell? ⟨mg, 18, none⟩ = some y1.vm := by rw [kk.cell (HMG) (by simp)]; exact a18
              clear hr2 f18 kk k1 a0 a3 a19 a18 a20 E1 E18
              go_wp2_with fail
              refine E2.out.mono ?_
              rintro e w9 ⟨rfl, k9⟩
              have K9 := hK.trans (k8.trans k9)
              clear E2 k8 k9 k7 hK b18
              go_wp2_with fail
              go_roundw
              case rel => exact ⟨by simp, K9⟩
              case measure => simp [intOf]
            · have a0 : wr.cell? ⟨mg, 21, none⟩ = some (.int .i64 3) := hO.cells (by simp) 21 _ (by show some (Value.int .i64 y2.m.kind) = _; rw [H2.out]; rfl)
              have a3 : wr.cell? ⟨mg, 24, none⟩ = some (.int .i64 2) := hO.cells (by simp) 24 _ (by show some (Value.int .i64 y2.m.epoch) = _; rw [H2.out]; rfl)
              have a19 : wr.cell? ⟨mg, 40, none⟩ = some (.int .i64 1) := hO.cells (by simp) 40 _ (by show some (Value.int .i64 y2.m.base) = _; rw [H2.out]; rfl)
              have a18 : wr.cell? ⟨mg, 39, none⟩ = some y2.vm := hO.cells (by simp) 39 _ rfl
              have a20 : wr.cell? ⟨mg, 41, none⟩ = some y2.vo := hO.cells (by simp) 41 _ rfl
              have e18 : Own wr 0 3 y2.vm (ints [1, 2, 3]) := by have := (hO.ok y2 (by simp)).mem; rw [H2.out] at this; exact this
              have e20 : Own wr 0 3 y2.vo (ints [1, 2]) := by have := (hO.ok y2 (by simp)).old; rw [H2.out] at this; exact this
              have k1 := (Keep.refl [] wr).alloc (.cells #[.int .i64 1, .int .i64 2] 3)
              have hr1 : Rv (wr.alloc (.cells #[.int .i64 1, .int .i64 2] 3)) 1 (.slice (some ⟨wr.heap.size, 0, none⟩) 2 2) 2 (ints [1, 2]) := Rv.new _ (ints [1, 2]) 3 1 2 2 rfl (by omega) wr.heap.size rfl
              have f20 : Rv (wr.alloc (.cells #[.int .i64 1, .int .i64 2] 3)) 1 y2.vo 2 (ints [1, 2]) := (e20.keep k1 (by simp)).irv
              have E1 := Lib.hid (EqInts_any _ _ [1, 2] [1, 2] f20 hr1 (by simp) (by simp) true rfl)
              have E18 := Lib.hid e18
              have HMG := (hO.lt mg rfl).2
              clear hO hr1 f20 e18 e20
              go_wp2_with fail
              refine E1.out.mono ?_
              rintro e w7 ⟨rfl, k7⟩
              have k8 := (k1.trans k7).alloc (.cells #[.int .i64 1, .int .i64 2, .int .i64 3] 3)
              have hr2 : Rv (w7.alloc (.cells #[.int .i64 1, .int .i64 2, .int .i64 3] 3)) 1 (.slice (some ⟨w7.heap.size, 0, none⟩) 3 3) 3 (ints [1, 2, 3]) := Rv.new _ (ints [1, 2, 3]) 3 1 3 3 rfl (by omega) w7.heap.size rfl
              have f18 : Rv (w7.alloc (.cells #[.int .i64 1, .int .i64 2, .int .i64 3] 3)) 1 y2.vm 3 (ints [1, 2, 3]) := (E18.out.keep k8 (by simp)).irv
              have E2 := Lib.hid (EqInts_any _ _ [1, 2, 3] [1, 2, 3] f18 hr2 (by simp) (by simp) true rfl)
              have kk := k1.trans k7
              have b18 : w7.cell? ⟨mg, 39, none⟩ = some y2.vm := by rw [kk.cell (HMG) (by simp)]; exact a18
              clear hr2 f18 kk k1 a0 a3 a19 a18 a20 E1 E18
              go_wp2_with fail
              refine E2.out.mono ?_
              rintro e w9 ⟨rfl, k9⟩
              have K9 := hK.trans (k8.trans k9)
              clear E2 k8 k9 k7 hK b18
              go_wp2_with fail
              go_roundw
              case rel => exact ⟨by simp, K9⟩
              case measure => simp [intOf]
            · have a0 : wr.cell? ⟨mg, 42, none⟩ = some (.int .i64 3) := hO.cells (by simp) 42 _ (by show some (Value.int .i64 y3.m.kind) = _; rw [H3.out]; rfl)
              have a3 : wr.cell? ⟨mg, 45, none⟩ = some (.int .i64 2) := hO.cells (by simp) 45 _ (by show some (Value.int .i64 y3.m.epoch) = _; rw [H3.out]; rfl)
              have a19 : wr.cell? ⟨mg, 61, none⟩ = some (.int .i64 1) := hO.cells (by simp) 61 _ (by show some (Value.int .i64 y3.m.base) = _; rw [H3.out]; rfl)
              have a18 : wr.cell? ⟨mg, 60, none⟩ = some y3.vm := hO.cells (by simp) 60 _ rfl
              have a20 : wr.cell? ⟨mg, 62, none⟩ = some y3.vo := hO.cells (by simp) 62 _ rfl
              have e18 : Own wr 0 3 y3.vm (ints [1, 2, 3]) := by have := (hO.ok y3 (by simp)).mem; rw [H3.out] at this; exact this
              have e20 : Own wr 0 3 y3.vo (ints [1, 2]) := by have := (hO.ok y3 (by simp)).old; rw [H3.out] at this; exact this
              have k1 := (Keep.refl [] wr).alloc (.cells #[.int .i64 1, .int .i64 2] 3)
              have hr1 : Rv (wr.alloc (.cells #[.int .i64 1, .int .i64 2] 3)) 1 (.slice (some ⟨wr.heap.size, 0, none⟩) 2 2) 2 (ints [1, 2]) := Rv.new _ (ints [1, 2]) 3 1 2 2 rfl (by omega) wr.heap.size rfl
              have f20 : Rv (wr.alloc (.cells #[.int .i64 1, .int .i64 2] 3)) 1 y3.vo 2 (ints [1, 2]) := (e20.keep k1 (by simp)).irv
              have E1 := Lib.hid (EqInts_any _ _ [1, 2] [1, 2] f20 hr1 (by simp) (by simp) true rfl)
              have E18 := Lib.hid e18
              have HMG := (hO.lt mg rfl).2
              clear hO hr1 f20 e18 e20
              go_wp2_with fail
              refine E1.out.mono ?_
              rintro e w7 ⟨rfl, k7⟩
              have k8 := (k1.trans k7).alloc (.cells #[.int .i64 1, .int .i64 2, .int .i64 3] 3)
              have hr2 : Rv (w7.alloc (.cells #[.int .i64 1, .int .i64 2, .int .i64 3] 3)) 1 (.slice (some ⟨w7.heap.size, 0, none⟩) 3 3) 3 (ints [1, 2, 3]) := Rv.new _ (ints [1, 2, 3]) 3 1 3 3 rfl (by omega) w7.heap.size rfl
              have f18 : Rv (w7.alloc (.cells #[.int .i64 1, .int .i64 2, .int .i64 3] 3)) 1 y3.vm 3 (ints [1, 2, 3]) := (E18.out.keep k8 (by simp)).irv
              have E2 := Lib.hid (EqInts_any _ _ [1, 2, 3] [1, 2, 3] f18 hr2 (by simp) (by simp) true rfl)
              have kk := k1.trans k7
              have b18 : w7.cell? ⟨mg, 60, none⟩ = some y3.vm := by rw [kk.cell (HMG) (by simp)]; exact a18
              clear hr2 f18 kk k1 a0 a3 a19 a18 a20 E1 E18
              go_wp2_with fail
              refine E2.out.mono ?_
              rintro e w9 ⟨rfl, k9⟩
              have K9 := hK.trans (k8.trans k9)
              clear E2 k8 k9 k7 hK b18
              go_wp2_with fail
              go_roundw
              case rel => exact ⟨by simp, K9⟩
              case measure => simp [intOf]
            · have hA := HA6.out.keep hK
              have hE : Calls Try.prog 14 #[.pointer (some ⟨c, 0, none⟩)] wr fun e w' => e = .returned (.int .i64 1) ∧ wr = w' := hA.epoch
              have hU : Calls Try.prog 15 #[.pointer (some ⟨c, 0, none⟩)] wr fun e w' => e = .returned (.int .i64 2) ∧ wr = w' := hA.under
              clear hA HA6 HO hO
              go_wp2_with fail
              refine hE.mono ?_
              rintro e w7 ⟨rfl, rfl⟩
              go_wp2_with fail
              refine hU.mono ?_
              rintro e w7 ⟨rfl, rfl⟩
              go_wp2_with fail
              go_ret
              exact ⟨rfl, (k0.trans (hSK.trans (k6.trans hK))).below⟩
        | true =>
          cases frozen with
          | true =>
            obtain ⟨hS, hSK⟩ := hS
            rw [(ph_end sil hin true).1] at hS
            have hB := hS.beat_none rfl
            have hE : Calls Try.prog 14 #[.pointer (some ⟨c, 0, none⟩)] wr fun e w' => e = .returned (.int .i64 2) ∧ wr = w' := hS.epoch
            have hU : Calls Try.prog 15 #[.pointer (some ⟨c, 0, none⟩)] wr fun e w' => e = .returned (.int .i64 0) ∧ wr = w' := hS.under
            clear hS
            go_wp2_with fail
            refine hB.mono ?_
            rintro e w6 ⟨rfl, rfl⟩
            go_wp2_with fail
            refine hE.mono ?_
            rintro e w6 ⟨rfl, rfl⟩
            go_wp2_with fail
            refine hU.mono ?_
            rintro e w6 ⟨rfl, rfl⟩
            go_wp2_with fail
            go_ret
            exact ⟨rfl, (k0.trans hSK).below⟩
          | false =>
            obtain ⟨D, hD⟩ : ∃ D, phB sil true false 3 = phT 2 D := ⟨_, (ph_end sil hin false).2.2⟩
            have hG := Ct.goodB_good ((ph_good sil hin true false 3 (by decide)).2)
            obtain ⟨hS, hSK⟩ := hS
            rw [hD] at hG hS
            have HG := Lib.hid hG
            clear hD hG
            go_wp2_with fail
            refine (hS.beat_tell HG.out (by show (2 : Int) ≠ 0; decide) 7 (.inr ⟨rfl, rfl⟩)).mono ?_
            rintro e w6 ⟨v, L, rfl, hO, hL, hA6, k6⟩
            have hL : L.map (·.m) = [tellM (phT 2 D) 7 1, tellM (phT 2 D) 7 2, tellM (phT 2 D) 7 3] := hL
            obtain ⟨y1, L1, rfl, h1, hL1⟩ := List.map_eq_cons_iff.1 hL
            obtain ⟨y2, L2, rfl, h2, hL2⟩ := List.map_eq_cons_iff.1 hL1
            obtain ⟨y3, L3, rfl, h3, hL3⟩ := List.map_eq_cons_iff.1 hL2
            obtain rfl := List.map_eq_nil_iff.1 hL3
            obtain ⟨mg, mcap, rfl, _⟩ := hO.at0 (by simp)
            have hU : Calls Try.prog 15 #[.pointer (some ⟨c, 0, none⟩)] w6 fun e w' => e = .returned (.int .i64 2) ∧ w6 = w' := hA6.under
            clear hU hL hL1 hL2 hL3 hS
            have HA6 := Lib.hid hA6
            have HO := Lib.hid hO
            have H1 := Lib.hid h1
            have H2 := Lib.hid h2
            have H3 := Lib.hid h3
            clear hA6 hO h1 h2 h3
            rw [show [y1, y2, y3].length = 3 from rfl]
            go_wp2_with fail
            go_loopw [16] (fun n wr => (n = .int .i64 0 ∨ n = .int .i64 1 ∨ n = .int .i64 2 ∨ n = .int .i64 3) ∧ Keep [] w6 wr) (fun n _ => 5 - (intOf n).toNat)
            case atStart => exact ⟨.inl rfl, Keep.refl _ _⟩
            case round =>
              obtain ⟨hc, hK⟩ := hrel
              have hO := HO.out.still hK
              rcases hc with rfl | rfl | rfl | rfl
              · have a0 : wr.cell? ⟨mg, 0, none⟩ = some (.int .i64 7) := hO.cells (by simp) 0 _ (by show some (Value.int .i64 y1.m.kind) = _; rw [H1.out]; rfl)
                have a3 : wr.cell? ⟨mg, 3, none⟩ = some (.int .i64 2) := hO.cells (by simp) 3 _ (by show some (Value.int .i64 y1.m.epoch) = _; rw [H1.out]; rfl)
                have a19 : wr.cell? ⟨mg, 19, none⟩ = some (.int .i64 1) := hO.cells (by simp) 19 _ (by show some (Value.int .i64 y1.m.base) = _; rw [H1.out]; rfl)
                have a18 : wr.cell? ⟨mg, 18, none⟩ = some y1.vm := hO.cells (by simp) 18 _ rfl
                have a20 : wr.cell? ⟨mg, 20, none⟩ = some y1.vo := hO.cells (by simp) 20 _ rfl
                have e18 : Own wr 0 3 y1.vm (ints [1, 2, 3]) := by have := (hO.ok y1 (by simp)).mem; rw [H1.out] at this; exact this
                have e20 : Own wr 0 3 y1.vo (ints [1, 2]) := by have := (hO.ok y1 (by simp)).old; rw [H1.out] at this; exact this
                have k1 := (Keep.refl [] wr).alloc (.cells #[.int .i64 1, .int .i64 2] 3)
                have hr1 : Rv (wr.alloc (.cells #[.int .i64 1, .int .i64 2] 3)) 1 (.slice (some ⟨wr.heap.size, 0, none⟩) 2 2) 2 (ints [1, 2]) := Rv.new _ (ints [1, 2]) 3 1 2 2 rfl (by omega) wr.heap.size rfl
                have f20 : Rv (wr.alloc (.cells #[.int .i64 1, .int .i64 2] 3)) 1 y1.vo 2 (ints [1, 2]) := (e20.keep k1 (by simp)).irv
                have E1 := Lib.hid (EqInts_any _ _ [1, 2] [1, 2] f20 hr1 (by simp) (by simp) true rfl)
                have E18 := Lib.hid e18
                have HMG := (hO.lt mg rfl).2
                clear hO hr1 f20 e18 e20
                go_wp2_with fail
                refine E1.out.mono ?_
                rintro e w7 ⟨rfl, k7⟩
                have k8 := (k1.trans k7).alloc (.cells #[.int .i64 1, .int .i64 2, .int .i64 3] 3)
                have hr2 : Rv (w7.alloc (.cells #[.int .i64 1, .int .i64 2, .int .i64 3] 3)) 1 (.slice (some ⟨w7.heap.size, 0, none⟩) 3 3) 3 (ints [1, 2, 3]) := Rv.new _ (ints [1, 2, 3]) 3 1 3 3 rfl (by omega) w7.heap.size rfl
                have f18 : Rv (w7.alloc (.cells #[.int .i64 1, .int .i64 2, .int .i64 3] 3)) 1 y1.vm 3 (ints [1, 2, 3]) := (E18.out.keep k8 (by simp)).irv
                have E2 := Lib.hid (EqInts_any _ _ [1, 2, 3] [1, 2, 3] f18 hr2 (by simp) (by simp) true rfl)
                have kk := k1.trans k7
                have b18 : w7.cell? ⟨mg, 18, none⟩ = some y1.vm := by rw [kk.cell (HMG) (by simp)]; exact a18
                clear hr2 f18 kk k1 a0 a3 a19 a18 a20 E1 E18
                go_wp2_with fail
                refine E2.out.mono ?_
                rintro e w9 ⟨rfl, k9⟩
                have K9 := hK.trans (k8.trans k9)
                clear E2 k8 k9 k7 hK b18
                go_wp2_with fail
                go_roundw
                case rel => exact ⟨by simp, K9⟩
                case measure => simp [intOf]
              · have a0 : wr.cell? ⟨mg, 21, none⟩ = some (.int .i64 7) := hO.cells (by simp) 21 _ (by show some (Value.int .i64 y2.m.kind) = _; rw [H2.out]; rfl)
                have a3 : wr.cell? ⟨mg, 24, none⟩ = some (.int .i64 2) := hO.cells (by simp) 24 _ (by show some (Value.int .i64 y2.m.epoch) = _; rw [H2.out]; rfl)
                have a19 : wr.cell? ⟨mg, 40, none⟩ = some (.int .i64 1) := hO.cells (by simp) 40 _ (by show some (Value.int .i64 y2.m.base) = _; rw [H2.out]; rfl)
                have a18 : wr.cell? ⟨mg, 39, none⟩ = some y2.vm := hO.cells (by simp) 39 _ rfl
                have a20 : wr.cell? ⟨mg, 41, none⟩ = some y2.vo := hO.cells (by simp) 41 _ rfl
                have e18 : Own wr 0 3 y2.vm (ints [1, 2, 3]) := by have := (hO.ok y2 (by simp)).mem; rw [H2.out] at this; exact this
                have e20 : Own wr 0 3 y2.vo (ints [1, 2]) := by have := (hO.ok y2 (by simp)).old; rw [H2.out] at this; exact this
                have k1 := (Keep.refl [] wr).alloc (.cells #[.int .i64 1, .int .i64 2] 3)
                have hr1 : Rv (wr.alloc (.cells #[.int .i64 1, .int .i64 2] 3)) 1 (.slice (some ⟨wr.heap.size, 0, none⟩) 2 2) 2 (ints [1, 2]) := Rv.new _ (ints [1, 2]) 3 1 2 2 rfl (by omega) wr.heap.size rfl
                have f20 : Rv (wr.alloc (.cells #[.int .i64 1, .int .i64 2] 3)) 1 y2.vo 2 (ints [1, 2]) := (e20.keep k1 (by simp)).irv
                have E1 := Lib.hid (EqInts_any _ _ [1, 2] [1, 2] f20 hr1 (by simp) (by simp) true rfl)
                have E18 := Lib.hid e18
                have HMG := (hO.lt mg rfl).2
                clear hO hr1 f20 e18 e20
                go_wp2_with fail
                refine E1.out.mono ?_
                rintro e w7 ⟨rfl, k7⟩
                have k8 := (k1.trans k7).alloc (.cells #[.int .i64 1, .int .i64 2, .int .i64 3] 3)
                have hr2 : Rv (w7.alloc (.cells #[.int .i64 1, .int .i64 2, .int .i64 3] 3)) 1 (.slice (some ⟨w7.heap.size, 0, none⟩) 3 3) 3 (ints [1, 2, 3]) := Rv.new _ (ints [1, 2, 3]) 3 1 3 3 rfl (by omega) w7.heap.size rfl
                have f18 : Rv (w7.alloc (.cells #[.int .i64 1, .int .i64 2, .int .i64 3] 3)) 1 y2.vm 3 (ints [1, 2, 3]) := (E18.out.keep k8 (by simp)).irv
                have E2 := Lib.hid (EqInts_any _ _ [1, 2, 3] [1, 2, 3] f18 hr2 (by simp) (by simp) true rfl)
                have kk := k1.trans k7
                have b18 : w7.cell? ⟨mg, 39, none⟩ = some y2.vm := by rw [kk.cell (HMG) (by simp)]; exact a18
                clear hr2 f18 kk k1 a0 a3 a19 a18 a20 E1 E18
                go_wp2_with fail
                refine E2.out.mono ?_
                rintro e w9 ⟨rfl, k9⟩
                have K9 := hK.trans (k8.trans k9)
                clear E2 k8 k9 k7 hK b18
                go_wp2_with fail
                go_roundw
                case rel => exact ⟨by simp, K9⟩
                case measure => simp [intOf]
              · have a0 : wr.cell? ⟨mg, 42, none⟩ = some (.int .i64 7) := hO.cells (by simp) 42 _ (by show some (Value.int .i64 y3.m.kind) = _; rw [H3.out]; rfl)
                have a3 : wr.cell? ⟨mg, 45, none⟩ = some (.int .i64 2) := hO.cells (by simp) 45 _ (by show some (Value.int .i64 y3.m.epoch) = _; rw [H3.out]; rfl)
                have a19 : wr.cell? ⟨mg, 61, none⟩ = some (.int .i64 1) := hO.cells (by simp) 61 _ (by show some (Value.int .i64 y3.m.base) = _; rw [H3.out]; rfl)
                have a18 : wr.cell? ⟨mg, 60, none⟩ = some y3.vm := hO.cells (by simp) 60 _ rfl
                have a20 : wr.cell? ⟨mg, 62, none⟩ = some y3.vo := hO.cells (by simp) 62 _ rfl
                have e18 : Own wr 0 3 y3.vm (ints [1, 2, 3]) := by have := (hO.ok y3 (by simp)).mem; rw [H3.out] at this; exact this
                have e20 : Own wr 0 3 y3.vo (ints [1, 2]) := by have := (hO.ok y3 (by simp)).old; rw [H3.out] at this; exact this
                have k1 := (Keep.refl [] wr).alloc (.cells #[.int .i64 1, .int .i64 2] 3)
                have hr1 : Rv (wr.alloc (.cells #[.int .i64 1, .int .i64 2] 3)) 1 (.slice (some ⟨wr.heap.size, 0, none⟩) 2 2) 2 (ints [1, 2]) := Rv.new _ (ints [1, 2]) 3 1 2 2 rfl (by omega) wr.heap.size rfl
                have f20 : Rv (wr.alloc (.cells #[.int .i64 1, .int .i64 2] 3)) 1 y3.vo 2 (ints [1, 2]) := (e20.keep k1 (by simp)).irv
                have E1 := Lib.hid (EqInts_any _ _ [1, 2] [1, 2] f20 hr1 (by simp) (by simp) true rfl)
                have E18 := Lib.hid e18
                have HMG := (hO.lt mg rfl).2
                clear hO hr1 f20 e18 e20
                go_wp2_with fail
                refine E1.out.mono ?_
                rintro e w7 ⟨rfl, k7⟩
                have k8 := (k1.trans k7).alloc (.cells #[.int .i64 1, .int .i64 2, .int .i64 3] 3)
                have hr2 : Rv (w7.alloc (.cells #[.int .i64 1, .int .i64 2, .int .i64 3] 3)) 1 (.slice (some ⟨w7.heap.size, 0, none⟩) 3 3) 3 (ints [1, 2, 3]) := Rv.new _ (ints [1, 2, 3]) 3 1 3 3 rfl (by omega) w7.heap.size rfl
                have f18 : Rv (w7.alloc (.cells #[.int .i64 1, .int .i64 2, .int .i64 3] 3)) 1 y3.vm 3 (ints [1, 2, 3]) := (E18.out.keep k8 (by simp)).irv
                have E2 := Lib.hid (EqInts_any _ _ [1, 2, 3] [1, 2, 3] f18 hr2 (by simp) (by simp) true rfl)
                have kk := k1.trans k7
                have b18 : w7.cell? ⟨mg, 60, none⟩ = some y3.vm := by rw [kk.cell (HMG) (by simp)]; exact a18
                clear hr2 f18 kk k1 a0 a3 a19 a18 a20 E1 E18
                go_wp2_with fail
                refine E2.out.mono ?_
                rintro e w9 ⟨rfl, k9⟩
                have K9 := hK.trans (k8.trans k9)
                clear E2 k8 k9 k7 hK b18
                go_wp2_with fail
                go_roundw
                case rel => exact ⟨by simp, K9⟩
                case measure => simp [intOf]
              · have hA := HA6.out.keep hK
                have hE : Calls Try.prog 14 #[.pointer (some ⟨c, 0, none⟩)] wr fun e w' => e = .returned (.int .i64 1) ∧ wr = w' := hA.epoch
                have hU : Calls Try.prog 15 #[.pointer (some ⟨c, 0, none⟩)] wr fun e w' => e = .returned (.int .i64 2) ∧ wr = w' := hA.under
                clear hA HA6 HO hO
                go_wp2_with fail
                refine hE.mono ?_
                rintro e w7 ⟨rfl, rfl⟩
                go_wp2_with fail
                refine hU.mono ?_
                rintro e w7 ⟨rfl, rfl⟩
                go_wp2_with fail
                go_ret
                exact ⟨rfl, (k0.trans (hSK.trans (k6.trans hK))).below⟩
theorem controlPhases_walk (s : Int) (last frozen : Bool) (w : World) (hs : (Lit.int .i64 s).wf = true) :
    Calls Try.prog 3 #[.int .i64 s, .bool last, .bool frozen] w fun e w' => e = .returned (.bool true) ∧ Below w.heap.size w w' := Phases_any s (i64_wf hs) last frozen
end Go.Proofs.Ytcoaobdijlppgaa
