/- ControlBack: the walk. -/
import Derived.Test.YtcoaobdijlppgaaHCtl23
namespace Go.Proofs.Ytcoaobdijlppgaa
open Go.ChangeShapes Go.WideShapes Go.ChangeAt Go.RowKit
set_option linter.unusedVariables false
set_option linter.unusedSimpArgs false
set_option maxRecDepth 100000

def bkT (i : Nat) : Ct := ⟨1, (i : Int) + 1, [1], 0, 0, [], [], 0, []⟩
/-- The authority of the law, with all that is left open. -/
def BkA (w0 : World) (c d : Nat) (i : Nat) (w : World) : Prop := ∃ kb g B n f now, Auth w0.heap.size w c d kb g (bkT i) B n f now ∧ B ≤ 10 + 10 * i ∧ Keep [] w0 w
theorem bk_begun (i : Nat) : (bkT i).begun (bothL (bkT i).mem [2] 0) 0 = ⟨1, (i : Int) + 1 + 1, [1], (i : Int) + 1 + 1, 1, [1, 2], [1, 2], 0, []⟩ := rfl
theorem bk_next (i : Nat) : (⟨1, (i : Int) + 1 + 1, [1], 0, 0, [], [], 0, []⟩ : Ct) = bkT (i + 1) := by
  unfold bkT
  congr
theorem back_in (s : Int) : 1 ≤ 1 + s.tmod 6 % 6 ∧ 1 + s.tmod 6 % 6 ≤ 6 := by omega
theorem BkA.no {w0 w : World} {c d i : Nat} (h : BkA w0 c d i w) (kind k ep : Int) (last : Bool) (hk : 1 ≤ k ∧ k ≤ 5) (hep : 0 ≤ ep ∧ ep ≤ 1099511627776) (hkd : (kind = 4 ∧ last = true) ∨ kind = 10) :
    Calls Try.prog 12 #[.pointer (some ⟨c, 0, none⟩), msV (wordM kind k ep last) (.slice none 0 0) (.slice none 0 0) (.slice none 0 0) (.slice none 0 0)] w fun e w' => e = .returned (.slice none 0 0) ∧ BkA w0 c d i w' := by
  obtain ⟨kb, g, B, n, f, now, hA, hB, hK⟩ := h
  refine (hA.word_no kind k ep last hk hep ?_).mono ?_
  · rcases hkd with ⟨rfl, rfl⟩ | rfl
    · exact .inl ⟨rfl, rfl, fun h => h.1 rfl⟩
    · exact .inr ⟨rfl, fun h => h.1 rfl⟩
  · rintro e w' ⟨rfl, hA', T⟩
    exact ⟨rfl, kb, g, B, n, f, now, hA', hB, T.after hK⟩
set_option maxHeartbeats 8000000 in
theorem controlBack_walk (s : Int) (op : Bool) (w : World) (hs : (Lit.int .i64 s).wf = true) :
    Calls Try.prog 5 #[.int .i64 s, .bool op] w fun e w' => e = .returned (.bool true) ∧ Below w.heap.size w w' := by
  have hs := i64_wf hs
  have hin := back_in s
  have r1 : s.tmod 6 < 6 := Int.tmod_lt_of_pos s (by decide)
  have r2 : -6 < s.tmod 6 := by
    have := Int.lt_tmod_of_pos s (b := 6) (by decide)
    omega
  go_enter Try.func5, Try.ntmps5
  go_wp2_with fail
  refine (begun23 w).mono ?_
  rintro e w0 ⟨rfl, k0⟩
  go_wp2_with fail
  refine (New_any 2 2 (by decide)).mono ?_
  rintro e w1 ⟨d, sb, rfl, hd, k1, z1, z2⟩
  go_wp2_with fail
  have hrow : Rv (w1.alloc (.cells #[.int .i64 1] 3)) 1 (.slice (some ⟨w1.heap.size, 0, none⟩) 1 1) 1 (ints [1]) := Rv.new _ (ints [1]) 3 1 1 1 rfl (by omega) w1.heap.size rfl
  have K1 := (Keep.refl [] w1).alloc (.cells #[.int .i64 1] 3)
  have hs1 := k1.size
  refine (Auth.make (lo := w0.heap.size) (B := 1) (hd.keep K1 (by simp) (by simp)) (by decide) (by omega) (by decide) _ [1] hrow (by decide) ⟨z1, z2, by simp; omega⟩).mono ?_
  rintro e w2 ⟨c, kb, g, rfl, hA, T2, _⟩
  have hB0 : BkA w0 c d 0 w2 := ⟨kb, g, 1, 0, _, 0, hA, by omega, T2.after (k1.trans K1)⟩
  clear hd hrow K1 hs1 T2 k1 z1 z2 hA hs
  generalize 1 + s.tmod 6 % 6 = num at *
  clear r1 r2
  obtain ⟨n1, n2⟩ := hin
  have hbp : ∀ (W : World) (k e : Int), (Instr.build 39 #[(0, .int .i64 4), (1, .int .i64 k), (3, .int .i64 e), (11, .bool true)]).run Try.prog W = .ok (msV (wordM 4 k e true) (.slice none 0 0) (.slice none 0 0) (.slice none 0 0) (.slice none 0 0)) W := fun W k e => run_prepared W k e true
  have hbf : ∀ (W : World) (k e : Int), (Instr.build 39 #[(0, .int .i64 10), (1, .int .i64 k), (3, .int .i64 e)]).run Try.prog W = .ok (msV (wordM 10 k e false) (.slice none 0 0) (.slice none 0 0) (.slice none 0 0) (.slice none 0 0)) W := fun W k e => run_frozen W k e
  go_wp2_with fail
  go_loopw [6, 7, 9] (fun sd sc n wr => ∃ (c d i : Nat), sd = .pointer (some ⟨d, 0, none⟩) ∧ sc = .pointer (some ⟨c, 0, none⟩) ∧ n = .int .i64 (i : Int) ∧ (i : Int) ≤ num ∧ BkA w0 c d i wr) (fun _ _ n _ => num.toNat - (intOf n).toNat)
  case atStart => exact ⟨c, d, 0, rfl, rfl, rfl, by omega, hB0⟩
  case round =>
    clear hB0
    obtain ⟨c, d, i, rfl, rfl, rfl, hi, hBr⟩ := hrel
    by_cases hlt : (i : Int) < num
    · have q0 : decide ((i : Int) < num) = true := decide_eq_true hlt
      obtain ⟨kb, g, B, n, f, now, hA, hB, hK⟩ := hBr
      go_wp2_with fail
      refine (hA.join (by omega) (by show ∀ n ∈ ([1] : List Int), 1 ≤ n ∧ n ≤ 5; decide) (by show 0 < ([1] : List Int).length; decide) (by show I64 1; exact ⟨by decide, by decide⟩) ⟨by show (0 : Int) ≤ (i : Int) + 1; omega, by show (i : Int) + 1 < 1099511627776; omega⟩ rfl 2 (by decide) (by show ¬ (2 : Int) ∈ ([1] : List Int); decide)).mono ?_
      rintro e w3 ⟨v, L, rfl, hO, hL, hA3, T3⟩
      rw [bk_begun i] at hA3
      have hU : Calls Try.prog 15 #[.pointer (some ⟨c, 0, none⟩)] w3 fun e w' => e = .returned (.int .i64 ((i : Int) + 2)) ∧ w3 = w' := by
        have := hA3.under
        rw [show (i : Int) + 2 = (i : Int) + 1 + 1 by omega]
        exact this
      have K3 := T3.after hK
      obtain ⟨va, vc, rfl⟩ := hO.slice
      clear hO hL T3 hA hK
      go_wp2_with fail
      refine hU.mono ?_
      rintro e w4 ⟨rfl, rfl⟩
      clear hU
      go_upto_if 55 with fail
      go_cut [6, 7] (fun s6 s7 wc => ∃ (d' c' : Nat), s6 = .pointer (some ⟨d', 0, none⟩) ∧ s7 = .pointer (some ⟨c', 0, none⟩) ∧ BkA w0 c' d' (i + 1) wc)
      case first =>
        cases op with
        | true =>
          go_wp2_with fail
          refine (hA3.has.crash K3.size).mono ?_
          rintro e w5 ⟨d5, rfl, hd5, k5⟩
          go_wp2_with fail
          refine (hd5.openA (by omega) (Nat.le_trans K3.size k5.size) (by decide) ⟨by decide, by show (1 : Int) ≤ (i : Int) + 1 + 1; omega, by show (i : Int) + 1 + 1 ≤ _; omega⟩ (.pointer none) 0 (.inl ⟨rfl, rfl⟩)).mono ?_
          rintro e w6 ⟨c6, kb6, g6, rfl, hA6, k6, _⟩
          go_wp2_with fail
          go_meet
          exact ⟨d5, c6, rfl, rfl, kb6, g6, B + 1, 5, _, 0, (by rw [← bk_next i]; exact hA6), by omega, (K3.trans k5).trans k6⟩
        | false =>
          have hn : ((i : Int) + 1 + 1) ≠ 0 := by omega
          go_wp2_with fail
          refine (hA3.back hn).mono ?_
          rintro e w5 ⟨v, L, rfl, hO, hL, hA5, T5⟩
          have hL : L.map (·.m) = [abortM ((i : Int) + 1 + 1) 1, abortM ((i : Int) + 1 + 1) 2] := hL
          obtain ⟨y1, L1, rfl, h1, hL1⟩ := List.map_eq_cons_iff.1 hL
          obtain ⟨y2, L2, rfl, h2, hL2⟩ := List.map_eq_cons_iff.1 hL1
          obtain rfl := List.map_eq_nil_iff.1 hL2
          obtain ⟨mg, mcap, rfl, hat⟩ := hO.at0 (by simp)
          have m0 := hat 0 (.int .i64 12) (by show some (Value.int .i64 y1.m.kind) = _; rw [h1]; rfl)
          have m3 := hat 3 (.int .i64 ((i : Int) + 2)) (by show some (Value.int .i64 y1.m.epoch) = _; rw [h1]; show some (Value.int .i64 ((i : Int) + 1 + 1)) = _; rw [show (i : Int) + 1 + 1 = (i : Int) + 2 by omega])
          have HB : Hid (BkA w0 c d (i + 1) w5) := Lib.hid ⟨kb, g, B + 1, n, f, now, (by rw [← bk_next i]; exact hA5), by omega, T5.after K3⟩
          clear hat hL hL1 hL2 h1 h2 hO hA5 T5 hA3 K3
          rw [show [y1, y2].length = 2 from rfl]
          go_wp2_with fail
          go_meet
          exact ⟨d, c, rfl, rfl, HB.out⟩
      case rest =>
      clear hA3 K3
      obtain ⟨d', c', rfl, rfl, hB5⟩ := hcut
      have hep : 0 ≤ (i : Int) + 2 ∧ (i : Int) + 2 ≤ 1099511627776 := by omega
      have HEP := Lib.hid hep
      have HI := Lib.hid (show ((i : Int) + 1 = ((i + 1 : Nat) : Int)) ∧ (((i + 1 : Nat) : Int) ≤ num) ∧ num.toNat - ((i : Int) + 1).toNat < num.toNat - (i : Int).toNat by omega)
      clear hep hB
      go_wp2_with fail
      go_loopw [17] (fun n wr => (n = .int .i64 1 ∨ n = .int .i64 2 ∨ n = .int .i64 3) ∧ BkA w0 c' d' (i + 1) wr) (fun n _ => 5 - (intOf n).toNat)
      case atStart => exact ⟨.inl rfl, hB5⟩
      case round =>
      clear hB5
      obtain ⟨hc, hB6⟩ := hrel
      rcases hc with rfl | rfl | rfl
      · go_wp2_with fail
        refine (hB6.no 4 1 _ true (by decide) HEP.out (.inl ⟨rfl, rfl⟩)).mono ?_
        rintro e w6 ⟨rfl, hB7⟩
        go_wp2_with fail
        refine (hB7.no 10 1 _ false (by decide) HEP.out (.inr rfl)).mono ?_
        rintro e w7 ⟨rfl, hB8⟩
        clear hB6 hB7
        go_wp2_with fail
        go_roundw
        case rel => exact ⟨by simp, hB8⟩
        case measure => simp [intOf]
      · go_wp2_with fail
        refine (hB6.no 4 2 _ true (by decide) HEP.out (.inl ⟨rfl, rfl⟩)).mono ?_
        rintro e w6 ⟨rfl, hB7⟩
        go_wp2_with fail
        refine (hB7.no 10 2 _ false (by decide) HEP.out (.inr rfl)).mono ?_
        rintro e w7 ⟨rfl, hB8⟩
        clear hB6 hB7
        go_wp2_with fail
        go_roundw
        case rel => exact ⟨by simp, hB8⟩
        case measure => simp [intOf]
      · have HB6 := Lib.hid hB6
        obtain ⟨kb6, g6, B6, n6, f6, now6, hA6, _, _⟩ := hB6
        have hE : Calls Try.prog 14 #[.pointer (some ⟨c', 0, none⟩)] wr fun e w' => e = .returned (.int .i64 1) ∧ wr = w' := hA6.epoch
        have hU : Calls Try.prog 15 #[.pointer (some ⟨c', 0, none⟩)] wr fun e w' => e = .returned (.int .i64 0) ∧ wr = w' := hA6.under
        clear hA6
        go_wp2_with fail
        refine hE.mono ?_
        rintro e w7 ⟨rfl, rfl⟩
        go_wp2_with fail
        refine hU.mono ?_
        rintro e w7 ⟨rfl, rfl⟩
        clear hE hU
        go_wp2_with fail
        go_roundw
        case rel => exact ⟨c', d', i + 1, rfl, rfl, congrArg (Value.int .i64) HI.out.1, HI.out.2.1, HB6.out⟩
        case measure => simp only [intOf]; exact HI.out.2.2
    · have q0 : decide ((i : Int) < num) = false := decide_eq_false hlt
      obtain ⟨_, _, _, _, _, _, _, _, hK⟩ := hBr
      go_wp2_with fail
      go_ret
      exact ⟨rfl, (k0.trans hK).below⟩
end Go.Proofs.Ytcoaobdijlppgaa
