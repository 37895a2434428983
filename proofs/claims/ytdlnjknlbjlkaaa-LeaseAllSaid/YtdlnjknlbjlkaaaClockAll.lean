/- The law ClockAll: its walk. -/
import Derived.Test.YtdlnjknlbjlkaaaClockParts
import Derived.Deep.Slices
namespace Go.Proofs.Ytdlnjknlbjlkaaa
open Go.ChangeShapes Go.WideShapes Go.ChangeAt Go.RowKit Go.Deep
set_option linter.unusedVariables false
set_option linter.unusedSimpArgs false

theorem refTick (n x : Int) (w : World) (h0 : 0 ≤ n) (h1 : n ≤ 1099511627776) :
    Calls Try.prog 14 #[.int .i64 n, .int .i64 x] w fun e w' => e = .returned (.int .i64 (tick1 n x)) ∧ w = w' := by
  by_cases h2 : x < 0
  · go_enter Try.func14, Try.ntmps14
    go_wp2
    go_ret
    exact ⟨by simp only [tick1, show ¬ (0 ≤ x) by omega, false_and, if_false]; rfl, rfl⟩
  · by_cases h3 : 1099511627776 - n < x
    · go_enter Try.func14, Try.ntmps14
      go_wp2
      go_ret
      exact ⟨by simp only [tick1, show ¬ (x ≤ 1099511627776 - n) by omega, and_false, if_false]; rfl, rfl⟩
    · go_enter Try.func14, Try.ntmps14
      go_wp2
      go_ret
      exact ⟨by simp only [tick1, show 0 ≤ x by omega, show x ≤ 1099511627776 - n by omega, and_self, if_true]; rfl, rfl⟩

/-- A slice of slices of numbers that came in. -/
def IsRows (w : World) (v : Value) : Prop :=
  ∃ a len cap, v = .slice a len cap ∧ len ≤ maxLen ∧ ∀ i, i < len → ∃ sb so, a = some ⟨sb, so, none⟩ ∧ sb < w.heap.size ∧
    ∃ a1 len1 cap1 zs, w.cell? ⟨sb, so + i, none⟩ = some (.slice a1 len1 cap1) ∧ IsRow .i64 w a1 len1 cap1 zs

/-- An address that leads to a cell, and those behind it. -/
theorem addr_cell {w : World} {a : Addr} (h : (w.cell? a).isSome = true) : ∃ sb so, a = ⟨sb, so, none⟩ ∧ sb < w.heap.size ∧ ∀ i, a.add i = ⟨sb, so + i, none⟩ := by
  obtain ⟨sb, so, sp⟩ := a
  have hsp : sp = none := by
    cases sp with
    | none => rfl
    | some q => unfold World.cell? at h; split at h <;> simp at h
  subst hsp
  have hb : sb < w.heap.size := by
    rcases Nat.lt_or_ge sb w.heap.size with h' | h'
    · exact h'
    · simp [World.cell?, Array.getElem?_eq_none h'] at h
  refine ⟨sb, so, rfl, hb, fun i => ?_⟩
  by_cases hi : i = 0
  · subst hi; simp [Addr.add]
  · simp [Addr.add, hi]

theorem IsRow.cap {k : IntKind} {w : World} {a : Option Addr} {len cap : Nat} {zs : List Int} (h : IsRow k w a len cap zs) : len ≤ cap := by
  rcases h with ⟨_, h, h2, _⟩ | ⟨_, _, h, _⟩ <;> omega

theorem open_rows {H : Type} {enc : TypeId × Value → H} {W : World} {v : Value} {d : DataW H} {p : List MemPlace} {r : Reach} {b : Nat}
    (hv : Value.okWide Try.prog W r b 22 v) (h : DataW.Trod enc Try.prog W 0 (fun _ => true) true 22 v d p) : IsRows W v := by
  obtain ⟨a0, len, cap, rfl⟩ := okWide_slice Try.underlying22 hv
  obtain ⟨fuel, hf⟩ := h
  rcases open_slice1 Try.underlying22 (by kernel_rfl) hf with ⟨hcs, _⟩ | ⟨a, l, c, m, n, V, D, Pl, hcs, hb, hl, hm, hmm, hx, hi⟩
  · simp [Value.cells] at hcs
    obtain ⟨rfl, rfl, rfl⟩ := hcs
    exact ⟨_, _, _, rfl, by omega, fun i hi => by omega⟩
  · simp [Value.cells] at hcs
    obtain ⟨rfl, rfl, rfl⟩ := hcs
    simp only [if_true] at hmm
    subst hmm
    refine ⟨_, _, _, rfl, by omega, fun i hil => ?_⟩
    obtain ⟨hc0, ht0⟩ := hi 0 (by omega)
    have hc1 : W.cell? a = some (V 0) := by simpa [Addr.add] using hc0
    obtain ⟨sb, so, rfl, hs, hadd⟩ := addr_cell (w := W) (a := a) (by rw [hc1]; rfl)
    obtain ⟨hc, ht⟩ := hi i (by omega)
    rw [hadd] at hc
    refine ⟨sb, so, rfl, hs, ?_⟩
    rcases open_ints Try.underlying26 Try.underlying2 (by kernel_rfl) ht with ⟨hcs, _⟩ | ⟨x, l1, c1, zs, hcs, _, hl1, hm1, hz, _, hcell, hwz⟩
    · simp at hcs
      exact ⟨none, 0, 0, [], by rw [hc, hcs], .inl ⟨rfl, rfl, rfl, rfl⟩⟩
    · simp at hcs
      exact ⟨some x, l1, c1, zs, by rw [hc, hcs], .inr ⟨_, rfl, hl1, hm1, by simpa using hz, hcell, hwz⟩⟩

set_option maxHeartbeats 1000000 in
theorem clockAll_walk (v : Value) (t : Int) (w : World) (w0 : IsRows w v) (_w1 : (Lit.int .i64 t).wf = true) :
    Calls Try.prog 3 #[v, .int .i64 t] w fun e w' => e = .returned (.bool true) ∧ Below w.heap.size w w' := by
  obtain ⟨a, len, cap, rfl, hlen, hrows⟩ := w0
  unfold maxLen at hlen
  have HR := Lib.hid hrows
  clear hrows
  go_enter Try.func3, Try.ntmps3
  go_wp2_with fail
  refine (begun16 w).mono ?_
  rintro e w0 ⟨rfl, k0⟩
  go_wp2_with fail
  go_loopw [7, 8] (fun n i wr => ∃ (k : Nat) (m : Int), k ≤ len ∧ k ≤ 20 ∧ i = .int .i64 k ∧ n = .int .i64 m ∧ IsClock wr w0.heap.size m ∧ Keep [] w wr ∧ w0.heap.size < wr.heap.size) (fun _ i _ => len - (intOf i).toNat)
  case atStart => exact ⟨0, 0, Nat.zero_le _, by omega, rfl, rfl, ⟨Blk.new _ _ _, by decide, by decide⟩, (Keep.of_below k0).alloc _, by simp⟩
  case round =>
    obtain ⟨k, m, hk, hk2, rfl, rfl, c1, K1, hs1⟩ := hrel
    have b1 := c1.lo
    have b2 := c1.hi
    have ks := k0.size
    clear k0
    by_cases hlt : k < len
    · by_cases hlt2 : k < 20
      · obtain ⟨sb, so, rfl, hsb, a1, len1, cap1, z1, hc, hrow⟩ := HR.out k hlt
        clear HR
        have hc1 : wr.cell? ⟨sb, so + k, none⟩ = some (.slice a1 len1 cap1) := by rw [K1.cell hsb (by simp)]; exact hc
        have q1 : (k : Int) < len := by omega
        have q2 : (k : Int) < 20 := by omega
        have hcase : (len1 = 0) ∨ (0 < len1 ∧ len1 ≤ 5) ∨ 5 < len1 := by omega
        rcases hcase with hl0 | ⟨hl0, hl5⟩ | hl5
        · subst hl0
          have hT : Calls Try.prog 15 #[.pointer (some ⟨w0.heap.size, 0, none⟩), .slice a1 0 cap1] wr (Ticked w0.heap.size (tick1 m 1) wr) := tick_none a1 cap1 c1 _ rfl
          have bd := tick1_bd m 1 b1 b2
          go_wp2_with fail
          refine (refTick m 1 wr b1 b2).mono ?_
          rintro e w' ⟨rfl, rfl⟩
          generalize tick1 m 1 = m2 at *
          go_wp2_with fail
          refine wp_loop_rounds 1 ?_
          rw [rounds_succ]
          have HT := Lib.hid hT
          clear hT
          go_wp2_with fail
          refine HT.out.mono ?_
          clear HT c1
          rintro e w2 ⟨rfl, c2, k2⟩
          have K2 : Keep [] w w2 := K1.then k2 (by simp; omega)
          have hs2 : w0.heap.size < w2.heap.size := by have := k2.size; omega
          clear K1 k2
          go_wp2_with fail
          refine (now_any c2).mono ?_
          rintro e w' ⟨rfl, rfl⟩
          by_cases ht0 : t < 0
          · go_wp2_with fail
            refine (since_any t c2 0 (by simp [since, ht0])).mono ?_
            rintro e w' ⟨rfl, rfl⟩
            go_wp2_with fail
            go_roundw
            case rel => exact ⟨k + 1, m2, by omega, by omega, by go_num, rfl, c2, K2, hs2⟩
            case measure => simp [intOf]; omega
          · by_cases ht1 : m2 < t
            · go_wp2_with fail
              refine (since_any t c2 0 (by simp [since, ht1])).mono ?_
              rintro e w' ⟨rfl, rfl⟩
              go_wp2_with fail
              go_roundw
              case rel => exact ⟨k + 1, m2, by omega, by omega, by go_num, rfl, c2, K2, hs2⟩
              case measure => simp [intOf]; omega
            · go_wp2_with fail
              refine (since_any t c2 (m2 - t) (by unfold since; rw [if_neg (by omega)])).mono ?_
              rintro e w' ⟨rfl, rfl⟩
              go_wp2_with fail
              go_roundw
              case rel => exact ⟨k + 1, m2, by omega, by omega, by go_num, rfl, c2, K2, hs2⟩
              case measure => simp [intOf]; omega
        · obtain ⟨sb1, so1, rfl, hzl, hm1, hsb1, hz1, _⟩ := hrow.row (by omega)
          clear hrow
          generalize z1.take len1 = zs at *
          subst hzl
          have hz2 : ∀ i, i < zs.length → wr.cell? ⟨sb1, so1 + i, none⟩ = some (.int .i64 (zs.getD i 0)) := fun i hi => by
            rw [K1.cell hsb1 (by simp)]; exact hz1 i hi
          have hT : Calls Try.prog 15 #[.pointer (some ⟨w0.heap.size, 0, none⟩), .slice (some ⟨sb1, so1, none⟩) zs.length cap1] wr (Ticked w0.heap.size (tickAll m zs) wr) := tick_some sb1 so1 cap1 zs c1 (by omega) hz2 hl0 hm1
          have HT := Lib.hid hT
          have HZ := Lib.hid hz2
          have q3 : ((zs.length : Int) == 0) = false := by simp; intro e; simp [e] at hl0
          clear hT hz2 hz1
          go_wp2_with fail
          go_loop [7, 10] (fun n i => ∃ k : Nat, k ≤ zs.length ∧ i = .int .i64 k ∧ n = .int .i64 (tickAll m (zs.take k))) (fun _ i => zs.length - (intOf i).toNat)
          case atStart => exact ⟨0, Nat.zero_le _, rfl, rfl⟩
          case round =>
            obtain ⟨k', hk', rfl, rfl⟩ := hrel
            obtain ⟨t1, t2⟩ := tickAll_bd (zs.take k') m b1 b2
            by_cases hlt' : k' < zs.length
            · have g4 := HZ.out k' hlt'
              have st := tickAll_snoc m (zs.take k') (zs.getD k' 0)
              rw [← take_succ_getD _ _ _ hlt'] at st
              have ST := Lib.hid st
              clear st
              generalize zs.getD k' 0 = x at *
              generalize tickAll m (zs.take k') = m1 at *
              have q4 : (k' : Int) < zs.length := by omega
              go_wp2_with fail
              refine (refTick m1 x wr t1 t2).mono ?_
              rintro e w' ⟨rfl, rfl⟩
              go_wp2_with fail
              go_round
              case rel => exact ⟨k' + 1, by omega, by go_num, by rw [ST.out]⟩
              case measure => simp [intOf]; omega
            · obtain rfl : k' = zs.length := by omega
              rw [List.take_length] at *
              generalize tickAll m zs = m2 at *
              have bd := And.intro t1 t2
              clear HZ
              go_wp2_with fail
              refine HT.out.mono ?_
              clear HT c1
              rintro e w2 ⟨rfl, c2, k2⟩
              have K2 : Keep [] w w2 := K1.then k2 (by simp; omega)
              have hs2 : w0.heap.size < w2.heap.size := by have := k2.size; omega
              clear K1 k2
              go_wp2_with fail
              refine (now_any c2).mono ?_
              rintro e w' ⟨rfl, rfl⟩
              by_cases ht0 : t < 0
              · go_wp2_with fail
                refine (since_any t c2 0 (by simp [since, ht0])).mono ?_
                rintro e w' ⟨rfl, rfl⟩
                go_wp2_with fail
                go_roundw
                case rel => exact ⟨k + 1, m2, by omega, by omega, by go_num, rfl, c2, K2, hs2⟩
                case measure => simp [intOf]; omega
              · by_cases ht1 : m2 < t
                · go_wp2_with fail
                  refine (since_any t c2 0 (by simp [since, ht1])).mono ?_
                  rintro e w' ⟨rfl, rfl⟩
                  go_wp2_with fail
                  go_roundw
                  case rel => exact ⟨k + 1, m2, by omega, by omega, by go_num, rfl, c2, K2, hs2⟩
                  case measure => simp [intOf]; omega
                · go_wp2_with fail
                  refine (since_any t c2 (m2 - t) (by unfold since; rw [if_neg (by omega)])).mono ?_
                  rintro e w' ⟨rfl, rfl⟩
                  go_wp2_with fail
                  go_roundw
                  case rel => exact ⟨k + 1, m2, by omega, by omega, by go_num, rfl, c2, K2, hs2⟩
                  case measure => simp [intOf]; omega
        · have hcap := hrow.cap
          obtain ⟨sb1, so1, rfl, hzl, hm1, hsb1, hz1, _⟩ := hrow.row (by omega)
          clear hrow
          obtain ⟨zs, hzs⟩ : ∃ zs, zs = (z1.take len1).take 5 := ⟨_, rfl⟩
          have hl : zs.length = 5 := by rw [hzs, List.length_take, hzl]; omega
          have hz2 : ∀ i, i < zs.length → wr.cell? ⟨sb1, so1 + i, none⟩ = some (.int .i64 (zs.getD i 0)) := fun i hi => by
            rw [K1.cell hsb1 (by simp), hz1 i (by omega), hzs]
            have : i < 5 := by omega
            simp [List.getD_eq_getElem?_getD, List.getElem?_take, this]
          have hT : Calls Try.prog 15 #[.pointer (some ⟨w0.heap.size, 0, none⟩), .slice (some ⟨sb1, so1, none⟩) zs.length cap1] wr (Ticked w0.heap.size (tickAll m zs) wr) := tick_some sb1 so1 cap1 zs c1 (by omega) hz2 (by omega) (by omega)
          rw [hl] at hT hz2
          have HT := Lib.hid hT
          have HZ := Lib.hid hz2
          have HL := Lib.hid hl
          have q5 : (5 : Int) < len1 := by omega
          have q7 : 5 ≤ cap1 := by omega
          have q8 : (5 : Int) ≤ cap1 := by omega
          clear hT hz2 hz1 hl hzs hzl
          go_wp2_with fail
          go_loop [7, 10] (fun n i => ∃ k : Nat, k ≤ 5 ∧ i = .int .i64 k ∧ n = .int .i64 (tickAll m (zs.take k))) (fun _ i => 5 - (intOf i).toNat)
          case atStart => exact ⟨0, Nat.zero_le _, rfl, rfl⟩
          case round =>
            obtain ⟨k', hk', rfl, rfl⟩ := hrel
            obtain ⟨t1, t2⟩ := tickAll_bd (zs.take k') m b1 b2
            by_cases hlt' : k' < 5
            · have g4 := HZ.out k' hlt'
              have st := tickAll_snoc m (zs.take k') (zs.getD k' 0)
              rw [← take_succ_getD _ _ _ (by rw [HL.out]; exact hlt')] at st
              have ST := Lib.hid st
              clear st
              generalize zs.getD k' 0 = x at *
              generalize tickAll m (zs.take k') = m1 at *
              have q4 : (k' : Int) < 5 := by omega
              go_wp2_with fail
              refine (refTick m1 x wr t1 t2).mono ?_
              rintro e w' ⟨rfl, rfl⟩
              go_wp2_with fail
              go_round
              case rel => exact ⟨k' + 1, by omega, by go_num, by rw [ST.out]⟩
              case measure => simp [intOf]; omega
            · obtain rfl : k' = 5 := by omega
              rw [show zs.take 5 = zs from List.take_of_length_le (by rw [HL.out]; omega)] at t1 t2 ⊢
              generalize tickAll m zs = m2 at *
              have bd := And.intro t1 t2
              clear HZ
              go_wp2_with fail
              refine HT.out.mono ?_
              clear HT c1
              rintro e w2 ⟨rfl, c2, k2⟩
              have K2 : Keep [] w w2 := K1.then k2 (by simp; omega)
              have hs2 : w0.heap.size < w2.heap.size := by have := k2.size; omega
              clear K1 k2
              go_wp2_with fail
              refine (now_any c2).mono ?_
              rintro e w' ⟨rfl, rfl⟩
              by_cases ht0 : t < 0
              · go_wp2_with fail
                refine (since_any t c2 0 (by simp [since, ht0])).mono ?_
                rintro e w' ⟨rfl, rfl⟩
                go_wp2_with fail
                go_roundw
                case rel => exact ⟨k + 1, m2, by omega, by omega, by go_num, rfl, c2, K2, hs2⟩
                case measure => simp [intOf]; omega
              · by_cases ht1 : m2 < t
                · go_wp2_with fail
                  refine (since_any t c2 0 (by simp [since, ht1])).mono ?_
                  rintro e w' ⟨rfl, rfl⟩
                  go_wp2_with fail
                  go_roundw
                  case rel => exact ⟨k + 1, m2, by omega, by omega, by go_num, rfl, c2, K2, hs2⟩
                  case measure => simp [intOf]; omega
                · go_wp2_with fail
                  refine (since_any t c2 (m2 - t) (by unfold since; rw [if_neg (by omega)])).mono ?_
                  rintro e w' ⟨rfl, rfl⟩
                  go_wp2_with fail
                  go_roundw
                  case rel => exact ⟨k + 1, m2, by omega, by omega, by go_num, rfl, c2, K2, hs2⟩
                  case measure => simp [intOf]; omega
      · go_wp2_with fail
        go_ret
        exact ⟨rfl, K1.below⟩
    · go_wp2_with fail
      go_ret
      exact ⟨rfl, K1.below⟩
end Go.Proofs.Ytdlnjknlbjlkaaa
