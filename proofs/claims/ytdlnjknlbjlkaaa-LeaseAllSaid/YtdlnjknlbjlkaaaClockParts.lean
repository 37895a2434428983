/- The law ClockParts: its walk. -/
import Derived.Test.YtdlnjknlbjlkaaaClockLaws
namespace Go.Proofs.Ytdlnjknlbjlkaaa
open Go.ChangeShapes Go.WideShapes Go.ChangeAt Go.RowKit
set_option linter.unusedVariables false
set_option linter.unusedSimpArgs false

/-- A slice of integers that came in: nil, or a row. -/
def IsRow (k : IntKind) (w : World) (a : Option Addr) (len cap : Nat) (zs : List Int) : Prop :=
  (a = none ∧ len = 0 ∧ cap = 0 ∧ zs = []) ∨
  ∃ x, a = some x ∧ len ≤ cap ∧ cap ≤ maxLen ∧ zs.length = cap ∧ (∀ i, i < zs.length → w.cell? (x.add i) = some (.int k (zs.getD i 0))) ∧ ∀ n ∈ zs, (Lit.int k n).wf = true

theorem IsRow.row {k : IntKind} {w : World} {a : Option Addr} {len cap : Nat} {zs : List Int} (h : IsRow k w a len cap zs) (hl : 0 < len) :
    ∃ sb so, a = some ⟨sb, so, none⟩ ∧ (zs.take len).length = len ∧ len ≤ 9223372036854775807 ∧ sb < w.heap.size ∧ (∀ i, i < len → w.cell? ⟨sb, so + i, none⟩ = some (.int k ((zs.take len).getD i 0))) ∧ ∀ n ∈ zs.take len, (Lit.int k n).wf = true := by
  rcases h with ⟨_, h, _⟩ | ⟨⟨sb, so, sp⟩, rfl, hlc, hcm, hzl, hz, hwf⟩
  · omega
  have h0 := hz 0 (by omega)
  simp only [Addr.add, if_true] at h0
  have hsp : sp = none := by
    cases sp with
    | none => rfl
    | some q => unfold World.cell? at h0; split at h0 <;> simp at h0
  subst hsp
  have hb : sb < w.heap.size := by
    rcases Nat.lt_or_ge sb w.heap.size with h' | h'
    · exact h'
    · simp [World.cell?, Array.getElem?_eq_none h'] at h0
  unfold maxLen at hcm
  refine ⟨sb, so, rfl, by rw [List.length_take]; omega, by omega, hb, fun i hi => ?_, fun n hn => hwf n (List.mem_of_mem_take hn)⟩
  have e : (zs.take len).getD i 0 = zs.getD i 0 := by simp [List.getD_eq_getElem?_getD, List.getElem?_take, hi]
  rw [e, ← hz i (by omega)]
  by_cases hi0 : i = 0
  · subst hi0; simp [Addr.add]
  · simp [Addr.add, hi0]

set_option maxHeartbeats 400000 in
theorem clockParts_walk (a0 : Option Addr) (len cap : Nat) (z0 : List Int) (w : World) (w0 : IsRow .i64 w a0 len cap z0) :
    Calls Try.prog 5 #[.slice a0 len cap] w fun e w' => e = .returned (.bool true) ∧ Below w.heap.size w w' := by
  by_cases hl0 : len = 0
  · subst hl0
    clear w0
    go_enter Try.func5, Try.ntmps5
    go_wp2_with fail
    refine (begun16 w).mono ?_
    rintro e w0 ⟨rfl, k0⟩
    go_wp2_with fail
    go_ret
    exact ⟨rfl, k0⟩
  by_cases hl20 : 20 < len
  · have h1 : decide ((20 : Int) < len) = true := by simp; omega
    clear w0
    go_enter Try.func5, Try.ntmps5
    go_wp2_with fail
    refine (begun16 w).mono ?_
    rintro e w0 ⟨rfl, k0⟩
    go_wp2_with fail
    go_ret
    exact ⟨rfl, k0⟩
  obtain ⟨sb, so, rfl, hzl, hm, hsb, hz, _⟩ := w0.row (by omega)
  clear w0
  generalize z0.take len = zs at *
  subst hzl
  have q1 : ((zs.length : Int) == 0) = false := by simp; intro e; simp [e] at hl0
  have q2 : decide ((20 : Int) < zs.length) = false := by simp; omega
  have HZ := Lib.hid hz
  clear hz
  go_enter Try.func5, Try.ntmps5
  go_wp2_with fail
  refine (begun16 w).mono ?_
  rintro e w0 ⟨rfl, k0⟩
  have ks := k0.size
  go_wp2_with fail
  have c0 : IsClock ((w0.alloc (.cells #[.int .i64 0] 25)).alloc (.cells #[.int .i64 0] 25)) w0.heap.size 0 := ⟨(Blk.new _ _ _).alloc _, by decide, by decide⟩
  have K0 : Keep [] w ((w0.alloc (.cells #[.int .i64 0] 25)).alloc (.cells #[.int .i64 0] 25)) := ((Keep.of_below k0).alloc _).alloc _
  have d0 : IsClock ((w0.alloc (.cells #[.int .i64 0] 25)).alloc (.cells #[.int .i64 0] 25)) (w0.heap.size + 1) 0 := ⟨Blk.new' _ _ _ _ (by simp), by decide, by decide⟩
  refine (tick_some sb so cap zs c0 (by omega) ?_ (by omega) hm).mono ?_
  · intro i hi
    rw [← HZ.out i hi]
    exact K0.cell hsb (by simp)
  rintro e w1 ⟨rfl, c1, k1⟩
  have d1 := d0.keep k1 (by simp)
  have K1 : Keep [] w w1 := K0.then k1 (by simp; omega)
  have HS : w0.heap.size < w1.heap.size ∧ w0.heap.size + 1 < w1.heap.size := by have := k1.size; simp at this; omega
  clear c0 d0 K0 k1 k0
  generalize hM : tickAll 0 zs = M at *
  have HM := Lib.hid hM
  clear hM
  go_wp2_with fail
  go_loopw [7] (fun i wr => ∃ k : Nat, k ≤ zs.length ∧ i = .int .i64 k ∧ IsClock wr w0.heap.size M ∧ IsClock wr (w0.heap.size + 1) (tickAll 0 (zs.take k)) ∧ Keep [] w wr ∧ w0.heap.size + 1 < wr.heap.size) (fun i _ => zs.length - (intOf i).toNat)
  case atStart => exact ⟨0, Nat.zero_le _, rfl, c1, d1, K1, HS.2⟩
  case round =>
    obtain ⟨k, hk, rfl, c2, d2, K2, hs2⟩ := hrel
    by_cases hlt : k < zs.length
    · have g4 : wr.cell? ⟨sb, so + k, none⟩ = some (.int .i64 (zs.getD k 0)) := by
        rw [← HZ.out k hlt]
        exact K2.cell hsb (by simp)
      have st := tickAll_snoc 0 (zs.take k) (zs.getD k 0)
      rw [← take_succ_getD _ _ _ hlt] at st
      have ST := Lib.hid st
      clear st
      have hk1 : (k : Int) < zs.length := by omega
      generalize zs.getD k 0 = x at *
      go_wp2_with fail
      have d3 : IsClock (wr.alloc (.cells #[.int .i64 x] 2)) (w0.heap.size + 1) (tickAll 0 (zs.take k)) := ⟨d2.blk.alloc _, d2.lo, d2.hi⟩
      refine (tick_lit _ _ [x] 2 d3 (by omega) (Blk.new _ _ _) (by simp) (by simp) _ rfl (tick1 (tickAll 0 (zs.take k)) x) rfl).mono ?_
      rintro e w2 ⟨rfl, d4, k4⟩
      have c4 : IsClock w2 w0.heap.size M := IsClock.keep (w := wr.alloc (.cells #[.int .i64 x] 2)) ⟨c2.blk.alloc _, c2.lo, c2.hi⟩ k4 (by simp)
      have hs4 := k4.size
      simp only [World.size_alloc] at hs4
      have K4 : Keep [] w w2 := (K2.alloc _).then k4 (by simp; omega)
      go_wp2_with fail
      go_roundw
      case rel => exact ⟨k + 1, by omega, by go_num, c4, by rw [ST.out]; exact d4, K4, by omega⟩
      case measure => simp [intOf]; omega
    · obtain rfl : k = zs.length := by omega
      rw [List.take_length, HM.out] at d2
      go_wp2_with fail
      refine (now_any c2).mono ?_
      rintro e w' ⟨rfl, rfl⟩
      go_wp2_with fail
      refine (now_any c2).mono ?_
      rintro e w' ⟨rfl, rfl⟩
      go_wp2_with fail
      refine (now_any d2).mono ?_
      rintro e w' ⟨rfl, rfl⟩
      go_wp2_with fail
      refine (since_any 0 c2 M (by have := c2.lo; simp [since]; intro; omega)).mono ?_
      rintro e w' ⟨rfl, rfl⟩
      go_wp2_with fail
      refine (now_any c2).mono ?_
      rintro e w' ⟨rfl, rfl⟩
      go_wp2_with fail
      go_ret
      exact ⟨rfl, K2.below⟩
end Go.Proofs.Ytdlnjknlbjlkaaa
