/- The contracts of package clock: Now, Since, Tick over a clock's cell. No condition beyond what a clock always holds. -/
import Derived.Test.YtdlnjknlbjlkaaaBase
namespace Go.Proofs.Ytdlnjknlbjlkaaa
open Go.ChangeShapes Go.WideShapes Go.ChangeAt Go.RowKit
set_option linter.unusedVariables false
set_option linter.unusedSimpArgs false

def tick1 (n x : Int) : Int := if 0 ≤ x ∧ x ≤ 1099511627776 - n then n + x else n
def tickAll (n : Int) (l : List Int) : Int := l.foldl tick1 n
theorem tick1_bd (n x : Int) (h0 : 0 ≤ n) (h1 : n ≤ 1099511627776) : 0 ≤ tick1 n x ∧ tick1 n x ≤ 1099511627776 := by
  unfold tick1; split <;> omega
theorem tickAll_bd (l : List Int) : ∀ (n : Int), 0 ≤ n → n ≤ 1099511627776 → 0 ≤ tickAll n l ∧ tickAll n l ≤ 1099511627776 := by
  induction l with
  | nil => intro n h0 h1; exact ⟨h0, h1⟩
  | cons x l ih => intro n h0 h1; have := tick1_bd n x h0 h1; exact ih _ this.1 this.2
theorem tickAll_snoc (n : Int) (l : List Int) (x : Int) : tickAll n (l ++ [x]) = tick1 (tickAll n l) x := by simp [tickAll]

/-- Block b is a clock at n. -/
structure IsClock (w : World) (b : Nat) (n : Int) : Prop where
  blk : Blk w b [.int .i64 n] 25
  lo : 0 ≤ n
  hi : n ≤ 1099511627776
theorem IsClock.keep {S : List Nat} {w w' : World} {b : Nat} {n : Int} (h : IsClock w b n) (k : Keep S w w') (hn : b ∉ S) : IsClock w' b n := ⟨h.blk.keep k hn, h.lo, h.hi⟩

theorem now_any {b : Nat} {n : Int} {w : World} (h : IsClock w b n) :
    Calls Try.prog 16 #[.pointer (some ⟨b, 0, none⟩)] w fun e w' => e = .returned (.int .i64 n) ∧ w = w' := by
  have hc := h.blk.cell 0
  clear h
  go_enter Try.func16, Try.ntmps16
  go_wp2
  go_ret
  exact ⟨rfl, rfl⟩

def since (n t : Int) : Int := if t < 0 ∨ n < t then 0 else n - t

theorem since_any {b : Nat} {n : Int} {w : World} (t : Int) (h : IsClock w b n) (m : Int) (hm : m = since n t) :
    Calls Try.prog 17 #[.pointer (some ⟨b, 0, none⟩), .int .i64 t] w fun e w' => e = .returned (.int .i64 m) ∧ w = w' := by
  subst hm
  have hc := h.blk.cell 0
  obtain ⟨_, h0, h1⟩ := h
  unfold since
  by_cases h2 : t < 0
  · go_enter Try.func17, Try.ntmps17
    go_wp2
    go_ret
    exact ⟨by simp [h2], rfl⟩
  · by_cases h3 : n < t
    all_goals
      go_enter Try.func17, Try.ntmps17
      go_wp2
      go_ret
      exact ⟨by simp [h2, h3], rfl⟩

/-- What Tick is handed: nil, or a row of numbers that is not the clock itself. -/
def Row64 (w : World) (b : Nat) (v : Value) (zs : List Int) : Prop :=
  (v = .slice none 0 0 ∧ zs = []) ∨ ∃ sb so cap, v = .slice (some ⟨sb, so, none⟩) zs.length cap ∧ sb ≠ b ∧ zs.length ≤ 9223372036854775807 ∧ ∀ i, i < zs.length → w.cell? ⟨sb, so + i, none⟩ = some (.int .i64 (zs.getD i 0))

def Ticked (b : Nat) (m : Int) (w : World) (e : Ending) (w' : World) : Prop := e = .returned (.int .i64 m) ∧ IsClock w' b m ∧ Keep [b] w w'

set_option maxHeartbeats 400000 in
theorem tick_some {b : Nat} {n : Int} {w : World} (sb so cap : Nat) (zs : List Int) (h : IsClock w b n) (hne : sb ≠ b)
    (hz : ∀ i, i < zs.length → w.cell? ⟨sb, so + i, none⟩ = some (.int .i64 (zs.getD i 0))) (hl : 0 < zs.length) (hm : zs.length ≤ 9223372036854775807) :
    Calls Try.prog 15 #[.pointer (some ⟨b, 0, none⟩), .slice (some ⟨sb, so, none⟩) zs.length cap] w (Ticked b (tickAll n zs) w) := by
  go_enter Try.func15, Try.ntmps15
  go_wp2
  go_loopw [15] (fun i wr => ∃ k : Nat, k ≤ zs.length ∧ i = .int .i64 k ∧ IsClock wr b (tickAll n (zs.take k)) ∧ Keep [b] w wr) (fun i _ => zs.length - (intOf i).toNat)
  case atStart => exact ⟨0, Nat.zero_le _, rfl, h, Keep.refl _ _⟩
  case round =>
    obtain ⟨k, hk, rfl, hw, hkeep⟩ := hrel
    obtain ⟨hw1, b1, b2⟩ := hw
    have g1 := hw1.cell 0
    have g3 := hw1.free 0
    simp only [List.getElem?_cons_zero] at g1
    by_cases hlt : k < zs.length
    · have g4 : wr.cell? ⟨sb, so + k, none⟩ = some (.int .i64 (zs.getD k 0)) := by
        rw [← hz k hlt]
        have hs : sb < w.heap.size := by
          rcases Nat.lt_or_ge sb w.heap.size with h' | h'
          · exact h'
          · have := hz k hlt; simp [World.cell?, Array.getElem?_eq_none h'] at this
        exact hkeep.cell hs (by simpa using hne)
      have st := tickAll_snoc n (zs.take k) (zs.getD k 0)
      rw [← take_succ_getD _ _ _ hlt] at st
      have ST := Lib.hid st
      have HK := Lib.hid hkeep
      have HW := Lib.hid hw1
      clear st hz hkeep hw1 h
      generalize tickAll n (zs.take k) = m at *
      generalize zs.getD k 0 = x at *
      have hk1 : (k : Int) < zs.length := by omega
      have bd := tick1_bd m x b1 b2
      by_cases h5 : 0 ≤ x
      · by_cases h6 : x ≤ 1099511627776 - m
        · go_wp2
          go_roundw
          case rel => exact ⟨k + 1, by omega, by go_num, by rw [ST.out]; unfold tick1 at *; simp only [h5, h6, and_self, if_true] at *; exact ⟨HW.out.set 0 _, by omega, by omega⟩, HK.out.setCell (by simp) _⟩
          case measure => simp [intOf]; omega
        · go_wp2
          go_roundw
          case rel => exact ⟨k + 1, by omega, by go_num, by rw [ST.out]; simp only [tick1, h6, and_false, if_false]; exact ⟨HW.out, b1, b2⟩, HK.out⟩
          case measure => simp [intOf]; omega
      · go_wp2
        go_roundw
        case rel => exact ⟨k + 1, by omega, by go_num, by rw [ST.out]; simp only [tick1, h5, false_and, if_false]; exact ⟨HW.out, b1, b2⟩, HK.out⟩
        case measure => simp [intOf]; omega
    · go_wp2
      go_ret
      obtain rfl : k = zs.length := by omega
      rw [List.take_length] at *
      exact ⟨rfl, ⟨hw1, b1, b2⟩, hkeep⟩

theorem tick_none {b : Nat} {n : Int} {w : World} (a : Option Addr) (cap : Nat) (h : IsClock w b n) (m : Int) (hn : m = tickAll n [1]) :
    Calls Try.prog 15 #[.pointer (some ⟨b, 0, none⟩), .slice a 0 cap] w (Ticked b m w) := by
  subst hn
  have hlt := h.blk.lt
  have hb := h.blk
  obtain ⟨_, h0, h1⟩ := h
  have g1 := hb.cell 0
  have g2 := hb.free 0
  have HB := Lib.hid hb
  clear hb
  simp only [List.getElem?_cons_zero] at g1
  by_cases h6 : 1 ≤ 1099511627776 - n
  · have e : tickAll n [1] = n + 1 := by simp [tickAll, tick1]; omega
    rw [e]
    clear e
    go_enter Try.func15, Try.ntmps15
    go_wp2
    go_rounds 2
    go_ret
    exact ⟨rfl, ⟨(HB.out.set 0 _).alloc _, by omega, by omega⟩, ((Keep.refl _ _).setCell (by simp) _).alloc _⟩
  · have e : tickAll n [1] = n := by simp [tickAll, tick1]; omega
    rw [e]
    clear e
    go_enter Try.func15, Try.ntmps15
    go_wp2
    go_rounds 2
    go_ret
    exact ⟨rfl, ⟨(HB.out.alloc _), by omega, by omega⟩, ((Keep.refl _ _).alloc _)⟩

/-- no clock -/
theorem tick_nil (v : Value) (w : World) :
    Calls Try.prog 15 #[.pointer none, v] w fun e w' => e = .returned (.int .i64 0) ∧ w = w' := by
  go_enter Try.func15, Try.ntmps15
  go_wp2
  go_ret
  exact ⟨rfl, rfl⟩
theorem now_nil (w : World) :
    Calls Try.prog 16 #[.pointer none] w fun e w' => e = .returned (.int .i64 0) ∧ w = w' := by
  go_enter Try.func16, Try.ntmps16
  go_wp2
  go_ret
  exact ⟨rfl, rfl⟩
theorem since_nil (w : World) (t : Int) :
    Calls Try.prog 17 #[.pointer none, .int .i64 t] w fun e w' => e = .returned (.int .i64 0) ∧ w = w' := by
  by_cases h2 : t < 0
  · go_enter Try.func17, Try.ntmps17
    go_wp2
    go_ret
    exact ⟨rfl, rfl⟩
  · by_cases h3 : 0 < t
    · go_enter Try.func17, Try.ntmps17
      go_wp2
      go_ret
      exact ⟨rfl, rfl⟩
    · obtain rfl : t = 0 := by omega
      go_enter Try.func17, Try.ntmps17
      go_wp2
      go_ret
      exact ⟨rfl, rfl⟩

/-- Tick of one, two, three numbers written in the text: the slice is the caller's new block. -/
theorem tick_lit {b : Nat} {n : Int} {w : World} (sb cap : Nat) (zs : List Int) (T : TypeId) (h : IsClock w b n) (hne : sb ≠ b)
    (hz : Blk w sb (zs.map (Value.int .i64)) T) (hl : 0 < zs.length) (hm : zs.length ≤ 9223372036854775807) (k : Nat) (hk : k = zs.length) (m : Int) (hn : m = tickAll n zs) :
    Calls Try.prog 15 #[.pointer (some ⟨b, 0, none⟩), .slice (some ⟨sb, 0, none⟩) k cap] w (Ticked b m w) := by
  subst hk hn
  refine tick_some sb 0 cap zs h hne ?_ hl hm
  intro i hi
  have := hz.cell i
  simp only [Nat.zero_add, this, List.getElem?_map]
  simp [List.getD_eq_getElem?_getD, hi]
end Go.Proofs.Ytdlnjknlbjlkaaa
