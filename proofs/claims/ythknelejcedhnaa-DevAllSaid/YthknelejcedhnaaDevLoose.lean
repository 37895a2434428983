/- The contracts of dev.Loose, and of all on no device. -/
import Derived.Test.YthknelejcedhnaaDevFlush
namespace Go.Proofs.Ythknelejcedhnaa
open Go.ChangeShapes Go.WideShapes Go.ChangeAt Go.RowKit
set_option linter.unusedVariables false
set_option linter.unusedSimpArgs false

theorem IsDev.loose {w : World} {b sb : Nat} {l : List Sec} {c : Nat} (h : IsDev w b sb l c) (k : Nat) (s : Sec) (hs : l[k]? = some s) : w.cell? ⟨sb, k * 129 + 128, none⟩ = some (.bool s.loose) := by
  have hok := h.ok s (List.mem_of_getElem? hs)
  have r2 := devCells_range h.ok k s hs 128 1 (by omega)
  rw [h.secs.cell]
  have h3 := congrArg (fun x : List Value => x[0]?) r2
  simp only [List.getElem?_take, List.getElem?_drop, Nat.zero_lt_one, if_true, Nat.add_zero] at h3
  rw [h3]
  unfold secCells
  have h1 := hok.1
  have h2 := hok.2.1
  rw [List.getElem?_append_right (by simp; omega), List.getElem?_append_right (by simp; omega)]
  simp [h1, h2]

/-- The places ahead of k where the list says yes. -/
def looseN (bs : List Bool) (k : Nat) : List Int := ((List.range k).filter fun i => bs.getD i false).map fun (i : Nat) => (i : Int)
theorem looseN_succ (bs : List Bool) (k : Nat) : looseN bs (k + 1) = looseN bs k ++ if bs.getD k false then [(k : Int)] else [] := by
  unfold looseN
  rw [List.range_succ, List.filter_append, List.map_append]
  congr 1
  cases hb : bs.getD k false <;> simp only [List.filter_cons, hb, List.filter_nil] <;> rfl
theorem looseN_len (bs : List Bool) (k : Nat) : (looseN bs k).length ≤ k := by
  unfold looseN
  have := List.length_filter_le (fun i => bs.getD i false) (List.range k)
  simp at this ⊢; omega
theorem loose_new {P : Program} {t e : TypeId} (ht : P.underlying t = some (.slice e)) (w : World) (X : Int) (T : TypeId) :
    Src P 1 t (.slice (some ⟨w.heap.size, 0, none⟩) 1 1) 1 (ints [X]) (w.alloc (.cells #[.int .i64 X] T)) := by
  refine Src.ofSlice _ ht ⟨w.heap.size, 0, none⟩ 1 1 (ints [X]) rfl ?_ (ints_one _)
  intro j u hu
  match j, hu with
  | 0, hu => simp [ints] at hu; subst hu; simp [Addr.add]
  | j + 1, hu => simp [ints] at hu
def GotInts (w : World) (l : List Int) (e : Ending) (w' : World) : Prop := ∃ v', e = .returned v' ∧ w'.ownsRow w.heap.size 3 1 v' l.length (ints l) ∧ Keep [] w w'

set_option maxHeartbeats 400000 in
theorem Loose_any {w : World} {b sb : Nat} {l : List Sec} {c : Nat} (h : IsDev w b sb l c) :
    Calls Try.prog 28 #[.pointer (some ⟨b, 0, none⟩)] w (GotInts w (looseN (l.map Sec.loose) l.length)) := by
  obtain ⟨i0, hi, hz0, hz1, hz2⟩ := info_parts Try.infoI
  have hmx := h.max
  go_enter Try.func28, Try.ntmps28
  go_wp2_with fail
  refine (Len_any h).mono ?_
  rintro e w' ⟨rfl, rfl⟩
  go_wp2_with fail
  go_loopw [3, 4, 7] (fun v i4 i wr => ∃ k : Nat, k ≤ l.length ∧ i = .int .i64 k ∧ wr.ownsRow w.heap.size 3 1 v (looseN (l.map Sec.loose) k).length (ints (looseN (l.map Sec.loose) k)) ∧ Keep [] w wr) (fun _ _ i _ => l.length - (intOf i).toNat)
  case atStart => exact ⟨0, by omega, rfl, World.ownsRow_nil w _ _ 1, Keep.refl _ _⟩
  case round =>
    obtain ⟨k, hk, rfl, hO, hK⟩ := hrel
    have hD := h.keep hK (by simp) (by simp)
    have g0 := hD.dev.cell 0
    simp only [List.getElem?_cons_zero] at g0
    by_cases hlt : k < l.length
    · obtain ⟨s, hs, hsm⟩ := sec_mem hlt
      have g1 := hD.loose k s hs
      have q0 : (k : Int) < l.length := by omega
      have hg : (l.map Sec.loose).getD k false = s.loose := by simp [List.getD_eq_getElem?_getD, hs]
      have hn := looseN_succ (l.map Sec.loose) k
      rw [hg] at hn
      have hlen := looseN_len (l.map Sec.loose) k
      have hks := hK.size
      have HN := Lib.hid hn
      clear hn hg hs hsm
      cases hso : s.loose with
      | false =>
        rw [hso] at g1
        have HN2 := Lib.hid (show looseN (l.map Sec.loose) (k + 1) = looseN (l.map Sec.loose) k by rw [HN.out, hso]; simp)
        clear HN hso
        go_wp2_with fail
        go_roundw
        case rel => exact ⟨k + 1, by omega, by go_num, by rw [HN2.out]; exact hO, hK⟩
        case measure => simp [intOf]; omega
      | true =>
        rw [hso] at g1
        have HN2 := Lib.hid (show looseN (l.map Sec.loose) (k + 1) = looseN (l.map Sec.loose) k ++ [(k : Int)] by rw [HN.out, hso]; simp)
        clear HN hso
        generalize looseN (l.map Sec.loose) k = m at *
        go_wp2_with (at_builtin; refine wpList_append_src _ rfl _ _ 45 45 rfl w.heap.size 3 i0 (.int .i64 0) 1 8 Try.underlying45 hi hz0 hz1 hz2 rfl (by decide) _ _ _ rfl (hO.alloc _) _ _ _ rfl (loose_new Try.underlying45 wr _ _) (by unfold maxLen; omega) (by omega) (by simp; omega) ?_; intro v1 w1 h1 h2 h4 h3)
        go_roundw
        case rel =>
          refine ⟨k + 1, by omega, by go_num, by rw [HN2.out, List.length_append, ints_append]; exact h1, (hK.alloc _).then (Keep.grown h2) ?_⟩
          intro x hx hlt2
          have := World.ownsRow.lt hO x (Option.mem_toList.1 hx)
          omega
        case measure => simp [intOf]; omega
    · obtain rfl : k = l.length := by omega
      go_wp2_with fail
      go_ret
      exact ⟨_, rfl, hO, hK⟩

/-! no device -/
theorem off_nil {w : World} (i : Int) : Calls Try.prog 42 #[.pointer none, .int .i64 i] w fun e w' => e = .returned (.int .i64 8) ∧ w = w' := by
  go_enter Try.func42, Try.ntmps42
  go_wp2
  go_ret
  exact ⟨rfl, rfl⟩
theorem Len_nil {w : World} : Calls Try.prog 27 #[.pointer none] w fun e w' => e = .returned (.int .i64 0) ∧ w = w' := by
  go_enter Try.func27, Try.ntmps27
  go_wp2
  go_ret
  exact ⟨rfl, rfl⟩
theorem CallsN_nil {w : World} : Calls Try.prog 29 #[.pointer none] w fun e w' => e = .returned (.int .i64 0) ∧ w = w' := by
  go_enter Try.func29, Try.ntmps29
  go_wp2
  go_ret
  exact ⟨rfl, rfl⟩
theorem Read_nil {w : World} (i : Int) : Calls Try.prog 30 #[.pointer none, .int .i64 i] w fun e w' => e = .returned (.tuple #[.slice none 0 0, .int .i64 8]) ∧ w = w' := by
  go_enter Try.func30, Try.ntmps30
  go_wp2_with fail
  refine (off_nil i).mono ?_
  rintro e w' ⟨rfl, rfl⟩
  go_wp2_with fail
  go_ret2
  exact ⟨rfl, rfl⟩
theorem Write_nil {w : World} (i : Int) (v : Value) : Calls Try.prog 31 #[.pointer none, .int .i64 i, v] w fun e w' => e = .returned (.int .i64 8) ∧ w = w' := by
  go_enter Try.func31, Try.ntmps31
  go_wp2_with fail
  refine (off_nil i).mono ?_
  rintro e w' ⟨rfl, rfl⟩
  go_wp2_with fail
  go_ret
  exact ⟨rfl, rfl⟩
theorem Flush_nil {w : World} : Calls Try.prog 34 #[.pointer none] w fun e w' => e = .returned (.int .i64 8) ∧ w = w' := by
  go_enter Try.func34, Try.ntmps34
  go_wp2
  go_ret
  exact ⟨rfl, rfl⟩
theorem Loose_nil {w : World} : Calls Try.prog 28 #[.pointer none] w fun e w' => e = .returned (.slice none 0 0) ∧ w = w' := by
  go_enter Try.func28, Try.ntmps28
  go_wp2_with fail
  refine Len_nil.mono ?_
  rintro e w' ⟨rfl, rfl⟩
  go_wp2_with fail
  refine wp_loop_rounds 1 ?_
  rw [rounds_succ]
  go_wp2_with fail
  go_ret
  exact ⟨rfl, rfl⟩
theorem Crash_nil {w : World} (v : Value) : Calls Try.prog 36 #[.pointer none, v] w fun e w' => e = .returned (.pointer none) ∧ w = w' := by
  go_enter Try.func36, Try.ntmps36
  go_wp2
  go_ret
  exact ⟨rfl, rfl⟩
end Go.Proofs.Ythknelejcedhnaa
