/- super: numbers of so many bytes, the greatest ones first: put, get. -/
import Derived.Test.YtnnaleoigiaboaaCrc
import Derived.Test.YtnnaleoigiaboaaOpen
import Derived.Test.YtnnaleoigiaboaaDevCrash
import Derived.Test.YtnnaleoigiaboaaShort
namespace Go.Proofs.Ytnnaleoigiaboaa
open Go.ChangeShapes Go.WideShapes Go.ChangeAt Go.RowKit
set_option linter.unusedVariables false
set_option linter.unusedSimpArgs false

/-- n in m bytes, the greatest first. -/
def be : Nat → Nat → List Nat
  | 0, _ => []
  | m + 1, n => be m (n / 256) ++ [n % 256]
def unbe (l : List Nat) : Nat := l.foldl (fun n c => n * 256 + c) 0
@[simp] theorem be_len (m n : Nat) : (be m n).length = m := by induction m generalizing n with
  | zero => rfl
  | succ m ih => simp [be, ih]
theorem be_byte (m n : Nat) : ∀ c ∈ be m n, c < 256 := by
  induction m generalizing n with
  | zero => simp [be]
  | succ m ih =>
    intro c hc
    simp only [be, List.mem_append, List.mem_singleton] at hc
    rcases hc with hc | rfl
    · exact ih _ c hc
    · omega
theorem unbe_snoc (l : List Nat) (c : Nat) : unbe (l ++ [c]) = unbe l * 256 + c := by simp [unbe]
theorem unbe_be (m n : Nat) : unbe (be m n) = n % 256 ^ m := by
  induction m generalizing n with
  | zero => simp [be, unbe]; omega
  | succ m ih =>
    rw [be, unbe_snoc, ih, Nat.pow_succ, Nat.mul_comm (256 ^ m) 256, Nat.mod_mul]
    omega
theorem be_unbe (l : List Nat) (hb : ∀ c ∈ l, c < 256) : be l.length (unbe l) = l := by
  induction h : l.length generalizing l with
  | zero => rw [List.length_eq_zero_iff.1 h]; rfl
  | succ m ih =>
    obtain ⟨a, c, rfl⟩ : ∃ a c, l = a ++ [c] := ⟨l.dropLast, l.getLast (by intro e; simp [e] at h), (List.dropLast_concat_getLast _).symm⟩
    have hc : c < 256 := hb c (by simp)
    rw [unbe_snoc, be, show (unbe a * 256 + c) / 256 = unbe a by omega, show (unbe a * 256 + c) % 256 = c by omega]
    rw [ih a (fun x hx => hb x (by simp [hx])) (by simpa using h)]
theorem unbe_lt (l : List Nat) (hb : ∀ c ∈ l, c < 256) : unbe l < 256 ^ l.length := by
  have := unbe_be l.length (unbe l)
  rw [be_unbe l hb] at this
  rw [this]
  exact Nat.mod_lt _ (Nat.pow_pos (by omega))
theorem be_at (m n i : Nat) (h : i < m) : (be m n).getD (m - 1 - i) 0 = n / 256 ^ i % 256 := by
  induction m generalizing n i with
  | zero => omega
  | succ m ih =>
    simp only [be]
    cases i with
    | zero => simp
    | succ i =>
      rw [List.getD_eq_getElem?_getD, List.getElem?_append_left (by simp; omega), ← List.getD_eq_getElem?_getD, show m + 1 - 1 - (i + 1) = m - 1 - i by omega, ih _ _ (by omega), Nat.pow_succ, Nat.mul_comm, ← Nat.div_div_eq_div_mul]
/-- The last k bytes laid, the others as they were. -/
def beN (old : List Nat) (n k : Nat) : List Nat := old.take (old.length - k) ++ (be old.length n).drop (old.length - k)
theorem beN_zero (old : List Nat) (n : Nat) : beN old n 0 = old := by simp [beN]
theorem beN_all (old : List Nat) (n : Nat) : beN old n old.length = be old.length n := by simp [beN]
theorem beN_len (old : List Nat) (n k : Nat) (h : k ≤ old.length) : (beN old n k).length = old.length := by simp [beN]
theorem beN_succ (old : List Nat) (n k : Nat) (h : k < old.length) : (beN old n k).set (old.length - 1 - k) (n / 256 ^ k % 256) = beN old n (k + 1) := by
  have e1 : old.length - k = (old.length - 1 - k) + 1 := by omega
  unfold beN
  rw [show old.length - (k + 1) = old.length - 1 - k by omega, e1, ← be_at _ n k h]
  generalize hL : be old.length n = L
  have hLl : L.length = old.length := by rw [← hL]; simp
  generalize hq : old.length - 1 - k = q at *
  have hq1 : q < old.length := by omega
  rw [List.take_succ_eq_append_getElem hq1, List.drop_eq_getElem_cons (i := q) (by omega), List.append_assoc]
  rw [List.set_append_right _ _ (by simp; omega)]
  simp [List.getD_eq_getElem?_getD, show q < L.length by omega, Nat.min_eq_left (Nat.le_of_lt hq1)]

set_option maxHeartbeats 2000000 in
theorem put_any {w : World} {b : Nat} {T : TypeId} (A old B : List Nat) (cap n : Nat) (h : Blk w b (bcs (A ++ old ++ B)) T) (hn : n < 18446744073709551616) (hl : old.length ≤ 8) (hA : A.length ≤ 1000000) :
    Calls Try.prog 43 #[.slice (some ⟨b, A.length, none⟩) old.length cap, .int .u64 n] w fun e w' => e = .returned (.tuple #[]) ∧ Blk w' b (bcs (A ++ be old.length n ++ B)) T ∧ Keep [b] w w' := by
  go_enter Try.func43, Try.ntmps43
  go_wp2_with fail
  go_loopw [7] (fun i wr => ∃ k : Nat, k ≤ old.length ∧ i = .int .i64 k ∧ Blk wr b (bcs (A ++ beN old n k ++ B)) T ∧ Keep [b] w wr) (fun i _ => old.length - (intOf i).toNat)
  case atStart => exact ⟨0, by omega, rfl, by rw [beN_zero]; exact h, Keep.refl _ _⟩
  case round =>
    obtain ⟨k, hk, rfl, hB, hK⟩ := hrel
    by_cases hlt : k < old.length
    · have q0 : (k : Int) < old.length := by omega
      have q2 : old.length - 1 - k < old.length := by omega
      have hlen := beN_len old n k hk
      have hcell : ∃ u, wr.cell? ⟨b, A.length + (old.length - 1 - k), none⟩ = some u := by
        rw [hB.cell, List.getElem?_eq_getElem (by simp; omega)]
        exact ⟨_, rfl⟩
      obtain ⟨u, f0⟩ := hcell
      have f1 := hB.free (A.length + (old.length - 1 - k))
      go_wp2_with fail
      go_roundw
      case rel =>
        refine ⟨k + 1, by omega, by go_num, ?_, hK.setCell (by simp) _⟩
        have e := hB.set (A.length + (old.length - 1 - k)) (.int .u8 ((n : Int) / 2 ^ (8 * k) % 256))
        have e2 : (bcs (A ++ beN old n k ++ B)).set (A.length + (old.length - 1 - k)) (.int .u8 ((n : Int) / 2 ^ (8 * k) % 256)) = bcs (A ++ beN old n (k + 1) ++ B) := by
          have e3 : (.int .u8 ((n : Int) / 2 ^ (8 * k) % 256) : Value) = bc (n / 256 ^ k % 256) := by
            unfold bc
            rw [show (256 : Nat) ^ k = 2 ^ (8 * k) by rw [Nat.pow_mul]]
            simp
          rw [e3, ← beN_succ old n k hlt]
          unfold bcs
          rw [← List.map_set]
          congr 1
          rw [List.append_assoc, List.set_append_right _ _ (by omega), Nat.add_sub_cancel_left, List.set_append_left _ _ (by omega), ← List.append_assoc]
        rw [e2] at e
        exact e
      case measure => simp [intOf]; omega
    · obtain rfl : k = old.length := by omega
      rw [beN_all] at hB
      go_wp2_with fail
      go_end0
      exact ⟨rfl, hB, hK⟩
set_option maxHeartbeats 2000000 in
theorem get_any {w : World} (v : Value) (l : List Nat) (h : Rd w v l) (hb : ∀ c ∈ l, c < 256) (hl : l.length ≤ 8) (n : Nat) (hn : n = unbe l) :
    Calls Try.prog 38 #[v] w fun e w' => e = .returned (.int .u64 n) ∧ w = w' := by
  have HN := Lib.hid hn
  clear hn
  have h2 := h
  obtain ⟨_, a, cap, rfl, _, _⟩ := h
  go_enter Try.func38, Try.ntmps38
  go_wp2_with fail
  go_loop [3, 8] (fun x i => ∃ k : Nat, k ≤ l.length ∧ i = .int .i64 k ∧ x = .int .u64 (unbe (l.take k) : Nat)) (fun _ i => l.length - (intOf i).toNat)
  case atStart => exact ⟨0, by omega, rfl, rfl⟩
  case round =>
    obtain ⟨k, hk, rfl, rfl⟩ := hrel
    by_cases hlt : k < l.length
    · obtain ⟨sb0, so, cap3, he, _, hsb, hat⟩ := h2.at1 (by omega)
      simp only [Value.slice.injEq] at he
      obtain ⟨rfl, _, rfl⟩ := he
      have g4 := hat k hlt
      rw [bcs_at l k hlt] at g4
      have hc : l.getD k 0 < 256 := hb _ (by simp [List.getD_eq_getElem?_getD, hlt])
      have hX := unbe_lt (l.take k) (fun c hc => hb c (List.mem_of_mem_take hc))
      have hT : unbe (l.take (k + 1)) = unbe (l.take k) * 256 + l.getD k 0 := by
        rw [List.take_succ_eq_append_getElem hlt, unbe_snoc]; simp [List.getD_eq_getElem?_getD, hlt]
      have HT := Lib.hid hT
      have hX7 : unbe (l.take k) < 72057594037927936 := by
        rw [List.length_take, Nat.min_eq_left hk] at hX
        have : (256 : Nat) ^ k ≤ 256 ^ 7 := Nat.pow_le_pow_right (by omega) (by omega)
        rw [show (256 : Nat) ^ 7 = 72057594037927936 by rfl] at this
        omega
      clear hat h2 hb hT hX
      generalize l.getD k 0 = c at *
      generalize unbe (l.take k) = X at *
      unfold bc at g4
      have q0 : (k : Int) < l.length := by omega
      have ho : bits .or .u64 ((X : Int) * 256) (c : Int) = ((X * 256 + c : Nat) : Int) := by
        rw [show (X : Int) * 256 = ((X * 256 : Nat) : Int) by omega, u64_or_nat _ _ (by omega) (by omega), show X * 256 = 2 ^ 8 * X by omega, ← Nat.two_pow_add_eq_or_of_lt (show c < 2 ^ 8 by omega) X]
      go_wp2_with fail
      go_round
      case rel => exact ⟨k + 1, by omega, by go_num, by rw [HT.out]; go_num⟩
      case measure => simp [intOf]; omega
    · obtain rfl : k = l.length := by omega
      rw [List.take_length]
      generalize hX : unbe l = X at *
      have HX := Lib.hid hX
      clear hX
      go_wp2_with fail
      go_ret
      exact ⟨by rw [HN.out]; rfl, rfl⟩
end Go.Proofs.Ytnnaleoigiaboaa
