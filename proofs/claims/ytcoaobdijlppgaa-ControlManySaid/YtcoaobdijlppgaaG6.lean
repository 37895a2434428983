/- Ctl1, Ctl2, Dev, DevFlush, LooseN -/
import Derived.Test.YtcoaobdijlppgaaG1
import Derived.Test.YtcoaobdijlppgaaG2
import Derived.Test.YtcoaobdijlppgaaG4
import Derived.Test.YtcoaobdijlppgaaG5
import Derived.StillTailTactics
import Derived.Deep.RegionHeld3
import Derived.Deep.LoopGhost
import Derived.WalkSpells
/- The authority: lists of nodes (slices.Index, Contains, Clone of int; both). -/
namespace Go.Proofs.Ytcoaobdijlppgaa
open Go.ChangeShapes Go.WideShapes Go.ChangeAt Go.RowKit
set_option linter.unusedVariables false
set_option linter.unusedSimpArgs false
set_option maxRecDepth 100000

def GotIdx (w : World) (l : List Int) (x : Int) (e : Ending) (w' : World) : Prop := ∃ i : Int, e = .returned (.int .i64 i) ∧ (0 ≤ i ↔ x ∈ l) ∧ w = w'
theorem Own.islice {w : World} {base : Nat} {E : TypeId} {v : Value} {l : List Int} (h : Own w base E v (ints l)) : ∃ a cap, v = .slice a l.length cap := by
  obtain ⟨a, cap, rfl⟩ := h.slice
  exact ⟨a, cap, by rw [ints_length]⟩
theorem Own.irv {w : World} {base : Nat} {E : TypeId} {v : Value} {l : List Int} (h : Own w base E v (ints l)) : Rv w 1 v l.length (ints l) := by
  have := h.rv; rw [ints_length] at this; exact this
theorem mem_getD {l : List Int} {x : Int} (h : x ∈ l) : ∃ k, k < l.length ∧ l.getD k 0 = x := by
  obtain ⟨k, hk, rfl⟩ := List.getElem_of_mem h
  exact ⟨k, hk, by rw [List.getD_eq_getElem?_getD, List.getElem?_eq_getElem hk]; rfl⟩
theorem getD_mem {l : List Int} {k : Nat} (h : k < l.length) : l.getD k 0 ∈ l := by
  rw [List.getD_eq_getElem?_getD, List.getElem?_eq_getElem h]; exact List.getElem_mem h
set_option maxHeartbeats 4000000 in
theorem Index_any {w : World} (v : Value) (l : List Int) (x : Int) (h : Rv w 1 v l.length (ints l)) (hl : l.length ≤ 1000000) :
    Calls Try.prog 49 #[v, .int .i64 x] w (GotIdx w l x) := by
  obtain ⟨_, a, cap, rfl, _, _⟩ := id h
  go_enter Try.func49, Try.ntmps49
  go_wp2_with fail
  go_loop [8] (fun i => ∃ j : Nat, i = .int .i64 j ∧ j ≤ l.length ∧ ∀ k, k < j → l.getD k 0 ≠ x) (fun i => l.length - (intOf i).toNat)
  case atStart => exact ⟨0, rfl, by omega, fun k hk => absurd hk (by omega)⟩
  case round =>
    obtain ⟨j, rfl, hj, hall⟩ := hrel
    have HA := Lib.hid hall
    clear hall
    by_cases hlt : j < l.length
    · have q0 : (j : Int) < l.length := by omega
      obtain ⟨sb, so, c', he, _, _, hat⟩ := h.at1 (by omega)
      simp only [Value.slice.injEq] at he
      obtain ⟨rfl, _, rfl⟩ := he
      have hcell := hat j hlt
      rw [ints_at _ _ hlt] at hcell
      have HM := Lib.hid (getD_mem hlt)
      have HS := Lib.hid (show l.getD j 0 ≠ x → ∀ k, k < j + 1 → l.getD k 0 ≠ x from fun hn k hk => by
        by_cases hkj : k < j
        · exact HA.out k hkj
        · obtain rfl : k = j := by omega
          exact hn)
      clear hat
      generalize l.getD j 0 = y at *
      by_cases hxy : x = y
      · have q1 : (x == y) = true := by simpa using hxy
        have HY := Lib.hid hxy
        clear hxy
        go_wp2_with fail
        go_ret
        exact ⟨_, rfl, ⟨fun _ => by rw [HY.out]; exact HM.out, fun _ => by omega⟩, rfl⟩
      · have q1 : (x == y) = false := by simpa using hxy
        have HY := Lib.hid hxy
        clear hxy
        go_wp2_with fail
        go_round
        case rel => exact ⟨j + 1, by go_num, by omega, HS.out (fun e => HY.out e.symm)⟩
        case measure => simp [intOf]; omega
    · obtain rfl : j = l.length := by omega
      have HN := Lib.hid (show ¬ x ∈ l from fun hm => by
        obtain ⟨k, hk, e⟩ := mem_getD hm
        exact HA.out k hk e)
      go_wp2_with fail
      go_ret
      exact ⟨_, rfl, ⟨fun h => absurd h (by omega), fun h => absurd h HN.out⟩, rfl⟩
theorem Contains_any {w : World} (v : Value) (l : List Int) (x : Int) (h : Rv w 1 v l.length (ints l)) (hl : l.length ≤ 1000000) (r : Bool) (hr : r = decide (x ∈ l)) :
    Calls Try.prog 30 #[v, .int .i64 x] w fun e w' => e = .returned (.bool r) ∧ w = w' := by
  have HR := Lib.hid hr
  clear hr
  obtain ⟨_, a, cap, rfl, _, _⟩ := id h
  go_enter Try.func30, Try.ntmps30
  go_wp2_with fail
  refine (Index_any _ l x h hl).mono ?_
  rintro e w1 ⟨i, rfl, hi, rfl⟩
  have HI := Lib.hid hi
  clear hi
  by_cases h0 : 0 ≤ i
  · have q0 : decide (0 ≤ i) = true := decide_eq_true h0
    have HF : Hid (r = true) := Lib.hid (by rw [HR.out]; exact decide_eq_true (HI.out.1 h0))
    go_wp2_with fail
    go_ret
    exact ⟨by rw [HF.out]; rfl, rfl⟩
  · have q0 : decide (0 ≤ i) = false := decide_eq_false h0
    have HF : Hid (r = false) := Lib.hid (by rw [HR.out]; exact decide_eq_false (fun hm => h0 (HI.out.2 hm)))
    go_wp2_with fail
    go_ret
    exact ⟨by rw [HF.out]; rfl, rfl⟩
/-- slices.Clone of a row that is not empty. -/
theorem CloneI_any {w : World} (v : Value) (l : List Int) (h : Rv w 1 v l.length (ints l)) (hl : l.length ≤ 1000000) (h0 : 0 < l.length) :
    Calls Try.prog 26 #[v] w fun e w' => ∃ v', e = .returned v' ∧ Own w' w.heap.size 3 v' (ints l) ∧ Keep [] w w' := by
  obtain ⟨i0, hi, hz0, hz1, hz2⟩ := info_parts Try.infoI
  obtain ⟨sb, so, cap, he, _, _, _⟩ := h.at1 h0
  subst he
  have hB := Blk.new w [] 3
  have h1 := h.alloc (.cells #[] 3)
  have K1 := (Keep.refl [] w).alloc (.cells #[] 3)
  have hsrc := Rv.src (P := Try.prog) h1 Try.underlying37 (ints_one l)
  have hO : Own (w.alloc (.cells #[] 3)) w.heap.size 3 (.slice (some ⟨w.heap.size, 0, none⟩) 0 0) [] := ⟨rfl, .inr ⟨w.heap.size, 0, #[], rfl, Nat.le_refl _, Blk.new w [] 3, by simp, by unfold maxLen; omega, rfl, rfl⟩⟩
  have heq := fun (W : World) (a : Option Addr) (n c : Nat) => Lib.run_eql_slice_nil (P := Try.prog) W 37 3 a n c 0 0 Try.underlying37
  go_enter Try.func26, Try.ntmps26
  go_wp2_with (at_builtin; refine wpList_append_src _ rfl _ _ 37 37 rfl w.heap.size 3 i0 (.int .i64 0) 1 8 Try.underlying37 hi hz0 hz1 hz2 rfl (by decide) _ 0 [] rfl hO _ _ _ rfl hsrc (by unfold maxLen; omega) (by omega) (by simp) ?_; intro v1 w2 h2 h3 _ h4)
  go_ret
  refine ⟨_, rfl, ?_, ?_⟩
  · rw [Nat.zero_add, List.nil_append] at h2
    unfold Own
    rw [ints_length]
    exact h2
  · exact K1.then (Keep.grown h3) (fun q hq hlt => by change q ∈ [w.heap.size] at hq; simp at hq; omega)
/-! both -/
def bothP (a b : List Int) (but n : Int) : Bool := !decide (n = but) && (decide (n ∈ a) || decide (n ∈ b))
def bothL (a b : List Int) (but : Int) : List Int := ([1, 2, 3, 4, 5] : List Int).filter (bothP a b but)
theorem five_take (k : Nat) (h : k < 5) : (([1, 2, 3, 4, 5] : List Int).take (k + 1)) = (([1, 2, 3, 4, 5] : List Int).take k) ++ [((k + 1 : Nat) : Int)] := by
  rcases (show k = 0 ∨ k = 1 ∨ k = 2 ∨ k = 3 ∨ k = 4 by omega) with rfl | rfl | rfl | rfl | rfl <;> rfl
def bothU (a b : List Int) (but : Int) (k : Nat) : List Int := (([1, 2, 3, 4, 5] : List Int).take k).filter (bothP a b but)
theorem bothU_succ (a b : List Int) (but : Int) (k : Nat) (h : k < 5) : bothU a b but (k + 1) = bothU a b but k ++ (if bothP a b but ((k + 1 : Nat) : Int) = true then [((k + 1 : Nat) : Int)] else []) := by
  unfold bothU
  rw [five_take k h, List.filter_append]
  congr 1
  by_cases hp : bothP a b but ((k + 1 : Nat) : Int) = true
  · rw [if_pos hp, List.filter_cons_of_pos hp]; rfl
  · rw [if_neg hp, List.filter_cons_of_neg hp]; rfl
theorem bothU_len (a b : List Int) (but : Int) (k : Nat) : (bothU a b but k).length ≤ 5 := by
  unfold bothU
  refine Nat.le_trans (List.length_filter_le _ _) ?_
  simp; omega
theorem bothL_len (a b : List Int) (but : Int) : (bothL a b but).length ≤ 5 := Nat.le_trans (List.length_filter_le _ _) (by simp)
set_option maxHeartbeats 4000000 in
theorem both_any {w : World} (va vb : Value) (a b : List Int) (but : Int) (ha : Rv w 1 va a.length (ints a)) (hb : Rv w 1 vb b.length (ints b)) (hla : a.length ≤ 1000000) (hlb : b.length ≤ 1000000) :
    Calls Try.prog 32 #[va, vb, .int .i64 but] w fun e w' => ∃ v', e = .returned v' ∧ Own w' w.heap.size 3 v' (ints (bothL a b but)) ∧ Keep [] w w' := by
  obtain ⟨i0, hi, hz0, hz1, hz2⟩ := info_parts Try.infoI
  obtain ⟨_, aa, acap, rfl, _, _⟩ := id ha
  obtain ⟨_, ba, bcap, rfl, _, _⟩ := id hb
  go_enter Try.func32, Try.ntmps32
  go_wp2_with fail
  go_loopw [7, 8] (fun out i wr => ∃ k : Nat, k ≤ 5 ∧ i = .int .i64 ((k + 1 : Nat) : Int) ∧ Own wr w.heap.size 3 out (ints (bothU a b but k)) ∧ Keep [] w wr) (fun _ i _ => 6 - (intOf i).toNat)
  case atStart => exact ⟨0, by omega, rfl, Own.nil _ _ _, Keep.refl _ _⟩
  case round =>
    obtain ⟨k, hk, rfl, hO, hK⟩ := hrel
    by_cases hlt : k < 5
    · have hs := bothU_succ a b but k hlt
      have hlen := bothU_len a b but k
      have hP : bothP a b but ((k + 1 : Nat) : Int) = (!decide (((k + 1 : Nat) : Int) = but) && (decide (((k + 1 : Nat) : Int) ∈ a) || decide (((k + 1 : Nat) : Int) ∈ b))) := rfl
      have hn : 1 ≤ ((k + 1 : Nat) : Int) ∧ ((k + 1 : Nat) : Int) ≤ 5 := by omega
      have hnx : ((k + 1 : Nat) : Int) + 1 = ((k + 1 + 1 : Nat) : Int) := by omega
      have HNX := Lib.hid hnx
      have HMS := Lib.hid (show 6 - (((k + 1 : Nat) : Int) + 1).toNat < 6 - ((k + 1 : Nat) : Int).toNat by omega)
      clear hnx
      generalize hnn : ((k + 1 : Nat) : Int) = n at *
      have HNN := Lib.hid hnn
      clear hnn
      have HS := Lib.hid hs
      have HP := Lib.hid hP
      clear hs hP
      generalize hX : bothU a b but k = X at *
      have HX := Lib.hid hX
      clear hX
      obtain ⟨n1, n2⟩ := hn
      have q0 : decide (n ≤ 5) = true := decide_eq_true n2
      obtain ⟨oa, ocap, rfl⟩ := hO.islice
      have hra := ha.keep hK (by simp)
      have hrb := hb.keep hK (by simp)
      obtain ⟨bp, hbp⟩ : ∃ c, c = bothP a b but n := ⟨_, rfl⟩
      have HBP := Lib.hid hbp
      clear hbp
      go_upto_region 5 with fail
      go_cut [25] (fun s wc => s = .bool bp ∧ wr = wc)
      case first =>
        by_cases g1 : n = but
        · have p1 : (n != but) = false := by simpa using g1
          have HF : Hid (bp = false) := Lib.hid (by rw [HBP.out, HP.out, decide_eq_true g1]; rfl)
          clear g1
          go_wp2_with fail
          go_meet
          exact ⟨by rw [HF.out], rfl⟩
        · have p1 : (n != but) = true := by simpa using g1
          obtain ⟨ra, hra1⟩ : ∃ r, r = decide (n ∈ a) := ⟨_, rfl⟩
          obtain ⟨rb, hrb1⟩ : ∃ r, r = decide (n ∈ b) := ⟨_, rfl⟩
          have HRA := Lib.hid hra1
          have HRB := Lib.hid hrb1
          have HE : Hid (bp = (ra || rb)) := Lib.hid (by rw [HBP.out, HP.out, decide_eq_false g1, hra1, hrb1]; rfl)
          clear g1 hra1 hrb1
          go_wp2_with fail
          refine (Contains_any _ a n hra hla ra HRA.out).mono ?_
          rintro e w5 ⟨rfl, rfl⟩
          cases ra with
          | true =>
            go_wp2_with fail
            go_meet
            exact ⟨by rw [HE.out]; rfl, rfl⟩
          | false =>
            go_wp2_with fail
            refine (Contains_any _ b n hrb hlb rb HRB.out).mono ?_
            rintro e w5 ⟨rfl, rfl⟩
            go_wp2_with fail
            go_meet
            exact ⟨by rw [HE.out]; rfl, rfl⟩
      case rest =>
      obtain ⟨rfl, rfl⟩ := hcut
      cases bp with
      | true =>
        have hsz := hK.size
        go_wp2_with (at_builtin; refine wpList_append_src _ rfl _ _ 37 37 rfl w.heap.size 3 i0 (.int .i64 0) 1 8 Try.underlying37 hi hz0 hz1 hz2 rfl (by decide) _ _ _ rfl (hO.alloc (.cells #[.int .i64 n] 3)) _ 1 _ rfl (src_cell Try.underlying37 wr (.int .i64 n) rfl 3 _ rfl) (by rw [ints_length]; unfold maxLen; omega) (by rw [ints_length]; omega) (by simp; omega) ?_; intro v1 w2 h2 h3 _ h4)
        have hO2 := Own.app (m := 1) rfl h2
        have hK2 : Keep [] w w2 := (hK.alloc _).then (Keep.grown h3) (fun q hq hlt => by have := (hO.lt q (Option.mem_toList.1 hq)).1; omega)
        go_roundw
        case rel =>
          refine ⟨k + 1, by omega, by rw [HNX.out], ?_, hK2⟩
          rw [HS.out, ← HBP.out, if_pos rfl, ints_append]
          exact hO2
        case measure => simp only [intOf]; exact HMS.out
      | false =>
        go_wp2_with fail
        go_roundw
        case rel =>
          refine ⟨k + 1, by omega, by rw [HNX.out], ?_, hK⟩
          rw [HS.out, ← HBP.out, if_neg (by decide), List.append_nil]
          exact hO
        case measure => simp only [intOf]; exact HMS.out
    · obtain rfl : k = 5 := by omega
      have q0 : decide (((5 + 1 : Nat) : Int) ≤ 5) = false := by decide
      go_wp2_with fail
      go_ret
      exact ⟨_, rfl, hO, hK⟩
end Go.Proofs.Ytcoaobdijlppgaa
/- The authority: a state's text; sets of nodes in plain Lean. -/
namespace Go.Proofs.Ytcoaobdijlppgaa
open Go.ChangeShapes Go.WideShapes Go.ChangeAt Go.RowKit
set_option linter.unusedVariables false
set_option linter.unusedSimpArgs false
set_option maxRecDepth 100000

def allNodes : List (List Int) := [[1], [2], [3], [4], [5], [1, 2], [1, 3], [1, 4], [1, 5], [2, 3], [2, 4], [2, 5], [3, 4], [3, 5], [4, 5], [1, 2, 3], [1, 2, 4], [1, 2, 5], [1, 3, 4], [1, 3, 5], [1, 4, 5], [2, 3, 4], [2, 3, 5], [2, 4, 5], [3, 4, 5], [1, 2, 3, 4], [1, 2, 3, 5], [1, 2, 4, 5], [1, 3, 4, 5], [2, 3, 4, 5], [1, 2, 3, 4, 5]]
theorem nodes_all {l : List Int} (h : nodesOk l = true) : l ∈ allNodes := by
  have hl := (nodesOk_len h).1
  unfold nodesOk at h
  simp only [Bool.and_eq_true, decide_eq_true_eq] at h
  obtain ⟨h0, h⟩ := h
  match l, hl, h0, h with
  | [a], _, _, h =>
    have h1 := h 0 (by simp)
    simp [nodeAt] at h1
    rcases (show a = 1 ∨ a = 2 ∨ a = 3 ∨ a = 4 ∨ a = 5 by omega) with rfl | rfl | rfl | rfl | rfl <;> decide
  | [a, b], _, _, h =>
    have h1 := h 0 (by simp)
    have h2 := h 1 (by simp)
    simp [nodeAt] at h1 h2
    rcases (show a = 1 ∨ a = 2 ∨ a = 3 ∨ a = 4 by omega) with rfl | rfl | rfl | rfl <;> rcases (show b = 2 ∨ b = 3 ∨ b = 4 ∨ b = 5 by omega) with rfl | rfl | rfl | rfl <;> first | omega | decide
  | [a, b, c], _, _, h =>
    have h1 := h 0 (by simp)
    have h2 := h 1 (by simp)
    have h3 := h 2 (by simp)
    simp [nodeAt] at h1 h2 h3
    rcases (show a = 1 ∨ a = 2 ∨ a = 3 by omega) with rfl | rfl | rfl <;> rcases (show b = 2 ∨ b = 3 ∨ b = 4 by omega) with rfl | rfl | rfl <;> rcases (show c = 3 ∨ c = 4 ∨ c = 5 by omega) with rfl | rfl | rfl <;> first | omega | decide
  | [a, b, c, d], _, _, h =>
    have h1 := h 0 (by simp)
    have h2 := h 1 (by simp)
    have h3 := h 2 (by simp)
    have h4 := h 3 (by simp)
    simp [nodeAt] at h1 h2 h3 h4
    rcases (show a = 1 ∨ a = 2 by omega) with rfl | rfl <;> rcases (show b = 2 ∨ b = 3 by omega) with rfl | rfl <;> rcases (show c = 3 ∨ c = 4 by omega) with rfl | rfl <;> rcases (show d = 4 ∨ d = 5 by omega) with rfl | rfl <;> first | omega | decide
  | [a, b, c, d, e], _, _, h =>
    have h1 := h 0 (by simp)
    have h2 := h 1 (by simp)
    have h3 := h 2 (by simp)
    have h4 := h 3 (by simp)
    have h5 := h 4 (by simp)
    simp [nodeAt] at h1 h2 h3 h4 h5
    obtain rfl : a = 1 := by omega
    obtain rfl : b = 2 := by omega
    obtain rfl : c = 3 := by omega
    obtain rfl : d = 4 := by omega
    obtain rfl : e = 5 := by omega
    decide
/-- A state's members as bits. -/
def bitsL (l : List Int) : Nat := l.foldl (fun b n => b ||| 2 ^ n.toNat) 0
theorem bitsL_snoc (l : List Int) (n : Int) : bitsL (l ++ [n]) = bitsL l ||| 2 ^ n.toNat := by unfold bitsL; rw [List.foldl_append]; rfl
theorem bitsL_lt (l : List Int) (h : ∀ n ∈ l, 1 ≤ n ∧ n ≤ 5) : bitsL l < 64 := by
  have key : ∀ (l : List Int) (b : Nat), b < 64 → (∀ n ∈ l, 1 ≤ n ∧ n ≤ 5) → l.foldl (fun b n => b ||| 2 ^ n.toNat) b < 64 := by
    intro l
    induction l with
    | nil => intro b hb _; exact hb
    | cons a t ih =>
      intro b hb h
      have ha := h a (by simp)
      refine ih _ ?_ (fun n hn => h n (by simp [hn]))
      have : 2 ^ a.toNat < 2 ^ 6 := Nat.pow_lt_pow_right (by omega) (by omega)
      exact Nat.or_lt_two_pow (n := 6) hb this
  exact key l 0 (by omega) h
theorem bits_or_i64_nat (a b : Nat) (ha : a < 4611686018427387904) (hb : b < 4611686018427387904) : bits .or .i64 (a : Int) (b : Int) = ((a ||| b : Nat) : Int) := by
  have hx : a ||| b < 2 ^ 62 := Nat.or_lt_two_pow (by omega) (by omega)
  have h1 : (BitVec.ofInt 64 (a : Int)).toNat = a := by
    rw [BitVec.ofInt_natCast, BitVec.toNat_ofNat]; exact Nat.mod_eq_of_lt (by omega)
  have h2 : (BitVec.ofInt 64 (b : Int)).toNat = b := by
    rw [BitVec.ofInt_natCast, BitVec.toNat_ofNat]; exact Nat.mod_eq_of_lt (by omega)
  show IntKind.i64.wrap ((BitVec.ofInt 64 (a : Int) ||| BitVec.ofInt 64 (b : Int)).toNat : Int) = _
  rw [BitVec.toNat_or, h1, h2, IntKind.wrap_i64]
  omega
theorem bits_and_i64_nat (a b : Nat) (ha : a < 4611686018427387904) (hb : b < 4611686018427387904) : bits .and .i64 (a : Int) (b : Int) = ((a &&& b : Nat) : Int) := by
  have hx : a &&& b < 2 ^ 62 := Nat.and_lt_two_pow _ (by omega)
  have h1 : (BitVec.ofInt 64 (a : Int)).toNat = a := by
    rw [BitVec.ofInt_natCast, BitVec.toNat_ofNat]; exact Nat.mod_eq_of_lt (by omega)
  have h2 : (BitVec.ofInt 64 (b : Int)).toNat = b := by
    rw [BitVec.ofInt_natCast, BitVec.toNat_ofNat]; exact Nat.mod_eq_of_lt (by omega)
  show IntKind.i64.wrap ((BitVec.ofInt 64 (a : Int) &&& BitVec.ofInt 64 (b : Int)).toNat : Int) = _
  rw [BitVec.toNat_and, h1, h2, IntKind.wrap_i64]
  omega
def stT (epoch top : Int) (l : List Int) : List Nat := putAll [epoch, top, (bitsL l : Int)]
abbrev stV (epoch top : Int) (vm : Value) : Value := .agg #[.int .i64 epoch, .int .i64 top, vm]
set_option maxHeartbeats 4000000 in
theorem stText_any {w : World} (epoch top : Int) (vm : Value) (l : List Int) (h : Rv w 1 vm l.length (ints l)) (hn : ∀ n ∈ l, 1 ≤ n ∧ n ≤ 5) (hl : l.length ≤ 1000) (he : I64 epoch) (ht : I64 top) :
    Calls Try.prog 28 #[stV epoch top vm] w fun e w' => ∃ v', e = .returned v' ∧ Buf w' w.heap.size 5 v' (stT epoch top l) ∧ Keep [] w w' := by
  obtain ⟨_, a, cap, rfl, _, _⟩ := id h
  have hB := Blk.new w [.int .i64 epoch, .int .i64 top, .slice a l.length cap] 59
  have h1 := h.alloc (.cells #[.int .i64 epoch, .int .i64 top, .slice a l.length cap] 59)
  have K1 := (Keep.refl [] w).alloc (.cells #[.int .i64 epoch, .int .i64 top, .slice a l.length cap] 59)
  have c2 : (w.alloc (.cells #[.int .i64 epoch, .int .i64 top, .slice a l.length cap] 59)).cell? ⟨w.heap.size, 2, none⟩ = some (.slice a l.length cap) := hB.cell 2
  go_enter Try.func28, Try.ntmps28
  go_wp2_with fail
  go_loop [3, 9] (fun b i => ∃ j : Nat, i = .int .i64 j ∧ j ≤ l.length ∧ b = .int .i64 ((bitsL (l.take j) : Nat) : Int)) (fun _ i => l.length - (intOf i).toNat)
  case atStart => exact ⟨0, rfl, by omega, rfl⟩
  case round =>
    obtain ⟨j, rfl, hj, rfl⟩ := hrel
    by_cases hlt : j < l.length
    · have q0 : (j : Int) < l.length := by omega
      obtain ⟨sb, so, c', he, _, _, hat⟩ := h1.at1 (by omega)
      simp only [Value.slice.injEq] at he
      obtain ⟨rfl, _, rfl⟩ := he
      have hcell := hat j hlt
      rw [ints_at _ _ hlt] at hcell
      have hx := hn _ (getD_mem hlt)
      have hB64 := bitsL_lt (l.take j) (fun n hm => hn n (List.mem_of_mem_take hm))
      have hnext : bitsL (l.take (j + 1)) = bitsL (l.take j) ||| 2 ^ (l.getD j 0).toNat := by
        rw [take_succ_getD l 0 j hlt, bitsL_snoc]
      have HN := Lib.hid hnext
      clear hnext hat
      generalize bitsL (l.take j) = B at *
      generalize l.getD j 0 = x at *
      rcases (show x = 1 ∨ x = 2 ∨ x = 3 ∨ x = 4 ∨ x = 5 by omega) with rfl | rfl | rfl | rfl | rfl
      · have hor := bits_or_i64_nat B 2 (by omega) (by omega)
        go_wp2_with fail
        go_round
        case rel => exact ⟨j + 1, by go_num, by omega, by rw [HN.out]; exact congrArg (Value.int .i64) hor⟩
        case measure => simp [intOf]; omega
      · have hor := bits_or_i64_nat B 4 (by omega) (by omega)
        go_wp2_with fail
        go_round
        case rel => exact ⟨j + 1, by go_num, by omega, by rw [HN.out]; exact congrArg (Value.int .i64) hor⟩
        case measure => simp [intOf]; omega
      · have hor := bits_or_i64_nat B 8 (by omega) (by omega)
        go_wp2_with fail
        go_round
        case rel => exact ⟨j + 1, by go_num, by omega, by rw [HN.out]; exact congrArg (Value.int .i64) hor⟩
        case measure => simp [intOf]; omega
      · have hor := bits_or_i64_nat B 16 (by omega) (by omega)
        go_wp2_with fail
        go_round
        case rel => exact ⟨j + 1, by go_num, by omega, by rw [HN.out]; exact congrArg (Value.int .i64) hor⟩
        case measure => simp [intOf]; omega
      · have hor := bits_or_i64_nat B 32 (by omega) (by omega)
        go_wp2_with fail
        go_round
        case rel => exact ⟨j + 1, by go_num, by omega, by rw [HN.out]; exact congrArg (Value.int .i64) hor⟩
        case measure => simp [intOf]; omega
    · obtain rfl : j = l.length := by omega
      have hB64 := bitsL_lt l hn
      have htk : l.take l.length = l := List.take_length
      have HST : Hid (stT epoch top l = putAll [epoch, top, ((bitsL l : Nat) : Int)]) := Lib.hid rfl
      rw [htk]
      clear htk hlt
      generalize bitsL l = B at *
      have c0 : (w.alloc (.cells #[.int .i64 epoch, .int .i64 top, .slice a l.length cap] 59)).cell? ⟨w.heap.size, 0, none⟩ = some (.int .i64 epoch) := hB.cell 0
      have c1 : (w.alloc (.cells #[.int .i64 epoch, .int .i64 top, .slice a l.length cap] 59)).cell? ⟨w.heap.size, 1, none⟩ = some (.int .i64 top) := hB.cell 1
      go_wp2_with fail
      have hrow : Rv ((w.alloc (.cells #[.int .i64 epoch, .int .i64 top, .slice a l.length cap] 59)).alloc (.cells #[.int .i64 epoch, .int .i64 top, .int .i64 (B : Int)] 2)) 1 (.slice (some ⟨w.heap.size + 1, 0, none⟩) 3 3) 3 (ints [epoch, top, (B : Int)]) := Rv.new _ (ints [epoch, top, (B : Int)]) 2 1 3 3 rfl (by omega) (w.heap.size + 1) (by simp)
      refine (Put_any (w.heap.size + 2) (.slice none 0 0) [] _ [epoch, top, (B : Int)] (Buf.nil _ _ _) hrow (fun _ b hb => by simp [Value.ownBlock] at hb ⊢) (by intro n hm; simp at hm; rcases hm with rfl | rfl | rfl; exact he; exact ht; exact ⟨by omega, by omega⟩) (by simp) (by simp)).mono ?_
      rintro e w5 ⟨v5, rfl, o5⟩
      go_wp2_with fail
      go_ret
      refine ⟨_, rfl, ?_, ?_⟩
      · rw [HST.out]
        exact o5.buf.mono (by omega)
      · exact (K1.alloc _).trans (o5.keep.mono (by intro y hy _; cases hy))
end Go.Proofs.Ytcoaobdijlppgaa
/- The contracts of package dev. -/
namespace Go.Proofs.Ytcoaobdijlppgaa
open Go.ChangeShapes Go.WideShapes Go.ChangeAt Go.RowKit
set_option linter.unusedVariables false
set_option linter.unusedSimpArgs false
set_option maxRecDepth 100000

def zeroSec : Sec := ⟨List.replicate 64 0, List.replicate 64 0, false⟩
theorem zeroSec_ok : zeroSec.ok := by refine ⟨rfl, rfl, ?_, ?_⟩ <;> (intro c hc; simp [zeroSec] at hc; omega)
theorem Try.infoSec : (Try.prog.info? 85).map (fun i => (i.zero, i.size, i.bytes)) = some (some (.agg (secCells zeroSec).toArray), 129, 129) := by kernel_rfl
theorem zeros_dev (n : Nat) : (List.replicate n (secCells zeroSec)).flatten = devCells (List.replicate n zeroSec) := by simp [devCells]

/-- Block b is a device, its sectors in block sb. -/
structure IsDev (w : World) (b sb : Nat) (l : List Sec) (calls : Nat) : Prop where
  dev : Blk w b [.slice (some ⟨sb, 0, none⟩) l.length l.length, .int .i64 calls] 74
  secs : Blk w sb (devCells l) 85
  ne : b ≠ sb
  ok : ∀ s ∈ l, s.ok
  pos : 0 < l.length
  max : l.length ≤ 2048
  few : calls ≤ 1099511627776
theorem IsDev.keep {S : List Nat} {w w' : World} {b sb : Nat} {l : List Sec} {c : Nat} (h : IsDev w b sb l c) (k : Keep S w w') (h1 : b ∉ S) (h2 : sb ∉ S) : IsDev w' b sb l c :=
  ⟨h.dev.keep k h1, h.secs.keep k h2, h.ne, h.ok, h.pos, h.max, h.few⟩

theorem New_any {w : World} (n : Int) (k : Nat) (hk : (k : Int) = min (max n 1) 2048) :
    Calls Try.prog 10 #[.int .i64 n] w fun e w' => ∃ b sb, e = .returned (.pointer (some ⟨b, 0, none⟩)) ∧ IsDev w' b sb (List.replicate k zeroSec) 0 ∧ Keep [] w w' ∧ w.heap.size ≤ b ∧ w.heap.size ≤ sb := by
  obtain ⟨i0, hi, hz0, hz1, hz2⟩ := info_parts Try.infoSec
  have hk1 : 0 < k := by omega
  have hk2 : k ≤ 2048 := by omega
  have hlen : (Value.agg (secCells zeroSec).toArray).cells.size = 129 := by
    show (secCells zeroSec).toArray.size = 129
    rw [List.size_toArray, secCells_length zeroSec_ok]
  have hcase : n < 1 ∨ (1 ≤ n ∧ n ≤ 2048) ∨ 2048 < n := by omega
  rcases hcase with h | ⟨h, h'⟩ | h
  all_goals
    go_enter Try.func10, Try.ntmps10
    go_wp2_with (at_make; refine wpList_make_n _ rfl _ _ 72 rfl 85 i0 _ Try.underlying72 hi hz0 (by rw [hz1, hlen]) (by rw [hlen]; decide) _ k rfl rfl (by omega) (by rw [hz2]; omega) (by omega) ?_)
    go_ret
    refine ⟨w.heap.size + 1, w.heap.size, rfl, ⟨?_, ?_, by omega, ?_, by simpa using hk1, by simpa using hk2, by omega⟩, ((Keep.refl _ _).alloc _).alloc _, by omega, Nat.le_refl _⟩
    · rw [List.length_replicate]
      exact Blk.new' _ _ _ _ (by simp)
    · rw [← zeros_dev]
      exact (Blk.new _ _ _).alloc _
    · intro s hs
      rw [List.eq_of_mem_replicate hs]
      exact zeroSec_ok

theorem off_any {w : World} {b sb : Nat} {l : List Sec} {c : Nat} (h : IsDev w b sb l c) (i : Int) (r : Int) (hr : r = if 0 ≤ i ∧ i < l.length then 0 else 4) :
    Calls Try.prog 62 #[.pointer (some ⟨b, 0, none⟩), .int .i64 i] w fun e w' => e = .returned (.int .i64 r) ∧ w = w' := by
  have g0 := h.dev.cell 0
  simp only [List.getElem?_cons_zero] at g0
  have hm := h.max
  have HR := Lib.hid hr
  clear hr
  by_cases h1 : i < 0
  · go_enter Try.func62, Try.ntmps62
    go_wp2
    go_ret
    exact ⟨by rw [HR.out, if_neg (by omega)]; rfl, rfl⟩
  · by_cases h2 : (l.length : Int) ≤ i
    · go_enter Try.func62, Try.ntmps62
      go_wp2
      go_ret
      exact ⟨by rw [HR.out, if_neg (by omega)]; rfl, rfl⟩
    · have h3 : i < l.length := by omega
      go_enter Try.func62, Try.ntmps62
      go_wp2
      go_ret
      exact ⟨by rw [HR.out, if_pos (by omega)]; rfl, rfl⟩

theorem Len_any {w : World} {b sb : Nat} {l : List Sec} {c : Nat} (h : IsDev w b sb l c) :
    Calls Try.prog 61 #[.pointer (some ⟨b, 0, none⟩)] w fun e w' => e = .returned (.int .i64 (l.length : Int)) ∧ w = w' := by
  have g0 := h.dev.cell 0
  simp only [List.getElem?_cons_zero] at g0
  go_enter Try.func61, Try.ntmps61
  go_wp2
  go_ret
  exact ⟨rfl, rfl⟩
/-- bytes.Clone of a slice that is not nil. -/
theorem Clone_some {w : World} (ad : Addr) (cap : Nat) (l : List Nat) (h : Rd w (.slice (some ad) l.length cap) l) (hl : l.length ≤ 1099511627776) :
    Calls Try.prog 59 #[.slice (some ad) l.length cap] w fun e w' => ∃ v', e = .returned v' ∧ Buf w' w.heap.size 5 v' l ∧ Keep [] w w' ∧ v' ≠ .slice none 0 0 := by
  obtain ⟨i8, hi8, hz80, hz81, hz82⟩ := info_parts Try.info8
  have hsrc := Rd.src (h.alloc (.cells #[] 5)) Try.underlying70
  have hown : Buf (w.alloc (.cells #[] 5)) w.heap.size 5 (.slice (some ⟨w.heap.size, 0, none⟩) 0 0) [] :=
    World.ownsRow_made w #[] 0 (Nat.le_refl _) (by unfold maxLen; omega) rfl
  have heq := fun W => Lib.run_eql_slice_nil (P := Try.prog) W 70 5 (some ad) l.length cap 0 0 Try.underlying70
  go_enter Try.func59, Try.ntmps59
  go_wp2_with (at_builtin; refine wpList_append_src _ rfl _ _ 70 70 rfl w.heap.size 5 i8 (.int .u8 0) 1 1 Try.underlying70 hi8 hz80 hz81 hz82 rfl (by decide) _ 0 [] rfl hown _ _ _ rfl hsrc (by unfold maxLen; omega) (by omega) (by simp) ?_; intro v1 w1 h1 h2 h4 h3)
  go_ret
  refine ⟨v1, rfl, ?_, ((Keep.refl _ _).alloc _).then (Keep.grown h2) ?_, ?_⟩
  · unfold Buf; simpa using h1
  · intro x hx hlt
    have e : (Value.slice (some ⟨w.heap.size, 0, none⟩) 0 0).ownBlock = some x := Option.mem_toList.1 hx
    have e2 : w.heap.size = x := Option.some.inj e
    omega
  · intro e
    have := (h4.1 e).1
    cases this

theorem sec_mem {l : List Sec} {i : Nat} (h : i < l.length) : ∃ s, l[i]? = some s ∧ s ∈ l := ⟨l[i], List.getElem?_eq_getElem h, List.getElem_mem h⟩

/-- Read of a sector that is there. -/
theorem Read_in {w : World} {b sb : Nat} {l : List Sec} {c : Nat} (h : IsDev w b sb l c) (i : Nat) (s : Sec) (hs : l[i]? = some s) :
    Calls Try.prog 56 #[.pointer (some ⟨b, 0, none⟩), .int .i64 (i : Int)] w fun e w' => ∃ v', e = .returned (.tuple #[v', .int .i64 0]) ∧ Buf w' w.heap.size 5 v' s.now ∧ Keep [] w w' := by
  have hi : i < l.length := (List.getElem?_eq_some_iff.1 hs).1
  have hok : s.ok := h.ok s (List.mem_of_getElem? hs)
  have g0 := h.dev.cell 0
  simp only [List.getElem?_cons_zero] at g0
  have hm := h.max
  have q0 : (i : Int) < l.length := by omega
  have hl64 := hok.1
  have hrd : Rd w (.slice (some ⟨sb, i * 129, none⟩) 64 64) s.now := by
    refine ⟨by simp, _, 64, by rw [hl64], by omega, fun _ => ⟨sb, i * 129, rfl, h.secs.lt, fun j hj => ?_⟩⟩
    rw [bcs_length, hl64] at hj
    have hr := h.secs.range (i * 129) 64
    have e := devCells_range h.ok i s hs 0 64 (by omega)
    rw [Nat.add_zero] at e
    rw [e] at hr
    have e2 : ((secCells s).drop 0).take 64 = bcs s.now := by
      unfold secCells
      rw [List.drop_zero, List.take_append_of_le_length (by simp; omega), List.take_of_length_le (by simp; omega)]
    rw [e2] at hr
    have hj2 : (bcs s.now)[j]? = some (bc (s.now.getD j 0)) := bcs_at s.now j (by omega)
    rw [hr j _ hj2, hj2]
  have hb64 : s.now.length ≤ 1099511627776 := by omega
  go_enter Try.func56, Try.ntmps56
  go_wp2_with fail
  refine (off_any h (i : Int) 0 (by rw [if_pos (by omega)])).mono ?_
  rintro e w' ⟨rfl, rfl⟩
  go_wp2_with fail
  have hcl := Clone_some (w := w) ⟨sb, i * 129, none⟩ 64 s.now (by rw [hl64]; exact hrd) hb64
  rw [hl64] at hcl
  refine hcl.mono ?_
  rintro e w1 ⟨v1, rfl, hb1, hk1, _⟩
  go_wp2_with fail
  go_ret2
  exact ⟨v1, rfl, hb1, hk1⟩

theorem set_over {α : Type} (l : List α) (j : Nat) (v : α) (h : j < l.length) : l.set j v = over l j [v] := by
  unfold over
  rw [List.set_eq_take_append_cons_drop, if_pos h]
  simp

theorem over_loose (nw : List Nat) (hn : nw.length = 64) {ls : List Nat} (hl : ls.length = 64) (a c : Bool) : over (secCells ⟨nw, ls, a⟩) 128 [.bool c] = secCells ⟨nw, ls, c⟩ := by
  have e : ∀ d, secCells ⟨nw, ls, d⟩ = (bcs nw ++ bcs ls) ++ [.bool d] := fun d => by simp [secCells]
  have hL : (bcs nw ++ bcs ls).length = 128 := by simp [hn, hl]
  rw [e, e]
  unfold over
  rw [List.take_append_of_le_length (by omega), List.take_of_length_le (by omega), List.drop_of_length_le (by rw [List.length_append, hL]; simp)]
  simp

/-- Write of a sector that is there, of no more than 64 bytes. -/
theorem Write_in {w : World} {b sb : Nat} {l : List Sec} {c : Nat} (h : IsDev w b sb l c) (i : Nat) (s : Sec) (hs : l[i]? = some s) (v : Value) (m : List Nat) (hv : Rd w v m) (hm : m.length ≤ 64) (hmb : ∀ x ∈ m, x < 256) (hc : c < 1099511627776) :
    Calls Try.prog 45 #[.pointer (some ⟨b, 0, none⟩), .int .i64 (i : Int), v] w fun e w' => e = .returned (.int .i64 0) ∧ IsDev w' b sb (l.set i ⟨over s.now 0 m, s.lasts, true⟩) (c + 1) ∧ Keep [b, sb] w w' := by
  have hi : i < l.length := (List.getElem?_eq_some_iff.1 hs).1
  have hok : s.ok := h.ok s (List.mem_of_getElem? hs)
  have hmx := h.max
  have hdl := devCells_length h.ok
  obtain ⟨iu, hiu, hzu0, hzu1, hzu2⟩ := info_parts Try.info8
  have hnow : (over s.now 0 m).length = 64 := by rw [over_length _ _ _ (by have := hok.1; omega)]; exact hok.1
  have hnb : ∀ x ∈ over s.now 0 m, x < 256 := by
    intro x hx
    unfold over at hx
    simp only [List.take_zero, List.nil_append, List.mem_append] at hx
    rcases hx with hx | hx
    · exact hmb x hx
    · exact hok.2.2.1 x (List.mem_of_mem_drop hx)
  have ok1 : (⟨over s.now 0 m, s.lasts, s.loose⟩ : Sec).ok := ⟨hnow, hok.2.1, hnb, hok.2.2.2⟩
  have ok2 : (⟨over s.now 0 m, s.lasts, true⟩ : Sec).ok := ⟨hnow, hok.2.1, hnb, hok.2.2.2⟩
  have hov1 : over (secCells s) 0 (bcs m) = secCells ⟨over s.now 0 m, s.lasts, s.loose⟩ := by
    unfold secCells over
    simp only [List.take_zero, List.nil_append, bcs_length, Nat.zero_add, bcs_append]
    rw [List.drop_append_of_le_length (by simp; have := hok.1; omega)]
    simp [bcs, List.map_drop]
  have e1 := devCells_over h.ok i s _ hs ok1 0 (bcs m) (by simp; omega) hov1
  rw [Nat.add_zero] at e1
  have hB1 := h.secs.setCells (bcs m) (i * 129) w _ (by simp; omega)
  rw [e1] at hB1
  have hK1 : Keep [sb] w (w.setCells sb (i * 129) (bcs m)) := Keep.setCells _ _ _ _ (Keep.refl _ _) (.inl (by simp))
  have hD1 := h.dev.keep hK1 (by simpa using h.ne)
  have hs1 : (l.set i ⟨over s.now 0 m, s.lasts, s.loose⟩)[i]? = some ⟨over s.now 0 m, s.lasts, s.loose⟩ := by simp [hi]
  have hokl := mem_set_ok h.ok i _ ok1
  have hdl1 := devCells_length hokl
  rw [List.length_set] at hdl1
  have e2 := devCells_over hokl i _ _ hs1 ok2 128 [.bool true] (by simp) (over_loose _ hnow hok.2.1 _ _)
  rw [List.set_set, ← set_over _ _ _ (by omega)] at e2
  have r2 := devCells_range hokl i _ hs1 128 1 (by omega)
  have hlo : (devCells (l.set i ⟨over s.now 0 m, s.lasts, s.loose⟩))[i * 129 + 128]? = some (.bool s.loose) := by
    have h3 := congrArg (fun x : List Value => x[0]?) r2
    simp only [List.getElem?_take, List.getElem?_drop, Nat.zero_lt_one, if_true, Nat.add_zero] at h3
    rw [h3]
    unfold secCells
    rw [List.getElem?_append_right (by simp; omega), List.getElem?_append_right (by simp; have := hok.2.1; omega)]
    have h1 := hok.2.1
    simp [hnow, h1]
  have f0 := hD1.cell 0
  have f1 := hD1.cell 1
  have f2 := hD1.free 1
  have f3 := hB1.cell (i * 129 + 128)
  have f4 := hB1.free (i * 129 + 128)
  rw [hlo] at f3
  simp only [List.getElem?_cons_zero, List.getElem?_cons_succ] at f0 f1
  have g0 := h.dev.cell 0
  simp only [List.getElem?_cons_zero] at g0
  have q0 : (i : Int) < l.length := by omega
  have hne := h.ne
  have hth := h.secs.there (i * 129) m.length (by omega)
  have hsrc := Rd.src hv Try.underlying70
  have hfin : IsDev (((w.setCells sb (i * 129) (bcs m)).setCell ⟨sb, i * 129 + 128, none⟩ (.bool true)).setCell ⟨b, 1, none⟩ (.int .i64 ((c + 1 : Nat) : Int))) b sb (l.set i ⟨over s.now 0 m, s.lasts, true⟩) (c + 1) := by
    refine ⟨?_, ?_, hne, mem_set_ok h.ok i _ ok2, by simpa using h.pos, by simpa using h.max, by omega⟩
    · rw [List.length_set]
      exact (hD1.other (by simpa using hne) _).set 1 _
    · rw [← e2]
      exact (hB1.set _ _).other (by simpa using hne.symm) _
  have hkf : Keep [b, sb] w (((w.setCells sb (i * 129) (bcs m)).setCell ⟨sb, i * 129 + 128, none⟩ (.bool true)).setCell ⟨b, 1, none⟩ (.int .i64 ((c + 1 : Nat) : Int))) :=
    ((hK1.mono (by simp)).setCell (by simp) _).setCell (by simp) _
  have HF := Lib.hid hfin
  have HK := Lib.hid hkf
  obtain ⟨_, av, capv, rfl, _, _⟩ := id hv
  clear hfin hkf hov1 e1 e2 r2 hlo hB1 hD1 hK1 hs1 hokl hdl1 hdl ok1 ok2 hnow hnb
  go_enter Try.func45, Try.ntmps45
  go_wp2_with fail
  refine (off_any h (i : Int) 0 (by rw [if_pos (by omega)])).mono ?_
  rintro e w' ⟨rfl, rfl⟩
  go_wp2_with (refine wpList_copy_mid _ rfl _ _ 70 70 rfl 5 iu Try.underlying70 hiu hzu1 sb (i * 129) 64 64 rfl _ m.length (bcs m) rfl hsrc hm hth ?_)
  go_ret
  exact ⟨rfl, HF.out, HK.out⟩

theorem Read_out {w : World} {b sb : Nat} {l : List Sec} {c : Nat} (h : IsDev w b sb l c) (i : Int) (hi : i < 0 ∨ (l.length : Int) ≤ i) :
    Calls Try.prog 56 #[.pointer (some ⟨b, 0, none⟩), .int .i64 i] w fun e w' => e = .returned (.tuple #[.slice none 0 0, .int .i64 4]) ∧ w = w' := by
  go_enter Try.func56, Try.ntmps56
  go_wp2_with fail
  refine (off_any h i 4 (by rw [if_neg (by omega)])).mono ?_
  rintro e w' ⟨rfl, rfl⟩
  go_wp2_with fail
  go_ret2
  exact ⟨rfl, rfl⟩
theorem Write_out {w : World} {b sb : Nat} {l : List Sec} {c : Nat} (h : IsDev w b sb l c) (i : Int) (v : Value) (hi : i < 0 ∨ (l.length : Int) ≤ i) :
    Calls Try.prog 45 #[.pointer (some ⟨b, 0, none⟩), .int .i64 i, v] w fun e w' => e = .returned (.int .i64 4) ∧ w = w' := by
  go_enter Try.func45, Try.ntmps45
  go_wp2_with fail
  refine (off_any h i 4 (by rw [if_neg (by omega)])).mono ?_
  rintro e w' ⟨rfl, rfl⟩
  go_wp2_with fail
  go_ret
  exact ⟨rfl, rfl⟩
theorem Write_long {w : World} {b sb : Nat} {l : List Sec} {c : Nat} (h : IsDev w b sb l c) (i : Int) (a : Option Addr) (n cap : Nat) (h0 : 0 ≤ i) (h1 : i < l.length) (hn : 64 < n) :
    Calls Try.prog 45 #[.pointer (some ⟨b, 0, none⟩), .int .i64 i, .slice a n cap] w fun e w' => e = .returned (.int .i64 1) ∧ w = w' := by
  have q1 : (64 : Int) < n := by omega
  go_enter Try.func45, Try.ntmps45
  go_wp2_with fail
  refine (off_any h i 0 (by rw [if_pos (by omega)])).mono ?_
  rintro e w' ⟨rfl, rfl⟩
  go_wp2_with fail
  go_ret
  exact ⟨rfl, rfl⟩

def flushSec (s : Sec) : Sec := ⟨s.now, s.now, false⟩
def flushN (l : List Sec) (k : Nat) : List Sec := (l.take k).map flushSec ++ l.drop k
theorem flushN_zero (l : List Sec) : flushN l 0 = l := by simp [flushN]
theorem flushN_all (l : List Sec) : flushN l l.length = l.map flushSec := by simp [flushN]
theorem flushN_length (l : List Sec) (k : Nat) (h : k ≤ l.length) : (flushN l k).length = l.length := by simp [flushN]; omega
theorem flushN_at (l : List Sec) (k : Nat) (s : Sec) (h : l[k]? = some s) : (flushN l k)[k]? = some s := by
  have hlt : k < l.length := (List.getElem?_eq_some_iff.1 h).1
  unfold flushN
  rw [List.getElem?_append_right (by simp; omega)]
  simp only [List.length_map, List.length_take, Nat.min_eq_left (Nat.le_of_lt hlt), Nat.sub_self, List.getElem?_drop, Nat.add_zero]
  exact h
theorem flushN_succ (l : List Sec) (k : Nat) (s : Sec) (h : l[k]? = some s) : flushN l (k + 1) = (flushN l k).set k (flushSec s) := by
  have hlt : k < l.length := (List.getElem?_eq_some_iff.1 h).1
  have e := (List.getElem?_eq_some_iff.1 h).2
  unfold flushN
  rw [List.take_succ_eq_append_getElem hlt, List.map_append, e, List.drop_eq_getElem_cons hlt]
  have hl : (List.map flushSec (List.take k l)).length = k := by simp; omega
  rw [List.set_append, if_neg (by omega), hl, Nat.sub_self, List.set_cons_zero, List.append_assoc]
  rfl
theorem flushN_ok (l : List Sec) (h : ∀ s ∈ l, s.ok) (k : Nat) : ∀ s ∈ flushN l k, s.ok := by
  intro s hs
  rcases List.mem_append.1 hs with hs | hs
  · obtain ⟨t, ht, rfl⟩ := List.mem_map.1 hs
    have := h t (List.mem_of_mem_take ht)
    exact ⟨this.1, this.1, this.2.2.1, this.2.2.1⟩
  · exact h s (List.mem_of_mem_drop hs)
end Go.Proofs.Ytcoaobdijlppgaa
/- The contract of dev.Flush. -/
namespace Go.Proofs.Ytcoaobdijlppgaa
open Go.ChangeShapes Go.WideShapes Go.ChangeAt Go.RowKit
set_option linter.unusedVariables false
set_option linter.unusedSimpArgs false
set_option maxRecDepth 100000

theorem Try.size64 : (Try.prog.info? 83).map (·.size) = some 64 := by kernel_rfl

def FlushS (b sb k : Nat) (v : Value) (cs : List Value) (W : World) : Prop :=
  W.cell? ⟨b, 0, none⟩ = some v ∧ W.rangeAt sb (k * 129) cs ∧ W.there sb (k * 129 + 64) cs.length ∧ W.frozen? ⟨sb, k * 129 + 128, none⟩ = false ∧ ∃ u, W.cell? ⟨sb, k * 129 + 128, none⟩ = some (.bool u)
theorem flush_keep1 {W : World} {b sb k : Nat} {v : Value} {cs : List Value} (hne : b ≠ sb) (hl : cs.length = 64) (h : FlushS b sb k v cs W) : FlushS b sb k v cs (W.setCells sb (k * 129 + 64) cs) := by
  obtain ⟨h1, h2, h3, h4, u, h5⟩ := h
  refine ⟨by rw [World.cell?_setCells_out _ _ _ _ _ (fun e _ => absurd e hne)]; exact h1, World.rangeAt_setCells_apart h2 _ _ _ (.inr (.inl (by omega))), World.there_setCells h3 _ _ _, by rw [World.frozen?_setCells]; exact h4, u, ?_⟩
  rw [World.cell?_setCells_out _ _ _ _ _ (fun _ _ => .inr (by simp; omega))]
  exact h5
theorem flush_keep2 {W : World} {b sb k : Nat} {v : Value} {cs : List Value} (hne : b ≠ sb) (hl : cs.length = 64) (h : FlushS b sb k v cs W) (x : Bool) : FlushS b sb k v cs (W.setCell ⟨sb, k * 129 + 128, none⟩ (.bool x)) := by
  obtain ⟨h1, h2, h3, h4, u, h5⟩ := h
  have e : W.setCell ⟨sb, k * 129 + 128, none⟩ (.bool x) = W.setCells sb (k * 129 + 128) [.bool x] := rfl
  rw [e]
  refine ⟨by rw [World.cell?_setCells_out _ _ _ _ _ (fun e _ => absurd e hne)]; exact h1, World.rangeAt_setCells_apart h2 _ _ _ (.inr (.inl (by omega))), World.there_setCells h3 _ _ _, by rw [World.frozen?_setCells]; exact h4, x, ?_⟩
  exact World.cell?_setCell_same _ _ _ h5
theorem over_lasts (nw ls : List Nat) (a : Bool) (hn : nw.length = 64) (hl : ls.length = 64) : over (secCells ⟨nw, ls, a⟩) 64 (bcs nw) = secCells ⟨nw, nw, a⟩ := by
  have h1 : (bcs nw).length = 64 := by rw [bcs_length, hn]
  have h2 : (bcs nw ++ bcs ls).length = 64 + (bcs nw).length := by rw [List.length_append, bcs_length ls, hl]; omega
  unfold secCells over
  show List.take 64 (bcs nw ++ (bcs ls ++ [Value.bool a])) ++ (bcs nw ++ List.drop (64 + (bcs nw).length) (bcs nw ++ (bcs ls ++ [Value.bool a]))) = bcs nw ++ (bcs nw ++ [Value.bool a])
  rw [List.take_left' h1, ← List.append_assoc (bcs nw) (bcs ls), List.drop_left' h2]
set_option maxHeartbeats 1000000 in
theorem Flush_any {w : World} {b sb : Nat} {l : List Sec} {c : Nat} (h : IsDev w b sb l c) (hc : c < 1099511627776) :
    Calls Try.prog 46 #[.pointer (some ⟨b, 0, none⟩)] w fun e w' => e = .returned (.int .i64 0) ∧ IsDev w' b sb (l.map flushSec) (c + 1) ∧ Keep [b, sb] w w' := by
  have g0 := h.dev.cell 0
  simp only [List.getElem?_cons_zero] at g0
  have hmx := h.max
  go_enter Try.func46, Try.ntmps46
  go_wp2_with fail
  go_loopg [11] l.length (fun g i wr => ∃ k : Nat, g = l.length - k ∧ k ≤ l.length ∧ i = .int .i64 k ∧ Blk wr sb (devCells (flushN l k)) 85 ∧ Keep [sb] w wr)
  case atStart => exact ⟨0, rfl, by omega, rfl, by rw [flushN_zero]; exact h.secs, Keep.refl _ _⟩
  case round =>
    obtain ⟨k, hg, hk, rfl, hB, hK⟩ := hrel
    have HG := Lib.hid hg
    clear hg
    have hD := h.dev.keep hK (by simpa using h.ne)
    have f0 := hD.cell 0
    simp only [List.getElem?_cons_zero] at f0
    by_cases hlt : k < l.length
    · obtain ⟨s, hs, hsm⟩ := sec_mem hlt
      have hok := h.ok s hsm
      have q0 : (k : Int) < l.length := by omega
      have hfs := flushN_at l k s hs
      have hfo := flushN_ok l h.ok k
      have hr := hB.range (k * 129) 64
      have e1 := devCells_range hfo k s hfs 0 64 (by omega)
      rw [Nat.add_zero] at e1
      rw [e1] at hr
      have e2 : ((secCells s).drop 0).take 64 = bcs s.now := by
        unfold secCells
        rw [List.drop_zero, List.take_append_of_le_length (by simp; have := hok.1; omega), List.take_of_length_le (by simp; have := hok.1; omega)]
      rw [e2] at hr
      have hdl := devCells_length hfo
      rw [flushN_length l k hk] at hdl
      have hl64 : (bcs s.now).length = 64 := by rw [bcs_length, hok.1]
      have t1 := hB.there (k * 129 + 64) (bcs s.now).length (by omega)
      have hne := h.ne
      have r2 := devCells_range hfo k s hfs 128 1 (by omega)
      have t2 : wr.cell? ⟨sb, k * 129 + 128, none⟩ = some (.bool s.loose) := by
        rw [hB.cell]
        have h3 := congrArg (fun x : List Value => x[0]?) r2
        simp only [List.getElem?_take, List.getElem?_drop, Nat.zero_lt_one, if_true, Nat.add_zero] at h3
        rw [h3]
        unfold secCells
        have h1 := hok.1
        have h2 := hok.2.1
        rw [List.getElem?_append_right (by simp; omega), List.getElem?_append_right (by simp; omega)]
        simp [h1, h2]
      have t3 := hB.free (k * 129 + 128)
      have hu := Try.underlying83
      have hi64 : (Try.prog.info? 83).map (·.size) = some (bcs s.now).length := by rw [Try.size64, bcs_length, hok.1]
      have h1c := bcs_one s.now
      have u1 : (wr.drew.setCells sb (k * 129 + 64) (bcs s.now)).cell? ⟨sb, k * 129 + 128, none⟩ = some (.bool s.loose) := by
        rw [World.cell?_setCells_out _ _ _ _ _ (fun _ _ => .inr (by have := hok.1; simp; omega))]; exact t2
      have u2 : (wr.drew.setCells sb (k * 129 + 64) (bcs s.now)).frozen? ⟨sb, k * 129 + 128, none⟩ = false := by
        rw [World.frozen?_setCells]; exact t3
      have S0 : FlushS b sb k (.slice (some ⟨sb, 0, none⟩) l.length l.length) (bcs s.now) wr.drew := ⟨f0, hr, t1, t3, _, t2⟩
      have S1 := flush_keep1 hne hl64 S0
      have S2 := flush_keep2 hne hl64 S1 false
      go_wp2_with fail
      go_region_held3 (fun w' => w'.cell? ⟨b, 0, none⟩ = some (.slice (some ⟨sb, 0, none⟩) l.length l.length) ∧ w'.rangeAt sb (k * 129) (bcs s.now) ∧ w'.there sb (k * 129 + 64) (bcs s.now).length ∧ w'.frozen? ⟨sb, k * 129 + 128, none⟩ = false ∧ ∃ u, w'.cell? ⟨sb, k * 129 + 128, none⟩ = some (.bool u)) (first | exact S0 | exact S1 | exact S2) (fail)
      go_wp2_with fail
      go_roundg (l.length - (k + 1))
      case measure => rw [HG.out]; omega
      case rel =>
        refine ⟨k + 1, rfl, by omega, by go_num, ?_, (Keep.setCells _ _ _ _ hK.drew (.inl (by simp))).setCell (.inl (by simp)) _⟩
        have ok1 : (⟨s.now, s.now, s.loose⟩ : Sec).ok := ⟨hok.1, hok.1, hok.2.2.1, hok.2.2.1⟩
        have ok2 : (flushSec s).ok := ⟨hok.1, hok.1, hok.2.2.1, hok.2.2.1⟩
        have ov : over (secCells s) 64 (bcs s.now) = secCells ⟨s.now, s.now, s.loose⟩ := over_lasts s.now s.lasts s.loose hok.1 hok.2.1
        have e3 := devCells_over hfo k s _ hfs ok1 64 (bcs s.now) (by omega) ov
        have hs1 : ((flushN l k).set k ⟨s.now, s.now, s.loose⟩)[k]? = some ⟨s.now, s.now, s.loose⟩ := by
          rw [List.getElem?_set]; simp [flushN_length l k hk, hlt]
        have hfo2 := mem_set_ok hfo k _ ok1
        have e4 := devCells_over hfo2 k _ (flushSec s) hs1 ok2 128 [.bool false] (by simp) (over_loose _ hok.1 hok.1 _ _)
        have hdl2 := devCells_length hfo2
        rw [List.length_set, flushN_length l k hk] at hdl2
        rw [List.set_set, ← flushN_succ l k s hs, ← set_over _ _ _ (by omega)] at e4
        have hB1 := (hB.drew).setCells (bcs s.now) (k * 129 + 64) wr.drew _ (by omega)
        rw [e3] at hB1
        rw [← e4]
        exact hB1.set _ _
    · obtain rfl : k = l.length := by omega
      rw [flushN_all] at hB
      have f1 := hD.cell 1
      have f2 := hD.free 1
      simp only [List.getElem?_cons_succ, List.getElem?_cons_zero] at f1
      have hne := h.ne
      have hfl : ∀ s ∈ l.map flushSec, s.ok := by
        intro s hs
        obtain ⟨t, ht, rfl⟩ := List.mem_map.1 hs
        have := h.ok t ht
        exact ⟨this.1, this.1, this.2.2.1, this.2.2.1⟩
      go_wp2_with fail
      go_ret
      refine ⟨rfl, ⟨?_, hB.other (by simpa using hne.symm) _, hne, hfl, by simpa using h.pos, by simpa using h.max, by omega⟩, (hK.mono (by simp)).setCell (by simp) _⟩
      rw [List.length_map]
      exact hD.set 1 _
end Go.Proofs.Ytcoaobdijlppgaa
/- The places of loose sectors. -/
namespace Go.Proofs.Ytcoaobdijlppgaa
open Go.ChangeShapes Go.WideShapes Go.ChangeAt Go.RowKit
set_option linter.unusedVariables false
set_option linter.unusedSimpArgs false
set_option maxRecDepth 100000

theorem IsDev.loose {w : World} {b sb : Nat} {l : List Sec} {c : Nat} (h : IsDev w b sb l c) (k : Nat) (s : Sec) (hs : l[k]? = some s) : w.cell? ⟨sb, k * 129 + 128, none⟩ = some (.bool s.loose) := by
  have hok := h.ok s (List.mem_of_getElem? hs)
  have r2 := devCells_range h.ok k s hs 128 1 (by omega)
  rw [h.secs.cell]
  have h3 := congrArg (fun x : List Value => x[0]?) r2
  simp only [List.getElem?_take, List.getElem?_drop, Nat.zero_lt_one, if_true, Nat.add_zero] at h3
  rw [h3]
  unfold secCells
  have h1 := hok.1
  have h2 := hok.2.1
  rw [List.getElem?_append_right (by simp; omega), List.getElem?_append_right (by simp; omega)]
  simp [h1, h2]

/-- The places ahead of k where the list says yes. -/
def looseN (bs : List Bool) (k : Nat) : List Int := ((List.range k).filter fun i => bs.getD i false).map fun (i : Nat) => (i : Int)
theorem looseN_succ (bs : List Bool) (k : Nat) : looseN bs (k + 1) = looseN bs k ++ if bs.getD k false then [(k : Int)] else [] := by
  unfold looseN
  rw [List.range_succ, List.filter_append, List.map_append]
  congr 1
  cases hb : bs.getD k false <;> simp only [List.filter_cons, hb, List.filter_nil] <;> rfl
theorem looseN_len (bs : List Bool) (k : Nat) : (looseN bs k).length ≤ k := by
  unfold looseN
  have := List.length_filter_le (fun i => bs.getD i false) (List.range k)
  simp at this ⊢; omega
theorem loose_new {P : Program} {t e : TypeId} (ht : P.underlying t = some (.slice e)) (w : World) (X : Int) (T : TypeId) :
    Src P 1 t (.slice (some ⟨w.heap.size, 0, none⟩) 1 1) 1 (ints [X]) (w.alloc (.cells #[.int .i64 X] T)) := by
  refine Src.ofSlice _ ht ⟨w.heap.size, 0, none⟩ 1 1 (ints [X]) rfl ?_ (ints_one _)
  intro j u hu
  match j, hu with
  | 0, hu => simp [ints] at hu; subst hu; simp [Addr.add]
  | j + 1, hu => simp [ints] at hu
end Go.Proofs.Ytcoaobdijlppgaa
