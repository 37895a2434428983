/- Package meta: Make, Meta, Save. -/
import Derived.Test.YtnnaleoigiaboaaMeta
namespace Go.Proofs.Ytnnaleoigiaboaa
open Go.ChangeShapes Go.WideShapes Go.ChangeAt Go.RowKit
set_option linter.unusedVariables false
set_option linter.unusedSimpArgs false

/-- A Keeper over a Super, with what it keeps. -/
def IsKep (w : World) (k s d at_ turn slot : Nat) (b e r : Int) (f : Bool) : Prop :=
  Blk w k [.pointer (some ⟨s, 0, none⟩), .int .i64 b, .int .i64 e, .int .i64 r, .bool f] 78 ∧ IsSup w s d at_ turn (meText b e r f) slot
theorem IsKep.keep {w w' : World} {k s d at_ turn slot : Nat} {b e r : Int} {f : Bool} {S : List Nat} (h : IsKep w k s d at_ turn slot b e r f) (hk : Keep S w w') (h1 : k ∉ S) (h2 : s ∉ S) (hS : ∀ x ∈ S, ¬ Ty w x 5) : IsKep w' k s d at_ turn slot b e r f :=
  ⟨h.1.keep hk h1, h.2.keep hk h2 hS⟩
theorem run_zeroMeta (W : World) : (Instr.build 52 #[]).run Try.prog W = .ok (meV 0 0 0 false) W := run_build W _ _ _ (by kernel_rfl)
theorem meText_zero : (meText 0 0 0 false).length ≤ 40 := meText_len (by intro n hn; simp at hn; subst hn; exact ⟨by omega, by omega⟩)
theorem meText_byte (b e r : Int) (f : Bool) : ∀ c ∈ meText b e r f, c < 256 := putAll_byte _
theorem meMay_i64 {b e r : Int} {f : Bool} (h : true = meMay b e r f) : ∀ n ∈ [b, e, r], I64 n := by
  have h := h.symm
  unfold meMay at h
  simp only [Bool.and_eq_true, meIn_iff] at h
  intro n hn
  simp only [List.mem_cons, List.not_mem_nil, or_false] at hn
  rcases hn with rfl | rfl | rfl
  · exact ⟨by omega, by omega⟩
  · exact ⟨by omega, by omega⟩
  · exact ⟨by omega, by omega⟩
set_option maxRecDepth 100000 in
set_option maxHeartbeats 4000000 in
theorem meMake_in {w : World} {d sb : Nat} {L : List Sec} {c : Nat} (hd : IsDev w d sb L c) (at_ : Nat) (hat : at_ + 1 < L.length) (hc : c + 5 ≤ 1099511627776) :
    Calls Try.prog 26 #[.pointer (some ⟨d, 0, none⟩), .int .i64 at_] w fun x w' => ∃ k s, x = .returned (.tuple #[.pointer (some ⟨k, 0, none⟩), .int .i64 0]) ∧
      IsDev w' d sb (((L.map flushSec).set (at_ + 1) zeroSec).set at_ ⟨sImg 1 (meText 0 0 0 false), sImg 1 (meText 0 0 0 false), false⟩) (c + 5) ∧ IsKep w' k s d at_ 1 0 0 0 0 false ∧ Keep [d, sb] w w' ∧ w.heap.size ≤ k ∧ w.heap.size ≤ s := by
  have hzm := run_zeroMeta
  have hdl := hd.dev.lt
  have hsl := hd.secs.lt
  go_enter Try.func26, Try.ntmps26
  go_wp2_with fail
  refine (meText_any 0 0 0 false (by intro n hn; simp at hn; subst hn; exact ⟨by omega, by omega⟩)).mono ?_
  rintro x w1 ⟨v, rfl, hb1, k1⟩
  have hd1 := hd.keep k1 (by simp) (by simp)
  have hz1 := k1.size
  go_wp2_with fail
  refine (Make_in hd1 at_ hat v (meText 0 0 0 false) hb1.rd (meText_byte _ _ _ _) meText_zero hc (fun q hq _ => by have := hb1.lt q hq; omega)).mono ?_
  rintro x w2 ⟨s, rfl, hd2, hs2, k2, hsz⟩
  have K2 : Keep [d, sb] w w2 := (k1.mono (by simp)).trans k2
  have hz2 := k2.size
  have hssl := hs2.lt
  clear hd hd1 hb1 k1
  go_wp2_with fail
  go_ret2
  refine ⟨w2.heap.size, s, rfl, hd2.keep ((Keep.refl [] _).alloc _) (by simp) (by simp), ⟨Blk.new _ _ _, hs2.keep ((Keep.refl [] _).alloc _) (by simp) (by simp)⟩, K2.alloc _, by omega, by omega⟩
theorem meMake_out {w : World} {d sb : Nat} {L : List Sec} {c : Nat} (hd : IsDev w d sb L c) (at_ : Int) (hat : at_ < 0 ∨ (L.length : Int) ≤ at_ + 1) :
    Calls Try.prog 26 #[.pointer (some ⟨d, 0, none⟩), .int .i64 at_] w fun x w' => x = .returned (.tuple #[.pointer none, .int .i64 4]) ∧ Keep [] w w' := by
  have hzm := run_zeroMeta
  go_enter Try.func26, Try.ntmps26
  go_wp2_with fail
  refine (meText_any 0 0 0 false (by intro n hn; simp at hn; subst hn; exact ⟨by omega, by omega⟩)).mono ?_
  rintro x w1 ⟨v, rfl, hb1, k1⟩
  have hd1 := hd.keep k1 (by simp) (by simp)
  go_wp2_with fail
  refine (Make_out hd1 at_ hat v).mono ?_
  rintro x w2 ⟨rfl, rfl⟩
  go_wp2_with fail
  go_ret2
  exact ⟨rfl, k1⟩
set_option maxHeartbeats 4000000 in
theorem meMeta_any {w : World} {k s d at_ turn slot : Nat} {b e r : Int} {f : Bool} (hk : IsKep w k s d at_ turn slot b e r f) :
    Calls Try.prog 32 #[.pointer (some ⟨k, 0, none⟩)] w fun x w' => x = .returned (meV b e r f) ∧ Keep [] w w' := by
  obtain ⟨hB, _⟩ := hk
  go_enter Try.func32, Try.ntmps32
  have c1 := (hB.alloc (.cells (meC 0 0 0 false).toArray 52)).cell 1
  have c2 := (hB.alloc (.cells (meC 0 0 0 false).toArray 52)).cell 2
  have c3 := (hB.alloc (.cells (meC 0 0 0 false).toArray 52)).cell 3
  have c4 := (hB.alloc (.cells (meC 0 0 0 false).toArray 52)).cell 4
  have hR := Blk.new w (meC 0 0 0 false) 52
  simp only [List.getElem?_cons_zero, List.getElem?_cons_succ] at c1 c2 c3 c4
  unfold meC at c1 c2 c3 c4
  have hlow := hB.lt
  go_wp2_with fail
  have hB5 := Blk.new w (meC b e r f) 52
  have hKK := (Keep.refl [] w).alloc (.cells (meC b e r f).toArray 52)
  change bodyPost _ _ _ _ _ (w.alloc (.cells (meC b e r f).toArray 52))
  generalize w.alloc (.cells (meC b e r f).toArray 52) = w5 at *
  refine bodyPost_ret (v := meV b e r f) ?_ rfl ⟨rfl, hKK⟩
  have d0 := hB5.cell 0
  have d1 := hB5.cell 1
  have d2 := hB5.cell 2
  have d3 := hB5.cell 3
  simp only [meC, List.getElem?_cons_zero, List.getElem?_cons_succ] at d0 d1 d2 d3
  simp [results, Try.results32, go_sem, d0, d1, d2, d3]
def svA (w0 : World) (xb k s : Nat) (b e r : Int) (f : Bool) (b0 e0 r0 : Int) (f0 : Bool) (l : Nat → Bool) (x : Nat → Value) (w' : World) : Prop :=
  (Blk w' xb (meC b e r f) 52) ∧
  (Blk w' k [.pointer (some ⟨s, 0, none⟩), .int .i64 b0, .int .i64 e0, .int .i64 r0, .bool f0] 78) ∧
  (Keep [] w0 w') ∧
  (l 0 = true → x 0 = meV b e r f) ∧
  (l 1 = true → x 1 = .bool false) ∧
  (l 2 = true → x 2 = .bool true) ∧
  (l 3 = true → x 3 = .bool true) ∧
  (l 12 = true → x 12 = .bool true) ∧
  (l 13 = true → x 13 = .bool true) ∧
  (l 22 = true → x 22 = .bool true) ∧
  (l 23 = true → x 23 = .bool true)
def svB (w0 : World) (xb k s : Nat) (b e r : Int) (f : Bool) (b0 e0 r0 : Int) (f0 : Bool) (l : Nat → Bool) (x : Nat → Value) (w' : World) : Prop :=
  (Blk w' xb (meC b e r f) 52) ∧
  (Blk w' k [.pointer (some ⟨s, 0, none⟩), .int .i64 b0, .int .i64 e0, .int .i64 r0, .bool f0] 78) ∧
  (Keep [] w0 w') ∧
  (l 0 = true → x 0 = meV b e r f) ∧
  (l 1 = true → x 1 = .bool true) ∧
  (l 2 = true → x 2 = .bool false) ∧
  (l 3 = true → x 3 = .bool false) ∧
  (l 4 = true → x 4 = .pointer (some ⟨xb, 0, none⟩)) ∧
  (l 5 = true → x 5 = .int .i64 b) ∧
  (l 6 = true → x 6 = .pointer (some ⟨k, 0, none⟩)) ∧
  (l 7 = true → x 7 = .pointer (some ⟨k, 0, none⟩)) ∧
  (l 8 = true → x 8 = .pointer (some ⟨k, 1, none⟩)) ∧
  (l 9 = true → x 9 = .pointer (some ⟨k, 1, none⟩)) ∧
  (l 10 = true → x 10 = .int .i64 b0) ∧
  (l 11 = true → x 11 = .bool true) ∧
  (l 12 = true → x 12 = .bool true) ∧
  (l 13 = true → x 13 = .bool true) ∧
  (l 22 = true → x 22 = .bool true) ∧
  (l 23 = true → x 23 = .bool true)
def svC (w0 : World) (xb k s : Nat) (b e r : Int) (f : Bool) (b0 e0 r0 : Int) (f0 : Bool) (l : Nat → Bool) (x : Nat → Value) (w' : World) : Prop :=
  (Blk w' xb (meC b e r f) 52) ∧
  (Blk w' k [.pointer (some ⟨s, 0, none⟩), .int .i64 b0, .int .i64 e0, .int .i64 r0, .bool f0] 78) ∧
  (Keep [] w0 w') ∧
  (l 0 = true → x 0 = meV b e r f) ∧
  (l 1 = true → x 1 = .bool true) ∧
  (l 2 = true → x 2 = .bool false) ∧
  (l 3 = true → x 3 = .bool false) ∧
  (l 4 = true → x 4 = .pointer (some ⟨xb, 0, none⟩)) ∧
  (l 5 = true → x 5 = .int .i64 b) ∧
  (l 6 = true → x 6 = .pointer (some ⟨k, 0, none⟩)) ∧
  (l 7 = true → x 7 = .pointer (some ⟨k, 0, none⟩)) ∧
  (l 8 = true → x 8 = .pointer (some ⟨k, 1, none⟩)) ∧
  (l 9 = true → x 9 = .pointer (some ⟨k, 1, none⟩)) ∧
  (l 10 = true → x 10 = .int .i64 b0) ∧
  (l 11 = true → x 11 = .bool false) ∧
  (l 12 = true → x 12 = .bool false) ∧
  (l 13 = true → x 13 = .bool false) ∧
  (l 14 = true → x 14 = .pointer (some ⟨xb, 1, none⟩)) ∧
  (l 15 = true → x 15 = .int .i64 e) ∧
  (l 16 = true → x 16 = .pointer (some ⟨k, 0, none⟩)) ∧
  (l 17 = true → x 17 = .pointer (some ⟨k, 0, none⟩)) ∧
  (l 18 = true → x 18 = .pointer (some ⟨k, 1, none⟩)) ∧
  (l 19 = true → x 19 = .pointer (some ⟨k, 2, none⟩)) ∧
  (l 20 = true → x 20 = .int .i64 e0) ∧
  (l 21 = true → x 21 = .bool true) ∧
  (l 22 = true → x 22 = .bool true) ∧
  (l 23 = true → x 23 = .bool true)
def svD (w0 : World) (xb k s : Nat) (b e r : Int) (f : Bool) (b0 e0 r0 : Int) (f0 : Bool) (l : Nat → Bool) (x : Nat → Value) (w' : World) : Prop :=
  (Blk w' xb (meC b e r f) 52) ∧
  (Blk w' k [.pointer (some ⟨s, 0, none⟩), .int .i64 b0, .int .i64 e0, .int .i64 r0, .bool f0] 78) ∧
  (Keep [] w0 w') ∧
  (l 0 = true → x 0 = meV b e r f) ∧
  (l 1 = true → x 1 = .bool true) ∧
  (l 2 = true → x 2 = .bool false) ∧
  (l 3 = true → x 3 = .bool false) ∧
  (l 4 = true → x 4 = .pointer (some ⟨xb, 0, none⟩)) ∧
  (l 5 = true → x 5 = .int .i64 b) ∧
  (l 6 = true → x 6 = .pointer (some ⟨k, 0, none⟩)) ∧
  (l 7 = true → x 7 = .pointer (some ⟨k, 0, none⟩)) ∧
  (l 8 = true → x 8 = .pointer (some ⟨k, 1, none⟩)) ∧
  (l 9 = true → x 9 = .pointer (some ⟨k, 1, none⟩)) ∧
  (l 10 = true → x 10 = .int .i64 b0) ∧
  (l 11 = true → x 11 = .bool false) ∧
  (l 12 = true → x 12 = .bool false) ∧
  (l 13 = true → x 13 = .bool false) ∧
  (l 14 = true → x 14 = .pointer (some ⟨xb, 1, none⟩)) ∧
  (l 15 = true → x 15 = .int .i64 e) ∧
  (l 16 = true → x 16 = .pointer (some ⟨k, 0, none⟩)) ∧
  (l 17 = true → x 17 = .pointer (some ⟨k, 0, none⟩)) ∧
  (l 18 = true → x 18 = .pointer (some ⟨k, 1, none⟩)) ∧
  (l 19 = true → x 19 = .pointer (some ⟨k, 2, none⟩)) ∧
  (l 20 = true → x 20 = .int .i64 e0) ∧
  (l 21 = true → x 21 = .bool false) ∧
  (l 22 = true → x 22 = .bool false) ∧
  (l 23 = true → x 23 = .bool false)

set_option maxRecDepth 100000 in
set_option maxHeartbeats 8000000 in
theorem meSave_bad {w : World} {k s d at_ turn slot : Nat} {b0 e0 r0 : Int} {f0 : Bool} (hk : IsKep w k s d at_ turn slot b0 e0 r0 f0) (b e r : Int) (f : Bool) (hq : ¬ (meMay b e r f = true ∧ b0 ≤ b ∧ e0 ≤ e)) :
    Calls Try.prog 29 #[.pointer (some ⟨k, 0, none⟩), meV b e r f] w fun x w' => x = .returned (.int .i64 1) ∧ Keep [] w w' := by
  obtain ⟨hB, hS⟩ := hk
  go_enter Try.func29, Try.ntmps29
  go_wp2_with fail
  have hX1 := Blk.new w (meC b e r f) 52
  have hB1 := hB.alloc (.cells (meC b e r f).toArray 52)
  have K1 := (Keep.refl [] w).alloc (.cells (meC b e r f).toArray 52)
  obtain ⟨w1, hw1⟩ : ∃ W, W = w.alloc (.cells (meC b e r f).toArray 52) := ⟨_, rfl⟩
  change Code.wp _ _ _ _ (w.alloc (.cells (meC b e r f).toArray 52))
  rw [← hw1] at hX1 hB1 K1 ⊢
  clear hw1
  have hKD := hS
  clear hKD hS hB
  generalize w.heap.size = xb at *
  cases hqq : meMay b e r f
  · have HQ := Lib.hid hqq.symm
    clear hqq hq
    refine wp_region_inv (svA w1 xb k s b e r f b0 e0 r0 f0) (by kernel_rfl) (by kernel_rfl) (by kernel_rfl) ?_ (Steps.cons 0 ?_ (Steps.cons 1 ?_ (Steps.cons 2 ?_ (Steps.cons 3 ?_ (Steps.cons 4 ?_ (Steps.cons 5 ?_ (Steps.cons 6 ?_ (Steps.cons 7 ?_ (Steps.cons 8 ?_ (Steps.cons 9 ?_ (Steps.cons 10 ?_ (Steps.cons 11 ?_ (Steps.cons 12 ?_ (Steps.cons 13 ?_ (Steps.cons 14 ?_ (Steps.cons 15 ?_ (Steps.cons 16 ?_ (Steps.cons 17 ?_ (Steps.cons 18 ?_ (Steps.cons 19 ?_ (Steps.cons 20 ?_ (Steps.cons 21 ?_ (Steps.cons 22 ?_ (Steps.cons 23 ?_ (Steps.nil 24))))))))))))))))))))))))) 24 rfl ?_
    · intro x
      exact ⟨hX1.drew, hB1.drew, (Keep.refl _ _).drew, fun h => absurd h (by decide), fun h => absurd h (by decide), fun h => absurd h (by decide), fun h => absurd h (by decide), fun h => absurd h (by decide), fun h => absurd h (by decide), fun h => absurd h (by decide), fun h => absurd h (by decide)⟩
    · intro l x w' hJ hi hd
      obtain ⟨hX, hB, hK, h0, h1, h2, h3, h12, h13, h22, h23⟩ := hJ
      have c0 := hX.cell 0
      have c1 := hX.cell 1
      have c2 := hX.cell 2
      have c3 := hX.cell 3
      simp only [meC, List.getElem?_cons_zero, List.getElem?_cons_succ] at c0 c1 c2 c3
      refine Runs.of (b := ?bA0) ?eA0 ?_
      case eA0 => simp only [putV, Act.put, List.setIfInBounds_toArray, List.set_cons_zero, List.set_cons_succ]; rfl
      intro K' hK'
      go_simp
      exact hK'.go _ rfl ⟨hX, hB, hK, fun _ => rfl, h1, h2, h3, h12, h13, h22, h23⟩
    · intro l x w' hJ hi hd
      obtain ⟨hX, hB, hK, h0, h1, h2, h3, h12, h13, h22, h23⟩ := hJ
      have e0 := h0 (show l 0 = true by first | exact hd.1 rfl | exact hd.2.1 rfl | exact hd.2.2.1 rfl | exact hd.2.2.2.1 rfl | exact hd.2.2.2.2.1 rfl | exact hd.2.2.2.2.2.1 rfl)
      refine Runs.of (b := ?bA1) ?eA1 ?_
      case eA1 => simp only [putV, Act.put, List.setIfInBounds_toArray, List.set_cons_zero, List.set_cons_succ, e0]; rfl
      intro K' hK'
      go_simp
      refine (meMay_any b e r f _ HQ.out).mono ?_
      rintro x2 w2 ⟨rfl, k2⟩
      go_simp
      exact hK'.go _ rfl ⟨hX.keep k2 (by simp), hB.keep k2 (by simp), hK.trans k2, h0, fun _ => rfl, h2, h3, h12, h13, h22, h23⟩
    · intro l x w' hJ hi hd
      obtain ⟨hX, hB, hK, h0, h1, h2, h3, h12, h13, h22, h23⟩ := hJ
      have e1 := h1 (show l 1 = true by first | exact hd.1 rfl | exact hd.2.1 rfl | exact hd.2.2.1 rfl | exact hd.2.2.2.1 rfl | exact hd.2.2.2.2.1 rfl | exact hd.2.2.2.2.2.1 rfl)
      refine Runs.of (b := ?bA2) ?eA2 ?_
      case eA2 => simp only [putV, Act.put, List.setIfInBounds_toArray, List.set_cons_zero, List.set_cons_succ, e1]; rfl
      intro K' hK'
      go_simp
      exact hK'.go _ rfl ⟨hX, hB, hK, h0, h1, fun _ => rfl, h3, h12, h13, h22, h23⟩
    · intro l x w' hJ hi hd
      obtain ⟨hX, hB, hK, h0, h1, h2, h3, h12, h13, h22, h23⟩ := hJ
      have e2 := h2 (show l 2 = true by first | exact hd.1 rfl | exact hd.2.1 rfl | exact hd.2.2.1 rfl | exact hd.2.2.2.1 rfl | exact hd.2.2.2.2.1 rfl | exact hd.2.2.2.2.2.1 rfl)
      refine Runs.of (b := ?bA3) ?eA3 ?_
      case eA3 => simp only [putV, Act.put, List.setIfInBounds_toArray, List.set_cons_zero, List.set_cons_succ, e2]; rfl
      intro K' hK'
      go_simp
      exact hK'.go _ rfl ⟨hX, hB, hK, h0, h1, h2, fun _ => rfl, h12, h13, h22, h23⟩
    · intro l x w' hJ hi hd
      obtain ⟨hX, hB, hK, h0, h1, h2, h3, h12, h13, h22, h23⟩ := hJ
      have e3 := h3 (show l 3 = true by first | exact hd.1 rfl | exact hd.2.1 rfl | exact hd.2.2.1 rfl | exact hd.2.2.2.1 rfl | exact hd.2.2.2.2.1 rfl | exact hd.2.2.2.2.2.1 rfl)
      refine Runs.of (b := ?bA4) ?eA4 ?_
      case eA4 => simp only [putV, Act.put, List.setIfInBounds_toArray, List.set_cons_zero, List.set_cons_succ, e3]; rfl
      intro K' hK'
      go_simp
      exact hK'.go undef rfl ⟨hX, hB, hK, h0, h1, h2, h3, h12, h13, h22, h23⟩
    · intro l x w' hJ hi hd
      obtain ⟨hX, hB, hK, h0, h1, h2, h3, h12, h13, h22, h23⟩ := hJ
      have e3 := h3 (show l 3 = true by first | exact hd.1 rfl | exact hd.2.1 rfl | exact hd.2.2.1 rfl | exact hd.2.2.2.1 rfl | exact hd.2.2.2.2.1 rfl | exact hd.2.2.2.2.2.1 rfl)
      refine Runs.of (b := ?bA5) ?eA5 ?_
      case eA5 => simp only [putV, Act.put, List.setIfInBounds_toArray, List.set_cons_zero, List.set_cons_succ, e3]; rfl
      intro K' hK'
      go_simp
      exact hK'.go undef rfl ⟨hX, hB, hK, h0, h1, h2, h3, h12, h13, h22, h23⟩
    · intro l x w' hJ hi hd
      obtain ⟨hX, hB, hK, h0, h1, h2, h3, h12, h13, h22, h23⟩ := hJ
      have e3 := h3 (show l 3 = true by first | exact hd.1 rfl | exact hd.2.1 rfl | exact hd.2.2.1 rfl | exact hd.2.2.2.1 rfl | exact hd.2.2.2.2.1 rfl | exact hd.2.2.2.2.2.1 rfl)
      refine Runs.of (b := ?bA6) ?eA6 ?_
      case eA6 => simp only [putV, Act.put, List.setIfInBounds_toArray, List.set_cons_zero, List.set_cons_succ, e3]; rfl
      intro K' hK'
      go_simp
      exact hK'.go undef rfl ⟨hX, hB, hK, h0, h1, h2, h3, h12, h13, h22, h23⟩
    · intro l x w' hJ hi hd
      obtain ⟨hX, hB, hK, h0, h1, h2, h3, h12, h13, h22, h23⟩ := hJ
      have e3 := h3 (show l 3 = true by first | exact hd.1 rfl | exact hd.2.1 rfl | exact hd.2.2.1 rfl | exact hd.2.2.2.1 rfl | exact hd.2.2.2.2.1 rfl | exact hd.2.2.2.2.2.1 rfl)
      refine Runs.of (b := ?bA7) ?eA7 ?_
      case eA7 => simp only [putV, Act.put, List.setIfInBounds_toArray, List.set_cons_zero, List.set_cons_succ, e3]; rfl
      intro K' hK'
      go_simp
      exact hK'.go undef rfl ⟨hX, hB, hK, h0, h1, h2, h3, h12, h13, h22, h23⟩
    · intro l x w' hJ hi hd
      obtain ⟨hX, hB, hK, h0, h1, h2, h3, h12, h13, h22, h23⟩ := hJ
      have e3 := h3 (show l 3 = true by first | exact hd.1 rfl | exact hd.2.1 rfl | exact hd.2.2.1 rfl | exact hd.2.2.2.1 rfl | exact hd.2.2.2.2.1 rfl | exact hd.2.2.2.2.2.1 rfl)
      refine Runs.of (b := ?bA8) ?eA8 ?_
      case eA8 => simp only [putV, Act.put, List.setIfInBounds_toArray, List.set_cons_zero, List.set_cons_succ, e3]; rfl
      intro K' hK'
      go_simp
      exact hK'.go undef rfl ⟨hX, hB, hK, h0, h1, h2, h3, h12, h13, h22, h23⟩
    · intro l x w' hJ hi hd
      obtain ⟨hX, hB, hK, h0, h1, h2, h3, h12, h13, h22, h23⟩ := hJ
      have e3 := h3 (show l 3 = true by first | exact hd.1 rfl | exact hd.2.1 rfl | exact hd.2.2.1 rfl | exact hd.2.2.2.1 rfl | exact hd.2.2.2.2.1 rfl | exact hd.2.2.2.2.2.1 rfl)
      refine Runs.of (b := ?bA9) ?eA9 ?_
      case eA9 => simp only [putV, Act.put, List.setIfInBounds_toArray, List.set_cons_zero, List.set_cons_succ, e3]; rfl
      intro K' hK'
      go_simp
      exact hK'.go undef rfl ⟨hX, hB, hK, h0, h1, h2, h3, h12, h13, h22, h23⟩
    · intro l x w' hJ hi hd
      obtain ⟨hX, hB, hK, h0, h1, h2, h3, h12, h13, h22, h23⟩ := hJ
      have e3 := h3 (show l 3 = true by first | exact hd.1 rfl | exact hd.2.1 rfl | exact hd.2.2.1 rfl | exact hd.2.2.2.1 rfl | exact hd.2.2.2.2.1 rfl | exact hd.2.2.2.2.2.1 rfl)
      refine Runs.of (b := ?bA10) ?eA10 ?_
      case eA10 => simp only [putV, Act.put, List.setIfInBounds_toArray, List.set_cons_zero, List.set_cons_succ, e3]; rfl
      intro K' hK'
      go_simp
      exact hK'.go undef rfl ⟨hX, hB, hK, h0, h1, h2, h3, h12, h13, h22, h23⟩
    · intro l x w' hJ hi hd
      obtain ⟨hX, hB, hK, h0, h1, h2, h3, h12, h13, h22, h23⟩ := hJ
      have e3 := h3 (show l 3 = true by first | exact hd.1 rfl | exact hd.2.1 rfl | exact hd.2.2.1 rfl | exact hd.2.2.2.1 rfl | exact hd.2.2.2.2.1 rfl | exact hd.2.2.2.2.2.1 rfl)
      refine Runs.of (b := ?bA11) ?eA11 ?_
      case eA11 => simp only [putV, Act.put, List.setIfInBounds_toArray, List.set_cons_zero, List.set_cons_succ, e3]; rfl
      intro K' hK'
      go_simp
      exact hK'.go undef rfl ⟨hX, hB, hK, h0, h1, h2, h3, h12, h13, h22, h23⟩
    · intro l x w' hJ hi hd
      obtain ⟨hX, hB, hK, h0, h1, h2, h3, h12, h13, h22, h23⟩ := hJ
      have e3 := h3 (show l 3 = true by first | exact hd.1 rfl | exact hd.2.1 rfl | exact hd.2.2.1 rfl | exact hd.2.2.2.1 rfl | exact hd.2.2.2.2.1 rfl | exact hd.2.2.2.2.2.1 rfl)
      refine Runs.of (b := ?bA12) ?eA12 ?_
      case eA12 => simp only [putV, Act.put, List.setIfInBounds_toArray, List.set_cons_zero, List.set_cons_succ, e3]; rfl
      intro K' hK'
      go_simp
      exact hK'.go _ rfl ⟨hX, hB, hK, h0, h1, h2, h3, fun _ => rfl, h13, h22, h23⟩
    · intro l x w' hJ hi hd
      obtain ⟨hX, hB, hK, h0, h1, h2, h3, h12, h13, h22, h23⟩ := hJ
      have e12 := h12 (show l 12 = true by first | exact hd.1 rfl | exact hd.2.1 rfl | exact hd.2.2.1 rfl | exact hd.2.2.2.1 rfl | exact hd.2.2.2.2.1 rfl | exact hd.2.2.2.2.2.1 rfl)
      refine Runs.of (b := ?bA13) ?eA13 ?_
      case eA13 => simp only [putV, Act.put, List.setIfInBounds_toArray, List.set_cons_zero, List.set_cons_succ, e12]; rfl
      intro K' hK'
      go_simp
      exact hK'.go _ rfl ⟨hX, hB, hK, h0, h1, h2, h3, h12, fun _ => rfl, h22, h23⟩
    · intro l x w' hJ hi hd
      obtain ⟨hX, hB, hK, h0, h1, h2, h3, h12, h13, h22, h23⟩ := hJ
      have e13 := h13 (show l 13 = true by first | exact hd.1 rfl | exact hd.2.1 rfl | exact hd.2.2.1 rfl | exact hd.2.2.2.1 rfl | exact hd.2.2.2.2.1 rfl | exact hd.2.2.2.2.2.1 rfl)
      refine Runs.of (b := ?bA14) ?eA14 ?_
      case eA14 => simp only [putV, Act.put, List.setIfInBounds_toArray, List.set_cons_zero, List.set_cons_succ, e13]; rfl
      intro K' hK'
      go_simp
      exact hK'.go undef rfl ⟨hX, hB, hK, h0, h1, h2, h3, h12, h13, h22, h23⟩
    · intro l x w' hJ hi hd
      obtain ⟨hX, hB, hK, h0, h1, h2, h3, h12, h13, h22, h23⟩ := hJ
      have e13 := h13 (show l 13 = true by first | exact hd.1 rfl | exact hd.2.1 rfl | exact hd.2.2.1 rfl | exact hd.2.2.2.1 rfl | exact hd.2.2.2.2.1 rfl | exact hd.2.2.2.2.2.1 rfl)
      refine Runs.of (b := ?bA15) ?eA15 ?_
      case eA15 => simp only [putV, Act.put, List.setIfInBounds_toArray, List.set_cons_zero, List.set_cons_succ, e13]; rfl
      intro K' hK'
      go_simp
      exact hK'.go undef rfl ⟨hX, hB, hK, h0, h1, h2, h3, h12, h13, h22, h23⟩
    · intro l x w' hJ hi hd
      obtain ⟨hX, hB, hK, h0, h1, h2, h3, h12, h13, h22, h23⟩ := hJ
      have e13 := h13 (show l 13 = true by first | exact hd.1 rfl | exact hd.2.1 rfl | exact hd.2.2.1 rfl | exact hd.2.2.2.1 rfl | exact hd.2.2.2.2.1 rfl | exact hd.2.2.2.2.2.1 rfl)
      refine Runs.of (b := ?bA16) ?eA16 ?_
      case eA16 => simp only [putV, Act.put, List.setIfInBounds_toArray, List.set_cons_zero, List.set_cons_succ, e13]; rfl
      intro K' hK'
      go_simp
      exact hK'.go undef rfl ⟨hX, hB, hK, h0, h1, h2, h3, h12, h13, h22, h23⟩
    · intro l x w' hJ hi hd
      obtain ⟨hX, hB, hK, h0, h1, h2, h3, h12, h13, h22, h23⟩ := hJ
      have e13 := h13 (show l 13 = true by first | exact hd.1 rfl | exact hd.2.1 rfl | exact hd.2.2.1 rfl | exact hd.2.2.2.1 rfl | exact hd.2.2.2.2.1 rfl | exact hd.2.2.2.2.2.1 rfl)
      refine Runs.of (b := ?bA17) ?eA17 ?_
      case eA17 => simp only [putV, Act.put, List.setIfInBounds_toArray, List.set_cons_zero, List.set_cons_succ, e13]; rfl
      intro K' hK'
      go_simp
      exact hK'.go undef rfl ⟨hX, hB, hK, h0, h1, h2, h3, h12, h13, h22, h23⟩
    · intro l x w' hJ hi hd
      obtain ⟨hX, hB, hK, h0, h1, h2, h3, h12, h13, h22, h23⟩ := hJ
      have e13 := h13 (show l 13 = true by first | exact hd.1 rfl | exact hd.2.1 rfl | exact hd.2.2.1 rfl | exact hd.2.2.2.1 rfl | exact hd.2.2.2.2.1 rfl | exact hd.2.2.2.2.2.1 rfl)
      refine Runs.of (b := ?bA18) ?eA18 ?_
      case eA18 => simp only [putV, Act.put, List.setIfInBounds_toArray, List.set_cons_zero, List.set_cons_succ, e13]; rfl
      intro K' hK'
      go_simp
      exact hK'.go undef rfl ⟨hX, hB, hK, h0, h1, h2, h3, h12, h13, h22, h23⟩
    · intro l x w' hJ hi hd
      obtain ⟨hX, hB, hK, h0, h1, h2, h3, h12, h13, h22, h23⟩ := hJ
      have e13 := h13 (show l 13 = true by first | exact hd.1 rfl | exact hd.2.1 rfl | exact hd.2.2.1 rfl | exact hd.2.2.2.1 rfl | exact hd.2.2.2.2.1 rfl | exact hd.2.2.2.2.2.1 rfl)
      refine Runs.of (b := ?bA19) ?eA19 ?_
      case eA19 => simp only [putV, Act.put, List.setIfInBounds_toArray, List.set_cons_zero, List.set_cons_succ, e13]; rfl
      intro K' hK'
      go_simp
      exact hK'.go undef rfl ⟨hX, hB, hK, h0, h1, h2, h3, h12, h13, h22, h23⟩
    · intro l x w' hJ hi hd
      obtain ⟨hX, hB, hK, h0, h1, h2, h3, h12, h13, h22, h23⟩ := hJ
      have e13 := h13 (show l 13 = true by first | exact hd.1 rfl | exact hd.2.1 rfl | exact hd.2.2.1 rfl | exact hd.2.2.2.1 rfl | exact hd.2.2.2.2.1 rfl | exact hd.2.2.2.2.2.1 rfl)
      refine Runs.of (b := ?bA20) ?eA20 ?_
      case eA20 => simp only [putV, Act.put, List.setIfInBounds_toArray, List.set_cons_zero, List.set_cons_succ, e13]; rfl
      intro K' hK'
      go_simp
      exact hK'.go undef rfl ⟨hX, hB, hK, h0, h1, h2, h3, h12, h13, h22, h23⟩
    · intro l x w' hJ hi hd
      obtain ⟨hX, hB, hK, h0, h1, h2, h3, h12, h13, h22, h23⟩ := hJ
      have e13 := h13 (show l 13 = true by first | exact hd.1 rfl | exact hd.2.1 rfl | exact hd.2.2.1 rfl | exact hd.2.2.2.1 rfl | exact hd.2.2.2.2.1 rfl | exact hd.2.2.2.2.2.1 rfl)
      refine Runs.of (b := ?bA21) ?eA21 ?_
      case eA21 => simp only [putV, Act.put, List.setIfInBounds_toArray, List.set_cons_zero, List.set_cons_succ, e13]; rfl
      intro K' hK'
      go_simp
      exact hK'.go undef rfl ⟨hX, hB, hK, h0, h1, h2, h3, h12, h13, h22, h23⟩
    · intro l x w' hJ hi hd
      obtain ⟨hX, hB, hK, h0, h1, h2, h3, h12, h13, h22, h23⟩ := hJ
      have e13 := h13 (show l 13 = true by first | exact hd.1 rfl | exact hd.2.1 rfl | exact hd.2.2.1 rfl | exact hd.2.2.2.1 rfl | exact hd.2.2.2.2.1 rfl | exact hd.2.2.2.2.2.1 rfl)
      refine Runs.of (b := ?bA22) ?eA22 ?_
      case eA22 => simp only [putV, Act.put, List.setIfInBounds_toArray, List.set_cons_zero, List.set_cons_succ, e13]; rfl
      intro K' hK'
      go_simp
      exact hK'.go _ rfl ⟨hX, hB, hK, h0, h1, h2, h3, h12, h13, fun _ => rfl, h23⟩
    · intro l x w' hJ hi hd
      obtain ⟨hX, hB, hK, h0, h1, h2, h3, h12, h13, h22, h23⟩ := hJ
      have e22 := h22 (show l 22 = true by first | exact hd.1 rfl | exact hd.2.1 rfl | exact hd.2.2.1 rfl | exact hd.2.2.2.1 rfl | exact hd.2.2.2.2.1 rfl | exact hd.2.2.2.2.2.1 rfl)
      refine Runs.of (b := ?bA23) ?eA23 ?_
      case eA23 => simp only [putV, Act.put, List.setIfInBounds_toArray, List.set_cons_zero, List.set_cons_succ, e22]; rfl
      intro K' hK'
      go_simp
      exact hK'.go _ rfl ⟨hX, hB, hK, h0, h1, h2, h3, h12, h13, h22, fun _ => rfl⟩
    · intro l x w3 hJ hl
      obtain ⟨hX, hB, hK, h0, h1, h2, h3, h12, h13, h22, h23⟩ := hJ
      have e23 := h23 (hl 23 (by decide))
      simp only [putV, Act.put, List.setIfInBounds_toArray, List.set_cons_zero, List.set_cons_succ, e23]
      have K := K1.trans hK
      clear h0 h1 h2 h3 h12 h13 h22 h23 e23 hl
      go_wp2_with fail
      go_ret
      exact ⟨rfl, K⟩
  have HQ := Lib.hid hqq.symm
  by_cases h1 : b < b0
  · have p1 : decide (b < b0) = true := decide_eq_true h1
    clear hqq hq
    refine wp_region_inv (svB w1 xb k s b e r f b0 e0 r0 f0) (by kernel_rfl) (by kernel_rfl) (by kernel_rfl) ?_ (Steps.cons 0 ?_ (Steps.cons 1 ?_ (Steps.cons 2 ?_ (Steps.cons 3 ?_ (Steps.cons 4 ?_ (Steps.cons 5 ?_ (Steps.cons 6 ?_ (Steps.cons 7 ?_ (Steps.cons 8 ?_ (Steps.cons 9 ?_ (Steps.cons 10 ?_ (Steps.cons 11 ?_ (Steps.cons 12 ?_ (Steps.cons 13 ?_ (Steps.cons 14 ?_ (Steps.cons 15 ?_ (Steps.cons 16 ?_ (Steps.cons 17 ?_ (Steps.cons 18 ?_ (Steps.cons 19 ?_ (Steps.cons 20 ?_ (Steps.cons 21 ?_ (Steps.cons 22 ?_ (Steps.cons 23 ?_ (Steps.nil 24))))))))))))))))))))))))) 24 rfl ?_
    · intro x
      exact ⟨hX1.drew, hB1.drew, (Keep.refl _ _).drew, fun h => absurd h (by decide), fun h => absurd h (by decide), fun h => absurd h (by decide), fun h => absurd h (by decide), fun h => absurd h (by decide), fun h => absurd h (by decide), fun h => absurd h (by decide), fun h => absurd h (by decide), fun h => absurd h (by decide), fun h => absurd h (by decide), fun h => absurd h (by decide), fun h => absurd h (by decide), fun h => absurd h (by decide), fun h => absurd h (by decide), fun h => absurd h (by decide), fun h => absurd h (by decide)⟩
    · intro l x w' hJ hi hd
      obtain ⟨hX, hB, hK, h0, h1, h2, h3, h4, h5, h6, h7, h8, h9, h10, h11, h12, h13, h22, h23⟩ := hJ
      have c0 := hX.cell 0
      have c1 := hX.cell 1
      have c2 := hX.cell 2
      have c3 := hX.cell 3
      simp only [meC, List.getElem?_cons_zero, List.getElem?_cons_succ] at c0 c1 c2 c3
      refine Runs.of (b := ?bB0) ?eB0 ?_
      case eB0 => simp only [putV, Act.put, List.setIfInBounds_toArray, List.set_cons_zero, List.set_cons_succ]; rfl
      intro K' hK'
      go_simp
      exact hK'.go _ rfl ⟨hX, hB, hK, fun _ => rfl, h1, h2, h3, h4, h5, h6, h7, h8, h9, h10, h11, h12, h13, h22, h23⟩
    · intro l x w' hJ hi hd
      obtain ⟨hX, hB, hK, h0, h1, h2, h3, h4, h5, h6, h7, h8, h9, h10, h11, h12, h13, h22, h23⟩ := hJ
      have e0 := h0 (show l 0 = true by first | exact hd.1 rfl | exact hd.2.1 rfl | exact hd.2.2.1 rfl | exact hd.2.2.2.1 rfl | exact hd.2.2.2.2.1 rfl | exact hd.2.2.2.2.2.1 rfl)
      refine Runs.of (b := ?bB1) ?eB1 ?_
      case eB1 => simp only [putV, Act.put, List.setIfInBounds_toArray, List.set_cons_zero, List.set_cons_succ, e0]; rfl
      intro K' hK'
      go_simp
      refine (meMay_any b e r f _ HQ.out).mono ?_
      rintro x2 w2 ⟨rfl, k2⟩
      go_simp
      exact hK'.go _ rfl ⟨hX.keep k2 (by simp), hB.keep k2 (by simp), hK.trans k2, h0, fun _ => rfl, h2, h3, h4, h5, h6, h7, h8, h9, h10, h11, h12, h13, h22, h23⟩
    · intro l x w' hJ hi hd
      obtain ⟨hX, hB, hK, h0, h1, h2, h3, h4, h5, h6, h7, h8, h9, h10, h11, h12, h13, h22, h23⟩ := hJ
      have e1 := h1 (show l 1 = true by first | exact hd.1 rfl | exact hd.2.1 rfl | exact hd.2.2.1 rfl | exact hd.2.2.2.1 rfl | exact hd.2.2.2.2.1 rfl | exact hd.2.2.2.2.2.1 rfl)
      refine Runs.of (b := ?bB2) ?eB2 ?_
      case eB2 => simp only [putV, Act.put, List.setIfInBounds_toArray, List.set_cons_zero, List.set_cons_succ, e1]; rfl
      intro K' hK'
      go_simp
      exact hK'.go _ rfl ⟨hX, hB, hK, h0, h1, fun _ => rfl, h3, h4, h5, h6, h7, h8, h9, h10, h11, h12, h13, h22, h23⟩
    · intro l x w' hJ hi hd
      obtain ⟨hX, hB, hK, h0, h1, h2, h3, h4, h5, h6, h7, h8, h9, h10, h11, h12, h13, h22, h23⟩ := hJ
      have e2 := h2 (show l 2 = true by first | exact hd.1 rfl | exact hd.2.1 rfl | exact hd.2.2.1 rfl | exact hd.2.2.2.1 rfl | exact hd.2.2.2.2.1 rfl | exact hd.2.2.2.2.2.1 rfl)
      refine Runs.of (b := ?bB3) ?eB3 ?_
      case eB3 => simp only [putV, Act.put, List.setIfInBounds_toArray, List.set_cons_zero, List.set_cons_succ, e2]; rfl
      intro K' hK'
      go_simp
      exact hK'.go _ rfl ⟨hX, hB, hK, h0, h1, h2, fun _ => rfl, h4, h5, h6, h7, h8, h9, h10, h11, h12, h13, h22, h23⟩
    · intro l x w' hJ hi hd
      obtain ⟨hX, hB, hK, h0, h1, h2, h3, h4, h5, h6, h7, h8, h9, h10, h11, h12, h13, h22, h23⟩ := hJ
      have e3 := h3 (show l 3 = true by first | exact hd.1 rfl | exact hd.2.1 rfl | exact hd.2.2.1 rfl | exact hd.2.2.2.1 rfl | exact hd.2.2.2.2.1 rfl | exact hd.2.2.2.2.2.1 rfl)
      refine Runs.of (b := ?bB4) ?eB4 ?_
      case eB4 => simp only [putV, Act.put, List.setIfInBounds_toArray, List.set_cons_zero, List.set_cons_succ, e3]; rfl
      intro K' hK'
      go_simp
      exact hK'.go _ rfl ⟨hX, hB, hK, h0, h1, h2, h3, fun _ => rfl, h5, h6, h7, h8, h9, h10, h11, h12, h13, h22, h23⟩
    · intro l x w' hJ hi hd
      obtain ⟨hX, hB, hK, h0, h1, h2, h3, h4, h5, h6, h7, h8, h9, h10, h11, h12, h13, h22, h23⟩ := hJ
      have e3 := h3 (show l 3 = true by first | exact hd.1 rfl | exact hd.2.1 rfl | exact hd.2.2.1 rfl | exact hd.2.2.2.1 rfl | exact hd.2.2.2.2.1 rfl | exact hd.2.2.2.2.2.1 rfl)
      have e4 := h4 (show l 4 = true by first | exact hd.1 rfl | exact hd.2.1 rfl | exact hd.2.2.1 rfl | exact hd.2.2.2.1 rfl | exact hd.2.2.2.2.1 rfl | exact hd.2.2.2.2.2.1 rfl)
      have c := hX.cell 0
      simp only [meC, List.getElem?_cons_zero, List.getElem?_cons_succ] at c
      refine Runs.of (b := ?bB5) ?eB5 ?_
      case eB5 => simp only [putV, Act.put, List.setIfInBounds_toArray, List.set_cons_zero, List.set_cons_succ, e3, e4]; rfl
      intro K' hK'
      go_simp
      exact hK'.go _ rfl ⟨hX, hB, hK, h0, h1, h2, h3, h4, fun _ => rfl, h6, h7, h8, h9, h10, h11, h12, h13, h22, h23⟩
    · intro l x w' hJ hi hd
      obtain ⟨hX, hB, hK, h0, h1, h2, h3, h4, h5, h6, h7, h8, h9, h10, h11, h12, h13, h22, h23⟩ := hJ
      have e3 := h3 (show l 3 = true by first | exact hd.1 rfl | exact hd.2.1 rfl | exact hd.2.2.1 rfl | exact hd.2.2.2.1 rfl | exact hd.2.2.2.2.1 rfl | exact hd.2.2.2.2.2.1 rfl)
      refine Runs.of (b := ?bB6) ?eB6 ?_
      case eB6 => simp only [putV, Act.put, List.setIfInBounds_toArray, List.set_cons_zero, List.set_cons_succ, e3]; rfl
      intro K' hK'
      go_simp
      exact hK'.go _ rfl ⟨hX, hB, hK, h0, h1, h2, h3, h4, h5, fun _ => rfl, h7, h8, h9, h10, h11, h12, h13, h22, h23⟩
    · intro l x w' hJ hi hd
      obtain ⟨hX, hB, hK, h0, h1, h2, h3, h4, h5, h6, h7, h8, h9, h10, h11, h12, h13, h22, h23⟩ := hJ
      have e3 := h3 (show l 3 = true by first | exact hd.1 rfl | exact hd.2.1 rfl | exact hd.2.2.1 rfl | exact hd.2.2.2.1 rfl | exact hd.2.2.2.2.1 rfl | exact hd.2.2.2.2.2.1 rfl)
      have e6 := h6 (show l 6 = true by first | exact hd.1 rfl | exact hd.2.1 rfl | exact hd.2.2.1 rfl | exact hd.2.2.2.1 rfl | exact hd.2.2.2.2.1 rfl | exact hd.2.2.2.2.2.1 rfl)
      refine Runs.of (b := ?bB7) ?eB7 ?_
      case eB7 => simp only [putV, Act.put, List.setIfInBounds_toArray, List.set_cons_zero, List.set_cons_succ, e3, e6]; rfl
      intro K' hK'
      go_simp
      exact hK'.go _ rfl ⟨hX, hB, hK, h0, h1, h2, h3, h4, h5, h6, fun _ => rfl, h8, h9, h10, h11, h12, h13, h22, h23⟩
    · intro l x w' hJ hi hd
      obtain ⟨hX, hB, hK, h0, h1, h2, h3, h4, h5, h6, h7, h8, h9, h10, h11, h12, h13, h22, h23⟩ := hJ
      have e3 := h3 (show l 3 = true by first | exact hd.1 rfl | exact hd.2.1 rfl | exact hd.2.2.1 rfl | exact hd.2.2.2.1 rfl | exact hd.2.2.2.2.1 rfl | exact hd.2.2.2.2.2.1 rfl)
      have e7 := h7 (show l 7 = true by first | exact hd.1 rfl | exact hd.2.1 rfl | exact hd.2.2.1 rfl | exact hd.2.2.2.1 rfl | exact hd.2.2.2.2.1 rfl | exact hd.2.2.2.2.2.1 rfl)
      refine Runs.of (b := ?bB8) ?eB8 ?_
      case eB8 => simp only [putV, Act.put, List.setIfInBounds_toArray, List.set_cons_zero, List.set_cons_succ, e3, e7]; rfl
      intro K' hK'
      go_simp
      exact hK'.go _ rfl ⟨hX, hB, hK, h0, h1, h2, h3, h4, h5, h6, h7, fun _ => rfl, h9, h10, h11, h12, h13, h22, h23⟩
    · intro l x w' hJ hi hd
      obtain ⟨hX, hB, hK, h0, h1, h2, h3, h4, h5, h6, h7, h8, h9, h10, h11, h12, h13, h22, h23⟩ := hJ
      have e3 := h3 (show l 3 = true by first | exact hd.1 rfl | exact hd.2.1 rfl | exact hd.2.2.1 rfl | exact hd.2.2.2.1 rfl | exact hd.2.2.2.2.1 rfl | exact hd.2.2.2.2.2.1 rfl)
      have e8 := h8 (show l 8 = true by first | exact hd.1 rfl | exact hd.2.1 rfl | exact hd.2.2.1 rfl | exact hd.2.2.2.1 rfl | exact hd.2.2.2.2.1 rfl | exact hd.2.2.2.2.2.1 rfl)
      refine Runs.of (b := ?bB9) ?eB9 ?_
      case eB9 => simp only [putV, Act.put, List.setIfInBounds_toArray, List.set_cons_zero, List.set_cons_succ, e3, e8]; rfl
      intro K' hK'
      go_simp
      exact hK'.go _ rfl ⟨hX, hB, hK, h0, h1, h2, h3, h4, h5, h6, h7, h8, fun _ => rfl, h10, h11, h12, h13, h22, h23⟩
    · intro l x w' hJ hi hd
      obtain ⟨hX, hB, hK, h0, h1, h2, h3, h4, h5, h6, h7, h8, h9, h10, h11, h12, h13, h22, h23⟩ := hJ
      have e3 := h3 (show l 3 = true by first | exact hd.1 rfl | exact hd.2.1 rfl | exact hd.2.2.1 rfl | exact hd.2.2.2.1 rfl | exact hd.2.2.2.2.1 rfl | exact hd.2.2.2.2.2.1 rfl)
      have e9 := h9 (show l 9 = true by first | exact hd.1 rfl | exact hd.2.1 rfl | exact hd.2.2.1 rfl | exact hd.2.2.2.1 rfl | exact hd.2.2.2.2.1 rfl | exact hd.2.2.2.2.2.1 rfl)
      have c := hB.cell 1
      simp only [List.getElem?_cons_zero, List.getElem?_cons_succ] at c
      refine Runs.of (b := ?bB10) ?eB10 ?_
      case eB10 => simp only [putV, Act.put, List.setIfInBounds_toArray, List.set_cons_zero, List.set_cons_succ, e3, e9]; rfl
      intro K' hK'
      go_simp
      exact hK'.go _ rfl ⟨hX, hB, hK, h0, h1, h2, h3, h4, h5, h6, h7, h8, h9, fun _ => rfl, h11, h12, h13, h22, h23⟩
    · intro l x w' hJ hi hd
      obtain ⟨hX, hB, hK, h0, h1, h2, h3, h4, h5, h6, h7, h8, h9, h10, h11, h12, h13, h22, h23⟩ := hJ
      have e3 := h3 (show l 3 = true by first | exact hd.1 rfl | exact hd.2.1 rfl | exact hd.2.2.1 rfl | exact hd.2.2.2.1 rfl | exact hd.2.2.2.2.1 rfl | exact hd.2.2.2.2.2.1 rfl)
      have e5 := h5 (show l 5 = true by first | exact hd.1 rfl | exact hd.2.1 rfl | exact hd.2.2.1 rfl | exact hd.2.2.2.1 rfl | exact hd.2.2.2.2.1 rfl | exact hd.2.2.2.2.2.1 rfl)
      have e10 := h10 (show l 10 = true by first | exact hd.1 rfl | exact hd.2.1 rfl | exact hd.2.2.1 rfl | exact hd.2.2.2.1 rfl | exact hd.2.2.2.2.1 rfl | exact hd.2.2.2.2.2.1 rfl)
      refine Runs.of (b := ?bB11) ?eB11 ?_
      case eB11 => simp only [putV, Act.put, List.setIfInBounds_toArray, List.set_cons_zero, List.set_cons_succ, e3, e5, e10]; rfl
      intro K' hK'
      go_simp
      exact hK'.go _ rfl ⟨hX, hB, hK, h0, h1, h2, h3, h4, h5, h6, h7, h8, h9, h10, fun _ => rfl, h12, h13, h22, h23⟩
    · intro l x w' hJ hi hd
      obtain ⟨hX, hB, hK, h0, h1, h2, h3, h4, h5, h6, h7, h8, h9, h10, h11, h12, h13, h22, h23⟩ := hJ
      have e3 := h3 (show l 3 = true by first | exact hd.1 rfl | exact hd.2.1 rfl | exact hd.2.2.1 rfl | exact hd.2.2.2.1 rfl | exact hd.2.2.2.2.1 rfl | exact hd.2.2.2.2.2.1 rfl)
      have e11 := h11 (show l 11 = true by first | exact hd.1 rfl | exact hd.2.1 rfl | exact hd.2.2.1 rfl | exact hd.2.2.2.1 rfl | exact hd.2.2.2.2.1 rfl | exact hd.2.2.2.2.2.1 rfl)
      refine Runs.of (b := ?bB12) ?eB12 ?_
      case eB12 => simp only [putV, Act.put, List.setIfInBounds_toArray, List.set_cons_zero, List.set_cons_succ, e3, e11]; rfl
      intro K' hK'
      go_simp
      exact hK'.go _ rfl ⟨hX, hB, hK, h0, h1, h2, h3, h4, h5, h6, h7, h8, h9, h10, h11, fun _ => rfl, h13, h22, h23⟩
    · intro l x w' hJ hi hd
      obtain ⟨hX, hB, hK, h0, h1, h2, h3, h4, h5, h6, h7, h8, h9, h10, h11, h12, h13, h22, h23⟩ := hJ
      have e12 := h12 (show l 12 = true by first | exact hd.1 rfl | exact hd.2.1 rfl | exact hd.2.2.1 rfl | exact hd.2.2.2.1 rfl | exact hd.2.2.2.2.1 rfl | exact hd.2.2.2.2.2.1 rfl)
      refine Runs.of (b := ?bB13) ?eB13 ?_
      case eB13 => simp only [putV, Act.put, List.setIfInBounds_toArray, List.set_cons_zero, List.set_cons_succ, e12]; rfl
      intro K' hK'
      go_simp
      exact hK'.go _ rfl ⟨hX, hB, hK, h0, h1, h2, h3, h4, h5, h6, h7, h8, h9, h10, h11, h12, fun _ => rfl, h22, h23⟩
    · intro l x w' hJ hi hd
      obtain ⟨hX, hB, hK, h0, h1, h2, h3, h4, h5, h6, h7, h8, h9, h10, h11, h12, h13, h22, h23⟩ := hJ
      have e13 := h13 (show l 13 = true by first | exact hd.1 rfl | exact hd.2.1 rfl | exact hd.2.2.1 rfl | exact hd.2.2.2.1 rfl | exact hd.2.2.2.2.1 rfl | exact hd.2.2.2.2.2.1 rfl)
      refine Runs.of (b := ?bB14) ?eB14 ?_
      case eB14 => simp only [putV, Act.put, List.setIfInBounds_toArray, List.set_cons_zero, List.set_cons_succ, e13]; rfl
      intro K' hK'
      go_simp
      exact hK'.go undef rfl ⟨hX, hB, hK, h0, h1, h2, h3, h4, h5, h6, h7, h8, h9, h10, h11, h12, h13, h22, h23⟩
    · intro l x w' hJ hi hd
      obtain ⟨hX, hB, hK, h0, h1, h2, h3, h4, h5, h6, h7, h8, h9, h10, h11, h12, h13, h22, h23⟩ := hJ
      have e13 := h13 (show l 13 = true by first | exact hd.1 rfl | exact hd.2.1 rfl | exact hd.2.2.1 rfl | exact hd.2.2.2.1 rfl | exact hd.2.2.2.2.1 rfl | exact hd.2.2.2.2.2.1 rfl)
      refine Runs.of (b := ?bB15) ?eB15 ?_
      case eB15 => simp only [putV, Act.put, List.setIfInBounds_toArray, List.set_cons_zero, List.set_cons_succ, e13]; rfl
      intro K' hK'
      go_simp
      exact hK'.go undef rfl ⟨hX, hB, hK, h0, h1, h2, h3, h4, h5, h6, h7, h8, h9, h10, h11, h12, h13, h22, h23⟩
    · intro l x w' hJ hi hd
      obtain ⟨hX, hB, hK, h0, h1, h2, h3, h4, h5, h6, h7, h8, h9, h10, h11, h12, h13, h22, h23⟩ := hJ
      have e13 := h13 (show l 13 = true by first | exact hd.1 rfl | exact hd.2.1 rfl | exact hd.2.2.1 rfl | exact hd.2.2.2.1 rfl | exact hd.2.2.2.2.1 rfl | exact hd.2.2.2.2.2.1 rfl)
      refine Runs.of (b := ?bB16) ?eB16 ?_
      case eB16 => simp only [putV, Act.put, List.setIfInBounds_toArray, List.set_cons_zero, List.set_cons_succ, e13]; rfl
      intro K' hK'
      go_simp
      exact hK'.go undef rfl ⟨hX, hB, hK, h0, h1, h2, h3, h4, h5, h6, h7, h8, h9, h10, h11, h12, h13, h22, h23⟩
    · intro l x w' hJ hi hd
      obtain ⟨hX, hB, hK, h0, h1, h2, h3, h4, h5, h6, h7, h8, h9, h10, h11, h12, h13, h22, h23⟩ := hJ
      have e13 := h13 (show l 13 = true by first | exact hd.1 rfl | exact hd.2.1 rfl | exact hd.2.2.1 rfl | exact hd.2.2.2.1 rfl | exact hd.2.2.2.2.1 rfl | exact hd.2.2.2.2.2.1 rfl)
      refine Runs.of (b := ?bB17) ?eB17 ?_
      case eB17 => simp only [putV, Act.put, List.setIfInBounds_toArray, List.set_cons_zero, List.set_cons_succ, e13]; rfl
      intro K' hK'
      go_simp
      exact hK'.go undef rfl ⟨hX, hB, hK, h0, h1, h2, h3, h4, h5, h6, h7, h8, h9, h10, h11, h12, h13, h22, h23⟩
    · intro l x w' hJ hi hd
      obtain ⟨hX, hB, hK, h0, h1, h2, h3, h4, h5, h6, h7, h8, h9, h10, h11, h12, h13, h22, h23⟩ := hJ
      have e13 := h13 (show l 13 = true by first | exact hd.1 rfl | exact hd.2.1 rfl | exact hd.2.2.1 rfl | exact hd.2.2.2.1 rfl | exact hd.2.2.2.2.1 rfl | exact hd.2.2.2.2.2.1 rfl)
      refine Runs.of (b := ?bB18) ?eB18 ?_
      case eB18 => simp only [putV, Act.put, List.setIfInBounds_toArray, List.set_cons_zero, List.set_cons_succ, e13]; rfl
      intro K' hK'
      go_simp
      exact hK'.go undef rfl ⟨hX, hB, hK, h0, h1, h2, h3, h4, h5, h6, h7, h8, h9, h10, h11, h12, h13, h22, h23⟩
    · intro l x w' hJ hi hd
      obtain ⟨hX, hB, hK, h0, h1, h2, h3, h4, h5, h6, h7, h8, h9, h10, h11, h12, h13, h22, h23⟩ := hJ
      have e13 := h13 (show l 13 = true by first | exact hd.1 rfl | exact hd.2.1 rfl | exact hd.2.2.1 rfl | exact hd.2.2.2.1 rfl | exact hd.2.2.2.2.1 rfl | exact hd.2.2.2.2.2.1 rfl)
      refine Runs.of (b := ?bB19) ?eB19 ?_
      case eB19 => simp only [putV, Act.put, List.setIfInBounds_toArray, List.set_cons_zero, List.set_cons_succ, e13]; rfl
      intro K' hK'
      go_simp
      exact hK'.go undef rfl ⟨hX, hB, hK, h0, h1, h2, h3, h4, h5, h6, h7, h8, h9, h10, h11, h12, h13, h22, h23⟩
    · intro l x w' hJ hi hd
      obtain ⟨hX, hB, hK, h0, h1, h2, h3, h4, h5, h6, h7, h8, h9, h10, h11, h12, h13, h22, h23⟩ := hJ
      have e13 := h13 (show l 13 = true by first | exact hd.1 rfl | exact hd.2.1 rfl | exact hd.2.2.1 rfl | exact hd.2.2.2.1 rfl | exact hd.2.2.2.2.1 rfl | exact hd.2.2.2.2.2.1 rfl)
      refine Runs.of (b := ?bB20) ?eB20 ?_
      case eB20 => simp only [putV, Act.put, List.setIfInBounds_toArray, List.set_cons_zero, List.set_cons_succ, e13]; rfl
      intro K' hK'
      go_simp
      exact hK'.go undef rfl ⟨hX, hB, hK, h0, h1, h2, h3, h4, h5, h6, h7, h8, h9, h10, h11, h12, h13, h22, h23⟩
    · intro l x w' hJ hi hd
      obtain ⟨hX, hB, hK, h0, h1, h2, h3, h4, h5, h6, h7, h8, h9, h10, h11, h12, h13, h22, h23⟩ := hJ
      have e13 := h13 (show l 13 = true by first | exact hd.1 rfl | exact hd.2.1 rfl | exact hd.2.2.1 rfl | exact hd.2.2.2.1 rfl | exact hd.2.2.2.2.1 rfl | exact hd.2.2.2.2.2.1 rfl)
      refine Runs.of (b := ?bB21) ?eB21 ?_
      case eB21 => simp only [putV, Act.put, List.setIfInBounds_toArray, List.set_cons_zero, List.set_cons_succ, e13]; rfl
      intro K' hK'
      go_simp
      exact hK'.go undef rfl ⟨hX, hB, hK, h0, h1, h2, h3, h4, h5, h6, h7, h8, h9, h10, h11, h12, h13, h22, h23⟩
    · intro l x w' hJ hi hd
      obtain ⟨hX, hB, hK, h0, h1, h2, h3, h4, h5, h6, h7, h8, h9, h10, h11, h12, h13, h22, h23⟩ := hJ
      have e13 := h13 (show l 13 = true by first | exact hd.1 rfl | exact hd.2.1 rfl | exact hd.2.2.1 rfl | exact hd.2.2.2.1 rfl | exact hd.2.2.2.2.1 rfl | exact hd.2.2.2.2.2.1 rfl)
      refine Runs.of (b := ?bB22) ?eB22 ?_
      case eB22 => simp only [putV, Act.put, List.setIfInBounds_toArray, List.set_cons_zero, List.set_cons_succ, e13]; rfl
      intro K' hK'
      go_simp
      exact hK'.go _ rfl ⟨hX, hB, hK, h0, h1, h2, h3, h4, h5, h6, h7, h8, h9, h10, h11, h12, h13, fun _ => rfl, h23⟩
    · intro l x w' hJ hi hd
      obtain ⟨hX, hB, hK, h0, h1, h2, h3, h4, h5, h6, h7, h8, h9, h10, h11, h12, h13, h22, h23⟩ := hJ
      have e22 := h22 (show l 22 = true by first | exact hd.1 rfl | exact hd.2.1 rfl | exact hd.2.2.1 rfl | exact hd.2.2.2.1 rfl | exact hd.2.2.2.2.1 rfl | exact hd.2.2.2.2.2.1 rfl)
      refine Runs.of (b := ?bB23) ?eB23 ?_
      case eB23 => simp only [putV, Act.put, List.setIfInBounds_toArray, List.set_cons_zero, List.set_cons_succ, e22]; rfl
      intro K' hK'
      go_simp
      exact hK'.go _ rfl ⟨hX, hB, hK, h0, h1, h2, h3, h4, h5, h6, h7, h8, h9, h10, h11, h12, h13, h22, fun _ => rfl⟩
    · intro l x w3 hJ hl
      obtain ⟨hX, hB, hK, h0, h1, h2, h3, h4, h5, h6, h7, h8, h9, h10, h11, h12, h13, h22, h23⟩ := hJ
      have e23 := h23 (hl 23 (by decide))
      simp only [putV, Act.put, List.setIfInBounds_toArray, List.set_cons_zero, List.set_cons_succ, e23]
      have K := K1.trans hK
      clear h0 h1 h2 h3 h4 h5 h6 h7 h8 h9 h10 h11 h12 h13 h22 h23 e23 hl
      go_wp2_with fail
      go_ret
      exact ⟨rfl, K⟩
  have h2 : e < e0 := by
    by_cases h : e < e0
    · exact h
    · exact absurd ⟨hqq, by omega, by omega⟩ hq
  have p1 : decide (b < b0) = false := decide_eq_false h1
  have p2 : decide (e < e0) = true := decide_eq_true h2
  clear hqq hq
  refine wp_region_inv (svC w1 xb k s b e r f b0 e0 r0 f0) (by kernel_rfl) (by kernel_rfl) (by kernel_rfl) ?_ (Steps.cons 0 ?_ (Steps.cons 1 ?_ (Steps.cons 2 ?_ (Steps.cons 3 ?_ (Steps.cons 4 ?_ (Steps.cons 5 ?_ (Steps.cons 6 ?_ (Steps.cons 7 ?_ (Steps.cons 8 ?_ (Steps.cons 9 ?_ (Steps.cons 10 ?_ (Steps.cons 11 ?_ (Steps.cons 12 ?_ (Steps.cons 13 ?_ (Steps.cons 14 ?_ (Steps.cons 15 ?_ (Steps.cons 16 ?_ (Steps.cons 17 ?_ (Steps.cons 18 ?_ (Steps.cons 19 ?_ (Steps.cons 20 ?_ (Steps.cons 21 ?_ (Steps.cons 22 ?_ (Steps.cons 23 ?_ (Steps.nil 24))))))))))))))))))))))))) 24 rfl ?_
  · intro x
    exact ⟨hX1.drew, hB1.drew, (Keep.refl _ _).drew, fun h => absurd h (by decide), fun h => absurd h (by decide), fun h => absurd h (by decide), fun h => absurd h (by decide), fun h => absurd h (by decide), fun h => absurd h (by decide), fun h => absurd h (by decide), fun h => absurd h (by decide), fun h => absurd h (by decide), fun h => absurd h (by decide), fun h => absurd h (by decide), fun h => absurd h (by decide), fun h => absurd h (by decide), fun h => absurd h (by decide), fun h => absurd h (by decide), fun h => absurd h (by decide), fun h => absurd h (by decide), fun h => absurd h (by decide), fun h => absurd h (by decide), fun h => absurd h (by decide), fun h => absurd h (by decide), fun h => absurd h (by decide), fun h => absurd h (by decide), fun h => absurd h (by decide)⟩
  · intro l x w' hJ hi hd
    obtain ⟨hX, hB, hK, h0, h1, h2, h3, h4, h5, h6, h7, h8, h9, h10, h11, h12, h13, h14, h15, h16, h17, h18, h19, h20, h21, h22, h23⟩ := hJ
    have c0 := hX.cell 0
    have c1 := hX.cell 1
    have c2 := hX.cell 2
    have c3 := hX.cell 3
    simp only [meC, List.getElem?_cons_zero, List.getElem?_cons_succ] at c0 c1 c2 c3
    refine Runs.of (b := ?bC0) ?eC0 ?_
    case eC0 => simp only [putV, Act.put, List.setIfInBounds_toArray, List.set_cons_zero, List.set_cons_succ]; rfl
    intro K' hK'
    go_simp
    exact hK'.go _ rfl ⟨hX, hB, hK, fun _ => rfl, h1, h2, h3, h4, h5, h6, h7, h8, h9, h10, h11, h12, h13, h14, h15, h16, h17, h18, h19, h20, h21, h22, h23⟩
  · intro l x w' hJ hi hd
    obtain ⟨hX, hB, hK, h0, h1, h2, h3, h4, h5, h6, h7, h8, h9, h10, h11, h12, h13, h14, h15, h16, h17, h18, h19, h20, h21, h22, h23⟩ := hJ
    have e0 := h0 (show l 0 = true by first | exact hd.1 rfl | exact hd.2.1 rfl | exact hd.2.2.1 rfl | exact hd.2.2.2.1 rfl | exact hd.2.2.2.2.1 rfl | exact hd.2.2.2.2.2.1 rfl)
    refine Runs.of (b := ?bC1) ?eC1 ?_
    case eC1 => simp only [putV, Act.put, List.setIfInBounds_toArray, List.set_cons_zero, List.set_cons_succ, e0]; rfl
    intro K' hK'
    go_simp
    refine (meMay_any b e r f _ HQ.out).mono ?_
    rintro x2 w2 ⟨rfl, k2⟩
    go_simp
    exact hK'.go _ rfl ⟨hX.keep k2 (by simp), hB.keep k2 (by simp), hK.trans k2, h0, fun _ => rfl, h2, h3, h4, h5, h6, h7, h8, h9, h10, h11, h12, h13, h14, h15, h16, h17, h18, h19, h20, h21, h22, h23⟩
  · intro l x w' hJ hi hd
    obtain ⟨hX, hB, hK, h0, h1, h2, h3, h4, h5, h6, h7, h8, h9, h10, h11, h12, h13, h14, h15, h16, h17, h18, h19, h20, h21, h22, h23⟩ := hJ
    have e1 := h1 (show l 1 = true by first | exact hd.1 rfl | exact hd.2.1 rfl | exact hd.2.2.1 rfl | exact hd.2.2.2.1 rfl | exact hd.2.2.2.2.1 rfl | exact hd.2.2.2.2.2.1 rfl)
    refine Runs.of (b := ?bC2) ?eC2 ?_
    case eC2 => simp only [putV, Act.put, List.setIfInBounds_toArray, List.set_cons_zero, List.set_cons_succ, e1]; rfl
    intro K' hK'
    go_simp
    exact hK'.go _ rfl ⟨hX, hB, hK, h0, h1, fun _ => rfl, h3, h4, h5, h6, h7, h8, h9, h10, h11, h12, h13, h14, h15, h16, h17, h18, h19, h20, h21, h22, h23⟩
  · intro l x w' hJ hi hd
    obtain ⟨hX, hB, hK, h0, h1, h2, h3, h4, h5, h6, h7, h8, h9, h10, h11, h12, h13, h14, h15, h16, h17, h18, h19, h20, h21, h22, h23⟩ := hJ
    have e2 := h2 (show l 2 = true by first | exact hd.1 rfl | exact hd.2.1 rfl | exact hd.2.2.1 rfl | exact hd.2.2.2.1 rfl | exact hd.2.2.2.2.1 rfl | exact hd.2.2.2.2.2.1 rfl)
    refine Runs.of (b := ?bC3) ?eC3 ?_
    case eC3 => simp only [putV, Act.put, List.setIfInBounds_toArray, List.set_cons_zero, List.set_cons_succ, e2]; rfl
    intro K' hK'
    go_simp
    exact hK'.go _ rfl ⟨hX, hB, hK, h0, h1, h2, fun _ => rfl, h4, h5, h6, h7, h8, h9, h10, h11, h12, h13, h14, h15, h16, h17, h18, h19, h20, h21, h22, h23⟩
  · intro l x w' hJ hi hd
    obtain ⟨hX, hB, hK, h0, h1, h2, h3, h4, h5, h6, h7, h8, h9, h10, h11, h12, h13, h14, h15, h16, h17, h18, h19, h20, h21, h22, h23⟩ := hJ
    have e3 := h3 (show l 3 = true by first | exact hd.1 rfl | exact hd.2.1 rfl | exact hd.2.2.1 rfl | exact hd.2.2.2.1 rfl | exact hd.2.2.2.2.1 rfl | exact hd.2.2.2.2.2.1 rfl)
    refine Runs.of (b := ?bC4) ?eC4 ?_
    case eC4 => simp only [putV, Act.put, List.setIfInBounds_toArray, List.set_cons_zero, List.set_cons_succ, e3]; rfl
    intro K' hK'
    go_simp
    exact hK'.go _ rfl ⟨hX, hB, hK, h0, h1, h2, h3, fun _ => rfl, h5, h6, h7, h8, h9, h10, h11, h12, h13, h14, h15, h16, h17, h18, h19, h20, h21, h22, h23⟩
  · intro l x w' hJ hi hd
    obtain ⟨hX, hB, hK, h0, h1, h2, h3, h4, h5, h6, h7, h8, h9, h10, h11, h12, h13, h14, h15, h16, h17, h18, h19, h20, h21, h22, h23⟩ := hJ
    have e3 := h3 (show l 3 = true by first | exact hd.1 rfl | exact hd.2.1 rfl | exact hd.2.2.1 rfl | exact hd.2.2.2.1 rfl | exact hd.2.2.2.2.1 rfl | exact hd.2.2.2.2.2.1 rfl)
    have e4 := h4 (show l 4 = true by first | exact hd.1 rfl | exact hd.2.1 rfl | exact hd.2.2.1 rfl | exact hd.2.2.2.1 rfl | exact hd.2.2.2.2.1 rfl | exact hd.2.2.2.2.2.1 rfl)
    have c := hX.cell 0
    simp only [meC, List.getElem?_cons_zero, List.getElem?_cons_succ] at c
    refine Runs.of (b := ?bC5) ?eC5 ?_
    case eC5 => simp only [putV, Act.put, List.setIfInBounds_toArray, List.set_cons_zero, List.set_cons_succ, e3, e4]; rfl
    intro K' hK'
    go_simp
    exact hK'.go _ rfl ⟨hX, hB, hK, h0, h1, h2, h3, h4, fun _ => rfl, h6, h7, h8, h9, h10, h11, h12, h13, h14, h15, h16, h17, h18, h19, h20, h21, h22, h23⟩
  · intro l x w' hJ hi hd
    obtain ⟨hX, hB, hK, h0, h1, h2, h3, h4, h5, h6, h7, h8, h9, h10, h11, h12, h13, h14, h15, h16, h17, h18, h19, h20, h21, h22, h23⟩ := hJ
    have e3 := h3 (show l 3 = true by first | exact hd.1 rfl | exact hd.2.1 rfl | exact hd.2.2.1 rfl | exact hd.2.2.2.1 rfl | exact hd.2.2.2.2.1 rfl | exact hd.2.2.2.2.2.1 rfl)
    refine Runs.of (b := ?bC6) ?eC6 ?_
    case eC6 => simp only [putV, Act.put, List.setIfInBounds_toArray, List.set_cons_zero, List.set_cons_succ, e3]; rfl
    intro K' hK'
    go_simp
    exact hK'.go _ rfl ⟨hX, hB, hK, h0, h1, h2, h3, h4, h5, fun _ => rfl, h7, h8, h9, h10, h11, h12, h13, h14, h15, h16, h17, h18, h19, h20, h21, h22, h23⟩
  · intro l x w' hJ hi hd
    obtain ⟨hX, hB, hK, h0, h1, h2, h3, h4, h5, h6, h7, h8, h9, h10, h11, h12, h13, h14, h15, h16, h17, h18, h19, h20, h21, h22, h23⟩ := hJ
    have e3 := h3 (show l 3 = true by first | exact hd.1 rfl | exact hd.2.1 rfl | exact hd.2.2.1 rfl | exact hd.2.2.2.1 rfl | exact hd.2.2.2.2.1 rfl | exact hd.2.2.2.2.2.1 rfl)
    have e6 := h6 (show l 6 = true by first | exact hd.1 rfl | exact hd.2.1 rfl | exact hd.2.2.1 rfl | exact hd.2.2.2.1 rfl | exact hd.2.2.2.2.1 rfl | exact hd.2.2.2.2.2.1 rfl)
    refine Runs.of (b := ?bC7) ?eC7 ?_
    case eC7 => simp only [putV, Act.put, List.setIfInBounds_toArray, List.set_cons_zero, List.set_cons_succ, e3, e6]; rfl
    intro K' hK'
    go_simp
    exact hK'.go _ rfl ⟨hX, hB, hK, h0, h1, h2, h3, h4, h5, h6, fun _ => rfl, h8, h9, h10, h11, h12, h13, h14, h15, h16, h17, h18, h19, h20, h21, h22, h23⟩
  · intro l x w' hJ hi hd
    obtain ⟨hX, hB, hK, h0, h1, h2, h3, h4, h5, h6, h7, h8, h9, h10, h11, h12, h13, h14, h15, h16, h17, h18, h19, h20, h21, h22, h23⟩ := hJ
    have e3 := h3 (show l 3 = true by first | exact hd.1 rfl | exact hd.2.1 rfl | exact hd.2.2.1 rfl | exact hd.2.2.2.1 rfl | exact hd.2.2.2.2.1 rfl | exact hd.2.2.2.2.2.1 rfl)
    have e7 := h7 (show l 7 = true by first | exact hd.1 rfl | exact hd.2.1 rfl | exact hd.2.2.1 rfl | exact hd.2.2.2.1 rfl | exact hd.2.2.2.2.1 rfl | exact hd.2.2.2.2.2.1 rfl)
    refine Runs.of (b := ?bC8) ?eC8 ?_
    case eC8 => simp only [putV, Act.put, List.setIfInBounds_toArray, List.set_cons_zero, List.set_cons_succ, e3, e7]; rfl
    intro K' hK'
    go_simp
    exact hK'.go _ rfl ⟨hX, hB, hK, h0, h1, h2, h3, h4, h5, h6, h7, fun _ => rfl, h9, h10, h11, h12, h13, h14, h15, h16, h17, h18, h19, h20, h21, h22, h23⟩
  · intro l x w' hJ hi hd
    obtain ⟨hX, hB, hK, h0, h1, h2, h3, h4, h5, h6, h7, h8, h9, h10, h11, h12, h13, h14, h15, h16, h17, h18, h19, h20, h21, h22, h23⟩ := hJ
    have e3 := h3 (show l 3 = true by first | exact hd.1 rfl | exact hd.2.1 rfl | exact hd.2.2.1 rfl | exact hd.2.2.2.1 rfl | exact hd.2.2.2.2.1 rfl | exact hd.2.2.2.2.2.1 rfl)
    have e8 := h8 (show l 8 = true by first | exact hd.1 rfl | exact hd.2.1 rfl | exact hd.2.2.1 rfl | exact hd.2.2.2.1 rfl | exact hd.2.2.2.2.1 rfl | exact hd.2.2.2.2.2.1 rfl)
    refine Runs.of (b := ?bC9) ?eC9 ?_
    case eC9 => simp only [putV, Act.put, List.setIfInBounds_toArray, List.set_cons_zero, List.set_cons_succ, e3, e8]; rfl
    intro K' hK'
    go_simp
    exact hK'.go _ rfl ⟨hX, hB, hK, h0, h1, h2, h3, h4, h5, h6, h7, h8, fun _ => rfl, h10, h11, h12, h13, h14, h15, h16, h17, h18, h19, h20, h21, h22, h23⟩
  · intro l x w' hJ hi hd
    obtain ⟨hX, hB, hK, h0, h1, h2, h3, h4, h5, h6, h7, h8, h9, h10, h11, h12, h13, h14, h15, h16, h17, h18, h19, h20, h21, h22, h23⟩ := hJ
    have e3 := h3 (show l 3 = true by first | exact hd.1 rfl | exact hd.2.1 rfl | exact hd.2.2.1 rfl | exact hd.2.2.2.1 rfl | exact hd.2.2.2.2.1 rfl | exact hd.2.2.2.2.2.1 rfl)
    have e9 := h9 (show l 9 = true by first | exact hd.1 rfl | exact hd.2.1 rfl | exact hd.2.2.1 rfl | exact hd.2.2.2.1 rfl | exact hd.2.2.2.2.1 rfl | exact hd.2.2.2.2.2.1 rfl)
    have c := hB.cell 1
    simp only [List.getElem?_cons_zero, List.getElem?_cons_succ] at c
    refine Runs.of (b := ?bC10) ?eC10 ?_
    case eC10 => simp only [putV, Act.put, List.setIfInBounds_toArray, List.set_cons_zero, List.set_cons_succ, e3, e9]; rfl
    intro K' hK'
    go_simp
    exact hK'.go _ rfl ⟨hX, hB, hK, h0, h1, h2, h3, h4, h5, h6, h7, h8, h9, fun _ => rfl, h11, h12, h13, h14, h15, h16, h17, h18, h19, h20, h21, h22, h23⟩
  · intro l x w' hJ hi hd
    obtain ⟨hX, hB, hK, h0, h1, h2, h3, h4, h5, h6, h7, h8, h9, h10, h11, h12, h13, h14, h15, h16, h17, h18, h19, h20, h21, h22, h23⟩ := hJ
    have e3 := h3 (show l 3 = true by first | exact hd.1 rfl | exact hd.2.1 rfl | exact hd.2.2.1 rfl | exact hd.2.2.2.1 rfl | exact hd.2.2.2.2.1 rfl | exact hd.2.2.2.2.2.1 rfl)
    have e5 := h5 (show l 5 = true by first | exact hd.1 rfl | exact hd.2.1 rfl | exact hd.2.2.1 rfl | exact hd.2.2.2.1 rfl | exact hd.2.2.2.2.1 rfl | exact hd.2.2.2.2.2.1 rfl)
    have e10 := h10 (show l 10 = true by first | exact hd.1 rfl | exact hd.2.1 rfl | exact hd.2.2.1 rfl | exact hd.2.2.2.1 rfl | exact hd.2.2.2.2.1 rfl | exact hd.2.2.2.2.2.1 rfl)
    refine Runs.of (b := ?bC11) ?eC11 ?_
    case eC11 => simp only [putV, Act.put, List.setIfInBounds_toArray, List.set_cons_zero, List.set_cons_succ, e3, e5, e10]; rfl
    intro K' hK'
    go_simp
    exact hK'.go _ rfl ⟨hX, hB, hK, h0, h1, h2, h3, h4, h5, h6, h7, h8, h9, h10, fun _ => rfl, h12, h13, h14, h15, h16, h17, h18, h19, h20, h21, h22, h23⟩
  · intro l x w' hJ hi hd
    obtain ⟨hX, hB, hK, h0, h1, h2, h3, h4, h5, h6, h7, h8, h9, h10, h11, h12, h13, h14, h15, h16, h17, h18, h19, h20, h21, h22, h23⟩ := hJ
    have e3 := h3 (show l 3 = true by first | exact hd.1 rfl | exact hd.2.1 rfl | exact hd.2.2.1 rfl | exact hd.2.2.2.1 rfl | exact hd.2.2.2.2.1 rfl | exact hd.2.2.2.2.2.1 rfl)
    have e11 := h11 (show l 11 = true by first | exact hd.1 rfl | exact hd.2.1 rfl | exact hd.2.2.1 rfl | exact hd.2.2.2.1 rfl | exact hd.2.2.2.2.1 rfl | exact hd.2.2.2.2.2.1 rfl)
    refine Runs.of (b := ?bC12) ?eC12 ?_
    case eC12 => simp only [putV, Act.put, List.setIfInBounds_toArray, List.set_cons_zero, List.set_cons_succ, e3, e11]; rfl
    intro K' hK'
    go_simp
    exact hK'.go _ rfl ⟨hX, hB, hK, h0, h1, h2, h3, h4, h5, h6, h7, h8, h9, h10, h11, fun _ => rfl, h13, h14, h15, h16, h17, h18, h19, h20, h21, h22, h23⟩
  · intro l x w' hJ hi hd
    obtain ⟨hX, hB, hK, h0, h1, h2, h3, h4, h5, h6, h7, h8, h9, h10, h11, h12, h13, h14, h15, h16, h17, h18, h19, h20, h21, h22, h23⟩ := hJ
    have e12 := h12 (show l 12 = true by first | exact hd.1 rfl | exact hd.2.1 rfl | exact hd.2.2.1 rfl | exact hd.2.2.2.1 rfl | exact hd.2.2.2.2.1 rfl | exact hd.2.2.2.2.2.1 rfl)
    refine Runs.of (b := ?bC13) ?eC13 ?_
    case eC13 => simp only [putV, Act.put, List.setIfInBounds_toArray, List.set_cons_zero, List.set_cons_succ, e12]; rfl
    intro K' hK'
    go_simp
    exact hK'.go _ rfl ⟨hX, hB, hK, h0, h1, h2, h3, h4, h5, h6, h7, h8, h9, h10, h11, h12, fun _ => rfl, h14, h15, h16, h17, h18, h19, h20, h21, h22, h23⟩
  · intro l x w' hJ hi hd
    obtain ⟨hX, hB, hK, h0, h1, h2, h3, h4, h5, h6, h7, h8, h9, h10, h11, h12, h13, h14, h15, h16, h17, h18, h19, h20, h21, h22, h23⟩ := hJ
    have e13 := h13 (show l 13 = true by first | exact hd.1 rfl | exact hd.2.1 rfl | exact hd.2.2.1 rfl | exact hd.2.2.2.1 rfl | exact hd.2.2.2.2.1 rfl | exact hd.2.2.2.2.2.1 rfl)
    refine Runs.of (b := ?bC14) ?eC14 ?_
    case eC14 => simp only [putV, Act.put, List.setIfInBounds_toArray, List.set_cons_zero, List.set_cons_succ, e13]; rfl
    intro K' hK'
    go_simp
    exact hK'.go _ rfl ⟨hX, hB, hK, h0, h1, h2, h3, h4, h5, h6, h7, h8, h9, h10, h11, h12, h13, fun _ => rfl, h15, h16, h17, h18, h19, h20, h21, h22, h23⟩
  · intro l x w' hJ hi hd
    obtain ⟨hX, hB, hK, h0, h1, h2, h3, h4, h5, h6, h7, h8, h9, h10, h11, h12, h13, h14, h15, h16, h17, h18, h19, h20, h21, h22, h23⟩ := hJ
    have e13 := h13 (show l 13 = true by first | exact hd.1 rfl | exact hd.2.1 rfl | exact hd.2.2.1 rfl | exact hd.2.2.2.1 rfl | exact hd.2.2.2.2.1 rfl | exact hd.2.2.2.2.2.1 rfl)
    have e14 := h14 (show l 14 = true by first | exact hd.1 rfl | exact hd.2.1 rfl | exact hd.2.2.1 rfl | exact hd.2.2.2.1 rfl | exact hd.2.2.2.2.1 rfl | exact hd.2.2.2.2.2.1 rfl)
    have c := hX.cell 1
    simp only [meC, List.getElem?_cons_zero, List.getElem?_cons_succ] at c
    refine Runs.of (b := ?bC15) ?eC15 ?_
    case eC15 => simp only [putV, Act.put, List.setIfInBounds_toArray, List.set_cons_zero, List.set_cons_succ, e13, e14]; rfl
    intro K' hK'
    go_simp
    exact hK'.go _ rfl ⟨hX, hB, hK, h0, h1, h2, h3, h4, h5, h6, h7, h8, h9, h10, h11, h12, h13, h14, fun _ => rfl, h16, h17, h18, h19, h20, h21, h22, h23⟩
  · intro l x w' hJ hi hd
    obtain ⟨hX, hB, hK, h0, h1, h2, h3, h4, h5, h6, h7, h8, h9, h10, h11, h12, h13, h14, h15, h16, h17, h18, h19, h20, h21, h22, h23⟩ := hJ
    have e13 := h13 (show l 13 = true by first | exact hd.1 rfl | exact hd.2.1 rfl | exact hd.2.2.1 rfl | exact hd.2.2.2.1 rfl | exact hd.2.2.2.2.1 rfl | exact hd.2.2.2.2.2.1 rfl)
    refine Runs.of (b := ?bC16) ?eC16 ?_
    case eC16 => simp only [putV, Act.put, List.setIfInBounds_toArray, List.set_cons_zero, List.set_cons_succ, e13]; rfl
    intro K' hK'
    go_simp
    exact hK'.go _ rfl ⟨hX, hB, hK, h0, h1, h2, h3, h4, h5, h6, h7, h8, h9, h10, h11, h12, h13, h14, h15, fun _ => rfl, h17, h18, h19, h20, h21, h22, h23⟩
  · intro l x w' hJ hi hd
    obtain ⟨hX, hB, hK, h0, h1, h2, h3, h4, h5, h6, h7, h8, h9, h10, h11, h12, h13, h14, h15, h16, h17, h18, h19, h20, h21, h22, h23⟩ := hJ
    have e13 := h13 (show l 13 = true by first | exact hd.1 rfl | exact hd.2.1 rfl | exact hd.2.2.1 rfl | exact hd.2.2.2.1 rfl | exact hd.2.2.2.2.1 rfl | exact hd.2.2.2.2.2.1 rfl)
    have e16 := h16 (show l 16 = true by first | exact hd.1 rfl | exact hd.2.1 rfl | exact hd.2.2.1 rfl | exact hd.2.2.2.1 rfl | exact hd.2.2.2.2.1 rfl | exact hd.2.2.2.2.2.1 rfl)
    refine Runs.of (b := ?bC17) ?eC17 ?_
    case eC17 => simp only [putV, Act.put, List.setIfInBounds_toArray, List.set_cons_zero, List.set_cons_succ, e13, e16]; rfl
    intro K' hK'
    go_simp
    exact hK'.go _ rfl ⟨hX, hB, hK, h0, h1, h2, h3, h4, h5, h6, h7, h8, h9, h10, h11, h12, h13, h14, h15, h16, fun _ => rfl, h18, h19, h20, h21, h22, h23⟩
  · intro l x w' hJ hi hd
    obtain ⟨hX, hB, hK, h0, h1, h2, h3, h4, h5, h6, h7, h8, h9, h10, h11, h12, h13, h14, h15, h16, h17, h18, h19, h20, h21, h22, h23⟩ := hJ
    have e13 := h13 (show l 13 = true by first | exact hd.1 rfl | exact hd.2.1 rfl | exact hd.2.2.1 rfl | exact hd.2.2.2.1 rfl | exact hd.2.2.2.2.1 rfl | exact hd.2.2.2.2.2.1 rfl)
    have e17 := h17 (show l 17 = true by first | exact hd.1 rfl | exact hd.2.1 rfl | exact hd.2.2.1 rfl | exact hd.2.2.2.1 rfl | exact hd.2.2.2.2.1 rfl | exact hd.2.2.2.2.2.1 rfl)
    refine Runs.of (b := ?bC18) ?eC18 ?_
    case eC18 => simp only [putV, Act.put, List.setIfInBounds_toArray, List.set_cons_zero, List.set_cons_succ, e13, e17]; rfl
    intro K' hK'
    go_simp
    exact hK'.go _ rfl ⟨hX, hB, hK, h0, h1, h2, h3, h4, h5, h6, h7, h8, h9, h10, h11, h12, h13, h14, h15, h16, h17, fun _ => rfl, h19, h20, h21, h22, h23⟩
  · intro l x w' hJ hi hd
    obtain ⟨hX, hB, hK, h0, h1, h2, h3, h4, h5, h6, h7, h8, h9, h10, h11, h12, h13, h14, h15, h16, h17, h18, h19, h20, h21, h22, h23⟩ := hJ
    have e13 := h13 (show l 13 = true by first | exact hd.1 rfl | exact hd.2.1 rfl | exact hd.2.2.1 rfl | exact hd.2.2.2.1 rfl | exact hd.2.2.2.2.1 rfl | exact hd.2.2.2.2.2.1 rfl)
    have e18 := h18 (show l 18 = true by first | exact hd.1 rfl | exact hd.2.1 rfl | exact hd.2.2.1 rfl | exact hd.2.2.2.1 rfl | exact hd.2.2.2.2.1 rfl | exact hd.2.2.2.2.2.1 rfl)
    refine Runs.of (b := ?bC19) ?eC19 ?_
    case eC19 => simp only [putV, Act.put, List.setIfInBounds_toArray, List.set_cons_zero, List.set_cons_succ, e13, e18]; rfl
    intro K' hK'
    go_simp
    exact hK'.go _ rfl ⟨hX, hB, hK, h0, h1, h2, h3, h4, h5, h6, h7, h8, h9, h10, h11, h12, h13, h14, h15, h16, h17, h18, fun _ => rfl, h20, h21, h22, h23⟩
  · intro l x w' hJ hi hd
    obtain ⟨hX, hB, hK, h0, h1, h2, h3, h4, h5, h6, h7, h8, h9, h10, h11, h12, h13, h14, h15, h16, h17, h18, h19, h20, h21, h22, h23⟩ := hJ
    have e13 := h13 (show l 13 = true by first | exact hd.1 rfl | exact hd.2.1 rfl | exact hd.2.2.1 rfl | exact hd.2.2.2.1 rfl | exact hd.2.2.2.2.1 rfl | exact hd.2.2.2.2.2.1 rfl)
    have e19 := h19 (show l 19 = true by first | exact hd.1 rfl | exact hd.2.1 rfl | exact hd.2.2.1 rfl | exact hd.2.2.2.1 rfl | exact hd.2.2.2.2.1 rfl | exact hd.2.2.2.2.2.1 rfl)
    have c := hB.cell 2
    simp only [List.getElem?_cons_zero, List.getElem?_cons_succ] at c
    refine Runs.of (b := ?bC20) ?eC20 ?_
    case eC20 => simp only [putV, Act.put, List.setIfInBounds_toArray, List.set_cons_zero, List.set_cons_succ, e13, e19]; rfl
    intro K' hK'
    go_simp
    exact hK'.go _ rfl ⟨hX, hB, hK, h0, h1, h2, h3, h4, h5, h6, h7, h8, h9, h10, h11, h12, h13, h14, h15, h16, h17, h18, h19, fun _ => rfl, h21, h22, h23⟩
  · intro l x w' hJ hi hd
    obtain ⟨hX, hB, hK, h0, h1, h2, h3, h4, h5, h6, h7, h8, h9, h10, h11, h12, h13, h14, h15, h16, h17, h18, h19, h20, h21, h22, h23⟩ := hJ
    have e13 := h13 (show l 13 = true by first | exact hd.1 rfl | exact hd.2.1 rfl | exact hd.2.2.1 rfl | exact hd.2.2.2.1 rfl | exact hd.2.2.2.2.1 rfl | exact hd.2.2.2.2.2.1 rfl)
    have e15 := h15 (show l 15 = true by first | exact hd.1 rfl | exact hd.2.1 rfl | exact hd.2.2.1 rfl | exact hd.2.2.2.1 rfl | exact hd.2.2.2.2.1 rfl | exact hd.2.2.2.2.2.1 rfl)
    have e20 := h20 (show l 20 = true by first | exact hd.1 rfl | exact hd.2.1 rfl | exact hd.2.2.1 rfl | exact hd.2.2.2.1 rfl | exact hd.2.2.2.2.1 rfl | exact hd.2.2.2.2.2.1 rfl)
    refine Runs.of (b := ?bC21) ?eC21 ?_
    case eC21 => simp only [putV, Act.put, List.setIfInBounds_toArray, List.set_cons_zero, List.set_cons_succ, e13, e15, e20]; rfl
    intro K' hK'
    go_simp
    exact hK'.go _ rfl ⟨hX, hB, hK, h0, h1, h2, h3, h4, h5, h6, h7, h8, h9, h10, h11, h12, h13, h14, h15, h16, h17, h18, h19, h20, fun _ => rfl, h22, h23⟩
  · intro l x w' hJ hi hd
    obtain ⟨hX, hB, hK, h0, h1, h2, h3, h4, h5, h6, h7, h8, h9, h10, h11, h12, h13, h14, h15, h16, h17, h18, h19, h20, h21, h22, h23⟩ := hJ
    have e13 := h13 (show l 13 = true by first | exact hd.1 rfl | exact hd.2.1 rfl | exact hd.2.2.1 rfl | exact hd.2.2.2.1 rfl | exact hd.2.2.2.2.1 rfl | exact hd.2.2.2.2.2.1 rfl)
    have e21 := h21 (show l 21 = true by first | exact hd.1 rfl | exact hd.2.1 rfl | exact hd.2.2.1 rfl | exact hd.2.2.2.1 rfl | exact hd.2.2.2.2.1 rfl | exact hd.2.2.2.2.2.1 rfl)
    refine Runs.of (b := ?bC22) ?eC22 ?_
    case eC22 => simp only [putV, Act.put, List.setIfInBounds_toArray, List.set_cons_zero, List.set_cons_succ, e13, e21]; rfl
    intro K' hK'
    go_simp
    exact hK'.go _ rfl ⟨hX, hB, hK, h0, h1, h2, h3, h4, h5, h6, h7, h8, h9, h10, h11, h12, h13, h14, h15, h16, h17, h18, h19, h20, h21, fun _ => rfl, h23⟩
  · intro l x w' hJ hi hd
    obtain ⟨hX, hB, hK, h0, h1, h2, h3, h4, h5, h6, h7, h8, h9, h10, h11, h12, h13, h14, h15, h16, h17, h18, h19, h20, h21, h22, h23⟩ := hJ
    have e22 := h22 (show l 22 = true by first | exact hd.1 rfl | exact hd.2.1 rfl | exact hd.2.2.1 rfl | exact hd.2.2.2.1 rfl | exact hd.2.2.2.2.1 rfl | exact hd.2.2.2.2.2.1 rfl)
    refine Runs.of (b := ?bC23) ?eC23 ?_
    case eC23 => simp only [putV, Act.put, List.setIfInBounds_toArray, List.set_cons_zero, List.set_cons_succ, e22]; rfl
    intro K' hK'
    go_simp
    exact hK'.go _ rfl ⟨hX, hB, hK, h0, h1, h2, h3, h4, h5, h6, h7, h8, h9, h10, h11, h12, h13, h14, h15, h16, h17, h18, h19, h20, h21, h22, fun _ => rfl⟩
  · intro l x w3 hJ hl
    obtain ⟨hX, hB, hK, h0, h1, h2, h3, h4, h5, h6, h7, h8, h9, h10, h11, h12, h13, h14, h15, h16, h17, h18, h19, h20, h21, h22, h23⟩ := hJ
    have e23 := h23 (hl 23 (by decide))
    simp only [putV, Act.put, List.setIfInBounds_toArray, List.set_cons_zero, List.set_cons_succ, e23]
    have K := K1.trans hK
    clear h0 h1 h2 h3 h4 h5 h6 h7 h8 h9 h10 h11 h12 h13 h14 h15 h16 h17 h18 h19 h20 h21 h22 h23 e23 hl
    go_wp2_with fail
    go_ret
    exact ⟨rfl, K⟩

theorem meSave_nil {w : World} (b e r : Int) (f : Bool) : Calls Try.prog 29 #[.pointer none, meV b e r f] w fun x w' => x = .returned (.int .i64 8) ∧ Keep [] w w' := by
  go_enter Try.func29, Try.ntmps29
  go_wp2_with fail
  go_ret
  exact ⟨rfl, (Keep.refl _ _).alloc _⟩
end Go.Proofs.Ytnnaleoigiaboaa
