/- Ctl8 -/
import Derived.Test.YtcoaobdijlppgaaG10
/- The authority: Join, Leave, Lose, Back. -/
namespace Go.Proofs.Ytcoaobdijlppgaa
open Go.ChangeShapes Go.WideShapes Go.ChangeAt Go.RowKit
set_option linter.unusedVariables false
set_option linter.unusedSimpArgs false
set_option maxRecDepth 100000

/-- Nothing is under way. -/
def Ct.idle (t : Ct) : Ct := { t with num := 0, phase := 0, dest := [], nodes := [], lost := 0, done := [] }
theorem CtR.idle {w w' : World} {t : Ct} {vm vt vn vd : Value} {base : Nat} {S : List Nat} (h : CtR w t vm vt vn vd base) (k : Keep S w w') (hS : ∀ q ∈ S, ¬ Ty w q 3) : CtR w' t.idle vm (.slice none 0 0) (.slice none 0 0) (.slice none 0 0) base :=
  ⟨h.mem.keep k (fun b hb hm => hS b hm (h.mem.ty b hb)), Own.nil _ _ _, Own.nil _ _ _, Own.nil _ _ _, h.l1, (fun q hq => by cases hq), (fun q hq => by cases hq), h.memn, by simp [Ct.idle], by simp [Ct.idle], by simp [Ct.idle]⟩
theorem bothL_mem {a b : List Int} {but n : Int} (hn : 1 ≤ n ∧ n ≤ 5) (hb : n ≠ but) (h : n ∈ a ∨ n ∈ b) : n ∈ bothL a b but := by
  unfold bothL
  rw [List.mem_filter]
  refine ⟨?_, ?_⟩
  · rcases (show n = 1 ∨ n = 2 ∨ n = 3 ∨ n = 4 ∨ n = 5 by omega) with rfl | rfl | rfl | rfl | rfl <;> simp
  · unfold bothP
    rw [decide_eq_false hb]
    simpa using h
theorem bothL_in {a b : List Int} {but : Int} : ∀ n ∈ bothL a b but, 1 ≤ n ∧ n ≤ 5 := by
  intro n hn
  unfold bothL at hn
  have := (List.mem_filter.1 hn).1
  simp at this
  omega
def Began (w : World) (c kb s g d sb B : Nat) (t : Ct) (to2 : List Int) (lost : Int) (vm : Value) (e : Ending) (w' : World) : Prop :=
  ∃ v L v2 vn' base', e = .returned (.tuple #[v, .int .i64 0]) ∧ TRow w' w.heap.size v L ∧ L.map (·.m) = (bothL t.mem to2 lost).map (tellM (t.begun to2 lost) 3) ∧
      CtB w' c kb s g (t.begun to2 lost) vm v2 vn' (.slice none 0 0) ∧ CtR w' (t.begun to2 lost) vm v2 vn' (.slice none 0 0) base' ∧ CtD w' d sb s (stT t.epoch (t.top + 1) t.mem) (B + 1) ∧ Keep [d, sb, s, c] w w'
def backJ (w0 : World) (c kb s g base : Nat) (t : Ct) (vm vt vd : Value) (na : Option Addr) (nc : Nat) (l : Nat → Bool) (x : Nat → Value) (w' : World) : Prop :=
  ∃ L, (CtB w' c kb s g t vm vt (.slice na t.nodes.length nc) vd) ∧
  (CtR w' t vm vt (.slice na t.nodes.length nc) vd base) ∧
  (Keep [] w0 w') ∧
  (l 0 = true → x 0 = .pointer (some ⟨c, 0, none⟩)) ∧
  (l 1 = true → x 1 = .pointer (some ⟨c, 0, none⟩)) ∧
  (l 2 = true → x 2 = .pointer (some ⟨c, 5, none⟩)) ∧
  (l 3 = true → x 3 = .pointer (some ⟨c, 5, none⟩)) ∧
  (l 4 = true → x 4 = .int .i64 t.num) ∧
  (l 5 = true → x 5 = .pointer (some ⟨c, 0, none⟩)) ∧
  (l 6 = true → x 6 = .pointer (some ⟨c, 0, none⟩)) ∧
  (l 7 = true → x 7 = .pointer (some ⟨c, 5, none⟩)) ∧
  (l 8 = true → x 8 = .pointer (some ⟨c, 8, none⟩)) ∧
  (l 9 = true → x 9 = .slice na t.nodes.length nc) ∧
  (l 10 = true → TRow w' w0.heap.size (x 10) L ∧ L.map (·.m) = t.nodes.map (abortM t.num)) ∧
  (l 11 = true → x 11 = x 10 ∧ l 10 = true)
set_option maxHeartbeats 4000000 in
theorem Back_any {w : World} {c kb s g base : Nat} {t : Ct} {vm vt vn vd : Value} (h : CtB w c kb s g t vm vt vn vd) (hr : CtR w t vm vt vn vd base) (h0 : t.num ≠ 0) :
    Calls Try.prog 22 #[.pointer (some ⟨c, 0, none⟩)] w fun e w' => ∃ v L, e = .returned (.tuple #[v, .int .i64 0]) ∧ TRow w' w.heap.size v L ∧ L.map (·.m) = t.nodes.map (abortM t.num) ∧
      CtB w' c kb s g t.idle vm (.slice none 0 0) (.slice none 0 0) (.slice none 0 0) ∧ CtR w' t.idle vm (.slice none 0 0) (.slice none 0 0) (.slice none 0 0) base ∧ Keep [c] w w' := by
  obtain ⟨na, nc, rfl⟩ := hr.nodes.islice
  have HCL := Lib.hid (Blk.lt h)
  have hbld : ∀ (W : World), (Instr.build 61 #[]).run Try.prog W = .ok (.agg #[.int .i64 0, .int .i64 0, .slice none 0 0, .slice none 0 0, .int .i64 0, .slice none 0 0]) W := fun W => run_build W _ _ _ (by rfl)
  have q0 : (t.num == 0) = false := by simpa using h0
  have hB0 := h
  have hR0 := hr
  obtain ⟨c5, _⟩ := ctc_5 h
  clear h hr h0
  go_enter Try.func22, Try.ntmps22
  go_upto_region 5 with fail
  clear c5
  refine wp_region_inv (backJ w c kb s g base t vm vt vd na nc) (by kernel_rfl) (by kernel_rfl) (by kernel_rfl) ?_ (Steps.cons 0 ?_ (Steps.cons 1 ?_ (Steps.cons 2 ?_ (Steps.cons 3 ?_ (Steps.cons 4 ?_ (Steps.cons 5 ?_ (Steps.cons 6 ?_ (Steps.cons 7 ?_ (Steps.cons 8 ?_ (Steps.cons 9 ?_ (Steps.cons 10 ?_ (Steps.cons 11 ?_ (Steps.nil 12))))))))))))) 12 rfl ?_
  · intro x
    exact ⟨[], hB0.keep (Keep.refl [] _).drew (by simp), hR0.still (Keep.refl [] _).drew, (Keep.refl _ _).drew, fun h => absurd h (by decide), fun h => absurd h (by decide), fun h => absurd h (by decide), fun h => absurd h (by decide), fun h => absurd h (by decide), fun h => absurd h (by decide), fun h => absurd h (by decide), fun h => absurd h (by decide), fun h => absurd h (by decide), fun h => absurd h (by decide), fun h => absurd h (by decide), fun h => absurd h (by decide)⟩
  · intro l x w' hJ hi hd
    obtain ⟨L, hB, hR, hK, h0, h1, h2, h3, h4, h5, h6, h7, h8, h9, h10, h11⟩ := hJ
    refine Runs.of (b := ?bA0) ?eA0 ?_
    case eA0 => simp only [putV, Act.put, List.setIfInBounds_toArray, List.set_cons_zero, List.set_cons_succ]; rfl
    intro K' hK'
    go_simp
    exact hK'.go _ rfl ⟨L, hB, hR, hK, fun _ => rfl, h1, h2, h3, h4, h5, h6, h7, h8, h9, h10, h11⟩
  · intro l x w' hJ hi hd
    obtain ⟨L, hB, hR, hK, h0, h1, h2, h3, h4, h5, h6, h7, h8, h9, h10, h11⟩ := hJ
    have e0 := h0 (show l 0 = true by first | exact hd.1 rfl | exact hd.2.1 rfl | exact hd.2.2.1 rfl | exact hd.2.2.2.1 rfl | exact hd.2.2.2.2.1 rfl | exact hd.2.2.2.2.2.1 rfl)
    refine Runs.of (b := ?bA1) ?eA1 ?_
    case eA1 => simp only [putV, Act.put, List.setIfInBounds_toArray, List.set_cons_zero, List.set_cons_succ, e0]; rfl
    intro K' hK'
    go_simp
    exact hK'.go _ rfl ⟨L, hB, hR, hK, h0, fun _ => rfl, h2, h3, h4, h5, h6, h7, h8, h9, h10, h11⟩
  · intro l x w' hJ hi hd
    obtain ⟨L, hB, hR, hK, h0, h1, h2, h3, h4, h5, h6, h7, h8, h9, h10, h11⟩ := hJ
    have e1 := h1 (show l 1 = true by first | exact hd.1 rfl | exact hd.2.1 rfl | exact hd.2.2.1 rfl | exact hd.2.2.2.1 rfl | exact hd.2.2.2.2.1 rfl | exact hd.2.2.2.2.2.1 rfl)
    refine Runs.of (b := ?bA2) ?eA2 ?_
    case eA2 => simp only [putV, Act.put, List.setIfInBounds_toArray, List.set_cons_zero, List.set_cons_succ, e1]; rfl
    intro K' hK'
    go_simp
    exact hK'.go _ rfl ⟨L, hB, hR, hK, h0, h1, fun _ => rfl, h3, h4, h5, h6, h7, h8, h9, h10, h11⟩
  · intro l x w' hJ hi hd
    obtain ⟨L, hB, hR, hK, h0, h1, h2, h3, h4, h5, h6, h7, h8, h9, h10, h11⟩ := hJ
    have e2 := h2 (show l 2 = true by first | exact hd.1 rfl | exact hd.2.1 rfl | exact hd.2.2.1 rfl | exact hd.2.2.2.1 rfl | exact hd.2.2.2.2.1 rfl | exact hd.2.2.2.2.2.1 rfl)
    refine Runs.of (b := ?bA3) ?eA3 ?_
    case eA3 => simp only [putV, Act.put, List.setIfInBounds_toArray, List.set_cons_zero, List.set_cons_succ, e2]; rfl
    intro K' hK'
    go_simp
    exact hK'.go _ rfl ⟨L, hB, hR, hK, h0, h1, h2, fun _ => rfl, h4, h5, h6, h7, h8, h9, h10, h11⟩
  · intro l x w' hJ hi hd
    obtain ⟨L, hB, hR, hK, h0, h1, h2, h3, h4, h5, h6, h7, h8, h9, h10, h11⟩ := hJ
    have e3 := h3 (show l 3 = true by first | exact hd.1 rfl | exact hd.2.1 rfl | exact hd.2.2.1 rfl | exact hd.2.2.2.1 rfl | exact hd.2.2.2.2.1 rfl | exact hd.2.2.2.2.2.1 rfl)
    have cc := (ctc_5 hB).1
    refine Runs.of (b := ?bA4) ?eA4 ?_
    case eA4 => simp only [putV, Act.put, List.setIfInBounds_toArray, List.set_cons_zero, List.set_cons_succ, e3]; rfl
    intro K' hK'
    go_simp
    exact hK'.go _ rfl ⟨L, hB, hR, hK, h0, h1, h2, h3, fun _ => rfl, h5, h6, h7, h8, h9, h10, h11⟩
  · intro l x w' hJ hi hd
    obtain ⟨L, hB, hR, hK, h0, h1, h2, h3, h4, h5, h6, h7, h8, h9, h10, h11⟩ := hJ
    refine Runs.of (b := ?bA5) ?eA5 ?_
    case eA5 => simp only [putV, Act.put, List.setIfInBounds_toArray, List.set_cons_zero, List.set_cons_succ]; rfl
    intro K' hK'
    go_simp
    exact hK'.go _ rfl ⟨L, hB, hR, hK, h0, h1, h2, h3, h4, fun _ => rfl, h6, h7, h8, h9, h10, h11⟩
  · intro l x w' hJ hi hd
    obtain ⟨L, hB, hR, hK, h0, h1, h2, h3, h4, h5, h6, h7, h8, h9, h10, h11⟩ := hJ
    have e5 := h5 (show l 5 = true by first | exact hd.1 rfl | exact hd.2.1 rfl | exact hd.2.2.1 rfl | exact hd.2.2.2.1 rfl | exact hd.2.2.2.2.1 rfl | exact hd.2.2.2.2.2.1 rfl)
    refine Runs.of (b := ?bA6) ?eA6 ?_
    case eA6 => simp only [putV, Act.put, List.setIfInBounds_toArray, List.set_cons_zero, List.set_cons_succ, e5]; rfl
    intro K' hK'
    go_simp
    exact hK'.go _ rfl ⟨L, hB, hR, hK, h0, h1, h2, h3, h4, h5, fun _ => rfl, h7, h8, h9, h10, h11⟩
  · intro l x w' hJ hi hd
    obtain ⟨L, hB, hR, hK, h0, h1, h2, h3, h4, h5, h6, h7, h8, h9, h10, h11⟩ := hJ
    have e6 := h6 (show l 6 = true by first | exact hd.1 rfl | exact hd.2.1 rfl | exact hd.2.2.1 rfl | exact hd.2.2.2.1 rfl | exact hd.2.2.2.2.1 rfl | exact hd.2.2.2.2.2.1 rfl)
    refine Runs.of (b := ?bA7) ?eA7 ?_
    case eA7 => simp only [putV, Act.put, List.setIfInBounds_toArray, List.set_cons_zero, List.set_cons_succ, e6]; rfl
    intro K' hK'
    go_simp
    exact hK'.go _ rfl ⟨L, hB, hR, hK, h0, h1, h2, h3, h4, h5, h6, fun _ => rfl, h8, h9, h10, h11⟩
  · intro l x w' hJ hi hd
    obtain ⟨L, hB, hR, hK, h0, h1, h2, h3, h4, h5, h6, h7, h8, h9, h10, h11⟩ := hJ
    have e7 := h7 (show l 7 = true by first | exact hd.1 rfl | exact hd.2.1 rfl | exact hd.2.2.1 rfl | exact hd.2.2.2.1 rfl | exact hd.2.2.2.2.1 rfl | exact hd.2.2.2.2.2.1 rfl)
    refine Runs.of (b := ?bA8) ?eA8 ?_
    case eA8 => simp only [putV, Act.put, List.setIfInBounds_toArray, List.set_cons_zero, List.set_cons_succ, e7]; rfl
    intro K' hK'
    go_simp
    exact hK'.go _ rfl ⟨L, hB, hR, hK, h0, h1, h2, h3, h4, h5, h6, h7, fun _ => rfl, h9, h10, h11⟩
  · intro l x w' hJ hi hd
    obtain ⟨L, hB, hR, hK, h0, h1, h2, h3, h4, h5, h6, h7, h8, h9, h10, h11⟩ := hJ
    have e8 := h8 (show l 8 = true by first | exact hd.1 rfl | exact hd.2.1 rfl | exact hd.2.2.1 rfl | exact hd.2.2.2.1 rfl | exact hd.2.2.2.2.1 rfl | exact hd.2.2.2.2.2.1 rfl)
    have cc := (ctc_8 hB).1
    refine Runs.of (b := ?bA9) ?eA9 ?_
    case eA9 => simp only [putV, Act.put, List.setIfInBounds_toArray, List.set_cons_zero, List.set_cons_succ, e8]; rfl
    intro K' hK'
    go_simp
    exact hK'.go _ rfl ⟨L, hB, hR, hK, h0, h1, h2, h3, h4, h5, h6, h7, h8, fun _ => rfl, h10, h11⟩
  · intro l x w' hJ hi hd
    obtain ⟨L, hB, hR, hK, h0, h1, h2, h3, h4, h5, h6, h7, h8, h9, h10, h11⟩ := hJ
    have e4 := h4 (show l 4 = true by first | exact hd.1 rfl | exact hd.2.1 rfl | exact hd.2.2.1 rfl | exact hd.2.2.2.1 rfl | exact hd.2.2.2.2.1 rfl | exact hd.2.2.2.2.2.1 rfl)
    have e9 := h9 (show l 9 = true by first | exact hd.1 rfl | exact hd.2.1 rfl | exact hd.2.2.1 rfl | exact hd.2.2.2.1 rfl | exact hd.2.2.2.2.1 rfl | exact hd.2.2.2.2.2.1 rfl)
    refine Runs.of (b := ?bA10) ?eA10 ?_
    case eA10 => simp only [putV, Act.put, List.setIfInBounds_toArray, List.set_cons_zero, List.set_cons_succ, e4, e9]; rfl
    intro K' hK'
    go_simp
    refine (abort_any t.num _ t.nodes hR.nodes.irv (by have := hR.nodesn; omega)).mono ?_
    rintro e w2 ⟨v5, L5, rfl, hO5, hL5, k2⟩
    have hz := hK.size
    go_simp
    exact hK'.go v5 rfl ⟨L5, hB.keep k2 (by simp), hR.still k2, hK.trans k2, h0, h1, h2, h3, h4, h5, h6, h7, h8, h9, fun _ => ⟨hO5.mono hz, hL5⟩, fun h => absurd ((h11 h).2.symm.trans hi) (by decide)⟩
  · intro l x w' hJ hi hd
    obtain ⟨L, hB, hR, hK, h0, h1, h2, h3, h4, h5, h6, h7, h8, h9, h10, h11⟩ := hJ
    have L10 := Lib.hid (show l 10 = true by first | exact hd.1 rfl | exact hd.2.1 rfl | exact hd.2.2.1 rfl | exact hd.2.2.2.1 rfl | exact hd.2.2.2.2.1 rfl | exact hd.2.2.2.2.2.1 rfl)
    refine Runs.of (b := ?bA11) ?eA11 ?_
    case eA11 => simp only [putV, Act.put, List.setIfInBounds_toArray, List.set_cons_zero, List.set_cons_succ]; rfl
    intro K' hK'
    go_simp
    exact hK'.go _ rfl ⟨L, hB, hR, hK, h0, h1, h2, h3, h4, h5, h6, h7, h8, h9, h10, fun _ => ⟨rfl, L10.out⟩⟩
  · intro l x w3 hJ hl
    obtain ⟨L, hB, hR, hK, h0, h1, h2, h3, h4, h5, h6, h7, h8, h9, h10, h11⟩ := hJ
    obtain ⟨hO, hL⟩ := h10 (hl 10 (by decide))
    have e11 := (h11 (hl 11 (by decide))).1
    simp only [putV, Act.put, List.setIfInBounds_toArray, List.set_cons_zero, List.set_cons_succ, e11]
    clear h0 h1 h2 h3 h4 h5 h6 h7 h8 h9 h10 h11 hl e11 hB0 hR0
    generalize x 10 = xv at *
    obtain ⟨va, vc, rfl⟩ := hO.slice
    obtain ⟨b5, f5⟩ := ctc_5 hB
    obtain ⟨b6, f6⟩ := ctc_6 hB
    obtain ⟨b7, f7⟩ := ctc_7 hB
    obtain ⟨b8, f8⟩ := ctc_8 hB
    obtain ⟨b9, f9⟩ := ctc_9 hB
    obtain ⟨b10, f10⟩ := ctc_10 hB
    go_wp2_with fail
    go_ret2
    have k4 : Keep [c] w3 ((((((w3.setCell ⟨c, 5, none⟩ (.int .i64 0)).setCell ⟨c, 6, none⟩ (.int .i64 0)).setCell ⟨c, 7, none⟩ (.slice none 0 0)).setCell ⟨c, 8, none⟩ (.slice none 0 0)).setCell ⟨c, 9, none⟩ (.int .i64 0)).setCell ⟨c, 10, none⟩ (.slice none 0 0)) := ((((((Keep.refl _ _).setCell (.inl (by simp)) _).setCell (.inl (by simp)) _).setCell (.inl (by simp)) _).setCell (.inl (by simp)) _).setCell (.inl (by simp)) _).setCell (.inl (by simp)) _
    have hQ : CtB ((((((w3.setCell ⟨c, 5, none⟩ (.int .i64 0)).setCell ⟨c, 6, none⟩ (.int .i64 0)).setCell ⟨c, 7, none⟩ (.slice none 0 0)).setCell ⟨c, 8, none⟩ (.slice none 0 0)).setCell ⟨c, 9, none⟩ (.int .i64 0)).setCell ⟨c, 10, none⟩ (.slice none 0 0)) c kb s g t.idle vm (.slice none 0 0) (.slice none 0 0) (.slice none 0 0) := (((((Blk.set hB 5 _).set 6 _).set 7 _).set 8 _).set 9 _).set 10 _
    have htc : ∀ q ∈ [c], ¬ Ty w3 q 3 := fun q hq ht => by simp at hq; subst hq; exact (Blk.ty hB).ne ht (by decide) rfl
    have hcl := HCL.out
    exact ⟨_, L, rfl, hO.keep k4 (fun b hb hm => by have := (hO.lt b hb).1; simp at hm; omega) htc, hL, hQ, hR.idle k4 htc, (hK.mono (by simp)).trans k4⟩
set_option maxHeartbeats 4000000 in
theorem Back_nil {w : World} : Calls Try.prog 22 #[.pointer none] w fun e w' => e = .returned (.tuple #[.slice none 0 0, .int .i64 8]) ∧ w = w' := by
  go_enter Try.func22, Try.ntmps22
  go_wp2_with fail
  go_ret2
  exact ⟨rfl, rfl⟩
theorem Join_nil {w : World} (n : Int) : Calls Try.prog 11 #[.pointer none, .int .i64 n] w fun e w' => e = .returned (.tuple #[.slice none 0 0, .int .i64 8]) ∧ w = w' := by
  go_enter Try.func11, Try.ntmps11
  go_wp2_with fail
  go_ret2
  exact ⟨rfl, rfl⟩
theorem without_nil {w : World} (n m : Int) : Calls Try.prog 38 #[.pointer none, .int .i64 n, .int .i64 m] w fun e w' => e = .returned (.tuple #[.slice none 0 0, .int .i64 8]) ∧ w = w' := by
  go_enter Try.func38, Try.ntmps38
  go_wp2_with fail
  go_ret2
  exact ⟨rfl, rfl⟩
section
variable {w : World} {c kb s g d sb base B : Nat} {t : Ct} {vm vt vn vd : Value}
set_option maxHeartbeats 4000000 in
theorem Join_ok (h : CtB w c kb s g t vm vt vn vd) (hr : CtR w t vm vt vn vd base) (hd : CtD w d sb s (stT t.epoch t.top t.mem) B) (hB : B ≤ 100000) (hcd : c ≠ d ∧ c ≠ sb ∧ c ≠ s) (hn : ∀ n ∈ t.mem, 1 ≤ n ∧ n ≤ 5) (h0 : 0 < t.mem.length) (he : I64 t.epoch) (ht : 0 ≤ t.top ∧ t.top < 1099511627776)
    (hnum : t.num = 0) (node : Int) (h1 : 1 ≤ node ∧ node ≤ 5) (hnot : ¬ node ∈ t.mem) :
    Calls Try.prog 11 #[.pointer (some ⟨c, 0, none⟩), .int .i64 node] w (Began w c kb s g d sb B t (bothL t.mem [node] 0) 0 vm) := by
  obtain ⟨n1, n2⟩ := h1
  have HTO := Lib.hid (show 0 < (bothL t.mem [node] 0).length from List.length_pos_of_mem (bothL_mem (n := node) ⟨n1, n2⟩ (by omega) (.inr (by simp))))
  have q1 : decide (1 ≤ node) = true := decide_eq_true n1
  have q2 : decide (node ≤ 5) = true := decide_eq_true n2
  obtain ⟨c4, _⟩ := ctc_4 h
  obtain ⟨ma, mc, rfl⟩ := hr.mem.islice
  have HCT := Lib.hid (Contains_any (w := w) _ t.mem node hr.mem.irv (by have := hr.memn; omega) false (decide_eq_false hnot).symm)
  have HMY := Lib.hid (may_any (w := w) h true 0 (by unfold mayErr; rw [if_neg (by omega), if_neg (by decide)]))
  have HBG := Lib.hid (fun (w2 : World) (k2 : Keep [] w w2) (v2 : Value) (hv : Own w2 0 3 v2 (ints (bothL t.mem [node] 0))) => begin_any (w := w2) (h.keep k2 (by simp)) (hr.still k2) (hd.still k2) hB hcd v2 (bothL t.mem [node] 0) 0 hv hn (bothL_len _ _ _) ⟨h0, HTO.out⟩ he ht)
  have HRV := Lib.hid hr.mem.irv
  have HML := Lib.hid hr.memn
  clear h hr hd hB hcd hn h0 he ht hnum hnot
  go_enter Try.func11, Try.ntmps11
  go_wp2_with fail
  refine HCT.out.mono ?_
  rintro e w1 ⟨rfl, rfl⟩
  go_wp2_with fail
  refine HMY.out.mono ?_
  rintro e w1 ⟨rfl, rfl⟩
  go_wp2_with fail
  have hrow : Rv (w.alloc (.cells #[.int .i64 node] 3)) 1 (.slice (some ⟨w.heap.size, 0, none⟩) 1 1) 1 (ints [node]) := Rv.new _ (ints [node]) 3 1 1 1 rfl (by omega) w.heap.size rfl
  have K1 := (Keep.refl [] w).alloc (.cells #[.int .i64 node] 3)
  refine (both_any _ _ t.mem [node] 0 (HRV.out.keep K1 (by simp)) hrow (by have := HML.out; omega) (by simp)).mono ?_
  rintro e w2 ⟨v2, rfl, hO, k2⟩
  go_wp2_with fail
  refine (HBG.out w2 (K1.trans k2) v2 (hO.mono (by omega))).mono ?_
  rintro e w3 ⟨v, L, vn', base', rfl, a1, a2, a3, a4, a5, a6⟩
  go_wp2_with fail
  go_ret2
  have hz := (K1.trans k2).size
  exact ⟨_, L, v2, vn', base', rfl, a1.mono hz, a2, a3, a4, a5, ((K1.trans k2).mono (by simp)).trans a6⟩
set_option maxHeartbeats 4000000 in
theorem without_ok (h : CtB w c kb s g t vm vt vn vd) (hr : CtR w t vm vt vn vd base) (hd : CtD w d sb s (stT t.epoch t.top t.mem) B) (hB : B ≤ 100000) (hcd : c ≠ d ∧ c ≠ sb ∧ c ≠ s) (hn : ∀ n ∈ t.mem, 1 ≤ n ∧ n ≤ 5) (h0 : 1 < t.mem.length) (he : I64 t.epoch) (ht : 0 ≤ t.top ∧ t.top < 1099511627776)
    (hnum : t.num = 0) (node lost : Int) (hin : node ∈ t.mem) (hto : 0 < (bothL t.mem [] node).length) :
    Calls Try.prog 38 #[.pointer (some ⟨c, 0, none⟩), .int .i64 node, .int .i64 lost] w (Began w c kb s g d sb B t (bothL t.mem [] node) lost vm) := by
  have q1 : decide (1 < (t.mem.length : Int)) = true := decide_eq_true (by omega)
  obtain ⟨c4, _⟩ := ctc_4 h
  obtain ⟨ma, mc, rfl⟩ := hr.mem.islice
  have HCT := Lib.hid (Contains_any (w := w) _ t.mem node hr.mem.irv (by have := hr.memn; omega) true (decide_eq_true hin).symm)
  have HMY := Lib.hid (may_any (w := w) h true 0 (by unfold mayErr; rw [if_neg (by omega), if_neg (by decide)]))
  have HBG := Lib.hid (fun (w2 : World) (k2 : Keep [] w w2) (v2 : Value) (hv : Own w2 0 3 v2 (ints (bothL t.mem [] node))) => begin_any (w := w2) (h.keep k2 (by simp)) (hr.still k2) (hd.still k2) hB hcd v2 (bothL t.mem [] node) lost hv hn (bothL_len _ _ _) ⟨by omega, hto⟩ he ht)
  have HRV := Lib.hid hr.mem.irv
  have HML := Lib.hid hr.memn
  clear h hr hd hB hcd hn he ht hnum hin hto
  go_enter Try.func38, Try.ntmps38
  go_wp2_with fail
  refine HCT.out.mono ?_
  rintro e w1 ⟨rfl, rfl⟩
  go_wp2_with fail
  refine HMY.out.mono ?_
  rintro e w1 ⟨rfl, rfl⟩
  go_wp2_with fail
  refine (both_any _ (.slice none 0 0) t.mem [] node HRV.out (Rv.nil w 1) (by have := HML.out; omega) (by simp)).mono ?_
  rintro e w2 ⟨v2, rfl, hO, k2⟩
  go_wp2_with fail
  refine (HBG.out w2 k2 v2 (hO.mono (by omega))).mono ?_
  rintro e w3 ⟨v, L, vn', base', rfl, a1, a2, a3, a4, a5, a6⟩
  go_wp2_with fail
  go_ret2
  have hz := k2.size
  exact ⟨_, L, v2, vn', base', rfl, a1.mono hz, a2, a3, a4, a5, (k2.mono (by simp)).trans a6⟩
/-- The last one does not leave. -/
theorem without_last (h : CtB w c kb s g t vm vt vn vd) (hr : CtR w t vm vt vn vd base) (h0 : t.mem.length = 1) (hnum : t.num = 0) (node lost : Int) (hin : node ∈ t.mem) :
    Calls Try.prog 38 #[.pointer (some ⟨c, 0, none⟩), .int .i64 node, .int .i64 lost] w fun e w' => e = .returned (.tuple #[.slice none 0 0, .int .i64 1]) ∧ w = w' := by
  obtain ⟨c4, _⟩ := ctc_4 h
  obtain ⟨ma, mc, rfl⟩ := hr.mem.islice
  have HCT := Lib.hid (Contains_any (w := w) _ t.mem node hr.mem.irv (by have := hr.memn; omega) true (decide_eq_true hin).symm)
  have HMY := Lib.hid (may_any (w := w) h false 1 (by unfold mayErr; rw [if_neg (by omega), if_pos rfl]))
  have q1 : decide (1 < (t.mem.length : Int)) = false := decide_eq_false (by omega)
  have q2 : decide (1 < t.mem.length) = false := decide_eq_false (by omega)
  clear h hr hnum hin h0
  go_enter Try.func38, Try.ntmps38
  go_wp2_with fail
  refine HCT.out.mono ?_
  rintro e w1 ⟨rfl, rfl⟩
  go_wp2_with fail
  refine HMY.out.mono ?_
  rintro e w1 ⟨rfl, rfl⟩
  go_wp2_with fail
  go_ret2
  exact ⟨rfl, rfl⟩
theorem Leave_via (node : Int) (Q : Ending → World → Prop) (hc : Calls Try.prog 38 #[.pointer (some ⟨c, 0, none⟩), .int .i64 node, .int .i64 0] w fun e w' => ∃ v m, e = .returned (.tuple #[v, .int .i64 m]) ∧ Q e w') :
    Calls Try.prog 17 #[.pointer (some ⟨c, 0, none⟩), .int .i64 node] w Q := by
  have HC := Lib.hid hc
  clear hc
  go_enter Try.func17, Try.ntmps17
  go_wp2_with fail
  refine HC.out.mono ?_
  rintro e w1 ⟨v, m, rfl, hq⟩
  have HQ := Lib.hid hq
  clear hq
  go_wp2_with fail
  exact HQ.out
theorem Lose_via (node : Int) (Q : Ending → World → Prop) (hc : Calls Try.prog 38 #[.pointer (some ⟨c, 0, none⟩), .int .i64 node, .int .i64 node] w fun e w' => ∃ v m, e = .returned (.tuple #[v, .int .i64 m]) ∧ Q e w') :
    Calls Try.prog 23 #[.pointer (some ⟨c, 0, none⟩), .int .i64 node] w Q := by
  have HC := Lib.hid hc
  clear hc
  go_enter Try.func23, Try.ntmps23
  go_wp2_with fail
  refine HC.out.mono ?_
  rintro e w1 ⟨v, m, rfl, hq⟩
  have HQ := Lib.hid hq
  clear hq
  go_wp2_with fail
  exact HQ.out
end
end Go.Proofs.Ytcoaobdijlppgaa
