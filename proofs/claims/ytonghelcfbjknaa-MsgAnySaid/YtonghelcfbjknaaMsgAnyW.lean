/- The law MsgAny: its walk. -/
import Derived.Test.YtonghelcfbjknaaMsgStep
namespace Go.Proofs.Ytonghelcfbjknaa
open Go.ChangeShapes Go.WideShapes Go.ChangeAt Go.RowKit
set_option linter.unusedVariables false
set_option linter.unusedSimpArgs false

theorem may_ms_sz {m : Ms} (h : mayM m = true) : MsSz m := by
  have h := (mayM_iff m).1 h
  refine ⟨by have := h.key; omega, ?_, ?_, ?_, by have := h.itsn; omega, by have := h.mksn; omega, ?_, ?_⟩
  · rcases h.it with h1 | h1
    · rw [h1]; decide
    · have := may_sizes h1; omega
  · intro y hy
    have := may_sizes (List.all_eq_true.1 h.its y hy); omega
  · intro y hy
    have := mksOk_all h.mks y hy; omega
  · rcases h.mem with h1 | h1
    · omega
    · have := (nodesOk_len h1).1; omega
  · rcases h.old with h1 | h1
    · omega
    · have := (nodesOk_len h1).1; omega
def manyJ (w0 : World) (b : Nat) (m : Ms) (ia ka ma oa va : Option Addr) (na ca nk ck nm cm no co vcap : Nat) (B : List Nat) (l : Nat → Bool) (x : Nat → Value) (w' : World) : Prop :=
  (Blk w' b (msC m (.slice ia na ca) (.slice ka nk ck) (.slice ma nm cm) (.slice oa no co)) 29) ∧
  (MsRd w' m (.slice ia na ca) (.slice ka nk ck) (.slice ma nm cm) (.slice oa no co)) ∧
  (Rd w' (.slice va B.length vcap) B) ∧
  (Keep [] w0 w') ∧
  (l 0 = true → x 0 = .agg (msC m (.slice ia na ca) (.slice ka nk ck) (.slice ma nm cm) (.slice oa no co)).toArray) ∧
  (l 1 = true → x 1 = .bool true) ∧
  (l 2 = true → x 2 = .bool true) ∧
  (l 3 = true → x 3 = .agg (msC m (.slice ia na ca) (.slice ka nk ck) (.slice ma nm cm) (.slice oa no co)).toArray) ∧
  (l 4 = true → Buf w' 0 5 (x 4) B) ∧
  (l 5 = true → x 5 = .string (toStr B)) ∧
  (l 6 = true → x 6 = .slice va B.length vcap) ∧
  (l 7 = true → x 7 = .string (toStr B)) ∧
  (l 8 = true → x 8 = .bool true) ∧
  (l 9 = true → x 9 = .bool true) ∧
  (l 10 = true → x 10 = .bool true)
set_option maxRecDepth 100000 in
set_option maxHeartbeats 8000000 in
theorem msgAny_walk (a0 : Option Addr) (len0 cap0 : Nat) (z0 : List Int) (w : World) (w0 : IsRow .u8 w a0 len0 cap0 z0) :
    Calls Try.prog 5 #[.slice a0 len0 cap0] w fun e w' => e = .returned (.bool true) ∧ Below w.heap.size w w' := by
  obtain ⟨A, hAl, hAm, hA, hAb⟩ := w0.rd
  clear w0
  subst hAl
  go_enter Try.func5, Try.ntmps5
  go_wp2_with fail
  refine (begun19 w).mono ?_
  rintro e w0 ⟨rfl, k0⟩
  go_wp2_with fail
  refine (Short_any _ A 150 (hA.keep k0 (by simp)) (by omega) (by omega)).mono ?_
  rintro e w0' ⟨v1, rfl, rfl, hr, ho⟩
  have HBB : Hid (∀ c ∈ A.take 150, c < 256) := Lib.hid (fun c hc => hAb c (List.mem_of_mem_take hc))
  have hBl : (A.take 150).length ≤ 150 := by simp; omega
  clear hAb hA hAm ho
  generalize A.take 150 = B at *
  obtain ⟨_, va, vcap, rfl, _, _⟩ := id hr
  go_wp2_with fail
  refine (decode_any _ B hr HBB.out (by omega)).mono ?_
  rintro e w1 ⟨k1, hd⟩
  have hZ1 := Blk.new w1 (msC ms0 (.slice none 0 0) (.slice none 0 0) (.slice none 0 0) (.slice none 0 0)) 29
  have K1 := (k0.trans k1).alloc (.cells (msC ms0 (.slice none 0 0) (.slice none 0 0) (.slice none 0 0) (.slice none 0 0)).toArray 29)
  have hrb1 := (hr.keep k1 (by simp)).alloc (.cells (msC ms0 (.slice none 0 0) (.slice none 0 0) (.slice none 0 0) (.slice none 0 0)).toArray 29)
  have HLO := Lib.hid (show w.heap.size ≤ w1.heap.size from (k0.trans k1).size)
  have HRB := Lib.hid (hr.keep k1 (by simp))
  cases hdm : decM B with
  | none =>
    rw [hdm] at hd
    obtain rfl := hd
    have HONE := Lib.hid (msC_one ms0 none none none none 0 0 0 0 0 0 0 0)
    clear hdm
    go_upto_region 6 with (refine wpList_store_blk rfl 29 _ _ rfl w1.heap.size (msC ms0 (.slice none 0 0) (.slice none 0 0) (.slice none 0 0) (.slice none 0 0)) (msC ms0 (.slice none 0 0) (.slice none 0 0) (.slice none 0 0) (.slice none 0 0)) 29 rfl rfl hZ1 rfl Try.sizeMsg HONE.out ?_; intro w2 hM2 k2)
    have K2 : Keep [] w w2 := K1.then k2 (by intro q hq hlt; have := HLO.out; simp at hq; omega)
    have c0 : w2.cell? ⟨w1.heap.size, 0, none⟩ = some (.int .i64 0) := msc_0 hM2
    go_wp2_with fail
    go_ret
    exact ⟨rfl, K2.below⟩
  | some m =>
    rw [hdm] at hd
    obtain ⟨vi, vk, vm, vo, rfl, hr1⟩ := hd
    obtain ⟨hmay, henc⟩ := decM_some hdm
    have hz := may_ms_sz hmay
    have HMAY := Lib.hid hmay
    have HENC := Lib.hid henc
    clear hdm hmay henc
    obtain ⟨_, ia, ca, rfl, _, _⟩ := id hr1.its
    obtain ⟨_, ka, ck, rfl, _, _⟩ := id hr1.mks
    obtain ⟨_, ma, cm, rfl, _, _⟩ := id hr1.mem
    obtain ⟨_, oa, co, rfl, _, _⟩ := id hr1.old
    have HONE := Lib.hid (msC_one m ia ka ma oa m.its.length ca m.mks.length ck m.mem.length cm m.old.length co)
    go_upto_region 6 with (refine wpList_store_blk rfl 29 _ _ rfl w1.heap.size (msC ms0 (.slice none 0 0) (.slice none 0 0) (.slice none 0 0) (.slice none 0 0)) (msC m (.slice ia m.its.length ca) (.slice ka m.mks.length ck) (.slice ma m.mem.length cm) (.slice oa m.old.length co)) 29 rfl rfl hZ1 rfl Try.sizeMsg HONE.out ?_; intro w3 hM3 k2)
    have K3 : Keep [] w w3 := K1.then k2 (by intro q hq hlt; have := HLO.out; simp at hq; omega)
    have k13 := ((Keep.refl [w1.heap.size] w1).alloc (.cells (msC ms0 (.slice none 0 0) (.slice none 0 0) (.slice none 0 0) (.slice none 0 0)).toArray 29)).trans k2
    have hr3 := hr1.past k13 (by intro q hq; simp at hq; omega)
    have hrb3 : Rd w3 (.slice va B.length vcap) B := Rv.keep0 HRB.out k13 (fun q hq hp hm => by have := HRB.out.lo q hq hp; simp at hm; omega)
    clear K1 k2 k13 hr1 hrb1 hZ1 hr k0 k1
    obtain ⟨b, hb⟩ : ∃ b, b = w1.heap.size := ⟨_, rfl⟩
    rw [← hb] at hM3 ⊢
    clear hb
    go_upto_region 8 with fail
    refine wp_region_inv (manyJ w b m ia ka ma oa va m.its.length ca m.mks.length ck m.mem.length cm m.old.length co vcap B) (by kernel_rfl) (by kernel_rfl) (by kernel_rfl) ?_ (Steps.cons 0 ?_ (Steps.cons 1 ?_ (Steps.cons 2 ?_ (Steps.cons 3 ?_ (Steps.cons 4 ?_ (Steps.cons 5 ?_ (Steps.cons 6 ?_ (Steps.cons 7 ?_ (Steps.cons 8 ?_ (Steps.cons 9 ?_ (Steps.cons 10 ?_ (Steps.nil 11)))))))))))) 11 rfl ?_
    · intro x
      exact ⟨hM3.drew, hr3.keep (Keep.refl [] _).drew, hrb3.keep (Keep.refl [] _).drew (by simp), K3.drew, fun h => absurd h (by decide), fun h => absurd h (by decide), fun h => absurd h (by decide), fun h => absurd h (by decide), fun h => absurd h (by decide), fun h => absurd h (by decide), fun h => absurd h (by decide), fun h => absurd h (by decide), fun h => absurd h (by decide), fun h => absurd h (by decide), fun h => absurd h (by decide)⟩
    · intro l x w' hJ hi hd
      obtain ⟨hM, hr, hrb, hK, h0, h1, h2, h3, h4, h5, h6, h7, h8, h9, h10⟩ := hJ
      refine Runs.of (b := ?bA0) ?eA0 ?_
      case eA0 => simp only [putV, Act.put, List.setIfInBounds_toArray, List.set_cons_zero, List.set_cons_succ]; rfl
      intro K' hK'
      refine step_load_rowg 29 _ rfl b rfl 29 (msC m (.slice ia m.its.length ca) (.slice ka m.mks.length ck) (.slice ma m.mem.length cm) (.slice oa m.old.length co)).toArray (0, 0) _ hM Try.underlying29 rfl Try.sizeMsg (by rfl) ?_
      exact hK'.go _ rfl ⟨hM, hr, hrb, hK, fun _ => rfl, h1, h2, h3, h4, h5, h6, h7, h8, h9, h10⟩
    · intro l x w' hJ hi hd
      obtain ⟨hM, hr, hrb, hK, h0, h1, h2, h3, h4, h5, h6, h7, h8, h9, h10⟩ := hJ
      have e0 := h0 (show l 0 = true by first | exact hd.1 rfl | exact hd.2.1 rfl | exact hd.2.2.1 rfl | exact hd.2.2.2.1 rfl | exact hd.2.2.2.2.1 rfl | exact hd.2.2.2.2.2.1 rfl)
      refine Runs.of (b := ?bA1) ?eA1 ?_
      case eA1 => simp only [putV, Act.put, List.setIfInBounds_toArray, List.set_cons_zero, List.set_cons_succ, e0]; rfl
      intro K' hK'
      go_simp
      refine (refMsg_any m _ _ _ _ hr hz true HMAY.out.symm).mono ?_
      rintro e w2 ⟨rfl, k2⟩
      go_simp
      exact hK'.go _ rfl ⟨hM.keep k2 (by simp), hr.keep k2, hrb.keep k2 (by simp), hK.trans k2, h0, fun _ => rfl, h2, h3, fun h => (h4 h).keep k2 (by simp), h5, h6, h7, h8, h9, h10⟩
    · intro l x w' hJ hi hd
      obtain ⟨hM, hr, hrb, hK, h0, h1, h2, h3, h4, h5, h6, h7, h8, h9, h10⟩ := hJ
      have e1 := h1 (show l 1 = true by first | exact hd.1 rfl | exact hd.2.1 rfl | exact hd.2.2.1 rfl | exact hd.2.2.2.1 rfl | exact hd.2.2.2.2.1 rfl | exact hd.2.2.2.2.2.1 rfl)
      refine Runs.of (b := ?bA2) ?eA2 ?_
      case eA2 => simp only [putV, Act.put, List.setIfInBounds_toArray, List.set_cons_zero, List.set_cons_succ, e1]; rfl
      intro K' hK'
      go_simp
      exact hK'.go _ rfl ⟨hM, hr, hrb, hK, h0, h1, fun _ => rfl, h3, h4, h5, h6, h7, h8, h9, h10⟩
    · intro l x w' hJ hi hd
      obtain ⟨hM, hr, hrb, hK, h0, h1, h2, h3, h4, h5, h6, h7, h8, h9, h10⟩ := hJ
      have e2 := h2 (show l 2 = true by first | exact hd.1 rfl | exact hd.2.1 rfl | exact hd.2.2.1 rfl | exact hd.2.2.2.1 rfl | exact hd.2.2.2.2.1 rfl | exact hd.2.2.2.2.2.1 rfl)
      refine Runs.of (b := ?bA3) ?eA3 ?_
      case eA3 => simp only [putV, Act.put, List.setIfInBounds_toArray, List.set_cons_zero, List.set_cons_succ, e2]; rfl
      intro K' hK'
      refine step_load_rowg 29 _ rfl b rfl 29 (msC m (.slice ia m.its.length ca) (.slice ka m.mks.length ck) (.slice ma m.mem.length cm) (.slice oa m.old.length co)).toArray (0, 0) _ hM Try.underlying29 rfl Try.sizeMsg (by rfl) ?_
      exact hK'.go _ rfl ⟨hM, hr, hrb, hK, h0, h1, h2, fun _ => rfl, h4, h5, h6, h7, h8, h9, h10⟩
    · intro l x w' hJ hi hd
      obtain ⟨hM, hr, hrb, hK, h0, h1, h2, h3, h4, h5, h6, h7, h8, h9, h10⟩ := hJ
      have e2 := h2 (show l 2 = true by first | exact hd.1 rfl | exact hd.2.1 rfl | exact hd.2.2.1 rfl | exact hd.2.2.2.1 rfl | exact hd.2.2.2.2.1 rfl | exact hd.2.2.2.2.2.1 rfl)
      have e3 := h3 (show l 3 = true by first | exact hd.1 rfl | exact hd.2.1 rfl | exact hd.2.2.1 rfl | exact hd.2.2.2.1 rfl | exact hd.2.2.2.2.1 rfl | exact hd.2.2.2.2.2.1 rfl)
      refine Runs.of (b := ?bA4) ?eA4 ?_
      case eA4 => simp only [putV, Act.put, List.setIfInBounds_toArray, List.set_cons_zero, List.set_cons_succ, e2, e3]; rfl
      intro K' hK'
      go_simp
      refine (encode_any m _ _ _ _ hr hz).mono ?_
      rintro e w2 ⟨v2, rfl, hb2, _, k2⟩
      rw [HENC.out] at hb2
      go_simp
      exact hK'.go v2 rfl ⟨hM.keep k2 (by simp), hr.keep k2, hrb.keep k2 (by simp), hK.trans k2, h0, h1, h2, h3, fun _ => hb2.mono (by omega), h5, h6, h7, h8, h9, h10⟩
    · intro l x w' hJ hi hd
      obtain ⟨hM, hr, hrb, hK, h0, h1, h2, h3, h4, h5, h6, h7, h8, h9, h10⟩ := hJ
      have e2 := h2 (show l 2 = true by first | exact hd.1 rfl | exact hd.2.1 rfl | exact hd.2.2.1 rfl | exact hd.2.2.2.1 rfl | exact hd.2.2.2.2.1 rfl | exact hd.2.2.2.2.2.1 rfl)
      have e4 := h4 (show l 4 = true by first | exact hd.1 rfl | exact hd.2.1 rfl | exact hd.2.2.1 rfl | exact hd.2.2.2.1 rfl | exact hd.2.2.2.2.1 rfl | exact hd.2.2.2.2.2.1 rfl)
      have hc := Rd.str (P := Try.prog) (dst := 9) e4.rd HBB.out Try.underlying33 Try.underlying5 Try.underlying9
      obtain ⟨ta, tcap, ht⟩ := e4.slice
      rw [ht] at hc
      refine Runs.of (b := ?bA5) ?eA5 ?_
      case eA5 => simp only [putV, Act.put, List.setIfInBounds_toArray, List.set_cons_zero, List.set_cons_succ, e2, ht]; rfl
      intro K' hK'
      go_simp
      exact hK'.go _ rfl ⟨hM, hr, hrb, hK, h0, h1, h2, h3, h4, fun _ => rfl, h6, h7, h8, h9, h10⟩
    · intro l x w' hJ hi hd
      obtain ⟨hM, hr, hrb, hK, h0, h1, h2, h3, h4, h5, h6, h7, h8, h9, h10⟩ := hJ
      have e2 := h2 (show l 2 = true by first | exact hd.1 rfl | exact hd.2.1 rfl | exact hd.2.2.1 rfl | exact hd.2.2.2.1 rfl | exact hd.2.2.2.2.1 rfl | exact hd.2.2.2.2.2.1 rfl)
      refine Runs.of (b := ?bA6) ?eA6 ?_
      case eA6 => simp only [putV, Act.put, List.setIfInBounds_toArray, List.set_cons_zero, List.set_cons_succ, e2]; rfl
      intro K' hK'
      go_simp
      exact hK'.go _ rfl ⟨hM, hr, hrb, hK, h0, h1, h2, h3, h4, h5, fun _ => rfl, h7, h8, h9, h10⟩
    · intro l x w' hJ hi hd
      obtain ⟨hM, hr, hrb, hK, h0, h1, h2, h3, h4, h5, h6, h7, h8, h9, h10⟩ := hJ
      have e2 := h2 (show l 2 = true by first | exact hd.1 rfl | exact hd.2.1 rfl | exact hd.2.2.1 rfl | exact hd.2.2.2.1 rfl | exact hd.2.2.2.2.1 rfl | exact hd.2.2.2.2.2.1 rfl)
      have e6 := h6 (show l 6 = true by first | exact hd.1 rfl | exact hd.2.1 rfl | exact hd.2.2.1 rfl | exact hd.2.2.2.1 rfl | exact hd.2.2.2.2.1 rfl | exact hd.2.2.2.2.2.1 rfl)
      have hc := Rd.str (P := Try.prog) (dst := 9) hrb HBB.out Try.underlying33 Try.underlying5 Try.underlying9
      refine Runs.of (b := ?bA7) ?eA7 ?_
      case eA7 => simp only [putV, Act.put, List.setIfInBounds_toArray, List.set_cons_zero, List.set_cons_succ, e2, e6]; rfl
      intro K' hK'
      go_simp
      exact hK'.go _ rfl ⟨hM, hr, hrb, hK, h0, h1, h2, h3, h4, h5, h6, fun _ => rfl, h8, h9, h10⟩
    · intro l x w' hJ hi hd
      obtain ⟨hM, hr, hrb, hK, h0, h1, h2, h3, h4, h5, h6, h7, h8, h9, h10⟩ := hJ
      have e2 := h2 (show l 2 = true by first | exact hd.1 rfl | exact hd.2.1 rfl | exact hd.2.2.1 rfl | exact hd.2.2.2.1 rfl | exact hd.2.2.2.2.1 rfl | exact hd.2.2.2.2.2.1 rfl)
      have e5 := h5 (show l 5 = true by first | exact hd.1 rfl | exact hd.2.1 rfl | exact hd.2.2.1 rfl | exact hd.2.2.2.1 rfl | exact hd.2.2.2.2.1 rfl | exact hd.2.2.2.2.2.1 rfl)
      have e7 := h7 (show l 7 = true by first | exact hd.1 rfl | exact hd.2.1 rfl | exact hd.2.2.1 rfl | exact hd.2.2.2.1 rfl | exact hd.2.2.2.2.1 rfl | exact hd.2.2.2.2.2.1 rfl)
      refine Runs.of (b := ?bA8) ?eA8 ?_
      case eA8 => simp only [putV, Act.put, List.setIfInBounds_toArray, List.set_cons_zero, List.set_cons_succ, e2, e5, e7]; rfl
      intro K' hK'
      go_simp
      exact hK'.go _ rfl ⟨hM, hr, hrb, hK, h0, h1, h2, h3, h4, h5, h6, h7, fun _ => rfl, h9, h10⟩
    · intro l x w' hJ hi hd
      obtain ⟨hM, hr, hrb, hK, h0, h1, h2, h3, h4, h5, h6, h7, h8, h9, h10⟩ := hJ
      have e2 := h2 (show l 2 = true by first | exact hd.1 rfl | exact hd.2.1 rfl | exact hd.2.2.1 rfl | exact hd.2.2.2.1 rfl | exact hd.2.2.2.2.1 rfl | exact hd.2.2.2.2.2.1 rfl)
      have e8 := h8 (show l 8 = true by first | exact hd.1 rfl | exact hd.2.1 rfl | exact hd.2.2.1 rfl | exact hd.2.2.2.1 rfl | exact hd.2.2.2.2.1 rfl | exact hd.2.2.2.2.2.1 rfl)
      refine Runs.of (b := ?bA9) ?eA9 ?_
      case eA9 => simp only [putV, Act.put, List.setIfInBounds_toArray, List.set_cons_zero, List.set_cons_succ, e2, e8]; rfl
      intro K' hK'
      go_simp
      exact hK'.go _ rfl ⟨hM, hr, hrb, hK, h0, h1, h2, h3, h4, h5, h6, h7, h8, fun _ => rfl, h10⟩
    · intro l x w' hJ hi hd
      obtain ⟨hM, hr, hrb, hK, h0, h1, h2, h3, h4, h5, h6, h7, h8, h9, h10⟩ := hJ
      have e9 := h9 (show l 9 = true by first | exact hd.1 rfl | exact hd.2.1 rfl | exact hd.2.2.1 rfl | exact hd.2.2.2.1 rfl | exact hd.2.2.2.2.1 rfl | exact hd.2.2.2.2.2.1 rfl)
      refine Runs.of (b := ?bA10) ?eA10 ?_
      case eA10 => simp only [putV, Act.put, List.setIfInBounds_toArray, List.set_cons_zero, List.set_cons_succ, e9]; rfl
      intro K' hK'
      go_simp
      exact hK'.go _ rfl ⟨hM, hr, hrb, hK, h0, h1, h2, h3, h4, h5, h6, h7, h8, h9, fun _ => rfl⟩
    · intro l x w3 hJ hl
      obtain ⟨hM, hr, hrb, hK, h0, h1, h2, h3, h4, h5, h6, h7, h8, h9, h10⟩ := hJ
      have e10 := h10 (hl 10 (by decide))
      simp only [putV, Act.put, List.setIfInBounds_toArray, List.set_cons_zero, List.set_cons_succ, e10]
      clear h0 h1 h2 h3 h4 h5 h6 h7 h8 h9 h10 e10 hl
      go_wp2_with fail
      go_ret
      exact ⟨rfl, hK.below⟩
end Go.Proofs.Ytonghelcfbjknaa
