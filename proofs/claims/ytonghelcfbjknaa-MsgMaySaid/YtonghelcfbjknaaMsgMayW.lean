/- The law MsgMay: its walk. -/
import Derived.Test.YtonghelcfbjknaaMsgStep
namespace Go.Proofs.Ytonghelcfbjknaa
open Go.ChangeShapes Go.WideShapes Go.ChangeAt Go.RowKit
set_option linter.unusedVariables false
set_option linter.unusedSimpArgs false

def mmayJ (w0 : World) (b : Nat) (m1 : Ms) (ia ka ma oa : Option Addr) (na ca nk ck nm cm no co : Nat) (r : Bool) (l : Nat → Bool) (x : Nat → Value) (w' : World) : Prop :=
  (Blk w' b (msC m1 (.slice ia na ca) (.slice ka nk ck) (.slice ma nm cm) (.slice oa no co)) 29) ∧
  (MsRd w' m1 (.slice ia na ca) (.slice ka nk ck) (.slice ma nm cm) (.slice oa no co)) ∧
  (Keep [] w0 w') ∧
  (l 0 = true → x 0 = .agg (msC m1 (.slice ia na ca) (.slice ka nk ck) (.slice ma nm cm) (.slice oa no co)).toArray) ∧
  (l 1 = true → x 1 = .bool r) ∧
  (l 2 = true → x 2 = .agg (msC m1 (.slice ia na ca) (.slice ka nk ck) (.slice ma nm cm) (.slice oa no co)).toArray) ∧
  (l 3 = true → x 3 = .bool r) ∧
  (l 4 = true → x 4 = .bool true) ∧
  (l 5 = true → x 5 = .bool true)
set_option maxRecDepth 100000 in
set_option maxHeartbeats 8000000 in
theorem msgMay_walk (v0 : Value) (w : World) (w0 : IsMsg w v0) :
    Calls Try.prog 3 #[v0] w fun e w' => e = .returned (.bool true) ∧ Below w.heap.size w w' := by
  obtain ⟨m, vi, vk, vm, vo, rfl, hr0, hraw, _⟩ := w0
  have hM0 := Blk.new w (msC m vi vk vm vo) 29
  have hr1 := hr0.alloc (.cells (msC m vi vk vm vo).toArray 29)
  have K1 := (Keep.refl [] w).alloc (.cells (msC m vi vk vm vo).toArray 29)
  go_enter Try.func3, Try.ntmps3
  go_wp2_with fail
  refine (begun19 _).mono ?_
  rintro e w1 ⟨rfl, k1⟩
  replace hM0 := hM0.keep k1 (by simp)
  replace hr1 := hr1.keep k1
  replace K1 := K1.trans k1
  have hbl := hM0.lt
  clear k1
  obtain ⟨b, hb⟩ : ∃ b, b = w.heap.size := ⟨_, rfl⟩
  rw [← hb] at hM0 hbl ⊢
  have HBL := Lib.hid (show w.heap.size ≤ b ∧ b < w1.heap.size by omega)
  clear hb hbl
  go_wp2_with (refine wpList_load_rowg 29 _ rfl b rfl 29 (msC m vi vk vm vo).toArray (0, 0) _ hM0 Try.underlying29 rfl Try.sizeMsg (by rfl) ?_)
  refine (msCut_any m vi vk vm vo hr1 hraw).mono ?_
  rintro e w2 ⟨ui, uk, um, uo, rfl, hr2, hsep, k2⟩
  have hM2 := hM0.keep k2 (by simp)
  have K2 := K1.trans k2
  obtain ⟨_, ia, ca, rfl, _, _⟩ := id hr2.its
  obtain ⟨_, ka, ck, rfl, _, _⟩ := id hr2.mks
  obtain ⟨_, ma, cm, rfl, _, _⟩ := id hr2.mem
  obtain ⟨_, oa, co, rfl, _, _⟩ := id hr2.old
  have hz := msCut_sz m hraw
  have HCUT := Lib.hid (fun w3 (k3 : Keep [b] w2 w3) => MsRd.cutKeep hr0 hr2 hsep HBL.out.1 HBL.out.2 k3)
  clear hsep hM0 hr1 K1 k2
  generalize msCut m = m1 at *
  have HONE := Lib.hid (msC_one m1 ia ka ma oa m1.its.length ca m1.mks.length ck m1.mem.length cm m1.old.length co)
  go_upto_region 5 with (refine wpList_store_blk rfl 29 _ _ rfl b (msC m vi vk vm vo) (msC m1 (.slice ia m1.its.length ca) (.slice ka m1.mks.length ck) (.slice ma m1.mem.length cm) (.slice oa m1.old.length co)) 29 rfl rfl hM2 rfl Try.sizeMsg HONE.out ?_; intro w3 hM3 k3)
  have hr3 := HCUT.out w3 k3
  have K3 : Keep [] w w3 := K2.then k3 (by intro q hq hlt; have := HBL.out; simp at hq; omega)
  clear hM2 K2 k3 HCUT hr2 hr0
  obtain ⟨r, hrr⟩ : ∃ r, r = mayM m1 := ⟨_, rfl⟩
  have HR := Lib.hid hrr
  clear hrr
  refine wp_region_inv (mmayJ w b m1 ia ka ma oa m1.its.length ca m1.mks.length ck m1.mem.length cm m1.old.length co r) (by kernel_rfl) (by kernel_rfl) (by kernel_rfl) ?_ (Steps.cons 0 ?_ (Steps.cons 1 ?_ (Steps.cons 2 ?_ (Steps.cons 3 ?_ (Steps.cons 4 ?_ (Steps.cons 5 ?_ (Steps.nil 6))))))) 6 rfl ?_
  · intro x
    exact ⟨hM3.drew, hr3.keep (Keep.refl [] _).drew, K3.drew, fun h => absurd h (by decide), fun h => absurd h (by decide), fun h => absurd h (by decide), fun h => absurd h (by decide), fun h => absurd h (by decide), fun h => absurd h (by decide)⟩
  · intro l x w' hJ hi hd
    obtain ⟨hM, hr, hK, h0, h1, h2, h3, h4, h5⟩ := hJ
    refine Runs.of (b := ?bM0) ?eM0 ?_
    case eM0 => simp only [putV, Act.put, List.setIfInBounds_toArray, List.set_cons_zero, List.set_cons_succ]; rfl
    intro K' hK'
    refine step_load_rowg 29 _ rfl b rfl 29 (msC m1 (.slice ia m1.its.length ca) (.slice ka m1.mks.length ck) (.slice ma m1.mem.length cm) (.slice oa m1.old.length co)).toArray (0, 0) _ hM Try.underlying29 rfl Try.sizeMsg (by rfl) ?_
    exact hK'.go _ rfl ⟨hM, hr, hK, fun _ => rfl, h1, h2, h3, h4, h5⟩
  · intro l x w' hJ hi hd
    obtain ⟨hM, hr, hK, h0, h1, h2, h3, h4, h5⟩ := hJ
    have e0 := h0 (show l 0 = true by first | exact hd.1 rfl | exact hd.2.1 rfl | exact hd.2.2.1 rfl | exact hd.2.2.2.1 rfl | exact hd.2.2.2.2.1 rfl | exact hd.2.2.2.2.2.1 rfl)
    refine Runs.of (b := ?bM1) ?eM1 ?_
    case eM1 => simp only [putV, Act.put, List.setIfInBounds_toArray, List.set_cons_zero, List.set_cons_succ, e0]; rfl
    intro K' hK'
    go_simp
    refine (msMay_any m1 _ _ _ _ hr hz r HR.out).mono ?_
    rintro e w2 ⟨rfl, k2⟩
    go_simp
    exact hK'.go _ rfl ⟨hM.keep k2 (by simp), hr.keep k2, hK.trans k2, h0, fun _ => rfl, h2, h3, h4, h5⟩
  · intro l x w' hJ hi hd
    obtain ⟨hM, hr, hK, h0, h1, h2, h3, h4, h5⟩ := hJ
    refine Runs.of (b := ?bM2) ?eM2 ?_
    case eM2 => simp only [putV, Act.put, List.setIfInBounds_toArray, List.set_cons_zero, List.set_cons_succ]; rfl
    intro K' hK'
    refine step_load_rowg 29 _ rfl b rfl 29 (msC m1 (.slice ia m1.its.length ca) (.slice ka m1.mks.length ck) (.slice ma m1.mem.length cm) (.slice oa m1.old.length co)).toArray (0, 0) _ hM Try.underlying29 rfl Try.sizeMsg (by rfl) ?_
    exact hK'.go _ rfl ⟨hM, hr, hK, h0, h1, fun _ => rfl, h3, h4, h5⟩
  · intro l x w' hJ hi hd
    obtain ⟨hM, hr, hK, h0, h1, h2, h3, h4, h5⟩ := hJ
    have e2 := h2 (show l 2 = true by first | exact hd.1 rfl | exact hd.2.1 rfl | exact hd.2.2.1 rfl | exact hd.2.2.2.1 rfl | exact hd.2.2.2.2.1 rfl | exact hd.2.2.2.2.2.1 rfl)
    refine Runs.of (b := ?bM3) ?eM3 ?_
    case eM3 => simp only [putV, Act.put, List.setIfInBounds_toArray, List.set_cons_zero, List.set_cons_succ, e2]; rfl
    intro K' hK'
    go_simp
    refine (refMsg_any m1 _ _ _ _ hr hz r HR.out).mono ?_
    rintro e w2 ⟨rfl, k2⟩
    go_simp
    exact hK'.go _ rfl ⟨hM.keep k2 (by simp), hr.keep k2, hK.trans k2, h0, h1, h2, fun _ => rfl, h4, h5⟩
  · intro l x w' hJ hi hd
    obtain ⟨hM, hr, hK, h0, h1, h2, h3, h4, h5⟩ := hJ
    have e1 := h1 (show l 1 = true by first | exact hd.1 rfl | exact hd.2.1 rfl | exact hd.2.2.1 rfl | exact hd.2.2.2.1 rfl | exact hd.2.2.2.2.1 rfl | exact hd.2.2.2.2.2.1 rfl)
    have e3 := h3 (show l 3 = true by first | exact hd.1 rfl | exact hd.2.1 rfl | exact hd.2.2.1 rfl | exact hd.2.2.2.1 rfl | exact hd.2.2.2.2.1 rfl | exact hd.2.2.2.2.2.1 rfl)
    refine Runs.of (b := ?bM4) ?eM4 ?_
    case eM4 => simp only [putV, Act.put, List.setIfInBounds_toArray, List.set_cons_zero, List.set_cons_succ, e1, e3]; rfl
    intro K' hK'
    go_simp
    exact hK'.go _ rfl ⟨hM, hr, hK, h0, h1, h2, h3, fun _ => rfl, h5⟩
  · intro l x w' hJ hi hd
    obtain ⟨hM, hr, hK, h0, h1, h2, h3, h4, h5⟩ := hJ
    have e4 := h4 (show l 4 = true by first | exact hd.1 rfl | exact hd.2.1 rfl | exact hd.2.2.1 rfl | exact hd.2.2.2.1 rfl | exact hd.2.2.2.2.1 rfl | exact hd.2.2.2.2.2.1 rfl)
    refine Runs.of (b := ?bM5) ?eM5 ?_
    case eM5 => simp only [putV, Act.put, List.setIfInBounds_toArray, List.set_cons_zero, List.set_cons_succ, e4]; rfl
    intro K' hK'
    go_simp
    exact hK'.go _ rfl ⟨hM, hr, hK, h0, h1, h2, h3, h4, fun _ => rfl⟩
  · intro l x w3 hJ hl
    obtain ⟨hM, hr, hK, h0, h1, h2, h3, h4, h5⟩ := hJ
    have e5 := h5 (hl 5 (by decide))
    simp only [putV, Act.put, List.setIfInBounds_toArray, List.set_cons_zero, List.set_cons_succ, e5]
    clear h0 h1 h2 h3 h4 h5 e5 hl
    go_wp2_with fail
    go_ret
    exact ⟨rfl, hK.below⟩
end Go.Proofs.Ytonghelcfbjknaa
