/- The laws of messages: one message (begun). -/
import Derived.Test.YtonghelcfbjknaaMsgRef3
import Derived.Test.YtonghelcfbjknaaMsgEq4
import Derived.Test.YtonghelcfbjknaaMsgCut
namespace Go.Proofs.Ytonghelcfbjknaa
open Go.ChangeShapes Go.WideShapes Go.ChangeAt Go.RowKit
set_option linter.unusedVariables false
set_option linter.unusedSimpArgs false

def xKM : ByteArray := { data := #[107] }
def xM : Ms := ⟨13, 1, 2, 0, 0, 0, 0, 5, 1, xKM, 0, false, it0, [], [], [], 0, []⟩
theorem xM_may : mayM xM = true := (mayM_iff xM).2 ⟨by decide, by decide, by decide, by decide, by decide, by decide, by decide, by decide, by decide, by decide, by decide, by decide, by decide, .inl rfl, by decide, by decide, by decide, by decide, .inl rfl, .inl rfl⟩
theorem ms0_not : mayM ms0 = false := by
  cases h : mayM ms0 with
  | false => rfl
  | true => have := ((mayM_iff ms0).1 h).kind; simp [ms0] at this
theorem eqM_self (a : Ms) : eqM a a = true := (eqM_iff a a).2 rfl
theorem eqM_dec (a b : Ms) [Decidable (a = b)] : eqM a b = decide (a = b) := by
  by_cases h : a = b
  · rw [decide_eq_true h, (eqM_iff a b).2 h]
  · rw [decide_eq_false h]
    cases hb : eqM a b with
    | false => rfl
    | true => exact absurd ((eqM_iff a b).1 hb) h
theorem xM_ne : eqM xM ms0 = false := by
  cases h : eqM xM ms0 with
  | false => rfl
  | true => have := congrArg Ms.kind ((eqM_iff _ _).1 h); simp [xM, ms0] at this
theorem ms_bare (w : World) (m : Ms) (h1 : m.its = []) (h2 : m.mks = []) (h3 : m.mem = []) (h4 : m.old = []) : MsRd w m (.slice none 0 0) (.slice none 0 0) (.slice none 0 0) (.slice none 0 0) :=
  ⟨by rw [h1]; exact Rv.nil w 4, by rw [h2]; exact Rv.nil w 2, by rw [h3]; exact Rv.nil w 1, by rw [h4]; exact Rv.nil w 1⟩
theorem decM_nil : decM [] = none := by
  cases h : decM [] with
  | none => rfl
  | some m => obtain ⟨hm, e⟩ := decM_some h; exact absurd e (encM_ne hm)
theorem encM_length (m : Ms) : (encM m).length ≤ 2114 := by
  by_cases h : mayM m = true
  · have := mText_len ((mayM_iff m).1 h); rw [encM_len h]; omega
  · unfold encM; rw [if_neg h]; simp
theorem encM_none {m : Ms} (h : mayM m = false) : encM m = [] := by unfold encM; rw [if_neg (by rw [h]; decide)]
/-- A message of no more than its numbers. -/
theorem ms_bare_sz (m : Ms) (h0 : m.key.size ≤ 9223372036854775807) (hi : m.it = it0) (h1 : m.its = []) (h2 : m.mks = []) (h3 : m.mem = []) (h4 : m.old = []) : MsSz m :=
  ⟨h0, by rw [hi]; decide, by rw [h1]; simp, by rw [h2]; simp, by rw [h1]; simp, by rw [h2]; simp, by rw [h3]; simp, by rw [h4]; simp⟩
theorem MsRd.past {w w' : World} {m : Ms} {vi vk vm vo : Value} {S : List Nat} (h : MsRd w m vi vk vm vo) (k : Keep S w w') (hS : ∀ b ∈ S, w.heap.size ≤ b) : MsRd w' m vi vk vm vo :=
  ⟨Rv.keep0 h.its k (fun b hb hp hm => by have := h.its.lo b hb hp; have := hS b hm; omega), Rv.keep0 h.mks k (fun b hb hp hm => by have := h.mks.lo b hb hp; have := hS b hm; omega),
   Rv.keep0 h.mem k (fun b hb hp hm => by have := h.mem.lo b hb hp; have := hS b hm; omega), Rv.keep0 h.old k (fun b hb hp hm => by have := h.old.lo b hb hp; have := hS b hm; omega)⟩
theorem Rd.none (w : World) : Rd w (.slice none 0 0) [] := Rv.nil w 1
set_option maxRecDepth 100000 in
set_option maxHeartbeats 8000000 in
theorem begun19 (w : World) : Calls Try.prog 9 #[] w fun e w' => e = .returned (.bool true) ∧ Keep [] w w' := by
  have hbld : ∀ W : World, (Instr.build 29 #[(0, .int .i64 13), (1, .int .i64 1), (2, .int .i64 2), (9, .string { data := #[107] }), (8, .int .i64 1), (7, .int .i64 5)]).run Try.prog W = .ok (msV xM (.slice none 0 0) (.slice none 0 0) (.slice none 0 0) (.slice none 0 0)) W := fun W => run_build W _ _ _ (by kernel_rfl)
  have hZ1 := Blk.new w (msC ms0 (.slice none 0 0) (.slice none 0 0) (.slice none 0 0) (.slice none 0 0)) 29
  have K1 := (Keep.refl [] w).alloc (.cells (msC ms0 (.slice none 0 0) (.slice none 0 0) (.slice none 0 0) (.slice none 0 0)).toArray 29)
  have HONE := Lib.hid (msC_one xM none none none none 0 0 0 0 0 0 0 0)
  go_enter Try.func9, Try.ntmps9
  go_upto_region 2 with (refine wpList_store_blk rfl 29 _ _ rfl w.heap.size (msC ms0 (.slice none 0 0) (.slice none 0 0) (.slice none 0 0) (.slice none 0 0)) (msC xM (.slice none 0 0) (.slice none 0 0) (.slice none 0 0) (.slice none 0 0)) 29 rfl rfl hZ1 rfl Try.sizeMsg HONE.out ?_; intro w2 hB2 hK2)
  have K2 : Keep [] w w2 := K1.then hK2 (by intro b hb hlt; simp at hb; omega)
  clear hZ1 K1 hK2 hbld
  obtain ⟨xb, hxb⟩ : ∃ b, b = w.heap.size := ⟨_, rfl⟩
  rw [← hxb] at hB2 ⊢
  clear hxb
  go_wp2_with (refine wpList_load_rowg 29 _ rfl xb rfl 29 (msC xM (.slice none 0 0) (.slice none 0 0) (.slice none 0 0) (.slice none 0 0)).toArray (0, 0) _ hB2 Try.underlying29 rfl Try.sizeMsg (by rfl) ?_)
  have hsx : MsSz xM := ms_bare_sz xM (by decide) rfl rfl rfl rfl rfl
  refine (encode_any xM _ _ _ _ (ms_bare w2 xM rfl rfl rfl rfl) hsx).mono ?_
  rintro e w3 ⟨bv, rfl, hbf, _, k3⟩
  replace hB2 := hB2.keep k3 (by simp)
  replace K2 := K2.trans k3
  have HEL := Lib.hid (encM_length xM)
  have HEN := Lib.hid (encM_ne xM_may)
  have HEB := Lib.hid (encM_byte xM)
  have HED := Lib.hid (decM_enc xM xM_may)
  clear k3
  generalize encM xM = E at *
  obtain ⟨ba, bcap, rfl⟩ := hbf.slice
  have hrb := hbf.rd
  have hpos : 0 < E.length := List.length_pos_iff.2 HEN.out
  have q0 : (0 : Int) < E.length := by omega
  have HPOS := Lib.hid hpos
  clear hbf hpos
  go_wp2_with fail
  refine (decode_any _ E hrb HEB.out (by have := HEL.out; omega)).mono ?_
  rintro e w4 ⟨k4, hd⟩
  rw [HED.out] at hd
  obtain ⟨vi, vk, vm, vo, rfl, hr4⟩ := hd
  have hZ4 := Blk.new w4 (msC ms0 (.slice none 0 0) (.slice none 0 0) (.slice none 0 0) (.slice none 0 0)) 29
  have hB4 := (hB2.keep k4 (by simp)).alloc (.cells (msC ms0 (.slice none 0 0) (.slice none 0 0) (.slice none 0 0) (.slice none 0 0)).toArray 29)
  have K4 := (K2.trans k4).alloc (.cells (msC ms0 (.slice none 0 0) (.slice none 0 0) (.slice none 0 0) (.slice none 0 0)).toArray 29)
  have hxlt := hB2.lt
  have hz4 := k4.size
  have HXL := Lib.hid (show xb < w4.heap.size by omega)
  have HLO := Lib.hid (show w.heap.size ≤ w4.heap.size from (K2.trans k4).size)
  obtain ⟨_, ia, icap, rfl, _, _⟩ := id hr4.its
  obtain ⟨_, ka, kcap, rfl, _, _⟩ := id hr4.mks
  obtain ⟨_, ma, mcap, rfl, _, _⟩ := id hr4.mem
  obtain ⟨_, oa, ocap, rfl, _, _⟩ := id hr4.old
  have HONE2 := Lib.hid (msC_one xM ia ka ma oa xM.its.length icap xM.mks.length kcap xM.mem.length mcap xM.old.length ocap)
  clear hB2 K2 k4 hxlt hz4 HED
  go_upto_region 4 with (refine wpList_store_blk rfl 29 _ _ rfl w4.heap.size (msC ms0 (.slice none 0 0) (.slice none 0 0) (.slice none 0 0) (.slice none 0 0)) (msC xM (.slice ia xM.its.length icap) (.slice ka xM.mks.length kcap) (.slice ma xM.mem.length mcap) (.slice oa xM.old.length ocap)) 29 rfl rfl hZ4 rfl Try.sizeMsg HONE2.out ?_; intro w5 hY5 k5)
  have hB5 := hB4.keep k5 (by have := HXL.out; simp; omega)
  have K5 : Keep [] w w5 := K4.then k5 (by intro b hb hlt; have := HLO.out; simp at hb; omega)
  have hr5 := hr4.past (((Keep.refl [w4.heap.size] w4).alloc (.cells (msC ms0 (.slice none 0 0) (.slice none 0 0) (.slice none 0 0) (.slice none 0 0)).toArray 29)).trans k5) (by intro b hb; simp at hb; omega)
  obtain ⟨yb, hyb⟩ : ∃ b, b = w4.heap.size := ⟨_, rfl⟩
  rw [← hyb] at hY5 ⊢
  clear hyb hB4 K4 hr4 k5 hZ4
  go_wp2_with fail
  refine (decode_any _ [] (Rd.none w5) (by simp) (by simp)).mono ?_
  rintro e w6 ⟨k6, hd⟩
  rw [decM_nil] at hd
  obtain rfl := hd
  have hZ6 := Blk.new w6 (msC ms0 (.slice none 0 0) (.slice none 0 0) (.slice none 0 0) (.slice none 0 0)) 29
  have hB6 := (hB5.keep k6 (by simp)).alloc (.cells (msC ms0 (.slice none 0 0) (.slice none 0 0) (.slice none 0 0) (.slice none 0 0)).toArray 29)
  have hY6 := (hY5.keep k6 (by simp)).alloc (.cells (msC ms0 (.slice none 0 0) (.slice none 0 0) (.slice none 0 0) (.slice none 0 0)).toArray 29)
  have hr6 := (hr5.keep k6).alloc (.cells (msC ms0 (.slice none 0 0) (.slice none 0 0) (.slice none 0 0) (.slice none 0 0)).toArray 29)
  have K6 := (K5.trans k6).alloc (.cells (msC ms0 (.slice none 0 0) (.slice none 0 0) (.slice none 0 0) (.slice none 0 0)).toArray 29)
  have HBY := Lib.hid (show xb < w6.heap.size ∧ yb < w6.heap.size ∧ w.heap.size ≤ w6.heap.size from ⟨(hB5.keep k6 (by simp)).lt, (hY5.keep k6 (by simp)).lt, (K5.trans k6).size⟩)
  have hr6' := hr5.keep k6
  have HONE3 := Lib.hid (msC_one ms0 none none none none 0 0 0 0 0 0 0 0)
  clear hB5 hY5 hr5 K5 k6
  go_upto_region 5 with (refine wpList_store_blk rfl 29 _ _ rfl w6.heap.size (msC ms0 (.slice none 0 0) (.slice none 0 0) (.slice none 0 0) (.slice none 0 0)) (msC ms0 (.slice none 0 0) (.slice none 0 0) (.slice none 0 0) (.slice none 0 0)) 29 rfl rfl hZ6 rfl Try.sizeMsg HONE3.out ?_; intro w7 hX7 k7)
  have hB7 := hB6.keep k7 (by have := HBY.out; simp; omega)
  have hY7 := hY6.keep k7 (by have := HBY.out; simp; omega)
  have K7 : Keep [] w w7 := K6.then k7 (by intro b hb hlt; have := HBY.out; simp at hb; omega)
  have hr7 := hr6'.past (((Keep.refl [w6.heap.size] w6).alloc (.cells (msC ms0 (.slice none 0 0) (.slice none 0 0) (.slice none 0 0) (.slice none 0 0)).toArray 29)).trans k7) (by intro b hb; simp at hb; omega)
  clear hB6 hY6 K6 hr6 hr6' k7 hX7 hZ6
  have hb0 : ∀ W : World, (Instr.build 29 #[]).run Try.prog W = .ok (msV ms0 (.slice none 0 0) (.slice none 0 0) (.slice none 0 0) (.slice none 0 0)) W := fun W => run_build W _ _ _ (by kernel_rfl)
  go_wp2_with (refine wpList_load_rowg 29 _ rfl xb rfl 29 (msC xM (.slice none 0 0) (.slice none 0 0) (.slice none 0 0) (.slice none 0 0)).toArray (0, 0) _ hB7 Try.underlying29 rfl Try.sizeMsg (by rfl) ?_)
  refine (msMay_any xM _ _ _ _ (ms_bare w7 xM rfl rfl rfl rfl) hsx true xM_may.symm).mono ?_
  rintro e w8 ⟨rfl, k8⟩
  replace hB7 := hB7.keep k8 (by simp)
  replace hY7 := hY7.keep k8 (by simp)
  replace hr7 := hr7.keep k8
  replace K7 := K7.trans k8
  clear k8
  have hs0 : MsSz ms0 := ms_bare_sz ms0 (by decide) rfl rfl rfl rfl rfl
  go_wp2_with fail
  refine (msMay_any ms0 _ _ _ _ (ms_bare w8 ms0 rfl rfl rfl rfl) hs0 false ms0_not.symm).mono ?_
  rintro e w9 ⟨rfl, k9⟩
  replace hB7 := hB7.keep k9 (by simp)
  replace hY7 := hY7.keep k9 (by simp)
  replace hr7 := hr7.keep k9
  replace K7 := K7.trans k9
  clear k9
  have q1 : decide (0 < E.length) = true := decide_eq_true HPOS.out
  go_wp2_with (first | (refine wpList_load_rowg 29 _ rfl xb rfl 29 (msC xM (.slice none 0 0) (.slice none 0 0) (.slice none 0 0) (.slice none 0 0)).toArray (0, 0) _ hB7 Try.underlying29 rfl Try.sizeMsg (by rfl) ?_) | (refine wpList_load_rowg 29 _ rfl yb rfl 29 (msC xM (.slice ia xM.its.length icap) (.slice ka xM.mks.length kcap) (.slice ma xM.mem.length mcap) (.slice oa xM.old.length ocap)).toArray (0, 0) _ hY7 Try.underlying29 rfl Try.sizeMsg (by rfl) ?_))
  refine (msEq_any xM xM _ _ _ _ _ _ _ _ (ms_bare w9 xM rfl rfl rfl rfl) hr7 hsx hsx true (eqM_self xM).symm).mono ?_
  rintro e w10 ⟨rfl, k10⟩
  replace hB7 := hB7.keep k10 (by simp)
  replace K7 := K7.trans k10
  clear k10 hY7 hr7
  go_wp2_with (refine wpList_load_rowg 29 _ rfl xb rfl 29 (msC xM (.slice none 0 0) (.slice none 0 0) (.slice none 0 0) (.slice none 0 0)).toArray (0, 0) _ hB7 Try.underlying29 rfl Try.sizeMsg (by rfl) ?_)
  refine (msEq_any xM ms0 _ _ _ _ _ _ _ _ (ms_bare w10 xM rfl rfl rfl rfl) (ms_bare w10 ms0 rfl rfl rfl rfl) hsx hs0 false xM_ne.symm).mono ?_
  rintro e w11 ⟨rfl, k11⟩
  go_wp2_with fail
  go_ret
  exact ⟨rfl, K7.trans k11⟩
end Go.Proofs.Ytonghelcfbjknaa
