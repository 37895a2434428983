/- Package msg: Encode. -/
import Derived.Test.YtonghelcfbjknaaMsgText2
namespace Go.Proofs.Ytonghelcfbjknaa
open Go.ChangeShapes Go.WideShapes Go.ChangeAt Go.RowKit
set_option linter.unusedVariables false
set_option linter.unusedSimpArgs false

theorem mText_len {m : Ms} (h : MayM m) : (mText m).length ≤ 2110 := by
  have h1 := putAll_len _ (mNums_i64 h)
  have h2 := putText_len' m.key (by have := h.key; omega)
  have h3 := putNodes_len h.mem
  have h4 := putNodes_len h.old
  have h5 := encIts_len m.its
  have h6 := encIts_len [m.it]
  have h7 := h.itsn
  have h8 := h.mksn
  have h9 := h.key
  have hg := gN_i64 (hasM m)
  have h10 := putAll_len [gN (hasM m), (m.its.length : Int), (m.mks.length : Int)] (by intro n hn; simp at hn; rcases hn with rfl | rfl | rfl; exact hg; exact ⟨by omega, by omega⟩; exact ⟨by omega, by omega⟩)
  have h11 : (putMks m.mks).length ≤ 60 * m.mks.length := by
    have hall := mksOk_all h.mks
    clear h1 h2 h3 h4 h5 h6 h7 h8 h9 hg h10
    generalize m.mks = l at *
    induction l with
    | nil => simp [putMks]
    | cons a t ih =>
      have h1 := hall a (by simp)
      have h2 := ih (fun x hx => hall x (by simp [hx]))
      have e : putMks (a :: t) = putMk a ++ putMks t := by simp [putMks]
      have e1 := putAll_len [a.1] (by intro n hn; simp at hn; subst hn; exact ⟨by omega, by omega⟩)
      have e2 := putText_len' a.2 (by omega)
      rw [e, List.length_append, List.length_cons]
      unfold putMk
      rw [List.length_append]
      simp only [List.length_cons, List.length_nil] at e1
      omega
  have h12 : (if hasM m = true then encIts [m.it] else []).length ≤ 300 := by
    split
    · simpa using h6
    · simp
  unfold mText mText3 mText2 mText1
  simp only [List.length_append, List.length_cons, List.length_nil] at h10 ⊢
  have : (mNums m).length = 12 := rfl
  omega
def GotEnc (w : World) (m : Ms) (e : Ending) (w' : World) : Prop := ∃ v, e = .returned v ∧ Buf w' w.heap.size 5 v (encM m) ∧ (encM m = [] → v = .slice none 0 0) ∧ Keep [] w w'
set_option maxRecDepth 100000 in
set_option maxHeartbeats 8000000 in
theorem encode_any {w : World} (m : Ms) (vi vk vm vo : Value) (h : MsRd w m vi vk vm vo) (hz : MsSz m) :
    Calls Try.prog 13 #[msV m vi vk vm vo] w (GotEnc w m) := by
  have hM := Blk.new w (msC m vi vk vm vo) 29
  have h0 := h.alloc (.cells (msC m vi vk vm vo).toArray 29)
  have K0 := (Keep.refl [] w).alloc (.cells (msC m vi vk vm vo).toArray 29)
  obtain ⟨i8, hi8, hz80, hz81, hz82⟩ := info_parts Try.info8
  obtain ⟨b, hb⟩ : ∃ b, b = mayM m := ⟨_, rfl⟩
  have HB := Lib.hid hb
  clear hb
  go_enter Try.func13, Try.ntmps13
  go_wp2_with (refine wpList_load_rowg 29 _ rfl w.heap.size rfl 29 (msC m vi vk vm vo).toArray (0, 0) _ hM Try.underlying29 rfl Try.sizeMsg (by rfl) ?_)
  refine (msMay_any m vi vk vm vo h0 hz b HB.out).mono ?_
  rintro e w1 ⟨rfl, k1⟩
  have hM1 := hM.keep k1 (by simp)
  have h1 := h0.keep k1
  have K1 := K0.trans k1
  clear hM h0 K0 k1
  cases b with
  | false =>
    go_wp2_with fail
    go_ret
    refine ⟨_, rfl, ?_, fun _ => rfl, K1⟩
    rw [encM_no HB.out.symm]
    exact Buf.nil _ _ _
  | true =>
    have hm := (mayM_iff m).1 HB.out.symm
    have HE := Lib.hid (encM_eq HB.out.symm)
    have hl := mText_len hm
    have HBY := Lib.hid (mText_byte m)
    have HNE := Lib.hid (encM_ne HB.out.symm)
    go_wp2_with (refine wpList_load_rowg 29 _ rfl w.heap.size rfl 29 (msC m vi vk vm vo).toArray (0, 0) _ hM1 Try.underlying29 rfl Try.sizeMsg (by rfl) ?_)
    refine (text_any m vi vk vm vo h1 hm).mono ?_
    rintro e w2 ⟨v2, rfl, hB, k2⟩
    have K2 := K1.trans k2
    obtain ⟨a2, c2, rfl⟩ := hB.slice
    have hsz := K1.size
    have hsz2 := k2.size
    obtain ⟨n, hn⟩ : ∃ n, n = crcSum (mText m) := ⟨_, rfl⟩
    have HN := Lib.hid hn
    have hnl : n < 4294967296 := by rw [hn]; exact crcOf_lt' _ HBY.out
    generalize mText m = T at *
    clear hn hM1 h1 K1 k2
    go_wp2_with fail
    have hp : Rv (w2.alloc (.cells #[.slice a2 T.length c2] 33)) 1 (.slice (some ⟨w2.heap.size, 0, none⟩) 1 1) 1 [.slice a2 T.length c2] := Rv.new w2 [.slice a2 T.length c2] 33 1 1 1 rfl (by omega) _ rfl
    have hB' := hB.alloc (.cells #[.slice a2 T.length c2] 33)
    have K3 := K2.alloc (.cells #[.slice a2 T.length c2] 33)
    refine (Sum_one _ 1 _ T hp hB'.rd HBY.out (by omega) n HN.out).mono ?_
    rintro e w3 ⟨rfl, rfl⟩
    go_wp2_with fail
    refine (four_any n hnl).mono ?_
    rintro e w3 ⟨rfl, rfl⟩
    have hB4 := hB'.alloc (.cells (bcs (four n)).toArray 5)
    have K4 := K3.alloc (.cells (bcs (four n)).toArray 5)
    have hrd : Rd ((w2.alloc (.cells #[.slice a2 T.length c2] 33)).alloc (.cells (bcs (four n)).toArray 5)) (.slice (some ⟨w2.heap.size + 1, 0, none⟩) 4 4) (four n) := Rv.new _ (bcs (four n)) 5 1 4 4 rfl (by omega) _ (by simp)
    have hsrc := hrd.src Try.underlying33
    have hf4 : (four n).length = 4 := rfl
    have hszb : w1.heap.size ≤ ((w2.alloc (.cells #[.slice a2 T.length c2] 33)).alloc (.cells (bcs (four n)).toArray 5)).heap.size := by simp; omega
    go_wp2_with (at_builtin; refine wpList_append_src _ rfl _ _ 33 33 rfl w1.heap.size 5 i8 (.int .u8 0) 1 1 Try.underlying33 hi8 hz80 hz81 hz82 rfl (by decide) _ _ _ rfl hB4 _ _ _ rfl hsrc (by unfold maxLen; omega) (by omega) hszb ?_; intro v6 w6 h1' h2' _ h3')
    go_ret
    have hB6 : Buf w6 w1.heap.size 5 v6 (T ++ four n) := by unfold Buf; rw [List.length_append, bcs_append]; exact h1'
    refine ⟨_, rfl, ?_, fun hh => absurd hh HNE.out, K4.then (Keep.grown h2') (by intro x hx hlt; have := (hB4.lt x (Option.mem_toList.1 hx)).1; omega)⟩
    rw [HE.out, ← HN.out]
    exact Buf.mono hB6 hsz
end Go.Proofs.Ytonghelcfbjknaa
