/- The contracts of the reference's Put, PutText, of the laws' Cut; a text off its bytes. -/
import Derived.Test.YtpibpgfadkfgbaaNumText
namespace Go.Proofs.Ytpibpgfadkfgbaa
open Go.ChangeShapes Go.WideShapes Go.ChangeAt Go.RowKit
set_option linter.unusedVariables false
set_option linter.unusedSimpArgs false

set_option maxHeartbeats 400000 in
theorem refPut_any {w : World} (n : Int) (n0 : -9223372036854775808 ≤ n) (n1 : n ≤ 9223372036854775807) :
    Calls Try.prog 21 #[.int .i64 n] w fun e w' => ∃ v', e = .returned v' ∧ Onto w w.heap.size 5 (.slice none 0 0) (leb (zz n)) v' w' := by
  obtain ⟨i0, hi, hz0, hz1, hz2⟩ := info_parts Try.info8
  have hcase : n < 0 ∨ 0 ≤ n := by omega
  rcases hcase with hn | hn
  · go_enter Try.func21, Try.ntmps21
    go_wp2_with fail
    rw [put_neg n n0 hn]
    have hz := zz_lt n n0 n1
    generalize hZ : zz n = Z at *
    have HZ := Lib.hid hZ
    clear hZ
    go_loopw [4, 3] (fun b u wr => ∃ (l' : List Nat) (U : Nat) (v' : Value), b = v' ∧ u = .int .u64 U ∧ U < 18446744073709551616 ∧ l' ++ leb U = leb Z ∧ Onto w w.heap.size 5 (.slice none 0 0) l' v' wr) (fun _ u _ => (intOf u).toNat)
    case atStart => exact ⟨[], Z, _, rfl, rfl, hz, rfl, Onto.refl (Buf.nil _ _ _)⟩
    case round =>
      obtain ⟨l', U, v', rfl, rfl, hU, hE, hO⟩ := hrel
      have HE := Lib.hid hE
      clear hE
      obtain ⟨a', cap', rfl⟩ := hO.buf.slice
      have hlen : l'.length + (leb U).length = (leb Z).length := by have := congrArg List.length HE.out; simpa using this
      have hZl := leb_len 10 Z (by omega) (by omega)
      have hU1 : 0 < (leb U).length := List.length_pos_iff.2 (leb_ne U)
      have hks := hO.keep.size
      have hbuf := hO.buf
      by_cases hbig : 128 ≤ U
      · have q1 : (128 : Int) ≤ U := by omega
        obtain ⟨X, hX⟩ : ∃ X : Nat, X = U % 128 + 128 := ⟨_, rfl⟩
        have hor : (U : Int) % 128 + 128 = (X : Int) := by omega
        have hXb : X < 256 := by omega
        have HX := Lib.hid hX
        clear hX
        go_wp2_with (at_builtin; refine wpList_append_src _ rfl _ _ 33 33 rfl w.heap.size 5 i0 (.int .u8 0) 1 1 Try.underlying33 hi hz0 hz1 hz2 rfl (by decide) _ _ _ rfl (hbuf.alloc _) _ 1 (bcs [X]) rfl (src_new1 Try.underlying33 _ X _) (by unfold maxLen; omega) (by omega) (by simp; omega) ?_; intro v1 w1 h1 h2 _ h3)
        go_roundw
        case rel =>
          refine ⟨l' ++ [X], U / 128, v1, rfl, by go_num, by omega, ?_, (hO.alloc _).app h1 h2 h3⟩
          rw [← HE.out, leb_big U (by omega), HX.out]; simp
        case measure => simp [intOf]; omega
      · have q1 : ¬ (128 : Int) ≤ U := by omega
        have q2 : (U : Int) ≤ 127 := by omega
        go_wp2_with (at_builtin; refine wpList_append_src _ rfl _ _ 33 33 rfl w.heap.size 5 i0 (.int .u8 0) 1 1 Try.underlying33 hi hz0 hz1 hz2 rfl (by decide) _ _ _ rfl (hbuf.alloc _) _ 1 (bcs [U]) rfl (src_new1 Try.underlying33 _ U _) (by unfold maxLen; omega) (by omega) (by simp; omega) ?_; intro v1 w1 h1 h2 _ h3)
        go_ret
        refine ⟨v1, rfl, ?_⟩
        have hr := (hO.alloc (.cells #[.int .u8 (U : Int)] 5)).app h1 h2 h3
        rw [← leb_small U (by omega), HE.out, ← HZ.out] at hr
        exact hr
  · go_enter Try.func21, Try.ntmps21
    go_wp2_with fail
    rw [put_pos n hn]
    have hz := zz_lt n n0 n1
    generalize hZ : zz n = Z at *
    have HZ := Lib.hid hZ
    clear hZ
    go_loopw [4, 3] (fun b u wr => ∃ (l' : List Nat) (U : Nat) (v' : Value), b = v' ∧ u = .int .u64 U ∧ U < 18446744073709551616 ∧ l' ++ leb U = leb Z ∧ Onto w w.heap.size 5 (.slice none 0 0) l' v' wr) (fun _ u _ => (intOf u).toNat)
    case atStart => exact ⟨[], Z, _, rfl, rfl, hz, rfl, Onto.refl (Buf.nil _ _ _)⟩
    case round =>
      obtain ⟨l', U, v', rfl, rfl, hU, hE, hO⟩ := hrel
      have HE := Lib.hid hE
      clear hE
      obtain ⟨a', cap', rfl⟩ := hO.buf.slice
      have hlen : l'.length + (leb U).length = (leb Z).length := by have := congrArg List.length HE.out; simpa using this
      have hZl := leb_len 10 Z (by omega) (by omega)
      have hU1 : 0 < (leb U).length := List.length_pos_iff.2 (leb_ne U)
      have hks := hO.keep.size
      have hbuf := hO.buf
      by_cases hbig : 128 ≤ U
      · have q1 : (128 : Int) ≤ U := by omega
        obtain ⟨X, hX⟩ : ∃ X : Nat, X = U % 128 + 128 := ⟨_, rfl⟩
        have hor : (U : Int) % 128 + 128 = (X : Int) := by omega
        have hXb : X < 256 := by omega
        have HX := Lib.hid hX
        clear hX
        go_wp2_with (at_builtin; refine wpList_append_src _ rfl _ _ 33 33 rfl w.heap.size 5 i0 (.int .u8 0) 1 1 Try.underlying33 hi hz0 hz1 hz2 rfl (by decide) _ _ _ rfl (hbuf.alloc _) _ 1 (bcs [X]) rfl (src_new1 Try.underlying33 _ X _) (by unfold maxLen; omega) (by omega) (by simp; omega) ?_; intro v1 w1 h1 h2 _ h3)
        go_roundw
        case rel =>
          refine ⟨l' ++ [X], U / 128, v1, rfl, by go_num, by omega, ?_, (hO.alloc _).app h1 h2 h3⟩
          rw [← HE.out, leb_big U (by omega), HX.out]; simp
        case measure => simp [intOf]; omega
      · have q1 : ¬ (128 : Int) ≤ U := by omega
        have q2 : (U : Int) ≤ 127 := by omega
        go_wp2_with (at_builtin; refine wpList_append_src _ rfl _ _ 33 33 rfl w.heap.size 5 i0 (.int .u8 0) 1 1 Try.underlying33 hi hz0 hz1 hz2 rfl (by decide) _ _ _ rfl (hbuf.alloc _) _ 1 (bcs [U]) rfl (src_new1 Try.underlying33 _ U _) (by unfold maxLen; omega) (by omega) (by simp; omega) ?_; intro v1 w1 h1 h2 _ h3)
        go_ret
        refine ⟨v1, rfl, ?_⟩
        have hr := (hO.alloc (.cells #[.int .u8 (U : Int)] 5)).app h1 h2 h3
        rw [← leb_small U (by omega), HE.out, ← HZ.out] at hr
        exact hr

theorem refPutText_any {w : World} (t : ByteArray) (ht : t.size ≤ 1000000) :
    Calls Try.prog 48 #[.string t] w fun e w' => ∃ v', e = .returned v' ∧ Onto w w.heap.size 5 (.slice none 0 0) (putText t) v' w' := by
  obtain ⟨i0, hi, hz0, hz1, hz2⟩ := info_parts Try.info8
  go_enter Try.func48, Try.ntmps48
  go_wp2_with fail
  refine (refPut_any (t.size : Int) (by omega) (by omega)).mono ?_
  rintro e w1 ⟨v1, rfl, o1⟩
  have hbuf := o1.buf
  obtain ⟨a1, cap1, rfl⟩ := hbuf.slice
  have h10 := leb_len 10 (zz (t.size : Int)) (by have := zz_lt (t.size : Int) (by omega) (by omega); omega) (by omega)
  have hks := o1.keep.size
  have hx2 : t.size = (sb t).length := (sb_length t).symm
  have HX := Lib.hid hx2
  clear hx2
  go_wp2_with (at_builtin; refine wpList_append_src _ rfl _ _ 33 9 rfl w.heap.size 5 i0 (.int .u8 0) 1 1 Try.underlying33 hi hz0 hz1 hz2 rfl (by decide) _ _ _ rfl hbuf _ _ _ rfl (Src.ofString _ Try.underlying9 t) (by unfold maxLen; omega) (by omega) (by omega) ?_; intro v2 w2 h1 h2 _ h3)
  go_ret
  rw [byteCells_sb] at h1
  have h1' : w2.ownsRow w.heap.size 5 1 v2 ((leb (zz (t.size : Int))).length + (sb t).length) (bcs (leb (zz (t.size : Int))) ++ bcs (sb t)) := by rw [sb_length]; exact h1
  exact ⟨v2, rfl, o1.app h1' h2 h3⟩

/-- A text that is not too long. -/
def cutStr (s : ByteArray) (n : Nat) : ByteArray := if n < s.size then s.extract 0 n else s
theorem cutStr_size (s : ByteArray) (n : Nat) : (cutStr s n).size ≤ n := by
  unfold cutStr; split
  · simp; omega
  · omega
theorem Cut_any {w : World} (s : ByteArray) (n : Nat) (hs : s.size ≤ 9223372036854775807) (hn : n ≤ 1000000) :
    Calls Try.prog 44 #[.string s, .int .i64 n] w fun e w' => e = .returned (.string (cutStr s n)) ∧ w = w' := by
  by_cases h : n < s.size
  · have q1 : (n : Int) < s.size := by omega
    go_enter Try.func44, Try.ntmps44
    go_wp2_with fail
    go_ret
    exact ⟨by unfold cutStr; rw [if_pos h]; rfl, rfl⟩
  · have q1 : ¬ (n : Int) < s.size := by omega
    go_enter Try.func44, Try.ntmps44
    go_wp2_with fail
    go_ret
    exact ⟨by unfold cutStr; rw [if_neg h]; rfl, rfl⟩

theorem toStr_sb (t : ByteArray) : toStr (sb t) = t := by
  unfold toStr sb
  have e : (t.data.toList.map UInt8.toNat).map UInt8.ofNat = t.data.toList := by
    rw [List.map_map]
    conv => rhs; rw [← List.map_id t.data.toList]
    apply List.map_congr_left
    intro c _
    simp
  rw [e]
theorem getText_putText (t : ByteArray) (ht : t.size ≤ 65536) (r : List Nat) : getText (putText t ++ r) = (sb t, (putText t).length, 0) := by
  have hl : (putText t).length = (leb (zz (t.size : Int))).length + t.size := by unfold putText; rw [List.length_append, sb_length]
  unfold getText
  have hg : get (putText t ++ r) = ((t.size : Int), (leb (zz (t.size : Int))).length, 0) := by
    unfold putText
    rw [List.append_assoc]
    exact get_leb _ (by omega) (by omega) _
  rw [hg]
  simp only [ne_eq, not_true_eq_false, if_false]
  rw [if_neg (by omega), if_neg (by rw [List.length_append]; omega)]
  have e : (putText t ++ r).drop (leb (zz (t.size : Int))).length = sb t ++ r := by
    unfold putText
    rw [List.append_assoc, List.drop_append, Nat.sub_self, List.drop_zero, List.drop_of_length_le (Nat.le_refl _), List.nil_append]
  rw [e, Int.toNat_natCast, hl]
  congr 1
  rw [List.take_append_of_le_length (by rw [sb_length]; omega), List.take_of_length_le (by rw [sb_length]; omega)]
end Go.Proofs.Ytpibpgfadkfgbaa
