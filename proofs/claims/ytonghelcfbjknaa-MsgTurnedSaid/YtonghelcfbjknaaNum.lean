/- The contracts of package num: put, Put, Get, PutText, GetText. -/
import Derived.Test.YtonghelcfbjknaaInfo
import Derived.Test.YtonghelcfbjknaaNumMath
import Derived.Test.YtonghelcfbjknaaBits
import Derived.WalkSpells
namespace Go.Proofs.Ytonghelcfbjknaa
open Go.ChangeShapes Go.WideShapes Go.ChangeAt Go.RowKit
set_option linter.unusedVariables false
set_option linter.unusedSimpArgs false

theorem put_neg (n : Int) (n0 : -9223372036854775808 ≤ n) (hn : n < 0) : bits .xor .u64 IntKind.u64.max (IntKind.u64.wrap (IntKind.u64.wrap n * 2)) = (zz n : Int) := by
  have e : IntKind.u64.wrap (IntKind.u64.wrap n * 2) = ((18446744073709551615 - zz n : Nat) : Int) := by
    simp only [IntKind.wrap_u64]
    unfold zz
    rw [if_neg (by omega)]
    omega
  have hz := zz_lt n n0 (by omega)
  rw [e, show IntKind.u64.max = ((18446744073709551615 : Nat) : Int) from rfl, bits_xor_u64_nat _ _ (by omega) (by omega), xor_ones _ (by omega)]
  omega
theorem put_pos (n : Int) (hn : 0 ≤ n) : n * 2 = (zz n : Int) := by
  unfold zz; rw [if_pos hn]; omega
set_option maxHeartbeats 400000 in
theorem put_any {w : World} (base : Nat) (v : Value) (l : List Nat) (n : Int) (hb : Buf w base 5 v l) (n0 : -9223372036854775808 ≤ n) (n1 : n ≤ 9223372036854775807) (hl : l.length ≤ 1099511627776) (hbase : base ≤ w.heap.size) :
    Calls Try.prog 53 #[v, .int .i64 n] w fun e w' => ∃ v', e = .returned v' ∧ Onto w base 5 v (l ++ leb (zz n)) v' w' := by
  obtain ⟨a, cap, rfl⟩ := hb.slice
  obtain ⟨i0, hi, hz0, hz1, hz2⟩ := info_parts Try.info8
  have hcase : n < 0 ∨ 0 ≤ n := by omega
  rcases hcase with hn | hn
  · go_enter Try.func53, Try.ntmps53
    go_wp2_with fail
    rw [put_neg n n0 hn]
    have hz := zz_lt n n0 n1
    generalize hZ : zz n = Z at *
    have HZ := Lib.hid hZ
    clear hZ
    go_loopw [0, 5] (fun b u wr => ∃ (l' : List Nat) (U : Nat) (v' : Value), b = v' ∧ u = .int .u64 U ∧ U < 18446744073709551616 ∧ l' ++ leb U = l ++ leb Z ∧ Onto w base 5 (.slice a l.length cap) l' v' wr) (fun _ u _ => (intOf u).toNat)
    case atStart => exact ⟨l, Z, _, rfl, rfl, hz, rfl, Onto.refl hb⟩
    case round =>
      obtain ⟨l', U, v', rfl, rfl, hU, hE, hO⟩ := hrel
      have HE := Lib.hid hE
      clear hE hb
      by_cases hbig : 127 < U
      · have q1 : (127 : Int) < U := by omega
        obtain ⟨a', cap', rfl⟩ := hO.buf.slice
        have hlen : l'.length + (leb U).length = l.length + (leb Z).length := by have := congrArg List.length HE.out; simpa using this
        have hZl := leb_len 10 Z (by omega) (by omega)
        have hks := hO.keep.size
        obtain ⟨X, hX⟩ : ∃ X : Nat, X = U % 128 + 128 := ⟨_, rfl⟩
        have hor := or8m U
        rw [← hX] at hor
        have HX := Lib.hid hX
        clear hX
        have hbuf := hO.buf
        go_wp2_with (at_builtin; refine wpList_append_src _ rfl _ _ 33 33 rfl base 5 i0 (.int .u8 0) 1 1 Try.underlying33 hi hz0 hz1 hz2 rfl (by decide) _ _ _ rfl (hbuf.alloc _) _ 1 (bcs [X]) rfl (src_new1 Try.underlying33 _ X _) (by unfold maxLen; omega) (by omega) (by simp; omega) ?_; intro v1 w1 h1 h2 _ h3)
        go_roundw
        case rel =>
          refine ⟨l' ++ [X], U / 128, v1, rfl, by go_num, by omega, ?_, (hO.alloc _).app h1 h2 h3⟩
          rw [← HE.out, leb_big U (by omega), HX.out]; simp
        case measure => simp [intOf]; omega
      · have q1 : (U : Int) ≤ 127 := by omega
        obtain ⟨a', cap', rfl⟩ := hO.buf.slice
        have hlen : l'.length + (leb U).length = l.length + (leb Z).length := by have := congrArg List.length HE.out; simpa using this
        have hZl := leb_len 10 Z (by omega) (by omega)
        have hUl := leb_ne U
        have hU1 : 0 < (leb U).length := List.length_pos_iff.2 hUl
        have hks := hO.keep.size
        have HUL := Lib.hid hUl
        clear hUl
        have hbuf := hO.buf
        go_wp2_with (at_builtin; refine wpList_append_src _ rfl _ _ 33 33 rfl base 5 i0 (.int .u8 0) 1 1 Try.underlying33 hi hz0 hz1 hz2 rfl (by decide) _ _ _ rfl (hbuf.alloc _) _ 1 (bcs [U]) rfl (src_new1 Try.underlying33 _ U _) (by unfold maxLen; omega) (by omega) (by simp; omega) ?_; intro v1 w1 h1 h2 _ h3)
        go_ret
        refine ⟨v1, rfl, ?_⟩
        have hr := (hO.alloc (.cells #[.int .u8 (U : Int)] 5)).app h1 h2 h3
        rw [← leb_small U (by omega), HE.out, ← HZ.out] at hr
        exact hr
  · go_enter Try.func53, Try.ntmps53
    go_wp2_with fail
    rw [put_pos n hn]
    have hz := zz_lt n n0 n1
    generalize hZ : zz n = Z at *
    have HZ := Lib.hid hZ
    clear hZ
    go_loopw [0, 5] (fun b u wr => ∃ (l' : List Nat) (U : Nat) (v' : Value), b = v' ∧ u = .int .u64 U ∧ U < 18446744073709551616 ∧ l' ++ leb U = l ++ leb Z ∧ Onto w base 5 (.slice a l.length cap) l' v' wr) (fun _ u _ => (intOf u).toNat)
    case atStart => exact ⟨l, Z, _, rfl, rfl, hz, rfl, Onto.refl hb⟩
    case round =>
      obtain ⟨l', U, v', rfl, rfl, hU, hE, hO⟩ := hrel
      have HE := Lib.hid hE
      clear hE hb
      by_cases hbig : 127 < U
      · have q1 : (127 : Int) < U := by omega
        obtain ⟨a', cap', rfl⟩ := hO.buf.slice
        have hlen : l'.length + (leb U).length = l.length + (leb Z).length := by have := congrArg List.length HE.out; simpa using this
        have hZl := leb_len 10 Z (by omega) (by omega)
        have hks := hO.keep.size
        obtain ⟨X, hX⟩ : ∃ X : Nat, X = U % 128 + 128 := ⟨_, rfl⟩
        have hor := or8m U
        rw [← hX] at hor
        have HX := Lib.hid hX
        clear hX
        have hbuf := hO.buf
        go_wp2_with (at_builtin; refine wpList_append_src _ rfl _ _ 33 33 rfl base 5 i0 (.int .u8 0) 1 1 Try.underlying33 hi hz0 hz1 hz2 rfl (by decide) _ _ _ rfl (hbuf.alloc _) _ 1 (bcs [X]) rfl (src_new1 Try.underlying33 _ X _) (by unfold maxLen; omega) (by omega) (by simp; omega) ?_; intro v1 w1 h1 h2 _ h3)
        go_roundw
        case rel =>
          refine ⟨l' ++ [X], U / 128, v1, rfl, by go_num, by omega, ?_, (hO.alloc _).app h1 h2 h3⟩
          rw [← HE.out, leb_big U (by omega), HX.out]; simp
        case measure => simp [intOf]; omega
      · have q1 : (U : Int) ≤ 127 := by omega
        obtain ⟨a', cap', rfl⟩ := hO.buf.slice
        have hlen : l'.length + (leb U).length = l.length + (leb Z).length := by have := congrArg List.length HE.out; simpa using this
        have hZl := leb_len 10 Z (by omega) (by omega)
        have hUl := leb_ne U
        have hU1 : 0 < (leb U).length := List.length_pos_iff.2 hUl
        have hks := hO.keep.size
        have HUL := Lib.hid hUl
        clear hUl
        have hbuf := hO.buf
        go_wp2_with (at_builtin; refine wpList_append_src _ rfl _ _ 33 33 rfl base 5 i0 (.int .u8 0) 1 1 Try.underlying33 hi hz0 hz1 hz2 rfl (by decide) _ _ _ rfl (hbuf.alloc _) _ 1 (bcs [U]) rfl (src_new1 Try.underlying33 _ U _) (by unfold maxLen; omega) (by omega) (by simp; omega) ?_; intro v1 w1 h1 h2 _ h3)
        go_ret
        refine ⟨v1, rfl, ?_⟩
        have hr := (hO.alloc (.cells #[.int .u8 (U : Int)] 5)).app h1 h2 h3
        rw [← leb_small U (by omega), HE.out, ← HZ.out] at hr
        exact hr

/-- The bytes of many numbers. -/
def putAll (l : List Int) : List Nat := (l.map fun n => leb (zz n)).flatten
theorem putAll_snoc (l : List Int) (n : Int) : putAll (l ++ [n]) = putAll l ++ leb (zz n) := by simp [putAll]

set_option maxHeartbeats 400000 in
theorem Put_any {w : World} (base : Nat) (v : Value) (l : List Nat) (ns : Value) (zs : List Int) (hb : Buf w base 5 v l) (hz : Rv w 1 ns zs.length (ints zs)) (hsep : 0 < zs.length → ∀ b, ns.ownBlock = some b → v.ownBlock ≠ some b)
    (hr : ∀ n ∈ zs, I64 n) (hl : l.length + 10 * zs.length ≤ 1099511627776) (hbase : base ≤ w.heap.size) :
    Calls Try.prog 45 #[v, ns] w fun e w' => ∃ v', e = .returned v' ∧ Onto w base 5 v (l ++ putAll zs) v' w' := by
  obtain ⟨a, cap, rfl⟩ := hb.slice
  have hz2 := hz
  obtain ⟨_, a2, cap2, rfl, hc2, _⟩ := hz
  go_enter Try.func45, Try.ntmps45
  go_wp2_with fail
  go_loopw [0, 9] (fun b i wr => ∃ (k : Nat) (v' : Value), k ≤ zs.length ∧ b = v' ∧ i = .int .i64 k ∧ Onto w base 5 (.slice a l.length cap) (l ++ putAll (zs.take k)) v' wr ∧ (l ++ putAll (zs.take k)).length ≤ l.length + 10 * k) (fun _ i _ => zs.length - (intOf i).toNat)
  case atStart => exact ⟨0, _, by omega, rfl, rfl, by simpa [putAll] using Onto.refl hb, by simp [putAll]⟩
  case round =>
    obtain ⟨k, v', hk, rfl, rfl, hO, hL⟩ := hrel
    by_cases hlt : k < zs.length
    · obtain ⟨sb, so, cap3, he, _, hsb, hat⟩ := hz2.at1 (by omega)
      simp only [Value.slice.injEq] at he
      obtain ⟨rfl, _, rfl⟩ := he
      have g4 : wr.cell? ⟨sb, so + k, none⟩ = some (.int .i64 (zs.getD k 0)) := by
        rw [hO.keep.cell hsb (by have := hsep (by omega) sb rfl; simp at this ⊢; intro e; exact this e), hat k hlt, ints_at zs k hlt]
      have st := putAll_snoc (zs.take k) (zs.getD k 0)
      rw [← take_succ_getD _ _ _ hlt] at st
      have ST := Lib.hid st
      have hx : I64 (zs.getD k 0) := hr _ (by simp [List.getD_eq_getElem?_getD, hlt])
      clear st hat hz2
      generalize zs.getD k 0 = x at *
      have hk1 : (k : Int) < zs.length := by omega
      have hks := hO.keep.size
      have h10 := leb_len 10 (zz x) (by have := zz_lt x hx.1 hx.2; omega) (by omega)
      go_wp2_with fail
      refine (put_any base _ _ x hO.buf hx.1 hx.2 (by omega) (by omega)).mono ?_
      rintro e w1 ⟨v1, rfl, hO1⟩
      go_wp2_with fail
      go_roundw
      case rel => exact ⟨k + 1, v1, by omega, rfl, by go_num, by rw [ST.out, ← List.append_assoc]; exact hO.trans hO1, by rw [ST.out, ← List.append_assoc, List.length_append]; omega⟩
      case measure => simp [intOf]; omega
    · obtain rfl : k = zs.length := by omega
      rw [List.take_length] at hO
      go_wp2_with fail
      go_ret
      exact ⟨_, rfl, hO⟩

def putText (t : ByteArray) : List Nat := leb (zz (t.size : Int)) ++ sb t
def putTexts (l : List ByteArray) : List Nat := (l.map putText).flatten
theorem putTexts_snoc (l : List ByteArray) (t : ByteArray) : putTexts (l ++ [t]) = putTexts l ++ putText t := by simp [putTexts]

set_option maxHeartbeats 400000 in
theorem PutText_any {w : World} (base : Nat) (v : Value) (l : List Nat) (ts : Value) (zs : List ByteArray) (hb : Buf w base 5 v l) (hz : Rv w 1 ts zs.length (strs zs)) (hsep : 0 < zs.length → ∀ b, ts.ownBlock = some b → v.ownBlock ≠ some b)
    (B : Nat) (hr : ∀ t ∈ zs, t.size ≤ B) (hl : l.length + (B + 10) * zs.length ≤ 1099511627776) (hbase : base ≤ w.heap.size) :
    Calls Try.prog 47 #[v, ts] w fun e w' => ∃ v', e = .returned v' ∧ Onto w base 5 v (l ++ putTexts zs) v' w' := by
  obtain ⟨a, cap, rfl⟩ := hb.slice
  have hz2 := hz
  obtain ⟨_, a2, cap2, rfl, hc2, _⟩ := hz
  obtain ⟨i0, hi, hz0, hz1, hzz⟩ := info_parts Try.info8
  have hl63 : zs.length ≤ 1099511627776 := by
    have : 1 * zs.length ≤ (B + 10) * zs.length := Nat.mul_le_mul_right _ (by omega)
    omega
  go_enter Try.func47, Try.ntmps47
  go_wp2_with fail
  go_loopw [0, 9] (fun b i wr => ∃ (k : Nat) (v' : Value), k ≤ zs.length ∧ b = v' ∧ i = .int .i64 k ∧ Onto w base 5 (.slice a l.length cap) (l ++ putTexts (zs.take k)) v' wr ∧ (l ++ putTexts (zs.take k)).length ≤ l.length + (B + 10) * k) (fun _ i _ => zs.length - (intOf i).toNat)
  case atStart => exact ⟨0, _, by omega, rfl, rfl, by simpa [putTexts] using Onto.refl hb, by simp [putTexts]⟩
  case round =>
    obtain ⟨k, v', hk, rfl, rfl, hO, hL⟩ := hrel
    by_cases hlt : k < zs.length
    · obtain ⟨sb0, so, cap3, he, _, hsb, hat⟩ := hz2.at1 (by omega)
      simp only [Value.slice.injEq] at he
      obtain ⟨rfl, _, rfl⟩ := he
      have g4 : wr.cell? ⟨sb0, so + k, none⟩ = some (.string (zs.getD k ByteArray.empty)) := by
        rw [hO.keep.cell hsb (by have := hsep (by omega) sb0 rfl; simp at this ⊢; intro e; exact this e), hat k hlt, strs_at zs k hlt]
      have st := putTexts_snoc (zs.take k) (zs.getD k ByteArray.empty)
      rw [← take_succ_getD _ _ _ hlt] at st
      have ST := Lib.hid st
      have hx : (zs.getD k ByteArray.empty).size ≤ B := hr _ (by simp [List.getD_eq_getElem?_getD, hlt])
      have hmul : (B + 10) * (k + 1) ≤ (B + 10) * zs.length := Nat.mul_le_mul_left _ hlt
      have hmul2 : (B + 10) * (k + 1) = (B + 10) * k + (B + 10) := Nat.mul_succ _ _
      have hbnd : (l ++ putTexts (List.take k zs)).length + (B + 10) ≤ 1099511627776 := by omega
      have HM := Lib.hid hmul2
      clear st hat hz2 hmul hmul2
      generalize zs.getD k ByteArray.empty = x at *
      have hk1 : (k : Int) < zs.length := by omega
      have hks := hO.keep.size
      have h10 := leb_len 10 (zz (x.size : Int)) (by have := zz_lt (x.size : Int) (by omega) (by omega); omega) (by omega)
      go_wp2_with fail
      refine (put_any base _ _ _ hO.buf (by omega) (by omega) (by omega) (by omega)).mono ?_
      rintro e w1 ⟨v1, rfl, hO1⟩
      have hbuf := hO1.buf
      obtain ⟨a1, cap1, rfl⟩ := hbuf.slice
      have hl1 : (l ++ putTexts (List.take k zs) ++ leb (zz ↑x.size)).length ≤ (l ++ putTexts (List.take k zs)).length + 10 := by rw [List.length_append]; omega
      have hks1 := hO1.keep.size
      have hx2 : x.size = (sb x).length := (sb_length x).symm
      have HX := Lib.hid hx2
      clear hx2
      generalize hL1 : (l ++ putTexts (List.take k zs) ++ leb (zz ↑x.size)) = L1 at *
      have HL1 := Lib.hid hL1
      clear hL1
      go_wp2_with (at_builtin; refine wpList_append_src _ rfl _ _ 33 9 rfl base 5 i0 (.int .u8 0) 1 1 Try.underlying33 hi hz0 hz1 hzz rfl (by decide) _ _ _ rfl hbuf _ _ _ rfl (Src.ofString _ Try.underlying9 x) (by unfold maxLen; omega) (by omega) (by omega) ?_; intro v2 w2 h1 h2 _ h3)
      go_roundw
      case rel =>
        rw [byteCells_sb, HX.out] at h1
        have hr := (hO.trans hO1).app h1 h2 h3
        exact ⟨k + 1, _, by omega, rfl, by go_num, by rw [ST.out]; unfold putText; rw [← List.append_assoc, ← List.append_assoc, HL1.out]; exact hr, by rw [ST.out]; unfold putText; rw [← List.append_assoc, ← List.append_assoc, HL1.out, List.length_append, HM.out, ← HX.out]; omega⟩
      case measure => simp [intOf]; omega
    · obtain rfl : k = zs.length := by omega
      rw [List.take_length] at hO
      go_wp2_with fail
      go_ret
      exact ⟨_, rfl, hO⟩
theorem putAll_len (l : List Int) (h : ∀ n ∈ l, I64 n) : (putAll l).length ≤ 10 * l.length := by
  induction l with
  | nil => simp [putAll]
  | cons x l ih =>
    have hx := h x (by simp)
    have := ih (fun n hn => h n (by simp [hn]))
    have h10 := leb_len 10 (zz x) (by have := zz_lt x hx.1 hx.2; omega) (by omega)
    simp only [putAll, List.map_cons, List.flatten_cons, List.length_append, List.length_cons] at *
    omega
theorem putAll_byte (l : List Int) : ∀ c ∈ putAll l, c < 256 := by
  intro c hc
  simp only [putAll, List.mem_flatten, List.mem_map] at hc
  obtain ⟨x, ⟨n, _, rfl⟩, hx⟩ := hc
  exact leb_byte _ c hx
end Go.Proofs.Ytonghelcfbjknaa
