/- The begun of num's laws. -/
import Derived.Test.YthknelejcedhnaaNumAll
namespace Go.Proofs.Ythknelejcedhnaa
open Go.ChangeShapes Go.WideShapes Go.ChangeAt Go.RowKit
set_option linter.unusedVariables false
set_option linter.unusedSimpArgs false

theorem leb_one (u : Nat) (h : u < 128) : leb u = [u] := leb_small u h

theorem size_ab : (⟨#[97, 98]⟩ : ByteArray).size = 2 := rfl
theorem got_two : ([1, -1], 2, 0) = getMany [2, 1, 9] 2 := by decide
set_option maxHeartbeats 1000000 in
theorem begun2 (w : World) : Calls Try.prog 14 #[] w fun e w' => e = .returned (.bool true) ∧ Keep [] w w' := by
  go_enter Try.func14, Try.ntmps14
  go_wp2_with fail
  have b1 : Rd ((((w.alloc (.cells #[.int .i64 0] 2)).alloc (.cells #[.int .i64 0] 2)).alloc (.cells #[.int .u8 2, .int .u8 1, .int .u8 9] 5)).alloc (.cells #[.pointer (some ⟨w.heap.size, 0, none⟩), .pointer (some ⟨w.heap.size + 1, 0, none⟩)] 69))
      (.slice (some ⟨w.heap.size + 2, 0, none⟩) 3 3) [2, 1, 9] := (Rv.new _ [.int .u8 2, .int .u8 1, .int .u8 9] _ 1 3 3 rfl (by omega) _ (by simp)).alloc _
  have b2 : Rv ((((w.alloc (.cells #[.int .i64 0] 2)).alloc (.cells #[.int .i64 0] 2)).alloc (.cells #[.int .u8 2, .int .u8 1, .int .u8 9] 5)).alloc (.cells #[.pointer (some ⟨w.heap.size, 0, none⟩), .pointer (some ⟨w.heap.size + 1, 0, none⟩)] 69))
      1 (.slice (some ⟨w.heap.size + 3, 0, none⟩) 2 2) 2 (ptrs [some ⟨w.heap.size, 0, none⟩, some ⟨w.heap.size + 1, 0, none⟩]) := Rv.new _ _ _ 1 2 2 rfl (by omega) _ (by simp)
  have B1 : Blk ((((w.alloc (.cells #[.int .i64 0] 2)).alloc (.cells #[.int .i64 0] 2)).alloc (.cells #[.int .u8 2, .int .u8 1, .int .u8 9] 5)).alloc (.cells #[.pointer (some ⟨w.heap.size, 0, none⟩), .pointer (some ⟨w.heap.size + 1, 0, none⟩)] 69)) w.heap.size [.int .i64 0] 2 :=
    (((Blk.new' _ _ _ _ rfl).alloc _).alloc _).alloc _
  have B2 : Blk ((((w.alloc (.cells #[.int .i64 0] 2)).alloc (.cells #[.int .i64 0] 2)).alloc (.cells #[.int .u8 2, .int .u8 1, .int .u8 9] 5)).alloc (.cells #[.pointer (some ⟨w.heap.size, 0, none⟩), .pointer (some ⟨w.heap.size + 1, 0, none⟩)] 69)) (w.heap.size + 1) [.int .i64 0] 2 :=
    ((Blk.new' _ _ _ _ (by simp)).alloc _).alloc _
  have hk : Keep [] w ((((w.alloc (.cells #[.int .i64 0] 2)).alloc (.cells #[.int .i64 0] 2)).alloc (.cells #[.int .u8 2, .int .u8 1, .int .u8 9] 5)).alloc (.cells #[.pointer (some ⟨w.heap.size, 0, none⟩), .pointer (some ⟨w.heap.size + 1, 0, none⟩)] 69)) :=
    ((((Keep.refl _ _).alloc _).alloc _).alloc _).alloc _
  generalize ((((w.alloc (.cells #[.int .i64 0] 2)).alloc (.cells #[.int .i64 0] 2)).alloc (.cells #[.int .u8 2, .int .u8 1, .int .u8 9] 5)).alloc (.cells #[.pointer (some ⟨w.heap.size, 0, none⟩), .pointer (some ⟨w.heap.size + 1, 0, none⟩)] 69)) = W1 at *
  refine (All_any _ _ [2, 1, 9] [some ⟨w.heap.size, 0, none⟩, some ⟨w.heap.size + 1, 0, none⟩] b1 b2 (by decide) (by decide) (by simp) ?_ ?_ ?_ ([1, -1], 2, 0) got_two).mono ?_
  · intro a ha
    simp at ha
    rcases ha with rfl | rfl
    · exact ⟨⟨_, B1.cell 0⟩, B1.free 0⟩
    · exact ⟨⟨_, B2.cell 0⟩, B2.free 0⟩
  · intro b hb; simp [Value.ownBlock] at hb; subst hb; simp [blocks]
  · intro b hb; simp [Value.ownBlock] at hb; subst hb; simp [blocks]
  rintro e W2 ⟨rfl, hW2⟩
  have C1 : Blk W2 w.heap.size [.int .i64 1] 2 := by
    rw [hW2]; exact (B1.set 0 _).other (by simp) _
  have C2 : Blk W2 (w.heap.size + 1) [.int .i64 (-1)] 2 := by
    rw [hW2]; exact (B2.other (by simp) _).set 0 _
  have hk2 : Keep [] w W2 := by rw [hW2]; exact (hk.setCell (.inr (by simp)) _).setCell (.inr (by simp)) _
  have hs2 := hk2.size
  clear hW2 b1 b2 B1 B2 hk
  go_wp2_with fail
  refine (PutText_any W2.heap.size (.slice none 0 0) [] _ [⟨#[97, 98]⟩] (Buf.nil _ _ _) (Rv.new _ _ _ 1 1 1 rfl (by omega) _ rfl) (by simp [Value.ownBlock]) 2 (by simp [size_ab]) (by simp) (by simp)).mono ?_
  rintro e W3 ⟨v3, rfl, o3⟩
  have e3 : [] ++ putTexts [⟨#[97, 98]⟩] = [4, 97, 98] := by
    simp [putTexts, putText, sb, zz, size_ab, leb_small]
  rw [e3] at o3
  have hk3 : Keep [] w W3 := (hk2.alloc _).then o3.keep (by simp [Value.ownBlock])
  have hs3 := o3.keep.size
  have D1 : Blk W3 w.heap.size [.int .i64 1] 2 := (C1.alloc _).keep o3.keep (by simp [Value.ownBlock])
  have D2 : Blk W3 (w.heap.size + 1) [.int .i64 (-1)] 2 := (C2.alloc _).keep o3.keep (by simp [Value.ownBlock])
  have hb3 := o3.buf.rd
  clear e3 C1 C2 o3 hk2
  go_wp2_with fail
  refine (GetText_any v3 [4, 97, 98] hb3 (by decide) (by decide) ([97, 98], 3, 0) (by decide)).mono ?_
  rintro e w' ⟨rfl, rfl⟩
  rw [show toStr [97, 98] = ⟨#[97, 98]⟩ from rfl]
  go_wp2_with fail
  refine (Get_any _ [] (Rv.nil _ 1) (by decide) (by decide) (0, 0, 2) (by decide)).mono ?_
  rintro e w' ⟨rfl, rfl⟩
  go_wp2_with fail
  have hns : Rv (W3.alloc (.cells #[.int .i64 1, .int .i64 (-1)] 2)) 1 (.slice (some ⟨W3.heap.size, 0, none⟩) 2 2) 2 (ints [1, -1]) := Rv.new _ _ _ 1 2 2 rfl (by omega) _ rfl
  refine (Put_any W3.heap.size (.slice none 0 0) [] _ [1, -1] (Buf.nil _ _ _) hns (by simp [Value.ownBlock]) (by simp [I64]) (by simp) (by simp)).mono ?_
  rintro e W4 ⟨v4, rfl, o4⟩
  have e4 : [] ++ putAll [1, -1] = [2, 1] := by
    simp [putAll, zz, leb_small]
  rw [e4] at o4
  have hk4 : Keep [] w W4 := (hk3.alloc _).then o4.keep (by simp [Value.ownBlock])
  have E1 : Blk W4 w.heap.size [.int .i64 1] 2 := (D1.alloc _).keep o4.keep (by simp [Value.ownBlock])
  have E2 : Blk W4 (w.heap.size + 1) [.int .i64 (-1)] 2 := (D2.alloc _).keep o4.keep (by simp [Value.ownBlock])
  have hcv := Rd.str (P := Try.prog) (src := 22) (dst := 9) o4.buf.rd (by decide) Try.underlying22 Try.underlying5 Try.underlying9
  rw [show toStr [2, 1] = ⟨#[2, 1]⟩ from rfl] at hcv
  have c1 := E1.cell 0
  have c2 := E2.cell 0
  simp only [List.getElem?_cons_zero] at c1 c2
  clear e4 D1 D2 o4 hns E1 E2 hk3
  go_wp2_with fail
  go_ret
  exact ⟨rfl, hk4⟩
end Go.Proofs.Ythknelejcedhnaa
