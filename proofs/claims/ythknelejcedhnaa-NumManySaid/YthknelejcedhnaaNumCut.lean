/- The law NumCut: its walk. -/
import Derived.Test.YthknelejcedhnaaNumLaws
import Derived.Deep.DeepCutAuto
import Derived.Deep.CutBlock
namespace Go.Proofs.Ythknelejcedhnaa
open Go.ChangeShapes Go.WideShapes Go.ChangeAt Go.RowKit
set_option linter.unusedVariables false
set_option linter.unusedSimpArgs false

theorem get_cut (n : Int) (h : I64 n) (k : Nat) (hk : k < (leb (zz n)).length) : get ((leb (zz n)).take k) = (0, 0, 2) :=
  getGo_cut (zz n) 0 0 k (by omega) (zz_lt n h.1 h.2) hk
theorem getText_cut (t : ByteArray) (ht : t.size ≤ 100) (k : Nat) (hk : k < (putText t).length) : getText ((putText t).take k) = ([], 0, 2) := by
  have hI : I64 (t.size : Int) := ⟨by omega, by omega⟩
  by_cases h : k < (leb (zz (t.size : Int))).length
  · have e : (putText t).take k = (leb (zz (t.size : Int))).take k := by
      unfold putText
      rw [List.take_append_of_le_length (by omega)]
    rw [e]
    unfold getText
    rw [get_cut _ hI k h]
    simp
  · have e : (putText t).take k = leb (zz (t.size : Int)) ++ (sb t).take (k - (leb (zz (t.size : Int))).length) := by
      unfold putText
      rw [List.take_append, List.take_of_length_le (by omega)]
    have hl : ((putText t).take k).length = k := by rw [List.length_take]; omega
    have hlp : (putText t).length = (leb (zz (t.size : Int))).length + t.size := by unfold putText; rw [List.length_append, sb_length]
    unfold getText
    rw [hl, e, get_leb _ hI.1 hI.2]
    simp only [ne_eq, not_true_eq_false, if_false]
    rw [if_neg (by omega), if_pos (by omega)]
theorem rd_take {w : World} {v : Value} {l : List Nat} (h : Nat) (hv : Rv w 1 v h ((bcs l).take h)) (hl : h ≤ l.length) : Rd w v (l.take h) := by
  have e : (bcs l).take h = bcs (l.take h) := by simp [bcs, List.map_take]
  unfold Rd
  rw [List.length_take, Nat.min_eq_left hl, ← e]
  exact hv
theorem sb_byte (t : ByteArray) : ∀ c ∈ sb t, c < 256 := by
  intro c hc
  obtain ⟨x, _, rfl⟩ := List.mem_map.1 hc
  exact x.toNat_lt
theorem putText_byte (t : ByteArray) : ∀ c ∈ putText t, c < 256 := by
  intro c hc
  rcases List.mem_append.1 hc with h | h
  · exact leb_byte _ c h
  · exact sb_byte t c h

set_option maxRecDepth 100000 in
set_option maxHeartbeats 1000000 in
theorem numCut_walk (n : Int) (s : ByteArray) (cut : Int) (w : World) (w0 : (Lit.int .i64 n).wf = true) (w1 : s.size ≤ maxLen) (_w2 : (Lit.int .i64 cut).wf = true) :
    Calls Try.prog 6 #[.int .i64 n, .string s, .int .i64 cut] w fun e w' => e = .returned (.bool true) ∧ Below w.heap.size w w' := by
  have hI : I64 n := i64_wf w0
  unfold maxLen at w1
  obtain ⟨i0, hi, hz0, hz1, hz2⟩ := info_parts Try.info8
  go_enter Try.func6, Try.ntmps6
  go_wp2_with fail
  refine (begun2 w).mono ?_
  rintro e w0 ⟨rfl, k0⟩
  go_upto_if 21 with fail
  go_cut [1] (fun s1 wx => w0 = wx ∧ ∃ t : ByteArray, s1 = .string t ∧ t.size ≤ 100)
  case first =>
    by_cases h : 100 < s.size
    · have q1 : (100 : Int) < s.size := by omega
      go_wp2_with fail
      go_meet
      exact ⟨rfl, _, rfl, by simp; omega⟩
    · have q1 : ¬ (100 : Int) < s.size := by omega
      go_wp2_with fail
      go_meet
      exact ⟨rfl, _, rfl, by omega⟩
  case rest =>
    obtain ⟨rfl, t, rfl, ht⟩ := hcut
    go_wp2_with fail
    have hns : Rv (w0.alloc (.cells #[.int .i64 n] 2)) 1 (.slice (some ⟨w0.heap.size, 0, none⟩) 1 1) 1 (ints [n]) := Rv.new _ _ _ 1 1 1 rfl (by omega) _ rfl
    refine (Put_any w0.heap.size (.slice none 0 0) [] _ [n] (Buf.nil _ _ _) hns (by simp [Value.ownBlock]) (by simpa using hI) (by simp) (by simp)).mono ?_
    rintro e w1 ⟨v1, rfl, o1⟩
    have e1 : [] ++ putAll [n] = leb (zz n) := by simp [putAll]
    rw [e1] at o1
    have k1 : Keep [] w w1 := (k0.alloc _).then o1.keep (by simp [Value.ownBlock])
    clear e1 hns
    go_wp2_with fail
    have hts : Rv (w1.alloc (.cells #[.string t] 9)) 1 (.slice (some ⟨w1.heap.size, 0, none⟩) 1 1) 1 (strs [t]) := Rv.new _ _ _ 1 1 1 rfl (by omega) _ rfl
    refine (PutText_any w1.heap.size (.slice none 0 0) [] _ [t] (Buf.nil _ _ _) hts (by simp [Value.ownBlock]) 100 (by simpa using ht) (by simp) (by simp)).mono ?_
    rintro e w2 ⟨v2, rfl, o2⟩
    have e2 : [] ++ putTexts [t] = putText t := by simp [putTexts]
    rw [e2] at o2
    have k2 : Keep [] w w2 := (k1.alloc _).then o2.keep (by simp [Value.ownBlock])
    have rb : Rd w2 v1 (leb (zz n)) := (o1.buf.alloc _).rd.keep o2.keep (by simp [Value.ownBlock])
    have rc : Rd w2 v2 (putText t) := o2.buf.rd
    have lb := leb_len 10 (zz n) (by have := zz_lt n hI.1 hI.2; omega) (by omega)
    have lc : (putText t).length ≤ 110 := by
      unfold putText
      rw [List.length_append, sb_length]
      have := leb_len 10 (zz (t.size : Int)) (by have := zz_lt (t.size : Int) (by omega) (by omega); omega) (by omega)
      omega
    obtain ⟨_, ab, capb, rfl, hcb, _⟩ := id rb
    obtain ⟨_, ac, capc, rfl, hcc, _⟩ := id rc
    clear e2 hts o1 o2 k1
    have GC := fun k (hk : k < (leb (zz n)).length) => get_cut n hI k hk
    have TC := fun k (hk : k < (putText t).length) => getText_cut t ht k hk
    have BB := leb_byte (zz n)
    have BC := putText_byte t
    have HGC := Lib.hid GC
    have HTC := Lib.hid TC
    have HBB := Lib.hid BB
    have HBC := Lib.hid BC
    clear GC TC BB BC
    generalize leb (zz n) = B at *
    generalize putText t = C at *
    have hfin : ∀ c : Int, True := fun _ => trivial
    by_cases hc1 : cut < 1
    · go_wp2_with fail
      go_ret
      exact ⟨rfl, k2.below⟩
    · obtain ⟨K, rfl⟩ := Int.eq_ofNat_of_zero_le (show 0 ≤ cut by omega)
      by_cases hcb1 : K ≤ B.length
      · have q1 : (K : Int) ≤ B.length := by omega
        go_wp2_with (refine wpList_slice_to _ _ _ _ _ _ _ 5 i0 Try.underlying22 hi hz1 _ _ _ _ (B.length - K) rfl rfl (by show ((B.length : Int) - K) = _; omega) rb (by omega) ?_; intro v3 hv3 ho3)
        have r3 := rd_take _ hv3 (by omega)
        obtain ⟨_, a3, cap3, rfl, _, _⟩ := id r3
        refine (Get_any _ _ r3 (fun c hc => HBB.out c (List.mem_of_mem_take hc)) (by rw [List.length_take]; omega) (0, 0, 2) (HGC.out _ (by omega)).symm).mono ?_
        rintro e w' ⟨rfl, rfl⟩
        by_cases hcc1 : K ≤ C.length
        · have q2 : (K : Int) ≤ C.length := by omega
          go_wp2_with (refine wpList_slice_to _ _ _ _ _ _ _ 5 i0 Try.underlying22 hi hz1 _ _ _ _ (C.length - K) rfl rfl (by show ((C.length : Int) - K) = _; omega) rc (by omega) ?_; intro v4 hv4 ho4)
          have r4 := rd_take _ hv4 (by omega)
          obtain ⟨_, a4, cap4, rfl, _, _⟩ := id r4
          refine (GetText_any _ _ r4 (fun c hc => HBC.out c (List.mem_of_mem_take hc)) (by rw [List.length_take]; omega) ([], 0, 2) (HTC.out _ (by omega)).symm).mono ?_
          rintro e w' ⟨rfl, rfl⟩
          rw [show toStr [] = ⟨#[]⟩ from rfl]
          go_wp2_with fail
          go_ret
          exact ⟨rfl, k2.below⟩
        · have q2 : ¬ (K : Int) ≤ C.length := by omega
          go_wp2_with fail
          go_ret
          exact ⟨rfl, k2.below⟩
      · have q1 : ¬ (K : Int) ≤ B.length := by omega
        by_cases hcc1 : K ≤ C.length
        · have q2 : (K : Int) ≤ C.length := by omega
          go_wp2_with (refine wpList_slice_to _ _ _ _ _ _ _ 5 i0 Try.underlying22 hi hz1 _ _ _ _ (C.length - K) rfl rfl (by show ((C.length : Int) - K) = _; omega) rc (by omega) ?_; intro v4 hv4 ho4)
          have r4 := rd_take _ hv4 (by omega)
          obtain ⟨_, a4, cap4, rfl, _, _⟩ := id r4
          refine (GetText_any _ _ r4 (fun c hc => HBC.out c (List.mem_of_mem_take hc)) (by rw [List.length_take]; omega) ([], 0, 2) (HTC.out _ (by omega)).symm).mono ?_
          rintro e w' ⟨rfl, rfl⟩
          rw [show toStr [] = ⟨#[]⟩ from rfl]
          go_wp2_with fail
          go_ret
          exact ⟨rfl, k2.below⟩
        · have q2 : ¬ (K : Int) ≤ C.length := by omega
          go_wp2_with fail
          go_ret
          exact ⟨rfl, k2.below⟩
end Go.Proofs.Ythknelejcedhnaa
