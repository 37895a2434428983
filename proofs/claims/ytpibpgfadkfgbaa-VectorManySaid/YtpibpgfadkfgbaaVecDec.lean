/- The contract of vector.Decode. -/
import Derived.Test.YtpibpgfadkfgbaaVecEnc
namespace Go.Proofs.Ytpibpgfadkfgbaa
open Go.ChangeShapes Go.WideShapes Go.ChangeAt Go.RowKit
set_option linter.unusedVariables false
set_option linter.unusedSimpArgs false

def ofVals (vs : List Int) : Nat → Int := fun i => if 1 ≤ i ∧ i ≤ 5 then vs.getD (i - 1) 0 else 0
def VecOk (l : List Nat) : Prop := (getMany l 5).2.2 = 0 ∧ VOk (ofVals (getMany l 5).1) ∧ putAll (vnums (ofVals (getMany l 5).1)) = l
def GotVec (w : World) (l : List Nat) (e : Ending) (w' : World) : Prop := Keep [] w w' ∧
  ((VecOk l ∧ e = .returned (.tuple #[vec (ofVals (getMany l 5).1), .int .i64 0])) ∨ (¬ VecOk l ∧ e = .returned (.tuple #[vec (fun _ => 0), .int .i64 1])))
theorem run_zeroVec (W : World) : (Instr.build 26 #[]).run Try.prog W = .ok (vec fun _ => 0) W := run_build W _ _ _ (by kernel_rfl)

def dW1 (w : World) : World := ((w.alloc (.cells (v6 fun _ => 0).toArray 26)).alloc (.cells (v6 fun _ => 0).toArray 26)).alloc (.cells #[.pointer (some ⟨w.heap.size + 1, 1, none⟩), .pointer (some ⟨w.heap.size + 1, 2, none⟩), .pointer (some ⟨w.heap.size + 1, 3, none⟩), .pointer (some ⟨w.heap.size + 1, 4, none⟩), .pointer (some ⟨w.heap.size + 1, 5, none⟩)] 68)
def dPs (w : World) : List (Option Addr) := [some ⟨w.heap.size + 1, 1, none⟩, some ⟨w.heap.size + 1, 2, none⟩, some ⟨w.heap.size + 1, 3, none⟩, some ⟨w.heap.size + 1, 4, none⟩, some ⟨w.heap.size + 1, 5, none⟩]
theorem dW1_res (w : World) : Blk (dW1 w) w.heap.size (v6 fun _ => 0) 26 := ((Blk.new w (v6 fun _ => 0) 26).alloc _).alloc _
theorem dW1_v (w : World) : Blk (dW1 w) (w.heap.size + 1) (v6 fun _ => 0) 26 := (Blk.new' _ (v6 fun _ => 0) _ (w.heap.size + 1) (by simp)).alloc _
theorem dW1_keep (w : World) : Keep [] w (dW1 w) := (((Keep.refl _ _).alloc _).alloc _).alloc _
theorem dW1_size (w : World) : (dW1 w).heap.size = w.heap.size + 3 := by simp [dW1]
theorem dW1_ps (w : World) : Rv (dW1 w) 1 (.slice (some ⟨w.heap.size + 2, 0, none⟩) 5 5) 5 (ptrs (dPs w)) := by
  have hb : Blk (dW1 w) (w.heap.size + 2) (ptrs (dPs w)) 68 := Blk.new' _ (ptrs (dPs w)) _ _ (by simp)
  refine ⟨rfl, _, 5, rfl, by omega, fun _ => ⟨_, 0, rfl, hb.lt, fun i hi => ?_⟩⟩
  rw [Nat.zero_add, hb.cell]
theorem dPs_blocks (w : World) : blocks (dPs w) = [w.heap.size + 1, w.heap.size + 1, w.heap.size + 1, w.heap.size + 1, w.heap.size + 1] := rfl
theorem set5 (w : World) (a b c d e : Int) : Blk (setAll (dW1 w) (dPs w) [a, b, c, d, e]) (w.heap.size + 1) (v6 (ofVals [a, b, c, d, e])) 26 :=
  (((((dW1_v w).set 1 (.int .i64 a)).set 2 (.int .i64 b)).set 3 (.int .i64 c)).set 4 (.int .i64 d)).set 5 (.int .i64 e)

theorem buf_at {w : World} {base : Nat} {E : TypeId} {v : Value} {l : List Nat} (h : Buf w base E v l) (hp : 0 < l.length) : ∃ g cap, v = .slice (some ⟨g, 0, none⟩) l.length cap ∧ l.length ≤ cap := by
  rcases h.2 with ⟨rfl, hn⟩ | ⟨g, cap, cur, rfl, hb, hg, hc, _⟩
  · omega
  · exact ⟨g, cap, rfl, hc⟩
set_option maxRecDepth 100000 in
set_option maxHeartbeats 4000000 in
theorem vDecode_any {w : World} (bv : Value) (l : List Nat) (h : Rd w bv l) (hb : ∀ c ∈ l, c < 256) (hl : l.length ≤ 4611686018427387904) :
    Calls Try.prog 23 #[bv] w (GotVec w l) := by
  obtain ⟨_, ba, bcap, rfl, _, _⟩ := id h
  have hzv := run_zeroVec
  have heq := fun (W : World) (a : Option Addr) (n c : Nat) => Lib.run_eql_slice_nil (P := Try.prog) W 33 5 a n c 0 0 Try.underlying33
  obtain ⟨r, hr⟩ : ∃ r, r = getMany l 5 := ⟨_, rfl⟩
  have hri := getMany_i64 5 l hb
  have hrl := (getMany_len 5 l)
  rw [← hr] at hri hrl
  have HR := Lib.hid hr
  clear hr
  obtain ⟨vals, pos, er⟩ := r
  simp only at hri hrl
  go_enter Try.func23, Try.ntmps23
  go_wp2_with fail
  have hrd := h.keep (dW1_keep w) (by simp)
  have hcell : ∀ a, some a ∈ dPs w → (∃ u, (dW1 w).cell? a = some u) ∧ (dW1 w).frozen? a = false := by
    intro a ha
    simp [dPs] at ha
    have hv := dW1_v w
    rcases ha with rfl | rfl | rfl | rfl | rfl <;> exact ⟨⟨_, hv.cell _⟩, hv.free _⟩
  refine (All_any (w := dW1 w) _ _ l (dPs w) hrd (dW1_ps w) hb hl (by simp [dPs]) hcell (fun b hb2 hp hm => by have := h.lo b hb2 hp; rw [dPs_blocks] at hm; simp at hm; omega) (fun b hb2 hm => by rw [dPs_blocks] at hm; simp [Value.ownBlock] at hb2 hm; omega) (vals, pos, er) HR.out).mono ?_
  rintro e w2 ⟨rfl, hw2⟩
  simp only at hw2
  have hk2 : Keep [w.heap.size + 1] (dW1 w) w2 := by
    rw [hw2]
    exact setAll_keep _ _ _ _ _ (Keep.refl _ _) (by rw [dPs_blocks]; simp)
  have hres := (dW1_res w).keep hk2 (by simp)
  have hkk : Keep [] w w2 := (dW1_keep w).then hk2 (by simp)
  have hrd2 := h.keep hkk (by simp)
  by_cases her : er = 0
  · subst her
    have hlen := hrl.2 rfl
    have hvb : Blk w2 (w.heap.size + 1) (v6 (ofVals vals)) 26 := by
      rw [hw2]
      match vals, hlen with
      | [a, b, c, d, e], _ => exact set5 w a b c d e
    clear hw2 hk2 hcell hrd hri hrl hlen
    generalize hfv : ofVals vals = f at *
    have HFV := Lib.hid hfv
    clear hfv
    obtain ⟨f0, f1, f2, f3, f4, f5⟩ := v6_cells hvb
    go_wp2_with fail
    refine (vEncode_any f).mono ?_
    rintro e w3 ⟨cv, rfl, hk3, hcase⟩
    have hres3 := hres.keep hk3 (by simp)
    have hvb3 := hvb.keep hk3 (by simp)
    have hrd3 := hrd2.keep hk3 (by simp)
    have hk4 := hkk.trans hk3
    clear f0 f1 f2 f3 f4 f5
    obtain ⟨f0, f1, f2, f3, f4, f5⟩ := v6_cells hvb3
    rcases hcase with ⟨hok, hcb⟩ | ⟨hnok, rfl⟩
    · obtain ⟨cg, ccap, rfl, _⟩ := buf_at hcb (by
        have := leb_ne (zz (f 1))
        unfold vnums
        rw [putAll_cons', List.length_append]
        cases hx : leb (zz (f 1)) with
        | nil => exact absurd hx this
        | cons _ _ => simp; omega)
      have hcr := hcb.rd
      by_cases hpe : putAll (vnums f) = l
      · have HPE := Lib.hid hpe
        clear hpe
        go_wp2_with fail
        refine (Equal_any _ _ (putAll (vnums f)) l true hcr hrd3 (putAll_byte _) hb (decide_eq_true HPE.out).symm).mono ?_
        rintro e w' ⟨rfl, rfl⟩
        go_wp2_with (refine wpList_store_blk rfl 26 _ _ rfl w.heap.size (v6 (fun _ => 0)) (v6 f) 26 rfl rfl hres3 rfl Try.sizeVec (v6_one f) ?_; intro w5 hB5 hK5)
        refine bodyPost_ret (v := .tuple #[vec f, .int .i64 0]) ?_ rfl (by unfold GotVec VecOk; rw [← HR.out]; simp only; rw [HFV.out]; exact ⟨hk4.then hK5 (by simp), .inl ⟨⟨by simp, hok, HPE.out⟩, by simp⟩⟩)
        obtain ⟨d0, d1, d2, d3, d4, d5⟩ := v6_cells hB5
        simp [results, Try.results23, go_sem, d0, d1, d2, d3, d4, d5]
      · have HPE := Lib.hid hpe
        clear hpe
        go_wp2_with fail
        refine (Equal_any _ _ (putAll (vnums f)) l false hcr hrd3 (putAll_byte _) hb (decide_eq_false HPE.out).symm).mono ?_
        rintro e w' ⟨rfl, rfl⟩
        go_wp2_with (refine wpList_store_blk rfl 26 _ _ rfl w.heap.size (v6 (fun _ => 0)) (v6 (fun _ => 0)) 26 rfl rfl hres3 rfl Try.sizeVec (v6_one _) ?_; intro w5 hB5 hK5)
        refine bodyPost_ret (v := .tuple #[vec (fun _ => 0), .int .i64 1]) ?_ rfl (by unfold GotVec VecOk; rw [← HR.out]; simp only; rw [HFV.out]; exact ⟨hk4.then hK5 (by simp), .inr ⟨fun hh => HPE.out hh.2.2, by simp⟩⟩)
        obtain ⟨d0, d1, d2, d3, d4, d5⟩ := v6_cells hB5
        simp [results, Try.results23, go_sem, d0, d1, d2, d3, d4, d5]
    · go_wp2_with (refine wpList_store_blk rfl 26 _ _ rfl w.heap.size (v6 (fun _ => 0)) (v6 (fun _ => 0)) 26 rfl rfl hres3 rfl Try.sizeVec (v6_one _) ?_; intro w5 hB5 hK5)
      refine bodyPost_ret (v := .tuple #[vec (fun _ => 0), .int .i64 1]) ?_ rfl (by unfold GotVec VecOk; rw [← HR.out]; simp only; rw [HFV.out]; exact ⟨hk4.then hK5 (by simp), .inr ⟨fun hh => hnok hh.2.1, by simp⟩⟩)
      obtain ⟨d0, d1, d2, d3, d4, d5⟩ := v6_cells hB5
      simp [results, Try.results23, go_sem, d0, d1, d2, d3, d4, d5]
  · have q1 : ((er : Int) == 0) = false := by simpa using her
    have q2 : ((er : Int) != 0) = true := by simpa using her
    have q3 : (er == 0) = false := by simpa using her
    have HER := Lib.hid her
    clear hw2 hk2 hcell hrd hri hrl her
    go_wp2_with (refine wpList_store_blk rfl 26 _ _ rfl w.heap.size (v6 (fun _ => 0)) (v6 (fun _ => 0)) 26 rfl rfl hres rfl Try.sizeVec (v6_one _) ?_; intro w5 hB5 hK5)
    refine bodyPost_ret (v := .tuple #[vec (fun _ => 0), .int .i64 1]) ?_ rfl (by unfold GotVec VecOk; rw [← HR.out]; exact ⟨hkk.then hK5 (by simp), .inr ⟨fun hh => HER.out hh.1, by simp⟩⟩)
    obtain ⟨d0, d1, d2, d3, d4, d5⟩ := v6_cells hB5
    simp [results, Try.results23, go_sem, d0, d1, d2, d3, d4, d5]
end Go.Proofs.Ytpibpgfadkfgbaa
