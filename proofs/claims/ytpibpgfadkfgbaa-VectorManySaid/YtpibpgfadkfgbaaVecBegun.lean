/- The laws' begun; vectors to bytes and back; the law VectorSet: its walk. -/
import Derived.Test.YtpibpgfadkfgbaaVecDec
import Derived.Deep.RegionWith
namespace Go.Proofs.Ytpibpgfadkfgbaa
open Go.ChangeShapes Go.WideShapes Go.ChangeAt Go.RowKit
set_option linter.unusedVariables false
set_option linter.unusedSimpArgs false

def vcut (f : Nat → Int) : Nat → Int := fun i => if 1 ≤ i ∧ i ≤ 5 then f i else 0
theorem ofVals_nums (f : Nat → Int) : ofVals (vnums f) = vcut f := by
  funext i
  unfold ofVals vcut
  by_cases h : 1 ≤ i ∧ i ≤ 5
  · rw [if_pos h, if_pos h, vnums_at _ _ (by omega), show i - 1 + 1 = i by omega]
  · rw [if_neg h, if_neg h]
theorem vnums_vcut (f : Nat → Int) : vnums (vcut f) = vnums f := rfl
theorem vok_vcut {f : Nat → Int} (h : VOk f) : VOk (vcut f) := fun i h1 h2 => by
  unfold vcut; rw [if_pos ⟨h1, h2⟩]; exact h i h1 h2
theorem vec_back {f : Nat → Int} (h : VOk f) : (getMany (putAll (vnums f)) 5).1 = vnums f ∧ VecOk (putAll (vnums f)) := by
  have hg := getMany_put (vnums f) [] (vnums_i64 h)
  rw [List.append_nil] at hg
  have hg5 : getMany (putAll (vnums f)) 5 = (vnums f, (putAll (vnums f)).length, 0) := hg
  refine ⟨by rw [hg5], ?_⟩
  unfold VecOk
  rw [hg5]
  exact ⟨rfl, by rw [ofVals_nums]; exact vok_vcut h, by rw [ofVals_nums, vnums_vcut]⟩
theorem rv_vecs (w : World) (us : List (Nat → Int)) (cs : Array Value) (hcs : (us.map v6).flatten.toArray = cs) (b : Nat) (hb : b = w.heap.size) (T : TypeId) : Rv (w.alloc (.cells cs T)) 6 (.slice (some ⟨b, 0, none⟩) us.length us.length) us.length (us.map v6).flatten := by
  subst hcs
  exact Rv.new _ _ _ 6 us.length us.length (flatten_len v6 6 (fun _ => rfl) us) (Nat.le_refl _) b hb

theorem vkeep {w w' : World} {f : Nat → Int} {T : TypeId} {b : Nat} (hb : b = w.heap.size)
    (k : Keep [] (w.alloc (.cells #[.int .i64 (f 0), .int .i64 (f 1), .int .i64 (f 2), .int .i64 (f 3), .int .i64 (f 4), .int .i64 (f 5)] T)) w') : Blk w' b (v6 f) T :=
  (Blk.new' w (v6 f) T b hb).keep k (by simp)
def bF : Nat → Int := vof [1, 5]
def bG : Nat → Int := vof [2, 3, 4]
def bX : Nat → Int := vmaxN bF [bG] 1
theorem bX_ok : VOk bX := by
  intro i h1 h2
  have : i = 1 ∨ i = 2 ∨ i = 3 ∨ i = 4 ∨ i = 5 := by omega
  rcases this with rfl | rfl | rfl | rfl | rfl <;> decide
set_option maxRecDepth 100000 in
set_option maxHeartbeats 4000000 in
theorem begun11 (w : World) : Calls Try.prog 13 #[] w fun e w' => e = .returned (.bool true) ∧ Keep [] w w' := by
  go_enter Try.func13, Try.ntmps13
  go_wp2_with fail
  refine (vOf_any _ [1, 5] (Rv.new _ (ints [1, 5]) _ 1 2 2 rfl (by omega) _ rfl) (by decide)).mono ?_
  rintro e w1 ⟨rfl, hK1⟩
  have hKa : Keep [] w w1 := ((Keep.refl [] w).alloc _).trans hK1
  clear hK1
  rw [show vof [1, 5] = bF from rfl]
  go_wp2_with fail
  refine (vOf_any _ [2, 3, 4] (Rv.new _ (ints [2, 3, 4]) _ 1 3 3 rfl (by omega) _ rfl) (by decide)).mono ?_
  rintro e w2 ⟨rfl, hK2⟩
  have hKb : Keep [] w w2 := (hKa.alloc _).trans hK2
  clear hK2 hKa
  rw [show vof [2, 3, 4] = bG from rfl]
  go_wp2_with fail
  refine (vMax_any bF _ [bG] (rv_vecs _ [bG] _ rfl _ (by simp) _) (by decide)).mono ?_
  rintro e w3 ⟨rfl, k3⟩
  rw [show vmaxN bF [bG] [bG].length = bX from rfl]
  have H1 : Blk w3 w2.heap.size (v6 bF) 26 := (((Blk.new w2 (v6 bF) 26).alloc _).alloc _).keep k3 (by simp)
  have H2 : Blk w3 (w2.heap.size + 1) (v6 bG) 26 := ((Blk.new' (w2.alloc (.cells (v6 bF).toArray 26)) (v6 bG) 26 _ (by simp)).alloc _).keep k3 (by simp)
  have K3 := (((hKb.alloc _).alloc _).alloc _).trans k3
  clear k3 hKb
  have l1 := H1.lt
  have l2 := H2.lt
  go_wp2_with fail
  refine (vEncode_any bX).mono ?_
  rintro e w4 ⟨bv, rfl, k4, hc⟩
  have H1 := (H1.alloc _).keep k4 (by simp)
  have H2 := (H2.alloc _).keep k4 (by simp)
  have H3 := vkeep rfl k4
  have K4 := (K3.alloc _).trans k4
  clear k4 K3
  rcases hc with ⟨_, hbuf⟩ | ⟨hn, _⟩
  case inr => exact absurd bX_ok hn
  go_wp2_with fail
  refine (vDecode_any bv (putAll (vnums bX)) hbuf.rd (putAll_byte _) (by have := putAll_len (vnums bX) (vnums_i64 bX_ok); simp [vnums] at this ⊢; omega)).mono ?_
  rintro e w5 hG
  obtain ⟨k5, ⟨_, rfl⟩ | ⟨hn, _⟩⟩ := hG
  case inr => exact absurd (vec_back bX_ok).2 hn
  rw [(vec_back bX_ok).1, ofVals_nums]
  have H1 := H1.keep k5 (by simp)
  have H2 := H2.keep k5 (by simp)
  have H3 := H3.keep k5 (by simp)
  have K5 := K4.trans k5
  clear k5 K4 hbuf
  have l1 := H1.lt
  have l2 := H2.lt
  have l3 := H3.lt
  obtain ⟨a0, a1, a2, a3, a4, a5⟩ := v6_cells H1
  obtain ⟨b0, b1, b2, b3, b4, b5⟩ := v6_cells H2
  obtain ⟨c0, c1, c2, c3, c4, c5⟩ := v6_cells H3
  go_wp2_with fail
  refine (vGet_any bF 2 5 (by decide)).mono ?_
  rintro e u0 ⟨rfl, k⟩
  have H1 := (H1.alloc _).keep k (by simp)
  have H2 := (H2.alloc _).keep k (by simp)
  have H3 := (H3.alloc _).keep k (by simp)
  have H4 := vkeep rfl k
  have K := (K5.alloc _).trans k
  clear k a0 a1 a2 a3 a4 a5 b0 b1 b2 b3 b4 b5 c0 c1 c2 c3 c4 c5
  have l1 := H1.lt
  have l2 := H2.lt
  obtain ⟨a0, a1, a2, a3, a4, a5⟩ := v6_cells H1
  obtain ⟨b0, b1, b2, b3, b4, b5⟩ := v6_cells H2
  obtain ⟨c0, c1, c2, c3, c4, c5⟩ := v6_cells H3
  obtain ⟨d0, d1, d2, d3, d4, d5⟩ := v6_cells H4
  go_wp2_with fail
  refine (vGet_any bF 3 0 (by decide)).mono ?_
  rintro e u1 ⟨rfl, k⟩
  have H1 := H1.keep k (by simp)
  have H2 := H2.keep k (by simp)
  have H3 := H3.keep k (by simp)
  have H4 := H4.keep k (by simp)
  have K := K.trans k
  clear k a0 a1 a2 a3 a4 a5 b0 b1 b2 b3 b4 b5 c0 c1 c2 c3 c4 c5 d0 d1 d2 d3 d4 d5
  have l1 := H1.lt
  have l2 := H2.lt
  obtain ⟨a0, a1, a2, a3, a4, a5⟩ := v6_cells H1
  obtain ⟨b0, b1, b2, b3, b4, b5⟩ := v6_cells H2
  obtain ⟨c0, c1, c2, c3, c4, c5⟩ := v6_cells H3
  obtain ⟨d0, d1, d2, d3, d4, d5⟩ := v6_cells H4
  go_wp2_with fail
  refine (vGet_any bX 1 2 (by decide)).mono ?_
  rintro e u2 ⟨rfl, k⟩
  have H1 := H1.keep k (by simp)
  have H2 := H2.keep k (by simp)
  have H3 := H3.keep k (by simp)
  have H4 := H4.keep k (by simp)
  have K := K.trans k
  clear k a0 a1 a2 a3 a4 a5 b0 b1 b2 b3 b4 b5 c0 c1 c2 c3 c4 c5 d0 d1 d2 d3 d4 d5
  have l1 := H1.lt
  have l2 := H2.lt
  obtain ⟨a0, a1, a2, a3, a4, a5⟩ := v6_cells H1
  obtain ⟨b0, b1, b2, b3, b4, b5⟩ := v6_cells H2
  obtain ⟨c0, c1, c2, c3, c4, c5⟩ := v6_cells H3
  obtain ⟨d0, d1, d2, d3, d4, d5⟩ := v6_cells H4
  go_wp2_with fail
  refine (vGet_any bX 2 5 (by decide)).mono ?_
  rintro e u3 ⟨rfl, k⟩
  have H1 := H1.keep k (by simp)
  have H2 := H2.keep k (by simp)
  have H3 := H3.keep k (by simp)
  have H4 := H4.keep k (by simp)
  have K := K.trans k
  clear k a0 a1 a2 a3 a4 a5 b0 b1 b2 b3 b4 b5 c0 c1 c2 c3 c4 c5 d0 d1 d2 d3 d4 d5
  have l1 := H1.lt
  have l2 := H2.lt
  obtain ⟨a0, a1, a2, a3, a4, a5⟩ := v6_cells H1
  obtain ⟨b0, b1, b2, b3, b4, b5⟩ := v6_cells H2
  obtain ⟨c0, c1, c2, c3, c4, c5⟩ := v6_cells H3
  obtain ⟨d0, d1, d2, d3, d4, d5⟩ := v6_cells H4
  go_wp2_with fail
  refine (vMin_any bF _ [bG] (rv_vecs _ [bG] _ rfl _ rfl _) (by decide)).mono ?_
  rintro e u4 ⟨rfl, k⟩
  have H1 := (H1.alloc _).keep k (by simp)
  have H2 := (H2.alloc _).keep k (by simp)
  have H3 := (H3.alloc _).keep k (by simp)
  have H4 := (H4.alloc _).keep k (by simp)
  have K := (K.alloc _).trans k
  clear k a0 a1 a2 a3 a4 a5 b0 b1 b2 b3 b4 b5 c0 c1 c2 c3 c4 c5 d0 d1 d2 d3 d4 d5
  have l1 := H1.lt
  have l2 := H2.lt
  obtain ⟨a0, a1, a2, a3, a4, a5⟩ := v6_cells H1
  obtain ⟨b0, b1, b2, b3, b4, b5⟩ := v6_cells H2
  obtain ⟨c0, c1, c2, c3, c4, c5⟩ := v6_cells H3
  obtain ⟨d0, d1, d2, d3, d4, d5⟩ := v6_cells H4
  go_wp2_with fail
  refine (vGet_any (vminN bF [bG] [bG].length) 2 3 (by decide)).mono ?_
  rintro e u5 ⟨rfl, k⟩
  have H1 := H1.keep k (by simp)
  have H2 := H2.keep k (by simp)
  have H3 := H3.keep k (by simp)
  have H4 := H4.keep k (by simp)
  have K := K.trans k
  clear k a0 a1 a2 a3 a4 a5 b0 b1 b2 b3 b4 b5 c0 c1 c2 c3 c4 c5 d0 d1 d2 d3 d4 d5
  have l1 := H1.lt
  have l2 := H2.lt
  obtain ⟨a0, a1, a2, a3, a4, a5⟩ := v6_cells H1
  obtain ⟨b0, b1, b2, b3, b4, b5⟩ := v6_cells H2
  obtain ⟨c0, c1, c2, c3, c4, c5⟩ := v6_cells H3
  obtain ⟨d0, d1, d2, d3, d4, d5⟩ := v6_cells H4
  go_wp2_with fail
  refine (vHas_any bX bF true (by decide)).mono ?_
  rintro e u6 ⟨rfl, k⟩
  have H1 := H1.keep k (by simp)
  have H2 := H2.keep k (by simp)
  have H3 := H3.keep k (by simp)
  have H4 := H4.keep k (by simp)
  have K := K.trans k
  clear k a0 a1 a2 a3 a4 a5 b0 b1 b2 b3 b4 b5 c0 c1 c2 c3 c4 c5 d0 d1 d2 d3 d4 d5
  have l1 := H1.lt
  have l2 := H2.lt
  obtain ⟨a0, a1, a2, a3, a4, a5⟩ := v6_cells H1
  obtain ⟨b0, b1, b2, b3, b4, b5⟩ := v6_cells H2
  obtain ⟨c0, c1, c2, c3, c4, c5⟩ := v6_cells H3
  obtain ⟨d0, d1, d2, d3, d4, d5⟩ := v6_cells H4
  go_wp2_with fail
  refine (vHas_any bF bG false (by decide)).mono ?_
  rintro e u7 ⟨rfl, k⟩
  have H1 := H1.keep k (by simp)
  have H2 := H2.keep k (by simp)
  have H3 := H3.keep k (by simp)
  have H4 := H4.keep k (by simp)
  have K := K.trans k
  clear k a0 a1 a2 a3 a4 a5 b0 b1 b2 b3 b4 b5 c0 c1 c2 c3 c4 c5 d0 d1 d2 d3 d4 d5
  have l1 := H1.lt
  have l2 := H2.lt
  obtain ⟨a0, a1, a2, a3, a4, a5⟩ := v6_cells H1
  obtain ⟨b0, b1, b2, b3, b4, b5⟩ := v6_cells H2
  obtain ⟨c0, c1, c2, c3, c4, c5⟩ := v6_cells H3
  obtain ⟨d0, d1, d2, d3, d4, d5⟩ := v6_cells H4
  go_wp2_with fail
  refine (vGet_any (vcut bX) 3 4 (by decide)).mono ?_
  rintro e u8 ⟨rfl, k⟩
  have H1 := H1.keep k (by simp)
  have H2 := H2.keep k (by simp)
  have H3 := H3.keep k (by simp)
  have H4 := H4.keep k (by simp)
  have K := K.trans k
  clear k a0 a1 a2 a3 a4 a5 b0 b1 b2 b3 b4 b5 c0 c1 c2 c3 c4 c5 d0 d1 d2 d3 d4 d5
  have l1 := H1.lt
  have l2 := H2.lt
  obtain ⟨a0, a1, a2, a3, a4, a5⟩ := v6_cells H1
  obtain ⟨b0, b1, b2, b3, b4, b5⟩ := v6_cells H2
  obtain ⟨c0, c1, c2, c3, c4, c5⟩ := v6_cells H3
  obtain ⟨d0, d1, d2, d3, d4, d5⟩ := v6_cells H4
  go_wp2_with fail
  go_ret
  exact ⟨rfl, K⟩
end Go.Proofs.Ytpibpgfadkfgbaa
