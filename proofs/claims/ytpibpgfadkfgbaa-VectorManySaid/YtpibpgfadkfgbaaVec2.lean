/- The contracts of package vector: Of, Has; of the laws: of, same. -/
import Derived.Test.YtpibpgfadkfgbaaVec
namespace Go.Proofs.Ytpibpgfadkfgbaa
open Go.ChangeShapes Go.WideShapes Go.ChangeAt Go.RowKit
set_option linter.unusedVariables false
set_option linter.unusedSimpArgs false

theorem v6_cells {w : World} {b : Nat} {f : Nat → Int} {T : TypeId} (h : Blk w b (v6 f) T) : w.cell? ⟨b, 0, none⟩ = some (.int .i64 (f 0)) ∧ w.cell? ⟨b, 1, none⟩ = some (.int .i64 (f 1)) ∧ w.cell? ⟨b, 2, none⟩ = some (.int .i64 (f 2)) ∧ w.cell? ⟨b, 3, none⟩ = some (.int .i64 (f 3)) ∧ w.cell? ⟨b, 4, none⟩ = some (.int .i64 (f 4)) ∧ w.cell? ⟨b, 5, none⟩ = some (.int .i64 (f 5)) :=
  ⟨h.cell 0, h.cell 1, h.cell 2, h.cell 3, h.cell 4, h.cell 5⟩
def vofN (zs : List Int) : Nat → Nat → Int
  | 0 => fun _ => 0
  | k + 1 => vset (vofN zs k) ((k : Int) + 1) (zs.getD k 0)
/-- A vector of numbers. -/
def vof (zs : List Int) : Nat → Int := fun i => if 1 ≤ i ∧ i ≤ 5 ∧ i ≤ zs.length then max 0 (zs.getD (i - 1) 0) else 0
theorem vofN_eq (zs : List Int) (k : Nat) : vofN zs k = fun i => if 1 ≤ i ∧ i ≤ 5 ∧ i ≤ k then max 0 (zs.getD (i - 1) 0) else 0 := by
  induction k with
  | zero => funext i; simp only [vofN]; rw [if_neg (by omega)]
  | succ k ih =>
    funext i
    simp only [vofN, vset, ih]
    by_cases h : (i : Int) = (k : Int) + 1 ∧ 1 ≤ (k : Int) + 1 ∧ (k : Int) + 1 ≤ 5
    · rw [if_pos h, if_pos (by omega), show i - 1 = k by omega]; omega
    · rw [if_neg h]
      by_cases h2 : 1 ≤ i ∧ i ≤ 5 ∧ i ≤ k
      · rw [if_pos h2, if_pos (by omega)]
      · rw [if_neg h2, if_neg (by omega)]
theorem vofN_all (zs : List Int) : vofN zs zs.length = vof zs := by rw [vofN_eq]; rfl
theorem vof_zero (zs : List Int) : vof zs 0 = 0 := by unfold vof; rw [if_neg (by omega)]
theorem vof_nonneg (zs : List Int) (i : Nat) : 0 ≤ vof zs i := by unfold vof; split <;> omega

set_option maxRecDepth 100000 in
set_option maxHeartbeats 2000000 in
theorem vOf_any {w : World} (nv : Value) (zs : List Int) (hz : Rv w 1 nv zs.length (ints zs)) (hl : zs.length ≤ 9223372036854775807) :
    Calls Try.prog 15 #[nv] w fun e w' => e = .returned (vec (vof zs)) ∧ Keep [] w w' := by
  obtain ⟨_, na, ncap, rfl, _, _⟩ := id hz
  go_enter Try.func15, Try.ntmps15
  go_wp2_with fail
  have hb0 : Blk ((w.alloc (.cells #[.int .i64 0, .int .i64 0, .int .i64 0, .int .i64 0, .int .i64 0, .int .i64 0] 26)).alloc (.cells #[.int .i64 0, .int .i64 0, .int .i64 0, .int .i64 0, .int .i64 0, .int .i64 0] 26)) w.heap.size (v6 (fun _ => 0)) 26 := (Blk.new w (v6 (fun _ => 0)) 26).alloc _
  have hb1 : Blk ((w.alloc (.cells #[.int .i64 0, .int .i64 0, .int .i64 0, .int .i64 0, .int .i64 0, .int .i64 0] 26)).alloc (.cells #[.int .i64 0, .int .i64 0, .int .i64 0, .int .i64 0, .int .i64 0, .int .i64 0] 26)) (w.heap.size + 1) (v6 (fun _ => 0)) 26 := Blk.new' _ _ _ _ (by simp)
  go_loopw [8] (fun i wr => ∃ k : Nat, k ≤ zs.length ∧ i = .int .i64 k ∧ Blk wr (w.heap.size + 1) (v6 (vofN zs k)) 26 ∧ Blk wr w.heap.size (v6 (fun _ => 0)) 26 ∧ Keep [] w wr) (fun i _ => zs.length - (intOf i).toNat)
  case atStart => exact ⟨0, by omega, rfl, hb1, hb0, ((Keep.refl _ _).alloc _).alloc _⟩
  case round =>
    obtain ⟨k, hk, rfl, hV, hZ, hK⟩ := hrel
    clear hb0 hb1
    by_cases hlt : k < zs.length
    · have q0 : (k : Int) < zs.length := by omega
      have hz2 := hz.keep hK (by simp)
      obtain ⟨sb, so, cp, he, _, _, hat⟩ := hz2.at1 (by omega)
      simp only [Value.slice.injEq] at he
      obtain ⟨rfl, heq, rfl⟩ := he
      clear heq
      have c := hat k hlt
      rw [ints_at _ _ hlt] at c
      obtain ⟨v0, v1, v2, v3, v4, v5⟩ := v6_cells hV
      have HS := Lib.hid (show vset (vofN zs k) ((k : Int) + 1) (zs.getD k 0) = vofN zs (k + 1) from rfl)
      clear hat hz2
      generalize zs.getD k 0 = x at *
      generalize vofN zs k = f at *
      have hsz := hK.size
      go_wp2_with fail
      refine (vSet_any f ((k : Int) + 1) x).mono ?_
      rintro e w3 ⟨rfl, hK3⟩
      have hV3 := hV.keep hK3 (by simp)
      have hZ3 := hZ.keep hK3 (by simp)
      clear v0 v1 v2 v3 v4 v5
      rw [HS.out]
      generalize hg : vofN zs (k + 1) = g at *
      have HG := Lib.hid hg
      clear hg
      go_wp2_with (refine wpList_store_blk rfl 26 _ _ rfl (w.heap.size + 1) (v6 f) (v6 g) 26 rfl rfl hV3 rfl Try.sizeVec (v6_one g) ?_; intro w4 hB4 hK4)
      go_roundw
      case rel => exact ⟨k + 1, by omega, by go_num, by rw [HG.out]; exact hB4, hZ3.keep hK4 (by simp), (hK.trans hK3).then hK4 (by simp)⟩
      case measure => simp [intOf]; omega
    · obtain rfl : k = zs.length := by omega
      rw [vofN_all] at hV
      obtain ⟨v0, v1, v2, v3, v4, v5⟩ := v6_cells hV
      generalize hf : vof zs = f at *
      have HF := Lib.hid hf
      clear hf
      have hsz := hK.size
      go_wp2_with (refine wpList_store_blk rfl 26 _ _ rfl w.heap.size (v6 (fun _ => 0)) (v6 f) 26 rfl rfl hZ rfl Try.sizeVec (v6_one f) ?_; intro w2 hB2 hK2)
      refine bodyPost_ret (v := vec f) ?_ rfl ⟨by rw [HF.out], hK.then hK2 (by simp)⟩
      obtain ⟨d0, d1, d2, d3, d4, d5⟩ := v6_cells hB2
      simp [results, Try.results15, go_sem, d0, d1, d2, d3, d4, d5]

/-- Is each number at least the other one's? -/
def vhas (v u : Nat → Int) : Bool := decide (u 1 ≤ v 1) && (decide (u 2 ≤ v 2) && (decide (u 3 ≤ v 3) && (decide (u 4 ≤ v 4) && decide (u 5 ≤ v 5))))
theorem vhas_iff (v u : Nat → Int) : vhas v u = true ↔ ∀ i, 1 ≤ i → i ≤ 5 → u i ≤ v i := by
  unfold vhas
  simp only [Bool.and_eq_true, decide_eq_true_eq]
  constructor
  · rintro ⟨h1, h2, h3, h4, h5⟩ i hi hi5
    have : i = 1 ∨ i = 2 ∨ i = 3 ∨ i = 4 ∨ i = 5 := by omega
    rcases this with rfl | rfl | rfl | rfl | rfl <;> assumption
  · intro h
    exact ⟨h 1 (by omega) (by omega), h 2 (by omega) (by omega), h 3 (by omega) (by omega), h 4 (by omega) (by omega), h 5 (by omega) (by omega)⟩
theorem keepN {S : List Nat} {a w : World} (h : Keep S a w) (n : Nat) : Keep S a (w.drewN n) := ⟨h.os, h.tape, h.output, h.size, h.block⟩
theorem blkN {w : World} {b : Nat} {cs : List Value} {T : TypeId} (h : Blk w b cs T) (n : Nat) : Blk (w.drewN n) b cs T := h
set_option maxRecDepth 100000 in
set_option maxHeartbeats 2000000 in
theorem vHas_any {w : World} (v u : Nat → Int) (r : Bool) (hr : r = vhas v u) :
    Calls Try.prog 20 #[vec v, vec u] w fun e w' => e = .returned (.bool r) ∧ Keep [] w w' := by
  have HR := Lib.hid hr
  clear hr
  go_enter Try.func20, Try.ntmps20
  go_wp2_with fail
  have hb0 : Blk ((w.alloc (.cells #[.int .i64 (v 0), .int .i64 (v 1), .int .i64 (v 2), .int .i64 (v 3), .int .i64 (v 4), .int .i64 (v 5)] 26)).alloc (.cells #[.int .i64 (u 0), .int .i64 (u 1), .int .i64 (u 2), .int .i64 (u 3), .int .i64 (u 4), .int .i64 (u 5)] 26)) w.heap.size (v6 v) 26 := (Blk.new w (v6 v) 26).alloc _
  have hb1 : Blk ((w.alloc (.cells #[.int .i64 (v 0), .int .i64 (v 1), .int .i64 (v 2), .int .i64 (v 3), .int .i64 (v 4), .int .i64 (v 5)] 26)).alloc (.cells #[.int .i64 (u 0), .int .i64 (u 1), .int .i64 (u 2), .int .i64 (u 3), .int .i64 (u 4), .int .i64 (u 5)] 26)) (w.heap.size + 1) (v6 u) 26 := Blk.new' _ (v6 u) _ _ (by simp)
  go_loopw [5] (fun i wr => ∃ j : Nat, 1 ≤ j ∧ j ≤ 6 ∧ i = .int .i64 j ∧ (∀ i, 1 ≤ i → i < j → u i ≤ v i) ∧ Blk wr w.heap.size (v6 v) 26 ∧ Blk wr (w.heap.size + 1) (v6 u) 26 ∧ Keep [] w wr) (fun i _ => 6 - (intOf i).toNat)
  case atStart => exact ⟨1, by omega, by omega, rfl, fun i h1 h2 => by omega, hb0, hb1, ((Keep.refl _ _).alloc _).alloc _⟩
  case round =>
    obtain ⟨j, hj1, hj6, rfl, hall, hV, hU, hK⟩ := hrel
    clear hb0 hb1
    have HA := Lib.hid hall
    clear hall
    by_cases hj : j < 6
    · have q1 : (j : Int) ≤ 5 := by omega
      have q2 : (j : Int) < 6 := by omega
      have c1 := hV.cell j
      have c2 := hU.cell j
      rw [v6_at _ _ hj] at c1 c2
      by_cases hc : v j < u j
      · have HN : r = false := by
          rw [HR.out]
          cases h : vhas v u with
          | false => rfl
          | true => have := (vhas_iff v u).1 h j hj1 (by omega); omega
        subst HN
        go_wp2_with fail
        go_quiet (fail)
        go_wp2_with fail
        go_ret
        exact ⟨rfl, keepN hK nq⟩
      · go_wp2_with fail
        go_quiet (fail)
        go_wp2_with fail
        go_roundw
        case rel => exact ⟨j + 1, by omega, by omega, by go_num, fun i h1 h2 => by
          by_cases e : i = j
          · subst e; omega
          · exact HA.out i h1 (by omega), blkN hV nq, blkN hU nq, keepN hK nq⟩
        case measure => simp [intOf]; omega
    · obtain rfl : j = 6 := by omega
      have HN : r = true := by rw [HR.out]; exact (vhas_iff v u).2 (fun i h1 h2 => HA.out i h1 (by omega))
      subst HN
      go_wp2_with fail
      go_ret
      exact ⟨rfl, hK⟩

theorem Try.size6 : (Try.prog.info? 24).map (·.size) = some 6 := by kernel_rfl
set_option maxRecDepth 100000 in
set_option maxHeartbeats 2000000 in
theorem of_any {w : World} (nv : Value) (zs : List Int) (hz : Rv w 1 nv zs.length (ints zs)) (hl : zs.length ≤ 9223372036854775807) :
    Calls Try.prog 14 #[nv] w fun e w' => e = .returned (vec (vof zs)) ∧ Keep [] w w' := by
  obtain ⟨_, na, ncap, rfl, _, _⟩ := id hz
  go_enter Try.func14, Try.ntmps14
  go_wp2_with fail
  have hb0 : Blk ((w.alloc (.cells #[.int .i64 0, .int .i64 0, .int .i64 0, .int .i64 0, .int .i64 0, .int .i64 0] 24)).alloc (.cells #[.int .i64 0, .int .i64 0, .int .i64 0, .int .i64 0, .int .i64 0, .int .i64 0] 24)) w.heap.size (v6 (fun _ => 0)) 24 := (Blk.new w (v6 (fun _ => 0)) 24).alloc _
  have hb1 : Blk ((w.alloc (.cells #[.int .i64 0, .int .i64 0, .int .i64 0, .int .i64 0, .int .i64 0, .int .i64 0] 24)).alloc (.cells #[.int .i64 0, .int .i64 0, .int .i64 0, .int .i64 0, .int .i64 0, .int .i64 0] 24)) (w.heap.size + 1) (v6 (fun _ => 0)) 24 := Blk.new' _ _ _ _ (by simp)
  go_loopw [4] (fun i wr => ∃ k : Nat, k ≤ zs.length ∧ k ≤ 5 ∧ i = .int .i64 k ∧ Blk wr (w.heap.size + 1) (v6 (vofN zs k)) 24 ∧ Blk wr w.heap.size (v6 (fun _ => 0)) 24 ∧ Keep [] w wr) (fun i _ => zs.length - (intOf i).toNat)
  case atStart => exact ⟨0, by omega, by omega, rfl, hb1, hb0, ((Keep.refl _ _).alloc _).alloc _⟩
  case round =>
    obtain ⟨k, hk, hk5, rfl, hV, hZ, hK⟩ := hrel
    clear hb0 hb1
    have hsz := hK.size
    by_cases hin : k < zs.length ∧ k < 5
    · obtain ⟨hlt, hlt5⟩ := hin
      have q0 : (k : Int) < zs.length := by omega
      have q1 : decide (k < zs.length) = true := decide_eq_true hlt
      have q2 : (k : Int) < 5 := by omega
      have hz2 := hz.keep hK (by simp)
      obtain ⟨sb, so, cp, he, _, _, hat⟩ := hz2.at1 (by omega)
      simp only [Value.slice.injEq] at he
      obtain ⟨rfl, heq, rfl⟩ := he
      clear heq
      have c := hat k hlt
      rw [ints_at _ _ hlt] at c
      have d := hV.cell (k + 1)
      have d2 := hV.free (k + 1)
      rw [v6_at _ _ (by omega)] at d
      have hset := v6_set (vofN zs k) (k + 1) (max 0 (zs.getD k 0)) (by omega)
      have hfe : (fun i => if i = k + 1 then max 0 (zs.getD k 0) else vofN zs k i) = vofN zs (k + 1) := by
        funext i
        show _ = vset (vofN zs k) ((k : Int) + 1) (zs.getD k 0) i
        unfold vset
        by_cases h : i = k + 1
        · subst h; rw [if_pos rfl, if_pos (by omega)]; omega
        · rw [if_neg h, if_neg (by omega)]
      rw [hfe] at hset
      have hV3 := hV.set (k + 1) (.int .i64 (max 0 (zs.getD k 0)))
      rw [hset] at hV3
      have hk3 : Keep [w.heap.size + 1] wr (wr.setCell ⟨w.heap.size + 1, k + 1, none⟩ (.int .i64 (max 0 (zs.getD k 0)))) := (Keep.refl _ _).setCell (.inl (by simp)) _
      have HV3 := Lib.hid hV3
      have HK3 := Lib.hid hk3
      clear hat hz2 hset hfe hV3 hk3
      generalize zs.getD k 0 = x at *
      have hcs : x < 0 ∨ x = 0 ∨ 0 < x := by omega
      rcases hcs with hc | rfl | hc
      · have HM : max 0 x = 0 := by omega
        rw [HM] at HV3 HK3
        clear HM
        go_wp2_with fail
        go_roundw
        case rel => exact ⟨k + 1, by omega, by omega, by go_num, HV3.out, hZ.keep HK3.out (by simp), hK.then HK3.out (by simp)⟩
        case measure => simp [intOf]; omega
      · have HM : max (0 : Int) 0 = 0 := by omega
        rw [HM] at HV3 HK3
        clear HM
        go_wp2_with fail
        go_roundw
        case rel => exact ⟨k + 1, by omega, by omega, by go_num, HV3.out, hZ.keep HK3.out (by simp), hK.then HK3.out (by simp)⟩
        case measure => simp [intOf]; omega
      · have HM : max 0 x = x := by omega
        rw [HM] at HV3 HK3
        clear HM
        go_wp2_with fail
        go_roundw
        case rel => exact ⟨k + 1, by omega, by omega, by go_num, HV3.out, hZ.keep HK3.out (by simp), hK.then HK3.out (by simp)⟩
        case measure => simp [intOf]; omega
    · have hfe : vofN zs k = vof zs := by
        rw [vofN_eq]
        funext i
        unfold vof
        by_cases h : 1 ≤ i ∧ i ≤ 5 ∧ i ≤ k
        · rw [if_pos h, if_pos (by omega)]
        · rw [if_neg h, if_neg (by omega)]
      rw [hfe] at hV
      obtain ⟨v0, v1, v2, v3, v4, v5⟩ := v6_cells hV
      generalize hf : vof zs = f at *
      have HF := Lib.hid hf
      clear hf hfe
      have hq : k < zs.length ∧ ¬ k < 5 ∨ ¬ k < zs.length := by omega
      rcases hq with ⟨hq1, hq2⟩ | hq1
      all_goals
        first | (have q6 : decide (k < zs.length) = true := decide_eq_true hq1) | (have q6 : decide (k < zs.length) = false := decide_eq_false hq1)
        go_wp2_with (refine wpList_store_blk rfl 24 _ _ rfl w.heap.size (v6 (fun _ => 0)) (v6 f) 24 rfl rfl hZ rfl Try.size6 (v6_one f) ?_; intro w2 hB2 hK2)
        refine bodyPost_ret (v := vec f) ?_ rfl ⟨by rw [HF.out], hK.then hK2 (by simp)⟩
        obtain ⟨d0, d1, d2, d3, d4, d5⟩ := v6_cells hB2
        simp [results, Try.results14, go_sem, d0, d1, d2, d3, d4, d5]
end Go.Proofs.Ytpibpgfadkfgbaa
