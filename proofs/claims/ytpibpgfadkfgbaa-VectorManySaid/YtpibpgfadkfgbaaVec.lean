/- The contracts of package vector: may, Get, Set, Of, Max, Min, Has. -/
import Derived.Test.YtpibpgfadkfgbaaOwn
import Derived.Test.YtpibpgfadkfgbaaDevMem
import Derived.Test.YtpibpgfadkfgbaaOpen
import Derived.Deep.RegionLaw
import Derived.Deep.QuietTactic
import Derived.BigQuiet
import Derived.StillTailTactics
namespace Go.Proofs.Ytpibpgfadkfgbaa
open Go.ChangeShapes Go.WideShapes Go.ChangeAt Go.RowKit
set_option linter.unusedVariables false
set_option linter.unusedSimpArgs false

/-- Six numbers as cells. -/
def v6 (v : Nat → Int) : List Value := [.int .i64 (v 0), .int .i64 (v 1), .int .i64 (v 2), .int .i64 (v 3), .int .i64 (v 4), .int .i64 (v 5)]
abbrev vec (v : Nat → Int) : Value := .agg #[.int .i64 (v 0), .int .i64 (v 1), .int .i64 (v 2), .int .i64 (v 3), .int .i64 (v 4), .int .i64 (v 5)]
theorem v6_at (v : Nat → Int) (i : Nat) (h : i < 6) : (v6 v)[i]? = some (.int .i64 (v i)) := by
  have : i = 0 ∨ i = 1 ∨ i = 2 ∨ i = 3 ∨ i = 4 ∨ i = 5 := by omega
  rcases this with rfl | rfl | rfl | rfl | rfl | rfl <;> rfl
def vget (v : Nat → Int) (node : Int) : Int := if 1 ≤ node ∧ node ≤ 5 then v node.toNat else 0
def vset (v : Nat → Int) (node n : Int) : Nat → Int := fun i => if (i : Int) = node ∧ 1 ≤ node ∧ node ≤ 5 then max n 0 else v i

theorem may_yes {w : World} (node : Int) (h : 1 ≤ node ∧ node ≤ 5) : Calls Try.prog 40 #[.int .i64 node] w fun e w' => e = .returned (.bool true) ∧ w = w' := by
  obtain ⟨h1, h2⟩ := h
  go_enter Try.func40, Try.ntmps40
  go_wp2
  go_ret
  exact ⟨rfl, rfl⟩
theorem may_no {w : World} (node : Int) (h : ¬ (1 ≤ node ∧ node ≤ 5)) : Calls Try.prog 40 #[.int .i64 node] w fun e w' => e = .returned (.bool false) ∧ w = w' := by
  have : (node < 1) ∨ (1 ≤ node ∧ 5 < node) := by omega
  rcases this with h1 | ⟨h1, h2⟩
  · have q : decide ((1 : Int) ≤ node) = false := decide_eq_false (by omega)
    go_enter Try.func40, Try.ntmps40
    go_wp2
    go_ret
    exact ⟨rfl, rfl⟩
  · have q : decide (node ≤ (5 : Int)) = false := decide_eq_false (by omega)
    go_enter Try.func40, Try.ntmps40
    go_wp2
    go_ret
    exact ⟨rfl, rfl⟩
theorem vGet_any {w : World} (v : Nat → Int) (node r : Int) (hr : r = vget v node) : Calls Try.prog 26 #[vec v, .int .i64 node] w fun e w' => e = .returned (.int .i64 r) ∧ Keep [] w w' := by
  have HR := Lib.hid hr
  clear hr
  by_cases h : 1 ≤ node ∧ node ≤ 5
  · have hc : node = 1 ∨ node = 2 ∨ node = 3 ∨ node = 4 ∨ node = 5 := by omega
    clear h
    rcases hc with rfl | rfl | rfl | rfl | rfl
    all_goals
      go_enter Try.func26, Try.ntmps26
      go_wp2_with fail
      refine (may_yes _ (by omega)).mono ?_
      rintro e w' ⟨rfl, rfl⟩
      go_wp2_with fail
      go_ret
      exact ⟨by rw [HR.out]; rfl, (Keep.refl _ _).alloc _⟩
  · obtain rfl : r = 0 := by rw [HR.out, vget, if_neg h]
    have HN := Lib.hid h
    clear h HR
    go_enter Try.func26, Try.ntmps26
    go_wp2_with fail
    refine (may_no _ HN.out).mono ?_
    rintro e w' ⟨rfl, rfl⟩
    go_wp2_with fail
    go_ret
    exact ⟨rfl, (Keep.refl _ _).alloc _⟩
set_option maxHeartbeats 1000000 in
theorem vSet_any {w : World} (v : Nat → Int) (node n : Int) : Calls Try.prog 19 #[vec v, .int .i64 node, .int .i64 n] w fun e w' => e = .returned (vec (vset v node n)) ∧ Keep [] w w' := by
  by_cases h : 1 ≤ node ∧ node ≤ 5
  · have hc : node = 1 ∨ node = 2 ∨ node = 3 ∨ node = 4 ∨ node = 5 := by omega
    have hn : n < 0 ∨ n = 0 ∨ 0 < n := by omega
    clear h
    rcases hn with hn | rfl | hn <;> rcases hc with rfl | rfl | rfl | rfl | rfl
    all_goals
      go_enter Try.func19, Try.ntmps19
      go_wp2_with fail
      refine (may_yes _ (by omega)).mono ?_
      rintro e w' ⟨rfl, rfl⟩
      go_wp2_with fail
      refine bodyPost_ret (v := vec (vset v _ _)) ?_ rfl ⟨rfl, ((Keep.refl _ _).alloc _).alloc _⟩
      simp [results, Try.results19, go_sem, vset]
      try omega
  · have HN := Lib.hid h
    have hv : vset v node n = v := by
      funext i
      unfold vset
      rw [if_neg (fun hh => h hh.2)]
    have HV := Lib.hid hv
    clear h hv
    go_enter Try.func19, Try.ntmps19
    go_wp2_with fail
    refine (may_no _ HN.out).mono ?_
    rintro e w' ⟨rfl, rfl⟩
    go_wp2_with fail
    refine bodyPost_ret (v := vec v) ?_ rfl ⟨by rw [HV.out], ((Keep.refl _ _).alloc _).alloc _⟩
    simp [results, Try.results19, go_sem]

theorem v6_set (f : Nat → Int) (j : Nat) (x : Int) (h : j < 6) : (v6 f).set j (.int .i64 x) = v6 (fun i => if i = j then x else f i) := by
  have : j = 0 ∨ j = 1 ∨ j = 2 ∨ j = 3 ∨ j = 4 ∨ j = 5 := by omega
  rcases this with rfl | rfl | rfl | rfl | rfl | rfl <;> rfl
theorem v6_one (f : Nat → Int) : ∀ v ∈ v6 f, v.oneCell' = true := by
  intro v hv
  simp [v6] at hv
  rcases hv with rfl | rfl | rfl | rfl | rfl | rfl <;> rfl
theorem Try.sizeVec : (Try.prog.info? 26).map (·.size) = some 6 := by kernel_rfl
theorem vecs_at {w : World} {uv : Value} {us : List (Nat → Int)} (h : Rv w 6 uv us.length (us.map v6).flatten) (i : Nat) (u : Nat → Int) (hi : us[i]? = some u) :
    ∃ sb so cap, uv = .slice (some ⟨sb, so, none⟩) us.length cap ∧ us.length ≤ cap ∧ sb < w.heap.size ∧ ∀ j, j < 6 → w.cell? ⟨sb, so + i * 6 + j, none⟩ = some (.int .i64 (u j)) := by
  have hlt : i < us.length := (List.getElem?_eq_some_iff.1 hi).1
  have hfl := flatten_len v6 6 (fun _ => rfl) us
  obtain ⟨hl, a, cap, rfl, hc, hh⟩ := h
  obtain ⟨sb, so, rfl, hs, hat⟩ := hh (by rw [hfl]; omega)
  refine ⟨sb, so, cap, rfl, hc, hs, fun j hj => ?_⟩
  rw [Nat.add_assoc, hat _ (by rw [hfl]; omega), flatten_at v6 6 (fun _ => rfl) us i j hj, hi]
  exact v6_at u j hj

/-- Node by node the greater, up to node j. -/
def vmaxJ (v u : Nat → Int) (j : Nat) : Nat → Int := fun i => if 1 ≤ i ∧ i < j then max (v i) (u i) else v i
def vmax (v u : Nat → Int) : Nat → Int := vmaxJ v u 6
def vmaxN (v : Nat → Int) (us : List (Nat → Int)) (k : Nat) : Nat → Int := (us.take k).foldl vmax v
theorem vmaxN_succ (v : Nat → Int) (us : List (Nat → Int)) (k : Nat) (u : Nat → Int) (h : us[k]? = some u) : vmaxN v us (k + 1) = vmax (vmaxN v us k) u := by
  have hl : k < us.length := (List.getElem?_eq_some_iff.1 h).1
  have he := (List.getElem?_eq_some_iff.1 h).2
  unfold vmaxN
  rw [List.take_succ_eq_append_getElem hl, List.foldl_append, he]
  rfl
theorem vmaxJ_one (v u : Nat → Int) : vmaxJ v u 1 = v := by
  funext i; unfold vmaxJ; rw [if_neg (by omega)]
theorem vmaxJ_step (v u : Nat → Int) (j : Nat) (hj : 1 ≤ j) : (fun i => if i = j then max (v j) (u j) else vmaxJ v u j i) = vmaxJ v u (j + 1) := by
  funext i
  unfold vmaxJ
  by_cases h : i = j
  · subst h; rw [if_pos rfl, if_pos (by omega)]
  · rw [if_neg h]
    by_cases h2 : 1 ≤ i ∧ i < j
    · rw [if_pos h2, if_pos (by omega)]
    · rw [if_neg h2, if_neg (by omega)]
theorem vmaxJ_at (v u : Nat → Int) (j : Nat) : vmaxJ v u j j = v j := by unfold vmaxJ; rw [if_neg (by omega)]

set_option maxRecDepth 100000 in
set_option maxHeartbeats 4000000 in
theorem vMax_any {w : World} (v : Nat → Int) (uv : Value) (us : List (Nat → Int)) (hu : Rv w 6 uv us.length (us.map v6).flatten) (hul : us.length ≤ 1000000) :
    Calls Try.prog 17 #[vec v, uv] w fun e w' => e = .returned (vec (vmaxN v us us.length)) ∧ Keep [] w w' := by
  obtain ⟨_, ua, ucap, rfl, _, _⟩ := id hu
  go_enter Try.func17, Try.ntmps17
  go_wp2_with fail
  have hb0 : Blk ((w.alloc (.cells #[.int .i64 (v 0), .int .i64 (v 1), .int .i64 (v 2), .int .i64 (v 3), .int .i64 (v 4), .int .i64 (v 5)] 26)).alloc (.cells #[.int .i64 0, .int .i64 0, .int .i64 0, .int .i64 0, .int .i64 0, .int .i64 0] 26)) w.heap.size (v6 v) 26 := (Blk.new w (v6 v) 26).alloc _
  have hb1 : Blk ((w.alloc (.cells #[.int .i64 (v 0), .int .i64 (v 1), .int .i64 (v 2), .int .i64 (v 3), .int .i64 (v 4), .int .i64 (v 5)] 26)).alloc (.cells #[.int .i64 0, .int .i64 0, .int .i64 0, .int .i64 0, .int .i64 0, .int .i64 0] 26)) (w.heap.size + 1) (v6 (fun _ => 0)) 26 := Blk.new' _ _ _ _ (by simp)
  go_loopw [10] (fun i wr => ∃ k : Nat, k ≤ us.length ∧ i = .int .i64 k ∧ Blk wr w.heap.size (v6 (vmaxN v us k)) 26 ∧ Blk wr (w.heap.size + 1) (v6 (fun _ => 0)) 26 ∧ Keep [] w wr) (fun i _ => us.length - (intOf i).toNat)
  case atStart => exact ⟨0, by omega, rfl, hb0, hb1, ((Keep.refl _ _).alloc _).alloc _⟩
  case round =>
    obtain ⟨k, hk, rfl, hV, hZ, hK⟩ := hrel
    clear hb0 hb1
    by_cases hlt : k < us.length
    · obtain ⟨u, hus⟩ : ∃ u, us[k]? = some u := ⟨_, List.getElem?_eq_getElem hlt⟩
      have q0 : (k : Int) < us.length := by omega
      obtain ⟨ub, uo, ucap2, he, _, hub, hat⟩ := vecs_at hu k u hus
      simp only [Value.slice.injEq] at he
      obtain ⟨rfl, heq, rfl⟩ := he
      clear heq
      have u0 := hat 0 (by omega)
      have u1 := hat 1 (by omega)
      have u2 := hat 2 (by omega)
      have u3 := hat 3 (by omega)
      have u4 := hat 4 (by omega)
      have u5 := hat 5 (by omega)
      rw [← hK.cell hub (by simp)] at u0 u1 u2 u3 u4 u5
      rw [Nat.add_zero] at u0
      have hvs := vmaxN_succ v us k u hus
      have HVS := Lib.hid hvs
      clear hvs hat hus
      generalize vmaxN v us k = f at *
      go_wp2_with fail
      have hV1 := hV.alloc (.cells #[.int .i64 (u 0), .int .i64 (u 1), .int .i64 (u 2), .int .i64 (u 3), .int .i64 (u 4), .int .i64 (u 5)] 26)
      have hZ1 := hZ.alloc (.cells #[.int .i64 (u 0), .int .i64 (u 1), .int .i64 (u 2), .int .i64 (u 3), .int .i64 (u 4), .int .i64 (u 5)] 26)
      have hU1 := Blk.new wr (v6 u) 26
      have hK1 := hK.alloc (.cells #[.int .i64 (u 0), .int .i64 (u 1), .int .i64 (u 2), .int .i64 (u 3), .int .i64 (u 4), .int .i64 (u 5)] 26)
      change Blk (wr.alloc (.cells #[.int .i64 (u 0), .int .i64 (u 1), .int .i64 (u 2), .int .i64 (u 3), .int .i64 (u 4), .int .i64 (u 5)] 26)) _ _ _ at hU1
      have hne : w.heap.size ≠ wr.heap.size := by have := hV.lt; omega
      have hsz := hK.size
      have hlz := hZ.lt
      obtain ⟨wo, rfl⟩ : ∃ wo : World, wo = wr := ⟨_, rfl⟩
      clear u0 u1 u2 u3 u4 u5
      go_loopw [7] (fun i wr => ∃ j : Nat, 1 ≤ j ∧ j ≤ 6 ∧ i = .int .i64 j ∧ Blk wr w.heap.size (v6 (vmaxJ f u j)) 26 ∧ Blk wr wo.heap.size (v6 u) 26 ∧ Blk wr (w.heap.size + 1) (v6 (fun _ => 0)) 26 ∧ Keep [] w wr) (fun i _ => 6 - (intOf i).toNat)
      case atStart => exact ⟨1, by omega, by omega, rfl, by rw [vmaxJ_one]; exact hV1, hU1, hZ1, hK1⟩
      case round =>
        obtain ⟨j, hj1, hj6, rfl, hV2, hU2, hZ2, hK2⟩ := hrel
        clear hV hZ hK hV1 hU1 hZ1 hK1
        by_cases hj : j < 6
        · have q1 : (j : Int) ≤ 5 := by omega
          have q2 : (j : Int) < 6 := by omega
          have c1 := hV2.cell j
          have c2 := hU2.cell j
          have c3 := hV2.free j
          rw [v6_at _ _ hj] at c1 c2
          rw [vmaxJ_at] at c1
          have hst := vmaxJ_step f u j hj1
          have hset := v6_set (vmaxJ f u j) j (max (f j) (u j)) hj
          rw [hst] at hset
          have hV3 := hV2.drew.set j (.int .i64 (max (f j) (u j)))
          rw [hset] at hV3
          have hk3 : Keep [w.heap.size] wr (wr.drew.setCell ⟨w.heap.size, j, none⟩ (.int .i64 (max (f j) (u j)))) := (Keep.refl _ _).drew.setCell (.inl (by simp)) _
          have HV3 := Lib.hid hV3
          have HK3 := Lib.hid hk3
          clear hst hset hV3 hk3
          have hcs : f j < u j ∨ f j = u j ∨ u j < f j := by omega
          rcases hcs with hc | hc | hc
          · have HM : max (f j) (u j) = u j := by omega
            rw [HM] at HV3 HK3
            clear HM
            go_wp2_with fail
            refine wp_region_still_tail 9 (by kernel_rfl) (by kernel_rfl) ?_
            simp only [List.take_succ_cons, List.take_zero, List.drop_succ_cons, List.drop_zero]
            repeat still_step
            refine wpStill_nil ?_
            go_wp2_with fail
            go_roundw
            case rel => exact ⟨j + 1, by omega, by omega, by go_num, HV3.out, hU2.keep HK3.out (by simpa using Ne.symm hne), hZ2.keep HK3.out (by simp), hK2.then HK3.out (by simp)⟩
            case measure => simp [intOf]; omega
          · have HM : max (f j) (u j) = f j := by omega
            rw [HM] at HV3 HK3
            rw [← hc] at c2
            clear HM hc
            go_wp2_with fail
            refine wp_region_still_tail 9 (by kernel_rfl) (by kernel_rfl) ?_
            simp only [List.take_succ_cons, List.take_zero, List.drop_succ_cons, List.drop_zero]
            repeat still_step
            refine wpStill_nil ?_
            go_wp2_with fail
            go_roundw
            case rel => exact ⟨j + 1, by omega, by omega, by go_num, HV3.out, hU2.keep HK3.out (by simpa using Ne.symm hne), hZ2.keep HK3.out (by simp), hK2.then HK3.out (by simp)⟩
            case measure => simp [intOf]; omega
          · have HM : max (f j) (u j) = f j := by omega
            rw [HM] at HV3 HK3
            clear HM
            go_wp2_with fail
            refine wp_region_still_tail 9 (by kernel_rfl) (by kernel_rfl) ?_
            simp only [List.take_succ_cons, List.take_zero, List.drop_succ_cons, List.drop_zero]
            repeat still_step
            refine wpStill_nil ?_
            go_wp2_with fail
            go_roundw
            case rel => exact ⟨j + 1, by omega, by omega, by go_num, HV3.out, hU2.keep HK3.out (by simpa using Ne.symm hne), hZ2.keep HK3.out (by simp), hK2.then HK3.out (by simp)⟩
            case measure => simp [intOf]; omega
        · obtain rfl : j = 6 := by omega
          go_wp2_with fail
          go_roundw
          case rel => exact ⟨k + 1, by omega, by go_num, by rw [HVS.out]; exact hV2, hZ2, hK2⟩
          case measure => simp [intOf]; omega
    · obtain rfl : k = us.length := by omega
      have c0 := hV.cell 0
      have c1 := hV.cell 1
      have c2 := hV.cell 2
      have c3 := hV.cell 3
      have c4 := hV.cell 4
      have c5 := hV.cell 5
      simp only [v6, List.getElem?_cons_zero, List.getElem?_cons_succ] at c0 c1 c2 c3 c4 c5
      have hsz := hK.size
      generalize hf : vmaxN v us us.length = f at *
      have HF := Lib.hid hf
      clear hf
      go_wp2_with (refine wpList_store_blk rfl 26 _ _ rfl (w.heap.size + 1) (v6 (fun _ => 0)) (v6 f) 26 rfl rfl hZ rfl Try.sizeVec (v6_one f) ?_; intro w2 hB2 hK2)
      refine bodyPost_ret (v := vec f) ?_ rfl ⟨by rw [HF.out], by simpa using hK.then hK2 (by simp)⟩
      have d0 := hB2.cell 0
      have d1 := hB2.cell 1
      have d2 := hB2.cell 2
      have d3 := hB2.cell 3
      have d4 := hB2.cell 4
      have d5 := hB2.cell 5
      simp only [v6, List.getElem?_cons_zero, List.getElem?_cons_succ] at d0 d1 d2 d3 d4 d5
      simp [results, Try.results17, go_sem, d0, d1, d2, d3, d4, d5]

/-- Node by node the lesser, up to node j. -/
def vminJ (v u : Nat → Int) (j : Nat) : Nat → Int := fun i => if 1 ≤ i ∧ i < j then min (v i) (u i) else v i
def vmin (v u : Nat → Int) : Nat → Int := vminJ v u 6
def vminN (v : Nat → Int) (us : List (Nat → Int)) (k : Nat) : Nat → Int := (us.take k).foldl vmin v
theorem vminN_succ (v : Nat → Int) (us : List (Nat → Int)) (k : Nat) (u : Nat → Int) (h : us[k]? = some u) : vminN v us (k + 1) = vmin (vminN v us k) u := by
  have hl : k < us.length := (List.getElem?_eq_some_iff.1 h).1
  have he := (List.getElem?_eq_some_iff.1 h).2
  unfold vminN
  rw [List.take_succ_eq_append_getElem hl, List.foldl_append, he]
  rfl
theorem vminJ_one (v u : Nat → Int) : vminJ v u 1 = v := by
  funext i; unfold vminJ; rw [if_neg (by omega)]
theorem vminJ_step (v u : Nat → Int) (j : Nat) (hj : 1 ≤ j) : (fun i => if i = j then min (v j) (u j) else vminJ v u j i) = vminJ v u (j + 1) := by
  funext i
  unfold vminJ
  by_cases h : i = j
  · subst h; rw [if_pos rfl, if_pos (by omega)]
  · rw [if_neg h]
    by_cases h2 : 1 ≤ i ∧ i < j
    · rw [if_pos h2, if_pos (by omega)]
    · rw [if_neg h2, if_neg (by omega)]
theorem vminJ_at (v u : Nat → Int) (j : Nat) : vminJ v u j j = v j := by unfold vminJ; rw [if_neg (by omega)]

set_option maxRecDepth 100000 in
set_option maxHeartbeats 4000000 in
theorem vMin_any {w : World} (v : Nat → Int) (uv : Value) (us : List (Nat → Int)) (hu : Rv w 6 uv us.length (us.map v6).flatten) (hul : us.length ≤ 1000000) :
    Calls Try.prog 18 #[vec v, uv] w fun e w' => e = .returned (vec (vminN v us us.length)) ∧ Keep [] w w' := by
  obtain ⟨_, ua, ucap, rfl, _, _⟩ := id hu
  go_enter Try.func18, Try.ntmps18
  go_wp2_with fail
  have hb0 : Blk ((w.alloc (.cells #[.int .i64 (v 0), .int .i64 (v 1), .int .i64 (v 2), .int .i64 (v 3), .int .i64 (v 4), .int .i64 (v 5)] 26)).alloc (.cells #[.int .i64 0, .int .i64 0, .int .i64 0, .int .i64 0, .int .i64 0, .int .i64 0] 26)) w.heap.size (v6 v) 26 := (Blk.new w (v6 v) 26).alloc _
  have hb1 : Blk ((w.alloc (.cells #[.int .i64 (v 0), .int .i64 (v 1), .int .i64 (v 2), .int .i64 (v 3), .int .i64 (v 4), .int .i64 (v 5)] 26)).alloc (.cells #[.int .i64 0, .int .i64 0, .int .i64 0, .int .i64 0, .int .i64 0, .int .i64 0] 26)) (w.heap.size + 1) (v6 (fun _ => 0)) 26 := Blk.new' _ _ _ _ (by simp)
  go_loopw [10] (fun i wr => ∃ k : Nat, k ≤ us.length ∧ i = .int .i64 k ∧ Blk wr w.heap.size (v6 (vminN v us k)) 26 ∧ Blk wr (w.heap.size + 1) (v6 (fun _ => 0)) 26 ∧ Keep [] w wr) (fun i _ => us.length - (intOf i).toNat)
  case atStart => exact ⟨0, by omega, rfl, hb0, hb1, ((Keep.refl _ _).alloc _).alloc _⟩
  case round =>
    obtain ⟨k, hk, rfl, hV, hZ, hK⟩ := hrel
    clear hb0 hb1
    by_cases hlt : k < us.length
    · obtain ⟨u, hus⟩ : ∃ u, us[k]? = some u := ⟨_, List.getElem?_eq_getElem hlt⟩
      have q0 : (k : Int) < us.length := by omega
      obtain ⟨ub, uo, ucap2, he, _, hub, hat⟩ := vecs_at hu k u hus
      simp only [Value.slice.injEq] at he
      obtain ⟨rfl, heq, rfl⟩ := he
      clear heq
      have u0 := hat 0 (by omega)
      have u1 := hat 1 (by omega)
      have u2 := hat 2 (by omega)
      have u3 := hat 3 (by omega)
      have u4 := hat 4 (by omega)
      have u5 := hat 5 (by omega)
      rw [← hK.cell hub (by simp)] at u0 u1 u2 u3 u4 u5
      rw [Nat.add_zero] at u0
      have hvs := vminN_succ v us k u hus
      have HVS := Lib.hid hvs
      clear hvs hat hus
      generalize vminN v us k = f at *
      go_wp2_with fail
      have hV1 := hV.alloc (.cells #[.int .i64 (u 0), .int .i64 (u 1), .int .i64 (u 2), .int .i64 (u 3), .int .i64 (u 4), .int .i64 (u 5)] 26)
      have hZ1 := hZ.alloc (.cells #[.int .i64 (u 0), .int .i64 (u 1), .int .i64 (u 2), .int .i64 (u 3), .int .i64 (u 4), .int .i64 (u 5)] 26)
      have hU1 := Blk.new wr (v6 u) 26
      have hK1 := hK.alloc (.cells #[.int .i64 (u 0), .int .i64 (u 1), .int .i64 (u 2), .int .i64 (u 3), .int .i64 (u 4), .int .i64 (u 5)] 26)
      change Blk (wr.alloc (.cells #[.int .i64 (u 0), .int .i64 (u 1), .int .i64 (u 2), .int .i64 (u 3), .int .i64 (u 4), .int .i64 (u 5)] 26)) _ _ _ at hU1
      have hne : w.heap.size ≠ wr.heap.size := by have := hV.lt; omega
      have hsz := hK.size
      have hlz := hZ.lt
      obtain ⟨wo, rfl⟩ : ∃ wo : World, wo = wr := ⟨_, rfl⟩
      clear u0 u1 u2 u3 u4 u5
      go_loopw [7] (fun i wr => ∃ j : Nat, 1 ≤ j ∧ j ≤ 6 ∧ i = .int .i64 j ∧ Blk wr w.heap.size (v6 (vminJ f u j)) 26 ∧ Blk wr wo.heap.size (v6 u) 26 ∧ Blk wr (w.heap.size + 1) (v6 (fun _ => 0)) 26 ∧ Keep [] w wr) (fun i _ => 6 - (intOf i).toNat)
      case atStart => exact ⟨1, by omega, by omega, rfl, by rw [vminJ_one]; exact hV1, hU1, hZ1, hK1⟩
      case round =>
        obtain ⟨j, hj1, hj6, rfl, hV2, hU2, hZ2, hK2⟩ := hrel
        clear hV hZ hK hV1 hU1 hZ1 hK1
        by_cases hj : j < 6
        · have q1 : (j : Int) ≤ 5 := by omega
          have q2 : (j : Int) < 6 := by omega
          have c1 := hV2.cell j
          have c2 := hU2.cell j
          have c3 := hV2.free j
          rw [v6_at _ _ hj] at c1 c2
          rw [vminJ_at] at c1
          have hst := vminJ_step f u j hj1
          have hset := v6_set (vminJ f u j) j (min (f j) (u j)) hj
          rw [hst] at hset
          have hV3 := hV2.drew.set j (.int .i64 (min (f j) (u j)))
          rw [hset] at hV3
          have hk3 : Keep [w.heap.size] wr (wr.drew.setCell ⟨w.heap.size, j, none⟩ (.int .i64 (min (f j) (u j)))) := (Keep.refl _ _).drew.setCell (.inl (by simp)) _
          have HV3 := Lib.hid hV3
          have HK3 := Lib.hid hk3
          clear hst hset hV3 hk3
          have hcs : f j < u j ∨ f j = u j ∨ u j < f j := by omega
          rcases hcs with hc | hc | hc
          · have HM : min (f j) (u j) = f j := by omega
            rw [HM] at HV3 HK3
            clear HM
            go_wp2_with fail
            refine wp_region_still_tail 9 (by kernel_rfl) (by kernel_rfl) ?_
            simp only [List.take_succ_cons, List.take_zero, List.drop_succ_cons, List.drop_zero]
            repeat still_step
            refine wpStill_nil ?_
            go_wp2_with fail
            go_roundw
            case rel => exact ⟨j + 1, by omega, by omega, by go_num, HV3.out, hU2.keep HK3.out (by simpa using Ne.symm hne), hZ2.keep HK3.out (by simp), hK2.then HK3.out (by simp)⟩
            case measure => simp [intOf]; omega
          · have HM : min (f j) (u j) = f j := by omega
            rw [HM] at HV3 HK3
            rw [← hc] at c2
            clear HM hc
            go_wp2_with fail
            refine wp_region_still_tail 9 (by kernel_rfl) (by kernel_rfl) ?_
            simp only [List.take_succ_cons, List.take_zero, List.drop_succ_cons, List.drop_zero]
            repeat still_step
            refine wpStill_nil ?_
            go_wp2_with fail
            go_roundw
            case rel => exact ⟨j + 1, by omega, by omega, by go_num, HV3.out, hU2.keep HK3.out (by simpa using Ne.symm hne), hZ2.keep HK3.out (by simp), hK2.then HK3.out (by simp)⟩
            case measure => simp [intOf]; omega
          · have HM : min (f j) (u j) = u j := by omega
            rw [HM] at HV3 HK3
            clear HM
            go_wp2_with fail
            refine wp_region_still_tail 9 (by kernel_rfl) (by kernel_rfl) ?_
            simp only [List.take_succ_cons, List.take_zero, List.drop_succ_cons, List.drop_zero]
            repeat still_step
            refine wpStill_nil ?_
            go_wp2_with fail
            go_roundw
            case rel => exact ⟨j + 1, by omega, by omega, by go_num, HV3.out, hU2.keep HK3.out (by simpa using Ne.symm hne), hZ2.keep HK3.out (by simp), hK2.then HK3.out (by simp)⟩
            case measure => simp [intOf]; omega
        · obtain rfl : j = 6 := by omega
          go_wp2_with fail
          go_roundw
          case rel => exact ⟨k + 1, by omega, by go_num, by rw [HVS.out]; exact hV2, hZ2, hK2⟩
          case measure => simp [intOf]; omega
    · obtain rfl : k = us.length := by omega
      have c0 := hV.cell 0
      have c1 := hV.cell 1
      have c2 := hV.cell 2
      have c3 := hV.cell 3
      have c4 := hV.cell 4
      have c5 := hV.cell 5
      simp only [v6, List.getElem?_cons_zero, List.getElem?_cons_succ] at c0 c1 c2 c3 c4 c5
      have hsz := hK.size
      generalize hf : vminN v us us.length = f at *
      have HF := Lib.hid hf
      clear hf
      go_wp2_with (refine wpList_store_blk rfl 26 _ _ rfl (w.heap.size + 1) (v6 (fun _ => 0)) (v6 f) 26 rfl rfl hZ rfl Try.sizeVec (v6_one f) ?_; intro w2 hB2 hK2)
      refine bodyPost_ret (v := vec f) ?_ rfl ⟨by rw [HF.out], by simpa using hK.then hK2 (by simp)⟩
      have d0 := hB2.cell 0
      have d1 := hB2.cell 1
      have d2 := hB2.cell 2
      have d3 := hB2.cell 3
      have d4 := hB2.cell 4
      have d5 := hB2.cell 5
      simp only [v6, List.getElem?_cons_zero, List.getElem?_cons_succ] at d0 d1 d2 d3 d4 d5
      simp [results, Try.results18, go_sem, d0, d1, d2, d3, d4, d5]
end Go.Proofs.Ytpibpgfadkfgbaa
