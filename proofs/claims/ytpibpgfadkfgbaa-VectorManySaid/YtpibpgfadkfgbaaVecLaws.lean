/- The law VectorSet: its walk. -/
import Derived.Test.YtpibpgfadkfgbaaVecBegun
import Derived.Deep.DeepCutAuto
import Derived.Deep.CutBlock
import Derived.Deep.RegionHeld3
import Derived.Deep.QuietTactic
import Derived.BigQuiet
namespace Go.Proofs.Ytpibpgfadkfgbaa
open Go.ChangeShapes Go.WideShapes Go.ChangeAt Go.RowKit
set_option linter.unusedVariables false
set_option linter.unusedSimpArgs false

theorem vget_vset (f : Nat → Int) (node n other : Int) (h : other ≠ node) : vget (vset f node n) other = vget f other := by
  unfold vget
  by_cases h1 : 1 ≤ other ∧ other ≤ 5
  · rw [if_pos h1, if_pos h1]
    unfold vset
    rw [if_neg (by omega)]
  · rw [if_neg h1, if_neg h1]
theorem vget_vset_same (f : Nat → Int) (node n : Int) (h : 1 ≤ node ∧ node ≤ 5) : vget (vset f node n) node = max n 0 := by
  unfold vget vset
  rw [if_pos h, if_pos (by omega)]
theorem vset_out (f : Nat → Int) (node n : Int) (h : ¬ (1 ≤ node ∧ node ≤ 5)) : vset f node n = f := by
  funext i; unfold vset; rw [if_neg (fun hh => h hh.2)]
theorem vsame_self (f : Nat → Int) : vsame f f = true := (vsame_iff f f).2 (fun _ _ _ => rfl)

set_option maxRecDepth 100000 in
set_option maxHeartbeats 8000000 in
theorem vectorSet_walk (a0 : Option Addr) (len cap : Nat) (z0 : List Int) (node n other : Int) (w : World) (w0 : IsRow .i64 w a0 len cap z0) (_w1 : (Lit.int .i64 node).wf = true) (_w2 : (Lit.int .i64 n).wf = true) (_w3 : (Lit.int .i64 other).wf = true) :
    Calls Try.prog 7 #[.slice a0 len cap, .int .i64 node, .int .i64 n, .int .i64 other] w fun e w' => e = .returned (.bool true) ∧ Below w.heap.size w w' := by
  obtain ⟨hzl, hmax, hr, hwf⟩ := w0.rv
  clear w0
  generalize z0.take len = zs at *
  obtain rfl := hzl
  go_enter Try.func7, Try.ntmps7
  go_wp2_with fail
  refine (begun11 w).mono ?_
  rintro e w0 ⟨rfl, k0⟩
  have hr0 := hr.keep k0 (by simp)
  go_wp2_with fail
  refine (vOf_any _ zs hr0 (by omega)).mono ?_
  rintro e w1 ⟨rfl, k1⟩
  have K1 := k0.trans k1
  have hF0 := Lib.hid (vof_zero zs)
  generalize hF : vof zs = F at *
  have HF := Lib.hid hF
  clear hF
  go_wp2_with fail
  refine (vSet_any F node n).mono ?_
  rintro e w2 ⟨rfl, k2⟩
  obtain ⟨bv, hbv⟩ : ∃ b, b = w1.heap.size := ⟨_, rfl⟩
  have hV2 := vkeep hbv k2
  have K2 := (K1.alloc _).trans k2
  rw [← hbv]
  have hlt2 := hV2.lt
  have hG : (¬ (1 ≤ node ∧ node ≤ 5) → vset F node n = F) ∧ (1 ≤ node ∧ node ≤ 5 → vget (vset F node n) node = max n 0) ∧ (other ≠ node → vget (vset F node n) other = vget F other) :=
    ⟨vset_out F node n, vget_vset_same F node n, vget_vset F node n other⟩
  have HG := Lib.hid hG
  clear hG hbv k2 k1 hr0
  generalize vset F node n = G at *
  by_cases hin : 1 ≤ node ∧ node ≤ 5
  · obtain ⟨hi1, hi2⟩ := hin
    have p1 : decide ((1 : Int) ≤ node) = true := decide_eq_true hi1
    have p2 : decide (node ≤ (5 : Int)) = true := decide_eq_true hi2
    go_upto_region 7 with fail
    go_cut [46] (fun s wc => s = .bool false ∧ Blk wc bv (v6 F) 26 ∧ Blk wc w2.heap.size (v6 G) 26 ∧ Keep [] w wc)
    case first =>
      have hn : n < 0 ∨ n = 0 ∨ 0 < n := by omega
      rcases hn with hn | rfl | hn
      all_goals
        go_wp2_with fail
        first
          | (refine (vGet_any G node n ((HG.out.2.1 ⟨hi1, hi2⟩).trans (by omega)).symm).mono ?_)
          | (refine (vGet_any G node 0 ((HG.out.2.1 ⟨hi1, hi2⟩).trans (by omega)).symm).mono ?_)
        rintro e w5 ⟨rfl, k5⟩
        have hV5 := (hV2.alloc _).keep k5 (by simp)
        have hW5 := vkeep rfl k5
        have K5 := (K2.alloc _).trans k5
        go_wp2_with fail
        go_meet
        exact ⟨rfl, hV5, hW5, K5⟩
    case rest =>
      obtain ⟨rfl, hV, hW, hK⟩ := hcut
      have hof : ∀ W : World, Rv W 1 (.slice a0 zs.length cap) zs.length (ints zs) → Calls Try.prog 14 #[.slice a0 zs.length cap] W fun e w' => e = .returned (vec F) ∧ Keep [] W w' := fun W h => by
        have := of_any (w := W) _ zs h (by omega)
        rw [HF.out] at this
        exact this
      have HOF := fun W h => hof W h
      clear hof
      have ho : other < 1 ∨ (1 ≤ other ∧ 5 < other) ∨ (1 ≤ other ∧ other ≤ 5 ∧ other = node) ∨ (1 ≤ other ∧ other ≤ 5 ∧ other ≠ node) := by omega
      rcases ho with ho | ⟨ho, ho'⟩ | ⟨ho, ho', rfl⟩ | ⟨ho, ho', hne⟩
      · have q1 : decide ((1 : Int) ≤ other) = false := decide_eq_false (by omega)
        go_wp2_with fail
        go_quiet (fail)
        have hVq := blkN hV nq
        have hKq := keepN hK nq
        have hRq := hr.keep hKq (by simp)
        generalize wc.drewN nq = wq at *
        obtain ⟨c0, c1, c2, c3, c4, c5⟩ := v6_cells hVq
        go_wp2_with fail
        go_region_held3 (fun w' => w'.cell? ⟨bv, 0, none⟩ = some (.int .i64 (F 0)) ∧ w'.cell? ⟨bv, 1, none⟩ = some (.int .i64 (F 1)) ∧ w'.cell? ⟨bv, 2, none⟩ = some (.int .i64 (F 2)) ∧ w'.cell? ⟨bv, 3, none⟩ = some (.int .i64 (F 3)) ∧ w'.cell? ⟨bv, 4, none⟩ = some (.int .i64 (F 4)) ∧ w'.cell? ⟨bv, 5, none⟩ = some (.int .i64 (F 5))) (first | go_keep | (exact v6_cells hV6))
          (first
            | (go_at_call 14; refine (HOF _ (hRq.keep (Keep.refl [] _).drew (by simp))).mono ?_; rintro e w6 ⟨rfl, k6⟩; have hV6 := hVq.drew.keep k6 (by simp))
            | (go_at_call 16; refine (same_any F F true (vsame_self F).symm hF0.out hF0.out).mono ?_; rintro e w7 ⟨rfl, k7⟩; have hV6 := hV6.keep k7 (by simp)))
        all_goals
          go_wp2_with fail
          go_ret
          exact ⟨rfl, ((hKq.drew.trans k6).trans k7).below⟩
      · have q1 : decide ((1 : Int) ≤ other) = true := decide_eq_true ho
        have q2 : decide (other ≤ (5 : Int)) = false := decide_eq_false (by omega)
        go_wp2_with fail
        go_quiet (fail)
        have hVq := blkN hV nq
        have hKq := keepN hK nq
        have hRq := hr.keep hKq (by simp)
        generalize wc.drewN nq = wq at *
        obtain ⟨c0, c1, c2, c3, c4, c5⟩ := v6_cells hVq
        go_wp2_with fail
        go_region_held3 (fun w' => w'.cell? ⟨bv, 0, none⟩ = some (.int .i64 (F 0)) ∧ w'.cell? ⟨bv, 1, none⟩ = some (.int .i64 (F 1)) ∧ w'.cell? ⟨bv, 2, none⟩ = some (.int .i64 (F 2)) ∧ w'.cell? ⟨bv, 3, none⟩ = some (.int .i64 (F 3)) ∧ w'.cell? ⟨bv, 4, none⟩ = some (.int .i64 (F 4)) ∧ w'.cell? ⟨bv, 5, none⟩ = some (.int .i64 (F 5))) (first | go_keep | (exact v6_cells hV6))
          (first
            | (go_at_call 14; refine (HOF _ (hRq.keep (Keep.refl [] _).drew (by simp))).mono ?_; rintro e w6 ⟨rfl, k6⟩; have hV6 := hVq.drew.keep k6 (by simp))
            | (go_at_call 16; refine (same_any F F true (vsame_self F).symm hF0.out hF0.out).mono ?_; rintro e w7 ⟨rfl, k7⟩; have hV6 := hV6.keep k7 (by simp)))
        all_goals
          go_wp2_with fail
          go_ret
          exact ⟨rfl, ((hKq.drew.trans k6).trans k7).below⟩
      · have q1 : decide ((1 : Int) ≤ other) = true := decide_eq_true ho
        have q2 : decide (other ≤ (5 : Int)) = true := decide_eq_true ho'
        go_wp2_with fail
        go_quiet (fail)
        have hVq := blkN hV nq
        have hKq := keepN hK nq
        have hRq := hr.keep hKq (by simp)
        generalize wc.drewN nq = wq at *
        obtain ⟨c0, c1, c2, c3, c4, c5⟩ := v6_cells hVq
        go_wp2_with fail
        go_region_held3 (fun w' => w'.cell? ⟨bv, 0, none⟩ = some (.int .i64 (F 0)) ∧ w'.cell? ⟨bv, 1, none⟩ = some (.int .i64 (F 1)) ∧ w'.cell? ⟨bv, 2, none⟩ = some (.int .i64 (F 2)) ∧ w'.cell? ⟨bv, 3, none⟩ = some (.int .i64 (F 3)) ∧ w'.cell? ⟨bv, 4, none⟩ = some (.int .i64 (F 4)) ∧ w'.cell? ⟨bv, 5, none⟩ = some (.int .i64 (F 5))) (first | go_keep | (exact v6_cells hV6))
          (first
            | (go_at_call 14; refine (HOF _ (hRq.keep (Keep.refl [] _).drew (by simp))).mono ?_; rintro e w6 ⟨rfl, k6⟩; have hV6 := hVq.drew.keep k6 (by simp))
            | (go_at_call 16; refine (same_any F F true (vsame_self F).symm hF0.out hF0.out).mono ?_; rintro e w7 ⟨rfl, k7⟩; have hV6 := hV6.keep k7 (by simp)))
        all_goals
          go_wp2_with fail
          go_ret
          exact ⟨rfl, ((hKq.drew.trans k6).trans k7).below⟩
      · have q1 : decide ((1 : Int) ≤ other) = true := decide_eq_true ho
        have q2 : decide (other ≤ (5 : Int)) = true := decide_eq_true ho'
        have q3 : (other == node) = false := by simpa using hne
        have q4 : (other != node) = true := by simpa using hne
        have hE : vget G other = vget F other := HG.out.2.2 hne
        obtain ⟨c0, c1, c2, c3, c4, c5⟩ := v6_cells hV
        obtain ⟨d0, d1, d2, d3, d4, d5⟩ := v6_cells hW
        have hVd := hV.drew
        have hWd := hW.drew
        have hKd := hK.drew
        go_wp2_with fail
        go_region_held3 (fun w' => w'.cell? ⟨bv, 0, none⟩ = some (.int .i64 (F 0)) ∧ w'.cell? ⟨bv, 1, none⟩ = some (.int .i64 (F 1)) ∧ w'.cell? ⟨bv, 2, none⟩ = some (.int .i64 (F 2)) ∧ w'.cell? ⟨bv, 3, none⟩ = some (.int .i64 (F 3)) ∧ w'.cell? ⟨bv, 4, none⟩ = some (.int .i64 (F 4)) ∧ w'.cell? ⟨bv, 5, none⟩ = some (.int .i64 (F 5)) ∧ w'.cell? ⟨w2.heap.size, 0, none⟩ = some (.int .i64 (G 0)) ∧ w'.cell? ⟨w2.heap.size, 1, none⟩ = some (.int .i64 (G 1)) ∧ w'.cell? ⟨w2.heap.size, 2, none⟩ = some (.int .i64 (G 2)) ∧ w'.cell? ⟨w2.heap.size, 3, none⟩ = some (.int .i64 (G 3)) ∧ w'.cell? ⟨w2.heap.size, 4, none⟩ = some (.int .i64 (G 4)) ∧ w'.cell? ⟨w2.heap.size, 5, none⟩ = some (.int .i64 (G 5))) (first | go_keep | (exact ⟨e0, e1, e2, e3, e4, e5, d0, d1, d2, d3, d4, d5⟩))
          (first
            | (go_at_call_of 26 (G 0); refine (vGet_any G other _ rfl).mono ?_; rintro e wa ⟨rfl, ka⟩; have hVd := hVd.keep ka (by simp); have hWd := hWd.keep ka (by simp); have hKd := hKd.trans ka; clear c0 c1 c2 c3 c4 c5 d0 d1 d2 d3 d4 d5; obtain ⟨e0, e1, e2, e3, e4, e5⟩ := v6_cells hVd; obtain ⟨d0, d1, d2, d3, d4, d5⟩ := v6_cells hWd; obtain ⟨c0, c1, c2, c3, c4, c5⟩ := v6_cells hVd)
            | (go_at_call_of 26 (F 0); refine (vGet_any F other _ rfl).mono ?_; rintro e wb ⟨rfl, kb⟩; have hVd := hVd.keep kb (by simp); have hWd := hWd.keep kb (by simp); have hKd := hKd.trans kb; clear c0 c1 c2 c3 c4 c5 d0 d1 d2 d3 d4 d5; obtain ⟨e0, e1, e2, e3, e4, e5⟩ := v6_cells hVd; obtain ⟨d0, d1, d2, d3, d4, d5⟩ := v6_cells hWd; obtain ⟨c0, c1, c2, c3, c4, c5⟩ := v6_cells hVd)
            | fail)
        all_goals
          have hVq := hVd
          have hKq := hKd
          have hRq := hr.keep hKq (by simp)
          clear c0 c1 c2 c3 c4 c5 d0 d1 d2 d3 d4 d5 e0 e1 e2 e3 e4 e5
          obtain ⟨c0, c1, c2, c3, c4, c5⟩ := v6_cells hVq
          go_wp2_with fail
          go_region_held3 (fun w' => w'.cell? ⟨bv, 0, none⟩ = some (.int .i64 (F 0)) ∧ w'.cell? ⟨bv, 1, none⟩ = some (.int .i64 (F 1)) ∧ w'.cell? ⟨bv, 2, none⟩ = some (.int .i64 (F 2)) ∧ w'.cell? ⟨bv, 3, none⟩ = some (.int .i64 (F 3)) ∧ w'.cell? ⟨bv, 4, none⟩ = some (.int .i64 (F 4)) ∧ w'.cell? ⟨bv, 5, none⟩ = some (.int .i64 (F 5))) (first | go_keep | (exact v6_cells hV6))
            (first
              | (go_at_call 14; refine (HOF _ (hRq.keep (Keep.refl [] _).drew (by simp))).mono ?_; rintro e w6 ⟨rfl, k6⟩; have hV6 := hVq.drew.keep k6 (by simp))
              | (go_at_call 16; refine (same_any F F true (vsame_self F).symm hF0.out hF0.out).mono ?_; rintro e w7 ⟨rfl, k7⟩; have hV6 := hV6.keep k7 (by simp))
              | fail)
          all_goals
            go_wp2_with fail
            go_ret
            exact ⟨rfl, ((hKq.drew.trans k6).trans k7).below⟩
  · have hG0 : G 0 = 0 := by rw [HG.out.1 hin]; exact hF0.out
    have hsm : true = vsame G F := by rw [HG.out.1 hin]; exact (vsame_self F).symm
    have HG0 := Lib.hid hG0
    have HSM := Lib.hid hsm
    clear hG0 hsm
    have hin' : node < 1 ∨ (1 ≤ node ∧ 5 < node) := by omega
    rcases hin' with hi1 | ⟨hi1, hi2⟩
    · have p1 : decide ((1 : Int) ≤ node) = false := decide_eq_false (by omega)
      go_upto_region 7 with fail
      go_cut [46] (fun s wc => s = .bool false ∧ Blk wc bv (v6 F) 26 ∧ Blk wc w2.heap.size (v6 G) 26 ∧ Keep [] w wc)
      case first =>
        obtain ⟨c0, c1, c2, c3, c4, c5⟩ := v6_cells hV2
        go_wp2_with fail
        refine (same_any G F true HSM.out HG0.out hF0.out).mono ?_
        rintro e w5 ⟨rfl, k5⟩
        have hV5 := (hV2.alloc _).keep k5 (by simp)
        have hW5 := vkeep rfl k5
        have K5 := (K2.alloc _).trans k5
        go_wp2_with fail
        go_meet
        exact ⟨rfl, hV5, hW5, K5⟩
      case rest =>
        obtain ⟨rfl, hV, hW, hK⟩ := hcut
        have hof : ∀ W : World, Rv W 1 (.slice a0 zs.length cap) zs.length (ints zs) → Calls Try.prog 14 #[.slice a0 zs.length cap] W fun e w' => e = .returned (vec F) ∧ Keep [] W w' := fun W h => by
          have := of_any (w := W) _ zs h (by omega)
          rw [HF.out] at this
          exact this
        have HOF := fun W h => hof W h
        clear hof
        have ho : other < 1 ∨ (1 ≤ other ∧ 5 < other) ∨ (1 ≤ other ∧ other ≤ 5 ∧ other ≠ node) := by omega
        rcases ho with ho | ⟨ho, ho'⟩ | ⟨ho, ho', hne⟩
        · have q1 : decide ((1 : Int) ≤ other) = false := decide_eq_false (by omega)
          go_wp2_with fail
          go_quiet (fail)
          have hVq := blkN hV nq
          have hKq := keepN hK nq
          have hRq := hr.keep hKq (by simp)
          generalize wc.drewN nq = wq at *
          obtain ⟨c0, c1, c2, c3, c4, c5⟩ := v6_cells hVq
          go_wp2_with fail
          go_region_held3 (fun w' => w'.cell? ⟨bv, 0, none⟩ = some (.int .i64 (F 0)) ∧ w'.cell? ⟨bv, 1, none⟩ = some (.int .i64 (F 1)) ∧ w'.cell? ⟨bv, 2, none⟩ = some (.int .i64 (F 2)) ∧ w'.cell? ⟨bv, 3, none⟩ = some (.int .i64 (F 3)) ∧ w'.cell? ⟨bv, 4, none⟩ = some (.int .i64 (F 4)) ∧ w'.cell? ⟨bv, 5, none⟩ = some (.int .i64 (F 5))) (first | go_keep | (exact v6_cells hV6))
            (first
              | (go_at_call 14; refine (HOF _ (hRq.keep (Keep.refl [] _).drew (by simp))).mono ?_; rintro e w6 ⟨rfl, k6⟩; have hV6 := hVq.drew.keep k6 (by simp))
              | (go_at_call 16; refine (same_any F F true (vsame_self F).symm hF0.out hF0.out).mono ?_; rintro e w7 ⟨rfl, k7⟩; have hV6 := hV6.keep k7 (by simp)))
          all_goals
            go_wp2_with fail
            go_ret
            exact ⟨rfl, ((hKq.drew.trans k6).trans k7).below⟩
        · have q1 : decide ((1 : Int) ≤ other) = true := decide_eq_true ho
          have q2 : decide (other ≤ (5 : Int)) = false := decide_eq_false (by omega)
          go_wp2_with fail
          go_quiet (fail)
          have hVq := blkN hV nq
          have hKq := keepN hK nq
          have hRq := hr.keep hKq (by simp)
          generalize wc.drewN nq = wq at *
          obtain ⟨c0, c1, c2, c3, c4, c5⟩ := v6_cells hVq
          go_wp2_with fail
          go_region_held3 (fun w' => w'.cell? ⟨bv, 0, none⟩ = some (.int .i64 (F 0)) ∧ w'.cell? ⟨bv, 1, none⟩ = some (.int .i64 (F 1)) ∧ w'.cell? ⟨bv, 2, none⟩ = some (.int .i64 (F 2)) ∧ w'.cell? ⟨bv, 3, none⟩ = some (.int .i64 (F 3)) ∧ w'.cell? ⟨bv, 4, none⟩ = some (.int .i64 (F 4)) ∧ w'.cell? ⟨bv, 5, none⟩ = some (.int .i64 (F 5))) (first | go_keep | (exact v6_cells hV6))
            (first
              | (go_at_call 14; refine (HOF _ (hRq.keep (Keep.refl [] _).drew (by simp))).mono ?_; rintro e w6 ⟨rfl, k6⟩; have hV6 := hVq.drew.keep k6 (by simp))
              | (go_at_call 16; refine (same_any F F true (vsame_self F).symm hF0.out hF0.out).mono ?_; rintro e w7 ⟨rfl, k7⟩; have hV6 := hV6.keep k7 (by simp)))
          all_goals
            go_wp2_with fail
            go_ret
            exact ⟨rfl, ((hKq.drew.trans k6).trans k7).below⟩
        · have q1 : decide ((1 : Int) ≤ other) = true := decide_eq_true ho
          have q2 : decide (other ≤ (5 : Int)) = true := decide_eq_true ho'
          have q3 : (other == node) = false := by simpa using hne
          have q4 : (other != node) = true := by simpa using hne
          have hE : vget G other = vget F other := HG.out.2.2 hne
          obtain ⟨c0, c1, c2, c3, c4, c5⟩ := v6_cells hV
          obtain ⟨d0, d1, d2, d3, d4, d5⟩ := v6_cells hW
          have hVd := hV.drew
          have hWd := hW.drew
          have hKd := hK.drew
          go_wp2_with fail
          go_region_held3 (fun w' => w'.cell? ⟨bv, 0, none⟩ = some (.int .i64 (F 0)) ∧ w'.cell? ⟨bv, 1, none⟩ = some (.int .i64 (F 1)) ∧ w'.cell? ⟨bv, 2, none⟩ = some (.int .i64 (F 2)) ∧ w'.cell? ⟨bv, 3, none⟩ = some (.int .i64 (F 3)) ∧ w'.cell? ⟨bv, 4, none⟩ = some (.int .i64 (F 4)) ∧ w'.cell? ⟨bv, 5, none⟩ = some (.int .i64 (F 5)) ∧ w'.cell? ⟨w2.heap.size, 0, none⟩ = some (.int .i64 (G 0)) ∧ w'.cell? ⟨w2.heap.size, 1, none⟩ = some (.int .i64 (G 1)) ∧ w'.cell? ⟨w2.heap.size, 2, none⟩ = some (.int .i64 (G 2)) ∧ w'.cell? ⟨w2.heap.size, 3, none⟩ = some (.int .i64 (G 3)) ∧ w'.cell? ⟨w2.heap.size, 4, none⟩ = some (.int .i64 (G 4)) ∧ w'.cell? ⟨w2.heap.size, 5, none⟩ = some (.int .i64 (G 5))) (first | go_keep | (exact ⟨e0, e1, e2, e3, e4, e5, d0, d1, d2, d3, d4, d5⟩))
            (first
              | (go_at_call_of 26 (G 0); refine (vGet_any G other _ rfl).mono ?_; rintro e wa ⟨rfl, ka⟩; have hVd := hVd.keep ka (by simp); have hWd := hWd.keep ka (by simp); have hKd := hKd.trans ka; clear c0 c1 c2 c3 c4 c5 d0 d1 d2 d3 d4 d5; obtain ⟨e0, e1, e2, e3, e4, e5⟩ := v6_cells hVd; obtain ⟨d0, d1, d2, d3, d4, d5⟩ := v6_cells hWd; obtain ⟨c0, c1, c2, c3, c4, c5⟩ := v6_cells hVd)
              | (go_at_call_of 26 (F 0); refine (vGet_any F other _ rfl).mono ?_; rintro e wb ⟨rfl, kb⟩; have hVd := hVd.keep kb (by simp); have hWd := hWd.keep kb (by simp); have hKd := hKd.trans kb; clear c0 c1 c2 c3 c4 c5 d0 d1 d2 d3 d4 d5; obtain ⟨e0, e1, e2, e3, e4, e5⟩ := v6_cells hVd; obtain ⟨d0, d1, d2, d3, d4, d5⟩ := v6_cells hWd; obtain ⟨c0, c1, c2, c3, c4, c5⟩ := v6_cells hVd)
              | fail)
          all_goals
            have hVq := hVd
            have hKq := hKd
            have hRq := hr.keep hKq (by simp)
            clear c0 c1 c2 c3 c4 c5 d0 d1 d2 d3 d4 d5 e0 e1 e2 e3 e4 e5
            obtain ⟨c0, c1, c2, c3, c4, c5⟩ := v6_cells hVq
            go_wp2_with fail
            go_region_held3 (fun w' => w'.cell? ⟨bv, 0, none⟩ = some (.int .i64 (F 0)) ∧ w'.cell? ⟨bv, 1, none⟩ = some (.int .i64 (F 1)) ∧ w'.cell? ⟨bv, 2, none⟩ = some (.int .i64 (F 2)) ∧ w'.cell? ⟨bv, 3, none⟩ = some (.int .i64 (F 3)) ∧ w'.cell? ⟨bv, 4, none⟩ = some (.int .i64 (F 4)) ∧ w'.cell? ⟨bv, 5, none⟩ = some (.int .i64 (F 5))) (first | go_keep | (exact v6_cells hV6))
              (first
                | (go_at_call 14; refine (HOF _ (hRq.keep (Keep.refl [] _).drew (by simp))).mono ?_; rintro e w6 ⟨rfl, k6⟩; have hV6 := hVq.drew.keep k6 (by simp))
                | (go_at_call 16; refine (same_any F F true (vsame_self F).symm hF0.out hF0.out).mono ?_; rintro e w7 ⟨rfl, k7⟩; have hV6 := hV6.keep k7 (by simp))
                | fail)
            all_goals
              go_wp2_with fail
              go_ret
              exact ⟨rfl, ((hKq.drew.trans k6).trans k7).below⟩
    · have p1 : decide ((1 : Int) ≤ node) = true := decide_eq_true (by omega)
      have p2 : decide (node ≤ (5 : Int)) = false := decide_eq_false (by omega)
      go_upto_region 7 with fail
      go_cut [46] (fun s wc => s = .bool false ∧ Blk wc bv (v6 F) 26 ∧ Blk wc w2.heap.size (v6 G) 26 ∧ Keep [] w wc)
      case first =>
        obtain ⟨c0, c1, c2, c3, c4, c5⟩ := v6_cells hV2
        go_wp2_with fail
        refine (same_any G F true HSM.out HG0.out hF0.out).mono ?_
        rintro e w5 ⟨rfl, k5⟩
        have hV5 := (hV2.alloc _).keep k5 (by simp)
        have hW5 := vkeep rfl k5
        have K5 := (K2.alloc _).trans k5
        go_wp2_with fail
        go_meet
        exact ⟨rfl, hV5, hW5, K5⟩
      case rest =>
        obtain ⟨rfl, hV, hW, hK⟩ := hcut
        have hof : ∀ W : World, Rv W 1 (.slice a0 zs.length cap) zs.length (ints zs) → Calls Try.prog 14 #[.slice a0 zs.length cap] W fun e w' => e = .returned (vec F) ∧ Keep [] W w' := fun W h => by
          have := of_any (w := W) _ zs h (by omega)
          rw [HF.out] at this
          exact this
        have HOF := fun W h => hof W h
        clear hof
        have ho : other < 1 ∨ (1 ≤ other ∧ 5 < other) ∨ (1 ≤ other ∧ other ≤ 5 ∧ other ≠ node) := by omega
        rcases ho with ho | ⟨ho, ho'⟩ | ⟨ho, ho', hne⟩
        · have q1 : decide ((1 : Int) ≤ other) = false := decide_eq_false (by omega)
          go_wp2_with fail
          go_quiet (fail)
          have hVq := blkN hV nq
          have hKq := keepN hK nq
          have hRq := hr.keep hKq (by simp)
          generalize wc.drewN nq = wq at *
          obtain ⟨c0, c1, c2, c3, c4, c5⟩ := v6_cells hVq
          go_wp2_with fail
          go_region_held3 (fun w' => w'.cell? ⟨bv, 0, none⟩ = some (.int .i64 (F 0)) ∧ w'.cell? ⟨bv, 1, none⟩ = some (.int .i64 (F 1)) ∧ w'.cell? ⟨bv, 2, none⟩ = some (.int .i64 (F 2)) ∧ w'.cell? ⟨bv, 3, none⟩ = some (.int .i64 (F 3)) ∧ w'.cell? ⟨bv, 4, none⟩ = some (.int .i64 (F 4)) ∧ w'.cell? ⟨bv, 5, none⟩ = some (.int .i64 (F 5))) (first | go_keep | (exact v6_cells hV6))
            (first
              | (go_at_call 14; refine (HOF _ (hRq.keep (Keep.refl [] _).drew (by simp))).mono ?_; rintro e w6 ⟨rfl, k6⟩; have hV6 := hVq.drew.keep k6 (by simp))
              | (go_at_call 16; refine (same_any F F true (vsame_self F).symm hF0.out hF0.out).mono ?_; rintro e w7 ⟨rfl, k7⟩; have hV6 := hV6.keep k7 (by simp)))
          all_goals
            go_wp2_with fail
            go_ret
            exact ⟨rfl, ((hKq.drew.trans k6).trans k7).below⟩
        · have q1 : decide ((1 : Int) ≤ other) = true := decide_eq_true ho
          have q2 : decide (other ≤ (5 : Int)) = false := decide_eq_false (by omega)
          go_wp2_with fail
          go_quiet (fail)
          have hVq := blkN hV nq
          have hKq := keepN hK nq
          have hRq := hr.keep hKq (by simp)
          generalize wc.drewN nq = wq at *
          obtain ⟨c0, c1, c2, c3, c4, c5⟩ := v6_cells hVq
          go_wp2_with fail
          go_region_held3 (fun w' => w'.cell? ⟨bv, 0, none⟩ = some (.int .i64 (F 0)) ∧ w'.cell? ⟨bv, 1, none⟩ = some (.int .i64 (F 1)) ∧ w'.cell? ⟨bv, 2, none⟩ = some (.int .i64 (F 2)) ∧ w'.cell? ⟨bv, 3, none⟩ = some (.int .i64 (F 3)) ∧ w'.cell? ⟨bv, 4, none⟩ = some (.int .i64 (F 4)) ∧ w'.cell? ⟨bv, 5, none⟩ = some (.int .i64 (F 5))) (first | go_keep | (exact v6_cells hV6))
            (first
              | (go_at_call 14; refine (HOF _ (hRq.keep (Keep.refl [] _).drew (by simp))).mono ?_; rintro e w6 ⟨rfl, k6⟩; have hV6 := hVq.drew.keep k6 (by simp))
              | (go_at_call 16; refine (same_any F F true (vsame_self F).symm hF0.out hF0.out).mono ?_; rintro e w7 ⟨rfl, k7⟩; have hV6 := hV6.keep k7 (by simp)))
          all_goals
            go_wp2_with fail
            go_ret
            exact ⟨rfl, ((hKq.drew.trans k6).trans k7).below⟩
        · have q1 : decide ((1 : Int) ≤ other) = true := decide_eq_true ho
          have q2 : decide (other ≤ (5 : Int)) = true := decide_eq_true ho'
          have q3 : (other == node) = false := by simpa using hne
          have q4 : (other != node) = true := by simpa using hne
          have hE : vget G other = vget F other := HG.out.2.2 hne
          obtain ⟨c0, c1, c2, c3, c4, c5⟩ := v6_cells hV
          obtain ⟨d0, d1, d2, d3, d4, d5⟩ := v6_cells hW
          have hVd := hV.drew
          have hWd := hW.drew
          have hKd := hK.drew
          go_wp2_with fail
          go_region_held3 (fun w' => w'.cell? ⟨bv, 0, none⟩ = some (.int .i64 (F 0)) ∧ w'.cell? ⟨bv, 1, none⟩ = some (.int .i64 (F 1)) ∧ w'.cell? ⟨bv, 2, none⟩ = some (.int .i64 (F 2)) ∧ w'.cell? ⟨bv, 3, none⟩ = some (.int .i64 (F 3)) ∧ w'.cell? ⟨bv, 4, none⟩ = some (.int .i64 (F 4)) ∧ w'.cell? ⟨bv, 5, none⟩ = some (.int .i64 (F 5)) ∧ w'.cell? ⟨w2.heap.size, 0, none⟩ = some (.int .i64 (G 0)) ∧ w'.cell? ⟨w2.heap.size, 1, none⟩ = some (.int .i64 (G 1)) ∧ w'.cell? ⟨w2.heap.size, 2, none⟩ = some (.int .i64 (G 2)) ∧ w'.cell? ⟨w2.heap.size, 3, none⟩ = some (.int .i64 (G 3)) ∧ w'.cell? ⟨w2.heap.size, 4, none⟩ = some (.int .i64 (G 4)) ∧ w'.cell? ⟨w2.heap.size, 5, none⟩ = some (.int .i64 (G 5))) (first | go_keep | (exact ⟨e0, e1, e2, e3, e4, e5, d0, d1, d2, d3, d4, d5⟩))
            (first
              | (go_at_call_of 26 (G 0); refine (vGet_any G other _ rfl).mono ?_; rintro e wa ⟨rfl, ka⟩; have hVd := hVd.keep ka (by simp); have hWd := hWd.keep ka (by simp); have hKd := hKd.trans ka; clear c0 c1 c2 c3 c4 c5 d0 d1 d2 d3 d4 d5; obtain ⟨e0, e1, e2, e3, e4, e5⟩ := v6_cells hVd; obtain ⟨d0, d1, d2, d3, d4, d5⟩ := v6_cells hWd; obtain ⟨c0, c1, c2, c3, c4, c5⟩ := v6_cells hVd)
              | (go_at_call_of 26 (F 0); refine (vGet_any F other _ rfl).mono ?_; rintro e wb ⟨rfl, kb⟩; have hVd := hVd.keep kb (by simp); have hWd := hWd.keep kb (by simp); have hKd := hKd.trans kb; clear c0 c1 c2 c3 c4 c5 d0 d1 d2 d3 d4 d5; obtain ⟨e0, e1, e2, e3, e4, e5⟩ := v6_cells hVd; obtain ⟨d0, d1, d2, d3, d4, d5⟩ := v6_cells hWd; obtain ⟨c0, c1, c2, c3, c4, c5⟩ := v6_cells hVd)
              | fail)
          all_goals
            have hVq := hVd
            have hKq := hKd
            have hRq := hr.keep hKq (by simp)
            clear c0 c1 c2 c3 c4 c5 d0 d1 d2 d3 d4 d5 e0 e1 e2 e3 e4 e5
            obtain ⟨c0, c1, c2, c3, c4, c5⟩ := v6_cells hVq
            go_wp2_with fail
            go_region_held3 (fun w' => w'.cell? ⟨bv, 0, none⟩ = some (.int .i64 (F 0)) ∧ w'.cell? ⟨bv, 1, none⟩ = some (.int .i64 (F 1)) ∧ w'.cell? ⟨bv, 2, none⟩ = some (.int .i64 (F 2)) ∧ w'.cell? ⟨bv, 3, none⟩ = some (.int .i64 (F 3)) ∧ w'.cell? ⟨bv, 4, none⟩ = some (.int .i64 (F 4)) ∧ w'.cell? ⟨bv, 5, none⟩ = some (.int .i64 (F 5))) (first | go_keep | (exact v6_cells hV6))
              (first
                | (go_at_call 14; refine (HOF _ (hRq.keep (Keep.refl [] _).drew (by simp))).mono ?_; rintro e w6 ⟨rfl, k6⟩; have hV6 := hVq.drew.keep k6 (by simp))
                | (go_at_call 16; refine (same_any F F true (vsame_self F).symm hF0.out hF0.out).mono ?_; rintro e w7 ⟨rfl, k7⟩; have hV6 := hV6.keep k7 (by simp))
                | fail)
            all_goals
              go_wp2_with fail
              go_ret
              exact ⟨rfl, ((hKq.drew.trans k6).trans k7).below⟩
end Go.Proofs.Ytpibpgfadkfgbaa
