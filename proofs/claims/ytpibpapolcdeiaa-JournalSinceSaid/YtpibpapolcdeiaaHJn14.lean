/- journal: the law JournalSince: its walk. -/
import Derived.Test.YtpibpapolcdeiaaG10
namespace Go.Proofs.Ytpibpapolcdeiaa
open Go.ChangeShapes Go.WideShapes Go.ChangeAt Go.RowKit
set_option linter.unusedVariables false
set_option linter.unusedSimpArgs false
set_option maxRecDepth 100000

def jkey (i : Nat) : List Nat := [107, 97 + i]
theorem jkey_kb (i : Nat) (h : i ≤ 150) : kb (toStr (jkey i)) = jkey i := by
  unfold kb sb toStr jkey
  simp
  omega

theorem jkey_conv {w : World} {b k : Nat} (h : Blk w b [.int .u8 107, .int .u8 (97 + (k : Int))] 5) (hk : k ≤ 27) : (convert 30 9 (.slice (some ⟨b, 0, none⟩) 2 2)).run Try.prog w = .ok (.string (toStr (jkey k))) w := by
  have hc : [Value.int .u8 107, Value.int .u8 (97 + (k : Int))] = bcs (jkey k) := by
    unfold jkey bcs bc
    simp only [List.map_cons, List.map_nil]
    rw [Int.natCast_add]
    rfl
  rw [hc] at h
  exact Rd.str (P := Try.prog) (rv_blk h (by simp [bcs, jkey])) (by intro c hc; simp [jkey] at hc; omega) Try.underlying30 Try.underlying5 (dst := 9) Try.underlying9
def sinJ22 (wr : World) (g gc r i b : Nat) (l : Nat → Bool) (x : Nat → Value) (w' : World) : Prop :=
  ∃ B17, (w'.cell? ⟨g, i * 2, none⟩ = some (.int .i64 ((b : Int) + 1))) ∧
  (w'.cell? ⟨g, i * 2 + 1, none⟩ = some (.string (toStr (jkey b)))) ∧
  (Keep [] wr w') ∧
  (l 0 = true → x 0 = .slice (some ⟨g, 0, none⟩) r gc) ∧
  (l 1 = true → x 1 = .int .i64 (i : Int)) ∧
  (l 2 = true → x 2 = .pointer (some ⟨g, i * 2, none⟩)) ∧
  (l 3 = true → x 3 = .pointer (some ⟨g, i * 2, none⟩)) ∧
  (l 4 = true → x 4 = .int .i64 ((b : Int) + 1)) ∧
  (l 5 = true → x 5 = .int .i64 ((b : Int) + 1)) ∧
  (l 6 = true → x 6 = .bool false) ∧
  (l 7 = true → x 7 = .bool false) ∧
  (l 8 = true → x 8 = .slice (some ⟨g, 0, none⟩) r gc) ∧
  (l 9 = true → x 9 = .int .i64 (i : Int)) ∧
  (l 10 = true → x 10 = .pointer (some ⟨g, i * 2, none⟩)) ∧
  (l 11 = true → x 11 = .pointer (some ⟨g, i * 2 + 1, none⟩)) ∧
  (l 12 = true → x 12 = .string (toStr (jkey b))) ∧
  (l 13 = true → x 13 = .int .i64 ((b : Int) + 1)) ∧
  (l 14 = true → x 14 = .int .i64 (97 + ((b : Int) + 1))) ∧
  (l 15 = true → x 15 = .int .i64 (97 + (b : Int))) ∧
  (l 16 = true → x 16 = .int .u8 (97 + (b : Int))) ∧
  (l 17 = true → x 17 = .slice (some ⟨B17, 0, none⟩) 2 2 ∧ Blk w' B17 [.int .u8 107, .int .u8 (97 + (b : Int))] 5) ∧
  (l 18 = true → x 18 = .string (toStr (jkey b))) ∧
  (l 19 = true → x 19 = .bool false) ∧
  (l 20 = true → x 20 = .bool false)
theorem sinceK_drop (M : List Mk) (a p : Nat) (h : ∀ i y, M[i]? = some y → y.seq = i + 1) : sinceK M (a : Int) (p : Int) = (M.drop a).take p := by
  unfold sinceK
  rw [Int.toNat_natCast]
  congr 1
  have e : ∀ (M : List Mk) (o : Nat), (∀ i y, M[i]? = some y → y.seq = o + i + 1) → M.filter (fun m => decide ((a : Int) < (m.seq : Int))) = M.drop (a - o) := by
    intro M
    induction M with
    | nil => intro o _; simp
    | cons x M ih =>
      intro o ho
      have hx := ho 0 x rfl
      have ih2 := ih (o + 1) (fun i y hy => by have := ho (i + 1) y (by simpa using hy); omega)
      by_cases hc : (a : Int) < (x.seq : Int)
      · rw [List.filter_cons_of_pos (by simpa using hc), ih2, show a - (o + 1) = 0 by omega, show a - o = 0 by omega]
        rfl
      · rw [List.filter_cons_of_neg (by simpa using hc), ih2]
        obtain ⟨k, hk⟩ : ∃ k, a - o = k + 1 := ⟨a - o - 1, by omega⟩
        rw [hk, List.drop_succ_cons]
        congr 1
        omega
  have := e M 0 (fun i y hy => by rw [h i y hy]; omega)
  simpa using this
set_option maxRecDepth 100000 in
set_option maxHeartbeats 8000000 in
theorem journalSince_walk (n per : Int) (w : World) (w0 : (Lit.int .i64 n).wf = true) (w1 : (Lit.int .i64 per).wf = true) :
    Calls Try.prog 6 #[.int .i64 n, .int .i64 per] w fun e w' => e = .returned (.bool true) ∧ Below w.heap.size w w' := by
  go_enter Try.func6, Try.ntmps6
  go_wp2_with fail
  refine (begun10 _).mono ?_
  rintro e wb ⟨rfl, hKb⟩
  have HKB := Lib.hid hKb
  clear hKb
  by_cases hbad : n < 0 ∨ 28 < n ∨ per < 1 ∨ 10 < per
  · have HBAD := Lib.hid hbad
    go_upto_region 4 with fail
    go_cut [33] (fun s wc => s = .bool true ∧ wb = wc)
    case first =>
      rcases HBAD.out with h | h | h | h
      · have q1 : decide (n < 0) = true := decide_eq_true h
        go_wp2_with fail
        go_meet
        exact ⟨by simp, rfl⟩
      · have q0 : ¬ n < 0 := by omega
        have q1 : n > 28 := h
        go_wp2_with fail
        go_meet
        exact ⟨by simp [h], rfl⟩
      · by_cases q0 : n < 0
        · go_wp2_with fail
          go_meet
          exact ⟨by simp [q0], rfl⟩
        · by_cases q1 : n > 28
          · go_wp2_with fail
            go_meet
            exact ⟨by simp [h], rfl⟩
          · go_wp2_with fail
            go_meet
            exact ⟨by simp [h], rfl⟩
      · by_cases q0 : n < 0
        · go_wp2_with fail
          go_meet
          exact ⟨by simp [q0], rfl⟩
        · by_cases q1 : n > 28
          · go_wp2_with fail
            go_meet
            exact ⟨by simp [h], rfl⟩
          · by_cases q2 : per < 1
            · go_wp2_with fail
              go_meet
              exact ⟨by simp [h], rfl⟩
            · go_wp2_with fail
              go_meet
              exact ⟨by simp [h], rfl⟩
    case rest =>
    obtain ⟨rfl, rfl⟩ := hcut
    go_wp2_with fail
    go_ret
    exact ⟨rfl, HKB.out.below⟩
  · obtain ⟨nn, rfl⟩ : ∃ k : Nat, n = k := ⟨n.toNat, by omega⟩
    obtain ⟨pp, rfl⟩ : ∃ k : Nat, per = k := ⟨per.toNat, by omega⟩
    have hnn : nn ≤ 28 := by omega
    have hpp : 1 ≤ pp ∧ pp ≤ 10 := by omega
    have q1 : ¬ ((nn : Int) < 0) := by omega
    have q2 : ¬ ((nn : Int) > 28) := by omega
    have q3 : ¬ ((pp : Int) < 1) := by omega
    have q4 : ¬ ((pp : Int) > 10) := by omega
    clear hbad
    go_upto_region 4 with fail
    go_cut [33] (fun s wc => s = .bool false ∧ wb = wc)
    case first =>
      go_wp2_with fail
      go_meet
      exact ⟨by simp; omega, rfl⟩
    case rest =>
    obtain ⟨rfl, rfl⟩ := hcut
    clear q1 q2 q3 q4
    go_wp2_with fail
    refine (New_any 170 170 rfl).mono ?_
    rintro e w2 ⟨d, sb, rfl, hD2, hK2, hb, hsb⟩
    have hws := HKB.out.size
    have HO := Lib.hid (JS.open_dev (HKB.out.trans hK2) hD2 (Nat.zero_le _) (JDev.new 170 3 (by decide)) (by decide) (by simp) ⟨by omega, by omega⟩)
    clear hD2 hK2 hb hsb hws
    go_wp2_with fail
    refine HO.out.mono ?_
    rintro e w3 ⟨jb, rfl, hJ3, hK3, _⟩
    have HJ3 := Lib.hid hJ3
    clear hJ3 hK3 HO
    go_wp2_with fail
    go_loopw [8] (fun s8 wr => ∃ (i : Nat) (L : List Sec) (M : List Mk), s8 = .int .i64 (i : Int) ∧ i ≤ nn ∧ JS w wr d sb jb 3 (71 + 13 * i) L M ∧ M.map Mk.key = (List.range i).map jkey ∧ encN (M.map recOf) ≤ 20 * i) (fun x _ => nn + 1 - (intOf x).toNat)
    case atStart => exact ⟨0, _, [], rfl, Nat.zero_le _, HJ3.out, rfl, by decide⟩
    case round =>
    obtain ⟨i, L, M, rfl, hi, hJ, hM, hC⟩ := hrel
    have HJ := Lib.hid hJ
    have HM := Lib.hid hM
    have HC := Lib.hid hC
    clear hJ hM hC HJ3
    by_cases hlt : i < nn
    · have q0 : decide ((i : Int) < (nn : Int)) = true := decide_eq_true (by omega)
      have hcells : (bcs (jkey i)).toArray = #[.int .u8 107, .int .u8 (97 + (i : Int))] := by
        unfold jkey bcs bc
        simp only [List.map_cons, List.map_nil]
        rw [Int.natCast_add]
        rfl
      have hconv : (convert 30 9 (.slice (some ⟨wr.heap.size, 0, none⟩) 2 2)).run Try.prog (wr.alloc (.cells #[.int .u8 107, .int .u8 (97 + (i : Int))] 5)) = .ok (.string (toStr (jkey i))) (wr.alloc (.cells #[.int .u8 107, .int .u8 (97 + (i : Int))] 5)) := by
        have h := u8s_rd wr (jkey i) wr.heap.size rfl (0, 0)
        rw [hcells] at h
        exact Rd.str (P := Try.prog) h (by intro c hc; simp [jkey] at hc; omega) Try.underlying30 Try.underlying5 (dst := 9) Try.underlying9
      have HKA := Lib.hid ((Keep.refl [] wr).alloc (.cells #[.int .u8 107, .int .u8 (97 + (i : Int))] 5))
      have HCV := Lib.hid hconv
      clear hconv hcells
      obtain ⟨kt, hkt⟩ : ∃ kt, kt = toStr (jkey i) := ⟨_, rfl⟩
      rw [← hkt] at HCV
      have HKT := Lib.hid hkt
      clear hkt
      obtain ⟨wq, hwq⟩ : ∃ wq, wq = wr.alloc (.cells #[.int .u8 107, .int .u8 (97 + (i : Int))] 5) := ⟨_, rfl⟩
      rw [← hwq] at HCV HKA
      have hsz : wq.heap.size = wr.heap.size + 1 := by rw [hwq]; exact Array.size_push _
      have hAB : Blk (wq.alloc (.cells #[.string kt] 9)) wq.heap.size [.string kt] 9 := Blk.new wq [.string kt] _
      have HADD := Lib.hid ((HJ.out.still (HKA.out.trans ((Keep.refl [] wq).alloc (.cells #[.string kt] 9)))).add (by omega) (.slice (some ⟨wq.heap.size, 0, none⟩) 1 1) [kt] (rv_blk hAB rfl) (by
        intro k hk
        simp only [List.mem_singleton] at hk
        subst hk
        rw [HKT.out, toStr_size]
        simp [jkey]) (fun q hq => .inl (by
        have e : wq.heap.size = q := Option.some.inj hq
        subst e; exact hAB.ty)) (by
        have := HC.out
        have e : keysCost [kt] = 20 := by rw [HKT.out]; simp [keysCost, keyCost, jkey]
        omega))
      rw [hsz] at HADD
      have hcv := HCV.out
      rw [hwq] at hcv
      have HWQ := Lib.hid hwq
      clear hwq hAB hsz
      go_wp2_with fail
      rw [← HWQ.out]
      refine HADD.out.mono ?_
      rintro e w5 ⟨L5, N, rfl, hJ5, hl5, hN5, hc5, hf5, _⟩
      have HR5 : Hid (JS w w5 d sb jb 3 (71 + 13 * (i + 1)) L5 (M ++ N) ∧ (M ++ N).map Mk.key = (List.range (i + 1)).map jkey ∧ encN ((M ++ N).map recOf) ≤ 20 * (i + 1)) := Lib.hid (by
        refine ⟨by rw [show 71 + 13 * (i + 1) = 71 + 13 * i + 12 * [kt].length + 1 from by show 71 + 13 * (i + 1) = 71 + 13 * i + 12 * 1 + 1; omega]; exact hJ5, ?_, ?_⟩
        · rw [List.map_append, HM.out, hN5, List.range_succ, List.map_append, HKT.out]
          simp only [List.map_cons, List.map_nil]
          rw [jkey_kb i (by omega)]
        · have := HC.out
          have e : keysCost [kt] = 20 := by rw [HKT.out]; simp [keysCost, keyCost, jkey]
          omega)
      clear hJ5 hl5 hN5 hc5 hf5 HADD hcv
      go_wp2_with fail
      go_roundw
      case rel => exact ⟨i + 1, L5, M ++ N, by go_num, by omega, HR5.out⟩
      case measure => simp only [intOf]; omega
    · obtain rfl : nn = i := by omega
      have q0 : decide ((nn : Int) < (nn : Int)) = false := by simp
      have HML : Hid (M.length = nn) := Lib.hid (by
        have := congrArg List.length HM.out
        simpa using this)
      have HAT : Hid (∀ b y, M[b]? = some y → y.seq = b + 1 ∧ y.key = jkey b) := Lib.hid (fun b y hy => by
        refine ⟨HJ.out.seq_at b y hy, ?_⟩
        have h1 := congrArg (fun l => l[b]?) HM.out
        have hb := (List.getElem?_eq_some_iff.1 hy).1
        rw [HML.out] at hb
        simp only [List.getElem?_map, hy, Option.map_some] at h1
        rw [List.getElem?_range hb] at h1
        injection h1)
      have HSK : Hid (∀ a : Nat, sinceK M (a : Int) (pp : Int) = (M.drop a).take pp) := Lib.hid (fun a => sinceK_drop M a pp HJ.out.seq_at)
      obtain ⟨T, hT⟩ : ∃ T, T = 71 + 13 * nn := ⟨_, rfl⟩
      rw [← hT] at HJ
      clear hlt hi hT
      go_wp2_with fail
      clear q0
      go_loopw [9] (fun s9 wx => ∃ a : Nat, s9 = .int .i64 (a : Int) ∧ a ≤ nn ∧ JS w wx d sb jb 3 T L M) (fun x _ => nn + 1 - (intOf x).toNat)
      case atStart => exact ⟨0, rfl, Nat.zero_le _, HJ.out⟩
      case round =>
      obtain ⟨a, rfl, ha, hJx⟩ := hrel
      have HJX := Lib.hid hJx
      clear hJx HJ
      by_cases hlt : a < nn
      · have q0 : decide ((a : Int) < (nn : Int)) = true := decide_eq_true (by omega)
        have hS := HJX.out.since a pp ⟨by omega, by rw [HML.out]; omega⟩
        rw [HSK.out a] at hS
        obtain ⟨R, hR⟩ : ∃ R, R = (M.drop a).take pp := ⟨_, rfl⟩
        rw [← hR] at hS
        have hRl : R.length = min pp (nn - a) := by rw [hR, List.length_take, List.length_drop, HML.out]
        have HRAT : Hid (∀ i y, R[i]? = some y → M[a + i]? = some y) := Lib.hid (fun i y hy => by
          rw [hR, List.getElem?_take] at hy
          split at hy
          · rw [List.getElem?_drop] at hy; exact hy
          · cases hy)
        have HS := Lib.hid hS
        obtain ⟨r, hr⟩ : ∃ r, r = R.length := ⟨_, rfl⟩
        have hr1 : 1 ≤ r ∧ r ≤ pp ∧ a + r ≤ nn := by omega
        have HRR := Lib.hid hr
        clear hS hR hRl hr
        go_wp2_with fail
        refine HS.out.mono ?_
        rintro e w6 ⟨v6, rfl, hR6, hK6⟩
        have HJ6 := Lib.hid (HJX.out.still hK6)
        have HR6 := Lib.hid hR6
        obtain ⟨g, gc, rfl, _⟩ := hR6.at_ (by rw [← HRR.out]; omega)
        rw [← HRR.out]
        rw [← HRR.out] at HR6
        clear hR6 hK6 HS q0
        have p1 : ¬ ((r : Int) = 0) := by omega
        have p2 : ¬ ((r : Int) > (pp : Int)) := by omega
        have p3 : ¬ (pp < r) := by omega
        go_upto_region 16 with fail
        go_cut [76] (fun s wc => s = .bool false ∧ w6 = wc)
        case first =>
          go_wp2_with fail
          go_meet
          exact ⟨by simp; omega, rfl⟩
        case rest =>
        obtain ⟨rfl, rfl⟩ := hcut
        clear p1 p2 p3
        go_wp2_with fail
        go_loopw [12, 9] (fun s12 s9 wy => ∃ i : Nat, s12 = .int .i64 (i : Int) ∧ s9 = .int .i64 ((a + i : Nat) : Int) ∧ i ≤ r ∧ Keep [] w6 wy) (fun x _ _ => r + 1 - (intOf x).toNat)
        case atStart => exact ⟨0, rfl, rfl, Nat.zero_le _, Keep.refl _ _⟩
        case round =>
        obtain ⟨i, rfl, rfl, hi, hKy⟩ := hrel
        have HKY := Lib.hid hKy
        clear hKy
        obtain ⟨b, hb⟩ : ∃ b, b = a + i := ⟨_, rfl⟩
        rw [← hb]
        have HBI := Lib.hid hb
        by_cases hlt2 : i < r
        · have q2 : decide ((i : Int) < (r : Int)) = true := decide_eq_true (by omega)
          obtain ⟨y, hy⟩ : ∃ y, R[i]? = some y := ⟨_, List.getElem?_eq_getElem (by rw [← HRR.out]; exact hlt2)⟩
          obtain ⟨g2, gc2, hg2, hc2⟩ := HR6.out.at_ (by rw [← HRR.out]; omega)
          rw [← HRR.out] at hg2
          injection hg2 with e1 e2 e3
          injection e1 with e1
          injection e1 with e1 _ _
          subst e1
          obtain ⟨c0, c1⟩ := hc2 i y hy
          have hyy := HAT.out (a + i) y (HRAT.out i y hy)
          rw [hyy.1, ← hb] at c0
          rw [hyy.2, ← hb] at c1
          have HC0 : Hid (wr.cell? ⟨g, i * 2, none⟩ = some (.int .i64 ((b : Int) + 1))) := Lib.hid (HKY.out.cell1 c0 (by simp))
          have HC1 : Hid (wr.cell? ⟨g, i * 2 + 1, none⟩ = some (.string (toStr (jkey b)))) := Lib.hid (HKY.out.cell1 c1 (by simp))
          have hb27 : b ≤ 27 := by omega
          have HB27 := Lib.hid hb27
          have HIR := Lib.hid hlt2
          clear hb e2 e3 c0 c1 hyy hy hc2
          go_upto_region 22 with fail
          have HW14 : Hid (IntKind.i64.wrap (97 + ((b : Int) + 1)) = 97 + ((b : Int) + 1)) := Lib.hid (by rw [IntKind.wrap_i64]; omega)
          have HW15 : Hid (IntKind.i64.wrap (97 + ((b : Int) + 1) - 1) = 97 + (b : Int)) := Lib.hid (by rw [IntKind.wrap_i64]; omega)
          have HW16 : Hid (IntKind.u8.wrap (97 + (b : Int)) = 97 + (b : Int)) := Lib.hid (by rw [IntKind.wrap_u8]; omega)
          refine wp_region_inv (sinJ22 wr g gc r i b) (by kernel_rfl) (by kernel_rfl) (by kernel_rfl) ?_ (Steps.cons 0 ?_ (Steps.cons 1 ?_ (Steps.cons 2 ?_ (Steps.cons 3 ?_ (Steps.cons 4 ?_ (Steps.cons 5 ?_ (Steps.cons 6 ?_ (Steps.cons 7 ?_ (Steps.cons 8 ?_ (Steps.cons 9 ?_ (Steps.cons 10 ?_ (Steps.cons 11 ?_ (Steps.cons 12 ?_ (Steps.cons 13 ?_ (Steps.cons 14 ?_ (Steps.cons 15 ?_ (Steps.cons 16 ?_ (Steps.cons 17 ?_ (Steps.cons 18 ?_ (Steps.cons 19 ?_ (Steps.cons 20 ?_ (Steps.nil 21)))))))))))))))))))))) 21 rfl ?_
          · intro x
            exact ⟨0, HC0.out, HC1.out, (Keep.refl _ _).drew, fun h => absurd h (by decide), fun h => absurd h (by decide), fun h => absurd h (by decide), fun h => absurd h (by decide), fun h => absurd h (by decide), fun h => absurd h (by decide), fun h => absurd h (by decide), fun h => absurd h (by decide), fun h => absurd h (by decide), fun h => absurd h (by decide), fun h => absurd h (by decide), fun h => absurd h (by decide), fun h => absurd h (by decide), fun h => absurd h (by decide), fun h => absurd h (by decide), fun h => absurd h (by decide), fun h => absurd h (by decide), fun h => absurd h (by decide), fun h => absurd h (by decide), fun h => absurd h (by decide), fun h => absurd h (by decide)⟩
          · intro l x w' hJ hi hd
            obtain ⟨B17, kc0, kc1, hK, h0, h1, h2, h3, h4, h5, h6, h7, h8, h9, h10, h11, h12, h13, h14, h15, h16, h17, h18, h19, h20⟩ := hJ
            refine Runs.of (b := ?bA0) ?eA0 ?_
            case eA0 => simp only [putV, Act.put, List.setIfInBounds_toArray, List.set_cons_zero, List.set_cons_succ]; rfl
            intro K' hK'
            go_simp
            exact hK'.go _ rfl ⟨B17, kc0, kc1, hK, fun _ => rfl, h1, h2, h3, h4, h5, h6, h7, h8, h9, h10, h11, h12, h13, h14, h15, h16, h17, h18, h19, h20⟩
          · intro l x w' hJ hi hd
            obtain ⟨B17, kc0, kc1, hK, h0, h1, h2, h3, h4, h5, h6, h7, h8, h9, h10, h11, h12, h13, h14, h15, h16, h17, h18, h19, h20⟩ := hJ
            refine Runs.of (b := ?bA1) ?eA1 ?_
            case eA1 => simp only [putV, Act.put, List.setIfInBounds_toArray, List.set_cons_zero, List.set_cons_succ]; rfl
            intro K' hK'
            go_simp
            exact hK'.go _ rfl ⟨B17, kc0, kc1, hK, h0, fun _ => rfl, h2, h3, h4, h5, h6, h7, h8, h9, h10, h11, h12, h13, h14, h15, h16, h17, h18, h19, h20⟩
          · intro l x w' hJ hi hd
            obtain ⟨B17, kc0, kc1, hK, h0, h1, h2, h3, h4, h5, h6, h7, h8, h9, h10, h11, h12, h13, h14, h15, h16, h17, h18, h19, h20⟩ := hJ
            have e0 := h0 (show l 0 = true by first | exact hd.1 rfl | exact hd.2.1 rfl | exact hd.2.2.1 rfl | exact hd.2.2.2.1 rfl | exact hd.2.2.2.2.1 rfl | exact hd.2.2.2.2.2.1 rfl)
            have e1 := h1 (show l 1 = true by first | exact hd.1 rfl | exact hd.2.1 rfl | exact hd.2.2.1 rfl | exact hd.2.2.2.1 rfl | exact hd.2.2.2.2.1 rfl | exact hd.2.2.2.2.2.1 rfl)
            have hix := HIR.out
            refine Runs.of (b := ?bA2) ?eA2 ?_
            case eA2 => simp only [putV, Act.put, List.setIfInBounds_toArray, List.set_cons_zero, List.set_cons_succ, e0, e1]; rfl
            intro K' hK'
            go_simp
            exact hK'.go _ rfl ⟨B17, kc0, kc1, hK, h0, h1, fun _ => rfl, h3, h4, h5, h6, h7, h8, h9, h10, h11, h12, h13, h14, h15, h16, h17, h18, h19, h20⟩
          · intro l x w' hJ hi hd
            obtain ⟨B17, kc0, kc1, hK, h0, h1, h2, h3, h4, h5, h6, h7, h8, h9, h10, h11, h12, h13, h14, h15, h16, h17, h18, h19, h20⟩ := hJ
            have e2 := h2 (show l 2 = true by first | exact hd.1 rfl | exact hd.2.1 rfl | exact hd.2.2.1 rfl | exact hd.2.2.2.1 rfl | exact hd.2.2.2.2.1 rfl | exact hd.2.2.2.2.2.1 rfl)
            refine Runs.of (b := ?bA3) ?eA3 ?_
            case eA3 => simp only [putV, Act.put, List.setIfInBounds_toArray, List.set_cons_zero, List.set_cons_succ, e2]; rfl
            intro K' hK'
            go_simp
            exact hK'.go _ rfl ⟨B17, kc0, kc1, hK, h0, h1, h2, fun _ => rfl, h4, h5, h6, h7, h8, h9, h10, h11, h12, h13, h14, h15, h16, h17, h18, h19, h20⟩
          · intro l x w' hJ hi hd
            obtain ⟨B17, kc0, kc1, hK, h0, h1, h2, h3, h4, h5, h6, h7, h8, h9, h10, h11, h12, h13, h14, h15, h16, h17, h18, h19, h20⟩ := hJ
            have e3 := h3 (show l 3 = true by first | exact hd.1 rfl | exact hd.2.1 rfl | exact hd.2.2.1 rfl | exact hd.2.2.2.1 rfl | exact hd.2.2.2.2.1 rfl | exact hd.2.2.2.2.2.1 rfl)
            have c0 := kc0
            refine Runs.of (b := ?bA4) ?eA4 ?_
            case eA4 => simp only [putV, Act.put, List.setIfInBounds_toArray, List.set_cons_zero, List.set_cons_succ, e3]; rfl
            intro K' hK'
            go_simp
            exact hK'.go _ rfl ⟨B17, kc0, kc1, hK, h0, h1, h2, h3, fun _ => rfl, h5, h6, h7, h8, h9, h10, h11, h12, h13, h14, h15, h16, h17, h18, h19, h20⟩
          · intro l x w' hJ hi hd
            obtain ⟨B17, kc0, kc1, hK, h0, h1, h2, h3, h4, h5, h6, h7, h8, h9, h10, h11, h12, h13, h14, h15, h16, h17, h18, h19, h20⟩ := hJ
            refine Runs.of (b := ?bA5) ?eA5 ?_
            case eA5 => simp only [putV, Act.put, List.setIfInBounds_toArray, List.set_cons_zero, List.set_cons_succ]; rfl
            intro K' hK'
            go_simp
            exact hK'.go _ rfl ⟨B17, kc0, kc1, hK, h0, h1, h2, h3, h4, fun _ => rfl, h6, h7, h8, h9, h10, h11, h12, h13, h14, h15, h16, h17, h18, h19, h20⟩
          · intro l x w' hJ hi hd
            obtain ⟨B17, kc0, kc1, hK, h0, h1, h2, h3, h4, h5, h6, h7, h8, h9, h10, h11, h12, h13, h14, h15, h16, h17, h18, h19, h20⟩ := hJ
            have e4 := h4 (show l 4 = true by first | exact hd.1 rfl | exact hd.2.1 rfl | exact hd.2.2.1 rfl | exact hd.2.2.2.1 rfl | exact hd.2.2.2.2.1 rfl | exact hd.2.2.2.2.2.1 rfl)
            have e5 := h5 (show l 5 = true by first | exact hd.1 rfl | exact hd.2.1 rfl | exact hd.2.2.1 rfl | exact hd.2.2.2.1 rfl | exact hd.2.2.2.2.1 rfl | exact hd.2.2.2.2.2.1 rfl)
            refine Runs.of (b := ?bA6) ?eA6 ?_
            case eA6 => simp only [putV, Act.put, List.setIfInBounds_toArray, List.set_cons_zero, List.set_cons_succ, e4, e5]; rfl
            intro K' hK'
            go_simp
            exact hK'.go _ rfl ⟨B17, kc0, kc1, hK, h0, h1, h2, h3, h4, h5, fun _ => (by first | rfl | simp), h7, h8, h9, h10, h11, h12, h13, h14, h15, h16, h17, h18, h19, h20⟩
          · intro l x w' hJ hi hd
            obtain ⟨B17, kc0, kc1, hK, h0, h1, h2, h3, h4, h5, h6, h7, h8, h9, h10, h11, h12, h13, h14, h15, h16, h17, h18, h19, h20⟩ := hJ
            have e6 := h6 (show l 6 = true by first | exact hd.1 rfl | exact hd.2.1 rfl | exact hd.2.2.1 rfl | exact hd.2.2.2.1 rfl | exact hd.2.2.2.2.1 rfl | exact hd.2.2.2.2.2.1 rfl)
            refine Runs.of (b := ?bA7) ?eA7 ?_
            case eA7 => simp only [putV, Act.put, List.setIfInBounds_toArray, List.set_cons_zero, List.set_cons_succ, e6]; rfl
            intro K' hK'
            go_simp
            exact hK'.go _ rfl ⟨B17, kc0, kc1, hK, h0, h1, h2, h3, h4, h5, h6, fun _ => rfl, h8, h9, h10, h11, h12, h13, h14, h15, h16, h17, h18, h19, h20⟩
          · intro l x w' hJ hi hd
            obtain ⟨B17, kc0, kc1, hK, h0, h1, h2, h3, h4, h5, h6, h7, h8, h9, h10, h11, h12, h13, h14, h15, h16, h17, h18, h19, h20⟩ := hJ
            have e7 := h7 (show l 7 = true by first | exact hd.1 rfl | exact hd.2.1 rfl | exact hd.2.2.1 rfl | exact hd.2.2.2.1 rfl | exact hd.2.2.2.2.1 rfl | exact hd.2.2.2.2.2.1 rfl)
            refine Runs.of (b := ?bA8) ?eA8 ?_
            case eA8 => simp only [putV, Act.put, List.setIfInBounds_toArray, List.set_cons_zero, List.set_cons_succ, e7]; rfl
            intro K' hK'
            go_simp
            exact hK'.go _ rfl ⟨B17, kc0, kc1, hK, h0, h1, h2, h3, h4, h5, h6, h7, fun _ => rfl, h9, h10, h11, h12, h13, h14, h15, h16, h17, h18, h19, h20⟩
          · intro l x w' hJ hi hd
            obtain ⟨B17, kc0, kc1, hK, h0, h1, h2, h3, h4, h5, h6, h7, h8, h9, h10, h11, h12, h13, h14, h15, h16, h17, h18, h19, h20⟩ := hJ
            have e7 := h7 (show l 7 = true by first | exact hd.1 rfl | exact hd.2.1 rfl | exact hd.2.2.1 rfl | exact hd.2.2.2.1 rfl | exact hd.2.2.2.2.1 rfl | exact hd.2.2.2.2.2.1 rfl)
            refine Runs.of (b := ?bA9) ?eA9 ?_
            case eA9 => simp only [putV, Act.put, List.setIfInBounds_toArray, List.set_cons_zero, List.set_cons_succ, e7]; rfl
            intro K' hK'
            go_simp
            exact hK'.go _ rfl ⟨B17, kc0, kc1, hK, h0, h1, h2, h3, h4, h5, h6, h7, h8, fun _ => rfl, h10, h11, h12, h13, h14, h15, h16, h17, h18, h19, h20⟩
          · intro l x w' hJ hi hd
            obtain ⟨B17, kc0, kc1, hK, h0, h1, h2, h3, h4, h5, h6, h7, h8, h9, h10, h11, h12, h13, h14, h15, h16, h17, h18, h19, h20⟩ := hJ
            have e7 := h7 (show l 7 = true by first | exact hd.1 rfl | exact hd.2.1 rfl | exact hd.2.2.1 rfl | exact hd.2.2.2.1 rfl | exact hd.2.2.2.2.1 rfl | exact hd.2.2.2.2.2.1 rfl)
            have e8 := h8 (show l 8 = true by first | exact hd.1 rfl | exact hd.2.1 rfl | exact hd.2.2.1 rfl | exact hd.2.2.2.1 rfl | exact hd.2.2.2.2.1 rfl | exact hd.2.2.2.2.2.1 rfl)
            have e9 := h9 (show l 9 = true by first | exact hd.1 rfl | exact hd.2.1 rfl | exact hd.2.2.1 rfl | exact hd.2.2.2.1 rfl | exact hd.2.2.2.2.1 rfl | exact hd.2.2.2.2.2.1 rfl)
            have hix := HIR.out
            refine Runs.of (b := ?bA10) ?eA10 ?_
            case eA10 => simp only [putV, Act.put, List.setIfInBounds_toArray, List.set_cons_zero, List.set_cons_succ, e7, e8, e9]; rfl
            intro K' hK'
            go_simp
            exact hK'.go _ rfl ⟨B17, kc0, kc1, hK, h0, h1, h2, h3, h4, h5, h6, h7, h8, h9, fun _ => rfl, h11, h12, h13, h14, h15, h16, h17, h18, h19, h20⟩
          · intro l x w' hJ hi hd
            obtain ⟨B17, kc0, kc1, hK, h0, h1, h2, h3, h4, h5, h6, h7, h8, h9, h10, h11, h12, h13, h14, h15, h16, h17, h18, h19, h20⟩ := hJ
            have e7 := h7 (show l 7 = true by first | exact hd.1 rfl | exact hd.2.1 rfl | exact hd.2.2.1 rfl | exact hd.2.2.2.1 rfl | exact hd.2.2.2.2.1 rfl | exact hd.2.2.2.2.2.1 rfl)
            have e10 := h10 (show l 10 = true by first | exact hd.1 rfl | exact hd.2.1 rfl | exact hd.2.2.1 rfl | exact hd.2.2.2.1 rfl | exact hd.2.2.2.2.1 rfl | exact hd.2.2.2.2.2.1 rfl)
            refine Runs.of (b := ?bA11) ?eA11 ?_
            case eA11 => simp only [putV, Act.put, List.setIfInBounds_toArray, List.set_cons_zero, List.set_cons_succ, e7, e10]; rfl
            intro K' hK'
            go_simp
            exact hK'.go _ rfl ⟨B17, kc0, kc1, hK, h0, h1, h2, h3, h4, h5, h6, h7, h8, h9, h10, fun _ => rfl, h12, h13, h14, h15, h16, h17, h18, h19, h20⟩
          · intro l x w' hJ hi hd
            obtain ⟨B17, kc0, kc1, hK, h0, h1, h2, h3, h4, h5, h6, h7, h8, h9, h10, h11, h12, h13, h14, h15, h16, h17, h18, h19, h20⟩ := hJ
            have e7 := h7 (show l 7 = true by first | exact hd.1 rfl | exact hd.2.1 rfl | exact hd.2.2.1 rfl | exact hd.2.2.2.1 rfl | exact hd.2.2.2.2.1 rfl | exact hd.2.2.2.2.2.1 rfl)
            have e11 := h11 (show l 11 = true by first | exact hd.1 rfl | exact hd.2.1 rfl | exact hd.2.2.1 rfl | exact hd.2.2.2.1 rfl | exact hd.2.2.2.2.1 rfl | exact hd.2.2.2.2.2.1 rfl)
            have c1 := kc1
            refine Runs.of (b := ?bA12) ?eA12 ?_
            case eA12 => simp only [putV, Act.put, List.setIfInBounds_toArray, List.set_cons_zero, List.set_cons_succ, e7, e11]; rfl
            intro K' hK'
            go_simp
            exact hK'.go _ rfl ⟨B17, kc0, kc1, hK, h0, h1, h2, h3, h4, h5, h6, h7, h8, h9, h10, h11, fun _ => rfl, h13, h14, h15, h16, h17, h18, h19, h20⟩
          · intro l x w' hJ hi hd
            obtain ⟨B17, kc0, kc1, hK, h0, h1, h2, h3, h4, h5, h6, h7, h8, h9, h10, h11, h12, h13, h14, h15, h16, h17, h18, h19, h20⟩ := hJ
            have e7 := h7 (show l 7 = true by first | exact hd.1 rfl | exact hd.2.1 rfl | exact hd.2.2.1 rfl | exact hd.2.2.2.1 rfl | exact hd.2.2.2.2.1 rfl | exact hd.2.2.2.2.2.1 rfl)
            refine Runs.of (b := ?bA13) ?eA13 ?_
            case eA13 => simp only [putV, Act.put, List.setIfInBounds_toArray, List.set_cons_zero, List.set_cons_succ, e7]; rfl
            intro K' hK'
            go_simp
            exact hK'.go _ rfl ⟨B17, kc0, kc1, hK, h0, h1, h2, h3, h4, h5, h6, h7, h8, h9, h10, h11, h12, fun _ => rfl, h14, h15, h16, h17, h18, h19, h20⟩
          · intro l x w' hJ hi hd
            obtain ⟨B17, kc0, kc1, hK, h0, h1, h2, h3, h4, h5, h6, h7, h8, h9, h10, h11, h12, h13, h14, h15, h16, h17, h18, h19, h20⟩ := hJ
            have e7 := h7 (show l 7 = true by first | exact hd.1 rfl | exact hd.2.1 rfl | exact hd.2.2.1 rfl | exact hd.2.2.2.1 rfl | exact hd.2.2.2.2.1 rfl | exact hd.2.2.2.2.2.1 rfl)
            have e13 := h13 (show l 13 = true by first | exact hd.1 rfl | exact hd.2.1 rfl | exact hd.2.2.1 rfl | exact hd.2.2.2.1 rfl | exact hd.2.2.2.2.1 rfl | exact hd.2.2.2.2.2.1 rfl)
            have hb2 := HB27.out
            refine Runs.of (b := ?bA14) ?eA14 ?_
            case eA14 => simp only [putV, Act.put, List.setIfInBounds_toArray, List.set_cons_zero, List.set_cons_succ, e7, e13]; rfl
            intro K' hK'
            go_simp
            exact hK'.go _ rfl ⟨B17, kc0, kc1, hK, h0, h1, h2, h3, h4, h5, h6, h7, h8, h9, h10, h11, h12, h13, fun _ => (by first | rfl | exact congrArg (Value.int .i64) HW14.out), h15, h16, h17, h18, h19, h20⟩
          · intro l x w' hJ hi hd
            obtain ⟨B17, kc0, kc1, hK, h0, h1, h2, h3, h4, h5, h6, h7, h8, h9, h10, h11, h12, h13, h14, h15, h16, h17, h18, h19, h20⟩ := hJ
            have e7 := h7 (show l 7 = true by first | exact hd.1 rfl | exact hd.2.1 rfl | exact hd.2.2.1 rfl | exact hd.2.2.2.1 rfl | exact hd.2.2.2.2.1 rfl | exact hd.2.2.2.2.2.1 rfl)
            have e14 := h14 (show l 14 = true by first | exact hd.1 rfl | exact hd.2.1 rfl | exact hd.2.2.1 rfl | exact hd.2.2.2.1 rfl | exact hd.2.2.2.2.1 rfl | exact hd.2.2.2.2.2.1 rfl)
            have hb2 := HB27.out
            refine Runs.of (b := ?bA15) ?eA15 ?_
            case eA15 => simp only [putV, Act.put, List.setIfInBounds_toArray, List.set_cons_zero, List.set_cons_succ, e7, e14]; rfl
            intro K' hK'
            go_simp
            exact hK'.go _ rfl ⟨B17, kc0, kc1, hK, h0, h1, h2, h3, h4, h5, h6, h7, h8, h9, h10, h11, h12, h13, h14, fun _ => (by first | rfl | exact congrArg (Value.int .i64) HW15.out), h16, h17, h18, h19, h20⟩
          · intro l x w' hJ hi hd
            obtain ⟨B17, kc0, kc1, hK, h0, h1, h2, h3, h4, h5, h6, h7, h8, h9, h10, h11, h12, h13, h14, h15, h16, h17, h18, h19, h20⟩ := hJ
            have e7 := h7 (show l 7 = true by first | exact hd.1 rfl | exact hd.2.1 rfl | exact hd.2.2.1 rfl | exact hd.2.2.2.1 rfl | exact hd.2.2.2.2.1 rfl | exact hd.2.2.2.2.2.1 rfl)
            have e15 := h15 (show l 15 = true by first | exact hd.1 rfl | exact hd.2.1 rfl | exact hd.2.2.1 rfl | exact hd.2.2.2.1 rfl | exact hd.2.2.2.2.1 rfl | exact hd.2.2.2.2.2.1 rfl)
            have hb2 := HB27.out
            refine Runs.of (b := ?bA16) ?eA16 ?_
            case eA16 => simp only [putV, Act.put, List.setIfInBounds_toArray, List.set_cons_zero, List.set_cons_succ, e7, e15]; rfl
            intro K' hK'
            go_simp
            exact hK'.go _ rfl ⟨B17, kc0, kc1, hK, h0, h1, h2, h3, h4, h5, h6, h7, h8, h9, h10, h11, h12, h13, h14, h15, fun _ => (by first | rfl | exact congrArg (Value.int .u8) HW16.out), h17, h18, h19, h20⟩
          · intro l x w' hJ hi hd
            obtain ⟨B17, kc0, kc1, hK, h0, h1, h2, h3, h4, h5, h6, h7, h8, h9, h10, h11, h12, h13, h14, h15, h16, h17, h18, h19, h20⟩ := hJ
            have e7 := h7 (show l 7 = true by first | exact hd.1 rfl | exact hd.2.1 rfl | exact hd.2.2.1 rfl | exact hd.2.2.2.1 rfl | exact hd.2.2.2.2.1 rfl | exact hd.2.2.2.2.2.1 rfl)
            have e16 := h16 (show l 16 = true by first | exact hd.1 rfl | exact hd.2.1 rfl | exact hd.2.2.1 rfl | exact hd.2.2.2.1 rfl | exact hd.2.2.2.2.1 rfl | exact hd.2.2.2.2.2.1 rfl)
            refine Runs.of (b := ?bA17) ?eA17 ?_
            case eA17 => simp only [putV, Act.put, List.setIfInBounds_toArray, List.set_cons_zero, List.set_cons_succ, e7, e16]; rfl
            intro K' hK'
            go_simp
            exact hK'.go _ rfl ⟨w'.heap.size, ((Keep.refl [] _).alloc _).cell1 kc0 (by simp), ((Keep.refl [] _).alloc _).cell1 kc1 (by simp), hK.alloc _, h0, h1, h2, h3, h4, h5, h6, h7, h8, h9, h10, h11, h12, h13, h14, h15, h16, fun _ => ⟨rfl, Blk.new _ [.int .u8 107, .int .u8 (97 + (b : Int))] _⟩, h18, h19, h20⟩
          · intro l x w' hJ hi hd
            obtain ⟨B17, kc0, kc1, hK, h0, h1, h2, h3, h4, h5, h6, h7, h8, h9, h10, h11, h12, h13, h14, h15, h16, h17, h18, h19, h20⟩ := hJ
            have e7 := h7 (show l 7 = true by first | exact hd.1 rfl | exact hd.2.1 rfl | exact hd.2.2.1 rfl | exact hd.2.2.2.1 rfl | exact hd.2.2.2.2.1 rfl | exact hd.2.2.2.2.2.1 rfl)
            have e17 := h17 (show l 17 = true by first | exact hd.1 rfl | exact hd.2.1 rfl | exact hd.2.2.1 rfl | exact hd.2.2.2.1 rfl | exact hd.2.2.2.2.1 rfl | exact hd.2.2.2.2.2.1 rfl)
            have hst := jkey_conv e17.2 HB27.out
            refine Runs.of (b := ?bA18) ?eA18 ?_
            case eA18 => simp only [putV, Act.put, List.setIfInBounds_toArray, List.set_cons_zero, List.set_cons_succ, e7, e17.1]; rfl
            intro K' hK'
            go_simp
            exact hK'.go _ rfl ⟨B17, kc0, kc1, hK, h0, h1, h2, h3, h4, h5, h6, h7, h8, h9, h10, h11, h12, h13, h14, h15, h16, h17, fun _ => rfl, h19, h20⟩
          · intro l x w' hJ hi hd
            obtain ⟨B17, kc0, kc1, hK, h0, h1, h2, h3, h4, h5, h6, h7, h8, h9, h10, h11, h12, h13, h14, h15, h16, h17, h18, h19, h20⟩ := hJ
            have e7 := h7 (show l 7 = true by first | exact hd.1 rfl | exact hd.2.1 rfl | exact hd.2.2.1 rfl | exact hd.2.2.2.1 rfl | exact hd.2.2.2.2.1 rfl | exact hd.2.2.2.2.2.1 rfl)
            have e12 := h12 (show l 12 = true by first | exact hd.1 rfl | exact hd.2.1 rfl | exact hd.2.2.1 rfl | exact hd.2.2.2.1 rfl | exact hd.2.2.2.2.1 rfl | exact hd.2.2.2.2.2.1 rfl)
            have e18 := h18 (show l 18 = true by first | exact hd.1 rfl | exact hd.2.1 rfl | exact hd.2.2.1 rfl | exact hd.2.2.2.1 rfl | exact hd.2.2.2.2.1 rfl | exact hd.2.2.2.2.2.1 rfl)
            refine Runs.of (b := ?bA19) ?eA19 ?_
            case eA19 => simp only [putV, Act.put, List.setIfInBounds_toArray, List.set_cons_zero, List.set_cons_succ, e7, e12, e18]; rfl
            intro K' hK'
            go_simp
            exact hK'.go _ rfl ⟨B17, kc0, kc1, hK, h0, h1, h2, h3, h4, h5, h6, h7, h8, h9, h10, h11, h12, h13, h14, h15, h16, h17, h18, fun _ => (by first | rfl | simp), h20⟩
          · intro l x w' hJ hi hd
            obtain ⟨B17, kc0, kc1, hK, h0, h1, h2, h3, h4, h5, h6, h7, h8, h9, h10, h11, h12, h13, h14, h15, h16, h17, h18, h19, h20⟩ := hJ
            have e7 := h7 (show l 7 = true by first | exact hd.1 rfl | exact hd.2.1 rfl | exact hd.2.2.1 rfl | exact hd.2.2.2.1 rfl | exact hd.2.2.2.2.1 rfl | exact hd.2.2.2.2.2.1 rfl)
            have e19 := h19 (show l 19 = true by first | exact hd.1 rfl | exact hd.2.1 rfl | exact hd.2.2.1 rfl | exact hd.2.2.2.1 rfl | exact hd.2.2.2.2.1 rfl | exact hd.2.2.2.2.2.1 rfl)
            refine Runs.of (b := ?bA20) ?eA20 ?_
            case eA20 => simp only [putV, Act.put, List.setIfInBounds_toArray, List.set_cons_zero, List.set_cons_succ, e7, e19]; rfl
            intro K' hK'
            go_simp
            exact hK'.go _ rfl ⟨B17, kc0, kc1, hK, h0, h1, h2, h3, h4, h5, h6, h7, h8, h9, h10, h11, h12, h13, h14, h15, h16, h17, h18, h19, fun _ => rfl⟩
          · intro l x w3 hJ hl
            obtain ⟨B17, kc0, kc1, hK, h0, h1, h2, h3, h4, h5, h6, h7, h8, h9, h10, h11, h12, h13, h14, h15, h16, h17, h18, h19, h20⟩ := hJ
            have e20 := h20 (hl 20 (by decide))
            simp only [putV, Act.put, List.setIfInBounds_toArray, List.set_cons_zero, List.set_cons_succ, e20]
            have HK9 := Lib.hid (HKY.out.trans hK)
            clear h0 h1 h2 h3 h4 h5 h6 h7 h8 h9 h10 h11 h12 h13 h14 h15 h16 h17 h18 h19 h20 kc0 kc1 hK hl e20
            generalize w3 = wz at *
            go_wp2_with fail
            go_roundw
            case rel => exact ⟨i + 1, by go_num, by rw [HBI.out]; go_num, by have := HIR.out; omega, HK9.out⟩
            case measure => simp only [intOf]; have := HIR.out; omega
        · obtain rfl : r = i := by omega
          have q2 : decide ((r : Int) < (r : Int)) = false := by simp
          go_wp2_with fail
          go_roundw
          case rel => exact ⟨a + r, by rw [HBI.out], by omega, HJ6.out.still HKY.out⟩
          case measure => simp only [intOf]; omega
      · obtain rfl : nn = a := by omega
        have q0 : decide ((nn : Int) < (nn : Int)) = false := by simp
        have HS1 := Lib.hid (HJX.out.since nn pp ⟨by omega, by rw [HML.out]; omega⟩)
        have HNIL : Hid (sinceK M (nn : Int) (pp : Int) = []) := Lib.hid (by rw [HSK.out nn, List.drop_of_length_le (by rw [HML.out]; omega), List.take_nil])
        rw [HNIL.out] at HS1
        go_wp2_with fail
        refine HS1.out.mono ?_
        rintro e w6 ⟨v6, rfl, hR6, hK6⟩
        obtain ⟨xa, xc, rfl⟩ := hR6.slice
        rw [show ([] : List Mk).length = 0 from rfl]
        have HK6 := Lib.hid (HJX.out.keep.trans hK6)
        have HS2 := Lib.hid ((HJX.out.still hK6).sinceBad ((nn : Int) + 1) pp (.inr (by rw [HML.out]; omega)))
        clear hR6 hK6 HS1 q0
        go_wp2_with fail
        refine HS2.out.mono ?_
        rintro e w7 ⟨rfl, hK7⟩
        have HK7 := Lib.hid (HK6.out.trans hK7)
        clear hK7
        go_wp2_with fail
        go_ret
        exact ⟨rfl, HK7.out.below⟩
end Go.Proofs.Ytpibpapolcdeiaa
