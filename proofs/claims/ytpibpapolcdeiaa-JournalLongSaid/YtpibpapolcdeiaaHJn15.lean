/- journal: the law JournalLong: its walk. -/
import Derived.Test.YtpibpapolcdeiaaG10
namespace Go.Proofs.Ytpibpapolcdeiaa
open Go.ChangeShapes Go.WideShapes Go.ChangeAt Go.RowKit
set_option linter.unusedVariables false
set_option linter.unusedSimpArgs false
set_option maxRecDepth 100000

def lkey (k : Nat) : List Nat := [97 + k % 26, 97 + k / 26]
theorem lkey_lt (k : Nat) (h : k ≤ 160) : ∀ c ∈ lkey k, c < 256 := by
  intro c hc
  simp only [lkey, List.mem_cons, List.not_mem_nil, or_false] at hc
  have := Nat.mod_lt k (show 26 > 0 by decide)
  have : k / 26 ≤ 6 := by omega
  omega
theorem kb_toStr (l : List Nat) (h : ∀ c ∈ l, c < 256) : kb (toStr l) = l := by
  refine toStr_inj (jsb_byte _) h ?_
  exact jtoStr_sb (toStr l)
theorem lkey_kb (k : Nat) (h : k ≤ 160) : kb (toStr (lkey k)) = lkey k := kb_toStr _ (lkey_lt k h)
theorem JS.later {w0 w : World} {d sb jb frm t t' : Nat} {L : List Sec} {M : List Mk} (h : JS w0 w d sb jb frm t L M) (ht : t ≤ t') : JS w0 w d sb jb frm t' L M := by
  obtain ⟨B, lb, vl, v, l, c, h1, h2, h3, h4⟩ := h.ex
  exact ⟨⟨B, lb, vl, v, l, c, h1.later ht, h2, by omega, h4⟩, h.room, h.dl, h.keep⟩
theorem zero_flush (n : Nat) : ∃ L0 : List Sec, List.replicate n zeroSec = L0.map flushSec := ⟨List.replicate n zeroSec, by simp [flushSec, zeroSec]⟩
theorem sinceK_drop' (M : List Mk) (a p : Nat) (h : ∀ i y, M[i]? = some y → y.seq = i + 1) : sinceK M (a : Int) (p : Int) = (M.drop a).take p := by
  unfold sinceK
  rw [Int.toNat_natCast]
  congr 1
  have e : ∀ (M : List Mk) (o : Nat), (∀ i y, M[i]? = some y → y.seq = o + i + 1) → M.filter (fun m => decide ((a : Int) < (m.seq : Int))) = M.drop (a - o) := by
    intro M
    induction M with
    | nil => intro o _; simp
    | cons x M ih =>
      intro o ho
      have hx := ho 0 x rfl
      have ih2 := ih (o + 1) (fun i y hy => by have := ho (i + 1) y (by simpa using hy); omega)
      by_cases hc : (a : Int) < (x.seq : Int)
      · rw [List.filter_cons_of_pos (by simpa using hc), ih2, show a - (o + 1) = 0 by omega, show a - o = 0 by omega]
        rfl
      · rw [List.filter_cons_of_neg (by simpa using hc), ih2]
        obtain ⟨k, hk⟩ : ∃ k, a - o = k + 1 := ⟨a - o - 1, by omega⟩
        rw [hk, List.drop_succ_cons]
        congr 1
        omega
  have := e M 0 (fun i y hy => by rw [h i y hy]; omega)
  simpa using this
theorem row_ty {w : World} {base : Nat} {E : TypeId} {sz : Nat} {v : Value} {n : Nat} {vs : List Value} (h : w.ownsRow base E sz v n vs) : ∀ k, v.ownBlock = some k → Ty w k E := by
  intro k hk
  rcases h.2 with ⟨rfl, _⟩ | ⟨g, cap, cur, rfl, _, hg, _⟩
  · cases hk
  · cases hk; exact ⟨_, _, hg⟩
theorem row_keep {w w' : World} {base : Nat} {E : TypeId} {sz : Nat} {v : Value} {n : Nat} {vs : List Value} {S : List Nat} (h : w.ownsRow base E sz v n vs) (k : Keep S w w') (hS : ∀ b, v.ownBlock = some b → b ∉ S) : w'.ownsRow base E sz v n vs := by
  refine ⟨h.1, ?_⟩
  rcases h.2 with h2 | ⟨g, cap, cur, rfl, hb, hg, r⟩
  · exact .inl h2
  · exact .inr ⟨g, cap, cur, rfl, hb, by rw [k.block g (Array.getElem?_eq_some_iff.1 hg).1 (hS g rfl)]; exact hg, r⟩
/-- The keys from i on, m of them. -/
def lkeys (i m : Nat) : List ByteArray := (List.range m).map (fun x => toStr (lkey (i + x)))
theorem lkeys_len (i m : Nat) : (lkeys i m).length = m := by simp [lkeys]
theorem lkeys_succ (i m : Nat) : lkeys i (m + 1) = lkeys i m ++ [toStr (lkey (i + m))] := by simp [lkeys, List.range_succ]
theorem lkeys_cost (i m : Nat) : keysCost (lkeys i m) = 12 * m := by
  induction m with
  | zero => rfl
  | succ m ih =>
    rw [lkeys_succ]
    unfold keysCost at *
    rw [List.map_append, List.sum_append, ih]
    simp [keyCost, lkey]
    omega
theorem lkeys_ok (i m : Nat) : ∀ k ∈ lkeys i m, 1 ≤ k.size ∧ k.size ≤ 40 := by
  intro k hk
  obtain ⟨x, _, rfl⟩ := List.mem_map.1 hk
  rw [toStr_size]
  simp [lkey]
theorem lkeys_kb (i m : Nat) (h : i + m ≤ 160) : (lkeys i m).map kb = (List.range m).map (fun x => lkey (i + x)) := by
  unfold lkeys
  rw [List.map_map]
  apply List.map_congr_left
  intro x hx
  have := List.mem_range.1 hx
  exact lkey_kb _ (by omega)
theorem lkeys_join (i m : Nat) : (List.range i).map lkey ++ (List.range m).map (fun x => lkey (i + x)) = (List.range (i + m)).map lkey := by
  rw [List.range_add, List.map_append, List.map_map]
  rfl
theorem lkey_conv {w : World} {b k : Nat} (h : Blk w b [.int .u8 (97 + (k : Int) % 26), .int .u8 (97 + (k : Int) / 26)] 5) (hk : k ≤ 149) : (convert 30 9 (.slice (some ⟨b, 0, none⟩) 2 2)).run Try.prog w = .ok (.string (toStr (lkey k))) w := by
  have hc : [Value.int .u8 (97 + (k : Int) % 26), Value.int .u8 (97 + (k : Int) / 26)] = bcs (lkey k) := by
    unfold lkey bcs bc
    simp only [List.map_cons, List.map_nil]
    rw [Int.natCast_add, Int.natCast_add, Int.natCast_emod, Int.natCast_ediv]
    rfl
  rw [hc] at h
  exact Rd.str (P := Try.prog) (rv_blk h (by simp [bcs, lkey])) (lkey_lt k (by omega)) Try.underlying30 Try.underlying5 (dst := 9) Try.underlying9
def lonJ32 (wr : World) (g gc r j b : Nat) (l : Nat → Bool) (x : Nat → Value) (w' : World) : Prop :=
  ∃ B22, (w'.cell? ⟨g, j * 2, none⟩ = some (.int .i64 ((b : Int) + 1))) ∧
  (w'.cell? ⟨g, j * 2 + 1, none⟩ = some (.string (toStr (lkey b)))) ∧
  (Keep [] wr w') ∧
  (l 0 = true → x 0 = .slice (some ⟨g, 0, none⟩) r gc) ∧
  (l 1 = true → x 1 = .int .i64 (j : Int)) ∧
  (l 2 = true → x 2 = .pointer (some ⟨g, j * 2, none⟩)) ∧
  (l 3 = true → x 3 = .pointer (some ⟨g, j * 2, none⟩)) ∧
  (l 4 = true → x 4 = .int .i64 ((b : Int) + 1)) ∧
  (l 5 = true → x 5 = .int .i64 (b : Int)) ∧
  (l 6 = true → x 6 = .int .i64 ((b : Int) + 1)) ∧
  (l 7 = true → x 7 = .bool false) ∧
  (l 8 = true → x 8 = .bool false) ∧
  (l 9 = true → x 9 = .slice (some ⟨g, 0, none⟩) r gc) ∧
  (l 10 = true → x 10 = .int .i64 (j : Int)) ∧
  (l 11 = true → x 11 = .pointer (some ⟨g, j * 2, none⟩)) ∧
  (l 12 = true → x 12 = .pointer (some ⟨g, j * 2 + 1, none⟩)) ∧
  (l 13 = true → x 13 = .string (toStr (lkey b))) ∧
  (l 14 = true → x 14 = .int .i64 (b : Int)) ∧
  (l 15 = true → x 15 = .int .i64 ((b : Int) % 26)) ∧
  (l 16 = true → x 16 = .int .i64 (97 + (b : Int) % 26)) ∧
  (l 17 = true → x 17 = .int .u8 (97 + (b : Int) % 26)) ∧
  (l 18 = true → x 18 = .int .i64 (b : Int)) ∧
  (l 19 = true → x 19 = .int .i64 ((b : Int) / 26)) ∧
  (l 20 = true → x 20 = .int .i64 (97 + (b : Int) / 26)) ∧
  (l 21 = true → x 21 = .int .u8 (97 + (b : Int) / 26)) ∧
  (l 22 = true → x 22 = .slice (some ⟨B22, 0, none⟩) 2 2 ∧ Blk w' B22 [.int .u8 (97 + (b : Int) % 26), .int .u8 (97 + (b : Int) / 26)] 5) ∧
  (l 23 = true → x 23 = .string (toStr (lkey b))) ∧
  (l 24 = true → x 24 = .bool false) ∧
  (l 25 = true → x 25 = .bool false)
set_option maxRecDepth 100000 in
set_option maxHeartbeats 16000000 in
theorem journalLong_walk (n per : Int) (op : Bool) (w : World) (w0 : (Lit.int .i64 n).wf = true) (w1 : (Lit.int .i64 per).wf = true) :
    Calls Try.prog 3 #[.int .i64 n, .int .i64 per, .bool op] w fun e w' => e = .returned (.bool true) ∧ Below w.heap.size w w' := by
  obtain ⟨iS, hiS, hzS0, hzS1, hzS2⟩ := info_parts Try.infoS
  go_enter Try.func3, Try.ntmps3
  go_wp2_with fail
  refine (begun10 _).mono ?_
  rintro e wb ⟨rfl, hKb⟩
  have HKB := Lib.hid hKb
  clear hKb
  by_cases hbad : n < 1 ∨ 150 < n ∨ per < 1 ∨ 8 < per
  · have HBAD := Lib.hid hbad
    go_upto_region 4 with fail
    go_cut [38] (fun s wc => s = .bool true ∧ wb = wc)
    case first =>
      by_cases q0 : n < 1
      · go_wp2_with fail
        go_meet
        exact ⟨by simp [q0], rfl⟩
      · by_cases q1 : n > 150
        · go_wp2_with fail
          go_meet
          exact ⟨by have := HBAD.out; first | (simp; done) | (simp; omega), rfl⟩
        · by_cases q2 : per < 1
          · go_wp2_with fail
            go_meet
            exact ⟨by have := HBAD.out; first | (simp; done) | (simp; omega), rfl⟩
          · go_wp2_with fail
            go_meet
            exact ⟨by have := HBAD.out; first | (simp; done) | (simp; omega), rfl⟩
    case rest =>
    obtain ⟨rfl, rfl⟩ := hcut
    go_wp2_with fail
    go_ret
    exact ⟨rfl, HKB.out.below⟩
  · obtain ⟨nn, rfl⟩ : ∃ k : Nat, n = k := ⟨n.toNat, by omega⟩
    obtain ⟨pp, rfl⟩ : ∃ k : Nat, per = k := ⟨per.toNat, by omega⟩
    have hnn : 1 ≤ nn ∧ nn ≤ 150 := by omega
    have hpp : 1 ≤ pp ∧ pp ≤ 8 := by omega
    have q1 : ¬ ((nn : Int) < 1) := by omega
    have q2 : ¬ ((nn : Int) > 150) := by omega
    have q3 : ¬ ((pp : Int) < 1) := by omega
    have q4 : ¬ ((pp : Int) > 8) := by omega
    clear hbad
    go_upto_region 4 with fail
    go_cut [38] (fun s wc => s = .bool false ∧ wb = wc)
    case first =>
      go_wp2_with fail
      go_meet
      exact ⟨by simp; omega, rfl⟩
    case rest =>
    obtain ⟨rfl, rfl⟩ := hcut
    clear q1 q2 q3 q4
    go_wp2_with fail
    refine (New_any 160 160 rfl).mono ?_
    rintro e w2 ⟨d, sb, rfl, hD2, hK2, hb, hsb⟩
    have hws := HKB.out.size
    have HO := Lib.hid (JS.open_dev (HKB.out.trans hK2) hD2 (Nat.zero_le _) (JDev.new 160 0 (by decide)) (by decide) (by simp) ⟨by omega, by omega⟩)
    clear hD2 hK2 hb hsb hws
    go_wp2_with fail
    refine HO.out.mono ?_
    rintro e w3 ⟨jb, rfl, hJ3, hK3, _⟩
    have HJ3 := Lib.hid hJ3
    clear hJ3 hK3 HO
    go_wp2_with fail
    go_loopw [11] (fun s11 wr => ∃ (i T : Nat) (L : List Sec) (M : List Mk), s11 = .int .i64 (i : Int) ∧ i ≤ nn + 8 ∧ T ≤ 71 + 25 * i ∧ JS w wr d sb jb 0 T L M ∧ L.length = 160 ∧ (∃ L0 : List Sec, L = L0.map flushSec) ∧ M.map Mk.key = (List.range (min nn i)).map lkey ∧ encN (M.map recOf) ≤ 12 * min nn i) (fun x _ => nn + 20 - (intOf x).toNat)
    case atStart => exact ⟨0, 71, _, [], rfl, Nat.zero_le _, Nat.le_refl _, HJ3.out, by simp, zero_flush _, by simp, by rw [Nat.min_zero]; decide⟩
    case round =>
    obtain ⟨i, T, L, M, rfl, hi, hT, hJ, hLl, hfl, hM, hC⟩ := hrel
    have HJ := Lib.hid hJ
    have HM := Lib.hid hM
    have HC := Lib.hid hC
    have HLL := Lib.hid hLl
    have HFL := Lib.hid hfl
    have HTT := Lib.hid hT
    clear hJ hM hC HJ3 hLl hfl hT
    by_cases hlt : i < nn
    · have q0 : decide ((i : Int) < (nn : Int)) = true := decide_eq_true (by omega)
      have HMI : Hid (min nn i = i) := Lib.hid (by omega)
      rw [HMI.out] at HM HC
      have HML : Hid (M.length = i) := Lib.hid (by
        have := congrArg List.length HM.out
        simpa using this)
      go_wp2_with fail
      clear q0
      rename World => wo
      go_loopw [13, 12] (fun s13 s12 wx => ∃ m k : Nat, s13 = .int .i64 (k : Int) ∧ k = i + m ∧ i + m ≤ nn ∧ m ≤ pp ∧ wx.ownsRow wo.heap.size 9 1 s12 m (strs (lkeys i m)) ∧ Keep [] wo wx) (fun x _ _ => nn + 20 - (intOf x).toNat)
      case atStart => exact ⟨0, i, rfl, rfl, by omega, by omega, World.ownsRow_nil _ _ _ _, Keep.refl _ _⟩
      case round =>
      obtain ⟨m, k, rfl, hk, hm, hmp, hR, hKx⟩ := hrel
      obtain ⟨va, vc, rfl⟩ := ownsRow_slice hR
      have HR := Lib.hid hR
      have HKX := Lib.hid hKx
      have HKI := Lib.hid hk
      clear hKx hR
      by_cases hin : k < nn ∧ m < pp
      · have q1 : ((k : Int) < (nn : Int)) := by omega
        have q2 : ((k : Int) < (i : Int) + (pp : Int)) := by omega
        have q3 : k < i + pp := by omega
        have hk2 : k < nn := hin.1
        have hk150 : k ≤ 149 := by omega
        clear hin hk
        have hcells : (bcs (lkey k)).toArray = #[.int .u8 (97 + (k : Int) % 26), .int .u8 (97 + (k : Int) / 26)] := by
          unfold lkey bcs bc
          simp only [List.map_cons, List.map_nil]
          rw [Int.natCast_add, Int.natCast_add, Int.natCast_emod, Int.natCast_ediv]
          rfl
        have hconv : (convert 30 9 (.slice (some ⟨wr.heap.size, 0, none⟩) 2 2)).run Try.prog (wr.alloc (.cells #[.int .u8 (97 + (k : Int) % 26), .int .u8 (97 + (k : Int) / 26)] 5)) = .ok (.string (toStr (lkey k))) (wr.alloc (.cells #[.int .u8 (97 + (k : Int) % 26), .int .u8 (97 + (k : Int) / 26)] 5)) := by
          have h := u8s_rd wr (lkey k) wr.heap.size rfl (0, 0)
          rw [hcells] at h
          exact Rd.str (P := Try.prog) h (lkey_lt k (by omega)) Try.underlying30 Try.underlying5 (dst := 9) Try.underlying9
        have HKA := Lib.hid ((Keep.refl [] wr).alloc (.cells #[.int .u8 (97 + (k : Int) % 26), .int .u8 (97 + (k : Int) / 26)] 5))
        have HCV := Lib.hid hconv
        obtain ⟨kt, hkt⟩ : ∃ kt, kt = toStr (lkey k) := ⟨_, rfl⟩
        rw [← hkt] at HCV
        have HKT := Lib.hid hkt
        obtain ⟨wq, hwq⟩ : ∃ wq, wq = wr.alloc (.cells #[.int .u8 (97 + (k : Int) % 26), .int .u8 (97 + (k : Int) / 26)] 5) := ⟨_, rfl⟩
        have hsz : wq.heap.size = wr.heap.size + 1 := by rw [hwq]; exact Array.size_push _
        have hAB : Blk (wq.alloc (.cells #[.string kt] 9)) wq.heap.size [.string kt] 9 := Blk.new wq [.string kt] _
        have HSRC : Hid (Src Try.prog 1 29 (.slice (some ⟨wr.heap.size + 1, 0, none⟩) 1 1) 1 [.string kt] ((wr.alloc (.cells #[.int .u8 (97 + (k : Int) % 26), .int .u8 (97 + (k : Int) / 26)] 5)).alloc (.cells #[.string kt] 9))) := Lib.hid (by
          rw [← hsz, ← hwq]
          exact src_at Try.underlying29 _ _ _ (hAB.cell 0) rfl)
        have HKAB : Hid (Keep [] wr ((wr.alloc (.cells #[.int .u8 (97 + (k : Int) % 26), .int .u8 (97 + (k : Int) / 26)] 5)).alloc (.cells #[.string kt] 9))) := Lib.hid (by
          rw [← hwq]
          exact (by rw [hwq]; exact HKA.out : Keep [] wr wq).trans ((Keep.refl [] wq).alloc _))
        have hcv := HCV.out
        clear hconv hcells hkt hwq hsz hAB
        go_upto_region 17 with fail
        have hBase : wo.heap.size ≤ wr.heap.size := HKX.out.size
        have hsize := HKAB.out.size
        have hm30 : m ≤ 150 := by omega
        go_wp2_with (at_builtin; refine wpList_append_src _ rfl _ _ 29 29 rfl wo.heap.size 9 iS _ 1 16 Try.underlying29 hiS hzS0 hzS1 hzS2 rfl (by decide) (.slice va m vc) m (strs (lkeys i m)) rfl (row_keep HR.out HKAB.out (by simp)) _ 1 _ rfl HSRC.out (by unfold maxLen; omega) (by omega) (by omega) ?_; intro v2 w2 g2 g3 _ g4; obtain ⟨v2a, v2c, rfl⟩ := ownsRow_slice g2)
        have hr2 : w2.ownsRow wo.heap.size 9 1 (.slice v2a (m + 1) v2c) (m + 1) (strs (lkeys i (m + 1))) := by
          rw [lkeys_succ, ← HKI.out, ← HKT.out]
          have e : strs (lkeys i m ++ [kt]) = strs (lkeys i m) ++ [.string kt] := by simp [strs]
          rw [e]
          exact g2
        have hk2x : Keep [] wo w2 := (HKX.out.trans HKAB.out).then (Keep.grown g3) (fun x hx hlt => by
          have hlo := (World.ownsRow.lt HR.out x (Option.mem_toList.1 hx)).1
          omega)
        have HR2 := Lib.hid hr2
        have HK2X := Lib.hid hk2x
        clear g2 g3 g4 hr2 hk2x hcv hBase hsize
        go_roundw
        case rel => exact ⟨m + 1, k + 1, by go_num, by have := HKI.out; omega, by have := HKI.out; omega, by have := HKI.out; omega, HR2.out, HK2X.out⟩
        case measure => simp only [intOf]; omega
      · have hstop : m = min nn (i + pp) - i := by omega
        have HKM : Hid (k = min nn (i + pp)) := Lib.hid (by omega)
        have HMM := Lib.hid hstop
        have hfalse : (decide ((k : Int) < (nn : Int)) && decide ((k : Int) < (i : Int) + (pp : Int))) = false := by
          by_cases h : k < nn
          · rw [decide_eq_false (show ¬ ((k : Int) < (i : Int) + (pp : Int)) by omega), Bool.and_false]
          · rw [decide_eq_false (show ¬ ((k : Int) < (nn : Int)) by omega), Bool.false_and]
        clear hin hk hstop
        go_upto_region 15 with fail
        go_cut [63] (fun s wc => s = .bool false ∧ wr = wc)
        case first =>
          by_cases h : k < nn
          · have q1 : (k : Int) < (nn : Int) := by omega
            have q2 : ¬ ((k : Int) < (i : Int) + (pp : Int)) := by have := HKM.out; omega
            go_wp2_with fail
            go_meet
            exact ⟨by first | (simp; done) | (simp; omega), rfl⟩
          · have q1 : ¬ (k : Int) < (nn : Int) := by omega
            go_wp2_with fail
            go_meet
            exact ⟨by first | (simp; done) | (simp; omega), rfl⟩
        case rest =>
        obtain ⟨rfl, rfl⟩ := hcut
        clear hfalse
        have HADD := Lib.hid ((HJ.out.still HKX.out).add (by have := HTT.out; omega) (.slice va m vc) (lkeys i m) (by rw [lkeys_len]; exact ownsRow_rv HR.out) (lkeys_ok i m) (fun q hq => .inl (row_ty HR.out q hq)) (by rw [lkeys_cost]; have := HC.out; have := HMM.out; omega))
        have HRES : Hid (((M.length + (lkeys i m).length : Nat) : Int) = ((min nn (i + pp) : Nat) : Int)) := Lib.hid (by rw [HML.out, lkeys_len]; have := HMM.out; omega)
        rw [HRES.out] at HADD
        obtain ⟨e9, he9⟩ : ∃ e9, e9 = min nn (i + pp) := ⟨_, rfl⟩
        rw [← he9] at HADD
        have HE9 := Lib.hid he9
        clear he9
        go_wp2_with fail
        refine HADD.out.mono ?_
        rintro e w5 ⟨L5, N, rfl, hJ5, hl5, hN5, hc5, hf5, _⟩
        have HR5 : Hid (∃ (T : Nat) (L : List Sec) (M : List Mk), T ≤ 71 + 25 * (i + pp) ∧ JS w w5 d sb jb 0 T L M ∧ L.length = 160 ∧ (∃ L0 : List Sec, L = L0.map flushSec) ∧ M.map Mk.key = (List.range (min nn (i + pp))).map lkey ∧ encN (M.map recOf) ≤ 12 * min nn (i + pp)) := Lib.hid (by
          have hmm := HMM.out
          have h1 := HTT.out
          have h2 := HLL.out
          have h3 := HC.out
          refine ⟨_, L5, M ++ N, ?_, hJ5, by rw [hl5, h2], hf5 (by rw [lkeys_len]; omega), ?_, ?_⟩
          · rw [lkeys_len]; omega
          · rw [List.map_append, HM.out, hN5, lkeys_kb i m (by omega), lkeys_join, show i + m = min nn (i + pp) by omega]
          · rw [lkeys_cost] at hc5; omega)
        clear hJ5 hl5 hN5 hc5 hf5 HADD
        go_upto_region 19 with fail
        go_cut [95] (fun s wc => s = .bool false ∧ w5 = wc)
        case first =>
          have he := HE9.out
          rcases Nat.lt_trichotomy nn (i + pp) with h | h | h
          · obtain rfl : e9 = nn := by omega
            have q1 : (e9 : Int) < (i : Int) + (pp : Int) := by omega
            clear he
            go_wp2_with fail
            go_meet
            exact ⟨by first | rfl | (simp; done) | (simp; omega), rfl⟩
          · obtain rfl : nn = i + pp := h
            obtain rfl : e9 = i + pp := by omega
            clear he
            go_wp2_with fail
            go_meet
            exact ⟨by first | rfl | (simp; done) | (simp; omega), rfl⟩
          · obtain rfl : e9 = i + pp := by omega
            have q1 : (i : Int) + (pp : Int) < (nn : Int) := by omega
            clear he
            go_wp2_with fail
            go_meet
            exact ⟨by first | rfl | (simp; done) | (simp; omega), rfl⟩
        case rest =>
        obtain ⟨rfl, rfl⟩ := hcut
        go_wp2_with fail
        go_roundw
        case rel =>
          obtain ⟨T5, L5, M5, h1, h2, h3⟩ := HR5.out
          exact ⟨i + pp, T5, L5, M5, by go_num, by omega, h1, h2, h3⟩
        case measure => simp only [intOf]; omega
    · have q0 : ¬ ((i : Int) < (nn : Int)) := by omega
      have HMI : Hid (min nn i = nn) := Lib.hid (by omega)
      rw [HMI.out] at HM HC
      have HML : Hid (M.length = nn) := Lib.hid (by
        have := congrArg List.length HM.out
        simpa using this)
      have HAT : Hid (∀ b y, M[b]? = some y → y.seq = b + 1 ∧ y.key = lkey b) := Lib.hid (fun b y hy => by
        refine ⟨HJ.out.seq_at b y hy, ?_⟩
        have h1 := congrArg (fun l => l[b]?) HM.out
        have hb := (List.getElem?_eq_some_iff.1 hy).1
        rw [HML.out] at hb
        simp only [List.getElem?_map, hy, Option.map_some] at h1
        rw [List.getElem?_range hb] at h1
        injection h1)
      have hi200 : i ≤ 160 := by omega
      have HI200 := Lib.hid hi200
      go_upto_if 96 with fail
      clear q0 hlt hi
      go_cut [9] (fun s wc => ∃ (jb' d' sb' T' : Nat) (L' : List Sec), s = .pointer (some ⟨jb', 0, none⟩) ∧ JS w wc d' sb' jb' 0 T' L' M)
      case first =>
        cases op
        · go_wp2_with fail
          go_meet
          exact ⟨jb, d, sb, T, L, rfl, HJ.out⟩
        · obtain ⟨c4, hD4, hc4⟩ := HJ.out.dev
          have HCR := Lib.hid (Crash_any hD4 (.slice none 0 0) [] (Rv.nil _ _) (by decide))
          clear hD4 hc4
          go_wp2_with fail
          refine HCR.out.mono ?_
          rintro e w5 ⟨d5, sb5, rfl, hD5, hK5, hd5, hsb5⟩
          have hws := HJ.out.keep.size
          have HO5 := Lib.hid (JS.open_dev (HJ.out.keep.trans hK5) hD5 (Nat.zero_le _) (HJ.out.jdev.crash HFL.out [] (by rw [HLL.out]; decide)) (by have := HTT.out; have := HI200.out; omega) (by rw [crashN_len, HLL.out]; decide) ⟨by omega, by omega⟩)
          clear hD5 hK5 hd5 hsb5 HCR hws
          go_wp2_with fail
          refine HO5.out.mono ?_
          rintro e w6 ⟨jb6, rfl, hJ6, hK6, _⟩
          have HJ6 := Lib.hid hJ6
          clear hJ6 hK6 HO5
          go_wp2_with fail
          go_meet
          exact ⟨jb6, d5, sb5, _, _, rfl, HJ6.out⟩
      case rest =>
      obtain ⟨jb', d', sb', T', L', rfl, hJ⟩ := hcut
      rename World => wj
      have HJJ := Lib.hid hJ
      obtain ⟨R, hR⟩ : ∃ R, R = M.drop (nn - 28) := ⟨_, rfl⟩
      have hRl : R.length = min nn 28 := by rw [hR, List.length_drop, HML.out]; omega
      have HRAT : Hid (∀ i y, R[i]? = some y → M[nn - 28 + i]? = some y) := Lib.hid (fun i y hy => by
        rw [hR, List.getElem?_drop] at hy; exact hy)
      have HSIN : Hid (∀ s : Int, s = ((nn - 28 : Nat) : Int) → Calls Try.prog 12 #[.pointer (some ⟨jb', 0, none⟩), .int .i64 s, .int .i64 50] wj fun e w' => ∃ v', e = .returned (.tuple #[v', .bool true]) ∧ KRow w' wj.heap.size v' R ∧ Keep [] wj w') := Lib.hid (fun s hs => by
        subst hs
        have h := HJJ.out.since ((nn - 28 : Nat) : Int) 50 ⟨by omega, by rw [HML.out]; omega⟩
        rw [show ((50 : Int)) = ((50 : Nat) : Int) from rfl, sinceK_drop' M (nn - 28) 50 HJJ.out.seq_at, List.take_of_length_le (by rw [List.length_drop, HML.out]; omega), ← hR] at h
        exact h)
      obtain ⟨r, hr⟩ : ∃ r, r = R.length := ⟨_, rfl⟩
      have hr1 : r = min nn 28 := by omega
      have HRR := Lib.hid hr
      have HR1 := Lib.hid hr1
      clear hJ hR hRl hr hr1
      go_upto_region 25 with fail
      go_cut [16, 17] (fun s16 s17 wc => ∃ (g gc : Nat), s16 = .slice (some ⟨g, 0, none⟩) r gc ∧ s17 = .bool true ∧ KRow wc wj.heap.size s16 R ∧ Keep [] wj wc)
      case first =>
        have hfin : ∀ (v' : Value) (wc : World), KRow wc wj.heap.size v' R → ∃ g gc : Nat, v' = .slice (some ⟨g, 0, none⟩) r gc := fun v' wc h => by
          obtain ⟨g, gc, hg, _⟩ := h.at_ (by rw [← HRR.out, HR1.out]; omega)
          exact ⟨g, gc, by rw [HRR.out]; exact hg⟩
        have HFIN := Lib.hid hfin
        clear hfin
        rcases Nat.lt_trichotomy nn 28 with h | h | h
        · have q1 : (nn : Int) - 28 < 0 := by omega
          have HQ := Lib.hid h
          go_wp2_with fail
          refine (HSIN.out _ (by have := HQ.out; omega)).mono ?_
          rintro e w6 ⟨v6, rfl, hR6, hK6⟩
          obtain ⟨g, gc, rfl⟩ := HFIN.out _ _ hR6
          have HRK := Lib.hid (And.intro hR6 hK6)
          clear hR6 hK6
          go_wp2_with fail
          go_meet
          exact ⟨g, gc, rfl, rfl, HRK.out⟩
        · obtain rfl : nn = 28 := h
          go_wp2_with fail
          refine (HSIN.out _ (by omega)).mono ?_
          rintro e w6 ⟨v6, rfl, hR6, hK6⟩
          obtain ⟨g, gc, rfl⟩ := HFIN.out _ _ hR6
          have HRK := Lib.hid (And.intro hR6 hK6)
          clear hR6 hK6
          go_wp2_with fail
          go_meet
          exact ⟨g, gc, rfl, rfl, HRK.out⟩
        · have q1 : 0 < (nn : Int) - 28 := by omega
          have HQ := Lib.hid h
          go_wp2_with fail
          refine (HSIN.out _ (by have := HQ.out; omega)).mono ?_
          rintro e w6 ⟨v6, rfl, hR6, hK6⟩
          obtain ⟨g, gc, rfl⟩ := HFIN.out _ _ hR6
          have HRK := Lib.hid (And.intro hR6 hK6)
          clear hR6 hK6
          go_wp2_with fail
          go_meet
          exact ⟨g, gc, rfl, rfl, HRK.out⟩
      case rest =>
      obtain ⟨g, gc, rfl, rfl, hR6, hK6⟩ := hcut
      rename World => w6
      have HR6 := Lib.hid hR6
      have HJ6 := Lib.hid (HJJ.out.still hK6)
      clear hR6 hK6
      have HSEQ := Lib.hid HJ6.out.seq
      rw [HML.out] at HSEQ
      go_upto_region 26 with fail
      go_cut [127] (fun s wc => s = .bool false ∧ Keep [] w6 wc)
      case first =>
        have hr1 := HR1.out
        rcases Nat.lt_trichotomy nn 28 with h | h | h
        · obtain rfl : r = nn := by omega
          have q1 : (r : Int) < 28 := by omega
          clear hr1
          go_wp2_with fail
          refine HSEQ.out.mono ?_
          rintro e w7 ⟨rfl, hK7⟩
          go_wp2_with fail
          go_meet
          exact ⟨by first | rfl | (simp; done), hK7⟩
        · obtain rfl : nn = 28 := h
          obtain rfl : r = 28 := by omega
          clear hr1
          go_wp2_with fail
          refine HSEQ.out.mono ?_
          rintro e w7 ⟨rfl, hK7⟩
          go_wp2_with fail
          go_meet
          exact ⟨by first | rfl | (simp; done) | (simp; omega), hK7⟩
        · obtain rfl : r = 28 := by omega
          have q1 : 28 < (nn : Int) := by omega
          clear hr1
          go_wp2_with fail
          refine HSEQ.out.mono ?_
          rintro e w7 ⟨rfl, hK7⟩
          go_wp2_with fail
          go_meet
          exact ⟨by first | rfl | (simp; done), hK7⟩
      case rest =>
      obtain ⟨rfl, hK7⟩ := hcut
      rename World => w7
      have HJ7 := Lib.hid (HJ6.out.still hK7)
      have HR7 := Lib.hid (HR6.out.keep hK7 (by simp))
      clear hK7 HSEQ
      go_wp2_with fail
      go_loopw [18] (fun s18 wy => ∃ i : Nat, s18 = .int .i64 (i : Int) ∧ i ≤ r ∧ Keep [] w7 wy) (fun x _ => r + 1 - (intOf x).toNat)
      case atStart => exact ⟨0, rfl, Nat.zero_le _, Keep.refl _ _⟩
      case round =>
      obtain ⟨j, rfl, hj, hKy⟩ := hrel
      have HKY := Lib.hid hKy
      clear hKy
      by_cases hlt2 : j < r
      · have q2 : decide ((j : Int) < (r : Int)) = true := decide_eq_true (by omega)
        obtain ⟨y, hy⟩ : ∃ y, R[j]? = some y := ⟨_, List.getElem?_eq_getElem (by rw [← HRR.out]; exact hlt2)⟩
        obtain ⟨g2, gc2, hg2, hc2⟩ := HR7.out.at_ (by rw [← HRR.out]; omega)
        rw [← HRR.out] at hg2
        injection hg2 with e1 e2 e3
        injection e1 with e1
        injection e1 with e1 _ _
        subst e1
        obtain ⟨c0, c1⟩ := hc2 j y hy
        have hyy := HAT.out (nn - 28 + j) y (HRAT.out j y hy)
        obtain ⟨b, hb⟩ : ∃ b, b = nn - 28 + j := ⟨_, rfl⟩
        rw [hyy.1, ← hb] at c0
        rw [hyy.2, ← hb] at c1
        have HC0 : Hid (wr.cell? ⟨g, j * 2, none⟩ = some (.int .i64 ((b : Int) + 1))) := Lib.hid (HKY.out.cell1 c0 (by simp))
        have HC1 : Hid (wr.cell? ⟨g, j * 2 + 1, none⟩ = some (.string (toStr (lkey b)))) := Lib.hid (HKY.out.cell1 c1 (by simp))
        have hbr := HR1.out
        have HB149 : Hid (b ≤ 149) := Lib.hid (by omega)
        have hbb : (nn : Int) - (r : Int) + (j : Int) = (b : Int) := by omega
        have hrn : (r : Int) ≤ (nn : Int) ∧ (j : Int) ≤ 28 := by omega
        have HRN := Lib.hid hrn
        have HBB := Lib.hid hbb
        have HIR := Lib.hid hlt2
        clear hb e2 e3 c0 c1 hyy hy hc2 hbb hbr hrn
        go_upto_region 31 with fail
        go_cut [19] (fun s wc => s = .int .i64 (b : Int) ∧ wr = wc)
        case first =>
          go_wp2_with fail
          go_meet
          exact ⟨by
            have h1 := HBB.out
            have h2 := HRN.out
            first
              | rfl
              | (congr 1; done)
              | (congr 1; unfold wrap64; omega), rfl⟩
        case rest =>
        obtain ⟨rfl, rfl⟩ := hcut
        go_upto_region 32 with fail
        have HW6 : Hid (IntKind.i64.wrap ((b : Int) + 1) = (b : Int) + 1) := Lib.hid (by rw [IntKind.wrap_i64]; have := HB149.out; omega)
        have HW19 : Hid (IntKind.i64.wrap ((b : Int) / 26) = (b : Int) / 26) := Lib.hid (by rw [IntKind.wrap_i64]; have := HB149.out; omega)
        have HW15 : Hid (IntKind.i64.wrap ((b : Int) % 26) = (b : Int) % 26) := Lib.hid (by rw [IntKind.wrap_i64]; have := HB149.out; omega)
        have HW16 : Hid (IntKind.i64.wrap (97 + (b : Int) % 26) = 97 + (b : Int) % 26) := Lib.hid (by rw [IntKind.wrap_i64]; have := HB149.out; omega)
        have HW20 : Hid (IntKind.i64.wrap (97 + (b : Int) / 26) = 97 + (b : Int) / 26) := Lib.hid (by rw [IntKind.wrap_i64]; have := HB149.out; omega)
        have HW17 : Hid (IntKind.u8.wrap (97 + (b : Int) % 26) = 97 + (b : Int) % 26) := Lib.hid (by rw [IntKind.wrap_u8]; have := HB149.out; omega)
        have HW21 : Hid (IntKind.u8.wrap (97 + (b : Int) / 26) = 97 + (b : Int) / 26) := Lib.hid (by rw [IntKind.wrap_u8]; have := HB149.out; omega)
        refine wp_region_inv (lonJ32 wr g gc r j b) (by kernel_rfl) (by kernel_rfl) (by kernel_rfl) ?_ (Steps.cons 0 ?_ (Steps.cons 1 ?_ (Steps.cons 2 ?_ (Steps.cons 3 ?_ (Steps.cons 4 ?_ (Steps.cons 5 ?_ (Steps.cons 6 ?_ (Steps.cons 7 ?_ (Steps.cons 8 ?_ (Steps.cons 9 ?_ (Steps.cons 10 ?_ (Steps.cons 11 ?_ (Steps.cons 12 ?_ (Steps.cons 13 ?_ (Steps.cons 14 ?_ (Steps.cons 15 ?_ (Steps.cons 16 ?_ (Steps.cons 17 ?_ (Steps.cons 18 ?_ (Steps.cons 19 ?_ (Steps.cons 20 ?_ (Steps.cons 21 ?_ (Steps.cons 22 ?_ (Steps.cons 23 ?_ (Steps.cons 24 ?_ (Steps.cons 25 ?_ (Steps.nil 26))))))))))))))))))))))))))) 26 rfl ?_
        · intro x
          exact ⟨0, HC0.out, HC1.out, (Keep.refl _ _).drew, fun h => absurd h (by decide), fun h => absurd h (by decide), fun h => absurd h (by decide), fun h => absurd h (by decide), fun h => absurd h (by decide), fun h => absurd h (by decide), fun h => absurd h (by decide), fun h => absurd h (by decide), fun h => absurd h (by decide), fun h => absurd h (by decide), fun h => absurd h (by decide), fun h => absurd h (by decide), fun h => absurd h (by decide), fun h => absurd h (by decide), fun h => absurd h (by decide), fun h => absurd h (by decide), fun h => absurd h (by decide), fun h => absurd h (by decide), fun h => absurd h (by decide), fun h => absurd h (by decide), fun h => absurd h (by decide), fun h => absurd h (by decide), fun h => absurd h (by decide), fun h => absurd h (by decide), fun h => absurd h (by decide), fun h => absurd h (by decide)⟩
        · intro l x w' hJ hi hd
          obtain ⟨B22, kc0, kc1, hK, h0, h1, h2, h3, h4, h5, h6, h7, h8, h9, h10, h11, h12, h13, h14, h15, h16, h17, h18, h19, h20, h21, h22, h23, h24, h25⟩ := hJ
          refine Runs.of (b := ?bA0) ?eA0 ?_
          case eA0 => simp only [putV, Act.put, List.setIfInBounds_toArray, List.set_cons_zero, List.set_cons_succ]; rfl
          intro K' hK'
          go_simp
          exact hK'.go _ rfl ⟨B22, kc0, kc1, hK, fun _ => rfl, h1, h2, h3, h4, h5, h6, h7, h8, h9, h10, h11, h12, h13, h14, h15, h16, h17, h18, h19, h20, h21, h22, h23, h24, h25⟩
        · intro l x w' hJ hi hd
          obtain ⟨B22, kc0, kc1, hK, h0, h1, h2, h3, h4, h5, h6, h7, h8, h9, h10, h11, h12, h13, h14, h15, h16, h17, h18, h19, h20, h21, h22, h23, h24, h25⟩ := hJ
          refine Runs.of (b := ?bA1) ?eA1 ?_
          case eA1 => simp only [putV, Act.put, List.setIfInBounds_toArray, List.set_cons_zero, List.set_cons_succ]; rfl
          intro K' hK'
          go_simp
          exact hK'.go _ rfl ⟨B22, kc0, kc1, hK, h0, fun _ => rfl, h2, h3, h4, h5, h6, h7, h8, h9, h10, h11, h12, h13, h14, h15, h16, h17, h18, h19, h20, h21, h22, h23, h24, h25⟩
        · intro l x w' hJ hi hd
          obtain ⟨B22, kc0, kc1, hK, h0, h1, h2, h3, h4, h5, h6, h7, h8, h9, h10, h11, h12, h13, h14, h15, h16, h17, h18, h19, h20, h21, h22, h23, h24, h25⟩ := hJ
          have e0 := h0 (show l 0 = true by first | exact hd.1 rfl | exact hd.2.1 rfl | exact hd.2.2.1 rfl | exact hd.2.2.2.1 rfl | exact hd.2.2.2.2.1 rfl | exact hd.2.2.2.2.2.1 rfl)
          have e1 := h1 (show l 1 = true by first | exact hd.1 rfl | exact hd.2.1 rfl | exact hd.2.2.1 rfl | exact hd.2.2.2.1 rfl | exact hd.2.2.2.2.1 rfl | exact hd.2.2.2.2.2.1 rfl)
          have hix := HIR.out
          refine Runs.of (b := ?bA2) ?eA2 ?_
          case eA2 => simp only [putV, Act.put, List.setIfInBounds_toArray, List.set_cons_zero, List.set_cons_succ, e0, e1]; rfl
          intro K' hK'
          go_simp
          exact hK'.go _ rfl ⟨B22, kc0, kc1, hK, h0, h1, fun _ => rfl, h3, h4, h5, h6, h7, h8, h9, h10, h11, h12, h13, h14, h15, h16, h17, h18, h19, h20, h21, h22, h23, h24, h25⟩
        · intro l x w' hJ hi hd
          obtain ⟨B22, kc0, kc1, hK, h0, h1, h2, h3, h4, h5, h6, h7, h8, h9, h10, h11, h12, h13, h14, h15, h16, h17, h18, h19, h20, h21, h22, h23, h24, h25⟩ := hJ
          have e2 := h2 (show l 2 = true by first | exact hd.1 rfl | exact hd.2.1 rfl | exact hd.2.2.1 rfl | exact hd.2.2.2.1 rfl | exact hd.2.2.2.2.1 rfl | exact hd.2.2.2.2.2.1 rfl)
          refine Runs.of (b := ?bA3) ?eA3 ?_
          case eA3 => simp only [putV, Act.put, List.setIfInBounds_toArray, List.set_cons_zero, List.set_cons_succ, e2]; rfl
          intro K' hK'
          go_simp
          exact hK'.go _ rfl ⟨B22, kc0, kc1, hK, h0, h1, h2, fun _ => rfl, h4, h5, h6, h7, h8, h9, h10, h11, h12, h13, h14, h15, h16, h17, h18, h19, h20, h21, h22, h23, h24, h25⟩
        · intro l x w' hJ hi hd
          obtain ⟨B22, kc0, kc1, hK, h0, h1, h2, h3, h4, h5, h6, h7, h8, h9, h10, h11, h12, h13, h14, h15, h16, h17, h18, h19, h20, h21, h22, h23, h24, h25⟩ := hJ
          have e3 := h3 (show l 3 = true by first | exact hd.1 rfl | exact hd.2.1 rfl | exact hd.2.2.1 rfl | exact hd.2.2.2.1 rfl | exact hd.2.2.2.2.1 rfl | exact hd.2.2.2.2.2.1 rfl)
          have c0 := kc0
          refine Runs.of (b := ?bA4) ?eA4 ?_
          case eA4 => simp only [putV, Act.put, List.setIfInBounds_toArray, List.set_cons_zero, List.set_cons_succ, e3]; rfl
          intro K' hK'
          go_simp
          exact hK'.go _ rfl ⟨B22, kc0, kc1, hK, h0, h1, h2, h3, fun _ => rfl, h5, h6, h7, h8, h9, h10, h11, h12, h13, h14, h15, h16, h17, h18, h19, h20, h21, h22, h23, h24, h25⟩
        · intro l x w' hJ hi hd
          obtain ⟨B22, kc0, kc1, hK, h0, h1, h2, h3, h4, h5, h6, h7, h8, h9, h10, h11, h12, h13, h14, h15, h16, h17, h18, h19, h20, h21, h22, h23, h24, h25⟩ := hJ
          refine Runs.of (b := ?bA5) ?eA5 ?_
          case eA5 => simp only [putV, Act.put, List.setIfInBounds_toArray, List.set_cons_zero, List.set_cons_succ]; rfl
          intro K' hK'
          go_simp
          exact hK'.go _ rfl ⟨B22, kc0, kc1, hK, h0, h1, h2, h3, h4, fun _ => rfl, h6, h7, h8, h9, h10, h11, h12, h13, h14, h15, h16, h17, h18, h19, h20, h21, h22, h23, h24, h25⟩
        · intro l x w' hJ hi hd
          obtain ⟨B22, kc0, kc1, hK, h0, h1, h2, h3, h4, h5, h6, h7, h8, h9, h10, h11, h12, h13, h14, h15, h16, h17, h18, h19, h20, h21, h22, h23, h24, h25⟩ := hJ
          have e5 := h5 (show l 5 = true by first | exact hd.1 rfl | exact hd.2.1 rfl | exact hd.2.2.1 rfl | exact hd.2.2.2.1 rfl | exact hd.2.2.2.2.1 rfl | exact hd.2.2.2.2.2.1 rfl)
          have hb2 := HB149.out
          refine Runs.of (b := ?bA6) ?eA6 ?_
          case eA6 => simp only [putV, Act.put, List.setIfInBounds_toArray, List.set_cons_zero, List.set_cons_succ, e5]; rfl
          intro K' hK'
          go_simp
          exact hK'.go _ rfl ⟨B22, kc0, kc1, hK, h0, h1, h2, h3, h4, h5, fun _ => (by first | rfl | exact congrArg (Value.int .i64) HW6.out), h7, h8, h9, h10, h11, h12, h13, h14, h15, h16, h17, h18, h19, h20, h21, h22, h23, h24, h25⟩
        · intro l x w' hJ hi hd
          obtain ⟨B22, kc0, kc1, hK, h0, h1, h2, h3, h4, h5, h6, h7, h8, h9, h10, h11, h12, h13, h14, h15, h16, h17, h18, h19, h20, h21, h22, h23, h24, h25⟩ := hJ
          have e4 := h4 (show l 4 = true by first | exact hd.1 rfl | exact hd.2.1 rfl | exact hd.2.2.1 rfl | exact hd.2.2.2.1 rfl | exact hd.2.2.2.2.1 rfl | exact hd.2.2.2.2.2.1 rfl)
          have e6 := h6 (show l 6 = true by first | exact hd.1 rfl | exact hd.2.1 rfl | exact hd.2.2.1 rfl | exact hd.2.2.2.1 rfl | exact hd.2.2.2.2.1 rfl | exact hd.2.2.2.2.2.1 rfl)
          refine Runs.of (b := ?bA7) ?eA7 ?_
          case eA7 => simp only [putV, Act.put, List.setIfInBounds_toArray, List.set_cons_zero, List.set_cons_succ, e4, e6]; rfl
          intro K' hK'
          go_simp
          exact hK'.go _ rfl ⟨B22, kc0, kc1, hK, h0, h1, h2, h3, h4, h5, h6, fun _ => (by first | rfl | simp), h8, h9, h10, h11, h12, h13, h14, h15, h16, h17, h18, h19, h20, h21, h22, h23, h24, h25⟩
        · intro l x w' hJ hi hd
          obtain ⟨B22, kc0, kc1, hK, h0, h1, h2, h3, h4, h5, h6, h7, h8, h9, h10, h11, h12, h13, h14, h15, h16, h17, h18, h19, h20, h21, h22, h23, h24, h25⟩ := hJ
          have e7 := h7 (show l 7 = true by first | exact hd.1 rfl | exact hd.2.1 rfl | exact hd.2.2.1 rfl | exact hd.2.2.2.1 rfl | exact hd.2.2.2.2.1 rfl | exact hd.2.2.2.2.2.1 rfl)
          refine Runs.of (b := ?bA8) ?eA8 ?_
          case eA8 => simp only [putV, Act.put, List.setIfInBounds_toArray, List.set_cons_zero, List.set_cons_succ, e7]; rfl
          intro K' hK'
          go_simp
          exact hK'.go _ rfl ⟨B22, kc0, kc1, hK, h0, h1, h2, h3, h4, h5, h6, h7, fun _ => rfl, h9, h10, h11, h12, h13, h14, h15, h16, h17, h18, h19, h20, h21, h22, h23, h24, h25⟩
        · intro l x w' hJ hi hd
          obtain ⟨B22, kc0, kc1, hK, h0, h1, h2, h3, h4, h5, h6, h7, h8, h9, h10, h11, h12, h13, h14, h15, h16, h17, h18, h19, h20, h21, h22, h23, h24, h25⟩ := hJ
          have e8 := h8 (show l 8 = true by first | exact hd.1 rfl | exact hd.2.1 rfl | exact hd.2.2.1 rfl | exact hd.2.2.2.1 rfl | exact hd.2.2.2.2.1 rfl | exact hd.2.2.2.2.2.1 rfl)
          refine Runs.of (b := ?bA9) ?eA9 ?_
          case eA9 => simp only [putV, Act.put, List.setIfInBounds_toArray, List.set_cons_zero, List.set_cons_succ, e8]; rfl
          intro K' hK'
          go_simp
          exact hK'.go _ rfl ⟨B22, kc0, kc1, hK, h0, h1, h2, h3, h4, h5, h6, h7, h8, fun _ => rfl, h10, h11, h12, h13, h14, h15, h16, h17, h18, h19, h20, h21, h22, h23, h24, h25⟩
        · intro l x w' hJ hi hd
          obtain ⟨B22, kc0, kc1, hK, h0, h1, h2, h3, h4, h5, h6, h7, h8, h9, h10, h11, h12, h13, h14, h15, h16, h17, h18, h19, h20, h21, h22, h23, h24, h25⟩ := hJ
          have e8 := h8 (show l 8 = true by first | exact hd.1 rfl | exact hd.2.1 rfl | exact hd.2.2.1 rfl | exact hd.2.2.2.1 rfl | exact hd.2.2.2.2.1 rfl | exact hd.2.2.2.2.2.1 rfl)
          refine Runs.of (b := ?bA10) ?eA10 ?_
          case eA10 => simp only [putV, Act.put, List.setIfInBounds_toArray, List.set_cons_zero, List.set_cons_succ, e8]; rfl
          intro K' hK'
          go_simp
          exact hK'.go _ rfl ⟨B22, kc0, kc1, hK, h0, h1, h2, h3, h4, h5, h6, h7, h8, h9, fun _ => rfl, h11, h12, h13, h14, h15, h16, h17, h18, h19, h20, h21, h22, h23, h24, h25⟩
        · intro l x w' hJ hi hd
          obtain ⟨B22, kc0, kc1, hK, h0, h1, h2, h3, h4, h5, h6, h7, h8, h9, h10, h11, h12, h13, h14, h15, h16, h17, h18, h19, h20, h21, h22, h23, h24, h25⟩ := hJ
          have e8 := h8 (show l 8 = true by first | exact hd.1 rfl | exact hd.2.1 rfl | exact hd.2.2.1 rfl | exact hd.2.2.2.1 rfl | exact hd.2.2.2.2.1 rfl | exact hd.2.2.2.2.2.1 rfl)
          have e9 := h9 (show l 9 = true by first | exact hd.1 rfl | exact hd.2.1 rfl | exact hd.2.2.1 rfl | exact hd.2.2.2.1 rfl | exact hd.2.2.2.2.1 rfl | exact hd.2.2.2.2.2.1 rfl)
          have e10 := h10 (show l 10 = true by first | exact hd.1 rfl | exact hd.2.1 rfl | exact hd.2.2.1 rfl | exact hd.2.2.2.1 rfl | exact hd.2.2.2.2.1 rfl | exact hd.2.2.2.2.2.1 rfl)
          have hix := HIR.out
          refine Runs.of (b := ?bA11) ?eA11 ?_
          case eA11 => simp only [putV, Act.put, List.setIfInBounds_toArray, List.set_cons_zero, List.set_cons_succ, e8, e9, e10]; rfl
          intro K' hK'
          go_simp
          exact hK'.go _ rfl ⟨B22, kc0, kc1, hK, h0, h1, h2, h3, h4, h5, h6, h7, h8, h9, h10, fun _ => rfl, h12, h13, h14, h15, h16, h17, h18, h19, h20, h21, h22, h23, h24, h25⟩
        · intro l x w' hJ hi hd
          obtain ⟨B22, kc0, kc1, hK, h0, h1, h2, h3, h4, h5, h6, h7, h8, h9, h10, h11, h12, h13, h14, h15, h16, h17, h18, h19, h20, h21, h22, h23, h24, h25⟩ := hJ
          have e8 := h8 (show l 8 = true by first | exact hd.1 rfl | exact hd.2.1 rfl | exact hd.2.2.1 rfl | exact hd.2.2.2.1 rfl | exact hd.2.2.2.2.1 rfl | exact hd.2.2.2.2.2.1 rfl)
          have e11 := h11 (show l 11 = true by first | exact hd.1 rfl | exact hd.2.1 rfl | exact hd.2.2.1 rfl | exact hd.2.2.2.1 rfl | exact hd.2.2.2.2.1 rfl | exact hd.2.2.2.2.2.1 rfl)
          refine Runs.of (b := ?bA12) ?eA12 ?_
          case eA12 => simp only [putV, Act.put, List.setIfInBounds_toArray, List.set_cons_zero, List.set_cons_succ, e8, e11]; rfl
          intro K' hK'
          go_simp
          exact hK'.go _ rfl ⟨B22, kc0, kc1, hK, h0, h1, h2, h3, h4, h5, h6, h7, h8, h9, h10, h11, fun _ => rfl, h13, h14, h15, h16, h17, h18, h19, h20, h21, h22, h23, h24, h25⟩
        · intro l x w' hJ hi hd
          obtain ⟨B22, kc0, kc1, hK, h0, h1, h2, h3, h4, h5, h6, h7, h8, h9, h10, h11, h12, h13, h14, h15, h16, h17, h18, h19, h20, h21, h22, h23, h24, h25⟩ := hJ
          have e8 := h8 (show l 8 = true by first | exact hd.1 rfl | exact hd.2.1 rfl | exact hd.2.2.1 rfl | exact hd.2.2.2.1 rfl | exact hd.2.2.2.2.1 rfl | exact hd.2.2.2.2.2.1 rfl)
          have e12 := h12 (show l 12 = true by first | exact hd.1 rfl | exact hd.2.1 rfl | exact hd.2.2.1 rfl | exact hd.2.2.2.1 rfl | exact hd.2.2.2.2.1 rfl | exact hd.2.2.2.2.2.1 rfl)
          have c1 := kc1
          refine Runs.of (b := ?bA13) ?eA13 ?_
          case eA13 => simp only [putV, Act.put, List.setIfInBounds_toArray, List.set_cons_zero, List.set_cons_succ, e8, e12]; rfl
          intro K' hK'
          go_simp
          exact hK'.go _ rfl ⟨B22, kc0, kc1, hK, h0, h1, h2, h3, h4, h5, h6, h7, h8, h9, h10, h11, h12, fun _ => rfl, h14, h15, h16, h17, h18, h19, h20, h21, h22, h23, h24, h25⟩
        · intro l x w' hJ hi hd
          obtain ⟨B22, kc0, kc1, hK, h0, h1, h2, h3, h4, h5, h6, h7, h8, h9, h10, h11, h12, h13, h14, h15, h16, h17, h18, h19, h20, h21, h22, h23, h24, h25⟩ := hJ
          have e8 := h8 (show l 8 = true by first | exact hd.1 rfl | exact hd.2.1 rfl | exact hd.2.2.1 rfl | exact hd.2.2.2.1 rfl | exact hd.2.2.2.2.1 rfl | exact hd.2.2.2.2.2.1 rfl)
          refine Runs.of (b := ?bA14) ?eA14 ?_
          case eA14 => simp only [putV, Act.put, List.setIfInBounds_toArray, List.set_cons_zero, List.set_cons_succ, e8]; rfl
          intro K' hK'
          go_simp
          exact hK'.go _ rfl ⟨B22, kc0, kc1, hK, h0, h1, h2, h3, h4, h5, h6, h7, h8, h9, h10, h11, h12, h13, fun _ => rfl, h15, h16, h17, h18, h19, h20, h21, h22, h23, h24, h25⟩
        · intro l x w' hJ hi hd
          obtain ⟨B22, kc0, kc1, hK, h0, h1, h2, h3, h4, h5, h6, h7, h8, h9, h10, h11, h12, h13, h14, h15, h16, h17, h18, h19, h20, h21, h22, h23, h24, h25⟩ := hJ
          have e8 := h8 (show l 8 = true by first | exact hd.1 rfl | exact hd.2.1 rfl | exact hd.2.2.1 rfl | exact hd.2.2.2.1 rfl | exact hd.2.2.2.2.1 rfl | exact hd.2.2.2.2.2.1 rfl)
          have e14 := h14 (show l 14 = true by first | exact hd.1 rfl | exact hd.2.1 rfl | exact hd.2.2.1 rfl | exact hd.2.2.2.1 rfl | exact hd.2.2.2.2.1 rfl | exact hd.2.2.2.2.2.1 rfl)
          have hb2 := HB149.out
          refine Runs.of (b := ?bA15) ?eA15 ?_
          case eA15 => simp only [putV, Act.put, List.setIfInBounds_toArray, List.set_cons_zero, List.set_cons_succ, e8, e14]; rfl
          intro K' hK'
          go_simp
          exact hK'.go _ rfl ⟨B22, kc0, kc1, hK, h0, h1, h2, h3, h4, h5, h6, h7, h8, h9, h10, h11, h12, h13, h14, fun _ => (by first | rfl | exact congrArg (Value.int .i64) HW15.out), h16, h17, h18, h19, h20, h21, h22, h23, h24, h25⟩
        · intro l x w' hJ hi hd
          obtain ⟨B22, kc0, kc1, hK, h0, h1, h2, h3, h4, h5, h6, h7, h8, h9, h10, h11, h12, h13, h14, h15, h16, h17, h18, h19, h20, h21, h22, h23, h24, h25⟩ := hJ
          have e8 := h8 (show l 8 = true by first | exact hd.1 rfl | exact hd.2.1 rfl | exact hd.2.2.1 rfl | exact hd.2.2.2.1 rfl | exact hd.2.2.2.2.1 rfl | exact hd.2.2.2.2.2.1 rfl)
          have e15 := h15 (show l 15 = true by first | exact hd.1 rfl | exact hd.2.1 rfl | exact hd.2.2.1 rfl | exact hd.2.2.2.1 rfl | exact hd.2.2.2.2.1 rfl | exact hd.2.2.2.2.2.1 rfl)
          have hb2 := HB149.out
          refine Runs.of (b := ?bA16) ?eA16 ?_
          case eA16 => simp only [putV, Act.put, List.setIfInBounds_toArray, List.set_cons_zero, List.set_cons_succ, e8, e15]; rfl
          intro K' hK'
          go_simp
          exact hK'.go _ rfl ⟨B22, kc0, kc1, hK, h0, h1, h2, h3, h4, h5, h6, h7, h8, h9, h10, h11, h12, h13, h14, h15, fun _ => (by first | rfl | exact congrArg (Value.int .i64) HW16.out), h17, h18, h19, h20, h21, h22, h23, h24, h25⟩
        · intro l x w' hJ hi hd
          obtain ⟨B22, kc0, kc1, hK, h0, h1, h2, h3, h4, h5, h6, h7, h8, h9, h10, h11, h12, h13, h14, h15, h16, h17, h18, h19, h20, h21, h22, h23, h24, h25⟩ := hJ
          have e8 := h8 (show l 8 = true by first | exact hd.1 rfl | exact hd.2.1 rfl | exact hd.2.2.1 rfl | exact hd.2.2.2.1 rfl | exact hd.2.2.2.2.1 rfl | exact hd.2.2.2.2.2.1 rfl)
          have e16 := h16 (show l 16 = true by first | exact hd.1 rfl | exact hd.2.1 rfl | exact hd.2.2.1 rfl | exact hd.2.2.2.1 rfl | exact hd.2.2.2.2.1 rfl | exact hd.2.2.2.2.2.1 rfl)
          have hb2 := HB149.out
          refine Runs.of (b := ?bA17) ?eA17 ?_
          case eA17 => simp only [putV, Act.put, List.setIfInBounds_toArray, List.set_cons_zero, List.set_cons_succ, e8, e16]; rfl
          intro K' hK'
          go_simp
          exact hK'.go _ rfl ⟨B22, kc0, kc1, hK, h0, h1, h2, h3, h4, h5, h6, h7, h8, h9, h10, h11, h12, h13, h14, h15, h16, fun _ => (by first | rfl | exact congrArg (Value.int .u8) HW17.out), h18, h19, h20, h21, h22, h23, h24, h25⟩
        · intro l x w' hJ hi hd
          obtain ⟨B22, kc0, kc1, hK, h0, h1, h2, h3, h4, h5, h6, h7, h8, h9, h10, h11, h12, h13, h14, h15, h16, h17, h18, h19, h20, h21, h22, h23, h24, h25⟩ := hJ
          have e8 := h8 (show l 8 = true by first | exact hd.1 rfl | exact hd.2.1 rfl | exact hd.2.2.1 rfl | exact hd.2.2.2.1 rfl | exact hd.2.2.2.2.1 rfl | exact hd.2.2.2.2.2.1 rfl)
          refine Runs.of (b := ?bA18) ?eA18 ?_
          case eA18 => simp only [putV, Act.put, List.setIfInBounds_toArray, List.set_cons_zero, List.set_cons_succ, e8]; rfl
          intro K' hK'
          go_simp
          exact hK'.go _ rfl ⟨B22, kc0, kc1, hK, h0, h1, h2, h3, h4, h5, h6, h7, h8, h9, h10, h11, h12, h13, h14, h15, h16, h17, fun _ => rfl, h19, h20, h21, h22, h23, h24, h25⟩
        · intro l x w' hJ hi hd
          obtain ⟨B22, kc0, kc1, hK, h0, h1, h2, h3, h4, h5, h6, h7, h8, h9, h10, h11, h12, h13, h14, h15, h16, h17, h18, h19, h20, h21, h22, h23, h24, h25⟩ := hJ
          have e8 := h8 (show l 8 = true by first | exact hd.1 rfl | exact hd.2.1 rfl | exact hd.2.2.1 rfl | exact hd.2.2.2.1 rfl | exact hd.2.2.2.2.1 rfl | exact hd.2.2.2.2.2.1 rfl)
          have e18 := h18 (show l 18 = true by first | exact hd.1 rfl | exact hd.2.1 rfl | exact hd.2.2.1 rfl | exact hd.2.2.2.1 rfl | exact hd.2.2.2.2.1 rfl | exact hd.2.2.2.2.2.1 rfl)
          have hb2 := HB149.out
          refine Runs.of (b := ?bA19) ?eA19 ?_
          case eA19 => simp only [putV, Act.put, List.setIfInBounds_toArray, List.set_cons_zero, List.set_cons_succ, e8, e18]; rfl
          intro K' hK'
          go_simp
          exact hK'.go _ rfl ⟨B22, kc0, kc1, hK, h0, h1, h2, h3, h4, h5, h6, h7, h8, h9, h10, h11, h12, h13, h14, h15, h16, h17, h18, fun _ => (by first | rfl | exact congrArg (Value.int .i64) HW19.out), h20, h21, h22, h23, h24, h25⟩
        · intro l x w' hJ hi hd
          obtain ⟨B22, kc0, kc1, hK, h0, h1, h2, h3, h4, h5, h6, h7, h8, h9, h10, h11, h12, h13, h14, h15, h16, h17, h18, h19, h20, h21, h22, h23, h24, h25⟩ := hJ
          have e8 := h8 (show l 8 = true by first | exact hd.1 rfl | exact hd.2.1 rfl | exact hd.2.2.1 rfl | exact hd.2.2.2.1 rfl | exact hd.2.2.2.2.1 rfl | exact hd.2.2.2.2.2.1 rfl)
          have e19 := h19 (show l 19 = true by first | exact hd.1 rfl | exact hd.2.1 rfl | exact hd.2.2.1 rfl | exact hd.2.2.2.1 rfl | exact hd.2.2.2.2.1 rfl | exact hd.2.2.2.2.2.1 rfl)
          have hb2 := HB149.out
          refine Runs.of (b := ?bA20) ?eA20 ?_
          case eA20 => simp only [putV, Act.put, List.setIfInBounds_toArray, List.set_cons_zero, List.set_cons_succ, e8, e19]; rfl
          intro K' hK'
          go_simp
          exact hK'.go _ rfl ⟨B22, kc0, kc1, hK, h0, h1, h2, h3, h4, h5, h6, h7, h8, h9, h10, h11, h12, h13, h14, h15, h16, h17, h18, h19, fun _ => (by first | rfl | exact congrArg (Value.int .i64) HW20.out), h21, h22, h23, h24, h25⟩
        · intro l x w' hJ hi hd
          obtain ⟨B22, kc0, kc1, hK, h0, h1, h2, h3, h4, h5, h6, h7, h8, h9, h10, h11, h12, h13, h14, h15, h16, h17, h18, h19, h20, h21, h22, h23, h24, h25⟩ := hJ
          have e8 := h8 (show l 8 = true by first | exact hd.1 rfl | exact hd.2.1 rfl | exact hd.2.2.1 rfl | exact hd.2.2.2.1 rfl | exact hd.2.2.2.2.1 rfl | exact hd.2.2.2.2.2.1 rfl)
          have e20 := h20 (show l 20 = true by first | exact hd.1 rfl | exact hd.2.1 rfl | exact hd.2.2.1 rfl | exact hd.2.2.2.1 rfl | exact hd.2.2.2.2.1 rfl | exact hd.2.2.2.2.2.1 rfl)
          have hb2 := HB149.out
          refine Runs.of (b := ?bA21) ?eA21 ?_
          case eA21 => simp only [putV, Act.put, List.setIfInBounds_toArray, List.set_cons_zero, List.set_cons_succ, e8, e20]; rfl
          intro K' hK'
          go_simp
          exact hK'.go _ rfl ⟨B22, kc0, kc1, hK, h0, h1, h2, h3, h4, h5, h6, h7, h8, h9, h10, h11, h12, h13, h14, h15, h16, h17, h18, h19, h20, fun _ => (by first | rfl | exact congrArg (Value.int .u8) HW21.out), h22, h23, h24, h25⟩
        · intro l x w' hJ hi hd
          obtain ⟨B22, kc0, kc1, hK, h0, h1, h2, h3, h4, h5, h6, h7, h8, h9, h10, h11, h12, h13, h14, h15, h16, h17, h18, h19, h20, h21, h22, h23, h24, h25⟩ := hJ
          have e8 := h8 (show l 8 = true by first | exact hd.1 rfl | exact hd.2.1 rfl | exact hd.2.2.1 rfl | exact hd.2.2.2.1 rfl | exact hd.2.2.2.2.1 rfl | exact hd.2.2.2.2.2.1 rfl)
          have e17 := h17 (show l 17 = true by first | exact hd.1 rfl | exact hd.2.1 rfl | exact hd.2.2.1 rfl | exact hd.2.2.2.1 rfl | exact hd.2.2.2.2.1 rfl | exact hd.2.2.2.2.2.1 rfl)
          have e21 := h21 (show l 21 = true by first | exact hd.1 rfl | exact hd.2.1 rfl | exact hd.2.2.1 rfl | exact hd.2.2.2.1 rfl | exact hd.2.2.2.2.1 rfl | exact hd.2.2.2.2.2.1 rfl)
          refine Runs.of (b := ?bA22) ?eA22 ?_
          case eA22 => simp only [putV, Act.put, List.setIfInBounds_toArray, List.set_cons_zero, List.set_cons_succ, e8, e17, e21]; rfl
          intro K' hK'
          go_simp
          exact hK'.go _ rfl ⟨w'.heap.size, ((Keep.refl [] _).alloc _).cell1 kc0 (by simp), ((Keep.refl [] _).alloc _).cell1 kc1 (by simp), hK.alloc _, h0, h1, h2, h3, h4, h5, h6, h7, h8, h9, h10, h11, h12, h13, h14, h15, h16, h17, h18, h19, h20, h21, fun _ => ⟨rfl, Blk.new _ [.int .u8 (97 + (b : Int) % 26), .int .u8 (97 + (b : Int) / 26)] _⟩, h23, h24, h25⟩
        · intro l x w' hJ hi hd
          obtain ⟨B22, kc0, kc1, hK, h0, h1, h2, h3, h4, h5, h6, h7, h8, h9, h10, h11, h12, h13, h14, h15, h16, h17, h18, h19, h20, h21, h22, h23, h24, h25⟩ := hJ
          have e8 := h8 (show l 8 = true by first | exact hd.1 rfl | exact hd.2.1 rfl | exact hd.2.2.1 rfl | exact hd.2.2.2.1 rfl | exact hd.2.2.2.2.1 rfl | exact hd.2.2.2.2.2.1 rfl)
          have e22 := h22 (show l 22 = true by first | exact hd.1 rfl | exact hd.2.1 rfl | exact hd.2.2.1 rfl | exact hd.2.2.2.1 rfl | exact hd.2.2.2.2.1 rfl | exact hd.2.2.2.2.2.1 rfl)
          have hst := lkey_conv e22.2 HB149.out
          refine Runs.of (b := ?bA23) ?eA23 ?_
          case eA23 => simp only [putV, Act.put, List.setIfInBounds_toArray, List.set_cons_zero, List.set_cons_succ, e8, e22.1]; rfl
          intro K' hK'
          go_simp
          exact hK'.go _ rfl ⟨B22, kc0, kc1, hK, h0, h1, h2, h3, h4, h5, h6, h7, h8, h9, h10, h11, h12, h13, h14, h15, h16, h17, h18, h19, h20, h21, h22, fun _ => rfl, h24, h25⟩
        · intro l x w' hJ hi hd
          obtain ⟨B22, kc0, kc1, hK, h0, h1, h2, h3, h4, h5, h6, h7, h8, h9, h10, h11, h12, h13, h14, h15, h16, h17, h18, h19, h20, h21, h22, h23, h24, h25⟩ := hJ
          have e8 := h8 (show l 8 = true by first | exact hd.1 rfl | exact hd.2.1 rfl | exact hd.2.2.1 rfl | exact hd.2.2.2.1 rfl | exact hd.2.2.2.2.1 rfl | exact hd.2.2.2.2.2.1 rfl)
          have e13 := h13 (show l 13 = true by first | exact hd.1 rfl | exact hd.2.1 rfl | exact hd.2.2.1 rfl | exact hd.2.2.2.1 rfl | exact hd.2.2.2.2.1 rfl | exact hd.2.2.2.2.2.1 rfl)
          have e23 := h23 (show l 23 = true by first | exact hd.1 rfl | exact hd.2.1 rfl | exact hd.2.2.1 rfl | exact hd.2.2.2.1 rfl | exact hd.2.2.2.2.1 rfl | exact hd.2.2.2.2.2.1 rfl)
          refine Runs.of (b := ?bA24) ?eA24 ?_
          case eA24 => simp only [putV, Act.put, List.setIfInBounds_toArray, List.set_cons_zero, List.set_cons_succ, e8, e13, e23]; rfl
          intro K' hK'
          go_simp
          exact hK'.go _ rfl ⟨B22, kc0, kc1, hK, h0, h1, h2, h3, h4, h5, h6, h7, h8, h9, h10, h11, h12, h13, h14, h15, h16, h17, h18, h19, h20, h21, h22, h23, fun _ => (by first | rfl | simp), h25⟩
        · intro l x w' hJ hi hd
          obtain ⟨B22, kc0, kc1, hK, h0, h1, h2, h3, h4, h5, h6, h7, h8, h9, h10, h11, h12, h13, h14, h15, h16, h17, h18, h19, h20, h21, h22, h23, h24, h25⟩ := hJ
          have e8 := h8 (show l 8 = true by first | exact hd.1 rfl | exact hd.2.1 rfl | exact hd.2.2.1 rfl | exact hd.2.2.2.1 rfl | exact hd.2.2.2.2.1 rfl | exact hd.2.2.2.2.2.1 rfl)
          have e24 := h24 (show l 24 = true by first | exact hd.1 rfl | exact hd.2.1 rfl | exact hd.2.2.1 rfl | exact hd.2.2.2.1 rfl | exact hd.2.2.2.2.1 rfl | exact hd.2.2.2.2.2.1 rfl)
          refine Runs.of (b := ?bA25) ?eA25 ?_
          case eA25 => simp only [putV, Act.put, List.setIfInBounds_toArray, List.set_cons_zero, List.set_cons_succ, e8, e24]; rfl
          intro K' hK'
          go_simp
          exact hK'.go _ rfl ⟨B22, kc0, kc1, hK, h0, h1, h2, h3, h4, h5, h6, h7, h8, h9, h10, h11, h12, h13, h14, h15, h16, h17, h18, h19, h20, h21, h22, h23, h24, fun _ => rfl⟩
        · intro l x w3 hJ hl
          obtain ⟨B22, kc0, kc1, hK, h0, h1, h2, h3, h4, h5, h6, h7, h8, h9, h10, h11, h12, h13, h14, h15, h16, h17, h18, h19, h20, h21, h22, h23, h24, h25⟩ := hJ
          have e25 := h25 (hl 25 (by decide))
          simp only [putV, Act.put, List.setIfInBounds_toArray, List.set_cons_zero, List.set_cons_succ, e25]
          have HK9 := Lib.hid (HKY.out.trans hK)
          clear h0 h1 h2 h3 h4 h5 h6 h7 h8 h9 h10 h11 h12 h13 h14 h15 h16 h17 h18 h19 h20 h21 h22 h23 h24 h25 kc0 kc1 hK hl e25
          generalize w3 = wz at *
          have hj28 : j ≤ 28 := by have := HIR.out; have := HR1.out; omega
          go_wp2_with fail
          go_roundw
          case rel => exact ⟨j + 1, by go_num, by have := HIR.out; omega, HK9.out⟩
          case measure => simp only [intOf]; have := HIR.out; omega
      · obtain rfl : r = j := by omega
        have q2 : decide ((r : Int) < (r : Int)) = false := by simp
        have HBA := Lib.hid (HJ7.out.still HKY.out).base
        go_wp2_with fail
        refine HBA.out.mono ?_
        rintro e w8 ⟨rfl, hK8⟩
        have HSB := Lib.hid (((HJ7.out.still HKY.out).still hK8).sinceBad (-1) 1 (.inl (by decide)))
        have HK8 := Lib.hid (((HJ7.out.still HKY.out).still hK8).keep)
        clear hK8
        go_wp2_with fail
        refine HSB.out.mono ?_
        rintro e w9 ⟨rfl, hK9⟩
        have HK9 := Lib.hid (HK8.out.trans hK9)
        clear hK9
        go_wp2_with fail
        go_ret
        exact ⟨rfl, HK9.out.below⟩
end Go.Proofs.Ytpibpapolcdeiaa
