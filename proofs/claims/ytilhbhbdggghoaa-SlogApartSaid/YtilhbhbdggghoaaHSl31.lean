/- slog: the law SlogApart: its walk. -/
import Derived.Test.YtilhbhbdggghoaaHSl30
namespace Go.Proofs.Ytilhbhbdggghoaa
open Go.ChangeShapes Go.WideShapes Go.ChangeAt Go.RowKit
set_option linter.unusedVariables false
set_option linter.unusedSimpArgs false
set_option maxRecDepth 100000

def fitB (ts : List (Value × List Nat)) (i : Nat) : Bool := match ts[i]? with | none => false | some p => decide (0 < p.2.length ∧ p.2.length ≤ 40)
set_option maxRecDepth 100000 in
set_option maxHeartbeats 16000000 in
theorem slogApart_walk (av bv : Value) (w : World) (w0 : IsTexts w av) (w1 : IsTexts w bv) :
    Calls Try.prog 5 #[av, bv] w fun e w' => e = .returned (.bool true) ∧ Below w.heap.size w w' := by
  obtain ⟨ta, hta, htal, htab⟩ := w0
  obtain ⟨tb, htb, htbl, htbb⟩ := w1
  obtain ⟨_, aa, acap, rfl, _, _⟩ := id hta
  obtain ⟨_, ba, bcap, rfl, _, _⟩ := id htb
  have HTA := Lib.hid (And.intro hta htab)
  have HTB := Lib.hid (And.intro htb htbb)
  clear hta htab htb htbb
  go_enter Try.func5, Try.ntmps5
  go_wp2_with fail
  refine (begun6 w).mono ?_
  rintro e wb ⟨rfl, kb⟩
  have HKB := Lib.hid kb
  clear kb
  go_wp2_with fail
  refine (New_any 70 70 rfl).mono ?_
  rintro e w3 ⟨d, sb, rfl, hD3, hK3, hb3, hsb3⟩
  have HDB := Lib.hid (And.intro hb3 hsb3)
  have HD3 := Lib.hid hD3
  have HK3 := Lib.hid (HKB.out.trans hK3)
  clear hD3 hK3 hb3 hsb3
  go_wp2_with fail
  refine (open_new HD3.out 1 4 ⟨by decide, by decide⟩ (by decide)).mono ?_
  rintro e w4 ⟨lx, vx, sx, rx, rfl, hL4, hS4, hr4, hK4⟩
  have HL4 := Lib.hid hL4
  have HS4 := Lib.hid hS4
  have HR4 := Lib.hid hr4
  have HD4 := Lib.hid (HD3.out.keep hK4 (by simp) (by simp))
  have HK4 := Lib.hid (HK3.out.trans hK4)
  clear hL4 hS4 hr4 hK4
  go_wp2_with fail
  refine (open_new HD4.out 33 4 ⟨by decide, by decide⟩ (by decide)).mono ?_
  rintro e w5 ⟨ly, vy, sy, ry, rfl, hL5, hS5, hr5, hK5⟩
  have hap : Ap w w5 w3.heap.size w4.heap.size d sb lx ly rx ry 0 0 := ⟨vx, sx, true, vy, sy, true, _, 0, [], [], HL4.out.still hK5, hL5, HD4.out.keep hK5 (by simp) (by simp), by decide, by simp, by rw [HS4.out]; exact Tail.nil 4, by rw [hS5]; exact Tail.nil 4, ⟨rfl, by simp⟩, ⟨rfl, by simp⟩,
    (fun q hq hq2 => by have h1 := (HL4.out.at_.lt q hq).2; have h2 := (hL5.at_.lt q hq2).1; omega), ⟨HK3.out.size, HK4.out.size, by have := HDB.out.1; have := HKB.out.size; omega, by have := HDB.out.2; have := HKB.out.size; omega⟩, HK4.out.trans hK5⟩
  have HAP := Lib.hid hap
  have HR5 := Lib.hid (And.intro HR4.out hr5)
  clear hL5 hS5 hr5 hK5 hap
  go_wp2_with fail
  go_loopw [11, 12, 13] (fun s11 s12 s13 wr => ∃ (n m i : Nat), s11 = .int .i64 (n : Int) ∧ s12 = .int .i64 (m : Int) ∧ s13 = .int .i64 (i : Int) ∧ i ≤ 3 ∧ n ≤ i ∧ m ≤ i ∧ Ap w wr w3.heap.size w4.heap.size d sb lx ly rx ry n m) (fun _ _ x _ => 4 - (intOf x).toNat)
  case atStart => exact ⟨0, 0, 0, rfl, rfl, rfl, by decide, by decide, by decide, HAP.out⟩
  case round =>
  obtain ⟨n, m, i, rfl, rfl, rfl, hi, hn, hm, hA⟩ := hrel
  have HA := Lib.hid hA
  have HNM := Lib.hid (show n ≤ 3 ∧ m ≤ 3 from by omega)
  clear hA
  by_cases hi3 : i < 3
  · have q0 : decide ((i : Int) < 3) = true := decide_eq_true (by omega)
    have hcell : ∀ (W : World), Keep [] w W → ∀ (v : Value) (a : Option Addr) (cap : Nat) (ts : List (Value × List Nat)), v = .slice a ts.length cap → Rv w 1 v ts.length (ts.map Prod.fst) → i < ts.length → ∃ ab ao, a = some ⟨ab, ao, none⟩ ∧ W.cell? ⟨ab, ao + i, none⟩ = (ts[i]?).map Prod.fst := by
      intro W k v a cap ts hv h hit
      subst hv
      obtain ⟨sb, so, cap', he, _, _, hc⟩ := (h.keep k (by simp)).at1 (by omega)
      injection he with h1 h2 h3
      exact ⟨sb, so, h1, by rw [hc i hit, List.getElem?_map]⟩
    have HCELL := Lib.hid hcell
    clear hcell
    go_upto_region 13 with fail
    obtain ⟨ba1, hba1⟩ : ∃ b : Bool, b = fitB ta i := ⟨_, rfl⟩
    have Hba1 := Lib.hid hba1
    clear hba1
    go_cut [63] (fun s wc => s = .bool ba1 ∧ wr = wc)
    case first =>
      by_cases hit : i < ta.length
      · obtain ⟨p, hp⟩ : ∃ p, ta[i]? = some p := ⟨_, List.getElem?_eq_getElem hit⟩
        have hfit : ba1 = decide (0 < p.2.length ∧ p.2.length ≤ 40) := by rw [Hba1.out]; unfold fitB; rw [hp]
        have hrd := (HTA.out.2 p (List.mem_of_getElem? hp)).1
        obtain ⟨_, pa, pcap, hpv, _, _⟩ := id hrd
        have HKW : Hid (Keep [] w wr) := Lib.hid (by obtain ⟨_, _, _, _, _, _, _, _, _, _, h⟩ := HA.out; exact h.keep)
        obtain ⟨ab, ao, hab, c0⟩ := HCELL.out wr HKW.out _ _ _ ta rfl HTA.out.1 hit
        rw [hp] at c0
        have c0' : wr.cell? ⟨ab, ao + i, none⟩ = some (.slice pa p.2.length pcap) := by rw [c0]; exact congrArg some hpv
        subst hab
        have q1 : decide ((i : Int) < (ta.length : Int)) = true := decide_eq_true (by omega)
        have q1' : decide (i < ta.length) = true := decide_eq_true hit
        obtain ⟨N, hN⟩ : ∃ N, N = p.2.length := ⟨_, rfl⟩
        rw [← hN] at c0' hfit
        have HF := Lib.hid hfit
        clear hp hrd hpv c0 hfit hN
        by_cases h1 : 0 < N
        · have q2 : decide ((N : Int) > 0) = true := decide_eq_true (by omega)
          have q2' : decide (0 < N) = true := decide_eq_true h1
          by_cases h2 : N ≤ 40
          · have q3 : decide ((N : Int) ≤ 40) = true := decide_eq_true (by omega)
            have q3' : decide (N ≤ 40) = true := decide_eq_true h2
            go_wp2_with fail
            go_meet
            exact ⟨by rw [HF.out]; simp [h1, h2], rfl⟩
          · have q3 : decide ((N : Int) ≤ 40) = false := decide_eq_false (by omega)
            have q3' : decide (N ≤ 40) = false := decide_eq_false h2
            go_wp2_with fail
            go_meet
            exact ⟨by rw [HF.out]; simp [h1, h2], rfl⟩
        · have h1' : N = 0 := by omega
          subst h1'
          have q2 : decide (((0 : Nat) : Int) > 0) = false := by simp
          have q2' : decide ((0 : Int) > 0) = false := by simp
          go_wp2_with fail
          go_meet
          exact ⟨by rw [HF.out]; simp, rfl⟩
      · have q1 : decide ((i : Int) < (ta.length : Int)) = false := decide_eq_false (by omega)
        have q1' : decide (i < ta.length) = false := decide_eq_false hit
        have hfit : ba1 = false := by rw [Hba1.out]; unfold fitB; rw [List.getElem?_eq_none (by omega)]
        subst hfit
        go_wp2_with fail
        go_meet
        exact ⟨rfl, rfl⟩
    case rest =>
    obtain ⟨rfl, rfl⟩ := hcut
    go_upto_if 63 with fail
    go_cut [11] (fun s wc => ∃ n2 : Nat, s = .int .i64 (n2 : Int) ∧ n2 ≤ i + 1 ∧ Ap w wc w3.heap.size w4.heap.size d sb lx ly rx ry n2 m)
    case first =>
      cases ba1 with
      | false =>
        go_wp2_with fail
        go_meet
        exact ⟨n, rfl, by omega, HA.out⟩
      | true =>
        have hit : i < ta.length := by
          apply Nat.lt_of_not_le
          intro hle
          have h1 := Hba1.out
          unfold fitB at h1
          rw [List.getElem?_eq_none hle] at h1
          cases h1
        obtain ⟨p, hp⟩ : ∃ p, ta[i]? = some p := ⟨_, List.getElem?_eq_getElem hit⟩
        have hfit : 0 < p.2.length ∧ p.2.length ≤ 40 := by
          have h1 := Hba1.out
          unfold fitB at h1
          rw [hp] at h1
          exact of_decide_eq_true h1.symm
        have hrd := (HTA.out.2 p (List.mem_of_getElem? hp))
        obtain ⟨_, pa, pcap, hpv, _, _⟩ := id hrd.1
        have HKW : Hid (Keep [] w wr) := Lib.hid (by obtain ⟨_, _, _, _, _, _, _, _, _, _, h⟩ := HA.out; exact h.keep)
        obtain ⟨ab, ao, hab, c0⟩ := HCELL.out wr HKW.out _ _ _ ta rfl HTA.out.1 hit
        rw [hp] at c0
        have c0' : (wr : World).cell? ⟨ab, ao + i, none⟩ = some (.slice pa p.2.length pcap) := by rw [c0]; exact congrArg some hpv
        subst hab
        have hrdw := hrd.1.keep HKW.out (by simp)
        rw [hpv] at hrdw
        have HAPP := Lib.hid (HA.out.appX HNM.out (by have := HR5.out; omega) hrdw hfit hrd.2.2 (fun q hq => hrd.1.lo q (by rw [hpv]; exact hq) hfit.1))
        clear hp hrd hpv c0 hfit hrdw
        go_wp2_with fail
        refine HAPP.out.mono ?_
        rintro e w7 ⟨rfl, hA7⟩
        have HA7 := Lib.hid hA7
        clear hA7 c0'
        go_wp2_with fail
        go_meet
        exact ⟨n + 1, by go_num, by omega, HA7.out⟩
    case rest =>
    obtain ⟨n2, rfl, hn2, hA8⟩ := hcut
    have HN2 := Lib.hid hn2
    clear hn2
    have HA2 := Lib.hid hA8
    clear hA8
    go_upto_region 18 with fail
    obtain ⟨bb1, hbb1⟩ : ∃ b : Bool, b = fitB tb i := ⟨_, rfl⟩
    have Hbb1 := Lib.hid hbb1
    clear hbb1
    go_cut [96] (fun s wd => s = .bool bb1 ∧ wc = wd)
    case first =>
      by_cases hit : i < tb.length
      · obtain ⟨p, hp⟩ : ∃ p, tb[i]? = some p := ⟨_, List.getElem?_eq_getElem hit⟩
        have hfit : bb1 = decide (0 < p.2.length ∧ p.2.length ≤ 40) := by rw [Hbb1.out]; unfold fitB; rw [hp]
        have hrd := (HTB.out.2 p (List.mem_of_getElem? hp)).1
        obtain ⟨_, pa, pcap, hpv, _, _⟩ := id hrd
        have HKW : Hid (Keep [] w wc) := Lib.hid (by obtain ⟨_, _, _, _, _, _, _, _, _, _, h⟩ := HA2.out; exact h.keep)
        obtain ⟨ab, ao, hab, c0⟩ := HCELL.out wc HKW.out _ _ _ tb rfl HTB.out.1 hit
        rw [hp] at c0
        have c0' : wc.cell? ⟨ab, ao + i, none⟩ = some (.slice pa p.2.length pcap) := by rw [c0]; exact congrArg some hpv
        subst hab
        have q1 : decide ((i : Int) < (tb.length : Int)) = true := decide_eq_true (by omega)
        have q1' : decide (i < tb.length) = true := decide_eq_true hit
        obtain ⟨N, hN⟩ : ∃ N, N = p.2.length := ⟨_, rfl⟩
        rw [← hN] at c0' hfit
        have HF := Lib.hid hfit
        clear hp hrd hpv c0 hfit hN
        by_cases h1 : 0 < N
        · have q2 : decide ((N : Int) > 0) = true := decide_eq_true (by omega)
          have q2' : decide (0 < N) = true := decide_eq_true h1
          by_cases h2 : N ≤ 40
          · have q3 : decide ((N : Int) ≤ 40) = true := decide_eq_true (by omega)
            have q3' : decide (N ≤ 40) = true := decide_eq_true h2
            go_wp2_with fail
            go_meet
            exact ⟨by rw [HF.out]; simp [h1, h2], rfl⟩
          · have q3 : decide ((N : Int) ≤ 40) = false := decide_eq_false (by omega)
            have q3' : decide (N ≤ 40) = false := decide_eq_false h2
            go_wp2_with fail
            go_meet
            exact ⟨by rw [HF.out]; simp [h1, h2], rfl⟩
        · have h1' : N = 0 := by omega
          subst h1'
          have q2 : decide (((0 : Nat) : Int) > 0) = false := by simp
          have q2' : decide ((0 : Int) > 0) = false := by simp
          go_wp2_with fail
          go_meet
          exact ⟨by rw [HF.out]; simp, rfl⟩
      · have q1 : decide ((i : Int) < (tb.length : Int)) = false := decide_eq_false (by omega)
        have q1' : decide (i < tb.length) = false := decide_eq_false hit
        have hfit : bb1 = false := by rw [Hbb1.out]; unfold fitB; rw [List.getElem?_eq_none (by omega)]
        subst hfit
        go_wp2_with fail
        go_meet
        exact ⟨rfl, rfl⟩
    case rest =>
    obtain ⟨rfl, rfl⟩ := hcut
    cases bb1 with
    | false =>
      go_wp2_with fail
      go_roundw
      case rel => exact ⟨n2, m, i + 1, rfl, rfl, by go_num, by omega, HN2.out, by omega, HA2.out⟩
      case measure => simp only [intOf]; omega
    | true =>
      have hit : i < tb.length := by
        apply Nat.lt_of_not_le
        intro hle
        have h1 := Hbb1.out
        unfold fitB at h1
        rw [List.getElem?_eq_none hle] at h1
        cases h1
      obtain ⟨p, hp⟩ : ∃ p, tb[i]? = some p := ⟨_, List.getElem?_eq_getElem hit⟩
      have hfit : 0 < p.2.length ∧ p.2.length ≤ 40 := by
        have h1 := Hbb1.out
        unfold fitB at h1
        rw [hp] at h1
        exact of_decide_eq_true h1.symm
      have hrd := (HTB.out.2 p (List.mem_of_getElem? hp))
      obtain ⟨_, pa, pcap, hpv, _, _⟩ := id hrd.1
      have HKW : Hid (Keep [] w wc) := Lib.hid (by obtain ⟨_, _, _, _, _, _, _, _, _, _, h⟩ := HA2.out; exact h.keep)
      obtain ⟨ab, ao, hab, c0⟩ := HCELL.out wc HKW.out _ _ _ tb rfl HTB.out.1 hit
      rw [hp] at c0
      have c0' : (wc : World).cell? ⟨ab, ao + i, none⟩ = some (.slice pa p.2.length pcap) := by rw [c0]; exact congrArg some hpv
      subst hab
      have hrdw := hrd.1.keep HKW.out (by simp)
      rw [hpv] at hrdw
      have HAPP := Lib.hid (HA2.out.appY (by have := HN2.out; have := HNM.out; omega) (by have := HR5.out; omega) hrdw hfit hrd.2.2 (fun q hq => hrd.1.lo q (by rw [hpv]; exact hq) hfit.1))
      clear hp hrd hpv c0 hfit hrdw
      go_wp2_with fail
      refine HAPP.out.mono ?_
      rintro e w7 ⟨rfl, hA7⟩
      have HA7 := Lib.hid hA7
      clear hA7 c0'
      go_wp2_with fail
      go_roundw
      case rel => exact ⟨n2, m + 1, i + 1, rfl, by go_num, by go_num, by omega, HN2.out, by omega, HA7.out⟩
      case measure => simp only [intOf]; omega
  · obtain rfl : i = 3 := by omega
    have q0 : decide (((3 : Nat) : Int) < 3) = false := by simp
    have q0' : decide ((3 : Int) < 3) = false := by simp
    obtain ⟨vx, sx, fx, vy, sy, fy, L, c, ax, ay, h⟩ := HA.out
    have H := Lib.hid h
    clear h
    go_wp2_with fail
    refine (LFlush_any H.out.x.at_ H.out.dev (by have := H.out.few; omega)).mono ?_
    rintro e w6 ⟨rfl, hD6, hK6⟩
    have HX6 := Lib.hid (H.out.x.flushed (by decide) hK6 H.out.dev)
    have HY6 := Lib.hid (H.out.y.flushed (by decide) hK6 H.out.dev)
    have HD6 := Lib.hid hD6
    have HK6 : Hid (Keep [] w w6) := Lib.hid (H.out.keep.then hK6 (fun x hx hlt => by simp at hx; have := H.out.low; omega))
    clear hD6 hK6
    go_wp2_with fail
    refine (LFlush_any HY6.out.at_ HD6.out (by have := H.out.few; omega)).mono ?_
    rintro e w7 ⟨rfl, hD7, hK7⟩
    have HX7 := Lib.hid (HX6.out.flushed (by decide) hK7 HD6.out)
    have HY7 := Lib.hid (HY6.out.flushed (by decide) hK7 HD6.out)
    have HD7 := Lib.hid hD7
    have HK7 : Hid (Keep [] w w7) := Lib.hid (HK6.out.then hK7 (fun x hx hlt => by simp at hx; have := H.out.low; omega))
    clear hD7 hK7
    have HLEN : Hid ((L.map flushSec).length = 70) := Lib.hid (by simp [H.out.len])
    have HNOW : Hid (∀ i, i < 70 → nowF (crashN ((L.map flushSec).map flushSec) [] ((L.map flushSec).map flushSec).length) i = nowF ((L.map flushSec).map flushSec) i) := Lib.hid (fun i hi => by
      rw [nowF_crash _ _ _ (by rw [HLEN.out]; exact hi)]
      simp only [nowF_flush])
    have HDX := Lib.hid (HX7.out.dev.congr (L' := crashN ((L.map flushSec).map flushSec) [] ((L.map flushSec).map flushSec).length) (fun i h1 h2 => HNOW.out i (by omega)) (by decide))
    have HDY := Lib.hid (HY7.out.dev.congr (L' := crashN ((L.map flushSec).map flushSec) [] ((L.map flushSec).map flushSec).length) (fun i h1 h2 => HNOW.out i (by omega)) (by decide))
    have HCL : Hid ((crashN ((L.map flushSec).map flushSec) [] ((L.map flushSec).map flushSec).length).length = 70) := Lib.hid (by rw [crashN_len]; simp [H.out.len])
    have HSX : Hid ((sx.map Sg.ps).flatMap PS.rs = ax) := Lib.hid (H.out.tx.all H.out.x.say (by rw [H.out.nx.1]; exact HNM.out.1) H.out.nx.2)
    have HSY : Hid ((sy.map Sg.ps).flatMap PS.rs = ay) := Lib.hid (H.out.ty.all H.out.y.say (by rw [H.out.ny.1]; exact HNM.out.2) H.out.ny.2)
    go_wp2_with fail
    refine (Crash_any HD7.out (.slice none 0 0) [] (Rv.nil _ _) (by decide)).mono ?_
    rintro e w8 ⟨d8, sb8, rfl, hD8, hK8, hd8, hsb8⟩
    have HD8 := Lib.hid hD8
    have HK8 := Lib.hid (HK7.out.trans hK8)
    have HDD8 := Lib.hid (HD7.out.keep hK8 (by simp) (by simp))
    clear hD8 hK8 hd8 hsb8
    go_wp2_with fail
    refine (openOk HD8.out HDX.out HX7.out.say (by omega) (by have := HR5.out; omega) (by have := HNM.out; omega) ⟨by decide, by decide⟩ (by rw [HCL.out]; decide) (by have := HX7.out.say.len; omega)).mono ?_
    rintro e w9 ⟨lu, vu, su, ru, rfl, hL9, hS9, hr9, hK9⟩
    have HL9 := Lib.hid hL9
    have HS9 := Lib.hid hS9
    have HK9 := Lib.hid (HK8.out.trans hK9)
    have HDD9 := Lib.hid (HDD8.out.keep hK9 (by simp) (by simp))
    clear hL9 hS9 hr9 hK9
    go_wp2_with fail
    refine (Crash_any HDD9.out (.slice none 0 0) [] (Rv.nil _ _) (by decide)).mono ?_
    rintro e wa ⟨da, sba, rfl, hDa, hKa, hda, hsba⟩
    have HDa := Lib.hid hDa
    have HKa := Lib.hid (HK9.out.trans hKa)
    have HLa := Lib.hid (HL9.out.still hKa)
    clear hDa hKa hda hsba
    go_wp2_with fail
    refine (openOk HDa.out HDY.out HY7.out.say (by omega) (by have := HR5.out; omega) (by have := HNM.out; omega) ⟨by decide, by decide⟩ (by rw [HCL.out]; decide) (by have := HY7.out.say.len; omega)).mono ?_
    rintro e wc ⟨lv, vv, sv, rv, rfl, hLc, hSc, hrc, hKc⟩
    have HLc := Lib.hid hLc
    have HSc := Lib.hid hSc
    have HKc := Lib.hid (HKa.out.trans hKc)
    have HLu := Lib.hid (HLa.out.still hKc)
    have HALLU := Lib.hid (All_any HLu.out.at_ (HLu.out.sizes (by decide)).1 (HLu.out.sizes (by decide)).2.1)
    clear hLc hSc hrc hKc
    go_wp2_with fail
    refine HALLU.out.mono ?_
    rintro e wd ⟨va, La, rfl, hRa, hLa, hKa⟩
    have hla : La.length = n := by
      have := congrArg List.length hLa
      rw [flatR, HS9.out, HSX.out, H.out.nx.1] at this
      simpa using this
    obtain ⟨aa2, ca2, rfl⟩ := hRa.slice
    rw [hla]
    have HKd := Lib.hid (HKc.out.trans hKa)
    have HLd := Lib.hid (HLc.out.still hKa)
    have HALLV := Lib.hid (All_any HLd.out.at_ (HLd.out.sizes (by decide)).1 (HLd.out.sizes (by decide)).2.1)
    have e1 : ((n : Int) == (n : Int)) = true := by simp
    clear hRa hLa hKa hla
    go_wp2_with fail
    refine HALLV.out.mono ?_
    rintro e we ⟨vb, Lb, rfl, hRb, hLb, hKb⟩
    have hlb : Lb.length = m := by
      have := congrArg List.length hLb
      rw [flatR, HSc.out, HSY.out, H.out.ny.1] at this
      simpa using this
    obtain ⟨ab2, cb2, rfl⟩ := hRb.slice
    rw [hlb]
    have HKe := Lib.hid (HKd.out.trans hKb)
    have e2 : ((m : Int) == (m : Int)) = true := by simp
    clear hRb hLb hKb hlb
    go_wp2_with fail
    go_ret
    exact ⟨rfl, HKe.out.below⟩
end Go.Proofs.Ytilhbhbdggghoaa
