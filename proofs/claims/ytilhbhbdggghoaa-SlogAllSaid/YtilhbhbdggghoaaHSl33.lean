/- slog: the law's own view of a log (shows), walked. -/
import Derived.Test.YtilhbhbdggghoaaHSl32
namespace Go.Proofs.Ytilhbhbdggghoaa
open Go.ChangeShapes Go.WideShapes Go.ChangeAt Go.RowKit
set_option linter.unusedVariables false
set_option linter.unusedSimpArgs false
set_option maxRecDepth 100000

theorem uniq_pos {R : List Rcd} (h : R.Pairwise (fun a b => a.1 < b.1)) {a b : Rcd} (ha : a ∈ R) (hb : b ∈ R) (he : a.1 = b.1) : a = b := by
  obtain ⟨i, hi, rfl⟩ := List.getElem_of_mem ha
  obtain ⟨j, hj, rfl⟩ := List.getElem_of_mem hb
  rw [List.pairwise_iff_getElem] at h
  rcases Nat.lt_trichotomy i j with h1 | h1 | h1
  · have := h i j hi hj h1; omega
  · subst h1; rfl
  · have := h j i hj hi h1; omega
/-- A record that is there is read. -/
theorem GotRec.is {w0 w' : World} {l : List Sg} {r : Rcd} {e : Ending} (h : GotRec w0 l r.1 e w') (hr : r ∈ l.flatMap Sg.rs) (hp : (l.flatMap Sg.rs).Pairwise (fun a b => a.1 < b.1)) : ∃ a c, e = .returned (.tuple #[.slice a r.2.length c, .int .i64 0]) ∧ Buf w' w0.heap.size 5 (.slice a r.2.length c) r.2 := by
  rcases h with ⟨v, r', rfl, hr', hp', hB⟩ | ⟨_, hno⟩
  · have := uniq_pos hp hr' hr hp'
    subst this
    obtain ⟨a, c, rfl⟩ := hB.slice
    exact ⟨a, c, rfl, hB⟩
  · exact absurd rfl (hno r hr)
set_option maxRecDepth 100000 in
set_option maxHeartbeats 16000000 in
theorem shows_any {w : World} {B lb d segs nx run q base : Nat} {fr : Bool} {vl v : Value} {l : List Sg} {L : List Sec} {A : List Ar} (h : LogOk w B lb d 2 segs nx run fr vl l L q) (hsg : 3 ≤ segs ∧ segs ≤ 12) (hA : ARow w base v A)
    (hok : ∀ a ∈ A, a.r.2.length ≤ 300 ∧ (∀ c ∈ a.r.2, c < 256) ∧ a.r.1 < 140737488355328 ∧ a.op ≤ 80) (hup : A.Pairwise (fun a b => a.r.1 < b.r.1)) (hAl : A.length ≤ 80) (hT : Tail segs (l.map Sg.ps) (A.map (·.r))) :
    Calls Try.prog 17 #[.pointer (some ⟨lb, 0, none⟩), v, .int .i64 (segs : Int), .int .i64 (A.length : Int)] w fun e w' => e = .returned (.bool true) ∧ Keep [] w w' := by
  obtain ⟨va, vc, rfl⟩ := hA.slice
  have hsz := h.sizes (by omega)
  have HALL := Lib.hid (All_any h.at_ hsz.1 hsz.2.1)
  have HREAD : Hid (∀ W, Keep [] w W → ∀ pos : Nat, pos < 281474976710656 → Calls Try.prog 13 #[.pointer (some ⟨lb, 0, none⟩), .int .i64 (pos : Int)] W fun e w' => GotRec W l pos e w' ∧ Keep [] W w') := Lib.hid (fun W k pos hp => LRead_any (h.still k).at_ hsz.1 hsz.2.1 hsz.2.2 pos hp)
  have HFIRST : Hid (∀ W, Keep [] w W → Calls Try.prog 18 #[.pointer (some ⟨lb, 0, none⟩)] W fun e w' => e = .returned (.int .i64 (firstPos l nx : Int)) ∧ w' = W) := Lib.hid (fun W k => First_any (h.still k).at_ hsz.1.1)
  have HNEXT : Hid (∀ W, Keep [] w W → Calls Try.prog 19 #[.pointer (some ⟨lb, 0, none⟩)] W fun e w' => e = .returned (.int .i64 (nx : Int)) ∧ w' = W) := Lib.hid (fun W k => Next_any (h.still k).at_)
  have HFP : Hid ((l.flatMap Sg.rs).Pairwise (fun a b => a.1 < b.1)) := Lib.hid (by rw [flatR]; exact h.say.pos)
  have HBEL : Hid (∀ r ∈ l.flatMap Sg.rs, 1 ≤ r.1 ∧ r.1 < nx) := Lib.hid (by rw [flatR]; exact h.say.below)
  obtain ⟨k, hk, hkl, _⟩ := hT.tail
  rw [← flatR] at hk
  rw [List.length_map] at hkl
  have HTH : Hid (∀ i, i < A.length → costA (A.drop i) ≤ 200 * (segs - 2) → ∀ a, A[i]? = some a → a.r ∈ l.flatMap Sg.rs) := Lib.hid (fun i hi hc a ha => by
    obtain ⟨r, hr, hm⟩ := hT.there h.say hsg.1 i (by rw [List.length_map]; exact hi) (by
      have := costA_ge (A.drop i)
      rw [List.map_drop] at this
      omega)
    rw [List.getElem?_map, ha] at hr
    injection hr with hr
    have hr2 : a.r = r := hr
    rw [flatR, hr2]; exact hm)
  have HOK := Lib.hid hok
  have HAL := Lib.hid (And.intro hAl hsg)
  have HK0 := Lib.hid (And.intro hk hkl)
  have HCELL : Hid (∀ W, Keep [] w W → 0 < A.length → ∃ g, va = some ⟨g, 0, none⟩ ∧ ∀ i a, A[i]? = some a → W.cell? ⟨g, i * 4, none⟩ = some (.int .i64 (a.r.1 : Int)) ∧ W.cell? ⟨g, i * 4 + 1, none⟩ = some (.string (toStr a.r.2)) ∧ W.cell? ⟨g, i * 4 + 2, none⟩ = some (.int .i64 (a.op : Int)) ∧ W.cell? ⟨g, i * 4 + 3, none⟩ = some (.bool false)) := Lib.hid (fun W k0 hp => by
    obtain ⟨g, c, hv, hc⟩ := (hA.keep k0 (by simp)).at_ hp
    injection hv with h1 h2 h3
    exact ⟨g, h1, hc⟩)
  have HUP : Hid (∀ (i j : Nat) (a b : Ar), A[i]? = some a → A[j]? = some b → i < j → a.r.1 < b.r.1) := Lib.hid (fun i j a b ha hb hij => by
    obtain ⟨hi, rfl⟩ := List.getElem?_eq_some_iff.1 ha
    obtain ⟨hj, rfl⟩ := List.getElem?_eq_some_iff.1 hb
    exact List.pairwise_iff_getElem.1 hup i j hi hj hij)
  clear h hA hok hup hAl hT hsz hk hkl hsg
  go_enter Try.func17, Try.ntmps17
  go_wp2_with fail
  refine HALL.out.mono ?_
  rintro e wa ⟨vm, La, rfl, hRa, hLa, hKa⟩
  obtain ⟨M, hM⟩ : ∃ M, M = La.length := ⟨_, rfl⟩
  obtain ⟨ma, mc, rfl⟩ := hRa.slice
  rw [← hM] at hRa ⊢
  have hMk : M + k = A.length := by
    have := congrArg List.length hLa
    rw [List.length_map, HK0.out.1, List.length_drop, List.length_map] at this
    have := HK0.out.2
    omega
  have HLA : Hid (∀ i y, La[i]? = some y → ∃ a, A[k + i]? = some a ∧ y.r = a.r) := Lib.hid (fun i y hy => by
    have h1 : (La.map (·.r))[i]? = some y.r := by rw [List.getElem?_map, hy]; rfl
    rw [hLa, HK0.out.1, List.getElem?_drop, List.getElem?_map] at h1
    cases ha : A[k + i]? with
    | none => rw [ha] at h1; cases h1
    | some a =>
      rw [ha] at h1
      injection h1 with h1
      exact ⟨a, rfl, h1.symm⟩)
  have HFL : Hid (∀ i a, A[k + i]? = some a → a.r ∈ l.flatMap Sg.rs) := Lib.hid (fun i a ha => by
    rw [HK0.out.1]
    refine List.mem_of_getElem? (i := i) ?_
    rw [List.getElem?_drop, List.getElem?_map, ha]; rfl)
  have HRA := Lib.hid (hRa.mono (Nat.zero_le _))
  have HMM := Lib.hid hM
  have HMK := Lib.hid hMk
  have HKA := Lib.hid hKa
  have HROW : Hid (∀ W, Keep [] wa W → 0 < M → ∃ g, ma = some ⟨g, 0, none⟩ ∧ ∀ i y, La[i]? = some y → W.cell? ⟨g, i * 2, none⟩ = some (.int .i64 (y.r.1 : Int)) ∧ ∃ ya yc, W.cell? ⟨g, i * 2 + 1, none⟩ = some (.slice ya y.r.2.length yc) ∧ Buf W 0 5 (.slice ya y.r.2.length yc) y.r.2) := Lib.hid (fun W k0 hp => by
    have hr := HRA.out.still k0
    obtain ⟨g, c, hv, _⟩ := hr.at_ 0 (by omega)
    rw [← HMM.out] at hv
    injection hv with h1 h2 h3
    refine ⟨g, h1, fun i y hy => ?_⟩
    obtain ⟨hi, hy2⟩ := List.getElem?_eq_some_iff.1 hy
    obtain ⟨g2, c2, hv2, e0, e1⟩ := hr.at_ i hi
    rw [← HMM.out] at hv2
    injection hv2 with h4 h5 h6
    rw [h1] at h4
    have h7 : g = g2 := by injection h4 with h4; injection h4
    subst h7
    rw [hy2] at e0 e1
    have hB := (hr.ok y (List.mem_of_getElem? hy)).1
    obtain ⟨ya, yc, hyv⟩ := hB.slice
    rw [hyv] at e1 hB
    exact ⟨e0, ya, yc, e1, hB⟩)
  clear hRa hLa hM hMk hKa
  go_wp2_with fail
  go_loopw [10, 11] (fun s10 s11 wr => ∃ (kk i : Nat), s10 = .int .i64 (kk : Int) ∧ s11 = .int .i64 (i : Int) ∧ i ≤ M ∧ (kk ≤ k ∨ kk < k + i) ∧ Keep [] wa wr) (fun _ x _ => M + 1 - (intOf x).toNat)
  case atStart => exact ⟨0, 0, rfl, rfl, Nat.zero_le _, .inl (Nat.zero_le _), Keep.refl _ _⟩
  case round =>
  obtain ⟨kk, i, rfl, rfl, hi, hkk, hK⟩ := hrel
  have HK := Lib.hid hK
  have HKK := Lib.hid hkk
  clear hK hkk
  by_cases hiM : i < M
  · have q0 : decide ((i : Int) < (M : Int)) = true := decide_eq_true (by omega)
    go_upto_region 6 with fail
    obtain ⟨g, hg, hcl⟩ := HROW.out wr HK.out (by omega)
    subst hg
    obtain ⟨y, hy⟩ : ∃ y, La[i]? = some y := ⟨_, List.getElem?_eq_getElem (by rw [← HMM.out]; exact hiM)⟩
    obtain ⟨a, ha, hya⟩ := HLA.out i y hy
    obtain ⟨p0, ya, yc, p1, hyB⟩ := hcl i y hy
    rw [hya] at p0 p1 hyB
    have HA := Lib.hid ha
    have HYB := Lib.hid hyB
    have HCL := Lib.hid hcl
    clear hcl ha hyB
    go_cut [41] (fun s wc => s = .bool false ∧ Keep [] wr wc)
    case first =>
      cases i with
      | zero =>
        have q1 : decide (((0 : Nat) : Int) > 0) = false := by simp
        have q1' : decide ((0 : Int) > 0) = false := by simp
        rw [show (((0 : Nat) : Nat) : Int) = 0 from rfl]
        clear hy hya p1
        go_quiet (fail)
        have HKQ := Lib.hid (drewnK (Keep.refl [] wr) nq)
        generalize wr.drewN nq = wq at *
        go_wp2_with fail
        go_meet
        exact ⟨rfl, HKQ.out⟩
      | succ j =>
        obtain ⟨y2, hy2⟩ : ∃ y, La[j]? = some y := ⟨_, List.getElem?_eq_getElem (by have := HMM.out; omega)⟩
        obtain ⟨b, hb, hyb⟩ := HLA.out j y2 hy2
        obtain ⟨o0, _⟩ := HCL.out j y2 hy2
        rw [hyb] at o0
        have hlt := HUP.out (k + j) (k + (j + 1)) b a hb HA.out (by omega)
        have q1 : decide (((j + 1 : Nat) : Int) > 0) = true := decide_eq_true (by omega)
        have q1' : decide ((j : Int) + 1 > 0) = true := decide_eq_true (by omega)
        have q2 : decide ((a.r.1 : Int) ≤ (b.r.1 : Int)) = false := decide_eq_false (by omega)
        have q2' : decide (a.r.1 ≤ b.r.1) = false := decide_eq_false (by omega)
        have q3 : j < M := by omega
        have HB1 : Hid (M ≤ 80) := Lib.hid (by have := HAL.out; have := HMK.out; omega)
        have e1 : (0 : Int) ≤ (j : Int) + 1 := by omega
        have e2 : (j : Int) + 1 < (M : Int) := by omega
        have e3 : ((j : Int) + 1).toNat = j + 1 := by omega
        have e4 : IntKind.i64.wrap ((j : Int) + 1 - 1) = (j : Int) := by rw [IntKind.wrap_i64]; have := HB1.out; omega
        have e5 : IntKind.i64.wrap (j : Int) = (j : Int) := by rw [IntKind.wrap_i64]; have := HB1.out; omega
        have e6 : j + 1 < M := hiM
        clear hb hyb hlt hy2 hy hya p1
        go_quiet (fail)
        have HKQ := Lib.hid (drewnK (Keep.refl [] wr) nq)
        generalize wr.drewN nq = wq at *
        clear e1 e2 e3 e4 e5
        go_wp2_with fail
        go_meet
        exact ⟨rfl, HKQ.out⟩
    case rest =>
    obtain ⟨rfl, hKc⟩ := hcut
    have HKC := Lib.hid (HK.out.trans hKc)
    clear hKc p0 p1 hy hya
    go_wp2_with fail
    go_loopw [10] (fun s10 wr2 => ∃ kk2 : Nat, s10 = .int .i64 (kk2 : Int) ∧ kk2 ≤ k + i ∧ Keep [] wa wr2) (fun x _ => k + i + 1 - (intOf x).toNat)
    case atStart => exact ⟨kk, rfl, by have := HKK.out; omega, HKC.out⟩
    case round =>
    obtain ⟨kk2, rfl, hk2, hKr⟩ := hrel
    have HKR := Lib.hid hKr
    have HKW := Lib.hid (HKA.out.trans hKr)
    clear hKr
    obtain ⟨ga, hga, hcA⟩ := HCELL.out wr HKW.out (by have := HMK.out; omega)
    subst hga
    obtain ⟨g2, hg2, hcl⟩ := HROW.out wr HKR.out (by omega)
    have hgg : g2 = g := by injection hg2 with h4; injection h4 with h4; exact h4.symm
    subst hgg
    clear hg2
    obtain ⟨y, hy⟩ : ∃ y, La[i]? = some y := ⟨_, List.getElem?_eq_getElem (by rw [← HMM.out]; exact hiM)⟩
    obtain ⟨a2, ha2, hya⟩ := HLA.out i y hy
    have haa : a2 = a := Option.some.inj (ha2.symm.trans HA.out)
    subst haa
    obtain ⟨p0, ya, yc, p1, hyB⟩ := hcl i y hy
    rw [hya] at p0 p1 hyB
    have HYB := Lib.hid hyB
    have e1 : kk2 < A.length := by have := HMK.out; omega
    have q1 : decide ((kk2 : Int) < (A.length : Int)) = true := decide_eq_true (by omega)
    have q1' : decide (kk2 < A.length) = true := decide_eq_true e1
    clear hcl hyB ha2 hy hya
    go_upto_region 8 with fail
    by_cases hlt : kk2 < k + i
    · obtain ⟨b, hb⟩ : ∃ b, A[kk2]? = some b := ⟨_, List.getElem?_eq_getElem e1⟩
      have hlb := HUP.out kk2 (k + i) b a2 hb HA.out hlt
      obtain ⟨c0, _⟩ := hcA kk2 b hb
      have q2 : decide ((b.r.1 : Int) < (a2.r.1 : Int)) = true := decide_eq_true (by omega)
      have q2' : decide (b.r.1 < a2.r.1) = true := decide_eq_true hlb
      have HKB : Hid (A.length ≤ 80) := Lib.hid HAL.out.1
      clear hcA hb hlb p1
      go_quiet (fail)
      have HKQ := Lib.hid (HKR.out.trans (drewnK (Keep.refl [] wr) nq))
      generalize wr.drewN nq = wq at *
      have hkb := HKB.out
      go_wp2_with fail
      go_roundw
      case rel => exact ⟨kk2 + 1, by go_num, by omega, HKQ.out⟩
      case measure => simp only [intOf]; omega
    · have HKI : Hid (kk2 = k + i) := Lib.hid (by omega)
      have HA2 : Hid (A[kk2]? = some a2) := Lib.hid (by rw [HKI.out]; exact HA.out)
      obtain ⟨c0, c1, _⟩ := hcA kk2 a2 HA2.out
      have q2 : decide ((a2.r.1 : Int) < (a2.r.1 : Int)) = false := by simp
      have q2' : decide (a2.r.1 < a2.r.1) = false := by simp
      clear hcA hlt p1 c1
      go_quiet (fail)
      have HKQ := Lib.hid (HKR.out.trans (drewnK (Keep.refl [] wr) nq))
      clear c0 p0 HKW HYB
      generalize wr.drewN nq = wq at *
      have HKW := Lib.hid (HKA.out.trans HKQ.out)
      have HLT : Hid (kk2 < A.length) := Lib.hid e1
      clear q1 q1' q2 q2' e1
      go_upto_region 10 with fail
      obtain ⟨ga3, hga3, hcA⟩ := HCELL.out wq HKW.out (by have := HMK.out; omega)
      have hgg3 : ga3 = ga := by injection hga3 with h4; injection h4 with h4; exact h4.symm
      subst hgg3
      obtain ⟨g3, hg3, hcl⟩ := HROW.out wq HKQ.out (by omega)
      have hgg4 : g3 = g2 := by injection hg3 with h4; injection h4 with h4; exact h4.symm
      subst hgg4
      obtain ⟨y, hy⟩ : ∃ y, La[i]? = some y := ⟨_, List.getElem?_eq_getElem (by rw [← HMM.out]; exact hiM)⟩
      obtain ⟨a3, ha3, hya⟩ := HLA.out i y hy
      have haa3 : a3 = a2 := Option.some.inj (ha3.symm.trans HA.out)
      subst haa3
      obtain ⟨p0, ya3, yc3, p1, hyB⟩ := hcl i y hy
      rw [hya] at p0 p1 hyB
      obtain ⟨c0, c1, _⟩ := hcA kk2 a3 HA2.out
      have HBY := Lib.hid ((HOK.out a3 (List.mem_of_getElem? HA2.out)).2.1)
      have hcv : ∀ n, (convert 29 9 (.slice ya3 a3.r.2.length yc3)).run Try.prog (wq.drewN n) = .ok (.string (toStr a3.r.2)) (wq.drewN n) := fun n => Rd.str (hyB.keep (drewnK (Keep.refl [] wq) n) (by simp)).rd HBY.out Try.underlying29 Try.underlying5 Try.underlying9
      have q1 : ((kk2 : Int) == (A.length : Int)) = false := by have := HLT.out; simp; omega
      have q2 : (kk2 == A.length) = false := by have := HLT.out; simp; omega
      have q3 : kk2 < A.length := HLT.out
      have q3' : kk2 ≠ A.length := by omega
      have q4 : ((toStr a3.r.2).toList != (toStr a3.r.2).toList) = false := by simp
      clear hcl hcA hy hya ha3 hyB hg3 hga3
      go_quiet (fail)
      have HKZ := Lib.hid (HKQ.out.trans (drewnK (Keep.refl [] wq) nq))
      clear p0 p1 c0 c1 hcv q1 q2 q3 q3' q4 HKW
      generalize wq.drewN nq = wz at *
      have HKW := Lib.hid (HKA.out.trans HKZ.out)
      obtain ⟨g4, hg4, hcl⟩ := HROW.out wz HKZ.out (by omega)
      have hgg5 : g4 = g3 := by injection hg4 with h4; injection h4 with h4; exact h4.symm
      subst hgg5
      obtain ⟨y, hy⟩ : ∃ y, La[i]? = some y := ⟨_, List.getElem?_eq_getElem (by rw [← HMM.out]; exact hiM)⟩
      obtain ⟨a4, ha4, hya⟩ := HLA.out i y hy
      have haa4 : a4 = a3 := Option.some.inj (ha4.symm.trans HA.out)
      subst haa4
      obtain ⟨p0, _⟩ := hcl i y hy
      rw [hya] at p0
      have HRD := Lib.hid (HREAD.out wz HKW.out a4.r.1 (by have := (HOK.out a4 (List.mem_of_getElem? HA2.out)).2.2.1; omega))
      clear hcl hy hya ha4 hg4
      go_wp2_with fail
      refine HRD.out.mono ?_
      rintro e w5 ⟨hG, hK5⟩
      obtain ⟨vb, vbc, rfl, hB5⟩ := hG.is (HFL.out i a4 HA.out) HFP.out
      have HB5 := Lib.hid hB5
      have HK5 := Lib.hid (HKZ.out.trans hK5)
      have HKW5 := Lib.hid (HKA.out.trans HK5.out)
      clear hG hB5 hK5 p0 HKW
      go_upto_region 13 with fail
      obtain ⟨ga5, hga5, hcA⟩ := HCELL.out w5 HKW5.out (by have := HMK.out; omega)
      have hgg6 : ga5 = ga3 := by injection hga5 with h4; injection h4 with h4; exact h4.symm
      subst hgg6
      obtain ⟨_, c1, _⟩ := hcA kk2 a4 HA2.out
      have hcv : ∀ n, (convert 29 9 (.slice vb a4.r.2.length vbc)).run Try.prog (w5.drewN n) = .ok (.string (toStr a4.r.2)) (w5.drewN n) := fun n => Rd.str (HB5.out.keep (drewnK (Keep.refl [] w5) n) (by simp)).rd HBY.out Try.underlying29 Try.underlying5 Try.underlying9
      have q3 : kk2 < A.length := HLT.out
      have q4 : ((toStr a4.r.2).toList != (toStr a4.r.2).toList) = false := by simp
      clear hcA hga5
      go_quiet (fail)
      have HK6 := Lib.hid (HK5.out.trans (drewnK (Keep.refl [] w5) nq))
      clear c1 hcv q3 q4
      generalize w5.drewN nq = w6 at *
      have hb1 : i < 100 := by have := HMK.out; have := HAL.out; omega
      go_wp2_with fail
      go_roundw
      case rel => exact ⟨kk2, i + 1, rfl, by go_num, by omega, .inr (by have := HKI.out; omega), HK6.out⟩
      case measure => simp only [intOf]; omega
  · obtain rfl : M = i := by omega
    have q0 : decide ((M : Int) < (M : Int)) = false := by simp
    have hal := HAL.out.1
    go_wp2_with fail
    go_loopw [14, 15] (fun s14 s15 wr2 => ∃ (j S : Nat) (x : Int), s14 = .int .i64 (S : Int) ∧ s15 = .int .i64 x ∧ x = (j : Int) - 1 ∧ S = costA (A.drop j) ∧ j ≤ A.length ∧ Keep [] wa wr2) (fun _ x _ => (intOf x + 1).toNat)
    case atStart => exact ⟨A.length, 0, _, rfl, rfl, rfl, by rw [List.drop_length]; rfl, Nat.le_refl _, HK.out⟩
    case round =>
    obtain ⟨j, S, x, rfl, rfl, hx, hS, hj, hK2⟩ := hrel
    clear HK HKK
    have HK := Lib.hid hK2
    have HS := Lib.hid hS
    clear hK2 hS
    cases j with
    | zero =>
      have hx1 : x = -1 := by omega
      subst hx1
      clear hx
      go_upto_region 24 with fail
      have HKW := Lib.hid (HKA.out.trans HK.out)
      by_cases hM0 : M = 0
      · have q5 : ((M : Int) == 0) = true := by rw [hM0]; rfl
        clear hM0
        go_quiet (fail)
        have HKQ := Lib.hid (HKW.out.trans (drewnK (Keep.refl [] wr) nq))
        generalize wr.drewN nq = wq at *
        go_wp2_with fail
        go_ret
        exact ⟨rfl, HKQ.out⟩
      · obtain ⟨N1, hN1⟩ : ∃ n, M = n + 1 := ⟨M - 1, by omega⟩
        subst hN1
        obtain ⟨g, hg, hcl⟩ := HROW.out wr HK.out (by omega)
        subst hg
        obtain ⟨y0, hy0⟩ : ∃ y, La[0]? = some y := ⟨_, List.getElem?_eq_getElem (by have := HMM.out; omega)⟩
        obtain ⟨yn, hyn⟩ : ∃ y, La[N1]? = some y := ⟨_, List.getElem?_eq_getElem (by have := HMM.out; omega)⟩
        obtain ⟨a0, ha0, hya0⟩ := HLA.out 0 y0 hy0
        obtain ⟨an, han, hyan⟩ := HLA.out N1 yn hyn
        obtain ⟨p0, _⟩ := hcl 0 y0 hy0
        obtain ⟨pn, _⟩ := hcl N1 yn hyn
        rw [hya0, Nat.zero_mul] at p0
        rw [hyan] at pn
        have hn2 := (HBEL.out an.r (HFL.out N1 an han)).2
        have HF0 : Hid (firstPos l nx = a0.r.1) := Lib.hid (by
          unfold firstPos
          rw [HK0.out.1, List.drop_eq_getElem_cons (by rw [List.length_map]; have := HMK.out; omega)]
          show ((A.map Ar.r)[k]'(by rw [List.length_map]; have := HMK.out; omega)).1 = _
          rw [List.getElem_map]
          obtain ⟨_, h9⟩ := List.getElem?_eq_some_iff.1 ha0
          have h10 : A[k]'(by have := HMK.out; omega) = a0 := h9
          rw [h10])
        have HFIRST2 : Hid (∀ W, Keep [] w W → Calls Try.prog 18 #[.pointer (some ⟨lb, 0, none⟩)] W fun e w' => e = .returned (.int .i64 (a0.r.1 : Int)) ∧ w' = W) := Lib.hid (fun W k0 => by rw [← HF0.out]; exact HFIRST.out W k0)
        have q4 : ((((N1 + 1 : Nat) : Int)) == 0) = false := by simp; omega
        have q4' : (((N1 : Int) + 1) == 0) = false := by simp; omega
        have q5 : decide ((a0.r.1 : Int) ≤ (a0.r.1 : Int)) = true := by simp
        have q6 : decide ((nx : Int) > (an.r.1 : Int)) = true := decide_eq_true (by omega)
        have q6' : decide (an.r.1 < nx) = true := decide_eq_true hn2
        have HB1 : Hid (N1 ≤ 80) := Lib.hid (by have := HAL.out; have := HMK.out; omega)
        have e4 : IntKind.i64.wrap ((N1 : Int) + 1 - 1) = (N1 : Int) := by rw [IntKind.wrap_i64]; have := HB1.out; omega
        have e5 : IntKind.i64.wrap (N1 : Int) = (N1 : Int) := by rw [IntKind.wrap_i64]; have := HB1.out; omega
        have e6 : 0 < N1 + 1 := by omega
        have e7 : N1 < N1 + 1 := by omega
        clear hcl hy0 hyn hya0 hyan ha0 han hM0 hn2
        go_quiet ((first | (go_at_call 18; exact Calls.quiet_of_same (HFIRST2.out _ (HKW.out.trans (drewnK (Keep.refl [] _) _)))) | (go_at_call 19; exact Calls.quiet_of_same (HNEXT.out _ (HKW.out.trans (drewnK (Keep.refl [] _) _))))))
        have HKQ := Lib.hid (HKW.out.trans (drewnK (Keep.refl [] wr) nq))
        clear e4 e5
        generalize wr.drewN nq = wq at *
        go_wp2_with fail
        go_ret
        exact ⟨rfl, HKQ.out⟩
    | succ i =>
      have hx1 : x = (i : Int) := by omega
      subst hx1
      clear hx
      have q1 : decide ((i : Int) ≥ 0) = true := decide_eq_true (by omega)
      have q1' : decide ((0 : Int) ≤ (i : Int)) = true := decide_eq_true (by omega)
      have HIA : Hid (i < A.length) := Lib.hid (by omega)
      obtain ⟨a, ha⟩ : ∃ a, A[i]? = some a := ⟨_, List.getElem?_eq_getElem (by omega)⟩
      have hoa := HOK.out a (List.mem_of_getElem? ha)
      have HKW := Lib.hid (HKA.out.trans HK.out)
      obtain ⟨ga, hga, hcA⟩ := HCELL.out wr HKW.out (by omega)
      subst hga
      obtain ⟨c0, c1, c2, c3⟩ := hcA i a ha
      obtain ⟨CC, hCC⟩ : ∃ C, C = a.r.2.length + 60 + 400 * a.op := ⟨_, rfl⟩
      have HCOST : Hid (Calls Try.prog 34 #[.agg #[.int .i64 (a.r.1 : Int), .string (toStr a.r.2), .int .i64 (a.op : Int), .bool false]] wr fun e w' => e = .returned (.int .i64 (CC : Int)) ∧ Keep [] wr w') := Lib.hid (by rw [hCC]; exact cost_any a ⟨hoa.1, hoa.2.2.2⟩)
      have HS2 : Hid (costA (A.drop i) = S + CC) := Lib.hid (by rw [costA_drop A i a ha, HS.out, hCC]; omega)
      have HSB : Hid (S + CC ≤ 3200000) := Lib.hid (by
        rw [← HS2.out]
        have h1 := costA_le (A.drop i) (fun x hx => ⟨(HOK.out x (List.mem_of_mem_drop hx)).1, (HOK.out x (List.mem_of_mem_drop hx)).2.2.2⟩)
        rw [List.length_drop] at h1
        omega)
      have HA := Lib.hid ha
      have HOA := Lib.hid hoa
      have HCC := Lib.hid hCC
      have hia : i < A.length := HIA.out
      clear hcA ha hoa hCC
      go_wp2_with fail
      refine HCOST.out.mono ?_
      rintro e w5 ⟨rfl, hK5⟩
      have HK5 := Lib.hid (HK.out.trans hK5)
      clear hK5 c0 c1 c2 c3 HKW
      have HKW := Lib.hid (HKA.out.trans HK5.out)
      have hsb := HSB.out
      have hsg := HAL.out.2
      by_cases hbr : 200 * (segs - 2) < S + CC
      · have q2 : decide ((S : Int) + (CC : Int) > 200 * ((segs : Int) - 2)) = true := decide_eq_true (by omega)
        have q2' : decide (200 * ((segs : Int) - 2) < (S : Int) + (CC : Int)) = true := decide_eq_true (by omega)
        clear HK
        have HK := Lib.hid HK5.out
        clear HKW hbr
        generalize hwr : w5 = wr at *
        clear hwr
        go_upto_region 24 with fail
        have HKW := Lib.hid (HKA.out.trans HK.out)
        by_cases hM0 : M = 0
        · have q5 : ((M : Int) == 0) = true := by rw [hM0]; rfl
          clear hM0
          go_quiet (fail)
          have HKQ := Lib.hid (HKW.out.trans (drewnK (Keep.refl [] wr) nq))
          generalize wr.drewN nq = wq at *
          go_wp2_with fail
          go_ret
          exact ⟨rfl, HKQ.out⟩
        · obtain ⟨N1, hN1⟩ : ∃ n, M = n + 1 := ⟨M - 1, by omega⟩
          subst hN1
          obtain ⟨g, hg, hcl⟩ := HROW.out wr HK.out (by omega)
          subst hg
          obtain ⟨y0, hy0⟩ : ∃ y, La[0]? = some y := ⟨_, List.getElem?_eq_getElem (by have := HMM.out; omega)⟩
          obtain ⟨yn, hyn⟩ : ∃ y, La[N1]? = some y := ⟨_, List.getElem?_eq_getElem (by have := HMM.out; omega)⟩
          obtain ⟨a0, ha0, hya0⟩ := HLA.out 0 y0 hy0
          obtain ⟨an, han, hyan⟩ := HLA.out N1 yn hyn
          obtain ⟨p0, _⟩ := hcl 0 y0 hy0
          obtain ⟨pn, _⟩ := hcl N1 yn hyn
          rw [hya0, Nat.zero_mul] at p0
          rw [hyan] at pn
          have hn2 := (HBEL.out an.r (HFL.out N1 an han)).2
          have HF0 : Hid (firstPos l nx = a0.r.1) := Lib.hid (by
            unfold firstPos
            rw [HK0.out.1, List.drop_eq_getElem_cons (by rw [List.length_map]; have := HMK.out; omega)]
            show ((A.map Ar.r)[k]'(by rw [List.length_map]; have := HMK.out; omega)).1 = _
            rw [List.getElem_map]
            obtain ⟨_, h9⟩ := List.getElem?_eq_some_iff.1 ha0
            have h10 : A[k]'(by have := HMK.out; omega) = a0 := h9
            rw [h10])
          have HFIRST2 : Hid (∀ W, Keep [] w W → Calls Try.prog 18 #[.pointer (some ⟨lb, 0, none⟩)] W fun e w' => e = .returned (.int .i64 (a0.r.1 : Int)) ∧ w' = W) := Lib.hid (fun W k0 => by rw [← HF0.out]; exact HFIRST.out W k0)
          have q4 : ((((N1 + 1 : Nat) : Int)) == 0) = false := by simp; omega
          have q4' : (((N1 : Int) + 1) == 0) = false := by simp; omega
          have q5 : decide ((a0.r.1 : Int) ≤ (a0.r.1 : Int)) = true := by simp
          have q6 : decide ((nx : Int) > (an.r.1 : Int)) = true := decide_eq_true (by omega)
          have q6' : decide (an.r.1 < nx) = true := decide_eq_true hn2
          have HB1 : Hid (N1 ≤ 80) := Lib.hid (by have := HAL.out; have := HMK.out; omega)
          have e4 : IntKind.i64.wrap ((N1 : Int) + 1 - 1) = (N1 : Int) := by rw [IntKind.wrap_i64]; have := HB1.out; omega
          have e5 : IntKind.i64.wrap (N1 : Int) = (N1 : Int) := by rw [IntKind.wrap_i64]; have := HB1.out; omega
          have e6 : 0 < N1 + 1 := by omega
          have e7 : N1 < N1 + 1 := by omega
          clear hcl hy0 hyn hya0 hyan ha0 han hM0 hn2
          go_quiet ((first | (go_at_call 18; exact Calls.quiet_of_same (HFIRST2.out _ (HKW.out.trans (drewnK (Keep.refl [] _) _)))) | (go_at_call 19; exact Calls.quiet_of_same (HNEXT.out _ (HKW.out.trans (drewnK (Keep.refl [] _) _))))))
          have HKQ := Lib.hid (HKW.out.trans (drewnK (Keep.refl [] wr) nq))
          clear e4 e5
          generalize wr.drewN nq = wq at *
          go_wp2_with fail
          go_ret
          exact ⟨rfl, HKQ.out⟩
      · have q2 : decide ((S : Int) + (CC : Int) > 200 * ((segs : Int) - 2)) = false := decide_eq_false (by omega)
        have q2' : decide (200 * ((segs : Int) - 2) < (S : Int) + (CC : Int)) = false := decide_eq_false (by omega)
        have HMEM : Hid (a.r ∈ l.flatMap Sg.rs) := Lib.hid (HTH.out i HIA.out (by rw [HS2.out]; omega) a HA.out)
        obtain ⟨ga2, hga2, hcA⟩ := HCELL.out w5 HKW.out (by omega)
        have hgg : ga2 = ga := by injection hga2 with h4; injection h4 with h4; exact h4.symm
        subst hgg
        obtain ⟨c0, _⟩ := hcA i a HA.out
        have HRD := Lib.hid (HREAD.out w5 HKW.out a.r.1 (by have := HOA.out.2.2.1; omega))
        clear hcA hga2 hbr
        go_wp2_with fail
        refine HRD.out.mono ?_
        rintro e w6 ⟨hG, hK6⟩
        obtain ⟨vb, vbc, rfl, hB6⟩ := hG.is HMEM.out HFP.out
        have HB6 := Lib.hid hB6
        have HK6 := Lib.hid (HK5.out.trans hK6)
        have HKW6 := Lib.hid (HKA.out.trans HK6.out)
        clear hG hB6 hK6 c0 q2 q2'
        go_upto_region 22 with fail
        obtain ⟨ga3, hga3, hcA⟩ := HCELL.out w6 HKW6.out (by omega)
        have hgg3 : ga3 = ga2 := by injection hga3 with h4; injection h4 with h4; exact h4.symm
        subst hgg3
        obtain ⟨_, c1, _⟩ := hcA i a HA.out
        have hcv : ∀ n, (convert 29 9 (.slice vb a.r.2.length vbc)).run Try.prog (w6.drewN n) = .ok (.string (toStr a.r.2)) (w6.drewN n) := fun n => Rd.str (HB6.out.keep (drewnK (Keep.refl [] w6) n) (by simp)).rd HOA.out.2.1 Try.underlying29 Try.underlying5 Try.underlying9
        have q4 : ((toStr a.r.2).toList != (toStr a.r.2).toList) = false := by simp
        clear hcA hga3 q1 q1' q0
        go_quiet (fail)
        have HK7 := Lib.hid (HK6.out.trans (drewnK (Keep.refl [] w6) nq))
        clear c1 hcv q4
        generalize w6.drewN nq = w7 at *
        have hb1 : i < 100 := by omega
        go_wp2_with fail
        go_roundw
        case rel => exact ⟨i, S + CC, (i : Int) - 1, by go_num, rfl, rfl, HS2.out.symm, by omega, HK7.out⟩
        case measure => simp only [intOf]; omega
end Go.Proofs.Ytilhbhbdggghoaa
