/- slog: the law SlogOwn: its walk. -/
import Derived.Test.YtilhbhbdggghoaaG8
import Derived.Test.YtilhbhbdggghoaaG1
namespace Go.Proofs.Ytilhbhbdggghoaa
open Go.ChangeShapes Go.WideShapes Go.ChangeAt Go.RowKit
set_option linter.unusedVariables false
set_option linter.unusedSimpArgs false
set_option maxRecDepth 100000

theorem u8_bump (x : Nat) : IntKind.u8.wrap ((x : Int) + 1) = (((x + 1) % 256 : Nat) : Int) := by rw [IntKind.wrap_u8]; omega
theorem app_one (body : List Nat) : appP 4 [] 1 body = [⟨1, 1, [(1, body)]⟩] := rfl
/-- A log that holds one record. -/
theorem one_flat {l : List Sg} {body : List Nat} (h : l.map Sg.ps = [⟨1, 1, [(1, body)]⟩]) : l.length = 1 ∧ (∀ s ∈ l, s.rs = [(1, body)]) ∧ l.flatMap Sg.rs = [(1, body)] := by
  refine ⟨by have := congrArg List.length h; simpa using this, fun s hs => ?_, by rw [flatR, h]; rfl⟩
  have h1 : s.ps ∈ l.map Sg.ps := List.mem_map.2 ⟨s, hs, rfl⟩
  rw [h] at h1
  exact congrArg PS.rs (List.mem_singleton.1 h1)
theorem one_sizes {l : List Sg} {body : List Nat} (h : l.map Sg.ps = [⟨1, 1, [(1, body)]⟩]) : (l.length ≤ 1000 ∧ ∀ s ∈ l, s.recs.length ≤ 1000) ∧ ∀ s ∈ l, PosUp s.recs := by
  obtain ⟨h1, h2, _⟩ := one_flat h
  have hlen : ∀ s ∈ l, s.recs.length = 1 := fun s hs => by
    have := congrArg List.length (h2 s hs)
    simpa [Sg.rs] using this
  refine ⟨⟨by omega, fun s hs => by rw [hlen s hs]; decide⟩, fun s hs => ?_⟩
  match hr : s.recs, hlen s hs with
  | [y], _ => exact List.pairwise_singleton _ _
set_option maxRecDepth 100000 in
set_option maxHeartbeats 8000000 in
theorem slogOwn_walk (a0 : Option Addr) (len cap : Nat) (z0 : List Int) (w : World) (w0 : IsRow .u8 w a0 len cap z0) :
    Calls Try.prog 4 #[.slice a0 len cap] w fun e w' => e = .returned (.bool true) ∧ Below w.heap.size w w' := by
  obtain ⟨l0, rfl, hmax, hr, hb⟩ := w0.rd
  clear w0
  obtain ⟨i8, hi8, hz80, hz81, hz82⟩ := info_parts Try.info8
  have HR := Lib.hid hr
  have HB := Lib.hid hb
  clear hr hb
  go_enter Try.func4, Try.ntmps4
  go_wp2_with fail
  refine (begun6 w).mono ?_
  rintro e wb ⟨rfl, kb⟩
  have HKB := Lib.hid kb
  have HRB := Lib.hid (HR.out.keep kb (by simp))
  clear kb
  by_cases hin : 1 ≤ l0.length ∧ l0.length ≤ 200
  case neg =>
    by_cases h1 : l0.length < 1
    · have q0 : decide ((l0.length : Int) < 1) = true := decide_eq_true (by omega)
      have q0' : decide (l0.length < 1) = true := decide_eq_true (by omega)
      clear hin
      go_wp2_with fail
      go_ret
      exact ⟨rfl, HKB.out.below⟩
    · have q0 : decide ((l0.length : Int) < 1) = false := decide_eq_false (by omega)
      have q1 : decide ((l0.length : Int) > 200) = true := decide_eq_true (by omega)
      have q1' : decide (200 < l0.length) = true := decide_eq_true (by omega)
      have q2 : 200 < l0.length := by omega
      clear hin
      go_wp2_with fail
      go_ret
      exact ⟨rfl, HKB.out.below⟩
  obtain ⟨m1, m2⟩ := hin
  have q0 : decide ((l0.length : Int) < 1) = false := decide_eq_false (by omega)
  have q1 : decide ((l0.length : Int) > 200) = false := decide_eq_false (by omega)
  have q1' : decide (200 < l0.length) = false := decide_eq_false (by omega)
  have q2 : ¬ 200 < l0.length := by omega
  have q3 : ¬ l0.length < 1 := by omega
  obtain ⟨N, hN⟩ : ∃ N, N = l0.length := ⟨_, rfl⟩
  have hsrc := Lib.hid (Rd.src HRB.out Try.underlying29)
  have HBY : Hid (∀ c ∈ l0, c < 256) := HB
  go_upto_region 7 with (at_builtin; refine wpList_append_src _ rfl _ _ 29 29 rfl wb.heap.size 5 i8 (.int .u8 0) 1 1 Try.underlying29 hi8 hz80 hz81 hz82 rfl (by decide) (.slice none 0 0) 0 [] rfl (World.ownsRow_nil wb _ _ 1) _ _ _ rfl hsrc.out (by unfold maxLen; omega) (by omega) (Nat.le_refl _) ?_; intro v2 w2 h2 hg2 h4 h5)
  rw [Nat.zero_add, List.nil_append] at h2
  have hB2 : Buf w2 wb.heap.size 5 v2 l0 := h2
  have hk2 : Keep [] wb w2 := (Keep.grown hg2).mono (by simp [Value.ownBlock])
  have HK2 := Lib.hid (HKB.out.trans hk2)
  clear h2 hg2 h4 h5 hsrc hk2
  obtain ⟨g2, c2, hv2, _, hg2, hg2l⟩ := hB2.own.at_ (by rw [bcs_length]; omega)
  rw [bcs_length] at hv2
  subst hv2
  have hcv : Sem.run Try.prog (convert 29 9 (.slice (some ⟨g2, 0, none⟩) l0.length c2)) w2 = .ok (.string (toStr l0)) w2 := Rd.str (P := Try.prog) hB2.rd HB.out Try.underlying29 Try.underlying5 Try.underlying9
  have HB2 := Lib.hid hB2
  have HG2 := Lib.hid (show wb.heap.size ≤ g2 ∧ g2 < w2.heap.size from ⟨hg2, hg2l⟩)
  clear hB2 hg2 hg2l hN
  go_wp2_with fail
  refine (New_any 40 40 rfl).mono ?_
  rintro e w3 ⟨d, sb, rfl, hD3, hK3, hb3, hsb3⟩
  have HDB := Lib.hid (And.intro hb3 hsb3)
  have HD3 := Lib.hid hD3
  have HB3 := Lib.hid (HB2.out.keep hK3 (by simp))
  have HK3 := Lib.hid (HK2.out.trans hK3)
  have HZ3 := Lib.hid hK3.size
  clear hD3 hK3 hb3 hsb3 hcv
  go_wp2_with fail
  refine (open_new HD3.out 0 4 ⟨by decide, by decide⟩ (by decide)).mono ?_
  rintro e w4 ⟨lb, vl, l, run, rfl, hL4, hS4, hr4, hK4⟩
  have HL4 := Lib.hid hL4
  have HS4 := Lib.hid hS4
  have HR4 := Lib.hid hr4
  have HD4 := Lib.hid (HD3.out.keep hK4 (by simp) (by simp))
  have HB4 := Lib.hid (HB3.out.keep hK4 (by simp))
  have HK4 := Lib.hid (HK3.out.trans hK4)
  clear hL4 hS4 hr4 hK4
  go_wp2_with fail
  refine (appendOk HL4.out HD4.out (by decide) ⟨by decide, by decide⟩ (by have := HR4.out; omega) (by decide) ⟨by decide, by decide⟩ (by decide) HB4.out.rd ⟨m1, by omega⟩ HB.out (fun q hq hm => by
    have e : g2 = q := Option.some.inj hq
    subst e
    have h1 := HG2.out
    have h2 := HDB.out
    have h3 := HZ3.out
    simp only [List.mem_cons] at hm
    rcases hm with h | h | h
    · omega
    · omega
    · have := (HL4.out.at_.lt g2 h).1; omega)).mono ?_
  rintro e w5 ⟨rfl, vl5, l5, L5, c5, hL5, hD5, hc5, hS5, hK5, hF5, hl5, _⟩
  rw [HS4.out, app_one] at hS5
  have HL5 := Lib.hid hL5
  have HS5 := Lib.hid hS5
  have HB5 := Lib.hid (HB4.out.keep hK5 (fun q hq hm => by
    have e : g2 = q := Option.some.inj hq
    subst e
    have h1 := HG2.out
    have h2 := HDB.out
    have h3 := HZ3.out
    simp only [List.mem_cons] at hm
    rcases hm with h | h | h
    · omega
    · omega
    · have := (HL4.out.at_.lt g2 h).1; omega))
  have HK5 := Lib.hid (logKeep HL4.out.at_ HK3.out.size (by have := HDB.out; have := HK2.out.size; omega) (by have := HDB.out; have := HK2.out.size; omega) HK4.out hK5)
  clear hL5 hD5 hc5 hS5 hK5 hF5 hl5
  have HLB : Hid (g2 ∉ lgF lb vl5 l5) := Lib.hid (fun hm => by
    have h1 := HG2.out
    have h3 := HZ3.out
    have := (HL5.out.at_.lt g2 hm).1
    omega)
  go_wp2_with fail
  go_loopw [9] (fun i wr => ∃ (j : Nat) (y : List Nat), j ≤ l0.length ∧ i = .int .i64 j ∧ y.length = l0.length ∧ Buf wr wb.heap.size 5 (.slice (some ⟨g2, 0, none⟩) l0.length c2) y ∧ Keep [g2] w5 wr) (fun i _ => l0.length - (intOf i).toNat)
  case atStart => exact ⟨0, l0, Nat.zero_le _, rfl, rfl, HB5.out, Keep.refl _ _⟩
  case round =>
  obtain ⟨j, y, hj, rfl, hll, hBr, hKr⟩ := hrel
  have HLL := Lib.hid hll
  have HKR := Lib.hid hKr
  by_cases hlt : j < l0.length
  · have q5 : decide ((j : Int) < (l0.length : Int)) = true := decide_eq_true (by omega)
    have hbp := hBr.bump (by rw [HLL.out]) j hlt ((y.getD j 0 + 1) % 256)
    have hw := u8_bump (y.getD j 0)
    obtain ⟨c0, c1, hB1, hK1⟩ := hbp
    have HB1 := Lib.hid hB1
    have HK1 := Lib.hid hK1
    generalize y.getD j 0 = x at *
    clear hB1 hK1 hll hBr hKr
    go_wp2_with fail
    go_roundw
    case rel => exact ⟨j + 1, _, by omega, by go_num, by rw [List.length_set]; exact HLL.out, HB1.out, HKR.out.trans HK1.out⟩
    case measure => simp [intOf]; omega
  · obtain rfl : j = l0.length := by omega
    have q5 : decide ((l0.length : Int) < (l0.length : Int)) = false := by simp
    clear hll hBr hKr
    have HL6 := Lib.hid (HL5.out.keep HKR.out (fun x hx hm => by simp at hm; subst hm; exact HLB.out hx))
    have HK6 : Hid (Keep [] w wr) := Lib.hid (HK5.out.then HKR.out (fun x hx hlt => by simp at hx; have := HG2.out; have := HKB.out.size; omega))
    have hsz := one_sizes HS5.out
    have hfl := one_flat HS5.out
    have HFL := Lib.hid hfl
    have HSZ := Lib.hid hsz
    have HOK : Hid (∀ s ∈ l5, ∀ r ∈ s.rs, r.ok) := Lib.hid (fun s hs r hr => (HL5.out.say.ok s.ps (List.mem_map.2 ⟨s, hs, rfl⟩)).1 r hr)
    have HRD1 := Lib.hid (LRead_any HL6.out.at_ HSZ.out.1 HOK.out HSZ.out.2 1 (by decide))
    clear hsz hfl
    go_wp2_with fail
    refine HRD1.out.mono ?_
    rintro e w7 ⟨hG, hK7⟩
    have hGG : ∃ v, e = .returned (.tuple #[v, .int .i64 0]) ∧ Buf w7 wr.heap.size 5 v l0 := by
      rcases hG with ⟨v, r, rfl, hr, hp, hB⟩ | ⟨_, hno⟩
      · rw [HFL.out.2.2] at hr
        have := List.mem_singleton.1 hr
        subst this
        exact ⟨v, rfl, hB⟩
      · exact absurd rfl (hno (1, l0) (by rw [HFL.out.2.2]; simp))
    obtain ⟨vx, rfl, hX⟩ := hGG
    obtain ⟨gx, cx, hvx, _, hgx, hgxl⟩ := hX.own.at_ (by rw [bcs_length]; omega)
    rw [bcs_length] at hvx
    subst hvx
    have HX := Lib.hid hX
    have HGX := Lib.hid (show wr.heap.size ≤ gx from hgx)
    have HL7 := Lib.hid (HL6.out.still hK7)
    have HK7 := Lib.hid (HK6.out.trans hK7)
    have HLX : Hid (gx ∉ lgF lb vl5 l5) := Lib.hid (fun hm => by
      have := (HL6.out.at_.lt gx hm).2
      omega)
    clear hG hK7 hX hgx hgxl
    go_wp2_with fail
    go_loopw [12] (fun i wr2 => ∃ (j : Nat) (y : List Nat), j ≤ l0.length ∧ i = .int .i64 j ∧ y.length = l0.length ∧ Buf wr2 0 5 (.slice (some ⟨gx, 0, none⟩) l0.length cx) y ∧ Keep [gx] w7 wr2) (fun i _ => l0.length - (intOf i).toNat)
    case atStart => exact ⟨0, l0, Nat.zero_le _, rfl, rfl, HX.out.mono (Nat.zero_le _), Keep.refl _ _⟩
    case round =>
    obtain ⟨j, y, hj, rfl, hll, hBr, hKr⟩ := hrel
    have HLL := Lib.hid hll
    have HKR2 := Lib.hid hKr
    by_cases hlt : j < l0.length
    · have q5 : decide ((j : Int) < (l0.length : Int)) = true := decide_eq_true (by omega)
      have hbp := hBr.bump (by rw [HLL.out]) j hlt ((y.getD j 0 + 1) % 256)
      have hw := u8_bump (y.getD j 0)
      obtain ⟨c0, c1, hB1, hK1⟩ := hbp
      have HB1 := Lib.hid hB1
      have HK1 := Lib.hid hK1
      generalize y.getD j 0 = x at *
      clear hB1 hK1 hll hBr hKr
      go_wp2_with fail
      go_roundw
      case rel => exact ⟨j + 1, _, by omega, by go_num, by rw [List.length_set]; exact HLL.out, HB1.out, HKR2.out.trans HK1.out⟩
      case measure => simp [intOf]; omega
    · obtain rfl : j = l0.length := by omega
      have q5 : decide ((l0.length : Int) < (l0.length : Int)) = false := by simp
      clear hll hBr hKr
      have HL8 := Lib.hid (HL7.out.keep HKR2.out (fun x hx hm => by simp at hm; subst hm; exact HLX.out hx))
      have HK8 : Hid (Keep [] w wr) := Lib.hid (HK7.out.then HKR2.out (fun x hx hlt => by simp at hx; have := HGX.out; have := HK6.out.size; omega))
      have HRD2 := Lib.hid (LRead_any HL8.out.at_ HSZ.out.1 HOK.out HSZ.out.2 1 (by decide))
      go_wp2_with fail
      refine HRD2.out.mono ?_
      rintro e w9 ⟨hG, hK9⟩
      have hGG : ∃ v, e = .returned (.tuple #[v, .int .i64 0]) ∧ Buf w9 0 5 v l0 := by
        rcases hG with ⟨v, r, rfl, hr, hp, hB⟩ | ⟨_, hno⟩
        · rw [HFL.out.2.2] at hr
          have := List.mem_singleton.1 hr
          subst this
          exact ⟨v, rfl, hB.mono (Nat.zero_le _)⟩
        · exact absurd rfl (hno (1, l0) (by rw [HFL.out.2.2]; simp))
      obtain ⟨vy, rfl, hY⟩ := hGG
      have HY := Lib.hid hY
      have HL9 := Lib.hid (HL8.out.still hK9)
      have HK9 := Lib.hid (HK8.out.trans hK9)
      have HALL := Lib.hid (All_any HL9.out.at_ HSZ.out.1 HOK.out)
      clear hG hK9 hY
      go_wp2_with fail
      refine HALL.out.mono ?_
      rintro e wa ⟨va, La, rfl, hRa, hLa, hKa⟩
      rw [HFL.out.2.2] at hLa
      obtain ⟨ya, rfl⟩ := List.length_eq_one_iff.1 (show La.length = 1 by have := congrArg List.length hLa; simpa using this)
      have hyr : ya.r = (1, l0) := by simpa using hLa
      obtain ⟨ga, ca, hva, p0, p1⟩ := hRa.at_ 0 (by simp)
      subst hva
      have p1' : wa.cell? ⟨ga, 1, none⟩ = some ya.v := p1
      have hBa := (hRa.ok ya (by simp)).1
      rw [hyr] at hBa
      have hYa := HY.out.keep hKa (by simp)
      have hs1 := Rd.str (P := Try.prog) hYa.rd HB.out Try.underlying29 Try.underlying5 (dst := 9) Try.underlying9
      have hs2 := Rd.str (P := Try.prog) hBa.rd HB.out Try.underlying29 Try.underlying5 (dst := 9) Try.underlying9
      have HK10 := Lib.hid (HK9.out.trans hKa)
      have hb2 : ((toStr l0).toList == (toStr l0).toList) = true := beq_self_eq_true _
      clear hRa hLa hKa p0 p1 hyr hBa hYa
      go_wp2_with fail
      go_ret
      exact ⟨rfl, HK10.out.below⟩
end Go.Proofs.Ytilhbhbdggghoaa
