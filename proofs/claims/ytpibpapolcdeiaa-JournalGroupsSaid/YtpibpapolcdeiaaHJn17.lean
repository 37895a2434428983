/- journal: the law JournalGroups: its walk. -/
import Derived.Test.YtpibpapolcdeiaaHJn16
namespace Go.Proofs.Ytpibpapolcdeiaa
open Go.ChangeShapes Go.WideShapes Go.ChangeAt Go.RowKit
set_option linter.unusedVariables false
set_option linter.unusedSimpArgs false
set_option maxRecDepth 100000

theorem goodKey_iff (k : ByteArray) : itKey k = true ↔ goodKey k := by
  unfold itKey goodKey
  simp
theorem gcutStr_size (s : ByteArray) (n : Nat) : (cutStr s n).size ≤ n ∨ (cutStr s n).size ≤ s.size ∧ s.size ≤ n := by
  unfold cutStr
  split
  · left
    simp [ByteArray.size_extract]
    omega
  · right
    exact ⟨Nat.le_refl _, by omega⟩
theorem gsinceK (M : List Mk) (h : ∀ i y, M[i]? = some y → y.seq = i + 1) (hl : M.length ≤ 10) : sinceK M 0 10 = M := by
  unfold sinceK
  have e : M.filter (fun m => decide ((0 : Int) < (m.seq : Int))) = M := by
    rw [List.filter_eq_self]
    intro a ha
    obtain ⟨i, hi⟩ := List.getElem?_of_mem ha
    have := h i a hi
    simp; omega
  rw [e]
  exact List.take_of_length_le (by simpa using hl)
theorem growt_ty {w : World} {base : Nat} {E : TypeId} {sz : Nat} {v : Value} {n : Nat} {vs : List Value} (h : w.ownsRow base E sz v n vs) : ∀ k, v.ownBlock = some k → Ty w k E := by
  intro k hk
  rcases h.2 with ⟨rfl, _⟩ | ⟨g, cap, cur, rfl, _, hg, _⟩
  · cases hk
  · cases hk; exact ⟨_, _, hg⟩
theorem grow_keep {w w' : World} {base : Nat} {E : TypeId} {sz : Nat} {v : Value} {n : Nat} {vs : List Value} {S : List Nat} (h : w.ownsRow base E sz v n vs) (k : Keep S w w') (hS : ∀ b, v.ownBlock = some b → b ∉ S) : w'.ownsRow base E sz v n vs := by
  refine ⟨h.1, ?_⟩
  rcases h.2 with h2 | ⟨g, cap, cur, rfl, hb, hg, r⟩
  · exact .inl h2
  · exact .inr ⟨g, cap, cur, rfl, hb, by rw [k.block g (Array.getElem?_eq_some_iff.1 hg).1 (hS g rfl)]; exact hg, r⟩
set_option maxRecDepth 100000 in
set_option maxHeartbeats 16000000 in
theorem journalGroups_walk (tv : Value) (bad : Int) (w : World) (w0 : IsTexts w tv) (w1 : (Lit.int .i64 bad).wf = true) :
    Calls Try.prog 5 #[tv, .int .i64 bad] w fun e w' => e = .returned (.bool true) ∧ Below w.heap.size w w' := by
  obtain ⟨T0, hrT, hmT, hsT⟩ := w0
  obtain ⟨_, ta0, tc0, rfl, _, _⟩ := hrT
  have hrT : Rv w 1 (.slice ta0 T0.length tc0) T0.length (strs T0) := ⟨‹_›, ta0, tc0, rfl, ‹_›, ‹_›⟩
  have HRT := Lib.hid hrT
  have HMT := Lib.hid hmT
  have HST := Lib.hid hsT
  clear hrT hmT hsT
  obtain ⟨t0, ht0⟩ : ∃ t0, t0 = T0.length := ⟨_, rfl⟩
  rw [← ht0]
  have HT0 := Lib.hid ht0
  clear ht0
  go_enter Try.func5, Try.ntmps5
  go_wp2_with fail
  refine (begun10 _).mono ?_
  rintro e wb ⟨rfl, hKb⟩
  have HKB := Lib.hid hKb
  have HTX := Lib.hid (Texts_any _ T0 6 45 (HRT.out.keep hKb (by simp)) HMT.out HST.out (by decide) (by decide))
  rw [← HT0.out] at HTX
  clear hKb
  go_wp2_with fail
  refine HTX.out.mono ?_
  rintro e w2 ⟨v2, rfl, hR2, hK2⟩
  obtain ⟨ts, hts⟩ : ∃ ts, ts = texts T0 6 45 := ⟨_, rfl⟩
  rw [← hts] at hR2
  have HTS : Hid (ts.length ≤ 6 ∧ ∀ k ∈ ts, k.size ≤ 45) := Lib.hid (by
    rw [hts]
    unfold texts
    refine ⟨by simp; omega, fun k hk => ?_⟩
    obtain ⟨s, _, rfl⟩ := List.mem_map.1 hk
    rcases gcutStr_size s 45 with h | ⟨h, h2⟩ <;> omega)
  obtain ⟨m, hm⟩ : ∃ m, m = ts.length := ⟨_, rfl⟩
  rw [← hm] at hR2
  have HM := Lib.hid hm
  have hm6 : m ≤ 6 := by rw [hm]; exact HTS.out.1
  have HR2 := Lib.hid hR2
  obtain ⟨va, vc, rfl⟩ := ownsRow_slice hR2
  have HTY := Lib.hid (growt_ty hR2)
  have HK2 := Lib.hid (HKB.out.trans hK2)
  clear hts hm hR2 hK2 HTX
  go_wp2_with fail
  refine (New_any 170 170 rfl).mono ?_
  rintro e w3 ⟨d1, sb1, rfl, hD3, hK3, hb3, hsb3⟩
  have HO1 := Lib.hid (JSF.open_dev hD3 (Nat.zero_le _) (JDev.new 170 0 (by decide)) (by decide) (by simp))
  have HB3 := Lib.hid (And.intro hb3 hsb3)
  have HK3 := Lib.hid hK3
  clear hD3 hK3 hb3 hsb3
  go_wp2_with fail
  refine HO1.out.mono ?_
  rintro e w4 ⟨j1, F1, rfl, hJ1, hK4, hF1⟩
  have HJ1 := Lib.hid hJ1
  have HF1L : Hid (∀ x ∈ F1, x < w4.heap.size) := Lib.hid hJ1.lt
  have HF1 : Hid (∀ x ∈ F1, w2.heap.size ≤ x) := Lib.hid (fun x hx => by
    have h3 := HK3.out.size
    rcases hF1 x hx with e | e | e
    · have := HB3.out.1; omega
    · have := HB3.out.2; omega
    · omega)
  have HK4 := Lib.hid (HK3.out.trans hK4)
  clear hJ1 hK4 hF1 HO1
  go_wp2_with fail
  refine (New_any 170 170 rfl).mono ?_
  rintro e w5 ⟨d2, sb2, rfl, hD5, hK5, hb5, hsb5⟩
  have HO2 := Lib.hid (JSF.open_dev hD5 (Nat.zero_le _) (JDev.new 170 0 (by decide)) (by decide) (by simp))
  have HB5 := Lib.hid (And.intro hb5 hsb5)
  have HK5 := Lib.hid hK5
  clear hD5 hK5 hb5 hsb5
  go_wp2_with fail
  refine HO2.out.mono ?_
  rintro e w6 ⟨j2, F2, rfl, hJ2, hK6, hF2⟩
  have HJ2 := Lib.hid hJ2
  have HF2 : Hid (∀ x ∈ F2, w4.heap.size ≤ x) := Lib.hid (fun x hx => by
    have h3 := HK5.out.size
    rcases hF2 x hx with e | e | e
    · have := HB5.out.1; omega
    · have := HB5.out.2; omega
    · omega)
  have HJ1 := Lib.hid ((HJ1.out.still HK5.out).still hK6)
  have HK6 := Lib.hid ((HK4.out.trans HK5.out).trans hK6)
  clear hJ2 hK6 hF2 HO2
  go_wp2_with fail
  have HGA : Hid (ts.take m = ts) := Lib.hid (by rw [HM.out]; exact List.take_length)
  go_loopw [11, 10] (fun s11 s10 wr => ∃ (i : Nat) (b : Bool), s11 = .int .i64 (i : Int) ∧ s10 = .bool b ∧ b = (ts.take i).all itKey ∧ i ≤ m ∧ w6 = wr) (fun x _ _ => m + 1 - (intOf x).toNat)
  case atStart => exact ⟨0, true, rfl, rfl, by simp, Nat.zero_le _, rfl⟩
  case round =>
  obtain ⟨i, b, rfl, rfl, hb, hi, rfl⟩ := hrel
  have HB := Lib.hid hb
  clear hb
  by_cases hlt : i < m
  · have q0 : decide ((i : Int) < (m : Int)) = true := decide_eq_true (by omega)
    have hR6 := ownsRow_rv (grow_keep HR2.out HK6.out (by simp))
    obtain ⟨g, go, gcap, hg, _, hgl, hgc⟩ := hR6.at1 (by omega)
    injection hg with hg1 hg2 hg3
    subst hg1
    have g4 : w6.cell? ⟨g, go + i, none⟩ = some (.string (ts.getD i ByteArray.empty)) := by
      rw [hgc i hlt, strs_at ts i (by rw [← HM.out]; exact hlt)]
    have hsz := HTS.out.2 (ts.getD i ByteArray.empty) (by rw [List.getD_eq_getElem?_getD, List.getElem?_eq_getElem (by rw [← HM.out]; exact hlt)]; exact List.getElem_mem _)
    have htk := take_succ_getD ts ByteArray.empty i (by rw [← HM.out]; exact hlt)
    obtain ⟨k, hk⟩ : ∃ k, k = ts.getD i ByteArray.empty := ⟨_, rfl⟩
    rw [← hk] at g4 hsz htk
    have HTK := Lib.hid htk
    have HSZ := Lib.hid hsz
    clear hk hgc hg2 hg3 hR6 htk
    have hwrite : ∀ b', b' = (ts.take (i + 1)).all itKey ↔ b' = (b && itKey k) := fun b' => by
      rw [HTK.out, List.all_append, ← HB.out]
      simp
    have HW := Lib.hid hwrite
    clear hwrite
    cases b
    · go_wp2_with fail
      go_roundw
      case rel => exact ⟨i + 1, false, by go_num, rfl, (HW.out false).2 (by simp), by omega, by first | rfl | trivial⟩
      case measure => simp only [intOf]; omega
    · go_wp2_with fail
      refine (RefKey_any k (by have := HSZ.out; omega) _ rfl).mono ?_
      rintro e w7 ⟨rfl, rfl⟩
      obtain ⟨kb', hkb⟩ : ∃ b', b' = itKey k := ⟨_, rfl⟩
      rw [← hkb]
      have HKB2 := Lib.hid hkb
      clear hkb
      go_wp2_with fail
      go_roundw
      case rel => exact ⟨i + 1, kb', by go_num, rfl, (HW.out kb').2 (by rw [HKB2.out]; simp), by omega, by first | rfl | trivial⟩
      case measure => simp only [intOf]; omega
  obtain rfl : m = i := by omega
  have q0 : decide ((m : Int) < (m : Int)) = false := by simp
  go_wp2_with fail
  clear q0 hlt hi
  rw [HGA.out] at HB
  have HRV : Hid (Rv w6 1 (.slice va m vc) ts.length (strs ts)) := Lib.hid (by
    have h := ownsRow_rv (grow_keep HR2.out HK6.out (by simp))
    rw [← HM.out]
    exact h)
  cases b
  · have HBD := Lib.hid (Add_bad j1 ts HRV.out (by
      have h := HB.out.symm
      rw [List.all_eq_false] at h
      obtain ⟨k, hk, hk2⟩ := h
      exact ⟨k, hk, fun hg => hk2 ((goodKey_iff k).2 hg)⟩) (fun k hk => by have := HTS.out.2 k hk; omega) (by have := HTS.out.1; omega))
    go_wp2_with fail
    refine HBD.out.mono ?_
    rintro e w7 ⟨rfl, hK7⟩
    have HS7 := Lib.hid (HJ1.out.still hK7).seq
    have HK7 := Lib.hid ((HK2.out.trans HK6.out).trans hK7)
    clear hK7
    go_wp2_with fail
    refine HS7.out.mono ?_
    rintro e w8 ⟨rfl, hK8⟩
    have HK8 := Lib.hid (HK7.out.trans hK8)
    clear hK8
    rw [show (([] : List Mk).length : Int) = 0 from rfl]
    go_wp2_with fail
    go_ret
    exact ⟨rfl, HK8.out.below⟩
  · have HGOOD : Hid (∀ k ∈ ts, 1 ≤ k.size ∧ k.size ≤ 40) := Lib.hid (fun k hk => (goodKey_iff k).1 (List.all_eq_true.1 HB.out.symm k hk))
    have HCOST : Hid (∀ j, keysCost (ts.take j) ≤ 50 * j) := Lib.hid (fun j => by
      have : ∀ l : List ByteArray, (∀ k ∈ l, k.size ≤ 40) → keysCost l ≤ 50 * l.length := by
        intro l
        induction l with
        | nil => intro _; exact Nat.zero_le _
        | cons a l ih =>
          intro h
          have h1 := ih (fun k hk => h k (by simp [hk]))
          have h2 := h a (by simp)
          unfold keysCost at *
          rw [List.map_cons, List.sum_cons, List.length_cons]
          unfold keyCost at *
          omega
      have h := this (ts.take j) (fun k hk => (HGOOD.out k (List.mem_of_mem_take hk)).2)
      have : (ts.take j).length ≤ j := by simp; omega
      omega)
    have HTYV : Hid (∀ q, (Value.slice va m vc).ownBlock = some q → Ty w6 q 9) := Lib.hid (growt_ty (grow_keep HR2.out HK6.out (by simp)))
    have HADD := Lib.hid (HJ1.out.add (by decide) (.slice va m vc) ts HRV.out HGOOD.out HTYV.out (by have := HCOST.out m; rw [HGA.out] at this; have e : encN (([] : List Mk).map recOf) = 0 := rfl; omega))
    rw [show ((([] : List Mk).length + ts.length : Nat) : Int) = (m : Int) by rw [HM.out]; simp] at HADD
    go_wp2_with fail
    refine HADD.out.mono ?_
    rintro e w7 ⟨La, Na, Fa, rfl, hJa, hKa, hFa, hla, hNa, hca⟩
    rw [List.nil_append] at hJa
    have HJA := Lib.hid hJa
    have HFA : Hid (∀ x ∈ Fa, x ∉ F2) := Lib.hid (fun x hx hx2 => by
      have h2 := HF2.out x hx2
      have h3 := HJ2.out.lt x hx2
      rcases hFa x hx with h | h
      · have := HF1L.out x h; omega
      · omega)
    have HFAL : Hid (∀ x ∈ Fa, w2.heap.size ≤ x) := Lib.hid (fun x hx => by
      rcases hFa x hx with h | h
      · exact HF1.out x h
      · have := HK6.out.size; omega)
    have HJ27 := Lib.hid (HJ2.out.keep hKa (fun x hx hx1 => by have h1 := HF1L.out x hx1; have h2 := HF2.out x hx; omega))
    have HK7 : Hid (Keep [] w2 w7) := Lib.hid (HK6.out.then hKa (fun x hx hlt => by have := HF1.out x hx; omega))
    have HNA := Lib.hid hNa
    have HF2L : Hid (∀ x ∈ F2, w2.heap.size ≤ x) := Lib.hid (fun x hx => by have := HF2.out x hx; have := HK4.out.size; omega)
    clear hJa hKa hFa hla hNa hca HADD
    go_wp2_with fail
    go_loopw [13] (fun s13 wr => ∃ (i : Nat) (Lb : List Sec) (Mb : List Mk) (Fb : List Nat) (T : Nat), s13 = .int .i64 (i : Int) ∧ i ≤ m ∧ T ≤ 71 + 13 * i ∧ JSF wr d2 sb2 j2 0 T Lb Mb Fb ∧ Mb.map Mk.key = (ts.take i).map kb ∧ encN (Mb.map recOf) ≤ keysCost (ts.take i) ∧ (∀ x ∈ Fb, w2.heap.size ≤ x ∧ x ∉ Fa) ∧ JSF wr d1 sb1 j1 0 (1 + 70 + 12 * ts.length + 1) La Na Fa ∧ Keep [] w2 wr) (fun x _ => m + 1 - (intOf x).toNat)
    case atStart => exact ⟨0, _, [], F2, 71, rfl, Nat.zero_le _, Nat.le_refl _, HJ27.out, by simp, Nat.zero_le _, fun x hx => ⟨HF2L.out x hx, fun h => HFA.out x h hx⟩, HJA.out, HK7.out⟩
    case round =>
    obtain ⟨i, Lb, Mb, Fb, T, rfl, hi, hT, hJb, hMb, hCb, hFb, hJa, hKr⟩ := hrel
    have HJB := Lib.hid hJb
    have HMB := Lib.hid hMb
    have HCB := Lib.hid hCb
    have HFB := Lib.hid hFb
    have HJAR := Lib.hid hJa
    have HKR := Lib.hid hKr
    have HTT := Lib.hid hT
    clear hJb hMb hCb hFb hJa hKr hT
    have hR7 := ownsRow_rv (grow_keep HR2.out HKR.out (by simp))
    have HR7 := Lib.hid hR7
    by_cases hlt : i < m
    · have q0 : decide ((i : Int) < (m : Int)) = true := decide_eq_true (by omega)
      obtain ⟨g, go, gcap, hg, _, hgl, hgc⟩ := hR7.at1 (by omega)
      injection hg with hg1 hg2 hg3
      subst hg1
      have g4 : wr.cell? ⟨g, go + i, none⟩ = some (.string (ts.getD i ByteArray.empty)) := by
        rw [hgc i hlt, strs_at ts i (by rw [← HM.out]; exact hlt)]
      have hok := HGOOD.out (ts.getD i ByteArray.empty) (by rw [List.getD_eq_getElem?_getD, List.getElem?_eq_getElem (by rw [← HM.out]; exact hlt)]; exact List.getElem_mem _)
      have htk := take_succ_getD ts ByteArray.empty i (by rw [← HM.out]; exact hlt)
      obtain ⟨k, hk⟩ : ∃ k, k = ts.getD i ByteArray.empty := ⟨_, rfl⟩
      rw [← hk] at g4 hok htk
      have HTK := Lib.hid htk
      have HOK := Lib.hid hok
      clear hk hgc hg2 hg3 htk hok hR7
      have hAB : Blk (wr.alloc (.cells #[.string k] 9)) wr.heap.size [.string k] 9 := Blk.new wr [.string k] _
      have HALK := Lib.hid ((Keep.refl [] wr).alloc (.cells #[.string k] 9))
      have HMBL : Hid (Mb.length = i) := Lib.hid (by
        have := congrArg List.length HMB.out
        simp at this
        have := HTS.out.1
        have := HM.out
        omega)
      have hcost1 : keysCost (ts.take (i + 1)) = keysCost (ts.take i) + keyCost k := by rw [HTK.out]; simp [keysCost]
      have HCO1 := Lib.hid hcost1
      have HADD := Lib.hid ((HJB.out.still HALK.out).add (by have := HTT.out; omega) (.slice (some ⟨wr.heap.size, 0, none⟩) 1 1) [k] (rv_blk hAB rfl) (fun x hx => by
        simp only [List.mem_singleton] at hx; subst hx; exact HOK.out) (fun q hq => by
        have e : wr.heap.size = q := Option.some.inj hq
        subst e; exact hAB.ty) (by
        have h1 := HCB.out
        have h2 := HCO1.out
        have h3 := HCOST.out (i + 1)
        have e : keysCost [k] = keyCost k := by simp [keysCost]
        omega))
      have HRES : Hid (((Mb.length + [k].length : Nat) : Int) = (i : Int) + 1) := Lib.hid (by rw [HMBL.out]; rfl)
      rw [HRES.out] at HADD
      clear hAB hcost1
      go_wp2_with fail
      refine HADD.out.mono ?_
      rintro e w8 ⟨L8, N8, F8, rfl, hJ8, hK8, hF8, hl8, hN8, hc8⟩
      have HR8 : Hid (∃ (Lb : List Sec) (Mb : List Mk) (Fb : List Nat) (T : Nat), T ≤ 71 + 13 * (i + 1) ∧ JSF w8 d2 sb2 j2 0 T Lb Mb Fb ∧ Mb.map Mk.key = (ts.take (i + 1)).map kb ∧ encN (Mb.map recOf) ≤ keysCost (ts.take (i + 1)) ∧ (∀ x ∈ Fb, w2.heap.size ≤ x ∧ x ∉ Fa) ∧ JSF w8 d1 sb1 j1 0 (1 + 70 + 12 * ts.length + 1) La Na Fa ∧ Keep [] w2 w8) := Lib.hid (by
        have hsz := HALK.out.size
        have h2s := HKR.out.size
        refine ⟨L8, Mb ++ N8, F8, _, ?_, hJ8, ?_, ?_, ?_, (HJAR.out.still HALK.out).keep hK8 (fun x hx hx2 => (HFB.out x hx2).2 hx), (HKR.out.trans HALK.out).then hK8 (fun x hx hlt => by have := (HFB.out x hx).1; omega)⟩
        · have h1 := HTT.out
          show T + 12 * 1 + 1 ≤ _
          omega
        · rw [List.map_append, HMB.out, hN8, HTK.out, List.map_append]
        · have h1 := HCB.out
          have h2 := HCO1.out
          have e : keysCost [k] = keyCost k := by simp [keysCost]
          omega
        · intro x hx
          rcases hF8 x hx with h | h
          · exact HFB.out x h
          · refine ⟨by omega, fun hm => ?_⟩
            have := HJAR.out.lt x hm
            omega)
      clear hJ8 hK8 hF8 hl8 hN8 hc8 HADD g4
      go_wp2_with fail
      go_roundw
      case rel =>
        obtain ⟨Lb, Mb, Fb, T, h⟩ := HR8.out
        exact ⟨i + 1, Lb, Mb, Fb, T, by go_num, by omega, h⟩
      case measure => simp only [intOf]; omega
    obtain rfl : m = i := by omega
    have q0 : decide ((m : Int) < (m : Int)) = false := by simp
    rw [HGA.out] at HMB
    have HNAL : Hid (Na.length = m) := Lib.hid (by have := congrArg List.length HNA.out; simp at this; rw [this, HM.out])
    have HMBL : Hid (Mb.length = m) := Lib.hid (by have := congrArg List.length HMB.out; simp at this; rw [this, HM.out])
    have HSA := Lib.hid (HJAR.out.since 0 10 ⟨by decide, by omega⟩)
    rw [gsinceK Na HJAR.out.seq_at (by rw [HNAL.out]; omega)] at HSA
    clear hR7 hlt hi
    go_wp2_with fail
    refine HSA.out.mono ?_
    rintro e w8 ⟨v8, rfl, hR8, hK8⟩
    have HJB8 := Lib.hid (HJB.out.still hK8)
    have HSB := Lib.hid (HJB8.out.since 0 10 ⟨by decide, by omega⟩)
    rw [gsinceK Mb HJB.out.seq_at (by rw [HMBL.out]; omega)] at HSB
    have HRA := Lib.hid hR8
    obtain ⟨ra, rc, rfl⟩ := hR8.slice
    rw [HNAL.out]
    rw [HNAL.out] at HRA
    have HK8 := Lib.hid hK8
    clear hR8 hK8 HSA q0
    go_wp2_with fail
    refine HSB.out.mono ?_
    rintro e w9 ⟨v9, rfl, hR9, hK9⟩
    have HRA9 := Lib.hid (HRA.out.keep hK9 (by simp))
    have HRB9 := Lib.hid hR9
    obtain ⟨sa, sc, rfl⟩ := hR9.slice
    rw [HMBL.out]
    rw [HMBL.out] at HRB9
    have HK9 := Lib.hid ((HKR.out.trans HK8.out).trans hK9)
    clear hR9 hK9 HSB
    have HATA : Hid (∀ i y, Na[i]? = some y → y.seq = i + 1 ∧ y.key = kb (ts.getD i ByteArray.empty)) := Lib.hid (fun i y hy => by
      refine ⟨HJAR.out.seq_at i y hy, ?_⟩
      have h1 := congrArg (fun l => l[i]?) HNA.out
      have hb := (List.getElem?_eq_some_iff.1 hy).1
      simp only [List.getElem?_map, hy, Option.map_some] at h1
      rw [List.getElem?_eq_getElem (by rw [← HM.out, ← HNAL.out]; exact hb)] at h1
      injection h1 with h1
      rw [h1, List.getD_eq_getElem?_getD, List.getElem?_eq_getElem (by rw [← HM.out, ← HNAL.out]; exact hb)]
      rfl)
    have HATB : Hid (∀ i y, Mb[i]? = some y → y.seq = i + 1 ∧ y.key = kb (ts.getD i ByteArray.empty)) := Lib.hid (fun i y hy => by
      refine ⟨HJB.out.seq_at i y hy, ?_⟩
      have h1 := congrArg (fun l => l[i]?) HMB.out
      have hb := (List.getElem?_eq_some_iff.1 hy).1
      simp only [List.getElem?_map, hy, Option.map_some] at h1
      rw [List.getElem?_eq_getElem (by rw [← HM.out, ← HMBL.out]; exact hb)] at h1
      injection h1 with h1
      rw [h1, List.getD_eq_getElem?_getD, List.getElem?_eq_getElem (by rw [← HM.out, ← HMBL.out]; exact hb)]
      rfl)
    go_wp2_with fail
    go_loopw [20] (fun s20 wr => ∃ i : Nat, s20 = .int .i64 (i : Int) ∧ i ≤ m ∧ Keep [] w9 wr) (fun x _ => m + 1 - (intOf x).toNat)
    case atStart => exact ⟨0, rfl, Nat.zero_le _, Keep.refl _ _⟩
    case round =>
    obtain ⟨i, rfl, hi, hKy⟩ := hrel
    have HKY := Lib.hid hKy
    clear hKy
    by_cases hlt : i < m
    · have q0 : decide ((i : Int) < (m : Int)) = true := decide_eq_true (by omega)
      obtain ⟨ya, hya⟩ : ∃ y, Na[i]? = some y := ⟨_, List.getElem?_eq_getElem (by rw [HNAL.out]; exact hlt)⟩
      obtain ⟨yb, hyb⟩ : ∃ y, Mb[i]? = some y := ⟨_, List.getElem?_eq_getElem (by rw [HMBL.out]; exact hlt)⟩
      obtain ⟨g1, gc1, hg1, hc1⟩ := HRA9.out.at_ (by rw [HNAL.out]; omega)
      obtain ⟨g2, gc2, hg2, hc2⟩ := HRB9.out.at_ (by rw [HMBL.out]; omega)
      rw [HNAL.out] at hg1
      rw [HMBL.out] at hg2
      injection hg1 with e1 e2 e3
      subst e1
      injection hg2 with e4 e5 e6
      subst e4
      obtain ⟨c0, c1⟩ := hc1 i ya hya
      obtain ⟨d0, d1'⟩ := hc2 i yb hyb
      have hAa := HATA.out i ya hya
      have hAb := HATB.out i yb hyb
      rw [hAa.1] at c0
      rw [hAa.2] at c1
      rw [hAb.1] at d0
      rw [hAb.2] at d1'
      have hR9 := ownsRow_rv (grow_keep HR2.out HK9.out (by simp))
      obtain ⟨g, go, gcap, hg, _, hgl, hgc⟩ := hR9.at1 (by omega)
      injection hg with e7 e8 e9
      subst e7
      have g4 : w9.cell? ⟨g, go + i, none⟩ = some (.string (ts.getD i ByteArray.empty)) := by
        rw [hgc i hlt, strs_at ts i (by rw [← HM.out]; exact hlt)]
      obtain ⟨k, hk⟩ : ∃ k, k = ts.getD i ByteArray.empty := ⟨_, rfl⟩
      rw [← hk] at g4 c1 d1'
      rw [show toStr (kb k) = k from jtoStr_sb k] at c1 d1'
      have k0 : wr.cell? ⟨g1, i * 2, none⟩ = some (.int .i64 ((i : Int) + 1)) := HKY.out.cell1 c0 (by simp)
      have k1 : wr.cell? ⟨g1, i * 2 + 1, none⟩ = some (.string k) := HKY.out.cell1 c1 (by simp)
      have k2 : wr.cell? ⟨g2, i * 2, none⟩ = some (.int .i64 ((i : Int) + 1)) := HKY.out.cell1 d0 (by simp)
      have k3 : wr.cell? ⟨g2, i * 2 + 1, none⟩ = some (.string k) := HKY.out.cell1 d1' (by simp)
      have k4 : wr.cell? ⟨g, go + i, none⟩ = some (.string k) := HKY.out.cell1 g4 (by simp)
      clear hk hgc c0 c1 d0 d1' hAa hAb hya hyb hc1 hc2 e2 e3 e5 e6 e8 e9 hR9 g4
      go_upto_region 30 with fail
      go_quiet (fail)
      have HKQ := Lib.hid (drewnK (Keep.refl [] wr) nq)
      generalize wr.drewN nq = wq at *
      clear k0 k1 k2 k3 k4
      go_wp2_with fail
      go_roundw
      case rel => exact ⟨i + 1, by go_num, by omega, HKY.out.trans HKQ.out⟩
      case measure => simp only [intOf]; omega
    · obtain rfl : m = i := by omega
      have q0 : decide ((m : Int) < (m : Int)) = false := by simp
      go_wp2_with fail
      go_ret
      exact ⟨rfl, ((HK2.out.trans HK9.out).trans HKY.out).below⟩
end Go.Proofs.Ytpibpapolcdeiaa
