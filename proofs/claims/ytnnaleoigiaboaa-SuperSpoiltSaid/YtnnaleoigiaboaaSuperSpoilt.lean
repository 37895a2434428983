/- The law SuperSpoilt: its walk. -/
import Derived.Test.YtnnaleoigiaboaaSuper4
import Derived.Test.YtnnaleoigiaboaaBump
import Derived.Deep.RegionWith
import Derived.Laws.BitsAllLaws
namespace Go.Proofs.Ytnnaleoigiaboaa
open Go.ChangeShapes Go.WideShapes Go.ChangeAt Go.RowKit
set_option linter.unusedVariables false
set_option linter.unusedSimpArgs false

theorem four_bytes (l : List Nat) (h : l.length = 4) : ∃ p q r s, l = [p, q, r, s] := by
  match l, h with
  | [p, q, r, s], _ => exact ⟨p, q, r, s, rfl⟩
theorem unbe_four (p q r s : Nat) : unbe [p, q, r, s] = ((p * 256 + q) * 256 + r) * 256 + s := by
  simp [unbe]
theorem spoilt_bad (n : Nat) (t : List Nat) (hl : t.length ≤ 40) (hb : ∀ x ∈ t, x < 256) (j v : Nat) (hj : j < 64) (hv : v < 256) (hne : v ≠ (sImg n t).getD j 0) (c : Nat) : supGood c ((sImg n t).set j v) = false := by
  have hB := sBody_byte n t hl hb
  have hBl := sBody_len n t hl
  have hs := crcSum_lt (sBody n t) hB
  have hsm : unbe (be 4 (crcSum (sBody n t))) = crcSum (sBody n t) := by
    rw [unbe_be]
    exact Nat.mod_eq_of_lt (by simpa using hs)
  have hbl : (be 4 (crcSum (sBody n t))).length = 4 := by simp
  unfold supGood
  have key : ¬ crcSum (((sImg n t).set j v).drop 4) = unbe (((sImg n t).set j v).take 4) := by
    by_cases h4 : j < 4
    · have hd : ((sImg n t).set j v).drop 4 = sBody n t := by rw [List.drop_set, if_pos h4, sImg_drop]
      have ht : ((sImg n t).set j v).take 4 = (be 4 (crcSum (sBody n t))).set j v := by rw [List.take_set, sImg_take]
      rw [hd, ht]
      have ho : (sImg n t).getD j 0 = (be 4 (crcSum (sBody n t))).getD j 0 := by
        rw [← sImg_take, List.getD_eq_getElem?_getD, List.getD_eq_getElem?_getD, List.getElem?_take, if_pos h4]
      rw [ho] at hne
      have hby : ∀ x ∈ be 4 (crcSum (sBody n t)), x < 256 := be_byte 4 _
      generalize be 4 (crcSum (sBody n t)) = l at *
      obtain ⟨p, q, r, s, rfl⟩ := four_bytes l hbl
      rw [← hsm]
      have hp := hby p (by simp)
      have hq := hby q (by simp)
      have hr := hby r (by simp)
      have hss := hby s (by simp)
      have hj4 : j = 0 ∨ j = 1 ∨ j = 2 ∨ j = 3 := by omega
      rcases hj4 with rfl | rfl | rfl | rfl
      · simp only [List.getD_cons_zero] at hne
        simp only [List.set_cons_zero, unbe_four]; omega
      · simp only [List.getD_cons_succ, List.getD_cons_zero] at hne
        simp only [List.set_cons_succ, List.set_cons_zero, unbe_four]; omega
      · simp only [List.getD_cons_succ, List.getD_cons_zero] at hne
        simp only [List.set_cons_succ, List.set_cons_zero, unbe_four]; omega
      · simp only [List.getD_cons_succ, List.getD_cons_zero] at hne
        simp only [List.set_cons_succ, List.set_cons_zero, unbe_four]; omega
    · have hd : ((sImg n t).set j v).drop 4 = (sBody n t).set (j - 4) v := by rw [List.drop_set, if_neg h4, sImg_drop]
      have ht : ((sImg n t).set j v).take 4 = be 4 (crcSum (sBody n t)) := by
        rw [List.take_set, sImg_take, List.set_eq_of_length_le (by rw [hbl]; omega)]
      rw [hd, ht, hsm]
      have ho : (sImg n t).getD j 0 = (sBody n t).getD (j - 4) 0 := by
        rw [← sImg_drop, List.getD_eq_getElem?_getD, List.getD_eq_getElem?_getD, List.getElem?_drop, show 4 + (j - 4) = j by omega]
      rw [ho] at hne
      have hjl : j - 4 < (sBody n t).length := by rw [hBl]; omega
      rw [List.getD_eq_getElem?_getD, List.getElem?_eq_getElem hjl, Option.getD_some] at hne
      generalize sBody n t = B at *
      have e1 : B.set (j - 4) v = B.take (j - 4) ++ v :: B.drop (j - 4 + 1) := List.set_eq_take_append_cons_drop .. |>.trans (by rw [if_pos hjl])
      have e2 : B = B.take (j - 4) ++ B[j - 4] :: B.drop (j - 4 + 1) := by
        conv => lhs; rw [← List.take_append_drop (j - 4) B]
        rw [List.drop_eq_getElem_cons hjl]
      rw [e1]
      have hone := crcSum_one (B.take (j - 4)) (B.drop (j - 4 + 1)) v B[j - 4] (fun c hc => hB c (List.mem_of_mem_take hc)) (fun c hc => hB c (List.mem_of_mem_drop hc)) hv (hB _ (List.getElem_mem hjl)) hne
      intro h
      exact hone (h.trans (congrArg crcSum e2))
  have : (crcSum (((sImg n t).set j v).drop 4) == unbe (((sImg n t).set j v).take 4)) = false := by simpa using key
  rw [this]; rfl

theorem over_whole (l m : List Nat) (h : l.length = m.length) : over l 0 m = m := by
  unfold over
  rw [List.take_zero, List.nil_append, List.drop_of_length_le (by omega), List.append_nil]
theorem xor_ne (o y : Nat) (h : y ≠ 0) : o ^^^ y ≠ o := by
  intro e
  exact h (xor_cancel o y 0 (by rw [e, Nat.xor_zero]))
theorem img_byte (n : Nat) (t : List Nat) (hl : t.length ≤ 40) (hb : ∀ x ∈ t, x < 256) (j : Nat) : (sImg n t).getD j 0 < 2 ^ 8 := by
  rw [List.getD_eq_getElem?_getD]
  cases h : (sImg n t)[j]? with
  | none => simp
  | some c => exact sImg_byte n t hl hb c (List.mem_of_getElem? h)
def spX (n : Nat) (t : List Nat) (j y : Nat) : Sec := ⟨(sImg n t).set j ((sImg n t).getD j 0 ^^^ y), sImg n t, true⟩
def spS (n : Nat) (t : List Nat) : Sec := ⟨sImg n t, sImg n t, false⟩
def spL (TA TB : List Nat) (j y : Nat) (both : Bool) : Nat → List Sec
  | 0 => [spS 1 TA, spS 2 TB]
  | 1 => [if both = true then spX 1 TA j y else spS 1 TA, spS 2 TB]
  | _ => [if both = true then spX 1 TA j y else spS 1 TA, spX 2 TB j y]
set_option maxRecDepth 100000 in
set_option maxHeartbeats 8000000 in
theorem superSpoilt_walk (a0 : Option Addr) (len0 cap0 : Nat) (z0 : List Int) (a1 : Option Addr) (len1 cap1 : Nat) (z1 : List Int) (at_ x : Int) (both : Bool) (w : World)
    (w0 : IsRow .u8 w a0 len0 cap0 z0) (w1 : IsRow .u8 w a1 len1 cap1 z1) (_w2 : (Lit.int .i64 at_).wf = true) (_w3 : (Lit.int .u8 x).wf = true) :
    Calls Try.prog 3 #[.slice a0 len0 cap0, .slice a1 len1 cap1, .int .i64 at_, .int .u8 x, .bool both] w fun e w' => e = .returned (.bool true) ∧ Below w.heap.size w w' := by
  obtain ⟨A, hAl, hAm, hA, hAb⟩ := w0.rd
  obtain ⟨B, hBl, hBm, hB, hBb⟩ := w1.rd
  clear w0 w1
  subst hAl hBl
  go_enter Try.func3, Try.ntmps3
  go_wp2_with fail
  refine (begun5 w).mono ?_
  rintro e w0 ⟨rfl, k0⟩
  go_wp2_with fail
  refine (Short_any _ A 40 (hA.keep k0 (by simp)) (by omega) (by omega)).mono ?_
  rintro e w0' ⟨va, rfl, rfl, hrA0, hoA⟩
  go_wp2_with fail
  refine (Short_any _ B 40 (hB.keep k0 (by simp)) (by omega) (by omega)).mono ?_
  rintro e w0' ⟨vb, rfl, rfl, hrB0, hoB⟩
  have hAL : (A.take 40).length ≤ 40 := by simp; omega
  have hBL : (B.take 40).length ≤ 40 := by simp; omega
  have hAB : ∀ c ∈ A.take 40, c < 256 := fun c hc => hAb c (List.mem_of_mem_take hc)
  have hBB : ∀ c ∈ B.take 40, c < 256 := fun c hc => hBb c (List.mem_of_mem_take hc)
  have hloA : ∀ b, va.ownBlock = some b → 0 < (A.take 40).length → b < w.heap.size := fun b hb hp => hA.lo b (by rw [← hoA]; exact hb) (by simp at hp; omega)
  have hloB : ∀ b, vb.ownBlock = some b → 0 < (B.take 40).length → b < w.heap.size := fun b hb hp => hB.lo b (by rw [← hoB]; exact hb) (by simp at hp; omega)
  have HAL := Lib.hid hAL
  have HBL := Lib.hid hBL
  have HAB := Lib.hid hAB
  have HBB := Lib.hid hBB
  have hxw : 0 ≤ x ∧ x < 256 := by
    have := _w3
    simp [Lit.wf, IntKind.min, IntKind.max, IntKind.signed, IntKind.bits] at this
    omega
  clear hAL hBL hAB hBB hA hB hAb hBb hAm hBm hoA hoB _w2 _w3
  generalize A.take 40 = TA at *
  generalize B.take 40 = TB at *
  by_cases h0 : at_ < 0
  · have q0 : decide (at_ < 0) = true := decide_eq_true h0
    go_wp2_with fail
    go_ret
    exact ⟨rfl, k0.below⟩
  by_cases h1 : x = 0
  · subst h1
    have q0 : decide (at_ < 0) = false := decide_eq_false h0
    go_wp2_with fail
    go_ret
    exact ⟨rfl, k0.below⟩
  have q0 : decide (at_ < 0) = false := decide_eq_false h0
  have q1 : (x == 0) = false := by simpa using h1
  go_wp2_with fail
  refine (New_any 2 2 rfl).mono ?_
  rintro e w1 ⟨d, sb, rfl, hD1, k1, hb1, hsb1⟩
  have hz0 := k0.size
  have hz1 := k1.size
  have hdl := hD1.dev.lt
  have hsl := hD1.secs.lt
  go_wp2_with fail
  refine (Make_in hD1 0 (by decide) va TA (hrA0.keep k1 (by simp)) HAB.out HAL.out (by decide) (fun b hb hp => by have := hloA b hb hp; omega)).mono ?_
  rintro e w2 ⟨s, rfl, hD2, hS2, k2, hs2⟩
  replace hD2 : IsDev w2 d sb [⟨sImg 1 TA, sImg 1 TA, false⟩, zeroSec] 5 := hD2
  have K2 : Keep [] w w2 := (k0.trans k1).then k2 (by intro x hx hlt; simp at hx; omega)
  have hk02 : Keep [] w0 w2 := k1.then k2 (by intro x hx hlt; simp at hx; omega)
  have hz2 := k2.size
  have hssl := hS2.lt
  go_wp2_with fail
  refine (Save_in hD2 hS2 vb TB (hrB0.keep hk02 (by simp)) HBB.out HBL.out (by omega) (by simp) (by omega) (by omega) (fun b hb hp => by have := hloB b hb hp; omega)).mono ?_
  rintro e w3 ⟨rfl, hD3, hS3, k3⟩
  replace hD3 : IsDev w3 d sb [spS 1 TA, spS 2 TB] 7 := hD3
  have K3 : Keep [] w w3 := K2.then k3 (by intro x hx hlt; simp at hx; omega)
  have hk03 : Keep [] w0 w3 := hk02.then k3 (by intro x hx hlt; simp at hx; omega)
  have HLOW := Lib.hid (show w.heap.size ≤ d ∧ w.heap.size ≤ sb ∧ w0.heap.size ≤ d ∧ w0.heap.size ≤ sb by omega)
  clear hD1 hD2 hS2 hS3 K2 k0 k1 k2 k3 hk02 hz0 hz1 hz2 hdl hsl hssl hb1 hsb1 hs2 hloA hloB
  obtain ⟨y, rfl⟩ : ∃ y : Nat, x = (y : Int) := ⟨x.toNat, by omega⟩
  have hy8 : y < 256 := by omega
  have hy0 : y ≠ 0 := by omega
  obtain ⟨at2, rfl⟩ : ∃ A : Nat, at_ = (A : Int) := ⟨at_.toNat, by omega⟩
  obtain ⟨j, hj⟩ : ∃ j, j = at2 % 64 := ⟨_, rfl⟩
  have hj64 : j < 64 := by omega
  have hrem : (at2 : Int).tmod 64 = (j : Int) := by rw [Int.tmod_eq_emod_of_nonneg (by omega), hj]; omega
  have HY0 := Lib.hid hy0
  clear hj h0 h1 hxw q0 q1 hy0
  have q3 : (j : Int) < 64 := by omega
  go_wp2_with fail
  go_loopw [15] (fun i wr => ∃ (n c : Nat), n ≤ 2 ∧ c ≤ 7 + n ∧ i = .int .i64 n ∧ IsDev wr d sb (spL TA TB j y both n) c ∧ Keep [] w wr ∧ Keep [] w0 wr) (fun i _ => 2 - (intOf i).toNat)
  case atStart => exact ⟨0, 7, by omega, by omega, rfl, hD3, K3, hk03⟩
  case round =>
    clear hD3 K3 hk03
    obtain ⟨n, c, hn, hc, rfl, hD, hK, hK0⟩ := hrel
    have hn3 : n = 0 ∨ n = 1 ∨ n = 2 := by omega
    rcases hn3 with rfl | rfl | rfl
    · cases both
      · go_wp2_with fail
        go_roundw
        case rel => exact ⟨1, c, by omega, by omega, rfl, hD, hK, hK0⟩
        case measure => simp [intOf]
      · replace hD : IsDev wr d sb [spS 1 TA, spS 2 TB] c := hD
        unfold spS at hD
        have hI : ∀ c ∈ sImg 1 TA, c < 256 := sImg_byte 1 TA HAL.out HAB.out
        have hIl := sImg_len 1 TA HAL.out
        have HI := Lib.hid hI
        have HIL := Lib.hid hIl
        have ho8 : (sImg 1 TA).getD j 0 < 256 := by
          rw [List.getD_eq_getElem?_getD, List.getElem?_eq_getElem (by rw [hIl]; exact hj64)]
          exact hI _ (List.getElem_mem _)
        have hxor := u8_xor_nat ((sImg 1 TA).getD j 0) y ho8 hy8
        have hr256 : (sImg 1 TA).getD j 0 ^^^ y < 256 := Nat.xor_lt_two_pow (n := 8) (by omega) (by omega)
        have hov := over_whole (sImg 1 TA) ((sImg 1 TA).set j ((sImg 1 TA).getD j 0 ^^^ y)) (by rw [List.length_set])
        have HOV := Lib.hid hov
        clear hI hIl hov
        go_wp2_with fail
        refine (Read_in hD 0 _ rfl).mono ?_
        rintro e w6 ⟨vp, rfl, hp, k6⟩
        have hD6 := hD.keep k6 (by simp) (by simp)
        have K6 := hK.trans k6
        have K06 := hK0.trans k6
        obtain ⟨pg, pc, rfl, _, hg1, hg2⟩ := hp.at' (by rw [HIL.out]; omega)
        obtain ⟨b1, b2, b3, b4⟩ := hp.bump rfl j (by rw [HIL.out]; exact hj64) ((sImg 1 TA).getD j 0 ^^^ y)
        rw [HIL.out] at b3
        have hne : d ≠ pg ∧ sb ≠ pg := by have h1 := hD.dev.lt; have h2 := hD.secs.lt; omega
        have hgw : w.heap.size ≤ pg ∧ w0.heap.size ≤ pg := by have h1 := hK.size; have h2 := hK0.size; omega
        clear hD hK hK0 hp
        generalize hr : (sImg 1 TA).getD j 0 ^^^ y = r at *
        have HR := Lib.hid hr
        clear hr
        generalize ho : (sImg 1 TA).getD j 0 = o at *
        have HO := Lib.hid ho
        clear ho
        have hl64 : (sImg 1 TA).length = 64 := HIL.out
        go_wp2_with fail
        have hDb := hD6.keep b4 (by simp; omega) (by simp; omega)
        have hKb : Keep [] w (w6.setCell ⟨pg, j, none⟩ (.int .u8 (r : Int))) := K6.then b4 (by intro z hz hlt; simp at hz; omega)
        have hK0b : Keep [] w0 (w6.setCell ⟨pg, j, none⟩ (.int .u8 (r : Int))) := K06.then b4 (by intro z hz hlt; simp at hz; omega)
        have hrd3 : Rd (w6.setCell ⟨pg, j, none⟩ (.int .u8 (r : Int))) (.slice (some ⟨pg, 0, none⟩) 64 pc) ((sImg 1 TA).set j r) := b3.rd
        refine (Write_in hDb 0 _ rfl _ ((sImg 1 TA).set j r) hrd3 (by rw [List.length_set, HIL.out]; omega) (set_byte _ _ _ HI.out hr256) (by omega)).mono ?_
        rintro e w8 ⟨rfl, hD8, k8⟩
        have hlw := HLOW.out
        rw [show over (sImg 1 TA) 0 ((sImg 1 TA).set j r) = (sImg 1 TA).set j r from HOV.out] at hD8
        have K8 : Keep [] w w8 := hKb.then k8 (by intro z hz hlt; simp at hz; omega)
        have K08 : Keep [] w0 w8 := hK0b.then k8 (by intro z hz hlt; simp at hz; omega)
        have hRES : IsDev w8 d sb (spL TA TB j y true 1) (c + 1) := by
          have h := hD8
          rw [← HR.out, ← HO.out] at h
          exact h
        clear hD8
        go_wp2_with fail
        go_roundw
        case rel => exact ⟨1, c + 1, by omega, by omega, rfl, hRES, K8, K08⟩
        case measure => simp [intOf]
    · replace hD : IsDev wr d sb [if both = true then spX 1 TA j y else spS 1 TA, spS 2 TB] c := hD
      generalize hS0 : (if both = true then spX 1 TA j y else spS 1 TA) = S0 at *
      have HS0 := Lib.hid hS0
      clear hS0
      unfold spS at hD
      have hI : ∀ c ∈ sImg 2 TB, c < 256 := sImg_byte 2 TB HBL.out HBB.out
      have hIl := sImg_len 2 TB HBL.out
      have HI := Lib.hid hI
      have HIL := Lib.hid hIl
      have ho8 : (sImg 2 TB).getD j 0 < 256 := by
        rw [List.getD_eq_getElem?_getD, List.getElem?_eq_getElem (by rw [hIl]; exact hj64)]
        exact hI _ (List.getElem_mem _)
      have hxor := u8_xor_nat ((sImg 2 TB).getD j 0) y ho8 hy8
      have hr256 : (sImg 2 TB).getD j 0 ^^^ y < 256 := Nat.xor_lt_two_pow (n := 8) (by omega) (by omega)
      have hov := over_whole (sImg 2 TB) ((sImg 2 TB).set j ((sImg 2 TB).getD j 0 ^^^ y)) (by rw [List.length_set])
      have HOV := Lib.hid hov
      clear hI hIl hov
      go_wp2_with fail
      refine (Read_in hD 1 _ rfl).mono ?_
      rintro e w6 ⟨vp, rfl, hp, k6⟩
      have hD6 := hD.keep k6 (by simp) (by simp)
      have K6 := hK.trans k6
      have K06 := hK0.trans k6
      obtain ⟨pg, pc, rfl, _, hg1, hg2⟩ := hp.at' (by rw [HIL.out]; omega)
      obtain ⟨b1, b2, b3, b4⟩ := hp.bump rfl j (by rw [HIL.out]; exact hj64) ((sImg 2 TB).getD j 0 ^^^ y)
      rw [HIL.out] at b3
      have hne : d ≠ pg ∧ sb ≠ pg := by have h1 := hD.dev.lt; have h2 := hD.secs.lt; omega
      have hgw : w.heap.size ≤ pg ∧ w0.heap.size ≤ pg := by have h1 := hK.size; have h2 := hK0.size; omega
      clear hD hK hK0 hp
      generalize hr : (sImg 2 TB).getD j 0 ^^^ y = r at *
      have HR := Lib.hid hr
      clear hr
      generalize ho : (sImg 2 TB).getD j 0 = o at *
      have HO := Lib.hid ho
      clear ho
      have hl64 : (sImg 2 TB).length = 64 := HIL.out
      go_wp2_with fail
      have hDb := hD6.keep b4 (by simp; omega) (by simp; omega)
      have hKb : Keep [] w (w6.setCell ⟨pg, j, none⟩ (.int .u8 (r : Int))) := K6.then b4 (by intro z hz hlt; simp at hz; omega)
      have hK0b : Keep [] w0 (w6.setCell ⟨pg, j, none⟩ (.int .u8 (r : Int))) := K06.then b4 (by intro z hz hlt; simp at hz; omega)
      have hrd3 : Rd (w6.setCell ⟨pg, j, none⟩ (.int .u8 (r : Int))) (.slice (some ⟨pg, 0, none⟩) 64 pc) ((sImg 2 TB).set j r) := b3.rd
      refine (Write_in hDb 1 _ rfl _ ((sImg 2 TB).set j r) hrd3 (by rw [List.length_set, HIL.out]; omega) (set_byte _ _ _ HI.out hr256) (by omega)).mono ?_
      rintro e w8 ⟨rfl, hD8, k8⟩
      have hlw := HLOW.out
      rw [show over (sImg 2 TB) 0 ((sImg 2 TB).set j r) = (sImg 2 TB).set j r from HOV.out] at hD8
      have K8 : Keep [] w w8 := hKb.then k8 (by intro z hz hlt; simp at hz; omega)
      have K08 : Keep [] w0 w8 := hK0b.then k8 (by intro z hz hlt; simp at hz; omega)
      have hRES : IsDev w8 d sb (spL TA TB j y both 2) (c + 1) := by
        have h := hD8
        rw [← HR.out, ← HO.out, ← HS0.out] at h
        exact h
      clear hD8
      go_wp2_with fail
      go_roundw
      case rel => exact ⟨2, c + 1, by omega, by omega, rfl, hRES, K8, K08⟩
      case measure => simp [intOf]
    · have hI1 := spoilt_bad 1 TA HAL.out HAB.out j ((sImg 1 TA).getD j 0 ^^^ y) hj64 (Nat.xor_lt_two_pow (n := 8) (img_byte 1 TA HAL.out HAB.out j) (by omega)) (xor_ne _ _ HY0.out)
      have hI2 := spoilt_bad 2 TB HBL.out HBB.out j ((sImg 2 TB).getD j 0 ^^^ y) hj64 (Nat.xor_lt_two_pow (n := 8) (img_byte 2 TB HBL.out HBB.out j) (by omega)) (xor_ne _ _ HY0.out)
      cases both
      · have hop := Open_any hD 0 (spS 1 TA) (spX 2 TB j y) rfl rfl
        have hst : supTo (spS 1 TA).now (spX 2 TB j y).now 2 = ⟨1, 0, TA⟩ := by
          show supStep (supStep ⟨0, 0, []⟩ 0 (sImg 1 TA)) 1 ((sImg 2 TB).set j _) = _
          have e : supStep ⟨0, 0, []⟩ 0 (sImg 1 TA) = ⟨1, 0, TA⟩ := by
            unfold supStep
            rw [supGood_img _ _ _ HAL.out HAB.out (by omega), if_pos (by decide), supTurn_img _ _ (by omega), supText_img]
          rw [e]
          unfold supStep
          rw [hI2]; rfl
        rw [hst] at hop
        obtain ⟨_, va0, vac, rfl, _, _⟩ := id hrA0
        clear hI1 hI2 hst hD
        go_wp2_with fail
        refine hop.mono ?_
        rintro e w9 ⟨k9, ⟨h', _⟩ | ⟨_, o, rfl, ho, hO⟩⟩
        · exact absurd h' (by decide)
        have K := hK.trans k9
        have K0 := hK0.trans k9
        have hra := hrA0.keep K0 (by simp)
        clear hop k9 K0 hK hK0 hrA0 hrB0
        go_wp2_with fail
        have kd : Keep [] w9 w9.drew := (Keep.refl [] _).drew
        replace hO := hO.keep kd (by simp) (by simp)
        replace hra := hra.keep kd (by simp)
        have hca := Rd.str (P := Try.prog) (dst := 9) hra HAB.out Try.underlying22 Try.underlying5 Try.underlying9
        replace K := K.trans kd
        clear kd
        go_region_with
          (first
            | (go_at_call 21; refine (Text_any hO HAL.out).mono ?_; rintro e wa ⟨v', rfl, hba, ka⟩; have hO := hO.keep ka (by simp) (by simp); have K := K.trans ka; have hra := hra.keep ka (by simp); have hca := Rd.str (P := Try.prog) (dst := 9) hra HAB.out Try.underlying22 Try.underlying5 Try.underlying9; obtain ⟨xa, xc, rfl⟩ := hba.slice; have hct := Rd.str (P := Try.prog) (dst := 9) hba.rd HAB.out Try.underlying22 Try.underlying5 Try.underlying9)
            | (go_at_call 22; refine (Turn_any hO).mono ?_; rintro e wa ⟨rfl, rfl⟩)
            | fail)
        all_goals
          go_wp2_with fail
          go_ret
          exact ⟨rfl, K.below⟩
      · have hop := Open_none hD 0 (spX 1 TA j y) (spX 2 TB j y) rfl rfl (hI1 0) (hI2 0)
        clear hI1 hI2 hD
        go_wp2_with fail
        refine hop.mono ?_
        rintro e w9 ⟨rfl, k9⟩
        go_wp2_with fail
        go_ret
        exact ⟨rfl, (hK.trans k9).below⟩

end Go.Proofs.Ytnnaleoigiaboaa
