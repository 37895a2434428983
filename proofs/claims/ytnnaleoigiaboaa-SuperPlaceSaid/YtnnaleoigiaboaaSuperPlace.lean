/- The law SuperPlace: its walk. -/
import Derived.Test.YtnnaleoigiaboaaSuper4
import Derived.Test.YtnnaleoigiaboaaBump
import Derived.Test.YtnnaleoigiaboaaRegInv
namespace Go.Proofs.Ytnnaleoigiaboaa
open Go.ChangeShapes Go.WideShapes Go.ChangeAt Go.RowKit
set_option linter.unusedVariables false
set_option linter.unusedSimpArgs false

def mark7 (i : Nat) (L : List Sec) : Prop := ∃ s, L[i]? = some s ∧ s.now[0]? = some i ∧ s.now[1]? = some 7
theorem mark7.set {i : Nat} {L : List Sec} (h : mark7 i L) (k : Nat) (x : Sec) (hk : i ≠ k) : mark7 i (L.set k x) := by
  obtain ⟨s, h1, h2⟩ := h
  exact ⟨s, by rw [List.getElem?_set_ne (Ne.symm hk)]; exact h1, h2⟩
theorem mark7.flush {i : Nat} {L : List Sec} (h : mark7 i L) : mark7 i (L.map flushSec) := by
  obtain ⟨s, h1, h2⟩ := h
  exact ⟨flushSec s, by rw [List.getElem?_map, h1]; rfl, h2⟩
theorem mark7.new (L : List Sec) (i : Nat) (s : Sec) (hi : i < L.length) (hs : s.now.length = 64) (b : Bool) : mark7 i (L.set i ⟨over s.now 0 [i, 7], s.lasts, b⟩) := by
  refine ⟨_, by rw [List.getElem?_set_self hi], ?_, ?_⟩
  · simp [over]
  · simp [over]
theorem Pair.still {L : List Sec} {at_ slot turn : Nat} {text : List Nat} (h : Pair L at_ slot turn text) (hs : slot ≤ 1) (i : Nat) (x : Sec) (hi : i ≠ at_ ∧ i ≠ at_ + 1) : Pair ((L.map flushSec).set i x) at_ slot turn text := h.flush.set hs i x hi
def placeJ (w0 : World) (aa ba : Option Addr) (acap bcap : Nat) (TA TB : List Nat) (u v d p0 p1 n0 n1 s0 s1 : Nat) (l : Nat → Bool) (x : Nat → Value) (w' : World) : Prop :=
  (IsSup w' u d p0 n0 TB s0) ∧
  (IsSup w' v d p1 n1 TA s1) ∧
  (Rd w' (.slice aa TA.length acap) TA) ∧
  (Rd w' (.slice ba TB.length bcap) TB) ∧
  (Keep [] w0 w') ∧
  (l 0 = true → x 0 = .int .i64 0) ∧
  (l 1 = true → x 1 = .bool true) ∧
  (l 2 = true → x 2 = .bool true) ∧
  (l 3 = true → x 3 = .int .i64 0) ∧
  (l 4 = true → x 4 = .bool true) ∧
  (l 5 = true → x 5 = .bool true) ∧
  (l 6 = true → x 6 = .bool true) ∧
  (l 7 = true → x 7 = .pointer (some ⟨u, 0, none⟩)) ∧
  (l 8 = true → Buf w' 0 5 (x 8) TB) ∧
  (l 9 = true → x 9 = .string (toStr TB)) ∧
  (l 10 = true → x 10 = .slice ba TB.length bcap) ∧
  (l 11 = true → x 11 = .string (toStr TB)) ∧
  (l 12 = true → x 12 = .bool true) ∧
  (l 13 = true → x 13 = .bool true) ∧
  (l 14 = true → x 14 = .bool true) ∧
  (l 15 = true → x 15 = .pointer (some ⟨v, 0, none⟩)) ∧
  (l 16 = true → Buf w' 0 5 (x 16) TA) ∧
  (l 17 = true → x 17 = .string (toStr TA)) ∧
  (l 18 = true → x 18 = .slice aa TA.length acap) ∧
  (l 19 = true → x 19 = .string (toStr TA)) ∧
  (l 20 = true → x 20 = .bool true) ∧
  (l 21 = true → x 21 = .bool true) ∧
  (l 22 = true → x 22 = .bool true)

set_option maxRecDepth 100000 in
set_option maxHeartbeats 8000000 in
theorem superPlace_walk (at_ : Int) (a0 : Option Addr) (len0 cap0 : Nat) (z0 : List Int) (a1 : Option Addr) (len1 cap1 : Nat) (z1 : List Int) (w : World)
    (_w2 : (Lit.int .i64 at_).wf = true) (w0 : IsRow .u8 w a0 len0 cap0 z0) (w1 : IsRow .u8 w a1 len1 cap1 z1) :
    Calls Try.prog 5 #[.int .i64 at_, .slice a0 len0 cap0, .slice a1 len1 cap1] w fun e w' => e = .returned (.bool true) ∧ Below w.heap.size w w' := by
  obtain ⟨A, hAl, hAm, hA, hAb⟩ := w0.rd
  obtain ⟨B, hBl, hBm, hB, hBb⟩ := w1.rd
  clear w0 w1
  subst hAl hBl
  go_enter Try.func5, Try.ntmps5
  go_wp2_with fail
  refine (begun5 w).mono ?_
  rintro e w0 ⟨rfl, k0⟩
  by_cases h0 : at_ < 0
  · have q0 : decide (at_ < 0) = true := decide_eq_true h0
    go_wp2_with fail
    go_ret
    exact ⟨rfl, k0.below⟩
  by_cases h1 : 10 < at_
  · have q0 : decide (at_ < 0) = false := decide_eq_false h0
    have q1 : decide (10 < at_) = true := decide_eq_true h1
    go_wp2_with fail
    go_ret
    exact ⟨rfl, k0.below⟩
  have q0 : decide (at_ < 0) = false := decide_eq_false h0
  have q1 : decide (10 < at_) = false := decide_eq_false h1
  obtain ⟨at2, rfl⟩ : ∃ A : Nat, at_ = (A : Int) := ⟨at_.toNat, by omega⟩
  have hat10 : at2 ≤ 10 := by omega
  go_wp2_with fail
  refine (Short_any _ A 40 (hA.keep k0 (by simp)) (by omega) (by omega)).mono ?_
  rintro e w0' ⟨va, rfl, rfl, hrA0, hoA⟩
  go_wp2_with fail
  refine (Short_any _ B 40 (hB.keep k0 (by simp)) (by omega) (by omega)).mono ?_
  rintro e w0' ⟨vb, rfl, rfl, hrB0, hoB⟩
  have hAL : (A.take 40).length ≤ 40 := by simp; omega
  have hBL : (B.take 40).length ≤ 40 := by simp; omega
  have hAB : ∀ c ∈ A.take 40, c < 256 := fun c hc => hAb c (List.mem_of_mem_take hc)
  have hBB : ∀ c ∈ B.take 40, c < 256 := fun c hc => hBb c (List.mem_of_mem_take hc)
  have hloA : ∀ b, va.ownBlock = some b → 0 < (A.take 40).length → b < w.heap.size := fun b hb hp => hA.lo b (by rw [← hoA]; exact hb) (by simp at hp; omega)
  have hloB : ∀ b, vb.ownBlock = some b → 0 < (B.take 40).length → b < w.heap.size := fun b hb hp => hB.lo b (by rw [← hoB]; exact hb) (by simp at hp; omega)
  have HAL := Lib.hid hAL
  have HBL := Lib.hid hBL
  have HAB := Lib.hid hAB
  have HBB := Lib.hid hBB
  clear hAL hBL hAB hBB hA hB hAb hBb hAm hBm hoA hoB _w2 h0 h1 q0 q1
  generalize A.take 40 = TA at *
  generalize B.take 40 = TB at *
  go_wp2_with fail
  refine (New_any 16 16 rfl).mono ?_
  rintro e w1 ⟨d, sb, rfl, hD1, k1, hb1, hsb1⟩
  have hz0 := k0.size
  have hlow : w.heap.size ≤ d ∧ w.heap.size ≤ sb ∧ w0.heap.size ≤ d ∧ w0.heap.size ≤ sb := by omega
  have K1 := k0.trans k1
  clear hb1 hsb1 hz0
  have hL1 : (List.replicate 16 zeroSec).length = 16 := by simp
  generalize List.replicate 16 zeroSec = L1 at *
  go_wp2_with fail
  go_loopw [9] (fun i wr => ∃ (n : Nat) (L : List Sec), n ≤ 16 ∧ i = .int .i64 n ∧ IsDev wr d sb L n ∧ L.length = 16 ∧ (∀ i, i < n → mark7 i L) ∧ Keep [] w wr ∧ Keep [] w0 wr) (fun i _ => 16 - (intOf i).toNat)
  case atStart => exact ⟨0, L1, by omega, rfl, hD1, hL1, fun i h => by omega, K1, k1⟩
  case round =>
    clear hD1 hL1 K1 k1 k0
    obtain ⟨n, L, hn, rfl, hD, hL, hM, hK, hK0⟩ := hrel
    by_cases hlt : n < 16
    · have q0 : (n : Int) < 16 := by omega
      have hwr : IntKind.u8.wrap (n : Int) = (n : Int) := by rw [IntKind.wrap_u8]; omega
      obtain ⟨sx, hsx⟩ : ∃ sx, L[n]? = some sx := ⟨_, List.getElem?_eq_getElem (by omega)⟩
      have hsok := (hD.ok sx (List.mem_of_getElem? hsx)).1
      have HM := Lib.hid hM
      have HL := Lib.hid hL
      clear hM hL
      go_wp2_with fail
      have hrd : Rd (wr.alloc (.cells (bcs [n, 7]).toArray 5)) (.slice (some ⟨wr.heap.size, 0, none⟩) 2 2) [n, 7] := rv_blk (Blk.new wr (bcs [n, 7]) _) rfl
      refine (Write_in (hD.keep ((Keep.refl [] _).alloc _) (by simp) (by simp)) n sx hsx _ [n, 7] hrd (by simp) (by intro x hx; simp at hx; omega) (by omega)).mono ?_
      rintro e w2 ⟨rfl, hD2, k2⟩
      go_wp2_with fail
      go_roundw
      case rel =>
        refine ⟨n + 1, _, by omega, by go_num, hD2, by rw [List.length_set]; exact HL.out, ?_, (hK.alloc _).then k2 (by intro x hx hlt2; simp at hx; omega), (hK0.alloc _).then k2 (by intro x hx hlt2; simp at hx; omega)⟩
        intro i hi
        by_cases e : i = n
        · subst e; exact mark7.new L i sx (by rw [HL.out]; exact hlt) hsok true
        · exact (HM.out i (by omega)).set n _ e
      case measure => simp [intOf]; omega
    · obtain rfl : n = 16 := by omega
      have HM := Lib.hid hM
      have HL := Lib.hid hL
      clear hM hL
      obtain ⟨_, aa, acap, rfl, _, _⟩ := id hrA0
      obtain ⟨_, ba, bcap, rfl, _, _⟩ := id hrB0
      have hzw := hK.size
      have hzw0 := hK0.size
      go_wp2_with fail
      refine (Make_in hD at2 (by rw [HL.out]; omega) (.slice aa TA.length acap) TA (hrA0.keep hK0 (by simp)) HAB.out HAL.out (by omega) (fun b hb hp => by have := hloA b hb hp; omega)).mono ?_
      rintro e w2 ⟨s, rfl, hD2, hS2, k2, hs2⟩
      have hP2 := Pair.make L at2 TA (by rw [HL.out]; omega)
      have hM2 : ∀ i, i < 16 → (i < at2 ∨ at2 + 4 ≤ i) → mark7 i (((L.map flushSec).set (at2 + 1) zeroSec).set at2 ⟨sImg 1 TA, sImg 1 TA, false⟩) := fun i hi h => ((HM.out i hi).flush.set _ _ (by omega)).set _ _ (by omega)
      have hL2 : (((L.map flushSec).set (at2 + 1) zeroSec).set at2 ⟨sImg 1 TA, sImg 1 TA, false⟩).length = 16 := by simp [HL.out]
      have K2 := hK.then k2 (by intro x hx hlt2; simp at hx; omega)
      have K02 := hK0.then k2 (by intro x hx hlt2; simp at hx; omega)
      have hsd := hD2.neSup hS2
      have hz2 := k2.size
      clear hD hK hK0 k2
      generalize ((L.map flushSec).set (at2 + 1) zeroSec).set at2 ⟨sImg 1 TA, sImg 1 TA, false⟩ = L2 at *
      have HM2 := Lib.hid hM2
      have HL2 := Lib.hid hL2
      clear hM2 hL2
      have hadd : ((at2 : Int) + 2) = ((at2 + 2 : Nat) : Int) := by omega
      have HADD := Lib.hid hadd
      clear hadd
      go_wp2_with fail
      rw [HADD.out]
      refine (Make_in hD2 (at2 + 2) (by rw [HL2.out]; omega) (.slice ba TB.length bcap) TB (hrB0.keep K02 (by simp)) HBB.out HBL.out (by omega) (fun b hb hp => by have := hloB b hb hp; omega)).mono ?_
      rintro e w3 ⟨t, rfl, hD3, hT3, k3, ht3⟩
      have hQ3 := Pair.make L2 (at2 + 2) TB (by rw [HL2.out]; omega)
      have hP3 := ((hP2.flush.set (by omega) (at2 + 2 + 1) zeroSec (by omega)).set (by omega) (at2 + 2) ⟨sImg 1 TB, sImg 1 TB, false⟩ (by omega))
      have hM3 : ∀ i, i < 16 → (i < at2 ∨ at2 + 4 ≤ i) → mark7 i (((L2.map flushSec).set (at2 + 2 + 1) zeroSec).set (at2 + 2) ⟨sImg 1 TB, sImg 1 TB, false⟩) := fun i hi h => ((HM2.out i hi h).flush.set _ _ (by omega)).set _ _ (by omega)
      have hL3 : (((L2.map flushSec).set (at2 + 2 + 1) zeroSec).set (at2 + 2) ⟨sImg 1 TB, sImg 1 TB, false⟩).length = 16 := by simp [HL2.out]
      have hS3 := hS2.keep k3 (by simp; omega) (by intro x hx; simp at hx; rcases hx with rfl | rfl; exact hD2.noU8.1; exact hD2.noU8.2)
      have K3 := K2.then k3 (by intro x hx hlt2; simp at hx; omega)
      have K03 := K02.then k3 (by intro x hx hlt2; simp at hx; omega)
      have htd := hD3.neSup hT3
      have hz3 := k3.size
      have hsl2 := hS2.lt
      have hst : s ≠ t := by omega
      clear hD2 hS2 hP2 K2 K02 k3
      generalize ((L2.map flushSec).set (at2 + 2 + 1) zeroSec).set (at2 + 2) ⟨sImg 1 TB, sImg 1 TB, false⟩ = L3 at *
      have HM3 := Lib.hid hM3
      have HL3 := Lib.hid hL3
      clear hM3 hL3
      have hsw : w.heap.size ≤ s ∧ w.heap.size ≤ t ∧ w0.heap.size ≤ s ∧ w0.heap.size ≤ t := by omega
      have HSW := Lib.hid hsw
      clear hz2 hs2 ht3 hsl2
      have hzz3 := K3.size
      go_wp2_with fail
      refine (Save_in hD3 hS3 (.slice ba TB.length bcap) TB (hrB0.keep K03 (by simp)) HBB.out HBL.out (by omega) (by rw [HL3.out]; omega) (by omega) (by omega) (fun b hb hp => by have := hloB b hb hp; omega)).mono ?_
      rintro e w4 ⟨rfl, hD4, hS4, k4⟩
      have hP4 := hP3.save (by omega) (by omega) TB
      have hQ4 := hQ3.still (by omega) (at2 + (1 - 0)) ⟨sImg (1 + 1) TB, sImg (1 + 1) TB, false⟩ (by omega)
      have hM4 : ∀ i, i < 16 → (i < at2 ∨ at2 + 4 ≤ i) → mark7 i ((L3.map flushSec).set (at2 + (1 - 0)) ⟨sImg (1 + 1) TB, sImg (1 + 1) TB, false⟩) := fun i hi h => (HM3.out i hi h).flush.set _ _ (by omega)
      have hL4 : ((L3.map flushSec).set (at2 + (1 - 0)) ⟨sImg (1 + 1) TB, sImg (1 + 1) TB, false⟩).length = 16 := by simp [HL3.out]
      have hT4 := hT3.keep k4 (by simp; omega) (by intro x hx; simp at hx; rcases hx with rfl | rfl | rfl; exact hD3.noU8.1; exact hD3.noU8.2; exact hS3.noU8)
      have K4 := K3.then k4 (by intro x hx hlt2; simp at hx; omega)
      have K04 := K03.then k4 (by intro x hx hlt2; simp at hx; omega)
      clear hD3 hS3 hT3 hP3 hQ3 K3 K03 hz3
      generalize (L3.map flushSec).set (at2 + (1 - 0)) ⟨sImg (1 + 1) TB, sImg (1 + 1) TB, false⟩ = L4 at *
      have HM4 := Lib.hid hM4
      have HL4 := Lib.hid hL4
      have hz4 := k4.size
      clear hM4 hL4 k4 hS4
      have hzz4 := K4.size
      go_wp2_with fail
      refine (Save_in hD4 hT4 (.slice aa TA.length acap) TA (hrA0.keep K04 (by simp)) HAB.out HAL.out (by omega) (by rw [HL4.out]; omega) (by omega) (by omega) (fun b hb hp => by have := hloA b hb hp; omega)).mono ?_
      rintro e w5 ⟨rfl, hD5, hT5, k5⟩
      have hQ5 := hQ4.save (by omega) (by omega) TA
      have hP5 := hP4.still (by omega) (at2 + 2 + (1 - 0)) ⟨sImg (1 + 1) TA, sImg (1 + 1) TA, false⟩ (by omega)
      have hM5 : ∀ i, i < 16 → (i < at2 ∨ at2 + 4 ≤ i) → mark7 i ((L4.map flushSec).set (at2 + 2 + (1 - 0)) ⟨sImg (1 + 1) TA, sImg (1 + 1) TA, false⟩) := fun i hi h => (HM4.out i hi h).flush.set _ _ (by omega)
      have hL5 : ((L4.map flushSec).set (at2 + 2 + (1 - 0)) ⟨sImg (1 + 1) TA, sImg (1 + 1) TA, false⟩).length = 16 := by simp [HL4.out]
      have K5 := K4.then k5 (by intro x hx hlt2; simp at hx; omega)
      have K05 := K04.then k5 (by intro x hx hlt2; simp at hx; omega)
      clear hD4 hT4 hP4 hQ4 K4 K04 k5 hT5 hz4 hsw
      generalize (L4.map flushSec).set (at2 + 2 + (1 - 0)) ⟨sImg (1 + 1) TA, sImg (1 + 1) TA, false⟩ = L5 at *
      have HM5 := Lib.hid hM5
      have HL5 := Lib.hid hL5
      have HP5 := Lib.hid hP5
      have HQ5 := Lib.hid hQ5
      clear hM5 hL5 hP5 hQ5
      go_wp2_with fail
      go_loopw [14] (fun i wr => ∃ n : Nat, n ≤ 16 ∧ i = .int .i64 n ∧ IsDev wr d sb L5 (16 + 5 + 5 + 2 + 2) ∧ Keep [] w wr ∧ Keep [] w0 wr) (fun i _ => 16 - (intOf i).toNat)
      case atStart => exact ⟨0, by omega, rfl, hD5, K5, K05⟩
      case round =>
        clear hD5 K5 K05
        obtain ⟨n, hn, rfl, hD, hK, hK0⟩ := hrel
        by_cases hlt : n < 16
        · have q0 : (n : Int) < 16 := by omega
          obtain ⟨sx, hsx⟩ : ∃ sx, L5[n]? = some sx := ⟨_, List.getElem?_eq_getElem (by rw [HL5.out]; omega)⟩
          have hsok := (hD.ok sx (List.mem_of_getElem? hsx)).1
          go_wp2_with fail
          refine (Read_in hD n sx hsx).mono ?_
          rintro e w6 ⟨vp, rfl, hp, k6⟩
          have hD6 := hD.keep k6 (by simp) (by simp)
          have K6 := hK.trans k6
          have K06 := hK0.trans k6
          clear hD hK hK0 k6
          have hwr : IntKind.u8.wrap (n : Int) = (n : Int) := by rw [IntKind.wrap_u8]; omega
          have hwr4 : IntKind.i64.wrap ((at2 : Int) + 4) = (at2 : Int) + 4 := by rw [IntKind.wrap_i64]; omega
          obtain ⟨pg, pc, rfl, _, hg1, hg2⟩ := hp.at' (by omega)
          have hb0 := (hp.bump rfl 0 (by omega) 0).1
          have hb1 := (hp.bump rfl 1 (by omega) 0).1
          have HSO := Lib.hid hsok
          have q64 : (0 : Int) < (sx.now.length : Int) := by omega
          have q65 : (1 : Int) < (sx.now.length : Int) := by omega
          clear hsok hp
          by_cases h1 : n < at2
          · have p1 : decide ((n : Int) < at2) = true := decide_eq_true (by omega)
            obtain ⟨s1, e1, e2, e3⟩ := HM5.out n hlt (.inl h1)
            rw [hsx] at e1
            obtain rfl := Option.some.inj e1
            rw [List.getD_eq_getElem?_getD, e2] at hb0
            rw [List.getD_eq_getElem?_getD, e3] at hb1
            simp only [Option.getD_some] at hb0 hb1
            clear e1 e2 e3
            go_wp2_with fail
            go_roundw
            case rel => exact ⟨n + 1, by omega, by go_num, hD6, K6, K06⟩
            case measure => simp [intOf]; omega
          · have p1 : decide ((n : Int) < at2) = false := decide_eq_false (by omega)
            by_cases h2 : at2 + 4 ≤ n
            · have p2 : decide ((at2 : Int) + 4 ≤ n) = true := decide_eq_true (by omega)
              obtain ⟨s1, e1, e2, e3⟩ := HM5.out n hlt (.inr h2)
              rw [hsx] at e1
              obtain rfl := Option.some.inj e1
              rw [List.getD_eq_getElem?_getD, e2] at hb0
              rw [List.getD_eq_getElem?_getD, e3] at hb1
              simp only [Option.getD_some] at hb0 hb1
              clear e1 e2 e3
              go_wp2_with fail
              go_roundw
              case rel => exact ⟨n + 1, by omega, by go_num, hD6, K6, K06⟩
              case measure => simp [intOf]; omega
            · have p2 : decide ((at2 : Int) + 4 ≤ n) = false := decide_eq_false (by omega)
              go_wp2_with fail
              go_roundw
              case rel => exact ⟨n + 1, by omega, by go_num, hD6, K6, K06⟩
              case measure => simp [intOf]; omega
        · obtain rfl : n = 16 := by omega
          go_wp2_with fail
          refine (Open_pair hD HP5.out (by omega) HBL.out HBB.out (by omega) (by omega)).mono ?_
          rintro e w7 ⟨u, rfl, hu, hU7, k7⟩
          have hD7 := hD.keep k7 (by simp) (by simp)
          have K7 := hK.trans k7
          have K07 := hK0.trans k7
          clear hD hK hK0
          go_wp2_with fail
          rw [HADD.out]
          refine (Open_pair hD7 HQ5.out (by omega) HAL.out HAB.out (by omega) (by omega)).mono ?_
          rintro e w8 ⟨v, rfl, hv, hV8, k8⟩
          have hU8 := hU7.keep k8 (by simp) (by simp)
          have K8 := K7.trans k8
          have K08 := K07.trans k8
          have hra8 := hrA0.keep K08 (by simp)
          have hrb8 := hrB0.keep K08 (by simp)
          clear hD7 hU7 K7 K07 k7 k8 K08
          go_wp2_with fail
          refine wp_region_inv (placeJ w8 aa ba acap bcap TA TB u v d at2 (at2 + 2) (1 + 1) (1 + 1) (1 - 0) (1 - 0)) (by kernel_rfl) (by kernel_rfl) (by kernel_rfl) ?_ (Steps.cons 0 ?_ (Steps.cons 1 ?_ (Steps.cons 2 ?_ (Steps.cons 3 ?_ (Steps.cons 4 ?_ (Steps.cons 5 ?_ (Steps.cons 6 ?_ (Steps.cons 7 ?_ (Steps.cons 8 ?_ (Steps.cons 9 ?_ (Steps.cons 10 ?_ (Steps.cons 11 ?_ (Steps.cons 12 ?_ (Steps.cons 13 ?_ (Steps.cons 14 ?_ (Steps.cons 15 ?_ (Steps.cons 16 ?_ (Steps.cons 17 ?_ (Steps.cons 18 ?_ (Steps.cons 19 ?_ (Steps.cons 20 ?_ (Steps.cons 21 ?_ (Steps.cons 22 ?_ (Steps.nil 23)))))))))))))))))))))))) 23 rfl ?_
          · intro x
            exact ⟨hU8.keep ((Keep.refl [] _).drew) (by simp) (by simp), hV8.keep ((Keep.refl [] _).drew) (by simp) (by simp), hra8.keep ((Keep.refl [] _).drew) (by simp), hrb8.keep ((Keep.refl [] _).drew) (by simp), (Keep.refl _ _).drew, fun h => absurd h (by decide), fun h => absurd h (by decide), fun h => absurd h (by decide), fun h => absurd h (by decide), fun h => absurd h (by decide), fun h => absurd h (by decide), fun h => absurd h (by decide), fun h => absurd h (by decide), fun h => absurd h (by decide), fun h => absurd h (by decide), fun h => absurd h (by decide), fun h => absurd h (by decide), fun h => absurd h (by decide), fun h => absurd h (by decide), fun h => absurd h (by decide), fun h => absurd h (by decide), fun h => absurd h (by decide), fun h => absurd h (by decide), fun h => absurd h (by decide), fun h => absurd h (by decide), fun h => absurd h (by decide), fun h => absurd h (by decide), fun h => absurd h (by decide)⟩
          · intro l x w' hJ hi hd
            obtain ⟨hU, hV, hra, hrb, hK, h0, h1, h2, h3, h4, h5, h6, h7, h8, h9, h10, h11, h12, h13, h14, h15, h16, h17, h18, h19, h20, h21, h22⟩ := hJ
            refine Runs.of (b := ?b0) ?e0 ?_
            case e0 => simp only [putV, Act.put, List.setIfInBounds_toArray, List.set_cons_zero, List.set_cons_succ]; rfl
            intro K' hK'
            go_simp
            exact hK'.go _ rfl ⟨hU, hV, hra, hrb, hK, fun _ => rfl, h1, h2, h3, h4, h5, h6, h7, h8, h9, h10, h11, h12, h13, h14, h15, h16, h17, h18, h19, h20, h21, h22⟩
          · intro l x w' hJ hi hd
            obtain ⟨hU, hV, hra, hrb, hK, h0, h1, h2, h3, h4, h5, h6, h7, h8, h9, h10, h11, h12, h13, h14, h15, h16, h17, h18, h19, h20, h21, h22⟩ := hJ
            have e0 := h0 (show l 0 = true by first | exact hd.1 rfl | exact hd.2.1 rfl | exact hd.2.2.1 rfl | exact hd.2.2.2.1 rfl | exact hd.2.2.2.2.1 rfl | exact hd.2.2.2.2.2.1 rfl)
            refine Runs.of (b := ?b1) ?e1 ?_
            case e1 => simp only [putV, Act.put, List.setIfInBounds_toArray, List.set_cons_zero, List.set_cons_succ, e0]; rfl
            intro K' hK'
            go_simp
            exact hK'.go _ rfl ⟨hU, hV, hra, hrb, hK, h0, fun _ => rfl, h2, h3, h4, h5, h6, h7, h8, h9, h10, h11, h12, h13, h14, h15, h16, h17, h18, h19, h20, h21, h22⟩
          · intro l x w' hJ hi hd
            obtain ⟨hU, hV, hra, hrb, hK, h0, h1, h2, h3, h4, h5, h6, h7, h8, h9, h10, h11, h12, h13, h14, h15, h16, h17, h18, h19, h20, h21, h22⟩ := hJ
            have e1 := h1 (show l 1 = true by first | exact hd.1 rfl | exact hd.2.1 rfl | exact hd.2.2.1 rfl | exact hd.2.2.2.1 rfl | exact hd.2.2.2.2.1 rfl | exact hd.2.2.2.2.2.1 rfl)
            refine Runs.of (b := ?b2) ?e2 ?_
            case e2 => simp only [putV, Act.put, List.setIfInBounds_toArray, List.set_cons_zero, List.set_cons_succ, e1]; rfl
            intro K' hK'
            go_simp
            exact hK'.go _ rfl ⟨hU, hV, hra, hrb, hK, h0, h1, fun _ => rfl, h3, h4, h5, h6, h7, h8, h9, h10, h11, h12, h13, h14, h15, h16, h17, h18, h19, h20, h21, h22⟩
          · intro l x w' hJ hi hd
            obtain ⟨hU, hV, hra, hrb, hK, h0, h1, h2, h3, h4, h5, h6, h7, h8, h9, h10, h11, h12, h13, h14, h15, h16, h17, h18, h19, h20, h21, h22⟩ := hJ
            have e2 := h2 (show l 2 = true by first | exact hd.1 rfl | exact hd.2.1 rfl | exact hd.2.2.1 rfl | exact hd.2.2.2.1 rfl | exact hd.2.2.2.2.1 rfl | exact hd.2.2.2.2.2.1 rfl)
            refine Runs.of (b := ?b3) ?e3 ?_
            case e3 => simp only [putV, Act.put, List.setIfInBounds_toArray, List.set_cons_zero, List.set_cons_succ, e2]; rfl
            intro K' hK'
            go_simp
            exact hK'.go _ rfl ⟨hU, hV, hra, hrb, hK, h0, h1, h2, fun _ => rfl, h4, h5, h6, h7, h8, h9, h10, h11, h12, h13, h14, h15, h16, h17, h18, h19, h20, h21, h22⟩
          · intro l x w' hJ hi hd
            obtain ⟨hU, hV, hra, hrb, hK, h0, h1, h2, h3, h4, h5, h6, h7, h8, h9, h10, h11, h12, h13, h14, h15, h16, h17, h18, h19, h20, h21, h22⟩ := hJ
            have e2 := h2 (show l 2 = true by first | exact hd.1 rfl | exact hd.2.1 rfl | exact hd.2.2.1 rfl | exact hd.2.2.2.1 rfl | exact hd.2.2.2.2.1 rfl | exact hd.2.2.2.2.2.1 rfl)
            have e3 := h3 (show l 3 = true by first | exact hd.1 rfl | exact hd.2.1 rfl | exact hd.2.2.1 rfl | exact hd.2.2.2.1 rfl | exact hd.2.2.2.2.1 rfl | exact hd.2.2.2.2.2.1 rfl)
            refine Runs.of (b := ?b4) ?e4 ?_
            case e4 => simp only [putV, Act.put, List.setIfInBounds_toArray, List.set_cons_zero, List.set_cons_succ, e2, e3]; rfl
            intro K' hK'
            go_simp
            exact hK'.go _ rfl ⟨hU, hV, hra, hrb, hK, h0, h1, h2, h3, fun _ => rfl, h5, h6, h7, h8, h9, h10, h11, h12, h13, h14, h15, h16, h17, h18, h19, h20, h21, h22⟩
          · intro l x w' hJ hi hd
            obtain ⟨hU, hV, hra, hrb, hK, h0, h1, h2, h3, h4, h5, h6, h7, h8, h9, h10, h11, h12, h13, h14, h15, h16, h17, h18, h19, h20, h21, h22⟩ := hJ
            have e2 := h2 (show l 2 = true by first | exact hd.1 rfl | exact hd.2.1 rfl | exact hd.2.2.1 rfl | exact hd.2.2.2.1 rfl | exact hd.2.2.2.2.1 rfl | exact hd.2.2.2.2.2.1 rfl)
            have e4 := h4 (show l 4 = true by first | exact hd.1 rfl | exact hd.2.1 rfl | exact hd.2.2.1 rfl | exact hd.2.2.2.1 rfl | exact hd.2.2.2.2.1 rfl | exact hd.2.2.2.2.2.1 rfl)
            refine Runs.of (b := ?b5) ?e5 ?_
            case e5 => simp only [putV, Act.put, List.setIfInBounds_toArray, List.set_cons_zero, List.set_cons_succ, e2, e4]; rfl
            intro K' hK'
            go_simp
            exact hK'.go _ rfl ⟨hU, hV, hra, hrb, hK, h0, h1, h2, h3, h4, fun _ => rfl, h6, h7, h8, h9, h10, h11, h12, h13, h14, h15, h16, h17, h18, h19, h20, h21, h22⟩
          · intro l x w' hJ hi hd
            obtain ⟨hU, hV, hra, hrb, hK, h0, h1, h2, h3, h4, h5, h6, h7, h8, h9, h10, h11, h12, h13, h14, h15, h16, h17, h18, h19, h20, h21, h22⟩ := hJ
            have e5 := h5 (show l 5 = true by first | exact hd.1 rfl | exact hd.2.1 rfl | exact hd.2.2.1 rfl | exact hd.2.2.2.1 rfl | exact hd.2.2.2.2.1 rfl | exact hd.2.2.2.2.2.1 rfl)
            refine Runs.of (b := ?b6) ?e6 ?_
            case e6 => simp only [putV, Act.put, List.setIfInBounds_toArray, List.set_cons_zero, List.set_cons_succ, e5]; rfl
            intro K' hK'
            go_simp
            exact hK'.go _ rfl ⟨hU, hV, hra, hrb, hK, h0, h1, h2, h3, h4, h5, fun _ => rfl, h7, h8, h9, h10, h11, h12, h13, h14, h15, h16, h17, h18, h19, h20, h21, h22⟩
          · intro l x w' hJ hi hd
            obtain ⟨hU, hV, hra, hrb, hK, h0, h1, h2, h3, h4, h5, h6, h7, h8, h9, h10, h11, h12, h13, h14, h15, h16, h17, h18, h19, h20, h21, h22⟩ := hJ
            have e6 := h6 (show l 6 = true by first | exact hd.1 rfl | exact hd.2.1 rfl | exact hd.2.2.1 rfl | exact hd.2.2.2.1 rfl | exact hd.2.2.2.2.1 rfl | exact hd.2.2.2.2.2.1 rfl)
            refine Runs.of (b := ?b7) ?e7 ?_
            case e7 => simp only [putV, Act.put, List.setIfInBounds_toArray, List.set_cons_zero, List.set_cons_succ, e6]; rfl
            intro K' hK'
            go_simp
            exact hK'.go _ rfl ⟨hU, hV, hra, hrb, hK, h0, h1, h2, h3, h4, h5, h6, fun _ => rfl, h8, h9, h10, h11, h12, h13, h14, h15, h16, h17, h18, h19, h20, h21, h22⟩
          · intro l x w' hJ hi hd
            obtain ⟨hU, hV, hra, hrb, hK, h0, h1, h2, h3, h4, h5, h6, h7, h8, h9, h10, h11, h12, h13, h14, h15, h16, h17, h18, h19, h20, h21, h22⟩ := hJ
            have e6 := h6 (show l 6 = true by first | exact hd.1 rfl | exact hd.2.1 rfl | exact hd.2.2.1 rfl | exact hd.2.2.2.1 rfl | exact hd.2.2.2.2.1 rfl | exact hd.2.2.2.2.2.1 rfl)
            have e7 := h7 (show l 7 = true by first | exact hd.1 rfl | exact hd.2.1 rfl | exact hd.2.2.1 rfl | exact hd.2.2.2.1 rfl | exact hd.2.2.2.2.1 rfl | exact hd.2.2.2.2.2.1 rfl)
            refine Runs.of (b := ?b8) ?e8 ?_
            case e8 => simp only [putV, Act.put, List.setIfInBounds_toArray, List.set_cons_zero, List.set_cons_succ, e6, e7]; rfl
            intro K' hK'
            go_simp
            refine (Text_any hU HBL.out).mono ?_
            rintro e w2 ⟨v2, rfl, hb2, k2⟩
            go_simp
            exact hK'.go v2 rfl ⟨hU.keep k2 (by simp) (by simp), hV.keep k2 (by simp) (by simp), hra.keep k2 (by simp), hrb.keep k2 (by simp), hK.trans k2, h0, h1, h2, h3, h4, h5, h6, h7, fun _ => hb2.mono (by omega), h9, h10, h11, h12, h13, h14, h15, fun h => (h16 h).keep k2 (by simp), h17, h18, h19, h20, h21, h22⟩
          · intro l x w' hJ hi hd
            obtain ⟨hU, hV, hra, hrb, hK, h0, h1, h2, h3, h4, h5, h6, h7, h8, h9, h10, h11, h12, h13, h14, h15, h16, h17, h18, h19, h20, h21, h22⟩ := hJ
            have e6 := h6 (show l 6 = true by first | exact hd.1 rfl | exact hd.2.1 rfl | exact hd.2.2.1 rfl | exact hd.2.2.2.1 rfl | exact hd.2.2.2.2.1 rfl | exact hd.2.2.2.2.2.1 rfl)
            have e8 := h8 (show l 8 = true by first | exact hd.1 rfl | exact hd.2.1 rfl | exact hd.2.2.1 rfl | exact hd.2.2.2.1 rfl | exact hd.2.2.2.2.1 rfl | exact hd.2.2.2.2.2.1 rfl)
            have hc := Rd.str (P := Try.prog) (dst := 9) e8.rd HBB.out Try.underlying22 Try.underlying5 Try.underlying9
            obtain ⟨ta, tcap, ht⟩ := e8.slice
            rw [ht] at hc
            refine Runs.of (b := ?b9) ?e9 ?_
            case e9 => simp only [putV, Act.put, List.setIfInBounds_toArray, List.set_cons_zero, List.set_cons_succ, e6, ht]; rfl
            intro K' hK'
            go_simp
            exact hK'.go _ rfl ⟨hU, hV, hra, hrb, hK, h0, h1, h2, h3, h4, h5, h6, h7, h8, fun _ => rfl, h10, h11, h12, h13, h14, h15, h16, h17, h18, h19, h20, h21, h22⟩
          · intro l x w' hJ hi hd
            obtain ⟨hU, hV, hra, hrb, hK, h0, h1, h2, h3, h4, h5, h6, h7, h8, h9, h10, h11, h12, h13, h14, h15, h16, h17, h18, h19, h20, h21, h22⟩ := hJ
            have e6 := h6 (show l 6 = true by first | exact hd.1 rfl | exact hd.2.1 rfl | exact hd.2.2.1 rfl | exact hd.2.2.2.1 rfl | exact hd.2.2.2.2.1 rfl | exact hd.2.2.2.2.2.1 rfl)
            refine Runs.of (b := ?b10) ?e10 ?_
            case e10 => simp only [putV, Act.put, List.setIfInBounds_toArray, List.set_cons_zero, List.set_cons_succ, e6]; rfl
            intro K' hK'
            go_simp
            exact hK'.go _ rfl ⟨hU, hV, hra, hrb, hK, h0, h1, h2, h3, h4, h5, h6, h7, h8, h9, fun _ => rfl, h11, h12, h13, h14, h15, h16, h17, h18, h19, h20, h21, h22⟩
          · intro l x w' hJ hi hd
            obtain ⟨hU, hV, hra, hrb, hK, h0, h1, h2, h3, h4, h5, h6, h7, h8, h9, h10, h11, h12, h13, h14, h15, h16, h17, h18, h19, h20, h21, h22⟩ := hJ
            have e6 := h6 (show l 6 = true by first | exact hd.1 rfl | exact hd.2.1 rfl | exact hd.2.2.1 rfl | exact hd.2.2.2.1 rfl | exact hd.2.2.2.2.1 rfl | exact hd.2.2.2.2.2.1 rfl)
            have e10 := h10 (show l 10 = true by first | exact hd.1 rfl | exact hd.2.1 rfl | exact hd.2.2.1 rfl | exact hd.2.2.2.1 rfl | exact hd.2.2.2.2.1 rfl | exact hd.2.2.2.2.2.1 rfl)
            have hc := Rd.str (P := Try.prog) (dst := 9) hrb HBB.out Try.underlying22 Try.underlying5 Try.underlying9
            refine Runs.of (b := ?b11) ?e11 ?_
            case e11 => simp only [putV, Act.put, List.setIfInBounds_toArray, List.set_cons_zero, List.set_cons_succ, e6, e10]; rfl
            intro K' hK'
            go_simp
            exact hK'.go _ rfl ⟨hU, hV, hra, hrb, hK, h0, h1, h2, h3, h4, h5, h6, h7, h8, h9, h10, fun _ => rfl, h12, h13, h14, h15, h16, h17, h18, h19, h20, h21, h22⟩
          · intro l x w' hJ hi hd
            obtain ⟨hU, hV, hra, hrb, hK, h0, h1, h2, h3, h4, h5, h6, h7, h8, h9, h10, h11, h12, h13, h14, h15, h16, h17, h18, h19, h20, h21, h22⟩ := hJ
            have e6 := h6 (show l 6 = true by first | exact hd.1 rfl | exact hd.2.1 rfl | exact hd.2.2.1 rfl | exact hd.2.2.2.1 rfl | exact hd.2.2.2.2.1 rfl | exact hd.2.2.2.2.2.1 rfl)
            have e9 := h9 (show l 9 = true by first | exact hd.1 rfl | exact hd.2.1 rfl | exact hd.2.2.1 rfl | exact hd.2.2.2.1 rfl | exact hd.2.2.2.2.1 rfl | exact hd.2.2.2.2.2.1 rfl)
            have e11 := h11 (show l 11 = true by first | exact hd.1 rfl | exact hd.2.1 rfl | exact hd.2.2.1 rfl | exact hd.2.2.2.1 rfl | exact hd.2.2.2.2.1 rfl | exact hd.2.2.2.2.2.1 rfl)
            refine Runs.of (b := ?b12) ?e12 ?_
            case e12 => simp only [putV, Act.put, List.setIfInBounds_toArray, List.set_cons_zero, List.set_cons_succ, e6, e9, e11]; rfl
            intro K' hK'
            go_simp
            exact hK'.go _ rfl ⟨hU, hV, hra, hrb, hK, h0, h1, h2, h3, h4, h5, h6, h7, h8, h9, h10, h11, fun _ => rfl, h13, h14, h15, h16, h17, h18, h19, h20, h21, h22⟩
          · intro l x w' hJ hi hd
            obtain ⟨hU, hV, hra, hrb, hK, h0, h1, h2, h3, h4, h5, h6, h7, h8, h9, h10, h11, h12, h13, h14, h15, h16, h17, h18, h19, h20, h21, h22⟩ := hJ
            have e6 := h6 (show l 6 = true by first | exact hd.1 rfl | exact hd.2.1 rfl | exact hd.2.2.1 rfl | exact hd.2.2.2.1 rfl | exact hd.2.2.2.2.1 rfl | exact hd.2.2.2.2.2.1 rfl)
            have e12 := h12 (show l 12 = true by first | exact hd.1 rfl | exact hd.2.1 rfl | exact hd.2.2.1 rfl | exact hd.2.2.2.1 rfl | exact hd.2.2.2.2.1 rfl | exact hd.2.2.2.2.2.1 rfl)
            refine Runs.of (b := ?b13) ?e13 ?_
            case e13 => simp only [putV, Act.put, List.setIfInBounds_toArray, List.set_cons_zero, List.set_cons_succ, e6, e12]; rfl
            intro K' hK'
            go_simp
            exact hK'.go _ rfl ⟨hU, hV, hra, hrb, hK, h0, h1, h2, h3, h4, h5, h6, h7, h8, h9, h10, h11, h12, fun _ => rfl, h14, h15, h16, h17, h18, h19, h20, h21, h22⟩
          · intro l x w' hJ hi hd
            obtain ⟨hU, hV, hra, hrb, hK, h0, h1, h2, h3, h4, h5, h6, h7, h8, h9, h10, h11, h12, h13, h14, h15, h16, h17, h18, h19, h20, h21, h22⟩ := hJ
            have e13 := h13 (show l 13 = true by first | exact hd.1 rfl | exact hd.2.1 rfl | exact hd.2.2.1 rfl | exact hd.2.2.2.1 rfl | exact hd.2.2.2.2.1 rfl | exact hd.2.2.2.2.2.1 rfl)
            refine Runs.of (b := ?b14) ?e14 ?_
            case e14 => simp only [putV, Act.put, List.setIfInBounds_toArray, List.set_cons_zero, List.set_cons_succ, e13]; rfl
            intro K' hK'
            go_simp
            exact hK'.go _ rfl ⟨hU, hV, hra, hrb, hK, h0, h1, h2, h3, h4, h5, h6, h7, h8, h9, h10, h11, h12, h13, fun _ => rfl, h15, h16, h17, h18, h19, h20, h21, h22⟩
          · intro l x w' hJ hi hd
            obtain ⟨hU, hV, hra, hrb, hK, h0, h1, h2, h3, h4, h5, h6, h7, h8, h9, h10, h11, h12, h13, h14, h15, h16, h17, h18, h19, h20, h21, h22⟩ := hJ
            have e14 := h14 (show l 14 = true by first | exact hd.1 rfl | exact hd.2.1 rfl | exact hd.2.2.1 rfl | exact hd.2.2.2.1 rfl | exact hd.2.2.2.2.1 rfl | exact hd.2.2.2.2.2.1 rfl)
            refine Runs.of (b := ?b15) ?e15 ?_
            case e15 => simp only [putV, Act.put, List.setIfInBounds_toArray, List.set_cons_zero, List.set_cons_succ, e14]; rfl
            intro K' hK'
            go_simp
            exact hK'.go _ rfl ⟨hU, hV, hra, hrb, hK, h0, h1, h2, h3, h4, h5, h6, h7, h8, h9, h10, h11, h12, h13, h14, fun _ => rfl, h16, h17, h18, h19, h20, h21, h22⟩
          · intro l x w' hJ hi hd
            obtain ⟨hU, hV, hra, hrb, hK, h0, h1, h2, h3, h4, h5, h6, h7, h8, h9, h10, h11, h12, h13, h14, h15, h16, h17, h18, h19, h20, h21, h22⟩ := hJ
            have e14 := h14 (show l 14 = true by first | exact hd.1 rfl | exact hd.2.1 rfl | exact hd.2.2.1 rfl | exact hd.2.2.2.1 rfl | exact hd.2.2.2.2.1 rfl | exact hd.2.2.2.2.2.1 rfl)
            have e15 := h15 (show l 15 = true by first | exact hd.1 rfl | exact hd.2.1 rfl | exact hd.2.2.1 rfl | exact hd.2.2.2.1 rfl | exact hd.2.2.2.2.1 rfl | exact hd.2.2.2.2.2.1 rfl)
            refine Runs.of (b := ?b16) ?e16 ?_
            case e16 => simp only [putV, Act.put, List.setIfInBounds_toArray, List.set_cons_zero, List.set_cons_succ, e14, e15]; rfl
            intro K' hK'
            go_simp
            refine (Text_any hV HAL.out).mono ?_
            rintro e w2 ⟨v2, rfl, hb2, k2⟩
            go_simp
            exact hK'.go v2 rfl ⟨hU.keep k2 (by simp) (by simp), hV.keep k2 (by simp) (by simp), hra.keep k2 (by simp), hrb.keep k2 (by simp), hK.trans k2, h0, h1, h2, h3, h4, h5, h6, h7, fun h => (h8 h).keep k2 (by simp), h9, h10, h11, h12, h13, h14, h15, fun _ => hb2.mono (by omega), h17, h18, h19, h20, h21, h22⟩
          · intro l x w' hJ hi hd
            obtain ⟨hU, hV, hra, hrb, hK, h0, h1, h2, h3, h4, h5, h6, h7, h8, h9, h10, h11, h12, h13, h14, h15, h16, h17, h18, h19, h20, h21, h22⟩ := hJ
            have e14 := h14 (show l 14 = true by first | exact hd.1 rfl | exact hd.2.1 rfl | exact hd.2.2.1 rfl | exact hd.2.2.2.1 rfl | exact hd.2.2.2.2.1 rfl | exact hd.2.2.2.2.2.1 rfl)
            have e16 := h16 (show l 16 = true by first | exact hd.1 rfl | exact hd.2.1 rfl | exact hd.2.2.1 rfl | exact hd.2.2.2.1 rfl | exact hd.2.2.2.2.1 rfl | exact hd.2.2.2.2.2.1 rfl)
            have hc := Rd.str (P := Try.prog) (dst := 9) e16.rd HAB.out Try.underlying22 Try.underlying5 Try.underlying9
            obtain ⟨ta, tcap, ht⟩ := e16.slice
            rw [ht] at hc
            refine Runs.of (b := ?b17) ?e17 ?_
            case e17 => simp only [putV, Act.put, List.setIfInBounds_toArray, List.set_cons_zero, List.set_cons_succ, e14, ht]; rfl
            intro K' hK'
            go_simp
            exact hK'.go _ rfl ⟨hU, hV, hra, hrb, hK, h0, h1, h2, h3, h4, h5, h6, h7, h8, h9, h10, h11, h12, h13, h14, h15, h16, fun _ => rfl, h18, h19, h20, h21, h22⟩
          · intro l x w' hJ hi hd
            obtain ⟨hU, hV, hra, hrb, hK, h0, h1, h2, h3, h4, h5, h6, h7, h8, h9, h10, h11, h12, h13, h14, h15, h16, h17, h18, h19, h20, h21, h22⟩ := hJ
            have e14 := h14 (show l 14 = true by first | exact hd.1 rfl | exact hd.2.1 rfl | exact hd.2.2.1 rfl | exact hd.2.2.2.1 rfl | exact hd.2.2.2.2.1 rfl | exact hd.2.2.2.2.2.1 rfl)
            refine Runs.of (b := ?b18) ?e18 ?_
            case e18 => simp only [putV, Act.put, List.setIfInBounds_toArray, List.set_cons_zero, List.set_cons_succ, e14]; rfl
            intro K' hK'
            go_simp
            exact hK'.go _ rfl ⟨hU, hV, hra, hrb, hK, h0, h1, h2, h3, h4, h5, h6, h7, h8, h9, h10, h11, h12, h13, h14, h15, h16, h17, fun _ => rfl, h19, h20, h21, h22⟩
          · intro l x w' hJ hi hd
            obtain ⟨hU, hV, hra, hrb, hK, h0, h1, h2, h3, h4, h5, h6, h7, h8, h9, h10, h11, h12, h13, h14, h15, h16, h17, h18, h19, h20, h21, h22⟩ := hJ
            have e14 := h14 (show l 14 = true by first | exact hd.1 rfl | exact hd.2.1 rfl | exact hd.2.2.1 rfl | exact hd.2.2.2.1 rfl | exact hd.2.2.2.2.1 rfl | exact hd.2.2.2.2.2.1 rfl)
            have e18 := h18 (show l 18 = true by first | exact hd.1 rfl | exact hd.2.1 rfl | exact hd.2.2.1 rfl | exact hd.2.2.2.1 rfl | exact hd.2.2.2.2.1 rfl | exact hd.2.2.2.2.2.1 rfl)
            have hc := Rd.str (P := Try.prog) (dst := 9) hra HAB.out Try.underlying22 Try.underlying5 Try.underlying9
            refine Runs.of (b := ?b19) ?e19 ?_
            case e19 => simp only [putV, Act.put, List.setIfInBounds_toArray, List.set_cons_zero, List.set_cons_succ, e14, e18]; rfl
            intro K' hK'
            go_simp
            exact hK'.go _ rfl ⟨hU, hV, hra, hrb, hK, h0, h1, h2, h3, h4, h5, h6, h7, h8, h9, h10, h11, h12, h13, h14, h15, h16, h17, h18, fun _ => rfl, h20, h21, h22⟩
          · intro l x w' hJ hi hd
            obtain ⟨hU, hV, hra, hrb, hK, h0, h1, h2, h3, h4, h5, h6, h7, h8, h9, h10, h11, h12, h13, h14, h15, h16, h17, h18, h19, h20, h21, h22⟩ := hJ
            have e14 := h14 (show l 14 = true by first | exact hd.1 rfl | exact hd.2.1 rfl | exact hd.2.2.1 rfl | exact hd.2.2.2.1 rfl | exact hd.2.2.2.2.1 rfl | exact hd.2.2.2.2.2.1 rfl)
            have e17 := h17 (show l 17 = true by first | exact hd.1 rfl | exact hd.2.1 rfl | exact hd.2.2.1 rfl | exact hd.2.2.2.1 rfl | exact hd.2.2.2.2.1 rfl | exact hd.2.2.2.2.2.1 rfl)
            have e19 := h19 (show l 19 = true by first | exact hd.1 rfl | exact hd.2.1 rfl | exact hd.2.2.1 rfl | exact hd.2.2.2.1 rfl | exact hd.2.2.2.2.1 rfl | exact hd.2.2.2.2.2.1 rfl)
            refine Runs.of (b := ?b20) ?e20 ?_
            case e20 => simp only [putV, Act.put, List.setIfInBounds_toArray, List.set_cons_zero, List.set_cons_succ, e14, e17, e19]; rfl
            intro K' hK'
            go_simp
            exact hK'.go _ rfl ⟨hU, hV, hra, hrb, hK, h0, h1, h2, h3, h4, h5, h6, h7, h8, h9, h10, h11, h12, h13, h14, h15, h16, h17, h18, h19, fun _ => rfl, h21, h22⟩
          · intro l x w' hJ hi hd
            obtain ⟨hU, hV, hra, hrb, hK, h0, h1, h2, h3, h4, h5, h6, h7, h8, h9, h10, h11, h12, h13, h14, h15, h16, h17, h18, h19, h20, h21, h22⟩ := hJ
            have e14 := h14 (show l 14 = true by first | exact hd.1 rfl | exact hd.2.1 rfl | exact hd.2.2.1 rfl | exact hd.2.2.2.1 rfl | exact hd.2.2.2.2.1 rfl | exact hd.2.2.2.2.2.1 rfl)
            have e20 := h20 (show l 20 = true by first | exact hd.1 rfl | exact hd.2.1 rfl | exact hd.2.2.1 rfl | exact hd.2.2.2.1 rfl | exact hd.2.2.2.2.1 rfl | exact hd.2.2.2.2.2.1 rfl)
            refine Runs.of (b := ?b21) ?e21 ?_
            case e21 => simp only [putV, Act.put, List.setIfInBounds_toArray, List.set_cons_zero, List.set_cons_succ, e14, e20]; rfl
            intro K' hK'
            go_simp
            exact hK'.go _ rfl ⟨hU, hV, hra, hrb, hK, h0, h1, h2, h3, h4, h5, h6, h7, h8, h9, h10, h11, h12, h13, h14, h15, h16, h17, h18, h19, h20, fun _ => rfl, h22⟩
          · intro l x w' hJ hi hd
            obtain ⟨hU, hV, hra, hrb, hK, h0, h1, h2, h3, h4, h5, h6, h7, h8, h9, h10, h11, h12, h13, h14, h15, h16, h17, h18, h19, h20, h21, h22⟩ := hJ
            have e21 := h21 (show l 21 = true by first | exact hd.1 rfl | exact hd.2.1 rfl | exact hd.2.2.1 rfl | exact hd.2.2.2.1 rfl | exact hd.2.2.2.2.1 rfl | exact hd.2.2.2.2.2.1 rfl)
            refine Runs.of (b := ?b22) ?e22 ?_
            case e22 => simp only [putV, Act.put, List.setIfInBounds_toArray, List.set_cons_zero, List.set_cons_succ, e21]; rfl
            intro K' hK'
            go_simp
            exact hK'.go _ rfl ⟨hU, hV, hra, hrb, hK, h0, h1, h2, h3, h4, h5, h6, h7, h8, h9, h10, h11, h12, h13, h14, h15, h16, h17, h18, h19, h20, h21, fun _ => rfl⟩
          · intro l x w3 hJ hl
            obtain ⟨hU, hV, hra, hrb, hK, h0, h1, h2, h3, h4, h5, h6, h7, h8, h9, h10, h11, h12, h13, h14, h15, h16, h17, h18, h19, h20, h21, h22⟩ := hJ
            have e22 := h22 (hl 22 (by decide))
            simp only [putV, Act.put, List.setIfInBounds_toArray, List.set_cons_zero, List.set_cons_succ, e22]
            have K := K8.trans hK
            clear h0 h1 h2 h3 h4 h5 h6 h7 h8 h9 h10 h11 h12 h13 h14 h15 h16 h17 h18 h19 h20 h21 h22 e22 hl hU hV hra hrb hK
            go_wp2_with fail
            go_ret
            exact ⟨rfl, K.below⟩

end Go.Proofs.Ytnnaleoigiaboaa
