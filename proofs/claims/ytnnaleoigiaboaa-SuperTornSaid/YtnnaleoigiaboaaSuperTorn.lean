/- The law SuperTorn: its walk. -/
import Derived.Test.YtnnaleoigiaboaaSuperMany
import Derived.Test.YtnnaleoigiaboaaRegInv
namespace Go.Proofs.Ytnnaleoigiaboaa
open Go.ChangeShapes Go.WideShapes Go.ChangeAt Go.RowKit
set_option linter.unusedVariables false
set_option linter.unusedSimpArgs false

theorem open_keep {H : Type} {enc : TypeId × Value → H} {W : World} {v : Value} {d : DataW H} {p : List MemPlace} {r : Reach} {b : Nat}
    (hv : Value.okWide Try.prog W r b 41 v) (h : DataW.Trod enc Try.prog W 0 (fun _ => true) true 41 v d p) : ∃ keep : List Bool, Rv W 1 v keep.length (bools keep) ∧ keep.length ≤ 9223372036854775807 := by
  obtain ⟨a0, len, cap, rfl⟩ := okWide_slice Try.underlying41 hv
  obtain ⟨⟨y, l⟩, hy, h1, h2⟩ := opens_val (f := fun p : Value × List Bool => p.1) (opens_bools Try.underlying41 Try.underlying4 (by kernel_rfl)) (fun y hy => by simpa [Value.cells] using hy) h
  exact ⟨l, hy ▸ h1, h2⟩
/-- What a crash leaves of the pair when the second slot's image is loose. -/
theorem crash_torn (L : List Sec) (keep : List Bool) (x0 x1 y1 : List Nat) (h0 : L[0]? = some ⟨x0, x0, false⟩) (h1 : L[1]? = some ⟨x1, y1, true⟩) :
    (crashN L keep L.length)[0]? = some ⟨x0, x0, false⟩ ∧ ((crashN L keep L.length)[1]? = some ⟨x1, x1, false⟩ ∨ (crashN L keep L.length)[1]? = some ⟨y1, y1, false⟩) := by
  refine ⟨crashN_tight _ _ _ _ h0, ?_⟩
  have hl : 1 < L.length := (List.getElem?_eq_some_iff.1 h1).1
  have e : L.getD 1 zeroSec = ⟨x1, y1, true⟩ := by rw [List.getD_eq_getElem?_getD, h1]; rfl
  unfold crashN
  rw [List.getElem?_map, List.getElem?_range hl]
  simp only [Option.map_some, crashNow, e, sec2]
  cases (keep.getD (looseN (L.map Sec.loose) 1).length false)
  · right; rfl
  · left; rfl
theorem bits_any {w : World} (v : Value) (keep : List Bool) (h : Rv w 1 v keep.length (bools keep)) (hl : keep.length ≤ 9223372036854775807) :
    Calls Try.prog 24 #[v] w fun e w' => ∃ v', e = .returned v' ∧ w = w' ∧ v'.ownBlock = v.ownBlock ∧ ∃ keep', Rv w 1 v' keep'.length (bools keep') ∧ keep'.length ≤ 9223372036854775807 := by
  obtain ⟨ib, hib, hzb0, hzb1, hzb2⟩ := info_parts Try.infoB
  have h2 := h
  obtain ⟨_, a, cap, rfl, hcap, _⟩ := h
  by_cases hln : 10 < keep.length
  · have q1 : (10 : Int) < keep.length := by omega
    go_enter Try.func24, Try.ntmps24
    go_wp2_with (refine wpList_slice_to _ _ _ _ _ _ _ 4 ib Try.underlying41 hib hzb1 _ _ _ _ 10 rfl rfl rfl h2 (by omega) ?_; intro v1 hv1 ho1)
    go_ret
    refine ⟨v1, rfl, rfl, ho1, keep.take 10, ?_, by simp; omega⟩
    have e : (bools keep).take 10 = bools (keep.take 10) := by simp [bools, List.map_take]
    rw [e] at hv1
    rw [List.length_take, Nat.min_eq_left (by omega)]
    exact hv1
  · have q1 : ¬ (10 : Int) < keep.length := by omega
    go_enter Try.func24, Try.ntmps24
    go_wp2_with fail
    go_ret
    exact ⟨_, rfl, rfl, rfl, keep, h2, hl⟩
def tornA (w0 : World) (aa ba : Option Addr) (acap bcap : Nat) (TA TB : List Nat) (o s d d8 : Nat) (l : Nat → Bool) (x : Nat → Value) (w' : World) : Prop :=
  (IsSup w' o d8 0 1 TA 0) ∧
  (IsSup w' s d 0 1 TA 0) ∧
  (Rd w' (.slice aa TA.length acap) TA) ∧
  (Rd w' (.slice ba TB.length bcap) TB) ∧
  (Keep [] w0 w') ∧
  (l 0 = true → x 0 = .int .i64 0) ∧
  (l 1 = true → x 1 = .bool true) ∧
  (l 2 = true → x 2 = .bool true) ∧
  (l 3 = true → x 3 = .pointer (some ⟨o, 0, none⟩)) ∧
  (l 4 = true → Buf w' 0 5 (x 4) TA) ∧
  (l 5 = true → x 5 = .string (toStr TA)) ∧
  (l 6 = true → x 6 = .slice aa TA.length acap) ∧
  (l 7 = true → x 7 = .string (toStr TA)) ∧
  (l 8 = true → x 8 = .bool true) ∧
  (l 9 = true → x 9 = .bool true) ∧
  (l 10 = true → x 10 = .pointer (some ⟨o, 0, none⟩)) ∧
  (l 11 = true → x 11 = .int .i64 1) ∧
  (l 12 = true → x 12 = .bool true) ∧
  (l 13 = true → x 13 = .bool true) ∧
  (l 14 = true → x 14 = .bool true) ∧
  (l 21 = true → x 21 = undef) ∧
  (l 26 = true → x 26 = .bool true) ∧
  (l 27 = true → x 27 = .bool true) ∧
  (l 28 = true → x 28 = .bool true) ∧
  (l 29 = true → x 29 = .pointer (some ⟨s, 0, none⟩)) ∧
  (l 30 = true → Buf w' 0 5 (x 30) TA) ∧
  (l 31 = true → x 31 = .string (toStr TA)) ∧
  (l 32 = true → x 32 = .slice aa TA.length acap) ∧
  (l 33 = true → x 33 = .string (toStr TA)) ∧
  (l 34 = true → x 34 = .bool true) ∧
  (l 35 = true → x 35 = .bool true) ∧
  (l 36 = true → x 36 = .bool true)
def tornB (w0 : World) (aa ba : Option Addr) (acap bcap : Nat) (TA TB : List Nat) (o s d d8 : Nat) (l : Nat → Bool) (x : Nat → Value) (w' : World) : Prop :=
  (IsSup w' o d8 0 2 TB 1) ∧
  (IsSup w' s d 0 1 TA 0) ∧
  (Rd w' (.slice aa TA.length acap) TA) ∧
  (Rd w' (.slice ba TB.length bcap) TB) ∧
  (Keep [] w0 w') ∧
  (l 0 = true → x 0 = .int .i64 0) ∧
  (l 1 = true → x 1 = .bool true) ∧
  (l 2 = true → x 2 = .bool true) ∧
  (l 3 = true → x 3 = .pointer (some ⟨o, 0, none⟩)) ∧
  (l 4 = true → Buf w' 0 5 (x 4) TB) ∧
  (l 5 = true → x 5 = .string (toStr TB)) ∧
  (l 6 = true → x 6 = .slice aa TA.length acap) ∧
  (l 7 = true → x 7 = .string (toStr TA)) ∧
  (l 8 = true → x 8 = .bool true) ∧
  (l 9 = true → x 9 = .bool true) ∧
  (l 10 = true → x 10 = .pointer (some ⟨o, 0, none⟩)) ∧
  (l 11 = true → x 11 = .int .i64 2) ∧
  (l 12 = true → x 12 = .bool false) ∧
  (l 13 = true → x 13 = .bool false) ∧
  (l 14 = true → x 14 = .bool false) ∧
  (l 15 = true → x 15 = .pointer (some ⟨o, 0, none⟩)) ∧
  (l 16 = true → Buf w' 0 5 (x 16) TB) ∧
  (l 17 = true → x 17 = .string (toStr TB)) ∧
  (l 18 = true → x 18 = .slice ba TB.length bcap) ∧
  (l 19 = true → x 19 = .string (toStr TB)) ∧
  (l 20 = true → x 20 = .bool true) ∧
  (l 21 = true → x 21 = .bool true) ∧
  (l 22 = true → x 22 = .pointer (some ⟨o, 0, none⟩)) ∧
  (l 23 = true → x 23 = .int .i64 2) ∧
  (l 24 = true → x 24 = .bool true) ∧
  (l 25 = true → x 25 = .bool true) ∧
  (l 26 = true → x 26 = .bool true) ∧
  (l 27 = true → x 27 = .bool true) ∧
  (l 28 = true → x 28 = .bool true) ∧
  (l 29 = true → x 29 = .pointer (some ⟨s, 0, none⟩)) ∧
  (l 30 = true → Buf w' 0 5 (x 30) TA) ∧
  (l 31 = true → x 31 = .string (toStr TA)) ∧
  (l 32 = true → x 32 = .slice aa TA.length acap) ∧
  (l 33 = true → x 33 = .string (toStr TA)) ∧
  (l 34 = true → x 34 = .bool true) ∧
  (l 35 = true → x 35 = .bool true) ∧
  (l 36 = true → x 36 = .bool true)
def tornC (w0 : World) (aa ba : Option Addr) (acap bcap : Nat) (TA TB : List Nat) (o s d d8 : Nat) (l : Nat → Bool) (x : Nat → Value) (w' : World) : Prop :=
  (IsSup w' o d8 0 2 TB 1) ∧
  (IsSup w' s d 0 1 TA 0) ∧
  (Rd w' (.slice aa TA.length acap) TA) ∧
  (Rd w' (.slice ba TB.length bcap) TB) ∧
  (Keep [] w0 w') ∧
  (l 0 = true → x 0 = .int .i64 0) ∧
  (l 1 = true → x 1 = .bool true) ∧
  (l 2 = true → x 2 = .bool true) ∧
  (l 3 = true → x 3 = .pointer (some ⟨o, 0, none⟩)) ∧
  (l 4 = true → Buf w' 0 5 (x 4) TB) ∧
  (l 5 = true → x 5 = .string (toStr TB)) ∧
  (l 6 = true → x 6 = .slice aa TA.length acap) ∧
  (l 7 = true → x 7 = .string (toStr TA)) ∧
  (l 8 = true → x 8 = .bool false) ∧
  (l 9 = true → x 9 = .bool false) ∧
  (l 13 = true → x 13 = .bool false) ∧
  (l 14 = true → x 14 = .bool false) ∧
  (l 15 = true → x 15 = .pointer (some ⟨o, 0, none⟩)) ∧
  (l 16 = true → Buf w' 0 5 (x 16) TB) ∧
  (l 17 = true → x 17 = .string (toStr TB)) ∧
  (l 18 = true → x 18 = .slice ba TB.length bcap) ∧
  (l 19 = true → x 19 = .string (toStr TB)) ∧
  (l 20 = true → x 20 = .bool true) ∧
  (l 21 = true → x 21 = .bool true) ∧
  (l 22 = true → x 22 = .pointer (some ⟨o, 0, none⟩)) ∧
  (l 23 = true → x 23 = .int .i64 2) ∧
  (l 24 = true → x 24 = .bool true) ∧
  (l 25 = true → x 25 = .bool true) ∧
  (l 26 = true → x 26 = .bool true) ∧
  (l 27 = true → x 27 = .bool true) ∧
  (l 28 = true → x 28 = .bool true) ∧
  (l 29 = true → x 29 = .pointer (some ⟨s, 0, none⟩)) ∧
  (l 30 = true → Buf w' 0 5 (x 30) TA) ∧
  (l 31 = true → x 31 = .string (toStr TA)) ∧
  (l 32 = true → x 32 = .slice aa TA.length acap) ∧
  (l 33 = true → x 33 = .string (toStr TA)) ∧
  (l 34 = true → x 34 = .bool true) ∧
  (l 35 = true → x 35 = .bool true) ∧
  (l 36 = true → x 36 = .bool true)
def tornL (TA TB : List Nat) (j : Nat) : List Sec := if j ≤ 1 then [⟨sImg 1 TA, sImg 1 TA, false⟩, zeroSec] else [⟨sImg 1 TA, sImg 1 TA, false⟩, ⟨sImg 2 TB, List.replicate 64 0, true⟩]
theorem over_whole (l m : List Nat) (h : l.length = m.length) : over l 0 m = m := by
  unfold over
  rw [List.take_zero, List.nil_append, List.drop_of_length_le (by omega), List.append_nil]
set_option maxRecDepth 100000 in
set_option maxHeartbeats 8000000 in
theorem superTorn_walk (a0 : Option Addr) (len0 cap0 : Nat) (z0 : List Int) (a1 : Option Addr) (len1 cap1 : Nat) (z1 : List Int) (kv : Value) (w : World)
    (w0 : IsRow .u8 w a0 len0 cap0 z0) (w1 : IsRow .u8 w a1 len1 cap1 z1) (w2 : ∃ keep : List Bool, Rv w 1 kv keep.length (bools keep) ∧ keep.length ≤ 9223372036854775807) :
    Calls Try.prog 7 #[.slice a0 len0 cap0, .slice a1 len1 cap1, kv] w fun e w' => e = .returned (.bool true) ∧ Below w.heap.size w w' := by
  obtain ⟨A, hAl, hAm, hA, hAb⟩ := w0.rd
  obtain ⟨B, hBl, hBm, hB, hBb⟩ := w1.rd
  obtain ⟨keep, hkeep, hkl⟩ := w2
  clear w0 w1
  obtain ⟨_, ka0, kcap, rfl, hkc, _⟩ := id hkeep
  subst hAl hBl
  go_enter Try.func7, Try.ntmps7
  go_wp2_with fail
  refine (begun5 w).mono ?_
  rintro e w0 ⟨rfl, k0⟩
  go_wp2_with fail
  refine (Short_any _ A 40 (hA.keep k0 (by simp)) (by omega) (by omega)).mono ?_
  rintro e w0' ⟨va, rfl, rfl, hrA0, hoA⟩
  go_wp2_with fail
  refine (Short_any _ B 40 (hB.keep k0 (by simp)) (by omega) (by omega)).mono ?_
  rintro e w0' ⟨vb, rfl, rfl, hrB0, hoB⟩
  go_wp2_with fail
  refine (bits_any _ keep (hkeep.keep k0 (by simp)) hkl).mono ?_
  rintro e w0' ⟨vk, rfl, rfl, hoK, keep', hk', hkl'⟩
  have hAL : (A.take 40).length ≤ 40 := by simp; omega
  have hBL : (B.take 40).length ≤ 40 := by simp; omega
  have hAB : ∀ c ∈ A.take 40, c < 256 := fun c hc => hAb c (List.mem_of_mem_take hc)
  have hBB : ∀ c ∈ B.take 40, c < 256 := fun c hc => hBb c (List.mem_of_mem_take hc)
  have hloA : ∀ b, va.ownBlock = some b → 0 < (A.take 40).length → b < w.heap.size := fun b hb hp => hA.lo b (by rw [← hoA]; exact hb) (by simp at hp; omega)
  have hloB : ∀ b, vb.ownBlock = some b → 0 < (B.take 40).length → b < w.heap.size := fun b hb hp => hB.lo b (by rw [← hoB]; exact hb) (by simp at hp; omega)
  have HAL := Lib.hid hAL
  have HBL := Lib.hid hBL
  have HAB := Lib.hid hAB
  have HBB := Lib.hid hBB
  clear hAL hBL hAB hBB hA hB hAb hBb hkeep hkl hAm hBm hoA hoB hoK
  generalize A.take 40 = TA at *
  generalize B.take 40 = TB at *
  go_wp2_with fail
  refine (New_any 2 2 rfl).mono ?_
  rintro e w1 ⟨d, sb, rfl, hD1, k1, hb1, hsb1⟩
  have hz0 := k0.size
  have hz1 := k1.size
  have hdl := hD1.dev.lt
  have hsl := hD1.secs.lt
  go_wp2_with fail
  refine (Make_in hD1 0 (by decide) va TA (hrA0.keep k1 (by simp)) HAB.out HAL.out (by decide) (fun b hb hp => by have := hloA b hb hp; omega)).mono ?_
  rintro e w2 ⟨s, rfl, hD2, hS2, k2, hs2⟩
  replace hD2 : IsDev w2 d sb [⟨sImg 1 TA, sImg 1 TA, false⟩, zeroSec] 5 := hD2
  have K2 : Keep [] w w2 := (k0.trans k1).then k2 (by intro x hx hlt; simp at hx; omega)
  have hz2 := k2.size
  have hssl := hS2.lt
  go_wp2_with fail
  refine (New_any 2 2 rfl).mono ?_
  rintro e w3 ⟨d', sb', rfl, hX3, k3, hb3, hsb3⟩
  have K3 := K2.trans k3
  have hz3 := k3.size
  have hxl := hX3.dev.lt
  have hxsl := hX3.secs.lt
  have hD3 := hD2.keep k3 (by simp) (by simp)
  have hS3 := hS2.keep k3 (by simp) (by simp)
  have hk03 : Keep [] w0 w3 := ((k1.then k2 (by intro x hx hlt; simp at hx; omega)).trans k3)
  go_wp2_with fail
  refine (Make_in hX3 0 (by decide) va TA (hrA0.keep hk03 (by simp)) HAB.out HAL.out (by decide) (fun b hb hp => by have := hloA b hb hp; omega)).mono ?_
  rintro e w4 ⟨t, rfl, hX4, hT4, k4, ht4⟩
  replace hX4 : IsDev w4 d' sb' [⟨sImg 1 TA, sImg 1 TA, false⟩, zeroSec] 5 := hX4
  have hD4 := hD3.keep k4 (by simp; omega) (by simp; omega)
  have hS4 := hS3.keep k4 (by simp; omega) (by intro x hx; simp at hx; rcases hx with rfl | rfl; exact hX3.noU8.1; exact hX3.noU8.2)
  have K4 : Keep [] w w4 := K3.then k4 (by intro x hx hlt; simp at hx; omega)
  have hz4 := k4.size
  have htl := hT4.lt
  have hk04 : Keep [] w0 w4 := hk03.then k4 (by intro x hx hlt; simp at hx; omega)
  have htx := hX4.neSup hT4
  go_wp2_with fail
  refine (Save_in hX4 hT4 vb TB (hrB0.keep hk04 (by simp)) HBB.out HBL.out (by omega) (by simp) (by omega) (by omega) (fun b hb hp => by have := hloB b hb hp; omega)).mono ?_
  rintro e w5 ⟨rfl, hX5, hT5, k5⟩
  replace hX5 : IsDev w5 d' sb' [⟨sImg 1 TA, sImg 1 TA, false⟩, ⟨sImg 2 TB, sImg 2 TB, false⟩] 7 := hX5
  have hD5 := hD4.keep k5 (by simp; omega) (by simp; omega)
  have hS5 := hS4.keep k5 (by simp; omega) (by intro x hx; simp at hx; rcases hx with rfl | rfl | rfl; exact hX4.noU8.1; exact hX4.noU8.2; exact hT4.noU8)
  have K5 : Keep [] w w5 := K4.then k5 (by intro x hx hlt; simp at hx; omega)
  have hk05 : Keep [] w0 w5 := hk04.then k5 (by intro x hx hlt; simp at hx; omega)
  have hlow : w.heap.size ≤ d ∧ w.heap.size ≤ sb ∧ w0.heap.size ≤ d ∧ w0.heap.size ≤ sb ∧ d' ≠ d ∧ d' ≠ sb ∧ sb' ≠ d ∧ sb' ≠ sb := by omega
  have HLOW := Lib.hid hlow
  clear hD1 hD2 hS2 hX3 hD3 hS3 hX4 hT4 hD4 hS4 hT5 K2 K3 K4 k0 k1 k2 k3 k4 k5 hk03 hk04 hlow hz0 hz1 hz2 hz3 hz4 hdl hsl hssl hxl hxsl htl htx hb1 hsb1 hb3 hsb3 hs2 ht4
  go_wp2_with fail
  go_loopw [13] (fun i wr => ∃ (j c : Nat), j ≤ 2 ∧ c ≤ 5 + j / 2 ∧ i = .int .i64 j ∧ IsDev wr d sb (tornL TA TB j) c ∧ IsDev wr d' sb' [⟨sImg 1 TA, sImg 1 TA, false⟩, ⟨sImg 2 TB, sImg 2 TB, false⟩] 7 ∧ IsSup wr s d 0 1 TA 0 ∧ Keep [] w wr ∧ Keep [] w0 wr) (fun i _ => 2 - (intOf i).toNat)
  case atStart => exact ⟨0, 5, by omega, by omega, rfl, hD5, hX5, hS5, K5, hk05⟩
  case round =>
    clear hD5 hX5 hS5 K5 hk05
    obtain ⟨j, c, hj, hc, rfl, hD, hX, hS, hK, hK0⟩ := hrel
    have hj3 : j = 0 ∨ j = 1 ∨ j = 2 := by omega
    rcases hj3 with rfl | rfl | rfl
    · have hI : ∀ c ∈ sImg 1 TA, c < 256 := sImg_byte 1 TA HAL.out HAB.out
      have HI := Lib.hid hI
      clear hI
      go_wp2_with fail
      refine (Read_in hX 0 _ rfl).mono ?_
      rintro e w6 ⟨vp, rfl, hp, k6⟩
      have hD6 := hD.keep k6 (by simp) (by simp)
      have hX6 := hX.keep k6 (by simp) (by simp)
      have hS6 := hS.keep k6 (by simp) (by simp)
      have K6 := hK.trans k6
      have K06 := hK0.trans k6
      clear hD hX hS hK hK0
      go_wp2_with fail
      refine (Read_in hD6 0 _ rfl).mono ?_
      rintro e w7 ⟨vq, rfl, hq, k7⟩
      have hp7 := hp.keep k7 (by simp)
      have hcp := Rd.str (P := Try.prog) (dst := 9) hp7.rd HI.out Try.underlying22 Try.underlying5 Try.underlying9
      have hcq := Rd.str (P := Try.prog) (dst := 9) hq.rd HI.out Try.underlying22 Try.underlying5 Try.underlying9
      obtain ⟨pa, pc, rfl⟩ := hp7.slice
      obtain ⟨qa, qc, rfl⟩ := hq.slice
      have hD7 := hD6.keep k7 (by simp) (by simp)
      have hX7 := hX6.keep k7 (by simp) (by simp)
      have hS7 := hS6.keep k7 (by simp) (by simp)
      have K7 := K6.trans k7
      have K07 := K06.trans k7
      clear hD6 hX6 hS6 K6 K06 k6 k7 hp hp7 hq
      generalize toStr (sImg 1 TA) = SP at *
      go_wp2_with fail
      go_roundw
      case rel => exact ⟨1, c, by omega, hc, rfl, hD7, hX7, hS7, K7, K07⟩
      case measure => simp [intOf]
    · have hI : ∀ c ∈ sImg 2 TB, c < 256 := sImg_byte 2 TB HBL.out HBB.out
      have hIl := sImg_len 2 TB HBL.out
      have hne : sImg 2 TB ≠ List.replicate 64 0 := by
        intro e
        have h := supTurn_img 2 TB (by omega)
        rw [e, supTurn_zero] at h
        omega
      have HI := Lib.hid hI
      have HIL := Lib.hid hIl
      have HNE := Lib.hid hne
      clear hI hIl hne
      go_wp2_with fail
      refine (Read_in hX 1 _ rfl).mono ?_
      rintro e w6 ⟨vp, rfl, hp, k6⟩
      have hD6 := hD.keep k6 (by simp) (by simp)
      have hX6 := hX.keep k6 (by simp) (by simp)
      have hS6 := hS.keep k6 (by simp) (by simp)
      have K6 := hK.trans k6
      have K06 := hK0.trans k6
      clear hD hX hS hK hK0
      go_wp2_with fail
      refine (Read_in hD6 1 zeroSec rfl).mono ?_
      rintro e w7 ⟨vq, rfl, hq, k7⟩
      have hp7 := hp.keep k7 (by simp)
      have hz : ∀ c ∈ zeroSec.now, c < 256 := by intro c hc; simp [zeroSec] at hc; omega
      have hcp := Rd.str (P := Try.prog) (dst := 9) hp7.rd HI.out Try.underlying22 Try.underlying5 Try.underlying9
      have hcq := Rd.str (P := Try.prog) (dst := 9) hq.rd hz Try.underlying22 Try.underlying5 Try.underlying9
      have hstr : ¬ (toStr (sImg 2 TB)).toList = (toStr zeroSec.now).toList := str_ne HI.out hz HNE.out
      have hD7 := hD6.keep k7 (by simp) (by simp)
      have hX7 := hX6.keep k7 (by simp) (by simp)
      have hS7 := hS6.keep k7 (by simp) (by simp)
      have K7 := K6.trans k7
      have K07 := K06.trans k7
      have hov := over_whole (List.replicate 64 0) (sImg 2 TB) (by rw [HIL.out]; rfl)
      have HOV := Lib.hid hov
      obtain ⟨pa, pc, rfl⟩ := hp7.slice
      obtain ⟨qa, qc, rfl⟩ := hq.slice
      clear hD6 hX6 hS6 K6 K06 k6 k7 hp hq hz hov
      generalize toStr (sImg 2 TB) = SP at *
      generalize toStr zeroSec.now = SQ at *
      go_wp2_with fail
      refine (Write_in hD7 1 zeroSec rfl _ (sImg 2 TB) hp7.rd (by rw [HIL.out]; omega) HI.out (by omega)).mono ?_
      rintro e w8 ⟨rfl, hD8, k8⟩
      have hlw := HLOW.out
      have hD9 : IsDev w8 d sb (tornL TA TB 2) (c + 1) := by
        have h : over zeroSec.now 0 (sImg 2 TB) = sImg 2 TB := HOV.out
        rw [h] at hD8
        exact hD8
      have hX8 := hX7.keep k8 (by simp; omega) (by simp; omega)
      have hS8 := hS7.keep k8 (by have := hD7.neSup hS7; simp; omega) (by intro x hx; simp at hx; rcases hx with rfl | rfl; exact hD7.noU8.1; exact hD7.noU8.2)
      have K8 : Keep [] w w8 := K7.then k8 (by intro x hx hlt; simp at hx; omega)
      have K08 : Keep [] w0 w8 := K07.then k8 (by intro x hx hlt; simp at hx; omega)
      clear hD7 hX7 hS7 K7 K07 k8 hD8 hlw
      go_wp2_with fail
      go_roundw
      case rel => exact ⟨2, c + 1, by omega, by omega, rfl, hD9, hX8, hS8, K8, K08⟩
      case measure => simp [intOf]
    · obtain ⟨_, va0, vac, rfl, _, _⟩ := id hrA0
      obtain ⟨_, vb0, vbc, rfl, _, _⟩ := id hrB0
      go_wp2_with fail
      refine (Crash_any hD vk keep' (hk'.keep hK0 (by simp)) hkl').mono ?_
      rintro e w8 ⟨d8, sb8, rfl, hD8, k8, hb8, hsb8⟩
      have hcr := crash_torn (tornL TA TB 2) keep' _ _ _ rfl rfl
      have hS8 := hS.keep k8 (by simp) (by simp)
      have K8 := hK.trans k8
      have K08 := hK0.trans k8
      generalize crashN (tornL TA TB 2) keep' (tornL TA TB 2).length = L8 at *
      obtain ⟨hc0, hc1⟩ := hcr
      have hP : Pair L8 0 1 2 TB ∨ Pair L8 0 0 1 TA := by
        rcases hc1 with hc1 | hc1
        · exact .inl ⟨sImg 1 TA, by rw [supTurn_img 1 TA (by omega)]; omega, hc1, hc0⟩
        · exact .inr ⟨List.replicate 64 0, by rw [supTurn_zero]; omega, hc0, hc1⟩
      clear hc0 hc1 hD hX hS hK hK0 k8
      rcases hP with hP | hP
      · go_wp2_with fail
        refine (Open_pair hD8 hP (by decide) HBL.out HBB.out (by decide) (by decide)).mono ?_
        rintro e w9 ⟨o, rfl, ho, hO, k9⟩
        have hS := hS8.keep k9 (by simp) (by simp)
        have K := K8.trans k9
        have K0 := K08.trans k9
        have hra := hrA0.keep K0 (by simp)
        have hrb := hrB0.keep K0 (by simp)
        have hca := Rd.str (P := Try.prog) (dst := 9) hra HAB.out Try.underlying22 Try.underlying5 Try.underlying9
        have hcb := Rd.str (P := Try.prog) (dst := 9) hrb HBB.out Try.underlying22 Try.underlying5 Try.underlying9
        have hos : o ≠ s := by have := hS8.lt; omega
        clear hD8 hP hS8 K8 K08 k9 K0 hrA0 hrB0 ho
        by_cases hab : TB = TA
        · subst hab
          go_wp2_with fail
          refine wp_region_inv (tornB w9 va0 vb0 vac vbc TB TB o s d d8) (by kernel_rfl) (by kernel_rfl) (by kernel_rfl) ?_ (Steps.cons 0 ?_ (Steps.cons 1 ?_ (Steps.cons 2 ?_ (Steps.cons 3 ?_ (Steps.cons 4 ?_ (Steps.cons 5 ?_ (Steps.cons 6 ?_ (Steps.cons 7 ?_ (Steps.cons 8 ?_ (Steps.cons 9 ?_ (Steps.cons 10 ?_ (Steps.cons 11 ?_ (Steps.cons 12 ?_ (Steps.cons 13 ?_ (Steps.cons 14 ?_ (Steps.cons 15 ?_ (Steps.cons 16 ?_ (Steps.cons 17 ?_ (Steps.cons 18 ?_ (Steps.cons 19 ?_ (Steps.cons 20 ?_ (Steps.cons 21 ?_ (Steps.cons 22 ?_ (Steps.cons 23 ?_ (Steps.cons 24 ?_ (Steps.cons 25 ?_ (Steps.cons 26 ?_ (Steps.cons 27 ?_ (Steps.cons 28 ?_ (Steps.cons 29 ?_ (Steps.cons 30 ?_ (Steps.cons 31 ?_ (Steps.cons 32 ?_ (Steps.cons 33 ?_ (Steps.cons 34 ?_ (Steps.cons 35 ?_ (Steps.cons 36 ?_ (Steps.nil 37)))))))))))))))))))))))))))))))))))))) 37 rfl ?_
          · intro x
            exact ⟨hO.keep ((Keep.refl [] _).drew) (by simp) (by simp), hS.keep ((Keep.refl [] _).drew) (by simp) (by simp), hra.keep ((Keep.refl [] _).drew) (by simp), hrb.keep ((Keep.refl [] _).drew) (by simp), (Keep.refl _ _).drew, fun h => absurd h (by decide), fun h => absurd h (by decide), fun h => absurd h (by decide), fun h => absurd h (by decide), fun h => absurd h (by decide), fun h => absurd h (by decide), fun h => absurd h (by decide), fun h => absurd h (by decide), fun h => absurd h (by decide), fun h => absurd h (by decide), fun h => absurd h (by decide), fun h => absurd h (by decide), fun h => absurd h (by decide), fun h => absurd h (by decide), fun h => absurd h (by decide), fun h => absurd h (by decide), fun h => absurd h (by decide), fun h => absurd h (by decide), fun h => absurd h (by decide), fun h => absurd h (by decide), fun h => absurd h (by decide), fun h => absurd h (by decide), fun h => absurd h (by decide), fun h => absurd h (by decide), fun h => absurd h (by decide), fun h => absurd h (by decide), fun h => absurd h (by decide), fun h => absurd h (by decide), fun h => absurd h (by decide), fun h => absurd h (by decide), fun h => absurd h (by decide), fun h => absurd h (by decide), fun h => absurd h (by decide), fun h => absurd h (by decide), fun h => absurd h (by decide), fun h => absurd h (by decide), fun h => absurd h (by decide)⟩
          · intro l x w' hJ hi hd
            obtain ⟨hO, hS, hra, hrb, hK, h0, h1, h2, h3, h4, h5, h6, h7, h8, h9, h10, h11, h12, h13, h14, h15, h16, h17, h18, h19, h20, h21, h22, h23, h24, h25, h26, h27, h28, h29, h30, h31, h32, h33, h34, h35, h36⟩ := hJ
            refine Runs.of (b := ?bB0) ?eB0 ?_
            case eB0 => simp only [putV, Act.put, List.setIfInBounds_toArray, List.set_cons_zero, List.set_cons_succ]; rfl
            intro K' hK'
            go_simp
            exact hK'.go _ rfl ⟨hO, hS, hra, hrb, hK, fun _ => rfl, h1, h2, h3, h4, h5, h6, h7, h8, h9, h10, h11, h12, h13, h14, h15, h16, h17, h18, h19, h20, h21, h22, h23, h24, h25, h26, h27, h28, h29, h30, h31, h32, h33, h34, h35, h36⟩
          · intro l x w' hJ hi hd
            obtain ⟨hO, hS, hra, hrb, hK, h0, h1, h2, h3, h4, h5, h6, h7, h8, h9, h10, h11, h12, h13, h14, h15, h16, h17, h18, h19, h20, h21, h22, h23, h24, h25, h26, h27, h28, h29, h30, h31, h32, h33, h34, h35, h36⟩ := hJ
            have e0 := h0 (show l 0 = true by first | exact hd.1 rfl | exact hd.2.1 rfl | exact hd.2.2.1 rfl | exact hd.2.2.2.1 rfl | exact hd.2.2.2.2.1 rfl | exact hd.2.2.2.2.2.1 rfl)
            refine Runs.of (b := ?bB1) ?eB1 ?_
            case eB1 => simp only [putV, Act.put, List.setIfInBounds_toArray, List.set_cons_zero, List.set_cons_succ, e0]; rfl
            intro K' hK'
            go_simp
            exact hK'.go _ rfl ⟨hO, hS, hra, hrb, hK, h0, fun _ => rfl, h2, h3, h4, h5, h6, h7, h8, h9, h10, h11, h12, h13, h14, h15, h16, h17, h18, h19, h20, h21, h22, h23, h24, h25, h26, h27, h28, h29, h30, h31, h32, h33, h34, h35, h36⟩
          · intro l x w' hJ hi hd
            obtain ⟨hO, hS, hra, hrb, hK, h0, h1, h2, h3, h4, h5, h6, h7, h8, h9, h10, h11, h12, h13, h14, h15, h16, h17, h18, h19, h20, h21, h22, h23, h24, h25, h26, h27, h28, h29, h30, h31, h32, h33, h34, h35, h36⟩ := hJ
            have e1 := h1 (show l 1 = true by first | exact hd.1 rfl | exact hd.2.1 rfl | exact hd.2.2.1 rfl | exact hd.2.2.2.1 rfl | exact hd.2.2.2.2.1 rfl | exact hd.2.2.2.2.2.1 rfl)
            refine Runs.of (b := ?bB2) ?eB2 ?_
            case eB2 => simp only [putV, Act.put, List.setIfInBounds_toArray, List.set_cons_zero, List.set_cons_succ, e1]; rfl
            intro K' hK'
            go_simp
            exact hK'.go _ rfl ⟨hO, hS, hra, hrb, hK, h0, h1, fun _ => rfl, h3, h4, h5, h6, h7, h8, h9, h10, h11, h12, h13, h14, h15, h16, h17, h18, h19, h20, h21, h22, h23, h24, h25, h26, h27, h28, h29, h30, h31, h32, h33, h34, h35, h36⟩
          · intro l x w' hJ hi hd
            obtain ⟨hO, hS, hra, hrb, hK, h0, h1, h2, h3, h4, h5, h6, h7, h8, h9, h10, h11, h12, h13, h14, h15, h16, h17, h18, h19, h20, h21, h22, h23, h24, h25, h26, h27, h28, h29, h30, h31, h32, h33, h34, h35, h36⟩ := hJ
            have e2 := h2 (show l 2 = true by first | exact hd.1 rfl | exact hd.2.1 rfl | exact hd.2.2.1 rfl | exact hd.2.2.2.1 rfl | exact hd.2.2.2.2.1 rfl | exact hd.2.2.2.2.2.1 rfl)
            refine Runs.of (b := ?bB3) ?eB3 ?_
            case eB3 => simp only [putV, Act.put, List.setIfInBounds_toArray, List.set_cons_zero, List.set_cons_succ, e2]; rfl
            intro K' hK'
            go_simp
            exact hK'.go _ rfl ⟨hO, hS, hra, hrb, hK, h0, h1, h2, fun _ => rfl, h4, h5, h6, h7, h8, h9, h10, h11, h12, h13, h14, h15, h16, h17, h18, h19, h20, h21, h22, h23, h24, h25, h26, h27, h28, h29, h30, h31, h32, h33, h34, h35, h36⟩
          · intro l x w' hJ hi hd
            obtain ⟨hO, hS, hra, hrb, hK, h0, h1, h2, h3, h4, h5, h6, h7, h8, h9, h10, h11, h12, h13, h14, h15, h16, h17, h18, h19, h20, h21, h22, h23, h24, h25, h26, h27, h28, h29, h30, h31, h32, h33, h34, h35, h36⟩ := hJ
            have e2 := h2 (show l 2 = true by first | exact hd.1 rfl | exact hd.2.1 rfl | exact hd.2.2.1 rfl | exact hd.2.2.2.1 rfl | exact hd.2.2.2.2.1 rfl | exact hd.2.2.2.2.2.1 rfl)
            have e3 := h3 (show l 3 = true by first | exact hd.1 rfl | exact hd.2.1 rfl | exact hd.2.2.1 rfl | exact hd.2.2.2.1 rfl | exact hd.2.2.2.2.1 rfl | exact hd.2.2.2.2.2.1 rfl)
            refine Runs.of (b := ?bB4) ?eB4 ?_
            case eB4 => simp only [putV, Act.put, List.setIfInBounds_toArray, List.set_cons_zero, List.set_cons_succ, e2, e3]; rfl
            intro K' hK'
            go_simp
            refine (Text_any hO HBL.out).mono ?_
            rintro e w2 ⟨v2, rfl, hb2, k2⟩
            go_simp
            exact hK'.go v2 rfl ⟨hO.keep k2 (by simp) (by simp), hS.keep k2 (by simp) (by simp), hra.keep k2 (by simp), hrb.keep k2 (by simp), hK.trans k2, h0, h1, h2, h3, fun _ => hb2.mono (by omega), h5, h6, h7, h8, h9, h10, h11, h12, h13, h14, h15, fun h => (h16 h).keep k2 (by simp), h17, h18, h19, h20, h21, h22, h23, h24, h25, h26, h27, h28, h29, fun h => (h30 h).keep k2 (by simp), h31, h32, h33, h34, h35, h36⟩
          · intro l x w' hJ hi hd
            obtain ⟨hO, hS, hra, hrb, hK, h0, h1, h2, h3, h4, h5, h6, h7, h8, h9, h10, h11, h12, h13, h14, h15, h16, h17, h18, h19, h20, h21, h22, h23, h24, h25, h26, h27, h28, h29, h30, h31, h32, h33, h34, h35, h36⟩ := hJ
            have e2 := h2 (show l 2 = true by first | exact hd.1 rfl | exact hd.2.1 rfl | exact hd.2.2.1 rfl | exact hd.2.2.2.1 rfl | exact hd.2.2.2.2.1 rfl | exact hd.2.2.2.2.2.1 rfl)
            have e4 := h4 (show l 4 = true by first | exact hd.1 rfl | exact hd.2.1 rfl | exact hd.2.2.1 rfl | exact hd.2.2.2.1 rfl | exact hd.2.2.2.2.1 rfl | exact hd.2.2.2.2.2.1 rfl)
            have hc := Rd.str (P := Try.prog) (dst := 9) e4.rd HBB.out Try.underlying22 Try.underlying5 Try.underlying9
            obtain ⟨ta, tcap, ht⟩ := e4.slice
            rw [ht] at hc
            refine Runs.of (b := ?bB5) ?eB5 ?_
            case eB5 => simp only [putV, Act.put, List.setIfInBounds_toArray, List.set_cons_zero, List.set_cons_succ, e2, ht]; rfl
            intro K' hK'
            go_simp
            exact hK'.go _ rfl ⟨hO, hS, hra, hrb, hK, h0, h1, h2, h3, h4, fun _ => rfl, h6, h7, h8, h9, h10, h11, h12, h13, h14, h15, h16, h17, h18, h19, h20, h21, h22, h23, h24, h25, h26, h27, h28, h29, h30, h31, h32, h33, h34, h35, h36⟩
          · intro l x w' hJ hi hd
            obtain ⟨hO, hS, hra, hrb, hK, h0, h1, h2, h3, h4, h5, h6, h7, h8, h9, h10, h11, h12, h13, h14, h15, h16, h17, h18, h19, h20, h21, h22, h23, h24, h25, h26, h27, h28, h29, h30, h31, h32, h33, h34, h35, h36⟩ := hJ
            have e2 := h2 (show l 2 = true by first | exact hd.1 rfl | exact hd.2.1 rfl | exact hd.2.2.1 rfl | exact hd.2.2.2.1 rfl | exact hd.2.2.2.2.1 rfl | exact hd.2.2.2.2.2.1 rfl)
            refine Runs.of (b := ?bB6) ?eB6 ?_
            case eB6 => simp only [putV, Act.put, List.setIfInBounds_toArray, List.set_cons_zero, List.set_cons_succ, e2]; rfl
            intro K' hK'
            go_simp
            exact hK'.go _ rfl ⟨hO, hS, hra, hrb, hK, h0, h1, h2, h3, h4, h5, fun _ => rfl, h7, h8, h9, h10, h11, h12, h13, h14, h15, h16, h17, h18, h19, h20, h21, h22, h23, h24, h25, h26, h27, h28, h29, h30, h31, h32, h33, h34, h35, h36⟩
          · intro l x w' hJ hi hd
            obtain ⟨hO, hS, hra, hrb, hK, h0, h1, h2, h3, h4, h5, h6, h7, h8, h9, h10, h11, h12, h13, h14, h15, h16, h17, h18, h19, h20, h21, h22, h23, h24, h25, h26, h27, h28, h29, h30, h31, h32, h33, h34, h35, h36⟩ := hJ
            have e2 := h2 (show l 2 = true by first | exact hd.1 rfl | exact hd.2.1 rfl | exact hd.2.2.1 rfl | exact hd.2.2.2.1 rfl | exact hd.2.2.2.2.1 rfl | exact hd.2.2.2.2.2.1 rfl)
            have e6 := h6 (show l 6 = true by first | exact hd.1 rfl | exact hd.2.1 rfl | exact hd.2.2.1 rfl | exact hd.2.2.2.1 rfl | exact hd.2.2.2.2.1 rfl | exact hd.2.2.2.2.2.1 rfl)
            have hc := Rd.str (P := Try.prog) (dst := 9) hra HBB.out Try.underlying22 Try.underlying5 Try.underlying9
            refine Runs.of (b := ?bB7) ?eB7 ?_
            case eB7 => simp only [putV, Act.put, List.setIfInBounds_toArray, List.set_cons_zero, List.set_cons_succ, e2, e6]; rfl
            intro K' hK'
            go_simp
            exact hK'.go _ rfl ⟨hO, hS, hra, hrb, hK, h0, h1, h2, h3, h4, h5, h6, fun _ => rfl, h8, h9, h10, h11, h12, h13, h14, h15, h16, h17, h18, h19, h20, h21, h22, h23, h24, h25, h26, h27, h28, h29, h30, h31, h32, h33, h34, h35, h36⟩
          · intro l x w' hJ hi hd
            obtain ⟨hO, hS, hra, hrb, hK, h0, h1, h2, h3, h4, h5, h6, h7, h8, h9, h10, h11, h12, h13, h14, h15, h16, h17, h18, h19, h20, h21, h22, h23, h24, h25, h26, h27, h28, h29, h30, h31, h32, h33, h34, h35, h36⟩ := hJ
            have e2 := h2 (show l 2 = true by first | exact hd.1 rfl | exact hd.2.1 rfl | exact hd.2.2.1 rfl | exact hd.2.2.2.1 rfl | exact hd.2.2.2.2.1 rfl | exact hd.2.2.2.2.2.1 rfl)
            have e5 := h5 (show l 5 = true by first | exact hd.1 rfl | exact hd.2.1 rfl | exact hd.2.2.1 rfl | exact hd.2.2.2.1 rfl | exact hd.2.2.2.2.1 rfl | exact hd.2.2.2.2.2.1 rfl)
            have e7 := h7 (show l 7 = true by first | exact hd.1 rfl | exact hd.2.1 rfl | exact hd.2.2.1 rfl | exact hd.2.2.2.1 rfl | exact hd.2.2.2.2.1 rfl | exact hd.2.2.2.2.2.1 rfl)
            refine Runs.of (b := ?bB8) ?eB8 ?_
            case eB8 => simp only [putV, Act.put, List.setIfInBounds_toArray, List.set_cons_zero, List.set_cons_succ, e2, e5, e7]; rfl
            intro K' hK'
            go_simp
            exact hK'.go _ rfl ⟨hO, hS, hra, hrb, hK, h0, h1, h2, h3, h4, h5, h6, h7, fun _ => rfl, h9, h10, h11, h12, h13, h14, h15, h16, h17, h18, h19, h20, h21, h22, h23, h24, h25, h26, h27, h28, h29, h30, h31, h32, h33, h34, h35, h36⟩
          · intro l x w' hJ hi hd
            obtain ⟨hO, hS, hra, hrb, hK, h0, h1, h2, h3, h4, h5, h6, h7, h8, h9, h10, h11, h12, h13, h14, h15, h16, h17, h18, h19, h20, h21, h22, h23, h24, h25, h26, h27, h28, h29, h30, h31, h32, h33, h34, h35, h36⟩ := hJ
            have e2 := h2 (show l 2 = true by first | exact hd.1 rfl | exact hd.2.1 rfl | exact hd.2.2.1 rfl | exact hd.2.2.2.1 rfl | exact hd.2.2.2.2.1 rfl | exact hd.2.2.2.2.2.1 rfl)
            have e8 := h8 (show l 8 = true by first | exact hd.1 rfl | exact hd.2.1 rfl | exact hd.2.2.1 rfl | exact hd.2.2.2.1 rfl | exact hd.2.2.2.2.1 rfl | exact hd.2.2.2.2.2.1 rfl)
            refine Runs.of (b := ?bB9) ?eB9 ?_
            case eB9 => simp only [putV, Act.put, List.setIfInBounds_toArray, List.set_cons_zero, List.set_cons_succ, e2, e8]; rfl
            intro K' hK'
            go_simp
            exact hK'.go _ rfl ⟨hO, hS, hra, hrb, hK, h0, h1, h2, h3, h4, h5, h6, h7, h8, fun _ => rfl, h10, h11, h12, h13, h14, h15, h16, h17, h18, h19, h20, h21, h22, h23, h24, h25, h26, h27, h28, h29, h30, h31, h32, h33, h34, h35, h36⟩
          · intro l x w' hJ hi hd
            obtain ⟨hO, hS, hra, hrb, hK, h0, h1, h2, h3, h4, h5, h6, h7, h8, h9, h10, h11, h12, h13, h14, h15, h16, h17, h18, h19, h20, h21, h22, h23, h24, h25, h26, h27, h28, h29, h30, h31, h32, h33, h34, h35, h36⟩ := hJ
            have e9 := h9 (show l 9 = true by first | exact hd.1 rfl | exact hd.2.1 rfl | exact hd.2.2.1 rfl | exact hd.2.2.2.1 rfl | exact hd.2.2.2.2.1 rfl | exact hd.2.2.2.2.2.1 rfl)
            refine Runs.of (b := ?bB10) ?eB10 ?_
            case eB10 => simp only [putV, Act.put, List.setIfInBounds_toArray, List.set_cons_zero, List.set_cons_succ, e9]; rfl
            intro K' hK'
            go_simp
            exact hK'.go _ rfl ⟨hO, hS, hra, hrb, hK, h0, h1, h2, h3, h4, h5, h6, h7, h8, h9, fun _ => rfl, h11, h12, h13, h14, h15, h16, h17, h18, h19, h20, h21, h22, h23, h24, h25, h26, h27, h28, h29, h30, h31, h32, h33, h34, h35, h36⟩
          · intro l x w' hJ hi hd
            obtain ⟨hO, hS, hra, hrb, hK, h0, h1, h2, h3, h4, h5, h6, h7, h8, h9, h10, h11, h12, h13, h14, h15, h16, h17, h18, h19, h20, h21, h22, h23, h24, h25, h26, h27, h28, h29, h30, h31, h32, h33, h34, h35, h36⟩ := hJ
            have e9 := h9 (show l 9 = true by first | exact hd.1 rfl | exact hd.2.1 rfl | exact hd.2.2.1 rfl | exact hd.2.2.2.1 rfl | exact hd.2.2.2.2.1 rfl | exact hd.2.2.2.2.2.1 rfl)
            have e10 := h10 (show l 10 = true by first | exact hd.1 rfl | exact hd.2.1 rfl | exact hd.2.2.1 rfl | exact hd.2.2.2.1 rfl | exact hd.2.2.2.2.1 rfl | exact hd.2.2.2.2.2.1 rfl)
            refine Runs.of (b := ?bB11) ?eB11 ?_
            case eB11 => simp only [putV, Act.put, List.setIfInBounds_toArray, List.set_cons_zero, List.set_cons_succ, e9, e10]; rfl
            intro K' hK'
            go_simp
            refine (Turn_any hO).mono ?_
            rintro e w2 ⟨rfl, rfl⟩
            go_simp
            exact hK'.go _ rfl ⟨hO, hS, hra, hrb, hK, h0, h1, h2, h3, h4, h5, h6, h7, h8, h9, h10, fun _ => rfl, h12, h13, h14, h15, h16, h17, h18, h19, h20, h21, h22, h23, h24, h25, h26, h27, h28, h29, h30, h31, h32, h33, h34, h35, h36⟩
          · intro l x w' hJ hi hd
            obtain ⟨hO, hS, hra, hrb, hK, h0, h1, h2, h3, h4, h5, h6, h7, h8, h9, h10, h11, h12, h13, h14, h15, h16, h17, h18, h19, h20, h21, h22, h23, h24, h25, h26, h27, h28, h29, h30, h31, h32, h33, h34, h35, h36⟩ := hJ
            have e9 := h9 (show l 9 = true by first | exact hd.1 rfl | exact hd.2.1 rfl | exact hd.2.2.1 rfl | exact hd.2.2.2.1 rfl | exact hd.2.2.2.2.1 rfl | exact hd.2.2.2.2.2.1 rfl)
            have e11 := h11 (show l 11 = true by first | exact hd.1 rfl | exact hd.2.1 rfl | exact hd.2.2.1 rfl | exact hd.2.2.2.1 rfl | exact hd.2.2.2.2.1 rfl | exact hd.2.2.2.2.2.1 rfl)
            refine Runs.of (b := ?bB12) ?eB12 ?_
            case eB12 => simp only [putV, Act.put, List.setIfInBounds_toArray, List.set_cons_zero, List.set_cons_succ, e9, e11]; rfl
            intro K' hK'
            go_simp
            exact hK'.go _ rfl ⟨hO, hS, hra, hrb, hK, h0, h1, h2, h3, h4, h5, h6, h7, h8, h9, h10, h11, fun _ => rfl, h13, h14, h15, h16, h17, h18, h19, h20, h21, h22, h23, h24, h25, h26, h27, h28, h29, h30, h31, h32, h33, h34, h35, h36⟩
          · intro l x w' hJ hi hd
            obtain ⟨hO, hS, hra, hrb, hK, h0, h1, h2, h3, h4, h5, h6, h7, h8, h9, h10, h11, h12, h13, h14, h15, h16, h17, h18, h19, h20, h21, h22, h23, h24, h25, h26, h27, h28, h29, h30, h31, h32, h33, h34, h35, h36⟩ := hJ
            have e2 := h2 (show l 2 = true by first | exact hd.1 rfl | exact hd.2.1 rfl | exact hd.2.2.1 rfl | exact hd.2.2.2.1 rfl | exact hd.2.2.2.2.1 rfl | exact hd.2.2.2.2.2.1 rfl)
            have e9 := h9 (show l 9 = true by first | exact hd.1 rfl | exact hd.2.1 rfl | exact hd.2.2.1 rfl | exact hd.2.2.2.1 rfl | exact hd.2.2.2.2.1 rfl | exact hd.2.2.2.2.2.1 rfl)
            have e12 := h12 (show l 12 = true by first | exact hd.1 rfl | exact hd.2.1 rfl | exact hd.2.2.1 rfl | exact hd.2.2.2.1 rfl | exact hd.2.2.2.2.1 rfl | exact hd.2.2.2.2.2.1 rfl)
            refine Runs.of (b := ?bB13) ?eB13 ?_
            case eB13 => simp only [putV, Act.put, List.setIfInBounds_toArray, List.set_cons_zero, List.set_cons_succ, e2, e9, e12]; rfl
            intro K' hK'
            go_simp
            exact hK'.go _ rfl ⟨hO, hS, hra, hrb, hK, h0, h1, h2, h3, h4, h5, h6, h7, h8, h9, h10, h11, h12, fun _ => rfl, h14, h15, h16, h17, h18, h19, h20, h21, h22, h23, h24, h25, h26, h27, h28, h29, h30, h31, h32, h33, h34, h35, h36⟩
          · intro l x w' hJ hi hd
            obtain ⟨hO, hS, hra, hrb, hK, h0, h1, h2, h3, h4, h5, h6, h7, h8, h9, h10, h11, h12, h13, h14, h15, h16, h17, h18, h19, h20, h21, h22, h23, h24, h25, h26, h27, h28, h29, h30, h31, h32, h33, h34, h35, h36⟩ := hJ
            have e2 := h2 (show l 2 = true by first | exact hd.1 rfl | exact hd.2.1 rfl | exact hd.2.2.1 rfl | exact hd.2.2.2.1 rfl | exact hd.2.2.2.2.1 rfl | exact hd.2.2.2.2.2.1 rfl)
            have e13 := h13 (show l 13 = true by first | exact hd.1 rfl | exact hd.2.1 rfl | exact hd.2.2.1 rfl | exact hd.2.2.2.1 rfl | exact hd.2.2.2.2.1 rfl | exact hd.2.2.2.2.2.1 rfl)
            refine Runs.of (b := ?bB14) ?eB14 ?_
            case eB14 => simp only [putV, Act.put, List.setIfInBounds_toArray, List.set_cons_zero, List.set_cons_succ, e2, e13]; rfl
            intro K' hK'
            go_simp
            exact hK'.go _ rfl ⟨hO, hS, hra, hrb, hK, h0, h1, h2, h3, h4, h5, h6, h7, h8, h9, h10, h11, h12, h13, fun _ => rfl, h15, h16, h17, h18, h19, h20, h21, h22, h23, h24, h25, h26, h27, h28, h29, h30, h31, h32, h33, h34, h35, h36⟩
          · intro l x w' hJ hi hd
            obtain ⟨hO, hS, hra, hrb, hK, h0, h1, h2, h3, h4, h5, h6, h7, h8, h9, h10, h11, h12, h13, h14, h15, h16, h17, h18, h19, h20, h21, h22, h23, h24, h25, h26, h27, h28, h29, h30, h31, h32, h33, h34, h35, h36⟩ := hJ
            have e14 := h14 (show l 14 = true by first | exact hd.1 rfl | exact hd.2.1 rfl | exact hd.2.2.1 rfl | exact hd.2.2.2.1 rfl | exact hd.2.2.2.2.1 rfl | exact hd.2.2.2.2.2.1 rfl)
            refine Runs.of (b := ?bB15) ?eB15 ?_
            case eB15 => simp only [putV, Act.put, List.setIfInBounds_toArray, List.set_cons_zero, List.set_cons_succ, e14]; rfl
            intro K' hK'
            go_simp
            exact hK'.go _ rfl ⟨hO, hS, hra, hrb, hK, h0, h1, h2, h3, h4, h5, h6, h7, h8, h9, h10, h11, h12, h13, h14, fun _ => rfl, h16, h17, h18, h19, h20, h21, h22, h23, h24, h25, h26, h27, h28, h29, h30, h31, h32, h33, h34, h35, h36⟩
          · intro l x w' hJ hi hd
            obtain ⟨hO, hS, hra, hrb, hK, h0, h1, h2, h3, h4, h5, h6, h7, h8, h9, h10, h11, h12, h13, h14, h15, h16, h17, h18, h19, h20, h21, h22, h23, h24, h25, h26, h27, h28, h29, h30, h31, h32, h33, h34, h35, h36⟩ := hJ
            have e14 := h14 (show l 14 = true by first | exact hd.1 rfl | exact hd.2.1 rfl | exact hd.2.2.1 rfl | exact hd.2.2.2.1 rfl | exact hd.2.2.2.2.1 rfl | exact hd.2.2.2.2.2.1 rfl)
            have e15 := h15 (show l 15 = true by first | exact hd.1 rfl | exact hd.2.1 rfl | exact hd.2.2.1 rfl | exact hd.2.2.2.1 rfl | exact hd.2.2.2.2.1 rfl | exact hd.2.2.2.2.2.1 rfl)
            refine Runs.of (b := ?bB16) ?eB16 ?_
            case eB16 => simp only [putV, Act.put, List.setIfInBounds_toArray, List.set_cons_zero, List.set_cons_succ, e14, e15]; rfl
            intro K' hK'
            go_simp
            refine (Text_any hO HBL.out).mono ?_
            rintro e w2 ⟨v2, rfl, hb2, k2⟩
            go_simp
            exact hK'.go v2 rfl ⟨hO.keep k2 (by simp) (by simp), hS.keep k2 (by simp) (by simp), hra.keep k2 (by simp), hrb.keep k2 (by simp), hK.trans k2, h0, h1, h2, h3, fun h => (h4 h).keep k2 (by simp), h5, h6, h7, h8, h9, h10, h11, h12, h13, h14, h15, fun _ => hb2.mono (by omega), h17, h18, h19, h20, h21, h22, h23, h24, h25, h26, h27, h28, h29, fun h => (h30 h).keep k2 (by simp), h31, h32, h33, h34, h35, h36⟩
          · intro l x w' hJ hi hd
            obtain ⟨hO, hS, hra, hrb, hK, h0, h1, h2, h3, h4, h5, h6, h7, h8, h9, h10, h11, h12, h13, h14, h15, h16, h17, h18, h19, h20, h21, h22, h23, h24, h25, h26, h27, h28, h29, h30, h31, h32, h33, h34, h35, h36⟩ := hJ
            have e14 := h14 (show l 14 = true by first | exact hd.1 rfl | exact hd.2.1 rfl | exact hd.2.2.1 rfl | exact hd.2.2.2.1 rfl | exact hd.2.2.2.2.1 rfl | exact hd.2.2.2.2.2.1 rfl)
            have e16 := h16 (show l 16 = true by first | exact hd.1 rfl | exact hd.2.1 rfl | exact hd.2.2.1 rfl | exact hd.2.2.2.1 rfl | exact hd.2.2.2.2.1 rfl | exact hd.2.2.2.2.2.1 rfl)
            have hc := Rd.str (P := Try.prog) (dst := 9) e16.rd HBB.out Try.underlying22 Try.underlying5 Try.underlying9
            obtain ⟨ta, tcap, ht⟩ := e16.slice
            rw [ht] at hc
            refine Runs.of (b := ?bB17) ?eB17 ?_
            case eB17 => simp only [putV, Act.put, List.setIfInBounds_toArray, List.set_cons_zero, List.set_cons_succ, e14, ht]; rfl
            intro K' hK'
            go_simp
            exact hK'.go _ rfl ⟨hO, hS, hra, hrb, hK, h0, h1, h2, h3, h4, h5, h6, h7, h8, h9, h10, h11, h12, h13, h14, h15, h16, fun _ => rfl, h18, h19, h20, h21, h22, h23, h24, h25, h26, h27, h28, h29, h30, h31, h32, h33, h34, h35, h36⟩
          · intro l x w' hJ hi hd
            obtain ⟨hO, hS, hra, hrb, hK, h0, h1, h2, h3, h4, h5, h6, h7, h8, h9, h10, h11, h12, h13, h14, h15, h16, h17, h18, h19, h20, h21, h22, h23, h24, h25, h26, h27, h28, h29, h30, h31, h32, h33, h34, h35, h36⟩ := hJ
            have e14 := h14 (show l 14 = true by first | exact hd.1 rfl | exact hd.2.1 rfl | exact hd.2.2.1 rfl | exact hd.2.2.2.1 rfl | exact hd.2.2.2.2.1 rfl | exact hd.2.2.2.2.2.1 rfl)
            refine Runs.of (b := ?bB18) ?eB18 ?_
            case eB18 => simp only [putV, Act.put, List.setIfInBounds_toArray, List.set_cons_zero, List.set_cons_succ, e14]; rfl
            intro K' hK'
            go_simp
            exact hK'.go _ rfl ⟨hO, hS, hra, hrb, hK, h0, h1, h2, h3, h4, h5, h6, h7, h8, h9, h10, h11, h12, h13, h14, h15, h16, h17, fun _ => rfl, h19, h20, h21, h22, h23, h24, h25, h26, h27, h28, h29, h30, h31, h32, h33, h34, h35, h36⟩
          · intro l x w' hJ hi hd
            obtain ⟨hO, hS, hra, hrb, hK, h0, h1, h2, h3, h4, h5, h6, h7, h8, h9, h10, h11, h12, h13, h14, h15, h16, h17, h18, h19, h20, h21, h22, h23, h24, h25, h26, h27, h28, h29, h30, h31, h32, h33, h34, h35, h36⟩ := hJ
            have e14 := h14 (show l 14 = true by first | exact hd.1 rfl | exact hd.2.1 rfl | exact hd.2.2.1 rfl | exact hd.2.2.2.1 rfl | exact hd.2.2.2.2.1 rfl | exact hd.2.2.2.2.2.1 rfl)
            have e18 := h18 (show l 18 = true by first | exact hd.1 rfl | exact hd.2.1 rfl | exact hd.2.2.1 rfl | exact hd.2.2.2.1 rfl | exact hd.2.2.2.2.1 rfl | exact hd.2.2.2.2.2.1 rfl)
            have hc := Rd.str (P := Try.prog) (dst := 9) hrb HBB.out Try.underlying22 Try.underlying5 Try.underlying9
            refine Runs.of (b := ?bB19) ?eB19 ?_
            case eB19 => simp only [putV, Act.put, List.setIfInBounds_toArray, List.set_cons_zero, List.set_cons_succ, e14, e18]; rfl
            intro K' hK'
            go_simp
            exact hK'.go _ rfl ⟨hO, hS, hra, hrb, hK, h0, h1, h2, h3, h4, h5, h6, h7, h8, h9, h10, h11, h12, h13, h14, h15, h16, h17, h18, fun _ => rfl, h20, h21, h22, h23, h24, h25, h26, h27, h28, h29, h30, h31, h32, h33, h34, h35, h36⟩
          · intro l x w' hJ hi hd
            obtain ⟨hO, hS, hra, hrb, hK, h0, h1, h2, h3, h4, h5, h6, h7, h8, h9, h10, h11, h12, h13, h14, h15, h16, h17, h18, h19, h20, h21, h22, h23, h24, h25, h26, h27, h28, h29, h30, h31, h32, h33, h34, h35, h36⟩ := hJ
            have e14 := h14 (show l 14 = true by first | exact hd.1 rfl | exact hd.2.1 rfl | exact hd.2.2.1 rfl | exact hd.2.2.2.1 rfl | exact hd.2.2.2.2.1 rfl | exact hd.2.2.2.2.2.1 rfl)
            have e17 := h17 (show l 17 = true by first | exact hd.1 rfl | exact hd.2.1 rfl | exact hd.2.2.1 rfl | exact hd.2.2.2.1 rfl | exact hd.2.2.2.2.1 rfl | exact hd.2.2.2.2.2.1 rfl)
            have e19 := h19 (show l 19 = true by first | exact hd.1 rfl | exact hd.2.1 rfl | exact hd.2.2.1 rfl | exact hd.2.2.2.1 rfl | exact hd.2.2.2.2.1 rfl | exact hd.2.2.2.2.2.1 rfl)
            refine Runs.of (b := ?bB20) ?eB20 ?_
            case eB20 => simp only [putV, Act.put, List.setIfInBounds_toArray, List.set_cons_zero, List.set_cons_succ, e14, e17, e19]; rfl
            intro K' hK'
            go_simp
            exact hK'.go _ rfl ⟨hO, hS, hra, hrb, hK, h0, h1, h2, h3, h4, h5, h6, h7, h8, h9, h10, h11, h12, h13, h14, h15, h16, h17, h18, h19, fun _ => rfl, h21, h22, h23, h24, h25, h26, h27, h28, h29, h30, h31, h32, h33, h34, h35, h36⟩
          · intro l x w' hJ hi hd
            obtain ⟨hO, hS, hra, hrb, hK, h0, h1, h2, h3, h4, h5, h6, h7, h8, h9, h10, h11, h12, h13, h14, h15, h16, h17, h18, h19, h20, h21, h22, h23, h24, h25, h26, h27, h28, h29, h30, h31, h32, h33, h34, h35, h36⟩ := hJ
            have e14 := h14 (show l 14 = true by first | exact hd.1 rfl | exact hd.2.1 rfl | exact hd.2.2.1 rfl | exact hd.2.2.2.1 rfl | exact hd.2.2.2.2.1 rfl | exact hd.2.2.2.2.2.1 rfl)
            have e20 := h20 (show l 20 = true by first | exact hd.1 rfl | exact hd.2.1 rfl | exact hd.2.2.1 rfl | exact hd.2.2.2.1 rfl | exact hd.2.2.2.2.1 rfl | exact hd.2.2.2.2.2.1 rfl)
            refine Runs.of (b := ?bB21) ?eB21 ?_
            case eB21 => simp only [putV, Act.put, List.setIfInBounds_toArray, List.set_cons_zero, List.set_cons_succ, e14, e20]; rfl
            intro K' hK'
            go_simp
            exact hK'.go _ rfl ⟨hO, hS, hra, hrb, hK, h0, h1, h2, h3, h4, h5, h6, h7, h8, h9, h10, h11, h12, h13, h14, h15, h16, h17, h18, h19, h20, fun _ => rfl, h22, h23, h24, h25, h26, h27, h28, h29, h30, h31, h32, h33, h34, h35, h36⟩
          · intro l x w' hJ hi hd
            obtain ⟨hO, hS, hra, hrb, hK, h0, h1, h2, h3, h4, h5, h6, h7, h8, h9, h10, h11, h12, h13, h14, h15, h16, h17, h18, h19, h20, h21, h22, h23, h24, h25, h26, h27, h28, h29, h30, h31, h32, h33, h34, h35, h36⟩ := hJ
            have e21 := h21 (show l 21 = true by first | exact hd.1 rfl | exact hd.2.1 rfl | exact hd.2.2.1 rfl | exact hd.2.2.2.1 rfl | exact hd.2.2.2.2.1 rfl | exact hd.2.2.2.2.2.1 rfl)
            refine Runs.of (b := ?bB22) ?eB22 ?_
            case eB22 => simp only [putV, Act.put, List.setIfInBounds_toArray, List.set_cons_zero, List.set_cons_succ, e21]; rfl
            intro K' hK'
            go_simp
            exact hK'.go _ rfl ⟨hO, hS, hra, hrb, hK, h0, h1, h2, h3, h4, h5, h6, h7, h8, h9, h10, h11, h12, h13, h14, h15, h16, h17, h18, h19, h20, h21, fun _ => rfl, h23, h24, h25, h26, h27, h28, h29, h30, h31, h32, h33, h34, h35, h36⟩
          · intro l x w' hJ hi hd
            obtain ⟨hO, hS, hra, hrb, hK, h0, h1, h2, h3, h4, h5, h6, h7, h8, h9, h10, h11, h12, h13, h14, h15, h16, h17, h18, h19, h20, h21, h22, h23, h24, h25, h26, h27, h28, h29, h30, h31, h32, h33, h34, h35, h36⟩ := hJ
            have e21 := h21 (show l 21 = true by first | exact hd.1 rfl | exact hd.2.1 rfl | exact hd.2.2.1 rfl | exact hd.2.2.2.1 rfl | exact hd.2.2.2.2.1 rfl | exact hd.2.2.2.2.2.1 rfl)
            have e22 := h22 (show l 22 = true by first | exact hd.1 rfl | exact hd.2.1 rfl | exact hd.2.2.1 rfl | exact hd.2.2.2.1 rfl | exact hd.2.2.2.2.1 rfl | exact hd.2.2.2.2.2.1 rfl)
            refine Runs.of (b := ?bB23) ?eB23 ?_
            case eB23 => simp only [putV, Act.put, List.setIfInBounds_toArray, List.set_cons_zero, List.set_cons_succ, e21, e22]; rfl
            intro K' hK'
            go_simp
            refine (Turn_any hO).mono ?_
            rintro e w2 ⟨rfl, rfl⟩
            go_simp
            exact hK'.go _ rfl ⟨hO, hS, hra, hrb, hK, h0, h1, h2, h3, h4, h5, h6, h7, h8, h9, h10, h11, h12, h13, h14, h15, h16, h17, h18, h19, h20, h21, h22, fun _ => rfl, h24, h25, h26, h27, h28, h29, h30, h31, h32, h33, h34, h35, h36⟩
          · intro l x w' hJ hi hd
            obtain ⟨hO, hS, hra, hrb, hK, h0, h1, h2, h3, h4, h5, h6, h7, h8, h9, h10, h11, h12, h13, h14, h15, h16, h17, h18, h19, h20, h21, h22, h23, h24, h25, h26, h27, h28, h29, h30, h31, h32, h33, h34, h35, h36⟩ := hJ
            have e21 := h21 (show l 21 = true by first | exact hd.1 rfl | exact hd.2.1 rfl | exact hd.2.2.1 rfl | exact hd.2.2.2.1 rfl | exact hd.2.2.2.2.1 rfl | exact hd.2.2.2.2.2.1 rfl)
            have e23 := h23 (show l 23 = true by first | exact hd.1 rfl | exact hd.2.1 rfl | exact hd.2.2.1 rfl | exact hd.2.2.2.1 rfl | exact hd.2.2.2.2.1 rfl | exact hd.2.2.2.2.2.1 rfl)
            refine Runs.of (b := ?bB24) ?eB24 ?_
            case eB24 => simp only [putV, Act.put, List.setIfInBounds_toArray, List.set_cons_zero, List.set_cons_succ, e21, e23]; rfl
            intro K' hK'
            go_simp
            exact hK'.go _ rfl ⟨hO, hS, hra, hrb, hK, h0, h1, h2, h3, h4, h5, h6, h7, h8, h9, h10, h11, h12, h13, h14, h15, h16, h17, h18, h19, h20, h21, h22, h23, fun _ => rfl, h25, h26, h27, h28, h29, h30, h31, h32, h33, h34, h35, h36⟩
          · intro l x w' hJ hi hd
            obtain ⟨hO, hS, hra, hrb, hK, h0, h1, h2, h3, h4, h5, h6, h7, h8, h9, h10, h11, h12, h13, h14, h15, h16, h17, h18, h19, h20, h21, h22, h23, h24, h25, h26, h27, h28, h29, h30, h31, h32, h33, h34, h35, h36⟩ := hJ
            have e14 := h14 (show l 14 = true by first | exact hd.1 rfl | exact hd.2.1 rfl | exact hd.2.2.1 rfl | exact hd.2.2.2.1 rfl | exact hd.2.2.2.2.1 rfl | exact hd.2.2.2.2.2.1 rfl)
            have e21 := h21 (show l 21 = true by first | exact hd.1 rfl | exact hd.2.1 rfl | exact hd.2.2.1 rfl | exact hd.2.2.2.1 rfl | exact hd.2.2.2.2.1 rfl | exact hd.2.2.2.2.2.1 rfl)
            have e24 := h24 (show l 24 = true by first | exact hd.1 rfl | exact hd.2.1 rfl | exact hd.2.2.1 rfl | exact hd.2.2.2.1 rfl | exact hd.2.2.2.2.1 rfl | exact hd.2.2.2.2.2.1 rfl)
            refine Runs.of (b := ?bB25) ?eB25 ?_
            case eB25 => simp only [putV, Act.put, List.setIfInBounds_toArray, List.set_cons_zero, List.set_cons_succ, e14, e21, e24]; rfl
            intro K' hK'
            go_simp
            exact hK'.go _ rfl ⟨hO, hS, hra, hrb, hK, h0, h1, h2, h3, h4, h5, h6, h7, h8, h9, h10, h11, h12, h13, h14, h15, h16, h17, h18, h19, h20, h21, h22, h23, h24, fun _ => rfl, h26, h27, h28, h29, h30, h31, h32, h33, h34, h35, h36⟩
          · intro l x w' hJ hi hd
            obtain ⟨hO, hS, hra, hrb, hK, h0, h1, h2, h3, h4, h5, h6, h7, h8, h9, h10, h11, h12, h13, h14, h15, h16, h17, h18, h19, h20, h21, h22, h23, h24, h25, h26, h27, h28, h29, h30, h31, h32, h33, h34, h35, h36⟩ := hJ
            have e2 := h2 (show l 2 = true by first | exact hd.1 rfl | exact hd.2.1 rfl | exact hd.2.2.1 rfl | exact hd.2.2.2.1 rfl | exact hd.2.2.2.2.1 rfl | exact hd.2.2.2.2.2.1 rfl)
            have e14 := h14 (show l 14 = true by first | exact hd.1 rfl | exact hd.2.1 rfl | exact hd.2.2.1 rfl | exact hd.2.2.2.1 rfl | exact hd.2.2.2.2.1 rfl | exact hd.2.2.2.2.2.1 rfl)
            have e25 := h25 (show l 25 = true by first | exact hd.1 rfl | exact hd.2.1 rfl | exact hd.2.2.1 rfl | exact hd.2.2.2.1 rfl | exact hd.2.2.2.2.1 rfl | exact hd.2.2.2.2.2.1 rfl)
            refine Runs.of (b := ?bB26) ?eB26 ?_
            case eB26 => simp only [putV, Act.put, List.setIfInBounds_toArray, List.set_cons_zero, List.set_cons_succ, e2, e14, e25]; rfl
            intro K' hK'
            go_simp
            exact hK'.go _ rfl ⟨hO, hS, hra, hrb, hK, h0, h1, h2, h3, h4, h5, h6, h7, h8, h9, h10, h11, h12, h13, h14, h15, h16, h17, h18, h19, h20, h21, h22, h23, h24, h25, fun _ => rfl, h27, h28, h29, h30, h31, h32, h33, h34, h35, h36⟩
          · intro l x w' hJ hi hd
            obtain ⟨hO, hS, hra, hrb, hK, h0, h1, h2, h3, h4, h5, h6, h7, h8, h9, h10, h11, h12, h13, h14, h15, h16, h17, h18, h19, h20, h21, h22, h23, h24, h25, h26, h27, h28, h29, h30, h31, h32, h33, h34, h35, h36⟩ := hJ
            have e2 := h2 (show l 2 = true by first | exact hd.1 rfl | exact hd.2.1 rfl | exact hd.2.2.1 rfl | exact hd.2.2.2.1 rfl | exact hd.2.2.2.2.1 rfl | exact hd.2.2.2.2.2.1 rfl)
            have e26 := h26 (show l 26 = true by first | exact hd.1 rfl | exact hd.2.1 rfl | exact hd.2.2.1 rfl | exact hd.2.2.2.1 rfl | exact hd.2.2.2.2.1 rfl | exact hd.2.2.2.2.2.1 rfl)
            refine Runs.of (b := ?bB27) ?eB27 ?_
            case eB27 => simp only [putV, Act.put, List.setIfInBounds_toArray, List.set_cons_zero, List.set_cons_succ, e2, e26]; rfl
            intro K' hK'
            go_simp
            exact hK'.go _ rfl ⟨hO, hS, hra, hrb, hK, h0, h1, h2, h3, h4, h5, h6, h7, h8, h9, h10, h11, h12, h13, h14, h15, h16, h17, h18, h19, h20, h21, h22, h23, h24, h25, h26, fun _ => rfl, h28, h29, h30, h31, h32, h33, h34, h35, h36⟩
          · intro l x w' hJ hi hd
            obtain ⟨hO, hS, hra, hrb, hK, h0, h1, h2, h3, h4, h5, h6, h7, h8, h9, h10, h11, h12, h13, h14, h15, h16, h17, h18, h19, h20, h21, h22, h23, h24, h25, h26, h27, h28, h29, h30, h31, h32, h33, h34, h35, h36⟩ := hJ
            have e27 := h27 (show l 27 = true by first | exact hd.1 rfl | exact hd.2.1 rfl | exact hd.2.2.1 rfl | exact hd.2.2.2.1 rfl | exact hd.2.2.2.2.1 rfl | exact hd.2.2.2.2.2.1 rfl)
            refine Runs.of (b := ?bB28) ?eB28 ?_
            case eB28 => simp only [putV, Act.put, List.setIfInBounds_toArray, List.set_cons_zero, List.set_cons_succ, e27]; rfl
            intro K' hK'
            go_simp
            exact hK'.go _ rfl ⟨hO, hS, hra, hrb, hK, h0, h1, h2, h3, h4, h5, h6, h7, h8, h9, h10, h11, h12, h13, h14, h15, h16, h17, h18, h19, h20, h21, h22, h23, h24, h25, h26, h27, fun _ => rfl, h29, h30, h31, h32, h33, h34, h35, h36⟩
          · intro l x w' hJ hi hd
            obtain ⟨hO, hS, hra, hrb, hK, h0, h1, h2, h3, h4, h5, h6, h7, h8, h9, h10, h11, h12, h13, h14, h15, h16, h17, h18, h19, h20, h21, h22, h23, h24, h25, h26, h27, h28, h29, h30, h31, h32, h33, h34, h35, h36⟩ := hJ
            have e28 := h28 (show l 28 = true by first | exact hd.1 rfl | exact hd.2.1 rfl | exact hd.2.2.1 rfl | exact hd.2.2.2.1 rfl | exact hd.2.2.2.2.1 rfl | exact hd.2.2.2.2.2.1 rfl)
            refine Runs.of (b := ?bB29) ?eB29 ?_
            case eB29 => simp only [putV, Act.put, List.setIfInBounds_toArray, List.set_cons_zero, List.set_cons_succ, e28]; rfl
            intro K' hK'
            go_simp
            exact hK'.go _ rfl ⟨hO, hS, hra, hrb, hK, h0, h1, h2, h3, h4, h5, h6, h7, h8, h9, h10, h11, h12, h13, h14, h15, h16, h17, h18, h19, h20, h21, h22, h23, h24, h25, h26, h27, h28, fun _ => rfl, h30, h31, h32, h33, h34, h35, h36⟩
          · intro l x w' hJ hi hd
            obtain ⟨hO, hS, hra, hrb, hK, h0, h1, h2, h3, h4, h5, h6, h7, h8, h9, h10, h11, h12, h13, h14, h15, h16, h17, h18, h19, h20, h21, h22, h23, h24, h25, h26, h27, h28, h29, h30, h31, h32, h33, h34, h35, h36⟩ := hJ
            have e28 := h28 (show l 28 = true by first | exact hd.1 rfl | exact hd.2.1 rfl | exact hd.2.2.1 rfl | exact hd.2.2.2.1 rfl | exact hd.2.2.2.2.1 rfl | exact hd.2.2.2.2.2.1 rfl)
            have e29 := h29 (show l 29 = true by first | exact hd.1 rfl | exact hd.2.1 rfl | exact hd.2.2.1 rfl | exact hd.2.2.2.1 rfl | exact hd.2.2.2.2.1 rfl | exact hd.2.2.2.2.2.1 rfl)
            refine Runs.of (b := ?bB30) ?eB30 ?_
            case eB30 => simp only [putV, Act.put, List.setIfInBounds_toArray, List.set_cons_zero, List.set_cons_succ, e28, e29]; rfl
            intro K' hK'
            go_simp
            refine (Text_any hS HBL.out).mono ?_
            rintro e w2 ⟨v2, rfl, hb2, k2⟩
            go_simp
            exact hK'.go v2 rfl ⟨hO.keep k2 (by simp) (by simp), hS.keep k2 (by simp) (by simp), hra.keep k2 (by simp), hrb.keep k2 (by simp), hK.trans k2, h0, h1, h2, h3, fun h => (h4 h).keep k2 (by simp), h5, h6, h7, h8, h9, h10, h11, h12, h13, h14, h15, fun h => (h16 h).keep k2 (by simp), h17, h18, h19, h20, h21, h22, h23, h24, h25, h26, h27, h28, h29, fun _ => hb2.mono (by omega), h31, h32, h33, h34, h35, h36⟩
          · intro l x w' hJ hi hd
            obtain ⟨hO, hS, hra, hrb, hK, h0, h1, h2, h3, h4, h5, h6, h7, h8, h9, h10, h11, h12, h13, h14, h15, h16, h17, h18, h19, h20, h21, h22, h23, h24, h25, h26, h27, h28, h29, h30, h31, h32, h33, h34, h35, h36⟩ := hJ
            have e28 := h28 (show l 28 = true by first | exact hd.1 rfl | exact hd.2.1 rfl | exact hd.2.2.1 rfl | exact hd.2.2.2.1 rfl | exact hd.2.2.2.2.1 rfl | exact hd.2.2.2.2.2.1 rfl)
            have e30 := h30 (show l 30 = true by first | exact hd.1 rfl | exact hd.2.1 rfl | exact hd.2.2.1 rfl | exact hd.2.2.2.1 rfl | exact hd.2.2.2.2.1 rfl | exact hd.2.2.2.2.2.1 rfl)
            have hc := Rd.str (P := Try.prog) (dst := 9) e30.rd HBB.out Try.underlying22 Try.underlying5 Try.underlying9
            obtain ⟨ta, tcap, ht⟩ := e30.slice
            rw [ht] at hc
            refine Runs.of (b := ?bB31) ?eB31 ?_
            case eB31 => simp only [putV, Act.put, List.setIfInBounds_toArray, List.set_cons_zero, List.set_cons_succ, e28, ht]; rfl
            intro K' hK'
            go_simp
            exact hK'.go _ rfl ⟨hO, hS, hra, hrb, hK, h0, h1, h2, h3, h4, h5, h6, h7, h8, h9, h10, h11, h12, h13, h14, h15, h16, h17, h18, h19, h20, h21, h22, h23, h24, h25, h26, h27, h28, h29, h30, fun _ => rfl, h32, h33, h34, h35, h36⟩
          · intro l x w' hJ hi hd
            obtain ⟨hO, hS, hra, hrb, hK, h0, h1, h2, h3, h4, h5, h6, h7, h8, h9, h10, h11, h12, h13, h14, h15, h16, h17, h18, h19, h20, h21, h22, h23, h24, h25, h26, h27, h28, h29, h30, h31, h32, h33, h34, h35, h36⟩ := hJ
            have e28 := h28 (show l 28 = true by first | exact hd.1 rfl | exact hd.2.1 rfl | exact hd.2.2.1 rfl | exact hd.2.2.2.1 rfl | exact hd.2.2.2.2.1 rfl | exact hd.2.2.2.2.2.1 rfl)
            refine Runs.of (b := ?bB32) ?eB32 ?_
            case eB32 => simp only [putV, Act.put, List.setIfInBounds_toArray, List.set_cons_zero, List.set_cons_succ, e28]; rfl
            intro K' hK'
            go_simp
            exact hK'.go _ rfl ⟨hO, hS, hra, hrb, hK, h0, h1, h2, h3, h4, h5, h6, h7, h8, h9, h10, h11, h12, h13, h14, h15, h16, h17, h18, h19, h20, h21, h22, h23, h24, h25, h26, h27, h28, h29, h30, h31, fun _ => rfl, h33, h34, h35, h36⟩
          · intro l x w' hJ hi hd
            obtain ⟨hO, hS, hra, hrb, hK, h0, h1, h2, h3, h4, h5, h6, h7, h8, h9, h10, h11, h12, h13, h14, h15, h16, h17, h18, h19, h20, h21, h22, h23, h24, h25, h26, h27, h28, h29, h30, h31, h32, h33, h34, h35, h36⟩ := hJ
            have e28 := h28 (show l 28 = true by first | exact hd.1 rfl | exact hd.2.1 rfl | exact hd.2.2.1 rfl | exact hd.2.2.2.1 rfl | exact hd.2.2.2.2.1 rfl | exact hd.2.2.2.2.2.1 rfl)
            have e32 := h32 (show l 32 = true by first | exact hd.1 rfl | exact hd.2.1 rfl | exact hd.2.2.1 rfl | exact hd.2.2.2.1 rfl | exact hd.2.2.2.2.1 rfl | exact hd.2.2.2.2.2.1 rfl)
            have hc := Rd.str (P := Try.prog) (dst := 9) hra HBB.out Try.underlying22 Try.underlying5 Try.underlying9
            refine Runs.of (b := ?bB33) ?eB33 ?_
            case eB33 => simp only [putV, Act.put, List.setIfInBounds_toArray, List.set_cons_zero, List.set_cons_succ, e28, e32]; rfl
            intro K' hK'
            go_simp
            exact hK'.go _ rfl ⟨hO, hS, hra, hrb, hK, h0, h1, h2, h3, h4, h5, h6, h7, h8, h9, h10, h11, h12, h13, h14, h15, h16, h17, h18, h19, h20, h21, h22, h23, h24, h25, h26, h27, h28, h29, h30, h31, h32, fun _ => rfl, h34, h35, h36⟩
          · intro l x w' hJ hi hd
            obtain ⟨hO, hS, hra, hrb, hK, h0, h1, h2, h3, h4, h5, h6, h7, h8, h9, h10, h11, h12, h13, h14, h15, h16, h17, h18, h19, h20, h21, h22, h23, h24, h25, h26, h27, h28, h29, h30, h31, h32, h33, h34, h35, h36⟩ := hJ
            have e28 := h28 (show l 28 = true by first | exact hd.1 rfl | exact hd.2.1 rfl | exact hd.2.2.1 rfl | exact hd.2.2.2.1 rfl | exact hd.2.2.2.2.1 rfl | exact hd.2.2.2.2.2.1 rfl)
            have e31 := h31 (show l 31 = true by first | exact hd.1 rfl | exact hd.2.1 rfl | exact hd.2.2.1 rfl | exact hd.2.2.2.1 rfl | exact hd.2.2.2.2.1 rfl | exact hd.2.2.2.2.2.1 rfl)
            have e33 := h33 (show l 33 = true by first | exact hd.1 rfl | exact hd.2.1 rfl | exact hd.2.2.1 rfl | exact hd.2.2.2.1 rfl | exact hd.2.2.2.2.1 rfl | exact hd.2.2.2.2.2.1 rfl)
            refine Runs.of (b := ?bB34) ?eB34 ?_
            case eB34 => simp only [putV, Act.put, List.setIfInBounds_toArray, List.set_cons_zero, List.set_cons_succ, e28, e31, e33]; rfl
            intro K' hK'
            go_simp
            exact hK'.go _ rfl ⟨hO, hS, hra, hrb, hK, h0, h1, h2, h3, h4, h5, h6, h7, h8, h9, h10, h11, h12, h13, h14, h15, h16, h17, h18, h19, h20, h21, h22, h23, h24, h25, h26, h27, h28, h29, h30, h31, h32, h33, fun _ => rfl, h35, h36⟩
          · intro l x w' hJ hi hd
            obtain ⟨hO, hS, hra, hrb, hK, h0, h1, h2, h3, h4, h5, h6, h7, h8, h9, h10, h11, h12, h13, h14, h15, h16, h17, h18, h19, h20, h21, h22, h23, h24, h25, h26, h27, h28, h29, h30, h31, h32, h33, h34, h35, h36⟩ := hJ
            have e28 := h28 (show l 28 = true by first | exact hd.1 rfl | exact hd.2.1 rfl | exact hd.2.2.1 rfl | exact hd.2.2.2.1 rfl | exact hd.2.2.2.2.1 rfl | exact hd.2.2.2.2.2.1 rfl)
            have e34 := h34 (show l 34 = true by first | exact hd.1 rfl | exact hd.2.1 rfl | exact hd.2.2.1 rfl | exact hd.2.2.2.1 rfl | exact hd.2.2.2.2.1 rfl | exact hd.2.2.2.2.2.1 rfl)
            refine Runs.of (b := ?bB35) ?eB35 ?_
            case eB35 => simp only [putV, Act.put, List.setIfInBounds_toArray, List.set_cons_zero, List.set_cons_succ, e28, e34]; rfl
            intro K' hK'
            go_simp
            exact hK'.go _ rfl ⟨hO, hS, hra, hrb, hK, h0, h1, h2, h3, h4, h5, h6, h7, h8, h9, h10, h11, h12, h13, h14, h15, h16, h17, h18, h19, h20, h21, h22, h23, h24, h25, h26, h27, h28, h29, h30, h31, h32, h33, h34, fun _ => rfl, h36⟩
          · intro l x w' hJ hi hd
            obtain ⟨hO, hS, hra, hrb, hK, h0, h1, h2, h3, h4, h5, h6, h7, h8, h9, h10, h11, h12, h13, h14, h15, h16, h17, h18, h19, h20, h21, h22, h23, h24, h25, h26, h27, h28, h29, h30, h31, h32, h33, h34, h35, h36⟩ := hJ
            have e35 := h35 (show l 35 = true by first | exact hd.1 rfl | exact hd.2.1 rfl | exact hd.2.2.1 rfl | exact hd.2.2.2.1 rfl | exact hd.2.2.2.2.1 rfl | exact hd.2.2.2.2.2.1 rfl)
            refine Runs.of (b := ?bB36) ?eB36 ?_
            case eB36 => simp only [putV, Act.put, List.setIfInBounds_toArray, List.set_cons_zero, List.set_cons_succ, e35]; rfl
            intro K' hK'
            go_simp
            exact hK'.go _ rfl ⟨hO, hS, hra, hrb, hK, h0, h1, h2, h3, h4, h5, h6, h7, h8, h9, h10, h11, h12, h13, h14, h15, h16, h17, h18, h19, h20, h21, h22, h23, h24, h25, h26, h27, h28, h29, h30, h31, h32, h33, h34, h35, fun _ => rfl⟩
          · intro l x w3 hJ hl
            obtain ⟨hO, hS, hra, hrb, hK, h0, h1, h2, h3, h4, h5, h6, h7, h8, h9, h10, h11, h12, h13, h14, h15, h16, h17, h18, h19, h20, h21, h22, h23, h24, h25, h26, h27, h28, h29, h30, h31, h32, h33, h34, h35, h36⟩ := hJ
            have e36 := h36 (hl 36 (by decide))
            simp only [putV, Act.put, List.setIfInBounds_toArray, List.set_cons_zero, List.set_cons_succ, e36]
            have K := K.trans hK
            clear h0 h1 h2 h3 h4 h5 h6 h7 h8 h9 h10 h11 h12 h13 h14 h15 h16 h17 h18 h19 h20 h21 h22 h23 h24 h25 h26 h27 h28 h29 h30 h31 h32 h33 h34 h35 h36 e36 hl hO hS hra hrb hK
            go_wp2_with fail
            go_ret
            exact ⟨rfl, K.below⟩
        · have hne : ¬ (toStr TB).toList = (toStr TA).toList := str_ne HBB.out HAB.out hab
          have hne2 : ((toStr TB).toList == (toStr TA).toList) = false := by simpa using hne
          clear hab
          go_wp2_with fail
          refine wp_region_inv (tornC w9 va0 vb0 vac vbc TA TB o s d d8) (by kernel_rfl) (by kernel_rfl) (by kernel_rfl) ?_ (Steps.cons 0 ?_ (Steps.cons 1 ?_ (Steps.cons 2 ?_ (Steps.cons 3 ?_ (Steps.cons 4 ?_ (Steps.cons 5 ?_ (Steps.cons 6 ?_ (Steps.cons 7 ?_ (Steps.cons 8 ?_ (Steps.cons 9 ?_ (Steps.cons 10 ?_ (Steps.cons 11 ?_ (Steps.cons 12 ?_ (Steps.cons 13 ?_ (Steps.cons 14 ?_ (Steps.cons 15 ?_ (Steps.cons 16 ?_ (Steps.cons 17 ?_ (Steps.cons 18 ?_ (Steps.cons 19 ?_ (Steps.cons 20 ?_ (Steps.cons 21 ?_ (Steps.cons 22 ?_ (Steps.cons 23 ?_ (Steps.cons 24 ?_ (Steps.cons 25 ?_ (Steps.cons 26 ?_ (Steps.cons 27 ?_ (Steps.cons 28 ?_ (Steps.cons 29 ?_ (Steps.cons 30 ?_ (Steps.cons 31 ?_ (Steps.cons 32 ?_ (Steps.cons 33 ?_ (Steps.cons 34 ?_ (Steps.cons 35 ?_ (Steps.cons 36 ?_ (Steps.nil 37)))))))))))))))))))))))))))))))))))))) 37 rfl ?_
          · intro x
            exact ⟨hO.keep ((Keep.refl [] _).drew) (by simp) (by simp), hS.keep ((Keep.refl [] _).drew) (by simp) (by simp), hra.keep ((Keep.refl [] _).drew) (by simp), hrb.keep ((Keep.refl [] _).drew) (by simp), (Keep.refl _ _).drew, fun h => absurd h (by decide), fun h => absurd h (by decide), fun h => absurd h (by decide), fun h => absurd h (by decide), fun h => absurd h (by decide), fun h => absurd h (by decide), fun h => absurd h (by decide), fun h => absurd h (by decide), fun h => absurd h (by decide), fun h => absurd h (by decide), fun h => absurd h (by decide), fun h => absurd h (by decide), fun h => absurd h (by decide), fun h => absurd h (by decide), fun h => absurd h (by decide), fun h => absurd h (by decide), fun h => absurd h (by decide), fun h => absurd h (by decide), fun h => absurd h (by decide), fun h => absurd h (by decide), fun h => absurd h (by decide), fun h => absurd h (by decide), fun h => absurd h (by decide), fun h => absurd h (by decide), fun h => absurd h (by decide), fun h => absurd h (by decide), fun h => absurd h (by decide), fun h => absurd h (by decide), fun h => absurd h (by decide), fun h => absurd h (by decide), fun h => absurd h (by decide), fun h => absurd h (by decide), fun h => absurd h (by decide), fun h => absurd h (by decide)⟩
          · intro l x w' hJ hi hd
            obtain ⟨hO, hS, hra, hrb, hK, h0, h1, h2, h3, h4, h5, h6, h7, h8, h9, h13, h14, h15, h16, h17, h18, h19, h20, h21, h22, h23, h24, h25, h26, h27, h28, h29, h30, h31, h32, h33, h34, h35, h36⟩ := hJ
            refine Runs.of (b := ?bC0) ?eC0 ?_
            case eC0 => simp only [putV, Act.put, List.setIfInBounds_toArray, List.set_cons_zero, List.set_cons_succ]; rfl
            intro K' hK'
            go_simp
            exact hK'.go _ rfl ⟨hO, hS, hra, hrb, hK, fun _ => rfl, h1, h2, h3, h4, h5, h6, h7, h8, h9, h13, h14, h15, h16, h17, h18, h19, h20, h21, h22, h23, h24, h25, h26, h27, h28, h29, h30, h31, h32, h33, h34, h35, h36⟩
          · intro l x w' hJ hi hd
            obtain ⟨hO, hS, hra, hrb, hK, h0, h1, h2, h3, h4, h5, h6, h7, h8, h9, h13, h14, h15, h16, h17, h18, h19, h20, h21, h22, h23, h24, h25, h26, h27, h28, h29, h30, h31, h32, h33, h34, h35, h36⟩ := hJ
            have e0 := h0 (show l 0 = true by first | exact hd.1 rfl | exact hd.2.1 rfl | exact hd.2.2.1 rfl | exact hd.2.2.2.1 rfl | exact hd.2.2.2.2.1 rfl | exact hd.2.2.2.2.2.1 rfl)
            refine Runs.of (b := ?bC1) ?eC1 ?_
            case eC1 => simp only [putV, Act.put, List.setIfInBounds_toArray, List.set_cons_zero, List.set_cons_succ, e0]; rfl
            intro K' hK'
            go_simp
            exact hK'.go _ rfl ⟨hO, hS, hra, hrb, hK, h0, fun _ => rfl, h2, h3, h4, h5, h6, h7, h8, h9, h13, h14, h15, h16, h17, h18, h19, h20, h21, h22, h23, h24, h25, h26, h27, h28, h29, h30, h31, h32, h33, h34, h35, h36⟩
          · intro l x w' hJ hi hd
            obtain ⟨hO, hS, hra, hrb, hK, h0, h1, h2, h3, h4, h5, h6, h7, h8, h9, h13, h14, h15, h16, h17, h18, h19, h20, h21, h22, h23, h24, h25, h26, h27, h28, h29, h30, h31, h32, h33, h34, h35, h36⟩ := hJ
            have e1 := h1 (show l 1 = true by first | exact hd.1 rfl | exact hd.2.1 rfl | exact hd.2.2.1 rfl | exact hd.2.2.2.1 rfl | exact hd.2.2.2.2.1 rfl | exact hd.2.2.2.2.2.1 rfl)
            refine Runs.of (b := ?bC2) ?eC2 ?_
            case eC2 => simp only [putV, Act.put, List.setIfInBounds_toArray, List.set_cons_zero, List.set_cons_succ, e1]; rfl
            intro K' hK'
            go_simp
            exact hK'.go _ rfl ⟨hO, hS, hra, hrb, hK, h0, h1, fun _ => rfl, h3, h4, h5, h6, h7, h8, h9, h13, h14, h15, h16, h17, h18, h19, h20, h21, h22, h23, h24, h25, h26, h27, h28, h29, h30, h31, h32, h33, h34, h35, h36⟩
          · intro l x w' hJ hi hd
            obtain ⟨hO, hS, hra, hrb, hK, h0, h1, h2, h3, h4, h5, h6, h7, h8, h9, h13, h14, h15, h16, h17, h18, h19, h20, h21, h22, h23, h24, h25, h26, h27, h28, h29, h30, h31, h32, h33, h34, h35, h36⟩ := hJ
            have e2 := h2 (show l 2 = true by first | exact hd.1 rfl | exact hd.2.1 rfl | exact hd.2.2.1 rfl | exact hd.2.2.2.1 rfl | exact hd.2.2.2.2.1 rfl | exact hd.2.2.2.2.2.1 rfl)
            refine Runs.of (b := ?bC3) ?eC3 ?_
            case eC3 => simp only [putV, Act.put, List.setIfInBounds_toArray, List.set_cons_zero, List.set_cons_succ, e2]; rfl
            intro K' hK'
            go_simp
            exact hK'.go _ rfl ⟨hO, hS, hra, hrb, hK, h0, h1, h2, fun _ => rfl, h4, h5, h6, h7, h8, h9, h13, h14, h15, h16, h17, h18, h19, h20, h21, h22, h23, h24, h25, h26, h27, h28, h29, h30, h31, h32, h33, h34, h35, h36⟩
          · intro l x w' hJ hi hd
            obtain ⟨hO, hS, hra, hrb, hK, h0, h1, h2, h3, h4, h5, h6, h7, h8, h9, h13, h14, h15, h16, h17, h18, h19, h20, h21, h22, h23, h24, h25, h26, h27, h28, h29, h30, h31, h32, h33, h34, h35, h36⟩ := hJ
            have e2 := h2 (show l 2 = true by first | exact hd.1 rfl | exact hd.2.1 rfl | exact hd.2.2.1 rfl | exact hd.2.2.2.1 rfl | exact hd.2.2.2.2.1 rfl | exact hd.2.2.2.2.2.1 rfl)
            have e3 := h3 (show l 3 = true by first | exact hd.1 rfl | exact hd.2.1 rfl | exact hd.2.2.1 rfl | exact hd.2.2.2.1 rfl | exact hd.2.2.2.2.1 rfl | exact hd.2.2.2.2.2.1 rfl)
            refine Runs.of (b := ?bC4) ?eC4 ?_
            case eC4 => simp only [putV, Act.put, List.setIfInBounds_toArray, List.set_cons_zero, List.set_cons_succ, e2, e3]; rfl
            intro K' hK'
            go_simp
            refine (Text_any hO HBL.out).mono ?_
            rintro e w2 ⟨v2, rfl, hb2, k2⟩
            go_simp
            exact hK'.go v2 rfl ⟨hO.keep k2 (by simp) (by simp), hS.keep k2 (by simp) (by simp), hra.keep k2 (by simp), hrb.keep k2 (by simp), hK.trans k2, h0, h1, h2, h3, fun _ => hb2.mono (by omega), h5, h6, h7, h8, h9, h13, h14, h15, fun h => (h16 h).keep k2 (by simp), h17, h18, h19, h20, h21, h22, h23, h24, h25, h26, h27, h28, h29, fun h => (h30 h).keep k2 (by simp), h31, h32, h33, h34, h35, h36⟩
          · intro l x w' hJ hi hd
            obtain ⟨hO, hS, hra, hrb, hK, h0, h1, h2, h3, h4, h5, h6, h7, h8, h9, h13, h14, h15, h16, h17, h18, h19, h20, h21, h22, h23, h24, h25, h26, h27, h28, h29, h30, h31, h32, h33, h34, h35, h36⟩ := hJ
            have e2 := h2 (show l 2 = true by first | exact hd.1 rfl | exact hd.2.1 rfl | exact hd.2.2.1 rfl | exact hd.2.2.2.1 rfl | exact hd.2.2.2.2.1 rfl | exact hd.2.2.2.2.2.1 rfl)
            have e4 := h4 (show l 4 = true by first | exact hd.1 rfl | exact hd.2.1 rfl | exact hd.2.2.1 rfl | exact hd.2.2.2.1 rfl | exact hd.2.2.2.2.1 rfl | exact hd.2.2.2.2.2.1 rfl)
            have hc := Rd.str (P := Try.prog) (dst := 9) e4.rd HBB.out Try.underlying22 Try.underlying5 Try.underlying9
            obtain ⟨ta, tcap, ht⟩ := e4.slice
            rw [ht] at hc
            refine Runs.of (b := ?bC5) ?eC5 ?_
            case eC5 => simp only [putV, Act.put, List.setIfInBounds_toArray, List.set_cons_zero, List.set_cons_succ, e2, ht]; rfl
            intro K' hK'
            go_simp
            exact hK'.go _ rfl ⟨hO, hS, hra, hrb, hK, h0, h1, h2, h3, h4, fun _ => rfl, h6, h7, h8, h9, h13, h14, h15, h16, h17, h18, h19, h20, h21, h22, h23, h24, h25, h26, h27, h28, h29, h30, h31, h32, h33, h34, h35, h36⟩
          · intro l x w' hJ hi hd
            obtain ⟨hO, hS, hra, hrb, hK, h0, h1, h2, h3, h4, h5, h6, h7, h8, h9, h13, h14, h15, h16, h17, h18, h19, h20, h21, h22, h23, h24, h25, h26, h27, h28, h29, h30, h31, h32, h33, h34, h35, h36⟩ := hJ
            have e2 := h2 (show l 2 = true by first | exact hd.1 rfl | exact hd.2.1 rfl | exact hd.2.2.1 rfl | exact hd.2.2.2.1 rfl | exact hd.2.2.2.2.1 rfl | exact hd.2.2.2.2.2.1 rfl)
            refine Runs.of (b := ?bC6) ?eC6 ?_
            case eC6 => simp only [putV, Act.put, List.setIfInBounds_toArray, List.set_cons_zero, List.set_cons_succ, e2]; rfl
            intro K' hK'
            go_simp
            exact hK'.go _ rfl ⟨hO, hS, hra, hrb, hK, h0, h1, h2, h3, h4, h5, fun _ => rfl, h7, h8, h9, h13, h14, h15, h16, h17, h18, h19, h20, h21, h22, h23, h24, h25, h26, h27, h28, h29, h30, h31, h32, h33, h34, h35, h36⟩
          · intro l x w' hJ hi hd
            obtain ⟨hO, hS, hra, hrb, hK, h0, h1, h2, h3, h4, h5, h6, h7, h8, h9, h13, h14, h15, h16, h17, h18, h19, h20, h21, h22, h23, h24, h25, h26, h27, h28, h29, h30, h31, h32, h33, h34, h35, h36⟩ := hJ
            have e2 := h2 (show l 2 = true by first | exact hd.1 rfl | exact hd.2.1 rfl | exact hd.2.2.1 rfl | exact hd.2.2.2.1 rfl | exact hd.2.2.2.2.1 rfl | exact hd.2.2.2.2.2.1 rfl)
            have e6 := h6 (show l 6 = true by first | exact hd.1 rfl | exact hd.2.1 rfl | exact hd.2.2.1 rfl | exact hd.2.2.2.1 rfl | exact hd.2.2.2.2.1 rfl | exact hd.2.2.2.2.2.1 rfl)
            have hc := Rd.str (P := Try.prog) (dst := 9) hra HAB.out Try.underlying22 Try.underlying5 Try.underlying9
            refine Runs.of (b := ?bC7) ?eC7 ?_
            case eC7 => simp only [putV, Act.put, List.setIfInBounds_toArray, List.set_cons_zero, List.set_cons_succ, e2, e6]; rfl
            intro K' hK'
            go_simp
            exact hK'.go _ rfl ⟨hO, hS, hra, hrb, hK, h0, h1, h2, h3, h4, h5, h6, fun _ => rfl, h8, h9, h13, h14, h15, h16, h17, h18, h19, h20, h21, h22, h23, h24, h25, h26, h27, h28, h29, h30, h31, h32, h33, h34, h35, h36⟩
          · intro l x w' hJ hi hd
            obtain ⟨hO, hS, hra, hrb, hK, h0, h1, h2, h3, h4, h5, h6, h7, h8, h9, h13, h14, h15, h16, h17, h18, h19, h20, h21, h22, h23, h24, h25, h26, h27, h28, h29, h30, h31, h32, h33, h34, h35, h36⟩ := hJ
            have e2 := h2 (show l 2 = true by first | exact hd.1 rfl | exact hd.2.1 rfl | exact hd.2.2.1 rfl | exact hd.2.2.2.1 rfl | exact hd.2.2.2.2.1 rfl | exact hd.2.2.2.2.2.1 rfl)
            have e5 := h5 (show l 5 = true by first | exact hd.1 rfl | exact hd.2.1 rfl | exact hd.2.2.1 rfl | exact hd.2.2.2.1 rfl | exact hd.2.2.2.2.1 rfl | exact hd.2.2.2.2.2.1 rfl)
            have e7 := h7 (show l 7 = true by first | exact hd.1 rfl | exact hd.2.1 rfl | exact hd.2.2.1 rfl | exact hd.2.2.2.1 rfl | exact hd.2.2.2.2.1 rfl | exact hd.2.2.2.2.2.1 rfl)
            refine Runs.of (b := ?bC8) ?eC8 ?_
            case eC8 => simp only [putV, Act.put, List.setIfInBounds_toArray, List.set_cons_zero, List.set_cons_succ, e2, e5, e7]; rfl
            intro K' hK'
            go_simp
            exact hK'.go _ rfl ⟨hO, hS, hra, hrb, hK, h0, h1, h2, h3, h4, h5, h6, h7, fun _ => rfl, h9, h13, h14, h15, h16, h17, h18, h19, h20, h21, h22, h23, h24, h25, h26, h27, h28, h29, h30, h31, h32, h33, h34, h35, h36⟩
          · intro l x w' hJ hi hd
            obtain ⟨hO, hS, hra, hrb, hK, h0, h1, h2, h3, h4, h5, h6, h7, h8, h9, h13, h14, h15, h16, h17, h18, h19, h20, h21, h22, h23, h24, h25, h26, h27, h28, h29, h30, h31, h32, h33, h34, h35, h36⟩ := hJ
            have e2 := h2 (show l 2 = true by first | exact hd.1 rfl | exact hd.2.1 rfl | exact hd.2.2.1 rfl | exact hd.2.2.2.1 rfl | exact hd.2.2.2.2.1 rfl | exact hd.2.2.2.2.2.1 rfl)
            have e8 := h8 (show l 8 = true by first | exact hd.1 rfl | exact hd.2.1 rfl | exact hd.2.2.1 rfl | exact hd.2.2.2.1 rfl | exact hd.2.2.2.2.1 rfl | exact hd.2.2.2.2.2.1 rfl)
            refine Runs.of (b := ?bC9) ?eC9 ?_
            case eC9 => simp only [putV, Act.put, List.setIfInBounds_toArray, List.set_cons_zero, List.set_cons_succ, e2, e8]; rfl
            intro K' hK'
            go_simp
            exact hK'.go _ rfl ⟨hO, hS, hra, hrb, hK, h0, h1, h2, h3, h4, h5, h6, h7, h8, fun _ => rfl, h13, h14, h15, h16, h17, h18, h19, h20, h21, h22, h23, h24, h25, h26, h27, h28, h29, h30, h31, h32, h33, h34, h35, h36⟩
          · intro l x w' hJ hi hd
            obtain ⟨hO, hS, hra, hrb, hK, h0, h1, h2, h3, h4, h5, h6, h7, h8, h9, h13, h14, h15, h16, h17, h18, h19, h20, h21, h22, h23, h24, h25, h26, h27, h28, h29, h30, h31, h32, h33, h34, h35, h36⟩ := hJ
            have e9 := h9 (show l 9 = true by first | exact hd.1 rfl | exact hd.2.1 rfl | exact hd.2.2.1 rfl | exact hd.2.2.2.1 rfl | exact hd.2.2.2.2.1 rfl | exact hd.2.2.2.2.2.1 rfl)
            refine Runs.of (b := ?bC10) ?eC10 ?_
            case eC10 => simp only [putV, Act.put, List.setIfInBounds_toArray, List.set_cons_zero, List.set_cons_succ, e9]; rfl
            intro K' hK'
            go_simp
            exact hK'.go undef rfl ⟨hO, hS, hra, hrb, hK, h0, h1, h2, h3, h4, h5, h6, h7, h8, h9, h13, h14, h15, h16, h17, h18, h19, h20, h21, h22, h23, h24, h25, h26, h27, h28, h29, h30, h31, h32, h33, h34, h35, h36⟩
          · intro l x w' hJ hi hd
            obtain ⟨hO, hS, hra, hrb, hK, h0, h1, h2, h3, h4, h5, h6, h7, h8, h9, h13, h14, h15, h16, h17, h18, h19, h20, h21, h22, h23, h24, h25, h26, h27, h28, h29, h30, h31, h32, h33, h34, h35, h36⟩ := hJ
            have e9 := h9 (show l 9 = true by first | exact hd.1 rfl | exact hd.2.1 rfl | exact hd.2.2.1 rfl | exact hd.2.2.2.1 rfl | exact hd.2.2.2.2.1 rfl | exact hd.2.2.2.2.2.1 rfl)
            refine Runs.of (b := ?bC11) ?eC11 ?_
            case eC11 => simp only [putV, Act.put, List.setIfInBounds_toArray, List.set_cons_zero, List.set_cons_succ, e9]; rfl
            intro K' hK'
            go_simp
            exact hK'.go undef rfl ⟨hO, hS, hra, hrb, hK, h0, h1, h2, h3, h4, h5, h6, h7, h8, h9, h13, h14, h15, h16, h17, h18, h19, h20, h21, h22, h23, h24, h25, h26, h27, h28, h29, h30, h31, h32, h33, h34, h35, h36⟩
          · intro l x w' hJ hi hd
            obtain ⟨hO, hS, hra, hrb, hK, h0, h1, h2, h3, h4, h5, h6, h7, h8, h9, h13, h14, h15, h16, h17, h18, h19, h20, h21, h22, h23, h24, h25, h26, h27, h28, h29, h30, h31, h32, h33, h34, h35, h36⟩ := hJ
            have e9 := h9 (show l 9 = true by first | exact hd.1 rfl | exact hd.2.1 rfl | exact hd.2.2.1 rfl | exact hd.2.2.2.1 rfl | exact hd.2.2.2.2.1 rfl | exact hd.2.2.2.2.2.1 rfl)
            refine Runs.of (b := ?bC12) ?eC12 ?_
            case eC12 => simp only [putV, Act.put, List.setIfInBounds_toArray, List.set_cons_zero, List.set_cons_succ, e9]; rfl
            intro K' hK'
            go_simp
            exact hK'.go undef rfl ⟨hO, hS, hra, hrb, hK, h0, h1, h2, h3, h4, h5, h6, h7, h8, h9, h13, h14, h15, h16, h17, h18, h19, h20, h21, h22, h23, h24, h25, h26, h27, h28, h29, h30, h31, h32, h33, h34, h35, h36⟩
          · intro l x w' hJ hi hd
            obtain ⟨hO, hS, hra, hrb, hK, h0, h1, h2, h3, h4, h5, h6, h7, h8, h9, h13, h14, h15, h16, h17, h18, h19, h20, h21, h22, h23, h24, h25, h26, h27, h28, h29, h30, h31, h32, h33, h34, h35, h36⟩ := hJ
            have e2 := h2 (show l 2 = true by first | exact hd.1 rfl | exact hd.2.1 rfl | exact hd.2.2.1 rfl | exact hd.2.2.2.1 rfl | exact hd.2.2.2.2.1 rfl | exact hd.2.2.2.2.2.1 rfl)
            have e9 := h9 (show l 9 = true by first | exact hd.1 rfl | exact hd.2.1 rfl | exact hd.2.2.1 rfl | exact hd.2.2.2.1 rfl | exact hd.2.2.2.2.1 rfl | exact hd.2.2.2.2.2.1 rfl)
            refine Runs.of (b := ?bC13) ?eC13 ?_
            case eC13 => simp only [putV, Act.put, List.setIfInBounds_toArray, List.set_cons_zero, List.set_cons_succ, e2, e9]; rfl
            intro K' hK'
            go_simp
            exact hK'.go _ rfl ⟨hO, hS, hra, hrb, hK, h0, h1, h2, h3, h4, h5, h6, h7, h8, h9, fun _ => rfl, h14, h15, h16, h17, h18, h19, h20, h21, h22, h23, h24, h25, h26, h27, h28, h29, h30, h31, h32, h33, h34, h35, h36⟩
          · intro l x w' hJ hi hd
            obtain ⟨hO, hS, hra, hrb, hK, h0, h1, h2, h3, h4, h5, h6, h7, h8, h9, h13, h14, h15, h16, h17, h18, h19, h20, h21, h22, h23, h24, h25, h26, h27, h28, h29, h30, h31, h32, h33, h34, h35, h36⟩ := hJ
            have e2 := h2 (show l 2 = true by first | exact hd.1 rfl | exact hd.2.1 rfl | exact hd.2.2.1 rfl | exact hd.2.2.2.1 rfl | exact hd.2.2.2.2.1 rfl | exact hd.2.2.2.2.2.1 rfl)
            have e13 := h13 (show l 13 = true by first | exact hd.1 rfl | exact hd.2.1 rfl | exact hd.2.2.1 rfl | exact hd.2.2.2.1 rfl | exact hd.2.2.2.2.1 rfl | exact hd.2.2.2.2.2.1 rfl)
            refine Runs.of (b := ?bC14) ?eC14 ?_
            case eC14 => simp only [putV, Act.put, List.setIfInBounds_toArray, List.set_cons_zero, List.set_cons_succ, e2, e13]; rfl
            intro K' hK'
            go_simp
            exact hK'.go _ rfl ⟨hO, hS, hra, hrb, hK, h0, h1, h2, h3, h4, h5, h6, h7, h8, h9, h13, fun _ => rfl, h15, h16, h17, h18, h19, h20, h21, h22, h23, h24, h25, h26, h27, h28, h29, h30, h31, h32, h33, h34, h35, h36⟩
          · intro l x w' hJ hi hd
            obtain ⟨hO, hS, hra, hrb, hK, h0, h1, h2, h3, h4, h5, h6, h7, h8, h9, h13, h14, h15, h16, h17, h18, h19, h20, h21, h22, h23, h24, h25, h26, h27, h28, h29, h30, h31, h32, h33, h34, h35, h36⟩ := hJ
            have e14 := h14 (show l 14 = true by first | exact hd.1 rfl | exact hd.2.1 rfl | exact hd.2.2.1 rfl | exact hd.2.2.2.1 rfl | exact hd.2.2.2.2.1 rfl | exact hd.2.2.2.2.2.1 rfl)
            refine Runs.of (b := ?bC15) ?eC15 ?_
            case eC15 => simp only [putV, Act.put, List.setIfInBounds_toArray, List.set_cons_zero, List.set_cons_succ, e14]; rfl
            intro K' hK'
            go_simp
            exact hK'.go _ rfl ⟨hO, hS, hra, hrb, hK, h0, h1, h2, h3, h4, h5, h6, h7, h8, h9, h13, h14, fun _ => rfl, h16, h17, h18, h19, h20, h21, h22, h23, h24, h25, h26, h27, h28, h29, h30, h31, h32, h33, h34, h35, h36⟩
          · intro l x w' hJ hi hd
            obtain ⟨hO, hS, hra, hrb, hK, h0, h1, h2, h3, h4, h5, h6, h7, h8, h9, h13, h14, h15, h16, h17, h18, h19, h20, h21, h22, h23, h24, h25, h26, h27, h28, h29, h30, h31, h32, h33, h34, h35, h36⟩ := hJ
            have e14 := h14 (show l 14 = true by first | exact hd.1 rfl | exact hd.2.1 rfl | exact hd.2.2.1 rfl | exact hd.2.2.2.1 rfl | exact hd.2.2.2.2.1 rfl | exact hd.2.2.2.2.2.1 rfl)
            have e15 := h15 (show l 15 = true by first | exact hd.1 rfl | exact hd.2.1 rfl | exact hd.2.2.1 rfl | exact hd.2.2.2.1 rfl | exact hd.2.2.2.2.1 rfl | exact hd.2.2.2.2.2.1 rfl)
            refine Runs.of (b := ?bC16) ?eC16 ?_
            case eC16 => simp only [putV, Act.put, List.setIfInBounds_toArray, List.set_cons_zero, List.set_cons_succ, e14, e15]; rfl
            intro K' hK'
            go_simp
            refine (Text_any hO HBL.out).mono ?_
            rintro e w2 ⟨v2, rfl, hb2, k2⟩
            go_simp
            exact hK'.go v2 rfl ⟨hO.keep k2 (by simp) (by simp), hS.keep k2 (by simp) (by simp), hra.keep k2 (by simp), hrb.keep k2 (by simp), hK.trans k2, h0, h1, h2, h3, fun h => (h4 h).keep k2 (by simp), h5, h6, h7, h8, h9, h13, h14, h15, fun _ => hb2.mono (by omega), h17, h18, h19, h20, h21, h22, h23, h24, h25, h26, h27, h28, h29, fun h => (h30 h).keep k2 (by simp), h31, h32, h33, h34, h35, h36⟩
          · intro l x w' hJ hi hd
            obtain ⟨hO, hS, hra, hrb, hK, h0, h1, h2, h3, h4, h5, h6, h7, h8, h9, h13, h14, h15, h16, h17, h18, h19, h20, h21, h22, h23, h24, h25, h26, h27, h28, h29, h30, h31, h32, h33, h34, h35, h36⟩ := hJ
            have e14 := h14 (show l 14 = true by first | exact hd.1 rfl | exact hd.2.1 rfl | exact hd.2.2.1 rfl | exact hd.2.2.2.1 rfl | exact hd.2.2.2.2.1 rfl | exact hd.2.2.2.2.2.1 rfl)
            have e16 := h16 (show l 16 = true by first | exact hd.1 rfl | exact hd.2.1 rfl | exact hd.2.2.1 rfl | exact hd.2.2.2.1 rfl | exact hd.2.2.2.2.1 rfl | exact hd.2.2.2.2.2.1 rfl)
            have hc := Rd.str (P := Try.prog) (dst := 9) e16.rd HBB.out Try.underlying22 Try.underlying5 Try.underlying9
            obtain ⟨ta, tcap, ht⟩ := e16.slice
            rw [ht] at hc
            refine Runs.of (b := ?bC17) ?eC17 ?_
            case eC17 => simp only [putV, Act.put, List.setIfInBounds_toArray, List.set_cons_zero, List.set_cons_succ, e14, ht]; rfl
            intro K' hK'
            go_simp
            exact hK'.go _ rfl ⟨hO, hS, hra, hrb, hK, h0, h1, h2, h3, h4, h5, h6, h7, h8, h9, h13, h14, h15, h16, fun _ => rfl, h18, h19, h20, h21, h22, h23, h24, h25, h26, h27, h28, h29, h30, h31, h32, h33, h34, h35, h36⟩
          · intro l x w' hJ hi hd
            obtain ⟨hO, hS, hra, hrb, hK, h0, h1, h2, h3, h4, h5, h6, h7, h8, h9, h13, h14, h15, h16, h17, h18, h19, h20, h21, h22, h23, h24, h25, h26, h27, h28, h29, h30, h31, h32, h33, h34, h35, h36⟩ := hJ
            have e14 := h14 (show l 14 = true by first | exact hd.1 rfl | exact hd.2.1 rfl | exact hd.2.2.1 rfl | exact hd.2.2.2.1 rfl | exact hd.2.2.2.2.1 rfl | exact hd.2.2.2.2.2.1 rfl)
            refine Runs.of (b := ?bC18) ?eC18 ?_
            case eC18 => simp only [putV, Act.put, List.setIfInBounds_toArray, List.set_cons_zero, List.set_cons_succ, e14]; rfl
            intro K' hK'
            go_simp
            exact hK'.go _ rfl ⟨hO, hS, hra, hrb, hK, h0, h1, h2, h3, h4, h5, h6, h7, h8, h9, h13, h14, h15, h16, h17, fun _ => rfl, h19, h20, h21, h22, h23, h24, h25, h26, h27, h28, h29, h30, h31, h32, h33, h34, h35, h36⟩
          · intro l x w' hJ hi hd
            obtain ⟨hO, hS, hra, hrb, hK, h0, h1, h2, h3, h4, h5, h6, h7, h8, h9, h13, h14, h15, h16, h17, h18, h19, h20, h21, h22, h23, h24, h25, h26, h27, h28, h29, h30, h31, h32, h33, h34, h35, h36⟩ := hJ
            have e14 := h14 (show l 14 = true by first | exact hd.1 rfl | exact hd.2.1 rfl | exact hd.2.2.1 rfl | exact hd.2.2.2.1 rfl | exact hd.2.2.2.2.1 rfl | exact hd.2.2.2.2.2.1 rfl)
            have e18 := h18 (show l 18 = true by first | exact hd.1 rfl | exact hd.2.1 rfl | exact hd.2.2.1 rfl | exact hd.2.2.2.1 rfl | exact hd.2.2.2.2.1 rfl | exact hd.2.2.2.2.2.1 rfl)
            have hc := Rd.str (P := Try.prog) (dst := 9) hrb HBB.out Try.underlying22 Try.underlying5 Try.underlying9
            refine Runs.of (b := ?bC19) ?eC19 ?_
            case eC19 => simp only [putV, Act.put, List.setIfInBounds_toArray, List.set_cons_zero, List.set_cons_succ, e14, e18]; rfl
            intro K' hK'
            go_simp
            exact hK'.go _ rfl ⟨hO, hS, hra, hrb, hK, h0, h1, h2, h3, h4, h5, h6, h7, h8, h9, h13, h14, h15, h16, h17, h18, fun _ => rfl, h20, h21, h22, h23, h24, h25, h26, h27, h28, h29, h30, h31, h32, h33, h34, h35, h36⟩
          · intro l x w' hJ hi hd
            obtain ⟨hO, hS, hra, hrb, hK, h0, h1, h2, h3, h4, h5, h6, h7, h8, h9, h13, h14, h15, h16, h17, h18, h19, h20, h21, h22, h23, h24, h25, h26, h27, h28, h29, h30, h31, h32, h33, h34, h35, h36⟩ := hJ
            have e14 := h14 (show l 14 = true by first | exact hd.1 rfl | exact hd.2.1 rfl | exact hd.2.2.1 rfl | exact hd.2.2.2.1 rfl | exact hd.2.2.2.2.1 rfl | exact hd.2.2.2.2.2.1 rfl)
            have e17 := h17 (show l 17 = true by first | exact hd.1 rfl | exact hd.2.1 rfl | exact hd.2.2.1 rfl | exact hd.2.2.2.1 rfl | exact hd.2.2.2.2.1 rfl | exact hd.2.2.2.2.2.1 rfl)
            have e19 := h19 (show l 19 = true by first | exact hd.1 rfl | exact hd.2.1 rfl | exact hd.2.2.1 rfl | exact hd.2.2.2.1 rfl | exact hd.2.2.2.2.1 rfl | exact hd.2.2.2.2.2.1 rfl)
            refine Runs.of (b := ?bC20) ?eC20 ?_
            case eC20 => simp only [putV, Act.put, List.setIfInBounds_toArray, List.set_cons_zero, List.set_cons_succ, e14, e17, e19]; rfl
            intro K' hK'
            go_simp
            exact hK'.go _ rfl ⟨hO, hS, hra, hrb, hK, h0, h1, h2, h3, h4, h5, h6, h7, h8, h9, h13, h14, h15, h16, h17, h18, h19, fun _ => rfl, h21, h22, h23, h24, h25, h26, h27, h28, h29, h30, h31, h32, h33, h34, h35, h36⟩
          · intro l x w' hJ hi hd
            obtain ⟨hO, hS, hra, hrb, hK, h0, h1, h2, h3, h4, h5, h6, h7, h8, h9, h13, h14, h15, h16, h17, h18, h19, h20, h21, h22, h23, h24, h25, h26, h27, h28, h29, h30, h31, h32, h33, h34, h35, h36⟩ := hJ
            have e14 := h14 (show l 14 = true by first | exact hd.1 rfl | exact hd.2.1 rfl | exact hd.2.2.1 rfl | exact hd.2.2.2.1 rfl | exact hd.2.2.2.2.1 rfl | exact hd.2.2.2.2.2.1 rfl)
            have e20 := h20 (show l 20 = true by first | exact hd.1 rfl | exact hd.2.1 rfl | exact hd.2.2.1 rfl | exact hd.2.2.2.1 rfl | exact hd.2.2.2.2.1 rfl | exact hd.2.2.2.2.2.1 rfl)
            refine Runs.of (b := ?bC21) ?eC21 ?_
            case eC21 => simp only [putV, Act.put, List.setIfInBounds_toArray, List.set_cons_zero, List.set_cons_succ, e14, e20]; rfl
            intro K' hK'
            go_simp
            exact hK'.go _ rfl ⟨hO, hS, hra, hrb, hK, h0, h1, h2, h3, h4, h5, h6, h7, h8, h9, h13, h14, h15, h16, h17, h18, h19, h20, fun _ => rfl, h22, h23, h24, h25, h26, h27, h28, h29, h30, h31, h32, h33, h34, h35, h36⟩
          · intro l x w' hJ hi hd
            obtain ⟨hO, hS, hra, hrb, hK, h0, h1, h2, h3, h4, h5, h6, h7, h8, h9, h13, h14, h15, h16, h17, h18, h19, h20, h21, h22, h23, h24, h25, h26, h27, h28, h29, h30, h31, h32, h33, h34, h35, h36⟩ := hJ
            have e21 := h21 (show l 21 = true by first | exact hd.1 rfl | exact hd.2.1 rfl | exact hd.2.2.1 rfl | exact hd.2.2.2.1 rfl | exact hd.2.2.2.2.1 rfl | exact hd.2.2.2.2.2.1 rfl)
            refine Runs.of (b := ?bC22) ?eC22 ?_
            case eC22 => simp only [putV, Act.put, List.setIfInBounds_toArray, List.set_cons_zero, List.set_cons_succ, e21]; rfl
            intro K' hK'
            go_simp
            exact hK'.go _ rfl ⟨hO, hS, hra, hrb, hK, h0, h1, h2, h3, h4, h5, h6, h7, h8, h9, h13, h14, h15, h16, h17, h18, h19, h20, h21, fun _ => rfl, h23, h24, h25, h26, h27, h28, h29, h30, h31, h32, h33, h34, h35, h36⟩
          · intro l x w' hJ hi hd
            obtain ⟨hO, hS, hra, hrb, hK, h0, h1, h2, h3, h4, h5, h6, h7, h8, h9, h13, h14, h15, h16, h17, h18, h19, h20, h21, h22, h23, h24, h25, h26, h27, h28, h29, h30, h31, h32, h33, h34, h35, h36⟩ := hJ
            have e21 := h21 (show l 21 = true by first | exact hd.1 rfl | exact hd.2.1 rfl | exact hd.2.2.1 rfl | exact hd.2.2.2.1 rfl | exact hd.2.2.2.2.1 rfl | exact hd.2.2.2.2.2.1 rfl)
            have e22 := h22 (show l 22 = true by first | exact hd.1 rfl | exact hd.2.1 rfl | exact hd.2.2.1 rfl | exact hd.2.2.2.1 rfl | exact hd.2.2.2.2.1 rfl | exact hd.2.2.2.2.2.1 rfl)
            refine Runs.of (b := ?bC23) ?eC23 ?_
            case eC23 => simp only [putV, Act.put, List.setIfInBounds_toArray, List.set_cons_zero, List.set_cons_succ, e21, e22]; rfl
            intro K' hK'
            go_simp
            refine (Turn_any hO).mono ?_
            rintro e w2 ⟨rfl, rfl⟩
            go_simp
            exact hK'.go _ rfl ⟨hO, hS, hra, hrb, hK, h0, h1, h2, h3, h4, h5, h6, h7, h8, h9, h13, h14, h15, h16, h17, h18, h19, h20, h21, h22, fun _ => rfl, h24, h25, h26, h27, h28, h29, h30, h31, h32, h33, h34, h35, h36⟩
          · intro l x w' hJ hi hd
            obtain ⟨hO, hS, hra, hrb, hK, h0, h1, h2, h3, h4, h5, h6, h7, h8, h9, h13, h14, h15, h16, h17, h18, h19, h20, h21, h22, h23, h24, h25, h26, h27, h28, h29, h30, h31, h32, h33, h34, h35, h36⟩ := hJ
            have e21 := h21 (show l 21 = true by first | exact hd.1 rfl | exact hd.2.1 rfl | exact hd.2.2.1 rfl | exact hd.2.2.2.1 rfl | exact hd.2.2.2.2.1 rfl | exact hd.2.2.2.2.2.1 rfl)
            have e23 := h23 (show l 23 = true by first | exact hd.1 rfl | exact hd.2.1 rfl | exact hd.2.2.1 rfl | exact hd.2.2.2.1 rfl | exact hd.2.2.2.2.1 rfl | exact hd.2.2.2.2.2.1 rfl)
            refine Runs.of (b := ?bC24) ?eC24 ?_
            case eC24 => simp only [putV, Act.put, List.setIfInBounds_toArray, List.set_cons_zero, List.set_cons_succ, e21, e23]; rfl
            intro K' hK'
            go_simp
            exact hK'.go _ rfl ⟨hO, hS, hra, hrb, hK, h0, h1, h2, h3, h4, h5, h6, h7, h8, h9, h13, h14, h15, h16, h17, h18, h19, h20, h21, h22, h23, fun _ => rfl, h25, h26, h27, h28, h29, h30, h31, h32, h33, h34, h35, h36⟩
          · intro l x w' hJ hi hd
            obtain ⟨hO, hS, hra, hrb, hK, h0, h1, h2, h3, h4, h5, h6, h7, h8, h9, h13, h14, h15, h16, h17, h18, h19, h20, h21, h22, h23, h24, h25, h26, h27, h28, h29, h30, h31, h32, h33, h34, h35, h36⟩ := hJ
            have e14 := h14 (show l 14 = true by first | exact hd.1 rfl | exact hd.2.1 rfl | exact hd.2.2.1 rfl | exact hd.2.2.2.1 rfl | exact hd.2.2.2.2.1 rfl | exact hd.2.2.2.2.2.1 rfl)
            have e21 := h21 (show l 21 = true by first | exact hd.1 rfl | exact hd.2.1 rfl | exact hd.2.2.1 rfl | exact hd.2.2.2.1 rfl | exact hd.2.2.2.2.1 rfl | exact hd.2.2.2.2.2.1 rfl)
            have e24 := h24 (show l 24 = true by first | exact hd.1 rfl | exact hd.2.1 rfl | exact hd.2.2.1 rfl | exact hd.2.2.2.1 rfl | exact hd.2.2.2.2.1 rfl | exact hd.2.2.2.2.2.1 rfl)
            refine Runs.of (b := ?bC25) ?eC25 ?_
            case eC25 => simp only [putV, Act.put, List.setIfInBounds_toArray, List.set_cons_zero, List.set_cons_succ, e14, e21, e24]; rfl
            intro K' hK'
            go_simp
            exact hK'.go _ rfl ⟨hO, hS, hra, hrb, hK, h0, h1, h2, h3, h4, h5, h6, h7, h8, h9, h13, h14, h15, h16, h17, h18, h19, h20, h21, h22, h23, h24, fun _ => rfl, h26, h27, h28, h29, h30, h31, h32, h33, h34, h35, h36⟩
          · intro l x w' hJ hi hd
            obtain ⟨hO, hS, hra, hrb, hK, h0, h1, h2, h3, h4, h5, h6, h7, h8, h9, h13, h14, h15, h16, h17, h18, h19, h20, h21, h22, h23, h24, h25, h26, h27, h28, h29, h30, h31, h32, h33, h34, h35, h36⟩ := hJ
            have e2 := h2 (show l 2 = true by first | exact hd.1 rfl | exact hd.2.1 rfl | exact hd.2.2.1 rfl | exact hd.2.2.2.1 rfl | exact hd.2.2.2.2.1 rfl | exact hd.2.2.2.2.2.1 rfl)
            have e14 := h14 (show l 14 = true by first | exact hd.1 rfl | exact hd.2.1 rfl | exact hd.2.2.1 rfl | exact hd.2.2.2.1 rfl | exact hd.2.2.2.2.1 rfl | exact hd.2.2.2.2.2.1 rfl)
            have e25 := h25 (show l 25 = true by first | exact hd.1 rfl | exact hd.2.1 rfl | exact hd.2.2.1 rfl | exact hd.2.2.2.1 rfl | exact hd.2.2.2.2.1 rfl | exact hd.2.2.2.2.2.1 rfl)
            refine Runs.of (b := ?bC26) ?eC26 ?_
            case eC26 => simp only [putV, Act.put, List.setIfInBounds_toArray, List.set_cons_zero, List.set_cons_succ, e2, e14, e25]; rfl
            intro K' hK'
            go_simp
            exact hK'.go _ rfl ⟨hO, hS, hra, hrb, hK, h0, h1, h2, h3, h4, h5, h6, h7, h8, h9, h13, h14, h15, h16, h17, h18, h19, h20, h21, h22, h23, h24, h25, fun _ => rfl, h27, h28, h29, h30, h31, h32, h33, h34, h35, h36⟩
          · intro l x w' hJ hi hd
            obtain ⟨hO, hS, hra, hrb, hK, h0, h1, h2, h3, h4, h5, h6, h7, h8, h9, h13, h14, h15, h16, h17, h18, h19, h20, h21, h22, h23, h24, h25, h26, h27, h28, h29, h30, h31, h32, h33, h34, h35, h36⟩ := hJ
            have e2 := h2 (show l 2 = true by first | exact hd.1 rfl | exact hd.2.1 rfl | exact hd.2.2.1 rfl | exact hd.2.2.2.1 rfl | exact hd.2.2.2.2.1 rfl | exact hd.2.2.2.2.2.1 rfl)
            have e26 := h26 (show l 26 = true by first | exact hd.1 rfl | exact hd.2.1 rfl | exact hd.2.2.1 rfl | exact hd.2.2.2.1 rfl | exact hd.2.2.2.2.1 rfl | exact hd.2.2.2.2.2.1 rfl)
            refine Runs.of (b := ?bC27) ?eC27 ?_
            case eC27 => simp only [putV, Act.put, List.setIfInBounds_toArray, List.set_cons_zero, List.set_cons_succ, e2, e26]; rfl
            intro K' hK'
            go_simp
            exact hK'.go _ rfl ⟨hO, hS, hra, hrb, hK, h0, h1, h2, h3, h4, h5, h6, h7, h8, h9, h13, h14, h15, h16, h17, h18, h19, h20, h21, h22, h23, h24, h25, h26, fun _ => rfl, h28, h29, h30, h31, h32, h33, h34, h35, h36⟩
          · intro l x w' hJ hi hd
            obtain ⟨hO, hS, hra, hrb, hK, h0, h1, h2, h3, h4, h5, h6, h7, h8, h9, h13, h14, h15, h16, h17, h18, h19, h20, h21, h22, h23, h24, h25, h26, h27, h28, h29, h30, h31, h32, h33, h34, h35, h36⟩ := hJ
            have e27 := h27 (show l 27 = true by first | exact hd.1 rfl | exact hd.2.1 rfl | exact hd.2.2.1 rfl | exact hd.2.2.2.1 rfl | exact hd.2.2.2.2.1 rfl | exact hd.2.2.2.2.2.1 rfl)
            refine Runs.of (b := ?bC28) ?eC28 ?_
            case eC28 => simp only [putV, Act.put, List.setIfInBounds_toArray, List.set_cons_zero, List.set_cons_succ, e27]; rfl
            intro K' hK'
            go_simp
            exact hK'.go _ rfl ⟨hO, hS, hra, hrb, hK, h0, h1, h2, h3, h4, h5, h6, h7, h8, h9, h13, h14, h15, h16, h17, h18, h19, h20, h21, h22, h23, h24, h25, h26, h27, fun _ => rfl, h29, h30, h31, h32, h33, h34, h35, h36⟩
          · intro l x w' hJ hi hd
            obtain ⟨hO, hS, hra, hrb, hK, h0, h1, h2, h3, h4, h5, h6, h7, h8, h9, h13, h14, h15, h16, h17, h18, h19, h20, h21, h22, h23, h24, h25, h26, h27, h28, h29, h30, h31, h32, h33, h34, h35, h36⟩ := hJ
            have e28 := h28 (show l 28 = true by first | exact hd.1 rfl | exact hd.2.1 rfl | exact hd.2.2.1 rfl | exact hd.2.2.2.1 rfl | exact hd.2.2.2.2.1 rfl | exact hd.2.2.2.2.2.1 rfl)
            refine Runs.of (b := ?bC29) ?eC29 ?_
            case eC29 => simp only [putV, Act.put, List.setIfInBounds_toArray, List.set_cons_zero, List.set_cons_succ, e28]; rfl
            intro K' hK'
            go_simp
            exact hK'.go _ rfl ⟨hO, hS, hra, hrb, hK, h0, h1, h2, h3, h4, h5, h6, h7, h8, h9, h13, h14, h15, h16, h17, h18, h19, h20, h21, h22, h23, h24, h25, h26, h27, h28, fun _ => rfl, h30, h31, h32, h33, h34, h35, h36⟩
          · intro l x w' hJ hi hd
            obtain ⟨hO, hS, hra, hrb, hK, h0, h1, h2, h3, h4, h5, h6, h7, h8, h9, h13, h14, h15, h16, h17, h18, h19, h20, h21, h22, h23, h24, h25, h26, h27, h28, h29, h30, h31, h32, h33, h34, h35, h36⟩ := hJ
            have e28 := h28 (show l 28 = true by first | exact hd.1 rfl | exact hd.2.1 rfl | exact hd.2.2.1 rfl | exact hd.2.2.2.1 rfl | exact hd.2.2.2.2.1 rfl | exact hd.2.2.2.2.2.1 rfl)
            have e29 := h29 (show l 29 = true by first | exact hd.1 rfl | exact hd.2.1 rfl | exact hd.2.2.1 rfl | exact hd.2.2.2.1 rfl | exact hd.2.2.2.2.1 rfl | exact hd.2.2.2.2.2.1 rfl)
            refine Runs.of (b := ?bC30) ?eC30 ?_
            case eC30 => simp only [putV, Act.put, List.setIfInBounds_toArray, List.set_cons_zero, List.set_cons_succ, e28, e29]; rfl
            intro K' hK'
            go_simp
            refine (Text_any hS HAL.out).mono ?_
            rintro e w2 ⟨v2, rfl, hb2, k2⟩
            go_simp
            exact hK'.go v2 rfl ⟨hO.keep k2 (by simp) (by simp), hS.keep k2 (by simp) (by simp), hra.keep k2 (by simp), hrb.keep k2 (by simp), hK.trans k2, h0, h1, h2, h3, fun h => (h4 h).keep k2 (by simp), h5, h6, h7, h8, h9, h13, h14, h15, fun h => (h16 h).keep k2 (by simp), h17, h18, h19, h20, h21, h22, h23, h24, h25, h26, h27, h28, h29, fun _ => hb2.mono (by omega), h31, h32, h33, h34, h35, h36⟩
          · intro l x w' hJ hi hd
            obtain ⟨hO, hS, hra, hrb, hK, h0, h1, h2, h3, h4, h5, h6, h7, h8, h9, h13, h14, h15, h16, h17, h18, h19, h20, h21, h22, h23, h24, h25, h26, h27, h28, h29, h30, h31, h32, h33, h34, h35, h36⟩ := hJ
            have e28 := h28 (show l 28 = true by first | exact hd.1 rfl | exact hd.2.1 rfl | exact hd.2.2.1 rfl | exact hd.2.2.2.1 rfl | exact hd.2.2.2.2.1 rfl | exact hd.2.2.2.2.2.1 rfl)
            have e30 := h30 (show l 30 = true by first | exact hd.1 rfl | exact hd.2.1 rfl | exact hd.2.2.1 rfl | exact hd.2.2.2.1 rfl | exact hd.2.2.2.2.1 rfl | exact hd.2.2.2.2.2.1 rfl)
            have hc := Rd.str (P := Try.prog) (dst := 9) e30.rd HAB.out Try.underlying22 Try.underlying5 Try.underlying9
            obtain ⟨ta, tcap, ht⟩ := e30.slice
            rw [ht] at hc
            refine Runs.of (b := ?bC31) ?eC31 ?_
            case eC31 => simp only [putV, Act.put, List.setIfInBounds_toArray, List.set_cons_zero, List.set_cons_succ, e28, ht]; rfl
            intro K' hK'
            go_simp
            exact hK'.go _ rfl ⟨hO, hS, hra, hrb, hK, h0, h1, h2, h3, h4, h5, h6, h7, h8, h9, h13, h14, h15, h16, h17, h18, h19, h20, h21, h22, h23, h24, h25, h26, h27, h28, h29, h30, fun _ => rfl, h32, h33, h34, h35, h36⟩
          · intro l x w' hJ hi hd
            obtain ⟨hO, hS, hra, hrb, hK, h0, h1, h2, h3, h4, h5, h6, h7, h8, h9, h13, h14, h15, h16, h17, h18, h19, h20, h21, h22, h23, h24, h25, h26, h27, h28, h29, h30, h31, h32, h33, h34, h35, h36⟩ := hJ
            have e28 := h28 (show l 28 = true by first | exact hd.1 rfl | exact hd.2.1 rfl | exact hd.2.2.1 rfl | exact hd.2.2.2.1 rfl | exact hd.2.2.2.2.1 rfl | exact hd.2.2.2.2.2.1 rfl)
            refine Runs.of (b := ?bC32) ?eC32 ?_
            case eC32 => simp only [putV, Act.put, List.setIfInBounds_toArray, List.set_cons_zero, List.set_cons_succ, e28]; rfl
            intro K' hK'
            go_simp
            exact hK'.go _ rfl ⟨hO, hS, hra, hrb, hK, h0, h1, h2, h3, h4, h5, h6, h7, h8, h9, h13, h14, h15, h16, h17, h18, h19, h20, h21, h22, h23, h24, h25, h26, h27, h28, h29, h30, h31, fun _ => rfl, h33, h34, h35, h36⟩
          · intro l x w' hJ hi hd
            obtain ⟨hO, hS, hra, hrb, hK, h0, h1, h2, h3, h4, h5, h6, h7, h8, h9, h13, h14, h15, h16, h17, h18, h19, h20, h21, h22, h23, h24, h25, h26, h27, h28, h29, h30, h31, h32, h33, h34, h35, h36⟩ := hJ
            have e28 := h28 (show l 28 = true by first | exact hd.1 rfl | exact hd.2.1 rfl | exact hd.2.2.1 rfl | exact hd.2.2.2.1 rfl | exact hd.2.2.2.2.1 rfl | exact hd.2.2.2.2.2.1 rfl)
            have e32 := h32 (show l 32 = true by first | exact hd.1 rfl | exact hd.2.1 rfl | exact hd.2.2.1 rfl | exact hd.2.2.2.1 rfl | exact hd.2.2.2.2.1 rfl | exact hd.2.2.2.2.2.1 rfl)
            have hc := Rd.str (P := Try.prog) (dst := 9) hra HAB.out Try.underlying22 Try.underlying5 Try.underlying9
            refine Runs.of (b := ?bC33) ?eC33 ?_
            case eC33 => simp only [putV, Act.put, List.setIfInBounds_toArray, List.set_cons_zero, List.set_cons_succ, e28, e32]; rfl
            intro K' hK'
            go_simp
            exact hK'.go _ rfl ⟨hO, hS, hra, hrb, hK, h0, h1, h2, h3, h4, h5, h6, h7, h8, h9, h13, h14, h15, h16, h17, h18, h19, h20, h21, h22, h23, h24, h25, h26, h27, h28, h29, h30, h31, h32, fun _ => rfl, h34, h35, h36⟩
          · intro l x w' hJ hi hd
            obtain ⟨hO, hS, hra, hrb, hK, h0, h1, h2, h3, h4, h5, h6, h7, h8, h9, h13, h14, h15, h16, h17, h18, h19, h20, h21, h22, h23, h24, h25, h26, h27, h28, h29, h30, h31, h32, h33, h34, h35, h36⟩ := hJ
            have e28 := h28 (show l 28 = true by first | exact hd.1 rfl | exact hd.2.1 rfl | exact hd.2.2.1 rfl | exact hd.2.2.2.1 rfl | exact hd.2.2.2.2.1 rfl | exact hd.2.2.2.2.2.1 rfl)
            have e31 := h31 (show l 31 = true by first | exact hd.1 rfl | exact hd.2.1 rfl | exact hd.2.2.1 rfl | exact hd.2.2.2.1 rfl | exact hd.2.2.2.2.1 rfl | exact hd.2.2.2.2.2.1 rfl)
            have e33 := h33 (show l 33 = true by first | exact hd.1 rfl | exact hd.2.1 rfl | exact hd.2.2.1 rfl | exact hd.2.2.2.1 rfl | exact hd.2.2.2.2.1 rfl | exact hd.2.2.2.2.2.1 rfl)
            refine Runs.of (b := ?bC34) ?eC34 ?_
            case eC34 => simp only [putV, Act.put, List.setIfInBounds_toArray, List.set_cons_zero, List.set_cons_succ, e28, e31, e33]; rfl
            intro K' hK'
            go_simp
            exact hK'.go _ rfl ⟨hO, hS, hra, hrb, hK, h0, h1, h2, h3, h4, h5, h6, h7, h8, h9, h13, h14, h15, h16, h17, h18, h19, h20, h21, h22, h23, h24, h25, h26, h27, h28, h29, h30, h31, h32, h33, fun _ => rfl, h35, h36⟩
          · intro l x w' hJ hi hd
            obtain ⟨hO, hS, hra, hrb, hK, h0, h1, h2, h3, h4, h5, h6, h7, h8, h9, h13, h14, h15, h16, h17, h18, h19, h20, h21, h22, h23, h24, h25, h26, h27, h28, h29, h30, h31, h32, h33, h34, h35, h36⟩ := hJ
            have e28 := h28 (show l 28 = true by first | exact hd.1 rfl | exact hd.2.1 rfl | exact hd.2.2.1 rfl | exact hd.2.2.2.1 rfl | exact hd.2.2.2.2.1 rfl | exact hd.2.2.2.2.2.1 rfl)
            have e34 := h34 (show l 34 = true by first | exact hd.1 rfl | exact hd.2.1 rfl | exact hd.2.2.1 rfl | exact hd.2.2.2.1 rfl | exact hd.2.2.2.2.1 rfl | exact hd.2.2.2.2.2.1 rfl)
            refine Runs.of (b := ?bC35) ?eC35 ?_
            case eC35 => simp only [putV, Act.put, List.setIfInBounds_toArray, List.set_cons_zero, List.set_cons_succ, e28, e34]; rfl
            intro K' hK'
            go_simp
            exact hK'.go _ rfl ⟨hO, hS, hra, hrb, hK, h0, h1, h2, h3, h4, h5, h6, h7, h8, h9, h13, h14, h15, h16, h17, h18, h19, h20, h21, h22, h23, h24, h25, h26, h27, h28, h29, h30, h31, h32, h33, h34, fun _ => rfl, h36⟩
          · intro l x w' hJ hi hd
            obtain ⟨hO, hS, hra, hrb, hK, h0, h1, h2, h3, h4, h5, h6, h7, h8, h9, h13, h14, h15, h16, h17, h18, h19, h20, h21, h22, h23, h24, h25, h26, h27, h28, h29, h30, h31, h32, h33, h34, h35, h36⟩ := hJ
            have e35 := h35 (show l 35 = true by first | exact hd.1 rfl | exact hd.2.1 rfl | exact hd.2.2.1 rfl | exact hd.2.2.2.1 rfl | exact hd.2.2.2.2.1 rfl | exact hd.2.2.2.2.2.1 rfl)
            refine Runs.of (b := ?bC36) ?eC36 ?_
            case eC36 => simp only [putV, Act.put, List.setIfInBounds_toArray, List.set_cons_zero, List.set_cons_succ, e35]; rfl
            intro K' hK'
            go_simp
            exact hK'.go _ rfl ⟨hO, hS, hra, hrb, hK, h0, h1, h2, h3, h4, h5, h6, h7, h8, h9, h13, h14, h15, h16, h17, h18, h19, h20, h21, h22, h23, h24, h25, h26, h27, h28, h29, h30, h31, h32, h33, h34, h35, fun _ => rfl⟩
          · intro l x w3 hJ hl
            obtain ⟨hO, hS, hra, hrb, hK, h0, h1, h2, h3, h4, h5, h6, h7, h8, h9, h13, h14, h15, h16, h17, h18, h19, h20, h21, h22, h23, h24, h25, h26, h27, h28, h29, h30, h31, h32, h33, h34, h35, h36⟩ := hJ
            have e36 := h36 (hl 36 (by decide))
            simp only [putV, Act.put, List.setIfInBounds_toArray, List.set_cons_zero, List.set_cons_succ, e36]
            have K := K.trans hK
            clear h0 h1 h2 h3 h4 h5 h6 h7 h8 h9 h13 h14 h15 h16 h17 h18 h19 h20 h21 h22 h23 h24 h25 h26 h27 h28 h29 h30 h31 h32 h33 h34 h35 h36 e36 hl hO hS hra hrb hK
            go_wp2_with fail
            go_ret
            exact ⟨rfl, K.below⟩
      · go_wp2_with fail
        refine (Open_pair hD8 hP (by decide) HAL.out HAB.out (by decide) (by decide)).mono ?_
        rintro e w9 ⟨o, rfl, ho, hO, k9⟩
        have hS := hS8.keep k9 (by simp) (by simp)
        have K := K8.trans k9
        have K0 := K08.trans k9
        have hra := hrA0.keep K0 (by simp)
        have hrb := hrB0.keep K0 (by simp)
        have hca := Rd.str (P := Try.prog) (dst := 9) hra HAB.out Try.underlying22 Try.underlying5 Try.underlying9
        have hcb := Rd.str (P := Try.prog) (dst := 9) hrb HBB.out Try.underlying22 Try.underlying5 Try.underlying9
        have hos : o ≠ s := by have := hS8.lt; omega
        clear hD8 hP hS8 K8 K08 k9 K0 hrA0 hrB0 ho
        go_wp2_with fail
        refine wp_region_inv (tornA w9 va0 vb0 vac vbc TA TB o s d d8) (by kernel_rfl) (by kernel_rfl) (by kernel_rfl) ?_ (Steps.cons 0 ?_ (Steps.cons 1 ?_ (Steps.cons 2 ?_ (Steps.cons 3 ?_ (Steps.cons 4 ?_ (Steps.cons 5 ?_ (Steps.cons 6 ?_ (Steps.cons 7 ?_ (Steps.cons 8 ?_ (Steps.cons 9 ?_ (Steps.cons 10 ?_ (Steps.cons 11 ?_ (Steps.cons 12 ?_ (Steps.cons 13 ?_ (Steps.cons 14 ?_ (Steps.cons 15 ?_ (Steps.cons 16 ?_ (Steps.cons 17 ?_ (Steps.cons 18 ?_ (Steps.cons 19 ?_ (Steps.cons 20 ?_ (Steps.cons 21 ?_ (Steps.cons 22 ?_ (Steps.cons 23 ?_ (Steps.cons 24 ?_ (Steps.cons 25 ?_ (Steps.cons 26 ?_ (Steps.cons 27 ?_ (Steps.cons 28 ?_ (Steps.cons 29 ?_ (Steps.cons 30 ?_ (Steps.cons 31 ?_ (Steps.cons 32 ?_ (Steps.cons 33 ?_ (Steps.cons 34 ?_ (Steps.cons 35 ?_ (Steps.cons 36 ?_ (Steps.nil 37)))))))))))))))))))))))))))))))))))))) 37 rfl ?_
        · intro x
          exact ⟨hO.keep ((Keep.refl [] _).drew) (by simp) (by simp), hS.keep ((Keep.refl [] _).drew) (by simp) (by simp), hra.keep ((Keep.refl [] _).drew) (by simp), hrb.keep ((Keep.refl [] _).drew) (by simp), (Keep.refl _ _).drew, fun h => absurd h (by decide), fun h => absurd h (by decide), fun h => absurd h (by decide), fun h => absurd h (by decide), fun h => absurd h (by decide), fun h => absurd h (by decide), fun h => absurd h (by decide), fun h => absurd h (by decide), fun h => absurd h (by decide), fun h => absurd h (by decide), fun h => absurd h (by decide), fun h => absurd h (by decide), fun h => absurd h (by decide), fun h => absurd h (by decide), fun h => absurd h (by decide), fun h => absurd h (by decide), fun h => absurd h (by decide), fun h => absurd h (by decide), fun h => absurd h (by decide), fun h => absurd h (by decide), fun h => absurd h (by decide), fun h => absurd h (by decide), fun h => absurd h (by decide), fun h => absurd h (by decide), fun h => absurd h (by decide), fun h => absurd h (by decide), fun h => absurd h (by decide)⟩
        · intro l x w' hJ hi hd
          obtain ⟨hO, hS, hra, hrb, hK, h0, h1, h2, h3, h4, h5, h6, h7, h8, h9, h10, h11, h12, h13, h14, h21, h26, h27, h28, h29, h30, h31, h32, h33, h34, h35, h36⟩ := hJ
          refine Runs.of (b := ?bA0) ?eA0 ?_
          case eA0 => simp only [putV, Act.put, List.setIfInBounds_toArray, List.set_cons_zero, List.set_cons_succ]; rfl
          intro K' hK'
          go_simp
          exact hK'.go _ rfl ⟨hO, hS, hra, hrb, hK, fun _ => rfl, h1, h2, h3, h4, h5, h6, h7, h8, h9, h10, h11, h12, h13, h14, h21, h26, h27, h28, h29, h30, h31, h32, h33, h34, h35, h36⟩
        · intro l x w' hJ hi hd
          obtain ⟨hO, hS, hra, hrb, hK, h0, h1, h2, h3, h4, h5, h6, h7, h8, h9, h10, h11, h12, h13, h14, h21, h26, h27, h28, h29, h30, h31, h32, h33, h34, h35, h36⟩ := hJ
          have e0 := h0 (show l 0 = true by first | exact hd.1 rfl | exact hd.2.1 rfl | exact hd.2.2.1 rfl | exact hd.2.2.2.1 rfl | exact hd.2.2.2.2.1 rfl | exact hd.2.2.2.2.2.1 rfl)
          refine Runs.of (b := ?bA1) ?eA1 ?_
          case eA1 => simp only [putV, Act.put, List.setIfInBounds_toArray, List.set_cons_zero, List.set_cons_succ, e0]; rfl
          intro K' hK'
          go_simp
          exact hK'.go _ rfl ⟨hO, hS, hra, hrb, hK, h0, fun _ => rfl, h2, h3, h4, h5, h6, h7, h8, h9, h10, h11, h12, h13, h14, h21, h26, h27, h28, h29, h30, h31, h32, h33, h34, h35, h36⟩
        · intro l x w' hJ hi hd
          obtain ⟨hO, hS, hra, hrb, hK, h0, h1, h2, h3, h4, h5, h6, h7, h8, h9, h10, h11, h12, h13, h14, h21, h26, h27, h28, h29, h30, h31, h32, h33, h34, h35, h36⟩ := hJ
          have e1 := h1 (show l 1 = true by first | exact hd.1 rfl | exact hd.2.1 rfl | exact hd.2.2.1 rfl | exact hd.2.2.2.1 rfl | exact hd.2.2.2.2.1 rfl | exact hd.2.2.2.2.2.1 rfl)
          refine Runs.of (b := ?bA2) ?eA2 ?_
          case eA2 => simp only [putV, Act.put, List.setIfInBounds_toArray, List.set_cons_zero, List.set_cons_succ, e1]; rfl
          intro K' hK'
          go_simp
          exact hK'.go _ rfl ⟨hO, hS, hra, hrb, hK, h0, h1, fun _ => rfl, h3, h4, h5, h6, h7, h8, h9, h10, h11, h12, h13, h14, h21, h26, h27, h28, h29, h30, h31, h32, h33, h34, h35, h36⟩
        · intro l x w' hJ hi hd
          obtain ⟨hO, hS, hra, hrb, hK, h0, h1, h2, h3, h4, h5, h6, h7, h8, h9, h10, h11, h12, h13, h14, h21, h26, h27, h28, h29, h30, h31, h32, h33, h34, h35, h36⟩ := hJ
          have e2 := h2 (show l 2 = true by first | exact hd.1 rfl | exact hd.2.1 rfl | exact hd.2.2.1 rfl | exact hd.2.2.2.1 rfl | exact hd.2.2.2.2.1 rfl | exact hd.2.2.2.2.2.1 rfl)
          refine Runs.of (b := ?bA3) ?eA3 ?_
          case eA3 => simp only [putV, Act.put, List.setIfInBounds_toArray, List.set_cons_zero, List.set_cons_succ, e2]; rfl
          intro K' hK'
          go_simp
          exact hK'.go _ rfl ⟨hO, hS, hra, hrb, hK, h0, h1, h2, fun _ => rfl, h4, h5, h6, h7, h8, h9, h10, h11, h12, h13, h14, h21, h26, h27, h28, h29, h30, h31, h32, h33, h34, h35, h36⟩
        · intro l x w' hJ hi hd
          obtain ⟨hO, hS, hra, hrb, hK, h0, h1, h2, h3, h4, h5, h6, h7, h8, h9, h10, h11, h12, h13, h14, h21, h26, h27, h28, h29, h30, h31, h32, h33, h34, h35, h36⟩ := hJ
          have e2 := h2 (show l 2 = true by first | exact hd.1 rfl | exact hd.2.1 rfl | exact hd.2.2.1 rfl | exact hd.2.2.2.1 rfl | exact hd.2.2.2.2.1 rfl | exact hd.2.2.2.2.2.1 rfl)
          have e3 := h3 (show l 3 = true by first | exact hd.1 rfl | exact hd.2.1 rfl | exact hd.2.2.1 rfl | exact hd.2.2.2.1 rfl | exact hd.2.2.2.2.1 rfl | exact hd.2.2.2.2.2.1 rfl)
          refine Runs.of (b := ?bA4) ?eA4 ?_
          case eA4 => simp only [putV, Act.put, List.setIfInBounds_toArray, List.set_cons_zero, List.set_cons_succ, e2, e3]; rfl
          intro K' hK'
          go_simp
          refine (Text_any hO HAL.out).mono ?_
          rintro e w2 ⟨v2, rfl, hb2, k2⟩
          go_simp
          exact hK'.go v2 rfl ⟨hO.keep k2 (by simp) (by simp), hS.keep k2 (by simp) (by simp), hra.keep k2 (by simp), hrb.keep k2 (by simp), hK.trans k2, h0, h1, h2, h3, fun _ => hb2.mono (by omega), h5, h6, h7, h8, h9, h10, h11, h12, h13, h14, h21, h26, h27, h28, h29, fun h => (h30 h).keep k2 (by simp), h31, h32, h33, h34, h35, h36⟩
        · intro l x w' hJ hi hd
          obtain ⟨hO, hS, hra, hrb, hK, h0, h1, h2, h3, h4, h5, h6, h7, h8, h9, h10, h11, h12, h13, h14, h21, h26, h27, h28, h29, h30, h31, h32, h33, h34, h35, h36⟩ := hJ
          have e2 := h2 (show l 2 = true by first | exact hd.1 rfl | exact hd.2.1 rfl | exact hd.2.2.1 rfl | exact hd.2.2.2.1 rfl | exact hd.2.2.2.2.1 rfl | exact hd.2.2.2.2.2.1 rfl)
          have e4 := h4 (show l 4 = true by first | exact hd.1 rfl | exact hd.2.1 rfl | exact hd.2.2.1 rfl | exact hd.2.2.2.1 rfl | exact hd.2.2.2.2.1 rfl | exact hd.2.2.2.2.2.1 rfl)
          have hc := Rd.str (P := Try.prog) (dst := 9) e4.rd HAB.out Try.underlying22 Try.underlying5 Try.underlying9
          obtain ⟨ta, tcap, ht⟩ := e4.slice
          rw [ht] at hc
          refine Runs.of (b := ?bA5) ?eA5 ?_
          case eA5 => simp only [putV, Act.put, List.setIfInBounds_toArray, List.set_cons_zero, List.set_cons_succ, e2, ht]; rfl
          intro K' hK'
          go_simp
          exact hK'.go _ rfl ⟨hO, hS, hra, hrb, hK, h0, h1, h2, h3, h4, fun _ => rfl, h6, h7, h8, h9, h10, h11, h12, h13, h14, h21, h26, h27, h28, h29, h30, h31, h32, h33, h34, h35, h36⟩
        · intro l x w' hJ hi hd
          obtain ⟨hO, hS, hra, hrb, hK, h0, h1, h2, h3, h4, h5, h6, h7, h8, h9, h10, h11, h12, h13, h14, h21, h26, h27, h28, h29, h30, h31, h32, h33, h34, h35, h36⟩ := hJ
          have e2 := h2 (show l 2 = true by first | exact hd.1 rfl | exact hd.2.1 rfl | exact hd.2.2.1 rfl | exact hd.2.2.2.1 rfl | exact hd.2.2.2.2.1 rfl | exact hd.2.2.2.2.2.1 rfl)
          refine Runs.of (b := ?bA6) ?eA6 ?_
          case eA6 => simp only [putV, Act.put, List.setIfInBounds_toArray, List.set_cons_zero, List.set_cons_succ, e2]; rfl
          intro K' hK'
          go_simp
          exact hK'.go _ rfl ⟨hO, hS, hra, hrb, hK, h0, h1, h2, h3, h4, h5, fun _ => rfl, h7, h8, h9, h10, h11, h12, h13, h14, h21, h26, h27, h28, h29, h30, h31, h32, h33, h34, h35, h36⟩
        · intro l x w' hJ hi hd
          obtain ⟨hO, hS, hra, hrb, hK, h0, h1, h2, h3, h4, h5, h6, h7, h8, h9, h10, h11, h12, h13, h14, h21, h26, h27, h28, h29, h30, h31, h32, h33, h34, h35, h36⟩ := hJ
          have e2 := h2 (show l 2 = true by first | exact hd.1 rfl | exact hd.2.1 rfl | exact hd.2.2.1 rfl | exact hd.2.2.2.1 rfl | exact hd.2.2.2.2.1 rfl | exact hd.2.2.2.2.2.1 rfl)
          have e6 := h6 (show l 6 = true by first | exact hd.1 rfl | exact hd.2.1 rfl | exact hd.2.2.1 rfl | exact hd.2.2.2.1 rfl | exact hd.2.2.2.2.1 rfl | exact hd.2.2.2.2.2.1 rfl)
          have hc := Rd.str (P := Try.prog) (dst := 9) hra HAB.out Try.underlying22 Try.underlying5 Try.underlying9
          refine Runs.of (b := ?bA7) ?eA7 ?_
          case eA7 => simp only [putV, Act.put, List.setIfInBounds_toArray, List.set_cons_zero, List.set_cons_succ, e2, e6]; rfl
          intro K' hK'
          go_simp
          exact hK'.go _ rfl ⟨hO, hS, hra, hrb, hK, h0, h1, h2, h3, h4, h5, h6, fun _ => rfl, h8, h9, h10, h11, h12, h13, h14, h21, h26, h27, h28, h29, h30, h31, h32, h33, h34, h35, h36⟩
        · intro l x w' hJ hi hd
          obtain ⟨hO, hS, hra, hrb, hK, h0, h1, h2, h3, h4, h5, h6, h7, h8, h9, h10, h11, h12, h13, h14, h21, h26, h27, h28, h29, h30, h31, h32, h33, h34, h35, h36⟩ := hJ
          have e2 := h2 (show l 2 = true by first | exact hd.1 rfl | exact hd.2.1 rfl | exact hd.2.2.1 rfl | exact hd.2.2.2.1 rfl | exact hd.2.2.2.2.1 rfl | exact hd.2.2.2.2.2.1 rfl)
          have e5 := h5 (show l 5 = true by first | exact hd.1 rfl | exact hd.2.1 rfl | exact hd.2.2.1 rfl | exact hd.2.2.2.1 rfl | exact hd.2.2.2.2.1 rfl | exact hd.2.2.2.2.2.1 rfl)
          have e7 := h7 (show l 7 = true by first | exact hd.1 rfl | exact hd.2.1 rfl | exact hd.2.2.1 rfl | exact hd.2.2.2.1 rfl | exact hd.2.2.2.2.1 rfl | exact hd.2.2.2.2.2.1 rfl)
          refine Runs.of (b := ?bA8) ?eA8 ?_
          case eA8 => simp only [putV, Act.put, List.setIfInBounds_toArray, List.set_cons_zero, List.set_cons_succ, e2, e5, e7]; rfl
          intro K' hK'
          go_simp
          exact hK'.go _ rfl ⟨hO, hS, hra, hrb, hK, h0, h1, h2, h3, h4, h5, h6, h7, fun _ => rfl, h9, h10, h11, h12, h13, h14, h21, h26, h27, h28, h29, h30, h31, h32, h33, h34, h35, h36⟩
        · intro l x w' hJ hi hd
          obtain ⟨hO, hS, hra, hrb, hK, h0, h1, h2, h3, h4, h5, h6, h7, h8, h9, h10, h11, h12, h13, h14, h21, h26, h27, h28, h29, h30, h31, h32, h33, h34, h35, h36⟩ := hJ
          have e2 := h2 (show l 2 = true by first | exact hd.1 rfl | exact hd.2.1 rfl | exact hd.2.2.1 rfl | exact hd.2.2.2.1 rfl | exact hd.2.2.2.2.1 rfl | exact hd.2.2.2.2.2.1 rfl)
          have e8 := h8 (show l 8 = true by first | exact hd.1 rfl | exact hd.2.1 rfl | exact hd.2.2.1 rfl | exact hd.2.2.2.1 rfl | exact hd.2.2.2.2.1 rfl | exact hd.2.2.2.2.2.1 rfl)
          refine Runs.of (b := ?bA9) ?eA9 ?_
          case eA9 => simp only [putV, Act.put, List.setIfInBounds_toArray, List.set_cons_zero, List.set_cons_succ, e2, e8]; rfl
          intro K' hK'
          go_simp
          exact hK'.go _ rfl ⟨hO, hS, hra, hrb, hK, h0, h1, h2, h3, h4, h5, h6, h7, h8, fun _ => rfl, h10, h11, h12, h13, h14, h21, h26, h27, h28, h29, h30, h31, h32, h33, h34, h35, h36⟩
        · intro l x w' hJ hi hd
          obtain ⟨hO, hS, hra, hrb, hK, h0, h1, h2, h3, h4, h5, h6, h7, h8, h9, h10, h11, h12, h13, h14, h21, h26, h27, h28, h29, h30, h31, h32, h33, h34, h35, h36⟩ := hJ
          have e9 := h9 (show l 9 = true by first | exact hd.1 rfl | exact hd.2.1 rfl | exact hd.2.2.1 rfl | exact hd.2.2.2.1 rfl | exact hd.2.2.2.2.1 rfl | exact hd.2.2.2.2.2.1 rfl)
          refine Runs.of (b := ?bA10) ?eA10 ?_
          case eA10 => simp only [putV, Act.put, List.setIfInBounds_toArray, List.set_cons_zero, List.set_cons_succ, e9]; rfl
          intro K' hK'
          go_simp
          exact hK'.go _ rfl ⟨hO, hS, hra, hrb, hK, h0, h1, h2, h3, h4, h5, h6, h7, h8, h9, fun _ => rfl, h11, h12, h13, h14, h21, h26, h27, h28, h29, h30, h31, h32, h33, h34, h35, h36⟩
        · intro l x w' hJ hi hd
          obtain ⟨hO, hS, hra, hrb, hK, h0, h1, h2, h3, h4, h5, h6, h7, h8, h9, h10, h11, h12, h13, h14, h21, h26, h27, h28, h29, h30, h31, h32, h33, h34, h35, h36⟩ := hJ
          have e9 := h9 (show l 9 = true by first | exact hd.1 rfl | exact hd.2.1 rfl | exact hd.2.2.1 rfl | exact hd.2.2.2.1 rfl | exact hd.2.2.2.2.1 rfl | exact hd.2.2.2.2.2.1 rfl)
          have e10 := h10 (show l 10 = true by first | exact hd.1 rfl | exact hd.2.1 rfl | exact hd.2.2.1 rfl | exact hd.2.2.2.1 rfl | exact hd.2.2.2.2.1 rfl | exact hd.2.2.2.2.2.1 rfl)
          refine Runs.of (b := ?bA11) ?eA11 ?_
          case eA11 => simp only [putV, Act.put, List.setIfInBounds_toArray, List.set_cons_zero, List.set_cons_succ, e9, e10]; rfl
          intro K' hK'
          go_simp
          refine (Turn_any hO).mono ?_
          rintro e w2 ⟨rfl, rfl⟩
          go_simp
          exact hK'.go _ rfl ⟨hO, hS, hra, hrb, hK, h0, h1, h2, h3, h4, h5, h6, h7, h8, h9, h10, fun _ => rfl, h12, h13, h14, h21, h26, h27, h28, h29, h30, h31, h32, h33, h34, h35, h36⟩
        · intro l x w' hJ hi hd
          obtain ⟨hO, hS, hra, hrb, hK, h0, h1, h2, h3, h4, h5, h6, h7, h8, h9, h10, h11, h12, h13, h14, h21, h26, h27, h28, h29, h30, h31, h32, h33, h34, h35, h36⟩ := hJ
          have e9 := h9 (show l 9 = true by first | exact hd.1 rfl | exact hd.2.1 rfl | exact hd.2.2.1 rfl | exact hd.2.2.2.1 rfl | exact hd.2.2.2.2.1 rfl | exact hd.2.2.2.2.2.1 rfl)
          have e11 := h11 (show l 11 = true by first | exact hd.1 rfl | exact hd.2.1 rfl | exact hd.2.2.1 rfl | exact hd.2.2.2.1 rfl | exact hd.2.2.2.2.1 rfl | exact hd.2.2.2.2.2.1 rfl)
          refine Runs.of (b := ?bA12) ?eA12 ?_
          case eA12 => simp only [putV, Act.put, List.setIfInBounds_toArray, List.set_cons_zero, List.set_cons_succ, e9, e11]; rfl
          intro K' hK'
          go_simp
          exact hK'.go _ rfl ⟨hO, hS, hra, hrb, hK, h0, h1, h2, h3, h4, h5, h6, h7, h8, h9, h10, h11, fun _ => rfl, h13, h14, h21, h26, h27, h28, h29, h30, h31, h32, h33, h34, h35, h36⟩
        · intro l x w' hJ hi hd
          obtain ⟨hO, hS, hra, hrb, hK, h0, h1, h2, h3, h4, h5, h6, h7, h8, h9, h10, h11, h12, h13, h14, h21, h26, h27, h28, h29, h30, h31, h32, h33, h34, h35, h36⟩ := hJ
          have e2 := h2 (show l 2 = true by first | exact hd.1 rfl | exact hd.2.1 rfl | exact hd.2.2.1 rfl | exact hd.2.2.2.1 rfl | exact hd.2.2.2.2.1 rfl | exact hd.2.2.2.2.2.1 rfl)
          have e9 := h9 (show l 9 = true by first | exact hd.1 rfl | exact hd.2.1 rfl | exact hd.2.2.1 rfl | exact hd.2.2.2.1 rfl | exact hd.2.2.2.2.1 rfl | exact hd.2.2.2.2.2.1 rfl)
          have e12 := h12 (show l 12 = true by first | exact hd.1 rfl | exact hd.2.1 rfl | exact hd.2.2.1 rfl | exact hd.2.2.2.1 rfl | exact hd.2.2.2.2.1 rfl | exact hd.2.2.2.2.2.1 rfl)
          refine Runs.of (b := ?bA13) ?eA13 ?_
          case eA13 => simp only [putV, Act.put, List.setIfInBounds_toArray, List.set_cons_zero, List.set_cons_succ, e2, e9, e12]; rfl
          intro K' hK'
          go_simp
          exact hK'.go _ rfl ⟨hO, hS, hra, hrb, hK, h0, h1, h2, h3, h4, h5, h6, h7, h8, h9, h10, h11, h12, fun _ => rfl, h14, h21, h26, h27, h28, h29, h30, h31, h32, h33, h34, h35, h36⟩
        · intro l x w' hJ hi hd
          obtain ⟨hO, hS, hra, hrb, hK, h0, h1, h2, h3, h4, h5, h6, h7, h8, h9, h10, h11, h12, h13, h14, h21, h26, h27, h28, h29, h30, h31, h32, h33, h34, h35, h36⟩ := hJ
          have e2 := h2 (show l 2 = true by first | exact hd.1 rfl | exact hd.2.1 rfl | exact hd.2.2.1 rfl | exact hd.2.2.2.1 rfl | exact hd.2.2.2.2.1 rfl | exact hd.2.2.2.2.2.1 rfl)
          have e13 := h13 (show l 13 = true by first | exact hd.1 rfl | exact hd.2.1 rfl | exact hd.2.2.1 rfl | exact hd.2.2.2.1 rfl | exact hd.2.2.2.2.1 rfl | exact hd.2.2.2.2.2.1 rfl)
          refine Runs.of (b := ?bA14) ?eA14 ?_
          case eA14 => simp only [putV, Act.put, List.setIfInBounds_toArray, List.set_cons_zero, List.set_cons_succ, e2, e13]; rfl
          intro K' hK'
          go_simp
          exact hK'.go _ rfl ⟨hO, hS, hra, hrb, hK, h0, h1, h2, h3, h4, h5, h6, h7, h8, h9, h10, h11, h12, h13, fun _ => rfl, h21, h26, h27, h28, h29, h30, h31, h32, h33, h34, h35, h36⟩
        · intro l x w' hJ hi hd
          obtain ⟨hO, hS, hra, hrb, hK, h0, h1, h2, h3, h4, h5, h6, h7, h8, h9, h10, h11, h12, h13, h14, h21, h26, h27, h28, h29, h30, h31, h32, h33, h34, h35, h36⟩ := hJ
          have e14 := h14 (show l 14 = true by first | exact hd.1 rfl | exact hd.2.1 rfl | exact hd.2.2.1 rfl | exact hd.2.2.2.1 rfl | exact hd.2.2.2.2.1 rfl | exact hd.2.2.2.2.2.1 rfl)
          refine Runs.of (b := ?bA15) ?eA15 ?_
          case eA15 => simp only [putV, Act.put, List.setIfInBounds_toArray, List.set_cons_zero, List.set_cons_succ, e14]; rfl
          intro K' hK'
          go_simp
          exact hK'.go undef rfl ⟨hO, hS, hra, hrb, hK, h0, h1, h2, h3, h4, h5, h6, h7, h8, h9, h10, h11, h12, h13, h14, h21, h26, h27, h28, h29, h30, h31, h32, h33, h34, h35, h36⟩
        · intro l x w' hJ hi hd
          obtain ⟨hO, hS, hra, hrb, hK, h0, h1, h2, h3, h4, h5, h6, h7, h8, h9, h10, h11, h12, h13, h14, h21, h26, h27, h28, h29, h30, h31, h32, h33, h34, h35, h36⟩ := hJ
          have e14 := h14 (show l 14 = true by first | exact hd.1 rfl | exact hd.2.1 rfl | exact hd.2.2.1 rfl | exact hd.2.2.2.1 rfl | exact hd.2.2.2.2.1 rfl | exact hd.2.2.2.2.2.1 rfl)
          refine Runs.of (b := ?bA16) ?eA16 ?_
          case eA16 => simp only [putV, Act.put, List.setIfInBounds_toArray, List.set_cons_zero, List.set_cons_succ, e14]; rfl
          intro K' hK'
          go_simp
          exact hK'.go undef rfl ⟨hO, hS, hra, hrb, hK, h0, h1, h2, h3, h4, h5, h6, h7, h8, h9, h10, h11, h12, h13, h14, h21, h26, h27, h28, h29, h30, h31, h32, h33, h34, h35, h36⟩
        · intro l x w' hJ hi hd
          obtain ⟨hO, hS, hra, hrb, hK, h0, h1, h2, h3, h4, h5, h6, h7, h8, h9, h10, h11, h12, h13, h14, h21, h26, h27, h28, h29, h30, h31, h32, h33, h34, h35, h36⟩ := hJ
          have e14 := h14 (show l 14 = true by first | exact hd.1 rfl | exact hd.2.1 rfl | exact hd.2.2.1 rfl | exact hd.2.2.2.1 rfl | exact hd.2.2.2.2.1 rfl | exact hd.2.2.2.2.2.1 rfl)
          refine Runs.of (b := ?bA17) ?eA17 ?_
          case eA17 => simp only [putV, Act.put, List.setIfInBounds_toArray, List.set_cons_zero, List.set_cons_succ, e14]; rfl
          intro K' hK'
          go_simp
          exact hK'.go undef rfl ⟨hO, hS, hra, hrb, hK, h0, h1, h2, h3, h4, h5, h6, h7, h8, h9, h10, h11, h12, h13, h14, h21, h26, h27, h28, h29, h30, h31, h32, h33, h34, h35, h36⟩
        · intro l x w' hJ hi hd
          obtain ⟨hO, hS, hra, hrb, hK, h0, h1, h2, h3, h4, h5, h6, h7, h8, h9, h10, h11, h12, h13, h14, h21, h26, h27, h28, h29, h30, h31, h32, h33, h34, h35, h36⟩ := hJ
          have e14 := h14 (show l 14 = true by first | exact hd.1 rfl | exact hd.2.1 rfl | exact hd.2.2.1 rfl | exact hd.2.2.2.1 rfl | exact hd.2.2.2.2.1 rfl | exact hd.2.2.2.2.2.1 rfl)
          refine Runs.of (b := ?bA18) ?eA18 ?_
          case eA18 => simp only [putV, Act.put, List.setIfInBounds_toArray, List.set_cons_zero, List.set_cons_succ, e14]; rfl
          intro K' hK'
          go_simp
          exact hK'.go undef rfl ⟨hO, hS, hra, hrb, hK, h0, h1, h2, h3, h4, h5, h6, h7, h8, h9, h10, h11, h12, h13, h14, h21, h26, h27, h28, h29, h30, h31, h32, h33, h34, h35, h36⟩
        · intro l x w' hJ hi hd
          obtain ⟨hO, hS, hra, hrb, hK, h0, h1, h2, h3, h4, h5, h6, h7, h8, h9, h10, h11, h12, h13, h14, h21, h26, h27, h28, h29, h30, h31, h32, h33, h34, h35, h36⟩ := hJ
          have e14 := h14 (show l 14 = true by first | exact hd.1 rfl | exact hd.2.1 rfl | exact hd.2.2.1 rfl | exact hd.2.2.2.1 rfl | exact hd.2.2.2.2.1 rfl | exact hd.2.2.2.2.2.1 rfl)
          refine Runs.of (b := ?bA19) ?eA19 ?_
          case eA19 => simp only [putV, Act.put, List.setIfInBounds_toArray, List.set_cons_zero, List.set_cons_succ, e14]; rfl
          intro K' hK'
          go_simp
          exact hK'.go undef rfl ⟨hO, hS, hra, hrb, hK, h0, h1, h2, h3, h4, h5, h6, h7, h8, h9, h10, h11, h12, h13, h14, h21, h26, h27, h28, h29, h30, h31, h32, h33, h34, h35, h36⟩
        · intro l x w' hJ hi hd
          obtain ⟨hO, hS, hra, hrb, hK, h0, h1, h2, h3, h4, h5, h6, h7, h8, h9, h10, h11, h12, h13, h14, h21, h26, h27, h28, h29, h30, h31, h32, h33, h34, h35, h36⟩ := hJ
          have e14 := h14 (show l 14 = true by first | exact hd.1 rfl | exact hd.2.1 rfl | exact hd.2.2.1 rfl | exact hd.2.2.2.1 rfl | exact hd.2.2.2.2.1 rfl | exact hd.2.2.2.2.2.1 rfl)
          refine Runs.of (b := ?bA20) ?eA20 ?_
          case eA20 => simp only [putV, Act.put, List.setIfInBounds_toArray, List.set_cons_zero, List.set_cons_succ, e14]; rfl
          intro K' hK'
          go_simp
          exact hK'.go undef rfl ⟨hO, hS, hra, hrb, hK, h0, h1, h2, h3, h4, h5, h6, h7, h8, h9, h10, h11, h12, h13, h14, h21, h26, h27, h28, h29, h30, h31, h32, h33, h34, h35, h36⟩
        · intro l x w' hJ hi hd
          obtain ⟨hO, hS, hra, hrb, hK, h0, h1, h2, h3, h4, h5, h6, h7, h8, h9, h10, h11, h12, h13, h14, h21, h26, h27, h28, h29, h30, h31, h32, h33, h34, h35, h36⟩ := hJ
          have e14 := h14 (show l 14 = true by first | exact hd.1 rfl | exact hd.2.1 rfl | exact hd.2.2.1 rfl | exact hd.2.2.2.1 rfl | exact hd.2.2.2.2.1 rfl | exact hd.2.2.2.2.2.1 rfl)
          refine Runs.of (b := ?bA21) ?eA21 ?_
          case eA21 => simp only [putV, Act.put, List.setIfInBounds_toArray, List.set_cons_zero, List.set_cons_succ, e14]; rfl
          intro K' hK'
          go_simp
          exact hK'.go undef rfl ⟨hO, hS, hra, hrb, hK, h0, h1, h2, h3, h4, h5, h6, h7, h8, h9, h10, h11, h12, h13, h14, fun _ => rfl, h26, h27, h28, h29, h30, h31, h32, h33, h34, h35, h36⟩
        · intro l x w' hJ hi hd
          obtain ⟨hO, hS, hra, hrb, hK, h0, h1, h2, h3, h4, h5, h6, h7, h8, h9, h10, h11, h12, h13, h14, h21, h26, h27, h28, h29, h30, h31, h32, h33, h34, h35, h36⟩ := hJ
          have e21 := h21 (show l 21 = true by first | exact hd.1 rfl | exact hd.2.1 rfl | exact hd.2.2.1 rfl | exact hd.2.2.2.1 rfl | exact hd.2.2.2.2.1 rfl | exact hd.2.2.2.2.2.1 rfl)
          refine Runs.of (b := ?bA22) ?eA22 ?_
          case eA22 => simp only [putV, Act.put, List.setIfInBounds_toArray, List.set_cons_zero, List.set_cons_succ, e21]; rfl
          intro K' hK'
          go_simp
          exact hK'.go undef rfl ⟨hO, hS, hra, hrb, hK, h0, h1, h2, h3, h4, h5, h6, h7, h8, h9, h10, h11, h12, h13, h14, h21, h26, h27, h28, h29, h30, h31, h32, h33, h34, h35, h36⟩
        · intro l x w' hJ hi hd
          obtain ⟨hO, hS, hra, hrb, hK, h0, h1, h2, h3, h4, h5, h6, h7, h8, h9, h10, h11, h12, h13, h14, h21, h26, h27, h28, h29, h30, h31, h32, h33, h34, h35, h36⟩ := hJ
          have e21 := h21 (show l 21 = true by first | exact hd.1 rfl | exact hd.2.1 rfl | exact hd.2.2.1 rfl | exact hd.2.2.2.1 rfl | exact hd.2.2.2.2.1 rfl | exact hd.2.2.2.2.2.1 rfl)
          refine Runs.of (b := ?bA23) ?eA23 ?_
          case eA23 => simp only [putV, Act.put, List.setIfInBounds_toArray, List.set_cons_zero, List.set_cons_succ, e21]; rfl
          intro K' hK'
          go_simp
          exact hK'.go undef rfl ⟨hO, hS, hra, hrb, hK, h0, h1, h2, h3, h4, h5, h6, h7, h8, h9, h10, h11, h12, h13, h14, h21, h26, h27, h28, h29, h30, h31, h32, h33, h34, h35, h36⟩
        · intro l x w' hJ hi hd
          obtain ⟨hO, hS, hra, hrb, hK, h0, h1, h2, h3, h4, h5, h6, h7, h8, h9, h10, h11, h12, h13, h14, h21, h26, h27, h28, h29, h30, h31, h32, h33, h34, h35, h36⟩ := hJ
          have e21 := h21 (show l 21 = true by first | exact hd.1 rfl | exact hd.2.1 rfl | exact hd.2.2.1 rfl | exact hd.2.2.2.1 rfl | exact hd.2.2.2.2.1 rfl | exact hd.2.2.2.2.2.1 rfl)
          refine Runs.of (b := ?bA24) ?eA24 ?_
          case eA24 => simp only [putV, Act.put, List.setIfInBounds_toArray, List.set_cons_zero, List.set_cons_succ, e21]; rfl
          intro K' hK'
          go_simp
          exact hK'.go undef rfl ⟨hO, hS, hra, hrb, hK, h0, h1, h2, h3, h4, h5, h6, h7, h8, h9, h10, h11, h12, h13, h14, h21, h26, h27, h28, h29, h30, h31, h32, h33, h34, h35, h36⟩
        · intro l x w' hJ hi hd
          obtain ⟨hO, hS, hra, hrb, hK, h0, h1, h2, h3, h4, h5, h6, h7, h8, h9, h10, h11, h12, h13, h14, h21, h26, h27, h28, h29, h30, h31, h32, h33, h34, h35, h36⟩ := hJ
          have e14 := h14 (show l 14 = true by first | exact hd.1 rfl | exact hd.2.1 rfl | exact hd.2.2.1 rfl | exact hd.2.2.2.1 rfl | exact hd.2.2.2.2.1 rfl | exact hd.2.2.2.2.2.1 rfl)
          refine Runs.of (b := ?bA25) ?eA25 ?_
          case eA25 => simp only [putV, Act.put, List.setIfInBounds_toArray, List.set_cons_zero, List.set_cons_succ, e14]; rfl
          intro K' hK'
          go_simp
          exact hK'.go undef rfl ⟨hO, hS, hra, hrb, hK, h0, h1, h2, h3, h4, h5, h6, h7, h8, h9, h10, h11, h12, h13, h14, h21, h26, h27, h28, h29, h30, h31, h32, h33, h34, h35, h36⟩
        · intro l x w' hJ hi hd
          obtain ⟨hO, hS, hra, hrb, hK, h0, h1, h2, h3, h4, h5, h6, h7, h8, h9, h10, h11, h12, h13, h14, h21, h26, h27, h28, h29, h30, h31, h32, h33, h34, h35, h36⟩ := hJ
          have e2 := h2 (show l 2 = true by first | exact hd.1 rfl | exact hd.2.1 rfl | exact hd.2.2.1 rfl | exact hd.2.2.2.1 rfl | exact hd.2.2.2.2.1 rfl | exact hd.2.2.2.2.2.1 rfl)
          have e14 := h14 (show l 14 = true by first | exact hd.1 rfl | exact hd.2.1 rfl | exact hd.2.2.1 rfl | exact hd.2.2.2.1 rfl | exact hd.2.2.2.2.1 rfl | exact hd.2.2.2.2.2.1 rfl)
          refine Runs.of (b := ?bA26) ?eA26 ?_
          case eA26 => simp only [putV, Act.put, List.setIfInBounds_toArray, List.set_cons_zero, List.set_cons_succ, e2, e14]; rfl
          intro K' hK'
          go_simp
          exact hK'.go _ rfl ⟨hO, hS, hra, hrb, hK, h0, h1, h2, h3, h4, h5, h6, h7, h8, h9, h10, h11, h12, h13, h14, h21, fun _ => rfl, h27, h28, h29, h30, h31, h32, h33, h34, h35, h36⟩
        · intro l x w' hJ hi hd
          obtain ⟨hO, hS, hra, hrb, hK, h0, h1, h2, h3, h4, h5, h6, h7, h8, h9, h10, h11, h12, h13, h14, h21, h26, h27, h28, h29, h30, h31, h32, h33, h34, h35, h36⟩ := hJ
          have e2 := h2 (show l 2 = true by first | exact hd.1 rfl | exact hd.2.1 rfl | exact hd.2.2.1 rfl | exact hd.2.2.2.1 rfl | exact hd.2.2.2.2.1 rfl | exact hd.2.2.2.2.2.1 rfl)
          have e26 := h26 (show l 26 = true by first | exact hd.1 rfl | exact hd.2.1 rfl | exact hd.2.2.1 rfl | exact hd.2.2.2.1 rfl | exact hd.2.2.2.2.1 rfl | exact hd.2.2.2.2.2.1 rfl)
          refine Runs.of (b := ?bA27) ?eA27 ?_
          case eA27 => simp only [putV, Act.put, List.setIfInBounds_toArray, List.set_cons_zero, List.set_cons_succ, e2, e26]; rfl
          intro K' hK'
          go_simp
          exact hK'.go _ rfl ⟨hO, hS, hra, hrb, hK, h0, h1, h2, h3, h4, h5, h6, h7, h8, h9, h10, h11, h12, h13, h14, h21, h26, fun _ => rfl, h28, h29, h30, h31, h32, h33, h34, h35, h36⟩
        · intro l x w' hJ hi hd
          obtain ⟨hO, hS, hra, hrb, hK, h0, h1, h2, h3, h4, h5, h6, h7, h8, h9, h10, h11, h12, h13, h14, h21, h26, h27, h28, h29, h30, h31, h32, h33, h34, h35, h36⟩ := hJ
          have e27 := h27 (show l 27 = true by first | exact hd.1 rfl | exact hd.2.1 rfl | exact hd.2.2.1 rfl | exact hd.2.2.2.1 rfl | exact hd.2.2.2.2.1 rfl | exact hd.2.2.2.2.2.1 rfl)
          refine Runs.of (b := ?bA28) ?eA28 ?_
          case eA28 => simp only [putV, Act.put, List.setIfInBounds_toArray, List.set_cons_zero, List.set_cons_succ, e27]; rfl
          intro K' hK'
          go_simp
          exact hK'.go _ rfl ⟨hO, hS, hra, hrb, hK, h0, h1, h2, h3, h4, h5, h6, h7, h8, h9, h10, h11, h12, h13, h14, h21, h26, h27, fun _ => rfl, h29, h30, h31, h32, h33, h34, h35, h36⟩
        · intro l x w' hJ hi hd
          obtain ⟨hO, hS, hra, hrb, hK, h0, h1, h2, h3, h4, h5, h6, h7, h8, h9, h10, h11, h12, h13, h14, h21, h26, h27, h28, h29, h30, h31, h32, h33, h34, h35, h36⟩ := hJ
          have e28 := h28 (show l 28 = true by first | exact hd.1 rfl | exact hd.2.1 rfl | exact hd.2.2.1 rfl | exact hd.2.2.2.1 rfl | exact hd.2.2.2.2.1 rfl | exact hd.2.2.2.2.2.1 rfl)
          refine Runs.of (b := ?bA29) ?eA29 ?_
          case eA29 => simp only [putV, Act.put, List.setIfInBounds_toArray, List.set_cons_zero, List.set_cons_succ, e28]; rfl
          intro K' hK'
          go_simp
          exact hK'.go _ rfl ⟨hO, hS, hra, hrb, hK, h0, h1, h2, h3, h4, h5, h6, h7, h8, h9, h10, h11, h12, h13, h14, h21, h26, h27, h28, fun _ => rfl, h30, h31, h32, h33, h34, h35, h36⟩
        · intro l x w' hJ hi hd
          obtain ⟨hO, hS, hra, hrb, hK, h0, h1, h2, h3, h4, h5, h6, h7, h8, h9, h10, h11, h12, h13, h14, h21, h26, h27, h28, h29, h30, h31, h32, h33, h34, h35, h36⟩ := hJ
          have e28 := h28 (show l 28 = true by first | exact hd.1 rfl | exact hd.2.1 rfl | exact hd.2.2.1 rfl | exact hd.2.2.2.1 rfl | exact hd.2.2.2.2.1 rfl | exact hd.2.2.2.2.2.1 rfl)
          have e29 := h29 (show l 29 = true by first | exact hd.1 rfl | exact hd.2.1 rfl | exact hd.2.2.1 rfl | exact hd.2.2.2.1 rfl | exact hd.2.2.2.2.1 rfl | exact hd.2.2.2.2.2.1 rfl)
          refine Runs.of (b := ?bA30) ?eA30 ?_
          case eA30 => simp only [putV, Act.put, List.setIfInBounds_toArray, List.set_cons_zero, List.set_cons_succ, e28, e29]; rfl
          intro K' hK'
          go_simp
          refine (Text_any hS HAL.out).mono ?_
          rintro e w2 ⟨v2, rfl, hb2, k2⟩
          go_simp
          exact hK'.go v2 rfl ⟨hO.keep k2 (by simp) (by simp), hS.keep k2 (by simp) (by simp), hra.keep k2 (by simp), hrb.keep k2 (by simp), hK.trans k2, h0, h1, h2, h3, fun h => (h4 h).keep k2 (by simp), h5, h6, h7, h8, h9, h10, h11, h12, h13, h14, h21, h26, h27, h28, h29, fun _ => hb2.mono (by omega), h31, h32, h33, h34, h35, h36⟩
        · intro l x w' hJ hi hd
          obtain ⟨hO, hS, hra, hrb, hK, h0, h1, h2, h3, h4, h5, h6, h7, h8, h9, h10, h11, h12, h13, h14, h21, h26, h27, h28, h29, h30, h31, h32, h33, h34, h35, h36⟩ := hJ
          have e28 := h28 (show l 28 = true by first | exact hd.1 rfl | exact hd.2.1 rfl | exact hd.2.2.1 rfl | exact hd.2.2.2.1 rfl | exact hd.2.2.2.2.1 rfl | exact hd.2.2.2.2.2.1 rfl)
          have e30 := h30 (show l 30 = true by first | exact hd.1 rfl | exact hd.2.1 rfl | exact hd.2.2.1 rfl | exact hd.2.2.2.1 rfl | exact hd.2.2.2.2.1 rfl | exact hd.2.2.2.2.2.1 rfl)
          have hc := Rd.str (P := Try.prog) (dst := 9) e30.rd HAB.out Try.underlying22 Try.underlying5 Try.underlying9
          obtain ⟨ta, tcap, ht⟩ := e30.slice
          rw [ht] at hc
          refine Runs.of (b := ?bA31) ?eA31 ?_
          case eA31 => simp only [putV, Act.put, List.setIfInBounds_toArray, List.set_cons_zero, List.set_cons_succ, e28, ht]; rfl
          intro K' hK'
          go_simp
          exact hK'.go _ rfl ⟨hO, hS, hra, hrb, hK, h0, h1, h2, h3, h4, h5, h6, h7, h8, h9, h10, h11, h12, h13, h14, h21, h26, h27, h28, h29, h30, fun _ => rfl, h32, h33, h34, h35, h36⟩
        · intro l x w' hJ hi hd
          obtain ⟨hO, hS, hra, hrb, hK, h0, h1, h2, h3, h4, h5, h6, h7, h8, h9, h10, h11, h12, h13, h14, h21, h26, h27, h28, h29, h30, h31, h32, h33, h34, h35, h36⟩ := hJ
          have e28 := h28 (show l 28 = true by first | exact hd.1 rfl | exact hd.2.1 rfl | exact hd.2.2.1 rfl | exact hd.2.2.2.1 rfl | exact hd.2.2.2.2.1 rfl | exact hd.2.2.2.2.2.1 rfl)
          refine Runs.of (b := ?bA32) ?eA32 ?_
          case eA32 => simp only [putV, Act.put, List.setIfInBounds_toArray, List.set_cons_zero, List.set_cons_succ, e28]; rfl
          intro K' hK'
          go_simp
          exact hK'.go _ rfl ⟨hO, hS, hra, hrb, hK, h0, h1, h2, h3, h4, h5, h6, h7, h8, h9, h10, h11, h12, h13, h14, h21, h26, h27, h28, h29, h30, h31, fun _ => rfl, h33, h34, h35, h36⟩
        · intro l x w' hJ hi hd
          obtain ⟨hO, hS, hra, hrb, hK, h0, h1, h2, h3, h4, h5, h6, h7, h8, h9, h10, h11, h12, h13, h14, h21, h26, h27, h28, h29, h30, h31, h32, h33, h34, h35, h36⟩ := hJ
          have e28 := h28 (show l 28 = true by first | exact hd.1 rfl | exact hd.2.1 rfl | exact hd.2.2.1 rfl | exact hd.2.2.2.1 rfl | exact hd.2.2.2.2.1 rfl | exact hd.2.2.2.2.2.1 rfl)
          have e32 := h32 (show l 32 = true by first | exact hd.1 rfl | exact hd.2.1 rfl | exact hd.2.2.1 rfl | exact hd.2.2.2.1 rfl | exact hd.2.2.2.2.1 rfl | exact hd.2.2.2.2.2.1 rfl)
          have hc := Rd.str (P := Try.prog) (dst := 9) hra HAB.out Try.underlying22 Try.underlying5 Try.underlying9
          refine Runs.of (b := ?bA33) ?eA33 ?_
          case eA33 => simp only [putV, Act.put, List.setIfInBounds_toArray, List.set_cons_zero, List.set_cons_succ, e28, e32]; rfl
          intro K' hK'
          go_simp
          exact hK'.go _ rfl ⟨hO, hS, hra, hrb, hK, h0, h1, h2, h3, h4, h5, h6, h7, h8, h9, h10, h11, h12, h13, h14, h21, h26, h27, h28, h29, h30, h31, h32, fun _ => rfl, h34, h35, h36⟩
        · intro l x w' hJ hi hd
          obtain ⟨hO, hS, hra, hrb, hK, h0, h1, h2, h3, h4, h5, h6, h7, h8, h9, h10, h11, h12, h13, h14, h21, h26, h27, h28, h29, h30, h31, h32, h33, h34, h35, h36⟩ := hJ
          have e28 := h28 (show l 28 = true by first | exact hd.1 rfl | exact hd.2.1 rfl | exact hd.2.2.1 rfl | exact hd.2.2.2.1 rfl | exact hd.2.2.2.2.1 rfl | exact hd.2.2.2.2.2.1 rfl)
          have e31 := h31 (show l 31 = true by first | exact hd.1 rfl | exact hd.2.1 rfl | exact hd.2.2.1 rfl | exact hd.2.2.2.1 rfl | exact hd.2.2.2.2.1 rfl | exact hd.2.2.2.2.2.1 rfl)
          have e33 := h33 (show l 33 = true by first | exact hd.1 rfl | exact hd.2.1 rfl | exact hd.2.2.1 rfl | exact hd.2.2.2.1 rfl | exact hd.2.2.2.2.1 rfl | exact hd.2.2.2.2.2.1 rfl)
          refine Runs.of (b := ?bA34) ?eA34 ?_
          case eA34 => simp only [putV, Act.put, List.setIfInBounds_toArray, List.set_cons_zero, List.set_cons_succ, e28, e31, e33]; rfl
          intro K' hK'
          go_simp
          exact hK'.go _ rfl ⟨hO, hS, hra, hrb, hK, h0, h1, h2, h3, h4, h5, h6, h7, h8, h9, h10, h11, h12, h13, h14, h21, h26, h27, h28, h29, h30, h31, h32, h33, fun _ => rfl, h35, h36⟩
        · intro l x w' hJ hi hd
          obtain ⟨hO, hS, hra, hrb, hK, h0, h1, h2, h3, h4, h5, h6, h7, h8, h9, h10, h11, h12, h13, h14, h21, h26, h27, h28, h29, h30, h31, h32, h33, h34, h35, h36⟩ := hJ
          have e28 := h28 (show l 28 = true by first | exact hd.1 rfl | exact hd.2.1 rfl | exact hd.2.2.1 rfl | exact hd.2.2.2.1 rfl | exact hd.2.2.2.2.1 rfl | exact hd.2.2.2.2.2.1 rfl)
          have e34 := h34 (show l 34 = true by first | exact hd.1 rfl | exact hd.2.1 rfl | exact hd.2.2.1 rfl | exact hd.2.2.2.1 rfl | exact hd.2.2.2.2.1 rfl | exact hd.2.2.2.2.2.1 rfl)
          refine Runs.of (b := ?bA35) ?eA35 ?_
          case eA35 => simp only [putV, Act.put, List.setIfInBounds_toArray, List.set_cons_zero, List.set_cons_succ, e28, e34]; rfl
          intro K' hK'
          go_simp
          exact hK'.go _ rfl ⟨hO, hS, hra, hrb, hK, h0, h1, h2, h3, h4, h5, h6, h7, h8, h9, h10, h11, h12, h13, h14, h21, h26, h27, h28, h29, h30, h31, h32, h33, h34, fun _ => rfl, h36⟩
        · intro l x w' hJ hi hd
          obtain ⟨hO, hS, hra, hrb, hK, h0, h1, h2, h3, h4, h5, h6, h7, h8, h9, h10, h11, h12, h13, h14, h21, h26, h27, h28, h29, h30, h31, h32, h33, h34, h35, h36⟩ := hJ
          have e35 := h35 (show l 35 = true by first | exact hd.1 rfl | exact hd.2.1 rfl | exact hd.2.2.1 rfl | exact hd.2.2.2.1 rfl | exact hd.2.2.2.2.1 rfl | exact hd.2.2.2.2.2.1 rfl)
          refine Runs.of (b := ?bA36) ?eA36 ?_
          case eA36 => simp only [putV, Act.put, List.setIfInBounds_toArray, List.set_cons_zero, List.set_cons_succ, e35]; rfl
          intro K' hK'
          go_simp
          exact hK'.go _ rfl ⟨hO, hS, hra, hrb, hK, h0, h1, h2, h3, h4, h5, h6, h7, h8, h9, h10, h11, h12, h13, h14, h21, h26, h27, h28, h29, h30, h31, h32, h33, h34, h35, fun _ => rfl⟩
        · intro l x w3 hJ hl
          obtain ⟨hO, hS, hra, hrb, hK, h0, h1, h2, h3, h4, h5, h6, h7, h8, h9, h10, h11, h12, h13, h14, h21, h26, h27, h28, h29, h30, h31, h32, h33, h34, h35, h36⟩ := hJ
          have e36 := h36 (hl 36 (by decide))
          simp only [putV, Act.put, List.setIfInBounds_toArray, List.set_cons_zero, List.set_cons_succ, e36]
          have K := K.trans hK
          clear h0 h1 h2 h3 h4 h5 h6 h7 h8 h9 h10 h11 h12 h13 h14 h21 h26 h27 h28 h29 h30 h31 h32 h33 h34 h35 h36 e36 hl hO hS hra hrb hK
          go_wp2_with fail
          go_ret
          exact ⟨rfl, K.below⟩
end Go.Proofs.Ytnnaleoigiaboaa
