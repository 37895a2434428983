/- The law SuperAll: its walk. -/
import Derived.Test.YtnnaleoigiaboaaSuper4
import Derived.Test.YtnnaleoigiaboaaBump
import Derived.Deep.RegionWith
import Derived.Deep.DeepCutAuto
import Derived.Deep.CutBlock
namespace Go.Proofs.Ytnnaleoigiaboaa
open Go.ChangeShapes Go.WideShapes Go.ChangeAt Go.RowKit
set_option linter.unusedVariables false
set_option linter.unusedSimpArgs false

def IsTexts (w : World) (v : Value) : Prop := ∃ ts : List (Value × List Nat), Rv w 1 v ts.length (ts.map Prod.fst) ∧ ts.length ≤ 9223372036854775807 ∧ ∀ p ∈ ts, Rd w p.1 p.2 ∧ p.2.length ≤ 9223372036854775807 ∧ ∀ c ∈ p.2, c < 256
theorem open_texts {H : Type} {enc : TypeId × Value → H} {W : World} {v : Value} {d : DataW H} {p : List MemPlace} {r : Reach} {b : Nat}
    (hv : Value.okWide Try.prog W r b 40 v) (h : DataW.Trod enc Try.prog W 0 (fun _ => true) true 40 v d p) : IsTexts W v := by
  obtain ⟨a0, len, cap, rfl⟩ := okWide_slice Try.underlying40 hv
  obtain ⟨⟨y, l⟩, hy, h1, h2, h3⟩ := opens_val (f := fun p : Value × List (Value × List Nat) => p.1) (opens_slice1 (f := Prod.fst) Try.underlying40 (by kernel_rfl) (opens_bytes Try.underlying22 Try.underlying5 (by kernel_rfl))) (fun y hy => by simpa [Value.cells] using hy) h
  exact ⟨l, hy ▸ h1, h2, h3⟩
theorem open_flags {H : Type} {enc : TypeId × Value → H} {W : World} {v : Value} {d : DataW H} {p : List MemPlace} {r : Reach} {b : Nat}
    (hv : Value.okWide Try.prog W r b 41 v) (h : DataW.Trod enc Try.prog W 0 (fun _ => true) true 41 v d p) : ∃ keep : List Bool, Rv W 1 v keep.length (bools keep) ∧ keep.length ≤ 9223372036854775807 := by
  obtain ⟨a0, len, cap, rfl⟩ := okWide_slice Try.underlying41 hv
  obtain ⟨⟨y, l⟩, hy, h1, h2⟩ := opens_val (f := fun p : Value × List Bool => p.1) (opens_bools Try.underlying41 Try.underlying4 (by kernel_rfl)) (fun y hy => by simpa [Value.cells] using hy) h
  exact ⟨l, hy ▸ h1, h2⟩

/-- A pair of slots, and the Super over it. -/
structure SupOn (w : World) (d sb s : Nat) (L : List Sec) (c turn slot : Nat) (text : List Nat) : Prop where
  dev : IsDev w d sb L c
  sup : IsSup w s d 0 turn text slot
  pair : Pair L 0 slot turn text
  slot1 : slot ≤ 1
  len : L.length = 3
  tlen : text.length ≤ 40
  byte : ∀ x ∈ text, x < 256
theorem SupOn.keep {w w' : World} {d sb s : Nat} {L : List Sec} {c turn slot : Nat} {text : List Nat} (h : SupOn w d sb s L c turn slot text) (k : Keep [] w w') : SupOn w' d sb s L c turn slot text :=
  ⟨h.dev.keep k (by simp) (by simp), h.sup.keep k (by simp) (by simp), h.pair, h.slot1, h.len, h.tlen, h.byte⟩
theorem Save_both {w : World} {d sb s : Nat} {L : List Sec} {c turn slot : Nat} {text : List Nat} (h : SupOn w d sb s L c turn slot text) (a : Option Addr) (cap : Nat) (TB : List Nat) (hr : Rd w (.slice a TB.length cap) TB) (hb : ∀ x ∈ TB, x < 256)
    (ht : turn + 1 < 9223372036854775808) (hc : c + 2 ≤ 1099511627776) (hlo : ∀ b, (Value.slice a TB.length cap).ownBlock = some b → 0 < TB.length → b < w.heap.size ∧ b ≠ d ∧ b ≠ sb ∧ b ≠ s) :
    Calls Try.prog 17 #[.pointer (some ⟨s, 0, none⟩), .slice a TB.length cap] w fun e w' =>
      ∃ (er : Int) (L' : List Sec) (c' turn' slot' : Nat) (text' : List Nat), e = .returned (.int .i64 er) ∧ SupOn w' d sb s L' c' turn' slot' text' ∧ Keep [d, sb, s] w w' ∧ c' ≤ c + 2 ∧
        ((40 < TB.length ∧ er = 1 ∧ turn' = turn ∧ text' = text) ∨ (¬ 40 < TB.length ∧ er = 0 ∧ turn' = turn + 1 ∧ text' = TB)) := by
  by_cases hl : 40 < TB.length
  · refine (Save_long s a TB.length cap hl).mono ?_
    rintro e w' ⟨rfl, rfl⟩
    exact ⟨1, L, c, turn, slot, text, rfl, h, Keep.refl _ _, by omega, .inl ⟨hl, rfl, rfl, rfl⟩⟩
  · refine (Save_in h.dev h.sup _ TB hr hb (by omega) h.slot1 (by rw [h.len]; omega) ht hc hlo).mono ?_
    rintro e w' ⟨rfl, hD, hS, k⟩
    exact ⟨0, _, c + 2, turn + 1, 1 - slot, TB, rfl, ⟨hD, hS, h.pair.save h.slot1 (by omega) TB, by omega, by simp [h.len], by omega, hb⟩, k, by omega, .inr ⟨hl, rfl, rfl, rfl⟩⟩
set_option maxRecDepth 100000 in
set_option maxHeartbeats 8000000 in
theorem superAll_walk (tv ov : Value) (w : World) (w0 : IsTexts w tv) (w1 : ∃ keep : List Bool, Rv w 1 ov keep.length (bools keep) ∧ keep.length ≤ 9223372036854775807) :
    Calls Try.prog 6 #[tv, ov] w fun e w' => e = .returned (.bool true) ∧ Below w.heap.size w w' := by
  obtain ⟨ts, hts, htl, htb⟩ := w0
  obtain ⟨fl, hfl, hfm⟩ := w1
  obtain ⟨_, ta, tcap, rfl, _, _⟩ := id hts
  obtain ⟨_, fa, fcap, rfl, _, _⟩ := id hfl
  go_enter Try.func6, Try.ntmps6
  go_wp2_with fail
  refine (begun5 w).mono ?_
  rintro e w0 ⟨rfl, k0⟩
  go_wp2_with fail
  refine (New_any 3 3 rfl).mono ?_
  rintro e w1 ⟨d, sb, rfl, hD1, k1, hb1, hsb1⟩
  have hz0 := k0.size
  have hz1 := k1.size
  go_wp2_with fail
  refine (Make_in hD1 0 (by decide) (.slice none 0 0) [] (Buf.nil w1 0 5).rd (by simp) (by decide) (by decide) (by intro b hb; cases hb)).mono ?_
  rintro e w2 ⟨s, rfl, hD2, hS2, k2, hs2⟩
  have hP2 := Pair.make (List.replicate 3 zeroSec) 0 [] (by decide)
  have hO2 : SupOn w2 d sb s _ 5 1 0 [] := ⟨hD2, hS2, hP2, by omega, by simp, by simp, by simp⟩
  have K2 : Keep [] w w2 := (k0.trans k1).then k2 (by intro x hx hlt; simp at hx; rcases hx with rfl | rfl <;> omega)
  have hlw : w.heap.size ≤ d ∧ w.heap.size ≤ sb ∧ w.heap.size ≤ s := by omega
  clear hD1 k0 k1 hb1 hsb1 hs2 hz0 hz1 k2 hD2 hS2 hP2
  generalize (((List.replicate 3 zeroSec).map flushSec).set (0 + 1) zeroSec).set 0 ⟨sImg 1 [], sImg 1 [], false⟩ = L2 at *
  go_wp2_with fail
  go_loopw [6, 7, 9, 10, 11] (fun s6 s7 s9 s10 i wr => ∃ (j d sb s c turn slot : Nat) (L : List Sec) (text : List Nat), j ≤ ts.length ∧ j ≤ 20 ∧ i = .int .i64 j ∧ s6 = .pointer (some ⟨d, 0, none⟩) ∧ s7 = .pointer (some ⟨s, 0, none⟩) ∧
    s9 = .string (toStr text) ∧ s10 = .int .i64 turn ∧ 1 ≤ turn ∧ turn ≤ j + 1 ∧ c ≤ 5 + 2 * j ∧ SupOn wr d sb s L c turn slot text ∧ Keep [] w wr ∧ w.heap.size ≤ d ∧ w.heap.size ≤ sb ∧ w.heap.size ≤ s) (fun _ _ _ _ i _ => ts.length - (intOf i).toNat)
  case atStart => exact ⟨0, d, sb, s, 5, 1, 0, L2, [], by omega, by omega, rfl, rfl, rfl, rfl, rfl, by omega, by omega, by omega, hO2, K2, hlw⟩
  case round =>
    clear hO2 K2 hlw
    obtain ⟨j, d, sb, s, c, turn, slot, L, text, hj, hj20, rfl, rfl, rfl, rfl, rfl, ht1, htj, hc, hO, hK, hld, hlsb, hls⟩ := hrel
    by_cases hin : j < ts.length ∧ j < 20
    · obtain ⟨hlt, hlt20⟩ := hin
      have q0 : decide ((j : Int) < ts.length) = true := decide_eq_true (by omega)
      have q1 : decide ((j : Int) < 20) = true := decide_eq_true (by omega)
      have q2 : (j : Int) < ts.length := by omega
      have q3 : (j : Int) < 20 := by omega
      obtain ⟨y, hy⟩ : ∃ y, ts[j]? = some y := ⟨_, List.getElem?_eq_getElem hlt⟩
      obtain ⟨hyr, hyl, hyb⟩ := htb y (List.mem_of_getElem? hy)
      obtain ⟨tg, to_, tc, he, _, htg, hat⟩ := (hts.keep hK (by simp)).at1 (by omega)
      simp only [Value.slice.injEq] at he
      obtain ⟨rfl, hq1, hq2⟩ := he
      clear hq1 hq2
      have hcell := hat j hlt
      rw [List.getElem?_map, hy] at hcell
      simp only [Option.map_some] at hcell
      obtain ⟨yv, Y⟩ := y
      simp only at hyr hyl hyb hcell
      have hylo := hyr.lo
      obtain ⟨_, ya, ycap, rfl, _, _⟩ := id hyr
      clear hat hy
      go_wp2_with fail
      refine (Short_any _ Y 50 (hyr.keep hK (by simp)) (by omega) (by omega)).mono ?_
      rintro e w3 ⟨vb, rfl, rfl, hrb, hob⟩
      have hBB : ∀ c ∈ Y.take 50, c < 256 := fun c hc => hyb c (List.mem_of_mem_take hc)
      have hBL : (Y.take 50).length ≤ 50 := by simp; omega
      have hloB : ∀ b, vb.ownBlock = some b → 0 < (Y.take 50).length → b < w.heap.size := fun b hb hp => hylo b (by rw [← hob]; exact hb) (by simp at hp; omega)
      have HBB := Lib.hid hBB
      have HBL := Lib.hid hBL
      clear hBB hBL hyr hyb hyl hylo hob hcell
      generalize Y.take 50 = TB at *
      obtain ⟨_, ba, bcap, rfl, _, _⟩ := id hrb
      have hzw := hK.size
      go_wp2_with fail
      refine (Save_both hO ba bcap TB hrb HBB.out (by omega) (by omega) (fun b hb hp => by have := hloB b hb hp; omega)).mono ?_
      rintro e w4 ⟨er, L4, c4, turn4, slot4, text4, rfl, hO4, k4, hc4, hcase⟩
      have K4 : Keep [] w w4 := hK.then k4 (by intro x hx hlt; simp at hx; omega)
      have hrb4 : Rd w4 (.slice ba TB.length bcap) TB := Rd.keep0 hrb k4 (by intro b hb hp; have := hloB b hb hp; simp; omega)
      have hcv := Rd.str (P := Try.prog) (dst := 9) hrb4 HBB.out Try.underlying22 Try.underlying5 Try.underlying9
      have htn : turn4 ≤ j + 1 + 1 ∧ 1 ≤ turn4 := by omega
      clear hO hK k4 hrb hloB
      go_upto_if 45 with fail
      go_cut [9, 10] (fun s9 s10 wc => w4 = wc ∧ s9 = .string (toStr text4) ∧ s10 = .int .i64 turn4)
      case first =>
        rcases hcase with ⟨h40, rfl, rfl, rfl⟩ | ⟨h40, rfl, rfl, rfl⟩
        · have q5 : (40 : Int) < TB.length := by omega
          go_wp2_with fail
          go_meet
          exact ⟨rfl, rfl, rfl⟩
        · have q5 : ¬ (40 : Int) < text4.length := by omega
          have hwr : IntKind.i64.wrap ((turn : Int) + 1) = ((turn + 1 : Nat) : Int) := by rw [IntKind.wrap_i64]; omega
          go_wp2_with fail
          go_meet
          exact ⟨rfl, rfl, by first | rfl | rw [hwr] | (congr 1; omega)⟩
      case rest =>
      obtain ⟨rfl, rfl, rfl⟩ := hcut
      clear hcase hcv hrb4
      have hzw4 := K4.size
      go_upto_region 21 with fail
      go_cut [63] (fun s63 wc => w4 = wc ∧ ∃ b : Bool, s63 = .bool b)
      case first =>
        by_cases hjf : j < fl.length
        · have q5 : decide ((j : Int) < fl.length) = true := decide_eq_true (by omega)
          have q6 : (j : Int) < fl.length := by omega
          obtain ⟨fg, fo, fc, he, _, hfg, hat⟩ := (hfl.keep K4 (by simp)).at1 (by omega)
          simp only [Value.slice.injEq] at he
          obtain ⟨rfl, hq1, hq2⟩ := he
          clear hq1 hq2
          have hcell := hat j hjf
          rw [bools_at _ _ hjf] at hcell
          clear hat
          generalize fl.getD j false = b at *
          go_wp2_with fail
          go_meet
          exact ⟨rfl, b, rfl⟩
        · have q5 : decide ((j : Int) < fl.length) = false := decide_eq_false (by omega)
          go_wp2_with fail
          go_meet
          exact ⟨rfl, false, rfl⟩
      case rest =>
      obtain ⟨rfl, b, rfl⟩ := hcut
      go_upto_if 63 with fail
      go_cut [6, 7, 13] (fun s6 s7 _ wc => ∃ (d' sb' s' : Nat) (L' : List Sec) (c' slot' : Nat), s6 = .pointer (some ⟨d', 0, none⟩) ∧ s7 = .pointer (some ⟨s', 0, none⟩) ∧ c' ≤ c + 2 ∧ SupOn wc d' sb' s' L' c' turn4 slot' text4 ∧ Keep [] w wc ∧ w.heap.size ≤ d' ∧ w.heap.size ≤ sb' ∧ w.heap.size ≤ s')
      case first =>
        cases b
        · go_wp2_with fail
          go_meet
          exact ⟨d, sb, s, L4, c4, slot4, rfl, rfl, hc4, hO4, K4, hld, hlsb, hls⟩
        · have hkv : Rv w4 1 (.slice none 0 0) ([] : List Bool).length (bools []) := Rv.nil w4 1
          go_wp2_with fail
          refine (Crash_any hO4.dev (.slice none 0 0) [] hkv (by simp)).mono ?_
          rintro e w5 ⟨d5, sb5, rfl, hD5, k5, hd5, hsb5⟩
          go_wp2_with fail
          refine (Open_pair hD5 (hO4.pair.crash []) hO4.slot1 hO4.tlen hO4.byte (by omega) (by omega)).mono ?_
          rintro e w6 ⟨o, rfl, ho, hS6, k6⟩
          have hz5 := k5.size
          have hO6 : SupOn w6 d5 sb5 o _ 0 turn4 slot4 text4 := ⟨hD5.keep k6 (by simp) (by simp), hS6, hO4.pair.crash [], hO4.slot1, by simp [crashN, hO4.len], hO4.tlen, hO4.byte⟩
          go_wp2_with fail
          go_meet
          exact ⟨d5, sb5, o, _, 0, slot4, rfl, rfl, by omega, hO6, (K4.trans k5).trans k6, by omega, by omega, by omega⟩
      case rest =>
      obtain ⟨d7, sb7, s7, L7, c7, slot7, rfl, rfl, hc7, hO7, K7, hl7, hl7', hl7''⟩ := hcut
      have HB4 := Lib.hid hO7.byte
      have HT4 := Lib.hid hO7.tlen
      clear hO4 K4 hc4
      go_wp2_with fail
      refine (Text_any hO7.sup HT4.out).mono ?_
      rintro e w8 ⟨v8, rfl, hb8, k8⟩
      have hcv := Rd.str (P := Try.prog) (dst := 9) hb8.rd HB4.out Try.underlying22 Try.underlying5 Try.underlying9
      obtain ⟨xa, xc, rfl⟩ := hb8.slice
      have hO8 := hO7.keep k8
      have K8 := K7.trans k8
      clear hO7 K7 k8 hb8
      go_wp2_with fail
      refine (Turn_any hO8.sup).mono ?_
      rintro e w9 ⟨rfl, rfl⟩
      go_wp2_with fail
      go_roundw
      case rel => exact ⟨j + 1, d7, sb7, s7, c7, turn4, slot7, L7, text4, by omega, by omega, by go_num, rfl, rfl, rfl, rfl, by omega, by omega, by omega, hO8, K8, hl7, hl7', hl7''⟩
      case measure => simp [intOf]; omega
    · have hjj : ¬ (j < ts.length) ∨ (j < ts.length ∧ ¬ j < 20) := by omega
      rcases hjj with h1 | ⟨h1, h2⟩
      · have q0 : decide ((j : Int) < ts.length) = false := decide_eq_false (by omega)
        have q2 : ¬ (j : Int) < ts.length := by omega
        go_wp2_with fail
        go_ret
        exact ⟨rfl, hK.below⟩
      · have q0 : decide ((j : Int) < ts.length) = true := decide_eq_true (by omega)
        have q1 : decide ((j : Int) < 20) = false := decide_eq_false (by omega)
        have q2 : (j : Int) < ts.length := by omega
        go_wp2_with fail
        go_ret
        exact ⟨rfl, hK.below⟩
end Go.Proofs.Ytnnaleoigiaboaa
