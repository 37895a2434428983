/- super: there, Make, Save, Text, Turn: their contracts. -/
import Derived.Test.YtnnaleoigiaboaaSuperW
namespace Go.Proofs.Ytnnaleoigiaboaa
open Go.ChangeShapes Go.WideShapes Go.ChangeAt Go.RowKit
set_option linter.unusedVariables false
set_option linter.unusedSimpArgs false

theorem Buf.ty {w : World} {base : Nat} {E : TypeId} {v : Value} {l : List Nat} (h : Buf w base E v l) : ∀ k, v.ownBlock = some k → Ty w k E := by
  have h2 : Own w base E v (bcs l) := by unfold Own; rw [bcs_length]; exact h
  exact h2.ty
/-- A Super of device d at a place, with its turn, text, slot. -/
def IsSup (w : World) (s d at_ turn : Nat) (text : List Nat) (slot : Nat) : Prop :=
  ∃ tv, Blk w s [.pointer (some ⟨d, 0, none⟩), .int .i64 at_, .int .i64 turn, tv, .int .i64 slot] 65 ∧ Buf w 0 5 tv text
theorem IsSup.keep {w w' : World} {s d at_ turn : Nat} {text : List Nat} {slot : Nat} {S : List Nat} (h : IsSup w s d at_ turn text slot) (k : Keep S w w') (h1 : s ∉ S) (hS : ∀ x ∈ S, ¬ Ty w x 5) : IsSup w' s d at_ turn text slot := by
  obtain ⟨tv, hB, hb⟩ := h
  exact ⟨tv, hB.keep k h1, hb.keep k (fun b hb' hm => hS b hm (hb.ty b hb'))⟩
theorem IsSup.lt {w : World} {s d at_ turn : Nat} {text : List Nat} {slot : Nat} (h : IsSup w s d at_ turn text slot) : s < w.heap.size := by
  obtain ⟨tv, hB, _⟩ := h; exact hB.lt
theorem IsSup.ty {w : World} {s d at_ turn : Nat} {text : List Nat} {slot : Nat} (h : IsSup w s d at_ turn text slot) : Ty w s 65 := by
  obtain ⟨tv, hB, _⟩ := h; exact hB.ty
theorem IsDev.noU8 {w : World} {b sb : Nat} {l : List Sec} {c : Nat} (h : IsDev w b sb l c) : ¬ Ty w b 5 ∧ ¬ Ty w sb 5 :=
  ⟨fun e => h.dev.ty.ne e (by decide) rfl, fun e => h.secs.ty.ne e (by decide) rfl⟩
theorem IsSup.noU8 {w : World} {s d at_ turn : Nat} {text : List Nat} {slot : Nat} (h : IsSup w s d at_ turn text slot) : ¬ Ty w s 5 := fun e => h.ty.ne e (by decide) rfl
theorem IsDev.neSup {w : World} {b sb : Nat} {l : List Sec} {c : Nat} (h : IsDev w b sb l c) {s d at_ turn : Nat} {text : List Nat} {slot : Nat} (hs : IsSup w s d at_ turn text slot) : s ≠ b ∧ s ≠ sb :=
  ⟨hs.ty.ne h.dev.ty (by decide), hs.ty.ne h.secs.ty (by decide)⟩

theorem there_in {w : World} {d sb : Nat} {L : List Sec} {c : Nat} (hd : IsDev w d sb L c) (at_ : Nat) (hat : at_ + 1 < L.length) :
    Calls Try.prog 33 #[.pointer (some ⟨d, 0, none⟩), .int .i64 at_] w fun e w' => e = .returned (.bool true) ∧ w = w' := by
  have hmx := hd.max
  have q0 : (0 : Int) ≤ at_ := by omega
  have q1 : (at_ : Int) < (L.length : Int) - 1 := by omega
  go_enter Try.func33, Try.ntmps33
  go_wp2_with fail
  refine (Len_any hd).mono ?_
  rintro e w1 ⟨rfl, rfl⟩
  go_wp2_with fail
  go_ret
  exact ⟨rfl, rfl⟩
theorem there_out {w : World} {d sb : Nat} {L : List Sec} {c : Nat} (hd : IsDev w d sb L c) (at_ : Int) (hat : at_ < 0 ∨ (L.length : Int) ≤ at_ + 1) :
    Calls Try.prog 33 #[.pointer (some ⟨d, 0, none⟩), .int .i64 at_] w fun e w' => e = .returned (.bool false) ∧ w = w' := by
  have hmx := hd.max
  have hp := hd.pos
  by_cases h : at_ < 0
  · have q0 : decide ((0 : Int) ≤ at_) = false := decide_eq_false (by omega)
    go_enter Try.func33, Try.ntmps33
    go_wp2_with fail
    go_ret
    exact ⟨rfl, rfl⟩
  · have q0 : decide ((0 : Int) ≤ at_) = true := decide_eq_true (by omega)
    have q1 : decide (at_ < (L.length : Int) - 1) = false := decide_eq_false (by omega)
    go_enter Try.func33, Try.ntmps33
    go_wp2_with fail
    refine (Len_any hd).mono ?_
    rintro e w1 ⟨rfl, rfl⟩
    go_wp2_with fail
    go_ret
    exact ⟨rfl, rfl⟩
theorem Turn_any {w : World} {s d at_ turn : Nat} {text : List Nat} {slot : Nat} (h : IsSup w s d at_ turn text slot) :
    Calls Try.prog 22 #[.pointer (some ⟨s, 0, none⟩)] w fun e w' => e = .returned (.int .i64 turn) ∧ w = w' := by
  obtain ⟨tv, hB, _⟩ := h
  have g2 := hB.cell 2
  simp only [List.getElem?_cons_succ, List.getElem?_cons_zero] at g2
  go_enter Try.func22, Try.ntmps22
  go_wp2_with fail
  go_ret
  exact ⟨rfl, rfl⟩
theorem Text_any {w : World} {s d at_ turn : Nat} {text : List Nat} {slot : Nat} (h : IsSup w s d at_ turn text slot) (hl : text.length ≤ 40) :
    Calls Try.prog 21 #[.pointer (some ⟨s, 0, none⟩)] w fun e w' => ∃ v', e = .returned v' ∧ Buf w' w.heap.size 5 v' text ∧ Keep [] w w' := by
  obtain ⟨tv, hB, hb⟩ := h
  have g3 := hB.cell 3
  simp only [List.getElem?_cons_succ, List.getElem?_cons_zero] at g3
  obtain ⟨ta, tcap, rfl⟩ := hb.slice
  go_enter Try.func21, Try.ntmps21
  go_wp2_with fail
  refine (Clone_any _ text hb.rd (by omega)).mono ?_
  rintro e w1 ⟨v', rfl, h1, h2⟩
  obtain ⟨va, vcap, rfl⟩ := h1.slice
  go_wp2_with fail
  go_ret
  exact ⟨_, rfl, h1, h2⟩
theorem Turn_nil {w : World} : Calls Try.prog 22 #[.pointer none] w fun e w' => e = .returned (.int .i64 0) ∧ w = w' := by
  go_enter Try.func22, Try.ntmps22
  go_wp2_with fail
  go_ret
  exact ⟨rfl, rfl⟩
theorem Text_nil {w : World} : Calls Try.prog 21 #[.pointer none] w fun e w' => e = .returned (.slice none 0 0) ∧ w = w' := by
  go_enter Try.func21, Try.ntmps21
  go_wp2_with fail
  go_ret
  exact ⟨rfl, rfl⟩
theorem Save_nil {w : World} (v : Value) : Calls Try.prog 17 #[.pointer none, v] w fun e w' => e = .returned (.int .i64 8) ∧ w = w' := by
  go_enter Try.func17, Try.ntmps17
  go_wp2_with fail
  go_ret
  exact ⟨rfl, rfl⟩
theorem Save_long {w : World} (s : Nat) (a : Option Addr) (n cap : Nat) (hn : 40 < n) : Calls Try.prog 17 #[.pointer (some ⟨s, 0, none⟩), .slice a n cap] w fun e w' => e = .returned (.int .i64 1) ∧ w = w' := by
  have q0 : (40 : Int) < n := by omega
  go_enter Try.func17, Try.ntmps17
  go_wp2_with fail
  go_ret
  exact ⟨rfl, rfl⟩
set_option maxRecDepth 100000 in
set_option maxHeartbeats 400000 in
theorem Save_in {w : World} {s d sb : Nat} {L : List Sec} {c : Nat} {at_ turn : Nat} {text0 : List Nat} {slot : Nat} (hd : IsDev w d sb L c) (hs : IsSup w s d at_ turn text0 slot) (bv : Value) (text : List Nat)
    (hr : Rd w bv text) (hb : ∀ c ∈ text, c < 256) (hl : text.length ≤ 40) (hslot : slot ≤ 1) (hat : at_ + 1 < L.length) (hn : turn + 1 < 9223372036854775808) (hc : c + 2 ≤ 1099511627776)
    (hlo : ∀ b, bv.ownBlock = some b → 0 < text.length → b < w.heap.size ∧ b ≠ d ∧ b ≠ sb ∧ b ≠ s) :
    Calls Try.prog 17 #[.pointer (some ⟨s, 0, none⟩), bv] w fun e w' => e = .returned (.int .i64 0) ∧ IsDev w' d sb ((L.map flushSec).set (at_ + (1 - slot)) ⟨sImg (turn + 1) text, sImg (turn + 1) text, false⟩) (c + 2) ∧
      IsSup w' s d at_ (turn + 1) text (1 - slot) ∧ Keep [d, sb, s] w w' := by
  obtain ⟨tv, hB, _⟩ := hs
  have h2 := hr
  obtain ⟨_, ba, bcap, rfl, _, _⟩ := hr
  have q0 : (text.length : Int) ≤ 40 := by omega
  have g2 := hB.cell 2
  have g4 := hB.cell 4
  simp only [List.getElem?_cons_succ, List.getElem?_cons_zero] at g2 g4
  have hw := fun W (k : Keep [] w W) => write_any at_ (1 - slot) turn tv slot (turn + 1) (.slice ba text.length bcap) text (hd.keep k (by simp) (by simp)) (hB.keep k (by simp)) (h2.keep k (by simp)) hb hl (by omega) (by omega) hc (fun b hb' hp => ⟨by have := (hlo b hb' hp).1; have := k.size; omega, (hlo b hb' hp).2⟩)
  have HW := Lib.hid hw
  have q1 : ((1 - slot : Nat) : Int) = 1 - (slot : Int) := by omega
  have q2 : ((turn + 1 : Nat) : Int) = (turn : Int) + 1 := by omega
  clear hw hlo h2
  go_enter Try.func17, Try.ntmps17
  go_wp2_with fail
  refine wp_region_still_tail 12 (by kernel_rfl) (by kernel_rfl) ?_
  simp only [List.take_succ_cons, List.take_zero, List.drop_succ_cons, List.drop_zero]
  repeat still_step
  refine wpStill_nil ?_
  go_wp2_with fail
  rw [← q1, ← q2]
  refine (HW.out _ (Keep.refl [] _).drew).mono ?_
  rintro e w4 ⟨rfl, hd4, ⟨tv', hB4, hb4⟩, k4⟩
  go_wp2_with fail
  go_ret
  exact ⟨rfl, hd4, ⟨tv', hB4, hb4.mono (by omega)⟩, (Keep.refl _ _).drew.trans k4⟩
theorem flushSec_two (L : List Sec) : (L.map flushSec).map flushSec = L.map flushSec := by simp [flushSec]
theorem make_secs (L : List Sec) (i : Nat) (a b m : Sec) (z : List Nat) (hz : z = List.replicate 64 0) (ha : a.now = z) (hb : b.now = z) :
    ((((L.set i a).set (i + 1) b).map flushSec).map flushSec).set i m = ((L.map flushSec).set (i + 1) zeroSec).set i m := by
  have e1 : flushSec a = zeroSec := by unfold flushSec zeroSec; rw [ha, hz]
  have e2 : flushSec b = zeroSec := by unfold flushSec zeroSec; rw [hb, hz]
  rw [flushSec_two, List.map_set, List.map_set, e1, e2, List.set_comm _ _ (show i ≠ i + 1 by omega), List.set_set]
set_option maxRecDepth 100000 in
set_option maxHeartbeats 400000 in
theorem Make_in {w : World} {d sb : Nat} {L : List Sec} {c : Nat} (hd : IsDev w d sb L c) (at_ : Nat) (hat : at_ + 1 < L.length) (bv : Value) (text : List Nat)
    (hr : Rd w bv text) (hb : ∀ c ∈ text, c < 256) (hl : text.length ≤ 40) (hc : c + 5 ≤ 1099511627776) (hlo : ∀ b, bv.ownBlock = some b → 0 < text.length → b < w.heap.size ∧ b ≠ d ∧ b ≠ sb) :
    Calls Try.prog 16 #[.pointer (some ⟨d, 0, none⟩), .int .i64 at_, bv] w fun e w' => ∃ s, e = .returned (.tuple #[.pointer (some ⟨s, 0, none⟩), .int .i64 0]) ∧
      IsDev w' d sb (((L.map flushSec).set (at_ + 1) zeroSec).set at_ ⟨sImg 1 text, sImg 1 text, false⟩) (c + 5) ∧ IsSup w' s d at_ 1 text 0 ∧ Keep [d, sb] w w' ∧ w.heap.size ≤ s := by
  obtain ⟨i8, hi8, hz80, hz81, hz82⟩ := info_parts Try.info8
  have h2 := hr
  obtain ⟨_, ba, bcap, rfl, _, _⟩ := hr
  have q0 : (text.length : Int) ≤ 40 := by omega
  have hmx := hd.max
  have hdl := hd.dev.lt
  have hsl := hd.secs.lt
  go_enter Try.func16, Try.ntmps16
  go_wp2_with fail
  refine (there_in hd at_ hat).mono ?_
  rintro e w1 ⟨rfl, rfl⟩
  go_wp2_with fail
  refine wp_loop_rounds 3 ?_
  rw [rounds_succ]
  go_wp2_with (at_make; refine wpList_make_n _ rfl _ _ 22 rfl 5 i8 _ Try.underlying22 hi8 hz80 (by rw [hz81]; rfl) (by decide) _ 64 rfl rfl (by omega) (by rw [hz82]; omega) (by omega) ?_)
  obtain ⟨s0, hs0, hm0⟩ := sec_mem (show at_ < L.length by omega)
  have hz : bcs (List.replicate 64 0) = List.replicate 64 (.int .u8 0) := by simp [bcs, bc]
  have hZ : ∀ W : World, Rd (W.alloc (.cells (List.replicate 64 (.int .u8 0)).toArray 5)) (.slice (some ⟨W.heap.size, 0, none⟩) 64 64) (List.replicate 64 0) := fun W => by
    rw [← hz]
    exact Rv.new W (bcs (List.replicate 64 0)) 5 1 64 64 (by simp) (by omega) _ rfl
  have hzb : ∀ x ∈ List.replicate 64 0, x < 256 := by intro x hx; simp at hx; omega
  have HZ := Lib.hid hZ
  have HZB := Lib.hid hzb
  clear hZ hzb hz
  have hd1 := hd.keep ((Keep.refl [] w).alloc (.cells (List.replicate 64 (.int .u8 0)).toArray 5)) (by simp) (by simp)
  have W1 := Write_in hd1 at_ s0 hs0 _ (List.replicate 64 0) (HZ.out w) (by simp) HZB.out (by omega)
  refine W1.mono ?_
  rintro e w2 ⟨rfl, hd2, k2⟩
  clear W1
  have K2 : Keep [d, sb] w w2 := ((Keep.refl _ _).alloc _).trans k2
  have hov : ∀ s : Sec, s ∈ L → over s.now 0 (List.replicate 64 0) = List.replicate 64 0 := fun s hs => by simp [over, (hd.ok s hs).1]
  have q1 : ((at_ + 1 : Nat) : Int) = (at_ : Int) + 1 := by omega
  obtain ⟨s1, hs1, hm1⟩ := sec_mem hat
  have hs1' : (L.set at_ ⟨over s0.now 0 (List.replicate 64 0), s0.lasts, true⟩)[at_ + 1]? = some s1 := by rw [List.getElem?_set_ne (by omega)]; exact hs1
  clear k2 hd1
  go_wp2_with fail
  rw [rounds_succ]
  go_wp2_with (at_make; refine wpList_make_n _ rfl _ _ 22 rfl 5 i8 _ Try.underlying22 hi8 hz80 (by rw [hz81]; rfl) (by decide) _ 64 rfl rfl (by omega) (by rw [hz82]; omega) (by omega) ?_)
  rw [← q1]
  have hd3 := hd2.keep ((Keep.refl [] w2).alloc (.cells (List.replicate 64 (.int .u8 0)).toArray 5)) (by simp) (by simp)
  have W2 := Write_in hd3 (at_ + 1) s1 hs1' _ (List.replicate 64 0) (HZ.out w2) (by simp) HZB.out (by omega)
  refine W2.mono ?_
  rintro e w4 ⟨rfl, hd4, k4⟩
  have K4 : Keep [d, sb] w w4 := (K2.alloc _).trans k4
  clear W2 hd3 hd2 k4
  go_wp2_with fail
  rw [rounds_succ]
  go_wp2_with fail
  refine (Flush_any hd4 (by omega)).mono ?_
  rintro e w5 ⟨rfl, hd5, k5⟩
  have K5 := K4.trans k5
  clear k5 hd4
  go_wp2_with fail
  have hB0 : Blk (w5.alloc (.cells #[.pointer (some ⟨d, 0, none⟩), .int .i64 at_, .int .i64 0, .slice none 0 0, .int .i64 0] 65)) w5.heap.size [.pointer (some ⟨d, 0, none⟩), .int .i64 at_, .int .i64 0, .slice none 0 0, .int .i64 0] 65 := Blk.new _ _ _
  have hsz := K5.size
  have hd6 := hd5.keep ((Keep.refl [] w5).alloc (.cells #[.pointer (some ⟨d, 0, none⟩), .int .i64 at_, .int .i64 0, .slice none 0 0, .int .i64 0] 65)) (by simp) (by simp)
  have K6 : Keep [d, sb] w (w5.alloc (.cells #[.pointer (some ⟨d, 0, none⟩), .int .i64 at_, .int .i64 0, .slice none 0 0, .int .i64 0] 65)) := K5.alloc _
  have hr6 := Rd.keep0 h2 K6 (by intro b hb hp; have := hlo b hb hp; simp; omega)
  have W3 := write_any at_ 0 0 (.slice none 0 0) 0 1 (.slice ba text.length bcap) text hd6 hB0 hr6 hb hl (by simp; omega) (by omega) (by omega) (fun b hb hp => by have := hlo b hb hp; simp; omega)
  refine W3.mono ?_
  rintro e w7 ⟨rfl, hd7, ⟨tv, hB7, hb7⟩, k7⟩
  go_wp2_with fail
  go_ret2
  refine ⟨w5.heap.size, rfl, ?_, ⟨tv, hB7, hb7.mono (by omega)⟩, K6.then k7 (by intro x hx hlt; simp at hx ⊢; omega), hsz⟩
  rw [show at_ + 0 = at_ from rfl, make_secs L at_ _ _ _ (List.replicate 64 0) rfl (hov s0 hm0) (hov s1 hm1)] at hd7
  exact hd7
end Go.Proofs.Ytnnaleoigiaboaa
