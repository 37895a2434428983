/- What sectors of a Super say; the laws' begun; the law SuperNone. -/
import Derived.Test.YtnnaleoigiaboaaSuper3
import Derived.Lib.SmallJoins
namespace Go.Proofs.Ytnnaleoigiaboaa
open Go.ChangeShapes Go.WideShapes Go.ChangeAt Go.RowKit
set_option linter.unusedVariables false
set_option linter.unusedSimpArgs false

theorem sImg_drop (n : Nat) (t : List Nat) : (sImg n t).drop 4 = sBody n t := by
  unfold sImg; rw [List.drop_left' (by simp)]
theorem sImg_take (n : Nat) (t : List Nat) : (sImg n t).take 4 = be 4 (crcSum (sBody n t)) := by
  unfold sImg; rw [List.take_left' (by simp)]
theorem supTurn_img (n : Nat) (t : List Nat) (hn : n < 18446744073709551616) : supTurn (sImg n t) = n := by
  unfold supTurn
  rw [sImg_drop]
  unfold sBody
  rw [List.take_left' (by simp), unbe_be]
  exact Nat.mod_eq_of_lt hn
theorem sImg_13 (n : Nat) (t : List Nat) : (sImg n t).drop 12 = [t.length] ++ (t ++ List.replicate (51 - t.length) 0) := by
  have : (sImg n t).drop 12 = ((sImg n t).drop 4).drop 8 := by rw [List.drop_drop]
  rw [this, sImg_drop]
  unfold sBody
  rw [List.drop_left' (by simp)]
theorem getD_drop (l : List Nat) (k : Nat) : l.getD k 0 = (l.drop k).getD 0 0 := by
  simp [List.getD_eq_getElem?_getD]
theorem sImg_12 (n : Nat) (t : List Nat) : (sImg n t).getD 12 0 = t.length := by
  rw [getD_drop, sImg_13]; rfl
theorem supText_img (n : Nat) (t : List Nat) : supText (sImg n t) = t := by
  unfold supText
  rw [sImg_12]
  have : (sImg n t).drop 13 = ((sImg n t).drop 12).drop 1 := by rw [List.drop_drop]
  rw [this, sImg_13, List.singleton_append, List.drop_succ_cons, List.drop_zero, List.take_left' rfl]
theorem supGood_img (c n : Nat) (t : List Nat) (hl : t.length ≤ 40) (hb : ∀ x ∈ t, x < 256) (hn : n < 9223372036854775808) : supGood c (sImg n t) = decide (c < n) := by
  unfold supGood
  have hs := crcSum_lt (sBody n t) (sBody_byte n t hl hb)
  rw [sImg_drop, sImg_take, unbe_be, supTurn_img _ _ (by omega), sImg_12]
  have e : crcSum (sBody n t) % 256 ^ 4 = crcSum (sBody n t) := Nat.mod_eq_of_lt (by simpa using hs)
  rw [e]
  simp [hl, hn]
theorem supTurn_zero : supTurn (List.replicate 64 0) = 0 := by decide
theorem supGood_le (c : Nat) (x : List Nat) (h : supTurn x ≤ c) : supGood c x = false := by
  unfold supGood
  have : decide (c < supTurn x) = false := decide_eq_false (by omega)
  rw [this]; simp
theorem supStep_turn (c : Sup3) (k : Nat) (x : List Nat) : (supStep c k x).turn = c.turn ∨ (supStep c k x).turn = supTurn x := by
  unfold supStep
  split
  · exact .inr rfl
  · exact .inl rfl
/-- The newest in slot 0, or in slot 1. -/
theorem supTo_best0 (n : Nat) (t y : List Nat) (hl : t.length ≤ 40) (hb : ∀ x ∈ t, x < 256) (h0 : 0 < n) (hn : n < 9223372036854775808) (hy : supTurn y ≤ n) : supTo (sImg n t) y 2 = ⟨n, 0, t⟩ := by
  show supStep (supStep ⟨0, 0, []⟩ 0 (sImg n t)) 1 y = _
  have e : supStep ⟨0, 0, []⟩ 0 (sImg n t) = ⟨n, 0, t⟩ := by
    unfold supStep
    rw [supGood_img _ _ _ hl hb hn, if_pos (by simpa using h0), supTurn_img _ _ (by omega), supText_img]
  rw [e]
  unfold supStep
  rw [supGood_le _ _ hy]
  rfl
theorem supTo_best1 (n : Nat) (t y : List Nat) (hl : t.length ≤ 40) (hb : ∀ x ∈ t, x < 256) (h0 : 0 < n) (hn : n < 9223372036854775808) (hy : supTurn y < n) : supTo y (sImg n t) 2 = ⟨n, 1, t⟩ := by
  show supStep (supStep ⟨0, 0, []⟩ 0 y) 1 (sImg n t) = _
  have hc : (supStep ⟨0, 0, []⟩ 0 y).turn < n := by
    rcases supStep_turn ⟨0, 0, []⟩ 0 y with h | h
    · rw [h]; exact h0
    · rw [h]; exact hy
  generalize supStep ⟨0, 0, []⟩ 0 y = c at *
  unfold supStep
  rw [supGood_img _ _ _ hl hb hn, if_pos (by simpa using hc), supTurn_img _ _ (by omega), supText_img]
/-- Nothing whole. -/
theorem supTo_none (x y : List Nat) (hx : supGood 0 x = false) (hy : supGood 0 y = false) : supTo x y 2 = ⟨0, 0, []⟩ := by
  show supStep (supStep ⟨0, 0, []⟩ 0 x) 1 y = _
  have e : supStep ⟨0, 0, []⟩ 0 x = ⟨0, 0, []⟩ := by unfold supStep; rw [hx]; rfl
  rw [e]
  unfold supStep
  rw [hy]
  rfl
theorem u8s_own {w : World} {n : Nat} {d sb : Nat} (hd : d < w.heap.size) (hs : sb < w.heap.size) (o : Obj) {Z : Prop} : ∀ b, (Value.slice (some ⟨w.heap.size, 0, none⟩) n n).ownBlock = some b → Z → b < (w.alloc o).heap.size ∧ b ≠ d ∧ b ≠ sb := by
  intro b hb _
  have : w.heap.size = b := Option.some.inj hb
  subst this
  simp; omega
theorem u8s_rd (w : World) (cs : List Nat) (b : Nat) (hb : b = w.heap.size) (fr : Nat × Nat) : Rd (w.alloc (.cells (bcs cs).toArray 5 fr)) (.slice (some ⟨b, 0, none⟩) cs.length cs.length) cs := by
  subst hb
  refine ⟨by simp, _, cs.length, rfl, Nat.le_refl _, fun _ => ⟨w.heap.size, 0, rfl, by simp, fun i hi => ?_⟩⟩
  rw [Nat.zero_add, World.cell?_alloc_mark]
  simp
/-- Two sectors from a place on: in one the newest text, the other elder; nothing is loose. -/
def Pair (L : List Sec) (at_ slot turn : Nat) (text : List Nat) : Prop :=
  ∃ y, supTurn y < turn ∧ L[at_ + slot]? = some ⟨sImg turn text, sImg turn text, false⟩ ∧ L[at_ + (1 - slot)]? = some ⟨y, y, false⟩
theorem Pair.make (L : List Sec) (at_ : Nat) (text : List Nat) (h : at_ + 1 < L.length) : Pair (((L.map flushSec).set (at_ + 1) zeroSec).set at_ ⟨sImg 1 text, sImg 1 text, false⟩) at_ 0 1 text := by
  refine ⟨List.replicate 64 0, by rw [supTurn_zero]; omega, ?_, ?_⟩
  · rw [show at_ + 0 = at_ from rfl, List.getElem?_set_self (by simp; omega)]
  · rw [show at_ + (1 - 0) = at_ + 1 from rfl, List.getElem?_set_ne (by omega), List.getElem?_set_self (by simp; omega)]
    rfl
theorem Pair.save {L : List Sec} {at_ slot turn : Nat} {text : List Nat} (h : Pair L at_ slot turn text) (hs : slot ≤ 1) (ht : turn < 18446744073709551616) (text' : List Nat) :
    Pair ((L.map flushSec).set (at_ + (1 - slot)) ⟨sImg (turn + 1) text', sImg (turn + 1) text', false⟩) at_ (1 - slot) (turn + 1) text' := by
  obtain ⟨y, hy, h1, h2⟩ := h
  have l2 := (List.getElem?_eq_some_iff.1 h2).1
  refine ⟨sImg turn text, by rw [supTurn_img _ _ ht]; omega, ?_, ?_⟩
  · rw [List.getElem?_set_self (by simpa using l2)]
  · rw [show 1 - (1 - slot) = slot by omega, List.getElem?_set_ne (by omega), List.getElem?_map, h1]
    rfl
theorem Pair.set {L : List Sec} {at_ slot turn : Nat} {text : List Nat} (h : Pair L at_ slot turn text) (hs : slot ≤ 1) (i : Nat) (x : Sec) (hi : i ≠ at_ ∧ i ≠ at_ + 1) : Pair (L.set i x) at_ slot turn text := by
  obtain ⟨y, hy, h1, h2⟩ := h
  exact ⟨y, hy, by rw [List.getElem?_set_ne (by omega)]; exact h1, by rw [List.getElem?_set_ne (by omega)]; exact h2⟩
theorem Pair.flush {L : List Sec} {at_ slot turn : Nat} {text : List Nat} (h : Pair L at_ slot turn text) : Pair (L.map flushSec) at_ slot turn text := by
  obtain ⟨y, hy, h1, h2⟩ := h
  exact ⟨y, hy, by rw [List.getElem?_map, h1]; rfl, by rw [List.getElem?_map, h2]; rfl⟩
theorem crashN_tight (L : List Sec) (keep : List Bool) (i : Nat) (y : List Nat) (h : L[i]? = some ⟨y, y, false⟩) : (crashN L keep L.length)[i]? = some ⟨y, y, false⟩ := by
  have hl := (List.getElem?_eq_some_iff.1 h).1
  unfold crashN
  rw [List.getElem?_map, List.getElem?_range hl]
  have hg : L.getD i zeroSec = ⟨y, y, false⟩ := by rw [List.getD_eq_getElem?_getD, h]; rfl
  show some (sec2 (crashNow L keep i)) = _
  unfold crashNow sec2
  rw [hg]
  rfl
theorem Pair.crash {L : List Sec} {at_ slot turn : Nat} {text : List Nat} (h : Pair L at_ slot turn text) (keep : List Bool) : Pair (crashN L keep L.length) at_ slot turn text := by
  obtain ⟨y, hy, h1, h2⟩ := h
  exact ⟨y, hy, crashN_tight _ _ _ _ h1, crashN_tight _ _ _ _ h2⟩
theorem Pair.len {L : List Sec} {at_ slot turn : Nat} {text : List Nat} (h : Pair L at_ slot turn text) (hs : slot ≤ 1) : at_ + 1 < L.length := by
  obtain ⟨y, hy, h1, h2⟩ := h
  have l1 := (List.getElem?_eq_some_iff.1 h1).1
  have l2 := (List.getElem?_eq_some_iff.1 h2).1
  rcases (show slot = 0 ∨ slot = 1 by omega) with rfl | rfl <;> simp at l1 l2 <;> omega
/-- Opened: the newest text. -/
theorem Open_pair {w : World} {d sb : Nat} {L : List Sec} {c : Nat} (hd : IsDev w d sb L c) {at_ slot turn : Nat} {text : List Nat} (h : Pair L at_ slot turn text) (hs : slot ≤ 1)
    (hl : text.length ≤ 40) (hb : ∀ x ∈ text, x < 256) (h0 : 0 < turn) (hn : turn < 9223372036854775808) :
    Calls Try.prog 20 #[.pointer (some ⟨d, 0, none⟩), .int .i64 at_] w fun e w' => ∃ s, e = .returned (.tuple #[.pointer (some ⟨s, 0, none⟩), .int .i64 0]) ∧ w.heap.size ≤ s ∧ IsSup w' s d at_ turn text slot ∧ Keep [] w w' := by
  obtain ⟨y, hy, h1, h2⟩ := h
  have hx : ∃ s0 s1, L[at_]? = some s0 ∧ L[at_ + 1]? = some s1 ∧ supTo s0.now s1.now 2 = ⟨turn, slot, text⟩ := by
    rcases (show slot = 0 ∨ slot = 1 by omega) with rfl | rfl
    · exact ⟨_, _, h1, h2, supTo_best0 turn text y hl hb h0 hn (by omega)⟩
    · exact ⟨_, _, h2, h1, supTo_best1 turn text y hl hb h0 hn hy⟩
  obtain ⟨s0, s1, e0, e1, e⟩ := hx
  refine (Open_any hd at_ s0 s1 e0 e1).mono ?_
  rintro r w' ⟨hk, hc⟩
  rw [e] at hc
  rcases hc with ⟨h', _⟩ | ⟨_, s, rfl, hs', hS⟩
  · exact absurd h' (by show ¬ turn = 0; omega)
  · exact ⟨s, rfl, hs', hS, hk⟩
set_option maxRecDepth 100000 in
set_option maxHeartbeats 1000000 in
theorem begun5 (w : World) : Calls Try.prog 13 #[] w fun e w' => e = .returned (.bool true) ∧ Keep [] w w' := by
  have kc := fun (w : World) (C : Array Value) (n c : Nat) => Lib.run_convert_bytes_const (P := Try.prog) w 22 5 C n c Try.underlying22 Try.underlying5
  go_enter Try.func13, Try.ntmps13
  go_wp2_with fail
  refine (New_any 4 4 rfl).mono ?_
  rintro e w1 ⟨d, sb, rfl, hD1, hK1, hb, hsb⟩
  go_wp2_with fail
  have hdl := hD1.dev.lt
  have hsl := hD1.secs.lt
  refine (Make_in (hD1.keep ((Keep.refl [] _).alloc _) (by simp) (by simp)) 1 (by decide) _ [111, 110, 101] (u8s_rd w1 [111, 110, 101] _ rfl (3, 4)) (by decide) (by decide) (by decide) (u8s_own hdl hsl _)).mono ?_
  rintro e w2 ⟨s, rfl, hD2, hS2, hK2, hs2⟩
  have hws : w.heap.size ≤ s := Nat.le_trans (by have := hK1.size; simp; omega) hs2
  have hP2 := Pair.make (List.replicate 4 zeroSec) 1 [111, 110, 101] (by decide)
  have hL2 : ((((List.replicate 4 zeroSec).map flushSec).set (1 + 1) zeroSec).set 1 ⟨sImg 1 [111, 110, 101], sImg 1 [111, 110, 101], false⟩).length = 4 := by simp
  generalize (((List.replicate 4 zeroSec).map flushSec).set (1 + 1) zeroSec).set 1 ⟨sImg 1 [111, 110, 101], sImg 1 [111, 110, 101], false⟩ = L2 at *
  have K2 : Keep [] w w2 := (hK1.alloc _).then hK2 (by intro x hx hlt; simp at hx; rcases hx with rfl | rfl <;> omega)
  have hsd := hD2.neSup hS2
  go_wp2_with fail
  have hdl2 := hD2.dev.lt
  have hsl2 := hD2.secs.lt
  have hssl := hS2.lt
  refine (Save_in (hD2.keep ((Keep.refl [] _).alloc _) (by simp) (by simp)) (hS2.keep ((Keep.refl [] _).alloc _) (by simp) (by simp)) _ [116, 119, 111] (u8s_rd w2 [116, 119, 111] _ rfl (3, 4)) (by decide) (by decide) (by decide) (by omega) (by decide) (by decide) (fun b hb hp => by
    have := u8s_own (n := 3) hdl2 hsl2 (.cells (bcs [116, 119, 111]).toArray 5 (3, 4)) b hb hp
    have h2 : w2.heap.size = b := Option.some.inj hb
    exact ⟨this.1, this.2.1, this.2.2, by omega⟩)).mono ?_
  rintro e w3 ⟨rfl, hD3, hS3, hK3⟩
  have hP3 := hP2.save (by decide) (by decide) [116, 119, 111]
  have K3 : Keep [] w w3 := (K2.alloc _).then hK3 (by intro x hx hlt; simp at hx; have := hK1.size; rcases hx with rfl | rfl | rfl <;> omega)
  clear hK3 hK2 hP2 hS2 hD2 hD1
  go_wp2_with fail
  refine (Open_pair hD3 hP3 (by decide) (by decide) (by decide) (by decide) (by decide)).mono ?_
  rintro e w4 ⟨t, rfl, ht, hT4, hK4⟩
  have hS4 := hS3.keep hK4 (by simp) (by simp)
  have K4 := K3.trans hK4
  clear hK4 hS3 hD3 hP3
  go_wp2_with fail
  refine (Text_any hT4 (by decide)).mono ?_
  rintro e w5 ⟨v, rfl, hb5, hK5⟩
  have hT5 := hT4.keep hK5 (by simp) (by simp)
  have hS5 := hS4.keep hK5 (by simp) (by simp)
  have K5 := K4.trans hK5
  have hstr := Rd.str (P := Try.prog) hb5.rd (by decide) Try.underlying22 Try.underlying5 (dst := 9) Try.underlying9
  rw [show toStr [116, 119, 111] = { data := #[116, 119, 111] } by decide] at hstr
  obtain ⟨va, vcap, rfl⟩ := hb5.slice
  rw [show ([116, 119, 111] : List Nat).length = 3 from rfl] at hstr
  clear hb5 hT4 hS4 K4 hK5
  go_wp2_with fail
  refine (Turn_any hT5).mono ?_
  rintro e w6 ⟨rfl, rfl⟩
  go_wp2_with fail
  refine (Turn_any hS5).mono ?_
  rintro e w6 ⟨rfl, rfl⟩
  go_wp2_with fail
  go_ret
  exact ⟨rfl, K5⟩
theorem Make_out {w : World} {d sb : Nat} {L : List Sec} {c : Nat} (hd : IsDev w d sb L c) (at_ : Int) (hat : at_ < 0 ∨ (L.length : Int) ≤ at_ + 1) (v : Value) :
    Calls Try.prog 16 #[.pointer (some ⟨d, 0, none⟩), .int .i64 at_, v] w fun e w' => e = .returned (.tuple #[.pointer none, .int .i64 4]) ∧ w = w' := by
  go_enter Try.func16, Try.ntmps16
  go_wp2_with fail
  refine (there_out hd at_ hat).mono ?_
  rintro e w1 ⟨rfl, rfl⟩
  go_wp2_with fail
  go_ret2
  exact ⟨rfl, rfl⟩
theorem Make_long {w : World} {d sb : Nat} {L : List Sec} {c : Nat} (hd : IsDev w d sb L c) (at_ : Nat) (hat : at_ + 1 < L.length) (a : Option Addr) (n cap : Nat) (hn : 40 < n) :
    Calls Try.prog 16 #[.pointer (some ⟨d, 0, none⟩), .int .i64 at_, .slice a n cap] w fun e w' => e = .returned (.tuple #[.pointer none, .int .i64 1]) ∧ w = w' := by
  have q0 : (40 : Int) < n := by omega
  go_enter Try.func16, Try.ntmps16
  go_wp2_with fail
  refine (there_in hd at_ hat).mono ?_
  rintro e w1 ⟨rfl, rfl⟩
  go_wp2_with fail
  go_ret2
  exact ⟨rfl, rfl⟩
theorem Open_out {w : World} {d sb : Nat} {L : List Sec} {c : Nat} (hd : IsDev w d sb L c) (at_ : Int) (hat : at_ < 0 ∨ (L.length : Int) ≤ at_ + 1) :
    Calls Try.prog 20 #[.pointer (some ⟨d, 0, none⟩), .int .i64 at_] w fun e w' => e = .returned (.tuple #[.pointer none, .int .i64 4]) ∧ w = w' := by
  go_enter Try.func20, Try.ntmps20
  go_wp2_with fail
  refine (there_out hd at_ hat).mono ?_
  rintro e w1 ⟨rfl, rfl⟩
  go_wp2_with fail
  go_ret2
  exact ⟨rfl, rfl⟩
theorem Open_none {w : World} {d sb : Nat} {L : List Sec} {c : Nat} (hd : IsDev w d sb L c) (at_ : Nat) (x0 x1 : Sec) (h0 : L[at_]? = some x0) (h1 : L[at_ + 1]? = some x1) (hx : supGood 0 x0.now = false) (hy : supGood 0 x1.now = false) :
    Calls Try.prog 20 #[.pointer (some ⟨d, 0, none⟩), .int .i64 at_] w fun e w' => e = .returned (.tuple #[.pointer none, .int .i64 3]) ∧ Keep [] w w' := by
  refine (Open_any hd at_ x0 x1 h0 h1).mono ?_
  rintro r w' ⟨hk, hc⟩
  rw [supTo_none _ _ hx hy] at hc
  rcases hc with ⟨_, rfl⟩ | ⟨h', _⟩
  · exact ⟨rfl, hk⟩
  · exact absurd rfl h'
set_option maxRecDepth 100000 in
set_option maxHeartbeats 1000000 in
theorem superNone_walk (w : World) : Calls Try.prog 4 #[] w fun e w' => e = .returned (.bool true) ∧ Below w.heap.size w w' := by
  obtain ⟨i8, hi8, hz80, hz81, hz82⟩ := info_parts Try.info8
  go_enter Try.func4, Try.ntmps4
  go_wp2_with fail
  refine (New_any 2 2 rfl).mono ?_
  rintro e w1 ⟨d1, sb1, rfl, hD1, k1, _, _⟩
  go_wp2_with fail
  refine (Make_out hD1 1 (.inr (by decide)) _).mono ?_
  rintro e w1 ⟨rfl, rfl⟩
  go_wp2_with fail
  refine (New_any 2 2 rfl).mono ?_
  rintro e w2 ⟨d2, sb2, rfl, hD2, k2, _, _⟩
  have K2 := k1.trans k2
  go_wp2_with fail
  have hop := Open_none hD2 0 zeroSec zeroSec rfl rfl (supGood_le _ _ (by show supTurn (List.replicate 64 0) ≤ 0; rw [supTurn_zero]; omega)) (supGood_le _ _ (by show supTurn (List.replicate 64 0) ≤ 0; rw [supTurn_zero]; omega))
  refine hop.mono ?_
  rintro e w3 ⟨rfl, k3⟩
  have K3 := K2.trans k3
  clear hop hD1 hD2 k1 k2 k3 K2
  go_wp2_with fail
  refine (New_any 2 2 rfl).mono ?_
  rintro e w4 ⟨d4, sb4, rfl, hD4, k4, _, _⟩
  have K4 := K3.trans k4
  go_wp2_with fail
  refine (Open_out hD4 (-1) (.inl (by decide))).mono ?_
  rintro e w4 ⟨rfl, rfl⟩
  clear hD4 k4 K3
  have hmk := fun W : World => run_make_n (P := Try.prog) 22 5 i8 _ Try.underlying22 hi8 hz80 hz81 (by rfl) 41 41 rfl (by rw [hz82]; omega) (by omega) W
  go_wp2_with fail
  go_region_with
    (first
      | (go_at_call 15; refine (New_any 2 2 rfl).mono ?_; rintro e w5 ⟨d5, sb5, rfl, hD5, k5, _, _⟩)
      | (go_at_call 16; (first | refine (Make_long (hD5.keep ((Keep.refl [] _).alloc _) (by simp) (by simp)) 0 (by decide) _ 41 41 (by decide)).mono ?_ | refine (Make_long hD5 0 (by decide) _ 41 41 (by decide)).mono ?_); rintro e w6 ⟨rfl, hw6⟩)
      | fail)
  all_goals
    have K5 : Keep [] w w6 := by
      rw [← hw6]
      first
        | exact (K4.drew.trans k5).alloc _
        | exact (K4.drew.alloc _).trans k5
        | exact (K4.alloc _).drew.trans k5
    clear hw6 k5 hD5
    go_wp2_with fail
    refine (begun5 w6).mono ?_
    rintro e w7 ⟨rfl, k7⟩
    go_wp2_with fail
    refine (Save_nil _).mono ?_
    rintro e w8 ⟨rfl, rfl⟩
    go_wp2_with fail
    refine Text_nil.mono ?_
    rintro e w8 ⟨rfl, rfl⟩
    go_wp2_with fail
    refine Turn_nil.mono ?_
    rintro e w8 ⟨rfl, rfl⟩
    go_wp2_with fail
    go_ret
    exact ⟨rfl, (K5.trans k7).below⟩
end Go.Proofs.Ytnnaleoigiaboaa
