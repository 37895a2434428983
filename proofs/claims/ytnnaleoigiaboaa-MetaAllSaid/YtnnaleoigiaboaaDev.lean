/- The contracts of package dev. -/
import Derived.Test.YtnnaleoigiaboaaDevMem
import Derived.Test.YtnnaleoigiaboaaInfo
import Derived.Test.YtnnaleoigiaboaaStr
import Derived.Deep.RegionHeld3
import Derived.Deep.LoopGhost
import Derived.WalkSpells
namespace Go.Proofs.Ytnnaleoigiaboaa
open Go.ChangeShapes Go.WideShapes Go.ChangeAt Go.RowKit
set_option linter.unusedVariables false
set_option linter.unusedSimpArgs false

def zeroSec : Sec := ⟨List.replicate 64 0, List.replicate 64 0, false⟩
theorem zeroSec_ok : zeroSec.ok := by refine ⟨rfl, rfl, ?_, ?_⟩ <;> (intro c hc; simp [zeroSec] at hc; omega)
theorem Try.infoSec : (Try.prog.info? 71).map (fun i => (i.zero, i.size, i.bytes)) = some (some (.agg (secCells zeroSec).toArray), 129, 129) := by kernel_rfl
theorem zeros_dev (n : Nat) : (List.replicate n (secCells zeroSec)).flatten = devCells (List.replicate n zeroSec) := by simp [devCells]

/-- Block b is a device, its sectors in block sb. -/
structure IsDev (w : World) (b sb : Nat) (l : List Sec) (calls : Nat) : Prop where
  dev : Blk w b [.slice (some ⟨sb, 0, none⟩) l.length l.length, .int .i64 calls] 61
  secs : Blk w sb (devCells l) 71
  ne : b ≠ sb
  ok : ∀ s ∈ l, s.ok
  pos : 0 < l.length
  max : l.length ≤ 2048
  few : calls ≤ 1099511627776
theorem IsDev.keep {S : List Nat} {w w' : World} {b sb : Nat} {l : List Sec} {c : Nat} (h : IsDev w b sb l c) (k : Keep S w w') (h1 : b ∉ S) (h2 : sb ∉ S) : IsDev w' b sb l c :=
  ⟨h.dev.keep k h1, h.secs.keep k h2, h.ne, h.ok, h.pos, h.max, h.few⟩

theorem New_any {w : World} (n : Int) (k : Nat) (hk : (k : Int) = min (max n 1) 2048) :
    Calls Try.prog 15 #[.int .i64 n] w fun e w' => ∃ b sb, e = .returned (.pointer (some ⟨b, 0, none⟩)) ∧ IsDev w' b sb (List.replicate k zeroSec) 0 ∧ Keep [] w w' ∧ w.heap.size ≤ b ∧ w.heap.size ≤ sb := by
  obtain ⟨i0, hi, hz0, hz1, hz2⟩ := info_parts Try.infoSec
  have hk1 : 0 < k := by omega
  have hk2 : k ≤ 2048 := by omega
  have hlen : (Value.agg (secCells zeroSec).toArray).cells.size = 129 := by
    show (secCells zeroSec).toArray.size = 129
    rw [List.size_toArray, secCells_length zeroSec_ok]
  have hcase : n < 1 ∨ (1 ≤ n ∧ n ≤ 2048) ∨ 2048 < n := by omega
  rcases hcase with h | ⟨h, h'⟩ | h
  all_goals
    go_enter Try.func15, Try.ntmps15
    go_wp2_with (at_make; refine wpList_make_n _ rfl _ _ 59 rfl 71 i0 _ Try.underlying59 hi hz0 (by rw [hz1, hlen]) (by rw [hlen]; decide) _ k rfl rfl (by omega) (by rw [hz2]; omega) (by omega) ?_)
    go_ret
    refine ⟨w.heap.size + 1, w.heap.size, rfl, ⟨?_, ?_, by omega, ?_, by simpa using hk1, by simpa using hk2, by omega⟩, ((Keep.refl _ _).alloc _).alloc _, by omega, Nat.le_refl _⟩
    · rw [List.length_replicate]
      exact Blk.new' _ _ _ _ (by simp)
    · rw [← zeros_dev]
      exact (Blk.new _ _ _).alloc _
    · intro s hs
      rw [List.eq_of_mem_replicate hs]
      exact zeroSec_ok

theorem off_any {w : World} {b sb : Nat} {l : List Sec} {c : Nat} (h : IsDev w b sb l c) (i : Int) (r : Int) (hr : r = if 0 ≤ i ∧ i < l.length then 0 else 4) :
    Calls Try.prog 36 #[.pointer (some ⟨b, 0, none⟩), .int .i64 i] w fun e w' => e = .returned (.int .i64 r) ∧ w = w' := by
  have g0 := h.dev.cell 0
  simp only [List.getElem?_cons_zero] at g0
  have hm := h.max
  have HR := Lib.hid hr
  clear hr
  by_cases h1 : i < 0
  · go_enter Try.func36, Try.ntmps36
    go_wp2
    go_ret
    exact ⟨by rw [HR.out, if_neg (by omega)]; rfl, rfl⟩
  · by_cases h2 : (l.length : Int) ≤ i
    · go_enter Try.func36, Try.ntmps36
      go_wp2
      go_ret
      exact ⟨by rw [HR.out, if_neg (by omega)]; rfl, rfl⟩
    · have h3 : i < l.length := by omega
      go_enter Try.func36, Try.ntmps36
      go_wp2
      go_ret
      exact ⟨by rw [HR.out, if_pos (by omega)]; rfl, rfl⟩

theorem Len_any {w : World} {b sb : Nat} {l : List Sec} {c : Nat} (h : IsDev w b sb l c) :
    Calls Try.prog 42 #[.pointer (some ⟨b, 0, none⟩)] w fun e w' => e = .returned (.int .i64 (l.length : Int)) ∧ w = w' := by
  have g0 := h.dev.cell 0
  simp only [List.getElem?_cons_zero] at g0
  go_enter Try.func42, Try.ntmps42
  go_wp2
  go_ret
  exact ⟨rfl, rfl⟩
/-- bytes.Clone of a slice that is not nil. -/
theorem Clone_some {w : World} (ad : Addr) (cap : Nat) (l : List Nat) (h : Rd w (.slice (some ad) l.length cap) l) (hl : l.length ≤ 1099511627776) :
    Calls Try.prog 37 #[.slice (some ad) l.length cap] w fun e w' => ∃ v', e = .returned v' ∧ Buf w' w.heap.size 5 v' l ∧ Keep [] w w' ∧ v' ≠ .slice none 0 0 := by
  obtain ⟨i8, hi8, hz80, hz81, hz82⟩ := info_parts Try.info8
  have hsrc := Rd.src (h.alloc (.cells #[] 5)) Try.underlying22
  have hown : Buf (w.alloc (.cells #[] 5)) w.heap.size 5 (.slice (some ⟨w.heap.size, 0, none⟩) 0 0) [] :=
    World.ownsRow_made w #[] 0 (Nat.le_refl _) (by unfold maxLen; omega) rfl
  have heq := fun W => Lib.run_eql_slice_nil (P := Try.prog) W 22 5 (some ad) l.length cap 0 0 Try.underlying22
  go_enter Try.func37, Try.ntmps37
  go_wp2_with (at_builtin; refine wpList_append_src _ rfl _ _ 22 22 rfl w.heap.size 5 i8 (.int .u8 0) 1 1 Try.underlying22 hi8 hz80 hz81 hz82 rfl (by decide) _ 0 [] rfl hown _ _ _ rfl hsrc (by unfold maxLen; omega) (by omega) (by simp) ?_; intro v1 w1 h1 h2 h4 h3)
  go_ret
  refine ⟨v1, rfl, ?_, ((Keep.refl _ _).alloc _).then (Keep.grown h2) ?_, ?_⟩
  · unfold Buf; simpa using h1
  · intro x hx hlt
    have e : (Value.slice (some ⟨w.heap.size, 0, none⟩) 0 0).ownBlock = some x := Option.mem_toList.1 hx
    have e2 : w.heap.size = x := Option.some.inj e
    omega
  · intro e
    have := (h4.1 e).1
    cases this

theorem sec_mem {l : List Sec} {i : Nat} (h : i < l.length) : ∃ s, l[i]? = some s ∧ s ∈ l := ⟨l[i], List.getElem?_eq_getElem h, List.getElem_mem h⟩

/-- Read of a sector that is there. -/
theorem Read_in {w : World} {b sb : Nat} {l : List Sec} {c : Nat} (h : IsDev w b sb l c) (i : Nat) (s : Sec) (hs : l[i]? = some s) :
    Calls Try.prog 18 #[.pointer (some ⟨b, 0, none⟩), .int .i64 (i : Int)] w fun e w' => ∃ v', e = .returned (.tuple #[v', .int .i64 0]) ∧ Buf w' w.heap.size 5 v' s.now ∧ Keep [] w w' := by
  have hi : i < l.length := (List.getElem?_eq_some_iff.1 hs).1
  have hok : s.ok := h.ok s (List.mem_of_getElem? hs)
  have g0 := h.dev.cell 0
  simp only [List.getElem?_cons_zero] at g0
  have hm := h.max
  have q0 : (i : Int) < l.length := by omega
  have hl64 := hok.1
  have hrd : Rd w (.slice (some ⟨sb, i * 129, none⟩) 64 64) s.now := by
    refine ⟨by simp, _, 64, by rw [hl64], by omega, fun _ => ⟨sb, i * 129, rfl, h.secs.lt, fun j hj => ?_⟩⟩
    rw [bcs_length, hl64] at hj
    have hr := h.secs.range (i * 129) 64
    have e := devCells_range h.ok i s hs 0 64 (by omega)
    rw [Nat.add_zero] at e
    rw [e] at hr
    have e2 : ((secCells s).drop 0).take 64 = bcs s.now := by
      unfold secCells
      rw [List.drop_zero, List.take_append_of_le_length (by simp; omega), List.take_of_length_le (by simp; omega)]
    rw [e2] at hr
    have hj2 : (bcs s.now)[j]? = some (bc (s.now.getD j 0)) := bcs_at s.now j (by omega)
    rw [hr j _ hj2, hj2]
  have hb64 : s.now.length ≤ 1099511627776 := by omega
  go_enter Try.func18, Try.ntmps18
  go_wp2_with fail
  refine (off_any h (i : Int) 0 (by rw [if_pos (by omega)])).mono ?_
  rintro e w' ⟨rfl, rfl⟩
  go_wp2_with fail
  have hcl := Clone_some (w := w) ⟨sb, i * 129, none⟩ 64 s.now (by rw [hl64]; exact hrd) hb64
  rw [hl64] at hcl
  refine hcl.mono ?_
  rintro e w1 ⟨v1, rfl, hb1, hk1, _⟩
  go_wp2_with fail
  go_ret2
  exact ⟨v1, rfl, hb1, hk1⟩

theorem set_over {α : Type} (l : List α) (j : Nat) (v : α) (h : j < l.length) : l.set j v = over l j [v] := by
  unfold over
  rw [List.set_eq_take_append_cons_drop, if_pos h]
  simp

theorem over_loose (nw : List Nat) (hn : nw.length = 64) {ls : List Nat} (hl : ls.length = 64) (a c : Bool) : over (secCells ⟨nw, ls, a⟩) 128 [.bool c] = secCells ⟨nw, ls, c⟩ := by
  have e : ∀ d, secCells ⟨nw, ls, d⟩ = (bcs nw ++ bcs ls) ++ [.bool d] := fun d => by simp [secCells]
  have hL : (bcs nw ++ bcs ls).length = 128 := by simp [hn, hl]
  rw [e, e]
  unfold over
  rw [List.take_append_of_le_length (by omega), List.take_of_length_le (by omega), List.drop_of_length_le (by rw [List.length_append, hL]; simp)]
  simp

/-- Write of a sector that is there, of no more than 64 bytes. -/
theorem Write_in {w : World} {b sb : Nat} {l : List Sec} {c : Nat} (h : IsDev w b sb l c) (i : Nat) (s : Sec) (hs : l[i]? = some s) (v : Value) (m : List Nat) (hv : Rd w v m) (hm : m.length ≤ 64) (hmb : ∀ x ∈ m, x < 256) (hc : c < 1099511627776) :
    Calls Try.prog 19 #[.pointer (some ⟨b, 0, none⟩), .int .i64 (i : Int), v] w fun e w' => e = .returned (.int .i64 0) ∧ IsDev w' b sb (l.set i ⟨over s.now 0 m, s.lasts, true⟩) (c + 1) ∧ Keep [b, sb] w w' := by
  have hi : i < l.length := (List.getElem?_eq_some_iff.1 hs).1
  have hok : s.ok := h.ok s (List.mem_of_getElem? hs)
  have hmx := h.max
  have hdl := devCells_length h.ok
  obtain ⟨iu, hiu, hzu0, hzu1, hzu2⟩ := info_parts Try.info8
  have hnow : (over s.now 0 m).length = 64 := by rw [over_length _ _ _ (by have := hok.1; omega)]; exact hok.1
  have hnb : ∀ x ∈ over s.now 0 m, x < 256 := by
    intro x hx
    unfold over at hx
    simp only [List.take_zero, List.nil_append, List.mem_append] at hx
    rcases hx with hx | hx
    · exact hmb x hx
    · exact hok.2.2.1 x (List.mem_of_mem_drop hx)
  have ok1 : (⟨over s.now 0 m, s.lasts, s.loose⟩ : Sec).ok := ⟨hnow, hok.2.1, hnb, hok.2.2.2⟩
  have ok2 : (⟨over s.now 0 m, s.lasts, true⟩ : Sec).ok := ⟨hnow, hok.2.1, hnb, hok.2.2.2⟩
  have hov1 : over (secCells s) 0 (bcs m) = secCells ⟨over s.now 0 m, s.lasts, s.loose⟩ := by
    unfold secCells over
    simp only [List.take_zero, List.nil_append, bcs_length, Nat.zero_add, bcs_append]
    rw [List.drop_append_of_le_length (by simp; have := hok.1; omega)]
    simp [bcs, List.map_drop]
  have e1 := devCells_over h.ok i s _ hs ok1 0 (bcs m) (by simp; omega) hov1
  rw [Nat.add_zero] at e1
  have hB1 := h.secs.setCells (bcs m) (i * 129) w _ (by simp; omega)
  rw [e1] at hB1
  have hK1 : Keep [sb] w (w.setCells sb (i * 129) (bcs m)) := Keep.setCells _ _ _ _ (Keep.refl _ _) (.inl (by simp))
  have hD1 := h.dev.keep hK1 (by simpa using h.ne)
  have hs1 : (l.set i ⟨over s.now 0 m, s.lasts, s.loose⟩)[i]? = some ⟨over s.now 0 m, s.lasts, s.loose⟩ := by simp [hi]
  have hokl := mem_set_ok h.ok i _ ok1
  have hdl1 := devCells_length hokl
  rw [List.length_set] at hdl1
  have e2 := devCells_over hokl i _ _ hs1 ok2 128 [.bool true] (by simp) (over_loose _ hnow hok.2.1 _ _)
  rw [List.set_set, ← set_over _ _ _ (by omega)] at e2
  have r2 := devCells_range hokl i _ hs1 128 1 (by omega)
  have hlo : (devCells (l.set i ⟨over s.now 0 m, s.lasts, s.loose⟩))[i * 129 + 128]? = some (.bool s.loose) := by
    have h3 := congrArg (fun x : List Value => x[0]?) r2
    simp only [List.getElem?_take, List.getElem?_drop, Nat.zero_lt_one, if_true, Nat.add_zero] at h3
    rw [h3]
    unfold secCells
    rw [List.getElem?_append_right (by simp; omega), List.getElem?_append_right (by simp; have := hok.2.1; omega)]
    have h1 := hok.2.1
    simp [hnow, h1]
  have f0 := hD1.cell 0
  have f1 := hD1.cell 1
  have f2 := hD1.free 1
  have f3 := hB1.cell (i * 129 + 128)
  have f4 := hB1.free (i * 129 + 128)
  rw [hlo] at f3
  simp only [List.getElem?_cons_zero, List.getElem?_cons_succ] at f0 f1
  have g0 := h.dev.cell 0
  simp only [List.getElem?_cons_zero] at g0
  have q0 : (i : Int) < l.length := by omega
  have hne := h.ne
  have hth := h.secs.there (i * 129) m.length (by omega)
  have hsrc := Rd.src hv Try.underlying22
  have hfin : IsDev (((w.setCells sb (i * 129) (bcs m)).setCell ⟨sb, i * 129 + 128, none⟩ (.bool true)).setCell ⟨b, 1, none⟩ (.int .i64 ((c + 1 : Nat) : Int))) b sb (l.set i ⟨over s.now 0 m, s.lasts, true⟩) (c + 1) := by
    refine ⟨?_, ?_, hne, mem_set_ok h.ok i _ ok2, by simpa using h.pos, by simpa using h.max, by omega⟩
    · rw [List.length_set]
      exact (hD1.other (by simpa using hne) _).set 1 _
    · rw [← e2]
      exact (hB1.set _ _).other (by simpa using hne.symm) _
  have hkf : Keep [b, sb] w (((w.setCells sb (i * 129) (bcs m)).setCell ⟨sb, i * 129 + 128, none⟩ (.bool true)).setCell ⟨b, 1, none⟩ (.int .i64 ((c + 1 : Nat) : Int))) :=
    ((hK1.mono (by simp)).setCell (by simp) _).setCell (by simp) _
  have HF := Lib.hid hfin
  have HK := Lib.hid hkf
  obtain ⟨_, av, capv, rfl, _, _⟩ := id hv
  clear hfin hkf hov1 e1 e2 r2 hlo hB1 hD1 hK1 hs1 hokl hdl1 hdl ok1 ok2 hnow hnb
  go_enter Try.func19, Try.ntmps19
  go_wp2_with fail
  refine (off_any h (i : Int) 0 (by rw [if_pos (by omega)])).mono ?_
  rintro e w' ⟨rfl, rfl⟩
  go_wp2_with (refine wpList_copy_mid _ rfl _ _ 22 22 rfl 5 iu Try.underlying22 hiu hzu1 sb (i * 129) 64 64 rfl _ m.length (bcs m) rfl hsrc hm hth ?_)
  go_ret
  exact ⟨rfl, HF.out, HK.out⟩

theorem Read_out {w : World} {b sb : Nat} {l : List Sec} {c : Nat} (h : IsDev w b sb l c) (i : Int) (hi : i < 0 ∨ (l.length : Int) ≤ i) :
    Calls Try.prog 18 #[.pointer (some ⟨b, 0, none⟩), .int .i64 i] w fun e w' => e = .returned (.tuple #[.slice none 0 0, .int .i64 4]) ∧ w = w' := by
  go_enter Try.func18, Try.ntmps18
  go_wp2_with fail
  refine (off_any h i 4 (by rw [if_neg (by omega)])).mono ?_
  rintro e w' ⟨rfl, rfl⟩
  go_wp2_with fail
  go_ret2
  exact ⟨rfl, rfl⟩
theorem Write_out {w : World} {b sb : Nat} {l : List Sec} {c : Nat} (h : IsDev w b sb l c) (i : Int) (v : Value) (hi : i < 0 ∨ (l.length : Int) ≤ i) :
    Calls Try.prog 19 #[.pointer (some ⟨b, 0, none⟩), .int .i64 i, v] w fun e w' => e = .returned (.int .i64 4) ∧ w = w' := by
  go_enter Try.func19, Try.ntmps19
  go_wp2_with fail
  refine (off_any h i 4 (by rw [if_neg (by omega)])).mono ?_
  rintro e w' ⟨rfl, rfl⟩
  go_wp2_with fail
  go_ret
  exact ⟨rfl, rfl⟩
theorem Write_long {w : World} {b sb : Nat} {l : List Sec} {c : Nat} (h : IsDev w b sb l c) (i : Int) (a : Option Addr) (n cap : Nat) (h0 : 0 ≤ i) (h1 : i < l.length) (hn : 64 < n) :
    Calls Try.prog 19 #[.pointer (some ⟨b, 0, none⟩), .int .i64 i, .slice a n cap] w fun e w' => e = .returned (.int .i64 1) ∧ w = w' := by
  have q1 : (64 : Int) < n := by omega
  go_enter Try.func19, Try.ntmps19
  go_wp2_with fail
  refine (off_any h i 0 (by rw [if_pos (by omega)])).mono ?_
  rintro e w' ⟨rfl, rfl⟩
  go_wp2_with fail
  go_ret
  exact ⟨rfl, rfl⟩

def flushSec (s : Sec) : Sec := ⟨s.now, s.now, false⟩
def flushN (l : List Sec) (k : Nat) : List Sec := (l.take k).map flushSec ++ l.drop k
theorem flushN_zero (l : List Sec) : flushN l 0 = l := by simp [flushN]
theorem flushN_all (l : List Sec) : flushN l l.length = l.map flushSec := by simp [flushN]
theorem flushN_length (l : List Sec) (k : Nat) (h : k ≤ l.length) : (flushN l k).length = l.length := by simp [flushN]; omega
theorem flushN_at (l : List Sec) (k : Nat) (s : Sec) (h : l[k]? = some s) : (flushN l k)[k]? = some s := by
  have hlt : k < l.length := (List.getElem?_eq_some_iff.1 h).1
  unfold flushN
  rw [List.getElem?_append_right (by simp; omega)]
  simp only [List.length_map, List.length_take, Nat.min_eq_left (Nat.le_of_lt hlt), Nat.sub_self, List.getElem?_drop, Nat.add_zero]
  exact h
theorem flushN_succ (l : List Sec) (k : Nat) (s : Sec) (h : l[k]? = some s) : flushN l (k + 1) = (flushN l k).set k (flushSec s) := by
  have hlt : k < l.length := (List.getElem?_eq_some_iff.1 h).1
  have e := (List.getElem?_eq_some_iff.1 h).2
  unfold flushN
  rw [List.take_succ_eq_append_getElem hlt, List.map_append, e, List.drop_eq_getElem_cons hlt]
  have hl : (List.map flushSec (List.take k l)).length = k := by simp; omega
  rw [List.set_append, if_neg (by omega), hl, Nat.sub_self, List.set_cons_zero, List.append_assoc]
  rfl
theorem flushN_ok (l : List Sec) (h : ∀ s ∈ l, s.ok) (k : Nat) : ∀ s ∈ flushN l k, s.ok := by
  intro s hs
  rcases List.mem_append.1 hs with hs | hs
  · obtain ⟨t, ht, rfl⟩ := List.mem_map.1 hs
    have := h t (List.mem_of_mem_take ht)
    exact ⟨this.1, this.1, this.2.2.1, this.2.2.1⟩
  · exact h s (List.mem_of_mem_drop hs)
end Go.Proofs.Ytnnaleoigiaboaa
