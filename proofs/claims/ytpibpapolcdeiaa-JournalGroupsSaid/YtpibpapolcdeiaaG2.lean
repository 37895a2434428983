/- Dev, DevFlush, LooseN, DevCrash, Super, SuperW, Sl1, Sl2, Sl3 -/
import Derived.Test.YtpibpapolcdeiaaG1
import Derived.Deep.RegionHeld3
import Derived.Deep.LoopGhost
import Derived.WalkSpells
import Derived.Deep.DeepCutAuto
import Derived.Deep.CutBlock
import Derived.Deep.RegionWith
import Derived.StillTailTactics
import Derived.BigQuiet
/- The contracts of package dev. -/
namespace Go.Proofs.Ytpibpapolcdeiaa
open Go.ChangeShapes Go.WideShapes Go.ChangeAt Go.RowKit
set_option linter.unusedVariables false
set_option linter.unusedSimpArgs false
set_option maxRecDepth 100000

def zeroSec : Sec := ⟨List.replicate 64 0, List.replicate 64 0, false⟩
theorem zeroSec_ok : zeroSec.ok := by refine ⟨rfl, rfl, ?_, ?_⟩ <;> (intro c hc; simp [zeroSec] at hc; omega)
theorem Try.infoSec : (Try.prog.info? 70).map (fun i => (i.zero, i.size, i.bytes)) = some (some (.agg (secCells zeroSec).toArray), 129, 129) := by kernel_rfl
theorem zeros_dev (n : Nat) : (List.replicate n (secCells zeroSec)).flatten = devCells (List.replicate n zeroSec) := by simp [devCells]

/-- Block b is a device, its sectors in block sb. -/
structure IsDev (w : World) (b sb : Nat) (l : List Sec) (calls : Nat) : Prop where
  dev : Blk w b [.slice (some ⟨sb, 0, none⟩) l.length l.length, .int .i64 calls] 47
  secs : Blk w sb (devCells l) 70
  ne : b ≠ sb
  ok : ∀ s ∈ l, s.ok
  pos : 0 < l.length
  max : l.length ≤ 2048
  few : calls ≤ 1099511627776
theorem IsDev.keep {S : List Nat} {w w' : World} {b sb : Nat} {l : List Sec} {c : Nat} (h : IsDev w b sb l c) (k : Keep S w w') (h1 : b ∉ S) (h2 : sb ∉ S) : IsDev w' b sb l c :=
  ⟨h.dev.keep k h1, h.secs.keep k h2, h.ne, h.ok, h.pos, h.max, h.few⟩

theorem New_any {w : World} (n : Int) (k : Nat) (hk : (k : Int) = min (max n 1) 2048) :
    Calls Try.prog 8 #[.int .i64 n] w fun e w' => ∃ b sb, e = .returned (.pointer (some ⟨b, 0, none⟩)) ∧ IsDev w' b sb (List.replicate k zeroSec) 0 ∧ Keep [] w w' ∧ w.heap.size ≤ b ∧ w.heap.size ≤ sb := by
  obtain ⟨i0, hi, hz0, hz1, hz2⟩ := info_parts Try.infoSec
  have hk1 : 0 < k := by omega
  have hk2 : k ≤ 2048 := by omega
  have hlen : (Value.agg (secCells zeroSec).toArray).cells.size = 129 := by
    show (secCells zeroSec).toArray.size = 129
    rw [List.size_toArray, secCells_length zeroSec_ok]
  have hcase : n < 1 ∨ (1 ≤ n ∧ n ≤ 2048) ∨ 2048 < n := by omega
  rcases hcase with h | ⟨h, h'⟩ | h
  all_goals
    go_enter Try.func8, Try.ntmps8
    go_wp2_with (at_make; refine wpList_make_n _ rfl _ _ 45 rfl 70 i0 _ Try.underlying45 hi hz0 (by rw [hz1, hlen]) (by rw [hlen]; decide) _ k rfl rfl (by omega) (by rw [hz2]; omega) (by omega) ?_)
    go_ret
    refine ⟨w.heap.size + 1, w.heap.size, rfl, ⟨?_, ?_, by omega, ?_, by simpa using hk1, by simpa using hk2, by omega⟩, ((Keep.refl _ _).alloc _).alloc _, by omega, Nat.le_refl _⟩
    · rw [List.length_replicate]
      exact Blk.new' _ _ _ _ (by simp)
    · rw [← zeros_dev]
      exact (Blk.new _ _ _).alloc _
    · intro s hs
      rw [List.eq_of_mem_replicate hs]
      exact zeroSec_ok

theorem off_any {w : World} {b sb : Nat} {l : List Sec} {c : Nat} (h : IsDev w b sb l c) (i : Int) (r : Int) (hr : r = if 0 ≤ i ∧ i < l.length then 0 else 4) :
    Calls Try.prog 51 #[.pointer (some ⟨b, 0, none⟩), .int .i64 i] w fun e w' => e = .returned (.int .i64 r) ∧ w = w' := by
  have g0 := h.dev.cell 0
  simp only [List.getElem?_cons_zero] at g0
  have hm := h.max
  have HR := Lib.hid hr
  clear hr
  by_cases h1 : i < 0
  · go_enter Try.func51, Try.ntmps51
    go_wp2
    go_ret
    exact ⟨by rw [HR.out, if_neg (by omega)]; rfl, rfl⟩
  · by_cases h2 : (l.length : Int) ≤ i
    · go_enter Try.func51, Try.ntmps51
      go_wp2
      go_ret
      exact ⟨by rw [HR.out, if_neg (by omega)]; rfl, rfl⟩
    · have h3 : i < l.length := by omega
      go_enter Try.func51, Try.ntmps51
      go_wp2
      go_ret
      exact ⟨by rw [HR.out, if_pos (by omega)]; rfl, rfl⟩

theorem Len_any {w : World} {b sb : Nat} {l : List Sec} {c : Nat} (h : IsDev w b sb l c) :
    Calls Try.prog 27 #[.pointer (some ⟨b, 0, none⟩)] w fun e w' => e = .returned (.int .i64 (l.length : Int)) ∧ w = w' := by
  have g0 := h.dev.cell 0
  simp only [List.getElem?_cons_zero] at g0
  go_enter Try.func27, Try.ntmps27
  go_wp2
  go_ret
  exact ⟨rfl, rfl⟩
/-- bytes.Clone of a slice that is not nil. -/
theorem Clone_some {w : World} (ad : Addr) (cap : Nat) (l : List Nat) (h : Rd w (.slice (some ad) l.length cap) l) (hl : l.length ≤ 1099511627776) :
    Calls Try.prog 33 #[.slice (some ad) l.length cap] w fun e w' => ∃ v', e = .returned v' ∧ Buf w' w.heap.size 5 v' l ∧ Keep [] w w' ∧ v' ≠ .slice none 0 0 := by
  obtain ⟨i8, hi8, hz80, hz81, hz82⟩ := info_parts Try.info8
  have hsrc := Rd.src (h.alloc (.cells #[] 5)) Try.underlying30
  have hown : Buf (w.alloc (.cells #[] 5)) w.heap.size 5 (.slice (some ⟨w.heap.size, 0, none⟩) 0 0) [] :=
    World.ownsRow_made w #[] 0 (Nat.le_refl _) (by unfold maxLen; omega) rfl
  have heq := fun W => Lib.run_eql_slice_nil (P := Try.prog) W 30 5 (some ad) l.length cap 0 0 Try.underlying30
  go_enter Try.func33, Try.ntmps33
  go_wp2_with (at_builtin; refine wpList_append_src _ rfl _ _ 30 30 rfl w.heap.size 5 i8 (.int .u8 0) 1 1 Try.underlying30 hi8 hz80 hz81 hz82 rfl (by decide) _ 0 [] rfl hown _ _ _ rfl hsrc (by unfold maxLen; omega) (by omega) (by simp) ?_; intro v1 w1 h1 h2 h4 h3)
  go_ret
  refine ⟨v1, rfl, ?_, ((Keep.refl _ _).alloc _).then (Keep.grown h2) ?_, ?_⟩
  · unfold Buf; simpa using h1
  · intro x hx hlt
    have e : (Value.slice (some ⟨w.heap.size, 0, none⟩) 0 0).ownBlock = some x := Option.mem_toList.1 hx
    have e2 : w.heap.size = x := Option.some.inj e
    omega
  · intro e
    have := (h4.1 e).1
    cases this

theorem sec_mem {l : List Sec} {i : Nat} (h : i < l.length) : ∃ s, l[i]? = some s ∧ s ∈ l := ⟨l[i], List.getElem?_eq_getElem h, List.getElem_mem h⟩

/-- Read of a sector that is there. -/
theorem Read_in {w : World} {b sb : Nat} {l : List Sec} {c : Nat} (h : IsDev w b sb l c) (i : Nat) (s : Sec) (hs : l[i]? = some s) :
    Calls Try.prog 41 #[.pointer (some ⟨b, 0, none⟩), .int .i64 (i : Int)] w fun e w' => ∃ v', e = .returned (.tuple #[v', .int .i64 0]) ∧ Buf w' w.heap.size 5 v' s.now ∧ Keep [] w w' := by
  have hi : i < l.length := (List.getElem?_eq_some_iff.1 hs).1
  have hok : s.ok := h.ok s (List.mem_of_getElem? hs)
  have g0 := h.dev.cell 0
  simp only [List.getElem?_cons_zero] at g0
  have hm := h.max
  have q0 : (i : Int) < l.length := by omega
  have hl64 := hok.1
  have hrd : Rd w (.slice (some ⟨sb, i * 129, none⟩) 64 64) s.now := by
    refine ⟨by simp, _, 64, by rw [hl64], by omega, fun _ => ⟨sb, i * 129, rfl, h.secs.lt, fun j hj => ?_⟩⟩
    rw [bcs_length, hl64] at hj
    have hr := h.secs.range (i * 129) 64
    have e := devCells_range h.ok i s hs 0 64 (by omega)
    rw [Nat.add_zero] at e
    rw [e] at hr
    have e2 : ((secCells s).drop 0).take 64 = bcs s.now := by
      unfold secCells
      rw [List.drop_zero, List.take_append_of_le_length (by simp; omega), List.take_of_length_le (by simp; omega)]
    rw [e2] at hr
    have hj2 : (bcs s.now)[j]? = some (bc (s.now.getD j 0)) := bcs_at s.now j (by omega)
    rw [hr j _ hj2, hj2]
  have hb64 : s.now.length ≤ 1099511627776 := by omega
  go_enter Try.func41, Try.ntmps41
  go_wp2_with fail
  refine (off_any h (i : Int) 0 (by rw [if_pos (by omega)])).mono ?_
  rintro e w' ⟨rfl, rfl⟩
  go_wp2_with fail
  have hcl := Clone_some (w := w) ⟨sb, i * 129, none⟩ 64 s.now (by rw [hl64]; exact hrd) hb64
  rw [hl64] at hcl
  refine hcl.mono ?_
  rintro e w1 ⟨v1, rfl, hb1, hk1, _⟩
  go_wp2_with fail
  go_ret2
  exact ⟨v1, rfl, hb1, hk1⟩

theorem set_over {α : Type} (l : List α) (j : Nat) (v : α) (h : j < l.length) : l.set j v = over l j [v] := by
  unfold over
  rw [List.set_eq_take_append_cons_drop, if_pos h]
  simp

theorem over_loose (nw : List Nat) (hn : nw.length = 64) {ls : List Nat} (hl : ls.length = 64) (a c : Bool) : over (secCells ⟨nw, ls, a⟩) 128 [.bool c] = secCells ⟨nw, ls, c⟩ := by
  have e : ∀ d, secCells ⟨nw, ls, d⟩ = (bcs nw ++ bcs ls) ++ [.bool d] := fun d => by simp [secCells]
  have hL : (bcs nw ++ bcs ls).length = 128 := by simp [hn, hl]
  rw [e, e]
  unfold over
  rw [List.take_append_of_le_length (by omega), List.take_of_length_le (by omega), List.drop_of_length_le (by rw [List.length_append, hL]; simp)]
  simp

/-- Write of a sector that is there, of no more than 64 bytes. -/
theorem Write_in {w : World} {b sb : Nat} {l : List Sec} {c : Nat} (h : IsDev w b sb l c) (i : Nat) (s : Sec) (hs : l[i]? = some s) (v : Value) (m : List Nat) (hv : Rd w v m) (hm : m.length ≤ 64) (hmb : ∀ x ∈ m, x < 256) (hc : c < 1099511627776) :
    Calls Try.prog 49 #[.pointer (some ⟨b, 0, none⟩), .int .i64 (i : Int), v] w fun e w' => e = .returned (.int .i64 0) ∧ IsDev w' b sb (l.set i ⟨over s.now 0 m, s.lasts, true⟩) (c + 1) ∧ Keep [b, sb] w w' := by
  have hi : i < l.length := (List.getElem?_eq_some_iff.1 hs).1
  have hok : s.ok := h.ok s (List.mem_of_getElem? hs)
  have hmx := h.max
  have hdl := devCells_length h.ok
  obtain ⟨iu, hiu, hzu0, hzu1, hzu2⟩ := info_parts Try.info8
  have hnow : (over s.now 0 m).length = 64 := by rw [over_length _ _ _ (by have := hok.1; omega)]; exact hok.1
  have hnb : ∀ x ∈ over s.now 0 m, x < 256 := by
    intro x hx
    unfold over at hx
    simp only [List.take_zero, List.nil_append, List.mem_append] at hx
    rcases hx with hx | hx
    · exact hmb x hx
    · exact hok.2.2.1 x (List.mem_of_mem_drop hx)
  have ok1 : (⟨over s.now 0 m, s.lasts, s.loose⟩ : Sec).ok := ⟨hnow, hok.2.1, hnb, hok.2.2.2⟩
  have ok2 : (⟨over s.now 0 m, s.lasts, true⟩ : Sec).ok := ⟨hnow, hok.2.1, hnb, hok.2.2.2⟩
  have hov1 : over (secCells s) 0 (bcs m) = secCells ⟨over s.now 0 m, s.lasts, s.loose⟩ := by
    unfold secCells over
    simp only [List.take_zero, List.nil_append, bcs_length, Nat.zero_add, bcs_append]
    rw [List.drop_append_of_le_length (by simp; have := hok.1; omega)]
    simp [bcs, List.map_drop]
  have e1 := devCells_over h.ok i s _ hs ok1 0 (bcs m) (by simp; omega) hov1
  rw [Nat.add_zero] at e1
  have hB1 := h.secs.setCells (bcs m) (i * 129) w _ (by simp; omega)
  rw [e1] at hB1
  have hK1 : Keep [sb] w (w.setCells sb (i * 129) (bcs m)) := Keep.setCells _ _ _ _ (Keep.refl _ _) (.inl (by simp))
  have hD1 := h.dev.keep hK1 (by simpa using h.ne)
  have hs1 : (l.set i ⟨over s.now 0 m, s.lasts, s.loose⟩)[i]? = some ⟨over s.now 0 m, s.lasts, s.loose⟩ := by simp [hi]
  have hokl := mem_set_ok h.ok i _ ok1
  have hdl1 := devCells_length hokl
  rw [List.length_set] at hdl1
  have e2 := devCells_over hokl i _ _ hs1 ok2 128 [.bool true] (by simp) (over_loose _ hnow hok.2.1 _ _)
  rw [List.set_set, ← set_over _ _ _ (by omega)] at e2
  have r2 := devCells_range hokl i _ hs1 128 1 (by omega)
  have hlo : (devCells (l.set i ⟨over s.now 0 m, s.lasts, s.loose⟩))[i * 129 + 128]? = some (.bool s.loose) := by
    have h3 := congrArg (fun x : List Value => x[0]?) r2
    simp only [List.getElem?_take, List.getElem?_drop, Nat.zero_lt_one, if_true, Nat.add_zero] at h3
    rw [h3]
    unfold secCells
    rw [List.getElem?_append_right (by simp; omega), List.getElem?_append_right (by simp; have := hok.2.1; omega)]
    have h1 := hok.2.1
    simp [hnow, h1]
  have f0 := hD1.cell 0
  have f1 := hD1.cell 1
  have f2 := hD1.free 1
  have f3 := hB1.cell (i * 129 + 128)
  have f4 := hB1.free (i * 129 + 128)
  rw [hlo] at f3
  simp only [List.getElem?_cons_zero, List.getElem?_cons_succ] at f0 f1
  have g0 := h.dev.cell 0
  simp only [List.getElem?_cons_zero] at g0
  have q0 : (i : Int) < l.length := by omega
  have hne := h.ne
  have hth := h.secs.there (i * 129) m.length (by omega)
  have hsrc := Rd.src hv Try.underlying30
  have hfin : IsDev (((w.setCells sb (i * 129) (bcs m)).setCell ⟨sb, i * 129 + 128, none⟩ (.bool true)).setCell ⟨b, 1, none⟩ (.int .i64 ((c + 1 : Nat) : Int))) b sb (l.set i ⟨over s.now 0 m, s.lasts, true⟩) (c + 1) := by
    refine ⟨?_, ?_, hne, mem_set_ok h.ok i _ ok2, by simpa using h.pos, by simpa using h.max, by omega⟩
    · rw [List.length_set]
      exact (hD1.other (by simpa using hne) _).set 1 _
    · rw [← e2]
      exact (hB1.set _ _).other (by simpa using hne.symm) _
  have hkf : Keep [b, sb] w (((w.setCells sb (i * 129) (bcs m)).setCell ⟨sb, i * 129 + 128, none⟩ (.bool true)).setCell ⟨b, 1, none⟩ (.int .i64 ((c + 1 : Nat) : Int))) :=
    ((hK1.mono (by simp)).setCell (by simp) _).setCell (by simp) _
  have HF := Lib.hid hfin
  have HK := Lib.hid hkf
  obtain ⟨_, av, capv, rfl, _, _⟩ := id hv
  clear hfin hkf hov1 e1 e2 r2 hlo hB1 hD1 hK1 hs1 hokl hdl1 hdl ok1 ok2 hnow hnb
  go_enter Try.func49, Try.ntmps49
  go_wp2_with fail
  refine (off_any h (i : Int) 0 (by rw [if_pos (by omega)])).mono ?_
  rintro e w' ⟨rfl, rfl⟩
  go_wp2_with (refine wpList_copy_mid _ rfl _ _ 30 30 rfl 5 iu Try.underlying30 hiu hzu1 sb (i * 129) 64 64 rfl _ m.length (bcs m) rfl hsrc hm hth ?_)
  go_ret
  exact ⟨rfl, HF.out, HK.out⟩

theorem Read_out {w : World} {b sb : Nat} {l : List Sec} {c : Nat} (h : IsDev w b sb l c) (i : Int) (hi : i < 0 ∨ (l.length : Int) ≤ i) :
    Calls Try.prog 41 #[.pointer (some ⟨b, 0, none⟩), .int .i64 i] w fun e w' => e = .returned (.tuple #[.slice none 0 0, .int .i64 4]) ∧ w = w' := by
  go_enter Try.func41, Try.ntmps41
  go_wp2_with fail
  refine (off_any h i 4 (by rw [if_neg (by omega)])).mono ?_
  rintro e w' ⟨rfl, rfl⟩
  go_wp2_with fail
  go_ret2
  exact ⟨rfl, rfl⟩
theorem Write_out {w : World} {b sb : Nat} {l : List Sec} {c : Nat} (h : IsDev w b sb l c) (i : Int) (v : Value) (hi : i < 0 ∨ (l.length : Int) ≤ i) :
    Calls Try.prog 49 #[.pointer (some ⟨b, 0, none⟩), .int .i64 i, v] w fun e w' => e = .returned (.int .i64 4) ∧ w = w' := by
  go_enter Try.func49, Try.ntmps49
  go_wp2_with fail
  refine (off_any h i 4 (by rw [if_neg (by omega)])).mono ?_
  rintro e w' ⟨rfl, rfl⟩
  go_wp2_with fail
  go_ret
  exact ⟨rfl, rfl⟩
theorem Write_long {w : World} {b sb : Nat} {l : List Sec} {c : Nat} (h : IsDev w b sb l c) (i : Int) (a : Option Addr) (n cap : Nat) (h0 : 0 ≤ i) (h1 : i < l.length) (hn : 64 < n) :
    Calls Try.prog 49 #[.pointer (some ⟨b, 0, none⟩), .int .i64 i, .slice a n cap] w fun e w' => e = .returned (.int .i64 1) ∧ w = w' := by
  have q1 : (64 : Int) < n := by omega
  go_enter Try.func49, Try.ntmps49
  go_wp2_with fail
  refine (off_any h i 0 (by rw [if_pos (by omega)])).mono ?_
  rintro e w' ⟨rfl, rfl⟩
  go_wp2_with fail
  go_ret
  exact ⟨rfl, rfl⟩

def flushSec (s : Sec) : Sec := ⟨s.now, s.now, false⟩
def flushN (l : List Sec) (k : Nat) : List Sec := (l.take k).map flushSec ++ l.drop k
theorem flushN_zero (l : List Sec) : flushN l 0 = l := by simp [flushN]
theorem flushN_all (l : List Sec) : flushN l l.length = l.map flushSec := by simp [flushN]
theorem flushN_length (l : List Sec) (k : Nat) (h : k ≤ l.length) : (flushN l k).length = l.length := by simp [flushN]; omega
theorem flushN_at (l : List Sec) (k : Nat) (s : Sec) (h : l[k]? = some s) : (flushN l k)[k]? = some s := by
  have hlt : k < l.length := (List.getElem?_eq_some_iff.1 h).1
  unfold flushN
  rw [List.getElem?_append_right (by simp; omega)]
  simp only [List.length_map, List.length_take, Nat.min_eq_left (Nat.le_of_lt hlt), Nat.sub_self, List.getElem?_drop, Nat.add_zero]
  exact h
theorem flushN_succ (l : List Sec) (k : Nat) (s : Sec) (h : l[k]? = some s) : flushN l (k + 1) = (flushN l k).set k (flushSec s) := by
  have hlt : k < l.length := (List.getElem?_eq_some_iff.1 h).1
  have e := (List.getElem?_eq_some_iff.1 h).2
  unfold flushN
  rw [List.take_succ_eq_append_getElem hlt, List.map_append, e, List.drop_eq_getElem_cons hlt]
  have hl : (List.map flushSec (List.take k l)).length = k := by simp; omega
  rw [List.set_append, if_neg (by omega), hl, Nat.sub_self, List.set_cons_zero, List.append_assoc]
  rfl
theorem flushN_ok (l : List Sec) (h : ∀ s ∈ l, s.ok) (k : Nat) : ∀ s ∈ flushN l k, s.ok := by
  intro s hs
  rcases List.mem_append.1 hs with hs | hs
  · obtain ⟨t, ht, rfl⟩ := List.mem_map.1 hs
    have := h t (List.mem_of_mem_take ht)
    exact ⟨this.1, this.1, this.2.2.1, this.2.2.1⟩
  · exact h s (List.mem_of_mem_drop hs)
end Go.Proofs.Ytpibpapolcdeiaa
/- The contract of dev.Flush. -/
namespace Go.Proofs.Ytpibpapolcdeiaa
open Go.ChangeShapes Go.WideShapes Go.ChangeAt Go.RowKit
set_option linter.unusedVariables false
set_option linter.unusedSimpArgs false
set_option maxRecDepth 100000

theorem Try.size64 : (Try.prog.info? 68).map (·.size) = some 64 := by kernel_rfl

def FlushS (b sb k : Nat) (v : Value) (cs : List Value) (W : World) : Prop :=
  W.cell? ⟨b, 0, none⟩ = some v ∧ W.rangeAt sb (k * 129) cs ∧ W.there sb (k * 129 + 64) cs.length ∧ W.frozen? ⟨sb, k * 129 + 128, none⟩ = false ∧ ∃ u, W.cell? ⟨sb, k * 129 + 128, none⟩ = some (.bool u)
theorem flush_keep1 {W : World} {b sb k : Nat} {v : Value} {cs : List Value} (hne : b ≠ sb) (hl : cs.length = 64) (h : FlushS b sb k v cs W) : FlushS b sb k v cs (W.setCells sb (k * 129 + 64) cs) := by
  obtain ⟨h1, h2, h3, h4, u, h5⟩ := h
  refine ⟨by rw [World.cell?_setCells_out _ _ _ _ _ (fun e _ => absurd e hne)]; exact h1, World.rangeAt_setCells_apart h2 _ _ _ (.inr (.inl (by omega))), World.there_setCells h3 _ _ _, by rw [World.frozen?_setCells]; exact h4, u, ?_⟩
  rw [World.cell?_setCells_out _ _ _ _ _ (fun _ _ => .inr (by simp; omega))]
  exact h5
theorem flush_keep2 {W : World} {b sb k : Nat} {v : Value} {cs : List Value} (hne : b ≠ sb) (hl : cs.length = 64) (h : FlushS b sb k v cs W) (x : Bool) : FlushS b sb k v cs (W.setCell ⟨sb, k * 129 + 128, none⟩ (.bool x)) := by
  obtain ⟨h1, h2, h3, h4, u, h5⟩ := h
  have e : W.setCell ⟨sb, k * 129 + 128, none⟩ (.bool x) = W.setCells sb (k * 129 + 128) [.bool x] := rfl
  rw [e]
  refine ⟨by rw [World.cell?_setCells_out _ _ _ _ _ (fun e _ => absurd e hne)]; exact h1, World.rangeAt_setCells_apart h2 _ _ _ (.inr (.inl (by omega))), World.there_setCells h3 _ _ _, by rw [World.frozen?_setCells]; exact h4, x, ?_⟩
  exact World.cell?_setCell_same _ _ _ h5
theorem over_lasts (nw ls : List Nat) (a : Bool) (hn : nw.length = 64) (hl : ls.length = 64) : over (secCells ⟨nw, ls, a⟩) 64 (bcs nw) = secCells ⟨nw, nw, a⟩ := by
  have h1 : (bcs nw).length = 64 := by rw [bcs_length, hn]
  have h2 : (bcs nw ++ bcs ls).length = 64 + (bcs nw).length := by rw [List.length_append, bcs_length ls, hl]; omega
  unfold secCells over
  show List.take 64 (bcs nw ++ (bcs ls ++ [Value.bool a])) ++ (bcs nw ++ List.drop (64 + (bcs nw).length) (bcs nw ++ (bcs ls ++ [Value.bool a]))) = bcs nw ++ (bcs nw ++ [Value.bool a])
  rw [List.take_left' h1, ← List.append_assoc (bcs nw) (bcs ls), List.drop_left' h2]
set_option maxHeartbeats 1000000 in
theorem Flush_any {w : World} {b sb : Nat} {l : List Sec} {c : Nat} (h : IsDev w b sb l c) (hc : c < 1099511627776) :
    Calls Try.prog 38 #[.pointer (some ⟨b, 0, none⟩)] w fun e w' => e = .returned (.int .i64 0) ∧ IsDev w' b sb (l.map flushSec) (c + 1) ∧ Keep [b, sb] w w' := by
  have g0 := h.dev.cell 0
  simp only [List.getElem?_cons_zero] at g0
  have hmx := h.max
  go_enter Try.func38, Try.ntmps38
  go_wp2_with fail
  go_loopg [11] l.length (fun g i wr => ∃ k : Nat, g = l.length - k ∧ k ≤ l.length ∧ i = .int .i64 k ∧ Blk wr sb (devCells (flushN l k)) 70 ∧ Keep [sb] w wr)
  case atStart => exact ⟨0, rfl, by omega, rfl, by rw [flushN_zero]; exact h.secs, Keep.refl _ _⟩
  case round =>
    obtain ⟨k, hg, hk, rfl, hB, hK⟩ := hrel
    have HG := Lib.hid hg
    clear hg
    have hD := h.dev.keep hK (by simpa using h.ne)
    have f0 := hD.cell 0
    simp only [List.getElem?_cons_zero] at f0
    by_cases hlt : k < l.length
    · obtain ⟨s, hs, hsm⟩ := sec_mem hlt
      have hok := h.ok s hsm
      have q0 : (k : Int) < l.length := by omega
      have hfs := flushN_at l k s hs
      have hfo := flushN_ok l h.ok k
      have hr := hB.range (k * 129) 64
      have e1 := devCells_range hfo k s hfs 0 64 (by omega)
      rw [Nat.add_zero] at e1
      rw [e1] at hr
      have e2 : ((secCells s).drop 0).take 64 = bcs s.now := by
        unfold secCells
        rw [List.drop_zero, List.take_append_of_le_length (by simp; have := hok.1; omega), List.take_of_length_le (by simp; have := hok.1; omega)]
      rw [e2] at hr
      have hdl := devCells_length hfo
      rw [flushN_length l k hk] at hdl
      have hl64 : (bcs s.now).length = 64 := by rw [bcs_length, hok.1]
      have t1 := hB.there (k * 129 + 64) (bcs s.now).length (by omega)
      have hne := h.ne
      have r2 := devCells_range hfo k s hfs 128 1 (by omega)
      have t2 : wr.cell? ⟨sb, k * 129 + 128, none⟩ = some (.bool s.loose) := by
        rw [hB.cell]
        have h3 := congrArg (fun x : List Value => x[0]?) r2
        simp only [List.getElem?_take, List.getElem?_drop, Nat.zero_lt_one, if_true, Nat.add_zero] at h3
        rw [h3]
        unfold secCells
        have h1 := hok.1
        have h2 := hok.2.1
        rw [List.getElem?_append_right (by simp; omega), List.getElem?_append_right (by simp; omega)]
        simp [h1, h2]
      have t3 := hB.free (k * 129 + 128)
      have hu := Try.underlying68
      have hi64 : (Try.prog.info? 68).map (·.size) = some (bcs s.now).length := by rw [Try.size64, bcs_length, hok.1]
      have h1c := bcs_one s.now
      have u1 : (wr.drew.setCells sb (k * 129 + 64) (bcs s.now)).cell? ⟨sb, k * 129 + 128, none⟩ = some (.bool s.loose) := by
        rw [World.cell?_setCells_out _ _ _ _ _ (fun _ _ => .inr (by have := hok.1; simp; omega))]; exact t2
      have u2 : (wr.drew.setCells sb (k * 129 + 64) (bcs s.now)).frozen? ⟨sb, k * 129 + 128, none⟩ = false := by
        rw [World.frozen?_setCells]; exact t3
      have S0 : FlushS b sb k (.slice (some ⟨sb, 0, none⟩) l.length l.length) (bcs s.now) wr.drew := ⟨f0, hr, t1, t3, _, t2⟩
      have S1 := flush_keep1 hne hl64 S0
      have S2 := flush_keep2 hne hl64 S1 false
      go_wp2_with fail
      go_region_held3 (fun w' => w'.cell? ⟨b, 0, none⟩ = some (.slice (some ⟨sb, 0, none⟩) l.length l.length) ∧ w'.rangeAt sb (k * 129) (bcs s.now) ∧ w'.there sb (k * 129 + 64) (bcs s.now).length ∧ w'.frozen? ⟨sb, k * 129 + 128, none⟩ = false ∧ ∃ u, w'.cell? ⟨sb, k * 129 + 128, none⟩ = some (.bool u)) (first | exact S0 | exact S1 | exact S2) (fail)
      go_wp2_with fail
      go_roundg (l.length - (k + 1))
      case measure => rw [HG.out]; omega
      case rel =>
        refine ⟨k + 1, rfl, by omega, by go_num, ?_, (Keep.setCells _ _ _ _ hK.drew (.inl (by simp))).setCell (.inl (by simp)) _⟩
        have ok1 : (⟨s.now, s.now, s.loose⟩ : Sec).ok := ⟨hok.1, hok.1, hok.2.2.1, hok.2.2.1⟩
        have ok2 : (flushSec s).ok := ⟨hok.1, hok.1, hok.2.2.1, hok.2.2.1⟩
        have ov : over (secCells s) 64 (bcs s.now) = secCells ⟨s.now, s.now, s.loose⟩ := over_lasts s.now s.lasts s.loose hok.1 hok.2.1
        have e3 := devCells_over hfo k s _ hfs ok1 64 (bcs s.now) (by omega) ov
        have hs1 : ((flushN l k).set k ⟨s.now, s.now, s.loose⟩)[k]? = some ⟨s.now, s.now, s.loose⟩ := by
          rw [List.getElem?_set]; simp [flushN_length l k hk, hlt]
        have hfo2 := mem_set_ok hfo k _ ok1
        have e4 := devCells_over hfo2 k _ (flushSec s) hs1 ok2 128 [.bool false] (by simp) (over_loose _ hok.1 hok.1 _ _)
        have hdl2 := devCells_length hfo2
        rw [List.length_set, flushN_length l k hk] at hdl2
        rw [List.set_set, ← flushN_succ l k s hs, ← set_over _ _ _ (by omega)] at e4
        have hB1 := (hB.drew).setCells (bcs s.now) (k * 129 + 64) wr.drew _ (by omega)
        rw [e3] at hB1
        rw [← e4]
        exact hB1.set _ _
    · obtain rfl : k = l.length := by omega
      rw [flushN_all] at hB
      have f1 := hD.cell 1
      have f2 := hD.free 1
      simp only [List.getElem?_cons_succ, List.getElem?_cons_zero] at f1
      have hne := h.ne
      have hfl : ∀ s ∈ l.map flushSec, s.ok := by
        intro s hs
        obtain ⟨t, ht, rfl⟩ := List.mem_map.1 hs
        have := h.ok t ht
        exact ⟨this.1, this.1, this.2.2.1, this.2.2.1⟩
      go_wp2_with fail
      go_ret
      refine ⟨rfl, ⟨?_, hB.other (by simpa using hne.symm) _, hne, hfl, by simpa using h.pos, by simpa using h.max, by omega⟩, (hK.mono (by simp)).setCell (by simp) _⟩
      rw [List.length_map]
      exact hD.set 1 _
end Go.Proofs.Ytpibpapolcdeiaa
/- The places of loose sectors. -/
namespace Go.Proofs.Ytpibpapolcdeiaa
open Go.ChangeShapes Go.WideShapes Go.ChangeAt Go.RowKit
set_option linter.unusedVariables false
set_option linter.unusedSimpArgs false
set_option maxRecDepth 100000

theorem IsDev.loose {w : World} {b sb : Nat} {l : List Sec} {c : Nat} (h : IsDev w b sb l c) (k : Nat) (s : Sec) (hs : l[k]? = some s) : w.cell? ⟨sb, k * 129 + 128, none⟩ = some (.bool s.loose) := by
  have hok := h.ok s (List.mem_of_getElem? hs)
  have r2 := devCells_range h.ok k s hs 128 1 (by omega)
  rw [h.secs.cell]
  have h3 := congrArg (fun x : List Value => x[0]?) r2
  simp only [List.getElem?_take, List.getElem?_drop, Nat.zero_lt_one, if_true, Nat.add_zero] at h3
  rw [h3]
  unfold secCells
  have h1 := hok.1
  have h2 := hok.2.1
  rw [List.getElem?_append_right (by simp; omega), List.getElem?_append_right (by simp; omega)]
  simp [h1, h2]

/-- The places ahead of k where the list says yes. -/
def looseN (bs : List Bool) (k : Nat) : List Int := ((List.range k).filter fun i => bs.getD i false).map fun (i : Nat) => (i : Int)
theorem looseN_succ (bs : List Bool) (k : Nat) : looseN bs (k + 1) = looseN bs k ++ if bs.getD k false then [(k : Int)] else [] := by
  unfold looseN
  rw [List.range_succ, List.filter_append, List.map_append]
  congr 1
  cases hb : bs.getD k false <;> simp only [List.filter_cons, hb, List.filter_nil] <;> rfl
theorem looseN_len (bs : List Bool) (k : Nat) : (looseN bs k).length ≤ k := by
  unfold looseN
  have := List.length_filter_le (fun i => bs.getD i false) (List.range k)
  simp at this ⊢; omega
theorem loose_new {P : Program} {t e : TypeId} (ht : P.underlying t = some (.slice e)) (w : World) (X : Int) (T : TypeId) :
    Src P 1 t (.slice (some ⟨w.heap.size, 0, none⟩) 1 1) 1 (ints [X]) (w.alloc (.cells #[.int .i64 X] T)) := by
  refine Src.ofSlice _ ht ⟨w.heap.size, 0, none⟩ 1 1 (ints [X]) rfl ?_ (ints_one _)
  intro j u hu
  match j, hu with
  | 0, hu => simp [ints] at hu; subst hu; simp [Addr.add]
  | j + 1, hu => simp [ints] at hu
end Go.Proofs.Ytpibpapolcdeiaa
/- The contract of dev.Crash. -/
namespace Go.Proofs.Ytpibpapolcdeiaa
open Go.ChangeShapes Go.WideShapes Go.ChangeAt Go.RowKit
set_option linter.unusedVariables false
set_option linter.unusedSimpArgs false
set_option maxRecDepth 100000

theorem fill_fold : ∀ (v : List Value) (k off : Nat) (cells : List Value), off + k + v.length ≤ cells.length →
    (v.zipIdx k).foldl (fun (cs : Array Value) (x : Value × Nat) => cs.setIfInBounds (off + x.2) x.1) cells.toArray = (over cells (off + k) v).toArray := by
  intro v
  induction v with
  | nil => intro k off cells _; simp [over_nil]
  | cons x v ih =>
    intro k off cells h
    simp only [List.length_cons] at h
    simp only [List.zipIdx_cons, List.foldl_cons]
    rw [List.setIfInBounds_toArray, ih (k + 1) off (cells.set (off + k) x) (by simp; omega), ← Nat.add_assoc off k 1, over_cons _ _ _ _ (by omega)]
theorem fill_one (place : Nat → Option (Nat × Nat)) (cells : List Value) (i : Nat) (v : List Value) (rest : List (Nat × Value)) (off : Nat) (hp : place i = some (off, v.length)) (hb : off + v.length ≤ cells.length) :
    Instr.fill place cells.toArray ((i, .agg v.toArray) :: rest) = Instr.fill place (over cells off v).toArray rest := by
  conv => lhs; unfold Instr.fill
  simp only [hp]
  rw [if_neg (by simp [Value.cells]; omega)]
  have h := fill_fold v 0 off cells (by omega)
  rw [Nat.add_zero] at h
  rw [← h]
  congr 1
  rw [← Array.foldl_toList]
  simp [Value.cells]
theorem over_twice (a b c d : List Value) (hc : c.length = a.length) (hd : d.length = b.length) (r : List Value) : over (over (a ++ (b ++ r)) 0 c) a.length d = c ++ (d ++ r) := by
  have e1 : over (a ++ (b ++ r)) 0 c = c ++ (b ++ r) := by
    unfold over
    rw [Nat.zero_add, hc, List.drop_left]; rfl
  rw [e1]
  unfold over
  rw [← hc, List.take_left, List.drop_append, List.drop_of_length_le (by omega), List.nil_append, show c.length + d.length - c.length = d.length by omega, hd, List.drop_left]

theorem Try.placesSec : (match Try.prog.underlying 70 with | some (.struct fs) => fs.toList.mapM (fun f => (Try.prog.info? f.type).map fun i => (f.offset, i.size)) | _ => none) = some [(0, 64), (64, 64), (128, 1)] := by kernel_rfl
theorem build_sec (x : List Nat) (hx : x.length = 64) (w : World) : (Instr.build 70 #[(0, .agg (bcs x).toArray), (1, .agg (bcs x).toArray)]).run Try.prog w = .ok (.agg (secCells ⟨x, x, false⟩).toArray) w := by
  refine run_build w _ _ _ ?_
  obtain ⟨i0, hi, hz0, hz1, hz2⟩ := info_parts Try.infoSec
  have hp := Try.placesSec
  unfold Program.built
  revert hp
  cases hu : Try.prog.underlying 70 with
  | none => intro hp; cases hp
  | some d =>
    cases d <;> try (intro hp; cases hp; done)
    case struct fs =>
      intro hp
      simp only at hp
      simp only [hi, hz0, hp, Value.cells]
      have hl : (bcs x).length = 64 := by rw [bcs_length, hx]
      have hz : (secCells zeroSec).length = 129 := secCells_length zeroSec_ok
      rw [fill_one _ _ 0 (bcs x) _ 0 (by simp [hl]) (by omega), fill_one _ _ 1 (bcs x) _ 64 (by simp [hl]) (by rw [over_length _ _ _ (by omega)]; omega)]
      have e := over_twice (bcs (List.replicate 64 0)) (bcs (List.replicate 64 0)) (bcs x) (bcs x) (by simp [hx]) (by simp [hx]) [.bool false]
      simp only [bcs_length, List.length_replicate] at e
      unfold Instr.fill
      show some (over (over (secCells zeroSec) 0 (bcs x)) 64 (bcs x)).toArray = _
      have e2 : secCells zeroSec = bcs (List.replicate 64 0) ++ (bcs (List.replicate 64 0) ++ [.bool false]) := rfl
      rw [e2, e]
      rfl

/-- What a crash leaves of sector i: keep says of the loose ones, one behind the other, whether they stay. -/
def crashNow (l : List Sec) (keep : List Bool) (i : Nat) : List Nat :=
  if (l.getD i zeroSec).loose && keep.getD (looseN (l.map Sec.loose) i).length false then (l.getD i zeroSec).now else (l.getD i zeroSec).lasts
def sec2 (x : List Nat) : Sec := ⟨x, x, false⟩
def crashN (l : List Sec) (keep : List Bool) (k : Nat) : List Sec := (List.range k).map fun i => sec2 (crashNow l keep i)
theorem crashN_succ (l : List Sec) (keep : List Bool) (k : Nat) : crashN l keep (k + 1) = crashN l keep k ++ [sec2 (crashNow l keep k)] := by
  simp [crashN, List.range_succ]
theorem crashN_step (l : List Sec) (keep : List Bool) (k n : Nat) (h : k < n) : (crashN l keep k ++ List.replicate (n - k) zeroSec).set k (sec2 (crashNow l keep k)) = crashN l keep (k + 1) ++ List.replicate (n - (k + 1)) zeroSec := by
  have hl : (crashN l keep k).length = k := by simp [crashN]
  rw [List.set_append, if_neg (by omega), hl, Nat.sub_self, show n - k = (n - (k + 1)) + 1 by omega, List.replicate_succ, List.set_cons_zero, crashN_succ, List.append_assoc]
  rfl
theorem crashNow_ok (l : List Sec) (keep : List Bool) (i : Nat) (h : ∀ s ∈ l, s.ok) : (sec2 (crashNow l keep i)).ok := by
  have hs : (l.getD i zeroSec).ok := by
    rw [List.getD_eq_getElem?_getD]
    cases hi : l[i]? with
    | none => exact zeroSec_ok
    | some s => exact h s (List.mem_of_getElem? hi)
  unfold crashNow
  split
  · exact ⟨hs.1, hs.1, hs.2.2.1, hs.2.2.1⟩
  · exact ⟨hs.2.1, hs.2.1, hs.2.2.2, hs.2.2.2⟩

theorem Try.size129 : (Try.prog.info? 70).map (·.size) = some 129 := by kernel_rfl
theorem run_zeroSec : ∀ W : World, (zeroValue 70).run Try.prog W = .ok (.agg (secCells zeroSec).toArray) W := by
  intro W
  obtain ⟨i0, hi, hz0, hz1, hz2⟩ := info_parts Try.infoSec
  simp [zeroValue, typeInfo, hi, hz0]
def z64 : List Nat := List.replicate 64 0
def zero64 : List Value := bcs (List.replicate 64 0)
theorem Try.info64u : (Try.prog.info? 68).map (fun i => (i.zero, i.size, i.bytes)) = some (some (.agg zero64.toArray), 64, 64) := by kernel_rfl
theorem run_zero64 : ∀ W : World, (zeroValue 68).run Try.prog W = .ok (.agg zero64.toArray) W := by
  intro W
  obtain ⟨i0, hi, hz0, hz1, hz2⟩ := info_parts Try.info64u
  simp [zeroValue, typeInfo, hi, hz0]
theorem secCells_one (s : Sec) : ∀ v ∈ secCells s, v.oneCell' = true := by
  intro v hv
  unfold secCells at hv
  rcases List.mem_append.1 hv with h | h
  · exact bcs_one _ v h
  · rcases List.mem_append.1 h with h | h
    · exact bcs_one _ v h
    · rw [List.mem_singleton.1 h]; rfl
theorem sec_lasts {w : World} {b : Nat} {s : Sec} {T : TypeId} (hok : s.ok) (h : Blk w b (secCells s) T) : w.rangeAt b 64 (bcs s.lasts) := by
  have hr := h.range 64 64
  have e : ((secCells s).drop 64).take 64 = bcs s.lasts := by
    unfold secCells
    rw [List.drop_left' (by rw [bcs_length, hok.1]), List.take_left' (by rw [bcs_length, hok.2.1])]
  rwa [e] at hr
theorem sec_now {w : World} {b : Nat} {s : Sec} {T : TypeId} (hok : s.ok) (h : Blk w b (secCells s) T) : w.rangeAt b 0 (bcs s.now) := by
  have hr := h.range 0 64
  have e : ((secCells s).drop 0).take 64 = bcs s.now := by
    unfold secCells
    rw [List.drop_zero, List.take_left' (by rw [bcs_length, hok.1])]
  rwa [e] at hr
theorem sec_loose {w : World} {b : Nat} {s : Sec} {T : TypeId} (hok : s.ok) (h : Blk w b (secCells s) T) : w.cell? ⟨b, 128, none⟩ = some (.bool s.loose) := by
  rw [h.cell]
  unfold secCells
  have h1 := hok.1
  have h2 := hok.2.1
  rw [List.getElem?_append_right (by simp; omega), List.getElem?_append_right (by simp; omega)]
  simp [h1, h2]
def DevS (cb csb xb k : Nat) (v : Value) (cs : List Value) (W : World) : Prop := W.cell? ⟨cb, 0, none⟩ = some v ∧ W.rangeAt xb 0 cs ∧ W.there csb (k * 129) 129
set_option maxRecDepth 100000 in
set_option maxHeartbeats 1000000 in
theorem Crash_any {w : World} {b sb : Nat} {l : List Sec} {c : Nat} (h : IsDev w b sb l c) (kv : Value) (keep : List Bool) (hkeep : Rv w 1 kv keep.length (bools keep)) (hkl : keep.length ≤ 9223372036854775807) :
    Calls Try.prog 11 #[.pointer (some ⟨b, 0, none⟩), kv] w fun e w' => ∃ b' sb', e = .returned (.pointer (some ⟨b', 0, none⟩)) ∧ IsDev w' b' sb' (crashN l keep l.length) 0 ∧ Keep [] w w' ∧ w.heap.size ≤ b' ∧ w.heap.size ≤ sb' := by
  have g0 := h.dev.cell 0
  simp only [List.getElem?_cons_zero] at g0
  have hmx := h.max
  have hps := h.pos
  go_enter Try.func11, Try.ntmps11
  go_wp2_with fail
  refine (New_any (l.length : Int) l.length (by omega)).mono ?_
  rintro e w1 ⟨cb, csb, rfl, hC, hK1, hb1, hsb1⟩
  have hD1 := h.keep hK1 (by simp) (by simp)
  have g1 := hD1.dev.cell 0
  simp only [List.getElem?_cons_zero] at g1
  go_wp2_with fail
  go_loopg [6, 23] l.length (fun g j i wr => ∃ k : Nat, g = l.length - k ∧ k ≤ l.length ∧ i = .int .i64 k ∧ j = .int .i64 ((looseN (l.map Sec.loose) k).length : Int) ∧ IsDev wr cb csb (crashN l keep k ++ List.replicate (l.length - k) zeroSec) 0 ∧ Keep [] w wr)
  case atStart => exact ⟨0, rfl, by omega, rfl, rfl, by simpa [crashN] using hC, hK1⟩
  case round =>
    obtain ⟨k, hg, hk, rfl, rfl, hC, hK⟩ := hrel
    have HG := Lib.hid hg
    clear hg
    have hD := h.keep hK (by simp) (by simp)
    have f0 := hC.dev.cell 0
    simp only [List.getElem?_cons_zero] at f0
    have hcl : (crashN l keep k ++ List.replicate (l.length - k) zeroSec).length = l.length := by simp [crashN]; omega
    rw [hcl] at f0
    by_cases hlt : k < l.length
    · obtain ⟨s, hs, hsm⟩ := sec_mem hlt
      have hok := h.ok s hsm
      have q0 : (k : Int) < l.length := by omega
      have hr1 := hD.secs.range (k * 129) 129
      have e1 := devCells_range h.ok k s hs 0 129 (by omega)
      have hl129 := secCells_length hok
      rw [Nat.add_zero] at e1
      rw [e1, List.drop_zero, List.take_of_length_le (Nat.le_of_eq hl129)] at hr1
      have hi79 : (Try.prog.info? 70).map (·.size) = some (secCells s).length := by rw [Try.size129, hl129]
      have hi77 : (Try.prog.info? 68).map (·.size) = some (bcs s.lasts).length := by rw [Try.size64, bcs_length, hok.2.1]
      have hi77n : (Try.prog.info? 68).map (·.size) = some (bcs s.now).length := by rw [Try.size64, bcs_length, hok.1]
      have hz79 : ∀ W : World, (zeroValue 70).run Try.prog W = .ok (.agg (secCells zeroSec).toArray) W := run_zeroSec
      have hz77 : ∀ W : World, (zeroValue 68).run Try.prog W = .ok (.agg zero64.toArray) W := run_zero64
      have hll : (secCells zeroSec).length = (secCells s).length := by rw [hl129, secCells_length zeroSec_ok]
      have hl64 : zero64.length = (bcs s.lasts).length := by rw [bcs_length, hok.2.1]; rfl
      have hln : (bcs s.lasts).length = (bcs s.now).length := by rw [bcs_length, bcs_length, hok.1, hok.2.1]
      have HU := Lib.hid Try.underlying70
      have HU77 := Lib.hid Try.underlying68
      have HI := Lib.hid hi79
      have HI77 := Lib.hid hi77
      have HI77n := Lib.hid hi77n
      have HR := Lib.hid hr1
      have HLL := Lib.hid hll
      have HL64 := Lib.hid hl64
      have HLN := Lib.hid hln
      have h1s := Lib.hid (secCells_one s)
      have h1l := Lib.hid (bcs_one s.lasts)
      have h1n := Lib.hid (bcs_one s.now)
      have hcn : looseN (l.map Sec.loose) (k + 1) = looseN (l.map Sec.loose) k ++ if s.loose then [(k : Int)] else [] := by
        rw [looseN_succ]; simp [List.getD_eq_getElem?_getD, hs]
      have hcw : crashNow l keep k = if s.loose && keep.getD (looseN (l.map Sec.loose) k).length false then s.now else s.lasts := by
        unfold crashNow; simp [List.getD_eq_getElem?_getD, hs]
      have HCN := Lib.hid hcn
      have HCW := Lib.hid hcw
      clear hr1 hi79 hi77 e1 hl129 hll hl64 hi77n hln hcn hcw
      have hcs := hC.secs.lt
      have hcb := hC.dev.lt
      have hcnt := looseN_len (l.map Sec.loose) k
      go_upto_if 31 with (first
        | (refine wpList_load_mid rfl 70 _ rfl sb (k * 129) rfl (secCells s) _ HR.out HU.out rfl HI.out ?_)
        | (refine wpList_store_blk rfl 70 _ _ rfl wr.heap.size (secCells zeroSec) (secCells s) 70 rfl rfl (Blk.new _ _ _) HLL.out HI.out h1s.out ?_; intro w2 hB2 hK2; have hK2' := ((Keep.refl [] wr).alloc _).then hK2 (by simp); have HR2 := Lib.hid (sec_lasts hok hB2))
        | (refine wpList_load_mid rfl 68 _ rfl wr.heap.size 64 rfl (bcs s.lasts) _ HR2.out HU77.out rfl HI77.out ?_)
        | (refine wpList_store_blk rfl 68 _ _ rfl w2.heap.size zero64 (bcs s.lasts) 68 rfl rfl (Blk.new _ _ _) HL64.out HI77.out h1l.out ?_; intro w3 hB3 hK3; have hlt2 := hB2.lt; have hK3' := ((Keep.refl [] w2).alloc _).then hK3 (by simp); have hB23 := hB2.keep hK3' (by simp); have g9 := sec_loose hok hB23))
      go_cut [6, 9] (fun s6 s9 wx => ∃ xb : Nat, s9 = .pointer (some ⟨xb, 0, none⟩) ∧ Blk wx xb (bcs (crashNow l keep k)) 68 ∧ Keep [] wr wx ∧ wr.heap.size ≤ xb ∧ s6 = .int .i64 ((looseN (l.map Sec.loose) (k + 1)).length : Int))
      case first =>
        have hKw3 := hK2'.trans hK3'
        have hKa : Keep [] w w3 := hK.trans hKw3
        cases hso : s.loose with
        | false =>
          rw [hso] at g9
          have HS := Lib.hid hso
          clear hso
          go_wp2_with fail
          go_meet
          exact ⟨w2.heap.size, rfl, by rw [HCW.out, HS.out]; exact hB3, hKw3, hK2'.size, by rw [HCN.out, HS.out]; simp⟩
        | true =>
          rw [hso] at g9
          have HS := Lib.hid hso
          clear hso
          by_cases hj : (looseN (l.map Sec.loose) k).length < keep.length
          · obtain ⟨ks, ko, kcap, rfl, hkc, hks, hat⟩ := hkeep.at1 (by omega)
            have g10 : w3.cell? ⟨ks, ko + (looseN (l.map Sec.loose) k).length, none⟩ = some (.bool (keep.getD (looseN (l.map Sec.loose) k).length false)) := by
              rw [hKa.cell hks (by simp), hat _ hj, bools_at keep _ hj]
            have q1 : ((looseN (l.map Sec.loose) k).length : Int) < keep.length := by omega
            have q2 : decide ((looseN (l.map Sec.loose) k).length < keep.length) = true := by simpa using hj
            clear hat
            cases hkj : keep.getD (looseN (l.map Sec.loose) k).length false with
            | false =>
              rw [hkj] at g10
              have HK := Lib.hid hkj
              clear hkj
              go_wp2_with fail
              go_meet
              exact ⟨w2.heap.size, rfl, by rw [HCW.out, HS.out, HK.out]; exact hB3, hKw3, hK2'.size, by rw [HCN.out, HS.out]; simp⟩
            | true =>
              rw [hkj] at g10
              have HK := Lib.hid hkj
              clear hkj
              have HR3 := Lib.hid (sec_now hok hB23)
              go_wp2_with (first
                | (refine wpList_load_mid rfl 68 _ rfl wr.heap.size 0 rfl (bcs s.now) _ HR3.out HU77.out rfl HI77n.out ?_)
                | (refine wpList_store_blk rfl 68 _ _ rfl w2.heap.size (bcs s.lasts) (bcs s.now) 68 rfl rfl hB3 HLN.out HI77n.out h1n.out ?_; intro w4 hB4 hK4))
              go_meet
              exact ⟨w2.heap.size, rfl, by rw [HCW.out, HS.out, HK.out]; exact hB4, hKw3.then hK4 (by have := hK2'.size; simp; omega), hK2'.size, by rw [HCN.out, HS.out]; simp⟩
          · have q2 : decide ((looseN (l.map Sec.loose) k).length < keep.length) = false := by simpa using hj
            have HG2 := Lib.hid (show keep.getD (looseN (l.map Sec.loose) k).length false = false by simp [List.getD_eq_getElem?_getD, List.getElem?_eq_none (Nat.le_of_not_lt hj)])
            obtain ⟨_, ka, kcap, rfl, _⟩ := id hkeep
            go_wp2_with fail
            go_meet
            exact ⟨w2.heap.size, rfl, by rw [HCW.out, HS.out, HG2.out]; exact hB3, hKw3, hK2'.size, by rw [HCN.out, HS.out]; simp⟩
      case rest =>
        obtain ⟨xb, rfl, hBx, hKx, hxb, rfl⟩ := hcut
        have hCx := hC.keep hKx (by simp) (by simp)
        have p0 := hCx.dev.cell 0
        simp only [List.getElem?_cons_zero] at p0
        rw [hcl] at p0
        have hst := crashN_step l keep k l.length hlt
        have hox := crashNow_ok l keep k h.ok
        have ST := Lib.hid hst
        clear hst
        generalize crashNow l keep k = x at *
        have hlx : x.length = 64 := hox.1
        have hsl := secCells_length hox
        have hp1 : wc.rangeAt xb 0 (bcs x) := by
          have := hBx.range 0 64
          rwa [List.drop_zero, List.take_of_length_le (by rw [bcs_length, hlx]; omega)] at this
        have hdl := devCells_length hCx.ok
        rw [hcl] at hdl
        have hp2 : wc.there csb (k * 129) 129 := hCx.secs.there _ _ (by omega)
        have hz : (crashN l keep k ++ List.replicate (l.length - k) zeroSec)[k]? = some zeroSec := by
          rw [List.getElem?_append_right (by simp [crashN])]
          simp [crashN, List.getElem?_replicate]; omega
        have hfin : Blk (wc.drew.setCells csb (k * 129) (secCells (sec2 x))) csb (devCells (crashN l keep (k + 1) ++ List.replicate (l.length - (k + 1)) zeroSec)) 70 := by
          have h1 := (hCx.secs.drew).setCells (secCells (sec2 x)) (k * 129) wc.drew _ (by omega)
          have ov : over (secCells zeroSec) 0 (secCells (sec2 x)) = secCells (sec2 x) := by
            unfold over
            rw [List.drop_of_length_le (by rw [secCells_length zeroSec_ok]; omega)]
            simp
          have h2 := devCells_over hCx.ok k zeroSec (sec2 x) hz hox 0 (secCells (sec2 x)) (by omega) ov
          rw [Nat.add_zero] at h2
          rw [h2, ST.out] at h1
          exact h1
        have hfk : Keep [csb] wc (wc.drew.setCells csb (k * 129) (secCells (sec2 x))) := Keep.setCells _ _ _ _ (Keep.refl _ _).drew (.inl (by simp))
        have hbd : ∀ W : World, (Instr.build 70 #[(0, .agg (bcs x).toArray), (1, .agg (bcs x).toArray)]).run Try.prog W = .ok (.agg (secCells (sec2 x)).toArray) W := build_sec x hlx
        have hi77x : (Try.prog.info? 68).map (·.size) = some (bcs x).length := by rw [Try.size64, bcs_length, hlx]
        have hi79x : (Try.prog.info? 70).map (·.size) = some (secCells (sec2 x)).length := by rw [Try.size129, hsl]
        have hl64x : (bcs x).length = 64 := by rw [bcs_length, hlx]
        have hx1 := bcs_one x
        have hx2 := secCells_one (sec2 x)
        have hu77 := Try.underlying68
        have hu79 := Try.underlying70
        have hokn : ∀ t ∈ crashN l keep (k + 1) ++ List.replicate (l.length - (k + 1)) zeroSec, t.ok := by
          rw [← ST.out]; exact mem_set_ok hC.ok _ _ hox
        have hlnn : (crashN l keep (k + 1) ++ List.replicate (l.length - (k + 1)) zeroSec).length = l.length := by
          rw [← ST.out, List.length_set]; exact hcl
        have HF := Lib.hid hfin
        have HFK := Lib.hid hfk
        have HOX := Lib.hid hox
        have HCL := Lib.hid hcl
        have HON := Lib.hid hokn
        have HLN2 := Lib.hid hlnn
        have hcne := hC.ne
        have hxne : xb ≠ csb := by omega
        have S0 : DevS cb csb xb k (.slice (some ⟨csb, 0, none⟩) l.length l.length) (bcs x) wc.drew := ⟨p0, hp1, hp2⟩
        have HP2 := Lib.hid (show wc.drew.there csb (k * 129) (secCells (sec2 x)).toArray.size by rw [List.size_toArray, hsl]; exact hp2)
        have HI79 := Lib.hid (show (Try.prog.info? 70).map (·.size) = some (secCells (sec2 x)).toArray.size by rw [List.size_toArray]; exact hi79x)
        have HO1 := Lib.hid (all_oneCell_toArray hx2)
        clear hi79x hx2 hp2 hx1 hl64x
        clear hfin hfk hox hcl hokn hlnn hz hdl HU HU77 HI HI77 HI77n HR HLL HL64 HLN h1s h1l h1n HCN HCW hK2 hK2' HR2 hK3 hlt2 hK3' hB23 g9 hB2 hB3 hz79 hz77 hD1 g1
        go_wp2_with fail
        refine wp_region_still_tail 9 (by kernel_rfl) (by kernel_rfl) ?_
        simp only [List.take_succ_cons, List.take_zero, List.drop_succ_cons, List.drop_zero]
        repeat (first | (refine wpStill_load_mid rfl 68 _ rfl xb 0 rfl (bcs x) _ hp1 hu77 rfl hi77x ?_; simp only [Act.put, List.setIfInBounds_toArray, List.set_cons_zero, List.set_cons_succ]) | still_step)
        refine wpStill_build rfl 70 _ rfl #[(0, .agg (bcs x).toArray), (1, .agg (bcs x).toArray)] (by go_simp) _ (hbd _) ?_
        simp only [Act.put, List.setIfInBounds_toArray, List.set_cons_zero, List.set_cons_succ]
        repeat still_step
        refine wpStill_nil ?_
        go_wp2_with (refine wpList_store_mid rfl 70 _ _ rfl csb (k * 129) (secCells (sec2 x)).toArray rfl rfl HP2.out HI79.out HO1.out ?_)
        go_roundg (l.length - (k + 1))
        case measure => rw [HG.out]; omega
        case rel =>
          refine ⟨k + 1, rfl, by omega, by go_num, rfl, ⟨?_, ?_, hC.ne, HON.out, by rw [HLN2.out]; exact hps, by rw [HLN2.out]; exact hmx, by omega⟩, ?_⟩
          · rw [HLN2.out]
            have := hCx.dev.keep HFK.out (by simpa using hC.ne)
            rwa [HCL.out] at this
          · simpa using HF.out
          · have := (hK.trans hKx).then HFK.out (by simp; omega)
            simpa using this
    · obtain rfl : k = l.length := by omega
      rw [Nat.sub_self, List.replicate_zero, List.append_nil] at hC
      go_wp2_with fail
      go_ret
      exact ⟨cb, csb, rfl, hC, hK, hb1, hsb1⟩
end Go.Proofs.Ytpibpapolcdeiaa
/- super: numbers of so many bytes, the greatest ones first: put, get. -/
namespace Go.Proofs.Ytpibpapolcdeiaa
open Go.ChangeShapes Go.WideShapes Go.ChangeAt Go.RowKit
set_option linter.unusedVariables false
set_option linter.unusedSimpArgs false
set_option maxRecDepth 100000

/-- n in m bytes, the greatest first. -/
def be : Nat → Nat → List Nat
  | 0, _ => []
  | m + 1, n => be m (n / 256) ++ [n % 256]
def unbe (l : List Nat) : Nat := l.foldl (fun n c => n * 256 + c) 0
@[simp] theorem be_len (m n : Nat) : (be m n).length = m := by induction m generalizing n with
  | zero => rfl
  | succ m ih => simp [be, ih]
theorem be_byte (m n : Nat) : ∀ c ∈ be m n, c < 256 := by
  induction m generalizing n with
  | zero => simp [be]
  | succ m ih =>
    intro c hc
    simp only [be, List.mem_append, List.mem_singleton] at hc
    rcases hc with hc | rfl
    · exact ih _ c hc
    · omega
theorem unbe_snoc (l : List Nat) (c : Nat) : unbe (l ++ [c]) = unbe l * 256 + c := by simp [unbe]
theorem unbe_be (m n : Nat) : unbe (be m n) = n % 256 ^ m := by
  induction m generalizing n with
  | zero => simp [be, unbe]; omega
  | succ m ih =>
    rw [be, unbe_snoc, ih, Nat.pow_succ, Nat.mul_comm (256 ^ m) 256, Nat.mod_mul]
    omega
theorem be_unbe (l : List Nat) (hb : ∀ c ∈ l, c < 256) : be l.length (unbe l) = l := by
  induction h : l.length generalizing l with
  | zero => rw [List.length_eq_zero_iff.1 h]; rfl
  | succ m ih =>
    obtain ⟨a, c, rfl⟩ : ∃ a c, l = a ++ [c] := ⟨l.dropLast, l.getLast (by intro e; simp [e] at h), (List.dropLast_concat_getLast _).symm⟩
    have hc : c < 256 := hb c (by simp)
    rw [unbe_snoc, be, show (unbe a * 256 + c) / 256 = unbe a by omega, show (unbe a * 256 + c) % 256 = c by omega]
    rw [ih a (fun x hx => hb x (by simp [hx])) (by simpa using h)]
theorem unbe_lt (l : List Nat) (hb : ∀ c ∈ l, c < 256) : unbe l < 256 ^ l.length := by
  have := unbe_be l.length (unbe l)
  rw [be_unbe l hb] at this
  rw [this]
  exact Nat.mod_lt _ (Nat.pow_pos (by omega))
theorem be_at (m n i : Nat) (h : i < m) : (be m n).getD (m - 1 - i) 0 = n / 256 ^ i % 256 := by
  induction m generalizing n i with
  | zero => omega
  | succ m ih =>
    simp only [be]
    cases i with
    | zero => simp
    | succ i =>
      rw [List.getD_eq_getElem?_getD, List.getElem?_append_left (by simp; omega), ← List.getD_eq_getElem?_getD, show m + 1 - 1 - (i + 1) = m - 1 - i by omega, ih _ _ (by omega), Nat.pow_succ, Nat.mul_comm, ← Nat.div_div_eq_div_mul]
/-- The last k bytes laid, the others as they were. -/
def beN (old : List Nat) (n k : Nat) : List Nat := old.take (old.length - k) ++ (be old.length n).drop (old.length - k)
theorem beN_zero (old : List Nat) (n : Nat) : beN old n 0 = old := by simp [beN]
theorem beN_all (old : List Nat) (n : Nat) : beN old n old.length = be old.length n := by simp [beN]
theorem beN_len (old : List Nat) (n k : Nat) (h : k ≤ old.length) : (beN old n k).length = old.length := by simp [beN]
theorem beN_succ (old : List Nat) (n k : Nat) (h : k < old.length) : (beN old n k).set (old.length - 1 - k) (n / 256 ^ k % 256) = beN old n (k + 1) := by
  have e1 : old.length - k = (old.length - 1 - k) + 1 := by omega
  unfold beN
  rw [show old.length - (k + 1) = old.length - 1 - k by omega, e1, ← be_at _ n k h]
  generalize hL : be old.length n = L
  have hLl : L.length = old.length := by rw [← hL]; simp
  generalize hq : old.length - 1 - k = q at *
  have hq1 : q < old.length := by omega
  rw [List.take_succ_eq_append_getElem hq1, List.drop_eq_getElem_cons (i := q) (by omega), List.append_assoc]
  rw [List.set_append_right _ _ (by simp; omega)]
  simp [List.getD_eq_getElem?_getD, show q < L.length by omega, Nat.min_eq_left (Nat.le_of_lt hq1)]

end Go.Proofs.Ytpibpapolcdeiaa
/- super.write: its contract. -/
namespace Go.Proofs.Ytpibpapolcdeiaa
open Go.ChangeShapes Go.WideShapes Go.ChangeAt Go.RowKit
set_option linter.unusedVariables false
set_option linter.unusedSimpArgs false
set_option maxRecDepth 100000

def sBody (n : Nat) (text : List Nat) : List Nat := be 8 n ++ ([text.length] ++ (text ++ List.replicate (51 - text.length) 0))
def sImg (n : Nat) (text : List Nat) : List Nat := be 4 (crcSum (sBody n text)) ++ sBody n text
theorem sBody_len (n : Nat) (text : List Nat) (h : text.length ≤ 40) : (sBody n text).length = 60 := by simp [sBody]; omega
theorem sBody_byte (n : Nat) (text : List Nat) (h : text.length ≤ 40) (hb : ∀ c ∈ text, c < 256) : ∀ c ∈ sBody n text, c < 256 := by
  intro c hc
  simp only [sBody, List.mem_append, List.mem_singleton, List.mem_replicate] at hc
  rcases hc with hc | rfl | hc | ⟨_, rfl⟩
  · exact be_byte _ _ _ hc
  · omega
  · exact hb _ hc
  · omega
theorem sImg_len (n : Nat) (text : List Nat) (h : text.length ≤ 40) : (sImg n text).length = 64 := by simp [sImg, sBody_len n text h]
theorem sImg_byte (n : Nat) (text : List Nat) (h : text.length ≤ 40) (hb : ∀ c ∈ text, c < 256) : ∀ c ∈ sImg n text, c < 256 := by
  intro c hc
  simp only [sImg, List.mem_append] at hc
  rcases hc with hc | hc
  · exact be_byte _ _ _ hc
  · exact sBody_byte n text h hb _ hc
theorem crcSum_lt (l : List Nat) (hb : ∀ c ∈ l, c < 256) : crcSum l < 4294967296 := by unfold crcSum; omega
theorem wrote_super (L : List Sec) (i : Nat) (s : Sec) (m : List Nat) (hm : m.length = 64) (hs : s.now.length = 64) : (L.set i ⟨over s.now 0 m, s.lasts, true⟩).map flushSec = (L.map flushSec).set i ⟨m, m, false⟩ := by
  have e : over s.now 0 m = m := by simp [over, hm, hs]
  rw [List.map_set, e]; rfl

theorem body_cells (n : Nat) (text : List Nat) (h : text.length ≤ 40) : over ((bcs (List.replicate 4 0 ++ be 8 n ++ List.replicate 52 0)).set 12 (.int .u8 text.length)) 13 (bcs text) = bcs (List.replicate 4 0 ++ sBody n text) := by
  have e8 : ∃ a b c d e f g h, be 8 n = [a, b, c, d, e, f, g, h] := ⟨_, _, _, _, _, _, _, _, rfl⟩
  obtain ⟨a, b, c, d, e, f, g, i, e8⟩ := e8
  have hz : List.replicate (51 - text.length) 0 = (List.replicate 51 0).drop text.length := List.drop_replicate.symm
  unfold sBody
  rw [e8, hz]
  generalize hr : List.replicate 51 0 = R
  have e52 : List.replicate 52 0 = 0 :: R := by rw [← hr]; rfl
  rw [e52]
  simp only [over, bcs_length, List.replicate, bcs, List.map_append, List.map_cons, List.map_nil, List.cons_append, List.nil_append, List.set, List.take, List.map_drop, List.length_map]
  rw [show 13 + text.length = text.length + 13 by omega]
  simp [bc]
theorem Clone_any {w : World} (v : Value) (l : List Nat) (h : Rd w v l) (hl : l.length ≤ 1099511627776) :
    Calls Try.prog 33 #[v] w fun e w' => ∃ v', e = .returned v' ∧ Buf w' w.heap.size 5 v' l ∧ Keep [] w w' := by
  obtain ⟨_, a, cap, rfl, hc, hh⟩ := id h
  cases a with
  | some ad =>
    refine (Clone_some ad cap l h hl).mono ?_
    rintro e w' ⟨v', rfl, hb, hk, _⟩
    exact ⟨v', rfl, hb, hk⟩
  | none =>
    have hl0 : l = [] := by
      cases l with
      | nil => rfl
      | cons x l => obtain ⟨sb, so, he, _⟩ := hh (by simp); cases he
    subst hl0
    have heq := fun W => Lib.run_eql_slice_nil (P := Try.prog) W 30 5 none 0 cap 0 0 Try.underlying30
    go_enter Try.func33, Try.ntmps33
    go_wp2_with fail
    go_ret
    exact ⟨_, rfl, Buf.nil _ _ _, Keep.refl _ _⟩
end Go.Proofs.Ytpibpapolcdeiaa
/- slog: put, get, start. -/
namespace Go.Proofs.Ytpibpapolcdeiaa
open Go.ChangeShapes Go.WideShapes Go.ChangeAt Go.RowKit
set_option linter.unusedVariables false
set_option linter.unusedSimpArgs false
set_option maxRecDepth 100000

set_option maxHeartbeats 2000000 in
theorem sput_any {w : World} {b : Nat} {T : TypeId} (A old B : List Nat) (cap n : Nat) (h : Blk w b (bcs (A ++ old ++ B)) T) (hn : n < 18446744073709551616) (hl : old.length ≤ 8) (hA : A.length ≤ 1000000) :
    Calls Try.prog 35 #[.slice (some ⟨b, A.length, none⟩) old.length cap, .int .u64 n] w fun e w' => e = .returned (.tuple #[]) ∧ Blk w' b (bcs (A ++ be old.length n ++ B)) T ∧ Keep [b] w w' := by
  go_enter Try.func35, Try.ntmps35
  go_wp2_with fail
  go_loopw [7] (fun i wr => ∃ k : Nat, k ≤ old.length ∧ i = .int .i64 k ∧ Blk wr b (bcs (A ++ beN old n k ++ B)) T ∧ Keep [b] w wr) (fun i _ => old.length - (intOf i).toNat)
  case atStart => exact ⟨0, by omega, rfl, by rw [beN_zero]; exact h, Keep.refl _ _⟩
  case round =>
    obtain ⟨k, hk, rfl, hB, hK⟩ := hrel
    by_cases hlt : k < old.length
    · have q0 : (k : Int) < old.length := by omega
      have q2 : old.length - 1 - k < old.length := by omega
      have hlen := beN_len old n k hk
      have hcell : ∃ u, wr.cell? ⟨b, A.length + (old.length - 1 - k), none⟩ = some u := by
        rw [hB.cell, List.getElem?_eq_getElem (by simp; omega)]
        exact ⟨_, rfl⟩
      obtain ⟨u, f0⟩ := hcell
      have f1 := hB.free (A.length + (old.length - 1 - k))
      go_wp2_with fail
      go_roundw
      case rel =>
        refine ⟨k + 1, by omega, by go_num, ?_, hK.setCell (by simp) _⟩
        have e := hB.set (A.length + (old.length - 1 - k)) (.int .u8 ((n : Int) / 2 ^ (8 * k) % 256))
        have e2 : (bcs (A ++ beN old n k ++ B)).set (A.length + (old.length - 1 - k)) (.int .u8 ((n : Int) / 2 ^ (8 * k) % 256)) = bcs (A ++ beN old n (k + 1) ++ B) := by
          have e3 : (.int .u8 ((n : Int) / 2 ^ (8 * k) % 256) : Value) = bc (n / 256 ^ k % 256) := by
            unfold bc
            rw [show (256 : Nat) ^ k = 2 ^ (8 * k) by rw [Nat.pow_mul]]
            simp
          rw [e3, ← beN_succ old n k hlt]
          unfold bcs
          rw [← List.map_set]
          congr 1
          rw [List.append_assoc, List.set_append_right _ _ (by omega), Nat.add_sub_cancel_left, List.set_append_left _ _ (by omega), ← List.append_assoc]
        rw [e2] at e
        exact e
      case measure => simp [intOf]; omega
    · obtain rfl : k = old.length := by omega
      rw [beN_all] at hB
      go_wp2_with fail
      go_end0
      exact ⟨rfl, hB, hK⟩
set_option maxHeartbeats 2000000 in
theorem sget_any {w : World} (v : Value) (l : List Nat) (h : Rd w v l) (hb : ∀ c ∈ l, c < 256) (hl : l.length ≤ 8) (n : Nat) (hn : n = unbe l) :
    Calls Try.prog 42 #[v] w fun e w' => e = .returned (.int .u64 n) ∧ w = w' := by
  have HN := Lib.hid hn
  clear hn
  have h2 := h
  obtain ⟨_, a, cap, rfl, _, _⟩ := h
  go_enter Try.func42, Try.ntmps42
  go_wp2_with fail
  go_loop [3, 8] (fun x i => ∃ k : Nat, k ≤ l.length ∧ i = .int .i64 k ∧ x = .int .u64 (unbe (l.take k) : Nat)) (fun _ i => l.length - (intOf i).toNat)
  case atStart => exact ⟨0, by omega, rfl, rfl⟩
  case round =>
    obtain ⟨k, hk, rfl, rfl⟩ := hrel
    by_cases hlt : k < l.length
    · obtain ⟨sb0, so, cap3, he, _, hsb, hat⟩ := h2.at1 (by omega)
      simp only [Value.slice.injEq] at he
      obtain ⟨rfl, _, rfl⟩ := he
      have g4 := hat k hlt
      rw [bcs_at l k hlt] at g4
      have hc : l.getD k 0 < 256 := hb _ (by simp [List.getD_eq_getElem?_getD, hlt])
      have hX := unbe_lt (l.take k) (fun c hc => hb c (List.mem_of_mem_take hc))
      have hT : unbe (l.take (k + 1)) = unbe (l.take k) * 256 + l.getD k 0 := by
        rw [List.take_succ_eq_append_getElem hlt, unbe_snoc]; simp [List.getD_eq_getElem?_getD, hlt]
      have HT := Lib.hid hT
      have hX7 : unbe (l.take k) < 72057594037927936 := by
        rw [List.length_take, Nat.min_eq_left hk] at hX
        have : (256 : Nat) ^ k ≤ 256 ^ 7 := Nat.pow_le_pow_right (by omega) (by omega)
        rw [show (256 : Nat) ^ 7 = 72057594037927936 by rfl] at this
        omega
      clear hat h2 hb hT hX
      generalize l.getD k 0 = c at *
      generalize unbe (l.take k) = X at *
      unfold bc at g4
      have q0 : (k : Int) < l.length := by omega
      have ho : bits .or .u64 ((X : Int) * 256) (c : Int) = ((X * 256 + c : Nat) : Int) := by
        rw [show (X : Int) * 256 = ((X * 256 : Nat) : Int) by omega, u64_or_nat _ _ (by omega) (by omega), show X * 256 = 2 ^ 8 * X by omega, ← Nat.two_pow_add_eq_or_of_lt (show c < 2 ^ 8 by omega) X]
      go_wp2_with fail
      go_round
      case rel => exact ⟨k + 1, by omega, by go_num, by rw [HT.out]; go_num⟩
      case measure => simp [intOf]; omega
    · obtain rfl : k = l.length := by omega
      rw [List.take_length]
      generalize hX : unbe l = X at *
      have HX := Lib.hid hX
      clear hX
      go_wp2_with fail
      go_ret
      exact ⟨by rw [HN.out]; rfl, rfl⟩
/-- Where a sector's bytes begin. -/
def st0 (i : Nat) : Nat := i * 48 - 6
theorem start_any {w : World} (i : Nat) (hi : i ≤ 100) (r : Int) (hr : r = (st0 i : Int)) : Calls Try.prog 36 #[.int .i64 (i : Int)] w fun e w' => e = .returned (.int .i64 r) ∧ w = w' := by
  rcases (show i = 0 ∨ 1 ≤ i by omega) with rfl | h
  · have : r = 0 := hr
    subst this
    go_enter Try.func36, Try.ntmps36
    go_wp2_with fail
    go_ret
    exact ⟨rfl, rfl⟩
  · have hr2 : r = (i : Int) * 48 - 6 := by rw [hr]; unfold st0; omega
    have q : max 0 ((i : Int) * 48 - 6) = (i : Int) * 48 - 6 := by omega
    go_enter Try.func36, Try.ntmps36
    go_wp2_with fail
    go_ret
    exact ⟨by rw [hr2]; simp <;> omega, rfl⟩
end Go.Proofs.Ytpibpapolcdeiaa
/- slog: a sector's bytes. -/
namespace Go.Proofs.Ytpibpapolcdeiaa
open Go.ChangeShapes Go.WideShapes Go.ChangeAt Go.RowKit
set_option linter.unusedVariables false
set_option linter.unusedSimpArgs false
set_option maxRecDepth 100000

theorem over_app {α : Type} (A old B X : List α) (h : X.length = old.length) (o : Nat) (ho : o = A.length) : over (A ++ (old ++ B)) o X = A ++ (X ++ B) := by
  subst ho
  unfold over
  rw [List.take_left, List.drop_append, h]
  simp [List.drop_append]
theorem sput_at {w : World} {b : Nat} {T : TypeId} (A old B : List Nat) (o k cap n : Nat) (h : Blk w b (bcs (A ++ (old ++ B))) T) (ho : o = A.length) (hk : k = old.length) (hn : n < 18446744073709551616) (hl : old.length ≤ 8) (hA : A.length ≤ 1000000) :
    Calls Try.prog 35 #[.slice (some ⟨b, o, none⟩) k cap, .int .u64 n] w fun e w' => e = .returned (.tuple #[]) ∧ Blk w' b (bcs (A ++ (be k n ++ B))) T ∧ Keep [b] w w' := by
  subst ho hk
  rw [← List.append_assoc] at h
  refine (sput_any A old B cap n h hn hl hA).mono ?_
  rintro e w' ⟨rfl, h1, h2⟩
  exact ⟨rfl, by rw [← List.append_assoc]; exact h1, h2⟩
theorem rep_split (a b : Nat) : List.replicate (a + b) 0 = List.replicate a 0 ++ List.replicate b (0 : Nat) := (List.replicate_append_replicate ..).symm
def sgW (i : Nat) : Nat := if i = 0 then 42 else 48
def sgPre (i base : Nat) : List Nat := if i = 0 then be 6 base else []
def sgChunk (buf : List Nat) (i : Nat) : List Nat := (buf.drop (st0 i)).take (sgW i)
def sgBody (gen base run i : Nat) (buf : List Nat) : List Nat := be 6 gen ++ (be 4 run ++ ([i] ++ ([(sgChunk buf i).length] ++ (sgPre i base ++ (sgChunk buf i ++ List.replicate (sgW i - (sgChunk buf i).length) 0)))))
def sgImg (gen base run i : Nat) (buf : List Nat) : List Nat := be 4 (crcSum (sgBody gen base run i buf)) ++ sgBody gen base run i buf
theorem sgW_le (i : Nat) : sgW i ≤ 48 ∧ 42 ≤ sgW i := by unfold sgW; split <;> omega
theorem sgPre_len (i base : Nat) : (sgPre i base).length = 48 - sgW i := by unfold sgPre sgW; split <;> simp
theorem sgPre_byte (i base : Nat) : ∀ c ∈ sgPre i base, c < 256 := by
  unfold sgPre
  split
  · exact be_byte _ _
  · intro c h; cases h
theorem sgChunk_le (buf : List Nat) (i : Nat) : (sgChunk buf i).length ≤ sgW i := by unfold sgChunk; rw [List.length_take]; omega
theorem sgChunk_len (buf : List Nat) (i : Nat) : (sgChunk buf i).length = min (sgW i) (buf.length - st0 i) := by unfold sgChunk; rw [List.length_take, List.length_drop]
theorem sgChunk_byte (buf : List Nat) (i : Nat) (h : ∀ c ∈ buf, c < 256) : ∀ c ∈ sgChunk buf i, c < 256 := fun c hc => h c (List.mem_of_mem_drop (List.mem_of_mem_take hc))
theorem sgBody_len (gen base run i : Nat) (buf : List Nat) : (sgBody gen base run i buf).length = 60 := by
  have h1 := sgW_le i
  have h2 := sgPre_len i base
  have h3 := sgChunk_le buf i
  unfold sgBody
  simp only [List.length_append, be_len, List.length_cons, List.length_nil, List.length_replicate]
  omega
theorem sgBody_byte (gen base run i : Nat) (buf : List Nat) (hi : i < 256) (hb : ∀ c ∈ buf, c < 256) : ∀ c ∈ sgBody gen base run i buf, c < 256 := by
  intro c hc
  have h1 := sgW_le i
  have h3 := sgChunk_le buf i
  unfold sgBody at hc
  simp only [List.mem_append, List.mem_cons, List.not_mem_nil, or_false, List.mem_replicate] at hc
  rcases hc with h | h | h | h | h | h | h
  · exact be_byte _ _ c h
  · exact be_byte _ _ c h
  · omega
  · omega
  · exact sgPre_byte _ _ c h
  · exact sgChunk_byte buf i hb c h
  · omega
theorem sgImg_len (gen base run i : Nat) (buf : List Nat) : (sgImg gen base run i buf).length = 64 := by
  unfold sgImg
  rw [List.length_append, be_len, sgBody_len]
theorem sgImg_byte (gen base run i : Nat) (buf : List Nat) (hi : i < 256) (hb : ∀ c ∈ buf, c < 256) : ∀ c ∈ sgImg gen base run i buf, c < 256 := by
  intro c hc
  rcases List.mem_append.1 hc with h | h
  · exact be_byte _ _ c h
  · exact sgBody_byte gen base run i buf hi hb c h
def sgC (gen base run : Int) (vb vr : Value) : List Value := [.int .i64 gen, .int .i64 base, .int .i64 run, vb, vr]
section
variable {w : World} {p : Nat} {gen base run : Int} {vb vr : Value} {T : TypeId}
theorem seg_0 (h : Blk w p (sgC gen base run vb vr) T) : w.cell? ⟨p, 0, none⟩ = some (.int .i64 gen) := h.cell 0
theorem seg_1 (h : Blk w p (sgC gen base run vb vr) T) : w.cell? ⟨p, 1, none⟩ = some (.int .i64 base) := h.cell 1
theorem seg_2 (h : Blk w p (sgC gen base run vb vr) T) : w.cell? ⟨p, 2, none⟩ = some (.int .i64 run) := h.cell 2
theorem seg_3 (h : Blk w p (sgC gen base run vb vr) T) : w.cell? ⟨p, 3, none⟩ = some vb := h.cell 3
theorem seg_4 (h : Blk w p (sgC gen base run vb vr) T) : w.cell? ⟨p, 4, none⟩ = some vr := h.cell 4
end
def sectJ (w0 : World) (p xb i gen base lo cl : Nat) (r0 : Int) (ba : Option Addr) (bcap : Nat) (vr SV : Value) (buf B0 B1 B2 : List Nat) (l : Nat → Bool) (x : Nat → Value) (w' : World) : Prop :=
  (l 15 = false → Blk w' xb (bcs B0) 5) ∧
  (l 15 = true → l 18 = false → Blk w' xb (bcs B1) 5) ∧
  (l 18 = true → Blk w' xb (bcs B2) 5) ∧
  (l 18 = true → l 15 = true) ∧
  (Blk w' p (sgC gen base r0 (.slice ba buf.length bcap) vr) 80) ∧
  (Rd w' (.slice ba buf.length bcap) buf) ∧
  (Keep [xb] w0 w') ∧
  (l 0 = true → x 0 = .slice (some ⟨xb, 0, none⟩) 64 64) ∧
  (l 1 = true → x 1 = .slice (some ⟨xb, 64 - sgW i, none⟩) (sgW i) (sgW i)) ∧
  (l 2 = true → x 2 = .pointer (some ⟨p, 0, none⟩)) ∧
  (l 3 = true → x 3 = .pointer (some ⟨p, 0, none⟩)) ∧
  (l 4 = true → x 4 = .pointer (some ⟨p, 3, none⟩)) ∧
  (l 5 = true → x 5 = .slice ba buf.length bcap) ∧
  (l 6 = true → x 6 = .int .i64 (i : Int)) ∧
  (l 7 = true → x 7 = .int .i64 (st0 i : Int)) ∧
  (l 8 = true → x 8 = .pointer (some ⟨p, 0, none⟩)) ∧
  (l 9 = true → x 9 = .pointer (some ⟨p, 0, none⟩)) ∧
  (l 10 = true → x 10 = .pointer (some ⟨p, 3, none⟩)) ∧
  (l 11 = true → x 11 = .slice ba buf.length bcap) ∧
  (l 12 = true → x 12 = .int .i64 (buf.length : Int)) ∧
  (l 13 = true → x 13 = .int .i64 (lo : Int)) ∧
  (l 14 = true → x 14 = SV) ∧
  (l 15 = true → x 15 = .int .i64 (cl : Int) ∧ l 15 = true) ∧
  (l 16 = true → x 16 = .int .u8 (cl : Int) ∧ l 15 = true) ∧
  (l 17 = true → x 17 = .pointer (some ⟨xb, 15, none⟩)) ∧
  (l 18 = true → True)
theorem sumLt (l : List Nat) (hb : ∀ c ∈ l, c < 256) : crcSum l < 4294967296 := by unfold crcSum; omega
theorem blkOwns {w : World} {base g : Nat} {E : TypeId} {cells : List Value} (h : Blk w g cells E) (hb : base ≤ g) (n sz : Nat) (hl : cells.length = n * sz) (hm : n ≤ maxLen) : w.ownsRow base E sz (.slice (some ⟨g, 0, none⟩) n n) n cells :=
  ⟨hl, .inr ⟨g, n, cells.toArray, rfl, hb, h, Nat.le_refl _, hm, by simp [hl], by simp [← hl]⟩⟩
theorem goInt_int (n : Int) : goInt n = .int .i64 n := rfl
set_option maxHeartbeats 8000000 in
theorem sector_any {w : World} {p : Nat} (gen base : Nat) (r0 : Int) (vb vr : Value) (buf : List Nat) (hs : Blk w p (sgC gen base r0 vb vr) 80) (hr : Rd w vb buf) (hb : ∀ c ∈ buf, c < 256) (hl : buf.length ≤ 1000) (i run : Nat) (hi : i < 8) (hg : gen < 281474976710656 ∧ base < 281474976710656 ∧ run < 4294967296) :
    Calls Try.prog 50 #[.pointer (some ⟨p, 0, none⟩), .int .i64 (i : Int), .int .i64 (run : Int)] w fun e w' => ∃ v', e = .returned v' ∧ Buf w' w.heap.size 5 v' (sgImg gen base run i buf) ∧ Keep [] w w' := by
  obtain ⟨i8, hi8, hz80, hz81, hz82⟩ := info_parts Try.info8
  obtain ⟨hg1, hg2, hg3⟩ := hg
  obtain ⟨_, ba, bcap, rfl, _, _⟩ := id hr
  go_enter Try.func50, Try.ntmps50
  go_upto_region 2 with (at_make; refine wpList_make_n _ rfl _ _ 30 rfl 5 i8 _ Try.underlying30 hi8 hz80 (by rw [hz81]; rfl) (by decide) _ 64 rfl rfl (by omega) (by rw [hz82]; omega) (by omega) ?_)
  change Code.wp _ _ _ _ (w.alloc (.cells (bcs (List.replicate 4 0 ++ List.replicate 6 0 ++ List.replicate 54 0)).toArray 5))
  have hX0 : Blk (w.alloc (.cells (bcs (List.replicate 4 0 ++ List.replicate 6 0 ++ List.replicate 54 0)).toArray 5)) w.heap.size (bcs (List.replicate 4 0 ++ List.replicate 6 0 ++ List.replicate 54 0)) 5 := Blk.new _ _ _
  have K0 := (Keep.refl [] w).alloc (.cells (bcs (List.replicate 4 0 ++ List.replicate 6 0 ++ List.replicate 54 0)).toArray 5)
  have hS0 := hs.keep K0 (by simp)
  have hR0 : Rd _ _ buf := hr.keep K0 (by simp)
  have hplt := hs.lt
  generalize w.alloc (.cells (bcs (List.replicate 4 0 ++ List.replicate 6 0 ++ List.replicate 54 0)).toArray 5) = w0 at *
  have HLO := Lib.hid (show (∀ q, (Value.slice ba buf.length bcap).ownBlock = some q → 0 < buf.length → q ≠ w.heap.size) ∧ p ≠ w.heap.size from ⟨fun q hq h0 => by have := hr.lo q hq h0; omega, by omega⟩)
  generalize hxb : w.heap.size = xb at *
  have HXB := Lib.hid hxb
  have s0 := seg_0 hS0
  refine wp_region_still_tail 7 (by kernel_rfl) (by kernel_rfl) ?_
  simp only [List.take_succ_cons, List.take_zero, List.drop_succ_cons, List.drop_zero]
  repeat still_step
  refine wpStill_nil ?_
  clear s0
  go_wp2_with fail
  refine (sput_at (List.replicate 4 0) (List.replicate 6 0) (List.replicate 54 0) 4 6 60 gen (by rw [← List.append_assoc]; exact hX0.drew) (by simp) (by simp) (by omega) (by simp) (by simp)).mono ?_
  rintro e w1 ⟨rfl, hX1, k1⟩
  have hS1 := hS0.drew.keep k1 (by simp; exact HLO.out.2)
  have hR1 : Rd w1 _ buf := Rd.keep0 (hR0.keep (Keep.refl [] _).drew (by simp)) k1 (fun q hq h0 => by simp; exact HLO.out.1 q hq h0)
  have K1 : Keep [] w w1 := (K0.drew).then k1 (fun q hq hlt => by simp at hq; omega)
  clear hX0 hS0 hR0 K0 k1 hs hr
  rw [show (54 : Nat) = 4 + 50 from rfl, rep_split, ← List.append_assoc] at hX1
  go_wp2_with fail
  refine (sput_at (List.replicate 4 0 ++ be 6 gen) (List.replicate 4 0) (List.replicate 50 0) 10 4 54 run (by rw [← List.append_assoc]; rw [← List.append_assoc] at hX1; exact hX1) (by simp) (by simp) (by omega) (by simp) (by simp)).mono ?_
  rintro e w2 ⟨rfl, hX2, k2⟩
  have hS2 := hS1.keep k2 (by simp; exact HLO.out.2)
  have hR2 : Rd w2 _ buf := Rd.keep0 hR1 k2 (fun q hq h0 => by simp; exact HLO.out.1 q hq h0)
  have K2 : Keep [] w w2 := K1.then k2 (fun q hq hlt => by simp at hq; omega)
  clear hX1 hS1 hR1 K1 k2
  obtain ⟨P14, hP14⟩ : ∃ P : List Nat, P = (List.replicate 4 0 ++ be 6 gen) ++ be 4 run := ⟨_, rfl⟩
  have hPl : P14.length = 14 := by rw [hP14]; simp
  have hX2' : Blk w2 xb (bcs (P14 ++ List.replicate 50 0)) 5 := by rw [hP14, List.append_assoc]; exact hX2
  have HP14 := Lib.hid hP14
  have f1 := hX2'.free 14
  have f0 : w2.cell? ⟨xb, 14, none⟩ = some (.int .u8 0) := by
    rw [hX2'.cell]
    unfold bcs
    rw [List.map_append, List.getElem?_append_right (by simp [hPl])]
    simp [hPl]
    rfl
  have hX3 : Blk (w2.setCell ⟨xb, 14, none⟩ (.int .u8 (i : Int))) xb (bcs (P14 ++ ([i] ++ ([0] ++ (List.replicate (48 - sgW i) 0 ++ List.replicate (sgW i) 0))))) 5 := by
    have h1 := hX2'.set 14 (.int .u8 (i : Int))
    have h2 : (bcs (P14 ++ List.replicate 50 0)).set 14 (.int .u8 (i : Int)) = bcs (P14 ++ ([i] ++ ([0] ++ (List.replicate (48 - sgW i) 0 ++ List.replicate (sgW i) 0)))) := by
      have hw := sgW_le i
      rw [← rep_split, show 48 - sgW i + sgW i = 48 by omega, show (50 : Nat) = 1 + (1 + 48) from rfl, rep_split, rep_split]
      unfold bcs
      rw [List.map_append, List.map_append, List.set_append_right _ _ (by simp [hPl])]
      simp [hPl, bc]
    rw [h2] at h1
    exact h1
  have k3 : Keep [xb] w2 (w2.setCell ⟨xb, 14, none⟩ (.int .u8 (i : Int))) := (Keep.refl _ _).setCell (.inl (by simp)) _
  have hS3 := hS2.keep k3 (by simp; exact HLO.out.2)
  have hR3 : Rd _ _ buf := Rd.keep0 hR2 k3 (fun q hq h0 => by simp; exact HLO.out.1 q hq h0)
  have K3 : Keep [] w _ := K2.then k3 (fun q hq hlt => by simp at hq; omega)
  clear hX2 hX2' hS2 hR2 K2 k3 hP14
  go_upto_region 5 with fail
  generalize w2.setCell ⟨xb, 14, none⟩ (.int .u8 (i : Int)) = w3 at *
  clear f0 f1
  have HX3 := Lib.hid hX3
  have HS3 := Lib.hid hS3
  have HR3 := Lib.hid hR3
  have HK3 := Lib.hid K3
  clear hX3 hS3 hR3 K3
  go_upto_if 30 with fail
  go_cut [8] (fun s8 wc => s8 = .slice (some ⟨xb, 64 - sgW i, none⟩) (sgW i) (sgW i) ∧ Blk wc xb (bcs (P14 ++ ([i] ++ ([0] ++ (sgPre i base ++ List.replicate (sgW i) 0))))) 5 ∧ Blk wc p (sgC gen base r0 (.slice ba buf.length bcap) vr) 80 ∧ Rd wc (.slice ba buf.length bcap) buf ∧ Keep [] w wc)
  case first =>
    rcases (show i = 0 ∨ 1 ≤ i by omega) with rfl | h1
    · have s1 := seg_1 HS3.out
      go_wp2_with fail
      refine wp_region_still_tail 7 (by kernel_rfl) (by kernel_rfl) ?_
      simp only [List.take_succ_cons, List.take_zero, List.drop_succ_cons, List.drop_zero]
      repeat still_step
      refine wpStill_nil ?_
      clear s1
      go_wp2_with fail
      refine (sput_at (P14 ++ ([0] ++ [0])) (List.replicate 6 0) (List.replicate 42 0) 16 6 48 base (by have := HX3.out.drew; simp only [List.append_assoc] at this ⊢; exact this) (by simp [hPl]) (by simp) (by omega) (by simp) (by simp; omega)).mono ?_
      rintro e w4 ⟨rfl, hX4, k4⟩
      have HX4 := Lib.hid hX4
      have HS4 := Lib.hid (HS3.out.drew.keep k4 (by simp; exact HLO.out.2))
      have HR4 : Hid (Rd w4 (.slice ba buf.length bcap) buf) := Lib.hid (Rd.keep0 (Rv.keep HR3.out (Keep.refl [] _).drew (by simp)) k4 (fun q hq h0 => by simp; exact HLO.out.1 q hq h0))
      have HK4 : Hid (Keep [] w w4) := Lib.hid (HK3.out.drew.then k4 (fun q hq hlt => by simp at hq; omega))
      clear hX4 k4
      go_wp2_with fail
      go_meet
      exact ⟨rfl, by have := HX4.out; simp only [List.append_assoc] at this ⊢; exact this, HS4.out, HR4.out, HK4.out⟩
    · have q : ((i : Int) == 0) = false := by simp; omega
      have hw : sgW i = 48 := by unfold sgW; rw [if_neg (by omega)]
      have hp : sgPre i base = [] := by unfold sgPre; rw [if_neg (by omega)]
      have HW := Lib.hid hw
      have HP := Lib.hid hp
      clear hw hp
      go_wp2_with fail
      go_meet
      refine ⟨by rw [HW.out], ?_, HS3.out, HR3.out, HK3.out⟩
      have := HX3.out
      rw [HW.out] at this ⊢
      rw [HP.out]
      exact this
  case rest =>
  obtain ⟨rfl, hX4, hS4, hR4, hK4⟩ := hcut
  clear HX3 HS3 HR3 HK3
  -- what the copy lays
  obtain ⟨lo, hlo0⟩ : ∃ lo, lo = min (st0 i) buf.length := ⟨_, rfl⟩
  have hlole : lo ≤ buf.length := by omega
  have hdrop : buf.drop lo = buf.drop (st0 i) := by
    by_cases h : st0 i ≤ buf.length
    · rw [hlo0, Nat.min_eq_left h]
    · rw [List.drop_of_length_le (by omega), List.drop_of_length_le (by omega)]
  obtain ⟨cl, hcl0⟩ : ∃ cl, cl = (sgChunk buf i).length := ⟨_, rfl⟩
  have hcw := sgChunk_le buf i
  have hwl := sgW_le i
  have hpl := sgPre_len i base
  have HMN : Hid ((if buf.length < st0 i then (buf.length : Int) else (st0 i : Int)) = (lo : Int)) := Lib.hid (by split <;> omega)
  have HWR : Hid (IntKind.u8.wrap (cl : Int) = (cl : Int)) := Lib.hid (by simp [IntKind.wrap, IntKind.bits, IntKind.signed]; omega)
  have HI8 := Lib.hid hi
  have HCL := Lib.hid (show cl ≤ 48 by omega)
  obtain ⟨SV, hcut, hSV⟩ : ∃ SV, (∀ W : World, (Instr.sliceAt 30 (.slice ba buf.length bcap) (some (.int .i64 (lo : Int))) none none).run Try.prog W = .ok SV W) ∧ (∀ W : World, Rd W (.slice ba buf.length bcap) buf → Rv W 1 SV (buf.length - lo) (bcs (buf.drop lo))) := by
    refine ⟨_, fun W => run_cut_lo (P := Try.prog) (w := W) 30 5 i8 Try.underlying30 hi8 hz81 ba buf.length bcap lo hlole, fun W hW => ?_⟩
    have := Rv.cut hW lo buf.length hlole (Nat.le_refl _) ba bcap rfl
    rw [bcs_part, List.take_of_length_le (by rw [List.length_drop]; omega)] at this
    exact this
  have HCUT := Lib.hid hcut
  have HSV := Lib.hid hSV
  have HGO : Hid (goInt ((min (buf.length - lo) (sgW i) : Nat) : Int) = .int .i64 (cl : Int)) := Lib.hid (by
    rw [goInt_int, hcl0, sgChunk_len]
    congr 1
    omega)
  have HTK : Hid ((bcs (buf.drop lo)).take (sgW i) = bcs (sgChunk buf i)) := Lib.hid (by rw [hdrop]; unfold bcs sgChunk; rw [List.map_take])
  have hB0l : (P14 ++ ([i] ++ ([0] ++ (sgPre i base ++ List.replicate (sgW i) 0)))).length = 64 := by simp [hPl, hpl]; omega
  obtain ⟨B0, hB0⟩ : ∃ B, B = P14 ++ ([i] ++ ([0] ++ (sgPre i base ++ List.replicate (sgW i) 0))) := ⟨_, rfl⟩
  obtain ⟨B1, hB1⟩ : ∃ B, B = P14 ++ ([i] ++ ([0] ++ (sgPre i base ++ (sgChunk buf i ++ List.replicate (sgW i - cl) 0)))) := ⟨_, rfl⟩
  obtain ⟨B2, hB2⟩ : ∃ B, B = P14 ++ ([i] ++ ([cl] ++ (sgPre i base ++ (sgChunk buf i ++ List.replicate (sgW i - cl) 0)))) := ⟨_, rfl⟩
  have hB1l : B1.length = 64 := by rw [hB1]; simp [hPl, hpl]; omega
  have HTH : Hid (64 - sgW i + min (buf.length - lo) (sgW i) ≤ (bcs B0).length) := Lib.hid (by rw [bcs_length, hB0, hB0l]; omega)
  have HTL : Hid (64 - sgW i + (bcs (sgChunk buf i)).length ≤ (bcs B0).length) := Lib.hid (by rw [bcs_length, bcs_length, hB0, hB0l]; omega)
  have HOV : Hid (over (bcs B0) (64 - sgW i) (bcs (sgChunk buf i)) = bcs B1) := Lib.hid (by
    have hA : (bcs (P14 ++ ([i] ++ ([0] ++ sgPre i base)))).length = 64 - sgW i := by simp [hPl, hpl]; omega
    rw [hB0, hB1, show sgW i = cl + (sgW i - cl) by omega, rep_split]
    have h1 := over_app (bcs (P14 ++ ([i] ++ ([0] ++ sgPre i base)))) (bcs (List.replicate cl 0)) (bcs (List.replicate (sgW i - cl) 0)) (bcs (sgChunk buf i)) (by simp [hcl0]) (64 - sgW i) hA.symm
    rw [show cl + (sgW i - cl) = sgW i by omega]
    simp only [bcs_append, List.append_assoc] at h1 ⊢
    exact h1)
  have HC15 : Hid (∀ W : World, Blk W xb (bcs B1) 5 → W.cell? ⟨xb, 15, none⟩ = some (.int .u8 0)) := Lib.hid (fun W hW => by
    rw [hW.cell, hB1]
    simp only [bcs_append]
    rw [List.getElem?_append_right (by simp [hPl])]
    simp [hPl]
    rfl)
  have HST : Hid ((bcs B1).set 15 (.int .u8 (cl : Int)) = bcs B2) := Lib.hid (by
    rw [hB1, hB2]
    simp only [bcs_append]
    rw [List.set_append_right _ _ (by simp [hPl])]
    simp [hPl, bcs, bc])
  have HB2 : Hid (B2 = List.replicate 4 0 ++ sgBody gen base run i buf) := Lib.hid (by
    rw [hB2, HP14.out]
    unfold sgBody
    rw [← hcl0]
    simp only [List.append_assoc])
  rw [← hB0] at hX4
  clear hcut hSV hlo0 hcl0 hcw hwl hpl hB0l hB0 hB1 hB2 hB1l hdrop hi
  go_wp2_with fail
  refine wp_region_inv (sectJ wc p xb i gen base lo cl r0 ba bcap vr SV buf B0 B1 B2) (by kernel_rfl) (by kernel_rfl) (by kernel_rfl) ?_ (Steps.cons 0 ?_ (Steps.cons 1 ?_ (Steps.cons 2 ?_ (Steps.cons 3 ?_ (Steps.cons 4 ?_ (Steps.cons 5 ?_ (Steps.cons 6 ?_ (Steps.cons 7 ?_ (Steps.cons 8 ?_ (Steps.cons 9 ?_ (Steps.cons 10 ?_ (Steps.cons 11 ?_ (Steps.cons 12 ?_ (Steps.cons 13 ?_ (Steps.cons 14 ?_ (Steps.cons 15 ?_ (Steps.cons 16 ?_ (Steps.cons 17 ?_ (Steps.cons 18 ?_ (Steps.nil 19)))))))))))))))))))) 19 rfl ?_
  · intro x
    exact ⟨fun _ => hX4.drew, fun h => absurd h (by decide), fun h => absurd h (by decide), fun h => absurd h (by decide), hS4.drew, Rv.keep hR4 (Keep.refl [] _).drew (by simp), (Keep.refl _ _).drew, fun h => absurd h (by decide), fun h => absurd h (by decide), fun h => absurd h (by decide), fun h => absurd h (by decide), fun h => absurd h (by decide), fun h => absurd h (by decide), fun h => absurd h (by decide), fun h => absurd h (by decide), fun h => absurd h (by decide), fun h => absurd h (by decide), fun h => absurd h (by decide), fun h => absurd h (by decide), fun h => absurd h (by decide), fun h => absurd h (by decide), fun h => absurd h (by decide), fun h => absurd h (by decide), fun h => absurd h (by decide), fun h => absurd h (by decide), fun h => absurd h (by decide)⟩
  · intro l x w' hJ hi hd
    obtain ⟨hx0, hx1, hx2, h1815, hS, hR, hK, h0, h1, h2, h3, h4, h5, h6, h7, h8, h9, h10, h11, h12, h13, h14, h15, h16, h17, h18⟩ := hJ
    refine Runs.of (b := ?bS0) ?eS0 ?_
    case eS0 => simp only [putV, Act.put, List.setIfInBounds_toArray, List.set_cons_zero, List.set_cons_succ]; rfl
    intro K' hK'
    go_simp
    exact hK'.go _ rfl ⟨hx0, hx1, hx2, h1815, hS, hR, hK, fun _ => rfl, h1, h2, h3, h4, h5, h6, h7, h8, h9, h10, h11, h12, h13, h14, h15, h16, h17, h18⟩
  · intro l x w' hJ hi hd
    obtain ⟨hx0, hx1, hx2, h1815, hS, hR, hK, h0, h1, h2, h3, h4, h5, h6, h7, h8, h9, h10, h11, h12, h13, h14, h15, h16, h17, h18⟩ := hJ
    refine Runs.of (b := ?bS1) ?eS1 ?_
    case eS1 => simp only [putV, Act.put, List.setIfInBounds_toArray, List.set_cons_zero, List.set_cons_succ]; rfl
    intro K' hK'
    go_simp
    exact hK'.go _ rfl ⟨hx0, hx1, hx2, h1815, hS, hR, hK, h0, fun _ => rfl, h2, h3, h4, h5, h6, h7, h8, h9, h10, h11, h12, h13, h14, h15, h16, h17, h18⟩
  · intro l x w' hJ hi hd
    obtain ⟨hx0, hx1, hx2, h1815, hS, hR, hK, h0, h1, h2, h3, h4, h5, h6, h7, h8, h9, h10, h11, h12, h13, h14, h15, h16, h17, h18⟩ := hJ
    refine Runs.of (b := ?bS2) ?eS2 ?_
    case eS2 => simp only [putV, Act.put, List.setIfInBounds_toArray, List.set_cons_zero, List.set_cons_succ]; rfl
    intro K' hK'
    go_simp
    exact hK'.go _ rfl ⟨hx0, hx1, hx2, h1815, hS, hR, hK, h0, h1, fun _ => rfl, h3, h4, h5, h6, h7, h8, h9, h10, h11, h12, h13, h14, h15, h16, h17, h18⟩
  · intro l x w' hJ hi hd
    obtain ⟨hx0, hx1, hx2, h1815, hS, hR, hK, h0, h1, h2, h3, h4, h5, h6, h7, h8, h9, h10, h11, h12, h13, h14, h15, h16, h17, h18⟩ := hJ
    have e2 := h2 (show l 2 = true by first | exact hd.1 rfl | exact hd.2.1 rfl | exact hd.2.2.1 rfl | exact hd.2.2.2.1 rfl | exact hd.2.2.2.2.1 rfl | exact hd.2.2.2.2.2.1 rfl)
    refine Runs.of (b := ?bS3) ?eS3 ?_
    case eS3 => simp only [putV, Act.put, List.setIfInBounds_toArray, List.set_cons_zero, List.set_cons_succ, e2]; rfl
    intro K' hK'
    go_simp
    exact hK'.go _ rfl ⟨hx0, hx1, hx2, h1815, hS, hR, hK, h0, h1, h2, fun _ => rfl, h4, h5, h6, h7, h8, h9, h10, h11, h12, h13, h14, h15, h16, h17, h18⟩
  · intro l x w' hJ hi hd
    obtain ⟨hx0, hx1, hx2, h1815, hS, hR, hK, h0, h1, h2, h3, h4, h5, h6, h7, h8, h9, h10, h11, h12, h13, h14, h15, h16, h17, h18⟩ := hJ
    have e3 := h3 (show l 3 = true by first | exact hd.1 rfl | exact hd.2.1 rfl | exact hd.2.2.1 rfl | exact hd.2.2.2.1 rfl | exact hd.2.2.2.2.1 rfl | exact hd.2.2.2.2.2.1 rfl)
    refine Runs.of (b := ?bS4) ?eS4 ?_
    case eS4 => simp only [putV, Act.put, List.setIfInBounds_toArray, List.set_cons_zero, List.set_cons_succ, e3]; rfl
    intro K' hK'
    go_simp
    exact hK'.go _ rfl ⟨hx0, hx1, hx2, h1815, hS, hR, hK, h0, h1, h2, h3, fun _ => rfl, h5, h6, h7, h8, h9, h10, h11, h12, h13, h14, h15, h16, h17, h18⟩
  · intro l x w' hJ hi hd
    obtain ⟨hx0, hx1, hx2, h1815, hS, hR, hK, h0, h1, h2, h3, h4, h5, h6, h7, h8, h9, h10, h11, h12, h13, h14, h15, h16, h17, h18⟩ := hJ
    have e4 := h4 (show l 4 = true by first | exact hd.1 rfl | exact hd.2.1 rfl | exact hd.2.2.1 rfl | exact hd.2.2.2.1 rfl | exact hd.2.2.2.2.1 rfl | exact hd.2.2.2.2.2.1 rfl)
    have c3 := seg_3 hS
    refine Runs.of (b := ?bS5) ?eS5 ?_
    case eS5 => simp only [putV, Act.put, List.setIfInBounds_toArray, List.set_cons_zero, List.set_cons_succ, e4]; rfl
    intro K' hK'
    go_simp
    exact hK'.go _ rfl ⟨hx0, hx1, hx2, h1815, hS, hR, hK, h0, h1, h2, h3, h4, fun _ => rfl, h6, h7, h8, h9, h10, h11, h12, h13, h14, h15, h16, h17, h18⟩
  · intro l x w' hJ hi hd
    obtain ⟨hx0, hx1, hx2, h1815, hS, hR, hK, h0, h1, h2, h3, h4, h5, h6, h7, h8, h9, h10, h11, h12, h13, h14, h15, h16, h17, h18⟩ := hJ
    refine Runs.of (b := ?bS6) ?eS6 ?_
    case eS6 => simp only [putV, Act.put, List.setIfInBounds_toArray, List.set_cons_zero, List.set_cons_succ]; rfl
    intro K' hK'
    go_simp
    exact hK'.go _ rfl ⟨hx0, hx1, hx2, h1815, hS, hR, hK, h0, h1, h2, h3, h4, h5, fun _ => rfl, h7, h8, h9, h10, h11, h12, h13, h14, h15, h16, h17, h18⟩
  · intro l x w' hJ hi hd
    obtain ⟨hx0, hx1, hx2, h1815, hS, hR, hK, h0, h1, h2, h3, h4, h5, h6, h7, h8, h9, h10, h11, h12, h13, h14, h15, h16, h17, h18⟩ := hJ
    have e6 := h6 (show l 6 = true by first | exact hd.1 rfl | exact hd.2.1 rfl | exact hd.2.2.1 rfl | exact hd.2.2.2.1 rfl | exact hd.2.2.2.2.1 rfl | exact hd.2.2.2.2.2.1 rfl)
    refine Runs.of (b := ?bS7) ?eS7 ?_
    case eS7 => simp only [putV, Act.put, List.setIfInBounds_toArray, List.set_cons_zero, List.set_cons_succ, e6]; rfl
    intro K' hK'
    go_simp
    refine (start_any i (by have := HI8.out; omega) (st0 i : Int) rfl).mono ?_
    rintro e w2 ⟨rfl, rfl⟩
    go_simp
    exact hK'.go _ rfl ⟨hx0, hx1, hx2, h1815, hS, hR, hK, h0, h1, h2, h3, h4, h5, h6, fun _ => rfl, h8, h9, h10, h11, h12, h13, h14, h15, h16, h17, h18⟩
  · intro l x w' hJ hi hd
    obtain ⟨hx0, hx1, hx2, h1815, hS, hR, hK, h0, h1, h2, h3, h4, h5, h6, h7, h8, h9, h10, h11, h12, h13, h14, h15, h16, h17, h18⟩ := hJ
    refine Runs.of (b := ?bS8) ?eS8 ?_
    case eS8 => simp only [putV, Act.put, List.setIfInBounds_toArray, List.set_cons_zero, List.set_cons_succ]; rfl
    intro K' hK'
    go_simp
    exact hK'.go _ rfl ⟨hx0, hx1, hx2, h1815, hS, hR, hK, h0, h1, h2, h3, h4, h5, h6, h7, fun _ => rfl, h9, h10, h11, h12, h13, h14, h15, h16, h17, h18⟩
  · intro l x w' hJ hi hd
    obtain ⟨hx0, hx1, hx2, h1815, hS, hR, hK, h0, h1, h2, h3, h4, h5, h6, h7, h8, h9, h10, h11, h12, h13, h14, h15, h16, h17, h18⟩ := hJ
    have e8 := h8 (show l 8 = true by first | exact hd.1 rfl | exact hd.2.1 rfl | exact hd.2.2.1 rfl | exact hd.2.2.2.1 rfl | exact hd.2.2.2.2.1 rfl | exact hd.2.2.2.2.2.1 rfl)
    refine Runs.of (b := ?bS9) ?eS9 ?_
    case eS9 => simp only [putV, Act.put, List.setIfInBounds_toArray, List.set_cons_zero, List.set_cons_succ, e8]; rfl
    intro K' hK'
    go_simp
    exact hK'.go _ rfl ⟨hx0, hx1, hx2, h1815, hS, hR, hK, h0, h1, h2, h3, h4, h5, h6, h7, h8, fun _ => rfl, h10, h11, h12, h13, h14, h15, h16, h17, h18⟩
  · intro l x w' hJ hi hd
    obtain ⟨hx0, hx1, hx2, h1815, hS, hR, hK, h0, h1, h2, h3, h4, h5, h6, h7, h8, h9, h10, h11, h12, h13, h14, h15, h16, h17, h18⟩ := hJ
    have e9 := h9 (show l 9 = true by first | exact hd.1 rfl | exact hd.2.1 rfl | exact hd.2.2.1 rfl | exact hd.2.2.2.1 rfl | exact hd.2.2.2.2.1 rfl | exact hd.2.2.2.2.2.1 rfl)
    refine Runs.of (b := ?bS10) ?eS10 ?_
    case eS10 => simp only [putV, Act.put, List.setIfInBounds_toArray, List.set_cons_zero, List.set_cons_succ, e9]; rfl
    intro K' hK'
    go_simp
    exact hK'.go _ rfl ⟨hx0, hx1, hx2, h1815, hS, hR, hK, h0, h1, h2, h3, h4, h5, h6, h7, h8, h9, fun _ => rfl, h11, h12, h13, h14, h15, h16, h17, h18⟩
  · intro l x w' hJ hi hd
    obtain ⟨hx0, hx1, hx2, h1815, hS, hR, hK, h0, h1, h2, h3, h4, h5, h6, h7, h8, h9, h10, h11, h12, h13, h14, h15, h16, h17, h18⟩ := hJ
    have e10 := h10 (show l 10 = true by first | exact hd.1 rfl | exact hd.2.1 rfl | exact hd.2.2.1 rfl | exact hd.2.2.2.1 rfl | exact hd.2.2.2.2.1 rfl | exact hd.2.2.2.2.2.1 rfl)
    have c3 := seg_3 hS
    refine Runs.of (b := ?bS11) ?eS11 ?_
    case eS11 => simp only [putV, Act.put, List.setIfInBounds_toArray, List.set_cons_zero, List.set_cons_succ, e10]; rfl
    intro K' hK'
    go_simp
    exact hK'.go _ rfl ⟨hx0, hx1, hx2, h1815, hS, hR, hK, h0, h1, h2, h3, h4, h5, h6, h7, h8, h9, h10, fun _ => rfl, h12, h13, h14, h15, h16, h17, h18⟩
  · intro l x w' hJ hi hd
    obtain ⟨hx0, hx1, hx2, h1815, hS, hR, hK, h0, h1, h2, h3, h4, h5, h6, h7, h8, h9, h10, h11, h12, h13, h14, h15, h16, h17, h18⟩ := hJ
    have e11 := h11 (show l 11 = true by first | exact hd.1 rfl | exact hd.2.1 rfl | exact hd.2.2.1 rfl | exact hd.2.2.2.1 rfl | exact hd.2.2.2.2.1 rfl | exact hd.2.2.2.2.2.1 rfl)
    refine Runs.of (b := ?bS12) ?eS12 ?_
    case eS12 => simp only [putV, Act.put, List.setIfInBounds_toArray, List.set_cons_zero, List.set_cons_succ, e11]; rfl
    intro K' hK'
    go_simp
    exact hK'.go _ rfl ⟨hx0, hx1, hx2, h1815, hS, hR, hK, h0, h1, h2, h3, h4, h5, h6, h7, h8, h9, h10, h11, fun _ => rfl, h13, h14, h15, h16, h17, h18⟩
  · intro l x w' hJ hi hd
    obtain ⟨hx0, hx1, hx2, h1815, hS, hR, hK, h0, h1, h2, h3, h4, h5, h6, h7, h8, h9, h10, h11, h12, h13, h14, h15, h16, h17, h18⟩ := hJ
    have e7 := h7 (show l 7 = true by first | exact hd.1 rfl | exact hd.2.1 rfl | exact hd.2.2.1 rfl | exact hd.2.2.2.1 rfl | exact hd.2.2.2.2.1 rfl | exact hd.2.2.2.2.2.1 rfl)
    have e12 := h12 (show l 12 = true by first | exact hd.1 rfl | exact hd.2.1 rfl | exact hd.2.2.1 rfl | exact hd.2.2.2.1 rfl | exact hd.2.2.2.2.1 rfl | exact hd.2.2.2.2.2.1 rfl)
    refine Runs.of (b := ?bS13) ?eS13 ?_
    case eS13 => simp only [putV, Act.put, List.setIfInBounds_toArray, List.set_cons_zero, List.set_cons_succ, e7, e12]; rfl
    intro K' hK'
    go_simp
    exact hK'.go _ rfl ⟨hx0, hx1, hx2, h1815, hS, hR, hK, h0, h1, h2, h3, h4, h5, h6, h7, h8, h9, h10, h11, h12, fun _ => congrArg (Value.int .i64) HMN.out, h14, h15, h16, h17, h18⟩
  · intro l x w' hJ hi hd
    obtain ⟨hx0, hx1, hx2, h1815, hS, hR, hK, h0, h1, h2, h3, h4, h5, h6, h7, h8, h9, h10, h11, h12, h13, h14, h15, h16, h17, h18⟩ := hJ
    have e5 := h5 (show l 5 = true by first | exact hd.1 rfl | exact hd.2.1 rfl | exact hd.2.2.1 rfl | exact hd.2.2.2.1 rfl | exact hd.2.2.2.2.1 rfl | exact hd.2.2.2.2.2.1 rfl)
    have e13 := h13 (show l 13 = true by first | exact hd.1 rfl | exact hd.2.1 rfl | exact hd.2.2.1 rfl | exact hd.2.2.2.1 rfl | exact hd.2.2.2.2.1 rfl | exact hd.2.2.2.2.2.1 rfl)
    have hcut := HCUT.out
    refine Runs.of (b := ?bS14) ?eS14 ?_
    case eS14 => simp only [putV, Act.put, List.setIfInBounds_toArray, List.set_cons_zero, List.set_cons_succ, e5, e13]; rfl
    intro K' hK'
    go_simp
    exact hK'.go _ rfl ⟨hx0, hx1, hx2, h1815, hS, hR, hK, h0, h1, h2, h3, h4, h5, h6, h7, h8, h9, h10, h11, h12, h13, fun _ => rfl, h15, h16, h17, h18⟩
  · intro l x w' hJ hi hd
    obtain ⟨hx0, hx1, hx2, h1815, hS, hR, hK, h0, h1, h2, h3, h4, h5, h6, h7, h8, h9, h10, h11, h12, h13, h14, h15, h16, h17, h18⟩ := hJ
    have e1 := h1 (show l 1 = true by first | exact hd.1 rfl | exact hd.2.1 rfl | exact hd.2.2.1 rfl | exact hd.2.2.2.1 rfl | exact hd.2.2.2.2.1 rfl | exact hd.2.2.2.2.2.1 rfl)
    have e14 := h14 (show l 14 = true by first | exact hd.1 rfl | exact hd.2.1 rfl | exact hd.2.2.1 rfl | exact hd.2.2.2.1 rfl | exact hd.2.2.2.2.1 rfl | exact hd.2.2.2.2.2.1 rfl)
    refine Runs.of (b := ?bS15) ?eS15 ?_
    case eS15 => simp only [putV, Act.put, List.setIfInBounds_toArray, List.set_cons_zero, List.set_cons_succ, e1, e14]; rfl
    intro K' hK'
    have hx0' := hx0 hi
    refine step_copy_cut (wanted_free rfl) (.tmp 42) (.tmp 55) 30 30 rfl 5 i8 Try.underlying30 hi8 hz81 xb (64 - sgW i) (sgW i) (sgW i) rfl SV (buf.length - lo) (bcs (buf.drop lo)) rfl (HSV.out w' hR) (bcs_one _) (hx0'.there _ _ HTH.out) ?_
    rw [HGO.out, HTK.out]
    have hx1' := hx0'.setCells (bcs (sgChunk buf i)) (64 - sgW i) w' _ HTL.out
    rw [HOV.out] at hx1'
    have k2 : Keep [xb] w' (w'.setCells xb (64 - sgW i) (bcs (sgChunk buf i))) := Keep.setCells _ _ _ _ (Keep.refl _ _) (.inl (by simp))
    have hlo := HLO.out
    exact hK'.go (.int .i64 (cl : Int)) rfl ⟨fun h => Bool.noConfusion (show true = false from h), fun _ _ => hx1', fun h => absurd (h1815 h) (by simp [hi]), fun _ => rfl, hS.keep k2 (by simp; exact hlo.2), Rd.keep0 hR k2 (fun q hq h0 => by simp; exact hlo.1 q hq h0), hK.trans k2, h0, h1, h2, h3, h4, h5, h6, h7, h8, h9, h10, h11, h12, h13, h14, fun _ => ⟨rfl, rfl⟩, fun h => absurd ((h16 h).2) (by simp [hi]), h17, h18⟩
  · intro l x w' hJ hi hd
    obtain ⟨hx0, hx1, hx2, h1815, hS, hR, hK, h0, h1, h2, h3, h4, h5, h6, h7, h8, h9, h10, h11, h12, h13, h14, h15, h16, h17, h18⟩ := hJ
    have e15 := h15 (show l 15 = true by first | exact hd.1 rfl | exact hd.2.1 rfl | exact hd.2.2.1 rfl | exact hd.2.2.2.1 rfl | exact hd.2.2.2.2.1 rfl | exact hd.2.2.2.2.2.1 rfl)
    have hcl := HCL.out
    refine Runs.of (b := ?bS16) ?eS16 ?_
    case eS16 => simp only [putV, Act.put, List.setIfInBounds_toArray, List.set_cons_zero, List.set_cons_succ, e15.1]; rfl
    intro K' hK'
    go_simp
    exact hK'.go _ rfl ⟨hx0, hx1, hx2, h1815, hS, hR, hK, h0, h1, h2, h3, h4, h5, h6, h7, h8, h9, h10, h11, h12, h13, h14, h15, fun _ => ⟨congrArg (Value.int .u8) HWR.out, e15.2⟩, h17, h18⟩
  · intro l x w' hJ hi hd
    obtain ⟨hx0, hx1, hx2, h1815, hS, hR, hK, h0, h1, h2, h3, h4, h5, h6, h7, h8, h9, h10, h11, h12, h13, h14, h15, h16, h17, h18⟩ := hJ
    have e0 := h0 (show l 0 = true by first | exact hd.1 rfl | exact hd.2.1 rfl | exact hd.2.2.1 rfl | exact hd.2.2.2.1 rfl | exact hd.2.2.2.2.1 rfl | exact hd.2.2.2.2.2.1 rfl)
    refine Runs.of (b := ?bS17) ?eS17 ?_
    case eS17 => simp only [putV, Act.put, List.setIfInBounds_toArray, List.set_cons_zero, List.set_cons_succ, e0]; rfl
    intro K' hK'
    go_simp
    exact hK'.go _ rfl ⟨hx0, hx1, hx2, h1815, hS, hR, hK, h0, h1, h2, h3, h4, h5, h6, h7, h8, h9, h10, h11, h12, h13, h14, h15, h16, fun _ => rfl, h18⟩
  · intro l x w' hJ hi hd
    obtain ⟨hx0, hx1, hx2, h1815, hS, hR, hK, h0, h1, h2, h3, h4, h5, h6, h7, h8, h9, h10, h11, h12, h13, h14, h15, h16, h17, h18⟩ := hJ
    have e16 := h16 (show l 16 = true by first | exact hd.1 rfl | exact hd.2.1 rfl | exact hd.2.2.1 rfl | exact hd.2.2.2.1 rfl | exact hd.2.2.2.2.1 rfl | exact hd.2.2.2.2.2.1 rfl)
    have e17 := h17 (show l 17 = true by first | exact hd.1 rfl | exact hd.2.1 rfl | exact hd.2.2.1 rfl | exact hd.2.2.2.1 rfl | exact hd.2.2.2.2.1 rfl | exact hd.2.2.2.2.2.1 rfl)
    have hx1' := hx1 e16.2 hi
    have f1 := hx1'.free 15
    have f0 := HC15.out w' hx1'
    refine Runs.of (b := ?bS18) ?eS18 ?_
    case eS18 => simp only [putV, Act.put, List.setIfInBounds_toArray, List.set_cons_zero, List.set_cons_succ, e16.1, e17]; rfl
    intro K' hK'
    have HL15 := Lib.hid e16.2
    clear e16
    go_simp
    have hx2' := hx1'.set 15 (.int .u8 (cl : Int))
    rw [HST.out] at hx2'
    have k2 : Keep [xb] w' (w'.setCell ⟨xb, 15, none⟩ (.int .u8 (cl : Int))) := (Keep.refl _ _).setCell (.inl (by simp)) _
    have hlo := HLO.out
    exact hK'.go undef rfl ⟨fun h => absurd (show l 15 = false from h) (by simp [HL15.out]), fun _ h => Bool.noConfusion (show true = false from h), fun _ => hx2', fun _ => HL15.out, hS.keep k2 (by simp; exact hlo.2), Rd.keep0 hR k2 (fun q hq h0 => by simp; exact hlo.1 q hq h0), hK.trans k2, h0, h1, h2, h3, h4, h5, h6, h7, h8, h9, h10, h11, h12, h13, h14, h15, h16, h17, fun _ => trivial⟩
  · intro l x w3 hJ hl
    obtain ⟨hx0, hx1, hx2, h1815, hS, hR, hK, h0, h1, h2, h3, h4, h5, h6, h7, h8, h9, h10, h11, h12, h13, h14, h15, h16, h17, h18⟩ := hJ
    have hX6 := hx2 (hl 18 (by decide))
    clear h0 h1 h2 h3 h4 h5 h6 h7 h8 h9 h10 h11 h12 h13 h14 h15 h16 h17 h18 hx0 hx1 hx2 h1815 hX4 hS4 hR4 hl
    simp only [putV, Act.put, List.setIfInBounds_toArray, List.set_cons_zero, List.set_cons_succ]
    simp only [Nat.zero_add, Nat.reduceAdd]
    have K6 : Keep [] w w3 := hK4.then hK (fun q hq hlt => by simp at hq; omega)
    clear hS hR hK hK4
    rw [HB2.out] at hX6
    have hlen := sgBody_len gen base run i buf
    have hby := sgBody_byte gen base run i buf (by have := HI8.out; omega) hb
    have hsz := hX6.lt
    have HI := Lib.hid (show be 4 (crcSum (sgBody gen base run i buf)) ++ sgBody gen base run i buf = sgImg gen base run i buf from rfl)
    have hS := sumLt (sgBody gen base run i buf) hby
    generalize sgBody gen base run i buf = body at *
    have HE := Lib.hid (rfl : crcSum body = crcSum body)
    generalize hSS : crcSum body = S at hS HI HE
    have HSS := Lib.hid hSS.symm
    clear hSS HE HB2 HOV HST HC15
    have hRb : Rd w3 (.slice (some ⟨xb, 4, none⟩) 60 60) body := by
      unfold Rd
      rw [hlen]
      refine ⟨by simp [hlen], _, 60, rfl, by omega, fun _ => ⟨_, 4, rfl, hsz, fun i hi => ?_⟩⟩
      rw [hX6.cell]
      unfold bcs
      rw [List.map_append, List.getElem?_append_right (by simp)]
      simp
    have hp : Rv (w3.alloc (.cells #[.slice (some ⟨xb, 4, none⟩) 60 60] 30)).drew 1 (.slice (some ⟨w3.heap.size, 0, none⟩) 1 1) 1 [.slice (some ⟨xb, 4, none⟩) 60 60] := (Rv.new w3 [.slice (some ⟨xb, 4, none⟩) 60 60] 30 1 1 1 rfl (by omega) _ rfl).keep (Keep.refl [] _).drew (by simp)
    have hq : Rd (w3.alloc (.cells #[.slice (some ⟨xb, 4, none⟩) 60 60] 30)).drew (.slice (some ⟨xb, 4, none⟩) 60 60) body := Rv.keep (Rv.alloc hRb _) (Keep.refl [] _).drew (by simp)
    have hB2a : Blk (w3.alloc (.cells #[.slice (some ⟨xb, 4, none⟩) 60 60] 30)).drew xb (bcs (List.replicate 4 0 ++ body)) 5 := (hX6.alloc _).drew
    have hSum := Sum_one _ _ _ body hp hq hby (by omega) S HSS.out
    have hPut : Calls Try.prog 35 #[.slice (some ⟨xb, 0, none⟩) 4 64, .int .u64 S] (w3.alloc (.cells #[.slice (some ⟨xb, 4, none⟩) 60 60] 30)).drew fun e w' => e = .returned (.tuple #[]) ∧ Blk w' xb (bcs (be 4 S ++ body)) 5 ∧ Keep [xb] (w3.alloc (.cells #[.slice (some ⟨xb, 4, none⟩) 60 60] 30)).drew w' := sput_any [] (List.replicate 4 0) body 64 S hB2a (by omega) (by simp) (by simp)
    obtain ⟨SI, hSI⟩ : ∃ z : Int, z = (S : Int) := ⟨_, rfl⟩
    have hSI0 : 0 ≤ SI := by omega
    have hSI1 : SI < 4294967296 := by omega
    rw [← hSI] at hSum hPut
    clear hSI
    have hwr : IntKind.u64.wrap SI = SI := by
      simp [IntKind.wrap, IntKind.bits, IntKind.signed]
      omega
    have HSum := Lib.hid hSum
    have HPut := Lib.hid hPut
    clear hSum hPut hp hq hB2a hRb
    go_wp2_with fail
    go_region_with
      (first
        | (go_at_call 35; (try rw [← hws]); (try rw [hwr]); refine HPut.out.mono ?_; rintro e w4 ⟨rfl, hB3, k3⟩)
        | (go_at_call 52; refine HSum.out.mono ?_; rintro e ws ⟨rfl, hws⟩)
        | fail)
    rw [HI.out] at hB3
    have K7 : Keep [] w w4 := ((K6.alloc _).drew.then k3 (by simp; omega))
    go_wp2_with fail
    go_ret
    exact ⟨_, rfl, (blkOwns (base := xb) hB3 (Nat.le_refl _) 64 1 (by simp [sgImg_len]) (by unfold maxLen; omega) : w4.ownsRow _ _ _ _ _ _) |> fun h => by unfold Buf; rw [sgImg_len, hxb]; exact h, K7⟩
end Go.Proofs.Ytpibpapolcdeiaa
/- slog: a sector is written. -/
namespace Go.Proofs.Ytpibpapolcdeiaa
open Go.ChangeShapes Go.WideShapes Go.ChangeAt Go.RowKit
set_option linter.unusedVariables false
set_option linter.unusedSimpArgs false
set_option maxRecDepth 100000

def lgC (d : Nat) (frm segs : Int) (vl : Value) (nx run : Int) (fr : Bool) : List Value := [.pointer (some ⟨d, 0, none⟩), .int .i64 frm, .int .i64 segs, vl, .int .i64 nx, .int .i64 run, .bool fr]
section
variable {w : World} {lb d : Nat} {frm segs nx run : Int} {vl : Value} {fr : Bool} {T : TypeId}
theorem lg_0 (h : Blk w lb (lgC d frm segs vl nx run fr) T) : w.cell? ⟨lb, 0, none⟩ = some (.pointer (some ⟨d, 0, none⟩)) := h.cell 0
theorem lg_1 (h : Blk w lb (lgC d frm segs vl nx run fr) T) : w.cell? ⟨lb, 1, none⟩ = some (.int .i64 frm) := h.cell 1
theorem lg_2 (h : Blk w lb (lgC d frm segs vl nx run fr) T) : w.cell? ⟨lb, 2, none⟩ = some (.int .i64 segs) := h.cell 2
theorem lg_3 (h : Blk w lb (lgC d frm segs vl nx run fr) T) : w.cell? ⟨lb, 3, none⟩ = some vl := h.cell 3
theorem lg_4 (h : Blk w lb (lgC d frm segs vl nx run fr) T) : w.cell? ⟨lb, 4, none⟩ = some (.int .i64 nx) := h.cell 4
theorem lg_5 (h : Blk w lb (lgC d frm segs vl nx run fr) T) : w.cell? ⟨lb, 5, none⟩ = some (.int .i64 run) := h.cell 5
theorem lg_6 (h : Blk w lb (lgC d frm segs vl nx run fr) T) : w.cell? ⟨lb, 6, none⟩ = some (.bool fr) := h.cell 6
end
theorem drewnK {S : List Nat} {a w : World} (h : Keep S a w) (n : Nat) : Keep S a (w.drewN n) := ⟨h.os, h.tape, h.output, h.size, h.block⟩
def writeJ (w0 : World) (d sb lb p c frm kk idx i gen base run : Nat) (L : List Sec) (sc : Sec) (segs nx : Int) (r0 : Int) (vl vb vr : Value) (fr : Bool) (buf : List Nat) (l : Nat → Bool) (x : Nat → Value) (w' : World) : Prop :=
  (l 20 = false → IsDev w' d sb L c) ∧
  (l 20 = true → IsDev w' d sb (L.set idx ⟨over sc.now 0 (sgImg gen base run i buf), sc.lasts, true⟩) (c + 1)) ∧
  (Blk w' lb (lgC d frm segs vl nx run fr) 75) ∧
  (Blk w' p (sgC gen base r0 vb vr) 80) ∧
  (Rd w' vb buf) ∧
  (Keep [d, sb] w0 w') ∧
  (l 20 = true → l 19 = true) ∧
  (l 0 = true → x 0 = .pointer (some ⟨lb, 0, none⟩)) ∧
  (l 1 = true → x 1 = .pointer (some ⟨lb, 0, none⟩)) ∧
  (l 2 = true → x 2 = .pointer (some ⟨lb, 0, none⟩)) ∧
  (l 3 = true → x 3 = .pointer (some ⟨d, 0, none⟩)) ∧
  (l 4 = true → x 4 = .pointer (some ⟨lb, 0, none⟩)) ∧
  (l 5 = true → x 5 = .pointer (some ⟨lb, 0, none⟩)) ∧
  (l 6 = true → x 6 = .pointer (some ⟨lb, 1, none⟩)) ∧
  (l 7 = true → x 7 = .int .i64 (frm : Int)) ∧
  (l 8 = true → x 8 = .int .i64 (kk : Int)) ∧
  (l 9 = true → x 9 = .int .i64 ((kk : Int) * 8)) ∧
  (l 10 = true → x 10 = .int .i64 ((frm : Int) + (kk : Int) * 8)) ∧
  (l 11 = true → x 11 = .int .i64 (i : Int)) ∧
  (l 12 = true → x 12 = .int .i64 (idx : Int)) ∧
  (l 13 = true → x 13 = .pointer (some ⟨p, 0, none⟩)) ∧
  (l 14 = true → x 14 = .int .i64 (i : Int)) ∧
  (l 15 = true → x 15 = .pointer (some ⟨lb, 0, none⟩)) ∧
  (l 16 = true → x 16 = .pointer (some ⟨lb, 0, none⟩)) ∧
  (l 17 = true → x 17 = .pointer (some ⟨lb, 5, none⟩)) ∧
  (l 18 = true → x 18 = .int .i64 (run : Int)) ∧
  (l 19 = true → Buf w' w0.heap.size 5 (x 19) (sgImg gen base run i buf)) ∧
  (l 20 = true → x 20 = .int .i64 0) ∧
  (l 21 = true → x 21 = .int .i64 0)
set_option maxHeartbeats 8000000 in
theorem lwrite_any {w : World} {d sb lb p c : Nat} {L : List Sec} (hd : IsDev w d sb L c) (hc : c < 1099511627776) (frm segs : Nat) (vl : Value) (nx : Int) (run : Nat) (fr : Bool) (hl : Blk w lb (lgC d frm segs vl nx run fr) 75)
    (gen base : Nat) (r0 : Int) (vb vr : Value) (buf : List Nat) (hs : Blk w p (sgC gen base r0 vb vr) 80) (hr : Rd w vb buf) (hb : ∀ c ∈ buf, c < 256) (hbl : buf.length ≤ 1000) (i : Nat) (hi : i < 8) (hg : gen < 281474976710656 ∧ base < 281474976710656 ∧ run < 4294967296)
    (hg0 : 0 < gen) (hsg : 0 < segs ∧ segs ≤ 200) (hfr : frm ≤ 100000) (idx : Nat) (hidx : idx = frm + (gen - 1) % segs * 8 + i) (hlt : idx < L.length) (hnu : ∀ q, vb.ownBlock = some q → 0 < buf.length → q ∉ [d, sb]) :
    Calls Try.prog 37 #[.pointer (some ⟨lb, 0, none⟩), .pointer (some ⟨p, 0, none⟩), .int .i64 (i : Int)] w fun e w' => e = .returned (.int .i64 0) ∧ IsDev w' d sb (L.set idx ⟨sgImg gen base run i buf, (L.getD idx zeroSec).lasts, true⟩) (c + 1) ∧ Keep [d, sb] w w' := by
  obtain ⟨sc, hsc, hscm⟩ := sec_mem hlt
  have hscok := hd.ok sc hscm
  have hget : L.getD idx zeroSec = sc := by rw [List.getD_eq_getElem?_getD, hsc]; rfl
  have hov : over sc.now 0 (sgImg gen base run i buf) = sgImg gen base run i buf := by
    unfold over
    rw [List.take_zero, List.nil_append, Nat.zero_add, List.drop_of_length_le (by rw [sgImg_len, hscok.1]; omega), List.append_nil]
  have HEND : Hid (L.set idx ⟨over sc.now 0 (sgImg gen base run i buf), sc.lasts, true⟩ = L.set idx ⟨sgImg gen base run i buf, (L.getD idx zeroSec).lasts, true⟩) := Lib.hid (by rw [hov, hget])
  have HSC := Lib.hid hsc
  have HIB := Lib.hid (sgImg_byte gen base run i buf (by omega) hb)
  have HC := Lib.hid hc
  have HBY := Lib.hid hb
  have HBL := Lib.hid hbl
  have HI8 := Lib.hid hi
  have HG := Lib.hid hg
  have HNE := Lib.hid (show lb ∉ [d, sb] ∧ p ∉ [d, sb] from ⟨by
    have h1 := hl.ty.ne hd.dev.ty (by decide)
    have h2 := hl.ty.ne hd.secs.ty (by decide)
    simp; exact ⟨h1, h2⟩, by
    have h1 := hs.ty.ne hd.dev.ty (by decide)
    have h2 := hs.ty.ne hd.secs.ty (by decide)
    simp; exact ⟨h1, h2⟩⟩)
  have HK3 := Lib.hid hnu
  have HK2 : Hid (∀ q, w.heap.size ≤ q → q ∉ [d, sb]) := Lib.hid (fun q hq => by have := hd.dev.lt; have := hd.secs.lt; simp; omega)
  obtain ⟨kk, hkk⟩ : ∃ kk, kk = (gen - 1) % segs := ⟨_, rfl⟩
  have hkl : kk < segs := by rw [hkk]; exact Nat.mod_lt _ hsg.1
  have hkI : (((gen : Int) - 1) % (segs : Int)) = (kk : Int) := by rw [hkk, show ((gen : Int) - 1) = ((gen - 1 : Nat) : Int) by omega]; exact (Int.natCast_emod _ _).symm
  have hkT : (((gen : Int) - 1).tmod (segs : Int)) = (kk : Int) := by rw [Int.tmod_eq_emod_of_nonneg (by omega)]; exact hkI
  rw [← hkk] at hidx
  have HIX : Hid ((frm : Int) + (kk : Int) * 8 + (i : Int) = (idx : Int)) := Lib.hid (by omega)
  have HBD := Lib.hid (show kk < 200 ∧ frm ≤ 100000 ∧ i < 8 by omega)
  have HWA : Hid (IntKind.i64.wrap ((kk : Int) * 8) = (kk : Int) * 8) := Lib.hid (by rw [IntKind.wrap_i64]; omega)
  have HWB : Hid (IntKind.i64.wrap ((frm : Int) + (kk : Int) * 8) = (frm : Int) + (kk : Int) * 8) := Lib.hid (by rw [IntKind.wrap_i64]; omega)
  have HWC : Hid (IntKind.i64.wrap ((frm : Int) + (kk : Int) * 8 + (i : Int)) = (idx : Int)) := Lib.hid (by rw [IntKind.wrap_i64]; have := HIX.out; omega)
  have hsp : (segs : Int) ≠ 0 := by omega
  have hgn : 1 ≤ (gen : Int) := by omega
  have s0 := seg_0 hs
  have l2 := lg_2 hl
  have hg9 := hg.1
  clear hsc hscm hscok hget hov hkk hb hbl hi hg hc hidx hfr
  go_enter Try.func37, Try.ntmps37
  go_upto_region 1 with fail
  go_quiet (fail)
  have k1 := drewnK (Keep.refl [] w) nq
  have hd1 := hd.keep k1 (by simp) (by simp)
  have hl1 := hl.keep k1 (by simp)
  have hs1 := hs.keep k1 (by simp)
  have hr1 := Rv.keep hr k1 (by simp)
  have HLT := Lib.hid hlt
  have HZ := Lib.hid (show w.heap.size ≤ (w.drewN nq).heap.size from k1.size)
  clear hd hl hs hr s0 l2 hlt hkl hkI hkT hsp hgn hg9 hsg hg0 hnu
  generalize w.drewN nq = w1 at *
  go_wp2_with fail
  refine wp_region_inv (writeJ w1 d sb lb p c frm kk idx i gen base run L sc segs nx r0 vl vb vr fr buf) (by kernel_rfl) (by kernel_rfl) (by kernel_rfl) ?_ (Steps.cons 0 ?_ (Steps.cons 1 ?_ (Steps.cons 2 ?_ (Steps.cons 3 ?_ (Steps.cons 4 ?_ (Steps.cons 5 ?_ (Steps.cons 6 ?_ (Steps.cons 7 ?_ (Steps.cons 8 ?_ (Steps.cons 9 ?_ (Steps.cons 10 ?_ (Steps.cons 11 ?_ (Steps.cons 12 ?_ (Steps.cons 13 ?_ (Steps.cons 14 ?_ (Steps.cons 15 ?_ (Steps.cons 16 ?_ (Steps.cons 17 ?_ (Steps.cons 18 ?_ (Steps.cons 19 ?_ (Steps.cons 20 ?_ (Steps.cons 21 ?_ (Steps.nil 22))))))))))))))))))))))) 22 rfl ?_
  · intro x
    exact ⟨fun _ => hd1.keep (Keep.refl [] _).drew (by simp) (by simp), fun h => absurd h (by decide), hl1.drew, hs1.drew, Rv.keep hr1 (Keep.refl [] _).drew (by simp), (Keep.refl _ _).drew, fun h => absurd h (by decide), fun h => absurd h (by decide), fun h => absurd h (by decide), fun h => absurd h (by decide), fun h => absurd h (by decide), fun h => absurd h (by decide), fun h => absurd h (by decide), fun h => absurd h (by decide), fun h => absurd h (by decide), fun h => absurd h (by decide), fun h => absurd h (by decide), fun h => absurd h (by decide), fun h => absurd h (by decide), fun h => absurd h (by decide), fun h => absurd h (by decide), fun h => absurd h (by decide), fun h => absurd h (by decide), fun h => absurd h (by decide), fun h => absurd h (by decide), fun h => absurd h (by decide), fun h => absurd h (by decide), fun h => absurd h (by decide), fun h => absurd h (by decide)⟩
  · intro l x w' hJ hi hd
    obtain ⟨hd0, hd1, hL, hS, hR, hK, h2019, h0, h1, h2, h3, h4, h5, h6, h7, h8, h9, h10, h11, h12, h13, h14, h15, h16, h17, h18, h19, h20, h21⟩ := hJ
    refine Runs.of (b := ?bW0) ?eW0 ?_
    case eW0 => simp only [putV, Act.put, List.setIfInBounds_toArray, List.set_cons_zero, List.set_cons_succ]; rfl
    intro K' hK'
    go_simp
    exact hK'.go _ rfl ⟨hd0, hd1, hL, hS, hR, hK, h2019, fun _ => rfl, h1, h2, h3, h4, h5, h6, h7, h8, h9, h10, h11, h12, h13, h14, h15, h16, h17, h18, h19, h20, h21⟩
  · intro l x w' hJ hi hd
    obtain ⟨hd0, hd1, hL, hS, hR, hK, h2019, h0, h1, h2, h3, h4, h5, h6, h7, h8, h9, h10, h11, h12, h13, h14, h15, h16, h17, h18, h19, h20, h21⟩ := hJ
    have e0 := h0 (show l 0 = true by first | exact hd.1 rfl | exact hd.2.1 rfl | exact hd.2.2.1 rfl | exact hd.2.2.2.1 rfl | exact hd.2.2.2.2.1 rfl | exact hd.2.2.2.2.2.1 rfl)
    refine Runs.of (b := ?bW1) ?eW1 ?_
    case eW1 => simp only [putV, Act.put, List.setIfInBounds_toArray, List.set_cons_zero, List.set_cons_succ, e0]; rfl
    intro K' hK'
    go_simp
    exact hK'.go _ rfl ⟨hd0, hd1, hL, hS, hR, hK, h2019, h0, fun _ => rfl, h2, h3, h4, h5, h6, h7, h8, h9, h10, h11, h12, h13, h14, h15, h16, h17, h18, h19, h20, h21⟩
  · intro l x w' hJ hi hd
    obtain ⟨hd0, hd1, hL, hS, hR, hK, h2019, h0, h1, h2, h3, h4, h5, h6, h7, h8, h9, h10, h11, h12, h13, h14, h15, h16, h17, h18, h19, h20, h21⟩ := hJ
    have e1 := h1 (show l 1 = true by first | exact hd.1 rfl | exact hd.2.1 rfl | exact hd.2.2.1 rfl | exact hd.2.2.2.1 rfl | exact hd.2.2.2.2.1 rfl | exact hd.2.2.2.2.2.1 rfl)
    refine Runs.of (b := ?bW2) ?eW2 ?_
    case eW2 => simp only [putV, Act.put, List.setIfInBounds_toArray, List.set_cons_zero, List.set_cons_succ, e1]; rfl
    intro K' hK'
    go_simp
    exact hK'.go _ rfl ⟨hd0, hd1, hL, hS, hR, hK, h2019, h0, h1, fun _ => rfl, h3, h4, h5, h6, h7, h8, h9, h10, h11, h12, h13, h14, h15, h16, h17, h18, h19, h20, h21⟩
  · intro l x w' hJ hi hd
    obtain ⟨hd0, hd1, hL, hS, hR, hK, h2019, h0, h1, h2, h3, h4, h5, h6, h7, h8, h9, h10, h11, h12, h13, h14, h15, h16, h17, h18, h19, h20, h21⟩ := hJ
    have e2 := h2 (show l 2 = true by first | exact hd.1 rfl | exact hd.2.1 rfl | exact hd.2.2.1 rfl | exact hd.2.2.2.1 rfl | exact hd.2.2.2.2.1 rfl | exact hd.2.2.2.2.2.1 rfl)
    have c0 := lg_0 hL
    refine Runs.of (b := ?bW3) ?eW3 ?_
    case eW3 => simp only [putV, Act.put, List.setIfInBounds_toArray, List.set_cons_zero, List.set_cons_succ, e2]; rfl
    intro K' hK'
    go_simp
    exact hK'.go _ rfl ⟨hd0, hd1, hL, hS, hR, hK, h2019, h0, h1, h2, fun _ => rfl, h4, h5, h6, h7, h8, h9, h10, h11, h12, h13, h14, h15, h16, h17, h18, h19, h20, h21⟩
  · intro l x w' hJ hi hd
    obtain ⟨hd0, hd1, hL, hS, hR, hK, h2019, h0, h1, h2, h3, h4, h5, h6, h7, h8, h9, h10, h11, h12, h13, h14, h15, h16, h17, h18, h19, h20, h21⟩ := hJ
    refine Runs.of (b := ?bW4) ?eW4 ?_
    case eW4 => simp only [putV, Act.put, List.setIfInBounds_toArray, List.set_cons_zero, List.set_cons_succ]; rfl
    intro K' hK'
    go_simp
    exact hK'.go _ rfl ⟨hd0, hd1, hL, hS, hR, hK, h2019, h0, h1, h2, h3, fun _ => rfl, h5, h6, h7, h8, h9, h10, h11, h12, h13, h14, h15, h16, h17, h18, h19, h20, h21⟩
  · intro l x w' hJ hi hd
    obtain ⟨hd0, hd1, hL, hS, hR, hK, h2019, h0, h1, h2, h3, h4, h5, h6, h7, h8, h9, h10, h11, h12, h13, h14, h15, h16, h17, h18, h19, h20, h21⟩ := hJ
    have e4 := h4 (show l 4 = true by first | exact hd.1 rfl | exact hd.2.1 rfl | exact hd.2.2.1 rfl | exact hd.2.2.2.1 rfl | exact hd.2.2.2.2.1 rfl | exact hd.2.2.2.2.2.1 rfl)
    refine Runs.of (b := ?bW5) ?eW5 ?_
    case eW5 => simp only [putV, Act.put, List.setIfInBounds_toArray, List.set_cons_zero, List.set_cons_succ, e4]; rfl
    intro K' hK'
    go_simp
    exact hK'.go _ rfl ⟨hd0, hd1, hL, hS, hR, hK, h2019, h0, h1, h2, h3, h4, fun _ => rfl, h6, h7, h8, h9, h10, h11, h12, h13, h14, h15, h16, h17, h18, h19, h20, h21⟩
  · intro l x w' hJ hi hd
    obtain ⟨hd0, hd1, hL, hS, hR, hK, h2019, h0, h1, h2, h3, h4, h5, h6, h7, h8, h9, h10, h11, h12, h13, h14, h15, h16, h17, h18, h19, h20, h21⟩ := hJ
    have e5 := h5 (show l 5 = true by first | exact hd.1 rfl | exact hd.2.1 rfl | exact hd.2.2.1 rfl | exact hd.2.2.2.1 rfl | exact hd.2.2.2.2.1 rfl | exact hd.2.2.2.2.2.1 rfl)
    refine Runs.of (b := ?bW6) ?eW6 ?_
    case eW6 => simp only [putV, Act.put, List.setIfInBounds_toArray, List.set_cons_zero, List.set_cons_succ, e5]; rfl
    intro K' hK'
    go_simp
    exact hK'.go _ rfl ⟨hd0, hd1, hL, hS, hR, hK, h2019, h0, h1, h2, h3, h4, h5, fun _ => rfl, h7, h8, h9, h10, h11, h12, h13, h14, h15, h16, h17, h18, h19, h20, h21⟩
  · intro l x w' hJ hi hd
    obtain ⟨hd0, hd1, hL, hS, hR, hK, h2019, h0, h1, h2, h3, h4, h5, h6, h7, h8, h9, h10, h11, h12, h13, h14, h15, h16, h17, h18, h19, h20, h21⟩ := hJ
    have e6 := h6 (show l 6 = true by first | exact hd.1 rfl | exact hd.2.1 rfl | exact hd.2.2.1 rfl | exact hd.2.2.2.1 rfl | exact hd.2.2.2.2.1 rfl | exact hd.2.2.2.2.2.1 rfl)
    have c1 := lg_1 hL
    refine Runs.of (b := ?bW7) ?eW7 ?_
    case eW7 => simp only [putV, Act.put, List.setIfInBounds_toArray, List.set_cons_zero, List.set_cons_succ, e6]; rfl
    intro K' hK'
    go_simp
    exact hK'.go _ rfl ⟨hd0, hd1, hL, hS, hR, hK, h2019, h0, h1, h2, h3, h4, h5, h6, fun _ => rfl, h8, h9, h10, h11, h12, h13, h14, h15, h16, h17, h18, h19, h20, h21⟩
  · intro l x w' hJ hi hd
    obtain ⟨hd0, hd1, hL, hS, hR, hK, h2019, h0, h1, h2, h3, h4, h5, h6, h7, h8, h9, h10, h11, h12, h13, h14, h15, h16, h17, h18, h19, h20, h21⟩ := hJ
    refine Runs.of (b := ?bW8) ?eW8 ?_
    case eW8 => simp only [putV, Act.put, List.setIfInBounds_toArray, List.set_cons_zero, List.set_cons_succ]; rfl
    intro K' hK'
    go_simp
    exact hK'.go _ rfl ⟨hd0, hd1, hL, hS, hR, hK, h2019, h0, h1, h2, h3, h4, h5, h6, h7, fun _ => rfl, h9, h10, h11, h12, h13, h14, h15, h16, h17, h18, h19, h20, h21⟩
  · intro l x w' hJ hi hd
    obtain ⟨hd0, hd1, hL, hS, hR, hK, h2019, h0, h1, h2, h3, h4, h5, h6, h7, h8, h9, h10, h11, h12, h13, h14, h15, h16, h17, h18, h19, h20, h21⟩ := hJ
    have e8 := h8 (show l 8 = true by first | exact hd.1 rfl | exact hd.2.1 rfl | exact hd.2.2.1 rfl | exact hd.2.2.2.1 rfl | exact hd.2.2.2.2.1 rfl | exact hd.2.2.2.2.2.1 rfl)
    refine Runs.of (b := ?bW9) ?eW9 ?_
    case eW9 => simp only [putV, Act.put, List.setIfInBounds_toArray, List.set_cons_zero, List.set_cons_succ, e8]; rfl
    intro K' hK'
    go_simp
    exact hK'.go _ rfl ⟨hd0, hd1, hL, hS, hR, hK, h2019, h0, h1, h2, h3, h4, h5, h6, h7, h8, fun _ => congrArg (Value.int .i64) HWA.out, h10, h11, h12, h13, h14, h15, h16, h17, h18, h19, h20, h21⟩
  · intro l x w' hJ hi hd
    obtain ⟨hd0, hd1, hL, hS, hR, hK, h2019, h0, h1, h2, h3, h4, h5, h6, h7, h8, h9, h10, h11, h12, h13, h14, h15, h16, h17, h18, h19, h20, h21⟩ := hJ
    have e7 := h7 (show l 7 = true by first | exact hd.1 rfl | exact hd.2.1 rfl | exact hd.2.2.1 rfl | exact hd.2.2.2.1 rfl | exact hd.2.2.2.2.1 rfl | exact hd.2.2.2.2.2.1 rfl)
    have e9 := h9 (show l 9 = true by first | exact hd.1 rfl | exact hd.2.1 rfl | exact hd.2.2.1 rfl | exact hd.2.2.2.1 rfl | exact hd.2.2.2.2.1 rfl | exact hd.2.2.2.2.2.1 rfl)
    refine Runs.of (b := ?bW10) ?eW10 ?_
    case eW10 => simp only [putV, Act.put, List.setIfInBounds_toArray, List.set_cons_zero, List.set_cons_succ, e7, e9]; rfl
    intro K' hK'
    go_simp
    exact hK'.go _ rfl ⟨hd0, hd1, hL, hS, hR, hK, h2019, h0, h1, h2, h3, h4, h5, h6, h7, h8, h9, fun _ => congrArg (Value.int .i64) HWB.out, h11, h12, h13, h14, h15, h16, h17, h18, h19, h20, h21⟩
  · intro l x w' hJ hi hd
    obtain ⟨hd0, hd1, hL, hS, hR, hK, h2019, h0, h1, h2, h3, h4, h5, h6, h7, h8, h9, h10, h11, h12, h13, h14, h15, h16, h17, h18, h19, h20, h21⟩ := hJ
    refine Runs.of (b := ?bW11) ?eW11 ?_
    case eW11 => simp only [putV, Act.put, List.setIfInBounds_toArray, List.set_cons_zero, List.set_cons_succ]; rfl
    intro K' hK'
    go_simp
    exact hK'.go _ rfl ⟨hd0, hd1, hL, hS, hR, hK, h2019, h0, h1, h2, h3, h4, h5, h6, h7, h8, h9, h10, fun _ => rfl, h12, h13, h14, h15, h16, h17, h18, h19, h20, h21⟩
  · intro l x w' hJ hi hd
    obtain ⟨hd0, hd1, hL, hS, hR, hK, h2019, h0, h1, h2, h3, h4, h5, h6, h7, h8, h9, h10, h11, h12, h13, h14, h15, h16, h17, h18, h19, h20, h21⟩ := hJ
    have e10 := h10 (show l 10 = true by first | exact hd.1 rfl | exact hd.2.1 rfl | exact hd.2.2.1 rfl | exact hd.2.2.2.1 rfl | exact hd.2.2.2.2.1 rfl | exact hd.2.2.2.2.2.1 rfl)
    have e11 := h11 (show l 11 = true by first | exact hd.1 rfl | exact hd.2.1 rfl | exact hd.2.2.1 rfl | exact hd.2.2.2.1 rfl | exact hd.2.2.2.2.1 rfl | exact hd.2.2.2.2.2.1 rfl)
    refine Runs.of (b := ?bW12) ?eW12 ?_
    case eW12 => simp only [putV, Act.put, List.setIfInBounds_toArray, List.set_cons_zero, List.set_cons_succ, e10, e11]; rfl
    intro K' hK'
    go_simp
    exact hK'.go _ rfl ⟨hd0, hd1, hL, hS, hR, hK, h2019, h0, h1, h2, h3, h4, h5, h6, h7, h8, h9, h10, h11, fun _ => congrArg (Value.int .i64) HWC.out, h13, h14, h15, h16, h17, h18, h19, h20, h21⟩
  · intro l x w' hJ hi hd
    obtain ⟨hd0, hd1, hL, hS, hR, hK, h2019, h0, h1, h2, h3, h4, h5, h6, h7, h8, h9, h10, h11, h12, h13, h14, h15, h16, h17, h18, h19, h20, h21⟩ := hJ
    refine Runs.of (b := ?bW13) ?eW13 ?_
    case eW13 => simp only [putV, Act.put, List.setIfInBounds_toArray, List.set_cons_zero, List.set_cons_succ]; rfl
    intro K' hK'
    go_simp
    exact hK'.go _ rfl ⟨hd0, hd1, hL, hS, hR, hK, h2019, h0, h1, h2, h3, h4, h5, h6, h7, h8, h9, h10, h11, h12, fun _ => rfl, h14, h15, h16, h17, h18, h19, h20, h21⟩
  · intro l x w' hJ hi hd
    obtain ⟨hd0, hd1, hL, hS, hR, hK, h2019, h0, h1, h2, h3, h4, h5, h6, h7, h8, h9, h10, h11, h12, h13, h14, h15, h16, h17, h18, h19, h20, h21⟩ := hJ
    refine Runs.of (b := ?bW14) ?eW14 ?_
    case eW14 => simp only [putV, Act.put, List.setIfInBounds_toArray, List.set_cons_zero, List.set_cons_succ]; rfl
    intro K' hK'
    go_simp
    exact hK'.go _ rfl ⟨hd0, hd1, hL, hS, hR, hK, h2019, h0, h1, h2, h3, h4, h5, h6, h7, h8, h9, h10, h11, h12, h13, fun _ => rfl, h15, h16, h17, h18, h19, h20, h21⟩
  · intro l x w' hJ hi hd
    obtain ⟨hd0, hd1, hL, hS, hR, hK, h2019, h0, h1, h2, h3, h4, h5, h6, h7, h8, h9, h10, h11, h12, h13, h14, h15, h16, h17, h18, h19, h20, h21⟩ := hJ
    refine Runs.of (b := ?bW15) ?eW15 ?_
    case eW15 => simp only [putV, Act.put, List.setIfInBounds_toArray, List.set_cons_zero, List.set_cons_succ]; rfl
    intro K' hK'
    go_simp
    exact hK'.go _ rfl ⟨hd0, hd1, hL, hS, hR, hK, h2019, h0, h1, h2, h3, h4, h5, h6, h7, h8, h9, h10, h11, h12, h13, h14, fun _ => rfl, h16, h17, h18, h19, h20, h21⟩
  · intro l x w' hJ hi hd
    obtain ⟨hd0, hd1, hL, hS, hR, hK, h2019, h0, h1, h2, h3, h4, h5, h6, h7, h8, h9, h10, h11, h12, h13, h14, h15, h16, h17, h18, h19, h20, h21⟩ := hJ
    have e15 := h15 (show l 15 = true by first | exact hd.1 rfl | exact hd.2.1 rfl | exact hd.2.2.1 rfl | exact hd.2.2.2.1 rfl | exact hd.2.2.2.2.1 rfl | exact hd.2.2.2.2.2.1 rfl)
    refine Runs.of (b := ?bW16) ?eW16 ?_
    case eW16 => simp only [putV, Act.put, List.setIfInBounds_toArray, List.set_cons_zero, List.set_cons_succ, e15]; rfl
    intro K' hK'
    go_simp
    exact hK'.go _ rfl ⟨hd0, hd1, hL, hS, hR, hK, h2019, h0, h1, h2, h3, h4, h5, h6, h7, h8, h9, h10, h11, h12, h13, h14, h15, fun _ => rfl, h17, h18, h19, h20, h21⟩
  · intro l x w' hJ hi hd
    obtain ⟨hd0, hd1, hL, hS, hR, hK, h2019, h0, h1, h2, h3, h4, h5, h6, h7, h8, h9, h10, h11, h12, h13, h14, h15, h16, h17, h18, h19, h20, h21⟩ := hJ
    have e16 := h16 (show l 16 = true by first | exact hd.1 rfl | exact hd.2.1 rfl | exact hd.2.2.1 rfl | exact hd.2.2.2.1 rfl | exact hd.2.2.2.2.1 rfl | exact hd.2.2.2.2.2.1 rfl)
    refine Runs.of (b := ?bW17) ?eW17 ?_
    case eW17 => simp only [putV, Act.put, List.setIfInBounds_toArray, List.set_cons_zero, List.set_cons_succ, e16]; rfl
    intro K' hK'
    go_simp
    exact hK'.go _ rfl ⟨hd0, hd1, hL, hS, hR, hK, h2019, h0, h1, h2, h3, h4, h5, h6, h7, h8, h9, h10, h11, h12, h13, h14, h15, h16, fun _ => rfl, h18, h19, h20, h21⟩
  · intro l x w' hJ hi hd
    obtain ⟨hd0, hd1, hL, hS, hR, hK, h2019, h0, h1, h2, h3, h4, h5, h6, h7, h8, h9, h10, h11, h12, h13, h14, h15, h16, h17, h18, h19, h20, h21⟩ := hJ
    have e17 := h17 (show l 17 = true by first | exact hd.1 rfl | exact hd.2.1 rfl | exact hd.2.2.1 rfl | exact hd.2.2.2.1 rfl | exact hd.2.2.2.2.1 rfl | exact hd.2.2.2.2.2.1 rfl)
    have c5 := lg_5 hL
    refine Runs.of (b := ?bW18) ?eW18 ?_
    case eW18 => simp only [putV, Act.put, List.setIfInBounds_toArray, List.set_cons_zero, List.set_cons_succ, e17]; rfl
    intro K' hK'
    go_simp
    exact hK'.go _ rfl ⟨hd0, hd1, hL, hS, hR, hK, h2019, h0, h1, h2, h3, h4, h5, h6, h7, h8, h9, h10, h11, h12, h13, h14, h15, h16, h17, fun _ => rfl, h19, h20, h21⟩
  · intro l x w' hJ hi hd
    obtain ⟨hd0, hd1, hL, hS, hR, hK, h2019, h0, h1, h2, h3, h4, h5, h6, h7, h8, h9, h10, h11, h12, h13, h14, h15, h16, h17, h18, h19, h20, h21⟩ := hJ
    have e13 := h13 (show l 13 = true by first | exact hd.1 rfl | exact hd.2.1 rfl | exact hd.2.2.1 rfl | exact hd.2.2.2.1 rfl | exact hd.2.2.2.2.1 rfl | exact hd.2.2.2.2.2.1 rfl)
    have e14 := h14 (show l 14 = true by first | exact hd.1 rfl | exact hd.2.1 rfl | exact hd.2.2.1 rfl | exact hd.2.2.2.1 rfl | exact hd.2.2.2.2.1 rfl | exact hd.2.2.2.2.2.1 rfl)
    have e18 := h18 (show l 18 = true by first | exact hd.1 rfl | exact hd.2.1 rfl | exact hd.2.2.1 rfl | exact hd.2.2.2.1 rfl | exact hd.2.2.2.2.1 rfl | exact hd.2.2.2.2.2.1 rfl)
    refine Runs.of (b := ?bW19) ?eW19 ?_
    case eW19 => simp only [putV, Act.put, List.setIfInBounds_toArray, List.set_cons_zero, List.set_cons_succ, e13, e14, e18]; rfl
    intro K' hK'
    go_simp
    refine (sector_any gen base r0 vb vr buf hS hR HBY.out HBL.out i run HI8.out HG.out).mono ?_
    rintro e w2 ⟨v2, rfl, hB2, k2⟩
    go_simp
    exact hK'.go v2 rfl ⟨fun h => (hd0 h).keep k2 (by simp) (by simp), fun h => absurd (h2019 h) (by simp [hi]), hL.keep k2 (by simp), hS.keep k2 (by simp), Rv.keep hR k2 (by simp), hK.trans (k2.mono (by simp)), fun _ => rfl, h0, h1, h2, h3, h4, h5, h6, h7, h8, h9, h10, h11, h12, h13, h14, h15, h16, h17, h18, fun _ => hB2.mono hK.size, h20, h21⟩
  · intro l x w' hJ hi hd
    obtain ⟨hd0, hd1, hL, hS, hR, hK, h2019, h0, h1, h2, h3, h4, h5, h6, h7, h8, h9, h10, h11, h12, h13, h14, h15, h16, h17, h18, h19, h20, h21⟩ := hJ
    have e3 := h3 (show l 3 = true by first | exact hd.1 rfl | exact hd.2.1 rfl | exact hd.2.2.1 rfl | exact hd.2.2.2.1 rfl | exact hd.2.2.2.2.1 rfl | exact hd.2.2.2.2.2.1 rfl)
    have e12 := h12 (show l 12 = true by first | exact hd.1 rfl | exact hd.2.1 rfl | exact hd.2.2.1 rfl | exact hd.2.2.2.1 rfl | exact hd.2.2.2.2.1 rfl | exact hd.2.2.2.2.2.1 rfl)
    have e19 := h19 (show l 19 = true by first | exact hd.1 rfl | exact hd.2.1 rfl | exact hd.2.2.1 rfl | exact hd.2.2.2.1 rfl | exact hd.2.2.2.2.1 rfl | exact hd.2.2.2.2.2.1 rfl)
    have HL19 : Hid (l 19 = true) := Lib.hid (by first | exact hd.1 rfl | exact hd.2.1 rfl | exact hd.2.2.1 rfl | exact hd.2.2.2.1 rfl | exact hd.2.2.2.2.1 rfl | exact hd.2.2.2.2.2.1 rfl)
    refine Runs.of (b := ?bW20) ?eW20 ?_
    case eW20 => simp only [putV, Act.put, List.setIfInBounds_toArray, List.set_cons_zero, List.set_cons_succ, e3, e12]; rfl
    intro K' hK'
    go_simp
    have hrd := e19.rd
    refine (Write_in (hd0 hi) idx sc HSC.out _ (sgImg gen base run i buf) hrd (by rw [sgImg_len]; omega) (HIB.out) HC.out).mono ?_
    rintro e w2 ⟨rfl, hD2, k2⟩
    go_simp
    exact hK'.go _ rfl ⟨fun h => Bool.noConfusion (show true = false from h), fun _ => hD2, hL.keep k2 (HNE.out.1), hS.keep k2 (HNE.out.2), Rd.keep0 hR k2 (fun q hq h0 => HK3.out q hq h0), hK.trans k2, fun _ => HL19.out, h0, h1, h2, h3, h4, h5, h6, h7, h8, h9, h10, h11, h12, h13, h14, h15, h16, h17, h18, fun h => Buf.keep (h19 h) k2 (fun q hq => HK2.out q (Nat.le_trans HZ.out (Buf.lt (h19 h) q hq).1)), fun _ => rfl, h21⟩
  · intro l x w' hJ hi hd
    obtain ⟨hd0, hd1, hL, hS, hR, hK, h2019, h0, h1, h2, h3, h4, h5, h6, h7, h8, h9, h10, h11, h12, h13, h14, h15, h16, h17, h18, h19, h20, h21⟩ := hJ
    have e20 := h20 (show l 20 = true by first | exact hd.1 rfl | exact hd.2.1 rfl | exact hd.2.2.1 rfl | exact hd.2.2.2.1 rfl | exact hd.2.2.2.2.1 rfl | exact hd.2.2.2.2.2.1 rfl)
    refine Runs.of (b := ?bW21) ?eW21 ?_
    case eW21 => simp only [putV, Act.put, List.setIfInBounds_toArray, List.set_cons_zero, List.set_cons_succ, e20]; rfl
    intro K' hK'
    go_simp
    exact hK'.go _ rfl ⟨hd0, hd1, hL, hS, hR, hK, h2019, h0, h1, h2, h3, h4, h5, h6, h7, h8, h9, h10, h11, h12, h13, h14, h15, h16, h17, h18, h19, h20, fun _ => rfl⟩
  · intro l x w3 hJ hl
    obtain ⟨hd0, hd1, hL, hS, hR, hK, h2019, h0, h1, h2, h3, h4, h5, h6, h7, h8, h9, h10, h11, h12, h13, h14, h15, h16, h17, h18, h19, h20, h21⟩ := hJ
    have e21 := h21 (hl 21 (by decide))
    have hD := hd1 (hl 20 (by decide))
    simp only [putV, Act.put, List.setIfInBounds_toArray, List.set_cons_zero, List.set_cons_succ, e21]
    rw [HEND.out] at hD
    have K9 : Keep [d, sb] w w3 := (k1.mono (by simp)).trans hK
    clear h0 h1 h2 h3 h4 h5 h6 h7 h8 h9 h10 h11 h12 h13 h14 h15 h16 h17 h18 h19 h20 h21 hL hS hR hK hd1 hl1 hs1 hr1 e21 h2019 k1 hl hd0
    go_wp2_with fail
    go_ret
    exact ⟨rfl, hD, K9⟩
end Go.Proofs.Ytpibpapolcdeiaa
