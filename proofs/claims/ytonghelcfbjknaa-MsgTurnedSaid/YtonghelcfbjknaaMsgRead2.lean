/- The reader of messages: nodes, item. -/
import Derived.Test.YtonghelcfbjknaaMsgRead
namespace Go.Proofs.Ytonghelcfbjknaa
open Go.ChangeShapes Go.WideShapes Go.ChangeAt Go.RowKit
set_option linter.unusedVariables false
set_option linter.unusedSimpArgs false

def lenOf : Value → Nat
  | .slice _ n _ => n
  | _ => 0
theorem ints_app (a b : List Int) : ints (a ++ b) = ints a ++ ints b := by simp [ints]
theorem ints_len (a : List Int) : (ints a).length = a.length := by simp [ints]
theorem rNodesGo_go (f : Nat) (n : Int) (acc : List Int) (s : Rs) (h : 0 < n ∧ s.2 = false ∧ acc.length ≤ 5) : rNodesGo (f + 1) n acc s = rNodesGo f (n - 1) (acc ++ [(rNum s).1]) (rNum s).2 := by
  conv => lhs; unfold rNodesGo
  rw [if_pos h]
theorem rNodesGo_end (f : Nat) (n : Int) (acc : List Int) (s : Rs) (h : ¬ (0 < n ∧ s.2 = false ∧ acc.length ≤ 5)) : rNodesGo f n acc s = (acc, s) := by
  cases f with
  | zero => rfl
  | succ f => unfold rNodesGo; rw [if_neg h]
/-- A row of numbers of the call's own. -/
def NRow (w : World) (base : Nat) (v : Value) (l : List Int) : Prop := w.ownsRow base 3 1 v l.length (ints l)
theorem NRow.rd {w : World} {base : Nat} {v : Value} {l : List Int} (h : NRow w base v l) : Rv w 1 v l.length (ints l) := ownsRow_rv h
theorem NRow.slice {w : World} {base : Nat} {v : Value} {l : List Int} (h : NRow w base v l) : ∃ a cap, v = .slice a l.length cap := ownsRow_slice h
theorem NRow.lt {w : World} {base : Nat} {v : Value} {l : List Int} (h : NRow w base v l) : ∀ k, v.ownBlock = some k → base ≤ k ∧ k < w.heap.size := World.ownsRow.lt h
theorem NRow.keep {w w' : World} {base : Nat} {v : Value} {l : List Int} {S : List Nat} (h : NRow w base v l) (k : Keep S w w') (hS : ∀ b, v.ownBlock = some b → b ∉ S) : NRow w' base v l := by
  have h' : Own w base 3 v (ints l) := by unfold Own; rw [ints_len]; exact h
  have := h'.keep k hS
  unfold Own at this; rw [ints_len] at this; exact this
theorem NRow.mono {w : World} {base base' : Nat} {v : Value} {l : List Int} (h : NRow w base v l) (hb : base' ≤ base) : NRow w base' v l := by
  have h' : Own w base 3 v (ints l) := by unfold Own; rw [ints_len]; exact h
  have := h'.mono hb
  unfold Own at this; rw [ints_len] at this; exact this
theorem NRow.alloc {w : World} {base : Nat} {v : Value} {l : List Int} (h : NRow w base v l) (o : Obj) : NRow (w.alloc o) base v l := World.ownsRow.alloc h o
theorem NRow.nil (w : World) (base : Nat) : NRow w base (.slice none 0 0) [] := World.ownsRow_nil w base _ 1
theorem NRow.ty {w : World} {base : Nat} {v : Value} {l : List Int} (h : NRow w base v l) : ∀ k, v.ownBlock = some k → Ty w k 3 := by
  have h' : Own w base 3 v (ints l) := by unfold Own; rw [ints_len]; exact h
  exact h'.ty
def GotNodes (w : World) (rb : Nat) (r : List Int × Rs) (x : Ending) (w' : World) : Prop :=
  ∃ v, x = .returned v ∧ NRow w' w.heap.size v r.1 ∧ RdR w' rb r.2 ∧ Keep [rb] w w'
set_option maxRecDepth 100000 in
set_option maxHeartbeats 4000000 in
theorem rNodes_any {w : World} (rb : Nat) (s : Rs) (h : RdR w rb s) (hk : Rok s) (r : List Int × Rs) (hr : r = rNodes s) :
    Calls Try.prog 49 #[.pointer (some ⟨rb, 0, none⟩)] w (GotNodes w rb r) := by
  obtain ⟨i0, hi, hz0, hz1, hz2⟩ := info_parts Try.infoI
  have hrl := h.lt
  unfold rNodes at hr
  go_enter Try.func49, Try.ntmps49
  go_wp2_with fail
  obtain ⟨n, s1, hn⟩ : ∃ n s1, rNum s = (n, s1) := ⟨_, _, rfl⟩
  have hni := rNum_i64 s hk
  have hk1 := hk.num
  rw [hn] at hr hni hk1
  simp only at hr hni hk1
  refine (rNum_any rb s h hk n s1 hn).mono ?_
  rintro e w1 ⟨rfl, hR1, hK1⟩
  clear h hn hk
  go_wp2_with fail
  go_loopw [3, 4] (fun lv nv wr => ∃ (acc : List Int) (k : Int) (q : Rs), nv = .int .i64 k ∧ I64 k ∧ acc.length ≤ 6 ∧ r = rNodesGo (7 - acc.length) k acc q ∧ Rok q ∧ NRow wr w.heap.size lv acc ∧ RdR wr rb q ∧ Keep [rb] w wr) (fun lv _ _ => 7 - lenOf lv)
  case atStart => exact ⟨[], n, s1, rfl, hni, by simp, hr, hk1, NRow.nil _ _, hR1, hK1⟩
  case round =>
    clear hR1 hK1 hk1 hr hni
    obtain ⟨acc, k, q, rfl, hki, hal, hr, hq, hN, hR, hK⟩ := hrel
    have HR := Lib.hid hr
    clear hr
    obtain ⟨av, acap, rfl⟩ := hN.slice
    obtain ⟨b, bad⟩ := q
    have hR0 := hR
    obtain ⟨v, h1, h2, h3⟩ := hR
    have c1 := h1.cell 1
    simp only [List.getElem?_cons_zero, List.getElem?_cons_succ] at c1
    by_cases hgo : 0 < k ∧ bad = false ∧ acc.length ≤ 5
    · obtain ⟨g1, rfl, g3⟩ := hgo
      have q1 : decide (0 < k) = true := decide_eq_true g1
      have q2 : (acc.length : Int) ≤ 5 := by omega
      obtain ⟨m, s2, hm⟩ : ∃ n s1, rNum (b, false) = (n, s1) := ⟨_, _, rfl⟩
      have hst : r = rNodesGo (7 - (acc ++ [m]).length) (k - 1) (acc ++ [m]) s2 := by
        rw [HR.out, show 7 - acc.length = (7 - (acc ++ [m]).length) + 1 by simp; omega, rNodesGo_go _ _ _ _ ⟨g1, rfl, g3⟩, hm]
      have HST := Lib.hid hst
      have hq2 := hq.num
      rw [hm] at hq2
      have HQ2 := Lib.hid hq2
      clear hst hq2 HR
      go_wp2_with fail
      refine (rNum_any rb _ hR0 hq m s2 hm).mono ?_
      rintro e w2 ⟨rfl, hR2, hK2⟩
      have hne : ∀ x, (Value.slice av acc.length acap).ownBlock = some x → x ∉ [rb] := fun x hx hm => by
        have := hN.lt x hx; simp at hm; omega
      have hN2 := hN.keep hK2 hne
      have hKK := hK.trans hK2
      have hws := hKK.size
      clear hN hK hK2 hR0 h1 h2 h3 c1
      have hB := Blk.new w2 [.int .i64 m] 3
      have hsrc : Src Try.prog 1 27 (.slice (some ⟨w2.heap.size, 0, none⟩) 1 1) 1 [.int .i64 m] (w2.alloc (.cells #[.int .i64 m] 3)) := src_cell Try.underlying27 w2 (.int .i64 m) rfl 3 _ rfl
      go_wp2_with (at_builtin; refine wpList_append_src _ rfl _ _ 27 27 rfl w.heap.size 3 i0 (.int .i64 0) 1 8 Try.underlying27 hi hz0 hz1 hz2 rfl (by decide) _ _ _ rfl (hN2.alloc _) _ 1 _ rfl hsrc (by unfold maxLen; omega) (by omega) (by simp; omega) ?_; intro v5 w5 h1' h2' _ h3')
      have hN5 : NRow w5 w.heap.size v5 (acc ++ [m]) := by unfold NRow; rw [ints_app, List.length_append]; exact h1'
      have hKa := hKK.alloc (.cells #[.int .i64 m] 3)
      have hgr := Keep.grown h2'
      have hK5 : Keep [rb] w w5 := hKa.then hgr (by intro x hx hlt; have := hN2.lt x (Option.mem_toList.1 hx); omega)
      have hR5 : RdR w5 rb s2 := (hR2.alloc (.cells #[.int .i64 m] 3)).keep hgr (fun x hx => by have := hN2.lt x (Option.mem_toList.1 hx); omega)
      obtain ⟨a5, c5, rfl⟩ := hN5.slice
      go_roundw
      case rel => exact ⟨acc ++ [m], k - 1, s2, by unfold I64 at hki; rw [show wrap64 (k - 1) = k - 1 by unfold wrap64; omega], by unfold I64 at hki ⊢; omega, by simp; omega, HST.out, HQ2.out, hN5, hR5, hK5⟩
      case measure => simp [lenOf]; omega
    · have hend : r = (acc, (b, bad)) := by rw [HR.out]; exact rNodesGo_end _ _ _ _ hgo
      have hfin : GotNodes w rb r (.returned (.slice av acc.length acap)) wr := ⟨_, rfl, by rw [hend]; exact hN, by rw [hend]; exact hR0, hK⟩
      clear hend HR
      by_cases g1 : 0 < k
      · have q1 : decide (0 < k) = true := decide_eq_true g1
        cases bad with
        | true =>
          go_wp2_with fail
          go_ret
          exact hfin
        | false =>
          have q2 : ¬ (acc.length : Int) ≤ 5 := by simp [g1] at hgo; omega
          go_wp2_with fail
          go_ret
          exact hfin
      · have q1 : decide (0 < k) = false := decide_eq_false g1
        go_wp2_with fail
        go_ret
        exact hfin
theorem rText_size (s : Rs) (h : Rok s) : (rText s).1.size ≤ 65536 := (getText_ok s.1 h.byte h.len).2
theorem eq_one (n : Int) : (n == 1) = (n == 1 : Bool) := rfl
set_option maxRecDepth 100000 in
set_option maxHeartbeats 4000000 in
theorem rItem_any {w : World} (rb : Nat) (s : Rs) (h : RdR w rb s) (hk : Rok s) (y : It) (s' : Rs) (hy : rItem s = (y, s')) :
    Calls Try.prog 34 #[.pointer (some ⟨rb, 0, none⟩)] w fun x w' => x = .returned (itV y.1 y.2.1 y.2.2.1 y.2.2.2) ∧ RdR w' rb s' ∧ Keep [rb] w w' := by
  obtain ⟨k, s1, h1⟩ : ∃ k s1, rText s = (k, s1) := ⟨_, _, rfl⟩
  obtain ⟨v, s2, h2⟩ : ∃ k s2, rText s1 = (k, s2) := ⟨_, _, rfl⟩
  obtain ⟨n, s3, h3⟩ : ∃ k s3, rNum s2 = (k, s3) := ⟨_, _, rfl⟩
  obtain ⟨g, s4, h4⟩ : ∃ k s4, rNum s3 = (k, s4) := ⟨_, _, rfl⟩
  have k1 := hk.text
  rw [h1] at k1
  have k2 := k1.text
  rw [h2] at k2
  have k3 := k2.num
  rw [h3] at k3
  have e : y = (k, v, n, g == 1) ∧ s' = s4 := by
    unfold rItem at hy
    simp only [h1, h2, h3, h4, Prod.mk.injEq] at hy
    obtain ⟨e1, e2⟩ := hy
    exact ⟨e1.symm, e2.symm⟩
  obtain ⟨rfl, rfl⟩ := e
  clear hy
  have H1 := Lib.hid h1
  have H2 := Lib.hid h2
  have H3 := Lib.hid h3
  have H4 := Lib.hid h4
  clear h1 h2 h3 h4
  have hrl := h.lt
  go_enter Try.func34, Try.ntmps34
  go_wp2_with fail
  have hR1 := Blk.new w (itC { data := #[] } { data := #[] } 0 false) 24
  have hr1 := h.alloc (.cells (itC { data := #[] } { data := #[] } 0 false).toArray 24)
  have K1 := (Keep.refl [rb] w).alloc (.cells (itC { data := #[] } { data := #[] } 0 false).toArray 24)
  change Calls _ _ _ (w.alloc (.cells (itC { data := #[] } { data := #[] } 0 false).toArray 24)) _
  generalize w.alloc (.cells (itC { data := #[] } { data := #[] } 0 false).toArray 24) = w1 at *
  refine (rText_any rb s hr1 hk k s1 H1.out).mono ?_
  rintro e w2 ⟨rfl, hr2, j2⟩
  have hR2 := hR1.keep j2 (by simp; omega)
  have K2 := K1.trans j2
  clear hr1 hR1 K1 j2 h
  go_wp2_with fail
  have hX1 := Blk.new w2 (itC k { data := #[] } 0 false) 24
  have hR3 := hR2.alloc (.cells (itC k { data := #[] } 0 false).toArray 24)
  have hr3 := hr2.alloc (.cells (itC k { data := #[] } 0 false).toArray 24)
  have K3 := K2.alloc (.cells (itC k { data := #[] } 0 false).toArray 24)
  change Calls _ _ _ (w2.alloc (.cells (itC k { data := #[] } 0 false).toArray 24)) _
  have hRX : w.heap.size < w2.heap.size := hR2.lt
  generalize w2.alloc (.cells (itC k { data := #[] } 0 false).toArray 24) = w3 at *
  clear hr2 hR2 K2
  refine (rText_any rb s1 hr3 k1 v s2 H2.out).mono ?_
  rintro e w4 ⟨rfl, hr4, j4⟩
  have hR4 := hR3.keep j4 (by simp; omega)
  have hX4 := hX1.keep j4 (by simp; omega)
  have K4 := K3.trans j4
  clear hr3 hR3 K3 hX1 j4
  have f1 := hX4.free 1
  have c1 := hX4.cell 1
  simp only [itC, List.getElem?_cons_zero, List.getElem?_cons_succ] at c1
  go_wp2_with fail
  have hX5 : Blk (w4.setCell ⟨w2.heap.size, 1, none⟩ (.string v)) w2.heap.size (itC k v 0 false) 24 := hX4.set 1 _
  have j5 : Keep [w2.heap.size] w4 (w4.setCell ⟨w2.heap.size, 1, none⟩ (.string v)) := (Keep.refl _ _).setCell (.inl (by simp)) _
  have hR5 := hR4.keep j5 (by simp; omega)
  have hr5 := hr4.keep j5 (by intro b hb; simp at hb; omega)
  have K5 := K4.then j5 (by intro b hb hlt; have := K4.size; have := hr4.lt; have := hX4.lt; simp at hb ⊢; have := hRX; omega)
  generalize w4.setCell ⟨w2.heap.size, 1, none⟩ (.string v) = w5 at *
  clear hr4 hR4 K4 hX4 f1 c1 j5
  refine (rNum_any rb s2 hr5 k2 n s3 H3.out).mono ?_
  rintro e w6 ⟨rfl, hr6, j6⟩
  have hR6 := hR5.keep j6 (by simp; omega)
  have hX6 := hX5.keep j6 (by simp; omega)
  have K6 := K5.trans j6
  clear hr5 hR5 K5 hX5 j6
  have f1 := hX6.free 2
  have c1 := hX6.cell 2
  simp only [itC, List.getElem?_cons_zero, List.getElem?_cons_succ] at c1
  go_wp2_with fail
  have hX7 : Blk (w6.setCell ⟨w2.heap.size, 2, none⟩ (.int .i64 n)) w2.heap.size (itC k v n false) 24 := hX6.set 2 _
  have j7 : Keep [w2.heap.size] w6 (w6.setCell ⟨w2.heap.size, 2, none⟩ (.int .i64 n)) := (Keep.refl _ _).setCell (.inl (by simp)) _
  have hR7 := hR6.keep j7 (by simp; omega)
  have hr7 := hr6.keep j7 (by intro b hb; simp at hb; omega)
  have K7 := K6.then j7 (by intro b hb hlt; have := K6.size; simp at hb ⊢; have := hRX; omega)
  generalize w6.setCell ⟨w2.heap.size, 2, none⟩ (.int .i64 n) = w7 at *
  clear hr6 hR6 K6 hX6 f1 c1 j7
  refine (rNum_any rb s3 hr7 k3 g s' H4.out).mono ?_
  rintro e w8 ⟨rfl, hr8, j8⟩
  have hR8 := hR7.keep j8 (by simp; omega)
  have hX8 := hX7.keep j8 (by simp; omega)
  have K8 := K7.trans j8
  clear hr7 hR7 K7 hX7 j8
  have f1 := hX8.free 3
  have c1 := hX8.cell 3
  have z0 := hX8.cell 0
  have z1 := hX8.cell 1
  have z2 := hX8.cell 2
  have b0 := hR8.free 0
  have b1 := hR8.free 1
  have b2 := hR8.free 2
  have b3 := hR8.free 3
  have d0 := hR8.cell 0
  have d1 := hR8.cell 1
  have d2 := hR8.cell 2
  have d3 := hR8.cell 3
  simp only [itC, List.getElem?_cons_zero, List.getElem?_cons_succ] at c1 z0 z1 z2 d0 d1 d2 d3
  have hne : ¬ w.heap.size = w2.heap.size := by omega
  have hne' : ¬ w2.heap.size = w.heap.size := by omega
  go_wp2_with fail
  have hRf : Blk (((((w8.setCell ⟨w2.heap.size, 3, none⟩ (.bool (g == 1))).setCell ⟨w.heap.size, 0, none⟩ (.string k)).setCell ⟨w.heap.size, 1, none⟩ (.string v)).setCell ⟨w.heap.size, 2, none⟩ (.int .i64 n)).setCell ⟨w.heap.size, 3, none⟩ (.bool (g == 1))) w.heap.size (itC k v n (g == 1)) 24 := ((((hR8.other (a := ⟨w2.heap.size, 3, none⟩) (by simp; omega) (.bool (g == 1))).set 0 (.string k)).set 1 (.string v)).set 2 (.int .i64 n)).set 3 (.bool (g == 1))
  have jf : Keep [w.heap.size, w2.heap.size] w8 (((((w8.setCell ⟨w2.heap.size, 3, none⟩ (.bool (g == 1))).setCell ⟨w.heap.size, 0, none⟩ (.string k)).setCell ⟨w.heap.size, 1, none⟩ (.string v)).setCell ⟨w.heap.size, 2, none⟩ (.int .i64 n)).setCell ⟨w.heap.size, 3, none⟩ (.bool (g == 1))) := ((((((Keep.refl _ _).setCell (.inl (by simp)) _).setCell (.inl (by simp)) _).setCell (.inl (by simp)) _).setCell (.inl (by simp)) _).setCell (.inl (by simp)) _)
  have hrf := hr8.keep jf (by intro b hb; simp at hb; omega)
  have Kf := K8.then jf (by intro b hb hlt; simp at hb ⊢; omega)
  generalize (((((w8.setCell ⟨w2.heap.size, 3, none⟩ (.bool (g == 1))).setCell ⟨w.heap.size, 0, none⟩ (.string k)).setCell ⟨w.heap.size, 1, none⟩ (.string v)).setCell ⟨w.heap.size, 2, none⟩ (.int .i64 n)).setCell ⟨w.heap.size, 3, none⟩ (.bool (g == 1))) = w9 at *
  refine bodyPost_ret (v := itV k v n (g == 1)) ?_ rfl ⟨rfl, hrf, Kf⟩
  have d0 := hRf.cell 0
  have d1 := hRf.cell 1
  have d2 := hRf.cell 2
  have d3 := hRf.cell 3
  simp only [itC, List.getElem?_cons_zero, List.getElem?_cons_succ] at d0 d1 d2 d3
  simp [results, Try.results34, go_sem, d0, d1, d2, d3]
end Go.Proofs.Ytonghelcfbjknaa
