/- The law LeaseAll: its walk. -/
import Derived.Test.YtdlnjknlbjlkaaaLeaseLaws
import Derived.Test.YtdlnjknlbjlkaaaClockAll
import Derived.Deep.RegionHeld3
import Derived.Deep.CutBlock
import Derived.Deep.DeepCutAuto
import Derived.Deep.LoopGhost
import Derived.Deep.RegionWith
import Derived.StillTailTactics
namespace Go.Proofs.Ytdlnjknlbjlkaaa
open Go.ChangeShapes Go.WideShapes Go.ChangeAt Go.RowKit Go.Deep
set_option linter.unusedVariables false
set_option linter.unusedSimpArgs false

/-- A slice of operations that came in. -/
def IsOps (w : World) (v : Value) : Prop :=
  ∃ a len cap, v = .slice a len cap ∧ len ≤ 9223372036854775807 ∧ ∀ i, i < len → ∃ sb so, a = some ⟨sb, so, none⟩ ∧ sb < w.heap.size ∧
    ∃ k n e, w.cell? ⟨sb, so + i * 3, none⟩ = some (.int .i64 k) ∧ w.cell? ⟨sb, so + i * 3 + 1, none⟩ = some (.int .i64 n) ∧ w.cell? ⟨sb, so + i * 3 + 2, none⟩ = some (.int .i64 e)

theorem open_ops {H : Type} {enc : TypeId × Value → H} {W : World} {v : Value} {d : DataW H} {p : List MemPlace} {r : Reach} {b : Nat}
    (hv : Value.okWide Try.prog W r b 42 v) (h : DataW.Trod enc Try.prog W 0 (fun _ => true) true 42 v d p) : IsOps W v := by
  obtain ⟨a0, len, cap, rfl⟩ := okWide_slice Try.underlying42 hv
  obtain ⟨fuel, hf⟩ := h
  rcases open_slice Try.underlying42 hf with ⟨hcs, _⟩ | ⟨a, l, c, m, n, D, Pl, hcs, hb, hl, hm, hmm, hx, hi⟩
  · simp [Value.cells] at hcs
    obtain ⟨rfl, rfl, rfl⟩ := hcs
    exact ⟨_, _, _, rfl, by omega, fun i hi => by omega⟩
  · simp [Value.cells] at hcs
    obtain ⟨rfl, rfl, rfl⟩ := hcs
    simp only [if_true] at hmm
    subst hmm
    unfold maxLen at hm
    have c3 : Try.prog.cellsOf 47 = 3 := by kernel_rfl
    have ci : Try.prog.cellsOf 3 = 1 := by kernel_rfl
    have c64 : Try.prog.cellsOf 2 = 1 := by kernel_rfl
    rw [c3] at hi
    refine ⟨_, _, _, rfl, by omega, fun i hil => ?_⟩
    obtain ⟨cs0, h0, _⟩ := hi 0 (by omega)
    obtain ⟨_, hl0, hat0⟩ := World.cells?_some h0
    have hc0 := hat0 0 (by omega)
    obtain ⟨sb, so, rfl, hs, hadd⟩ := addr_cell (w := W) (a := a) (by
      simp only [Nat.zero_mul, Addr.add, if_true] at hc0
      rw [hc0, List.getElem?_eq_getElem (by omega)]; rfl)
    obtain ⟨cs1, h1, ht1⟩ := hi i (by omega)
    obtain ⟨_, hl1, hat1⟩ := World.cells?_some h1
    obtain ⟨ys, n', _, _, _, hyl, hfl⟩ := DataW.trod_struct Try.underlying47 ht1
    have f0 : DataW.trod enc Try.prog W 0 (fun _ => true) true n' 3 ((cs1.drop 0).take (Try.prog.cellsOf 3)) = ys[0]? := hfl 0 _ rfl
    have f1 : DataW.trod enc Try.prog W 0 (fun _ => true) true n' 2 ((cs1.drop 1).take (Try.prog.cellsOf 2)) = ys[1]? := hfl 1 _ rfl
    have f2 : DataW.trod enc Try.prog W 0 (fun _ => true) true n' 2 ((cs1.drop 2).take (Try.prog.cellsOf 2)) = ys[2]? := hfl 2 _ rfl
    rw [ci] at f0
    rw [c64] at f1 f2
    have y0 : ys[0]? = some (ys[0]'(by rw [hyl]; decide)) := List.getElem?_eq_getElem _
    have y1 : ys[1]? = some (ys[1]'(by rw [hyl]; decide)) := List.getElem?_eq_getElem _
    have y2 : ys[2]? = some (ys[2]'(by rw [hyl]; decide)) := List.getElem?_eq_getElem _
    obtain ⟨k, e0, _, _⟩ := DataW.trod_int Try.underlying3 (f0.trans y0)
    obtain ⟨x, e1, _, _⟩ := DataW.trod_int Try.underlying2 (f1.trans y1)
    obtain ⟨y, e2, _, _⟩ := DataW.trod_int Try.underlying2 (f2.trans y2)
    match cs1, hl1 with
    | [a0, a1, a2], _ =>
      simp at e0 e1 e2
      subst e0 e1 e2
      refine ⟨sb, so, rfl, hs, k, x, y, ?_, ?_, ?_⟩
      · have := hat1 0 (by omega); rw [hadd] at this; simpa [Addr.add] using this
      · have := hat1 1 (by omega); rw [hadd] at this; simpa [Addr.add] using this
      · have := hat1 2 (by omega); rw [hadd] at this; simpa [Addr.add] using this

/-- The reference's lease in block b. -/
structure IsRef (w : World) (b : Nat) (n ep en tp : Int) : Prop where
  blk : Blk w b [.int .i64 n, .int .i64 en, .int .i64 ep, .int .i64 tp] 45
  lo : 0 ≤ en
  hi : en ≤ 1099511627796
  nlo : 0 ≤ n
  nhi : n ≤ 1099511627776
theorem IsRef.keep {S : List Nat} {w w' : World} {b : Nat} {n ep en tp : Int} (h : IsRef w b n ep en tp) (k : Keep S w w') (hn : b ∉ S) : IsRef w' b n ep en tp := ⟨h.blk.keep k hn, h.lo, h.hi, h.nlo, h.nhi⟩

theorem rgood_q {b : Nat} {n ep en tp : Int} {w : World} (e : Int) (h : IsRef w b n ep en tp) (g : Bool) (hg : g = decide (0 < e ∧ e = ep ∧ n < en)) :
    Calls Try.prog 28 #[.pointer (some ⟨b, 0, none⟩), .int .i64 e] w fun x w' => x = .returned (.bool g) ∧ ∃ m, w' = w.drewN m := by
  have g0 := h.blk.cell 0
  have g1 := h.blk.cell 1
  have g2 := h.blk.cell 2
  simp only [List.getElem?_cons_zero, List.getElem?_cons_succ] at g0 g1 g2
  by_cases h0 : 0 < e
  · by_cases h1 : e = ep
    · subst h1
      have HG : Hid (g = decide (n < en)) := by unfold Hid; rw [hg]; simp [h0]
      clear hg
      have q1 : (e == e) = true := by simp
      by_cases h2 : n < en
      all_goals
        go_enter Try.func28, Try.ntmps28
        go_wp2_with fail
        go_quiet (fail)
        go_wp2_with fail
        go_ret
        exact ⟨by rw [HG.out]; simp [h2], _, rfl⟩
    · have HG : Hid (g = false) := by unfold Hid; rw [hg]; simp [h1]
      clear hg
      have q1 : (e == ep) = false := by simpa using h1
      go_enter Try.func28, Try.ntmps28
      go_wp2_with fail
      go_quiet (fail)
      go_wp2_with fail
      go_ret
      exact ⟨by rw [HG.out]; rfl, _, rfl⟩
  · have HG : Hid (g = false) := by unfold Hid; rw [hg]; simp [h0]
    clear hg
    have q1 : decide (0 < e) = false := by simpa using h0
    go_enter Try.func28, Try.ntmps28
    go_wp2_with fail
    go_quiet (fail)
    go_wp2_with fail
    go_ret
    exact ⟨by rw [HG.out]; rfl, _, rfl⟩

theorem rleft_q {b : Nat} {n ep en tp : Int} {w : World} (h : IsRef w b n ep en tp) (g : Int) (hg : g = max 0 (en - n)) :
    Calls Try.prog 29 #[.pointer (some ⟨b, 0, none⟩)] w fun x w' => x = .returned (.int .i64 g) ∧ ∃ m, w' = w.drewN m := by
  have g0 := h.blk.cell 0
  have g1 := h.blk.cell 1
  obtain ⟨_, e1, e2, c1, c2⟩ := h
  simp only [List.getElem?_cons_zero, List.getElem?_cons_succ] at g0 g1
  have HG := Lib.hid hg
  clear hg
  go_enter Try.func29, Try.ntmps29
  go_wp2_with fail
  go_quiet (fail)
  go_wp2_with fail
  all_goals
    go_ret
    refine ⟨?_, _, rfl⟩
  · exact ret_i64 (by rw [HG.out]; omega)
  · exact ret_i64 (by rw [HG.out]; omega)

def RTook (b : Nat) (n ep en tp s e : Int) (g : Bool) (w : World) (x : Ending) (w' : World) : Prop :=
  x = .returned (.bool g) ∧ Keep [b] w w' ∧ (if g then IsRef w' b n e (s + 20) e else IsRef w' b n ep en tp)

set_option maxHeartbeats 400000 in
theorem rtake_any {b : Nat} {n ep en tp : Int} {w : World} (s e : Int) (h : IsRef w b n ep en tp) (g : Bool) (hg : g = leaseTakes n ep en tp s e) :
    Calls Try.prog 25 #[.pointer (some ⟨b, 0, none⟩), .int .i64 s, .int .i64 e] w (RTook b n ep en tp s e g w) := by
  have g0 := h.blk.cell 0
  have g1 := h.blk.cell 1
  have g2 := h.blk.cell 2
  have g3 := h.blk.cell 3
  have f1 := h.blk.free 1
  have f2 := h.blk.free 2
  have f3 := h.blk.free 3
  obtain ⟨HB, e1, e2, c1, c2⟩ := h
  have HB := Lib.hid HB
  simp only [List.getElem?_cons_zero, List.getElem?_cons_succ] at g0 g1 g2 g3
  have HG := Lib.hid hg
  clear hg
  have HF : g = false → IsRef w b n ep en tp → RTook b n ep en tp s e g w (.returned (.bool false)) w := fun a h => by
    subst a; exact ⟨rfl, Keep.refl _ _, h⟩
  have HN := Lib.hid HF
  clear HF
  by_cases p3 : s < 0
  · have q : g = false := by rw [HG.out]; unfold leaseTakes; simp; omega
    have HQ := Lib.hid q
    clear q HG
    go_enter Try.func25, Try.ntmps25
    go_wp2
    go_ret
    exact HN.out HQ.out ⟨HB.out, e1, e2, c1, c2⟩
  by_cases p4 : n < s
  · have q : g = false := by rw [HG.out]; unfold leaseTakes; simp; omega
    have HQ := Lib.hid q
    clear q HG
    go_enter Try.func25, Try.ntmps25
    go_wp2
    go_ret
    exact HN.out HQ.out ⟨HB.out, e1, e2, c1, c2⟩
  by_cases p5 : s + 20 ≤ n
  · have q : g = false := by rw [HG.out]; unfold leaseTakes; simp; omega
    have HQ := Lib.hid q
    clear q HG
    go_enter Try.func25, Try.ntmps25
    go_wp2
    go_ret
    exact HN.out HQ.out ⟨HB.out, e1, e2, c1, c2⟩
  by_cases p2 : e < tp
  · have q : g = false := by rw [HG.out]; unfold leaseTakes; simp; omega
    have HQ := Lib.hid q
    clear q HG
    go_enter Try.func25, Try.ntmps25
    go_wp2
    go_ret
    exact HN.out HQ.out ⟨HB.out, e1, e2, c1, c2⟩
  by_cases p1 : e < 1
  · have q : g = false := by rw [HG.out]; unfold leaseTakes; simp; omega
    have HQ := Lib.hid q
    clear q HG
    go_enter Try.func25, Try.ntmps25
    go_wp2
    go_ret
    exact HN.out HQ.out ⟨HB.out, e1, e2, c1, c2⟩
  by_cases p6 : e = ep
  · by_cases p7 : s + 20 ≤ en
    · have q : g = false := by rw [HG.out]; unfold leaseTakes; simp; omega
      have HQ := Lib.hid q
      have q6 : (e == ep) = true := by simpa using p6
      clear q HG p6
      go_enter Try.func25, Try.ntmps25
      go_wp2
      go_ret
      exact HN.out HQ.out ⟨HB.out, e1, e2, c1, c2⟩
    · have q : g = true := by rw [HG.out]; unfold leaseTakes; simp; omega
      subst q
      have q6 : (e == ep) = true := by simpa using p6
      clear HG p6
      go_enter Try.func25, Try.ntmps25
      go_wp2
      go_ret
      exact ⟨rfl, (((Keep.refl _ _).setCell (by simp) _).setCell (by simp) _).setCell (by simp) _, ⟨((HB.out.set 1 _).set 2 _).set 3 _, by omega, by omega, c1, c2⟩⟩
  · have q : g = true := by rw [HG.out]; unfold leaseTakes; simp; omega
    subst q
    have q6 : (e == ep) = false := by simpa using p6
    clear HG p6
    go_enter Try.func25, Try.ntmps25
    go_wp2
    go_ret
    exact ⟨rfl, (((Keep.refl _ _).setCell (by simp) _).setCell (by simp) _).setCell (by simp) _, ⟨((HB.out.set 1 _).set 2 _).set 3 _, by omega, by omega, c1, c2⟩⟩

theorem rdrop_any {b : Nat} {n ep en tp : Int} {w : World} (h : IsRef w b n ep en tp) :
    Calls Try.prog 27 #[.pointer (some ⟨b, 0, none⟩)] w fun x w' => x = .returned (.tuple #[]) ∧ Keep [b] w w' ∧ IsRef w' b n 0 0 0 := by
  have g0 := h.blk.cell 0
  have g1 := h.blk.cell 1
  have g2 := h.blk.cell 2
  have g3 := h.blk.cell 3
  have f1 := h.blk.free 1
  have f2 := h.blk.free 2
  have f3 := h.blk.free 3
  obtain ⟨HB, e1, e2, c1, c2⟩ := h
  have HB := Lib.hid HB
  simp only [List.getElem?_cons_zero, List.getElem?_cons_succ] at g0 g1 g2 g3
  go_enter Try.func27, Try.ntmps27
  go_wp2
  go_end0
  exact ⟨rfl, (((Keep.refl _ _).setCell (by simp) _).setCell (by simp) _).setCell (by simp) _, ⟨((HB.out.set 1 _).set 2 _).set 3 _, by omega, by omega, c1, c2⟩⟩
end Go.Proofs.Ytdlnjknlbjlkaaa
