/- The contracts of package lease. No condition beyond what a lease always holds. -/
import Derived.Test.YtdlnjknlbjlkaaaClockLaws
import Derived.Deep.QuietTactic
import Derived.BigQuiet
namespace Go.Proofs.Ytdlnjknlbjlkaaa
open Go.ChangeShapes Go.WideShapes Go.ChangeAt Go.RowKit
set_option linter.unusedVariables false
set_option linter.unusedSimpArgs false

theorem Calls.same {P : Program} {f : FuncId} {args : Array Value} {w : World} {v : Value} (h : Calls P f args w fun e w' => e = .returned v ∧ w = w') :
    Calls P f args w fun e w' => e = .returned v ∧ w' = w := h.mono fun _ _ ⟨a, b⟩ => ⟨a, b.symm⟩
theorem Keep.drewN {S : List Nat} {a w : World} (h : Keep S a w) (n : Nat) : Keep S a (w.drewN n) := ⟨h.os, h.tape, h.output, h.size, h.block⟩
theorem Blk.drewN {w : World} {b : Nat} {cs : List Value} {T : TypeId} (h : Blk w b cs T) (n : Nat) : Blk (w.drewN n) b cs T := h
theorem IsClock.drewN {w : World} {b : Nat} {n : Int} (h : IsClock w b n) (k : Nat) : IsClock (w.drewN k) b n := ⟨h.blk, h.lo, h.hi⟩

/-- Block b is a lease over the clock in block cb. -/
structure IsLease (w : World) (b cb : Nat) (ep en tp : Int) : Prop where
  blk : Blk w b [.pointer (some ⟨cb, 0, none⟩), .int .i64 ep, .int .i64 en, .int .i64 tp] 38
  lo : 0 ≤ en
  hi : en ≤ 1099511627796
theorem IsLease.keep {S : List Nat} {w w' : World} {b cb : Nat} {ep en tp : Int} (h : IsLease w b cb ep en tp) (k : Keep S w w') (hn : b ∉ S) : IsLease w' b cb ep en tp := ⟨h.blk.keep k hn, h.lo, h.hi⟩

def leaseTakes (now ep en tp s e : Int) : Bool := decide (1 ≤ e ∧ tp ≤ e ∧ 0 ≤ s ∧ s ≤ now ∧ now - s < 20 ∧ (e = ep → en < s + 20))

theorem ask_any {b cb : Nat} {n ep en tp : Int} {w : World} (h : IsLease w b cb ep en tp) (hc : IsClock w cb n) :
    Calls Try.prog 20 #[.pointer (some ⟨b, 0, none⟩)] w fun e w' => e = .returned (.int .i64 n) ∧ w = w' := by
  have g0 := h.blk.cell 0
  simp only [List.getElem?_cons_zero] at g0
  go_enter Try.func20, Try.ntmps20
  go_wp2_with (go_at_call 16; refine (now_any hc).mono ?_; rintro e w' ⟨rfl, rfl⟩)
  go_ret
  exact ⟨rfl, rfl⟩

theorem good_q {b cb : Nat} {n ep en tp : Int} {w : World} (e : Int) (h : IsLease w b cb ep en tp) (hc : IsClock w cb n) (g : Bool) (hg : g = decide (0 < e ∧ e = ep ∧ n < en)) :
    Calls Try.prog 22 #[.pointer (some ⟨b, 0, none⟩), .int .i64 e] w fun x w' => x = .returned (.bool g) ∧ ∃ m, w' = w.drewN m := by
  have g0 := h.blk.cell 0
  have g1 := h.blk.cell 1
  have g2 := h.blk.cell 2
  simp only [List.getElem?_cons_zero, List.getElem?_cons_succ] at g0 g1 g2
  by_cases h0 : 0 < e
  · by_cases h1 : e = ep
    · subst h1
      have HG : Hid (g = decide (n < en)) := by unfold Hid; rw [hg]; simp [h0]
      clear hg
      have q1 : (e == e) = true := by simp
      by_cases h2 : n < en
      all_goals
        go_enter Try.func22, Try.ntmps22
        go_wp2_with fail
        go_quiet ((go_at_call 16; refine Calls.quiet_of_same (Calls.same (now_any (hc.drewN _)))))
        go_wp2_with fail
        go_ret
        exact ⟨by rw [HG.out]; simp [h2], _, rfl⟩
    · have HG : Hid (g = false) := by unfold Hid; rw [hg]; simp [h1]
      clear hg
      have q1 : (e == ep) = false := by simpa using h1
      go_enter Try.func22, Try.ntmps22
      go_wp2_with fail
      go_quiet ((go_at_call 16; refine Calls.quiet_of_same (Calls.same (now_any (hc.drewN _)))))
      go_wp2_with fail
      go_ret
      exact ⟨by rw [HG.out]; rfl, _, rfl⟩
  · have HG : Hid (g = false) := by unfold Hid; rw [hg]; simp [h0]
    clear hg
    have q1 : decide (0 < e) = false := by simpa using h0
    go_enter Try.func22, Try.ntmps22
    go_wp2_with fail
    go_quiet ((go_at_call 16; refine Calls.quiet_of_same (Calls.same (now_any (hc.drewN _)))))
    go_wp2_with fail
    go_ret
    exact ⟨by rw [HG.out]; rfl, _, rfl⟩

theorem good_any {b cb : Nat} {n ep en tp : Int} {w : World} (e : Int) (h : IsLease w b cb ep en tp) (hc : IsClock w cb n) (g : Bool) (hg : g = decide (0 < e ∧ e = ep ∧ n < en)) :
    Calls Try.prog 22 #[.pointer (some ⟨b, 0, none⟩), .int .i64 e] w fun x w' => x = .returned (.bool g) ∧ Keep [] w w' :=
  (good_q e h hc g hg).mono fun _ _ ⟨a, m, hm⟩ => ⟨a, by rw [hm]; exact (Keep.refl _ _).drewN _⟩

theorem ret_i64 {a b : Int} (h : a = b) : Ending.returned (.int .i64 a) = .returned (.int .i64 b) := by rw [h]

theorem left_q {b cb : Nat} {n ep en tp : Int} {w : World} (h : IsLease w b cb ep en tp) (hc : IsClock w cb n) (g : Int) (hg : g = if ep = 0 then 0 else max 0 (en - n)) :
    Calls Try.prog 23 #[.pointer (some ⟨b, 0, none⟩)] w fun x w' => x = .returned (.int .i64 g) ∧ ∃ m, w' = w.drewN m := by
  have g0 := h.blk.cell 0
  have g1 := h.blk.cell 1
  have g2 := h.blk.cell 2
  obtain ⟨_, e1, e2⟩ := h
  have c1 := hc.lo
  have c2 := hc.hi
  simp only [List.getElem?_cons_zero, List.getElem?_cons_succ] at g0 g1 g2
  by_cases h0 : ep = 0
  · have q1 : (ep == 0) = true := by simpa using h0
    have HG : Hid (g = 0) := by unfold Hid; rw [hg]; simp [h0]
    clear hg h0
    go_enter Try.func23, Try.ntmps23
    go_wp2_with (go_at_call 16; refine (now_any hc).mono ?_; rintro e w' ⟨rfl, rfl⟩)
    go_ret
    exact ⟨by rw [HG.out]; rfl, 0, rfl⟩
  · have q1 : (ep == 0) = false := by simpa using h0
    have HG : Hid (g = max 0 (en - n)) := by unfold Hid; rw [hg]; simp [h0]
    clear hg h0
    go_enter Try.func23, Try.ntmps23
    go_wp2_with fail
    go_quiet ((go_at_call 16; refine Calls.quiet_of_same (Calls.same (now_any (hc.drewN _)))))
    go_wp2_with fail
    all_goals
      go_ret
      refine ⟨?_, _, rfl⟩
    · exact ret_i64 (by rw [HG.out]; omega)
    · exact ret_i64 (by rw [HG.out]; omega)

theorem left_any {b cb : Nat} {n ep en tp : Int} {w : World} (h : IsLease w b cb ep en tp) (hc : IsClock w cb n) (g : Int) (hg : g = if ep = 0 then 0 else max 0 (en - n)) :
    Calls Try.prog 23 #[.pointer (some ⟨b, 0, none⟩)] w fun x w' => x = .returned (.int .i64 g) ∧ Keep [] w w' :=
  (left_q h hc g hg).mono fun _ _ ⟨a, m, hm⟩ => ⟨a, by rw [hm]; exact (Keep.refl _ _).drewN _⟩

def Took (b cb : Nat) (ep en tp s e : Int) (g : Bool) (w : World) (x : Ending) (w' : World) : Prop :=
  x = .returned (.bool g) ∧ Keep [b] w w' ∧ (if g then IsLease w' b cb e (s + 20) e else IsLease w' b cb ep en tp)

set_option maxHeartbeats 400000 in
theorem take_any {b cb : Nat} {n ep en tp : Int} {w : World} (s e : Int) (h : IsLease w b cb ep en tp) (hc : IsClock w cb n) (hb : b ≠ cb) (g : Bool) (hg : g = leaseTakes n ep en tp s e) :
    Calls Try.prog 21 #[.pointer (some ⟨b, 0, none⟩), .int .i64 s, .int .i64 e] w (Took b cb ep en tp s e g w) := by
  have g0 := h.blk.cell 0
  have g1 := h.blk.cell 1
  have g2 := h.blk.cell 2
  have g3 := h.blk.cell 3
  have f1 := h.blk.free 1
  have f2 := h.blk.free 2
  have f3 := h.blk.free 3
  have c1 := hc.lo
  have c2 := hc.hi
  obtain ⟨HB, e1, e2⟩ := h
  have HB := Lib.hid HB
  simp only [List.getElem?_cons_zero, List.getElem?_cons_succ] at g0 g1 g2 g3
  have HG := Lib.hid hg
  clear hg
  obtain ⟨S, HS⟩ : ∃ S, Hid (S = since n s) := ⟨_, rfl⟩
  have HF : g = false → IsLease w b cb ep en tp → Took b cb ep en tp s e g w (.returned (.bool false)) w := fun a h => by
    subst a; exact ⟨rfl, Keep.refl _ _, h⟩
  have HN := Lib.hid HF
  clear HF
  by_cases p1 : e < 1
  · have q : g = false := by rw [HG.out]; unfold leaseTakes; simp; omega
    have HQ := Lib.hid q
    clear q HG
    go_enter Try.func21, Try.ntmps21
    go_wp2_with (first | (go_at_call 16; refine (now_any hc).mono ?_; rintro e w' ⟨rfl, rfl⟩) | (go_at_call 17; refine (since_any s hc _ HS.out).mono ?_; rintro e w' ⟨rfl, rfl⟩))
    go_ret
    exact HN.out HQ.out ⟨HB.out, e1, e2⟩
  by_cases p2 : e < tp
  · have q : g = false := by rw [HG.out]; unfold leaseTakes; simp; omega
    have HQ := Lib.hid q
    clear q HG
    go_enter Try.func21, Try.ntmps21
    go_wp2_with (first | (go_at_call 16; refine (now_any hc).mono ?_; rintro e w' ⟨rfl, rfl⟩) | (go_at_call 17; refine (since_any s hc _ HS.out).mono ?_; rintro e w' ⟨rfl, rfl⟩))
    go_ret
    exact HN.out HQ.out ⟨HB.out, e1, e2⟩
  by_cases p3 : s < 0
  · have q : g = false := by rw [HG.out]; unfold leaseTakes; simp; omega
    have HQ := Lib.hid q
    clear q HG
    go_enter Try.func21, Try.ntmps21
    go_wp2_with (first | (go_at_call 16; refine (now_any hc).mono ?_; rintro e w' ⟨rfl, rfl⟩) | (go_at_call 17; refine (since_any s hc _ HS.out).mono ?_; rintro e w' ⟨rfl, rfl⟩))
    go_ret
    exact HN.out HQ.out ⟨HB.out, e1, e2⟩
  by_cases p4 : n < s
  · have q : g = false := by rw [HG.out]; unfold leaseTakes; simp; omega
    have HQ := Lib.hid q
    clear q HG
    go_enter Try.func21, Try.ntmps21
    go_wp2_with (first | (go_at_call 16; refine (now_any hc).mono ?_; rintro e w' ⟨rfl, rfl⟩) | (go_at_call 17; refine (since_any s hc _ HS.out).mono ?_; rintro e w' ⟨rfl, rfl⟩))
    go_ret
    exact HN.out HQ.out ⟨HB.out, e1, e2⟩
  have hS : S = n - s := by rw [HS.out]; unfold since; rw [if_neg (by omega)]
  by_cases p5 : 20 ≤ S
  · have q : g = false := by rw [HG.out]; unfold leaseTakes; simp; omega
    have HQ := Lib.hid q
    clear q HG hS
    go_enter Try.func21, Try.ntmps21
    go_wp2_with (first | (go_at_call 16; refine (now_any hc).mono ?_; rintro e w' ⟨rfl, rfl⟩) | (go_at_call 17; refine (since_any s hc _ HS.out).mono ?_; rintro e w' ⟨rfl, rfl⟩))
    go_ret
    exact HN.out HQ.out ⟨HB.out, e1, e2⟩
  by_cases p6 : e = ep
  · by_cases p7 : s + 20 ≤ en
    · have q : g = false := by rw [HG.out]; unfold leaseTakes; simp; omega
      have HQ := Lib.hid q
      have q6 : (e == ep) = true := by simpa using p6
      clear q HG hS p6
      go_enter Try.func21, Try.ntmps21
      go_wp2_with (first | (go_at_call 16; refine (now_any hc).mono ?_; rintro e w' ⟨rfl, rfl⟩) | (go_at_call 17; refine (since_any s hc _ HS.out).mono ?_; rintro e w' ⟨rfl, rfl⟩))
      go_ret
      exact HN.out HQ.out ⟨HB.out, e1, e2⟩
    · have q : g = true := by rw [HG.out]; unfold leaseTakes; simp; omega
      subst q
      have q6 : (e == ep) = true := by simpa using p6
      clear HG hS p6
      go_enter Try.func21, Try.ntmps21
      go_wp2_with (first | (go_at_call 16; refine (now_any hc).mono ?_; rintro e w' ⟨rfl, rfl⟩) | (go_at_call 17; refine (since_any s hc _ HS.out).mono ?_; rintro e w' ⟨rfl, rfl⟩))
      go_ret
      exact ⟨rfl, (((Keep.refl _ _).setCell (by simp) _).setCell (by simp) _).setCell (by simp) _, ⟨((HB.out.set 1 _).set 2 _).set 3 _, by omega, by omega⟩⟩
  · have q : g = true := by rw [HG.out]; unfold leaseTakes; simp; omega
    subst q
    have q6 : (e == ep) = false := by simpa using p6
    clear HG hS p6
    go_enter Try.func21, Try.ntmps21
    go_wp2_with (first | (go_at_call 16; refine (now_any hc).mono ?_; rintro e w' ⟨rfl, rfl⟩) | (go_at_call 17; refine (since_any s hc _ HS.out).mono ?_; rintro e w' ⟨rfl, rfl⟩))
    go_ret
    exact ⟨rfl, (((Keep.refl _ _).setCell (by simp) _).setCell (by simp) _).setCell (by simp) _, ⟨((HB.out.set 1 _).set 2 _).set 3 _, by omega, by omega⟩⟩

theorem drop_any {b cb : Nat} {ep en tp : Int} {w : World} (h : IsLease w b cb ep en tp) :
    Calls Try.prog 26 #[.pointer (some ⟨b, 0, none⟩)] w fun x w' => x = .returned (.tuple #[]) ∧ Keep [b] w w' ∧ IsLease w' b cb 0 0 0 := by
  have g0 := h.blk.cell 0
  have g1 := h.blk.cell 1
  have g2 := h.blk.cell 2
  have g3 := h.blk.cell 3
  have f1 := h.blk.free 1
  have f2 := h.blk.free 2
  have f3 := h.blk.free 3
  obtain ⟨HB, e1, e2⟩ := h
  have HB := Lib.hid HB
  simp only [List.getElem?_cons_zero, List.getElem?_cons_succ] at g0 g1 g2 g3
  go_enter Try.func26, Try.ntmps26
  go_wp2
  go_end0
  exact ⟨rfl, (((Keep.refl _ _).setCell (by simp) _).setCell (by simp) _).setCell (by simp) _, ⟨((HB.out.set 1 _).set 2 _).set 3 _, by omega, by omega⟩⟩

/-- New over a clock. -/
theorem new_some (cb : Nat) (w : World) :
    Calls Try.prog 19 #[.pointer (some ⟨cb, 0, none⟩)] w fun x w' => x = .returned (.pointer (some ⟨w.heap.size, 0, none⟩)) ∧ Keep [] w w' ∧ IsLease w' w.heap.size cb 0 0 0 := by
  go_enter Try.func19, Try.ntmps19
  go_wp2
  go_ret
  exact ⟨rfl, (Keep.refl _ _).alloc _, ⟨Blk.new _ _ _, by decide, by decide⟩⟩
/-- New over none: a clock of its own. -/
theorem new_nil (w : World) :
    Calls Try.prog 19 #[.pointer none] w fun x w' => ∃ b cb, x = .returned (.pointer (some ⟨b, 0, none⟩)) ∧ Keep [] w w' ∧ IsLease w' b cb 0 0 0 ∧ IsClock w' cb 0 ∧ b ≠ cb ∧ w.heap.size ≤ b ∧ w.heap.size ≤ cb := by
  go_enter Try.func19, Try.ntmps19
  go_wp2
  go_ret
  refine ⟨w.heap.size + 1, w.heap.size, rfl, ((Keep.refl _ _).alloc _).alloc _, ⟨Blk.new' _ _ _ _ (by simp), by decide, by decide⟩, ⟨(Blk.new _ _ _).alloc _, by decide, by decide⟩, by omega, by omega, by omega⟩
end Go.Proofs.Ytdlnjknlbjlkaaa
