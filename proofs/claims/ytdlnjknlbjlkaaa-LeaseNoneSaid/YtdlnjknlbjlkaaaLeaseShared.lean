/- The laws LeaseShared, LeaseNone: their walks. -/
import Derived.Test.YtdlnjknlbjlkaaaLeaseLaws
namespace Go.Proofs.Ytdlnjknlbjlkaaa
open Go.ChangeShapes Go.WideShapes Go.ChangeAt Go.RowKit
set_option linter.unusedVariables false
set_option linter.unusedSimpArgs false

/-- Two leases over one clock, all made since the call began. -/
structure LT2 (w0 w : World) (b b2 cb : Nat) (n ep en tp ep2 en2 tp2 : Int) : Prop where
  l : LT w0 w b cb n ep en tp
  m : IsLease w b2 cb ep2 en2 tp2
  nm : w0.heap.size ≤ b2
  ne : b ≠ b2
  nc : b2 ≠ cb
section
variable {w0 w : World} {b b2 cb : Nat} {n ep en tp ep2 en2 tp2 : Int}
theorem LT2.then0 {w' : World} (h : LT2 w0 w b b2 cb n ep en tp ep2 en2 tp2) (k : Keep [] w w') : LT2 w0 w' b b2 cb n ep en tp ep2 en2 tp2 :=
  ⟨h.l.then0 k, h.m.keep k (by simp), h.nm, h.ne, h.nc⟩
theorem LT2.swap (h : LT2 w0 w b b2 cb n ep en tp ep2 en2 tp2) : LT2 w0 w b2 b cb n ep2 en2 tp2 ep en tp :=
  ⟨⟨h.l.keep, h.nm, h.l.nc, h.nc, h.m, h.l.clock⟩, h.l.lease, h.l.nb, h.ne.symm, h.l.ne⟩
theorem l2_take (s e : Int) (h : LT2 w0 w b b2 cb n ep en tp ep2 en2 tp2) (hg : leaseTakes n ep en tp s e = true) :
    Calls Try.prog 21 #[.pointer (some ⟨b, 0, none⟩), .int .i64 s, .int .i64 e] w fun x w' => x = .returned (.bool true) ∧ LT2 w0 w' b b2 cb n e (s + 20) e ep2 en2 tp2 :=
  (take_any s e h.l.lease h.l.clock h.l.ne true hg.symm).mono fun _ _ ⟨a, k, l⟩ => ⟨a, h.l.of1 k l, h.m.keep k (by have := h.ne; simp; omega), h.nm, h.ne, h.nc⟩
theorem l2_tick (x : Int) (h : LT2 w0 w b b2 cb n ep en tp ep2 en2 tp2) (m : Int) (hm : m = tick1 n x) :
    Calls Try.prog 15 #[.pointer (some ⟨cb, 0, none⟩), .slice (some ⟨w.heap.size, 0, none⟩) 1 1] (w.alloc (.cells #[.int .i64 x] 2))
      fun e w' => e = .returned (.int .i64 m) ∧ LT2 w0 w' b b2 cb m ep en tp ep2 en2 tp2 := by
  have hlt := h.l.clock.blk.lt
  have hlb := h.l.lease.blk.lt
  have hne := h.l.ne
  have hnc := h.nc
  refine (tick_lit w.heap.size 1 [x] 2 (w := w.alloc (.cells #[.int .i64 x] 2)) (b := cb) (n := n) ⟨h.l.clock.blk.alloc _, h.l.clock.lo, h.l.clock.hi⟩ (by omega) (Blk.new _ _ _) (by simp) (by simp) 1 rfl m (by rw [hm]; rfl)).mono ?_
  rintro e w' ⟨rfl, c, k⟩
  exact ⟨rfl, ⟨(h.l.keep.alloc _).then k (by have := h.l.nc; simp; omega), h.l.nb, h.l.nc, h.l.ne, IsLease.keep (w := w.alloc (.cells #[.int .i64 x] 2)) ⟨h.l.lease.blk.alloc _, h.l.lease.lo, h.l.lease.hi⟩ k (by simp; omega), c⟩,
    IsLease.keep (w := w.alloc (.cells #[.int .i64 x] 2)) ⟨h.m.blk.alloc _, h.m.lo, h.m.hi⟩ k (by simp; omega), h.nm, h.ne, h.nc⟩
theorem l2_good (e : Int) (h : LT2 w0 w b b2 cb n ep en tp ep2 en2 tp2) (g : Bool) (hg : g = decide (0 < e ∧ e = ep ∧ n < en)) :
    Calls Try.prog 22 #[.pointer (some ⟨b, 0, none⟩), .int .i64 e] w fun x w' => x = .returned (.bool g) ∧ LT2 w0 w' b b2 cb n ep en tp ep2 en2 tp2 :=
  (good_any e h.l.lease h.l.clock g hg).mono fun _ _ ⟨a, k⟩ => ⟨a, h.then0 k⟩
end

set_option maxHeartbeats 1000000 in
theorem leaseShared_walk (a b : Int) (w : World) (_w0 : (Lit.int .i64 a).wf = true) (_w1 : (Lit.int .i64 b).wf = true) :
    Calls Try.prog 8 #[.int .i64 a, .int .i64 b] w fun e w' => e = .returned (.bool true) ∧ Below w.heap.size w w' := by
  by_cases hin : 0 ≤ a ∧ a ≤ 30 ∧ 0 ≤ b ∧ b ≤ 30
  · obtain ⟨i1, i2, i3, i4⟩ := hin
    go_enter Try.func8, Try.ntmps8
    go_wp2_with fail
    refine (begun17 w).mono ?_
    rintro e w0 ⟨rfl, k0⟩
    go_wp2_with fail
    have c0 : IsClock (w0.alloc (.cells #[.int .i64 0] 25)) w0.heap.size 0 := ⟨Blk.new _ _ _, by decide, by decide⟩
    have ks := k0.size
    refine (lt_new w _ 0 ((Keep.of_below k0).alloc _) c0 ks).mono ?_
    rw [World.size_alloc]
    clear c0 k0
    rintro e w1 ⟨rfl, k1, h1⟩
    go_wp2_with fail
    have hs := k1.size
    have hb1 := h1.lease.blk.lt
    refine (lt_new w _ 0 h1.keep h1.clock ks).mono ?_
    rintro e w2 ⟨rfl, k2, h2⟩
    have h3 : LT2 w w2 w1.heap.size (w0.heap.size + 1) w0.heap.size 0 0 0 0 0 0 0 := ⟨h2, h1.lease.keep k2 (by simp), h1.nb, by omega, by omega⟩
    have h4 := h3.swap
    clear h1 h2 h3 k1 k2 hs hb1
    generalize w1.heap.size = b2 at *
    generalize w0.heap.size + 1 = b1 at *
    generalize w0.heap.size = cb at *
    go_wp2_with fail
    refine (l2_take 0 1 h4 (by decide)).mono ?_
    clear h4
    rintro e w3 ⟨rfl, h5⟩
    have p1 := h5.l.ptr
    go_wp2_with fail
    have e1 : a = tick1 0 a := by unfold tick1; rw [if_pos (by omega)]; omega
    refine (l2_tick a h5 a e1).mono ?_
    clear h5 p1 e1
    rintro e w4 ⟨rfl, h6⟩
    have h6 := h6.swap
    go_wp2_with fail
    refine (l2_take a 2 h6 (by unfold leaseTakes; simp; omega)).mono ?_
    clear h6
    rintro e w5 ⟨rfl, h7⟩
    have p1 := h7.l.ptr
    go_wp2_with fail
    have e1 : a + b = tick1 a b := by unfold tick1; rw [if_pos (by omega)]
    refine (l2_tick b h7 (a + b) e1).mono ?_
    clear h7 p1 e1
    rintro e w6 ⟨rfl, h8⟩
    go_wp2_with fail
    refine (lt_now h8.l).mono ?_
    rintro e w' ⟨rfl, rfl⟩
    have h9 := h8.swap
    clear h8
    have p1 := h9.l.ptr
    go_wp2_with fail
    refine (lt_now h9.l).mono ?_
    rintro e w' ⟨rfl, rfl⟩
    clear p1
    by_cases d1 : a + b < 20
    · go_wp2_with fail
      refine (l2_good 1 h9 true (by simp; omega)).mono ?_
      clear h9
      rintro e w7 ⟨rfl, h10⟩
      have h11 := h10.swap
      clear h10
      go_wp2_with fail
      refine (l2_good 2 h11 true (by simp; omega)).mono ?_
      clear h11
      rintro e w8 ⟨rfl, h12⟩
      have h13 := h12.swap
      clear h12
      go_wp2_with fail
      refine (l2_good 2 h13 false (by simp)).mono ?_
      clear h13
      rintro e w9 ⟨rfl, h14⟩
      have p1 := h14.l.ptr
      go_wp2_with fail
      refine (lt_since a h14.l b (by unfold since; rw [if_neg (by omega)]; omega)).mono ?_
      rintro e w' ⟨rfl, rfl⟩
      go_wp2_with fail
      go_ret
      exact ⟨ret_true (by first | rfl | (simp; omega)), h14.l.keep.below⟩
    · go_wp2_with fail
      refine (l2_good 1 h9 false (by simp; omega)).mono ?_
      clear h9
      rintro e w7 ⟨rfl, h10⟩
      have h11 := h10.swap
      clear h10
      by_cases d2 : b < 20
      · go_wp2_with fail
        refine (l2_good 2 h11 true (by simp; omega)).mono ?_
        clear h11
        rintro e w8 ⟨rfl, h12⟩
        have h13 := h12.swap
        clear h12
        go_wp2_with fail
        refine (l2_good 2 h13 false (by simp)).mono ?_
        clear h13
        rintro e w9 ⟨rfl, h14⟩
        have p1 := h14.l.ptr
        go_wp2_with fail
        refine (lt_since a h14.l b (by unfold since; rw [if_neg (by omega)]; omega)).mono ?_
        rintro e w' ⟨rfl, rfl⟩
        go_wp2_with fail
        go_ret
        exact ⟨ret_true (by first | rfl | (simp; omega)), h14.l.keep.below⟩
      · go_wp2_with fail
        refine (l2_good 2 h11 false (by simp; omega)).mono ?_
        clear h11
        rintro e w8 ⟨rfl, h12⟩
        have h13 := h12.swap
        clear h12
        go_wp2_with fail
        refine (l2_good 2 h13 false (by simp)).mono ?_
        clear h13
        rintro e w9 ⟨rfl, h14⟩
        have p1 := h14.l.ptr
        go_wp2_with fail
        refine (lt_since a h14.l b (by unfold since; rw [if_neg (by omega)]; omega)).mono ?_
        rintro e w' ⟨rfl, rfl⟩
        go_wp2_with fail
        go_ret
        exact ⟨ret_true (by first | rfl | (simp; omega)), h14.l.keep.below⟩
  · go_enter Try.func8, Try.ntmps8
    go_wp2_with fail
    refine (begun17 w).mono ?_
    rintro e w0 ⟨rfl, k0⟩
    go_wp2_with fail
    all_goals first | (exfalso; omega) | (go_ret; exact ⟨rfl, k0⟩)

theorem good_nil (e : Int) (w : World) :
    Calls Try.prog 22 #[.pointer none, .int .i64 e] w fun x w' => x = .returned (.bool false) ∧ Keep [] w w' := by
  go_enter Try.func22, Try.ntmps22
  go_wp2_with fail
  go_quiet (fail)
  go_wp2_with fail
  go_ret
  exact ⟨rfl, (Keep.refl _ _).drewN _⟩

theorem leaseNone_walk (w : World) : Calls Try.prog 11 #[] w fun e w' => e = .returned (.bool true) ∧ Below w.heap.size w w' := by
  go_enter Try.func11, Try.ntmps11
  go_wp2_with fail
  go_in
  go_wp2_with fail
  refine (begun17 w).mono ?_
  rintro e w0 ⟨rfl, k0⟩
  go_wp2_with fail
  go_in
  go_wp2_with fail
  go_in
  go_wp2_with fail
  refine (good_nil 1 w0).mono ?_
  rintro e w1 ⟨rfl, k1⟩
  go_wp2_with fail
  go_in
  go_wp2_with fail
  go_ret
  exact ⟨rfl, k0.trans (k1.below.mono k0.size)⟩
end Go.Proofs.Ytdlnjknlbjlkaaa
