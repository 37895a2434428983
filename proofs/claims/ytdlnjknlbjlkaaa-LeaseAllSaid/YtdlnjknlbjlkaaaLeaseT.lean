/- A lease and its clock, both made since the call began: what each step does to both. No condition. -/
import Derived.Test.YtdlnjknlbjlkaaaLease
namespace Go.Proofs.Ytdlnjknlbjlkaaa
open Go.ChangeShapes Go.WideShapes Go.ChangeAt Go.RowKit
set_option linter.unusedVariables false
set_option linter.unusedSimpArgs false

structure LT (w0 w : World) (b cb : Nat) (n ep en tp : Int) : Prop where
  keep : Keep [] w0 w
  nb : w0.heap.size ≤ b
  nc : w0.heap.size ≤ cb
  ne : b ≠ cb
  lease : IsLease w b cb ep en tp
  clock : IsClock w cb n

section
variable {w0 w : World} {b cb : Nat} {n ep en tp : Int}
theorem LT.then0 {w' : World} (h : LT w0 w b cb n ep en tp) (k : Keep [] w w') : LT w0 w' b cb n ep en tp :=
  ⟨h.keep.then k (by simp), h.nb, h.nc, h.ne, h.lease.keep k (by simp), h.clock.keep k (by simp)⟩
theorem LT.ptr (h : LT w0 w b cb n ep en tp) : w.cell? ⟨b, 0, none⟩ = some (.pointer (some ⟨cb, 0, none⟩)) := by
  have g0 := h.lease.blk.cell 0
  simpa using g0
theorem lt_tick (x : Int) (h : LT w0 w b cb n ep en tp) (m : Int) (hm : m = tick1 n x) :
    Calls Try.prog 15 #[.pointer (some ⟨cb, 0, none⟩), .slice (some ⟨w.heap.size, 0, none⟩) 1 1] (w.alloc (.cells #[.int .i64 x] 2))
      fun e w' => e = .returned (.int .i64 m) ∧ LT w0 w' b cb m ep en tp := by
  have hlt := h.clock.blk.lt
  have hlb := h.lease.blk.lt
  refine (tick_lit w.heap.size 1 [x] 2 (w := w.alloc (.cells #[.int .i64 x] 2)) (b := cb) (n := n) ⟨h.clock.blk.alloc _, h.clock.lo, h.clock.hi⟩ (by omega) (Blk.new _ _ _) (by simp) (by simp) 1 rfl m (by rw [hm]; rfl)).mono ?_
  rintro e w' ⟨rfl, c, k⟩
  have hne := h.ne
  exact ⟨rfl, (h.keep.alloc _).then k (by have := h.nc; simp; omega), h.nb, h.nc, h.ne, IsLease.keep (w := w.alloc (.cells #[.int .i64 x] 2)) ⟨h.lease.blk.alloc _, h.lease.lo, h.lease.hi⟩ k (by simp; omega), c⟩
theorem lt_ask (h : LT w0 w b cb n ep en tp) : Calls Try.prog 20 #[.pointer (some ⟨b, 0, none⟩)] w fun e w' => e = .returned (.int .i64 n) ∧ w = w' := ask_any h.lease h.clock
theorem lt_now (h : LT w0 w b cb n ep en tp) : Calls Try.prog 16 #[.pointer (some ⟨cb, 0, none⟩)] w fun e w' => e = .returned (.int .i64 n) ∧ w = w' := now_any h.clock
theorem lt_since (t : Int) (h : LT w0 w b cb n ep en tp) (m : Int) (hm : m = since n t) : Calls Try.prog 17 #[.pointer (some ⟨cb, 0, none⟩), .int .i64 t] w fun e w' => e = .returned (.int .i64 m) ∧ w = w' := since_any t h.clock m hm
theorem lt_good (e : Int) (h : LT w0 w b cb n ep en tp) (g : Bool) (hg : g = decide (0 < e ∧ e = ep ∧ n < en)) :
    Calls Try.prog 22 #[.pointer (some ⟨b, 0, none⟩), .int .i64 e] w fun x w' => x = .returned (.bool g) ∧ LT w0 w' b cb n ep en tp :=
  (good_any e h.lease h.clock g hg).mono fun _ _ ⟨a, k⟩ => ⟨a, h.then0 k⟩
theorem lt_left (h : LT w0 w b cb n ep en tp) (g : Int) (hg : g = if ep = 0 then 0 else max 0 (en - n)) :
    Calls Try.prog 23 #[.pointer (some ⟨b, 0, none⟩)] w fun x w' => x = .returned (.int .i64 g) ∧ LT w0 w' b cb n ep en tp :=
  (left_any h.lease h.clock g hg).mono fun _ _ ⟨a, k⟩ => ⟨a, h.then0 k⟩
theorem LT.of1 {w' : World} {ep' en' tp' : Int} (h : LT w0 w b cb n ep en tp) (k : Keep [b] w w') (l : IsLease w' b cb ep' en' tp') : LT w0 w' b cb n ep' en' tp' :=
  ⟨h.keep.then k (by have := h.nb; simp; omega), h.nb, h.nc, h.ne, l, h.clock.keep k (by have := h.ne; simp; omega)⟩
theorem lt_take (s e : Int) (h : LT w0 w b cb n ep en tp) (hg : leaseTakes n ep en tp s e = true) :
    Calls Try.prog 21 #[.pointer (some ⟨b, 0, none⟩), .int .i64 s, .int .i64 e] w fun x w' => x = .returned (.bool true) ∧ LT w0 w' b cb n e (s + 20) e :=
  (take_any s e h.lease h.clock h.ne true hg.symm).mono fun _ _ ⟨a, k, l⟩ => ⟨a, h.of1 k l⟩
theorem lt_take_no (s e : Int) (h : LT w0 w b cb n ep en tp) (hg : leaseTakes n ep en tp s e = false) :
    Calls Try.prog 21 #[.pointer (some ⟨b, 0, none⟩), .int .i64 s, .int .i64 e] w fun x w' => x = .returned (.bool false) ∧ LT w0 w' b cb n ep en tp :=
  (take_any s e h.lease h.clock h.ne false hg.symm).mono fun _ _ ⟨a, k, l⟩ => ⟨a, h.of1 k l⟩
theorem lt_drop (h : LT w0 w b cb n ep en tp) :
    Calls Try.prog 26 #[.pointer (some ⟨b, 0, none⟩)] w fun x w' => x = .returned (.tuple #[]) ∧ LT w0 w' b cb n 0 0 0 :=
  (drop_any h.lease).mono fun _ _ ⟨a, k, l⟩ => ⟨a, h.of1 k l⟩
theorem lt_new_nil (w0 w : World) (hk : Keep [] w0 w) : Calls Try.prog 19 #[.pointer none] w fun x w' => ∃ b cb, x = .returned (.pointer (some ⟨b, 0, none⟩)) ∧ LT w0 w' b cb 0 0 0 0 :=
  (new_nil w).mono fun _ _ ⟨b, cb, a, k, l, c, ne, nb, nc⟩ => ⟨b, cb, a, hk.then k (by simp), Nat.le_trans hk.size nb, Nat.le_trans hk.size nc, ne, l, c⟩
theorem lt_new (w0 w : World) (n : Int) (hk : Keep [] w0 w) (c : IsClock w cb n) (nc : w0.heap.size ≤ cb) :
    Calls Try.prog 19 #[.pointer (some ⟨cb, 0, none⟩)] w fun x w' => x = .returned (.pointer (some ⟨w.heap.size, 0, none⟩)) ∧ Keep [] w w' ∧ LT w0 w' w.heap.size cb n 0 0 0 :=
  (new_some cb w).mono fun _ _ ⟨a, k, l⟩ => ⟨a, k, hk.then k (by simp), hk.size, nc, by have := c.blk.lt; omega, l, c.keep k (by simp)⟩
end

theorem begun17 (w : World) : Calls Try.prog 18 #[] w fun e w' => e = .returned (.bool true) ∧ Below w.heap.size w w' := by
  go_enter Try.func18, Try.ntmps18
  go_wp2_with fail
  have c0 : IsClock (w.alloc (.cells #[.int .i64 0] 25)) w.heap.size 0 := ⟨Blk.new _ _ _, by decide, by decide⟩
  refine (lt_new w _ 0 ((Keep.refl _ _).alloc _) c0 (Nat.le_refl _)).mono ?_
  rw [World.size_alloc]
  clear c0
  rintro e w1 ⟨rfl, _, h1⟩
  go_wp2_with fail
  refine (lt_ask h1).mono ?_
  rintro e w' ⟨rfl, rfl⟩
  have p1 := h1.ptr
  go_wp2_with fail
  refine (lt_tick 5 h1 5 rfl).mono ?_
  clear p1 h1
  rintro e w2 ⟨rfl, h2⟩
  go_wp2_with fail
  refine (lt_take 0 3 h2 (by decide)).mono ?_
  clear h2
  rintro e w3 ⟨rfl, h3⟩
  go_wp2_with fail
  refine (lt_good 3 h3 true (by decide)).mono ?_
  clear h3
  rintro e w4 ⟨rfl, h4⟩
  go_wp2_with fail
  refine (lt_good 2 h4 false (by decide)).mono ?_
  clear h4
  rintro e w5 ⟨rfl, h5⟩
  go_wp2_with fail
  refine (lt_left h5 15 (by decide)).mono ?_
  clear h5
  rintro e w6 ⟨rfl, h6⟩
  have p6 := h6.ptr
  go_wp2_with fail
  refine (lt_now h6).mono ?_
  rintro e w' ⟨rfl, rfl⟩
  go_wp2_with fail
  refine (lt_now h6).mono ?_
  rintro e w' ⟨rfl, rfl⟩
  go_wp2_with fail
  refine (lt_take_no 0 3 h6 (by decide)).mono ?_
  clear h6 p6
  rintro e w7 ⟨rfl, h7⟩
  go_wp2_with fail
  refine (lt_take_no 0 2 h7 (by decide)).mono ?_
  clear h7
  rintro e w8 ⟨rfl, h8⟩
  go_wp2_with fail
  go_ret
  exact ⟨rfl, h8.keep.below⟩
end Go.Proofs.Ytdlnjknlbjlkaaa
