/- The law LeaseAll: its walk. -/
import Derived.Test.YtdlnjknlbjlkaaaLeaseAll
namespace Go.Proofs.Ytdlnjknlbjlkaaa
open Go.ChangeShapes Go.WideShapes Go.ChangeAt Go.RowKit Go.Deep
set_option linter.unusedVariables false
set_option linter.unusedSimpArgs false

structure LA (w0 w : World) (lb cb rb : Nat) (n ep en tp : Int) : Prop where
  l : LT w0 w lb cb n ep en tp
  r : IsRef w rb n ep en tp
  nr : w0.heap.size ≤ rb
  ne1 : rb ≠ lb
  ne2 : rb ≠ cb
  z : ep = 0 → en = 0
theorem LA.then0 {w0 w w' : World} {lb cb rb : Nat} {n ep en tp : Int} (h : LA w0 w lb cb rb n ep en tp) (k : Keep [] w w') : LA w0 w' lb cb rb n ep en tp :=
  ⟨h.l.then0 k, h.r.keep k (by simp), h.nr, h.ne1, h.ne2, h.z⟩

theorem lt_tick_k {w0 w : World} {b cb : Nat} {n ep en tp : Int} (x : Int) (h : LT w0 w b cb n ep en tp) (m : Int) (hm : m = tick1 n x) :
    Calls Try.prog 15 #[.pointer (some ⟨cb, 0, none⟩), .slice (some ⟨w.heap.size, 0, none⟩) 1 1] (w.alloc (.cells #[.int .i64 x] 2))
      fun e w' => e = .returned (.int .i64 m) ∧ LT w0 w' b cb m ep en tp ∧ Keep [cb] w w' := by
  have hlt := h.clock.blk.lt
  have hlb := h.lease.blk.lt
  refine (tick_lit w.heap.size 1 [x] 2 (w := w.alloc (.cells #[.int .i64 x] 2)) (b := cb) (n := n) ⟨h.clock.blk.alloc _, h.clock.lo, h.clock.hi⟩ (by omega) (Blk.new _ _ _) (by simp) (by simp) 1 rfl m (by rw [hm]; rfl)).mono ?_
  rintro e w' ⟨rfl, c, k⟩
  have hne := h.ne
  exact ⟨rfl, ⟨(h.keep.alloc _).then k (by have := h.nc; simp; omega), h.nb, h.nc, h.ne, IsLease.keep (w := w.alloc (.cells #[.int .i64 x] 2)) ⟨h.lease.blk.alloc _, h.lease.lo, h.lease.hi⟩ k (by simp; omega), c⟩, ((Keep.refl _ _).alloc _).then k (by simp)⟩

set_option maxRecDepth 100000 in
set_option maxHeartbeats 2000000 in
theorem leaseAll_walk (v : Value) (epoch : Int) (w : World) (w0 : IsOps w v) (_w1 : (Lit.int .i64 epoch).wf = true) :
    Calls Try.prog 10 #[v, .int .i64 epoch] w fun e w' => e = .returned (.bool true) ∧ Below w.heap.size w w' := by
  obtain ⟨a, len, cap, rfl, hlen, hrows⟩ := w0
  have HR := Lib.hid hrows
  clear hrows
  go_enter Try.func10, Try.ntmps10
  go_wp2_with fail
  refine (begun17 w).mono ?_
  rintro e w0 ⟨rfl, k0⟩
  have ks := k0.size
  go_wp2_with fail
  have c0 : IsClock (w0.alloc (.cells #[.int .i64 0] 25)) w0.heap.size 0 := ⟨Blk.new _ _ _, by decide, by decide⟩
  refine (lt_new w _ 0 ((Keep.of_below k0).alloc _) c0 ks).mono ?_
  rw [World.size_alloc]
  clear c0 k0
  rintro e w1 ⟨rfl, k1, h1⟩
  have hs1 := k1.size
  have hb1 := h1.lease.blk.lt
  have hb2 := h1.clock.blk.lt
  clear k1 hs1
  generalize w0.heap.size + 1 = lb at *
  generalize w0.heap.size = cb at *
  go_wp2_with fail
  have hA : LA w (w1.alloc (.cells #[.int .i64 0, .int .i64 0, .int .i64 0, .int .i64 0] 45)) lb cb w1.heap.size 0 0 0 0 :=
    ⟨h1.then0 ((Keep.refl _ _).alloc _), ⟨Blk.new _ _ _, by decide, by decide, by decide, by decide⟩, h1.keep.size, by omega, by omega, fun _ => rfl⟩
  clear h1
  generalize w1.heap.size = rb at *
  go_loopg [9] len (fun g i wr => ∃ (k : Nat) (n ep en tp : Int), g = len - k ∧ k ≤ len ∧ k ≤ 50 ∧ i = .int .i64 k ∧ LA w wr lb cb rb n ep en tp)
  case atStart => exact ⟨0, 0, 0, 0, 0, rfl, Nat.zero_le _, by omega, rfl, hA⟩
  case round =>
    obtain ⟨k, n, ep, en, tp, hg, hk, hk2, rfl, hA⟩ := hrel
    have HG := Lib.hid hg
    clear hg
    by_cases hlt : k < len
    · by_cases hlt2 : k < 50
      · obtain ⟨sb, so, rfl, hsb, kd, x, y, hc0, hc1, hc2⟩ := HR.out k hlt
        clear HR
        have g0 : wr.cell? ⟨sb, so + k * 3, none⟩ = some (.int .i64 kd) := by rw [hA.l.keep.cell hsb (by simp)]; exact hc0
        have g1 : wr.cell? ⟨sb, so + k * 3 + 1, none⟩ = some (.int .i64 x) := by rw [hA.l.keep.cell hsb (by simp)]; exact hc1
        have g2 : wr.cell? ⟨sb, so + k * 3 + 2, none⟩ = some (.int .i64 y) := by rw [hA.l.keep.cell hsb (by simp)]; exact hc2
        have q1 : (k : Int) < len := by omega
        have q2 : (k : Int) < 50 := by omega
        clear hc0 hc1 hc2
        have hob := hA.r.blk.lt
        go_upto_block 2 with fail
        have hA1 : LA w (wr.alloc (.cells #[.int .i64 kd, .int .i64 x, .int .i64 y] 47)) lb cb rb n ep en tp := hA.then0 ((Keep.refl _ _).alloc _)
        have o0 : (wr.alloc (.cells #[.int .i64 kd, .int .i64 x, .int .i64 y] 47)).cell? ⟨wr.heap.size, 0, none⟩ = some (.int .i64 kd) := by simp
        have o1 : (wr.alloc (.cells #[.int .i64 kd, .int .i64 x, .int .i64 y] 47)).cell? ⟨wr.heap.size, 1, none⟩ = some (.int .i64 x) := by simp
        have o2 : (wr.alloc (.cells #[.int .i64 kd, .int .i64 x, .int .i64 y] 47)).cell? ⟨wr.heap.size, 2, none⟩ = some (.int .i64 y) := by simp
        have n1 : wr.heap.size ≠ lb := by have := hA.l.lease.blk.lt; omega
        have n2 : wr.heap.size ≠ cb := by have := hA.l.clock.blk.lt; omega
        have n3 : wr.heap.size ≠ rb := by omega
        have n4 : wr.heap.size < (wr.alloc (.cells #[.int .i64 kd, .int .i64 x, .int .i64 y] 47)).heap.size := by simp
        clear hA hob g0 g1 g2
        generalize (wr.alloc (.cells #[.int .i64 kd, .int .i64 x, .int .i64 y] 47)) = W1 at *
        generalize wr.heap.size = ob at *
        go_cut [] (fun wx => ∃ (n' ep' en' tp' : Int), LA w wx lb cb rb n' ep' en' tp' ∧ wx.cell? ⟨ob, 2, none⟩ = some (.int .i64 y) ∧ ob ≠ lb ∧ ob ≠ cb ∧ ob ≠ rb)
        case first =>
          have hcase : kd = 0 ∨ kd = 1 ∨ (kd ≠ 0 ∧ kd ≠ 1) := by omega
          rcases hcase with rfl | rfl | ⟨d0, d1⟩
          · have r0 := hA1.r.blk.cell 0
            have r1 := hA1.r.blk.free 0
            simp only [List.getElem?_cons_zero] at r0
            have b1 := hA1.r.nlo
            have b2 := hA1.r.nhi
            go_wp2_with fail
            go_region_with (go_at_call 14; refine (refTick n x _ b1 b2).mono ?_; rintro e w' ⟨rfl, rfl⟩)
            all_goals
              have bd := tick1_bd n x b1 b2
              have hr2 : IsRef ((W1.setCell ⟨rb, 0, none⟩ (.int .i64 (tick1 n x))).drew) rb (tick1 n x) ep en tp := ⟨hA1.r.blk.set 0 _, hA1.r.lo, hA1.r.hi, bd.1, bd.2⟩
              have hK : Keep [rb] W1 ((W1.setCell ⟨rb, 0, none⟩ (.int .i64 (tick1 n x))).drew) := ((Keep.refl _ _).setCell (by simp) _).drew
              have hL2 : LT w ((W1.setCell ⟨rb, 0, none⟩ (.int .i64 (tick1 n x))).drew) lb cb n ep en tp :=
                ⟨hA1.l.keep.then hK (by have := hA1.nr; simp; omega), hA1.l.nb, hA1.l.nc, hA1.l.ne, hA1.l.lease.keep hK (by have := hA1.ne1; simp; omega), hA1.l.clock.keep hK (by have := hA1.ne2; simp; omega)⟩
              have p1 := hL2.ptr
              have p2 : ((W1.setCell ⟨rb, 0, none⟩ (.int .i64 (tick1 n x))).drew).cell? ⟨ob, 1, none⟩ = some (.int .i64 x) := by rw [hK.cell n4 (by simp; omega)]; exact o1
              have p3 : ((W1.setCell ⟨rb, 0, none⟩ (.int .i64 (tick1 n x))).drew).cell? ⟨ob, 2, none⟩ = some (.int .i64 y) := by rw [hK.cell n4 (by simp; omega)]; exact o2
              have p4 := hr2.blk.cell 0
              simp only [List.getElem?_cons_zero] at p4
              have n5 : ob < ((W1.setCell ⟨rb, 0, none⟩ (.int .i64 (tick1 n x))).drew).heap.size := by simpa using n4
              have e1 := hA1.nr
              have e2 := hA1.ne1
              have e3 := hA1.ne2
              have ez := hA1.z
              generalize ((W1.setCell ⟨rb, 0, none⟩ (.int .i64 (tick1 n x))).drew) = W2 at *
              clear hA1 hK o0 o1 o2 r0 r1
              have hL3 : LT w W2.drew lb cb n ep en tp := hL2.then0 (Keep.refl _ _).drew
              have hR3 : IsRef W2.drew rb (tick1 n x) ep en tp := hr2.keep (Keep.refl [] _).drew (by simp)
              have p5 : W2.drew.cell? ⟨ob, 1, none⟩ = some (.int .i64 x) := p2
              have p6 : W2.drew.cell? ⟨ob, 2, none⟩ = some (.int .i64 y) := p3
              have n6 : ob < W2.drew.heap.size := n5
              go_wp2_with fail
              go_region_held3 (fun w' => w'.cell? ⟨lb, 0, none⟩ = some (.pointer (some ⟨cb, 0, none⟩)) ∧ w'.cell? ⟨ob, 1, none⟩ = some (.int .i64 x) ∧ w'.cell? ⟨rb, 0, none⟩ = some (.int .i64 (tick1 n x))) (first | go_keep | (refine ⟨?_, ?_, ?_⟩ <;> assumption))
                (first | (go_at_call 15; refine (lt_tick_k x hL3 _ rfl).mono ?_; rintro e w3 ⟨rfl, h3, k3⟩; have s1 := h3.ptr; have s2 := (k3.cell n6 (by simp; omega)).trans p5; have s5 := (k3.cell n6 (by simp; omega)).trans p6; have s3 := hR3.keep k3 (by simp; omega); have s4 := s3.blk.cell 0; simp only [List.getElem?_cons_zero] at s4))
              go_wp2_with fail
              go_meet
              exact ⟨tick1 n x, ep, en, tp, ⟨h3, s3, e1, e2, e3, ez⟩, s5, n1, n2, n3⟩
          · have hL3 : LT w W1.drew lb cb n ep en tp := hA1.l.then0 (Keep.refl _ _).drew
            have hR3 : IsRef W1.drew rb n ep en tp := hA1.r.keep (Keep.refl [] _).drew (by simp)
            have p5 : W1.drew.cell? ⟨ob, 1, none⟩ = some (.int .i64 x) := o1
            have p6 : W1.drew.cell? ⟨ob, 2, none⟩ = some (.int .i64 y) := o2
            have n6 : ob < W1.drew.heap.size := n4
            have e1 := hA1.nr
            have e2 := hA1.ne1
            have e3 := hA1.ne2
            have ez := hA1.z
            have e4 := hA1.l.ne
            obtain ⟨g, hg⟩ : ∃ g, g = leaseTakes n ep en tp x y := ⟨_, rfl⟩
            have HGG := Lib.hid hg
            clear hg
            clear hA1
            go_wp2_with fail
            go_region_held3 (fun w' => w'.cell? ⟨ob, 1, none⟩ = some (.int .i64 x) ∧ w'.cell? ⟨ob, 2, none⟩ = some (.int .i64 y)) (first | go_keep | (refine ⟨?_, ?_⟩ <;> assumption))
              (first
                | (go_at_call 21; refine (take_any x y hL3.lease hL3.clock e4 g HGG.out).mono ?_; rintro e w3 ⟨rfl, k3, l3⟩; have s1 := (k3.cell n6 (by simp; omega)).trans p5; have s2 := (k3.cell n6 (by simp; omega)).trans p6; have s3 := hR3.keep k3 (by simp; omega); have s4 := hL3.clock.keep k3 (by simp; omega); have n7 := Nat.lt_of_lt_of_le n6 k3.size)
                | (go_at_call 25; refine (rtake_any x y s3 g HGG.out).mono ?_; rintro e w4 ⟨rfl, k4, l4⟩; have t1 := (k4.cell n7 (by simp; omega)).trans s1; have t2 := (k4.cell n7 (by simp; omega)).trans s2; have t4 := s4.keep k4 (by simp; omega)))
            have e5 := hL3.nb
            have e6 := hL3.nc
            have hk : Keep [] w w4 := (hL3.keep.then k3 (by simp; omega)).then k4 (by simp; omega)
            cases g
            · go_wp2_with fail
              go_meet
              have hl := IsLease.keep l3 k4 (by simp; omega)
              exact ⟨n, ep, en, tp, ⟨⟨hk, e5, e6, e4, hl, t4⟩, l4, e1, e2, e3, ez⟩, t2, n1, n2, n3⟩
            · go_wp2_with fail
              go_meet
              have hl := IsLease.keep l3 k4 (by simp; omega)
              have hy : y = 0 → x + 20 = 0 := by
                have := HGG.out
                unfold leaseTakes at this
                simp at this
                omega
              exact ⟨n, y, x + 20, y, ⟨⟨hk, e5, e6, e4, hl, t4⟩, l4, e1, e2, e3, hy⟩, t2, n1, n2, n3⟩
          · have q3 : (kd == 0) = false := by simpa using d0
            have q4 : (kd == 1) = false := by simpa using d1
            clear d0 d1
            go_wp2_with fail
            refine (drop_any hA1.l.lease).mono ?_
            rintro e w2 ⟨rfl, k2, l2⟩
            have h2 := hA1.l.of1 k2 l2
            have r2 := hA1.r.keep k2 (by have := hA1.ne1; simp; omega)
            have o3 : w2.cell? ⟨ob, 2, none⟩ = some (.int .i64 y) := by rw [k2.cell n4 (by simp; omega)]; exact o2
            have n5 : ob < w2.heap.size := Nat.lt_of_lt_of_le n4 k2.size
            go_wp2_with fail
            refine (rdrop_any r2).mono ?_
            rintro e w3 ⟨rfl, k3, r3⟩
            have o4 : w3.cell? ⟨ob, 2, none⟩ = some (.int .i64 y) := by rw [k3.cell n5 (by simp; omega)]; exact o3
            have h3 : LA w w3 lb cb rb n 0 0 0 :=
              ⟨⟨h2.keep.then k3 (by have := hA1.nr; simp; omega), h2.nb, h2.nc, h2.ne, h2.lease.keep k3 (by have := hA1.ne1; simp; omega), h2.clock.keep k3 (by have := hA1.ne2; simp; omega)⟩, r3, hA1.nr, hA1.ne1, hA1.ne2, fun _ => rfl⟩
            go_wp2_with fail
            go_meet
            exact ⟨n, 0, 0, 0, h3, o4, n1, n2, n3⟩
        case rest =>
          obtain ⟨n', ep', en', tp', hA2, o2, n1, n2, n3⟩ := hcut
          clear hA1 o0 o1
          have p0 := hA2.r.blk.cell 0
          simp only [List.getElem?_cons_zero] at p0
          have hlv : (if ep' = 0 then 0 else max 0 (en' - n')) = max 0 (en' - n') := by
            split
            · have := hA2.z ‹_›; have := hA2.r.nlo; omega
            · rfl
          obtain ⟨L, hL⟩ : ∃ L, L = max 0 (en' - n') := ⟨_, rfl⟩
          obtain ⟨g1, hg1⟩ : ∃ g, g = decide (0 < epoch ∧ epoch = ep' ∧ n' < en') := ⟨_, rfl⟩
          obtain ⟨g2, hg2⟩ : ∃ g, g = decide (0 < y ∧ y = ep' ∧ n' < en') := ⟨_, rfl⟩
          have H1 := Lib.hid hg1
          have H2 := Lib.hid hg2
          have HL := Lib.hid hL
          have HV := Lib.hid (hL.trans hlv.symm)
          clear hg1 hg2 hL hlv
          have q5 : (g1 != g1) = false := by simp
          have q6 : (g2 != g2) = false := by simp
          have q7 : (L != L) = false := by simp
          have q8 : (n' != n') = false := by simp
          go_wp2_with fail
          go_quiet ((first
            | (go_at_call_of 22 (Value.int .i64 epoch); refine Calls.quiet_of (good_q epoch (hA2.l.lease.keep ((Keep.refl [] _).drewN _) (by simp)) (hA2.l.clock.drewN _) g1 H1.out))
            | (go_at_call_of 22 (Value.int .i64 y); refine Calls.quiet_of (good_q y (hA2.l.lease.keep ((Keep.refl [] _).drewN _) (by simp)) (hA2.l.clock.drewN _) g2 H2.out))
            | (go_at_call_of 28 (Value.int .i64 epoch); refine Calls.quiet_of (rgood_q epoch (hA2.r.keep ((Keep.refl [] _).drewN _) (by simp)) g1 H1.out))
            | (go_at_call_of 28 (Value.int .i64 y); refine Calls.quiet_of (rgood_q y (hA2.r.keep ((Keep.refl [] _).drewN _) (by simp)) g2 H2.out))
            | (go_at_call 23; refine Calls.quiet_of (left_q (hA2.l.lease.keep ((Keep.refl [] _).drewN _) (by simp)) (hA2.l.clock.drewN _) L HV.out))
            | (go_at_call 29; refine Calls.quiet_of (rleft_q (hA2.r.keep ((Keep.refl [] _).drewN _) (by simp)) L HL.out))
            | (go_at_call 20; refine Calls.quiet_of_same (Calls.same (ask_any (hA2.l.lease.keep ((Keep.refl [] _).drewN _) (by simp)) (hA2.l.clock.drewN _))))
            | (go_at_call 16; refine Calls.quiet_of_same (Calls.same (now_any (hA2.l.clock.drewN _))))))
          go_wp2_with fail
          go_roundg (len - (k + 1))
          case measure => rw [HG.out]; omega
          case rel => exact ⟨k + 1, n', ep', en', tp', rfl, by omega, by omega, by go_num, hA2.then0 ((Keep.refl _ _).drewN _)⟩
      · go_wp2_with fail
        go_ret
        exact ⟨rfl, hA.l.keep.below⟩
    · go_wp2_with fail
      go_ret
      exact ⟨rfl, hA.l.keep.below⟩
end Go.Proofs.Ytdlnjknlbjlkaaa
