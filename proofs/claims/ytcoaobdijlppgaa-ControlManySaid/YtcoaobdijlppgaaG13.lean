/- Ctl11, Ctl12 -/
import Derived.Test.YtcoaobdijlppgaaG12
/- The authority: commit. -/
namespace Go.Proofs.Ytcoaobdijlppgaa
open Go.ChangeShapes Go.WideShapes Go.ChangeAt Go.RowKit
set_option linter.unusedVariables false
set_option linter.unusedSimpArgs false
set_option maxRecDepth 100000

/-- What stands behind a change that is over. -/
def Ct.committed (t : Ct) : Ct := ⟨t.num, t.top, t.dest, 0, 0, [], [], 0, []⟩
theorem IsClock.drewn {w : World} {b : Nat} {n : Int} (h : IsClock w b n) (k : Nat) : IsClock (w.drewN k) b n := h.keep (drewn_keep (Keep.refl [] _) k) (by simp)
theorem Gr.drewn {w : World} {g n : Nat} {f : Int → Option Int} (h : Gr w g n f) (k : Nat) : Gr (w.drewN k) g n f := h.keep (drewn_keep (Keep.refl [] _) k) (by simp)
def commitJ (w0 : World) (c kb s g base : Nat) (t : Ct) (ma ta : Option Addr) (mc tc2 : Nat) (vn vd : Value) (l : Nat → Bool) (x : Nat → Value) (w' : World) : Prop :=
  ∃ na nc, (CtB w' c kb s g t (Value.slice ma t.mem.length mc) (Value.slice ta t.dest.length tc2) vn vd) ∧
  (CtR w' t (Value.slice ma t.mem.length mc) (Value.slice ta t.dest.length tc2) vn vd base) ∧
  (Keep [] w0 w') ∧
  (l 0 = true → x 0 = .pointer (some ⟨c, 0, none⟩)) ∧
  (l 1 = true → x 1 = .pointer (some ⟨c, 0, none⟩)) ∧
  (l 2 = true → x 2 = .pointer (some ⟨c, 2, none⟩)) ∧
  (l 3 = true → x 3 = .pointer (some ⟨c, 4, none⟩)) ∧
  (l 4 = true → x 4 = (Value.slice ma t.mem.length mc)) ∧
  (l 5 = true → x 5 = .pointer (some ⟨c, 0, none⟩)) ∧
  (l 6 = true → x 6 = .pointer (some ⟨c, 0, none⟩)) ∧
  (l 7 = true → x 7 = .pointer (some ⟨c, 5, none⟩)) ∧
  (l 8 = true → x 8 = .pointer (some ⟨c, 7, none⟩)) ∧
  (l 9 = true → x 9 = (Value.slice ta t.dest.length tc2)) ∧
  (l 10 = true → x 10 = (Value.slice na (bothL t.mem t.dest 0).length nc) ∧ Own w' 0 3 (Value.slice na (bothL t.mem t.dest 0).length nc) (ints (bothL t.mem t.dest 0))) ∧
  (l 11 = true → x 11 = (Value.slice na (bothL t.mem t.dest 0).length nc) ∧ l 10 = true)
def commitK (w0 : World) (c kb s g d sb base B : Nat) (t : Ct) (ma ta na : Option Addr) (mc tc2 nc : Nat) (vn vd : Value) (l : Nat → Bool) (x : Nat → Value) (w' : World) : Prop :=
  (l 17 = false → CtB w' c kb s g t (Value.slice ma t.mem.length mc) (Value.slice ta t.dest.length tc2) vn vd) ∧
  (l 17 = true → CtB w' c kb s g { t with epoch := t.num, top := t.top, mem := t.dest } (Value.slice ta t.dest.length tc2) (Value.slice ta t.dest.length tc2) vn vd) ∧
  (CtR w' t (Value.slice ma t.mem.length mc) (Value.slice ta t.dest.length tc2) vn vd base) ∧
  (Own w' 0 3 (Value.slice na (bothL t.mem t.dest 0).length nc) (ints (bothL t.mem t.dest 0))) ∧
  (l 17 = false → CtD w' d sb s (stT t.epoch t.top t.mem) B) ∧
  (l 17 = true → CtD w' d sb s (stT t.num t.top t.dest) (B + 1)) ∧
  (Keep [d, sb, s, c] w0 w') ∧
  (l 17 = true → l 5 = true ∧ l 10 = true ∧ l 15 = true) ∧
  (l 0 = true → x 0 = .pointer (some ⟨c, 0, none⟩)) ∧
  (l 1 = true → x 1 = .pointer (some ⟨c, 0, none⟩)) ∧
  (l 2 = true → x 2 = .pointer (some ⟨c, 0, none⟩)) ∧
  (l 3 = true → x 3 = .pointer (some ⟨c, 5, none⟩)) ∧
  (l 4 = true → x 4 = .pointer (some ⟨c, 5, none⟩)) ∧
  (l 5 = true → x 5 = .int .i64 t.num) ∧
  (l 6 = true → x 6 = .pointer (some ⟨c, 0, none⟩)) ∧
  (l 7 = true → x 7 = .pointer (some ⟨c, 0, none⟩)) ∧
  (l 8 = true → x 8 = .pointer (some ⟨c, 2, none⟩)) ∧
  (l 9 = true → x 9 = .pointer (some ⟨c, 3, none⟩)) ∧
  (l 10 = true → x 10 = .int .i64 t.top) ∧
  (l 11 = true → x 11 = .pointer (some ⟨c, 0, none⟩)) ∧
  (l 12 = true → x 12 = .pointer (some ⟨c, 0, none⟩)) ∧
  (l 13 = true → x 13 = .pointer (some ⟨c, 5, none⟩)) ∧
  (l 14 = true → x 14 = .pointer (some ⟨c, 7, none⟩)) ∧
  (l 15 = true → x 15 = (Value.slice ta t.dest.length tc2)) ∧
  (l 16 = true → x 16 = .agg #[.int .i64 t.num, .int .i64 t.top, (Value.slice ta t.dest.length tc2)] ∧ l 5 = true ∧ l 10 = true ∧ l 15 = true) ∧
  (l 17 = true → x 17 = .int .i64 0) ∧
  (l 18 = true → x 18 = .bool false)
section
variable {w : World} {c kb s g d sb base B n : Nat} {t : Ct} {vm vt vn vd : Value} {f : Int → Option Int} {now : Int}
theorem wpList_bs_tm {w : World} {ops : Array Oper} {rest : List Oper} {o : Oper} {a : Act} {Q : Exit → Act → World → Prop} (hg : o.guard = none) (x : Operand) (ho : o.op = .buildSlice 29 1 #[(0, x)]) (y : Tm) (hx : a.eval x = .agg (tmC y).toArray)
    (h : wpList Try.prog ops Q rest (a.put o.dst (.slice (some ⟨w.heap.size, 0, none⟩) 1 1)) (w.alloc (.cells (tmC y).toArray 39))) : wpList Try.prog ops Q (o :: rest) a w :=
  wpList_step fun K hK => step_bs_tm hg x ho y hx (hK _ _ h)
set_option maxHeartbeats 8000000 in
theorem commit_wait (h : CtB w c kb s g t vm vt vn vd) (hg : Gr w g n f) (hk : IsClock w kb now) (hlo : I64 t.lost) (a : Int) (hf : f t.lost = some a) (hl : 0 < t.lost) (hs : since now a < 40) :
    Calls Try.prog 37 #[.pointer (some ⟨c, 0, none⟩)] w fun e w' => e = .returned (.slice none 0 0) ∧ Keep [] w w' := by
  have hlk : ∀ k, (Instr.lookup 62 (.map (some g)) (.int .i64 t.lost) true).run Try.prog (w.drewN k) = .ok (.tuple #[.int .i64 a, .bool true]) (w.drewN k) := fun k => by have := (hg.drewn k).look t.lost hlo; rw [hf] at this; exact this
  obtain ⟨c9, _⟩ := ctc_9 h
  obtain ⟨c11, _⟩ := ctc_11 h
  obtain ⟨sn, hsn⟩ : ∃ m, m = since now a := ⟨_, rfl⟩
  rw [← hsn] at hs
  have q1 : decide (0 < t.lost) = true := decide_eq_true hl
  have q2 : decide (sn < 40) = true := decide_eq_true hs
  go_enter Try.func37, Try.ntmps37
  go_upto_region 1 with fail
  go_quiet (fail)
  have hB1 := h.keep (drewn_keep (Keep.refl [] w) nq) (by simp)
  have hk1 := hk.drewn nq
  have K1 := drewn_keep (Keep.refl [] w) nq
  clear h hg hk hlk c9 c11
  generalize w.drewN nq = w1 at *
  obtain ⟨c9, _⟩ := ctc_9 hB1
  obtain ⟨c0, _⟩ := ctc_0 hB1
  go_wp2_with fail
  refine (since_any a hk1 sn hsn).mono ?_
  rintro e w2 ⟨rfl, rfl⟩
  go_wp2_with fail
  go_ret
  exact ⟨rfl, K1⟩
def Committed (w : World) (c kb s g d sb B : Nat) (t : Ct) (vt : Value) (e : Ending) (w' : World) : Prop :=
  ∃ v L base', e = .returned v ∧ TRow w' w.heap.size v L ∧ L.map (·.m) = (bothL t.mem t.dest 0).map (fun n => memberM t.committed 11 n 0) ∧
    CtB w' c kb s g t.committed vt (.slice none 0 0) (.slice none 0 0) (.slice none 0 0) ∧ CtR w' t.committed vt (.slice none 0 0) (.slice none 0 0) (.slice none 0 0) base' ∧ CtD w' d sb s (stT t.num t.top t.dest) (B + 1) ∧ Keep [d, sb, s, c] w w'
set_option maxHeartbeats 16000000 in
theorem commit_go (h : CtB w c kb s g t vm vt vn vd) (hr : CtR w t vm vt vn vd base) (hd : CtD w d sb s (stT t.epoch t.top t.mem) B) (hB : B ≤ 100000) (hcd : c ≠ d ∧ c ≠ sb ∧ c ≠ s) (hg : Gr w g n f) (hk : IsClock w kb now) (hlo : I64 t.lost)
    (hn : ∀ n ∈ t.dest, 1 ≤ n ∧ n ≤ 5) (hdp : 0 < t.dest.length) (he : I64 t.num ∧ I64 t.top) (hgo : f t.lost = none ∨ t.lost ≤ 0 ∨ ∃ a, f t.lost = some a ∧ 40 ≤ since now a) :
    Calls Try.prog 37 #[.pointer (some ⟨c, 0, none⟩)] w (Committed w c kb s g d sb B t vt) := by
  obtain ⟨ok, hok⟩ : ∃ o, o = (f t.lost).isSome := ⟨_, rfl⟩
  obtain ⟨av, hav⟩ : ∃ o, o = (f t.lost).getD 0 := ⟨_, rfl⟩
  have HGO : Hid (ok = false ∨ t.lost ≤ 0 ∨ 40 ≤ since now av) := Lib.hid (by
    rcases hgo with h | h | ⟨a, h, h'⟩
    · left; rw [hok, h]; rfl
    · right; left; exact h
    · right; right; rw [hav, h]; exact h')
  have hlk : ∀ k, (Instr.lookup 62 (.map (some g)) (.int .i64 t.lost) true).run Try.prog (w.drewN k) = .ok (.tuple #[.int .i64 av, .bool ok]) (w.drewN k) := fun k => by rw [hok, hav]; exact (hg.drewn k).look t.lost hlo
  clear hok hav hgo
  have HN := Lib.hid hn
  have HE := Lib.hid he
  have HB := Lib.hid hB
  have HCX := Lib.hid hcd
  have HDP : Hid (0 < t.committed.mem.length) := Lib.hid hdp
  have hbld1 : ∀ (W : World) (a : Option Addr) (n cap : Nat), (Instr.build 59 #[(0, .int .i64 t.num), (1, .int .i64 t.top), (2, .slice a n cap)]).run Try.prog W = .ok (.agg #[.int .i64 t.num, .int .i64 t.top, .slice a n cap]) W := fun W a n cap => run_build W _ _ _ (by rfl)
  have hbld : ∀ (W : World), (Instr.build 61 #[]).run Try.prog W = .ok (.agg #[.int .i64 0, .int .i64 0, .slice none 0 0, .slice none 0 0, .int .i64 0, .slice none 0 0]) W := fun W => run_build W _ _ _ (by rfl)
  obtain ⟨i0, hi, hz0, hz1, hz2⟩ := info_parts Try.infoMsg
  obtain ⟨ma, mc, rfl⟩ := hr.mem.islice
  obtain ⟨ta, tc2, rfl⟩ := hr.dest.islice
  obtain ⟨c9, _⟩ := ctc_9 h
  obtain ⟨c11, _⟩ := ctc_11 h
  go_enter Try.func37, Try.ntmps37
  go_upto_region 1 with fail
  go_quiet (fail)
  have hB0 := h.keep (drewn_keep (Keep.refl [] w) nq) (by simp)
  have hR0 := hr.still (drewn_keep (Keep.refl [] w) nq)
  have hDa := hd.still (drewn_keep (Keep.refl [] w) nq)
  have hk1 := hk.drewn nq
  have K1 := drewn_keep (Keep.refl [] w) nq
  clear h hr hd hg hk hlk c9 c11 hn hB hcd hdp he
  generalize w.drewN nq = w1 at *
  go_upto_region 2 with fail
  go_cut [39] (fun s wc => s = .bool false ∧ w1 = wc)
  case first =>
    obtain ⟨c9, _⟩ := ctc_9 hB0
    obtain ⟨c0, _⟩ := ctc_0 hB0
    cases ok with
    | false =>
      go_wp2_with fail
      go_meet
      exact ⟨rfl, rfl⟩
    | true =>
      by_cases g1 : 0 < t.lost
      · have q1 : decide (0 < t.lost) = true := decide_eq_true g1
        obtain ⟨sn, hsn⟩ : ∃ m, m = since now av := ⟨_, rfl⟩
        have q2 : decide (sn < 40) = false := decide_eq_false (by rcases HGO.out with h | h | h; cases h; omega; omega)
        have HSN := Lib.hid hsn
        clear hsn
        go_wp2_with fail
        refine (since_any av hk1 sn HSN.out).mono ?_
        rintro e w2 ⟨rfl, rfl⟩
        go_wp2_with fail
        go_meet
        exact ⟨rfl, rfl⟩
      · have q1 : decide (0 < t.lost) = false := decide_eq_false g1
        go_wp2_with fail
        go_meet
        exact ⟨rfl, rfl⟩
  case rest =>
  obtain ⟨rfl, rfl⟩ := hcut
  clear HGO hk1
  go_upto_region 4 with fail
  refine wp_region_inv (commitJ w1 c kb s g base t ma ta mc tc2 vn vd) (by kernel_rfl) (by kernel_rfl) (by kernel_rfl) ?_ (Steps.cons 0 ?_ (Steps.cons 1 ?_ (Steps.cons 2 ?_ (Steps.cons 3 ?_ (Steps.cons 4 ?_ (Steps.cons 5 ?_ (Steps.cons 6 ?_ (Steps.cons 7 ?_ (Steps.cons 8 ?_ (Steps.cons 9 ?_ (Steps.cons 10 ?_ (Steps.cons 11 ?_ (Steps.nil 12))))))))))))) 12 rfl ?_
  · intro x
    exact ⟨none, 0, hB0.keep (Keep.refl [] _).drew (by simp), hR0.still (Keep.refl [] _).drew, (Keep.refl _ _).drew, fun h => absurd h (by decide), fun h => absurd h (by decide), fun h => absurd h (by decide), fun h => absurd h (by decide), fun h => absurd h (by decide), fun h => absurd h (by decide), fun h => absurd h (by decide), fun h => absurd h (by decide), fun h => absurd h (by decide), fun h => absurd h (by decide), fun h => absurd h (by decide), fun h => absurd h (by decide)⟩
  · intro l x w' hJ hi hd
    obtain ⟨na, nc, hB, hR, hK, h0, h1, h2, h3, h4, h5, h6, h7, h8, h9, h10, h11⟩ := hJ
    refine Runs.of (b := ?bX0) ?eX0 ?_
    case eX0 => simp only [putV, Act.put, List.setIfInBounds_toArray, List.set_cons_zero, List.set_cons_succ]; rfl
    intro K' hK'
    go_simp
    exact hK'.go _ rfl ⟨na, nc, hB, hR, hK, fun _ => rfl, h1, h2, h3, h4, h5, h6, h7, h8, h9, h10, h11⟩
  · intro l x w' hJ hi hd
    obtain ⟨na, nc, hB, hR, hK, h0, h1, h2, h3, h4, h5, h6, h7, h8, h9, h10, h11⟩ := hJ
    have e0 := h0 (show l 0 = true by first | exact hd.1 rfl | exact hd.2.1 rfl | exact hd.2.2.1 rfl | exact hd.2.2.2.1 rfl | exact hd.2.2.2.2.1 rfl | exact hd.2.2.2.2.2.1 rfl)
    refine Runs.of (b := ?bX1) ?eX1 ?_
    case eX1 => simp only [putV, Act.put, List.setIfInBounds_toArray, List.set_cons_zero, List.set_cons_succ, e0]; rfl
    intro K' hK'
    go_simp
    exact hK'.go _ rfl ⟨na, nc, hB, hR, hK, h0, fun _ => rfl, h2, h3, h4, h5, h6, h7, h8, h9, h10, h11⟩
  · intro l x w' hJ hi hd
    obtain ⟨na, nc, hB, hR, hK, h0, h1, h2, h3, h4, h5, h6, h7, h8, h9, h10, h11⟩ := hJ
    have e1 := h1 (show l 1 = true by first | exact hd.1 rfl | exact hd.2.1 rfl | exact hd.2.2.1 rfl | exact hd.2.2.2.1 rfl | exact hd.2.2.2.2.1 rfl | exact hd.2.2.2.2.2.1 rfl)
    refine Runs.of (b := ?bX2) ?eX2 ?_
    case eX2 => simp only [putV, Act.put, List.setIfInBounds_toArray, List.set_cons_zero, List.set_cons_succ, e1]; rfl
    intro K' hK'
    go_simp
    exact hK'.go _ rfl ⟨na, nc, hB, hR, hK, h0, h1, fun _ => rfl, h3, h4, h5, h6, h7, h8, h9, h10, h11⟩
  · intro l x w' hJ hi hd
    obtain ⟨na, nc, hB, hR, hK, h0, h1, h2, h3, h4, h5, h6, h7, h8, h9, h10, h11⟩ := hJ
    have e2 := h2 (show l 2 = true by first | exact hd.1 rfl | exact hd.2.1 rfl | exact hd.2.2.1 rfl | exact hd.2.2.2.1 rfl | exact hd.2.2.2.2.1 rfl | exact hd.2.2.2.2.2.1 rfl)
    refine Runs.of (b := ?bX3) ?eX3 ?_
    case eX3 => simp only [putV, Act.put, List.setIfInBounds_toArray, List.set_cons_zero, List.set_cons_succ, e2]; rfl
    intro K' hK'
    go_simp
    exact hK'.go _ rfl ⟨na, nc, hB, hR, hK, h0, h1, h2, fun _ => rfl, h4, h5, h6, h7, h8, h9, h10, h11⟩
  · intro l x w' hJ hi hd
    obtain ⟨na, nc, hB, hR, hK, h0, h1, h2, h3, h4, h5, h6, h7, h8, h9, h10, h11⟩ := hJ
    have e3 := h3 (show l 3 = true by first | exact hd.1 rfl | exact hd.2.1 rfl | exact hd.2.2.1 rfl | exact hd.2.2.2.1 rfl | exact hd.2.2.2.2.1 rfl | exact hd.2.2.2.2.2.1 rfl)
    have cc := (ctc_4 hB).1
    refine Runs.of (b := ?bX4) ?eX4 ?_
    case eX4 => simp only [putV, Act.put, List.setIfInBounds_toArray, List.set_cons_zero, List.set_cons_succ, e3]; rfl
    intro K' hK'
    go_simp
    exact hK'.go _ rfl ⟨na, nc, hB, hR, hK, h0, h1, h2, h3, fun _ => rfl, h5, h6, h7, h8, h9, h10, h11⟩
  · intro l x w' hJ hi hd
    obtain ⟨na, nc, hB, hR, hK, h0, h1, h2, h3, h4, h5, h6, h7, h8, h9, h10, h11⟩ := hJ
    refine Runs.of (b := ?bX5) ?eX5 ?_
    case eX5 => simp only [putV, Act.put, List.setIfInBounds_toArray, List.set_cons_zero, List.set_cons_succ]; rfl
    intro K' hK'
    go_simp
    exact hK'.go _ rfl ⟨na, nc, hB, hR, hK, h0, h1, h2, h3, h4, fun _ => rfl, h6, h7, h8, h9, h10, h11⟩
  · intro l x w' hJ hi hd
    obtain ⟨na, nc, hB, hR, hK, h0, h1, h2, h3, h4, h5, h6, h7, h8, h9, h10, h11⟩ := hJ
    have e5 := h5 (show l 5 = true by first | exact hd.1 rfl | exact hd.2.1 rfl | exact hd.2.2.1 rfl | exact hd.2.2.2.1 rfl | exact hd.2.2.2.2.1 rfl | exact hd.2.2.2.2.2.1 rfl)
    refine Runs.of (b := ?bX6) ?eX6 ?_
    case eX6 => simp only [putV, Act.put, List.setIfInBounds_toArray, List.set_cons_zero, List.set_cons_succ, e5]; rfl
    intro K' hK'
    go_simp
    exact hK'.go _ rfl ⟨na, nc, hB, hR, hK, h0, h1, h2, h3, h4, h5, fun _ => rfl, h7, h8, h9, h10, h11⟩
  · intro l x w' hJ hi hd
    obtain ⟨na, nc, hB, hR, hK, h0, h1, h2, h3, h4, h5, h6, h7, h8, h9, h10, h11⟩ := hJ
    have e6 := h6 (show l 6 = true by first | exact hd.1 rfl | exact hd.2.1 rfl | exact hd.2.2.1 rfl | exact hd.2.2.2.1 rfl | exact hd.2.2.2.2.1 rfl | exact hd.2.2.2.2.2.1 rfl)
    refine Runs.of (b := ?bX7) ?eX7 ?_
    case eX7 => simp only [putV, Act.put, List.setIfInBounds_toArray, List.set_cons_zero, List.set_cons_succ, e6]; rfl
    intro K' hK'
    go_simp
    exact hK'.go _ rfl ⟨na, nc, hB, hR, hK, h0, h1, h2, h3, h4, h5, h6, fun _ => rfl, h8, h9, h10, h11⟩
  · intro l x w' hJ hi hd
    obtain ⟨na, nc, hB, hR, hK, h0, h1, h2, h3, h4, h5, h6, h7, h8, h9, h10, h11⟩ := hJ
    have e7 := h7 (show l 7 = true by first | exact hd.1 rfl | exact hd.2.1 rfl | exact hd.2.2.1 rfl | exact hd.2.2.2.1 rfl | exact hd.2.2.2.2.1 rfl | exact hd.2.2.2.2.2.1 rfl)
    refine Runs.of (b := ?bX8) ?eX8 ?_
    case eX8 => simp only [putV, Act.put, List.setIfInBounds_toArray, List.set_cons_zero, List.set_cons_succ, e7]; rfl
    intro K' hK'
    go_simp
    exact hK'.go _ rfl ⟨na, nc, hB, hR, hK, h0, h1, h2, h3, h4, h5, h6, h7, fun _ => rfl, h9, h10, h11⟩
  · intro l x w' hJ hi hd
    obtain ⟨na, nc, hB, hR, hK, h0, h1, h2, h3, h4, h5, h6, h7, h8, h9, h10, h11⟩ := hJ
    have e8 := h8 (show l 8 = true by first | exact hd.1 rfl | exact hd.2.1 rfl | exact hd.2.2.1 rfl | exact hd.2.2.2.1 rfl | exact hd.2.2.2.2.1 rfl | exact hd.2.2.2.2.2.1 rfl)
    have cc := (ctc_7 hB).1
    refine Runs.of (b := ?bX9) ?eX9 ?_
    case eX9 => simp only [putV, Act.put, List.setIfInBounds_toArray, List.set_cons_zero, List.set_cons_succ, e8]; rfl
    intro K' hK'
    go_simp
    exact hK'.go _ rfl ⟨na, nc, hB, hR, hK, h0, h1, h2, h3, h4, h5, h6, h7, h8, fun _ => rfl, h10, h11⟩
  · intro l x w' hJ hi hd
    obtain ⟨na, nc, hB, hR, hK, h0, h1, h2, h3, h4, h5, h6, h7, h8, h9, h10, h11⟩ := hJ
    have e4 := h4 (show l 4 = true by first | exact hd.1 rfl | exact hd.2.1 rfl | exact hd.2.2.1 rfl | exact hd.2.2.2.1 rfl | exact hd.2.2.2.2.1 rfl | exact hd.2.2.2.2.2.1 rfl)
    have e9 := h9 (show l 9 = true by first | exact hd.1 rfl | exact hd.2.1 rfl | exact hd.2.2.1 rfl | exact hd.2.2.2.1 rfl | exact hd.2.2.2.2.1 rfl | exact hd.2.2.2.2.2.1 rfl)
    refine Runs.of (b := ?bX10) ?eX10 ?_
    case eX10 => simp only [putV, Act.put, List.setIfInBounds_toArray, List.set_cons_zero, List.set_cons_succ, e4, e9]; rfl
    intro K' hK'
    go_simp
    refine (both_any _ _ t.mem t.dest 0 hR.mem.irv hR.dest.irv (by have := hR.memn; omega) (by have := hR.ton; omega)).mono ?_
    rintro e w2 ⟨v2, rfl, hO, k2⟩
    obtain ⟨ua, uc, rfl⟩ := hO.islice
    go_simp
    exact hK'.go _ rfl ⟨ua, uc, hB.keep k2 (by simp), hR.still k2, hK.trans k2, h0, h1, h2, h3, h4, h5, h6, h7, h8, h9, fun _ => ⟨rfl, hO.mono (by omega)⟩, fun h => absurd ((h11 h).2.symm.trans hi) (by decide)⟩
  · intro l x w' hJ hi hd
    obtain ⟨na, nc, hB, hR, hK, h0, h1, h2, h3, h4, h5, h6, h7, h8, h9, h10, h11⟩ := hJ
    have L10 := Lib.hid (show l 10 = true by first | exact hd.1 rfl | exact hd.2.1 rfl | exact hd.2.2.1 rfl | exact hd.2.2.2.1 rfl | exact hd.2.2.2.2.1 rfl | exact hd.2.2.2.2.2.1 rfl)
    have e10 := (h10 L10.out).1
    refine Runs.of (b := ?bX11) ?eX11 ?_
    case eX11 => simp only [putV, Act.put, List.setIfInBounds_toArray, List.set_cons_zero, List.set_cons_succ, e10]; rfl
    intro K' hK'
    go_simp
    exact hK'.go _ rfl ⟨na, nc, hB, hR, hK, h0, h1, h2, h3, h4, h5, h6, h7, h8, h9, h10, fun _ => ⟨rfl, L10.out⟩⟩
  · intro l x w2 hJ hl
    obtain ⟨na, nc, hB, hR, hK, h0, h1, h2, h3, h4, h5, h6, h7, h8, h9, h10, h11⟩ := hJ
    obtain ⟨hN0, _⟩ : Own w2 0 3 (Value.slice na (bothL t.mem t.dest 0).length nc) (ints (bothL t.mem t.dest 0)) ∧ True := ⟨(h10 (hl 10 (by decide))).2, trivial⟩
    have e11 := (h11 (hl 11 (by decide))).1
    simp only [putV, Act.put, List.setIfInBounds_toArray, List.set_cons_zero, List.set_cons_succ, e11]
    clear h0 h1 h2 h3 h4 h5 h6 h7 h8 h9 h10 h11 hl e11 hB0 hR0
    generalize x 0 = y0; generalize x 1 = y1; generalize x 2 = y2; generalize x 3 = y3; generalize x 4 = y4; generalize x 5 = y5; generalize x 6 = y6; generalize x 7 = y7; generalize x 8 = y8; generalize x 9 = y9; generalize x 10 = y10
    go_upto_region 5 with fail
    have hD0 := hDa.still hK
    have K2 := K1.trans hK
    have hB0 := hB
    have hR0 := hR
    clear hB hR hDa K1 hK
    refine wp_region_inv (commitK w2 c kb s g d sb base B t ma ta na mc tc2 nc vn vd) (by kernel_rfl) (by kernel_rfl) (by kernel_rfl) ?_ (Steps.cons 0 ?_ (Steps.cons 1 ?_ (Steps.cons 2 ?_ (Steps.cons 3 ?_ (Steps.cons 4 ?_ (Steps.cons 5 ?_ (Steps.cons 6 ?_ (Steps.cons 7 ?_ (Steps.cons 8 ?_ (Steps.cons 9 ?_ (Steps.cons 10 ?_ (Steps.cons 11 ?_ (Steps.cons 12 ?_ (Steps.cons 13 ?_ (Steps.cons 14 ?_ (Steps.cons 15 ?_ (Steps.cons 16 ?_ (Steps.cons 17 ?_ (Steps.cons 18 ?_ (Steps.nil 19)))))))))))))))))))) 19 rfl ?_
    · intro x
      exact ⟨fun _ => hB0.keep (Keep.refl [] _).drew (by simp), fun h => absurd h (by decide), hR0.still (Keep.refl [] _).drew, hN0.drew, fun _ => hD0.still (Keep.refl [] _).drew, fun h => absurd h (by decide), (Keep.refl _ _).drew, fun h => absurd h (by decide), fun h => absurd h (by decide), fun h => absurd h (by decide), fun h => absurd h (by decide), fun h => absurd h (by decide), fun h => absurd h (by decide), fun h => absurd h (by decide), fun h => absurd h (by decide), fun h => absurd h (by decide), fun h => absurd h (by decide), fun h => absurd h (by decide), fun h => absurd h (by decide), fun h => absurd h (by decide), fun h => absurd h (by decide), fun h => absurd h (by decide), fun h => absurd h (by decide), fun h => absurd h (by decide), fun h => absurd h (by decide), fun h => absurd h (by decide), fun h => absurd h (by decide)⟩
    · intro l x w' hJ hi hd
      obtain ⟨hB1, hB2, hR, hN, hD1, hD2, hK, d17, h0, h1, h2, h3, h4, h5, h6, h7, h8, h9, h10, h11, h12, h13, h14, h15, h16, h17, h18⟩ := hJ
      refine Runs.of (b := ?bY0) ?eY0 ?_
      case eY0 => simp only [putV, Act.put, List.setIfInBounds_toArray, List.set_cons_zero, List.set_cons_succ]; rfl
      intro K' hK'
      go_simp
      exact hK'.go _ rfl ⟨hB1, hB2, hR, hN, hD1, hD2, hK, d17, fun _ => rfl, h1, h2, h3, h4, h5, h6, h7, h8, h9, h10, h11, h12, h13, h14, h15, h16, h17, h18⟩
    · intro l x w' hJ hi hd
      obtain ⟨hB1, hB2, hR, hN, hD1, hD2, hK, d17, h0, h1, h2, h3, h4, h5, h6, h7, h8, h9, h10, h11, h12, h13, h14, h15, h16, h17, h18⟩ := hJ
      refine Runs.of (b := ?bY1) ?eY1 ?_
      case eY1 => simp only [putV, Act.put, List.setIfInBounds_toArray, List.set_cons_zero, List.set_cons_succ]; rfl
      intro K' hK'
      go_simp
      exact hK'.go _ rfl ⟨hB1, hB2, hR, hN, hD1, hD2, hK, d17, h0, fun _ => rfl, h2, h3, h4, h5, h6, h7, h8, h9, h10, h11, h12, h13, h14, h15, h16, h17, h18⟩
    · intro l x w' hJ hi hd
      obtain ⟨hB1, hB2, hR, hN, hD1, hD2, hK, d17, h0, h1, h2, h3, h4, h5, h6, h7, h8, h9, h10, h11, h12, h13, h14, h15, h16, h17, h18⟩ := hJ
      have e1 := h1 (show l 1 = true by first | exact hd.1 rfl | exact hd.2.1 rfl | exact hd.2.2.1 rfl | exact hd.2.2.2.1 rfl | exact hd.2.2.2.2.1 rfl | exact hd.2.2.2.2.2.1 rfl)
      refine Runs.of (b := ?bY2) ?eY2 ?_
      case eY2 => simp only [putV, Act.put, List.setIfInBounds_toArray, List.set_cons_zero, List.set_cons_succ, e1]; rfl
      intro K' hK'
      go_simp
      exact hK'.go _ rfl ⟨hB1, hB2, hR, hN, hD1, hD2, hK, d17, h0, h1, fun _ => rfl, h3, h4, h5, h6, h7, h8, h9, h10, h11, h12, h13, h14, h15, h16, h17, h18⟩
    · intro l x w' hJ hi hd
      obtain ⟨hB1, hB2, hR, hN, hD1, hD2, hK, d17, h0, h1, h2, h3, h4, h5, h6, h7, h8, h9, h10, h11, h12, h13, h14, h15, h16, h17, h18⟩ := hJ
      have e2 := h2 (show l 2 = true by first | exact hd.1 rfl | exact hd.2.1 rfl | exact hd.2.2.1 rfl | exact hd.2.2.2.1 rfl | exact hd.2.2.2.2.1 rfl | exact hd.2.2.2.2.2.1 rfl)
      refine Runs.of (b := ?bY3) ?eY3 ?_
      case eY3 => simp only [putV, Act.put, List.setIfInBounds_toArray, List.set_cons_zero, List.set_cons_succ, e2]; rfl
      intro K' hK'
      go_simp
      exact hK'.go _ rfl ⟨hB1, hB2, hR, hN, hD1, hD2, hK, d17, h0, h1, h2, fun _ => rfl, h4, h5, h6, h7, h8, h9, h10, h11, h12, h13, h14, h15, h16, h17, h18⟩
    · intro l x w' hJ hi hd
      obtain ⟨hB1, hB2, hR, hN, hD1, hD2, hK, d17, h0, h1, h2, h3, h4, h5, h6, h7, h8, h9, h10, h11, h12, h13, h14, h15, h16, h17, h18⟩ := hJ
      have e3 := h3 (show l 3 = true by first | exact hd.1 rfl | exact hd.2.1 rfl | exact hd.2.2.1 rfl | exact hd.2.2.2.1 rfl | exact hd.2.2.2.2.1 rfl | exact hd.2.2.2.2.2.1 rfl)
      refine Runs.of (b := ?bY4) ?eY4 ?_
      case eY4 => simp only [putV, Act.put, List.setIfInBounds_toArray, List.set_cons_zero, List.set_cons_succ, e3]; rfl
      intro K' hK'
      go_simp
      exact hK'.go _ rfl ⟨hB1, hB2, hR, hN, hD1, hD2, hK, d17, h0, h1, h2, h3, fun _ => rfl, h5, h6, h7, h8, h9, h10, h11, h12, h13, h14, h15, h16, h17, h18⟩
    · intro l x w' hJ hi hd
      obtain ⟨hB1, hB2, hR, hN, hD1, hD2, hK, d17, h0, h1, h2, h3, h4, h5, h6, h7, h8, h9, h10, h11, h12, h13, h14, h15, h16, h17, h18⟩ := hJ
      have e4 := h4 (show l 4 = true by first | exact hd.1 rfl | exact hd.2.1 rfl | exact hd.2.2.1 rfl | exact hd.2.2.2.1 rfl | exact hd.2.2.2.2.1 rfl | exact hd.2.2.2.2.2.1 rfl)
      have l17 : l 17 = false := by cases hh : l 17 with | false => rfl | true => have := (d17 hh).1; rw [hi] at this; cases this
      have cc := (ctc_5 (hB1 l17)).1
      refine Runs.of (b := ?bY5) ?eY5 ?_
      case eY5 => simp only [putV, Act.put, List.setIfInBounds_toArray, List.set_cons_zero, List.set_cons_succ, e4]; rfl
      intro K' hK'
      go_simp
      exact hK'.go _ rfl ⟨hB1, hB2, hR, hN, hD1, hD2, hK, fun h => ⟨rfl, (d17 h).2⟩, h0, h1, h2, h3, h4, fun _ => rfl, h6, h7, h8, h9, h10, h11, h12, h13, h14, h15, fun h => absurd ((h16 h).2.1.symm.trans hi) (by decide), h17, h18⟩
    · intro l x w' hJ hi hd
      obtain ⟨hB1, hB2, hR, hN, hD1, hD2, hK, d17, h0, h1, h2, h3, h4, h5, h6, h7, h8, h9, h10, h11, h12, h13, h14, h15, h16, h17, h18⟩ := hJ
      refine Runs.of (b := ?bY6) ?eY6 ?_
      case eY6 => simp only [putV, Act.put, List.setIfInBounds_toArray, List.set_cons_zero, List.set_cons_succ]; rfl
      intro K' hK'
      go_simp
      exact hK'.go _ rfl ⟨hB1, hB2, hR, hN, hD1, hD2, hK, d17, h0, h1, h2, h3, h4, h5, fun _ => rfl, h7, h8, h9, h10, h11, h12, h13, h14, h15, h16, h17, h18⟩
    · intro l x w' hJ hi hd
      obtain ⟨hB1, hB2, hR, hN, hD1, hD2, hK, d17, h0, h1, h2, h3, h4, h5, h6, h7, h8, h9, h10, h11, h12, h13, h14, h15, h16, h17, h18⟩ := hJ
      have e6 := h6 (show l 6 = true by first | exact hd.1 rfl | exact hd.2.1 rfl | exact hd.2.2.1 rfl | exact hd.2.2.2.1 rfl | exact hd.2.2.2.2.1 rfl | exact hd.2.2.2.2.2.1 rfl)
      refine Runs.of (b := ?bY7) ?eY7 ?_
      case eY7 => simp only [putV, Act.put, List.setIfInBounds_toArray, List.set_cons_zero, List.set_cons_succ, e6]; rfl
      intro K' hK'
      go_simp
      exact hK'.go _ rfl ⟨hB1, hB2, hR, hN, hD1, hD2, hK, d17, h0, h1, h2, h3, h4, h5, h6, fun _ => rfl, h8, h9, h10, h11, h12, h13, h14, h15, h16, h17, h18⟩
    · intro l x w' hJ hi hd
      obtain ⟨hB1, hB2, hR, hN, hD1, hD2, hK, d17, h0, h1, h2, h3, h4, h5, h6, h7, h8, h9, h10, h11, h12, h13, h14, h15, h16, h17, h18⟩ := hJ
      have e7 := h7 (show l 7 = true by first | exact hd.1 rfl | exact hd.2.1 rfl | exact hd.2.2.1 rfl | exact hd.2.2.2.1 rfl | exact hd.2.2.2.2.1 rfl | exact hd.2.2.2.2.2.1 rfl)
      refine Runs.of (b := ?bY8) ?eY8 ?_
      case eY8 => simp only [putV, Act.put, List.setIfInBounds_toArray, List.set_cons_zero, List.set_cons_succ, e7]; rfl
      intro K' hK'
      go_simp
      exact hK'.go _ rfl ⟨hB1, hB2, hR, hN, hD1, hD2, hK, d17, h0, h1, h2, h3, h4, h5, h6, h7, fun _ => rfl, h9, h10, h11, h12, h13, h14, h15, h16, h17, h18⟩
    · intro l x w' hJ hi hd
      obtain ⟨hB1, hB2, hR, hN, hD1, hD2, hK, d17, h0, h1, h2, h3, h4, h5, h6, h7, h8, h9, h10, h11, h12, h13, h14, h15, h16, h17, h18⟩ := hJ
      have e8 := h8 (show l 8 = true by first | exact hd.1 rfl | exact hd.2.1 rfl | exact hd.2.2.1 rfl | exact hd.2.2.2.1 rfl | exact hd.2.2.2.2.1 rfl | exact hd.2.2.2.2.2.1 rfl)
      refine Runs.of (b := ?bY9) ?eY9 ?_
      case eY9 => simp only [putV, Act.put, List.setIfInBounds_toArray, List.set_cons_zero, List.set_cons_succ, e8]; rfl
      intro K' hK'
      go_simp
      exact hK'.go _ rfl ⟨hB1, hB2, hR, hN, hD1, hD2, hK, d17, h0, h1, h2, h3, h4, h5, h6, h7, h8, fun _ => rfl, h10, h11, h12, h13, h14, h15, h16, h17, h18⟩
    · intro l x w' hJ hi hd
      obtain ⟨hB1, hB2, hR, hN, hD1, hD2, hK, d17, h0, h1, h2, h3, h4, h5, h6, h7, h8, h9, h10, h11, h12, h13, h14, h15, h16, h17, h18⟩ := hJ
      have e9 := h9 (show l 9 = true by first | exact hd.1 rfl | exact hd.2.1 rfl | exact hd.2.2.1 rfl | exact hd.2.2.2.1 rfl | exact hd.2.2.2.2.1 rfl | exact hd.2.2.2.2.2.1 rfl)
      have l17 : l 17 = false := by cases hh : l 17 with | false => rfl | true => have := (d17 hh).2.1; rw [hi] at this; cases this
      have cc := (ctc_3 (hB1 l17)).1
      refine Runs.of (b := ?bY10) ?eY10 ?_
      case eY10 => simp only [putV, Act.put, List.setIfInBounds_toArray, List.set_cons_zero, List.set_cons_succ, e9]; rfl
      intro K' hK'
      go_simp
      exact hK'.go _ rfl ⟨hB1, hB2, hR, hN, hD1, hD2, hK, fun h => ⟨(d17 h).1, rfl, (d17 h).2.2⟩, h0, h1, h2, h3, h4, h5, h6, h7, h8, h9, fun _ => rfl, h11, h12, h13, h14, h15, fun h => absurd ((h16 h).2.2.1.symm.trans hi) (by decide), h17, h18⟩
    · intro l x w' hJ hi hd
      obtain ⟨hB1, hB2, hR, hN, hD1, hD2, hK, d17, h0, h1, h2, h3, h4, h5, h6, h7, h8, h9, h10, h11, h12, h13, h14, h15, h16, h17, h18⟩ := hJ
      refine Runs.of (b := ?bY11) ?eY11 ?_
      case eY11 => simp only [putV, Act.put, List.setIfInBounds_toArray, List.set_cons_zero, List.set_cons_succ]; rfl
      intro K' hK'
      go_simp
      exact hK'.go _ rfl ⟨hB1, hB2, hR, hN, hD1, hD2, hK, d17, h0, h1, h2, h3, h4, h5, h6, h7, h8, h9, h10, fun _ => rfl, h12, h13, h14, h15, h16, h17, h18⟩
    · intro l x w' hJ hi hd
      obtain ⟨hB1, hB2, hR, hN, hD1, hD2, hK, d17, h0, h1, h2, h3, h4, h5, h6, h7, h8, h9, h10, h11, h12, h13, h14, h15, h16, h17, h18⟩ := hJ
      have e11 := h11 (show l 11 = true by first | exact hd.1 rfl | exact hd.2.1 rfl | exact hd.2.2.1 rfl | exact hd.2.2.2.1 rfl | exact hd.2.2.2.2.1 rfl | exact hd.2.2.2.2.2.1 rfl)
      refine Runs.of (b := ?bY12) ?eY12 ?_
      case eY12 => simp only [putV, Act.put, List.setIfInBounds_toArray, List.set_cons_zero, List.set_cons_succ, e11]; rfl
      intro K' hK'
      go_simp
      exact hK'.go _ rfl ⟨hB1, hB2, hR, hN, hD1, hD2, hK, d17, h0, h1, h2, h3, h4, h5, h6, h7, h8, h9, h10, h11, fun _ => rfl, h13, h14, h15, h16, h17, h18⟩
    · intro l x w' hJ hi hd
      obtain ⟨hB1, hB2, hR, hN, hD1, hD2, hK, d17, h0, h1, h2, h3, h4, h5, h6, h7, h8, h9, h10, h11, h12, h13, h14, h15, h16, h17, h18⟩ := hJ
      have e12 := h12 (show l 12 = true by first | exact hd.1 rfl | exact hd.2.1 rfl | exact hd.2.2.1 rfl | exact hd.2.2.2.1 rfl | exact hd.2.2.2.2.1 rfl | exact hd.2.2.2.2.2.1 rfl)
      refine Runs.of (b := ?bY13) ?eY13 ?_
      case eY13 => simp only [putV, Act.put, List.setIfInBounds_toArray, List.set_cons_zero, List.set_cons_succ, e12]; rfl
      intro K' hK'
      go_simp
      exact hK'.go _ rfl ⟨hB1, hB2, hR, hN, hD1, hD2, hK, d17, h0, h1, h2, h3, h4, h5, h6, h7, h8, h9, h10, h11, h12, fun _ => rfl, h14, h15, h16, h17, h18⟩
    · intro l x w' hJ hi hd
      obtain ⟨hB1, hB2, hR, hN, hD1, hD2, hK, d17, h0, h1, h2, h3, h4, h5, h6, h7, h8, h9, h10, h11, h12, h13, h14, h15, h16, h17, h18⟩ := hJ
      have e13 := h13 (show l 13 = true by first | exact hd.1 rfl | exact hd.2.1 rfl | exact hd.2.2.1 rfl | exact hd.2.2.2.1 rfl | exact hd.2.2.2.2.1 rfl | exact hd.2.2.2.2.2.1 rfl)
      refine Runs.of (b := ?bY14) ?eY14 ?_
      case eY14 => simp only [putV, Act.put, List.setIfInBounds_toArray, List.set_cons_zero, List.set_cons_succ, e13]; rfl
      intro K' hK'
      go_simp
      exact hK'.go _ rfl ⟨hB1, hB2, hR, hN, hD1, hD2, hK, d17, h0, h1, h2, h3, h4, h5, h6, h7, h8, h9, h10, h11, h12, h13, fun _ => rfl, h15, h16, h17, h18⟩
    · intro l x w' hJ hi hd
      obtain ⟨hB1, hB2, hR, hN, hD1, hD2, hK, d17, h0, h1, h2, h3, h4, h5, h6, h7, h8, h9, h10, h11, h12, h13, h14, h15, h16, h17, h18⟩ := hJ
      have e14 := h14 (show l 14 = true by first | exact hd.1 rfl | exact hd.2.1 rfl | exact hd.2.2.1 rfl | exact hd.2.2.2.1 rfl | exact hd.2.2.2.2.1 rfl | exact hd.2.2.2.2.2.1 rfl)
      have l17 : l 17 = false := by cases hh : l 17 with | false => rfl | true => have := (d17 hh).2.2; rw [hi] at this; cases this
      have cc := (ctc_7 (hB1 l17)).1
      refine Runs.of (b := ?bY15) ?eY15 ?_
      case eY15 => simp only [putV, Act.put, List.setIfInBounds_toArray, List.set_cons_zero, List.set_cons_succ, e14]; rfl
      intro K' hK'
      go_simp
      exact hK'.go _ rfl ⟨hB1, hB2, hR, hN, hD1, hD2, hK, fun h => ⟨(d17 h).1, (d17 h).2.1, rfl⟩, h0, h1, h2, h3, h4, h5, h6, h7, h8, h9, h10, h11, h12, h13, h14, fun _ => rfl, fun h => absurd ((h16 h).2.2.2.symm.trans hi) (by decide), h17, h18⟩
    · intro l x w' hJ hi hd
      obtain ⟨hB1, hB2, hR, hN, hD1, hD2, hK, d17, h0, h1, h2, h3, h4, h5, h6, h7, h8, h9, h10, h11, h12, h13, h14, h15, h16, h17, h18⟩ := hJ
      have e5 := h5 (show l 5 = true by first | exact hd.1 rfl | exact hd.2.1 rfl | exact hd.2.2.1 rfl | exact hd.2.2.2.1 rfl | exact hd.2.2.2.2.1 rfl | exact hd.2.2.2.2.2.1 rfl)
      have e10 := h10 (show l 10 = true by first | exact hd.1 rfl | exact hd.2.1 rfl | exact hd.2.2.1 rfl | exact hd.2.2.2.1 rfl | exact hd.2.2.2.2.1 rfl | exact hd.2.2.2.2.2.1 rfl)
      have e15 := h15 (show l 15 = true by first | exact hd.1 rfl | exact hd.2.1 rfl | exact hd.2.2.1 rfl | exact hd.2.2.2.1 rfl | exact hd.2.2.2.2.1 rfl | exact hd.2.2.2.2.2.1 rfl)
      have L5 := Lib.hid (show l 5 = true by first | exact hd.1 rfl | exact hd.2.1 rfl | exact hd.2.2.1 rfl | exact hd.2.2.2.1 rfl | exact hd.2.2.2.2.1 rfl | exact hd.2.2.2.2.2.1 rfl)
      have L10 := Lib.hid (show l 10 = true by first | exact hd.1 rfl | exact hd.2.1 rfl | exact hd.2.2.1 rfl | exact hd.2.2.2.1 rfl | exact hd.2.2.2.2.1 rfl | exact hd.2.2.2.2.2.1 rfl)
      have L15 := Lib.hid (show l 15 = true by first | exact hd.1 rfl | exact hd.2.1 rfl | exact hd.2.2.1 rfl | exact hd.2.2.2.1 rfl | exact hd.2.2.2.2.1 rfl | exact hd.2.2.2.2.2.1 rfl)
      refine Runs.of (b := ?bY16) ?eY16 ?_
      case eY16 => simp only [putV, Act.put, List.setIfInBounds_toArray, List.set_cons_zero, List.set_cons_succ, e5, e10, e15]; rfl
      intro K' hK'
      go_simp
      exact hK'.go _ rfl ⟨hB1, hB2, hR, hN, hD1, hD2, hK, d17, h0, h1, h2, h3, h4, h5, h6, h7, h8, h9, h10, h11, h12, h13, h14, h15, fun _ => ⟨rfl, L5.out, L10.out, L15.out⟩, h17, h18⟩
    · intro l x w' hJ hi hd
      obtain ⟨hB1, hB2, hR, hN, hD1, hD2, hK, d17, h0, h1, h2, h3, h4, h5, h6, h7, h8, h9, h10, h11, h12, h13, h14, h15, h16, h17, h18⟩ := hJ
      have e0 := h0 (show l 0 = true by first | exact hd.1 rfl | exact hd.2.1 rfl | exact hd.2.2.1 rfl | exact hd.2.2.2.1 rfl | exact hd.2.2.2.2.1 rfl | exact hd.2.2.2.2.2.1 rfl)
      have L16 := Lib.hid (show l 16 = true by first | exact hd.1 rfl | exact hd.2.1 rfl | exact hd.2.2.1 rfl | exact hd.2.2.2.1 rfl | exact hd.2.2.2.2.1 rfl | exact hd.2.2.2.2.2.1 rfl)
      have e16 := (h16 L16.out).1
      have LL := Lib.hid (h16 L16.out).2
      have hB := hB1 hi
      have hD := hD1 hi
      have hcx := HCX.out
      refine Runs.of (b := ?bY17) ?eY17 ?_
      case eY17 => simp only [putV, Act.put, List.setIfInBounds_toArray, List.set_cons_zero, List.set_cons_succ, e0, e16]; rfl
      intro K' hK'
      go_simp
      refine (keep_any hB hR hD HB.out hcx t.num t.top _ t.dest hR.dest HN.out hR.ton HE.out).mono ?_
      rintro e w2 ⟨rfl, hB5, hR5, hO5, hD5, k2⟩
      have htall : ∀ q ∈ [d, sb, s, c], ¬ Ty w' q 3 := fun q hq ht => by
        have hty := hD.tys
        simp only [List.mem_cons, List.not_mem_nil, or_false] at hq
        rcases hq with hq | hq | hq | hq
        · exact hty q (by simp [hq]) ht
        · exact hty q (by simp [hq]) ht
        · exact hty q (by simp [hq]) ht
        · subst hq; exact (Blk.ty hB).ne ht (by decide) rfl
      go_simp
      exact hK'.go _ rfl ⟨fun h => Bool.noConfusion (show true = false from h), fun _ => hB5, hR5, hN.keep k2 (fun b hb hm => htall b hm (hN.ty b hb)), fun h => Bool.noConfusion (show true = false from h), fun _ => hD5, hK.trans k2, fun _ => LL.out, h0, h1, h2, h3, h4, h5, h6, h7, h8, h9, h10, h11, h12, h13, h14, h15, h16, fun _ => rfl, h18⟩
    · intro l x w' hJ hi hd
      obtain ⟨hB1, hB2, hR, hN, hD1, hD2, hK, d17, h0, h1, h2, h3, h4, h5, h6, h7, h8, h9, h10, h11, h12, h13, h14, h15, h16, h17, h18⟩ := hJ
      have e17 := h17 (show l 17 = true by first | exact hd.1 rfl | exact hd.2.1 rfl | exact hd.2.2.1 rfl | exact hd.2.2.2.1 rfl | exact hd.2.2.2.2.1 rfl | exact hd.2.2.2.2.2.1 rfl)
      refine Runs.of (b := ?bY18) ?eY18 ?_
      case eY18 => simp only [putV, Act.put, List.setIfInBounds_toArray, List.set_cons_zero, List.set_cons_succ, e17]; rfl
      intro K' hK'
      go_simp
      exact hK'.go _ rfl ⟨hB1, hB2, hR, hN, hD1, hD2, hK, d17, h0, h1, h2, h3, h4, h5, h6, h7, h8, h9, h10, h11, h12, h13, h14, h15, h16, h17, fun _ => rfl⟩
    · intro l x w3 hJ hl
      obtain ⟨hB1, hB2, hR, hN, hD1, hD2, hK, d17, h0, h1, h2, h3, h4, h5, h6, h7, h8, h9, h10, h11, h12, h13, h14, h15, h16, h17, h18⟩ := hJ
      have hB := hB2 (hl 17 (by decide))
      have hD := hD2 (hl 17 (by decide))
      have e18 := h18 (hl 18 (by decide))
      simp only [putV, Act.put, List.setIfInBounds_toArray, List.set_cons_zero, List.set_cons_succ, e18]
      clear h0 h1 h2 h3 h4 h5 h6 h7 h8 h9 h10 h11 h12 h13 h14 h15 h16 h17 h18 hl hB1 hB2 hD1 hD2 d17 e18 hB0 hR0 hN0 hD0
      generalize x 0 = y0; generalize x 1 = y1; generalize x 2 = y2; generalize x 3 = y3; generalize x 4 = y4; generalize x 5 = y5; generalize x 6 = y6; generalize x 7 = y7; generalize x 8 = y8; generalize x 9 = y9; generalize x 10 = y10; generalize x 11 = y11; generalize x 12 = y12; generalize x 13 = y13; generalize x 14 = y14; generalize x 15 = y15; generalize x 16 = y16; generalize x 17 = y17
      obtain ⟨b5, f5⟩ := ctc_5 hB
      obtain ⟨b6, f6⟩ := ctc_6 hB
      obtain ⟨b7, f7⟩ := ctc_7 hB
      obtain ⟨b8, f8⟩ := ctc_8 hB
      obtain ⟨b9, f9⟩ := ctc_9 hB
      obtain ⟨b10, f10⟩ := ctc_10 hB
      go_wp2_with fail
      have k4 : Keep [c] w3 ((((((w3.setCell ⟨c, 5, none⟩ (.int .i64 0)).setCell ⟨c, 6, none⟩ (.int .i64 0)).setCell ⟨c, 7, none⟩ (.slice none 0 0)).setCell ⟨c, 8, none⟩ (.slice none 0 0)).setCell ⟨c, 9, none⟩ (.int .i64 0)).setCell ⟨c, 10, none⟩ (.slice none 0 0)) := ((((((Keep.refl _ _).setCell (.inl (by simp)) _).setCell (.inl (by simp)) _).setCell (.inl (by simp)) _).setCell (.inl (by simp)) _).setCell (.inl (by simp)) _).setCell (.inl (by simp)) _
      have hQ : CtB ((((((w3.setCell ⟨c, 5, none⟩ (.int .i64 0)).setCell ⟨c, 6, none⟩ (.int .i64 0)).setCell ⟨c, 7, none⟩ (.slice none 0 0)).setCell ⟨c, 8, none⟩ (.slice none 0 0)).setCell ⟨c, 9, none⟩ (.int .i64 0)).setCell ⟨c, 10, none⟩ (.slice none 0 0)) c kb s g t.committed (Value.slice ta t.dest.length tc2) (.slice none 0 0) (.slice none 0 0) (.slice none 0 0) := (((((Blk.set hB 5 _).set 6 _).set 7 _).set 8 _).set 9 _).set 10 _
      have htc : ∀ q ∈ [c], ¬ Ty w3 q 3 := fun q hq ht => by simp at hq; subst hq; exact (Blk.ty hB).ne ht (by decide) rfl
      have htu : ∀ q ∈ [c], ¬ Ty w3 q 5 := fun q hq ht => by simp at hq; subst hq; exact (Blk.ty hB).ne ht (by decide) rfl
      have hcx := HCX.out
      have hD4 := hD.keep k4 (by simp; omega) (by simp; omega) (by simp; omega) htu
      have hM4 := hR.dest.keep k4 (fun b hb hm => htc b hm (hR.dest.ty b hb))
      have hN4 := hN.keep k4 (fun b hb hm => htc b hm (hN.ty b hb))
      have hR4 : CtR ((((((w3.setCell ⟨c, 5, none⟩ (.int .i64 0)).setCell ⟨c, 6, none⟩ (.int .i64 0)).setCell ⟨c, 7, none⟩ (.slice none 0 0)).setCell ⟨c, 8, none⟩ (.slice none 0 0)).setCell ⟨c, 9, none⟩ (.int .i64 0)).setCell ⟨c, 10, none⟩ (.slice none 0 0)) t.committed (Value.slice ta t.dest.length tc2) (.slice none 0 0) (.slice none 0 0) (.slice none 0 0) ((((((w3.setCell ⟨c, 5, none⟩ (.int .i64 0)).setCell ⟨c, 6, none⟩ (.int .i64 0)).setCell ⟨c, 7, none⟩ (.slice none 0 0)).setCell ⟨c, 8, none⟩ (.slice none 0 0)).setCell ⟨c, 9, none⟩ (.int .i64 0)).setCell ⟨c, 10, none⟩ (.slice none 0 0)).heap.size := ⟨hM4, Own.nil _ _ _, Own.nil _ _ _, Own.nil _ _ _, fun q hq => (hM4.lt q hq).2, (fun q hq => by cases hq), (fun q hq => by cases hq), hR.ton, by simp [Ct.committed], by simp [Ct.committed], by simp [Ct.committed]⟩
      have K4 := (K2.mono (by simp)).trans (hK.trans (k4.mono (by simp)))
      clear k4 hB hR hN hD htc htu hcx hM4 hK b5 b6 b7 b8 b9 b10 f5 f6 f7 f8 f9 f10
      generalize ((((((w3.setCell ⟨c, 5, none⟩ (.int .i64 0)).setCell ⟨c, 6, none⟩ (.int .i64 0)).setCell ⟨c, 7, none⟩ (.slice none 0 0)).setCell ⟨c, 8, none⟩ (.slice none 0 0)).setCell ⟨c, 9, none⟩ (.int .i64 0)).setCell ⟨c, 10, none⟩ (.slice none 0 0)) = w5 at *
      have hirv := hN4.irv
      have hlen := bothL_len t.mem t.dest 0
      generalize hNL : bothL t.mem t.dest 0 = NL at *
      have HNL := Lib.hid hNL
      clear hNL
      go_loopw [6, 76] (fun out i wr => ∃ (j : Nat) (L : List Tm), i = .int .i64 j ∧ j ≤ NL.length ∧ L.map (·.m) = (NL.take j).map (fun n => memberM t.committed 11 n 0) ∧ L.length = j ∧ TRow wr w5.heap.size out L ∧ Keep [] w5 wr) (fun _ i _ => NL.length - (intOf i).toNat)
      case atStart => exact ⟨0, [], rfl, by omega, rfl, rfl, TRow.nil _ _, Keep.refl _ _⟩
      case round =>
        obtain ⟨j, L, rfl, hj, hL, hLn, hO, hK⟩ := hrel
        have HL := Lib.hid hL
        have HLN := Lib.hid hLn
        clear hL hLn
        by_cases hlt : j < NL.length
        · have q0 : (j : Int) < NL.length := by omega
          obtain ⟨zb, zo, zc, he, _, _, hat⟩ := (hirv.keep hK (by simp)).at1 (by omega)
          simp only [Value.slice.injEq] at he
          obtain ⟨rfl, _, rfl⟩ := he
          have hcell := hat j hlt
          rw [ints_at _ _ hlt] at hcell
          have HN2 : Hid (∀ y : Tm, y.m = memberM t.committed 11 (NL.getD j 0) 0 → (L ++ [y]).map (·.m) = (NL.take (j + 1)).map (fun n => memberM t.committed 11 n 0)) := Lib.hid (fun y hy => by rw [List.map_append, HL.out, take_succ_getD NL 0 j hlt, List.map_append]; simp [hy])
          clear hat
          generalize NL.getD j 0 = z at *
          have hlL : L.length ≤ 1000 := by have := HLN.out; omega
          obtain ⟨oa, ocap, rfl⟩ := hO.slice
          go_wp2_with fail
          refine (member_any (hQ.keep hK (by simp)) (hR4.still hK) HDP.out 11 z 0).mono ?_
          rintro e w6 ⟨v6, rfl, hY, k6⟩
          have hO6 := hO.still k6
          have hK6 := hK.trans k6
          obtain ⟨Y, hYd⟩ : ∃ Y, Y = (⟨memberM t.committed 11 z 0, v6, .slice none 0 0⟩ : Tm) := ⟨_, rfl⟩
          rw [← hYd] at hY ⊢
          have HYM : Hid (Y.m = memberM t.committed 11 z 0) := Lib.hid (by rw [hYd])
          clear hYd k6 hO hK hcell
          have hsz := hK6.size
          have hY1 := hY.keep (S := []) ((Keep.refl [] w6).alloc (.cells (tmC Y).toArray 39)) (by simp)
          have hO1 := hO6.still ((Keep.refl [] w6).alloc (.cells (tmC Y).toArray 39))
          have hsrc := src_tm (P := Try.prog) Try.underlying29 _ _ _ (Blk.new w6 (tmC Y) 39) hY.one
          go_wp2_with (first | (refine wpList_bs_tm rfl _ rfl Y rfl ?_) | (at_builtin; refine wpList_append_src _ rfl _ _ 29 29 rfl w5.heap.size 39 i0 _ 21 256 Try.underlying29 hi hz0 hz1 hz2 rfl (by decide) _ L.length _ rfl hO1.own _ 1 _ rfl hsrc (by unfold maxLen; omega) (by omega) (by simp; omega) ?_; intro v1 w2 h2 h3 _ h4))
          have hO2 := hO1.snoc hY1 h2 (Keep.grown h3)
          have hK2 : Keep [] w5 w2 := (hK6.alloc _).then (Keep.grown h3) (fun q hq hlt => by have := (hO6.lt q (Option.mem_toList.1 hq)).1; omega)
          go_roundw
          case rel => exact ⟨j + 1, _, by go_num, by omega, HN2.out _ HYM.out, by rw [List.length_append, HLN.out]; rfl, hO2, hK2⟩
          case measure => simp [intOf]; omega
        · obtain rfl : j = NL.length := by omega
          have hL := HL.out
          rw [List.take_length] at hL
          go_wp2_with fail
          go_ret
          have hz := K4.size
          exact ⟨_, L, _, rfl, hO.mono hz, (by rw [HNL.out]; exact hL), hQ.keep hK (by simp), hR4.still hK, hD4.still hK, K4.trans (hK.mono (by simp))⟩
end
end Go.Proofs.Ytcoaobdijlppgaa
/- The authority: Beat. -/
namespace Go.Proofs.Ytcoaobdijlppgaa
open Go.ChangeShapes Go.WideShapes Go.ChangeAt Go.RowKit
set_option linter.unusedVariables false
set_option linter.unusedSimpArgs false
set_option maxRecDepth 100000

theorem Beat_nil {w : World} : Calls Try.prog 13 #[.pointer none] w fun e w' => e = .returned (.slice none 0 0) ∧ w = w' := by
  go_enter Try.func13, Try.ntmps13
  go_wp2_with fail
  go_ret
  exact ⟨rfl, rfl⟩
section
variable {w : World} {c kb s g base : Nat} {t : Ct} {vm vt vn vd : Value}
theorem Beat_none (h : CtB w c kb s g t vm vt vn vd) (h0 : t.num = 0) : Calls Try.prog 13 #[.pointer (some ⟨c, 0, none⟩)] w fun e w' => e = .returned (.slice none 0 0) ∧ w = w' := by
  obtain ⟨c5, _⟩ := ctc_5 h
  have q0 : (t.num == 0) = true := by simpa using h0
  clear h h0
  go_enter Try.func13, Try.ntmps13
  go_wp2_with fail
  go_ret
  exact ⟨rfl, rfl⟩
set_option maxHeartbeats 4000000 in
theorem Beat_tell (h : CtB w c kb s g t vm vt vn vd) (hr : CtR w t vm vt vn vd base) (hmem : 0 < t.mem.length) (hdest : 0 < t.dest.length) (h0 : t.num ≠ 0) (kind : Int) (hp : (t.phase = 1 ∧ kind = 3) ∨ (t.phase = 2 ∧ kind = 7)) :
    Calls Try.prog 13 #[.pointer (some ⟨c, 0, none⟩)] w fun e w' => ∃ v L, e = .returned v ∧ TRow w' w.heap.size v L ∧ L.map (·.m) = t.nodes.map (tellM t kind) ∧ Keep [] w w' := by
  obtain ⟨na, nc, rfl⟩ := hr.nodes.islice
  obtain ⟨c5, _⟩ := ctc_5 h
  obtain ⟨c6, _⟩ := ctc_6 h
  obtain ⟨c8, _⟩ := ctc_8 h
  have q0 : (t.num == 0) = false := by simpa using h0
  have HT := Lib.hid (tell_any h hr hmem hdest kind _ t.nodes hr.nodes.irv (by have := hr.nodesn; omega))
  clear h hr hmem hdest h0
  rcases hp with ⟨h1, rfl⟩ | ⟨h1, rfl⟩
  · have q1 : (t.phase == 1) = true := by simpa using h1
    clear h1
    go_enter Try.func13, Try.ntmps13
    go_wp2_with fail
    refine HT.out.mono ?_
    rintro e w2 ⟨v, L, rfl, hO, hL, k2⟩
    go_wp2_with fail
    go_ret
    exact ⟨_, L, rfl, hO, hL, k2⟩
  · have q1 : (t.phase == 1) = false := by simp [h1]
    have q2 : (t.phase == 2) = true := by simpa using h1
    clear h1
    go_enter Try.func13, Try.ntmps13
    go_wp2_with fail
    refine HT.out.mono ?_
    rintro e w2 ⟨v, L, rfl, hO, hL, k2⟩
    go_wp2_with fail
    go_ret
    exact ⟨_, L, rfl, hO, hL, k2⟩
theorem Beat_via (h : CtB w c kb s g t vm vt vn vd) (h0 : t.num ≠ 0) (h1 : t.phase ≠ 1) (h2 : t.phase ≠ 2) (Q : Ending → World → Prop)
    (hc : Calls Try.prog 37 #[.pointer (some ⟨c, 0, none⟩)] w fun e w' => ∃ v, e = .returned v ∧ Q e w') : Calls Try.prog 13 #[.pointer (some ⟨c, 0, none⟩)] w Q := by
  obtain ⟨c5, _⟩ := ctc_5 h
  obtain ⟨c6, _⟩ := ctc_6 h
  have q0 : (t.num == 0) = false := by simpa using h0
  have q1 : (t.phase == 1) = false := by simpa using h1
  have q2 : (t.phase == 2) = false := by simpa using h2
  have HC := Lib.hid hc
  clear hc h h0 h1 h2
  go_enter Try.func13, Try.ntmps13
  go_wp2_with fail
  refine HC.out.mono ?_
  rintro e w2 ⟨v, rfl, hq⟩
  have HQ := Lib.hid hq
  clear hq
  go_wp2_with fail
  exact HQ.out
end
end Go.Proofs.Ytcoaobdijlppgaa
