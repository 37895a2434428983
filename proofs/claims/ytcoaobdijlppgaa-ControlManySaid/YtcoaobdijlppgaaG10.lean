/- Ctl6, Ctl7 -/
import Derived.Test.YtcoaobdijlppgaaG9
/- The authority: what is kept (keep). -/
namespace Go.Proofs.Ytcoaobdijlppgaa
open Go.ChangeShapes Go.WideShapes Go.ChangeAt Go.RowKit
set_option linter.unusedVariables false
set_option linter.unusedSimpArgs false
set_option maxRecDepth 100000

/-- The device and the pair of sectors: T is what was saved last; B bounds how often. -/
def CtD (w : World) (d sb s : Nat) (T : List Nat) (B : Nat) : Prop :=
  ∃ L k turn slot, IsDev w d sb L k ∧ IsSup w s d 0 turn T slot ∧ Pair L 0 slot turn T ∧ slot ≤ 1 ∧ 0 < turn ∧ turn ≤ B ∧ k ≤ 2 * B + 5
theorem CtD.keep {w w' : World} {d sb s : Nat} {T : List Nat} {B : Nat} {S : List Nat} (h : CtD w d sb s T B) (k : Keep S w w') (h1 : d ∉ S) (h2 : sb ∉ S) (h3 : s ∉ S) (hS : ∀ q ∈ S, ¬ Ty w q 5) : CtD w' d sb s T B := by
  obtain ⟨L, n, turn, slot, a, b, c⟩ := h
  exact ⟨L, n, turn, slot, a.keep k h1 h2, b.keep k h3 hS, c⟩
theorem CtD.still {w w' : World} {d sb s : Nat} {T : List Nat} {B : Nat} (h : CtD w d sb s T B) (k : Keep [] w w') : CtD w' d sb s T B := h.keep k (by simp) (by simp) (by simp) (by simp)
theorem CtD.tys {w : World} {d sb s : Nat} {T : List Nat} {B : Nat} (h : CtD w d sb s T B) : ∀ q ∈ [d, sb, s], ¬ Ty w q 3 := by
  obtain ⟨L, n, turn, slot, a, b, c⟩ := h
  obtain ⟨tv, hb, _⟩ := b
  intro q hq ht
  simp only [List.mem_cons, List.not_mem_nil, or_false] at hq
  rcases hq with rfl | rfl | rfl
  · exact a.dev.ty.ne ht (by decide) rfl
  · exact a.secs.ty.ne ht (by decide) rfl
  · exact hb.ty.ne ht (by decide) rfl
theorem CtD.lt {w : World} {d sb s : Nat} {T : List Nat} {B : Nat} (h : CtD w d sb s T B) : d < w.heap.size ∧ sb < w.heap.size ∧ s < w.heap.size := by
  obtain ⟨L, n, turn, slot, a, b, c⟩ := h
  exact ⟨a.dev.lt, a.secs.lt, b.lt⟩
theorem CtD.save {w : World} {d sb s : Nat} {T : List Nat} {B : Nat} (h : CtD w d sb s T B) (T' : List Nat) (hB : B ≤ 100000) (bv : Value) (hr : Rd w bv T') (hb : ∀ c ∈ T', c < 256) (hl : T'.length ≤ 40) (hlo : ∀ b, bv.ownBlock = some b → b < w.heap.size ∧ b ≠ d ∧ b ≠ sb ∧ b ≠ s) :
    Calls Try.prog 65 #[.pointer (some ⟨s, 0, none⟩), bv] w fun e w' => e = .returned (.int .i64 0) ∧ CtD w' d sb s T' (B + 1) ∧ Keep [d, sb, s] w w' := by
  obtain ⟨L, n, turn, slot, a, b, c, h1, h2, h3, h4⟩ := h
  refine (Save_in a b bv T' hr hb hl h1 (c.len h1) (by omega) (by omega) (fun q hq _ => hlo q hq)).mono ?_
  rintro e w' ⟨rfl, hd, hs, k⟩
  exact ⟨rfl, ⟨_, n + 2, turn + 1, 1 - slot, hd, hs, c.save h1 (by omega) T', by omega, by omega, by omega, by omega⟩, k⟩
theorem stT_len (e t : Int) (l : List Int) (he : I64 e) (ht : I64 t) (hl : ∀ n ∈ l, 1 ≤ n ∧ n ≤ 5) : (stT e t l).length ≤ 40 := by
  have hb := bitsL_lt l hl
  have := putAll_len [e, t, ((bitsL l : Nat) : Int)] (by intro n hn; simp at hn; rcases hn with rfl | rfl | rfl; exact he; exact ht; exact ⟨by omega, by omega⟩)
  unfold stT
  simp at this
  omega
def keepJ (w0 : World) (c kb s g d sb xb base B : Nat) (t : Ct) (vm vt vn vd v2 : Value) (e2 t2 : Int) (l2 : List Int) (l : Nat → Bool) (x : Nat → Value) (w' : World) : Prop :=
  (l 6 = false → CtD w' d sb s (stT t.epoch t.top t.mem) B) ∧
  (l 6 = true → CtD w' d sb s (stT e2 t2 l2) (B + 1)) ∧
  (CtB w' c kb s g t vm vt vn vd) ∧
  (Blk w' xb [.int .i64 e2, .int .i64 t2, v2] 59) ∧
  (Own w' 0 3 v2 (ints l2)) ∧
  (CtR w' t vm vt vn vd base) ∧
  (Keep [d, sb, s] w0 w') ∧
  (l 0 = true → x 0 = .pointer (some ⟨c, 0, none⟩)) ∧
  (l 1 = true → x 1 = .pointer (some ⟨c, 0, none⟩)) ∧
  (l 2 = true → x 2 = .pointer (some ⟨c, 1, none⟩)) ∧
  (l 3 = true → x 3 = .pointer (some ⟨s, 0, none⟩)) ∧
  (l 4 = true → x 4 = .agg #[.int .i64 e2, .int .i64 t2, v2]) ∧
  (l 5 = true → Buf w' w0.heap.size 5 (x 5) (stT e2 t2 l2)) ∧
  (l 6 = true → x 6 = .int .i64 0) ∧
  (l 7 = true → x 7 = .bool false)
set_option maxHeartbeats 8000000 in
theorem keep_any {w : World} {c kb s g d sb base B : Nat} {t : Ct} {vm vt vn vd : Value} (h : CtB w c kb s g t vm vt vn vd) (hr : CtR w t vm vt vn vd base) (hd : CtD w d sb s (stT t.epoch t.top t.mem) B) (hB : B ≤ 100000)
    (hcd : c ≠ d ∧ c ≠ sb ∧ c ≠ s) (e2 t2 : Int) (v2 : Value) (l2 : List Int) (hv : Own w 0 3 v2 (ints l2)) (hn : ∀ n ∈ l2, 1 ≤ n ∧ n ≤ 5) (hl2 : l2.length ≤ 5) (he : I64 e2 ∧ I64 t2) :
    Calls Try.prog 50 #[.pointer (some ⟨c, 0, none⟩), stV e2 t2 v2] w fun e w' => e = .returned (.int .i64 0) ∧ CtB w' c kb s g { t with epoch := e2, top := t2, mem := l2 } v2 vt vn vd ∧ CtR w' t vm vt vn vd base ∧ Own w' 0 3 v2 (ints l2) ∧
      CtD w' d sb s (stT e2 t2 l2) (B + 1) ∧ Keep [d, sb, s, c] w w' := by
  have HN := Lib.hid hn
  have HL2 := Lib.hid hl2
  have HE := Lib.hid he
  have HTL := Lib.hid (stT_len e2 t2 l2 he.1 he.2 hn)
  have HB := Lib.hid hB
  obtain ⟨q1, q2, q3⟩ := hd.lt
  have hcl := Blk.lt h
  obtain ⟨v2a, v2c, rfl⟩ := hv.islice
  have hX0 := Blk.new w [.int .i64 e2, .int .i64 t2, .slice v2a l2.length v2c] 59
  have K1 : Keep [d, sb, s] w (w.alloc (.cells #[.int .i64 e2, .int .i64 t2, .slice v2a l2.length v2c] 59)) := (Keep.refl _ w).alloc _
  have hB0 := h.keep ((Keep.refl [] w).alloc (.cells #[.int .i64 e2, .int .i64 t2, .slice v2a l2.length v2c] 59)) (by simp)
  have hR0 := hr.still ((Keep.refl [] w).alloc (.cells #[.int .i64 e2, .int .i64 t2, .slice v2a l2.length v2c] 59))
  have hD0 := hd.still ((Keep.refl [] w).alloc (.cells #[.int .i64 e2, .int .i64 t2, .slice v2a l2.length v2c] 59))
  have hV0 := hv.alloc (.cells #[.int .i64 e2, .int .i64 t2, .slice v2a l2.length v2c] 59)
  go_enter Try.func50, Try.ntmps50
  go_upto_region 1 with fail
  obtain ⟨xb, hxb⟩ : ∃ r, r = w.heap.size := ⟨_, rfl⟩
  change Code.wp _ _ _ _ (w.alloc (.cells #[.int .i64 e2, .int .i64 t2, .slice v2a l2.length v2c] 59))
  rw [← hxb] at hX0 ⊢
  have hlast : (w.alloc (.cells #[.int .i64 e2, .int .i64 t2, .slice v2a l2.length v2c] 59)).heap.size = w.heap.size + 1 := by simp
  generalize hw1 : w.alloc (.cells #[.int .i64 e2, .int .i64 t2, .slice v2a l2.length v2c] 59) = w1 at *
  have HLO := Lib.hid (show c < xb ∧ d < xb ∧ sb < xb ∧ s < xb ∧ xb < w1.heap.size ∧ c ≠ d ∧ c ≠ sb ∧ c ≠ s by omega)
  clear hw1 hxb hlast hcl q1 q2 q3 hcd h hr hd hv hn hl2 he hB
  refine wp_region_inv (keepJ w1 c kb s g d sb xb base B t vm vt vn vd (.slice v2a l2.length v2c) e2 t2 l2) (by kernel_rfl) (by kernel_rfl) (by kernel_rfl) ?_ (Steps.cons 0 ?_ (Steps.cons 1 ?_ (Steps.cons 2 ?_ (Steps.cons 3 ?_ (Steps.cons 4 ?_ (Steps.cons 5 ?_ (Steps.cons 6 ?_ (Steps.cons 7 ?_ (Steps.nil 8))))))))) 8 rfl ?_
  · intro x
    exact ⟨fun _ => hD0.still (Keep.refl [] _).drew, fun h => absurd h (by decide), hB0.keep (Keep.refl [] _).drew (by simp), hX0.drew, hV0.drew, hR0.still (Keep.refl [] _).drew, (Keep.refl _ _).drew, fun h => absurd h (by decide), fun h => absurd h (by decide), fun h => absurd h (by decide), fun h => absurd h (by decide), fun h => absurd h (by decide), fun h => absurd h (by decide), fun h => absurd h (by decide), fun h => absurd h (by decide)⟩
  · intro l x w' hJ hi hd
    obtain ⟨hD1, hD2, hB, hX, hV, hR, hK, h0, h1, h2, h3, h4, h5, h6, h7⟩ := hJ
    refine Runs.of (b := ?bK0) ?eK0 ?_
    case eK0 => simp only [putV, Act.put, List.setIfInBounds_toArray, List.set_cons_zero, List.set_cons_succ]; rfl
    intro K' hK'
    go_simp
    exact hK'.go _ rfl ⟨hD1, hD2, hB, hX, hV, hR, hK, fun _ => rfl, h1, h2, h3, h4, h5, h6, h7⟩
  · intro l x w' hJ hi hd
    obtain ⟨hD1, hD2, hB, hX, hV, hR, hK, h0, h1, h2, h3, h4, h5, h6, h7⟩ := hJ
    have e0 := h0 (show l 0 = true by first | exact hd.1 rfl | exact hd.2.1 rfl | exact hd.2.2.1 rfl | exact hd.2.2.2.1 rfl | exact hd.2.2.2.2.1 rfl | exact hd.2.2.2.2.2.1 rfl)
    refine Runs.of (b := ?bK1) ?eK1 ?_
    case eK1 => simp only [putV, Act.put, List.setIfInBounds_toArray, List.set_cons_zero, List.set_cons_succ, e0]; rfl
    intro K' hK'
    go_simp
    exact hK'.go _ rfl ⟨hD1, hD2, hB, hX, hV, hR, hK, h0, fun _ => rfl, h2, h3, h4, h5, h6, h7⟩
  · intro l x w' hJ hi hd
    obtain ⟨hD1, hD2, hB, hX, hV, hR, hK, h0, h1, h2, h3, h4, h5, h6, h7⟩ := hJ
    have e1 := h1 (show l 1 = true by first | exact hd.1 rfl | exact hd.2.1 rfl | exact hd.2.2.1 rfl | exact hd.2.2.2.1 rfl | exact hd.2.2.2.2.1 rfl | exact hd.2.2.2.2.2.1 rfl)
    refine Runs.of (b := ?bK2) ?eK2 ?_
    case eK2 => simp only [putV, Act.put, List.setIfInBounds_toArray, List.set_cons_zero, List.set_cons_succ, e1]; rfl
    intro K' hK'
    go_simp
    exact hK'.go _ rfl ⟨hD1, hD2, hB, hX, hV, hR, hK, h0, h1, fun _ => rfl, h3, h4, h5, h6, h7⟩
  · intro l x w' hJ hi hd
    obtain ⟨hD1, hD2, hB, hX, hV, hR, hK, h0, h1, h2, h3, h4, h5, h6, h7⟩ := hJ
    have e2 := h2 (show l 2 = true by first | exact hd.1 rfl | exact hd.2.1 rfl | exact hd.2.2.1 rfl | exact hd.2.2.2.1 rfl | exact hd.2.2.2.2.1 rfl | exact hd.2.2.2.2.2.1 rfl)
    have cc := (ctc_1 hB).1
    refine Runs.of (b := ?bK3) ?eK3 ?_
    case eK3 => simp only [putV, Act.put, List.setIfInBounds_toArray, List.set_cons_zero, List.set_cons_succ, e2]; rfl
    intro K' hK'
    go_simp
    exact hK'.go _ rfl ⟨hD1, hD2, hB, hX, hV, hR, hK, h0, h1, h2, fun _ => rfl, h4, h5, h6, h7⟩
  · intro l x w' hJ hi hd
    obtain ⟨hD1, hD2, hB, hX, hV, hR, hK, h0, h1, h2, h3, h4, h5, h6, h7⟩ := hJ
    have c0 := hX.cell 0
    have c1 := hX.cell 1
    have c2 := hX.cell 2
    simp only [List.getElem?_cons_zero, List.getElem?_cons_succ] at c0 c1 c2
    refine Runs.of (b := ?bK4) ?eK4 ?_
    case eK4 => simp only [putV, Act.put, List.setIfInBounds_toArray, List.set_cons_zero, List.set_cons_succ]; rfl
    intro K' hK'
    go_simp
    exact hK'.go _ rfl ⟨hD1, hD2, hB, hX, hV, hR, hK, h0, h1, h2, h3, fun _ => rfl, h5, h6, h7⟩
  · intro l x w' hJ hi hd
    obtain ⟨hD1, hD2, hB, hX, hV, hR, hK, h0, h1, h2, h3, h4, h5, h6, h7⟩ := hJ
    have e4 := h4 (show l 4 = true by first | exact hd.1 rfl | exact hd.2.1 rfl | exact hd.2.2.1 rfl | exact hd.2.2.2.1 rfl | exact hd.2.2.2.2.1 rfl | exact hd.2.2.2.2.2.1 rfl)
    refine Runs.of (b := ?bK5) ?eK5 ?_
    case eK5 => simp only [putV, Act.put, List.setIfInBounds_toArray, List.set_cons_zero, List.set_cons_succ, e4]; rfl
    intro K' hK'
    go_simp
    refine (stText_any e2 t2 _ l2 hV.irv HN.out (by have := HL2.out; omega) HE.out.1 HE.out.2).mono ?_
    rintro e w2 ⟨v5, rfl, hb5, k2⟩
    have hz0 := hK.size
    go_simp
    exact hK'.go v5 rfl ⟨fun h => (hD1 h).still k2, fun h => (hD2 h).still k2, hB.keep k2 (by simp), hX.keep k2 (by simp), hV.keep k2 (by simp), hR.still k2, hK.trans (k2.mono (by simp)), h0, h1, h2, h3, h4, fun _ => hb5.mono hz0, h6, h7⟩
  · intro l x w' hJ hi hd
    obtain ⟨hD1, hD2, hB, hX, hV, hR, hK, h0, h1, h2, h3, h4, h5, h6, h7⟩ := hJ
    have e3 := h3 (show l 3 = true by first | exact hd.1 rfl | exact hd.2.1 rfl | exact hd.2.2.1 rfl | exact hd.2.2.2.1 rfl | exact hd.2.2.2.2.1 rfl | exact hd.2.2.2.2.2.1 rfl)
    have e5 := h5 (show l 5 = true by first | exact hd.1 rfl | exact hd.2.1 rfl | exact hd.2.2.1 rfl | exact hd.2.2.2.1 rfl | exact hd.2.2.2.2.1 rfl | exact hd.2.2.2.2.2.1 rfl)
    obtain ⟨b5a, b5c, hb5⟩ := e5.slice
    rw [hb5] at e5
    have hD := hD1 hi
    refine Runs.of (b := ?bK6) ?eK6 ?_
    case eK6 => simp only [putV, Act.put, List.setIfInBounds_toArray, List.set_cons_zero, List.set_cons_succ, e3, hb5]; rfl
    intro K' hK'
    go_simp
    refine (hD.save (stT e2 t2 l2) HB.out _ e5.rd (putAll_byte _) HTL.out (fun q hq => by have := e5.lt q hq; have := HLO.out; omega)).mono ?_
    rintro e w2 ⟨rfl, hD', k2⟩
    have hlo := HLO.out
    have hty := hD.tys
    go_simp
    exact hK'.go _ rfl ⟨fun h => Bool.noConfusion (show true = false from h), fun _ => hD', hB.keep k2 (by simp; omega), hX.keep k2 (by simp; omega), hV.keep k2 (fun b hb hm => hty b hm (hV.ty b hb)), hR.keep k2 hty, hK.trans k2, h0, h1, h2, h3, h4, fun h => (h5 h).keep k2 (fun q hq hm => by have := (h5 h).lt q hq; simp at hm; omega), fun _ => rfl, h7⟩
  · intro l x w' hJ hi hd
    obtain ⟨hD1, hD2, hB, hX, hV, hR, hK, h0, h1, h2, h3, h4, h5, h6, h7⟩ := hJ
    have e6 := h6 (show l 6 = true by first | exact hd.1 rfl | exact hd.2.1 rfl | exact hd.2.2.1 rfl | exact hd.2.2.2.1 rfl | exact hd.2.2.2.2.1 rfl | exact hd.2.2.2.2.2.1 rfl)
    refine Runs.of (b := ?bK7) ?eK7 ?_
    case eK7 => simp only [putV, Act.put, List.setIfInBounds_toArray, List.set_cons_zero, List.set_cons_succ, e6]; rfl
    intro K' hK'
    go_simp
    exact hK'.go _ rfl ⟨hD1, hD2, hB, hX, hV, hR, hK, h0, h1, h2, h3, h4, h5, h6, fun _ => rfl⟩
  · intro l x w3 hJ hl
    obtain ⟨hD1, hD2, hB, hX, hV, hR, hK, h0, h1, h2, h3, h4, h5, h6, h7⟩ := hJ
    have e7 := h7 (hl 7 (by decide))
    have hD := hD2 (hl 6 (by decide))
    simp only [putV, Act.put, List.setIfInBounds_toArray, List.set_cons_zero, List.set_cons_succ, e7]
    clear h0 h1 h2 h3 h4 h5 h6 h7 hl e7 hD1 hD2 hD0 hB0 hX0 hV0 hR0
    generalize x 0 = y0; generalize x 1 = y1; generalize x 2 = y2; generalize x 3 = y3; generalize x 4 = y4; generalize x 5 = y5; generalize x 6 = y6
    have K3 := K1.then hK (fun q hq _ => hq)
    have x0 := hX.cell 0
    have x1 := hX.cell 1
    have x2 := hX.cell 2
    simp only [List.getElem?_cons_zero, List.getElem?_cons_succ] at x0 x1 x2
    obtain ⟨b2, f2⟩ := ctc_2 hB
    obtain ⟨b3, f3⟩ := ctc_3 hB
    obtain ⟨b4, f4⟩ := ctc_4 hB
    have hcb : c ≠ xb := by have := HLO.out; omega
    go_wp2_with fail
    go_ret
    have hB2 : CtB (((w3.setCell ⟨c, 2, none⟩ (.int .i64 e2)).setCell ⟨c, 3, none⟩ (.int .i64 t2)).setCell ⟨c, 4, none⟩ (.slice v2a l2.length v2c)) c kb s g { t with epoch := e2, top := t2, mem := l2 } (.slice v2a l2.length v2c) vt vn vd := ((Blk.set hB 2 _).set 3 _).set 4 _
    have k4 : Keep [c] w3 (((w3.setCell ⟨c, 2, none⟩ (.int .i64 e2)).setCell ⟨c, 3, none⟩ (.int .i64 t2)).setCell ⟨c, 4, none⟩ (.slice v2a l2.length v2c)) := (((Keep.refl _ _).setCell (.inl (by simp)) _).setCell (.inl (by simp)) _).setCell (.inl (by simp)) _
    have htc : ∀ q ∈ [c], ¬ Ty w3 q 3 := fun q hq ht => by simp at hq; subst hq; exact (Blk.ty hB).ne ht (by decide) rfl
    have hlo := HLO.out
    exact ⟨rfl, hB2, hR.keep k4 htc, hV.keep k4 (fun b hb hm => htc b hm (hV.ty b hb)), hD.keep k4 (by simp; omega) (by simp; omega) (by simp; omega) (fun q hq ht => by simp at hq; subst hq; exact (Blk.ty hB).ne ht (by decide) rfl), (K3.mono (fun q hq _ => by simp at hq ⊢; omega)).trans (k4.mono (fun q hq _ => by simp at hq ⊢; omega))⟩
end Go.Proofs.Ytcoaobdijlppgaa
/- The authority: begin. -/
namespace Go.Proofs.Ytcoaobdijlppgaa
open Go.ChangeShapes Go.WideShapes Go.ChangeAt Go.RowKit
set_option linter.unusedVariables false
set_option linter.unusedSimpArgs false
set_option maxRecDepth 100000

/-- A change has begun. -/
def Ct.begun (t : Ct) (to2 : List Int) (lost : Int) : Ct := { t with top := t.top + 1, num := t.top + 1, phase := 1, dest := to2, nodes := bothL t.mem to2 lost, lost := lost, done := [] }
def beginJ (w0 : World) (c kb s g xb : Nat) (t : Ct) (vt vn vd : Value) (ma ta : Option Addr) (mc tc2 : Nat) (to2 : List Int) (lost : Int) (l : Nat → Bool) (x : Nat → Value) (w' : World) : Prop :=
  ∃ na nc, (l 16 = false → CtB w' c kb s g { t with epoch := t.epoch, top := t.top + 1, mem := t.mem } (.slice ma t.mem.length mc) vt vn vd) ∧
  (l 16 = true → CtB w' c kb s g { t with top := t.top + 1, num := t.top + 1, phase := 1, dest := to2, nodes := bothL t.mem to2 lost, lost := lost, done := [] } (.slice ma t.mem.length mc) (.slice ta to2.length tc2) (.slice na (bothL t.mem to2 lost).length nc) (.slice none 0 0)) ∧
  (Blk w' xb [.int .i64 t.epoch, .int .i64 (t.top + 1), .slice ma t.mem.length mc] 59) ∧
  (Own w' 0 3 (.slice ma t.mem.length mc) (ints t.mem)) ∧
  (Own w' 0 3 (.slice ta to2.length tc2) (ints to2)) ∧
  (Keep [c] w0 w') ∧
  (l 16 = true → l 8 = true) ∧
  (l 16 = true → l 13 = true) ∧
  (l 0 = true → x 0 = .pointer (some ⟨c, 0, none⟩)) ∧
  (l 1 = true → x 1 = .pointer (some ⟨xb, 1, none⟩)) ∧
  (l 2 = true → x 2 = .int .i64 (t.top + 1)) ∧
  (l 3 = true → x 3 = .slice ta to2.length tc2) ∧
  (l 4 = true → x 4 = .pointer (some ⟨c, 0, none⟩)) ∧
  (l 5 = true → x 5 = .pointer (some ⟨c, 0, none⟩)) ∧
  (l 6 = true → x 6 = .pointer (some ⟨c, 2, none⟩)) ∧
  (l 7 = true → x 7 = .pointer (some ⟨c, 4, none⟩)) ∧
  (l 8 = true → x 8 = (.slice ma t.mem.length mc)) ∧
  (l 9 = true → x 9 = .slice ta to2.length tc2) ∧
  (l 10 = true → x 10 = .int .i64 lost) ∧
  (l 11 = true → x 11 = (.slice na (bothL t.mem to2 lost).length nc) ∧ Own w' 0 3 (.slice na (bothL t.mem to2 lost).length nc) (ints (bothL t.mem to2 lost)) ∧ l 8 = true) ∧
  (l 12 = true → x 12 = .int .i64 lost) ∧
  (l 13 = true → x 13 = .agg #[.int .i64 (t.top + 1), .int .i64 1, (.slice ta to2.length tc2), (.slice na (bothL t.mem to2 lost).length nc), .int .i64 lost, .slice none 0 0] ∧ l 11 = true) ∧
  (l 14 = true → x 14 = .pointer (some ⟨c, 0, none⟩)) ∧
  (l 15 = true → x 15 = .pointer (some ⟨c, 5, none⟩)) ∧
  (l 16 = true → True)
set_option maxHeartbeats 8000000 in
theorem begin_any {w : World} {c kb s g d sb base B : Nat} {t : Ct} {vm vt vn vd : Value} (h : CtB w c kb s g t vm vt vn vd) (hr : CtR w t vm vt vn vd base) (hd : CtD w d sb s (stT t.epoch t.top t.mem) B) (hB : B ≤ 100000)
    (hcd : c ≠ d ∧ c ≠ sb ∧ c ≠ s) (v2 : Value) (to2 : List Int) (lost : Int) (hv : Own w 0 3 v2 (ints to2)) (hn : ∀ n ∈ t.mem, 1 ≤ n ∧ n ≤ 5) (hl2 : to2.length ≤ 5) (hp : 0 < t.mem.length ∧ 0 < to2.length) (he : I64 t.epoch) (ht : 0 ≤ t.top ∧ t.top < 1099511627776) :
    Calls Try.prog 31 #[.pointer (some ⟨c, 0, none⟩), v2, .int .i64 lost] w fun e w' => ∃ v L vn' base', e = .returned (.tuple #[v, .int .i64 0]) ∧ TRow w' w.heap.size v L ∧ L.map (·.m) = (bothL t.mem to2 lost).map (tellM (t.begun to2 lost) 3) ∧
      CtB w' c kb s g (t.begun to2 lost) vm v2 vn' (.slice none 0 0) ∧ CtR w' (t.begun to2 lost) vm v2 vn' (.slice none 0 0) base' ∧ CtD w' d sb s (stT t.epoch (t.top + 1) t.mem) (B + 1) ∧ Keep [d, sb, s, c] w w' := by
  unfold Ct.begun
  obtain ⟨ta, tc2, rfl⟩ := hv.islice
  obtain ⟨ma, mc, rfl⟩ := hr.mem.islice
  have HLN := Lib.hid (show t.mem.length ≤ 5 ∧ to2.length ≤ 5 from ⟨hr.memn, hl2⟩)
  have HPO := Lib.hid hp
  have HB := Lib.hid hB
  have HN := Lib.hid hn
  have HE := Lib.hid he
  obtain ⟨t0, t1⟩ := ht
  obtain ⟨q1, q2, q3⟩ := hd.lt
  have hcl := Blk.lt h
  obtain ⟨c2, _⟩ := ctc_2 h
  obtain ⟨c3, _⟩ := ctc_3 h
  obtain ⟨c4, _⟩ := ctc_4 h
  have qt : decide (1099511627776 < t.top + 1) = false := decide_eq_false (by omega)
  have hbld : ∀ (W : World) (na : Option Addr) (nn nc : Nat), (Instr.build 61 #[(0, .int .i64 (t.top + 1)), (1, .int .i64 1), (2, .slice ta to2.length tc2), (3, .slice na nn nc), (4, .int .i64 lost)]).run Try.prog W = .ok (.agg #[.int .i64 (t.top + 1), .int .i64 1, .slice ta to2.length tc2, .slice na nn nc, .int .i64 lost, .slice none 0 0]) W := fun W na nn nc => run_build W _ _ _ (by rfl)
  go_enter Try.func31, Try.ntmps31
  go_wp2_with fail
  have hX1 := Blk.new w [.int .i64 t.epoch, .int .i64 (t.top + 1), .slice ma t.mem.length mc] 59
  have K1 : Keep [] w (w.alloc (.cells #[.int .i64 t.epoch, .int .i64 (t.top + 1), .slice ma t.mem.length mc] 59)) := (Keep.refl [] w).alloc _
  have hB1 := h.keep K1 (by simp)
  have hR1 := hr.still K1
  have hD1 := hd.still K1
  have hT1 := hv.keep K1 (by simp)
  have hlast : (w.alloc (.cells #[.int .i64 t.epoch, .int .i64 (t.top + 1), .slice ma t.mem.length mc] 59)).heap.size = w.heap.size + 1 := by simp
  change Calls _ _ _ (w.alloc (.cells #[.int .i64 t.epoch, .int .i64 (t.top + 1), .slice ma t.mem.length mc] 59)) _
  obtain ⟨xb, hxb⟩ : ∃ r, r = w.heap.size := ⟨_, rfl⟩
  rw [← hxb] at hX1 ⊢
  generalize hw1 : w.alloc (.cells #[.int .i64 t.epoch, .int .i64 (t.top + 1), .slice ma t.mem.length mc] 59) = w1 at *
  have HCX := Lib.hid (show c < xb ∧ d < xb ∧ sb < xb ∧ s < xb ∧ c ≠ d ∧ c ≠ sb ∧ c ≠ s ∧ xb < w1.heap.size by omega)
  clear hw1 hxb hlast hcl q1 q2 q3 h hr hd hv hn hl2 hp he hB c2 c3 c4
  refine (keep_any hB1 hR1 hD1 HB.out (by have := HCX.out; omega) t.epoch (t.top + 1) _ t.mem hR1.mem HN.out hR1.memn ⟨HE.out, ⟨by omega, by omega⟩⟩).mono ?_
  rintro e w2 ⟨rfl, hB0, hR2, hV0, hD2, k2⟩
  have hcx := HCX.out
  have hX0 := hX1.keep k2 (by simp; omega)
  have hty := hD1.tys
  have htall : ∀ q ∈ [d, sb, s, c], ¬ Ty w1 q 3 := fun q hq ht => by
    simp only [List.mem_cons, List.not_mem_nil, or_false] at hq
    rcases hq with hq | hq | hq | hq
    · exact hty q (by simp [hq]) ht
    · exact hty q (by simp [hq]) ht
    · exact hty q (by simp [hq]) ht
    · subst hq; exact (Blk.ty hB1).ne ht (by decide) rfl
  have hT0 := hT1.keep k2 (fun b hb hm => htall b hm (hT1.ty b hb))
  have K2 : Keep [d, sb, s, c] w w2 := (K1.mono (by simp)).trans k2
  have HTC : Hid (∀ q ∈ [c], ¬ Ty w2 q 3) := Lib.hid (fun q hq ht => by simp at hq; subst hq; exact (Blk.ty hB0).ne ht (by decide) rfl)
  have HTU : Hid (∀ q ∈ [c], ¬ Ty w2 q 5) := Lib.hid (fun q hq ht => by simp at hq; subst hq; exact (Blk.ty hB0).ne ht (by decide) rfl)
  clear hX1 K1 hB1 hR1 hD1 hT1 k2 hty htall hR2 hcx
  go_wp2_with fail
  refine wp_region_inv (beginJ w2 c kb s g xb t vt vn vd ma ta mc tc2 to2 lost) (by kernel_rfl) (by kernel_rfl) (by kernel_rfl) ?_ (Steps.cons 0 ?_ (Steps.cons 1 ?_ (Steps.cons 2 ?_ (Steps.cons 3 ?_ (Steps.cons 4 ?_ (Steps.cons 5 ?_ (Steps.cons 6 ?_ (Steps.cons 7 ?_ (Steps.cons 8 ?_ (Steps.cons 9 ?_ (Steps.cons 10 ?_ (Steps.cons 11 ?_ (Steps.cons 12 ?_ (Steps.cons 13 ?_ (Steps.cons 14 ?_ (Steps.cons 15 ?_ (Steps.cons 16 ?_ (Steps.nil 17)))))))))))))))))) 17 rfl ?_
  · intro x
    exact ⟨none, 0, fun _ => hB0.keep (Keep.refl [] _).drew (by simp), fun h => absurd h (by decide), hX0.drew, hV0.drew, hT0.drew, (Keep.refl _ _).drew, fun h => absurd h (by decide), fun h => absurd h (by decide), fun h => absurd h (by decide), fun h => absurd h (by decide), fun h => absurd h (by decide), fun h => absurd h (by decide), fun h => absurd h (by decide), fun h => absurd h (by decide), fun h => absurd h (by decide), fun h => absurd h (by decide), fun h => absurd h (by decide), fun h => absurd h (by decide), fun h => absurd h (by decide), fun h => absurd h (by decide), fun h => absurd h (by decide), fun h => absurd h (by decide), fun h => absurd h (by decide), fun h => absurd h (by decide), fun h => absurd h (by decide)⟩
  · intro l x w' hJ hi hd
    obtain ⟨na, nc, hB1, hB2, hX, hV, hT, hK, d16, d13, h0, h1, h2, h3, h4, h5, h6, h7, h8, h9, h10, h11, h12, h13, h14, h15, h16⟩ := hJ
    refine Runs.of (b := ?bB0) ?eB0 ?_
    case eB0 => simp only [putV, Act.put, List.setIfInBounds_toArray, List.set_cons_zero, List.set_cons_succ]; rfl
    intro K' hK'
    go_simp
    exact hK'.go _ rfl ⟨na, nc, hB1, hB2, hX, hV, hT, hK, d16, d13, fun _ => rfl, h1, h2, h3, h4, h5, h6, h7, h8, h9, h10, h11, h12, h13, h14, h15, h16⟩
  · intro l x w' hJ hi hd
    obtain ⟨na, nc, hB1, hB2, hX, hV, hT, hK, d16, d13, h0, h1, h2, h3, h4, h5, h6, h7, h8, h9, h10, h11, h12, h13, h14, h15, h16⟩ := hJ
    refine Runs.of (b := ?bB1) ?eB1 ?_
    case eB1 => simp only [putV, Act.put, List.setIfInBounds_toArray, List.set_cons_zero, List.set_cons_succ]; rfl
    intro K' hK'
    go_simp
    exact hK'.go _ rfl ⟨na, nc, hB1, hB2, hX, hV, hT, hK, d16, d13, h0, fun _ => rfl, h2, h3, h4, h5, h6, h7, h8, h9, h10, h11, h12, h13, h14, h15, h16⟩
  · intro l x w' hJ hi hd
    obtain ⟨na, nc, hB1, hB2, hX, hV, hT, hK, d16, d13, h0, h1, h2, h3, h4, h5, h6, h7, h8, h9, h10, h11, h12, h13, h14, h15, h16⟩ := hJ
    have e1 := h1 (show l 1 = true by first | exact hd.1 rfl | exact hd.2.1 rfl | exact hd.2.2.1 rfl | exact hd.2.2.2.1 rfl | exact hd.2.2.2.2.1 rfl | exact hd.2.2.2.2.2.1 rfl)
    have cc := hX.cell 1
    simp only [List.getElem?_cons_zero, List.getElem?_cons_succ] at cc
    refine Runs.of (b := ?bB2) ?eB2 ?_
    case eB2 => simp only [putV, Act.put, List.setIfInBounds_toArray, List.set_cons_zero, List.set_cons_succ, e1]; rfl
    intro K' hK'
    go_simp
    exact hK'.go _ rfl ⟨na, nc, hB1, hB2, hX, hV, hT, hK, d16, d13, h0, h1, fun _ => rfl, h3, h4, h5, h6, h7, h8, h9, h10, h11, h12, h13, h14, h15, h16⟩
  · intro l x w' hJ hi hd
    obtain ⟨na, nc, hB1, hB2, hX, hV, hT, hK, d16, d13, h0, h1, h2, h3, h4, h5, h6, h7, h8, h9, h10, h11, h12, h13, h14, h15, h16⟩ := hJ
    refine Runs.of (b := ?bB3) ?eB3 ?_
    case eB3 => simp only [putV, Act.put, List.setIfInBounds_toArray, List.set_cons_zero, List.set_cons_succ]; rfl
    intro K' hK'
    go_simp
    exact hK'.go _ rfl ⟨na, nc, hB1, hB2, hX, hV, hT, hK, d16, d13, h0, h1, h2, fun _ => rfl, h4, h5, h6, h7, h8, h9, h10, h11, h12, h13, h14, h15, h16⟩
  · intro l x w' hJ hi hd
    obtain ⟨na, nc, hB1, hB2, hX, hV, hT, hK, d16, d13, h0, h1, h2, h3, h4, h5, h6, h7, h8, h9, h10, h11, h12, h13, h14, h15, h16⟩ := hJ
    refine Runs.of (b := ?bB4) ?eB4 ?_
    case eB4 => simp only [putV, Act.put, List.setIfInBounds_toArray, List.set_cons_zero, List.set_cons_succ]; rfl
    intro K' hK'
    go_simp
    exact hK'.go _ rfl ⟨na, nc, hB1, hB2, hX, hV, hT, hK, d16, d13, h0, h1, h2, h3, fun _ => rfl, h5, h6, h7, h8, h9, h10, h11, h12, h13, h14, h15, h16⟩
  · intro l x w' hJ hi hd
    obtain ⟨na, nc, hB1, hB2, hX, hV, hT, hK, d16, d13, h0, h1, h2, h3, h4, h5, h6, h7, h8, h9, h10, h11, h12, h13, h14, h15, h16⟩ := hJ
    have e4 := h4 (show l 4 = true by first | exact hd.1 rfl | exact hd.2.1 rfl | exact hd.2.2.1 rfl | exact hd.2.2.2.1 rfl | exact hd.2.2.2.2.1 rfl | exact hd.2.2.2.2.2.1 rfl)
    refine Runs.of (b := ?bB5) ?eB5 ?_
    case eB5 => simp only [putV, Act.put, List.setIfInBounds_toArray, List.set_cons_zero, List.set_cons_succ, e4]; rfl
    intro K' hK'
    go_simp
    exact hK'.go _ rfl ⟨na, nc, hB1, hB2, hX, hV, hT, hK, d16, d13, h0, h1, h2, h3, h4, fun _ => rfl, h6, h7, h8, h9, h10, h11, h12, h13, h14, h15, h16⟩
  · intro l x w' hJ hi hd
    obtain ⟨na, nc, hB1, hB2, hX, hV, hT, hK, d16, d13, h0, h1, h2, h3, h4, h5, h6, h7, h8, h9, h10, h11, h12, h13, h14, h15, h16⟩ := hJ
    have e5 := h5 (show l 5 = true by first | exact hd.1 rfl | exact hd.2.1 rfl | exact hd.2.2.1 rfl | exact hd.2.2.2.1 rfl | exact hd.2.2.2.2.1 rfl | exact hd.2.2.2.2.2.1 rfl)
    refine Runs.of (b := ?bB6) ?eB6 ?_
    case eB6 => simp only [putV, Act.put, List.setIfInBounds_toArray, List.set_cons_zero, List.set_cons_succ, e5]; rfl
    intro K' hK'
    go_simp
    exact hK'.go _ rfl ⟨na, nc, hB1, hB2, hX, hV, hT, hK, d16, d13, h0, h1, h2, h3, h4, h5, fun _ => rfl, h7, h8, h9, h10, h11, h12, h13, h14, h15, h16⟩
  · intro l x w' hJ hi hd
    obtain ⟨na, nc, hB1, hB2, hX, hV, hT, hK, d16, d13, h0, h1, h2, h3, h4, h5, h6, h7, h8, h9, h10, h11, h12, h13, h14, h15, h16⟩ := hJ
    have e6 := h6 (show l 6 = true by first | exact hd.1 rfl | exact hd.2.1 rfl | exact hd.2.2.1 rfl | exact hd.2.2.2.1 rfl | exact hd.2.2.2.2.1 rfl | exact hd.2.2.2.2.2.1 rfl)
    refine Runs.of (b := ?bB7) ?eB7 ?_
    case eB7 => simp only [putV, Act.put, List.setIfInBounds_toArray, List.set_cons_zero, List.set_cons_succ, e6]; rfl
    intro K' hK'
    go_simp
    exact hK'.go _ rfl ⟨na, nc, hB1, hB2, hX, hV, hT, hK, d16, d13, h0, h1, h2, h3, h4, h5, h6, fun _ => rfl, h8, h9, h10, h11, h12, h13, h14, h15, h16⟩
  · intro l x w' hJ hi hd
    obtain ⟨na, nc, hB1, hB2, hX, hV, hT, hK, d16, d13, h0, h1, h2, h3, h4, h5, h6, h7, h8, h9, h10, h11, h12, h13, h14, h15, h16⟩ := hJ
    have e7 := h7 (show l 7 = true by first | exact hd.1 rfl | exact hd.2.1 rfl | exact hd.2.2.1 rfl | exact hd.2.2.2.1 rfl | exact hd.2.2.2.2.1 rfl | exact hd.2.2.2.2.2.1 rfl)
    have hB' : CtB w' c kb s g { t with epoch := t.epoch, top := t.top + 1, mem := t.mem } (.slice ma t.mem.length mc) vt vn vd := hB1 (by cases hh : l 16 with | false => rfl | true => have := d16 hh; rw [hi] at this; cases this)
    have cc := (ctc_4 hB').1
    refine Runs.of (b := ?bB8) ?eB8 ?_
    case eB8 => simp only [putV, Act.put, List.setIfInBounds_toArray, List.set_cons_zero, List.set_cons_succ, e7]; rfl
    intro K' hK'
    go_simp
    exact hK'.go _ rfl ⟨na, nc, hB1, hB2, hX, hV, hT, hK, fun _ => rfl, d13, h0, h1, h2, h3, h4, h5, h6, h7, fun _ => rfl, h9, h10, fun h => ⟨(h11 h).1, (h11 h).2.1, rfl⟩, h12, h13, h14, h15, h16⟩
  · intro l x w' hJ hi hd
    obtain ⟨na, nc, hB1, hB2, hX, hV, hT, hK, d16, d13, h0, h1, h2, h3, h4, h5, h6, h7, h8, h9, h10, h11, h12, h13, h14, h15, h16⟩ := hJ
    refine Runs.of (b := ?bB9) ?eB9 ?_
    case eB9 => simp only [putV, Act.put, List.setIfInBounds_toArray, List.set_cons_zero, List.set_cons_succ]; rfl
    intro K' hK'
    go_simp
    exact hK'.go _ rfl ⟨na, nc, hB1, hB2, hX, hV, hT, hK, d16, d13, h0, h1, h2, h3, h4, h5, h6, h7, h8, fun _ => rfl, h10, h11, h12, h13, h14, h15, h16⟩
  · intro l x w' hJ hi hd
    obtain ⟨na, nc, hB1, hB2, hX, hV, hT, hK, d16, d13, h0, h1, h2, h3, h4, h5, h6, h7, h8, h9, h10, h11, h12, h13, h14, h15, h16⟩ := hJ
    refine Runs.of (b := ?bB10) ?eB10 ?_
    case eB10 => simp only [putV, Act.put, List.setIfInBounds_toArray, List.set_cons_zero, List.set_cons_succ]; rfl
    intro K' hK'
    go_simp
    exact hK'.go _ rfl ⟨na, nc, hB1, hB2, hX, hV, hT, hK, d16, d13, h0, h1, h2, h3, h4, h5, h6, h7, h8, h9, fun _ => rfl, h11, h12, h13, h14, h15, h16⟩
  · intro l x w' hJ hi hd
    obtain ⟨na, nc, hB1, hB2, hX, hV, hT, hK, d16, d13, h0, h1, h2, h3, h4, h5, h6, h7, h8, h9, h10, h11, h12, h13, h14, h15, h16⟩ := hJ
    have e8 := h8 (show l 8 = true by first | exact hd.1 rfl | exact hd.2.1 rfl | exact hd.2.2.1 rfl | exact hd.2.2.2.1 rfl | exact hd.2.2.2.2.1 rfl | exact hd.2.2.2.2.2.1 rfl)
    have e9 := h9 (show l 9 = true by first | exact hd.1 rfl | exact hd.2.1 rfl | exact hd.2.2.1 rfl | exact hd.2.2.2.1 rfl | exact hd.2.2.2.2.1 rfl | exact hd.2.2.2.2.2.1 rfl)
    have e10 := h10 (show l 10 = true by first | exact hd.1 rfl | exact hd.2.1 rfl | exact hd.2.2.1 rfl | exact hd.2.2.2.1 rfl | exact hd.2.2.2.2.1 rfl | exact hd.2.2.2.2.2.1 rfl)
    have L8 := Lib.hid (show l 8 = true by first | exact hd.1 rfl | exact hd.2.1 rfl | exact hd.2.2.1 rfl | exact hd.2.2.2.1 rfl | exact hd.2.2.2.2.1 rfl | exact hd.2.2.2.2.2.1 rfl)
    have l16 : l 16 = false := by cases hh : l 16 with | false => rfl | true => have := (h13 (d13 hh)).2; rw [hi] at this; cases this
    refine Runs.of (b := ?bB11) ?eB11 ?_
    case eB11 => simp only [putV, Act.put, List.setIfInBounds_toArray, List.set_cons_zero, List.set_cons_succ, e8, e9, e10]; rfl
    intro K' hK'
    go_simp
    refine (both_any _ _ t.mem to2 lost hV.irv hT.irv (by have := HLN.out; omega) (by have := HLN.out; omega)).mono ?_
    rintro e w2 ⟨v2, rfl, hO, k2⟩
    obtain ⟨ua, uc, rfl⟩ := hO.islice
    go_simp
    exact hK'.go _ rfl ⟨ua, uc, fun h => (hB1 h).keep k2 (by simp), fun h => absurd (l16.symm.trans h) (by decide), hX.keep k2 (by simp), hV.keep k2 (by simp), hT.keep k2 (by simp), hK.trans (k2.mono (by simp)), d16, d13, h0, h1, h2, h3, h4, h5, h6, h7, h8, h9, h10, fun _ => ⟨rfl, hO.mono (by omega), L8.out⟩, h12, fun h => absurd ((h13 h).2.symm.trans hi) (by decide), h14, h15, h16⟩
  · intro l x w' hJ hi hd
    obtain ⟨na, nc, hB1, hB2, hX, hV, hT, hK, d16, d13, h0, h1, h2, h3, h4, h5, h6, h7, h8, h9, h10, h11, h12, h13, h14, h15, h16⟩ := hJ
    refine Runs.of (b := ?bB12) ?eB12 ?_
    case eB12 => simp only [putV, Act.put, List.setIfInBounds_toArray, List.set_cons_zero, List.set_cons_succ]; rfl
    intro K' hK'
    go_simp
    exact hK'.go _ rfl ⟨na, nc, hB1, hB2, hX, hV, hT, hK, d16, d13, h0, h1, h2, h3, h4, h5, h6, h7, h8, h9, h10, h11, fun _ => rfl, h13, h14, h15, h16⟩
  · intro l x w' hJ hi hd
    obtain ⟨na, nc, hB1, hB2, hX, hV, hT, hK, d16, d13, h0, h1, h2, h3, h4, h5, h6, h7, h8, h9, h10, h11, h12, h13, h14, h15, h16⟩ := hJ
    have e2 := h2 (show l 2 = true by first | exact hd.1 rfl | exact hd.2.1 rfl | exact hd.2.2.1 rfl | exact hd.2.2.2.1 rfl | exact hd.2.2.2.2.1 rfl | exact hd.2.2.2.2.2.1 rfl)
    have e3 := h3 (show l 3 = true by first | exact hd.1 rfl | exact hd.2.1 rfl | exact hd.2.2.1 rfl | exact hd.2.2.2.1 rfl | exact hd.2.2.2.2.1 rfl | exact hd.2.2.2.2.2.1 rfl)
    have e12 := h12 (show l 12 = true by first | exact hd.1 rfl | exact hd.2.1 rfl | exact hd.2.2.1 rfl | exact hd.2.2.2.1 rfl | exact hd.2.2.2.2.1 rfl | exact hd.2.2.2.2.2.1 rfl)
    have L11 := Lib.hid (show l 11 = true by first | exact hd.1 rfl | exact hd.2.1 rfl | exact hd.2.2.1 rfl | exact hd.2.2.2.1 rfl | exact hd.2.2.2.2.1 rfl | exact hd.2.2.2.2.2.1 rfl)
    have e11 := (h11 L11.out).1
    refine Runs.of (b := ?bB13) ?eB13 ?_
    case eB13 => simp only [putV, Act.put, List.setIfInBounds_toArray, List.set_cons_zero, List.set_cons_succ, e2, e3, e12, e11]; rfl
    intro K' hK'
    go_simp
    exact hK'.go _ rfl ⟨na, nc, hB1, hB2, hX, hV, hT, hK, d16, fun _ => rfl, h0, h1, h2, h3, h4, h5, h6, h7, h8, h9, h10, h11, h12, fun _ => ⟨rfl, L11.out⟩, h14, h15, h16⟩
  · intro l x w' hJ hi hd
    obtain ⟨na, nc, hB1, hB2, hX, hV, hT, hK, d16, d13, h0, h1, h2, h3, h4, h5, h6, h7, h8, h9, h10, h11, h12, h13, h14, h15, h16⟩ := hJ
    have e0 := h0 (show l 0 = true by first | exact hd.1 rfl | exact hd.2.1 rfl | exact hd.2.2.1 rfl | exact hd.2.2.2.1 rfl | exact hd.2.2.2.2.1 rfl | exact hd.2.2.2.2.2.1 rfl)
    refine Runs.of (b := ?bB14) ?eB14 ?_
    case eB14 => simp only [putV, Act.put, List.setIfInBounds_toArray, List.set_cons_zero, List.set_cons_succ, e0]; rfl
    intro K' hK'
    go_simp
    exact hK'.go _ rfl ⟨na, nc, hB1, hB2, hX, hV, hT, hK, d16, d13, h0, h1, h2, h3, h4, h5, h6, h7, h8, h9, h10, h11, h12, h13, fun _ => rfl, h15, h16⟩
  · intro l x w' hJ hi hd
    obtain ⟨na, nc, hB1, hB2, hX, hV, hT, hK, d16, d13, h0, h1, h2, h3, h4, h5, h6, h7, h8, h9, h10, h11, h12, h13, h14, h15, h16⟩ := hJ
    have e14 := h14 (show l 14 = true by first | exact hd.1 rfl | exact hd.2.1 rfl | exact hd.2.2.1 rfl | exact hd.2.2.2.1 rfl | exact hd.2.2.2.2.1 rfl | exact hd.2.2.2.2.2.1 rfl)
    refine Runs.of (b := ?bB15) ?eB15 ?_
    case eB15 => simp only [putV, Act.put, List.setIfInBounds_toArray, List.set_cons_zero, List.set_cons_succ, e14]; rfl
    intro K' hK'
    go_simp
    exact hK'.go _ rfl ⟨na, nc, hB1, hB2, hX, hV, hT, hK, d16, d13, h0, h1, h2, h3, h4, h5, h6, h7, h8, h9, h10, h11, h12, h13, h14, fun _ => rfl, h16⟩
  · intro l x w' hJ hi hd
    obtain ⟨na, nc, hB1, hB2, hX, hV, hT, hK, d16, d13, h0, h1, h2, h3, h4, h5, h6, h7, h8, h9, h10, h11, h12, h13, h14, h15, h16⟩ := hJ
    have e15 := h15 (show l 15 = true by first | exact hd.1 rfl | exact hd.2.1 rfl | exact hd.2.2.1 rfl | exact hd.2.2.2.1 rfl | exact hd.2.2.2.2.1 rfl | exact hd.2.2.2.2.2.1 rfl)
    have L13 := Lib.hid (show l 13 = true by first | exact hd.1 rfl | exact hd.2.1 rfl | exact hd.2.2.1 rfl | exact hd.2.2.2.1 rfl | exact hd.2.2.2.2.1 rfl | exact hd.2.2.2.2.2.1 rfl)
    have e13 := (h13 L13.out).1
    have L11 := Lib.hid (h13 L13.out).2
    have L8 := Lib.hid (h11 L11.out).2.2
    have hB' := hB1 hi
    obtain ⟨b5, f5⟩ := ctc_5 hB'
    obtain ⟨b6, f6⟩ := ctc_6 hB'
    obtain ⟨b7, f7⟩ := ctc_7 hB'
    obtain ⟨b8, f8⟩ := ctc_8 hB'
    obtain ⟨b9, f9⟩ := ctc_9 hB'
    obtain ⟨b10, f10⟩ := ctc_10 hB'
    refine Runs.of (b := ?bB16) ?eB16 ?_
    case eB16 => simp only [putV, Act.put, List.setIfInBounds_toArray, List.set_cons_zero, List.set_cons_succ, e15, e13]; rfl
    intro K' hK'
    go_simp
    have k2 : Keep [c] w' _ := (((((((Keep.refl [c] w').setCell (p := ⟨c, 5, none⟩) (.inl (by simp)) (.int .i64 (t.top + 1))).setCell (p := ⟨c, 6, none⟩) (.inl (by simp)) (.int .i64 1)).setCell (p := ⟨c, 7, none⟩) (.inl (by simp)) (.slice ta to2.length tc2)).setCell (p := ⟨c, 8, none⟩) (.inl (by simp)) (.slice na (bothL t.mem to2 lost).length nc)).setCell (p := ⟨c, 9, none⟩) (.inl (by simp)) (.int .i64 lost)).setCell (p := ⟨c, 10, none⟩) (.inl (by simp)) (.slice none 0 0))
    have hQ : CtB _ c kb s g { t with top := t.top + 1, num := t.top + 1, phase := 1, dest := to2, nodes := bothL t.mem to2 lost, lost := lost, done := [] } (.slice ma t.mem.length mc) (.slice ta to2.length tc2) (.slice na (bothL t.mem to2 lost).length nc) (.slice none 0 0) := (((((Blk.set hB' 5 (.int .i64 (t.top + 1))).set 6 (.int .i64 1)).set 7 (.slice ta to2.length tc2)).set 8 (.slice na (bothL t.mem to2 lost).length nc)).set 9 (.int .i64 lost)).set 10 (.slice none 0 0)
    have htc : ∀ q ∈ [c], ¬ Ty w' q 3 := fun q hq ht => by simp at hq; subst hq; exact (Blk.ty hB').ne ht (by decide) rfl
    have hcx := HCX.out
    exact hK'.go undef rfl ⟨na, nc, fun h => Bool.noConfusion (show true = false from h), fun _ => hQ, hX.keep k2 (by simp; omega), hV.keep k2 (fun b hb hm => htc b hm (hV.ty b hb)), hT.keep k2 (fun b hb hm => htc b hm (hT.ty b hb)), hK.trans k2, fun _ => L8.out, fun _ => L13.out, h0, h1, h2, h3, h4, h5, h6, h7, h8, h9, h10, fun h => ⟨(h11 h).1, (h11 h).2.1.keep k2 (fun b hb hm => htc b hm ((h11 h).2.1.ty b hb)), (h11 h).2.2⟩, h12, h13, h14, h15, fun _ => trivial⟩
  · intro l x w3 hJ hl
    obtain ⟨na, nc, hB1, hB2, hX, hV, hT, hK, d16, d13, h0, h1, h2, h3, h4, h5, h6, h7, h8, h9, h10, h11, h12, h13, h14, h15, h16⟩ := hJ
    have hB := hB2 (hl 16 (by decide))
    have e11 := h11 (hl 11 (by decide))
    have hN := e11.2.1
    simp only [putV, Act.put, List.setIfInBounds_toArray, List.set_cons_zero, List.set_cons_succ]
    clear h0 h1 h2 h3 h4 h5 h6 h7 h8 h9 h10 h11 h12 h13 h14 h15 h16 hl e11 hB1 hB2 d16 d13 hB0 hX0 hV0 hT0 hX
    generalize x 0 = y0; generalize x 1 = y1; generalize x 2 = y2; generalize x 3 = y3; generalize x 4 = y4; generalize x 5 = y5; generalize x 6 = y6; generalize x 7 = y7; generalize x 8 = y8
    generalize x 9 = y9; generalize x 10 = y10; generalize x 11 = y11; generalize x 12 = y12; generalize x 13 = y13; generalize x 14 = y14; generalize x 15 = y15
    have htc : ∀ q ∈ [c], ¬ Ty w2 q 3 := HTC.out
    have hD3 := hD2.keep hK (by have := HCX.out; simp; omega) (by have := HCX.out; simp; omega) (by have := HCX.out; simp; omega) (fun q hq ht => HTU.out q hq ht)
    have K3 : Keep [d, sb, s, c] w w3 := K2.trans (hK.mono (fun q hq _ => by simp at hq ⊢; omega))
    have hR : CtR w3 ({ t with top := t.top + 1, num := t.top + 1, phase := 1, dest := to2, nodes := bothL t.mem to2 lost, lost := lost, done := [] } : Ct) (.slice ma t.mem.length mc) (.slice ta to2.length tc2) (.slice na (bothL t.mem to2 lost).length nc) (.slice none 0 0) w3.heap.size :=
      ⟨hV, hT, hN, Own.nil _ _ _, fun q hq => (hV.lt q hq).2, fun q hq => (hT.lt q hq).2, fun q hq => (hN.lt q hq).2, HLN.out.1, HLN.out.2, bothL_len _ _ _, by simp⟩
    have hmem0 := HPO.out.1
    have hdest0 := HPO.out.2
    clear htc hV hT hN hK hD2 K2
    obtain ⟨t3, ht3⟩ : ∃ t3 : Ct, t3 = ({ t with top := t.top + 1, num := t.top + 1, phase := 1, dest := to2, nodes := bothL t.mem to2 lost, lost := lost, done := [] } : Ct) := ⟨_, rfl⟩
    have HT3 := Lib.hid ht3
    rw [← ht3] at hB hR
    have e3 : t3.nodes = bothL t.mem to2 lost := by rw [ht3]
    have e4 : 0 < t3.mem.length := by rw [ht3]; exact hmem0
    have e5 : 0 < t3.dest.length := by rw [ht3]; exact hdest0
    have hnl := bothL_len t.mem to2 lost
    obtain ⟨NL, hNL⟩ : ∃ NL, NL = bothL t.mem to2 lost := ⟨_, rfl⟩
    rw [← hNL] at hB hR e3 hnl
    have cc := (ctc_8 hB).1
    have hnod := hR.nodes.irv
    rw [e3] at hnod
    have HE3 := Lib.hid e3
    have HNL := Lib.hid hNL
    clear e3 hNL ht3 hmem0 hdest0
    go_wp2_with fail
    refine (tell_any hB hR e4 e5 3 _ NL hnod (by omega)).mono ?_
    rintro e w4 ⟨v4, L4, rfl, hO4, hL4, k4⟩
    go_wp2_with fail
    go_ret2
    have hz := K3.size
    exact ⟨_, L4, _, _, rfl, hO4.mono hz, by rw [hL4, HT3.out, HNL.out], by rw [HT3.out, HNL.out] at hB; exact hB.keep k4 (by simp), by rw [HT3.out, HNL.out] at hR; exact hR.still k4, hD3.still k4, K3.trans (k4.mono (by simp))⟩
end Go.Proofs.Ytcoaobdijlppgaa
