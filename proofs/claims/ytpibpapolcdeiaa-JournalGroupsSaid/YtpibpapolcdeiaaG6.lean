/- Sl9, Sl10, Sl11, Sl12, Sl13, Sl14, Sl15, Sl16, Sl17 -/
import Derived.Test.YtpibpapolcdeiaaG5
import Derived.Lib.SliceRun
/- slog: a segment in memory; the functions that are handed on. -/
namespace Go.Proofs.Ytpibpapolcdeiaa
open Go.ChangeShapes Go.WideShapes Go.ChangeAt Go.RowKit
set_option linter.unusedVariables false
set_option linter.unusedSimpArgs false
set_option maxRecDepth 100000

/-- A segment. -/
structure Sg where
  p : Nat
  gen : Nat
  base : Nat
  run : Int
  vb : Value
  vr : Value
  recs : List Rc
def Sg.rs (s : Sg) : List Rcd := s.recs.map (·.r)
def Sg.F (s : Sg) : List Nat := s.p :: (s.vb.ownBlock.toList ++ rcF s.vr s.recs)
def sgPtr (s : Sg) : Value := .pointer (some ⟨s.p, 0, none⟩)
structure SgAt (w : World) (B : Nat) (s : Sg) : Prop where
  blk : Blk w s.p (sgC s.gen s.base s.run s.vb s.vr) 80
  buf : Buf w B 5 s.vb (encRs s.rs)
  recs : RRow w B s.vr s.recs
  new : B ≤ s.p
  nd : s.F.Nodup
theorem SgAt.keep {w w' : World} {B : Nat} {s : Sg} {S : List Nat} (h : SgAt w B s) (k : Keep S w w') (hS : ∀ q ∈ s.F, q ∉ S) : SgAt w' B s :=
  ⟨h.blk.keep k (hS _ (by simp [Sg.F])), h.buf.keep k (fun q hq => hS q (by simp [Sg.F, hq])), h.recs.keep k (fun q hq => hS q (by simp [Sg.F, hq])), h.new, h.nd⟩
theorem SgAt.still {w w' : World} {B : Nat} {s : Sg} (h : SgAt w B s) (k : Keep [] w w') : SgAt w' B s := h.keep k (by simp)
theorem SgAt.mono {w : World} {B B' : Nat} {s : Sg} (h : SgAt w B s) (hb : B' ≤ B) : SgAt w B' s := ⟨h.blk, h.buf.mono hb, h.recs.mono hb, Nat.le_trans hb h.new, h.nd⟩
theorem SgAt.lt {w : World} {B : Nat} {s : Sg} (h : SgAt w B s) : ∀ q ∈ s.F, B ≤ q ∧ q < w.heap.size := by
  intro q hq
  unfold Sg.F at hq
  rcases List.mem_cons.1 hq with rfl | hq
  · exact ⟨h.new, h.blk.lt⟩
  · rcases List.mem_append.1 hq with hq | hq
    · exact h.buf.lt q (Option.mem_toList.1 hq)
    · exact h.recs.lt q hq
theorem SgAt.ty {w : World} {B : Nat} {s : Sg} (h : SgAt w B s) : ∀ q ∈ s.F, Ty w q 80 ∨ Ty w q 57 ∨ Ty w q 5 := by
  intro q hq
  unfold Sg.F at hq
  rcases List.mem_cons.1 hq with rfl | hq
  · exact .inl h.blk.ty
  · rcases List.mem_append.1 hq with hq | hq
    · exact .inr (.inr (h.buf.ty' q (Option.mem_toList.1 hq)))
    · exact .inr (h.recs.ty q hq)
/-- The segments of a log. -/
structure SgRow (w : World) (B : Nat) (v : Value) (l : List Sg) : Prop where
  own : Own w B 76 v (l.map sgPtr)
  ok : ∀ s ∈ l, SgAt w B s
def sgF (l : List Sg) : List Nat := l.flatMap Sg.F
theorem SgRow.nil (w : World) (B : Nat) : SgRow w B (.slice none 0 0) [] := ⟨Own.nil _ _ _, by simp⟩
def cmpJ (w0 : World) (a b g h : Nat) (mx mn : Int) (l : Nat → Bool) (x : Nat → Value) (w' : World) : Prop :=
  (w'.cell? ⟨a, 0, none⟩ = some (.int .i64 (g : Int))) ∧
  (w'.cell? ⟨b, 0, none⟩ = some (.int .i64 (h : Int))) ∧
  (Keep [] w0 w') ∧
  (l 0 = true → x 0 = .pointer (some ⟨a, 0, none⟩)) ∧
  (l 1 = true → x 1 = .pointer (some ⟨a, 0, none⟩)) ∧
  (l 2 = true → x 2 = .pointer (some ⟨a, 0, none⟩)) ∧
  (l 3 = true → x 3 = .int .i64 (g : Int)) ∧
  (l 4 = true → x 4 = .pointer (some ⟨b, 0, none⟩)) ∧
  (l 5 = true → x 5 = .pointer (some ⟨b, 0, none⟩)) ∧
  (l 6 = true → x 6 = .pointer (some ⟨b, 0, none⟩)) ∧
  (l 7 = true → x 7 = .int .i64 (h : Int)) ∧
  (l 8 = true → x 8 = .int .i64 ((g : Int) - (h : Int))) ∧
  (l 9 = true → x 9 = .int .i64 mx) ∧
  (l 10 = true → x 10 = .int .i64 mn) ∧
  (l 11 = true → x 11 = .int .i64 mn)
def delJ (w0 : World) (a b c1 c2 g h segs : Nat) (bb : Bool) (l : Nat → Bool) (x : Nat → Value) (w' : World) : Prop :=
  (w'.cell? ⟨a, 0, none⟩ = some (.int .i64 (g : Int))) ∧
  (w'.cell? ⟨b, 0, none⟩ = some (.int .i64 (h : Int))) ∧
  (w'.cell? ⟨c1, 0, none⟩ = some (.pointer (some ⟨b, 0, none⟩))) ∧
  (w'.cell? ⟨c2, 0, none⟩ = some (.int .i64 (segs : Int))) ∧
  (Keep [] w0 w') ∧
  (l 0 = true → x 0 = .pointer (some ⟨a, 0, none⟩)) ∧
  (l 1 = true → x 1 = .pointer (some ⟨a, 0, none⟩)) ∧
  (l 2 = true → x 2 = .pointer (some ⟨a, 0, none⟩)) ∧
  (l 3 = true → x 3 = .int .i64 (g : Int)) ∧
  (l 4 = true → x 4 = .pointer (some ⟨b, 0, none⟩)) ∧
  (l 5 = true → x 5 = .pointer (some ⟨b, 0, none⟩)) ∧
  (l 6 = true → x 6 = .pointer (some ⟨b, 0, none⟩)) ∧
  (l 7 = true → x 7 = .int .i64 (h : Int)) ∧
  (l 8 = true → x 8 = .int .i64 (segs : Int)) ∧
  (l 9 = true → x 9 = .int .i64 ((h : Int) - (segs : Int))) ∧
  (l 10 = true → x 10 = .bool bb) ∧
  (l 11 = true → x 11 = .bool bb)
def delK (w0 : World) (a b c1 c2 lb g h segs : Nat) (bb : Bool) (l : Nat → Bool) (x : Nat → Value) (w' : World) : Prop :=
  (w'.cell? ⟨a, 0, none⟩ = some (.int .i64 (g : Int))) ∧
  (w'.cell? ⟨b, 0, none⟩ = some (.int .i64 (h : Int))) ∧
  (w'.cell? ⟨c1, 0, none⟩ = some (.pointer (some ⟨b, 0, none⟩))) ∧
  (w'.cell? ⟨c2, 0, none⟩ = some (.pointer (some ⟨lb, 0, none⟩))) ∧
  (w'.cell? ⟨lb, 2, none⟩ = some (.int .i64 (segs : Int))) ∧
  (Keep [] w0 w') ∧
  (l 0 = true → x 0 = .pointer (some ⟨a, 0, none⟩)) ∧
  (l 1 = true → x 1 = .pointer (some ⟨a, 0, none⟩)) ∧
  (l 2 = true → x 2 = .pointer (some ⟨a, 0, none⟩)) ∧
  (l 3 = true → x 3 = .int .i64 (g : Int)) ∧
  (l 4 = true → x 4 = .pointer (some ⟨b, 0, none⟩)) ∧
  (l 5 = true → x 5 = .pointer (some ⟨b, 0, none⟩)) ∧
  (l 6 = true → x 6 = .pointer (some ⟨b, 0, none⟩)) ∧
  (l 7 = true → x 7 = .int .i64 (h : Int)) ∧
  (l 8 = true → x 8 = .pointer (some ⟨lb, 0, none⟩)) ∧
  (l 9 = true → x 9 = .pointer (some ⟨lb, 0, none⟩)) ∧
  (l 10 = true → x 10 = .pointer (some ⟨lb, 2, none⟩)) ∧
  (l 11 = true → x 11 = .int .i64 (segs : Int)) ∧
  (l 12 = true → x 12 = .int .i64 ((h : Int) - (segs : Int))) ∧
  (l 13 = true → x 13 = .bool bb) ∧
  (l 14 = true → x 14 = .bool bb)
/-- The order of two segments. -/
theorem cmp_any {w : World} {a b : Nat} {g h : Nat} (ca0 : w.cell? ⟨a, 0, none⟩ = some (.int .i64 (g : Int))) (cb0 : w.cell? ⟨b, 0, none⟩ = some (.int .i64 (h : Int))) (hg : g < 281474976710656 ∧ h < 281474976710656) :
    Calls Try.prog 30 #[.pointer (some ⟨a, 0, none⟩), .pointer (some ⟨b, 0, none⟩)] w fun e w' => e = .returned (.int .i64 (if g < h then -1 else if h < g then 1 else 0)) ∧ Keep [] w w' := by
  have HW : Hid (IntKind.i64.wrap ((g : Int) - (h : Int)) = (g : Int) - (h : Int)) := Lib.hid (by rw [IntKind.wrap_i64]; omega)
  obtain ⟨mx, hmx⟩ : ∃ m : Int, m = if (g : Int) - (h : Int) < -1 then -1 else (g : Int) - (h : Int) := ⟨_, rfl⟩
  obtain ⟨mn, hmn⟩ : ∃ m : Int, m = if g < h then -1 else if h < g then 1 else 0 := ⟨_, rfl⟩
  have HMX := Lib.hid hmx.symm
  have HMN : Hid ((if (1 : Int) < mx then 1 else mx) = mn) := Lib.hid (by rw [hmn, hmx]; (repeat' split) <;> omega)
  rw [← hmn]
  clear hmx hmn hg
  go_enter Try.func30, Try.ntmps30
  go_upto_region 1 with fail
  refine wp_region_inv (cmpJ w a b g h mx mn) (by kernel_rfl) (by kernel_rfl) (by kernel_rfl) ?_ (Steps.cons 0 ?_ (Steps.cons 1 ?_ (Steps.cons 2 ?_ (Steps.cons 3 ?_ (Steps.cons 4 ?_ (Steps.cons 5 ?_ (Steps.cons 6 ?_ (Steps.cons 7 ?_ (Steps.cons 8 ?_ (Steps.cons 9 ?_ (Steps.cons 10 ?_ (Steps.cons 11 ?_ (Steps.nil 12))))))))))))) 12 rfl ?_
  · intro x
    exact ⟨ca0, cb0, (Keep.refl _ _).drew, fun h => absurd h (by decide), fun h => absurd h (by decide), fun h => absurd h (by decide), fun h => absurd h (by decide), fun h => absurd h (by decide), fun h => absurd h (by decide), fun h => absurd h (by decide), fun h => absurd h (by decide), fun h => absurd h (by decide), fun h => absurd h (by decide), fun h => absurd h (by decide), fun h => absurd h (by decide)⟩
  · intro l x w' hJ hi hd
    obtain ⟨ca1, cb1, hK, h0, h1, h2, h3, h4, h5, h6, h7, h8, h9, h10, h11⟩ := hJ
    refine Runs.of (b := ?bA0) ?eA0 ?_
    case eA0 => simp only [putV, Act.put, List.setIfInBounds_toArray, List.set_cons_zero, List.set_cons_succ]; rfl
    intro K' hK'
    go_simp
    exact hK'.go _ rfl ⟨ca1, cb1, hK, fun _ => rfl, h1, h2, h3, h4, h5, h6, h7, h8, h9, h10, h11⟩
  · intro l x w' hJ hi hd
    obtain ⟨ca1, cb1, hK, h0, h1, h2, h3, h4, h5, h6, h7, h8, h9, h10, h11⟩ := hJ
    have e0 := h0 (show l 0 = true by first | exact hd.1 rfl | exact hd.2.1 rfl | exact hd.2.2.1 rfl | exact hd.2.2.2.1 rfl | exact hd.2.2.2.2.1 rfl | exact hd.2.2.2.2.2.1 rfl)
    refine Runs.of (b := ?bA1) ?eA1 ?_
    case eA1 => simp only [putV, Act.put, List.setIfInBounds_toArray, List.set_cons_zero, List.set_cons_succ, e0]; rfl
    intro K' hK'
    go_simp
    exact hK'.go _ rfl ⟨ca1, cb1, hK, h0, fun _ => rfl, h2, h3, h4, h5, h6, h7, h8, h9, h10, h11⟩
  · intro l x w' hJ hi hd
    obtain ⟨ca1, cb1, hK, h0, h1, h2, h3, h4, h5, h6, h7, h8, h9, h10, h11⟩ := hJ
    have e1 := h1 (show l 1 = true by first | exact hd.1 rfl | exact hd.2.1 rfl | exact hd.2.2.1 rfl | exact hd.2.2.2.1 rfl | exact hd.2.2.2.2.1 rfl | exact hd.2.2.2.2.2.1 rfl)
    refine Runs.of (b := ?bA2) ?eA2 ?_
    case eA2 => simp only [putV, Act.put, List.setIfInBounds_toArray, List.set_cons_zero, List.set_cons_succ, e1]; rfl
    intro K' hK'
    go_simp
    exact hK'.go _ rfl ⟨ca1, cb1, hK, h0, h1, fun _ => rfl, h3, h4, h5, h6, h7, h8, h9, h10, h11⟩
  · intro l x w' hJ hi hd
    obtain ⟨ca1, cb1, hK, h0, h1, h2, h3, h4, h5, h6, h7, h8, h9, h10, h11⟩ := hJ
    have e2 := h2 (show l 2 = true by first | exact hd.1 rfl | exact hd.2.1 rfl | exact hd.2.2.1 rfl | exact hd.2.2.2.1 rfl | exact hd.2.2.2.2.1 rfl | exact hd.2.2.2.2.2.1 rfl)
    have c0 := ca1
    refine Runs.of (b := ?bA3) ?eA3 ?_
    case eA3 => simp only [putV, Act.put, List.setIfInBounds_toArray, List.set_cons_zero, List.set_cons_succ, e2]; rfl
    intro K' hK'
    go_simp
    exact hK'.go _ rfl ⟨ca1, cb1, hK, h0, h1, h2, fun _ => rfl, h4, h5, h6, h7, h8, h9, h10, h11⟩
  · intro l x w' hJ hi hd
    obtain ⟨ca1, cb1, hK, h0, h1, h2, h3, h4, h5, h6, h7, h8, h9, h10, h11⟩ := hJ
    refine Runs.of (b := ?bA4) ?eA4 ?_
    case eA4 => simp only [putV, Act.put, List.setIfInBounds_toArray, List.set_cons_zero, List.set_cons_succ]; rfl
    intro K' hK'
    go_simp
    exact hK'.go _ rfl ⟨ca1, cb1, hK, h0, h1, h2, h3, fun _ => rfl, h5, h6, h7, h8, h9, h10, h11⟩
  · intro l x w' hJ hi hd
    obtain ⟨ca1, cb1, hK, h0, h1, h2, h3, h4, h5, h6, h7, h8, h9, h10, h11⟩ := hJ
    have e4 := h4 (show l 4 = true by first | exact hd.1 rfl | exact hd.2.1 rfl | exact hd.2.2.1 rfl | exact hd.2.2.2.1 rfl | exact hd.2.2.2.2.1 rfl | exact hd.2.2.2.2.2.1 rfl)
    refine Runs.of (b := ?bA5) ?eA5 ?_
    case eA5 => simp only [putV, Act.put, List.setIfInBounds_toArray, List.set_cons_zero, List.set_cons_succ, e4]; rfl
    intro K' hK'
    go_simp
    exact hK'.go _ rfl ⟨ca1, cb1, hK, h0, h1, h2, h3, h4, fun _ => rfl, h6, h7, h8, h9, h10, h11⟩
  · intro l x w' hJ hi hd
    obtain ⟨ca1, cb1, hK, h0, h1, h2, h3, h4, h5, h6, h7, h8, h9, h10, h11⟩ := hJ
    have e5 := h5 (show l 5 = true by first | exact hd.1 rfl | exact hd.2.1 rfl | exact hd.2.2.1 rfl | exact hd.2.2.2.1 rfl | exact hd.2.2.2.2.1 rfl | exact hd.2.2.2.2.2.1 rfl)
    refine Runs.of (b := ?bA6) ?eA6 ?_
    case eA6 => simp only [putV, Act.put, List.setIfInBounds_toArray, List.set_cons_zero, List.set_cons_succ, e5]; rfl
    intro K' hK'
    go_simp
    exact hK'.go _ rfl ⟨ca1, cb1, hK, h0, h1, h2, h3, h4, h5, fun _ => rfl, h7, h8, h9, h10, h11⟩
  · intro l x w' hJ hi hd
    obtain ⟨ca1, cb1, hK, h0, h1, h2, h3, h4, h5, h6, h7, h8, h9, h10, h11⟩ := hJ
    have e6 := h6 (show l 6 = true by first | exact hd.1 rfl | exact hd.2.1 rfl | exact hd.2.2.1 rfl | exact hd.2.2.2.1 rfl | exact hd.2.2.2.2.1 rfl | exact hd.2.2.2.2.2.1 rfl)
    have c0 := cb1
    refine Runs.of (b := ?bA7) ?eA7 ?_
    case eA7 => simp only [putV, Act.put, List.setIfInBounds_toArray, List.set_cons_zero, List.set_cons_succ, e6]; rfl
    intro K' hK'
    go_simp
    exact hK'.go _ rfl ⟨ca1, cb1, hK, h0, h1, h2, h3, h4, h5, h6, fun _ => rfl, h8, h9, h10, h11⟩
  · intro l x w' hJ hi hd
    obtain ⟨ca1, cb1, hK, h0, h1, h2, h3, h4, h5, h6, h7, h8, h9, h10, h11⟩ := hJ
    have e3 := h3 (show l 3 = true by first | exact hd.1 rfl | exact hd.2.1 rfl | exact hd.2.2.1 rfl | exact hd.2.2.2.1 rfl | exact hd.2.2.2.2.1 rfl | exact hd.2.2.2.2.2.1 rfl)
    have e7 := h7 (show l 7 = true by first | exact hd.1 rfl | exact hd.2.1 rfl | exact hd.2.2.1 rfl | exact hd.2.2.2.1 rfl | exact hd.2.2.2.2.1 rfl | exact hd.2.2.2.2.2.1 rfl)
    refine Runs.of (b := ?bA8) ?eA8 ?_
    case eA8 => simp only [putV, Act.put, List.setIfInBounds_toArray, List.set_cons_zero, List.set_cons_succ, e3, e7]; rfl
    intro K' hK'
    go_simp
    exact hK'.go _ rfl ⟨ca1, cb1, hK, h0, h1, h2, h3, h4, h5, h6, h7, fun _ => (by first | rfl | exact congrArg (Value.int .i64) HW.out), h9, h10, h11⟩
  · intro l x w' hJ hi hd
    obtain ⟨ca1, cb1, hK, h0, h1, h2, h3, h4, h5, h6, h7, h8, h9, h10, h11⟩ := hJ
    have e8 := h8 (show l 8 = true by first | exact hd.1 rfl | exact hd.2.1 rfl | exact hd.2.2.1 rfl | exact hd.2.2.2.1 rfl | exact hd.2.2.2.2.1 rfl | exact hd.2.2.2.2.2.1 rfl)
    refine Runs.of (b := ?bA9) ?eA9 ?_
    case eA9 => simp only [putV, Act.put, List.setIfInBounds_toArray, List.set_cons_zero, List.set_cons_succ, e8]; rfl
    intro K' hK'
    go_simp
    exact hK'.go _ rfl ⟨ca1, cb1, hK, h0, h1, h2, h3, h4, h5, h6, h7, h8, fun _ => (by first | rfl | exact congrArg (Value.int .i64) HMX.out), h10, h11⟩
  · intro l x w' hJ hi hd
    obtain ⟨ca1, cb1, hK, h0, h1, h2, h3, h4, h5, h6, h7, h8, h9, h10, h11⟩ := hJ
    have e9 := h9 (show l 9 = true by first | exact hd.1 rfl | exact hd.2.1 rfl | exact hd.2.2.1 rfl | exact hd.2.2.2.1 rfl | exact hd.2.2.2.2.1 rfl | exact hd.2.2.2.2.2.1 rfl)
    refine Runs.of (b := ?bA10) ?eA10 ?_
    case eA10 => simp only [putV, Act.put, List.setIfInBounds_toArray, List.set_cons_zero, List.set_cons_succ, e9]; rfl
    intro K' hK'
    go_simp
    exact hK'.go _ rfl ⟨ca1, cb1, hK, h0, h1, h2, h3, h4, h5, h6, h7, h8, h9, fun _ => (by first | rfl | exact congrArg (Value.int .i64) HMN.out), h11⟩
  · intro l x w' hJ hi hd
    obtain ⟨ca1, cb1, hK, h0, h1, h2, h3, h4, h5, h6, h7, h8, h9, h10, h11⟩ := hJ
    have e10 := h10 (show l 10 = true by first | exact hd.1 rfl | exact hd.2.1 rfl | exact hd.2.2.1 rfl | exact hd.2.2.2.1 rfl | exact hd.2.2.2.2.1 rfl | exact hd.2.2.2.2.2.1 rfl)
    refine Runs.of (b := ?bA11) ?eA11 ?_
    case eA11 => simp only [putV, Act.put, List.setIfInBounds_toArray, List.set_cons_zero, List.set_cons_succ, e10]; rfl
    intro K' hK'
    go_simp
    exact hK'.go _ rfl ⟨ca1, cb1, hK, h0, h1, h2, h3, h4, h5, h6, h7, h8, h9, h10, fun _ => rfl⟩
  · intro l x w3 hJ hl
    obtain ⟨ca1, cb1, hK, h0, h1, h2, h3, h4, h5, h6, h7, h8, h9, h10, h11⟩ := hJ
    have e11 := h11 (hl 11 (by decide))
    simp only [putV, Act.put, List.setIfInBounds_toArray, List.set_cons_zero, List.set_cons_succ, e11]
    clear h0 h1 h2 h3 h4 h5 h6 h7 h8 h9 h10 h11 e11 ca1 cb1 hl
    go_wp2_with fail
    go_ret
    exact ⟨rfl, hK⟩
/-- Which segments an opening lets go. -/
theorem del_open {w : World} {a b c1 c2 g h segs : Nat} (ca0 : w.cell? ⟨a, 0, none⟩ = some (.int .i64 (g : Int))) (cb0 : w.cell? ⟨b, 0, none⟩ = some (.int .i64 (h : Int))) (cc0 : w.cell? ⟨c1, 0, none⟩ = some (.pointer (some ⟨b, 0, none⟩))) (cd0 : w.cell? ⟨c2, 0, none⟩ = some (.int .i64 (segs : Int))) (hg : g < 281474976710656 ∧ h < 281474976710656 ∧ segs ≤ 200) :
    Calls Try.prog 32 #[.pointer (some ⟨a, 0, none⟩), .pointer (some ⟨c1, 0, none⟩), .pointer (some ⟨c2, 0, none⟩)] w fun e w' => e = .returned (.bool (decide ((g : Int) ≤ (h : Int) - (segs : Int)))) ∧ Keep [] w w' := by
  have HW : Hid (IntKind.i64.wrap ((h : Int) - (segs : Int)) = (h : Int) - (segs : Int)) := Lib.hid (by rw [IntKind.wrap_i64]; omega)
  obtain ⟨bb, hbb⟩ : ∃ m : Bool, m = decide ((g : Int) ≤ (h : Int) - (segs : Int)) := ⟨_, rfl⟩
  have HB := Lib.hid hbb.symm
  rw [← hbb]
  clear hbb hg
  go_enter Try.func32, Try.ntmps32
  go_upto_region 1 with fail
  refine wp_region_inv (delJ w a b c1 c2 g h segs bb) (by kernel_rfl) (by kernel_rfl) (by kernel_rfl) ?_ (Steps.cons 0 ?_ (Steps.cons 1 ?_ (Steps.cons 2 ?_ (Steps.cons 3 ?_ (Steps.cons 4 ?_ (Steps.cons 5 ?_ (Steps.cons 6 ?_ (Steps.cons 7 ?_ (Steps.cons 8 ?_ (Steps.cons 9 ?_ (Steps.cons 10 ?_ (Steps.cons 11 ?_ (Steps.nil 12))))))))))))) 12 rfl ?_
  · intro x
    exact ⟨ca0, cb0, cc0, cd0, (Keep.refl _ _).drew, fun h => absurd h (by decide), fun h => absurd h (by decide), fun h => absurd h (by decide), fun h => absurd h (by decide), fun h => absurd h (by decide), fun h => absurd h (by decide), fun h => absurd h (by decide), fun h => absurd h (by decide), fun h => absurd h (by decide), fun h => absurd h (by decide), fun h => absurd h (by decide), fun h => absurd h (by decide)⟩
  · intro l x w' hJ hi hd
    obtain ⟨ca1, cb1, cc1, cd1, hK, h0, h1, h2, h3, h4, h5, h6, h7, h8, h9, h10, h11⟩ := hJ
    refine Runs.of (b := ?bB0) ?eB0 ?_
    case eB0 => simp only [putV, Act.put, List.setIfInBounds_toArray, List.set_cons_zero, List.set_cons_succ]; rfl
    intro K' hK'
    go_simp
    exact hK'.go _ rfl ⟨ca1, cb1, cc1, cd1, hK, fun _ => rfl, h1, h2, h3, h4, h5, h6, h7, h8, h9, h10, h11⟩
  · intro l x w' hJ hi hd
    obtain ⟨ca1, cb1, cc1, cd1, hK, h0, h1, h2, h3, h4, h5, h6, h7, h8, h9, h10, h11⟩ := hJ
    have e0 := h0 (show l 0 = true by first | exact hd.1 rfl | exact hd.2.1 rfl | exact hd.2.2.1 rfl | exact hd.2.2.2.1 rfl | exact hd.2.2.2.2.1 rfl | exact hd.2.2.2.2.2.1 rfl)
    refine Runs.of (b := ?bB1) ?eB1 ?_
    case eB1 => simp only [putV, Act.put, List.setIfInBounds_toArray, List.set_cons_zero, List.set_cons_succ, e0]; rfl
    intro K' hK'
    go_simp
    exact hK'.go _ rfl ⟨ca1, cb1, cc1, cd1, hK, h0, fun _ => rfl, h2, h3, h4, h5, h6, h7, h8, h9, h10, h11⟩
  · intro l x w' hJ hi hd
    obtain ⟨ca1, cb1, cc1, cd1, hK, h0, h1, h2, h3, h4, h5, h6, h7, h8, h9, h10, h11⟩ := hJ
    have e1 := h1 (show l 1 = true by first | exact hd.1 rfl | exact hd.2.1 rfl | exact hd.2.2.1 rfl | exact hd.2.2.2.1 rfl | exact hd.2.2.2.2.1 rfl | exact hd.2.2.2.2.2.1 rfl)
    refine Runs.of (b := ?bB2) ?eB2 ?_
    case eB2 => simp only [putV, Act.put, List.setIfInBounds_toArray, List.set_cons_zero, List.set_cons_succ, e1]; rfl
    intro K' hK'
    go_simp
    exact hK'.go _ rfl ⟨ca1, cb1, cc1, cd1, hK, h0, h1, fun _ => rfl, h3, h4, h5, h6, h7, h8, h9, h10, h11⟩
  · intro l x w' hJ hi hd
    obtain ⟨ca1, cb1, cc1, cd1, hK, h0, h1, h2, h3, h4, h5, h6, h7, h8, h9, h10, h11⟩ := hJ
    have e2 := h2 (show l 2 = true by first | exact hd.1 rfl | exact hd.2.1 rfl | exact hd.2.2.1 rfl | exact hd.2.2.2.1 rfl | exact hd.2.2.2.2.1 rfl | exact hd.2.2.2.2.2.1 rfl)
    have c0 := ca1
    refine Runs.of (b := ?bB3) ?eB3 ?_
    case eB3 => simp only [putV, Act.put, List.setIfInBounds_toArray, List.set_cons_zero, List.set_cons_succ, e2]; rfl
    intro K' hK'
    go_simp
    exact hK'.go _ rfl ⟨ca1, cb1, cc1, cd1, hK, h0, h1, h2, fun _ => rfl, h4, h5, h6, h7, h8, h9, h10, h11⟩
  · intro l x w' hJ hi hd
    obtain ⟨ca1, cb1, cc1, cd1, hK, h0, h1, h2, h3, h4, h5, h6, h7, h8, h9, h10, h11⟩ := hJ
    have c0 := cc1
    refine Runs.of (b := ?bB4) ?eB4 ?_
    case eB4 => simp only [putV, Act.put, List.setIfInBounds_toArray, List.set_cons_zero, List.set_cons_succ]; rfl
    intro K' hK'
    go_simp
    exact hK'.go _ rfl ⟨ca1, cb1, cc1, cd1, hK, h0, h1, h2, h3, fun _ => rfl, h5, h6, h7, h8, h9, h10, h11⟩
  · intro l x w' hJ hi hd
    obtain ⟨ca1, cb1, cc1, cd1, hK, h0, h1, h2, h3, h4, h5, h6, h7, h8, h9, h10, h11⟩ := hJ
    have e4 := h4 (show l 4 = true by first | exact hd.1 rfl | exact hd.2.1 rfl | exact hd.2.2.1 rfl | exact hd.2.2.2.1 rfl | exact hd.2.2.2.2.1 rfl | exact hd.2.2.2.2.2.1 rfl)
    refine Runs.of (b := ?bB5) ?eB5 ?_
    case eB5 => simp only [putV, Act.put, List.setIfInBounds_toArray, List.set_cons_zero, List.set_cons_succ, e4]; rfl
    intro K' hK'
    go_simp
    exact hK'.go _ rfl ⟨ca1, cb1, cc1, cd1, hK, h0, h1, h2, h3, h4, fun _ => rfl, h6, h7, h8, h9, h10, h11⟩
  · intro l x w' hJ hi hd
    obtain ⟨ca1, cb1, cc1, cd1, hK, h0, h1, h2, h3, h4, h5, h6, h7, h8, h9, h10, h11⟩ := hJ
    have e5 := h5 (show l 5 = true by first | exact hd.1 rfl | exact hd.2.1 rfl | exact hd.2.2.1 rfl | exact hd.2.2.2.1 rfl | exact hd.2.2.2.2.1 rfl | exact hd.2.2.2.2.2.1 rfl)
    refine Runs.of (b := ?bB6) ?eB6 ?_
    case eB6 => simp only [putV, Act.put, List.setIfInBounds_toArray, List.set_cons_zero, List.set_cons_succ, e5]; rfl
    intro K' hK'
    go_simp
    exact hK'.go _ rfl ⟨ca1, cb1, cc1, cd1, hK, h0, h1, h2, h3, h4, h5, fun _ => rfl, h7, h8, h9, h10, h11⟩
  · intro l x w' hJ hi hd
    obtain ⟨ca1, cb1, cc1, cd1, hK, h0, h1, h2, h3, h4, h5, h6, h7, h8, h9, h10, h11⟩ := hJ
    have e6 := h6 (show l 6 = true by first | exact hd.1 rfl | exact hd.2.1 rfl | exact hd.2.2.1 rfl | exact hd.2.2.2.1 rfl | exact hd.2.2.2.2.1 rfl | exact hd.2.2.2.2.2.1 rfl)
    have c0 := cb1
    refine Runs.of (b := ?bB7) ?eB7 ?_
    case eB7 => simp only [putV, Act.put, List.setIfInBounds_toArray, List.set_cons_zero, List.set_cons_succ, e6]; rfl
    intro K' hK'
    go_simp
    exact hK'.go _ rfl ⟨ca1, cb1, cc1, cd1, hK, h0, h1, h2, h3, h4, h5, h6, fun _ => rfl, h8, h9, h10, h11⟩
  · intro l x w' hJ hi hd
    obtain ⟨ca1, cb1, cc1, cd1, hK, h0, h1, h2, h3, h4, h5, h6, h7, h8, h9, h10, h11⟩ := hJ
    have c0 := cd1
    refine Runs.of (b := ?bB8) ?eB8 ?_
    case eB8 => simp only [putV, Act.put, List.setIfInBounds_toArray, List.set_cons_zero, List.set_cons_succ]; rfl
    intro K' hK'
    go_simp
    exact hK'.go _ rfl ⟨ca1, cb1, cc1, cd1, hK, h0, h1, h2, h3, h4, h5, h6, h7, fun _ => rfl, h9, h10, h11⟩
  · intro l x w' hJ hi hd
    obtain ⟨ca1, cb1, cc1, cd1, hK, h0, h1, h2, h3, h4, h5, h6, h7, h8, h9, h10, h11⟩ := hJ
    have e7 := h7 (show l 7 = true by first | exact hd.1 rfl | exact hd.2.1 rfl | exact hd.2.2.1 rfl | exact hd.2.2.2.1 rfl | exact hd.2.2.2.2.1 rfl | exact hd.2.2.2.2.2.1 rfl)
    have e8 := h8 (show l 8 = true by first | exact hd.1 rfl | exact hd.2.1 rfl | exact hd.2.2.1 rfl | exact hd.2.2.2.1 rfl | exact hd.2.2.2.2.1 rfl | exact hd.2.2.2.2.2.1 rfl)
    refine Runs.of (b := ?bB9) ?eB9 ?_
    case eB9 => simp only [putV, Act.put, List.setIfInBounds_toArray, List.set_cons_zero, List.set_cons_succ, e7, e8]; rfl
    intro K' hK'
    go_simp
    exact hK'.go _ rfl ⟨ca1, cb1, cc1, cd1, hK, h0, h1, h2, h3, h4, h5, h6, h7, h8, fun _ => (by first | rfl | exact congrArg (Value.int .i64) HW.out), h10, h11⟩
  · intro l x w' hJ hi hd
    obtain ⟨ca1, cb1, cc1, cd1, hK, h0, h1, h2, h3, h4, h5, h6, h7, h8, h9, h10, h11⟩ := hJ
    have e3 := h3 (show l 3 = true by first | exact hd.1 rfl | exact hd.2.1 rfl | exact hd.2.2.1 rfl | exact hd.2.2.2.1 rfl | exact hd.2.2.2.2.1 rfl | exact hd.2.2.2.2.2.1 rfl)
    have e9 := h9 (show l 9 = true by first | exact hd.1 rfl | exact hd.2.1 rfl | exact hd.2.2.1 rfl | exact hd.2.2.2.1 rfl | exact hd.2.2.2.2.1 rfl | exact hd.2.2.2.2.2.1 rfl)
    refine Runs.of (b := ?bB10) ?eB10 ?_
    case eB10 => simp only [putV, Act.put, List.setIfInBounds_toArray, List.set_cons_zero, List.set_cons_succ, e3, e9]; rfl
    intro K' hK'
    go_simp
    exact hK'.go _ rfl ⟨ca1, cb1, cc1, cd1, hK, h0, h1, h2, h3, h4, h5, h6, h7, h8, h9, fun _ => (by first | rfl | exact congrArg Value.bool HB.out), h11⟩
  · intro l x w' hJ hi hd
    obtain ⟨ca1, cb1, cc1, cd1, hK, h0, h1, h2, h3, h4, h5, h6, h7, h8, h9, h10, h11⟩ := hJ
    have e10 := h10 (show l 10 = true by first | exact hd.1 rfl | exact hd.2.1 rfl | exact hd.2.2.1 rfl | exact hd.2.2.2.1 rfl | exact hd.2.2.2.2.1 rfl | exact hd.2.2.2.2.2.1 rfl)
    refine Runs.of (b := ?bB11) ?eB11 ?_
    case eB11 => simp only [putV, Act.put, List.setIfInBounds_toArray, List.set_cons_zero, List.set_cons_succ, e10]; rfl
    intro K' hK'
    go_simp
    exact hK'.go _ rfl ⟨ca1, cb1, cc1, cd1, hK, h0, h1, h2, h3, h4, h5, h6, h7, h8, h9, h10, fun _ => rfl⟩
  · intro l x w3 hJ hl
    obtain ⟨ca1, cb1, cc1, cd1, hK, h0, h1, h2, h3, h4, h5, h6, h7, h8, h9, h10, h11⟩ := hJ
    have e11 := h11 (hl 11 (by decide))
    simp only [putV, Act.put, List.setIfInBounds_toArray, List.set_cons_zero, List.set_cons_succ, e11]
    clear h0 h1 h2 h3 h4 h5 h6 h7 h8 h9 h10 h11 e11 ca1 cb1 cc1 cd1 hl
    go_wp2_with fail
    go_ret
    exact ⟨rfl, hK⟩
/-- Which segments a beginning one lets go. -/
theorem del_begin {w : World} {a b c1 c2 lb g h segs : Nat} (ca0 : w.cell? ⟨a, 0, none⟩ = some (.int .i64 (g : Int))) (cb0 : w.cell? ⟨b, 0, none⟩ = some (.int .i64 (h : Int))) (cc0 : w.cell? ⟨c1, 0, none⟩ = some (.pointer (some ⟨b, 0, none⟩))) (cd0 : w.cell? ⟨c2, 0, none⟩ = some (.pointer (some ⟨lb, 0, none⟩))) (ce0 : w.cell? ⟨lb, 2, none⟩ = some (.int .i64 (segs : Int))) (hg : g < 281474976710656 ∧ h < 281474976710656 ∧ segs ≤ 200) :
    Calls Try.prog 48 #[.pointer (some ⟨a, 0, none⟩), .pointer (some ⟨c1, 0, none⟩), .pointer (some ⟨c2, 0, none⟩)] w fun e w' => e = .returned (.bool (decide ((g : Int) ≤ (h : Int) - (segs : Int)))) ∧ Keep [] w w' := by
  have HW : Hid (IntKind.i64.wrap ((h : Int) - (segs : Int)) = (h : Int) - (segs : Int)) := Lib.hid (by rw [IntKind.wrap_i64]; omega)
  obtain ⟨bb, hbb⟩ : ∃ m : Bool, m = decide ((g : Int) ≤ (h : Int) - (segs : Int)) := ⟨_, rfl⟩
  have HB := Lib.hid hbb.symm
  rw [← hbb]
  clear hbb hg
  go_enter Try.func48, Try.ntmps48
  go_upto_region 1 with fail
  refine wp_region_inv (delK w a b c1 c2 lb g h segs bb) (by kernel_rfl) (by kernel_rfl) (by kernel_rfl) ?_ (Steps.cons 0 ?_ (Steps.cons 1 ?_ (Steps.cons 2 ?_ (Steps.cons 3 ?_ (Steps.cons 4 ?_ (Steps.cons 5 ?_ (Steps.cons 6 ?_ (Steps.cons 7 ?_ (Steps.cons 8 ?_ (Steps.cons 9 ?_ (Steps.cons 10 ?_ (Steps.cons 11 ?_ (Steps.cons 12 ?_ (Steps.cons 13 ?_ (Steps.cons 14 ?_ (Steps.nil 15)))))))))))))))) 15 rfl ?_
  · intro x
    exact ⟨ca0, cb0, cc0, cd0, ce0, (Keep.refl _ _).drew, fun h => absurd h (by decide), fun h => absurd h (by decide), fun h => absurd h (by decide), fun h => absurd h (by decide), fun h => absurd h (by decide), fun h => absurd h (by decide), fun h => absurd h (by decide), fun h => absurd h (by decide), fun h => absurd h (by decide), fun h => absurd h (by decide), fun h => absurd h (by decide), fun h => absurd h (by decide), fun h => absurd h (by decide), fun h => absurd h (by decide), fun h => absurd h (by decide)⟩
  · intro l x w' hJ hi hd
    obtain ⟨ca1, cb1, cc1, cd1, ce1, hK, h0, h1, h2, h3, h4, h5, h6, h7, h8, h9, h10, h11, h12, h13, h14⟩ := hJ
    refine Runs.of (b := ?bC0) ?eC0 ?_
    case eC0 => simp only [putV, Act.put, List.setIfInBounds_toArray, List.set_cons_zero, List.set_cons_succ]; rfl
    intro K' hK'
    go_simp
    exact hK'.go _ rfl ⟨ca1, cb1, cc1, cd1, ce1, hK, fun _ => rfl, h1, h2, h3, h4, h5, h6, h7, h8, h9, h10, h11, h12, h13, h14⟩
  · intro l x w' hJ hi hd
    obtain ⟨ca1, cb1, cc1, cd1, ce1, hK, h0, h1, h2, h3, h4, h5, h6, h7, h8, h9, h10, h11, h12, h13, h14⟩ := hJ
    have e0 := h0 (show l 0 = true by first | exact hd.1 rfl | exact hd.2.1 rfl | exact hd.2.2.1 rfl | exact hd.2.2.2.1 rfl | exact hd.2.2.2.2.1 rfl | exact hd.2.2.2.2.2.1 rfl)
    refine Runs.of (b := ?bC1) ?eC1 ?_
    case eC1 => simp only [putV, Act.put, List.setIfInBounds_toArray, List.set_cons_zero, List.set_cons_succ, e0]; rfl
    intro K' hK'
    go_simp
    exact hK'.go _ rfl ⟨ca1, cb1, cc1, cd1, ce1, hK, h0, fun _ => rfl, h2, h3, h4, h5, h6, h7, h8, h9, h10, h11, h12, h13, h14⟩
  · intro l x w' hJ hi hd
    obtain ⟨ca1, cb1, cc1, cd1, ce1, hK, h0, h1, h2, h3, h4, h5, h6, h7, h8, h9, h10, h11, h12, h13, h14⟩ := hJ
    have e1 := h1 (show l 1 = true by first | exact hd.1 rfl | exact hd.2.1 rfl | exact hd.2.2.1 rfl | exact hd.2.2.2.1 rfl | exact hd.2.2.2.2.1 rfl | exact hd.2.2.2.2.2.1 rfl)
    refine Runs.of (b := ?bC2) ?eC2 ?_
    case eC2 => simp only [putV, Act.put, List.setIfInBounds_toArray, List.set_cons_zero, List.set_cons_succ, e1]; rfl
    intro K' hK'
    go_simp
    exact hK'.go _ rfl ⟨ca1, cb1, cc1, cd1, ce1, hK, h0, h1, fun _ => rfl, h3, h4, h5, h6, h7, h8, h9, h10, h11, h12, h13, h14⟩
  · intro l x w' hJ hi hd
    obtain ⟨ca1, cb1, cc1, cd1, ce1, hK, h0, h1, h2, h3, h4, h5, h6, h7, h8, h9, h10, h11, h12, h13, h14⟩ := hJ
    have e2 := h2 (show l 2 = true by first | exact hd.1 rfl | exact hd.2.1 rfl | exact hd.2.2.1 rfl | exact hd.2.2.2.1 rfl | exact hd.2.2.2.2.1 rfl | exact hd.2.2.2.2.2.1 rfl)
    have c0 := ca1
    refine Runs.of (b := ?bC3) ?eC3 ?_
    case eC3 => simp only [putV, Act.put, List.setIfInBounds_toArray, List.set_cons_zero, List.set_cons_succ, e2]; rfl
    intro K' hK'
    go_simp
    exact hK'.go _ rfl ⟨ca1, cb1, cc1, cd1, ce1, hK, h0, h1, h2, fun _ => rfl, h4, h5, h6, h7, h8, h9, h10, h11, h12, h13, h14⟩
  · intro l x w' hJ hi hd
    obtain ⟨ca1, cb1, cc1, cd1, ce1, hK, h0, h1, h2, h3, h4, h5, h6, h7, h8, h9, h10, h11, h12, h13, h14⟩ := hJ
    have c0 := cc1
    refine Runs.of (b := ?bC4) ?eC4 ?_
    case eC4 => simp only [putV, Act.put, List.setIfInBounds_toArray, List.set_cons_zero, List.set_cons_succ]; rfl
    intro K' hK'
    go_simp
    exact hK'.go _ rfl ⟨ca1, cb1, cc1, cd1, ce1, hK, h0, h1, h2, h3, fun _ => rfl, h5, h6, h7, h8, h9, h10, h11, h12, h13, h14⟩
  · intro l x w' hJ hi hd
    obtain ⟨ca1, cb1, cc1, cd1, ce1, hK, h0, h1, h2, h3, h4, h5, h6, h7, h8, h9, h10, h11, h12, h13, h14⟩ := hJ
    have e4 := h4 (show l 4 = true by first | exact hd.1 rfl | exact hd.2.1 rfl | exact hd.2.2.1 rfl | exact hd.2.2.2.1 rfl | exact hd.2.2.2.2.1 rfl | exact hd.2.2.2.2.2.1 rfl)
    refine Runs.of (b := ?bC5) ?eC5 ?_
    case eC5 => simp only [putV, Act.put, List.setIfInBounds_toArray, List.set_cons_zero, List.set_cons_succ, e4]; rfl
    intro K' hK'
    go_simp
    exact hK'.go _ rfl ⟨ca1, cb1, cc1, cd1, ce1, hK, h0, h1, h2, h3, h4, fun _ => rfl, h6, h7, h8, h9, h10, h11, h12, h13, h14⟩
  · intro l x w' hJ hi hd
    obtain ⟨ca1, cb1, cc1, cd1, ce1, hK, h0, h1, h2, h3, h4, h5, h6, h7, h8, h9, h10, h11, h12, h13, h14⟩ := hJ
    have e5 := h5 (show l 5 = true by first | exact hd.1 rfl | exact hd.2.1 rfl | exact hd.2.2.1 rfl | exact hd.2.2.2.1 rfl | exact hd.2.2.2.2.1 rfl | exact hd.2.2.2.2.2.1 rfl)
    refine Runs.of (b := ?bC6) ?eC6 ?_
    case eC6 => simp only [putV, Act.put, List.setIfInBounds_toArray, List.set_cons_zero, List.set_cons_succ, e5]; rfl
    intro K' hK'
    go_simp
    exact hK'.go _ rfl ⟨ca1, cb1, cc1, cd1, ce1, hK, h0, h1, h2, h3, h4, h5, fun _ => rfl, h7, h8, h9, h10, h11, h12, h13, h14⟩
  · intro l x w' hJ hi hd
    obtain ⟨ca1, cb1, cc1, cd1, ce1, hK, h0, h1, h2, h3, h4, h5, h6, h7, h8, h9, h10, h11, h12, h13, h14⟩ := hJ
    have e6 := h6 (show l 6 = true by first | exact hd.1 rfl | exact hd.2.1 rfl | exact hd.2.2.1 rfl | exact hd.2.2.2.1 rfl | exact hd.2.2.2.2.1 rfl | exact hd.2.2.2.2.2.1 rfl)
    have c0 := cb1
    refine Runs.of (b := ?bC7) ?eC7 ?_
    case eC7 => simp only [putV, Act.put, List.setIfInBounds_toArray, List.set_cons_zero, List.set_cons_succ, e6]; rfl
    intro K' hK'
    go_simp
    exact hK'.go _ rfl ⟨ca1, cb1, cc1, cd1, ce1, hK, h0, h1, h2, h3, h4, h5, h6, fun _ => rfl, h8, h9, h10, h11, h12, h13, h14⟩
  · intro l x w' hJ hi hd
    obtain ⟨ca1, cb1, cc1, cd1, ce1, hK, h0, h1, h2, h3, h4, h5, h6, h7, h8, h9, h10, h11, h12, h13, h14⟩ := hJ
    have c0 := cd1
    refine Runs.of (b := ?bC8) ?eC8 ?_
    case eC8 => simp only [putV, Act.put, List.setIfInBounds_toArray, List.set_cons_zero, List.set_cons_succ]; rfl
    intro K' hK'
    go_simp
    exact hK'.go _ rfl ⟨ca1, cb1, cc1, cd1, ce1, hK, h0, h1, h2, h3, h4, h5, h6, h7, fun _ => rfl, h9, h10, h11, h12, h13, h14⟩
  · intro l x w' hJ hi hd
    obtain ⟨ca1, cb1, cc1, cd1, ce1, hK, h0, h1, h2, h3, h4, h5, h6, h7, h8, h9, h10, h11, h12, h13, h14⟩ := hJ
    have e8 := h8 (show l 8 = true by first | exact hd.1 rfl | exact hd.2.1 rfl | exact hd.2.2.1 rfl | exact hd.2.2.2.1 rfl | exact hd.2.2.2.2.1 rfl | exact hd.2.2.2.2.2.1 rfl)
    refine Runs.of (b := ?bC9) ?eC9 ?_
    case eC9 => simp only [putV, Act.put, List.setIfInBounds_toArray, List.set_cons_zero, List.set_cons_succ, e8]; rfl
    intro K' hK'
    go_simp
    exact hK'.go _ rfl ⟨ca1, cb1, cc1, cd1, ce1, hK, h0, h1, h2, h3, h4, h5, h6, h7, h8, fun _ => rfl, h10, h11, h12, h13, h14⟩
  · intro l x w' hJ hi hd
    obtain ⟨ca1, cb1, cc1, cd1, ce1, hK, h0, h1, h2, h3, h4, h5, h6, h7, h8, h9, h10, h11, h12, h13, h14⟩ := hJ
    have e9 := h9 (show l 9 = true by first | exact hd.1 rfl | exact hd.2.1 rfl | exact hd.2.2.1 rfl | exact hd.2.2.2.1 rfl | exact hd.2.2.2.2.1 rfl | exact hd.2.2.2.2.2.1 rfl)
    refine Runs.of (b := ?bC10) ?eC10 ?_
    case eC10 => simp only [putV, Act.put, List.setIfInBounds_toArray, List.set_cons_zero, List.set_cons_succ, e9]; rfl
    intro K' hK'
    go_simp
    exact hK'.go _ rfl ⟨ca1, cb1, cc1, cd1, ce1, hK, h0, h1, h2, h3, h4, h5, h6, h7, h8, h9, fun _ => rfl, h11, h12, h13, h14⟩
  · intro l x w' hJ hi hd
    obtain ⟨ca1, cb1, cc1, cd1, ce1, hK, h0, h1, h2, h3, h4, h5, h6, h7, h8, h9, h10, h11, h12, h13, h14⟩ := hJ
    have e10 := h10 (show l 10 = true by first | exact hd.1 rfl | exact hd.2.1 rfl | exact hd.2.2.1 rfl | exact hd.2.2.2.1 rfl | exact hd.2.2.2.2.1 rfl | exact hd.2.2.2.2.2.1 rfl)
    have c0 := ce1
    refine Runs.of (b := ?bC11) ?eC11 ?_
    case eC11 => simp only [putV, Act.put, List.setIfInBounds_toArray, List.set_cons_zero, List.set_cons_succ, e10]; rfl
    intro K' hK'
    go_simp
    exact hK'.go _ rfl ⟨ca1, cb1, cc1, cd1, ce1, hK, h0, h1, h2, h3, h4, h5, h6, h7, h8, h9, h10, fun _ => rfl, h12, h13, h14⟩
  · intro l x w' hJ hi hd
    obtain ⟨ca1, cb1, cc1, cd1, ce1, hK, h0, h1, h2, h3, h4, h5, h6, h7, h8, h9, h10, h11, h12, h13, h14⟩ := hJ
    have e7 := h7 (show l 7 = true by first | exact hd.1 rfl | exact hd.2.1 rfl | exact hd.2.2.1 rfl | exact hd.2.2.2.1 rfl | exact hd.2.2.2.2.1 rfl | exact hd.2.2.2.2.2.1 rfl)
    have e11 := h11 (show l 11 = true by first | exact hd.1 rfl | exact hd.2.1 rfl | exact hd.2.2.1 rfl | exact hd.2.2.2.1 rfl | exact hd.2.2.2.2.1 rfl | exact hd.2.2.2.2.2.1 rfl)
    refine Runs.of (b := ?bC12) ?eC12 ?_
    case eC12 => simp only [putV, Act.put, List.setIfInBounds_toArray, List.set_cons_zero, List.set_cons_succ, e7, e11]; rfl
    intro K' hK'
    go_simp
    exact hK'.go _ rfl ⟨ca1, cb1, cc1, cd1, ce1, hK, h0, h1, h2, h3, h4, h5, h6, h7, h8, h9, h10, h11, fun _ => (by first | rfl | exact congrArg (Value.int .i64) HW.out), h13, h14⟩
  · intro l x w' hJ hi hd
    obtain ⟨ca1, cb1, cc1, cd1, ce1, hK, h0, h1, h2, h3, h4, h5, h6, h7, h8, h9, h10, h11, h12, h13, h14⟩ := hJ
    have e3 := h3 (show l 3 = true by first | exact hd.1 rfl | exact hd.2.1 rfl | exact hd.2.2.1 rfl | exact hd.2.2.2.1 rfl | exact hd.2.2.2.2.1 rfl | exact hd.2.2.2.2.2.1 rfl)
    have e12 := h12 (show l 12 = true by first | exact hd.1 rfl | exact hd.2.1 rfl | exact hd.2.2.1 rfl | exact hd.2.2.2.1 rfl | exact hd.2.2.2.2.1 rfl | exact hd.2.2.2.2.2.1 rfl)
    refine Runs.of (b := ?bC13) ?eC13 ?_
    case eC13 => simp only [putV, Act.put, List.setIfInBounds_toArray, List.set_cons_zero, List.set_cons_succ, e3, e12]; rfl
    intro K' hK'
    go_simp
    exact hK'.go _ rfl ⟨ca1, cb1, cc1, cd1, ce1, hK, h0, h1, h2, h3, h4, h5, h6, h7, h8, h9, h10, h11, h12, fun _ => (by first | rfl | exact congrArg Value.bool HB.out), h14⟩
  · intro l x w' hJ hi hd
    obtain ⟨ca1, cb1, cc1, cd1, ce1, hK, h0, h1, h2, h3, h4, h5, h6, h7, h8, h9, h10, h11, h12, h13, h14⟩ := hJ
    have e13 := h13 (show l 13 = true by first | exact hd.1 rfl | exact hd.2.1 rfl | exact hd.2.2.1 rfl | exact hd.2.2.2.1 rfl | exact hd.2.2.2.2.1 rfl | exact hd.2.2.2.2.2.1 rfl)
    refine Runs.of (b := ?bC14) ?eC14 ?_
    case eC14 => simp only [putV, Act.put, List.setIfInBounds_toArray, List.set_cons_zero, List.set_cons_succ, e13]; rfl
    intro K' hK'
    go_simp
    exact hK'.go _ rfl ⟨ca1, cb1, cc1, cd1, ce1, hK, h0, h1, h2, h3, h4, h5, h6, h7, h8, h9, h10, h11, h12, h13, fun _ => rfl⟩
  · intro l x w3 hJ hl
    obtain ⟨ca1, cb1, cc1, cd1, ce1, hK, h0, h1, h2, h3, h4, h5, h6, h7, h8, h9, h10, h11, h12, h13, h14⟩ := hJ
    have e14 := h14 (hl 14 (by decide))
    simp only [putV, Act.put, List.setIfInBounds_toArray, List.set_cons_zero, List.set_cons_succ, e14]
    clear h0 h1 h2 h3 h4 h5 h6 h7 h8 h9 h10 h11 h12 h13 h14 e14 ca1 cb1 cc1 cd1 ce1 hl
    go_wp2_with fail
    go_ret
    exact ⟨rfl, hK⟩
end Go.Proofs.Ytpibpapolcdeiaa
/- slog: the first segment that goes. -/
namespace Go.Proofs.Ytpibpapolcdeiaa
open Go.ChangeShapes Go.WideShapes Go.ChangeAt Go.RowKit
set_option linter.unusedVariables false
set_option linter.unusedSimpArgs false
set_option maxRecDepth 100000

def fnV (k c1 c2 : Nat) : Value := .func (.func k) #[] #[.pointer (some ⟨c1, 0, none⟩), .pointer (some ⟨c2, 0, none⟩)]
/-- What a predicate says of each of the segments. -/
def Says (w : World) (k c1 c2 : Nat) (l : List Sg) (pd : Nat → Bool) : Prop :=
  ∀ s ∈ l, Calls Try.prog k #[sgPtr s, .pointer (some ⟨c1, 0, none⟩), .pointer (some ⟨c2, 0, none⟩)] w fun e w' => e = .returned (.bool (pd s.gen)) ∧ Keep [] w w'
def fstI (pd : Nat → Bool) (l : List Sg) : Int := if l.findIdx (fun s => pd s.gen) < l.length then (l.findIdx (fun s => pd s.gen) : Int) else -1
set_option maxHeartbeats 4000000 in
theorem index_open {w : World} {B c1 c2 : Nat} {v : Value} {l : List Sg} {pd : Nat → Bool} (hv : Own w B 76 v (l.map sgPtr)) (hP : ∀ W, Keep [] w W → Says W 32 c1 c2 l pd) (hN : l.length ≤ 1000) :
    Calls Try.prog 47 #[v, fnV 32 c1 c2] w fun e w' => e = .returned (.int .i64 (fstI pd l)) ∧ Keep [] w w' := by
  obtain ⟨a, cap, rfl⟩ := hv.slice
  rw [List.length_map]
  have HV := Lib.hid hv
  have HP := Lib.hid hP
  have HN := Lib.hid hN
  clear hv hP hN
  unfold fnV
  go_enter Try.func47, Try.ntmps47
  go_wp2_with fail
  go_loopw [8] (fun s8 wr => ∃ i : Nat, s8 = .int .i64 (i : Int) ∧ i ≤ l.length ∧ (∀ j (h : j < l.length), j < i → pd (l[j]).gen = false) ∧ Keep [] w wr) (fun x _ => l.length + 1 - (intOf x).toNat)
  case atStart => exact ⟨0, rfl, Nat.zero_le _, fun j _ h => absurd h (by omega), Keep.refl _ _⟩
  case round =>
  obtain ⟨i, rfl, hi, hall, hK⟩ := hrel
  by_cases hlt : i < l.length
  · have q0 : decide ((i : Int) < (l.length : Int)) = true := decide_eq_true (by omega)
    have HK := Lib.hid hK
    have HALL := Lib.hid hall
    obtain ⟨ba, rfl⟩ : ∃ ba, a = some ⟨ba, 0, none⟩ := by
      obtain ⟨g, cap', he, _⟩ := HV.out.at_ (by simp; omega)
      injection he with h1
      exact ⟨g, h1⟩
    have hcell := (HV.out.keep hK (by simp)).cell (by simp) i (by simpa using hlt)
    have c0 : wr.cell? ⟨ba, i, none⟩ = some (.pointer (some ⟨(l[i]).p, 0, none⟩)) := by rw [hcell.1]; simp [hlt, sgPtr]
    have hS := HP.out wr hK l[i] (List.getElem_mem hlt)
    unfold sgPtr at hS
    have HS := Lib.hid hS
    have HLT := Lib.hid hlt
    clear hS hcell hK hall
    go_wp2_with fail
    refine HS.out.mono ?_
    rintro e w2 ⟨rfl, k2⟩
    have HK2 := Lib.hid (HK.out.trans k2)
    clear k2 c0
    cases hp : pd (l[i]).gen with
    | true =>
      have HPD := Lib.hid hp
      clear hp
      go_wp2_with fail
      go_ret
      refine ⟨?_, HK2.out⟩
      have hf : l.findIdx (fun s => pd s.gen) = i := by
        refine (List.findIdx_eq hlt).2 ⟨HPD.out, fun j hj => ?_⟩
        rw [HALL.out j (by omega) hj]
      unfold fstI
      rw [hf, if_pos hlt]
      rfl
    | false =>
      have HPD := Lib.hid hp
      have hn := HN.out
      clear hp
      go_wp2_with fail
      go_roundw
      case rel =>
        refine ⟨i + 1, by go_num, by omega, fun j h hj => ?_, HK2.out⟩
        by_cases hji : j < i
        · exact HALL.out j h hji
        · obtain rfl : j = i := by omega
          exact HPD.out
      case measure => simp only [intOf]; omega
  · obtain rfl : i = l.length := by omega
    have q0 : decide ((l.length : Int) < (l.length : Int)) = false := by simp
    have HK := Lib.hid hK
    clear hK
    go_wp2_with fail
    go_ret
    refine ⟨?_, HK.out⟩
    have hf : ¬ l.findIdx (fun s => pd s.gen) < l.length := by
      intro hlt2
      have h1 := List.findIdx_getElem (w := hlt2)
      have h2 := hall _ hlt2 hlt2
      exact absurd (h1.symm.trans h2) (by decide)
    unfold fstI
    rw [if_neg hf]
    rfl
set_option maxHeartbeats 4000000 in
theorem index_begin {w : World} {B c1 c2 : Nat} {v : Value} {l : List Sg} {pd : Nat → Bool} (hv : Own w B 76 v (l.map sgPtr)) (hP : ∀ W, Keep [] w W → Says W 48 c1 c2 l pd) (hN : l.length ≤ 1000) :
    Calls Try.prog 47 #[v, fnV 48 c1 c2] w fun e w' => e = .returned (.int .i64 (fstI pd l)) ∧ Keep [] w w' := by
  obtain ⟨a, cap, rfl⟩ := hv.slice
  rw [List.length_map]
  have HV := Lib.hid hv
  have HP := Lib.hid hP
  have HN := Lib.hid hN
  clear hv hP hN
  unfold fnV
  go_enter Try.func47, Try.ntmps47
  go_wp2_with fail
  go_loopw [8] (fun s8 wr => ∃ i : Nat, s8 = .int .i64 (i : Int) ∧ i ≤ l.length ∧ (∀ j (h : j < l.length), j < i → pd (l[j]).gen = false) ∧ Keep [] w wr) (fun x _ => l.length + 1 - (intOf x).toNat)
  case atStart => exact ⟨0, rfl, Nat.zero_le _, fun j _ h => absurd h (by omega), Keep.refl _ _⟩
  case round =>
  obtain ⟨i, rfl, hi, hall, hK⟩ := hrel
  by_cases hlt : i < l.length
  · have q0 : decide ((i : Int) < (l.length : Int)) = true := decide_eq_true (by omega)
    have HK := Lib.hid hK
    have HALL := Lib.hid hall
    obtain ⟨ba, rfl⟩ : ∃ ba, a = some ⟨ba, 0, none⟩ := by
      obtain ⟨g, cap', he, _⟩ := HV.out.at_ (by simp; omega)
      injection he with h1
      exact ⟨g, h1⟩
    have hcell := (HV.out.keep hK (by simp)).cell (by simp) i (by simpa using hlt)
    have c0 : wr.cell? ⟨ba, i, none⟩ = some (.pointer (some ⟨(l[i]).p, 0, none⟩)) := by rw [hcell.1]; simp [hlt, sgPtr]
    have hS := HP.out wr hK l[i] (List.getElem_mem hlt)
    unfold sgPtr at hS
    have HS := Lib.hid hS
    have HLT := Lib.hid hlt
    clear hS hcell hK hall
    go_wp2_with fail
    refine HS.out.mono ?_
    rintro e w2 ⟨rfl, k2⟩
    have HK2 := Lib.hid (HK.out.trans k2)
    clear k2 c0
    cases hp : pd (l[i]).gen with
    | true =>
      have HPD := Lib.hid hp
      clear hp
      go_wp2_with fail
      go_ret
      refine ⟨?_, HK2.out⟩
      have hf : l.findIdx (fun s => pd s.gen) = i := by
        refine (List.findIdx_eq hlt).2 ⟨HPD.out, fun j hj => ?_⟩
        rw [HALL.out j (by omega) hj]
      unfold fstI
      rw [hf, if_pos hlt]
      rfl
    | false =>
      have HPD := Lib.hid hp
      have hn := HN.out
      clear hp
      go_wp2_with fail
      go_roundw
      case rel =>
        refine ⟨i + 1, by go_num, by omega, fun j h hj => ?_, HK2.out⟩
        by_cases hji : j < i
        · exact HALL.out j h hji
        · obtain rfl : j = i := by omega
          exact HPD.out
      case measure => simp only [intOf]; omega
  · obtain rfl : i = l.length := by omega
    have q0 : decide ((l.length : Int) < (l.length : Int)) = false := by simp
    have HK := Lib.hid hK
    clear hK
    go_wp2_with fail
    go_ret
    refine ⟨?_, HK.out⟩
    have hf : ¬ l.findIdx (fun s => pd s.gen) < l.length := by
      intro hlt2
      have h1 := List.findIdx_getElem (w := hlt2)
      have h2 := hall _ hlt2 hlt2
      exact absurd (h1.symm.trans h2) (by decide)
    unfold fstI
    rw [if_neg hf]
    rfl
end Go.Proofs.Ytpibpapolcdeiaa
/- slog: segments are laid in order (insertion sort). -/
namespace Go.Proofs.Ytpibpapolcdeiaa
open Go.ChangeShapes Go.WideShapes Go.ChangeAt Go.RowKit
set_option linter.unusedVariables false
set_option linter.unusedSimpArgs false
set_option maxRecDepth 100000

def SgLe (a b : Sg) : Prop := a.gen ≤ b.gen
def HasGen (w : World) (s : Sg) : Prop := w.cell? ⟨s.p, 0, none⟩ = some (.int .i64 (s.gen : Int)) ∧ Ty w s.p 80 ∧ s.gen < 281474976710656
theorem HasGen.keep {w w' : World} {s : Sg} {S : List Nat} (h : HasGen w s) (k : Keep S w w') (hS : s.p ∉ S) : HasGen w' s := ⟨by rw [k.cell h.2.1.lt hS]; exact h.1, h.2.1.keep k hS, h.2.2⟩
theorem HasGen.keep0 {w w' : World} {s : Sg} (h : HasGen w s) (k : Keep [] w w') : HasGen w' s := h.keep k (by simp)
section
variable {w : World} {B ba N cap J1 : Nat} {A R' : List Sg} {a b : Sg} {T : TypeId}
theorem own_len (hO : Own w B T (.slice (some ⟨ba, 0, none⟩) N cap) ((A ++ b :: a :: R').map sgPtr)) (hN : N = (A ++ b :: a :: R').length) : N = ((A ++ b :: a :: R').map sgPtr).length := by rw [List.length_map]; exact hN
theorem own_at (hO : Own w B T (.slice (some ⟨ba, 0, none⟩) N cap) ((A ++ b :: a :: R').map sgPtr)) (hN : N = (A ++ b :: a :: R').length) (hA : A.length = J1) : w.cell? ⟨ba, J1 + 1, none⟩ = some (.pointer (some ⟨a.p, 0, none⟩)) ∧ w.frozen? ⟨ba, J1 + 1, none⟩ = false := by
  have h := hO.cell (own_len hO hN) (J1 + 1) (by rw [hN]; simp; omega)
  refine ⟨?_, h.2⟩
  rw [h.1, List.getElem?_map, List.getElem?_append_right (by omega), show J1 + 1 - A.length = 1 by omega]
  rfl
theorem own_at0 (hO : Own w B T (.slice (some ⟨ba, 0, none⟩) N cap) ((A ++ b :: a :: R').map sgPtr)) (hN : N = (A ++ b :: a :: R').length) (hA : A.length = J1) : w.cell? ⟨ba, J1, none⟩ = some (.pointer (some ⟨b.p, 0, none⟩)) ∧ w.frozen? ⟨ba, J1, none⟩ = false := by
  have h := hO.cell (own_len hO hN) J1 (by rw [hN]; simp; omega)
  refine ⟨?_, h.2⟩
  rw [h.1, List.getElem?_map, List.getElem?_append_right (by omega), show J1 - A.length = 0 by omega]
  rfl
theorem own_set1 (hO : Own w B T (.slice (some ⟨ba, 0, none⟩) N cap) ((A ++ b :: a :: R').map sgPtr)) (hN : N = (A ++ b :: a :: R').length) (hA : A.length = J1) (u : Sg) : Own (w.setCell ⟨ba, J1 + 1, none⟩ (.pointer (some ⟨u.p, 0, none⟩))) B T (.slice (some ⟨ba, 0, none⟩) N cap) ((A ++ b :: u :: R').map sgPtr) := by
  have h := hO.set (own_len hO hN) (J1 + 1) (sgPtr u)
  rw [← List.map_set, List.set_append_right _ _ (by omega), show J1 + 1 - A.length = 1 by omega] at h
  exact h.1
theorem own_set0 (hO : Own w B T (.slice (some ⟨ba, 0, none⟩) N cap) ((A ++ b :: a :: R').map sgPtr)) (hN : N = (A ++ b :: a :: R').length) (hA : A.length = J1) (u : Sg) : Own (w.setCell ⟨ba, J1, none⟩ (.pointer (some ⟨u.p, 0, none⟩))) B T (.slice (some ⟨ba, 0, none⟩) N cap) ((A ++ u :: a :: R').map sgPtr) := by
  have h := hO.set (own_len hO hN) J1 (sgPtr u)
  rw [← List.map_set, List.set_append_right _ _ (by omega), show J1 - A.length = 0 by omega] at h
  exact h.1
end
def insJ4 (w0 : World) (B ba N cap J1 : Nat) (A : List Sg) (xx yy : Sg) (R' : List Sg) (CR : Int) (bb : Bool) (l : Nat → Bool) (x : Nat → Value) (w' : World) : Prop :=
  (Own w' B 76 (.slice (some ⟨ba, 0, none⟩) N cap) ((A ++ yy :: xx :: R').map sgPtr)) ∧
  (HasGen w' xx) ∧
  (HasGen w' yy) ∧
  (Keep [ba] w0 w') ∧
  (l 0 = true → x 0 = .int .i64 ((J1 + 1 : Nat) : Int)) ∧
  (l 1 = true → x 1 = .int .i64 0) ∧
  (l 2 = true → x 2 = .bool true) ∧
  (l 3 = true → x 3 = .bool true) ∧
  (l 4 = true → x 4 = .func (.func 30) #[] #[]) ∧
  (l 5 = true → x 5 = .slice (some ⟨ba, 0, none⟩) N cap) ∧
  (l 6 = true → x 6 = .int .i64 ((J1 + 1 : Nat) : Int)) ∧
  (l 7 = true → x 7 = .pointer (some ⟨ba, J1 + 1, none⟩)) ∧
  (l 8 = true → x 8 = .pointer (some ⟨xx.p, 0, none⟩)) ∧
  (l 9 = true → x 9 = .slice (some ⟨ba, 0, none⟩) N cap) ∧
  (l 10 = true → x 10 = .int .i64 ((J1 + 1 : Nat) : Int)) ∧
  (l 11 = true → x 11 = .int .i64 (J1 : Int)) ∧
  (l 12 = true → x 12 = .pointer (some ⟨ba, J1, none⟩)) ∧
  (l 13 = true → x 13 = .pointer (some ⟨yy.p, 0, none⟩)) ∧
  (l 14 = true → x 14 = .int .i64 CR) ∧
  (l 15 = true → x 15 = .bool bb) ∧
  (l 16 = true → x 16 = .bool bb)
def insJ6 (w0 : World) (B ba N cap J1 : Nat) (A : List Sg) (xx yy : Sg) (R' : List Sg) (l : Nat → Bool) (x : Nat → Value) (w' : World) : Prop :=
  (l 15 = false → l 17 = false → Own w' B 76 (.slice (some ⟨ba, 0, none⟩) N cap) ((A ++ yy :: xx :: R').map sgPtr)) ∧
  (l 15 = true → l 17 = false → Own w' B 76 (.slice (some ⟨ba, 0, none⟩) N cap) ((A ++ yy :: yy :: R').map sgPtr)) ∧
  (l 15 = false → l 17 = true → Own w' B 76 (.slice (some ⟨ba, 0, none⟩) N cap) ((A ++ xx :: xx :: R').map sgPtr)) ∧
  (l 15 = true → l 17 = true → Own w' B 76 (.slice (some ⟨ba, 0, none⟩) N cap) ((A ++ xx :: yy :: R').map sgPtr)) ∧
  (Keep [ba] w0 w') ∧
  (l 15 = true → l 9 = true ∧ l 13 = true) ∧
  (l 17 = true → l 9 = true ∧ l 13 = true) ∧
  (l 0 = true → x 0 = .slice (some ⟨ba, 0, none⟩) N cap) ∧
  (l 1 = true → x 1 = .int .i64 ((J1 + 1 : Nat) : Int)) ∧
  (l 2 = true → x 2 = .slice (some ⟨ba, 0, none⟩) N cap) ∧
  (l 3 = true → x 3 = .int .i64 ((J1 + 1 : Nat) : Int)) ∧
  (l 4 = true → x 4 = .int .i64 (J1 : Int)) ∧
  (l 5 = true → x 5 = .slice (some ⟨ba, 0, none⟩) N cap) ∧
  (l 6 = true → x 6 = .int .i64 ((J1 + 1 : Nat) : Int)) ∧
  (l 7 = true → x 7 = .int .i64 (J1 : Int)) ∧
  (l 8 = true → x 8 = .pointer (some ⟨ba, J1, none⟩)) ∧
  (l 9 = true → x 9 = .pointer (some ⟨yy.p, 0, none⟩)) ∧
  (l 10 = true → x 10 = .slice (some ⟨ba, 0, none⟩) N cap) ∧
  (l 11 = true → x 11 = .int .i64 ((J1 + 1 : Nat) : Int)) ∧
  (l 12 = true → x 12 = .pointer (some ⟨ba, J1 + 1, none⟩)) ∧
  (l 13 = true → x 13 = .pointer (some ⟨xx.p, 0, none⟩)) ∧
  (l 14 = true → x 14 = .pointer (some ⟨ba, J1 + 1, none⟩)) ∧
  (l 15 = true → True) ∧
  (l 16 = true → x 16 = .pointer (some ⟨ba, J1, none⟩)) ∧
  (l 17 = true → True)
set_option maxHeartbeats 8000000 in
theorem insert_any {w : World} {B ba cap : Nat} {l₀ : List Sg} (hv : Own w B 76 (.slice (some ⟨ba, 0, none⟩) l₀.length cap) (l₀.map sgPtr)) (hG : ∀ s ∈ l₀, HasGen w s) (hN : l₀.length ≤ 1000 ∧ 0 < l₀.length) :
    Calls Try.prog 53 #[.slice (some ⟨ba, 0, none⟩) l₀.length cap, .int .i64 0, .int .i64 (l₀.length : Int), .func (.func 30) #[] #[]] w fun e w' => e = .returned (.tuple #[]) ∧ ∃ m : List Sg, m.Perm l₀ ∧ m.Pairwise SgLe ∧ Own w' B 76 (.slice (some ⟨ba, 0, none⟩) l₀.length cap) (m.map sgPtr) ∧ Keep [ba] w w' := by
  have HV := Lib.hid hv
  have HG := Lib.hid hG
  have HN := Lib.hid hN
  clear hv hG hN
  go_enter Try.func53, Try.ntmps53
  go_wp2_with fail
  go_loopw [8] (fun s8 wr => ∃ (i : Nat) (m : List Sg), s8 = .int .i64 (i : Int) ∧ 1 ≤ i ∧ i ≤ l₀.length ∧ m.Perm l₀ ∧ (m.take i).Pairwise SgLe ∧ Own wr B 76 (.slice (some ⟨ba, 0, none⟩) l₀.length cap) (m.map sgPtr) ∧ Keep [ba] w wr) (fun x _ => l₀.length + 1 - (intOf x).toNat)
  case atStart => exact ⟨1, l₀, rfl, by omega, HN.out.2, List.Perm.refl _, by cases l₀ <;> simp, HV.out, Keep.refl _ _⟩
  case round =>
  obtain ⟨i, m, rfl, h1, hi, hp, hs, hO, hK⟩ := hrel
  by_cases hlt : i < l₀.length
  · have q0 : decide ((i : Int) < (l₀.length : Int)) = true := decide_eq_true (by omega)
    have hml : m.length = l₀.length := hp.length_eq
    have HML := Lib.hid hml
    have HP := Lib.hid hp
    have HS := Lib.hid hs
    have HO := Lib.hid hO
    have HK := Lib.hid hK
    have HI := Lib.hid (show 1 ≤ i ∧ i < l₀.length from ⟨h1, hlt⟩)
    clear hp hs hO hK hml h1 hi
    go_wp2_with fail
    go_loopw [9] (fun s9 wr2 => ∃ (A C : List Sg) (x : Sg), s9 = .int .i64 (A.length : Int) ∧ A.length + C.length = i ∧ (A ++ x :: (C ++ m.drop (i + 1))).Perm l₀ ∧ (A ++ C).Pairwise SgLe ∧ (∀ c ∈ C, SgLe x c) ∧ Own wr2 B 76 (.slice (some ⟨ba, 0, none⟩) l₀.length cap) ((A ++ x :: (C ++ m.drop (i + 1))).map sgPtr) ∧ Keep [ba] w wr2) (fun y _ => (intOf y).toNat)
    case atStart =>
      have hl : i < m.length := by rw [HML.out]; exact HI.out.2
      have he : m.take i ++ m[i] :: ([] ++ m.drop (i + 1)) = m := by
        rw [List.nil_append, ← List.drop_eq_getElem_cons hl, List.take_append_drop]
      refine ⟨m.take i, [], m[i], ?_, by simp; omega, by rw [he]; exact HP.out, by rw [List.append_nil]; exact HS.out, by simp, by rw [he]; exact HO.out, HK.out⟩
      rw [List.length_take, Nat.min_eq_left (Nat.le_of_lt hl)]
    case round =>
    obtain ⟨A1, C, xx, rfl, hAC, hp, hs, hC, hO, hK⟩ := hrel
    rcases List.eq_nil_or_concat A1 with rfl | ⟨A, yy, rfl⟩
    · have q1 : decide ((0 : Int) > 0) = false := by simp
      have HO := Lib.hid hO
      have HK2 := Lib.hid hK
      have HP2 := Lib.hid hp
      have HC2 := Lib.hid hC
      have HS2 := Lib.hid hs
      have HAC := Lib.hid hAC
      clear hO hK hp hC hs hAC
      rw [show ((([] : List Sg).length : Nat) : Int) = 0 from rfl]
      have hn := HN.out.1
      go_upto_region 4 with fail
      go_quiet (fail)
      have HK3 := Lib.hid (drewnK HK2.out nq)
      have HO3 := Lib.hid (HO.out.keep (drewnK (Keep.refl [] wr) nq) (by simp))
      clear HO HK2
      generalize wr.drewN nq = wr3 at *
      go_wp2_with fail
      go_roundw
      case rel =>
        refine ⟨i + 1, xx :: (C ++ m.drop (i + 1)), by go_num, by omega, by omega, HP2.out, ?_, HO3.out, HK3.out⟩
        have hl1 : C.length = i := by have := HAC.out; simpa using this
        rw [List.take_succ_cons, ← hl1, List.take_left]
        exact List.pairwise_cons.2 ⟨HC2.out, by simpa using HS2.out⟩
      case measure => simp only [intOf]; omega
    · rw [List.concat_eq_append] at *
      obtain ⟨J1, hJ1⟩ : ∃ J1, A.length = J1 := ⟨_, rfl⟩
      have hlen : (A ++ [yy]).length = J1 + 1 := by simp [hJ1]
      rw [hlen] at *
      rw [List.append_assoc, List.singleton_append] at hp hO
      obtain ⟨R', hR'⟩ : ∃ R', R' = C ++ m.drop (i + 1) := ⟨_, rfl⟩
      rw [← hR'] at hp hO
      have HNL : Hid (l₀.length = (A ++ yy :: xx :: R').length) := Lib.hid hp.length_eq.symm
      have HAL := Lib.hid hJ1
      have HBN : Hid (J1 + 1 < l₀.length) := Lib.hid (by rw [HNL.out]; simp; omega)
      have hGX2 : HasGen wr xx := (HG.out xx (hp.mem_iff.1 (by simp))).keep hK (by simp; exact (HG.out xx (hp.mem_iff.1 (by simp))).2.1.ne (HV.out.ty ba rfl) (by decide))
      have hGY2 : HasGen wr yy := (HG.out yy (hp.mem_iff.1 (by simp))).keep hK (by simp; exact (HG.out yy (hp.mem_iff.1 (by simp))).2.1.ne (HV.out.ty ba rfl) (by decide))
      have hO2 := hO
      have HK2 := Lib.hid hK
      have HP2 := Lib.hid hp
      have HS2 := Lib.hid hs
      have HC2 := Lib.hid hC
      have HR2 := Lib.hid hR'
      have HAC := Lib.hid hAC
      obtain ⟨CR, hCR⟩ : ∃ c : Int, c = if xx.gen < yy.gen then -1 else if yy.gen < xx.gen then 1 else 0 := ⟨_, rfl⟩
      obtain ⟨bb, hbb⟩ : ∃ b : Bool, b = decide (CR < 0) := ⟨_, rfl⟩
      have HCR := Lib.hid hCR.symm
      have HBB := Lib.hid hbb.symm
      have HBX : Hid (bb = decide (xx.gen < yy.gen)) := Lib.hid (by rw [hbb, hCR]; split <;> rename_i h <;> simp [h]; split <;> simp)
      have HQJ : Hid (decide (((J1 + 1 : Nat) : Int) > 0) = true) := Lib.hid (decide_eq_true (by omega))
      have HJW : Hid (IntKind.i64.wrap (((J1 + 1 : Nat) : Int) - 1) = (J1 : Int)) := Lib.hid (by rw [IntKind.wrap_i64]; have := HBN.out; have := HN.out.1; omega)
      have HJV : Hid (IntKind.i64.wrap (J1 : Int) = (J1 : Int)) := Lib.hid (by rw [IntKind.wrap_i64]; have := HBN.out; have := HN.out.1; omega)
      clear hK hp hs hC hR' hAC hO hJ1 hCR hbb hlen
      go_upto_region 4 with fail
      refine wp_region_inv (insJ4 wr B ba l₀.length cap J1 A xx yy R' CR bb) (by kernel_rfl) (by kernel_rfl) (by kernel_rfl) ?_ (Steps.cons 0 ?_ (Steps.cons 1 ?_ (Steps.cons 2 ?_ (Steps.cons 3 ?_ (Steps.cons 4 ?_ (Steps.cons 5 ?_ (Steps.cons 6 ?_ (Steps.cons 7 ?_ (Steps.cons 8 ?_ (Steps.cons 9 ?_ (Steps.cons 10 ?_ (Steps.cons 11 ?_ (Steps.cons 12 ?_ (Steps.cons 13 ?_ (Steps.cons 14 ?_ (Steps.cons 15 ?_ (Steps.cons 16 ?_ (Steps.nil 17)))))))))))))))))) 17 rfl ?_
      · intro x
        exact ⟨hO2.drew, hGX2.keep0 (Keep.refl [] _).drew, hGY2.keep0 (Keep.refl [] _).drew, (Keep.refl _ _).drew, fun h => absurd h (by decide), fun h => absurd h (by decide), fun h => absurd h (by decide), fun h => absurd h (by decide), fun h => absurd h (by decide), fun h => absurd h (by decide), fun h => absurd h (by decide), fun h => absurd h (by decide), fun h => absurd h (by decide), fun h => absurd h (by decide), fun h => absurd h (by decide), fun h => absurd h (by decide), fun h => absurd h (by decide), fun h => absurd h (by decide), fun h => absurd h (by decide), fun h => absurd h (by decide), fun h => absurd h (by decide)⟩
      · intro l x w' hJ hi hd
        obtain ⟨hO, hGX, hGY, hK, h0, h1, h2, h3, h4, h5, h6, h7, h8, h9, h10, h11, h12, h13, h14, h15, h16⟩ := hJ
        refine Runs.of (b := ?bA0) ?eA0 ?_
        case eA0 => simp only [putV, Act.put, List.setIfInBounds_toArray, List.set_cons_zero, List.set_cons_succ]; rfl
        intro K' hK'
        go_simp
        exact hK'.go _ rfl ⟨hO, hGX, hGY, hK, fun _ => rfl, h1, h2, h3, h4, h5, h6, h7, h8, h9, h10, h11, h12, h13, h14, h15, h16⟩
      · intro l x w' hJ hi hd
        obtain ⟨hO, hGX, hGY, hK, h0, h1, h2, h3, h4, h5, h6, h7, h8, h9, h10, h11, h12, h13, h14, h15, h16⟩ := hJ
        refine Runs.of (b := ?bA1) ?eA1 ?_
        case eA1 => simp only [putV, Act.put, List.setIfInBounds_toArray, List.set_cons_zero, List.set_cons_succ]; rfl
        intro K' hK'
        go_simp
        exact hK'.go _ rfl ⟨hO, hGX, hGY, hK, h0, fun _ => rfl, h2, h3, h4, h5, h6, h7, h8, h9, h10, h11, h12, h13, h14, h15, h16⟩
      · intro l x w' hJ hi hd
        obtain ⟨hO, hGX, hGY, hK, h0, h1, h2, h3, h4, h5, h6, h7, h8, h9, h10, h11, h12, h13, h14, h15, h16⟩ := hJ
        have e0 := h0 (show l 0 = true by first | exact hd.1 rfl | exact hd.2.1 rfl | exact hd.2.2.1 rfl | exact hd.2.2.2.1 rfl | exact hd.2.2.2.2.1 rfl | exact hd.2.2.2.2.2.1 rfl)
        have e1 := h1 (show l 1 = true by first | exact hd.1 rfl | exact hd.2.1 rfl | exact hd.2.2.1 rfl | exact hd.2.2.2.1 rfl | exact hd.2.2.2.2.1 rfl | exact hd.2.2.2.2.2.1 rfl)
        refine Runs.of (b := ?bA2) ?eA2 ?_
        case eA2 => simp only [putV, Act.put, List.setIfInBounds_toArray, List.set_cons_zero, List.set_cons_succ, e0, e1]; rfl
        intro K' hK'
        go_simp
        exact hK'.go _ rfl ⟨hO, hGX, hGY, hK, h0, h1, fun _ => (by first | rfl | exact congrArg Value.bool HQJ.out), h3, h4, h5, h6, h7, h8, h9, h10, h11, h12, h13, h14, h15, h16⟩
      · intro l x w' hJ hi hd
        obtain ⟨hO, hGX, hGY, hK, h0, h1, h2, h3, h4, h5, h6, h7, h8, h9, h10, h11, h12, h13, h14, h15, h16⟩ := hJ
        have e2 := h2 (show l 2 = true by first | exact hd.1 rfl | exact hd.2.1 rfl | exact hd.2.2.1 rfl | exact hd.2.2.2.1 rfl | exact hd.2.2.2.2.1 rfl | exact hd.2.2.2.2.2.1 rfl)
        refine Runs.of (b := ?bA3) ?eA3 ?_
        case eA3 => simp only [putV, Act.put, List.setIfInBounds_toArray, List.set_cons_zero, List.set_cons_succ, e2]; rfl
        intro K' hK'
        go_simp
        exact hK'.go _ rfl ⟨hO, hGX, hGY, hK, h0, h1, h2, fun _ => rfl, h4, h5, h6, h7, h8, h9, h10, h11, h12, h13, h14, h15, h16⟩
      · intro l x w' hJ hi hd
        obtain ⟨hO, hGX, hGY, hK, h0, h1, h2, h3, h4, h5, h6, h7, h8, h9, h10, h11, h12, h13, h14, h15, h16⟩ := hJ
        have e3 := h3 (show l 3 = true by first | exact hd.1 rfl | exact hd.2.1 rfl | exact hd.2.2.1 rfl | exact hd.2.2.2.1 rfl | exact hd.2.2.2.2.1 rfl | exact hd.2.2.2.2.2.1 rfl)
        refine Runs.of (b := ?bA4) ?eA4 ?_
        case eA4 => simp only [putV, Act.put, List.setIfInBounds_toArray, List.set_cons_zero, List.set_cons_succ, e3]; rfl
        intro K' hK'
        go_simp
        exact hK'.go _ rfl ⟨hO, hGX, hGY, hK, h0, h1, h2, h3, fun _ => rfl, h5, h6, h7, h8, h9, h10, h11, h12, h13, h14, h15, h16⟩
      · intro l x w' hJ hi hd
        obtain ⟨hO, hGX, hGY, hK, h0, h1, h2, h3, h4, h5, h6, h7, h8, h9, h10, h11, h12, h13, h14, h15, h16⟩ := hJ
        have e3 := h3 (show l 3 = true by first | exact hd.1 rfl | exact hd.2.1 rfl | exact hd.2.2.1 rfl | exact hd.2.2.2.1 rfl | exact hd.2.2.2.2.1 rfl | exact hd.2.2.2.2.2.1 rfl)
        refine Runs.of (b := ?bA5) ?eA5 ?_
        case eA5 => simp only [putV, Act.put, List.setIfInBounds_toArray, List.set_cons_zero, List.set_cons_succ, e3]; rfl
        intro K' hK'
        go_simp
        exact hK'.go _ rfl ⟨hO, hGX, hGY, hK, h0, h1, h2, h3, h4, fun _ => rfl, h6, h7, h8, h9, h10, h11, h12, h13, h14, h15, h16⟩
      · intro l x w' hJ hi hd
        obtain ⟨hO, hGX, hGY, hK, h0, h1, h2, h3, h4, h5, h6, h7, h8, h9, h10, h11, h12, h13, h14, h15, h16⟩ := hJ
        have e3 := h3 (show l 3 = true by first | exact hd.1 rfl | exact hd.2.1 rfl | exact hd.2.2.1 rfl | exact hd.2.2.2.1 rfl | exact hd.2.2.2.2.1 rfl | exact hd.2.2.2.2.2.1 rfl)
        refine Runs.of (b := ?bA6) ?eA6 ?_
        case eA6 => simp only [putV, Act.put, List.setIfInBounds_toArray, List.set_cons_zero, List.set_cons_succ, e3]; rfl
        intro K' hK'
        go_simp
        exact hK'.go _ rfl ⟨hO, hGX, hGY, hK, h0, h1, h2, h3, h4, h5, fun _ => rfl, h7, h8, h9, h10, h11, h12, h13, h14, h15, h16⟩
      · intro l x w' hJ hi hd
        obtain ⟨hO, hGX, hGY, hK, h0, h1, h2, h3, h4, h5, h6, h7, h8, h9, h10, h11, h12, h13, h14, h15, h16⟩ := hJ
        have e3 := h3 (show l 3 = true by first | exact hd.1 rfl | exact hd.2.1 rfl | exact hd.2.2.1 rfl | exact hd.2.2.2.1 rfl | exact hd.2.2.2.2.1 rfl | exact hd.2.2.2.2.2.1 rfl)
        have e5 := h5 (show l 5 = true by first | exact hd.1 rfl | exact hd.2.1 rfl | exact hd.2.2.1 rfl | exact hd.2.2.2.1 rfl | exact hd.2.2.2.2.1 rfl | exact hd.2.2.2.2.2.1 rfl)
        have e6 := h6 (show l 6 = true by first | exact hd.1 rfl | exact hd.2.1 rfl | exact hd.2.2.1 rfl | exact hd.2.2.2.1 rfl | exact hd.2.2.2.2.1 rfl | exact hd.2.2.2.2.2.1 rfl)
        refine Runs.of (b := ?bA7) ?eA7 ?_
        case eA7 => simp only [putV, Act.put, List.setIfInBounds_toArray, List.set_cons_zero, List.set_cons_succ, e3, e5, e6]; rfl
        intro K' hK'
        go_simp
        rw [if_pos (by have := HBN.out; omega)]
        exact hK'.go _ rfl ⟨hO, hGX, hGY, hK, h0, h1, h2, h3, h4, h5, h6, fun _ => rfl, h8, h9, h10, h11, h12, h13, h14, h15, h16⟩
      · intro l x w' hJ hi hd
        obtain ⟨hO, hGX, hGY, hK, h0, h1, h2, h3, h4, h5, h6, h7, h8, h9, h10, h11, h12, h13, h14, h15, h16⟩ := hJ
        have e3 := h3 (show l 3 = true by first | exact hd.1 rfl | exact hd.2.1 rfl | exact hd.2.2.1 rfl | exact hd.2.2.2.1 rfl | exact hd.2.2.2.2.1 rfl | exact hd.2.2.2.2.2.1 rfl)
        have e7 := h7 (show l 7 = true by first | exact hd.1 rfl | exact hd.2.1 rfl | exact hd.2.2.1 rfl | exact hd.2.2.2.1 rfl | exact hd.2.2.2.2.1 rfl | exact hd.2.2.2.2.2.1 rfl)
        have c0 := (own_at hO HNL.out HAL.out).1
        refine Runs.of (b := ?bA8) ?eA8 ?_
        case eA8 => simp only [putV, Act.put, List.setIfInBounds_toArray, List.set_cons_zero, List.set_cons_succ, e3, e7]; rfl
        intro K' hK'
        go_simp
        exact hK'.go _ rfl ⟨hO, hGX, hGY, hK, h0, h1, h2, h3, h4, h5, h6, h7, fun _ => rfl, h9, h10, h11, h12, h13, h14, h15, h16⟩
      · intro l x w' hJ hi hd
        obtain ⟨hO, hGX, hGY, hK, h0, h1, h2, h3, h4, h5, h6, h7, h8, h9, h10, h11, h12, h13, h14, h15, h16⟩ := hJ
        have e3 := h3 (show l 3 = true by first | exact hd.1 rfl | exact hd.2.1 rfl | exact hd.2.2.1 rfl | exact hd.2.2.2.1 rfl | exact hd.2.2.2.2.1 rfl | exact hd.2.2.2.2.2.1 rfl)
        refine Runs.of (b := ?bA9) ?eA9 ?_
        case eA9 => simp only [putV, Act.put, List.setIfInBounds_toArray, List.set_cons_zero, List.set_cons_succ, e3]; rfl
        intro K' hK'
        go_simp
        exact hK'.go _ rfl ⟨hO, hGX, hGY, hK, h0, h1, h2, h3, h4, h5, h6, h7, h8, fun _ => rfl, h10, h11, h12, h13, h14, h15, h16⟩
      · intro l x w' hJ hi hd
        obtain ⟨hO, hGX, hGY, hK, h0, h1, h2, h3, h4, h5, h6, h7, h8, h9, h10, h11, h12, h13, h14, h15, h16⟩ := hJ
        have e3 := h3 (show l 3 = true by first | exact hd.1 rfl | exact hd.2.1 rfl | exact hd.2.2.1 rfl | exact hd.2.2.2.1 rfl | exact hd.2.2.2.2.1 rfl | exact hd.2.2.2.2.2.1 rfl)
        refine Runs.of (b := ?bA10) ?eA10 ?_
        case eA10 => simp only [putV, Act.put, List.setIfInBounds_toArray, List.set_cons_zero, List.set_cons_succ, e3]; rfl
        intro K' hK'
        go_simp
        exact hK'.go _ rfl ⟨hO, hGX, hGY, hK, h0, h1, h2, h3, h4, h5, h6, h7, h8, h9, fun _ => rfl, h11, h12, h13, h14, h15, h16⟩
      · intro l x w' hJ hi hd
        obtain ⟨hO, hGX, hGY, hK, h0, h1, h2, h3, h4, h5, h6, h7, h8, h9, h10, h11, h12, h13, h14, h15, h16⟩ := hJ
        have e3 := h3 (show l 3 = true by first | exact hd.1 rfl | exact hd.2.1 rfl | exact hd.2.2.1 rfl | exact hd.2.2.2.1 rfl | exact hd.2.2.2.2.1 rfl | exact hd.2.2.2.2.2.1 rfl)
        have e10 := h10 (show l 10 = true by first | exact hd.1 rfl | exact hd.2.1 rfl | exact hd.2.2.1 rfl | exact hd.2.2.2.1 rfl | exact hd.2.2.2.2.1 rfl | exact hd.2.2.2.2.2.1 rfl)
        refine Runs.of (b := ?bA11) ?eA11 ?_
        case eA11 => simp only [putV, Act.put, List.setIfInBounds_toArray, List.set_cons_zero, List.set_cons_succ, e3, e10]; rfl
        intro K' hK'
        go_simp
        exact hK'.go _ rfl ⟨hO, hGX, hGY, hK, h0, h1, h2, h3, h4, h5, h6, h7, h8, h9, h10, fun _ => (by first | rfl | exact congrArg (Value.int .i64) HJW.out | exact congrArg (Value.int .i64) HJV.out), h12, h13, h14, h15, h16⟩
      · intro l x w' hJ hi hd
        obtain ⟨hO, hGX, hGY, hK, h0, h1, h2, h3, h4, h5, h6, h7, h8, h9, h10, h11, h12, h13, h14, h15, h16⟩ := hJ
        have e3 := h3 (show l 3 = true by first | exact hd.1 rfl | exact hd.2.1 rfl | exact hd.2.2.1 rfl | exact hd.2.2.2.1 rfl | exact hd.2.2.2.2.1 rfl | exact hd.2.2.2.2.2.1 rfl)
        have e9 := h9 (show l 9 = true by first | exact hd.1 rfl | exact hd.2.1 rfl | exact hd.2.2.1 rfl | exact hd.2.2.2.1 rfl | exact hd.2.2.2.2.1 rfl | exact hd.2.2.2.2.2.1 rfl)
        have e11 := h11 (show l 11 = true by first | exact hd.1 rfl | exact hd.2.1 rfl | exact hd.2.2.1 rfl | exact hd.2.2.2.1 rfl | exact hd.2.2.2.2.1 rfl | exact hd.2.2.2.2.2.1 rfl)
        refine Runs.of (b := ?bA12) ?eA12 ?_
        case eA12 => simp only [putV, Act.put, List.setIfInBounds_toArray, List.set_cons_zero, List.set_cons_succ, e3, e9, e11]; rfl
        intro K' hK'
        go_simp
        rw [if_pos (by have := HBN.out; omega)]
        exact hK'.go _ rfl ⟨hO, hGX, hGY, hK, h0, h1, h2, h3, h4, h5, h6, h7, h8, h9, h10, h11, fun _ => rfl, h13, h14, h15, h16⟩
      · intro l x w' hJ hi hd
        obtain ⟨hO, hGX, hGY, hK, h0, h1, h2, h3, h4, h5, h6, h7, h8, h9, h10, h11, h12, h13, h14, h15, h16⟩ := hJ
        have e3 := h3 (show l 3 = true by first | exact hd.1 rfl | exact hd.2.1 rfl | exact hd.2.2.1 rfl | exact hd.2.2.2.1 rfl | exact hd.2.2.2.2.1 rfl | exact hd.2.2.2.2.2.1 rfl)
        have e12 := h12 (show l 12 = true by first | exact hd.1 rfl | exact hd.2.1 rfl | exact hd.2.2.1 rfl | exact hd.2.2.2.1 rfl | exact hd.2.2.2.2.1 rfl | exact hd.2.2.2.2.2.1 rfl)
        have c0 := (own_at0 hO HNL.out HAL.out).1
        refine Runs.of (b := ?bA13) ?eA13 ?_
        case eA13 => simp only [putV, Act.put, List.setIfInBounds_toArray, List.set_cons_zero, List.set_cons_succ, e3, e12]; rfl
        intro K' hK'
        go_simp
        exact hK'.go _ rfl ⟨hO, hGX, hGY, hK, h0, h1, h2, h3, h4, h5, h6, h7, h8, h9, h10, h11, h12, fun _ => rfl, h14, h15, h16⟩
      · intro l x w' hJ hi hd
        obtain ⟨hO, hGX, hGY, hK, h0, h1, h2, h3, h4, h5, h6, h7, h8, h9, h10, h11, h12, h13, h14, h15, h16⟩ := hJ
        have e3 := h3 (show l 3 = true by first | exact hd.1 rfl | exact hd.2.1 rfl | exact hd.2.2.1 rfl | exact hd.2.2.2.1 rfl | exact hd.2.2.2.2.1 rfl | exact hd.2.2.2.2.2.1 rfl)
        have e4 := h4 (show l 4 = true by first | exact hd.1 rfl | exact hd.2.1 rfl | exact hd.2.2.1 rfl | exact hd.2.2.2.1 rfl | exact hd.2.2.2.2.1 rfl | exact hd.2.2.2.2.2.1 rfl)
        have e8 := h8 (show l 8 = true by first | exact hd.1 rfl | exact hd.2.1 rfl | exact hd.2.2.1 rfl | exact hd.2.2.2.1 rfl | exact hd.2.2.2.2.1 rfl | exact hd.2.2.2.2.2.1 rfl)
        have e13 := h13 (show l 13 = true by first | exact hd.1 rfl | exact hd.2.1 rfl | exact hd.2.2.1 rfl | exact hd.2.2.2.1 rfl | exact hd.2.2.2.2.1 rfl | exact hd.2.2.2.2.2.1 rfl)
        have hgx := hGX
        have hgy := hGY
        refine Runs.of (b := ?bA14) ?eA14 ?_
        case eA14 => simp only [putV, Act.put, List.setIfInBounds_toArray, List.set_cons_zero, List.set_cons_succ, e3, e4, e8, e13]; rfl
        intro K' hK'
        go_simp
        refine (cmp_any hGX.1 hGY.1 ⟨hGX.2.2, hGY.2.2⟩).mono ?_
        rintro e w2 ⟨rfl, k2⟩
        go_simp
        exact hK'.go _ rfl ⟨hO.keep k2 (by simp), hGX.keep0 k2, hGY.keep0 k2, hK.trans (k2.mono (by simp)), h0, h1, h2, h3, h4, h5, h6, h7, h8, h9, h10, h11, h12, h13, fun _ => congrArg (Value.int .i64) HCR.out, h15, h16⟩
      · intro l x w' hJ hi hd
        obtain ⟨hO, hGX, hGY, hK, h0, h1, h2, h3, h4, h5, h6, h7, h8, h9, h10, h11, h12, h13, h14, h15, h16⟩ := hJ
        have e3 := h3 (show l 3 = true by first | exact hd.1 rfl | exact hd.2.1 rfl | exact hd.2.2.1 rfl | exact hd.2.2.2.1 rfl | exact hd.2.2.2.2.1 rfl | exact hd.2.2.2.2.2.1 rfl)
        have e14 := h14 (show l 14 = true by first | exact hd.1 rfl | exact hd.2.1 rfl | exact hd.2.2.1 rfl | exact hd.2.2.2.1 rfl | exact hd.2.2.2.2.1 rfl | exact hd.2.2.2.2.2.1 rfl)
        refine Runs.of (b := ?bA15) ?eA15 ?_
        case eA15 => simp only [putV, Act.put, List.setIfInBounds_toArray, List.set_cons_zero, List.set_cons_succ, e3, e14]; rfl
        intro K' hK'
        go_simp
        exact hK'.go _ rfl ⟨hO, hGX, hGY, hK, h0, h1, h2, h3, h4, h5, h6, h7, h8, h9, h10, h11, h12, h13, h14, fun _ => (by first | rfl | exact congrArg Value.bool HBB.out), h16⟩
      · intro l x w' hJ hi hd
        obtain ⟨hO, hGX, hGY, hK, h0, h1, h2, h3, h4, h5, h6, h7, h8, h9, h10, h11, h12, h13, h14, h15, h16⟩ := hJ
        have e3 := h3 (show l 3 = true by first | exact hd.1 rfl | exact hd.2.1 rfl | exact hd.2.2.1 rfl | exact hd.2.2.2.1 rfl | exact hd.2.2.2.2.1 rfl | exact hd.2.2.2.2.2.1 rfl)
        have e15 := h15 (show l 15 = true by first | exact hd.1 rfl | exact hd.2.1 rfl | exact hd.2.2.1 rfl | exact hd.2.2.2.1 rfl | exact hd.2.2.2.2.1 rfl | exact hd.2.2.2.2.2.1 rfl)
        refine Runs.of (b := ?bA16) ?eA16 ?_
        case eA16 => simp only [putV, Act.put, List.setIfInBounds_toArray, List.set_cons_zero, List.set_cons_succ, e3, e15]; rfl
        intro K' hK'
        go_simp
        exact hK'.go _ rfl ⟨hO, hGX, hGY, hK, h0, h1, h2, h3, h4, h5, h6, h7, h8, h9, h10, h11, h12, h13, h14, h15, fun _ => rfl⟩
      · intro l x w3 hJ hl
        obtain ⟨hO, hGX, hGY, hK, h0, h1, h2, h3, h4, h5, h6, h7, h8, h9, h10, h11, h12, h13, h14, h15, h16⟩ := hJ
        have hO4 := hO
        have HK4 := Lib.hid hK
        have e16 := h16 (hl 16 (by decide))
        simp only [putV, Act.put, List.setIfInBounds_toArray, List.set_cons_zero, List.set_cons_succ, e16]
        clear h0 h1 h2 h3 h4 h5 h6 h7 h8 h9 h10 h11 h12 h13 h14 h15 h16 hO hK hl e16 hO2 hGX hGY hGX2 hGY2
        generalize w3 = w4 at *
        cases bb with
        | true =>
          go_upto_region 6 with fail
          refine wp_region_inv (insJ6 w4 B ba l₀.length cap J1 A xx yy R') (by kernel_rfl) (by kernel_rfl) (by kernel_rfl) ?_ (Steps.cons 0 ?_ (Steps.cons 1 ?_ (Steps.cons 2 ?_ (Steps.cons 3 ?_ (Steps.cons 4 ?_ (Steps.cons 5 ?_ (Steps.cons 6 ?_ (Steps.cons 7 ?_ (Steps.cons 8 ?_ (Steps.cons 9 ?_ (Steps.cons 10 ?_ (Steps.cons 11 ?_ (Steps.cons 12 ?_ (Steps.cons 13 ?_ (Steps.cons 14 ?_ (Steps.cons 15 ?_ (Steps.cons 16 ?_ (Steps.cons 17 ?_ (Steps.nil 18))))))))))))))))))) 18 rfl ?_
          · intro x
            exact ⟨fun _ _ => hO4.drew, fun h => absurd h (by decide), fun _ h => absurd h (by decide), fun h => absurd h (by decide), (Keep.refl _ _).drew, fun h => absurd h (by decide), fun h => absurd h (by decide), fun h => absurd h (by decide), fun h => absurd h (by decide), fun h => absurd h (by decide), fun h => absurd h (by decide), fun h => absurd h (by decide), fun h => absurd h (by decide), fun h => absurd h (by decide), fun h => absurd h (by decide), fun h => absurd h (by decide), fun h => absurd h (by decide), fun h => absurd h (by decide), fun h => absurd h (by decide), fun h => absurd h (by decide), fun h => absurd h (by decide), fun h => absurd h (by decide), fun h => absurd h (by decide), fun h => absurd h (by decide), fun h => absurd h (by decide)⟩
          · intro l x w' hJ hi hd
            obtain ⟨hO00, hO10, hO01, hO11, hK, d15, d17, h0, h1, h2, h3, h4, h5, h6, h7, h8, h9, h10, h11, h12, h13, h14, h15, h16, h17⟩ := hJ
            refine Runs.of (b := ?bB0) ?eB0 ?_
            case eB0 => simp only [putV, Act.put, List.setIfInBounds_toArray, List.set_cons_zero, List.set_cons_succ]; rfl
            intro K' hK'
            go_simp
            exact hK'.go _ rfl ⟨hO00, hO10, hO01, hO11, hK, d15, d17, fun _ => rfl, h1, h2, h3, h4, h5, h6, h7, h8, h9, h10, h11, h12, h13, h14, h15, h16, h17⟩
          · intro l x w' hJ hi hd
            obtain ⟨hO00, hO10, hO01, hO11, hK, d15, d17, h0, h1, h2, h3, h4, h5, h6, h7, h8, h9, h10, h11, h12, h13, h14, h15, h16, h17⟩ := hJ
            refine Runs.of (b := ?bB1) ?eB1 ?_
            case eB1 => simp only [putV, Act.put, List.setIfInBounds_toArray, List.set_cons_zero, List.set_cons_succ]; rfl
            intro K' hK'
            go_simp
            exact hK'.go _ rfl ⟨hO00, hO10, hO01, hO11, hK, d15, d17, h0, fun _ => rfl, h2, h3, h4, h5, h6, h7, h8, h9, h10, h11, h12, h13, h14, h15, h16, h17⟩
          · intro l x w' hJ hi hd
            obtain ⟨hO00, hO10, hO01, hO11, hK, d15, d17, h0, h1, h2, h3, h4, h5, h6, h7, h8, h9, h10, h11, h12, h13, h14, h15, h16, h17⟩ := hJ
            refine Runs.of (b := ?bB2) ?eB2 ?_
            case eB2 => simp only [putV, Act.put, List.setIfInBounds_toArray, List.set_cons_zero, List.set_cons_succ]; rfl
            intro K' hK'
            go_simp
            exact hK'.go _ rfl ⟨hO00, hO10, hO01, hO11, hK, d15, d17, h0, h1, fun _ => rfl, h3, h4, h5, h6, h7, h8, h9, h10, h11, h12, h13, h14, h15, h16, h17⟩
          · intro l x w' hJ hi hd
            obtain ⟨hO00, hO10, hO01, hO11, hK, d15, d17, h0, h1, h2, h3, h4, h5, h6, h7, h8, h9, h10, h11, h12, h13, h14, h15, h16, h17⟩ := hJ
            refine Runs.of (b := ?bB3) ?eB3 ?_
            case eB3 => simp only [putV, Act.put, List.setIfInBounds_toArray, List.set_cons_zero, List.set_cons_succ]; rfl
            intro K' hK'
            go_simp
            exact hK'.go _ rfl ⟨hO00, hO10, hO01, hO11, hK, d15, d17, h0, h1, h2, fun _ => rfl, h4, h5, h6, h7, h8, h9, h10, h11, h12, h13, h14, h15, h16, h17⟩
          · intro l x w' hJ hi hd
            obtain ⟨hO00, hO10, hO01, hO11, hK, d15, d17, h0, h1, h2, h3, h4, h5, h6, h7, h8, h9, h10, h11, h12, h13, h14, h15, h16, h17⟩ := hJ
            have e3 := h3 (show l 3 = true by first | exact hd.1 rfl | exact hd.2.1 rfl | exact hd.2.2.1 rfl | exact hd.2.2.2.1 rfl | exact hd.2.2.2.2.1 rfl | exact hd.2.2.2.2.2.1 rfl)
            refine Runs.of (b := ?bB4) ?eB4 ?_
            case eB4 => simp only [putV, Act.put, List.setIfInBounds_toArray, List.set_cons_zero, List.set_cons_succ, e3]; rfl
            intro K' hK'
            go_simp
            exact hK'.go _ rfl ⟨hO00, hO10, hO01, hO11, hK, d15, d17, h0, h1, h2, h3, fun _ => (by first | rfl | exact congrArg (Value.int .i64) HJW.out | exact congrArg (Value.int .i64) HJV.out), h5, h6, h7, h8, h9, h10, h11, h12, h13, h14, h15, h16, h17⟩
          · intro l x w' hJ hi hd
            obtain ⟨hO00, hO10, hO01, hO11, hK, d15, d17, h0, h1, h2, h3, h4, h5, h6, h7, h8, h9, h10, h11, h12, h13, h14, h15, h16, h17⟩ := hJ
            refine Runs.of (b := ?bB5) ?eB5 ?_
            case eB5 => simp only [putV, Act.put, List.setIfInBounds_toArray, List.set_cons_zero, List.set_cons_succ]; rfl
            intro K' hK'
            go_simp
            exact hK'.go _ rfl ⟨hO00, hO10, hO01, hO11, hK, d15, d17, h0, h1, h2, h3, h4, fun _ => rfl, h6, h7, h8, h9, h10, h11, h12, h13, h14, h15, h16, h17⟩
          · intro l x w' hJ hi hd
            obtain ⟨hO00, hO10, hO01, hO11, hK, d15, d17, h0, h1, h2, h3, h4, h5, h6, h7, h8, h9, h10, h11, h12, h13, h14, h15, h16, h17⟩ := hJ
            refine Runs.of (b := ?bB6) ?eB6 ?_
            case eB6 => simp only [putV, Act.put, List.setIfInBounds_toArray, List.set_cons_zero, List.set_cons_succ]; rfl
            intro K' hK'
            go_simp
            exact hK'.go _ rfl ⟨hO00, hO10, hO01, hO11, hK, d15, d17, h0, h1, h2, h3, h4, h5, fun _ => rfl, h7, h8, h9, h10, h11, h12, h13, h14, h15, h16, h17⟩
          · intro l x w' hJ hi hd
            obtain ⟨hO00, hO10, hO01, hO11, hK, d15, d17, h0, h1, h2, h3, h4, h5, h6, h7, h8, h9, h10, h11, h12, h13, h14, h15, h16, h17⟩ := hJ
            have e6 := h6 (show l 6 = true by first | exact hd.1 rfl | exact hd.2.1 rfl | exact hd.2.2.1 rfl | exact hd.2.2.2.1 rfl | exact hd.2.2.2.2.1 rfl | exact hd.2.2.2.2.2.1 rfl)
            refine Runs.of (b := ?bB7) ?eB7 ?_
            case eB7 => simp only [putV, Act.put, List.setIfInBounds_toArray, List.set_cons_zero, List.set_cons_succ, e6]; rfl
            intro K' hK'
            go_simp
            exact hK'.go _ rfl ⟨hO00, hO10, hO01, hO11, hK, d15, d17, h0, h1, h2, h3, h4, h5, h6, fun _ => (by first | rfl | exact congrArg (Value.int .i64) HJW.out | exact congrArg (Value.int .i64) HJV.out), h8, h9, h10, h11, h12, h13, h14, h15, h16, h17⟩
          · intro l x w' hJ hi hd
            obtain ⟨hO00, hO10, hO01, hO11, hK, d15, d17, h0, h1, h2, h3, h4, h5, h6, h7, h8, h9, h10, h11, h12, h13, h14, h15, h16, h17⟩ := hJ
            have e5 := h5 (show l 5 = true by first | exact hd.1 rfl | exact hd.2.1 rfl | exact hd.2.2.1 rfl | exact hd.2.2.2.1 rfl | exact hd.2.2.2.2.1 rfl | exact hd.2.2.2.2.2.1 rfl)
            have e7 := h7 (show l 7 = true by first | exact hd.1 rfl | exact hd.2.1 rfl | exact hd.2.2.1 rfl | exact hd.2.2.2.1 rfl | exact hd.2.2.2.2.1 rfl | exact hd.2.2.2.2.2.1 rfl)
            refine Runs.of (b := ?bB8) ?eB8 ?_
            case eB8 => simp only [putV, Act.put, List.setIfInBounds_toArray, List.set_cons_zero, List.set_cons_succ, e5, e7]; rfl
            intro K' hK'
            go_simp
            rw [if_pos (by have := HBN.out; omega)]
            exact hK'.go _ rfl ⟨hO00, hO10, hO01, hO11, hK, d15, d17, h0, h1, h2, h3, h4, h5, h6, h7, fun _ => rfl, h9, h10, h11, h12, h13, h14, h15, h16, h17⟩
          · intro l x w' hJ hi hd
            obtain ⟨hO00, hO10, hO01, hO11, hK, d15, d17, h0, h1, h2, h3, h4, h5, h6, h7, h8, h9, h10, h11, h12, h13, h14, h15, h16, h17⟩ := hJ
            have e8 := h8 (show l 8 = true by first | exact hd.1 rfl | exact hd.2.1 rfl | exact hd.2.2.1 rfl | exact hd.2.2.2.1 rfl | exact hd.2.2.2.2.1 rfl | exact hd.2.2.2.2.2.1 rfl)
            have f15 : l 15 = false := by cases hq : l 15 with | false => rfl | true => exact absurd (d15 hq).1 (by simp [hi])
            have f17 : l 17 = false := by cases hq : l 17 with | false => rfl | true => exact absurd (d17 hq).1 (by simp [hi])
            have c0 := (own_at0 (hO00 f15 f17) (HNL.out.trans (by simp)) HAL.out).1
            refine Runs.of (b := ?bB9) ?eB9 ?_
            case eB9 => simp only [putV, Act.put, List.setIfInBounds_toArray, List.set_cons_zero, List.set_cons_succ, e8]; rfl
            intro K' hK'
            go_simp
            exact hK'.go _ rfl ⟨hO00, hO10, hO01, hO11, hK, fun h => ⟨rfl, (d15 h).2⟩, fun h => ⟨rfl, (d17 h).2⟩, h0, h1, h2, h3, h4, h5, h6, h7, h8, fun _ => rfl, h10, h11, h12, h13, h14, h15, h16, h17⟩
          · intro l x w' hJ hi hd
            obtain ⟨hO00, hO10, hO01, hO11, hK, d15, d17, h0, h1, h2, h3, h4, h5, h6, h7, h8, h9, h10, h11, h12, h13, h14, h15, h16, h17⟩ := hJ
            refine Runs.of (b := ?bB10) ?eB10 ?_
            case eB10 => simp only [putV, Act.put, List.setIfInBounds_toArray, List.set_cons_zero, List.set_cons_succ]; rfl
            intro K' hK'
            go_simp
            exact hK'.go _ rfl ⟨hO00, hO10, hO01, hO11, hK, d15, d17, h0, h1, h2, h3, h4, h5, h6, h7, h8, h9, fun _ => rfl, h11, h12, h13, h14, h15, h16, h17⟩
          · intro l x w' hJ hi hd
            obtain ⟨hO00, hO10, hO01, hO11, hK, d15, d17, h0, h1, h2, h3, h4, h5, h6, h7, h8, h9, h10, h11, h12, h13, h14, h15, h16, h17⟩ := hJ
            refine Runs.of (b := ?bB11) ?eB11 ?_
            case eB11 => simp only [putV, Act.put, List.setIfInBounds_toArray, List.set_cons_zero, List.set_cons_succ]; rfl
            intro K' hK'
            go_simp
            exact hK'.go _ rfl ⟨hO00, hO10, hO01, hO11, hK, d15, d17, h0, h1, h2, h3, h4, h5, h6, h7, h8, h9, h10, fun _ => rfl, h12, h13, h14, h15, h16, h17⟩
          · intro l x w' hJ hi hd
            obtain ⟨hO00, hO10, hO01, hO11, hK, d15, d17, h0, h1, h2, h3, h4, h5, h6, h7, h8, h9, h10, h11, h12, h13, h14, h15, h16, h17⟩ := hJ
            have e10 := h10 (show l 10 = true by first | exact hd.1 rfl | exact hd.2.1 rfl | exact hd.2.2.1 rfl | exact hd.2.2.2.1 rfl | exact hd.2.2.2.2.1 rfl | exact hd.2.2.2.2.2.1 rfl)
            have e11 := h11 (show l 11 = true by first | exact hd.1 rfl | exact hd.2.1 rfl | exact hd.2.2.1 rfl | exact hd.2.2.2.1 rfl | exact hd.2.2.2.2.1 rfl | exact hd.2.2.2.2.2.1 rfl)
            refine Runs.of (b := ?bB12) ?eB12 ?_
            case eB12 => simp only [putV, Act.put, List.setIfInBounds_toArray, List.set_cons_zero, List.set_cons_succ, e10, e11]; rfl
            intro K' hK'
            go_simp
            rw [if_pos (by have := HBN.out; omega)]
            exact hK'.go _ rfl ⟨hO00, hO10, hO01, hO11, hK, d15, d17, h0, h1, h2, h3, h4, h5, h6, h7, h8, h9, h10, h11, fun _ => rfl, h13, h14, h15, h16, h17⟩
          · intro l x w' hJ hi hd
            obtain ⟨hO00, hO10, hO01, hO11, hK, d15, d17, h0, h1, h2, h3, h4, h5, h6, h7, h8, h9, h10, h11, h12, h13, h14, h15, h16, h17⟩ := hJ
            have e12 := h12 (show l 12 = true by first | exact hd.1 rfl | exact hd.2.1 rfl | exact hd.2.2.1 rfl | exact hd.2.2.2.1 rfl | exact hd.2.2.2.2.1 rfl | exact hd.2.2.2.2.2.1 rfl)
            have f15 : l 15 = false := by cases hq : l 15 with | false => rfl | true => exact absurd (d15 hq).2 (by simp [hi])
            have f17 : l 17 = false := by cases hq : l 17 with | false => rfl | true => exact absurd (d17 hq).2 (by simp [hi])
            have c0 := (own_at (hO00 f15 f17) (HNL.out.trans (by simp)) HAL.out).1
            refine Runs.of (b := ?bB13) ?eB13 ?_
            case eB13 => simp only [putV, Act.put, List.setIfInBounds_toArray, List.set_cons_zero, List.set_cons_succ, e12]; rfl
            intro K' hK'
            go_simp
            exact hK'.go _ rfl ⟨hO00, hO10, hO01, hO11, hK, fun h => ⟨(d15 h).1, rfl⟩, fun h => ⟨(d17 h).1, rfl⟩, h0, h1, h2, h3, h4, h5, h6, h7, h8, h9, h10, h11, h12, fun _ => rfl, h14, h15, h16, h17⟩
          · intro l x w' hJ hi hd
            obtain ⟨hO00, hO10, hO01, hO11, hK, d15, d17, h0, h1, h2, h3, h4, h5, h6, h7, h8, h9, h10, h11, h12, h13, h14, h15, h16, h17⟩ := hJ
            have e0 := h0 (show l 0 = true by first | exact hd.1 rfl | exact hd.2.1 rfl | exact hd.2.2.1 rfl | exact hd.2.2.2.1 rfl | exact hd.2.2.2.2.1 rfl | exact hd.2.2.2.2.2.1 rfl)
            have e1 := h1 (show l 1 = true by first | exact hd.1 rfl | exact hd.2.1 rfl | exact hd.2.2.1 rfl | exact hd.2.2.2.1 rfl | exact hd.2.2.2.2.1 rfl | exact hd.2.2.2.2.2.1 rfl)
            refine Runs.of (b := ?bB14) ?eB14 ?_
            case eB14 => simp only [putV, Act.put, List.setIfInBounds_toArray, List.set_cons_zero, List.set_cons_succ, e0, e1]; rfl
            intro K' hK'
            go_simp
            rw [if_pos (by have := HBN.out; omega)]
            exact hK'.go _ rfl ⟨hO00, hO10, hO01, hO11, hK, d15, d17, h0, h1, h2, h3, h4, h5, h6, h7, h8, h9, h10, h11, h12, h13, fun _ => rfl, h15, h16, h17⟩
          · intro l x w' hJ hi hd
            obtain ⟨hO00, hO10, hO01, hO11, hK, d15, d17, h0, h1, h2, h3, h4, h5, h6, h7, h8, h9, h10, h11, h12, h13, h14, h15, h16, h17⟩ := hJ
            have e9 := h9 (show l 9 = true by first | exact hd.1 rfl | exact hd.2.1 rfl | exact hd.2.2.1 rfl | exact hd.2.2.2.1 rfl | exact hd.2.2.2.2.1 rfl | exact hd.2.2.2.2.2.1 rfl)
            have e14 := h14 (show l 14 = true by first | exact hd.1 rfl | exact hd.2.1 rfl | exact hd.2.2.1 rfl | exact hd.2.2.2.1 rfl | exact hd.2.2.2.2.1 rfl | exact hd.2.2.2.2.2.1 rfl)
            have L9 := Lib.hid (show l 9 = true by first | exact hd.1 rfl | exact hd.2.1 rfl | exact hd.2.2.1 rfl | exact hd.2.2.2.1 rfl | exact hd.2.2.2.2.1 rfl | exact hd.2.2.2.2.2.1 rfl | exact hd.2.2.2.2.2.2.1 rfl | exact hd.2.2.2.2.2.2.2.1 rfl | exact hd.2.2.2.2.2.2.2.2.1 rfl | exact hd.2.2.2.2.2.2.2.2.2.1 rfl | exact hd.2.2.2.2.2.2.2.2.2.2.1 rfl | exact hd.2.2.2.2.2.2.2.2.2.2.2.1 rfl | exact hd.2.2.2.2.2.2.2.2.2.2.2.2.1 rfl | exact hd.2.2.2.2.2.2.2.2.2.2.2.2.2.1 rfl | exact hd.2.2.2.2.2.2.2.2.2.2.2.2.2.2.1 rfl | exact hd.2.2.2.2.2.2.2.2.2.2.2.2.2.2.2.1 rfl | exact hd.2.2.2.2.2.2.2.2.2.2.2.2.2.2.2.2.1 rfl | exact hd.2.2.2.2.2.2.2.2.2.2.2.2.2.2.2.2.2.1 rfl | exact hd.2.2.2.2.2.2.2.2.2.2.2.2.2.2.2.2.2.2.1 rfl | exact hd.2.2.2.2.2.2.2.2.2.2.2.2.2.2.2.2.2.2.2.1 rfl | exact hd.2.2.2.2.2.2.2.2.2.2.2.2.2.2.2.2.2.2.2.2.1 rfl | exact hd.2.2.2.2.2.2.2.2.2.2.2.2.2.2.2.2.2.2.2.2.2.1 rfl | exact hd.2.2.2.2.2.2.2.2.2.2.2.2.2.2.2.2.2.2.2.2.2.2.1 rfl | exact hd.2.2.2.2.2.2.2.2.2.2.2.2.2.2.2.2.2.2.2.2.2.2.2.1 rfl | exact hd.2.2.2.2.2.2.2.2.2.2.2.2.2.2.2.2.2.2.2.2.2.2.2.2.1 rfl | exact hd.2.2.2.2.2.2.2.2.2.2.2.2.2.2.2.2.2.2.2.2.2.2.2.2.2.1 rfl)
            have L13 := Lib.hid (show l 13 = true by first | exact hd.1 rfl | exact hd.2.1 rfl | exact hd.2.2.1 rfl | exact hd.2.2.2.1 rfl | exact hd.2.2.2.2.1 rfl | exact hd.2.2.2.2.2.1 rfl | exact hd.2.2.2.2.2.2.1 rfl | exact hd.2.2.2.2.2.2.2.1 rfl | exact hd.2.2.2.2.2.2.2.2.1 rfl | exact hd.2.2.2.2.2.2.2.2.2.1 rfl | exact hd.2.2.2.2.2.2.2.2.2.2.1 rfl | exact hd.2.2.2.2.2.2.2.2.2.2.2.1 rfl | exact hd.2.2.2.2.2.2.2.2.2.2.2.2.1 rfl | exact hd.2.2.2.2.2.2.2.2.2.2.2.2.2.1 rfl | exact hd.2.2.2.2.2.2.2.2.2.2.2.2.2.2.1 rfl | exact hd.2.2.2.2.2.2.2.2.2.2.2.2.2.2.2.1 rfl | exact hd.2.2.2.2.2.2.2.2.2.2.2.2.2.2.2.2.1 rfl | exact hd.2.2.2.2.2.2.2.2.2.2.2.2.2.2.2.2.2.1 rfl | exact hd.2.2.2.2.2.2.2.2.2.2.2.2.2.2.2.2.2.2.1 rfl | exact hd.2.2.2.2.2.2.2.2.2.2.2.2.2.2.2.2.2.2.2.1 rfl | exact hd.2.2.2.2.2.2.2.2.2.2.2.2.2.2.2.2.2.2.2.2.1 rfl | exact hd.2.2.2.2.2.2.2.2.2.2.2.2.2.2.2.2.2.2.2.2.2.1 rfl | exact hd.2.2.2.2.2.2.2.2.2.2.2.2.2.2.2.2.2.2.2.2.2.2.1 rfl | exact hd.2.2.2.2.2.2.2.2.2.2.2.2.2.2.2.2.2.2.2.2.2.2.2.1 rfl | exact hd.2.2.2.2.2.2.2.2.2.2.2.2.2.2.2.2.2.2.2.2.2.2.2.2.1 rfl | exact hd.2.2.2.2.2.2.2.2.2.2.2.2.2.2.2.2.2.2.2.2.2.2.2.2.2.1 rfl)
            obtain ⟨u0, cu, fu⟩ : ∃ u, w'.cell? ⟨ba, J1 + 1, none⟩ = some u ∧ w'.frozen? ⟨ba, J1 + 1, none⟩ = false := by cases hq : l 17 with | false => exact ⟨_, own_at (hO00 hi hq) (HNL.out.trans (by simp)) HAL.out⟩ | true => exact ⟨_, own_at (hO01 hi hq) (HNL.out.trans (by simp)) HAL.out⟩
            refine Runs.of (b := ?bB15) ?eB15 ?_
            case eB15 => simp only [putV, Act.put, List.setIfInBounds_toArray, List.set_cons_zero, List.set_cons_succ, e9, e14]; rfl
            intro K' hK'
            go_simp
            have k2 : Keep [ba] w' _ := ((Keep.refl [ba] w').setCell (p := ⟨ba, J1 + 1, none⟩) (.inl (by simp)) (.pointer (some ⟨yy.p, 0, none⟩)))
            exact hK'.go undef rfl ⟨fun h => Bool.noConfusion (show true = false from h), fun _ h => own_set1 (hO00 hi h) (HNL.out.trans (by simp)) HAL.out yy, fun h => Bool.noConfusion (show true = false from h), fun _ h => own_set1 (hO01 hi h) (HNL.out.trans (by simp)) HAL.out yy, hK.trans k2, fun _ => ⟨L9.out, L13.out⟩, d17, h0, h1, h2, h3, h4, h5, h6, h7, h8, h9, h10, h11, h12, h13, h14, fun _ => trivial, h16, h17⟩
          · intro l x w' hJ hi hd
            obtain ⟨hO00, hO10, hO01, hO11, hK, d15, d17, h0, h1, h2, h3, h4, h5, h6, h7, h8, h9, h10, h11, h12, h13, h14, h15, h16, h17⟩ := hJ
            have e2 := h2 (show l 2 = true by first | exact hd.1 rfl | exact hd.2.1 rfl | exact hd.2.2.1 rfl | exact hd.2.2.2.1 rfl | exact hd.2.2.2.2.1 rfl | exact hd.2.2.2.2.2.1 rfl)
            have e4 := h4 (show l 4 = true by first | exact hd.1 rfl | exact hd.2.1 rfl | exact hd.2.2.1 rfl | exact hd.2.2.2.1 rfl | exact hd.2.2.2.2.1 rfl | exact hd.2.2.2.2.2.1 rfl)
            refine Runs.of (b := ?bB16) ?eB16 ?_
            case eB16 => simp only [putV, Act.put, List.setIfInBounds_toArray, List.set_cons_zero, List.set_cons_succ, e2, e4]; rfl
            intro K' hK'
            go_simp
            rw [if_pos (by have := HBN.out; omega)]
            exact hK'.go _ rfl ⟨hO00, hO10, hO01, hO11, hK, d15, d17, h0, h1, h2, h3, h4, h5, h6, h7, h8, h9, h10, h11, h12, h13, h14, h15, fun _ => rfl, h17⟩
          · intro l x w' hJ hi hd
            obtain ⟨hO00, hO10, hO01, hO11, hK, d15, d17, h0, h1, h2, h3, h4, h5, h6, h7, h8, h9, h10, h11, h12, h13, h14, h15, h16, h17⟩ := hJ
            have e13 := h13 (show l 13 = true by first | exact hd.1 rfl | exact hd.2.1 rfl | exact hd.2.2.1 rfl | exact hd.2.2.2.1 rfl | exact hd.2.2.2.2.1 rfl | exact hd.2.2.2.2.2.1 rfl)
            have e16 := h16 (show l 16 = true by first | exact hd.1 rfl | exact hd.2.1 rfl | exact hd.2.2.1 rfl | exact hd.2.2.2.1 rfl | exact hd.2.2.2.2.1 rfl | exact hd.2.2.2.2.2.1 rfl)
            have L9 := Lib.hid (show l 9 = true by first | exact hd.1 rfl | exact hd.2.1 rfl | exact hd.2.2.1 rfl | exact hd.2.2.2.1 rfl | exact hd.2.2.2.2.1 rfl | exact hd.2.2.2.2.2.1 rfl | exact hd.2.2.2.2.2.2.1 rfl | exact hd.2.2.2.2.2.2.2.1 rfl | exact hd.2.2.2.2.2.2.2.2.1 rfl | exact hd.2.2.2.2.2.2.2.2.2.1 rfl | exact hd.2.2.2.2.2.2.2.2.2.2.1 rfl | exact hd.2.2.2.2.2.2.2.2.2.2.2.1 rfl | exact hd.2.2.2.2.2.2.2.2.2.2.2.2.1 rfl | exact hd.2.2.2.2.2.2.2.2.2.2.2.2.2.1 rfl | exact hd.2.2.2.2.2.2.2.2.2.2.2.2.2.2.1 rfl | exact hd.2.2.2.2.2.2.2.2.2.2.2.2.2.2.2.1 rfl | exact hd.2.2.2.2.2.2.2.2.2.2.2.2.2.2.2.2.1 rfl | exact hd.2.2.2.2.2.2.2.2.2.2.2.2.2.2.2.2.2.1 rfl | exact hd.2.2.2.2.2.2.2.2.2.2.2.2.2.2.2.2.2.2.1 rfl | exact hd.2.2.2.2.2.2.2.2.2.2.2.2.2.2.2.2.2.2.2.1 rfl | exact hd.2.2.2.2.2.2.2.2.2.2.2.2.2.2.2.2.2.2.2.2.1 rfl | exact hd.2.2.2.2.2.2.2.2.2.2.2.2.2.2.2.2.2.2.2.2.2.1 rfl | exact hd.2.2.2.2.2.2.2.2.2.2.2.2.2.2.2.2.2.2.2.2.2.2.1 rfl | exact hd.2.2.2.2.2.2.2.2.2.2.2.2.2.2.2.2.2.2.2.2.2.2.2.1 rfl | exact hd.2.2.2.2.2.2.2.2.2.2.2.2.2.2.2.2.2.2.2.2.2.2.2.2.1 rfl | exact hd.2.2.2.2.2.2.2.2.2.2.2.2.2.2.2.2.2.2.2.2.2.2.2.2.2.1 rfl)
            have L13 := Lib.hid (show l 13 = true by first | exact hd.1 rfl | exact hd.2.1 rfl | exact hd.2.2.1 rfl | exact hd.2.2.2.1 rfl | exact hd.2.2.2.2.1 rfl | exact hd.2.2.2.2.2.1 rfl | exact hd.2.2.2.2.2.2.1 rfl | exact hd.2.2.2.2.2.2.2.1 rfl | exact hd.2.2.2.2.2.2.2.2.1 rfl | exact hd.2.2.2.2.2.2.2.2.2.1 rfl | exact hd.2.2.2.2.2.2.2.2.2.2.1 rfl | exact hd.2.2.2.2.2.2.2.2.2.2.2.1 rfl | exact hd.2.2.2.2.2.2.2.2.2.2.2.2.1 rfl | exact hd.2.2.2.2.2.2.2.2.2.2.2.2.2.1 rfl | exact hd.2.2.2.2.2.2.2.2.2.2.2.2.2.2.1 rfl | exact hd.2.2.2.2.2.2.2.2.2.2.2.2.2.2.2.1 rfl | exact hd.2.2.2.2.2.2.2.2.2.2.2.2.2.2.2.2.1 rfl | exact hd.2.2.2.2.2.2.2.2.2.2.2.2.2.2.2.2.2.1 rfl | exact hd.2.2.2.2.2.2.2.2.2.2.2.2.2.2.2.2.2.2.1 rfl | exact hd.2.2.2.2.2.2.2.2.2.2.2.2.2.2.2.2.2.2.2.1 rfl | exact hd.2.2.2.2.2.2.2.2.2.2.2.2.2.2.2.2.2.2.2.2.1 rfl | exact hd.2.2.2.2.2.2.2.2.2.2.2.2.2.2.2.2.2.2.2.2.2.1 rfl | exact hd.2.2.2.2.2.2.2.2.2.2.2.2.2.2.2.2.2.2.2.2.2.2.1 rfl | exact hd.2.2.2.2.2.2.2.2.2.2.2.2.2.2.2.2.2.2.2.2.2.2.2.1 rfl | exact hd.2.2.2.2.2.2.2.2.2.2.2.2.2.2.2.2.2.2.2.2.2.2.2.2.1 rfl | exact hd.2.2.2.2.2.2.2.2.2.2.2.2.2.2.2.2.2.2.2.2.2.2.2.2.2.1 rfl)
            obtain ⟨u0, cu, fu⟩ : ∃ u, w'.cell? ⟨ba, J1, none⟩ = some u ∧ w'.frozen? ⟨ba, J1, none⟩ = false := by cases hq : l 15 with | false => exact ⟨_, own_at0 (hO00 hq hi) (HNL.out.trans (by simp)) HAL.out⟩ | true => exact ⟨_, own_at0 (hO10 hq hi) (HNL.out.trans (by simp)) HAL.out⟩
            refine Runs.of (b := ?bB17) ?eB17 ?_
            case eB17 => simp only [putV, Act.put, List.setIfInBounds_toArray, List.set_cons_zero, List.set_cons_succ, e13, e16]; rfl
            intro K' hK'
            go_simp
            have k2 : Keep [ba] w' _ := ((Keep.refl [ba] w').setCell (p := ⟨ba, J1, none⟩) (.inl (by simp)) (.pointer (some ⟨xx.p, 0, none⟩)))
            exact hK'.go undef rfl ⟨fun _ h => Bool.noConfusion (show true = false from h), fun _ h => Bool.noConfusion (show true = false from h), fun h _ => own_set0 (hO00 h hi) (HNL.out.trans (by simp)) HAL.out xx, fun h _ => own_set0 (hO10 h hi) (HNL.out.trans (by simp)) HAL.out xx, hK.trans k2, d15, fun _ => ⟨L9.out, L13.out⟩, h0, h1, h2, h3, h4, h5, h6, h7, h8, h9, h10, h11, h12, h13, h14, h15, h16, fun _ => trivial⟩
          · intro l x w3 hJ hl
            obtain ⟨hO00, hO10, hO01, hO11, hK, d15, d17, h0, h1, h2, h3, h4, h5, h6, h7, h8, h9, h10, h11, h12, h13, h14, h15, h16, h17⟩ := hJ
            have hO6 := hO11 (hl 15 (by decide)) (hl 17 (by decide))
            have HK6 := Lib.hid (HK2.out.trans (HK4.out.trans hK))
            simp only [putV, Act.put, List.setIfInBounds_toArray, List.set_cons_zero, List.set_cons_succ]
            clear h0 h1 h2 h3 h4 h5 h6 h7 h8 h9 h10 h11 h12 h13 h14 h15 h16 h17 hO00 hO10 hO01 hO11 hK hl hO4 d15 d17
            generalize w3 = w6 at *
            have HO6 := Lib.hid hO6
            clear hO6
            have hn := HN.out.1
            have hbn := HBN.out
            go_wp2_with fail
            go_roundw
            case rel =>
              refine ⟨A, yy :: C, xx, by rw [HAL.out], ?_, ?_, ?_, ?_, ?_, HK6.out⟩
              · have := HAC.out; simp at this ⊢; omega
              · refine List.Perm.trans ?_ HP2.out
                rw [HR2.out, List.cons_append]
                exact List.Perm.append_left _ (List.Perm.swap _ _ _)
              · have := HS2.out
                rw [List.append_assoc] at this; exact this
              · intro c hc
                rcases List.mem_cons.1 hc with rfl | hc
                · have := HBX.out
                  exact Nat.le_of_lt (of_decide_eq_true this.symm)
                · exact HC2.out c hc
              · have := HO6.out
                rw [HR2.out] at this; exact this
            case measure => simp only [intOf]; omega
        | false =>
          have HO4 := Lib.hid hO4
          have hn := HN.out.1
          clear hO4
          go_wp2_with fail
          go_roundw
          case rel =>
            refine ⟨i + 1, A ++ yy :: xx :: R', by go_num, by omega, by omega, HP2.out, ?_, HO4.out, HK2.out.trans (HK4.out.mono (by simp))⟩
            have hS := HS2.out
            have hC := HC2.out
            have hle : yy.gen ≤ xx.gen := by
              have := HBX.out
              exact Nat.le_of_not_lt (of_decide_eq_false this.symm)
            have ht : (A ++ yy :: xx :: R').take (i + 1) = A ++ yy :: xx :: C := by
              rw [HR2.out]
              have hl1 : (A ++ yy :: xx :: C).length = i + 1 := by have := HAC.out; simp at this ⊢; omega
              rw [show A ++ yy :: xx :: (C ++ m.drop (i + 1)) = (A ++ yy :: xx :: C) ++ m.drop (i + 1) by simp, ← hl1, List.take_left]
            rw [ht]
            rw [List.append_assoc, List.singleton_append, List.pairwise_append] at hS
            obtain ⟨hA, hyC, hAC⟩ := hS
            rw [List.pairwise_append]
            refine ⟨hA, ?_, ?_⟩
            · rw [List.pairwise_cons] at hyC ⊢
              refine ⟨?_, List.pairwise_cons.2 ⟨hC, hyC.2⟩⟩
              intro c hc
              rcases List.mem_cons.1 hc with rfl | hc
              · exact hle
              · exact hyC.1 c hc
            · intro a ha c hc
              rcases List.mem_cons.1 hc with rfl | hc
              · exact hAC a ha c (by simp)
              · rcases List.mem_cons.1 hc with rfl | hc
                · exact Nat.le_trans (hAC a ha yy (by simp)) hle
                · exact hAC a ha c (by simp [hc])
          case measure => simp only [intOf]; omega
  · obtain rfl : i = l₀.length := by omega
    have q0 : decide ((l₀.length : Int) < (l₀.length : Int)) = false := by simp
    have HK := Lib.hid hK
    have HP := Lib.hid hp
    have HS := Lib.hid hs
    have HO := Lib.hid hO
    clear hK hp hs hO
    go_wp2_with fail
    go_end0
    refine ⟨rfl, m, HP.out, ?_, HO.out, HK.out⟩
    have := HS.out
    rwa [← HP.out.length_eq, List.take_length] at this
end Go.Proofs.Ytpibpapolcdeiaa
/- slog: SortFunc, at twelve segments at most. -/
namespace Go.Proofs.Ytpibpapolcdeiaa
open Go.ChangeShapes Go.WideShapes Go.ChangeAt Go.RowKit
set_option linter.unusedVariables false
set_option linter.unusedSimpArgs false
set_option maxRecDepth 100000

set_option maxHeartbeats 4000000 in
theorem len64_any {w : World} (n : Nat) (hn : n ≤ 12) : Calls Try.prog 62 #[.int .u64 (n : Int)] w fun e w' => (∃ k, e = .returned (.int .i64 k)) ∧ w' = w := by
  have h : n = 0 ∨ n = 1 ∨ n = 2 ∨ n = 3 ∨ n = 4 ∨ n = 5 ∨ n = 6 ∨ n = 7 ∨ n = 8 ∨ n = 9 ∨ n = 10 ∨ n = 11 ∨ n = 12 := by omega
  rcases h with rfl | rfl | rfl | rfl | rfl | rfl | rfl | rfl | rfl | rfl | rfl | rfl | rfl <;>
  · go_enter Try.func62, Try.ntmps62
    go_wp2_with fail
    go_ret
    exact ⟨⟨_, rfl⟩, rfl⟩
theorem len_any {w : World} (n : Nat) (hn : n ≤ 12) : Calls Try.prog 46 #[.int .u64 (n : Int)] w fun e w' => (∃ k, e = .returned (.int .i64 k)) ∧ w' = w := by
  have HN := Lib.hid hn
  clear hn
  go_enter Try.func46, Try.ntmps46
  go_wp2_with fail
  refine (len64_any n HN.out).mono ?_
  rintro e w' ⟨⟨k, rfl⟩, rfl⟩
  go_wp2_with fail
  go_ret
  exact ⟨⟨_, rfl⟩, rfl⟩
def CMP : Value := .func (.func 30) #[] #[]
set_option maxHeartbeats 4000000 in
theorem insert_nil {w : World} {a : Option Addr} {cap : Nat} : Calls Try.prog 53 #[.slice a 0 cap, .int .i64 0, .int .i64 0, CMP] w fun e w' => e = .returned (.tuple #[]) ∧ w' = w := by
  unfold CMP
  go_enter Try.func53, Try.ntmps53
  go_wp2_with fail
  go_loopw [8] (fun s8 wr => s8 = .int .i64 1 ∧ wr = w) (fun x _ => 0)
  case atStart => exact ⟨rfl, rfl⟩
  case round =>
  obtain ⟨rfl, rfl⟩ := hrel
  go_wp2_with fail
  go_end0
  exact ⟨rfl, rfl⟩
/-- Segments in order. -/
def Sorted (m l : List Sg) : Prop := m.Perm l ∧ m.Pairwise SgLe
theorem ins_all {w : World} {B : Nat} {v : Value} {l : List Sg} (hv : Own w B 76 v (l.map sgPtr)) (hG : ∀ s ∈ l, HasGen w s) (hN : l.length ≤ 12) :
    Calls Try.prog 53 #[v, .int .i64 0, .int .i64 (l.length : Int), CMP] w fun e w' => e = .returned (.tuple #[]) ∧ ∃ m, Sorted m l ∧ Own w' B 76 v (m.map sgPtr) ∧ Keep v.ownBlock.toList w w' := by
  cases l with
  | nil =>
    obtain ⟨a, cap, rfl⟩ := hv.slice
    refine (insert_nil).mono ?_
    rintro e w' ⟨rfl, rfl⟩
    exact ⟨rfl, [], ⟨List.Perm.refl _, List.Pairwise.nil⟩, hv, Keep.refl _ _⟩
  | cons s l =>
    obtain ⟨ba, cap, rfl, _⟩ := hv.at_ (by simp)
    rw [List.length_map] at hv ⊢
    refine (insert_any hv hG ⟨by omega, by simp⟩).mono ?_
    rintro e w' ⟨rfl, m, h1, h2, h3, h4⟩
    exact ⟨rfl, m, ⟨h1, h2⟩, h3, h4⟩
set_option maxHeartbeats 4000000 in
theorem pdq_any {w : World} {B : Nat} {v : Value} {l : List Sg} (k : Int) (hv : Own w B 76 v (l.map sgPtr)) (hG : ∀ s ∈ l, HasGen w s) (hN : l.length ≤ 12) :
    Calls Try.prog 45 #[v, .int .i64 0, .int .i64 (l.length : Int), .int .i64 k, CMP] w fun e w' => e = .returned (.tuple #[]) ∧ ∃ m, Sorted m l ∧ Own w' B 76 v (m.map sgPtr) ∧ Keep v.ownBlock.toList w w' := by
  have HV := Lib.hid hv
  have HG := Lib.hid hG
  have HN := Lib.hid hN
  have q0 : decide ((l.length : Int) ≤ 12) = true := decide_eq_true (by omega)
  have q1 : (l.length ≤ 12) = True := eq_true (by omega)
  have hn := HN.out
  clear hv hG hN
  go_enter Try.func45, Try.ntmps45
  go_wp2_with fail
  go_loopw [1, 2, 3] (fun s1 s2 s3 wr => s1 = .int .i64 0 ∧ s2 = .int .i64 (l.length : Int) ∧ s3 = .int .i64 k ∧ wr = w) (fun _ _ _ _ => 0)
  case atStart => exact ⟨rfl, rfl, rfl, rfl⟩
  case round =>
  obtain ⟨rfl, rfl, rfl, rfl⟩ := hrel
  go_wp2_with fail
  refine (ins_all HV.out HG.out HN.out).mono ?_
  rintro e w' ⟨rfl, h⟩
  have H := Lib.hid h
  clear h
  go_wp2_with fail
  refine bodyPost_ret (v := .tuple #[]) (results_none (by kernel_rfl) _ _ _) rfl ?_
  exact ⟨rfl, H.out⟩
set_option maxHeartbeats 4000000 in
theorem sort_any {w : World} {B : Nat} {v : Value} {l : List Sg} (hv : Own w B 76 v (l.map sgPtr)) (hG : ∀ s ∈ l, HasGen w s) (hN : l.length ≤ 12) :
    Calls Try.prog 29 #[v, CMP] w fun e w' => e = .returned (.tuple #[]) ∧ ∃ m, Sorted m l ∧ Own w' B 76 v (m.map sgPtr) ∧ Keep v.ownBlock.toList w w' := by
  have HV := Lib.hid hv
  have HG := Lib.hid hG
  have HN := Lib.hid hN
  obtain ⟨a, cap, hvv⟩ := hv.slice
  rw [List.length_map] at hvv
  subst hvv
  have hn := HN.out
  clear hv hG hN
  go_enter Try.func29, Try.ntmps29
  go_wp2_with fail
  refine (len_any l.length HN.out).mono ?_
  rintro e w' ⟨⟨k, rfl⟩, rfl⟩
  go_wp2_with fail
  refine (pdq_any k HV.out HG.out HN.out).mono ?_
  rintro e w2 ⟨rfl, h⟩
  have H := Lib.hid h
  clear h
  go_wp2_with fail
  go_end0
  exact ⟨rfl, H.out⟩
end Go.Proofs.Ytpibpapolcdeiaa
/- slog: DeleteFunc. -/
namespace Go.Proofs.Ytpibpapolcdeiaa
open Go.ChangeShapes Go.WideShapes Go.ChangeAt Go.RowKit
set_option linter.unusedVariables false
set_option linter.unusedSimpArgs false
set_option maxRecDepth 100000

theorem Own.parts {w : World} {base : Nat} {E : TypeId} {g n cap : Nat} {vs : List Value} (h : Own w base E (.slice (some ⟨g, 0, none⟩) n cap) vs) (hn : n = vs.length) :
    ∃ cs, Blk w g cs E ∧ cs.length = cap ∧ n ≤ cap ∧ cap ≤ maxLen ∧ base ≤ g ∧ cs.take n = vs := by
  subst hn
  rcases h.2 with ⟨he, _⟩ | ⟨g', cap', cur, he, hb, hg, hc, hm, hs, ht⟩
  · cases he
  · injection he with h1 h2 h3
    injection h1 with h1
    injection h1 with h1
    subst h1 h3
    refine ⟨cur.toList, hg, by simpa using hs, hc, hm, hb, by simpa using ht⟩
theorem Own.ofBlk {w : World} {base : Nat} {E : TypeId} {g n cap : Nat} {cs : List Value} (h : Blk w g cs E) (h1 : cs.length = cap) (h2 : n ≤ cap) (h3 : cap ≤ maxLen) (h4 : base ≤ g) : Own w base E (.slice (some ⟨g, 0, none⟩) n cap) (cs.take n) := by
  have hl : (cs.take n).length = n := by rw [List.length_take]; omega
  refine ⟨by simp, .inr ⟨g, cap, cs.toArray, by rw [hl], h4, h, by rw [hl]; exact h2, h3, by simpa using h1, by rw [hl]; simp⟩⟩
def nilP : Value := .pointer none
theorem zeroSeg (w : World) : (zeroValue 76).run Try.prog w = .ok nilP w := by kernel_rfl
theorem Own.clear {w : World} {base : Nat} {E : TypeId} {g n cap i : Nat} {vs : List Value} (h : Own w base E (.slice (some ⟨g, 0, none⟩) n cap) vs) (hn : n = vs.length) (hi : i ≤ n) :
    Own (w.setCells g i (List.replicate (n - i) nilP)) base E (.slice (some ⟨g, 0, none⟩) i cap) (vs.take i) ∧ Keep [g] w (w.setCells g i (List.replicate (n - i) nilP)) := by
  obtain ⟨cs, hb, h1, h2, h3, h4, h5⟩ := h.parts hn
  have hb2 := Blk.setCells (List.replicate (n - i) nilP) i w cs hb (by rw [List.length_replicate]; omega)
  refine ⟨?_, ?_⟩
  · have hl : (over cs i (List.replicate (n - i) nilP)).length = cap := by
      unfold over; simp; omega
    have := Own.ofBlk (base := base) hb2 hl (n := i) (by omega) h3 h4
    have e : (over cs i (List.replicate (n - i) nilP)).take i = vs.take i := by
      unfold over
      rw [List.take_append_of_le_length (by rw [List.length_take]; omega), List.take_take, Nat.min_self, ← h5, List.take_take, Nat.min_eq_left hi]
    rw [e] at this
    exact this
  · exact Keep.setCells _ _ _ _ (Keep.refl [g] w) (.inl (by simp))
theorem filter_step {α : Type} (p : α → Bool) (l : List α) (j : Nat) (h : j < l.length) : (l.take (j + 1)).filter p = (l.take j).filter p ++ (if p l[j] then [l[j]] else []) := by
  rw [List.take_add_one, List.filter_append, List.getElem?_eq_getElem h]
  cases hp : p l[j] <;> simp [hp]

theorem del_none {pd : Nat → Bool} {l : List Sg} (h : ¬ l.findIdx (fun s => pd s.gen) < l.length) : l.filter (fun s => !pd s.gen) = l := by
  rw [List.filter_eq_self]
  intro s hs
  have : ∀ x ∈ l, pd x.gen = false := by
    have := List.findIdx_le_length (xs := l) (p := fun s => pd s.gen)
    have he : l.findIdx (fun s => pd s.gen) = l.length := by omega
    rw [List.findIdx_eq_length] at he
    exact he
  simp [this s hs]
theorem del_first {pd : Nat → Bool} {l : List Sg} (h : l.findIdx (fun s => pd s.gen) < l.length) : (l.take (l.findIdx (fun s => pd s.gen) + 1)).filter (fun s => !pd s.gen) = l.take (l.findIdx (fun s => pd s.gen)) := by
  have h1 : pd (l[l.findIdx (fun s => pd s.gen)]).gen = true := List.findIdx_getElem (w := h)
  rw [filter_step _ _ _ h, h1]
  simp only [Bool.not_true, Bool.false_eq_true, if_false, List.append_nil]
  rw [List.filter_eq_self]
  intro s hs
  obtain ⟨j, hj, rfl⟩ := List.getElem_of_mem hs
  rw [List.getElem_take]
  rw [List.length_take] at hj
  have := List.not_of_lt_findIdx (xs := l) (p := fun s => pd s.gen) (i := j) (by omega)
  simpa using this
section
variable {w : World} {B c1 c2 : Nat} {v : Value} {l : List Sg} {pd : Nat → Bool}
set_option maxHeartbeats 8000000 in
theorem delete_begin (hv : Own w B 76 v (l.map sgPtr)) (hP : ∀ W, Keep v.ownBlock.toList w W → Says W 48 c1 c2 l pd) (hN : l.length ≤ 1000) :
    Calls Try.prog 31 #[v, fnV 48 c1 c2] w fun e w' => ∃ v', e = .returned v' ∧ Own w' B 76 v' ((l.filter (fun s => !pd s.gen)).map sgPtr) ∧ Keep v.ownBlock.toList w w' ∧ v'.ownBlock = v.ownBlock := by
  have HV := Lib.hid hv
  have HP := Lib.hid hP
  have HN := Lib.hid hN
  have hidx := @index_begin w B c1 c2 v l pd hv (fun W k => hP W (k.mono (by simp))) hN
  have HI := Lib.hid hidx
  obtain ⟨a, cap, hvv⟩ := hv.slice
  rw [List.length_map] at hvv
  subst hvv
  clear hv hP hN hidx
  go_enter Try.func31, Try.ntmps31
  go_wp2_with fail
  refine HI.out.mono ?_
  rintro e w1 ⟨rfl, k1⟩
  have HK1 := Lib.hid k1
  clear k1
  by_cases hf : l.findIdx (fun s => pd s.gen) < l.length
  case neg =>
    have HF := Lib.hid (del_none hf)
    rw [show fstI pd l = -1 from if_neg hf]
    clear hf
    go_wp2_with fail
    go_ret
    exact ⟨_, rfl, by rw [HF.out]; exact HV.out.keep HK1.out (by simp), HK1.out.mono (by simp), rfl⟩
  obtain ⟨i0, hi0⟩ : ∃ i0, i0 = l.findIdx (fun s => pd s.gen) := ⟨_, rfl⟩
  rw [show fstI pd l = (i0 : Int) from by rw [hi0]; exact if_pos hf]
  have HF := Lib.hid (del_first hf)
  rw [← hi0] at HF hf
  obtain ⟨ba, hba⟩ : ∃ ba, a = some ⟨ba, 0, none⟩ := by
    obtain ⟨g, cap', he, _⟩ := HV.out.at_ (by rw [List.length_map]; omega)
    injection he with h1
    exact ⟨g, h1⟩
  subst hba
  have HL := Lib.hid hf
  have q1 : ((i0 : Int) == -1) = false := by simp
  have hn := HN.out
  have hl0 := HL.out
  clear hf hi0
  go_wp2_with fail
  go_loopw [5, 6] (fun s5 s6 wr => ∃ (i j : Nat) (K : List Sg) (arr : List Value), s5 = .int .i64 (i : Int) ∧ s6 = .int .i64 (j : Int) ∧ i < j ∧ j ≤ l.length ∧ K.length = i ∧ (l.take j).filter (fun s => !pd s.gen) = K ∧ arr.take i = K.map sgPtr ∧ arr.drop j = (l.drop j).map sgPtr ∧ arr.length = l.length ∧ Own wr B 76 (.slice (some ⟨ba, 0, none⟩) l.length cap) arr ∧ Keep [ba] w wr) (fun _ x _ => l.length + 1 - (intOf x).toNat)
  case atStart =>
    refine ⟨i0, i0 + 1, l.take i0, l.map sgPtr, rfl, by go_num, by omega, by omega, by rw [List.length_take]; omega, HF.out, by rw [List.map_take], by rw [List.map_drop], by simp, HV.out.keep HK1.out (by simp), HK1.out.mono (by simp)⟩
  case round =>
  obtain ⟨i, j, K, arr, rfl, rfl, hij, hjn, hKl, hKf, ht, hd, hal, hO, hK⟩ := hrel
  have HIJ := Lib.hid hij
  have HKL := Lib.hid hKl
  have HKF := Lib.hid hKf
  have HT := Lib.hid ht
  have HD := Lib.hid hd
  have HAL := Lib.hid hal
  have HO := Lib.hid hO
  have HK := Lib.hid hK
  by_cases hlt : j < l.length
  · have q0 : decide ((j : Int) < (l.length : Int)) = true := decide_eq_true (by omega)
    have c0 : wr.cell? ⟨ba, j, none⟩ = some (.pointer (some ⟨(l[j]).p, 0, none⟩)) := by
      rw [(hO.cell hal.symm j hlt).1]
      have : (arr.drop j)[0]? = arr[j]? := by rw [List.getElem?_drop, Nat.add_zero]
      rw [← this, hd, List.getElem?_map, List.getElem?_drop, Nat.add_zero, List.getElem?_eq_getElem hlt]
      rfl
    have hS := HP.out wr hK l[j] (List.getElem_mem hlt)
    unfold sgPtr at hS
    have HS := Lib.hid hS
    have HLT := Lib.hid hlt
    have HFS := Lib.hid (filter_step (fun s => !pd s.gen) l j hlt)
    clear hS hKl hKf ht hd hal hO hK
    unfold fnV
    go_wp2_with fail
    refine HS.out.mono ?_
    rintro e w2 ⟨rfl, k2⟩
    have HK2 := Lib.hid k2
    clear k2 c0
    cases hp : pd (l[j]).gen with
    | true =>
      have HPD := Lib.hid hp
      clear hp hij
      go_wp2_with fail
      go_roundw
      case rel =>
        refine ⟨i, j + 1, K, arr, rfl, by go_num, by have := HIJ.out; omega, by omega, HKL.out, ?_, HT.out, ?_, HAL.out, HO.out.keep HK2.out (by simp), HK.out.trans (HK2.out.mono (by simp))⟩
        · rw [HFS.out, HKF.out, if_neg (by rw [Bool.not_eq_true']; simp; exact HPD.out), List.append_nil]
        · rw [← List.drop_drop, HD.out, ← List.map_drop, List.drop_drop]
      case measure => simp only [intOf]; omega
    | false =>
      have HPD := Lib.hid hp
      have hO2 := HO.out.keep HK2.out (by simp)
      have hcf := hO2.cell HAL.out.symm i (by omega)
      obtain ⟨u0, c0, f0⟩ : ∃ u, w2.cell? ⟨ba, i, none⟩ = some u ∧ w2.frozen? ⟨ba, i, none⟩ = false := ⟨_, hcf.1.trans (List.getElem?_eq_getElem (by rw [HAL.out]; omega)), hcf.2⟩
      have hS2 := (hO2.set HAL.out.symm i (.pointer (some ⟨(l[j]).p, 0, none⟩))).1
      have HS2 := Lib.hid hS2
      have hil : i < l.length := by omega
      clear hp hij hO2 hcf hS2
      go_wp2_with fail
      go_roundw
      case rel =>
        refine ⟨i + 1, j + 1, K ++ [l[j]], arr.set i (sgPtr l[j]), by go_num, by go_num, by have := HIJ.out; omega, by omega, by simp [HKL.out], ?_, ?_, ?_, by rw [List.length_set]; exact HAL.out, HS2.out, ?_⟩
        · rw [HFS.out, HKF.out, if_pos (by simp; exact HPD.out)]
          rfl
        · rw [List.take_add_one, List.take_set_of_le (Nat.le_refl _), HT.out, List.getElem?_set_self (by rw [HAL.out]; omega)]; simp
        · rw [List.drop_set_of_lt (by have := HIJ.out; omega), ← List.drop_drop, HD.out, ← List.map_drop, List.drop_drop]
        · exact (HK.out.trans (HK2.out.mono (by simp))).setCell (.inl (by simp)) _
      case measure => simp only [intOf]; omega
  · obtain rfl : j = l.length := by omega
    have q0 : decide ((l.length : Int) < (l.length : Int)) = false := by simp
    have hil : i < l.length := by omega
    obtain ⟨cs, hb, hcs, hcap, hcm, hbg, _⟩ := hO.parts hal.symm
    have hic : ¬ cap = i := by omega
    have hic2 : i ≤ cap := by omega
    have hcl : ∀ ty, (Builtin.clear_ #[73] ty #[.slice (some ⟨ba, i, none⟩) (l.length - i) (cap - i)]).run Try.prog wr = .ok (.tuple #[]) (wr.setCells ba i (List.replicate (l.length - i) nilP)) := fun ty =>
      Lib.run_clear_slice wr _ _ ty nilP Try.underlying73 (zeroSeg) rfl rfl ba i _ _ (by omega)
        (fun t ht => by rw [(hO.cell hal.symm (i + t) (by omega)).1, List.getElem?_eq_getElem (by omega)]; rfl) (fun t ht => (hO.cell hal.symm (i + t) (by omega)).2)
    have hC := hO.clear hal.symm (by omega : i ≤ l.length)
    have HC := Lib.hid hC
    obtain ⟨W, hW⟩ : ∃ W, W = wr.setCells ba i (List.replicate (l.length - i) nilP) := ⟨_, rfl⟩
    rw [← hW] at hcl HC
    clear hW hC hb hcs hO hK ht hd hKf hKl hal
    go_wp2_with fail
    go_ret
    refine ⟨_, rfl, ?_, ?_, rfl⟩
    · have h1 := HC.out.1
      rw [HT.out, ← HKF.out, List.take_length] at h1
      exact h1
    · exact HK.out.trans HC.out.2
set_option maxHeartbeats 4000000 in
theorem delete_open (hv : Own w B 76 v (l.map sgPtr)) (hP : ∀ W, Keep [] w W → Says W 32 c1 c2 l pd) (hN : l.length ≤ 1000) (hno : ∀ s ∈ l, pd s.gen = false) :
    Calls Try.prog 31 #[v, fnV 32 c1 c2] w fun e w' => e = .returned v ∧ Keep [] w w' := by
  have HV := Lib.hid hv
  have hidx := @index_open w B c1 c2 v l pd hv hP hN
  have HI := Lib.hid hidx
  have hF : fstI pd l = -1 := by
    refine if_neg ?_
    rw [List.findIdx_eq_length.2 (fun x hx => by simp [hno x hx])]
    omega
  have HFF := Lib.hid hF
  obtain ⟨a, cap, hvv⟩ := hv.slice
  rw [List.length_map] at hvv
  subst hvv
  clear hv hP hN hidx hF hno
  go_enter Try.func31, Try.ntmps31
  go_wp2_with fail
  refine HI.out.mono ?_
  rintro e w1 ⟨rfl, k1⟩
  have HK1 := Lib.hid k1
  clear k1
  rw [HFF.out]
  go_wp2_with fail
  go_ret
  exact ⟨rfl, HK1.out⟩
end
end Go.Proofs.Ytpibpapolcdeiaa
/- slog: a log in memory; its small functions. -/
namespace Go.Proofs.Ytpibpapolcdeiaa
open Go.ChangeShapes Go.WideShapes Go.ChangeAt Go.RowKit
set_option linter.unusedVariables false
set_option linter.unusedSimpArgs false
set_option maxRecDepth 100000

/-- The blocks of a log. -/
def lgF (lb : Nat) (vl : Value) (l : List Sg) : List Nat := lb :: (vl.ownBlock.toList ++ sgF l)
structure LogAt (w : World) (B lb d frm segs nx run : Nat) (fr : Bool) (vl : Value) (l : List Sg) : Prop where
  blk : Blk w lb (lgC d (frm : Int) (segs : Int) vl (nx : Int) (run : Int) fr) 75
  row : SgRow w B vl l
  nd : (sgF l).Nodup
  new : B ≤ lb
section
variable {w w' : World} {B lb d frm segs nx run : Nat} {fr : Bool} {vl : Value} {l : List Sg}
theorem SgRow.keep {S : List Nat} (h : SgRow w B vl l) (k : Keep S w w') (hS : ∀ q ∈ vl.ownBlock.toList ++ sgF l, q ∉ S) : SgRow w' B vl l :=
  ⟨h.own.keep k (fun q hq => hS q (List.mem_append_left _ (Option.mem_toList.2 hq))), fun s hs => (h.ok s hs).keep k (fun q hq => hS q (List.mem_append_right _ (List.mem_flatMap.2 ⟨s, hs, hq⟩)))⟩
theorem LogAt.keep {S : List Nat} (h : LogAt w B lb d frm segs nx run fr vl l) (k : Keep S w w') (hS : ∀ q ∈ lgF lb vl l, q ∉ S) : LogAt w' B lb d frm segs nx run fr vl l :=
  ⟨h.blk.keep k (hS lb (by simp [lgF])), h.row.keep k (fun q hq => hS q (List.mem_cons_of_mem _ hq)), h.nd, h.new⟩
theorem LogAt.still (h : LogAt w B lb d frm segs nx run fr vl l) (k : Keep [] w w') : LogAt w' B lb d frm segs nx run fr vl l := h.keep k (by simp)
theorem LogAt.ty (h : LogAt w B lb d frm segs nx run fr vl l) : ∀ q ∈ lgF lb vl l, Ty w q 75 ∨ Ty w q 76 ∨ Ty w q 80 ∨ Ty w q 57 ∨ Ty w q 5 := by
  intro q hq
  unfold lgF at hq
  rcases List.mem_cons.1 hq with rfl | hq
  · exact .inl h.blk.ty
  · rcases List.mem_append.1 hq with hq | hq
    · exact .inr (.inl (h.row.own.ty q (Option.mem_toList.1 hq)))
    · obtain ⟨s, hs, hq⟩ := List.mem_flatMap.1 hq
      exact .inr (.inr ((h.row.ok s hs).ty q hq))
theorem LogAt.lt (h : LogAt w B lb d frm segs nx run fr vl l) : ∀ q ∈ lgF lb vl l, B ≤ q ∧ q < w.heap.size := by
  intro q hq
  unfold lgF at hq
  rcases List.mem_cons.1 hq with rfl | hq
  · exact ⟨h.new, h.blk.lt⟩
  · rcases List.mem_append.1 hq with hq | hq
    · exact h.row.own.lt q (Option.mem_toList.1 hq)
    · obtain ⟨s, hs, hq⟩ := List.mem_flatMap.1 hq
      exact (h.row.ok s hs).lt q hq
theorem LogAt.apartT {T : TypeId} {b : Nat} (h : LogAt w B lb d frm segs nx run fr vl l) (ht : Ty w b T) (hn : T ∉ [75, 76, 80, 57, 5]) : b ∉ lgF lb vl l := by
  intro hm
  simp only [List.mem_cons, List.not_mem_nil, or_false, not_or] at hn
  obtain ⟨n1, n2, n3, n4, n5⟩ := hn
  rcases h.ty b hm with t | t | t | t | t
  · exact ht.ne t n1 rfl
  · exact ht.ne t n2 rfl
  · exact ht.ne t n3 rfl
  · exact ht.ne t n4 rfl
  · exact ht.ne t n5 rfl
theorem LogAt.apart {L : List Sec} {sb c d0 : Nat} (h : LogAt w B lb d frm segs nx run fr vl l) (hd : IsDev w d0 sb L c) : ∀ q ∈ lgF lb vl l, q ∉ [d0, sb] := by
  intro q hq hm
  simp only [List.mem_cons, List.not_mem_nil, or_false] at hm
  rcases hm with rfl | rfl
  · exact h.apartT hd.dev.ty (by decide) hq
  · exact h.apartT hd.secs.ty (by decide) hq
theorem LogAt.seg_at (h : LogAt w B lb d frm segs nx run fr vl l) (i : Nat) (s : Sg) (hs : l[i]? = some s) : ∃ ba cap, vl = .slice (some ⟨ba, 0, none⟩) l.length cap ∧ w.cell? ⟨ba, i, none⟩ = some (.pointer (some ⟨s.p, 0, none⟩)) := by
  have hi : i < l.length := (List.getElem?_eq_some_iff.1 hs).1
  obtain ⟨ba, cap, he, _⟩ := h.row.own.at_ (by rw [List.length_map]; omega)
  rw [List.length_map] at he
  subst he
  refine ⟨ba, cap, rfl, ?_⟩
  rw [(h.row.own.cell (by simp) i hi).1, List.getElem?_map, hs]
  rfl
theorem LogAt.slice (h : LogAt w B lb d frm segs nx run fr vl l) : ∃ a cap, vl = .slice a l.length cap := by
  obtain ⟨a, cap, he⟩ := h.row.own.slice
  rw [List.length_map] at he
  exact ⟨a, cap, he⟩
theorem rcCs_at : ∀ (L : List Rc) (i : Nat) (hi : i < L.length), (rcCs L)[i * 2]? = some (.int .i64 ((L[i]).r.1 : Int)) ∧ (rcCs L)[i * 2 + 1]? = some (L[i]).v
  | y :: L, 0, _ => by simp [rcCs, rcC]
  | y :: L, i + 1, hi => by
    have ih := rcCs_at L i (by simpa using hi)
    have e : rcCs (y :: L) = rcC y ++ rcCs L := by simp [rcCs]
    have h2 : (rcC y).length = 2 := rfl
    rw [e]
    refine ⟨?_, ?_⟩
    · rw [List.getElem?_append_right (by rw [h2]; omega), h2, show (i + 1) * 2 - 2 = i * 2 by omega, ih.1]; rfl
    · rw [List.getElem?_append_right (by rw [h2]; omega), h2, show (i + 1) * 2 + 1 - 2 = i * 2 + 1 by omega, ih.2]; rfl
theorem rcCs_len (L : List Rc) : (rcCs L).length = L.length * 2 := by
  induction L with
  | nil => rfl
  | cons y L ih => rw [show rcCs (y :: L) = rcC y ++ rcCs L by simp [rcCs], List.length_append, ih, show (rcC y).length = 2 from rfl, List.length_cons]; omega
theorem RRow.at_ {v : Value} {L : List Rc} (h : RRow w B v L) (i : Nat) (hi : i < L.length) : ∃ g cap, v = .slice (some ⟨g, 0, none⟩) L.length cap ∧ w.cell? ⟨g, i * 2, none⟩ = some (.int .i64 ((L[i]).r.1 : Int)) ∧ w.cell? ⟨g, i * 2 + 1, none⟩ = some (L[i]).v := by
  have ho := h.own
  rcases h.own.2 with ⟨_, hn⟩ | ⟨g, cap, cur, he, _⟩
  · omega
  · subst he
    refine ⟨g, cap, rfl, ?_, ?_⟩
    · rw [World.ownsRow.cellAt ho (i * 2) (by omega), (rcCs_at L i hi).1]
    · rw [World.ownsRow.cellAt ho (i * 2 + 1) (by omega), (rcCs_at L i hi).2]
/-- Flush, Next. -/
theorem LFlush_any {L : List Sec} {sb c : Nat} (h : LogAt w B lb d frm segs nx run fr vl l) (hd : IsDev w d sb L c) (hc : c < 1099511627776) :
    Calls Try.prog 25 #[.pointer (some ⟨lb, 0, none⟩)] w fun e w' => e = .returned (.int .i64 0) ∧ IsDev w' d sb (L.map flushSec) (c + 1) ∧ Keep [d, sb] w w' := by
  have c0 := lg_0 h.blk
  have HF := Lib.hid (Flush_any hd hc)
  clear h hd hc
  go_enter Try.func25, Try.ntmps25
  go_wp2_with fail
  refine HF.out.mono ?_
  rintro e w2 ⟨rfl, h1, h2⟩
  have H1 := Lib.hid h1
  have H2 := Lib.hid h2
  clear h1 h2 c0
  go_wp2_with fail
  go_ret
  exact ⟨rfl, H1.out, H2.out⟩
def firstPos (l : List Sg) (nx : Nat) : Nat := match l.flatMap Sg.rs with | [] => nx | r :: _ => r.1
set_option maxHeartbeats 4000000 in
theorem First_any (h : LogAt w B lb d frm segs nx run fr vl l) (hl : l.length ≤ 1000) :
    Calls Try.prog 24 #[.pointer (some ⟨lb, 0, none⟩)] w fun e w' => e = .returned (.int .i64 (firstPos l nx : Int)) ∧ w' = w := by
  have c3 := lg_3 h.blk
  obtain ⟨a, cap, rfl⟩ := h.slice
  have H := Lib.hid h
  have HL := Lib.hid hl
  clear h hl
  go_enter Try.func24, Try.ntmps24
  go_wp2_with fail
  clear c3
  go_loopw [12] (fun s12 wr => ∃ i : Nat, s12 = .int .i64 (i : Int) ∧ i ≤ l.length ∧ (l.take i).flatMap Sg.rs = [] ∧ wr = w) (fun x _ => l.length + 1 - (intOf x).toNat)
  case atStart => exact ⟨0, rfl, Nat.zero_le _, by simp, rfl⟩
  case round =>
  obtain ⟨i, rfl, hi, he, rfl⟩ := hrel
  by_cases hlt : i < l.length
  · have q0 : decide ((i : Int) < (l.length : Int)) = true := decide_eq_true (by omega)
    obtain ⟨s, hsi⟩ : ∃ s, l[i]? = some s := ⟨_, List.getElem?_eq_getElem hlt⟩
    obtain ⟨ba, cap', hv, c0⟩ := H.out.seg_at i s hsi
    injection hv with hv
    subst hv
    have hs := H.out.row.ok s (List.mem_of_getElem? hsi)
    have c4 := seg_4 hs.blk
    obtain ⟨ra, rc, hrv⟩ := hs.recs.slice
    rw [hrv] at c4
    have HS := Lib.hid hs
    have HE := Lib.hid he
    have HRV := Lib.hid hrv
    have HLT := Lib.hid hlt
    have HSI := Lib.hid hsi
    have hn := HL.out
    clear hs he hrv hsi
    cases hr : s.recs with
    | nil =>
      rw [hr] at c4
      have q1 : decide ((0 : Int) < ((([] : List Rc).length : Nat) : Int)) = false := by simp
      have HR := Lib.hid hr
      clear hr
      rw [show (([] : List Rc).length : Nat) = 0 from rfl] at c4
      go_wp2_with fail
      go_roundw
      case rel =>
        refine ⟨i + 1, by go_num, by omega, ?_, by first | exact rfl | trivial⟩
        rw [List.take_add_one, List.flatMap_append, HE.out, HSI.out]
        simp [Sg.rs, HR.out]
      case measure => simp only [intOf]; omega
    | cons y ys =>
      have HR := Lib.hid hr
      obtain ⟨g, gc, hg, k0, k1⟩ := HS.out.recs.at_ 0 (by rw [hr]; simp)
      rw [HRV.out] at hg
      injection hg with hg1 hg2 hg3
      subst hg1 hg3
      rw [Nat.zero_mul] at k0
      rw [hr] at c4
      have e0 : s.recs[0]'(by rw [hr]; simp) = y := by simp [hr]
      rw [e0] at k0
      clear k1
      rw [List.length_cons] at c4
      have q1 : decide ((0 : Int) < ((ys.length + 1 : Nat) : Int)) = true := decide_eq_true (by omega)
      have q2 : (0 < ys.length + 1) = True := eq_true (by omega)
      clear hr hg2 e0
      go_wp2_with fail
      go_ret
      refine ⟨?_, rfl⟩
      have : l.flatMap Sg.rs = y.r :: (ys.map (·.r) ++ (l.drop (i + 1)).flatMap Sg.rs) := by
        conv => lhs; rw [← List.take_append_drop i l, List.flatMap_append, HE.out, List.drop_eq_getElem_cons HLT.out, (List.getElem?_eq_some_iff.1 HSI.out).2]
        simp [Sg.rs, HR.out]
      unfold firstPos
      rw [this]
      rfl
  · obtain rfl : i = l.length := by omega
    have q0 : decide ((l.length : Int) < (l.length : Int)) = false := by simp
    have HE := Lib.hid he
    have c4 := lg_4 H.out.blk
    clear he
    go_wp2_with fail
    go_ret
    refine ⟨?_, rfl⟩
    have := HE.out
    rw [List.take_length] at this
    unfold firstPos
    rw [this]
    rfl
end
end Go.Proofs.Ytpibpapolcdeiaa
/- slog: All. -/
namespace Go.Proofs.Ytpibpapolcdeiaa
open Go.ChangeShapes Go.WideShapes Go.ChangeAt Go.RowKit
set_option linter.unusedVariables false
set_option linter.unusedSimpArgs false
set_option maxRecDepth 100000

theorem flat_le : ∀ (l : List Sg) (n : Nat), (∀ s ∈ l, s.recs.length ≤ n) → (l.flatMap Sg.rs).length ≤ l.length * n
  | [], n, _ => by simp
  | s :: l, n, h => by
    have h1 := h s (by simp)
    have ih := flat_le l n (fun x hx => h x (by simp [hx]))
    simp only [List.flatMap_cons, List.length_append, List.length_cons, Sg.rs, List.length_map]

    rw [Nat.add_mul]
    omega
def allJ (w0 : World) (B0 rb pos : Nat) (oa ya : Option Addr) (ocap ycap : Nat) (L0 : List Rc) (body : List Nat) (l : Nat → Bool) (x : Nat → Value) (w' : World) : Prop :=
  ∃ ca ccap va vcap B7, (l 8 = false → Blk w' rb [.int .i64 (pos : Int), .slice ya body.length ycap] 57) ∧
  (Buf w' 0 5 (.slice ya body.length ycap) body) ∧
  (l 8 = false → RRow w' B0 (.slice oa L0.length ocap) L0) ∧
  (l 8 = true → RRow w' B0 (.slice va (L0.length + 1) vcap) (L0 ++ [⟨(pos, body), .slice ca body.length ccap⟩])) ∧
  (l 8 = true → l 2 = true ∧ l 4 = true ∧ l 5 = true) ∧
  (l 9 = true → l 0 = true ∧ l 8 = true) ∧
  (l 5 = true → l 4 = true) ∧
  (l 9 = false → x 9 = .slice oa L0.length ocap) ∧
  (Keep (.slice oa L0.length ocap : Value).ownBlock.toList w0 w') ∧
  (l 0 = true → x 0 = .slice oa L0.length ocap) ∧
  (l 1 = true → x 1 = .pointer (some ⟨rb, 0, none⟩)) ∧
  (l 2 = true → x 2 = .int .i64 (pos : Int)) ∧
  (l 3 = true → x 3 = .pointer (some ⟨rb, 1, none⟩)) ∧
  (l 4 = true → x 4 = .slice ya body.length ycap) ∧
  (l 5 = true → x 5 = .slice ca body.length ccap ∧ (l 8 = false → Buf w' w0.heap.size 5 (.slice ca body.length ccap) body) ∧ ∀ q, (.slice ca body.length ccap : Value).ownBlock = some q → w0.heap.size ≤ q) ∧
  (l 6 = true → x 6 = .agg #[.int .i64 (pos : Int), .slice ca body.length ccap] ∧ Hid (l 5 = true) ∧ Hid (l 2 = true ∧ l 4 = true)) ∧
  (l 7 = true → x 7 = .slice (some ⟨B7, 0, none⟩) 1 1 ∧ (l 8 = false → Blk w' B7 [.int .i64 (pos : Int), .slice ca body.length ccap] 57) ∧ Hid (l 5 = true) ∧ Hid (l 2 = true ∧ l 4 = true)) ∧
  (l 8 = true → x 8 = .slice va (L0.length + 1) vcap ∧ Hid (l 0 = true)) ∧
  (l 9 = true → x 9 = .slice va (L0.length + 1) vcap)
set_option maxHeartbeats 8000000 in
theorem All_any {w : World} {B lb d frm segs nx run : Nat} {fr : Bool} {vl : Value} {l₀ : List Sg} (h : LogAt w B lb d frm segs nx run fr vl l₀) (hl : l₀.length ≤ 1000 ∧ ∀ s ∈ l₀, s.recs.length ≤ 1000) (hok : ∀ s ∈ l₀, ∀ r ∈ s.rs, r.ok) :
    Calls Try.prog 18 #[.pointer (some ⟨lb, 0, none⟩)] w fun e w' => ∃ v L, e = .returned v ∧ RRow w' w.heap.size v L ∧ L.map (·.r) = l₀.flatMap Sg.rs ∧ Keep [] w w' := by
  obtain ⟨iR, hiR, hzR0, hzR1, hzR2⟩ := info_parts Try.infoRec
  have c3 := lg_3 h.blk
  obtain ⟨a, cap, rfl⟩ := h.slice
  have H := Lib.hid h
  have HL := Lib.hid hl
  have HOK := Lib.hid hok
  clear h hl hok
  go_enter Try.func18, Try.ntmps18
  go_wp2_with fail
  clear c3
  go_loopw [3, 15] (fun s3 s15 wr => ∃ (i : Nat) (L : List Rc), s15 = .int .i64 (i : Int) ∧ i ≤ l₀.length ∧ RRow wr w.heap.size s3 L ∧ L.map (·.r) = (l₀.take i).flatMap Sg.rs ∧ Keep [] w wr) (fun _ x _ => l₀.length + 1 - (intOf x).toNat)
  case atStart => exact ⟨0, [], rfl, Nat.zero_le _, RRow.nil _ _, by simp, Keep.refl _ _⟩
  case round =>
  obtain ⟨i, L, rfl, hi, hR, he, hK⟩ := hrel
  by_cases hlt : i < l₀.length
  · have q0 : decide ((i : Int) < (l₀.length : Int)) = true := decide_eq_true (by omega)
    obtain ⟨s, hsi⟩ : ∃ s, l₀[i]? = some s := ⟨_, List.getElem?_eq_getElem hlt⟩
    have hA := H.out.still hK
    obtain ⟨ba, cap', hv, c0⟩ := hA.seg_at i s hsi
    injection hv with hv
    subst hv
    have hs := hA.row.ok s (List.mem_of_getElem? hsi)
    have c4 := seg_4 hs.blk
    obtain ⟨ra, rc, hrv⟩ := hs.recs.slice
    rw [hrv] at c4
    have HS := Lib.hid hs
    have HRV := Lib.hid hrv
    have HSI := Lib.hid hsi
    have HE := Lib.hid he
    have HR := Lib.hid hR
    have HK := Lib.hid hK
    have hn := HL.out.1
    have hn2 := HL.out.2 s (List.mem_of_getElem? hsi)
    have HRO := Lib.hid (HOK.out s (List.mem_of_getElem? hsi))
    clear hs hrv hsi he hR hK hA
    go_wp2_with fail
    go_loopw [3, 24] (fun s3 s24 wr2 => ∃ (j : Nat) (L : List Rc), s24 = .int .i64 (j : Int) ∧ j ≤ s.recs.length ∧ RRow wr2 w.heap.size s3 L ∧ L.map (·.r) = (l₀.take i).flatMap Sg.rs ++ (s.recs.take j).map (·.r) ∧ Keep [] w wr2) (fun _ x _ => s.recs.length + 1 - (intOf x).toNat)
    case atStart => exact ⟨0, L, rfl, Nat.zero_le _, HR.out, by rw [HE.out]; simp, HK.out⟩
    case round =>
    obtain ⟨j, L0, rfl, hj, hR, he2, hK⟩ := hrel
    clear HR c0 c4
    by_cases hjl : j < s.recs.length
    · have q1 : decide ((j : Int) < (s.recs.length : Int)) = true := decide_eq_true (by omega)
      have hA := H.out.still hK
      have hs := hA.row.ok s (List.mem_of_getElem? HSI.out)
      obtain ⟨y, hy⟩ : ∃ y, s.recs[j]? = some y := ⟨_, List.getElem?_eq_getElem hjl⟩
      obtain ⟨g, gc, hg, k0, k1⟩ := hs.recs.at_ j hjl
      rw [HRV.out] at hg
      injection hg with hg1 hg2 hg3
      subst hg1 hg3
      have hyj : s.recs[j]'hjl = y := (List.getElem?_eq_some_iff.1 hy).2
      rw [hyj] at k0 k1
      obtain ⟨ya, ycap, hyv⟩ := ((hs.recs.ok y (List.mem_of_getElem? hy)).1).slice
      obtain ⟨oa, ocap, rfl⟩ := hR.slice
      obtain ⟨pos, hpos⟩ : ∃ p, p = y.r.1 := ⟨_, rfl⟩
      obtain ⟨body, hbody⟩ : ∃ b, b = y.r.2 := ⟨_, rfl⟩
      rw [← hpos] at k0
      rw [hyv, ← hbody] at k1
      have hY1 : Buf wr 0 5 (.slice ya body.length ycap) body := by
        have := ((hs.recs.ok y (List.mem_of_getElem? hy)).1).mono (Nat.zero_le _)
        rw [hyv, ← hbody] at this; exact this
      have hyr : y.r = (pos, body) := by rw [hpos, hbody]
      have HYR := Lib.hid hyr
      have HY := Lib.hid hy
      have HR := Lib.hid hR
      have HE2 := Lib.hid he2
      have HK2 := Lib.hid hK
      have HY1 := Lib.hid hY1
      have HBD : Hid (body.length ≤ 300) := Lib.hid (by
        have := HRO.out y.r (List.mem_map.2 ⟨y, List.mem_of_getElem? hy, rfl⟩)
        have h2 := this.2.1
        rw [hyr] at h2; exact h2)
      have HJL := Lib.hid hjl
      clear hg2 hyv hyj hpos hbody hR he2 hK hA hs hy hY1 hyr
      have HNN : Hid (L0.length ≤ 1001000) := Lib.hid (by
        have h1 : L0.length = ((l₀.take i).flatMap Sg.rs ++ (s.recs.take j).map (·.r)).length := by rw [← HE2.out, List.length_map]
        have h2 := flat_le (l₀.take i) 1000 (fun x hx => HL.out.2 x (List.mem_of_mem_take hx))
        rw [h1, List.length_append, List.length_map, List.length_take]
        have h3 : (l₀.take i).length * 1000 ≤ 1000000 := by
          rw [List.length_take]
          have := HL.out.1
          have : min i l₀.length ≤ 1000 := by omega
          calc min i l₀.length * 1000 ≤ 1000 * 1000 := Nat.mul_le_mul_right _ this
            _ = 1000000 := by decide
        omega)
      go_upto_region 10 with fail
      have hRb1 := Blk.new wr [.int .i64 (pos : Int), .slice ya body.length ycap] 57
      have KA := (Keep.refl [] wr).alloc (.cells #[.int .i64 (pos : Int), .slice ya body.length ycap] 57)
      have HRL := Lib.hid HR.out.lt
      obtain ⟨rb, hrb⟩ : ∃ rb, rb = wr.heap.size := ⟨_, rfl⟩
      rw [← hrb] at hRb1 ⊢
      simp only [List.toArray] at hRb1
      have HRB := Lib.hid hrb
      generalize hW : wr.alloc (.cells #[.int .i64 (pos : Int), .slice ya body.length ycap] 57) = wa at *
      have HB0 : Hid (w.heap.size ≤ wa.heap.size) := Lib.hid (Nat.le_trans HK2.out.size KA.size)
      have hRr := HR.out.still KA
      have hY0 := HY1.out.keep KA (by simp)
      have HKA := Lib.hid KA
      clear hrb hW KA
      refine wp_region_inv_own (allJ wa w.heap.size rb pos oa ya ocap ycap L0 body) (by kernel_rfl) (by kernel_rfl) (by kernel_rfl) ?_ (Steps.cons 0 ?_ (Steps.cons 1 ?_ (Steps.cons 2 ?_ (Steps.cons 3 ?_ (Steps.cons 4 ?_ (Steps.cons 5 ?_ (Steps.cons 6 ?_ (Steps.cons 7 ?_ (Steps.cons 8 ?_ (Steps.cons 9 ?_ (Steps.nil 10))))))))))) 10 rfl ?_
      · exact ⟨none, 0, none, 0, 0, fun _ => hRb1.drew, hY0.keep (Keep.refl [] _).drew (by simp), fun _ => hRr.still (Keep.refl [] _).drew, fun h => absurd h (by decide), fun h => absurd h (by decide), fun h => absurd h (by decide), fun h => absurd h (by decide), fun _ => rfl, (Keep.refl _ _).drew, fun h => absurd h (by decide), fun h => absurd h (by decide), fun h => absurd h (by decide), fun h => absurd h (by decide), fun h => absurd h (by decide), fun h => absurd h (by decide), fun h => absurd h (by decide), fun h => absurd h (by decide), fun h => absurd h (by decide), fun h => absurd h (by decide)⟩
      · intro l x w' hJ hi hd
        obtain ⟨ca, ccap, va, vcap, B7, hRb, hY, hR0, hR1, d8, d9, hd54, x9, hK, h0, h1, h2, h3, h4, h5, h6, h7, h8, h9⟩ := hJ
        have f9 : l 9 = false := by cases hq : l 9 with | false => rfl | true => exact absurd (d9 hq).1 (by simp [hi])
        have e9 := x9 f9
        refine Runs.of (b := ?bA0) ?eA0 ?_
        case eA0 => simp only [putV, Act.put, List.setIfInBounds_toArray, List.set_cons_zero, List.set_cons_succ, e9]; rfl
        intro K' hK'
        go_simp
        exact hK'.go _ rfl ⟨ca, ccap, va, vcap, B7, hRb, hY, hR0, hR1, d8, fun h => ⟨rfl, (d9 h).2⟩, hd54, x9, hK, fun _ => rfl, h1, h2, h3, h4, h5, h6, h7, fun h => ⟨(h8 h).1, Lib.hid rfl⟩, h9⟩
      · intro l x w' hJ hi hd
        obtain ⟨ca, ccap, va, vcap, B7, hRb, hY, hR0, hR1, d8, d9, hd54, x9, hK, h0, h1, h2, h3, h4, h5, h6, h7, h8, h9⟩ := hJ
        refine Runs.of (b := ?bA1) ?eA1 ?_
        case eA1 => simp only [putV, Act.put, List.setIfInBounds_toArray, List.set_cons_zero, List.set_cons_succ]; rfl
        intro K' hK'
        go_simp
        exact hK'.go _ rfl ⟨ca, ccap, va, vcap, B7, hRb, hY, hR0, hR1, d8, d9, hd54, x9, hK, h0, fun _ => rfl, h2, h3, h4, h5, h6, h7, h8, h9⟩
      · intro l x w' hJ hi hd
        obtain ⟨ca, ccap, va, vcap, B7, hRb, hY, hR0, hR1, d8, d9, hd54, x9, hK, h0, h1, h2, h3, h4, h5, h6, h7, h8, h9⟩ := hJ
        have e1 := h1 (show l 1 = true by first | exact hd.1 rfl | exact hd.2.1 rfl | exact hd.2.2.1 rfl | exact hd.2.2.2.1 rfl | exact hd.2.2.2.2.1 rfl | exact hd.2.2.2.2.2.1 rfl)
        have f8 : l 8 = false := by cases hq : l 8 with | false => rfl | true => exact absurd (d8 hq).1 (by simp [hi])
        have c0 : w'.cell? ⟨rb, 0, none⟩ = some (.int .i64 (pos : Int)) := (hRb f8).cell 0
        refine Runs.of (b := ?bA2) ?eA2 ?_
        case eA2 => simp only [putV, Act.put, List.setIfInBounds_toArray, List.set_cons_zero, List.set_cons_succ, e1]; rfl
        intro K' hK'
        go_simp
        exact hK'.go _ rfl ⟨ca, ccap, va, vcap, B7, hRb, hY, hR0, hR1, fun h => ⟨rfl, (d8 h).2.1, (d8 h).2.2⟩, d9, hd54, x9, hK, h0, h1, fun _ => rfl, h3, h4, h5, fun h => ⟨(h6 h).1, (h6 h).2.1, Lib.hid ⟨rfl, (h6 h).2.2.out.2⟩⟩, fun h => ⟨(h7 h).1, (h7 h).2.1, (h7 h).2.2.1, Lib.hid ⟨rfl, (h7 h).2.2.2.out.2⟩⟩, h8, h9⟩
      · intro l x w' hJ hi hd
        obtain ⟨ca, ccap, va, vcap, B7, hRb, hY, hR0, hR1, d8, d9, hd54, x9, hK, h0, h1, h2, h3, h4, h5, h6, h7, h8, h9⟩ := hJ
        refine Runs.of (b := ?bA3) ?eA3 ?_
        case eA3 => simp only [putV, Act.put, List.setIfInBounds_toArray, List.set_cons_zero, List.set_cons_succ]; rfl
        intro K' hK'
        go_simp
        exact hK'.go _ rfl ⟨ca, ccap, va, vcap, B7, hRb, hY, hR0, hR1, d8, d9, hd54, x9, hK, h0, h1, h2, fun _ => rfl, h4, h5, h6, h7, h8, h9⟩
      · intro l x w' hJ hi hd
        obtain ⟨ca, ccap, va, vcap, B7, hRb, hY, hR0, hR1, d8, d9, hd54, x9, hK, h0, h1, h2, h3, h4, h5, h6, h7, h8, h9⟩ := hJ
        have e3 := h3 (show l 3 = true by first | exact hd.1 rfl | exact hd.2.1 rfl | exact hd.2.2.1 rfl | exact hd.2.2.2.1 rfl | exact hd.2.2.2.2.1 rfl | exact hd.2.2.2.2.2.1 rfl)
        have f8 : l 8 = false := by cases hq : l 8 with | false => rfl | true => exact absurd (d8 hq).2.1 (by simp [hi])
        have c1 : w'.cell? ⟨rb, 1, none⟩ = some (.slice ya body.length ycap) := (hRb f8).cell 1
        refine Runs.of (b := ?bA4) ?eA4 ?_
        case eA4 => simp only [putV, Act.put, List.setIfInBounds_toArray, List.set_cons_zero, List.set_cons_succ, e3]; rfl
        intro K' hK'
        go_simp
        exact hK'.go _ rfl ⟨ca, ccap, va, vcap, B7, hRb, hY, hR0, hR1, fun h => ⟨(d8 h).1, rfl, (d8 h).2.2⟩, d9, fun _ => rfl, x9, hK, h0, h1, h2, h3, fun _ => rfl, h5, fun h => ⟨(h6 h).1, (h6 h).2.1, Lib.hid ⟨(h6 h).2.2.out.1, rfl⟩⟩, fun h => ⟨(h7 h).1, (h7 h).2.1, (h7 h).2.2.1, Lib.hid ⟨(h7 h).2.2.2.out.1, rfl⟩⟩, h8, h9⟩
      · intro l x w' hJ hi hd
        obtain ⟨ca, ccap, va, vcap, B7, hRb, hY, hR0, hR1, d8, d9, hd54, x9, hK, h0, h1, h2, h3, h4, h5, h6, h7, h8, h9⟩ := hJ
        have e4 := h4 (show l 4 = true by first | exact hd.1 rfl | exact hd.2.1 rfl | exact hd.2.2.1 rfl | exact hd.2.2.2.1 rfl | exact hd.2.2.2.2.1 rfl | exact hd.2.2.2.2.2.1 rfl)
        have f8 : l 8 = false := by cases hq : l 8 with | false => rfl | true => exact absurd (d8 hq).2.2 (by simp [hi])
        have HL4 : Hid (l 4 = true) := Lib.hid (by first | exact hd.1 rfl | exact hd.2.1 rfl | exact hd.2.2.1 rfl | exact hd.2.2.2.1 rfl | exact hd.2.2.2.2.1 rfl | exact hd.2.2.2.2.2.1 rfl)
        refine Runs.of (b := ?bA5) ?eA5 ?_
        case eA5 => simp only [putV, Act.put, List.setIfInBounds_toArray, List.set_cons_zero, List.set_cons_succ, e4]; rfl
        intro K' hK'
        go_simp
        refine (Clone_any _ body hY.rd (by have := HBD.out; omega)).mono ?_
        rintro e w2 ⟨v2, rfl, hB2, k2⟩
        obtain ⟨c2, c3, rfl⟩ := hB2.slice
        have HB2 := Lib.hid (hB2.mono hK.size)
        clear hB2
        go_simp
        exact hK'.go (.slice c2 body.length c3) rfl ⟨c2, c3, va, vcap, B7, fun h => (hRb h).keep k2 (by simp), hY.keep k2 (by simp), fun h => (hR0 h).still k2, fun h => absurd (f8.symm.trans h) (by decide), fun h => ⟨(d8 h).1, (d8 h).2.1, rfl⟩, d9, fun _ => HL4.out, x9, hK.trans (k2.mono (by simp)), h0, h1, h2, h3, h4, fun _ => ⟨rfl, fun _ => HB2.out, fun q hq => (HB2.out.lt q hq).1⟩, fun h => absurd (h6 h).2.1.out (by simp [hi]), fun h => absurd (h7 h).2.2.1.out (by simp [hi]), h8, h9⟩
      · intro l x w' hJ hi hd
        obtain ⟨ca, ccap, va, vcap, B7, hRb, hY, hR0, hR1, d8, d9, hd54, x9, hK, h0, h1, h2, h3, h4, h5, h6, h7, h8, h9⟩ := hJ
        have e2 := h2 (show l 2 = true by first | exact hd.1 rfl | exact hd.2.1 rfl | exact hd.2.2.1 rfl | exact hd.2.2.2.1 rfl | exact hd.2.2.2.2.1 rfl | exact hd.2.2.2.2.2.1 rfl)
        have e5 := h5 (show l 5 = true by first | exact hd.1 rfl | exact hd.2.1 rfl | exact hd.2.2.1 rfl | exact hd.2.2.2.1 rfl | exact hd.2.2.2.2.1 rfl | exact hd.2.2.2.2.2.1 rfl)
        have HL5 : Hid (l 5 = true) := Lib.hid (by first | exact hd.1 rfl | exact hd.2.1 rfl | exact hd.2.2.1 rfl | exact hd.2.2.2.1 rfl | exact hd.2.2.2.2.1 rfl | exact hd.2.2.2.2.2.1 rfl)
        have HL2 : Hid (l 2 = true) := Lib.hid (by first | exact hd.1 rfl | exact hd.2.1 rfl | exact hd.2.2.1 rfl | exact hd.2.2.2.1 rfl | exact hd.2.2.2.2.1 rfl | exact hd.2.2.2.2.2.1 rfl)
        refine Runs.of (b := ?bA6) ?eA6 ?_
        case eA6 => simp only [putV, Act.put, List.setIfInBounds_toArray, List.set_cons_zero, List.set_cons_succ, e2, e5.1]; rfl
        intro K' hK'
        go_simp
        exact hK'.go _ rfl ⟨ca, ccap, va, vcap, B7, hRb, hY, hR0, hR1, d8, d9, hd54, x9, hK, h0, h1, h2, h3, h4, h5, fun _ => ⟨rfl, HL5, Lib.hid ⟨HL2.out, hd54 HL5.out⟩⟩, h7, h8, h9⟩
      · intro l x w' hJ hi hd
        obtain ⟨ca, ccap, va, vcap, B7, hRb, hY, hR0, hR1, d8, d9, hd54, x9, hK, h0, h1, h2, h3, h4, h5, h6, h7, h8, h9⟩ := hJ
        have e6 := h6 (show l 6 = true by first | exact hd.1 rfl | exact hd.2.1 rfl | exact hd.2.2.1 rfl | exact hd.2.2.2.1 rfl | exact hd.2.2.2.2.1 rfl | exact hd.2.2.2.2.2.1 rfl)
        refine Runs.of (b := ?bA7) ?eA7 ?_
        case eA7 => simp only [putV, Act.put, List.setIfInBounds_toArray, List.set_cons_zero, List.set_cons_succ, e6.1]; rfl
        intro K' hK'
        go_simp
        exact hK'.go _ rfl ⟨ca, ccap, va, vcap, w'.heap.size, fun h => (hRb h).alloc _, hY.alloc _, fun h => (hR0 h).still ((Keep.refl [] _).alloc _), fun h => (hR1 h).still ((Keep.refl [] _).alloc _), d8, d9, hd54, x9, hK.alloc _, h0, h1, h2, h3, h4, fun h => ⟨(h5 h).1, fun h2 => ((h5 h).2.1 h2).alloc _, (h5 h).2.2⟩, h6, fun _ => ⟨rfl, fun _ => Blk.new _ [.int .i64 (pos : Int), .slice ca body.length ccap] _, e6.2.1, e6.2.2⟩, h8, h9⟩
      · intro l x w' hJ hi hd
        obtain ⟨ca, ccap, va, vcap, B7, hRb, hY, hR0, hR1, d8, d9, hd54, x9, hK, h0, h1, h2, h3, h4, h5, h6, h7, h8, h9⟩ := hJ
        have e0 := h0 (show l 0 = true by first | exact hd.1 rfl | exact hd.2.1 rfl | exact hd.2.2.1 rfl | exact hd.2.2.2.1 rfl | exact hd.2.2.2.2.1 rfl | exact hd.2.2.2.2.2.1 rfl)
        have e7 := h7 (show l 7 = true by first | exact hd.1 rfl | exact hd.2.1 rfl | exact hd.2.2.1 rfl | exact hd.2.2.2.1 rfl | exact hd.2.2.2.2.1 rfl | exact hd.2.2.2.2.2.1 rfl)
        have HL0 : Hid (l 0 = true) := Lib.hid (by first | exact hd.1 rfl | exact hd.2.1 rfl | exact hd.2.2.1 rfl | exact hd.2.2.2.1 rfl | exact hd.2.2.2.2.1 rfl | exact hd.2.2.2.2.2.1 rfl)
        have HL5 := e7.2.2.1
        have HLD : Hid (l 2 = true ∧ l 4 = true ∧ l 5 = true) := Lib.hid ⟨e7.2.2.2.out.1, e7.2.2.2.out.2, HL5.out⟩
        have hbd := (h5 HL5.out).2.1 hi
        have hblk := e7.2.1 hi
        refine Runs.of (b := ?bA8) ?eA8 ?_
        case eA8 => simp only [putV, Act.put, List.setIfInBounds_toArray, List.set_cons_zero, List.set_cons_succ, e0, e7.1]; rfl
        intro K' hK'
        refine step_append_src _ rfl (.tmp 28) (.tmp 35) 54 54 rfl w.heap.size 57 iR _ 2 32 Try.underlying54 hiR hzR0 hzR1 hzR2 rfl (by decide) (.slice oa L0.length ocap) L0.length (rcCs L0) rfl (hR0 hi).own _ 1 [.int .i64 (pos : Int), .slice ca body.length ccap] rfl (srcRec w' B7 _ _ hblk Try.underlying54 rfl) (by unfold maxLen; have := HNN.out; omega) (by have := HNN.out; omega) (Nat.le_trans HB0.out hK.size) ?_
        intro v2 w2 g2 g3 _ g4
        obtain ⟨v2a, v2c, rfl⟩ := ownsRow_slice g2
        have k2 : Keep (.slice oa L0.length ocap : Value).ownBlock.toList w' w2 := Keep.grown g3
        have hR2 : RRow w2 w.heap.size (.slice v2a (L0.length + 1) v2c) (L0 ++ [⟨(pos, body), .slice ca body.length ccap⟩]) := (hR0 hi).snoc ⟨(pos, body), .slice ca body.length ccap⟩ (hbd.mono HB0.out) rfl g2 k2
        have hRR := hR0 hi
        exact hK'.go (.slice v2a (L0.length + 1) v2c) rfl ⟨ca, ccap, v2a, v2c, B7, fun h => Bool.noConfusion (show true = false from h), hY.keep k2 (fun q hq => hRR.rty (hY.ty' q hq) (by decide)), fun h => Bool.noConfusion (show true = false from h), fun _ => hR2, fun _ => HLD.out, fun h => ⟨(d9 h).1, rfl⟩, hd54, x9, hK.trans k2, h0, h1, h2, h3, h4, fun h => ⟨(h5 h).1, fun h2 => Bool.noConfusion (show true = false from h2), (h5 h).2.2⟩, h6, fun h => ⟨(h7 h).1, fun h2 => Bool.noConfusion (show true = false from h2), (h7 h).2.2⟩, fun _ => ⟨rfl, HL0⟩, fun h => absurd (d9 h).2 (by simp [hi])⟩
      · intro l x w' hJ hi hd
        obtain ⟨ca, ccap, va, vcap, B7, hRb, hY, hR0, hR1, d8, d9, hd54, x9, hK, h0, h1, h2, h3, h4, h5, h6, h7, h8, h9⟩ := hJ
        have e8 := h8 (show l 8 = true by first | exact hd.1 rfl | exact hd.2.1 rfl | exact hd.2.2.1 rfl | exact hd.2.2.2.1 rfl | exact hd.2.2.2.2.1 rfl | exact hd.2.2.2.2.2.1 rfl)
        have HL8 : Hid (l 8 = true) := Lib.hid (by first | exact hd.1 rfl | exact hd.2.1 rfl | exact hd.2.2.1 rfl | exact hd.2.2.2.1 rfl | exact hd.2.2.2.2.1 rfl | exact hd.2.2.2.2.2.1 rfl)
        refine Runs.of (b := ?bA9) ?eA9 ?_
        case eA9 => simp only [putV, Act.put, List.setIfInBounds_toArray, List.set_cons_zero, List.set_cons_succ, e8.1]; rfl
        intro K' hK'
        go_simp
        exact hK'.go _ rfl ⟨ca, ccap, va, vcap, B7, hRb, hY, hR0, hR1, d8, fun _ => ⟨e8.2.out, HL8.out⟩, hd54, fun h => Bool.noConfusion (show true = false from h), hK, h0, h1, h2, h3, h4, h5, h6, h7, h8, fun _ => rfl⟩
      · intro l x w3 hJ hl
        obtain ⟨ca, ccap, va, vcap, B7, hRb, hY, hR0, hR1, d8, d9, hd54, x9, hK, h0, h1, h2, h3, h4, h5, h6, h7, h8, h9⟩ := hJ
        have hR3 := hR1 (hl 8 (by decide))
        have e9 := h9 (hl 9 (by decide))
        simp only [putV, Act.put, List.setIfInBounds_toArray, List.set_cons_zero, List.set_cons_succ, e9]
        have HR3 := Lib.hid hR3
        have HK3 : Hid (Keep [] w w3) := Lib.hid ((HK2.out.trans HKA.out).then hK (fun q hq hlt => by
          exact absurd (HRL.out q (List.mem_append_left _ hq)).1 (by omega)))
        clear h0 h1 h2 h3 h4 h5 h6 h7 h8 h9 hRb hY hR0 hR1 d8 d9 hd54 x9 hK hl hR3 e9 hRr hY0 hRb1 k0 k1
        go_wp2_with fail
        go_roundw
        case rel =>
          refine ⟨j + 1, L0 ++ [⟨(pos, body), .slice ca body.length ccap⟩], by go_num, by omega, HR3.out, ?_, HK3.out⟩
          rw [List.map_append, HE2.out, List.take_add_one, HY.out, List.map_append, List.append_assoc]
          simp [HYR.out]
        case measure => simp only [intOf]; omega

    · obtain rfl : j = s.recs.length := by omega
      have q1 : decide ((s.recs.length : Int) < (s.recs.length : Int)) = false := by simp
      have HR := Lib.hid hR
      have HE2 := Lib.hid he2
      have HK2 := Lib.hid hK
      clear hR he2 hK
      go_wp2_with fail
      go_roundw
      case rel =>
        refine ⟨_, _, _, _, ⟨i + 1, rfl, by omega, L0, HR.out, ?_, HK2.out⟩, rfl, rfl, rfl, by go_num⟩
        rw [HE2.out, List.take_add_one, List.flatMap_append, HSI.out, List.take_length]
        simp [Sg.rs]
      case measure => simp only [intOf]; omega
  · obtain rfl : i = l₀.length := by omega
    have q0 : decide ((l₀.length : Int) < (l₀.length : Int)) = false := by simp
    have HR := Lib.hid hR
    have HE := Lib.hid he
    have HK := Lib.hid hK
    clear hR he hK
    go_wp2_with fail
    go_ret
    refine ⟨_, L, rfl, HR.out, ?_, HK.out⟩
    rw [HE.out, List.take_length]
end Go.Proofs.Ytpibpapolcdeiaa
/- slog: Read. -/
namespace Go.Proofs.Ytpibpapolcdeiaa
open Go.ChangeShapes Go.WideShapes Go.ChangeAt Go.RowKit
set_option linter.unusedVariables false
set_option linter.unusedSimpArgs false
set_option maxRecDepth 100000

def cmp3 (a b : Nat) : Int := if a < b then -1 else if b < a then 1 else 0
/-- Positions go up. -/
def PosUp (L : List Rc) : Prop := L.Pairwise (fun a b => a.r.1 < b.r.1)
theorem PosUp.le {L : List Rc} (h : PosUp L) {i j : Nat} {a b : Rc} (ha : L[i]? = some a) (hb : L[j]? = some b) (hij : i < j) : a.r.1 < b.r.1 := by
  obtain ⟨h1, rfl⟩ := List.getElem?_eq_some_iff.1 ha
  obtain ⟨h2, rfl⟩ := List.getElem?_eq_some_iff.1 hb
  exact List.pairwise_iff_getElem.1 h i j h1 h2 hij
end Go.Proofs.Ytpibpapolcdeiaa
/- slog: Read. -/
namespace Go.Proofs.Ytpibpapolcdeiaa
open Go.ChangeShapes Go.WideShapes Go.ChangeAt Go.RowKit
set_option linter.unusedVariables false
set_option linter.unusedSimpArgs false
set_option maxRecDepth 100000

/-- What is read at a position. -/
def GotRec (w0 : World) (l : List Sg) (pos : Nat) (e : Ending) (w' : World) : Prop :=
  (∃ v r, e = .returned (.tuple #[v, .int .i64 0]) ∧ r ∈ l.flatMap Sg.rs ∧ r.1 = pos ∧ Buf w' w0.heap.size 5 v r.2) ∨ (e = .returned (.tuple #[.slice none 0 0, .int .i64 9]) ∧ ∀ r ∈ l.flatMap Sg.rs, r.1 ≠ pos)
/-- No log. -/
theorem Append_nil {w : World} (v : Value) : Calls Try.prog 20 #[.pointer none, v] w fun e w' => e = .returned (.tuple #[.int .i64 0, .int .i64 8]) ∧ w' = w := by
  go_enter Try.func20, Try.ntmps20
  go_wp2_with fail
  go_ret2
  exact ⟨rfl, rfl⟩
theorem Flush0_nil {w : World} : Calls Try.prog 25 #[.pointer none] w fun e w' => e = .returned (.int .i64 8) ∧ w' = w := by
  go_enter Try.func25, Try.ntmps25
  go_wp2_with fail
  go_ret
  exact ⟨rfl, rfl⟩
theorem All_nil {w : World} : Calls Try.prog 18 #[.pointer none] w fun e w' => e = .returned (.slice none 0 0) ∧ w' = w := by
  go_enter Try.func18, Try.ntmps18
  go_wp2_with fail
  go_ret
  exact ⟨rfl, rfl⟩
theorem First_nil {w : World} : Calls Try.prog 24 #[.pointer none] w fun e w' => e = .returned (.int .i64 0) ∧ w' = w := by
  go_enter Try.func24, Try.ntmps24
  go_wp2_with fail
  go_ret
  exact ⟨rfl, rfl⟩
end Go.Proofs.Ytpibpapolcdeiaa
