/- The law ItemLimits: its walk. -/
import Derived.Test.YtpibpgfadkfgbaaItemLaws
import Derived.Deep.DeepCutAuto
import Derived.Deep.CutBlock
namespace Go.Proofs.Ytpibpgfadkfgbaa
open Go.ChangeShapes Go.WideShapes Go.ChangeAt Go.RowKit
set_option linter.unusedVariables false
set_option linter.unusedSimpArgs false

theorem bz (n : Nat) (l : List Value) (h : l = List.replicate n (.int .u8 0) := by rfl) : List.replicate n (Value.int .u8 0) = bcs (List.replicate n 0) := by simp [bcs, bc]
def limC (k v : ByteArray) (n : Int) (g : Bool) (l : Nat → Bool) : List Value := if l 10 = true then itC k v n g else itC { data := #[] } { data := #[] } 0 false
theorem limC0 {k v : ByteArray} {n : Int} {g : Bool} {l : Nat → Bool} (h : l 10 = false) : itC { data := #[] } { data := #[] } 0 false = limC k v n g (upd l 9 true) := by
  unfold limC
  rw [upd_ne _ _ _ _ (by decide), h]; rfl
theorem limC_set {w : World} {b : Nat} {k v : ByteArray} {n : Int} {g : Bool} {l : Nat → Bool} {T : TypeId} (h : Blk w b (limC k v n g l) T) :
    Blk ((((w.setCell ⟨b, 0, none⟩ (.string k)).setCell ⟨b, 1, none⟩ (.string v)).setCell ⟨b, 2, none⟩ (.int .i64 n)).setCell ⟨b, 3, none⟩ (.bool g)) b (limC k v n g (upd l 10 true)) T := by
  have h2 := (((h.set 0 (.string k)).set 1 (.string v)).set 2 (.int .i64 n)).set 3 (.bool g)
  have e : ((((limC k v n g l).set 0 (.string k)).set 1 (.string v)).set 2 (.int .i64 n)).set 3 (.bool g) = limC k v n g (upd l 10 true) := by
    unfold limC
    rw [upd_same]
    split <;> rfl
  rw [e] at h2
  exact h2
def limJ (w0 : World) (K V : Nat) (n : Int) (g : Bool) (l : Nat → Bool) (x : Nat → Value) (w' : World) : Prop :=
  ∃ B1 B4 B9, (Keep [] w0 w') ∧
  (l 10 = true → l 9 = true) ∧
  (l 9 = true → w0.heap.size ≤ B9) ∧
  (l 0 = true → x 0 = .int .i64 (K : Int)) ∧
  (l 1 = true → x 1 = .slice (some ⟨B1, 0, none⟩) K K ∧ Blk w' B1 (bcs (List.replicate K 0)) 5) ∧
  (l 2 = true → x 2 = .string (toStr (List.replicate K 0))) ∧
  (l 3 = true → x 3 = .int .i64 (V : Int)) ∧
  (l 4 = true → x 4 = .slice (some ⟨B4, 0, none⟩) V V ∧ Blk w' B4 (bcs (List.replicate V 0)) 5) ∧
  (l 5 = true → x 5 = .string (toStr (List.replicate V 0))) ∧
  (l 6 = true → x 6 = .int .i64 n) ∧
  (l 7 = true → x 7 = .bool g) ∧
  (l 8 = true → x 8 = itV (toStr (List.replicate K 0)) (toStr (List.replicate V 0)) n g) ∧
  (l 9 = true → x 9 = .pointer (some ⟨B9, 0, none⟩) ∧ Blk w' B9 (limC (toStr (List.replicate K 0)) (toStr (List.replicate V 0)) n g l) 49) ∧
  (l 10 = true → True)

set_option maxRecDepth 100000 in
set_option maxHeartbeats 8000000 in
theorem itemLimits_walk (key val : Int) (n : Int) (g : Bool) (w : World) (_w0 : (Lit.int .i64 key).wf = true) (_w1 : (Lit.int .i64 val).wf = true) (_w2 : (Lit.int .i64 n).wf = true) :
    Calls Try.prog 12 #[.int .i64 key, .int .i64 val, .int .i64 n, .bool g] w fun e w' => e = .returned (.bool true) ∧ Below w.heap.size w w' := by
  obtain ⟨i8, hi8, hz80, hz81, hz82⟩ := info_parts Try.info8
  have hn := i64_wf _w2
  go_enter Try.func12, Try.ntmps12
  go_wp2_with fail
  refine (begun7 w).mono ?_
  rintro e w1 ⟨rfl, K1⟩
  by_cases h0 : key < 0
  · have q0 : decide (key < 0) = true := decide_eq_true h0
    go_wp2_with fail
    go_ret
    exact ⟨rfl, K1.below⟩
  have q0 : decide (key < 0) = false := decide_eq_false h0
  by_cases h1 : 60 < key
  · have q1 : decide (60 < key) = true := decide_eq_true h1
    go_wp2_with fail
    go_ret
    exact ⟨rfl, K1.below⟩
  have q1 : decide (60 < key) = false := decide_eq_false h1
  by_cases h2 : val < 0
  · have q2 : decide (val < 0) = true := decide_eq_true h2
    go_wp2_with fail
    go_ret
    exact ⟨rfl, K1.below⟩
  have q2 : decide (val < 0) = false := decide_eq_false h2
  by_cases h3 : 250 < val
  · have q3 : decide (250 < val) = true := decide_eq_true h3
    go_wp2_with fail
    go_ret
    exact ⟨rfl, K1.below⟩
  have q3 : decide (250 < val) = false := decide_eq_false h3
  obtain ⟨K, rfl⟩ : ∃ K : Nat, key = (K : Int) := ⟨key.toNat, by omega⟩
  obtain ⟨V, rfl⟩ : ∃ V : Nat, val = (V : Int) := ⟨val.toNat, by omega⟩
  have hK60 : K ≤ 60 := by omega
  have hV250 : V ≤ 250 := by omega
  clear _w0 _w1 _w2
  have hmk : ∀ (m : Nat), m ≤ 250 → ∀ W : World, (Instr.makeSlice 33 (.int .i64 (m : Int)) (.int .i64 (m : Int))).run Try.prog W = _ := fun m hm W => run_make_n (P := Try.prog) 33 5 i8 _ Try.underlying33 hi8 hz80 hz81 (by rfl) (m : Int) m rfl (by rw [hz82]; omega) (by omega) W
  have hmK := hmk K (by omega)
  have hmV := hmk V (by omega)
  have hbld : ∀ (sk sv : ByteArray) (n : Int) (g : Bool) (W : World), (Instr.build 49 #[(0, .string sk), (1, .string sv), (2, .int .i64 n), (3, .bool g)]).run Try.prog W = .ok (itV sk sv n g) W := fun sk sv n g W => run_build W _ _ _ (by kernel_rfl)
  go_wp2_with fail
  refine wp_region_inv (limJ w1 K V n g) (by kernel_rfl) (by kernel_rfl) (by kernel_rfl) ?_ (Steps.cons 0 ?_ (Steps.cons 1 ?_ (Steps.cons 2 ?_ (Steps.cons 3 ?_ (Steps.cons 4 ?_ (Steps.cons 5 ?_ (Steps.cons 6 ?_ (Steps.cons 7 ?_ (Steps.cons 8 ?_ (Steps.cons 9 ?_ (Steps.cons 10 ?_ (Steps.nil 11)))))))))))) 11 rfl ?_
  · intro x
    exact ⟨0, 0, 0, (Keep.refl _ _).drew, fun h => absurd h (by decide), fun h => absurd h (by decide), fun h => absurd h (by decide), fun h => absurd h (by decide), fun h => absurd h (by decide), fun h => absurd h (by decide), fun h => absurd h (by decide), fun h => absurd h (by decide), fun h => absurd h (by decide), fun h => absurd h (by decide), fun h => absurd h (by decide), fun h => absurd h (by decide), fun h => absurd h (by decide)⟩
  · intro l x w' hJ hi hd
    obtain ⟨B1, B4, B9, hK, d10, h9b, h0, h1, h2, h3, h4, h5, h6, h7, h8, h9, h10⟩ := hJ
    refine Runs.of (b := ?bL0) ?eL0 ?_
    case eL0 => simp only [putV, Act.put, List.setIfInBounds_toArray, List.set_cons_zero, List.set_cons_succ]; rfl
    intro K' hK'
    go_simp
    exact hK'.go _ rfl ⟨B1, B4, B9, hK, d10, h9b, fun _ => rfl, h1, h2, h3, h4, h5, h6, h7, h8, h9, h10⟩
  · intro l x w' hJ hi hd
    obtain ⟨B1, B4, B9, hK, d10, h9b, h0, h1, h2, h3, h4, h5, h6, h7, h8, h9, h10⟩ := hJ
    have e0 := h0 (show l 0 = true by first | exact hd.1 rfl | exact hd.2.1 rfl | exact hd.2.2.1 rfl | exact hd.2.2.2.1 rfl | exact hd.2.2.2.2.1 rfl | exact hd.2.2.2.2.2.1 rfl)
    refine Runs.of (b := ?bL1) ?eL1 ?_
    case eL1 => simp only [putV, Act.put, List.setIfInBounds_toArray, List.set_cons_zero, List.set_cons_succ, e0]; rfl
    intro K' hK'
    go_simp
    exact hK'.go _ rfl ⟨w'.heap.size, B4, B9, hK.alloc _, d10, h9b, h0, fun _ => ⟨rfl, bz K _ rfl ▸ Blk.new _ (List.replicate K (.int .u8 0)) _⟩, h2, h3, fun h => ⟨(h4 h).1, (h4 h).2.alloc _⟩, h5, h6, h7, h8, fun h => ⟨(h9 h).1, (h9 h).2.alloc _⟩, h10⟩
  · intro l x w' hJ hi hd
    obtain ⟨B1, B4, B9, hK, d10, h9b, h0, h1, h2, h3, h4, h5, h6, h7, h8, h9, h10⟩ := hJ
    have e1 := h1 (show l 1 = true by first | exact hd.1 rfl | exact hd.2.1 rfl | exact hd.2.2.1 rfl | exact hd.2.2.2.1 rfl | exact hd.2.2.2.2.1 rfl | exact hd.2.2.2.2.2.1 rfl)
    have hrd : Rd w' (.slice (some ⟨B1, 0, none⟩) (List.replicate K 0).length (List.replicate K 0).length) (List.replicate K 0) := rv_blk e1.2 (by simp)
    have hc := Rd.str (P := Try.prog) (dst := 9) hrd (by intro c hc; rw [List.eq_of_mem_replicate hc]; omega) Try.underlying33 Try.underlying5 Try.underlying9
    rw [List.length_replicate] at hc
    refine Runs.of (b := ?bL2) ?eL2 ?_
    case eL2 => simp only [putV, Act.put, List.setIfInBounds_toArray, List.set_cons_zero, List.set_cons_succ, e1.1]; rfl
    intro K' hK'
    go_simp
    exact hK'.go _ rfl ⟨B1, B4, B9, hK, d10, h9b, h0, h1, fun _ => rfl, h3, h4, h5, h6, h7, h8, h9, h10⟩
  · intro l x w' hJ hi hd
    obtain ⟨B1, B4, B9, hK, d10, h9b, h0, h1, h2, h3, h4, h5, h6, h7, h8, h9, h10⟩ := hJ
    refine Runs.of (b := ?bL3) ?eL3 ?_
    case eL3 => simp only [putV, Act.put, List.setIfInBounds_toArray, List.set_cons_zero, List.set_cons_succ]; rfl
    intro K' hK'
    go_simp
    exact hK'.go _ rfl ⟨B1, B4, B9, hK, d10, h9b, h0, h1, h2, fun _ => rfl, h4, h5, h6, h7, h8, h9, h10⟩
  · intro l x w' hJ hi hd
    obtain ⟨B1, B4, B9, hK, d10, h9b, h0, h1, h2, h3, h4, h5, h6, h7, h8, h9, h10⟩ := hJ
    have e3 := h3 (show l 3 = true by first | exact hd.1 rfl | exact hd.2.1 rfl | exact hd.2.2.1 rfl | exact hd.2.2.2.1 rfl | exact hd.2.2.2.2.1 rfl | exact hd.2.2.2.2.2.1 rfl)
    refine Runs.of (b := ?bL4) ?eL4 ?_
    case eL4 => simp only [putV, Act.put, List.setIfInBounds_toArray, List.set_cons_zero, List.set_cons_succ, e3]; rfl
    intro K' hK'
    go_simp
    exact hK'.go _ rfl ⟨B1, w'.heap.size, B9, hK.alloc _, d10, h9b, h0, fun h => ⟨(h1 h).1, (h1 h).2.alloc _⟩, h2, h3, fun _ => ⟨rfl, bz V _ rfl ▸ Blk.new _ (List.replicate V (.int .u8 0)) _⟩, h5, h6, h7, h8, fun h => ⟨(h9 h).1, (h9 h).2.alloc _⟩, h10⟩
  · intro l x w' hJ hi hd
    obtain ⟨B1, B4, B9, hK, d10, h9b, h0, h1, h2, h3, h4, h5, h6, h7, h8, h9, h10⟩ := hJ
    have e4 := h4 (show l 4 = true by first | exact hd.1 rfl | exact hd.2.1 rfl | exact hd.2.2.1 rfl | exact hd.2.2.2.1 rfl | exact hd.2.2.2.2.1 rfl | exact hd.2.2.2.2.2.1 rfl)
    have hrd : Rd w' (.slice (some ⟨B4, 0, none⟩) (List.replicate V 0).length (List.replicate V 0).length) (List.replicate V 0) := rv_blk e4.2 (by simp)
    have hc := Rd.str (P := Try.prog) (dst := 9) hrd (by intro c hc; rw [List.eq_of_mem_replicate hc]; omega) Try.underlying33 Try.underlying5 Try.underlying9
    rw [List.length_replicate] at hc
    refine Runs.of (b := ?bL5) ?eL5 ?_
    case eL5 => simp only [putV, Act.put, List.setIfInBounds_toArray, List.set_cons_zero, List.set_cons_succ, e4.1]; rfl
    intro K' hK'
    go_simp
    exact hK'.go _ rfl ⟨B1, B4, B9, hK, d10, h9b, h0, h1, h2, h3, h4, fun _ => rfl, h6, h7, h8, h9, h10⟩
  · intro l x w' hJ hi hd
    obtain ⟨B1, B4, B9, hK, d10, h9b, h0, h1, h2, h3, h4, h5, h6, h7, h8, h9, h10⟩ := hJ
    refine Runs.of (b := ?bL6) ?eL6 ?_
    case eL6 => simp only [putV, Act.put, List.setIfInBounds_toArray, List.set_cons_zero, List.set_cons_succ]; rfl
    intro K' hK'
    go_simp
    exact hK'.go _ rfl ⟨B1, B4, B9, hK, d10, h9b, h0, h1, h2, h3, h4, h5, fun _ => rfl, h7, h8, h9, h10⟩
  · intro l x w' hJ hi hd
    obtain ⟨B1, B4, B9, hK, d10, h9b, h0, h1, h2, h3, h4, h5, h6, h7, h8, h9, h10⟩ := hJ
    refine Runs.of (b := ?bL7) ?eL7 ?_
    case eL7 => simp only [putV, Act.put, List.setIfInBounds_toArray, List.set_cons_zero, List.set_cons_succ]; rfl
    intro K' hK'
    go_simp
    exact hK'.go _ rfl ⟨B1, B4, B9, hK, d10, h9b, h0, h1, h2, h3, h4, h5, h6, fun _ => rfl, h8, h9, h10⟩
  · intro l x w' hJ hi hd
    obtain ⟨B1, B4, B9, hK, d10, h9b, h0, h1, h2, h3, h4, h5, h6, h7, h8, h9, h10⟩ := hJ
    have e2 := h2 (show l 2 = true by first | exact hd.1 rfl | exact hd.2.1 rfl | exact hd.2.2.1 rfl | exact hd.2.2.2.1 rfl | exact hd.2.2.2.2.1 rfl | exact hd.2.2.2.2.2.1 rfl)
    have e5 := h5 (show l 5 = true by first | exact hd.1 rfl | exact hd.2.1 rfl | exact hd.2.2.1 rfl | exact hd.2.2.2.1 rfl | exact hd.2.2.2.2.1 rfl | exact hd.2.2.2.2.2.1 rfl)
    have e6 := h6 (show l 6 = true by first | exact hd.1 rfl | exact hd.2.1 rfl | exact hd.2.2.1 rfl | exact hd.2.2.2.1 rfl | exact hd.2.2.2.2.1 rfl | exact hd.2.2.2.2.2.1 rfl)
    have e7 := h7 (show l 7 = true by first | exact hd.1 rfl | exact hd.2.1 rfl | exact hd.2.2.1 rfl | exact hd.2.2.2.1 rfl | exact hd.2.2.2.2.1 rfl | exact hd.2.2.2.2.2.1 rfl)
    have hb1 := hbld (toStr (List.replicate K 0)) (toStr (List.replicate V 0)) n g
    refine Runs.of (b := ?bL8) ?eL8 ?_
    case eL8 => simp only [putV, Act.put, List.setIfInBounds_toArray, List.set_cons_zero, List.set_cons_succ, e2, e5, e6, e7]; rfl
    intro K' hK'
    go_simp
    exact hK'.go _ rfl ⟨B1, B4, B9, hK, d10, h9b, h0, h1, h2, h3, h4, h5, h6, h7, fun _ => rfl, h9, h10⟩
  · intro l x w' hJ hi hd
    obtain ⟨B1, B4, B9, hK, d10, h9b, h0, h1, h2, h3, h4, h5, h6, h7, h8, h9, h10⟩ := hJ
    have l10 : l 10 = false := by cases h : l 10 with | false => rfl | true => have := d10 h; rw [hi] at this; cases this
    refine Runs.of (b := ?bL9) ?eL9 ?_
    case eL9 => simp only [putV, Act.put, List.setIfInBounds_toArray, List.set_cons_zero, List.set_cons_succ]; rfl
    intro K' hK'
    go_simp
    exact hK'.go _ rfl ⟨B1, B4, w'.heap.size, hK.alloc _, fun _ => rfl, fun _ => hK.size, h0, fun h => ⟨(h1 h).1, (h1 h).2.alloc _⟩, h2, h3, fun h => ⟨(h4 h).1, (h4 h).2.alloc _⟩, h5, h6, h7, h8, fun _ => ⟨rfl, limC0 l10 ▸ Blk.new _ (itC { data := #[] } { data := #[] } 0 false) _⟩, h10⟩
  · intro l x w' hJ hi hd
    obtain ⟨B1, B4, B9, hK, d10, h9b, h0, h1, h2, h3, h4, h5, h6, h7, h8, h9, h10⟩ := hJ
    have e8 := h8 (show l 8 = true by first | exact hd.1 rfl | exact hd.2.1 rfl | exact hd.2.2.1 rfl | exact hd.2.2.2.1 rfl | exact hd.2.2.2.2.1 rfl | exact hd.2.2.2.2.2.1 rfl)
    have e9 := h9 (show l 9 = true by first | exact hd.1 rfl | exact hd.2.1 rfl | exact hd.2.2.1 rfl | exact hd.2.2.2.1 rfl | exact hd.2.2.2.2.1 rfl | exact hd.2.2.2.2.2.1 rfl)
    have f0 := e9.2.free 0
    have f1 := e9.2.free 1
    have f2 := e9.2.free 2
    have f3 := e9.2.free 3
    have c0 := e9.2.cell 0
    have c1 := e9.2.cell 1
    have c2 := e9.2.cell 2
    have c3 := e9.2.cell 3
    have L9 := Lib.hid (show l 9 = true by first | exact hd.1 rfl | exact hd.2.1 rfl | exact hd.2.2.1 rfl | exact hd.2.2.2.1 rfl | exact hd.2.2.2.2.1 rfl | exact hd.2.2.2.2.2.1 rfl)
    unfold limC at c0 c1 c2 c3
    rw [hi] at c0 c1 c2 c3
    simp only [itC, Bool.false_eq_true, if_false, List.getElem?_cons_zero, List.getElem?_cons_succ] at c0 c1 c2 c3
    refine Runs.of (b := ?bL10) ?eL10 ?_
    case eL10 => simp only [putV, Act.put, List.setIfInBounds_toArray, List.set_cons_zero, List.set_cons_succ, e8, e9.1]; rfl
    intro K' hK'
    go_simp
    have hbn : ∀ q T, Ty w' q T → T ≠ 49 → q ≠ B9 := fun q T h hn => h.ne e9.2.ty hn
    have hSet := limC_set e9.2
    have hkS : Keep [B9] w' ((((w'.setCell ⟨B9, 0, none⟩ (.string (toStr (List.replicate K 0)))).setCell ⟨B9, 1, none⟩ (.string (toStr (List.replicate V 0)))).setCell ⟨B9, 2, none⟩ (.int .i64 n)).setCell ⟨B9, 3, none⟩ (.bool g)) := ((((Keep.refl _ _).setCell (.inl (by simp)) _).setCell (.inl (by simp)) _).setCell (.inl (by simp)) _).setCell (.inl (by simp)) _
    exact hK'.go undef rfl ⟨B1, B4, B9, hK.then hkS (by intro q hq hlt; simp only [List.mem_cons, List.not_mem_nil, or_false] at hq; have := (h9b L9.out); omega), fun _ => L9.out, h9b, h0, fun h => ⟨(h1 h).1, (h1 h).2.keep hkS (by simp only [List.mem_cons, List.not_mem_nil, or_false]; exact hbn _ _ (h1 h).2.ty (by decide))⟩, h2, h3, fun h => ⟨(h4 h).1, (h4 h).2.keep hkS (by simp only [List.mem_cons, List.not_mem_nil, or_false]; exact hbn _ _ (h4 h).2.ty (by decide))⟩, h5, h6, h7, h8, fun h => ⟨(h9 h).1, hSet⟩, fun _ => trivial⟩
  · intro l x w3 hJ hl
    obtain ⟨B1, B4, B9, hK, d10, h9b, h0, h1, h2, h3, h4, h5, h6, h7, h8, h9, h10⟩ := hJ
    have e9 := h9 (hl 9 (by decide))
    have hb9 := h9b (hl 9 (by decide))
    have hX : Blk w3 B9 (itC (toStr (List.replicate K 0)) (toStr (List.replicate V 0)) n g) 49 := by
      have := e9.2
      unfold limC at this
      rw [hl 10 (by decide)] at this
      exact this
    have e91 := e9.1
    simp only [putV, Act.put, List.setIfInBounds_toArray, List.set_cons_zero, List.set_cons_succ, e91]
    have K3 := K1.trans hK
    have hks : (toStr (List.replicate K 0)).size = K := by simp
    have hvs : (toStr (List.replicate V 0)).size = V := by simp
    clear h0 h1 h2 h3 h4 h5 h6 h7 h8 h9 h10 e9 e91 hl d10 h9b hK hb9 hbld hmk
    generalize toStr (List.replicate K 0) = sk at *
    generalize toStr (List.replicate V 0) = sv at *
    go_upto_region 7 with fail
    go_cut [11] (fun s11 wc => w3 = wc ∧ s11 = .bool (itMay sk sv n g))
    case first =>
      have hM : ∀ r : Bool, r = itMay sk sv n g → (.bool r : Value) = .bool (itMay sk sv n g) := fun r h => by rw [h]
      by_cases a1 : 1 ≤ K
      case neg =>
        have p1 : decide ((1 : Int) ≤ K) = false := decide_eq_false (by omega)
        have HM := Lib.hid (hM false (by unfold itMay itKey; rw [hks, decide_eq_false a1]; rfl))
        clear hM
        go_wp2_with fail
        go_meet
        exact ⟨rfl, HM.out⟩
      have p1 : decide ((1 : Int) ≤ K) = true := decide_eq_true (by omega)
      by_cases a2 : K ≤ 40
      case neg =>
        have p2 : decide ((K : Int) ≤ 40) = false := decide_eq_false (by omega)
        have HM := Lib.hid (hM false (by unfold itMay itKey; rw [hks, decide_eq_false a2]; simp))
        clear hM
        go_wp2_with fail
        go_meet
        exact ⟨rfl, HM.out⟩
      have p2 : decide ((K : Int) ≤ 40) = true := decide_eq_true (by omega)
      by_cases a3 : V ≤ 200
      case neg =>
        have p3 : decide ((V : Int) ≤ 200) = false := decide_eq_false (by omega)
        have HM := Lib.hid (hM false (by unfold itMay; rw [hvs, decide_eq_false a3]; simp))
        clear hM
        go_wp2_with fail
        go_meet
        exact ⟨rfl, HM.out⟩
      have p3 : decide ((V : Int) ≤ 200) = true := decide_eq_true (by omega)
      by_cases a4 : 0 ≤ n
      case neg =>
        have p4 : decide (0 ≤ n) = false := decide_eq_false a4
        have HM := Lib.hid (hM false (by unfold itMay; rw [decide_eq_false a4]; simp))
        clear hM
        go_wp2_with fail
        go_meet
        exact ⟨rfl, HM.out⟩
      have p4 : decide (0 ≤ n) = true := decide_eq_true a4
      by_cases a5 : n ≤ 1099511627776
      case neg =>
        have p5 : decide (n ≤ 1099511627776) = false := decide_eq_false a5
        have HM := Lib.hid (hM false (by unfold itMay; rw [decide_eq_false a5]; simp))
        clear hM
        go_wp2_with fail
        go_meet
        exact ⟨rfl, HM.out⟩
      have p5 : decide (n ≤ 1099511627776) = true := decide_eq_true a5
      have hR : itMay sk sv n g = (!g || (decide (V = 0) && decide (n = 0))) := by unfold itMay itKey; rw [hks, hvs, decide_eq_true a1, decide_eq_true a2, decide_eq_true a3, p4, p5]; simp
      have HM2 := Lib.hid (fun (r : Bool) (h : r = (!g || (decide (V = 0) && decide (n = 0)))) => hM r (h.trans hR.symm))
      clear hM hR
      cases g
      · go_wp2_with fail
        go_meet
        exact ⟨rfl, HM2.out true rfl⟩
      by_cases a6 : V = 0
      case neg =>
        have p6 : ((V : Int) == 0) = false := by simpa using (by omega : ¬ (V : Int) = 0)
        have p7 : decide (V = 0) = false := decide_eq_false a6
        go_wp2_with fail
        go_meet
        exact ⟨rfl, HM2.out false (by simp [a6])⟩
      subst a6
      by_cases a7 : n = 0
      · subst a7
        go_wp2_with fail
        go_meet
        exact ⟨rfl, HM2.out true (by simp)⟩
      · have p8 : (n == 0) = false := by simpa using a7
        go_wp2_with fail
        go_meet
        exact ⟨rfl, HM2.out false (by simp [a7])⟩
    case rest =>
    obtain ⟨rfl, rfl⟩ := hcut
    clear q0 q1 q2 q3
    obtain ⟨M, hM⟩ : ∃ M, M = itMay sk sv n g := ⟨_, rfl⟩
    rw [← hM]
    have hsz : ∀ y ∈ [((sk, sv, n, g) : It)], y.1.size ≤ 9223372036854775807 ∧ y.2.1.size ≤ 9223372036854775807 := by intro y hy; simp only [List.mem_singleton] at hy; subst hy; exact ⟨by rw [hks]; omega, by rw [hvs]; omega⟩
    have hsz2 : ∀ y ∈ [((sk, sv, n, g) : It)], y.1.size ≤ 1000000 ∧ y.2.1.size ≤ 1000000 := by intro y hy; simp only [List.mem_singleton] at hy; subst hy; exact ⟨by rw [hks]; omega, by rw [hvs]; omega⟩
    have hiS : itSize [((sk, sv, n, g) : It)] = K + V := by simp [itSize, hks, hvs]
    have HM := Lib.hid hM
    have HSZ := Lib.hid hsz
    have HSZ2 := Lib.hid hsz2
    have HIS := Lib.hid hiS
    have HKS := Lib.hid (show sk.size ≤ 9223372036854775807 ∧ sv.size ≤ 9223372036854775807 by omega)
    clear hM hsz hsz2 hiS hks hvs
    have c0 := hX.cell 0
    have c1 := hX.cell 1
    have c2 := hX.cell 2
    have c3 := hX.cell 3
    simp only [itC, List.getElem?_cons_zero, List.getElem?_cons_succ] at c0 c1 c2 c3
    go_wp2_with fail
    refine (May_any sk sv n g HKS.out.1 HKS.out.2 M HM.out).mono ?_
    rintro e w4 ⟨rfl, k4⟩
    have hX4 := hX.keep k4 (by simp)
    have K4 := K3.trans k4
    have hmm : (M == M) = true := by simp
    clear c0 c1 c2 c3 hX K3 k4
    have c0 := hX4.cell 0
    have c1 := hX4.cell 1
    have c2 := hX4.cell 2
    have c3 := hX4.cell 3
    simp only [itC, List.getElem?_cons_zero, List.getElem?_cons_succ] at c0 c1 c2 c3
    go_wp2_with fail
    refine (itEncode_any _ [(sk, sv, n, g)] (rv_its (Blk.new w4 (ic [(sk, sv, n, g)]) _) rfl) (by simp) HSZ.out).mono ?_
    rintro e w5 ⟨vx, rfl, ⟨hx5, _⟩, k5⟩
    have hX5 := (hX4.alloc (.cells (ic [(sk, sv, n, g)]).toArray 49)).keep k5 (by simp)
    have K5 := (K4.alloc (.cells (ic [(sk, sv, n, g)]).toArray 49)).trans k5
    have hEN : encIts [(sk, sv, n, g)] = if M = true then putIt (sk, sv, n, g) else [] := by
      have e1 : [((sk, sv, n, g) : It)].all mayIt = M := by rw [HM.out]; simp [mayIt]
      unfold encIts
      rw [e1]
      simp [putIts]
    have hpp := putIt_pos (sk, sv, n, g)
    have hLV : itLive sk sv n g 0 = (M && !g) := by
      unfold itLive
      rw [← HM.out]
      cases hMM : M
      · rfl
      · have h1 := HM.out
        rw [hMM] at h1
        have h2 := may_sizes (y := (sk, sv, n, g)) h1.symm
        simp only at h2
        have h3 : (decide (n = 0) || decide (0 < n)) = true := by
          rw [Bool.or_eq_true, decide_eq_true_eq, decide_eq_true_eq]; omega
        rw [h3]; simp
    have HLV := Lib.hid hLV.symm
    clear c0 c1 c2 c3 hX4 K4 k5 hLV hmm
    rw [hEN] at hx5
    clear hEN
    obtain ⟨xa, xc, rfl⟩ := hx5.slice
    clear hx5
    have c0 := hX5.cell 0
    have c1 := hX5.cell 1
    have c2 := hX5.cell 2
    have c3 := hX5.cell 3
    simp only [itC, List.getElem?_cons_zero, List.getElem?_cons_succ] at c0 c1 c2 c3
    cases M
    · simp only [Bool.false_eq_true, if_false, List.length_nil]
      go_wp2_with fail
      refine (Live_any sk sv n g 0 HKS.out.1 HKS.out.2 _ HLV.out).mono ?_
      rintro e w6 ⟨rfl, k6⟩
      have K6 := K5.trans k6
      go_wp2_with fail
      go_ret
      exact ⟨rfl, K6.below⟩
    · have hl0 : (0 : Int) < ((putIt (sk, sv, n, g)).length : Int) := by omega
      simp only [if_true]
      generalize (putIt (sk, sv, n, g)).length = PL at *
      go_wp2_with fail
      refine (Live_any sk sv n g 0 HKS.out.1 HKS.out.2 _ HLV.out).mono ?_
      rintro e w6 ⟨rfl, k6⟩
      have hX6 := hX5.keep k6 (by simp)
      have K6 := K5.trans k6
      clear c0 c1 c2 c3 hX5 K5 k6
      have c0 := hX6.cell 0
      have c1 := hX6.cell 1
      have c2 := hX6.cell 2
      have c3 := hX6.cell 3
      simp only [itC, List.getElem?_cons_zero, List.getElem?_cons_succ] at c0 c1 c2 c3
      have hgg : ((true && !g) == !g) = true := by cases g <;> rfl
      have hgg2 : ((!g) == !g) = true := by cases g <;> rfl
      go_wp2_with fail
      refine (Size_any _ [(sk, sv, n, g)] (rv_its (Blk.new w6 (ic [(sk, sv, n, g)]) _) rfl) (by simp) HSZ2.out).mono ?_
      rintro e w7 ⟨rfl, k7⟩
      have K7 := (K6.alloc (.cells (ic [(sk, sv, n, g)]).toArray 49)).trans k7
      rw [HIS.out]
      have hkv : ((K + V : Nat) : Int) = (K : Int) + (V : Int) := by omega
      rw [hkv]
      clear hkv
      go_wp2_with fail
      go_ret
      exact ⟨rfl, K7.below⟩
end Go.Proofs.Ytpibpgfadkfgbaa
