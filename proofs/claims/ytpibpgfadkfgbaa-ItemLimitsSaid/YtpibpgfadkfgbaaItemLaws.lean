/- The laws of entries: begun, tells; ItemAny, ItemMay: their walks. -/
import Derived.Test.YtpibpgfadkfgbaaItemDec2
import Derived.Test.YtpibpgfadkfgbaaItemRef
namespace Go.Proofs.Ytpibpgfadkfgbaa
open Go.ChangeShapes Go.WideShapes Go.ChangeAt Go.RowKit
set_option linter.unusedVariables false
set_option linter.unusedSimpArgs false

def itSize (l : List It) : Nat := (l.map fun y => y.1.size + y.2.1.size).sum
theorem itSize_snoc (l : List It) (y : It) : itSize (l ++ [y]) = itSize l + (y.1.size + y.2.1.size) := by simp [itSize]
set_option maxHeartbeats 4000000 in
theorem Size_any {w : World} (a : Value) (l : List It) (h : IRd w a l) (hl : l.length ≤ 1000000) (hs : ∀ y ∈ l, y.1.size ≤ 1000000 ∧ y.2.1.size ≤ 1000000) :
    Calls Try.prog 36 #[a] w fun e w' => e = .returned (.int .i64 (itSize l : Int)) ∧ Keep [] w w' := by
  obtain ⟨_, aa, cap, rfl, hcap, _⟩ := id h
  go_enter Try.func36, Try.ntmps36
  go_wp2_with fail
  go_loopw [3, 8] (fun s i wr => ∃ j : Nat, j ≤ l.length ∧ i = .int .i64 j ∧ s = .int .i64 (itSize (l.take j) : Int) ∧ itSize (l.take j) ≤ 2000000 * j ∧ Keep [] w wr) (fun _ i _ => l.length - (intOf i).toNat)
  case atStart => exact ⟨0, by omega, rfl, rfl, by simp [itSize], Keep.refl _ _⟩
  case round =>
    obtain ⟨j, hj, rfl, rfl, hle, hK⟩ := hrel
    by_cases hlt : j < l.length
    · have q2 : (j : Int) < l.length := by omega
      obtain ⟨y, hy⟩ : ∃ y, l[j]? = some y := ⟨_, List.getElem?_eq_getElem hlt⟩
      have hsy := hs y (List.mem_of_getElem? hy)
      obtain ⟨og, oo, ocap2, he, _, hog, c0, c1, c2, c3⟩ := its_at (h.keep hK (by simp)) j y hy
      simp only [Value.slice.injEq] at he
      obtain ⟨rfl, _, rfl⟩ := he
      have htk : itSize (l.take (j + 1)) = itSize (l.take j) + (y.1.size + y.2.1.size) := by rw [List.take_add_one, hy]; exact itSize_snoc _ _
      have HTK := Lib.hid htk
      clear htk hy
      obtain ⟨k, v, n, g⟩ := y
      simp only at c0 c1 c2 c3 hsy
      generalize itSize (l.take j) = S at *
      obtain ⟨h1, h2⟩ := hsy
      go_wp2_with fail
      go_roundw
      case rel => exact ⟨j + 1, by omega, by go_num, by rw [HTK.out]; go_num, by rw [HTK.out]; simp only; omega, hK.alloc _⟩
      case measure => simp [intOf]; omega
    · obtain rfl : j = l.length := by omega
      rw [List.take_of_length_le (Nat.le_refl _)] at *
      go_wp2_with fail
      go_ret
      exact ⟨by simp, hK⟩

theorem putIts_ge (l : List It) : l.length ≤ (putIts l).length := by
  induction l with
  | nil => simp
  | cons y l ih =>
    have e : putIts (y :: l) = putIt y ++ putIts l := by simp [putIts]
    have := putIt_pos y
    rw [e, List.length_append, List.length_cons]; omega
def xK : ByteArray := { data := #[107] }
def xV : ByteArray := { data := #[118] }
def xIt : It := (xK, xV, 9, false)
theorem xIt_may : mayIt xIt = true := by decide
theorem xIts_enc : encIts [xIt, xIt] ≠ [] ∧ 0 < (encIts [xIt, xIt]).length ∧ (encIts [xIt, xIt]).length ≤ 600 := by
  have h1 : encIts [xIt, xIt] = putIts [xIt, xIt] := by unfold encIts; rw [if_pos (by simp [xIt_may])]
  have h2 := encIts_len [xIt, xIt]
  have h3 : 0 < (encIts [xIt, xIt]).length := by
    rw [h1]
    have := putIt_pos xIt
    simp only [putIts, List.map_cons, List.map_nil, List.flatten_cons, List.flatten_nil, List.length_append, List.length_nil]
    omega
  exact ⟨List.length_pos_iff.1 h3, h3, h2⟩
theorem rv_its {w : World} {b n : Nat} {l : List It} (h : Blk w b (ic l) 49) (hn : n = l.length) : Rv w 4 (.slice (some ⟨b, 0, none⟩) n n) l.length (ic l) := by
  subst hn
  refine ⟨ic_len l, _, _, rfl, Nat.le_refl _, fun _ => ⟨b, 0, rfl, h.lt, fun i hi => ?_⟩⟩
  rw [Nat.zero_add, h.cell]
set_option maxRecDepth 100000 in
set_option maxHeartbeats 4000000 in
theorem begun7 (w : World) : Calls Try.prog 27 #[] w fun e w' => e = .returned (.bool true) ∧ Keep [] w w' := by
  have hbld : ∀ W : World, (Instr.build 49 #[(0, .string { data := #[107] }), (1, .string { data := #[118] }), (2, .int .i64 9)]).run Try.prog W = .ok (itV { data := #[107] } { data := #[118] } 9 false) W := fun W => run_build W _ _ _ (by kernel_rfl)
  go_enter Try.func27, Try.ntmps27
  go_wp2_with fail
  have hx0 : Blk ((w.alloc (.cells (itC xK xV 9 false).toArray 49)).alloc (.cells (ic [xIt, xIt]).toArray 49)) w.heap.size (itC xK xV 9 false) 49 := (Blk.new _ _ _).alloc _
  have hs0 : Blk ((w.alloc (.cells (itC xK xV 9 false).toArray 49)).alloc (.cells (ic [xIt, xIt]).toArray 49)) (w.heap.size + 1) (ic [xIt, xIt]) 49 := Blk.new' _ _ _ _ (by simp)
  have hK0 : Keep [] w ((w.alloc (.cells (itC xK xV 9 false).toArray 49)).alloc (.cells (ic [xIt, xIt]).toArray 49)) := ((Keep.refl _ _).alloc _).alloc _
  obtain ⟨w1, hw1⟩ : ∃ W, W = (w.alloc (.cells (itC xK xV 9 false).toArray 49)).alloc (.cells (ic [xIt, xIt]).toArray 49) := ⟨_, rfl⟩
  change Calls _ _ _ ((w.alloc (.cells (itC xK xV 9 false).toArray 49)).alloc (.cells (ic [xIt, xIt]).toArray 49)) _
  rw [← hw1] at hx0 hs0 hK0 ⊢
  clear hw1 hbld
  generalize w.heap.size + 1 = sb at *
  generalize w.heap.size = xb at *
  have hsz : ∀ y ∈ [xIt, xIt], y.1.size ≤ 9223372036854775807 ∧ y.2.1.size ≤ 9223372036854775807 := by intro y hy; simp at hy; subst hy; decide
  refine (itEncode_any _ [xIt, xIt] (rv_its hs0 rfl) (by simp) hsz).mono ?_
  rintro e w2 ⟨bv, rfl, ⟨hbf, _⟩, k2⟩
  have hx2 := hx0.keep k2 (by simp)
  have K2 := hK0.trans k2
  have hE := xIts_enc
  have hEb := encIts_byte [xIt, xIt]
  have hEd := itDec_enc [xIt, xIt] hE.1
  generalize encIts [xIt, xIt] = E at *
  obtain ⟨ba, bcap, rfl⟩ := hbf.slice
  have q0 : (0 : Int) < E.length := by omega
  have HE := Lib.hid hE
  have HEB := Lib.hid hEb
  have HED := Lib.hid hEd
  clear hE hEb hEd hx0 hs0 hK0 k2
  go_wp2_with fail
  refine (itDecode_any _ E hbf.rd HEB.out (by have := HE.out; omega)).mono ?_
  rintro e w3 ⟨k3, ⟨ll, lv, hd, rfl, hL⟩ | ⟨hd, _⟩⟩
  case inr => rw [HED.out] at hd; cases hd
  rw [HED.out] at hd
  obtain rfl := Option.some.inj hd
  clear hd hbf
  obtain ⟨lg, lo, lcap, rfl, _, hlg, _, _, e2, _⟩ := its_at hL.rd 1 xIt rfl
  have hx3 := hx2.keep k3 (by simp)
  have K3 := K2.trans k3
  clear hx2 k3
  have c0 := hx3.cell 0
  have c1 := hx3.cell 1
  have c2 := hx3.cell 2
  have c3 := hx3.cell 3
  simp only [itC, List.getElem?_cons_zero, List.getElem?_cons_succ] at c0 c1 c2 c3
  go_wp2_with fail
  refine (May_any xK xV 9 false (by decide) (by decide) true (by decide)).mono ?_
  rintro e w4 ⟨rfl, k4⟩
  have hx4 := hx3.keep k4 (by simp)
  have K4 := K3.trans k4
  replace e2 := (k4.cell (p := ⟨lg, lo + 1 * 4 + 2, none⟩) hlg (by simp)).trans e2
  have hl4 : lg < w4.heap.size := Nat.lt_of_lt_of_le hlg k4.size
  clear c0 c1 c2 c3
  have c0 := hx4.cell 0
  have c1 := hx4.cell 1
  have c2 := hx4.cell 2
  have c3 := hx4.cell 3
  simp only [itC, List.getElem?_cons_zero, List.getElem?_cons_succ] at c0 c1 c2 c3
  go_wp2_with fail
  refine (Live_any xK xV 9 false 8 (by decide) (by decide) true (by decide)).mono ?_
  rintro e w5 ⟨rfl, k5⟩
  have hx5 := hx4.keep k5 (by simp)
  have K5 := K4.trans k5
  replace e2 := (k5.cell (p := ⟨lg, lo + 1 * 4 + 2, none⟩) hl4 (by simp)).trans e2
  have hl5 : lg < w5.heap.size := Nat.lt_of_lt_of_le hl4 k5.size
  clear c0 c1 c2 c3
  have c0 := hx5.cell 0
  have c1 := hx5.cell 1
  have c2 := hx5.cell 2
  have c3 := hx5.cell 3
  simp only [itC, List.getElem?_cons_zero, List.getElem?_cons_succ] at c0 c1 c2 c3
  go_wp2_with fail
  refine (Live_any xK xV 9 false 9 (by decide) (by decide) false (by decide)).mono ?_
  rintro e w6 ⟨rfl, k6⟩
  have hx6 := hx5.keep k6 (by simp)
  have K6 := K5.trans k6
  replace e2 := (k6.cell (p := ⟨lg, lo + 1 * 4 + 2, none⟩) hl5 (by simp)).trans e2
  clear c0 c1 c2 c3
  have c0 := hx6.cell 0
  have c1 := hx6.cell 1
  have c2 := hx6.cell 2
  have c3 := hx6.cell 3
  simp only [itC, List.getElem?_cons_zero, List.getElem?_cons_succ] at c0 c1 c2 c3
  go_wp2_with fail
  have hsz2 : ∀ y ∈ [xIt, xIt], y.1.size ≤ 1000000 ∧ y.2.1.size ≤ 1000000 := by intro y hy; simp at hy; subst hy; decide
  refine (Size_any _ [xIt, xIt] (rv_its (Blk.new w6 (ic [xIt, xIt]) _) rfl) (by simp) hsz2).mono ?_
  rintro e w7 ⟨rfl, k7⟩
  rw [show itSize [xIt, xIt] = 4 by decide]
  go_wp2_with fail
  go_ret
  exact ⟨rfl, (K6.alloc _).trans k7⟩
def itellJ (w0 : World) (la ba : Option Addr) (lcap bcap : Nat) (ll : List It) (b : List Nat) (l : Nat → Bool) (x : Nat → Value) (w' : World) : Prop :=
  (IRd w' (.slice la ll.length lcap) ll) ∧
  (Rd w' (.slice ba b.length bcap) b) ∧
  (Keep [] w0 w') ∧
  (l 0 = true → x 0 = .slice la ll.length lcap) ∧
  (l 1 = true → x 1 = .int .i64 (ll.length : Int)) ∧
  (l 2 = true → x 2 = .bool true) ∧
  (l 3 = true → x 3 = .bool true) ∧
  (l 4 = true → x 4 = .slice la ll.length lcap) ∧
  (l 5 = true → Buf w' 0 5 (x 5) b) ∧
  (l 6 = true → x 6 = .string (toStr b)) ∧
  (l 7 = true → x 7 = .slice ba b.length bcap) ∧
  (l 8 = true → x 8 = .string (toStr b)) ∧
  (l 9 = true → x 9 = .bool true) ∧
  (l 10 = true → x 10 = .bool true) ∧
  (l 11 = true → x 11 = .bool true)

set_option maxRecDepth 100000 in
set_option maxHeartbeats 4000000 in
theorem itells_any {w : World} (bv : Value) (b : List Nat) (h : Rd w bv b) (hb : ∀ c ∈ b, c < 256) (hl : b.length ≤ 100000) :
    Calls Try.prog 39 #[bv] w fun e w' => e = .returned (.bool true) ∧ Keep [] w w' := by
  obtain ⟨_, ba, bcap, rfl, _, _⟩ := id h
  have HD := Lib.hid (itDecode_any (w := w) (.slice ba b.length bcap) b h hb hl)
  have HB := Lib.hid hb
  clear hb
  go_enter Try.func39, Try.ntmps39
  go_wp2_with fail
  refine HD.out.mono ?_
  rintro e w2 ⟨K2, ⟨ll, lv, hdec, rfl, hL⟩ | ⟨_, rfl⟩⟩
  · obtain ⟨henc, hbne, hlne⟩ := itDec_some hdec
    have hlpos : 0 < ll.length := List.length_pos_iff.2 hlne
    have hL2 := hL.rd
    have hr2 := h.keep K2 (by simp)
    have hall : ll.all mayIt = true := by
      cases hh : ll.all mayIt with
      | true => rfl
      | false => exact absurd (by rw [← henc]; unfold encIts; rw [hh]; rfl) hbne
    have HSZ := Lib.hid (show ∀ y ∈ ll, y.1.size ≤ 9223372036854775807 ∧ y.2.1.size ≤ 9223372036854775807 from fun y hy => by have := may_sizes (List.all_eq_true.1 hall y hy); omega)
    have hpl := putIts_ge ll
    have hpe : encIts ll = putIts ll := by unfold encIts; rw [if_pos hall]
    have HLL := Lib.hid (show ll.length ≤ 1000000 by rw [← hpe, henc] at hpl; omega)
    have HENC := Lib.hid henc
    obtain ⟨la, lcap, rfl⟩ := hL.slice
    have q0 : (0 : Int) < ll.length := by omega
    clear henc hbne hlne hall hpl hpe hdec HD hL h
    go_wp2_with fail
    refine wp_region_inv (itellJ w2 la ba lcap bcap ll b) (by kernel_rfl) (by kernel_rfl) (by kernel_rfl) ?_ (Steps.cons 0 ?_ (Steps.cons 1 ?_ (Steps.cons 2 ?_ (Steps.cons 3 ?_ (Steps.cons 4 ?_ (Steps.cons 5 ?_ (Steps.cons 6 ?_ (Steps.cons 7 ?_ (Steps.cons 8 ?_ (Steps.cons 9 ?_ (Steps.cons 10 ?_ (Steps.cons 11 ?_ (Steps.nil 12))))))))))))) 12 rfl ?_
    · intro x
      exact ⟨hL2.keep ((Keep.refl [] _).drew) (by simp), hr2.keep ((Keep.refl [] _).drew) (by simp), (Keep.refl _ _).drew, fun h => absurd h (by decide), fun h => absurd h (by decide), fun h => absurd h (by decide), fun h => absurd h (by decide), fun h => absurd h (by decide), fun h => absurd h (by decide), fun h => absurd h (by decide), fun h => absurd h (by decide), fun h => absurd h (by decide), fun h => absurd h (by decide), fun h => absurd h (by decide), fun h => absurd h (by decide)⟩
    · intro l x w' hJ hi hd
      obtain ⟨hl4, hrb, hK, h0, h1, h2, h3, h4, h5, h6, h7, h8, h9, h10, h11⟩ := hJ
      refine Runs.of (b := ?bT0) ?eT0 ?_
      case eT0 => simp only [putV, Act.put, List.setIfInBounds_toArray, List.set_cons_zero, List.set_cons_succ]; rfl
      intro K' hK'
      go_simp
      exact hK'.go _ rfl ⟨hl4, hrb, hK, fun _ => rfl, h1, h2, h3, h4, h5, h6, h7, h8, h9, h10, h11⟩
    · intro l x w' hJ hi hd
      obtain ⟨hl4, hrb, hK, h0, h1, h2, h3, h4, h5, h6, h7, h8, h9, h10, h11⟩ := hJ
      have e0 := h0 (show l 0 = true by first | exact hd.1 rfl | exact hd.2.1 rfl | exact hd.2.2.1 rfl | exact hd.2.2.2.1 rfl | exact hd.2.2.2.2.1 rfl | exact hd.2.2.2.2.2.1 rfl)
      refine Runs.of (b := ?bT1) ?eT1 ?_
      case eT1 => simp only [putV, Act.put, List.setIfInBounds_toArray, List.set_cons_zero, List.set_cons_succ, e0]; rfl
      intro K' hK'
      go_simp
      exact hK'.go _ rfl ⟨hl4, hrb, hK, h0, fun _ => rfl, h2, h3, h4, h5, h6, h7, h8, h9, h10, h11⟩
    · intro l x w' hJ hi hd
      obtain ⟨hl4, hrb, hK, h0, h1, h2, h3, h4, h5, h6, h7, h8, h9, h10, h11⟩ := hJ
      have e1 := h1 (show l 1 = true by first | exact hd.1 rfl | exact hd.2.1 rfl | exact hd.2.2.1 rfl | exact hd.2.2.2.1 rfl | exact hd.2.2.2.2.1 rfl | exact hd.2.2.2.2.2.1 rfl)
      refine Runs.of (b := ?bT2) ?eT2 ?_
      case eT2 => simp only [putV, Act.put, List.setIfInBounds_toArray, List.set_cons_zero, List.set_cons_succ, e1]; rfl
      intro K' hK'
      go_simp
      exact hK'.go _ rfl ⟨hl4, hrb, hK, h0, h1, fun _ => rfl, h3, h4, h5, h6, h7, h8, h9, h10, h11⟩
    · intro l x w' hJ hi hd
      obtain ⟨hl4, hrb, hK, h0, h1, h2, h3, h4, h5, h6, h7, h8, h9, h10, h11⟩ := hJ
      have e2 := h2 (show l 2 = true by first | exact hd.1 rfl | exact hd.2.1 rfl | exact hd.2.2.1 rfl | exact hd.2.2.2.1 rfl | exact hd.2.2.2.2.1 rfl | exact hd.2.2.2.2.2.1 rfl)
      refine Runs.of (b := ?bT3) ?eT3 ?_
      case eT3 => simp only [putV, Act.put, List.setIfInBounds_toArray, List.set_cons_zero, List.set_cons_succ, e2]; rfl
      intro K' hK'
      go_simp
      exact hK'.go _ rfl ⟨hl4, hrb, hK, h0, h1, h2, fun _ => rfl, h4, h5, h6, h7, h8, h9, h10, h11⟩
    · intro l x w' hJ hi hd
      obtain ⟨hl4, hrb, hK, h0, h1, h2, h3, h4, h5, h6, h7, h8, h9, h10, h11⟩ := hJ
      have e3 := h3 (show l 3 = true by first | exact hd.1 rfl | exact hd.2.1 rfl | exact hd.2.2.1 rfl | exact hd.2.2.2.1 rfl | exact hd.2.2.2.2.1 rfl | exact hd.2.2.2.2.2.1 rfl)
      refine Runs.of (b := ?bT4) ?eT4 ?_
      case eT4 => simp only [putV, Act.put, List.setIfInBounds_toArray, List.set_cons_zero, List.set_cons_succ, e3]; rfl
      intro K' hK'
      go_simp
      exact hK'.go _ rfl ⟨hl4, hrb, hK, h0, h1, h2, h3, fun _ => rfl, h5, h6, h7, h8, h9, h10, h11⟩
    · intro l x w' hJ hi hd
      obtain ⟨hl4, hrb, hK, h0, h1, h2, h3, h4, h5, h6, h7, h8, h9, h10, h11⟩ := hJ
      have e3 := h3 (show l 3 = true by first | exact hd.1 rfl | exact hd.2.1 rfl | exact hd.2.2.1 rfl | exact hd.2.2.2.1 rfl | exact hd.2.2.2.2.1 rfl | exact hd.2.2.2.2.2.1 rfl)
      have e4 := h4 (show l 4 = true by first | exact hd.1 rfl | exact hd.2.1 rfl | exact hd.2.2.1 rfl | exact hd.2.2.2.1 rfl | exact hd.2.2.2.2.1 rfl | exact hd.2.2.2.2.2.1 rfl)
      refine Runs.of (b := ?bT5) ?eT5 ?_
      case eT5 => simp only [putV, Act.put, List.setIfInBounds_toArray, List.set_cons_zero, List.set_cons_succ, e3, e4]; rfl
      intro K' hK'
      go_simp
      refine (refItems_any _ ll hl4 HLL.out HSZ.out).mono ?_
      rintro e w2 ⟨v2, rfl, hb2, k2⟩
      rw [HENC.out] at hb2
      go_simp
      exact hK'.go v2 rfl ⟨hl4.keep k2 (by simp), hrb.keep k2 (by simp), hK.trans k2, h0, h1, h2, h3, h4, fun _ => hb2.mono (by omega), h6, h7, h8, h9, h10, h11⟩
    · intro l x w' hJ hi hd
      obtain ⟨hl4, hrb, hK, h0, h1, h2, h3, h4, h5, h6, h7, h8, h9, h10, h11⟩ := hJ
      have e3 := h3 (show l 3 = true by first | exact hd.1 rfl | exact hd.2.1 rfl | exact hd.2.2.1 rfl | exact hd.2.2.2.1 rfl | exact hd.2.2.2.2.1 rfl | exact hd.2.2.2.2.2.1 rfl)
      have e5 := h5 (show l 5 = true by first | exact hd.1 rfl | exact hd.2.1 rfl | exact hd.2.2.1 rfl | exact hd.2.2.2.1 rfl | exact hd.2.2.2.2.1 rfl | exact hd.2.2.2.2.2.1 rfl)
      have hc := Rd.str (P := Try.prog) (dst := 9) e5.rd HB.out Try.underlying33 Try.underlying5 Try.underlying9
      obtain ⟨ta, tcap, ht⟩ := e5.slice
      rw [ht] at hc
      refine Runs.of (b := ?bT6) ?eT6 ?_
      case eT6 => simp only [putV, Act.put, List.setIfInBounds_toArray, List.set_cons_zero, List.set_cons_succ, e3, ht]; rfl
      intro K' hK'
      go_simp
      exact hK'.go _ rfl ⟨hl4, hrb, hK, h0, h1, h2, h3, h4, h5, fun _ => rfl, h7, h8, h9, h10, h11⟩
    · intro l x w' hJ hi hd
      obtain ⟨hl4, hrb, hK, h0, h1, h2, h3, h4, h5, h6, h7, h8, h9, h10, h11⟩ := hJ
      have e3 := h3 (show l 3 = true by first | exact hd.1 rfl | exact hd.2.1 rfl | exact hd.2.2.1 rfl | exact hd.2.2.2.1 rfl | exact hd.2.2.2.2.1 rfl | exact hd.2.2.2.2.2.1 rfl)
      refine Runs.of (b := ?bT7) ?eT7 ?_
      case eT7 => simp only [putV, Act.put, List.setIfInBounds_toArray, List.set_cons_zero, List.set_cons_succ, e3]; rfl
      intro K' hK'
      go_simp
      exact hK'.go _ rfl ⟨hl4, hrb, hK, h0, h1, h2, h3, h4, h5, h6, fun _ => rfl, h8, h9, h10, h11⟩
    · intro l x w' hJ hi hd
      obtain ⟨hl4, hrb, hK, h0, h1, h2, h3, h4, h5, h6, h7, h8, h9, h10, h11⟩ := hJ
      have e3 := h3 (show l 3 = true by first | exact hd.1 rfl | exact hd.2.1 rfl | exact hd.2.2.1 rfl | exact hd.2.2.2.1 rfl | exact hd.2.2.2.2.1 rfl | exact hd.2.2.2.2.2.1 rfl)
      have e7 := h7 (show l 7 = true by first | exact hd.1 rfl | exact hd.2.1 rfl | exact hd.2.2.1 rfl | exact hd.2.2.2.1 rfl | exact hd.2.2.2.2.1 rfl | exact hd.2.2.2.2.2.1 rfl)
      have hc := Rd.str (P := Try.prog) (dst := 9) hrb HB.out Try.underlying33 Try.underlying5 Try.underlying9
      refine Runs.of (b := ?bT8) ?eT8 ?_
      case eT8 => simp only [putV, Act.put, List.setIfInBounds_toArray, List.set_cons_zero, List.set_cons_succ, e3, e7]; rfl
      intro K' hK'
      go_simp
      exact hK'.go _ rfl ⟨hl4, hrb, hK, h0, h1, h2, h3, h4, h5, h6, h7, fun _ => rfl, h9, h10, h11⟩
    · intro l x w' hJ hi hd
      obtain ⟨hl4, hrb, hK, h0, h1, h2, h3, h4, h5, h6, h7, h8, h9, h10, h11⟩ := hJ
      have e3 := h3 (show l 3 = true by first | exact hd.1 rfl | exact hd.2.1 rfl | exact hd.2.2.1 rfl | exact hd.2.2.2.1 rfl | exact hd.2.2.2.2.1 rfl | exact hd.2.2.2.2.2.1 rfl)
      have e6 := h6 (show l 6 = true by first | exact hd.1 rfl | exact hd.2.1 rfl | exact hd.2.2.1 rfl | exact hd.2.2.2.1 rfl | exact hd.2.2.2.2.1 rfl | exact hd.2.2.2.2.2.1 rfl)
      have e8 := h8 (show l 8 = true by first | exact hd.1 rfl | exact hd.2.1 rfl | exact hd.2.2.1 rfl | exact hd.2.2.2.1 rfl | exact hd.2.2.2.2.1 rfl | exact hd.2.2.2.2.2.1 rfl)
      refine Runs.of (b := ?bT9) ?eT9 ?_
      case eT9 => simp only [putV, Act.put, List.setIfInBounds_toArray, List.set_cons_zero, List.set_cons_succ, e3, e6, e8]; rfl
      intro K' hK'
      go_simp
      exact hK'.go _ rfl ⟨hl4, hrb, hK, h0, h1, h2, h3, h4, h5, h6, h7, h8, fun _ => rfl, h10, h11⟩
    · intro l x w' hJ hi hd
      obtain ⟨hl4, hrb, hK, h0, h1, h2, h3, h4, h5, h6, h7, h8, h9, h10, h11⟩ := hJ
      have e3 := h3 (show l 3 = true by first | exact hd.1 rfl | exact hd.2.1 rfl | exact hd.2.2.1 rfl | exact hd.2.2.2.1 rfl | exact hd.2.2.2.2.1 rfl | exact hd.2.2.2.2.2.1 rfl)
      have e9 := h9 (show l 9 = true by first | exact hd.1 rfl | exact hd.2.1 rfl | exact hd.2.2.1 rfl | exact hd.2.2.2.1 rfl | exact hd.2.2.2.2.1 rfl | exact hd.2.2.2.2.2.1 rfl)
      refine Runs.of (b := ?bT10) ?eT10 ?_
      case eT10 => simp only [putV, Act.put, List.setIfInBounds_toArray, List.set_cons_zero, List.set_cons_succ, e3, e9]; rfl
      intro K' hK'
      go_simp
      exact hK'.go _ rfl ⟨hl4, hrb, hK, h0, h1, h2, h3, h4, h5, h6, h7, h8, h9, fun _ => rfl, h11⟩
    · intro l x w' hJ hi hd
      obtain ⟨hl4, hrb, hK, h0, h1, h2, h3, h4, h5, h6, h7, h8, h9, h10, h11⟩ := hJ
      have e10 := h10 (show l 10 = true by first | exact hd.1 rfl | exact hd.2.1 rfl | exact hd.2.2.1 rfl | exact hd.2.2.2.1 rfl | exact hd.2.2.2.2.1 rfl | exact hd.2.2.2.2.2.1 rfl)
      refine Runs.of (b := ?bT11) ?eT11 ?_
      case eT11 => simp only [putV, Act.put, List.setIfInBounds_toArray, List.set_cons_zero, List.set_cons_succ, e10]; rfl
      intro K' hK'
      go_simp
      exact hK'.go _ rfl ⟨hl4, hrb, hK, h0, h1, h2, h3, h4, h5, h6, h7, h8, h9, h10, fun _ => rfl⟩
    · intro l x w3 hJ hl
      obtain ⟨hl4, hrb, hK, h0, h1, h2, h3, h4, h5, h6, h7, h8, h9, h10, h11⟩ := hJ
      have e11 := h11 (hl 11 (by decide))
      simp only [putV, Act.put, List.setIfInBounds_toArray, List.set_cons_zero, List.set_cons_succ, e11]
      have K := K2.trans hK
      clear h0 h1 h2 h3 h4 h5 h6 h7 h8 h9 h10 h11 e11 hl hl4 hrb hK
      go_wp2_with fail
      go_ret
      exact ⟨rfl, K⟩
  · go_wp2_with fail
    go_ret
    exact ⟨rfl, K2⟩
end Go.Proofs.Ytpibpgfadkfgbaa
