/- The law ItemBytes: its walk. -/
import Derived.Test.YtpibpgfadkfgbaaItemIn
import Derived.Laws.BitsAllLaws
namespace Go.Proofs.Ytpibpgfadkfgbaa
open Go.ChangeShapes Go.WideShapes Go.ChangeAt Go.RowKit
set_option linter.unusedVariables false
set_option linter.unusedSimpArgs false

def sumJ (w0 : World) (og oo j S len lcap : Nat) (k v : ByteArray) (l : Nat → Bool) (x : Nat → Value) (w' : World) : Prop :=
  (Keep [] w0 w') ∧
  (l 15 = false → x 15 = .int .i64 (S : Int)) ∧
  (l 15 = true → l 0 = true) ∧
  (l 0 = true → x 0 = .int .i64 (S : Int)) ∧
  (l 1 = true → x 1 = .slice (some ⟨og, oo, none⟩) len lcap) ∧
  (l 2 = true → x 2 = .int .i64 (j : Int)) ∧
  (l 3 = true → x 3 = .pointer (some ⟨og, oo + j * 4, none⟩)) ∧
  (l 4 = true → x 4 = .pointer (some ⟨og, oo + j * 4, none⟩)) ∧
  (l 5 = true → x 5 = .string k) ∧
  (l 6 = true → x 6 = .int .i64 (k.size : Int)) ∧
  (l 7 = true → x 7 = .slice (some ⟨og, oo, none⟩) len lcap) ∧
  (l 8 = true → x 8 = .int .i64 (j : Int)) ∧
  (l 9 = true → x 9 = .pointer (some ⟨og, oo + j * 4, none⟩)) ∧
  (l 10 = true → x 10 = .pointer (some ⟨og, oo + j * 4 + 1, none⟩)) ∧
  (l 11 = true → x 11 = .string v) ∧
  (l 12 = true → x 12 = .int .i64 (v.size : Int)) ∧
  (l 13 = true → x 13 = .int .i64 ((k.size : Int) + (v.size : Int))) ∧
  (l 14 = true → x 14 = .int .i64 ((S : Int) + ((k.size : Int) + (v.size : Int))) ∧ Hid (l 0 = true)) ∧
  (l 15 = true → x 15 = .int .i64 ((S : Int) + ((k.size : Int) + (v.size : Int))))

set_option maxRecDepth 100000 in
set_option maxHeartbeats 8000000 in
theorem itemBytes_walk (av : Value) (at_ x : Int) (w : World) (w0 : IsItems w av) (_w1 : (Lit.int .i64 at_).wf = true) (_w2 : (Lit.int .u8 x).wf = true) :
    Calls Try.prog 9 #[av, .int .i64 at_, .int .u8 x] w fun e w' => e = .returned (.bool true) ∧ Below w.heap.size w w' := by
  obtain ⟨i0, hi, hz0, hz1, hz2⟩ := info_parts Try.info8
  obtain ⟨la, hia, hla, hsa⟩ := w0
  have hxw : 0 ≤ x ∧ x < 256 := by
    have := _w2
    simp [Lit.wf, IntKind.min, IntKind.max, IntKind.signed, IntKind.bits] at this
    omega
  clear _w1 _w2
  go_enter Try.func9, Try.ntmps9
  go_wp2_with fail
  refine (begun7 w).mono ?_
  rintro e w0 ⟨rfl, k0⟩
  go_wp2_with fail
  refine (Items_any av la 6 (hia.keep k0 (by simp)) hla (by omega) hsa).mono ?_
  rintro e w1 ⟨va, rfl, hA1, k1⟩
  have K1 := k0.trans k1
  have hszA := itCut_sizes la 6
  have hlA := itCut_len la 6
  clear hia hla hsa k0 k1
  generalize (la.take 6).map itCut = LA at *
  have HSA := Lib.hid (show ∀ y ∈ LA, y.1.size ≤ 9223372036854775807 ∧ y.2.1.size ≤ 9223372036854775807 from fun y hy => by have := hszA y hy; omega)
  have HSB := Lib.hid (show ∀ y ∈ LA, y.1.size ≤ 1000000 ∧ y.2.1.size ≤ 1000000 from fun y hy => by have := hszA y hy; omega)
  have HSC := Lib.hid hszA
  clear hszA
  obtain ⟨la0, lcap, rfl⟩ := hA1.slice
  go_wp2_with fail
  refine (itEncode_any _ LA hA1.rd (by omega) HSA.out).mono ?_
  rintro e w2 ⟨vx, rfl, ⟨hx2, _⟩, k2⟩
  have hA2 := hA1.keep k2 (by simp)
  have K2 := K1.trans k2
  clear hA1 K1 k2
  go_wp2_with fail
  refine (refItems_any _ LA hA2.rd (by omega) HSA.out).mono ?_
  rintro e w3 ⟨vy, rfl, hy3, k3⟩
  have hA3 := hA2.keep k3 (by simp)
  have hx3 := hx2.keep k3 (by simp)
  have K3 := K2.trans k3
  have hEb := encIts_byte LA
  have hEl := encIts_len LA
  have hEd := itDec_enc LA
  clear hA2 K2 k3 hx2
  generalize encIts LA = E at *
  have HEB := Lib.hid hEb
  have HED := Lib.hid hEd
  clear hEb hEd
  have hcx := Rd.str (P := Try.prog) (dst := 9) hx3.rd HEB.out Try.underlying33 Try.underlying5 Try.underlying9
  have hcy := Rd.str (P := Try.prog) (dst := 9) hy3.rd HEB.out Try.underlying33 Try.underlying5 Try.underlying9
  obtain ⟨xa, xc, rfl⟩ := hx3.slice
  obtain ⟨ya, yc, rfl⟩ := hy3.slice
  replace hx3 : Buf w3 0 5 (.slice xa E.length xc) E := hx3.mono (by omega)
  clear hy3
  go_wp2_with fail
  clear hcx hcy
  go_loopw [10, 11] (fun s i wr => ∃ j : Nat, j ≤ LA.length ∧ i = .int .i64 j ∧ s = .int .i64 (itSize (LA.take j) : Int) ∧ itSize (LA.take j) ≤ 420 * j ∧ IRow wr w0.heap.size (.slice la0 LA.length lcap) LA ∧ Buf wr 0 5 (.slice xa E.length xc) E ∧ Keep [] w wr) (fun _ i _ => LA.length - (intOf i).toNat)
  case atStart => exact ⟨0, by omega, rfl, rfl, by simp [itSize], hA3, hx3, K3⟩
  case round =>
    clear hA3 hx3 K3
    obtain ⟨j, hj, rfl, rfl, hle, hA, hE, hKw⟩ := hrel
    by_cases hlt : j < LA.length
    · have q2 : (j : Int) < LA.length := by omega
      obtain ⟨y, hy⟩ : ∃ y, LA[j]? = some y := ⟨_, List.getElem?_eq_getElem hlt⟩
      have hsy := HSC.out y (List.mem_of_getElem? hy)
      obtain ⟨og, oo, ocap2, he, _, hogl, A0, A1, _, _⟩ := its_at hA.rd j y hy
      simp only [Value.slice.injEq] at he
      obtain ⟨rfl, hq1, hq2⟩ := he
      clear hq1 hq2
      have htk : itSize (LA.take (j + 1)) = itSize (LA.take j) + (y.1.size + y.2.1.size) := by rw [List.take_add_one, hy]; exact itSize_snoc _ _
      have HTK := Lib.hid htk
      clear htk hy
      obtain ⟨k, v, n, g⟩ := y
      simp only at A0 A1 hsy
      obtain ⟨hs1, hs2⟩ := hsy
      generalize itSize (LA.take j) = S at *
      go_wp2_with fail
      refine wp_region_inv_own (sumJ wr og oo j S LA.length lcap k v) (by kernel_rfl) (by kernel_rfl) (by kernel_rfl) ?_ (Steps.cons 0 ?_ (Steps.cons 1 ?_ (Steps.cons 2 ?_ (Steps.cons 3 ?_ (Steps.cons 4 ?_ (Steps.cons 5 ?_ (Steps.cons 6 ?_ (Steps.cons 7 ?_ (Steps.cons 8 ?_ (Steps.cons 9 ?_ (Steps.cons 10 ?_ (Steps.cons 11 ?_ (Steps.cons 12 ?_ (Steps.cons 13 ?_ (Steps.cons 14 ?_ (Steps.cons 15 ?_ (Steps.nil 16))))))))))))))))) 16 rfl ?_
      · exact ⟨(Keep.refl _ _).drew, fun _ => rfl, fun h => absurd h (by decide), fun h => absurd h (by decide), fun h => absurd h (by decide), fun h => absurd h (by decide), fun h => absurd h (by decide), fun h => absurd h (by decide), fun h => absurd h (by decide), fun h => absurd h (by decide), fun h => absurd h (by decide), fun h => absurd h (by decide), fun h => absurd h (by decide), fun h => absurd h (by decide), fun h => absurd h (by decide), fun h => absurd h (by decide), fun h => absurd h (by decide), fun h => absurd h (by decide), fun h => absurd h (by decide)⟩
      · intro l x w' hJ hi hd
        obtain ⟨hK, d15, d0, h0, h1, h2, h3, h4, h5, h6, h7, h8, h9, h10, h11, h12, h13, h14, h15⟩ := hJ
        have l15 : l 15 = false := by cases h : l 15 with | false => rfl | true => have := d0 h; rw [hi] at this; cases this
        have e15 := d15 l15
        refine Runs.of (b := ?bS0) ?eS0 ?_
        case eS0 => simp only [putV, Act.put, List.setIfInBounds_toArray, List.set_cons_zero, List.set_cons_succ, e15]; rfl
        intro K' hK'
        go_simp
        exact hK'.go _ rfl ⟨hK, d15, fun _ => rfl, fun _ => rfl, h1, h2, h3, h4, h5, h6, h7, h8, h9, h10, h11, h12, h13, fun h => ⟨(h14 h).1, Lib.hid rfl⟩, h15⟩
      · intro l x w' hJ hi hd
        obtain ⟨hK, d15, d0, h0, h1, h2, h3, h4, h5, h6, h7, h8, h9, h10, h11, h12, h13, h14, h15⟩ := hJ
        refine Runs.of (b := ?bS1) ?eS1 ?_
        case eS1 => simp only [putV, Act.put, List.setIfInBounds_toArray, List.set_cons_zero, List.set_cons_succ]; rfl
        intro K' hK'
        go_simp
        exact hK'.go _ rfl ⟨hK, d15, d0, h0, fun _ => rfl, h2, h3, h4, h5, h6, h7, h8, h9, h10, h11, h12, h13, h14, h15⟩
      · intro l x w' hJ hi hd
        obtain ⟨hK, d15, d0, h0, h1, h2, h3, h4, h5, h6, h7, h8, h9, h10, h11, h12, h13, h14, h15⟩ := hJ
        refine Runs.of (b := ?bS2) ?eS2 ?_
        case eS2 => simp only [putV, Act.put, List.setIfInBounds_toArray, List.set_cons_zero, List.set_cons_succ]; rfl
        intro K' hK'
        go_simp
        exact hK'.go _ rfl ⟨hK, d15, d0, h0, h1, fun _ => rfl, h3, h4, h5, h6, h7, h8, h9, h10, h11, h12, h13, h14, h15⟩
      · intro l x w' hJ hi hd
        obtain ⟨hK, d15, d0, h0, h1, h2, h3, h4, h5, h6, h7, h8, h9, h10, h11, h12, h13, h14, h15⟩ := hJ
        have e1 := h1 (show l 1 = true by first | exact hd.1 rfl | exact hd.2.1 rfl | exact hd.2.2.1 rfl | exact hd.2.2.2.1 rfl | exact hd.2.2.2.2.1 rfl | exact hd.2.2.2.2.2.1 rfl)
        have e2 := h2 (show l 2 = true by first | exact hd.1 rfl | exact hd.2.1 rfl | exact hd.2.2.1 rfl | exact hd.2.2.2.1 rfl | exact hd.2.2.2.2.1 rfl | exact hd.2.2.2.2.2.1 rfl)
        refine Runs.of (b := ?bS3) ?eS3 ?_
        case eS3 => simp only [putV, Act.put, List.setIfInBounds_toArray, List.set_cons_zero, List.set_cons_succ, e1, e2]; rfl
        intro K' hK'
        go_simp
        exact hK'.go _ rfl ⟨hK, d15, d0, h0, h1, h2, fun _ => rfl, h4, h5, h6, h7, h8, h9, h10, h11, h12, h13, h14, h15⟩
      · intro l x w' hJ hi hd
        obtain ⟨hK, d15, d0, h0, h1, h2, h3, h4, h5, h6, h7, h8, h9, h10, h11, h12, h13, h14, h15⟩ := hJ
        have e3 := h3 (show l 3 = true by first | exact hd.1 rfl | exact hd.2.1 rfl | exact hd.2.2.1 rfl | exact hd.2.2.2.1 rfl | exact hd.2.2.2.2.1 rfl | exact hd.2.2.2.2.2.1 rfl)
        refine Runs.of (b := ?bS4) ?eS4 ?_
        case eS4 => simp only [putV, Act.put, List.setIfInBounds_toArray, List.set_cons_zero, List.set_cons_succ, e3]; rfl
        intro K' hK'
        go_simp
        exact hK'.go _ rfl ⟨hK, d15, d0, h0, h1, h2, h3, fun _ => rfl, h5, h6, h7, h8, h9, h10, h11, h12, h13, h14, h15⟩
      · intro l x w' hJ hi hd
        obtain ⟨hK, d15, d0, h0, h1, h2, h3, h4, h5, h6, h7, h8, h9, h10, h11, h12, h13, h14, h15⟩ := hJ
        have e4 := h4 (show l 4 = true by first | exact hd.1 rfl | exact hd.2.1 rfl | exact hd.2.2.1 rfl | exact hd.2.2.2.1 rfl | exact hd.2.2.2.2.1 rfl | exact hd.2.2.2.2.2.1 rfl)
        have c := (hK.cell (p := ⟨og, oo + j * 4, none⟩) hogl (by simp)).trans A0
        refine Runs.of (b := ?bS5) ?eS5 ?_
        case eS5 => simp only [putV, Act.put, List.setIfInBounds_toArray, List.set_cons_zero, List.set_cons_succ, e4]; rfl
        intro K' hK'
        go_simp
        exact hK'.go _ rfl ⟨hK, d15, d0, h0, h1, h2, h3, h4, fun _ => rfl, h6, h7, h8, h9, h10, h11, h12, h13, h14, h15⟩
      · intro l x w' hJ hi hd
        obtain ⟨hK, d15, d0, h0, h1, h2, h3, h4, h5, h6, h7, h8, h9, h10, h11, h12, h13, h14, h15⟩ := hJ
        have e5 := h5 (show l 5 = true by first | exact hd.1 rfl | exact hd.2.1 rfl | exact hd.2.2.1 rfl | exact hd.2.2.2.1 rfl | exact hd.2.2.2.2.1 rfl | exact hd.2.2.2.2.2.1 rfl)
        refine Runs.of (b := ?bS6) ?eS6 ?_
        case eS6 => simp only [putV, Act.put, List.setIfInBounds_toArray, List.set_cons_zero, List.set_cons_succ, e5]; rfl
        intro K' hK'
        go_simp
        exact hK'.go _ rfl ⟨hK, d15, d0, h0, h1, h2, h3, h4, h5, fun _ => rfl, h7, h8, h9, h10, h11, h12, h13, h14, h15⟩
      · intro l x w' hJ hi hd
        obtain ⟨hK, d15, d0, h0, h1, h2, h3, h4, h5, h6, h7, h8, h9, h10, h11, h12, h13, h14, h15⟩ := hJ
        refine Runs.of (b := ?bS7) ?eS7 ?_
        case eS7 => simp only [putV, Act.put, List.setIfInBounds_toArray, List.set_cons_zero, List.set_cons_succ]; rfl
        intro K' hK'
        go_simp
        exact hK'.go _ rfl ⟨hK, d15, d0, h0, h1, h2, h3, h4, h5, h6, fun _ => rfl, h8, h9, h10, h11, h12, h13, h14, h15⟩
      · intro l x w' hJ hi hd
        obtain ⟨hK, d15, d0, h0, h1, h2, h3, h4, h5, h6, h7, h8, h9, h10, h11, h12, h13, h14, h15⟩ := hJ
        refine Runs.of (b := ?bS8) ?eS8 ?_
        case eS8 => simp only [putV, Act.put, List.setIfInBounds_toArray, List.set_cons_zero, List.set_cons_succ]; rfl
        intro K' hK'
        go_simp
        exact hK'.go _ rfl ⟨hK, d15, d0, h0, h1, h2, h3, h4, h5, h6, h7, fun _ => rfl, h9, h10, h11, h12, h13, h14, h15⟩
      · intro l x w' hJ hi hd
        obtain ⟨hK, d15, d0, h0, h1, h2, h3, h4, h5, h6, h7, h8, h9, h10, h11, h12, h13, h14, h15⟩ := hJ
        have e7 := h7 (show l 7 = true by first | exact hd.1 rfl | exact hd.2.1 rfl | exact hd.2.2.1 rfl | exact hd.2.2.2.1 rfl | exact hd.2.2.2.2.1 rfl | exact hd.2.2.2.2.2.1 rfl)
        have e8 := h8 (show l 8 = true by first | exact hd.1 rfl | exact hd.2.1 rfl | exact hd.2.2.1 rfl | exact hd.2.2.2.1 rfl | exact hd.2.2.2.2.1 rfl | exact hd.2.2.2.2.2.1 rfl)
        refine Runs.of (b := ?bS9) ?eS9 ?_
        case eS9 => simp only [putV, Act.put, List.setIfInBounds_toArray, List.set_cons_zero, List.set_cons_succ, e7, e8]; rfl
        intro K' hK'
        go_simp
        exact hK'.go _ rfl ⟨hK, d15, d0, h0, h1, h2, h3, h4, h5, h6, h7, h8, fun _ => rfl, h10, h11, h12, h13, h14, h15⟩
      · intro l x w' hJ hi hd
        obtain ⟨hK, d15, d0, h0, h1, h2, h3, h4, h5, h6, h7, h8, h9, h10, h11, h12, h13, h14, h15⟩ := hJ
        have e9 := h9 (show l 9 = true by first | exact hd.1 rfl | exact hd.2.1 rfl | exact hd.2.2.1 rfl | exact hd.2.2.2.1 rfl | exact hd.2.2.2.2.1 rfl | exact hd.2.2.2.2.2.1 rfl)
        refine Runs.of (b := ?bS10) ?eS10 ?_
        case eS10 => simp only [putV, Act.put, List.setIfInBounds_toArray, List.set_cons_zero, List.set_cons_succ, e9]; rfl
        intro K' hK'
        go_simp
        exact hK'.go _ rfl ⟨hK, d15, d0, h0, h1, h2, h3, h4, h5, h6, h7, h8, h9, fun _ => rfl, h11, h12, h13, h14, h15⟩
      · intro l x w' hJ hi hd
        obtain ⟨hK, d15, d0, h0, h1, h2, h3, h4, h5, h6, h7, h8, h9, h10, h11, h12, h13, h14, h15⟩ := hJ
        have e10 := h10 (show l 10 = true by first | exact hd.1 rfl | exact hd.2.1 rfl | exact hd.2.2.1 rfl | exact hd.2.2.2.1 rfl | exact hd.2.2.2.2.1 rfl | exact hd.2.2.2.2.2.1 rfl)
        have c := (hK.cell (p := ⟨og, oo + j * 4 + 1, none⟩) hogl (by simp)).trans A1
        refine Runs.of (b := ?bS11) ?eS11 ?_
        case eS11 => simp only [putV, Act.put, List.setIfInBounds_toArray, List.set_cons_zero, List.set_cons_succ, e10]; rfl
        intro K' hK'
        go_simp
        exact hK'.go _ rfl ⟨hK, d15, d0, h0, h1, h2, h3, h4, h5, h6, h7, h8, h9, h10, fun _ => rfl, h12, h13, h14, h15⟩
      · intro l x w' hJ hi hd
        obtain ⟨hK, d15, d0, h0, h1, h2, h3, h4, h5, h6, h7, h8, h9, h10, h11, h12, h13, h14, h15⟩ := hJ
        have e11 := h11 (show l 11 = true by first | exact hd.1 rfl | exact hd.2.1 rfl | exact hd.2.2.1 rfl | exact hd.2.2.2.1 rfl | exact hd.2.2.2.2.1 rfl | exact hd.2.2.2.2.2.1 rfl)
        refine Runs.of (b := ?bS12) ?eS12 ?_
        case eS12 => simp only [putV, Act.put, List.setIfInBounds_toArray, List.set_cons_zero, List.set_cons_succ, e11]; rfl
        intro K' hK'
        go_simp
        exact hK'.go _ rfl ⟨hK, d15, d0, h0, h1, h2, h3, h4, h5, h6, h7, h8, h9, h10, h11, fun _ => rfl, h13, h14, h15⟩
      · intro l x w' hJ hi hd
        obtain ⟨hK, d15, d0, h0, h1, h2, h3, h4, h5, h6, h7, h8, h9, h10, h11, h12, h13, h14, h15⟩ := hJ
        have e6 := h6 (show l 6 = true by first | exact hd.1 rfl | exact hd.2.1 rfl | exact hd.2.2.1 rfl | exact hd.2.2.2.1 rfl | exact hd.2.2.2.2.1 rfl | exact hd.2.2.2.2.2.1 rfl)
        have e12 := h12 (show l 12 = true by first | exact hd.1 rfl | exact hd.2.1 rfl | exact hd.2.2.1 rfl | exact hd.2.2.2.1 rfl | exact hd.2.2.2.2.1 rfl | exact hd.2.2.2.2.2.1 rfl)
        refine Runs.of (b := ?bS13) ?eS13 ?_
        case eS13 => simp only [putV, Act.put, List.setIfInBounds_toArray, List.set_cons_zero, List.set_cons_succ, e6, e12]; rfl
        intro K' hK'
        go_simp
        rw [show IntKind.i64.wrap ((k.size : Int) + (v.size : Int)) = (k.size : Int) + (v.size : Int) by rw [IntKind.wrap_i64]; omega]
        exact hK'.go _ rfl ⟨hK, d15, d0, h0, h1, h2, h3, h4, h5, h6, h7, h8, h9, h10, h11, h12, fun _ => rfl, h14, h15⟩
      · intro l x w' hJ hi hd
        obtain ⟨hK, d15, d0, h0, h1, h2, h3, h4, h5, h6, h7, h8, h9, h10, h11, h12, h13, h14, h15⟩ := hJ
        have e0 := h0 (show l 0 = true by first | exact hd.1 rfl | exact hd.2.1 rfl | exact hd.2.2.1 rfl | exact hd.2.2.2.1 rfl | exact hd.2.2.2.2.1 rfl | exact hd.2.2.2.2.2.1 rfl)
        have e13 := h13 (show l 13 = true by first | exact hd.1 rfl | exact hd.2.1 rfl | exact hd.2.2.1 rfl | exact hd.2.2.2.1 rfl | exact hd.2.2.2.2.1 rfl | exact hd.2.2.2.2.2.1 rfl)
        have D0 := Lib.hid (show l 0 = true by first | exact hd.1 rfl | exact hd.2.1 rfl | exact hd.2.2.1 rfl | exact hd.2.2.2.1 rfl | exact hd.2.2.2.2.1 rfl | exact hd.2.2.2.2.2.1 rfl)
        refine Runs.of (b := ?bS14) ?eS14 ?_
        case eS14 => simp only [putV, Act.put, List.setIfInBounds_toArray, List.set_cons_zero, List.set_cons_succ, e0, e13]; rfl
        intro K' hK'
        go_simp
        rw [show IntKind.i64.wrap ((S : Int) + ((k.size : Int) + (v.size : Int))) = (S : Int) + ((k.size : Int) + (v.size : Int)) by rw [IntKind.wrap_i64]; omega]
        exact hK'.go _ rfl ⟨hK, d15, d0, h0, h1, h2, h3, h4, h5, h6, h7, h8, h9, h10, h11, h12, h13, fun _ => ⟨rfl, D0⟩, h15⟩
      · intro l x w' hJ hi hd
        obtain ⟨hK, d15, d0, h0, h1, h2, h3, h4, h5, h6, h7, h8, h9, h10, h11, h12, h13, h14, h15⟩ := hJ
        have e14 := h14 (show l 14 = true by first | exact hd.1 rfl | exact hd.2.1 rfl | exact hd.2.2.1 rfl | exact hd.2.2.2.1 rfl | exact hd.2.2.2.2.1 rfl | exact hd.2.2.2.2.2.1 rfl)
        refine Runs.of (b := ?bS15) ?eS15 ?_
        case eS15 => simp only [putV, Act.put, List.setIfInBounds_toArray, List.set_cons_zero, List.set_cons_succ, e14.1]; rfl
        intro K' hK'
        go_simp
        exact hK'.go _ rfl ⟨hK, fun h => Bool.noConfusion (show true = false from h), fun _ => e14.2.out, h0, h1, h2, h3, h4, h5, h6, h7, h8, h9, h10, h11, h12, h13, h14, fun _ => rfl⟩
      · intro l x w3 hJ hl
        obtain ⟨hK, d15, d0, h0, h1, h2, h3, h4, h5, h6, h7, h8, h9, h10, h11, h12, h13, h14, h15⟩ := hJ
        have e15 := h15 (hl 15 (by decide))
        simp only [putV, Act.put, List.setIfInBounds_toArray, List.set_cons_zero, List.set_cons_succ, e15]
        have K := hKw.trans hK
        have hzk := hK
        clear h0 h1 h2 h3 h4 h5 h6 h7 h8 h9 h10 h11 h12 h13 h14 h15 e15 hl d15 d0 hKw
        go_wp2_with fail
        go_roundw
        case rel => exact ⟨j + 1, by omega, by go_num, by rw [HTK.out]; go_num, by rw [HTK.out]; omega, hA.keep hzk (by simp), hE.keep hzk (by simp), K⟩
        case measure => simp [intOf]; omega
    · obtain rfl : j = LA.length := by omega
      have hsum : itSize (LA.take LA.length) = itSize LA := by rw [List.take_of_length_le (Nat.le_refl _)]
      rw [hsum] at *
      have hr := Size_any (w := wr) _ LA hA.rd (by omega) HSB.out
      generalize itSize LA = S at *
      clear hsum
      go_wp2_with fail
      refine hr.mono ?_
      rintro e w4 ⟨rfl, k4⟩
      have hA4 := hA.keep k4 (by simp)
      have hE4 := hE.keep k4 (by simp)
      have K4 := hKw.trans k4
      clear hr hA hE hKw k4
      by_cases hE0 : E.length = 0
      · have q0 : ((E.length : Int) == 0) = true := by simpa using hE0
        rw [hE0] at *
        go_wp2_with fail
        go_ret
        exact ⟨rfl, K4.below⟩
      have q0 : ((E.length : Int) == 0) = false := by simpa using (by omega : ¬ (E.length : Int) = 0)
      have hEp : 0 < E.length := by omega
      go_wp2_with fail
      refine (itDecode_any _ E hE4.rd HEB.out (by omega)).mono ?_
      rintro e w5 ⟨k5, ⟨ll, lv, hd, rfl, hL⟩ | ⟨hd, _⟩⟩
      case inr =>
        rw [HED.out (fun h => hE0 (by rw [h]; rfl))] at hd
        cases hd
      rw [HED.out (fun h => hE0 (by rw [h]; rfl))] at hd
      obtain rfl := Option.some.inj hd
      clear hd
      have hA5 := hA4.keep k5 (by simp)
      have hE5 := hE4.keep k5 (by simp)
      have K5 := K4.trans k5
      clear hA4 hE4 K4 k5
      obtain ⟨m0, mc, rfl⟩ := hL.slice
      go_wp2_with fail
      refine (EqItems_any _ _ LA LA hA5.rd hL.rd (by omega) (by omega) true (decide_eq_true rfl).symm).mono ?_
      rintro e w6 ⟨rfl, k6⟩
      have hE6 := hE5.keep k6 (by simp)
      have K6 := K5.trans k6
      clear hA5 hE5 K5 k6 hL
      by_cases hat : at_ < 0
      · have p1 : decide (at_ < 0) = true := decide_eq_true hat
        go_wp2_with fail
        go_ret
        exact ⟨rfl, K6.below⟩
      have p1 : decide (at_ < 0) = false := decide_eq_false hat
      obtain ⟨A, rfl⟩ : ∃ A : Nat, at_ = (A : Int) := ⟨at_.toNat, by omega⟩
      obtain ⟨y, rfl⟩ : ∃ y : Nat, x = (y : Int) := ⟨x.toNat, by omega⟩
      have hy : y < 256 := by omega
      obtain ⟨j, hj⟩ : ∃ j, j = A % E.length := ⟨_, rfl⟩
      have hjl : j < E.length := by rw [hj]; exact Nat.mod_lt _ hEp
      have hrem : (A : Int).tmod (E.length : Int) = (j : Int) := by rw [Int.tmod_eq_emod_of_nonneg (by omega), hj]; omega
      clear hj
      obtain ⟨o, ho⟩ : ∃ o, o = E.getD j 0 := ⟨_, rfl⟩
      have ho8 : o < 256 := by
        rw [ho, List.getD_eq_getElem?_getD, List.getElem?_eq_getElem hjl]
        exact HEB.out _ (List.getElem_mem hjl)
      have hxor := u8_xor_nat o y ho8 hy
      have hr256 : o ^^^ y < 256 := Nat.xor_lt_two_pow (n := 8) (by omega) (by omega)
      generalize o ^^^ y = r at *
      have HO := Lib.hid ho
      clear ho
      have q3 : (j : Int) < E.length := by omega
      have hsrc := Rd.src hE6.rd Try.underlying33
      have hszK := K6.size
      go_wp2_with (at_builtin; refine wpList_append_src _ rfl _ _ 33 33 rfl w6.heap.size 5 i0 (.int .u8 0) 1 1 Try.underlying33 hi hz0 hz1 hz2 rfl (by decide) _ 0 [] rfl (Buf.nil _ _ _) _ _ _ rfl hsrc (by unfold maxLen; omega) (by omega) (Nat.le_refl _) ?_; intro v1 w9 h1 h2 h4 h3; have hC : Buf w9 w6.heap.size 5 v1 E := (by rw [List.nil_append, Nat.zero_add] at h1; exact h1); have K9 : Keep [] w w9 := K6.trans ((Keep.grown h2).mono (by intro z hz _; cases hz)); obtain ⟨g, ccap, rfl, _, hg1, hg2⟩ := hC.at' hEp; obtain ⟨b1, b2, b3, b4⟩ := hC.bump rfl j hjl r; rw [← HO.out] at b1; clear h1 h2 h3 h4)
      have hb3r : Rd (w9.setCell ⟨g, j, none⟩ (.int .u8 (r : Int))) (.slice (some ⟨g, 0, none⟩) E.length ccap) (E.set j r) := b3.rd
      have hK9 : Keep [] w (w9.setCell ⟨g, j, none⟩ (.int .u8 (r : Int))) := K9.then b4 (by intro z hz hlt; simp at hz; omega)
      have hsl : (E.set j r).length = E.length := List.length_set
      refine (itells_any _ (E.set j r) hb3r (set_byte E j r HEB.out hr256) (by rw [hsl]; omega)).mono ?_
      rintro e w10 ⟨rfl, k10⟩
      go_wp2_with fail
      go_ret
      exact ⟨rfl, (hK9.trans k10).below⟩
end Go.Proofs.Ytpibpgfadkfgbaa
