/- The reference's bytes of entries. -/
import Derived.Test.YtpibpgfadkfgbaaItemEnc
namespace Go.Proofs.Ytpibpgfadkfgbaa
open Go.ChangeShapes Go.WideShapes Go.ChangeAt Go.RowKit
set_option linter.unusedVariables false
set_option linter.unusedSimpArgs false

theorem Onto.still {w : World} {base : Nat} {E : TypeId} {v v' : Value} {l : List Nat} {w' w'' : World} (h : Onto w base E v l v' w') (k : Keep [] w' w'') : Onto w base E v l v' w'' :=
  ⟨h.buf.keep k (by simp), h.keep.trans (k.mono (by simp)), h.own⟩
def refL (L : List Nat) (k v : ByteArray) (l : Nat → Bool) : List Nat := if l 14 = true then L ++ putText k ++ putText v else if l 7 = true then L ++ putText k else L
def refV (v0 : Value) (l : Nat → Bool) (x : Nat → Value) : Value := if l 14 = true then x 14 else if l 7 = true then x 7 else v0
def refJ (w0 : World) (base : Nat) (v0 : Value) (L : List Nat) (og oo len cap j : Nat) (k v : ByteArray) (l : Nat → Bool) (x : Nat → Value) (w' : World) : Prop :=
  Onto w0 base 5 v0 (refL L k v l) (refV v0 l x) w' ∧ (l 14 = true → l 7 = true) ∧ (l 7 = true → l 0 = true) ∧ (l 15 = false → x 15 = v0) ∧ (l 0 = true → x 0 = v0) ∧ (l 1 = true → x 1 = .slice (some ⟨og, oo, none⟩) len cap) ∧ (l 2 = true → x 2 = .int .i64 (j : Int)) ∧ (l 3 = true → x 3 = .pointer (some ⟨og, oo + j * 4, none⟩)) ∧ (l 4 = true → x 4 = .pointer (some ⟨og, oo + j * 4, none⟩)) ∧ (l 5 = true → x 5 = .string k) ∧
  (l 6 = true → l 7 = false → Buf w' w0.heap.size 5 (x 6) (putText k) ∧ ∀ q, (x 6).ownBlock = some q → (refV v0 l x).ownBlock ≠ some q) ∧ (l 8 = true → x 8 = .slice (some ⟨og, oo, none⟩) len cap) ∧ (l 9 = true → x 9 = .int .i64 (j : Int)) ∧ (l 10 = true → x 10 = .pointer (some ⟨og, oo + j * 4, none⟩)) ∧ (l 11 = true → x 11 = .pointer (some ⟨og, oo + j * 4 + 1, none⟩)) ∧ (l 12 = true → x 12 = .string v) ∧
  (l 13 = true → l 14 = false → Buf w' w0.heap.size 5 (x 13) (putText v) ∧ ∀ q, (x 13).ownBlock = some q → (refV v0 l x).ownBlock ≠ some q) ∧ (l 15 = true → x 15 = x 14 ∧ l 14 = true)

theorem putText_len (k : ByteArray) (h : k.size ≤ 200) : (putText k).length ≤ k.size + 10 := by
  have h1 := leb_len 10 (zz (k.size : Int)) (by have := zz_lt (k.size : Int) (by omega) (by omega); omega) (by omega)
  simp only [putText, List.length_append, sb_length]
  omega
set_option maxRecDepth 100000 in
set_option maxHeartbeats 8000000 in
theorem refItems_any {w : World} (a : Value) (l : List It) (h : IRd w a l) (hl : l.length ≤ 1000000) (hs : ∀ y ∈ l, y.1.size ≤ 9223372036854775807 ∧ y.2.1.size ≤ 9223372036854775807) :
    Calls Try.prog 35 #[a] w fun e w' => ∃ v, e = .returned v ∧ Buf w' w.heap.size 5 v (encIts l) ∧ Keep [] w w' := by
  obtain ⟨i8, hi8, hz80, hz81, hz82⟩ := info_parts Try.info8
  obtain ⟨_, aa, cap, rfl, hcap, _⟩ := id h
  go_enter Try.func35, Try.ntmps35
  go_wp2_with fail
  go_loopw [3, 4] (fun b i wr => ∃ j : Nat, j ≤ l.length ∧ i = .int .i64 j ∧ (l.take j).all mayIt = true ∧ (putIts (l.take j)).length ≤ 300 * j ∧ Buf wr w.heap.size 5 b (putIts (l.take j)) ∧ Keep [] w wr) (fun _ i _ => l.length - (intOf i).toNat)
  case atStart => exact ⟨0, by omega, rfl, rfl, by simp [putIts], Buf.nil _ _ _, Keep.refl _ _⟩
  case round =>
    obtain ⟨j, hj, rfl, hall, hlen, hB, hK⟩ := hrel
    obtain ⟨ba, bcap, rfl⟩ := hB.slice
    have HALL := Lib.hid hall
    clear hall
    by_cases hlt : j < l.length
    · have q2 : (j : Int) < l.length := by omega
      obtain ⟨y, hy⟩ : ∃ y, l[j]? = some y := ⟨_, List.getElem?_eq_getElem hlt⟩
      have hsy := hs y (List.mem_of_getElem? hy)
      obtain ⟨og, oo, ocap2, he, _, hog, _, _, _, _⟩ := its_at h j y hy
      obtain ⟨og', oo', ocap2', he', _, hog', c0, c1, c2, c3⟩ := its_at (h.keep hK (by simp)) j y hy
      simp only [Value.slice.injEq] at he he'
      obtain ⟨rfl, hq1, hq2⟩ := he
      obtain ⟨he1, hq3, hq4⟩ := he'
      clear hq1 hq2 hq3 hq4
      simp only [Option.some.injEq, Addr.mk.injEq, and_true] at he1
      obtain ⟨rfl, rfl⟩ := he1
      have htk : l.take (j + 1) = l.take j ++ [y] := by rw [List.take_add_one, hy]; rfl
      have HTK := Lib.hid htk
      have HMY := Lib.hid (List.mem_of_getElem? hy)
      clear htk hy
      have hpl := @putIt_len y
      have hms := @may_sizes y
      have hpi : putIt y = putTexts [y.1, y.2.1] ++ putAll [y.2.2.1, gN y.2.2.2] := rfl
      have HPI := Lib.hid hpi
      have HPL := Lib.hid hpl
      have HMS := Lib.hid hms
      clear hpi hpl hms
      have hmy : mayIt y = itMay y.1 y.2.1 y.2.2.1 y.2.2.2 := rfl
      obtain ⟨m, hm⟩ : ∃ m, m = mayIt y := ⟨_, rfl⟩
      rw [← hm] at hmy
      have HMM := Lib.hid hm
      have HMV := Lib.hid hmy
      clear hm hmy
      generalize hLL : putIts (l.take j) = L at *
      have HLL := Lib.hid hLL
      clear hLL
      obtain ⟨k, v, n, g⟩ := y
      simp only at c0 c1 c2 c3 hsy HMV HPI HMS
      go_wp2_with fail
      refine (RefMay_any k v n g hsy.1 hsy.2 m HMV.out).mono ?_
      rintro e w2 ⟨rfl, k2⟩
      have hB2 := hB.keep k2 (by simp)
      have K2 := hK.trans k2
      have hszw := K2.size
      replace c0 := (k2.cell (p := ⟨og, oo + j * 4, none⟩) hog' (by simp)).trans c0
      replace c1 := (k2.cell (p := ⟨og, oo + j * 4 + 1, none⟩) hog' (by simp)).trans c1
      replace c2 := (k2.cell (p := ⟨og, oo + j * 4 + 2, none⟩) hog' (by simp)).trans c2
      replace c3 := (k2.cell (p := ⟨og, oo + j * 4 + 3, none⟩) hog' (by simp)).trans c3
      have hogl : og < w2.heap.size := by have := k2.size; omega
      have HOG0 := Lib.hid (show ∀ q, w.heap.size ≤ q → q ≠ og from fun q hq => by omega)
      clear hB hK k2 hog'
      cases m
      case false =>
        go_wp2_with fail
        go_ret
        have hE : encIts l = [] := by
          unfold encIts
          rw [if_neg]
          intro hc
          have := List.all_eq_true.1 hc _ HMY.out
          rw [← HMM.out] at this
          cases this
        exact ⟨_, rfl, by rw [hE]; exact Buf.nil _ _ _, K2⟩
      have hms := HMS.out HMM.out.symm
      obtain ⟨hk1, hk2, hv2, hn1, hn2⟩ := hms
      have hpk : (putText k).length ≤ k.size + 10 ∧ (putText v).length ≤ v.size + 10 := ⟨putText_len k (by omega), putText_len v hv2⟩
      have HPK := Lib.hid (show (putText k).length ≤ 50 ∧ (putText v).length ≤ 210 ∧ L.length ≤ 300 * 1000000 by omega)
      have hogv : og ∉ (Value.slice ba L.length bcap).ownBlock.toList := by intro hm; have := (hB2.lt _ (Option.mem_toList.1 hm)).1; omega
      clear hpk
      go_wp2_with fail
      refine wp_region_inv_own (refJ w2 w.heap.size (Value.slice ba L.length bcap) L og oo l.length cap j k v) (by kernel_rfl) (by kernel_rfl) (by kernel_rfl) ?_ (Steps.cons 0 ?_ (Steps.cons 1 ?_ (Steps.cons 2 ?_ (Steps.cons 3 ?_ (Steps.cons 4 ?_ (Steps.cons 5 ?_ (Steps.cons 6 ?_ (Steps.cons 7 ?_ (Steps.cons 8 ?_ (Steps.cons 9 ?_ (Steps.cons 10 ?_ (Steps.cons 11 ?_ (Steps.cons 12 ?_ (Steps.cons 13 ?_ (Steps.cons 14 ?_ (Steps.cons 15 ?_ (Steps.nil 16))))))))))))))))) 16 rfl ?_
      · exact ⟨(Onto.refl hB2).drew0, fun h => absurd h (by decide), fun h => absurd h (by decide), fun _ => rfl, fun h => absurd h (by decide), fun h => absurd h (by decide), fun h => absurd h (by decide), fun h => absurd h (by decide), fun h => absurd h (by decide), fun h => absurd h (by decide), fun h _ => absurd h (by decide), fun h => absurd h (by decide), fun h => absurd h (by decide), fun h => absurd h (by decide), fun h => absurd h (by decide), fun h => absurd h (by decide), fun h _ => absurd h (by decide), fun h => absurd h (by decide)⟩
      · intro l' x w' hJ hi hd
        obtain ⟨hO, d14, d7, d15, h0, h1, h2, h3, h4, h5, h6, h8, h9, h10, h11, h12, h13, h15⟩ := hJ
        have l15 : l' 15 = false := by cases h : l' 15 with | false => rfl | true => have := d7 (d14 (h15 h).2); rw [hi] at this; cases this
        have e15 := d15 l15
        refine Runs.of (b := ?b0) ?e0 ?_
        case e0 => simp only [putV, Act.put, List.setIfInBounds_toArray, List.set_cons_zero, List.set_cons_succ, e15]; rfl
        intro K' hK'
        go_simp
        exact hK'.go _ rfl ⟨hO, d14, fun _ => rfl, d15, fun _ => rfl, h1, h2, h3, h4, h5, h6, h8, h9, h10, h11, h12, h13, h15⟩
      · intro l' x w' hJ hi hd
        obtain ⟨hO, d14, d7, d15, h0, h1, h2, h3, h4, h5, h6, h8, h9, h10, h11, h12, h13, h15⟩ := hJ
        refine Runs.of (b := ?b1) ?e1 ?_
        case e1 => simp only [putV, Act.put, List.setIfInBounds_toArray, List.set_cons_zero, List.set_cons_succ]; rfl
        intro K' hK'
        go_simp
        exact hK'.go _ rfl ⟨hO, d14, d7, d15, h0, fun _ => rfl, h2, h3, h4, h5, h6, h8, h9, h10, h11, h12, h13, h15⟩
      · intro l' x w' hJ hi hd
        obtain ⟨hO, d14, d7, d15, h0, h1, h2, h3, h4, h5, h6, h8, h9, h10, h11, h12, h13, h15⟩ := hJ
        refine Runs.of (b := ?b2) ?e2 ?_
        case e2 => simp only [putV, Act.put, List.setIfInBounds_toArray, List.set_cons_zero, List.set_cons_succ]; rfl
        intro K' hK'
        go_simp
        exact hK'.go _ rfl ⟨hO, d14, d7, d15, h0, h1, fun _ => rfl, h3, h4, h5, h6, h8, h9, h10, h11, h12, h13, h15⟩
      · intro l' x w' hJ hi hd
        obtain ⟨hO, d14, d7, d15, h0, h1, h2, h3, h4, h5, h6, h8, h9, h10, h11, h12, h13, h15⟩ := hJ
        have e1 := h1 (show l' 1 = true by first | exact hd.1 rfl | exact hd.2.1 rfl | exact hd.2.2.1 rfl | exact hd.2.2.2.1 rfl | exact hd.2.2.2.2.1 rfl | exact hd.2.2.2.2.2.1 rfl)
        have e2 := h2 (show l' 2 = true by first | exact hd.1 rfl | exact hd.2.1 rfl | exact hd.2.2.1 rfl | exact hd.2.2.2.1 rfl | exact hd.2.2.2.2.1 rfl | exact hd.2.2.2.2.2.1 rfl)
        refine Runs.of (b := ?b3) ?e3 ?_
        case e3 => simp only [putV, Act.put, List.setIfInBounds_toArray, List.set_cons_zero, List.set_cons_succ, e1, e2]; rfl
        intro K' hK'
        go_simp
        exact hK'.go _ rfl ⟨hO, d14, d7, d15, h0, h1, h2, fun _ => rfl, h4, h5, h6, h8, h9, h10, h11, h12, h13, h15⟩
      · intro l' x w' hJ hi hd
        obtain ⟨hO, d14, d7, d15, h0, h1, h2, h3, h4, h5, h6, h8, h9, h10, h11, h12, h13, h15⟩ := hJ
        have e3 := h3 (show l' 3 = true by first | exact hd.1 rfl | exact hd.2.1 rfl | exact hd.2.2.1 rfl | exact hd.2.2.2.1 rfl | exact hd.2.2.2.2.1 rfl | exact hd.2.2.2.2.2.1 rfl)
        refine Runs.of (b := ?b4) ?e4 ?_
        case e4 => simp only [putV, Act.put, List.setIfInBounds_toArray, List.set_cons_zero, List.set_cons_succ, e3]; rfl
        intro K' hK'
        go_simp
        exact hK'.go _ rfl ⟨hO, d14, d7, d15, h0, h1, h2, h3, fun _ => rfl, h5, h6, h8, h9, h10, h11, h12, h13, h15⟩
      · intro l' x w' hJ hi hd
        obtain ⟨hO, d14, d7, d15, h0, h1, h2, h3, h4, h5, h6, h8, h9, h10, h11, h12, h13, h15⟩ := hJ
        have e4 := h4 (show l' 4 = true by first | exact hd.1 rfl | exact hd.2.1 rfl | exact hd.2.2.1 rfl | exact hd.2.2.2.1 rfl | exact hd.2.2.2.2.1 rfl | exact hd.2.2.2.2.2.1 rfl)
        have c := (hO.keep.cell (p := ⟨og, oo + j * 4, none⟩) hogl hogv).trans c0
        refine Runs.of (b := ?b5) ?e5 ?_
        case e5 => simp only [putV, Act.put, List.setIfInBounds_toArray, List.set_cons_zero, List.set_cons_succ, e4]; rfl
        intro K' hK'
        go_simp
        exact hK'.go _ rfl ⟨hO, d14, d7, d15, h0, h1, h2, h3, h4, fun _ => rfl, h6, h8, h9, h10, h11, h12, h13, h15⟩
      · intro l' x w' hJ hi hd
        obtain ⟨hO, d14, d7, d15, h0, h1, h2, h3, h4, h5, h6, h8, h9, h10, h11, h12, h13, h15⟩ := hJ
        have e5 := h5 (show l' 5 = true by first | exact hd.1 rfl | exact hd.2.1 rfl | exact hd.2.2.1 rfl | exact hd.2.2.2.1 rfl | exact hd.2.2.2.2.1 rfl | exact hd.2.2.2.2.2.1 rfl)
        refine Runs.of (b := ?b6) ?e6 ?_
        case e6 => simp only [putV, Act.put, List.setIfInBounds_toArray, List.set_cons_zero, List.set_cons_succ, e5]; rfl
        intro K' hK'
        go_simp
        refine (refPutText_any k (by omega)).mono ?_
        rintro e w4 ⟨v1, rfl, o2⟩
        have k2 : Keep [] w' w4 := o2.keep.mono (by intro y hy _; cases hy)
        go_simp
        exact hK'.go v1 rfl ⟨hO.still k2, d14, d7, d15, h0, h1, h2, h3, h4, h5, fun _ _ => ⟨o2.buf.mono (by have := hO.keep.size; omega), fun q hq hc => by have h1 := (o2.buf.lt q hq).1; have h2 := (hO.buf.lt q hc).2; omega⟩, h8, h9, h10, h11, h12, fun h h' => ⟨(h13 h h').1.keep k2 (by simp), (h13 h h').2⟩, h15⟩
      · intro l' x w' hJ hi hd
        obtain ⟨hO, d14, d7, d15, h0, h1, h2, h3, h4, h5, h6, h8, h9, h10, h11, h12, h13, h15⟩ := hJ
        have e0 := h0 (show l' 0 = true by first | exact hd.1 rfl | exact hd.2.1 rfl | exact hd.2.2.1 rfl | exact hd.2.2.2.1 rfl | exact hd.2.2.2.2.1 rfl | exact hd.2.2.2.2.2.1 rfl)
        have l14 : l' 14 = false := by cases h : l' 14 with | false => rfl | true => have := d14 h; rw [hi] at this; cases this
        have l0 := Lib.hid (show l' 0 = true by first | exact hd.1 rfl | exact hd.2.1 rfl | exact hd.2.2.1 rfl | exact hd.2.2.2.1 rfl | exact hd.2.2.2.2.1 rfl | exact hd.2.2.2.2.2.1 rfl)
        have eV : refV (Value.slice ba L.length bcap) l' x = (Value.slice ba L.length bcap) := by unfold refV; rw [l14, hi]; rfl
        have eL : refL L k v l' = L := by unfold refL; rw [l14, hi]; rfl
        have B6 := h6 (show l' 6 = true by first | exact hd.1 rfl | exact hd.2.1 rfl | exact hd.2.2.1 rfl | exact hd.2.2.2.1 rfl | exact hd.2.2.2.2.1 rfl | exact hd.2.2.2.2.2.1 rfl) hi
        rw [eV] at B6
        have B13 := fun h => h13 h l14
        rw [eV] at B13
        rw [eV, eL] at hO
        obtain ⟨pa, pcap, hp⟩ := B6.1.slice
        rw [hp] at B6
        have hsrc := Rd.src B6.1.rd Try.underlying33
        refine Runs.of (b := ?b7) ?e7 ?_
        case e7 => simp only [putV, Act.put, List.setIfInBounds_toArray, List.set_cons_zero, List.set_cons_succ, e0, hp]; rfl
        intro K' hK'
        refine step_append_src _ rfl _ _ 33 33 rfl w.heap.size 5 i8 (.int .u8 0) 1 1 Try.underlying33 hi8 hz80 hz81 hz82 rfl (by decide) _ _ _ rfl hO.buf _ _ _ rfl hsrc (by have := HPK.out; unfold maxLen; omega) (by have := HPK.out; omega) (by have := hO.keep.size; omega) ?_
        intro v1 w4 h1' h2' _ h3'
        have hO2 := hO.app h1' h2' h3'
        have k2 := Keep.grown h2'
        have eV2 : refV (Value.slice ba L.length bcap) (upd l' 7 true) (upd x 7 v1) = v1 := by unfold refV; rw [upd_ne _ _ _ _ (by decide), l14, upd_same]; rfl
        have eL2 : refL L k v (upd l' 7 true) = L ++ putText k := by unfold refL; rw [upd_ne _ _ _ _ (by decide), l14, upd_same]; rfl
        have hO2g : Onto w2 w.heap.size 5 (Value.slice ba L.length bcap) (refL L k v (upd l' 7 true)) (refV (Value.slice ba L.length bcap) (upd l' 7 true) (upd x 7 v1)) w4 := by rw [eV2, eL2]; exact hO2
        exact hK'.go v1 rfl ⟨hO2g, fun _ => rfl, fun _ => l0.out, d15, h0, h1, h2, h3, h4, h5, fun _ h' => Bool.noConfusion (show true = false from h'), h8, h9, h10, h11, h12, fun h _ => ⟨(B13 h).1.keep k2 (fun q hq hm => (B13 h).2 q hq (Option.mem_toList.1 hm)), fun q hq hc => (h3' q (show v1.ownBlock = some q by rw [← eV2]; exact hc)).elim (fun hh => (B13 h).2 q hq hh) (fun hh => by have := ((B13 h).1.lt q hq).2; omega)⟩, h15⟩
      · intro l' x w' hJ hi hd
        obtain ⟨hO, d14, d7, d15, h0, h1, h2, h3, h4, h5, h6, h8, h9, h10, h11, h12, h13, h15⟩ := hJ
        refine Runs.of (b := ?b8) ?e8 ?_
        case e8 => simp only [putV, Act.put, List.setIfInBounds_toArray, List.set_cons_zero, List.set_cons_succ]; rfl
        intro K' hK'
        go_simp
        exact hK'.go _ rfl ⟨hO, d14, d7, d15, h0, h1, h2, h3, h4, h5, h6, fun _ => rfl, h9, h10, h11, h12, h13, h15⟩
      · intro l' x w' hJ hi hd
        obtain ⟨hO, d14, d7, d15, h0, h1, h2, h3, h4, h5, h6, h8, h9, h10, h11, h12, h13, h15⟩ := hJ
        refine Runs.of (b := ?b9) ?e9 ?_
        case e9 => simp only [putV, Act.put, List.setIfInBounds_toArray, List.set_cons_zero, List.set_cons_succ]; rfl
        intro K' hK'
        go_simp
        exact hK'.go _ rfl ⟨hO, d14, d7, d15, h0, h1, h2, h3, h4, h5, h6, h8, fun _ => rfl, h10, h11, h12, h13, h15⟩
      · intro l' x w' hJ hi hd
        obtain ⟨hO, d14, d7, d15, h0, h1, h2, h3, h4, h5, h6, h8, h9, h10, h11, h12, h13, h15⟩ := hJ
        have e8 := h8 (show l' 8 = true by first | exact hd.1 rfl | exact hd.2.1 rfl | exact hd.2.2.1 rfl | exact hd.2.2.2.1 rfl | exact hd.2.2.2.2.1 rfl | exact hd.2.2.2.2.2.1 rfl)
        have e9 := h9 (show l' 9 = true by first | exact hd.1 rfl | exact hd.2.1 rfl | exact hd.2.2.1 rfl | exact hd.2.2.2.1 rfl | exact hd.2.2.2.2.1 rfl | exact hd.2.2.2.2.2.1 rfl)
        refine Runs.of (b := ?b10) ?e10 ?_
        case e10 => simp only [putV, Act.put, List.setIfInBounds_toArray, List.set_cons_zero, List.set_cons_succ, e8, e9]; rfl
        intro K' hK'
        go_simp
        exact hK'.go _ rfl ⟨hO, d14, d7, d15, h0, h1, h2, h3, h4, h5, h6, h8, h9, fun _ => rfl, h11, h12, h13, h15⟩
      · intro l' x w' hJ hi hd
        obtain ⟨hO, d14, d7, d15, h0, h1, h2, h3, h4, h5, h6, h8, h9, h10, h11, h12, h13, h15⟩ := hJ
        have e10 := h10 (show l' 10 = true by first | exact hd.1 rfl | exact hd.2.1 rfl | exact hd.2.2.1 rfl | exact hd.2.2.2.1 rfl | exact hd.2.2.2.2.1 rfl | exact hd.2.2.2.2.2.1 rfl)
        refine Runs.of (b := ?b11) ?e11 ?_
        case e11 => simp only [putV, Act.put, List.setIfInBounds_toArray, List.set_cons_zero, List.set_cons_succ, e10]; rfl
        intro K' hK'
        go_simp
        exact hK'.go _ rfl ⟨hO, d14, d7, d15, h0, h1, h2, h3, h4, h5, h6, h8, h9, h10, fun _ => rfl, h12, h13, h15⟩
      · intro l' x w' hJ hi hd
        obtain ⟨hO, d14, d7, d15, h0, h1, h2, h3, h4, h5, h6, h8, h9, h10, h11, h12, h13, h15⟩ := hJ
        have e11 := h11 (show l' 11 = true by first | exact hd.1 rfl | exact hd.2.1 rfl | exact hd.2.2.1 rfl | exact hd.2.2.2.1 rfl | exact hd.2.2.2.2.1 rfl | exact hd.2.2.2.2.2.1 rfl)
        have c := (hO.keep.cell (p := ⟨og, oo + j * 4 + 1, none⟩) hogl hogv).trans c1
        refine Runs.of (b := ?b12) ?e12 ?_
        case e12 => simp only [putV, Act.put, List.setIfInBounds_toArray, List.set_cons_zero, List.set_cons_succ, e11]; rfl
        intro K' hK'
        go_simp
        exact hK'.go _ rfl ⟨hO, d14, d7, d15, h0, h1, h2, h3, h4, h5, h6, h8, h9, h10, h11, fun _ => rfl, h13, h15⟩
      · intro l' x w' hJ hi hd
        obtain ⟨hO, d14, d7, d15, h0, h1, h2, h3, h4, h5, h6, h8, h9, h10, h11, h12, h13, h15⟩ := hJ
        have e12 := h12 (show l' 12 = true by first | exact hd.1 rfl | exact hd.2.1 rfl | exact hd.2.2.1 rfl | exact hd.2.2.2.1 rfl | exact hd.2.2.2.2.1 rfl | exact hd.2.2.2.2.2.1 rfl)
        refine Runs.of (b := ?b13) ?e13 ?_
        case e13 => simp only [putV, Act.put, List.setIfInBounds_toArray, List.set_cons_zero, List.set_cons_succ, e12]; rfl
        intro K' hK'
        go_simp
        refine (refPutText_any v (by omega)).mono ?_
        rintro e w4 ⟨v1, rfl, o2⟩
        have k2 : Keep [] w' w4 := o2.keep.mono (by intro y hy _; cases hy)
        go_simp
        exact hK'.go v1 rfl ⟨hO.still k2, d14, d7, d15, h0, h1, h2, h3, h4, h5, fun h h' => ⟨(h6 h h').1.keep k2 (by simp), (h6 h h').2⟩, h8, h9, h10, h11, h12, fun _ _ => ⟨o2.buf.mono (by have := hO.keep.size; omega), fun q hq hc => by have h1 := (o2.buf.lt q hq).1; have h2 := (hO.buf.lt q hc).2; omega⟩, h15⟩
      · intro l' x w' hJ hi hd
        obtain ⟨hO, d14, d7, d15, h0, h1, h2, h3, h4, h5, h6, h8, h9, h10, h11, h12, h13, h15⟩ := hJ
        have l7 : l' 7 = true := by first | exact hd.1 rfl | exact hd.2.1 rfl | exact hd.2.2.1 rfl | exact hd.2.2.2.1 rfl | exact hd.2.2.2.2.1 rfl | exact hd.2.2.2.2.2.1 rfl
        have eV : refV (Value.slice ba L.length bcap) l' x = x 7 := by unfold refV; rw [hi, l7]; rfl
        have eL : refL L k v l' = L ++ putText k := by unfold refL; rw [hi, l7]; rfl
        have B13 := h13 (show l' 13 = true by first | exact hd.1 rfl | exact hd.2.1 rfl | exact hd.2.2.1 rfl | exact hd.2.2.2.1 rfl | exact hd.2.2.2.2.1 rfl | exact hd.2.2.2.2.2.1 rfl) hi
        rw [eV] at B13
        rw [eV, eL] at hO
        obtain ⟨pa, pcap, hp⟩ := B13.1.slice
        rw [hp] at B13
        have hsrc := Rd.src B13.1.rd Try.underlying33
        have L7 := Lib.hid l7
        clear l7
        refine Runs.of (b := ?b14) ?e14 ?_
        case e14 => simp only [putV, Act.put, List.setIfInBounds_toArray, List.set_cons_zero, List.set_cons_succ, hp]; rfl
        intro K' hK'
        refine step_append_src _ rfl _ _ 33 33 rfl w.heap.size 5 i8 (.int .u8 0) 1 1 Try.underlying33 hi8 hz80 hz81 hz82 rfl (by decide) _ _ _ rfl hO.buf _ _ _ rfl hsrc (by have := HPK.out; rw [List.length_append]; unfold maxLen; omega) (by have := HPK.out; rw [List.length_append]; omega) (by have := hO.keep.size; omega) ?_
        intro v1 w4 h1' h2' _ h3'
        have hO2 : Onto w2 w.heap.size 5 (Value.slice ba L.length bcap) (refL L k v (upd l' 14 true)) (refV (Value.slice ba L.length bcap) (upd l' 14 true) (upd x 14 v1)) w4 := hO.app h1' h2' h3'
        exact hK'.go v1 rfl ⟨hO2, fun _ => L7.out, d7, d15, h0, h1, h2, h3, h4, h5, fun _ h' => absurd (L7.out.symm.trans h') (by decide), h8, h9, h10, h11, h12, fun _ h' => Bool.noConfusion (show true = false from h'), fun h => absurd ((h15 h).2.symm.trans hi) (by decide)⟩
      · intro l' x w' hJ hi hd
        obtain ⟨hO, d14, d7, d15, h0, h1, h2, h3, h4, h5, h6, h8, h9, h10, h11, h12, h13, h15⟩ := hJ
        have l14 := Lib.hid (show l' 14 = true by first | exact hd.1 rfl | exact hd.2.1 rfl | exact hd.2.2.1 rfl | exact hd.2.2.2.1 rfl | exact hd.2.2.2.2.1 rfl | exact hd.2.2.2.2.2.1 rfl)
        refine Runs.of (b := ?b15) ?e15 ?_
        case e15 => simp only [putV, Act.put, List.setIfInBounds_toArray, List.set_cons_zero, List.set_cons_succ]; rfl
        intro K' hK'
        go_simp
        exact hK'.go _ rfl ⟨hO, d14, d7, fun h => Bool.noConfusion (show true = false from h), h0, h1, h2, h3, h4, h5, h6, h8, h9, h10, h11, h12, h13, fun _ => ⟨rfl, l14.out⟩⟩
      · intro l' x w3 hJ hl
        obtain ⟨hO, d14, d7, d15, h0, h1, h2, h3, h4, h5, h6, h8, h9, h10, h11, h12, h13, h15⟩ := hJ
        have e15 := (h15 (hl 15 (by decide))).1
        have eV : refV (Value.slice ba L.length bcap) l' x = x 14 := by unfold refV; rw [hl 14 (by decide)]; rfl
        have eL : refL L k v l' = L ++ putText k ++ putText v := by unfold refL; rw [hl 14 (by decide)]; rfl
        rw [eV, eL] at hO
        simp only [putV, Act.put, List.setIfInBounds_toArray, List.set_cons_zero, List.set_cons_succ, e15]
        have hK3 := K2.then hO.keep (by intro y hy hlt2; have e := Option.mem_toList.1 hy; have := (hB2.lt _ e).1; omega)
        have hB3 := hO.buf
        have hz23 := hO.keep.size
        have C2 := (hO.keep.cell (p := ⟨og, oo + j * 4 + 2, none⟩) hogl hogv).trans c2
        have C3 := (hO.keep.cell (p := ⟨og, oo + j * 4 + 3, none⟩) hogl hogv).trans c3
        clear h0 h1 h2 h3 h4 h5 h6 h8 h9 h10 h11 h12 h13 h15 hl hO eV eL e15 d14 d7 d15 hogv c0 c1 c2 c3 hB2 K2
        generalize x 14 = v2 at *
        generalize hL2 : L ++ putText k ++ putText v = L2 at *
        have hl2 : L2.length ≤ L.length + 260 := by rw [← hL2]; have := HPK.out; rw [List.length_append, List.length_append]; omega
        have HL2 := Lib.hid hL2
        clear hL2
        have HOG := Lib.hid (show ∀ q, v2.ownBlock = some q → q ≠ og from fun q hq => HOG0.out q (hB3.lt q hq).1)
        obtain ⟨b2, bc2, rfl⟩ := hB3.slice
        have hz3 := hK3.size
        go_wp2_with fail
        refine (refPut_any n (by omega) (by omega)).mono ?_
        rintro e w4 ⟨v4, rfl, o4⟩
        have k4 : Keep [] w3 w4 := o4.keep.mono (by intro y hy _; cases hy)
        have hB4 := hB3.keep k4 (by simp)
        have hl4 := leb_len 10 (zz n) (by have := zz_lt n (by omega) (by omega); omega) (by omega)
        obtain ⟨pa, pcap, rfl⟩ := o4.buf.slice
        have hsrc4 := Rd.src o4.buf.rd Try.underlying33
        have hz4 := k4.size
        have C3' := (k4.cell (p := ⟨og, oo + j * 4 + 3, none⟩) (show og < w3.heap.size by omega) (by simp)).trans C3
        go_upto_if 45 with (at_builtin; refine wpList_append_src _ rfl _ _ 33 33 rfl w.heap.size 5 i8 (.int .u8 0) 1 1 Try.underlying33 hi8 hz80 hz81 hz82 rfl (by decide) _ _ _ rfl hB4 _ _ _ rfl hsrc4 (by have := HPK.out; unfold maxLen; omega) (by have := HPK.out; omega) (by omega) ?_; intro v5 w5 h1' h2' _ h3'; have C3 := ((Keep.grown h2').cell (p := ⟨og, oo + j * 4 + 3, none⟩) (show og < w4.heap.size by omega) (by intro hm; have := HOG.out _ (Option.mem_toList.1 hm); exact this rfl)).trans C3')
        have hB5 : Buf w5 w.heap.size 5 v5 (L2 ++ leb (zz n)) := by unfold Buf; rw [List.length_append, bcs_append]; exact h1'
        have hK5 := (hK3.trans k4).then (Keep.grown h2') (by intro y hy hlt2; have e := Option.mem_toList.1 hy; have := (hB4.lt _ e).1; omega)
        have hz5 := (Keep.grown h2').size
        have hl5 : (L2 ++ leb (zz n)).length ≤ L.length + 270 := by rw [List.length_append]; omega
        have hL5 : L2 ++ leb (zz n) = L ++ putText k ++ putText v ++ leb (zz n) := by rw [HL2.out]
        have HL5 := Lib.hid hL5
        clear h1' h2' h3' hB4 hB3 hK3 hsrc4 o4 C2 C3' k4 hL5 hl4
        generalize L2 ++ leb (zz n) = L5 at *
        go_cut [5] (fun s wc => s = .int .i64 (gN g) ∧ w5 = wc)
        case first =>
          cases g
          · go_wp2_with fail
            go_meet
            exact ⟨rfl, rfl⟩
          · go_wp2_with fail
            go_meet
            exact ⟨rfl, rfl⟩
        case rest =>
        obtain ⟨rfl, rfl⟩ := hcut
        clear C3
        have hgi := gN_i64 g
        obtain ⟨gi, hgg⟩ : ∃ gi, gi = gN g := ⟨_, rfl⟩
        have HGI := Lib.hid hgg.symm
        rw [← hgg] at hgi ⊢
        clear hgg
        obtain ⟨b5, bc5, rfl⟩ := hB5.slice
        go_wp2_with fail
        refine (refPut_any gi hgi.1 hgi.2).mono ?_
        rintro e w6 ⟨v6, rfl, o6⟩
        have k6 : Keep [] w5 w6 := o6.keep.mono (by intro y hy _; cases hy)
        have hB6 := hB5.keep k6 (by simp)
        have hl6 := leb_len 10 (zz gi) (by have := zz_lt gi hgi.1 hgi.2; omega) (by omega)
        obtain ⟨qa, qcap, rfl⟩ := o6.buf.slice
        have hsrc6 := Rd.src o6.buf.rd Try.underlying33
        have hz6 := k6.size
        go_wp2_with (at_builtin; refine wpList_append_src _ rfl _ _ 33 33 rfl w.heap.size 5 i8 (.int .u8 0) 1 1 Try.underlying33 hi8 hz80 hz81 hz82 rfl (by decide) _ _ _ rfl hB6 _ _ _ rfl hsrc6 (by have := HPK.out; unfold maxLen; omega) (by have := HPK.out; omega) (by omega) ?_; intro v7 w7 h1' h2' _ h3')
        have hB7 : Buf w7 w.heap.size 5 v7 (L5 ++ leb (zz gi)) := by unfold Buf; rw [List.length_append, bcs_append]; exact h1'
        have hK7 := (hK5.trans k6).then (Keep.grown h2') (by intro y hy hlt2; have e := Option.mem_toList.1 hy; have := (hB6.lt _ e).1; omega)
        have hIT : L5 ++ leb (zz gi) = L ++ putIt (k, v, n, g) := by
          rw [HL5.out, HPI.out]
          simp [putTexts, putAll, List.append_assoc, HGI.out]
        rw [hIT] at hB7
        have HIT := Lib.hid hIT
        clear hIT h1' h2' h3'
        go_roundw
        case rel =>
          refine ⟨j + 1, by omega, by go_num, ?_, ?_, ?_, hK7⟩
          · rw [HTK.out, List.all_append, HALL.out]
            simp only [List.all_cons, List.all_nil, Bool.and_true, Bool.true_and]
            exact HMM.out.symm
          · rw [HTK.out, putIts_snoc, HLL.out, List.length_append]
            have := HPL.out HMM.out.symm
            omega
          · rw [HTK.out, putIts_snoc, HLL.out]
            exact hB7
        case measure => simp [intOf]; omega
    · obtain rfl : j = l.length := by omega
      have h1 : l.take l.length = l := List.take_of_length_le (Nat.le_refl _)
      have HA := HALL.out
      rw [h1] at HA
      have hE : encIts l = putIts l := by unfold encIts; rw [if_pos HA]
      have HE := Lib.hid hE
      have H1 := Lib.hid h1
      clear hE h1
      go_wp2_with fail
      go_ret
      refine ⟨_, rfl, ?_, hK⟩
      rw [HE.out]
      have h := hB
      rw [H1.out] at h
      show Buf _ _ _ (Value.slice ba (putIts (l.take l.length)).length bcap) _
      rw [H1.out]
      exact h
end Go.Proofs.Ytpibpgfadkfgbaa
