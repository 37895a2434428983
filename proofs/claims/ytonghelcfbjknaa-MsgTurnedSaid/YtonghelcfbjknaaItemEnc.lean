/- Entries to bytes. -/
import Derived.Test.YtonghelcfbjknaaItem3
import Derived.Deep.DeepCutAuto
import Derived.Deep.CutBlock
namespace Go.Proofs.Ytonghelcfbjknaa
open Go.ChangeShapes Go.WideShapes Go.ChangeAt Go.RowKit
set_option linter.unusedVariables false
set_option linter.unusedSimpArgs false

theorem Buf.ty' {w : World} {base : Nat} {E : TypeId} {v : Value} {l : List Nat} (h : Buf w base E v l) : ∀ k, v.ownBlock = some k → Ty w k E := h.own.ty
def gN (g : Bool) : Int := if g = true then 1 else 0
def putIt (y : It) : List Nat := putTexts [y.1, y.2.1] ++ putAll [y.2.2.1, gN y.2.2.2]
def putIts (l : List It) : List Nat := (l.map putIt).flatten
theorem putIts_snoc (l : List It) (y : It) : putIts (l ++ [y]) = putIts l ++ putIt y := by simp [putIts]
def mayIt (y : It) : Bool := itMay y.1 y.2.1 y.2.2.1 y.2.2.2
def encIts (l : List It) : List Nat := if l.all mayIt = true then putIts l else []
theorem Onto.drew0 {w : World} {base : Nat} {E : TypeId} {v v' : Value} {l : List Nat} {w' : World} (h : Onto w base E v l v' w') : Onto w base E v l v' w'.drew := ⟨h.buf, h.keep.drew, h.own⟩
theorem may_sizes {y : It} (h : mayIt y = true) : 1 ≤ y.1.size ∧ y.1.size ≤ 40 ∧ y.2.1.size ≤ 200 ∧ 0 ≤ y.2.2.1 ∧ y.2.2.1 ≤ 1099511627776 := by
  unfold mayIt itMay itKey at h
  simp only [Bool.and_eq_true, decide_eq_true_eq] at h
  exact ⟨h.1.1, h.1.2, h.2.1, h.2.2.1, h.2.2.2.1⟩
theorem putTexts_two (k v : ByteArray) (hk : k.size ≤ 200) (hv : v.size ≤ 200) : (putTexts [k, v]).length ≤ k.size + v.size + 20 := by
  have h1 := leb_len 10 (zz (k.size : Int)) (by have := zz_lt (k.size : Int) (by omega) (by omega); omega) (by omega)
  have h2 := leb_len 10 (zz (v.size : Int)) (by have := zz_lt (v.size : Int) (by omega) (by omega); omega) (by omega)
  simp only [putTexts, List.map_cons, List.map_nil, List.flatten_cons, List.flatten_nil, List.length_append, putText, sb_length, List.length_nil]
  omega
theorem putTexts_pos (k v : ByteArray) : 0 < (putTexts [k, v]).length := by
  have := leb_ne (zz (k.size : Int))
  simp only [putTexts, List.map_cons, List.flatten_cons, List.length_append, putText]
  have : 0 < (leb (zz (k.size : Int))).length := List.length_pos_iff.2 this
  omega
theorem gN_i64 (g : Bool) : I64 (gN g) := by cases g <;> (unfold gN I64; simp)
theorem putIt_len {y : It} (h : mayIt y = true) : (putIt y).length ≤ 300 := by
  obtain ⟨h1, h2, h3, h4, h5⟩ := may_sizes h
  have a := putTexts_two y.1 y.2.1 (by omega) h3
  have b := putAll_len [y.2.2.1, gN y.2.2.2] (by intro n hn; simp at hn; rcases hn with rfl | rfl; exact ⟨by omega, by omega⟩; exact gN_i64 _)
  unfold putIt
  rw [List.length_append]
  simp only [List.length_cons, List.length_nil] at b
  omega
def encL (L : List Nat) (k v : ByteArray) (n gi : Int) (l : Nat → Bool) : List Nat := if l 11 = true then L ++ putTexts [k, v] ++ putAll [n, gi] else if l 6 = true then L ++ putTexts [k, v] else L
def encV (v0 : Value) (l : Nat → Bool) (x : Nat → Value) : Value := if l 11 = true then x 11 else if l 6 = true then x 6 else v0
def encJ (w0 : World) (base : Nat) (v0 : Value) (L : List Nat) (t : Nat) (k v : ByteArray) (n gi : Int) (l : Nat → Bool) (x : Nat → Value) (w' : World) : Prop :=
  ∃ B5 B10, Onto w0 base 5 v0 (encL L k v n gi l) (encV v0 l x) w' ∧ (l 11 = true → l 6 = true) ∧ (l 6 = true → l 0 = true) ∧ (l 12 = false → x 12 = v0) ∧ (l 0 = true → x 0 = v0) ∧ (l 1 = true → x 1 = .pointer (some ⟨t, 0, none⟩)) ∧ (l 2 = true → x 2 = .string k) ∧ (l 3 = true → x 3 = .pointer (some ⟨t, 1, none⟩)) ∧ (l 4 = true → x 4 = .string v) ∧
  (l 5 = true → x 5 = .slice (some ⟨B5, 0, none⟩) 2 2 ∧ Blk w' B5 (strs [k, v]) 9) ∧ (l 7 = true → x 7 = .pointer (some ⟨t, 2, none⟩)) ∧ (l 8 = true → x 8 = .int .i64 n) ∧ (l 9 = true → x 9 = .int .i64 gi) ∧
  (l 10 = true → x 10 = .slice (some ⟨B10, 0, none⟩) 2 2 ∧ Blk w' B10 (ints [n, gi]) 2) ∧ (l 12 = true → x 12 = x 11 ∧ l 11 = true)

set_option maxRecDepth 100000 in
set_option maxHeartbeats 8000000 in
theorem itEncode_any {w : World} (a : Value) (l : List It) (h : IRd w a l) (hl : l.length ≤ 1000000) (hs : ∀ y ∈ l, y.1.size ≤ 9223372036854775807 ∧ y.2.1.size ≤ 9223372036854775807) :
    Calls Try.prog 48 #[a] w fun e w' => ∃ v, e = .returned v ∧ (Buf w' w.heap.size 5 v (encIts l) ∧ (encIts l = [] → v = .slice none 0 0)) ∧ Keep [] w w' := by
  obtain ⟨_, aa, cap, rfl, hcap, _⟩ := id h
  go_enter Try.func48, Try.ntmps48
  go_wp2_with fail
  go_loopw [3, 9] (fun b i wr => ∃ j : Nat, j ≤ l.length ∧ i = .int .i64 j ∧ (l.take j).all mayIt = true ∧ (putIts (l.take j)).length ≤ 300 * j ∧ (Buf wr w.heap.size 5 b (putIts (l.take j)) ∧ (putIts (l.take j) = [] → b = .slice none 0 0)) ∧ Keep [] w wr) (fun _ i _ => l.length - (intOf i).toNat)
  case atStart => exact ⟨0, by omega, rfl, rfl, by simp [putIts], ⟨Buf.nil _ _ _, fun _ => rfl⟩, Keep.refl _ _⟩
  case round =>
    obtain ⟨j, hj, rfl, hall, hlen, ⟨hB, hnil⟩, hK⟩ := hrel
    have HNIL := Lib.hid hnil
    clear hnil
    obtain ⟨ba, bcap, rfl⟩ := hB.slice
    have HALL := Lib.hid hall
    clear hall
    by_cases hlt : j < l.length
    · have q2 : (j : Int) < l.length := by omega
      obtain ⟨y, hy⟩ : ∃ y, l[j]? = some y := ⟨_, List.getElem?_eq_getElem hlt⟩
      have hsy := hs y (List.mem_of_getElem? hy)
      obtain ⟨og, oo, ocap2, he, _, hog, c0, c1, c2, c3⟩ := its_at (h.keep hK (by simp)) j y hy
      simp only [Value.slice.injEq] at he
      obtain ⟨rfl, _, rfl⟩ := he
      have htk : l.take (j + 1) = l.take j ++ [y] := by rw [List.take_add_one, hy]; rfl
      have HTK := Lib.hid htk
      have HMY := Lib.hid (List.mem_of_getElem? hy)
      clear htk hy
      have hpl := @putIt_len y
      have hms := @may_sizes y
      have hpi : putIt y = putTexts [y.1, y.2.1] ++ putAll [y.2.2.1, gN y.2.2.2] := rfl
      have HPI := Lib.hid hpi
      have HPL := Lib.hid hpl
      have HMS := Lib.hid hms
      clear hpi hpl hms
      have hmy : mayIt y = itMay y.1 y.2.1 y.2.2.1 y.2.2.2 := rfl
      obtain ⟨m, hm⟩ : ∃ m, m = mayIt y := ⟨_, rfl⟩
      rw [← hm] at hmy
      have HMM := Lib.hid hm
      have HMV := Lib.hid hmy
      clear hm hmy
      generalize hLL : putIts (l.take j) = L at *
      have HLL := Lib.hid hLL
      clear hLL
      obtain ⟨k, v, n, g⟩ := y
      simp only at c0 c1 c2 c3 hsy HMV HPI HMS
      go_wp2_with fail
      refine (May_any k v n g hsy.1 hsy.2 m HMV.out).mono ?_
      rintro e w2 ⟨rfl, k2⟩
      have hTB0 := (Blk.new wr (itC k v n g) 24).keep k2 (by simp)
      have hB2 := (hB.alloc (.cells (itC k v n g).toArray 24)).keep k2 (by simp)
      have K2 := (hK.alloc (.cells (itC k v n g).toArray 24)).trans k2
      have hszw := K2.size
      clear c0 c1 c2 c3 hB hK k2
      generalize wr.heap.size = t at *
      have tc3 := hTB0.cell 3
      simp only [itC, List.getElem?_cons_succ, List.getElem?_cons_zero] at tc3
      cases m
      case false =>
        go_wp2_with fail
        go_ret
        have hE : encIts l = [] := by
          unfold encIts
          rw [if_neg]
          intro hc
          have := List.all_eq_true.1 hc _ HMY.out
          rw [← HMM.out] at this
          cases this
        exact ⟨_, rfl, ⟨by rw [hE]; exact Buf.nil _ _ _, fun _ => rfl⟩, K2⟩
      have hms := HMS.out HMM.out.symm
      obtain ⟨hk1, hk2, hv2, hn1, hn2⟩ := hms
      go_upto_if 17 with fail
      go_cut [6] (fun s wc => s = .int .i64 (gN g) ∧ w2 = wc)
      case first =>
        cases g
        · go_wp2_with fail
          go_meet
          exact ⟨rfl, rfl⟩
        · go_wp2_with fail
          go_meet
          exact ⟨rfl, rfl⟩
      case rest =>
      obtain ⟨rfl, rfl⟩ := hcut
      clear tc3
      have hgi := gN_i64 g
      have hkv : ∀ t ∈ [k, v], t.size ≤ 200 := by intro t ht; simp at ht; rcases ht with rfl | rfl <;> omega
      have hng : ∀ z ∈ [n, gN g], I64 z := by intro z hz; simp at hz; rcases hz with rfl | rfl; exact ⟨by omega, by omega⟩; exact hgi
      have hp2 := putTexts_two k v (by omega) (by omega)
      have HTP := Lib.hid (show 0 < (putTexts [k, v]).length from putTexts_pos k v)
      generalize gN g = gi at *
      have hTv : t ∉ (Value.slice ba L.length bcap).ownBlock.toList := by intro hm; exact hTB0.ty.ne (hB2.ty' _ (Option.mem_toList.1 hm)) (by decide) rfl
      go_wp2_with fail
      refine wp_region_inv_own (encJ w2 w.heap.size (Value.slice ba L.length bcap) L t k v n gi) (by kernel_rfl) (by kernel_rfl) (by kernel_rfl) ?_ (Steps.cons 0 ?_ (Steps.cons 1 ?_ (Steps.cons 2 ?_ (Steps.cons 3 ?_ (Steps.cons 4 ?_ (Steps.cons 5 ?_ (Steps.cons 6 ?_ (Steps.cons 7 ?_ (Steps.cons 8 ?_ (Steps.cons 9 ?_ (Steps.cons 10 ?_ (Steps.cons 11 ?_ (Steps.cons 12 ?_ (Steps.nil 13)))))))))))))) 13 rfl ?_
      · exact ⟨0, 0, (Onto.refl hB2).drew0, fun h => absurd h (by decide), fun h => absurd h (by decide), fun _ => rfl, fun h => absurd h (by decide), fun h => absurd h (by decide), fun h => absurd h (by decide), fun h => absurd h (by decide), fun h => absurd h (by decide), fun h => absurd h (by decide), fun h => absurd h (by decide), fun h => absurd h (by decide), fun h => absurd h (by decide), fun h => absurd h (by decide), fun h => absurd h (by decide)⟩
      · intro l x w' hJ hi hd
        obtain ⟨B5, B10, hO, d11, d6, d12, h0, h1, h2, h3, h4, h5, h7, h8, h9, h10, h12⟩ := hJ
        have l12 : l 12 = false := by cases h : l 12 with | false => rfl | true => have := d6 (d11 (h12 h).2); rw [hi] at this; cases this
        have e12 := d12 l12
        refine Runs.of (b := ?b0) ?e0 ?_
        case e0 => simp only [putV, Act.put, List.setIfInBounds_toArray, List.set_cons_zero, List.set_cons_succ, e12]; rfl
        intro K' hK'
        go_simp
        exact hK'.go _ rfl ⟨B5, B10, hO, d11, fun _ => rfl, d12, fun _ => rfl, h1, h2, h3, h4, h5, h7, h8, h9, h10, h12⟩
      · intro l x w' hJ hi hd
        obtain ⟨B5, B10, hO, d11, d6, d12, h0, h1, h2, h3, h4, h5, h7, h8, h9, h10, h12⟩ := hJ
        refine Runs.of (b := ?b1) ?e1 ?_
        case e1 => simp only [putV, Act.put, List.setIfInBounds_toArray, List.set_cons_zero, List.set_cons_succ]; rfl
        intro K' hK'
        go_simp
        exact hK'.go _ rfl ⟨B5, B10, hO, d11, d6, d12, h0, fun _ => rfl, h2, h3, h4, h5, h7, h8, h9, h10, h12⟩
      · intro l x w' hJ hi hd
        obtain ⟨B5, B10, hO, d11, d6, d12, h0, h1, h2, h3, h4, h5, h7, h8, h9, h10, h12⟩ := hJ
        have e1 := h1 (show l 1 = true by first | exact hd.1 rfl | exact hd.2.1 rfl | exact hd.2.2.1 rfl | exact hd.2.2.2.1 rfl | exact hd.2.2.2.2.1 rfl | exact hd.2.2.2.2.2.1 rfl)
        have hT := hTB0.keep hO.keep hTv
        have c := hT.cell 0
        simp only [itC, List.getElem?_cons_succ, List.getElem?_cons_zero] at c
        refine Runs.of (b := ?b2) ?e2 ?_
        case e2 => simp only [putV, Act.put, List.setIfInBounds_toArray, List.set_cons_zero, List.set_cons_succ, e1]; rfl
        intro K' hK'
        go_simp
        exact hK'.go _ rfl ⟨B5, B10, hO, d11, d6, d12, h0, h1, fun _ => rfl, h3, h4, h5, h7, h8, h9, h10, h12⟩
      · intro l x w' hJ hi hd
        obtain ⟨B5, B10, hO, d11, d6, d12, h0, h1, h2, h3, h4, h5, h7, h8, h9, h10, h12⟩ := hJ
        refine Runs.of (b := ?b3) ?e3 ?_
        case e3 => simp only [putV, Act.put, List.setIfInBounds_toArray, List.set_cons_zero, List.set_cons_succ]; rfl
        intro K' hK'
        go_simp
        exact hK'.go _ rfl ⟨B5, B10, hO, d11, d6, d12, h0, h1, h2, fun _ => rfl, h4, h5, h7, h8, h9, h10, h12⟩
      · intro l x w' hJ hi hd
        obtain ⟨B5, B10, hO, d11, d6, d12, h0, h1, h2, h3, h4, h5, h7, h8, h9, h10, h12⟩ := hJ
        have e3 := h3 (show l 3 = true by first | exact hd.1 rfl | exact hd.2.1 rfl | exact hd.2.2.1 rfl | exact hd.2.2.2.1 rfl | exact hd.2.2.2.2.1 rfl | exact hd.2.2.2.2.2.1 rfl)
        have hT := hTB0.keep hO.keep hTv
        have c := hT.cell 1
        simp only [itC, List.getElem?_cons_succ, List.getElem?_cons_zero] at c
        refine Runs.of (b := ?b4) ?e4 ?_
        case e4 => simp only [putV, Act.put, List.setIfInBounds_toArray, List.set_cons_zero, List.set_cons_succ, e3]; rfl
        intro K' hK'
        go_simp
        exact hK'.go _ rfl ⟨B5, B10, hO, d11, d6, d12, h0, h1, h2, h3, fun _ => rfl, h5, h7, h8, h9, h10, h12⟩
      · intro l x w' hJ hi hd
        obtain ⟨B5, B10, hO, d11, d6, d12, h0, h1, h2, h3, h4, h5, h7, h8, h9, h10, h12⟩ := hJ
        have e2 := h2 (show l 2 = true by first | exact hd.1 rfl | exact hd.2.1 rfl | exact hd.2.2.1 rfl | exact hd.2.2.2.1 rfl | exact hd.2.2.2.2.1 rfl | exact hd.2.2.2.2.2.1 rfl)
        have e4 := h4 (show l 4 = true by first | exact hd.1 rfl | exact hd.2.1 rfl | exact hd.2.2.1 rfl | exact hd.2.2.2.1 rfl | exact hd.2.2.2.2.1 rfl | exact hd.2.2.2.2.2.1 rfl)
        refine Runs.of (b := ?b5) ?e5 ?_
        case e5 => simp only [putV, Act.put, List.setIfInBounds_toArray, List.set_cons_zero, List.set_cons_succ, e2, e4]; rfl
        intro K' hK'
        go_simp
        exact hK'.go _ rfl ⟨w'.heap.size, B10, hO.alloc _, d11, d6, d12, h0, h1, h2, h3, h4, fun _ => ⟨rfl, Blk.new _ (strs [k, v]) _⟩, h7, h8, h9, fun h => ⟨(h10 h).1, (h10 h).2.alloc _⟩, h12⟩
      · intro l x w' hJ hi hd
        obtain ⟨B5, B10, hO, d11, d6, d12, h0, h1, h2, h3, h4, h5, h7, h8, h9, h10, h12⟩ := hJ
        have e0 := h0 (show l 0 = true by first | exact hd.1 rfl | exact hd.2.1 rfl | exact hd.2.2.1 rfl | exact hd.2.2.2.1 rfl | exact hd.2.2.2.2.1 rfl | exact hd.2.2.2.2.2.1 rfl)
        have e5 := h5 (show l 5 = true by first | exact hd.1 rfl | exact hd.2.1 rfl | exact hd.2.2.1 rfl | exact hd.2.2.2.1 rfl | exact hd.2.2.2.2.1 rfl | exact hd.2.2.2.2.2.1 rfl)
        have l0 : l 0 = true := by first | exact hd.1 rfl | exact hd.2.1 rfl | exact hd.2.2.1 rfl | exact hd.2.2.2.1 rfl | exact hd.2.2.2.2.1 rfl | exact hd.2.2.2.2.2.1 rfl
        have l11 : l 11 = false := by cases h : l 11 with | false => rfl | true => have := d11 h; rw [hi] at this; cases this
        have eV : encV (Value.slice ba L.length bcap) l x = (Value.slice ba L.length bcap) := by unfold encV; rw [l11, hi]; rfl
        have eL : encL L k v n gi l = L := by unfold encL; rw [l11, hi]; rfl
        rw [eV, eL] at hO
        refine Runs.of (b := ?b6) ?e6 ?_
        case e6 => simp only [putV, Act.put, List.setIfInBounds_toArray, List.set_cons_zero, List.set_cons_succ, e0, e5.1]; rfl
        intro K' hK'
        go_simp
        have hbf := hO.buf
        have hne5 : ∀ q, (Value.slice ba L.length bcap).ownBlock = some q → B5 ≠ q := fun q hb => e5.2.ty.ne (hbf.ty' q hb) (by decide)
        have hrv : Rv w' 1 (.slice (some ⟨B5, 0, none⟩) [k, v].length [k, v].length) [k, v].length (strs [k, v]) := rv_blk e5.2 rfl
        refine (PutText_any w.heap.size (Value.slice ba L.length bcap) L _ [k, v] hbf hrv (by intro _ q hb e; cases hb; exact hne5 _ e rfl) 200 hkv (by simp only [List.length_cons, List.length_nil]; omega) (by have := hO.keep.size; omega)).mono ?_
        rintro e w4 ⟨v1, rfl, o2⟩
        go_simp
        have eV2 : encV (Value.slice ba L.length bcap) (upd l 6 true) (upd x 6 v1) = v1 := by unfold encV; rw [upd_ne _ _ _ _ (by decide), l11, upd_same]; rfl
        have eL2 : encL L k v n gi (upd l 6 true) = L ++ putTexts [k, v] := by unfold encL; rw [upd_ne _ _ _ _ (by decide), l11, upd_same]; rfl
        have hO2 : Onto w2 w.heap.size 5 (Value.slice ba L.length bcap) (encL L k v n gi (upd l 6 true)) (encV (Value.slice ba L.length bcap) (upd l 6 true) (upd x 6 v1)) w4 := by rw [eV2, eL2]; exact hO.trans o2
        exact hK'.go v1 rfl ⟨B5, B10, hO2, fun _ => rfl, fun _ => l0, d12, h0, h1, h2, h3, h4, fun h => ⟨(h5 h).1, (h5 h).2.keep o2.keep (by intro hm; exact hne5 _ (Option.mem_toList.1 hm) rfl)⟩, h7, h8, h9, fun h => ⟨(h10 h).1, (h10 h).2.keep o2.keep (by intro hm; exact (h10 h).2.ty.ne (hbf.ty' _ (Option.mem_toList.1 hm)) (by decide) rfl)⟩, h12⟩
      · intro l x w' hJ hi hd
        obtain ⟨B5, B10, hO, d11, d6, d12, h0, h1, h2, h3, h4, h5, h7, h8, h9, h10, h12⟩ := hJ
        refine Runs.of (b := ?b7) ?e7 ?_
        case e7 => simp only [putV, Act.put, List.setIfInBounds_toArray, List.set_cons_zero, List.set_cons_succ]; rfl
        intro K' hK'
        go_simp
        exact hK'.go _ rfl ⟨B5, B10, hO, d11, d6, d12, h0, h1, h2, h3, h4, h5, fun _ => rfl, h8, h9, h10, h12⟩
      · intro l x w' hJ hi hd
        obtain ⟨B5, B10, hO, d11, d6, d12, h0, h1, h2, h3, h4, h5, h7, h8, h9, h10, h12⟩ := hJ
        have e7 := h7 (show l 7 = true by first | exact hd.1 rfl | exact hd.2.1 rfl | exact hd.2.2.1 rfl | exact hd.2.2.2.1 rfl | exact hd.2.2.2.2.1 rfl | exact hd.2.2.2.2.2.1 rfl)
        have hT := hTB0.keep hO.keep hTv
        have c := hT.cell 2
        simp only [itC, List.getElem?_cons_succ, List.getElem?_cons_zero] at c
        refine Runs.of (b := ?b8) ?e8 ?_
        case e8 => simp only [putV, Act.put, List.setIfInBounds_toArray, List.set_cons_zero, List.set_cons_succ, e7]; rfl
        intro K' hK'
        go_simp
        exact hK'.go _ rfl ⟨B5, B10, hO, d11, d6, d12, h0, h1, h2, h3, h4, h5, h7, fun _ => rfl, h9, h10, h12⟩
      · intro l x w' hJ hi hd
        obtain ⟨B5, B10, hO, d11, d6, d12, h0, h1, h2, h3, h4, h5, h7, h8, h9, h10, h12⟩ := hJ
        refine Runs.of (b := ?b9) ?e9 ?_
        case e9 => simp only [putV, Act.put, List.setIfInBounds_toArray, List.set_cons_zero, List.set_cons_succ]; rfl
        intro K' hK'
        go_simp
        exact hK'.go _ rfl ⟨B5, B10, hO, d11, d6, d12, h0, h1, h2, h3, h4, h5, h7, h8, fun _ => rfl, h10, h12⟩
      · intro l x w' hJ hi hd
        obtain ⟨B5, B10, hO, d11, d6, d12, h0, h1, h2, h3, h4, h5, h7, h8, h9, h10, h12⟩ := hJ
        have e8 := h8 (show l 8 = true by first | exact hd.1 rfl | exact hd.2.1 rfl | exact hd.2.2.1 rfl | exact hd.2.2.2.1 rfl | exact hd.2.2.2.2.1 rfl | exact hd.2.2.2.2.2.1 rfl)
        have e9 := h9 (show l 9 = true by first | exact hd.1 rfl | exact hd.2.1 rfl | exact hd.2.2.1 rfl | exact hd.2.2.2.1 rfl | exact hd.2.2.2.2.1 rfl | exact hd.2.2.2.2.2.1 rfl)
        refine Runs.of (b := ?b10) ?e10 ?_
        case e10 => simp only [putV, Act.put, List.setIfInBounds_toArray, List.set_cons_zero, List.set_cons_succ, e8, e9]; rfl
        intro K' hK'
        go_simp
        exact hK'.go _ rfl ⟨B5, w'.heap.size, hO.alloc _, d11, d6, d12, h0, h1, h2, h3, h4, fun h => ⟨(h5 h).1, (h5 h).2.alloc _⟩, h7, h8, h9, fun _ => ⟨rfl, Blk.new _ (ints [n, gi]) _⟩, h12⟩
      · intro l x w' hJ hi hd
        obtain ⟨B5, B10, hO, d11, d6, d12, h0, h1, h2, h3, h4, h5, h7, h8, h9, h10, h12⟩ := hJ
        have e10 := h10 (show l 10 = true by first | exact hd.1 rfl | exact hd.2.1 rfl | exact hd.2.2.1 rfl | exact hd.2.2.2.1 rfl | exact hd.2.2.2.2.1 rfl | exact hd.2.2.2.2.2.1 rfl)
        have l6 : l 6 = true := by first | exact hd.1 rfl | exact hd.2.1 rfl | exact hd.2.2.1 rfl | exact hd.2.2.2.1 rfl | exact hd.2.2.2.2.1 rfl | exact hd.2.2.2.2.2.1 rfl
        have eV : encV (Value.slice ba L.length bcap) l x = x 6 := by unfold encV; rw [hi, l6]; rfl
        have eL : encL L k v n gi l = L ++ putTexts [k, v] := by unfold encL; rw [hi, l6]; rfl
        rw [eV, eL] at hO
        have L6 := Lib.hid l6
        clear l6
        refine Runs.of (b := ?b11) ?e11 ?_
        case e11 => simp only [putV, Act.put, List.setIfInBounds_toArray, List.set_cons_zero, List.set_cons_succ, e10.1]; rfl
        intro K' hK'
        go_simp
        have hbf := hO.buf
        have hne10 : ∀ q, (x 6).ownBlock = some q → B10 ≠ q := fun q hb => e10.2.ty.ne (hbf.ty' q hb) (by decide)
        have hrv : Rv w' 1 (.slice (some ⟨B10, 0, none⟩) [n, gi].length [n, gi].length) [n, gi].length (ints [n, gi]) := rv_blk e10.2 rfl
        refine (Put_any w.heap.size (x 6) (L ++ putTexts [k, v]) _ [n, gi] hbf hrv (by intro _ q hb e; cases hb; exact hne10 _ e rfl) hng (by rw [List.length_append]; simp only [List.length_cons, List.length_nil]; omega) (by have := hO.keep.size; omega)).mono ?_
        rintro e w4 ⟨v1, rfl, o2⟩
        go_simp
        have hO2 : Onto w2 w.heap.size 5 (Value.slice ba L.length bcap) (encL L k v n gi (upd l 11 true)) (encV (Value.slice ba L.length bcap) (upd l 11 true) (upd x 11 v1)) w4 := hO.trans o2
        exact hK'.go v1 rfl ⟨B5, B10, hO2, fun _ => L6.out, d6, d12, h0, h1, h2, h3, h4, fun h => ⟨(h5 h).1, (h5 h).2.keep o2.keep (by intro hm; exact (h5 h).2.ty.ne (hbf.ty' _ (Option.mem_toList.1 hm)) (by decide) rfl)⟩, h7, h8, h9, fun h => ⟨(h10 h).1, (h10 h).2.keep o2.keep (by intro hm; exact hne10 _ (Option.mem_toList.1 hm) rfl)⟩, fun h => absurd ((h12 h).2.symm.trans hi) (by decide)⟩
      · intro l x w' hJ hi hd
        obtain ⟨B5, B10, hO, d11, d6, d12, h0, h1, h2, h3, h4, h5, h7, h8, h9, h10, h12⟩ := hJ
        have l11 : l 11 = true := by first | exact hd.1 rfl | exact hd.2.1 rfl | exact hd.2.2.1 rfl | exact hd.2.2.2.1 rfl | exact hd.2.2.2.2.1 rfl | exact hd.2.2.2.2.2.1 rfl
        refine Runs.of (b := ?b12) ?e12 ?_
        case e12 => simp only [putV, Act.put, List.setIfInBounds_toArray, List.set_cons_zero, List.set_cons_succ]; rfl
        intro K' hK'
        go_simp
        exact hK'.go _ rfl ⟨B5, B10, hO, d11, d6, fun h => Bool.noConfusion (show true = false from h), h0, h1, h2, h3, h4, h5, h7, h8, h9, h10, fun _ => ⟨rfl, l11⟩⟩
      · intro l' x w3 hJ hl
        obtain ⟨B5, B10, hO, d11, d6, d12, h0, h1, h2, h3, h4, h5, h7, h8, h9, h10, h12⟩ := hJ
        have e12 := (h12 (hl 12 (by decide))).1
        have eV : encV (Value.slice ba L.length bcap) l' x = x 11 := by unfold encV; rw [hl 11 (by decide)]; rfl
        have eL : encL L k v n gi l' = L ++ putTexts [k, v] ++ putAll [n, gi] := by unfold encL; rw [hl 11 (by decide)]; rfl
        rw [eV, eL] at hO
        simp only [putV, Act.put, List.setIfInBounds_toArray, List.set_cons_zero, List.set_cons_succ, e12]
        have hK3 := K2.then hO.keep (by intro y hy hlt2; have e := Option.mem_toList.1 hy; have := (hB2.lt _ e).1; omega)
        have hB3 := hO.buf
        have hp3 := putAll_len [n, gi] hng
        clear h0 h1 h2 h3 h4 h5 h7 h8 h9 h10 h12 hl hO eV eL e12 d11 d6 d12 hTv
        generalize x 11 = v2 at *
        go_wp2_with fail
        go_roundw
        case rel =>
          refine ⟨j + 1, by omega, by go_num, ?_, ?_, ?_, hK3⟩
          · rw [HTK.out, List.all_append, HALL.out]
            simp only [List.all_cons, List.all_nil, Bool.and_true, Bool.true_and]
            exact HMM.out.symm
          · rw [HTK.out, putIts_snoc, HLL.out, List.length_append]
            have := HPL.out HMM.out.symm
            omega
          · rw [HTK.out, putIts_snoc, HLL.out, HPI.out, ← List.append_assoc]
            exact ⟨hB3, fun he => absurd he (by intro he; have h1 := congrArg List.length he; simp only [List.length_append, List.length_nil] at h1; have h2 := HTP.out; omega)⟩
        case measure => simp [intOf]; omega
    · obtain rfl : j = l.length := by omega
      have h1 : l.take l.length = l := List.take_of_length_le (Nat.le_refl _)
      have HA := HALL.out
      rw [h1] at HA
      have hE : encIts l = putIts l := by unfold encIts; rw [if_pos HA]
      have HE := Lib.hid hE
      have H1 := Lib.hid h1
      clear hE h1
      go_wp2_with fail
      go_ret
      refine ⟨_, rfl, ⟨?_, ?_⟩, hK⟩
      · rw [HE.out]
        have h := hB
        rw [H1.out] at h
        show Buf _ _ _ (Value.slice ba (putIts (l.take l.length)).length bcap) _
        rw [H1.out]
        exact h
      · intro he
        rw [HE.out] at he
        exact HNIL.out (by rw [H1.out]; exact he)
end Go.Proofs.Ytonghelcfbjknaa
