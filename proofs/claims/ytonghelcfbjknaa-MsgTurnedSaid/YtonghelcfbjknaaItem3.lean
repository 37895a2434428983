/- Entries in rows. -/
import Derived.Test.YtonghelcfbjknaaItem2
import Derived.Test.YtonghelcfbjknaaOpen
import Derived.Test.YtonghelcfbjknaaShort
import Derived.Test.YtonghelcfbjknaaBump
namespace Go.Proofs.Ytonghelcfbjknaa
open Go.ChangeShapes Go.WideShapes Go.ChangeAt Go.RowKit
set_option linter.unusedVariables false
set_option linter.unusedSimpArgs false

theorem Try.infoItem : (Try.prog.info? 24).map (fun i => (i.zero, i.size, i.bytes)) = some (some (.agg #[.string ByteArray.empty, .string ByteArray.empty, .int .i64 0, .bool false]), 4, 48) := by kernel_rfl
abbrev It := ByteArray × ByteArray × Int × Bool
def itc (y : It) : List Value := itC y.1 y.2.1 y.2.2.1 y.2.2.2
def ic (l : List It) : List Value := (l.map itc).flatten
theorem ic_len (l : List It) : (ic l).length = l.length * 4 := flatten_len itc 4 (fun _ => rfl) l
theorem ic_snoc (l : List It) (y : It) : ic (l ++ [y]) = ic l ++ itc y := by simp [ic]
theorem ic_one (l : List It) : ∀ u ∈ ic l, u.oneCell' = true := by
  intro u hu
  unfold ic at hu
  obtain ⟨c, hc, huc⟩ := List.mem_flatten.1 hu
  obtain ⟨y, _, rfl⟩ := List.mem_map.1 hc
  exact itC_one _ _ _ _ u huc
/-- Entries that can be read. -/
abbrev IRd (w : World) (v : Value) (l : List It) : Prop := Rv w 4 v l.length (ic l)
theorem its_at {w : World} {v : Value} {l : List It} (h : IRd w v l) (i : Nat) (y : It) (hi : l[i]? = some y) :
    ∃ sb so cap, v = .slice (some ⟨sb, so, none⟩) l.length cap ∧ l.length ≤ cap ∧ sb < w.heap.size ∧ w.cell? ⟨sb, so + i * 4, none⟩ = some (.string y.1) ∧ w.cell? ⟨sb, so + i * 4 + 1, none⟩ = some (.string y.2.1) ∧
      w.cell? ⟨sb, so + i * 4 + 2, none⟩ = some (.int .i64 y.2.2.1) ∧ w.cell? ⟨sb, so + i * 4 + 3, none⟩ = some (.bool y.2.2.2) := by
  have hlt : i < l.length := (List.getElem?_eq_some_iff.1 hi).1
  have hfl := ic_len l
  obtain ⟨hl, a, cap, rfl, hc, hh⟩ := h
  obtain ⟨sb, so, rfl, hs, hat⟩ := hh (by rw [hfl]; omega)
  have hf : ∀ j, j < 4 → w.cell? ⟨sb, so + (i * 4 + j), none⟩ = (itc y)[j]? := by
    intro j hj
    rw [hat _ (by rw [hfl]; omega)]
    unfold ic
    rw [flatten_at itc 4 (fun _ => rfl) l i j hj, hi]; rfl
  exact ⟨sb, so, cap, rfl, hc, hs, hf 0 (by omega), by rw [Nat.add_assoc]; exact hf 1 (by omega), by rw [Nat.add_assoc]; exact hf 2 (by omega), by rw [Nat.add_assoc]; exact hf 3 (by omega)⟩
/-- A row of entries of the call's own. -/
def IRow (w : World) (base : Nat) (v : Value) (l : List It) : Prop := w.ownsRow base 24 4 v l.length (ic l)
theorem IRow.nil (w : World) (base : Nat) : IRow w base (.slice none 0 0) [] := World.ownsRow_nil w base _ 4
theorem IRow.rd {w : World} {base : Nat} {v : Value} {l : List It} (h : IRow w base v l) : IRd w v l := ownsRow_rv h
theorem IRow.lt {w : World} {base : Nat} {v : Value} {l : List It} (h : IRow w base v l) : ∀ k, v.ownBlock = some k → base ≤ k ∧ k < w.heap.size := World.ownsRow.lt h
theorem IRow.slice {w : World} {base : Nat} {v : Value} {l : List It} (h : IRow w base v l) : ∃ a cap, v = .slice a l.length cap := by
  rcases h.2 with ⟨rfl, hn⟩ | ⟨g, cap, cur, rfl, _⟩
  · exact ⟨none, 0, by rw [hn]⟩
  · exact ⟨_, _, rfl⟩
theorem IRow.ty {w : World} {base : Nat} {v : Value} {l : List It} (h : IRow w base v l) : ∀ k, v.ownBlock = some k → Ty w k 24 := by
  intro k hk
  rcases h.2 with ⟨rfl, _⟩ | ⟨g, cap, cur, rfl, _, hg, _⟩
  · cases hk
  · cases hk; exact ⟨_, _, hg⟩
theorem IRow.keep {w w' : World} {base : Nat} {v : Value} {l : List It} {S : List Nat} (h : IRow w base v l) (k : Keep S w w') (hS : ∀ b, v.ownBlock = some b → b ∉ S) : IRow w' base v l := by
  refine ⟨h.1, ?_⟩
  have hl := h.lt
  rcases h.2 with ⟨rfl, hn⟩ | ⟨g, cap, cur, rfl, hb, hg, r⟩
  · exact .inl ⟨rfl, hn⟩
  · exact .inr ⟨g, cap, cur, rfl, hb, by rw [k.block g (hl g rfl).2 (hS g rfl)]; exact hg, r⟩
theorem IRow.alloc {w : World} {base : Nat} {v : Value} {l : List It} (h : IRow w base v l) (o : Obj) : IRow (w.alloc o) base v l := World.ownsRow.alloc h o
theorem IRow.mono {w : World} {base base' : Nat} {v : Value} {l : List It} (h : IRow w base v l) (hb : base' ≤ base) : IRow w base' v l := by
  refine ⟨h.1, ?_⟩
  rcases h.2 with ⟨rfl, hn⟩ | ⟨g, cap, cur, rfl, hg, r⟩
  · exact .inl ⟨rfl, hn⟩
  · exact .inr ⟨g, cap, cur, rfl, Nat.le_trans hb hg, r⟩
theorem IRow.snoc {w' : World} {base : Nat} {v' : Value} {l : List It} {y : It} (h : w'.ownsRow base 24 4 v' (l.length + 1) (ic l ++ itc y)) : IRow w' base v' (l ++ [y]) := by
  unfold IRow; rw [ic_snoc, List.length_append]; exact h
theorem src_it {P : Program} {t e : TypeId} (ht : P.underlying t = some (.slice e)) (w : World) (b : Nat) (k v : ByteArray) (n : Int) (g : Bool) (h : Blk w b (itC k v n g) 24) :
    Src P 4 t (.slice (some ⟨b, 0, none⟩) 1 1) 1 (itc (k, v, n, g)) w := by
  refine Src.ofSlice _ ht ⟨b, 0, none⟩ 1 1 (itc (k, v, n, g)) rfl ?_ (itC_one _ _ _ _)
  intro j x hx
  rw [show (⟨b, 0, none⟩ : Addr).add j = ⟨b, j, none⟩ by by_cases h0 : j = 0 <;> simp [Addr.add, h0], h.cell]
  exact hx

def itCut (y : It) : It := (cutStr y.1 50, cutStr y.2.1 210, y.2.2.1, y.2.2.2)
set_option maxRecDepth 100000 in
set_option maxHeartbeats 4000000 in
theorem Items_any {w : World} (a : Value) (l : List It) (n : Nat) (h : IRd w a l) (hl : l.length ≤ 9223372036854775807) (hn : n ≤ 6) (hs : ∀ y ∈ l, y.1.size ≤ 9223372036854775807 ∧ y.2.1.size ≤ 9223372036854775807) :
    Calls Try.prog 20 #[a, .int .i64 n] w fun e w' => ∃ v, e = .returned v ∧ IRow w' w.heap.size v ((l.take n).map itCut) ∧ Keep [] w w' := by
  obtain ⟨i0, hi, hz0, hz1, hz2⟩ := info_parts Try.infoItem
  obtain ⟨_, aa, cap, rfl, hcap, _⟩ := id h
  go_enter Try.func20, Try.ntmps20
  go_wp2_with fail
  go_loopw [5, 6] (fun out i wr => ∃ j : Nat, j ≤ l.length ∧ j ≤ n ∧ i = .int .i64 j ∧ IRow wr w.heap.size out ((l.take j).map itCut) ∧ Keep [] w wr) (fun _ i _ => l.length - (intOf i).toNat)
  case atStart => exact ⟨0, by omega, by omega, rfl, IRow.nil _ _, Keep.refl _ _⟩
  case round =>
    obtain ⟨j, hj, hjn, rfl, hO, hK⟩ := hrel
    by_cases hin : j < l.length ∧ j < n
    · obtain ⟨hlt, hltn⟩ := hin
      have q0 : decide ((j : Int) < l.length) = true := decide_eq_true (by omega)
      have q1 : decide ((j : Int) < n) = true := decide_eq_true (by omega)
      have q2 : (j : Int) < l.length := by omega
      have q3 : (j : Int) < n := by omega
      obtain ⟨y, hy⟩ : ∃ y, l[j]? = some y := ⟨_, List.getElem?_eq_getElem hlt⟩
      have hsy := hs y (List.mem_of_getElem? hy)
      obtain ⟨og, oo, ocap2, he, _, hog, c0, c1, c2, c3⟩ := its_at (h.keep hK (by simp)) j y hy
      simp only [Value.slice.injEq] at he
      obtain ⟨rfl, _, rfl⟩ := he
      have htk : (l.take (j + 1)).map itCut = (l.take j).map itCut ++ [itCut y] := by rw [List.take_add_one, hy]; simp
      have HTK := Lib.hid htk
      clear htk hy
      obtain ⟨k, v, m, g⟩ := y
      simp only at c0 c1 c2 c3 hsy
      generalize (l.take j).map itCut = L at *
      obtain ⟨oa, ocap, rfl⟩ := hO.slice
      go_wp2_with fail
      refine (itCut_any k v m g hsy.1 hsy.2).mono ?_
      rintro e w1 ⟨rfl, k1⟩
      have hO1 := hO.keep k1 (by simp)
      have K1 := hK.trans k1
      have hsz := hK.size
      have hszw := k1.size
      clear c0 c1 c2 c3 hO hK k1
      have hlen : L.length ≤ 6 := by have := HTK.out; have h2 := congrArg List.length this; simp at h2; omega
      have hBn := Blk.new w1 (itC (cutStr k 50) (cutStr v 210) m g) 24
      have hsrc := src_it (P := Try.prog) Try.underlying25 _ _ _ _ _ _ hBn
      go_wp2_with (at_builtin; refine wpList_append_src _ rfl _ _ 25 25 rfl w.heap.size 24 i0 _ 4 48 Try.underlying25 hi hz0 hz1 hz2 rfl (by decide) _ _ _ rfl (hO1.alloc _) _ 1 _ rfl hsrc (by unfold maxLen; omega) (by omega) (by simp; omega) ?_; intro v1 w2 h1 h2 _ h3)
      have hO2 := IRow.snoc h1
      have hK2 := Keep.grown h2
      go_roundw
      case rel =>
        refine ⟨j + 1, by omega, by omega, by go_num, by rw [HTK.out]; exact hO2, (K1.alloc _).then hK2 (by intro y hy hlt2; have e : (Value.slice oa L.length ocap).ownBlock = some y := Option.mem_toList.1 hy; have := (hO1.lt _ e).1; omega)⟩
      case measure => simp [intOf]; omega
    · have htk : l.take j = l.take n := by
        by_cases h1 : j < l.length
        · have : j = n := by omega
          rw [this]
        · rw [List.take_of_length_le (by omega), List.take_of_length_le (by omega)]
      rw [htk] at hO
      by_cases h1 : j < l.length
      · have q0 : decide ((j : Int) < l.length) = true := decide_eq_true (by omega)
        have q1 : decide ((j : Int) < n) = false := decide_eq_false (by omega)
        have q2 : (j : Int) < l.length := by omega
        go_wp2_with fail
        go_ret
        exact ⟨_, rfl, by first | exact hO | (rw [List.map_take] at hO; exact hO), hK⟩
      · have q0 : decide ((j : Int) < l.length) = false := decide_eq_false (by omega)
        have q2 : ¬ (j : Int) < l.length := by omega
        go_wp2_with fail
        go_ret
        exact ⟨_, rfl, by first | exact hO | (rw [List.map_take] at hO; exact hO), hK⟩

def eqJ (a1 a2 : Option Addr) (lenA c1 lenB c2 j : Nat) (ga oa gb ob : Nat) (k v : ByteArray) (n : Int) (g : Bool) (k' v' : ByteArray) (n' : Int) (g' : Bool) (w0 : World) (l : Nat → Bool) (x : Nat → Value) (w' : World) : Prop :=
  Keep [] w0 w' ∧ (l 0 = true → x 0 = .slice a1 lenA c1) ∧ (l 1 = true → x 1 = .int .i64 (j : Int)) ∧ (l 2 = true → x 2 = .pointer (some ⟨ga, oa + j * 4, none⟩)) ∧ (l 3 = true → x 3 = itV k v n g) ∧ (l 4 = true → x 4 = .slice a2 lenB c2) ∧ (l 5 = true → x 5 = .int .i64 (j : Int)) ∧ (l 6 = true → x 6 = .pointer (some ⟨gb, ob + j * 4, none⟩)) ∧ (l 7 = true → x 7 = itV k' v' n' g') ∧ (l 8 = true → x 8 = .bool (itEq k v n g k' v' n' g')) ∧ (l 9 = true → x 9 = .bool (!itEq k v n g k' v' n' g'))

theorem itEq_iff (x y : It) : itEq x.1 x.2.1 x.2.2.1 x.2.2.2 y.1 y.2.1 y.2.2.1 y.2.2.2 = decide (x = y) := by
  obtain ⟨k, v, n, g⟩ := x
  obtain ⟨k', v', n', g'⟩ := y
  unfold itEq
  simp only [Prod.mk.injEq]
  by_cases h1 : k = k' <;> by_cases h2 : v = v' <;> by_cases h3 : n = n' <;> by_cases h4 : g = g' <;> simp [h1, h2, h3, h4]
set_option maxRecDepth 100000 in
set_option maxHeartbeats 4000000 in
theorem EqItems_any {w : World} (a b : Value) (la lb : List It) (ha : IRd w a la) (hb : IRd w b lb) (hla : la.length ≤ 9223372036854775807) (hlb : lb.length ≤ 9223372036854775807) (r : Bool) (hr : r = decide (la = lb)) :
    Calls Try.prog 37 #[a, b] w fun e w' => e = .returned (.bool r) ∧ Keep [] w w' := by
  have HR := Lib.hid hr
  clear hr
  obtain ⟨_, a1, c1, rfl, _, _⟩ := id ha
  obtain ⟨_, a2, c2, rfl, _, _⟩ := id hb
  by_cases hlen : la.length = lb.length
  case neg =>
    have q : ((la.length : Int) == (lb.length : Int)) = false := by simpa using (by omega : ¬ (la.length : Int) = lb.length)
    have HN : r = false := by rw [HR.out]; exact decide_eq_false (fun e => hlen (by rw [e]))
    go_enter Try.func37, Try.ntmps37
    go_wp2_with fail
    go_ret
    exact ⟨by rw [HN]; rfl, Keep.refl _ _⟩
  rw [← hlen]
  have HLEN := Lib.hid hlen
  have hlb2 : lb.length ≤ 9223372036854775807 := hlb
  clear hlen hlb
  go_enter Try.func37, Try.ntmps37
  go_wp2_with fail
  go_loopw [5] (fun i wr => ∃ j : Nat, j ≤ la.length ∧ i = .int .i64 j ∧ la.take j = lb.take j ∧ Keep [] w wr) (fun i _ => la.length - (intOf i).toNat)
  case atStart => exact ⟨0, by omega, rfl, rfl, Keep.refl _ _⟩
  case round =>
    obtain ⟨j, hj, rfl, htk, hK⟩ := hrel
    have HTK := Lib.hid htk
    clear htk
    by_cases hlt : j < la.length
    · have q0 : (j : Int) < la.length := by omega
      obtain ⟨x, hx⟩ : ∃ y, la[j]? = some y := ⟨_, List.getElem?_eq_getElem hlt⟩
      obtain ⟨y, hy⟩ : ∃ y, lb[j]? = some y := ⟨_, List.getElem?_eq_getElem (by have := HLEN.out; omega)⟩
      obtain ⟨ga, oa, ca, he, _, hga, A0, A1, A2, A3⟩ := its_at (ha.keep hK (by simp)) j x hx
      simp only [Value.slice.injEq] at he
      obtain ⟨rfl, _, rfl⟩ := he
      obtain ⟨gb, ob, cb, he, _, hgb, B0, B1, B2, B3⟩ := its_at (hb.keep hK (by simp)) j y hy
      simp only [Value.slice.injEq] at he
      obtain ⟨rfl, hz, rfl⟩ := he
      clear hz
      have heq := itEq_iff x y
      have hx1 : la.take (j + 1) = la.take j ++ [x] := by rw [List.take_add_one, hx]; rfl
      have hy1 : lb.take (j + 1) = lb.take j ++ [y] := by rw [List.take_add_one, hy]; rfl
      have HX := Lib.hid hx
      have HY := Lib.hid hy
      have HEQ := Lib.hid heq
      have HX1 := Lib.hid hx1
      have HY1 := Lib.hid hy1
      clear hx hy heq hx1 hy1
      obtain ⟨k, v, n, g⟩ := x
      obtain ⟨k', v', n', g'⟩ := y
      simp only at A0 A1 A2 A3 B0 B1 B2 B3 HEQ
      go_wp2_with fail
      refine wp_region_inv (eqJ (some ⟨ga, oa, none⟩) (some ⟨gb, ob, none⟩) la.length c1 la.length c2 j ga oa gb ob k v n g k' v' n' g' wr) (by kernel_rfl) (by kernel_rfl) (by kernel_rfl) ?_ (Steps.cons 0 ?_ (Steps.cons 1 ?_ (Steps.cons 2 ?_ (Steps.cons 3 ?_ (Steps.cons 4 ?_ (Steps.cons 5 ?_ (Steps.cons 6 ?_ (Steps.cons 7 ?_ (Steps.cons 8 ?_ (Steps.cons 9 ?_ (Steps.nil 10))))))))))) 10 rfl ?_
      · intro x
        exact ⟨(Keep.refl _ _).drew, fun h => absurd h (by decide), fun h => absurd h (by decide), fun h => absurd h (by decide), fun h => absurd h (by decide), fun h => absurd h (by decide), fun h => absurd h (by decide), fun h => absurd h (by decide), fun h => absurd h (by decide), fun h => absurd h (by decide), fun h => absurd h (by decide)⟩
      · intro l x w' hJ hi hd
        obtain ⟨hK, h0, h1, h2, h3, h4, h5, h6, h7, h8, h9⟩ := hJ
        refine Runs.of (b := ?b0) ?e0 ?_
        case e0 => simp only [putV, Act.put, List.setIfInBounds_toArray, List.set_cons_zero, List.set_cons_succ]; rfl
        intro K' hK'
        go_simp
        exact hK'.go _ rfl ⟨hK, fun _ => rfl, h1, h2, h3, h4, h5, h6, h7, h8, h9⟩
      · intro l x w' hJ hi hd
        obtain ⟨hK, h0, h1, h2, h3, h4, h5, h6, h7, h8, h9⟩ := hJ
        refine Runs.of (b := ?b1) ?e1 ?_
        case e1 => simp only [putV, Act.put, List.setIfInBounds_toArray, List.set_cons_zero, List.set_cons_succ]; rfl
        intro K' hK'
        go_simp
        exact hK'.go _ rfl ⟨hK, h0, fun _ => rfl, h2, h3, h4, h5, h6, h7, h8, h9⟩
      · intro l x w' hJ hi hd
        obtain ⟨hK, h0, h1, h2, h3, h4, h5, h6, h7, h8, h9⟩ := hJ
        have e0 := h0 (show l 0 = true by first | exact hd.1 rfl | exact hd.2.1 rfl | exact hd.2.2.1 rfl | exact hd.2.2.2.1 rfl | exact hd.2.2.2.2.1 rfl | exact hd.2.2.2.2.2.1 rfl)
        have e1 := h1 (show l 1 = true by first | exact hd.1 rfl | exact hd.2.1 rfl | exact hd.2.2.1 rfl | exact hd.2.2.2.1 rfl | exact hd.2.2.2.2.1 rfl | exact hd.2.2.2.2.2.1 rfl)
        refine Runs.of (b := ?b2) ?e2 ?_
        case e2 => simp only [putV, Act.put, List.setIfInBounds_toArray, List.set_cons_zero, List.set_cons_succ, e0, e1]; rfl
        intro K' hK'
        go_simp
        exact hK'.go _ rfl ⟨hK, h0, h1, fun _ => rfl, h3, h4, h5, h6, h7, h8, h9⟩
      · intro l x w' hJ hi hd
        obtain ⟨hK, h0, h1, h2, h3, h4, h5, h6, h7, h8, h9⟩ := hJ
        have e2 := h2 (show l 2 = true by first | exact hd.1 rfl | exact hd.2.1 rfl | exact hd.2.2.1 rfl | exact hd.2.2.2.1 rfl | exact hd.2.2.2.2.1 rfl | exact hd.2.2.2.2.2.1 rfl)
        have c0 := (hK.cell (p := ⟨ga, oa + j * 4, none⟩) hga (by simp)).trans A0
        have c1 := (hK.cell (p := ⟨ga, oa + j * 4 + 1, none⟩) hga (by simp)).trans A1
        have c2 := (hK.cell (p := ⟨ga, oa + j * 4 + 2, none⟩) hga (by simp)).trans A2
        have c3 := (hK.cell (p := ⟨ga, oa + j * 4 + 3, none⟩) hga (by simp)).trans A3
        refine Runs.of (b := ?b3) ?e3 ?_
        case e3 => simp only [putV, Act.put, List.setIfInBounds_toArray, List.set_cons_zero, List.set_cons_succ, e2]; rfl
        intro K' hK'
        go_simp
        exact hK'.go _ rfl ⟨hK, h0, h1, h2, fun _ => rfl, h4, h5, h6, h7, h8, h9⟩
      · intro l x w' hJ hi hd
        obtain ⟨hK, h0, h1, h2, h3, h4, h5, h6, h7, h8, h9⟩ := hJ
        refine Runs.of (b := ?b4) ?e4 ?_
        case e4 => simp only [putV, Act.put, List.setIfInBounds_toArray, List.set_cons_zero, List.set_cons_succ]; rfl
        intro K' hK'
        go_simp
        exact hK'.go _ rfl ⟨hK, h0, h1, h2, h3, fun _ => rfl, h5, h6, h7, h8, h9⟩
      · intro l x w' hJ hi hd
        obtain ⟨hK, h0, h1, h2, h3, h4, h5, h6, h7, h8, h9⟩ := hJ
        refine Runs.of (b := ?b5) ?e5 ?_
        case e5 => simp only [putV, Act.put, List.setIfInBounds_toArray, List.set_cons_zero, List.set_cons_succ]; rfl
        intro K' hK'
        go_simp
        exact hK'.go _ rfl ⟨hK, h0, h1, h2, h3, h4, fun _ => rfl, h6, h7, h8, h9⟩
      · intro l x w' hJ hi hd
        obtain ⟨hK, h0, h1, h2, h3, h4, h5, h6, h7, h8, h9⟩ := hJ
        have e4 := h4 (show l 4 = true by first | exact hd.1 rfl | exact hd.2.1 rfl | exact hd.2.2.1 rfl | exact hd.2.2.2.1 rfl | exact hd.2.2.2.2.1 rfl | exact hd.2.2.2.2.2.1 rfl)
        have e5 := h5 (show l 5 = true by first | exact hd.1 rfl | exact hd.2.1 rfl | exact hd.2.2.1 rfl | exact hd.2.2.2.1 rfl | exact hd.2.2.2.2.1 rfl | exact hd.2.2.2.2.2.1 rfl)
        refine Runs.of (b := ?b6) ?e6 ?_
        case e6 => simp only [putV, Act.put, List.setIfInBounds_toArray, List.set_cons_zero, List.set_cons_succ, e4, e5]; rfl
        intro K' hK'
        go_simp
        exact hK'.go _ rfl ⟨hK, h0, h1, h2, h3, h4, h5, fun _ => rfl, h7, h8, h9⟩
      · intro l x w' hJ hi hd
        obtain ⟨hK, h0, h1, h2, h3, h4, h5, h6, h7, h8, h9⟩ := hJ
        have e6 := h6 (show l 6 = true by first | exact hd.1 rfl | exact hd.2.1 rfl | exact hd.2.2.1 rfl | exact hd.2.2.2.1 rfl | exact hd.2.2.2.2.1 rfl | exact hd.2.2.2.2.2.1 rfl)
        have c0 := (hK.cell (p := ⟨gb, ob + j * 4, none⟩) hgb (by simp)).trans B0
        have c1 := (hK.cell (p := ⟨gb, ob + j * 4 + 1, none⟩) hgb (by simp)).trans B1
        have c2 := (hK.cell (p := ⟨gb, ob + j * 4 + 2, none⟩) hgb (by simp)).trans B2
        have c3 := (hK.cell (p := ⟨gb, ob + j * 4 + 3, none⟩) hgb (by simp)).trans B3
        refine Runs.of (b := ?b7) ?e7 ?_
        case e7 => simp only [putV, Act.put, List.setIfInBounds_toArray, List.set_cons_zero, List.set_cons_succ, e6]; rfl
        intro K' hK'
        go_simp
        exact hK'.go _ rfl ⟨hK, h0, h1, h2, h3, h4, h5, h6, fun _ => rfl, h8, h9⟩
      · intro l x w' hJ hi hd
        obtain ⟨hK, h0, h1, h2, h3, h4, h5, h6, h7, h8, h9⟩ := hJ
        have e3 := h3 (show l 3 = true by first | exact hd.1 rfl | exact hd.2.1 rfl | exact hd.2.2.1 rfl | exact hd.2.2.2.1 rfl | exact hd.2.2.2.2.1 rfl | exact hd.2.2.2.2.2.1 rfl)
        have e7 := h7 (show l 7 = true by first | exact hd.1 rfl | exact hd.2.1 rfl | exact hd.2.2.1 rfl | exact hd.2.2.2.1 rfl | exact hd.2.2.2.2.1 rfl | exact hd.2.2.2.2.2.1 rfl)
        refine Runs.of (b := ?b8) ?e8 ?_
        case e8 => simp only [putV, Act.put, List.setIfInBounds_toArray, List.set_cons_zero, List.set_cons_succ, e3, e7]; rfl
        intro K' hK'
        go_simp
        refine (EqItem_any k v n g k' v' n' g' _ rfl).mono ?_
        rintro e w2 ⟨rfl, k2⟩
        replace hK := hK.trans k2
        go_simp
        exact hK'.go _ rfl ⟨hK, h0, h1, h2, h3, h4, h5, h6, h7, fun _ => rfl, h9⟩
      · intro l x w' hJ hi hd
        obtain ⟨hK, h0, h1, h2, h3, h4, h5, h6, h7, h8, h9⟩ := hJ
        have e8 := h8 (show l 8 = true by first | exact hd.1 rfl | exact hd.2.1 rfl | exact hd.2.2.1 rfl | exact hd.2.2.2.1 rfl | exact hd.2.2.2.2.1 rfl | exact hd.2.2.2.2.2.1 rfl)
        refine Runs.of (b := ?b9) ?e9 ?_
        case e9 => simp only [putV, Act.put, List.setIfInBounds_toArray, List.set_cons_zero, List.set_cons_succ, e8]; rfl
        intro K' hK'
        go_simp
        exact hK'.go _ rfl ⟨hK, h0, h1, h2, h3, h4, h5, h6, h7, h8, fun _ => rfl⟩
      · intro l x w3 hJ hl
        obtain ⟨hK3, h0, h1, h2, h3, h4, h5, h6, h7, h8, h9⟩ := hJ
        have e9 := h9 (hl 9 (by decide))
        simp only [putV, Act.put, List.setIfInBounds_toArray, List.set_cons_zero, List.set_cons_succ, e9]
        clear h0 h1 h2 h3 h4 h5 h6 h7 h8 h9 e9 hl A0 A1 A2 A3 B0 B1 B2 B3
        have hK' := hK.trans hK3
        clear hK hK3
        have hq := HEQ.out
        generalize itEq k v n g k' v' n' g' = q at *
        by_cases hxy : ((k, v, n, g) : It) = (k', v', n', g')
        · obtain rfl : q = true := by rw [hq]; exact decide_eq_true hxy
          have HXY := Lib.hid hxy
          clear hq hxy HEQ
          go_wp2_with fail
          go_roundw
          case rel => exact ⟨j + 1, by omega, by go_num, by rw [HX1.out, HY1.out, HTK.out, HXY.out], hK'⟩
          case measure => simp [intOf]; omega
        · obtain rfl : q = false := by rw [hq]; exact decide_eq_false hxy
          have HN : r = false := by
            rw [HR.out]
            refine decide_eq_false (fun e => hxy ?_)
            have h1 := HX.out
            rw [e, HY.out] at h1
            exact (Option.some.inj h1).symm
          clear hq hxy HEQ
          go_wp2_with fail
          go_ret
          exact ⟨by rw [HN]; rfl, hK'⟩
    · obtain rfl : j = la.length := by omega
      have HT : r = true := by
        rw [HR.out]
        refine decide_eq_true ?_
        have := HTK.out
        rw [List.take_of_length_le (Nat.le_refl _), HLEN.out, List.take_of_length_le (Nat.le_refl _)] at this
        exact this
      go_wp2_with fail
      go_ret
      exact ⟨by rw [HT]; rfl, hK⟩
end Go.Proofs.Ytonghelcfbjknaa
