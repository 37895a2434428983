/- Package msg: nodes, four. -/
import Derived.Test.YtonghelcfbjknaaMsgMay2
namespace Go.Proofs.Ytonghelcfbjknaa
open Go.ChangeShapes Go.WideShapes Go.ChangeAt Go.RowKit
set_option linter.unusedVariables false
set_option linter.unusedSimpArgs false

theorem Rv.lo {w : World} {sz : Nat} {v : Value} {n : Nat} {vs : List Value} (h : Rv w sz v n vs) : ∀ b, v.ownBlock = some b → 0 < vs.length → b < w.heap.size := by
  intro b hb hl
  obtain ⟨_, a, cap, rfl, _, hh⟩ := h
  obtain ⟨sb, so, rfl, hs, _⟩ := hh hl
  cases hb; exact hs
theorem Rv.keep0 {w w' : World} {sz : Nat} {v : Value} {n : Nat} {vs : List Value} {S : List Nat} (h : Rv w sz v n vs) (k : Keep S w w') (hS : ∀ b, v.ownBlock = some b → 0 < vs.length → b ∉ S) : Rv w' sz v n vs := by
  obtain ⟨h1, a, cap, rfl, hc, hh⟩ := h
  refine ⟨h1, a, cap, rfl, hc, fun hl => ?_⟩
  obtain ⟨sb, so, rfl, hs, hat⟩ := hh hl
  refine ⟨sb, so, rfl, Nat.lt_of_lt_of_le hs k.size, fun i hi => ?_⟩
  rw [k.cell hs (hS sb rfl hl)]
  exact hat i hi
theorem putAll_snoc2 (l : List Int) (n : Int) : putAll (l ++ [n]) = putAll l ++ putAll [n] := by simp [putAll]
set_option maxRecDepth 100000 in
set_option maxHeartbeats 4000000 in
theorem nodes_any {w : World} (base : Nat) (v : Value) (l : List Nat) (nv : Value) (zs : List Int) (hb : Buf w base 5 v l) (hz : Rv w 1 nv zs.length (ints zs)) (hsep : 0 < zs.length → ∀ b, nv.ownBlock = some b → v.ownBlock ≠ some b)
    (hr : ∀ n ∈ zs, I64 n) (hl : l.length + 10 * zs.length + 10 ≤ 1099511627776) (hn : zs.length ≤ 1000000) (hbase : base ≤ w.heap.size) :
    Calls Try.prog 46 #[v, nv] w fun e w' => ∃ v', e = .returned v' ∧ Onto w base 5 v (l ++ putNodes zs) v' w' := by
  obtain ⟨_, na, ncap, rfl, _, _⟩ := id hz
  obtain ⟨va, vcap, rfl⟩ := hb.slice
  have hlo := hz.lo
  rw [ints_len] at hlo
  go_enter Try.func46, Try.ntmps46
  go_wp2_with fail
  have hrow : Rv (w.alloc (.cells #[.int .i64 (zs.length : Int)] 2)) 1 (.slice (some ⟨w.heap.size, 0, none⟩) 1 1) [(zs.length : Int)].length (ints [(zs.length : Int)]) := Rv.new w (ints [(zs.length : Int)]) 2 1 1 1 rfl (by omega) _ rfl
  refine (Put_any base _ l _ [(zs.length : Int)] (hb.alloc _) hrow (fun _ b hb1 hb2 => by
    have := hb.lt b hb2
    have : w.heap.size = b := by simpa [Value.ownBlock] using hb1
    omega) (by intro n hn'; simp at hn'; subst hn'; unfold I64; omega) (by simp; omega) (by simp; omega)).mono ?_
  rintro e w1 ⟨v1, rfl, hO1⟩
  have hO2 := Onto.trans ((Onto.refl hb).alloc _) hO1
  obtain ⟨L1, hL1⟩ : ∃ L, L = l ++ putAll [(zs.length : Int)] := ⟨_, rfl⟩
  rw [← hL1] at hO2
  have HL1 := Lib.hid hL1
  clear hO1 hrow hL1
  obtain ⟨a1, c1, rfl⟩ := hO2.buf.slice
  go_wp2_with fail
  go_loopw [0, 14] (fun bv i wr => ∃ (j : Nat) (L : List Nat), i = .int .i64 j ∧ j ≤ zs.length ∧ Hid (L = l ++ putAll ((zs.length : Int) :: zs.take j)) ∧ Onto w base 5 (.slice va l.length vcap) L bv wr) (fun _ i _ => zs.length - (intOf i).toNat)
  case atStart => exact ⟨0, L1, rfl, by omega, HL1, hO2⟩
  case round =>
    clear hO2 HL1
    obtain ⟨j, L, rfl, hj, HLL, hO⟩ := hrel
    obtain ⟨ba, bcap, rfl⟩ := hO.buf.slice
    have hlen : L.length ≤ l.length + 10 * (j + 1) := by
      have := putAll_len ((zs.length : Int) :: zs.take j) (by
        intro n hn'
        rcases List.mem_cons.1 hn' with rfl | hn'
        · unfold I64; omega
        · exact hr n (List.mem_of_mem_take hn'))
      rw [HLL.out, List.length_append]
      simp only [List.length_cons, List.length_take] at this
      omega
    by_cases hlt : j < zs.length
    · have q0 : (j : Int) < zs.length := by omega
      have hz1 := hz.keep0 hO.keep (fun b hb1 hl1 hm => by
        rw [ints_len] at hl1
        exact hsep hl1 b hb1 (Option.mem_toList.1 hm))
      obtain ⟨sb, so, c', he, _, _, hat⟩ := hz1.at1 (by omega)
      simp only [Value.slice.injEq] at he
      obtain ⟨rfl, _, rfl⟩ := he
      have hcell := hat j hlt
      rw [ints_at _ _ hlt] at hcell
      have hx : I64 (zs.getD j 0) := hr _ (by rw [List.getD_eq_getElem?_getD, List.getElem?_eq_getElem hlt]; exact List.getElem_mem hlt)
      have htk : zs.take (j + 1) = zs.take j ++ [zs.getD j 0] := by rw [take_succ_getD zs 0 j hlt]
      have HT := Lib.hid htk
      have HX := Lib.hid hx
      clear htk hat hx
      generalize zs.getD j 0 = x at *
      have hOl := hO.buf
      go_wp2_with fail
      have hrow : Rv (wr.alloc (.cells #[.int .i64 x] 2)) 1 (.slice (some ⟨wr.heap.size, 0, none⟩) 1 1) [x].length (ints [x]) := Rv.new wr (ints [x]) 2 1 1 1 rfl (by omega) _ rfl
      refine (Put_any base _ L _ [x] (hOl.alloc _) hrow (fun _ b hb1 hb2 => by
        have := hOl.lt b hb2
        have : wr.heap.size = b := by simpa [Value.ownBlock] using hb1
        omega) (by intro n hn'; simp at hn'; subst hn'; exact HX.out) (by simp only [List.length_cons, List.length_nil]; omega) (by have := hO.keep.size; simp; omega)).mono ?_
      rintro e w2 ⟨v2, rfl, hO2⟩
      have hO3 := Onto.trans (hO.alloc _) hO2
      obtain ⟨L2, hL2⟩ : ∃ L2, L2 = L ++ putAll [x] := ⟨_, rfl⟩
      rw [← hL2] at hO3
      have HL2 : Hid (L2 = l ++ putAll ((zs.length : Int) :: zs.take (j + 1))) := Lib.hid (by
        rw [HT.out, ← List.cons_append, putAll_snoc2, ← List.append_assoc, ← HLL.out]; exact hL2)
      clear hL2 hO2
      obtain ⟨a2, c2, rfl⟩ := hO3.buf.slice
      go_wp2_with fail
      go_roundw
      case rel => exact ⟨j + 1, L2, by go_num, by omega, HL2, hO3⟩
      case measure => simp [intOf]; omega
    · obtain rfl : j = zs.length := by omega
      go_wp2_with fail
      go_ret
      refine ⟨_, rfl, ?_⟩
      have hLL := HLL.out
      rw [List.take_of_length_le (Nat.le_refl _)] at hLL
      unfold putNodes
      rw [← hLL]
      exact hO
theorem wrap8 (n : Nat) : IntKind.u8.wrap ((n : Nat) : Int) = ((n % 256 : Nat) : Int) := by rw [IntKind.wrap_u8]; omega
theorem four_any {w : World} (n : Nat) (hn : n < 4294967296) :
    Calls Try.prog 30 #[.int .u32 n] w fun e w' => e = .returned (.slice (some ⟨w.heap.size, 0, none⟩) 4 4) ∧ w' = w.alloc (.cells (bcs (four n)).toArray 5) := by
  go_enter Try.func30, Try.ntmps30
  go_wp2_with fail
  go_ret
  refine ⟨rfl, ?_⟩
  have e1 : (n : Int) / 16777216 = ((n / 16777216 % 256 : Nat) : Int) := by omega
  have e2 : (n : Int) / 65536 % 256 = ((n / 65536 % 256 : Nat) : Int) := by omega
  have e3 : (n : Int) / 256 % 256 = ((n / 256 % 256 : Nat) : Int) := by omega
  have e4 : (n : Int) % 256 = ((n % 256 : Nat) : Int) := by omega
  rw [e1, e2, e3, e4]
  rfl
end Go.Proofs.Ytonghelcfbjknaa
