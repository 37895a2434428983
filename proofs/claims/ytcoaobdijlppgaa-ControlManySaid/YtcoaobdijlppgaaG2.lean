/- NumGet, Str, NumText, RefPut, Item, RegInv, Item2 -/
import Derived.Test.YtcoaobdijlppgaaG1
import Derived.Lib.BufferRead
import Derived.Laws.Closers25b
import Derived.Deep.RegionWith
import Derived.RegionTactic
/- The contracts of num.Get and num.GetText. -/
namespace Go.Proofs.Ytcoaobdijlppgaa
open Go.ChangeShapes Go.WideShapes Go.ChangeAt Go.RowKit
set_option linter.unusedVariables false
set_option linter.unusedSimpArgs false
set_option maxRecDepth 100000

theorem or_step (U c k : Nat) (hU : U < 128 ^ k) (hk : U + c % 128 * 128 ^ k < 18446744073709551616) :
    bits .or .u64 (U : Int) (IntKind.u64.wrap ((c : Int) % 128 * 2 ^ (7 * k))) = ((U + c % 128 * 128 ^ k : Nat) : Int) := by
  have e1 : (2 : Nat) ^ (7 * k) = 128 ^ k := by rw [Nat.pow_mul]
  have e2 : ((c : Int) % 128 * 2 ^ (7 * k)) = ((c % 128 * 128 ^ k : Nat) : Int) := by
    rw [← e1]; simp [Int.natCast_mul, Int.natCast_pow]
  have e3 : IntKind.u64.wrap ((c % 128 * 128 ^ k : Nat) : Int) = ((c % 128 * 128 ^ k : Nat) : Int) := by
    rw [IntKind.wrap_u64]; omega
  rw [e2, e3, bits_or_u64_nat _ _ (by omega) (by omega)]
  congr 1
  rw [← e1]
  exact or_disjoint U (c % 128) (7 * k) (by rw [e1]; exact hU)
theorem pow128_le (k : Nat) (hk : k ≤ 8) (c : Nat) : c % 128 * 128 ^ k + 128 ^ k ≤ 18446744073709551615 := by
  have hp : (128 : Nat) ^ k ≤ 128 ^ 8 := Nat.pow_le_pow_right (by decide) hk
  have e8 : (128 : Nat) ^ 8 = 72057594037927936 := rfl
  rw [e8] at hp
  have : c % 128 * 128 ^ k ≤ 127 * 128 ^ k := Nat.mul_le_mul_right _ (by omega)
  omega
theorem pow128_9 (c : Nat) (hc : c ≤ 1) : c % 128 * 128 ^ 9 + 128 ^ 9 ≤ 18446744073709551616 := by
  have h : c = 0 ∨ c = 1 := by omega
  rcases h with rfl | rfl <;> decide +kernel

def GotN (w : World) (r : Int × Nat × Nat) (e : Ending) (w' : World) : Prop := e = .returned (.tuple #[.int .i64 r.1, .int .i64 (r.2.1 : Int), .int .i64 (r.2.2 : Int)]) ∧ w = w'

theorem got_eq {w : World} {r : Int × Nat × Nat} {a b k : Int} (h : a = b) (h1 : GotN w r (.returned (.tuple #[.int .i64 b, .int .i64 k, .int .i64 0])) w) : GotN w r (.returned (.tuple #[.int .i64 a, .int .i64 k, .int .i64 0])) w := by rw [h]; exact h1
set_option maxHeartbeats 2000000 in
theorem Get_any {w : World} (v : Value) (l : List Nat) (h : Rd w v l) (hb : ∀ c ∈ l, c < 256) (hl : l.length ≤ 9223372036854775807) (r : Int × Nat × Nat) (hr : r = get l) :
    Calls Try.prog 60 #[v] w (GotN w r) := by
  have h2 := h
  obtain ⟨_, a, cap, rfl, _, _⟩ := h
  have HR := Lib.hid hr
  clear hr
  go_enter Try.func60, Try.ntmps60
  go_wp2_with fail
  go_loop [5, 11] (fun u i => ∃ (k U : Nat), k ≤ l.length ∧ k ≤ 9 ∧ i = .int .i64 k ∧ u = .int .u64 U ∧ U < 128 ^ k ∧ get l = getGo (l.drop k) k U) (fun _ i => l.length - (intOf i).toNat)
  case atStart => exact ⟨0, 0, by omega, by omega, rfl, rfl, by simp, by simp [get]⟩
  case round =>
    obtain ⟨k, U, hk, hk9, rfl, rfl, hU, hE⟩ := hrel
    by_cases hlt : k < l.length
    · obtain ⟨sb0, so, cap3, he, _, hsb, hat⟩ := h2.at1 (by omega)
      simp only [Value.slice.injEq] at he
      obtain ⟨rfl, _, rfl⟩ := he
      have g4 := hat k hlt
      rw [bcs_at l k hlt] at g4
      have hc : l.getD k 0 < 256 := hb _ (by simp [List.getD_eq_getElem?_getD, hlt])
      have hd : l.drop k = l.getD k 0 :: l.drop (k + 1) := by rw [List.drop_eq_getElem_cons hlt]; simp [List.getD_eq_getElem?_getD, hlt]
      rw [hd] at hE
      have HE := Lib.hid hE
      have HU := Lib.hid hU
      clear hE hd hat h2 hb hU
      generalize l.getD k 0 = c at *
      unfold bc at g4
      have q0 : (k : Int) < l.length := by omega
      have ha := and8 c hc
      have hcase : (k = 9 ∧ 1 < c) ∨ (¬ (k = 9 ∧ 1 < c) ∧ 127 < c) ∨ (¬ (k = 9 ∧ 1 < c) ∧ c ≤ 127 ∧ 0 < k ∧ c = 0) ∨ (¬ (k = 9 ∧ 1 < c) ∧ c ≤ 127 ∧ ¬ (0 < k ∧ c = 0)) := by omega
      rcases hcase with ⟨rfl, h1⟩ | ⟨h9, h1⟩ | ⟨h9, h1, h3, h4⟩ | ⟨h9, h1, h3⟩
      · have q1 : (1 : Int) < c := by omega
        go_wp2_with fail
        go_ret3
        refine ⟨?_, rfl⟩
        rw [HR.out, HE.out]
        simp [getGo, h1]
      · have q1 : (127 : Int) < c := by omega
        have hk8 : k < 9 := by omega
        have q2 : ((k : Int) == 9) = false := by simp; omega
        go_wp2_with fail
        go_round
        case rel =>
          have hp := pow128_le k (by omega) c
          have hU := HU.out
          refine ⟨k + 1, U + c % 128 * 128 ^ k, by omega, by omega, by go_num, by rw [or_step U c k hU (by omega)], ?_, ?_⟩
          · rw [Nat.pow_succ]
            have : c % 128 * 128 ^ k ≤ 127 * 128 ^ k := Nat.mul_le_mul_right _ (by omega)
            omega
          · rw [HE.out]
            simp only [getGo, h9, if_false, h1, if_true]
        case measure => simp [intOf]; omega
      · have q5 : ((c : Int) == 0) = true := by simpa using h4
        have q3 : (0 : Int) < k := by omega
        have q6 : ¬ ((1 : Int) < c) := by omega
        have H4 := Lib.hid h4
        clear h4
        by_cases h99 : k = 9
        all_goals
          first
          | (have q2 : ((k : Int) == 9) = true := by simp; omega)
          | (have q2 : ((k : Int) == 9) = false := by simp; omega)
          have H99 := Lib.hid h99
          clear h99
          go_wp2_with fail
          go_ret3
          refine ⟨?_, rfl⟩
          rw [HR.out, HE.out]
          simp only [getGo, h9, if_false]
          rw [if_neg (by omega), if_pos ⟨h3, H4.out⟩]
          rfl
      · obtain ⟨U', hU'⟩ : ∃ U' : Nat, U' = U + c * 128 ^ k := ⟨_, rfl⟩
        have hlt64 : U' < 18446744073709551616 := by
          have hU := HU.out
          by_cases h99 : k = 9
          · subst h99
            have := pow128_9 c (by omega)
            rw [show c % 128 = c by omega] at this
            omega
          · have := pow128_le k (by omega) c
            rw [show c % 128 = c by omega] at this
            omega
        have hor := or_step U c k HU.out (by rw [show c % 128 = c by omega, ← hU']; exact hlt64)
        rw [show c % 128 = c by omega, ← hU'] at hor
        have HU' := Lib.hid hU'
        clear hU'
        have q6 : ¬ ((127 : Int) < c) := by omega
        have hfin : GotN w r (.returned (.tuple #[.int .i64 (unzz U'), .int .i64 ((k : Int) + 1), .int .i64 0])) w := by
          refine ⟨?_, rfl⟩
          rw [HR.out, HE.out]
          simp only [getGo, h9, if_false]
          rw [if_neg (by omega), if_neg h3, ← HU'.out]
          rfl
        have HF := Lib.hid hfin
        clear hfin
        have hand : bits .and .u64 (U' : Int) 1 = ((U' % 2 : Nat) : Int) := by
          rw [show (1 : Int) = ((1 : Nat) : Int) from rfl, bits_and_u64_nat _ _ hlt64 (by omega), Nat.and_one_is_mod]
        have hnot := not_i64 (U' / 2) (by omega)
        have hd2 : ((U' / 2 : Nat) : Int) = (U' : Int) / 2 := by omega
        rw [hd2] at hnot
        have hm2 : ((U' % 2 : Nat) : Int) = (U' : Int) % 2 := by omega
        rw [hm2] at hand
        clear hd2 hm2
        have hpar : ((U' : Int) % 2 == 1) = true ∨ ((U' : Int) % 2 == 1) = false := by
          cases ((U' : Int) % 2 == 1) <;> simp
        have hk3 : (((k : Int) == 9) = true ∧ decide (0 < k) = true ∧ ((c : Int) == 0) = false ∧ ¬ ((1 : Int) < c)) ∨ (((k : Int) == 9) = false ∧ decide (0 < k) = true ∧ ((c : Int) == 0) = false) ∨ (((k : Int) == 9) = false ∧ decide (0 < k) = false) := by
          simp; omega
        have H3 := Lib.hid h3
        have H9 := Lib.hid h9
        clear h3 h9
        rcases hk3 with ⟨a1, a2, a3, a4⟩ | ⟨a1, a2, a3⟩ | ⟨a1, a2⟩
        all_goals
          rcases hpar with hp | hp
          all_goals
            go_wp2_with fail
            go_ret3
            have hF := HF.out
            unfold unzz at hF
            simp only [beq_iff_eq, beq_eq_false_iff_ne] at hp
            first
            | (have hp' : U' % 2 = 1 := by omega
               rw [if_pos hp'] at hF
               refine got_eq ?_ hF
               omega)
            | (have hp' : ¬ U' % 2 = 1 := by omega
               rw [if_neg hp'] at hF
               refine got_eq ?_ hF
               omega)
    · go_wp2_with fail
      go_ret3
      obtain rfl : k = l.length := by omega
      refine ⟨?_, rfl⟩
      rw [HR.out, hE, List.drop_length]
      simp [getGo]
end Go.Proofs.Ytcoaobdijlppgaa
/- Bytes as a text: the conversion of a slice of bytes that can be read; parts of such a slice. No condition. -/
namespace Go.Proofs.Ytcoaobdijlppgaa
open Go.ChangeShapes Go.WideShapes Go.ChangeAt Go.RowKit
set_option linter.unusedVariables false
set_option linter.unusedSimpArgs false
set_option maxRecDepth 100000

/-- Bytes as a text. -/
def toStr (l : List Nat) : ByteArray := ⟨(l.map UInt8.ofNat).toArray⟩
@[simp] theorem toStr_size (l : List Nat) : (toStr l).size = l.length := by
  show (l.map UInt8.ofNat).toArray.size = _
  simp
theorem toStr_inj {l m : List Nat} (hl : ∀ c ∈ l, c < 256) (hm : ∀ c ∈ m, c < 256) (h : toStr l = toStr m) : l = m := by
  have h1 : l.map UInt8.ofNat = m.map UInt8.ofNat := by
    have := congrArg (fun b : ByteArray => b.data.toList) h
    simpa [toStr] using this
  have h2 := congrArg (List.map UInt8.toNat) h1
  simp only [List.map_map] at h2
  have key : ∀ x : List Nat, (∀ c ∈ x, c < 256) → x.map (UInt8.toNat ∘ UInt8.ofNat) = x := by
    intro x hx
    conv => rhs; rw [← List.map_id x]
    apply List.map_congr_left
    intro c hc
    simp [Nat.mod_eq_of_lt (hx c hc)]
  rwa [key l hl, key m hm] at h2

/-- A part of a slice that can be read. -/
theorem Rv.sub {w : World} {n : Nat} {vs : List Value} {sb so cap : Nat} (h : Rv w 1 (.slice (some ⟨sb, so, none⟩) n cap) n vs) (k m c : Nat) (hk : k + m ≤ n) (hc : m ≤ c) :
    Rv w 1 (.slice (some ⟨sb, so + k, none⟩) m c) m ((vs.drop k).take m) := by
  obtain ⟨hl, a, cap', he, hcap, h⟩ := h
  simp only [Value.slice.injEq] at he
  obtain ⟨rfl, _, rfl⟩ := he
  refine ⟨by simp [List.length_take, List.length_drop]; omega, _, c, rfl, hc, fun hp => ?_⟩
  have hm : 0 < m := by
    rcases Nat.eq_zero_or_pos m with rfl | h'
    · simp at hp
    · exact h'
  obtain ⟨sb', so', e, hs, hat⟩ := h (by omega)
  simp only [Option.some.injEq, Addr.mk.injEq] at e
  obtain ⟨rfl, rfl, _⟩ := e
  refine ⟨sb, so + k, rfl, hs, fun i hi => ?_⟩
  have hi' : i < m := by simp [List.length_take, List.length_drop] at hi; omega
  rw [Nat.add_assoc, hat (k + i) (by omega), List.getElem?_take, if_pos hi', List.getElem?_drop]
theorem bcs_part (l : List Nat) (k m : Nat) : ((bcs l).drop k).take m = bcs ((l.drop k).take m) := by simp [bcs, List.map_drop, List.map_take]
/-- An empty slice, wherever it leads. -/
theorem Rv.empty (w : World) (sz : Nat) (a : Option Addr) (c : Nat) : Rv w sz (.slice a 0 c) 0 [] := ⟨by simp, a, c, rfl, by omega, fun h => by simp at h⟩

theorem Rd.str {P : Program} {w : World} {v : Value} {l : List Nat} {src dst e : TypeId} (h : Rd w v l) (hb : ∀ c ∈ l, c < 256) (hs : P.underlying src = some (.slice e)) (he : P.underlying e = some (.int .u8)) (hd : P.underlying dst = some .string) :
    (convert src dst v).run P w = .ok (.string (toStr l)) w := by
  obtain ⟨_, a, cap, rfl, hc, h⟩ := h
  cases a with
  | none =>
    have hl : l = [] := by
      cases l with
      | nil => rfl
      | cons x r => obtain ⟨_, _, h', _⟩ := h (by simp); cases h'
    subst hl
    exact Lib.run_convert_nil_bytes w src dst e cap hs he hd
  | some a =>
    have := run_convert_bytes_back (P := P) w src dst e a cap (l.map UInt8.ofNat) hs he hd (by
      intro j hj
      have hj' : j < l.length := by simpa using hj
      obtain ⟨sb, so, e1, hs, hat⟩ := h (by simpa using (by omega : 0 < l.length))
      simp only [Option.some.injEq] at e1
      subst e1
      have h1 : ((⟨sb, so, none⟩ : Addr).add j) = ⟨sb, so + j, none⟩ := by
        by_cases h0 : j = 0
        · subst h0; simp [Addr.add]
        · simp [Addr.add, h0]
      rw [h1, hat j (by simpa using hj'), bcs_at l j hj']
      have hlt := hb (l[j]) (List.getElem_mem _)
      simp [bc, List.getD_eq_getElem?_getD, hj', Nat.mod_eq_of_lt hlt])
    rw [List.length_map] at this
    exact this

/-! A slice of a slice, its place left open: no case on the capacity. -/
section
variable {P : Program} {w : World}
theorem Rv.cut {v : Value} {n : Nat} {vs : List Value} (h : Rv w 1 v n vs) (lo hi : Nat) (hlo : lo ≤ hi) (hhi : hi ≤ n) :
    ∀ a cap, v = .slice a n cap → Rv w 1 (.slice (if cap = lo then a else a.map (·.add lo)) (hi - lo) (cap - lo)) (hi - lo) ((vs.drop lo).take (hi - lo)) := by
  rintro a cap rfl
  obtain ⟨hl, a', cap', he, hcap, h⟩ := h
  simp only [Value.slice.injEq] at he
  obtain ⟨rfl, _, rfl⟩ := he
  rw [Nat.mul_one] at hl
  refine ⟨by simp [List.length_take, List.length_drop]; omega, _, _, rfl, by omega, fun hp => ?_⟩
  simp only [List.length_take, List.length_drop] at hp
  obtain ⟨sb, so, rfl, hs, hat⟩ := h (by omega)
  have hne : ¬ cap = lo := by omega
  refine ⟨sb, so + lo, ?_, hs, fun i hi' => ?_⟩
  · rw [if_neg hne]
    simp only [Option.map_some, Addr.add]
    by_cases h0 : lo = 0
    · subst h0; simp
    · simp [h0]
  · simp only [List.length_take, List.length_drop] at hi'
    rw [Nat.add_assoc, hat (lo + i) (by omega), List.getElem?_take, if_pos (by omega), List.getElem?_drop]
theorem ownBlock_cut (a : Option Addr) (n cap lo m c : Nat) : (Value.slice (if cap = lo then a else a.map (·.add lo)) m c).ownBlock = (Value.slice a n cap).ownBlock := by
  cases a with
  | none => split <;> rfl
  | some a =>
    split
    · rfl
    · simp only [Option.map_some, Value.ownBlock, Addr.add]
      split <;> rfl

theorem run_cut (t e : TypeId) (i : TypeInfo) (ht : P.underlying t = some (.slice e)) (hi : P.info? e = some i) (hz : i.size = 1) (ad : Option Addr) (n cap l h m : Nat) (hle : l ≤ h) (hn : h ≤ m) (hm : m ≤ cap) (mx : Option Value) (hmx : mx = none ∧ m = cap ∨ mx = some (.int .i64 m)) :
    (Instr.sliceAt t (.slice ad n cap) (some (.int .i64 (l : Int))) (some (.int .i64 (h : Int))) mx).run P w = .ok (.slice (if m = l then ad else ad.map (·.add l)) (h - l) (m - l)) w := by
  have q1 : (0 : Int) ≤ (h : Int) ∧ (h : Int) ≤ (m : Int) := by omega
  have q2 : (0 : Int) ≤ (l : Int) ∧ (l : Int) ≤ (h : Int) := by omega
  have q3 : (0 : Int) ≤ (m : Int) ∧ (m : Int) ≤ (cap : Int) := by omega
  rcases hmx with ⟨rfl, rfl⟩ | rfl <;>
    simp [Instr.sliceAt, run_underlying ht, Instr.slice, Instr.sliceBounds, Instr.sliceBound, asIntOf, q1, q2, q3, hle, hn, hm, sizeOf, typeInfo, hi, hz]
theorem run_cut_lo (t e : TypeId) (i : TypeInfo) (ht : P.underlying t = some (.slice e)) (hi : P.info? e = some i) (hz : i.size = 1) (ad : Option Addr) (n cap l : Nat) (hle : l ≤ n) :
    (Instr.sliceAt t (.slice ad n cap) (some (.int .i64 (l : Int))) none none).run P w = .ok (.slice (if cap = l then ad else ad.map (·.add l)) (n - l) (cap - l)) w := by
  simp [Instr.sliceAt, run_underlying ht, Instr.slice, Instr.sliceBounds, Instr.sliceBound, asIntOf, hle, sizeOf, typeInfo, hi, hz]

theorem wpList_slice_hi {ops : Array Oper} {rest : List Oper} {Q : Exit → Act → World → Prop} {a : Act} (dst : Option Tmp) (t : TypeId) (x y z : Operand) (ty : TypeId) (pos : String) (aft : Array Edge) (e : TypeId) (i : TypeInfo)
    (ht : P.underlying t = some (.slice e)) (hi : P.info? e = some i) (hz : i.size = 1) (v : Value) (n : Nat) (vs : List Value) (lo hi' : Int) (l h : Nat)
    (hx : a.eval x = v) (hy : a.eval y = .int .i64 lo) (hzz : a.eval z = .int .i64 hi') (hlo : lo = l) (hhi : hi' = h) (hr : Rv w 1 v n vs) (hle : l ≤ h) (hn : h ≤ n)
    (H : ∀ v', Rv w 1 v' (h - l) ((vs.drop l).take (h - l)) → v'.ownBlock = v.ownBlock → wpList P ops Q rest (a.put dst v') w) :
    wpList P ops Q (⟨dst, .slice t x (some y) (some z) none, ty, pos, aft, none⟩ :: rest) a w := by
  subst hlo hhi
  refine wpList_plain rfl fun K hK => ?_
  have hr2 := hr
  obtain ⟨_, ad, cap, rfl, hcap, _⟩ := hr2
  unfold Oper.wp execOp
  simp only [Sem.run_bind, Sem.run_pure, Result.andThen_ok, hx, hy, hzz, Option.map_some, Option.map_none, run_cut t e i ht hi hz ad n cap l h cap hle (by omega) (Nat.le_refl _) none (.inl ⟨rfl, rfl⟩)]
  exact hK _ _ (H _ (hr.cut l h hle hn ad cap rfl) (ownBlock_cut ad n cap l _ _))
theorem wpList_slice_lo {ops : Array Oper} {rest : List Oper} {Q : Exit → Act → World → Prop} {a : Act} (dst : Option Tmp) (t : TypeId) (x y : Operand) (ty : TypeId) (pos : String) (aft : Array Edge) (e : TypeId) (i : TypeInfo)
    (ht : P.underlying t = some (.slice e)) (hi : P.info? e = some i) (hz : i.size = 1) (v : Value) (n : Nat) (vs : List Value) (lo : Int) (l : Nat)
    (hx : a.eval x = v) (hy : a.eval y = .int .i64 lo) (hlo : lo = l) (hr : Rv w 1 v n vs) (hn : l ≤ n)
    (H : ∀ v', Rv w 1 v' (n - l) (vs.drop l) → v'.ownBlock = v.ownBlock → wpList P ops Q rest (a.put dst v') w) :
    wpList P ops Q (⟨dst, .slice t x (some y) none none, ty, pos, aft, none⟩ :: rest) a w := by
  subst hlo
  refine wpList_plain rfl fun K hK => ?_
  have hr2 := hr
  obtain ⟨hl, ad, cap, rfl, hcap, _⟩ := hr2
  unfold Oper.wp execOp
  simp only [Sem.run_bind, Sem.run_pure, Result.andThen_ok, hx, hy, Option.map_some, Option.map_none, run_cut_lo t e i ht hi hz ad n cap l hn]
  have hc := hr.cut l n hn (Nat.le_refl _) ad cap rfl
  rw [List.take_of_length_le (by rw [List.length_drop]; omega)] at hc
  exact hK _ _ (H _ hc (ownBlock_cut ad n cap l _ _))
theorem run_cut_hi (t e : TypeId) (i : TypeInfo) (ht : P.underlying t = some (.slice e)) (hi : P.info? e = some i) (hz : i.size = 1) (ad : Option Addr) (n cap h : Nat) (hle : h ≤ cap) :
    (Instr.sliceAt t (.slice ad n cap) none (some (.int .i64 (h : Int))) none).run P w = .ok (.slice (if cap = 0 then ad else ad.map (·.add 0)) (h - 0) (cap - 0)) w := by
  simp [Instr.sliceAt, run_underlying ht, Instr.slice, Instr.sliceBounds, Instr.sliceBound, asIntOf, hle, sizeOf, typeInfo, hi, hz]
theorem wpList_slice_to {ops : Array Oper} {rest : List Oper} {Q : Exit → Act → World → Prop} {a : Act} (dst : Option Tmp) (t : TypeId) (x z : Operand) (ty : TypeId) (pos : String) (aft : Array Edge) (e : TypeId) (i : TypeInfo)
    (ht : P.underlying t = some (.slice e)) (hi : P.info? e = some i) (hz : i.size = 1) (v : Value) (n : Nat) (vs : List Value) (hi' : Int) (h : Nat)
    (hx : a.eval x = v) (hzz : a.eval z = .int .i64 hi') (hhi : hi' = h) (hr : Rv w 1 v n vs) (hn : h ≤ n)
    (H : ∀ v', Rv w 1 v' h (vs.take h) → v'.ownBlock = v.ownBlock → wpList P ops Q rest (a.put dst v') w) :
    wpList P ops Q (⟨dst, .slice t x none (some z) none, ty, pos, aft, none⟩ :: rest) a w := by
  subst hhi
  refine wpList_plain rfl fun K hK => ?_
  have hr2 := hr
  obtain ⟨_, ad, cap, rfl, hcap, _⟩ := hr2
  unfold Oper.wp execOp
  simp only [Sem.run_bind, Sem.run_pure, Result.andThen_ok, hx, hzz, Option.map_some, Option.map_none, run_cut_hi t e i ht hi hz ad n cap h (by omega)]
  have hc := hr.cut 0 h (Nat.zero_le _) hn ad cap rfl
  simp only [Nat.sub_zero, List.drop_zero] at hc
  exact hK _ _ (H _ hc (by have := ownBlock_cut ad n cap 0 h cap; simpa using this))
end
end Go.Proofs.Ytcoaobdijlppgaa
/- The contract of num.GetText. -/
namespace Go.Proofs.Ytcoaobdijlppgaa
open Go.ChangeShapes Go.WideShapes Go.ChangeAt Go.RowKit
set_option linter.unusedVariables false
set_option linter.unusedSimpArgs false
set_option maxRecDepth 100000

/-- A text read off bytes: its bytes, how many there were in all, the error. -/
def getText (l : List Nat) : List Nat × Nat × Nat :=
  if (get l).2.2 ≠ 0 then ([], 0, (get l).2.2) else if (get l).1 < 0 ∨ 65536 < (get l).1 then ([], 0, 1)
  else if ((l.length - (get l).2.1 : Nat) : Int) < (get l).1 then ([], 0, 2) else ((l.drop (get l).2.1).take (get l).1.toNat, (get l).2.1 + (get l).1.toNat, 0)

def GotT (w : World) (r : List Nat × Nat × Nat) (e : Ending) (w' : World) : Prop := e = .returned (.tuple #[.string (toStr r.1), .int .i64 (r.2.1 : Int), .int .i64 (r.2.2 : Int)]) ∧ w = w'

end Go.Proofs.Ytcoaobdijlppgaa
/- The contracts of the reference's Put, PutText, of the laws' Cut; a text off its bytes. -/
namespace Go.Proofs.Ytcoaobdijlppgaa
open Go.ChangeShapes Go.WideShapes Go.ChangeAt Go.RowKit
set_option linter.unusedVariables false
set_option linter.unusedSimpArgs false
set_option maxRecDepth 100000

/-- A text that is not too long. -/
def cutStr (s : ByteArray) (n : Nat) : ByteArray := if n < s.size then s.extract 0 n else s
theorem cutStr_size (s : ByteArray) (n : Nat) : (cutStr s n).size ≤ n := by
  unfold cutStr; split
  · simp; omega
  · omega
theorem toStr_sb (t : ByteArray) : toStr (sb t) = t := by
  unfold toStr sb
  have e : (t.data.toList.map UInt8.toNat).map UInt8.ofNat = t.data.toList := by
    rw [List.map_map]
    conv => rhs; rw [← List.map_id t.data.toList]
    apply List.map_congr_left
    intro c _
    simp
  rw [e]
theorem getText_putText (t : ByteArray) (ht : t.size ≤ 65536) (r : List Nat) : getText (putText t ++ r) = (sb t, (putText t).length, 0) := by
  have hl : (putText t).length = (leb (zz (t.size : Int))).length + t.size := by unfold putText; rw [List.length_append, sb_length]
  unfold getText
  have hg : get (putText t ++ r) = ((t.size : Int), (leb (zz (t.size : Int))).length, 0) := by
    unfold putText
    rw [List.append_assoc]
    exact get_leb _ (by omega) (by omega) _
  rw [hg]
  simp only [ne_eq, not_true_eq_false, if_false]
  rw [if_neg (by omega), if_neg (by rw [List.length_append]; omega)]
  have e : (putText t ++ r).drop (leb (zz (t.size : Int))).length = sb t ++ r := by
    unfold putText
    rw [List.append_assoc, List.drop_append, Nat.sub_self, List.drop_zero, List.drop_of_length_le (Nat.le_refl _), List.nil_append]
  rw [e, Int.toNat_natCast, hl]
  congr 1
  rw [List.take_append_of_le_length (by rw [sb_length]; omega), List.take_of_length_le (by rw [sb_length]; omega)]
end Go.Proofs.Ytcoaobdijlppgaa
/- Entries: which may be, until when they are live, which are the same. -/
namespace Go.Proofs.Ytcoaobdijlppgaa
open Go.ChangeShapes Go.WideShapes Go.ChangeAt Go.RowKit
set_option linter.unusedVariables false
set_option linter.unusedSimpArgs false
set_option maxRecDepth 100000

abbrev itV (k v : ByteArray) (n : Int) (g : Bool) : Value := .agg #[.string k, .string v, .int .i64 n, .bool g]
def itC (k v : ByteArray) (n : Int) (g : Bool) : List Value := [.string k, .string v, .int .i64 n, .bool g]
def itKey (k : ByteArray) : Bool := decide (1 ≤ k.size) && decide (k.size ≤ 40)
def itMay (k v : ByteArray) (n : Int) (g : Bool) : Bool :=
  itKey k && (decide (v.size ≤ 200) && (decide (0 ≤ n) && (decide (n ≤ 1099511627776) && (!g || (decide (v.size = 0) && decide (n = 0))))))
def itLive (k v : ByteArray) (n : Int) (g : Bool) (now : Int) : Bool := itMay k v n g && (!g && (decide (n = 0) || decide (now < n)))
theorem str_none (s : ByteArray) : (s = { data := #[] }) ↔ s.size = 0 := by
  constructor
  · rintro rfl; rfl
  · intro h
    apply ByteArray.ext
    exact Array.eq_empty_of_size_eq_zero h
theorem str_nil {s : ByteArray} : s.toList = [] ↔ s.size = 0 := by
  rw [toList_nil_iff_emptyBytes, ← str_none]
  rfl
theorem tl_inj {s t : ByteArray} (h : s.toList = t.toList) : s = t := by
  rw [ByteArray.toList_eq, ByteArray.toList_eq] at h
  apply ByteArray.ext
  exact Array.toList_inj.1 h
theorem Key_any {w : World} (s : ByteArray) (hs : s.size ≤ 9223372036854775807) (r : Bool) (hr : r = itKey s) : Calls Try.prog 66 #[.string s] w fun e w' => e = .returned (.bool r) ∧ w = w' := by
  have HR := Lib.hid hr
  clear hr
  by_cases h0 : s.size = 0
  · obtain rfl := (str_none s).2 h0
    go_enter Try.func66, Try.ntmps66
    go_wp2_with fail
    go_ret
    exact ⟨by rw [HR.out]; rfl, rfl⟩
  · have e1 : s.toList.isEmpty = false := by
      cases h : s.toList with
      | nil => exact absurd (str_nil.1 h) h0
      | cons _ _ => rfl
    have h1 : decide (1 ≤ s.size) = true := decide_eq_true (by omega)
    go_enter Try.func66, Try.ntmps66
    go_wp2_with fail
    go_ret
    refine ⟨?_, rfl⟩
    have e3 : decide ((s.size : Int) ≤ 40) = decide (s.size ≤ 40) := by apply decide_eq_decide.2; omega
    rw [HR.out]; unfold itKey; rw [h1, Bool.true_and, ← e3]
    rfl
set_option maxHeartbeats 4000000 in
theorem May_any {w : World} (k v : ByteArray) (n : Int) (g : Bool) (hk : k.size ≤ 9223372036854775807) (hv : v.size ≤ 9223372036854775807) (r : Bool) (hr : r = itMay k v n g) :
    Calls Try.prog 52 #[itV k v n g] w fun e w' => e = .returned (.bool r) ∧ Keep [] w w' := by
  have HR := Lib.hid hr
  clear hr
  go_enter Try.func52, Try.ntmps52
  go_wp2_with fail
  refine (Key_any k hk _ rfl).mono ?_
  rintro e w1 ⟨rfl, rfl⟩
  cases hk1 : itKey k
  · go_wp2_with fail
    go_ret
    exact ⟨by rw [HR.out]; unfold itMay; rw [hk1]; rfl, (Keep.refl _ _).alloc _⟩
  by_cases h1 : v.size ≤ 200
  case neg =>
    have q1 : decide ((200 : Int) < v.size) = true := decide_eq_true (by omega)
    go_wp2_with fail
    go_ret
    exact ⟨by rw [HR.out]; unfold itMay; rw [decide_eq_false (show ¬ v.size ≤ 200 by omega)]; simp, (Keep.refl _ _).alloc _⟩
  have q1 : decide ((200 : Int) < v.size) = false := decide_eq_false (by omega)
  by_cases h2 : 0 ≤ n
  case neg =>
    have q2 : decide (n < 0) = true := decide_eq_true (by omega)
    go_wp2_with fail
    go_ret
    exact ⟨by rw [HR.out]; unfold itMay; rw [decide_eq_false (show ¬ 0 ≤ n by omega)]; simp, (Keep.refl _ _).alloc _⟩
  have q2 : decide (n < 0) = false := decide_eq_false (by omega)
  by_cases h3 : n ≤ 1099511627776
  case neg =>
    have q3 : decide (1099511627776 < n) = true := decide_eq_true (by omega)
    go_wp2_with fail
    go_ret
    exact ⟨by rw [HR.out]; unfold itMay; rw [decide_eq_false (show ¬ n ≤ 1099511627776 by omega)]; simp, (Keep.refl _ _).alloc _⟩
  have q3 : decide (1099511627776 < n) = false := decide_eq_false (by omega)
  have HR2 : r = (!g || (decide (v.size = 0) && decide (n = 0))) := by
    rw [HR.out]; unfold itMay; rw [hk1, decide_eq_true h1, decide_eq_true h2, decide_eq_true h3]; simp
  have HR2 := Lib.hid HR2
  cases g
  · go_wp2_with fail
    go_ret
    exact ⟨by rw [HR2.out]; rfl, (Keep.refl _ _).alloc _⟩
  by_cases h4 : v.size = 0
  case neg =>
    have q4 : ¬ v.toList = [] := fun e => h4 (str_nil.1 e)
    go_wp2_with fail
    go_ret
    exact ⟨by rw [HR2.out]; simp [h4], (Keep.refl _ _).alloc _⟩
  obtain rfl := (str_none v).2 h4
  by_cases h5 : n = 0
  · subst h5
    go_wp2_with fail
    go_ret
    exact ⟨by rw [HR2.out]; rfl, (Keep.refl _ _).alloc _⟩
  · have q5 : (n == 0) = false := by simpa using h5
    go_wp2_with fail
    go_ret
    exact ⟨by rw [HR2.out]; simp [h5], (Keep.refl _ _).alloc _⟩
def itEq (k v : ByteArray) (n : Int) (g : Bool) (k' v' : ByteArray) (n' : Int) (g' : Bool) : Bool := decide (k = k') && (decide (v = v') && (decide (n = n') && decide (g = g')))
end Go.Proofs.Ytcoaobdijlppgaa
/- A region that draws its order, by an invariant: each operation once, not each order. -/
namespace Go.Proofs.Ytcoaobdijlppgaa
open Go.ChangeShapes Go.WideShapes Go.ChangeAt Go.RowKit
set_option linter.unusedVariables false
set_option linter.unusedSimpArgs false
set_option maxRecDepth 100000

def upd {α : Type} (f : Nat → α) (i : Nat) (v : α) : Nat → α := fun j => if j = i then v else f j
@[simp] theorem upd_same {α : Type} (f : Nat → α) (i : Nat) (v : α) : upd f i v i = v := by simp [upd]
theorem upd_ne {α : Type} (f : Nat → α) (i j : Nat) (v : α) (h : j ≠ i) : upd f i v j = f j := by simp [upd, h]
/-- The operations' results laid into the frame. -/
def putV : List Oper → Nat → (Nat → Value) → Act → Act
  | [], _, _, a => a
  | o :: os, i, x, a => putV os (i + 1) x (a.put o.dst (x i))
/-- No two operations of the list lay into one slot. -/
def dstsApart : List Oper → Bool
  | [] => true
  | o :: os => (match o.dst with | none => true | some d => os.all (fun o' => o'.dst != some d)) && dstsApart os
/-- Each operation waits only on earlier ones. -/
def edgesBack : List Oper → Nat → Bool
  | [], _ => true
  | o :: os, i => o.after.toList.all (fun e => !Region.binds .any e || decide (e.on < i)) && edgesBack os (i + 1)
def depsHold (l : Nat → Bool) : List Edge → Prop
  | [] => True
  | e :: es => (Region.binds .any e = true → l e.on = true) ∧ depsHold l es
theorem depsHold_of {l : Nat → Bool} : ∀ es : List Edge, (∀ e ∈ es, Region.binds .any e = true → l e.on = true) → depsHold l es
  | [], _ => trivial
  | e :: es, h => ⟨h e (by simp), depsHold_of es (fun e' he' => h e' (by simp [he']))⟩

theorem put_put_same (a : Act) (d : Option Tmp) (v u : Value) : (a.put d v).put d u = a.put d u := by
  cases d <;> simp [Act.put]
theorem putV_put (os : List Oper) : ∀ (i : Nat) (x : Nat → Value) (a : Act) (d : Option Tmp) (v : Value), (∀ o ∈ os, ∀ t, o.dst = some t → d ≠ some t) → putV os i x (a.put d v) = (putV os i x a).put d v := by
  induction os with
  | nil => intro i x a d v _; rfl
  | cons o os ih =>
    intro i x a d v h
    simp only [putV]
    rw [Act.put_comm a v (x i) (fun t ht ho => h o (by simp) t ho ht), ih _ _ _ _ _ (fun o' ho' => h o' (by simp [ho']))]
theorem putV_upd_out (os : List Oper) : ∀ (i : Nat) (x : Nat → Value) (a : Act) (k : Nat) (v : Value), k < i → putV os i (upd x k v) a = putV os i x a := by
  induction os with
  | nil => intro i x a k v _; rfl
  | cons o os ih =>
    intro i x a k v h
    simp only [putV]
    rw [upd_ne _ _ _ _ (by omega), ih _ _ _ _ _ (by omega)]
theorem putV_upd (os : List Oper) : ∀ (i : Nat) (x : Nat → Value) (a : Act) (k : Nat) (v : Value) (o : Oper), dstsApart os = true → os[k]? = some o → putV os i (upd x (i + k) v) a = (putV os i x a).put o.dst v := by
  induction os with
  | nil => intro i x a k v o _ h; simp at h
  | cons o' os ih =>
    intro i x a k v o hd h
    simp only [dstsApart, Bool.and_eq_true] at hd
    cases k with
    | zero =>
      simp only [List.getElem?_cons_zero, Option.some.injEq] at h
      subst h
      simp only [putV, Nat.add_zero, upd_same]
      rw [putV_upd_out _ _ _ _ _ _ (by omega)]
      have hn : ∀ o ∈ os, ∀ t, o.dst = some t → o'.dst ≠ some t := by
        intro o ho t ht e
        have := hd.1
        rw [e] at this
        simp only [List.all_eq_true] at this
        have := this o ho
        rw [ht] at this
        simp at this
      rw [putV_put os _ _ _ _ _ hn, putV_put os _ _ _ _ _ hn, put_put_same]
    | succ k =>
      simp only [List.getElem?_cons_succ] at h
      simp only [putV]
      rw [upd_ne _ _ _ _ (by omega), show i + (k + 1) = (i + 1) + k by omega]
      exact ih _ _ _ _ _ _ hd.2 h
/-- The slots as they stand. -/
def ownVals (os : List Oper) (a : Act) : Nat → Value := fun i => match (os[i]?).bind (·.dst) with
  | some d => a.tmps.getD d undef
  | none => undef
theorem put_self (a : Act) (d : Option Tmp) (v : Value) (h : ∀ t, d = some t → v = a.tmps.getD t undef) : a.put d v = a := by
  cases d with
  | none => rfl
  | some t =>
    obtain ⟨tmps, defers⟩ := a
    have := h t rfl
    subst this
    simp only [Act.put, Act.mk.injEq, and_true]
    apply Array.ext
    · simp
    · intro j h1 h2
      rw [Array.getElem_setIfInBounds]
      · split
        · rename_i e; subst e; simp [Array.getD, h2]
        · rfl
theorem putV_self (os : List Oper) : ∀ (i : Nat) (x : Nat → Value) (a : Act), (∀ k o d, os[k]? = some o → o.dst = some d → x (i + k) = a.tmps.getD d undef) → putV os i x a = a := by
  induction os with
  | nil => intro i x a _; rfl
  | cons o os ih =>
    intro i x a h
    simp only [putV]
    rw [put_self a o.dst (x i) (fun t ht => h 0 o t rfl ht)]
    exact ih _ _ _ (fun k o' d hk hd => by have := h (k + 1) o' d (by simpa using hk) hd; rw [← this]; congr 1; omega)

section
variable {P : Program} {Q : Exit → Act → World → Prop}
def StepAt (P : Program) (ops : List Oper) (Q : Exit → Act → World → Prop) (J : (Nat → Bool) → (Nat → Value) → World → Prop) (a : Act) (i : Nat) (o : Oper) : Prop :=
  ∀ (l : Nat → Bool) (x : Nat → Value) (w : World), J l x w → l i = false → depsHold l o.after.toList →
    ∀ K' : Act → World → Prop, (∀ v w', J (upd l i true) (upd x i v) w' → K' ((putV ops 0 x a).put o.dst v) w') →
      if Region.wanted o (yielded ops.toArray (putV ops 0 x a).tmps) = true then Oper.wp P o (putV ops 0 x a) w K' Q else K' ((putV ops 0 x a).put o.dst undef) w
def Steps (P : Program) (ops : List Oper) (Q : Exit → Act → World → Prop) (J : (Nat → Bool) → (Nat → Value) → World → Prop) (a : Act) : Nat → List Oper → Prop
  | _, [] => True
  | i, o :: os => StepAt P ops Q J a i o ∧ Steps P ops Q J a (i + 1) os
theorem Steps.at {ops : List Oper} {J : (Nat → Bool) → (Nat → Value) → World → Prop} {a : Act} : ∀ (os : List Oper) (i k : Nat) (o : Oper), Steps P ops Q J a i os → os[k]? = some o → StepAt P ops Q J a (i + k) o
  | [], _, _, _, _, h => by simp at h
  | o' :: os, i, 0, o, hs, h => by
    simp only [List.getElem?_cons_zero, Option.some.injEq] at h
    subst h
    exact hs.1
  | o' :: os, i, k + 1, o, hs, h => by
    simp only [List.getElem?_cons_succ] at h
    have := Steps.at os (i + 1) k o hs.2 h
    rwa [show i + 1 + k = i + (k + 1) by omega] at this
theorem edgesBack_at : ∀ (os : List Oper) (i k : Nat) (o : Oper), edgesBack os i = true → os[k]? = some o → ∀ e ∈ o.after, Region.binds .any e = true → e.on < i + k
  | [], _, _, _, _, h => by simp at h
  | o' :: os, i, 0, o, hb, h => by
    simp only [List.getElem?_cons_zero, Option.some.injEq] at h
    subst h
    simp only [edgesBack, Bool.and_eq_true, List.all_eq_true, Bool.or_eq_true, Bool.not_eq_true', decide_eq_true_eq] at hb
    intro e he hbd
    have := (hb.1 e (by simpa using he)).resolve_left (by simp [hbd])
    omega
  | o' :: os, i, k + 1, o, hb, h => by
    simp only [List.getElem?_cons_succ] at h
    simp only [edgesBack, Bool.and_eq_true] at hb
    intro e he hbd
    have := edgesBack_at os (i + 1) k o hb.2 h e he hbd
    omega

theorem all_listed {ops : Array Oper} {listed : Array Bool} (hb : edgesBack ops.toList 0 = true) (hsz : listed.size = ops.size) (hr : Region.ready .any ops listed = []) : ∀ i, i < ops.size → listed.getD i false = true := by
  intro i
  induction i using Nat.strongRecOn with
  | ind i ih =>
    intro hi
    cases h : listed.getD i false with
    | true => rfl
    | false =>
      exfalso
      have hm : i ∈ Region.ready .any ops listed := by
        rw [mem_ready]
        refine ⟨?_, ops[i], by simp [hi], ?_⟩
        · have hl : i < listed.size := by omega
          simp only [Array.getD, hl, dif_pos] at h ⊢
          exact h
        · intro e he hbd
          have := edgesBack_at ops.toList 0 i ops[i] hb (by simp [hi]) e he hbd
          exact ih e.on (by omega) (by omega)
      rw [hr] at hm
      simp at hm

theorem falses_set (l : List Bool) (i : Nat) (h : l[i]? = some false) : (l.set i true).count false + 1 = l.count false := by
  induction l generalizing i with
  | nil => simp at h
  | cons b l ih =>
    cases i with
    | zero => simp only [List.getElem?_cons_zero, Option.some.injEq] at h; subst h; simp
    | succ i =>
      simp only [List.getElem?_cons_succ] at h
      have := ih i h
      simp only [List.set_cons_succ, List.count_cons]
      omega
theorem wpAny_inv {ops : Array Oper} {J : (Nat → Bool) → (Nat → Value) → World → Prop} {a : Act} (hd : dstsApart ops.toList = true) (hb : edgesBack ops.toList 0 = true)
    (hs : Steps P ops.toList Q J a 0 ops.toList) (hf : ∀ l x w, J l x w → (∀ i, i < ops.size → l i = true) → Q .normal (putV ops.toList 0 x a) w) :
    ∀ (fuel : Nat) (listed : Array Bool) (x : Nat → Value) (w : World), listed.size = ops.size → listed.toList.count false ≤ fuel → J (fun i => listed.getD i false) x w →
      wpAny P .any ops Q fuel listed (putV ops.toList 0 x a) w := by
  intro fuel
  induction fuel with
  | zero =>
    intro listed x w hsz hc hJ
    have hr : Region.ready .any ops listed = [] := by
      apply List.eq_nil_iff_forall_not_mem.2
      intro i hi
      rw [mem_ready] at hi
      obtain ⟨h1, o, ho, _⟩ := hi
      have hlt : i < listed.size := by rw [hsz]; exact (Array.getElem?_eq_some_iff.1 ho).1
      have : false ∈ listed.toList := by
        simp only [Array.getD, hlt, dif_pos] at h1
        rw [← h1]
        simp
      have := List.count_pos_iff.2 this
      omega
    exact ⟨hr, hf _ _ _ hJ (fun i hi => all_listed hb hsz hr i hi)⟩
  | succ fuel ih =>
    intro listed x w hsz hc hJ
    refine ⟨fun hr => hf _ _ _ hJ (fun i hi => all_listed hb hsz hr i hi), ?_⟩
    intro i hi
    rw [mem_ready] at hi
    obtain ⟨h1, o, ho, hdep⟩ := hi
    have hlt : i < listed.size := by rw [hsz]; exact (Array.getElem?_eq_some_iff.1 ho).1
    have h1f : listed.getD i false = false := by
      simp only [Array.getD, hlt, dif_pos] at h1 ⊢; exact h1
    have hol : ops.toList[i]? = some o := by simpa using ho
    have st := Steps.at ops.toList 0 i o hs hol
    rw [Nat.zero_add] at st
    refine wpOp_step ho (fun K' hK' => ?_)
    have := st (fun i => listed.getD i false) x w hJ h1f (depsHold_of _ (fun e he hbd => hdep e (by simpa using he) hbd)) K' (fun v w' hJ' => ?_)
    · simpa using this
    · refine hK' _ _ ?_
      have e := putV_upd ops.toList 0 x a i v o hd hol
      rw [Nat.zero_add] at e
      rw [← e]
      have hget : listed.toList[i]? = some false := by
        rw [Array.getElem?_toList, Array.getElem?_eq_getElem hlt]
        simp only [Array.getD, hlt, dif_pos] at h1f
        exact congrArg some h1f
      refine ih _ _ _ (by simp [hsz]) ?_ ?_
      · have := falses_set listed.toList i hget
        simp only [Array.toList_setIfInBounds]
        omega
      · have ef : (fun j => (listed.setIfInBounds i true).getD j false) = upd (fun i => listed.getD i false) i true := by
          funext j
          by_cases hj : j = i
          · subst hj; rw [upd_same]; simp [hlt]
          · rw [upd_ne _ _ _ _ hj, getD_set_ne _ (Ne.symm hj)]
        rw [ef]
        exact hJ'

/-- The way back behind operation number i. -/
def Back (J : (Nat → Bool) → (Nat → Value) → World → Prop) (l : Nat → Bool) (x : Nat → Value) (i : Nat) (o : Oper) (b : Act) (K' : Act → World → Prop) : Prop :=
  ∀ v w', J (upd l i true) (upd x i v) w' → K' (b.put o.dst v) w'
theorem Back.go {J : (Nat → Bool) → (Nat → Value) → World → Prop} {l : Nat → Bool} {x : Nat → Value} {i : Nat} {o : Oper} {K' : Act → World → Prop} {b : Act}
    (h : Back J l x i o b K') (v : Value) {w' : World} {c : Act} (hb : b.put o.dst v = c) (hJ : J (upd l i true) (upd x i v) w') : K' c w' := hb ▸ h v w' hJ
/-- Operation number i, to be run. -/
def Runs (P : Program) (ops : List Oper) (Q : Exit → Act → World → Prop) (J : (Nat → Bool) → (Nat → Value) → World → Prop) (a : Act) (l : Nat → Bool) (x : Nat → Value) (w : World) (i : Nat) (o : Oper) : Prop :=
  ∀ b, putV ops 0 x a = b → ∀ K' : Act → World → Prop, Back J l x i o b K' → if Region.wanted o (yielded ops.toArray b.tmps) = true then Oper.wp P o b w K' Q else K' (b.put o.dst undef) w
theorem Runs.of {ops : List Oper} {J : (Nat → Bool) → (Nat → Value) → World → Prop} {a : Act} {l : Nat → Bool} {x : Nat → Value} {w : World} {i : Nat} {o : Oper} {b : Act} (hb : putV ops 0 x a = b)
    (h : ∀ K' : Act → World → Prop, Back J l x i o b K' → if Region.wanted o (yielded ops.toArray b.tmps) = true then Oper.wp P o b w K' Q else K' (b.put o.dst undef) w) : Runs P ops Q J a l x w i o := by
  intro b' hb' K' hK'
  rw [← hb', hb] at *
  exact h K' hK'
theorem Steps.cons {ops : List Oper} {J : (Nat → Bool) → (Nat → Value) → World → Prop} {a : Act} {o : Oper} {os : List Oper} (i : Nat)
    (h : ∀ (l : Nat → Bool) (x : Nat → Value) (w : World), J l x w → l i = false → depsHold l o.after.toList → Runs P ops Q J a l x w i o)
    (hs : Steps P ops Q J a (i + 1) os) : Steps P ops Q J a i (o :: os) := ⟨fun l x w hJ hi hd K' hK' => h l x w hJ hi hd _ rfl K' hK', hs⟩
theorem Steps.nil {ops : List Oper} {J : (Nat → Bool) → (Nat → Value) → World → Prop} {a : Act} (i : Nat) : Steps P ops Q J a i [] := trivial
/-- A region that draws its order, by an invariant J on what has come up, what it yielded, and the world. -/
theorem wp_region_inv {os : List Oper} {id : Nat} {a : Act} {w : World} (J : (Nat → Bool) → (Nat → Value) → World → Prop) (hm : P.follows .mixedOrders = true) (hd : dstsApart os = true) (hb : edgesBack os 0 = true)
    (h0 : ∀ x, J (fun _ => false) x w.drew) (hs : Steps P os Q J a 0 os) (n : Nat) (hn : os.length = n) (hf : ∀ l x w, J l x w → (∀ i, i < n → l i = true) → Q .normal (putV os 0 x a) w) :
    (Code.region id os.toArray true).wp P Q a w := by
  obtain ⟨ops, rfl⟩ : ∃ ops : Array Oper, os = ops.toList := ⟨os.toArray, rfl⟩
  subst hn
  rw [show ops.toList.toArray = ops from rfl]
  replace hf : ∀ l x w, J l x w → (∀ i, i < ops.size → l i = true) → Q .normal (putV ops.toList 0 x a) w := hf
  refine wp_region_any hm ?_
  have e : putV ops.toList 0 (ownVals ops.toList a) a = a := putV_self _ _ _ _ (fun k o d hk hdst => by
    simp only [Nat.zero_add, ownVals, hk, Option.bind_some, hdst])
  have := wpAny_inv (P := P) (Q := Q) hd hb hs hf ops.size (Array.replicate ops.size false) (ownVals ops.toList a) w.drew (by simp) (by simp) (by
    have ef : (fun i => (Array.replicate ops.size false).getD i false) = fun _ => false := by
      funext i; simp [Array.getD]
    rw [ef]
    exact h0 _)
  rw [e] at this
  exact this
/-- The same, where an operation lays into a slot that others read: what the slots hold at the start is known. A region that draws its order, by an invariant J on what has come up, what it yielded, and the world. -/
theorem wp_region_inv_own {os : List Oper} {id : Nat} {a : Act} {w : World} (J : (Nat → Bool) → (Nat → Value) → World → Prop) (hm : P.follows .mixedOrders = true) (hd : dstsApart os = true) (hb : edgesBack os 0 = true)
    (h0 : J (fun _ => false) (ownVals os a) w.drew) (hs : Steps P os Q J a 0 os) (n : Nat) (hn : os.length = n) (hf : ∀ l x w, J l x w → (∀ i, i < n → l i = true) → Q .normal (putV os 0 x a) w) :
    (Code.region id os.toArray true).wp P Q a w := by
  obtain ⟨ops, rfl⟩ : ∃ ops : Array Oper, os = ops.toList := ⟨os.toArray, rfl⟩
  subst hn
  rw [show ops.toList.toArray = ops from rfl]
  replace hf : ∀ l x w, J l x w → (∀ i, i < ops.size → l i = true) → Q .normal (putV ops.toList 0 x a) w := hf
  refine wp_region_any hm ?_
  have e : putV ops.toList 0 (ownVals ops.toList a) a = a := putV_self _ _ _ _ (fun k o d hk hdst => by
    simp only [Nat.zero_add, ownVals, hk, Option.bind_some, hdst])
  have := wpAny_inv (P := P) (Q := Q) hd hb hs hf ops.size (Array.replicate ops.size false) (ownVals ops.toList a) w.drew (by simp) (by simp) (by
    have ef : (fun i => (Array.replicate ops.size false).getD i false) = fun _ => false := by
      funext i; simp [Array.getD]
    rw [ef]
    exact h0)
  rw [e] at this
  exact this
end

/-- Blocks that operations of the region have made: number i's is B i, and holds what C says. -/
structure RI (is : List Nat) (T : Nat → TypeId) (C : (Nat → Bool) → Nat → List Value) (w w' : World) (l : Nat → Bool) (B : Nat → Nat) : Prop where
  keep : Keep [] w w'
  blk : ∀ i ∈ is, l i = true → w.heap.size ≤ B i ∧ Blk w' (B i) (C l i) (T i)
  apart : ∀ i ∈ is, ∀ j ∈ is, l i = true → l j = true → B i = B j → i = j
section
variable {is : List Nat} {T : Nat → TypeId} {C : (Nat → Bool) → Nat → List Value} {w w' w'' : World} {l : Nat → Bool} {B : Nat → Nat}
theorem RI.start (w : World) (B : Nat → Nat) : RI is T C w w.drew (fun _ => false) B :=
  ⟨(Keep.refl _ _).drew, (fun _ _ h => absurd h (by decide)), (fun _ _ _ _ h => absurd h (by decide))⟩
theorem RI.still (h : RI is T C w w' l B) (k : Nat) (hk : k ∉ is) (hC : ∀ i ∈ is, C (upd l k true) i = C l i) : RI is T C w w' (upd l k true) B := by
  have hne : ∀ i ∈ is, i ≠ k := fun i hi e => hk (e ▸ hi)
  refine ⟨h.keep, fun i hi hl => ?_, fun i hi j hj hli hlj e => ?_⟩
  · rw [upd_ne _ _ _ _ (hne i hi)] at hl
    rw [hC i hi]
    exact h.blk i hi hl
  · rw [upd_ne _ _ _ _ (hne i hi)] at hli
    rw [upd_ne _ _ _ _ (hne j hj)] at hlj
    exact h.apart i hi j hj hli hlj e
theorem RI.step (h : RI is T C w w' l B) (K : Keep [] w' w'') : RI is T C w w'' l B :=
  ⟨h.keep.trans K, fun i hi hl => ⟨(h.blk i hi hl).1, (h.blk i hi hl).2.keep K (by simp)⟩, h.apart⟩
theorem RI.new (h : RI is T C w w' l B) (k : Nat) (hl : l k = false) (hC : ∀ i ∈ is, i ≠ k → C (upd l k true) i = C l i) :
    RI is T C w (w'.alloc (.cells (C (upd l k true) k).toArray (T k))) (upd l k true) (upd B k w'.heap.size) := by
  refine ⟨h.keep.alloc _, fun i hi hli => ?_, fun i hi j hj hli hlj e => ?_⟩
  · by_cases hik : i = k
    · subst hik
      rw [upd_same]
      exact ⟨h.keep.size, Blk.new _ _ _⟩
    · rw [upd_ne _ _ _ _ hik] at hli ⊢
      rw [hC i hi hik]
      exact ⟨(h.blk i hi hli).1, (h.blk i hi hli).2.alloc _⟩
  · by_cases hik : i = k
    · by_cases hjk : j = k
      · rw [hik, hjk]
      · subst hik
        rw [upd_same, upd_ne _ _ _ _ hjk] at e
        rw [upd_ne _ _ _ _ hjk] at hlj
        have := (h.blk j hj hlj).2.lt
        omega
    · by_cases hjk : j = k
      · subst hjk
        rw [upd_same, upd_ne _ _ _ _ hik] at e
        rw [upd_ne _ _ _ _ hik] at hli
        have := (h.blk i hi hli).2.lt
        omega
      · rw [upd_ne _ _ _ _ hik, upd_ne _ _ _ _ hjk] at e
        rw [upd_ne _ _ _ _ hik] at hli
        rw [upd_ne _ _ _ _ hjk] at hlj
        exact h.apart i hi j hj hli hlj e
theorem RI.new' (h : RI is T C w w' l B) (k : Nat) (hl : l k = false) (cs : List Value) (hcs : C (upd l k true) k = cs) (hC : ∀ i ∈ is, i ≠ k → C (upd l k true) i = C l i) :
    RI is T C w (w'.alloc (.cells cs.toArray (T k))) (upd l k true) (upd B k w'.heap.size) := by
  subst hcs
  exact h.new k hl hC
theorem RI.store (h : RI is T C w w' l B) (k i : Nat) (hk : k ∉ is) (hi : i ∈ is) (hl : l i = true) (K : Keep [B i] w' w'') (hB : Blk w'' (B i) (C (upd l k true) i) (T i)) (hC : ∀ j ∈ is, j ≠ i → C (upd l k true) j = C l j) :
    RI is T C w w'' (upd l k true) B := by
  have hne : ∀ i ∈ is, i ≠ k := fun i hi e => hk (e ▸ hi)
  have h1 := (h.blk i hi hl).1
  refine ⟨h.keep.then K (fun x hx hlt => by simp at hx; omega), fun j hj hlj => ?_, fun j hj j' hj' hlj hlj' e => ?_⟩
  · rw [upd_ne _ _ _ _ (hne j hj)] at hlj
    by_cases hji : j = i
    · subst hji; exact ⟨h1, hB⟩
    · rw [hC j hj hji]
      exact ⟨(h.blk j hj hlj).1, (h.blk j hj hlj).2.keep K (by
        simp only [List.mem_singleton]
        intro e
        exact hji (h.apart j hj i hi hlj hl e))⟩
  · rw [upd_ne _ _ _ _ (hne j hj)] at hlj
    rw [upd_ne _ _ _ _ (hne j' hj')] at hlj'
    exact h.apart j hj j' hj' hlj hlj' e
end
end Go.Proofs.Ytcoaobdijlppgaa
/- Entries: cut, put into rows. -/
namespace Go.Proofs.Ytcoaobdijlppgaa
open Go.ChangeShapes Go.WideShapes Go.ChangeAt Go.RowKit
set_option linter.unusedVariables false
set_option linter.unusedSimpArgs false
set_option maxRecDepth 100000

theorem Try.sizeItem : (Try.prog.info? 34).map (·.size) = some 4 := by kernel_rfl
theorem itC_one (k v : ByteArray) (n : Int) (g : Bool) : ∀ u ∈ itC k v n g, u.oneCell' = true := by
  intro u hu
  simp [itC] at hu
  rcases hu with rfl | rfl | rfl | rfl <;> rfl
def cutC (k v : ByteArray) (n : Int) (g : Bool) (l : Nat → Bool) : List Value := [.string (if l 7 = true then cutStr k 50 else k), .string (if l 9 = true then cutStr v 210 else v), .int .i64 n, .bool g]
def cutJ (k v : ByteArray) (n : Int) (g : Bool) (w : World) (b r : Nat) (l : Nat → Bool) (x : Nat → Value) (w' : World) : Prop :=
  Blk w' b (cutC k v n g l) 34 ∧ Blk w' r (itC { data := #[] } { data := #[] } 0 false) 34 ∧ Keep [b, r] w w' ∧ (l 1 = false → l 2 = false ∧ l 7 = false) ∧ (l 4 = false → l 5 = false ∧ l 9 = false) ∧
  (l 0 = true → x 0 = .pointer (some ⟨b, 0, none⟩)) ∧ (l 1 = true → x 1 = .string k) ∧ (l 2 = true → x 2 = .string (cutStr k 50)) ∧
  (l 3 = true → x 3 = .pointer (some ⟨b, 1, none⟩)) ∧ (l 4 = true → x 4 = .string v) ∧ (l 5 = true → x 5 = .string (cutStr v 210)) ∧
  (l 6 = true → x 6 = .pointer (some ⟨b, 0, none⟩)) ∧ (l 8 = true → x 8 = .pointer (some ⟨b, 1, none⟩))

theorem cutC_set0 {w : World} {b : Nat} {k v : ByteArray} {n : Int} {g : Bool} {l : Nat → Bool} {T : TypeId} (h : Blk w b (cutC k v n g l) T) : Blk (w.setCell ⟨b, 0, none⟩ (.string (cutStr k 50))) b (cutC k v n g (upd l 7 true)) T := h.set 0 _
theorem cutC_set1 {w : World} {b : Nat} {k v : ByteArray} {n : Int} {g : Bool} {l : Nat → Bool} {T : TypeId} (h : Blk w b (cutC k v n g l) T) : Blk (w.setCell ⟨b, 1, none⟩ (.string (cutStr v 210))) b (cutC k v n g (upd l 9 true)) T := h.set 1 _
end Go.Proofs.Ytcoaobdijlppgaa
