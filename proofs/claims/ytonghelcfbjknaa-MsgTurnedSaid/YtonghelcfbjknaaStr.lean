/- Bytes as a text: the conversion of a slice of bytes that can be read; parts of such a slice. No condition. -/
import Derived.Test.YtonghelcfbjknaaMem
import Derived.Lib.BufferRead
namespace Go.Proofs.Ytonghelcfbjknaa
open Go.ChangeShapes Go.WideShapes Go.ChangeAt Go.RowKit
set_option linter.unusedVariables false
set_option linter.unusedSimpArgs false

/-- Bytes as a text. -/
def toStr (l : List Nat) : ByteArray := ⟨(l.map UInt8.ofNat).toArray⟩
@[simp] theorem toStr_size (l : List Nat) : (toStr l).size = l.length := by
  show (l.map UInt8.ofNat).toArray.size = _
  simp
theorem toStr_inj {l m : List Nat} (hl : ∀ c ∈ l, c < 256) (hm : ∀ c ∈ m, c < 256) (h : toStr l = toStr m) : l = m := by
  have h1 : l.map UInt8.ofNat = m.map UInt8.ofNat := by
    have := congrArg (fun b : ByteArray => b.data.toList) h
    simpa [toStr] using this
  have h2 := congrArg (List.map UInt8.toNat) h1
  simp only [List.map_map] at h2
  have key : ∀ x : List Nat, (∀ c ∈ x, c < 256) → x.map (UInt8.toNat ∘ UInt8.ofNat) = x := by
    intro x hx
    conv => rhs; rw [← List.map_id x]
    apply List.map_congr_left
    intro c hc
    simp [Nat.mod_eq_of_lt (hx c hc)]
  rwa [key l hl, key m hm] at h2

/-- A part of a slice that can be read. -/
theorem Rv.sub {w : World} {n : Nat} {vs : List Value} {sb so cap : Nat} (h : Rv w 1 (.slice (some ⟨sb, so, none⟩) n cap) n vs) (k m c : Nat) (hk : k + m ≤ n) (hc : m ≤ c) :
    Rv w 1 (.slice (some ⟨sb, so + k, none⟩) m c) m ((vs.drop k).take m) := by
  obtain ⟨hl, a, cap', he, hcap, h⟩ := h
  simp only [Value.slice.injEq] at he
  obtain ⟨rfl, _, rfl⟩ := he
  refine ⟨by simp [List.length_take, List.length_drop]; omega, _, c, rfl, hc, fun hp => ?_⟩
  have hm : 0 < m := by
    rcases Nat.eq_zero_or_pos m with rfl | h'
    · simp at hp
    · exact h'
  obtain ⟨sb', so', e, hs, hat⟩ := h (by omega)
  simp only [Option.some.injEq, Addr.mk.injEq] at e
  obtain ⟨rfl, rfl, _⟩ := e
  refine ⟨sb, so + k, rfl, hs, fun i hi => ?_⟩
  have hi' : i < m := by simp [List.length_take, List.length_drop] at hi; omega
  rw [Nat.add_assoc, hat (k + i) (by omega), List.getElem?_take, if_pos hi', List.getElem?_drop]
theorem bcs_part (l : List Nat) (k m : Nat) : ((bcs l).drop k).take m = bcs ((l.drop k).take m) := by simp [bcs, List.map_drop, List.map_take]
/-- An empty slice, wherever it leads. -/
theorem Rv.empty (w : World) (sz : Nat) (a : Option Addr) (c : Nat) : Rv w sz (.slice a 0 c) 0 [] := ⟨by simp, a, c, rfl, by omega, fun h => by simp at h⟩

theorem Rd.str {P : Program} {w : World} {v : Value} {l : List Nat} {src dst e : TypeId} (h : Rd w v l) (hb : ∀ c ∈ l, c < 256) (hs : P.underlying src = some (.slice e)) (he : P.underlying e = some (.int .u8)) (hd : P.underlying dst = some .string) :
    (convert src dst v).run P w = .ok (.string (toStr l)) w := by
  obtain ⟨_, a, cap, rfl, hc, h⟩ := h
  cases a with
  | none =>
    have hl : l = [] := by
      cases l with
      | nil => rfl
      | cons x r => obtain ⟨_, _, h', _⟩ := h (by simp); cases h'
    subst hl
    exact Lib.run_convert_nil_bytes w src dst e cap hs he hd
  | some a =>
    have := run_convert_bytes_back (P := P) w src dst e a cap (l.map UInt8.ofNat) hs he hd (by
      intro j hj
      have hj' : j < l.length := by simpa using hj
      obtain ⟨sb, so, e1, hs, hat⟩ := h (by simpa using (by omega : 0 < l.length))
      simp only [Option.some.injEq] at e1
      subst e1
      have h1 : ((⟨sb, so, none⟩ : Addr).add j) = ⟨sb, so + j, none⟩ := by
        by_cases h0 : j = 0
        · subst h0; simp [Addr.add]
        · simp [Addr.add, h0]
      rw [h1, hat j (by simpa using hj'), bcs_at l j hj']
      have hlt := hb (l[j]) (List.getElem_mem _)
      simp [bc, List.getD_eq_getElem?_getD, hj', Nat.mod_eq_of_lt hlt])
    rw [List.length_map] at this
    exact this

/-! A slice of a slice, its place left open: no case on the capacity. -/
section
variable {P : Program} {w : World}
theorem Rv.cut {v : Value} {n : Nat} {vs : List Value} (h : Rv w 1 v n vs) (lo hi : Nat) (hlo : lo ≤ hi) (hhi : hi ≤ n) :
    ∀ a cap, v = .slice a n cap → Rv w 1 (.slice (if cap = lo then a else a.map (·.add lo)) (hi - lo) (cap - lo)) (hi - lo) ((vs.drop lo).take (hi - lo)) := by
  rintro a cap rfl
  obtain ⟨hl, a', cap', he, hcap, h⟩ := h
  simp only [Value.slice.injEq] at he
  obtain ⟨rfl, _, rfl⟩ := he
  rw [Nat.mul_one] at hl
  refine ⟨by simp [List.length_take, List.length_drop]; omega, _, _, rfl, by omega, fun hp => ?_⟩
  simp only [List.length_take, List.length_drop] at hp
  obtain ⟨sb, so, rfl, hs, hat⟩ := h (by omega)
  have hne : ¬ cap = lo := by omega
  refine ⟨sb, so + lo, ?_, hs, fun i hi' => ?_⟩
  · rw [if_neg hne]
    simp only [Option.map_some, Addr.add]
    by_cases h0 : lo = 0
    · subst h0; simp
    · simp [h0]
  · simp only [List.length_take, List.length_drop] at hi'
    rw [Nat.add_assoc, hat (lo + i) (by omega), List.getElem?_take, if_pos (by omega), List.getElem?_drop]
theorem ownBlock_cut (a : Option Addr) (n cap lo m c : Nat) : (Value.slice (if cap = lo then a else a.map (·.add lo)) m c).ownBlock = (Value.slice a n cap).ownBlock := by
  cases a with
  | none => split <;> rfl
  | some a =>
    split
    · rfl
    · simp only [Option.map_some, Value.ownBlock, Addr.add]
      split <;> rfl

theorem run_cut (t e : TypeId) (i : TypeInfo) (ht : P.underlying t = some (.slice e)) (hi : P.info? e = some i) (hz : i.size = 1) (ad : Option Addr) (n cap l h m : Nat) (hle : l ≤ h) (hn : h ≤ m) (hm : m ≤ cap) (mx : Option Value) (hmx : mx = none ∧ m = cap ∨ mx = some (.int .i64 m)) :
    (Instr.sliceAt t (.slice ad n cap) (some (.int .i64 (l : Int))) (some (.int .i64 (h : Int))) mx).run P w = .ok (.slice (if m = l then ad else ad.map (·.add l)) (h - l) (m - l)) w := by
  have q1 : (0 : Int) ≤ (h : Int) ∧ (h : Int) ≤ (m : Int) := by omega
  have q2 : (0 : Int) ≤ (l : Int) ∧ (l : Int) ≤ (h : Int) := by omega
  have q3 : (0 : Int) ≤ (m : Int) ∧ (m : Int) ≤ (cap : Int) := by omega
  rcases hmx with ⟨rfl, rfl⟩ | rfl <;>
    simp [Instr.sliceAt, run_underlying ht, Instr.slice, Instr.sliceBounds, Instr.sliceBound, asIntOf, q1, q2, q3, hle, hn, hm, sizeOf, typeInfo, hi, hz]
theorem run_cut_lo (t e : TypeId) (i : TypeInfo) (ht : P.underlying t = some (.slice e)) (hi : P.info? e = some i) (hz : i.size = 1) (ad : Option Addr) (n cap l : Nat) (hle : l ≤ n) :
    (Instr.sliceAt t (.slice ad n cap) (some (.int .i64 (l : Int))) none none).run P w = .ok (.slice (if cap = l then ad else ad.map (·.add l)) (n - l) (cap - l)) w := by
  simp [Instr.sliceAt, run_underlying ht, Instr.slice, Instr.sliceBounds, Instr.sliceBound, asIntOf, hle, sizeOf, typeInfo, hi, hz]

theorem wpList_slice_hi {ops : Array Oper} {rest : List Oper} {Q : Exit → Act → World → Prop} {a : Act} (dst : Option Tmp) (t : TypeId) (x y z : Operand) (ty : TypeId) (pos : String) (aft : Array Edge) (e : TypeId) (i : TypeInfo)
    (ht : P.underlying t = some (.slice e)) (hi : P.info? e = some i) (hz : i.size = 1) (v : Value) (n : Nat) (vs : List Value) (lo hi' : Int) (l h : Nat)
    (hx : a.eval x = v) (hy : a.eval y = .int .i64 lo) (hzz : a.eval z = .int .i64 hi') (hlo : lo = l) (hhi : hi' = h) (hr : Rv w 1 v n vs) (hle : l ≤ h) (hn : h ≤ n)
    (H : ∀ v', Rv w 1 v' (h - l) ((vs.drop l).take (h - l)) → v'.ownBlock = v.ownBlock → wpList P ops Q rest (a.put dst v') w) :
    wpList P ops Q (⟨dst, .slice t x (some y) (some z) none, ty, pos, aft, none⟩ :: rest) a w := by
  subst hlo hhi
  refine wpList_plain rfl fun K hK => ?_
  have hr2 := hr
  obtain ⟨_, ad, cap, rfl, hcap, _⟩ := hr2
  unfold Oper.wp execOp
  simp only [Sem.run_bind, Sem.run_pure, Result.andThen_ok, hx, hy, hzz, Option.map_some, Option.map_none, run_cut t e i ht hi hz ad n cap l h cap hle (by omega) (Nat.le_refl _) none (.inl ⟨rfl, rfl⟩)]
  exact hK _ _ (H _ (hr.cut l h hle hn ad cap rfl) (ownBlock_cut ad n cap l _ _))
theorem wpList_slice_lo {ops : Array Oper} {rest : List Oper} {Q : Exit → Act → World → Prop} {a : Act} (dst : Option Tmp) (t : TypeId) (x y : Operand) (ty : TypeId) (pos : String) (aft : Array Edge) (e : TypeId) (i : TypeInfo)
    (ht : P.underlying t = some (.slice e)) (hi : P.info? e = some i) (hz : i.size = 1) (v : Value) (n : Nat) (vs : List Value) (lo : Int) (l : Nat)
    (hx : a.eval x = v) (hy : a.eval y = .int .i64 lo) (hlo : lo = l) (hr : Rv w 1 v n vs) (hn : l ≤ n)
    (H : ∀ v', Rv w 1 v' (n - l) (vs.drop l) → v'.ownBlock = v.ownBlock → wpList P ops Q rest (a.put dst v') w) :
    wpList P ops Q (⟨dst, .slice t x (some y) none none, ty, pos, aft, none⟩ :: rest) a w := by
  subst hlo
  refine wpList_plain rfl fun K hK => ?_
  have hr2 := hr
  obtain ⟨hl, ad, cap, rfl, hcap, _⟩ := hr2
  unfold Oper.wp execOp
  simp only [Sem.run_bind, Sem.run_pure, Result.andThen_ok, hx, hy, Option.map_some, Option.map_none, run_cut_lo t e i ht hi hz ad n cap l hn]
  have hc := hr.cut l n hn (Nat.le_refl _) ad cap rfl
  rw [List.take_of_length_le (by rw [List.length_drop]; omega)] at hc
  exact hK _ _ (H _ hc (ownBlock_cut ad n cap l _ _))
theorem run_cut_hi (t e : TypeId) (i : TypeInfo) (ht : P.underlying t = some (.slice e)) (hi : P.info? e = some i) (hz : i.size = 1) (ad : Option Addr) (n cap h : Nat) (hle : h ≤ cap) :
    (Instr.sliceAt t (.slice ad n cap) none (some (.int .i64 (h : Int))) none).run P w = .ok (.slice (if cap = 0 then ad else ad.map (·.add 0)) (h - 0) (cap - 0)) w := by
  simp [Instr.sliceAt, run_underlying ht, Instr.slice, Instr.sliceBounds, Instr.sliceBound, asIntOf, hle, sizeOf, typeInfo, hi, hz]
theorem wpList_slice_to {ops : Array Oper} {rest : List Oper} {Q : Exit → Act → World → Prop} {a : Act} (dst : Option Tmp) (t : TypeId) (x z : Operand) (ty : TypeId) (pos : String) (aft : Array Edge) (e : TypeId) (i : TypeInfo)
    (ht : P.underlying t = some (.slice e)) (hi : P.info? e = some i) (hz : i.size = 1) (v : Value) (n : Nat) (vs : List Value) (hi' : Int) (h : Nat)
    (hx : a.eval x = v) (hzz : a.eval z = .int .i64 hi') (hhi : hi' = h) (hr : Rv w 1 v n vs) (hn : h ≤ n)
    (H : ∀ v', Rv w 1 v' h (vs.take h) → v'.ownBlock = v.ownBlock → wpList P ops Q rest (a.put dst v') w) :
    wpList P ops Q (⟨dst, .slice t x none (some z) none, ty, pos, aft, none⟩ :: rest) a w := by
  subst hhi
  refine wpList_plain rfl fun K hK => ?_
  have hr2 := hr
  obtain ⟨_, ad, cap, rfl, hcap, _⟩ := hr2
  unfold Oper.wp execOp
  simp only [Sem.run_bind, Sem.run_pure, Result.andThen_ok, hx, hzz, Option.map_some, Option.map_none, run_cut_hi t e i ht hi hz ad n cap h (by omega)]
  have hc := hr.cut 0 h (Nat.zero_le _) hn ad cap rfl
  simp only [Nat.sub_zero, List.drop_zero] at hc
  exact hK _ _ (H _ hc (by have := ownBlock_cut ad n cap 0 h cap; simpa using this))
end
end Go.Proofs.Ytonghelcfbjknaa
