/- MsgPure, MsgRead, MsgRead2, DevMem, MsgFields, MsgIn -/
import Derived.Test.YtcoaobdijlppgaaG1
import Derived.Test.YtcoaobdijlppgaaG3
import Derived.Laws.IdiomCopy
import Derived.Deep.MidRow
import Derived.StillTailTactics
import Derived.Laws.Rows
/- Messages in plain Lean: which may be, their bytes, what bytes say. -/
namespace Go.Proofs.Ytcoaobdijlppgaa
open Go.ChangeShapes Go.WideShapes Go.ChangeAt Go.RowKit
set_option linter.unusedVariables false
set_option linter.unusedSimpArgs false
set_option maxRecDepth 100000

abbrev Mk := Int × ByteArray
structure Ms where
  kind : Int
  src : Int
  dst : Int
  epoch : Int
  tick : Int
  seq : Int
  n : Int
  id : Int
  op : Int
  key : ByteArray
  err : Int
  last : Bool
  it : It
  its : List It
  mks : List Mk
  mem : List Int
  base : Int
  old : List Int
def it0 : It := (ByteArray.empty, ByteArray.empty, 0, false)
def ms0 : Ms := ⟨0, 0, 0, 0, 0, 0, 0, 0, 0, ByteArray.empty, 0, false, it0, [], [], [], 0, []⟩
/-- Nodes that may be: rising, from 1 to 5, one at least. -/
def nodeAt (l : List Int) (j : Nat) : Prop := 1 ≤ l.getD j 0 ∧ l.getD j 0 ≤ 5 ∧ (0 < j → l.getD (j - 1) 0 < l.getD j 0)
instance (l : List Int) (j : Nat) : Decidable (nodeAt l j) := by unfold nodeAt; exact inferInstance
def nodesOk (l : List Int) : Bool := decide (0 < l.length) && decide (∀ j, j < l.length → nodeAt l j)
def mk0 : Mk := (0, ByteArray.empty)
def mkAt (l : List Mk) (j : Nat) : Prop := 1 ≤ (l.getD j mk0).1 ∧ (l.getD j mk0).1 ≤ 1099511627776 ∧ itKey (l.getD j mk0).2 = true ∧ (0 < j → (l.getD (j - 1) mk0).1 < (l.getD j mk0).1)
instance (l : List Mk) (j : Nat) : Decidable (mkAt l j) := by unfold mkAt; exact inferInstance
def mksOk (l : List Mk) : Bool := decide (∀ j, j < l.length → mkAt l j)
def inB (g : Int) (l : List Int) : Bool := l.all fun n => decide (0 ≤ n ∧ n ≤ g)
def headOk (m : Ms) : Bool := decide (1 ≤ m.kind) && (decide (m.kind ≤ 14) && (!decide (m.src = m.dst) && (inB 5 [m.src, m.dst] && (inB 1099511627776 [m.epoch, m.tick, m.seq, m.id, m.base] && inB 1073741824 [m.n]))))
def midOk (m : Ms) : Bool := inB 2 [m.op] && (decide (m.key.size ≤ 40) && inB 10 [m.err])
def listsOk (m : Ms) : Bool := mksOk m.mks && (m.its.all mayIt && (decide (m.its.length ≤ 4) && (decide (m.mks.length ≤ 4) && ((decide (m.mem.length = 0) || nodesOk m.mem) && (decide (m.old.length = 0) || nodesOk m.old)))))
def mayM (m : Ms) : Bool := headOk m && (midOk m && ((decide (m.it = it0) || mayIt m.it) && listsOk m))
/-- The bytes. -/
def mNums (m : Ms) : List Int := [m.kind, m.src, m.dst, m.epoch, m.tick, m.seq, m.n, m.id, m.op, m.err, gN m.last, m.base]
def putNodes (l : List Int) : List Nat := putAll ((l.length : Int) :: l)
def hasM (m : Ms) : Bool := !decide (m.it = it0)
def putMk (x : Mk) : List Nat := putAll [x.1] ++ putText x.2
def putMks (l : List Mk) : List Nat := (l.map putMk).flatten
theorem putMks_snoc (l : List Mk) (x : Mk) : putMks (l ++ [x]) = putMks l ++ putMk x := by simp [putMks]
def mText1 (m : Ms) : List Nat := putAll (mNums m) ++ putText m.key ++ putNodes m.mem ++ putNodes m.old
def mText2 (m : Ms) : List Nat := mText1 m ++ putAll [gN (hasM m), (m.its.length : Int), (m.mks.length : Int)]
def mText3 (m : Ms) : List Nat := (mText2 m ++ (if hasM m = true then encIts [m.it] else [])) ++ encIts m.its
def mText (m : Ms) : List Nat := mText3 m ++ putMks m.mks
def four (n : Nat) : List Nat := [n / 16777216 % 256, n / 65536 % 256, n / 256 % 256, n % 256]
def encM (m : Ms) : List Nat := if mayM m = true then mText m ++ four (crcSum (mText m)) else []
/-- A reader: the bytes that are left; bad: something did not go. -/
abbrev Rs := List Nat × Bool
def tookR (s : Rs) (n e : Nat) : Rs := if s.2 = true ∨ e ≠ 0 then (s.1, true) else (s.1.drop n, false)
def rNum (s : Rs) : Int × Rs := ((get s.1).1, tookR s (get s.1).2.1 (get s.1).2.2)
def rText (s : Rs) : ByteArray × Rs := (toStr (getText s.1).1, tookR s (getText s.1).2.1 (getText s.1).2.2)
def rNodesGo : Nat → Int → List Int → Rs → List Int × Rs
  | 0, _, acc, s => (acc, s)
  | f + 1, n, acc, s => if 0 < n ∧ s.2 = false ∧ acc.length ≤ 5 then rNodesGo f (n - 1) (acc ++ [(rNum s).1]) (rNum s).2 else (acc, s)
def rNodes (s : Rs) : List Int × Rs := rNodesGo 7 (rNum s).1 [] (rNum s).2
def rItem (s : Rs) : It × Rs :=
  let k := rText s
  let v := rText k.2
  let e := rNum v.2
  let g := rNum e.2
  ((k.1, v.1, e.1, g.1 == 1), g.2)
def rItems : Nat → Int → List It → Rs → List It × Rs
  | 0, _, acc, s => (acc, s)
  | f + 1, n, acc, s => if 0 < n ∧ s.2 = false ∧ acc.length ≤ 4 then rItems f (n - 1) (acc ++ [(rItem s).1]) (rItem s).2 else (acc, s)
def rMk (s : Rs) : Mk × Rs := (((rNum s).1, (rText (rNum s).2).1), (rText (rNum s).2).2)
def rMks : Nat → Int → List Mk → Rs → List Mk × Rs
  | 0, _, acc, s => (acc, s)
  | f + 1, n, acc, s => if 0 < n ∧ s.2 = false ∧ acc.length ≤ 4 then rMks f (n - 1) (acc ++ [(rMk s).1]) (rMk s).2 else (acc, s)
def rFields (s : Rs) : Ms × Rs :=
  let a0 := rNum s
  let a1 := rNum a0.2
  let a2 := rNum a1.2
  let a3 := rNum a2.2
  let a4 := rNum a3.2
  let a5 := rNum a4.2
  let a6 := rNum a5.2
  let a7 := rNum a6.2
  let a8 := rNum a7.2
  let a9 := rNum a8.2
  let a10 := rNum a9.2
  let a11 := rNum a10.2
  let k := rText a11.2
  let m := rNodes k.2
  let o := rNodes m.2
  (⟨a0.1, a1.1, a2.1, a3.1, a4.1, a5.1, a6.1, a7.1, a8.1, k.1, a9.1, a10.1 == 1, it0, [], [], m.1, a11.1, o.1⟩, o.2)
def rAll (s : Rs) : Ms × Rs :=
  let f := rFields s
  let h := rNum f.2
  let i := rNum h.2
  let k := rNum i.2
  let x := if h.1 = 1 then rItem k.2 else (it0, k.2)
  let is := rItems 6 i.1 [] x.2
  let ks := rMks 6 k.1 [] is.2
  ({ f.1 with it := x.1, its := is.1, mks := ks.1 }, ks.2)
def decM (b : List Nat) : Option Ms :=
  let r := rAll (b.take (b.length - 4), false)
  if r.2.2 = true ∨ encM r.1 = [] ∨ encM r.1 ≠ b then none else some r.1
/-! What is written is read. -/
theorem putAll_cons (n : Int) (l : List Int) : putAll (n :: l) = leb (zz n) ++ putAll l := by simp [putAll]
theorem putAll_nil : putAll [] = [] := rfl
theorem rNum_put (n : Int) (h : I64 n) (r : List Nat) : rNum (leb (zz n) ++ r, false) = (n, (r, false)) := by
  unfold rNum tookR
  rw [get_leb n h.1 h.2 r]
  simp
theorem rText_put (t : ByteArray) (h : t.size ≤ 65536) (r : List Nat) : rText (putText t ++ r, false) = (t, (r, false)) := by
  unfold rText tookR
  rw [getText_putText t h r]
  simp [toStr_sb]
theorem rNodesGo_put : ∀ (l : List Int) (f : Nat) (acc : List Int) (r : List Nat), (∀ n ∈ l, I64 n) → acc.length + l.length ≤ 6 → l.length < f → rNodesGo f (l.length : Int) acc (putAll l ++ r, false) = (acc ++ l, (r, false)) := by
  intro l
  induction l with
  | nil =>
    intro f acc r _ _ hf
    obtain ⟨f, rfl⟩ : ∃ k, f = k + 1 := ⟨f - 1, by omega⟩
    simp [rNodesGo, putAll_nil]
  | cons a t ih =>
    intro f acc r h hl hf
    obtain ⟨f, rfl⟩ : ∃ k, f = k + 1 := ⟨f - 1, by omega⟩
    have hl' : acc.length + (t.length + 1) ≤ 6 := hl
    have hf' : t.length + 1 < f + 1 := hf
    unfold rNodesGo
    rw [if_pos ⟨by simp only [List.length_cons]; omega, rfl, by omega⟩, putAll_cons, List.append_assoc, rNum_put a (h a (by simp)) (putAll t ++ r)]
    rw [show ((a :: t).length : Int) - 1 = (t.length : Int) by simp only [List.length_cons]; omega]
    rw [ih f (acc ++ [a]) r (fun n hn => h n (by simp [hn])) (by simp only [List.length_append, List.length_cons, List.length_nil]; omega) (by omega)]
    simp
theorem nodesOk_len : ∀ {l : List Int}, nodesOk l = true → l.length ≤ 5 ∧ ∀ n ∈ l, I64 n := by
  intro l h
  unfold nodesOk at h
  simp only [Bool.and_eq_true, decide_eq_true_eq] at h
  obtain ⟨_, h⟩ := h
  have hj : ∀ j, j < l.length → (j : Int) + 1 ≤ l.getD j 0 := by
    intro j
    induction j with
    | zero => intro hj; have := (h 0 hj).1; omega
    | succ k ih =>
      intro hk
      have h1 := ih (by omega)
      have h2 := (h (k + 1) hk).2.2 (by omega)
      rw [Nat.add_sub_cancel] at h2
      omega
  constructor
  · by_cases h0 : l.length = 0
    · omega
    · have h1 := hj (l.length - 1) (by omega)
      have h2 := (h (l.length - 1) (by omega)).2.1
      omega
  · intro n hn
    obtain ⟨k, hk, rfl⟩ := List.getElem_of_mem hn
    have h1 := (h k hk)
    unfold nodeAt at h1
    rw [List.getD_eq_getElem?_getD, List.getElem?_eq_getElem hk, Option.getD_some] at h1
    unfold I64
    have := h1.1
    have := h1.2.1
    omega
theorem rNodes_put (l : List Int) (h : l.length = 0 ∨ nodesOk l = true) (r : List Nat) : rNodes (putNodes l ++ r, false) = (l, (r, false)) := by
  have hl : l.length ≤ 5 ∧ ∀ n ∈ l, I64 n := by
    rcases h with h | h
    · exact ⟨by omega, fun n hn => by rw [List.eq_nil_of_length_eq_zero h] at hn; simp at hn⟩
    · exact nodesOk_len h
  unfold rNodes putNodes
  rw [putAll_cons, List.append_assoc, rNum_put _ ⟨by omega, by omega⟩]
  simp only
  rw [rNodesGo_put l 7 [] r hl.2 (by simp; omega) (by omega)]
  simp
theorem rItem_put (y : It) (h : mayIt y = true) (r : List Nat) : rItem (putIt y ++ r, false) = (y, (r, false)) := by
  obtain ⟨k, v, n, g⟩ := y
  obtain ⟨h1, h2, h3, h4, h5⟩ := may_sizes h
  simp only at h1 h2 h3 h4 h5
  have hp : putIt (k, v, n, g) ++ r = putText k ++ (putText v ++ (leb (zz n) ++ (leb (zz (gN g)) ++ r))) := by simp [putIt, putTexts, putAll, List.append_assoc]
  rw [hp]
  unfold rItem
  simp only [rText_put k (by omega), rText_put v (by omega), rNum_put n ⟨by omega, by omega⟩, rNum_put (gN g) (gN_i64 g)]
  cases g <;> rfl
theorem rItems_put : ∀ (l : List It) (f : Nat) (acc : List It) (r : List Nat), l.all mayIt = true → acc.length + l.length ≤ 5 → l.length < f → rItems f (l.length : Int) acc (putIts l ++ r, false) = (acc ++ l, (r, false)) := by
  intro l
  induction l with
  | nil =>
    intro f acc r _ _ hf
    obtain ⟨f, rfl⟩ : ∃ k, f = k + 1 := ⟨f - 1, by omega⟩
    simp [rItems, putIts]
  | cons a t ih =>
    intro f acc r h hl hf
    obtain ⟨f, rfl⟩ : ∃ k, f = k + 1 := ⟨f - 1, by omega⟩
    have hl' : acc.length + (t.length + 1) ≤ 5 := hl
    have hf' : t.length + 1 < f + 1 := hf
    have ha : mayIt a = true ∧ t.all mayIt = true := by simpa using h
    have hp : putIts (a :: t) ++ r = putIt a ++ (putIts t ++ r) := by simp [putIts, List.append_assoc]
    unfold rItems
    rw [if_pos ⟨by simp only [List.length_cons]; omega, rfl, by omega⟩, hp, rItem_put a ha.1 (putIts t ++ r)]
    rw [show ((a :: t).length : Int) - 1 = (t.length : Int) by simp only [List.length_cons]; omega]
    rw [ih f (acc ++ [a]) r ha.2 (by simp only [List.length_append, List.length_cons, List.length_nil]; omega) (by omega)]
    simp
theorem rMk_put (x : Mk) (h1 : I64 x.1) (h2 : x.2.size ≤ 65536) (r : List Nat) : rMk (putMk x ++ r, false) = (x, (r, false)) := by
  have hp : putMk x ++ r = leb (zz x.1) ++ (putText x.2 ++ r) := by simp [putMk, putAll, List.append_assoc]
  rw [hp]
  unfold rMk
  rw [rNum_put x.1 h1, rText_put x.2 h2]
theorem rMks_put : ∀ (l : List Mk) (f : Nat) (acc : List Mk) (r : List Nat), (∀ x ∈ l, I64 x.1 ∧ x.2.size ≤ 65536) → acc.length + l.length ≤ 5 → l.length < f → rMks f (l.length : Int) acc (putMks l ++ r, false) = (acc ++ l, (r, false)) := by
  intro l
  induction l with
  | nil =>
    intro f acc r _ _ hf
    obtain ⟨f, rfl⟩ : ∃ k, f = k + 1 := ⟨f - 1, by omega⟩
    simp [rMks, putMks]
  | cons a t ih =>
    intro f acc r h hl hf
    obtain ⟨f, rfl⟩ : ∃ k, f = k + 1 := ⟨f - 1, by omega⟩
    have hl' : acc.length + (t.length + 1) ≤ 5 := hl
    have hf' : t.length + 1 < f + 1 := hf
    have hp : putMks (a :: t) ++ r = putMk a ++ (putMks t ++ r) := by simp [putMks, List.append_assoc]
    have ha := h a (by simp)
    unfold rMks
    rw [if_pos ⟨by simp only [List.length_cons]; omega, rfl, by omega⟩, hp, rMk_put a ha.1 ha.2 (putMks t ++ r)]
    rw [show ((a :: t).length : Int) - 1 = (t.length : Int) by simp only [List.length_cons]; omega]
    rw [ih f (acc ++ [a]) r (fun x hx => h x (by simp [hx])) (by simp only [List.length_append, List.length_cons, List.length_nil]; omega) (by omega)]
    simp
theorem mksOk_all {l : List Mk} (h : mksOk l = true) : ∀ x ∈ l, 1 ≤ x.1 ∧ x.1 ≤ 1099511627776 ∧ 1 ≤ x.2.size ∧ x.2.size ≤ 40 := by
  intro x hx
  obtain ⟨k, hk, rfl⟩ := List.getElem_of_mem hx
  unfold mksOk at h
  have h1 := (of_decide_eq_true h) k hk
  unfold mkAt at h1
  rw [List.getD_eq_getElem?_getD, List.getElem?_eq_getElem hk, Option.getD_some] at h1
  have h2 := h1.2.2.1
  unfold itKey at h2
  simp only [Bool.and_eq_true, decide_eq_true_eq] at h2
  exact ⟨h1.1, h1.2.1, h2.1, h2.2⟩
structure MayM (m : Ms) : Prop where
  kind : 1 ≤ m.kind ∧ m.kind ≤ 14
  ne : m.src ≠ m.dst
  src : 0 ≤ m.src ∧ m.src ≤ 5
  dst : 0 ≤ m.dst ∧ m.dst ≤ 5
  epoch : 0 ≤ m.epoch ∧ m.epoch ≤ 1099511627776
  tick : 0 ≤ m.tick ∧ m.tick ≤ 1099511627776
  seq : 0 ≤ m.seq ∧ m.seq ≤ 1099511627776
  id : 0 ≤ m.id ∧ m.id ≤ 1099511627776
  base : 0 ≤ m.base ∧ m.base ≤ 1099511627776
  n : 0 ≤ m.n ∧ m.n ≤ 1073741824
  op : 0 ≤ m.op ∧ m.op ≤ 2
  key : m.key.size ≤ 40
  err : 0 ≤ m.err ∧ m.err ≤ 10
  it : m.it = it0 ∨ mayIt m.it = true
  mks : mksOk m.mks = true
  its : m.its.all mayIt = true
  itsn : m.its.length ≤ 4
  mksn : m.mks.length ≤ 4
  mem : m.mem.length = 0 ∨ nodesOk m.mem = true
  old : m.old.length = 0 ∨ nodesOk m.old = true
theorem mayM_iff (m : Ms) : mayM m = true ↔ MayM m := by
  unfold mayM headOk midOk listsOk inB
  simp only [Bool.and_eq_true, Bool.or_eq_true, decide_eq_true_eq, Bool.not_eq_true', decide_eq_false_iff_not, List.all_cons, List.all_nil, and_true]
  constructor
  · rintro ⟨⟨h1, h2, h3, ⟨h4, h5⟩, ⟨h6, h7, h8, h9, h10⟩, h11⟩, ⟨h12, h13, h14⟩, h15, h16, h17, h18, h19, h20, h21⟩
    exact ⟨⟨h1, h2⟩, h3, h4, h5, h6, h7, h8, h9, h10, h11, h12, h13, h14, h15, h16, h17, h18, h19, h20, h21⟩
  · rintro ⟨⟨h1, h2⟩, h3, h4, h5, h6, h7, h8, h9, h10, h11, h12, h13, h14, h15, h16, h17, h18, h19, h20, h21⟩
    exact ⟨⟨h1, h2, h3, ⟨h4, h5⟩, ⟨h6, h7, h8, h9, h10⟩, h11⟩, ⟨h12, h13, h14⟩, h15, h16, h17, h18, h19, h20, h21⟩
theorem encIts_may {l : List It} (h : l.all mayIt = true) : encIts l = putIts l := by unfold encIts; rw [if_pos h]
theorem rAll_put (m : Ms) (h : mayM m = true) (r : List Nat) : rAll (mText m ++ r, false) = (m, (r, false)) := by
  have hm := (mayM_iff m).1 h
  have hits := encIts_may hm.its
  have hmk : ∀ x ∈ m.mks, I64 x.1 ∧ x.2.size ≤ 65536 := fun x hx => by
    have := mksOk_all hm.mks x hx
    unfold I64
    exact ⟨⟨by omega, by omega⟩, by omega⟩
  have hp : mText m ++ r = leb (zz m.kind) ++ (leb (zz m.src) ++ (leb (zz m.dst) ++ (leb (zz m.epoch) ++ (leb (zz m.tick) ++ (leb (zz m.seq) ++ (leb (zz m.n) ++ (leb (zz m.id) ++ (leb (zz m.op) ++ (leb (zz m.err) ++ (leb (zz (gN m.last)) ++ (leb (zz m.base) ++ (putText m.key ++ (putNodes m.mem ++ (putNodes m.old ++ (leb (zz (gN (hasM m))) ++ (leb (zz (m.its.length : Int)) ++ (leb (zz (m.mks.length : Int)) ++ ((if hasM m = true then encIts [m.it] else []) ++ (putIts m.its ++ (putMks m.mks ++ r)))))))))))))))))))) := by
    unfold mText mText3 mText2 mText1 mNums
    rw [hits]
    simp [putAll, List.append_assoc]
  have hF : rFields (mText m ++ r, false) = (⟨m.kind, m.src, m.dst, m.epoch, m.tick, m.seq, m.n, m.id, m.op, m.key, m.err, m.last, it0, [], [], m.mem, m.base, m.old⟩, (leb (zz (gN (hasM m))) ++ (leb (zz (m.its.length : Int)) ++ (leb (zz (m.mks.length : Int)) ++ ((if hasM m = true then encIts [m.it] else []) ++ (putIts m.its ++ (putMks m.mks ++ r))))), false)) := by
    rw [hp]
    unfold rFields
    have a1 := hm.kind; have a2 := hm.src; have a3 := hm.dst; have a4 := hm.epoch; have a5 := hm.tick; have a6 := hm.seq; have a7 := hm.id; have a8 := hm.base; have a9 := hm.n; have a10 := hm.op; have a11 := hm.err
    simp only [rNum_put m.kind ⟨by omega, by omega⟩, rNum_put m.src ⟨by omega, by omega⟩, rNum_put m.dst ⟨by omega, by omega⟩, rNum_put m.epoch ⟨by omega, by omega⟩, rNum_put m.tick ⟨by omega, by omega⟩, rNum_put m.seq ⟨by omega, by omega⟩, rNum_put m.n ⟨by omega, by omega⟩, rNum_put m.id ⟨by omega, by omega⟩, rNum_put m.op ⟨by omega, by omega⟩, rNum_put m.err ⟨by omega, by omega⟩, rNum_put (gN m.last) (gN_i64 _), rNum_put m.base ⟨by omega, by omega⟩, rText_put m.key (by have := hm.key; omega), rNodes_put m.mem hm.mem, rNodes_put m.old hm.old]
    cases m.last <;> rfl
  unfold rAll
  have b1 := hm.itsn; have b2 := hm.mksn
  simp only [hF, rNum_put (gN (hasM m)) (gN_i64 _), rNum_put (m.its.length : Int) ⟨by omega, by omega⟩, rNum_put (m.mks.length : Int) ⟨by omega, by omega⟩]
  by_cases hi : m.it = it0
  · have hh : hasM m = false := by unfold hasM; simp [hi]
    rw [hh]
    simp only [gN, Bool.false_eq_true, if_false, List.nil_append, show ¬ (0 : Int) = 1 by decide]
    rw [rItems_put m.its 6 [] _ hm.its (by simp; omega) (by omega)]
    simp only [List.nil_append]
    rw [rMks_put m.mks 6 [] _ hmk (by simp; omega) (by omega)]
    simp only [List.nil_append]
    rw [← hi]
  · have hh : hasM m = true := by unfold hasM; simp [hi]
    have hmi : mayIt m.it = true := by rcases hm.it with h | h; exact absurd h hi; exact h
    rw [hh]
    have e1 : encIts [m.it] = putIt m.it := by rw [encIts_may (by simp [hmi])]; simp [putIts]
    simp only [gN, if_true, e1]
    rw [rItem_put m.it hmi]
    simp only
    rw [rItems_put m.its 6 [] _ hm.its (by simp; omega) (by omega)]
    simp only [List.nil_append]
    rw [rMks_put m.mks 6 [] _ hmk (by simp; omega) (by omega)]
    simp only [List.nil_append]
theorem encM_may {m : Ms} (h : encM m ≠ []) : mayM m = true := by
  unfold encM at h
  split at h
  · assumption
  · exact absurd rfl h
theorem encM_eq {m : Ms} (h : mayM m = true) : encM m = mText m ++ four (crcSum (mText m)) := by unfold encM; rw [if_pos h]
theorem encM_ne {m : Ms} (h : mayM m = true) : encM m ≠ [] := by
  rw [encM_eq h]; intro e; have := congrArg List.length e; simp [four] at this
theorem encM_no {m : Ms} (h : mayM m = false) : encM m = [] := by unfold encM; rw [if_neg (by rw [h]; decide)]
theorem encM_len {m : Ms} (h : mayM m = true) : (encM m).length = (mText m).length + 4 := by rw [encM_eq h]; simp [four]
theorem decM_enc (m : Ms) (h : mayM m = true) : decM (encM m) = some m := by
  unfold decM
  have e : (encM m).take ((encM m).length - 4) = mText m := by
    rw [encM_len h, Nat.add_sub_cancel, encM_eq h, List.take_append_of_le_length (Nat.le_refl _), List.take_of_length_le (Nat.le_refl _)]
  have e2 := rAll_put m h []
  rw [List.append_nil] at e2
  rw [e]
  simp only [e2]
  rw [if_neg (by simp [encM_ne h])]
theorem decM_some {b : List Nat} {m : Ms} (h : decM b = some m) : mayM m = true ∧ encM m = b := by
  unfold decM at h
  simp only at h
  split at h
  · exact absurd h (by simp)
  · rename_i hc
    simp only [not_or, Decidable.not_not] at hc
    obtain rfl := Option.some.inj h
    exact ⟨encM_may hc.2.1, hc.2.2⟩
theorem encM_inj {m k : Ms} (hm : mayM m = true) (h : encM m = encM k) : m = k := by
  have hk : mayM k = true := encM_may (by rw [← h]; exact encM_ne hm)
  have h1 := decM_enc m hm
  rw [h, decM_enc k hk] at h1
  exact (Option.some.inj h1).symm
/-- Two messages' bytes, of which one begins as the other one, are one message's. -/
theorem encM_begin {m k : Ms} (hm : mayM m = true) (hk : mayM k = true) (r s : List Nat) (h : encM m ++ r = encM k ++ s) : m = k ∧ r = s := by
  have h1 := rAll_put m hm (four (crcSum (mText m)) ++ r)
  have h2 := rAll_put k hk (four (crcSum (mText k)) ++ s)
  rw [← List.append_assoc, ← encM_eq hm] at h1
  rw [← List.append_assoc, ← encM_eq hk, ← h, h1] at h2
  have e : m = k := congrArg Prod.fst h2
  subst e
  exact ⟨rfl, List.append_cancel_left h⟩
theorem decM_more {m : Ms} (hm : mayM m = true) (x : Nat) : decM (encM m ++ [x]) = none := by
  cases h : decM (encM m ++ [x]) with
  | none => rfl
  | some k =>
    obtain ⟨hk, e⟩ := decM_some h
    obtain ⟨rfl, hr⟩ := encM_begin hm hk [x] [] (by rw [List.append_nil, e])
    simp at hr
theorem decM_cut {m : Ms} (hm : mayM m = true) (n : Nat) (hn : n < (encM m).length) : decM ((encM m).take n) = none := by
  cases h : decM ((encM m).take n) with
  | none => rfl
  | some k =>
    obtain ⟨hk, e⟩ := decM_some h
    obtain ⟨rfl, hr⟩ := encM_begin hm hk [] ((encM m).drop n) (by rw [List.append_nil, e, List.take_append_drop])
    have := congrArg List.length hr
    rw [List.length_drop] at this
    simp at this
    omega
theorem crcOf_lt' (l : List Nat) (h : ∀ c ∈ l, c < 256) : crcSum l < 4294967296 := by unfold crcSum; omega
theorem four_inj {a b : Nat} (ha : a < 4294967296) (hb : b < 4294967296) (h : four a = four b) : a = b := by
  unfold four at h
  simp only [List.cons.injEq, and_true] at h
  omega
theorem decM_turned {m : Ms} (hm : mayM m = true) (hb : ∀ c ∈ mText m, c < 256) (p x : Nat) (hp : p < (encM m).length) (hx : x < 256) (hne : x ≠ (encM m).getD p 0) : decM ((encM m).set p x) = none := by
  cases h : decM ((encM m).set p x) with
  | none => rfl
  | some k =>
    exfalso
    obtain ⟨hk, e⟩ := decM_some h
    have hlen : (mText k).length = (mText m).length := by
      have := congrArg List.length e
      rw [List.length_set, encM_len hk, encM_len hm] at this
      omega
    rw [encM_eq hk, encM_eq hm] at e
    rw [encM_eq hm] at hp hne
    by_cases hpt : p < (mText m).length
    · rw [List.set_append_left _ _ hpt] at e
      obtain ⟨e1, e2⟩ := List.append_inj e (by rw [hlen, List.length_set])
      have hkb : ∀ c ∈ mText k, c < 256 := by
        rw [e1]; intro c hc
        rcases List.mem_or_eq_of_mem_set hc with hc | rfl
        · exact hb c hc
        · exact hx
      have e3 := four_inj (crcOf_lt' _ hkb) (crcOf_lt' _ hb) e2
      rw [e1] at e3
      rw [List.getD_eq_getElem?_getD, List.getElem?_append_left hpt, List.getElem?_eq_getElem hpt, Option.getD_some] at hne
      have s1 : mText m = (mText m).take p ++ (mText m)[p] :: (mText m).drop (p + 1) := by
        rw [← List.drop_eq_getElem_cons hpt, List.take_append_drop]
      have s2 : (mText m).set p x = (mText m).take p ++ x :: (mText m).drop (p + 1) := by
        rw [List.set_eq_take_append_cons_drop, if_pos hpt]
      have key := crcSum_one ((mText m).take p) ((mText m).drop (p + 1)) x (mText m)[p] (fun c hc => hb c (List.mem_of_mem_take hc)) (fun c hc => hb c (List.mem_of_mem_drop hc)) hx (hb _ (List.getElem_mem hpt)) hne
      rw [← s1, ← s2] at key
      exact key e3
    · rw [List.set_append_right _ _ (by omega)] at e
      obtain ⟨e1, e2⟩ := List.append_inj e hlen
      rw [e1] at e2
      have hq : p - (mText m).length < (four (crcSum (mText m))).length := by
        rw [List.length_append] at hp; omega
      rw [List.getD_eq_getElem?_getD, List.getElem?_append_right (by omega), List.getElem?_eq_getElem hq, Option.getD_some] at hne
      have : ((four (crcSum (mText m))).set (p - (mText m).length) x)[p - (mText m).length]? = some x := List.getElem?_set_self hq
      rw [← e2, List.getElem?_eq_getElem hq] at this
      exact hne (Option.some.inj this).symm
/-! Bytes are bytes; how many there are. -/
theorem putText_byte (t : ByteArray) : ∀ c ∈ putText t, c < 256 := by
  unfold putText
  intro c hc
  rcases List.mem_append.1 hc with hc | hc
  · exact leb_byte _ c hc
  · unfold sb at hc
    obtain ⟨u, _, rfl⟩ := List.mem_map.1 hc
    exact u.toNat_lt
theorem putTexts_byte (l : List ByteArray) : ∀ c ∈ putTexts l, c < 256 := by
  intro c hc
  unfold putTexts at hc
  obtain ⟨t, ht, hc⟩ := List.mem_flatten.1 hc
  obtain ⟨u, _, rfl⟩ := List.mem_map.1 ht
  exact putText_byte u c hc
theorem putIts_byte (l : List It) : ∀ c ∈ putIts l, c < 256 := by
  intro c hc
  unfold putIts at hc
  obtain ⟨t, ht, hc⟩ := List.mem_flatten.1 hc
  obtain ⟨u, _, rfl⟩ := List.mem_map.1 ht
  unfold putIt at hc
  rcases List.mem_append.1 hc with hc | hc
  · exact putTexts_byte _ c hc
  · exact putAll_byte _ c hc
theorem encIts_byte (l : List It) : ∀ c ∈ encIts l, c < 256 := by
  intro c hc
  unfold encIts at hc
  split at hc
  · exact putIts_byte _ c hc
  · simp at hc
theorem mText_byte (m : Ms) : ∀ c ∈ mText m, c < 256 := by
  intro c hc
  unfold mText mText3 mText2 mText1 putNodes putMks at hc
  simp only [List.mem_append] at hc
  rcases hc with (((((((hc | hc) | hc) | hc) | hc) | hc) | hc) | hc)
  · exact putAll_byte _ c hc
  · exact putText_byte _ c hc
  · exact putAll_byte _ c hc
  · exact putAll_byte _ c hc
  · exact putAll_byte _ c hc
  · split at hc
    · exact encIts_byte _ c hc
    · simp at hc
  · exact encIts_byte _ c hc
  · obtain ⟨t, ht, hc⟩ := List.mem_flatten.1 hc
    obtain ⟨u, _, rfl⟩ := List.mem_map.1 ht
    unfold putMk at hc
    rcases List.mem_append.1 hc with hc | hc
    · exact putAll_byte _ c hc
    · exact putText_byte _ c hc
theorem four_byte (n : Nat) : ∀ c ∈ four n, c < 256 := by
  intro c hc
  unfold four at hc
  simp only [List.mem_cons, List.not_mem_nil, or_false] at hc
  omega
theorem encM_byte (m : Ms) : ∀ c ∈ encM m, c < 256 := by
  intro c hc
  unfold encM at hc
  split at hc
  · rcases List.mem_append.1 hc with hc | hc
    · exact mText_byte m c hc
    · exact four_byte _ c hc
  · simp at hc
end Go.Proofs.Ytcoaobdijlppgaa
/- The reader of messages: took, num, text, nodes, item. -/
namespace Go.Proofs.Ytcoaobdijlppgaa
open Go.ChangeShapes Go.WideShapes Go.ChangeAt Go.RowKit
set_option linter.unusedVariables false
set_option linter.unusedSimpArgs false
set_option maxRecDepth 100000

structure Rok (s : Rs) : Prop where
  byte : ∀ c ∈ s.1, c < 256
  len : s.1.length ≤ 1099511627776
theorem Rok.took {s : Rs} (h : Rok s) (n e : Nat) : Rok (tookR s n e) := by
  unfold tookR
  split
  · exact ⟨h.byte, h.len⟩
  · exact ⟨fun c hc => h.byte c (List.mem_of_mem_drop hc), by have := h.len; simp only [List.length_drop]; omega⟩
theorem rd_cut {w : World} {v : Value} {l : List Nat} (k : Nat) (h : Rv w 1 v (l.length - k) ((bcs l).drop k)) : Rd w v (l.drop k) := by
  unfold Rd
  rw [List.length_drop, show bcs (l.drop k) = (bcs l).drop k by simp [bcs, List.map_drop]]
  exact h
theorem get_ok (l : List Nat) (hb : ∀ c ∈ l, c < 256) : (get l).2.1 ≤ l.length ∧ I64 (get l).1 := by
  have h : (get l) = getGo l 0 0 := rfl
  rw [h]
  rcases getGo_facts l 0 0 (by omega) (by simp) hb with ⟨h1, h2, h3, h4, h5, h6⟩ | ⟨h1, h2, h3, h4⟩
  · exact ⟨by omega, h5, h6⟩
  · rw [h3, h4]; exact ⟨by omega, by unfold I64; omega⟩
theorem rNum_i64 (s : Rs) (h : Rok s) : I64 (rNum s).1 := (get_ok s.1 h.byte).2
theorem Rok.num {s : Rs} (h : Rok s) : Rok (rNum s).2 := h.took _ _
theorem Rok.text {s : Rs} (h : Rok s) : Rok (rText s).2 := h.took _ _
theorem getText_ok (l : List Nat) (hb : ∀ c ∈ l, c < 256) (hl : l.length ≤ 1099511627776) : (getText l).2.1 ≤ l.length ∧ (toStr (getText l).1).size ≤ 65536 := by
  have hf := getGo_facts l 0 0 (by omega) (by simp) hb
  have hG : get l = getGo l 0 0 := rfl
  rw [← hG] at hf
  unfold getText
  generalize get l = g at *
  obtain ⟨n, k, e⟩ := g
  simp only at hf ⊢
  have hz : ∀ x : List Nat, (toStr x).size = x.length := fun x => by simp [toStr, ByteArray.size]
  rw [hz]
  split
  · simp
  · split
    · simp
    · split
      · simp
      · simp only [List.length_take, List.length_drop]
        omega
end Go.Proofs.Ytcoaobdijlppgaa
/- The reader of messages: nodes, item. -/
namespace Go.Proofs.Ytcoaobdijlppgaa
open Go.ChangeShapes Go.WideShapes Go.ChangeAt Go.RowKit
set_option linter.unusedVariables false
set_option linter.unusedSimpArgs false
set_option maxRecDepth 100000

def lenOf : Value → Nat
  | .slice _ n _ => n
  | _ => 0
theorem ints_app (a b : List Int) : ints (a ++ b) = ints a ++ ints b := by simp [ints]
theorem ints_len (a : List Int) : (ints a).length = a.length := by simp [ints]
theorem rNodesGo_go (f : Nat) (n : Int) (acc : List Int) (s : Rs) (h : 0 < n ∧ s.2 = false ∧ acc.length ≤ 5) : rNodesGo (f + 1) n acc s = rNodesGo f (n - 1) (acc ++ [(rNum s).1]) (rNum s).2 := by
  conv => lhs; unfold rNodesGo
  rw [if_pos h]
theorem rNodesGo_end (f : Nat) (n : Int) (acc : List Int) (s : Rs) (h : ¬ (0 < n ∧ s.2 = false ∧ acc.length ≤ 5)) : rNodesGo f n acc s = (acc, s) := by
  cases f with
  | zero => rfl
  | succ f => unfold rNodesGo; rw [if_neg h]
/-- A row of numbers of the call's own. -/
def NRow (w : World) (base : Nat) (v : Value) (l : List Int) : Prop := w.ownsRow base 3 1 v l.length (ints l)
theorem NRow.rd {w : World} {base : Nat} {v : Value} {l : List Int} (h : NRow w base v l) : Rv w 1 v l.length (ints l) := ownsRow_rv h
theorem NRow.slice {w : World} {base : Nat} {v : Value} {l : List Int} (h : NRow w base v l) : ∃ a cap, v = .slice a l.length cap := ownsRow_slice h
theorem NRow.lt {w : World} {base : Nat} {v : Value} {l : List Int} (h : NRow w base v l) : ∀ k, v.ownBlock = some k → base ≤ k ∧ k < w.heap.size := World.ownsRow.lt h
theorem NRow.keep {w w' : World} {base : Nat} {v : Value} {l : List Int} {S : List Nat} (h : NRow w base v l) (k : Keep S w w') (hS : ∀ b, v.ownBlock = some b → b ∉ S) : NRow w' base v l := by
  have h' : Own w base 3 v (ints l) := by unfold Own; rw [ints_len]; exact h
  have := h'.keep k hS
  unfold Own at this; rw [ints_len] at this; exact this
theorem NRow.mono {w : World} {base base' : Nat} {v : Value} {l : List Int} (h : NRow w base v l) (hb : base' ≤ base) : NRow w base' v l := by
  have h' : Own w base 3 v (ints l) := by unfold Own; rw [ints_len]; exact h
  have := h'.mono hb
  unfold Own at this; rw [ints_len] at this; exact this
theorem NRow.alloc {w : World} {base : Nat} {v : Value} {l : List Int} (h : NRow w base v l) (o : Obj) : NRow (w.alloc o) base v l := World.ownsRow.alloc h o
theorem NRow.nil (w : World) (base : Nat) : NRow w base (.slice none 0 0) [] := World.ownsRow_nil w base _ 1
theorem NRow.ty {w : World} {base : Nat} {v : Value} {l : List Int} (h : NRow w base v l) : ∀ k, v.ownBlock = some k → Ty w k 3 := by
  have h' : Own w base 3 v (ints l) := by unfold Own; rw [ints_len]; exact h
  exact h'.ty
theorem rText_size (s : Rs) (h : Rok s) : (rText s).1.size ≤ 65536 := (getText_ok s.1 h.byte h.len).2
theorem eq_one (n : Int) : (n == 1) = (n == 1 : Bool) := rfl
end Go.Proofs.Ytcoaobdijlppgaa
/- A device's cells: sectors one behind the other in one block; what a store of some cells does to them. No program. -/
namespace Go.Proofs.Ytcoaobdijlppgaa
open Go.ChangeShapes Go.WideShapes Go.ChangeAt Go.RowKit
set_option linter.unusedVariables false
set_option linter.unusedSimpArgs false
set_option maxRecDepth 100000

/-- A part of a list written over. -/
def over {α : Type} (l : List α) (o : Nat) (vs : List α) : List α := l.take o ++ (vs ++ l.drop (o + vs.length))
theorem over_length {α : Type} (l : List α) (o : Nat) (vs : List α) (h : o + vs.length ≤ l.length) : (over l o vs).length = l.length := by
  unfold over; simp; omega
theorem over_nil {α : Type} (l : List α) (o : Nat) : over l o [] = l := by simp [over]
theorem over_cons {α : Type} (l : List α) (o : Nat) (v : α) (vs : List α) (h : o + (vs.length + 1) ≤ l.length) : over (l.set o v) (o + 1) vs = over l o (v :: vs) := by
  unfold over
  have e1 : (l.set o v).take (o + 1) = l.take o ++ [v] := by
    rw [List.take_succ_eq_append_getElem (by simp; omega), List.take_set_of_le (Nat.le_refl _)]
    simp
  have e2 : (l.set o v).drop (o + 1 + vs.length) = l.drop (o + (vs.length + 1)) := by
    rw [List.drop_set_of_lt (by omega), show o + 1 + vs.length = o + (vs.length + 1) by omega]
  rw [e1, e2]
  simp

theorem Blk.setCells {b : Nat} {T : TypeId} : ∀ (vs : List Value) (o : Nat) (w : World) (cs : List Value), Blk w b cs T → o + vs.length ≤ cs.length → Blk (w.setCells b o vs) b (over cs o vs) T := by
  intro vs
  induction vs with
  | nil => intro o w cs h _; rw [over_nil]; exact h
  | cons v vs ih =>
    intro o w cs h hle
    simp only [List.length_cons] at hle
    rw [← over_cons cs o v vs (by omega)]
    exact ih (o + 1) _ _ (h.set o v) (by simp; omega)
theorem Keep.setCells {S : List Nat} {b : Nat} : ∀ (vs : List Value) (o : Nat) (a w : World), Keep S a w → b ∈ S ∨ a.heap.size ≤ b → Keep S a (w.setCells b o vs) := by
  intro vs
  induction vs with
  | nil => intro o a w h _; exact h
  | cons v vs ih => intro o a w h hb; exact ih (o + 1) a _ (h.setCell hb v) hb
theorem Blk.range {w : World} {b : Nat} {cs : List Value} {T : TypeId} (h : Blk w b cs T) (o n : Nat) : w.rangeAt b o ((cs.drop o).take n) := by
  intro j v hj
  rw [h.cell]
  rw [List.getElem?_take] at hj
  split at hj
  · rw [← hj, List.getElem?_drop]
  · cases hj
theorem Blk.there {w : World} {b : Nat} {cs : List Value} {T : TypeId} (h : Blk w b cs T) (o n : Nat) (hn : o + n ≤ cs.length) : w.there b o n := by
  intro j hj
  exact ⟨by rw [h.cell, List.getElem?_eq_getElem (by omega)]; rfl, h.free _⟩

/-- A store of all cells of a block. -/
theorem wpList_store_blk {P : Program} {ops : Array Oper} {rest : List Oper} {op : Oper} {a : Act} {w : World} {Q : Exit → Act → World → Prop} (hgd : op.guard = none) (ty : TypeId) (x y : Operand) (ho : op.op = .store ty x y)
    (b : Nat) (old cells : List Value) (T : TypeId) (hx : a.eval x = .pointer (some ⟨b, 0, none⟩)) (hy : a.eval y = .agg cells.toArray)
    (hb : Blk w b old T) (hl : old.length = cells.length) (hi : (P.info? ty).map (·.size) = some cells.length) (h1 : ∀ v ∈ cells, v.oneCell' = true)
    (h : ∀ w', Blk w' b cells T → Keep [b] w w' → wpList P ops Q rest (a.put op.dst undef) w') : wpList P ops Q (op :: rest) a w := by
  refine wpList_store_mid hgd ty x y ho b 0 cells.toArray hx hy (hb.there 0 _ (by simp; omega)) (by simpa using hi) (all_oneCell_toArray h1) (h _ ?_ (Keep.setCells _ _ _ _ (Keep.refl _ _) (.inl (by simp))))
  have := hb.setCells cells 0 w _ (by omega)
  unfold over at this
  rw [List.drop_of_length_le (by omega)] at this
  simpa using this
/-- A load of a row in the midst of a block, in a region that draws its order and ends in one store ('wp_region_still_tail'). -/
theorem wpStill_load_mid {P : Program} {ops : Array Oper} {w : World} {Q : Act → Prop} {a : Act} {op : Oper} {rest : List Oper} (hgd : op.guard = none) (ty : TypeId) (x : Operand) (ho : op.op = .load ty x)
    (b o : Nat) (hx : a.eval x = .pointer (some ⟨b, o, none⟩)) (cs : List Value) (d : TypeDesc) (hc : w.rangeAt b o cs)
    (hu : P.underlying ty = some d) (hd : d.isRow = true) (hi : (P.info? ty).map (·.size) = some cs.length)
    (h : wpStill P ops w Q rest (a.put op.dst (.agg cs.toArray))) : wpStill P ops w Q (op :: rest) a := by
  refine wpStill_step (fun K hK => ?_)
  rw [if_pos (by simp [Region.wanted, hgd])]
  unfold Oper.still execOp
  simp only [ho, hx, Instr.loadAt, Instr.sureAddr, Sem.run_bind, Sem.run_pure, Result.andThen_ok, run_loadVar_mid w b o ty cs d hc hu hd hi]
  exact ⟨rfl, hK _ h⟩
/-- A struct or a row that is built, in such a region. -/
theorem wpStill_build {P : Program} {ops : Array Oper} {w : World} {Q : Act → Prop} {a : Act} {op : Oper} {rest : List Oper} (hgd : op.guard = none) (t : TypeId) (parts : Array (Nat × Operand)) (ho : op.op = .build t parts)
    (ps : Array (Nat × Value)) (hp : (parts.map fun (i, x) => (i, a.eval x)) = ps) (v : Value) (hr : (Instr.build t ps).run P w = .ok v w)
    (h : wpStill P ops w Q rest (a.put op.dst v)) : wpStill P ops w Q (op :: rest) a := by
  refine wpStill_step (fun K hK => ?_)
  rw [if_pos (by simp [Region.wanted, hgd])]
  unfold Oper.still execOp
  simp only [ho, hp, Sem.run_bind, Sem.run_pure, Result.andThen_ok, hr]
  exact ⟨rfl, hK _ h⟩
/-- A sector: what is there, what lasts, whether they may differ. -/
structure Sec where
  now : List Nat
  lasts : List Nat
  loose : Bool
def Sec.ok (s : Sec) : Prop := s.now.length = 64 ∧ s.lasts.length = 64 ∧ (∀ c ∈ s.now, c < 256) ∧ ∀ c ∈ s.lasts, c < 256
def secCells (s : Sec) : List Value := bcs s.now ++ (bcs s.lasts ++ [.bool s.loose])
theorem secCells_length {s : Sec} (h : s.ok) : (secCells s).length = 129 := by
  unfold secCells; simp [h.1, h.2.1]
def devCells (l : List Sec) : List Value := (l.map secCells).flatten
theorem devCells_length {l : List Sec} (h : ∀ s ∈ l, s.ok) : (devCells l).length = 129 * l.length := by
  induction l with
  | nil => rfl
  | cons s l ih =>
    have := ih (fun x hx => h x (by simp [hx]))
    have h1 := secCells_length (h s (by simp))
    simp only [devCells, List.map_cons, List.flatten_cons, List.length_append, List.length_cons] at *
    omega
theorem devCells_append (l m : List Sec) : devCells (l ++ m) = devCells l ++ devCells m := by simp [devCells]
theorem devCells_cons (s : Sec) (m : List Sec) : devCells (s :: m) = secCells s ++ devCells m := by simp [devCells]
theorem dev_split {l : List Sec} (i : Nat) (s : Sec) (hi : l[i]? = some s) : l = l.take i ++ s :: l.drop (i + 1) := by
  have hlt : i < l.length := (List.getElem?_eq_some_iff.1 hi).1
  have e := (List.getElem?_eq_some_iff.1 hi).2
  rw [← e, ← List.drop_eq_getElem_cons hlt, List.take_append_drop]
theorem devCells_range {l : List Sec} (h : ∀ s ∈ l, s.ok) (i : Nat) (s : Sec) (hi : l[i]? = some s) (j n : Nat) (hj : j + n ≤ 129) :
    ((devCells l).drop (i * 129 + j)).take n = ((secCells s).drop j).take n := by
  have hlt : i < l.length := (List.getElem?_eq_some_iff.1 hi).1
  have e := dev_split i s hi
  have hs : s.ok := h s (List.mem_of_getElem? hi)
  have hl := secCells_length hs
  have hp : (devCells (l.take i)).length = i * 129 := by
    rw [devCells_length (fun x hx => h x (List.mem_of_mem_take hx)), List.length_take]; omega
  rw [e, devCells_append, devCells_cons, List.drop_append, hp, List.drop_of_length_le (by omega), List.nil_append,
    show i * 129 + j - i * 129 = j by omega, List.drop_append, hl, List.take_append_of_le_length (by rw [List.length_drop]; omega)]
theorem devCells_over {l : List Sec} (h : ∀ s ∈ l, s.ok) (i : Nat) (s s' : Sec) (hi : l[i]? = some s) (hs' : s'.ok) (j : Nat) (vs : List Value) (hj : j + vs.length ≤ 129) (he : over (secCells s) j vs = secCells s') :
    over (devCells l) (i * 129 + j) vs = devCells (l.set i s') := by
  have hlt : i < l.length := (List.getElem?_eq_some_iff.1 hi).1
  have e := dev_split i s hi
  have hs : s.ok := h s (List.mem_of_getElem? hi)
  have hl := secCells_length hs
  have hp : (devCells (l.take i)).length = i * 129 := by
    rw [devCells_length (fun x hx => h x (List.mem_of_mem_take hx)), List.length_take]; omega
  have e2 : l.set i s' = l.take i ++ s' :: l.drop (i + 1) := by
    rw [List.set_eq_take_append_cons_drop, if_pos hlt]
  rw [e2, devCells_append, devCells_cons, ← he]
  conv => lhs; rw [e]
  rw [devCells_append, devCells_cons]
  unfold over
  rw [List.take_append, hp, List.take_of_length_le (by omega), show i * 129 + j - i * 129 = j by omega, List.take_append_of_le_length (by omega),
    List.drop_append, hp, List.drop_of_length_le (by omega), List.nil_append, show i * 129 + j + vs.length - i * 129 = j + vs.length by omega, List.drop_append_of_le_length (by omega)]
  simp
theorem mem_set_ok {l : List Sec} (h : ∀ s ∈ l, s.ok) (i : Nat) (s' : Sec) (hs' : s'.ok) : ∀ s ∈ l.set i s', s.ok := by
  intro s hs
  rcases List.mem_or_eq_of_mem_set hs with h1 | rfl
  · exact h s h1
  · exact hs'

/-! make of so many zero elements -/
theorem madeCells_rep (z : Array Value) (hz : 0 < z.size) (n : Nat) : madeCells z (n * z.size) = ((List.replicate n z.toList).flatten).toArray := by
  apply Array.ext'
  simp only [madeCells, Array.toList_map, Array.toList_range]
  induction n with
  | zero => simp
  | succ n ih =>
    rw [Nat.succ_mul, List.range_add, List.map_append, ih, List.replicate_succ']
    simp only [List.flatten_append, List.flatten_cons, List.flatten_nil, List.append_nil, List.map_map]
    congr 1
    apply List.ext_getElem
    · simp
    · intro j h1 h2
      simp at h1
      simp only [List.getElem_map, List.getElem_range, Function.comp_apply]
      rw [Nat.add_comm, Nat.add_mul_mod_self_right, Nat.mod_eq_of_lt h1, getElem!_pos z j h1]
      simp
theorem wpList_make_n {P : Program} (w : World) {ops : Array Oper} {rest : List Oper} {o : Oper} {a : Act} {Q : Exit → Act → World → Prop}
    (hg : o.guard = none) (l c : Operand) (t : TypeId) (hop : o.op = Op.makeSlice t l c)
    (e : TypeId) (i : TypeInfo) (z : Value) (h1 : P.underlying t = some (.slice e)) (h2 : P.info? e = some i) (h3 : i.zero = some z) (h4 : i.size = z.cells.size) (h5 : 0 < z.cells.size)
    (C : Int) (n : Nat) (hl : a.eval l = .int .i64 C) (hc : a.eval c = .int .i64 C) (hC : C = (n : Int)) (b2 : i.bytes * n ≤ 281474976710656) (b3 : n ≤ 9223372036854775807)
    (hK : wpList P ops Q rest (a.put o.dst (.slice (some ⟨w.heap.size, 0, none⟩) n n)) (w.alloc (.cells ((List.replicate n z.cells.toList).flatten).toArray e))) :
    wpList P ops Q (o :: rest) a w := by
  subst hC
  refine wpList_plain hg fun K hK' => ?_
  have hb2 : (i.bytes : Int) * (n : Int) ≤ 281474976710656 := by
    have h : ((i.bytes * n : Nat) : Int) ≤ 281474976710656 := by omega
    rw [Int.natCast_mul] at h
    exact h
  have hr := run_make (P := P) w t e i z h1 h2 h3 .i64 .i64 (n : Int) (n : Int) (by omega) (by omega) hb2 (by omega)
  rw [h4, Int.toNat_natCast, madeCells_rep _ h5] at hr
  unfold Oper.wp execOp
  simp only [hop, Sem.run_bind, Sem.run_pure, Result.andThen_ok, hl, hc, hr]
  exact hK' _ _ hK

/-! copy into the midst of a block -/
theorem run_copy_mid {P : Program} (w : World) (t tx ty e : TypeId) (i : TypeInfo) (ht : P.underlying t = some (.slice e)) (hi : P.info? e = some i) (hz : i.size = 1) (b off dl dc : Nat) (x : Value) (n : Nat) (news : List Value)
    (hs : Src P 1 tx x n news w) (hn : n ≤ dl) (hth : w.there b off n) :
    (Builtin.copy_ #[t, tx] ty #[.slice (some ⟨b, off, none⟩) dl dc, x]).run P w = .ok (goInt n) (w.setCells b off news) := by
  have hl : news.length = n := by have := hs.newsLen; omega
  have hst := run_storeCells_cells (P := P) b off news 0 w (fun j hj => by simpa using (hth j (by omega)).1) (fun j hj => by simpa using (hth j (by omega)).2) hs.one
  have hm : min n dl = n := Nat.min_eq_left hn
  have h0 := hs.cells
  simp only [Nat.add_zero] at hst
  simp [Builtin.copy_, run_underlying ht, sizeOf, typeInfo, hi, hz, hs.len, hm, h0, Addr.add_lit, hst]
theorem wpList_copy_mid {P : Program} (w : World) {ops : Array Oper} {rest : List Oper} {o : Oper} {a : Act} {Q : Exit → Act → World → Prop} (hgd : o.guard = none) (s x : Operand) (t tx : TypeId)
    (ho : o.op = .call { callee := .builtin .copy, args := #[s, x], argTypes := #[t, tx] }) (e : TypeId) (i : TypeInfo) (ht : P.underlying t = some (.slice e)) (hi : P.info? e = some i) (hz : i.size = 1)
    (b off dl dc : Nat) (hsv : a.eval s = .slice (some ⟨b, off, none⟩) dl dc) (xv : Value) (n : Nat) (news : List Value) (hx : a.eval x = xv) (hs : Src P 1 tx xv n news w) (hn : n ≤ dl) (hth : w.there b off n)
    (h : wpList P ops Q rest (a.put o.dst (goInt n)) (w.setCells b off news)) : wpList P ops Q (o :: rest) a w := by
  have hr := run_copy_mid (P := P) w t tx o.type e i ht hi hz b off dl dc xv n news hs hn hth
  refine wpList_plain hgd fun K hK => ?_
  unfold Oper.wp execOp
  simp only [ho, resolve, invoke, builtin, Sem.run_bind, Sem.run_pure, Result.andThen_ok, List.map_toArray, List.map_cons, List.map_nil, hsv, hx, hr]
  exact hK _ _ h
end Go.Proofs.Ytcoaobdijlppgaa
/- The reader of messages: fields. -/
namespace Go.Proofs.Ytcoaobdijlppgaa
open Go.ChangeShapes Go.WideShapes Go.ChangeAt Go.RowKit
set_option linter.unusedVariables false
set_option linter.unusedSimpArgs false
set_option maxRecDepth 100000

theorem Try.infoMsg : (Try.prog.info? 39).map (fun i => (i.zero, i.size, i.bytes)) = some (some (.agg #[.int .i64 0, .int .i64 0, .int .i64 0, .int .i64 0, .int .i64 0, .int .i64 0, .int .i64 0, .int .i64 0, .int .i64 0, .string ByteArray.empty, .int .i64 0, .bool false, .string ByteArray.empty, .string ByteArray.empty, .int .i64 0, .bool false, .slice none 0 0, .slice none 0 0, .slice none 0 0, .int .i64 0, .slice none 0 0]), 21, 256) := by kernel_rfl
theorem Try.sizeMsg : (Try.prog.info? 39).map (·.size) = some 21 := by kernel_rfl
/-- A message's cells: its rows' values beside it. -/
def msC (m : Ms) (vi vk vm vo : Value) : List Value := [.int .i64 m.kind, .int .i64 m.src, .int .i64 m.dst, .int .i64 m.epoch, .int .i64 m.tick, .int .i64 m.seq, .int .i64 m.n, .int .i64 m.id, .int .i64 m.op, .string m.key, .int .i64 m.err, .bool m.last, .string m.it.1, .string m.it.2.1, .int .i64 m.it.2.2.1, .bool m.it.2.2.2, vi, vk, vm, .int .i64 m.base, vo]
abbrev msV (m : Ms) (vi vk vm vo : Value) : Value := .agg (msC m vi vk vm vo).toArray
theorem msC_one (m : Ms) (a b c d : Option Addr) (na ca nb cb nc cc nd cd : Nat) : ∀ v ∈ msC m (.slice a na ca) (.slice b nb cb) (.slice c nc cc) (.slice d nd cd), v.oneCell' = true := by
  intro v hv
  simp only [msC, List.mem_cons, List.not_mem_nil, or_false] at hv
  rcases hv with rfl | rfl | rfl | rfl | rfl | rfl | rfl | rfl | rfl | rfl | rfl | rfl | rfl | rfl | rfl | rfl | rfl | rfl | rfl | rfl | rfl <;> rfl
theorem rNodes_ok_go (f : Nat) : ∀ (n : Int) (acc : List Int) (s : Rs), Rok s → Rok (rNodesGo f n acc s).2 := by
  induction f with
  | zero => intro n acc s h; exact h
  | succ f ih =>
    intro n acc s h
    unfold rNodesGo
    split
    · exact ih _ _ _ h.num
    · exact h
theorem Rok.nodes {s : Rs} (h : Rok s) : Rok (rNodes s).2 := rNodes_ok_go _ _ _ _ h.num
end Go.Proofs.Ytcoaobdijlppgaa
/- Package msg: in; package points: May. -/
namespace Go.Proofs.Ytcoaobdijlppgaa
open Go.ChangeShapes Go.WideShapes Go.ChangeAt Go.RowKit
set_option linter.unusedVariables false
set_option linter.unusedSimpArgs false
set_option maxRecDepth 100000

theorem inB_false {g : Int} {l : List Int} {j : Nat} (hj : j < l.length) (h : ¬ (0 ≤ l.getD j 0 ∧ l.getD j 0 ≤ g)) : inB g l = false := by
  unfold inB
  rw [List.all_eq_false]
  refine ⟨l[j], List.getElem_mem hj, ?_⟩
  rw [List.getD_eq_getElem?_getD, List.getElem?_eq_getElem hj, Option.getD_some] at h
  simpa using h
theorem inB_true {g : Int} {l : List Int} (h : ∀ j, j < l.length → 0 ≤ l.getD j 0 ∧ l.getD j 0 ≤ g) : inB g l = true := by
  unfold inB
  rw [List.all_eq_true]
  intro x hx
  obtain ⟨k, hk, rfl⟩ := List.getElem_of_mem hx
  have h1 := h k hk
  rw [List.getD_eq_getElem?_getD, List.getElem?_eq_getElem hk, Option.getD_some] at h1
  simpa using h1
set_option maxHeartbeats 2000000 in
theorem in_any {w : World} (g : Int) (nsv : Value) (l : List Int) (h : Rv w 1 nsv l.length (ints l)) (hl : l.length ≤ 1000000) (r : Bool) (hr : r = inB g l) :
    Calls Try.prog 51 #[.int .i64 g, nsv] w fun e w' => e = .returned (.bool r) ∧ w = w' := by
  have HR := Lib.hid hr
  clear hr
  obtain ⟨_, a, cap, rfl, _, _⟩ := id h
  go_enter Try.func51, Try.ntmps51
  go_wp2_with fail
  go_loopw [9] (fun i wr => wr = w ∧ ∃ j : Nat, i = .int .i64 j ∧ j ≤ l.length ∧ ∀ k, k < j → 0 ≤ l.getD k 0 ∧ l.getD k 0 ≤ g) (fun i _ => l.length - (intOf i).toNat)
  case atStart => exact ⟨rfl, 0, rfl, by omega, fun k hk => absurd hk (by omega)⟩
  case round =>
    obtain ⟨hw, j, rfl, hj, hall⟩ := hrel
    subst hw
    by_cases hlt : j < l.length
    · have q0 : (j : Int) < l.length := by omega
      obtain ⟨sb, so, c', he, _, _, hat⟩ := h.at1 (by omega)
      simp only [Value.slice.injEq] at he
      obtain ⟨rfl, _, rfl⟩ := he
      have hcell := hat j hlt
      rw [ints_at _ _ hlt] at hcell
      have HX := Lib.hid (show l.getD j 0 = l.getD j 0 from rfl)
      have hbad := inB_false (g := g) hlt
      have hgood : 0 ≤ l.getD j 0 → l.getD j 0 ≤ g → ∀ k, k < j + 1 → 0 ≤ l.getD k 0 ∧ l.getD k 0 ≤ g := fun a b k hk => by
        by_cases hkj : k < j
        · exact hall k hkj
        · obtain rfl : k = j := by omega
          exact ⟨a, b⟩
      have HB := Lib.hid hbad
      have HG := Lib.hid hgood
      clear hbad hgood hall hat HX
      generalize l.getD j 0 = x at *
      by_cases h1 : x < 0
      · have q1 : decide (x < 0) = true := decide_eq_true h1
        go_wp2_with fail
        go_ret
        exact ⟨by rw [HR.out, HB.out (by omega)]; rfl, rfl⟩
      · have q1 : decide (x < 0) = false := decide_eq_false h1
        by_cases h2 : g < x
        · have q2 : decide (g < x) = true := decide_eq_true h2
          go_wp2_with fail
          go_ret
          exact ⟨by rw [HR.out, HB.out (by omega)]; rfl, rfl⟩
        · have q2 : decide (g < x) = false := decide_eq_false h2
          go_wp2_with fail
          go_roundw
          case rel => exact ⟨by trivial, j + 1, by go_num, by omega, HG.out (by omega) (by omega)⟩
          case measure => simp [intOf]; omega
    · obtain rfl : j = l.length := by omega
      go_wp2_with fail
      go_ret
      exact ⟨by rw [HR.out, inB_true hall]; rfl, rfl⟩
theorem nodesOk_false {l : List Int} {j : Nat} (hj : j < l.length) (h : ¬ nodeAt l j) : nodesOk l = false := by
  unfold nodesOk
  have : ¬ ∀ j, j < l.length → nodeAt l j := fun hh => h (hh j hj)
  rw [decide_eq_false this, Bool.and_false]
theorem nodesOk_true {l : List Int} (hl : 0 < l.length) (h : ∀ j, j < l.length → nodeAt l j) : nodesOk l = true := by
  unfold nodesOk
  rw [decide_eq_true hl, decide_eq_true h]; rfl
theorem nodesOk_nil {l : List Int} (hl : l.length = 0) : nodesOk l = false := by
  unfold nodesOk
  rw [decide_eq_false (by omega)]; rfl
set_option maxHeartbeats 4000000 in
theorem ptsMay_any {w : World} (nsv : Value) (l : List Int) (h : Rv w 1 nsv l.length (ints l)) (hl : l.length ≤ 9223372036854775807) (r : Bool) (hr : r = nodesOk l) :
    Calls Try.prog 25 #[nsv] w fun e w' => e = .returned (.bool r) ∧ w = w' := by
  have HR := Lib.hid hr
  clear hr
  obtain ⟨_, a, cap, rfl, _, _⟩ := id h
  go_enter Try.func25, Try.ntmps25
  go_wp2_with fail
  go_loopw [7] (fun i wr => wr = w ∧ ∃ j : Nat, i = .int .i64 j ∧ j ≤ l.length ∧ ∀ k, k < j → nodeAt l k) (fun i _ => l.length - (intOf i).toNat)
  case atStart => exact ⟨rfl, 0, rfl, by omega, fun k hk => absurd hk (by omega)⟩
  case round =>
    obtain ⟨hw, j, rfl, hj, hall⟩ := hrel
    subst hw
    by_cases hlt : j < l.length
    · have q0 : (j : Int) < l.length := by omega
      obtain ⟨sb, so, c', he, _, _, hat⟩ := h.at1 (by omega)
      simp only [Value.slice.injEq] at he
      obtain ⟨rfl, _, rfl⟩ := he
      have hcell := hat j hlt
      rw [ints_at _ _ hlt] at hcell
      have HB := Lib.hid (nodesOk_false hlt)
      have HA := Lib.hid hall
      have HN := Lib.hid (show nodeAt l j ↔ 1 ≤ l.getD j 0 ∧ l.getD j 0 ≤ 5 ∧ (0 < j → l.getD (j - 1) 0 < l.getD j 0) from Iff.rfl)
      by_cases hj0 : j = 0
      · subst hj0
        clear hall hat
        simp only [Nat.add_zero] at hcell
        generalize l.getD 0 0 = x at *
        by_cases h1 : x < 1
        · have q1 : decide (x < 1) = true := decide_eq_true h1
          go_wp2_with fail
          go_ret
          exact ⟨by rw [HR.out, HB.out (by rw [HN.out]; omega)]; rfl, rfl⟩
        · have q1 : decide (x < 1) = false := decide_eq_false h1
          by_cases h2 : 5 < x
          · have q2 : decide (5 < x) = true := decide_eq_true h2
            go_wp2_with fail
            go_ret
            exact ⟨by rw [HR.out, HB.out (by rw [HN.out]; omega)]; rfl, rfl⟩
          · have q2 : decide (5 < x) = false := decide_eq_false h2
            go_wp2_with fail
            go_roundw
            case rel =>
              refine ⟨by trivial, 1, by first | rfl | go_num, by omega, fun k hk => ?_⟩
              obtain rfl : k = 0 := by omega
              exact HN.out.2 ⟨by omega, by omega, fun h => absurd h (by omega)⟩
            case measure => simp [intOf]; omega
      · have hcell' := hat (j - 1) (by omega)
        rw [ints_at _ _ (by omega)] at hcell'
        have q3 : decide ((j : Int) > 0) = true := decide_eq_true (by omega)
        have q4 : IntKind.i64.wrap ((j : Int) - 1) = ((j - 1 : Nat) : Int) := by rw [IntKind.wrap_i64]; omega
        have q5 : ((j - 1 : Nat) : Int) < l.length := by omega
        clear hall hat
        generalize l.getD j 0 = x at *
        generalize l.getD (j - 1) 0 = y at *
        by_cases h1 : x < 1
        · have q1 : decide (x < 1) = true := decide_eq_true h1
          go_wp2_with fail
          go_ret
          exact ⟨by rw [HR.out, HB.out (by rw [HN.out]; omega)]; rfl, rfl⟩
        · have q1 : decide (x < 1) = false := decide_eq_false h1
          by_cases h2 : 5 < x
          · have q2 : decide (5 < x) = true := decide_eq_true h2
            go_wp2_with fail
            go_ret
            exact ⟨by rw [HR.out, HB.out (by rw [HN.out]; omega)]; rfl, rfl⟩
          · have q2 : decide (5 < x) = false := decide_eq_false h2
            by_cases h3 : x ≤ y
            · have q6 : decide (x ≤ y) = true := decide_eq_true h3
              go_wp2_with fail
              go_ret
              exact ⟨by rw [HR.out, HB.out (by rw [HN.out]; omega)]; rfl, rfl⟩
            · have q6 : decide (x ≤ y) = false := decide_eq_false h3
              go_wp2_with fail
              go_roundw
              case rel =>
                refine ⟨by trivial, j + 1, by go_num, by omega, fun k hk => ?_⟩
                by_cases hkj : k < j
                · exact HA.out k hkj
                · obtain rfl : k = j := by omega
                  exact HN.out.2 ⟨by omega, by omega, fun h => by omega⟩
              case measure => simp [intOf]; omega
    · obtain rfl : j = l.length := by omega
      by_cases h0 : l.length = 0
      · have q0 : decide (0 < (l.length : Int)) = false := decide_eq_false (by omega)
        go_wp2_with fail
        go_ret
        exact ⟨by rw [HR.out, nodesOk_nil h0]; simp [h0], rfl⟩
      · have q0 : decide (0 < (l.length : Int)) = true := decide_eq_true (by omega)
        go_wp2_with fail
        go_ret
        exact ⟨by rw [HR.out, nodesOk_true (by omega) hall]; simp; omega, rfl⟩
end Go.Proofs.Ytcoaobdijlppgaa
