/- Messages in plain Lean: which may be, their bytes, what bytes say. -/
import Derived.Test.YtonghelcfbjknaaItemIn
import Derived.Test.YtonghelcfbjknaaCrc
namespace Go.Proofs.Ytonghelcfbjknaa
open Go.ChangeShapes Go.WideShapes Go.ChangeAt Go.RowKit
set_option linter.unusedVariables false
set_option linter.unusedSimpArgs false

abbrev Mk := Int × ByteArray
structure Ms where
  kind : Int
  src : Int
  dst : Int
  epoch : Int
  tick : Int
  seq : Int
  n : Int
  id : Int
  op : Int
  key : ByteArray
  err : Int
  last : Bool
  it : It
  its : List It
  mks : List Mk
  mem : List Int
  base : Int
  old : List Int
def it0 : It := (ByteArray.empty, ByteArray.empty, 0, false)
def ms0 : Ms := ⟨0, 0, 0, 0, 0, 0, 0, 0, 0, ByteArray.empty, 0, false, it0, [], [], [], 0, []⟩
/-- Nodes that may be: rising, from 1 to 5, one at least. -/
def nodeAt (l : List Int) (j : Nat) : Prop := 1 ≤ l.getD j 0 ∧ l.getD j 0 ≤ 5 ∧ (0 < j → l.getD (j - 1) 0 < l.getD j 0)
instance (l : List Int) (j : Nat) : Decidable (nodeAt l j) := by unfold nodeAt; exact inferInstance
def nodesOk (l : List Int) : Bool := decide (0 < l.length) && decide (∀ j, j < l.length → nodeAt l j)
def mk0 : Mk := (0, ByteArray.empty)
def mkAt (l : List Mk) (j : Nat) : Prop := 1 ≤ (l.getD j mk0).1 ∧ (l.getD j mk0).1 ≤ 1099511627776 ∧ itKey (l.getD j mk0).2 = true ∧ (0 < j → (l.getD (j - 1) mk0).1 < (l.getD j mk0).1)
instance (l : List Mk) (j : Nat) : Decidable (mkAt l j) := by unfold mkAt; exact inferInstance
def mksOk (l : List Mk) : Bool := decide (∀ j, j < l.length → mkAt l j)
def inB (g : Int) (l : List Int) : Bool := l.all fun n => decide (0 ≤ n ∧ n ≤ g)
def headOk (m : Ms) : Bool := decide (1 ≤ m.kind) && (decide (m.kind ≤ 14) && (!decide (m.src = m.dst) && (inB 5 [m.src, m.dst] && (inB 1099511627776 [m.epoch, m.tick, m.seq, m.id, m.base] && inB 1073741824 [m.n]))))
def midOk (m : Ms) : Bool := inB 2 [m.op] && (decide (m.key.size ≤ 40) && inB 10 [m.err])
def listsOk (m : Ms) : Bool := mksOk m.mks && (m.its.all mayIt && (decide (m.its.length ≤ 4) && (decide (m.mks.length ≤ 4) && ((decide (m.mem.length = 0) || nodesOk m.mem) && (decide (m.old.length = 0) || nodesOk m.old)))))
def mayM (m : Ms) : Bool := headOk m && (midOk m && ((decide (m.it = it0) || mayIt m.it) && listsOk m))
/-- The bytes. -/
def mNums (m : Ms) : List Int := [m.kind, m.src, m.dst, m.epoch, m.tick, m.seq, m.n, m.id, m.op, m.err, gN m.last, m.base]
def putNodes (l : List Int) : List Nat := putAll ((l.length : Int) :: l)
def hasM (m : Ms) : Bool := !decide (m.it = it0)
def putMk (x : Mk) : List Nat := putAll [x.1] ++ putText x.2
def putMks (l : List Mk) : List Nat := (l.map putMk).flatten
theorem putMks_snoc (l : List Mk) (x : Mk) : putMks (l ++ [x]) = putMks l ++ putMk x := by simp [putMks]
def mText1 (m : Ms) : List Nat := putAll (mNums m) ++ putText m.key ++ putNodes m.mem ++ putNodes m.old
def mText2 (m : Ms) : List Nat := mText1 m ++ putAll [gN (hasM m), (m.its.length : Int), (m.mks.length : Int)]
def mText3 (m : Ms) : List Nat := (mText2 m ++ (if hasM m = true then encIts [m.it] else [])) ++ encIts m.its
def mText (m : Ms) : List Nat := mText3 m ++ putMks m.mks
def four (n : Nat) : List Nat := [n / 16777216 % 256, n / 65536 % 256, n / 256 % 256, n % 256]
def encM (m : Ms) : List Nat := if mayM m = true then mText m ++ four (crcSum (mText m)) else []
/-- A reader: the bytes that are left; bad: something did not go. -/
abbrev Rs := List Nat × Bool
def tookR (s : Rs) (n e : Nat) : Rs := if s.2 = true ∨ e ≠ 0 then (s.1, true) else (s.1.drop n, false)
def rNum (s : Rs) : Int × Rs := ((get s.1).1, tookR s (get s.1).2.1 (get s.1).2.2)
def rText (s : Rs) : ByteArray × Rs := (toStr (getText s.1).1, tookR s (getText s.1).2.1 (getText s.1).2.2)
def rNodesGo : Nat → Int → List Int → Rs → List Int × Rs
  | 0, _, acc, s => (acc, s)
  | f + 1, n, acc, s => if 0 < n ∧ s.2 = false ∧ acc.length ≤ 5 then rNodesGo f (n - 1) (acc ++ [(rNum s).1]) (rNum s).2 else (acc, s)
def rNodes (s : Rs) : List Int × Rs := rNodesGo 7 (rNum s).1 [] (rNum s).2
def rItem (s : Rs) : It × Rs :=
  let k := rText s
  let v := rText k.2
  let e := rNum v.2
  let g := rNum e.2
  ((k.1, v.1, e.1, g.1 == 1), g.2)
def rItems : Nat → Int → List It → Rs → List It × Rs
  | 0, _, acc, s => (acc, s)
  | f + 1, n, acc, s => if 0 < n ∧ s.2 = false ∧ acc.length ≤ 4 then rItems f (n - 1) (acc ++ [(rItem s).1]) (rItem s).2 else (acc, s)
def rMk (s : Rs) : Mk × Rs := (((rNum s).1, (rText (rNum s).2).1), (rText (rNum s).2).2)
def rMks : Nat → Int → List Mk → Rs → List Mk × Rs
  | 0, _, acc, s => (acc, s)
  | f + 1, n, acc, s => if 0 < n ∧ s.2 = false ∧ acc.length ≤ 4 then rMks f (n - 1) (acc ++ [(rMk s).1]) (rMk s).2 else (acc, s)
def rFields (s : Rs) : Ms × Rs :=
  let a0 := rNum s
  let a1 := rNum a0.2
  let a2 := rNum a1.2
  let a3 := rNum a2.2
  let a4 := rNum a3.2
  let a5 := rNum a4.2
  let a6 := rNum a5.2
  let a7 := rNum a6.2
  let a8 := rNum a7.2
  let a9 := rNum a8.2
  let a10 := rNum a9.2
  let a11 := rNum a10.2
  let k := rText a11.2
  let m := rNodes k.2
  let o := rNodes m.2
  (⟨a0.1, a1.1, a2.1, a3.1, a4.1, a5.1, a6.1, a7.1, a8.1, k.1, a9.1, a10.1 == 1, it0, [], [], m.1, a11.1, o.1⟩, o.2)
def rAll (s : Rs) : Ms × Rs :=
  let f := rFields s
  let h := rNum f.2
  let i := rNum h.2
  let k := rNum i.2
  let x := if h.1 = 1 then rItem k.2 else (it0, k.2)
  let is := rItems 6 i.1 [] x.2
  let ks := rMks 6 k.1 [] is.2
  ({ f.1 with it := x.1, its := is.1, mks := ks.1 }, ks.2)
def decM (b : List Nat) : Option Ms :=
  let r := rAll (b.take (b.length - 4), false)
  if r.2.2 = true ∨ encM r.1 = [] ∨ encM r.1 ≠ b then none else some r.1
/-! What is written is read. -/
theorem putAll_cons (n : Int) (l : List Int) : putAll (n :: l) = leb (zz n) ++ putAll l := by simp [putAll]
theorem putAll_nil : putAll [] = [] := rfl
theorem rNum_put (n : Int) (h : I64 n) (r : List Nat) : rNum (leb (zz n) ++ r, false) = (n, (r, false)) := by
  unfold rNum tookR
  rw [get_leb n h.1 h.2 r]
  simp
theorem rText_put (t : ByteArray) (h : t.size ≤ 65536) (r : List Nat) : rText (putText t ++ r, false) = (t, (r, false)) := by
  unfold rText tookR
  rw [getText_putText t h r]
  simp [toStr_sb]
theorem rNodesGo_put : ∀ (l : List Int) (f : Nat) (acc : List Int) (r : List Nat), (∀ n ∈ l, I64 n) → acc.length + l.length ≤ 6 → l.length < f → rNodesGo f (l.length : Int) acc (putAll l ++ r, false) = (acc ++ l, (r, false)) := by
  intro l
  induction l with
  | nil =>
    intro f acc r _ _ hf
    obtain ⟨f, rfl⟩ : ∃ k, f = k + 1 := ⟨f - 1, by omega⟩
    simp [rNodesGo, putAll_nil]
  | cons a t ih =>
    intro f acc r h hl hf
    obtain ⟨f, rfl⟩ : ∃ k, f = k + 1 := ⟨f - 1, by omega⟩
    have hl' : acc.length + (t.length + 1) ≤ 6 := hl
    have hf' : t.length + 1 < f + 1 := hf
    unfold rNodesGo
    rw [if_pos ⟨by simp only [List.length_cons]; omega, rfl, by omega⟩, putAll_cons, List.append_assoc, rNum_put a (h a (by simp)) (putAll t ++ r)]
    rw [show ((a :: t).length : Int) - 1 = (t.length : Int) by simp only [List.length_cons]; omega]
    rw [ih f (acc ++ [a]) r (fun n hn => h n (by simp [hn])) (by simp only [List.length_append, List.length_cons, List.length_nil]; omega) (by omega)]
    simp
theorem nodesOk_len : ∀ {l : List Int}, nodesOk l = true → l.length ≤ 5 ∧ ∀ n ∈ l, I64 n := by
  intro l h
  unfold nodesOk at h
  simp only [Bool.and_eq_true, decide_eq_true_eq] at h
  obtain ⟨_, h⟩ := h
  have hj : ∀ j, j < l.length → (j : Int) + 1 ≤ l.getD j 0 := by
    intro j
    induction j with
    | zero => intro hj; have := (h 0 hj).1; omega
    | succ k ih =>
      intro hk
      have h1 := ih (by omega)
      have h2 := (h (k + 1) hk).2.2 (by omega)
      rw [Nat.add_sub_cancel] at h2
      omega
  constructor
  · by_cases h0 : l.length = 0
    · omega
    · have h1 := hj (l.length - 1) (by omega)
      have h2 := (h (l.length - 1) (by omega)).2.1
      omega
  · intro n hn
    obtain ⟨k, hk, rfl⟩ := List.getElem_of_mem hn
    have h1 := (h k hk)
    unfold nodeAt at h1
    rw [List.getD_eq_getElem?_getD, List.getElem?_eq_getElem hk, Option.getD_some] at h1
    unfold I64
    have := h1.1
    have := h1.2.1
    omega
theorem rNodes_put (l : List Int) (h : l.length = 0 ∨ nodesOk l = true) (r : List Nat) : rNodes (putNodes l ++ r, false) = (l, (r, false)) := by
  have hl : l.length ≤ 5 ∧ ∀ n ∈ l, I64 n := by
    rcases h with h | h
    · exact ⟨by omega, fun n hn => by rw [List.eq_nil_of_length_eq_zero h] at hn; simp at hn⟩
    · exact nodesOk_len h
  unfold rNodes putNodes
  rw [putAll_cons, List.append_assoc, rNum_put _ ⟨by omega, by omega⟩]
  simp only
  rw [rNodesGo_put l 7 [] r hl.2 (by simp; omega) (by omega)]
  simp
theorem rItem_put (y : It) (h : mayIt y = true) (r : List Nat) : rItem (putIt y ++ r, false) = (y, (r, false)) := by
  obtain ⟨k, v, n, g⟩ := y
  obtain ⟨h1, h2, h3, h4, h5⟩ := may_sizes h
  simp only at h1 h2 h3 h4 h5
  have hp : putIt (k, v, n, g) ++ r = putText k ++ (putText v ++ (leb (zz n) ++ (leb (zz (gN g)) ++ r))) := by simp [putIt, putTexts, putAll, List.append_assoc]
  rw [hp]
  unfold rItem
  simp only [rText_put k (by omega), rText_put v (by omega), rNum_put n ⟨by omega, by omega⟩, rNum_put (gN g) (gN_i64 g)]
  cases g <;> rfl
theorem rItems_put : ∀ (l : List It) (f : Nat) (acc : List It) (r : List Nat), l.all mayIt = true → acc.length + l.length ≤ 5 → l.length < f → rItems f (l.length : Int) acc (putIts l ++ r, false) = (acc ++ l, (r, false)) := by
  intro l
  induction l with
  | nil =>
    intro f acc r _ _ hf
    obtain ⟨f, rfl⟩ : ∃ k, f = k + 1 := ⟨f - 1, by omega⟩
    simp [rItems, putIts]
  | cons a t ih =>
    intro f acc r h hl hf
    obtain ⟨f, rfl⟩ : ∃ k, f = k + 1 := ⟨f - 1, by omega⟩
    have hl' : acc.length + (t.length + 1) ≤ 5 := hl
    have hf' : t.length + 1 < f + 1 := hf
    have ha : mayIt a = true ∧ t.all mayIt = true := by simpa using h
    have hp : putIts (a :: t) ++ r = putIt a ++ (putIts t ++ r) := by simp [putIts, List.append_assoc]
    unfold rItems
    rw [if_pos ⟨by simp only [List.length_cons]; omega, rfl, by omega⟩, hp, rItem_put a ha.1 (putIts t ++ r)]
    rw [show ((a :: t).length : Int) - 1 = (t.length : Int) by simp only [List.length_cons]; omega]
    rw [ih f (acc ++ [a]) r ha.2 (by simp only [List.length_append, List.length_cons, List.length_nil]; omega) (by omega)]
    simp
theorem rMk_put (x : Mk) (h1 : I64 x.1) (h2 : x.2.size ≤ 65536) (r : List Nat) : rMk (putMk x ++ r, false) = (x, (r, false)) := by
  have hp : putMk x ++ r = leb (zz x.1) ++ (putText x.2 ++ r) := by simp [putMk, putAll, List.append_assoc]
  rw [hp]
  unfold rMk
  rw [rNum_put x.1 h1, rText_put x.2 h2]
theorem rMks_put : ∀ (l : List Mk) (f : Nat) (acc : List Mk) (r : List Nat), (∀ x ∈ l, I64 x.1 ∧ x.2.size ≤ 65536) → acc.length + l.length ≤ 5 → l.length < f → rMks f (l.length : Int) acc (putMks l ++ r, false) = (acc ++ l, (r, false)) := by
  intro l
  induction l with
  | nil =>
    intro f acc r _ _ hf
    obtain ⟨f, rfl⟩ : ∃ k, f = k + 1 := ⟨f - 1, by omega⟩
    simp [rMks, putMks]
  | cons a t ih =>
    intro f acc r h hl hf
    obtain ⟨f, rfl⟩ : ∃ k, f = k + 1 := ⟨f - 1, by omega⟩
    have hl' : acc.length + (t.length + 1) ≤ 5 := hl
    have hf' : t.length + 1 < f + 1 := hf
    have hp : putMks (a :: t) ++ r = putMk a ++ (putMks t ++ r) := by simp [putMks, List.append_assoc]
    have ha := h a (by simp)
    unfold rMks
    rw [if_pos ⟨by simp only [List.length_cons]; omega, rfl, by omega⟩, hp, rMk_put a ha.1 ha.2 (putMks t ++ r)]
    rw [show ((a :: t).length : Int) - 1 = (t.length : Int) by simp only [List.length_cons]; omega]
    rw [ih f (acc ++ [a]) r (fun x hx => h x (by simp [hx])) (by simp only [List.length_append, List.length_cons, List.length_nil]; omega) (by omega)]
    simp
theorem mksOk_all {l : List Mk} (h : mksOk l = true) : ∀ x ∈ l, 1 ≤ x.1 ∧ x.1 ≤ 1099511627776 ∧ 1 ≤ x.2.size ∧ x.2.size ≤ 40 := by
  intro x hx
  obtain ⟨k, hk, rfl⟩ := List.getElem_of_mem hx
  unfold mksOk at h
  have h1 := (of_decide_eq_true h) k hk
  unfold mkAt at h1
  rw [List.getD_eq_getElem?_getD, List.getElem?_eq_getElem hk, Option.getD_some] at h1
  have h2 := h1.2.2.1
  unfold itKey at h2
  simp only [Bool.and_eq_true, decide_eq_true_eq] at h2
  exact ⟨h1.1, h1.2.1, h2.1, h2.2⟩
structure MayM (m : Ms) : Prop where
  kind : 1 ≤ m.kind ∧ m.kind ≤ 14
  ne : m.src ≠ m.dst
  src : 0 ≤ m.src ∧ m.src ≤ 5
  dst : 0 ≤ m.dst ∧ m.dst ≤ 5
  epoch : 0 ≤ m.epoch ∧ m.epoch ≤ 1099511627776
  tick : 0 ≤ m.tick ∧ m.tick ≤ 1099511627776
  seq : 0 ≤ m.seq ∧ m.seq ≤ 1099511627776
  id : 0 ≤ m.id ∧ m.id ≤ 1099511627776
  base : 0 ≤ m.base ∧ m.base ≤ 1099511627776
  n : 0 ≤ m.n ∧ m.n ≤ 1073741824
  op : 0 ≤ m.op ∧ m.op ≤ 2
  key : m.key.size ≤ 40
  err : 0 ≤ m.err ∧ m.err ≤ 10
  it : m.it = it0 ∨ mayIt m.it = true
  mks : mksOk m.mks = true
  its : m.its.all mayIt = true
  itsn : m.its.length ≤ 4
  mksn : m.mks.length ≤ 4
  mem : m.mem.length = 0 ∨ nodesOk m.mem = true
  old : m.old.length = 0 ∨ nodesOk m.old = true
theorem mayM_iff (m : Ms) : mayM m = true ↔ MayM m := by
  unfold mayM headOk midOk listsOk inB
  simp only [Bool.and_eq_true, Bool.or_eq_true, decide_eq_true_eq, Bool.not_eq_true', decide_eq_false_iff_not, List.all_cons, List.all_nil, and_true]
  constructor
  · rintro ⟨⟨h1, h2, h3, ⟨h4, h5⟩, ⟨h6, h7, h8, h9, h10⟩, h11⟩, ⟨h12, h13, h14⟩, h15, h16, h17, h18, h19, h20, h21⟩
    exact ⟨⟨h1, h2⟩, h3, h4, h5, h6, h7, h8, h9, h10, h11, h12, h13, h14, h15, h16, h17, h18, h19, h20, h21⟩
  · rintro ⟨⟨h1, h2⟩, h3, h4, h5, h6, h7, h8, h9, h10, h11, h12, h13, h14, h15, h16, h17, h18, h19, h20, h21⟩
    exact ⟨⟨h1, h2, h3, ⟨h4, h5⟩, ⟨h6, h7, h8, h9, h10⟩, h11⟩, ⟨h12, h13, h14⟩, h15, h16, h17, h18, h19, h20, h21⟩
theorem encIts_may {l : List It} (h : l.all mayIt = true) : encIts l = putIts l := by unfold encIts; rw [if_pos h]
theorem rAll_put (m : Ms) (h : mayM m = true) (r : List Nat) : rAll (mText m ++ r, false) = (m, (r, false)) := by
  have hm := (mayM_iff m).1 h
  have hits := encIts_may hm.its
  have hmk : ∀ x ∈ m.mks, I64 x.1 ∧ x.2.size ≤ 65536 := fun x hx => by
    have := mksOk_all hm.mks x hx
    unfold I64
    exact ⟨⟨by omega, by omega⟩, by omega⟩
  have hp : mText m ++ r = leb (zz m.kind) ++ (leb (zz m.src) ++ (leb (zz m.dst) ++ (leb (zz m.epoch) ++ (leb (zz m.tick) ++ (leb (zz m.seq) ++ (leb (zz m.n) ++ (leb (zz m.id) ++ (leb (zz m.op) ++ (leb (zz m.err) ++ (leb (zz (gN m.last)) ++ (leb (zz m.base) ++ (putText m.key ++ (putNodes m.mem ++ (putNodes m.old ++ (leb (zz (gN (hasM m))) ++ (leb (zz (m.its.length : Int)) ++ (leb (zz (m.mks.length : Int)) ++ ((if hasM m = true then encIts [m.it] else []) ++ (putIts m.its ++ (putMks m.mks ++ r)))))))))))))))))))) := by
    unfold mText mText3 mText2 mText1 mNums
    rw [hits]
    simp [putAll, List.append_assoc]
  have hF : rFields (mText m ++ r, false) = (⟨m.kind, m.src, m.dst, m.epoch, m.tick, m.seq, m.n, m.id, m.op, m.key, m.err, m.last, it0, [], [], m.mem, m.base, m.old⟩, (leb (zz (gN (hasM m))) ++ (leb (zz (m.its.length : Int)) ++ (leb (zz (m.mks.length : Int)) ++ ((if hasM m = true then encIts [m.it] else []) ++ (putIts m.its ++ (putMks m.mks ++ r))))), false)) := by
    rw [hp]
    unfold rFields
    have a1 := hm.kind; have a2 := hm.src; have a3 := hm.dst; have a4 := hm.epoch; have a5 := hm.tick; have a6 := hm.seq; have a7 := hm.id; have a8 := hm.base; have a9 := hm.n; have a10 := hm.op; have a11 := hm.err
    simp only [rNum_put m.kind ⟨by omega, by omega⟩, rNum_put m.src ⟨by omega, by omega⟩, rNum_put m.dst ⟨by omega, by omega⟩, rNum_put m.epoch ⟨by omega, by omega⟩, rNum_put m.tick ⟨by omega, by omega⟩, rNum_put m.seq ⟨by omega, by omega⟩, rNum_put m.n ⟨by omega, by omega⟩, rNum_put m.id ⟨by omega, by omega⟩, rNum_put m.op ⟨by omega, by omega⟩, rNum_put m.err ⟨by omega, by omega⟩, rNum_put (gN m.last) (gN_i64 _), rNum_put m.base ⟨by omega, by omega⟩, rText_put m.key (by have := hm.key; omega), rNodes_put m.mem hm.mem, rNodes_put m.old hm.old]
    cases m.last <;> rfl
  unfold rAll
  have b1 := hm.itsn; have b2 := hm.mksn
  simp only [hF, rNum_put (gN (hasM m)) (gN_i64 _), rNum_put (m.its.length : Int) ⟨by omega, by omega⟩, rNum_put (m.mks.length : Int) ⟨by omega, by omega⟩]
  by_cases hi : m.it = it0
  · have hh : hasM m = false := by unfold hasM; simp [hi]
    rw [hh]
    simp only [gN, Bool.false_eq_true, if_false, List.nil_append, show ¬ (0 : Int) = 1 by decide]
    rw [rItems_put m.its 6 [] _ hm.its (by simp; omega) (by omega)]
    simp only [List.nil_append]
    rw [rMks_put m.mks 6 [] _ hmk (by simp; omega) (by omega)]
    simp only [List.nil_append]
    rw [← hi]
  · have hh : hasM m = true := by unfold hasM; simp [hi]
    have hmi : mayIt m.it = true := by rcases hm.it with h | h; exact absurd h hi; exact h
    rw [hh]
    have e1 : encIts [m.it] = putIt m.it := by rw [encIts_may (by simp [hmi])]; simp [putIts]
    simp only [gN, if_true, e1]
    rw [rItem_put m.it hmi]
    simp only
    rw [rItems_put m.its 6 [] _ hm.its (by simp; omega) (by omega)]
    simp only [List.nil_append]
    rw [rMks_put m.mks 6 [] _ hmk (by simp; omega) (by omega)]
    simp only [List.nil_append]
theorem encM_may {m : Ms} (h : encM m ≠ []) : mayM m = true := by
  unfold encM at h
  split at h
  · assumption
  · exact absurd rfl h
theorem encM_eq {m : Ms} (h : mayM m = true) : encM m = mText m ++ four (crcSum (mText m)) := by unfold encM; rw [if_pos h]
theorem encM_ne {m : Ms} (h : mayM m = true) : encM m ≠ [] := by
  rw [encM_eq h]; intro e; have := congrArg List.length e; simp [four] at this
theorem encM_no {m : Ms} (h : mayM m = false) : encM m = [] := by unfold encM; rw [if_neg (by rw [h]; decide)]
theorem encM_len {m : Ms} (h : mayM m = true) : (encM m).length = (mText m).length + 4 := by rw [encM_eq h]; simp [four]
theorem decM_enc (m : Ms) (h : mayM m = true) : decM (encM m) = some m := by
  unfold decM
  have e : (encM m).take ((encM m).length - 4) = mText m := by
    rw [encM_len h, Nat.add_sub_cancel, encM_eq h, List.take_append_of_le_length (Nat.le_refl _), List.take_of_length_le (Nat.le_refl _)]
  have e2 := rAll_put m h []
  rw [List.append_nil] at e2
  rw [e]
  simp only [e2]
  rw [if_neg (by simp [encM_ne h])]
theorem decM_some {b : List Nat} {m : Ms} (h : decM b = some m) : mayM m = true ∧ encM m = b := by
  unfold decM at h
  simp only at h
  split at h
  · exact absurd h (by simp)
  · rename_i hc
    simp only [not_or, Decidable.not_not] at hc
    obtain rfl := Option.some.inj h
    exact ⟨encM_may hc.2.1, hc.2.2⟩
theorem encM_inj {m k : Ms} (hm : mayM m = true) (h : encM m = encM k) : m = k := by
  have hk : mayM k = true := encM_may (by rw [← h]; exact encM_ne hm)
  have h1 := decM_enc m hm
  rw [h, decM_enc k hk] at h1
  exact (Option.some.inj h1).symm
/-- Two messages' bytes, of which one begins as the other one, are one message's. -/
theorem encM_begin {m k : Ms} (hm : mayM m = true) (hk : mayM k = true) (r s : List Nat) (h : encM m ++ r = encM k ++ s) : m = k ∧ r = s := by
  have h1 := rAll_put m hm (four (crcSum (mText m)) ++ r)
  have h2 := rAll_put k hk (four (crcSum (mText k)) ++ s)
  rw [← List.append_assoc, ← encM_eq hm] at h1
  rw [← List.append_assoc, ← encM_eq hk, ← h, h1] at h2
  have e : m = k := congrArg Prod.fst h2
  subst e
  exact ⟨rfl, List.append_cancel_left h⟩
theorem decM_more {m : Ms} (hm : mayM m = true) (x : Nat) : decM (encM m ++ [x]) = none := by
  cases h : decM (encM m ++ [x]) with
  | none => rfl
  | some k =>
    obtain ⟨hk, e⟩ := decM_some h
    obtain ⟨rfl, hr⟩ := encM_begin hm hk [x] [] (by rw [List.append_nil, e])
    simp at hr
theorem decM_cut {m : Ms} (hm : mayM m = true) (n : Nat) (hn : n < (encM m).length) : decM ((encM m).take n) = none := by
  cases h : decM ((encM m).take n) with
  | none => rfl
  | some k =>
    obtain ⟨hk, e⟩ := decM_some h
    obtain ⟨rfl, hr⟩ := encM_begin hm hk [] ((encM m).drop n) (by rw [List.append_nil, e, List.take_append_drop])
    have := congrArg List.length hr
    rw [List.length_drop] at this
    simp at this
    omega
theorem crcOf_lt' (l : List Nat) (h : ∀ c ∈ l, c < 256) : crcSum l < 4294967296 := by unfold crcSum; omega
theorem four_inj {a b : Nat} (ha : a < 4294967296) (hb : b < 4294967296) (h : four a = four b) : a = b := by
  unfold four at h
  simp only [List.cons.injEq, and_true] at h
  omega
theorem decM_turned {m : Ms} (hm : mayM m = true) (hb : ∀ c ∈ mText m, c < 256) (p x : Nat) (hp : p < (encM m).length) (hx : x < 256) (hne : x ≠ (encM m).getD p 0) : decM ((encM m).set p x) = none := by
  cases h : decM ((encM m).set p x) with
  | none => rfl
  | some k =>
    exfalso
    obtain ⟨hk, e⟩ := decM_some h
    have hlen : (mText k).length = (mText m).length := by
      have := congrArg List.length e
      rw [List.length_set, encM_len hk, encM_len hm] at this
      omega
    rw [encM_eq hk, encM_eq hm] at e
    rw [encM_eq hm] at hp hne
    by_cases hpt : p < (mText m).length
    · rw [List.set_append_left _ _ hpt] at e
      obtain ⟨e1, e2⟩ := List.append_inj e (by rw [hlen, List.length_set])
      have hkb : ∀ c ∈ mText k, c < 256 := by
        rw [e1]; intro c hc
        rcases List.mem_or_eq_of_mem_set hc with hc | rfl
        · exact hb c hc
        · exact hx
      have e3 := four_inj (crcOf_lt' _ hkb) (crcOf_lt' _ hb) e2
      rw [e1] at e3
      rw [List.getD_eq_getElem?_getD, List.getElem?_append_left hpt, List.getElem?_eq_getElem hpt, Option.getD_some] at hne
      have s1 : mText m = (mText m).take p ++ (mText m)[p] :: (mText m).drop (p + 1) := by
        rw [← List.drop_eq_getElem_cons hpt, List.take_append_drop]
      have s2 : (mText m).set p x = (mText m).take p ++ x :: (mText m).drop (p + 1) := by
        rw [List.set_eq_take_append_cons_drop, if_pos hpt]
      have key := crcSum_one ((mText m).take p) ((mText m).drop (p + 1)) x (mText m)[p] (fun c hc => hb c (List.mem_of_mem_take hc)) (fun c hc => hb c (List.mem_of_mem_drop hc)) hx (hb _ (List.getElem_mem hpt)) hne
      rw [← s1, ← s2] at key
      exact key e3
    · rw [List.set_append_right _ _ (by omega)] at e
      obtain ⟨e1, e2⟩ := List.append_inj e hlen
      rw [e1] at e2
      have hq : p - (mText m).length < (four (crcSum (mText m))).length := by
        rw [List.length_append] at hp; omega
      rw [List.getD_eq_getElem?_getD, List.getElem?_append_right (by omega), List.getElem?_eq_getElem hq, Option.getD_some] at hne
      have : ((four (crcSum (mText m))).set (p - (mText m).length) x)[p - (mText m).length]? = some x := List.getElem?_set_self hq
      rw [← e2, List.getElem?_eq_getElem hq] at this
      exact hne (Option.some.inj this).symm
/-! Bytes are bytes; how many there are. -/
theorem putText_byte (t : ByteArray) : ∀ c ∈ putText t, c < 256 := by
  unfold putText
  intro c hc
  rcases List.mem_append.1 hc with hc | hc
  · exact leb_byte _ c hc
  · unfold sb at hc
    obtain ⟨u, _, rfl⟩ := List.mem_map.1 hc
    exact u.toNat_lt
theorem putTexts_byte (l : List ByteArray) : ∀ c ∈ putTexts l, c < 256 := by
  intro c hc
  unfold putTexts at hc
  obtain ⟨t, ht, hc⟩ := List.mem_flatten.1 hc
  obtain ⟨u, _, rfl⟩ := List.mem_map.1 ht
  exact putText_byte u c hc
theorem putIts_byte (l : List It) : ∀ c ∈ putIts l, c < 256 := by
  intro c hc
  unfold putIts at hc
  obtain ⟨t, ht, hc⟩ := List.mem_flatten.1 hc
  obtain ⟨u, _, rfl⟩ := List.mem_map.1 ht
  unfold putIt at hc
  rcases List.mem_append.1 hc with hc | hc
  · exact putTexts_byte _ c hc
  · exact putAll_byte _ c hc
theorem encIts_byte (l : List It) : ∀ c ∈ encIts l, c < 256 := by
  intro c hc
  unfold encIts at hc
  split at hc
  · exact putIts_byte _ c hc
  · simp at hc
theorem mText_byte (m : Ms) : ∀ c ∈ mText m, c < 256 := by
  intro c hc
  unfold mText mText3 mText2 mText1 putNodes putMks at hc
  simp only [List.mem_append] at hc
  rcases hc with (((((((hc | hc) | hc) | hc) | hc) | hc) | hc) | hc)
  · exact putAll_byte _ c hc
  · exact putText_byte _ c hc
  · exact putAll_byte _ c hc
  · exact putAll_byte _ c hc
  · exact putAll_byte _ c hc
  · split at hc
    · exact encIts_byte _ c hc
    · simp at hc
  · exact encIts_byte _ c hc
  · obtain ⟨t, ht, hc⟩ := List.mem_flatten.1 hc
    obtain ⟨u, _, rfl⟩ := List.mem_map.1 ht
    unfold putMk at hc
    rcases List.mem_append.1 hc with hc | hc
    · exact putAll_byte _ c hc
    · exact putText_byte _ c hc
theorem four_byte (n : Nat) : ∀ c ∈ four n, c < 256 := by
  intro c hc
  unfold four at hc
  simp only [List.mem_cons, List.not_mem_nil, or_false] at hc
  omega
theorem encM_byte (m : Ms) : ∀ c ∈ encM m, c < 256 := by
  intro c hc
  unfold encM at hc
  split at hc
  · rcases List.mem_append.1 hc with hc | hc
    · exact mText_byte m c hc
    · exact four_byte _ c hc
  · simp at hc
end Go.Proofs.Ytonghelcfbjknaa
