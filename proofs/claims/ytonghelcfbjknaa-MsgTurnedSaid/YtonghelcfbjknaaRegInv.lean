/- A region that draws its order, by an invariant: each operation once, not each order. -/
import Derived.Test.YtonghelcfbjknaaBase
import Derived.RegionTactic
namespace Go.Proofs.Ytonghelcfbjknaa
open Go.ChangeShapes Go.WideShapes Go.ChangeAt Go.RowKit
set_option linter.unusedVariables false
set_option linter.unusedSimpArgs false

def upd {α : Type} (f : Nat → α) (i : Nat) (v : α) : Nat → α := fun j => if j = i then v else f j
@[simp] theorem upd_same {α : Type} (f : Nat → α) (i : Nat) (v : α) : upd f i v i = v := by simp [upd]
theorem upd_ne {α : Type} (f : Nat → α) (i j : Nat) (v : α) (h : j ≠ i) : upd f i v j = f j := by simp [upd, h]
/-- The operations' results laid into the frame. -/
def putV : List Oper → Nat → (Nat → Value) → Act → Act
  | [], _, _, a => a
  | o :: os, i, x, a => putV os (i + 1) x (a.put o.dst (x i))
/-- No two operations of the list lay into one slot. -/
def dstsApart : List Oper → Bool
  | [] => true
  | o :: os => (match o.dst with | none => true | some d => os.all (fun o' => o'.dst != some d)) && dstsApart os
/-- Each operation waits only on earlier ones. -/
def edgesBack : List Oper → Nat → Bool
  | [], _ => true
  | o :: os, i => o.after.toList.all (fun e => !Region.binds .any e || decide (e.on < i)) && edgesBack os (i + 1)
def depsHold (l : Nat → Bool) : List Edge → Prop
  | [] => True
  | e :: es => (Region.binds .any e = true → l e.on = true) ∧ depsHold l es
theorem depsHold_of {l : Nat → Bool} : ∀ es : List Edge, (∀ e ∈ es, Region.binds .any e = true → l e.on = true) → depsHold l es
  | [], _ => trivial
  | e :: es, h => ⟨h e (by simp), depsHold_of es (fun e' he' => h e' (by simp [he']))⟩

theorem put_put_same (a : Act) (d : Option Tmp) (v u : Value) : (a.put d v).put d u = a.put d u := by
  cases d <;> simp [Act.put]
theorem putV_put (os : List Oper) : ∀ (i : Nat) (x : Nat → Value) (a : Act) (d : Option Tmp) (v : Value), (∀ o ∈ os, ∀ t, o.dst = some t → d ≠ some t) → putV os i x (a.put d v) = (putV os i x a).put d v := by
  induction os with
  | nil => intro i x a d v _; rfl
  | cons o os ih =>
    intro i x a d v h
    simp only [putV]
    rw [Act.put_comm a v (x i) (fun t ht ho => h o (by simp) t ho ht), ih _ _ _ _ _ (fun o' ho' => h o' (by simp [ho']))]
theorem putV_upd_out (os : List Oper) : ∀ (i : Nat) (x : Nat → Value) (a : Act) (k : Nat) (v : Value), k < i → putV os i (upd x k v) a = putV os i x a := by
  induction os with
  | nil => intro i x a k v _; rfl
  | cons o os ih =>
    intro i x a k v h
    simp only [putV]
    rw [upd_ne _ _ _ _ (by omega), ih _ _ _ _ _ (by omega)]
theorem putV_upd (os : List Oper) : ∀ (i : Nat) (x : Nat → Value) (a : Act) (k : Nat) (v : Value) (o : Oper), dstsApart os = true → os[k]? = some o → putV os i (upd x (i + k) v) a = (putV os i x a).put o.dst v := by
  induction os with
  | nil => intro i x a k v o _ h; simp at h
  | cons o' os ih =>
    intro i x a k v o hd h
    simp only [dstsApart, Bool.and_eq_true] at hd
    cases k with
    | zero =>
      simp only [List.getElem?_cons_zero, Option.some.injEq] at h
      subst h
      simp only [putV, Nat.add_zero, upd_same]
      rw [putV_upd_out _ _ _ _ _ _ (by omega)]
      have hn : ∀ o ∈ os, ∀ t, o.dst = some t → o'.dst ≠ some t := by
        intro o ho t ht e
        have := hd.1
        rw [e] at this
        simp only [List.all_eq_true] at this
        have := this o ho
        rw [ht] at this
        simp at this
      rw [putV_put os _ _ _ _ _ hn, putV_put os _ _ _ _ _ hn, put_put_same]
    | succ k =>
      simp only [List.getElem?_cons_succ] at h
      simp only [putV]
      rw [upd_ne _ _ _ _ (by omega), show i + (k + 1) = (i + 1) + k by omega]
      exact ih _ _ _ _ _ _ hd.2 h
/-- The slots as they stand. -/
def ownVals (os : List Oper) (a : Act) : Nat → Value := fun i => match (os[i]?).bind (·.dst) with
  | some d => a.tmps.getD d undef
  | none => undef
theorem put_self (a : Act) (d : Option Tmp) (v : Value) (h : ∀ t, d = some t → v = a.tmps.getD t undef) : a.put d v = a := by
  cases d with
  | none => rfl
  | some t =>
    obtain ⟨tmps, defers⟩ := a
    have := h t rfl
    subst this
    simp only [Act.put, Act.mk.injEq, and_true]
    apply Array.ext
    · simp
    · intro j h1 h2
      rw [Array.getElem_setIfInBounds]
      · split
        · rename_i e; subst e; simp [Array.getD, h2]
        · rfl
theorem putV_self (os : List Oper) : ∀ (i : Nat) (x : Nat → Value) (a : Act), (∀ k o d, os[k]? = some o → o.dst = some d → x (i + k) = a.tmps.getD d undef) → putV os i x a = a := by
  induction os with
  | nil => intro i x a _; rfl
  | cons o os ih =>
    intro i x a h
    simp only [putV]
    rw [put_self a o.dst (x i) (fun t ht => h 0 o t rfl ht)]
    exact ih _ _ _ (fun k o' d hk hd => by have := h (k + 1) o' d (by simpa using hk) hd; rw [← this]; congr 1; omega)

section
variable {P : Program} {Q : Exit → Act → World → Prop}
def StepAt (P : Program) (ops : List Oper) (Q : Exit → Act → World → Prop) (J : (Nat → Bool) → (Nat → Value) → World → Prop) (a : Act) (i : Nat) (o : Oper) : Prop :=
  ∀ (l : Nat → Bool) (x : Nat → Value) (w : World), J l x w → l i = false → depsHold l o.after.toList →
    ∀ K' : Act → World → Prop, (∀ v w', J (upd l i true) (upd x i v) w' → K' ((putV ops 0 x a).put o.dst v) w') →
      if Region.wanted o (yielded ops.toArray (putV ops 0 x a).tmps) = true then Oper.wp P o (putV ops 0 x a) w K' Q else K' ((putV ops 0 x a).put o.dst undef) w
def Steps (P : Program) (ops : List Oper) (Q : Exit → Act → World → Prop) (J : (Nat → Bool) → (Nat → Value) → World → Prop) (a : Act) : Nat → List Oper → Prop
  | _, [] => True
  | i, o :: os => StepAt P ops Q J a i o ∧ Steps P ops Q J a (i + 1) os
theorem Steps.at {ops : List Oper} {J : (Nat → Bool) → (Nat → Value) → World → Prop} {a : Act} : ∀ (os : List Oper) (i k : Nat) (o : Oper), Steps P ops Q J a i os → os[k]? = some o → StepAt P ops Q J a (i + k) o
  | [], _, _, _, _, h => by simp at h
  | o' :: os, i, 0, o, hs, h => by
    simp only [List.getElem?_cons_zero, Option.some.injEq] at h
    subst h
    exact hs.1
  | o' :: os, i, k + 1, o, hs, h => by
    simp only [List.getElem?_cons_succ] at h
    have := Steps.at os (i + 1) k o hs.2 h
    rwa [show i + 1 + k = i + (k + 1) by omega] at this
theorem edgesBack_at : ∀ (os : List Oper) (i k : Nat) (o : Oper), edgesBack os i = true → os[k]? = some o → ∀ e ∈ o.after, Region.binds .any e = true → e.on < i + k
  | [], _, _, _, _, h => by simp at h
  | o' :: os, i, 0, o, hb, h => by
    simp only [List.getElem?_cons_zero, Option.some.injEq] at h
    subst h
    simp only [edgesBack, Bool.and_eq_true, List.all_eq_true, Bool.or_eq_true, Bool.not_eq_true', decide_eq_true_eq] at hb
    intro e he hbd
    have := (hb.1 e (by simpa using he)).resolve_left (by simp [hbd])
    omega
  | o' :: os, i, k + 1, o, hb, h => by
    simp only [List.getElem?_cons_succ] at h
    simp only [edgesBack, Bool.and_eq_true] at hb
    intro e he hbd
    have := edgesBack_at os (i + 1) k o hb.2 h e he hbd
    omega

theorem all_listed {ops : Array Oper} {listed : Array Bool} (hb : edgesBack ops.toList 0 = true) (hsz : listed.size = ops.size) (hr : Region.ready .any ops listed = []) : ∀ i, i < ops.size → listed.getD i false = true := by
  intro i
  induction i using Nat.strongRecOn with
  | ind i ih =>
    intro hi
    cases h : listed.getD i false with
    | true => rfl
    | false =>
      exfalso
      have hm : i ∈ Region.ready .any ops listed := by
        rw [mem_ready]
        refine ⟨?_, ops[i], by simp [hi], ?_⟩
        · have hl : i < listed.size := by omega
          simp only [Array.getD, hl, dif_pos] at h ⊢
          exact h
        · intro e he hbd
          have := edgesBack_at ops.toList 0 i ops[i] hb (by simp [hi]) e he hbd
          exact ih e.on (by omega) (by omega)
      rw [hr] at hm
      simp at hm

theorem falses_set (l : List Bool) (i : Nat) (h : l[i]? = some false) : (l.set i true).count false + 1 = l.count false := by
  induction l generalizing i with
  | nil => simp at h
  | cons b l ih =>
    cases i with
    | zero => simp only [List.getElem?_cons_zero, Option.some.injEq] at h; subst h; simp
    | succ i =>
      simp only [List.getElem?_cons_succ] at h
      have := ih i h
      simp only [List.set_cons_succ, List.count_cons]
      omega
theorem wpAny_inv {ops : Array Oper} {J : (Nat → Bool) → (Nat → Value) → World → Prop} {a : Act} (hd : dstsApart ops.toList = true) (hb : edgesBack ops.toList 0 = true)
    (hs : Steps P ops.toList Q J a 0 ops.toList) (hf : ∀ l x w, J l x w → (∀ i, i < ops.size → l i = true) → Q .normal (putV ops.toList 0 x a) w) :
    ∀ (fuel : Nat) (listed : Array Bool) (x : Nat → Value) (w : World), listed.size = ops.size → listed.toList.count false ≤ fuel → J (fun i => listed.getD i false) x w →
      wpAny P .any ops Q fuel listed (putV ops.toList 0 x a) w := by
  intro fuel
  induction fuel with
  | zero =>
    intro listed x w hsz hc hJ
    have hr : Region.ready .any ops listed = [] := by
      apply List.eq_nil_iff_forall_not_mem.2
      intro i hi
      rw [mem_ready] at hi
      obtain ⟨h1, o, ho, _⟩ := hi
      have hlt : i < listed.size := by rw [hsz]; exact (Array.getElem?_eq_some_iff.1 ho).1
      have : false ∈ listed.toList := by
        simp only [Array.getD, hlt, dif_pos] at h1
        rw [← h1]
        simp
      have := List.count_pos_iff.2 this
      omega
    exact ⟨hr, hf _ _ _ hJ (fun i hi => all_listed hb hsz hr i hi)⟩
  | succ fuel ih =>
    intro listed x w hsz hc hJ
    refine ⟨fun hr => hf _ _ _ hJ (fun i hi => all_listed hb hsz hr i hi), ?_⟩
    intro i hi
    rw [mem_ready] at hi
    obtain ⟨h1, o, ho, hdep⟩ := hi
    have hlt : i < listed.size := by rw [hsz]; exact (Array.getElem?_eq_some_iff.1 ho).1
    have h1f : listed.getD i false = false := by
      simp only [Array.getD, hlt, dif_pos] at h1 ⊢; exact h1
    have hol : ops.toList[i]? = some o := by simpa using ho
    have st := Steps.at ops.toList 0 i o hs hol
    rw [Nat.zero_add] at st
    refine wpOp_step ho (fun K' hK' => ?_)
    have := st (fun i => listed.getD i false) x w hJ h1f (depsHold_of _ (fun e he hbd => hdep e (by simpa using he) hbd)) K' (fun v w' hJ' => ?_)
    · simpa using this
    · refine hK' _ _ ?_
      have e := putV_upd ops.toList 0 x a i v o hd hol
      rw [Nat.zero_add] at e
      rw [← e]
      have hget : listed.toList[i]? = some false := by
        rw [Array.getElem?_toList, Array.getElem?_eq_getElem hlt]
        simp only [Array.getD, hlt, dif_pos] at h1f
        exact congrArg some h1f
      refine ih _ _ _ (by simp [hsz]) ?_ ?_
      · have := falses_set listed.toList i hget
        simp only [Array.toList_setIfInBounds]
        omega
      · have ef : (fun j => (listed.setIfInBounds i true).getD j false) = upd (fun i => listed.getD i false) i true := by
          funext j
          by_cases hj : j = i
          · subst hj; rw [upd_same]; simp [hlt]
          · rw [upd_ne _ _ _ _ hj, getD_set_ne _ (Ne.symm hj)]
        rw [ef]
        exact hJ'

/-- The way back behind operation number i. -/
def Back (J : (Nat → Bool) → (Nat → Value) → World → Prop) (l : Nat → Bool) (x : Nat → Value) (i : Nat) (o : Oper) (b : Act) (K' : Act → World → Prop) : Prop :=
  ∀ v w', J (upd l i true) (upd x i v) w' → K' (b.put o.dst v) w'
theorem Back.go {J : (Nat → Bool) → (Nat → Value) → World → Prop} {l : Nat → Bool} {x : Nat → Value} {i : Nat} {o : Oper} {K' : Act → World → Prop} {b : Act}
    (h : Back J l x i o b K') (v : Value) {w' : World} {c : Act} (hb : b.put o.dst v = c) (hJ : J (upd l i true) (upd x i v) w') : K' c w' := hb ▸ h v w' hJ
/-- Operation number i, to be run. -/
def Runs (P : Program) (ops : List Oper) (Q : Exit → Act → World → Prop) (J : (Nat → Bool) → (Nat → Value) → World → Prop) (a : Act) (l : Nat → Bool) (x : Nat → Value) (w : World) (i : Nat) (o : Oper) : Prop :=
  ∀ b, putV ops 0 x a = b → ∀ K' : Act → World → Prop, Back J l x i o b K' → if Region.wanted o (yielded ops.toArray b.tmps) = true then Oper.wp P o b w K' Q else K' (b.put o.dst undef) w
theorem Runs.of {ops : List Oper} {J : (Nat → Bool) → (Nat → Value) → World → Prop} {a : Act} {l : Nat → Bool} {x : Nat → Value} {w : World} {i : Nat} {o : Oper} {b : Act} (hb : putV ops 0 x a = b)
    (h : ∀ K' : Act → World → Prop, Back J l x i o b K' → if Region.wanted o (yielded ops.toArray b.tmps) = true then Oper.wp P o b w K' Q else K' (b.put o.dst undef) w) : Runs P ops Q J a l x w i o := by
  intro b' hb' K' hK'
  rw [← hb', hb] at *
  exact h K' hK'
theorem Steps.cons {ops : List Oper} {J : (Nat → Bool) → (Nat → Value) → World → Prop} {a : Act} {o : Oper} {os : List Oper} (i : Nat)
    (h : ∀ (l : Nat → Bool) (x : Nat → Value) (w : World), J l x w → l i = false → depsHold l o.after.toList → Runs P ops Q J a l x w i o)
    (hs : Steps P ops Q J a (i + 1) os) : Steps P ops Q J a i (o :: os) := ⟨fun l x w hJ hi hd K' hK' => h l x w hJ hi hd _ rfl K' hK', hs⟩
theorem Steps.nil {ops : List Oper} {J : (Nat → Bool) → (Nat → Value) → World → Prop} {a : Act} (i : Nat) : Steps P ops Q J a i [] := trivial
/-- A region that draws its order, by an invariant J on what has come up, what it yielded, and the world. -/
theorem wp_region_inv {os : List Oper} {id : Nat} {a : Act} {w : World} (J : (Nat → Bool) → (Nat → Value) → World → Prop) (hm : P.follows .mixedOrders = true) (hd : dstsApart os = true) (hb : edgesBack os 0 = true)
    (h0 : ∀ x, J (fun _ => false) x w.drew) (hs : Steps P os Q J a 0 os) (n : Nat) (hn : os.length = n) (hf : ∀ l x w, J l x w → (∀ i, i < n → l i = true) → Q .normal (putV os 0 x a) w) :
    (Code.region id os.toArray true).wp P Q a w := by
  obtain ⟨ops, rfl⟩ : ∃ ops : Array Oper, os = ops.toList := ⟨os.toArray, rfl⟩
  subst hn
  rw [show ops.toList.toArray = ops from rfl]
  replace hf : ∀ l x w, J l x w → (∀ i, i < ops.size → l i = true) → Q .normal (putV ops.toList 0 x a) w := hf
  refine wp_region_any hm ?_
  have e : putV ops.toList 0 (ownVals ops.toList a) a = a := putV_self _ _ _ _ (fun k o d hk hdst => by
    simp only [Nat.zero_add, ownVals, hk, Option.bind_some, hdst])
  have := wpAny_inv (P := P) (Q := Q) hd hb hs hf ops.size (Array.replicate ops.size false) (ownVals ops.toList a) w.drew (by simp) (by simp) (by
    have ef : (fun i => (Array.replicate ops.size false).getD i false) = fun _ => false := by
      funext i; simp [Array.getD]
    rw [ef]
    exact h0 _)
  rw [e] at this
  exact this
/-- The same, where an operation lays into a slot that others read: what the slots hold at the start is known. A region that draws its order, by an invariant J on what has come up, what it yielded, and the world. -/
theorem wp_region_inv_own {os : List Oper} {id : Nat} {a : Act} {w : World} (J : (Nat → Bool) → (Nat → Value) → World → Prop) (hm : P.follows .mixedOrders = true) (hd : dstsApart os = true) (hb : edgesBack os 0 = true)
    (h0 : J (fun _ => false) (ownVals os a) w.drew) (hs : Steps P os Q J a 0 os) (n : Nat) (hn : os.length = n) (hf : ∀ l x w, J l x w → (∀ i, i < n → l i = true) → Q .normal (putV os 0 x a) w) :
    (Code.region id os.toArray true).wp P Q a w := by
  obtain ⟨ops, rfl⟩ : ∃ ops : Array Oper, os = ops.toList := ⟨os.toArray, rfl⟩
  subst hn
  rw [show ops.toList.toArray = ops from rfl]
  replace hf : ∀ l x w, J l x w → (∀ i, i < ops.size → l i = true) → Q .normal (putV ops.toList 0 x a) w := hf
  refine wp_region_any hm ?_
  have e : putV ops.toList 0 (ownVals ops.toList a) a = a := putV_self _ _ _ _ (fun k o d hk hdst => by
    simp only [Nat.zero_add, ownVals, hk, Option.bind_some, hdst])
  have := wpAny_inv (P := P) (Q := Q) hd hb hs hf ops.size (Array.replicate ops.size false) (ownVals ops.toList a) w.drew (by simp) (by simp) (by
    have ef : (fun i => (Array.replicate ops.size false).getD i false) = fun _ => false := by
      funext i; simp [Array.getD]
    rw [ef]
    exact h0)
  rw [e] at this
  exact this
end

/-- Blocks that operations of the region have made: number i's is B i, and holds what C says. -/
structure RI (is : List Nat) (T : Nat → TypeId) (C : (Nat → Bool) → Nat → List Value) (w w' : World) (l : Nat → Bool) (B : Nat → Nat) : Prop where
  keep : Keep [] w w'
  blk : ∀ i ∈ is, l i = true → w.heap.size ≤ B i ∧ Blk w' (B i) (C l i) (T i)
  apart : ∀ i ∈ is, ∀ j ∈ is, l i = true → l j = true → B i = B j → i = j
section
variable {is : List Nat} {T : Nat → TypeId} {C : (Nat → Bool) → Nat → List Value} {w w' w'' : World} {l : Nat → Bool} {B : Nat → Nat}
theorem RI.start (w : World) (B : Nat → Nat) : RI is T C w w.drew (fun _ => false) B :=
  ⟨(Keep.refl _ _).drew, (fun _ _ h => absurd h (by decide)), (fun _ _ _ _ h => absurd h (by decide))⟩
theorem RI.still (h : RI is T C w w' l B) (k : Nat) (hk : k ∉ is) (hC : ∀ i ∈ is, C (upd l k true) i = C l i) : RI is T C w w' (upd l k true) B := by
  have hne : ∀ i ∈ is, i ≠ k := fun i hi e => hk (e ▸ hi)
  refine ⟨h.keep, fun i hi hl => ?_, fun i hi j hj hli hlj e => ?_⟩
  · rw [upd_ne _ _ _ _ (hne i hi)] at hl
    rw [hC i hi]
    exact h.blk i hi hl
  · rw [upd_ne _ _ _ _ (hne i hi)] at hli
    rw [upd_ne _ _ _ _ (hne j hj)] at hlj
    exact h.apart i hi j hj hli hlj e
theorem RI.step (h : RI is T C w w' l B) (K : Keep [] w' w'') : RI is T C w w'' l B :=
  ⟨h.keep.trans K, fun i hi hl => ⟨(h.blk i hi hl).1, (h.blk i hi hl).2.keep K (by simp)⟩, h.apart⟩
theorem RI.new (h : RI is T C w w' l B) (k : Nat) (hl : l k = false) (hC : ∀ i ∈ is, i ≠ k → C (upd l k true) i = C l i) :
    RI is T C w (w'.alloc (.cells (C (upd l k true) k).toArray (T k))) (upd l k true) (upd B k w'.heap.size) := by
  refine ⟨h.keep.alloc _, fun i hi hli => ?_, fun i hi j hj hli hlj e => ?_⟩
  · by_cases hik : i = k
    · subst hik
      rw [upd_same]
      exact ⟨h.keep.size, Blk.new _ _ _⟩
    · rw [upd_ne _ _ _ _ hik] at hli ⊢
      rw [hC i hi hik]
      exact ⟨(h.blk i hi hli).1, (h.blk i hi hli).2.alloc _⟩
  · by_cases hik : i = k
    · by_cases hjk : j = k
      · rw [hik, hjk]
      · subst hik
        rw [upd_same, upd_ne _ _ _ _ hjk] at e
        rw [upd_ne _ _ _ _ hjk] at hlj
        have := (h.blk j hj hlj).2.lt
        omega
    · by_cases hjk : j = k
      · subst hjk
        rw [upd_same, upd_ne _ _ _ _ hik] at e
        rw [upd_ne _ _ _ _ hik] at hli
        have := (h.blk i hi hli).2.lt
        omega
      · rw [upd_ne _ _ _ _ hik, upd_ne _ _ _ _ hjk] at e
        rw [upd_ne _ _ _ _ hik] at hli
        rw [upd_ne _ _ _ _ hjk] at hlj
        exact h.apart i hi j hj hli hlj e
theorem RI.new' (h : RI is T C w w' l B) (k : Nat) (hl : l k = false) (cs : List Value) (hcs : C (upd l k true) k = cs) (hC : ∀ i ∈ is, i ≠ k → C (upd l k true) i = C l i) :
    RI is T C w (w'.alloc (.cells cs.toArray (T k))) (upd l k true) (upd B k w'.heap.size) := by
  subst hcs
  exact h.new k hl hC
theorem RI.store (h : RI is T C w w' l B) (k i : Nat) (hk : k ∉ is) (hi : i ∈ is) (hl : l i = true) (K : Keep [B i] w' w'') (hB : Blk w'' (B i) (C (upd l k true) i) (T i)) (hC : ∀ j ∈ is, j ≠ i → C (upd l k true) j = C l j) :
    RI is T C w w'' (upd l k true) B := by
  have hne : ∀ i ∈ is, i ≠ k := fun i hi e => hk (e ▸ hi)
  have h1 := (h.blk i hi hl).1
  refine ⟨h.keep.then K (fun x hx hlt => by simp at hx; omega), fun j hj hlj => ?_, fun j hj j' hj' hlj hlj' e => ?_⟩
  · rw [upd_ne _ _ _ _ (hne j hj)] at hlj
    by_cases hji : j = i
    · subst hji; exact ⟨h1, hB⟩
    · rw [hC j hj hji]
      exact ⟨(h.blk j hj hlj).1, (h.blk j hj hlj).2.keep K (by
        simp only [List.mem_singleton]
        intro e
        exact hji (h.apart j hj i hi hlj hl e))⟩
  · rw [upd_ne _ _ _ _ (hne j hj)] at hlj
    rw [upd_ne _ _ _ _ (hne j' hj')] at hlj'
    exact h.apart j hj j' hj' hlj hlj' e
end
end Go.Proofs.Ytonghelcfbjknaa
