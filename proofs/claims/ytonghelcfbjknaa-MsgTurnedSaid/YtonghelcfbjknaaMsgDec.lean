/- Package msg: Decode (its parts). -/
import Derived.Test.YtonghelcfbjknaaMsgEnc
import Derived.Laws.Tables
namespace Go.Proofs.Ytonghelcfbjknaa
open Go.ChangeShapes Go.WideShapes Go.ChangeAt Go.RowKit
set_option linter.unusedVariables false
set_option linter.unusedSimpArgs false

theorem Try.infoMark : (Try.prog.info? 42).map (fun i => (i.zero, i.size, i.bytes)) = some (some (.agg #[.int .i64 0, .string ByteArray.empty]), 2, 24) := by kernel_rfl
/-- A row of marks of the call's own. -/
def KRow (w : World) (base : Nat) (v : Value) (l : List Mk) : Prop := w.ownsRow base 42 2 v l.length (kc l)
theorem KRow.nil (w : World) (base : Nat) : KRow w base (.slice none 0 0) [] := World.ownsRow_nil w base _ 2
theorem KRow.rd {w : World} {base : Nat} {v : Value} {l : List Mk} (h : KRow w base v l) : KRd w v l := ownsRow_rv h
theorem KRow.lt {w : World} {base : Nat} {v : Value} {l : List Mk} (h : KRow w base v l) : ∀ k, v.ownBlock = some k → base ≤ k ∧ k < w.heap.size := World.ownsRow.lt h
theorem KRow.slice {w : World} {base : Nat} {v : Value} {l : List Mk} (h : KRow w base v l) : ∃ a cap, v = .slice a l.length cap := ownsRow_slice h
theorem KRow.ty {w : World} {base : Nat} {v : Value} {l : List Mk} (h : KRow w base v l) : ∀ k, v.ownBlock = some k → Ty w k 42 := by
  intro k hk
  rcases h.2 with ⟨rfl, hn⟩ | ⟨g, cap, cur, rfl, hb, hg, r⟩
  · cases hk
  · cases hk; exact ⟨_, _, hg⟩
theorem KRow.keep {w w' : World} {base : Nat} {v : Value} {l : List Mk} {S : List Nat} (h : KRow w base v l) (k : Keep S w w') (hS : ∀ b, v.ownBlock = some b → b ∉ S) : KRow w' base v l := by
  refine ⟨h.1, ?_⟩
  have hl := h.lt
  rcases h.2 with ⟨rfl, hn⟩ | ⟨g, cap, cur, rfl, hb, hg, r⟩
  · exact .inl ⟨rfl, hn⟩
  · exact .inr ⟨g, cap, cur, rfl, hb, by rw [k.block g (hl g rfl).2 (hS g rfl)]; exact hg, r⟩
theorem KRow.alloc {w : World} {base : Nat} {v : Value} {l : List Mk} (h : KRow w base v l) (o : Obj) : KRow (w.alloc o) base v l := World.ownsRow.alloc h o
theorem KRow.snoc {w' : World} {base : Nat} {v' : Value} {l : List Mk} {y : Mk} (h : w'.ownsRow base 42 2 v' (l.length + 1) (kc l ++ mkc y)) : KRow w' base v' (l ++ [y]) := by
  unfold KRow; rw [kc_snoc, List.length_append]; exact h
theorem src_mk {P : Program} {t e : TypeId} (ht : P.underlying t = some (.slice e)) (w : World) (b : Nat) (y : Mk) (h : Blk w b (mkc y) 42) :
    Src P 2 t (.slice (some ⟨b, 0, none⟩) 1 1) 1 (mkc y) w := by
  refine Src.ofSlice _ ht ⟨b, 0, none⟩ 1 1 (mkc y) rfl ?_ (by intro u hu; simp only [mkc, List.mem_cons, List.not_mem_nil, or_false] at hu; rcases hu with rfl | rfl <;> rfl)
  intro j x hx
  rw [show (⟨b, 0, none⟩ : Addr).add j = ⟨b, j, none⟩ by by_cases h0 : j = 0 <;> simp [Addr.add, h0], h.cell]
  exact hx
/-- The state of a reading: the reader at rb, the message that grows at mb. -/
structure DecSt (w0 w : World) (rb mb : Nat) (s : Rs) (m : Ms) (vi vk vm vo : Value) : Prop where
  rd : RdR w rb s
  blk : Blk w mb (msC m vi vk vm vo) 29
  its : IRow w (mb + 1) vi m.its
  mks : KRow w (mb + 1) vk m.mks
  mem : Rv w 1 vm m.mem.length (ints m.mem)
  memlt : ∀ b, vm.ownBlock = some b → rb < b ∧ b < mb
  old : Rv w 1 vo m.old.length (ints m.old)
  oldlt : ∀ b, vo.ownBlock = some b → rb < b ∧ b < mb
  keep : Keep [] w0 w
  lo : w0.heap.size ≤ rb
  lt : rb < mb
theorem DecSt.reader {w0 w w' : World} {rb mb : Nat} {s s' : Rs} {m : Ms} {vi vk vm vo : Value} (h : DecSt w0 w rb mb s m vi vk vm vo) (hr : RdR w' rb s') (k : Keep [rb] w w') : DecSt w0 w' rb mb s' m vi vk vm vo := by
  have hlt := h.lt
  have hlo := h.lo
  exact ⟨hr, h.blk.keep k (by simp; omega), h.its.keep k (fun b hb hm => by have := (h.its.lt b hb).1; simp at hm; omega), h.mks.keep k (fun b hb hm => by have := (h.mks.lt b hb).1; simp at hm; omega),
    h.mem.keep k (fun b hb _ hm => by have := h.memlt b hb; simp at hm; omega), h.memlt, h.old.keep k (fun b hb _ hm => by have := h.oldlt b hb; simp at hm; omega), h.oldlt, h.keep.then k (by intro b hb hlt'; simp at hb; omega), h.lo, h.lt⟩
theorem DecSt.quiet {w0 w w' : World} {rb mb : Nat} {s : Rs} {m : Ms} {vi vk vm vo : Value} (h : DecSt w0 w rb mb s m vi vk vm vo) (k : Keep [] w w') : DecSt w0 w' rb mb s m vi vk vm vo :=
  h.reader (h.rd.keep k (by simp)) (k.mono (by simp))
theorem DecSt.rows {w0 w : World} {rb mb : Nat} {s : Rs} {m : Ms} {vi vk vm vo : Value} (h : DecSt w0 w rb mb s m vi vk vm vo) : MsRd w m vi vk vm vo := ⟨h.its.rd, h.mks.rd, h.mem, h.old⟩
/-- A write into the message's own block. -/
theorem DecSt.write {w0 w w' : World} {rb mb : Nat} {s : Rs} {m m' : Ms} {vi vk vm vo vi' vk' : Value} (h : DecSt w0 w rb mb s m vi vk vm vo) (k : Keep [mb] w w')
    (hb : Blk w' mb (msC m' vi' vk' vm vo) 29) (hi : IRow w (mb + 1) vi' m'.its) (hk : KRow w (mb + 1) vk' m'.mks) (hm : m'.mem = m.mem) (ho : m'.old = m.old) : DecSt w0 w' rb mb s m' vi' vk' vm vo := by
  have hlt := h.lt
  have hlo := h.lo
  exact ⟨h.rd.keep k (by intro b hb; simp at hb; omega), hb, hi.keep k (fun b hb hm => by have := (hi.lt b hb).1; simp at hm; omega), hk.keep k (fun b hb hm => by have := (hk.lt b hb).1; simp at hm; omega),
    by rw [hm]; exact h.mem.keep k (fun b hb _ hm => by have := h.memlt b hb; simp at hm; omega), h.memlt, by rw [ho]; exact h.old.keep k (fun b hb _ hm => by have := h.oldlt b hb; simp at hm; omega), h.oldlt,
    h.keep.then k (by intro b hb hlt'; simp at hb; omega), h.lo, h.lt⟩
theorem rItems_go (f : Nat) (n : Int) (acc : List It) (s : Rs) (h : 0 < n ∧ s.2 = false ∧ acc.length ≤ 4) : rItems (f + 1) n acc s = rItems f (n - 1) (acc ++ [(rItem s).1]) (rItem s).2 := by
  conv => lhs; unfold rItems
  rw [if_pos h]
theorem rItems_end (f : Nat) (n : Int) (acc : List It) (s : Rs) (h : ¬ (0 < n ∧ s.2 = false ∧ acc.length ≤ 4)) : rItems f n acc s = (acc, s) := by
  cases f with
  | zero => rfl
  | succ f => unfold rItems; rw [if_neg h]
theorem rMks_go (f : Nat) (n : Int) (acc : List Mk) (s : Rs) (h : 0 < n ∧ s.2 = false ∧ acc.length ≤ 4) : rMks (f + 1) n acc s = rMks f (n - 1) (acc ++ [(rMk s).1]) (rMk s).2 := by
  conv => lhs; unfold rMks
  rw [if_pos h]
theorem rMks_end (f : Nat) (n : Int) (acc : List Mk) (s : Rs) (h : ¬ (0 < n ∧ s.2 = false ∧ acc.length ≤ 4)) : rMks f n acc s = (acc, s) := by
  cases f with
  | zero => rfl
  | succ f => unfold rMks; rw [if_neg h]
theorem Rok.item {s : Rs} (h : Rok s) : Rok (rItem s).2 := h.text.text.num.num
theorem rItem_size (s : Rs) (h : Rok s) : (rItem s).1.1.size ≤ 65536 ∧ (rItem s).1.2.1.size ≤ 65536 := ⟨rText_size s h, rText_size _ h.text⟩
theorem Rok.mkr {s : Rs} (h : Rok s) : Rok (rMk s).2 := h.num.text
theorem rMk_size (s : Rs) (h : Rok s) : (rMk s).1.2.size ≤ 65536 := rText_size _ h.num
theorem Rok.fields {s : Rs} (h : Rok s) : Rok (rFields s).2 := h.num.num.num.num.num.num.num.num.num.num.num.num.text.nodes.nodes
theorem rFields_key (s : Rs) (h : Rok s) : (rFields s).1.key.size ≤ 65536 := rText_size _ h.num.num.num.num.num.num.num.num.num.num.num.num
theorem rNodesGo_len (f : Nat) : ∀ (n : Int) (acc : List Int) (s : Rs), acc.length ≤ 6 → (rNodesGo f n acc s).1.length ≤ 6 := by
  induction f with
  | zero => intro n acc s h; exact h
  | succ f ih =>
    intro n acc s h
    unfold rNodesGo
    split
    · rename_i hh
      exact ih _ _ _ (by simp only [List.length_append, List.length_cons, List.length_nil]; omega)
    · exact h
theorem rFields_rest (s : Rs) : (rFields s).1.it = it0 ∧ (rFields s).1.its = [] ∧ (rFields s).1.mks = [] ∧ (rFields s).1.mem.length ≤ 6 ∧ (rFields s).1.old.length ≤ 6 :=
  ⟨rfl, rfl, rfl, rNodesGo_len _ _ _ _ (by simp), rNodesGo_len _ _ _ _ (by simp)⟩
/-- A write into a block that is none of the reading's. -/
theorem DecSt.other {w0 w w' : World} {rb mb t : Nat} {s : Rs} {m : Ms} {vi vk vm vo : Value} (h : DecSt w0 w rb mb s m vi vk vm vo) (k : Keep [t] w w') (ht : mb < t)
    (hti : ∀ b, vi.ownBlock = some b → b ≠ t) (htk : ∀ b, vk.ownBlock = some b → b ≠ t) : DecSt w0 w' rb mb s m vi vk vm vo := by
  have hlt := h.lt
  have hlo := h.lo
  exact ⟨h.rd.keep k (by intro b hb; simp at hb; omega), h.blk.keep k (by simp; omega), h.its.keep k (fun b hb hm => by have := hti b hb; simp at hm; omega), h.mks.keep k (fun b hb hm => by have := htk b hb; simp at hm; omega),
    h.mem.keep k (fun b hb _ hm => by have := h.memlt b hb; simp at hm; omega), h.memlt, h.old.keep k (fun b hb _ hm => by have := h.oldlt b hb; simp at hm; omega), h.oldlt, h.keep.then k (by intro b hb hlt'; have := h.blk.lt; simp at hb; have := h.keep.size; omega), h.lo, h.lt⟩
/-- An append to the row of marks. -/
theorem DecSt.grow {w0 w w' : World} {rb mb : Nat} {s : Rs} {m : Ms} {vi vk vm vo : Value} (h : DecSt w0 w rb mb s m vi vk vm vo) (k : Keep vk.ownBlock.toList w w') :
    RdR w' rb s ∧ Blk w' mb (msC m vi vk vm vo) 29 ∧ IRow w' (mb + 1) vi m.its ∧ Rv w' 1 vm m.mem.length (ints m.mem) ∧ Rv w' 1 vo m.old.length (ints m.old) ∧ Keep [] w0 w' := by
  have hlt := h.lt
  have hlo := h.lo
  have hv : ∀ b ∈ vk.ownBlock.toList, mb + 1 ≤ b := fun b hb => (h.mks.lt b (Option.mem_toList.1 hb)).1
  refine ⟨h.rd.keep k (fun b hb => by have := hv b hb; omega), h.blk.keep k (fun hm => by have := hv _ hm; omega), h.its.keep k (fun b hb hm => (h.its.ty b hb).ne (h.mks.ty b (Option.mem_toList.1 hm)) (by decide) rfl),
    h.mem.keep k (fun b hb _ hm => by have := h.memlt b hb; have := hv b hm; omega), h.old.keep k (fun b hb _ hm => by have := h.oldlt b hb; have := hv b hm; omega), h.keep.then k (fun b hb hlt' => by have := hv b hb; omega)⟩
/-- bytes.Equal. -/
theorem Equal_any {w : World} (v u : Value) (l m : List Nat) (r : Bool) (hv : Rd w v l) (hu : Rd w u m) (hl : ∀ c ∈ l, c < 256) (hm : ∀ c ∈ m, c < 256) (hr : r = decide (l = m)) :
    Calls Try.prog 36 #[v, u] w fun e w' => e = .returned (.bool r) ∧ w = w' := by
  have hc1 := Rd.str (P := Try.prog) (src := 33) (dst := 9) hv hl Try.underlying33 Try.underlying5 Try.underlying9
  have hc2 := Rd.str (P := Try.prog) (src := 33) (dst := 9) hu hm Try.underlying33 Try.underlying5 Try.underlying9
  obtain ⟨_, a1, c1, rfl, _, _⟩ := id hv
  obtain ⟨_, a2, c2, rfl, _, _⟩ := id hu
  by_cases h : l = m
  · have HR : r = true := by rw [hr]; exact decide_eq_true h
    subst HR
    have he : toStr l = toStr m := by rw [h]
    rw [← he] at hc2
    clear hr h he
    go_enter Try.func36, Try.ntmps36
    go_wp2_with fail
    go_ret
    exact ⟨rfl, rfl⟩
  · have HR : r = false := by rw [hr]; exact decide_eq_false h
    subst HR
    have hne : toStr l ≠ toStr m := fun e => h (toStr_inj hl hm e)
    have he : ((toStr l).toList == (toStr m).toList) = false := by
      rw [beq_eq_false_iff_ne]
      intro e
      apply hne
      rw [ByteArray.toList_eq, ByteArray.toList_eq] at e
      exact bytes_inj e
    clear hne
    clear hr h
    generalize toStr l = s at *
    generalize toStr m = t at *
    go_enter Try.func36, Try.ntmps36
    go_wp2_with fail
    go_ret
    exact ⟨rfl, rfl⟩
/-- A struct that lies in a block, and one cell more: two results. -/
theorem results_cellrow_tmp {P : Program} {fn : Func} {p u : Tmp} {ty : TypeId} (h : fn.results = #[.cell p ty, .tmp u]) (tmps : Array Value) (w : World) (g : Nat) (t : TypeId) (cs : Array Value) (fr : Nat × Nat) (d : TypeDesc)
    (hp : tmps.getD p undef = .pointer (some ⟨g, 0, none⟩)) (hg : w.heap[g]? = some (.cells cs t fr))
    (hu : P.underlying ty = some d) (hd : (match d with | .struct _ | .array _ _ => true | _ => false) = true) (hi : (P.info? ty).map (·.size) = some cs.size) (v : Value) (hv : tmps.getD u undef = v) :
    (results fn tmps).run P w = .ok (.tuple #[.agg cs, v]) w := by
  subst hv
  have hp' : tmps[p]?.getD undef = .pointer (some ⟨g, 0, none⟩) := by simpa using hp
  simp [results, h, hp', asAddr, run_loadVar_row w g t ty cs fr d hg hu hd hi]
theorem wpList_build0 {P : Program} {ops : Array Oper} {rest : List Oper} {o : Oper} {a : Act} {w : World} {Q : Exit → Act → World → Prop} (hg : o.guard = none) (t : TypeId) (ho : o.op = .build t #[]) (cells : Array Value)
    (hf : P.built t [] = some cells) (h : wpList P ops Q rest (a.put o.dst (.agg cells)) w) : wpList P ops Q (o :: rest) a w :=
  wpList_build hg t #[] ho (by simp [hf]) (by simpa [hf] using h)
theorem Try.builtMsg : Try.prog.built 29 [] = some (msC ms0 (.slice none 0 0) (.slice none 0 0) (.slice none 0 0) (.slice none 0 0)).toArray := by kernel_rfl
theorem wpList_assign0 {P : Program} {ops : Array Oper} {rest : List Oper} {o : Oper} {a : Act} {w : World} {Q : Exit → Act → World → Prop} (hg : o.guard = none) (x : Operand) (ho : o.op = .assign x)
    (h : wpList P ops Q rest (a.put o.dst (a.eval x)) w) : wpList P ops Q (o :: rest) a w :=
  wpList_plain hg fun K hK => by
    unfold Oper.wp execOp
    simp only [ho, Sem.run_pure]
    exact hK _ _ h
end Go.Proofs.Ytonghelcfbjknaa
