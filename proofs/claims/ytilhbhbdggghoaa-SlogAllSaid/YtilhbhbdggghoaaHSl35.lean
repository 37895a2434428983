/- slog: the law SlogAll: its state. -/
import Derived.Test.YtilhbhbdggghoaaHSl34
namespace Go.Proofs.Ytilhbhbdggghoaa
open Go.ChangeShapes Go.WideShapes Go.ChangeAt Go.RowKit
set_option linter.unusedVariables false
set_option linter.unusedSimpArgs false
set_option maxRecDepth 100000

/-- The log and what was appended. -/
structure AlL (w wr : World) (d sb segs k lb : Nat) (R : List Rcd) (B : Nat) (vl : Value) (l : List Sg) (fr : Bool) (L : List Sec) (run c nx q : Nat) : Prop where
  log : LogOk wr B lb d 2 segs nx run fr vl l L q
  dev : IsDev wr d sb L c
  tail : Tail segs (l.map Sg.ps) R
  up : R.Pairwise (fun a b => a.1 < b.1)
  pos : ∀ r ∈ R, r.1 < nx
  few : c ≤ 20 * k ∧ q ≤ k ∧ run ≤ 1 + k ∧ 1 ≤ nx ∧ nx ≤ 1 + 65 * k
  sg : 3 ≤ segs ∧ segs ≤ 12
  len : L.length = 2 + segs * 8
  low : w.heap.size ≤ B ∧ w.heap.size ≤ d ∧ w.heap.size ≤ sb
  keep : Keep [] w wr
def AlLog (w wr : World) (d sb segs k lb : Nat) (R : List Rcd) : Prop := ∃ B vl l fr L run c nx q, AlL w wr d sb segs k lb R B vl l fr L run c nx q
/-- The blocks of S are none of the law's own, none of what came in. -/
def Apart6 (w wr : World) (S : List Nat) : Prop := (∀ b, b < w.heap.size → b ∉ S) ∧ ∀ b, Ty wr b 51 ∨ Ty wr b 48 → b ∉ S
section
variable {w wr : World} {d sb segs k lb : Nat} {R : List Rcd} {bv : Value} {body : List Nat}
theorem AlLog.keep (h : AlLog w wr d sb segs k lb R) : Keep [] w wr := by
  obtain ⟨B, vl, l, fr, L, run, c, nx, q, h⟩ := h
  exact h.keep
theorem AlLog.still {w' : World} (h : AlLog w wr d sb segs k lb R) (kk : Keep [] wr w') : AlLog w w' d sb segs k lb R := by
  obtain ⟨B, vl, l, fr, L, run, c, nx, q, h⟩ := h
  exact ⟨B, vl, l, fr, L, run, c, nx, q, h.log.still kk, h.dev.keep kk (by simp) (by simp), h.tail, h.up, h.pos, h.few, h.sg, h.len, h.low, h.keep.trans kk⟩
theorem AlL.apart {B : Nat} {vl : Value} {l : List Sg} {fr : Bool} {L : List Sec} {run c nx q : Nat} (h : AlL w wr d sb segs k lb R B vl l fr L run c nx q) : Apart6 w wr (d :: sb :: lgF lb vl l) := by
  refine ⟨fun b hb hm => ?_, fun b hb hm => ?_⟩
  · simp only [List.mem_cons] at hm
    have := h.low
    rcases hm with h1 | h1 | h1
    · omega
    · omega
    · have := (h.log.at_.lt b h1).1; omega
  · simp only [List.mem_cons] at hm
    rcases hb with hb | hb
    · rcases hm with h1 | h1 | h1
      · subst h1; exact hb.ne h.dev.dev.ty (by decide) rfl
      · subst h1; exact hb.ne h.dev.secs.ty (by decide) rfl
      · exact h.log.at_.apartT hb (by decide) h1
    · rcases hm with h1 | h1 | h1
      · subst h1; exact hb.ne h.dev.dev.ty (by decide) rfl
      · subst h1; exact hb.ne h.dev.secs.ty (by decide) rfl
      · exact h.log.at_.apartT hb (by decide) h1
theorem AlLog.app (h : AlLog w wr d sb segs k lb R) (hk : k ≤ 200) (hb : Rd wr bv body) (hbl : 1 ≤ body.length ∧ body.length ≤ 300) (hbb : ∀ c ∈ body, c < 256) (hbs : ∀ q, bv.ownBlock = some q → q < w.heap.size) :
    Calls Try.prog 11 #[.pointer (some ⟨lb, 0, none⟩), bv] wr fun e w' => ∃ (nx : Nat) (S : List Nat), e = .returned (.tuple #[.int .i64 (nx : Int), .int .i64 0]) ∧ 1 ≤ nx ∧ (∀ r ∈ R, r.1 < nx) ∧ AlLog w w' d sb segs (k + 1) lb (R ++ [((nx, body) : Rcd)]) ∧ Keep S wr w' ∧ Apart6 w wr S := by
  obtain ⟨B, vl, l, fr, L, run, c, nx, q, h⟩ := h
  have hlow := h.low
  have hfew := h.few
  have hsg := h.sg
  refine (appendOk h.log h.dev (by omega) ⟨by omega, by omega⟩ (by omega) (by omega) ⟨by omega, by omega⟩ (by rw [h.len]; omega) hb hbl hbb (fun q hq => h.apart.1 q (hbs q hq))).mono ?_
  rintro e w' ⟨rfl, vl', l', L', c', h1, h2, h3, h4, h5, h6, h7, h8⟩
  refine ⟨nx, _, rfl, hfew.2.2.2.1, h.pos, ⟨B, vl', l', false, L', run, c', nx + 1, q + 1, h1, h2, ?_, ?_, ?_, by omega, hsg, by rw [h7, h.len], hlow, logKeep h.log.at_ hlow.1 hlow.2.1 hlow.2.2 h.keep h5⟩, h5, h.apart⟩
  · rw [h4]
    exact h.tail.app h.log.say (by omega) ⟨by omega, by omega⟩ body ⟨hbl.1, hbl.2, by show nx < _; omega, hbb⟩
  · rw [List.pairwise_append]
    refine ⟨h.up, by simp, fun a ha b hb => ?_⟩
    have := List.mem_singleton.1 hb
    subst this
    exact h.pos a ha
  · intro r hr
    rcases List.mem_append.1 hr with hr | hr
    · have := h.pos r hr; omega
    · have := List.mem_singleton.1 hr
      subst this
      show nx < nx + 1
      omega
theorem AlLog.flush (h : AlLog w wr d sb segs k lb R) (hk : k ≤ 200) :
    Calls Try.prog 14 #[.pointer (some ⟨lb, 0, none⟩)] wr fun e w' => ∃ S, e = .returned (.int .i64 0) ∧ AlLog w w' d sb segs (k + 1) lb R ∧ Keep S wr w' ∧ Apart6 w wr S := by
  obtain ⟨B, vl, l, fr, L, run, c, nx, q, h⟩ := h
  have hlow := h.low
  have hfew := h.few
  have hsg := h.sg
  refine (LFlush_any h.log.at_ h.dev (by omega)).mono ?_
  rintro e w' ⟨rfl, hD, hK⟩
  refine ⟨[d, sb], rfl, ⟨B, vl, l, fr, _, run, c + 1, nx, q, h.log.flushed (by omega) hK h.dev, hD, h.tail, h.up, h.pos, by omega, hsg, by simp [h.len], hlow, h.keep.then hK (fun x hx hlt => by simp at hx; omega)⟩, hK, ?_⟩
  have ha := h.apart
  exact ⟨fun b hb hm => ha.1 b hb (by simp at hm ⊢; rcases hm with h1 | h1 <;> simp [h1]), fun b hb hm => ha.2 b hb (by simp at hm ⊢; rcases hm with h1 | h1 <;> simp [h1])⟩
theorem AlLog.reopen (h : AlLog w wr d sb segs k lb R) (hk : k ≤ 200) :
    Calls Try.prog 9 #[.pointer (some ⟨d, 0, none⟩), .int .i64 2, .int .i64 (segs : Int)] wr fun e w' => ∃ lb', e = .returned (.tuple #[.pointer (some ⟨lb', 0, none⟩), .int .i64 0]) ∧ AlLog w w' d sb segs (k + 1) lb' R ∧ Keep [] wr w' := by
  obtain ⟨B, vl, l, fr, L, run, c, nx, q, h⟩ := h
  have hlow := h.low
  have hfew := h.few
  have hsg := h.sg
  refine (openOk h.dev h.log.dev h.log.say hfew.2.2.2.1 (by omega) (by omega) ⟨by omega, by omega⟩ (by rw [h.len]; omega) (by have := h.log.say.len; omega)).mono ?_
  rintro e w' ⟨lb', vl', l', run', rfl, hL, hS, hr, hK⟩
  have hnx := h.log.say.next hfew.2.2.2.1
  refine ⟨lb', rfl, ⟨wr.heap.size, vl', l', true, L, run', c, _, q, hL, h.dev.keep hK (by simp) (by simp), by rw [hS]; exact h.tail, h.up, ?_, by omega, hsg, h.len, ⟨h.keep.size, hlow.2.1, hlow.2.2⟩, h.keep.trans hK⟩, hK⟩
  intro r hr2
  have hne : R ≠ [] := List.ne_nil_of_mem hr2
  obtain ⟨y, hy⟩ : ∃ y, R.getLast? = some y := ⟨_, List.getLast?_eq_some_getLast hne⟩
  have h1 := hnx.2.2 y (h.tail.last h.log.say (by omega) hne y hy)
  obtain ⟨R0, rfl⟩ := List.getLast?_eq_some_iff.1 hy
  rcases List.mem_append.1 hr2 with h2 | h2
  · have := (List.pairwise_append.1 h.up).2.2 r h2 y (by simp)
    omega
  · have := List.mem_singleton.1 h2
    subst this; exact h1
theorem AlLog.shows {base : Nat} {v : Value} {A : List Ar} (h : AlLog w wr d sb segs k lb (A.map (·.r))) (hk : k ≤ 200) (hA : ARow wr base v A) (hok : ∀ a ∈ A, a.r.2.length ≤ 300 ∧ (∀ c ∈ a.r.2, c < 256) ∧ a.op ≤ 80) (hl : A.length ≤ 80) :
    Calls Try.prog 17 #[.pointer (some ⟨lb, 0, none⟩), v, .int .i64 (segs : Int), .int .i64 (A.length : Int)] wr fun e w' => e = .returned (.bool true) ∧ Keep [] wr w' := by
  obtain ⟨B, vl, l, fr, L, run, c, nx, q, h⟩ := h
  have hfew := h.few
  refine shows_any h.log h.sg hA (fun a ha => ⟨(hok a ha).1, (hok a ha).2.1, ?_, (hok a ha).2.2⟩) ?_ hl h.tail
  · have := h.pos a.r (List.mem_map.2 ⟨a, ha, rfl⟩); omega
  · have := h.up
    rw [List.pairwise_map] at this
    exact this
end
/-- The law's state. -/
def AlAll (w wr : World) (d sb segs j lb : Nat) (v : Value) : Prop := ∃ k A, k ≤ 2 * j ∧ AlLog w wr d sb segs k lb (A.map Ar.r) ∧ ARow wr w.heap.size v A ∧ (∀ a ∈ A, a.r.2.length ≤ 300 ∧ (∀ c ∈ a.r.2, c < 256) ∧ a.op ≤ j) ∧ A.length ≤ j
theorem AlAll.still {w wr w' : World} {d sb segs j lb : Nat} {v : Value} (h : AlAll w wr d sb segs j lb v) (kk : Keep [] wr w') : AlAll w w' d sb segs j lb v := by
  obtain ⟨k, A, h1, h2, h3, h4, h5⟩ := h
  exact ⟨k, A, h1, h2.still kk, h3.keep kk (by simp), h4, h5⟩
theorem AlAll.next {w wr : World} {d sb segs j lb : Nat} {v : Value} (h : AlAll w wr d sb segs j lb v) : AlAll w wr d sb segs (j + 1) lb v := by
  obtain ⟨k, A, h1, h2, h3, h4, h5⟩ := h
  exact ⟨k, A, by omega, h2, h3, fun a ha => ⟨(h4 a ha).1, (h4 a ha).2.1, by have := (h4 a ha).2.2; omega⟩, by omega⟩
theorem Rv.move {w w' : World} {sz : Nat} {v : Value} {n : Nat} {vs : List Value} (h : Rv w sz v n vs) (hm : 0 < vs.length → ∀ b, v.ownBlock = some b → b < w'.heap.size ∧ w'.heap[b]? = w.heap[b]?) : Rv w' sz v n vs := by
  obtain ⟨hl, a, cap, rfl, hc, hh⟩ := h
  refine ⟨hl, a, cap, rfl, hc, fun hp => ?_⟩
  obtain ⟨sb, so, rfl, hs, hat⟩ := hh hp
  have hx := hm hp sb rfl
  exact ⟨sb, so, rfl, hx.1, fun i hi => by rw [World.cell?_of_block (w := w) (w' := w') (a := ⟨sb, so + i, none⟩) hx.2]; exact hat i hi⟩
theorem Rv.own_lt {w : World} {v : Value} {n : Nat} {vs : List Value} (h : Rv w 1 v n vs) (hn : 0 < n) : ∀ b, v.ownBlock = some b → b < w.heap.size := by
  obtain ⟨sb, so, cap, rfl, _, hs, _⟩ := h.at1 hn
  intro b hb
  cases hb
  exact hs
theorem Rv.keepS {w w' : World} {S : List Nat} {v : Value} {n : Nat} {vs : List Value} (h : Rv w 1 v n vs) (k : Keep S w w') (hS : 0 < n → ∀ b, v.ownBlock = some b → b ∉ S) : Rv w' 1 v n vs := by
  refine h.move fun hp b hb => ?_
  have hl := h.len
  have hn : 0 < n := by omega
  have hb2 := h.own_lt hn b hb
  exact ⟨Nat.lt_of_lt_of_le hb2 k.size, k.block b hb2 (hS hn b hb)⟩
/-- What reads behind one block reads behind another one in its place. -/
theorem rv_swap {w : World} {v v' : Value} {n m : Nat} {vs us : List Value} {o o' : Obj} (h : Rv w 1 v n vs) (h' : Rv (w.alloc o) 1 v' m us) (hn : 0 < m → 0 < n) (ho : v'.ownBlock = v.ownBlock) : Rv (w.alloc o') 1 v' m us := by
  refine h'.move fun hp b hb => ?_
  have hl := h'.len
  have hb2 := h.own_lt (hn (by omega)) b (by rw [← ho]; exact hb)
  exact ⟨by simp; omega, by rw [Below.heap_alloc w o' b hb2, Below.heap_alloc w o b hb2]⟩
theorem AlLog.row {w wr w' : World} {d sb segs k lb : Nat} {R : List Rcd} {v : Value} {A : List Ar} (h : AlLog w wr d sb segs k lb R) (hA : ARow wr w.heap.size v A) (kk : Keep v.ownBlock.toList wr w') : AlLog w w' d sb segs k lb R := by
  obtain ⟨B, vl, l, fr, L, run, c, nx, q, h⟩ := h
  have hn : ∀ b, b ∈ v.ownBlock.toList → b ∉ d :: sb :: lgF lb vl l := fun b hb => h.apart.2 b (.inl (hA.ty b (by simpa using hb)))
  refine ⟨B, vl, l, fr, L, run, c, nx, q, h.log.keep kk (fun x hx hm => hn x hm (by simp [hx])), h.dev.keep kk (fun hm => hn _ hm (by simp)) (fun hm => hn _ hm (by simp)), h.tail, h.up, h.pos, h.few, h.sg, h.len, h.low, h.keep.then kk (fun x hx hlt => ?_)⟩
  have := (hA.lt x (by simpa using hx)).1
  omega
theorem AlAll.shows {w wr : World} {d sb segs j lb n c : Nat} {a : Option Addr} (h : AlAll w wr d sb segs j lb (.slice a n c)) (hj : j ≤ 80) (x : Int) (hx : x = (n : Int)) :
    Calls Try.prog 17 #[.pointer (some ⟨lb, 0, none⟩), .slice a n c, .int .i64 (segs : Int), .int .i64 x] wr fun e w' => e = .returned (.bool true) ∧ Keep [] wr w' := by
  obtain ⟨k, A, h1, h2, h3, h4, h5⟩ := h
  obtain ⟨a', c', he⟩ := h3.slice
  injection he with e1 e2 e3
  subst e1 e2 e3 hx
  exact h2.shows (by omega) h3 (fun a ha => ⟨(h4 a ha).1, (h4 a ha).2.1, by have := (h4 a ha).2.2; omega⟩) (by omega)
end Go.Proofs.Ytilhbhbdggghoaa
