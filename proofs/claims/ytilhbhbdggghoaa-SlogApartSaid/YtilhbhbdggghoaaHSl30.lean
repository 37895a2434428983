/- slog: the law SlogApart: its walk. -/
import Derived.Test.YtilhbhbdggghoaaHSl29
import Derived.Test.YtilhbhbdggghoaaG1
namespace Go.Proofs.Ytilhbhbdggghoaa
open Go.ChangeShapes Go.WideShapes Go.ChangeAt Go.RowKit
set_option linter.unusedVariables false
set_option linter.unusedSimpArgs false
set_option maxRecDepth 100000

def IsTexts (w : World) (v : Value) : Prop := ∃ ts : List (Value × List Nat), Rv w 1 v ts.length (ts.map Prod.fst) ∧ ts.length ≤ 9223372036854775807 ∧ ∀ p ∈ ts, Rd w p.1 p.2 ∧ p.2.length ≤ 9223372036854775807 ∧ ∀ c ∈ p.2, c < 256
theorem open_texts {H : Type} {enc : TypeId × Value → H} {W : World} {v : Value} {d : DataW H} {p : List MemPlace} {r : Reach} {b : Nat}
    (hv : Value.okWide Try.prog W r b 40 v) (h : DataW.Trod enc Try.prog W 0 (fun _ => true) true 40 v d p) : IsTexts W v := by
  obtain ⟨a0, len, cap, rfl⟩ := okWide_slice Try.underlying40 hv
  obtain ⟨⟨y, l⟩, hy, h1, h2, h3⟩ := opens_val (f := fun p : Value × List (Value × List Nat) => p.1) (opens_slice1 (f := Prod.fst) Try.underlying40 (by kernel_rfl) (opens_bytes Try.underlying29 Try.underlying5 (by kernel_rfl))) (fun y hy => by simpa [Value.cells] using hy) h
  exact ⟨l, hy ▸ h1, h2, h3⟩
/-- Two logs on one device. -/
structure Ap2 (w wr : World) (Bx By d sb lx ly rx ry n m : Nat) (vx : Value) (sx : List Sg) (fx : Bool) (vy : Value) (sy : List Sg) (fy : Bool) (L : List Sec) (c : Nat) (ax ay : List Rcd) : Prop where
  x : LogOk wr Bx lx d 1 4 (n + 1) rx fx vx sx L n
  y : LogOk wr By ly d 33 4 (m + 1) ry fy vy sy L m
  dev : IsDev wr d sb L c
  few : c ≤ 12 * (n + m)
  len : L.length = 70
  tx : Tail 4 (sx.map Sg.ps) ax
  ty : Tail 4 (sy.map Sg.ps) ay
  nx : ax.length = n ∧ ∀ r ∈ ax, r.2.length ≤ 40
  ny : ay.length = m ∧ ∀ r ∈ ay, r.2.length ≤ 40
  apart : ∀ q ∈ lgF lx vx sx, q ∉ lgF ly vy sy
  low : w.heap.size ≤ Bx ∧ w.heap.size ≤ By ∧ w.heap.size ≤ d ∧ w.heap.size ≤ sb
  keep : Keep [] w wr
def Ap (w wr : World) (Bx By d sb lx ly rx ry n m : Nat) : Prop := ∃ vx sx fx vy sy fy L c ax ay, Ap2 w wr Bx By d sb lx ly rx ry n m vx sx fx vy sy fy L c ax ay
section
variable {w wr : World} {Bx By d sb lx ly rx ry n m : Nat} {bv : Value} {body : List Nat}
theorem Ap.still {w' : World} (h : Ap w wr Bx By d sb lx ly rx ry n m) (k : Keep [] wr w') : Ap w w' Bx By d sb lx ly rx ry n m := by
  obtain ⟨vx, sx, fx, vy, sy, fy, L, c, ax, ay, h⟩ := h
  exact ⟨vx, sx, fx, vy, sy, fy, L, c, ax, ay, h.x.still k, h.y.still k, h.dev.keep k (by simp) (by simp), h.few, h.len, h.tx, h.ty, h.nx, h.ny, h.apart, h.low, h.keep.trans k⟩
theorem Ap.appX (h : Ap w wr Bx By d sb lx ly rx ry n m) (hn : n ≤ 3 ∧ m ≤ 3) (hr : rx ≤ 1) (hb : Rd wr bv body) (hbl : 1 ≤ body.length ∧ body.length ≤ 40) (hbb : ∀ c ∈ body, c < 256) (hbs : ∀ q, bv.ownBlock = some q → q < w.heap.size) :
    Calls Try.prog 11 #[.pointer (some ⟨lx, 0, none⟩), bv] wr fun e w' => e = .returned (.tuple #[.int .i64 ((n + 1 : Nat) : Int), .int .i64 0]) ∧ Ap w w' Bx By d sb lx ly rx ry (n + 1) m := by
  obtain ⟨vx, sx, fx, vy, sy, fy, L, c, ax, ay, h⟩ := h
  have hlow := h.low
  have hfew := h.few
  refine (appendOk h.x h.dev (by omega) ⟨by omega, by omega⟩ (by omega) (by omega) ⟨by decide, by decide⟩ (by rw [h.len]; decide) hb ⟨hbl.1, by omega⟩ hbb (fun q hq hm => by
    have h1 := hbs q hq
    simp only [List.mem_cons] at hm
    rcases hm with h2 | h2 | h2
    · omega
    · omega
    · have := (h.x.at_.lt q h2).1; omega)).mono ?_
  rintro e w' ⟨rfl, vl', l', L', c', h1, h2, h3, h4, h5, h6, h7, h8⟩
  refine ⟨rfl, vl', l', false, vy, sy, fy, L', c', ax ++ [(n + 1, body)], ay, h1, ⟨h.y.at_.keep h5 (fun q hq hm => ?_), h.y.dev.congr (fun i hi1 hi2 => h8 i (.inr (by omega))) (by decide), h.y.say⟩, h2, by omega, by rw [h7, h.len], ?_, h.ty, ⟨by simp [h.nx.1], ?_⟩, h.ny, ?_, h.low, ?_⟩
  · simp only [List.mem_cons] at hm
    rcases hm with h9 | h9 | h9
    · exact h.y.at_.apart h.dev q hq (by simp [h9])
    · exact h.y.at_.apart h.dev q hq (by simp [h9])
    · exact h.apart q h9 hq
  · rw [h4]
    exact h.tx.app h.x.say (by decide) ⟨by omega, by omega⟩ body ⟨hbl.1, by show body.length ≤ 300; omega, by show n + 1 < _; omega, hbb⟩
  · intro r hr'
    rcases List.mem_append.1 hr' with h9 | h9
    · exact h.nx.2 r h9
    · have := List.mem_singleton.1 h9
      subst this; exact hbl.2
  · intro q hq hq2
    rcases h6 q hq with h9 | h9
    · exact h.apart q h9 hq2
    · have := (h.y.at_.lt q hq2).2; omega
  · exact logKeep h.x.at_ hlow.1 hlow.2.2.1 hlow.2.2.2 h.keep h5
theorem Ap.appY (h : Ap w wr Bx By d sb lx ly rx ry n m) (hn : n ≤ 3 ∧ m ≤ 3) (hr : ry ≤ 1) (hb : Rd wr bv body) (hbl : 1 ≤ body.length ∧ body.length ≤ 40) (hbb : ∀ c ∈ body, c < 256) (hbs : ∀ q, bv.ownBlock = some q → q < w.heap.size) :
    Calls Try.prog 11 #[.pointer (some ⟨ly, 0, none⟩), bv] wr fun e w' => e = .returned (.tuple #[.int .i64 ((m + 1 : Nat) : Int), .int .i64 0]) ∧ Ap w w' Bx By d sb lx ly rx ry n (m + 1) := by
  obtain ⟨vx, sx, fx, vy, sy, fy, L, c, ax, ay, h⟩ := h
  have hlow := h.low
  have hfew := h.few
  refine (appendOk h.y h.dev (by omega) ⟨by omega, by omega⟩ (by omega) (by omega) ⟨by decide, by decide⟩ (by rw [h.len]; decide) hb ⟨hbl.1, by omega⟩ hbb (fun q hq hm => by
    have h1 := hbs q hq
    simp only [List.mem_cons] at hm
    rcases hm with h2 | h2 | h2
    · omega
    · omega
    · have := (h.y.at_.lt q h2).1; omega)).mono ?_
  rintro e w' ⟨rfl, vl', l', L', c', h1, h2, h3, h4, h5, h6, h7, h8⟩
  refine ⟨rfl, vx, sx, fx, vl', l', false, L', c', ax, ay ++ [(m + 1, body)], ⟨h.x.at_.keep h5 (fun q hq hm => ?_), h.x.dev.congr (fun i hi1 hi2 => h8 i (.inl (by omega))) (by decide), h.x.say⟩, h1, h2, by omega, by rw [h7, h.len], h.tx, ?_, h.nx, ⟨by simp [h.ny.1], ?_⟩, ?_, h.low, ?_⟩
  · simp only [List.mem_cons] at hm
    rcases hm with h9 | h9 | h9
    · exact h.x.at_.apart h.dev q hq (by simp [h9])
    · exact h.x.at_.apart h.dev q hq (by simp [h9])
    · exact h.apart q hq h9
  · rw [h4]
    exact h.ty.app h.y.say (by decide) ⟨by omega, by omega⟩ body ⟨hbl.1, by show body.length ≤ 300; omega, by show m + 1 < _; omega, hbb⟩
  · intro r hr'
    rcases List.mem_append.1 hr' with h9 | h9
    · exact h.ny.2 r h9
    · have := List.mem_singleton.1 h9
      subst this; exact hbl.2
  · intro q hq hq2
    rcases h6 q hq2 with h9 | h9
    · exact h.apart q hq h9
    · have := (h.x.at_.lt q hq).2; omega
  · exact logKeep h.y.at_ hlow.2.1 hlow.2.2.1 hlow.2.2.2 h.keep h5
end
/-- Few short records are all there. -/
theorem Tail.all {S : List PS} {all : List Rcd} {nx q : Nat} (h : Tail 4 S all) (hS : SOk 4 S nx q) (hl : all.length ≤ 3) (h40 : ∀ r ∈ all, r.2.length ≤ 40) : S.flatMap PS.rs = all := by
  obtain ⟨k, hk, hkl, hfull⟩ := h.tail
  by_cases h0 : 0 < k
  · exfalso
    have h1 := hS.cost (by decide) (hfull h0)
    have h2 : ∀ l : List Rcd, (∀ r ∈ l, r.2.length ≤ 40) → costR l ≤ 100 * l.length := by
      intro l
      induction l with
      | nil => intro _; simp [costR]
      | cons r l ih =>
        intro hl
        have e : costR (r :: l) = r.2.length + 60 + costR l := by simp [costR]
        have := hl r (by simp)
        have := ih (fun x hx => hl x (by simp [hx]))
        rw [e, List.length_cons]; omega
    rw [hk] at h1
    have h3 := h2 (all.drop k) (fun r hr => h40 r (List.mem_of_mem_drop hr))
    rw [List.length_drop] at h3
    omega
  · have : k = 0 := by omega
    subst this
    simpa using hk
end Go.Proofs.Ytilhbhbdggghoaa
