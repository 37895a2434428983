/- A message that came in, opened. -/
import Derived.Test.YtonghelcfbjknaaMsgCut
namespace Go.Proofs.Ytonghelcfbjknaa
open Go.ChangeShapes Go.WideShapes Go.ChangeAt Go.RowKit
set_option linter.unusedVariables false
set_option linter.unusedSimpArgs false

theorem agg_of_list (v : Value) (l : List Value) (h : v.cells.toList = l) (hl : 2 ≤ l.length) : v = .agg l.toArray := by
  have h2 : v.cells = l.toArray := by rw [← h]
  cases v <;> first | (simp only [Value.cells] at h2; rw [h2]) | (exfalso; have := congrArg Array.size h2; simp [Value.cells] at this; omega)
section
variable {H : Type} {enc : TypeId × Value → H} {P : Program} {w : World}
theorem opens_field {fs : Array Field} {xs : List (DataW H × List MemPlace)} {n : Nat} {cs : List Value} (hxl : xs.length = fs.size)
    (hf : ∀ (i : Nat) (f : Field), fs[i]? = some f → DataW.trod enc P w 0 (fun _ => true) true n f.type ((cs.drop f.offset).take (P.cellsOf f.type)) = xs[i]?)
    (i : Nat) (f : Field) (hi : fs[i]? = some f) {k o : Nat} {ft : TypeId} {α : Type} {g : α → List Value} {R : α → Prop} (ht : f.type = ft) (hk : P.cellsOf ft = k) (ho : f.offset = o) (hop : Opens enc P w ft g R) :
    ∃ y, (cs.drop o).take k = g y ∧ R y := by
  have h := hf i f hi
  have hlt : i < xs.length := by rw [hxl]; exact (Array.getElem?_eq_some_iff.1 hi).1
  rw [List.getElem?_eq_getElem hlt] at h
  subst ht hk ho
  exact hop _ _ _ h
end
theorem mark_opens {H : Type} {enc : TypeId × Value → H} {W : World} : Opens enc Try.prog W 42 mkc (fun y => y.2.size ≤ 9223372036854775807) := fun fuel cs x h => by
  obtain ⟨xs, n, _, _, hl, hxl, hf⟩ := DataW.trod_struct Try.underlying42 h
  rw [show Try.prog.cellsOf 42 = 2 by kernel_rfl] at hl
  obtain ⟨y0, q0, r0⟩ := opens_field hxl hf 0 _ rfl rfl (k := 1) (by kernel_rfl) rfl (opens_int Try.underlying2)
  obtain ⟨y1, q1, r1⟩ := opens_field hxl hf 1 _ rfl rfl (k := 1) (by kernel_rfl) rfl (opens_string Try.underlying9)
  match cs, hl with
  | [a, b], _ =>
    simp at q0 q1
    subst q0 q1
    exact ⟨(y0, y1), rfl, r1⟩
structure MsInt (m : Ms) : Prop where
  kind : I64 m.kind
  epoch : I64 m.epoch
  tick : I64 m.tick
  seq : I64 m.seq
  n : I64 m.n
  id : I64 m.id
  base : I64 m.base
  err : I64 m.err
def IsMsg (W : World) (v : Value) : Prop := ∃ m vi vk vm vo, v = msV m vi vk vm vo ∧ MsRd W m vi vk vm vo ∧ MsRaw m ∧ MsInt m
theorem i64_of_wf {n : Int} (h : (Lit.int .i64 n).wf = true) : I64 n := by
  simp [Lit.wf, IntKind.min, IntKind.max, IntKind.signed, IntKind.bits] at h
  unfold I64; omega
theorem open_msg {H : Type} {enc : TypeId × Value → H} {W : World} {v : Value} {d : DataW H} {p : List MemPlace} {r : Reach} {b : Nat}
    (hv : Value.okWide Try.prog W r b 29 v) (h : DataW.Trod enc Try.prog W 0 (fun _ => true) true 29 v d p) : IsMsg W v := by
  obtain ⟨fuel, hfu⟩ := h
  obtain ⟨xs, n, _, _, hl, hxl, hf⟩ := DataW.trod_struct Try.underlying29 hfu
  rw [show Try.prog.cellsOf 29 = 21 by kernel_rfl] at hl
  obtain ⟨y0, q0, r0⟩ := opens_field hxl hf 0 _ rfl rfl (k := 1) (by kernel_rfl) rfl (opens_int Try.underlying3)
  obtain ⟨y1, q1, r1⟩ := opens_field hxl hf 1 _ rfl rfl (k := 1) (by kernel_rfl) rfl (opens_int Try.underlying3)
  obtain ⟨y2, q2, r2⟩ := opens_field hxl hf 2 _ rfl rfl (k := 1) (by kernel_rfl) rfl (opens_int Try.underlying3)
  obtain ⟨y3, q3, r3⟩ := opens_field hxl hf 3 _ rfl rfl (k := 1) (by kernel_rfl) rfl (opens_int Try.underlying2)
  obtain ⟨y4, q4, r4⟩ := opens_field hxl hf 4 _ rfl rfl (k := 1) (by kernel_rfl) rfl (opens_int Try.underlying2)
  obtain ⟨y5, q5, r5⟩ := opens_field hxl hf 5 _ rfl rfl (k := 1) (by kernel_rfl) rfl (opens_int Try.underlying2)
  obtain ⟨y6, q6, r6⟩ := opens_field hxl hf 6 _ rfl rfl (k := 1) (by kernel_rfl) rfl (opens_int Try.underlying3)
  obtain ⟨y7, q7, r7⟩ := opens_field hxl hf 7 _ rfl rfl (k := 1) (by kernel_rfl) rfl (opens_int Try.underlying2)
  obtain ⟨y8, q8, r8⟩ := opens_field hxl hf 8 _ rfl rfl (k := 1) (by kernel_rfl) rfl (opens_int Try.underlying3)
  obtain ⟨y9, q9, r9⟩ := opens_field hxl hf 9 _ rfl rfl (k := 1) (by kernel_rfl) rfl (opens_string Try.underlying9)
  obtain ⟨y10, q10, r10⟩ := opens_field hxl hf 10 _ rfl rfl (k := 1) (by kernel_rfl) rfl (opens_int Try.underlying22)
  obtain ⟨y11, q11, r11⟩ := opens_field hxl hf 11 _ rfl rfl (k := 1) (by kernel_rfl) rfl (opens_bool Try.underlying4)
  obtain ⟨y12, q12, r12⟩ := opens_field hxl hf 12 _ rfl rfl (k := 4) (by kernel_rfl) rfl items_opens
  obtain ⟨y13, q13, r13⟩ := opens_field hxl hf 13 _ rfl rfl (k := 1) (by kernel_rfl) rfl (opens_slice Try.underlying25 (k := 4) (by kernel_rfl) (by omega) (fun _ => rfl) items_opens)
  obtain ⟨y14, q14, r14⟩ := opens_field hxl hf 14 _ rfl rfl (k := 1) (by kernel_rfl) rfl (opens_slice Try.underlying26 (k := 2) (by kernel_rfl) (by omega) (fun _ => rfl) mark_opens)
  obtain ⟨y15, q15, r15⟩ := opens_field hxl hf 15 _ rfl rfl (k := 1) (by kernel_rfl) rfl (opens_slice1 Try.underlying27 (by kernel_rfl) (opens_int Try.underlying3))
  obtain ⟨y16, q16, r16⟩ := opens_field hxl hf 16 _ rfl rfl (k := 1) (by kernel_rfl) rfl (opens_int Try.underlying2)
  obtain ⟨y17, q17, r17⟩ := opens_field hxl hf 17 _ rfl rfl (k := 1) (by kernel_rfl) rfl (opens_slice1 Try.underlying27 (by kernel_rfl) (opens_int Try.underlying3))
  clear hf hxl
  obtain ⟨vi, its⟩ := y13
  obtain ⟨vk, mks⟩ := y14
  obtain ⟨vm, mem⟩ := y15
  obtain ⟨vo, old⟩ := y17
  obtain ⟨r13, n13, s13⟩ := r13
  obtain ⟨r14, n14, s14⟩ := r14
  obtain ⟨r15, n15, _⟩ := r15
  obtain ⟨r17, n17, _⟩ := r17
  simp only at r13 n13 s13 r14 n14 s14 r15 n15 r17 n17
  refine ⟨⟨y0, y1, y2, y3, y4, y5, y6, y7, y8, y9, y10, y11, y12, its, mks, mem, y16, old⟩, vi, vk, vm, vo, ?_, ⟨r13, r14, r15, r17⟩, ⟨r9, ⟨r12.1, r12.2.1⟩, fun y hy => ⟨(s13 y hy).1, (s13 y hy).2.1⟩, s14, n13, n14, n15, n17⟩,
    ⟨i64_of_wf r0, i64_of_wf r3, i64_of_wf r4, i64_of_wf r5, i64_of_wf r6, i64_of_wf r7, i64_of_wf r16, i64_of_wf r10⟩⟩
  refine agg_of_list _ _ ?_ (by simp [msC])
  generalize v.cells.toList = cs at *
  match cs, hl with
  | [a0, a1, a2, a3, a4, a5, a6, a7, a8, a9, a10, a11, a12, a13, a14, a15, a16, a17, a18, a19, a20], _ =>
    simp [itc, itC] at q0 q1 q2 q3 q4 q5 q6 q7 q8 q9 q10 q11 q12 q13 q14 q15 q16 q17
    obtain ⟨p0, p1, p2, p3⟩ := q12
    subst q0 q1 q2 q3 q4 q5 q6 q7 q8 q9 q10 q11 p0 p1 p2 p3 q13 q14 q15 q16 q17
    rfl
end Go.Proofs.Ytonghelcfbjknaa
