/- The contract of the laws' Same: a device and the reference's of the same sectors. -/
import Derived.Test.YthknelejcedhnaaRefCrash
import Derived.Test.YthknelejcedhnaaDevOwn
import Derived.Deep.QuietTactic
import Derived.BigQuiet
namespace Go.Proofs.Ythknelejcedhnaa
open Go.ChangeShapes Go.WideShapes Go.ChangeAt Go.RowKit
set_option linter.unusedVariables false
set_option linter.unusedSimpArgs false

theorem Keep.drewN {S : List Nat} {a w : World} (h : Keep S a w) (n : Nat) : Keep S a (w.drewN n) := ⟨h.os, h.tape, h.output, h.size, h.block⟩
theorem IsDev.drewN {w : World} {b sb : Nat} {l : List Sec} {c : Nat} (h : IsDev w b sb l c) (n : Nat) : IsDev (w.drewN n) b sb l c := h.keep ((Keep.refl [] _).drewN n) (by simp) (by simp)
theorem IsRef.drewN {w : World} {B r nb fb db : Nat} {l : List Sec} {c : Nat} (h : IsRef w B r nb fb db l c) (n : Nat) : IsRef (w.drewN n) B r nb fb db l c := h.keep ((Keep.refl [] _).drewN n) (by simp)
theorem Own.drewN {w : World} {base : Nat} {E : TypeId} {v : Value} {vs : List Value} (h : Own w base E v vs) (n : Nat) : Own (w.drewN n) base E v vs := h
theorem calls_flip {P : Program} {f : FuncId} {args : Array Value} {w : World} {v : Value} (h : Calls P f args w fun e w' => e = .returned v ∧ w = w') : Calls P f args w fun e w' => e = .returned v ∧ w' = w :=
  h.mono fun _ _ ⟨he, hw⟩ => ⟨he, hw.symm⟩

set_option maxRecDepth 100000 in
set_option maxHeartbeats 4000000 in
theorem Same_any {w : World} {b sb B r nb fb db : Nat} {l : List Sec} {c : Nat} (hD : IsDev w b sb l c) (hR : IsRef w B r nb fb db l c) :
    Calls Try.prog 38 #[.pointer (some ⟨b, 0, none⟩), .pointer (some ⟨r, 0, none⟩)] w fun e w' => e = .returned (.bool true) ∧ Keep [] w w' := by
  obtain ⟨nc, fc, g0, g1, g2, g3, g3f, _, _⟩ := refLen hR
  have hmx := hR.max
  go_enter Try.func38, Try.ntmps38
  go_wp2_with fail
  go_quiet ((first | (go_at_call 27; refine Calls.quiet_of_same (calls_flip (Len_any (hD.drewN _)))) | (go_at_call 29; refine Calls.quiet_of_same (calls_flip (CallsN_any (hD.drewN _))))))
  have hD0 := hD.drewN nq
  have hR0 := hR.drewN nq
  have hK0 : Keep [] w (w.drewN nq) := (Keep.refl [] w).drewN nq
  generalize w.drewN nq = wa at *
  go_wp2_with fail
  refine (Loose_any hD0).mono ?_
  rintro e w1 ⟨vl, rfl, hO1, hK1⟩
  have hR1 := hR0.keep hK1 (by simp)
  have hD1 := hD0.keep hK1 (by simp) (by simp)
  go_wp2_with fail
  refine (refLoose hR1).mono ?_
  rintro e w2 ⟨vm, rfl, hO2, hK2⟩
  have hR2 := hR1.keep hK2 (by simp)
  have hD2 := hD1.keep hK2 (by simp) (by simp)
  have hLl := looseN_len (l.map Sec.loose) l.length
  generalize looseN (l.map Sec.loose) l.length = L at *
  have hP1 : Own w2 wa.heap.size 3 vl (ints L) := Own.keep (w := w1) (by unfold Own; rw [ints_length]; exact hO1) hK2 (by simp)
  have hP2 : Own w2 w1.heap.size 3 vm (ints L) := by unfold Own; rw [ints_length]; exact hO2
  obtain ⟨la, lc, rfl⟩ := ownsRow_slice hO1
  obtain ⟨ma, mc, rfl⟩ := ownsRow_slice hO2
  have hK3 := (hK0.trans hK1).trans hK2
  clear hO1 hO2 hD0 hR0 hD1 hR1 hK1 hK2 hK0 hD hR g0 g1 g2 g3 g3f
  go_wp2_with fail
  go_loopw [7] (fun i wr => ∃ j : Nat, j ≤ L.length ∧ i = .int .i64 j ∧ Own wr wa.heap.size 3 (.slice la L.length lc) (ints L) ∧ Own wr w1.heap.size 3 (.slice ma L.length mc) (ints L) ∧ IsDev wr b sb l c ∧ IsRef wr B r nb fb db l c ∧ Keep [] w wr) (fun i _ => L.length - (intOf i).toNat)
  case atStart => exact ⟨0, by omega, rfl, hP1, hP2, hD2, hR2, hK3⟩
  case round =>
    obtain ⟨j, hj, rfl, hP, hQ, hD, hR, hK⟩ := hrel
    clear hP1 hP2 hD2 hR2 hK3
    by_cases hlt : j < L.length
    · have q0 : (j : Int) < L.length := by omega
      obtain ⟨g, cp, he, _⟩ := hP.at_ (by rw [ints_length]; omega)
      simp only [Value.slice.injEq] at he
      obtain ⟨rfl, heq, rfl⟩ := he
      clear heq
      obtain ⟨g', cp', he, _⟩ := hQ.at_ (by rw [ints_length]; omega)
      simp only [Value.slice.injEq] at he
      obtain ⟨rfl, heq, rfl⟩ := he
      clear heq
      have c1 := (hP.cell (by rw [ints_length]) j (by omega)).1
      have c2 := (hQ.cell (by rw [ints_length]) j (by omega)).1
      rw [ints_at _ _ hlt] at c1 c2
      go_wp2_with fail
      go_quiet (fail)
      go_wp2_with fail
      go_roundw
      case rel => exact ⟨j + 1, by omega, by go_num, hP.drewN nq, hQ.drewN nq, hD.drewN nq, hR.drewN nq, hK.drewN nq⟩
      case measure => simp [intOf]; omega
    · obtain rfl : j = L.length := by omega
      clear hP hQ
      obtain ⟨wo, rfl⟩ : ∃ wo : World, wo = wr := ⟨_, rfl⟩
      go_wp2_with fail
      go_loopw [8] (fun i wr => ∃ j : Nat, j ≤ l.length ∧ i = .int .i64 j ∧ IsDev wr b sb l c ∧ IsRef wr B r nb fb db l c ∧ Keep [] w wr) (fun i _ => l.length - (intOf i).toNat)
      case atStart => exact ⟨0, by omega, rfl, hD, hR, hK⟩
      case round =>
        obtain ⟨j, hj2, rfl, hD2, hR2, hK2⟩ := hrel
        clear hD hR hK
        obtain ⟨nc1, fc1, g0, g1, g2, g3, g3f, _, _⟩ := refLen hR2
        by_cases hlt2 : j < l.length
        · have q0 : (j : Int) < l.length := by omega
          obtain ⟨s, hs, hsm⟩ := sec_mem hlt2
          have hok := hD2.ok s hsm
          go_wp2_with fail
          refine (Read_at hD2 (j : Int) j rfl s hs).mono ?_
          rintro e w5 ⟨vb, rfl, hB5, hK5⟩
          have hD5 := hD2.keep hK5 (by simp) (by simp)
          have hR5 := hR2.keep hK5 (by simp)
          have hK6 := hK2.trans hK5
          clear g0 g1 g2 g3 g3f
          obtain ⟨nc2, fc2, g0, g1, g2, g3, g3f, _, _⟩ := refLen hR5
          obtain ⟨rv, e0, e0f, hrow⟩ := hR5.nowRow j s hs
          obtain ⟨rb, ro, rc, rfl, _⟩ := hrow.form (by rw [hok.1]; omega)
          obtain ⟨gb, cb, rfl, _, _, _, _, _⟩ := hB5.at_ (by rw [hok.1]; omega)
          have hcv1 : ∀ n, Sem.run Try.prog (convert 22 9 (.slice (some ⟨gb, 0, none⟩) s.now.length cb)) (w5.drewN n) = .ok (.string (toStr s.now)) (w5.drewN n) := fun n => Rd.str (P := Try.prog) (Rv.keep hB5.rd ((Keep.refl [] w5).drewN n) (by simp)) hok.2.2.1 Try.underlying22 Try.underlying5 Try.underlying9
          have hcv2 : ∀ n, Sem.run Try.prog (convert 22 9 (.slice (some ⟨rb, ro, none⟩) s.now.length rc)) (w5.drewN n) = .ok (.string (toStr s.now)) (w5.drewN n) := fun n => Rd.str (P := Try.prog) (Rv.keep hrow.rd ((Keep.refl [] w5).drewN n) (by simp)) hok.2.2.1 Try.underlying22 Try.underlying5 Try.underlying9
          clear hB5 hrow hD2 hR2 hK2 hK5 hs hsm
          go_wp2_with fail
          go_quiet (fail)
          go_wp2_with fail
          go_roundw
          case rel => exact ⟨j + 1, by omega, by go_num, hD5.drewN nq, hR5.drewN nq, hK6.drewN nq⟩
          case measure => simp [intOf]; omega
        · obtain rfl : j = l.length := by omega
          go_wp2_with fail
          go_ret
          exact ⟨rfl, hK2⟩
end Go.Proofs.Ythknelejcedhnaa
