/- The contract of num.GetText. -/
import Derived.Test.YtonghelcfbjknaaNumGet
import Derived.Test.YtonghelcfbjknaaStr
namespace Go.Proofs.Ytonghelcfbjknaa
open Go.ChangeShapes Go.WideShapes Go.ChangeAt Go.RowKit
set_option linter.unusedVariables false
set_option linter.unusedSimpArgs false

/-- A text read off bytes: its bytes, how many there were in all, the error. -/
def getText (l : List Nat) : List Nat × Nat × Nat :=
  if (get l).2.2 ≠ 0 then ([], 0, (get l).2.2) else if (get l).1 < 0 ∨ 65536 < (get l).1 then ([], 0, 1)
  else if ((l.length - (get l).2.1 : Nat) : Int) < (get l).1 then ([], 0, 2) else ((l.drop (get l).2.1).take (get l).1.toNat, (get l).2.1 + (get l).1.toNat, 0)

def GotT (w : World) (r : List Nat × Nat × Nat) (e : Ending) (w' : World) : Prop := e = .returned (.tuple #[.string (toStr r.1), .int .i64 (r.2.1 : Int), .int .i64 (r.2.2 : Int)]) ∧ w = w'

set_option maxHeartbeats 1000000 in
theorem GetText_any {w : World} (v : Value) (l : List Nat) (h : Rd w v l) (hb : ∀ c ∈ l, c < 256) (hl : l.length ≤ 4611686018427387904) (r : List Nat × Nat × Nat) (hr : r = getText l) :
    Calls Try.prog 52 #[v] w (GotT w r) := by
  have h2 := h
  obtain ⟨_, a, cap, rfl, hcap, h3⟩ := h
  have hf := getGo_facts l 0 0 (by omega) (by simp) hb
  unfold getText at hr
  have hG : get l = getGo l 0 0 := rfl
  rw [← hG] at hf
  have HT := Lib.hid h2
  clear h2
  generalize hg : get l = g at *
  obtain ⟨n, k, e⟩ := g
  simp only at hf hr
  have HR := Lib.hid hr
  have HGG := Lib.hid hg
  clear hr hG hg
  rcases hf with ⟨rfl, hk0, hkl, hk10, hn0, hn1⟩ | ⟨he, he2, rfl, rfl⟩
  · have hcase : n < 0 ∨ 65536 < n ∨ (0 ≤ n ∧ n ≤ 65536 ∧ ((l.length - k : Nat) : Int) < n) ∨ (0 ≤ n ∧ n ≤ 65536 ∧ n ≤ ((l.length - k : Nat) : Int)) := by omega
    rcases hcase with h4 | h4 | ⟨h4, h5, h6⟩ | ⟨h4, h5, h6⟩
    · go_enter Try.func52, Try.ntmps52
      go_wp2_with fail
      refine (Get_any _ l HT.out hb (by omega) _ HGG.out.symm).mono ?_
      rintro e w' ⟨rfl, rfl⟩
      go_wp2_with fail
      go_ret3
      refine ⟨?_, rfl⟩
      rw [HR.out, if_neg (by simp), if_pos (.inl h4)]
      rfl
    · go_enter Try.func52, Try.ntmps52
      go_wp2_with fail
      refine (Get_any _ l HT.out hb (by omega) _ HGG.out.symm).mono ?_
      rintro e w' ⟨rfl, rfl⟩
      go_wp2_with fail
      go_ret3
      refine ⟨?_, rfl⟩
      rw [HR.out, if_neg (by simp), if_pos (.inr h4)]
      rfl
    · have h7 : (l.length : Int) - k < n := by omega
      go_enter Try.func52, Try.ntmps52
      go_wp2_with fail
      refine (Get_any _ l HT.out hb (by omega) _ HGG.out.symm).mono ?_
      rintro e w' ⟨rfl, rfl⟩
      go_wp2_with fail
      go_ret3
      refine ⟨?_, rfl⟩
      rw [HR.out, if_neg (by simp), if_neg (by omega), if_pos h6]
      rfl
    · obtain ⟨N, rfl⟩ := Int.eq_ofNat_of_zero_le h4
      have h7 : (N : Int) ≤ (l.length : Int) - k := by omega
      obtain ⟨sb, so, rfl, hsb, hat⟩ := h3 (by simp; omega)
      have hres : r = ((l.drop k).take N, k + N, 0) := by
        rw [HR.out, if_neg (by simp), if_neg (by omega), if_neg (by omega)]
        simp
      have HS := Lib.hid hres
      clear hat h3
      by_cases hkc : k = cap
      · have hN : N = 0 := by omega
        subst hN
        have hcv : ∀ (a : Option Addr) (c : Nat), Sem.run Try.prog (convert 33 9 (.slice a 0 c)) w = .ok (.string (toStr [])) w := fun a c =>
          Rd.str (P := Try.prog) (Rv.empty w 1 a c) (by simp) Try.underlying33 Try.underlying5 Try.underlying9
        go_enter Try.func52, Try.ntmps52
        go_wp2_with fail
        refine (Get_any _ l HT.out hb (by omega) _ HGG.out.symm).mono ?_
        rintro e w' ⟨rfl, rfl⟩
        go_wp2_with fail
        go_ret3
        refine ⟨?_, rfl⟩
        rw [HS.out]
        simp [hkc]
      · have hsub : Rd w (.slice (some ⟨sb, so + k, none⟩) N (cap - k)) ((l.drop k).take N) := by
          have := HT.out.sub k N (cap - k) (by omega) (by omega)
          rw [bcs_part] at this
          have hlen : ((l.drop k).take N).length = N := by simp; omega
          unfold Rd
          rw [hlen]
          exact this
        have hcv := hsub.str (P := Try.prog) (src := 33) (dst := 9) (fun c hc => hb c (List.mem_of_mem_drop (List.mem_of_mem_take hc))) Try.underlying33 Try.underlying5 Try.underlying9
        go_enter Try.func52, Try.ntmps52
        go_wp2_with fail
        refine (Get_any _ l HT.out hb (by omega) _ HGG.out.symm).mono ?_
        rintro e w' ⟨rfl, rfl⟩
        go_wp2_with fail
        go_ret3
        refine ⟨?_, rfl⟩
        rw [HS.out]
        simp
  · have q1 : ((e : Int) != 0) = true := by simp; omega
    go_enter Try.func52, Try.ntmps52
    go_wp2_with fail
    refine (Get_any _ l HT.out hb (by omega) _ HGG.out.symm).mono ?_
    rintro e w' ⟨rfl, rfl⟩
    go_wp2_with fail
    go_ret3
    refine ⟨?_, rfl⟩
    rw [HR.out, if_pos he]
    rfl
end Go.Proofs.Ytonghelcfbjknaa
