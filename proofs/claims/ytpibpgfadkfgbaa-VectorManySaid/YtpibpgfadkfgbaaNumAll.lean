/- The contract of num.All. -/
import Derived.Test.YtpibpgfadkfgbaaNumText
namespace Go.Proofs.Ytpibpgfadkfgbaa
open Go.ChangeShapes Go.WideShapes Go.ChangeAt Go.RowKit
set_option linter.unusedVariables false
set_option linter.unusedSimpArgs false

/-- A number into its place, if there is one. -/
def set1 (w : World) (p : Option Addr) (v : Int) : World := match p with | some a => w.setCell a (.int .i64 v) | none => w
def setAll (w : World) : List (Option Addr) → List Int → World
  | p :: ps, v :: vs => setAll (set1 w p v) ps vs
  | _, _ => w
theorem setAll_snoc (p : Option Addr) (v : Int) : ∀ (ps : List (Option Addr)) (vs : List Int) (w : World), ps.length = vs.length → setAll w (ps ++ [p]) (vs ++ [v]) = set1 (setAll w ps vs) p v := by
  intro ps
  induction ps with
  | nil => intro vs w h; have : vs = [] := List.eq_nil_of_length_eq_zero (by simpa using h.symm); subst this; rfl
  | cons q ps ih =>
    intro vs w h
    cases vs with
    | nil => simp at h
    | cons u vs => simp only [List.cons_append, setAll]; exact ih vs _ (by simpa using h)
theorem setAll_take : ∀ (ps : List (Option Addr)) (vs : List Int) (w : World), setAll w (ps.take vs.length) vs = setAll w ps vs := by
  intro ps
  induction ps with
  | nil => intro vs w; simp
  | cons p ps ih =>
    intro vs w
    cases vs with
    | nil => rfl
    | cons v vs => simp only [List.length_cons, List.take_succ_cons, setAll]; exact ih vs _
def ptrs (l : List (Option Addr)) : List Value := l.map Value.pointer
theorem ptrs_at (l : List (Option Addr)) (i : Nat) (h : i < l.length) : (ptrs l)[i]? = some (.pointer (l.getD i none)) := by
  simp [ptrs, List.getElem?_map, List.getD_eq_getElem?_getD, h]
def blocks (l : List (Option Addr)) : List Nat := l.filterMap fun p => p.map (·.block)
theorem setAll_keep (S : List Nat) : ∀ (ps : List (Option Addr)) (vs : List Int) (w w' : World), Keep S w w' → (∀ b ∈ blocks ps, b ∈ S) → Keep S w (setAll w' ps vs) := by
  intro ps
  induction ps with
  | nil => intro vs w w' h _; cases vs <;> exact h
  | cons p ps ih =>
    intro vs w w' h hb
    cases vs with
    | nil => exact h
    | cons v vs =>
      simp only [setAll]
      cases p with
      | none => exact ih vs w _ h (by simpa [blocks] using hb)
      | some a => exact ih vs w _ (h.setCell (.inl (hb _ (by simp [blocks]))) _) (fun b hx => hb b (by simp only [blocks, List.filterMap_cons, Option.map_some] at hx ⊢; exact List.mem_cons_of_mem _ hx))
theorem setAll_there (a : Addr) : ∀ (ps : List (Option Addr)) (vs : List Int) (w : World), (∃ v, w.cell? a = some v) ∧ w.frozen? a = false → (∃ v, (setAll w ps vs).cell? a = some v) ∧ (setAll w ps vs).frozen? a = false := by
  intro ps
  induction ps with
  | nil => intro vs w h; cases vs <;> exact h
  | cons p ps ih =>
    intro vs w h
    cases vs with
    | nil => exact h
    | cons v vs =>
      simp only [setAll]
      apply ih
      cases p with
      | none => exact h
      | some b =>
        obtain ⟨⟨u, hu⟩, hf⟩ := h
        exact ⟨cell?_setCell_some hu, by simp only [set1]; rw [World.frozen?_setCell]; exact hf⟩

/-- So many numbers read off bytes: them (as many as could be), how many bytes, the error. -/
def getMany (l : List Nat) : Nat → List Int × Nat × Nat
  | 0 => ([], 0, 0)
  | m + 1 => if (get l).2.2 ≠ 0 then ([], 0, (get l).2.2) else
    ((get l).1 :: (getMany (l.drop (get l).2.1) m).1, if (getMany (l.drop (get l).2.1) m).2.2 ≠ 0 then 0 else (get l).2.1 + (getMany (l.drop (get l).2.1) m).2.1, (getMany (l.drop (get l).2.1) m).2.2)
def after (vals : List Int) (pos : Nat) (r : List Int × Nat × Nat) : List Int × Nat × Nat := (vals ++ r.1, if r.2.2 ≠ 0 then 0 else pos + r.2.1, r.2.2)
theorem after_nil (l : List Nat) (m : Nat) : getMany l m = after [] 0 (getMany l m) := by
  have key : ∀ m l, (getMany l m).2.2 ≠ 0 → (getMany l m).2.1 = 0 := by
    intro m
    cases m with
    | zero => intro l h; simp [getMany] at h
    | succ m =>
      intro l h
      unfold getMany at h ⊢
      split
      · rfl
      · rename_i h0
        simp only [h0, if_false] at h
        simp only [h, if_true, ne_eq, not_false_eq_true]
  unfold after
  by_cases h : (getMany l m).2.2 ≠ 0
  · simp only [h, if_true, List.nil_append, ne_eq, not_false_eq_true]
    rw [← key m l h]
  · simp only [h, if_false, List.nil_append, Nat.zero_add]
theorem after_step (vals : List Int) (pos : Nat) (l : List Nat) (m : Nat) (h : (get l).2.2 = 0) : after vals pos (getMany l (m + 1)) = after (vals ++ [(get l).1]) (pos + (get l).2.1) (getMany (l.drop (get l).2.1) m) := by
  unfold after
  simp only [getMany, h, ne_eq, not_true_eq_false, if_false, List.append_assoc, List.singleton_append]
  by_cases h2 : (getMany (l.drop (get l).2.1) m).2.2 = 0
  · simp only [h2, not_true_eq_false, if_false, Nat.add_assoc]
  · simp only [h2, not_false_eq_true, if_true]
theorem after_err (vals : List Int) (pos : Nat) (l : List Nat) (m : Nat) (h : (get l).2.2 ≠ 0) : after vals pos (getMany l (m + 1)) = (vals, 0, (get l).2.2) := by
  unfold after
  simp only [getMany, h, ne_eq, not_false_eq_true, if_true, List.append_nil]

def GotAll (w : World) (ps : List (Option Addr)) (r : List Int × Nat × Nat) (e : Ending) (w' : World) : Prop := e = .returned (.tuple #[.int .i64 (r.2.1 : Int), .int .i64 (r.2.2 : Int)]) ∧ w' = setAll w ps r.1

set_option maxHeartbeats 1000000 in
theorem All_any {w : World} (v pv : Value) (l : List Nat) (ps : List (Option Addr)) (h : Rd w v l) (hp : Rv w 1 pv ps.length (ptrs ps)) (hb : ∀ c ∈ l, c < 256) (hl : l.length ≤ 4611686018427387904) (hpl : ps.length ≤ 1000)
    (hc : ∀ a, some a ∈ ps → (∃ u, w.cell? a = some u) ∧ w.frozen? a = false) (hs1 : ∀ b, v.ownBlock = some b → 0 < l.length → b ∉ blocks ps) (hs2 : ∀ b, pv.ownBlock = some b → b ∉ blocks ps)
    (r : List Int × Nat × Nat) (hr : r = getMany l ps.length) :
    Calls Try.prog 42 #[v, pv] w (GotAll w ps r) := by
  have h2 := h
  have hp2 := hp
  obtain ⟨_, a, cap, rfl, hcap, h3⟩ := h
  obtain ⟨_, a2, cap2, rfl, hcap2, _⟩ := hp
  have HR := Lib.hid hr
  clear hr
  obtain ⟨i0, hi, hz0, hz1, hz2⟩ := info_parts Try.info8
  go_enter Try.func42, Try.ntmps42
  go_wp2_with fail
  go_loopw [6, 14] (fun p i wr => ∃ (k pos : Nat) (vals : List Int), k ≤ ps.length ∧ pos ≤ l.length ∧ i = .int .i64 k ∧ p = .int .i64 pos ∧ vals.length = k ∧ wr = setAll w (ps.take k) vals ∧ getMany l ps.length = after vals pos (getMany (l.drop pos) (ps.length - k))) (fun _ i _ => ps.length - (intOf i).toNat)
  case atStart => exact ⟨0, 0, [], by omega, by omega, rfl, rfl, rfl, by cases ps <;> rfl, by simpa using after_nil l ps.length⟩
  case round =>
    obtain ⟨k, pos, vals, hk, hpos, rfl, rfl, hvl, hw, hE⟩ := hrel
    by_cases hlt : k < ps.length
    · obtain ⟨sb0, so, cap3, he, _, hsb, hat⟩ := hp2.at1 (by omega)
      simp only [Value.slice.injEq] at he
      obtain ⟨rfl, _, rfl⟩ := he
      have hbk : ∀ b ∈ blocks (ps.take k), b ∈ blocks ps := by
        intro b hx
        unfold blocks at hx ⊢
        obtain ⟨p, hp, hpb⟩ := List.mem_filterMap.1 hx
        exact List.mem_filterMap.2 ⟨p, List.mem_of_mem_take hp, hpb⟩
      have hkeep : Keep (blocks ps) w wr := by rw [hw]; exact setAll_keep _ _ _ _ _ (Keep.refl _ _) hbk
      have g4 : wr.cell? ⟨sb0, so + k, none⟩ = some (.pointer (ps.getD k none)) := by
        rw [hkeep.cell hsb (hs2 sb0 rfl), hat k hlt, ptrs_at ps k hlt]
      have hwr : Rd wr (.slice a l.length cap) l := h2.keep0 hkeep (fun b hb' hp => hs1 b hb' hp)
      have hpk : ∀ a, ps.getD k none = some a → (∃ u, wr.cell? a = some u) ∧ wr.frozen? a = false := by
        intro a ha
        rw [hw]
        refine setAll_there a _ _ w (hc a ?_)
        rw [← ha]; simp [List.getD_eq_getElem?_getD, hlt]
      have hlow : (l.drop pos).length = l.length - pos := by simp
      have hbd : ∀ c ∈ l.drop pos, c < 256 := fun c hc => hb c (List.mem_of_mem_drop hc)
      obtain ⟨P, hP⟩ : ∃ P, P = ps.getD k none := ⟨_, rfl⟩
      rw [← hP] at g4 hpk
      have hf := getGo_facts (l.drop pos) 0 0 (by omega) (by simp) hbd
      have hG : get (l.drop pos) = getGo (l.drop pos) 0 0 := rfl
      rw [← hG] at hf
      have hm : ps.length - k = (ps.length - (k + 1)) + 1 := by omega
      rw [hm] at hE
      obtain ⟨G, hGG⟩ : ∃ G, G = get (l.drop pos) := ⟨_, rfl⟩
      have hstep := after_step vals pos (l.drop pos) (ps.length - (k + 1))
      have herr := after_err vals pos (l.drop pos) (ps.length - (k + 1))
      rw [← hGG] at hf hstep herr
      rw [List.drop_drop] at hstep
      have hsn : setAll w (ps.take (k + 1)) (vals ++ [G.1]) = set1 (setAll w (ps.take k) vals) P G.1 := by
        rw [take_succ_getD ps none k hlt, setAll_snoc _ _ _ _ _ (by rw [List.length_take]; omega), hP]
      have HE := Lib.hid hE
      have HGG := Lib.hid hGG
      have HW := Lib.hid hw
      have HP := Lib.hid hP
      have HSN := Lib.hid hsn
      have HST := Lib.hid hstep
      have HER := Lib.hid herr
      have HL := Lib.hid hlow
      have q1 : (k : Int) < ps.length := by omega
      clear hE hGG hw hP hsn hstep herr hlow hat hp2 h2 h3 hc hb hG hm
      obtain ⟨n, kk, ee⟩ := G
      simp only at hf
      go_wp2_with (refine wpList_slice_lo _ _ _ _ _ _ _ 5 i0 Try.underlying33 hi hz1 _ _ _ _ pos rfl rfl rfl hwr hpos ?_; intro v1 hv1 ho1)
      have hv2 : Rd wr v1 (l.drop pos) := by unfold Rd; rw [HL.out]; unfold bcs at hv1 ⊢; rw [List.map_drop]; exact hv1
      refine (Get_any v1 (l.drop pos) hv2 hbd (by rw [HL.out]; omega) (n, kk, ee) HGG.out).mono ?_
      rintro e w' ⟨rfl, rfl⟩
      rcases hf with ⟨rfl, hk0, hkl, hk10, hn0, hn1⟩ | ⟨he, he2, rfl, rfl⟩
      · have hkl2 : kk ≤ l.length - pos := by have := HL.out; omega
        cases P with
        | none =>
          go_wp2_with fail
          go_roundw
          case rel =>
            refine ⟨k + 1, pos + kk, vals ++ [n], by omega, by omega, by go_num, by go_num, by simp; omega, ?_, ?_⟩
            · rw [HSN.out, HW.out]; rfl
            · rw [HE.out, HST.out (by trivial)]
          case measure => simp [intOf]; omega
        | some a =>
          obtain ⟨⟨u, hu⟩, hfz⟩ := hpk a rfl
          clear hpk
          go_wp2_with fail
          go_roundw
          case rel =>
            refine ⟨k + 1, pos + kk, vals ++ [n], by omega, by omega, by go_num, by go_num, by simp; omega, ?_, ?_⟩
            · rw [HSN.out, HW.out]; rfl
            · rw [HE.out, HST.out (by trivial)]
          case measure => simp [intOf]; omega
      · have q2 : ((ee : Int) != 0) = true := by simp; omega
        go_wp2_with fail
        go_ret2
        have hE2 : getMany l ps.length = (vals, 0, ee) := by rw [HE.out, HER.out he]
        refine ⟨by rw [HR.out, hE2]; rfl, ?_⟩
        rw [HR.out, hE2, HW.out, ← hvl]
        exact setAll_take ps vals w
    · obtain rfl : k = ps.length := by omega
      go_wp2_with fail
      go_ret2
      rw [Nat.sub_self] at hE
      have hE2 : getMany l ps.length = (vals, pos, 0) := by rw [hE]; simp [after, getMany]
      refine ⟨by rw [HR.out, hE2]; rfl, ?_⟩
      rw [HR.out, hE2]
end Go.Proofs.Ytpibpgfadkfgbaa
