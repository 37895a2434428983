/- The authority: a word of a node, whatever it is (word); Beat; Leave. -/
import Derived.Test.YtcoaobdijlppgaaG14
namespace Go.Proofs.Ytcoaobdijlppgaa
open Go.ChangeShapes Go.WideShapes Go.ChangeAt Go.RowKit
set_option linter.unusedVariables false
set_option linter.unusedSimpArgs false
set_option maxRecDepth 100000

set_option maxHeartbeats 8000000 in
theorem Step_prep_unl {w : World} {c kb s g base : Nat} {t : Ct} {vm vt vn vd : Value} (h : CtB w c kb s g t vm vt vn vd) (hr : CtR w t vm vt vn vd base) (m : Ms) (vi vk vx vo : Value) (hRd : MsRd w m vi vk vx vo) (hSz : MsSz m) (hmay : mayM m = true) (hdst : m.dst = 0) (hkind : m.kind = 4) (hlast : m.last = false) :
    Calls Try.prog 12 #[.pointer (some ⟨c, 0, none⟩), msV m vi vk vx vo] w fun e w' => e = .returned (.slice none 0 0) ∧ Keep [] w w' := by
  have q0 : (m.dst != 0) = false := by simp [hdst]
  have q1 : (m.kind == 1) = false := by simp [hkind]
  have q4 : (m.kind == 4) = true := by simp [hkind]
  have q10 : (m.kind == 10) = false := by simp [hkind]
  have hM := Blk.new w (msC m vi vk vx vo) 39
  have K0 := (Keep.refl [] w).alloc (.cells (msC m vi vk vx vo).toArray 39)
  have hBa := h.keep K0 (by simp)
  have hrd := hRd.alloc (.cells (msC m vi vk vx vo).toArray 39)
  have HS := Lib.hid hSz
  have HMAY := Lib.hid hmay.symm
  clear hmay hSz hdst hkind
  go_enter Try.func12, Try.ntmps12
  go_upto_region 1 with fail
  clear h hr hRd
  generalize hmb : w.heap.size = mb at *
  generalize w.alloc (.cells (msC m vi vk vx vo).toArray 39) = w0 at *
  have m2 := msc_2 hM
  go_wp2_with (refine wpList_load_rowg 39 _ rfl mb rfl 39 (msC m vi vk vx vo).toArray (0, 0) _ hM Try.underlying39 rfl Try.sizeMsg (by rfl) ?_)
  refine (msMay_any m vi vk vx vo hrd HS.out true HMAY.out).mono ?_
  rintro e w1 ⟨rfl, k1⟩
  have hM1 := hM.keep k1 (by simp)
  have K1 := K0.trans k1
  clear hM hBa hrd K0 k1 m2
  have m0 := msc_0 hM1
  have m11 := msc_11 hM1
  rw [hlast] at m11
  go_wp2_with (refine wpList_load_rowg 39 _ rfl mb rfl 39 (msC m vi vk vx vo).toArray (0, 0) _ hM1 Try.underlying39 rfl Try.sizeMsg (by rfl) ?_)
  go_ret
  exact ⟨rfl, K1⟩

instance {t : Ct} {ep fr ph : Int} : Decidable (t.hears ep fr ph) := inferInstanceAs (Decidable (_ ∧ _ ∧ _ ∧ _))
/-- What a word turns. -/
def Ct.word (t : Ct) (kind k ep : Int) (last can : Bool) : Ct :=
  if kind = 4 then (if last = true ∧ t.hears ep k 1 then t.noted k else t)
  else (if t.hears ep k 2 then (if t.full k = true ∧ can = true then t.committed else t.noted k) else t)
structure Ct.Good (t : Ct) : Prop where
  mem : ∀ n ∈ t.mem, 1 ≤ n ∧ n ≤ 5
  mem0 : 0 < t.mem.length
  num : 0 ≤ t.num ∧ t.num ≤ 1099511627776
  top : 0 ≤ t.top ∧ t.top ≤ 1099511627776
  ep : I64 t.epoch
  ph : 0 ≤ t.phase ∧ t.phase ≤ 10
  dest : t.num ≠ 0 → (∀ n ∈ t.dest, 1 ≤ n ∧ n ≤ 5) ∧ 0 < t.dest.length
  done : t.done.length ≤ 4
  lost : I64 t.lost
theorem CtD.up {w : World} {d sb s : Nat} {T : List Nat} {B B' : Nat} (h : CtD w d sb s T B) (hB : B ≤ B') : CtD w d sb s T B' := by
  obtain ⟨L, k, turn, slot, a, b, c, e, f, g, i⟩ := h
  exact ⟨L, k, turn, slot, a, b, c, e, f, by omega, by omega⟩
theorem Auth.up {lo : Nat} {w : World} {c d kb g B B' n : Nat} {t : Ct} {f : Int → Option Int} {now : Int} (h : Auth lo w c d kb g t B n f now) (hB : B ≤ B') : Auth lo w c d kb g t B' n f now := by
  obtain ⟨s, sb, base, vm, vt, vn, vd, h1, h2, h3, h4, h5, hl, h6, h7⟩ := h
  exact ⟨s, sb, base, vm, vt, vn, vd, h1, h2, h3, h4.up hB, h5, hl, h6, h7⟩
section
variable {lo : Nat} {w : World} {c d kb g B n : Nat} {t : Ct} {f : Int → Option Int} {now : Int}
theorem Auth.word_unl (h : Auth lo w c d kb g t B n f now) (k ep : Int) (hk : 1 ≤ k ∧ k ≤ 5) (hep : 0 ≤ ep ∧ ep ≤ 1099511627776) :
    Calls Try.prog 12 #[.pointer (some ⟨c, 0, none⟩), msV (wordM 4 k ep false) (.slice none 0 0) (.slice none 0 0) (.slice none 0 0) (.slice none 0 0)] w fun e w' => e = .returned (.slice none 0 0) ∧ Auth lo w' c d kb g t B n f now ∧ Turn lo w w' := by
  have h0 := h
  obtain ⟨s, sb, base, vm, vt, vn, vd, a1, a2, a3, a4, a5, al, a6, a7⟩ := h
  refine (Step_prep_unl a1 a2 _ _ _ _ _ (wordM_rd w 4 k ep false) (wordM_sz _ _ _ _) (wordM_may (by decide) hk hep) rfl rfl rfl).mono ?_
  rintro e w' ⟨rfl, k1⟩
  exact ⟨rfl, h0.keep k1, Turn.still k1⟩
theorem Auth.froz_wait (h : Auth lo w c d kb g t B n f now) (k ep : Int) (last : Bool) (hk : 1 ≤ k ∧ k ≤ 5) (hep : 0 ≤ ep ∧ ep ≤ 1099511627776) (hdn : t.done.length ≤ 4) (hph : 0 ≤ t.phase ∧ t.phase ≤ 10) (hlo : I64 t.lost)
    (a : Int) (hfa : f t.lost = some a) (hl : 0 < t.lost) (hs : since now a < 40) (hf : t.full k = true) (hy : t.hears ep k 2) :
    Calls Try.prog 12 #[.pointer (some ⟨c, 0, none⟩), msV (wordM 10 k ep last) (.slice none 0 0) (.slice none 0 0) (.slice none 0 0) (.slice none 0 0)] w fun e w' => e = .returned (.slice none 0 0) ∧ Auth lo w' c d kb g (t.noted k) B n f now ∧ Turn lo w w' := by
  obtain ⟨s, sb, base, vm, vt, vn, vd, a1, a2, a3, a4, a5, al, a6, a7⟩ := h
  obtain ⟨e1, e2, e3, e4, e5, e6, e7⟩ := noted_st t k
  refine Step_froz_all a1 a2 _ _ _ _ _ (wordM_rd w 10 k ep last) (wordM_sz _ _ _ _) (wordM_may (by decide) hk hep) rfl rfl a3 hdn hph hy hf _ ?_
  intro w2 vd' b1 b2 k1
  change CtB w2 c kb s g (t.noted k) vm vt vn vd' at b1
  change CtR w2 (t.noted k) vm vt vn vd' base at b2
  have K : Turn lo w w2 := ⟨_, k1, turnN a1 a2 al⟩
  have hD := a4.noteN a1 a2 k1
  refine (commit_wait b1 (a6.turn K) (a7.turn K) (by rw [e7]; exact hlo) a (by rw [e7]; exact hfa) (by rw [e7]; exact hl) hs).mono ?_
  rintro e w' ⟨rfl, k2⟩
  refine ⟨_, rfl, rfl, ⟨s, sb, base, vm, vt, vn, vd', b1.keep k2 (by simp), b2.still k2, Nat.le_trans a3 (Nat.le_trans k1.size k2.size), ?_, a5, al, (a6.turn K).keep k2 (by simp), (a7.turn K).keep k2 (by simp)⟩, K.trans (Turn.still k2)⟩
  rw [e1, e2, e3]
  exact hD.still k2
/-- A word of a node. -/
theorem Auth.word (h : Auth lo w c d kb g t B n f now) (hG : t.Good) (hB : B ≤ 100000) (kind k ep : Int) (last can : Bool) (hkd : kind = 4 ∨ kind = 10) (hk : 1 ≤ k ∧ k ≤ 5) (hep : 0 ≤ ep ∧ ep ≤ 1099511627776)
    (h1 : can = true → f t.lost = none ∨ t.lost ≤ 0 ∨ ∃ a, f t.lost = some a ∧ 40 ≤ since now a) (h2 : can = false → 0 < t.lost ∧ ∃ a, f t.lost = some a ∧ since now a < 40) :
    Calls Try.prog 12 #[.pointer (some ⟨c, 0, none⟩), msV (wordM kind k ep last) (.slice none 0 0) (.slice none 0 0) (.slice none 0 0) (.slice none 0 0)] w fun e w' => ∃ a nn cap, e = .returned (.slice a nn cap) ∧ Auth lo w' c d kb g (t.word kind k ep last can) (B + 1) n f now ∧ Turn lo w w' := by
  rcases hkd with rfl | rfl
  · by_cases hl : last = true ∧ t.hears ep k 1
    · have e : t.word 4 k ep last can = t.noted k := by unfold Ct.word; rw [if_pos rfl, if_pos hl]
      obtain ⟨rfl, hy⟩ := hl
      rw [e]
      cases hf : t.full k with
      | false =>
        refine (h.word_part 4 k ep true hk hep hG.done hG.ph hf (.inl ⟨rfl, rfl, hy⟩)).mono ?_
        rintro e w' ⟨rfl, a, T⟩
        exact ⟨_, _, _, rfl, a.up (by omega), T⟩
      | true =>
        refine (h.prep_all k ep hk hep hG.done hG.ph hG.mem0 (hG.dest hy.1).2 hf hy).mono ?_
        rintro e w' ⟨v, L, rfl, hO, _, a, T⟩
        obtain ⟨va, vc, rfl⟩ := hO.slice
        exact ⟨_, _, _, rfl, a.up (by omega), T⟩
    · have e : t.word 4 k ep last can = t := by unfold Ct.word; rw [if_pos rfl, if_neg hl]
      rw [e]
      cases last with
      | false =>
        refine (h.word_unl k ep hk hep).mono ?_
        rintro e w' ⟨rfl, a, T⟩
        exact ⟨_, _, _, rfl, a.up (by omega), T⟩
      | true =>
        refine (h.word_no 4 k ep true hk hep (.inl ⟨rfl, rfl, fun hy => hl ⟨rfl, hy⟩⟩)).mono ?_
        rintro e w' ⟨rfl, a, T⟩
        exact ⟨_, _, _, rfl, a.up (by omega), T⟩
  · by_cases hy : t.hears ep k 2
    · cases hf : t.full k with
      | false =>
        have e : t.word 10 k ep last can = t.noted k := by unfold Ct.word; rw [if_neg (by decide), if_pos hy, if_neg (by rw [hf]; simp)]
        rw [e]
        refine (h.word_part 10 k ep last hk hep hG.done hG.ph hf (.inr ⟨rfl, hy⟩)).mono ?_
        rintro e w' ⟨rfl, a, T⟩
        exact ⟨_, _, _, rfl, a.up (by omega), T⟩
      | true =>
        cases can with
        | false =>
          have e : t.word 10 k ep last false = t.noted k := by unfold Ct.word; rw [if_neg (by decide), if_pos hy, if_neg (by simp)]
          rw [e]
          obtain ⟨hp, a, ha, hs⟩ := h2 rfl
          refine (h.froz_wait k ep last hk hep hG.done hG.ph hG.lost a ha hp hs hf hy).mono ?_
          rintro e w' ⟨rfl, a, T⟩
          exact ⟨_, _, _, rfl, a.up (by omega), T⟩
        | true =>
          have e : t.word 10 k ep last true = t.committed := by unfold Ct.word; rw [if_neg (by decide), if_pos hy, if_pos ⟨hf, rfl⟩]
          rw [e]
          obtain ⟨d1, d2⟩ := hG.dest hy.1
          have hn := hG.num
          have ht := hG.top
          refine (h.froz_go k ep last hk hep hB hG.done hG.ph d2 d1 ⟨⟨by omega, by omega⟩, ⟨by omega, by omega⟩⟩ hG.lost (h1 rfl) hf hy).mono ?_
          rintro e w' ⟨v, L, rfl, hO, _, a, T⟩
          obtain ⟨va, vc, rfl⟩ := hO.slice
          exact ⟨_, _, _, rfl, a, T⟩
    · have e : t.word 10 k ep last can = t := by unfold Ct.word; rw [if_neg (by decide), if_neg hy]
      rw [e]
      refine (h.word_no 10 k ep last hk hep (.inr ⟨rfl, hy⟩)).mono ?_
      rintro e w' ⟨rfl, a, T⟩
      exact ⟨_, _, _, rfl, a.up (by omega), T⟩
theorem Auth.beat_none (h : Auth lo w c d kb g t B n f now) (h0 : t.num = 0) : Calls Try.prog 13 #[.pointer (some ⟨c, 0, none⟩)] w fun e w' => e = .returned (.slice none 0 0) ∧ w = w' := by
  obtain ⟨s, sb, base, vm, vt, vn, vd, a1, _⟩ := h
  exact Beat_none a1 h0
theorem Auth.beat_tell (h : Auth lo w c d kb g t B n f now) (hG : t.Good) (h0 : t.num ≠ 0) (kind : Int) (hp : (t.phase = 1 ∧ kind = 3) ∨ (t.phase = 2 ∧ kind = 7)) :
    Calls Try.prog 13 #[.pointer (some ⟨c, 0, none⟩)] w fun e w' => ∃ v L, e = .returned v ∧ TRow w' w.heap.size v L ∧ L.map (·.m) = t.nodes.map (tellM t kind) ∧ Auth lo w' c d kb g t B n f now ∧ Keep [] w w' := by
  have hA := h
  obtain ⟨s, sb, base, vm, vt, vn, vd, a1, a2, _⟩ := h
  refine (Beat_tell a1 a2 hG.mem0 (hG.dest h0).2 h0 kind hp).mono ?_
  rintro e w' ⟨v, L, rfl, a, b, k⟩
  exact ⟨v, L, rfl, a, b, hA.keep k, k⟩
end
end Go.Proofs.Ytcoaobdijlppgaa
