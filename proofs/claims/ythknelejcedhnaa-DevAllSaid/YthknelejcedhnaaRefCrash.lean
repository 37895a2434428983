/- The contract of the reference's Crash. -/
import Derived.Test.YthknelejcedhnaaRefDev3
namespace Go.Proofs.Ythknelejcedhnaa
open Go.ChangeShapes Go.WideShapes Go.ChangeAt Go.RowKit
set_option linter.unusedVariables false
set_option linter.unusedSimpArgs false

/-! the places that are loose -/
theorem looseN_mono (bs : List Bool) : ∀ i n, i ≤ n → (looseN bs i).length ≤ (looseN bs n).length := by
  intro i n
  induction n with
  | zero => intro h; obtain rfl : i = 0 := by omega
            exact Nat.le_refl _
  | succ n ih =>
    intro h
    by_cases e : i = n + 1
    · subst e; exact Nat.le_refl _
    · have := ih (by omega)
      rw [looseN_succ, List.length_append]; omega
theorem looseN_lt (bs : List Bool) (i n : Nat) (h : i < n) (hb : bs.getD i false = true) : (looseN bs i).length < (looseN bs n).length := by
  have h1 := looseN_succ bs i
  rw [hb] at h1
  have h2 := looseN_mono bs (i + 1) n (by omega)
  rw [h1, List.length_append] at h2
  simp at h2; omega
theorem looseN_inj (bs : List Bool) (i j : Nat) (hi : bs.getD i false = true) (hj : bs.getD j false = true) (h : (looseN bs i).length = (looseN bs j).length) : i = j := by
  rcases Nat.lt_trichotomy i j with h' | h' | h'
  · have := looseN_lt bs i j h' hi; omega
  · exact h'
  · have := looseN_lt bs j i h' hj; omega
theorem looseN_at (bs : List Bool) : ∀ (n j : Nat), j < (looseN bs n).length → ∃ i, i < n ∧ (looseN bs n).getD j 0 = (i : Int) ∧ bs.getD i false = true ∧ (looseN bs i).length = j := by
  intro n
  induction n with
  | zero => intro j h; simp [looseN] at h
  | succ n ih =>
    intro j h
    rw [looseN_succ] at h ⊢
    by_cases hj : j < (looseN bs n).length
    · obtain ⟨i, h1, h2, h3, h4⟩ := ih j hj
      refine ⟨i, by omega, ?_, h3, h4⟩
      rw [List.getD_eq_getElem?_getD, List.getElem?_append_left hj, ← List.getD_eq_getElem?_getD]; exact h2
    · cases hb : bs.getD n false with
      | false => rw [hb] at h; simp at h; omega
      | true =>
        rw [hb] at h
        simp only [if_true, List.length_append, List.length_singleton] at h
        have e : j = (looseN bs n).length := by omega
        refine ⟨n, by omega, ?_, hb, e.symm⟩
        rw [List.getD_eq_getElem?_getD, List.getElem?_append_right (by omega), e, Nat.sub_self]; rfl

/-- What is there by a function; nothing lasts yet. -/
def xN (f : Nat → List Nat) (n : Nat) : List Sec := (List.range n).map fun i => ⟨f i, z64, false⟩
theorem xN_length (f : Nat → List Nat) (n : Nat) : (xN f n).length = n := by simp [xN]
theorem xN_at (f : Nat → List Nat) (n i : Nat) (h : i < n) : (xN f n)[i]? = some ⟨f i, z64, false⟩ := by
  simp [xN, h]
theorem xN_congr (f g : Nat → List Nat) (n : Nat) (h : ∀ i, i < n → f i = g i) : xN f n = xN g n := by
  unfold xN
  apply List.map_congr_left
  intro i hi
  rw [h i (List.mem_range.1 hi)]
theorem xN_set (f : Nat → List Nat) (n k : Nat) (x : List Nat) : (xN f n).set k ⟨x, z64, false⟩ = xN (fun i => if i = k then x else f i) n := by
  apply List.ext_getElem?
  intro i
  rw [List.getElem?_set]
  by_cases hi : i < n
  · rw [xN_at _ _ _ hi, xN_length]
    by_cases hk : k = i
    · subst hk; rw [if_pos rfl, if_pos hi, xN_at _ _ _ hi, if_pos rfl]
    · rw [if_neg hk, xN_at _ _ _ hi, if_neg (fun e => hk e.symm)]
  · rw [List.getElem?_eq_none (by rw [xN_length]; omega), List.getElem?_eq_none (by rw [xN_length]; omega)]
    split
    · rw [if_neg (by rw [xN_length]; omega)]
    · rfl
theorem xN_zero (n : Nat) : List.replicate n zeroSec = xN (fun _ => z64) n := by
  apply List.ext_getElem?
  intro i
  by_cases hi : i < n
  · rw [xN_at _ _ _ hi, List.getElem?_replicate, if_pos hi]; rfl
  · rw [List.getElem?_eq_none (by simp; omega), List.getElem?_eq_none (by rw [xN_length]; omega)]

def lastsF (l : List Sec) (k i : Nat) : List Nat := if i < k then (l.getD i zeroSec).lasts else z64
theorem lastsF_step (l : List Sec) (k n : Nat) : xN (fun i => if i = k then (l.getD k zeroSec).lasts else lastsF l k i) n = xN (lastsF l (k + 1)) n := by
  apply xN_congr
  intro i _
  unfold lastsF
  by_cases h : i = k
  · subst h; rw [if_pos rfl, if_pos (by omega)]
  · rw [if_neg h]
    by_cases h2 : i < k
    · rw [if_pos h2, if_pos (by omega)]
    · rw [if_neg h2, if_neg (by omega)]
def keptF (l : List Sec) (keep : List Bool) (j i : Nat) : List Nat :=
  if (l.getD i zeroSec).loose && (decide ((looseN (l.map Sec.loose) i).length < j) && keep.getD (looseN (l.map Sec.loose) i).length false) then (l.getD i zeroSec).now else (l.getD i zeroSec).lasts
theorem loose_getD (l : List Sec) (i : Nat) : (l.map Sec.loose).getD i false = (l.getD i zeroSec).loose := by
  rw [List.getD_eq_getElem?_getD, List.getElem?_map, List.getD_eq_getElem?_getD]
  cases l[i]? <;> rfl
theorem keptF_zero (l : List Sec) (keep : List Bool) (n : Nat) (h : l.length = n) : xN (lastsF l n) n = xN (keptF l keep 0) n := by
  apply xN_congr
  intro i hi
  unfold lastsF keptF
  rw [if_pos hi]
  simp
theorem keptF_no (l : List Sec) (keep : List Bool) (j n : Nat) (h : keep.getD j false = false) : xN (keptF l keep j) n = xN (keptF l keep (j + 1)) n := by
  apply xN_congr
  intro i _
  unfold keptF
  by_cases hc : (looseN (l.map Sec.loose) i).length = j
  · rw [hc, h]; simp
  · have : decide ((looseN (l.map Sec.loose) i).length < j) = decide ((looseN (l.map Sec.loose) i).length < j + 1) := by
      rw [decide_eq_decide]; omega
    rw [this]
theorem keptF_yes (l : List Sec) (keep : List Bool) (j n i : Nat) (h : keep.getD j false = true) (hl : (l.getD i zeroSec).loose = true) (hc : (looseN (l.map Sec.loose) i).length = j) :
    xN (fun i' => if i' = i then (l.getD i zeroSec).now else keptF l keep j i') n = xN (keptF l keep (j + 1)) n := by
  apply xN_congr
  intro i' _
  by_cases e : i' = i
  · subst e
    rw [if_pos rfl]
    unfold keptF
    rw [hc, h, hl]; simp
  · rw [if_neg e]
    unfold keptF
    cases hl' : (l.getD i' zeroSec).loose with
    | false => simp
    | true =>
      have hne : (looseN (l.map Sec.loose) i').length ≠ j := fun e2 => e (looseN_inj _ _ _ (by rw [loose_getD]; exact hl') (by rw [loose_getD]; exact hl) (e2.trans hc.symm))
      have : decide ((looseN (l.map Sec.loose) i').length < j) = decide ((looseN (l.map Sec.loose) i').length < j + 1) := by
        rw [decide_eq_decide]; omega
      rw [this]
theorem keptF_end (l : List Sec) (keep : List Bool) (j n : Nat) (hn : l.length = n) (h : (looseN (l.map Sec.loose) n).length ≤ j ∨ keep.length ≤ j) :
    (xN (keptF l keep j) n).map (fun s => (⟨s.now, s.now, s.loose⟩ : Sec)) = crashN l keep n := by
  unfold xN crashN
  rw [List.map_map]
  apply List.map_congr_left
  intro i hi
  have hi2 := List.mem_range.1 hi
  simp only [Function.comp_apply]
  have e : keptF l keep j i = crashNow l keep i := by
    unfold keptF crashNow
    cases hl : (l.getD i zeroSec).loose with
    | false => simp
    | true =>
      have hlt := looseN_lt (l.map Sec.loose) i n hi2 (by rw [loose_getD]; exact hl)
      by_cases hc : (looseN (l.map Sec.loose) i).length < j
      · simp [hc]
      · have : keep.getD (looseN (l.map Sec.loose) i).length false = false := by
          rcases h with h | h
          · omega
          · simp [List.getD_eq_getElem?_getD, List.getElem?_eq_none (show keep.length ≤ (looseN (l.map Sec.loose) i).length by omega)]
        rw [this]; simp
  rw [e]; rfl

theorem IsRef.mono {w : World} {B B' r nb fb db : Nat} {l : List Sec} {c : Nat} (h : IsRef w B r nb fb db l c) (hb : B' ≤ B) : IsRef w B' r nb fb db l c := by
  obtain ⟨vs, sp, h4, h5⟩ := h.now
  obtain ⟨us, sq, h6, h7⟩ := h.fast
  have hm : ∀ {vs : List Value} {ls : List (List Nat)}, BRows w B vs ls → BRows w B' vs ls := fun h => ⟨h.1, fun i v hv => ⟨(h.2 i v hv).rd, by obtain ⟨g, a, b, c⟩ := (h.2 i v hv).ty; exact ⟨g, a, b, by omega⟩⟩⟩
  have := h.low
  exact ⟨h.dev, ⟨vs, sp, h4, hm h5⟩, ⟨us, sq, h6, hm h7⟩, h.dirty, h.ne, h.ok, h.pos, h.max, h.few, by omega⟩
theorem Row.low {w : World} {B B' : Nat} {v : Value} {l : List Nat} (h : Row w B v l) (hb : B' ≤ B) : Row w B' v l := by
  obtain ⟨h1, g, h2, h3, h4⟩ := h
  exact ⟨h1, g, h2, h3, by omega⟩
/-- Fast becomes what Now is. -/
theorem IsRef.copyFast {w : World} {B r nb fb db : Nat} {l : List Sec} {c : Nat} (h : IsRef w B r nb fb db l c) :
    ∃ vs, w.rangeAt nb 0 vs ∧ vs.length = l.length ∧ (∀ u ∈ vs, u.oneCell' = true) ∧ w.there fb 0 l.length ∧ IsRef (w.setCells fb 0 vs) B r nb fb db (l.map fun s => (⟨s.now, s.now, s.loose⟩ : Sec)) c ∧ Keep [fb] w (w.setCells fb 0 vs) := by
  obtain ⟨nc, fc, h1, h2, h3⟩ := h.dev
  obtain ⟨vs, sp, h4, h5⟩ := h.now
  obtain ⟨us, sq, h6, h7⟩ := h.fast
  have hl : vs.length = l.length := by rw [h5.1, List.length_map]
  have hl2 : us.length = l.length := by rw [h7.1, List.length_map]
  have hk : Keep [fb] w (w.setCells fb 0 vs) := Keep.setCells _ _ _ _ (Keep.refl _ _) (.inl (by simp))
  have n0 : Ty w fb 22 := h6.ty
  have nu : ∀ b ∈ [fb], ¬ Ty w b 5 := by simpa using ty_u8.2.1 n0
  have hB := h6.setCells vs 0 w _ (by simp; omega)
  have e : over (us ++ sq) 0 vs = vs ++ sq := by
    unfold over
    rw [List.take_zero, List.nil_append, Nat.zero_add, List.drop_append, List.drop_of_length_le (by omega), List.nil_append, hl, hl2, Nat.sub_self, List.drop_zero]
  rw [e] at hB
  refine ⟨vs, ?_, hl, ?_, h6.there 0 _ (by simp; omega), ⟨⟨nc, fc, ?_, by simpa using h2, by simpa using h3⟩, ⟨vs, sp, h4.keep hk (by simpa using h.ne), ?_⟩, ⟨vs, sq, hB, ?_⟩, ?_, h.ne, ?_, by simpa using h.pos, by simpa using h.max, h.few, h.low⟩, hk⟩
  · have := h4.range 0 vs.length
    rwa [List.drop_zero, List.take_left] at this
  · intro u hu
    obtain ⟨i, hi⟩ := List.getElem?_of_mem hu
    have hlt : i < l.length := by have := (List.getElem?_eq_some_iff.1 hi).1; omega
    have hr := h5.2 i u hi
    obtain ⟨sb, so, cap, rfl, _⟩ := hr.form (by
      have := h.ok l[i] (List.getElem_mem hlt)
      simp [List.getD_eq_getElem?_getD, hlt, this.1])
    rfl
  · rw [List.length_map]; exact h1.keep hk (by simpa using h1.ty.ne n0 (by decide))
  · have := h5.keep hk nu
    simpa [List.map_map, Function.comp_def] using this
  · have := h5.keep hk nu
    simpa [List.map_map, Function.comp_def] using this
  · have := h.dirty.keep hk (by simpa using h.dirty.ty.ne n0 (by decide))
    simpa [List.map_map, Function.comp_def] using this
  · intro s hs
    obtain ⟨t, ht, rfl⟩ := List.mem_map.1 hs
    have := h.ok t ht
    exact ⟨this.1, this.1, this.2.2.1, this.2.2.1⟩

theorem IsRef.keepS {S : List Nat} {w w' : World} {B r nb fb db : Nat} {l : List Sec} {c : Nat} (h : IsRef w B r nb fb db l c) (k : Keep S w w')
    (hS : ∀ b ∈ S, b ≠ r ∧ b ≠ nb ∧ b ≠ fb ∧ b ≠ db) (hu : ∀ b ∈ S, ¬ Ty w b 5) : IsRef w' B r nb fb db l c := by
  obtain ⟨nc, fc, h1, h2, h3⟩ := h.dev
  obtain ⟨vs, sp, h4, h5⟩ := h.now
  obtain ⟨us, sq, h6, h7⟩ := h.fast
  exact ⟨⟨nc, fc, h1.keep k (fun hm => (hS _ hm).1 rfl), h2, h3⟩, ⟨vs, sp, h4.keep k (fun hm => (hS _ hm).2.1 rfl), h5.keep k hu⟩,
    ⟨us, sq, h6.keep k (fun hm => (hS _ hm).2.2.1 rfl), h7.keep k hu⟩, h.dirty.keep k (fun hm => (hS _ hm).2.2.2 rfl), h.ne, h.ok, h.pos, h.max, h.few, h.low⟩

set_option maxRecDepth 100000 in
set_option maxHeartbeats 2000000 in
theorem refCrash {w : World} {B r nb fb db : Nat} {l : List Sec} {c : Nat} (h : IsRef w B r nb fb db l c) (hBw : B ≤ w.heap.size) (kv : Value) (keep : List Bool) (hkeep : Rv w 1 kv keep.length (bools keep)) (hkl : keep.length ≤ 9223372036854775807) :
    Calls Try.prog 37 #[.pointer (some ⟨r, 0, none⟩), kv] w fun e w' => ∃ r' nb' fb' db', e = .returned (.pointer (some ⟨r', 0, none⟩)) ∧ IsRef w' B r' nb' fb' db' (crashN l keep l.length) 0 ∧ Keep [] w w' := by
  obtain ⟨nc, fc, g0, g1, g2, g3, g3f, _, _⟩ := refLen h
  have hmx := h.max
  have hps := h.pos
  obtain ⟨_, ka, kcap, rfl, hkc, _⟩ := id hkeep
  go_enter Try.func37, Try.ntmps37
  go_wp2_with fail
  refine (NewDev_any (l.length : Int) l.length (by omega)).mono ?_
  rintro e w1 ⟨xr, xn, xf, xd, rfl, hX0, hK1⟩
  have hX := hX0.mono hBw
  have hlow := hX0.low
  rw [xN_zero] at hX
  clear hX0
  go_wp2_with fail
  refine (refLoose (h.keep hK1 (by simp))).mono ?_
  rintro e w2 ⟨lv, rfl, hO, hK2⟩
  obtain ⟨la, lc, rfl⟩ := ownsRow_slice hO
  have hX2 := hX.keep hK2 (by simp)
  have hO2 : Own w2 w.heap.size 3 (.slice la (looseN (l.map Sec.loose) l.length).length lc) (ints (looseN (l.map Sec.loose) l.length)) := by
    have := Own.mono (w := w2) (base := w1.heap.size) (base' := w.heap.size) (E := 3) (v := .slice la (looseN (l.map Sec.loose) l.length).length lc) (vs := ints (looseN (l.map Sec.loose) l.length)) (by unfold Own; rw [ints_length]; exact hO) hK1.size
    exact this
  have hKK := hK1.trans hK2
  have hLl := looseN_len (l.map Sec.loose) l.length
  clear hX hO hK1 hK2 g0 g1 g2 g3 g3f
  go_wp2_with fail
  go_loopw [7] (fun i wr => ∃ k : Nat, k ≤ l.length ∧ i = .int .i64 k ∧ IsRef wr B xr xn xf xd (xN (lastsF l k) l.length) 0 ∧ Own wr w.heap.size 3 (.slice la (looseN (l.map Sec.loose) l.length).length lc) (ints (looseN (l.map Sec.loose) l.length)) ∧ Keep [] w wr) (fun i _ => l.length - (intOf i).toNat)
  case atStart => exact ⟨0, by omega, rfl, by rw [show lastsF l 0 = fun _ => z64 from by funext i; simp [lastsF]]; exact hX2, hO2, hKK⟩
  case round =>
    obtain ⟨k, hk, rfl, hX, hO, hK⟩ := hrel
    clear hX2 hO2 hKK
    have hI := h.keep hK (by simp)
    obtain ⟨nc1, fc1, g0, g1, g2, g3, g3f, c1, c2⟩ := refLen hI
    obtain ⟨nc2, fc2, x0, x1, x2, x3, x3f, d1, d2⟩ := refLen hX
    rw [xN_length] at x0 x1 x2 d1 d2
    have hxw : w.heap.size ≤ xn := hlow.2.1
    by_cases hlt : k < l.length
    · obtain ⟨s, hs, hsm⟩ := sec_mem hlt
      have hok := h.ok s hsm
      have q0 : (k : Int) < l.length := by omega
      obtain ⟨v, e0, e0f, hrow⟩ := hI.fastRow k s hs
      obtain ⟨u, e1, e1f, _⟩ := hX.nowRow k _ (xN_at _ _ _ hlt)
      obtain ⟨sb, so, cap, rfl, hcap⟩ := hrow.form (by rw [hok.2.1]; omega)
      have r1 := hX.setNow k _ (xN_at _ _ _ hlt) _ _ hrow ⟨hok.2.1, hok.2.2.2⟩
      rw [xN_set] at r1
      have e3 := lastsF_step l k l.length
      rw [show l.getD k zeroSec = s by simp [List.getD_eq_getElem?_getD, hs]] at e3
      rw [e3] at r1
      have R1 := Lib.hid r1.1
      have K1 := Lib.hid r1.2
      have hxt : Ty wr xn 22 := by obtain ⟨_, _, hx, _⟩ := hX.now; exact hx.ty
      clear r1 e3
      go_wp2_with fail
      refine wp_region_still_tail 13 (by kernel_rfl) (by kernel_rfl) ?_
      simp only [List.take_succ_cons, List.take_zero, List.drop_succ_cons, List.drop_zero]
      repeat still_step
      refine wpStill_nil ?_
      go_wp2_with fail
      go_roundw
      case rel =>
        refine ⟨k + 1, by omega, by go_num, R1.out.keep (Keep.refl [] _).drew (by simp), (hO.keep K1.out ?_).drew, ?_⟩
        · intro b hb hm
          rw [List.mem_singleton.1 hm] at hb
          exact (hO.ty _ hb).ne hxt (by decide) rfl
        · exact (hK.then K1.out (by simp; omega)).drew
      case measure => simp [intOf]; omega
    · obtain rfl : k = l.length := by omega
      rw [keptF_zero l keep _ rfl] at hX
      go_wp2_with fail
      obtain ⟨wo, rfl⟩ : ∃ wo : World, wo = wr := ⟨_, rfl⟩
      go_loopw [8] (fun i wr => ∃ j : Nat, j ≤ (looseN (l.map Sec.loose) l.length).length ∧ j ≤ keep.length ∧ i = .int .i64 j ∧ IsRef wr B xr xn xf xd (xN (keptF l keep j) l.length) 0 ∧ Own wr w.heap.size 3 (.slice la (looseN (l.map Sec.loose) l.length).length lc) (ints (looseN (l.map Sec.loose) l.length)) ∧ Keep [] w wr) (fun i _ => l.length - (intOf i).toNat)
      case atStart => exact ⟨0, by omega, by omega, rfl, hX, hO, hK⟩
      case round =>
        obtain ⟨j, hj, hj2, rfl, hY, hP, hL⟩ := hrel
        clear hX hO hK hI g0 g1 g2 g3 g3f c1 c2 x0 x1 x2 x3 x3f d1 d2
        have hI := h.keep hL (by simp)
        obtain ⟨nc3, fc3, g0, g1, g2, g3, g3f, c1, c2⟩ := refLen hI
        obtain ⟨nc4, fc4, x0, x1, x2, x3, x3f, d1, d2⟩ := refLen hY
        rw [xN_length] at x0 x1 x2 d1 d2
        have HEND := Lib.hid (fun (h' : (looseN (l.map Sec.loose) l.length).length ≤ j ∨ keep.length ≤ j) => keptF_end l keep j l.length rfl h')
        have hLl := looseN_len (l.map Sec.loose) l.length
        by_cases hin : j < (looseN (l.map Sec.loose) l.length).length ∧ j < keep.length
        · obtain ⟨hjL, hjk⟩ := hin
          obtain ⟨ks, ko, kcap2, he, _, hks, hat⟩ := hkeep.at1 (by omega)
          simp only [Value.slice.injEq] at he
          obtain ⟨rfl, _, rfl⟩ := he
          have g10 : wr.cell? ⟨ks, ko + j, none⟩ = some (.bool (keep.getD j false)) := by
            rw [hL.cell hks (by simp), hat _ hjk, bools_at keep _ hjk]
          obtain ⟨lg, lcap, spare, he, _, _, hlb⟩ := hP.blk (by rw [ints_length]; omega)
          simp only [Value.slice.injEq] at he
          obtain ⟨rfl, heq, rfl⟩ := he
          clear heq
          obtain ⟨x, hx1, hx2, hx3, hx4⟩ := looseN_at (l.map Sec.loose) l.length j hjL
          have g11 : wr.cell? ⟨lg, j, none⟩ = some (.int .i64 (x : Int)) := by
            rw [hlb.cell, List.getElem?_append_left (by rw [ints_length]; omega), ints_at _ _ hjL, hx2]
          rw [loose_getD] at hx3
          have q1 : (j : Int) < (looseN (l.map Sec.loose) l.length).length := by omega
          have q2 : decide (j < (looseN (l.map Sec.loose) l.length).length) = true := decide_eq_true hjL
          have q3 : (j : Int) < keep.length := by omega
          have q4 : (x : Int) < l.length := by omega
          cases hkj : keep.getD j false with
          | false =>
            rw [hkj] at g10
            have HN := Lib.hid (keptF_no l keep j l.length hkj)
            clear hkj hat hx2 hx4 hx3
            go_wp2_with fail
            go_roundw
            case rel => exact ⟨j + 1, by omega, by omega, by go_num, by rw [← HN.out]; exact hY, hP, hL⟩
            case measure => simp [intOf]; omega
          | true =>
            rw [hkj] at g10
            have HN := Lib.hid (keptF_yes l keep j l.length x hkj hx3 hx4)
            obtain ⟨s, hs, hsm⟩ := sec_mem hx1
            have hok := h.ok s hsm
            rw [show l.getD x zeroSec = s by simp [List.getD_eq_getElem?_getD, hs]] at HN
            obtain ⟨v, e0, e0f, hrow⟩ := hI.nowRow x s hs
            obtain ⟨u, e1, e1f, _⟩ := hY.nowRow x _ (xN_at _ _ _ hx1)
            obtain ⟨sb, so, cap, rfl, hcap⟩ := hrow.form (by rw [hok.1]; omega)
            have r1 := hY.setNow x _ (xN_at _ _ _ hx1) _ _ hrow ⟨hok.1, hok.2.2.1⟩
            rw [xN_set] at r1
            have HR := Lib.hid r1
            have hxt : Ty wr xn 22 := by obtain ⟨_, _, hx, _⟩ := hY.now; exact hx.ty
            clear hkj hat hx2 hx4 hx3 r1
            go_wp2_with fail
            refine wp_region_still_tail 19 (by kernel_rfl) (by kernel_rfl) ?_
            simp only [List.take_succ_cons, List.take_zero, List.drop_succ_cons, List.drop_zero]
            repeat still_step
            refine wpStill_nil ?_
            go_wp2_with fail
            go_roundw
            case rel =>
              refine ⟨j + 1, by omega, by omega, by go_num, (by rw [← HN.out]; exact HR.out.1.keep (Keep.refl [] _).drew (by simp)), (hP.keep HR.out.2 ?_).drew, ?_⟩
              · intro b hb hm
                rw [List.mem_singleton.1 hm] at hb
                exact (hP.ty _ hb).ne hxt (by decide) rfl
              · exact (hL.then HR.out.2 (by simp; omega)).drew
            case measure => simp [intOf]; omega
        · have hend : (looseN (l.map Sec.loose) l.length).length ≤ j ∨ keep.length ≤ j := by omega
          have HE := Lib.hid (HEND.out hend)
          obtain ⟨vs, hv1, hv2, hv3, hv4, hv5, hv6⟩ := (hY.keep (Keep.refl [] _).drew (by simp) : IsRef wr.drew B xr xn xf xd (xN (keptF l keep j) l.length) 0).copyFast
          rw [xN_length] at hv2 hv4
          obtain ⟨is, his, hzs0, hzs1, hzs2⟩ := info_parts Try.infoBs
          have hsrc : Src Try.prog 1 58 (.slice (some ⟨xn, 0, none⟩) l.length nc4) l.length vs wr.drew := by
            refine Src.ofSlice _ Try.underlying58 ⟨xn, 0, none⟩ l.length nc4 vs (by omega) (fun j u hu => ?_) hv3
            rw [Addr.add_mid]; exact hv1 j u hu
          have HS := Lib.hid hsrc
          have H4 := Lib.hid hv4
          have H5 := Lib.hid hv5
          have H6 := Lib.hid hv6
          clear hsrc hv1 hv2 hv3 hv4 hv5 hv6 hend
          have hq : j < (looseN (l.map Sec.loose) l.length).length ∧ ¬ j < keep.length ∨ ¬ j < (looseN (l.map Sec.loose) l.length).length := by omega
          rcases hq with ⟨hq1, hq2⟩ | hq
          · have q2 : decide (j < (looseN (l.map Sec.loose) l.length).length) = true := decide_eq_true hq1
            have q3 : decide (j < keep.length) = false := decide_eq_false hq2
            go_wp2_with fail
            refine wp_region_still_tail 8 (by kernel_rfl) (by kernel_rfl) ?_
            simp only [List.take_succ_cons, List.take_zero, List.drop_succ_cons, List.drop_zero]
            repeat still_step
            refine wpStill_nil ?_
            go_wp2_with (refine wpList_copy_mid _ rfl _ _ 58 58 rfl 22 is Try.underlying58 his hzs1 xf 0 l.length _ rfl _ l.length vs rfl HS.out (Nat.le_refl _) H4.out ?_)
            go_ret
            exact ⟨xr, xn, xf, xd, rfl, by rw [← HE.out]; exact H5.out, hL.drew.then H6.out (by simp; omega)⟩
          · have q2 : decide (j < (looseN (l.map Sec.loose) l.length).length) = false := decide_eq_false hq
            go_wp2_with fail
            refine wp_region_still_tail 8 (by kernel_rfl) (by kernel_rfl) ?_
            simp only [List.take_succ_cons, List.take_zero, List.drop_succ_cons, List.drop_zero]
            repeat still_step
            refine wpStill_nil ?_
            go_wp2_with (refine wpList_copy_mid _ rfl _ _ 58 58 rfl 22 is Try.underlying58 his hzs1 xf 0 l.length _ rfl _ l.length vs rfl HS.out (Nat.le_refl _) H4.out ?_)
            go_ret
            exact ⟨xr, xn, xf, xd, rfl, by rw [← HE.out]; exact H5.out, hL.drew.then H6.out (by simp; omega)⟩
end Go.Proofs.Ythknelejcedhnaa
