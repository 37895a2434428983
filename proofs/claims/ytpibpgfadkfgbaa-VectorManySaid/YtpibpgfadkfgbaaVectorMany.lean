/- The law VectorMany: its walk. -/
import Derived.Test.YtpibpgfadkfgbaaVectorLaws
import Derived.Test.YtpibpgfadkfgbaaOpen
namespace Go.Proofs.Ytpibpgfadkfgbaa
open Go.ChangeShapes Go.WideShapes Go.ChangeAt Go.RowKit
set_option linter.unusedVariables false
set_option linter.unusedSimpArgs false

theorem Try.infoVec : (Try.prog.info? 26).map (fun i => (i.zero, i.size, i.bytes)) = some (some (.agg #[.int .i64 0, .int .i64 0, .int .i64 0, .int .i64 0, .int .i64 0, .int .i64 0]), 6, 48) := by kernel_rfl
def vcs (us : List (Nat → Int)) : List Value := (us.map v6).flatten
theorem vcs_len (us : List (Nat → Int)) : (vcs us).length = us.length * 6 := flatten_len v6 6 (fun _ => rfl) us
theorem vcs_snoc (us : List (Nat → Int)) (u : Nat → Int) : vcs (us ++ [u]) = vcs us ++ v6 u := by simp [vcs]
/-- A row of vectors of the call's own. -/
def VRow (w : World) (base : Nat) (v : Value) (us : List (Nat → Int)) : Prop := w.ownsRow base 26 6 v us.length (vcs us)
theorem VRow.nil (w : World) (base : Nat) : VRow w base (.slice none 0 0) [] := World.ownsRow_nil w base _ 6
theorem VRow.rd {w : World} {base : Nat} {v : Value} {us : List (Nat → Int)} (h : VRow w base v us) : Rv w 6 v us.length (us.map v6).flatten := ownsRow_rv h
theorem VRow.lt {w : World} {base : Nat} {v : Value} {us : List (Nat → Int)} (h : VRow w base v us) : ∀ k, v.ownBlock = some k → base ≤ k ∧ k < w.heap.size := World.ownsRow.lt h
theorem VRow.slice {w : World} {base : Nat} {v : Value} {us : List (Nat → Int)} (h : VRow w base v us) : ∃ a cap, v = .slice a us.length cap := by
  rcases h.2 with ⟨rfl, hn⟩ | ⟨g, cap, cur, rfl, _⟩
  · exact ⟨none, 0, by rw [hn]⟩
  · exact ⟨_, _, rfl⟩
theorem VRow.keep {w w' : World} {base : Nat} {v : Value} {us : List (Nat → Int)} {S : List Nat} (h : VRow w base v us) (k : Keep S w w') (hS : ∀ b, v.ownBlock = some b → b ∉ S) : VRow w' base v us := by
  refine ⟨h.1, ?_⟩
  have hl := h.lt
  rcases h.2 with ⟨rfl, hn⟩ | ⟨g, cap, cur, rfl, hb, hg, r⟩
  · exact .inl ⟨rfl, hn⟩
  · exact .inr ⟨g, cap, cur, rfl, hb, by rw [k.block g (hl g rfl).2 (hS g rfl)]; exact hg, r⟩
theorem VRow.alloc {w : World} {base : Nat} {v : Value} {us : List (Nat → Int)} (h : VRow w base v us) (o : Obj) : VRow (w.alloc o) base v us := World.ownsRow.alloc h o
theorem VRow.snoc {w' : World} {base : Nat} {v' : Value} {us : List (Nat → Int)} {u : Nat → Int} (h : w'.ownsRow base 26 6 v' (us.length + 1) (vcs us ++ v6 u)) : VRow w' base v' (us ++ [u]) := by
  unfold VRow; rw [vcs_snoc, List.length_append]; exact h
theorem src_vec {P : Program} {t e : TypeId} (ht : P.underlying t = some (.slice e)) (w : World) (b : Nat) (u : Nat → Int) (T : TypeId) (h : Blk w b (v6 u) T) :
    Src P 6 t (.slice (some ⟨b, 0, none⟩) 1 1) 1 (v6 u) w := by
  refine Src.ofSlice _ ht ⟨b, 0, none⟩ 1 1 (v6 u) rfl ?_ (v6_one _)
  intro j x hx
  rw [show (⟨b, 0, none⟩ : Addr).add j = ⟨b, j, none⟩ by by_cases h0 : j = 0 <;> simp [Addr.add, h0], h.cell]
  exact hx
theorem vrow_at {w : World} {base vg vo n vcap : Nat} {us : List (Nat → Int)} (h : VRow w base (.slice (some ⟨vg, vo, none⟩) n vcap) us) (i : Nat) {u : Nat → Int} (hi : us[i]? = some u) :
    w.cell? ⟨vg, vo + i * 6, none⟩ = some (.int .i64 (u 0)) ∧ w.cell? ⟨vg, vo + i * 6 + 1, none⟩ = some (.int .i64 (u 1)) ∧ w.cell? ⟨vg, vo + i * 6 + 2, none⟩ = some (.int .i64 (u 2)) ∧
      w.cell? ⟨vg, vo + i * 6 + 3, none⟩ = some (.int .i64 (u 3)) ∧ w.cell? ⟨vg, vo + i * 6 + 4, none⟩ = some (.int .i64 (u 4)) ∧ w.cell? ⟨vg, vo + i * 6 + 5, none⟩ = some (.int .i64 (u 5)) := by
  have hlt : i < us.length := (List.getElem?_eq_some_iff.1 hi).1
  have hfl := vcs_len us
  obtain ⟨hl, a, cap, he, hc, hh⟩ := h.rd
  obtain ⟨sb, so, rfl, hs, hat⟩ := hh (by show 0 < (vcs us).length; rw [hfl]; omega)
  simp only [Value.slice.injEq, Option.some.injEq, Addr.mk.injEq, and_true] at he
  obtain ⟨⟨rfl, rfl⟩, _, _⟩ := he
  have hf : ∀ j, j < 6 → w.cell? ⟨vg, vo + (i * 6 + j), none⟩ = (v6 u)[j]? := by
    intro j hj
    rw [hat _ (by show _ < (vcs us).length; rw [hfl]; omega), flatten_at v6 6 (fun _ => rfl) us i j hj, hi]; rfl
  refine ⟨hf 0 (by omega), ?_, ?_, ?_, ?_, ?_⟩ <;> rw [Nat.add_assoc]
  · exact hf 1 (by omega)
  · exact hf 2 (by omega)
  · exact hf 3 (by omega)
  · exact hf 4 (by omega)
  · exact hf 5 (by omega)
theorem vrow0 {w : World} {base vg vo n vcap : Nat} {us : List (Nat → Int)} (h : VRow w base (.slice (some ⟨vg, vo, none⟩) n vcap) us) {u : Nat → Int} (hi : us[0]? = some u) :
    w.cell? ⟨vg, vo, none⟩ = some (.int .i64 (u 0)) ∧ w.cell? ⟨vg, vo + 1, none⟩ = some (.int .i64 (u 1)) ∧ w.cell? ⟨vg, vo + 2, none⟩ = some (.int .i64 (u 2)) ∧
      w.cell? ⟨vg, vo + 3, none⟩ = some (.int .i64 (u 3)) ∧ w.cell? ⟨vg, vo + 4, none⟩ = some (.int .i64 (u 4)) ∧ w.cell? ⟨vg, vo + 5, none⟩ = some (.int .i64 (u 5)) := by
  have := vrow_at h 0 hi
  simpa using this
def manyC (u : Nat → Int) (d : Bool) : List Value := if d = true then v6 u else v6 fun _ => 0
theorem manyC0 (u : Nat → Int) {d : Bool} (h : d = false) : (v6 fun _ => 0) = manyC u d := by unfold manyC; rw [h]; rfl
def manyJ (w0 : World) (base vg vo vcap R r : Nat) (US : List (Nat → Int)) (U0 Ur : Nat → Int) (l : Nat → Bool) (x : Nat → Value) (w' : World) : Prop :=
  ∃ B10 B11, (VRow w' base (.slice (some ⟨vg, vo, none⟩) US.length vcap) US) ∧
  (Keep [] w0 w') ∧
  (l 12 = true → l 10 = true) ∧
  (l 13 = true → l 11 = true) ∧
  (l 10 = true → w0.heap.size ≤ B10) ∧
  (l 11 = true → w0.heap.size ≤ B11) ∧
  (l 10 = true → l 11 = true → B10 ≠ B11) ∧
  (l 0 = true → x 0 = .slice (some ⟨vg, vo, none⟩) US.length vcap) ∧
  (l 1 = true → x 1 = .pointer (some ⟨vg, vo, none⟩)) ∧
  (l 2 = true → x 2 = vec U0) ∧
  (l 3 = true → x 3 = .slice (some ⟨vg, vo, none⟩) US.length vcap) ∧
  (l 4 = true → x 4 = .int .i64 (R : Int)) ∧
  (l 5 = true → x 5 = .slice (some ⟨vg, vo, none⟩) US.length vcap) ∧
  (l 6 = true → x 6 = .int .i64 (US.length : Int)) ∧
  (l 7 = true → x 7 = .int .i64 (r : Int)) ∧
  (l 8 = true → x 8 = .pointer (some ⟨vg, vo + r * 6, none⟩)) ∧
  (l 9 = true → x 9 = vec Ur) ∧
  (l 10 = true → x 10 = .pointer (some ⟨B10, 0, none⟩) ∧ Blk w' B10 (manyC U0 (l 12)) 26) ∧
  (l 11 = true → x 11 = .pointer (some ⟨B11, 0, none⟩) ∧ Blk w' B11 (manyC Ur (l 13)) 26) ∧
  (l 12 = true → True) ∧
  (l 13 = true → True)
def oneJ (w0 : World) (base vg vo vcap j B10 B11 : Nat) (US : List (Nat → Int)) (O P X Uj : Nat → Int) (l : Nat → Bool) (x : Nat → Value) (w' : World) : Prop :=
  ∃ B5, (Blk w' B10 (if l 7 = true then v6 X else v6 O) 26) ∧
  (Blk w' B11 (v6 P) 26) ∧
  (VRow w' base (.slice (some ⟨vg, vo, none⟩) US.length vcap) US) ∧
  (Keep [B10] w0 w') ∧
  (l 7 = true → l 0 = true) ∧
  (l 5 = true → w0.heap.size ≤ B5) ∧
  (l 0 = true → x 0 = vec O) ∧
  (l 1 = true → x 1 = .slice (some ⟨vg, vo, none⟩) US.length vcap) ∧
  (l 2 = true → x 2 = .int .i64 (j : Int)) ∧
  (l 3 = true → x 3 = .pointer (some ⟨vg, vo + j * 6, none⟩)) ∧
  (l 4 = true → x 4 = vec Uj) ∧
  (l 5 = true → x 5 = .slice (some ⟨B5, 0, none⟩) 1 1 ∧ Blk w' B5 (v6 Uj) 26) ∧
  (l 6 = true → x 6 = vec X ∧ Hid (l 0 = true)) ∧
  (l 7 = true → True)
def othJ (w0 : World) (base vg vo vcap j R r r2 B10 B11 : Nat) (US : List (Nat → Int)) (P X Y U2 : Nat → Int) (l : Nat → Bool) (x : Nat → Value) (w' : World) : Prop :=
  ∃ B5, (Blk w' B11 (if l 15 = true then v6 Y else v6 P) 26) ∧
  (Blk w' B10 (v6 X) 26) ∧
  (VRow w' base (.slice (some ⟨vg, vo, none⟩) US.length vcap) US) ∧
  (Keep [B11] w0 w') ∧
  (l 15 = true → l 0 = true) ∧
  (l 13 = true → w0.heap.size ≤ B5) ∧
  (l 0 = true → x 0 = vec P) ∧
  (l 1 = true → x 1 = .slice (some ⟨vg, vo, none⟩) US.length vcap) ∧
  (l 2 = true → x 2 = .int .i64 (j : Int)) ∧
  (l 3 = true → x 3 = .int .i64 (R : Int)) ∧
  (l 4 = true → x 4 = .slice (some ⟨vg, vo, none⟩) US.length vcap) ∧
  (l 5 = true → x 5 = .int .i64 (US.length : Int)) ∧
  (l 6 = true → x 6 = .int .i64 (r : Int)) ∧
  (l 7 = true → x 7 = .int .i64 ((j : Int) + (r : Int))) ∧
  (l 8 = true → x 8 = .slice (some ⟨vg, vo, none⟩) US.length vcap) ∧
  (l 9 = true → x 9 = .int .i64 (US.length : Int)) ∧
  (l 10 = true → x 10 = .int .i64 (r2 : Int)) ∧
  (l 11 = true → x 11 = .pointer (some ⟨vg, vo + r2 * 6, none⟩)) ∧
  (l 12 = true → x 12 = vec U2) ∧
  (l 13 = true → x 13 = .slice (some ⟨B5, 0, none⟩) 1 1 ∧ Blk w' B5 (v6 U2) 26) ∧
  (l 14 = true → x 14 = vec Y ∧ Hid (l 0 = true)) ∧
  (l 15 = true → True)
def OthOk (US : List (Nat → Int)) (r j : Nat) (P : Nat → Int) : Prop :=
  P 0 = 0 ∧ ∀ c, 1 ≤ c → c ≤ 5 → (∃ u ∈ US, P c = u c) ∧ ∀ i, i < j → ∀ u, US[(i + r) % US.length]? = some u → u c ≤ P c
theorem othOk_start {US : List (Nat → Int)} {r : Nat} {Ur : Nat → Int} (h : US[r]? = some Ur) (hz : ∀ u ∈ US, u 0 = 0) : OthOk US r 0 Ur :=
  ⟨hz _ (List.mem_of_getElem? h), fun c _ _ => ⟨⟨Ur, List.mem_of_getElem? h, rfl⟩, fun i hi => absurd hi (by omega)⟩⟩
theorem othOk_step {US : List (Nat → Int)} {r j r2 : Nat} {P U2 Y : Nat → Int} (h : OthOk US r j P) (hr : r2 = (j + r) % US.length) (hu : US[r2]? = some U2) (hY : vmaxN P [U2] [U2].length = Y) : OthOk US r (j + 1) Y := by
  subst hr
  have e : vmaxN P [U2] [U2].length = vmax P U2 := rfl
  rw [e] at hY
  subst hY
  refine ⟨by rw [vmax_0]; exact h.1, fun c h1 h5 => ?_⟩
  have hc := h.2 c h1 h5
  rw [vmax_at _ _ _ ⟨h1, h5⟩]
  refine ⟨?_, ?_⟩
  · by_cases hx : U2 c ≤ P c
    · obtain ⟨u, hu1, hu2⟩ := hc.1
      exact ⟨u, hu1, by omega⟩
    · exact ⟨U2, List.mem_of_getElem? hu, by omega⟩
  · intro i hi u hu'
    by_cases hij : i < j
    · have := hc.2 i hij u hu'; omega
    · obtain rfl : i = j := by omega
      rw [hu] at hu'
      cases hu'
      omega
theorem vmaxN_up (us : List (Nat → Int)) (c : Nat) (h : 1 ≤ c ∧ c ≤ 5) : ∀ v : Nat → Int, v c ≤ us.foldl vmax v c ∧ (∀ u ∈ us, u c ≤ us.foldl vmax v c) ∧ (us.foldl vmax v c = v c ∨ ∃ u ∈ us, us.foldl vmax v c = u c) := by
  induction us with
  | nil => intro v; exact ⟨Int.le_refl _, fun u hu => by simp at hu, .inl rfl⟩
  | cons a t ih =>
    intro v
    obtain ⟨i1, i2, i3⟩ := ih (vmax v a)
    rw [vmax_at _ _ _ h] at i1 i3
    simp only [List.foldl_cons]
    refine ⟨by omega, ?_, ?_⟩
    · intro u hu
      rcases List.mem_cons.1 hu with rfl | hu
      · omega
      · exact i2 u hu
    · rcases i3 with i3 | ⟨u, hu, i3⟩
      · by_cases hx : a c ≤ v c
        · exact .inl (by omega)
        · exact .inr ⟨a, by simp, by omega⟩
      · exact .inr ⟨u, by simp [hu], i3⟩
theorem vminN_down (us : List (Nat → Int)) (c : Nat) (h : 1 ≤ c ∧ c ≤ 5) : ∀ v : Nat → Int, us.foldl vmin v c ≤ v c ∧ (∀ u ∈ us, us.foldl vmin v c ≤ u c) := by
  induction us with
  | nil => intro v; exact ⟨Int.le_refl _, fun u hu => by simp at hu⟩
  | cons a t ih =>
    intro v
    obtain ⟨i1, i2⟩ := ih (vmin v a)
    rw [vmin_at _ _ _ h] at i1
    simp only [List.foldl_cons]
    refine ⟨by omega, ?_⟩
    intro u hu
    rcases List.mem_cons.1 hu with rfl | hu
    · omega
    · exact i2 u hu
theorem vmax_all0 (us : List (Nat → Int)) : ∀ v : Nat → Int, us.foldl vmax v 0 = v 0 := by
  induction us with
  | nil => intro v; rfl
  | cons a t ih => intro v; rw [List.foldl_cons, ih, vmax_0]
theorem many_has {US : List (Nat → Int)} {U0 Uj : Nat → Int} {j : Nat} (hj : US[j]? = some Uj) : vhas (vmaxN U0 US US.length) Uj = true := by
  unfold vmaxN
  rw [List.take_of_length_le (Nat.le_refl _)]
  exact (vhas_iff _ _).2 fun c h1 h5 => (vmaxN_up US c ⟨h1, h5⟩ U0).2.1 _ (List.mem_of_getElem? hj)
theorem many_min {US : List (Nat → Int)} {U0 Uj : Nat → Int} {j : Nat} (hj : US[j]? = some Uj) : vhas Uj (vminN U0 US US.length) = true := by
  unfold vminN
  rw [List.take_of_length_le (Nat.le_refl _)]
  exact (vhas_iff _ _).2 fun c h1 h5 => (vminN_down US c ⟨h1, h5⟩ U0).2 _ (List.mem_of_getElem? hj)
theorem many_0 {US : List (Nat → Int)} {U0 : Nat → Int} (h0 : US[0]? = some U0) (hz : ∀ u ∈ US, u 0 = 0) : vmaxN U0 US US.length 0 = 0 := by
  unfold vmaxN
  rw [vmax_all0]; exact hz _ (List.mem_of_getElem? h0)
theorem othOk_end {US : List (Nat → Int)} {U0 P : Nat → Int} {r : Nat} (h : OthOk US r US.length P) (hr : r < US.length) (h0 : US[0]? = some U0) : vsame P (vmaxN U0 US US.length) = true := by
  refine (vsame_iff _ _).2 fun c h1 h5 => ?_
  obtain ⟨⟨u, hu, hP⟩, hc⟩ := h.2 c h1 h5
  unfold vmaxN
  rw [List.take_of_length_le (Nat.le_refl _)]
  obtain ⟨i1, i2, i3⟩ := vmaxN_up US c ⟨h1, h5⟩ U0
  have hall : ∀ v ∈ US, v c ≤ P c := by
    intro v hv
    obtain ⟨k, hk, hkv⟩ := List.getElem_of_mem hv
    have : ((k + US.length - r) % US.length + r) % US.length = k := by
      rw [Nat.mod_add_mod, show k + US.length - r + r = k + US.length by omega, Nat.add_mod_right, Nat.mod_eq_of_lt hk]
    exact hc ((k + US.length - r) % US.length) (Nat.mod_lt _ (by omega)) v (by rw [this, List.getElem?_eq_getElem hk, hkv])
  have := i2 u hu
  rcases i3 with i3 | ⟨v, hv, i3⟩
  · have := hall U0 (List.mem_of_getElem? h0); omega
  · have := hall v hv; omega
def hasJ (w0 : World) (base vg vo vcap j B10 B11 BA : Nat) (US : List (Nat → Int)) (O P M U0 Uj : Nat → Int) (l : Nat → Bool) (x : Nat → Value) (w' : World) : Prop :=
  (Blk w' BA (v6 O) 26) ∧
  (Blk w' B10 (v6 O) 26) ∧
  (Blk w' B11 (v6 P) 26) ∧
  (VRow w' base (.slice (some ⟨vg, vo, none⟩) US.length vcap) US) ∧
  (Keep [] w0 w') ∧
  (l 0 = true → x 0 = vec O) ∧
  (l 1 = true → x 1 = .slice (some ⟨vg, vo, none⟩) US.length vcap) ∧
  (l 2 = true → x 2 = .int .i64 (j : Int)) ∧
  (l 3 = true → x 3 = .pointer (some ⟨vg, vo + j * 6, none⟩)) ∧
  (l 4 = true → x 4 = vec Uj) ∧
  (l 5 = true → x 5 = .bool true) ∧
  (l 6 = true → x 6 = .bool false) ∧
  (l 7 = true → x 7 = .bool false) ∧
  (l 8 = true → x 8 = .slice (some ⟨vg, vo, none⟩) US.length vcap) ∧
  (l 9 = true → x 9 = .int .i64 (j : Int)) ∧
  (l 10 = true → x 10 = .pointer (some ⟨vg, vo + j * 6, none⟩)) ∧
  (l 11 = true → x 11 = vec Uj) ∧
  (l 12 = true → x 12 = .slice (some ⟨vg, vo, none⟩) US.length vcap) ∧
  (l 13 = true → x 13 = .pointer (some ⟨vg, vo, none⟩)) ∧
  (l 14 = true → x 14 = vec U0) ∧
  (l 15 = true → x 15 = .slice (some ⟨vg, vo, none⟩) US.length vcap) ∧
  (l 16 = true → x 16 = vec M) ∧
  (l 17 = true → x 17 = .bool true) ∧
  (l 18 = true → x 18 = .bool false) ∧
  (l 19 = true → x 19 = .bool false)
def IsNums (w : World) (v : Value) : Prop := ∃ ts : List (Value × List Int), Rv w 1 v ts.length (ts.map Prod.fst) ∧ ts.length ≤ 9223372036854775807 ∧ ∀ p ∈ ts, Rv w 1 p.1 p.2.length (ints p.2) ∧ p.2.length ≤ 9223372036854775807
theorem open_nums {H : Type} {enc : TypeId × Value → H} {W : World} {v : Value} {d : DataW H} {p : List MemPlace} {r : Reach} {b : Nat}
    (hv : Value.okWide Try.prog W r b 43 v) (h : DataW.Trod enc Try.prog W 0 (fun _ => true) true 43 v d p) : IsNums W v := by
  obtain ⟨a0, len, cap, rfl⟩ := okWide_slice Try.underlying43 hv
  obtain ⟨⟨y, l⟩, hy, h1, h2, h3⟩ := opens_val (f := fun p : Value × List (Value × List Int) => p.1) (opens_slice1 (f := Prod.fst) Try.underlying43 (by kernel_rfl) (opens_slice1 (f := Value.int .i64) Try.underlying22 (by kernel_rfl) (opens_int Try.underlying2))) (fun y hy => by simpa [Value.cells] using hy) h
  exact ⟨l, hy ▸ h1, h2, fun p hp => ⟨(h3 p hp).1, (h3 p hp).2.1⟩⟩
set_option maxRecDepth 100000 in
set_option maxHeartbeats 8000000 in
theorem vectorMany_walk (lv : Value) (turn : Int) (w : World) (w0 : IsNums w lv) (_w1 : (Lit.int .i64 turn).wf = true) :
    Calls Try.prog 6 #[lv, .int .i64 turn] w fun e w' => e = .returned (.bool true) ∧ Below w.heap.size w w' := by
  obtain ⟨ts, hts, htm, htb⟩ := w0
  obtain ⟨_, ta, tcap, rfl, _, _⟩ := id hts
  obtain ⟨i6, hi6, hz60, hz61, hz62⟩ := info_parts Try.infoVec
  have htu := i64_wf _w1
  clear _w1
  go_enter Try.func6, Try.ntmps6
  go_wp2_with fail
  refine (begun11 w).mono ?_
  rintro e w0 ⟨rfl, k0⟩
  by_cases h0 : ts.length = 0
  · have q0 : ((ts.length : Int) == 0) = true := by simpa using h0
    rw [h0] at *
    go_wp2_with fail
    go_ret
    exact ⟨rfl, k0.below⟩
  have q0 : ((ts.length : Int) == 0) = false := by simpa using (by omega : ¬ (ts.length : Int) = 0)
  by_cases h1 : 8 < ts.length
  · have q1 : decide (8 < (ts.length : Int)) = true := decide_eq_true (by omega)
    have q2 : decide (8 < ts.length) = true := decide_eq_true h1
    go_wp2_with fail
    go_ret
    exact ⟨rfl, k0.below⟩
  have q1 : decide (8 < (ts.length : Int)) = false := decide_eq_false (by omega)
  have q2 : decide (8 < ts.length) = false := decide_eq_false h1
  by_cases h2 : turn < 0
  · have q3 : decide (turn < 0) = true := decide_eq_true h2
    go_wp2_with fail
    go_ret
    exact ⟨rfl, k0.below⟩
  have q3 : decide (turn < 0) = false := decide_eq_false h2
  obtain ⟨R, rfl⟩ : ∃ R : Nat, turn = (R : Int) := ⟨turn.toNat, by omega⟩
  go_wp2_with fail
  clear q0 q1 q2 q3
  go_loopw [6, 7] (fun vs i wr => ∃ j : Nat, j ≤ ts.length ∧ i = .int .i64 j ∧ VRow wr w.heap.size vs ((ts.take j).map fun p => vof p.2) ∧ Keep [] w wr) (fun _ i _ => ts.length - (intOf i).toNat)
  case atStart => exact ⟨0, by omega, rfl, VRow.nil _ _, k0⟩
  case round =>
    clear k0
    obtain ⟨j, hj, rfl, hV, hK⟩ := hrel
    by_cases hlt : j < ts.length
    · have p2 : (j : Int) < ts.length := by omega
      obtain ⟨y, hy⟩ : ∃ y, ts[j]? = some y := ⟨_, List.getElem?_eq_getElem hlt⟩
      obtain ⟨hyr, hyl⟩ := htb y (List.mem_of_getElem? hy)
      obtain ⟨tg, to_, tc, he, _, htg, hat⟩ := (hts.keep hK (by simp)).at1 (by omega)
      simp only [Value.slice.injEq] at he
      obtain ⟨rfl, hq1, hq2⟩ := he
      clear hq1 hq2
      have hcell := hat j hlt
      rw [List.getElem?_map, hy] at hcell
      simp only [Option.map_some] at hcell
      have htk : (ts.take (j + 1)).map (fun p => vof p.2) = (ts.take j).map (fun p => vof p.2) ++ [vof y.2] := by rw [List.take_add_one, hy]; simp
      have HTK := Lib.hid htk
      have hul : ((ts.take j).map fun p => vof p.2).length ≤ 8 := by simp; omega
      clear hat hy htk
      obtain ⟨yv, Y⟩ := y
      simp only at hyr hyl hcell
      generalize (ts.take j).map (fun p => vof p.2) = U at *
      obtain ⟨ua, ucap, rfl⟩ := hV.slice
      obtain ⟨_, ya, ycap, rfl, _, _⟩ := id hyr
      have hz := hK.size
      go_wp2_with fail
      refine (vOf_any _ Y (hyr.keep hK (by simp)) (by omega)).mono ?_
      rintro e w1 ⟨rfl, k1⟩
      have hV1 := hV.keep k1 (by simp)
      have K1 := hK.trans k1
      have hz1 := k1.size
      have hsrc := src_vec (P := Try.prog) Try.underlying44 _ _ _ _ (Blk.new w1 (v6 (vof Y)) 26)
      clear hV hK k1 hcell
      go_wp2_with (at_builtin; refine wpList_append_src _ rfl _ _ 44 44 rfl w.heap.size 26 i6 _ 6 48 Try.underlying44 hi6 hz60 hz61 hz62 rfl (by decide) _ _ _ rfl (hV1.alloc _) _ 1 _ rfl hsrc (by unfold maxLen; omega) (by omega) (by simp; omega) ?_; intro v5 w5 h1' h2' _ h3')
      have hV5 := VRow.snoc h1'
      have K5 := (K1.alloc (.cells (v6 (vof Y)).toArray 26)).then (Keep.grown h2') (by intro q hq hlt2; have e := Option.mem_toList.1 hq; have := (hV1.lt q e).1; omega)
      clear h1' h2' h3' hV1 K1 hsrc
      go_roundw
      case rel => exact ⟨j + 1, by omega, by go_num, by rw [HTK.out]; exact hV5, K5⟩
      case measure => simp [intOf]; omega
    · obtain rfl : j = ts.length := by omega
      have htk : ts.take ts.length = ts := List.take_of_length_le (Nat.le_refl _)
      rw [htk] at hV
      have hUl : (ts.map fun p => vof p.2).length = ts.length := by simp
      have hn8 : 0 < ts.length ∧ ts.length ≤ 8 := by omega
      rw [← hUl] at hn8 hlt ⊢
      clear hUl
      have hUz : ∀ u ∈ ts.map (fun p => vof p.2), u 0 = 0 := by intro u hu; obtain ⟨p, _, rfl⟩ := List.mem_map.1 hu; exact vof_zero _
      generalize ts.map (fun p => vof p.2) = US at *
      have HUZ := Lib.hid hUz
      clear hUz
      obtain ⟨va, vcap, rfl⟩ := hV.slice
      obtain ⟨vg, vo, rfl⟩ : ∃ vg vo, va = some ⟨vg, vo, none⟩ := by
        obtain ⟨_, a, cap, he, _, hh⟩ := hV.rd
        obtain ⟨sb, so, rfl, _, _⟩ := hh (by show 0 < (vcs US).length; rw [vcs_len]; omega)
        simp only [Value.slice.injEq] at he
        exact ⟨sb, so, he.1⟩
      obtain ⟨r, hr⟩ : ∃ r, r = R % US.length := ⟨_, rfl⟩
      have hrl : r < US.length := by rw [hr]; exact Nat.mod_lt _ hn8.1
      have hrem : (R : Int).tmod (US.length : Int) = (r : Int) := by rw [Int.tmod_eq_emod_of_nonneg (by omega), hr]; omega
      obtain ⟨U0, hU0⟩ : ∃ u, US[0]? = some u := ⟨_, List.getElem?_eq_getElem hn8.1⟩
      obtain ⟨Ur, hUr⟩ : ∃ u, US[r]? = some u := ⟨_, List.getElem?_eq_getElem hrl⟩
      have HU0 := Lib.hid hU0
      have HUR := Lib.hid hUr
      have HVB := Lib.hid (show ∀ q, (Value.slice (some ⟨vg, vo, none⟩) US.length vcap).ownBlock = some q → q < wr.heap.size from fun q hq => (hV.lt q hq).2)
      have HRR := Lib.hid hr
      have hV0 : VRow wr.drew w.heap.size (.slice (some ⟨vg, vo, none⟩) US.length vcap) US := hV.keep ((Keep.refl [] _).drew) (by simp)
      have q5 : (0 : Int) < US.length := by omega
      have q6 : (r : Int) < US.length := by omega
      have q7 : ((US.length : Int) == 0) = false := by simpa using (by omega : ¬ (US.length : Int) = 0)
      have q8 : ¬ US = [] := by intro h; rw [h] at hn8; simp at hn8
      clear hr hU0 hUr hlt
      have KW := Lib.hid hK
      clear hK
      go_wp2_with fail
      refine wp_region_inv (manyJ wr w.heap.size vg vo vcap R r US U0 Ur) (by kernel_rfl) (by kernel_rfl) (by kernel_rfl) ?_ (Steps.cons 0 ?_ (Steps.cons 1 ?_ (Steps.cons 2 ?_ (Steps.cons 3 ?_ (Steps.cons 4 ?_ (Steps.cons 5 ?_ (Steps.cons 6 ?_ (Steps.cons 7 ?_ (Steps.cons 8 ?_ (Steps.cons 9 ?_ (Steps.cons 10 ?_ (Steps.cons 11 ?_ (Steps.cons 12 ?_ (Steps.cons 13 ?_ (Steps.nil 14))))))))))))))) 14 rfl ?_
      · intro x
        exact ⟨0, 0, hV0, (Keep.refl _ _).drew, fun h => absurd h (by decide), fun h => absurd h (by decide), fun h => absurd h (by decide), fun h => absurd h (by decide), fun h => absurd h (by decide), fun h => absurd h (by decide), fun h => absurd h (by decide), fun h => absurd h (by decide), fun h => absurd h (by decide), fun h => absurd h (by decide), fun h => absurd h (by decide), fun h => absurd h (by decide), fun h => absurd h (by decide), fun h => absurd h (by decide), fun h => absurd h (by decide), fun h => absurd h (by decide), fun h => absurd h (by decide), fun h => absurd h (by decide), fun h => absurd h (by decide)⟩
      · intro l x w' hJ hi hd
        obtain ⟨B10, B11, hV, hK, d12, d13, hlo10, hlo11, hap, h0, h1, h2, h3, h4, h5, h6, h7, h8, h9, h10, h11, h12, h13⟩ := hJ
        refine Runs.of (b := ?bY0) ?eY0 ?_
        case eY0 => simp only [putV, Act.put, List.setIfInBounds_toArray, List.set_cons_zero, List.set_cons_succ]; rfl
        intro K' hK'
        go_simp
        exact hK'.go _ rfl ⟨B10, B11, hV, hK, d12, d13, hlo10, hlo11, hap, fun _ => rfl, h1, h2, h3, h4, h5, h6, h7, h8, h9, h10, h11, h12, h13⟩
      · intro l x w' hJ hi hd
        obtain ⟨B10, B11, hV, hK, d12, d13, hlo10, hlo11, hap, h0, h1, h2, h3, h4, h5, h6, h7, h8, h9, h10, h11, h12, h13⟩ := hJ
        have e0 := h0 (show l 0 = true by first | exact hd.1 rfl | exact hd.2.1 rfl | exact hd.2.2.1 rfl | exact hd.2.2.2.1 rfl | exact hd.2.2.2.2.1 rfl | exact hd.2.2.2.2.2.1 rfl)
        refine Runs.of (b := ?bY1) ?eY1 ?_
        case eY1 => simp only [putV, Act.put, List.setIfInBounds_toArray, List.set_cons_zero, List.set_cons_succ, e0]; rfl
        intro K' hK'
        go_simp
        exact hK'.go _ rfl ⟨B10, B11, hV, hK, d12, d13, hlo10, hlo11, hap, h0, fun _ => rfl, h2, h3, h4, h5, h6, h7, h8, h9, h10, h11, h12, h13⟩
      · intro l x w' hJ hi hd
        obtain ⟨B10, B11, hV, hK, d12, d13, hlo10, hlo11, hap, h0, h1, h2, h3, h4, h5, h6, h7, h8, h9, h10, h11, h12, h13⟩ := hJ
        have e1 := h1 (show l 1 = true by first | exact hd.1 rfl | exact hd.2.1 rfl | exact hd.2.2.1 rfl | exact hd.2.2.2.1 rfl | exact hd.2.2.2.2.1 rfl | exact hd.2.2.2.2.2.1 rfl)
        obtain ⟨c0, c1, c2, c3, c4, c5⟩ := vrow0 hV HU0.out
        refine Runs.of (b := ?bY2) ?eY2 ?_
        case eY2 => simp only [putV, Act.put, List.setIfInBounds_toArray, List.set_cons_zero, List.set_cons_succ, e1]; rfl
        intro K' hK'
        go_simp
        exact hK'.go _ rfl ⟨B10, B11, hV, hK, d12, d13, hlo10, hlo11, hap, h0, h1, fun _ => rfl, h3, h4, h5, h6, h7, h8, h9, h10, h11, h12, h13⟩
      · intro l x w' hJ hi hd
        obtain ⟨B10, B11, hV, hK, d12, d13, hlo10, hlo11, hap, h0, h1, h2, h3, h4, h5, h6, h7, h8, h9, h10, h11, h12, h13⟩ := hJ
        refine Runs.of (b := ?bY3) ?eY3 ?_
        case eY3 => simp only [putV, Act.put, List.setIfInBounds_toArray, List.set_cons_zero, List.set_cons_succ]; rfl
        intro K' hK'
        go_simp
        exact hK'.go _ rfl ⟨B10, B11, hV, hK, d12, d13, hlo10, hlo11, hap, h0, h1, h2, fun _ => rfl, h4, h5, h6, h7, h8, h9, h10, h11, h12, h13⟩
      · intro l x w' hJ hi hd
        obtain ⟨B10, B11, hV, hK, d12, d13, hlo10, hlo11, hap, h0, h1, h2, h3, h4, h5, h6, h7, h8, h9, h10, h11, h12, h13⟩ := hJ
        refine Runs.of (b := ?bY4) ?eY4 ?_
        case eY4 => simp only [putV, Act.put, List.setIfInBounds_toArray, List.set_cons_zero, List.set_cons_succ]; rfl
        intro K' hK'
        go_simp
        exact hK'.go _ rfl ⟨B10, B11, hV, hK, d12, d13, hlo10, hlo11, hap, h0, h1, h2, h3, fun _ => rfl, h5, h6, h7, h8, h9, h10, h11, h12, h13⟩
      · intro l x w' hJ hi hd
        obtain ⟨B10, B11, hV, hK, d12, d13, hlo10, hlo11, hap, h0, h1, h2, h3, h4, h5, h6, h7, h8, h9, h10, h11, h12, h13⟩ := hJ
        refine Runs.of (b := ?bY5) ?eY5 ?_
        case eY5 => simp only [putV, Act.put, List.setIfInBounds_toArray, List.set_cons_zero, List.set_cons_succ]; rfl
        intro K' hK'
        go_simp
        exact hK'.go _ rfl ⟨B10, B11, hV, hK, d12, d13, hlo10, hlo11, hap, h0, h1, h2, h3, h4, fun _ => rfl, h6, h7, h8, h9, h10, h11, h12, h13⟩
      · intro l x w' hJ hi hd
        obtain ⟨B10, B11, hV, hK, d12, d13, hlo10, hlo11, hap, h0, h1, h2, h3, h4, h5, h6, h7, h8, h9, h10, h11, h12, h13⟩ := hJ
        have e5 := h5 (show l 5 = true by first | exact hd.1 rfl | exact hd.2.1 rfl | exact hd.2.2.1 rfl | exact hd.2.2.2.1 rfl | exact hd.2.2.2.2.1 rfl | exact hd.2.2.2.2.2.1 rfl)
        refine Runs.of (b := ?bY6) ?eY6 ?_
        case eY6 => simp only [putV, Act.put, List.setIfInBounds_toArray, List.set_cons_zero, List.set_cons_succ, e5]; rfl
        intro K' hK'
        go_simp
        exact hK'.go _ rfl ⟨B10, B11, hV, hK, d12, d13, hlo10, hlo11, hap, h0, h1, h2, h3, h4, h5, fun _ => rfl, h7, h8, h9, h10, h11, h12, h13⟩
      · intro l x w' hJ hi hd
        obtain ⟨B10, B11, hV, hK, d12, d13, hlo10, hlo11, hap, h0, h1, h2, h3, h4, h5, h6, h7, h8, h9, h10, h11, h12, h13⟩ := hJ
        have e4 := h4 (show l 4 = true by first | exact hd.1 rfl | exact hd.2.1 rfl | exact hd.2.2.1 rfl | exact hd.2.2.2.1 rfl | exact hd.2.2.2.2.1 rfl | exact hd.2.2.2.2.2.1 rfl)
        have e6 := h6 (show l 6 = true by first | exact hd.1 rfl | exact hd.2.1 rfl | exact hd.2.2.1 rfl | exact hd.2.2.2.1 rfl | exact hd.2.2.2.2.1 rfl | exact hd.2.2.2.2.2.1 rfl)
        refine Runs.of (b := ?bY7) ?eY7 ?_
        case eY7 => simp only [putV, Act.put, List.setIfInBounds_toArray, List.set_cons_zero, List.set_cons_succ, e4, e6]; rfl
        intro K' hK'
        go_simp
        exact hK'.go _ rfl ⟨B10, B11, hV, hK, d12, d13, hlo10, hlo11, hap, h0, h1, h2, h3, h4, h5, h6, fun _ => rfl, h8, h9, h10, h11, h12, h13⟩
      · intro l x w' hJ hi hd
        obtain ⟨B10, B11, hV, hK, d12, d13, hlo10, hlo11, hap, h0, h1, h2, h3, h4, h5, h6, h7, h8, h9, h10, h11, h12, h13⟩ := hJ
        have e3 := h3 (show l 3 = true by first | exact hd.1 rfl | exact hd.2.1 rfl | exact hd.2.2.1 rfl | exact hd.2.2.2.1 rfl | exact hd.2.2.2.2.1 rfl | exact hd.2.2.2.2.2.1 rfl)
        have e7 := h7 (show l 7 = true by first | exact hd.1 rfl | exact hd.2.1 rfl | exact hd.2.2.1 rfl | exact hd.2.2.2.1 rfl | exact hd.2.2.2.2.1 rfl | exact hd.2.2.2.2.2.1 rfl)
        refine Runs.of (b := ?bY8) ?eY8 ?_
        case eY8 => simp only [putV, Act.put, List.setIfInBounds_toArray, List.set_cons_zero, List.set_cons_succ, e3, e7]; rfl
        intro K' hK'
        go_simp
        exact hK'.go _ rfl ⟨B10, B11, hV, hK, d12, d13, hlo10, hlo11, hap, h0, h1, h2, h3, h4, h5, h6, h7, fun _ => rfl, h9, h10, h11, h12, h13⟩
      · intro l x w' hJ hi hd
        obtain ⟨B10, B11, hV, hK, d12, d13, hlo10, hlo11, hap, h0, h1, h2, h3, h4, h5, h6, h7, h8, h9, h10, h11, h12, h13⟩ := hJ
        have e8 := h8 (show l 8 = true by first | exact hd.1 rfl | exact hd.2.1 rfl | exact hd.2.2.1 rfl | exact hd.2.2.2.1 rfl | exact hd.2.2.2.2.1 rfl | exact hd.2.2.2.2.2.1 rfl)
        obtain ⟨c0, c1, c2, c3, c4, c5⟩ := vrow_at hV r HUR.out
        refine Runs.of (b := ?bY9) ?eY9 ?_
        case eY9 => simp only [putV, Act.put, List.setIfInBounds_toArray, List.set_cons_zero, List.set_cons_succ, e8]; rfl
        intro K' hK'
        go_simp
        exact hK'.go _ rfl ⟨B10, B11, hV, hK, d12, d13, hlo10, hlo11, hap, h0, h1, h2, h3, h4, h5, h6, h7, h8, fun _ => rfl, h10, h11, h12, h13⟩
      · intro l x w' hJ hi hd
        obtain ⟨B10, B11, hV, hK, d12, d13, hlo10, hlo11, hap, h0, h1, h2, h3, h4, h5, h6, h7, h8, h9, h10, h11, h12, h13⟩ := hJ
        have l12 : l 12 = false := by cases h : l 12 with | false => rfl | true => have := d12 h; rw [hi] at this; cases this
        refine Runs.of (b := ?bY10) ?eY10 ?_
        case eY10 => simp only [putV, Act.put, List.setIfInBounds_toArray, List.set_cons_zero, List.set_cons_succ]; rfl
        intro K' hK'
        go_simp
        exact hK'.go _ rfl ⟨w'.heap.size, B11, hV.alloc _, hK.alloc _, fun _ => rfl, d13, fun _ => hK.size, hlo11, fun _ h => by have := (h11 h).2.lt; omega, h0, h1, h2, h3, h4, h5, h6, h7, h8, h9, fun _ => ⟨rfl, manyC0 U0 l12 ▸ Blk.new _ (v6 fun _ => 0) _⟩, fun h => ⟨(h11 h).1, (h11 h).2.alloc _⟩, h12, h13⟩
      · intro l x w' hJ hi hd
        obtain ⟨B10, B11, hV, hK, d12, d13, hlo10, hlo11, hap, h0, h1, h2, h3, h4, h5, h6, h7, h8, h9, h10, h11, h12, h13⟩ := hJ
        have l13 : l 13 = false := by cases h : l 13 with | false => rfl | true => have := d13 h; rw [hi] at this; cases this
        refine Runs.of (b := ?bY11) ?eY11 ?_
        case eY11 => simp only [putV, Act.put, List.setIfInBounds_toArray, List.set_cons_zero, List.set_cons_succ]; rfl
        intro K' hK'
        go_simp
        exact hK'.go _ rfl ⟨B10, w'.heap.size, hV.alloc _, hK.alloc _, d12, fun _ => rfl, hlo10, fun _ => hK.size, fun h _ => by have := (h10 h).2.lt; omega, h0, h1, h2, h3, h4, h5, h6, h7, h8, h9, fun h => ⟨(h10 h).1, (h10 h).2.alloc _⟩, fun _ => ⟨rfl, manyC0 Ur l13 ▸ Blk.new _ (v6 fun _ => 0) _⟩, h12, h13⟩
      · intro l x w' hJ hi hd
        obtain ⟨B10, B11, hV, hK, d12, d13, hlo10, hlo11, hap, h0, h1, h2, h3, h4, h5, h6, h7, h8, h9, h10, h11, h12, h13⟩ := hJ
        have e10 := h10 (show l 10 = true by first | exact hd.1 rfl | exact hd.2.1 rfl | exact hd.2.2.1 rfl | exact hd.2.2.2.1 rfl | exact hd.2.2.2.2.1 rfl | exact hd.2.2.2.2.2.1 rfl)
        have e2 := h2 (show l 2 = true by first | exact hd.1 rfl | exact hd.2.1 rfl | exact hd.2.2.1 rfl | exact hd.2.2.2.1 rfl | exact hd.2.2.2.2.1 rfl | exact hd.2.2.2.2.2.1 rfl)
        have hD := e10.2
        unfold manyC at hD
        rw [hi, if_neg (by decide)] at hD
        obtain ⟨z0, z1, z2, z3, z4, z5⟩ := v6_cells hD
        have f0 := hD.free 0
        have f1 := hD.free 1
        have f2 := hD.free 2
        have f3 := hD.free 3
        have f4 := hD.free 4
        have f5 := hD.free 5
        have LA := Lib.hid (show l 10 = true by first | exact hd.1 rfl | exact hd.2.1 rfl | exact hd.2.2.1 rfl | exact hd.2.2.2.1 rfl | exact hd.2.2.2.2.1 rfl | exact hd.2.2.2.2.2.1 rfl)
        refine Runs.of (b := ?bY12) ?eY12 ?_
        case eY12 => simp only [putV, Act.put, List.setIfInBounds_toArray, List.set_cons_zero, List.set_cons_succ, e10.1, e2]; rfl
        intro K' hK'
        go_simp
        have hSet : Blk ((((((w'.setCell ⟨B10, 0, none⟩ (.int .i64 (U0 0))).setCell ⟨B10, 1, none⟩ (.int .i64 (U0 1))).setCell ⟨B10, 2, none⟩ (.int .i64 (U0 2))).setCell ⟨B10, 3, none⟩ (.int .i64 (U0 3))).setCell ⟨B10, 4, none⟩ (.int .i64 (U0 4))).setCell ⟨B10, 5, none⟩ (.int .i64 (U0 5))) B10 (v6 U0) 26 := (((((hD.set 0 (.int .i64 (U0 0))).set 1 (.int .i64 (U0 1))).set 2 (.int .i64 (U0 2))).set 3 (.int .i64 (U0 3))).set 4 (.int .i64 (U0 4))).set 5 (.int .i64 (U0 5))
        have hkS : Keep [B10] w' ((((((w'.setCell ⟨B10, 0, none⟩ (.int .i64 (U0 0))).setCell ⟨B10, 1, none⟩ (.int .i64 (U0 1))).setCell ⟨B10, 2, none⟩ (.int .i64 (U0 2))).setCell ⟨B10, 3, none⟩ (.int .i64 (U0 3))).setCell ⟨B10, 4, none⟩ (.int .i64 (U0 4))).setCell ⟨B10, 5, none⟩ (.int .i64 (U0 5))) := ((((((Keep.refl _ _).setCell (.inl (by simp)) _).setCell (.inl (by simp)) _).setCell (.inl (by simp)) _).setCell (.inl (by simp)) _).setCell (.inl (by simp)) _).setCell (.inl (by simp)) _
        have hlo := hlo10 LA.out
        exact hK'.go undef rfl ⟨B10, B11, hV.keep hkS (fun q hq hm => by have := HVB.out q hq; simp at hm; omega), hK.then hkS (by intro q hq hlt; simp at hq; omega), fun _ => LA.out, d13, hlo10, hlo11, hap, h0, h1, h2, h3, h4, h5, h6, h7, h8, h9, fun h => ⟨(h10 h).1, hSet⟩, fun h => ⟨(h11 h).1, (h11 h).2.keep hkS (by have := hap LA.out h; simp; omega)⟩, fun _ => trivial, h13⟩
      · intro l x w' hJ hi hd
        obtain ⟨B10, B11, hV, hK, d12, d13, hlo10, hlo11, hap, h0, h1, h2, h3, h4, h5, h6, h7, h8, h9, h10, h11, h12, h13⟩ := hJ
        have e11 := h11 (show l 11 = true by first | exact hd.1 rfl | exact hd.2.1 rfl | exact hd.2.2.1 rfl | exact hd.2.2.2.1 rfl | exact hd.2.2.2.2.1 rfl | exact hd.2.2.2.2.2.1 rfl)
        have e9 := h9 (show l 9 = true by first | exact hd.1 rfl | exact hd.2.1 rfl | exact hd.2.2.1 rfl | exact hd.2.2.2.1 rfl | exact hd.2.2.2.2.1 rfl | exact hd.2.2.2.2.2.1 rfl)
        have hD := e11.2
        unfold manyC at hD
        rw [hi, if_neg (by decide)] at hD
        obtain ⟨z0, z1, z2, z3, z4, z5⟩ := v6_cells hD
        have f0 := hD.free 0
        have f1 := hD.free 1
        have f2 := hD.free 2
        have f3 := hD.free 3
        have f4 := hD.free 4
        have f5 := hD.free 5
        have LA := Lib.hid (show l 11 = true by first | exact hd.1 rfl | exact hd.2.1 rfl | exact hd.2.2.1 rfl | exact hd.2.2.2.1 rfl | exact hd.2.2.2.2.1 rfl | exact hd.2.2.2.2.2.1 rfl)
        refine Runs.of (b := ?bY13) ?eY13 ?_
        case eY13 => simp only [putV, Act.put, List.setIfInBounds_toArray, List.set_cons_zero, List.set_cons_succ, e11.1, e9]; rfl
        intro K' hK'
        go_simp
        have hSet : Blk ((((((w'.setCell ⟨B11, 0, none⟩ (.int .i64 (Ur 0))).setCell ⟨B11, 1, none⟩ (.int .i64 (Ur 1))).setCell ⟨B11, 2, none⟩ (.int .i64 (Ur 2))).setCell ⟨B11, 3, none⟩ (.int .i64 (Ur 3))).setCell ⟨B11, 4, none⟩ (.int .i64 (Ur 4))).setCell ⟨B11, 5, none⟩ (.int .i64 (Ur 5))) B11 (v6 Ur) 26 := (((((hD.set 0 (.int .i64 (Ur 0))).set 1 (.int .i64 (Ur 1))).set 2 (.int .i64 (Ur 2))).set 3 (.int .i64 (Ur 3))).set 4 (.int .i64 (Ur 4))).set 5 (.int .i64 (Ur 5))
        have hkS : Keep [B11] w' ((((((w'.setCell ⟨B11, 0, none⟩ (.int .i64 (Ur 0))).setCell ⟨B11, 1, none⟩ (.int .i64 (Ur 1))).setCell ⟨B11, 2, none⟩ (.int .i64 (Ur 2))).setCell ⟨B11, 3, none⟩ (.int .i64 (Ur 3))).setCell ⟨B11, 4, none⟩ (.int .i64 (Ur 4))).setCell ⟨B11, 5, none⟩ (.int .i64 (Ur 5))) := ((((((Keep.refl _ _).setCell (.inl (by simp)) _).setCell (.inl (by simp)) _).setCell (.inl (by simp)) _).setCell (.inl (by simp)) _).setCell (.inl (by simp)) _).setCell (.inl (by simp)) _
        have hlo := hlo11 LA.out
        exact hK'.go undef rfl ⟨B10, B11, hV.keep hkS (fun q hq hm => by have := HVB.out q hq; simp at hm; omega), hK.then hkS (by intro q hq hlt; simp at hq; omega), d12, fun _ => LA.out, hlo10, hlo11, hap, h0, h1, h2, h3, h4, h5, h6, h7, h8, h9, fun h => ⟨(h10 h).1, (h10 h).2.keep hkS (by have := hap h LA.out; simp; omega)⟩, fun h => ⟨(h11 h).1, hSet⟩, h12, fun _ => trivial⟩
      · intro l x w3 hJ hl
        obtain ⟨B10, B11, hV, hK, d12, d13, hlo10, hlo11, hap, h0, h1, h2, h3, h4, h5, h6, h7, h8, h9, h10, h11, h12, h13⟩ := hJ
        have e10 := h10 (hl 10 (by decide))
        have e11 := h11 (hl 11 (by decide))
        have hO := e10.2
        have hP := e11.2
        unfold manyC at hO hP
        rw [hl 12 (by decide)] at hO
        rw [hl 13 (by decide)] at hP
        have hlo := hlo10 (hl 10 (by decide))
        have hlo' := hlo11 (hl 11 (by decide))
        have hne := hap (hl 10 (by decide)) (hl 11 (by decide))
        have e101 := e10.1
        have e111 := e11.1
        simp only [putV, Act.put, List.setIfInBounds_toArray, List.set_cons_zero, List.set_cons_succ, e101, e111]
        clear h0 h1 h2 h3 h4 h5 h6 h7 h8 h9 h10 h11 h12 h13 e10 e11 e101 e111 hl d12 d13 hlo10 hlo11 hap
        have hO2 : Blk w3 B10 (v6 U0) 26 := hO
        have hP2 : Blk w3 B11 (v6 Ur) 26 := hP
        have K3 := KW.out.trans hK
        have HBX := Lib.hid (show w.heap.size ≤ B10 ∧ w.heap.size ≤ B11 ∧ B10 ≠ B11 from ⟨by have := KW.out.size; omega, by have := KW.out.size; omega, hne⟩)
        have HVN := Lib.hid (show ∀ q, (Value.slice (some ⟨vg, vo, none⟩) US.length vcap).ownBlock = some q → q ≠ B10 ∧ q ≠ B11 from fun q hq => by have := HVB.out q hq; omega)
        clear hO hP hK hlo hlo' hne
        go_wp2_with fail
        go_loopw [10] (fun i wr => ∃ (j : Nat) (O P : Nat → Int), j ≤ US.length ∧ i = .int .i64 j ∧ O = vmaxN U0 US j ∧ Hid (OthOk US r j P) ∧ Blk wr B10 (v6 O) 26 ∧ Blk wr B11 (v6 P) 26 ∧ VRow wr w.heap.size (.slice (some ⟨vg, vo, none⟩) US.length vcap) US ∧ Keep [] w wr) (fun i _ => US.length - (intOf i).toNat)
        case atStart => exact ⟨0, U0, Ur, by omega, rfl, rfl, Lib.hid (othOk_start HUR.out HUZ.out), hO2, hP2, hV, K3⟩
        case round =>
          clear hO2 hP2 hV K3
          obtain ⟨j, O, P, hj, rfl, hOj, HPJ, hO, hP, hV, hK⟩ := hrel
          have HOJ := Lib.hid hOj
          have KR := Lib.hid hK
          clear hOj
          by_cases hlt : j < US.length
          case neg =>
            obtain rfl : j = US.length := by omega
            clear hlt hj
            have KR2 := Lib.hid (KR.out)
            have HA0 := Lib.hid (many_0 HU0.out HUZ.out)
            have HPA := Lib.hid (othOk_end HPJ.out hrl HU0.out)
            have HHA := Lib.hid (fun j Uj (h : US[j]? = some Uj) => (many_has (U0 := U0) h).symm)
            obtain ⟨M, hM⟩ : ∃ M, vminN U0 US US.length = M := ⟨_, rfl⟩
            have HHM := Lib.hid (fun j Uj (h : US[j]? = some Uj) => (hM ▸ many_min (U0 := U0) h : vhas Uj M = true).symm)
            have HM := Lib.hid hM
            obtain ⟨A, hA⟩ : ∃ A, vmaxN U0 US US.length = A := ⟨_, rfl⟩
            have HA := Lib.hid hA
            rw [hA] at HA0 HPA HHA HOJ
            obtain rfl : O = A := HOJ.out
            have hul : US.length ≤ 1000000 := by omega
            clear hA hM
            obtain ⟨c0, c1, c2, c3, c4, c5⟩ := vrow0 hV HU0.out
            go_wp2_with fail
            refine (vMax_any U0 _ US hV.rd hul).mono ?_
            rintro e w3 ⟨rfl, k3⟩
            rw [show vmaxN U0 US US.length = O from HA.out]
            replace hO := hO.keep k3 (by simp)
            replace hP := hP.keep k3 (by simp)
            replace hV := hV.keep k3 (by simp)
            have K3 := KR.out.trans k3
            clear k3 c0 c1 c2 c3 c4 c5 KR KR2
            go_wp2_with fail
            have hA1 := Blk.new w3 (v6 O) 26
            have hO1 := hO.alloc (.cells (v6 O).toArray 26)
            have hP1 := hP.alloc (.cells (v6 O).toArray 26)
            have hV1 := hV.alloc (.cells (v6 O).toArray 26)
            have K4 := K3.alloc (.cells (v6 O).toArray 26)
            obtain ⟨BA, hBA⟩ : ∃ BA, BA = w3.heap.size := ⟨_, rfl⟩
            rw [← hBA] at hA1 ⊢
            clear hO hP hV K3
            go_loopw [12] (fun i wr => ∃ j : Nat, j ≤ US.length ∧ i = .int .i64 j ∧ Blk wr BA (v6 O) 26 ∧ Blk wr B10 (v6 O) 26 ∧ Blk wr B11 (v6 P) 26 ∧ VRow wr w.heap.size (.slice (some ⟨vg, vo, none⟩) US.length vcap) US ∧ Keep [] w wr) (fun i _ => US.length - (intOf i).toNat)
            case atStart => exact ⟨0, by omega, rfl, hA1, hO1, hP1, hV1, K4⟩
            case round =>
              clear hA1 hO1 hP1 hV1 K4 hBA
              obtain ⟨j, hj, rfl, hA, hO, hP, hV, hK⟩ := hrel
              obtain ⟨wl, hwl⟩ : ∃ W : World, W = wr := ⟨_, rfl⟩
              have KL := Lib.hid hK
              by_cases hlt : j < US.length
              case neg =>
                obtain rfl : j = US.length := by omega
                obtain ⟨a0, a1, a2, a3, a4, a5⟩ := v6_cells hA
                obtain ⟨o0, o1, o2, o3, o4, o5⟩ := v6_cells hO
                go_wp2_with fail
                refine (same_any O O true ((vhas_both O O).symm.trans (by rw [vhas_self]; rfl)).symm HA0.out HA0.out).mono ?_
                rintro e w5 ⟨rfl, k5⟩
                obtain ⟨a0, a1, a2, a3, a4, a5⟩ := v6_cells (hA.keep k5 (by simp))
                obtain ⟨o0, o1, o2, o3, o4, o5⟩ := v6_cells (hP.keep k5 (by simp))
                go_wp2_with fail
                refine (same_any P O true HPA.out.symm HPJ.out.1 HA0.out).mono ?_
                rintro e w6 ⟨rfl, k6⟩
                go_wp2_with fail
                go_ret
                exact ⟨rfl, ((KL.out.trans k5).trans k6).below⟩
              have p2 : (j : Int) < US.length := by omega
              obtain ⟨Uj, hUj⟩ : ∃ u, US[j]? = some u := ⟨_, List.getElem?_eq_getElem hlt⟩
              have HUJ := Lib.hid hUj
              have HH1 := Lib.hid (HHA.out j Uj hUj)
              have HH2 := Lib.hid (HHM.out j Uj hUj)
              clear hUj hK
              rw [← hwl] at hA hO hP hV KL ⊢
              clear hwl
              go_wp2_with fail
              refine wp_region_inv (hasJ wl w.heap.size vg vo vcap j B10 B11 BA US O P M U0 Uj) (by kernel_rfl) (by kernel_rfl) (by kernel_rfl) ?_ (Steps.cons 0 ?_ (Steps.cons 1 ?_ (Steps.cons 2 ?_ (Steps.cons 3 ?_ (Steps.cons 4 ?_ (Steps.cons 5 ?_ (Steps.cons 6 ?_ (Steps.cons 7 ?_ (Steps.cons 8 ?_ (Steps.cons 9 ?_ (Steps.cons 10 ?_ (Steps.cons 11 ?_ (Steps.cons 12 ?_ (Steps.cons 13 ?_ (Steps.cons 14 ?_ (Steps.cons 15 ?_ (Steps.cons 16 ?_ (Steps.cons 17 ?_ (Steps.cons 18 ?_ (Steps.cons 19 ?_ (Steps.nil 20))))))))))))))))))))) 20 rfl ?_
              · intro x
                exact ⟨hA.drew, hO.drew, hP.drew, hV.keep ((Keep.refl [] _).drew) (by simp), (Keep.refl _ _).drew, fun h => absurd h (by decide), fun h => absurd h (by decide), fun h => absurd h (by decide), fun h => absurd h (by decide), fun h => absurd h (by decide), fun h => absurd h (by decide), fun h => absurd h (by decide), fun h => absurd h (by decide), fun h => absurd h (by decide), fun h => absurd h (by decide), fun h => absurd h (by decide), fun h => absurd h (by decide), fun h => absurd h (by decide), fun h => absurd h (by decide), fun h => absurd h (by decide), fun h => absurd h (by decide), fun h => absurd h (by decide), fun h => absurd h (by decide), fun h => absurd h (by decide), fun h => absurd h (by decide)⟩
              · intro l x w' hJ hi hd
                obtain ⟨hA, hO, hP, hV, hK, h0, h1, h2, h3, h4, h5, h6, h7, h8, h9, h10, h11, h12, h13, h14, h15, h16, h17, h18, h19⟩ := hJ
                obtain ⟨c0, c1, c2, c3, c4, c5⟩ := v6_cells hA
                refine Runs.of (b := ?bQ0) ?eQ0 ?_
                case eQ0 => simp only [putV, Act.put, List.setIfInBounds_toArray, List.set_cons_zero, List.set_cons_succ]; rfl
                intro K' hK'
                go_simp
                exact hK'.go _ rfl ⟨hA, hO, hP, hV, hK, fun _ => rfl, h1, h2, h3, h4, h5, h6, h7, h8, h9, h10, h11, h12, h13, h14, h15, h16, h17, h18, h19⟩
              · intro l x w' hJ hi hd
                obtain ⟨hA, hO, hP, hV, hK, h0, h1, h2, h3, h4, h5, h6, h7, h8, h9, h10, h11, h12, h13, h14, h15, h16, h17, h18, h19⟩ := hJ
                refine Runs.of (b := ?bQ1) ?eQ1 ?_
                case eQ1 => simp only [putV, Act.put, List.setIfInBounds_toArray, List.set_cons_zero, List.set_cons_succ]; rfl
                intro K' hK'
                go_simp
                exact hK'.go _ rfl ⟨hA, hO, hP, hV, hK, h0, fun _ => rfl, h2, h3, h4, h5, h6, h7, h8, h9, h10, h11, h12, h13, h14, h15, h16, h17, h18, h19⟩
              · intro l x w' hJ hi hd
                obtain ⟨hA, hO, hP, hV, hK, h0, h1, h2, h3, h4, h5, h6, h7, h8, h9, h10, h11, h12, h13, h14, h15, h16, h17, h18, h19⟩ := hJ
                refine Runs.of (b := ?bQ2) ?eQ2 ?_
                case eQ2 => simp only [putV, Act.put, List.setIfInBounds_toArray, List.set_cons_zero, List.set_cons_succ]; rfl
                intro K' hK'
                go_simp
                exact hK'.go _ rfl ⟨hA, hO, hP, hV, hK, h0, h1, fun _ => rfl, h3, h4, h5, h6, h7, h8, h9, h10, h11, h12, h13, h14, h15, h16, h17, h18, h19⟩
              · intro l x w' hJ hi hd
                obtain ⟨hA, hO, hP, hV, hK, h0, h1, h2, h3, h4, h5, h6, h7, h8, h9, h10, h11, h12, h13, h14, h15, h16, h17, h18, h19⟩ := hJ
                have e1 := h1 (show l 1 = true by first | exact hd.1 rfl | exact hd.2.1 rfl | exact hd.2.2.1 rfl | exact hd.2.2.2.1 rfl | exact hd.2.2.2.2.1 rfl | exact hd.2.2.2.2.2.1 rfl)
                have e2 := h2 (show l 2 = true by first | exact hd.1 rfl | exact hd.2.1 rfl | exact hd.2.2.1 rfl | exact hd.2.2.2.1 rfl | exact hd.2.2.2.2.1 rfl | exact hd.2.2.2.2.2.1 rfl)
                refine Runs.of (b := ?bQ3) ?eQ3 ?_
                case eQ3 => simp only [putV, Act.put, List.setIfInBounds_toArray, List.set_cons_zero, List.set_cons_succ, e1, e2]; rfl
                intro K' hK'
                go_simp
                exact hK'.go _ rfl ⟨hA, hO, hP, hV, hK, h0, h1, h2, fun _ => rfl, h4, h5, h6, h7, h8, h9, h10, h11, h12, h13, h14, h15, h16, h17, h18, h19⟩
              · intro l x w' hJ hi hd
                obtain ⟨hA, hO, hP, hV, hK, h0, h1, h2, h3, h4, h5, h6, h7, h8, h9, h10, h11, h12, h13, h14, h15, h16, h17, h18, h19⟩ := hJ
                have e3 := h3 (show l 3 = true by first | exact hd.1 rfl | exact hd.2.1 rfl | exact hd.2.2.1 rfl | exact hd.2.2.2.1 rfl | exact hd.2.2.2.2.1 rfl | exact hd.2.2.2.2.2.1 rfl)
                obtain ⟨c0, c1, c2, c3, c4, c5⟩ := vrow_at hV j HUJ.out
                refine Runs.of (b := ?bQ4) ?eQ4 ?_
                case eQ4 => simp only [putV, Act.put, List.setIfInBounds_toArray, List.set_cons_zero, List.set_cons_succ, e3]; rfl
                intro K' hK'
                go_simp
                exact hK'.go _ rfl ⟨hA, hO, hP, hV, hK, h0, h1, h2, h3, fun _ => rfl, h5, h6, h7, h8, h9, h10, h11, h12, h13, h14, h15, h16, h17, h18, h19⟩
              · intro l x w' hJ hi hd
                obtain ⟨hA, hO, hP, hV, hK, h0, h1, h2, h3, h4, h5, h6, h7, h8, h9, h10, h11, h12, h13, h14, h15, h16, h17, h18, h19⟩ := hJ
                have e0 := h0 (show l 0 = true by first | exact hd.1 rfl | exact hd.2.1 rfl | exact hd.2.2.1 rfl | exact hd.2.2.2.1 rfl | exact hd.2.2.2.2.1 rfl | exact hd.2.2.2.2.2.1 rfl)
                have e4 := h4 (show l 4 = true by first | exact hd.1 rfl | exact hd.2.1 rfl | exact hd.2.2.1 rfl | exact hd.2.2.2.1 rfl | exact hd.2.2.2.2.1 rfl | exact hd.2.2.2.2.2.1 rfl)
                refine Runs.of (b := ?bQ5) ?eQ5 ?_
                case eQ5 => simp only [putV, Act.put, List.setIfInBounds_toArray, List.set_cons_zero, List.set_cons_succ, e0, e4]; rfl
                intro K' hK'
                go_simp
                refine (vHas_any O Uj true HH1.out).mono ?_
                rintro x2 w2 ⟨rfl, k2⟩
                go_simp
                exact hK'.go _ rfl ⟨hA.keep k2 (by simp), hO.keep k2 (by simp), hP.keep k2 (by simp), hV.keep k2 (by simp), hK.trans k2, h0, h1, h2, h3, h4, fun _ => rfl, h6, h7, h8, h9, h10, h11, h12, h13, h14, h15, h16, h17, h18, h19⟩
              · intro l x w' hJ hi hd
                obtain ⟨hA, hO, hP, hV, hK, h0, h1, h2, h3, h4, h5, h6, h7, h8, h9, h10, h11, h12, h13, h14, h15, h16, h17, h18, h19⟩ := hJ
                have e5 := h5 (show l 5 = true by first | exact hd.1 rfl | exact hd.2.1 rfl | exact hd.2.2.1 rfl | exact hd.2.2.2.1 rfl | exact hd.2.2.2.2.1 rfl | exact hd.2.2.2.2.2.1 rfl)
                refine Runs.of (b := ?bQ6) ?eQ6 ?_
                case eQ6 => simp only [putV, Act.put, List.setIfInBounds_toArray, List.set_cons_zero, List.set_cons_succ, e5]; rfl
                intro K' hK'
                go_simp
                exact hK'.go _ rfl ⟨hA, hO, hP, hV, hK, h0, h1, h2, h3, h4, h5, fun _ => rfl, h7, h8, h9, h10, h11, h12, h13, h14, h15, h16, h17, h18, h19⟩
              · intro l x w' hJ hi hd
                obtain ⟨hA, hO, hP, hV, hK, h0, h1, h2, h3, h4, h5, h6, h7, h8, h9, h10, h11, h12, h13, h14, h15, h16, h17, h18, h19⟩ := hJ
                have e6 := h6 (show l 6 = true by first | exact hd.1 rfl | exact hd.2.1 rfl | exact hd.2.2.1 rfl | exact hd.2.2.2.1 rfl | exact hd.2.2.2.2.1 rfl | exact hd.2.2.2.2.2.1 rfl)
                refine Runs.of (b := ?bQ7) ?eQ7 ?_
                case eQ7 => simp only [putV, Act.put, List.setIfInBounds_toArray, List.set_cons_zero, List.set_cons_succ, e6]; rfl
                intro K' hK'
                go_simp
                exact hK'.go _ rfl ⟨hA, hO, hP, hV, hK, h0, h1, h2, h3, h4, h5, h6, fun _ => rfl, h8, h9, h10, h11, h12, h13, h14, h15, h16, h17, h18, h19⟩
              · intro l x w' hJ hi hd
                obtain ⟨hA, hO, hP, hV, hK, h0, h1, h2, h3, h4, h5, h6, h7, h8, h9, h10, h11, h12, h13, h14, h15, h16, h17, h18, h19⟩ := hJ
                have e7 := h7 (show l 7 = true by first | exact hd.1 rfl | exact hd.2.1 rfl | exact hd.2.2.1 rfl | exact hd.2.2.2.1 rfl | exact hd.2.2.2.2.1 rfl | exact hd.2.2.2.2.2.1 rfl)
                refine Runs.of (b := ?bQ8) ?eQ8 ?_
                case eQ8 => simp only [putV, Act.put, List.setIfInBounds_toArray, List.set_cons_zero, List.set_cons_succ, e7]; rfl
                intro K' hK'
                go_simp
                exact hK'.go _ rfl ⟨hA, hO, hP, hV, hK, h0, h1, h2, h3, h4, h5, h6, h7, fun _ => rfl, h9, h10, h11, h12, h13, h14, h15, h16, h17, h18, h19⟩
              · intro l x w' hJ hi hd
                obtain ⟨hA, hO, hP, hV, hK, h0, h1, h2, h3, h4, h5, h6, h7, h8, h9, h10, h11, h12, h13, h14, h15, h16, h17, h18, h19⟩ := hJ
                have e7 := h7 (show l 7 = true by first | exact hd.1 rfl | exact hd.2.1 rfl | exact hd.2.2.1 rfl | exact hd.2.2.2.1 rfl | exact hd.2.2.2.2.1 rfl | exact hd.2.2.2.2.2.1 rfl)
                refine Runs.of (b := ?bQ9) ?eQ9 ?_
                case eQ9 => simp only [putV, Act.put, List.setIfInBounds_toArray, List.set_cons_zero, List.set_cons_succ, e7]; rfl
                intro K' hK'
                go_simp
                exact hK'.go _ rfl ⟨hA, hO, hP, hV, hK, h0, h1, h2, h3, h4, h5, h6, h7, h8, fun _ => rfl, h10, h11, h12, h13, h14, h15, h16, h17, h18, h19⟩
              · intro l x w' hJ hi hd
                obtain ⟨hA, hO, hP, hV, hK, h0, h1, h2, h3, h4, h5, h6, h7, h8, h9, h10, h11, h12, h13, h14, h15, h16, h17, h18, h19⟩ := hJ
                have e7 := h7 (show l 7 = true by first | exact hd.1 rfl | exact hd.2.1 rfl | exact hd.2.2.1 rfl | exact hd.2.2.2.1 rfl | exact hd.2.2.2.2.1 rfl | exact hd.2.2.2.2.2.1 rfl)
                have e8 := h8 (show l 8 = true by first | exact hd.1 rfl | exact hd.2.1 rfl | exact hd.2.2.1 rfl | exact hd.2.2.2.1 rfl | exact hd.2.2.2.2.1 rfl | exact hd.2.2.2.2.2.1 rfl)
                have e9 := h9 (show l 9 = true by first | exact hd.1 rfl | exact hd.2.1 rfl | exact hd.2.2.1 rfl | exact hd.2.2.2.1 rfl | exact hd.2.2.2.2.1 rfl | exact hd.2.2.2.2.2.1 rfl)
                refine Runs.of (b := ?bQ10) ?eQ10 ?_
                case eQ10 => simp only [putV, Act.put, List.setIfInBounds_toArray, List.set_cons_zero, List.set_cons_succ, e7, e8, e9]; rfl
                intro K' hK'
                go_simp
                exact hK'.go _ rfl ⟨hA, hO, hP, hV, hK, h0, h1, h2, h3, h4, h5, h6, h7, h8, h9, fun _ => rfl, h11, h12, h13, h14, h15, h16, h17, h18, h19⟩
              · intro l x w' hJ hi hd
                obtain ⟨hA, hO, hP, hV, hK, h0, h1, h2, h3, h4, h5, h6, h7, h8, h9, h10, h11, h12, h13, h14, h15, h16, h17, h18, h19⟩ := hJ
                have e7 := h7 (show l 7 = true by first | exact hd.1 rfl | exact hd.2.1 rfl | exact hd.2.2.1 rfl | exact hd.2.2.2.1 rfl | exact hd.2.2.2.2.1 rfl | exact hd.2.2.2.2.2.1 rfl)
                have e10 := h10 (show l 10 = true by first | exact hd.1 rfl | exact hd.2.1 rfl | exact hd.2.2.1 rfl | exact hd.2.2.2.1 rfl | exact hd.2.2.2.2.1 rfl | exact hd.2.2.2.2.2.1 rfl)
                obtain ⟨c0, c1, c2, c3, c4, c5⟩ := vrow_at hV j HUJ.out
                refine Runs.of (b := ?bQ11) ?eQ11 ?_
                case eQ11 => simp only [putV, Act.put, List.setIfInBounds_toArray, List.set_cons_zero, List.set_cons_succ, e7, e10]; rfl
                intro K' hK'
                go_simp
                exact hK'.go _ rfl ⟨hA, hO, hP, hV, hK, h0, h1, h2, h3, h4, h5, h6, h7, h8, h9, h10, fun _ => rfl, h12, h13, h14, h15, h16, h17, h18, h19⟩
              · intro l x w' hJ hi hd
                obtain ⟨hA, hO, hP, hV, hK, h0, h1, h2, h3, h4, h5, h6, h7, h8, h9, h10, h11, h12, h13, h14, h15, h16, h17, h18, h19⟩ := hJ
                have e7 := h7 (show l 7 = true by first | exact hd.1 rfl | exact hd.2.1 rfl | exact hd.2.2.1 rfl | exact hd.2.2.2.1 rfl | exact hd.2.2.2.2.1 rfl | exact hd.2.2.2.2.2.1 rfl)
                refine Runs.of (b := ?bQ12) ?eQ12 ?_
                case eQ12 => simp only [putV, Act.put, List.setIfInBounds_toArray, List.set_cons_zero, List.set_cons_succ, e7]; rfl
                intro K' hK'
                go_simp
                exact hK'.go _ rfl ⟨hA, hO, hP, hV, hK, h0, h1, h2, h3, h4, h5, h6, h7, h8, h9, h10, h11, fun _ => rfl, h13, h14, h15, h16, h17, h18, h19⟩
              · intro l x w' hJ hi hd
                obtain ⟨hA, hO, hP, hV, hK, h0, h1, h2, h3, h4, h5, h6, h7, h8, h9, h10, h11, h12, h13, h14, h15, h16, h17, h18, h19⟩ := hJ
                have e7 := h7 (show l 7 = true by first | exact hd.1 rfl | exact hd.2.1 rfl | exact hd.2.2.1 rfl | exact hd.2.2.2.1 rfl | exact hd.2.2.2.2.1 rfl | exact hd.2.2.2.2.2.1 rfl)
                have e12 := h12 (show l 12 = true by first | exact hd.1 rfl | exact hd.2.1 rfl | exact hd.2.2.1 rfl | exact hd.2.2.2.1 rfl | exact hd.2.2.2.2.1 rfl | exact hd.2.2.2.2.2.1 rfl)
                refine Runs.of (b := ?bQ13) ?eQ13 ?_
                case eQ13 => simp only [putV, Act.put, List.setIfInBounds_toArray, List.set_cons_zero, List.set_cons_succ, e7, e12]; rfl
                intro K' hK'
                go_simp
                exact hK'.go _ rfl ⟨hA, hO, hP, hV, hK, h0, h1, h2, h3, h4, h5, h6, h7, h8, h9, h10, h11, h12, fun _ => rfl, h14, h15, h16, h17, h18, h19⟩
              · intro l x w' hJ hi hd
                obtain ⟨hA, hO, hP, hV, hK, h0, h1, h2, h3, h4, h5, h6, h7, h8, h9, h10, h11, h12, h13, h14, h15, h16, h17, h18, h19⟩ := hJ
                have e7 := h7 (show l 7 = true by first | exact hd.1 rfl | exact hd.2.1 rfl | exact hd.2.2.1 rfl | exact hd.2.2.2.1 rfl | exact hd.2.2.2.2.1 rfl | exact hd.2.2.2.2.2.1 rfl)
                have e13 := h13 (show l 13 = true by first | exact hd.1 rfl | exact hd.2.1 rfl | exact hd.2.2.1 rfl | exact hd.2.2.2.1 rfl | exact hd.2.2.2.2.1 rfl | exact hd.2.2.2.2.2.1 rfl)
                obtain ⟨c0, c1, c2, c3, c4, c5⟩ := vrow0 hV HU0.out
                refine Runs.of (b := ?bQ14) ?eQ14 ?_
                case eQ14 => simp only [putV, Act.put, List.setIfInBounds_toArray, List.set_cons_zero, List.set_cons_succ, e7, e13]; rfl
                intro K' hK'
                go_simp
                exact hK'.go _ rfl ⟨hA, hO, hP, hV, hK, h0, h1, h2, h3, h4, h5, h6, h7, h8, h9, h10, h11, h12, h13, fun _ => rfl, h15, h16, h17, h18, h19⟩
              · intro l x w' hJ hi hd
                obtain ⟨hA, hO, hP, hV, hK, h0, h1, h2, h3, h4, h5, h6, h7, h8, h9, h10, h11, h12, h13, h14, h15, h16, h17, h18, h19⟩ := hJ
                have e7 := h7 (show l 7 = true by first | exact hd.1 rfl | exact hd.2.1 rfl | exact hd.2.2.1 rfl | exact hd.2.2.2.1 rfl | exact hd.2.2.2.2.1 rfl | exact hd.2.2.2.2.2.1 rfl)
                refine Runs.of (b := ?bQ15) ?eQ15 ?_
                case eQ15 => simp only [putV, Act.put, List.setIfInBounds_toArray, List.set_cons_zero, List.set_cons_succ, e7]; rfl
                intro K' hK'
                go_simp
                exact hK'.go _ rfl ⟨hA, hO, hP, hV, hK, h0, h1, h2, h3, h4, h5, h6, h7, h8, h9, h10, h11, h12, h13, h14, fun _ => rfl, h16, h17, h18, h19⟩
              · intro l x w' hJ hi hd
                obtain ⟨hA, hO, hP, hV, hK, h0, h1, h2, h3, h4, h5, h6, h7, h8, h9, h10, h11, h12, h13, h14, h15, h16, h17, h18, h19⟩ := hJ
                have e7 := h7 (show l 7 = true by first | exact hd.1 rfl | exact hd.2.1 rfl | exact hd.2.2.1 rfl | exact hd.2.2.2.1 rfl | exact hd.2.2.2.2.1 rfl | exact hd.2.2.2.2.2.1 rfl)
                have e14 := h14 (show l 14 = true by first | exact hd.1 rfl | exact hd.2.1 rfl | exact hd.2.2.1 rfl | exact hd.2.2.2.1 rfl | exact hd.2.2.2.2.1 rfl | exact hd.2.2.2.2.2.1 rfl)
                have e15 := h15 (show l 15 = true by first | exact hd.1 rfl | exact hd.2.1 rfl | exact hd.2.2.1 rfl | exact hd.2.2.2.1 rfl | exact hd.2.2.2.2.1 rfl | exact hd.2.2.2.2.2.1 rfl)
                refine Runs.of (b := ?bQ16) ?eQ16 ?_
                case eQ16 => simp only [putV, Act.put, List.setIfInBounds_toArray, List.set_cons_zero, List.set_cons_succ, e7, e14, e15]; rfl
                intro K' hK'
                go_simp
                refine (vMin_any U0 _ US hV.rd (by omega)).mono ?_
                rintro x2 w2 ⟨rfl, k2⟩
                rw [show vminN U0 US US.length = M from HM.out]
                go_simp
                exact hK'.go (vec M) rfl ⟨hA.keep k2 (by simp), hO.keep k2 (by simp), hP.keep k2 (by simp), hV.keep k2 (by simp), hK.trans k2, h0, h1, h2, h3, h4, h5, h6, h7, h8, h9, h10, h11, h12, h13, h14, h15, fun _ => rfl, h17, h18, h19⟩
              · intro l x w' hJ hi hd
                obtain ⟨hA, hO, hP, hV, hK, h0, h1, h2, h3, h4, h5, h6, h7, h8, h9, h10, h11, h12, h13, h14, h15, h16, h17, h18, h19⟩ := hJ
                have e7 := h7 (show l 7 = true by first | exact hd.1 rfl | exact hd.2.1 rfl | exact hd.2.2.1 rfl | exact hd.2.2.2.1 rfl | exact hd.2.2.2.2.1 rfl | exact hd.2.2.2.2.2.1 rfl)
                have e11 := h11 (show l 11 = true by first | exact hd.1 rfl | exact hd.2.1 rfl | exact hd.2.2.1 rfl | exact hd.2.2.2.1 rfl | exact hd.2.2.2.2.1 rfl | exact hd.2.2.2.2.2.1 rfl)
                have e16 := h16 (show l 16 = true by first | exact hd.1 rfl | exact hd.2.1 rfl | exact hd.2.2.1 rfl | exact hd.2.2.2.1 rfl | exact hd.2.2.2.2.1 rfl | exact hd.2.2.2.2.2.1 rfl)
                refine Runs.of (b := ?bQ17) ?eQ17 ?_
                case eQ17 => simp only [putV, Act.put, List.setIfInBounds_toArray, List.set_cons_zero, List.set_cons_succ, e7, e11, e16]; rfl
                intro K' hK'
                go_simp
                refine (vHas_any Uj M true HH2.out).mono ?_
                rintro x2 w2 ⟨rfl, k2⟩
                go_simp
                exact hK'.go _ rfl ⟨hA.keep k2 (by simp), hO.keep k2 (by simp), hP.keep k2 (by simp), hV.keep k2 (by simp), hK.trans k2, h0, h1, h2, h3, h4, h5, h6, h7, h8, h9, h10, h11, h12, h13, h14, h15, h16, fun _ => rfl, h18, h19⟩
              · intro l x w' hJ hi hd
                obtain ⟨hA, hO, hP, hV, hK, h0, h1, h2, h3, h4, h5, h6, h7, h8, h9, h10, h11, h12, h13, h14, h15, h16, h17, h18, h19⟩ := hJ
                have e7 := h7 (show l 7 = true by first | exact hd.1 rfl | exact hd.2.1 rfl | exact hd.2.2.1 rfl | exact hd.2.2.2.1 rfl | exact hd.2.2.2.2.1 rfl | exact hd.2.2.2.2.2.1 rfl)
                have e17 := h17 (show l 17 = true by first | exact hd.1 rfl | exact hd.2.1 rfl | exact hd.2.2.1 rfl | exact hd.2.2.2.1 rfl | exact hd.2.2.2.2.1 rfl | exact hd.2.2.2.2.2.1 rfl)
                refine Runs.of (b := ?bQ18) ?eQ18 ?_
                case eQ18 => simp only [putV, Act.put, List.setIfInBounds_toArray, List.set_cons_zero, List.set_cons_succ, e7, e17]; rfl
                intro K' hK'
                go_simp
                exact hK'.go _ rfl ⟨hA, hO, hP, hV, hK, h0, h1, h2, h3, h4, h5, h6, h7, h8, h9, h10, h11, h12, h13, h14, h15, h16, h17, fun _ => rfl, h19⟩
              · intro l x w' hJ hi hd
                obtain ⟨hA, hO, hP, hV, hK, h0, h1, h2, h3, h4, h5, h6, h7, h8, h9, h10, h11, h12, h13, h14, h15, h16, h17, h18, h19⟩ := hJ
                have e7 := h7 (show l 7 = true by first | exact hd.1 rfl | exact hd.2.1 rfl | exact hd.2.2.1 rfl | exact hd.2.2.2.1 rfl | exact hd.2.2.2.2.1 rfl | exact hd.2.2.2.2.2.1 rfl)
                have e18 := h18 (show l 18 = true by first | exact hd.1 rfl | exact hd.2.1 rfl | exact hd.2.2.1 rfl | exact hd.2.2.2.1 rfl | exact hd.2.2.2.2.1 rfl | exact hd.2.2.2.2.2.1 rfl)
                refine Runs.of (b := ?bQ19) ?eQ19 ?_
                case eQ19 => simp only [putV, Act.put, List.setIfInBounds_toArray, List.set_cons_zero, List.set_cons_succ, e7, e18]; rfl
                intro K' hK'
                go_simp
                exact hK'.go _ rfl ⟨hA, hO, hP, hV, hK, h0, h1, h2, h3, h4, h5, h6, h7, h8, h9, h10, h11, h12, h13, h14, h15, h16, h17, h18, fun _ => rfl⟩
              · intro l x w3 hJ hl
                obtain ⟨hA, hO, hP, hV, hK, h0, h1, h2, h3, h4, h5, h6, h7, h8, h9, h10, h11, h12, h13, h14, h15, h16, h17, h18, h19⟩ := hJ
                have e19 := h19 (hl 19 (by decide))
                simp only [putV, Act.put, List.setIfInBounds_toArray, List.set_cons_zero, List.set_cons_succ, e19]
                have K9 := KL.out.trans hK
                clear h0 h1 h2 h3 h4 h5 h6 h7 h8 h9 h10 h11 h12 h13 h14 h15 h16 h17 h18 h19 e19 hl hK
                go_wp2_with fail
                go_roundw
                case rel => exact ⟨j + 1, by omega, by go_num, hA, hO, hP, hV, K9⟩
                case measure => simp [intOf]; omega
          have p2 : (j : Int) < US.length := by omega
          obtain ⟨Uj, hUj⟩ : ∃ u, US[j]? = some u := ⟨_, List.getElem?_eq_getElem hlt⟩
          have HUJ := Lib.hid hUj
          obtain ⟨X, hX⟩ : ∃ X, vmaxN O [Uj] [Uj].length = X := ⟨_, rfl⟩
          have HX := Lib.hid hX
          have HBB := Lib.hid (show B10 < wr.heap.size ∧ B11 < wr.heap.size ∧ B10 ≠ B11 from ⟨hO.lt, hP.lt, HBX.out.2.2⟩)
          clear hUj hX
          go_wp2_with fail
          refine wp_region_inv (oneJ wr w.heap.size vg vo vcap j B10 B11 US O P X Uj) (by kernel_rfl) (by kernel_rfl) (by kernel_rfl) ?_ (Steps.cons 0 ?_ (Steps.cons 1 ?_ (Steps.cons 2 ?_ (Steps.cons 3 ?_ (Steps.cons 4 ?_ (Steps.cons 5 ?_ (Steps.cons 6 ?_ (Steps.cons 7 ?_ (Steps.nil 8))))))))) 8 rfl ?_
          · intro x
            exact ⟨0, hO.drew, hP.drew, hV.keep ((Keep.refl [] _).drew) (by simp), (Keep.refl _ _).drew, fun h => absurd h (by decide), fun h => absurd h (by decide), fun h => absurd h (by decide), fun h => absurd h (by decide), fun h => absurd h (by decide), fun h => absurd h (by decide), fun h => absurd h (by decide), fun h => absurd h (by decide), fun h => absurd h (by decide), fun h => absurd h (by decide)⟩
          · intro l x w' hJ hi hd
            obtain ⟨B5, hC, hP, hV, hK, d7, hb5, h0, h1, h2, h3, h4, h5, h6, h7⟩ := hJ
            have l7 : l 7 = false := by cases h : l 7 with | false => rfl | true => have := d7 h; rw [hi] at this; cases this
            have hD := hC
            rw [l7, if_neg (by decide)] at hD
            obtain ⟨c0, c1, c2, c3, c4, c5⟩ := v6_cells hD
            refine Runs.of (b := ?bN0) ?eN0 ?_
            case eN0 => simp only [putV, Act.put, List.setIfInBounds_toArray, List.set_cons_zero, List.set_cons_succ]; rfl
            intro K' hK'
            go_simp
            exact hK'.go _ rfl ⟨B5, hC, hP, hV, hK, fun _ => rfl, hb5, fun _ => rfl, h1, h2, h3, h4, h5, fun h => ⟨(h6 h).1, Lib.hid rfl⟩, h7⟩
          · intro l x w' hJ hi hd
            obtain ⟨B5, hC, hP, hV, hK, d7, hb5, h0, h1, h2, h3, h4, h5, h6, h7⟩ := hJ
            refine Runs.of (b := ?bN1) ?eN1 ?_
            case eN1 => simp only [putV, Act.put, List.setIfInBounds_toArray, List.set_cons_zero, List.set_cons_succ]; rfl
            intro K' hK'
            go_simp
            exact hK'.go _ rfl ⟨B5, hC, hP, hV, hK, d7, hb5, h0, fun _ => rfl, h2, h3, h4, h5, h6, h7⟩
          · intro l x w' hJ hi hd
            obtain ⟨B5, hC, hP, hV, hK, d7, hb5, h0, h1, h2, h3, h4, h5, h6, h7⟩ := hJ
            refine Runs.of (b := ?bN2) ?eN2 ?_
            case eN2 => simp only [putV, Act.put, List.setIfInBounds_toArray, List.set_cons_zero, List.set_cons_succ]; rfl
            intro K' hK'
            go_simp
            exact hK'.go _ rfl ⟨B5, hC, hP, hV, hK, d7, hb5, h0, h1, fun _ => rfl, h3, h4, h5, h6, h7⟩
          · intro l x w' hJ hi hd
            obtain ⟨B5, hC, hP, hV, hK, d7, hb5, h0, h1, h2, h3, h4, h5, h6, h7⟩ := hJ
            have e1 := h1 (show l 1 = true by first | exact hd.1 rfl | exact hd.2.1 rfl | exact hd.2.2.1 rfl | exact hd.2.2.2.1 rfl | exact hd.2.2.2.2.1 rfl | exact hd.2.2.2.2.2.1 rfl)
            have e2 := h2 (show l 2 = true by first | exact hd.1 rfl | exact hd.2.1 rfl | exact hd.2.2.1 rfl | exact hd.2.2.2.1 rfl | exact hd.2.2.2.2.1 rfl | exact hd.2.2.2.2.2.1 rfl)
            refine Runs.of (b := ?bN3) ?eN3 ?_
            case eN3 => simp only [putV, Act.put, List.setIfInBounds_toArray, List.set_cons_zero, List.set_cons_succ, e1, e2]; rfl
            intro K' hK'
            go_simp
            exact hK'.go _ rfl ⟨B5, hC, hP, hV, hK, d7, hb5, h0, h1, h2, fun _ => rfl, h4, h5, h6, h7⟩
          · intro l x w' hJ hi hd
            obtain ⟨B5, hC, hP, hV, hK, d7, hb5, h0, h1, h2, h3, h4, h5, h6, h7⟩ := hJ
            have e3 := h3 (show l 3 = true by first | exact hd.1 rfl | exact hd.2.1 rfl | exact hd.2.2.1 rfl | exact hd.2.2.2.1 rfl | exact hd.2.2.2.2.1 rfl | exact hd.2.2.2.2.2.1 rfl)
            obtain ⟨c0, c1, c2, c3, c4, c5⟩ := vrow_at hV j HUJ.out
            refine Runs.of (b := ?bN4) ?eN4 ?_
            case eN4 => simp only [putV, Act.put, List.setIfInBounds_toArray, List.set_cons_zero, List.set_cons_succ, e3]; rfl
            intro K' hK'
            go_simp
            exact hK'.go _ rfl ⟨B5, hC, hP, hV, hK, d7, hb5, h0, h1, h2, h3, fun _ => rfl, h5, h6, h7⟩
          · intro l x w' hJ hi hd
            obtain ⟨B5, hC, hP, hV, hK, d7, hb5, h0, h1, h2, h3, h4, h5, h6, h7⟩ := hJ
            have e4 := h4 (show l 4 = true by first | exact hd.1 rfl | exact hd.2.1 rfl | exact hd.2.2.1 rfl | exact hd.2.2.2.1 rfl | exact hd.2.2.2.2.1 rfl | exact hd.2.2.2.2.2.1 rfl)
            refine Runs.of (b := ?bN5) ?eN5 ?_
            case eN5 => simp only [putV, Act.put, List.setIfInBounds_toArray, List.set_cons_zero, List.set_cons_succ, e4]; rfl
            intro K' hK'
            go_simp
            exact hK'.go _ rfl ⟨w'.heap.size, hC.alloc _, hP.alloc _, hV.alloc _, hK.alloc _, d7, fun _ => hK.size, h0, h1, h2, h3, h4, fun _ => ⟨rfl, Blk.new _ (v6 Uj) _⟩, h6, h7⟩
          · intro l x w' hJ hi hd
            obtain ⟨B5, hC, hP, hV, hK, d7, hb5, h0, h1, h2, h3, h4, h5, h6, h7⟩ := hJ
            have e0 := h0 (show l 0 = true by first | exact hd.1 rfl | exact hd.2.1 rfl | exact hd.2.2.1 rfl | exact hd.2.2.2.1 rfl | exact hd.2.2.2.2.1 rfl | exact hd.2.2.2.2.2.1 rfl)
            have e5 := h5 (show l 5 = true by first | exact hd.1 rfl | exact hd.2.1 rfl | exact hd.2.2.1 rfl | exact hd.2.2.2.1 rfl | exact hd.2.2.2.2.1 rfl | exact hd.2.2.2.2.2.1 rfl)
            have D0 := Lib.hid (show l 0 = true by first | exact hd.1 rfl | exact hd.2.1 rfl | exact hd.2.2.1 rfl | exact hd.2.2.2.1 rfl | exact hd.2.2.2.2.1 rfl | exact hd.2.2.2.2.2.1 rfl)
            refine Runs.of (b := ?bN6) ?eN6 ?_
            case eN6 => simp only [putV, Act.put, List.setIfInBounds_toArray, List.set_cons_zero, List.set_cons_succ, e0, e5.1]; rfl
            intro K' hK'
            go_simp
            refine (vMax_any O _ [Uj] (blk_vecs e5.2) (by simp)).mono ?_
            rintro x2 w2 ⟨rfl, k2⟩
            rw [show vmaxN O [Uj] [Uj].length = X from HX.out]
            go_simp
            exact hK'.go (vec X) rfl ⟨B5, hC.keep k2 (by simp), hP.keep k2 (by simp), hV.keep k2 (by simp), hK.trans (k2.mono (by simp)), d7, hb5, h0, h1, h2, h3, h4, fun h => ⟨(h5 h).1, (h5 h).2.keep k2 (by simp)⟩, fun _ => ⟨rfl, D0⟩, h7⟩
          · intro l x w' hJ hi hd
            obtain ⟨B5, hC, hP, hV, hK, d7, hb5, h0, h1, h2, h3, h4, h5, h6, h7⟩ := hJ
            have e6 := h6 (show l 6 = true by first | exact hd.1 rfl | exact hd.2.1 rfl | exact hd.2.2.1 rfl | exact hd.2.2.2.1 rfl | exact hd.2.2.2.2.1 rfl | exact hd.2.2.2.2.2.1 rfl)
            have hD := hC
            rw [hi, if_neg (by decide)] at hD
            obtain ⟨z0, z1, z2, z3, z4, z5⟩ := v6_cells hD
            have f0 := hD.free 0
            have f1 := hD.free 1
            have f2 := hD.free 2
            have f3 := hD.free 3
            have f4 := hD.free 4
            have f5 := hD.free 5
            refine Runs.of (b := ?bN7) ?eN7 ?_
            case eN7 => simp only [putV, Act.put, List.setIfInBounds_toArray, List.set_cons_zero, List.set_cons_succ, e6.1]; rfl
            intro K' hK'
            go_simp
            have hSet : Blk ((((((w'.setCell ⟨B10, 0, none⟩ (.int .i64 (X 0))).setCell ⟨B10, 1, none⟩ (.int .i64 (X 1))).setCell ⟨B10, 2, none⟩ (.int .i64 (X 2))).setCell ⟨B10, 3, none⟩ (.int .i64 (X 3))).setCell ⟨B10, 4, none⟩ (.int .i64 (X 4))).setCell ⟨B10, 5, none⟩ (.int .i64 (X 5))) B10 (v6 X) 26 := (((((hD.set 0 (.int .i64 (X 0))).set 1 (.int .i64 (X 1))).set 2 (.int .i64 (X 2))).set 3 (.int .i64 (X 3))).set 4 (.int .i64 (X 4))).set 5 (.int .i64 (X 5))
            have hkS : Keep [B10] w' ((((((w'.setCell ⟨B10, 0, none⟩ (.int .i64 (X 0))).setCell ⟨B10, 1, none⟩ (.int .i64 (X 1))).setCell ⟨B10, 2, none⟩ (.int .i64 (X 2))).setCell ⟨B10, 3, none⟩ (.int .i64 (X 3))).setCell ⟨B10, 4, none⟩ (.int .i64 (X 4))).setCell ⟨B10, 5, none⟩ (.int .i64 (X 5))) := ((((((Keep.refl _ _).setCell (.inl (by simp)) _).setCell (.inl (by simp)) _).setCell (.inl (by simp)) _).setCell (.inl (by simp)) _).setCell (.inl (by simp)) _).setCell (.inl (by simp)) _
            have hbb := HBB.out
            exact hK'.go undef rfl ⟨B5, hSet, hP.keep hkS (by simp; omega), hV.keep hkS (fun q hq hm => by have := HVN.out q hq; simp at hm; omega), hK.trans hkS, fun _ => e6.2.out, hb5, h0, h1, h2, h3, h4, fun h => ⟨(h5 h).1, (h5 h).2.keep hkS (by have := hb5 h; simp; omega)⟩, h6, fun _ => trivial⟩
          · intro l x w3 hJ hl
            obtain ⟨B5, hC, hP, hV, hK, d7, hb5, h0, h1, h2, h3, h4, h5, h6, h7⟩ := hJ
            clear h0 h1 h2 h3 h4 h5 h6 h7 d7 hb5
            rw [hl 7 (by decide), if_pos rfl] at hC
            simp only [putV, Act.put, List.setIfInBounds_toArray, List.set_cons_zero, List.set_cons_succ]
            clear hl
            obtain ⟨w5, hw5⟩ : ∃ W : World, W = w3 := ⟨_, rfl⟩
            rw [← hw5] at hC hP hV hK ⊢
            clear hw5
            have hO5 := hC
            have hP5 := hP
            have hV5 := hV
            have hz5 := hK.size
            have KW5 := Lib.hid hK
            obtain ⟨r2, hr2⟩ : ∃ r2, r2 = (j + r) % US.length := ⟨_, rfl⟩
            have hr2l : r2 < US.length := by rw [hr2]; exact Nat.mod_lt _ hn8.1
            have hrem2 : ((j : Int) + (r : Int)).tmod (US.length : Int) = (r2 : Int) := by
              have e : ((j : Int) + (r : Int)) = ((j + r : Nat) : Int) := by omega
              rw [e, Int.tmod_eq_emod_of_nonneg (by omega), hr2]
              exact (Int.natCast_emod _ _).symm
            obtain ⟨U2, hU2⟩ : ∃ u, US[r2]? = some u := ⟨_, List.getElem?_eq_getElem hr2l⟩
            have HU2 := Lib.hid hU2
            obtain ⟨Y, hY⟩ : ∃ Y, vmaxN P [U2] [U2].length = Y := ⟨_, rfl⟩
            have HY := Lib.hid hY
            have HR2 := Lib.hid hr2
            have HB2 := Lib.hid (show B10 < w5.heap.size ∧ B11 < w5.heap.size from ⟨hC.lt, hP.lt⟩)
            have r6 : (r2 : Int) < US.length := by omega
            clear hU2 hY hr2 hC hP hV hK
            go_wp2_with fail
            refine wp_region_inv (othJ w5 w.heap.size vg vo vcap j R r r2 B10 B11 US P X Y U2) (by kernel_rfl) (by kernel_rfl) (by kernel_rfl) ?_ (Steps.cons 0 ?_ (Steps.cons 1 ?_ (Steps.cons 2 ?_ (Steps.cons 3 ?_ (Steps.cons 4 ?_ (Steps.cons 5 ?_ (Steps.cons 6 ?_ (Steps.cons 7 ?_ (Steps.cons 8 ?_ (Steps.cons 9 ?_ (Steps.cons 10 ?_ (Steps.cons 11 ?_ (Steps.cons 12 ?_ (Steps.cons 13 ?_ (Steps.cons 14 ?_ (Steps.cons 15 ?_ (Steps.nil 16))))))))))))))))) 16 rfl ?_
            · intro x
              exact ⟨0, hP5.drew, hO5.drew, hV5.keep ((Keep.refl [] _).drew) (by simp), (Keep.refl _ _).drew, fun h => absurd h (by decide), fun h => absurd h (by decide), fun h => absurd h (by decide), fun h => absurd h (by decide), fun h => absurd h (by decide), fun h => absurd h (by decide), fun h => absurd h (by decide), fun h => absurd h (by decide), fun h => absurd h (by decide), fun h => absurd h (by decide), fun h => absurd h (by decide), fun h => absurd h (by decide), fun h => absurd h (by decide), fun h => absurd h (by decide), fun h => absurd h (by decide), fun h => absurd h (by decide), fun h => absurd h (by decide), fun h => absurd h (by decide)⟩
            · intro l x w' hJ hi hd
              obtain ⟨B5, hC, hP, hV, hK, d15, hb5, h0, h1, h2, h3, h4, h5, h6, h7, h8, h9, h10, h11, h12, h13, h14, h15⟩ := hJ
              have l15 : l 15 = false := by cases h : l 15 with | false => rfl | true => have := d15 h; rw [hi] at this; cases this
              have hD := hC
              rw [l15, if_neg (by decide)] at hD
              obtain ⟨c0, c1, c2, c3, c4, c5⟩ := v6_cells hD
              refine Runs.of (b := ?bH0) ?eH0 ?_
              case eH0 => simp only [putV, Act.put, List.setIfInBounds_toArray, List.set_cons_zero, List.set_cons_succ]; rfl
              intro K' hK'
              go_simp
              exact hK'.go _ rfl ⟨B5, hC, hP, hV, hK, fun _ => rfl, hb5, fun _ => rfl, h1, h2, h3, h4, h5, h6, h7, h8, h9, h10, h11, h12, h13, fun h => ⟨(h14 h).1, Lib.hid rfl⟩, h15⟩
            · intro l x w' hJ hi hd
              obtain ⟨B5, hC, hP, hV, hK, d15, hb5, h0, h1, h2, h3, h4, h5, h6, h7, h8, h9, h10, h11, h12, h13, h14, h15⟩ := hJ
              refine Runs.of (b := ?bH1) ?eH1 ?_
              case eH1 => simp only [putV, Act.put, List.setIfInBounds_toArray, List.set_cons_zero, List.set_cons_succ]; rfl
              intro K' hK'
              go_simp
              exact hK'.go _ rfl ⟨B5, hC, hP, hV, hK, d15, hb5, h0, fun _ => rfl, h2, h3, h4, h5, h6, h7, h8, h9, h10, h11, h12, h13, h14, h15⟩
            · intro l x w' hJ hi hd
              obtain ⟨B5, hC, hP, hV, hK, d15, hb5, h0, h1, h2, h3, h4, h5, h6, h7, h8, h9, h10, h11, h12, h13, h14, h15⟩ := hJ
              refine Runs.of (b := ?bH2) ?eH2 ?_
              case eH2 => simp only [putV, Act.put, List.setIfInBounds_toArray, List.set_cons_zero, List.set_cons_succ]; rfl
              intro K' hK'
              go_simp
              exact hK'.go _ rfl ⟨B5, hC, hP, hV, hK, d15, hb5, h0, h1, fun _ => rfl, h3, h4, h5, h6, h7, h8, h9, h10, h11, h12, h13, h14, h15⟩
            · intro l x w' hJ hi hd
              obtain ⟨B5, hC, hP, hV, hK, d15, hb5, h0, h1, h2, h3, h4, h5, h6, h7, h8, h9, h10, h11, h12, h13, h14, h15⟩ := hJ
              refine Runs.of (b := ?bH3) ?eH3 ?_
              case eH3 => simp only [putV, Act.put, List.setIfInBounds_toArray, List.set_cons_zero, List.set_cons_succ]; rfl
              intro K' hK'
              go_simp
              exact hK'.go _ rfl ⟨B5, hC, hP, hV, hK, d15, hb5, h0, h1, h2, fun _ => rfl, h4, h5, h6, h7, h8, h9, h10, h11, h12, h13, h14, h15⟩
            · intro l x w' hJ hi hd
              obtain ⟨B5, hC, hP, hV, hK, d15, hb5, h0, h1, h2, h3, h4, h5, h6, h7, h8, h9, h10, h11, h12, h13, h14, h15⟩ := hJ
              refine Runs.of (b := ?bH4) ?eH4 ?_
              case eH4 => simp only [putV, Act.put, List.setIfInBounds_toArray, List.set_cons_zero, List.set_cons_succ]; rfl
              intro K' hK'
              go_simp
              exact hK'.go _ rfl ⟨B5, hC, hP, hV, hK, d15, hb5, h0, h1, h2, h3, fun _ => rfl, h5, h6, h7, h8, h9, h10, h11, h12, h13, h14, h15⟩
            · intro l x w' hJ hi hd
              obtain ⟨B5, hC, hP, hV, hK, d15, hb5, h0, h1, h2, h3, h4, h5, h6, h7, h8, h9, h10, h11, h12, h13, h14, h15⟩ := hJ
              have e4 := h4 (show l 4 = true by first | exact hd.1 rfl | exact hd.2.1 rfl | exact hd.2.2.1 rfl | exact hd.2.2.2.1 rfl | exact hd.2.2.2.2.1 rfl | exact hd.2.2.2.2.2.1 rfl)
              refine Runs.of (b := ?bH5) ?eH5 ?_
              case eH5 => simp only [putV, Act.put, List.setIfInBounds_toArray, List.set_cons_zero, List.set_cons_succ, e4]; rfl
              intro K' hK'
              go_simp
              exact hK'.go _ rfl ⟨B5, hC, hP, hV, hK, d15, hb5, h0, h1, h2, h3, h4, fun _ => rfl, h6, h7, h8, h9, h10, h11, h12, h13, h14, h15⟩
            · intro l x w' hJ hi hd
              obtain ⟨B5, hC, hP, hV, hK, d15, hb5, h0, h1, h2, h3, h4, h5, h6, h7, h8, h9, h10, h11, h12, h13, h14, h15⟩ := hJ
              have e3 := h3 (show l 3 = true by first | exact hd.1 rfl | exact hd.2.1 rfl | exact hd.2.2.1 rfl | exact hd.2.2.2.1 rfl | exact hd.2.2.2.2.1 rfl | exact hd.2.2.2.2.2.1 rfl)
              have e5 := h5 (show l 5 = true by first | exact hd.1 rfl | exact hd.2.1 rfl | exact hd.2.2.1 rfl | exact hd.2.2.2.1 rfl | exact hd.2.2.2.2.1 rfl | exact hd.2.2.2.2.2.1 rfl)
              refine Runs.of (b := ?bH6) ?eH6 ?_
              case eH6 => simp only [putV, Act.put, List.setIfInBounds_toArray, List.set_cons_zero, List.set_cons_succ, e3, e5]; rfl
              intro K' hK'
              go_simp
              exact hK'.go _ rfl ⟨B5, hC, hP, hV, hK, d15, hb5, h0, h1, h2, h3, h4, h5, fun _ => rfl, h7, h8, h9, h10, h11, h12, h13, h14, h15⟩
            · intro l x w' hJ hi hd
              obtain ⟨B5, hC, hP, hV, hK, d15, hb5, h0, h1, h2, h3, h4, h5, h6, h7, h8, h9, h10, h11, h12, h13, h14, h15⟩ := hJ
              have e2 := h2 (show l 2 = true by first | exact hd.1 rfl | exact hd.2.1 rfl | exact hd.2.2.1 rfl | exact hd.2.2.2.1 rfl | exact hd.2.2.2.2.1 rfl | exact hd.2.2.2.2.2.1 rfl)
              have e6 := h6 (show l 6 = true by first | exact hd.1 rfl | exact hd.2.1 rfl | exact hd.2.2.1 rfl | exact hd.2.2.2.1 rfl | exact hd.2.2.2.2.1 rfl | exact hd.2.2.2.2.2.1 rfl)
              refine Runs.of (b := ?bH7) ?eH7 ?_
              case eH7 => simp only [putV, Act.put, List.setIfInBounds_toArray, List.set_cons_zero, List.set_cons_succ, e2, e6]; rfl
              intro K' hK'
              go_simp
              rw [show IntKind.i64.wrap ((j : Int) + (r : Int)) = (j : Int) + (r : Int) by rw [IntKind.wrap_i64]; omega]
              exact hK'.go _ rfl ⟨B5, hC, hP, hV, hK, d15, hb5, h0, h1, h2, h3, h4, h5, h6, fun _ => rfl, h8, h9, h10, h11, h12, h13, h14, h15⟩
            · intro l x w' hJ hi hd
              obtain ⟨B5, hC, hP, hV, hK, d15, hb5, h0, h1, h2, h3, h4, h5, h6, h7, h8, h9, h10, h11, h12, h13, h14, h15⟩ := hJ
              refine Runs.of (b := ?bH8) ?eH8 ?_
              case eH8 => simp only [putV, Act.put, List.setIfInBounds_toArray, List.set_cons_zero, List.set_cons_succ]; rfl
              intro K' hK'
              go_simp
              exact hK'.go _ rfl ⟨B5, hC, hP, hV, hK, d15, hb5, h0, h1, h2, h3, h4, h5, h6, h7, fun _ => rfl, h9, h10, h11, h12, h13, h14, h15⟩
            · intro l x w' hJ hi hd
              obtain ⟨B5, hC, hP, hV, hK, d15, hb5, h0, h1, h2, h3, h4, h5, h6, h7, h8, h9, h10, h11, h12, h13, h14, h15⟩ := hJ
              have e8 := h8 (show l 8 = true by first | exact hd.1 rfl | exact hd.2.1 rfl | exact hd.2.2.1 rfl | exact hd.2.2.2.1 rfl | exact hd.2.2.2.2.1 rfl | exact hd.2.2.2.2.2.1 rfl)
              refine Runs.of (b := ?bH9) ?eH9 ?_
              case eH9 => simp only [putV, Act.put, List.setIfInBounds_toArray, List.set_cons_zero, List.set_cons_succ, e8]; rfl
              intro K' hK'
              go_simp
              exact hK'.go _ rfl ⟨B5, hC, hP, hV, hK, d15, hb5, h0, h1, h2, h3, h4, h5, h6, h7, h8, fun _ => rfl, h10, h11, h12, h13, h14, h15⟩
            · intro l x w' hJ hi hd
              obtain ⟨B5, hC, hP, hV, hK, d15, hb5, h0, h1, h2, h3, h4, h5, h6, h7, h8, h9, h10, h11, h12, h13, h14, h15⟩ := hJ
              have e7 := h7 (show l 7 = true by first | exact hd.1 rfl | exact hd.2.1 rfl | exact hd.2.2.1 rfl | exact hd.2.2.2.1 rfl | exact hd.2.2.2.2.1 rfl | exact hd.2.2.2.2.2.1 rfl)
              have e9 := h9 (show l 9 = true by first | exact hd.1 rfl | exact hd.2.1 rfl | exact hd.2.2.1 rfl | exact hd.2.2.2.1 rfl | exact hd.2.2.2.2.1 rfl | exact hd.2.2.2.2.2.1 rfl)
              refine Runs.of (b := ?bH10) ?eH10 ?_
              case eH10 => simp only [putV, Act.put, List.setIfInBounds_toArray, List.set_cons_zero, List.set_cons_succ, e7, e9]; rfl
              intro K' hK'
              go_simp
              exact hK'.go _ rfl ⟨B5, hC, hP, hV, hK, d15, hb5, h0, h1, h2, h3, h4, h5, h6, h7, h8, h9, fun _ => rfl, h11, h12, h13, h14, h15⟩
            · intro l x w' hJ hi hd
              obtain ⟨B5, hC, hP, hV, hK, d15, hb5, h0, h1, h2, h3, h4, h5, h6, h7, h8, h9, h10, h11, h12, h13, h14, h15⟩ := hJ
              have e1 := h1 (show l 1 = true by first | exact hd.1 rfl | exact hd.2.1 rfl | exact hd.2.2.1 rfl | exact hd.2.2.2.1 rfl | exact hd.2.2.2.2.1 rfl | exact hd.2.2.2.2.2.1 rfl)
              have e10 := h10 (show l 10 = true by first | exact hd.1 rfl | exact hd.2.1 rfl | exact hd.2.2.1 rfl | exact hd.2.2.2.1 rfl | exact hd.2.2.2.2.1 rfl | exact hd.2.2.2.2.2.1 rfl)
              refine Runs.of (b := ?bH11) ?eH11 ?_
              case eH11 => simp only [putV, Act.put, List.setIfInBounds_toArray, List.set_cons_zero, List.set_cons_succ, e1, e10]; rfl
              intro K' hK'
              go_simp
              exact hK'.go _ rfl ⟨B5, hC, hP, hV, hK, d15, hb5, h0, h1, h2, h3, h4, h5, h6, h7, h8, h9, h10, fun _ => rfl, h12, h13, h14, h15⟩
            · intro l x w' hJ hi hd
              obtain ⟨B5, hC, hP, hV, hK, d15, hb5, h0, h1, h2, h3, h4, h5, h6, h7, h8, h9, h10, h11, h12, h13, h14, h15⟩ := hJ
              have e11 := h11 (show l 11 = true by first | exact hd.1 rfl | exact hd.2.1 rfl | exact hd.2.2.1 rfl | exact hd.2.2.2.1 rfl | exact hd.2.2.2.2.1 rfl | exact hd.2.2.2.2.2.1 rfl)
              obtain ⟨c0, c1, c2, c3, c4, c5⟩ := vrow_at hV r2 HU2.out
              refine Runs.of (b := ?bH12) ?eH12 ?_
              case eH12 => simp only [putV, Act.put, List.setIfInBounds_toArray, List.set_cons_zero, List.set_cons_succ, e11]; rfl
              intro K' hK'
              go_simp
              exact hK'.go _ rfl ⟨B5, hC, hP, hV, hK, d15, hb5, h0, h1, h2, h3, h4, h5, h6, h7, h8, h9, h10, h11, fun _ => rfl, h13, h14, h15⟩
            · intro l x w' hJ hi hd
              obtain ⟨B5, hC, hP, hV, hK, d15, hb5, h0, h1, h2, h3, h4, h5, h6, h7, h8, h9, h10, h11, h12, h13, h14, h15⟩ := hJ
              have e12 := h12 (show l 12 = true by first | exact hd.1 rfl | exact hd.2.1 rfl | exact hd.2.2.1 rfl | exact hd.2.2.2.1 rfl | exact hd.2.2.2.2.1 rfl | exact hd.2.2.2.2.2.1 rfl)
              refine Runs.of (b := ?bH13) ?eH13 ?_
              case eH13 => simp only [putV, Act.put, List.setIfInBounds_toArray, List.set_cons_zero, List.set_cons_succ, e12]; rfl
              intro K' hK'
              go_simp
              exact hK'.go _ rfl ⟨w'.heap.size, hC.alloc _, hP.alloc _, hV.alloc _, hK.alloc _, d15, fun _ => hK.size, h0, h1, h2, h3, h4, h5, h6, h7, h8, h9, h10, h11, h12, fun _ => ⟨rfl, Blk.new _ (v6 U2) _⟩, h14, h15⟩
            · intro l x w' hJ hi hd
              obtain ⟨B5, hC, hP, hV, hK, d15, hb5, h0, h1, h2, h3, h4, h5, h6, h7, h8, h9, h10, h11, h12, h13, h14, h15⟩ := hJ
              have e0 := h0 (show l 0 = true by first | exact hd.1 rfl | exact hd.2.1 rfl | exact hd.2.2.1 rfl | exact hd.2.2.2.1 rfl | exact hd.2.2.2.2.1 rfl | exact hd.2.2.2.2.2.1 rfl)
              have e13 := h13 (show l 13 = true by first | exact hd.1 rfl | exact hd.2.1 rfl | exact hd.2.2.1 rfl | exact hd.2.2.2.1 rfl | exact hd.2.2.2.2.1 rfl | exact hd.2.2.2.2.2.1 rfl)
              have D0 := Lib.hid (show l 0 = true by first | exact hd.1 rfl | exact hd.2.1 rfl | exact hd.2.2.1 rfl | exact hd.2.2.2.1 rfl | exact hd.2.2.2.2.1 rfl | exact hd.2.2.2.2.2.1 rfl)
              refine Runs.of (b := ?bH14) ?eH14 ?_
              case eH14 => simp only [putV, Act.put, List.setIfInBounds_toArray, List.set_cons_zero, List.set_cons_succ, e0, e13.1]; rfl
              intro K' hK'
              go_simp
              refine (vMax_any P _ [U2] (blk_vecs e13.2) (by simp)).mono ?_
              rintro x2 w2 ⟨rfl, k2⟩
              rw [show vmaxN P [U2] [U2].length = Y from HY.out]
              go_simp
              exact hK'.go (vec Y) rfl ⟨B5, hC.keep k2 (by simp), hP.keep k2 (by simp), hV.keep k2 (by simp), hK.trans (k2.mono (by simp)), d15, hb5, h0, h1, h2, h3, h4, h5, h6, h7, h8, h9, h10, h11, h12, fun h => ⟨(h13 h).1, (h13 h).2.keep k2 (by simp)⟩, fun _ => ⟨rfl, D0⟩, h15⟩
            · intro l x w' hJ hi hd
              obtain ⟨B5, hC, hP, hV, hK, d15, hb5, h0, h1, h2, h3, h4, h5, h6, h7, h8, h9, h10, h11, h12, h13, h14, h15⟩ := hJ
              have e14 := h14 (show l 14 = true by first | exact hd.1 rfl | exact hd.2.1 rfl | exact hd.2.2.1 rfl | exact hd.2.2.2.1 rfl | exact hd.2.2.2.2.1 rfl | exact hd.2.2.2.2.2.1 rfl)
              have hD := hC
              rw [hi, if_neg (by decide)] at hD
              obtain ⟨z0, z1, z2, z3, z4, z5⟩ := v6_cells hD
              have f0 := hD.free 0
              have f1 := hD.free 1
              have f2 := hD.free 2
              have f3 := hD.free 3
              have f4 := hD.free 4
              have f5 := hD.free 5
              refine Runs.of (b := ?bH15) ?eH15 ?_
              case eH15 => simp only [putV, Act.put, List.setIfInBounds_toArray, List.set_cons_zero, List.set_cons_succ, e14.1]; rfl
              intro K' hK'
              go_simp
              have hSet : Blk ((((((w'.setCell ⟨B11, 0, none⟩ (.int .i64 (Y 0))).setCell ⟨B11, 1, none⟩ (.int .i64 (Y 1))).setCell ⟨B11, 2, none⟩ (.int .i64 (Y 2))).setCell ⟨B11, 3, none⟩ (.int .i64 (Y 3))).setCell ⟨B11, 4, none⟩ (.int .i64 (Y 4))).setCell ⟨B11, 5, none⟩ (.int .i64 (Y 5))) B11 (v6 Y) 26 := (((((hD.set 0 (.int .i64 (Y 0))).set 1 (.int .i64 (Y 1))).set 2 (.int .i64 (Y 2))).set 3 (.int .i64 (Y 3))).set 4 (.int .i64 (Y 4))).set 5 (.int .i64 (Y 5))
              have hkS : Keep [B11] w' ((((((w'.setCell ⟨B11, 0, none⟩ (.int .i64 (Y 0))).setCell ⟨B11, 1, none⟩ (.int .i64 (Y 1))).setCell ⟨B11, 2, none⟩ (.int .i64 (Y 2))).setCell ⟨B11, 3, none⟩ (.int .i64 (Y 3))).setCell ⟨B11, 4, none⟩ (.int .i64 (Y 4))).setCell ⟨B11, 5, none⟩ (.int .i64 (Y 5))) := ((((((Keep.refl _ _).setCell (.inl (by simp)) _).setCell (.inl (by simp)) _).setCell (.inl (by simp)) _).setCell (.inl (by simp)) _).setCell (.inl (by simp)) _).setCell (.inl (by simp)) _
              have hbb := HBB.out
              exact hK'.go undef rfl ⟨B5, hSet, hP.keep hkS (by simp; omega), hV.keep hkS (fun q hq hm => by have := HVN.out q hq; simp at hm; omega), hK.trans hkS, fun _ => e14.2.out, hb5, h0, h1, h2, h3, h4, h5, h6, h7, h8, h9, h10, h11, h12, fun h => ⟨(h13 h).1, (h13 h).2.keep hkS (by have := hb5 h; have := HB2.out; simp; omega)⟩, h14, fun _ => trivial⟩
            · intro l x w3 hJ hl
              obtain ⟨B5, hC, hP, hV, hK, d15, hb5, h0, h1, h2, h3, h4, h5, h6, h7, h8, h9, h10, h11, h12, h13, h14, h15⟩ := hJ
              clear h0 h1 h2 h3 h4 h5 h6 h7 h8 h9 h10 h11 h12 h13 h14 h15 d15 hb5
              rw [hl 15 (by decide), if_pos rfl] at hC
              simp only [putV, Act.put, List.setIfInBounds_toArray, List.set_cons_zero, List.set_cons_succ]
              clear hl
              have K9 : Keep [] w w3 := (KR.out.then KW5.out (by intro q hq hlt2; have := HBX.out; simp at hq; omega)).then hK (by intro q hq hlt2; have := HBX.out; simp at hq; omega)
              go_wp2_with fail
              go_roundw
              case rel => exact ⟨j + 1, X, Y, by omega, by go_num, by rw [vmaxN_succ _ _ _ _ HUJ.out, ← HOJ.out]; exact HX.out.symm, Lib.hid (othOk_step HPJ.out HR2.out HU2.out HY.out), hP, hC, hV, K9⟩
              case measure => simp [intOf]; omega
end Go.Proofs.Ytpibpgfadkfgbaa
