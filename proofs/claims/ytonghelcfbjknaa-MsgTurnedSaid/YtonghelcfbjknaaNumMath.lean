/- Numbers and texts as bytes: plain Lean, no program. -/
namespace Go.Proofs.Ytonghelcfbjknaa

/-- An integer's number, and back. -/
def zz (n : Int) : Nat := if 0 ≤ n then (2 * n).toNat else (-2 * n - 1).toNat
def unzz (u : Nat) : Int := if u % 2 = 1 then -((u / 2 : Nat) : Int) - 1 else ((u / 2 : Nat) : Int)
theorem unzz_zz (n : Int) : unzz (zz n) = n := by
  unfold unzz zz; split <;> split <;> omega
theorem zz_unzz (u : Nat) : zz (unzz u) = u := by
  unfold unzz zz; split <;> split <;> omega
theorem zz_lt (n : Int) (h0 : -9223372036854775808 ≤ n) (h1 : n ≤ 9223372036854775807) : zz n < 18446744073709551616 := by
  unfold zz; split <;> omega

/-- Seven bits a byte. -/
def leb (u : Nat) : List Nat := if u < 128 then [u] else (u % 128 + 128) :: leb (u / 128)
termination_by u
decreasing_by omega
theorem leb_small (u : Nat) (h : u < 128) : leb u = [u] := by rw [leb, if_pos h]
theorem leb_big (u : Nat) (h : 128 ≤ u) : leb u = (u % 128 + 128) :: leb (u / 128) := by rw [leb, if_neg (by omega)]
theorem leb_ne (u : Nat) : leb u ≠ [] := by rw [leb]; split <;> simp
theorem leb_byte (u : Nat) : ∀ c ∈ leb u, c < 256 := by
  induction u using Nat.strongRecOn with
  | _ u ih =>
    intro c hc
    by_cases h : u < 128
    · rw [leb_small u h] at hc; simp at hc; omega
    · rw [leb_big u (by omega)] at hc
      rcases List.mem_cons.1 hc with rfl | hc
      · omega
      · exact ih (u / 128) (by omega) c hc
theorem leb_len (k : Nat) : ∀ u, u < 128 ^ k → 0 < k → (leb u).length ≤ k := by
  induction k with
  | zero => intro u _ h; omega
  | succ k ih =>
    intro u hu _
    by_cases h : u < 128
    · rw [leb_small u h]; simp
    · rw [leb_big u (by omega)]
      by_cases hk : k = 0
      · subst hk; simp at hu; omega
      · have := ih (u / 128) (by rw [Nat.pow_succ] at hu; omega) (by omega)
        simp; omega

/-- A number read off bytes: the number, how many bytes, the error. -/
def getGo : List Nat → Nat → Nat → Int × Nat × Nat
  | [], _, _ => (0, 0, 2)
  | c :: r, i, u => if i = 9 ∧ 1 < c then (0, 0, 1) else if 127 < c then getGo r (i + 1) (u + (c % 128) * 128 ^ i) else if 0 < i ∧ c = 0 then (0, 0, 1) else (unzz (u + c * 128 ^ i), i + 1, 0)
def get (l : List Nat) : Int × Nat × Nat := getGo l 0 0

/-- What was written is read, whatever stands behind. -/
theorem getGo_leb (r : List Nat) : ∀ (v : Nat) (i u : Nat), i ≤ 9 → v < 2 ^ (64 - 7 * i) → (0 < i → 0 < v) → getGo (leb v ++ r) i u = (unzz (u + v * 128 ^ i), i + (leb v).length, 0) := by
  intro v
  induction v using Nat.strongRecOn with
  | _ v ih =>
    intro i u hi hv hp
    by_cases h : v < 128
    · rw [leb_small v h]
      have h9 : ¬ (i = 9 ∧ 1 < v) := by
        rintro ⟨rfl, h2⟩
        simp at hv; omega
      simp only [List.cons_append, List.nil_append, getGo, h9, if_false, List.length_singleton]
      rw [if_neg (by omega), if_neg (by omega)]
    · rw [leb_big v (by omega)]
      have hi9 : i < 9 := by
        rcases Nat.lt_or_ge i 9 with h' | h'
        · exact h'
        · have : i = 9 := by omega
          subst this
          simp at hv; omega
      have h9 : ¬ (i = 9 ∧ 1 < v % 128 + 128) := by omega
      simp only [List.cons_append, getGo, h9, if_false, List.length_cons]
      rw [if_pos (by omega)]
      have hd : v / 128 < 2 ^ (64 - 7 * (i + 1)) := by
        have e : 64 - 7 * i = (64 - 7 * (i + 1)) + 7 := by omega
        rw [e, Nat.pow_add] at hv
        have : (2 : Nat) ^ 7 = 128 := rfl
        rw [this] at hv
        exact Nat.div_lt_of_lt_mul (by rw [Nat.mul_comm]; exact hv)
      rw [ih (v / 128) (by omega) (i + 1) _ (by omega) hd (by omega)]
      have e1 : (v % 128 + 128) % 128 = v % 128 := by omega
      rw [e1]
      have e2 : u + v % 128 * 128 ^ i + v / 128 * 128 ^ (i + 1) = u + v * 128 ^ i := by
        have : v = 128 * (v / 128) + v % 128 := by omega
        rw [Nat.pow_succ]
        have e3 : v * 128 ^ i = (128 * (v / 128) + v % 128) * 128 ^ i := by rw [← this]
        rw [e3, Nat.add_mul]
        have e4 : v / 128 * (128 ^ i * 128) = 128 * (v / 128) * 128 ^ i := by rw [Nat.mul_comm (128 ^ i) 128, ← Nat.mul_assoc, Nat.mul_comm (v / 128) 128]
        rw [e4]; omega
      rw [e2, show i + 1 + (leb (v / 128)).length = i + ((leb (v / 128)).length + 1) by omega]
theorem get_leb (n : Int) (h0 : -9223372036854775808 ≤ n) (h1 : n ≤ 9223372036854775807) (r : List Nat) : get (leb (zz n) ++ r) = (n, (leb (zz n)).length, 0) := by
  unfold get
  rw [getGo_leb r (zz n) 0 0 (by omega) (zz_lt n h0 h1) (by omega)]
  simp [unzz_zz]

/-- What is cut off is not all there. -/
theorem getGo_cut : ∀ (v : Nat) (i u k : Nat), i ≤ 9 → v < 2 ^ (64 - 7 * i) → k < (leb v).length → getGo ((leb v).take k) i u = (0, 0, 2) := by
  intro v
  induction v using Nat.strongRecOn with
  | _ v ih =>
    intro i u k hi hv hk
    cases k with
    | zero => simp [getGo]
    | succ k =>
      by_cases h : v < 128
      · rw [leb_small v h] at hk; simp at hk
      · rw [leb_big v (by omega)] at hk ⊢
        have hi9 : i < 9 := by
          rcases Nat.lt_or_ge i 9 with h' | h'
          · exact h'
          · have : i = 9 := by omega
            subst this
            simp at hv; omega
        have h9 : ¬ (i = 9 ∧ 1 < v % 128 + 128) := by omega
        simp only [List.take_succ_cons, getGo, h9, if_false]
        rw [if_pos (by omega)]
        have hd : v / 128 < 2 ^ (64 - 7 * (i + 1)) := by
          have e : 64 - 7 * i = (64 - 7 * (i + 1)) + 7 := by omega
          rw [e, Nat.pow_add] at hv
          have : (2 : Nat) ^ 7 = 128 := rfl
          rw [this] at hv
          exact Nat.div_lt_of_lt_mul (by rw [Nat.mul_comm]; exact hv)
        exact ih (v / 128) (by omega) (i + 1) _ k (by omega) hd (by simpa using hk)

/-- How many bytes a number took: at least one, no more than there are; its size. -/
theorem getGo_facts : ∀ (l : List Nat) (i u : Nat), i ≤ 9 → u < 128 ^ i → (∀ c ∈ l, c < 256) →
    ((getGo l i u).2.2 = 0 ∧ i < (getGo l i u).2.1 ∧ (getGo l i u).2.1 ≤ i + l.length ∧ (getGo l i u).2.1 ≤ 10 ∧ -9223372036854775808 ≤ (getGo l i u).1 ∧ (getGo l i u).1 ≤ 9223372036854775807) ∨
    ((getGo l i u).2.2 ≠ 0 ∧ (getGo l i u).2.2 ≤ 2 ∧ (getGo l i u).1 = 0 ∧ (getGo l i u).2.1 = 0) := by
  intro l
  induction l with
  | nil => intro i u _ _ _; right; simp [getGo]
  | cons c r ih =>
    intro i u hi hu hc
    have hcc : c < 256 := hc c (by simp)
    unfold getGo
    split
    · right; simp
    · rename_i h9
      split
      · rename_i h127
        have hi9 : i < 9 := by omega
        have hu' : u + c % 128 * 128 ^ i < 128 ^ (i + 1) := by
          rw [Nat.pow_succ]
          have : c % 128 * 128 ^ i ≤ 127 * 128 ^ i := Nat.mul_le_mul_right _ (by omega)
          omega
        rcases ih (i + 1) _ (by omega) hu' (fun x hx => hc x (by simp [hx])) with ⟨a, b, d, e, f, g⟩ | h
        · left; exact ⟨a, by omega, by simp; omega, e, f, g⟩
        · right; exact h
      · split
        · right; simp
        · left
          rename_i h127 h0
          have hb : u + c * 128 ^ i < 18446744073709551616 := by
            by_cases h : i = 9
            · subst h
              have hc1 : c ≤ 1 := by omega
              have : c * 128 ^ 9 ≤ 1 * 128 ^ 9 := Nat.mul_le_mul_right _ hc1
              have e9 : (128 : Nat) ^ 9 = 9223372036854775808 := rfl
              rw [e9] at *
              omega
            · have h8 : i ≤ 8 := by omega
              have hp : (128 : Nat) ^ i ≤ 128 ^ 8 := Nat.pow_le_pow_right (by decide) h8
              have e8 : (128 : Nat) ^ 8 = 72057594037927936 := rfl
              rw [e8] at hp
              have : c * 128 ^ i ≤ 127 * 128 ^ i := Nat.mul_le_mul_right _ (by omega)
              omega
          refine ⟨rfl, by dsimp only; omega, by simp only [List.length_cons]; omega, by dsimp only; omega, ?_, ?_⟩
          · simp only [unzz]; split <;> omega
          · simp only [unzz]; split <;> omega
end Go.Proofs.Ytonghelcfbjknaa
