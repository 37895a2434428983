/- Sums (CRC-32), bit by bit: the plain function, what one byte changes; the contract of crc.Sum of one part. -/
import Derived.Test.YtonghelcfbjknaaOwn
import Derived.Laws.BitsAllLaws
import Derived.Laws.BitsLemmas
namespace Go.Proofs.Ytonghelcfbjknaa
open Go.ChangeShapes Go.WideShapes Go.ChangeAt Go.RowKit
set_option linter.unusedVariables false
set_option linter.unusedSimpArgs false

theorem xor_cancel (a b c : Nat) (h : a ^^^ b = a ^^^ c) : b = c := by
  have := congrArg (a ^^^ ·) h
  simpa [← Nat.xor_assoc] using this
theorem xor_cancel' (a b c : Nat) (h : b ^^^ a = c ^^^ a) : b = c := xor_cancel a b c (by rw [Nat.xor_comm a b, Nat.xor_comm a c, h])
/-- One bit. -/
def crcBit (x : Nat) : Nat := (x / 2) ^^^ (if x % 2 = 1 then 3988292384 else 0)
def crcBits : Nat → Nat → Nat
  | 0, x => x
  | k + 1, x => crcBit (crcBits k x)
def crcByte (x c : Nat) : Nat := crcBits 8 (x ^^^ c)
def crcOf (x : Nat) (l : List Nat) : Nat := l.foldl crcByte x
def crcSum (l : List Nat) : Nat := 4294967295 - crcOf 4294967295 l
theorem crcBit_lt (x : Nat) (h : x < 4294967296) : crcBit x < 4294967296 := by
  unfold crcBit
  apply Nat.xor_lt_two_pow (n := 32)
  · omega
  · split <;> omega
theorem crcBits_lt (k x : Nat) (h : x < 4294967296) : crcBits k x < 4294967296 := by
  induction k with
  | zero => exact h
  | succ k ih => exact crcBit_lt _ ih
theorem crcByte_lt (x c : Nat) (h : x < 4294967296) (hc : c < 256) : crcByte x c < 4294967296 :=
  crcBits_lt 8 _ (Nat.xor_lt_two_pow (n := 32) h (by omega))
theorem crcOf_lt (l : List Nat) : ∀ x, x < 4294967296 → (∀ c ∈ l, c < 256) → crcOf x l < 4294967296 := by
  induction l with
  | nil => intro x h _; exact h
  | cons c l ih => intro x h hl; exact ih _ (crcByte_lt x c h (hl c (by simp))) (fun c' hc' => hl c' (by simp [hc']))
theorem crcOf_snoc (x : Nat) (l : List Nat) (c : Nat) : crcOf x (l ++ [c]) = crcByte (crcOf x l) c := by simp [crcOf]
/-- One bit loses nothing. -/
theorem crcBit_inj (x y : Nat) (hx : x < 4294967296) (hy : y < 4294967296) (h : crcBit x = crcBit y) : x = y := by
  unfold crcBit at h
  have hx2 : x / 2 < 2147483648 := by omega
  have hy2 : y / 2 < 2147483648 := by omega
  have t : ∀ z, z < 2147483648 → (z ^^^ 3988292384).testBit 31 = true := by
    intro z hz
    rw [Nat.testBit_xor, Nat.testBit_lt_two_pow (show z < 2 ^ 31 by omega)]
    decide
  have f : ∀ z, z < 2147483648 → (z ^^^ 0).testBit 31 = false := by
    intro z hz
    rw [Nat.xor_zero]
    exact Nat.testBit_lt_two_pow (by omega)
  by_cases hxo : x % 2 = 1
  · by_cases hyo : y % 2 = 1
    · rw [if_pos hxo, if_pos hyo] at h
      have := xor_cancel' _ _ _ h
      omega
    · rw [if_pos hxo, if_neg hyo] at h
      have := t _ hx2
      rw [h, f _ hy2] at this
      cases this
  · by_cases hyo : y % 2 = 1
    · rw [if_neg hxo, if_pos hyo] at h
      have := t _ hy2
      rw [← h, f _ hx2] at this
      cases this
    · rw [if_neg hxo, if_neg hyo, Nat.xor_zero, Nat.xor_zero] at h
      omega
theorem crcBits_inj (k : Nat) : ∀ x y, x < 4294967296 → y < 4294967296 → crcBits k x = crcBits k y → x = y := by
  induction k with
  | zero => intro x y _ _ h; exact h
  | succ k ih => intro x y hx hy h; exact ih x y hx hy (crcBit_inj _ _ (crcBits_lt k x hx) (crcBits_lt k y hy) h)
theorem crcByte_inj (x y c d : Nat) (hx : x < 4294967296) (hy : y < 4294967296) (hc : c < 256) (hd : d < 256) (h : crcByte x c = crcByte y d) : x ^^^ c = y ^^^ d :=
  crcBits_inj 8 _ _ (Nat.xor_lt_two_pow (n := 32) hx (by omega)) (Nat.xor_lt_two_pow (n := 32) hy (by omega)) h
theorem crcOf_inj (l : List Nat) : ∀ x y, x < 4294967296 → y < 4294967296 → (∀ c ∈ l, c < 256) → crcOf x l = crcOf y l → x = y := by
  induction l with
  | nil => intro x y _ _ _ h; exact h
  | cons c l ih =>
    intro x y hx hy hl h
    have hc := hl c (by simp)
    have h1 := ih _ _ (crcByte_lt x c hx hc) (crcByte_lt y c hy hc) (fun c' hc' => hl c' (by simp [hc'])) h
    have h2 := crcByte_inj x y c c hx hy hc hc h1
    exact xor_cancel' _ _ _ h2
/-- One byte changed: another sum. -/
theorem crcSum_one (a b : List Nat) (c d : Nat) (ha : ∀ c ∈ a, c < 256) (hb : ∀ c ∈ b, c < 256) (hc : c < 256) (hd : d < 256) (hne : c ≠ d) : crcSum (a ++ c :: b) ≠ crcSum (a ++ d :: b) := by
  intro h
  unfold crcSum at h
  have hA : crcOf 4294967295 (a ++ c :: b) < 4294967296 := crcOf_lt _ _ (by omega) (by intro x hx; rcases List.mem_append.1 hx with hx | hx; · exact ha x hx
                                                                                       · rcases List.mem_cons.1 hx with rfl | hx; · exact hc
                                                                                         · exact hb x hx)
  have hB : crcOf 4294967295 (a ++ d :: b) < 4294967296 := crcOf_lt _ _ (by omega) (by intro x hx; rcases List.mem_append.1 hx with hx | hx; · exact ha x hx
                                                                                       · rcases List.mem_cons.1 hx with rfl | hx; · exact hd
                                                                                         · exact hb x hx)
  have e : crcOf 4294967295 (a ++ c :: b) = crcOf 4294967295 (a ++ d :: b) := by omega
  have e1 : crcOf 4294967295 (a ++ c :: b) = crcOf (crcByte (crcOf 4294967295 a) c) b := by simp [crcOf]
  have e2 : crcOf 4294967295 (a ++ d :: b) = crcOf (crcByte (crcOf 4294967295 a) d) b := by simp [crcOf]
  rw [e1, e2] at e
  have hx := crcOf_lt a 4294967295 (by omega) ha
  have e3 := crcOf_inj b _ _ (crcByte_lt _ _ hx hc) (crcByte_lt _ _ hx hd) hb e
  exact hne (xor_cancel _ _ _ (crcByte_inj _ _ _ _ hx hx hc hd e3))
theorem crcOf_take (x : Nat) (l : List Nat) (k : Nat) (h : k < l.length) : crcOf x (l.take (k + 1)) = crcByte (crcOf x (l.take k)) (l.getD k 0) := by
  rw [List.take_succ_eq_append_getElem h, crcOf_snoc]
  simp [List.getD_eq_getElem?_getD, h]
/-- x>>1 ^ poly & -(x&1) -/
theorem crc_step (x : Nat) (h : x < 4294967296) : bits .xor .u32 ((x : Int) / 2) (bits .and .u32 3988292384 (IntKind.u32.wrap (-(bits .and .u32 (x : Int) 1)))) = ((crcBit x : Nat) : Int) := by
  have e1 : bits .and .u32 (x : Int) 1 = ((x % 2 : Nat) : Int) := by
    rw [show (1 : Int) = ((1 : Nat) : Int) from rfl, u32_and_nat _ _ h (by omega), Nat.and_one_is_mod]
  rw [e1, show (x : Int) / 2 = ((x / 2 : Nat) : Int) by omega]
  unfold crcBit
  by_cases hx : x % 2 = 1
  · rw [hx, if_pos rfl, show bits .and .u32 3988292384 (IntKind.u32.wrap (-((1 : Nat) : Int))) = ((3988292384 : Nat) : Int) by decide +kernel, u32_xor_nat _ _ (by omega) (by omega)]
  · rw [if_neg hx, show x % 2 = 0 by omega, show bits .and .u32 3988292384 (IntKind.u32.wrap (-((0 : Nat) : Int))) = ((0 : Nat) : Int) by decide +kernel, u32_xor_nat _ _ (by omega) (by omega)]
theorem crc_not (x : Nat) (h : x < 4294967296) : bits .xor .u32 IntKind.u32.max (x : Int) = ((4294967295 - x : Nat) : Int) := by
  rw [show IntKind.u32.max = ((4294967295 : Nat) : Int) by decide, u32_xor_nat _ _ (by omega) h]
  have h1 := BitVec.toNat_not (x := BitVec.ofNat 32 x)
  have h2 : (~~~ (BitVec.ofNat 32 x)) = BitVec.allOnes 32 ^^^ BitVec.ofNat 32 x := by rw [BitVec.allOnes_xor]
  rw [h2, BitVec.toNat_xor, BitVec.toNat_allOnes, BitVec.toNat_ofNat, Nat.mod_eq_of_lt h] at h1
  have h3 : 4294967295 ^^^ x = 4294967295 - x := by simpa using h1
  rw [h3]

set_option maxHeartbeats 2000000 in
theorem Sum_one {w : World} (a : Option Addr) (cap : Nat) (bv : Value) (l : List Nat) (hp : Rv w 1 (.slice a 1 cap) 1 [bv]) (h : Rd w bv l) (hb : ∀ c ∈ l, c < 256) (hl : l.length ≤ 9223372036854775807) (n : Nat) (hn : n = crcSum l) :
    Calls Try.prog 31 #[.slice a 1 cap] w fun e w' => e = .returned (.int .u32 n) ∧ w = w' := by
  have HN := Lib.hid hn
  clear hn
  have h2 := h
  obtain ⟨_, ba, bcap, rfl, _, _⟩ := h
  obtain ⟨pb, po, pc, he, hpc, hps, hpat⟩ := hp.at1 (by omega)
  simp only [Value.slice.injEq] at he
  obtain ⟨rfl, _, rfl⟩ := he
  have gp := hpat 0 (by omega)
  simp only [Nat.add_zero, List.getElem?_cons_zero] at gp
  clear hpat
  go_enter Try.func31, Try.ntmps31
  go_wp2_with fail
  refine wp_loop_rounds 2 ?_
  rw [rounds_succ]
  go_wp2_with fail
  go_loop [3, 16] (fun x i => ∃ k : Nat, k ≤ l.length ∧ i = .int .i64 k ∧ x = .int .u32 (crcOf 4294967295 (l.take k) : Nat)) (fun _ i => l.length - (intOf i).toNat)
  case atStart => exact ⟨0, by omega, rfl, rfl⟩
  case round =>
    obtain ⟨k, hk, rfl, rfl⟩ := hrel
    by_cases hlt : k < l.length
    · obtain ⟨sb0, so, cap3, he, _, hsb, hat⟩ := h2.at1 (by omega)
      simp only [Value.slice.injEq] at he
      obtain ⟨rfl, _, rfl⟩ := he
      have g4 := hat k hlt
      rw [bcs_at l k hlt] at g4
      have hc : l.getD k 0 < 256 := hb _ (by simp [List.getD_eq_getElem?_getD, hlt])
      have hX : crcOf 4294967295 (l.take k) < 4294967296 := crcOf_lt _ _ (by omega) (fun c hc => hb c (List.mem_of_mem_take hc))
      have HT := Lib.hid (crcOf_take 4294967295 l k hlt)
      clear hat h2 hb
      generalize l.getD k 0 = c at *
      generalize crcOf 4294967295 (l.take k) = X at *
      unfold bc at g4
      have q0 : (k : Int) < l.length := by omega
      have hx := u32_xor_nat X c hX (by omega)
      have hY : X ^^^ c < 4294967296 := Nat.xor_lt_two_pow (n := 32) hX (by omega)
      go_wp2_with fail
      go_loop [3, 24] (fun x i => ∃ j : Nat, j ≤ 8 ∧ i = .int .i64 j ∧ x = .int .u32 (crcBits j (X ^^^ c) : Nat)) (fun _ i => 8 - (intOf i).toNat)
      case atStart => exact ⟨0, by omega, rfl, rfl⟩
      case round =>
        obtain ⟨j, hj, rfl, rfl⟩ := hrel
        by_cases hj8 : j < 8
        · have r0 : (j : Int) < 8 := by omega
          have hZ := crcBits_lt j _ hY
          have HZ := Lib.hid (show crcBits (j + 1) (X ^^^ c) = crcBit (crcBits j (X ^^^ c)) from rfl)
          generalize crcBits j (X ^^^ c) = Z at *
          have hst := crc_step Z hZ
          go_wp2_with fail
          go_round
          case rel => exact ⟨j + 1, by omega, by go_num, by rw [HZ.out]; simpa [IntKind.wrap_u32'] using hst⟩
          case measure => simp [intOf]; omega
        · have r0 : ¬ ((j : Int) < 8) := by omega
          have hj88 : j = 8 := by omega
          subst hj88
          go_wp2_with fail
          go_round
          case rel => exact ⟨k + 1, by omega, by go_num, by rw [HT.out]; rfl⟩
          case measure => simp [intOf]; omega
    · have q0 : ¬ ((k : Int) < l.length) := by omega
      have hkl : k = l.length := by omega
      subst hkl
      rw [List.take_length]
      have hX : crcOf 4294967295 l < 4294967296 := crcOf_lt _ _ (by omega) hb
      have hnot := crc_not _ hX
      have HE := Lib.hid (show crcSum l = 4294967295 - crcOf 4294967295 l from rfl)
      generalize crcOf 4294967295 l = X at *
      go_wp2_with fail
      rw [rounds_succ]
      go_wp2_with fail
      go_ret
      exact ⟨by rw [HN.out, HE.out]; rfl, rfl⟩
end Go.Proofs.Ytonghelcfbjknaa
