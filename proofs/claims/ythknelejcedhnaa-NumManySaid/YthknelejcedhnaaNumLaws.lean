/- The laws NumAny, NumLong: their walks. -/
import Derived.Test.YthknelejcedhnaaNumRef
namespace Go.Proofs.Ythknelejcedhnaa
open Go.ChangeShapes Go.WideShapes Go.ChangeAt Go.RowKit
set_option linter.unusedVariables false
set_option linter.unusedSimpArgs false

theorem ret_true {b : Bool} (h : b = true) : Ending.returned (.bool b) = .returned (.bool true) := by rw [h]

set_option maxHeartbeats 1000000 in
theorem numAny_walk (a0 : Option Addr) (len cap : Nat) (z0 : List Int) (w : World) (w0 : IsRow .u8 w a0 len cap z0) :
    Calls Try.prog 4 #[.slice a0 len cap] w fun e w' => e = .returned (.bool true) ∧ Below w.heap.size w w' := by
  obtain ⟨l, rfl, hmax, hr, hb⟩ := w0.rd
  clear w0
  go_enter Try.func4, Try.ntmps4
  go_wp2_with fail
  refine (begun2 w).mono ?_
  rintro e w0 ⟨rfl, k0⟩
  have hr0 := hr.keep k0 (by simp)
  clear hr
  go_wp2_with fail
  refine (Short_any _ l 60 hr0 (by omega) hmax).mono ?_
  rintro e w' ⟨v1, rfl, rfl, h1, _⟩
  have hb1 : ∀ c ∈ l.take 60, c < 256 := fun c hc => hb c (List.mem_of_mem_take hc)
  have hl1 : (l.take 60).length ≤ 60 := by rw [List.length_take]; omega
  clear hr0 hb
  generalize l.take 60 = m at *
  obtain ⟨_, a1, cap1, rfl, _, _⟩ := id h1
  go_wp2_with fail
  obtain ⟨r, hr⟩ : ∃ r, r = get m := ⟨_, rfl⟩
  obtain ⟨q, hq⟩ : ∃ q, q = getText m := ⟨_, rfl⟩
  have HR := Lib.hid hr
  have HQ := Lib.hid hq
  clear hr hq
  refine (Get_any _ m h1 hb1 (by omega) r HR.out).mono ?_
  rintro e w' ⟨rfl, rfl⟩
  go_wp2_with fail
  refine (refGet_any _ m h1 hb1 (by omega) r HR.out).mono ?_
  rintro e w' ⟨rfl, rfl⟩
  go_wp2_with fail
  refine (GetText_any _ m h1 hb1 (by omega) q HQ.out).mono ?_
  rintro e w' ⟨rfl, rfl⟩
  go_wp2_with fail
  refine (refGetText_any _ m h1 hb1 (by omega) q HQ.out).mono ?_
  rintro e w' ⟨rfl, rfl⟩
  go_wp2_with fail
  go_ret
  exact ⟨rfl, k0.below⟩

theorem u8_wf {n : Int} (h : (Lit.int .u8 n).wf = true) : 0 ≤ n ∧ n < 256 := by
  simp [Lit.wf, IntKind.min, IntKind.max, IntKind.signed, IntKind.bits] at h
  omega

set_option maxRecDepth 100000 in
set_option maxHeartbeats 1000000 in
theorem numLong_walk (n last fill : Int) (w : World) (_w0 : (Lit.int .i64 n).wf = true) (w1 : (Lit.int .u8 last).wf = true) (w2 : (Lit.int .u8 fill).wf = true) :
    Calls Try.prog 5 #[.int .i64 n, .int .u8 last, .int .u8 fill] w fun e w' => e = .returned (.bool true) ∧ Below w.heap.size w w' := by
  obtain ⟨l0, l1⟩ := u8_wf w1
  obtain ⟨f0, f1⟩ := u8_wf w2
  obtain ⟨L, rfl⟩ := Int.eq_ofNat_of_zero_le l0
  obtain ⟨F, rfl⟩ := Int.eq_ofNat_of_zero_le f0
  clear w1 w2 _w0 l0 f0
  obtain ⟨i0, hi, hz0, hz1, hz2⟩ := info_parts Try.info8
  by_cases hin : 0 ≤ n ∧ n ≤ 14
  · obtain ⟨n0, n1⟩ := hin
    obtain ⟨N, rfl⟩ := Int.eq_ofNat_of_zero_le n0
    have hor := bits_or_u8_nat F 128 (by omega) (by omega)
    have hX : F ||| 128 < 256 := Nat.or_lt_two_pow (n := 8) (by omega) (by omega)
    generalize F ||| 128 = X at *
    have hor2 : bits .or .u8 (F : Int) 128 = (X : Int) := hor
    clear hor
    go_enter Try.func5, Try.ntmps5
    go_wp2_with fail
    refine (begun2 w).mono ?_
    rintro e w0 ⟨rfl, k0⟩
    have hs0 := k0.size
    go_wp2_with fail
    go_loopw [8, 9] (fun b i wr => ∃ (k : Nat) (v' : Value), k ≤ N ∧ b = v' ∧ i = .int .i64 k ∧ Onto w0 w0.heap.size 5 (.slice none 0 0) (List.replicate k X) v' wr) (fun _ i _ => N - (intOf i).toNat)
    case atStart => exact ⟨0, _, by omega, rfl, rfl, Onto.refl (Buf.nil _ _ _)⟩
    case round =>
      obtain ⟨k, v', hk, rfl, rfl, hO⟩ := hrel
      obtain ⟨a', cap', rfl⟩ := hO.buf.slice
      have hbuf := hO.buf
      have hks := hO.keep.size
      have hlen : (List.replicate k X).length = k := by simp
      have HL := Lib.hid hlen
      have hsn : List.replicate (k + 1) X = List.replicate k X ++ [X] := by rw [List.replicate_succ']
      have HSN := Lib.hid hsn
      have hby : ∀ c ∈ List.replicate k X ++ [L], c < 256 := by
        intro c hc
        simp at hc
        rcases hc with ⟨_, rfl⟩ | rfl <;> omega
      have HB := Lib.hid hby
      have hlk : (List.replicate k X).length ≤ 14 := by rw [hlen]; omega
      clear hlen hsn hby
      generalize List.replicate k X = R at *
      by_cases hlt : k < N
      · have q1 : (k : Int) < N := by omega
        go_wp2_with (at_builtin; refine wpList_append_src _ rfl _ _ 22 22 rfl w0.heap.size 5 i0 (.int .u8 0) 1 1 Try.underlying22 hi hz0 hz1 hz2 rfl (by decide) _ _ _ rfl (hbuf.alloc _) _ 1 (bcs [X]) rfl (src_new1 Try.underlying22 _ X _) (by unfold maxLen; omega) (by omega) (by simp; omega) ?_; intro v1 w1 h1 h2 _ h3)
        go_roundw
        case rel => exact ⟨k + 1, v1, by omega, rfl, by go_num, by rw [HSN.out]; exact (hO.alloc _).app h1 h2 h3⟩
        case measure => simp [intOf]; omega
      · obtain rfl : k = N := by omega
        go_wp2_with (at_builtin; refine wpList_append_src _ rfl _ _ 22 22 rfl w0.heap.size 5 i0 (.int .u8 0) 1 1 Try.underlying22 hi hz0 hz1 hz2 rfl (by decide) _ _ _ rfl (hbuf.alloc _) _ 1 (bcs [L]) rfl (src_new1 Try.underlying22 _ L _) (by unfold maxLen; omega) (by omega) (by simp; omega) ?_; intro v1 w1 h1 h2 _ h3)
        have hO1 := (hO.alloc (.cells #[.int .u8 (L : Int)] 5)).app h1 h2 h3
        have hl1 : (R ++ [L]).length ≤ 15 := by rw [List.length_append]; simp; omega
        have hK : Keep [] w w1 := k0.then hO1.keep (by simp [Value.ownBlock])
        have hrd := hO1.buf.rd
        have hb1 := HB.out
        obtain ⟨a1, cap1, rfl⟩ := hO1.buf.slice
        clear h1 h2 h3 hO hbuf hO1 HL HSN HB
        generalize R ++ [L] = m at *
        obtain ⟨r, hr⟩ : ∃ r, r = get m := ⟨_, rfl⟩
        have HR := Lib.hid hr
        clear hr
        go_wp2_with fail
        refine (Get_any _ m hrd hb1 (by omega) r HR.out).mono ?_
        rintro e w' ⟨rfl, rfl⟩
        go_wp2_with fail
        refine (refGet_any _ m hrd hb1 (by omega) r HR.out).mono ?_
        rintro e w' ⟨rfl, rfl⟩
        go_wp2_with fail
        go_ret
        exact ⟨rfl, hK.below⟩
  · go_enter Try.func5, Try.ntmps5
    go_wp2_with fail
    refine (begun2 w).mono ?_
    rintro e w0 ⟨rfl, k0⟩
    go_wp2_with fail
    all_goals first | (exfalso; omega) | (go_ret; exact ⟨rfl, k0.below⟩)
end Go.Proofs.Ythknelejcedhnaa
