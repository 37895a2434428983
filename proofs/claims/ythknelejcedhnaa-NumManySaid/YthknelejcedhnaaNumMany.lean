/- The law NumMany: its walk. -/
import Derived.Test.YthknelejcedhnaaNumMany0
import Derived.SliceStrings
namespace Go.Proofs.Ythknelejcedhnaa
open Go.ChangeShapes Go.WideShapes Go.ChangeAt Go.RowKit
set_option linter.unusedVariables false
set_option linter.unusedSimpArgs false

/-- A slice of texts that came in. -/
def IsTexts (w : World) (v : Value) : Prop := ∃ l : List ByteArray, Rv w 1 v l.length (strs l) ∧ l.length ≤ 9223372036854775807 ∧ ∀ s ∈ l, s.size ≤ 9223372036854775807
theorem open_texts {H : Type} {enc : TypeId × Value → H} {W : World} {v : Value} {d : DataW H} {p : List MemPlace} {r : Reach} {b : Nat}
    (hv : Value.okWide Try.prog W r b 24 v) (h : DataW.Trod enc Try.prog W 0 (fun _ => true) true 24 v d p) : IsTexts W v := by
  obtain ⟨a0, len, cap, rfl⟩ := okWide_slice Try.underlying24 hv
  obtain ⟨fuel, hf⟩ := h
  rcases open_strings Try.underlying24 Try.underlying9 (by kernel_rfl) hf with ⟨hcs, _⟩ | ⟨x, l, c, ss, hcs, _, hl, hm, hz, _, hcell, hws⟩
  · simp [Value.cells] at hcs
    obtain ⟨rfl, rfl, rfl⟩ := hcs
    exact ⟨[], Rv.nil W 1, by simp, by simp⟩
  · simp [Value.cells] at hcs
    obtain ⟨rfl, rfl, rfl⟩ := hcs
    simp only [if_true] at hz
    unfold maxLen at hm hws
    have hl' : (ss.take len).length = len := by rw [List.length_take]; omega
    refine ⟨ss.take len, ⟨by simp [strs], some x, cap, by rw [hl'], by omega, fun hp => ?_⟩, by omega, fun s hs => hws s (List.mem_of_mem_take hs)⟩
    have hp' : 0 < len := by simp [strs] at hp; omega
    have h0 := hcell 0 (by omega)
    have h00 : x.add 0 = x := by simp [Addr.add]
    obtain ⟨sb0, so, rfl, hsb, hadd⟩ := addr_cell (w := W) (a := x) (by rw [← h00, h0]; rfl)
    refine ⟨sb0, so, rfl, hsb, fun i hi => ?_⟩
    have hi' : i < len := by simp [strs] at hi; omega
    have := hcell i (by omega)
    rw [hadd] at this
    rw [this, strs_at _ _ (by omega)]
    simp [List.getD_eq_getElem?_getD, List.getElem?_take, hi']

set_option maxRecDepth 100000 in
set_option maxHeartbeats 2000000 in
theorem numMany_walk (a0 : Option Addr) (len0 cap0 : Nat) (z0 : List Int) (a1 : Option Addr) (len1 cap1 : Nat) (z1 : List Int) (a2 : Option Addr) (len2 cap2 : Nat) (z2 : List Int) (tv : Value) (w : World)
    (w0 : IsRow .u8 w a0 len0 cap0 z0) (w1 : IsRow .u8 w a1 len1 cap1 z1) (w2 : IsRow .i64 w a2 len2 cap2 z2) (w3 : IsTexts w tv) :
    Calls Try.prog 3 #[.slice a0 len0 cap0, .slice a1 len1 cap1, .slice a2 len2 cap2, tv] w fun e w' => e = .returned (.bool true) ∧ Below w.heap.size w w' := by
  obtain ⟨A0, rfl, hmA, hrA, hbA⟩ := w0.rd
  obtain ⟨R0, rfl, hmR, hrR, hbR⟩ := w1.rd
  obtain ⟨hl, hmax, hrN, hwf⟩ := w2.rv
  have hrN : Rv w 1 (.slice a2 len2 cap2) len2 (ints (z2.take len2)) := hrN
  have hI : ∀ n ∈ z2.take len2, I64 n := fun n hn => i64_wf (hwf n hn)
  obtain ⟨T0, hrT, hmT, hsT⟩ := w3
  clear hwf w0 w1 w2
  generalize z2.take len2 = Z0 at *
  subst hl
  obtain ⟨_, a3, cap3, rfl, _, _⟩ := id hrT
  obtain ⟨i0, hi, hz0, hz1, hz2⟩ := info_parts Try.info2
  obtain ⟨i8, hi8, hz80, hz81, hz82⟩ := info_parts Try.info8
  go_enter Try.func3, Try.ntmps3
  go_wp2_with fail
  refine (begun2 w).mono ?_
  rintro e w0 ⟨rfl, k0⟩
  have rA := hrA.keep k0 (by simp)
  have rR := hrR.keep k0 (by simp)
  have rN := hrN.keep k0 (by simp)
  have rT := hrT.keep k0 (by simp)
  clear hrA hrR hrN hrT
  go_wp2_with fail
  refine (Short_any _ A0 20 rA (by omega) hmA).mono ?_
  rintro e w' ⟨vA, rfl, rfl, hA, _⟩
  go_wp2_with fail
  refine (Short_any _ R0 20 rR (by omega) hmR).mono ?_
  rintro e w' ⟨vR, rfl, rfl, hR, _⟩
  go_wp2_with fail
  refine (Texts_any _ T0 5 100 rT hmT hsT (by omega) (by omega)).mono ?_
  rintro e w1 ⟨vT, rfl, hT, k1⟩
  have hA1 := hA.keep k1 (by simp)
  have hR1 := hR.keep k1 (by simp)
  have hN1 := rN.keep k1 (by simp)
  have hT1 := ownsRow_rv hT
  have K1 : Keep [] w w1 := k0.then k1 (by simp)
  have hTl : (texts T0 5 100).length ≤ 5 := by unfold texts; simp; omega
  have hTs : ∀ t ∈ texts T0 5 100, t.size ≤ 100 := by
    intro t ht
    obtain ⟨s, _, rfl⟩ := List.mem_map.1 ht
    exact cutStr_size s 100
  have hbA1 : ∀ c ∈ A0.take 20, c < 256 := fun c hc => hbA c (List.mem_of_mem_take hc)
  have hbR1 : ∀ c ∈ R0.take 20, c < 256 := fun c hc => hbR c (List.mem_of_mem_take hc)
  have hlA : (A0.take 20).length ≤ 20 := by rw [List.length_take]; omega
  have hlR : (R0.take 20).length ≤ 20 := by rw [List.length_take]; omega
  clear rA rR rN rT hA hR hT hbA hbR hmA hmR hmT hsT k0 k1
  generalize texts T0 5 100 = T at *
  generalize A0.take 20 = A at *
  generalize R0.take 20 = R at *
  obtain ⟨_, aA, capA, rfl, _, _⟩ := id hA1
  obtain ⟨_, aR, capR, rfl, _, _⟩ := id hR1
  obtain ⟨_, aT, capT, rfl, _, _⟩ := id hT1
  go_upto_if 33 with fail
  go_cut [2] (fun s2 wx => w1 = wx ∧ ∃ (v : Value) (l : List Int), s2 = v ∧ Rv w1 1 v l.length (ints l) ∧ l.length ≤ 20 ∧ (∀ n ∈ l, I64 n))
  case first =>
    by_cases h30 : 20 < Z0.length
    · have q1 : (20 : Int) < Z0.length := by omega
      go_wp2_with (refine wpList_slice_to _ _ _ _ _ _ _ 2 i0 Try.underlying23 hi hz1 _ _ _ _ 20 rfl rfl rfl hN1 (by omega) ?_; intro v1 hv1 ho1)
      go_meet
      rw [ints_take] at hv1
      have hl30 : (Z0.take 20).length = 20 := by rw [List.length_take]; omega
      exact ⟨rfl, v1, Z0.take 20, rfl, by rw [hl30]; exact hv1, by omega, fun n hn => hI n (List.mem_of_mem_take hn)⟩
    · have q1 : ¬ (20 : Int) < Z0.length := by omega
      go_wp2_with fail
      go_meet
      exact ⟨rfl, _, Z0, rfl, hN1, by omega, hI⟩
  case rest =>
    obtain ⟨rfl, vN, Z, rfl, hN, hlZ, hIZ⟩ := hcut
    clear hI hN1 hmax
    obtain ⟨_, aN, capN, rfl, _, _⟩ := id hN
    have hs1 := K1.size
    go_wp2_with (at_builtin; refine wpList_append_src _ rfl _ _ 22 22 rfl w1.heap.size 5 i8 (.int .u8 0) 1 1 Try.underlying22 hi8 hz80 hz81 hz82 rfl (by decide) (.slice none 0 0) 0 [] rfl (Buf.nil w1 _ _) _ _ _ rfl (Rd.src hA1 Try.underlying22) (by unfold maxLen; omega) (by omega) (Nat.le_refl _) ?_; intro v2 w2 h1 h2 _ h3)
    have o2 : Onto w1 w1.heap.size 5 (.slice none 0 0) A v2 w2 := by
      have := (Onto.refl (Buf.nil w1 w1.heap.size 5)).app (m := A) h1 h2 h3
      simpa using this
    clear h1 h2 h3
    have HI := Lib.hid hIZ
    have HN := Lib.hid hN
    clear hIZ hN
    go_loopg [10, 11] Z.length (fun g b i wr => ∃ (k : Nat) (v' : Value), g = Z.length - k ∧ k ≤ Z.length ∧ b = v' ∧ i = .int .i64 k ∧ Onto w1 w1.heap.size 5 (.slice none 0 0) (A ++ putAll (Z.take k)) v' wr)
    case atStart => exact ⟨0, _, rfl, by omega, rfl, rfl, by simpa [putAll] using o2⟩
    case round =>
      obtain ⟨k, v', hg, hk, rfl, rfl, hO⟩ := hrel
      have HG := Lib.hid hg
      clear hg
      have hbuf := hO.buf
      obtain ⟨ab, cb, rfl⟩ := hbuf.slice
      have hKr : Keep [] w1 wr := hO.keep.mono (by simp [Value.ownBlock])
      have hks := hO.keep.size
      by_cases hlt : k < Z.length
      · obtain ⟨sb0, so, cap4, he, _, hsb, hat⟩ := HN.out.at1 (by omega)
        simp only [Value.slice.injEq] at he
        obtain ⟨rfl, _, rfl⟩ := he
        have g4 : wr.cell? ⟨sb0, so + k, none⟩ = some (.int .i64 (Z.getD k 0)) := by
          rw [hKr.cell hsb (by simp), hat k hlt, ints_at Z k hlt]
        have st := putAll_snoc (Z.take k) (Z.getD k 0)
        rw [← take_succ_getD _ _ _ hlt] at st
        have ST := Lib.hid st
        have hx : I64 (Z.getD k 0) := HI.out _ (by simp [List.getD_eq_getElem?_getD, hlt])
        have hlen := putAll_len (Z.take k) (fun n hn => HI.out n (List.mem_of_mem_take hn))
        have hlk : (Z.take k).length ≤ 20 := by rw [List.length_take]; omega
        have hLL : (A ++ putAll (Z.take k)).length ≤ 220 := by rw [List.length_append]; omega
        clear st hat hlen
        generalize Z.getD k 0 = x at *
        have q1 : (k : Int) < Z.length := by omega
        generalize hAP : A ++ putAll (Z.take k) = AP at *
        have HAP := Lib.hid hAP
        clear hAP
        have h10 := leb_len 10 (zz x) (by have := zz_lt x hx.1 hx.2; omega) (by omega)
        go_wp2_with fail
        refine (refPut_any x hx.1 hx.2).mono ?_
        rintro e w3 ⟨v3, rfl, o3⟩
        have hsrc := Rd.src o3.buf.rd Try.underlying22
        have hb3 := hbuf.keep o3.keep (by simp [Value.ownBlock])
        have hk3 := o3.keep.size
        generalize hLX : leb (zz x) = LX at *
        have HLX := Lib.hid hLX
        clear hLX
        go_wp2_with (at_builtin; refine wpList_append_src _ rfl _ _ 22 22 rfl w1.heap.size 5 i8 (.int .u8 0) 1 1 Try.underlying22 hi8 hz80 hz81 hz82 rfl (by decide) _ _ _ rfl hb3 _ _ _ rfl hsrc (by unfold maxLen; omega) (by omega) (by omega) ?_; intro v4 w4 h1 h2 _ h3)
        have hO3 : Onto w1 w1.heap.size 5 (.slice none 0 0) AP (.slice ab AP.length cb) w3 :=
          ⟨hb3, hO.keep.then o3.keep (by simp [Value.ownBlock]), hO.own⟩
        go_roundg (Z.length - (k + 1))
        case measure => rw [HG.out]; omega
        case rel =>
          refine ⟨k + 1, v4, rfl, by omega, rfl, by go_num, ?_⟩
          rw [ST.out, ← List.append_assoc, HAP.out]
          exact hO3.app h1 h2 h3
      · obtain rfl : k = Z.length := by omega
        rw [List.take_length] at *
        have hlen := putAll_len Z HI.out
        go_wp2_with fail
        have hLL : (A ++ putAll Z).length ≤ 220 := by rw [List.length_append]; omega
        have HT := Lib.hid hT1
        have HTs := Lib.hid hTs
        clear HG hT1 hTs hlen
        generalize hAP : A ++ putAll Z = AP at *
        have HAP := Lib.hid hAP
        clear hAP hbuf hKr hks o2
        obtain ⟨wq, rfl⟩ : ∃ wo : World, wo = wr := ⟨_, rfl⟩
        go_loopg [10, 12] T.length (fun g b i wr => ∃ (k : Nat) (v' : Value), g = T.length - k ∧ k ≤ T.length ∧ b = v' ∧ i = .int .i64 k ∧ Onto w1 w1.heap.size 5 (.slice none 0 0) (AP ++ putTexts (T.take k)) v' wr ∧ (putTexts (T.take k)).length ≤ 110 * k)
        case atStart => exact ⟨0, _, rfl, by omega, rfl, rfl, by simpa [putTexts] using hO, by simp [putTexts]⟩
        case round =>
          clear hO
          obtain ⟨k, v', hg, hk, rfl, rfl, hO, hLk⟩ := hrel
          have HG := Lib.hid hg
          clear hg
          have hbuf := hO.buf
          obtain ⟨ab, cb, rfl⟩ := hbuf.slice
          have hKr : Keep [] w1 wr := hO.keep.mono (by simp [Value.ownBlock])
          have hks := hO.keep.size
          by_cases hlt : k < T.length
          · obtain ⟨sb0, so, cap4, he, _, hsb, hat⟩ := HT.out.at1 (by omega)
            simp only [Value.slice.injEq] at he
            obtain ⟨rfl, _, rfl⟩ := he
            have g4 : wr.cell? ⟨sb0, so + k, none⟩ = some (.string (T.getD k ByteArray.empty)) := by
              rw [hKr.cell hsb (by simp), hat k hlt, strs_at T k hlt]
            have st := putTexts_snoc (T.take k) (T.getD k ByteArray.empty)
            rw [← take_succ_getD _ _ _ hlt] at st
            have ST := Lib.hid st
            have hx := HTs.out (T.getD k ByteArray.empty) (by simp [List.getD_eq_getElem?_getD, hlt])
            have hLL2 : (AP ++ putTexts (T.take k)).length ≤ 770 := by rw [List.length_append]; omega
            clear st hat
            generalize T.getD k ByteArray.empty = x at *
            have q1 : (k : Int) < T.length := by omega
            have hlx : (putText x).length ≤ 110 := by
              unfold putText
              rw [List.length_append, sb_length]
              have := leb_len 10 (zz (x.size : Int)) (by have := zz_lt (x.size : Int) (by omega) (by omega); omega) (by omega)
              omega
            have hLs : (putTexts (T.take (k + 1))).length ≤ 110 * (k + 1) := by rw [ST.out, List.length_append]; omega
            have HLs := Lib.hid hLs
            clear hLs
            generalize hAQ : AP ++ putTexts (T.take k) = AQ at *
            have HAQ := Lib.hid hAQ
            clear hAQ
            go_wp2_with fail
            refine (refPutText_any x hx).mono ?_
            rintro e w3 ⟨v3, rfl, o3⟩
            have hsrc := Rd.src o3.buf.rd Try.underlying22
            have hb3 := hbuf.keep o3.keep (by simp [Value.ownBlock])
            have hk3 := o3.keep.size
            generalize hLX : putText x = LX at *
            have HLX := Lib.hid hLX
            clear hLX
            go_wp2_with (at_builtin; refine wpList_append_src _ rfl _ _ 22 22 rfl w1.heap.size 5 i8 (.int .u8 0) 1 1 Try.underlying22 hi8 hz80 hz81 hz82 rfl (by decide) _ _ _ rfl hb3 _ _ _ rfl hsrc (by unfold maxLen; omega) (by omega) (by omega) ?_; intro v4 w4 h1 h2 _ h3)
            have hO3 : Onto w1 w1.heap.size 5 (.slice none 0 0) AQ (.slice ab AQ.length cb) w3 :=
              ⟨hb3, hO.keep.then o3.keep (by simp [Value.ownBlock]), hO.own⟩
            go_roundg (T.length - (k + 1))
            case measure => rw [HG.out]; omega
            case rel =>
              refine ⟨k + 1, v4, rfl, by omega, rfl, by go_num, ?_, HLs.out⟩
              rw [ST.out, ← List.append_assoc, HAQ.out]
              exact hO3.app h1 h2 h3
          · obtain rfl : k = T.length := by omega
            rw [List.take_length] at *
            have hA2 := hA1.keep hKr (by simp)
            have hN2 := HN.out.keep hKr (by simp)
            have hT2 := HT.out.keep hKr (by simp)
            have hR2 := hR1.keep hKr (by simp)
            have K2 : Keep [] w wr := K1.then hKr (by simp)
            have hLL2 : (AP ++ putTexts T).length ≤ 770 := by rw [List.length_append]; omega
            clear HG HN HT
            generalize hWT : AP ++ putTexts T = WT at *
            have HWT := Lib.hid hWT
            clear hWT
            go_wp2_with (at_builtin; refine wpList_append_src _ rfl _ _ 22 22 rfl wr.heap.size 5 i8 (.int .u8 0) 1 1 Try.underlying22 hi8 hz80 hz81 hz82 rfl (by decide) (.slice none 0 0) 0 [] rfl (Buf.nil wr _ _) _ _ _ rfl (Rd.src hA2 Try.underlying22) (by unfold maxLen; omega) (by omega) (Nat.le_refl _) ?_; intro v5 w5 h1 h2 _ h3)
            have o5 : Onto wr wr.heap.size 5 (.slice none 0 0) A v5 w5 := by
              have := (Onto.refl (Buf.nil wr wr.heap.size 5)).app (m := A) h1 h2 h3
              simpa using this
            clear h1 h2 h3
            have hKr5 : Keep [] wr w5 := o5.keep.mono (by simp [Value.ownBlock])
            have hks5 := hKr5.size
            have hNown : 0 < Z.length → ∀ b, (Value.slice aN Z.length capN).ownBlock = some b → v5.ownBlock ≠ some b := by
              intro hp b hb e
              obtain ⟨sb0, so, cap', he, _, hsb, _⟩ := hN2.at1 hp
              rw [he] at hb; cases hb
              have hge : wr.heap.size ≤ sb0 := (o5.buf.lt _ e).1
              omega
            refine (Put_any wr.heap.size v5 A _ Z o5.buf (hN2.keep hKr5 (by simp)) hNown HI.out (by omega) hks5).mono ?_
            rintro e w6 ⟨v6, rfl, p6⟩
            have o6 := o5.trans p6
            have hKr6 : Keep [] wr w6 := o6.keep.mono (by simp [Value.ownBlock])
            have hks6 := hKr6.size
            have hTown : 0 < T.length → ∀ b, (Value.slice aT T.length capT).ownBlock = some b → v6.ownBlock ≠ some b := by
              intro hp b hb e
              obtain ⟨sb0, so, cap', he, _, hsb, _⟩ := hT2.at1 hp
              rw [he] at hb; cases hb
              have hge : wr.heap.size ≤ sb0 := (o6.buf.lt _ e).1
              omega
            clear p6 hNown
            rw [HAP.out] at o6
            go_wp2_with fail
            refine (PutText_any wr.heap.size v6 AP _ T o6.buf (hT2.keep hKr6 (by simp)) hTown 100 HTs.out (by omega) hks6).mono ?_
            rintro e w7 ⟨v7, rfl, p7⟩
            have o7 := o6.trans p7
            have hKr7 : Keep [] wr w7 := o7.keep.mono (by simp [Value.ownBlock])
            have hks7 := hKr7.size
            clear p7 hTown
            rw [HWT.out] at o7
            have hbW : ∀ c ∈ WT, c < 256 := by
              intro c hc
              rw [← HWT.out] at hc
              rcases List.mem_append.1 hc with h | h
              · rw [← HAP.out] at h
                rcases List.mem_append.1 h with h | h
                · exact hbA1 c h
                · exact putAll_byte Z c h
              · simp only [putTexts, List.mem_flatten, List.mem_map] at h
                obtain ⟨x, ⟨t, _, rfl⟩, hx⟩ := h
                exact putText_byte t c hx
            have hcv1 := Rd.str (P := Try.prog) (src := 22) (dst := 9) o7.buf.rd hbW Try.underlying22 Try.underlying5 Try.underlying9
            have hcv2 := Rd.str (P := Try.prog) (src := 22) (dst := 9) (hbuf.keep hKr7 (by simp)).rd hbW Try.underlying22 Try.underlying5 Try.underlying9
            have hb7 := o7.buf.rd
            have hR7 := hR2.keep hKr7 (by simp)
            have hN7 := hN2.keep hKr7 (by simp)
            have hT7 := hT2.keep hKr7 (by simp)
            have K7 : Keep [] w w7 := K2.then hKr7 (by simp)
            have hWl : A.length ≤ WT.length := by rw [← HWT.out, ← HAP.out]; simp only [List.length_append]; omega
            have hdr : ((bcs WT).drop A.length).take (WT.length - A.length) = bcs (putAll Z ++ putTexts T) := by
              rw [← HWT.out, ← HAP.out, List.append_assoc, bcs_append, List.drop_append, bcs_length, Nat.sub_self, List.drop_zero, List.drop_of_length_le (by simp), List.nil_append]
              apply List.take_of_length_le
              simp
            have hln : WT.length - A.length = (putAll Z ++ putTexts T).length := by rw [← HWT.out, ← HAP.out]; simp only [List.length_append]; omega
            have HDR := Lib.hid hdr
            have HLN := Lib.hid hln
            obtain ⟨a7, cap7, rfl⟩ := o7.buf.slice
            clear hdr hln o7 o6 o5 hA2 hN2 hT2 hR2 hKr5 hKr6 hKr7
            go_wp2_with (first
              | (refine wpList_slice_full _ _ _ _ _ _ _ _ _ 5 i8 Try.underlying22 hi8 hz81 _ _ _ _ _ _ A.length WT.length rfl rfl rfl rfl rfl rfl rfl hb7 hWl (Nat.le_refl _) ?_; intro ad8 hv8 _)
              | (at_builtin; refine wpList_append_full rfl _ _ 22 22 rfl 5 i8 (.int .u8 0) Try.underlying22 hi8 hz80 hz81 (by omega) rfl _ _ _ rfl hv8 _ _ _ rfl (Rd.src hR7 Try.underlying22) (by rw [HDR.out]; exact bcs_one _) (by omega) ?_; intro v9 w9 hv9 k9))
            rw [HDR.out, HLN.out, ← bcs_append] at hv9
            have r9 : Rd w9 v9 (putAll Z ++ putTexts T ++ R) := by
              unfold Rd; rw [List.length_append (bs := R)]; exact hv9
            have hN9 := hN7.keep k9 (by simp)
            have hT9 := hT7.keep k9 (by simp)
            have hR9 := hR7.keep k9 (by simp)
            have K9 : Keep [] w w9 := K7.then k9 (by simp)
            have hL9 : (putAll Z ++ putTexts T ++ R).length ≤ 2000 := by
              rw [List.length_append, ← HLN.out]; omega
            have hb9 : ∀ c ∈ putAll Z ++ putTexts T ++ R, c < 256 := by
              intro c hc
              rcases List.mem_append.1 hc with h | h
              · refine hbW c ?_
                rw [← HWT.out, ← HAP.out, List.append_assoc]
                exact List.mem_append_right _ h
              · exact hbR1 c h
            have HN9 := Lib.hid hN9
            have HT9 := Lib.hid hT9
            clear hv9 hN7 hT7 hR7 k9 hN9 hT9 hcv1 hcv2 hbW hb7 HDR HLN hv8 hWl
            obtain ⟨wp, rfl⟩ : ∃ wo : World, wo = wr := ⟨_, rfl⟩
            go_loopg [13, 14] Z.length (fun g b i wr => ∃ (k : Nat) (v' : Value), g = Z.length - k ∧ k ≤ Z.length ∧ w9 = wr ∧ b = v' ∧ i = .int .i64 k ∧ Rd w9 v' (putAll (Z.drop k) ++ putTexts T ++ R))
            case atStart => exact ⟨0, _, rfl, by omega, rfl, rfl, rfl, by simpa using r9⟩
            case round =>
              obtain ⟨k, v', hg, hk, rfl, rfl, rfl, hv⟩ := hrel
              have HG := Lib.hid hg
              clear hg
              by_cases hlt : k < Z.length
              · obtain ⟨sb0, so, cap4, he, _, hsb, hat⟩ := HN9.out.at1 (by omega)
                simp only [Value.slice.injEq] at he
                obtain ⟨rfl, _, rfl⟩ := he
                have g4 : w9.cell? ⟨sb0, so + k, none⟩ = some (.int .i64 (Z.getD k 0)) := by rw [hat k hlt, ints_at Z k hlt]
                have hx : I64 (Z.getD k 0) := HI.out _ (by simp [List.getD_eq_getElem?_getD, hlt])
                have hdc : putAll (Z.drop k) ++ putTexts T ++ R = leb (zz (Z.getD k 0)) ++ (putAll (Z.drop (k + 1)) ++ putTexts T ++ R) := by
                  rw [drop_cons Z 0 k hlt, putAll_cons]; simp
                have hsub : ∀ c ∈ putAll (Z.drop k) ++ putTexts T ++ R, c < 256 := by
                  intro c hc
                  refine hb9 c ?_
                  rw [List.append_assoc] at hc ⊢
                  rcases List.mem_append.1 hc with h | h
                  · refine List.mem_append_left _ ?_
                    have : Z = Z.take k ++ Z.drop k := (List.take_append_drop k Z).symm
                    rw [this]
                    simp only [putAll, List.map_append, List.flatten_append]
                    exact List.mem_append_right _ h
                  · exact List.mem_append_right _ h
                have hll : (putAll (Z.drop k) ++ putTexts T ++ R).length ≤ 2000 := by
                  have h1 : (putAll (Z.drop k)).length ≤ 10 * (Z.drop k).length := putAll_len _ (fun n hn => HI.out n (List.mem_of_mem_drop hn))
                  have h2 : (Z.drop k).length ≤ 20 := by rw [List.length_drop]; omega
                  simp only [List.length_append] at hL9 ⊢
                  omega
                have hge : get (putAll (Z.drop k) ++ putTexts T ++ R) = (Z.getD k 0, (leb (zz (Z.getD k 0))).length, 0) := by rw [hdc]; exact get_leb _ hx.1 hx.2 _
                have hlo : (leb (zz (Z.getD k 0))).length ≤ (putAll (Z.drop k) ++ putTexts T ++ R).length := by rw [hdc]; simp
                have hdd : (putAll (Z.drop k) ++ putTexts T ++ R).drop (leb (zz (Z.getD k 0))).length = putAll (Z.drop (k + 1)) ++ putTexts T ++ R := by
                  rw [hdc, List.drop_append, Nat.sub_self, List.drop_zero, List.drop_of_length_le (Nat.le_refl _), List.nil_append]
                have HGE := Lib.hid hge.symm
                have HDD := Lib.hid hdd
                clear hat hdc hge hdd
                generalize (leb (zz (Z.getD k 0))).length = nn at *
                generalize Z.getD k 0 = x at *
                generalize putAll (Z.drop k) ++ putTexts T ++ R = LL at *
                have q1 : (k : Int) < Z.length := by omega
                go_wp2_with fail
                refine (Get_any _ LL hv hsub (by omega) (x, nn, 0) HGE.out).mono ?_
                rintro e w' ⟨rfl, rfl⟩
                go_wp2_with (refine wpList_slice_lo _ _ _ _ _ _ _ 5 i8 Try.underlying22 hi8 hz81 _ _ _ _ nn rfl rfl rfl hv hlo ?_; intro v10 hv10 _)
                go_roundg (Z.length - (k + 1))
                case measure => rw [HG.out]; omega
                case rel => exact ⟨k + 1, v10, rfl, by omega, rfl, rfl, by go_num, rd_drop nn hv10 _ HDD.out⟩
              · obtain rfl : k = Z.length := by omega
                have e0 : putAll (Z.drop Z.length) ++ putTexts T ++ R = putTexts T ++ R := by simp [putAll]
                rw [e0] at hv
                clear e0 HG r9
                go_wp2_with fail
                obtain ⟨wz, rfl⟩ : ∃ wo : World, wo = w9 := ⟨_, rfl⟩
                go_loopg [13, 18] T.length (fun g b i wr => ∃ (k : Nat) (v' : Value), g = T.length - k ∧ k ≤ T.length ∧ wz = wr ∧ b = v' ∧ i = .int .i64 k ∧ Rd wz v' (putTexts (T.drop k) ++ R))
                case atStart => exact ⟨0, _, rfl, by omega, rfl, rfl, rfl, by simpa using hv⟩
                case round =>
                  clear hv
                  obtain ⟨k, v', hg, hk, rfl, rfl, rfl, hv⟩ := hrel
                  have HG := Lib.hid hg
                  clear hg
                  by_cases hlt : k < T.length
                  · obtain ⟨sb0, so, cap4, he, _, hsb, hat⟩ := HT9.out.at1 (by omega)
                    simp only [Value.slice.injEq] at he
                    obtain ⟨rfl, _, rfl⟩ := he
                    have g4 : wz.cell? ⟨sb0, so + k, none⟩ = some (.string (T.getD k ByteArray.empty)) := by rw [hat k hlt, strs_at T k hlt]
                    have hx := HTs.out (T.getD k ByteArray.empty) (by simp [List.getD_eq_getElem?_getD, hlt])
                    have hdc : putTexts (T.drop k) ++ R = putText (T.getD k ByteArray.empty) ++ (putTexts (T.drop (k + 1)) ++ R) := by
                      rw [drop_cons T ByteArray.empty k hlt, putTexts_cons]; simp
                    have hT0 : putTexts T = putTexts (T.take k) ++ putTexts (T.drop k) := by
                      have e : T = T.take k ++ T.drop k := (List.take_append_drop k T).symm
                      conv => lhs; rw [e]
                      simp only [putTexts, List.map_append, List.flatten_append]
                    have hsub : ∀ c ∈ putTexts (T.drop k) ++ R, c < 256 := by
                      intro c hc
                      refine hb9 c ?_
                      rcases List.mem_append.1 hc with h | h
                      · refine List.mem_append_left _ (List.mem_append_right _ ?_)
                        rw [hT0]
                        exact List.mem_append_right _ h
                      · exact List.mem_append_right _ h
                    have hll : (putTexts (T.drop k) ++ R).length ≤ 2000 := by
                      have := congrArg List.length hT0
                      simp only [List.length_append] at hL9 this ⊢
                      omega
                    have hge : getText (putTexts (T.drop k) ++ R) = (sb (T.getD k ByteArray.empty), (putText (T.getD k ByteArray.empty)).length, 0) := by rw [hdc]; exact getText_putText _ hx _
                    have hlo : (putText (T.getD k ByteArray.empty)).length ≤ (putTexts (T.drop k) ++ R).length := by rw [hdc]; simp
                    have hdd : (putTexts (T.drop k) ++ R).drop (putText (T.getD k ByteArray.empty)).length = putTexts (T.drop (k + 1)) ++ R := by
                      rw [hdc, List.drop_append, Nat.sub_self, List.drop_zero, List.drop_of_length_le (Nat.le_refl _), List.nil_append]
                    have hst := toStr_sb (T.getD k ByteArray.empty)
                    have HGE := Lib.hid hge.symm
                    have HDD := Lib.hid hdd
                    have HST := Lib.hid hst
                    clear hat hdc hge hdd hst hT0
                    generalize (putText (T.getD k ByteArray.empty)).length = nn at *
                    generalize T.getD k ByteArray.empty = x at *
                    generalize putTexts (T.drop k) ++ R = LL at *
                    have q1 : (k : Int) < T.length := by omega
                    go_wp2_with fail
                    refine (GetText_any _ LL hv hsub (by omega) (sb x, nn, 0) HGE.out).mono ?_
                    rintro e w' ⟨rfl, rfl⟩
                    rw [HST.out]
                    go_wp2_with (refine wpList_slice_lo _ _ _ _ _ _ _ 5 i8 Try.underlying22 hi8 hz81 _ _ _ _ nn rfl rfl rfl hv hlo ?_; intro v10 hv10 _)
                    go_roundg (T.length - (k + 1))
                    case measure => rw [HG.out]; omega
                    case rel => exact ⟨k + 1, v10, rfl, by omega, rfl, rfl, by go_num, rd_drop nn hv10 _ HDD.out⟩
                  · obtain rfl : k = T.length := by omega
                    have e0 : putTexts (T.drop T.length) ++ R = R := by simp [putTexts]
                    rw [e0] at hv
                    have hcv1 := Rd.str (P := Try.prog) (src := 22) (dst := 9) hv hbR1 Try.underlying22 Try.underlying5 Try.underlying9
                    have hcv2 := Rd.str (P := Try.prog) (src := 22) (dst := 9) hR9 hbR1 Try.underlying22 Try.underlying5 Try.underlying9
                    clear e0 HG
                    go_wp2_with fail
                    go_ret
                    exact ⟨rfl, K9.below⟩
end Go.Proofs.Ythknelejcedhnaa
