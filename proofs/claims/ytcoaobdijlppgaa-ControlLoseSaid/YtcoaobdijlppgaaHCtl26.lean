/- ControlLose: the walk. -/
import Derived.Test.YtcoaobdijlppgaaHCtl23
namespace Go.Proofs.Ytcoaobdijlppgaa
open Go.ChangeShapes Go.WideShapes Go.ChangeAt Go.RowKit
set_option linter.unusedVariables false
set_option linter.unusedSimpArgs false
set_option maxRecDepth 100000

section
variable {lo : Nat} {w : World} {c d kb g B n : Nat} {t : Ct} {f : Int → Option Int} {now : Int}
theorem Auth.c0 (h : Auth lo w c d kb g t B n f now) : w.cell? ⟨c, 0, none⟩ = some (.pointer (some ⟨kb, 0, none⟩)) := by
  obtain ⟨s, sb, base, vm, vt, vn, vd, a1, _⟩ := h
  exact (ctc_0 a1).1
theorem Auth.clock (h : Auth lo w c d kb g t B n f now) : IsClock w kb now := by
  obtain ⟨s, sb, base, vm, vt, vn, vd, a1, a2, a3, a4, a5, al, a6, a7⟩ := h
  exact a7
theorem Auth.ticked (h : Auth lo w c d kb g t B n f now) {w' : World} {m : Int} (hk : IsClock w' kb m) (k : Keep [kb] w w') : Auth lo w' c d kb g t B n f m := by
  obtain ⟨s, sb, base, vm, vt, vn, vd, a1, a2, a3, a4, a5, al, a6, a7⟩ := h
  have hn : ∀ q (T : TypeId), T ≠ 54 → Ty w q T → q ∉ [kb] := fun q T hT hq hm => by simp at hm; subst hm; exact a7.blk.ty.ne hq (Ne.symm hT) rfl
  have hi : ∀ q ∈ [kb], ¬ Ty w q 3 := fun q hq ht => by simp at hq; subst hq; exact a7.blk.ty.ne ht (by decide) rfl
  have hu : ∀ q ∈ [kb], ¬ Ty w q 5 := fun q hq ht => by simp at hq; subst hq; exact a7.blk.ty.ne ht (by decide) rfl
  have hd : CtD w' d sb s (stT t.epoch t.top t.mem) B := by
    have a40 := a4
    obtain ⟨L, kk, turn, slot, e1, e2, e3⟩ := a4
    obtain ⟨tv, hb, _⟩ := e2
    exact a40.keep k (hn d _ (by decide) e1.dev.ty) (hn sb _ (by decide) e1.secs.ty) (hn s _ (by decide) hb.ty) hu
  exact ⟨s, sb, base, vm, vt, vn, vd, a1.keep k (hn c _ (by decide) (Blk.ty a1)), a2.keep k hi, Nat.le_trans a3 k.size, hd, a5, al, a6.keep k (fun hm => a6.ne (T := 54) (by simp at hm; rw [hm]; exact a7.blk.ty) rfl), hk⟩
theorem Auth.beat_wait (h : Auth lo w c d kb g t B n f now) (h0 : t.num ≠ 0) (h1 : t.phase ≠ 1) (h2 : t.phase ≠ 2) (hlo : I64 t.lost) (a : Int) (hfa : f t.lost = some a) (hl : 0 < t.lost) (hs : since now a < 40) :
    Calls Try.prog 13 #[.pointer (some ⟨c, 0, none⟩)] w fun e w' => e = .returned (.slice none 0 0) ∧ Auth lo w' c d kb g t B n f now ∧ Keep [] w w' := by
  have h9 := h
  obtain ⟨s, sb, base, vm, vt, vn, vd, a1, a2, a3, a4, a5, al, a6, a7⟩ := h
  refine Beat_via a1 h0 h1 h2 _ ((commit_wait a1 a6 a7 hlo a hfa hl hs).mono ?_)
  rintro e w' ⟨rfl, k⟩
  exact ⟨_, rfl, rfl, h9.keep k, k⟩
end
/-- The authority of the law. -/
def LsA (W0 : World) (c d kb g : Nat) (t : Ct) (B n : Nat) (f : Int → Option Int) (now : Int) (w : World) : Prop := Auth W0.heap.size w c d kb g t B n f now ∧ W0.heap.size ≤ kb ∧ W0.heap.size ≤ g ∧ Keep [] W0 w
def lsT (phase : Int) : Ct := ⟨1, 2, [1, 2], 2, phase, [1], [1], 2, []⟩
theorem tickAll_one (a b : Int) (ha : 0 ≤ a) (hb : 0 ≤ b) (h : a + b ≤ 1099511627776) : a + b = tickAll a [b] := by
  unfold tickAll tick1
  simp only [List.foldl_cons, List.foldl_nil]
  rw [if_pos (by omega)]
theorem TRow.len {w : World} {base : Nat} {v : Value} {L : List Tm} (h : TRow w base v L) (k : Nat) (hk : L.length = k) : ∃ a cap, v = .slice a k cap := by
  subst hk
  exact h.slice
set_option maxHeartbeats 8000000 in
theorem controlLose_walk (gr wt : Int) (op : Bool) (w : World) (hg : (Lit.int .i64 gr).wf = true) (hw : (Lit.int .i64 wt).wf = true) :
    Calls Try.prog 7 #[.int .i64 gr, .int .i64 wt, .bool op] w fun e w' => e = .returned (.bool true) ∧ Below w.heap.size w w' := by
  have hgi := i64_wf hg
  have hwi := i64_wf hw
  clear hg hw
  have hbr : ∀ (W : World), (Instr.build 39 #[(0, .int .i64 1), (1, .int .i64 2), (3, .int .i64 1)]).run Try.prog W = .ok (msV (wordM 1 2 1 false) (.slice none 0 0) (.slice none 0 0) (.slice none 0 0) (.slice none 0 0)) W := fun W => run_renew W 2 1
  have hbp : ∀ (W : World), (Instr.build 39 #[(0, .int .i64 4), (1, .int .i64 1), (3, .int .i64 2), (11, .bool true)]).run Try.prog W = .ok (msV (wordM 4 1 2 true) (.slice none 0 0) (.slice none 0 0) (.slice none 0 0) (.slice none 0 0)) W := fun W => run_prepared W 1 2 true
  have hbf : ∀ (W : World), (Instr.build 39 #[(0, .int .i64 10), (1, .int .i64 1), (3, .int .i64 2)]).run Try.prog W = .ok (msV (wordM 10 1 2 false) (.slice none 0 0) (.slice none 0 0) (.slice none 0 0) (.slice none 0 0)) W := fun W => run_frozen W 1 2
  obtain ⟨bad, hbad⟩ : ∃ bad, bad = !decide (0 ≤ gr ∧ gr ≤ 30 ∧ 0 ≤ wt ∧ wt ≤ 60) := ⟨_, rfl⟩
  have HBAD := Lib.hid hbad
  clear hbad
  go_enter Try.func7, Try.ntmps7
  go_wp2_with fail
  refine (begun23 w).mono ?_
  rintro e w0 ⟨rfl, k0⟩
  go_upto_region 4 with fail
  go_cut [34] (fun s34 wc => s34 = .bool bad ∧ w0 = wc)
  case first =>
    by_cases h1 : gr < 0
    · have q1 : decide (gr < 0) = true := decide_eq_true h1
      have HF : Hid (bad = true) := Lib.hid (by rw [HBAD.out, decide_eq_false (by omega)]; rfl)
      go_wp2_with fail
      go_meet
      exact ⟨by rw [HF.out], rfl⟩
    · have q1 : decide (gr < 0) = false := decide_eq_false h1
      by_cases h2 : 30 < gr
      · have q2 : decide (30 < gr) = true := decide_eq_true h2
        have HF : Hid (bad = true) := Lib.hid (by rw [HBAD.out, decide_eq_false (by omega)]; rfl)
        go_wp2_with fail
        go_meet
        exact ⟨by rw [HF.out], rfl⟩
      · have q2 : decide (30 < gr) = false := decide_eq_false h2
        by_cases h3 : wt < 0
        · have q3 : decide (wt < 0) = true := decide_eq_true h3
          have HF : Hid (bad = true) := Lib.hid (by rw [HBAD.out, decide_eq_false (by omega)]; rfl)
          go_wp2_with fail
          go_meet
          exact ⟨by rw [HF.out], rfl⟩
        · have q3 : decide (wt < 0) = false := decide_eq_false h3
          by_cases h4 : 60 < wt
          · have q4 : decide (60 < wt) = true := decide_eq_true h4
            have HF : Hid (bad = true) := Lib.hid (by rw [HBAD.out, decide_eq_false (by omega)]; rfl)
            go_wp2_with fail
            go_meet
            exact ⟨by rw [HF.out], rfl⟩
          · have q4 : decide (60 < wt) = false := decide_eq_false h4
            have HF : Hid (bad = false) := Lib.hid (by rw [HBAD.out, decide_eq_true (by omega)]; rfl)
            go_wp2_with fail
            go_meet
            exact ⟨by rw [HF.out], rfl⟩
  case rest =>
  obtain ⟨rfl, rfl⟩ := hcut
  cases bad with
  | true =>
    go_wp2_with fail
    go_ret
    exact ⟨rfl, k0.below⟩
  | false =>
  have hr : 0 ≤ gr ∧ gr ≤ 30 ∧ 0 ≤ wt ∧ wt ≤ 60 := by
    have h := HBAD.out
    by_cases hh : 0 ≤ gr ∧ gr ≤ 30 ∧ 0 ≤ wt ∧ wt ≤ 60
    · exact hh
    · rw [decide_eq_false hh] at h; cases h
  clear HBAD hgi hwi
  have HR := Lib.hid hr
  clear hr
  have hck := Blk.new w0 [.int .i64 0] 54
  have K0 := (Keep.refl [] w0).alloc (.cells #[.int .i64 0] 54)
  go_upto_region 7 with fail
  obtain ⟨cb, hcb⟩ : ∃ cb, cb = w0.heap.size := ⟨_, rfl⟩
  rw [← hcb] at hck ⊢
  have HCB := Lib.hid hcb
  clear hcb
  generalize w0.alloc (.cells #[.int .i64 0] 54) = wk at *
  go_wp2_with fail
  refine (New_any 2 2 (by decide)).mono ?_
  rintro e w1 ⟨d, sb, rfl, hd, k1, z1, z2⟩
  go_wp2_with fail
  have hrow : Rv (w1.alloc (.cells #[.int .i64 1, .int .i64 2] 3)) 1 (.slice (some ⟨w1.heap.size, 0, none⟩) 2 2) 2 (ints [1, 2]) := Rv.new _ (ints [1, 2]) 3 1 2 2 rfl (by omega) w1.heap.size rfl
  have K1 := (Keep.refl [] w1).alloc (.cells #[.int .i64 1, .int .i64 2] 3)
  have hs1 := k1.size
  have hs0 := K0.size
  refine (Auth.make (lo := w0.heap.size) (B := 1) (hd.keep K1 (by simp) (by simp)) (by decide) (by omega) (by decide) _ [1, 2] hrow (by decide) ⟨by omega, by omega, by simp; omega⟩).mono ?_
  rintro e w2 ⟨c, kb, g, rfl, hA, T2, _, zk, zg⟩
  have KK : Keep [] w0 w2 := T2.after ((K0.trans k1).trans K1)
  have hck2 : IsClock w2 cb 0 := by
    have h1 : Blk w1 cb [.int .i64 0] 54 := hck.keep k1 (by simp)
    exact ⟨T2.blk (h1.keep K1 (by simp)) (by decide), by omega, by omega⟩
  have HL : Hid (LsA w0 c d kb g ⟨1, 1, [1, 2], 0, 0, [], [], 0, []⟩ 1 0 (fun _ => none) 0 w2) := Lib.hid ⟨hA, by simp at zk; omega, by simp at zg; omega, KK⟩
  clear hd hrow K1 hs1 T2 k1 z1 z2 hA KK zk zg hck K0 hs0
  go_upto_if 44 with fail
  go_cut [10, 11] (fun s10 s11 wc => ∃ (c kb g n : Nat) (f : Int → Option Int), s10 = .pointer (some ⟨c, 0, none⟩) ∧ n ≤ 5 ∧ LsA w0 c d kb g ⟨1, 1, [1, 2], 0, 0, [], [], 0, []⟩ 1 n f 0 wc)
  case first =>
    cases op with
    | false =>
      go_wp2_with fail
      go_meet
      exact ⟨c, kb, g, 0, _, rfl, by omega, HL.out⟩
    | true =>
      obtain ⟨hA, _, _, hK⟩ := HL.out
      go_wp2_with fail
      refine (hA.has.openA (by omega) hK.size (by decide) ⟨by decide, by decide, by decide⟩ (.pointer (some ⟨cb, 0, none⟩)) 0 (.inr ⟨cb, rfl, hck2⟩)).mono ?_
      rintro e w6 ⟨c6, kb6, g6, rfl, hA6, k6, zg, hkb⟩
      have hb6 : kb6 = cb ∨ w2.heap.size ≤ kb6 := by
        rcases hkb with h | h
        · simp only [Value.pointer.injEq, Option.some.injEq, Addr.mk.injEq, and_true] at h
          exact .inl h.symm
        · exact .inr h
      have hsz := hK.size
      have HL6 : Hid (LsA w0 c6 d kb6 g6 ⟨1, 1, [1, 2], 0, 0, [], [], 0, []⟩ 1 5 (gF 0 5) 0 w6) := Lib.hid ⟨hA6, by have := HCB.out; omega, by omega, hK.trans k6⟩
      clear hA hK hA6 k6 zg hkb hb6 hsz
      go_wp2_with fail
      go_meet
      exact ⟨c6, kb6, g6, 5, _, rfl, by omega, HL6.out⟩
  case rest =>
  clear HL hck2
  obtain ⟨c, kb, g, n, f, rfl, hn5, hLs⟩ := hcut
  obtain ⟨hA, zk, zg, hK⟩ := hLs
  have HN5 := Lib.hid hn5
  have HZ := Lib.hid (show w0.heap.size ≤ kb ∧ w0.heap.size ≤ g from ⟨zk, zg⟩)
  clear hn5 zk zg
  have c0 := hA.c0
  have hck := hA.clock
  have HKL := Lib.hid hck.blk.lt
  have hgr := HR.out
  have kA := (Keep.refl [] wc).alloc (.cells #[.int .i64 gr] 2)
  have hck1 := hck.keep kA (by simp)
  have hA1 := hA.keep kA
  have hK1 := hK.trans kA
  have hT1 := tick_lit wc.heap.size 1 [gr] 2 hck1 (by have := HKL.out; omega) (Blk.new wc [.int .i64 gr] 2) (by simp) (by simp) 1 rfl gr (by have := tickAll_one 0 gr (by omega) (by omega) (by omega); simpa using this)
  have HT1 := Lib.hid hT1
  clear hT1 hck hck1 hA hK hgr
  go_wp2_with fail
  refine HT1.out.mono ?_
  rintro e w3 ⟨rfl, hc3, k3⟩
  have hA3 := hA1.ticked hc3 k3
  have K3 : Keep [] w0 w3 := hK1.then k3 (fun q hq hlt => by have := HZ.out; simp at hq; omega)
  clear HT1 hA1 hK1 kA hc3 k3 c0 HKL
  go_wp2_with fail
  have h2m : (2 : Int) ∈ ([1, 2] : List Int) := by decide
  refine (hA3.renew_grant 2 1 (by decide) (by decide) (by show (0 : Int) ≤ 1; decide) h2m (by show (2 : Int) ≠ 0; decide) (by show 0 < ([1, 2] : List Int).length; decide) (by have := HN5.out; unfold maxLen; omega)).mono ?_
  rintro e w4 ⟨v4, L4, rfl, hO4, _, hA4, k4⟩
  have K4 : Keep [] w0 w4 := K3.then k4 (fun q hq hlt => by have := HZ.out; simp at hq; omega)
  obtain ⟨va4, vc4, rfl⟩ := hO4.slice
  clear hO4 hA3 K3 k4
  generalize hf4 : (fun i : Int => if i = 2 then some gr else f i) = f4 at hA4
  have HF4 : Hid (f4 2 = some gr) := Lib.hid (by rw [← hf4]; rfl)
  clear hf4 h2m
  go_wp2_with fail
  refine (Lose_via 2 (fun e w' => ∃ a nn cap, e = .returned (.tuple #[.slice a nn cap, .int .i64 0]) ∧ LsA w0 c d kb g (lsT 1) 2 (n + 1) f4 gr w') ?_).mono ?_
  · refine (hA4.leave (by omega) (by show ∀ n ∈ ([1, 2] : List Int), 1 ≤ n ∧ n ≤ 5; decide) (by show 1 < ([1, 2] : List Int).length; decide) (by show I64 1; exact ⟨by decide, by decide⟩) ⟨by show (0 : Int) ≤ 1; decide, by show (1 : Int) < 1099511627776; decide⟩ rfl 2 2 (by show (2 : Int) ∈ ([1, 2] : List Int); decide) (by show 0 < (bothL ([1, 2] : List Int) [] 2).length; decide)).mono ?_
    rintro e w5 ⟨v, L, rfl, hO, _, hA5, T5⟩
    obtain ⟨va, vc, rfl⟩ := hO.slice
    exact ⟨_, 0, rfl, va, _, vc, rfl, hA5, HZ.out.1, HZ.out.2, T5.after K4⟩
  rintro e w5 ⟨a5, n5, cap5, rfl, hL5⟩
  clear hA4 K4
  obtain ⟨hA5, _, _, K5⟩ := hL5
  go_wp2_with fail
  refine (hA5.renew_no 2 1 (by decide) (by decide) ⟨by show (0 : Int) ≤ 1; decide, by show (1 : Int) ≤ 1; decide⟩ (fun h => h.2 rfl)).mono ?_
  rintro e w6 ⟨rfl, hA6, k6⟩
  have K6 := K5.trans k6
  clear hA5 K5 k6
  go_wp2_with fail
  refine (hA6.prep_all 1 2 (by decide) (by decide) (by decide) (by decide) (by decide) (by decide) (by decide) ⟨by decide, rfl, rfl, by decide⟩).mono ?_
  rintro e w7 ⟨v, L, rfl, _, _, hA7', T7⟩
  have hA7 : Auth w0.heap.size w7 c d kb g (lsT 2) 2 (n + 1) f4 gr := hA7'
  have K7 := T7.after K6
  clear hA6 K6 T7 hA7'
  have c0 := hA7.c0
  have hck := hA7.clock
  have HKL := Lib.hid hck.blk.lt
  have hwt := HR.out
  obtain ⟨m, hm⟩ : ∃ m, m = gr + wt := ⟨_, rfl⟩
  have HM := Lib.hid hm
  have kA := (Keep.refl [] w7).alloc (.cells #[.int .i64 wt] 2)
  have hck1 := hck.keep kA (by simp)
  have hA8 := hA7.keep kA
  have hK8 := K7.trans kA
  have hT1 := tick_lit w7.heap.size 1 [wt] 2 hck1 (by have := HKL.out; omega) (Blk.new w7 [.int .i64 wt] 2) (by simp) (by simp) 1 rfl m (by rw [hm]; exact tickAll_one gr wt (by omega) (by omega) (by omega))
  have HT1 := Lib.hid hT1
  clear hT1 hck hck1 hA7 K7 hwt hm
  go_wp2_with fail
  refine HT1.out.mono ?_
  rintro e w9 ⟨rfl, hc9, k9⟩
  have hA9 := hA8.ticked hc9 k9
  have K9 : Keep [] w0 w9 := hK8.then k9 (fun q hq hlt => by have := HZ.out; simp at hq; omega)
  clear HT1 hA8 hK8 kA hc9 k9 c0 HKL
  have hsi : since m gr = wt := by
    have := HR.out
    rw [HM.out]
    unfold since
    rw [if_neg (by omega)]
    omega
  have HSI := Lib.hid hsi
  clear hsi
  by_cases hd : 40 ≤ wt
  · have q : decide (40 ≤ wt) = true := decide_eq_true hd
    go_wp2_with fail
    refine (hA9.froz_go 1 2 false (by decide) (by decide) (by omega) (by decide) (by decide) (by decide) (by decide) ⟨⟨by decide, by decide⟩, ⟨by decide, by decide⟩⟩ ⟨by decide, by decide⟩ (.inr (.inr ⟨gr, HF4.out, by rw [HSI.out]; exact hd⟩)) (by decide) ⟨by decide, rfl, rfl, by decide⟩).mono ?_
    rintro e w10 ⟨v, L, rfl, hO, hL, hA10', T10⟩
    have hA10 : Auth w0.heap.size w10 c d kb g ⟨2, 2, [1], 0, 0, [], [], 0, []⟩ 3 (n + 1) f4 m := hA10'
    have K10 := T10.after K9
    have hlen : L.length = 2 := by have h2 := congrArg List.length hL; rw [List.length_map, List.length_map] at h2; rw [h2]; decide
    obtain ⟨va, vc, rfl⟩ := hO.len 2 hlen
    have hB := hA10.beat_none rfl
    have hE : Calls Try.prog 14 #[.pointer (some ⟨c, 0, none⟩)] w10 fun e w' => e = .returned (.int .i64 2) ∧ w10 = w' := hA10.epoch
    have hU : Calls Try.prog 15 #[.pointer (some ⟨c, 0, none⟩)] w10 fun e w' => e = .returned (.int .i64 0) ∧ w10 = w' := hA10.under
    clear hA10 hA10' T10 hO hL hlen hA9 K9
    go_wp2_with fail
    refine hB.mono ?_
    rintro e w11 ⟨rfl, rfl⟩
    go_wp2_with fail
    refine hE.mono ?_
    rintro e w11 ⟨rfl, rfl⟩
    go_wp2_with fail
    refine hU.mono ?_
    rintro e w11 ⟨rfl, rfl⟩
    go_wp2_with fail
    go_ret
    exact ⟨rfl, (k0.trans K10).below⟩
  · have q : decide (40 ≤ wt) = false := decide_eq_false hd
    have hlt : since m gr < 40 := by rw [HSI.out]; omega
    have HLT := Lib.hid hlt
    clear hlt
    go_wp2_with fail
    refine (hA9.froz_wait 1 2 false (by decide) (by decide) (by decide) (by decide) ⟨by decide, by decide⟩ gr HF4.out (by decide) HLT.out (by decide) ⟨by decide, rfl, rfl, by decide⟩).mono ?_
    rintro e w10 ⟨rfl, hA10', T10⟩
    have hA10 : Auth w0.heap.size w10 c d kb g (lsT 3) 2 (n + 1) f4 m := hA10'
    have K10 := T10.after K9
    clear hA10' T10 hA9 K9
    go_wp2_with fail
    refine (hA10.beat_wait (by decide) (by decide) (by decide) ⟨by decide, by decide⟩ gr HF4.out (by decide) HLT.out).mono ?_
    rintro e w11 ⟨rfl, hA11, k11⟩
    have K11 := K10.trans k11
    have hE : Calls Try.prog 14 #[.pointer (some ⟨c, 0, none⟩)] w11 fun e w' => e = .returned (.int .i64 1) ∧ w11 = w' := hA11.epoch
    have hU : Calls Try.prog 15 #[.pointer (some ⟨c, 0, none⟩)] w11 fun e w' => e = .returned (.int .i64 2) ∧ w11 = w' := hA11.under
    clear hA10 hA11 K10 k11
    go_wp2_with fail
    refine hE.mono ?_
    rintro e w12 ⟨rfl, rfl⟩
    go_wp2_with fail
    refine hU.mono ?_
    rintro e w12 ⟨rfl, rfl⟩
    go_wp2_with fail
    go_ret
    exact ⟨rfl, (k0.trans K11).below⟩
end Go.Proofs.Ytcoaobdijlppgaa
