/- ControlMany: the walk. -/
import Derived.Test.YtcoaobdijlppgaaHCtl27
import Derived.Test.YtcoaobdijlppgaaG14
namespace Go.Proofs.Ytcoaobdijlppgaa
open Go.ChangeShapes Go.WideShapes Go.ChangeAt Go.RowKit
set_option linter.unusedVariables false
set_option linter.unusedSimpArgs false
set_option maxRecDepth 100000

theorem open_bools {H : Type} {enc : TypeId × Value → H} {W : World} {v : Value} {d : DataW H} {p : List MemPlace} {r : Reach} {b : Nat}
    (hv : Value.okWide Try.prog W r b 44 v) (h : DataW.Trod enc Try.prog W 0 (fun _ => true) true 44 v d p) : ∃ keep : List Bool, Rv W 1 v keep.length (bools keep) ∧ keep.length ≤ 9223372036854775807 := by
  obtain ⟨a0, len, cap, rfl⟩ := okWide_slice Try.underlying44 hv
  obtain ⟨⟨y, l⟩, hy, h1, h2⟩ := opens_val (f := fun p : Value × List Bool => p.1) (opens_bools Try.underlying44 Try.underlying4 (by kernel_rfl)) (fun y hy => by simpa [Value.cells] using hy) h
  exact ⟨l, hy ▸ h1, h2⟩
def mnT (e : Int) (l : List Int) : Ct := ⟨e, e, l, 0, 0, [], [], 0, []⟩
def inb (l : List Int) : List Value := [.bool false, .bool (decide ((1 : Int) ∈ l)), .bool (decide ((2 : Int) ∈ l)), .bool (decide ((3 : Int) ∈ l)), .bool (decide ((4 : Int) ∈ l)), .bool (decide ((5 : Int) ∈ l))]
theorem Auth.other {lo : Nat} {w : World} {c d kb g B n : Nat} {t : Ct} {f : Int → Option Int} {now : Int} (h : Auth lo w c d kb g t B n f now) {w' : World} {q : Nat} {T : TypeId} (k : Keep [q] w w') (ht : Ty w q T) (hT : T ∉ [64, 74, 85, 96, 3, 5, 54]) : Auth lo w' c d kb g t B n f now := by
  obtain ⟨s, sb, base, vm, vt, vn, vd, a1, a2, a3, a4, a5, al, a6, a7⟩ := h
  have hn : ∀ x (T' : TypeId), T' ∈ [64, 74, 85, 96, 3, 5, 54] → Ty w x T' → x ∉ [q] := fun x T' hT' hx hm => by simp only [List.mem_singleton] at hm; subst hm; exact ht.ne hx (fun e => hT (e ▸ hT')) rfl
  have hi : ∀ x ∈ [q], ¬ Ty w x 3 := fun x hx hh => hn x _ (by simp) hh hx
  have hu : ∀ x ∈ [q], ¬ Ty w x 5 := fun x hx hh => hn x _ (by simp) hh hx
  have hd : CtD w' d sb s (stT t.epoch t.top t.mem) B := by
    have a40 := a4
    obtain ⟨L, kk, turn, slot, e1, e2, e3⟩ := a4
    obtain ⟨tv, hb, _⟩ := e2
    exact a40.keep k (hn d _ (by simp) e1.dev.ty) (hn sb _ (by simp) e1.secs.ty) (hn s _ (by simp) hb.ty) hu
  exact ⟨s, sb, base, vm, vt, vn, vd, a1.keep k (hn c _ (by simp) (Blk.ty a1)), a2.keep k hi, Nat.le_trans a3 k.size, hd, a5, al, a6.keep k (fun hm => by simp only [List.mem_singleton] at hm; subst hm; exact a6.ne ht rfl), a7.keep k (hn kb _ (by simp) a7.blk.ty)⟩
def destL (l : List Int) (n : Int) : List Int := if n ∈ l then bothL l [] n else bothL l [n] 0
theorem inb_at (l : List Int) (j : Nat) (h : j < 5) : (inb l)[j + 1]? = some (.bool (decide (((j + 1 : Nat) : Int) ∈ l))) := by
  rcases (show j = 0 ∨ j = 1 ∨ j = 2 ∨ j = 3 ∨ j = 4 by omega) with rfl | rfl | rfl | rfl | rfl <;> rfl
def cntL (l : List Int) (j : Nat) : Nat := ((List.range j).filter (fun k => decide (((k + 1 : Nat) : Int) ∈ l))).length
theorem cntL_succ (l : List Int) (j : Nat) : cntL l (j + 1) = cntL l j + if decide (((j + 1 : Nat) : Int) ∈ l) = true then 1 else 0 := by
  unfold cntL
  rw [List.range_succ, List.filter_append, List.length_append]
  congr 1
  simp only [List.filter_cons, List.filter_nil]
  split <;> rfl
theorem cntL_five : ∀ l ∈ allNodes, cntL l 5 = l.length := by decide
theorem destL_in : ∀ l ∈ allNodes, ∀ n ∈ ([1, 2, 3, 4, 5] : List Int), ¬ (n ∈ l ∧ l.length = 1) → destL l n ∈ allNodes ∧ bothL l (destL l n) 0 ∈ allNodes ∧ inb (destL l n) = (inb l).set n.toNat (.bool (!decide (n ∈ l))) := by
  have h : ∀ l ∈ allNodes, ∀ n ∈ ([1, 2, 3, 4, 5] : List Int), ¬ (n ∈ l ∧ l.length = 1) → destL l n ∈ allNodes ∧ bothL l (destL l n) 0 ∈ allNodes := by decide
  have h2 : ∀ l ∈ allNodes, ∀ n ∈ ([1, 2, 3, 4, 5] : List Int), ¬ (n ∈ l ∧ l.length = 1) → ∀ k ∈ ([1, 2, 3, 4, 5] : List Int), decide (k ∈ destL l n) = if k = n then !decide (n ∈ l) else decide (k ∈ l) := by decide
  intro l hl n hn hx
  refine ⟨(h l hl n hn hx).1, (h l hl n hn hx).2, ?_⟩
  have hk := h2 l hl n hn hx
  unfold inb
  rw [hk 1 (by simp), hk 2 (by simp), hk 3 (by simp), hk 4 (by simp), hk 5 (by simp)]
  simp only [List.mem_cons, List.not_mem_nil, or_false] at hn
  rcases hn with rfl | rfl | rfl | rfl | rfl <;> rfl
theorem allNodes_in : ∀ l ∈ allNodes, (∀ n ∈ l, 1 ≤ n ∧ n ≤ 5) ∧ 0 < l.length ∧ l.length ≤ 5 ∧ nodesOk l = true := by decide
/-- The authority of the law. -/
def MnA (w0 : World) (c d : Nat) (t : Ct) (i : Nat) (w : World) : Prop := ∃ kb g B n f now, Auth w0.heap.size w c d kb g t B n f now ∧ B ≤ 20 + 20 * i ∧ Keep [] w0 w
theorem many_in (s : Int) : 1 + s.tmod 5 % 5 ∈ ([1, 2, 3, 4, 5] : List Int) := by
  have : s.tmod 5 % 5 = 0 ∨ s.tmod 5 % 5 = 1 ∨ s.tmod 5 % 5 = 2 ∨ s.tmod 5 % 5 = 3 ∨ s.tmod 5 % 5 = 4 := by omega
  rcases this with h | h | h | h | h <;> rw [h] <;> decide
set_option maxHeartbeats 8000000 in
theorem controlMany_walk (a0 : Option Addr) (len cap : Nat) (z0 : List Int) (ov : Value) (w : World) (w0 : IsRow .i64 w a0 len cap z0) (w1 : ∃ keep : List Bool, Rv w 1 ov keep.length (bools keep) ∧ keep.length ≤ 9223372036854775807) :
    Calls Try.prog 4 #[.slice a0 len cap, ov] w fun e w' => e = .returned (.bool true) ∧ Below w.heap.size w w' := by
  obtain ⟨hl, hmax, hr, hwf⟩ := w0.rv
  clear w0
  obtain ⟨ops, hor, hol⟩ := w1
  obtain ⟨_, oa, ocap, rfl, _, _⟩ := id hor
  generalize z0.take len = acts at *
  subst hl
  have HWF := Lib.hid hwf
  clear hwf
  have hbA : ∀ (W : World), (Instr.build 45 #[(3, .bool true)]).run Try.prog W = .ok (.agg #[.bool false, .bool false, .bool false, .bool true, .bool false, .bool false]) W := fun W => run_build W _ _ _ (by rfl)
  go_enter Try.func4, Try.ntmps4
  go_wp2_with fail
  refine (begun23 w).mono ?_
  rintro e w0 ⟨rfl, k0⟩
  go_wp2_with fail
  refine (New_any 2 2 (by decide)).mono ?_
  rintro e w1 ⟨d, sb, rfl, hd, k1, z1, z2⟩
  go_wp2_with fail
  have hrow : Rv (w1.alloc (.cells #[.int .i64 3] 3)) 1 (.slice (some ⟨w1.heap.size, 0, none⟩) 1 1) 1 (ints [3]) := Rv.new _ (ints [3]) 3 1 1 1 rfl (by omega) w1.heap.size rfl
  have K1 := (Keep.refl [] w1).alloc (.cells #[.int .i64 3] 3)
  have hs1 := k1.size
  refine (Auth.make (lo := w0.heap.size) (B := 1) (hd.keep K1 (by simp) (by simp)) (by decide) (by omega) (by decide) _ [3] hrow (by decide) ⟨z1, z2, by simp; omega⟩).mono ?_
  rintro e w2 ⟨c, kb, g, rfl, hA, T2, _⟩
  have K2 : Keep [] w0 w2 := T2.after (k1.trans K1)
  clear hd hrow K1 hs1 T2 k1 z1 z2
  go_upto_region 9 with fail
  obtain ⟨ab, hab⟩ : ∃ ab, ab = w2.heap.size := ⟨_, rfl⟩
  have hI3 : Blk (w2.alloc (.cells #[.bool false, .bool false, .bool false, .bool true, .bool false, .bool false] 45)) ab (inb [3]) 45 := Blk.new' w2 (inb [3]) 45 ab hab
  have K3 := (Keep.refl [] w2).alloc (.cells #[.bool false, .bool false, .bool false, .bool true, .bool false, .bool false] 45)
  have HAB := Lib.hid (show w0.heap.size ≤ ab by have := K2.size; omega)
  have HM0 : Hid (MnA w0 c d (mnT 1 [3]) 0 (w2.alloc (.cells #[.bool false, .bool false, .bool false, .bool true, .bool false, .bool false] 45))) := Lib.hid ⟨kb, g, 1, 0, _, 0, hA.keep K3, by omega, K2.trans K3⟩
  have HR := Lib.hid hr
  have HOR := Lib.hid hor
  rw [← hab]
  clear hA K2 K3 hab hr hor
  generalize w2.alloc (.cells #[.bool false, .bool false, .bool false, .bool true, .bool false, .bool false] 45) = w3 at *
  go_wp2_with fail
  go_loopw [6, 7, 10, 11] (fun sd sc se sn wr => ∃ (c d i : Nat) (l : List Int), sd = .pointer (some ⟨d, 0, none⟩) ∧ sc = .pointer (some ⟨c, 0, none⟩) ∧ (∃ ep : Int, se = .int .i64 ep ∧ 1 ≤ ep ∧ ep ≤ 1 + (i : Int) ∧ MnA w0 c d (mnT ep l) i wr) ∧ sn = .int .i64 (i : Int) ∧ i ≤ acts.length ∧ i ≤ 25 ∧ l ∈ allNodes ∧ Blk wr ab (inb l) 45) (fun _ _ _ n _ => acts.length - (intOf n).toNat)
  case atStart => exact ⟨c, d, 0, [3], rfl, rfl, ⟨1, rfl, by omega, by omega, HM0.out⟩, rfl, by omega, by omega, by decide, hI3⟩
  case round =>
    clear HM0 hI3
    obtain ⟨c, d, i, l, rfl, rfl, ⟨ep, rfl, he1, he2, hM⟩, rfl, hi, hi25, hl, hI⟩ := hrel
    by_cases hlt : i < acts.length
    case neg =>
      obtain ⟨_, _, _, _, _, _, _, _, hK⟩ := hM
      obtain rfl : i = acts.length := by omega
      have q0 : decide ((acts.length : Int) < acts.length) = false := by simp
      go_wp2_with fail
      go_ret
      exact ⟨rfl, (k0.trans hK).below⟩
    by_cases h25 : i < 25
    case neg =>
      obtain ⟨_, _, _, _, _, _, _, _, hK⟩ := hM
      obtain rfl : i = 25 := by omega
      have q0 : decide (((25 : Nat) : Int) < acts.length) = true := decide_eq_true (by omega)
      go_wp2_with fail
      go_ret
      exact ⟨rfl, (k0.trans hK).below⟩
    have q0 : decide ((i : Int) < acts.length) = true := decide_eq_true (by omega)
    have q1 : decide ((i : Int) < 25) = true := decide_eq_true (by omega)
    obtain ⟨kb, g, B, n0, f, now, hA, hB, hK⟩ := hM
    obtain ⟨sa, so, ca, he, _, _, hat⟩ := ((HR.out.keep k0 (by simp)).keep hK (by simp)).at1 (by omega)
    simp only [Value.slice.injEq] at he
    obtain ⟨rfl, _, rfl⟩ := he
    have hcell : wr.cell? ⟨sa, so + i, none⟩ = (ints acts)[i]? := hat i hlt
    rw [ints_at _ _ hlt] at hcell
    have hwf1 := i64_wf (HWF.out _ (getD_mem hlt))
    clear hat
    generalize acts.getD i 0 = s at *
    have hin := many_in s
    have r1 : s.tmod 5 < 5 := Int.tmod_lt_of_pos s (by decide)
    have r2 : -5 < s.tmod 5 := by
      have := Int.lt_tmod_of_pos s (b := 5) (by decide)
      omega
    go_upto_region 14 with fail
    generalize 1 + s.tmod 5 % 5 = n at *
    obtain ⟨N, rfl⟩ : ∃ N : Nat, n = (N : Int) := ⟨n.toNat, by simp only [List.mem_cons, List.not_mem_nil, or_false] at hin; omega⟩
    clear r1 r2 hwf1 hcell q0 q1
    obtain ⟨m1, m2, m3, mok⟩ := allNodes_in l hl
    have HMEM := Lib.hid (show (∀ n ∈ l, 1 ≤ n ∧ n ≤ 5) ∧ 0 < l.length ∧ l.length ≤ 5 ∧ nodesOk l = true from ⟨m1, m2, m3, mok⟩)
    have HL := Lib.hid hl
    have HEP := Lib.hid (show 1 ≤ ep ∧ ep ≤ 1 + (i : Int) from ⟨he1, he2⟩)
    have HN := Lib.hid hin
    have HLT := Lib.hid (show i < acts.length ∧ i < 25 from ⟨hlt, h25⟩)
    have hn15 : 1 ≤ N ∧ N ≤ 5 := by
      simp only [List.mem_cons, List.not_mem_nil, or_false] at hin
      omega
    have HN15 := Lib.hid hn15
    have hA := Lib.hid hA
    have hK := Lib.hid hK
    clear m1 m2 m3 mok hl he1 he2 hin hlt h25 hi hi25
    go_wp2_with fail
    go_loopw [13, 14] (fun sc sk wx => ∃ j : Nat, j ≤ 5 ∧ sk = .int .i64 ((j + 1 : Nat) : Int) ∧ sc = .int .i64 ((cntL l j : Nat) : Int) ∧ wr = wx) (fun _ k _ => 6 - (intOf k).toNat)
    case atStart => exact ⟨0, by omega, rfl, rfl, rfl⟩
    case round =>
      obtain ⟨j, hj, rfl, rfl, rfl⟩ := hrel
      by_cases hlt : j < 5
      · have hcl := hI.cell (j + 1)
        rw [inb_at l j hlt] at hcl
        have hcs := cntL_succ l j
        have hc5 : cntL l j ≤ 5 := Nat.le_trans (List.length_filter_le _ _) (by simp; omega)
        obtain ⟨b, hb⟩ : ∃ b, b = decide (((j + 1 : Nat) : Int) ∈ l) := ⟨_, rfl⟩
        rw [← hb] at hcs hcl
        obtain ⟨x, hx⟩ : ∃ x, x = j + 1 := ⟨_, rfl⟩
        rw [← hx] at hcl ⊢
        have HX := Lib.hid (show 1 ≤ x ∧ x ≤ 5 ∧ x = j + 1 by omega)
        have HNX := Lib.hid (show (x : Int) + 1 = ((j + 1 + 1 : Nat) : Int) by omega)
        have HMS := Lib.hid (show 6 - ((x : Int) + 1).toNat < 6 - (x : Int).toNat by omega)
        have HCS := Lib.hid hcs
        have q0 : decide ((x : Int) ≤ 5) = true := decide_eq_true (by omega)
        have q3 : x < 6 := by omega
        clear hcs hx hb hlt hj
        generalize cntL l j = cn at *
        cases b with
        | true =>
          go_wp2_with fail
          go_roundw
          case rel => exact ⟨j + 1, by have := HX.out; omega, congrArg (Value.int .i64) HNX.out, (by rw [HCS.out, if_pos rfl]; simp), trivial⟩
          case measure => simp only [intOf]; exact HMS.out
        | false =>
          go_wp2_with fail
          go_roundw
          case rel => exact ⟨j + 1, by have := HX.out; omega, congrArg (Value.int .i64) HNX.out, (by rw [HCS.out, if_neg (by decide)]; rfl), trivial⟩
          case measure => simp only [intOf]; exact HMS.out
      · obtain rfl : j = 5 := by omega
        rw [show ((5 + 1 : Nat) : Int) = 6 by decide, cntL_five l HL.out]
        clear hlt hj
        obtain ⟨bn, hbn⟩ : ∃ bn, bn = decide ((N : Int) ∈ l) := ⟨_, rfl⟩
        have hcn : wr.cell? ⟨ab, N, none⟩ = some (.bool bn) := by
          have h1 := hI.cell N
          have h2 := inb_at l (N - 1) (by omega)
          rw [show N - 1 + 1 = N by omega] at h2
          rw [hbn, h1, h2]
        have HBN := Lib.hid hbn
        have qN : N < 6 := by omega
        have HI := Lib.hid hI
        clear hbn hI hn15
        by_cases hone : bn = true ∧ l.length = 1
        case pos =>
          obtain ⟨hb1, hl1⟩ := hone
          subst hb1
          have q1 : ((l.length : Int) == 1) = true := by rw [hl1]; rfl
          have HL1 := Lib.hid hl1
          have hi25 := HLT.out.2
          clear hl1
          go_wp2_with fail
          refine (Leave_via (N : Int) (fun e w' => e = .returned (.tuple #[.slice none 0 0, .int .i64 1]) ∧ wr = w') ((hA.out.leave_last HL1.out rfl (N : Int) 0 (of_decide_eq_true HBN.out.symm)).mono ?_)).mono ?_
          · rintro e w' ⟨rfl, rfl⟩
            exact ⟨_, _, rfl, rfl, rfl⟩
          rintro e w4 ⟨rfl, rfl⟩
          go_wp2_with fail
          go_roundw
          case rel => exact ⟨c, d, i + 1, l, rfl, rfl, ⟨ep, rfl, HEP.out.1, by have := HEP.out; omega, kb, g, B, n0, f, now, hA.out, by omega, hK.out⟩, by simp, HLT.out.1, by have := HLT.out; omega, HL.out, HI.out⟩
          case measure => simp only [intOf]; have := HLT.out; omega
        case neg =>
        have hi25 := HLT.out.2
        have hne : ¬ ((N : Int) ∈ l ∧ l.length = 1) := fun h => hone ⟨by rw [HBN.out]; exact decide_eq_true h.1, h.2⟩
        have hD := destL_in l HL.out (N : Int) HN.out hne
        obtain ⟨dl, hdl⟩ : ∃ dl, dl = destL l (N : Int) := ⟨_, rfl⟩
        rw [← hdl] at hD
        have HD := Lib.hid hD
        have HDL := Lib.hid hdl
        have HNE := Lib.hid hne
        clear hD hdl hne hone
        go_upto_region 20 with fail
        go_cut [67] (fun s67 wc => s67 = .bool false ∧ wr = wc)
        case first =>
          cases bn with
          | false =>
            go_wp2_with fail
            go_meet
            exact ⟨rfl, rfl⟩
          | true =>
            have q1 : ((l.length : Int) == 1) = false := by
              have h1 := HNE.out
              have h2 := of_decide_eq_true HBN.out.symm
              simp only [beq_eq_false_iff_ne]
              exact fun h => h1 ⟨h2, by omega⟩
            go_wp2_with fail
            go_meet
            exact ⟨rfl, rfl⟩
        case rest =>
        obtain ⟨rfl, rfl⟩ := hcut
        go_upto_if 78 with fail
        go_cut [17] (fun s17 wc => s17 = .int .i64 0 ∧ Auth w0.heap.size wc c d kb g ((mnT ep l).begun dl 0) (B + 1) n0 f now ∧ Blk wc ab (inb l) 45 ∧ Keep [] w0 wc)
        case first =>
          have HB := Lib.hid hB
          clear hB
          cases bn with
          | true =>
            have hin := of_decide_eq_true HBN.out.symm
            have HIN := Lib.hid hin
            have hdd : dl = bothL l [] (N : Int) := by rw [HDL.out]; unfold destL; rw [if_pos hin]
            have HDD := Lib.hid hdd
            clear hin hdd
            go_wp2_with fail
            refine (Leave_via (N : Int) (fun e w' => ∃ a nn cap, e = .returned (.tuple #[.slice a nn cap, .int .i64 0]) ∧ Auth w0.heap.size w' c d kb g ((mnT ep l).begun dl 0) (B + 1) n0 f now ∧ Turn w0.heap.size wr w') ?_).mono ?_
            · have h1 := HNE.out
              have h2 := HMEM.out
              have h3 := HEP.out
              have hto : 0 < (bothL l [] (N : Int)).length := by rw [← HDD.out]; exact (allNodes_in _ HD.out.1).2.1
              have hBB := HB.out
              refine (hA.out.leave (by omega) h2.1 (by show 1 < l.length; have := HIN.out; by_cases h : l.length = 1; exact absurd ⟨HIN.out, h⟩ h1; omega) (by show I64 ep; exact ⟨by omega, by omega⟩) ⟨by show 0 ≤ ep; omega, by show ep < 1099511627776; omega⟩ rfl (N : Int) 0 HIN.out hto).mono ?_
              rintro e w5 ⟨v, L, rfl, hO, _, hA5, T5⟩
              obtain ⟨va, vc, rfl⟩ := hO.slice
              exact ⟨_, 0, rfl, va, _, vc, rfl, (by rw [HDD.out]; exact hA5), T5⟩
            rintro e w5 ⟨a5, n5, cap5, rfl, hA5, T5⟩
            have HA5 := Lib.hid hA5
            have HT5 := Lib.hid T5
            clear hA5 T5
            go_wp2_with fail
            go_meet
            exact ⟨rfl, HA5.out, HT5.out.blk HI.out (by decide), HT5.out.after hK.out⟩
          | false =>
            have hin := of_decide_eq_false HBN.out.symm
            have HIN := Lib.hid hin
            have hdd : dl = bothL l [(N : Int)] 0 := by rw [HDL.out]; unfold destL; rw [if_neg hin]
            have HDD := Lib.hid hdd
            clear hin hdd
            go_wp2_with fail
            have h2 := HMEM.out
            have h3 := HEP.out
            have hBB := HB.out
            refine (hA.out.join (by omega) h2.1 h2.2.1 (by show I64 ep; exact ⟨by omega, by omega⟩) ⟨by show 0 ≤ ep; omega, by show ep < 1099511627776; omega⟩ rfl (N : Int) (by have := HN15.out; omega) HIN.out).mono ?_
            rintro e w5 ⟨v, L, rfl, hO, _, hA5, T5⟩
            obtain ⟨va, vc, rfl⟩ := hO.slice
            have HA5 : Hid (Auth w0.heap.size w5 c d kb g ((mnT ep l).begun dl 0) (B + 1) n0 f now) := Lib.hid (by rw [HDD.out]; exact hA5)
            have HT5 := Lib.hid T5
            clear hA5 T5 hO h2 h3 hBB
            go_wp2_with fail
            go_meet
            exact ⟨rfl, HA5.out, HT5.out.blk HI.out (by decide), HT5.out.after hK.out⟩
        case rest =>
        obtain ⟨rfl, hA5, hI5, hK5⟩ := hcut
        clear HI hA hK hcn
        have hU : Calls Try.prog 15 #[.pointer (some ⟨c, 0, none⟩)] wc fun e w' => e = .returned (.int .i64 (ep + 1)) ∧ wc = w' := hA5.under
        have hGd : ((mnT ep l).begun dl 0).Good := by
          have h2 := HMEM.out
          have h3 := HEP.out
          obtain ⟨d1, d2, _, _⟩ := allNodes_in dl HD.out.1
          exact ⟨h2.1, h2.2.1, ⟨by show 0 ≤ ep + 1; omega, by show ep + 1 ≤ _; omega⟩, ⟨by show 0 ≤ ep + 1; omega, by show ep + 1 ≤ _; omega⟩, ⟨by show _ ≤ ep; omega, by show ep ≤ _; omega⟩, ⟨by show (0 : Int) ≤ 1; decide, by show (1 : Int) ≤ 10; decide⟩, fun _ => ⟨d1, d2⟩, by show ([] : List Int).length ≤ 4; decide, by show I64 0; exact ⟨by decide, by decide⟩⟩
        have hGo := goes_any hA5 hGd rfl rfl (show bothL l dl 0 ∈ allNodes from HD.out.2.1) (show ep + 1 ≠ 0 by have := HEP.out; omega) rfl (by omega)
        have HGO : Hid (Calls Try.prog 18 #[.pointer (some ⟨c, 0, none⟩)] wc fun e w' => e = .returned (.tuple #[]) ∧ Auth w0.heap.size w' c d kb g (mnT (ep + 1) dl) (B + 11) n0 f now ∧ Turn w0.heap.size wc w') := Lib.hid hGo
        have HI5 := Lib.hid hI5
        have HK5 := Lib.hid hK5
        clear hGd hGo hA5 hI5 hK5
        go_wp2_with fail
        refine hU.mono ?_
        rintro e w6 ⟨rfl, rfl⟩
        clear hU
        go_wp2_with fail
        refine HGO.out.mono ?_
        rintro e w7 ⟨rfl, hA7, T7⟩
        have hI7 := T7.blk HI5.out (by decide)
        have hK7 := T7.after HK5.out
        clear HGO HI5 HK5 T7
        have hcn : w7.cell? ⟨ab, N, none⟩ = some (.bool bn) := by
          have h1 := hI7.cell N
          have h2 := inb_at l (N - 1) (by have := HN15.out; omega)
          rw [show N - 1 + 1 = N by have := HN15.out; omega] at h2
          rw [HBN.out, h1, h2]
        have hfr := hI7.free N
        have hT7 := hI7.ty
        have HI8 : Hid (Blk (w7.setCell ⟨ab, N, none⟩ (.bool (!bn))) ab (inb dl) 45) := Lib.hid (by
          have h1 := hI7.set N (.bool (!bn))
          have h2 := HD.out.2.2
          rw [Int.toNat_natCast, ← HBN.out] at h2
          rw [h2]
          exact h1)
        have kS : Keep [ab] w7 (w7.setCell ⟨ab, N, none⟩ (.bool (!bn))) := (Keep.refl _ _).setCell (.inl (by simp)) _
        have HA8 := Lib.hid (hA7.other kS hT7 (by decide))
        have HK8 : Hid (Keep [] w0 (w7.setCell ⟨ab, N, none⟩ (.bool (!bn)))) := Lib.hid (hK7.then kS (fun q hq hlt => by have := HAB.out; simp at hq; omega))
        clear hA7 hI7 hK7 hT7 kS
        go_upto_region 33 with fail
        generalize w7.setCell ⟨ab, N, none⟩ (.bool (!bn)) = w8 at *
        clear hcn hfr
        have hE : Calls Try.prog 14 #[.pointer (some ⟨c, 0, none⟩)] w8 fun e w' => e = .returned (.int .i64 (ep + 1)) ∧ w8 = w' := HA8.out.epoch
        have hU : Calls Try.prog 15 #[.pointer (some ⟨c, 0, none⟩)] w8 fun e w' => e = .returned (.int .i64 0) ∧ w8 = w' := HA8.out.under
        have q5 : decide (ep + 1 ≤ ep) = false := decide_eq_false (by omega)
        go_wp2_with fail
        refine hE.mono ?_
        rintro e w9 ⟨rfl, rfl⟩
        go_wp2_with fail
        refine hU.mono ?_
        rintro e w9 ⟨rfl, rfl⟩
        clear hE hU q5
        go_upto_region 36 with fail
        obtain ⟨ob, hob⟩ : ∃ ob, ob = (decide (i < ops.length) && ops.getD i false) := ⟨_, rfl⟩
        have HOB := Lib.hid hob
        clear hob
        go_cut [127] (fun s127 wc => s127 = .bool ob ∧ w8 = wc)
        case first =>
          by_cases hio : i < ops.length
          · have q6 : decide ((i : Int) < ops.length) = true := decide_eq_true (by omega)
            obtain ⟨ya, yo, yc, he, _, _, hat⟩ := ((HOR.out.keep k0 (by simp)).keep HK8.out (by simp)).at1 (by omega)
            simp only [Value.slice.injEq] at he
            obtain ⟨rfl, _, rfl⟩ := he
            have hcell : w8.cell? ⟨ya, yo + i, none⟩ = (bools ops)[i]? := hat i hio
            rw [bools_at _ _ hio] at hcell
            have HF : Hid (ob = ops.getD i false) := Lib.hid (by rw [HOB.out, decide_eq_true hio]; rfl)
            clear hat
            generalize ops.getD i false = y at *
            go_wp2_with fail
            go_meet
            exact ⟨by rw [HF.out], rfl⟩
          · have q6 : decide ((i : Int) < ops.length) = false := decide_eq_false (by omega)
            have HF : Hid (ob = false) := Lib.hid (by rw [HOB.out, decide_eq_false hio]; rfl)
            go_wp2_with fail
            go_meet
            exact ⟨by rw [HF.out], rfl⟩
        case rest =>
        obtain ⟨rfl, rfl⟩ := hcut
        go_upto_if 127 with fail
        go_cut [6, 7, 8] (fun s6 s7 _ wc => ∃ (d' c' : Nat), s6 = .pointer (some ⟨d', 0, none⟩) ∧ s7 = .pointer (some ⟨c', 0, none⟩) ∧ MnA w0 c' d' (mnT (ep + 1) dl) (i + 1) wc ∧ Blk wc ab (inb dl) 45)
        case first =>
          have HB := Lib.hid hB
          clear hB
          cases ob with
          | false =>
            go_wp2_with fail
            go_meet
            exact ⟨d, c, rfl, rfl, ⟨kb, g, B + 11, n0, f, now, HA8.out, by have := HB.out; omega, HK8.out⟩, HI8.out⟩
          | true =>
            have hsz := HK8.out.size
            go_wp2_with fail
            refine (HA8.out.has.crash hsz).mono ?_
            rintro e w10 ⟨d10, rfl, hd10, k10⟩
            have hBB := HB.out
            have h3 := HEP.out
            have hz10 := k10.size
            have hop : Hid (Calls Try.prog 20 #[.pointer (some ⟨d10, 0, none⟩), .pointer none] w10 fun e w' => ∃ c kb g, e = .returned (.tuple #[.pointer (some ⟨c, 0, none⟩), .int .i64 0]) ∧ Auth w0.heap.size w' c d10 kb g (mnT (ep + 1) dl) (B + 11) 5 (gF 0 5) 0 ∧ Keep [] w10 w') := Lib.hid
              ((hd10.openA (by omega) (by omega) (allNodes_in dl HD.out.1).2.2.2 ⟨by show 1 ≤ ep + 1; omega, by show ep + 1 ≤ ep + 1; omega, by show ep + 1 ≤ _; omega⟩ (.pointer none) 0 (.inl ⟨rfl, rfl⟩)).mono (by rintro e w' ⟨c, kb, g, rfl, h1, h2, _⟩; exact ⟨c, kb, g, rfl, h1, h2⟩))
            have HI10 := Lib.hid (HI8.out.keep k10 (by simp))
            have HK10 := Lib.hid (HK8.out.trans k10)
            clear hd10 k10 hBB h3 hz10 hsz
            go_wp2_with fail
            refine hop.out.mono ?_
            rintro e w11 ⟨c11, kb11, g11, rfl, hA11, k11⟩
            have hE : Calls Try.prog 14 #[.pointer (some ⟨c11, 0, none⟩)] w11 fun e w' => e = .returned (.int .i64 (ep + 1)) ∧ w11 = w' := hA11.epoch
            have HA11 := Lib.hid hA11
            have HI11 := Lib.hid (HI10.out.keep k11 (by simp))
            have HK11 := Lib.hid (HK10.out.trans k11)
            clear hop hA11 k11 HI10 HK10
            go_wp2_with fail
            refine hE.mono ?_
            rintro e w12 ⟨rfl, rfl⟩
            clear hE
            go_wp2_with fail
            go_meet
            exact ⟨d10, c11, rfl, rfl, ⟨kb11, g11, B + 11, 5, _, 0, HA11.out, by have := HB.out; omega, HK11.out⟩, HI11.out⟩
        case rest =>
        obtain ⟨d', c', rfl, rfl, hM12, hI12⟩ := hcut
        clear HA8 HK8 HI8
        obtain ⟨i0, hi, hz0, hz1, hz2⟩ := info_parts Try.infoI
        have HM12 := Lib.hid hM12
        obtain ⟨_, _, _, _, _, _, _, _, hK12⟩ := hM12
        have HK12 := Lib.hid hK12
        have HI12 := Lib.hid hI12
        have hBI := Lib.hid hB
        clear hK12 hI12 hB
        go_wp2_with fail
        go_loopw [19, 20] (fun out sk wx => ∃ k : Nat, k ≤ 5 ∧ sk = .int .i64 ((k + 1 : Nat) : Int) ∧ Own wx wc.heap.size 3 out (ints (bothU dl [] 0 k)) ∧ Keep [] wc wx) (fun _ k _ => 6 - (intOf k).toNat)
        case atStart => exact ⟨0, by omega, rfl, Own.nil _ _ _, Keep.refl _ _⟩
        case round =>
          obtain ⟨k, hk, rfl, hO, hKx⟩ := hrel
          by_cases hlt : k < 5
          · have hs := bothU_succ dl [] 0 k hlt
            have hlen := bothU_len dl [] 0 k
            have hP : bothP dl [] 0 ((k + 1 : Nat) : Int) = decide (((k + 1 : Nat) : Int) ∈ dl) := by
              unfold bothP
              rw [decide_eq_false (by omega : ¬ ((k + 1 : Nat) : Int) = 0)]
              simp
            have hcl := (HI12.out.keep hKx (by simp)).cell (k + 1)
            rw [inb_at dl k hlt] at hcl
            obtain ⟨bt, hbt⟩ : ∃ b, b = decide (((k + 1 : Nat) : Int) ∈ dl) := ⟨_, rfl⟩
            rw [← hbt] at hP hcl
            rw [hP] at hs
            obtain ⟨x, hx⟩ : ∃ x, x = k + 1 := ⟨_, rfl⟩
            rw [← hx] at hcl hs ⊢
            have HX := Lib.hid (show 1 ≤ x ∧ x ≤ 5 ∧ x = k + 1 by omega)
            have HNX := Lib.hid (show (x : Int) + 1 = ((k + 1 + 1 : Nat) : Int) by omega)
            have HMS := Lib.hid (show 6 - ((x : Int) + 1).toNat < 6 - (x : Int).toNat by omega)
            have HS : Hid (bothU dl [] 0 x = bothU dl [] 0 k ++ if bt = true then [(x : Int)] else []) := Lib.hid hs
            have q0 : decide ((x : Int) ≤ 5) = true := decide_eq_true (by omega)
            have q3 : x < 6 := by omega
            have hxe := Lib.hid hx
            clear hs hx hbt hlt hk hP
            generalize hXX : bothU dl [] 0 k = X at *
            clear hXX
            obtain ⟨xa, xc, rfl⟩ := hO.islice
            have hsz := hKx.size
            cases bt with
            | true =>
              go_wp2_with (at_builtin; refine wpList_append_src _ rfl _ _ 37 37 rfl wc.heap.size 3 i0 (.int .i64 0) 1 8 Try.underlying37 hi hz0 hz1 hz2 rfl (by decide) _ _ _ rfl (hO.alloc (.cells #[.int .i64 (x : Int)] 3)) _ 1 _ rfl (src_cell Try.underlying37 wr (.int .i64 (x : Int)) rfl 3 _ rfl) (by rw [ints_length]; unfold maxLen; omega) (by rw [ints_length]; omega) (by simp; omega) ?_; intro v1 w2 h2 h3 _ h4)
              have hO2 := Own.app (m := 1) rfl h2
              have hK2 : Keep [] wc w2 := (hKx.alloc _).then (Keep.grown h3) (fun q hq hlt => by have := (hO.lt q (Option.mem_toList.1 hq)).1; omega)
              go_roundw
              case rel =>
                refine ⟨x, HX.out.2.1, ?_, ?_, hK2⟩
                · exact congrArg (Value.int .i64) (by have := HNX.out; have := HX.out; omega)
                · rw [HS.out, if_pos rfl, ints_append]
                  exact hO2
              case measure => simp only [intOf]; exact HMS.out
            | false =>
              go_wp2_with fail
              go_roundw
              case rel =>
                refine ⟨x, HX.out.2.1, ?_, ?_, hKx⟩
                · exact congrArg (Value.int .i64) (by have := HNX.out; have := HX.out; omega)
                · rw [HS.out, if_neg (by decide), List.append_nil]
                  exact hO
              case measure => simp only [intOf]; exact HMS.out
          · obtain rfl : k = 5 := by omega
            rw [show ((5 + 1 : Nat) : Int) = 6 by decide]
            rw [show bothU dl [] 0 5 = dl from bothL_self dl HD.out.1] at hO
            obtain ⟨xa, xc, rfl⟩ := hO.islice
            obtain ⟨kb', g', B', n', f', now', hA', hB', hK'⟩ := HM12.out
            have hAx := hA'.keep hKx
            have hMem : Calls Try.prog 21 #[.pointer (some ⟨c', 0, none⟩)] wr fun e w' => ∃ v', e = .returned v' ∧ Own w' wr.heap.size 3 v' (ints dl) ∧ Keep [] wr w' := hAx.members (allNodes_in dl HD.out.1).2.1
            have HMx : Hid (MnA w0 c' d' (mnT (ep + 1) dl) (i + 1) wr) := Lib.hid ⟨kb', g', B', n', f', now', hAx, hB', hK'.trans hKx⟩
            have HIx := Lib.hid (HI12.out.keep hKx (by simp))
            have HOx := Lib.hid hO
            clear hlt hk hA' hB' hK' hAx hO hKx
            go_wp2_with fail
            refine hMem.mono ?_
            rintro e w13 ⟨v13, rfl, hO13, k13⟩
            obtain ⟨ma, mc, rfl⟩ := hO13.islice
            have hEq := EqInts_any _ _ dl dl hO13.irv ((HOx.out.keep k13 (by simp)).irv) (by have := (allNodes_in dl HD.out.1).2.2.1; omega) (by have := (allNodes_in dl HD.out.1).2.2.1; omega) true (by simp)
            have HEQ := Lib.hid hEq
            clear hMem hO13 hEq
            go_wp2_with fail
            refine HEQ.out.mono ?_
            rintro e w14 ⟨rfl, k14⟩
            have hKz := k13.trans k14
            have HKZ := Lib.hid hKz
            clear HEQ k13 k14 hKz
            go_wp2_with fail
            go_roundw
            case rel =>
              obtain ⟨kb', g', B', n', f', now', hA', hB', hK'⟩ := HMx.out
              exact ⟨c', d', i + 1, dl, rfl, rfl, ⟨ep + 1, rfl, by have := HEP.out; omega, by have := HEP.out; omega, kb', g', B', n', f', now', hA'.keep HKZ.out, hB', hK'.trans HKZ.out⟩, by simp, HLT.out.1, by have := HLT.out; omega, HD.out.1, HIx.out.keep HKZ.out (by simp)⟩
            case measure => simp only [intOf]; have := HLT.out; omega
end Go.Proofs.Ytcoaobdijlppgaa
