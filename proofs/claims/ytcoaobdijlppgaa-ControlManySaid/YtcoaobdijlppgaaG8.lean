/- Super3, Super4, Ctl3 -/
import Derived.Test.YtcoaobdijlppgaaG6
import Derived.Test.YtcoaobdijlppgaaG7
import Derived.Deep.RegionHeld3
import Derived.Lib.SmallJoins
import Derived.BigQuiet
/- super.Open: its contract. -/
namespace Go.Proofs.Ytcoaobdijlppgaa
open Go.ChangeShapes Go.WideShapes Go.ChangeAt Go.RowKit
set_option linter.unusedVariables false
set_option linter.unusedSimpArgs false
set_option maxRecDepth 100000

/-- What a sector says: turn, text; is it whole? -/
def supTurn (x : List Nat) : Nat := unbe ((x.drop 4).take 8)
def supText (x : List Nat) : List Nat := (x.drop 13).take (x.getD 12 0)
def supGood (turn : Nat) (x : List Nat) : Bool := crcSum (x.drop 4) == unbe (x.take 4) && (decide (supTurn x < 9223372036854775808) && (decide (turn < supTurn x) && decide (x.getD 12 0 ≤ 40)))
structure Sup3 where
  turn : Nat
  slot : Nat
  text : List Nat
def supStep (c : Sup3) (k : Nat) (x : List Nat) : Sup3 := if supGood c.turn x = true then ⟨supTurn x, k, supText x⟩ else c
def supTo (x0 x1 : List Nat) : Nat → Sup3
  | 0 => ⟨0, 0, []⟩
  | 1 => supStep ⟨0, 0, []⟩ 0 x0
  | _ => supStep (supStep ⟨0, 0, []⟩ 0 x0) 1 x1
theorem Buf.head {w : World} {base : Nat} {E : TypeId} {v : Value} {l : List Nat} (h : Buf w base E v l) (hp : 0 < l.length) :
    ∃ g cap spare, v = .slice (some ⟨g, 0, none⟩) l.length cap ∧ l.length ≤ cap ∧ base ≤ g ∧ Blk w g (bcs l ++ spare) E := by
  have h2 : Own w base E v (bcs l) := by unfold Own; rw [bcs_length]; exact h
  have := h2.blk (by rw [bcs_length]; exact hp)
  rw [bcs_length] at this
  exact this
theorem rd_part {w : World} {g : Nat} {E : TypeId} {l : List Nat} {spare : List Value} (h : Blk w g (bcs l ++ spare) E) (o n cap : Nat) (hn : o + n ≤ l.length) (hc : n ≤ cap) (m : List Nat) (hm : m = (l.drop o).take n) :
    Rd w (.slice (some ⟨g, o, none⟩) n cap) m := by
  subst hm
  have hl : ((l.drop o).take n).length = n := by simp; omega
  refine ⟨by simp, _, cap, by rw [hl], by rw [hl]; exact hc, fun _ => ⟨g, o, rfl, h.lt, fun i hi => ?_⟩⟩
  rw [bcs_length, hl] at hi
  rw [h.cell, List.getElem?_append_left (by simp; omega)]
  unfold bcs
  simp [List.getElem?_take, hi]

set_option maxRecDepth 100000 in
set_option maxHeartbeats 8000000 in
theorem Open_any {w : World} {d sb : Nat} {L : List Sec} {c : Nat} (hd : IsDev w d sb L c) (at_ : Nat) (s0 s1 : Sec) (hs0 : L[at_]? = some s0) (hs1 : L[at_ + 1]? = some s1) :
    Calls Try.prog 39 #[.pointer (some ⟨d, 0, none⟩), .int .i64 at_] w fun e w' => Keep [] w w' ∧
      (((supTo s0.now s1.now 2).turn = 0 ∧ e = .returned (.tuple #[.pointer none, .int .i64 3])) ∨
       ((supTo s0.now s1.now 2).turn ≠ 0 ∧ ∃ s, e = .returned (.tuple #[.pointer (some ⟨s, 0, none⟩), .int .i64 0]) ∧ w.heap.size ≤ s ∧
          IsSup w' s d at_ (supTo s0.now s1.now 2).turn (supTo s0.now s1.now 2).text (supTo s0.now s1.now 2).slot)) := by
  have hat : at_ + 1 < L.length := (List.getElem?_eq_some_iff.1 hs1).1
  have hm0 := List.mem_of_getElem? hs0
  have hm1 := List.mem_of_getElem? hs1
  have hmx := hd.max
  have hdl := hd.dev.lt
  have hsl := hd.secs.lt
  go_enter Try.func39, Try.ntmps39
  go_wp2_with fail
  refine (there_in hd at_ hat).mono ?_
  rintro e w1 ⟨rfl, rfl⟩
  go_wp2_with fail
  have hB0 : Blk (w.alloc (.cells #[.pointer (some ⟨d, 0, none⟩), .int .i64 at_, .int .i64 0, .slice none 0 0, .int .i64 0] 96)) w.heap.size [.pointer (some ⟨d, 0, none⟩), .int .i64 at_, .int .i64 0, .slice none 0 0, .int .i64 0] 96 := Blk.new _ _ _
  go_loopw [23] (fun i wr => ∃ k : Nat, k ≤ 2 ∧ i = .int .i64 k ∧ ∃ tv, Blk wr w.heap.size [.pointer (some ⟨d, 0, none⟩), .int .i64 at_, .int .i64 (supTo s0.now s1.now k).turn, tv, .int .i64 (supTo s0.now s1.now k).slot] 96 ∧ Buf wr w.heap.size 5 tv (supTo s0.now s1.now k).text ∧ Keep [] w wr) (fun i _ => 2 - (intOf i).toNat)
  case atStart => exact ⟨0, by omega, rfl, _, hB0, Buf.nil _ _ _, (Keep.refl _ _).alloc _⟩
  case round =>
    obtain ⟨k, hk, rfl, tv, hB, hbuf, hK⟩ := hrel
    clear hB0
    by_cases hlt : k < 2
    · have q0 : (k : Int) < 2 := by omega
      obtain ⟨sk, hsk, hmk, hst⟩ : ∃ sk, L[at_ + k]? = some sk ∧ sk ∈ L ∧ supTo s0.now s1.now (k + 1) = supStep (supTo s0.now s1.now k) k sk.now := by
        have : k = 0 ∨ k = 1 := by omega
        rcases this with rfl | rfl
        · exact ⟨s0, hs0, hm0, rfl⟩
        · exact ⟨s1, hs1, hm1, rfl⟩
      have hx64 := (hd.ok sk hmk).1
      have hxb := (hd.ok sk hmk).2.2.1
      have HST := Lib.hid hst
      clear hst
      generalize hcu : supTo s0.now s1.now k = cu at *
      have q1 : ((at_ + k : Nat) : Int) = (at_ : Int) + (k : Int) := by omega
      go_wp2_with fail
      rw [← q1]
      refine (Read_in (hd.keep hK (by simp) (by simp)) (at_ + k) sk hsk).mono ?_
      rintro e w2 ⟨xv, rfl, hx, k2⟩
      obtain ⟨g, xcap, spare, rfl, hxc, hbg, hX⟩ := hx.head (by omega)
      rw [hx64] at hxc ⊢
      go_wp2_with fail
      have hN8 : unbe ((sk.now.drop 4).take 8) < 18446744073709551616 := by
        have := unbe_lt ((sk.now.drop 4).take 8) (fun c hc => hxb c (List.mem_of_mem_drop (List.mem_of_mem_take hc)))
        rw [show ((sk.now.drop 4).take 8).length = 8 by simp; omega] at this
        simpa using this
      have hrd8 : Rd w2 (.slice (some ⟨g, 4, none⟩) 8 (xcap - 4)) ((sk.now.drop 4).take 8) := rd_part hX 4 8 _ (by omega) (by omega) _ rfl
      have hc8 : Calls Try.prog 57 #[.slice (some ⟨g, 4, none⟩) 8 (xcap - 4)] w2 fun e w' => e = .returned (.int .u64 (supTurn sk.now)) ∧ w2 = w' := get_any _ _ hrd8 (fun c hc => hxb c (List.mem_of_mem_drop (List.mem_of_mem_take hc))) (by simp; omega) _ rfl
      refine hc8.mono ?_
      rintro e w3 ⟨rfl, rfl⟩
      clear hc8 hrd8
      have hSlt : crcSum (sk.now.drop 4) < 4294967296 := crcSum_lt _ (fun c hc => hxb c (List.mem_of_mem_drop hc))
      have hp : Rv (w2.alloc (.cells #[.slice (some ⟨g, 4, none⟩) 60 (xcap - 4)] 70)).drew 1 (.slice (some ⟨w2.heap.size, 0, none⟩) 1 1) 1 [.slice (some ⟨g, 4, none⟩) 60 (xcap - 4)] := (Rv.new w2 [.slice (some ⟨g, 4, none⟩) 60 (xcap - 4)] 70 1 1 1 rfl (by omega) _ rfl).keep (Keep.refl [] _).drew (by simp)
      have hX3 : Blk (w2.alloc (.cells #[.slice (some ⟨g, 4, none⟩) 60 (xcap - 4)] 70)).drew g (bcs sk.now ++ spare) 5 := (hX.alloc _).drew
      have hq : Rd (w2.alloc (.cells #[.slice (some ⟨g, 4, none⟩) 60 (xcap - 4)] 70)).drew (.slice (some ⟨g, 4, none⟩) 60 (xcap - 4)) (sk.now.drop 4) := rd_part hX3 4 60 _ (by omega) (by omega) _ (by rw [List.take_of_length_le (by simp; omega)])
      have hSum := Sum_one _ _ _ (sk.now.drop 4) hp hq (fun c hc => hxb c (List.mem_of_mem_drop hc)) (by simp; omega) _ rfl
      have hGet : Calls Try.prog 57 #[.slice (some ⟨g, 0, none⟩) 4 xcap] (w2.alloc (.cells #[.slice (some ⟨g, 4, none⟩) 60 (xcap - 4)] 70)).drew fun e w' => e = .returned (.int .u64 (unbe (sk.now.take 4) : Nat)) ∧ (w2.alloc (.cells #[.slice (some ⟨g, 4, none⟩) 60 (xcap - 4)] 70)).drew = w' := get_any _ _ (rd_part hX3 0 4 _ (by omega) (by omega) _ (by simp)) (fun c hc => hxb c (List.mem_of_mem_take hc)) (by simp; omega) _ rfl
      have hK2 := hK.trans k2
      have hB2 := hB.keep k2 (by simp)
      have hbuf2 := hbuf.keep k2 (by simp)
      have hg0 := supGood
      obtain ⟨SI, hSI⟩ : ∃ z : Int, z = (crcSum (sk.now.drop 4) : Int) := ⟨_, rfl⟩
      obtain ⟨GI, hGI⟩ : ∃ z : Int, z = (unbe (sk.now.take 4) : Int) := ⟨_, rfl⟩
      have hSI0 : 0 ≤ SI := by omega
      have hSI1 : SI < 4294967296 := by omega
      have hwr : IntKind.u64.wrap SI = SI := by
        simp [IntKind.wrap, IntKind.bits, IntKind.signed]
        omega
      obtain ⟨UI, hUI⟩ : ∃ z : Int, z = (supTurn sk.now : Int) := ⟨_, rfl⟩
      have hU0 : 0 ≤ UI := by omega
      have hU1 : UI < 18446744073709551616 := by unfold supTurn at hUI; omega
      rw [← hUI]
      obtain ⟨NI, hNI⟩ : ∃ z : Int, z = IntKind.i64.wrap UI := ⟨_, rfl⟩
      have hNW : IntKind.i64.wrap UI = NI := hNI.symm
      have hNc : (supTurn sk.now < 9223372036854775808 ∧ NI = supTurn sk.now) ∨ (¬ supTurn sk.now < 9223372036854775808 ∧ NI < 0) := by
        rw [hNI, hUI]
        unfold supTurn at *
        simp [IntKind.wrap, IntKind.bits, IntKind.signed]
        omega
      obtain ⟨m, hm⟩ : ∃ z : Nat, z = sk.now.getD 12 0 := ⟨_, rfl⟩
      have HM := Lib.hid hm
      have hx12 : w2.cell? ⟨g, 12, none⟩ = some (.int .u8 m) := by
        rw [hX.cell, List.getElem?_append_left (by simp; omega), bcs_at _ _ (by omega), hm]; rfl
      have g2 := hB2.cell 2
      simp only [List.getElem?_cons_succ, List.getElem?_cons_zero] at g2
      have hgood : supGood cu.turn sk.now = (SI == GI && (decide ((cu.turn : Int) < NI) && decide (m ≤ 40))) := by
        unfold supGood
        rw [Bool.eq_iff_iff]
        simp only [Bool.and_eq_true, beq_iff_eq, decide_eq_true_eq]
        omega
      rw [← hSI] at hSum
      rw [← hGI] at hGet
      clear hNI hU0 hU1 hUI
      have pS : (w2.alloc (.cells #[.slice (some ⟨g, 4, none⟩) 60 (xcap - 4)] 70)).drew.cell? ⟨w.heap.size, 2, none⟩ = some (.int .i64 cu.turn) := by
        have := ((hB2.alloc (.cells #[.slice (some ⟨g, 4, none⟩) 60 (xcap - 4)] 70)).drew).cell 2
        simpa only [List.getElem?_cons_succ, List.getElem?_cons_zero] using this
      have pX : (w2.alloc (.cells #[.slice (some ⟨g, 4, none⟩) 60 (xcap - 4)] 70)).drew.cell? ⟨g, 12, none⟩ = some (.int .u8 m) := by
        rw [← hx12, hX3.cell, hX.cell]
      have PS := Lib.hid pS
      have PX := Lib.hid pX
      clear pS pX
      have HNC := Lib.hid hNc
      have HSum := Lib.hid hSum
      have HGet := Lib.hid hGet
      have HGood := Lib.hid hgood
      have HX := Lib.hid hX
      clear hSum hGet hgood hp hq hX3 hX hg0 hSlt hN8 hx hB hbuf hK k2 hcu hSI hGI hm hNc
      have y1 : ¬ xcap = 4 := by omega
      have y2 : (4 : Int) ≤ (xcap : Int) := by omega
      have y3 : (64 : Int) ≤ (xcap : Int) := by omega
      by_cases hgo : supGood cu.turn sk.now = true
      · have hall := hgo
        rw [HGood.out] at hall
        simp only [Bool.and_eq_true, beq_iff_eq, decide_eq_true_eq] at hall
        obtain ⟨hA, hB_, hC⟩ := hall
        have hst2 : supStep cu k sk.now = ⟨supTurn sk.now, k, supText sk.now⟩ := by unfold supStep; rw [if_pos hgo]
        have HST2 := Lib.hid hst2
        clear hst2 hgo
        have hA2 : (SI == GI) = true := by simpa using hA
        have z1 : decide ((cu.turn : Int) < NI) = true := decide_eq_true hB_
        have z2 : decide ((m : Int) ≤ (40 : Int)) = true := decide_eq_true (by omega)
        have z3 : decide (m ≤ 40) = true := decide_eq_true hC
        have hm40 : m ≤ 40 := hC
        have hNT : NI = (supTurn sk.now : Int) := by have := HNC.out; omega
        have HNT := Lib.hid hNT
        clear hNT
        clear hA hB_ hC
        go_wp2_with fail
        first
          | (go_region_with
              (first
                | (go_at_call 58; refine HSum.out.mono ?_; rintro e ws ⟨rfl, hws⟩; have gs2 := PS.out; have gs12 := PX.out; rw [hws] at gs2 gs12)
                | (go_at_call 57; (try rw [← hws]); refine HGet.out.mono ?_; rintro e wg ⟨rfl, hwg⟩; have gg2 := PS.out; have gg12 := PX.out; rw [hwg] at gg2 gg12)
                | fail))
          | fail
        have hB3 : Blk wg w.heap.size [.pointer (some ⟨d, 0, none⟩), .int .i64 at_, .int .i64 cu.turn, tv, .int .i64 cu.slot] 96 := by rw [← hwg]; exact (hB2.alloc _).drew
        have hK3 : Keep [] w wg := by rw [← hwg]; exact (hK2.alloc _).drew
        have hX3 : Blk wg g (bcs sk.now ++ spare) 5 := by rw [← hwg]; exact (HX.out.alloc _).drew
        have v1 : IntKind.i64.wrap (m : Int) = (m : Int) := by simp [IntKind.wrap, IntKind.bits, IntKind.signed]; omega
        have v2 : IntKind.i64.wrap (13 + (m : Int)) = 13 + (m : Int) := by simp [IntKind.wrap, IntKind.bits, IntKind.signed]; omega
        have v3 : (13 : Int) + (m : Int) ≤ (xcap : Int) := by omega
        have v4 : ¬ xcap = 13 := by omega
        clear gg2 gg12 gs2 gs12
        have gg12 := hX3.cell 12
        rw [List.getElem?_append_left (by simp; omega), bcs_at _ _ (by omega), ← HM.out] at gg12
        unfold bc at gg12
        go_wp2_with fail
        have hcl := Clone_any (w := wg) (.slice (some ⟨g, 13, none⟩) m (xcap - 13)) (supText sk.now) (rd_part hX3 13 m _ (by omega) (by omega) _ (by unfold supText; rw [HM.out])) (by unfold supText; simp; omega)
        refine hcl.mono ?_
        rintro e w5 ⟨nv, rfl, hnb, k5⟩
        clear hcl
        have hB5 := hB3.keep k5 (by simp)
        have hK5 := hK3.trans k5
        obtain ⟨na, ncap, rfl⟩ := hnb.slice
        have s2 := hB5.cell 2
        have s3 := hB5.cell 3
        have s4 := hB5.cell 4
        have f2 := hB5.free 2
        have f3 := hB5.free 3
        have f4 := hB5.free 4
        simp only [List.getElem?_cons_succ, List.getElem?_cons_zero] at s2 s3 s4
        clear gg12 g2 hx12
        go_wp2_with fail
        have hB6 := ((hB5.set 2 (.int .i64 NI)).set 4 (.int .i64 k)).set 3 (.slice na (supText sk.now).length ncap)
        have hk6 : Keep [w.heap.size] w5 (((w5.setCell ⟨w.heap.size, 2, none⟩ (.int .i64 NI)).setCell ⟨w.heap.size, 4, none⟩ (.int .i64 k)).setCell ⟨w.heap.size, 3, none⟩ (.slice na (supText sk.now).length ncap)) := Keep.setCell (Keep.setCell (Keep.setCell (Keep.refl _ _) (.inl (by simp)) _) (.inl (by simp)) _) (.inl (by simp)) _
        have hsz5 := hK3.size
        go_roundw
        case rel =>
          refine ⟨k + 1, by omega, by go_num, ?_⟩
          rw [HST.out, HST2.out]
          refine ⟨.slice na (supText sk.now).length ncap, ?_, (hnb.mono hsz5).keep hk6 ?_, hK5.then hk6 (by simp)⟩
          · show Blk _ _ [_, _, .int .i64 (supTurn sk.now : Int), _, _] _
            rw [← HNT.out]
            exact hB6
          · intro b hb hm'
            simp at hm'
            subst hm'
            have := (hnb.lt _ hb).1
            have := hB3.lt
            omega
        case measure => simp [intOf]; omega
      · have hst2 : supStep cu k sk.now = cu := by unfold supStep; rw [if_neg hgo]
        have hno : ¬ SI = GI ∨ (SI = GI ∧ ¬ (cu.turn : Int) < NI) ∨ (SI = GI ∧ (cu.turn : Int) < NI ∧ ¬ m ≤ 40) := by
          rw [HGood.out] at hgo
          simp only [Bool.and_eq_true, beq_iff_eq, decide_eq_true_eq] at hgo
          by_cases h1 : SI = GI
          · by_cases h2 : (cu.turn : Int) < NI
            · by_cases h3 : m ≤ 40
              · exact absurd ⟨h1, h2, h3⟩ hgo
              · exact .inr (.inr ⟨h1, h2, h3⟩)
            · exact .inr (.inl ⟨h1, h2⟩)
          · exact .inl h1
        rw [← HST.out] at hst2
        have HST := Lib.hid hst2
        clear hst2 hgo
        rcases hno with hA | ⟨hA, hB_⟩ | ⟨hA, hB_, hC⟩
        · have hA2 : (SI == GI) = false := by simpa using hA
          clear hA
          go_wp2_with fail
          first
            | (go_region_with
                (first
                  | (go_at_call 58; refine HSum.out.mono ?_; rintro e ws ⟨rfl, hws⟩; have gs2 := PS.out; have gs12 := PX.out; rw [hws] at gs2 gs12)
                  | (go_at_call 57; (try rw [← hws]); refine HGet.out.mono ?_; rintro e wg ⟨rfl, hwg⟩; have gg2 := PS.out; have gg12 := PX.out; rw [hwg] at gg2 gg12)
                  | fail))
            | fail
          all_goals
            have hB3 : Blk wg w.heap.size [.pointer (some ⟨d, 0, none⟩), .int .i64 at_, .int .i64 cu.turn, tv, .int .i64 cu.slot] 96 := by rw [← hwg]; exact (hB2.alloc _).drew
            have hbuf3 : Buf wg w.heap.size 5 tv cu.text := by rw [← hwg]; exact hbuf2.alloc _
            have hK3 : Keep [] w wg := by rw [← hwg]; exact (hK2.alloc _).drew
            clear gg2 gg12
            go_wp2_with fail
            go_roundw
            case rel => exact ⟨k + 1, by omega, by go_num, by rw [HST.out]; exact ⟨tv, hB3, hbuf3, hK3⟩⟩
            case measure => simp [intOf]; omega
        · have hA2 : (SI == GI) = true := by simpa using hA
          have z1 : decide ((cu.turn : Int) < NI) = false := decide_eq_false hB_
          clear hA hB_
          go_wp2_with fail
          first
            | (go_region_with
                (first
                  | (go_at_call 58; refine HSum.out.mono ?_; rintro e ws ⟨rfl, hws⟩; have gs2 := PS.out; have gs12 := PX.out; rw [hws] at gs2 gs12)
                  | (go_at_call 57; (try rw [← hws]); refine HGet.out.mono ?_; rintro e wg ⟨rfl, hwg⟩; have gg2 := PS.out; have gg12 := PX.out; rw [hwg] at gg2 gg12)
                  | fail))
            | fail
          all_goals
            have hB3 : Blk wg w.heap.size [.pointer (some ⟨d, 0, none⟩), .int .i64 at_, .int .i64 cu.turn, tv, .int .i64 cu.slot] 96 := by rw [← hwg]; exact (hB2.alloc _).drew
            have hbuf3 : Buf wg w.heap.size 5 tv cu.text := by rw [← hwg]; exact hbuf2.alloc _
            have hK3 : Keep [] w wg := by rw [← hwg]; exact (hK2.alloc _).drew
            clear gg2 gg12
            go_wp2_with fail
            go_roundw
            case rel => exact ⟨k + 1, by omega, by go_num, by rw [HST.out]; exact ⟨tv, hB3, hbuf3, hK3⟩⟩
            case measure => simp [intOf]; omega
        · have hA2 : (SI == GI) = true := by simpa using hA
          have z1 : decide ((cu.turn : Int) < NI) = true := decide_eq_true hB_
          have z2 : decide ((m : Int) ≤ (40 : Int)) = false := decide_eq_false (by omega)
          have z3 : decide (m ≤ 40) = false := decide_eq_false hC
          clear hA hB_ hC
          go_wp2_with fail
          first
            | (go_region_with
                (first
                  | (go_at_call 58; refine HSum.out.mono ?_; rintro e ws ⟨rfl, hws⟩; have gs2 := PS.out; have gs12 := PX.out; rw [hws] at gs2 gs12)
                  | (go_at_call 57; (try rw [← hws]); refine HGet.out.mono ?_; rintro e wg ⟨rfl, hwg⟩; have gg2 := PS.out; have gg12 := PX.out; rw [hwg] at gg2 gg12)
                  | fail))
            | fail
          all_goals
            have hB3 : Blk wg w.heap.size [.pointer (some ⟨d, 0, none⟩), .int .i64 at_, .int .i64 cu.turn, tv, .int .i64 cu.slot] 96 := by rw [← hwg]; exact (hB2.alloc _).drew
            have hbuf3 : Buf wg w.heap.size 5 tv cu.text := by rw [← hwg]; exact hbuf2.alloc _
            have hK3 : Keep [] w wg := by rw [← hwg]; exact (hK2.alloc _).drew
            clear gg2 gg12
            go_wp2_with fail
            go_roundw
            case rel => exact ⟨k + 1, by omega, by go_num, by rw [HST.out]; exact ⟨tv, hB3, hbuf3, hK3⟩⟩
            case measure => simp [intOf]; omega
    · obtain rfl : k = 2 := by omega
      have g2 := hB.cell 2
      simp only [List.getElem?_cons_succ, List.getElem?_cons_zero] at g2
      generalize hcu : supTo s0.now s1.now 2 = cu at *
      have HCU := Lib.hid hcu
      clear hcu
      by_cases ht : cu.turn = 0
      · rw [ht] at g2
        go_wp2_with fail
        go_ret2
        exact ⟨hK, .inl ⟨by rw [HCU.out]; exact ht, rfl⟩⟩
      · have hti : ((cu.turn : Int) == 0) = false := by simpa using ht
        have hti2 : ¬ (cu.turn : Int) = 0 := by omega
        have HT := Lib.hid ht
        clear ht
        go_wp2_with fail
        go_ret2
        rw [HCU.out]
        exact ⟨hK, .inr ⟨HT.out, w.heap.size, rfl, Nat.le_refl _, tv, hB, hbuf.mono (Nat.zero_le _)⟩⟩
end Go.Proofs.Ytcoaobdijlppgaa
/- What sectors of a Super say; the laws' begun; the law SuperNone. -/
namespace Go.Proofs.Ytcoaobdijlppgaa
open Go.ChangeShapes Go.WideShapes Go.ChangeAt Go.RowKit
set_option linter.unusedVariables false
set_option linter.unusedSimpArgs false
set_option maxRecDepth 100000

theorem sImg_drop (n : Nat) (t : List Nat) : (sImg n t).drop 4 = sBody n t := by
  unfold sImg; rw [List.drop_left' (by simp)]
theorem sImg_take (n : Nat) (t : List Nat) : (sImg n t).take 4 = be 4 (crcSum (sBody n t)) := by
  unfold sImg; rw [List.take_left' (by simp)]
theorem supTurn_img (n : Nat) (t : List Nat) (hn : n < 18446744073709551616) : supTurn (sImg n t) = n := by
  unfold supTurn
  rw [sImg_drop]
  unfold sBody
  rw [List.take_left' (by simp), unbe_be]
  exact Nat.mod_eq_of_lt hn
theorem sImg_13 (n : Nat) (t : List Nat) : (sImg n t).drop 12 = [t.length] ++ (t ++ List.replicate (51 - t.length) 0) := by
  have : (sImg n t).drop 12 = ((sImg n t).drop 4).drop 8 := by rw [List.drop_drop]
  rw [this, sImg_drop]
  unfold sBody
  rw [List.drop_left' (by simp)]
theorem getD_drop (l : List Nat) (k : Nat) : l.getD k 0 = (l.drop k).getD 0 0 := by
  simp [List.getD_eq_getElem?_getD]
theorem sImg_12 (n : Nat) (t : List Nat) : (sImg n t).getD 12 0 = t.length := by
  rw [getD_drop, sImg_13]; rfl
theorem supText_img (n : Nat) (t : List Nat) : supText (sImg n t) = t := by
  unfold supText
  rw [sImg_12]
  have : (sImg n t).drop 13 = ((sImg n t).drop 12).drop 1 := by rw [List.drop_drop]
  rw [this, sImg_13, List.singleton_append, List.drop_succ_cons, List.drop_zero, List.take_left' rfl]
theorem supGood_img (c n : Nat) (t : List Nat) (hl : t.length ≤ 40) (hb : ∀ x ∈ t, x < 256) (hn : n < 9223372036854775808) : supGood c (sImg n t) = decide (c < n) := by
  unfold supGood
  have hs := crcSum_lt (sBody n t) (sBody_byte n t hl hb)
  rw [sImg_drop, sImg_take, unbe_be, supTurn_img _ _ (by omega), sImg_12]
  have e : crcSum (sBody n t) % 256 ^ 4 = crcSum (sBody n t) := Nat.mod_eq_of_lt (by simpa using hs)
  rw [e]
  simp [hl, hn]
theorem supTurn_zero : supTurn (List.replicate 64 0) = 0 := by decide
theorem supGood_le (c : Nat) (x : List Nat) (h : supTurn x ≤ c) : supGood c x = false := by
  unfold supGood
  have : decide (c < supTurn x) = false := decide_eq_false (by omega)
  rw [this]; simp
theorem supStep_turn (c : Sup3) (k : Nat) (x : List Nat) : (supStep c k x).turn = c.turn ∨ (supStep c k x).turn = supTurn x := by
  unfold supStep
  split
  · exact .inr rfl
  · exact .inl rfl
/-- The newest in slot 0, or in slot 1. -/
theorem supTo_best0 (n : Nat) (t y : List Nat) (hl : t.length ≤ 40) (hb : ∀ x ∈ t, x < 256) (h0 : 0 < n) (hn : n < 9223372036854775808) (hy : supTurn y ≤ n) : supTo (sImg n t) y 2 = ⟨n, 0, t⟩ := by
  show supStep (supStep ⟨0, 0, []⟩ 0 (sImg n t)) 1 y = _
  have e : supStep ⟨0, 0, []⟩ 0 (sImg n t) = ⟨n, 0, t⟩ := by
    unfold supStep
    rw [supGood_img _ _ _ hl hb hn, if_pos (by simpa using h0), supTurn_img _ _ (by omega), supText_img]
  rw [e]
  unfold supStep
  rw [supGood_le _ _ hy]
  rfl
theorem supTo_best1 (n : Nat) (t y : List Nat) (hl : t.length ≤ 40) (hb : ∀ x ∈ t, x < 256) (h0 : 0 < n) (hn : n < 9223372036854775808) (hy : supTurn y < n) : supTo y (sImg n t) 2 = ⟨n, 1, t⟩ := by
  show supStep (supStep ⟨0, 0, []⟩ 0 y) 1 (sImg n t) = _
  have hc : (supStep ⟨0, 0, []⟩ 0 y).turn < n := by
    rcases supStep_turn ⟨0, 0, []⟩ 0 y with h | h
    · rw [h]; exact h0
    · rw [h]; exact hy
  generalize supStep ⟨0, 0, []⟩ 0 y = c at *
  unfold supStep
  rw [supGood_img _ _ _ hl hb hn, if_pos (by simpa using hc), supTurn_img _ _ (by omega), supText_img]
/-- Nothing whole. -/
theorem supTo_none (x y : List Nat) (hx : supGood 0 x = false) (hy : supGood 0 y = false) : supTo x y 2 = ⟨0, 0, []⟩ := by
  show supStep (supStep ⟨0, 0, []⟩ 0 x) 1 y = _
  have e : supStep ⟨0, 0, []⟩ 0 x = ⟨0, 0, []⟩ := by unfold supStep; rw [hx]; rfl
  rw [e]
  unfold supStep
  rw [hy]
  rfl
theorem u8s_own {w : World} {n : Nat} {d sb : Nat} (hd : d < w.heap.size) (hs : sb < w.heap.size) (o : Obj) {Z : Prop} : ∀ b, (Value.slice (some ⟨w.heap.size, 0, none⟩) n n).ownBlock = some b → Z → b < (w.alloc o).heap.size ∧ b ≠ d ∧ b ≠ sb := by
  intro b hb _
  have : w.heap.size = b := Option.some.inj hb
  subst this
  simp; omega
theorem u8s_rd (w : World) (cs : List Nat) (b : Nat) (hb : b = w.heap.size) (fr : Nat × Nat) : Rd (w.alloc (.cells (bcs cs).toArray 5 fr)) (.slice (some ⟨b, 0, none⟩) cs.length cs.length) cs := by
  subst hb
  refine ⟨by simp, _, cs.length, rfl, Nat.le_refl _, fun _ => ⟨w.heap.size, 0, rfl, by simp, fun i hi => ?_⟩⟩
  rw [Nat.zero_add, World.cell?_alloc_mark]
  simp
/-- Two sectors from a place on: in one the newest text, the other elder; nothing is loose. -/
def Pair (L : List Sec) (at_ slot turn : Nat) (text : List Nat) : Prop :=
  ∃ y, supTurn y < turn ∧ L[at_ + slot]? = some ⟨sImg turn text, sImg turn text, false⟩ ∧ L[at_ + (1 - slot)]? = some ⟨y, y, false⟩
theorem Pair.make (L : List Sec) (at_ : Nat) (text : List Nat) (h : at_ + 1 < L.length) : Pair (((L.map flushSec).set (at_ + 1) zeroSec).set at_ ⟨sImg 1 text, sImg 1 text, false⟩) at_ 0 1 text := by
  refine ⟨List.replicate 64 0, by rw [supTurn_zero]; omega, ?_, ?_⟩
  · rw [show at_ + 0 = at_ from rfl, List.getElem?_set_self (by simp; omega)]
  · rw [show at_ + (1 - 0) = at_ + 1 from rfl, List.getElem?_set_ne (by omega), List.getElem?_set_self (by simp; omega)]
    rfl
theorem Pair.save {L : List Sec} {at_ slot turn : Nat} {text : List Nat} (h : Pair L at_ slot turn text) (hs : slot ≤ 1) (ht : turn < 18446744073709551616) (text' : List Nat) :
    Pair ((L.map flushSec).set (at_ + (1 - slot)) ⟨sImg (turn + 1) text', sImg (turn + 1) text', false⟩) at_ (1 - slot) (turn + 1) text' := by
  obtain ⟨y, hy, h1, h2⟩ := h
  have l2 := (List.getElem?_eq_some_iff.1 h2).1
  refine ⟨sImg turn text, by rw [supTurn_img _ _ ht]; omega, ?_, ?_⟩
  · rw [List.getElem?_set_self (by simpa using l2)]
  · rw [show 1 - (1 - slot) = slot by omega, List.getElem?_set_ne (by omega), List.getElem?_map, h1]
    rfl
theorem Pair.set {L : List Sec} {at_ slot turn : Nat} {text : List Nat} (h : Pair L at_ slot turn text) (hs : slot ≤ 1) (i : Nat) (x : Sec) (hi : i ≠ at_ ∧ i ≠ at_ + 1) : Pair (L.set i x) at_ slot turn text := by
  obtain ⟨y, hy, h1, h2⟩ := h
  exact ⟨y, hy, by rw [List.getElem?_set_ne (by omega)]; exact h1, by rw [List.getElem?_set_ne (by omega)]; exact h2⟩
theorem Pair.flush {L : List Sec} {at_ slot turn : Nat} {text : List Nat} (h : Pair L at_ slot turn text) : Pair (L.map flushSec) at_ slot turn text := by
  obtain ⟨y, hy, h1, h2⟩ := h
  exact ⟨y, hy, by rw [List.getElem?_map, h1]; rfl, by rw [List.getElem?_map, h2]; rfl⟩
theorem crashN_tight (L : List Sec) (keep : List Bool) (i : Nat) (y : List Nat) (h : L[i]? = some ⟨y, y, false⟩) : (crashN L keep L.length)[i]? = some ⟨y, y, false⟩ := by
  have hl := (List.getElem?_eq_some_iff.1 h).1
  unfold crashN
  rw [List.getElem?_map, List.getElem?_range hl]
  have hg : L.getD i zeroSec = ⟨y, y, false⟩ := by rw [List.getD_eq_getElem?_getD, h]; rfl
  show some (sec2 (crashNow L keep i)) = _
  unfold crashNow sec2
  rw [hg]
  rfl
theorem Pair.crash {L : List Sec} {at_ slot turn : Nat} {text : List Nat} (h : Pair L at_ slot turn text) (keep : List Bool) : Pair (crashN L keep L.length) at_ slot turn text := by
  obtain ⟨y, hy, h1, h2⟩ := h
  exact ⟨y, hy, crashN_tight _ _ _ _ h1, crashN_tight _ _ _ _ h2⟩
theorem Pair.len {L : List Sec} {at_ slot turn : Nat} {text : List Nat} (h : Pair L at_ slot turn text) (hs : slot ≤ 1) : at_ + 1 < L.length := by
  obtain ⟨y, hy, h1, h2⟩ := h
  have l1 := (List.getElem?_eq_some_iff.1 h1).1
  have l2 := (List.getElem?_eq_some_iff.1 h2).1
  rcases (show slot = 0 ∨ slot = 1 by omega) with rfl | rfl <;> simp at l1 l2 <;> omega
/-- Opened: the newest text. -/
theorem Open_pair {w : World} {d sb : Nat} {L : List Sec} {c : Nat} (hd : IsDev w d sb L c) {at_ slot turn : Nat} {text : List Nat} (h : Pair L at_ slot turn text) (hs : slot ≤ 1)
    (hl : text.length ≤ 40) (hb : ∀ x ∈ text, x < 256) (h0 : 0 < turn) (hn : turn < 9223372036854775808) :
    Calls Try.prog 39 #[.pointer (some ⟨d, 0, none⟩), .int .i64 at_] w fun e w' => ∃ s, e = .returned (.tuple #[.pointer (some ⟨s, 0, none⟩), .int .i64 0]) ∧ w.heap.size ≤ s ∧ IsSup w' s d at_ turn text slot ∧ Keep [] w w' := by
  obtain ⟨y, hy, h1, h2⟩ := h
  have hx : ∃ s0 s1, L[at_]? = some s0 ∧ L[at_ + 1]? = some s1 ∧ supTo s0.now s1.now 2 = ⟨turn, slot, text⟩ := by
    rcases (show slot = 0 ∨ slot = 1 by omega) with rfl | rfl
    · exact ⟨_, _, h1, h2, supTo_best0 turn text y hl hb h0 hn (by omega)⟩
    · exact ⟨_, _, h2, h1, supTo_best1 turn text y hl hb h0 hn hy⟩
  obtain ⟨s0, s1, e0, e1, e⟩ := hx
  refine (Open_any hd at_ s0 s1 e0 e1).mono ?_
  rintro r w' ⟨hk, hc⟩
  rw [e] at hc
  rcases hc with ⟨h', _⟩ | ⟨_, s, rfl, hs', hS⟩
  · exact absurd h' (by show ¬ turn = 0; omega)
  · exact ⟨s, rfl, hs', hS, hk⟩
theorem Make_out {w : World} {d sb : Nat} {L : List Sec} {c : Nat} (hd : IsDev w d sb L c) (at_ : Int) (hat : at_ < 0 ∨ (L.length : Int) ≤ at_ + 1) (v : Value) :
    Calls Try.prog 27 #[.pointer (some ⟨d, 0, none⟩), .int .i64 at_, v] w fun e w' => e = .returned (.tuple #[.pointer none, .int .i64 4]) ∧ w = w' := by
  go_enter Try.func27, Try.ntmps27
  go_wp2_with fail
  refine (there_out hd at_ hat).mono ?_
  rintro e w1 ⟨rfl, rfl⟩
  go_wp2_with fail
  go_ret2
  exact ⟨rfl, rfl⟩
theorem Make_long {w : World} {d sb : Nat} {L : List Sec} {c : Nat} (hd : IsDev w d sb L c) (at_ : Nat) (hat : at_ + 1 < L.length) (a : Option Addr) (n cap : Nat) (hn : 40 < n) :
    Calls Try.prog 27 #[.pointer (some ⟨d, 0, none⟩), .int .i64 at_, .slice a n cap] w fun e w' => e = .returned (.tuple #[.pointer none, .int .i64 1]) ∧ w = w' := by
  have q0 : (40 : Int) < n := by omega
  go_enter Try.func27, Try.ntmps27
  go_wp2_with fail
  refine (there_in hd at_ hat).mono ?_
  rintro e w1 ⟨rfl, rfl⟩
  go_wp2_with fail
  go_ret2
  exact ⟨rfl, rfl⟩
theorem Open_out {w : World} {d sb : Nat} {L : List Sec} {c : Nat} (hd : IsDev w d sb L c) (at_ : Int) (hat : at_ < 0 ∨ (L.length : Int) ≤ at_ + 1) :
    Calls Try.prog 39 #[.pointer (some ⟨d, 0, none⟩), .int .i64 at_] w fun e w' => e = .returned (.tuple #[.pointer none, .int .i64 4]) ∧ w = w' := by
  go_enter Try.func39, Try.ntmps39
  go_wp2_with fail
  refine (there_out hd at_ hat).mono ?_
  rintro e w1 ⟨rfl, rfl⟩
  go_wp2_with fail
  go_ret2
  exact ⟨rfl, rfl⟩
theorem Open_none {w : World} {d sb : Nat} {L : List Sec} {c : Nat} (hd : IsDev w d sb L c) (at_ : Nat) (x0 x1 : Sec) (h0 : L[at_]? = some x0) (h1 : L[at_ + 1]? = some x1) (hx : supGood 0 x0.now = false) (hy : supGood 0 x1.now = false) :
    Calls Try.prog 39 #[.pointer (some ⟨d, 0, none⟩), .int .i64 at_] w fun e w' => e = .returned (.tuple #[.pointer none, .int .i64 3]) ∧ Keep [] w w' := by
  refine (Open_any hd at_ x0 x1 h0 h1).mono ?_
  rintro r w' ⟨hk, hc⟩
  rw [supTo_none _ _ hx hy] at hc
  rcases hc with ⟨_, rfl⟩ | ⟨h', _⟩
  · exact ⟨rfl, hk⟩
  · exact absurd rfl h'
end Go.Proofs.Ytcoaobdijlppgaa
/- The authority: its struct; Epoch, Under, Members, may. -/
namespace Go.Proofs.Ytcoaobdijlppgaa
open Go.ChangeShapes Go.WideShapes Go.ChangeAt Go.RowKit
set_option linter.unusedVariables false
set_option linter.unusedSimpArgs false
set_option maxRecDepth 100000

structure Ct where
  epoch : Int
  top : Int
  mem : List Int
  num : Int
  phase : Int
  dest : List Int
  nodes : List Int
  lost : Int
  done : List Int
def ctC (kb s g : Nat) (t : Ct) (vm vt vn vd : Value) : List Value := [.pointer (some ⟨kb, 0, none⟩), .pointer (some ⟨s, 0, none⟩), .int .i64 t.epoch, .int .i64 t.top, vm, .int .i64 t.num, .int .i64 t.phase, vt, vn, .int .i64 t.lost, vd, .map (some g)]
theorem ctc_0 {w : World} {c kb s g : Nat} {t : Ct} {vm vt vn vd : Value} {T : TypeId} (h : Blk w c (ctC kb s g t vm vt vn vd) T) : w.cell? ⟨c, 0, none⟩ = some (.pointer (some ⟨kb, 0, none⟩)) ∧ w.frozen? ⟨c, 0, none⟩ = false := ⟨h.cell 0, h.free 0⟩
theorem ctc_1 {w : World} {c kb s g : Nat} {t : Ct} {vm vt vn vd : Value} {T : TypeId} (h : Blk w c (ctC kb s g t vm vt vn vd) T) : w.cell? ⟨c, 1, none⟩ = some (.pointer (some ⟨s, 0, none⟩)) ∧ w.frozen? ⟨c, 1, none⟩ = false := ⟨h.cell 1, h.free 1⟩
theorem ctc_2 {w : World} {c kb s g : Nat} {t : Ct} {vm vt vn vd : Value} {T : TypeId} (h : Blk w c (ctC kb s g t vm vt vn vd) T) : w.cell? ⟨c, 2, none⟩ = some (.int .i64 t.epoch) ∧ w.frozen? ⟨c, 2, none⟩ = false := ⟨h.cell 2, h.free 2⟩
theorem ctc_3 {w : World} {c kb s g : Nat} {t : Ct} {vm vt vn vd : Value} {T : TypeId} (h : Blk w c (ctC kb s g t vm vt vn vd) T) : w.cell? ⟨c, 3, none⟩ = some (.int .i64 t.top) ∧ w.frozen? ⟨c, 3, none⟩ = false := ⟨h.cell 3, h.free 3⟩
theorem ctc_4 {w : World} {c kb s g : Nat} {t : Ct} {vm vt vn vd : Value} {T : TypeId} (h : Blk w c (ctC kb s g t vm vt vn vd) T) : w.cell? ⟨c, 4, none⟩ = some (vm) ∧ w.frozen? ⟨c, 4, none⟩ = false := ⟨h.cell 4, h.free 4⟩
theorem ctc_5 {w : World} {c kb s g : Nat} {t : Ct} {vm vt vn vd : Value} {T : TypeId} (h : Blk w c (ctC kb s g t vm vt vn vd) T) : w.cell? ⟨c, 5, none⟩ = some (.int .i64 t.num) ∧ w.frozen? ⟨c, 5, none⟩ = false := ⟨h.cell 5, h.free 5⟩
theorem ctc_6 {w : World} {c kb s g : Nat} {t : Ct} {vm vt vn vd : Value} {T : TypeId} (h : Blk w c (ctC kb s g t vm vt vn vd) T) : w.cell? ⟨c, 6, none⟩ = some (.int .i64 t.phase) ∧ w.frozen? ⟨c, 6, none⟩ = false := ⟨h.cell 6, h.free 6⟩
theorem ctc_7 {w : World} {c kb s g : Nat} {t : Ct} {vm vt vn vd : Value} {T : TypeId} (h : Blk w c (ctC kb s g t vm vt vn vd) T) : w.cell? ⟨c, 7, none⟩ = some (vt) ∧ w.frozen? ⟨c, 7, none⟩ = false := ⟨h.cell 7, h.free 7⟩
theorem ctc_8 {w : World} {c kb s g : Nat} {t : Ct} {vm vt vn vd : Value} {T : TypeId} (h : Blk w c (ctC kb s g t vm vt vn vd) T) : w.cell? ⟨c, 8, none⟩ = some (vn) ∧ w.frozen? ⟨c, 8, none⟩ = false := ⟨h.cell 8, h.free 8⟩
theorem ctc_9 {w : World} {c kb s g : Nat} {t : Ct} {vm vt vn vd : Value} {T : TypeId} (h : Blk w c (ctC kb s g t vm vt vn vd) T) : w.cell? ⟨c, 9, none⟩ = some (.int .i64 t.lost) ∧ w.frozen? ⟨c, 9, none⟩ = false := ⟨h.cell 9, h.free 9⟩
theorem ctc_10 {w : World} {c kb s g : Nat} {t : Ct} {vm vt vn vd : Value} {T : TypeId} (h : Blk w c (ctC kb s g t vm vt vn vd) T) : w.cell? ⟨c, 10, none⟩ = some (vd) ∧ w.frozen? ⟨c, 10, none⟩ = false := ⟨h.cell 10, h.free 10⟩
theorem ctc_11 {w : World} {c kb s g : Nat} {t : Ct} {vm vt vn vd : Value} {T : TypeId} (h : Blk w c (ctC kb s g t vm vt vn vd) T) : w.cell? ⟨c, 11, none⟩ = some (.map (some g)) ∧ w.frozen? ⟨c, 11, none⟩ = false := ⟨h.cell 11, h.free 11⟩
/-- The rows of a state: each the program's own; what is done lies behind the others. -/
structure CtR (w : World) (t : Ct) (vm vt vn vd : Value) (base : Nat) : Prop where
  mem : Own w 0 3 vm (ints t.mem)
  dest : Own w 0 3 vt (ints t.dest)
  nodes : Own w 0 3 vn (ints t.nodes)
  done : Own w base 3 vd (ints t.done)
  l1 : ∀ q, vm.ownBlock = some q → q < base
  l2 : ∀ q, vt.ownBlock = some q → q < base
  l3 : ∀ q, vn.ownBlock = some q → q < base
  memn : t.mem.length ≤ 5
  ton : t.dest.length ≤ 5
  nodesn : t.nodes.length ≤ 5
  donen : t.done.length ≤ 5
theorem CtR.keep {w w' : World} {t : Ct} {vm vt vn vd : Value} {base : Nat} {S : List Nat} (h : CtR w t vm vt vn vd base) (k : Keep S w w') (hS : ∀ q ∈ S, ¬ Ty w q 3) : CtR w' t vm vt vn vd base :=
  ⟨h.mem.keep k (fun b hb hm => hS b hm (h.mem.ty b hb)), h.dest.keep k (fun b hb hm => hS b hm (h.dest.ty b hb)), h.nodes.keep k (fun b hb hm => hS b hm (h.nodes.ty b hb)), h.done.keep k (fun b hb hm => hS b hm (h.done.ty b hb)),
   h.l1, h.l2, h.l3, h.memn, h.ton, h.nodesn, h.donen⟩
theorem CtR.still {w w' : World} {t : Ct} {vm vt vn vd : Value} {base : Nat} (h : CtR w t vm vt vn vd base) (k : Keep [] w w') : CtR w' t vm vt vn vd base := h.keep k (by simp)
/-- The authority's struct at c. -/
def CtB (w : World) (c kb s g : Nat) (t : Ct) (vm vt vn vd : Value) : Prop := Blk w c (ctC kb s g t vm vt vn vd) 64
section
variable {w : World} {c kb s g : Nat} {t : Ct} {vm vt vn vd : Value}
theorem CtB.keep {w' : World} {S : List Nat} (h : CtB w c kb s g t vm vt vn vd) (k : Keep S w w') (hn : c ∉ S) : CtB w' c kb s g t vm vt vn vd := Blk.keep h k hn
theorem Epoch_any (h : CtB w c kb s g t vm vt vn vd) : Calls Try.prog 14 #[.pointer (some ⟨c, 0, none⟩)] w fun e w' => e = .returned (.int .i64 t.epoch) ∧ w = w' := by
  obtain ⟨c2, _⟩ := ctc_2 h
  go_enter Try.func14, Try.ntmps14
  go_wp2_with fail
  go_ret
  exact ⟨rfl, rfl⟩
theorem Epoch_nil : Calls Try.prog 14 #[.pointer none] w fun e w' => e = .returned (.int .i64 0) ∧ w = w' := by
  go_enter Try.func14, Try.ntmps14
  go_wp2_with fail
  go_ret
  exact ⟨rfl, rfl⟩
theorem Under_any (h : CtB w c kb s g t vm vt vn vd) : Calls Try.prog 15 #[.pointer (some ⟨c, 0, none⟩)] w fun e w' => e = .returned (.int .i64 t.num) ∧ w = w' := by
  obtain ⟨c2, _⟩ := ctc_5 h
  go_enter Try.func15, Try.ntmps15
  go_wp2_with fail
  go_ret
  exact ⟨rfl, rfl⟩
theorem Under_nil : Calls Try.prog 15 #[.pointer none] w fun e w' => e = .returned (.int .i64 0) ∧ w = w' := by
  go_enter Try.func15, Try.ntmps15
  go_wp2_with fail
  go_ret
  exact ⟨rfl, rfl⟩
theorem Members_any {base : Nat} (h : CtB w c kb s g t vm vt vn vd) (hr : CtR w t vm vt vn vd base) (h0 : 0 < t.mem.length) :
    Calls Try.prog 21 #[.pointer (some ⟨c, 0, none⟩)] w fun e w' => ∃ v', e = .returned v' ∧ Own w' w.heap.size 3 v' (ints t.mem) ∧ Keep [] w w' := by
  obtain ⟨c2, _⟩ := ctc_4 h
  obtain ⟨a, cap, rfl⟩ := hr.mem.islice
  have hn := hr.memn
  go_enter Try.func21, Try.ntmps21
  go_wp2_with fail
  refine (CloneI_any _ t.mem hr.mem.irv (by omega) h0).mono ?_
  rintro e w1 ⟨v1, rfl, hO, k1⟩
  go_wp2_with fail
  go_ret
  exact ⟨_, rfl, hO, k1⟩
theorem Members_nil : Calls Try.prog 21 #[.pointer none] w fun e w' => e = .returned (.slice none 0 0) ∧ w = w' := by
  go_enter Try.func21, Try.ntmps21
  go_wp2_with fail
  go_ret
  exact ⟨rfl, rfl⟩
/-- Why no change may begin. -/
def mayErr (num : Int) (ok : Bool) : Int := if 0 < num then 6 else if ok = false then 1 else 0
theorem may_any (h : CtB w c kb s g t vm vt vn vd) (ok : Bool) (m : Int) (hm : m = mayErr t.num ok) :
    Calls Try.prog 29 #[.pointer (some ⟨c, 0, none⟩), .bool ok] w fun e w' => e = .returned (.int .i64 m) ∧ w = w' := by
  obtain ⟨c2, _⟩ := ctc_5 h
  have HM := Lib.hid hm
  clear hm
  by_cases g1 : 0 < t.num
  · have q1 : decide (0 < t.num) = true := decide_eq_true g1
    have HF : Hid (m = 6) := Lib.hid (by rw [HM.out]; unfold mayErr; rw [if_pos g1])
    go_enter Try.func29, Try.ntmps29
    go_wp2_with fail
    go_ret
    exact ⟨by rw [HF.out]; rfl, rfl⟩
  · have q1 : decide (0 < t.num) = false := decide_eq_false g1
    have HF : Hid (m = if ok = false then 1 else 0) := Lib.hid (by rw [HM.out]; unfold mayErr; rw [if_neg g1])
    clear g1
    cases ok with
    | true =>
      go_enter Try.func29, Try.ntmps29
      go_wp2_with fail
      go_ret
      exact ⟨by rw [HF.out]; rfl, rfl⟩
    | false =>
      go_enter Try.func29, Try.ntmps29
      go_wp2_with fail
      go_ret
      exact ⟨by rw [HF.out]; rfl, rfl⟩
end
end Go.Proofs.Ytcoaobdijlppgaa
