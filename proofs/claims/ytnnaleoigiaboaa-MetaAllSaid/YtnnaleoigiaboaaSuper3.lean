/- super.Open: its contract. -/
import Derived.Test.YtnnaleoigiaboaaSuper2
import Derived.Deep.RegionHeld3
namespace Go.Proofs.Ytnnaleoigiaboaa
open Go.ChangeShapes Go.WideShapes Go.ChangeAt Go.RowKit
set_option linter.unusedVariables false
set_option linter.unusedSimpArgs false

/-- What a sector says: turn, text; is it whole? -/
def supTurn (x : List Nat) : Nat := unbe ((x.drop 4).take 8)
def supText (x : List Nat) : List Nat := (x.drop 13).take (x.getD 12 0)
def supGood (turn : Nat) (x : List Nat) : Bool := crcSum (x.drop 4) == unbe (x.take 4) && (decide (supTurn x < 9223372036854775808) && (decide (turn < supTurn x) && decide (x.getD 12 0 ≤ 40)))
structure Sup3 where
  turn : Nat
  slot : Nat
  text : List Nat
def supStep (c : Sup3) (k : Nat) (x : List Nat) : Sup3 := if supGood c.turn x = true then ⟨supTurn x, k, supText x⟩ else c
def supTo (x0 x1 : List Nat) : Nat → Sup3
  | 0 => ⟨0, 0, []⟩
  | 1 => supStep ⟨0, 0, []⟩ 0 x0
  | _ => supStep (supStep ⟨0, 0, []⟩ 0 x0) 1 x1
theorem Buf.head {w : World} {base : Nat} {E : TypeId} {v : Value} {l : List Nat} (h : Buf w base E v l) (hp : 0 < l.length) :
    ∃ g cap spare, v = .slice (some ⟨g, 0, none⟩) l.length cap ∧ l.length ≤ cap ∧ base ≤ g ∧ Blk w g (bcs l ++ spare) E := by
  have h2 : Own w base E v (bcs l) := by unfold Own; rw [bcs_length]; exact h
  have := h2.blk (by rw [bcs_length]; exact hp)
  rw [bcs_length] at this
  exact this
theorem rd_part {w : World} {g : Nat} {E : TypeId} {l : List Nat} {spare : List Value} (h : Blk w g (bcs l ++ spare) E) (o n cap : Nat) (hn : o + n ≤ l.length) (hc : n ≤ cap) (m : List Nat) (hm : m = (l.drop o).take n) :
    Rd w (.slice (some ⟨g, o, none⟩) n cap) m := by
  subst hm
  have hl : ((l.drop o).take n).length = n := by simp; omega
  refine ⟨by simp, _, cap, by rw [hl], by rw [hl]; exact hc, fun _ => ⟨g, o, rfl, h.lt, fun i hi => ?_⟩⟩
  rw [bcs_length, hl] at hi
  rw [h.cell, List.getElem?_append_left (by simp; omega)]
  unfold bcs
  simp [List.getElem?_take, hi]

set_option maxRecDepth 100000 in
set_option maxHeartbeats 8000000 in
theorem Open_any {w : World} {d sb : Nat} {L : List Sec} {c : Nat} (hd : IsDev w d sb L c) (at_ : Nat) (s0 s1 : Sec) (hs0 : L[at_]? = some s0) (hs1 : L[at_ + 1]? = some s1) :
    Calls Try.prog 20 #[.pointer (some ⟨d, 0, none⟩), .int .i64 at_] w fun e w' => Keep [] w w' ∧
      (((supTo s0.now s1.now 2).turn = 0 ∧ e = .returned (.tuple #[.pointer none, .int .i64 3])) ∨
       ((supTo s0.now s1.now 2).turn ≠ 0 ∧ ∃ s, e = .returned (.tuple #[.pointer (some ⟨s, 0, none⟩), .int .i64 0]) ∧ w.heap.size ≤ s ∧
          IsSup w' s d at_ (supTo s0.now s1.now 2).turn (supTo s0.now s1.now 2).text (supTo s0.now s1.now 2).slot)) := by
  have hat : at_ + 1 < L.length := (List.getElem?_eq_some_iff.1 hs1).1
  have hm0 := List.mem_of_getElem? hs0
  have hm1 := List.mem_of_getElem? hs1
  have hmx := hd.max
  have hdl := hd.dev.lt
  have hsl := hd.secs.lt
  go_enter Try.func20, Try.ntmps20
  go_wp2_with fail
  refine (there_in hd at_ hat).mono ?_
  rintro e w1 ⟨rfl, rfl⟩
  go_wp2_with fail
  have hB0 : Blk (w.alloc (.cells #[.pointer (some ⟨d, 0, none⟩), .int .i64 at_, .int .i64 0, .slice none 0 0, .int .i64 0] 65)) w.heap.size [.pointer (some ⟨d, 0, none⟩), .int .i64 at_, .int .i64 0, .slice none 0 0, .int .i64 0] 65 := Blk.new _ _ _
  go_loopw [23] (fun i wr => ∃ k : Nat, k ≤ 2 ∧ i = .int .i64 k ∧ ∃ tv, Blk wr w.heap.size [.pointer (some ⟨d, 0, none⟩), .int .i64 at_, .int .i64 (supTo s0.now s1.now k).turn, tv, .int .i64 (supTo s0.now s1.now k).slot] 65 ∧ Buf wr w.heap.size 5 tv (supTo s0.now s1.now k).text ∧ Keep [] w wr) (fun i _ => 2 - (intOf i).toNat)
  case atStart => exact ⟨0, by omega, rfl, _, hB0, Buf.nil _ _ _, (Keep.refl _ _).alloc _⟩
  case round =>
    obtain ⟨k, hk, rfl, tv, hB, hbuf, hK⟩ := hrel
    clear hB0
    by_cases hlt : k < 2
    · have q0 : (k : Int) < 2 := by omega
      obtain ⟨sk, hsk, hmk, hst⟩ : ∃ sk, L[at_ + k]? = some sk ∧ sk ∈ L ∧ supTo s0.now s1.now (k + 1) = supStep (supTo s0.now s1.now k) k sk.now := by
        have : k = 0 ∨ k = 1 := by omega
        rcases this with rfl | rfl
        · exact ⟨s0, hs0, hm0, rfl⟩
        · exact ⟨s1, hs1, hm1, rfl⟩
      have hx64 := (hd.ok sk hmk).1
      have hxb := (hd.ok sk hmk).2.2.1
      have HST := Lib.hid hst
      clear hst
      generalize hcu : supTo s0.now s1.now k = cu at *
      have q1 : ((at_ + k : Nat) : Int) = (at_ : Int) + (k : Int) := by omega
      go_wp2_with fail
      rw [← q1]
      refine (Read_in (hd.keep hK (by simp) (by simp)) (at_ + k) sk hsk).mono ?_
      rintro e w2 ⟨xv, rfl, hx, k2⟩
      obtain ⟨g, xcap, spare, rfl, hxc, hbg, hX⟩ := hx.head (by omega)
      rw [hx64] at hxc ⊢
      go_wp2_with fail
      have hN8 : unbe ((sk.now.drop 4).take 8) < 18446744073709551616 := by
        have := unbe_lt ((sk.now.drop 4).take 8) (fun c hc => hxb c (List.mem_of_mem_drop (List.mem_of_mem_take hc)))
        rw [show ((sk.now.drop 4).take 8).length = 8 by simp; omega] at this
        simpa using this
      have hrd8 : Rd w2 (.slice (some ⟨g, 4, none⟩) 8 (xcap - 4)) ((sk.now.drop 4).take 8) := rd_part hX 4 8 _ (by omega) (by omega) _ rfl
      have hc8 : Calls Try.prog 38 #[.slice (some ⟨g, 4, none⟩) 8 (xcap - 4)] w2 fun e w' => e = .returned (.int .u64 (supTurn sk.now)) ∧ w2 = w' := get_any _ _ hrd8 (fun c hc => hxb c (List.mem_of_mem_drop (List.mem_of_mem_take hc))) (by simp; omega) _ rfl
      refine hc8.mono ?_
      rintro e w3 ⟨rfl, rfl⟩
      clear hc8 hrd8
      have hSlt : crcSum (sk.now.drop 4) < 4294967296 := crcSum_lt _ (fun c hc => hxb c (List.mem_of_mem_drop hc))
      have hp : Rv (w2.alloc (.cells #[.slice (some ⟨g, 4, none⟩) 60 (xcap - 4)] 22)).drew 1 (.slice (some ⟨w2.heap.size, 0, none⟩) 1 1) 1 [.slice (some ⟨g, 4, none⟩) 60 (xcap - 4)] := (Rv.new w2 [.slice (some ⟨g, 4, none⟩) 60 (xcap - 4)] 22 1 1 1 rfl (by omega) _ rfl).keep (Keep.refl [] _).drew (by simp)
      have hX3 : Blk (w2.alloc (.cells #[.slice (some ⟨g, 4, none⟩) 60 (xcap - 4)] 22)).drew g (bcs sk.now ++ spare) 5 := (hX.alloc _).drew
      have hq : Rd (w2.alloc (.cells #[.slice (some ⟨g, 4, none⟩) 60 (xcap - 4)] 22)).drew (.slice (some ⟨g, 4, none⟩) 60 (xcap - 4)) (sk.now.drop 4) := rd_part hX3 4 60 _ (by omega) (by omega) _ (by rw [List.take_of_length_le (by simp; omega)])
      have hSum := Sum_one _ _ _ (sk.now.drop 4) hp hq (fun c hc => hxb c (List.mem_of_mem_drop hc)) (by simp; omega) _ rfl
      have hGet : Calls Try.prog 38 #[.slice (some ⟨g, 0, none⟩) 4 xcap] (w2.alloc (.cells #[.slice (some ⟨g, 4, none⟩) 60 (xcap - 4)] 22)).drew fun e w' => e = .returned (.int .u64 (unbe (sk.now.take 4) : Nat)) ∧ (w2.alloc (.cells #[.slice (some ⟨g, 4, none⟩) 60 (xcap - 4)] 22)).drew = w' := get_any _ _ (rd_part hX3 0 4 _ (by omega) (by omega) _ (by simp)) (fun c hc => hxb c (List.mem_of_mem_take hc)) (by simp; omega) _ rfl
      have hK2 := hK.trans k2
      have hB2 := hB.keep k2 (by simp)
      have hbuf2 := hbuf.keep k2 (by simp)
      have hg0 := supGood
      obtain ⟨SI, hSI⟩ : ∃ z : Int, z = (crcSum (sk.now.drop 4) : Int) := ⟨_, rfl⟩
      obtain ⟨GI, hGI⟩ : ∃ z : Int, z = (unbe (sk.now.take 4) : Int) := ⟨_, rfl⟩
      have hSI0 : 0 ≤ SI := by omega
      have hSI1 : SI < 4294967296 := by omega
      have hwr : IntKind.u64.wrap SI = SI := by
        simp [IntKind.wrap, IntKind.bits, IntKind.signed]
        omega
      obtain ⟨UI, hUI⟩ : ∃ z : Int, z = (supTurn sk.now : Int) := ⟨_, rfl⟩
      have hU0 : 0 ≤ UI := by omega
      have hU1 : UI < 18446744073709551616 := by unfold supTurn at hUI; omega
      rw [← hUI]
      obtain ⟨NI, hNI⟩ : ∃ z : Int, z = IntKind.i64.wrap UI := ⟨_, rfl⟩
      have hNW : IntKind.i64.wrap UI = NI := hNI.symm
      have hNc : (supTurn sk.now < 9223372036854775808 ∧ NI = supTurn sk.now) ∨ (¬ supTurn sk.now < 9223372036854775808 ∧ NI < 0) := by
        rw [hNI, hUI]
        unfold supTurn at *
        simp [IntKind.wrap, IntKind.bits, IntKind.signed]
        omega
      obtain ⟨m, hm⟩ : ∃ z : Nat, z = sk.now.getD 12 0 := ⟨_, rfl⟩
      have HM := Lib.hid hm
      have hx12 : w2.cell? ⟨g, 12, none⟩ = some (.int .u8 m) := by
        rw [hX.cell, List.getElem?_append_left (by simp; omega), bcs_at _ _ (by omega), hm]; rfl
      have g2 := hB2.cell 2
      simp only [List.getElem?_cons_succ, List.getElem?_cons_zero] at g2
      have hgood : supGood cu.turn sk.now = (SI == GI && (decide ((cu.turn : Int) < NI) && decide (m ≤ 40))) := by
        unfold supGood
        rw [Bool.eq_iff_iff]
        simp only [Bool.and_eq_true, beq_iff_eq, decide_eq_true_eq]
        omega
      rw [← hSI] at hSum
      rw [← hGI] at hGet
      clear hNI hU0 hU1 hUI
      have pS : (w2.alloc (.cells #[.slice (some ⟨g, 4, none⟩) 60 (xcap - 4)] 22)).drew.cell? ⟨w.heap.size, 2, none⟩ = some (.int .i64 cu.turn) := by
        have := ((hB2.alloc (.cells #[.slice (some ⟨g, 4, none⟩) 60 (xcap - 4)] 22)).drew).cell 2
        simpa only [List.getElem?_cons_succ, List.getElem?_cons_zero] using this
      have pX : (w2.alloc (.cells #[.slice (some ⟨g, 4, none⟩) 60 (xcap - 4)] 22)).drew.cell? ⟨g, 12, none⟩ = some (.int .u8 m) := by
        rw [← hx12, hX3.cell, hX.cell]
      have PS := Lib.hid pS
      have PX := Lib.hid pX
      clear pS pX
      have HNC := Lib.hid hNc
      have HSum := Lib.hid hSum
      have HGet := Lib.hid hGet
      have HGood := Lib.hid hgood
      have HX := Lib.hid hX
      clear hSum hGet hgood hp hq hX3 hX hg0 hSlt hN8 hx hB hbuf hK k2 hcu hSI hGI hm hNc
      have y1 : ¬ xcap = 4 := by omega
      have y2 : (4 : Int) ≤ (xcap : Int) := by omega
      have y3 : (64 : Int) ≤ (xcap : Int) := by omega
      by_cases hgo : supGood cu.turn sk.now = true
      · have hall := hgo
        rw [HGood.out] at hall
        simp only [Bool.and_eq_true, beq_iff_eq, decide_eq_true_eq] at hall
        obtain ⟨hA, hB_, hC⟩ := hall
        have hst2 : supStep cu k sk.now = ⟨supTurn sk.now, k, supText sk.now⟩ := by unfold supStep; rw [if_pos hgo]
        have HST2 := Lib.hid hst2
        clear hst2 hgo
        have hA2 : (SI == GI) = true := by simpa using hA
        have z1 : decide ((cu.turn : Int) < NI) = true := decide_eq_true hB_
        have z2 : decide ((m : Int) ≤ (40 : Int)) = true := decide_eq_true (by omega)
        have z3 : decide (m ≤ 40) = true := decide_eq_true hC
        have hm40 : m ≤ 40 := hC
        have hNT : NI = (supTurn sk.now : Int) := by have := HNC.out; omega
        have HNT := Lib.hid hNT
        clear hNT
        clear hA hB_ hC
        go_wp2_with fail
        first
          | (go_region_with
              (first
                | (go_at_call 39; refine HSum.out.mono ?_; rintro e ws ⟨rfl, hws⟩; have gs2 := PS.out; have gs12 := PX.out; rw [hws] at gs2 gs12)
                | (go_at_call 38; (try rw [← hws]); refine HGet.out.mono ?_; rintro e wg ⟨rfl, hwg⟩; have gg2 := PS.out; have gg12 := PX.out; rw [hwg] at gg2 gg12)
                | fail))
          | fail
        have hB3 : Blk wg w.heap.size [.pointer (some ⟨d, 0, none⟩), .int .i64 at_, .int .i64 cu.turn, tv, .int .i64 cu.slot] 65 := by rw [← hwg]; exact (hB2.alloc _).drew
        have hK3 : Keep [] w wg := by rw [← hwg]; exact (hK2.alloc _).drew
        have hX3 : Blk wg g (bcs sk.now ++ spare) 5 := by rw [← hwg]; exact (HX.out.alloc _).drew
        have v1 : IntKind.i64.wrap (m : Int) = (m : Int) := by simp [IntKind.wrap, IntKind.bits, IntKind.signed]; omega
        have v2 : IntKind.i64.wrap (13 + (m : Int)) = 13 + (m : Int) := by simp [IntKind.wrap, IntKind.bits, IntKind.signed]; omega
        have v3 : (13 : Int) + (m : Int) ≤ (xcap : Int) := by omega
        have v4 : ¬ xcap = 13 := by omega
        clear gg2 gg12 gs2 gs12
        have gg12 := hX3.cell 12
        rw [List.getElem?_append_left (by simp; omega), bcs_at _ _ (by omega), ← HM.out] at gg12
        unfold bc at gg12
        go_wp2_with fail
        have hcl := Clone_any (w := wg) (.slice (some ⟨g, 13, none⟩) m (xcap - 13)) (supText sk.now) (rd_part hX3 13 m _ (by omega) (by omega) _ (by unfold supText; rw [HM.out])) (by unfold supText; simp; omega)
        refine hcl.mono ?_
        rintro e w5 ⟨nv, rfl, hnb, k5⟩
        clear hcl
        have hB5 := hB3.keep k5 (by simp)
        have hK5 := hK3.trans k5
        obtain ⟨na, ncap, rfl⟩ := hnb.slice
        have s2 := hB5.cell 2
        have s3 := hB5.cell 3
        have s4 := hB5.cell 4
        have f2 := hB5.free 2
        have f3 := hB5.free 3
        have f4 := hB5.free 4
        simp only [List.getElem?_cons_succ, List.getElem?_cons_zero] at s2 s3 s4
        clear gg12 g2 hx12
        go_wp2_with fail
        have hB6 := ((hB5.set 2 (.int .i64 NI)).set 4 (.int .i64 k)).set 3 (.slice na (supText sk.now).length ncap)
        have hk6 : Keep [w.heap.size] w5 (((w5.setCell ⟨w.heap.size, 2, none⟩ (.int .i64 NI)).setCell ⟨w.heap.size, 4, none⟩ (.int .i64 k)).setCell ⟨w.heap.size, 3, none⟩ (.slice na (supText sk.now).length ncap)) := Keep.setCell (Keep.setCell (Keep.setCell (Keep.refl _ _) (.inl (by simp)) _) (.inl (by simp)) _) (.inl (by simp)) _
        have hsz5 := hK3.size
        go_roundw
        case rel =>
          refine ⟨k + 1, by omega, by go_num, ?_⟩
          rw [HST.out, HST2.out]
          refine ⟨.slice na (supText sk.now).length ncap, ?_, (hnb.mono hsz5).keep hk6 ?_, hK5.then hk6 (by simp)⟩
          · show Blk _ _ [_, _, .int .i64 (supTurn sk.now : Int), _, _] _
            rw [← HNT.out]
            exact hB6
          · intro b hb hm'
            simp at hm'
            subst hm'
            have := (hnb.lt _ hb).1
            have := hB3.lt
            omega
        case measure => simp [intOf]; omega
      · have hst2 : supStep cu k sk.now = cu := by unfold supStep; rw [if_neg hgo]
        have hno : ¬ SI = GI ∨ (SI = GI ∧ ¬ (cu.turn : Int) < NI) ∨ (SI = GI ∧ (cu.turn : Int) < NI ∧ ¬ m ≤ 40) := by
          rw [HGood.out] at hgo
          simp only [Bool.and_eq_true, beq_iff_eq, decide_eq_true_eq] at hgo
          by_cases h1 : SI = GI
          · by_cases h2 : (cu.turn : Int) < NI
            · by_cases h3 : m ≤ 40
              · exact absurd ⟨h1, h2, h3⟩ hgo
              · exact .inr (.inr ⟨h1, h2, h3⟩)
            · exact .inr (.inl ⟨h1, h2⟩)
          · exact .inl h1
        rw [← HST.out] at hst2
        have HST := Lib.hid hst2
        clear hst2 hgo
        rcases hno with hA | ⟨hA, hB_⟩ | ⟨hA, hB_, hC⟩
        · have hA2 : (SI == GI) = false := by simpa using hA
          clear hA
          go_wp2_with fail
          first
            | (go_region_with
                (first
                  | (go_at_call 39; refine HSum.out.mono ?_; rintro e ws ⟨rfl, hws⟩; have gs2 := PS.out; have gs12 := PX.out; rw [hws] at gs2 gs12)
                  | (go_at_call 38; (try rw [← hws]); refine HGet.out.mono ?_; rintro e wg ⟨rfl, hwg⟩; have gg2 := PS.out; have gg12 := PX.out; rw [hwg] at gg2 gg12)
                  | fail))
            | fail
          all_goals
            have hB3 : Blk wg w.heap.size [.pointer (some ⟨d, 0, none⟩), .int .i64 at_, .int .i64 cu.turn, tv, .int .i64 cu.slot] 65 := by rw [← hwg]; exact (hB2.alloc _).drew
            have hbuf3 : Buf wg w.heap.size 5 tv cu.text := by rw [← hwg]; exact hbuf2.alloc _
            have hK3 : Keep [] w wg := by rw [← hwg]; exact (hK2.alloc _).drew
            clear gg2 gg12
            go_wp2_with fail
            go_roundw
            case rel => exact ⟨k + 1, by omega, by go_num, by rw [HST.out]; exact ⟨tv, hB3, hbuf3, hK3⟩⟩
            case measure => simp [intOf]; omega
        · have hA2 : (SI == GI) = true := by simpa using hA
          have z1 : decide ((cu.turn : Int) < NI) = false := decide_eq_false hB_
          clear hA hB_
          go_wp2_with fail
          first
            | (go_region_with
                (first
                  | (go_at_call 39; refine HSum.out.mono ?_; rintro e ws ⟨rfl, hws⟩; have gs2 := PS.out; have gs12 := PX.out; rw [hws] at gs2 gs12)
                  | (go_at_call 38; (try rw [← hws]); refine HGet.out.mono ?_; rintro e wg ⟨rfl, hwg⟩; have gg2 := PS.out; have gg12 := PX.out; rw [hwg] at gg2 gg12)
                  | fail))
            | fail
          all_goals
            have hB3 : Blk wg w.heap.size [.pointer (some ⟨d, 0, none⟩), .int .i64 at_, .int .i64 cu.turn, tv, .int .i64 cu.slot] 65 := by rw [← hwg]; exact (hB2.alloc _).drew
            have hbuf3 : Buf wg w.heap.size 5 tv cu.text := by rw [← hwg]; exact hbuf2.alloc _
            have hK3 : Keep [] w wg := by rw [← hwg]; exact (hK2.alloc _).drew
            clear gg2 gg12
            go_wp2_with fail
            go_roundw
            case rel => exact ⟨k + 1, by omega, by go_num, by rw [HST.out]; exact ⟨tv, hB3, hbuf3, hK3⟩⟩
            case measure => simp [intOf]; omega
        · have hA2 : (SI == GI) = true := by simpa using hA
          have z1 : decide ((cu.turn : Int) < NI) = true := decide_eq_true hB_
          have z2 : decide ((m : Int) ≤ (40 : Int)) = false := decide_eq_false (by omega)
          have z3 : decide (m ≤ 40) = false := decide_eq_false hC
          clear hA hB_ hC
          go_wp2_with fail
          first
            | (go_region_with
                (first
                  | (go_at_call 39; refine HSum.out.mono ?_; rintro e ws ⟨rfl, hws⟩; have gs2 := PS.out; have gs12 := PX.out; rw [hws] at gs2 gs12)
                  | (go_at_call 38; (try rw [← hws]); refine HGet.out.mono ?_; rintro e wg ⟨rfl, hwg⟩; have gg2 := PS.out; have gg12 := PX.out; rw [hwg] at gg2 gg12)
                  | fail))
            | fail
          all_goals
            have hB3 : Blk wg w.heap.size [.pointer (some ⟨d, 0, none⟩), .int .i64 at_, .int .i64 cu.turn, tv, .int .i64 cu.slot] 65 := by rw [← hwg]; exact (hB2.alloc _).drew
            have hbuf3 : Buf wg w.heap.size 5 tv cu.text := by rw [← hwg]; exact hbuf2.alloc _
            have hK3 : Keep [] w wg := by rw [← hwg]; exact (hK2.alloc _).drew
            clear gg2 gg12
            go_wp2_with fail
            go_roundw
            case rel => exact ⟨k + 1, by omega, by go_num, by rw [HST.out]; exact ⟨tv, hB3, hbuf3, hK3⟩⟩
            case measure => simp [intOf]; omega
    · obtain rfl : k = 2 := by omega
      have g2 := hB.cell 2
      simp only [List.getElem?_cons_succ, List.getElem?_cons_zero] at g2
      generalize hcu : supTo s0.now s1.now 2 = cu at *
      have HCU := Lib.hid hcu
      clear hcu
      by_cases ht : cu.turn = 0
      · rw [ht] at g2
        go_wp2_with fail
        go_ret2
        exact ⟨hK, .inl ⟨by rw [HCU.out]; exact ht, rfl⟩⟩
      · have hti : ((cu.turn : Int) == 0) = false := by simpa using ht
        have hti2 : ¬ (cu.turn : Int) = 0 := by omega
        have HT := Lib.hid ht
        clear ht
        go_wp2_with fail
        go_ret2
        rw [HCU.out]
        exact ⟨hK, .inr ⟨HT.out, w.heap.size, rfl, Nat.le_refl _, tv, hB, hbuf.mono (Nat.zero_le _)⟩⟩
end Go.Proofs.Ytnnaleoigiaboaa
