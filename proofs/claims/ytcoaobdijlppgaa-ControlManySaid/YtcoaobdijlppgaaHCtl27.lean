/- ControlMany: goes, and what a change comes to. -/
import Derived.Test.YtcoaobdijlppgaaHCtl23
namespace Go.Proofs.Ytcoaobdijlppgaa
open Go.ChangeShapes Go.WideShapes Go.ChangeAt Go.RowKit
set_option linter.unusedVariables false
set_option linter.unusedSimpArgs false
set_option maxRecDepth 100000

structure Ws where
  phase : Int
  done : List Int
  over : Bool
def Ws.note (N : List Int) (s : Ws) (k : Int) : List Int := if k ∈ s.done then s.done else s.done ++ [k]
def Ws.step (N : List Int) (s : Ws) (ph k : Int) : Ws :=
  if s.over = true then s else if s.phase = ph ∧ k ∈ N then (if N.length ≤ (s.note N k).length then (if ph = 1 then ⟨s.phase + 1, [], false⟩ else ⟨s.phase, s.done, true⟩) else ⟨s.phase, s.note N k, false⟩) else s
def Ws.ct (t : Ct) (s : Ws) : Ct := if s.over = true then t.committed else { t with phase := s.phase, done := s.done }
def sA (N : List Int) : Nat → Ws
  | 0 => ⟨1, [], false⟩
  | j + 1 => (sA N j).step N 1 (j + 1)
def sB (N : List Int) : Nat → Ws
  | 0 => sA N 5
  | j + 1 => (sB N j).step N 2 (j + 1)
theorem ws_end : ∀ N ∈ allNodes, (sB N 5).over = true := by decide
theorem ws_ok : ∀ N ∈ allNodes, ∀ j ∈ [0, 1, 2, 3, 4, 5], ((sA N j).done.length ≤ 4 ∧ 0 ≤ (sA N j).phase ∧ (sA N j).phase ≤ 10) ∧ ((sB N j).done.length ≤ 4 ∧ 0 ≤ (sB N j).phase ∧ (sB N j).phase ≤ 10) := by decide
theorem Ws.word (t : Ct) (s : Ws) (h0 : t.num ≠ 0) (ph kind k : Int) (last : Bool) (hk : (kind = 4 ∧ ph = 1 ∧ last = true) ∨ (kind = 10 ∧ ph = 2)) : (s.ct t).word kind k t.num last true = (s.step t.nodes ph k).ct t := by
  cases ho : s.over with
  | true =>
    have e1 : s.ct t = t.committed := by unfold Ws.ct; rw [if_pos ho]
    have e2 : s.step t.nodes ph k = s := by unfold Ws.step; rw [if_pos ho]
    rw [e2, e1]
    have hn : ∀ ph, ¬ t.committed.hears t.num k ph := fun ph h => h.1 rfl
    unfold Ct.word
    by_cases h4 : kind = 4
    · rw [if_pos h4, if_neg (fun h => hn 1 h.2)]
    · rw [if_neg h4, if_neg (hn 2)]
  | false =>
    have e1 : s.ct t = { t with phase := s.phase, done := s.done } := by unfold Ws.ct; rw [if_neg (by rw [ho]; simp)]
    rw [e1]
    have hh : ∀ ph, (({ t with phase := s.phase, done := s.done } : Ct).hears t.num k ph ↔ (s.phase = ph ∧ k ∈ t.nodes)) := fun ph => by
      unfold Ct.hears
      exact ⟨fun h => h.2.2, fun h => ⟨h0, rfl, h⟩⟩
    have hd2 : ({ t with phase := s.phase, done := s.done } : Ct).done2 k = s.note t.nodes k := rfl
    have hfl : ({ t with phase := s.phase, done := s.done } : Ct).full k = decide (t.nodes.length ≤ (s.note t.nodes k).length) := rfl
    by_cases hy : s.phase = ph ∧ k ∈ t.nodes
    · by_cases hf : t.nodes.length ≤ (s.note t.nodes k).length
      · rcases hk with ⟨rfl, rfl, rfl⟩ | ⟨rfl, rfl⟩
        · unfold Ct.word Ws.step
          rw [if_pos rfl, if_pos ⟨rfl, (hh 1).2 hy⟩, if_neg (by rw [ho]; simp), if_pos hy, if_pos hf, if_pos rfl]
          unfold Ct.noted
          rw [hfl, decide_eq_true hf]
          rfl
        · unfold Ct.word Ws.step
          rw [if_neg (by decide), if_pos ((hh 2).2 hy), if_pos ⟨by rw [hfl]; exact decide_eq_true hf, rfl⟩, if_neg (by rw [ho]; simp), if_pos hy, if_pos hf, if_neg (by decide)]
          rfl
      · have hnf : ¬ (({ t with phase := s.phase, done := s.done } : Ct).full k = true) := by rw [hfl, decide_eq_false hf]; simp
        have hnt : ({ t with phase := s.phase, done := s.done } : Ct).noted k = { t with phase := s.phase, done := s.note t.nodes k } := by
          unfold Ct.noted
          rw [if_neg hnf]
          rfl
        have hst : s.step t.nodes ph k = ⟨s.phase, s.note t.nodes k, false⟩ := by
          unfold Ws.step
          rw [if_neg (by rw [ho]; simp), if_pos hy, if_neg hf]
        rw [hst]
        rcases hk with ⟨rfl, rfl, rfl⟩ | ⟨rfl, rfl⟩
        · unfold Ct.word
          rw [if_pos rfl, if_pos ⟨rfl, (hh 1).2 hy⟩, hnt]
          rfl
        · unfold Ct.word
          rw [if_neg (by decide), if_pos ((hh 2).2 hy), if_neg (fun h => hnf h.1), hnt]
          rfl
    · have hst : s.step t.nodes ph k = s := by
        unfold Ws.step
        rw [if_neg (by rw [ho]; simp), if_neg hy]
      rw [hst, e1]
      rcases hk with ⟨rfl, rfl, rfl⟩ | ⟨rfl, rfl⟩
      · unfold Ct.word
        rw [if_pos rfl, if_neg (fun h => hy ((hh 1).1 h.2))]
      · unfold Ct.word
        rw [if_neg (by decide), if_neg (fun h => hy ((hh 2).1 h))]
theorem Ws.good {t : Ct} {s : Ws} (hG : t.Good) (h0 : t.num ≠ 0) (hd : s.done.length ≤ 4) (hp : 0 ≤ s.phase ∧ s.phase ≤ 10) : (s.ct t).Good := by
  unfold Ws.ct
  obtain ⟨d1, d2⟩ := hG.dest h0
  have hn := hG.num
  split
  · exact ⟨d1, d2, ⟨by show (0 : Int) ≤ 0; decide, by show (0 : Int) ≤ _; decide⟩, hG.top, ⟨by show _ ≤ t.num; omega, by show t.num ≤ _; omega⟩, ⟨by show (0 : Int) ≤ 0; decide, by show (0 : Int) ≤ 10; decide⟩, fun h => absurd rfl h, by show ([] : List Int).length ≤ 4; decide, by show I64 0; exact ⟨by decide, by decide⟩⟩
  · exact ⟨hG.mem, hG.mem0, hG.num, hG.top, hG.ep, hp, fun _ => ⟨d1, d2⟩, hd, hG.lost⟩
theorem Ws.lost0 {t : Ct} (s : Ws) (h : t.lost = 0) : (s.ct t).lost ≤ 0 := by
  unfold Ws.ct
  split
  · show (0 : Int) ≤ 0; decide
  · show t.lost ≤ 0; omega
section
variable {lo : Nat} {w : World} {c d kb g B n : Nat} {t : Ct} {f : Int → Option Int} {now : Int}
set_option maxHeartbeats 8000000 in
theorem goes_any (h : Auth lo w c d kb g t B n f now) (hG : t.Good) (hph : t.phase = 1) (hdn : t.done = []) (hN : t.nodes ∈ allNodes) (h0 : t.num ≠ 0) (hl : t.lost = 0) (hB : B + 10 ≤ 100000) :
    Calls Try.prog 18 #[.pointer (some ⟨c, 0, none⟩)] w fun e w' => e = .returned (.tuple #[]) ∧ Auth lo w' c d kb g t.committed (B + 10) n f now ∧ Turn lo w w' := by
  have hU := h.under
  have hbp : ∀ (W : World) (k e : Int), (Instr.build 39 #[(0, .int .i64 4), (1, .int .i64 k), (3, .int .i64 e), (11, .bool true)]).run Try.prog W = .ok (msV (wordM 4 k e true) (.slice none 0 0) (.slice none 0 0) (.slice none 0 0) (.slice none 0 0)) W := fun W k e => run_prepared W k e true
  have hbf : ∀ (W : World) (k e : Int), (Instr.build 39 #[(0, .int .i64 10), (1, .int .i64 k), (3, .int .i64 e)]).run Try.prog W = .ok (msV (wordM 10 k e false) (.slice none 0 0) (.slice none 0 0) (.slice none 0 0) (.slice none 0 0)) W := fun W k e => run_frozen W k e
  have hst : (sA t.nodes 0).ct t = t := by
    show ({ t with phase := 1, done := [] } : Ct) = t
    rw [← hph, ← hdn]
  have hA0 : Auth lo w c d kb g ((sA t.nodes 0).ct t) (B + 0) n f now := by rw [hst]; exact h
  have HA0 := Lib.hid hA0
  have HG := Lib.hid hG
  have HN := Lib.hid hN
  have H0 := Lib.hid h0
  have HL := Lib.hid hl
  have HE := Lib.hid hG.num
  have HC : Hid ((sB t.nodes 5).ct t = t.committed) := Lib.hid (by unfold Ws.ct; rw [if_pos (ws_end _ hN)])
  clear hG hN h0 hl hst hA0 h hph hdn
  generalize hep : t.num = ep at *
  have HEP := Lib.hid hep
  clear hep
  go_enter Try.func18, Try.ntmps18
  go_wp2_with fail
  refine hU.mono ?_
  rintro e w1 ⟨rfl, rfl⟩
  clear hU
  go_wp2_with fail
  go_loopw [3] (fun x wr => ∃ j : Nat, j ≤ 5 ∧ x = .int .i64 ((j + 1 : Nat) : Int) ∧ Auth lo wr c d kb g ((sA t.nodes j).ct t) (B + j) n f now ∧ Turn lo w wr) (fun x _ => 6 - (intOf x).toNat)
  case atStart => exact ⟨0, by omega, rfl, HA0.out, Turn.still (Keep.refl _ _)⟩
  case round =>
    clear HA0
    obtain ⟨j, hj, rfl, hA, hT⟩ := hrel
    by_cases hlt : j < 5
    · have hn : 1 ≤ ((j + 1 : Nat) : Int) ∧ ((j + 1 : Nat) : Int) ≤ 5 := by omega
      have HNX := Lib.hid (show ((j + 1 : Nat) : Int) + 1 = ((j + 1 + 1 : Nat) : Int) by omega)
      have HMS := Lib.hid (show 6 - (((j + 1 : Nat) : Int) + 1).toNat < 6 - ((j + 1 : Nat) : Int).toNat by omega)
      have ok := (ws_ok _ HN.out j (by simp; omega)).1
      have hW := hA.word (Ws.good HG.out (by rw [HEP.out]; exact H0.out) ok.1 ok.2) (by omega) 4 ((j + 1 : Nat) : Int) t.num true true (.inl rfl) hn (by rw [HEP.out]; exact HE.out) (fun _ => .inr (.inl (Ws.lost0 _ HL.out))) (fun h => absurd h (by decide))
      rw [Ws.word t _ (by rw [HEP.out]; exact H0.out) 1 4 _ true (.inl ⟨rfl, rfl, rfl⟩)] at hW
      have hW2 : (sA t.nodes j).step t.nodes 1 ((j + 1 : Nat) : Int) = sA t.nodes (j + 1) := by show _ = (sA t.nodes j).step t.nodes 1 ((j : Int) + 1); rw [show ((j + 1 : Nat) : Int) = (j : Int) + 1 by omega]
      rw [hW2, HEP.out] at hW
      have HW := Lib.hid hW
      clear hW hW2 ok hA
      generalize hnn : ((j + 1 : Nat) : Int) = x at *
      clear hnn
      have q0 : decide (x ≤ 5) = true := decide_eq_true hn.2
      go_wp2_with fail
      refine HW.out.mono ?_
      rintro e w2 ⟨a, nn, cap, rfl, hA2, hT2⟩
      clear HW
      go_wp2_with fail
      go_roundw
      case rel => exact ⟨j + 1, by omega, congrArg (Value.int .i64) HNX.out, hA2, hT.trans hT2⟩
      case measure => simp only [intOf]; exact HMS.out
    · obtain rfl : j = 5 := by omega
      have HA := Lib.hid hA
      have HT := Lib.hid hT
      clear hA hT
      rw [show ((5 + 1 : Nat) : Int) = 6 by decide]
      go_wp2_with fail
      go_loopw [4] (fun x wr => ∃ j : Nat, j ≤ 5 ∧ x = .int .i64 ((j + 1 : Nat) : Int) ∧ Auth lo wr c d kb g ((sB t.nodes j).ct t) (B + 5 + j) n f now ∧ Turn lo w wr) (fun x _ => 6 - (intOf x).toNat)
      case atStart => exact ⟨0, by omega, rfl, HA.out, HT.out⟩
      case round =>
        clear HA HT
        obtain ⟨j, hj, rfl, hA, hT⟩ := hrel
        by_cases hlt : j < 5
        · have hn : 1 ≤ ((j + 1 : Nat) : Int) ∧ ((j + 1 : Nat) : Int) ≤ 5 := by omega
          have HNX := Lib.hid (show ((j + 1 : Nat) : Int) + 1 = ((j + 1 + 1 : Nat) : Int) by omega)
          have HMS := Lib.hid (show 6 - (((j + 1 : Nat) : Int) + 1).toNat < 6 - ((j + 1 : Nat) : Int).toNat by omega)
          have ok := (ws_ok _ HN.out j (by simp; omega)).2
          have hW := hA.word (Ws.good HG.out (by rw [HEP.out]; exact H0.out) ok.1 ok.2) (by omega) 10 ((j + 1 : Nat) : Int) t.num false true (.inr rfl) hn (by rw [HEP.out]; exact HE.out) (fun _ => .inr (.inl (Ws.lost0 _ HL.out))) (fun h => absurd h (by decide))
          rw [Ws.word t _ (by rw [HEP.out]; exact H0.out) 2 10 _ false (.inr ⟨rfl, rfl⟩)] at hW
          have hW2 : (sB t.nodes j).step t.nodes 2 ((j + 1 : Nat) : Int) = sB t.nodes (j + 1) := by show _ = (sB t.nodes j).step t.nodes 2 ((j : Int) + 1); rw [show ((j + 1 : Nat) : Int) = (j : Int) + 1 by omega]
          rw [hW2, HEP.out] at hW
          have HW := Lib.hid hW
          clear hW hW2 ok hA
          generalize hnn : ((j + 1 : Nat) : Int) = x at *
          clear hnn
          have q0 : decide (x ≤ 5) = true := decide_eq_true hn.2
          go_wp2_with fail
          refine HW.out.mono ?_
          rintro e w2 ⟨a, nn, cap, rfl, hA2, hT2⟩
          clear HW
          go_wp2_with fail
          go_roundw
          case rel => exact ⟨j + 1, by omega, congrArg (Value.int .i64) HNX.out, hA2, hT.trans hT2⟩
          case measure => simp only [intOf]; exact HMS.out
        · obtain rfl : j = 5 := by omega
          rw [show ((5 + 1 : Nat) : Int) = 6 by decide]
          rw [HC.out] at hA
          have HA := Lib.hid hA
          have HT := Lib.hid hT
          clear hA hT
          go_wp2_with fail
          go_end0
          exact ⟨rfl, HA.out, HT.out⟩
end
end Go.Proofs.Ytcoaobdijlppgaa
