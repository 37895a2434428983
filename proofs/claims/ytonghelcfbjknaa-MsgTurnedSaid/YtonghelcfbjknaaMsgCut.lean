/- The law's Cut of a message. -/
import Derived.Test.YtonghelcfbjknaaMsgDec2
import Derived.StillTailTactics
namespace Go.Proofs.Ytonghelcfbjknaa
open Go.ChangeShapes Go.WideShapes Go.ChangeAt Go.RowKit
set_option linter.unusedVariables false
set_option linter.unusedSimpArgs false

structure MsRaw (m : Ms) : Prop where
  key : m.key.size ≤ 9223372036854775807
  it : m.it.1.size ≤ 9223372036854775807 ∧ m.it.2.1.size ≤ 9223372036854775807
  its : ∀ y ∈ m.its, y.1.size ≤ 9223372036854775807 ∧ y.2.1.size ≤ 9223372036854775807
  mks : ∀ y ∈ m.mks, y.2.size ≤ 9223372036854775807
  itsn : m.its.length ≤ 9223372036854775807
  mksn : m.mks.length ≤ 9223372036854775807
  memn : m.mem.length ≤ 9223372036854775807
  oldn : m.old.length ≤ 9223372036854775807
def mkCut (x : Mk) : Mk := (x.1, cutStr x.2 50)
def msCut (m : Ms) : Ms := { m with key := cutStr m.key 50, it := itCut m.it, its := (m.its.take 6).map itCut, mks := (m.mks.take 6).map mkCut, mem := m.mem.take 7, old := m.old.take 7 }
theorem ints_take (l : List Int) (n : Nat) : ints (l.take n) = (ints l).take n := by simp [ints, List.map_take]
theorem cutStr_sz (s : ByteArray) (n : Nat) : (cutStr s n).size ≤ n ∨ (cutStr s n).size ≤ s.size := by
  unfold cutStr
  split
  · left; simp; omega
  · right; exact Nat.le_refl _
theorem msCut_sz (m : Ms) (h : MsRaw m) : MsSz (msCut m) := by
  have hc : ∀ (s : ByteArray) (n : Nat), n ≤ 1000 → s.size ≤ 9223372036854775807 → (cutStr s n).size ≤ 9223372036854775807 := fun s n hn hs => by
    rcases cutStr_sz s n with h | h <;> omega
  refine ⟨hc _ _ (by omega) h.key, ⟨hc _ _ (by omega) h.it.1, hc _ _ (by omega) h.it.2⟩, ?_, ?_, ?_, ?_, ?_, ?_⟩
  · intro y hy
    obtain ⟨z, hz, rfl⟩ := List.mem_map.1 hy
    have := h.its z (List.mem_of_mem_take hz)
    exact ⟨hc _ _ (by omega) this.1, hc _ _ (by omega) this.2⟩
  · intro y hy
    obtain ⟨z, hz, rfl⟩ := List.mem_map.1 hy
    exact hc _ _ (by omega) (h.mks z (List.mem_of_mem_take hz))
  · show ((m.its.take 6).map itCut).length ≤ _; simp; omega
  · show ((m.mks.take 6).map mkCut).length ≤ _; simp; omega
  · show (m.mem.take 7).length ≤ _; simp; omega
  · show (m.old.take 7).length ≤ _; simp; omega
/-- New rows of entries and marks; rows of nodes that lie where they lay. -/
def MsSep (n : Nat) (vi vk vm vo um uo : Value) : Prop := (∀ q, vi.ownBlock = some q → n ≤ q) ∧ (∀ q, vk.ownBlock = some q → n ≤ q) ∧ vm.ownBlock = um.ownBlock ∧ vo.ownBlock = uo.ownBlock
def mcutJ (w : World) (m m3 : Ms) (L : List It) (X : List Mk) (j sb so kcap jcap xcap mcap ocap : Nat) (ja xa ma oa : Option Addr) (xs : Int) (xk ck : ByteArray) (l : Nat → Bool) (x : Nat → Value) (w' : World) : Prop :=
  ∃ B15, (KRow w' (w.heap.size + 2) (if l 16 = true then x 16 else (Value.slice xa X.length xcap)) (if l 16 = true then X ++ [(xs, ck)] else X)) ∧
  (Blk w' w.heap.size (msC m3 (.slice ja L.length jcap) (.slice (some ⟨sb, so, none⟩) m.mks.length kcap) (.slice ma m.mem.length mcap) (.slice oa m.old.length ocap)) 29) ∧
  (Blk w' (w.heap.size + 1) (msC ms0 (.slice none 0 0) (.slice none 0 0) (.slice none 0 0) (.slice none 0 0)) 29) ∧
  (IRow w' (w.heap.size + 2) (.slice ja L.length jcap) L) ∧
  (Keep [] w w') ∧
  (l 16 = true → l 0 = true ∧ l 15 = true) ∧
  (l 17 = false → x 17 = (Value.slice xa X.length xcap)) ∧
  (l 0 = true → x 0 = (Value.slice xa X.length xcap)) ∧
  (l 1 = true → x 1 = .pointer (some ⟨w.heap.size, 17, none⟩)) ∧
  (l 2 = true → x 2 = .slice (some ⟨sb, so, none⟩) m.mks.length kcap) ∧
  (l 3 = true → x 3 = .int .i64 (j : Int)) ∧
  (l 4 = true → x 4 = .pointer (some ⟨sb, so + j * 2, none⟩)) ∧
  (l 5 = true → x 5 = .pointer (some ⟨sb, so + j * 2, none⟩)) ∧
  (l 6 = true → x 6 = .int .i64 xs) ∧
  (l 7 = true → x 7 = .pointer (some ⟨w.heap.size, 17, none⟩)) ∧
  (l 8 = true → x 8 = .slice (some ⟨sb, so, none⟩) m.mks.length kcap) ∧
  (l 9 = true → x 9 = .int .i64 (j : Int)) ∧
  (l 10 = true → x 10 = .pointer (some ⟨sb, so + j * 2, none⟩)) ∧
  (l 11 = true → x 11 = .pointer (some ⟨sb, so + j * 2 + 1, none⟩)) ∧
  (l 12 = true → x 12 = .string xk) ∧
  (l 13 = true → x 13 = .string ck) ∧
  (l 14 = true → x 14 = .agg #[.int .i64 xs, .string ck]) ∧
  (l 15 = true → l 16 = false → x 15 = .slice (some ⟨B15, 0, none⟩) 1 1 ∧ Blk w' B15 (mkc (xs, ck)) 42) ∧
  (l 16 = true → True) ∧
  (l 17 = true → x 17 = x 16 ∧ l 16 = true)
set_option maxRecDepth 100000 in
set_option maxHeartbeats 16000000 in
theorem msCut_any {w : World} (m : Ms) (vi vk vm vo : Value) (h : MsRd w m vi vk vm vo) (hz : MsRaw m) :
    Calls Try.prog 10 #[msV m vi vk vm vo] w fun e w' => ∃ vi' vk' vm' vo', e = .returned (msV (msCut m) vi' vk' vm' vo') ∧ MsRd w' (msCut m) vi' vk' vm' vo' ∧ MsSep w.heap.size vi' vk' vm' vo' vm vo ∧ Keep [] w w' := by
  obtain ⟨ik, hik, hzk0, hzk1, hzk2⟩ := info_parts Try.infoMark
  obtain ⟨ii, hii, hzi0, hzi1, hzi2⟩ := info_parts Try.infoI
  have hks := hz.key
  obtain ⟨hi1, hi2⟩ := hz.it
  have hn1 := hz.itsn
  have hn2 := hz.mksn
  have hn3 := hz.memn
  have hn4 := hz.oldn
  obtain ⟨_, ka, kcap, rfl, _, _⟩ := id h.mks
  obtain ⟨_, ia, icap, rfl, _, _⟩ := id h.its
  obtain ⟨_, ma, mcap, rfl, _, _⟩ := id h.mem
  obtain ⟨_, oa, ocap, rfl, _, _⟩ := id h.old
  go_enter Try.func10, Try.ntmps10
  go_upto_region 1 with fail
  obtain ⟨cs0, hcs0⟩ : ∃ cs, cs = msC m (.slice ia m.its.length icap) (.slice ka m.mks.length kcap) (.slice ma m.mem.length mcap) (.slice oa m.old.length ocap) := ⟨_, rfl⟩
  change Code.wp _ _ _ _ ((w.alloc (.cells (msC m (.slice ia m.its.length icap) (.slice ka m.mks.length kcap) (.slice ma m.mem.length mcap) (.slice oa m.old.length ocap)).toArray 29)).alloc (.cells (msC ms0 (.slice none 0 0) (.slice none 0 0) (.slice none 0 0) (.slice none 0 0)).toArray 29))
  rw [← hcs0]
  have hM : Blk ((w.alloc (.cells cs0.toArray 29)).alloc (.cells (msC ms0 (.slice none 0 0) (.slice none 0 0) (.slice none 0 0) (.slice none 0 0)).toArray 29)) w.heap.size cs0 29 := (Blk.new w cs0 29).alloc _
  have hR := Blk.new' (w.alloc (.cells cs0.toArray 29)) (msC ms0 (.slice none 0 0) (.slice none 0 0) (.slice none 0 0) (.slice none 0 0)) 29 (w.heap.size + 1) (by simp)
  have K0 := ((Keep.refl [] w).alloc (.cells cs0.toArray 29)).alloc (.cells (msC ms0 (.slice none 0 0) (.slice none 0 0) (.slice none 0 0) (.slice none 0 0)).toArray 29)
  generalize (w.alloc (.cells cs0.toArray 29)).alloc (.cells (msC ms0 (.slice none 0 0) (.slice none 0 0) (.slice none 0 0) (.slice none 0 0)).toArray 29) = w1 at *
  subst hcs0
  have hlt := hR.lt
  have HB : Hid (∀ w2 : World, Keep [] w1 w2 → w.heap.size + 2 ≤ w2.heap.size) := Lib.hid (fun w2 k => by have := k.size; omega)
  clear hlt
  have c9 := msc_9 hM
  have f9 := hM.free 9
  go_wp2_with fail
  refine (Cut_any m.key 50 hks (by omega)).mono ?_
  rintro e w5 ⟨rfl, rfl⟩
  go_upto_region 2 with fail
  obtain ⟨k1, hk1⟩ : ∃ k, k = cutStr m.key 50 := ⟨_, rfl⟩
  rw [← hk1]
  have HK1 := Lib.hid hk1
  clear hk1
  have hM2 : Blk (w1.setCell ⟨w.heap.size, 9, none⟩ (.string k1)) w.heap.size (msC { m with key := k1 } (.slice ia m.its.length icap) (.slice ka m.mks.length kcap) (.slice ma m.mem.length mcap) (.slice oa m.old.length ocap)) 29 := hM.set 9 _
  have hR2 : Blk (w1.setCell ⟨w.heap.size, 9, none⟩ (.string k1)) (w.heap.size + 1) (msC ms0 (.slice none 0 0) (.slice none 0 0) (.slice none 0 0) (.slice none 0 0)) 29 := hR.other (by show w.heap.size + 1 ≠ w.heap.size; omega) _
  have K2 : Keep [] w (w1.setCell ⟨w.heap.size, 9, none⟩ (.string k1)) := K0.setCell (.inr (Nat.le_refl _)) _
  clear hM hR K0 c9 f9
  generalize w1.setCell ⟨w.heap.size, 9, none⟩ (.string k1) = w2 at *
  have c12 := msc_12 hM2
  have c13 := msc_13 hM2
  have c14 := msc_14 hM2
  have c15 := msc_15 hM2
  simp only at c12 c13 c14 c15
  go_wp2_with fail
  refine (itCut_any m.it.1 m.it.2.1 m.it.2.2.1 m.it.2.2.2 hi1 hi2).mono ?_
  rintro e w3 ⟨rfl, k3⟩
  replace hM2 := hM2.keep k3 (by simp)
  replace hR2 := hR2.keep k3 (by simp)
  replace K2 := K2.trans k3
  clear c12 c13 c14 c15 k3
  have c12 := msc_12 hM2
  have c13 := msc_13 hM2
  have c14 := msc_14 hM2
  have c15 := msc_15 hM2
  simp only at c12 c13 c14 c15
  have f12 := hM2.free 12
  have f13 := hM2.free 13
  have f14 := hM2.free 14
  have f15 := hM2.free 15
  obtain ⟨k2, hk2⟩ : ∃ k, k = cutStr m.it.1 50 := ⟨_, rfl⟩
  obtain ⟨k3, hk3⟩ : ∃ k, k = cutStr m.it.2.1 210 := ⟨_, rfl⟩
  rw [← hk2, ← hk3]
  have HIT : Hid ((k2, k3, m.it.2.2.1, m.it.2.2.2) = itCut m.it) := Lib.hid (by rw [hk2, hk3]; rfl)
  clear hk2 hk3
  go_upto_region 3 with fail
  have hM4 : Blk ((((w3.setCell ⟨w.heap.size, 12, none⟩ (.string k2)).setCell ⟨w.heap.size, 13, none⟩ (.string k3)).setCell ⟨w.heap.size, 14, none⟩ (.int .i64 m.it.2.2.1)).setCell ⟨w.heap.size, 15, none⟩ (.bool m.it.2.2.2)) w.heap.size (msC { m with key := k1, it := (k2, k3, m.it.2.2.1, m.it.2.2.2) } (.slice ia m.its.length icap) (.slice ka m.mks.length kcap) (.slice ma m.mem.length mcap) (.slice oa m.old.length ocap)) 29 := (((hM2.set 12 _).set 13 _).set 14 _).set 15 _
  have hR4 : Blk ((((w3.setCell ⟨w.heap.size, 12, none⟩ (.string k2)).setCell ⟨w.heap.size, 13, none⟩ (.string k3)).setCell ⟨w.heap.size, 14, none⟩ (.int .i64 m.it.2.2.1)).setCell ⟨w.heap.size, 15, none⟩ (.bool m.it.2.2.2)) (w.heap.size + 1) (msC ms0 (.slice none 0 0) (.slice none 0 0) (.slice none 0 0) (.slice none 0 0)) 29 := (((hR2.other (by show w.heap.size + 1 ≠ w.heap.size; omega) _).other (by show w.heap.size + 1 ≠ w.heap.size; omega) _).other (by show w.heap.size + 1 ≠ w.heap.size; omega) _).other (by show w.heap.size + 1 ≠ w.heap.size; omega) _
  have K4 : Keep [] w ((((w3.setCell ⟨w.heap.size, 12, none⟩ (.string k2)).setCell ⟨w.heap.size, 13, none⟩ (.string k3)).setCell ⟨w.heap.size, 14, none⟩ (.int .i64 m.it.2.2.1)).setCell ⟨w.heap.size, 15, none⟩ (.bool m.it.2.2.2)) := (((K2.setCell (.inr (Nat.le_refl _)) _).setCell (.inr (Nat.le_refl _)) _).setCell (.inr (Nat.le_refl _)) _).setCell (.inr (Nat.le_refl _)) _
  clear hM2 hR2 K2 c12 c13 c14 c15 f12 f13 f14 f15
  generalize (((w3.setCell ⟨w.heap.size, 12, none⟩ (.string k2)).setCell ⟨w.heap.size, 13, none⟩ (.string k3)).setCell ⟨w.heap.size, 14, none⟩ (.int .i64 m.it.2.2.1)).setCell ⟨w.heap.size, 15, none⟩ (.bool m.it.2.2.2) = w4 at *
  have hi4 := h.its.keep K4 (by simp)
  have hlt4 := hR4.lt
  have c16 := msc_16 hM4
  have HS1 := Lib.hid hz.its
  go_wp2_with fail
  refine (Items_any _ m.its 6 hi4 hn1 (by omega) HS1.out).mono ?_
  rintro e w5 ⟨vi', rfl, hI, k5⟩
  replace hI := hI.mono (show w.heap.size + 2 ≤ _ by omega)
  replace hM4 := hM4.keep k5 (by simp)
  replace hR4 := hR4.keep k5 (by simp)
  replace K4 := K4.trans k5
  clear c16 k5 hi4 hlt4
  have c16 := msc_16 hM4
  have f16 := hM4.free 16
  obtain ⟨L, hL⟩ : ∃ L, L = (m.its.take 6).map itCut := ⟨_, rfl⟩
  rw [← hL] at hI
  have HL := Lib.hid hL
  clear hL
  obtain ⟨ja, jcap, rfl⟩ := hI.slice
  go_upto_region 6 with fail
  obtain ⟨m3, hm3⟩ : ∃ m3 : Ms, m3 = { m with key := k1, it := (k2, k3, m.it.2.2.1, m.it.2.2.2), its := L } := ⟨_, rfl⟩
  have hM6 : Blk (w5.setCell ⟨w.heap.size, 16, none⟩ (.slice ja L.length jcap)) w.heap.size (msC m3 (.slice ja L.length jcap) (.slice ka m.mks.length kcap) (.slice ma m.mem.length mcap) (.slice oa m.old.length ocap)) 29 := by rw [hm3]; exact hM4.set 16 _
  have hk6 : Keep [w.heap.size] w5 (w5.setCell ⟨w.heap.size, 16, none⟩ (.slice ja L.length jcap)) := (Keep.refl _ _).setCell (.inl (by simp)) _
  have hR6 := hR4.keep hk6 (by simp)
  have K6 : Keep [] w (w5.setCell ⟨w.heap.size, 16, none⟩ (.slice ja L.length jcap)) := K4.setCell (.inr (Nat.le_refl _)) _
  have hI6 := hI.keep hk6 (fun b hb hm => by have := (hI.lt b hb).1; simp at hm; omega)
  clear hM4 hR4 K4 hI c16 f16 hk6
  generalize w5.setCell ⟨w.heap.size, 16, none⟩ (.slice ja L.length jcap) = w6 at *
  go_loopw [3, 4] (fun out i wr => ∃ j : Nat, j ≤ m.mks.length ∧ j ≤ 6 ∧ i = .int .i64 j ∧ KRow wr (w.heap.size + 2) out ((m.mks.take j).map mkCut) ∧ Blk wr w.heap.size (msC m3 (.slice ja L.length jcap) (.slice ka m.mks.length kcap) (.slice ma m.mem.length mcap) (.slice oa m.old.length ocap)) 29 ∧ Blk wr (w.heap.size + 1) (msC ms0 (.slice none 0 0) (.slice none 0 0) (.slice none 0 0) (.slice none 0 0)) 29 ∧ IRow wr (w.heap.size + 2) (.slice ja L.length jcap) L ∧ Keep [] w wr) (fun _ i _ => m.mks.length - (intOf i).toNat)
  case atStart => exact ⟨0, by omega, by omega, rfl, KRow.nil _ _, hM6, hR6, hI6, K6⟩
  case round =>
    clear hM6 hR6 hI6 K6
    obtain ⟨j, hj, hj6, rfl, hO, hM, hR, hI, hK⟩ := hrel
    have HM3 := Lib.hid hm3
    clear hm3
    have c17 := msc_17 hM
    obtain ⟨bgo, hbg⟩ : ∃ b, b = decide (j < m.mks.length ∧ j < 6) := ⟨_, rfl⟩
    have HBG := Lib.hid hbg
    clear hbg
    go_upto_region 6 with fail
    go_cut [25] (fun s wc => s = .bool bgo ∧ wr = wc)
    case first =>
      by_cases g1 : j < m.mks.length
      · have q0 : decide ((j : Int) < m.mks.length) = true := decide_eq_true (by omega)
        have q2 : (j : Int) < m.mks.length := by omega
        by_cases g2 : j < 6
        · have q1 : decide ((j : Int) < 6) = true := decide_eq_true (by omega)
          have q3 : (j : Int) < 6 := by omega
          go_wp2_with fail
          go_meet
          exact ⟨by rw [HBG.out, decide_eq_true ⟨g1, g2⟩], rfl⟩
        · have q1 : decide ((j : Int) < 6) = false := decide_eq_false (by omega)
          go_wp2_with fail
          go_meet
          exact ⟨by rw [HBG.out, decide_eq_false (fun h => g2 h.2)], rfl⟩
      · have q0 : decide ((j : Int) < m.mks.length) = false := decide_eq_false (by omega)
        have q2 : ¬ (j : Int) < m.mks.length := by omega
        go_wp2_with fail
        go_meet
        exact ⟨by rw [HBG.out, decide_eq_false (fun h => g1 h.1)], rfl⟩
    case rest =>
    obtain ⟨rfl, rfl⟩ := hcut
    cases bgo with
    | true =>
      obtain ⟨hlt, hltn⟩ := of_decide_eq_true HBG.out.symm
      clear HBG
      have q2 : (j : Int) < m.mks.length := by omega
      obtain ⟨y, hy⟩ : ∃ y, m.mks[j]? = some y := ⟨_, List.getElem?_eq_getElem hlt⟩
      have hsy := hz.mks y (List.mem_of_getElem? hy)
      have htk : (m.mks.take (j + 1)).map mkCut = (m.mks.take j).map mkCut ++ [mkCut y] := by rw [List.take_add_one, hy]; simp
      have HTK := Lib.hid htk
      have hgd : m.mks.getD j mk0 = y := by rw [List.getD_eq_getElem?_getD, hy]; rfl
      clear htk hy
      have hOl : ((m.mks.take j).map mkCut).length ≤ 6 := by simp; omega
      generalize (m.mks.take j).map mkCut = X at *
      obtain ⟨xa, xcap, rfl⟩ := hO.slice
      go_upto_region 8 with fail
      obtain ⟨sb, so, c2, he, hat⟩ := mks_at h.mks (by omega)
      simp only [Value.slice.injEq] at he
      obtain ⟨rfl, _, rfl⟩ := he
      obtain ⟨e0, e1⟩ := hat j hlt
      rw [hgd] at e0 e1
      obtain ⟨hsl, _⟩ : sb < w.heap.size ∧ True := ⟨by
        obtain ⟨_, a, cap, he, _, hh⟩ := h.mks
        obtain ⟨sb', so', ha, hs, _⟩ := hh (by rw [kc_len]; omega)
        rw [ha] at he
        simp only [Value.slice.injEq, Option.some.injEq, Addr.mk.injEq] at he
        obtain ⟨⟨rfl, _, _⟩, _, _⟩ := he
        exact hs, trivial⟩
      clear hat hgd c17
      obtain ⟨xs, xk⟩ := y
      simp only at e0 e1 hsy
      obtain ⟨ck, hck⟩ : ∃ k, k = cutStr xk 50 := ⟨_, rfl⟩
      have HCK := Lib.hid hck
      clear hck
      have HTK2 : Hid ((m.mks.take (j + 1)).map mkCut = X ++ [(xs, ck)]) := Lib.hid (by rw [HTK.out, HCK.out]; rfl)
      have hO0 := hO
      have hM0 := hM
      have hR0 := hR
      have hI0 := hI
      have hK0 := hK
      clear hO hM hR hI hK HTK
      refine wp_region_inv_own (mcutJ w m m3 L X j sb so kcap jcap xcap mcap ocap ja xa ma oa xs xk ck) (by kernel_rfl) (by kernel_rfl) (by kernel_rfl) ?_ (Steps.cons 0 ?_ (Steps.cons 1 ?_ (Steps.cons 2 ?_ (Steps.cons 3 ?_ (Steps.cons 4 ?_ (Steps.cons 5 ?_ (Steps.cons 6 ?_ (Steps.cons 7 ?_ (Steps.cons 8 ?_ (Steps.cons 9 ?_ (Steps.cons 10 ?_ (Steps.cons 11 ?_ (Steps.cons 12 ?_ (Steps.cons 13 ?_ (Steps.cons 14 ?_ (Steps.cons 15 ?_ (Steps.cons 16 ?_ (Steps.cons 17 ?_ (Steps.nil 18))))))))))))))))))) 18 rfl ?_
      · exact ⟨0, hO0.keep (Keep.refl [] _).drew (by simp), hM0.drew, hR0.drew, hI0.keep (Keep.refl [] _).drew (by simp), hK0.drew, fun h => absurd h (by decide), fun _ => rfl, fun h => absurd h (by decide), fun h => absurd h (by decide), fun h => absurd h (by decide), fun h => absurd h (by decide), fun h => absurd h (by decide), fun h => absurd h (by decide), fun h => absurd h (by decide), fun h => absurd h (by decide), fun h => absurd h (by decide), fun h => absurd h (by decide), fun h => absurd h (by decide), fun h => absurd h (by decide), fun h => absurd h (by decide), fun h => absurd h (by decide), fun h => absurd h (by decide), fun h => absurd h (by decide), fun h => absurd h (by decide), fun h => absurd h (by decide)⟩
      · intro l x w' hJ hi hd
        obtain ⟨B15, hO, hM, hR, hI, hW, d16, d15, h0, h1, h2, h3, h4, h5, h6, h7, h8, h9, h10, h11, h12, h13, h14, h15, h16, h17⟩ := hJ
        have l17 : l 17 = false := by cases hh : l 17 with | false => rfl | true => have := (d16 (h17 hh).2).1; rw [hi] at this; cases this
        have e17 := d15 l17
        refine Runs.of (b := ?bC0) ?eC0 ?_
        case eC0 => simp only [putV, Act.put, List.setIfInBounds_toArray, List.set_cons_zero, List.set_cons_succ, e17]; rfl
        intro K' hK'
        go_simp
        exact hK'.go _ rfl ⟨B15, hO, hM, hR, hI, hW, fun h => ⟨rfl, (d16 h).2⟩, d15, fun _ => rfl, h1, h2, h3, h4, h5, h6, h7, h8, h9, h10, h11, h12, h13, h14, h15, h16, h17⟩
      · intro l x w' hJ hi hd
        obtain ⟨B15, hO, hM, hR, hI, hW, d16, d15, h0, h1, h2, h3, h4, h5, h6, h7, h8, h9, h10, h11, h12, h13, h14, h15, h16, h17⟩ := hJ
        refine Runs.of (b := ?bC1) ?eC1 ?_
        case eC1 => simp only [putV, Act.put, List.setIfInBounds_toArray, List.set_cons_zero, List.set_cons_succ]; rfl
        intro K' hK'
        go_simp
        exact hK'.go _ rfl ⟨B15, hO, hM, hR, hI, hW, d16, d15, h0, fun _ => rfl, h2, h3, h4, h5, h6, h7, h8, h9, h10, h11, h12, h13, h14, h15, h16, h17⟩
      · intro l x w' hJ hi hd
        obtain ⟨B15, hO, hM, hR, hI, hW, d16, d15, h0, h1, h2, h3, h4, h5, h6, h7, h8, h9, h10, h11, h12, h13, h14, h15, h16, h17⟩ := hJ
        have e1 := h1 (show l 1 = true by first | exact hd.1 rfl | exact hd.2.1 rfl | exact hd.2.2.1 rfl | exact hd.2.2.2.1 rfl | exact hd.2.2.2.2.1 rfl | exact hd.2.2.2.2.2.1 rfl)
        have c17 := msc_17 hM
        refine Runs.of (b := ?bC2) ?eC2 ?_
        case eC2 => simp only [putV, Act.put, List.setIfInBounds_toArray, List.set_cons_zero, List.set_cons_succ, e1]; rfl
        intro K' hK'
        go_simp
        exact hK'.go _ rfl ⟨B15, hO, hM, hR, hI, hW, d16, d15, h0, h1, fun _ => rfl, h3, h4, h5, h6, h7, h8, h9, h10, h11, h12, h13, h14, h15, h16, h17⟩
      · intro l x w' hJ hi hd
        obtain ⟨B15, hO, hM, hR, hI, hW, d16, d15, h0, h1, h2, h3, h4, h5, h6, h7, h8, h9, h10, h11, h12, h13, h14, h15, h16, h17⟩ := hJ
        refine Runs.of (b := ?bC3) ?eC3 ?_
        case eC3 => simp only [putV, Act.put, List.setIfInBounds_toArray, List.set_cons_zero, List.set_cons_succ]; rfl
        intro K' hK'
        go_simp
        exact hK'.go _ rfl ⟨B15, hO, hM, hR, hI, hW, d16, d15, h0, h1, h2, fun _ => rfl, h4, h5, h6, h7, h8, h9, h10, h11, h12, h13, h14, h15, h16, h17⟩
      · intro l x w' hJ hi hd
        obtain ⟨B15, hO, hM, hR, hI, hW, d16, d15, h0, h1, h2, h3, h4, h5, h6, h7, h8, h9, h10, h11, h12, h13, h14, h15, h16, h17⟩ := hJ
        have e2 := h2 (show l 2 = true by first | exact hd.1 rfl | exact hd.2.1 rfl | exact hd.2.2.1 rfl | exact hd.2.2.2.1 rfl | exact hd.2.2.2.2.1 rfl | exact hd.2.2.2.2.2.1 rfl)
        have e3 := h3 (show l 3 = true by first | exact hd.1 rfl | exact hd.2.1 rfl | exact hd.2.2.1 rfl | exact hd.2.2.2.1 rfl | exact hd.2.2.2.2.1 rfl | exact hd.2.2.2.2.2.1 rfl)
        refine Runs.of (b := ?bC4) ?eC4 ?_
        case eC4 => simp only [putV, Act.put, List.setIfInBounds_toArray, List.set_cons_zero, List.set_cons_succ, e2, e3]; rfl
        intro K' hK'
        go_simp
        exact hK'.go _ rfl ⟨B15, hO, hM, hR, hI, hW, d16, d15, h0, h1, h2, h3, fun _ => rfl, h5, h6, h7, h8, h9, h10, h11, h12, h13, h14, h15, h16, h17⟩
      · intro l x w' hJ hi hd
        obtain ⟨B15, hO, hM, hR, hI, hW, d16, d15, h0, h1, h2, h3, h4, h5, h6, h7, h8, h9, h10, h11, h12, h13, h14, h15, h16, h17⟩ := hJ
        have e4 := h4 (show l 4 = true by first | exact hd.1 rfl | exact hd.2.1 rfl | exact hd.2.2.1 rfl | exact hd.2.2.2.1 rfl | exact hd.2.2.2.2.1 rfl | exact hd.2.2.2.2.2.1 rfl)
        refine Runs.of (b := ?bC5) ?eC5 ?_
        case eC5 => simp only [putV, Act.put, List.setIfInBounds_toArray, List.set_cons_zero, List.set_cons_succ, e4]; rfl
        intro K' hK'
        go_simp
        exact hK'.go _ rfl ⟨B15, hO, hM, hR, hI, hW, d16, d15, h0, h1, h2, h3, h4, fun _ => rfl, h6, h7, h8, h9, h10, h11, h12, h13, h14, h15, h16, h17⟩
      · intro l x w' hJ hi hd
        obtain ⟨B15, hO, hM, hR, hI, hW, d16, d15, h0, h1, h2, h3, h4, h5, h6, h7, h8, h9, h10, h11, h12, h13, h14, h15, h16, h17⟩ := hJ
        have e5 := h5 (show l 5 = true by first | exact hd.1 rfl | exact hd.2.1 rfl | exact hd.2.2.1 rfl | exact hd.2.2.2.1 rfl | exact hd.2.2.2.2.1 rfl | exact hd.2.2.2.2.2.1 rfl)
        have c := (hW.cell (p := ⟨sb, so + j * 2, none⟩) hsl (by simp)).trans e0
        refine Runs.of (b := ?bC6) ?eC6 ?_
        case eC6 => simp only [putV, Act.put, List.setIfInBounds_toArray, List.set_cons_zero, List.set_cons_succ, e5]; rfl
        intro K' hK'
        go_simp
        exact hK'.go _ rfl ⟨B15, hO, hM, hR, hI, hW, d16, d15, h0, h1, h2, h3, h4, h5, fun _ => rfl, h7, h8, h9, h10, h11, h12, h13, h14, h15, h16, h17⟩
      · intro l x w' hJ hi hd
        obtain ⟨B15, hO, hM, hR, hI, hW, d16, d15, h0, h1, h2, h3, h4, h5, h6, h7, h8, h9, h10, h11, h12, h13, h14, h15, h16, h17⟩ := hJ
        refine Runs.of (b := ?bC7) ?eC7 ?_
        case eC7 => simp only [putV, Act.put, List.setIfInBounds_toArray, List.set_cons_zero, List.set_cons_succ]; rfl
        intro K' hK'
        go_simp
        exact hK'.go _ rfl ⟨B15, hO, hM, hR, hI, hW, d16, d15, h0, h1, h2, h3, h4, h5, h6, fun _ => rfl, h8, h9, h10, h11, h12, h13, h14, h15, h16, h17⟩
      · intro l x w' hJ hi hd
        obtain ⟨B15, hO, hM, hR, hI, hW, d16, d15, h0, h1, h2, h3, h4, h5, h6, h7, h8, h9, h10, h11, h12, h13, h14, h15, h16, h17⟩ := hJ
        have e7 := h7 (show l 7 = true by first | exact hd.1 rfl | exact hd.2.1 rfl | exact hd.2.2.1 rfl | exact hd.2.2.2.1 rfl | exact hd.2.2.2.2.1 rfl | exact hd.2.2.2.2.2.1 rfl)
        have c17 := msc_17 hM
        refine Runs.of (b := ?bC8) ?eC8 ?_
        case eC8 => simp only [putV, Act.put, List.setIfInBounds_toArray, List.set_cons_zero, List.set_cons_succ, e7]; rfl
        intro K' hK'
        go_simp
        exact hK'.go _ rfl ⟨B15, hO, hM, hR, hI, hW, d16, d15, h0, h1, h2, h3, h4, h5, h6, h7, fun _ => rfl, h9, h10, h11, h12, h13, h14, h15, h16, h17⟩
      · intro l x w' hJ hi hd
        obtain ⟨B15, hO, hM, hR, hI, hW, d16, d15, h0, h1, h2, h3, h4, h5, h6, h7, h8, h9, h10, h11, h12, h13, h14, h15, h16, h17⟩ := hJ
        refine Runs.of (b := ?bC9) ?eC9 ?_
        case eC9 => simp only [putV, Act.put, List.setIfInBounds_toArray, List.set_cons_zero, List.set_cons_succ]; rfl
        intro K' hK'
        go_simp
        exact hK'.go _ rfl ⟨B15, hO, hM, hR, hI, hW, d16, d15, h0, h1, h2, h3, h4, h5, h6, h7, h8, fun _ => rfl, h10, h11, h12, h13, h14, h15, h16, h17⟩
      · intro l x w' hJ hi hd
        obtain ⟨B15, hO, hM, hR, hI, hW, d16, d15, h0, h1, h2, h3, h4, h5, h6, h7, h8, h9, h10, h11, h12, h13, h14, h15, h16, h17⟩ := hJ
        have e8 := h8 (show l 8 = true by first | exact hd.1 rfl | exact hd.2.1 rfl | exact hd.2.2.1 rfl | exact hd.2.2.2.1 rfl | exact hd.2.2.2.2.1 rfl | exact hd.2.2.2.2.2.1 rfl)
        have e9 := h9 (show l 9 = true by first | exact hd.1 rfl | exact hd.2.1 rfl | exact hd.2.2.1 rfl | exact hd.2.2.2.1 rfl | exact hd.2.2.2.2.1 rfl | exact hd.2.2.2.2.2.1 rfl)
        refine Runs.of (b := ?bC10) ?eC10 ?_
        case eC10 => simp only [putV, Act.put, List.setIfInBounds_toArray, List.set_cons_zero, List.set_cons_succ, e8, e9]; rfl
        intro K' hK'
        go_simp
        exact hK'.go _ rfl ⟨B15, hO, hM, hR, hI, hW, d16, d15, h0, h1, h2, h3, h4, h5, h6, h7, h8, h9, fun _ => rfl, h11, h12, h13, h14, h15, h16, h17⟩
      · intro l x w' hJ hi hd
        obtain ⟨B15, hO, hM, hR, hI, hW, d16, d15, h0, h1, h2, h3, h4, h5, h6, h7, h8, h9, h10, h11, h12, h13, h14, h15, h16, h17⟩ := hJ
        have e10 := h10 (show l 10 = true by first | exact hd.1 rfl | exact hd.2.1 rfl | exact hd.2.2.1 rfl | exact hd.2.2.2.1 rfl | exact hd.2.2.2.2.1 rfl | exact hd.2.2.2.2.2.1 rfl)
        refine Runs.of (b := ?bC11) ?eC11 ?_
        case eC11 => simp only [putV, Act.put, List.setIfInBounds_toArray, List.set_cons_zero, List.set_cons_succ, e10]; rfl
        intro K' hK'
        go_simp
        exact hK'.go _ rfl ⟨B15, hO, hM, hR, hI, hW, d16, d15, h0, h1, h2, h3, h4, h5, h6, h7, h8, h9, h10, fun _ => rfl, h12, h13, h14, h15, h16, h17⟩
      · intro l x w' hJ hi hd
        obtain ⟨B15, hO, hM, hR, hI, hW, d16, d15, h0, h1, h2, h3, h4, h5, h6, h7, h8, h9, h10, h11, h12, h13, h14, h15, h16, h17⟩ := hJ
        have e11 := h11 (show l 11 = true by first | exact hd.1 rfl | exact hd.2.1 rfl | exact hd.2.2.1 rfl | exact hd.2.2.2.1 rfl | exact hd.2.2.2.2.1 rfl | exact hd.2.2.2.2.2.1 rfl)
        have c := (hW.cell (p := ⟨sb, so + j * 2 + 1, none⟩) hsl (by simp)).trans e1
        refine Runs.of (b := ?bC12) ?eC12 ?_
        case eC12 => simp only [putV, Act.put, List.setIfInBounds_toArray, List.set_cons_zero, List.set_cons_succ, e11]; rfl
        intro K' hK'
        go_simp
        exact hK'.go _ rfl ⟨B15, hO, hM, hR, hI, hW, d16, d15, h0, h1, h2, h3, h4, h5, h6, h7, h8, h9, h10, h11, fun _ => rfl, h13, h14, h15, h16, h17⟩
      · intro l x w' hJ hi hd
        obtain ⟨B15, hO, hM, hR, hI, hW, d16, d15, h0, h1, h2, h3, h4, h5, h6, h7, h8, h9, h10, h11, h12, h13, h14, h15, h16, h17⟩ := hJ
        have e12 := h12 (show l 12 = true by first | exact hd.1 rfl | exact hd.2.1 rfl | exact hd.2.2.1 rfl | exact hd.2.2.2.1 rfl | exact hd.2.2.2.2.1 rfl | exact hd.2.2.2.2.2.1 rfl)
        refine Runs.of (b := ?bC13) ?eC13 ?_
        case eC13 => simp only [putV, Act.put, List.setIfInBounds_toArray, List.set_cons_zero, List.set_cons_succ, e12]; rfl
        intro K' hK'
        go_simp
        refine (Cut_any xk 50 hsy (by omega)).mono ?_
        rintro e w2 ⟨rfl, rfl⟩
        rw [← HCK.out]
        go_simp
        exact hK'.go _ rfl ⟨B15, hO, hM, hR, hI, hW, d16, d15, h0, h1, h2, h3, h4, h5, h6, h7, h8, h9, h10, h11, h12, fun _ => rfl, h14, h15, h16, h17⟩
      · intro l x w' hJ hi hd
        obtain ⟨B15, hO, hM, hR, hI, hW, d16, d15, h0, h1, h2, h3, h4, h5, h6, h7, h8, h9, h10, h11, h12, h13, h14, h15, h16, h17⟩ := hJ
        have e6 := h6 (show l 6 = true by first | exact hd.1 rfl | exact hd.2.1 rfl | exact hd.2.2.1 rfl | exact hd.2.2.2.1 rfl | exact hd.2.2.2.2.1 rfl | exact hd.2.2.2.2.2.1 rfl)
        have e13 := h13 (show l 13 = true by first | exact hd.1 rfl | exact hd.2.1 rfl | exact hd.2.2.1 rfl | exact hd.2.2.2.1 rfl | exact hd.2.2.2.2.1 rfl | exact hd.2.2.2.2.2.1 rfl)
        refine Runs.of (b := ?bC14) ?eC14 ?_
        case eC14 => simp only [putV, Act.put, List.setIfInBounds_toArray, List.set_cons_zero, List.set_cons_succ, e6, e13]; rfl
        intro K' hK'
        go_simp
        exact hK'.go _ rfl ⟨B15, hO, hM, hR, hI, hW, d16, d15, h0, h1, h2, h3, h4, h5, h6, h7, h8, h9, h10, h11, h12, h13, fun _ => rfl, h15, h16, h17⟩
      · intro l x w' hJ hi hd
        obtain ⟨B15, hO, hM, hR, hI, hW, d16, d15, h0, h1, h2, h3, h4, h5, h6, h7, h8, h9, h10, h11, h12, h13, h14, h15, h16, h17⟩ := hJ
        have e14 := h14 (show l 14 = true by first | exact hd.1 rfl | exact hd.2.1 rfl | exact hd.2.2.1 rfl | exact hd.2.2.2.1 rfl | exact hd.2.2.2.2.1 rfl | exact hd.2.2.2.2.2.1 rfl)
        refine Runs.of (b := ?bC15) ?eC15 ?_
        case eC15 => simp only [putV, Act.put, List.setIfInBounds_toArray, List.set_cons_zero, List.set_cons_succ, e14]; rfl
        intro K' hK'
        go_simp
        exact hK'.go _ rfl ⟨w'.heap.size, hO.alloc _, hM.alloc _, hR.alloc _, hI.alloc _, hW.alloc _, fun h => ⟨(d16 h).1, rfl⟩, d15, h0, h1, h2, h3, h4, h5, h6, h7, h8, h9, h10, h11, h12, h13, h14, fun _ => fun _ => ⟨rfl, Blk.new _ _ _⟩, h16, h17⟩
      · intro l x w' hJ hi hd
        obtain ⟨B15, hO, hM, hR, hI, hW, d16, d15, h0, h1, h2, h3, h4, h5, h6, h7, h8, h9, h10, h11, h12, h13, h14, h15, h16, h17⟩ := hJ
        have e0 := h0 (show l 0 = true by first | exact hd.1 rfl | exact hd.2.1 rfl | exact hd.2.2.1 rfl | exact hd.2.2.2.1 rfl | exact hd.2.2.2.2.1 rfl | exact hd.2.2.2.2.2.1 rfl)
        have L15 := Lib.hid (show l 15 = true by first | exact hd.1 rfl | exact hd.2.1 rfl | exact hd.2.2.1 rfl | exact hd.2.2.2.1 rfl | exact hd.2.2.2.2.1 rfl | exact hd.2.2.2.2.2.1 rfl)
        have L0 := Lib.hid (show l 0 = true by first | exact hd.1 rfl | exact hd.2.1 rfl | exact hd.2.2.1 rfl | exact hd.2.2.2.1 rfl | exact hd.2.2.2.2.1 rfl | exact hd.2.2.2.2.2.1 rfl)
        obtain ⟨e15, hb15⟩ := h15 L15.out hi
        simp only [hi, Bool.false_eq_true, if_false] at hO
        have hsrc := src_mk (P := Try.prog) Try.underlying26 _ _ _ hb15
        have hsz := hW.size
        refine Runs.of (b := ?bC16) ?eC16 ?_
        case eC16 => simp only [putV, Act.put, List.setIfInBounds_toArray, List.set_cons_zero, List.set_cons_succ, e0, e15]; rfl
        intro K' hK'
        refine step_append_src _ rfl _ _ 26 26 rfl (w.heap.size + 2) 42 ik _ 2 24 Try.underlying26 hik hzk0 hzk1 hzk2 rfl (by decide) _ X.length (kc X) rfl hO _ 1 _ rfl hsrc (by unfold maxLen; omega) (by omega) (by have := hR.lt; omega) ?_
        intro v1 w4 h1' h2' _ h3'
        have hrow := KRow.snoc h1'
        have k2 := Keep.grown h2'
        have hxb : ∀ q ∈ (Value.ownBlock (Value.slice xa X.length xcap)).toList, w.heap.size + 2 ≤ q := fun q hq => (hO.lt q (Option.mem_toList.1 hq)).1
        exact hK'.go v1 rfl ⟨B15, hrow, hM.keep k2 (fun hm => by have := hxb _ hm; omega), hR.keep k2 (fun hm => by have := hxb _ hm; omega), hI.keep k2 (fun q hq hm => (hI.ty q hq).ne (hO.ty q (Option.mem_toList.1 hm)) (by decide) rfl), hW.then k2 (fun q hq hlt => by have := hxb q hq; omega), fun _ => ⟨L0.out, L15.out⟩, d15, h0, h1, h2, h3, h4, h5, h6, h7, h8, h9, h10, h11, h12, h13, h14, fun _ h => Bool.noConfusion (show true = false from h), fun _ => trivial, fun h => absurd ((h17 h).2.symm.trans hi) (by decide)⟩
      · intro l x w' hJ hi hd
        obtain ⟨B15, hO, hM, hR, hI, hW, d16, d15, h0, h1, h2, h3, h4, h5, h6, h7, h8, h9, h10, h11, h12, h13, h14, h15, h16, h17⟩ := hJ
        have L16 := Lib.hid (show l 16 = true by first | exact hd.1 rfl | exact hd.2.1 rfl | exact hd.2.2.1 rfl | exact hd.2.2.2.1 rfl | exact hd.2.2.2.2.1 rfl | exact hd.2.2.2.2.2.1 rfl)
        refine Runs.of (b := ?bC17) ?eC17 ?_
        case eC17 => simp only [putV, Act.put, List.setIfInBounds_toArray, List.set_cons_zero, List.set_cons_succ]; rfl
        intro K' hK'
        go_simp
        exact hK'.go _ rfl ⟨B15, hO, hM, hR, hI, hW, d16, fun h => Bool.noConfusion (show true = false from h), h0, h1, h2, h3, h4, h5, h6, h7, h8, h9, h10, h11, h12, h13, h14, h15, h16, fun _ => ⟨rfl, L16.out⟩⟩
      · intro l x w3 hJ hl
        obtain ⟨B15, hO, hM, hR, hI, hW, d16, d15, h0, h1, h2, h3, h4, h5, h6, h7, h8, h9, h10, h11, h12, h13, h14, h15, h16, h17⟩ := hJ
        have e17 := (h17 (hl 17 (by decide))).1
        rw [if_pos (hl 16 (by decide)), if_pos (hl 16 (by decide))] at hO
        simp only [putV, Act.put, List.setIfInBounds_toArray, List.set_cons_zero, List.set_cons_succ, e17]
        clear h0 h1 h2 h3 h4 h5 h6 h7 h8 h9 h10 h11 h12 h13 h14 h15 h16 h17 hl d16 d15 e17 hO0 hM0 hR0 hI0 hK0 e0 e1
        generalize x 16 = xv at *
        go_wp2_with fail
        go_roundw
        case rel => exact ⟨j + 1, by omega, by omega, by go_num, by rw [HTK2.out]; exact hO, hM, hR, hI, hW⟩
        case measure => simp [intOf]; omega
    | false =>
      have hin := of_decide_eq_false HBG.out.symm
      clear HBG
      have htk : m.mks.take j = m.mks.take 6 := by
        by_cases h1 : j < m.mks.length
        · have : j = 6 := by omega
          rw [this]
        · rw [List.take_of_length_le (by omega), List.take_of_length_le (by omega)]
      rw [htk] at hO
      obtain ⟨X, hX⟩ : ∃ X, X = (m.mks.take 6).map mkCut := ⟨_, rfl⟩
      rw [← hX] at hO
      have HX := Lib.hid hX
      clear hX htk
      obtain ⟨xa, xcap, rfl⟩ := hO.slice
      have c18 := msc_18 hM
      have c20 := msc_20 hM
      have f17 := hM.free 17
      have hON := hO.lt
      go_upto_region 10 with fail
      have hk7 : Keep [w.heap.size] wr (wr.setCell ⟨w.heap.size, 17, none⟩ (.slice xa X.length xcap)) := (Keep.refl _ _).setCell (.inl (by simp)) _
      have hM7 : Blk (wr.setCell ⟨w.heap.size, 17, none⟩ (.slice xa X.length xcap)) w.heap.size (msC m3 (.slice ja L.length jcap) (.slice xa X.length xcap) (.slice ma m.mem.length mcap) (.slice oa m.old.length ocap)) 29 := hM.set 17 _
      have hR7 := hR.keep hk7 (by simp)
      have hI7 := hI.keep hk7 (fun b hb hm => by have := (hI.lt b hb).1; simp at hm; omega)
      have hO7 := hO.keep hk7 (fun b hb hm => by have := (hON b hb).1; simp at hm; omega)
      have K7 : Keep [] w (wr.setCell ⟨w.heap.size, 17, none⟩ (.slice xa X.length xcap)) := hK.setCell (.inr (Nat.le_refl _)) _
      clear hM hR hI hK hO c17 c18 c20 f17 hk7 hON
      generalize wr.setCell ⟨w.heap.size, 17, none⟩ (.slice xa X.length xcap) = w7 at *
      have c18 := msc_18 hM7
      have f18 := hM7.free 18
      have hv := h.mem.keep K7 (by simp)
      go_upto_if 50 with fail
      go_cut [] (fun wc => ∃ mA mN mC, Blk wc w.heap.size (msC m3 (.slice ja L.length jcap) (.slice xa X.length xcap) (.slice mA mN mC) (.slice oa m.old.length ocap)) 29 ∧ Blk wc (w.heap.size + 1) (msC ms0 (.slice none 0 0) (.slice none 0 0) (.slice none 0 0) (.slice none 0 0)) 29 ∧ IRow wc (w.heap.size + 2) (.slice ja L.length jcap) L ∧ KRow wc (w.heap.size + 2) (.slice xa X.length xcap) X ∧ Keep [] w wc ∧ Rv wc 1 (.slice mA mN mC) (m.mem.take 7).length (ints (m.mem.take 7)) ∧ (∀ b, (Value.slice mA mN mC).ownBlock = some b → 0 < (ints (m.mem.take 7)).length → b < w.heap.size) ∧ (Value.slice mA mN mC).ownBlock = (Value.slice ma m.mem.length mcap).ownBlock)
      case first =>
        by_cases g1 : 7 < m.mem.length
        · have p1 : decide (7 < (m.mem.length : Int)) = true := decide_eq_true (by omega)
          go_wp2_with (refine wpList_slice_to _ _ _ _ _ _ _ 3 ii Try.underlying27 hii hzi1 _ _ _ _ 7 rfl rfl rfl hv (by omega) ?_; intro v1 hv1 ho1; obtain ⟨_, ma2, mcap2, rfl, _, _⟩ := id hv1)
          go_meet
          have hk : Keep [w.heap.size] w7 (w7.setCell ⟨w.heap.size, 18, none⟩ (.slice ma2 7 mcap2)) := (Keep.refl _ _).setCell (.inl (by simp)) _
          have hown : ∀ b, (Value.slice ma2 7 mcap2).ownBlock = some b → 0 < (ints (m.mem.take 7)).length → b < w.heap.size := fun b hb hp => h.mem.lo b (ho1 ▸ hb) (by simp at hp ⊢; omega)
          have e7 : (m.mem.take 7).length = 7 := by rw [List.length_take]; omega
          have hv2 : Rv w7 1 (.slice ma2 7 mcap2) (m.mem.take 7).length (ints (m.mem.take 7)) := by rw [ints_take, e7]; exact hv1
          exact ⟨_, _, _, hM7.set 18 _, hR7.keep hk (by simp), hI7.keep hk (fun b hb hm => by have := (hI7.lt b hb).1; simp at hm; omega), hO7.keep hk (fun b hb hm => by have := (hO7.lt b hb).1; simp at hm; omega), K7.setCell (.inr (Nat.le_refl _)) _, Rv.keep0 hv2 hk (fun b hb hp hm => by have := hown b hb hp; simp at hm; omega), hown, ho1⟩
        · have p1 : decide (7 < (m.mem.length : Int)) = false := decide_eq_false (by omega)
          go_wp2_with fail
          go_meet
          exact ⟨_, _, _, hM7, hR7, hI7, hO7, K7, by rw [List.take_of_length_le (by omega)]; exact hv, fun b hb hp => h.mem.lo b hb (by simp at hp ⊢; omega), rfl⟩
      case rest =>
      clear hM7 hR7 hI7 hO7 K7 hv c18 f18
      obtain ⟨mA, mN, mC, hM8, hR8, hI8, hO8, K8, hmem, hown, hom⟩ := hcut
      have HMB := Lib.hid hown
      clear hown
      generalize wc = w8 at *
      have HOM := Lib.hid hom
      clear hom
      have c20 := msc_20 hM8
      have f20 := hM8.free 20
      have hv := h.old.keep K8 (by simp)
      go_upto_if 58 with fail
      go_cut [] (fun wc => ∃ oA oN oC, Blk wc w.heap.size (msC m3 (.slice ja L.length jcap) (.slice xa X.length xcap) (.slice mA mN mC) (.slice oA oN oC)) 29 ∧ Blk wc (w.heap.size + 1) (msC ms0 (.slice none 0 0) (.slice none 0 0) (.slice none 0 0) (.slice none 0 0)) 29 ∧ IRow wc (w.heap.size + 2) (.slice ja L.length jcap) L ∧ KRow wc (w.heap.size + 2) (.slice xa X.length xcap) X ∧ Keep [] w wc ∧ Rv wc 1 (.slice oA oN oC) (m.old.take 7).length (ints (m.old.take 7)) ∧ (∀ b, (Value.slice oA oN oC).ownBlock = some b → 0 < (ints (m.old.take 7)).length → b < w.heap.size) ∧ (Value.slice oA oN oC).ownBlock = (Value.slice oa m.old.length ocap).ownBlock ∧ Rv wc 1 (.slice mA mN mC) (m.mem.take 7).length (ints (m.mem.take 7)))
      case first =>
        by_cases g1 : 7 < m.old.length
        · have p1 : decide (7 < (m.old.length : Int)) = true := decide_eq_true (by omega)
          go_wp2_with (refine wpList_slice_to _ _ _ _ _ _ _ 3 ii Try.underlying27 hii hzi1 _ _ _ _ 7 rfl rfl rfl hv (by omega) ?_; intro v1 hv1 ho1; obtain ⟨_, oa2, ocap2, rfl, _, _⟩ := id hv1)
          go_meet
          have hk : Keep [w.heap.size] w8 (w8.setCell ⟨w.heap.size, 20, none⟩ (.slice oa2 7 ocap2)) := (Keep.refl _ _).setCell (.inl (by simp)) _
          have hown : ∀ b, (Value.slice oa2 7 ocap2).ownBlock = some b → 0 < (ints (m.old.take 7)).length → b < w.heap.size := fun b hb hp => h.old.lo b (ho1 ▸ hb) (by simp at hp ⊢; omega)
          have e7 : (m.old.take 7).length = 7 := by rw [List.length_take]; omega
          have hv2 : Rv w8 1 (.slice oa2 7 ocap2) (m.old.take 7).length (ints (m.old.take 7)) := by rw [ints_take, e7]; exact hv1
          exact ⟨_, _, _, hM8.set 20 _, hR8.keep hk (by simp), hI8.keep hk (fun b hb hm => by have := (hI8.lt b hb).1; simp at hm; omega), hO8.keep hk (fun b hb hm => by have := (hO8.lt b hb).1; simp at hm; omega), K8.setCell (.inr (Nat.le_refl _)) _, Rv.keep0 hv2 hk (fun b hb hp hm => by have := hown b hb hp; simp at hm; omega), hown, ho1, Rv.keep0 hmem hk (fun b hb hp hm => by have := HMB.out b hb hp; simp at hm; omega)⟩
        · have p1 : decide (7 < (m.old.length : Int)) = false := decide_eq_false (by omega)
          go_wp2_with fail
          go_meet
          exact ⟨_, _, _, hM8, hR8, hI8, hO8, K8, by rw [List.take_of_length_le (by omega)]; exact hv, fun b hb hp => h.old.lo b hb (by simp at hp ⊢; omega), rfl, hmem⟩
      case rest =>
      clear hM8 hR8 hI8 hO8 K8 hv c20 f20 hmem
      obtain ⟨oA, oN, oC, hM9, hR9, hI9, hO9, K9, hold, hown, hoo, hmem⟩ := hcut
      have HOB := Lib.hid hown
      clear hown
      generalize wc = w9 at *
      have HOO := Lib.hid hoo
      clear hoo
      have HONE := Lib.hid (msC_one m3 ja xa mA oA L.length jcap X.length xcap mN mC oN oC)
      have hfin : msCut m = { m3 with its := L, mks := X, mem := m.mem.take 7, old := m.old.take 7 } := by rw [HM3.out, HX.out, HL.out, HIT.out, HK1.out]; rfl
      have HFIN := Lib.hid hfin
      clear hfin
      go_wp2_with (first | (refine wpList_load_row rfl 29 _ rfl w.heap.size rfl 29 (msC m3 (.slice ja L.length jcap) (.slice xa X.length xcap) (.slice mA mN mC) (.slice oA oN oC)).toArray (0, 0) _ hM9 Try.underlying29 rfl Try.sizeMsg ?_) | (refine wpList_store_blk rfl 29 _ _ rfl (w.heap.size + 1) (msC ms0 (.slice none 0 0) (.slice none 0 0) (.slice none 0 0) (.slice none 0 0)) (msC m3 (.slice ja L.length jcap) (.slice xa X.length xcap) (.slice mA mN mC) (.slice oA oN oC)) 29 rfl rfl hR9 rfl Try.sizeMsg HONE.out ?_; intro wz hBz hKz))
      refine bodyPost_ret (v := .agg (msC m3 (.slice ja L.length jcap) (.slice xa X.length xcap) (.slice mA mN mC) (.slice oA oN oC)).toArray) ?_ rfl ?_
      · exact results_cell_row Try.results10 _ _ (w.heap.size + 1) 29 _ (0, 0) _ rfl hBz Try.underlying29 rfl Try.sizeMsg
      · rw [HFIN.out]
        have hsep : ∀ b ∈ [w.heap.size + 1], w.heap.size < b := by intro b hb; simp at hb; omega
        exact ⟨.slice ja L.length jcap, .slice xa X.length xcap, .slice mA mN mC, .slice oA oN oC, rfl, ⟨(hI9.keep hKz (fun b hb hm => by have := (hI9.lt b hb).1; simp at hm; omega)).rd, (hO9.keep hKz (fun b hb hm => by have := (hO9.lt b hb).1; simp at hm; omega)).rd, Rv.keep0 hmem hKz (fun b hb hp hm => by have := HMB.out b hb hp; have := hsep b hm; omega), Rv.keep0 hold hKz (fun b hb hp hm => by have := HOB.out b hb hp; have := hsep b hm; omega)⟩, ⟨fun q hq => by have := (hI9.lt q hq).1; omega, fun q hq => by have := (hO9.lt q hq).1; omega, HOM.out, HOO.out⟩, K9.then hKz (fun b hb hlt => by have := hsep b hb; omega)⟩
end Go.Proofs.Ytonghelcfbjknaa
