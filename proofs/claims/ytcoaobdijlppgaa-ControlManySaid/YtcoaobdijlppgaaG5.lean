/- MsgMay, MsgMay2, NumAll, Clock -/
import Derived.Test.YtcoaobdijlppgaaG1
import Derived.Test.YtcoaobdijlppgaaG2
import Derived.Test.YtcoaobdijlppgaaG4
/- Package msg: lists, May. -/
namespace Go.Proofs.Ytcoaobdijlppgaa
open Go.ChangeShapes Go.WideShapes Go.ChangeAt Go.RowKit
set_option linter.unusedVariables false
set_option linter.unusedSimpArgs false
set_option maxRecDepth 100000

theorem msc_0 {w : World} {b : Nat} {m : Ms} {vi vk vm vo : Value} {T : TypeId} (h : Blk w b (msC m vi vk vm vo) T) : w.cell? ⟨b, 0, none⟩ = some (.int .i64 m.kind) := h.cell 0
theorem msc_1 {w : World} {b : Nat} {m : Ms} {vi vk vm vo : Value} {T : TypeId} (h : Blk w b (msC m vi vk vm vo) T) : w.cell? ⟨b, 1, none⟩ = some (.int .i64 m.src) := h.cell 1
theorem msc_2 {w : World} {b : Nat} {m : Ms} {vi vk vm vo : Value} {T : TypeId} (h : Blk w b (msC m vi vk vm vo) T) : w.cell? ⟨b, 2, none⟩ = some (.int .i64 m.dst) := h.cell 2
theorem msc_3 {w : World} {b : Nat} {m : Ms} {vi vk vm vo : Value} {T : TypeId} (h : Blk w b (msC m vi vk vm vo) T) : w.cell? ⟨b, 3, none⟩ = some (.int .i64 m.epoch) := h.cell 3
theorem msc_4 {w : World} {b : Nat} {m : Ms} {vi vk vm vo : Value} {T : TypeId} (h : Blk w b (msC m vi vk vm vo) T) : w.cell? ⟨b, 4, none⟩ = some (.int .i64 m.tick) := h.cell 4
theorem msc_5 {w : World} {b : Nat} {m : Ms} {vi vk vm vo : Value} {T : TypeId} (h : Blk w b (msC m vi vk vm vo) T) : w.cell? ⟨b, 5, none⟩ = some (.int .i64 m.seq) := h.cell 5
theorem msc_6 {w : World} {b : Nat} {m : Ms} {vi vk vm vo : Value} {T : TypeId} (h : Blk w b (msC m vi vk vm vo) T) : w.cell? ⟨b, 6, none⟩ = some (.int .i64 m.n) := h.cell 6
theorem msc_7 {w : World} {b : Nat} {m : Ms} {vi vk vm vo : Value} {T : TypeId} (h : Blk w b (msC m vi vk vm vo) T) : w.cell? ⟨b, 7, none⟩ = some (.int .i64 m.id) := h.cell 7
theorem msc_8 {w : World} {b : Nat} {m : Ms} {vi vk vm vo : Value} {T : TypeId} (h : Blk w b (msC m vi vk vm vo) T) : w.cell? ⟨b, 8, none⟩ = some (.int .i64 m.op) := h.cell 8
theorem msc_9 {w : World} {b : Nat} {m : Ms} {vi vk vm vo : Value} {T : TypeId} (h : Blk w b (msC m vi vk vm vo) T) : w.cell? ⟨b, 9, none⟩ = some (.string m.key) := h.cell 9
theorem msc_10 {w : World} {b : Nat} {m : Ms} {vi vk vm vo : Value} {T : TypeId} (h : Blk w b (msC m vi vk vm vo) T) : w.cell? ⟨b, 10, none⟩ = some (.int .i64 m.err) := h.cell 10
theorem msc_11 {w : World} {b : Nat} {m : Ms} {vi vk vm vo : Value} {T : TypeId} (h : Blk w b (msC m vi vk vm vo) T) : w.cell? ⟨b, 11, none⟩ = some (.bool m.last) := h.cell 11
theorem msc_12 {w : World} {b : Nat} {m : Ms} {vi vk vm vo : Value} {T : TypeId} (h : Blk w b (msC m vi vk vm vo) T) : w.cell? ⟨b, 12, none⟩ = some (.string m.it.1) := h.cell 12
theorem msc_13 {w : World} {b : Nat} {m : Ms} {vi vk vm vo : Value} {T : TypeId} (h : Blk w b (msC m vi vk vm vo) T) : w.cell? ⟨b, 13, none⟩ = some (.string m.it.2.1) := h.cell 13
theorem msc_14 {w : World} {b : Nat} {m : Ms} {vi vk vm vo : Value} {T : TypeId} (h : Blk w b (msC m vi vk vm vo) T) : w.cell? ⟨b, 14, none⟩ = some (.int .i64 m.it.2.2.1) := h.cell 14
theorem msc_15 {w : World} {b : Nat} {m : Ms} {vi vk vm vo : Value} {T : TypeId} (h : Blk w b (msC m vi vk vm vo) T) : w.cell? ⟨b, 15, none⟩ = some (.bool m.it.2.2.2) := h.cell 15
theorem msc_16 {w : World} {b : Nat} {m : Ms} {vi vk vm vo : Value} {T : TypeId} (h : Blk w b (msC m vi vk vm vo) T) : w.cell? ⟨b, 16, none⟩ = some (vi) := h.cell 16
theorem msc_17 {w : World} {b : Nat} {m : Ms} {vi vk vm vo : Value} {T : TypeId} (h : Blk w b (msC m vi vk vm vo) T) : w.cell? ⟨b, 17, none⟩ = some (vk) := h.cell 17
theorem msc_18 {w : World} {b : Nat} {m : Ms} {vi vk vm vo : Value} {T : TypeId} (h : Blk w b (msC m vi vk vm vo) T) : w.cell? ⟨b, 18, none⟩ = some (vm) := h.cell 18
theorem msc_19 {w : World} {b : Nat} {m : Ms} {vi vk vm vo : Value} {T : TypeId} (h : Blk w b (msC m vi vk vm vo) T) : w.cell? ⟨b, 19, none⟩ = some (.int .i64 m.base) := h.cell 19
theorem msc_20 {w : World} {b : Nat} {m : Ms} {vi vk vm vo : Value} {T : TypeId} (h : Blk w b (msC m vi vk vm vo) T) : w.cell? ⟨b, 20, none⟩ = some (vo) := h.cell 20
def mkc (x : Mk) : List Value := [.int .i64 x.1, .string x.2]
def kc (l : List Mk) : List Value := (l.map mkc).flatten
theorem kc_len (l : List Mk) : (kc l).length = l.length * 2 := flatten_len mkc 2 (fun _ => rfl) l
theorem kc_snoc (l : List Mk) (y : Mk) : kc (l ++ [y]) = kc l ++ mkc y := by simp [kc]
theorem kc_one (l : List Mk) : ∀ u ∈ kc l, u.oneCell' = true := by
  intro u hu
  obtain ⟨c, hc, hu⟩ := List.mem_flatten.1 hu
  obtain ⟨y, _, rfl⟩ := List.mem_map.1 hc
  simp only [mkc, List.mem_cons, List.not_mem_nil, or_false] at hu
  rcases hu with rfl | rfl <;> rfl
abbrev KRd (w : World) (v : Value) (l : List Mk) : Prop := Rv w 2 v l.length (kc l)
theorem mks_at {w : World} {v : Value} {l : List Mk} (h : KRd w v l) (hl : 0 < l.length) : ∃ sb so cap, v = .slice (some ⟨sb, so, none⟩) l.length cap ∧
    ∀ i, i < l.length → w.cell? ⟨sb, so + i * 2, none⟩ = some (.int .i64 (l.getD i mk0).1) ∧ w.cell? ⟨sb, so + i * 2 + 1, none⟩ = some (.string (l.getD i mk0).2) := by
  have hfl := kc_len l
  obtain ⟨hln, a, cap, rfl, hc, hh⟩ := h
  obtain ⟨sb, so, rfl, hs, hat⟩ := hh (by rw [hfl]; omega)
  refine ⟨sb, so, cap, rfl, fun i hi => ?_⟩
  have hf : ∀ j, j < 2 → w.cell? ⟨sb, so + (i * 2 + j), none⟩ = (mkc (l.getD i mk0))[j]? := by
    intro j hj
    rw [hat _ (by rw [hfl]; omega)]
    unfold kc
    rw [flatten_at mkc 2 (fun _ => rfl) l i j hj, List.getElem?_eq_getElem hi, List.getD_eq_getElem?_getD, List.getElem?_eq_getElem hi]
    rfl
  refine ⟨hf 0 (by omega), ?_⟩
  rw [Nat.add_assoc]
  exact hf 1 (by omega)
structure MsRd (w : World) (m : Ms) (vi vk vm vo : Value) : Prop where
  its : IRd w vi m.its
  mks : KRd w vk m.mks
  mem : Rv w 1 vm m.mem.length (ints m.mem)
  old : Rv w 1 vo m.old.length (ints m.old)
theorem MsRd.keep {w w' : World} {m : Ms} {vi vk vm vo : Value} (h : MsRd w m vi vk vm vo) (k : Keep [] w w') : MsRd w' m vi vk vm vo :=
  ⟨h.its.keep k (by simp), h.mks.keep k (by simp), h.mem.keep k (by simp), h.old.keep k (by simp)⟩
theorem MsRd.alloc {w : World} {m : Ms} {vi vk vm vo : Value} (h : MsRd w m vi vk vm vo) (o : Obj) : MsRd (w.alloc o) m vi vk vm vo := h.keep ((Keep.refl _ _).alloc o)
structure MsSz (m : Ms) : Prop where
  key : m.key.size ≤ 9223372036854775807
  it : m.it.1.size ≤ 9223372036854775807 ∧ m.it.2.1.size ≤ 9223372036854775807
  its : ∀ y ∈ m.its, y.1.size ≤ 9223372036854775807 ∧ y.2.1.size ≤ 9223372036854775807
  mks : ∀ y ∈ m.mks, y.2.size ≤ 9223372036854775807
  itsn : m.its.length ≤ 1000000
  mksn : m.mks.length ≤ 1000000
  memn : m.mem.length ≤ 1000000
  oldn : m.old.length ≤ 1000000
theorem mksOk_false {l : List Mk} {j : Nat} (hj : j < l.length) (h : ¬ mkAt l j) : mksOk l = false := by
  unfold mksOk
  exact decide_eq_false (fun hh => h (hh j hj))
theorem mksOk_true {l : List Mk} (h : ∀ j, j < l.length → mkAt l j) : mksOk l = true := by
  unfold mksOk
  exact decide_eq_true h
theorem lists_mks {m : Ms} (h : mksOk m.mks = false) : listsOk m = false := by unfold listsOk; rw [h]; rfl
theorem lists_its {m : Ms} {j : Nat} {y : It} (hy : m.its[j]? = some y) (h : mayIt y = false) : listsOk m = false := by
  unfold listsOk
  have : m.its.all mayIt = false := by
    rw [List.all_eq_false]
    exact ⟨y, List.mem_of_getElem? hy, by rw [h]; decide⟩
  rw [this, Bool.false_and, Bool.and_false]
set_option maxHeartbeats 8000000 in
theorem lists_any {w : World} (m : Ms) (vi vk vm vo : Value) (h : MsRd w m vi vk vm vo) (hz : MsSz m) (r : Bool) (hr : r = listsOk m) :
    Calls Try.prog 53 #[msV m vi vk vm vo] w fun e w' => e = .returned (.bool r) ∧ Keep [] w w' := by
  have HR := Lib.hid hr
  clear hr
  have hM := Blk.new w (msC m vi vk vm vo) 39
  have h0 := h.alloc (.cells (msC m vi vk vm vo).toArray 39)
  have K0 := (Keep.refl [] w).alloc (.cells (msC m vi vk vm vo).toArray 39)
  have c14 := msc_17 hM
  have c13 := msc_16 hM
  have hn1 := hz.mksn
  have hn2 := hz.itsn
  obtain ⟨_, ka, kcap, rfl, _, _⟩ := id h.mks
  obtain ⟨_, ia, icap, rfl, _, _⟩ := id h.its
  go_enter Try.func53, Try.ntmps53
  go_wp2_with fail
  go_loopw [3, 11] (fun lastv i wr => ∃ j : Nat, i = .int .i64 j ∧ j ≤ m.mks.length ∧ lastv = .int .i64 (if j = 0 then 0 else (m.mks.getD (j - 1) mk0).1) ∧ (∀ k, k < j → mkAt m.mks k) ∧ Blk wr w.heap.size (msC m (.slice ia m.its.length icap) (.slice ka m.mks.length kcap) vm vo) 39 ∧ Keep [] w wr) (fun _ i _ => m.mks.length - (intOf i).toNat)
  case atStart => exact ⟨0, rfl, by omega, rfl, fun k hk => absurd hk (by omega), hM, K0⟩
  case round =>
    clear c13 c14 hM h0 K0
    obtain ⟨j, rfl, hj, rfl, hall, hM, hK⟩ := hrel
    have hR := h.keep hK
    have HA := Lib.hid hall
    clear hall
    by_cases hlt : j < m.mks.length
    · have q0 : (j : Int) < m.mks.length := by omega
      obtain ⟨sb, so, c', he, hat⟩ := mks_at hR.mks (by omega)
      simp only [Value.slice.injEq] at he
      obtain ⟨rfl, _, rfl⟩ := he
      obtain ⟨e0, e1⟩ := hat j hlt
      have hks : (m.mks.getD j mk0).2.size ≤ 9223372036854775807 := by
        rw [List.getD_eq_getElem?_getD, List.getElem?_eq_getElem hlt]
        exact hz.mks _ (List.getElem_mem hlt)
      have HB := Lib.hid (fun hh => lists_mks (mksOk_false hlt hh))
      have HN := Lib.hid (show mkAt m.mks j ↔ 1 ≤ (m.mks.getD j mk0).1 ∧ (m.mks.getD j mk0).1 ≤ 1099511627776 ∧ itKey (m.mks.getD j mk0).2 = true ∧ (0 < j → (m.mks.getD (j - 1) mk0).1 < (m.mks.getD j mk0).1) from Iff.rfl)
      have HM := Lib.hid hM
      have HP := Lib.hid (fun h0 : 0 < j => (HA.out (j - 1) (by omega)).1)
      clear hat hM
      generalize hx : m.mks.getD j mk0 = x at *
      obtain ⟨xs, xk⟩ := x
      simp only at e0 e1 hks
      obtain ⟨la, hla⟩ : ∃ la : Int, la = if j = 0 then 0 else (m.mks.getD (j - 1) mk0).1 := ⟨_, rfl⟩
      rw [← hla]
      have HL := Lib.hid hla
      have HX := Lib.hid hx
      clear hx hla
      have hX : Blk (wr.alloc (.cells (mkc (xs, xk)).toArray 123)) wr.heap.size [.int .i64 xs, .string xk] 123 := Blk.new wr (mkc (xs, xk)) 123
      have d0 : (wr.alloc (.cells #[.int .i64 xs, .string xk] 123)).cell? ⟨wr.heap.size, 0, none⟩ = some (.int .i64 xs) := hX.cell 0
      have d1 : (wr.alloc (.cells #[.int .i64 xs, .string xk] 123)).cell? ⟨wr.heap.size, 1, none⟩ = some (.string xk) := hX.cell 1
      have K1 := hK.alloc (.cells #[.int .i64 xs, .string xk] 123)
      have hbadw : la = (if j = 0 then 0 else (m.mks.getD (j - 1) mk0).1) := HL.out
      have hbad : ¬ (la < xs ∧ xs ≤ 1099511627776 ∧ itKey xk = true) → r = false := fun hh => by
        rw [HR.out]
        refine HB.out (fun hm => hh ?_)
        have hm' := HN.out.1 hm
        rw [hbadw]
        refine ⟨?_, hm'.2.1, hm'.2.2.1⟩
        split
        · exact hm'.1
        · exact hm'.2.2.2 (by omega)
      have hgood : la < xs → xs ≤ 1099511627776 → itKey xk = true → ∀ k, k < j + 1 → mkAt m.mks k := fun a b c k hk => by
        by_cases hkj : k < j
        · exact HA.out k hkj
        · obtain rfl : k = j := by omega
          rw [hbadw] at a
          refine HN.out.2 ⟨?_, b, c, ?_⟩
          · split at a
            · omega
            · have := HP.out (by omega); show 1 ≤ xs; omega
          · intro h0
            rw [if_neg (by omega)] at a
            exact a
      have HBAD := Lib.hid hbad
      have HGOOD := Lib.hid hgood
      clear hbad hgood hbadw hX
      by_cases g1 : xs ≤ la
      · have q1 : decide (xs ≤ la) = true := decide_eq_true g1
        go_wp2_with fail
        go_ret
        exact ⟨by rw [HBAD.out (by omega)]; rfl, K1⟩
      have q1 : decide (xs ≤ la) = false := decide_eq_false g1
      by_cases g2 : 1099511627776 < xs
      · have q2 : decide (1099511627776 < xs) = true := decide_eq_true g2
        go_wp2_with fail
        go_ret
        exact ⟨by rw [HBAD.out (by omega)]; rfl, K1⟩
      have q2 : decide (1099511627776 < xs) = false := decide_eq_false g2
      cases hkk : itKey xk with
      | false =>
        have HK := Lib.hid hkk.symm
        clear hkk
        go_wp2_with fail
        refine (Key_any xk hks false HK.out).mono ?_
        rintro e w5 ⟨rfl, rfl⟩
        go_wp2_with fail
        go_ret
        exact ⟨by rw [HBAD.out (by rw [← HK.out]; simp)]; rfl, K1⟩
      | true =>
        have HK := Lib.hid hkk.symm
        clear hkk
        go_wp2_with fail
        refine (Key_any xk hks true HK.out).mono ?_
        rintro e w5 ⟨rfl, rfl⟩
        go_wp2_with fail
        go_roundw
        case rel => exact ⟨j + 1, by go_num, by omega, by rw [if_neg (by omega), Nat.add_sub_cancel, HX.out], HGOOD.out (by omega) (by omega) HK.out.symm, HM.out.alloc _, K1⟩
        case measure => simp [intOf]; omega
    · obtain rfl : j = m.mks.length := by omega
      have HOK := Lib.hid (mksOk_true HA.out)
      generalize (if m.mks.length = 0 then (0 : Int) else (m.mks.getD (m.mks.length - 1) mk0).1) = la
      have c13 := msc_16 hM
      clear HA hlt
      go_wp2_with fail
      go_loopw [36] (fun i wr => ∃ j : Nat, i = .int .i64 j ∧ j ≤ m.its.length ∧ (∀ k y, k < j → m.its[k]? = some y → mayIt y = true) ∧ Blk wr w.heap.size (msC m (.slice ia m.its.length icap) (.slice ka m.mks.length kcap) vm vo) 39 ∧ Keep [] w wr) (fun i _ => m.its.length - (intOf i).toNat)
      case atStart => exact ⟨0, rfl, by omega, fun k y hk => absurd hk (by omega), hM, hK⟩
      case round =>
        clear c13 hM hK hR
        obtain ⟨j, rfl, hj, hall, hM, hK⟩ := hrel
        have hR := h.keep hK
        have HA := Lib.hid hall
        clear hall
        by_cases hlt : j < m.its.length
        · have q0 : (j : Int) < m.its.length := by omega
          obtain ⟨y, hy⟩ : ∃ y, m.its[j]? = some y := ⟨_, List.getElem?_eq_getElem hlt⟩
          obtain ⟨sb, so, c', he, _, _, e0, e1, e2, e3⟩ := its_at hR.its j y hy
          simp only [Value.slice.injEq] at he
          obtain ⟨rfl, _, rfl⟩ := he
          obtain ⟨hs1, hs2⟩ := hz.its y (List.mem_of_getElem? hy)
          have HB := Lib.hid (fun hh => lists_its hy hh)
          have HM := Lib.hid hM
          have HY := Lib.hid hy
          obtain ⟨k, v, n, g⟩ := y
          simp only at e0 e1 e2 e3 hs1 hs2
          clear hM hy hR
          have hX : Blk (wr.alloc (.cells (itC k v n g).toArray 34)) wr.heap.size (itC k v n g) 34 := Blk.new wr (itC k v n g) 34
          have d0 : (wr.alloc (.cells #[.string k, .string v, .int .i64 n, .bool g] 34)).cell? ⟨wr.heap.size, 0, none⟩ = some (.string k) := hX.cell 0
          have d1 : (wr.alloc (.cells #[.string k, .string v, .int .i64 n, .bool g] 34)).cell? ⟨wr.heap.size, 1, none⟩ = some (.string v) := hX.cell 1
          have d2 : (wr.alloc (.cells #[.string k, .string v, .int .i64 n, .bool g] 34)).cell? ⟨wr.heap.size, 2, none⟩ = some (.int .i64 n) := hX.cell 2
          have d3 : (wr.alloc (.cells #[.string k, .string v, .int .i64 n, .bool g] 34)).cell? ⟨wr.heap.size, 3, none⟩ = some (.bool g) := hX.cell 3
          have K1 := hK.alloc (.cells #[.string k, .string v, .int .i64 n, .bool g] 34)
          clear hX
          cases hkk : itMay k v n g with
          | false =>
            have HK := Lib.hid hkk.symm
            clear hkk
            go_wp2_with fail
            refine (May_any k v n g hs1 hs2 false HK.out).mono ?_
            rintro e w5 ⟨rfl, k5⟩
            go_wp2_with fail
            go_ret
            exact ⟨by rw [HR.out, HB.out HK.out.symm]; rfl, K1.trans k5⟩
          | true =>
            have HK := Lib.hid hkk.symm
            clear hkk
            go_wp2_with fail
            refine (May_any k v n g hs1 hs2 true HK.out).mono ?_
            rintro e w5 ⟨rfl, k5⟩
            go_wp2_with fail
            go_roundw
            case rel =>
              refine ⟨j + 1, by go_num, by omega, fun i z hi hz' => ?_, (HM.out.alloc _).keep k5 (by simp), K1.trans k5⟩
              by_cases hij : i < j
              · exact HA.out i z hij hz'
              · obtain rfl : i = j := by omega
                rw [HY.out] at hz'
                cases hz'
                exact HK.out.symm
            case measure => simp [intOf]; omega
        · obtain rfl : j = m.its.length := by omega
          have hall : m.its.all mayIt = true := by
            rw [List.all_eq_true]
            intro y hy
            obtain ⟨i, hi, rfl⟩ := List.getElem_of_mem hy
            exact HA.out i _ hi (List.getElem?_eq_getElem hi)
          have hr2 : r = (decide (m.its.length ≤ 4) && (decide (m.mks.length ≤ 4) && ((decide (m.mem.length = 0) || nodesOk m.mem) && (decide (m.old.length = 0) || nodesOk m.old)))) := by
            rw [HR.out]; unfold listsOk; rw [HOK.out, hall]; rfl
          have HR2 := Lib.hid hr2
          clear HA hlt hall hr2
          obtain ⟨_, ma, mcap, rfl, _, _⟩ := id h.mem
          obtain ⟨_, oa, ocap, rfl, _, _⟩ := id h.old
          have c16 := msc_16 hM
          have c17 := msc_17 hM
          have c18 := msc_18 hM
          have c20 := msc_20 hM
          have hm1 := hz.memn
          have hm2 := hz.oldn
          by_cases g1 : m.its.length ≤ 4
          case neg =>
            have q1 : decide ((m.its.length : Int) ≤ 4) = false := decide_eq_false (by omega)
            have q1' : decide (m.its.length ≤ 4) = false := decide_eq_false g1
            go_wp2_with fail
            go_ret
            exact ⟨by rw [HR2.out, q1']; rfl, hK⟩
          have q1 : decide ((m.its.length : Int) ≤ 4) = true := decide_eq_true (by omega)
          have q1' : decide (m.its.length ≤ 4) = true := decide_eq_true g1
          by_cases g2 : m.mks.length ≤ 4
          case neg =>
            have q2 : decide ((m.mks.length : Int) ≤ 4) = false := decide_eq_false (by omega)
            have q2' : decide (m.mks.length ≤ 4) = false := decide_eq_false g2
            go_wp2_with fail
            go_ret
            exact ⟨by rw [HR2.out, q1', q2']; rfl, hK⟩
          have q2 : decide ((m.mks.length : Int) ≤ 4) = true := decide_eq_true (by omega)
          have q2' : decide (m.mks.length ≤ 4) = true := decide_eq_true g2
          by_cases g3 : m.mem.length = 0
          · have q3 : ((m.mem.length : Int) == 0) = true := by simpa using g3
            have q3' : decide (m.mem.length = 0) = true := decide_eq_true g3
            by_cases g4 : m.old.length = 0
            · have q4 : ((m.old.length : Int) == 0) = true := by simpa using g4
              have q4' : decide (m.old.length = 0) = true := decide_eq_true g4
              go_wp2_with fail
              go_ret
              exact ⟨by rw [HR2.out, q1', q2', q3', q4']; rfl, hK⟩
            · have q4 : ((m.old.length : Int) == 0) = false := by simpa using g4
              have q4' : decide (m.old.length = 0) = false := decide_eq_false g4
              obtain ⟨b, hb⟩ : ∃ b, b = nodesOk m.old := ⟨_, rfl⟩
              have HBB := Lib.hid hb
              clear hb
              go_wp2_with fail
              refine (ptsMay_any _ m.old hR.old (by omega) b HBB.out).mono ?_
              rintro e w5 ⟨rfl, rfl⟩
              go_wp2_with fail
              go_ret
              exact ⟨by rw [HR2.out, q1', q2', q3', q4', HBB.out]; simp, hK⟩
          · have q3 : ((m.mem.length : Int) == 0) = false := by simpa using g3
            have q3' : decide (m.mem.length = 0) = false := decide_eq_false g3
            cases hb : nodesOk m.mem with
            | false =>
              have HBB := Lib.hid hb.symm
              clear hb
              go_wp2_with fail
              refine (ptsMay_any _ m.mem hR.mem (by omega) false HBB.out).mono ?_
              rintro e w5 ⟨rfl, rfl⟩
              go_wp2_with fail
              go_ret
              exact ⟨by rw [HR2.out, q1', q2', q3', ← HBB.out]; rfl, hK⟩
            | true =>
              have HBB := Lib.hid hb.symm
              clear hb
              by_cases g4 : m.old.length = 0
              · have q4 : ((m.old.length : Int) == 0) = true := by simpa using g4
                have q4' : decide (m.old.length = 0) = true := decide_eq_true g4
                go_wp2_with fail
                refine (ptsMay_any _ m.mem hR.mem (by omega) true HBB.out).mono ?_
                rintro e w5 ⟨rfl, rfl⟩
                go_wp2_with fail
                go_ret
                exact ⟨by rw [HR2.out, q1', q2', q3', ← HBB.out, q4']; rfl, hK⟩
              · have q4 : ((m.old.length : Int) == 0) = false := by simpa using g4
                have q4' : decide (m.old.length = 0) = false := decide_eq_false g4
                obtain ⟨b, hb⟩ : ∃ b, b = nodesOk m.old := ⟨_, rfl⟩
                have HB2 := Lib.hid hb
                clear hb
                go_wp2_with fail
                refine (ptsMay_any _ m.mem hR.mem (by omega) true HBB.out).mono ?_
                rintro e w5 ⟨rfl, rfl⟩
                go_wp2_with fail
                refine (ptsMay_any _ m.old hR.old (by omega) b HB2.out).mono ?_
                rintro e w5 ⟨rfl, rfl⟩
                go_wp2_with fail
                go_ret
                exact ⟨by rw [HR2.out, q1', q2', q3', ← HBB.out, q4', HB2.out]; simp, hK⟩
end Go.Proofs.Ytcoaobdijlppgaa
/- Package msg: May. -/
namespace Go.Proofs.Ytcoaobdijlppgaa
open Go.ChangeShapes Go.WideShapes Go.ChangeAt Go.RowKit
set_option linter.unusedVariables false
set_option linter.unusedSimpArgs false
set_option maxRecDepth 100000

theorem wpList_load_rowg {P : Program} {ops : Array Oper} {rest : List Oper} {o : Oper} {a : Act} {w : World} {Q : Exit → Act → World → Prop} (ty : TypeId) (x : Operand) (ho : o.op = .load ty x)
    (g : Nat) (hx : a.eval x = .pointer (some ⟨g, 0, none⟩)) (t : TypeId) (cs : Array Value) (fr : Nat × Nat) (d : TypeDesc) (hg : w.heap[g]? = some (.cells cs t fr))
    (hu : P.underlying ty = some d) (hd : (match d with | .struct _ | .array _ _ => true | _ => false) = true) (hi : (P.info? ty).map (·.size) = some cs.size)
    (hgd : Region.wanted o (yielded ops a.tmps) = true)
    (h : wpList P ops Q rest (a.put o.dst (.agg cs)) w) : wpList P ops Q (o :: rest) a w :=
  wpList_step fun K hK => by rw [if_pos hgd]; exact wp_load_row ty x ho g hx t cs fr d hg hu hd hi (hK _ _ h)
theorem itEq_zero (y : It) : itEq y.1 y.2.1 y.2.2.1 y.2.2.2 it0.1 it0.2.1 it0.2.2.1 it0.2.2.2 = decide (y = it0) := itEq_iff y it0
set_option maxHeartbeats 8000000 in
theorem msMay_any {w : World} (m : Ms) (vi vk vm vo : Value) (h : MsRd w m vi vk vm vo) (hz : MsSz m) (r : Bool) (hr : r = mayM m) :
    Calls Try.prog 33 #[msV m vi vk vm vo] w fun e w' => e = .returned (.bool r) ∧ Keep [] w w' := by
  have hM := Blk.new w (msC m vi vk vm vo) 39
  have h0 := h.alloc (.cells (msC m vi vk vm vo).toArray 39)
  have K0 := (Keep.refl [] w).alloc (.cells (msC m vi vk vm vo).toArray 39)
  have HR := Lib.hid hr
  clear hr
  go_enter Try.func33, Try.ntmps33
  have c0 := msc_0 hM
  have c1 := msc_1 hM
  have c2 := msc_2 hM
  by_cases g1 : m.kind < 1
  · have q1 : decide (m.kind < 1) = true := decide_eq_true g1
    have p1 : decide (1 ≤ m.kind) = false := decide_eq_false (by omega)
    go_wp2_with fail
    go_ret
    exact ⟨by rw [HR.out]; unfold mayM headOk; rw [p1]; rfl, K0⟩
  have q1 : decide (m.kind < 1) = false := decide_eq_false g1
  have p1 : decide (1 ≤ m.kind) = true := decide_eq_true (by omega)
  by_cases g2 : 14 < m.kind
  · have q2 : decide (14 < m.kind) = true := decide_eq_true g2
    have p2 : decide (m.kind ≤ 14) = false := decide_eq_false (by omega)
    go_wp2_with fail
    go_ret
    exact ⟨by rw [HR.out]; unfold mayM headOk; rw [p1, p2]; rfl, K0⟩
  have q2 : decide (14 < m.kind) = false := decide_eq_false g2
  have p2 : decide (m.kind ≤ 14) = true := decide_eq_true (by omega)
  by_cases g3 : m.src = m.dst
  · have q3 : (m.src == m.dst) = true := by simpa using g3
    have p3 : decide (m.src = m.dst) = true := decide_eq_true g3
    go_wp2_with fail
    go_ret
    exact ⟨by rw [HR.out]; unfold mayM headOk; rw [p1, p2, p3]; rfl, K0⟩
  have q3 : (m.src == m.dst) = false := by simpa using g3
  have p3 : decide (m.src = m.dst) = false := decide_eq_false g3
  obtain ⟨b4, hb4⟩ : ∃ b, b = inB 5 [m.src, m.dst] := ⟨_, rfl⟩
  have H4 := Lib.hid hb4
  clear hb4
  go_wp2_with fail
  have hv4 : Rv ((w.alloc (.cells (msC m vi vk vm vo).toArray 39)).alloc (.cells #[.int .i64 m.src, .int .i64 m.dst] 2)) 1 (.slice (some ⟨w.heap.size + 1, 0, none⟩) 2 2) 2 (ints [m.src, m.dst]) := Rv.new _ (ints [m.src, m.dst]) 2 1 2 2 rfl (by omega) (w.heap.size + 1) (by simp)
  refine (in_any 5 _ [m.src, m.dst] hv4 (by simp) b4 H4.out).mono ?_
  rintro e w5 ⟨rfl, rfl⟩
  clear hv4
  have hM4 := hM.alloc (.cells #[.int .i64 m.src, .int .i64 m.dst] 2)
  have K4 := K0.alloc (.cells #[.int .i64 m.src, .int .i64 m.dst] 2)
  have h4 := h0.alloc (.cells #[.int .i64 m.src, .int .i64 m.dst] 2)
  clear hM K0 h0 c0 c1 c2
  generalize (w.alloc (.cells (msC m vi vk vm vo).toArray 39)).alloc (.cells #[.int .i64 m.src, .int .i64 m.dst] 2) = w4 at *
  have hM := hM4
  have K0 := K4
  have h0 := h4
  clear hM4 K4 h4
  cases b4 with
  | false =>
    go_wp2_with fail
    go_ret
    exact ⟨by rw [HR.out]; unfold mayM headOk; rw [p1, p2, p3, ← H4.out]; rfl, K0⟩
  | true =>
  have c3 := msc_3 hM
  have c4 := msc_4 hM
  have c5 := msc_5 hM
  have c7 := msc_7 hM
  have c19 := msc_19 hM
  obtain ⟨b5, hb5⟩ : ∃ b, b = inB 1099511627776 [m.epoch, m.tick, m.seq, m.id, m.base] := ⟨_, rfl⟩
  have H5 := Lib.hid hb5
  clear hb5
  go_wp2_with fail
  have hv5 : Rv ((w4).alloc (.cells #[.int .i64 m.epoch, .int .i64 m.tick, .int .i64 m.seq, .int .i64 m.id, .int .i64 m.base] 2)) 1 (.slice (some ⟨w4.heap.size, 0, none⟩) 5 5) 5 (ints [m.epoch, m.tick, m.seq, m.id, m.base]) := Rv.new _ (ints [m.epoch, m.tick, m.seq, m.id, m.base]) 2 1 5 5 rfl (by omega) (w4.heap.size) (by simp)
  refine (in_any 1099511627776 _ [m.epoch, m.tick, m.seq, m.id, m.base] hv5 (by simp) b5 H5.out).mono ?_
  rintro e w5 ⟨rfl, rfl⟩
  clear hv5
  have hM5 := hM.alloc (.cells #[.int .i64 m.epoch, .int .i64 m.tick, .int .i64 m.seq, .int .i64 m.id, .int .i64 m.base] 2)
  have K5 := K0.alloc (.cells #[.int .i64 m.epoch, .int .i64 m.tick, .int .i64 m.seq, .int .i64 m.id, .int .i64 m.base] 2)
  have h5 := h0.alloc (.cells #[.int .i64 m.epoch, .int .i64 m.tick, .int .i64 m.seq, .int .i64 m.id, .int .i64 m.base] 2)
  clear hM K0 h0 c3 c4 c5 c7 c19
  generalize (w4).alloc (.cells #[.int .i64 m.epoch, .int .i64 m.tick, .int .i64 m.seq, .int .i64 m.id, .int .i64 m.base] 2) = w5 at *
  have hM := hM5
  have K0 := K5
  have h0 := h5
  clear hM5 K5 h5
  cases b5 with
  | false =>
    go_wp2_with fail
    go_ret
    exact ⟨by rw [HR.out]; unfold mayM headOk; rw [p1, p2, p3, ← H4.out, ← H5.out]; rfl, K0⟩
  | true =>
  have c6 := msc_6 hM
  obtain ⟨b6, hb6⟩ : ∃ b, b = inB 1073741824 [m.n] := ⟨_, rfl⟩
  have H6 := Lib.hid hb6
  clear hb6
  go_wp2_with fail
  have hv6 : Rv ((w5).alloc (.cells #[.int .i64 m.n] 2)) 1 (.slice (some ⟨w5.heap.size, 0, none⟩) 1 1) 1 (ints [m.n]) := Rv.new _ (ints [m.n]) 2 1 1 1 rfl (by omega) (w5.heap.size) (by simp)
  refine (in_any 1073741824 _ [m.n] hv6 (by simp) b6 H6.out).mono ?_
  rintro e w5 ⟨rfl, rfl⟩
  clear hv6
  have hM6 := hM.alloc (.cells #[.int .i64 m.n] 2)
  have K6 := K0.alloc (.cells #[.int .i64 m.n] 2)
  have h6 := h0.alloc (.cells #[.int .i64 m.n] 2)
  clear hM K0 h0 c6
  generalize (w5).alloc (.cells #[.int .i64 m.n] 2) = w6 at *
  have hM := hM6
  have K0 := K6
  have h0 := h6
  clear hM6 K6 h6
  cases b6 with
  | false =>
    go_wp2_with fail
    go_ret
    exact ⟨by rw [HR.out]; unfold mayM headOk; rw [p1, p2, p3, ← H4.out, ← H5.out, ← H6.out]; rfl, K0⟩
  | true =>
  have hh : headOk m = true := by unfold headOk; rw [p1, p2, p3, ← H4.out, ← H5.out, ← H6.out]; rfl
  clear p1 p2 p3 q1 q2 q3 g1 g2 g3 H4 H5 H6
  have c8 := msc_8 hM
  have c9 := msc_9 hM
  have c10 := msc_10 hM
  obtain ⟨b7, hb7⟩ : ∃ b, b = inB 2 [m.op] := ⟨_, rfl⟩
  have H7 := Lib.hid hb7
  clear hb7
  go_wp2_with fail
  have hv7 : Rv ((w6).alloc (.cells #[.int .i64 m.op] 2)) 1 (.slice (some ⟨w6.heap.size, 0, none⟩) 1 1) 1 (ints [m.op]) := Rv.new _ (ints [m.op]) 2 1 1 1 rfl (by omega) (w6.heap.size) (by simp)
  refine (in_any 2 _ [m.op] hv7 (by simp) b7 H7.out).mono ?_
  rintro e w5 ⟨rfl, rfl⟩
  clear hv7
  have hM7 := hM.alloc (.cells #[.int .i64 m.op] 2)
  have K7 := K0.alloc (.cells #[.int .i64 m.op] 2)
  have h7 := h0.alloc (.cells #[.int .i64 m.op] 2)
  clear hM K0 h0 c8 c9 c10
  generalize (w6).alloc (.cells #[.int .i64 m.op] 2) = w7 at *
  have hM := hM7
  have K0 := K7
  have h0 := h7
  clear hM7 K7 h7
  cases b7 with
  | false =>
    go_wp2_with fail
    go_ret
    exact ⟨by rw [HR.out]; unfold mayM midOk; rw [hh, ← H7.out]; rfl, K0⟩
  | true =>
  have c9 := msc_9 hM
  have c10 := msc_10 hM
  have hks := hz.key
  by_cases g8 : 40 < m.key.size
  · have q8 : decide (40 < (m.key.size : Int)) = true := decide_eq_true (by omega)
    have p8 : decide (m.key.size ≤ 40) = false := decide_eq_false (by omega)
    go_wp2_with fail
    go_ret
    exact ⟨by rw [HR.out]; unfold mayM midOk; rw [hh, ← H7.out, p8]; rfl, K0⟩
  have q8 : decide (40 < (m.key.size : Int)) = false := decide_eq_false (by omega)
  have p8 : decide (m.key.size ≤ 40) = true := decide_eq_true (by omega)
  obtain ⟨b9, hb9⟩ : ∃ b, b = inB 10 [m.err] := ⟨_, rfl⟩
  have H9 := Lib.hid hb9
  clear hb9
  go_wp2_with fail
  have hv9 : Rv ((w7).alloc (.cells #[.int .i64 m.err] 2)) 1 (.slice (some ⟨w7.heap.size, 0, none⟩) 1 1) 1 (ints [m.err]) := Rv.new _ (ints [m.err]) 2 1 1 1 rfl (by omega) (w7.heap.size) (by simp)
  refine (in_any 10 _ [m.err] hv9 (by simp) b9 H9.out).mono ?_
  rintro e w5 ⟨rfl, rfl⟩
  clear hv9
  have hM9 := hM.alloc (.cells #[.int .i64 m.err] 2)
  have K9 := K0.alloc (.cells #[.int .i64 m.err] 2)
  have h9 := h0.alloc (.cells #[.int .i64 m.err] 2)
  clear hM K0 h0 c9 c10
  generalize (w7).alloc (.cells #[.int .i64 m.err] 2) = w9 at *
  have hM := hM9
  have K0 := K9
  have h0 := h9
  clear hM9 K9 h9
  cases b9 with
  | false =>
    go_wp2_with fail
    go_ret
    exact ⟨by rw [HR.out]; unfold mayM midOk; rw [hh, ← H7.out, p8, ← H9.out]; rfl, K0⟩
  | true =>
  have hm : midOk m = true := by unfold midOk; rw [← H7.out, p8, ← H9.out]; rfl
  clear H7 H9 p8 q8 g8

  have c12 := msc_12 hM
  have c13 := msc_13 hM
  have c14 := msc_14 hM
  have c15 := msc_15 hM
  obtain ⟨bL, hbL⟩ : ∃ b, b = listsOk m := ⟨_, rfl⟩
  have HL := Lib.hid hbL
  clear hbL
  have hir : r = ((decide (m.it = it0) || mayIt m.it) && listsOk m) := by rw [HR.out]; unfold mayM; rw [hh, hm, Bool.true_and, Bool.true_and]
  have HIR := Lib.hid hir
  clear hir
  obtain ⟨hi1, hi2⟩ := hz.it
  by_cases hi0 : m.it = it0
  · have z1 : m.it.1.toList = [] := str_nil.2 (by rw [hi0]; rfl)
    have z2 : m.it.2.1.toList = [] := str_nil.2 (by rw [hi0]; rfl)
    have z3 : m.it.2.2.1 = 0 := by rw [hi0]; rfl
    have z4 : m.it.2.2.2 = false := by rw [hi0]; rfl
    have HI := Lib.hid (show decide (m.it = it0) = true from decide_eq_true hi0)
    clear hi0
    go_wp2_with (refine wpList_load_rowg 39 _ rfl w.heap.size rfl 39 (msC m vi vk vm vo).toArray (0, 0) _ hM Try.underlying39 rfl Try.sizeMsg (by rfl) ?_)
    refine (lists_any m vi vk vm vo h0 hz bL HL.out).mono ?_
    rintro e w5 ⟨rfl, k5⟩
    go_wp2_with fail
    go_ret
    have hfin : r = bL := by rw [HIR.out, HI.out, ← HL.out, Bool.true_or, Bool.true_and]
    exact ⟨by rw [hfin]; rfl, K0.trans k5⟩
  have HI := Lib.hid (show decide (m.it = it0) = false from decide_eq_false hi0)
  have HN := Lib.hid hi0
  clear hi0
  obtain ⟨bI, hbI⟩ : ∃ b, b = itMay m.it.1 m.it.2.1 m.it.2.2.1 m.it.2.2.2 := ⟨_, rfl⟩
  have HBI := Lib.hid hbI
  clear hbI
  by_cases z1 : m.it.1.toList = []
  case neg =>
      go_wp2_with fail
      refine (May_any m.it.1 m.it.2.1 m.it.2.2.1 m.it.2.2.2 hi1 hi2 bI HBI.out).mono ?_
      rintro e w5 ⟨rfl, k5⟩
      replace hM := hM.keep k5 (by simp)
      replace h0 := h0.keep k5
      replace K0 := K0.trans k5
      clear c12 c13 c14 c15 k5
      cases bI with
      | false =>
        go_wp2_with fail
        go_ret
        have hfin : r = false := by rw [HIR.out, HI.out, show mayIt m.it = false from HBI.out.symm, Bool.false_or, Bool.false_and]
        exact ⟨by rw [hfin]; rfl, K0⟩
      | true =>
        go_wp2_with (refine wpList_load_rowg 39 _ rfl w.heap.size rfl 39 (msC m vi vk vm vo).toArray (0, 0) _ hM Try.underlying39 rfl Try.sizeMsg (by rfl) ?_)
        refine (lists_any m vi vk vm vo h0 hz bL HL.out).mono ?_
        rintro e w6 ⟨rfl, k6⟩
        go_wp2_with fail
        go_ret
        have hfin : r = bL := by rw [HIR.out, HI.out, show mayIt m.it = true from HBI.out.symm, ← HL.out, Bool.false_or, Bool.true_and]
        exact ⟨by rw [hfin]; rfl, K0.trans k6⟩
  by_cases z2 : m.it.2.1.toList = []
  case neg =>
      go_wp2_with fail
      refine (May_any m.it.1 m.it.2.1 m.it.2.2.1 m.it.2.2.2 hi1 hi2 bI HBI.out).mono ?_
      rintro e w5 ⟨rfl, k5⟩
      replace hM := hM.keep k5 (by simp)
      replace h0 := h0.keep k5
      replace K0 := K0.trans k5
      clear c12 c13 c14 c15 k5
      cases bI with
      | false =>
        go_wp2_with fail
        go_ret
        have hfin : r = false := by rw [HIR.out, HI.out, show mayIt m.it = false from HBI.out.symm, Bool.false_or, Bool.false_and]
        exact ⟨by rw [hfin]; rfl, K0⟩
      | true =>
        go_wp2_with (refine wpList_load_rowg 39 _ rfl w.heap.size rfl 39 (msC m vi vk vm vo).toArray (0, 0) _ hM Try.underlying39 rfl Try.sizeMsg (by rfl) ?_)
        refine (lists_any m vi vk vm vo h0 hz bL HL.out).mono ?_
        rintro e w6 ⟨rfl, k6⟩
        go_wp2_with fail
        go_ret
        have hfin : r = bL := by rw [HIR.out, HI.out, show mayIt m.it = true from HBI.out.symm, ← HL.out, Bool.false_or, Bool.true_and]
        exact ⟨by rw [hfin]; rfl, K0.trans k6⟩
  by_cases z3 : m.it.2.2.1 = 0
  case neg =>
      go_wp2_with fail
      refine (May_any m.it.1 m.it.2.1 m.it.2.2.1 m.it.2.2.2 hi1 hi2 bI HBI.out).mono ?_
      rintro e w5 ⟨rfl, k5⟩
      replace hM := hM.keep k5 (by simp)
      replace h0 := h0.keep k5
      replace K0 := K0.trans k5
      clear c12 c13 c14 c15 k5
      cases bI with
      | false =>
        go_wp2_with fail
        go_ret
        have hfin : r = false := by rw [HIR.out, HI.out, show mayIt m.it = false from HBI.out.symm, Bool.false_or, Bool.false_and]
        exact ⟨by rw [hfin]; rfl, K0⟩
      | true =>
        go_wp2_with (refine wpList_load_rowg 39 _ rfl w.heap.size rfl 39 (msC m vi vk vm vo).toArray (0, 0) _ hM Try.underlying39 rfl Try.sizeMsg (by rfl) ?_)
        refine (lists_any m vi vk vm vo h0 hz bL HL.out).mono ?_
        rintro e w6 ⟨rfl, k6⟩
        go_wp2_with fail
        go_ret
        have hfin : r = bL := by rw [HIR.out, HI.out, show mayIt m.it = true from HBI.out.symm, ← HL.out, Bool.false_or, Bool.true_and]
        exact ⟨by rw [hfin]; rfl, K0.trans k6⟩
  by_cases z4 : m.it.2.2.2 = true
  case pos =>
      have HB4 : Hid (bI = itMay m.it.1 m.it.2.1 0 true) := Lib.hid (by have := HBI.out; rw [z3, z4] at this; exact this)
      go_wp2_with fail
      refine (May_any m.it.1 m.it.2.1 0 true hi1 hi2 bI HB4.out).mono ?_
      rintro e w5 ⟨rfl, k5⟩
      replace hM := hM.keep k5 (by simp)
      replace h0 := h0.keep k5
      replace K0 := K0.trans k5
      clear c12 c13 c14 c15 k5
      cases bI with
      | false =>
        go_wp2_with fail
        go_ret
        have hfin : r = false := by rw [HIR.out, HI.out, show mayIt m.it = false from HBI.out.symm, Bool.false_or, Bool.false_and]
        exact ⟨by rw [hfin]; rfl, K0⟩
      | true =>
        go_wp2_with (refine wpList_load_rowg 39 _ rfl w.heap.size rfl 39 (msC m vi vk vm vo).toArray (0, 0) _ hM Try.underlying39 rfl Try.sizeMsg (by rfl) ?_)
        refine (lists_any m vi vk vm vo h0 hz bL HL.out).mono ?_
        rintro e w6 ⟨rfl, k6⟩
        go_wp2_with fail
        go_ret
        have hfin : r = bL := by rw [HIR.out, HI.out, show mayIt m.it = true from HBI.out.symm, ← HL.out, Bool.false_or, Bool.true_and]
        exact ⟨by rw [hfin]; rfl, K0.trans k6⟩
  exact absurd (Prod.ext (tl_inj (z1.trans (str_nil.2 rfl).symm)) (Prod.ext (tl_inj (z2.trans (str_nil.2 rfl).symm)) (Prod.ext z3 (show m.it.2.2.2 = false by simpa using z4)))) HN.out
end Go.Proofs.Ytcoaobdijlppgaa
/- The contract of num.All. -/
namespace Go.Proofs.Ytcoaobdijlppgaa
open Go.ChangeShapes Go.WideShapes Go.ChangeAt Go.RowKit
set_option linter.unusedVariables false
set_option linter.unusedSimpArgs false
set_option maxRecDepth 100000

/-- A number into its place, if there is one. -/
def set1 (w : World) (p : Option Addr) (v : Int) : World := match p with | some a => w.setCell a (.int .i64 v) | none => w
def setAll (w : World) : List (Option Addr) → List Int → World
  | p :: ps, v :: vs => setAll (set1 w p v) ps vs
  | _, _ => w
theorem setAll_snoc (p : Option Addr) (v : Int) : ∀ (ps : List (Option Addr)) (vs : List Int) (w : World), ps.length = vs.length → setAll w (ps ++ [p]) (vs ++ [v]) = set1 (setAll w ps vs) p v := by
  intro ps
  induction ps with
  | nil => intro vs w h; have : vs = [] := List.eq_nil_of_length_eq_zero (by simpa using h.symm); subst this; rfl
  | cons q ps ih =>
    intro vs w h
    cases vs with
    | nil => simp at h
    | cons u vs => simp only [List.cons_append, setAll]; exact ih vs _ (by simpa using h)
theorem setAll_take : ∀ (ps : List (Option Addr)) (vs : List Int) (w : World), setAll w (ps.take vs.length) vs = setAll w ps vs := by
  intro ps
  induction ps with
  | nil => intro vs w; simp
  | cons p ps ih =>
    intro vs w
    cases vs with
    | nil => rfl
    | cons v vs => simp only [List.length_cons, List.take_succ_cons, setAll]; exact ih vs _
def ptrs (l : List (Option Addr)) : List Value := l.map Value.pointer
theorem ptrs_at (l : List (Option Addr)) (i : Nat) (h : i < l.length) : (ptrs l)[i]? = some (.pointer (l.getD i none)) := by
  simp [ptrs, List.getElem?_map, List.getD_eq_getElem?_getD, h]
def blocks (l : List (Option Addr)) : List Nat := l.filterMap fun p => p.map (·.block)
theorem setAll_keep (S : List Nat) : ∀ (ps : List (Option Addr)) (vs : List Int) (w w' : World), Keep S w w' → (∀ b ∈ blocks ps, b ∈ S) → Keep S w (setAll w' ps vs) := by
  intro ps
  induction ps with
  | nil => intro vs w w' h _; cases vs <;> exact h
  | cons p ps ih =>
    intro vs w w' h hb
    cases vs with
    | nil => exact h
    | cons v vs =>
      simp only [setAll]
      cases p with
      | none => exact ih vs w _ h (by simpa [blocks] using hb)
      | some a => exact ih vs w _ (h.setCell (.inl (hb _ (by simp [blocks]))) _) (fun b hx => hb b (by simp only [blocks, List.filterMap_cons, Option.map_some] at hx ⊢; exact List.mem_cons_of_mem _ hx))
theorem setAll_there (a : Addr) : ∀ (ps : List (Option Addr)) (vs : List Int) (w : World), (∃ v, w.cell? a = some v) ∧ w.frozen? a = false → (∃ v, (setAll w ps vs).cell? a = some v) ∧ (setAll w ps vs).frozen? a = false := by
  intro ps
  induction ps with
  | nil => intro vs w h; cases vs <;> exact h
  | cons p ps ih =>
    intro vs w h
    cases vs with
    | nil => exact h
    | cons v vs =>
      simp only [setAll]
      apply ih
      cases p with
      | none => exact h
      | some b =>
        obtain ⟨⟨u, hu⟩, hf⟩ := h
        exact ⟨cell?_setCell_some hu, by simp only [set1]; rw [World.frozen?_setCell]; exact hf⟩

/-- So many numbers read off bytes: them (as many as could be), how many bytes, the error. -/
def getMany (l : List Nat) : Nat → List Int × Nat × Nat
  | 0 => ([], 0, 0)
  | m + 1 => if (get l).2.2 ≠ 0 then ([], 0, (get l).2.2) else
    ((get l).1 :: (getMany (l.drop (get l).2.1) m).1, if (getMany (l.drop (get l).2.1) m).2.2 ≠ 0 then 0 else (get l).2.1 + (getMany (l.drop (get l).2.1) m).2.1, (getMany (l.drop (get l).2.1) m).2.2)
def after (vals : List Int) (pos : Nat) (r : List Int × Nat × Nat) : List Int × Nat × Nat := (vals ++ r.1, if r.2.2 ≠ 0 then 0 else pos + r.2.1, r.2.2)
theorem after_nil (l : List Nat) (m : Nat) : getMany l m = after [] 0 (getMany l m) := by
  have key : ∀ m l, (getMany l m).2.2 ≠ 0 → (getMany l m).2.1 = 0 := by
    intro m
    cases m with
    | zero => intro l h; simp [getMany] at h
    | succ m =>
      intro l h
      unfold getMany at h ⊢
      split
      · rfl
      · rename_i h0
        simp only [h0, if_false] at h
        simp only [h, if_true, ne_eq, not_false_eq_true]
  unfold after
  by_cases h : (getMany l m).2.2 ≠ 0
  · simp only [h, if_true, List.nil_append, ne_eq, not_false_eq_true]
    rw [← key m l h]
  · simp only [h, if_false, List.nil_append, Nat.zero_add]
theorem after_step (vals : List Int) (pos : Nat) (l : List Nat) (m : Nat) (h : (get l).2.2 = 0) : after vals pos (getMany l (m + 1)) = after (vals ++ [(get l).1]) (pos + (get l).2.1) (getMany (l.drop (get l).2.1) m) := by
  unfold after
  simp only [getMany, h, ne_eq, not_true_eq_false, if_false, List.append_assoc, List.singleton_append]
  by_cases h2 : (getMany (l.drop (get l).2.1) m).2.2 = 0
  · simp only [h2, not_true_eq_false, if_false, Nat.add_assoc]
  · simp only [h2, not_false_eq_true, if_true]
theorem after_err (vals : List Int) (pos : Nat) (l : List Nat) (m : Nat) (h : (get l).2.2 ≠ 0) : after vals pos (getMany l (m + 1)) = (vals, 0, (get l).2.2) := by
  unfold after
  simp only [getMany, h, ne_eq, not_false_eq_true, if_true, List.append_nil]

def GotAll (w : World) (ps : List (Option Addr)) (r : List Int × Nat × Nat) (e : Ending) (w' : World) : Prop := e = .returned (.tuple #[.int .i64 (r.2.1 : Int), .int .i64 (r.2.2 : Int)]) ∧ w' = setAll w ps r.1

set_option maxHeartbeats 1000000 in
theorem All_any {w : World} (v pv : Value) (l : List Nat) (ps : List (Option Addr)) (h : Rd w v l) (hp : Rv w 1 pv ps.length (ptrs ps)) (hb : ∀ c ∈ l, c < 256) (hl : l.length ≤ 4611686018427387904) (hpl : ps.length ≤ 1000)
    (hc : ∀ a, some a ∈ ps → (∃ u, w.cell? a = some u) ∧ w.frozen? a = false) (hs1 : ∀ b, v.ownBlock = some b → 0 < l.length → b ∉ blocks ps) (hs2 : ∀ b, pv.ownBlock = some b → b ∉ blocks ps)
    (r : List Int × Nat × Nat) (hr : r = getMany l ps.length) :
    Calls Try.prog 41 #[v, pv] w (GotAll w ps r) := by
  have h2 := h
  have hp2 := hp
  obtain ⟨_, a, cap, rfl, hcap, h3⟩ := h
  obtain ⟨_, a2, cap2, rfl, hcap2, _⟩ := hp
  have HR := Lib.hid hr
  clear hr
  obtain ⟨i0, hi, hz0, hz1, hz2⟩ := info_parts Try.info8
  go_enter Try.func41, Try.ntmps41
  go_wp2_with fail
  go_loopw [6, 14] (fun p i wr => ∃ (k pos : Nat) (vals : List Int), k ≤ ps.length ∧ pos ≤ l.length ∧ i = .int .i64 k ∧ p = .int .i64 pos ∧ vals.length = k ∧ wr = setAll w (ps.take k) vals ∧ getMany l ps.length = after vals pos (getMany (l.drop pos) (ps.length - k))) (fun _ i _ => ps.length - (intOf i).toNat)
  case atStart => exact ⟨0, 0, [], by omega, by omega, rfl, rfl, rfl, by cases ps <;> rfl, by simpa using after_nil l ps.length⟩
  case round =>
    obtain ⟨k, pos, vals, hk, hpos, rfl, rfl, hvl, hw, hE⟩ := hrel
    by_cases hlt : k < ps.length
    · obtain ⟨sb0, so, cap3, he, _, hsb, hat⟩ := hp2.at1 (by omega)
      simp only [Value.slice.injEq] at he
      obtain ⟨rfl, _, rfl⟩ := he
      have hbk : ∀ b ∈ blocks (ps.take k), b ∈ blocks ps := by
        intro b hx
        unfold blocks at hx ⊢
        obtain ⟨p, hp, hpb⟩ := List.mem_filterMap.1 hx
        exact List.mem_filterMap.2 ⟨p, List.mem_of_mem_take hp, hpb⟩
      have hkeep : Keep (blocks ps) w wr := by rw [hw]; exact setAll_keep _ _ _ _ _ (Keep.refl _ _) hbk
      have g4 : wr.cell? ⟨sb0, so + k, none⟩ = some (.pointer (ps.getD k none)) := by
        rw [hkeep.cell hsb (hs2 sb0 rfl), hat k hlt, ptrs_at ps k hlt]
      have hwr : Rd wr (.slice a l.length cap) l := h2.keep0 hkeep (fun b hb' hp => hs1 b hb' hp)
      have hpk : ∀ a, ps.getD k none = some a → (∃ u, wr.cell? a = some u) ∧ wr.frozen? a = false := by
        intro a ha
        rw [hw]
        refine setAll_there a _ _ w (hc a ?_)
        rw [← ha]; simp [List.getD_eq_getElem?_getD, hlt]
      have hlow : (l.drop pos).length = l.length - pos := by simp
      have hbd : ∀ c ∈ l.drop pos, c < 256 := fun c hc => hb c (List.mem_of_mem_drop hc)
      obtain ⟨P, hP⟩ : ∃ P, P = ps.getD k none := ⟨_, rfl⟩
      rw [← hP] at g4 hpk
      have hf := getGo_facts (l.drop pos) 0 0 (by omega) (by simp) hbd
      have hG : get (l.drop pos) = getGo (l.drop pos) 0 0 := rfl
      rw [← hG] at hf
      have hm : ps.length - k = (ps.length - (k + 1)) + 1 := by omega
      rw [hm] at hE
      obtain ⟨G, hGG⟩ : ∃ G, G = get (l.drop pos) := ⟨_, rfl⟩
      have hstep := after_step vals pos (l.drop pos) (ps.length - (k + 1))
      have herr := after_err vals pos (l.drop pos) (ps.length - (k + 1))
      rw [← hGG] at hf hstep herr
      rw [List.drop_drop] at hstep
      have hsn : setAll w (ps.take (k + 1)) (vals ++ [G.1]) = set1 (setAll w (ps.take k) vals) P G.1 := by
        rw [take_succ_getD ps none k hlt, setAll_snoc _ _ _ _ _ (by rw [List.length_take]; omega), hP]
      have HE := Lib.hid hE
      have HGG := Lib.hid hGG
      have HW := Lib.hid hw
      have HP := Lib.hid hP
      have HSN := Lib.hid hsn
      have HST := Lib.hid hstep
      have HER := Lib.hid herr
      have HL := Lib.hid hlow
      have q1 : (k : Int) < ps.length := by omega
      clear hE hGG hw hP hsn hstep herr hlow hat hp2 h2 h3 hc hb hG hm
      obtain ⟨n, kk, ee⟩ := G
      simp only at hf
      go_wp2_with (refine wpList_slice_lo _ _ _ _ _ _ _ 5 i0 Try.underlying70 hi hz1 _ _ _ _ pos rfl rfl rfl hwr hpos ?_; intro v1 hv1 ho1)
      have hv2 : Rd wr v1 (l.drop pos) := by unfold Rd; rw [HL.out]; unfold bcs at hv1 ⊢; rw [List.map_drop]; exact hv1
      refine (Get_any v1 (l.drop pos) hv2 hbd (by rw [HL.out]; omega) (n, kk, ee) HGG.out).mono ?_
      rintro e w' ⟨rfl, rfl⟩
      rcases hf with ⟨rfl, hk0, hkl, hk10, hn0, hn1⟩ | ⟨he, he2, rfl, rfl⟩
      · have hkl2 : kk ≤ l.length - pos := by have := HL.out; omega
        cases P with
        | none =>
          go_wp2_with fail
          go_roundw
          case rel =>
            refine ⟨k + 1, pos + kk, vals ++ [n], by omega, by omega, by go_num, by go_num, by simp; omega, ?_, ?_⟩
            · rw [HSN.out, HW.out]; rfl
            · rw [HE.out, HST.out (by trivial)]
          case measure => simp [intOf]; omega
        | some a =>
          obtain ⟨⟨u, hu⟩, hfz⟩ := hpk a rfl
          clear hpk
          go_wp2_with fail
          go_roundw
          case rel =>
            refine ⟨k + 1, pos + kk, vals ++ [n], by omega, by omega, by go_num, by go_num, by simp; omega, ?_, ?_⟩
            · rw [HSN.out, HW.out]; rfl
            · rw [HE.out, HST.out (by trivial)]
          case measure => simp [intOf]; omega
      · have q2 : ((ee : Int) != 0) = true := by simp; omega
        go_wp2_with fail
        go_ret2
        have hE2 : getMany l ps.length = (vals, 0, ee) := by rw [HE.out, HER.out he]
        refine ⟨by rw [HR.out, hE2]; rfl, ?_⟩
        rw [HR.out, hE2, HW.out, ← hvl]
        exact setAll_take ps vals w
    · obtain rfl : k = ps.length := by omega
      go_wp2_with fail
      go_ret2
      rw [Nat.sub_self] at hE
      have hE2 : getMany l ps.length = (vals, pos, 0) := by rw [hE]; simp [after, getMany]
      refine ⟨by rw [HR.out, hE2]; rfl, ?_⟩
      rw [HR.out, hE2]
end Go.Proofs.Ytcoaobdijlppgaa
/- The contracts of package clock: Now, Since, Tick over a clock's cell. No condition beyond what a clock always holds. -/
namespace Go.Proofs.Ytcoaobdijlppgaa
open Go.ChangeShapes Go.WideShapes Go.ChangeAt Go.RowKit
set_option linter.unusedVariables false
set_option linter.unusedSimpArgs false
set_option maxRecDepth 100000

def tick1 (n x : Int) : Int := if 0 ≤ x ∧ x ≤ 1099511627776 - n then n + x else n
def tickAll (n : Int) (l : List Int) : Int := l.foldl tick1 n
theorem tick1_bd (n x : Int) (h0 : 0 ≤ n) (h1 : n ≤ 1099511627776) : 0 ≤ tick1 n x ∧ tick1 n x ≤ 1099511627776 := by
  unfold tick1; split <;> omega
theorem tickAll_bd (l : List Int) : ∀ (n : Int), 0 ≤ n → n ≤ 1099511627776 → 0 ≤ tickAll n l ∧ tickAll n l ≤ 1099511627776 := by
  induction l with
  | nil => intro n h0 h1; exact ⟨h0, h1⟩
  | cons x l ih => intro n h0 h1; have := tick1_bd n x h0 h1; exact ih _ this.1 this.2
theorem tickAll_snoc (n : Int) (l : List Int) (x : Int) : tickAll n (l ++ [x]) = tick1 (tickAll n l) x := by simp [tickAll]

/-- Block b is a clock at n. -/
structure IsClock (w : World) (b : Nat) (n : Int) : Prop where
  blk : Blk w b [.int .i64 n] 54
  lo : 0 ≤ n
  hi : n ≤ 1099511627776
theorem IsClock.keep {S : List Nat} {w w' : World} {b : Nat} {n : Int} (h : IsClock w b n) (k : Keep S w w') (hn : b ∉ S) : IsClock w' b n := ⟨h.blk.keep k hn, h.lo, h.hi⟩

theorem now_any {b : Nat} {n : Int} {w : World} (h : IsClock w b n) :
    Calls Try.prog 42 #[.pointer (some ⟨b, 0, none⟩)] w fun e w' => e = .returned (.int .i64 n) ∧ w = w' := by
  have hc := h.blk.cell 0
  clear h
  go_enter Try.func42, Try.ntmps42
  go_wp2
  go_ret
  exact ⟨rfl, rfl⟩

def since (n t : Int) : Int := if t < 0 ∨ n < t then 0 else n - t

theorem since_any {b : Nat} {n : Int} {w : World} (t : Int) (h : IsClock w b n) (m : Int) (hm : m = since n t) :
    Calls Try.prog 55 #[.pointer (some ⟨b, 0, none⟩), .int .i64 t] w fun e w' => e = .returned (.int .i64 m) ∧ w = w' := by
  subst hm
  have hc := h.blk.cell 0
  obtain ⟨_, h0, h1⟩ := h
  unfold since
  by_cases h2 : t < 0
  · go_enter Try.func55, Try.ntmps55
    go_wp2
    go_ret
    exact ⟨by simp [h2], rfl⟩
  · by_cases h3 : n < t
    all_goals
      go_enter Try.func55, Try.ntmps55
      go_wp2
      go_ret
      exact ⟨by simp [h2, h3], rfl⟩

/-- What Tick is handed: nil, or a row of numbers that is not the clock itself. -/
def Row64 (w : World) (b : Nat) (v : Value) (zs : List Int) : Prop :=
  (v = .slice none 0 0 ∧ zs = []) ∨ ∃ sb so cap, v = .slice (some ⟨sb, so, none⟩) zs.length cap ∧ sb ≠ b ∧ zs.length ≤ 9223372036854775807 ∧ ∀ i, i < zs.length → w.cell? ⟨sb, so + i, none⟩ = some (.int .i64 (zs.getD i 0))

def Ticked (b : Nat) (m : Int) (w : World) (e : Ending) (w' : World) : Prop := e = .returned (.int .i64 m) ∧ IsClock w' b m ∧ Keep [b] w w'

set_option maxHeartbeats 400000 in
theorem tick_some {b : Nat} {n : Int} {w : World} (sb so cap : Nat) (zs : List Int) (h : IsClock w b n) (hne : sb ≠ b)
    (hz : ∀ i, i < zs.length → w.cell? ⟨sb, so + i, none⟩ = some (.int .i64 (zs.getD i 0))) (hl : 0 < zs.length) (hm : zs.length ≤ 9223372036854775807) :
    Calls Try.prog 24 #[.pointer (some ⟨b, 0, none⟩), .slice (some ⟨sb, so, none⟩) zs.length cap] w (Ticked b (tickAll n zs) w) := by
  go_enter Try.func24, Try.ntmps24
  go_wp2
  go_loopw [15] (fun i wr => ∃ k : Nat, k ≤ zs.length ∧ i = .int .i64 k ∧ IsClock wr b (tickAll n (zs.take k)) ∧ Keep [b] w wr) (fun i _ => zs.length - (intOf i).toNat)
  case atStart => exact ⟨0, Nat.zero_le _, rfl, h, Keep.refl _ _⟩
  case round =>
    obtain ⟨k, hk, rfl, hw, hkeep⟩ := hrel
    obtain ⟨hw1, b1, b2⟩ := hw
    have g1 := hw1.cell 0
    have g3 := hw1.free 0
    simp only [List.getElem?_cons_zero] at g1
    by_cases hlt : k < zs.length
    · have g4 : wr.cell? ⟨sb, so + k, none⟩ = some (.int .i64 (zs.getD k 0)) := by
        rw [← hz k hlt]
        have hs : sb < w.heap.size := by
          rcases Nat.lt_or_ge sb w.heap.size with h' | h'
          · exact h'
          · have := hz k hlt; simp [World.cell?, Array.getElem?_eq_none h'] at this
        exact hkeep.cell hs (by simpa using hne)
      have st := tickAll_snoc n (zs.take k) (zs.getD k 0)
      rw [← take_succ_getD _ _ _ hlt] at st
      have ST := Lib.hid st
      have HK := Lib.hid hkeep
      have HW := Lib.hid hw1
      clear st hz hkeep hw1 h
      generalize tickAll n (zs.take k) = m at *
      generalize zs.getD k 0 = x at *
      have hk1 : (k : Int) < zs.length := by omega
      have bd := tick1_bd m x b1 b2
      by_cases h5 : 0 ≤ x
      · by_cases h6 : x ≤ 1099511627776 - m
        · go_wp2
          go_roundw
          case rel => exact ⟨k + 1, by omega, by go_num, by rw [ST.out]; unfold tick1 at *; simp only [h5, h6, and_self, if_true] at *; exact ⟨HW.out.set 0 _, by omega, by omega⟩, HK.out.setCell (by simp) _⟩
          case measure => simp [intOf]; omega
        · go_wp2
          go_roundw
          case rel => exact ⟨k + 1, by omega, by go_num, by rw [ST.out]; simp only [tick1, h6, and_false, if_false]; exact ⟨HW.out, b1, b2⟩, HK.out⟩
          case measure => simp [intOf]; omega
      · go_wp2
        go_roundw
        case rel => exact ⟨k + 1, by omega, by go_num, by rw [ST.out]; simp only [tick1, h5, false_and, if_false]; exact ⟨HW.out, b1, b2⟩, HK.out⟩
        case measure => simp [intOf]; omega
    · go_wp2
      go_ret
      obtain rfl : k = zs.length := by omega
      rw [List.take_length] at *
      exact ⟨rfl, ⟨hw1, b1, b2⟩, hkeep⟩

theorem tick_none {b : Nat} {n : Int} {w : World} (a : Option Addr) (cap : Nat) (h : IsClock w b n) (m : Int) (hn : m = tickAll n [1]) :
    Calls Try.prog 24 #[.pointer (some ⟨b, 0, none⟩), .slice a 0 cap] w (Ticked b m w) := by
  subst hn
  have hlt := h.blk.lt
  have hb := h.blk
  obtain ⟨_, h0, h1⟩ := h
  have g1 := hb.cell 0
  have g2 := hb.free 0
  have HB := Lib.hid hb
  clear hb
  simp only [List.getElem?_cons_zero] at g1
  by_cases h6 : 1 ≤ 1099511627776 - n
  · have e : tickAll n [1] = n + 1 := by simp [tickAll, tick1]; omega
    rw [e]
    clear e
    go_enter Try.func24, Try.ntmps24
    go_wp2
    go_rounds 2
    go_ret
    exact ⟨rfl, ⟨(HB.out.set 0 _).alloc _, by omega, by omega⟩, ((Keep.refl _ _).setCell (by simp) _).alloc _⟩
  · have e : tickAll n [1] = n := by simp [tickAll, tick1]; omega
    rw [e]
    clear e
    go_enter Try.func24, Try.ntmps24
    go_wp2
    go_rounds 2
    go_ret
    exact ⟨rfl, ⟨(HB.out.alloc _), by omega, by omega⟩, ((Keep.refl _ _).alloc _)⟩

/-- no clock -/
theorem tick_nil (v : Value) (w : World) :
    Calls Try.prog 24 #[.pointer none, v] w fun e w' => e = .returned (.int .i64 0) ∧ w = w' := by
  go_enter Try.func24, Try.ntmps24
  go_wp2
  go_ret
  exact ⟨rfl, rfl⟩
theorem now_nil (w : World) :
    Calls Try.prog 42 #[.pointer none] w fun e w' => e = .returned (.int .i64 0) ∧ w = w' := by
  go_enter Try.func42, Try.ntmps42
  go_wp2
  go_ret
  exact ⟨rfl, rfl⟩
theorem since_nil (w : World) (t : Int) :
    Calls Try.prog 55 #[.pointer none, .int .i64 t] w fun e w' => e = .returned (.int .i64 0) ∧ w = w' := by
  by_cases h2 : t < 0
  · go_enter Try.func55, Try.ntmps55
    go_wp2
    go_ret
    exact ⟨rfl, rfl⟩
  · by_cases h3 : 0 < t
    · go_enter Try.func55, Try.ntmps55
      go_wp2
      go_ret
      exact ⟨rfl, rfl⟩
    · obtain rfl : t = 0 := by omega
      go_enter Try.func55, Try.ntmps55
      go_wp2
      go_ret
      exact ⟨rfl, rfl⟩

/-- Tick of one, two, three numbers written in the text: the slice is the caller's new block. -/
theorem tick_lit {b : Nat} {n : Int} {w : World} (sb cap : Nat) (zs : List Int) (T : TypeId) (h : IsClock w b n) (hne : sb ≠ b)
    (hz : Blk w sb (zs.map (Value.int .i64)) T) (hl : 0 < zs.length) (hm : zs.length ≤ 9223372036854775807) (k : Nat) (hk : k = zs.length) (m : Int) (hn : m = tickAll n zs) :
    Calls Try.prog 24 #[.pointer (some ⟨b, 0, none⟩), .slice (some ⟨sb, 0, none⟩) k cap] w (Ticked b m w) := by
  subst hk hn
  refine tick_some sb 0 cap zs h hne ?_ hl hm
  intro i hi
  have := hz.cell i
  simp only [Nat.zero_add, this, List.getElem?_map]
  simp [List.getD_eq_getElem?_getD, hi]
end Go.Proofs.Ytcoaobdijlppgaa
