/- Package msg: lists, May. -/
import Derived.Test.YtonghelcfbjknaaMsgIn
namespace Go.Proofs.Ytonghelcfbjknaa
open Go.ChangeShapes Go.WideShapes Go.ChangeAt Go.RowKit
set_option linter.unusedVariables false
set_option linter.unusedSimpArgs false

theorem msc_0 {w : World} {b : Nat} {m : Ms} {vi vk vm vo : Value} {T : TypeId} (h : Blk w b (msC m vi vk vm vo) T) : w.cell? ⟨b, 0, none⟩ = some (.int .i64 m.kind) := h.cell 0
theorem msc_1 {w : World} {b : Nat} {m : Ms} {vi vk vm vo : Value} {T : TypeId} (h : Blk w b (msC m vi vk vm vo) T) : w.cell? ⟨b, 1, none⟩ = some (.int .i64 m.src) := h.cell 1
theorem msc_2 {w : World} {b : Nat} {m : Ms} {vi vk vm vo : Value} {T : TypeId} (h : Blk w b (msC m vi vk vm vo) T) : w.cell? ⟨b, 2, none⟩ = some (.int .i64 m.dst) := h.cell 2
theorem msc_3 {w : World} {b : Nat} {m : Ms} {vi vk vm vo : Value} {T : TypeId} (h : Blk w b (msC m vi vk vm vo) T) : w.cell? ⟨b, 3, none⟩ = some (.int .i64 m.epoch) := h.cell 3
theorem msc_4 {w : World} {b : Nat} {m : Ms} {vi vk vm vo : Value} {T : TypeId} (h : Blk w b (msC m vi vk vm vo) T) : w.cell? ⟨b, 4, none⟩ = some (.int .i64 m.tick) := h.cell 4
theorem msc_5 {w : World} {b : Nat} {m : Ms} {vi vk vm vo : Value} {T : TypeId} (h : Blk w b (msC m vi vk vm vo) T) : w.cell? ⟨b, 5, none⟩ = some (.int .i64 m.seq) := h.cell 5
theorem msc_6 {w : World} {b : Nat} {m : Ms} {vi vk vm vo : Value} {T : TypeId} (h : Blk w b (msC m vi vk vm vo) T) : w.cell? ⟨b, 6, none⟩ = some (.int .i64 m.n) := h.cell 6
theorem msc_7 {w : World} {b : Nat} {m : Ms} {vi vk vm vo : Value} {T : TypeId} (h : Blk w b (msC m vi vk vm vo) T) : w.cell? ⟨b, 7, none⟩ = some (.int .i64 m.id) := h.cell 7
theorem msc_8 {w : World} {b : Nat} {m : Ms} {vi vk vm vo : Value} {T : TypeId} (h : Blk w b (msC m vi vk vm vo) T) : w.cell? ⟨b, 8, none⟩ = some (.int .i64 m.op) := h.cell 8
theorem msc_9 {w : World} {b : Nat} {m : Ms} {vi vk vm vo : Value} {T : TypeId} (h : Blk w b (msC m vi vk vm vo) T) : w.cell? ⟨b, 9, none⟩ = some (.string m.key) := h.cell 9
theorem msc_10 {w : World} {b : Nat} {m : Ms} {vi vk vm vo : Value} {T : TypeId} (h : Blk w b (msC m vi vk vm vo) T) : w.cell? ⟨b, 10, none⟩ = some (.int .i64 m.err) := h.cell 10
theorem msc_11 {w : World} {b : Nat} {m : Ms} {vi vk vm vo : Value} {T : TypeId} (h : Blk w b (msC m vi vk vm vo) T) : w.cell? ⟨b, 11, none⟩ = some (.bool m.last) := h.cell 11
theorem msc_12 {w : World} {b : Nat} {m : Ms} {vi vk vm vo : Value} {T : TypeId} (h : Blk w b (msC m vi vk vm vo) T) : w.cell? ⟨b, 12, none⟩ = some (.string m.it.1) := h.cell 12
theorem msc_13 {w : World} {b : Nat} {m : Ms} {vi vk vm vo : Value} {T : TypeId} (h : Blk w b (msC m vi vk vm vo) T) : w.cell? ⟨b, 13, none⟩ = some (.string m.it.2.1) := h.cell 13
theorem msc_14 {w : World} {b : Nat} {m : Ms} {vi vk vm vo : Value} {T : TypeId} (h : Blk w b (msC m vi vk vm vo) T) : w.cell? ⟨b, 14, none⟩ = some (.int .i64 m.it.2.2.1) := h.cell 14
theorem msc_15 {w : World} {b : Nat} {m : Ms} {vi vk vm vo : Value} {T : TypeId} (h : Blk w b (msC m vi vk vm vo) T) : w.cell? ⟨b, 15, none⟩ = some (.bool m.it.2.2.2) := h.cell 15
theorem msc_16 {w : World} {b : Nat} {m : Ms} {vi vk vm vo : Value} {T : TypeId} (h : Blk w b (msC m vi vk vm vo) T) : w.cell? ⟨b, 16, none⟩ = some (vi) := h.cell 16
theorem msc_17 {w : World} {b : Nat} {m : Ms} {vi vk vm vo : Value} {T : TypeId} (h : Blk w b (msC m vi vk vm vo) T) : w.cell? ⟨b, 17, none⟩ = some (vk) := h.cell 17
theorem msc_18 {w : World} {b : Nat} {m : Ms} {vi vk vm vo : Value} {T : TypeId} (h : Blk w b (msC m vi vk vm vo) T) : w.cell? ⟨b, 18, none⟩ = some (vm) := h.cell 18
theorem msc_19 {w : World} {b : Nat} {m : Ms} {vi vk vm vo : Value} {T : TypeId} (h : Blk w b (msC m vi vk vm vo) T) : w.cell? ⟨b, 19, none⟩ = some (.int .i64 m.base) := h.cell 19
theorem msc_20 {w : World} {b : Nat} {m : Ms} {vi vk vm vo : Value} {T : TypeId} (h : Blk w b (msC m vi vk vm vo) T) : w.cell? ⟨b, 20, none⟩ = some (vo) := h.cell 20
def mkc (x : Mk) : List Value := [.int .i64 x.1, .string x.2]
def kc (l : List Mk) : List Value := (l.map mkc).flatten
theorem kc_len (l : List Mk) : (kc l).length = l.length * 2 := flatten_len mkc 2 (fun _ => rfl) l
theorem kc_snoc (l : List Mk) (y : Mk) : kc (l ++ [y]) = kc l ++ mkc y := by simp [kc]
theorem kc_one (l : List Mk) : ∀ u ∈ kc l, u.oneCell' = true := by
  intro u hu
  obtain ⟨c, hc, hu⟩ := List.mem_flatten.1 hu
  obtain ⟨y, _, rfl⟩ := List.mem_map.1 hc
  simp only [mkc, List.mem_cons, List.not_mem_nil, or_false] at hu
  rcases hu with rfl | rfl <;> rfl
abbrev KRd (w : World) (v : Value) (l : List Mk) : Prop := Rv w 2 v l.length (kc l)
theorem mks_at {w : World} {v : Value} {l : List Mk} (h : KRd w v l) (hl : 0 < l.length) : ∃ sb so cap, v = .slice (some ⟨sb, so, none⟩) l.length cap ∧
    ∀ i, i < l.length → w.cell? ⟨sb, so + i * 2, none⟩ = some (.int .i64 (l.getD i mk0).1) ∧ w.cell? ⟨sb, so + i * 2 + 1, none⟩ = some (.string (l.getD i mk0).2) := by
  have hfl := kc_len l
  obtain ⟨hln, a, cap, rfl, hc, hh⟩ := h
  obtain ⟨sb, so, rfl, hs, hat⟩ := hh (by rw [hfl]; omega)
  refine ⟨sb, so, cap, rfl, fun i hi => ?_⟩
  have hf : ∀ j, j < 2 → w.cell? ⟨sb, so + (i * 2 + j), none⟩ = (mkc (l.getD i mk0))[j]? := by
    intro j hj
    rw [hat _ (by rw [hfl]; omega)]
    unfold kc
    rw [flatten_at mkc 2 (fun _ => rfl) l i j hj, List.getElem?_eq_getElem hi, List.getD_eq_getElem?_getD, List.getElem?_eq_getElem hi]
    rfl
  refine ⟨hf 0 (by omega), ?_⟩
  rw [Nat.add_assoc]
  exact hf 1 (by omega)
structure MsRd (w : World) (m : Ms) (vi vk vm vo : Value) : Prop where
  its : IRd w vi m.its
  mks : KRd w vk m.mks
  mem : Rv w 1 vm m.mem.length (ints m.mem)
  old : Rv w 1 vo m.old.length (ints m.old)
theorem MsRd.keep {w w' : World} {m : Ms} {vi vk vm vo : Value} (h : MsRd w m vi vk vm vo) (k : Keep [] w w') : MsRd w' m vi vk vm vo :=
  ⟨h.its.keep k (by simp), h.mks.keep k (by simp), h.mem.keep k (by simp), h.old.keep k (by simp)⟩
theorem MsRd.alloc {w : World} {m : Ms} {vi vk vm vo : Value} (h : MsRd w m vi vk vm vo) (o : Obj) : MsRd (w.alloc o) m vi vk vm vo := h.keep ((Keep.refl _ _).alloc o)
structure MsSz (m : Ms) : Prop where
  key : m.key.size ≤ 9223372036854775807
  it : m.it.1.size ≤ 9223372036854775807 ∧ m.it.2.1.size ≤ 9223372036854775807
  its : ∀ y ∈ m.its, y.1.size ≤ 9223372036854775807 ∧ y.2.1.size ≤ 9223372036854775807
  mks : ∀ y ∈ m.mks, y.2.size ≤ 9223372036854775807
  itsn : m.its.length ≤ 1000000
  mksn : m.mks.length ≤ 1000000
  memn : m.mem.length ≤ 1000000
  oldn : m.old.length ≤ 1000000
theorem mksOk_false {l : List Mk} {j : Nat} (hj : j < l.length) (h : ¬ mkAt l j) : mksOk l = false := by
  unfold mksOk
  exact decide_eq_false (fun hh => h (hh j hj))
theorem mksOk_true {l : List Mk} (h : ∀ j, j < l.length → mkAt l j) : mksOk l = true := by
  unfold mksOk
  exact decide_eq_true h
theorem lists_mks {m : Ms} (h : mksOk m.mks = false) : listsOk m = false := by unfold listsOk; rw [h]; rfl
theorem lists_its {m : Ms} {j : Nat} {y : It} (hy : m.its[j]? = some y) (h : mayIt y = false) : listsOk m = false := by
  unfold listsOk
  have : m.its.all mayIt = false := by
    rw [List.all_eq_false]
    exact ⟨y, List.mem_of_getElem? hy, by rw [h]; decide⟩
  rw [this, Bool.false_and, Bool.and_false]
set_option maxHeartbeats 8000000 in
theorem lists_any {w : World} (m : Ms) (vi vk vm vo : Value) (h : MsRd w m vi vk vm vo) (hz : MsSz m) (r : Bool) (hr : r = listsOk m) :
    Calls Try.prog 23 #[msV m vi vk vm vo] w fun e w' => e = .returned (.bool r) ∧ Keep [] w w' := by
  have HR := Lib.hid hr
  clear hr
  have hM := Blk.new w (msC m vi vk vm vo) 29
  have h0 := h.alloc (.cells (msC m vi vk vm vo).toArray 29)
  have K0 := (Keep.refl [] w).alloc (.cells (msC m vi vk vm vo).toArray 29)
  have c14 := msc_17 hM
  have c13 := msc_16 hM
  have hn1 := hz.mksn
  have hn2 := hz.itsn
  obtain ⟨_, ka, kcap, rfl, _, _⟩ := id h.mks
  obtain ⟨_, ia, icap, rfl, _, _⟩ := id h.its
  go_enter Try.func23, Try.ntmps23
  go_wp2_with fail
  go_loopw [3, 11] (fun lastv i wr => ∃ j : Nat, i = .int .i64 j ∧ j ≤ m.mks.length ∧ lastv = .int .i64 (if j = 0 then 0 else (m.mks.getD (j - 1) mk0).1) ∧ (∀ k, k < j → mkAt m.mks k) ∧ Blk wr w.heap.size (msC m (.slice ia m.its.length icap) (.slice ka m.mks.length kcap) vm vo) 29 ∧ Keep [] w wr) (fun _ i _ => m.mks.length - (intOf i).toNat)
  case atStart => exact ⟨0, rfl, by omega, rfl, fun k hk => absurd hk (by omega), hM, K0⟩
  case round =>
    clear c13 c14 hM h0 K0
    obtain ⟨j, rfl, hj, rfl, hall, hM, hK⟩ := hrel
    have hR := h.keep hK
    have HA := Lib.hid hall
    clear hall
    by_cases hlt : j < m.mks.length
    · have q0 : (j : Int) < m.mks.length := by omega
      obtain ⟨sb, so, c', he, hat⟩ := mks_at hR.mks (by omega)
      simp only [Value.slice.injEq] at he
      obtain ⟨rfl, _, rfl⟩ := he
      obtain ⟨e0, e1⟩ := hat j hlt
      have hks : (m.mks.getD j mk0).2.size ≤ 9223372036854775807 := by
        rw [List.getD_eq_getElem?_getD, List.getElem?_eq_getElem hlt]
        exact hz.mks _ (List.getElem_mem hlt)
      have HB := Lib.hid (fun hh => lists_mks (mksOk_false hlt hh))
      have HN := Lib.hid (show mkAt m.mks j ↔ 1 ≤ (m.mks.getD j mk0).1 ∧ (m.mks.getD j mk0).1 ≤ 1099511627776 ∧ itKey (m.mks.getD j mk0).2 = true ∧ (0 < j → (m.mks.getD (j - 1) mk0).1 < (m.mks.getD j mk0).1) from Iff.rfl)
      have HM := Lib.hid hM
      have HP := Lib.hid (fun h0 : 0 < j => (HA.out (j - 1) (by omega)).1)
      clear hat hM
      generalize hx : m.mks.getD j mk0 = x at *
      obtain ⟨xs, xk⟩ := x
      simp only at e0 e1 hks
      obtain ⟨la, hla⟩ : ∃ la : Int, la = if j = 0 then 0 else (m.mks.getD (j - 1) mk0).1 := ⟨_, rfl⟩
      rw [← hla]
      have HL := Lib.hid hla
      have HX := Lib.hid hx
      clear hx hla
      have hX : Blk (wr.alloc (.cells (mkc (xs, xk)).toArray 42)) wr.heap.size [.int .i64 xs, .string xk] 42 := Blk.new wr (mkc (xs, xk)) 42
      have d0 : (wr.alloc (.cells #[.int .i64 xs, .string xk] 42)).cell? ⟨wr.heap.size, 0, none⟩ = some (.int .i64 xs) := hX.cell 0
      have d1 : (wr.alloc (.cells #[.int .i64 xs, .string xk] 42)).cell? ⟨wr.heap.size, 1, none⟩ = some (.string xk) := hX.cell 1
      have K1 := hK.alloc (.cells #[.int .i64 xs, .string xk] 42)
      have hbadw : la = (if j = 0 then 0 else (m.mks.getD (j - 1) mk0).1) := HL.out
      have hbad : ¬ (la < xs ∧ xs ≤ 1099511627776 ∧ itKey xk = true) → r = false := fun hh => by
        rw [HR.out]
        refine HB.out (fun hm => hh ?_)
        have hm' := HN.out.1 hm
        rw [hbadw]
        refine ⟨?_, hm'.2.1, hm'.2.2.1⟩
        split
        · exact hm'.1
        · exact hm'.2.2.2 (by omega)
      have hgood : la < xs → xs ≤ 1099511627776 → itKey xk = true → ∀ k, k < j + 1 → mkAt m.mks k := fun a b c k hk => by
        by_cases hkj : k < j
        · exact HA.out k hkj
        · obtain rfl : k = j := by omega
          rw [hbadw] at a
          refine HN.out.2 ⟨?_, b, c, ?_⟩
          · split at a
            · omega
            · have := HP.out (by omega); show 1 ≤ xs; omega
          · intro h0
            rw [if_neg (by omega)] at a
            exact a
      have HBAD := Lib.hid hbad
      have HGOOD := Lib.hid hgood
      clear hbad hgood hbadw hX
      by_cases g1 : xs ≤ la
      · have q1 : decide (xs ≤ la) = true := decide_eq_true g1
        go_wp2_with fail
        go_ret
        exact ⟨by rw [HBAD.out (by omega)]; rfl, K1⟩
      have q1 : decide (xs ≤ la) = false := decide_eq_false g1
      by_cases g2 : 1099511627776 < xs
      · have q2 : decide (1099511627776 < xs) = true := decide_eq_true g2
        go_wp2_with fail
        go_ret
        exact ⟨by rw [HBAD.out (by omega)]; rfl, K1⟩
      have q2 : decide (1099511627776 < xs) = false := decide_eq_false g2
      cases hkk : itKey xk with
      | false =>
        have HK := Lib.hid hkk.symm
        clear hkk
        go_wp2_with fail
        refine (Key_any xk hks false HK.out).mono ?_
        rintro e w5 ⟨rfl, rfl⟩
        go_wp2_with fail
        go_ret
        exact ⟨by rw [HBAD.out (by rw [← HK.out]; simp)]; rfl, K1⟩
      | true =>
        have HK := Lib.hid hkk.symm
        clear hkk
        go_wp2_with fail
        refine (Key_any xk hks true HK.out).mono ?_
        rintro e w5 ⟨rfl, rfl⟩
        go_wp2_with fail
        go_roundw
        case rel => exact ⟨j + 1, by go_num, by omega, by rw [if_neg (by omega), Nat.add_sub_cancel, HX.out], HGOOD.out (by omega) (by omega) HK.out.symm, HM.out.alloc _, K1⟩
        case measure => simp [intOf]; omega
    · obtain rfl : j = m.mks.length := by omega
      have HOK := Lib.hid (mksOk_true HA.out)
      generalize (if m.mks.length = 0 then (0 : Int) else (m.mks.getD (m.mks.length - 1) mk0).1) = la
      have c13 := msc_16 hM
      clear HA hlt
      go_wp2_with fail
      go_loopw [36] (fun i wr => ∃ j : Nat, i = .int .i64 j ∧ j ≤ m.its.length ∧ (∀ k y, k < j → m.its[k]? = some y → mayIt y = true) ∧ Blk wr w.heap.size (msC m (.slice ia m.its.length icap) (.slice ka m.mks.length kcap) vm vo) 29 ∧ Keep [] w wr) (fun i _ => m.its.length - (intOf i).toNat)
      case atStart => exact ⟨0, rfl, by omega, fun k y hk => absurd hk (by omega), hM, hK⟩
      case round =>
        clear c13 hM hK hR
        obtain ⟨j, rfl, hj, hall, hM, hK⟩ := hrel
        have hR := h.keep hK
        have HA := Lib.hid hall
        clear hall
        by_cases hlt : j < m.its.length
        · have q0 : (j : Int) < m.its.length := by omega
          obtain ⟨y, hy⟩ : ∃ y, m.its[j]? = some y := ⟨_, List.getElem?_eq_getElem hlt⟩
          obtain ⟨sb, so, c', he, _, _, e0, e1, e2, e3⟩ := its_at hR.its j y hy
          simp only [Value.slice.injEq] at he
          obtain ⟨rfl, _, rfl⟩ := he
          obtain ⟨hs1, hs2⟩ := hz.its y (List.mem_of_getElem? hy)
          have HB := Lib.hid (fun hh => lists_its hy hh)
          have HM := Lib.hid hM
          have HY := Lib.hid hy
          obtain ⟨k, v, n, g⟩ := y
          simp only at e0 e1 e2 e3 hs1 hs2
          clear hM hy hR
          have hX : Blk (wr.alloc (.cells (itC k v n g).toArray 24)) wr.heap.size (itC k v n g) 24 := Blk.new wr (itC k v n g) 24
          have d0 : (wr.alloc (.cells #[.string k, .string v, .int .i64 n, .bool g] 24)).cell? ⟨wr.heap.size, 0, none⟩ = some (.string k) := hX.cell 0
          have d1 : (wr.alloc (.cells #[.string k, .string v, .int .i64 n, .bool g] 24)).cell? ⟨wr.heap.size, 1, none⟩ = some (.string v) := hX.cell 1
          have d2 : (wr.alloc (.cells #[.string k, .string v, .int .i64 n, .bool g] 24)).cell? ⟨wr.heap.size, 2, none⟩ = some (.int .i64 n) := hX.cell 2
          have d3 : (wr.alloc (.cells #[.string k, .string v, .int .i64 n, .bool g] 24)).cell? ⟨wr.heap.size, 3, none⟩ = some (.bool g) := hX.cell 3
          have K1 := hK.alloc (.cells #[.string k, .string v, .int .i64 n, .bool g] 24)
          clear hX
          cases hkk : itMay k v n g with
          | false =>
            have HK := Lib.hid hkk.symm
            clear hkk
            go_wp2_with fail
            refine (May_any k v n g hs1 hs2 false HK.out).mono ?_
            rintro e w5 ⟨rfl, k5⟩
            go_wp2_with fail
            go_ret
            exact ⟨by rw [HR.out, HB.out HK.out.symm]; rfl, K1.trans k5⟩
          | true =>
            have HK := Lib.hid hkk.symm
            clear hkk
            go_wp2_with fail
            refine (May_any k v n g hs1 hs2 true HK.out).mono ?_
            rintro e w5 ⟨rfl, k5⟩
            go_wp2_with fail
            go_roundw
            case rel =>
              refine ⟨j + 1, by go_num, by omega, fun i z hi hz' => ?_, (HM.out.alloc _).keep k5 (by simp), K1.trans k5⟩
              by_cases hij : i < j
              · exact HA.out i z hij hz'
              · obtain rfl : i = j := by omega
                rw [HY.out] at hz'
                cases hz'
                exact HK.out.symm
            case measure => simp [intOf]; omega
        · obtain rfl : j = m.its.length := by omega
          have hall : m.its.all mayIt = true := by
            rw [List.all_eq_true]
            intro y hy
            obtain ⟨i, hi, rfl⟩ := List.getElem_of_mem hy
            exact HA.out i _ hi (List.getElem?_eq_getElem hi)
          have hr2 : r = (decide (m.its.length ≤ 4) && (decide (m.mks.length ≤ 4) && ((decide (m.mem.length = 0) || nodesOk m.mem) && (decide (m.old.length = 0) || nodesOk m.old)))) := by
            rw [HR.out]; unfold listsOk; rw [HOK.out, hall]; rfl
          have HR2 := Lib.hid hr2
          clear HA hlt hall hr2
          obtain ⟨_, ma, mcap, rfl, _, _⟩ := id h.mem
          obtain ⟨_, oa, ocap, rfl, _, _⟩ := id h.old
          have c16 := msc_16 hM
          have c17 := msc_17 hM
          have c18 := msc_18 hM
          have c20 := msc_20 hM
          have hm1 := hz.memn
          have hm2 := hz.oldn
          by_cases g1 : m.its.length ≤ 4
          case neg =>
            have q1 : decide ((m.its.length : Int) ≤ 4) = false := decide_eq_false (by omega)
            have q1' : decide (m.its.length ≤ 4) = false := decide_eq_false g1
            go_wp2_with fail
            go_ret
            exact ⟨by rw [HR2.out, q1']; rfl, hK⟩
          have q1 : decide ((m.its.length : Int) ≤ 4) = true := decide_eq_true (by omega)
          have q1' : decide (m.its.length ≤ 4) = true := decide_eq_true g1
          by_cases g2 : m.mks.length ≤ 4
          case neg =>
            have q2 : decide ((m.mks.length : Int) ≤ 4) = false := decide_eq_false (by omega)
            have q2' : decide (m.mks.length ≤ 4) = false := decide_eq_false g2
            go_wp2_with fail
            go_ret
            exact ⟨by rw [HR2.out, q1', q2']; rfl, hK⟩
          have q2 : decide ((m.mks.length : Int) ≤ 4) = true := decide_eq_true (by omega)
          have q2' : decide (m.mks.length ≤ 4) = true := decide_eq_true g2
          by_cases g3 : m.mem.length = 0
          · have q3 : ((m.mem.length : Int) == 0) = true := by simpa using g3
            have q3' : decide (m.mem.length = 0) = true := decide_eq_true g3
            by_cases g4 : m.old.length = 0
            · have q4 : ((m.old.length : Int) == 0) = true := by simpa using g4
              have q4' : decide (m.old.length = 0) = true := decide_eq_true g4
              go_wp2_with fail
              go_ret
              exact ⟨by rw [HR2.out, q1', q2', q3', q4']; rfl, hK⟩
            · have q4 : ((m.old.length : Int) == 0) = false := by simpa using g4
              have q4' : decide (m.old.length = 0) = false := decide_eq_false g4
              obtain ⟨b, hb⟩ : ∃ b, b = nodesOk m.old := ⟨_, rfl⟩
              have HBB := Lib.hid hb
              clear hb
              go_wp2_with fail
              refine (ptsMay_any _ m.old hR.old (by omega) b HBB.out).mono ?_
              rintro e w5 ⟨rfl, rfl⟩
              go_wp2_with fail
              go_ret
              exact ⟨by rw [HR2.out, q1', q2', q3', q4', HBB.out]; simp, hK⟩
          · have q3 : ((m.mem.length : Int) == 0) = false := by simpa using g3
            have q3' : decide (m.mem.length = 0) = false := decide_eq_false g3
            cases hb : nodesOk m.mem with
            | false =>
              have HBB := Lib.hid hb.symm
              clear hb
              go_wp2_with fail
              refine (ptsMay_any _ m.mem hR.mem (by omega) false HBB.out).mono ?_
              rintro e w5 ⟨rfl, rfl⟩
              go_wp2_with fail
              go_ret
              exact ⟨by rw [HR2.out, q1', q2', q3', ← HBB.out]; rfl, hK⟩
            | true =>
              have HBB := Lib.hid hb.symm
              clear hb
              by_cases g4 : m.old.length = 0
              · have q4 : ((m.old.length : Int) == 0) = true := by simpa using g4
                have q4' : decide (m.old.length = 0) = true := decide_eq_true g4
                go_wp2_with fail
                refine (ptsMay_any _ m.mem hR.mem (by omega) true HBB.out).mono ?_
                rintro e w5 ⟨rfl, rfl⟩
                go_wp2_with fail
                go_ret
                exact ⟨by rw [HR2.out, q1', q2', q3', ← HBB.out, q4']; rfl, hK⟩
              · have q4 : ((m.old.length : Int) == 0) = false := by simpa using g4
                have q4' : decide (m.old.length = 0) = false := decide_eq_false g4
                obtain ⟨b, hb⟩ : ∃ b, b = nodesOk m.old := ⟨_, rfl⟩
                have HB2 := Lib.hid hb
                clear hb
                go_wp2_with fail
                refine (ptsMay_any _ m.mem hR.mem (by omega) true HBB.out).mono ?_
                rintro e w5 ⟨rfl, rfl⟩
                go_wp2_with fail
                refine (ptsMay_any _ m.old hR.old (by omega) b HB2.out).mono ?_
                rintro e w5 ⟨rfl, rfl⟩
                go_wp2_with fail
                go_ret
                exact ⟨by rw [HR2.out, q1', q2', q3', ← HBB.out, q4', HB2.out]; simp, hK⟩
end Go.Proofs.Ytonghelcfbjknaa
