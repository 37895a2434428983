/- Package msg: Decode. -/
import Derived.Test.YtonghelcfbjknaaMsgDec
namespace Go.Proofs.Ytonghelcfbjknaa
open Go.ChangeShapes Go.WideShapes Go.ChangeAt Go.RowKit
set_option linter.unusedVariables false
set_option linter.unusedSimpArgs false

def GotDec (w : World) (b : List Nat) (e : Ending) (w' : World) : Prop := Keep [] w w' ∧
  match decM b with
  | some m => ∃ vi vk vm vo, e = .returned (.tuple #[msV m vi vk vm vo, .int .i64 0]) ∧ MsRd w' m vi vk vm vo
  | none => e = .returned (.tuple #[msV ms0 (.slice none 0 0) (.slice none 0 0) (.slice none 0 0) (.slice none 0 0), .int .i64 1])
def ditJ (w0 : World) (rb mb : Nat) (s s' : Rs) (m : Ms) (acc : List It) (y : It) (va : Option Addr) (vc : Nat) (vm vo : Value) (l : Nat → Bool) (x : Nat → Value) (w' : World) : Prop :=
  ∃ B4 A5 n5 c5, (RdR w' rb (if l 3 = true then s' else s)) ∧
  (Blk w' mb (if l 7 = true then msC { m with its := acc ++ [y] } (.slice A5 n5 c5) (.slice none 0 0) vm vo else msC m (Value.slice va acc.length vc) (.slice none 0 0) vm vo) 29) ∧
  (IRow w' (mb + 1) (if l 5 = true then .slice A5 n5 c5 else (Value.slice va acc.length vc)) (if l 5 = true then acc ++ [y] else acc)) ∧
  (Keep (rb :: mb :: (Value.slice va acc.length vc).ownBlock.toList) w0 w') ∧
  (l 7 = true → l 5 = true) ∧
  (l 5 = true → l 4 = true ∧ l 1 = true) ∧
  (l 4 = true → l 3 = true) ∧
  (l 0 = true → x 0 = .pointer (some ⟨mb, 16, none⟩)) ∧
  (l 1 = true → x 1 = (Value.slice va acc.length vc)) ∧
  (l 2 = true → x 2 = .pointer (some ⟨rb, 0, none⟩)) ∧
  (l 3 = true → x 3 = itV y.1 y.2.1 y.2.2.1 y.2.2.2) ∧
  (l 4 = true → l 5 = false → x 4 = .slice (some ⟨B4, 0, none⟩) 1 1 ∧ Blk w' B4 (itc y) 24) ∧
  (l 5 = true → x 5 = .slice A5 n5 c5) ∧
  (l 6 = true → x 6 = .pointer (some ⟨mb, 16, none⟩)) ∧
  (l 7 = true → True)
set_option maxRecDepth 100000 in
set_option maxHeartbeats 4000000 in
theorem decode_any {w : World} (bv : Value) (b : List Nat) (h : Rd w bv b) (hb : ∀ c ∈ b, c < 256) (hl : b.length ≤ 100000) :
    Calls Try.prog 14 #[bv] w (GotDec w b) := by
  obtain ⟨i0, hi, hz0, hz1, hz2⟩ := info_parts Try.info8
  obtain ⟨_, ba, bcap, rfl, hcap, _⟩ := id h
  have HB := Lib.hid hb
  have HLO := Lib.hid h.lo
  clear hb
  have hR0 := Blk.new w (msC ms0 (.slice none 0 0) (.slice none 0 0) (.slice none 0 0) (.slice none 0 0)) 29
  have h1 := h.alloc (.cells (msC ms0 (.slice none 0 0) (.slice none 0 0) (.slice none 0 0) (.slice none 0 0)).toArray 29)
  have K1 := (Keep.refl [] w).alloc (.cells (msC ms0 (.slice none 0 0) (.slice none 0 0) (.slice none 0 0) (.slice none 0 0)).toArray 29)
  have hsz1 : (w.alloc (.cells (msC ms0 (.slice none 0 0) (.slice none 0 0) (.slice none 0 0) (.slice none 0 0)).toArray 29)).heap.size = w.heap.size + 1 := by simp
  have HC := Lib.hid (show b.length - 4 ≤ bcap from by rw [bcs_length] at *; omega)
  go_enter Try.func14, Try.ntmps14
  have hm4 : max ((b.length : Int) - 4) 0 = ((b.length - 4 : Nat) : Int) := by omega
  go_upto_region 1 with fail
  go_cut [4] (fun s wc => s = .pointer (some ⟨w.heap.size + 1, 0, none⟩) ∧ RdR wc (w.heap.size + 1) (b.take (b.length - 4), false) ∧ Blk wc w.heap.size (msC ms0 (.slice none 0 0) (.slice none 0 0) (.slice none 0 0) (.slice none 0 0)) 29 ∧ Keep [] w wc ∧ wc.heap.size = w.heap.size + 2)
  case first =>
    by_cases g4 : (b.length : Int) - 4 < 0
    case pos =>
      go_wp2_with (refine wpList_slice_to _ _ _ _ _ _ _ 5 i0 Try.underlying33 hi hz1 _ _ _ _ (b.length - 4) rfl rfl (by first | exact hm4 | rfl | omega) h1 (by omega) ?_; intro v1 hv1 ho1; obtain ⟨_, va1, vcap1, rfl, _, _⟩ := id hv1)
      go_meet
      have hrd : Rd (w.alloc (.cells (msC ms0 (.slice none 0 0) (.slice none 0 0) (.slice none 0 0) (.slice none 0 0)).toArray 29)) (.slice va1 (b.length - 4) vcap1) (b.take (b.length - 4)) := by
        unfold Rd
        have e1 : bcs (b.take (b.length - 4)) = (bcs b).take (b.length - 4) := by simp [bcs, List.map_take]
        rw [e1, List.length_take, show min (b.length - 4) b.length = b.length - 4 by omega]
        exact hv1
      refine ⟨rfl, ⟨_, Blk.new' _ _ _ _ (by simp), hrd.alloc _, fun k hk hl' => ?_⟩, hR0.alloc _, K1.alloc _, by simp⟩
      have e : (Value.slice ba b.length bcap).ownBlock = some k := by rw [← hk]; exact ho1.symm
      have := HLO.out k e (by simp only [List.length_take] at hl'; omega)
      omega
    case neg =>
      go_wp2_with (refine wpList_slice_to _ _ _ _ _ _ _ 5 i0 Try.underlying33 hi hz1 _ _ _ _ (b.length - 4) rfl rfl (by first | exact hm4 | rfl | omega) h1 (by omega) ?_; intro v1 hv1 ho1; obtain ⟨_, va1, vcap1, rfl, _, _⟩ := id hv1)
      go_meet
      have hrd : Rd (w.alloc (.cells (msC ms0 (.slice none 0 0) (.slice none 0 0) (.slice none 0 0) (.slice none 0 0)).toArray 29)) (.slice va1 (b.length - 4) vcap1) (b.take (b.length - 4)) := by
        unfold Rd
        have e1 : bcs (b.take (b.length - 4)) = (bcs b).take (b.length - 4) := by simp [bcs, List.map_take]
        rw [e1, List.length_take, show min (b.length - 4) b.length = b.length - 4 by omega]
        exact hv1
      refine ⟨rfl, ⟨_, Blk.new' _ _ _ _ (by simp), hrd.alloc _, fun k hk hl' => ?_⟩, hR0.alloc _, K1.alloc _, by simp⟩
      have e : (Value.slice ba b.length bcap).ownBlock = some k := by rw [← hk]; exact ho1.symm
      have := HLO.out k e (by simp only [List.length_take] at hl'; omega)
      omega
  case rest =>
  obtain ⟨rfl, hR, hZ, hK, hszc⟩ := hcut
  clear h1 K1 hR0 hsz1 HC hm4
  have hk0 : Rok (b.take (b.length - 4), false) := ⟨fun c hc => HB.out c (List.mem_of_mem_take hc), by simp only [List.length_take]; omega⟩
  obtain ⟨M0, s1, hF⟩ : ∃ M s, rFields (b.take (b.length - 4), false) = (M, s) := ⟨_, _, rfl⟩
  have hk1 := hk0.fields
  have hkey := rFields_key _ hk0
  have hrest := rFields_rest (b.take (b.length - 4), false)
  rw [hF] at hk1 hkey hrest
  simp only at hk1 hkey hrest
  have HF := Lib.hid hF
  have HRE := Lib.hid hrest
  clear hF hrest
  go_wp2_with fail
  refine (rFields_any (w.heap.size + 1) _ hR hk0 (M0, s1) HF.out.symm).mono ?_
  rintro e w1 ⟨vm, vo, rfl, hNm, hNo, hR1, k1⟩
  simp only at hNm hNo hR1
  have hZ1 := hZ.keep k1 (by simp)
  have K1 := hK.then k1 (by intro x hx hlt; simp at hx; omega)
  have hsz1 := k1.size
  obtain ⟨am, cm, rfl⟩ := hNm.slice
  obtain ⟨ao, co, rfl⟩ := hNo.slice
  have HONE := Lib.hid (msC_one M0 none none am ao 0 0 0 0 M0.mem.length cm M0.old.length co)
  have hZn := Blk.new w1 (msC ms0 (.slice none 0 0) (.slice none 0 0) (.slice none 0 0) (.slice none 0 0)) 29
  go_upto_region 3 with (refine wpList_store_blk rfl 29 _ _ rfl w1.heap.size (msC ms0 (.slice none 0 0) (.slice none 0 0) (.slice none 0 0) (.slice none 0 0)) (msC M0 (.slice none 0 0) (.slice none 0 0) (.slice am M0.mem.length cm) (.slice ao M0.old.length co)) 29 rfl rfl hZn rfl Try.sizeMsg HONE.out ?_; intro w2 hB2 hK2)
  have hK2' : Keep [] w1 w2 := ((Keep.refl [] w1).alloc (.cells (msC ms0 (.slice none 0 0) (.slice none 0 0) (.slice none 0 0) (.slice none 0 0)).toArray 29)).then hK2 (by intro x hx hlt; simp at hx; omega)
  have hD : DecSt w w2 (w.heap.size + 1) w1.heap.size s1 M0 (.slice none 0 0) (.slice none 0 0) (.slice am M0.mem.length cm) (.slice ao M0.old.length co) :=
    ⟨hR1.keep hK2' (by simp), hB2, by rw [HRE.out.2.1]; exact IRow.nil _ _, by rw [HRE.out.2.2.1]; exact KRow.nil _ _, hNm.rd.keep hK2' (by simp), fun x hx => by have := hNm.lt x hx; omega, hNo.rd.keep hK2' (by simp), fun x hx => by have := hNo.lt x hx; omega, K1.trans hK2', by omega, by omega⟩
  have hZ2 := hZ1.keep hK2' (by simp)
  have hmbl : w.heap.size + 2 ≤ w1.heap.size := by omega
  clear hR hZ hK hR1 hZ1 K1 k1 hNm hNo hB2 hK2 hK2' hZn HONE
  obtain ⟨nh, s2, e2⟩ : ∃ a c, rNum s1 = (a, c) := ⟨_, _, rfl⟩
  obtain ⟨ni, s3, e3⟩ : ∃ a c, rNum s2 = (a, c) := ⟨_, _, rfl⟩
  obtain ⟨nk, s4, e4⟩ : ∃ a c, rNum s3 = (a, c) := ⟨_, _, rfl⟩
  have hk2 := hk1.num
  rw [e2] at hk2
  have hk3 := hk2.num
  have hI3 := rNum_i64 s2 hk2
  rw [e3] at hk3 hI3
  have hk4 := hk3.num
  have hI4 := rNum_i64 s3 hk3
  rw [e4] at hk4 hI4
  simp only at hk2 hk3 hk4 hI3 hI4
  have E2 := Lib.hid e2
  have E3 := Lib.hid e3
  have E4 := Lib.hid e4
  clear e2 e3 e4
  go_wp2_with fail
  refine (rNum_any (w.heap.size + 1) s1 hD.rd hk1 nh s2 E2.out).mono ?_
  rintro e w3 ⟨rfl, hr, kk⟩
  replace hD := hD.reader hr kk
  replace hZ2 := hZ2.keep kk (by simp)
  clear hr kk
  go_wp2_with fail
  refine (rNum_any (w.heap.size + 1) s2 hD.rd hk2 ni s3 E3.out).mono ?_
  rintro e w4 ⟨rfl, hr, kk⟩
  replace hD := hD.reader hr kk
  replace hZ2 := hZ2.keep kk (by simp)
  clear hr kk
  go_wp2_with fail
  refine (rNum_any (w.heap.size + 1) s3 hD.rd hk3 nk s4 E4.out).mono ?_
  rintro e w5 ⟨rfl, hr, kk⟩
  replace hD := hD.reader hr kk
  replace hZ2 := hZ2.keep kk (by simp)
  clear hr kk
  go_upto_if 28 with fail
  go_cut [4] (fun s wc => s = .pointer (some ⟨w.heap.size + 1, 0, none⟩) ∧ ∃ (X : It) (s5 : Rs), Hid ((X, s5) = if nh = 1 then rItem s4 else (it0, s4)) ∧ Rok s5 ∧ (X.1.size ≤ 65536 ∧ X.2.1.size ≤ 65536) ∧ DecSt w wc (w.heap.size + 1) w1.heap.size s5 { M0 with it := X } (.slice none 0 0) (.slice none 0 0) (.slice am M0.mem.length cm) (.slice ao M0.old.length co) ∧ Blk wc w.heap.size (msC ms0 (.slice none 0 0) (.slice none 0 0) (.slice none 0 0) (.slice none 0 0)) 29)
  case first =>
    by_cases h1 : nh = 1
    case neg =>
      have q : (nh == 1) = false := by simpa using h1
      have HH := Lib.hid h1
      clear h1
      go_wp2_with fail
      go_meet
      refine ⟨rfl, it0, s4, Lib.hid (by rw [if_neg HH.out]), hk4, by decide, ?_, hZ2⟩
      have : ({ M0 with it := it0 } : Ms) = M0 := by have := HRE.out.1; cases M0; simp only at this; subst this; rfl
      rw [this]
      exact hD
    have q : (nh == 1) = true := by simpa using h1
    have HH := Lib.hid h1
    clear h1
    obtain ⟨y, s5, e5⟩ : ∃ a c, rItem s4 = (a, c) := ⟨_, _, rfl⟩
    have hk5 := hk4.item
    have hy := rItem_size s4 hk4
    rw [e5] at hk5 hy
    simp only at hk5 hy
    have E5 := Lib.hid e5
    clear e5
    go_wp2_with fail
    refine (rItem_any (w.heap.size + 1) s4 hD.rd hk4 y s5 E5.out).mono ?_
    rintro e w6 ⟨rfl, hr, kk⟩
    replace hD := hD.reader hr kk
    replace hZ2 := hZ2.keep kk (by simp)
    clear hr kk
    have c12 := msc_12 hD.blk
    have c13 := msc_13 hD.blk
    have c14 := msc_14 hD.blk
    have c15 := msc_15 hD.blk
    have f12 := hD.blk.free 12
    have f13 := hD.blk.free 13
    have f14 := hD.blk.free 14
    have f15 := hD.blk.free 15
    go_wp2_with fail
    have hB : Blk ((((w6.setCell ⟨w1.heap.size, 12, none⟩ (.string y.1)).setCell ⟨w1.heap.size, 13, none⟩ (.string y.2.1)).setCell ⟨w1.heap.size, 14, none⟩ (.int .i64 y.2.2.1)).setCell ⟨w1.heap.size, 15, none⟩ (.bool y.2.2.2)) w1.heap.size (msC { M0 with it := y } (.slice none 0 0) (.slice none 0 0) (.slice am M0.mem.length cm) (.slice ao M0.old.length co)) 29 := (((hD.blk.set 12 (.string y.1)).set 13 (.string y.2.1)).set 14 (.int .i64 y.2.2.1)).set 15 (.bool y.2.2.2)
    have kS : Keep [w1.heap.size] w6 ((((w6.setCell ⟨w1.heap.size, 12, none⟩ (.string y.1)).setCell ⟨w1.heap.size, 13, none⟩ (.string y.2.1)).setCell ⟨w1.heap.size, 14, none⟩ (.int .i64 y.2.2.1)).setCell ⟨w1.heap.size, 15, none⟩ (.bool y.2.2.2)) := ((((Keep.refl _ _).setCell (.inl (by simp)) _).setCell (.inl (by simp)) _).setCell (.inl (by simp)) _).setCell (.inl (by simp)) _
    go_meet
    exact ⟨rfl, y, s5, Lib.hid (by rw [if_pos HH.out, E5.out]), hk5, hy, hD.write kS hB hD.its hD.mks rfl rfl, hZ2.keep kS (by simp; omega)⟩
  case rest =>
  obtain ⟨rfl, X, s5, HX, hk5, hX, hD', hZ3⟩ := hcut
  clear hD hZ2
  go_upto_region 6 with fail
  obtain ⟨j0, hj, hj0, hj1, hj2⟩ := info_parts Try.infoItem
  have hwz := hZ3.lt
  have hM1e : ({ M0 with it := X, its := [] } : Ms) = { M0 with it := X } := by have := HRE.out.2.1; cases M0; simp only at this; subst this; rfl
  rw [← hM1e] at hD'
  clear hM1e
  go_loopw [7] (fun iv wr => ∃ (n : Int) (acc : List It) (q : Rs) (vi : Value), iv = .int .i64 n ∧ I64 n ∧ acc.length ≤ 5 ∧ rItems 6 ni [] s5 = rItems (6 - acc.length) n acc q ∧ Rok q ∧ (∀ y ∈ acc, y.1.size ≤ 65536 ∧ y.2.1.size ≤ 65536) ∧ DecSt w wr (w.heap.size + 1) w1.heap.size q { M0 with it := X, its := acc } vi (.slice none 0 0) (.slice am M0.mem.length cm) (.slice ao M0.old.length co) ∧ Blk wr w.heap.size (msC ms0 (.slice none 0 0) (.slice none 0 0) (.slice none 0 0) (.slice none 0 0)) 29) (fun iv _ => (intOf iv).toNat)
  case atStart => exact ⟨ni, [], s5, .slice none 0 0, rfl, hI3, by simp, rfl, hk5, by simp, hD', hZ3⟩
  case round =>
    clear hD' hZ3 hwz
    obtain ⟨n, acc, q, vi, rfl, hni, hal, hst, hq, hsz, hD, hZ⟩ := hrel
    have HST0 := Lib.hid hst
    have HSZ0 := Lib.hid hsz
    clear hst hsz
    obtain ⟨va, vc, hvi⟩ : ∃ va vc, vi = .slice va acc.length vc := hD.its.slice
    subst hvi
    have hwz := hZ.lt
    obtain ⟨bq, bad⟩ := q
    obtain ⟨rv, r1, r2, r3⟩ := id hD.rd
    have c1 := r1.cell 1
    simp only [List.getElem?_cons_zero, List.getElem?_cons_succ] at c1
    have c16 := msc_16 hD.blk
    clear r1 r2 r3
    obtain ⟨bgo, hbg⟩ : ∃ b, b = decide (0 < n ∧ bad = false ∧ acc.length ≤ 4) := ⟨_, rfl⟩
    have HBG := Lib.hid hbg
    clear hbg
    go_upto_region 6 with fail
    go_cut [46] (fun s wc => s = .bool bgo ∧ wr = wc)
    case first =>
      by_cases g1 : 0 < n
      · have q1 : decide (0 < n) = true := decide_eq_true g1
        cases bad with
        | true =>
          go_wp2_with fail
          go_meet
          exact ⟨by rw [HBG.out]; simp, rfl⟩
        | false =>
          by_cases g3 : acc.length ≤ 4
          · have q3 : decide ((acc.length : Int) ≤ 4) = true := decide_eq_true (by omega)
            go_wp2_with fail
            go_meet
            exact ⟨by rw [HBG.out]; simp [g1, g3], rfl⟩
          · have q3 : decide ((acc.length : Int) ≤ 4) = false := decide_eq_false (by omega)
            go_wp2_with fail
            go_meet
            exact ⟨by rw [HBG.out]; simp [g3], rfl⟩
      · have q1 : decide (0 < n) = false := decide_eq_false g1
        go_wp2_with fail
        go_meet
        exact ⟨by rw [HBG.out, decide_eq_false (fun h => by have := h.1; omega)], rfl⟩
    case rest =>
    obtain ⟨rfl, rfl⟩ := hcut
    clear c1 c16
    cases bgo with
    | true =>
        have hgo := of_decide_eq_true HBG.out.symm
        obtain ⟨g1, rfl, g3⟩ := hgo
        clear HBG
        obtain ⟨q, hqq⟩ : ∃ q : Rs, q = (bq, false) := ⟨_, rfl⟩
        have hqb : q.2 = false := by rw [hqq]
        rw [← hqq] at hD hq HST0
        clear hqq
        obtain ⟨y, q2, ey⟩ : ∃ a c, rItem q = (a, c) := ⟨_, _, rfl⟩
        have hq2 := hq.item
        have hys := rItem_size q hq
        rw [ey] at hq2 hys
        simp only at hq2 hys
        have HST : Hid (rItems 6 ni [] s5 = rItems (6 - (acc ++ [y]).length) (n - 1) (acc ++ [y]) q2) := Lib.hid (by
          rw [HST0.out, show 6 - acc.length = (6 - (acc ++ [y]).length) + 1 by simp; omega, rItems_go _ _ _ _ ⟨g1, hqb, g3⟩, ey])
        have HSZ : Hid (∀ z ∈ acc ++ [y], z.1.size ≤ 65536 ∧ z.2.1.size ≤ 65536) := Lib.hid (by
          intro z hz
          rcases List.mem_append.1 hz with hz | hz
          · exact HSZ0.out z hz
          · simp at hz; subst hz; exact hys)
        have HE := Lib.hid ey
        have HQ := Lib.hid hq
        have HQ2 := Lib.hid hq2
        clear ey hq hq2 hys hqb HST0 HSZ0
        have hltd := hD.lt
        go_upto_region 8 with fail
        refine wp_region_inv (ditJ wr (w.heap.size + 1) w1.heap.size q q2 { M0 with it := X, its := acc } acc y va vc (.slice am M0.mem.length cm) (.slice ao M0.old.length co)) (by kernel_rfl) (by kernel_rfl) (by kernel_rfl) ?_ (Steps.cons 0 ?_ (Steps.cons 1 ?_ (Steps.cons 2 ?_ (Steps.cons 3 ?_ (Steps.cons 4 ?_ (Steps.cons 5 ?_ (Steps.cons 6 ?_ (Steps.cons 7 ?_ (Steps.nil 8))))))))) 8 rfl ?_
        · intro x
          exact ⟨0, none, 0, 0, hD.rd.keep ((Keep.refl [] _).drew) (by simp), hD.blk.drew, hD.its.keep ((Keep.refl [] _).drew) (by simp), (Keep.refl _ _).drew, fun h => absurd h (by decide), fun h => absurd h (by decide), fun h => absurd h (by decide), fun h => absurd h (by decide), fun h => absurd h (by decide), fun h => absurd h (by decide), fun h => absurd h (by decide), fun h => absurd h (by decide), fun h => absurd h (by decide), fun h => absurd h (by decide), fun h => absurd h (by decide)⟩
        · intro l x w' hJ hi hd
          obtain ⟨B4, A5, n5, c5, hR, hM, hI, hK, d7, d5, d4, h0, h1, h2, h3, h4, h5, h6, h7⟩ := hJ
          refine Runs.of (b := ?bI0) ?eI0 ?_
          case eI0 => simp only [putV, Act.put, List.setIfInBounds_toArray, List.set_cons_zero, List.set_cons_succ]; rfl
          intro K' hK'
          go_simp
          exact hK'.go _ rfl ⟨B4, A5, n5, c5, hR, hM, hI, hK, d7, d5, d4, fun _ => rfl, h1, h2, h3, h4, h5, h6, h7⟩
        · intro l x w' hJ hi hd
          obtain ⟨B4, A5, n5, c5, hR, hM, hI, hK, d7, d5, d4, h0, h1, h2, h3, h4, h5, h6, h7⟩ := hJ
          have e0 := h0 (show l 0 = true by first | exact hd.1 rfl | exact hd.2.1 rfl | exact hd.2.2.1 rfl | exact hd.2.2.2.1 rfl | exact hd.2.2.2.2.1 rfl | exact hd.2.2.2.2.2.1 rfl)
          have l5 : l 5 = false := by cases h : l 5 with | false => rfl | true => have := (d5 h).2; rw [hi] at this; cases this
          have l7 : l 7 = false := by cases h : l 7 with | false => rfl | true => have := (d5 (d7 h)).2; rw [hi] at this; cases this
          have hM' := hM
          rw [l7, if_neg (by decide)] at hM'
          have c := msc_16 hM'
          have L5 := Lib.hid l5
          have L7 := Lib.hid l7
          clear l5 l7
          refine Runs.of (b := ?bI1) ?eI1 ?_
          case eI1 => simp only [putV, Act.put, List.setIfInBounds_toArray, List.set_cons_zero, List.set_cons_succ, e0]; rfl
          intro K' hK'
          go_simp
          exact hK'.go _ rfl ⟨B4, A5, n5, c5, hR, hM, hI, hK, d7, fun h => ⟨(d5 h).1, rfl⟩, d4, h0, fun _ => rfl, h2, h3, h4, h5, h6, h7⟩
        · intro l x w' hJ hi hd
          obtain ⟨B4, A5, n5, c5, hR, hM, hI, hK, d7, d5, d4, h0, h1, h2, h3, h4, h5, h6, h7⟩ := hJ
          refine Runs.of (b := ?bI2) ?eI2 ?_
          case eI2 => simp only [putV, Act.put, List.setIfInBounds_toArray, List.set_cons_zero, List.set_cons_succ]; rfl
          intro K' hK'
          go_simp
          exact hK'.go _ rfl ⟨B4, A5, n5, c5, hR, hM, hI, hK, d7, d5, d4, h0, h1, fun _ => rfl, h3, h4, h5, h6, h7⟩
        · intro l x w' hJ hi hd
          obtain ⟨B4, A5, n5, c5, hR, hM, hI, hK, d7, d5, d4, h0, h1, h2, h3, h4, h5, h6, h7⟩ := hJ
          have e2 := h2 (show l 2 = true by first | exact hd.1 rfl | exact hd.2.1 rfl | exact hd.2.2.1 rfl | exact hd.2.2.2.1 rfl | exact hd.2.2.2.2.1 rfl | exact hd.2.2.2.2.2.1 rfl)
          have hR' := hR
          rw [hi, if_neg (by decide)] at hR'
          refine Runs.of (b := ?bI3) ?eI3 ?_
          case eI3 => simp only [putV, Act.put, List.setIfInBounds_toArray, List.set_cons_zero, List.set_cons_succ, e2]; rfl
          intro K' hK'
          go_simp
          refine (rItem_any (w.heap.size + 1) q hR' HQ.out y q2 HE.out).mono ?_
          rintro x2 w2 ⟨rfl, hr2, k2⟩
          go_simp
          exact hK'.go (itV y.1 y.2.1 y.2.2.1 y.2.2.2) rfl ⟨B4, A5, n5, c5, hr2, hM.keep k2 (by simp; omega), hI.keep k2 (fun b hb hm => by have := (hI.lt b hb).1; simp at hm; omega), hK.trans (k2.mono (by intro b hb _; simp at hb; simp [hb])), d7, d5, fun _ => rfl, h0, h1, h2, fun _ => rfl, fun a _ => absurd ((d4 a).symm.trans hi) (by decide), h5, h6, h7⟩
        · intro l x w' hJ hi hd
          obtain ⟨B4, A5, n5, c5, hR, hM, hI, hK, d7, d5, d4, h0, h1, h2, h3, h4, h5, h6, h7⟩ := hJ
          have e3 := h3 (show l 3 = true by first | exact hd.1 rfl | exact hd.2.1 rfl | exact hd.2.2.1 rfl | exact hd.2.2.2.1 rfl | exact hd.2.2.2.2.1 rfl | exact hd.2.2.2.2.2.1 rfl)
          have L3 := Lib.hid (show l 3 = true by first | exact hd.1 rfl | exact hd.2.1 rfl | exact hd.2.2.1 rfl | exact hd.2.2.2.1 rfl | exact hd.2.2.2.2.1 rfl | exact hd.2.2.2.2.2.1 rfl)
          refine Runs.of (b := ?bI4) ?eI4 ?_
          case eI4 => simp only [putV, Act.put, List.setIfInBounds_toArray, List.set_cons_zero, List.set_cons_succ, e3]; rfl
          intro K' hK'
          go_simp
          exact hK'.go _ rfl ⟨w'.heap.size, A5, n5, c5, hR.alloc _, hM.alloc _, hI.alloc _, hK.alloc _, d7, fun h => ⟨rfl, (d5 h).2⟩, fun _ => L3.out, h0, h1, h2, h3, fun _ => fun _ => ⟨rfl, Blk.new _ (itc y) _⟩, h5, h6, h7⟩
        · intro l x w' hJ hi hd
          obtain ⟨B4, A5, n5, c5, hR, hM, hI, hK, d7, d5, d4, h0, h1, h2, h3, h4, h5, h6, h7⟩ := hJ
          have e1 := h1 (show l 1 = true by first | exact hd.1 rfl | exact hd.2.1 rfl | exact hd.2.2.1 rfl | exact hd.2.2.2.1 rfl | exact hd.2.2.2.2.1 rfl | exact hd.2.2.2.2.2.1 rfl)
          have e4 := h4 (show l 4 = true by first | exact hd.1 rfl | exact hd.2.1 rfl | exact hd.2.2.1 rfl | exact hd.2.2.2.1 rfl | exact hd.2.2.2.2.1 rfl | exact hd.2.2.2.2.2.1 rfl) hi
          have L4 := Lib.hid (show l 4 = true by first | exact hd.1 rfl | exact hd.2.1 rfl | exact hd.2.2.1 rfl | exact hd.2.2.2.1 rfl | exact hd.2.2.2.2.1 rfl | exact hd.2.2.2.2.2.1 rfl)
          have L1 := Lib.hid (show l 1 = true by first | exact hd.1 rfl | exact hd.2.1 rfl | exact hd.2.2.1 rfl | exact hd.2.2.2.1 rfl | exact hd.2.2.2.2.1 rfl | exact hd.2.2.2.2.2.1 rfl)
          have l7 : l 7 = false := by cases h : l 7 with | false => rfl | true => have := d7 h; rw [hi] at this; cases this
          have hM' := hM
          rw [l7, if_neg (by decide)] at hM'
          have hI' := hI
          rw [hi, if_neg (by decide), if_neg (by decide)] at hI'
          have L7 := Lib.hid l7
          clear l7
          have hsrc := src_it (P := Try.prog) Try.underlying25 w' B4 y.1 y.2.1 y.2.2.1 y.2.2.2 e4.2
          refine Runs.of (b := ?bI5) ?eI5 ?_
          case eI5 => simp only [putV, Act.put, List.setIfInBounds_toArray, List.set_cons_zero, List.set_cons_succ, e1, e4.1]; rfl
          intro K' hK'
          refine step_append_src _ rfl _ _ 25 25 rfl (w1.heap.size + 1) 24 j0 _ 4 48 Try.underlying25 hj hj0 hj1 hj2 rfl (by decide) _ _ _ rfl hI' _ 1 _ rfl hsrc (by unfold maxLen; omega) (by omega) (by have := hM.lt; omega) ?_
          intro v1 w4 h1' h2' _ h3'
          have hI2 : IRow w4 (w1.heap.size + 1) v1 (acc ++ [y]) := IRow.snoc h1'
          obtain ⟨a5, c5', rfl⟩ := hI2.slice
          have k2 := Keep.grown h2'
          have hvb : ∀ b ∈ (Value.slice va acc.length vc).ownBlock.toList, w1.heap.size + 1 ≤ b := fun b hb => (hI'.lt b (Option.mem_toList.1 hb)).1
          have hM5 := hM'.keep k2 (fun hm => by have := hvb _ hm; omega)
          exact hK'.go (.slice a5 (acc ++ [y]).length c5') rfl ⟨B4, a5, (acc ++ [y]).length, c5', hR.keep k2 (fun b hb => by have := hvb b hb; omega), (by have l7' : upd l 5 true 7 = false := L7.out; rw [l7', if_neg (by decide)]; exact hM5), hI2, hK.trans (k2.mono (fun b hb _ => List.mem_cons_of_mem _ (List.mem_cons_of_mem _ hb))), fun _ => rfl, fun _ => ⟨L4.out, L1.out⟩, d4, h0, h1, h2, h3, fun _ h => Bool.noConfusion (show true = false from h), fun _ => rfl, h6, h7⟩
        · intro l x w' hJ hi hd
          obtain ⟨B4, A5, n5, c5, hR, hM, hI, hK, d7, d5, d4, h0, h1, h2, h3, h4, h5, h6, h7⟩ := hJ
          refine Runs.of (b := ?bI6) ?eI6 ?_
          case eI6 => simp only [putV, Act.put, List.setIfInBounds_toArray, List.set_cons_zero, List.set_cons_succ]; rfl
          intro K' hK'
          go_simp
          exact hK'.go _ rfl ⟨B4, A5, n5, c5, hR, hM, hI, hK, d7, d5, d4, h0, h1, h2, h3, h4, h5, fun _ => rfl, h7⟩
        · intro l x w' hJ hi hd
          obtain ⟨B4, A5, n5, c5, hR, hM, hI, hK, d7, d5, d4, h0, h1, h2, h3, h4, h5, h6, h7⟩ := hJ
          have e6 := h6 (show l 6 = true by first | exact hd.1 rfl | exact hd.2.1 rfl | exact hd.2.2.1 rfl | exact hd.2.2.2.1 rfl | exact hd.2.2.2.2.1 rfl | exact hd.2.2.2.2.2.1 rfl)
          have e5 := h5 (show l 5 = true by first | exact hd.1 rfl | exact hd.2.1 rfl | exact hd.2.2.1 rfl | exact hd.2.2.2.1 rfl | exact hd.2.2.2.2.1 rfl | exact hd.2.2.2.2.2.1 rfl)
          have L5 := Lib.hid (show l 5 = true by first | exact hd.1 rfl | exact hd.2.1 rfl | exact hd.2.2.1 rfl | exact hd.2.2.2.1 rfl | exact hd.2.2.2.2.1 rfl | exact hd.2.2.2.2.2.1 rfl)
          have hM' := hM
          rw [hi, if_neg (by decide)] at hM'
          have c16 := msc_16 hM'
          have f16 := hM'.free 16
          refine Runs.of (b := ?bI7) ?eI7 ?_
          case eI7 => simp only [putV, Act.put, List.setIfInBounds_toArray, List.set_cons_zero, List.set_cons_succ, e6, e5]; rfl
          intro K' hK'
          go_simp
          have hSet : Blk (w'.setCell ⟨w1.heap.size, 16, none⟩ (.slice A5 n5 c5)) w1.heap.size (msC { M0 with it := X, its := acc ++ [y] } (.slice A5 n5 c5) (.slice none 0 0) (.slice am M0.mem.length cm) (.slice ao M0.old.length co)) 29 := hM'.set 16 _
          have kS : Keep [w1.heap.size] w' (w'.setCell ⟨w1.heap.size, 16, none⟩ (.slice A5 n5 c5)) := (Keep.refl _ _).setCell (.inl (by simp)) _
          exact hK'.go undef rfl ⟨B4, A5, n5, c5, hR.keep kS (by intro b hb; simp at hb; omega), hSet, hI.keep kS (fun b hb hm => by have := (hI.lt b hb).1; simp at hm; omega), hK.trans (kS.mono (by intro b hb _; simp at hb; simp [hb])), fun _ => L5.out, d5, d4, h0, h1, h2, h3, fun a h => absurd (L5.out.symm.trans h) (by decide), h5, h6, fun _ => trivial⟩
        · intro l x w3 hJ hl
          obtain ⟨B4, A5, n5, c5, hR, hM, hI, hK, d7, d5, d4, h0, h1, h2, h3, h4, h5, h6, h7⟩ := hJ
          have hMf := hM
          have hIf := hI
          rw [hl 3 (by decide), if_pos rfl] at hR
          rw [hl 7 (by decide), if_pos rfl] at hMf
          rw [hl 5 (by decide), if_pos rfl, if_pos rfl] at hIf
          simp only [putV, Act.put, List.setIfInBounds_toArray, List.set_cons_zero, List.set_cons_succ]
          have hvb : ∀ b ∈ (Value.slice va acc.length vc).ownBlock.toList, w1.heap.size + 1 ≤ b := fun b hb => (hD.its.lt b (Option.mem_toList.1 hb)).1
          have hlt := hD.lt
          have hlo := hD.lo
          have hD9 : DecSt w w3 (w.heap.size + 1) w1.heap.size q2 { M0 with it := X, its := acc ++ [y] } (.slice A5 n5 c5) (.slice none 0 0) (.slice am M0.mem.length cm) (.slice ao M0.old.length co) :=
            ⟨hR, hMf, hIf, hD.mks.keep hK (by simp [Value.ownBlock]), hD.mem.keep hK (fun b hb _ hm => by have := hD.memlt b hb; simp only [List.mem_cons] at hm; rcases hm with hm | hm | hm; omega; omega; have := hvb b hm; omega), hD.memlt,
             hD.old.keep hK (fun b hb _ hm => by have := hD.oldlt b hb; simp only [List.mem_cons] at hm; rcases hm with hm | hm | hm; omega; omega; have := hvb b hm; omega), hD.oldlt,
             hD.keep.then hK (fun b hb hlt' => by simp only [List.mem_cons] at hb; rcases hb with hb | hb | hb; omega; omega; have := hvb b hb; omega), hlo, hlt⟩
          have hZ9 := hZ.keep hK (fun hm => by simp only [List.mem_cons] at hm; rcases hm with hm | hm | hm; omega; omega; have := hvb _ hm; omega)
          clear h0 h1 h2 h3 h4 h5 h6 h7 hl d7 d5 d4 hR hM hI hK hMf hIf hvb hD hZ
          go_wp2_with fail
          go_roundw
          case rel => exact ⟨n - 1, acc ++ [y], q2, _, by unfold I64 at hni; rw [show wrap64 (n - 1) = n - 1 by unfold wrap64; omega], by unfold I64 at hni ⊢; omega, by simp; omega, HST.out, HQ2.out, HSZ.out, hD9, hZ9⟩
          case measure => unfold I64 at hni; simp only [intOf]; rw [show wrap64 (n - 1) = n - 1 by unfold wrap64; omega]; omega
    | false =>
      have hend : rItems 6 ni [] s5 = (acc, (bq, bad)) := by
        rw [HST0.out]; exact rItems_end _ _ _ _ (of_decide_eq_false HBG.out.symm)
      have HEND := Lib.hid hend
      clear hend HST0 HBG
      go_upto_region 9 with fail
      obtain ⟨k0i, hki, hki0, hki1, hki2⟩ := info_parts Try.infoMark
      have hM2e : ({ M0 with it := X, its := acc, mks := [] } : Ms) = { M0 with it := X, its := acc } := by have := HRE.out.2.2.1; cases M0; simp only at this; subst this; rfl
      rw [← hM2e] at hD
      clear hM2e
      generalize (Value.slice va acc.length vc) = vi at *
      go_loopw [8] (fun iv wr => ∃ (n : Int) (ks : List Mk) (q : Rs) (vk : Value), iv = .int .i64 n ∧ I64 n ∧ ks.length ≤ 5 ∧ rMks 6 nk [] (bq, bad) = rMks (6 - ks.length) n ks q ∧ Rok q ∧ (∀ y ∈ ks, y.2.size ≤ 65536) ∧ DecSt w wr (w.heap.size + 1) w1.heap.size q { M0 with it := X, its := acc, mks := ks } vi vk (.slice am M0.mem.length cm) (.slice ao M0.old.length co) ∧ Blk wr w.heap.size (msC ms0 (.slice none 0 0) (.slice none 0 0) (.slice none 0 0) (.slice none 0 0)) 29) (fun iv _ => (intOf iv).toNat)
      case atStart => exact ⟨nk, [], (bq, bad), .slice none 0 0, rfl, hI4, by simp, rfl, hq, by simp, hD, hZ⟩
      case round =>
        clear hD hZ hwz hq
        obtain ⟨n, ks, q, vk, rfl, hni, hal, hst, hq, hsz, hD, hZ⟩ := hrel
        have HST0 := Lib.hid hst
        have HSZK := Lib.hid hsz
        clear hst hsz
        obtain ⟨va, vc, hvk⟩ : ∃ va vc, vk = .slice va ks.length vc := hD.mks.slice
        subst hvk
        have hwz := hZ.lt
        obtain ⟨bq2, bad2⟩ := q
        obtain ⟨rv, r1, r2, r3⟩ := id hD.rd
        have c1 := r1.cell 1
        simp only [List.getElem?_cons_zero, List.getElem?_cons_succ] at c1
        have c17 := msc_17 hD.blk
        clear r1 r2 r3
        obtain ⟨bgo, hbg⟩ : ∃ b, b = decide (0 < n ∧ bad2 = false ∧ ks.length ≤ 4) := ⟨_, rfl⟩
        have HBG := Lib.hid hbg
        clear hbg
        go_upto_region 9 with fail
        go_cut [70] (fun s wc => s = .bool bgo ∧ wr = wc)
        case first =>
          by_cases g1 : 0 < n
          · have q1 : decide (0 < n) = true := decide_eq_true g1
            cases bad2 with
            | true =>
              go_wp2_with fail
              go_meet
              exact ⟨by rw [HBG.out]; simp, rfl⟩
            | false =>
              by_cases g3 : ks.length ≤ 4
              · have q3 : decide ((ks.length : Int) ≤ 4) = true := decide_eq_true (by omega)
                go_wp2_with fail
                go_meet
                exact ⟨by rw [HBG.out]; simp [g1, g3], rfl⟩
              · have q3 : decide ((ks.length : Int) ≤ 4) = false := decide_eq_false (by omega)
                go_wp2_with fail
                go_meet
                exact ⟨by rw [HBG.out]; simp [g3], rfl⟩
          · have q1 : decide (0 < n) = false := decide_eq_false g1
            go_wp2_with fail
            go_meet
            exact ⟨by rw [HBG.out, decide_eq_false (fun h => by have := h.1; omega)], rfl⟩
        case rest =>
        obtain ⟨rfl, rfl⟩ := hcut
        clear c1 c17
        cases bgo with
        | true =>
          obtain ⟨g1, rfl, g3⟩ := of_decide_eq_true HBG.out.symm
          clear HBG
          obtain ⟨q, hqq⟩ : ∃ q : Rs, q = (bq2, false) := ⟨_, rfl⟩
          have hqb : q.2 = false := by rw [hqq]
          rw [← hqq] at hD hq HST0
          clear hqq
          obtain ⟨xs, qa, ex⟩ : ∃ a c, rNum q = (a, c) := ⟨_, _, rfl⟩
          obtain ⟨xk, q2, et⟩ : ∃ a c, rText qa = (a, c) := ⟨_, _, rfl⟩
          have ey : rMk q = ((xs, xk), q2) := by unfold rMk; rw [ex, et]
          have hqa := hq.num
          rw [ex] at hqa
          have hq2 := hq.mkr
          have hys := rMk_size q hq
          rw [ey] at hq2 hys
          simp only at hq2 hys hqa
          have HST : Hid (rMks 6 nk [] (bq, bad) = rMks (6 - (ks ++ [(xs, xk)]).length) (n - 1) (ks ++ [(xs, xk)]) q2) := Lib.hid (by
            rw [HST0.out, show 6 - ks.length = (6 - (ks ++ [(xs, xk)]).length) + 1 by simp; omega, rMks_go _ _ _ _ ⟨g1, hqb, g3⟩, ey])
          have HSZ : Hid (∀ z ∈ ks ++ [(xs, xk)], z.2.size ≤ 65536) := Lib.hid (by
            intro z hz
            rcases List.mem_append.1 hz with hz | hz
            · exact HSZK.out z hz
            · simp at hz; subst hz; exact hys)
          have HEX := Lib.hid ex
          have HET := Lib.hid et
          have HQ2 := Lib.hid hq2
          clear ex et ey hq2 hys hqb HST0 HSZK
          go_wp2_with fail
          refine (rNum_any (w.heap.size + 1) q hD.rd hq xs qa HEX.out).mono ?_
          rintro e u1 ⟨rfl, hr, kk⟩
          replace hD := hD.reader hr kk
          replace hZ := hZ.keep kk (by simp)
          clear hr kk
          go_wp2_with fail
          have hT : Blk (u1.alloc (.cells #[.int .i64 xs, .string { data := #[] }] 42)) u1.heap.size [.int .i64 xs, .string { data := #[] }] 42 := Blk.new u1 [.int .i64 xs, .string { data := #[] }] 42
          have hmt := hD.blk.lt
          have hit := fun b hb => (hD.its.lt b hb).2
          have hkt := fun b hb => (hD.mks.lt b hb).2
          have hD2 := hD.quiet ((Keep.refl [] u1).alloc (.cells #[.int .i64 xs, .string { data := #[] }] 42))
          have hZ2 := hZ.alloc (.cells #[.int .i64 xs, .string { data := #[] }] 42)
          clear hD hZ
          generalize u1.alloc (.cells #[.int .i64 xs, .string { data := #[] }] 42) = u2 at *
          have hltd := hD2.lt
          refine (rText_any (w.heap.size + 1) qa hD2.rd hqa xk q2 HET.out).mono ?_
          rintro e u3 ⟨rfl, hr, kk⟩
          have hD3 := hD2.reader hr kk
          have hZ3 := hZ2.keep kk (by simp)
          have hT3 := hT.keep kk (by simp; omega)
          clear hr kk hD2 hZ2 hT
          have t1 := hT3.cell 1
          have tf := hT3.free 1
          simp only [List.getElem?_cons_zero, List.getElem?_cons_succ] at t1
          go_upto_region 13 with fail
          have hT4 : Blk (u3.setCell ⟨u1.heap.size, 1, none⟩ (.string xk)) u1.heap.size (mkc (xs, xk)) 42 := hT3.set 1 _
          have kS : Keep [u1.heap.size] u3 (u3.setCell ⟨u1.heap.size, 1, none⟩ (.string xk)) := (Keep.refl _ _).setCell (.inl (by simp)) _
          have hD4 := hD3.other kS hmt (fun b hb => by have := hit b hb; omega) (fun b hb => by have := hkt b hb; omega)
          have hZ4 := hZ3.keep kS (by simp; omega)
          clear hD3 hZ3 hT3 t1 tf kS
          generalize u3.setCell ⟨u1.heap.size, 1, none⟩ (.string xk) = u4 at *
          have t0 := hT4.cell 0
          have t1 := hT4.cell 1
          simp only [mkc, List.getElem?_cons_zero, List.getElem?_cons_succ] at t0 t1
          have c17 := msc_17 hD4.blk
          have hown := hD4.mks.alloc (.cells #[.int .i64 xs, .string xk] 42)
          have hBn : Blk (u4.alloc (.cells #[.int .i64 xs, .string xk] 42)) u4.heap.size (mkc (xs, xk)) 42 := Blk.new u4 (mkc (xs, xk)) 42
          have hsrc := src_mk (P := Try.prog) Try.underlying26 _ _ _ hBn
          have hD5 := hD4.quiet ((Keep.refl [] u4).alloc (.cells #[.int .i64 xs, .string xk] 42))
          have hZ5 := hZ4.alloc (.cells #[.int .i64 xs, .string xk] 42)
          have hb5 := hD5.blk.lt
          clear hD4 hZ4
          go_wp2_with (at_builtin; (refine wpList_append_src _ rfl _ _ 26 26 rfl (w1.heap.size + 1) 42 k0i _ 2 24 Try.underlying26 hki hki0 hki1 hki2 rfl (by decide) _ ks.length (kc ks) rfl hown _ 1 _ rfl hsrc (by unfold maxLen; omega) (by omega) (by omega) ?_; intro v5 w5 h1' h2' _ h3'; have hrow : KRow w5 (w1.heap.size + 1) v5 (ks ++ [(xs, xk)]) := KRow.snoc h1'; obtain ⟨a5, c5, rfl⟩ := hrow.slice; obtain ⟨n1, n2, n3, n4, n5, n6⟩ := hD5.grow (Keep.grown h2'); have c17' := msc_17 n2; have f17' := n2.free 17))
          have hSet : Blk (w5.setCell ⟨w1.heap.size, 17, none⟩ (.slice a5 (ks ++ [(xs, xk)]).length c5)) w1.heap.size (msC { M0 with it := X, its := acc, mks := ks ++ [(xs, xk)] } vi (.slice a5 (ks ++ [(xs, xk)]).length c5) (.slice am M0.mem.length cm) (.slice ao M0.old.length co)) 29 := n2.set 17 _
          have kS : Keep [w1.heap.size] w5 (w5.setCell ⟨w1.heap.size, 17, none⟩ (.slice a5 (ks ++ [(xs, xk)]).length c5)) := (Keep.refl _ _).setCell (.inl (by simp)) _
          have hlt := hD5.lt
          have hlo := hD5.lo
          have hD9 : DecSt w (w5.setCell ⟨w1.heap.size, 17, none⟩ (.slice a5 (ks ++ [(xs, xk)]).length c5)) (w.heap.size + 1) w1.heap.size q2 { M0 with it := X, its := acc, mks := ks ++ [(xs, xk)] } vi (.slice a5 (ks ++ [(xs, xk)]).length c5) (.slice am M0.mem.length cm) (.slice ao M0.old.length co) :=
            ⟨n1.keep kS (by intro b hb; simp at hb; omega), hSet, n3.keep kS (fun b hb hm => by have := (n3.lt b hb).1; simp at hm; omega), hrow.keep kS (fun b hb hm => by have := (hrow.lt b hb).1; simp at hm; omega),
             n4.keep kS (fun b hb _ hm => by have := hD5.memlt b hb; simp at hm; omega), hD5.memlt, n5.keep kS (fun b hb _ hm => by have := hD5.oldlt b hb; simp at hm; omega), hD5.oldlt, n6.then kS (by intro b hb hlt'; simp at hb; omega), hlo, hlt⟩
          have hZ9 := (hZ5.keep (Keep.grown h2') (fun hm => by have := (hD5.mks.lt _ (Option.mem_toList.1 hm)).1; omega)).keep kS (by simp; omega)
          have hln : (ks ++ [(xs, xk)]).length = ks.length + 1 := by simp
          rw [hln] at hD9 hZ9
          go_roundw
          case rel => exact ⟨n - 1, ks ++ [(xs, xk)], q2, _, by unfold I64 at hni; rw [show wrap64 (n - 1) = n - 1 by unfold wrap64; omega], by unfold I64 at hni ⊢; omega, by simp; omega, HST.out, HQ2.out, HSZ.out, hD9, hZ9⟩
          case measure => unfold I64 at hni; simp only [intOf]; rw [show wrap64 (n - 1) = n - 1 by unfold wrap64; omega]; omega
        | false =>
          have hend : rMks 6 nk [] (bq, bad) = (ks, (bq2, bad2)) := by
            rw [HST0.out]; exact rMks_end _ _ _ _ (of_decide_eq_false HBG.out.symm)
          have HENDK := Lib.hid hend
          clear hend HST0 HBG
          have hall : rAll (b.take (b.length - 4), false) = ({ M0 with it := X, its := acc, mks := ks }, (bq2, bad2)) := by
            unfold rAll
            simp only [HF.out, E2.out, E3.out, E4.out, ← HX.out, HEND.out, HENDK.out]
          have hre := HRE.out
          have hzM : MsSz { M0 with it := X, its := acc, mks := ks } := ⟨by show M0.key.size ≤ _; omega, ⟨by show X.1.size ≤ _; omega, by show X.2.1.size ≤ _; omega⟩, fun y hy => by have := HSZ0.out y hy; omega, fun y hy => by have := HSZK.out y hy; omega,
            by show acc.length ≤ _; omega, by show ks.length ≤ _; omega, by show M0.mem.length ≤ _; omega, by show M0.old.length ≤ _; omega⟩
          have HALL := Lib.hid hall
          have HZM := Lib.hid hzM
          have HONE : Hid (∀ u ∈ msC { M0 with it := X, its := acc, mks := ks } vi (.slice va ks.length vc) (.slice am M0.mem.length cm) (.slice ao M0.old.length co), u.oneCell' = true) := Lib.hid (by
            obtain ⟨ia, ic', hvi⟩ := hD.its.slice
            rw [hvi]
            exact msC_one _ _ _ _ _ _ _ _ _ _ _ _ _)
          clear hall hzM hre HENDK HEND HSZK
          generalize hMM : ({ M0 with it := X, its := acc, mks := ks } : Ms) = M at *
          clear hMM
          have heq := fun (W : World) (a : Option Addr) (n c : Nat) => Lib.run_eql_slice_nil (P := Try.prog) W 33 5 a n c 0 0 Try.underlying33
          generalize (Value.slice va ks.length vc) = vk at *
          generalize (Value.slice am M0.mem.length cm) = vm at *
          generalize (Value.slice ao M0.old.length co) = vo at *
          go_upto_region 15 with (refine wpList_load_rowg 29 _ rfl w1.heap.size rfl 29 (msC M vi vk vm vo).toArray (0, 0) _ hD.blk Try.underlying29 rfl Try.sizeMsg (by rfl) ?_)
          refine (encode_any M vi vk vm vo hD.rows HZM.out).mono ?_
          rintro e w6 ⟨cv, rfl, hcb, hcn, k6⟩
          have hD6 := hD.quiet k6
          have hZ6 := hZ.keep k6 (by simp)
          have hr6 := h.keep hD6.keep (by simp)
          have HZO := Lib.hid (msC_one ms0 none none none none 0 0 0 0 0 0 0 0)
          have hltd := hD6.lt
          have hwz6 := hZ6.lt
          obtain ⟨rv6, r1, _, _⟩ := id hD6.rd
          have c1 := r1.cell 1
          simp only [List.getElem?_cons_zero, List.getElem?_cons_succ] at c1
          clear hD hZ k6 r1
          obtain ⟨bno, hbno⟩ : ∃ x : Bool, x = (decM b).isNone := ⟨_, rfl⟩
          have HBN := Lib.hid hbno
          clear hbno
          go_upto_region 15 with fail
          go_cut [100] (fun s wc => s = .bool bno ∧ w6 = wc)
          case first =>
            cases bad2 with
            | true =>
              have hno : decM b = none := by unfold decM; simp [HALL.out]
              have HNO := Lib.hid hno
              clear hno hcn
              go_wp2_with fail
              go_meet
              exact ⟨by rw [HBN.out, HNO.out]; rfl, rfl⟩
            | false =>
              by_cases hce : encM M = []
              · obtain rfl := hcn hce
                have hno : decM b = none := by unfold decM; simp [HALL.out, hce]
                have HNO := Lib.hid hno
                clear hno hcn hce
                go_wp2_with fail
                go_meet
                exact ⟨by rw [HBN.out, HNO.out]; rfl, rfl⟩
              · have hpos2 : 0 < (encM M).length := List.length_pos_iff.2 hce
                obtain ⟨cg, ccap, rfl, _⟩ := hcb.at' hpos2
                have HEB := Lib.hid (encM_byte M)
                have HCE := Lib.hid hce
                clear hcn hce
                by_cases hq : encM M = b
                · have hsome : decM b = some M := by unfold decM; have hce' := HCE.out; rw [hq] at hce'; simp [HALL.out, hce', hq]
                  have HS := Lib.hid hsome
                  have HQ := Lib.hid hq
                  clear hsome hq
                  go_wp2_with fail
                  refine (Equal_any _ _ (encM M) b true hcb.rd hr6 HEB.out HB.out (decide_eq_true HQ.out).symm).mono ?_
                  rintro e w' ⟨rfl, rfl⟩
                  go_wp2_with fail
                  go_meet
                  exact ⟨by rw [HBN.out, HS.out]; rfl, rfl⟩
                · have hno : decM b = none := by unfold decM; simp [HALL.out, hq]
                  have HNO := Lib.hid hno
                  have HQ := Lib.hid hq
                  clear hno hq
                  go_wp2_with fail
                  refine (Equal_any _ _ (encM M) b false hcb.rd hr6 HEB.out HB.out (decide_eq_false HQ.out).symm).mono ?_
                  rintro e w' ⟨rfl, rfl⟩
                  go_wp2_with fail
                  go_meet
                  exact ⟨by rw [HBN.out, HNO.out]; rfl, rfl⟩
          case rest =>
          obtain ⟨rfl, rfl⟩ := hcut
          clear c1 heq hcn
          cases bno with
          | true =>
            have hno : decM b = none := by have := HBN.out; cases hd : decM b with | none => rfl | some y => rw [hd] at this; cases this
            have HNO := Lib.hid hno
            clear hno
            go_upto_region 16 with fail
            refine wp_region_lit ?_
            refine wpList_build0 rfl 29 rfl (msC ms0 (.slice none 0 0) (.slice none 0 0) (.slice none 0 0) (.slice none 0 0)).toArray Try.builtMsg ?_
            simp only [Act.put, List.setIfInBounds_toArray, List.set_cons_zero, List.set_cons_succ]
            refine wpList_store_blk rfl 29 _ _ rfl w.heap.size (msC ms0 (.slice none 0 0) (.slice none 0 0) (.slice none 0 0) (.slice none 0 0)) (msC ms0 (.slice none 0 0) (.slice none 0 0) (.slice none 0 0) (.slice none 0 0)) 29 rfl (by simp [Act.eval]) hZ6 rfl Try.sizeMsg HZO.out ?_
            intro w9 hB9 hK9
            have K9 := hD6.keep.then hK9 (by intro b hb hlt; simp at hb; omega)
            refine wpList_assign0 rfl _ rfl ?_
            refine wpList_nil ?_
            rename_i Kb hb
            refine hb _ _ ?_
            refine wp_ret ?_
            change bodyPost _ _ _ .ret _ _
            simp only [Act.put, Act.eval, List.setIfInBounds_toArray, List.set_cons_zero, List.set_cons_succ]
            refine bodyPost_ret (v := .tuple #[msV ms0 (.slice none 0 0) (.slice none 0 0) (.slice none 0 0) (.slice none 0 0), .int .i64 1]) ?_ rfl ⟨K9, by rw [HNO.out]⟩
            exact results_cellrow_tmp Try.results14 _ _ w.heap.size 29 _ (0, 0) _ rfl hB9 Try.underlying29 rfl Try.sizeMsg _ rfl
          | false =>
            have hsome : decM b = some M := by
              have e : decM b = if bad2 = true ∨ encM M = [] ∨ encM M ≠ b then none else some M := by unfold decM; simp only [HALL.out]
              have hn := HBN.out
              by_cases hc : bad2 = true ∨ encM M = [] ∨ encM M ≠ b
              · rw [e, if_pos hc] at hn; exact Bool.noConfusion hn
              · rw [e, if_neg hc]
            have HS := Lib.hid hsome
            clear hsome
            go_upto_region 17 with fail
            refine wp_region_lit ?_
            refine wpList_load_row rfl 29 _ rfl w1.heap.size rfl 29 (msC M vi vk vm vo).toArray (0, 0) _ hD6.blk Try.underlying29 rfl Try.sizeMsg ?_
            simp only [Act.put, List.setIfInBounds_toArray, List.set_cons_zero, List.set_cons_succ]
            refine wpList_store_blk rfl 29 _ _ rfl w.heap.size (msC ms0 (.slice none 0 0) (.slice none 0 0) (.slice none 0 0) (.slice none 0 0)) (msC M vi vk vm vo) 29 rfl (by simp [Act.eval]) hZ6 rfl Try.sizeMsg HONE.out ?_
            intro w9 hB9 hK9
            refine wpList_assign0 rfl _ rfl ?_
            refine wpList_nil ?_
            rename_i Kb hb
            refine hb _ _ ?_
            refine wp_ret ?_
            change bodyPost _ _ _ .ret _ _
            simp only [Act.put, Act.eval, List.setIfInBounds_toArray, List.set_cons_zero, List.set_cons_succ]
            have K9 := hD6.keep.then hK9 (by intro b hb hlt; simp at hb; omega)
            refine bodyPost_ret (v := .tuple #[msV M vi vk vm vo, .int .i64 0]) ?_ rfl ⟨K9, ?_⟩
            · exact results_cellrow_tmp Try.results14 _ _ w.heap.size 29 _ (0, 0) _ rfl hB9 Try.underlying29 rfl Try.sizeMsg _ rfl
            · rw [HS.out]
              exact ⟨vi, vk, vm, vo, rfl, ⟨(hD6.its.keep hK9 (fun b hb hm => by have := (hD6.its.lt b hb).1; simp at hm; omega)).rd, (hD6.mks.keep hK9 (fun b hb hm => by have := (hD6.mks.lt b hb).1; simp at hm; omega)).rd,
                hD6.mem.keep hK9 (fun b hb _ hm => by have := hD6.memlt b hb; simp at hm; omega), hD6.old.keep hK9 (fun b hb _ hm => by have := hD6.oldlt b hb; simp at hm; omega)⟩⟩
end Go.Proofs.Ytonghelcfbjknaa
