/- slog: the law SlogAll: its walk. -/
import Derived.Test.YtilhbhbdggghoaaHSl35
namespace Go.Proofs.Ytilhbhbdggghoaa
open Go.ChangeShapes Go.WideShapes Go.ChangeAt Go.RowKit
set_option linter.unusedVariables false
set_option linter.unusedSimpArgs false
set_option maxRecDepth 100000

set_option maxRecDepth 100000 in
set_option maxHeartbeats 16000000 in
theorem slogAll_walk (sg : Int) (ov : Value) (op : Bool) (w : World) (w0 : (Lit.int .i64 sg).wf = true) (w1 : IsOps6 w ov) :
    Calls Try.prog 6 #[.int .i64 sg, ov, .bool op] w fun e w' => e = .returned (.bool true) ∧ Below w.heap.size w w' := by
  obtain ⟨ops, hops, hol, hok⟩ := w1
  obtain ⟨_, oa, ocap, rfl, _, _⟩ := id hops
  obtain ⟨iA, hiA, hzA0, hzA1, hzA2⟩ := info_parts Try.infoAr
  have HOPS := Lib.hid (And.intro hops (And.intro hol hok))
  clear w0 hops hol hok
  go_enter Try.func6, Try.ntmps6
  go_wp2_with fail
  refine (begun6 w).mono ?_
  rintro e wb ⟨rfl, kb⟩
  have HKB := Lib.hid kb
  clear kb
  have hr1 : -10 < Int.tmod sg 10 ∧ Int.tmod sg 10 < 10 := ⟨Int.lt_tmod_of_pos _ (by decide), Int.tmod_lt_of_pos _ (by decide)⟩
  obtain ⟨r, hr⟩ : ∃ r, r = Int.tmod sg 10 := ⟨_, rfl⟩
  rw [← hr] at hr1
  go_upto_region 4 with fail
  go_cut [0] (fun s wc => ∃ segs : Nat, s = .int .i64 (segs : Int) ∧ 3 ≤ segs ∧ segs ≤ 12 ∧ wb = wc)
  case first =>
    go_wp2_with fail
    go_meet
    rw [← hr]
    obtain ⟨x, hx⟩ : ∃ x : Nat, (x : Int) = r % 10 := ⟨(r % 10).toNat, by omega⟩
    exact ⟨3 + x, by rw [← hx]; rfl, by omega, by omega, rfl⟩
  case rest =>
  obtain ⟨segs, rfl, hs1, hs2, rfl⟩ := hcut
  clear hr1 hr r
  go_wp2_with fail
  refine (New_any (2 + (segs : Int) * 8) (2 + segs * 8) (by omega)).mono ?_
  rintro e w3 ⟨d, sb, rfl, hD3, hK3, hb3, hsb3⟩
  have HDB := Lib.hid (And.intro hb3 hsb3)
  have HD3 := Lib.hid hD3
  have HK3 := Lib.hid (HKB.out.trans hK3)
  have HSG := Lib.hid (And.intro hs1 hs2)
  clear hD3 hK3 hb3 hsb3
  go_wp2_with fail
  refine (open_new HD3.out 2 segs ⟨by omega, by omega⟩ (by omega)).mono ?_
  rintro e w4 ⟨lb, vl, l, run, rfl, hL4, hS4, hr4, hK4⟩
  have hal : AlAll w w4 d sb segs 0 lb (.slice none 0 0) := ⟨0, [], by omega, ⟨w3.heap.size, vl, l, true, _, run, 0, 1, 0, hL4, HD3.out.keep hK4 (by simp) (by simp), by rw [hS4]; exact Tail.nil _, by simp, by simp, by omega, HSG.out, by simp, ⟨HK3.out.size, by have := HDB.out.1; have := HKB.out.size; omega, by have := HDB.out.2; have := HKB.out.size; omega⟩, HK3.out.trans hK4⟩, World.ownsRow_nil _ _ _ _, by simp, by simp⟩
  have HAL := Lib.hid hal
  clear hL4 hS4 hr4 hK4 hal
  go_wp2_with fail
  go_loopw [9, 11, 12] (fun s9 s11 s12 wr => ∃ (lb j : Nat), s9 = .pointer (some ⟨lb, 0, none⟩) ∧ s12 = .int .i64 (j : Int) ∧ j ≤ 80 ∧ AlAll w wr d sb segs j lb s11) (fun _ _ x _ => 81 - (intOf x).toNat)
  case atStart => exact ⟨lb, 0, rfl, rfl, by decide, HAL.out⟩
  case round =>
  obtain ⟨lb2, j, rfl, rfl, hj, hA⟩ := hrel
  clear HAL
  have HA := Lib.hid hA
  obtain ⟨_, A0, _, _, hrow0, _, _⟩ := id hA
  obtain ⟨aa, ac, he0⟩ := hrow0.slice
  subst he0
  generalize A0.length = an at *
  clear hA hrow0
  by_cases hin : j < ops.length ∧ j < 80
  · obtain ⟨hlt, hlt80⟩ := hin
    have q0 : decide ((j : Int) < (ops.length : Int)) = true := decide_eq_true (by omega)
    have q0' : decide (j < ops.length) = true := decide_eq_true hlt
    have q1 : decide ((j : Int) < 80) = true := decide_eq_true (by omega)
    obtain ⟨y, hy⟩ : ∃ y, ops[j]? = some y := ⟨_, List.getElem?_eq_getElem hlt⟩
    obtain ⟨og, oo, ocap2, he, _, hog, c0, c1, c2⟩ := ops6_at HOPS.out.1 j y hy
    simp only [Value.slice.injEq] at he
    obtain ⟨rfl, _, rfl⟩ := he
    have hyo := HOPS.out.2.2 y (List.mem_of_getElem? hy)
    obtain ⟨y0, ⟨y1, m⟩, ⟨y2, kp⟩⟩ := y
    simp only at c0 c1 c2
    obtain ⟨hw0, ⟨hm, hml, hmb⟩, hkp, hkpl⟩ := hyo
    simp only at hw0 hm hml hmb hkp hkpl
    have HKW : Hid (Keep [] w wr) := Lib.hid (by obtain ⟨_, _, _, h, _⟩ := HA.out; exact h.keep)
    rw [← HKW.out.cell hog (by simp)] at c0 c1 c2
    have hmr := hm.keep HKW.out (by simp)
    obtain ⟨_, ma, mcap, rfl, _, _⟩ := id hm
    obtain ⟨_, pa, pcap, rfl, _, _⟩ := id hkp
    have hmw := hm
    have HM := Lib.hid (And.intro hm (And.intro hml hmb))
    have HMR := Lib.hid hmr
    clear hy hm hkp hw0 hkpl hmw hmb hmr
    have hml2 := hml
    go_wp2_with fail
    refine (Short_any _ m 310 (HMR.out.alloc _) (by omega) hml2).mono ?_
    rintro e w' ⟨v1, rfl, rfl, h1, ho1⟩
    have h1n := rv_swap (o' := .cells #[.int .i64 y0, v1, .slice pa kp.length pcap] 48) HMR.out h1 (by rw [List.length_take]; omega) ho1
    have HOWN : Hid (0 < (m.take 310).length → ∀ x, v1.ownBlock = some x → x < w.heap.size) := Lib.hid (fun hp x hx => HM.out.1.own_lt (by rw [List.length_take] at hp; omega) x (by rw [← ho1]; exact hx))
    have HB310 : Hid (∀ c ∈ m.take 310, c < 256) := Lib.hid (fun c hc => HM.out.2.2 c (List.mem_of_mem_take hc))
    have HM310 : Hid ((m.take 310).length ≤ 310) := Lib.hid (by rw [List.length_take]; omega)
    generalize m.take 310 = m3 at *
    obtain ⟨_, va, vcap, rfl, _, _⟩ := id h1
    have hb0 := Blk.new wr [.int .i64 y0, .slice va m3.length vcap, .slice pa kp.length pcap] 48
    have KB := (Keep.refl [] wr).alloc (.cells #[.int .i64 y0, .slice va m3.length vcap, .slice pa kp.length pcap] 48)
    simp only [List.toArray] at hb0
    have HRD := Lib.hid h1n
    have HBL := Lib.hid hb0
    have HKB2 := Lib.hid KB
    clear h1 h1n ho1 hb0 KB c0 c1 c2 q0 q0' q1 hml2
    go_upto_region 15 with fail
    obtain ⟨ob, hob⟩ : ∃ b, b = wr.heap.size := ⟨_, rfl⟩
    rw [← hob] at HBL ⊢
    have HOB := Lib.hid hob
    clear hob
    generalize wr.alloc (.cells #[.int .i64 y0, .slice va m3.length vcap, .slice pa kp.length pcap] 48) = w1 at *
    have HA1 := Lib.hid (HA.out.still HKB2.out)
    have k0 : w1.cell? ⟨ob, 0, none⟩ = some (.int .i64 y0) := HBL.out.cell 0
    have k1 : w1.cell? ⟨ob, 1, none⟩ = some (.slice va m3.length vcap) := HBL.out.cell 1
    obtain ⟨N, hN⟩ : ∃ N, N = m3.length := ⟨_, rfl⟩
    rw [← hN] at k1
    have HN := Lib.hid hN
    clear hN
    have HKW1 := Lib.hid (HKW.out.trans HKB2.out)
    by_cases hk0 : y0 = 0
    · subst hk0
      by_cases hbad : N < 1 ∨ 300 < N
      · have HBAD := Lib.hid (append_bad (w := w1) lb2 va N vcap hbad)
        go_wp2_with fail
        refine HBAD.out.mono ?_
        rintro e w2 ⟨rfl, hK2⟩
        have k12 : w2.cell? ⟨ob, 1, none⟩ = some (.slice va N vcap) := by
          have := (HBL.out.keep hK2 (by simp)).cell 1
          rw [HN.out]; exact this
        have HA2 := Lib.hid (HA1.out.still hK2).next
        clear hK2
        rcases hbad with hb1 | hb1
        · have hN0 : N = 0 := by omega
          subst hN0
          clear hb1
          go_wp2_with fail
          go_roundw
          case rel => exact ⟨lb2, j + 1, rfl, by go_num, by omega, HA2.out⟩
          case measure => simp only [intOf]; omega
        · have q2 : decide ((N : Int) < 1) = false := decide_eq_false (by omega)
          have q2' : decide (N < 1) = false := decide_eq_false (by omega)
          have q3 : decide ((N : Int) > 300) = true := decide_eq_true (by omega)
          have q3' : decide (300 < N) = true := decide_eq_true hb1
          go_wp2_with fail
          go_roundw
          case rel => exact ⟨lb2, j + 1, rfl, by go_num, by omega, HA2.out⟩
          case measure => simp only [intOf]; omega
      · obtain ⟨k, A, hk, hlog, hrow, hoA, hlA⟩ := HA1.out
        obtain ⟨aa2, ac2, he⟩ := hrow.slice
        injection he with he1 he2 he3
        subst he1 he2 he3
        have hbl : 1 ≤ m3.length ∧ m3.length ≤ 300 := by have := HN.out; omega
        have HAPP := Lib.hid (hlog.app (by omega) HRD.out hbl HB310.out (fun q hq => HOWN.out (by omega) q hq))
        rw [← HN.out] at HAPP
        have HROW := Lib.hid hrow
        have HOA := Lib.hid hoA
        have HLA := Lib.hid hlA
        have HBLN := Lib.hid hbl
        have hbl2 : 1 ≤ N ∧ N ≤ 300 := by have := HN.out; omega
        have HBL2 := Lib.hid hbl2
        have HKK := Lib.hid hk
        have HLOG1 := Lib.hid hlog
        clear hk hlog hrow hoA hlA hbl hbad
        go_wp2_with fail
        refine HAPP.out.mono ?_
        rintro e w2 ⟨nx, S, rfl, hnx1, hnxR, hlog2, hK2, hap⟩
        have hBox := HBL.out.keep hK2 (fun h => hap.2 ob (.inr HBL.out.ty) h)
        have hRow2 := HROW.out.keep hK2 (fun b hb => hap.2 b (.inl (HROW.out.ty b hb)))
        have hRd2 : Rd w2 (.slice va N vcap) m3 := by rw [HN.out]; exact HRD.out.keepS hK2 (fun hp b hb => hap.1 b (HOWN.out hp b hb))
        have k12 : w2.cell? ⟨ob, 1, none⟩ = some (.slice va N vcap) := by rw [HN.out]; exact hBox.cell 1
        have HROW2 := Lib.hid hRow2
        have HRD2 := Lib.hid hRd2
        have HLOG2 := Lib.hid hlog2
        have HNXR := Lib.hid hnxR
        have hq2 : decide ((N : Int) < 1) = false := decide_eq_false (by omega)
        have hq2' : decide (N < 1) = false := decide_eq_false (by omega)
        have hq3 : decide ((N : Int) > 300) = false := decide_eq_false (by omega)
        have hq3' : decide (300 < N) = false := decide_eq_false (by omega)
        have hq4 : decide ((nx : Int) < 1) = false := decide_eq_false (by omega)
        have hq4' : decide (nx < 1) = false := decide_eq_false (by omega)
        clear hBox hRow2 hRd2 hlog2 hnxR hK2 hap k0 k1
        have HNX1 := Lib.hid hnx1
        obtain ⟨n, hn⟩ : ∃ n, n = A.length := ⟨_, rfl⟩
        rw [← hn]
        have HNA := Lib.hid hn
        clear hn
        go_upto_region 27 with fail
        go_cut [130] (fun s wc => s = .bool false ∧ w2 = wc)
        case first =>
          cases n with
          | zero =>
            have q5 : decide ((0 : Int) > 0) = false := by decide
            go_wp2_with fail
            go_meet
            exact ⟨rfl, rfl⟩
          | succ n1 =>
            obtain ⟨a, ha⟩ : ∃ a, A[n1]? = some a := ⟨_, List.getElem?_eq_getElem (by have := HNA.out; omega)⟩
            obtain ⟨g, gc, hg, hcl⟩ := HROW2.out.at_ (by have := HNA.out; omega)
            injection hg with hg1 hg2 hg3
            subst hg1
            obtain ⟨p0, _⟩ := hcl n1 a ha
            have hlt2 := HNXR.out a.r (List.mem_map.2 ⟨a, List.mem_of_getElem? ha, rfl⟩)
            have q5 : decide ((nx : Int) ≤ (a.r.1 : Int)) = false := decide_eq_false (by omega)
            have q5' : decide (nx ≤ a.r.1) = false := decide_eq_false (by omega)
            have q6 : n1 < 80 := by have := HNA.out; have := HLA.out; omega
            have q7 : decide (((n1 + 1 : Nat) : Int) > 0) = true := decide_eq_true (by omega)
            have q7' : decide ((n1 : Int) + 1 > 0) = true := decide_eq_true (by omega)
            clear hcl hg2 hg3 ha hlt2
            go_wp2_with fail
            go_meet
            exact ⟨rfl, rfl⟩
        case rest =>
        obtain ⟨rfl, rfl⟩ := hcut
        clear hq2 hq2' hq3 hq3' hq4 hq4'
        have hcv : (convert 29 9 (.slice va N vcap)).run Try.prog w2 = .ok (.string (toStr m3)) w2 := Rd.str HRD2.out HB310.out Try.underlying29 Try.underlying5 Try.underlying9
        have hOW : w2.ownsRow w.heap.size 51 4 (.slice aa n ac) n (arCs A) := by rw [HNA.out]; exact HROW2.out
        have hn80 : n ≤ 80 := by have := HNA.out; have := HLA.out; omega
        have hWS : w.heap.size ≤ w2.heap.size := HLOG2.out.keep.size
        go_upto_region 33 with (at_builtin; refine wpList_append_src _ rfl _ _ 45 45 rfl w.heap.size 51 iA _ 4 40 Try.underlying45 hiA hzA0 hzA1 hzA2 rfl (by decide) (.slice aa n ac) n (arCs A) rfl (World.ownsRow.alloc hOW _) _ 1 _ rfl (srcAr w2 ⟨(nx, m3), 0⟩ rfl Try.underlying45 _ rfl _ rfl _ _) (by unfold maxLen; omega) (by omega) (by simp; omega) ?_; intro v2 w5 g2 g3 g4 g5; obtain ⟨v2a, v2c, rfl⟩ := ownsRow_slice g2)
        have hk5 := Keep.grown g3
        have hR2 : ARow w2 w.heap.size (.slice aa n ac) A := by rw [HNA.out]; exact HROW2.out
        have hlog5 := (HLOG2.out.still ((Keep.refl [] w2).alloc _)).row (hR2.keep ((Keep.refl [] w2).alloc _) (by simp)) hk5
        have hrow5 := ARow.app (A := A) ⟨(nx, m3), 0⟩ (by rw [← HNA.out]; exact g2)
        have HALL : Hid (AlAll w w5 d sb segs (j + 1) lb2 (.slice v2a (n + 1) v2c)) := Lib.hid ⟨k + 1, A ++ [⟨(nx, m3), 0⟩], by have := HKK.out; omega, by rw [List.map_append]; exact hlog5, hrow5, fun x hx => by
          rcases List.mem_append.1 hx with hx | hx
          · exact ⟨(HOA.out x hx).1, (HOA.out x hx).2.1, by have := (HOA.out x hx).2.2; omega⟩
          · have := List.mem_singleton.1 hx
            subst this
            exact ⟨HBLN.out.2, HB310.out, Nat.zero_le _⟩, by simp; have := HLA.out; omega⟩
        clear g2 g3 g4 g5 hk5 hR2 hlog5 hrow5 hOW hcv k12
        go_wp2_with fail
        refine (HALL.out.shows (by omega) _ (by first | rfl | omega | (push_cast; rfl))).mono ?_
        rintro e wz ⟨rfl, hKz⟩
        have HZ := Lib.hid (HALL.out.still hKz)
        clear hKz
        go_wp2_with fail
        go_roundw
        case rel => exact ⟨lb2, j + 1, rfl, by go_num, by omega, HZ.out⟩
        case measure => simp only [intOf]; omega
    · obtain ⟨k, A, hk, hlog, hrow, hoA, hlA⟩ := HA1.out
      obtain ⟨aa2, ac2, he⟩ := hrow.slice
      injection he with he1 he2 he3
      subst he1 he2 he3
      have HFL := Lib.hid (hlog.flush (by omega))
      have HROW := Lib.hid hrow
      have HOA := Lib.hid hoA
      have HLA := Lib.hid hlA
      have HKK := Lib.hid hk
      obtain ⟨n, hn⟩ : ∃ n, n = A.length := ⟨_, rfl⟩
      rw [← hn]
      have HNA := Lib.hid hn
      clear hk hlog hrow hoA hlA hn
      by_cases hk1 : y0 = 1
      · subst hk1
        clear hk0
        go_wp2_with fail
        refine HFL.out.mono ?_
        rintro e w2 ⟨S, rfl, hlog2, hK2, hap⟩
        have HALL : Hid (AlAll w w2 d sb segs (j + 1) lb2 (.slice aa n ac)) := Lib.hid ⟨k + 1, A, by have := HKK.out; omega, hlog2, by rw [HNA.out]; exact HROW.out.keep hK2 (fun b hb => hap.2 b (.inl (HROW.out.ty b hb))), fun a ha => ⟨(HOA.out a ha).1, (HOA.out a ha).2.1, by have := (HOA.out a ha).2.2; omega⟩, by have := HLA.out; omega⟩
        clear hlog2 hK2 hap
        go_wp2_with fail
        refine (HALL.out.shows (by omega) _ (by first | rfl | omega | (push_cast; rfl))).mono ?_
        rintro e wz ⟨rfl, hKz⟩
        have HZ := Lib.hid (HALL.out.still hKz)
        clear hKz
        go_wp2_with fail
        go_roundw
        case rel => exact ⟨lb2, j + 1, rfl, by go_num, by omega, HZ.out⟩
        case measure => simp only [intOf]; omega
      · have q5 : (y0 == 0) = false := by simpa using hk0
        have q6 : (y0 == 1) = false := by simpa using hk1
        clear hk0 hk1
        cases op with
        | false =>
          have HAN := Lib.hid HA1.out.next
          go_wp2_with fail
          go_roundw
          case rel => exact ⟨lb2, j + 1, rfl, by go_num, by omega, by rw [HNA.out]; exact HAN.out⟩
          case measure => simp only [intOf]; omega
        | true =>
          go_wp2_with fail
          refine HFL.out.mono ?_
          rintro e w2 ⟨S, rfl, hlog2, hK2, hap⟩
          have HRO := Lib.hid (hlog2.reopen (by have := HKK.out; omega))
          have HROW2 := Lib.hid (HROW.out.keep hK2 (fun b hb => hap.2 b (.inl (HROW.out.ty b hb))))
          clear hlog2 hK2 hap
          go_wp2_with fail
          refine HRO.out.mono ?_
          rintro e w3b ⟨lb3, rfl, hlog3, hK3b⟩
          have HROW3 := Lib.hid (HROW2.out.keep hK3b (by simp))
          have HLOG3 := Lib.hid hlog3
          clear hlog3 hK3b
          cases n with
          | zero =>
            have HALL : Hid (AlAll w w3b d sb segs (j + 1) lb3 (.slice aa 0 ac)) := Lib.hid ⟨k + 1 + 1, A, by have := HKK.out; omega, HLOG3.out, by rw [HNA.out]; exact HROW3.out, fun a ha => ⟨(HOA.out a ha).1, (HOA.out a ha).2.1, by have := (HOA.out a ha).2.2; omega⟩, by have := HLA.out; omega⟩
            have q7 : decide ((0 : Int) > 0) = false := by decide
            go_wp2_with fail
            refine (HALL.out.shows (by omega) _ (by first | rfl | omega | (push_cast; rfl))).mono ?_
            rintro e wz ⟨rfl, hKz⟩
            have HZ := Lib.hid (HALL.out.still hKz)
            clear hKz
            go_wp2_with fail
            go_roundw
            case rel => exact ⟨lb3, j + 1, rfl, by go_num, by omega, HZ.out⟩
            case measure => simp only [intOf]; omega
          | succ n1 =>
            obtain ⟨A0, a, hA0⟩ : ∃ A0 a, A = A0 ++ [a] := by
              rcases List.eq_nil_or_concat A with h | ⟨A0, a, h⟩
              · have := HNA.out; rw [h] at this; simp at this
              · exact ⟨A0, a, by rw [h, List.concat_eq_append]⟩
            subst hA0
            have hn1 : n1 = A0.length := by have := HNA.out; simp at this; exact this
            obtain ⟨g, gc, hg, hcl⟩ := HROW3.out.at_ (by simp)
            injection hg with hg1 hg2 hg3
            subst hg1
            obtain ⟨_, _, p2, _⟩ := hcl n1 a (by rw [hn1]; simp)
            have hop := (HOA.out a (by simp)).2.2
            have hST := (show ARow w3b w.heap.size (.slice (some ⟨g, 0, none⟩) (A0.length + 1) ac) (A0 ++ [a]) by have := HROW3.out; simpa using this).setOp (.int .i64 ((a.op : Int) + 1)) (by simp)
            rw [← hn1] at hST
            have HST := Lib.hid hST
            have HN1 := Lib.hid hn1
            have q6' : n1 < 80 := by have := HLA.out; simp at this; omega
            have q7 : decide (((n1 + 1 : Nat) : Int) > 0) = true := decide_eq_true (by omega)
            have q7' : decide ((n1 : Int) + 1 > 0) = true := decide_eq_true (by omega)
            have hop2 : a.op ≤ 80 := by omega
            have HOP := Lib.hid hop
            clear hcl hg2 hg3 hST hn1 hop
            have f0 : w3b.frozen? ⟨g, n1 * 4 + 2, none⟩ = false := HROW3.out.free _
            go_upto_region 33 with fail
            have HALL : Hid (AlAll w (w3b.setCell ⟨g, n1 * 4 + 2, none⟩ (.int .i64 ((a.op : Int) + 1))) d sb segs (j + 1) lb3 (.slice (some ⟨g, 0, none⟩) (n1 + 1) ac)) := Lib.hid ⟨k + 1 + 1, A0 ++ [⟨a.r, a.op + 1⟩], by have := HKK.out; omega, by
                have h1 := HLOG3.out.row HROW3.out HST.out.2
                rw [show (A0 ++ [(⟨a.r, a.op + 1⟩ : Ar)]).map Ar.r = (A0 ++ [a]).map Ar.r by simp]
                exact h1, HST.out.1, fun x hx => by
              rcases List.mem_append.1 hx with hx | hx
              · have h0 := HOA.out x (List.mem_append_left _ hx)
                exact ⟨h0.1, h0.2.1, by have := h0.2.2; omega⟩
              · have := List.mem_singleton.1 hx
                subst this
                have h0 := HOA.out a (by simp)
                exact ⟨h0.1, h0.2.1, by have := h0.2.2; show a.op + 1 ≤ j + 1; omega⟩, by have := HLA.out; simp at this ⊢; omega⟩
            generalize w3b.setCell ⟨g, n1 * 4 + 2, none⟩ (.int .i64 ((a.op : Int) + 1)) = w7 at *
            clear p2 f0
            go_wp2_with fail
            refine (HALL.out.shows (by omega) _ (by first | rfl | omega | (push_cast; rfl))).mono ?_
            rintro e wz ⟨rfl, hKz⟩
            have HZ := Lib.hid (HALL.out.still hKz)
            clear hKz
            go_wp2_with fail
            go_roundw
            case rel => exact ⟨lb3, j + 1, rfl, by go_num, by omega, HZ.out⟩
            case measure => simp only [intOf]; omega
  · have HEND : Hid (Keep [] w wr) := Lib.hid (by obtain ⟨_, _, _, h, _⟩ := HA.out; exact h.keep)
    by_cases hlt : j < ops.length
    · obtain rfl : j = 80 := by omega
      have q0 : decide (((80 : Nat) : Int) < (ops.length : Int)) = true := decide_eq_true (by omega)
      have q0' : decide ((80 : Int) < (ops.length : Int)) = true := decide_eq_true (by omega)
      clear hin
      go_wp2_with fail
      go_ret
      exact ⟨rfl, HEND.out.below⟩
    · have q0 : decide ((j : Int) < (ops.length : Int)) = false := decide_eq_false (by omega)
      have q0' : decide (j < ops.length) = false := decide_eq_false hlt
      clear hin
      go_wp2_with fail
      go_ret
      exact ⟨rfl, HEND.out.below⟩
end Go.Proofs.Ytilhbhbdggghoaa
