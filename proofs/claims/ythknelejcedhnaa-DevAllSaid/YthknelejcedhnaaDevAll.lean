/- The law DevAll: its walk. -/
import Derived.Test.YthknelejcedhnaaDevTwice
import Derived.Deep.QuietTactic
import Derived.BigQuiet
namespace Go.Proofs.Ythknelejcedhnaa
open Go.ChangeShapes Go.WideShapes Go.ChangeAt Go.RowKit
set_option linter.unusedVariables false
set_option linter.unusedSimpArgs false

/-- The device and the reference's, side by side. -/
structure Both (w : World) (B b sb r nb fb db : Nat) (l : List Sec) (c : Nat) : Prop where
  d : IsDev w b sb l c
  r : IsRef w B r nb fb db l c
  lowb : B ≤ b
  lowsb : B ≤ sb
  base : B ≤ w.heap.size
theorem Both.keep {w w' : World} {B b sb r nb fb db : Nat} {l : List Sec} {c : Nat} (h : Both w B b sb r nb fb db l c) (k : Keep [] w w') : Both w' B b sb r nb fb db l c :=
  ⟨h.d.keep k (by simp) (by simp), h.r.keep k (by simp), h.lowb, h.lowsb, Nat.le_trans h.base k.size⟩
theorem IsDev.types {w : World} {b sb : Nat} {l : List Sec} {c : Nat} (h : IsDev w b sb l c) : ∀ x ∈ [b, sb], ¬ Ty w x 5 ∧ ¬ Ty w x 22 ∧ ¬ Ty w x 4 ∧ ¬ Ty w x 60 := by
  intro x hx
  have ht : Ty w x 76 ∨ Ty w x 79 := by
    simp at hx
    rcases hx with rfl | rfl
    · exact .inl h.dev.ty
    · exact .inr h.secs.ty
  rcases ht with ht | ht
  · exact ⟨fun k => ht.ne k (by decide) rfl, fun k => ht.ne k (by decide) rfl, fun k => ht.ne k (by decide) rfl, fun k => ht.ne k (by decide) rfl⟩
  · exact ⟨fun k => ht.ne k (by decide) rfl, fun k => ht.ne k (by decide) rfl, fun k => ht.ne k (by decide) rfl, fun k => ht.ne k (by decide) rfl⟩
theorem IsRef.apart {w : World} {B r nb fb db : Nat} {l : List Sec} {c : Nat} (h : IsRef w B r nb fb db l c) {x : Nat} (hx : Ty w x 76 ∨ Ty w x 79) : x ≠ r ∧ x ≠ nb ∧ x ≠ fb ∧ x ≠ db := by
  obtain ⟨_, _, h1, _⟩ := h.dev
  obtain ⟨_, _, h2, _⟩ := h.now
  obtain ⟨_, _, h3, _⟩ := h.fast
  rcases hx with hx | hx
  · exact ⟨hx.ne h1.ty (by decide), hx.ne h2.ty (by decide), hx.ne h3.ty (by decide), hx.ne h.dirty.ty (by decide)⟩
  · exact ⟨hx.ne h1.ty (by decide), hx.ne h2.ty (by decide), hx.ne h3.ty (by decide), hx.ne h.dirty.ty (by decide)⟩
theorem Both.lt {w : World} {B b sb r nb fb db : Nat} {l : List Sec} {c : Nat} (h : Both w B b sb r nb fb db l c) : b < w.heap.size ∧ sb < w.heap.size ∧ r < w.heap.size ∧ nb < w.heap.size ∧ fb < w.heap.size ∧ db < w.heap.size ∧ B ≤ r ∧ B ≤ nb ∧ B ≤ fb ∧ B ≤ db ∧ B ≤ b ∧ B ≤ sb := by
  obtain ⟨_, _, h1, _⟩ := h.r.dev
  obtain ⟨_, _, h2, _⟩ := h.r.now
  obtain ⟨_, _, h3, _⟩ := h.r.fast
  have := h.r.low
  exact ⟨h.d.dev.lt, h.d.secs.lt, h1.lt, h2.lt, h3.lt, h.r.dirty.lt, this.1, this.2.1, this.2.2.1, this.2.2.2, h.lowb, h.lowsb⟩

theorem Rv.move {w w' : World} {sz : Nat} {v : Value} {n : Nat} {vs : List Value} (h : Rv w sz v n vs) (hm : 0 < vs.length → ∀ b, v.ownBlock = some b → b < w'.heap.size ∧ w'.heap[b]? = w.heap[b]?) : Rv w' sz v n vs := by
  obtain ⟨hl, a, cap, rfl, hc, hh⟩ := h
  refine ⟨hl, a, cap, rfl, hc, fun hp => ?_⟩
  obtain ⟨sb, so, rfl, hs, hat⟩ := hh hp
  have hx := hm hp sb rfl
  exact ⟨sb, so, rfl, hx.1, fun i hi => by rw [World.cell?_of_block (w := w) (w' := w') (a := ⟨sb, so + i, none⟩) hx.2]; exact hat i hi⟩
theorem Rv.own_lt {w : World} {v : Value} {n : Nat} {vs : List Value} (h : Rv w 1 v n vs) (hn : 0 < n) : ∀ b, v.ownBlock = some b → b < w.heap.size := by
  obtain ⟨sb, so, cap, rfl, _, hs, _⟩ := h.at1 hn
  intro b hb
  cases hb
  exact hs
theorem Rv.keepS {w w' : World} {S : List Nat} {v : Value} {n : Nat} {vs : List Value} (h : Rv w 1 v n vs) (k : Keep S w w') (hS : 0 < n → ∀ b, v.ownBlock = some b → b ∉ S) : Rv w' 1 v n vs := by
  refine h.move fun hp b hb => ?_
  have hl := h.len
  have hn : 0 < n := by omega
  have hb2 := h.own_lt hn b hb
  exact ⟨Nat.lt_of_lt_of_le hb2 k.size, k.block b hb2 (hS hn b hb)⟩
/-- What reads behind one block reads behind another one in its place. -/
theorem rv_swap {w : World} {v v' : Value} {n m : Nat} {vs us : List Value} {o o' : Obj} (h : Rv w 1 v n vs) (h' : Rv (w.alloc o) 1 v' m us) (hn : 0 < m → 0 < n) (ho : v'.ownBlock = v.ownBlock) : Rv (w.alloc o') 1 v' m us := by
  refine h'.move fun hp b hb => ?_
  have hl := h'.len
  have hb2 := h.own_lt (hn (by omega)) b (by rw [← ho]; exact hb)
  exact ⟨by simp; omega, by rw [Below.heap_alloc w o' b hb2, Below.heap_alloc w o b hb2]⟩
set_option maxRecDepth 100000 in
set_option maxHeartbeats 8000000 in
theorem devAll_walk (n : Int) (ov : Value) (w : World) (w0 : (Lit.int .i64 n).wf = true) (w1 : IsOps w ov) :
    Calls Try.prog 10 #[.int .i64 n, ov] w fun e w' => e = .returned (.bool true) ∧ Below w.heap.size w w' := by
  have hn := i64_wf w0
  clear w0
  obtain ⟨ops, hops, hol, hok⟩ := w1
  obtain ⟨_, oa, ocap, rfl, _, _⟩ := id hops
  obtain ⟨ib, hib, hzb0, hzb1, hzb2⟩ := info_parts Try.infoB
  obtain ⟨k, hk⟩ : ∃ k : Nat, (k : Int) = min (max (min n 20) 1) 2048 := ⟨(min (max (min n 20) 1) 2048).toNat, by omega⟩
  have hkk : ∃ N : Int, (n ≤ 20 ∧ N = n ∨ 20 < n ∧ N = 20) ∧ (k : Int) = min (max N 1) 2048 := by
    by_cases h : n ≤ 20
    · exact ⟨n, .inl ⟨h, rfl⟩, by omega⟩
    · exact ⟨20, .inr ⟨by omega, rfl⟩, by omega⟩
  clear hk
  obtain ⟨N, hN, hk⟩ := hkk
  have HK := Lib.hid hk
  clear hk
  go_enter Try.func10, Try.ntmps10
  go_wp2_with fail
  refine (begun4 w).mono ?_
  rintro e w0 ⟨rfl, k0⟩
  go_upto_if 19 with fail
  go_cut [0] (fun s0 wc => w0 = wc ∧ s0 = .int .i64 N)
  case first =>
    rcases hN with ⟨h, rfl⟩ | ⟨h, rfl⟩
    · go_wp2_with fail
      go_meet
      exact ⟨rfl, rfl⟩
    · go_wp2_with fail
      go_meet
      exact ⟨rfl, rfl⟩
  case rest =>
    obtain ⟨rfl, rfl⟩ := hcut
    go_wp2_with fail
    refine (New_any N k HK.out).mono ?_
    rintro e w1 ⟨b, sb, rfl, hD1, hK1, hb, hsb⟩
    go_wp2_with fail
    refine (NewDev_any N k HK.out).mono ?_
    rintro e w2 ⟨r, nb, fb, db, rfl, hR2, hK2⟩
    have hsz := k0.size
    have hsz1 := hK1.size
    have hsz2 := hK2.size
    have hBo : Both w2 w.heap.size b sb r nb fb db (List.replicate k zeroSec) 0 := ⟨hD1.keep hK2 (by simp) (by simp), hR2.mono (by omega), by omega, by omega, by omega⟩
    have hKK := (k0.trans hK1).trans hK2
    clear hD1 hR2 hK1 hK2 hb hsb
    go_wp2_with fail
    go_loopw [6, 7, 8] (fun s6 s7 i wr => ∃ (j c b sb r nb fb db : Nat) (L : List Sec), j ≤ ops.length ∧ j ≤ 50 ∧ i = .int .i64 j ∧ s6 = .pointer (some ⟨b, 0, none⟩) ∧ s7 = .pointer (some ⟨r, 0, none⟩) ∧ c ≤ j ∧ Both wr w.heap.size b sb r nb fb db L c ∧ Keep [] w wr) (fun _ _ i _ => ops.length - (intOf i).toNat)
    case atStart => exact ⟨0, 0, b, sb, r, nb, fb, db, _, by omega, by omega, rfl, rfl, rfl, by omega, hBo, hKK⟩
    case round =>
      obtain ⟨j, c, b1, sb1, r1, nb1, fb1, db1, L, hj, hj50, rfl, rfl, rfl, hc, hBB, hK⟩ := hrel
      clear hBo hKK
      by_cases hin : j < ops.length ∧ j < 50
      · obtain ⟨hlt, hlt50⟩ := hin
        have q0 : (j : Int) < ops.length := by omega
        have q5 : decide (j < ops.length) = true := decide_eq_true hlt
        have q6 : (j : Int) < 50 := by omega
        obtain ⟨y, hy⟩ : ∃ y, ops[j]? = some y := ⟨_, List.getElem?_eq_getElem hlt⟩
        obtain ⟨og, oo, ocap2, he, _, hog, c0, c1, c2, c3⟩ := ops_at hops j y hy
        simp only [Value.slice.injEq] at he
        obtain ⟨rfl, _, rfl⟩ := he
        have hyo := hok y (List.mem_of_getElem? hy)
        obtain ⟨y0, y1, ⟨y2, m⟩, ⟨y3, kp⟩⟩ := y
        simp only at c0 c1 c2 c3
        obtain ⟨hw0, hw1, ⟨hm, hml, hmb⟩, hkp, hkpl⟩ := hyo
        simp only at hw0 hw1 hm hml hmb hkp hkpl
        rw [← hK.cell hog (by simp)] at c0 c1 c2 c3
        have hmr := hm.keep hK (by simp)
        have hkr := hkp.keep hK (by simp)
        obtain ⟨_, ma, mcap, rfl, _, _⟩ := id hm
        obtain ⟨_, pa, pcap, rfl, _, _⟩ := id hkp
        have hmw := hm
        clear hy hm hkp
        go_upto_if 45 with fail
        refine (Short_any _ m 70 (hmr.alloc _) (by omega) hml).mono ?_
        rintro e w' ⟨v1, rfl, rfl, h1, ho1⟩
        have hb70 : ∀ c ∈ m.take 70, c < 256 := fun c hc => hmb c (List.mem_of_mem_take hc)
        have h1n := rv_swap (o' := .cells #[.int .i64 y0, .int .i64 y1, v1, .slice pa kp.length pcap] 56) hmr h1 (by rw [List.length_take]; omega) ho1
        have h70 : (m.take 70).length ≤ 70 ∧ (m.take 70).length ≤ m.length := by rw [List.length_take]; omega
        have hown : 0 < (m.take 70).length → ∀ x, v1.ownBlock = some x → x < w.heap.size := fun hp x hx => hmw.own_lt (by omega) x (by rw [← ho1]; exact hx)
        obtain ⟨_, va, vcap, rfl, _, _⟩ := id h1
        clear h1 hmb hml hmw
        generalize m.take 70 = m7 at *
        go_upto_if 45 with fail
        go_cut [] (fun wc => ∃ (kv : Value) (keep : List Bool), Blk wc wr.heap.size [.int .i64 y0, .int .i64 y1, .slice va m7.length vcap, kv] 56 ∧ Rd wc (.slice va m7.length vcap) m7 ∧ Rv wc 1 kv keep.length (bools keep) ∧ keep.length ≤ 30 ∧ Keep [] wr wc)
        case first =>
          by_cases hkl : 30 < kp.length
          · have q1 : (30 : Int) < kp.length := by omega
            go_wp2_with (refine wpList_slice_to _ _ _ _ _ _ _ 4 ib Try.underlying54 hib hzb1 _ kp.length _ _ 30 rfl rfl rfl (hkr.alloc _) (by omega) ?_; intro v6 h6 o6; obtain ⟨_, a6, c6, rfl, _, _⟩ := id h6)
            go_meet
            have e6 : (bools kp).take 30 = bools (kp.take 30) := by simp [bools, List.map_take]
            have l6 : (kp.take 30).length = 30 := by rw [List.length_take]; omega
            refine ⟨_, kp.take 30, Blk.new _ _ _, ?_, ?_, by omega, (Keep.refl _ _).alloc _⟩
            · exact rv_swap hmr h1n (by omega) ho1
            · rw [e6] at h6
              rw [l6]
              exact rv_swap hkr h6 (by omega) o6
          · go_wp2_with fail
            go_meet
            exact ⟨_, kp, Blk.new _ _ _, h1n, hkr.alloc _, by omega, (Keep.refl _ _).alloc _⟩
        case rest =>
          obtain ⟨kv, keep, hO, hBc, hKc, hk30, hKK⟩ := hcut
          have hB2 := hBB.keep hKK
          have hK2 := hK.trans hKK
          have hlt2 := hBB.lt
          obtain ⟨_, ka, kcap, rfl, _, _⟩ := id hKc
          have o0 := hO.cell 0
          have o1 := hO.cell 1
          have o2 := hO.cell 2
          have o3 := hO.cell 3
          simp only [List.getElem?_cons_zero, List.getElem?_cons_succ] at o0 o1 o2 o3
          have hob : wr.heap.size < wc.heap.size := hO.lt
          generalize wr.heap.size = ob at *
          clear h1n hmr hkr hBB hK hKK c0 c1 c2 c3 ho1
          have hm7 : m7.length ≤ 70 := h70.1
          have hlw := hlt2
          have hszc := hK2.size
          by_cases hy0 : y0 = 0
          · subst hy0
            have hdr : Keep [] wc wc.drew := (Keep.refl [] _).drew
            have hDd := hB2.d.keep hdr (by simp) (by simp)
            have hRd := hB2.r.keep hdr (by simp)
            have hBd := hBc.keep hdr (by simp)
            go_wp2_with fail
            go_region_held3 (fun w' => w'.cell? ⟨ob, 1, none⟩ = some (.int .i64 y1) ∧ w'.cell? ⟨ob, 2, none⟩ = some (.slice va m7.length vcap)) (first | go_keep | (exact ⟨g1, g2⟩) | (exact ⟨f1, f2⟩))
              (first
                | (go_at_call 31; refine (Write_any hDd y1 _ m7 hBd hb70 (by omega)).mono ?_; rintro e w5 ⟨rfl, hD5, hK5⟩; have hR5 := hRd.keep hK5 hDd.types; have hB5 := hBd.keepS hK5 (fun hp x hx => by have := hown hp x hx; simp; omega); have f1 := (hO.drew.keep hK5 (by simp; omega)).cell 1; have f2 := (hO.drew.keep hK5 (by simp; omega)).cell 2; simp only [List.getElem?_cons_zero, List.getElem?_cons_succ] at f1 f2; have hs5 : wc.heap.size ≤ w5.heap.size := hK5.size)
                | (go_at_call 33; refine (refWrite_any hR5 y1 _ m7 hB5 hb70 (by omega) (Nat.le_trans hB2.base hs5)).mono ?_; rintro e w6 ⟨rfl, hR6, hK6⟩; have hD6 := hD5.keep hK6 (by have := hR5.apart (.inl hD5.dev.ty); simp; omega) (by have := hR5.apart (.inr hD5.secs.ty); simp; omega); have g1 := hK6.cell (p := ⟨ob, 1, none⟩) (by show ob < _; omega) (by simp; omega); have g2 := hK6.cell (p := ⟨ob, 2, none⟩) (by show ob < _; omega) (by simp; omega); rw [f1] at g1; rw [f2] at g2))
            all_goals
              have hK7 := (hK2.drew.then hK5 (by simp; omega)).then hK6 (by simp; omega)
              have hs6 := hK6.size
              have hcl := wCount_le L y1 m7
              go_wp2_with fail
              refine (Same_any hD6 hR6).mono ?_
              rintro e w7 ⟨rfl, hK8⟩
              have hB8 : Both w7 w.heap.size b1 sb1 r1 nb1 fb1 db1 (wSecs L y1 m7) (c + wCount L y1 m7) :=
                Both.keep (w := w6) ⟨hD6, hR6, hB2.lowb, hB2.lowsb, Nat.le_trans hB2.base (Nat.le_trans hs5 hs6)⟩ hK8
              have hK9 := hK7.trans hK8
              go_wp2_with fail
              go_roundw
              case rel => exact ⟨j + 1, _, _, _, _, _, _, _, _, by omega, by omega, by go_num, rfl, rfl, by omega, hB8, hK9⟩
              case measure => simp [intOf]; omega
          · have q10 : (y0 == 0) = false := by simpa using hy0
            by_cases hy1 : y0 = 1
            · subst hy1
              go_wp2_with fail
              refine (Flush_any hB2.d (by omega)).mono ?_
              rintro e w5 ⟨rfl, hD5, hK5⟩
              have hR5 := hB2.r.keep hK5 hB2.d.types
              have hs5 := hK5.size
              go_wp2_with fail
              refine (refFlush hR5 (by omega)).mono ?_
              rintro e w6 ⟨rfl, hR6, hK6⟩
              have hD6 := hD5.keep hK6 (by have := hR5.apart (.inl hD5.dev.ty); simp; omega) (by have := hR5.apart (.inr hD5.secs.ty); simp; omega)
              have hs6 := hK6.size
              have hK7 := (hK2.then hK5 (by simp; omega)).then hK6 (by simp; omega)
              go_wp2_with fail
              refine (Same_any hD6 hR6).mono ?_
              rintro e w7 ⟨rfl, hK8⟩
              have hB8 : Both w7 w.heap.size b1 sb1 r1 nb1 fb1 db1 (L.map flushSec) (c + 1) :=
                Both.keep (w := w6) ⟨hD6, hR6, hB2.lowb, hB2.lowsb, Nat.le_trans hB2.base (Nat.le_trans hs5 hs6)⟩ hK8
              have hK9 := hK7.trans hK8
              go_wp2_with fail
              go_roundw
              case rel => exact ⟨j + 1, _, _, _, _, _, _, _, _, by omega, by omega, by go_num, rfl, rfl, by omega, hB8, hK9⟩
              case measure => simp [intOf]; omega
            · have q11 : (y0 == 1) = false := by simpa using hy1
              by_cases hy2 : y0 = 2
              · subst hy2
                have hLp := hB2.d.pos
                by_cases hin2 : 0 ≤ y1 ∧ y1 < L.length
                · obtain ⟨p1, p2⟩ := hin2
                  have p3 : decide ((0 : Int) ≤ y1) = true := decide_eq_true p1
                  have p4 : decide (y1 < (L.length : Int)) = true := decide_eq_true p2
                  obtain ⟨s, hs, _⟩ := sec_mem (show y1.toNat < L.length by omega)
                  go_wp2_with fail
                  refine (Read_at hB2.d y1 y1.toNat (by omega) s hs).mono ?_
                  rintro e w5 ⟨v5, rfl, hV5, hK5⟩
                  obtain ⟨a5, c5, rfl⟩ := hV5.slice
                  have hB5 := hB2.keep hK5
                  have n1 := (hK5.cell (p := ⟨ob, 1, none⟩) hob (by simp)).trans o1
                  obtain ⟨nc5, fc5, g0, _⟩ := refLen hB5.r
                  have hK6 := hK2.trans hK5
                  clear o0 o1 o2 o3 hV5 hs
                  go_wp2_with fail
                  go_quiet (fail)
                  have hB6 := hB5.keep ((Keep.refl [] w5).drewN nq)
                  go_wp2_with fail
                  refine (Same_any hB6.d hB6.r).mono ?_
                  rintro e w7 ⟨rfl, hK8⟩
                  have hB8 := hB6.keep hK8
                  have hK9 := (hK6.drewN nq).trans hK8
                  go_wp2_with fail
                  go_roundw
                  case rel => exact ⟨j + 1, _, _, _, _, _, _, _, _, by omega, by omega, by go_num, rfl, rfl, by omega, hB8, hK9⟩
                  case measure => simp [intOf]; omega
                · have hout : y1 < 0 ∨ (L.length : Int) ≤ y1 := by omega
                  obtain ⟨nc5, fc5, g0, _⟩ := refLen hB2.r
                  go_wp2_with fail
                  refine (Read_out hB2.d y1 hout).mono ?_
                  rintro e w5 ⟨rfl, rfl⟩
                  have hq : (y1 < 0) ∨ (0 ≤ y1 ∧ (L.length : Int) ≤ y1) := by omega
                  rcases hq with hq | ⟨hq, hq'⟩
                  · have p3 : decide ((0 : Int) ≤ y1) = false := decide_eq_false (by omega)
                    go_wp2_with fail
                    go_quiet (fail)
                    have hB6 := hB2.keep ((Keep.refl [] wc).drewN nq)
                    go_wp2_with fail
                    refine (Same_any hB6.d hB6.r).mono ?_
                    rintro e w7 ⟨rfl, hK8⟩
                    have hB8 := hB6.keep hK8
                    have hK9 := (hK2.drewN nq).trans hK8
                    go_wp2_with fail
                    go_roundw
                    case rel => exact ⟨j + 1, _, _, _, _, _, _, _, _, by omega, by omega, by go_num, rfl, rfl, by omega, hB8, hK9⟩
                    case measure => simp [intOf]; omega
                  · have p3 : decide ((0 : Int) ≤ y1) = true := decide_eq_true hq
                    have p4 : decide (y1 < (L.length : Int)) = false := decide_eq_false (by omega)
                    go_wp2_with fail
                    go_quiet (fail)
                    have hB6 := hB2.keep ((Keep.refl [] wc).drewN nq)
                    go_wp2_with fail
                    refine (Same_any hB6.d hB6.r).mono ?_
                    rintro e w7 ⟨rfl, hK8⟩
                    have hB8 := hB6.keep hK8
                    have hK9 := (hK2.drewN nq).trans hK8
                    go_wp2_with fail
                    go_roundw
                    case rel => exact ⟨j + 1, _, _, _, _, _, _, _, _, by omega, by omega, by go_num, rfl, rfl, by omega, hB8, hK9⟩
                    case measure => simp [intOf]; omega
              · have q12 : (y0 == 2) = false := by simpa using hy2
                have hdr : Keep [] wc wc.drew := (Keep.refl [] _).drew
                have hDd := hB2.d.keep hdr (by simp) (by simp)
                have hRd := hB2.r.keep hdr (by simp)
                have hkd := hKc.keep hdr (by simp)
                go_wp2_with fail
                go_region_held3 (fun w' => w'.cell? ⟨ob, 3, none⟩ = some (.slice ka keep.length kcap)) (first | go_keep | (exact g1) | (exact f1))
                  (first
                    | (go_at_call 36; refine (Crash_any hDd _ keep hkd (by omega)).mono ?_; rintro e w5 ⟨b', sb', rfl, hD5, hK5, hb5, hsb5⟩; have hR5 := hRd.keep hK5 (by simp); have hk5 := hkd.keep hK5 (by simp); have f1 := (hK5.cell (p := ⟨ob, 3, none⟩) hob (by simp)).trans o3; have hs5 : wc.heap.size ≤ w5.heap.size := hK5.size; have hb5' : wc.heap.size ≤ b' := hb5; have hsb5' : wc.heap.size ≤ sb' := hsb5)
                    | (go_at_call 37; refine (refCrash hR5 (Nat.le_trans hB2.base hs5) _ keep hk5 (by omega)).mono ?_; rintro e w6 ⟨r', nb', fb', db', rfl, hR6, hK6⟩; have g1 := (hK6.cell (p := ⟨ob, 3, none⟩) (by show ob < _; omega) (by simp)).trans f1))
                all_goals
                  have hs6 := hK6.size
                  have hD6 := hD5.keep hK6 (by simp) (by simp)
                  have hN6 : Both w6 w.heap.size b' sb' r' nb' fb' db' (crashN L keep L.length) 0 :=
                    ⟨hD6, hR6, Nat.le_trans hB2.base hb5', Nat.le_trans hB2.base hsb5', Nat.le_trans hB2.base (Nat.le_trans hs5 hs6)⟩
                  have hO6 := ((hB2.keep hdr).keep hK5).keep hK6
                  have n1 := (hK6.cell (p := ⟨ob, 1, none⟩) (by show ob < _; omega) (by simp)).trans ((hK5.cell (p := ⟨ob, 1, none⟩) hob (by simp)).trans o1)
                  have hK7 := (hK2.drew.trans hK5).trans hK6
                  clear o0 o1 o2 o3 f1 g1 hD5 hR5 hk5 hkd hRd hDd hR6 hD6
                  go_wp2_with fail
                  refine (Same_any hN6.d hN6.r).mono ?_
                  rintro e w7 ⟨rfl, hK8⟩
                  have hN8 := hN6.keep hK8
                  have hO8 := hO6.keep hK8
                  have n2 := (hK8.cell (p := ⟨ob, 1, none⟩) (by show ob < _; omega) (by simp)).trans n1
                  have hK9 := hK7.trans hK8
                  clear n1
                  by_cases hev : y1.tmod 2 = 0
                  · have hev2 : (y1.tmod 2 == 0) = true := by simpa using hev
                    go_wp2_with fail
                    refine (Same_any hN8.d hN8.r).mono ?_
                    rintro e w8 ⟨rfl, hK10⟩
                    have hB8 := hN8.keep hK10
                    have hK11 := hK9.trans hK10
                    go_wp2_with fail
                    go_roundw
                    case rel => exact ⟨j + 1, _, _, _, _, _, _, _, _, by omega, by omega, by go_num, rfl, rfl, by omega, hB8, hK11⟩
                    case measure => simp [intOf]; omega
                  · have hev2 : (y1.tmod 2 == 0) = false := by simpa using hev
                    go_wp2_with fail
                    refine (Same_any hO8.d hO8.r).mono ?_
                    rintro e w8 ⟨rfl, hK10⟩
                    have hB8 := hO8.keep hK10
                    have hK11 := hK9.trans hK10
                    go_wp2_with fail
                    go_roundw
                    case rel => exact ⟨j + 1, _, _, _, _, _, _, _, _, by omega, by omega, by go_num, rfl, rfl, by omega, hB8, hK11⟩
                    case measure => simp [intOf]; omega
      · have hq : j < ops.length ∧ ¬ j < 50 ∨ ¬ j < ops.length := by omega
        rcases hq with ⟨hq1, hq2⟩ | hq1
        · have q6 : decide (j < ops.length) = true := decide_eq_true hq1
          go_wp2_with fail
          go_ret
          exact ⟨rfl, hK.below⟩
        · have q6 : decide (j < ops.length) = false := decide_eq_false hq1
          go_wp2_with fail
          go_ret
          exact ⟨rfl, hK.below⟩
end Go.Proofs.Ythknelejcedhnaa
