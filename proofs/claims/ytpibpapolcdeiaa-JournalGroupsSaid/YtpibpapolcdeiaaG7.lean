/- Sl18, Sl19p, Sl19 -/
import Derived.Test.YtpibpapolcdeiaaG6
/- slog: a segment is begun. -/
namespace Go.Proofs.Ytpibpapolcdeiaa
open Go.ChangeShapes Go.WideShapes Go.ChangeAt Go.RowKit
set_option linter.unusedVariables false
set_option linter.unusedSimpArgs false
set_option maxRecDepth 100000

theorem Keep.cell1 {S : List Nat} {w w' : World} {a : Addr} {v : Value} (k : Keep S w w') (h : w.cell? a = some v) (hn : a.block ∉ S) : w'.cell? a = some v := by
  have hlt : a.block < w.heap.size := by
    rcases Nat.lt_or_ge a.block w.heap.size with h' | h'
    · exact h'
    · simp [World.cell?, Array.getElem?_eq_none h'] at h
  rw [k.cell hlt hn]; exact h
def nextGen (l : List Sg) : Nat := match l.getLast? with | none => 1 | some s => s.gen + 1
def nilS : Value := .slice none 0 0
theorem Try.infoPs : (Try.prog.info? 76).map (fun i => (i.zero, i.size, i.bytes)) = some (some (.pointer none), 1, 8) := by kernel_rfl
theorem own_n {w : World} {B : Nat} {T : TypeId} {v : Value} {l : List Sg} (h : Own w B T v (l.map sgPtr)) : w.ownsRow B T 1 v l.length (l.map sgPtr) := by
  unfold Own at h; rw [List.length_map] at h; exact h
theorem own_n1 {w : World} {B : Nat} {T : TypeId} {v : Value} {l : List Sg} {u : Value} (h : w.ownsRow B T 1 v (l.length + 1) (l.map sgPtr ++ [u])) : Own w B T v (l.map sgPtr ++ [u]) := by
  unfold Own; rw [List.length_append, List.length_map]; exact h
theorem flatMap_sub {α β : Type} (f : α → List β) {l m : List α} (h : l.Sublist m) : (l.flatMap f).Sublist (m.flatMap f) := by
  induction h with
  | slnil => simp
  | cons a _ ih => rw [List.flatMap_cons]; exact ih.trans (List.sublist_append_right _ _)
  | cons_cons a _ ih => rw [List.flatMap_cons, List.flatMap_cons]; exact List.Sublist.append (List.Sublist.refl _) ih
def begJ4 (w0 : World) (p c1 c2 lb ba N1 n cap sp g nx : Nat) (l : Nat → Bool) (x : Nat → Value) (w' : World) : Prop :=
  (w'.cell? ⟨c1, 0, none⟩ = some (.pointer (some ⟨p, 0, none⟩))) ∧
  (w'.cell? ⟨c2, 0, none⟩ = some (.pointer (some ⟨lb, 0, none⟩))) ∧
  (w'.cell? ⟨lb, 3, none⟩ = some (.slice (some ⟨ba, 0, none⟩) n cap)) ∧
  (w'.cell? ⟨ba, N1, none⟩ = some (.pointer (some ⟨sp, 0, none⟩))) ∧
  (w'.cell? ⟨sp, 0, none⟩ = some (.int .i64 (g : Int))) ∧
  (l 15 = false → Blk w' p (sgC 1 (nx : Int) 0 nilS nilS) 80) ∧
  (l 15 = true → Blk w' p (sgC ((g : Int) + 1) (nx : Int) 0 nilS nilS) 80) ∧
  (Keep [p] w0 w') ∧
  (l 0 = true → x 0 = .pointer (some ⟨p, 0, none⟩)) ∧
  (l 1 = true → x 1 = .pointer (some ⟨lb, 0, none⟩)) ∧
  (l 2 = true → x 2 = .pointer (some ⟨lb, 0, none⟩)) ∧
  (l 3 = true → x 3 = .pointer (some ⟨lb, 3, none⟩)) ∧
  (l 4 = true → x 4 = .slice (some ⟨ba, 0, none⟩) n cap) ∧
  (l 5 = true → x 5 = .int .i64 (n : Int)) ∧
  (l 6 = true → x 6 = .int .i64 (N1 : Int)) ∧
  (l 7 = true → x 7 = .pointer (some ⟨ba, N1, none⟩)) ∧
  (l 8 = true → x 8 = .pointer (some ⟨sp, 0, none⟩)) ∧
  (l 9 = true → x 9 = .pointer (some ⟨sp, 0, none⟩)) ∧
  (l 10 = true → x 10 = .pointer (some ⟨sp, 0, none⟩)) ∧
  (l 11 = true → x 11 = .int .i64 (g : Int)) ∧
  (l 12 = true → x 12 = .int .i64 ((g : Int) + 1)) ∧
  (l 13 = true → x 13 = .pointer (some ⟨p, 0, none⟩)) ∧
  (l 14 = true → x 14 = .pointer (some ⟨p, 0, none⟩)) ∧
  (l 15 = true → True)
def begJ8 (w0 : World) (B d lb p c1 c2 G frm segs nx run : Nat) (fr : Bool) (vl : Value) (l0 FL : List Sg) (l : Nat → Bool) (x : Nat → Value) (w' : World) : Prop :=
  ∃ va vcap, (w'.cell? ⟨c1, 0, none⟩ = some (.pointer (some ⟨p, 0, none⟩))) ∧
  (w'.cell? ⟨c2, 0, none⟩ = some (.pointer (some ⟨lb, 0, none⟩))) ∧
  (l 6 = false → Own w' B 76 vl (l0.map sgPtr)) ∧
  (l 6 = true → Own w' B 76 (.slice va FL.length vcap) (FL.map sgPtr)) ∧
  (l 6 = true → (.slice va FL.length vcap : Value).ownBlock = vl.ownBlock) ∧
  (l 9 = false → Blk w' lb (lgC d (frm : Int) (segs : Int) vl (nx : Int) (run : Int) fr) 75) ∧
  (l 9 = true → Blk w' lb (lgC d (frm : Int) (segs : Int) (.slice va FL.length vcap) (nx : Int) (run : Int) fr) 75) ∧
  (∀ s ∈ l0, HasGen w' s) ∧
  (HasGen w' ⟨p, G, nx, 0, nilS, nilS, []⟩) ∧
  (l 9 = true → l 6 = true) ∧
  (l 6 = true → l 4 = true) ∧
  (Keep (lb :: vl.ownBlock.toList) w0 w') ∧
  (l 0 = true → x 0 = .pointer (some ⟨lb, 0, none⟩)) ∧
  (l 1 = true → x 1 = .pointer (some ⟨lb, 0, none⟩)) ∧
  (l 2 = true → x 2 = .pointer (some ⟨lb, 0, none⟩)) ∧
  (l 3 = true → x 3 = .pointer (some ⟨lb, 3, none⟩)) ∧
  (l 4 = true → x 4 = vl) ∧
  (l 5 = true → x 5 = .func (.func 48) #[] #[.pointer (some ⟨c1, 0, none⟩), .pointer (some ⟨c2, 0, none⟩)]) ∧
  (l 6 = true → x 6 = .slice va FL.length vcap) ∧
  (l 7 = true → x 7 = .pointer (some ⟨lb, 0, none⟩)) ∧
  (l 8 = true → x 8 = .pointer (some ⟨lb, 3, none⟩)) ∧
  (l 9 = true → True)
def begJ9 (w0 : World) (B d lb p c1 c2 frm segs nx run : Nat) (fr : Bool) (va : Option Addr) (vcap : Nat) (FL : List Sg) (l : Nat → Bool) (x : Nat → Value) (w' : World) : Prop :=
  ∃ ua ucap B6, (w'.cell? ⟨c1, 0, none⟩ = some (.pointer (some ⟨p, 0, none⟩))) ∧
  (w'.cell? ⟨c2, 0, none⟩ = some (.pointer (some ⟨lb, 0, none⟩))) ∧
  (l 7 = false → Own w' B 76 (.slice va FL.length vcap) (FL.map sgPtr)) ∧
  (l 7 = true → Own w' B 76 (.slice ua (FL.length + 1) ucap) (FL.map sgPtr ++ [.pointer (some ⟨p, 0, none⟩)])) ∧
  (l 7 = true → ∀ q, (.slice ua (FL.length + 1) ucap : Value).ownBlock = some q → (.slice va FL.length vcap : Value).ownBlock = some q ∨ w0.heap.size ≤ q) ∧
  (l 10 = false → Blk w' lb (lgC d (frm : Int) (segs : Int) (.slice va FL.length vcap) (nx : Int) (run : Int) fr) 75) ∧
  (l 10 = true → Blk w' lb (lgC d (frm : Int) (segs : Int) (.slice ua (FL.length + 1) ucap) (nx : Int) (run : Int) fr) 75) ∧
  (l 10 = true → l 7 = true) ∧
  (l 7 = true → l 4 = true) ∧
  (Keep (lb :: (.slice va FL.length vcap : Value).ownBlock.toList) w0 w') ∧
  (l 0 = true → x 0 = .pointer (some ⟨lb, 0, none⟩)) ∧
  (l 1 = true → x 1 = .pointer (some ⟨lb, 0, none⟩)) ∧
  (l 2 = true → x 2 = .pointer (some ⟨lb, 0, none⟩)) ∧
  (l 3 = true → x 3 = .pointer (some ⟨lb, 3, none⟩)) ∧
  (l 4 = true → x 4 = .slice va FL.length vcap) ∧
  (l 5 = true → x 5 = .pointer (some ⟨p, 0, none⟩)) ∧
  (l 6 = true → x 6 = .slice (some ⟨B6, 0, none⟩) 1 1 ∧ (l 7 = false → Blk w' B6 [.pointer (some ⟨p, 0, none⟩)] 76 ∧ w0.heap.size ≤ B6)) ∧
  (l 7 = true → x 7 = .slice ua (FL.length + 1) ucap) ∧
  (l 8 = true → x 8 = .pointer (some ⟨lb, 0, none⟩)) ∧
  (l 9 = true → x 9 = .pointer (some ⟨lb, 3, none⟩)) ∧
  (l 10 = true → True)
section
variable {w : World} {B lb d sb c frm segs nx run : Nat} {fr : Bool} {vl : Value} {l₀ : List Sg} {L : List Sec}
set_option maxHeartbeats 8000000 in
/-- The first half: the new segment, before it is written. -/
theorem begin_any (h : LogAt w B lb d frm segs nx run fr vl l₀) (hd : IsDev w d sb L c) (hc : c + 2 < 1099511627776) (hl : l₀.length ≤ 200) (hg : ∀ s ∈ l₀, 0 < s.gen ∧ s.gen + 1 < 281474976710656) (hnx : nx < 281474976710656) (hrun : run < 4294967296)
    (hsg : 0 < segs ∧ segs ≤ 200) (hfr : frm ≤ 100000) (idx : Nat) (hidx : idx = frm + (nextGen l₀ - 1) % segs * 8) (hlt : idx < L.length) :
    Calls Try.prog 34 #[.pointer (some ⟨lb, 0, none⟩)] w fun e w' => ∃ p vl2, e = .returned (.int .i64 0) ∧ LogAt w' B lb d frm segs nx run fr vl2 (l₀.filter (fun s => !decide ((s.gen : Int) ≤ (nextGen l₀ : Int) - (segs : Int))) ++ [⟨p, nextGen l₀, nx, 0, nilS, nilS, []⟩]) ∧
      IsDev w' d sb ((L.set idx ⟨sgImg (nextGen l₀) nx run 0 [], (L.getD idx zeroSec).lasts, true⟩).map flushSec) (c + 2) ∧ Keep (d :: sb :: lb :: vl.ownBlock.toList) w w' ∧ w.heap.size ≤ p ∧ (∀ q, vl2.ownBlock = some q → vl.ownBlock = some q ∨ w.heap.size ≤ q) := by
  obtain ⟨G, hG⟩ : ∃ G, G = nextGen l₀ := ⟨_, rfl⟩
  rw [← hG] at hidx ⊢
  obtain ⟨FL, hFL⟩ : ∃ FL, FL = l₀.filter (fun s => !decide ((s.gen : Int) ≤ (G : Int) - (segs : Int))) := ⟨_, rfl⟩
  have HFL := Lib.hid hFL
  rw [← hFL]
  clear hFL
  have hG0 : 0 < G ∧ G < 281474976710656 := by
    rw [hG]; unfold nextGen
    cases hh : l₀.getLast? with
    | none => exact ⟨by decide, by decide⟩
    | some s => have := hg s (List.mem_of_getLast? hh); exact ⟨by simp, this.2⟩
  have HG := Lib.hid hG
  have H := Lib.hid h
  have HD := Lib.hid hd
  have HC := Lib.hid hc
  have HL := Lib.hid hl
  have HGS := Lib.hid hg
  have HNX := Lib.hid hnx
  have HRUN := Lib.hid hrun
  have HSG := Lib.hid hsg
  have HFR := Lib.hid hfr
  have HIX := Lib.hid hidx
  have HLT := Lib.hid hlt
  have HG0 := Lib.hid hG0
  obtain ⟨a, cap, hvl⟩ := h.slice
  obtain ⟨iP, hiP, hzP0, hzP1, hzP2⟩ := info_parts Try.infoPs
  -- the cell of the log, of the new segment
  have hb2 := Blk.new w [.pointer (some ⟨lb, 0, none⟩)] 48
  have K1 := (Keep.refl [] w).alloc (.cells #[.pointer (some ⟨lb, 0, none⟩)] 48)
  have k4 := K1.cell1 (lg_4 h.blk) (by simp)
  have hsz : (w.alloc (.cells #[.pointer (some ⟨lb, 0, none⟩)] 48)).heap.size = w.heap.size + 1 := by simp
  obtain ⟨w1, hw1⟩ : ∃ w1, w1 = w.alloc (.cells #[.pointer (some ⟨lb, 0, none⟩)] 48) := ⟨_, rfl⟩
  simp only [List.toArray] at hb2
  have cc2 := hb2.cell 0
  simp only [List.getElem?_cons_zero] at cc2
  clear h hd hc hl hg hnx hrun hsg hfr hidx hlt hG0 hG
  go_enter Try.func34, Try.ntmps34
  go_upto_region 2 with fail
  rw [← hw1] at hb2 K1 hsz ⊢
  clear k4 cc2
  have hbS := Blk.new w1 (sgC 1 (nx : Int) 0 nilS nilS) 80
  have KS := (Keep.refl [] w1).alloc (.cells (sgC 1 (nx : Int) 0 nilS nilS).toArray 80)
  have hszS : (w1.alloc (.cells (sgC 1 (nx : Int) 0 nilS nilS).toArray 80)).heap.size = w1.heap.size + 1 := by simp
  rw [show (#[Value.int .i64 1, .int .i64 (nx : Int), .int .i64 0, .slice none 0 0, .slice none 0 0] : Array Value) = (sgC 1 (nx : Int) 0 nilS nilS).toArray from rfl]
  generalize w1.alloc (.cells (sgC 1 (nx : Int) 0 nilS nilS).toArray 80) = w2 at *
  rw [← hsz, ← hszS]
  obtain ⟨p, hp⟩ : ∃ p, p = w1.heap.size := ⟨_, rfl⟩
  rw [← hp] at hbS ⊢
  have hbC := Blk.new w2 [.pointer (some ⟨p, 0, none⟩)] 76
  have KC := (Keep.refl [] w2).alloc (.cells #[.pointer (some ⟨p, 0, none⟩)] 76)
  simp only [List.toArray] at hbC
  obtain ⟨c1, hc1⟩ : ∃ c1, c1 = w2.heap.size := ⟨_, rfl⟩
  rw [← hc1] at hbC ⊢
  obtain ⟨c2, hc2⟩ : ∃ c2, c2 = w.heap.size := ⟨_, rfl⟩
  rw [← hc2] at hb2 ⊢
  generalize w2.alloc (.cells #[.pointer (some ⟨p, 0, none⟩)] 76) = w3 at *
  have hbS := hbS.keep KC (by simp)
  have hb2 := (hb2.keep KS (by simp)).keep KC (by simp)
  have HK3 : Hid (Keep [] w w3) := Lib.hid (K1.trans (KS.trans KC))
  have HN : Hid (c2 = w.heap.size ∧ c2 < p ∧ p < c1) := Lib.hid ⟨hc2, by have := KS.size; omega, by omega⟩
  have h3 := H.out.still HK3.out
  clear K1 KS KC hsz hszS hp hc1 hc2 hw1
  have k3 := lg_3 h3.blk
  have kc2 := hb2.cell 0
  have kc1 := hbC.cell 0
  simp only [List.getElem?_cons_zero] at kc1 kc2
  subst hvl
  have HBS := Lib.hid hbS
  have HB2 := Lib.hid hb2
  have HBC := Lib.hid hbC
  have H3 := Lib.hid h3
  clear hbS hb2 hbC h3
  go_upto_if 18 with fail
  go_cut [] (fun wc => Blk wc p (sgC (G : Int) (nx : Int) 0 nilS nilS) 80 ∧ Keep [p] w3 wc)
  case first =>
    by_cases hnil : l₀ = []
    · have hg1 : G = 1 := by rw [HG.out, hnil]; rfl
      have hz : l₀.length = 0 := by rw [hnil]; rfl
      have h00 : ¬ 0 < l₀.length := by omega
      have HG1 := Lib.hid hg1
      clear hg1 hnil hz
      go_wp2_with fail
      go_meet
      refine ⟨?_, Keep.refl _ _⟩
      rw [HG1.out]
      exact HBS.out
    · obtain ⟨n, hn⟩ : ∃ n, l₀.length = n := ⟨_, rfl⟩
      obtain ⟨N1, hN1⟩ : ∃ N1, n = N1 + 1 := ⟨n - 1, by have := List.length_pos_iff.2 hnil; omega⟩
      obtain ⟨s, hsi⟩ : ∃ s, l₀[N1]? = some s := ⟨_, List.getElem?_eq_getElem (by omega)⟩
      have hgl : l₀.getLast? = some s := by rw [List.getLast?_eq_getElem?, hn, hN1]; exact hsi
      have hge : G = s.gen + 1 := by rw [HG.out]; unfold nextGen; rw [hgl]
      obtain ⟨ba, cap', hv, ks0⟩ := H3.out.seg_at N1 s hsi
      injection hv with hv hv2 hv3
      subst hv hv3
      have hsm : s ∈ l₀ := List.mem_of_getElem? hsi
      have hsA := H3.out.row.ok s hsm
      have kg0 := seg_0 hsA.blk
      have HNE : Hid (c1 ∉ [p] ∧ c2 ∉ [p] ∧ lb ∉ [p] ∧ ba ∉ [p] ∧ s.p ∉ [p]) := Lib.hid (by
        have hn := HN.out
        have hlt := H.out.lt
        have h1 := (hlt lb (by simp [lgF])).2
        have h2 := (hlt ba (by simp [lgF, Value.ownBlock])).2
        have h3 := (hlt s.p (by simp only [lgF, List.mem_cons, List.mem_append]; exact .inr (.inr (List.mem_flatMap.2 ⟨s, hsm, by simp [Sg.F]⟩)))).2
        simp only [List.mem_singleton]
        refine ⟨by omega, by omega, by omega, by omega, by omega⟩)
      have hnl := HL.out
      have h00 : 0 < l₀.length := by omega
      rw [hn] at hnl
      have HN1 : Hid (n = N1 + 1 ∧ n ≤ 200) := Lib.hid ⟨hN1, hnl⟩
      have HNW : Hid (IntKind.i64.wrap ((n : Int) - 1) = (N1 : Int)) := Lib.hid (by rw [IntKind.wrap_i64]; omega)
      have HGW : Hid (IntKind.i64.wrap ((s.gen : Int) + 1) = (s.gen : Int) + 1) := Lib.hid (by rw [IntKind.wrap_i64]; have := HGS.out s hsm; omega)
      have HGE : Hid ((G : Int) = (s.gen : Int) + 1) := Lib.hid (by rw [hge]; simp)
      have kc10 := kc1
      have kc20 := kc2
      have k30 := k3
      have HNN := Lib.hid hn
      clear hv2 hsi hN1 hge hsA kc1 kc2 k3 hsm hnil hgl hnl
      clear hn
      go_upto_region 4 with fail
      rw [HNN.out] at k30 ⊢
      refine wp_region_inv (begJ4 w3 p c1 c2 lb ba N1 n cap s.p s.gen nx) (by kernel_rfl) (by kernel_rfl) (by kernel_rfl) ?_ (Steps.cons 0 ?_ (Steps.cons 1 ?_ (Steps.cons 2 ?_ (Steps.cons 3 ?_ (Steps.cons 4 ?_ (Steps.cons 5 ?_ (Steps.cons 6 ?_ (Steps.cons 7 ?_ (Steps.cons 8 ?_ (Steps.cons 9 ?_ (Steps.cons 10 ?_ (Steps.cons 11 ?_ (Steps.cons 12 ?_ (Steps.cons 13 ?_ (Steps.cons 14 ?_ (Steps.cons 15 ?_ (Steps.nil 16))))))))))))))))) 16 rfl ?_
      · intro x
        exact ⟨kc10, kc20, k30, ks0, kg0, fun _ => HBS.out.drew, fun h => absurd h (by decide), (Keep.refl _ _).drew, fun h => absurd h (by decide), fun h => absurd h (by decide), fun h => absurd h (by decide), fun h => absurd h (by decide), fun h => absurd h (by decide), fun h => absurd h (by decide), fun h => absurd h (by decide), fun h => absurd h (by decide), fun h => absurd h (by decide), fun h => absurd h (by decide), fun h => absurd h (by decide), fun h => absurd h (by decide), fun h => absurd h (by decide), fun h => absurd h (by decide), fun h => absurd h (by decide), fun h => absurd h (by decide)⟩
      · intro l x w' hJ hi hd
        obtain ⟨kc1, kc2, k3, ks, kg, hS0, hS1, hK, h0, h1, h2, h3, h4, h5, h6, h7, h8, h9, h10, h11, h12, h13, h14, h15⟩ := hJ
        have c0 := kc1
        refine Runs.of (b := ?bA0) ?eA0 ?_
        case eA0 => simp only [putV, Act.put, List.setIfInBounds_toArray, List.set_cons_zero, List.set_cons_succ]; rfl
        intro K' hK'
        go_simp
        exact hK'.go _ rfl ⟨kc1, kc2, k3, ks, kg, hS0, hS1, hK, fun _ => rfl, h1, h2, h3, h4, h5, h6, h7, h8, h9, h10, h11, h12, h13, h14, h15⟩
      · intro l x w' hJ hi hd
        obtain ⟨kc1, kc2, k3, ks, kg, hS0, hS1, hK, h0, h1, h2, h3, h4, h5, h6, h7, h8, h9, h10, h11, h12, h13, h14, h15⟩ := hJ
        have c0 := kc2
        refine Runs.of (b := ?bA1) ?eA1 ?_
        case eA1 => simp only [putV, Act.put, List.setIfInBounds_toArray, List.set_cons_zero, List.set_cons_succ]; rfl
        intro K' hK'
        go_simp
        exact hK'.go _ rfl ⟨kc1, kc2, k3, ks, kg, hS0, hS1, hK, h0, fun _ => rfl, h2, h3, h4, h5, h6, h7, h8, h9, h10, h11, h12, h13, h14, h15⟩
      · intro l x w' hJ hi hd
        obtain ⟨kc1, kc2, k3, ks, kg, hS0, hS1, hK, h0, h1, h2, h3, h4, h5, h6, h7, h8, h9, h10, h11, h12, h13, h14, h15⟩ := hJ
        have e1 := h1 (show l 1 = true by first | exact hd.1 rfl | exact hd.2.1 rfl | exact hd.2.2.1 rfl | exact hd.2.2.2.1 rfl | exact hd.2.2.2.2.1 rfl | exact hd.2.2.2.2.2.1 rfl)
        refine Runs.of (b := ?bA2) ?eA2 ?_
        case eA2 => simp only [putV, Act.put, List.setIfInBounds_toArray, List.set_cons_zero, List.set_cons_succ, e1]; rfl
        intro K' hK'
        go_simp
        exact hK'.go _ rfl ⟨kc1, kc2, k3, ks, kg, hS0, hS1, hK, h0, h1, fun _ => rfl, h3, h4, h5, h6, h7, h8, h9, h10, h11, h12, h13, h14, h15⟩
      · intro l x w' hJ hi hd
        obtain ⟨kc1, kc2, k3, ks, kg, hS0, hS1, hK, h0, h1, h2, h3, h4, h5, h6, h7, h8, h9, h10, h11, h12, h13, h14, h15⟩ := hJ
        have e2 := h2 (show l 2 = true by first | exact hd.1 rfl | exact hd.2.1 rfl | exact hd.2.2.1 rfl | exact hd.2.2.2.1 rfl | exact hd.2.2.2.2.1 rfl | exact hd.2.2.2.2.2.1 rfl)
        refine Runs.of (b := ?bA3) ?eA3 ?_
        case eA3 => simp only [putV, Act.put, List.setIfInBounds_toArray, List.set_cons_zero, List.set_cons_succ, e2]; rfl
        intro K' hK'
        go_simp
        exact hK'.go _ rfl ⟨kc1, kc2, k3, ks, kg, hS0, hS1, hK, h0, h1, h2, fun _ => rfl, h4, h5, h6, h7, h8, h9, h10, h11, h12, h13, h14, h15⟩
      · intro l x w' hJ hi hd
        obtain ⟨kc1, kc2, k3, ks, kg, hS0, hS1, hK, h0, h1, h2, h3, h4, h5, h6, h7, h8, h9, h10, h11, h12, h13, h14, h15⟩ := hJ
        have e3 := h3 (show l 3 = true by first | exact hd.1 rfl | exact hd.2.1 rfl | exact hd.2.2.1 rfl | exact hd.2.2.2.1 rfl | exact hd.2.2.2.2.1 rfl | exact hd.2.2.2.2.2.1 rfl)
        have c0 := k3
        refine Runs.of (b := ?bA4) ?eA4 ?_
        case eA4 => simp only [putV, Act.put, List.setIfInBounds_toArray, List.set_cons_zero, List.set_cons_succ, e3]; rfl
        intro K' hK'
        go_simp
        exact hK'.go _ rfl ⟨kc1, kc2, k3, ks, kg, hS0, hS1, hK, h0, h1, h2, h3, fun _ => rfl, h5, h6, h7, h8, h9, h10, h11, h12, h13, h14, h15⟩
      · intro l x w' hJ hi hd
        obtain ⟨kc1, kc2, k3, ks, kg, hS0, hS1, hK, h0, h1, h2, h3, h4, h5, h6, h7, h8, h9, h10, h11, h12, h13, h14, h15⟩ := hJ
        refine Runs.of (b := ?bA5) ?eA5 ?_
        case eA5 => simp only [putV, Act.put, List.setIfInBounds_toArray, List.set_cons_zero, List.set_cons_succ]; rfl
        intro K' hK'
        go_simp
        exact hK'.go _ rfl ⟨kc1, kc2, k3, ks, kg, hS0, hS1, hK, h0, h1, h2, h3, h4, fun _ => rfl, h6, h7, h8, h9, h10, h11, h12, h13, h14, h15⟩
      · intro l x w' hJ hi hd
        obtain ⟨kc1, kc2, k3, ks, kg, hS0, hS1, hK, h0, h1, h2, h3, h4, h5, h6, h7, h8, h9, h10, h11, h12, h13, h14, h15⟩ := hJ
        have e5 := h5 (show l 5 = true by first | exact hd.1 rfl | exact hd.2.1 rfl | exact hd.2.2.1 rfl | exact hd.2.2.2.1 rfl | exact hd.2.2.2.2.1 rfl | exact hd.2.2.2.2.2.1 rfl)
        refine Runs.of (b := ?bA6) ?eA6 ?_
        case eA6 => simp only [putV, Act.put, List.setIfInBounds_toArray, List.set_cons_zero, List.set_cons_succ, e5]; rfl
        intro K' hK'
        go_simp
        exact hK'.go _ rfl ⟨kc1, kc2, k3, ks, kg, hS0, hS1, hK, h0, h1, h2, h3, h4, h5, fun _ => (by first | rfl | exact congrArg (Value.int .i64) HNW.out), h7, h8, h9, h10, h11, h12, h13, h14, h15⟩
      · intro l x w' hJ hi hd
        obtain ⟨kc1, kc2, k3, ks, kg, hS0, hS1, hK, h0, h1, h2, h3, h4, h5, h6, h7, h8, h9, h10, h11, h12, h13, h14, h15⟩ := hJ
        have e4 := h4 (show l 4 = true by first | exact hd.1 rfl | exact hd.2.1 rfl | exact hd.2.2.1 rfl | exact hd.2.2.2.1 rfl | exact hd.2.2.2.2.1 rfl | exact hd.2.2.2.2.2.1 rfl)
        have e6 := h6 (show l 6 = true by first | exact hd.1 rfl | exact hd.2.1 rfl | exact hd.2.2.1 rfl | exact hd.2.2.2.1 rfl | exact hd.2.2.2.2.1 rfl | exact hd.2.2.2.2.2.1 rfl)
        refine Runs.of (b := ?bA7) ?eA7 ?_
        case eA7 => simp only [putV, Act.put, List.setIfInBounds_toArray, List.set_cons_zero, List.set_cons_succ, e4, e6]; rfl
        intro K' hK'
        go_simp
        rw [if_pos (by have := HN1.out; omega)]
        exact hK'.go _ rfl ⟨kc1, kc2, k3, ks, kg, hS0, hS1, hK, h0, h1, h2, h3, h4, h5, h6, fun _ => rfl, h8, h9, h10, h11, h12, h13, h14, h15⟩
      · intro l x w' hJ hi hd
        obtain ⟨kc1, kc2, k3, ks, kg, hS0, hS1, hK, h0, h1, h2, h3, h4, h5, h6, h7, h8, h9, h10, h11, h12, h13, h14, h15⟩ := hJ
        have e7 := h7 (show l 7 = true by first | exact hd.1 rfl | exact hd.2.1 rfl | exact hd.2.2.1 rfl | exact hd.2.2.2.1 rfl | exact hd.2.2.2.2.1 rfl | exact hd.2.2.2.2.2.1 rfl)
        have c0 := ks
        refine Runs.of (b := ?bA8) ?eA8 ?_
        case eA8 => simp only [putV, Act.put, List.setIfInBounds_toArray, List.set_cons_zero, List.set_cons_succ, e7]; rfl
        intro K' hK'
        go_simp
        exact hK'.go _ rfl ⟨kc1, kc2, k3, ks, kg, hS0, hS1, hK, h0, h1, h2, h3, h4, h5, h6, h7, fun _ => rfl, h9, h10, h11, h12, h13, h14, h15⟩
      · intro l x w' hJ hi hd
        obtain ⟨kc1, kc2, k3, ks, kg, hS0, hS1, hK, h0, h1, h2, h3, h4, h5, h6, h7, h8, h9, h10, h11, h12, h13, h14, h15⟩ := hJ
        have e8 := h8 (show l 8 = true by first | exact hd.1 rfl | exact hd.2.1 rfl | exact hd.2.2.1 rfl | exact hd.2.2.2.1 rfl | exact hd.2.2.2.2.1 rfl | exact hd.2.2.2.2.2.1 rfl)
        refine Runs.of (b := ?bA9) ?eA9 ?_
        case eA9 => simp only [putV, Act.put, List.setIfInBounds_toArray, List.set_cons_zero, List.set_cons_succ, e8]; rfl
        intro K' hK'
        go_simp
        exact hK'.go _ rfl ⟨kc1, kc2, k3, ks, kg, hS0, hS1, hK, h0, h1, h2, h3, h4, h5, h6, h7, h8, fun _ => rfl, h10, h11, h12, h13, h14, h15⟩
      · intro l x w' hJ hi hd
        obtain ⟨kc1, kc2, k3, ks, kg, hS0, hS1, hK, h0, h1, h2, h3, h4, h5, h6, h7, h8, h9, h10, h11, h12, h13, h14, h15⟩ := hJ
        have e9 := h9 (show l 9 = true by first | exact hd.1 rfl | exact hd.2.1 rfl | exact hd.2.2.1 rfl | exact hd.2.2.2.1 rfl | exact hd.2.2.2.2.1 rfl | exact hd.2.2.2.2.2.1 rfl)
        refine Runs.of (b := ?bA10) ?eA10 ?_
        case eA10 => simp only [putV, Act.put, List.setIfInBounds_toArray, List.set_cons_zero, List.set_cons_succ, e9]; rfl
        intro K' hK'
        go_simp
        exact hK'.go _ rfl ⟨kc1, kc2, k3, ks, kg, hS0, hS1, hK, h0, h1, h2, h3, h4, h5, h6, h7, h8, h9, fun _ => rfl, h11, h12, h13, h14, h15⟩
      · intro l x w' hJ hi hd
        obtain ⟨kc1, kc2, k3, ks, kg, hS0, hS1, hK, h0, h1, h2, h3, h4, h5, h6, h7, h8, h9, h10, h11, h12, h13, h14, h15⟩ := hJ
        have e10 := h10 (show l 10 = true by first | exact hd.1 rfl | exact hd.2.1 rfl | exact hd.2.2.1 rfl | exact hd.2.2.2.1 rfl | exact hd.2.2.2.2.1 rfl | exact hd.2.2.2.2.2.1 rfl)
        have c0 := kg
        refine Runs.of (b := ?bA11) ?eA11 ?_
        case eA11 => simp only [putV, Act.put, List.setIfInBounds_toArray, List.set_cons_zero, List.set_cons_succ, e10]; rfl
        intro K' hK'
        go_simp
        exact hK'.go _ rfl ⟨kc1, kc2, k3, ks, kg, hS0, hS1, hK, h0, h1, h2, h3, h4, h5, h6, h7, h8, h9, h10, fun _ => rfl, h12, h13, h14, h15⟩
      · intro l x w' hJ hi hd
        obtain ⟨kc1, kc2, k3, ks, kg, hS0, hS1, hK, h0, h1, h2, h3, h4, h5, h6, h7, h8, h9, h10, h11, h12, h13, h14, h15⟩ := hJ
        have e11 := h11 (show l 11 = true by first | exact hd.1 rfl | exact hd.2.1 rfl | exact hd.2.2.1 rfl | exact hd.2.2.2.1 rfl | exact hd.2.2.2.2.1 rfl | exact hd.2.2.2.2.2.1 rfl)
        refine Runs.of (b := ?bA12) ?eA12 ?_
        case eA12 => simp only [putV, Act.put, List.setIfInBounds_toArray, List.set_cons_zero, List.set_cons_succ, e11]; rfl
        intro K' hK'
        go_simp
        exact hK'.go _ rfl ⟨kc1, kc2, k3, ks, kg, hS0, hS1, hK, h0, h1, h2, h3, h4, h5, h6, h7, h8, h9, h10, h11, fun _ => (by first | rfl | exact congrArg (Value.int .i64) HGW.out), h13, h14, h15⟩
      · intro l x w' hJ hi hd
        obtain ⟨kc1, kc2, k3, ks, kg, hS0, hS1, hK, h0, h1, h2, h3, h4, h5, h6, h7, h8, h9, h10, h11, h12, h13, h14, h15⟩ := hJ
        have e0 := h0 (show l 0 = true by first | exact hd.1 rfl | exact hd.2.1 rfl | exact hd.2.2.1 rfl | exact hd.2.2.2.1 rfl | exact hd.2.2.2.2.1 rfl | exact hd.2.2.2.2.2.1 rfl)
        refine Runs.of (b := ?bA13) ?eA13 ?_
        case eA13 => simp only [putV, Act.put, List.setIfInBounds_toArray, List.set_cons_zero, List.set_cons_succ, e0]; rfl
        intro K' hK'
        go_simp
        exact hK'.go _ rfl ⟨kc1, kc2, k3, ks, kg, hS0, hS1, hK, h0, h1, h2, h3, h4, h5, h6, h7, h8, h9, h10, h11, h12, fun _ => rfl, h14, h15⟩
      · intro l x w' hJ hi hd
        obtain ⟨kc1, kc2, k3, ks, kg, hS0, hS1, hK, h0, h1, h2, h3, h4, h5, h6, h7, h8, h9, h10, h11, h12, h13, h14, h15⟩ := hJ
        have e13 := h13 (show l 13 = true by first | exact hd.1 rfl | exact hd.2.1 rfl | exact hd.2.2.1 rfl | exact hd.2.2.2.1 rfl | exact hd.2.2.2.2.1 rfl | exact hd.2.2.2.2.2.1 rfl)
        refine Runs.of (b := ?bA14) ?eA14 ?_
        case eA14 => simp only [putV, Act.put, List.setIfInBounds_toArray, List.set_cons_zero, List.set_cons_succ, e13]; rfl
        intro K' hK'
        go_simp
        exact hK'.go _ rfl ⟨kc1, kc2, k3, ks, kg, hS0, hS1, hK, h0, h1, h2, h3, h4, h5, h6, h7, h8, h9, h10, h11, h12, h13, fun _ => rfl, h15⟩
      · intro l x w' hJ hi hd
        obtain ⟨kc1, kc2, k3, ks, kg, hS0, hS1, hK, h0, h1, h2, h3, h4, h5, h6, h7, h8, h9, h10, h11, h12, h13, h14, h15⟩ := hJ
        have e12 := h12 (show l 12 = true by first | exact hd.1 rfl | exact hd.2.1 rfl | exact hd.2.2.1 rfl | exact hd.2.2.2.1 rfl | exact hd.2.2.2.2.1 rfl | exact hd.2.2.2.2.2.1 rfl)
        have e14 := h14 (show l 14 = true by first | exact hd.1 rfl | exact hd.2.1 rfl | exact hd.2.2.1 rfl | exact hd.2.2.2.1 rfl | exact hd.2.2.2.2.1 rfl | exact hd.2.2.2.2.2.1 rfl)
        have c0 := seg_0 (hS0 hi)
        have f0 := (hS0 hi).free 0
        refine Runs.of (b := ?bA15) ?eA15 ?_
        case eA15 => simp only [putV, Act.put, List.setIfInBounds_toArray, List.set_cons_zero, List.set_cons_succ, e12, e14]; rfl
        intro K' hK'
        go_simp
        have k2 : Keep [p] w' _ := ((Keep.refl [p] w').setCell (p := ⟨p, 0, none⟩) (.inl (by simp)) (.int .i64 ((s.gen : Int) + 1)))
        have hS2 := (hS0 hi).set 0 (.int .i64 ((s.gen : Int) + 1))
        exact hK'.go undef rfl ⟨k2.cell1 kc1 HNE.out.1, k2.cell1 kc2 HNE.out.2.1, k2.cell1 k3 HNE.out.2.2.1, k2.cell1 ks HNE.out.2.2.2.1, k2.cell1 kg HNE.out.2.2.2.2, fun h => Bool.noConfusion (show true = false from h), fun _ => hS2, hK.trans k2, h0, h1, h2, h3, h4, h5, h6, h7, h8, h9, h10, h11, h12, h13, h14, fun _ => trivial⟩
      · intro l x w3 hJ hl
        obtain ⟨kc1, kc2, k3, ks, kg, hS0, hS1, hK, h0, h1, h2, h3, h4, h5, h6, h7, h8, h9, h10, h11, h12, h13, h14, h15⟩ := hJ
        have hS := hS1 (hl 15 (by decide))
        simp only [putV, Act.put, List.setIfInBounds_toArray, List.set_cons_zero, List.set_cons_succ]
        have HS := Lib.hid hS
        have HKK := Lib.hid hK
        clear h0 h1 h2 h3 h4 h5 h6 h7 h8 h9 h10 h11 h12 h13 h14 h15 hl hS0 hS1 hK hS kc1 kc2 k3 ks kg kc10 kc20 k30 ks0 kg0
        rw [← HNN.out]
        go_wp2_with fail
        go_meet
        refine ⟨?_, HKK.out⟩
        have := HS.out
        rw [HGE.out]
        exact this
  case rest =>
  obtain ⟨hbS4, K34⟩ := hcut
  have hn := HN.out
  have hlt0 := H.out.lt
  have hlbw := (hlt0 lb (by simp [lgF])).2
  have hbaw : ∀ q, (Value.slice a l₀.length cap).ownBlock = some q → q < w.heap.size := fun q hq => (hlt0 q (List.mem_cons_of_mem _ (List.mem_append_left _ (Option.mem_toList.2 hq)))).2
  have KW4 : Keep [] w wc := HK3.out.then K34 (by intro x hx hlt; simp at hx; omega)
  have h4 := H.out.still KW4
  have hd4 := HD.out.keep KW4 (by simp) (by simp)
  have kc1 := K34.cell1 kc1 (by simp; omega)
  have kc2 := K34.cell1 kc2 (by simp; omega)
  have hb14 := HBC.out.keep K34 (by simp; omega)
  have hb24 := HB2.out.keep K34 (by simp; omega)
  have HD4 := Lib.hid hd4
  have H4 := Lib.hid h4
  have HS4 := Lib.hid hbS4
  have HB14 := Lib.hid hb14
  have HB24 := Lib.hid hb24
  have HKW4 := Lib.hid KW4
  have HLB := Lib.hid hlbw
  have HBA := Lib.hid hbaw
  clear hbS4 K34 hlt0 h4 hd4 hb14 hb24 KW4 HBS HB2 HBC H3 HK3 k3 hn hlbw hbaw
  generalize wc = w4 at *
  go_wp2_with fail
  refine (lwrite_any HD4.out (by have := HC.out; omega) frm segs _ (nx : Int) run fr H4.out.blk G nx 0 nilS nilS [] HS4.out (Rv.nil _ _) (by simp) (by simp) 0 (by decide) ⟨HG0.out.2, HNX.out, HRUN.out⟩ HG0.out.1 HSG.out HFR.out idx (by rw [HIX.out, Nat.add_zero]) HLT.out (by intro q hq; cases hq)).mono ?_
  rintro e w5 ⟨rfl, hd5, k5⟩
  have HD5 := Lib.hid hd5
  have HKW5 : Hid (Keep [d, sb] w w5) := Lib.hid ((HKW4.out.mono (by simp)).trans k5)
  have H5 := Lib.hid (H4.out.keep k5 (H4.out.apart HD4.out))
  have hdT : ∀ {b : Nat} {T : TypeId}, Ty w4 b T → T ≠ 47 → T ≠ 70 → b ∉ [d, sb] := by
    intro b T ht h1 h2 hm
    simp only [List.mem_cons, List.not_mem_nil, or_false] at hm
    rcases hm with rfl | rfl
    · exact ht.ne HD4.out.dev.ty h1 rfl
    · exact ht.ne HD4.out.secs.ty h2 rfl
  have HS5 := Lib.hid (HS4.out.keep k5 (hdT HS4.out.ty (by decide) (by decide)))
  have HB15 := Lib.hid (HB14.out.keep k5 (hdT HB14.out.ty (by decide) (by decide)))
  have HB25 := Lib.hid (HB24.out.keep k5 (hdT HB24.out.ty (by decide) (by decide)))
  clear hd5 k5 hdT HS4 HB14 HB24 H4 HD4 HKW4 kc1 kc2
  have kc1 := HB15.out.cell 0
  have kc2 := HB25.out.cell 0
  simp only [List.getElem?_cons_zero] at kc1 kc2
  have k3 := lg_3 H5.out.blk
  have hGS : ∀ s ∈ l₀, HasGen w5 s := fun s hs => by
    have hA := H5.out.row.ok s hs
    exact ⟨seg_0 hA.blk, hA.blk.ty, by have := (HGS.out s hs).2; omega⟩
  have hGP : HasGen w5 ⟨p, G, nx, 0, nilS, nilS, []⟩ := ⟨seg_0 HS5.out, HS5.out.ty, HG0.out.2⟩
  have hL5 := H5.out.blk
  have hO5 := H5.out.row.own
  have HNB : Hid (∀ b, b = p ∨ b = c1 ∨ b = c2 → b ∉ (Value.slice a l₀.length cap).ownBlock.toList) := Lib.hid (by
    intro b hb hm
    have := HBA.out b (Option.mem_toList.1 hm)
    have := HN.out
    omega)
  have HNL : Hid (p ≠ lb ∧ c1 ≠ lb ∧ c2 ≠ lb) := Lib.hid (by have := HN.out; have := HLB.out; omega)
  obtain ⟨vl, hvl⟩ : ∃ vl, vl = Value.slice a l₀.length cap := ⟨_, rfl⟩
  rw [← hvl] at k3 hL5 hO5 HNB
  have HVL := Lib.hid hvl
  have HVLT : Hid (∀ q ∈ vl.ownBlock.toList, Ty w5 q 76) := Lib.hid (fun q hq => hO5.ty q (Option.mem_toList.1 hq))
  clear hvl
  go_upto_region 8 with fail
  refine wp_region_inv (begJ8 w5 B d lb p c1 c2 G frm segs nx run fr vl l₀ FL) (by kernel_rfl) (by kernel_rfl) (by kernel_rfl) ?_ (Steps.cons 0 ?_ (Steps.cons 1 ?_ (Steps.cons 2 ?_ (Steps.cons 3 ?_ (Steps.cons 4 ?_ (Steps.cons 5 ?_ (Steps.cons 6 ?_ (Steps.cons 7 ?_ (Steps.cons 8 ?_ (Steps.cons 9 ?_ (Steps.nil 10))))))))))) 10 rfl ?_
  · intro x
    exact ⟨none, 0, kc1, kc2, fun _ => hO5.drew, fun h => absurd h (by decide), fun h => absurd h (by decide), fun _ => hL5.drew, fun h => absurd h (by decide), fun s hs => (hGS s hs).keep0 (Keep.refl [] _).drew, hGP.keep0 (Keep.refl [] _).drew, fun h => absurd h (by decide), fun h => absurd h (by decide), (Keep.refl _ _).drew, fun h => absurd h (by decide), fun h => absurd h (by decide), fun h => absurd h (by decide), fun h => absurd h (by decide), fun h => absurd h (by decide), fun h => absurd h (by decide), fun h => absurd h (by decide), fun h => absurd h (by decide), fun h => absurd h (by decide), fun h => absurd h (by decide)⟩
  · intro l x w' hJ hi hd
    obtain ⟨va, vcap, kc1, kc2, hO0, hO1, hvb, hL0, hL1, hGS, hGP, d9, d6, hK, h0, h1, h2, h3, h4, h5, h6, h7, h8, h9⟩ := hJ
    have c0 := kc2
    refine Runs.of (b := ?bB0) ?eB0 ?_
    case eB0 => simp only [putV, Act.put, List.setIfInBounds_toArray, List.set_cons_zero, List.set_cons_succ]; rfl
    intro K' hK'
    go_simp
    exact hK'.go _ rfl ⟨va, vcap, kc1, kc2, hO0, hO1, hvb, hL0, hL1, hGS, hGP, d9, d6, hK, fun _ => rfl, h1, h2, h3, h4, h5, h6, h7, h8, h9⟩
  · intro l x w' hJ hi hd
    obtain ⟨va, vcap, kc1, kc2, hO0, hO1, hvb, hL0, hL1, hGS, hGP, d9, d6, hK, h0, h1, h2, h3, h4, h5, h6, h7, h8, h9⟩ := hJ
    have c0 := kc2
    refine Runs.of (b := ?bB1) ?eB1 ?_
    case eB1 => simp only [putV, Act.put, List.setIfInBounds_toArray, List.set_cons_zero, List.set_cons_succ]; rfl
    intro K' hK'
    go_simp
    exact hK'.go _ rfl ⟨va, vcap, kc1, kc2, hO0, hO1, hvb, hL0, hL1, hGS, hGP, d9, d6, hK, h0, fun _ => rfl, h2, h3, h4, h5, h6, h7, h8, h9⟩
  · intro l x w' hJ hi hd
    obtain ⟨va, vcap, kc1, kc2, hO0, hO1, hvb, hL0, hL1, hGS, hGP, d9, d6, hK, h0, h1, h2, h3, h4, h5, h6, h7, h8, h9⟩ := hJ
    have e1 := h1 (show l 1 = true by first | exact hd.1 rfl | exact hd.2.1 rfl | exact hd.2.2.1 rfl | exact hd.2.2.2.1 rfl | exact hd.2.2.2.2.1 rfl | exact hd.2.2.2.2.2.1 rfl)
    refine Runs.of (b := ?bB2) ?eB2 ?_
    case eB2 => simp only [putV, Act.put, List.setIfInBounds_toArray, List.set_cons_zero, List.set_cons_succ, e1]; rfl
    intro K' hK'
    go_simp
    exact hK'.go _ rfl ⟨va, vcap, kc1, kc2, hO0, hO1, hvb, hL0, hL1, hGS, hGP, d9, d6, hK, h0, h1, fun _ => rfl, h3, h4, h5, h6, h7, h8, h9⟩
  · intro l x w' hJ hi hd
    obtain ⟨va, vcap, kc1, kc2, hO0, hO1, hvb, hL0, hL1, hGS, hGP, d9, d6, hK, h0, h1, h2, h3, h4, h5, h6, h7, h8, h9⟩ := hJ
    have e2 := h2 (show l 2 = true by first | exact hd.1 rfl | exact hd.2.1 rfl | exact hd.2.2.1 rfl | exact hd.2.2.2.1 rfl | exact hd.2.2.2.2.1 rfl | exact hd.2.2.2.2.2.1 rfl)
    refine Runs.of (b := ?bB3) ?eB3 ?_
    case eB3 => simp only [putV, Act.put, List.setIfInBounds_toArray, List.set_cons_zero, List.set_cons_succ, e2]; rfl
    intro K' hK'
    go_simp
    exact hK'.go _ rfl ⟨va, vcap, kc1, kc2, hO0, hO1, hvb, hL0, hL1, hGS, hGP, d9, d6, hK, h0, h1, h2, fun _ => rfl, h4, h5, h6, h7, h8, h9⟩
  · intro l x w' hJ hi hd
    obtain ⟨va, vcap, kc1, kc2, hO0, hO1, hvb, hL0, hL1, hGS, hGP, d9, d6, hK, h0, h1, h2, h3, h4, h5, h6, h7, h8, h9⟩ := hJ
    have e3 := h3 (show l 3 = true by first | exact hd.1 rfl | exact hd.2.1 rfl | exact hd.2.2.1 rfl | exact hd.2.2.2.1 rfl | exact hd.2.2.2.2.1 rfl | exact hd.2.2.2.2.2.1 rfl)
    have f9 : l 9 = false := by cases hq : l 9 with | false => rfl | true => exact absurd (d6 (d9 hq)) (by simp [hi])
    have c0 := lg_3 (hL0 f9)
    refine Runs.of (b := ?bB4) ?eB4 ?_
    case eB4 => simp only [putV, Act.put, List.setIfInBounds_toArray, List.set_cons_zero, List.set_cons_succ, e3]; rfl
    intro K' hK'
    go_simp
    exact hK'.go _ rfl ⟨va, vcap, kc1, kc2, hO0, hO1, hvb, hL0, hL1, hGS, hGP, d9, fun _ => rfl, hK, h0, h1, h2, h3, fun _ => rfl, h5, h6, h7, h8, h9⟩
  · intro l x w' hJ hi hd
    obtain ⟨va, vcap, kc1, kc2, hO0, hO1, hvb, hL0, hL1, hGS, hGP, d9, d6, hK, h0, h1, h2, h3, h4, h5, h6, h7, h8, h9⟩ := hJ
    refine Runs.of (b := ?bB5) ?eB5 ?_
    case eB5 => simp only [putV, Act.put, List.setIfInBounds_toArray, List.set_cons_zero, List.set_cons_succ]; rfl
    intro K' hK'
    go_simp
    exact hK'.go _ rfl ⟨va, vcap, kc1, kc2, hO0, hO1, hvb, hL0, hL1, hGS, hGP, d9, d6, hK, h0, h1, h2, h3, h4, fun _ => rfl, h6, h7, h8, h9⟩
  · intro l x w' hJ hi hd
    obtain ⟨va, vcap, kc1, kc2, hO0, hO1, hvb, hL0, hL1, hGS, hGP, d9, d6, hK, h0, h1, h2, h3, h4, h5, h6, h7, h8, h9⟩ := hJ
    have e4 := h4 (show l 4 = true by first | exact hd.1 rfl | exact hd.2.1 rfl | exact hd.2.2.1 rfl | exact hd.2.2.2.1 rfl | exact hd.2.2.2.2.1 rfl | exact hd.2.2.2.2.2.1 rfl)
    have e5 := h5 (show l 5 = true by first | exact hd.1 rfl | exact hd.2.1 rfl | exact hd.2.2.1 rfl | exact hd.2.2.2.1 rfl | exact hd.2.2.2.2.1 rfl | exact hd.2.2.2.2.2.1 rfl)
    have HL4 : Hid (l 4 = true) := Lib.hid (by first | exact hd.1 rfl | exact hd.2.1 rfl | exact hd.2.2.1 rfl | exact hd.2.2.2.1 rfl | exact hd.2.2.2.2.1 rfl | exact hd.2.2.2.2.2.1 rfl | exact hd.2.2.2.2.2.2.1 rfl | exact hd.2.2.2.2.2.2.2.1 rfl | exact hd.2.2.2.2.2.2.2.2.1 rfl | exact hd.2.2.2.2.2.2.2.2.2.1 rfl | exact hd.2.2.2.2.2.2.2.2.2.2.1 rfl | exact hd.2.2.2.2.2.2.2.2.2.2.2.1 rfl | exact hd.2.2.2.2.2.2.2.2.2.2.2.2.1 rfl | exact hd.2.2.2.2.2.2.2.2.2.2.2.2.2.1 rfl | exact hd.2.2.2.2.2.2.2.2.2.2.2.2.2.2.1 rfl | exact hd.2.2.2.2.2.2.2.2.2.2.2.2.2.2.2.1 rfl | exact hd.2.2.2.2.2.2.2.2.2.2.2.2.2.2.2.2.1 rfl | exact hd.2.2.2.2.2.2.2.2.2.2.2.2.2.2.2.2.2.1 rfl | exact hd.2.2.2.2.2.2.2.2.2.2.2.2.2.2.2.2.2.2.1 rfl | exact hd.2.2.2.2.2.2.2.2.2.2.2.2.2.2.2.2.2.2.2.1 rfl)
    have f9 : l 9 = false := by cases hq : l 9 with | false => rfl | true => exact absurd (d9 hq) (by simp [hi])
    have hlbT := (hL0 f9).ty
    have hvT := (hO0 hi).ty
    have hlbn : lb ∉ vl.ownBlock.toList := fun hm => hlbT.ne (hvT lb (Option.mem_toList.1 hm)) (by decide) rfl
    have hspn : ∀ s ∈ l₀, s.p ∉ vl.ownBlock.toList := fun s hs hm => (hGS s hs).2.1.ne (hvT s.p (Option.mem_toList.1 hm)) (by decide) rfl
    have hsay := Lib.hid (show ∀ W, Keep vl.ownBlock.toList w' W → Says W 48 c1 c2 l₀ (fun g => decide ((g : Int) ≤ (G : Int) - (segs : Int))) from fun W k s hs => del_begin (k.cell1 (hGS s hs).1 (hspn s hs)) (k.cell1 hGP.1 (HNB.out p (.inl rfl))) (k.cell1 kc1 (HNB.out c1 (.inr (.inl rfl)))) (k.cell1 kc2 (HNB.out c2 (.inr (.inr rfl)))) (k.cell1 (lg_2 (hL0 f9)) hlbn) ⟨(hGS s hs).2.2, hGP.2.2, HSG.out.2⟩)
    refine Runs.of (b := ?bB6) ?eB6 ?_
    case eB6 => simp only [putV, Act.put, List.setIfInBounds_toArray, List.set_cons_zero, List.set_cons_succ, e4, e5]; rfl
    intro K' hK'
    go_simp
    refine (delete_begin (hO0 hi) hsay.out (by have := HL.out; omega)).mono ?_
    rintro e w2 ⟨v2, rfl, hO2, k2, hb2⟩
    rw [← HFL.out] at hO2
    obtain ⟨v2a, v2c, hv2⟩ := hO2.slice
    rw [List.length_map] at hv2
    subst hv2
    go_simp
    exact hK'.go (.slice v2a FL.length v2c) rfl ⟨v2a, v2c, k2.cell1 kc1 (HNB.out c1 (.inr (.inl rfl))), k2.cell1 kc2 (HNB.out c2 (.inr (.inr rfl))), fun h => Bool.noConfusion (show true = false from h), fun _ => hO2, fun _ => hb2, fun h => (hL0 h).keep k2 hlbn, fun h => absurd (f9.symm.trans h) (by decide), fun s hs => (hGS s hs).keep k2 (hspn s hs), hGP.keep k2 (HNB.out p (.inl rfl)), fun _ => rfl, fun _ => HL4.out, hK.trans (k2.mono (fun q hq _ => List.mem_cons_of_mem _ hq)), h0, h1, h2, h3, h4, h5, fun _ => rfl, h7, h8, h9⟩
  · intro l x w' hJ hi hd
    obtain ⟨va, vcap, kc1, kc2, hO0, hO1, hvb, hL0, hL1, hGS, hGP, d9, d6, hK, h0, h1, h2, h3, h4, h5, h6, h7, h8, h9⟩ := hJ
    have e0 := h0 (show l 0 = true by first | exact hd.1 rfl | exact hd.2.1 rfl | exact hd.2.2.1 rfl | exact hd.2.2.2.1 rfl | exact hd.2.2.2.2.1 rfl | exact hd.2.2.2.2.2.1 rfl)
    refine Runs.of (b := ?bB7) ?eB7 ?_
    case eB7 => simp only [putV, Act.put, List.setIfInBounds_toArray, List.set_cons_zero, List.set_cons_succ, e0]; rfl
    intro K' hK'
    go_simp
    exact hK'.go _ rfl ⟨va, vcap, kc1, kc2, hO0, hO1, hvb, hL0, hL1, hGS, hGP, d9, d6, hK, h0, h1, h2, h3, h4, h5, h6, fun _ => rfl, h8, h9⟩
  · intro l x w' hJ hi hd
    obtain ⟨va, vcap, kc1, kc2, hO0, hO1, hvb, hL0, hL1, hGS, hGP, d9, d6, hK, h0, h1, h2, h3, h4, h5, h6, h7, h8, h9⟩ := hJ
    have e7 := h7 (show l 7 = true by first | exact hd.1 rfl | exact hd.2.1 rfl | exact hd.2.2.1 rfl | exact hd.2.2.2.1 rfl | exact hd.2.2.2.2.1 rfl | exact hd.2.2.2.2.2.1 rfl)
    refine Runs.of (b := ?bB8) ?eB8 ?_
    case eB8 => simp only [putV, Act.put, List.setIfInBounds_toArray, List.set_cons_zero, List.set_cons_succ, e7]; rfl
    intro K' hK'
    go_simp
    exact hK'.go _ rfl ⟨va, vcap, kc1, kc2, hO0, hO1, hvb, hL0, hL1, hGS, hGP, d9, d6, hK, h0, h1, h2, h3, h4, h5, h6, h7, fun _ => rfl, h9⟩
  · intro l x w' hJ hi hd
    obtain ⟨va, vcap, kc1, kc2, hO0, hO1, hvb, hL0, hL1, hGS, hGP, d9, d6, hK, h0, h1, h2, h3, h4, h5, h6, h7, h8, h9⟩ := hJ
    have e6 := h6 (show l 6 = true by first | exact hd.1 rfl | exact hd.2.1 rfl | exact hd.2.2.1 rfl | exact hd.2.2.2.1 rfl | exact hd.2.2.2.2.1 rfl | exact hd.2.2.2.2.2.1 rfl)
    have e8 := h8 (show l 8 = true by first | exact hd.1 rfl | exact hd.2.1 rfl | exact hd.2.2.1 rfl | exact hd.2.2.2.1 rfl | exact hd.2.2.2.2.1 rfl | exact hd.2.2.2.2.2.1 rfl)
    have HL6 : Hid (l 6 = true) := Lib.hid (by first | exact hd.1 rfl | exact hd.2.1 rfl | exact hd.2.2.1 rfl | exact hd.2.2.2.1 rfl | exact hd.2.2.2.2.1 rfl | exact hd.2.2.2.2.2.1 rfl | exact hd.2.2.2.2.2.2.1 rfl | exact hd.2.2.2.2.2.2.2.1 rfl | exact hd.2.2.2.2.2.2.2.2.1 rfl | exact hd.2.2.2.2.2.2.2.2.2.1 rfl | exact hd.2.2.2.2.2.2.2.2.2.2.1 rfl | exact hd.2.2.2.2.2.2.2.2.2.2.2.1 rfl | exact hd.2.2.2.2.2.2.2.2.2.2.2.2.1 rfl | exact hd.2.2.2.2.2.2.2.2.2.2.2.2.2.1 rfl | exact hd.2.2.2.2.2.2.2.2.2.2.2.2.2.2.1 rfl | exact hd.2.2.2.2.2.2.2.2.2.2.2.2.2.2.2.1 rfl | exact hd.2.2.2.2.2.2.2.2.2.2.2.2.2.2.2.2.1 rfl | exact hd.2.2.2.2.2.2.2.2.2.2.2.2.2.2.2.2.2.1 rfl | exact hd.2.2.2.2.2.2.2.2.2.2.2.2.2.2.2.2.2.2.1 rfl | exact hd.2.2.2.2.2.2.2.2.2.2.2.2.2.2.2.2.2.2.2.1 rfl)
    have c0 := lg_3 (hL0 hi)
    have f0 := (hL0 hi).free 3
    refine Runs.of (b := ?bB9) ?eB9 ?_
    case eB9 => simp only [putV, Act.put, List.setIfInBounds_toArray, List.set_cons_zero, List.set_cons_succ, e6, e8]; rfl
    intro K' hK'
    go_simp
    have k2 : Keep [lb] w' _ := ((Keep.refl [lb] w').setCell (p := ⟨lb, 3, none⟩) (.inl (by simp)) (.slice va FL.length vcap))
    have hL2 := (hL0 hi).set 3 (.slice va FL.length vcap)
    have hlbT := (hL0 hi).ty
    exact hK'.go undef rfl ⟨va, vcap, k2.cell1 kc1 (by simp; exact HNL.out.2.1), k2.cell1 kc2 (by simp; exact HNL.out.2.2), fun h => absurd (h.symm.trans HL6.out) (by decide), fun h => (hO1 h).keep k2 (fun q hq hm => by simp only [List.mem_singleton] at hm; subst hm; exact ((hO1 h).ty _ hq).ne hlbT (by decide) rfl), hvb, fun h => Bool.noConfusion (show true = false from h), fun _ => hL2, fun s hs => (hGS s hs).keep k2 (fun hm => by simp only [List.mem_singleton] at hm; exact (hGS s hs).2.1.ne hlbT (by decide) hm), hGP.keep k2 (by simp; exact HNL.out.1), fun _ => HL6.out, d6, hK.trans (k2.mono (by simp)), h0, h1, h2, h3, h4, h5, h6, h7, h8, fun _ => trivial⟩
  · intro l x w3 hJ hl
    obtain ⟨va, vcap, kc1, kc2, hO0, hO1, hvb, hL0, hL1, hGS, hGP, d9, d6, hK, h0, h1, h2, h3, h4, h5, h6, h7, h8, h9⟩ := hJ
    have hO8 := hO1 (hl 6 (by decide))
    have hL8 := hL1 (hl 9 (by decide))
    have hvb8 := hvb (hl 6 (by decide))
    simp only [putV, Act.put, List.setIfInBounds_toArray, List.set_cons_zero, List.set_cons_succ]
    simp only [Nat.zero_add, Nat.reduceAdd]
    have HVB8 := Lib.hid hvb8
    have HK8 := Lib.hid hK
    have HNB5 := HNB
    have HNB : Hid (∀ b, b = p ∨ b = c1 ∨ b = c2 → b ∉ (Value.slice va FL.length vcap).ownBlock.toList) := Lib.hid (fun b hb => by rw [hvb8]; exact HNB5.out b hb)
    have kc1' := kc1
    have kc2' := kc2
    clear h0 h1 h2 h3 h4 h5 h6 h7 h8 h9 hO0 hO1 hvb hL0 hL1 d9 d6 hl hvb8 hO5 hL5 k3
    have k3 := lg_3 hL8
    have HS8 : Hid (Blk w3 p (sgC (G : Int) (nx : Int) 0 nilS nilS) 80) := Lib.hid (HS5.out.keep hK (fun hm => by
      rcases List.mem_cons.1 hm with h | h
      · exact HNL.out.1 h
      · exact HNB5.out p (.inl rfl) h))
    have HFN : Hid (FL.length ≤ 200) := Lib.hid (by rw [HFL.out]; exact Nat.le_trans (List.length_filter_le _ _) HL.out)
    have HBW : Hid (B ≤ w3.heap.size) := Lib.hid (by have := H.out.lt lb (by simp [lgF]); have := HKW5.out.size; have := HK8.out.size; omega)
    clear hK hGS hGP kc1' kc2'
    generalize w3 = w8 at *
    go_upto_region 9 with fail
    refine wp_region_inv (begJ9 w8 B d lb p c1 c2 frm segs nx run fr va vcap FL) (by kernel_rfl) (by kernel_rfl) (by kernel_rfl) ?_ (Steps.cons 0 ?_ (Steps.cons 1 ?_ (Steps.cons 2 ?_ (Steps.cons 3 ?_ (Steps.cons 4 ?_ (Steps.cons 5 ?_ (Steps.cons 6 ?_ (Steps.cons 7 ?_ (Steps.cons 8 ?_ (Steps.cons 9 ?_ (Steps.cons 10 ?_ (Steps.nil 11)))))))))))) 11 rfl ?_
    · intro x
      exact ⟨none, 0, 0, kc1, kc2, fun _ => hO8.drew, fun h => absurd h (by decide), fun h => absurd h (by decide), fun _ => hL8.drew, fun h => absurd h (by decide), fun h => absurd h (by decide), fun h => absurd h (by decide), (Keep.refl _ _).drew, fun h => absurd h (by decide), fun h => absurd h (by decide), fun h => absurd h (by decide), fun h => absurd h (by decide), fun h => absurd h (by decide), fun h => absurd h (by decide), fun h => absurd h (by decide), fun h => absurd h (by decide), fun h => absurd h (by decide), fun h => absurd h (by decide), fun h => absurd h (by decide)⟩
    · intro l x w' hJ hi hd
      obtain ⟨ua, ucap, B6, kc1, kc2, hO0, hO1, hvb, hL0, hL1, d10, d7, hK, h0, h1, h2, h3, h4, h5, h6, h7, h8, h9, h10⟩ := hJ
      have c0 := kc2
      refine Runs.of (b := ?bC0) ?eC0 ?_
      case eC0 => simp only [putV, Act.put, List.setIfInBounds_toArray, List.set_cons_zero, List.set_cons_succ]; rfl
      intro K' hK'
      go_simp
      exact hK'.go _ rfl ⟨ua, ucap, B6, kc1, kc2, hO0, hO1, hvb, hL0, hL1, d10, d7, hK, fun _ => rfl, h1, h2, h3, h4, h5, h6, h7, h8, h9, h10⟩
    · intro l x w' hJ hi hd
      obtain ⟨ua, ucap, B6, kc1, kc2, hO0, hO1, hvb, hL0, hL1, d10, d7, hK, h0, h1, h2, h3, h4, h5, h6, h7, h8, h9, h10⟩ := hJ
      have c0 := kc2
      refine Runs.of (b := ?bC1) ?eC1 ?_
      case eC1 => simp only [putV, Act.put, List.setIfInBounds_toArray, List.set_cons_zero, List.set_cons_succ]; rfl
      intro K' hK'
      go_simp
      exact hK'.go _ rfl ⟨ua, ucap, B6, kc1, kc2, hO0, hO1, hvb, hL0, hL1, d10, d7, hK, h0, fun _ => rfl, h2, h3, h4, h5, h6, h7, h8, h9, h10⟩
    · intro l x w' hJ hi hd
      obtain ⟨ua, ucap, B6, kc1, kc2, hO0, hO1, hvb, hL0, hL1, d10, d7, hK, h0, h1, h2, h3, h4, h5, h6, h7, h8, h9, h10⟩ := hJ
      have e1 := h1 (show l 1 = true by first | exact hd.1 rfl | exact hd.2.1 rfl | exact hd.2.2.1 rfl | exact hd.2.2.2.1 rfl | exact hd.2.2.2.2.1 rfl | exact hd.2.2.2.2.2.1 rfl)
      refine Runs.of (b := ?bC2) ?eC2 ?_
      case eC2 => simp only [putV, Act.put, List.setIfInBounds_toArray, List.set_cons_zero, List.set_cons_succ, e1]; rfl
      intro K' hK'
      go_simp
      exact hK'.go _ rfl ⟨ua, ucap, B6, kc1, kc2, hO0, hO1, hvb, hL0, hL1, d10, d7, hK, h0, h1, fun _ => rfl, h3, h4, h5, h6, h7, h8, h9, h10⟩
    · intro l x w' hJ hi hd
      obtain ⟨ua, ucap, B6, kc1, kc2, hO0, hO1, hvb, hL0, hL1, d10, d7, hK, h0, h1, h2, h3, h4, h5, h6, h7, h8, h9, h10⟩ := hJ
      have e2 := h2 (show l 2 = true by first | exact hd.1 rfl | exact hd.2.1 rfl | exact hd.2.2.1 rfl | exact hd.2.2.2.1 rfl | exact hd.2.2.2.2.1 rfl | exact hd.2.2.2.2.2.1 rfl)
      refine Runs.of (b := ?bC3) ?eC3 ?_
      case eC3 => simp only [putV, Act.put, List.setIfInBounds_toArray, List.set_cons_zero, List.set_cons_succ, e2]; rfl
      intro K' hK'
      go_simp
      exact hK'.go _ rfl ⟨ua, ucap, B6, kc1, kc2, hO0, hO1, hvb, hL0, hL1, d10, d7, hK, h0, h1, h2, fun _ => rfl, h4, h5, h6, h7, h8, h9, h10⟩
    · intro l x w' hJ hi hd
      obtain ⟨ua, ucap, B6, kc1, kc2, hO0, hO1, hvb, hL0, hL1, d10, d7, hK, h0, h1, h2, h3, h4, h5, h6, h7, h8, h9, h10⟩ := hJ
      have e3 := h3 (show l 3 = true by first | exact hd.1 rfl | exact hd.2.1 rfl | exact hd.2.2.1 rfl | exact hd.2.2.2.1 rfl | exact hd.2.2.2.2.1 rfl | exact hd.2.2.2.2.2.1 rfl)
      have f10 : l 10 = false := by cases hq : l 10 with | false => rfl | true => exact absurd (d7 (d10 hq)) (by simp [hi])
      have c0 := lg_3 (hL0 f10)
      refine Runs.of (b := ?bC4) ?eC4 ?_
      case eC4 => simp only [putV, Act.put, List.setIfInBounds_toArray, List.set_cons_zero, List.set_cons_succ, e3]; rfl
      intro K' hK'
      go_simp
      exact hK'.go _ rfl ⟨ua, ucap, B6, kc1, kc2, hO0, hO1, hvb, hL0, hL1, d10, fun _ => rfl, hK, h0, h1, h2, h3, fun _ => rfl, h5, h6, h7, h8, h9, h10⟩
    · intro l x w' hJ hi hd
      obtain ⟨ua, ucap, B6, kc1, kc2, hO0, hO1, hvb, hL0, hL1, d10, d7, hK, h0, h1, h2, h3, h4, h5, h6, h7, h8, h9, h10⟩ := hJ
      have c0 := kc1
      refine Runs.of (b := ?bC5) ?eC5 ?_
      case eC5 => simp only [putV, Act.put, List.setIfInBounds_toArray, List.set_cons_zero, List.set_cons_succ]; rfl
      intro K' hK'
      go_simp
      exact hK'.go _ rfl ⟨ua, ucap, B6, kc1, kc2, hO0, hO1, hvb, hL0, hL1, d10, d7, hK, h0, h1, h2, h3, h4, fun _ => rfl, h6, h7, h8, h9, h10⟩
    · intro l x w' hJ hi hd
      obtain ⟨ua, ucap, B6, kc1, kc2, hO0, hO1, hvb, hL0, hL1, d10, d7, hK, h0, h1, h2, h3, h4, h5, h6, h7, h8, h9, h10⟩ := hJ
      have e5 := h5 (show l 5 = true by first | exact hd.1 rfl | exact hd.2.1 rfl | exact hd.2.2.1 rfl | exact hd.2.2.2.1 rfl | exact hd.2.2.2.2.1 rfl | exact hd.2.2.2.2.2.1 rfl)
      refine Runs.of (b := ?bC6) ?eC6 ?_
      case eC6 => simp only [putV, Act.put, List.setIfInBounds_toArray, List.set_cons_zero, List.set_cons_succ, e5]; rfl
      intro K' hK'
      go_simp
      exact hK'.go _ rfl ⟨ua, ucap, w'.heap.size, ((Keep.refl [] _).alloc _).cell1 kc1 (by simp), ((Keep.refl [] _).alloc _).cell1 kc2 (by simp), fun h => (hO0 h).alloc _, fun h => (hO1 h).alloc _, hvb, fun h => (hL0 h).alloc _, fun h => (hL1 h).alloc _, d10, d7, hK.alloc _, h0, h1, h2, h3, h4, h5, fun _ => ⟨rfl, fun _ => ⟨Blk.new _ [.pointer (some ⟨p, 0, none⟩)] _, hK.size⟩⟩, h7, h8, h9, h10⟩
    · intro l x w' hJ hi hd
      obtain ⟨ua, ucap, B6, kc1, kc2, hO0, hO1, hvb, hL0, hL1, d10, d7, hK, h0, h1, h2, h3, h4, h5, h6, h7, h8, h9, h10⟩ := hJ
      have e4 := h4 (show l 4 = true by first | exact hd.1 rfl | exact hd.2.1 rfl | exact hd.2.2.1 rfl | exact hd.2.2.2.1 rfl | exact hd.2.2.2.2.1 rfl | exact hd.2.2.2.2.2.1 rfl)
      have e6 := h6 (show l 6 = true by first | exact hd.1 rfl | exact hd.2.1 rfl | exact hd.2.2.1 rfl | exact hd.2.2.2.1 rfl | exact hd.2.2.2.2.1 rfl | exact hd.2.2.2.2.2.1 rfl)
      have HL4 : Hid (l 4 = true) := Lib.hid (by first | exact hd.1 rfl | exact hd.2.1 rfl | exact hd.2.2.1 rfl | exact hd.2.2.2.1 rfl | exact hd.2.2.2.2.1 rfl | exact hd.2.2.2.2.2.1 rfl | exact hd.2.2.2.2.2.2.1 rfl | exact hd.2.2.2.2.2.2.2.1 rfl | exact hd.2.2.2.2.2.2.2.2.1 rfl | exact hd.2.2.2.2.2.2.2.2.2.1 rfl | exact hd.2.2.2.2.2.2.2.2.2.2.1 rfl | exact hd.2.2.2.2.2.2.2.2.2.2.2.1 rfl | exact hd.2.2.2.2.2.2.2.2.2.2.2.2.1 rfl | exact hd.2.2.2.2.2.2.2.2.2.2.2.2.2.1 rfl | exact hd.2.2.2.2.2.2.2.2.2.2.2.2.2.2.1 rfl | exact hd.2.2.2.2.2.2.2.2.2.2.2.2.2.2.2.1 rfl | exact hd.2.2.2.2.2.2.2.2.2.2.2.2.2.2.2.2.1 rfl | exact hd.2.2.2.2.2.2.2.2.2.2.2.2.2.2.2.2.2.1 rfl | exact hd.2.2.2.2.2.2.2.2.2.2.2.2.2.2.2.2.2.2.1 rfl | exact hd.2.2.2.2.2.2.2.2.2.2.2.2.2.2.2.2.2.2.2.1 rfl)
      have f10 : l 10 = false := by cases hq : l 10 with | false => rfl | true => exact absurd (d10 hq) (by simp [hi])
      obtain ⟨hblk, hB6⟩ := e6.2 hi
      have hlbT := (hL0 f10).ty
      have hvT := (hO0 hi).ty
      have hvlt := (hO0 hi).lt
      have hlbn : lb ∉ (.slice va FL.length vcap : Value).ownBlock.toList := fun hm => hlbT.ne (hvT lb (Option.mem_toList.1 hm)) (by decide) rfl
      refine Runs.of (b := ?bC7) ?eC7 ?_
      case eC7 => simp only [putV, Act.put, List.setIfInBounds_toArray, List.set_cons_zero, List.set_cons_succ, e4, e6.1]; rfl
      intro K' hK'
      refine step_append_src _ rfl (.tmp 53) (.tmp 55) 73 73 rfl B 76 iP _ 1 8 Try.underlying73 hiP hzP0 hzP1 hzP2 rfl (by decide) (.slice va FL.length vcap) FL.length (FL.map sgPtr) rfl (own_n (hO0 hi)) _ 1 [.pointer (some ⟨p, 0, none⟩)] rfl (src_at Try.underlying73 w' B6 _ (hblk.cell 0) rfl) (by unfold maxLen; have := HFN.out; omega) (by have := HFN.out; omega) (Nat.le_trans HBW.out hK.size) ?_
      intro v2 w2 g2 g3 _ g4
      obtain ⟨v2a, v2c, rfl⟩ := ownsRow_slice g2
      have k2 : Keep (.slice va FL.length vcap : Value).ownBlock.toList w' w2 := Keep.grown g3
      have hO2 := own_n1 g2
      exact hK'.go (.slice v2a (FL.length + 1) v2c) rfl ⟨v2a, v2c, B6, k2.cell1 kc1 (fun hm => HNB.out c1 (.inr (.inl rfl)) hm), k2.cell1 kc2 (fun hm => HNB.out c2 (.inr (.inr rfl)) hm), fun h => Bool.noConfusion (show true = false from h), fun _ => hO2, fun _ q hq => (g4 q hq).imp id (fun h => Nat.le_trans hK.size h), fun h => (hL0 h).keep k2 hlbn, fun h => absurd (f10.symm.trans h) (by decide), fun _ => rfl, fun _ => HL4.out, hK.trans (k2.mono (fun q hq _ => List.mem_cons_of_mem _ hq)), h0, h1, h2, h3, h4, h5, fun h => ⟨(h6 h).1, fun h2 => Bool.noConfusion (show true = false from h2)⟩, fun _ => rfl, h8, h9, h10⟩
    · intro l x w' hJ hi hd
      obtain ⟨ua, ucap, B6, kc1, kc2, hO0, hO1, hvb, hL0, hL1, d10, d7, hK, h0, h1, h2, h3, h4, h5, h6, h7, h8, h9, h10⟩ := hJ
      have e0 := h0 (show l 0 = true by first | exact hd.1 rfl | exact hd.2.1 rfl | exact hd.2.2.1 rfl | exact hd.2.2.2.1 rfl | exact hd.2.2.2.2.1 rfl | exact hd.2.2.2.2.2.1 rfl)
      refine Runs.of (b := ?bC8) ?eC8 ?_
      case eC8 => simp only [putV, Act.put, List.setIfInBounds_toArray, List.set_cons_zero, List.set_cons_succ, e0]; rfl
      intro K' hK'
      go_simp
      exact hK'.go _ rfl ⟨ua, ucap, B6, kc1, kc2, hO0, hO1, hvb, hL0, hL1, d10, d7, hK, h0, h1, h2, h3, h4, h5, h6, h7, fun _ => rfl, h9, h10⟩
    · intro l x w' hJ hi hd
      obtain ⟨ua, ucap, B6, kc1, kc2, hO0, hO1, hvb, hL0, hL1, d10, d7, hK, h0, h1, h2, h3, h4, h5, h6, h7, h8, h9, h10⟩ := hJ
      have e8 := h8 (show l 8 = true by first | exact hd.1 rfl | exact hd.2.1 rfl | exact hd.2.2.1 rfl | exact hd.2.2.2.1 rfl | exact hd.2.2.2.2.1 rfl | exact hd.2.2.2.2.2.1 rfl)
      refine Runs.of (b := ?bC9) ?eC9 ?_
      case eC9 => simp only [putV, Act.put, List.setIfInBounds_toArray, List.set_cons_zero, List.set_cons_succ, e8]; rfl
      intro K' hK'
      go_simp
      exact hK'.go _ rfl ⟨ua, ucap, B6, kc1, kc2, hO0, hO1, hvb, hL0, hL1, d10, d7, hK, h0, h1, h2, h3, h4, h5, h6, h7, h8, fun _ => rfl, h10⟩
    · intro l x w' hJ hi hd
      obtain ⟨ua, ucap, B6, kc1, kc2, hO0, hO1, hvb, hL0, hL1, d10, d7, hK, h0, h1, h2, h3, h4, h5, h6, h7, h8, h9, h10⟩ := hJ
      have e7 := h7 (show l 7 = true by first | exact hd.1 rfl | exact hd.2.1 rfl | exact hd.2.2.1 rfl | exact hd.2.2.2.1 rfl | exact hd.2.2.2.2.1 rfl | exact hd.2.2.2.2.2.1 rfl)
      have e9 := h9 (show l 9 = true by first | exact hd.1 rfl | exact hd.2.1 rfl | exact hd.2.2.1 rfl | exact hd.2.2.2.1 rfl | exact hd.2.2.2.2.1 rfl | exact hd.2.2.2.2.2.1 rfl)
      have HL7 : Hid (l 7 = true) := Lib.hid (by first | exact hd.1 rfl | exact hd.2.1 rfl | exact hd.2.2.1 rfl | exact hd.2.2.2.1 rfl | exact hd.2.2.2.2.1 rfl | exact hd.2.2.2.2.2.1 rfl | exact hd.2.2.2.2.2.2.1 rfl | exact hd.2.2.2.2.2.2.2.1 rfl | exact hd.2.2.2.2.2.2.2.2.1 rfl | exact hd.2.2.2.2.2.2.2.2.2.1 rfl | exact hd.2.2.2.2.2.2.2.2.2.2.1 rfl | exact hd.2.2.2.2.2.2.2.2.2.2.2.1 rfl | exact hd.2.2.2.2.2.2.2.2.2.2.2.2.1 rfl | exact hd.2.2.2.2.2.2.2.2.2.2.2.2.2.1 rfl | exact hd.2.2.2.2.2.2.2.2.2.2.2.2.2.2.1 rfl | exact hd.2.2.2.2.2.2.2.2.2.2.2.2.2.2.2.1 rfl | exact hd.2.2.2.2.2.2.2.2.2.2.2.2.2.2.2.2.1 rfl | exact hd.2.2.2.2.2.2.2.2.2.2.2.2.2.2.2.2.2.1 rfl | exact hd.2.2.2.2.2.2.2.2.2.2.2.2.2.2.2.2.2.2.1 rfl | exact hd.2.2.2.2.2.2.2.2.2.2.2.2.2.2.2.2.2.2.2.1 rfl)
      have c0 := lg_3 (hL0 hi)
      have f0 := (hL0 hi).free 3
      refine Runs.of (b := ?bC10) ?eC10 ?_
      case eC10 => simp only [putV, Act.put, List.setIfInBounds_toArray, List.set_cons_zero, List.set_cons_succ, e7, e9]; rfl
      intro K' hK'
      go_simp
      have k2 : Keep [lb] w' _ := ((Keep.refl [lb] w').setCell (p := ⟨lb, 3, none⟩) (.inl (by simp)) (.slice ua (FL.length + 1) ucap))
      have hL2 := (hL0 hi).set 3 (.slice ua (FL.length + 1) ucap)
      have hlbT := (hL0 hi).ty
      exact hK'.go undef rfl ⟨ua, ucap, B6, k2.cell1 kc1 (by simp; exact HNL.out.2.1), k2.cell1 kc2 (by simp; exact HNL.out.2.2), fun h => absurd (h.symm.trans HL7.out) (by decide), fun h => (hO1 h).keep k2 (fun q hq hm => by simp only [List.mem_singleton] at hm; subst hm; exact ((hO1 h).ty _ hq).ne hlbT (by decide) rfl), hvb, fun h => Bool.noConfusion (show true = false from h), fun _ => hL2, fun _ => HL7.out, d7, hK.trans (k2.mono (by simp)), h0, h1, h2, h3, h4, h5, fun h => ⟨(h6 h).1, fun h2 => absurd (h2.symm.trans HL7.out) (by decide)⟩, h7, h8, h9, fun _ => trivial⟩
    · intro l x w3 hJ hl
      obtain ⟨ua, ucap, B6, kc1, kc2, hO0, hO1, hvb, hL0, hL1, d10, d7, hK, h0, h1, h2, h3, h4, h5, h6, h7, h8, h9, h10⟩ := hJ
      have hO9 := hO1 (hl 7 (by decide))
      have hL9 := hL1 (hl 10 (by decide))
      have hvb9 := hvb (hl 7 (by decide))
      simp only [putV, Act.put, List.setIfInBounds_toArray, List.set_cons_zero, List.set_cons_succ]
      simp only [Nat.zero_add, Nat.reduceAdd]
      have HL9 := Lib.hid hL9
      have HO9 := Lib.hid hO9
      have HVB9 := Lib.hid hvb9
      have HK9 := Lib.hid hK
      have hlbT := hL8.ty
      have HV8T : Hid (∀ q ∈ (Value.slice va FL.length vcap).ownBlock.toList, Ty w8 q 76) := Lib.hid (fun q hq => hO8.ty q (Option.mem_toList.1 hq))
      have HD8 : Hid (IsDev w8 d sb (L.set idx ⟨sgImg G nx run 0 [], (L.getD idx zeroSec).lasts, true⟩) (c + 1)) := Lib.hid (HD5.out.keep HK8.out (fun hm => by
          rcases List.mem_cons.1 hm with h | h
          · exact HD5.out.dev.ty.ne H5.out.blk.ty (by decide) h
          · exact HD5.out.dev.ty.ne (HVLT.out d h) (by decide) rfl) (fun hm => by
          rcases List.mem_cons.1 hm with h | h
          · exact HD5.out.secs.ty.ne H5.out.blk.ty (by decide) h
          · exact HD5.out.secs.ty.ne (HVLT.out sb h) (by decide) rfl))
      have HD9 : Hid (IsDev w3 d sb (L.set idx ⟨sgImg G nx run 0 [], (L.getD idx zeroSec).lasts, true⟩) (c + 1)) := Lib.hid (HD8.out.keep hK (fun hm => by
          rcases List.mem_cons.1 hm with h | h
          · exact HD8.out.dev.ty.ne hlbT (by decide) h
          · exact HD8.out.dev.ty.ne (HV8T.out d h) (by decide) rfl) (fun hm => by
          rcases List.mem_cons.1 hm with h | h
          · exact HD8.out.secs.ty.ne hlbT (by decide) h
          · exact HD8.out.secs.ty.ne (HV8T.out sb h) (by decide) rfl))
      have HS9 : Hid (Blk w3 p (sgC (G : Int) (nx : Int) 0 nilS nilS) 80) := Lib.hid (HS8.out.keep hK (fun hm => by
        rcases List.mem_cons.1 hm with h | h
        · exact HNL.out.1 h
        · exact HNB.out p (.inl rfl) h))
      have q0 := lg_0 hL9
      clear h0 h1 h2 h3 h4 h5 h6 h7 h8 h9 h10 hO0 hO1 hvb hL0 hL1 d10 d7 hl hvb9 hO9 hL9 hL8 hO8 kc1 hK hlbT
      generalize w3 = w9 at *
      go_wp2_with fail
      refine (Flush_any HD9.out (by have := HC.out; omega)).mono ?_
      rintro e wa ⟨rfl, hda, ka⟩
      have HDA := Lib.hid hda
      have HKA := Lib.hid ka
      clear hda ka q0 kc2 k3
      go_wp2_with fail
      go_ret
      have hk9a : Keep (d :: sb :: lb :: vl.ownBlock.toList) w5 wa := by
        have e1 : Keep (d :: sb :: lb :: vl.ownBlock.toList) w5 w8 := HK8.out.mono (fun q hq _ => List.mem_cons_of_mem _ (List.mem_cons_of_mem _ hq))
        have e2 : Keep (d :: sb :: lb :: vl.ownBlock.toList) w8 w9 := HK9.out.mono (fun q hq _ => by
          rw [HVB8.out] at hq
          exact List.mem_cons_of_mem _ (List.mem_cons_of_mem _ hq))
        have e3 : Keep (d :: sb :: lb :: vl.ownBlock.toList) w9 wa := HKA.out.mono (fun q hq _ => by
          simp only [List.mem_cons, List.not_mem_nil, or_false] at hq
          rcases hq with rfl | rfl <;> simp)
        exact e1.trans (e2.trans e3)
      have hKF : Keep (d :: sb :: lb :: (Value.slice a l₀.length cap).ownBlock.toList) w wa := by
        rw [← HVL.out]
        exact (HKW5.out.mono (fun q hq _ => by
          simp only [List.mem_cons, List.not_mem_nil, or_false] at hq
          rcases hq with rfl | rfl <;> simp)).trans hk9a
      have hdn : ∀ {b : Nat} {T : TypeId}, Ty w9 b T → T ≠ 47 → T ≠ 70 → b ∉ [d, sb] := by
        intro b T ht h1 h2 hm
        simp only [List.mem_cons, List.not_mem_nil, or_false] at hm
        rcases hm with rfl | rfl
        · exact ht.ne HD9.out.dev.ty h1 rfl
        · exact ht.ne HD9.out.secs.ty h2 rfl
      have hnotS : ∀ s ∈ l₀, ∀ q ∈ s.F, q ∉ (d :: sb :: lb :: (Value.slice a l₀.length cap).ownBlock.toList) := by
        intro s hs q hq hm
        have hqF : q ∈ lgF lb (.slice a l₀.length cap) l₀ := List.mem_cons_of_mem _ (List.mem_append_right _ (List.mem_flatMap.2 ⟨s, hs, hq⟩))
        have hty := (H.out.row.ok s hs).ty q hq
        simp only [List.mem_cons] at hm
        rcases hm with h | h | h | h
        · exact H.out.apart HD.out q hqF (by simp [h])
        · exact H.out.apart HD.out q hqF (by simp [h])
        · subst h
          rcases hty with t | t | t
          · exact H.out.blk.ty.ne t (by decide) rfl
          · exact H.out.blk.ty.ne t (by decide) rfl
          · exact H.out.blk.ty.ne t (by decide) rfl
        · have t0 := H.out.row.own.ty q (Option.mem_toList.1 h)
          rcases hty with t | t | t
          · exact t0.ne t (by decide) rfl
          · exact t0.ne t (by decide) rfl
          · exact t0.ne t (by decide) rfl
      have hBw : B ≤ w.heap.size := by have := H.out.lt lb (by simp [lgF]); omega
      have hpw : w.heap.size ≤ p := by have := HN.out; omega
      have hFm : ∀ s ∈ FL, s ∈ l₀ := fun s hs => by rw [HFL.out] at hs; exact (List.mem_filter.1 hs).1
      refine ⟨p, _, rfl, ⟨HL9.out.keep HKA.out (hdn HL9.out.ty (by decide) (by decide)), ⟨?_, ?_⟩, ?_, H.out.new⟩, HDA.out, hKF, hpw, ?_⟩
      · rw [List.map_append]
        exact HO9.out.keep HKA.out (fun q hq => hdn (HO9.out.ty q hq) (by decide) (by decide))
      · intro s hs
        rcases List.mem_append.1 hs with hs | hs
        · exact (H.out.row.ok s (hFm s hs)).keep hKF (hnotS s (hFm s hs))
        · simp only [List.mem_cons, List.not_mem_nil, or_false] at hs
          subst hs
          exact ⟨HS9.out.keep HKA.out (hdn HS9.out.ty (by decide) (by decide)), Buf.nil _ _ _, RRow.nil _ _, Nat.le_trans hBw hpw, by simp [Sg.F, rcF, nilS, Value.ownBlock]⟩
      · unfold sgF
        rw [List.flatMap_append]
        have hsub : (FL.flatMap Sg.F).Sublist (l₀.flatMap Sg.F) := by
          rw [HFL.out]
          exact flatMap_sub Sg.F List.filter_sublist
        have hnd : (l₀.flatMap Sg.F).Nodup := H.out.nd
        rw [List.nodup_append]
        refine ⟨hsub.nodup hnd, by simp [Sg.F, rcF, nilS, Value.ownBlock], ?_⟩
        intro q hq r hr hqr
        subst hqr
        have h1 := (H.out.lt q (List.mem_cons_of_mem _ (List.mem_append_right _ (hsub.subset hq)))).2
        simp [Sg.F, rcF, nilS, Value.ownBlock] at hr
        omega
      · intro q hq
        rcases HVB9.out q hq with h | h
        · left
          rw [HVB8.out, HVL.out] at h
          exact h
        · right
          have := HKW5.out.size
          have := HK8.out.size
          omega
end
end Go.Proofs.Ytpibpapolcdeiaa
/- slog: what stands behind Append. -/
namespace Go.Proofs.Ytpibpapolcdeiaa
open Go.ChangeShapes Go.WideShapes Go.ChangeAt Go.RowKit
set_option linter.unusedVariables false
set_option linter.unusedSimpArgs false
set_option maxRecDepth 100000

/-- Is a new segment wanted? -/
def need (l : List Sg) (n : Nat) : Prop := match l.getLast? with | none => True | some s => 370 - (n : Int) < ((encRs s.rs).length : Int)
/-- The log, ready for a record. -/
structure Ready (w wc : World) (B lb d sb frm segs nx run : Nat) (fr : Bool) (vl vl1 : Value) (l₀ l1 : List Sg) (L L1 : List Sec) (c c1 n : Nat) : Prop where
  at_ : LogAt wc B lb d frm segs nx run fr vl1 l1
  dev : IsDev wc d sb L1 c1
  keep : Keep (d :: sb :: lb :: vl.ownBlock.toList) w wc
  own : ∀ q, vl1.ownBlock = some q → vl.ownBlock = some q ∨ w.heap.size ≤ q
  how : (¬ need l₀ n ∧ l1 = l₀ ∧ L1 = L ∧ c1 = c) ∨ (need l₀ n ∧ c1 = c + 2 ∧ (∃ p, l1 = l₀.filter (fun s => !decide ((s.gen : Int) ≤ (nextGen l₀ : Int) - (segs : Int))) ++ [⟨p, nextGen l₀, nx, 0, nilS, nilS, []⟩] ∧ w.heap.size ≤ p) ∧
    L1 = (L.set (frm + (nextGen l₀ - 1) % segs * 8) ⟨sgImg (nextGen l₀) nx run 0 [], (L.getD (frm + (nextGen l₀ - 1) % segs * 8) zeroSec).lasts, true⟩).map flushSec)
theorem Ready.last {w wc : World} {B lb d sb frm segs nx run : Nat} {fr : Bool} {vl vl1 : Value} {l₀ l1 : List Sg} {L L1 : List Sec} {c c1 n : Nat} (h : Ready w wc B lb d sb frm segs nx run fr vl vl1 l₀ l1 L L1 c c1 n) (hn : n ≤ 300) (hl : l₀.length ≤ 199)
    (hg : ∀ s ∈ l₀, 0 < s.gen ∧ s.gen + 1 < 281474976710656 ∧ s.base < 281474976710656) (hnx : nx < 281474976710656) (hok : ∀ s ∈ l₀, ∀ r ∈ s.rs, r.ok) (hroom : ∀ s ∈ l₀, (encRs s.rs).length ≤ 378 ∧ s.recs.length ≤ 100) :
    ∃ A s, l1 = A ++ [s] ∧ A.length ≤ 199 ∧ (0 < s.gen ∧ s.gen < 281474976710656 ∧ s.base < 281474976710656) ∧ (∀ r ∈ s.rs, r.ok) ∧ (encRs s.rs).length + n ≤ 370 ∧ s.recs.length ≤ 100 := by
  rcases h.how with ⟨hn1, rfl, rfl, rfl⟩ | ⟨hn1, rfl, ⟨p, rfl, hp⟩, rfl⟩
  · cases hgl : l1.getLast? with
    | none => exact absurd (by unfold need; rw [hgl]; trivial) hn1
    | some s =>
      obtain ⟨A, rfl⟩ := List.getLast?_eq_some_iff.1 hgl
      have hs : s ∈ A ++ [s] := by simp
      have h1 : ¬ (370 - (n : Int) < ((encRs s.rs).length : Int)) := by
        have h2 := hn1; unfold need at h2; rw [hgl] at h2; exact h2
      have h3 := hg s hs
      refine ⟨A, s, rfl, by simp at hl; omega, ⟨h3.1, by omega, h3.2.2⟩, hok s hs, by omega, (hroom s hs).2⟩
  · refine ⟨_, _, rfl, ?_, ⟨?_, ?_, hnx⟩, by simp [Sg.rs], by simp [Sg.rs, encRs]; omega, by simp⟩
    · exact Nat.le_trans (List.length_filter_le _ _) hl
    · unfold nextGen; split <;> simp
    · show nextGen l₀ < 281474976710656
      unfold nextGen
      split
      · decide
      · rename_i s hh
        exact (hg s (List.mem_of_getLast? hh)).2.1
theorem Ready.foot {w wc : World} {B lb d sb frm segs nx run : Nat} {fr : Bool} {vl vl1 : Value} {l₀ l1 : List Sg} {L L1 : List Sec} {c c1 n : Nat} (h : Ready w wc B lb d sb frm segs nx run fr vl vl1 l₀ l1 L L1 c c1 n) : ∀ q ∈ lgF lb vl1 l1, q ∈ lgF lb vl l₀ ∨ w.heap.size ≤ q := by
  intro q hq
  unfold lgF at hq ⊢
  rcases List.mem_cons.1 hq with rfl | hq
  · exact .inl (by simp)
  · rcases List.mem_append.1 hq with hq | hq
    · rcases h.own q (Option.mem_toList.1 hq) with h1 | h1
      · exact .inl (List.mem_cons_of_mem _ (List.mem_append_left _ (Option.mem_toList.2 h1)))
      · exact .inr h1
    · rcases h.how with ⟨_, rfl, _⟩ | ⟨_, _, ⟨p, rfl, hp⟩, _⟩
      · exact .inl (List.mem_cons_of_mem _ (List.mem_append_right _ hq))
      · unfold sgF at hq
        rw [List.flatMap_append] at hq
        rcases List.mem_append.1 hq with hq | hq
        · obtain ⟨x, hx, hqx⟩ := List.mem_flatMap.1 hq
          exact .inl (List.mem_cons_of_mem _ (List.mem_append_right _ (List.mem_flatMap.2 ⟨x, (List.mem_filter.1 hx).1, hqx⟩)))
        · simp [Sg.F, rcF, nilS, Value.ownBlock] at hq
          subst hq; exact .inr hp
/-- The sectors that a segment's bytes are written on. -/
def wrSec (a gen base run : Nat) (buf : List Nat) (was : Nat) (L : List Sec) : Nat → List Sec
  | 0 => L
  | k + 1 => if was < st0 (k + 1) ∧ st0 k < buf.length then (wrSec a gen base run buf was L k).set (a + k) ⟨sgImg gen base run k buf, ((wrSec a gen base run buf was L k).getD (a + k) zeroSec).lasts, true⟩ else wrSec a gen base run buf was L k
theorem wrSec_len (a gen base run : Nat) (buf : List Nat) (was : Nat) (L : List Sec) : ∀ k, (wrSec a gen base run buf was L k).length = L.length
  | 0 => rfl
  | k + 1 => by
    unfold wrSec
    split
    · rw [List.length_set]; exact wrSec_len a gen base run buf was L k
    · exact wrSec_len a gen base run buf was L k
theorem blk_rd8 {w : World} {hb : Nat} {X : List Nat} {T : TypeId} (h : Blk w hb (bcs X) T) (hl : X.length = 8) : Rd w (.slice (some ⟨hb, 0, none⟩) 8 8) X := by
  refine ⟨by simp, some ⟨hb, 0, none⟩, 8, by rw [hl], by omega, fun _ => ⟨hb, 0, rfl, h.lt, fun i hi => ?_⟩⟩
  rw [h.cell, Nat.zero_add]
theorem buf_n {w : World} {B : Nat} {E : TypeId} {v : Value} {l : List Nat} {n : Nat} (h : Buf w B E v l) (hn : l.length = n) : w.ownsRow B E 1 v n (bcs l) := by
  subst hn; exact h
theorem src_n {P : Program} {t : TypeId} {v : Value} {l : List Nat} {n : Nat} {w : World} (h : Src P 1 t v l.length (bcs l) w) (hn : l.length = n) : Src P 1 t v n (bcs l) w := by
  subst hn; exact h
theorem buf_app {w : World} {B : Nat} {E : TypeId} {v : Value} {l m : List Nat} {n k : Nat} (h : w.ownsRow B E 1 v (n + k) (bcs l ++ bcs m)) (hn : l.length = n) (hk : m.length = k) : Buf w B E v (l ++ m) := by
  subst hn hk
  unfold Buf
  rw [List.length_append, bcs_append]; exact h
theorem Keep.then2 {S S' : List Nat} {a b c : World} (h : Keep S a b) (k : Keep S' b c) (hs : ∀ x ∈ S', x < a.heap.size → x ∈ S) : Keep S a c := h.then k hs
theorem rrow_n {w : World} {B : Nat} {v : Value} {L : List Rc} (h : RRow w B v L) : w.ownsRow B 57 2 v L.length (rcCs L) := h.own
theorem nodup_new {p : Nat} {vb vr vb' vr' cv : Option Nat} {R FA : List Nat} (n1 n2 : Nat)
    (hnd : (FA ++ (p :: (vb.toList ++ (vr.toList ++ R)))).Nodup) (hold : ∀ q ∈ FA ++ (p :: (vb.toList ++ (vr.toList ++ R))), q < n1) (hn : n1 ≤ n2)
    (hb : ∀ q, vb' = some q → vb = some q ∨ n1 ≤ q) (hb2 : ∀ q, vb' = some q → q < n2) (hr : ∀ q, vr' = some q → vr = some q ∨ n2 ≤ q) (hc : ∀ q, cv = some q → n2 ≤ q)
    (hne : ∀ q, vr' = some q → cv = some q → False) (hne2 : ∀ q, vb' = some q → vr' = some q → False) :
    (FA ++ (p :: (vb'.toList ++ (vr'.toList ++ (R ++ cv.toList))))).Nodup := by
  have hF : ∀ q ∈ FA, q < n1 := fun q hq => hold q (by simp [hq])
  have hp : p < n1 := hold p (by simp)
  have hR : ∀ q ∈ R, q < n1 := fun q hq => hold q (by simp [hq])
  have hvb : ∀ q, vb = some q → q < n1 := fun q hq => hold q (by simp [hq])
  have hvr : ∀ q, vr = some q → q < n1 := fun q hq => hold q (by simp [hq])
  rw [List.nodup_append] at hnd ⊢
  obtain ⟨n1', n2', n3'⟩ := hnd
  rw [List.nodup_cons] at n2' ⊢
  obtain ⟨m1, m2⟩ := n2'
  rw [List.nodup_append] at m2 ⊢
  obtain ⟨_, m3, m4⟩ := m2
  rw [List.nodup_append] at m3 ⊢
  obtain ⟨_, m5, m6⟩ := m3
  refine ⟨n1', ⟨?_, ⟨by cases vb' <;> simp, ⟨by cases vr' <;> simp, ?_, ?_⟩, ?_⟩⟩, ?_⟩
  · intro hm
    simp only [List.mem_append, Option.mem_toList] at hm m1
    rcases hm with h | h | h | h
    · rcases hb p h with h' | h'
      · exact m1 (.inl h')
      · omega
    · rcases hr p h with h' | h'
      · exact m1 (.inr (.inl h'))
      · omega
    · exact m1 (.inr (.inr h))
    · have := hc p h; omega
  · rw [List.nodup_append]
    refine ⟨m5, by cases cv <;> simp, fun a ha b hb' e => ?_⟩
    subst e
    have h1 := hR a ha
    have h2 := hc a (Option.mem_toList.1 hb')
    omega
  · intro a ha b hb' e
    subst e
    have ha' := Option.mem_toList.1 ha
    rcases List.mem_append.1 hb' with h | h
    · rcases hr a ha' with h' | h'
      · exact m6 a (Option.mem_toList.2 h') a h rfl
      · have := hR a h; omega
    · exact hne a ha' (Option.mem_toList.1 h)
  · intro a ha b hb' e
    subst e
    have ha' := Option.mem_toList.1 ha
    simp only [List.mem_append, Option.mem_toList] at hb'
    rcases hb' with h | h | h
    · exact hne2 a ha' h
    · rcases hb a ha' with h' | h'
      · exact m4 a (Option.mem_toList.2 h') a (List.mem_append_right _ h) rfl
      · have := hR a h; omega
    · have := hb2 a ha'; have := hc a h; omega
  · intro a ha b hb' e
    subst e
    have h1 := hF a ha
    simp only [List.mem_cons, List.mem_append, Option.mem_toList] at hb'
    have key : a ∈ p :: (vb.toList ++ (vr.toList ++ R)) → False := fun h => n3' a ha a h rfl
    simp only [List.mem_cons, List.mem_append, Option.mem_toList] at key
    rcases hb' with h | h | h | h | h
    · exact key (.inl h)
    · rcases hb a h with h' | h'
      · exact key (.inr (.inl h'))
      · omega
    · rcases hr a h with h' | h'
      · exact key (.inr (.inr (.inl h')))
      · omega
    · exact key (.inr (.inr (.inr h)))
    · have := hc a h; omega
def fl (fr : Bool) (L : List Sec) : List Sec := if fr = true then L.map flushSec else L
/-- A segment with one more record. -/
def Sg.add (s : Sg) (vb vr : Value) (pos : Nat) (body : List Nat) (cv : Value) : Sg := ⟨s.p, s.gen, s.base, s.run, vb, vr, s.recs ++ [⟨(pos, body), cv⟩]⟩
def AppOut (w w' : World) (B lb d sb frm segs nx run : Nat) (fr : Bool) (vl : Value) (l₀ : List Sg) (L : List Sec) (c : Nat) (body : List Nat) : Prop :=
  ∃ wc vl1 A s L1 c1 vb vr cv c', Ready w wc B lb d sb frm segs nx run fr vl vl1 l₀ (A ++ [s]) L L1 c c1 body.length ∧ LogAt w' B lb d frm segs (nx + 1) run false vl1 (A ++ [s.add vb vr nx body cv]) ∧
    IsDev w' d sb (fl fr (wrSec (frm + (s.gen - 1) % segs * 8) s.gen s.base run (encRs (s.rs ++ [(nx, body)])) (encRs s.rs).length L1 8)) c' ∧ c' ≤ c + 12 ∧ Keep (d :: sb :: lgF lb vl l₀) w w' ∧
    ∀ q ∈ lgF lb vl1 (A ++ [s.add vb vr nx body cv]), q ∈ lgF lb vl l₀ ∨ w.heap.size ≤ q
/-- The log behind a record. -/
theorem app_log {w5 w6 wr w8 : World} {B lb d sb frm segs nx run c : Nat} {fr : Bool} {vl1 vb' vr' cv : Value} {A : List Sg} {s : Sg} {L : List Sec} {B2 body : List Nat} {nx' : Nat} (hA5 : LogAt w5 B lb d frm segs nx run fr vl1 (A ++ [s])) (hd5 : IsDev w5 d sb L c)
    (k6 : Keep (s.p :: s.vb.ownBlock.toList) w5 w6) (kr : Keep [d, sb] w6 wr) (k8 : Keep (s.p :: s.vr.ownBlock.toList) wr w8)
    (hL8 : Blk w8 lb (lgC d (frm : Int) (segs : Int) vl1 (nx : Int) (run : Int) fr) 75) (hS8 : Blk w8 s.p (sgC (s.gen : Int) (s.base : Int) (s.run : Int) vb' vr') 80)
    (hB6 : Buf w6 B 5 vb' B2) (hB2 : B2 = encRs (s.rs ++ [((nx', body) : Rcd)])) (hR8 : RRow w8 B vr' (s.recs ++ [⟨(nx', body), cv⟩]))
    (hv6 : ∀ q, vb'.ownBlock = some q → s.vb.ownBlock = some q ∨ w5.heap.size ≤ q) (hv8 : ∀ q, vr'.ownBlock = some q → s.vr.ownBlock = some q ∨ wr.heap.size ≤ q) (hc8 : ∀ q, cv.ownBlock = some q → wr.heap.size ≤ q) :
    LogAt w8 B lb d frm segs nx run fr vl1 (A ++ [s.add vb' vr' nx' body cv]) ∧ ∀ q ∈ (s.add vb' vr' nx' body cv).F, q ∈ s.F ∨ w5.heap.size ≤ q := by
  have hs5 := hA5.row.ok s (by simp)
  have hdT : ∀ {b : Nat} {T : TypeId}, Ty w6 b T → T ≠ 47 → T ≠ 70 → b ∉ [d, sb] := by
    have hd6 : IsDev w6 d sb L c := hd5.keep k6 (fun hm => by
        rcases List.mem_cons.1 hm with h | h
        · exact hd5.dev.ty.ne hs5.blk.ty (by decide) h
        · exact hd5.dev.ty.ne (hs5.buf.ty' _ (Option.mem_toList.1 h)) (by decide) rfl) (fun hm => by
        rcases List.mem_cons.1 hm with h | h
        · exact hd5.secs.ty.ne hs5.blk.ty (by decide) h
        · exact hd5.secs.ty.ne (hs5.buf.ty' _ (Option.mem_toList.1 h)) (by decide) rfl)
    intro b T ht h1 h2 hm
    simp only [List.mem_cons, List.not_mem_nil, or_false] at hm
    rcases hm with rfl | rfl
    · exact ht.ne hd6.dev.ty h1 rfl
    · exact ht.ne hd6.secs.ty h2 rfl
  have z6 := k6.size
  have zr := kr.size
  have z8 := k8.size
  have hnd := hA5.nd
  unfold sgF at hnd
  rw [List.flatMap_append, List.flatMap_cons, List.flatMap_nil, List.append_nil] at hnd
  have hndA := List.nodup_append.1 hnd
  have hnds := hs5.nd
  unfold Sg.F rcF at hnds
  -- the row of segments
  have hO8 : Own w8 B 76 vl1 ((A ++ [s]).map sgPtr) := by
    have hO5 := hA5.row.own
    have hO6 := hO5.keep k6 (fun q hq hm => by
      rcases List.mem_cons.1 hm with h | h
      · exact (hO5.ty q hq).ne hs5.blk.ty (by decide) h
      · exact (hO5.ty q hq).ne (hs5.buf.ty' _ (Option.mem_toList.1 h)) (by decide) rfl)
    have hOr := hO6.keep kr (fun q hq => hdT (hO6.ty q hq) (by decide) (by decide))
    refine hOr.keep k8 (fun q hq hm => ?_)
    rcases List.mem_cons.1 hm with h | h
    · subst h
      have t1 := hO5.ty _ hq
      exact t1.ne hs5.blk.ty (by decide) rfl
    · have t1 := hO5.ty q hq
      have t2 := hs5.recs.ty q (List.mem_append_left _ h)
      rcases t2 with t | t
      · exact t1.ne t (by decide) rfl
      · exact t1.ne t (by decide) rfl
  have hA8 : ∀ x ∈ A, SgAt w8 B x := by
    intro x hx
    have hx5 := hA5.row.ok x (by simp [hx])
    have hxs : ∀ q ∈ x.F, ∀ r ∈ s.F, q ≠ r := fun q hq r hr => hndA.2.2 q (List.mem_flatMap.2 ⟨x, hx, hq⟩) r hr
    have hx6 := hx5.keep k6 (fun q hq hm => by
      rcases List.mem_cons.1 hm with h | h
      · exact hxs q hq s.p (by simp [Sg.F]) h
      · exact hxs q hq q (by simp only [Sg.F, List.mem_cons, List.mem_append]; exact .inr (.inl h)) rfl)
    have hxr := hx6.keep kr (fun q hq => by
      rcases hx6.ty q hq with t | t | t
      · exact hdT t (by decide) (by decide)
      · exact hdT t (by decide) (by decide)
      · exact hdT t (by decide) (by decide))
    exact hxr.keep k8 (fun q hq hm => by
      rcases List.mem_cons.1 hm with h | h
      · exact hxs q hq s.p (by simp [Sg.F]) h
      · exact hxs q hq q (by simp only [Sg.F, rcF, List.mem_cons, List.mem_append]; exact .inr (.inr (.inl h))) rfl)
  have hBr := hB6.keep kr (fun q hq => hdT (hB6.ty' q hq) (by decide) (by decide))
  have hR24 : ∀ q, s.vr.ownBlock = some q → Ty w5 q 57 := by
    intro q hq
    rcases hs5.recs.own.2 with ⟨e, _⟩ | ⟨g, cap, cur, e, _, hg, _⟩
    · rw [e] at hq; cases hq
    · rw [e] at hq; cases hq; exact ⟨_, _, hg⟩
  have hB8 : Buf w8 B 5 vb' B2 := hBr.keep k8 (fun q hq hm => by
    have tq := hB6.ty' q hq
    have tq8 := hBr.ty' q hq
    rcases List.mem_cons.1 hm with h | h
    · subst h
      have h5 := hs5.blk.lt
      rcases hv6 _ hq with h' | h'
      · exact (List.nodup_cons.1 hnds).1 (List.mem_append_left _ (Option.mem_toList.2 h'))
      · omega
    · have t5 := hR24 q (Option.mem_toList.1 h)
      rcases hv6 _ hq with h' | h'
      · exact t5.ne (hs5.buf.ty' q h') (by decide) rfl
      · have := t5.lt; omega)
  have hltF : ∀ q ∈ A.flatMap Sg.F ++ s.F, q < w5.heap.size := by
    intro q hq
    refine (hA5.lt q ?_).2
    unfold lgF sgF
    rw [List.flatMap_append, List.flatMap_cons, List.flatMap_nil, List.append_nil]
    exact List.mem_cons_of_mem _ (List.mem_append_right _ hq)
  have hvrT : ∀ q, vr'.ownBlock = some q → Ty w8 q 57 := by
    intro q hq
    rcases hR8.own.2 with ⟨e, _⟩ | ⟨g, cap, cur, e, _, hg, _⟩
    · rw [e] at hq; cases hq
    · rw [e] at hq; cases hq; exact ⟨_, _, hg⟩
  have hcvT : ∀ q, cv.ownBlock = some q → Ty w8 q 5 := fun q hq => (hR8.ok ⟨(nx', body), cv⟩ (by simp)).1.ty' q hq
  have hnew : (A.flatMap Sg.F ++ (s.p :: (vb'.ownBlock.toList ++ (vr'.ownBlock.toList ++ (s.recs.flatMap (fun y => y.v.ownBlock.toList) ++ cv.ownBlock.toList))))).Nodup := by
    refine nodup_new w5.heap.size wr.heap.size hnd hltF (by omega) hv6 (fun q hq => (hBr.lt q hq).2) hv8 hc8 ?_ ?_
    · intro q h1 h2
      exact (hvrT q h1).ne (hcvT q h2) (by decide) rfl
    · intro q h1 h2
      exact (hvrT q h2).ne (hB8.ty' q h1) (by decide) rfl
  have hF' : (s.add vb' vr' nx' body cv).F = s.p :: (vb'.ownBlock.toList ++ (vr'.ownBlock.toList ++ (s.recs.flatMap (fun y => y.v.ownBlock.toList) ++ cv.ownBlock.toList))) := by
    unfold Sg.F rcF Sg.add
    simp
  refine ⟨⟨hL8, ⟨?_, ?_⟩, ?_, hA5.new⟩, ?_⟩
  · rw [List.map_append] at hO8 ⊢
    exact hO8
  · intro x hx
    rcases List.mem_append.1 hx with hx | hx
    · exact hA8 x hx
    · simp only [List.mem_cons, List.not_mem_nil, or_false] at hx
      subst hx
      refine ⟨hS8, ?_, hR8, hs5.new, ?_⟩
      · have e : encRs (s.add vb' vr' nx' body cv).rs = B2 := by rw [hB2]; simp [Sg.add, Sg.rs]
        rw [e]
        exact hB8
      · rw [hF']
        exact (List.nodup_append.1 hnew).2.1
  · unfold sgF
    rw [List.flatMap_append, List.flatMap_cons, List.flatMap_nil, List.append_nil, hF']
    exact hnew
  · intro q hq
    rw [hF'] at hq
    simp only [List.mem_cons, List.mem_append, Option.mem_toList] at hq
    simp only [Sg.F, rcF, List.mem_cons, List.mem_append, Option.mem_toList]
    rcases hq with h | h | h | h | h
    · exact .inl (.inl h)
    · exact (hv6 q h).imp (fun h => .inr (.inl h)) id
    · exact (hv8 q h).imp (fun h => .inr (.inr (.inl h))) (fun h => by omega)
    · exact .inl (.inr (.inr (.inr h)))
    · exact .inr (by have := hc8 q h; omega)
theorem LogAt.setC {w : World} {B lb d frm segs nx run nx' run' : Nat} {fr fr' : Bool} {vl : Value} {l : List Sg} (h : LogAt w B lb d frm segs nx run fr vl l) (k : Nat) (u : Value) (hb : Blk (w.setCell ⟨lb, k, none⟩ u) lb (lgC d (frm : Int) (segs : Int) vl (nx' : Int) (run' : Int) fr') 75) :
    LogAt (w.setCell ⟨lb, k, none⟩ u) B lb d frm segs nx' run' fr' vl l := by
  refine ⟨hb, h.row.keep ((Keep.refl [lb] w).setCell (p := ⟨lb, k, none⟩) (.inl (by simp)) u) (fun q hq hm => ?_), h.nd, h.new⟩
  simp only [List.mem_singleton] at hm
  subst hm
  have t1 := h.blk.ty
  rcases List.mem_append.1 hq with hq | hq
  · exact t1.ne (h.row.own.ty _ (Option.mem_toList.1 hq)) (by decide) rfl
  · obtain ⟨s, hs, hq⟩ := List.mem_flatMap.1 hq
    rcases (h.row.ok s hs).ty _ hq with t | t | t
    · exact t1.ne t (by decide) rfl
    · exact t1.ne t (by decide) rfl
    · exact t1.ne t (by decide) rfl
end Go.Proofs.Ytpibpapolcdeiaa
/- slog: Append. -/
namespace Go.Proofs.Ytpibpapolcdeiaa
open Go.ChangeShapes Go.WideShapes Go.ChangeAt Go.RowKit
set_option linter.unusedVariables false
set_option linter.unusedSimpArgs false
set_option maxRecDepth 100000

def appJ15 (w0 : World) (B sp hb g bs N n vcap bcap : Nat) (rn : Int) (va ba : Option Addr) (vr : Value) (buf HDR body : List Nat) (l : Nat → Bool) (x : Nat → Value) (w' : World) : Prop :=
  ∃ a1 cq1 a2 cq2, (l 11 = false → Blk w' sp (sgC (g : Int) (bs : Int) (rn : Int) (.slice va N vcap) vr) 80) ∧
  (l 11 = true → Blk w' sp (sgC (g : Int) (bs : Int) (rn : Int) (.slice a2 (N + 8 + n) cq2) vr) 80) ∧
  (l 6 = false → Buf w' B 5 (.slice va N vcap) buf) ∧
  (l 6 = true → l 8 = false → Buf w' B 5 (.slice a1 (N + 8) cq1) (buf ++ HDR)) ∧
  (l 8 = true → Buf w' B 5 (.slice a2 (N + 8 + n) cq2) (buf ++ HDR ++ body)) ∧
  (Blk w' hb (bcs HDR) 87) ∧
  (Rd w' (.slice ba n bcap) body) ∧
  (l 6 = true → ∀ q, (.slice a1 (N + 8) cq1 : Value).ownBlock = some q → (.slice va N vcap : Value).ownBlock = some q ∨ w0.heap.size ≤ q) ∧
  (l 8 = true → ∀ q, (.slice a2 (N + 8 + n) cq2 : Value).ownBlock = some q → (.slice va N vcap : Value).ownBlock = some q ∨ w0.heap.size ≤ q) ∧
  (l 11 = true → l 8 = true) ∧
  (l 8 = true → l 6 = true) ∧
  (l 6 = true → l 4 = true) ∧
  (Keep (sp :: (.slice va N vcap : Value).ownBlock.toList) w0 w') ∧
  (l 0 = true → x 0 = .pointer (some ⟨sp, 0, none⟩)) ∧
  (l 1 = true → x 1 = .pointer (some ⟨sp, 0, none⟩)) ∧
  (l 2 = true → x 2 = .pointer (some ⟨sp, 0, none⟩)) ∧
  (l 3 = true → x 3 = .pointer (some ⟨sp, 3, none⟩)) ∧
  (l 4 = true → x 4 = .slice va N vcap) ∧
  (l 5 = true → x 5 = .slice (some ⟨hb, 0, none⟩) 8 8) ∧
  (l 6 = true → x 6 = .slice a1 (N + 8) cq1) ∧
  (l 7 = true → x 7 = .slice ba n bcap) ∧
  (l 8 = true → x 8 = .slice a2 (N + 8 + n) cq2) ∧
  (l 9 = true → x 9 = .pointer (some ⟨sp, 0, none⟩)) ∧
  (l 10 = true → x 10 = .pointer (some ⟨sp, 3, none⟩)) ∧
  (l 11 = true → True)
def appJ24 (w0 : World) (B sp lb g bs n n0 nx rcap bcap : Nat) (rn : Int) (ra ba : Option Addr) (vb : Value) (L0 : List Rc) (body : List Nat) (l : Nat → Bool) (x : Nat → Value) (w' : World) : Prop :=
  ∃ ca ccap na ncap B12, (l 16 = false → Blk w' sp (sgC (g : Int) (bs : Int) (rn : Int) vb (.slice ra n0 rcap)) 80) ∧
  (l 16 = true → Blk w' sp (sgC (g : Int) (bs : Int) (rn : Int) vb (.slice na (n0 + 1) ncap)) 80) ∧
  (w'.cell? ⟨lb, 4, none⟩ = some (.int .i64 (nx : Int))) ∧
  (Rd w' (.slice ba n bcap) body) ∧
  (l 13 = false → RRow w' B (.slice ra n0 rcap) L0) ∧
  (l 13 = true → RRow w' B (.slice na (n0 + 1) ncap) (L0 ++ [⟨(nx, body), .slice ca n ccap⟩])) ∧
  (l 13 = true → ∀ q, (.slice na (n0 + 1) ncap : Value).ownBlock = some q → (.slice ra n0 rcap : Value).ownBlock = some q ∨ w0.heap.size ≤ q) ∧
  (l 10 = true → ∀ q, (.slice ca n ccap : Value).ownBlock = some q → w0.heap.size ≤ q) ∧
  (l 16 = true → l 13 = true) ∧
  (l 13 = true → l 4 = true ∧ l 10 = true) ∧
  (Keep (sp :: (.slice ra n0 rcap : Value).ownBlock.toList) w0 w') ∧
  (l 0 = true → x 0 = .pointer (some ⟨sp, 0, none⟩)) ∧
  (l 1 = true → x 1 = .pointer (some ⟨sp, 0, none⟩)) ∧
  (l 2 = true → x 2 = .pointer (some ⟨sp, 0, none⟩)) ∧
  (l 3 = true → x 3 = .pointer (some ⟨sp, 4, none⟩)) ∧
  (l 4 = true → x 4 = .slice ra n0 rcap) ∧
  (l 5 = true → x 5 = .pointer (some ⟨lb, 0, none⟩)) ∧
  (l 6 = true → x 6 = .pointer (some ⟨lb, 0, none⟩)) ∧
  (l 7 = true → x 7 = .pointer (some ⟨lb, 4, none⟩)) ∧
  (l 8 = true → x 8 = .int .i64 (nx : Int)) ∧
  (l 9 = true → x 9 = .slice ba n bcap) ∧
  (l 10 = true → x 10 = .slice ca n ccap ∧ (l 13 = false → Buf w' w0.heap.size 5 (.slice ca n ccap) body)) ∧
  (l 11 = true → x 11 = .agg #[.int .i64 (nx : Int), .slice ca n ccap] ∧ Hid (l 10 = true)) ∧
  (l 12 = true → x 12 = .slice (some ⟨B12, 0, none⟩) 1 1 ∧ (l 13 = false → Blk w' B12 [.int .i64 (nx : Int), .slice ca n ccap] 57) ∧ Hid (l 10 = true)) ∧
  (l 13 = true → x 13 = .slice na (n0 + 1) ncap) ∧
  (l 14 = true → x 14 = .pointer (some ⟨sp, 0, none⟩)) ∧
  (l 15 = true → x 15 = .pointer (some ⟨sp, 4, none⟩)) ∧
  (l 16 = true → True)
def appJ28 (w0 : World) (lb d sb frm segs nx run cc : Nat) (vl : Value) (LW : List Sec) (l : Nat → Bool) (x : Nat → Value) (w' : World) : Prop :=
  (Blk w' lb (lgC d (frm : Int) (segs : Int) vl (((nx + 1 : Nat) : Nat) : Int) (run : Int) false) 75) ∧
  (l 9 = false → IsDev w' d sb LW cc) ∧
  (l 9 = true → IsDev w' d sb (LW.map flushSec) (cc + 1)) ∧
  (Keep [d, sb] w0 w') ∧
  (l 0 = true → x 0 = .pointer (some ⟨lb, 0, none⟩)) ∧
  (l 1 = true → x 1 = .pointer (some ⟨lb, 0, none⟩)) ∧
  (l 2 = true → x 2 = .pointer (some ⟨lb, 4, none⟩)) ∧
  (l 3 = true → x 3 = .int .i64 (((nx + 1 : Nat) : Nat) : Int)) ∧
  (l 4 = true → x 4 = .int .i64 (nx : Int)) ∧
  (l 5 = true → x 5 = .pointer (some ⟨lb, 0, none⟩)) ∧
  (l 6 = true → x 6 = .pointer (some ⟨lb, 0, none⟩)) ∧
  (l 7 = true → x 7 = .pointer (some ⟨lb, 0, none⟩)) ∧
  (l 8 = true → x 8 = .pointer (some ⟨d, 0, none⟩)) ∧
  (l 9 = true → x 9 = .int .i64 0) ∧
  (l 10 = true → x 10 = .int .i64 (nx : Int)) ∧
  (l 11 = true → x 11 = .int .i64 0)
section
variable {w : World} {B lb d sb c frm segs nx run : Nat} {fr : Bool} {vl bv : Value} {l₀ : List Sg} {L : List Sec} {body : List Nat}
set_option maxHeartbeats 16000000 in
theorem append_any (h : LogAt w B lb d frm segs nx run fr vl l₀) (hd : IsDev w d sb L c) (hc : c + 20 < 1099511627776) (hl : l₀.length ≤ 199) (hg : ∀ s ∈ l₀, 0 < s.gen ∧ s.gen + 1 < 281474976710656 ∧ s.base < 281474976710656) (hnx : nx + 1 < 281474976710656) (hrun : run < 4294967296)
    (hsg : 0 < segs ∧ segs ≤ 200) (hfr : frm ≤ 100000) (hlt : frm + segs * 8 ≤ L.length) (hok : ∀ s ∈ l₀, ∀ r ∈ s.rs, r.ok) (hroom : ∀ s ∈ l₀, (encRs s.rs).length ≤ 378 ∧ s.recs.length ≤ 100)
    (hb : Rd w bv body) (hbl : 1 ≤ body.length ∧ body.length ≤ 300) (hbb : ∀ c ∈ body, c < 256) (hbs : ∀ q, bv.ownBlock = some q → q ∉ d :: sb :: lgF lb vl l₀) :
    Calls Try.prog 20 #[.pointer (some ⟨lb, 0, none⟩), bv] w fun e w' => e = .returned (.tuple #[.int .i64 (nx : Int), .int .i64 0]) ∧ AppOut w w' B lb d sb frm segs nx run fr vl l₀ L c body := by
  obtain ⟨_, ba, bcap, hbv, _⟩ := id hb
  subst hbv
  have H := Lib.hid h
  have HD := Lib.hid hd
  have HC := Lib.hid hc
  have HL := Lib.hid hl
  have HGS := Lib.hid hg
  have HNX := Lib.hid hnx
  have HRUN := Lib.hid hrun
  have HSG := Lib.hid hsg
  have HFR := Lib.hid hfr
  have HLT := Lib.hid hlt
  have HOK := Lib.hid hok
  have HROOM := Lib.hid hroom
  have HB := Lib.hid hb
  have HBL := Lib.hid hbl
  have HBB := Lib.hid hbb
  have HBS := Lib.hid hbs
  obtain ⟨a, cap, hvl⟩ := h.slice
  subst hvl
  obtain ⟨i8, hi8, hz80, hz81, hz82⟩ := info_parts Try.info8
  obtain ⟨iR, hiR, hzR0, hzR1, hzR2⟩ := info_parts Try.infoRec
  have k3 := lg_3 h.blk
  have q1 : decide ((body.length : Int) < 1) = false := decide_eq_false (by omega)
  have q1' : decide (body.length < 1) = false := decide_eq_false (by omega)
  have q2 : decide ((body.length : Int) > 300) = false := decide_eq_false (by omega)
  have q2' : decide (300 < body.length) = false := decide_eq_false (by omega)
  have q3 : ¬ body.length < 1 := by omega
  have q4 : ¬ 300 < body.length := by omega
  have hb1 : 1 ≤ body.length := hbl.1
  have hb2 : body.length ≤ 300 := hbl.2
  clear h hd hc hg hnx hrun hsg hfr hlt hok hroom hb hbl hbb hbs
  go_enter Try.func20, Try.ntmps20
  go_upto_region 6 with fail
  obtain ⟨nb, hnb⟩ : ∃ b : Bool, (b = true ↔ need l₀ body.length) := by
    by_cases hh : need l₀ body.length
    · exact ⟨true, by simp [hh]⟩
    · exact ⟨false, by simp [hh]⟩
  have HNB := Lib.hid hnb
  clear hnb
  go_cut [49] (fun s wc => s = .bool nb ∧ w = wc)
  case first =>
    by_cases hnil : l₀ = []
    · have hz : l₀.length = 0 := by rw [hnil]; rfl
      have hnbt : nb = true := HNB.out.2 (by rw [hnil]; trivial)
      subst hnbt
      have q0 : ((l₀.length : Int) == 0) = true := by rw [hz]; rfl
      clear hnil hz k3
      go_wp2_with fail
      go_meet
      exact ⟨rfl, rfl⟩
    · have hpos : 0 < l₀.length := List.length_pos_iff.2 hnil
      obtain ⟨s, hsi⟩ : ∃ s, l₀[l₀.length - 1]? = some s := ⟨_, List.getElem?_eq_getElem (by omega)⟩
      have hgl : l₀.getLast? = some s := by rw [List.getLast?_eq_getElem?]; exact hsi
      have hnn : need l₀ body.length ↔ 370 - (body.length : Int) < ((encRs s.rs).length : Int) := by unfold need; rw [hgl]
      obtain ⟨la, cap', hv, c0⟩ := H.out.seg_at _ s hsi
      injection hv with hv hv2 hv3
      subst hv hv3
      have hsA := H.out.row.ok s (List.mem_of_getElem? hsi)
      have c3 := seg_3 hsA.blk
      obtain ⟨va, vcap, hvb⟩ := hsA.buf.slice
      rw [hvb] at c3
      have q0 : ((l₀.length : Int) == 0) = false := by simp; omega
      have q0' : (l₀.length == 0) = false := by simp; omega
      have q0'' : ¬ l₀.length = 0 := by omega
      have hq : nb = decide (370 - (body.length : Int) < ((encRs s.rs).length : Int)) := by
        cases nb with
        | true => exact (decide_eq_true (hnn.1 (HNB.out.1 rfl))).symm
        | false => exact (decide_eq_false (fun h => Bool.noConfusion (HNB.out.2 (hnn.2 h)))).symm
      have hrm := (HROOM.out s (List.mem_of_getElem? hsi)).1
      have HQ := Lib.hid hq
      obtain ⟨N, hN⟩ : ∃ N, N = (encRs s.rs).length := ⟨_, rfl⟩
      rw [← hN] at c3 hrm HQ
      have HQ2 : Hid (decide ((N : Int) > 370 - (body.length : Int)) = nb) := Lib.hid HQ.out.symm
      clear hv2 hsi hgl hnn hsA hvb hq hN hnil
      go_wp2_with fail
      go_meet
      exact ⟨congrArg Value.bool HQ2.out, rfl⟩
  case rest =>
  obtain ⟨rfl, rfl⟩ := hcut
  go_upto_if 49 with fail
  go_cut [] (fun wc => ∃ vl1 l1 L1 c1, Ready w wc B lb d sb frm segs nx run fr (.slice a l₀.length cap) vl1 l₀ l1 L L1 c c1 body.length)
  case first =>
    have HBEG := Lib.hid (@begin_any w B lb d sb c frm segs nx run fr (.slice a l₀.length cap) l₀ L H.out HD.out (by have := HC.out; omega) (by have := HL.out; omega) (fun s hs => ⟨(HGS.out s hs).1, (HGS.out s hs).2.1⟩) (by have := HNX.out; omega) HRUN.out HSG.out HFR.out _ rfl (by
      have h1 := HLT.out
      have h2 : (nextGen l₀ - 1) % segs < segs := Nat.mod_lt _ HSG.out.1
      omega))
    clear k3
    cases nb with
    | true =>
      have HND := Lib.hid (HNB.out.1 rfl)
      go_wp2_with fail
      refine HBEG.out.mono ?_
      rintro e w2 ⟨p, vl2, rfl, hA, hD2, hK2, hp, hq⟩
      have HA := Lib.hid hA
      have HD2 := Lib.hid hD2
      have HK2 := Lib.hid hK2
      have HP := Lib.hid hp
      have HQ := Lib.hid hq
      clear hA hD2 hK2 hp hq
      go_wp2_with fail
      go_meet
      exact ⟨vl2, _, _, _, HA.out, HD2.out, HK2.out, HQ.out, .inr ⟨HND.out, rfl, ⟨p, rfl, HP.out⟩, rfl⟩⟩
    | false =>
      have HND := Lib.hid (fun h => Bool.noConfusion (HNB.out.2 h) : ¬ need l₀ body.length)
      go_wp2_with fail
      go_meet
      exact ⟨_, l₀, L, c, H.out, HD.out, Keep.refl _ _, fun q hq => .inl hq, .inl ⟨HND.out, rfl, rfl, rfl⟩⟩
  case rest =>
  obtain ⟨vl1, l1, L1, c1, hR⟩ := hcut
  obtain ⟨A, s, hl1, hAl, hsg, hsok, hsr, hsn⟩ := hR.last HBL.out.2 HL.out HGS.out (by have := HNX.out; omega) HOK.out HROOM.out
  subst hl1
  have hlen : (A ++ [s]).length = A.length + 1 := by simp
  obtain ⟨la, cap1, hv, c0⟩ := hR.at_.seg_at A.length s (by simp)
  rw [hlen] at hv
  subst hv
  have k3 := lg_3 hR.at_.blk
  have HR := Lib.hid hR
  have HSG1 := Lib.hid hsg
  have HSOK := Lib.hid hsok
  have HSR := Lib.hid hsr
  have HSN := Lib.hid hsn
  clear hR hsg hsok hsr hsn hlen HNB HOK HROOM HGS
  have hAl2 := hAl
  go_upto_region 10 with fail
  go_quiet (fail)
  have hA2 := HR.out.at_.keep (drewnK (Keep.refl [] wc) nq) (by simp)
  have hD2 := HR.out.dev.keep (drewnK (Keep.refl [] wc) nq) (by simp) (by simp)
  have hK2 := drewnK HR.out.keep nq
  generalize wc.drewN nq = w2 at *
  have HK2 := Lib.hid hK2
  have HA2 := Lib.hid hA2
  have HD2 := Lib.hid hD2
  clear hA2 hD2 hK2 c0 k3
  go_upto_region 12 with fail
  have hbH := Blk.new w2 (bcs ([] ++ ([0, 0] ++ [0, 0, 0, 0, 0, 0]))) 87
  have KH := (Keep.refl [] w2).alloc (.cells (bcs ([] ++ ([0, 0] ++ [0, 0, 0, 0, 0, 0]))).toArray 87)
  rw [show (#[.int .u8 0, .int .u8 0, .int .u8 0, .int .u8 0, .int .u8 0, .int .u8 0, .int .u8 0, .int .u8 0] : Array Value) = (bcs ([] ++ ([0, 0] ++ [0, 0, 0, 0, 0, 0]))).toArray from rfl]
  obtain ⟨hb, hhb⟩ : ∃ hb, hb = w2.heap.size := ⟨_, rfl⟩
  rw [← hhb] at hbH ⊢
  have HHB := Lib.hid hhb
  generalize w2.alloc (.cells (bcs ([] ++ ([0, 0] ++ [0, 0, 0, 0, 0, 0]))).toArray 87) = w3 at *
  have HKH := Lib.hid KH
  have HBH := Lib.hid hbH
  clear hhb hbH KH
  go_wp2_with fail
  refine (sput_at [] [0, 0] [0, 0, 0, 0, 0, 0] 0 2 8 body.length HBH.out rfl rfl (by have := HBL.out.2; omega) (by decide) (by simp)).mono ?_
  rintro e w4 ⟨rfl, hb4, kb4⟩
  have HB4 := Lib.hid hb4
  have HA4 := Lib.hid ((HA2.out.still HKH.out).keep kb4 (fun q hq => by have := (HA2.out.lt q hq).2; have := HHB.out; simp; omega))
  have HK24 : Hid (Keep [] w2 w4) := Lib.hid (HKH.out.then kb4 (by intro x hx hlt; simp at hx; have := HHB.out; omega))
  have k4 := lg_4 HA4.out.blk
  clear hb4 kb4 HBH HKH
  go_upto_region 13 with fail
  refine wp_region_still_tail 6 (by kernel_rfl) (by kernel_rfl) ?_
  simp only [List.take_succ_cons, List.take_zero, List.drop_succ_cons, List.drop_zero]
  repeat still_step
  refine wpStill_nil ?_
  go_wp2_with fail
  rw [show IntKind.u64.wrap (nx : Int) = (nx : Int) by rw [IntKind.wrap_u64]; have := HNX.out; omega]
  have hb4 : Blk w4.drew hb (bcs (be 2 body.length ++ ([0, 0, 0, 0, 0, 0] ++ []))) 87 := by
    have := HB4.out.drew
    simp only [List.nil_append, List.append_nil] at this ⊢
    exact this
  refine (sput_at (be 2 body.length) [0, 0, 0, 0, 0, 0] [] 2 6 6 nx hb4 (by simp) rfl (by have := HNX.out; omega) (by decide) (by simp)).mono ?_
  rintro e w5 ⟨rfl, hb5, kb5⟩
  obtain ⟨HDR, hHDR⟩ : ∃ H, H = be 2 body.length ++ be 6 nx := ⟨_, rfl⟩
  rw [List.append_nil, ← hHDR] at hb5
  have HLH : Hid (HDR.length = 8) := Lib.hid (by rw [hHDR]; simp)
  have HHDR := Lib.hid hHDR
  have KB5 : Keep [hb] w4 w5 := ((Keep.refl [hb] w4).drew).trans kb5
  have HA5 := Lib.hid (HA4.out.keep KB5 (fun q hq => by
    have h1 := HA2.out.lt q hq
    have h2 := HHB.out
    simp
    omega))
  have HK25 : Hid (Keep [] w2 w5) := Lib.hid (HK24.out.then KB5 (by intro x hx hlt; simp at hx; have := HHB.out; omega))
  have HB5 := Lib.hid hb5
  clear hb4 hHDR kb5 KB5 k4 hb5 HB4 HA4 HK24
  have hs5 := HA5.out.row.ok s (by simp)
  obtain ⟨va, vcap, hvb⟩ := hs5.buf.slice
  have c3 := seg_3 hs5.blk
  rw [hvb] at c3
  obtain ⟨N, hN⟩ : ∃ N, N = (encRs s.rs).length := ⟨_, rfl⟩
  rw [← hN] at c3 hvb
  have hS14 := hs5.blk
  have hB14 := hs5.buf
  rw [hvb] at hS14 hB14
  have HVB := Lib.hid hvb
  have HNB : Hid ((encRs s.rs).length = N) := Lib.hid hN.symm
  have HNB8 : Hid ((encRs s.rs ++ HDR).length = N + 8) := Lib.hid (by rw [List.length_append, HLH.out, hN])
  have HLB : Hid (body.length = body.length) := Lib.hid rfl
  have HNS : Hid (N + body.length ≤ 370) := Lib.hid (by rw [hN]; exact HSR.out)
  have hH14 := HB5.out
  have hY14 : Rd w5 (.slice ba body.length bcap) body := by
    have h1 := HB.out.keep0 HK2.out (fun q hq _ hm => HBS.out q hq (by
      simp only [List.mem_cons] at hm ⊢
      rcases hm with rfl | rfl | rfl | hm
      · exact .inl rfl
      · exact .inr (.inl rfl)
      · exact .inr (.inr (by simp [lgF]))
      · exact .inr (.inr (List.mem_cons_of_mem _ (List.mem_append_left _ hm)))))
    exact h1.keep0 HK25.out (by simp)
  have HBW : Hid (B ≤ w5.heap.size) := Lib.hid (by have h1 := HA5.out.lt lb (by simp [lgF]); omega)
  have hbvlt : ∀ q, (Value.slice ba body.length bcap).ownBlock = some q → q < w.heap.size := fun q hq => HB.out.lo q hq (by omega)
  have HBV : Hid (∀ q, (Value.slice ba body.length bcap).ownBlock = some q → q ∉ (Value.slice va N vcap).ownBlock.toList ∧ q < w5.heap.size) := Lib.hid (fun q hq => ⟨fun hm => by
      have hmF : q ∈ lgF lb (.slice (some ⟨la, 0, none⟩) (A.length + 1) cap1) (A ++ [s]) := by
        simp only [lgF, List.mem_cons, List.mem_append]
        refine .inr (.inr (List.mem_flatMap.2 ⟨s, by simp, ?_⟩))
        unfold Sg.F
        rw [hvb]
        exact List.mem_cons_of_mem _ (List.mem_append_left _ hm)
      rcases HR.out.foot q hmF with h1 | h1
      · exact HBS.out q hq (List.mem_cons_of_mem _ (List.mem_cons_of_mem _ h1))
      · have := hbvlt q hq; omega, by have h1 := hbvlt q hq; have h2 := HK2.out.size; have h3 := HK25.out.size; omega⟩)
  have HBVS : Hid (∀ q, (Value.slice ba body.length bcap).ownBlock = some q → q ≠ s.p) := Lib.hid (fun q hq he => by
      have hmF : q ∈ lgF lb (.slice (some ⟨la, 0, none⟩) (A.length + 1) cap1) (A ++ [s]) := by
        simp only [lgF, List.mem_cons, List.mem_append]
        refine .inr (.inr (List.mem_flatMap.2 ⟨s, by simp, ?_⟩))
        simp [Sg.F, he]
      rcases HR.out.foot q hmF with h1 | h1
      · exact HBS.out q hq (List.mem_cons_of_mem _ (List.mem_cons_of_mem _ h1))
      · have := hbvlt q hq; omega)
  have HSPH : Hid (hb ≠ s.p) := Lib.hid (by
    have h1 := (HA2.out.lt s.p (by simp only [lgF, List.mem_cons, List.mem_append]; exact .inr (.inr (List.mem_flatMap.2 ⟨s, by simp, by simp [Sg.F]⟩)))).2
    have h2 := HHB.out
    omega)
  have hNS2 := HNS.out
  clear hvb hN hs5
  go_upto_region 15 with fail
  clear hNS2
  refine wp_region_inv (appJ15 w5 B s.p hb s.gen s.base N body.length vcap bcap s.run va ba s.vr (encRs s.rs) HDR body) (by kernel_rfl) (by kernel_rfl) (by kernel_rfl) ?_ (Steps.cons 0 ?_ (Steps.cons 1 ?_ (Steps.cons 2 ?_ (Steps.cons 3 ?_ (Steps.cons 4 ?_ (Steps.cons 5 ?_ (Steps.cons 6 ?_ (Steps.cons 7 ?_ (Steps.cons 8 ?_ (Steps.cons 9 ?_ (Steps.cons 10 ?_ (Steps.cons 11 ?_ (Steps.nil 12))))))))))))) 12 rfl ?_
  · intro x
    exact ⟨none, 0, none, 0, fun _ => hS14.drew, fun h => absurd h (by decide), fun _ => hB14.keep (Keep.refl [] _).drew (by simp), fun h => absurd h (by decide), fun h => absurd h (by decide), hH14.drew, hY14.keep0 (Keep.refl [] _).drew (by simp), fun h => absurd h (by decide), fun h => absurd h (by decide), fun h => absurd h (by decide), fun h => absurd h (by decide), fun h => absurd h (by decide), (Keep.refl _ _).drew, fun h => absurd h (by decide), fun h => absurd h (by decide), fun h => absurd h (by decide), fun h => absurd h (by decide), fun h => absurd h (by decide), fun h => absurd h (by decide), fun h => absurd h (by decide), fun h => absurd h (by decide), fun h => absurd h (by decide), fun h => absurd h (by decide), fun h => absurd h (by decide), fun h => absurd h (by decide)⟩
  · intro l x w' hJ hi hd
    obtain ⟨a1, cq1, a2, cq2, hS0, hS1, hB0, hB1, hB2, hH, hY, hv1, hv2, d11, d8, d6, hK, h0, h1, h2, h3, h4, h5, h6, h7, h8, h9, h10, h11⟩ := hJ
    refine Runs.of (b := ?bA0) ?eA0 ?_
    case eA0 => simp only [putV, Act.put, List.setIfInBounds_toArray, List.set_cons_zero, List.set_cons_succ]; rfl
    intro K' hK'
    go_simp
    exact hK'.go _ rfl ⟨a1, cq1, a2, cq2, hS0, hS1, hB0, hB1, hB2, hH, hY, hv1, hv2, d11, d8, d6, hK, fun _ => rfl, h1, h2, h3, h4, h5, h6, h7, h8, h9, h10, h11⟩
  · intro l x w' hJ hi hd
    obtain ⟨a1, cq1, a2, cq2, hS0, hS1, hB0, hB1, hB2, hH, hY, hv1, hv2, d11, d8, d6, hK, h0, h1, h2, h3, h4, h5, h6, h7, h8, h9, h10, h11⟩ := hJ
    refine Runs.of (b := ?bA1) ?eA1 ?_
    case eA1 => simp only [putV, Act.put, List.setIfInBounds_toArray, List.set_cons_zero, List.set_cons_succ]; rfl
    intro K' hK'
    go_simp
    exact hK'.go _ rfl ⟨a1, cq1, a2, cq2, hS0, hS1, hB0, hB1, hB2, hH, hY, hv1, hv2, d11, d8, d6, hK, h0, fun _ => rfl, h2, h3, h4, h5, h6, h7, h8, h9, h10, h11⟩
  · intro l x w' hJ hi hd
    obtain ⟨a1, cq1, a2, cq2, hS0, hS1, hB0, hB1, hB2, hH, hY, hv1, hv2, d11, d8, d6, hK, h0, h1, h2, h3, h4, h5, h6, h7, h8, h9, h10, h11⟩ := hJ
    have e1 := h1 (show l 1 = true by first | exact hd.1 rfl | exact hd.2.1 rfl | exact hd.2.2.1 rfl | exact hd.2.2.2.1 rfl | exact hd.2.2.2.2.1 rfl | exact hd.2.2.2.2.2.1 rfl)
    refine Runs.of (b := ?bA2) ?eA2 ?_
    case eA2 => simp only [putV, Act.put, List.setIfInBounds_toArray, List.set_cons_zero, List.set_cons_succ, e1]; rfl
    intro K' hK'
    go_simp
    exact hK'.go _ rfl ⟨a1, cq1, a2, cq2, hS0, hS1, hB0, hB1, hB2, hH, hY, hv1, hv2, d11, d8, d6, hK, h0, h1, fun _ => rfl, h3, h4, h5, h6, h7, h8, h9, h10, h11⟩
  · intro l x w' hJ hi hd
    obtain ⟨a1, cq1, a2, cq2, hS0, hS1, hB0, hB1, hB2, hH, hY, hv1, hv2, d11, d8, d6, hK, h0, h1, h2, h3, h4, h5, h6, h7, h8, h9, h10, h11⟩ := hJ
    have e2 := h2 (show l 2 = true by first | exact hd.1 rfl | exact hd.2.1 rfl | exact hd.2.2.1 rfl | exact hd.2.2.2.1 rfl | exact hd.2.2.2.2.1 rfl | exact hd.2.2.2.2.2.1 rfl)
    refine Runs.of (b := ?bA3) ?eA3 ?_
    case eA3 => simp only [putV, Act.put, List.setIfInBounds_toArray, List.set_cons_zero, List.set_cons_succ, e2]; rfl
    intro K' hK'
    go_simp
    exact hK'.go _ rfl ⟨a1, cq1, a2, cq2, hS0, hS1, hB0, hB1, hB2, hH, hY, hv1, hv2, d11, d8, d6, hK, h0, h1, h2, fun _ => rfl, h4, h5, h6, h7, h8, h9, h10, h11⟩
  · intro l x w' hJ hi hd
    obtain ⟨a1, cq1, a2, cq2, hS0, hS1, hB0, hB1, hB2, hH, hY, hv1, hv2, d11, d8, d6, hK, h0, h1, h2, h3, h4, h5, h6, h7, h8, h9, h10, h11⟩ := hJ
    have e3 := h3 (show l 3 = true by first | exact hd.1 rfl | exact hd.2.1 rfl | exact hd.2.2.1 rfl | exact hd.2.2.2.1 rfl | exact hd.2.2.2.2.1 rfl | exact hd.2.2.2.2.2.1 rfl)
    have f11 : l 11 = false := by cases hq : l 11 with | false => rfl | true => exact absurd (d6 (d8 (d11 hq))) (by simp [hi])
    have c0 := seg_3 (hS0 f11)
    refine Runs.of (b := ?bA4) ?eA4 ?_
    case eA4 => simp only [putV, Act.put, List.setIfInBounds_toArray, List.set_cons_zero, List.set_cons_succ, e3]; rfl
    intro K' hK'
    go_simp
    exact hK'.go _ rfl ⟨a1, cq1, a2, cq2, hS0, hS1, hB0, hB1, hB2, hH, hY, hv1, hv2, d11, d8, fun _ => rfl, hK, h0, h1, h2, h3, fun _ => rfl, h5, h6, h7, h8, h9, h10, h11⟩
  · intro l x w' hJ hi hd
    obtain ⟨a1, cq1, a2, cq2, hS0, hS1, hB0, hB1, hB2, hH, hY, hv1, hv2, d11, d8, d6, hK, h0, h1, h2, h3, h4, h5, h6, h7, h8, h9, h10, h11⟩ := hJ
    refine Runs.of (b := ?bA5) ?eA5 ?_
    case eA5 => simp only [putV, Act.put, List.setIfInBounds_toArray, List.set_cons_zero, List.set_cons_succ]; rfl
    intro K' hK'
    go_simp
    exact hK'.go _ rfl ⟨a1, cq1, a2, cq2, hS0, hS1, hB0, hB1, hB2, hH, hY, hv1, hv2, d11, d8, d6, hK, h0, h1, h2, h3, h4, fun _ => rfl, h6, h7, h8, h9, h10, h11⟩
  · intro l x w' hJ hi hd
    obtain ⟨a1, cq1, a2, cq2, hS0, hS1, hB0, hB1, hB2, hH, hY, hv1, hv2, d11, d8, d6, hK, h0, h1, h2, h3, h4, h5, h6, h7, h8, h9, h10, h11⟩ := hJ
    have e4 := h4 (show l 4 = true by first | exact hd.1 rfl | exact hd.2.1 rfl | exact hd.2.2.1 rfl | exact hd.2.2.2.1 rfl | exact hd.2.2.2.2.1 rfl | exact hd.2.2.2.2.2.1 rfl)
    have e5 := h5 (show l 5 = true by first | exact hd.1 rfl | exact hd.2.1 rfl | exact hd.2.2.1 rfl | exact hd.2.2.2.1 rfl | exact hd.2.2.2.2.1 rfl | exact hd.2.2.2.2.2.1 rfl)
    have HL4 : Hid (l 4 = true) := Lib.hid (by first | exact hd.1 rfl | exact hd.2.1 rfl | exact hd.2.2.1 rfl | exact hd.2.2.2.1 rfl | exact hd.2.2.2.2.1 rfl | exact hd.2.2.2.2.2.1 rfl | exact hd.2.2.2.2.2.2.1 rfl | exact hd.2.2.2.2.2.2.2.1 rfl | exact hd.2.2.2.2.2.2.2.2.1 rfl | exact hd.2.2.2.2.2.2.2.2.2.1 rfl | exact hd.2.2.2.2.2.2.2.2.2.2.1 rfl | exact hd.2.2.2.2.2.2.2.2.2.2.2.1 rfl | exact hd.2.2.2.2.2.2.2.2.2.2.2.2.1 rfl | exact hd.2.2.2.2.2.2.2.2.2.2.2.2.2.1 rfl | exact hd.2.2.2.2.2.2.2.2.2.2.2.2.2.2.1 rfl | exact hd.2.2.2.2.2.2.2.2.2.2.2.2.2.2.2.1 rfl | exact hd.2.2.2.2.2.2.2.2.2.2.2.2.2.2.2.2.1 rfl | exact hd.2.2.2.2.2.2.2.2.2.2.2.2.2.2.2.2.2.1 rfl | exact hd.2.2.2.2.2.2.2.2.2.2.2.2.2.2.2.2.2.2.1 rfl | exact hd.2.2.2.2.2.2.2.2.2.2.2.2.2.2.2.2.2.2.2.1 rfl | exact hd.2.2.2.2.2.2.2.2.2.2.2.2.2.2.2.2.2.2.2.2.1 rfl | exact hd.2.2.2.2.2.2.2.2.2.2.2.2.2.2.2.2.2.2.2.2.2.1 rfl | exact hd.2.2.2.2.2.2.2.2.2.2.2.2.2.2.2.2.2.2.2.2.2.2.1 rfl | exact hd.2.2.2.2.2.2.2.2.2.2.2.2.2.2.2.2.2.2.2.2.2.2.2.1 rfl)
    have f8 : l 8 = false := by cases hq : l 8 with | false => rfl | true => exact absurd (d8 hq) (by simp [hi])
    have f11 : l 11 = false := by cases hq : l 11 with | false => rfl | true => exact absurd (d11 hq) (by simp [f8])
    have hB := hB0 hi
    have hsT := (hS0 f11).ty
    have hbT := hB.ty'
    have hRd := blk_rd8 hH HLH.out
    refine Runs.of (b := ?bA6) ?eA6 ?_
    case eA6 => simp only [putV, Act.put, List.setIfInBounds_toArray, List.set_cons_zero, List.set_cons_succ, e4, e5]; rfl
    intro K' hK'
    refine step_append_src _ rfl (.tmp 88) (.tmp 89) 30 30 rfl B 5 i8 _ 1 1 Try.underlying30 hi8 hz80 hz81 hz82 rfl (by decide) (.slice va N vcap) N (bcs (encRs s.rs)) rfl (buf_n hB HNB.out) _ 8 (bcs HDR) rfl (src_n (hRd.src Try.underlying30) HLH.out) (by unfold maxLen; have := HNS.out; omega) (by have := HNS.out; omega) (Nat.le_trans HBW.out hK.size) ?_
    intro v2 w2 g2 g3 _ g4
    obtain ⟨v2a, v2c, rfl⟩ := ownsRow_slice g2
    have k2 : Keep (.slice va N vcap : Value).ownBlock.toList w' w2 := Keep.grown g3
    have hB9 := buf_app g2 HNB.out HLH.out
    have hspn : s.p ∉ (.slice va N vcap : Value).ownBlock.toList := fun hm => (hbT s.p (Option.mem_toList.1 hm)).ne hsT (by decide) rfl
    have hhbn : hb ∉ (.slice va N vcap : Value).ownBlock.toList := fun hm => (hbT hb (Option.mem_toList.1 hm)).ne hH.ty (by decide) rfl
    exact hK'.go (.slice v2a (N + 8) v2c) rfl ⟨v2a, v2c, a2, cq2, fun h => (hS0 h).keep k2 hspn, fun h => absurd (f11.symm.trans h) (by decide), fun h => Bool.noConfusion (show true = false from h), fun _ _ => hB9, fun h => absurd (f8.symm.trans h) (by decide), hH.keep k2 hhbn, hY.keep0 k2 (fun q hq _ => (HBV.out q hq).1), fun _ q hq => (g4 q hq).imp id (fun h => Nat.le_trans hK.size h), fun h => absurd (f8.symm.trans h) (by decide), d11, fun _ => rfl, fun _ => HL4.out, hK.trans (k2.mono (fun q hq _ => List.mem_cons_of_mem _ hq)), h0, h1, h2, h3, h4, h5, fun _ => rfl, h7, fun h => absurd (f8.symm.trans h) (by decide), h9, h10, h11⟩
  · intro l x w' hJ hi hd
    obtain ⟨a1, cq1, a2, cq2, hS0, hS1, hB0, hB1, hB2, hH, hY, hv1, hv2, d11, d8, d6, hK, h0, h1, h2, h3, h4, h5, h6, h7, h8, h9, h10, h11⟩ := hJ
    refine Runs.of (b := ?bA7) ?eA7 ?_
    case eA7 => simp only [putV, Act.put, List.setIfInBounds_toArray, List.set_cons_zero, List.set_cons_succ]; rfl
    intro K' hK'
    go_simp
    exact hK'.go _ rfl ⟨a1, cq1, a2, cq2, hS0, hS1, hB0, hB1, hB2, hH, hY, hv1, hv2, d11, d8, d6, hK, h0, h1, h2, h3, h4, h5, h6, fun _ => rfl, h8, h9, h10, h11⟩
  · intro l x w' hJ hi hd
    obtain ⟨a1, cq1, a2, cq2, hS0, hS1, hB0, hB1, hB2, hH, hY, hv1, hv2, d11, d8, d6, hK, h0, h1, h2, h3, h4, h5, h6, h7, h8, h9, h10, h11⟩ := hJ
    have e6 := h6 (show l 6 = true by first | exact hd.1 rfl | exact hd.2.1 rfl | exact hd.2.2.1 rfl | exact hd.2.2.2.1 rfl | exact hd.2.2.2.2.1 rfl | exact hd.2.2.2.2.2.1 rfl)
    have e7 := h7 (show l 7 = true by first | exact hd.1 rfl | exact hd.2.1 rfl | exact hd.2.2.1 rfl | exact hd.2.2.2.1 rfl | exact hd.2.2.2.2.1 rfl | exact hd.2.2.2.2.2.1 rfl)
    have HL6 : Hid (l 6 = true) := Lib.hid (by first | exact hd.1 rfl | exact hd.2.1 rfl | exact hd.2.2.1 rfl | exact hd.2.2.2.1 rfl | exact hd.2.2.2.2.1 rfl | exact hd.2.2.2.2.2.1 rfl | exact hd.2.2.2.2.2.2.1 rfl | exact hd.2.2.2.2.2.2.2.1 rfl | exact hd.2.2.2.2.2.2.2.2.1 rfl | exact hd.2.2.2.2.2.2.2.2.2.1 rfl | exact hd.2.2.2.2.2.2.2.2.2.2.1 rfl | exact hd.2.2.2.2.2.2.2.2.2.2.2.1 rfl | exact hd.2.2.2.2.2.2.2.2.2.2.2.2.1 rfl | exact hd.2.2.2.2.2.2.2.2.2.2.2.2.2.1 rfl | exact hd.2.2.2.2.2.2.2.2.2.2.2.2.2.2.1 rfl | exact hd.2.2.2.2.2.2.2.2.2.2.2.2.2.2.2.1 rfl | exact hd.2.2.2.2.2.2.2.2.2.2.2.2.2.2.2.2.1 rfl | exact hd.2.2.2.2.2.2.2.2.2.2.2.2.2.2.2.2.2.1 rfl | exact hd.2.2.2.2.2.2.2.2.2.2.2.2.2.2.2.2.2.2.1 rfl | exact hd.2.2.2.2.2.2.2.2.2.2.2.2.2.2.2.2.2.2.2.1 rfl | exact hd.2.2.2.2.2.2.2.2.2.2.2.2.2.2.2.2.2.2.2.2.1 rfl | exact hd.2.2.2.2.2.2.2.2.2.2.2.2.2.2.2.2.2.2.2.2.2.1 rfl | exact hd.2.2.2.2.2.2.2.2.2.2.2.2.2.2.2.2.2.2.2.2.2.2.1 rfl | exact hd.2.2.2.2.2.2.2.2.2.2.2.2.2.2.2.2.2.2.2.2.2.2.2.1 rfl)
    have f11 : l 11 = false := by cases hq : l 11 with | false => rfl | true => exact absurd (d11 hq) (by simp [hi])
    have hB := hB1 HL6.out hi
    have hsT := (hS0 f11).ty
    have hbT := hB.ty'
    have hsrc := hv1 HL6.out
    refine Runs.of (b := ?bA8) ?eA8 ?_
    case eA8 => simp only [putV, Act.put, List.setIfInBounds_toArray, List.set_cons_zero, List.set_cons_succ, e6, e7]; rfl
    intro K' hK'
    refine step_append_src _ rfl (.tmp 90) (.tmp 91) 30 30 rfl B 5 i8 _ 1 1 Try.underlying30 hi8 hz80 hz81 hz82 rfl (by decide) (.slice a1 (N + 8) cq1) (N + 8) (bcs ((encRs s.rs) ++ HDR)) rfl (buf_n hB HNB8.out) _ body.length (bcs body) rfl (src_n (hY.src Try.underlying30) rfl) (by unfold maxLen; have := HNS.out; omega) (by have := HNS.out; omega) (Nat.le_trans HBW.out hK.size) ?_
    intro v2 w2 g2 g3 _ g4
    obtain ⟨v2a, v2c, rfl⟩ := ownsRow_slice g2
    have k2 : Keep (.slice a1 (N + 8) cq1 : Value).ownBlock.toList w' w2 := Keep.grown g3
    have hB9 := buf_app g2 HNB8.out rfl
    have hspn : s.p ∉ (.slice a1 (N + 8) cq1 : Value).ownBlock.toList := fun hm => (hbT s.p (Option.mem_toList.1 hm)).ne hsT (by decide) rfl
    have hhbn : hb ∉ (.slice a1 (N + 8) cq1 : Value).ownBlock.toList := fun hm => (hbT hb (Option.mem_toList.1 hm)).ne hH.ty (by decide) rfl
    exact hK'.go (.slice v2a (N + 8 + body.length) v2c) rfl ⟨a1, cq1, v2a, v2c, fun h => (hS0 h).keep k2 hspn, fun h => absurd (f11.symm.trans h) (by decide), fun h => absurd (h.symm.trans HL6.out) (by decide), fun _ h => Bool.noConfusion (show true = false from h), fun _ => hB9, hH.keep k2 hhbn, hY.keep0 k2 (fun q hq _ hm => by rcases hsrc q (Option.mem_toList.1 hm) with h | h; exact (HBV.out q hq).1 (Option.mem_toList.2 h); have := (HBV.out q hq).2; omega), hv1, fun _ q hq => by rcases g4 q hq with h | h; exact hsrc q h; exact .inr (Nat.le_trans hK.size h), fun _ => rfl, fun _ => HL6.out, d6, hK.then2 k2 (fun q hq hlt => by rcases hsrc q (Option.mem_toList.1 hq) with h | h; exact List.mem_cons_of_mem _ (Option.mem_toList.2 h); exact absurd hlt (by omega)), h0, h1, h2, h3, h4, h5, h6, h7, fun _ => rfl, h9, h10, h11⟩
  · intro l x w' hJ hi hd
    obtain ⟨a1, cq1, a2, cq2, hS0, hS1, hB0, hB1, hB2, hH, hY, hv1, hv2, d11, d8, d6, hK, h0, h1, h2, h3, h4, h5, h6, h7, h8, h9, h10, h11⟩ := hJ
    have e0 := h0 (show l 0 = true by first | exact hd.1 rfl | exact hd.2.1 rfl | exact hd.2.2.1 rfl | exact hd.2.2.2.1 rfl | exact hd.2.2.2.2.1 rfl | exact hd.2.2.2.2.2.1 rfl)
    refine Runs.of (b := ?bA9) ?eA9 ?_
    case eA9 => simp only [putV, Act.put, List.setIfInBounds_toArray, List.set_cons_zero, List.set_cons_succ, e0]; rfl
    intro K' hK'
    go_simp
    exact hK'.go _ rfl ⟨a1, cq1, a2, cq2, hS0, hS1, hB0, hB1, hB2, hH, hY, hv1, hv2, d11, d8, d6, hK, h0, h1, h2, h3, h4, h5, h6, h7, h8, fun _ => rfl, h10, h11⟩
  · intro l x w' hJ hi hd
    obtain ⟨a1, cq1, a2, cq2, hS0, hS1, hB0, hB1, hB2, hH, hY, hv1, hv2, d11, d8, d6, hK, h0, h1, h2, h3, h4, h5, h6, h7, h8, h9, h10, h11⟩ := hJ
    have e9 := h9 (show l 9 = true by first | exact hd.1 rfl | exact hd.2.1 rfl | exact hd.2.2.1 rfl | exact hd.2.2.2.1 rfl | exact hd.2.2.2.2.1 rfl | exact hd.2.2.2.2.2.1 rfl)
    refine Runs.of (b := ?bA10) ?eA10 ?_
    case eA10 => simp only [putV, Act.put, List.setIfInBounds_toArray, List.set_cons_zero, List.set_cons_succ, e9]; rfl
    intro K' hK'
    go_simp
    exact hK'.go _ rfl ⟨a1, cq1, a2, cq2, hS0, hS1, hB0, hB1, hB2, hH, hY, hv1, hv2, d11, d8, d6, hK, h0, h1, h2, h3, h4, h5, h6, h7, h8, h9, fun _ => rfl, h11⟩
  · intro l x w' hJ hi hd
    obtain ⟨a1, cq1, a2, cq2, hS0, hS1, hB0, hB1, hB2, hH, hY, hv1, hv2, d11, d8, d6, hK, h0, h1, h2, h3, h4, h5, h6, h7, h8, h9, h10, h11⟩ := hJ
    have e8 := h8 (show l 8 = true by first | exact hd.1 rfl | exact hd.2.1 rfl | exact hd.2.2.1 rfl | exact hd.2.2.2.1 rfl | exact hd.2.2.2.2.1 rfl | exact hd.2.2.2.2.2.1 rfl)
    have e10 := h10 (show l 10 = true by first | exact hd.1 rfl | exact hd.2.1 rfl | exact hd.2.2.1 rfl | exact hd.2.2.2.1 rfl | exact hd.2.2.2.2.1 rfl | exact hd.2.2.2.2.2.1 rfl)
    have HL8 : Hid (l 8 = true) := Lib.hid (by first | exact hd.1 rfl | exact hd.2.1 rfl | exact hd.2.2.1 rfl | exact hd.2.2.2.1 rfl | exact hd.2.2.2.2.1 rfl | exact hd.2.2.2.2.2.1 rfl | exact hd.2.2.2.2.2.2.1 rfl | exact hd.2.2.2.2.2.2.2.1 rfl | exact hd.2.2.2.2.2.2.2.2.1 rfl | exact hd.2.2.2.2.2.2.2.2.2.1 rfl | exact hd.2.2.2.2.2.2.2.2.2.2.1 rfl | exact hd.2.2.2.2.2.2.2.2.2.2.2.1 rfl | exact hd.2.2.2.2.2.2.2.2.2.2.2.2.1 rfl | exact hd.2.2.2.2.2.2.2.2.2.2.2.2.2.1 rfl | exact hd.2.2.2.2.2.2.2.2.2.2.2.2.2.2.1 rfl | exact hd.2.2.2.2.2.2.2.2.2.2.2.2.2.2.2.1 rfl | exact hd.2.2.2.2.2.2.2.2.2.2.2.2.2.2.2.2.1 rfl | exact hd.2.2.2.2.2.2.2.2.2.2.2.2.2.2.2.2.2.1 rfl | exact hd.2.2.2.2.2.2.2.2.2.2.2.2.2.2.2.2.2.2.1 rfl | exact hd.2.2.2.2.2.2.2.2.2.2.2.2.2.2.2.2.2.2.2.1 rfl | exact hd.2.2.2.2.2.2.2.2.2.2.2.2.2.2.2.2.2.2.2.2.1 rfl | exact hd.2.2.2.2.2.2.2.2.2.2.2.2.2.2.2.2.2.2.2.2.2.1 rfl | exact hd.2.2.2.2.2.2.2.2.2.2.2.2.2.2.2.2.2.2.2.2.2.2.1 rfl | exact hd.2.2.2.2.2.2.2.2.2.2.2.2.2.2.2.2.2.2.2.2.2.2.2.1 rfl)
    have c0 := seg_3 (hS0 hi)
    have f0 := (hS0 hi).free 3
    refine Runs.of (b := ?bA11) ?eA11 ?_
    case eA11 => simp only [putV, Act.put, List.setIfInBounds_toArray, List.set_cons_zero, List.set_cons_succ, e8, e10]; rfl
    intro K' hK'
    go_simp
    have k2 : Keep [s.p] w' _ := ((Keep.refl [s.p] w').setCell (p := ⟨s.p, 3, none⟩) (.inl (by simp)) (.slice a2 (N + 8 + body.length) cq2))
    have hS2 := (hS0 hi).set 3 (.slice a2 (N + 8 + body.length) cq2)
    have hsT := (hS0 hi).ty
    exact hK'.go undef rfl ⟨a1, cq1, a2, cq2, fun h => Bool.noConfusion (show true = false from h), fun _ => hS2, fun h => absurd (h.symm.trans (d8 HL8.out)) (by decide), fun _ h => absurd (h.symm.trans HL8.out) (by decide), fun h => (hB2 h).keep k2 (fun q hq hm => by simp only [List.mem_singleton] at hm; subst hm; exact ((hB2 h).ty' _ hq).ne hsT (by decide) rfl), hH.keep k2 (by simp; exact HSPH.out), hY.keep0 k2 (fun q hq _ hm => by simp only [List.mem_singleton] at hm; subst hm; exact HBVS.out _ hq rfl), hv1, hv2, fun _ => HL8.out, d8, d6, hK.trans (k2.mono (by simp)), h0, h1, h2, h3, h4, h5, h6, h7, h8, h9, h10, fun _ => trivial⟩
  · intro l x w3 hJ hl
    obtain ⟨a1, cq1, a2, cq2, hS0, hS1, hB0, hB1, hB2, hH, hY, hv1, hv2, d11, d8, d6, hK, h0, h1, h2, h3, h4, h5, h6, h7, h8, h9, h10, h11⟩ := hJ
    have hS6 := hS1 (hl 11 (by decide))
    have hB6 := hB2 (hl 8 (by decide))
    have hv6 := hv2 (hl 8 (by decide))
    simp only [putV, Act.put, List.setIfInBounds_toArray, List.set_cons_zero, List.set_cons_succ]
    simp only [Nat.zero_add, Nat.reduceAdd]
    have HS6 := Lib.hid hS6
    have HV6 := Lib.hid hv6
    have HK6 := Lib.hid hK
    obtain ⟨B2, hB2e⟩ : ∃ X, X = encRs s.rs ++ HDR ++ body := ⟨_, rfl⟩
    rw [← hB2e] at hB6
    have HB2E := Lib.hid hB2e
    have HBF6 := Lib.hid hB6
    have HN2 : Hid (B2.length = N + 8 + body.length) := Lib.hid (by rw [hB2e, List.length_append, HNB8.out])
    have HRS : Hid (B2 = encRs (s.rs ++ [((nx, body) : Rcd)])) := Lib.hid (by rw [hB2e, encRs_snoc, HHDR.out]; simp [encR])
    have HRB : Hid (Rcd.ok (nx, body)) := Lib.hid ⟨hb1, hb2, by have := HNX.out; omega, HBB.out⟩
    have HB2B : Hid (∀ c ∈ B2, c < 256) := Lib.hid (by
      rw [HRS.out]
      refine encRs_byte _ (fun r hr => ?_)
      rcases List.mem_append.1 hr with hr | hr
      · exact HSOK.out r hr
      · simp only [List.mem_cons, List.not_mem_nil, or_false] at hr
        subst hr; exact HRB.out)
    have hD6 : IsDev w3 d sb L1 c1 := by
      have hd5 := HD2.out.keep HK25.out (by simp) (by simp)
      refine hd5.keep hK (fun hm => ?_) (fun hm => ?_)
      · rcases List.mem_cons.1 hm with h | h
        · exact hd5.dev.ty.ne hS14.ty (by decide) h
        · exact hd5.dev.ty.ne (hB14.ty' _ (Option.mem_toList.1 h)) (by decide) rfl
      · rcases List.mem_cons.1 hm with h | h
        · exact hd5.secs.ty.ne hS14.ty (by decide) h
        · exact hd5.secs.ty.ne (hB14.ty' _ (Option.mem_toList.1 h)) (by decide) rfl
    have hLB6 : Blk w3 lb (lgC d (frm : Int) (segs : Int) (.slice (some ⟨la, 0, none⟩) (A.length + 1) cap1) (nx : Int) (run : Int) fr) 75 := HA5.out.blk.keep hK (fun hm => by
      rcases List.mem_cons.1 hm with h | h
      · exact HA5.out.blk.ty.ne hS14.ty (by decide) h
      · exact HA5.out.blk.ty.ne (hB14.ty' _ (Option.mem_toList.1 h)) (by decide) rfl)
    have HLB6 := Lib.hid hLB6
    have HLL : Hid (L1.length = L.length ∧ c1 ≤ c + 2) := Lib.hid (by
      rcases HR.out.how with ⟨_, _, rfl, rfl⟩ | ⟨_, rfl, _, rfl⟩
      · exact ⟨rfl, by omega⟩
      · refine ⟨by simp, by omega⟩)
    clear h0 h1 h2 h3 h4 h5 h6 h7 h8 h9 h10 h11 hS0 hS1 hB0 hB1 hB2 hH hY hv1 hv2 d11 d8 d6 hl hK hS6 hB6 hv6 hB2e hLB6 hS14 hB14 hH14 hY14 c3
    generalize w3 = w6 at *
    have HD6 := Lib.hid hD6
    clear hD6
    go_wp2_with fail
    go_loopw [95] (fun s95 wr => ∃ (k cc : Nat), s95 = .int .i64 (k : Int) ∧ k ≤ 8 ∧ cc ≤ c1 + k ∧ IsDev wr d sb (wrSec (frm + (s.gen - 1) % segs * 8) s.gen s.base run B2 N L1 k) cc ∧ Keep [d, sb] w6 wr) (fun x _ => 9 - (intOf x).toNat)
    case atStart => exact ⟨0, c1, rfl, by omega, by omega, HD6.out, Keep.refl _ _⟩
    case round =>
    obtain ⟨k, cc, rfl, hk8, hcc, hDr, hKr⟩ := hrel
    have hdT : ∀ {b : Nat} {T : TypeId}, Ty w6 b T → T ≠ 47 → T ≠ 70 → b ∉ [d, sb] := by
      intro b T ht h1 h2 hm
      simp only [List.mem_cons, List.not_mem_nil, or_false] at hm
      rcases hm with rfl | rfl
      · exact ht.ne HD6.out.dev.ty h1 rfl
      · exact ht.ne HD6.out.secs.ty h2 rfl
    have hSr := HS6.out.keep hKr (hdT HS6.out.ty (by decide) (by decide))
    have hBr := HBF6.out.keep hKr (fun q hq => hdT (HBF6.out.ty' q hq) (by decide) (by decide))
    have hLr := HLB6.out.keep hKr (hdT HLB6.out.ty (by decide) (by decide))
    have c3 := seg_3 hSr
    have HSr := Lib.hid hSr
    have HBr := Lib.hid hBr
    have HLr := Lib.hid hLr
    have HDr := Lib.hid hDr
    have HKr := Lib.hid hKr
    have HVT : Hid (∀ q, (Value.slice a2 (N + 8 + body.length) cq2).ownBlock = some q → q ∉ [d, sb]) := Lib.hid (fun q hq => hdT (HBF6.out.ty' q hq) (by decide) (by decide))
    clear hSr hBr hLr hDr hKr hdT
    by_cases hk : k < 8
    · have q5 : decide ((k : Int) < 8) = true := decide_eq_true (by omega)
      have HK8 := Lib.hid hk
      have hst1 : st0 (k + 1) ≤ 400 := by unfold st0; omega
      have hst0 : st0 k ≤ 400 := by unfold st0; omega
      have HW : Hid (IntKind.i64.wrap ((k : Int) + 1) = (k : Int) + 1) := Lib.hid (by rw [IntKind.wrap_i64]; omega)
      have HST1 : Hid (∀ W : World, Calls Try.prog 36 #[.int .i64 ((k : Int) + 1)] W fun e w' => e = .returned (.int .i64 (st0 (k + 1) : Int)) ∧ w' = W) := Lib.hid (fun W => (show Calls Try.prog 36 #[.int .i64 ((k + 1 : Nat) : Int)] W _ from (start_any (k + 1) (by omega) _ rfl).mono (fun e w' ⟨a, b⟩ => ⟨a, b.symm⟩)))
      have HST0 : Hid (∀ W : World, Calls Try.prog 36 #[.int .i64 (k : Int)] W fun e w' => e = .returned (.int .i64 (st0 k : Int)) ∧ w' = W) := Lib.hid (fun W => (start_any k (by omega) _ rfl).mono (fun e w' ⟨a, b⟩ => ⟨a, b.symm⟩))
      by_cases hw : N < st0 (k + 1) ∧ st0 k < B2.length
      · have q6 : decide ((st0 (k + 1) : Int) > (N : Int)) = true := decide_eq_true (by omega)
        have q7 : decide ((st0 k : Int) < ((N + 8 + body.length : Nat) : Int)) = true := decide_eq_true (by have := HN2.out; omega)
        have q6' : decide (N < st0 (k + 1)) = true := decide_eq_true (by omega)
        have q7' : decide (st0 k < N + 8 + body.length) = true := decide_eq_true (by have := HN2.out; omega)
        have q8 : decide ((st0 k : Int) < (N : Int) + 8 + (body.length : Int)) = true := decide_eq_true (by have := HN2.out; omega)
        have hP2 : (st0 k : Int) < (N : Int) + 8 + (body.length : Int) := by have := HN2.out; omega
        have HWN := Lib.hid hw
        clear hw
        go_upto_region 19 with fail
        go_quiet ((go_at_call 36; first | exact Calls.quiet_of_same (HST1.out _) | exact Calls.quiet_of_same (HST0.out _)))
        have KQ := drewnK (Keep.refl [] wr) nq
        have HKQ := Lib.hid KQ
        generalize wr.drewN nq = wq at *
        clear KQ c3
        go_wp2_with fail
        refine (lwrite_any (HDr.out.keep HKQ.out (by simp) (by simp)) (by have := HC.out; have := HLL.out; omega) frm segs _ (nx : Int) run fr (HLr.out.keep HKQ.out (by simp)) s.gen s.base s.run _ s.vr B2 (HSr.out.keep HKQ.out (by simp)) (HBr.out.keep HKQ.out (by simp)).rd HB2B.out (by have := HN2.out; have := HNS.out; omega) k HK8.out ⟨HSG1.out.2.1, HSG1.out.2.2, HRUN.out⟩ HSG1.out.1 HSG.out HFR.out (frm + (s.gen - 1) % segs * 8 + k) rfl (by
          rw [wrSec_len]
          have h1 := HLT.out
          have h2 : (s.gen - 1) % segs < segs := Nat.mod_lt _ HSG.out.1
          have h3 := HLL.out.1
          have h4 := HK8.out
          omega) (fun q hq _ => HVT.out q hq)).mono ?_
        rintro e w7 ⟨rfl, hD7, k7⟩
        have HD7 := Lib.hid hD7
        have HK7 := Lib.hid k7
        clear hD7 k7
        go_wp2_with fail
        go_roundw
        case rel =>
          refine ⟨k + 1, cc + 1, by go_num, by omega, by omega, ?_, HKr.out.trans ((HKQ.out.mono (by simp)).trans HK7.out)⟩
          show IsDev w7 d sb (if _ then _ else _) _
          rw [if_pos HWN.out]
          exact HD7.out
        case measure => simp only [intOf]; omega
      · have hwr : wrSec (frm + (s.gen - 1) % segs * 8) s.gen s.base run B2 N L1 (k + 1) = wrSec (frm + (s.gen - 1) % segs * 8) s.gen s.base run B2 N L1 k := by
          show (if _ then _ else _) = _
          rw [if_neg hw]
        have HWR := Lib.hid hwr
        have hn2 := HN2.out
        by_cases hw1 : N < st0 (k + 1)
        · have q6 : decide ((st0 (k + 1) : Int) > (N : Int)) = true := decide_eq_true (by omega)
          have q7 : decide ((st0 k : Int) < ((N + 8 + body.length : Nat) : Int)) = false := decide_eq_false (by omega)
          have q6' : decide (N < st0 (k + 1)) = true := decide_eq_true (by omega)
          have q7' : decide (st0 k < N + 8 + body.length) = false := decide_eq_false (by omega)
          have q8 : decide ((st0 k : Int) < (N : Int) + 8 + (body.length : Int)) = false := decide_eq_false (by omega)
          have hP2 : ¬ (st0 k : Int) < (N : Int) + 8 + (body.length : Int) := by omega
          clear hw hw1 hn2 hwr
          go_upto_region 19 with fail
          go_quiet ((go_at_call 36; first | exact Calls.quiet_of_same (HST1.out _) | exact Calls.quiet_of_same (HST0.out _)))
          have KQ := drewnK (Keep.refl [] wr) nq
          have HKQ := Lib.hid KQ
          generalize wr.drewN nq = wq at *
          clear KQ c3
          go_wp2_with fail
          go_roundw
          case rel =>
            refine ⟨k + 1, cc, by go_num, by omega, by omega, ?_, HKr.out.trans (HKQ.out.mono (by simp))⟩
            rw [HWR.out]
            exact HDr.out.keep HKQ.out (by simp) (by simp)
          case measure => simp only [intOf]; omega
        · have q6 : decide ((st0 (k + 1) : Int) > (N : Int)) = false := decide_eq_false (by omega)
          have q6' : decide (N < st0 (k + 1)) = false := decide_eq_false (by omega)
          clear hw hw1 hn2 hwr
          go_upto_region 19 with fail
          go_quiet ((go_at_call 36; first | exact Calls.quiet_of_same (HST1.out _) | exact Calls.quiet_of_same (HST0.out _)))
          have KQ := drewnK (Keep.refl [] wr) nq
          have HKQ := Lib.hid KQ
          generalize wr.drewN nq = wq at *
          clear KQ c3
          go_wp2_with fail
          go_roundw
          case rel =>
            refine ⟨k + 1, cc, by go_num, by omega, by omega, ?_, HKr.out.trans (HKQ.out.mono (by simp))⟩
            rw [HWR.out]
            exact HDr.out.keep HKQ.out (by simp) (by simp)
          case measure => simp only [intOf]; omega
    · obtain rfl : k = 8 := by omega
      have q5 : decide (((8 : Nat) : Int) < 8) = false := by simp
      have q5' : decide ((8 : Int) < 8) = false := by simp
      have HBL2 : Hid (body.length ≤ 300) := Lib.hid hb2
      have HLB2 : Hid (body.length = body.length ∧ True) := Lib.hid ⟨rfl, trivial⟩
      have HN0 : Hid (s.recs.length = s.recs.length ∧ True) := Lib.hid ⟨rfl, trivial⟩
      have HN0l : Hid (s.recs.length ≤ 100) := Lib.hid HSN.out
      have HBW5 := HBW
      have HBW : Hid (B ≤ wr.heap.size) := Lib.hid (by have h1 := HBW5.out; have h2 := HK6.out.size; have h3 := HKr.out.size; omega)
      have HLBS : Hid (lb ≠ s.p) := Lib.hid (HLr.out.ty.ne HSr.out.ty (by decide))
      have hdT : ∀ {b : Nat} {T : TypeId}, Ty w6 b T → T ≠ 47 → T ≠ 70 → b ∉ [d, sb] := by
        intro b T ht h1 h2 hm
        simp only [List.mem_cons, List.not_mem_nil, or_false] at hm
        rcases hm with rfl | rfl
        · exact ht.ne HD6.out.dev.ty h1 rfl
        · exact ht.ne HD6.out.secs.ty h2 rfl
      have hs5 := HA5.out.row.ok s (by simp)
      have hnd5 := hs5.nd
      unfold Sg.F at hnd5
      rw [HVB.out, List.nodup_cons, List.nodup_append] at hnd5
      have hR6 : RRow w6 B s.vr s.recs := hs5.recs.keep HK6.out (fun q hq hm => by
        rcases List.mem_cons.1 hm with h | h
        · subst h; exact hnd5.1 (List.mem_append_right _ hq)
        · exact hnd5.2.2.2 q h q hq rfl)
      have hR24 : RRow wr B s.vr s.recs := hR6.keep HKr.out (fun q hq => by
        rcases hR6.ty q hq with h | h
        · exact hdT h (by decide) (by decide)
        · exact hdT h (by decide) (by decide))
      have hY24 : Rd wr (.slice ba body.length bcap) body := by
        have h1 := HB.out.keep0 HK2.out (fun q hq _ hm => HBS.out q hq (by
          simp only [List.mem_cons] at hm ⊢
          rcases hm with rfl | rfl | rfl | hm
          · exact .inl rfl
          · exact .inr (.inl rfl)
          · exact .inr (.inr (by simp [lgF]))
          · exact .inr (.inr (List.mem_cons_of_mem _ (List.mem_append_left _ hm)))))
        have h2 := h1.keep0 HK25.out (by simp)
        have h3 := h2.keep0 HK6.out (fun q hq _ hm => by
          rcases List.mem_cons.1 hm with h | h
          · exact HBVS.out q hq h
          · exact (HBV.out q hq).1 h)
        exact h3.keep0 HKr.out (fun q hq _ hm => HBS.out q hq (by
          simp only [List.mem_cons, List.not_mem_nil, or_false] at hm ⊢
          rcases hm with rfl | rfl
          · exact .inl rfl
          · exact .inr (.inl rfl)))
      clear hR6 hs5 hnd5 hdT
      have k4 := lg_4 HLr.out
      have c4 := seg_4 HSr.out
      obtain ⟨ra, rcap, hvr⟩ := hR24.slice
      rw [hvr] at c4
      have HLBR : Hid (lb ∉ (Value.slice ra s.recs.length rcap).ownBlock.toList) := Lib.hid (by
        rw [← hvr]
        exact hR24.rty HLr.out.ty (by decide))
      have HBV4 : Hid (∀ q, (Value.slice ba body.length bcap).ownBlock = some q → q ∉ (Value.slice ra s.recs.length rcap).ownBlock.toList ∧ q < wr.heap.size) := Lib.hid (fun q hq => ⟨fun hm => by
        have hmF : q ∈ lgF lb (.slice (some ⟨la, 0, none⟩) (A.length + 1) cap1) (A ++ [s]) := by
          simp only [lgF, List.mem_cons, List.mem_append]
          refine .inr (.inr (List.mem_flatMap.2 ⟨s, by simp, ?_⟩))
          unfold Sg.F rcF
          rw [hvr]
          exact List.mem_cons_of_mem _ (List.mem_append_right _ (List.mem_append_left _ hm))
        rcases HR.out.foot q hmF with h1 | h1
        · exact HBS.out q hq (List.mem_cons_of_mem _ (List.mem_cons_of_mem _ h1))
        · have := HB.out.lo q hq (by omega); omega, by have h1 := (HBV.out q hq).2; have h2 := HK6.out.size; have h3 := HKr.out.size; omega⟩)
      have hS24 := HSr.out
      rw [hvr] at hS24 hR24
      have HVR := Lib.hid hvr
      clear c3 hvr
      go_upto_region 24 with fail
      refine wp_region_inv (appJ24 wr B s.p lb s.gen s.base body.length s.recs.length nx rcap bcap s.run ra ba (.slice a2 (N + 8 + body.length) cq2) s.recs body) (by kernel_rfl) (by kernel_rfl) (by kernel_rfl) ?_ (Steps.cons 0 ?_ (Steps.cons 1 ?_ (Steps.cons 2 ?_ (Steps.cons 3 ?_ (Steps.cons 4 ?_ (Steps.cons 5 ?_ (Steps.cons 6 ?_ (Steps.cons 7 ?_ (Steps.cons 8 ?_ (Steps.cons 9 ?_ (Steps.cons 10 ?_ (Steps.cons 11 ?_ (Steps.cons 12 ?_ (Steps.cons 13 ?_ (Steps.cons 14 ?_ (Steps.cons 15 ?_ (Steps.cons 16 ?_ (Steps.nil 17)))))))))))))))))) 17 rfl ?_
      · intro x
        exact ⟨none, 0, none, 0, 0, fun _ => hS24.drew, fun h => absurd h (by decide), k4, hY24.keep0 (Keep.refl [] _).drew (by simp), fun _ => hR24.still (Keep.refl [] _).drew, fun h => absurd h (by decide), fun h => absurd h (by decide), fun h => absurd h (by decide), fun h => absurd h (by decide), fun h => absurd h (by decide), (Keep.refl _ _).drew, fun h => absurd h (by decide), fun h => absurd h (by decide), fun h => absurd h (by decide), fun h => absurd h (by decide), fun h => absurd h (by decide), fun h => absurd h (by decide), fun h => absurd h (by decide), fun h => absurd h (by decide), fun h => absurd h (by decide), fun h => absurd h (by decide), fun h => absurd h (by decide), fun h => absurd h (by decide), fun h => absurd h (by decide), fun h => absurd h (by decide), fun h => absurd h (by decide), fun h => absurd h (by decide), fun h => absurd h (by decide)⟩
      · intro l x w' hJ hi hd
        obtain ⟨ca, ccap, na, ncap, B12, hS0, hS1, k4, hY, hR0, hR1, hv, hcl, d16, d13, hK, h0, h1, h2, h3, h4, h5, h6, h7, h8, h9, h10, h11, h12, h13, h14, h15, h16⟩ := hJ
        refine Runs.of (b := ?bB0) ?eB0 ?_
        case eB0 => simp only [putV, Act.put, List.setIfInBounds_toArray, List.set_cons_zero, List.set_cons_succ]; rfl
        intro K' hK'
        go_simp
        exact hK'.go _ rfl ⟨ca, ccap, na, ncap, B12, hS0, hS1, k4, hY, hR0, hR1, hv, hcl, d16, d13, hK, fun _ => rfl, h1, h2, h3, h4, h5, h6, h7, h8, h9, h10, h11, h12, h13, h14, h15, h16⟩
      · intro l x w' hJ hi hd
        obtain ⟨ca, ccap, na, ncap, B12, hS0, hS1, k4, hY, hR0, hR1, hv, hcl, d16, d13, hK, h0, h1, h2, h3, h4, h5, h6, h7, h8, h9, h10, h11, h12, h13, h14, h15, h16⟩ := hJ
        refine Runs.of (b := ?bB1) ?eB1 ?_
        case eB1 => simp only [putV, Act.put, List.setIfInBounds_toArray, List.set_cons_zero, List.set_cons_succ]; rfl
        intro K' hK'
        go_simp
        exact hK'.go _ rfl ⟨ca, ccap, na, ncap, B12, hS0, hS1, k4, hY, hR0, hR1, hv, hcl, d16, d13, hK, h0, fun _ => rfl, h2, h3, h4, h5, h6, h7, h8, h9, h10, h11, h12, h13, h14, h15, h16⟩
      · intro l x w' hJ hi hd
        obtain ⟨ca, ccap, na, ncap, B12, hS0, hS1, k4, hY, hR0, hR1, hv, hcl, d16, d13, hK, h0, h1, h2, h3, h4, h5, h6, h7, h8, h9, h10, h11, h12, h13, h14, h15, h16⟩ := hJ
        have e1 := h1 (show l 1 = true by first | exact hd.1 rfl | exact hd.2.1 rfl | exact hd.2.2.1 rfl | exact hd.2.2.2.1 rfl | exact hd.2.2.2.2.1 rfl | exact hd.2.2.2.2.2.1 rfl)
        refine Runs.of (b := ?bB2) ?eB2 ?_
        case eB2 => simp only [putV, Act.put, List.setIfInBounds_toArray, List.set_cons_zero, List.set_cons_succ, e1]; rfl
        intro K' hK'
        go_simp
        exact hK'.go _ rfl ⟨ca, ccap, na, ncap, B12, hS0, hS1, k4, hY, hR0, hR1, hv, hcl, d16, d13, hK, h0, h1, fun _ => rfl, h3, h4, h5, h6, h7, h8, h9, h10, h11, h12, h13, h14, h15, h16⟩
      · intro l x w' hJ hi hd
        obtain ⟨ca, ccap, na, ncap, B12, hS0, hS1, k4, hY, hR0, hR1, hv, hcl, d16, d13, hK, h0, h1, h2, h3, h4, h5, h6, h7, h8, h9, h10, h11, h12, h13, h14, h15, h16⟩ := hJ
        have e2 := h2 (show l 2 = true by first | exact hd.1 rfl | exact hd.2.1 rfl | exact hd.2.2.1 rfl | exact hd.2.2.2.1 rfl | exact hd.2.2.2.2.1 rfl | exact hd.2.2.2.2.2.1 rfl)
        refine Runs.of (b := ?bB3) ?eB3 ?_
        case eB3 => simp only [putV, Act.put, List.setIfInBounds_toArray, List.set_cons_zero, List.set_cons_succ, e2]; rfl
        intro K' hK'
        go_simp
        exact hK'.go _ rfl ⟨ca, ccap, na, ncap, B12, hS0, hS1, k4, hY, hR0, hR1, hv, hcl, d16, d13, hK, h0, h1, h2, fun _ => rfl, h4, h5, h6, h7, h8, h9, h10, h11, h12, h13, h14, h15, h16⟩
      · intro l x w' hJ hi hd
        obtain ⟨ca, ccap, na, ncap, B12, hS0, hS1, k4, hY, hR0, hR1, hv, hcl, d16, d13, hK, h0, h1, h2, h3, h4, h5, h6, h7, h8, h9, h10, h11, h12, h13, h14, h15, h16⟩ := hJ
        have e3 := h3 (show l 3 = true by first | exact hd.1 rfl | exact hd.2.1 rfl | exact hd.2.2.1 rfl | exact hd.2.2.2.1 rfl | exact hd.2.2.2.2.1 rfl | exact hd.2.2.2.2.2.1 rfl)
        have f13 : l 13 = false := by cases hq : l 13 with | false => rfl | true => exact absurd (d13 hq).1 (by simp [hi])
        have f16 : l 16 = false := by cases hq : l 16 with | false => rfl | true => exact absurd (d16 hq) (by simp [f13])
        have c0 := seg_4 (hS0 f16)
        refine Runs.of (b := ?bB4) ?eB4 ?_
        case eB4 => simp only [putV, Act.put, List.setIfInBounds_toArray, List.set_cons_zero, List.set_cons_succ, e3]; rfl
        intro K' hK'
        go_simp
        exact hK'.go _ rfl ⟨ca, ccap, na, ncap, B12, hS0, hS1, k4, hY, hR0, hR1, hv, hcl, d16, fun h => ⟨rfl, (d13 h).2⟩, hK, h0, h1, h2, h3, fun _ => rfl, h5, h6, h7, h8, h9, h10, h11, h12, h13, h14, h15, h16⟩
      · intro l x w' hJ hi hd
        obtain ⟨ca, ccap, na, ncap, B12, hS0, hS1, k4, hY, hR0, hR1, hv, hcl, d16, d13, hK, h0, h1, h2, h3, h4, h5, h6, h7, h8, h9, h10, h11, h12, h13, h14, h15, h16⟩ := hJ
        refine Runs.of (b := ?bB5) ?eB5 ?_
        case eB5 => simp only [putV, Act.put, List.setIfInBounds_toArray, List.set_cons_zero, List.set_cons_succ]; rfl
        intro K' hK'
        go_simp
        exact hK'.go _ rfl ⟨ca, ccap, na, ncap, B12, hS0, hS1, k4, hY, hR0, hR1, hv, hcl, d16, d13, hK, h0, h1, h2, h3, h4, fun _ => rfl, h6, h7, h8, h9, h10, h11, h12, h13, h14, h15, h16⟩
      · intro l x w' hJ hi hd
        obtain ⟨ca, ccap, na, ncap, B12, hS0, hS1, k4, hY, hR0, hR1, hv, hcl, d16, d13, hK, h0, h1, h2, h3, h4, h5, h6, h7, h8, h9, h10, h11, h12, h13, h14, h15, h16⟩ := hJ
        have e5 := h5 (show l 5 = true by first | exact hd.1 rfl | exact hd.2.1 rfl | exact hd.2.2.1 rfl | exact hd.2.2.2.1 rfl | exact hd.2.2.2.2.1 rfl | exact hd.2.2.2.2.2.1 rfl)
        refine Runs.of (b := ?bB6) ?eB6 ?_
        case eB6 => simp only [putV, Act.put, List.setIfInBounds_toArray, List.set_cons_zero, List.set_cons_succ, e5]; rfl
        intro K' hK'
        go_simp
        exact hK'.go _ rfl ⟨ca, ccap, na, ncap, B12, hS0, hS1, k4, hY, hR0, hR1, hv, hcl, d16, d13, hK, h0, h1, h2, h3, h4, h5, fun _ => rfl, h7, h8, h9, h10, h11, h12, h13, h14, h15, h16⟩
      · intro l x w' hJ hi hd
        obtain ⟨ca, ccap, na, ncap, B12, hS0, hS1, k4, hY, hR0, hR1, hv, hcl, d16, d13, hK, h0, h1, h2, h3, h4, h5, h6, h7, h8, h9, h10, h11, h12, h13, h14, h15, h16⟩ := hJ
        have e6 := h6 (show l 6 = true by first | exact hd.1 rfl | exact hd.2.1 rfl | exact hd.2.2.1 rfl | exact hd.2.2.2.1 rfl | exact hd.2.2.2.2.1 rfl | exact hd.2.2.2.2.2.1 rfl)
        refine Runs.of (b := ?bB7) ?eB7 ?_
        case eB7 => simp only [putV, Act.put, List.setIfInBounds_toArray, List.set_cons_zero, List.set_cons_succ, e6]; rfl
        intro K' hK'
        go_simp
        exact hK'.go _ rfl ⟨ca, ccap, na, ncap, B12, hS0, hS1, k4, hY, hR0, hR1, hv, hcl, d16, d13, hK, h0, h1, h2, h3, h4, h5, h6, fun _ => rfl, h8, h9, h10, h11, h12, h13, h14, h15, h16⟩
      · intro l x w' hJ hi hd
        obtain ⟨ca, ccap, na, ncap, B12, hS0, hS1, k4, hY, hR0, hR1, hv, hcl, d16, d13, hK, h0, h1, h2, h3, h4, h5, h6, h7, h8, h9, h10, h11, h12, h13, h14, h15, h16⟩ := hJ
        have e7 := h7 (show l 7 = true by first | exact hd.1 rfl | exact hd.2.1 rfl | exact hd.2.2.1 rfl | exact hd.2.2.2.1 rfl | exact hd.2.2.2.2.1 rfl | exact hd.2.2.2.2.2.1 rfl)
        have c0 := k4
        refine Runs.of (b := ?bB8) ?eB8 ?_
        case eB8 => simp only [putV, Act.put, List.setIfInBounds_toArray, List.set_cons_zero, List.set_cons_succ, e7]; rfl
        intro K' hK'
        go_simp
        exact hK'.go _ rfl ⟨ca, ccap, na, ncap, B12, hS0, hS1, k4, hY, hR0, hR1, hv, hcl, d16, d13, hK, h0, h1, h2, h3, h4, h5, h6, h7, fun _ => rfl, h9, h10, h11, h12, h13, h14, h15, h16⟩
      · intro l x w' hJ hi hd
        obtain ⟨ca, ccap, na, ncap, B12, hS0, hS1, k4, hY, hR0, hR1, hv, hcl, d16, d13, hK, h0, h1, h2, h3, h4, h5, h6, h7, h8, h9, h10, h11, h12, h13, h14, h15, h16⟩ := hJ
        refine Runs.of (b := ?bB9) ?eB9 ?_
        case eB9 => simp only [putV, Act.put, List.setIfInBounds_toArray, List.set_cons_zero, List.set_cons_succ]; rfl
        intro K' hK'
        go_simp
        exact hK'.go _ rfl ⟨ca, ccap, na, ncap, B12, hS0, hS1, k4, hY, hR0, hR1, hv, hcl, d16, d13, hK, h0, h1, h2, h3, h4, h5, h6, h7, h8, fun _ => rfl, h10, h11, h12, h13, h14, h15, h16⟩
      · intro l x w' hJ hi hd
        obtain ⟨ca, ccap, na, ncap, B12, hS0, hS1, k4, hY, hR0, hR1, hv, hcl, d16, d13, hK, h0, h1, h2, h3, h4, h5, h6, h7, h8, h9, h10, h11, h12, h13, h14, h15, h16⟩ := hJ
        have e9 := h9 (show l 9 = true by first | exact hd.1 rfl | exact hd.2.1 rfl | exact hd.2.2.1 rfl | exact hd.2.2.2.1 rfl | exact hd.2.2.2.2.1 rfl | exact hd.2.2.2.2.2.1 rfl)
        have f13 : l 13 = false := by cases hq : l 13 with | false => rfl | true => exact absurd (d13 hq).2 (by simp [hi])
        have f16 : l 16 = false := by cases hq : l 16 with | false => rfl | true => exact absurd (d16 hq) (by simp [f13])
        refine Runs.of (b := ?bB10) ?eB10 ?_
        case eB10 => simp only [putV, Act.put, List.setIfInBounds_toArray, List.set_cons_zero, List.set_cons_succ, e9]; rfl
        intro K' hK'
        go_simp
        refine (Clone_any _ body hY (by have := HBL2.out; omega)).mono ?_
        rintro e w2 ⟨v2, rfl, hB2, k2⟩
        obtain ⟨p2, p3, hp2⟩ := hB2.slice
        subst hp2
        have HB2 := Lib.hid (hB2.mono hK.size)
        have HB2l := Lib.hid (fun q hq => (HB2.out.lt q hq).1)
        clear hB2
        go_simp
        exact hK'.go (.slice p2 body.length p3) rfl ⟨p2, p3, na, ncap, B12, fun h => (hS0 h).keep k2 (by simp), fun h => absurd (f16.symm.trans h) (by decide), k2.cell1 k4 (by simp), hY.keep0 k2 (by simp), fun h => (hR0 h).still k2, fun h => absurd (f13.symm.trans h) (by decide), hv, fun _ => HB2l.out, d16, fun h => ⟨(d13 h).1, rfl⟩, hK.trans (k2.mono (by simp)), h0, h1, h2, h3, h4, h5, h6, h7, h8, h9, fun _ => ⟨rfl, fun _ => HB2.out⟩, fun h => absurd (h11 h).2.out (by simp [hi]), fun h => absurd (h12 h).2.2.out (by simp [hi]), h13, h14, h15, h16⟩
      · intro l x w' hJ hi hd
        obtain ⟨ca, ccap, na, ncap, B12, hS0, hS1, k4, hY, hR0, hR1, hv, hcl, d16, d13, hK, h0, h1, h2, h3, h4, h5, h6, h7, h8, h9, h10, h11, h12, h13, h14, h15, h16⟩ := hJ
        have e8 := h8 (show l 8 = true by first | exact hd.1 rfl | exact hd.2.1 rfl | exact hd.2.2.1 rfl | exact hd.2.2.2.1 rfl | exact hd.2.2.2.2.1 rfl | exact hd.2.2.2.2.2.1 rfl)
        have e10 := h10 (show l 10 = true by first | exact hd.1 rfl | exact hd.2.1 rfl | exact hd.2.2.1 rfl | exact hd.2.2.2.1 rfl | exact hd.2.2.2.2.1 rfl | exact hd.2.2.2.2.2.1 rfl)
        have HL10 : Hid (l 10 = true) := Lib.hid (by first | exact hd.1 rfl | exact hd.2.1 rfl | exact hd.2.2.1 rfl | exact hd.2.2.2.1 rfl | exact hd.2.2.2.2.1 rfl | exact hd.2.2.2.2.2.1 rfl | exact hd.2.2.2.2.2.2.1 rfl | exact hd.2.2.2.2.2.2.2.1 rfl | exact hd.2.2.2.2.2.2.2.2.1 rfl | exact hd.2.2.2.2.2.2.2.2.2.1 rfl | exact hd.2.2.2.2.2.2.2.2.2.2.1 rfl | exact hd.2.2.2.2.2.2.2.2.2.2.2.1 rfl | exact hd.2.2.2.2.2.2.2.2.2.2.2.2.1 rfl | exact hd.2.2.2.2.2.2.2.2.2.2.2.2.2.1 rfl | exact hd.2.2.2.2.2.2.2.2.2.2.2.2.2.2.1 rfl | exact hd.2.2.2.2.2.2.2.2.2.2.2.2.2.2.2.1 rfl | exact hd.2.2.2.2.2.2.2.2.2.2.2.2.2.2.2.2.1 rfl | exact hd.2.2.2.2.2.2.2.2.2.2.2.2.2.2.2.2.2.1 rfl | exact hd.2.2.2.2.2.2.2.2.2.2.2.2.2.2.2.2.2.2.1 rfl | exact hd.2.2.2.2.2.2.2.2.2.2.2.2.2.2.2.2.2.2.2.1 rfl | exact hd.2.2.2.2.2.2.2.2.2.2.2.2.2.2.2.2.2.2.2.2.1 rfl | exact hd.2.2.2.2.2.2.2.2.2.2.2.2.2.2.2.2.2.2.2.2.2.1 rfl | exact hd.2.2.2.2.2.2.2.2.2.2.2.2.2.2.2.2.2.2.2.2.2.2.1 rfl | exact hd.2.2.2.2.2.2.2.2.2.2.2.2.2.2.2.2.2.2.2.2.2.2.2.1 rfl)
        refine Runs.of (b := ?bB11) ?eB11 ?_
        case eB11 => simp only [putV, Act.put, List.setIfInBounds_toArray, List.set_cons_zero, List.set_cons_succ, e8, e10.1]; rfl
        intro K' hK'
        go_simp
        exact hK'.go _ rfl ⟨ca, ccap, na, ncap, B12, hS0, hS1, k4, hY, hR0, hR1, hv, hcl, d16, d13, hK, h0, h1, h2, h3, h4, h5, h6, h7, h8, h9, h10, fun _ => ⟨rfl, HL10⟩, h12, h13, h14, h15, h16⟩
      · intro l x w' hJ hi hd
        obtain ⟨ca, ccap, na, ncap, B12, hS0, hS1, k4, hY, hR0, hR1, hv, hcl, d16, d13, hK, h0, h1, h2, h3, h4, h5, h6, h7, h8, h9, h10, h11, h12, h13, h14, h15, h16⟩ := hJ
        have e11 := h11 (show l 11 = true by first | exact hd.1 rfl | exact hd.2.1 rfl | exact hd.2.2.1 rfl | exact hd.2.2.2.1 rfl | exact hd.2.2.2.2.1 rfl | exact hd.2.2.2.2.2.1 rfl)
        refine Runs.of (b := ?bB12) ?eB12 ?_
        case eB12 => simp only [putV, Act.put, List.setIfInBounds_toArray, List.set_cons_zero, List.set_cons_succ, e11.1]; rfl
        intro K' hK'
        go_simp
        exact hK'.go _ rfl ⟨ca, ccap, na, ncap, w'.heap.size, fun h => (hS0 h).alloc _, fun h => (hS1 h).alloc _, ((Keep.refl [] _).alloc _).cell1 k4 (by simp), hY.keep0 ((Keep.refl [] _).alloc _) (by simp), fun h => (hR0 h).still ((Keep.refl [] _).alloc _), fun h => (hR1 h).still ((Keep.refl [] _).alloc _), hv, hcl, d16, d13, hK.alloc _, h0, h1, h2, h3, h4, h5, h6, h7, h8, h9, fun h => ⟨(h10 h).1, fun h2 => ((h10 h).2 h2).alloc _⟩, h11, fun _ => ⟨rfl, fun _ => Blk.new _ [.int .i64 (nx : Int), .slice ca body.length ccap] _, e11.2⟩, h13, h14, h15, h16⟩
      · intro l x w' hJ hi hd
        obtain ⟨ca, ccap, na, ncap, B12, hS0, hS1, k4, hY, hR0, hR1, hv, hcl, d16, d13, hK, h0, h1, h2, h3, h4, h5, h6, h7, h8, h9, h10, h11, h12, h13, h14, h15, h16⟩ := hJ
        have e4 := h4 (show l 4 = true by first | exact hd.1 rfl | exact hd.2.1 rfl | exact hd.2.2.1 rfl | exact hd.2.2.2.1 rfl | exact hd.2.2.2.2.1 rfl | exact hd.2.2.2.2.2.1 rfl)
        have e12 := h12 (show l 12 = true by first | exact hd.1 rfl | exact hd.2.1 rfl | exact hd.2.2.1 rfl | exact hd.2.2.2.1 rfl | exact hd.2.2.2.2.1 rfl | exact hd.2.2.2.2.2.1 rfl)
        have HL4 : Hid (l 4 = true) := Lib.hid (by first | exact hd.1 rfl | exact hd.2.1 rfl | exact hd.2.2.1 rfl | exact hd.2.2.2.1 rfl | exact hd.2.2.2.2.1 rfl | exact hd.2.2.2.2.2.1 rfl | exact hd.2.2.2.2.2.2.1 rfl | exact hd.2.2.2.2.2.2.2.1 rfl | exact hd.2.2.2.2.2.2.2.2.1 rfl | exact hd.2.2.2.2.2.2.2.2.2.1 rfl | exact hd.2.2.2.2.2.2.2.2.2.2.1 rfl | exact hd.2.2.2.2.2.2.2.2.2.2.2.1 rfl | exact hd.2.2.2.2.2.2.2.2.2.2.2.2.1 rfl | exact hd.2.2.2.2.2.2.2.2.2.2.2.2.2.1 rfl | exact hd.2.2.2.2.2.2.2.2.2.2.2.2.2.2.1 rfl | exact hd.2.2.2.2.2.2.2.2.2.2.2.2.2.2.2.1 rfl | exact hd.2.2.2.2.2.2.2.2.2.2.2.2.2.2.2.2.1 rfl | exact hd.2.2.2.2.2.2.2.2.2.2.2.2.2.2.2.2.2.1 rfl | exact hd.2.2.2.2.2.2.2.2.2.2.2.2.2.2.2.2.2.2.1 rfl | exact hd.2.2.2.2.2.2.2.2.2.2.2.2.2.2.2.2.2.2.2.1 rfl | exact hd.2.2.2.2.2.2.2.2.2.2.2.2.2.2.2.2.2.2.2.2.1 rfl | exact hd.2.2.2.2.2.2.2.2.2.2.2.2.2.2.2.2.2.2.2.2.2.1 rfl | exact hd.2.2.2.2.2.2.2.2.2.2.2.2.2.2.2.2.2.2.2.2.2.2.1 rfl | exact hd.2.2.2.2.2.2.2.2.2.2.2.2.2.2.2.2.2.2.2.2.2.2.2.1 rfl)
        have HL10 := e12.2.2
        have f16 : l 16 = false := by cases hq : l 16 with | false => rfl | true => exact absurd (d16 hq) (by simp [hi])
        have hbd := (h10 HL10.out).2 hi
        have hblk := e12.2.1 hi
        have hRR := hR0 hi
        have hsT := (hS0 f16).ty
        refine Runs.of (b := ?bB13) ?eB13 ?_
        case eB13 => simp only [putV, Act.put, List.setIfInBounds_toArray, List.set_cons_zero, List.set_cons_succ, e4, e12.1]; rfl
        intro K' hK'
        refine step_append_src _ rfl (.tmp 125) (.tmp 133) 54 54 rfl B 57 iR _ 2 32 Try.underlying54 hiR hzR0 hzR1 hzR2 rfl (by decide) (.slice ra s.recs.length rcap) s.recs.length (rcCs s.recs) rfl (rrow_n hRR) _ 1 [.int .i64 (nx : Int), .slice ca body.length ccap] rfl (srcRec w' B12 _ _ hblk Try.underlying54 rfl) (by unfold maxLen; have := HN0l.out; omega) (by have := HN0l.out; omega) (Nat.le_trans HBW.out hK.size) ?_
        intro v2 w2 g2 g3 _ g4
        obtain ⟨v2a, v2c, rfl⟩ := ownsRow_slice g2
        have k2 : Keep (.slice ra s.recs.length rcap : Value).ownBlock.toList w' w2 := Keep.grown g3
        have hR2 : RRow w2 B (.slice v2a (s.recs.length + 1) v2c) (s.recs ++ [⟨(nx, body), .slice ca body.length ccap⟩]) := hRR.snoc ⟨(nx, body), .slice ca body.length ccap⟩ (hbd.mono HBW.out) rfl g2 k2
        exact hK'.go (.slice v2a (s.recs.length + 1) v2c) rfl ⟨ca, ccap, v2a, v2c, B12, fun h => (hS0 h).keep k2 (hRR.rty hsT (by decide)), fun h => absurd (f16.symm.trans h) (by decide), k2.cell1 k4 HLBR.out, hY.keep0 k2 (fun q hq _ => (HBV4.out q hq).1), fun h => Bool.noConfusion (show true = false from h), fun _ => hR2, fun _ q hq => (g4 q hq).imp id (fun h => Nat.le_trans hK.size h), hcl, fun _ => rfl, fun _ => ⟨HL4.out, HL10.out⟩, hK.trans (k2.mono (fun q hq _ => List.mem_cons_of_mem _ hq)), h0, h1, h2, h3, h4, h5, h6, h7, h8, h9, fun h => ⟨(h10 h).1, fun h2 => Bool.noConfusion (show true = false from h2)⟩, h11, fun h => ⟨(h12 h).1, fun h2 => Bool.noConfusion (show true = false from h2), (h12 h).2.2⟩, fun _ => rfl, h14, h15, h16⟩
      · intro l x w' hJ hi hd
        obtain ⟨ca, ccap, na, ncap, B12, hS0, hS1, k4, hY, hR0, hR1, hv, hcl, d16, d13, hK, h0, h1, h2, h3, h4, h5, h6, h7, h8, h9, h10, h11, h12, h13, h14, h15, h16⟩ := hJ
        have e0 := h0 (show l 0 = true by first | exact hd.1 rfl | exact hd.2.1 rfl | exact hd.2.2.1 rfl | exact hd.2.2.2.1 rfl | exact hd.2.2.2.2.1 rfl | exact hd.2.2.2.2.2.1 rfl)
        refine Runs.of (b := ?bB14) ?eB14 ?_
        case eB14 => simp only [putV, Act.put, List.setIfInBounds_toArray, List.set_cons_zero, List.set_cons_succ, e0]; rfl
        intro K' hK'
        go_simp
        exact hK'.go _ rfl ⟨ca, ccap, na, ncap, B12, hS0, hS1, k4, hY, hR0, hR1, hv, hcl, d16, d13, hK, h0, h1, h2, h3, h4, h5, h6, h7, h8, h9, h10, h11, h12, h13, fun _ => rfl, h15, h16⟩
      · intro l x w' hJ hi hd
        obtain ⟨ca, ccap, na, ncap, B12, hS0, hS1, k4, hY, hR0, hR1, hv, hcl, d16, d13, hK, h0, h1, h2, h3, h4, h5, h6, h7, h8, h9, h10, h11, h12, h13, h14, h15, h16⟩ := hJ
        have e14 := h14 (show l 14 = true by first | exact hd.1 rfl | exact hd.2.1 rfl | exact hd.2.2.1 rfl | exact hd.2.2.2.1 rfl | exact hd.2.2.2.2.1 rfl | exact hd.2.2.2.2.2.1 rfl)
        refine Runs.of (b := ?bB15) ?eB15 ?_
        case eB15 => simp only [putV, Act.put, List.setIfInBounds_toArray, List.set_cons_zero, List.set_cons_succ, e14]; rfl
        intro K' hK'
        go_simp
        exact hK'.go _ rfl ⟨ca, ccap, na, ncap, B12, hS0, hS1, k4, hY, hR0, hR1, hv, hcl, d16, d13, hK, h0, h1, h2, h3, h4, h5, h6, h7, h8, h9, h10, h11, h12, h13, h14, fun _ => rfl, h16⟩
      · intro l x w' hJ hi hd
        obtain ⟨ca, ccap, na, ncap, B12, hS0, hS1, k4, hY, hR0, hR1, hv, hcl, d16, d13, hK, h0, h1, h2, h3, h4, h5, h6, h7, h8, h9, h10, h11, h12, h13, h14, h15, h16⟩ := hJ
        have e13 := h13 (show l 13 = true by first | exact hd.1 rfl | exact hd.2.1 rfl | exact hd.2.2.1 rfl | exact hd.2.2.2.1 rfl | exact hd.2.2.2.2.1 rfl | exact hd.2.2.2.2.2.1 rfl)
        have e15 := h15 (show l 15 = true by first | exact hd.1 rfl | exact hd.2.1 rfl | exact hd.2.2.1 rfl | exact hd.2.2.2.1 rfl | exact hd.2.2.2.2.1 rfl | exact hd.2.2.2.2.2.1 rfl)
        have HL13 : Hid (l 13 = true) := Lib.hid (by first | exact hd.1 rfl | exact hd.2.1 rfl | exact hd.2.2.1 rfl | exact hd.2.2.2.1 rfl | exact hd.2.2.2.2.1 rfl | exact hd.2.2.2.2.2.1 rfl | exact hd.2.2.2.2.2.2.1 rfl | exact hd.2.2.2.2.2.2.2.1 rfl | exact hd.2.2.2.2.2.2.2.2.1 rfl | exact hd.2.2.2.2.2.2.2.2.2.1 rfl | exact hd.2.2.2.2.2.2.2.2.2.2.1 rfl | exact hd.2.2.2.2.2.2.2.2.2.2.2.1 rfl | exact hd.2.2.2.2.2.2.2.2.2.2.2.2.1 rfl | exact hd.2.2.2.2.2.2.2.2.2.2.2.2.2.1 rfl | exact hd.2.2.2.2.2.2.2.2.2.2.2.2.2.2.1 rfl | exact hd.2.2.2.2.2.2.2.2.2.2.2.2.2.2.2.1 rfl | exact hd.2.2.2.2.2.2.2.2.2.2.2.2.2.2.2.2.1 rfl | exact hd.2.2.2.2.2.2.2.2.2.2.2.2.2.2.2.2.2.1 rfl | exact hd.2.2.2.2.2.2.2.2.2.2.2.2.2.2.2.2.2.2.1 rfl | exact hd.2.2.2.2.2.2.2.2.2.2.2.2.2.2.2.2.2.2.2.1 rfl | exact hd.2.2.2.2.2.2.2.2.2.2.2.2.2.2.2.2.2.2.2.2.1 rfl | exact hd.2.2.2.2.2.2.2.2.2.2.2.2.2.2.2.2.2.2.2.2.2.1 rfl | exact hd.2.2.2.2.2.2.2.2.2.2.2.2.2.2.2.2.2.2.2.2.2.2.1 rfl | exact hd.2.2.2.2.2.2.2.2.2.2.2.2.2.2.2.2.2.2.2.2.2.2.2.1 rfl)
        have c0 := seg_4 (hS0 hi)
        have f0 := (hS0 hi).free 4
        refine Runs.of (b := ?bB16) ?eB16 ?_
        case eB16 => simp only [putV, Act.put, List.setIfInBounds_toArray, List.set_cons_zero, List.set_cons_succ, e13, e15]; rfl
        intro K' hK'
        go_simp
        have k2 : Keep [s.p] w' _ := ((Keep.refl [s.p] w').setCell (p := ⟨s.p, 4, none⟩) (.inl (by simp)) (.slice na (s.recs.length + 1) ncap))
        have hS2 := (hS0 hi).set 4 (.slice na (s.recs.length + 1) ncap)
        have hsT := (hS0 hi).ty
        exact hK'.go undef rfl ⟨ca, ccap, na, ncap, B12, fun h => Bool.noConfusion (show true = false from h), fun _ => hS2, k2.cell1 k4 (by simp; exact HLBS.out), hY.keep0 k2 (fun q hq _ hm => by simp only [List.mem_singleton] at hm; exact HBVS.out q hq hm), fun h => absurd (h.symm.trans HL13.out) (by decide), fun h => (hR1 h).keep k2 (fun q hq hm => by simp only [List.mem_singleton] at hm; subst hm; rcases (hR1 h).ty _ hq with h1 | h1; exact h1.ne hsT (by decide) rfl; exact h1.ne hsT (by decide) rfl), hv, hcl, fun _ => HL13.out, d13, hK.trans (k2.mono (by simp)), h0, h1, h2, h3, h4, h5, h6, h7, h8, h9, fun h => ⟨(h10 h).1, fun h2 => absurd (h2.symm.trans HL13.out) (by decide)⟩, h11, fun h => ⟨(h12 h).1, fun h2 => absurd (h2.symm.trans HL13.out) (by decide), (h12 h).2.2⟩, h13, h14, h15, fun _ => trivial⟩
      · intro l x w3 hJ hl
        obtain ⟨ca, ccap, na, ncap, B12, hS0, hS1, k4, hY, hR0, hR1, hv, hcl, d16, d13, hK, h0, h1, h2, h3, h4, h5, h6, h7, h8, h9, h10, h11, h12, h13, h14, h15, h16⟩ := hJ
        have hS8 := hS1 (hl 16 (by decide))
        have hR8 := hR1 (hl 13 (by decide))
        have hv8 := hv (hl 13 (by decide))
        have hc8 := hcl (hl 10 (by decide))
        have hL8 := HLr.out.keep hK (fun hm => by
          rcases List.mem_cons.1 hm with h | h
          · exact HLBS.out h
          · exact HLBR.out h)
        simp only [putV, Act.put, List.setIfInBounds_toArray, List.set_cons_zero, List.set_cons_succ]
        simp only [Nat.zero_add, Nat.reduceAdd]
        have HS8 := Lib.hid hS8
        have HR8 := Lib.hid hR8
        have HV8 := Lib.hid hv8
        have HC8 := Lib.hid hc8
        have HL8 := Lib.hid hL8
        have HK8 := Lib.hid hK
        have HR24 := Lib.hid hR24
        have k6 := lg_6 hL8
        have f4 := hL8.free 4
        have hnx1 : nx + 1 < 281474976710656 := HNX.out
        clear h0 h1 h2 h3 h4 h5 h6 h7 h8 h9 h10 h11 h12 h13 h14 h15 h16 hS0 hS1 hY hR0 hR1 hv hcl d16 d13 hl hK hS8 hR8 hv8 hc8 hL8 hY24 hR24 hS24 c4
        generalize w3 = w8 at *
        have hlog := @app_log w5 w6 wr w8 B lb d sb frm segs nx run c1 fr (.slice (some ⟨la, 0, none⟩) (A.length + 1) cap1) (.slice a2 (N + 8 + body.length) cq2) (.slice na (s.recs.length + 1) ncap) (.slice ca body.length ccap) A s L1 B2 body nx HA5.out (HD2.out.keep HK25.out (by simp) (by simp)) (by rw [HVB.out]; exact HK6.out) HKr.out (by rw [HVR.out]; exact HK8.out) HL8.out HS8.out HBF6.out HRS.out HR8.out (by rw [HVB.out]; exact HV6.out) (by rw [HVR.out]; exact HV8.out) HC8.out
        have HLOG := Lib.hid hlog.1
        have HFT := Lib.hid hlog.2
        have hD8 : IsDev w8 d sb (wrSec (frm + (s.gen - 1) % segs * 8) s.gen s.base run B2 N L1 8) cc := HDr.out.keep HK8.out (fun hm => by
          rcases List.mem_cons.1 hm with h | h
          · exact HDr.out.dev.ty.ne HSr.out.ty (by decide) h
          · rcases HR24.out.ty d (List.mem_append_left _ h) with t | t
            · exact HDr.out.dev.ty.ne t (by decide) rfl
            · exact HDr.out.dev.ty.ne t (by decide) rfl) (fun hm => by
          rcases List.mem_cons.1 hm with h | h
          · exact HDr.out.secs.ty.ne HSr.out.ty (by decide) h
          · rcases HR24.out.ty sb (List.mem_append_left _ h) with t | t
            · exact HDr.out.secs.ty.ne t (by decide) rfl
            · exact HDr.out.secs.ty.ne t (by decide) rfl)
        have HD8 := Lib.hid hD8
        have hsF : ∀ q ∈ s.F, q ∈ lgF lb (.slice a l₀.length cap) l₀ ∨ w.heap.size ≤ q := fun q hq => HR.out.foot q (by
          simp only [lgF, List.mem_cons, List.mem_append]
          exact .inr (.inr (List.mem_flatMap.2 ⟨s, by simp, hq⟩)))
        have hKW : Keep (d :: sb :: lgF lb (.slice a l₀.length cap) l₀) w w8 := by
          have e1 : Keep (d :: sb :: lgF lb (.slice a l₀.length cap) l₀) w w2 := HK2.out.mono (fun q hq _ => by
            simp only [lgF, List.mem_cons, List.mem_append] at hq ⊢
            rcases hq with h | h | h | h
            · exact .inl h
            · exact .inr (.inl h)
            · exact .inr (.inr (.inl h))
            · exact .inr (.inr (.inr (.inl h))))
          have e2 := e1.trans (HK25.out.mono (by simp))
          have up : ∀ q ∈ s.F, q < w.heap.size → q ∈ d :: sb :: lgF lb (.slice a l₀.length cap) l₀ := fun q hq hlt => by
            rcases hsF q hq with h | h
            · exact List.mem_cons_of_mem _ (List.mem_cons_of_mem _ h)
            · omega
          have e3 := e2.then HK6.out (fun q hq hlt => by
            refine up q ?_ hlt
            unfold Sg.F
            rw [HVB.out]
            rcases List.mem_cons.1 hq with h | h
            · exact List.mem_cons.2 (.inl h)
            · exact List.mem_cons_of_mem _ (List.mem_append_left _ h))
          have e4 := e3.trans (HKr.out.mono (fun q hq _ => by
            simp only [List.mem_cons, List.not_mem_nil, or_false] at hq
            rcases hq with rfl | rfl <;> simp))
          exact e4.then HK8.out (fun q hq hlt => by
            refine up q ?_ hlt
            unfold Sg.F rcF
            rw [HVR.out]
            rcases List.mem_cons.1 hq with h | h
            · exact List.mem_cons.2 (.inl h)
            · exact List.mem_cons_of_mem _ (List.mem_append_right _ (List.mem_append_left _ h)))
        have HKW := Lib.hid hKW
        have hFF : ∀ q ∈ lgF lb (.slice (some ⟨la, 0, none⟩) (A.length + 1) cap1) (A ++ [s.add (.slice a2 (N + 8 + body.length) cq2) (.slice na (s.recs.length + 1) ncap) nx body (.slice ca body.length ccap)]), q ∈ lgF lb (.slice a l₀.length cap) l₀ ∨ w.heap.size ≤ q := by
          intro q hq
          have hz : w.heap.size ≤ w5.heap.size := by have h1 := HK2.out.size; have h2 := HK25.out.size; omega
          have hft := HFT.out
          simp only [lgF, sgF, List.flatMap_append, List.flatMap_cons, List.flatMap_nil, List.append_nil, List.mem_cons, List.mem_append] at hq
          rcases hq with h | h | h | h
          · exact HR.out.foot q (by simp [lgF, h])
          · exact HR.out.foot q (by simp only [lgF, List.mem_cons, List.mem_append]; exact .inr (.inl h))
          · exact HR.out.foot q (by simp only [lgF, sgF, List.flatMap_append, List.mem_cons, List.mem_append]; exact .inr (.inr (.inl h)))
          · rcases hft q h with h' | h'
            · exact hsF q h'
            · exact .inr (by omega)
        have HFF := Lib.hid hFF
        have k4' : w8.cell? ⟨lb, 4, none⟩ = some (.int .i64 (nx : Int)) := lg_4 HL8.out
        have hbl4 := (HL8.out.set 4 (.int .i64 ((nx : Int) + 1)))
        have hlog4 := HLOG.out.setC (nx' := nx + 1) (run' := run) (fr' := fr) 4 (.int .i64 ((nx : Int) + 1)) hbl4
        have HLOG4 := Lib.hid hlog4
        have hcc := hcc
        have HCC := Lib.hid hcc
        clear hlog hD8 hKW hFF hlog4 hcc hsF
        cases fr with
        | false =>
          have k6' := lg_6 hbl4
          clear hbl4 k4
          go_wp2_with fail
          go_ret2
          refine ⟨rfl, wc, _, A, s, L1, c1, _, _, _, cc, HR.out, HLOG4.out, ?_, by have := HCC.out; have := HLL.out; omega, HKW.out.setCell (.inl (by simp [lgF])) _, HFF.out⟩
          rw [← HRS.out, HNB.out]
          exact HD8.out.keep ((Keep.refl [lb] w8).setCell (p := ⟨lb, 4, none⟩) (.inl (by simp)) _) (by simp; exact HD8.out.dev.ty.ne HL8.out.ty (by decide)) (by simp; exact HD8.out.secs.ty.ne HL8.out.ty (by decide))
        | true =>
          have k6' := lg_6 hbl4
          have f6' := hbl4.free 6
          have hbl6 := hbl4.set 6 (.bool false)
          have HLOG6 := Lib.hid (HLOG4.out.setC (nx' := nx + 1) (run' := run) (fr' := false) 6 (.bool false) hbl6)
          have hD9 := HD8.out.keep (((Keep.refl [lb] w8).setCell (p := ⟨lb, 4, none⟩) (.inl (by simp)) (.int .i64 ((nx : Int) + 1))).setCell (p := ⟨lb, 6, none⟩) (.inl (by simp)) (.bool false)) (by simp; exact HD8.out.dev.ty.ne HL8.out.ty (by decide)) (by simp; exact HD8.out.secs.ty.ne HL8.out.ty (by decide))
          have HKW9 : Hid (Keep (d :: sb :: lgF lb (.slice a l₀.length cap) l₀) w ((w8.setCell ⟨lb, 4, none⟩ (.int .i64 ((nx : Int) + 1))).setCell ⟨lb, 6, none⟩ (.bool false))) := Lib.hid ((HKW.out.setCell (.inl (by simp [lgF])) _).setCell (.inl (by simp [lgF])) _)
          clear k4
          go_upto_region 28 with fail
          clear k6' f6' hbl4 f4 k4'
          generalize (w8.setCell ⟨lb, 4, none⟩ (.int .i64 ((nx : Int) + 1))).setCell ⟨lb, 6, none⟩ (.bool false) = w9 at *
          have hL9 := HLOG6.out.blk
          have HC9 : Hid (cc < 1099511627776) := Lib.hid (by have := HCC.out; have := HLL.out; have := HC.out; omega)
          have HWN1 : Hid (IntKind.i64.wrap ((nx : Int) + 1 - 1) = (nx : Int)) := Lib.hid (by rw [IntKind.wrap_i64]; have := HNX.out; omega)
          have HWN2 : Hid (IntKind.i64.wrap (nx : Int) = (nx : Int)) := Lib.hid (by rw [IntKind.wrap_i64]; have := HNX.out; omega)
          have hdL : lb ∉ [d, sb] := by
            simp only [List.mem_cons, List.not_mem_nil, or_false, not_or]
            exact ⟨hL9.ty.ne hD9.dev.ty (by decide), hL9.ty.ne hD9.secs.ty (by decide)⟩
          have HDL := Lib.hid hdL
          obtain ⟨LW, hLW⟩ : ∃ LW, LW = wrSec (frm + (s.gen - 1) % segs * 8) s.gen s.base run B2 N L1 8 := ⟨_, rfl⟩
          rw [← hLW] at hD9
          have HLW := Lib.hid hLW
          clear hLW hdL
          refine wp_region_inv (appJ28 w9 lb d sb frm segs nx run cc (.slice (some ⟨la, 0, none⟩) (A.length + 1) cap1) LW) (by kernel_rfl) (by kernel_rfl) (by kernel_rfl) ?_ (Steps.cons 0 ?_ (Steps.cons 1 ?_ (Steps.cons 2 ?_ (Steps.cons 3 ?_ (Steps.cons 4 ?_ (Steps.cons 5 ?_ (Steps.cons 6 ?_ (Steps.cons 7 ?_ (Steps.cons 8 ?_ (Steps.cons 9 ?_ (Steps.cons 10 ?_ (Steps.cons 11 ?_ (Steps.nil 12))))))))))))) 12 rfl ?_
          · intro x
            exact ⟨hL9.drew, fun _ => hD9.keep (Keep.refl [] _).drew (by simp) (by simp), fun h => absurd h (by decide), (Keep.refl _ _).drew, fun h => absurd h (by decide), fun h => absurd h (by decide), fun h => absurd h (by decide), fun h => absurd h (by decide), fun h => absurd h (by decide), fun h => absurd h (by decide), fun h => absurd h (by decide), fun h => absurd h (by decide), fun h => absurd h (by decide), fun h => absurd h (by decide), fun h => absurd h (by decide), fun h => absurd h (by decide)⟩
          · intro l x w' hJ hi hd
            obtain ⟨hL, hd0, hd1, hK, h0, h1, h2, h3, h4, h5, h6, h7, h8, h9, h10, h11⟩ := hJ
            refine Runs.of (b := ?bC0) ?eC0 ?_
            case eC0 => simp only [putV, Act.put, List.setIfInBounds_toArray, List.set_cons_zero, List.set_cons_succ]; rfl
            intro K' hK'
            go_simp
            exact hK'.go _ rfl ⟨hL, hd0, hd1, hK, fun _ => rfl, h1, h2, h3, h4, h5, h6, h7, h8, h9, h10, h11⟩
          · intro l x w' hJ hi hd
            obtain ⟨hL, hd0, hd1, hK, h0, h1, h2, h3, h4, h5, h6, h7, h8, h9, h10, h11⟩ := hJ
            have e0 := h0 (show l 0 = true by first | exact hd.1 rfl | exact hd.2.1 rfl | exact hd.2.2.1 rfl | exact hd.2.2.2.1 rfl | exact hd.2.2.2.2.1 rfl | exact hd.2.2.2.2.2.1 rfl)
            refine Runs.of (b := ?bC1) ?eC1 ?_
            case eC1 => simp only [putV, Act.put, List.setIfInBounds_toArray, List.set_cons_zero, List.set_cons_succ, e0]; rfl
            intro K' hK'
            go_simp
            exact hK'.go _ rfl ⟨hL, hd0, hd1, hK, h0, fun _ => rfl, h2, h3, h4, h5, h6, h7, h8, h9, h10, h11⟩
          · intro l x w' hJ hi hd
            obtain ⟨hL, hd0, hd1, hK, h0, h1, h2, h3, h4, h5, h6, h7, h8, h9, h10, h11⟩ := hJ
            have e1 := h1 (show l 1 = true by first | exact hd.1 rfl | exact hd.2.1 rfl | exact hd.2.2.1 rfl | exact hd.2.2.2.1 rfl | exact hd.2.2.2.2.1 rfl | exact hd.2.2.2.2.2.1 rfl)
            refine Runs.of (b := ?bC2) ?eC2 ?_
            case eC2 => simp only [putV, Act.put, List.setIfInBounds_toArray, List.set_cons_zero, List.set_cons_succ, e1]; rfl
            intro K' hK'
            go_simp
            exact hK'.go _ rfl ⟨hL, hd0, hd1, hK, h0, h1, fun _ => rfl, h3, h4, h5, h6, h7, h8, h9, h10, h11⟩
          · intro l x w' hJ hi hd
            obtain ⟨hL, hd0, hd1, hK, h0, h1, h2, h3, h4, h5, h6, h7, h8, h9, h10, h11⟩ := hJ
            have e2 := h2 (show l 2 = true by first | exact hd.1 rfl | exact hd.2.1 rfl | exact hd.2.2.1 rfl | exact hd.2.2.2.1 rfl | exact hd.2.2.2.2.1 rfl | exact hd.2.2.2.2.2.1 rfl)
            have c0 := lg_4 hL
            refine Runs.of (b := ?bC3) ?eC3 ?_
            case eC3 => simp only [putV, Act.put, List.setIfInBounds_toArray, List.set_cons_zero, List.set_cons_succ, e2]; rfl
            intro K' hK'
            go_simp
            exact hK'.go _ rfl ⟨hL, hd0, hd1, hK, h0, h1, h2, fun _ => rfl, h4, h5, h6, h7, h8, h9, h10, h11⟩
          · intro l x w' hJ hi hd
            obtain ⟨hL, hd0, hd1, hK, h0, h1, h2, h3, h4, h5, h6, h7, h8, h9, h10, h11⟩ := hJ
            have e3 := h3 (show l 3 = true by first | exact hd.1 rfl | exact hd.2.1 rfl | exact hd.2.2.1 rfl | exact hd.2.2.2.1 rfl | exact hd.2.2.2.2.1 rfl | exact hd.2.2.2.2.2.1 rfl)
            refine Runs.of (b := ?bC4) ?eC4 ?_
            case eC4 => simp only [putV, Act.put, List.setIfInBounds_toArray, List.set_cons_zero, List.set_cons_succ, e3]; rfl
            intro K' hK'
            go_simp
            exact hK'.go _ rfl ⟨hL, hd0, hd1, hK, h0, h1, h2, h3, fun _ => (by first | rfl | exact congrArg (Value.int .i64) HWN1.out | exact congrArg (Value.int .i64) HWN2.out), h5, h6, h7, h8, h9, h10, h11⟩
          · intro l x w' hJ hi hd
            obtain ⟨hL, hd0, hd1, hK, h0, h1, h2, h3, h4, h5, h6, h7, h8, h9, h10, h11⟩ := hJ
            refine Runs.of (b := ?bC5) ?eC5 ?_
            case eC5 => simp only [putV, Act.put, List.setIfInBounds_toArray, List.set_cons_zero, List.set_cons_succ]; rfl
            intro K' hK'
            go_simp
            exact hK'.go _ rfl ⟨hL, hd0, hd1, hK, h0, h1, h2, h3, h4, fun _ => rfl, h6, h7, h8, h9, h10, h11⟩
          · intro l x w' hJ hi hd
            obtain ⟨hL, hd0, hd1, hK, h0, h1, h2, h3, h4, h5, h6, h7, h8, h9, h10, h11⟩ := hJ
            have e5 := h5 (show l 5 = true by first | exact hd.1 rfl | exact hd.2.1 rfl | exact hd.2.2.1 rfl | exact hd.2.2.2.1 rfl | exact hd.2.2.2.2.1 rfl | exact hd.2.2.2.2.2.1 rfl)
            refine Runs.of (b := ?bC6) ?eC6 ?_
            case eC6 => simp only [putV, Act.put, List.setIfInBounds_toArray, List.set_cons_zero, List.set_cons_succ, e5]; rfl
            intro K' hK'
            go_simp
            exact hK'.go _ rfl ⟨hL, hd0, hd1, hK, h0, h1, h2, h3, h4, h5, fun _ => rfl, h7, h8, h9, h10, h11⟩
          · intro l x w' hJ hi hd
            obtain ⟨hL, hd0, hd1, hK, h0, h1, h2, h3, h4, h5, h6, h7, h8, h9, h10, h11⟩ := hJ
            have e6 := h6 (show l 6 = true by first | exact hd.1 rfl | exact hd.2.1 rfl | exact hd.2.2.1 rfl | exact hd.2.2.2.1 rfl | exact hd.2.2.2.2.1 rfl | exact hd.2.2.2.2.2.1 rfl)
            refine Runs.of (b := ?bC7) ?eC7 ?_
            case eC7 => simp only [putV, Act.put, List.setIfInBounds_toArray, List.set_cons_zero, List.set_cons_succ, e6]; rfl
            intro K' hK'
            go_simp
            exact hK'.go _ rfl ⟨hL, hd0, hd1, hK, h0, h1, h2, h3, h4, h5, h6, fun _ => rfl, h8, h9, h10, h11⟩
          · intro l x w' hJ hi hd
            obtain ⟨hL, hd0, hd1, hK, h0, h1, h2, h3, h4, h5, h6, h7, h8, h9, h10, h11⟩ := hJ
            have e7 := h7 (show l 7 = true by first | exact hd.1 rfl | exact hd.2.1 rfl | exact hd.2.2.1 rfl | exact hd.2.2.2.1 rfl | exact hd.2.2.2.2.1 rfl | exact hd.2.2.2.2.2.1 rfl)
            have c0 := lg_0 hL
            refine Runs.of (b := ?bC8) ?eC8 ?_
            case eC8 => simp only [putV, Act.put, List.setIfInBounds_toArray, List.set_cons_zero, List.set_cons_succ, e7]; rfl
            intro K' hK'
            go_simp
            exact hK'.go _ rfl ⟨hL, hd0, hd1, hK, h0, h1, h2, h3, h4, h5, h6, h7, fun _ => rfl, h9, h10, h11⟩
          · intro l x w' hJ hi hd
            obtain ⟨hL, hd0, hd1, hK, h0, h1, h2, h3, h4, h5, h6, h7, h8, h9, h10, h11⟩ := hJ
            have e8 := h8 (show l 8 = true by first | exact hd.1 rfl | exact hd.2.1 rfl | exact hd.2.2.1 rfl | exact hd.2.2.2.1 rfl | exact hd.2.2.2.2.1 rfl | exact hd.2.2.2.2.2.1 rfl)
            refine Runs.of (b := ?bC9) ?eC9 ?_
            case eC9 => simp only [putV, Act.put, List.setIfInBounds_toArray, List.set_cons_zero, List.set_cons_succ, e8]; rfl
            intro K' hK'
            go_simp
            refine (Flush_any (hd0 hi) HC9.out).mono ?_
            rintro e w2 ⟨rfl, hD2, k2⟩
            go_simp
            exact hK'.go _ rfl ⟨hL.keep k2 HDL.out, fun h => Bool.noConfusion (show true = false from h), fun _ => hD2, hK.trans k2, h0, h1, h2, h3, h4, h5, h6, h7, h8, fun _ => rfl, h10, h11⟩
          · intro l x w' hJ hi hd
            obtain ⟨hL, hd0, hd1, hK, h0, h1, h2, h3, h4, h5, h6, h7, h8, h9, h10, h11⟩ := hJ
            have e4 := h4 (show l 4 = true by first | exact hd.1 rfl | exact hd.2.1 rfl | exact hd.2.2.1 rfl | exact hd.2.2.2.1 rfl | exact hd.2.2.2.2.1 rfl | exact hd.2.2.2.2.2.1 rfl)
            refine Runs.of (b := ?bC10) ?eC10 ?_
            case eC10 => simp only [putV, Act.put, List.setIfInBounds_toArray, List.set_cons_zero, List.set_cons_succ, e4]; rfl
            intro K' hK'
            go_simp
            exact hK'.go _ rfl ⟨hL, hd0, hd1, hK, h0, h1, h2, h3, h4, h5, h6, h7, h8, h9, fun _ => rfl, h11⟩
          · intro l x w' hJ hi hd
            obtain ⟨hL, hd0, hd1, hK, h0, h1, h2, h3, h4, h5, h6, h7, h8, h9, h10, h11⟩ := hJ
            have e9 := h9 (show l 9 = true by first | exact hd.1 rfl | exact hd.2.1 rfl | exact hd.2.2.1 rfl | exact hd.2.2.2.1 rfl | exact hd.2.2.2.2.1 rfl | exact hd.2.2.2.2.2.1 rfl)
            refine Runs.of (b := ?bC11) ?eC11 ?_
            case eC11 => simp only [putV, Act.put, List.setIfInBounds_toArray, List.set_cons_zero, List.set_cons_succ, e9]; rfl
            intro K' hK'
            go_simp
            exact hK'.go _ rfl ⟨hL, hd0, hd1, hK, h0, h1, h2, h3, h4, h5, h6, h7, h8, h9, h10, fun _ => rfl⟩
          · intro l x w3 hJ hl
            obtain ⟨hL, hd0, hd1, hK, h0, h1, h2, h3, h4, h5, h6, h7, h8, h9, h10, h11⟩ := hJ
            have hDf := hd1 (hl 9 (by decide))
            have e10 := h10 (hl 10 (by decide))
            have e11 := h11 (hl 11 (by decide))
            simp only [putV, Act.put, List.setIfInBounds_toArray, List.set_cons_zero, List.set_cons_succ, e10, e11]
            simp only [Nat.zero_add, Nat.reduceAdd]
            have HDF := Lib.hid hDf
            have HKF := Lib.hid hK
            have HAP := Lib.hid (HLOG6.out.apart hD9)
            clear h0 h1 h2 h3 h4 h5 h6 h7 h8 h9 h10 h11 hL hd0 hd1 hK hl hDf e10 e11 hD9 hL9
            generalize w3 = wz at *
            go_wp2_with fail
            go_ret2
            refine ⟨rfl, wc, _, A, s, L1, c1, _, _, _, cc + 1, HR.out, HLOG6.out.keep HKF.out (fun q hq hm => ?_), ?_, by have := HCC.out; have := HLL.out; omega, HKW9.out.trans (HKF.out.mono (fun q hq _ => by simp only [List.mem_cons, List.not_mem_nil, or_false] at hq; rcases hq with rfl | rfl <;> simp)), HFF.out⟩
            · exact HAP.out q hq hm
            · rw [← HRS.out, HNB.out, ← HLW.out]
              exact HDF.out
end
end Go.Proofs.Ytpibpapolcdeiaa
