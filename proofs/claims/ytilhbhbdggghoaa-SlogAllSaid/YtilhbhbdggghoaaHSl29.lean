/- slog: the law SlogRound: its walk. -/
import Derived.Test.YtilhbhbdggghoaaHSl28
namespace Go.Proofs.Ytilhbhbdggghoaa
open Go.ChangeShapes Go.WideShapes Go.ChangeAt Go.RowKit
set_option linter.unusedVariables false
set_option linter.unusedSimpArgs false
set_option maxRecDepth 100000

def bodyR (size i : Nat) : List Nat := (i % 256) :: List.replicate (size - 1) 0
def allR (size n : Nat) : List Rcd := (List.range n).map (fun j => (j + 1, bodyR size j))
theorem bodyR_len {size : Nat} (h : 1 ≤ size) (i : Nat) : (bodyR size i).length = size := by unfold bodyR; simp; omega
theorem allR_succ (size n : Nat) : allR size (n + 1) = allR size n ++ [(n + 1, bodyR size n)] := by unfold allR; rw [List.range_succ, List.map_append]; rfl
theorem allR_len (size n : Nat) : (allR size n).length = n := by unfold allR; simp
theorem bodyR_byte (size i : Nat) : ∀ c ∈ bodyR size i, c < 256 := by
  intro c hc
  unfold bodyR at hc
  rcases List.mem_cons.1 hc with rfl | hc
  · exact Nat.mod_lt _ (by decide)
  · have := (List.mem_replicate.1 hc).2; omega
theorem blk_rdN {w : World} {b n : Nat} {X : List Nat} {T : TypeId} (h : Blk w b (bcs X) T) (hl : X.length = n) : Rd w (.slice (some ⟨b, 0, none⟩) n n) X := by
  subst hl
  refine ⟨by simp, some ⟨b, 0, none⟩, _, rfl, Nat.le_refl _, fun _ => ⟨b, 0, rfl, h.lt, fun i hi => ?_⟩⟩
  rw [h.cell, Nat.zero_add]
theorem costR_allR (size n k : Nat) (h : 1 ≤ size) (hk : k ≤ n) : costR ((allR size n).drop k) = (n - k) * (size + 60) := by
  have hc : ∀ l : List Rcd, (∀ r ∈ l, r.2.length = size) → costR l = l.length * (size + 60) := by
    intro l
    induction l with
    | nil => intro _; simp [costR]
    | cons r l ih =>
      intro hl
      have e : costR (r :: l) = r.2.length + 60 + costR l := by simp [costR]
      rw [e, ih (fun x hx => hl x (by simp [hx])), hl r (by simp), List.length_cons, Nat.add_mul]
      omega
  rw [hc _ (fun r hr => by
    obtain ⟨j, _, rfl⟩ := List.mem_map.1 (List.mem_of_mem_drop hr)
    exact bodyR_len h j), List.length_drop, allR_len]
/-- A whole log's sizes, for All and Read. -/
theorem LogOk.sizes {w : World} {B lb d frm segs nx run q : Nat} {fr : Bool} {vl : Value} {l : List Sg} {L : List Sec} (h : LogOk w B lb d frm segs nx run fr vl l L q) (hs : segs ≤ 199) : (l.length ≤ 1000 ∧ ∀ s ∈ l, s.recs.length ≤ 1000) ∧ (∀ s ∈ l, ∀ r ∈ s.rs, r.ok) ∧ ∀ s ∈ l, PosUp s.recs := by
  have hm : ∀ s ∈ l, s.ps ∈ l.map Sg.ps := fun s hs => List.mem_map.2 ⟨s, hs, rfl⟩
  refine ⟨⟨by have := h.say.len; simp at this; omega, fun s hs => ?_⟩, fun s hs => (h.say.ok _ (hm s hs)).1, fun s hs => ?_⟩
  · have h1 := recs_len s.rs (h.say.ok _ (hm s hs)).1
    have h2 : (encRs s.rs).length ≤ 378 := (h.say.ok _ (hm s hs)).2.1
    have h3 : s.rs.length = s.recs.length := by simp [Sg.rs]
    omega
  · have h1 := h.say.pos
    have h2 : s.rs.Sublist ((l.map Sg.ps).flatMap PS.rs) := by
      rw [← flatR]
      have := flatMap_sub Sg.rs (List.singleton_sublist.2 hs)
      simpa using this
    have h3 := h1.sublist h2
    unfold Sg.rs at h3
    rw [List.pairwise_map] at h3
    exact h3
set_option maxRecDepth 100000 in
set_option maxHeartbeats 8000000 in
theorem slogRound_walk (sg n sz : Int) (w : World) (w0 : (Lit.int .i64 sg).wf = true) (w1 : (Lit.int .i64 n).wf = true) (w2 : (Lit.int .i64 sz).wf = true) :
    Calls Try.prog 3 #[.int .i64 sg, .int .i64 n, .int .i64 sz] w fun e w' => e = .returned (.bool true) ∧ Below w.heap.size w w' := by
  obtain ⟨i8, hi8, hz80, hz81, hz82⟩ := info_parts Try.info8
  clear w0 w1 w2
  go_enter Try.func3, Try.ntmps3
  go_wp2_with fail
  refine (begun6 w).mono ?_
  rintro e wb ⟨rfl, kb⟩
  have HKB := Lib.hid kb
  clear kb
  by_cases hin : 3 ≤ sg ∧ sg ≤ 10 ∧ 0 ≤ n ∧ n ≤ 200 ∧ 1 ≤ sz ∧ sz ≤ 120
  case neg =>
    obtain ⟨bb, hbb⟩ : ∃ b : Bool, b = true := ⟨true, rfl⟩
    go_upto_region 4 with fail
    go_cut [42] (fun s wc => s = .bool true ∧ wb = wc)
    case first =>
      by_cases h1 : sg < 3
      · have q1 : decide (sg < 3) = true := decide_eq_true h1
        clear hin
        go_wp2_with fail
        go_meet
        exact ⟨rfl, rfl⟩
      have q1 : decide (sg < 3) = false := decide_eq_false h1
      by_cases h2 : sg > 10
      · have q2 : decide (sg > 10) = true := decide_eq_true h2
        clear hin
        go_wp2_with fail
        go_meet
        exact ⟨rfl, rfl⟩
      have q2 : decide (sg > 10) = false := decide_eq_false h2
      by_cases h3 : n < 0
      · have q3 : decide (n < 0) = true := decide_eq_true h3
        clear hin
        go_wp2_with fail
        go_meet
        exact ⟨rfl, rfl⟩
      have q3 : decide (n < 0) = false := decide_eq_false h3
      by_cases h4 : n > 200
      · have q4 : decide (n > 200) = true := decide_eq_true h4
        clear hin
        go_wp2_with fail
        go_meet
        exact ⟨rfl, rfl⟩
      have q4 : decide (n > 200) = false := decide_eq_false h4
      by_cases h5 : sz < 1
      · have q5 : decide (sz < 1) = true := decide_eq_true h5
        clear hin
        go_wp2_with fail
        go_meet
        exact ⟨rfl, rfl⟩
      have q5 : decide (sz < 1) = false := decide_eq_false h5
      have h6 : sz > 120 := by omega
      have q6 : decide (sz > 120) = true := decide_eq_true h6
      clear hin
      go_wp2_with fail
      go_meet
      exact ⟨rfl, rfl⟩
    case rest =>
    obtain ⟨rfl, rfl⟩ := hcut
    go_wp2_with fail
    go_ret
    exact ⟨rfl, HKB.out.below⟩
  obtain ⟨b1, b2, b3, b4, b5, b6⟩ := hin
  obtain ⟨segs, rfl⟩ : ∃ k : Nat, sg = (k : Int) := ⟨sg.toNat, by omega⟩
  obtain ⟨n, rfl⟩ : ∃ k : Nat, n = (k : Int) := ⟨n.toNat, by omega⟩
  obtain ⟨size, rfl⟩ : ∃ k : Nat, sz = (k : Int) := ⟨sz.toNat, by omega⟩
  have q1 : decide ((segs : Int) < 3) = false := decide_eq_false (by omega)
  have q2 : decide ((segs : Int) > 10) = false := decide_eq_false (by omega)
  have q3 : decide ((n : Int) < 0) = false := decide_eq_false (by omega)
  have q4 : decide ((n : Int) > 200) = false := decide_eq_false (by omega)
  have q5 : decide ((size : Int) < 1) = false := decide_eq_false (by omega)
  have q6 : decide ((size : Int) > 120) = false := decide_eq_false (by omega)
  have HBN : Hid ((3 ≤ segs ∧ segs ≤ 10) ∧ n ≤ 200 ∧ 1 ≤ size ∧ size ≤ 120) := Lib.hid (by omega)
  go_upto_region 6 with fail
  clear q1 q2 q3 q4 q5 q6 b3 b4 b5
  go_wp2_with fail
  refine (New_any ((segs : Int) * 8) (segs * 8) (by omega)).mono ?_
  rintro e w3 ⟨d, sb, rfl, hD3, hK3, hb3, hsb3⟩
  have HDB := Lib.hid (And.intro hb3 hsb3)
  have HD3 := Lib.hid hD3
  have HK3 := Lib.hid (HKB.out.trans hK3)
  clear hD3 hK3 hb3 hsb3
  go_wp2_with fail
  refine (open_new HD3.out 0 segs ⟨by omega, by omega⟩ (by omega)).mono ?_
  rintro e w4 ⟨lb, vl, l, run, rfl, hL4, hS4, hr4, hK4⟩
  have HL4 := Lib.hid hL4
  have HS4 := Lib.hid hS4
  have HR4 := Lib.hid hr4
  have HD4 := Lib.hid (HD3.out.keep hK4 (by simp) (by simp))
  have HK4 := Lib.hid (HK3.out.trans hK4)
  clear hL4 hS4 hr4 hK4
  have HB3 : Hid (w.heap.size ≤ w3.heap.size) := Lib.hid HK3.out.size
  have HDW : Hid (w.heap.size ≤ d ∧ w.heap.size ≤ sb) := Lib.hid (by have := HDB.out; have := HKB.out.size; omega)
  go_wp2_with fail
  go_loopw [10, 11] (fun s10 s11 wr => ∃ (i : Nat) (vl : Value) (l : List Sg) (L : List Sec) (c : Nat) (fr : Bool), s10 = .int .i64 (i : Int) ∧ s11 = .int .i64 (i : Int) ∧ i ≤ n ∧ LogOk wr w3.heap.size lb d 0 segs (i + 1) run fr vl l L i ∧ IsDev wr d sb L c ∧ c ≤ 12 * i ∧ L.length = segs * 8 ∧ Tail segs (l.map Sg.ps) (allR size i) ∧ Keep [] w wr) (fun _ x _ => n + 1 - (intOf x).toNat)
  case atStart => exact ⟨0, vl, l, _, 0, true, rfl, rfl, Nat.zero_le _, HL4.out, HD4.out, Nat.le_refl _, by simp, by rw [HS4.out]; exact Tail.nil _, HK4.out⟩
  case round =>
  obtain ⟨i, vl, l, L, c, fr, rfl, rfl, hi, hL, hD, hc, hLl, hT, hK⟩ := hrel
  have HL := Lib.hid hL
  have HD := Lib.hid hD
  have HC := Lib.hid hc
  have HLL := Lib.hid hLl
  have HT := Lib.hid hT
  have HK := Lib.hid hK
  clear hL hD hc hLl hT hK
  by_cases hin : i < n
  · have q0 : decide ((i : Int) < (n : Int)) = true := decide_eq_true (by omega)
    have hmk : (Instr.makeSlice 29 (.int .i64 (size : Int)) (.int .i64 (size : Int))).run Try.prog wr = .ok (.slice (some ⟨wr.heap.size, 0, none⟩) size size) (wr.alloc (.cells (List.replicate size (Value.int .u8 0)).toArray 5)) :=
      run_make_n 29 5 i8 (.int .u8 0) Try.underlying29 hi8 hz80 hz81 rfl (size : Int) size rfl (by rw [hz82]; omega) (by omega) wr
    rw [show (List.replicate size (Value.int .u8 0)) = bcs (List.replicate size 0) by unfold bcs; rw [List.map_replicate]; rfl] at hmk
    have HIN := Lib.hid hin
    have q0' : decide (i < n) = true := decide_eq_true hin
    go_upto_region 14 with fail
    have hbz := Blk.new wr (bcs (List.replicate size 0)) 5
    have KZ := (Keep.refl [] wr).alloc (.cells (bcs (List.replicate size 0)).toArray 5)
    obtain ⟨b, hb⟩ : ∃ b, b = wr.heap.size := ⟨_, rfl⟩
    rw [← hb] at hbz ⊢
    generalize wr.alloc (.cells (bcs (List.replicate size 0)).toArray 5) = wz at *
    have HBB := Lib.hid hb
    have hbn := HBN.out
    obtain ⟨z1, hz1⟩ : ∃ z, size = z + 1 := ⟨size - 1, by omega⟩
    have c0 : wz.cell? ⟨b, 0, none⟩ = some (.int .u8 0) := by rw [hbz.cell, hz1]; rfl
    have f0 := hbz.free 0
    have hwr : IntKind.u8.wrap (i : Int) = ((i % 256 : Nat) : Int) := by rw [IntKind.wrap_u8]; omega
    have hb1 := hbz.set 0 (.int .u8 ((i % 256 : Nat) : Int))
    have hb2 : Blk (wz.setCell ⟨b, 0, none⟩ (.int .u8 ((i % 256 : Nat) : Int))) b (bcs (bodyR size i)) 5 := by
      have e : (bcs (List.replicate size 0)).set 0 (.int .u8 ((i % 256 : Nat) : Int)) = bcs (bodyR size i) := by
        rw [hz1]; unfold bodyR bcs; simp [List.replicate_succ, bc]
      rw [e] at hb1; exact hb1
    have HB2 := Lib.hid hb2
    have HKZ : Hid (Keep [] wr (wz.setCell ⟨b, 0, none⟩ (.int .u8 ((i % 256 : Nat) : Int)))) := Lib.hid (KZ.setCell (.inr (by show wr.heap.size ≤ b; omega)) _)
    have q6 : 0 < size := by omega
    clear hbz KZ hb hb1 hb2 hz1 hmk
    go_upto_region 15 with fail
    clear c0 f0 hwr q6
    rw [show ((i : Int) % 256) = ((i % 256 : Nat) : Int) by omega]
    generalize wz.setCell ⟨b, 0, none⟩ (.int .u8 ((i % 256 : Nat) : Int)) = wy at *
    have hlen : (bodyR size i).length = size := bodyR_len (by omega) i
    go_wp2_with fail
    refine (appendOk (HL.out.still HKZ.out) (HD.out.keep HKZ.out (by simp) (by simp)) (by have := HC.out; omega) ⟨by omega, by omega⟩ (by have := HR4.out; omega) (by omega) ⟨by omega, by omega⟩ (by rw [HLL.out]; omega) (blk_rdN HB2.out hlen) ⟨by omega, by omega⟩ (bodyR_byte size i) (fun x hx => by
      have e : b = x := Option.some.inj hx
      rw [← e, HBB.out]
      exact HL.out.at_.newNot HD.out (Nat.le_refl _))).mono ?_
    rintro e w6 ⟨rfl, vl6, l6, L6, c6, hL6, hD6, hc6, hS6, hK6, hF6, hl6, _⟩
    have hT6 := HT.out.app HL.out.say (by omega) ⟨by omega, by omega⟩ (bodyR size i) ⟨by show 1 ≤ (bodyR size i).length; omega, by show (bodyR size i).length ≤ 300; omega, by show i + 1 < _; omega, bodyR_byte size i⟩
    rw [← hS6, ← allR_succ] at hT6
    have HT6 := Lib.hid hT6
    have HL6 := Lib.hid hL6
    have HD6 := Lib.hid hD6
    have HC6 := Lib.hid hc6
    have HLL6 := Lib.hid hl6
    have HK6 := Lib.hid (logKeep (HL.out.still HKZ.out).at_ HB3.out HDW.out.1 HDW.out.2 (HK.out.trans HKZ.out) hK6)
    have q7 : decide (((i + 1 : Nat) : Int) ≤ (i : Int)) = false := decide_eq_false (by omega)
    have q7' : decide ((i : Int) + 1 ≤ (i : Int)) = false := decide_eq_false (by omega)
    have q7'' : decide (i + 1 ≤ i) = false := decide_eq_false (by omega)
    clear hL6 hD6 hc6 hS6 hK6 hF6 hl6 hT6 hlen
    go_wp2_with fail
    go_roundw
    case rel => exact ⟨i + 1, vl6, l6, L6, c6, false, by go_num, by go_num, by have := HIN.out; omega, HL6.out, HD6.out, by have := HC6.out; have := HC.out; omega, by rw [HLL6.out, HLL.out], HT6.out, HK6.out⟩
    case measure => simp [intOf]; have := HIN.out; omega
  · obtain rfl : i = n := by omega
    have q0 : decide ((i : Int) < (i : Int)) = false := by simp
    have hsz := HL.out.sizes (by have := HBN.out; omega)
    have HALL := Lib.hid (All_any HL.out.at_ hsz.1 hsz.2.1)
    clear hin hsz
    go_wp2_with fail
    refine HALL.out.mono ?_
    rintro e wa ⟨va, La, rfl, hRa, hLa, hKa⟩
    rw [flatR] at hLa
    obtain ⟨k, hk, hkl, hfull⟩ := HT.out.tail
    rw [hk] at hLa
    rw [allR_len] at hkl
    obtain ⟨m, hm⟩ : ∃ m, m = La.length := ⟨_, rfl⟩
    have hmk : m = i - k := by
      have := congrArg List.length hLa
      rw [List.length_map, List.length_drop, allR_len] at this
      omega
    have hcnt : 0 < k → 200 * (segs - 2) < m * (size + 60) := by
      intro h0
      have h1 := HL.out.say.cost (by have := HBN.out; omega) (hfull h0)
      rw [hk, costR_allR size i k (by have := HBN.out; omega) hkl, ← hmk] at h1
      exact h1
    obtain ⟨aa, ca, hva⟩ := hRa.slice
    rw [← hm] at hva
    subst hva
    obtain ⟨K, hK⟩ : ∃ K, K = 200 * (segs - 2) / (size + 60) := ⟨_, rfl⟩
    have hq : Int.tdiv (200 * ((segs : Int) - 2)) ((size : Int) + 60) = (K : Int) := by
      have e1 : (200 * ((segs : Int) - 2)) = ((200 * (segs - 2) : Nat) : Int) := by omega
      have e2 : ((size : Int) + 60) = ((size + 60 : Nat) : Int) := by omega
      rw [e1, e2, hK, Int.ofNat_tdiv]
    have HM := Lib.hid (And.intro hmk hcnt)
    have HLA := Lib.hid hLa
    have HRA := Lib.hid (hRa.mono (Nat.zero_le _))
    have HKA := Lib.hid (HK.out.trans hKa)
    have HMM := Lib.hid hm
    have HKK := Lib.hid hK
    have HKL := Lib.hid hkl
    clear hmk hcnt hLa hRa hKa hm hK hkl hk hfull
    go_upto_region 21 with fail
    clear hq
    obtain ⟨kk, hkk⟩ : ∃ x : Int, x = (if wrap64 (K : Int) < (i : Int) then wrap64 (K : Int) else (i : Int)) := ⟨_, rfl⟩
    rw [← hkk]
    have hbn := HBN.out
    have hX : 200 * (segs - 2) ≤ 1600 := by omega
    have hKb : K ≤ 1600 := by rw [HKK.out]; exact Nat.le_trans (Nat.div_le_self _ _) hX
    have hw : wrap64 (K : Int) = (K : Int) := by unfold wrap64; omega
    have hmi : m ≤ i := by have := HM.out.1; omega
    have hkm : kk ≤ (m : Int) := by
      rw [hkk, hw]
      by_cases h0 : 0 < k
      · have h1 := HM.out.2 h0
        have h2 : K ≤ m := by
          rw [HKK.out]
          exact Nat.le_of_lt (Nat.div_lt_of_lt_mul (by rw [Nat.mul_comm (size + 60) m]; exact h1))
        split <;> omega
      · have h1 := HM.out.1
        split <;> omega
    have q1 : decide ((m : Int) < kk) = false := decide_eq_false (by omega)
    have q2 : decide ((m : Int) > (i : Int)) = false := decide_eq_false (by omega)
    have q2' : decide (i < m) = false := decide_eq_false (by omega)
    have q1' : ¬ (m : Int) < kk := by omega
    have q2'' : ¬ i < m := by omega
    clear hkk hw hX hKb
    go_wp2_with fail
    go_loopw [17] (fun s17 wr2 => ∃ j : Nat, s17 = .int .i64 (j : Int) ∧ j ≤ m ∧ wr2 = wa) (fun x _ => m + 1 - (intOf x).toNat)
    case atStart => exact ⟨0, rfl, Nat.zero_le _, rfl⟩
    case round =>
    obtain ⟨j, rfl, hj, hwr⟩ := hrel
    have HRA2 : Hid (RRow wr 0 (.slice aa m ca) La) := Lib.hid (by rw [hwr]; exact HRA.out)
    have HKA2 : Hid (Keep [] w wr) := Lib.hid (by rw [hwr]; exact HKA.out)
    have HWR := Lib.hid hwr
    clear hwr
    by_cases hjm : j < m
    · have q3 : decide ((j : Int) < (m : Int)) = true := decide_eq_true (by omega)
      have hjl : j < La.length := by have := HMM.out; omega
      obtain ⟨y, hy⟩ : ∃ y, La[j]? = some y := ⟨_, List.getElem?_eq_getElem hjl⟩
      have hyr : y.r = (k + j + 1, bodyR size (k + j)) := by
        have h1 : (La.map (·.r))[j]? = some y.r := by rw [List.getElem?_map, hy]; rfl
        rw [HLA.out, List.getElem?_drop] at h1
        unfold allR at h1
        rw [List.getElem?_map, List.getElem?_range (by have := HM.out.1; omega)] at h1
        simp at h1
        exact h1.symm
      obtain ⟨g, gc, hg, p0, p1⟩ := HRA2.out.at_ j hjl
      rw [← HMM.out] at hg
      injection hg with hg1 hg2 hg3
      subst hg1 hg3
      rw [(List.getElem?_eq_some_iff.1 hy).2] at p1
      have hB := (HRA2.out.ok y (List.mem_of_getElem? hy)).1
      rw [hyr] at hB
      have hlen : (bodyR size (k + j)).length = size := bodyR_len (by omega) _
      obtain ⟨vb, vc, hvb, _⟩ := hB.own.at_ (by rw [bcs_length]; show 0 < (bodyR size (k + j)).length; omega)
      rw [bcs_length] at hvb
      have hvb' : y.v = .slice (some ⟨vb, 0, none⟩) size vc := by rw [hvb]; show Value.slice _ (bodyR size (k + j)).length _ = _; rw [hlen]
      rw [hvb'] at p1
      have hB2 : Buf wr 0 5 (.slice (some ⟨vb, 0, none⟩) size vc) (bodyR size (k + j)) := by rw [hvb'] at hB; exact hB
      obtain ⟨x, hx⟩ : ∃ x : Int, x = (((k + j) % 256 : Nat) : Int) := ⟨_, rfl⟩
      have p2 : wr.cell? ⟨vb, 0, none⟩ = some (.int .u8 x) := by
        rw [(hB2.own.cell (by rw [bcs_length, hlen]) 0 (by omega)).1, hx]; rfl
      have q4 : ((size : Int) != (size : Int)) = false := by simp
      have q5 : (x != ((i : Int) - (m : Int) + (j : Int)) % 256) = false := by
        have : x = ((i : Int) - (m : Int) + (j : Int)) % 256 := by rw [hx]; have := HM.out.1; have := HKL.out; omega
        simp [this]
      have q6 : IntKind.u8.wrap ((i : Int) - (m : Int) + (j : Int)) = ((i : Int) - (m : Int) + (j : Int)) % 256 := by rw [IntKind.wrap_u8]
      have q7 : 0 < size := by omega
      clear hg2 hy hyr p0 hB hlen hvb hvb' hB2 hx hjl
      go_wp2_with fail
      go_roundw
      case rel => exact ⟨j + 1, by go_num, by omega, HWR.out⟩
      case measure => simp only [intOf]; omega
    · obtain rfl : j = m := by omega
      have q3 : decide ((j : Int) < (j : Int)) = false := by simp
      go_wp2_with fail
      go_ret
      exact ⟨rfl, HKA2.out.below⟩
end Go.Proofs.Ytilhbhbdggghoaa
