/- Sl20, Sl21, Sl22, Sl23, Sl24, Sl25, Sl28 -/
import Derived.Test.YtpibpapolcdeiaaG7
import Derived.Lib.SmallJoins
/- slog: Open. -/
namespace Go.Proofs.Ytpibpapolcdeiaa
open Go.ChangeShapes Go.WideShapes Go.ChangeAt Go.RowKit
set_option linter.unusedVariables false
set_option linter.unusedSimpArgs false
set_option maxRecDepth 100000

/-- What stands of a segment on a device. -/
structure PSeg where
  gen : Nat
  base : Nat
  rs : List Rcd
  rn : Nat → Nat
structure PSeg.ok (q : PSeg) : Prop where
  recs : ∀ r ∈ q.rs, r.ok
  room : (encRs q.rs).length ≤ 378
  gen : 0 < q.gen ∧ q.gen < 281474976710656
  base : q.base < 281474976710656
/-- What stands at a place of the log. -/
def SlotIs (L : List Sec) (frm segs k : Nat) : Option PSeg → Prop
  | none => ∀ i, i < 8 → (L.getD (frm + k * 8 + i) zeroSec).now = List.replicate 64 0
  | some q => SegDev L (frm + k * 8) q.gen q.base (encRs q.rs) q.rn ∧ q.ok ∧ (q.gen - 1) % segs = k
/-- The device of a log: all its places. -/
structure OnDev (L : List Sec) (frm segs M : Nat) (P : Nat → Option PSeg) : Prop where
  slot : ∀ k, k < segs → SlotIs L frm segs k (P k)
  run : ∀ i, frm ≤ i → i < frm + segs * 8 → runOf (L.getD i zeroSec) ≤ M
def present (P : Nat → Option PSeg) (n : Nat) : List PSeg := (List.range n).filterMap P
/-- What a segment says. -/
structure PS where
  gen : Nat
  base : Nat
  rs : List Rcd
def Sg.ps (s : Sg) : PS := ⟨s.gen, s.base, s.rs⟩
def PSeg.ps (q : PSeg) : PS := ⟨q.gen, q.base, q.rs⟩
def nextPos (l : List Sg) : Nat := match l.getLast? with
  | none => 1
  | some s => match s.rs.getLast? with
    | none => s.base + 64
    | some r => r.1 + 1 + 64
theorem present_succ (P : Nat → Option PSeg) (k : Nat) : present P (k + 1) = present P k ++ (P k).toList := by
  unfold present
  rw [List.range_succ, List.filterMap_append]
  cases h : P k <;> simp [h]
theorem present_mono (P : Nat → Option PSeg) {k n : Nat} (h : k ≤ n) : (present P k).length ≤ (present P n).length := by
  induction n with
  | zero => have : k = 0 := by omega
            subst this; exact Nat.le_refl _
  | succ n ih =>
    by_cases h2 : k = n + 1
    · subst h2; exact Nat.le_refl _
    · rw [present_succ, List.length_append]; have := ih (by omega); omega
theorem LogAt.reblk {w w' : World} {B lb d frm segs nx run nx' run' : Nat} {fr fr' : Bool} {vl : Value} {l : List Sg} (h : LogAt w B lb d frm segs nx run fr vl l) (k : Keep [lb] w w') (hb : Blk w' lb (lgC d (frm : Int) (segs : Int) vl (nx' : Int) (run' : Int) fr') 75) :
    LogAt w' B lb d frm segs nx' run' fr' vl l := by
  refine ⟨hb, h.row.keep k (fun q hq hm => ?_), h.nd, h.new⟩
  simp only [List.mem_singleton] at hm
  subst hm
  have t1 := h.blk.ty
  rcases List.mem_append.1 hq with hq | hq
  · exact t1.ne (h.row.own.ty _ (Option.mem_toList.1 hq)) (by decide) rfl
  · obtain ⟨s, hs, hq⟩ := List.mem_flatMap.1 hq
    rcases (h.row.ok s hs).ty _ hq with t | t | t
    · exact t1.ne t (by decide) rfl
    · exact t1.ne t (by decide) rfl
    · exact t1.ne t (by decide) rfl
theorem recs_len : ∀ (l : List Rcd), (∀ r ∈ l, r.ok) → 9 * l.length ≤ (encRs l).length
  | [], _ => by simp [encRs]
  | r :: l, h => by
    have ih := recs_len l (fun x hx => h x (by simp [hx]))
    have h1 := (h r (by simp)).1
    have e : encRs (r :: l) = encR r ++ encRs l := by simp [encRs]
    rw [e, List.length_append, encR_len, List.length_cons]
    omega
theorem LogAt.perm {w w' : World} {B lb d frm segs nx run : Nat} {fr : Bool} {vl : Value} {l m : List Sg} (h : LogAt w B lb d frm segs nx run fr vl l) (k : Keep vl.ownBlock.toList w w') (hO : Own w' B 76 vl (m.map sgPtr)) (hp : m.Perm l) : LogAt w' B lb d frm segs nx run fr vl m := by
  have hv := h.row.own.ty
  refine ⟨h.blk.keep k (fun hm => h.blk.ty.ne (hv lb (Option.mem_toList.1 hm)) (by decide) rfl), ⟨hO, fun s hs => ?_⟩, ?_, h.new⟩
  · have hA := h.row.ok s (hp.mem_iff.1 hs)
    refine hA.keep k (fun q hq hm => ?_)
    have t0 := hv q (Option.mem_toList.1 hm)
    rcases hA.ty q hq with t | t | t
    · exact t0.ne t (by decide) rfl
    · exact t0.ne t (by decide) rfl
    · exact t0.ne t (by decide) rfl
  · exact ((hp.flatMap_right Sg.F).nodup_iff).2 h.nd
theorem ps_mem {l : List Sg} {m : List PSeg} (h : l.map Sg.ps = m.map PSeg.ps) : ∀ s ∈ l, ∃ q ∈ m, s.gen = q.gen ∧ s.base = q.base ∧ s.rs = q.rs := by
  intro s hs
  have h1 : s.ps ∈ m.map PSeg.ps := by rw [← h]; exact List.mem_map.2 ⟨s, hs, rfl⟩
  obtain ⟨q, hq, he⟩ := List.mem_map.1 h1
  unfold Sg.ps PSeg.ps at he
  injection he with e1 e2 e3
  exact ⟨q, hq, e1.symm, e2.symm, e3.symm⟩
theorem present_mem {P : Nat → Option PSeg} {n : Nat} {q : PSeg} (h : q ∈ present P n) : ∃ k, k < n ∧ P k = some q := by
  unfold present at h
  obtain ⟨k, hk, hp⟩ := List.mem_filterMap.1 h
  exact ⟨k, List.mem_range.1 hk, hp⟩
section
variable {w : World} {d sb c frm segs M : Nat} {L : List Sec} {P : Nat → Option PSeg}
set_option maxHeartbeats 16000000 in
theorem open_any (hd : IsDev w d sb L c) (hsg : 3 ≤ segs ∧ segs ≤ 200) (hlt : frm + segs * 8 ≤ L.length) (hP : OnDev L frm segs M P) (hM : M < 4294967200) (hn : (present P segs).length ≤ 12) (hgen : ∀ a ∈ present P segs, ∀ b ∈ present P segs, b.gen < a.gen + segs) :
    Calls Try.prog 17 #[.pointer (some ⟨d, 0, none⟩), .int .i64 (frm : Int), .int .i64 (segs : Int)] w fun e w' => ∃ lb vl l run, e = .returned (.tuple #[.pointer (some ⟨lb, 0, none⟩), .int .i64 0]) ∧ LogAt w' w.heap.size lb d frm segs (nextPos l) run true vl l ∧
      l.Pairwise SgLe ∧ (l.map Sg.ps).Perm ((present P segs).map PSeg.ps) ∧ 1 ≤ run ∧ run ≤ M + 1 ∧ (∀ i, frm ≤ i → i < frm + segs * 8 → runOf (L.getD i zeroSec) < run) ∧ Keep [] w w' := by
  obtain ⟨iP, hiP, hzP0, hzP1, hzP2⟩ := info_parts Try.infoPs
  have hmx := hd.max
  have hfr : frm ≤ 2048 := by omega
  have HP := Lib.hid hP
  have HM := Lib.hid hM
  have HN := Lib.hid hn
  have HGEN := Lib.hid hgen
  have HSG := Lib.hid hsg
  have HFR := Lib.hid (show frm ≤ 2048 from hfr)
  have HLT := Lib.hid hlt
  have HMX := Lib.hid hmx
  -- the cell of the number of segments
  have hb5 := Blk.new w [.int .i64 (segs : Int)] 3
  have K5 := (Keep.refl [] w).alloc (.cells #[.int .i64 (segs : Int)] 3)
  simp only [List.toArray] at hb5
  have hd1 := hd.keep K5 (by simp) (by simp)
  clear hP hM hn hgen hmx hd
  go_enter Try.func17, Try.ntmps17
  go_upto_region 3 with fail
  obtain ⟨c5, hc5⟩ : ∃ c5, c5 = w.heap.size := ⟨_, rfl⟩
  rw [← hc5] at hb5 ⊢
  generalize w.alloc (.cells #[.int .i64 (segs : Int)] 3) = w1 at *
  have HK5 := Lib.hid K5
  have HC5 := Lib.hid hc5
  have k5 := hb5.cell 0
  simp only [List.getElem?_cons_zero] at k5
  have q1 : decide ((segs : Int) < 3) = false := decide_eq_false (by omega)
  have q2 : decide ((segs : Int) > 200) = false := decide_eq_false (by omega)
  have q1' : decide (segs < 3) = false := decide_eq_false (by omega)
  have q2' : decide (200 < segs) = false := decide_eq_false (by omega)
  have q3 : decide ((frm : Int) < 0) = false := decide_eq_false (by omega)
  have q4 : decide ((frm : Int) > (L.length : Int) - (segs : Int) * 8) = false := decide_eq_false (by omega)
  have q4w : ¬ (wrap64 ((L.length : Int) - (segs : Int) * 8) < (frm : Int)) := by have := HMX.out; unfold wrap64; omega
  have q4x : decide (wrap64 ((L.length : Int) - (segs : Int) * 8) < (frm : Int)) = false := decide_eq_false q4w
  have q4' : ¬ ((L.length : Int) - (segs : Int) * 8 < (frm : Int)) := by omega
  have HLEN : Hid (∀ W, IsDev W d sb L c → Calls Try.prog 27 #[.pointer (some ⟨d, 0, none⟩)] W fun e w' => e = .returned (.int .i64 (L.length : Int)) ∧ w' = W) := Lib.hid (fun W h => (Len_any h).mono (fun _ _ ⟨a, b⟩ => ⟨a, b.symm⟩))
  have HD1 := Lib.hid hd1
  clear K5 hc5 hd1
  go_quiet ((go_at_call 27; exact Calls.quiet_of_same (HLEN.out _ (HD1.out.keep (drewnK (Keep.refl [] _) _) (by simp) (by simp)))))
  have hd2 := HD1.out.keep (drewnK (Keep.refl [] w1) nq) (by simp) (by simp)
  have hb52 := hb5.keep (drewnK (Keep.refl [] w1) nq) (by simp)
  have HK2 := Lib.hid (drewnK HK5.out nq)
  generalize w1.drewN nq = w2 at *
  clear hb5 HD1 HK5 k5
  have k5 := hb52.cell 0
  simp only [List.getElem?_cons_zero] at k5
  go_upto_region 6 with fail
  clear q1 q2 q3 q4 q1' q2' q4' q4w q4x
  have hbl := Blk.new w2 (lgC d (frm : Int) (segs : Int) nilS 1 1 true) 75
  have KL := (Keep.refl [] w2).alloc (.cells (lgC d (frm : Int) (segs : Int) nilS 1 1 true).toArray 75)
  rw [show (#[.pointer (some ⟨d, 0, none⟩), .int .i64 (frm : Int), .int .i64 (segs : Int), .slice none 0 0, .int .i64 1, .int .i64 1, .bool true] : Array Value) = (lgC d (frm : Int) (segs : Int) nilS 1 1 true).toArray from rfl]
  obtain ⟨lb, hlb⟩ : ∃ lb, lb = w2.heap.size := ⟨_, rfl⟩
  rw [← hlb] at hbl ⊢
  generalize w2.alloc (.cells (lgC d (frm : Int) (segs : Int) nilS 1 1 true).toArray 75) = w3 at *
  have hlog3 : LogAt w3 w.heap.size lb d frm segs 1 1 true nilS [] := ⟨hbl, SgRow.nil _ _, List.nodup_nil, by have := HK2.out.size; omega⟩
  have HLOG3 := Lib.hid hlog3
  have HD3 := Lib.hid (hd2.keep KL (by simp) (by simp))
  have hb53 := hb52.keep KL (by simp)
  have HB53 := Lib.hid hb53
  have HK3 := Lib.hid (HK2.out.trans KL)
  have k5 := hb53.cell 0
  simp only [List.getElem?_cons_zero] at k5
  clear hbl KL hlb hlog3 hb52 hb53 hd2 HK2
  have HNE5 : Hid (c5 ≠ lb) := Lib.hid (HB53.out.ty.ne HLOG3.out.blk.ty (by decide))
  go_wp2_with fail
  go_loopw [43] (fun s43 wr => ∃ (k : Nat) (vl : Value) (acc : List Sg) (run : Nat), s43 = .int .i64 (k : Int) ∧ k ≤ segs ∧ LogAt wr w.heap.size lb d frm segs 1 run true vl acc ∧ acc.map Sg.ps = (present P k).map PSeg.ps ∧ 1 ≤ run ∧ run ≤ M + 1 ∧ (∀ i, frm ≤ i → i < frm + k * 8 → runOf (L.getD i zeroSec) < run) ∧ IsDev wr d sb L c ∧ Blk wr c5 [.int .i64 (segs : Int)] 3 ∧ Keep [] w wr) (fun x _ => segs + 1 - (intOf x).toNat)
  case atStart => exact ⟨0, nilS, [], 1, rfl, Nat.zero_le _, HLOG3.out, rfl, by omega, by omega, fun i _ _ => by omega, HD3.out, HB53.out, HK3.out⟩
  case round =>
  obtain ⟨k, vl, acc, run, rfl, hk, hlog, hps, hr1, hrM, hrun, hdr, hb5r, hKr⟩ := hrel
  have HLOG := Lib.hid hlog
  have HPS := Lib.hid hps
  have HRUN := Lib.hid hrun
  have HR1 := Lib.hid (And.intro hr1 hrM)
  have HDR := Lib.hid hdr
  have HB5R := Lib.hid hb5r
  have HKR := Lib.hid hKr
  by_cases hkl : k < segs
  · have q5 : decide ((k : Int) < (segs : Int)) = true := decide_eq_true (by omega)
    have HKL := Lib.hid hkl
    have hslot := HP.out.slot k hkl
    have haL : frm + k * 8 + 8 ≤ L.length := by omega
    have HAL := Lib.hid haL
    clear hlog hps hrun hdr hKr hr1 hrM k5 haL hb5r
    cases hPk : P k with
    | none =>
      rw [hPk] at hslot
      have HSL := Lib.hid hslot
      have HPK := Lib.hid hPk
      clear hslot hPk
      go_wp2_with fail
      refine (read_none HDR.out frm segs vl 1 (run : Int) true HLOG.out.blk k (frm + k * 8) ⟨HKL.out, HSG.out.2, by omega⟩ rfl HAL.out HSL.out ⟨by have := HR1.out; omega, by have := HR1.out; have := HM.out; omega⟩).mono ?_
      rintro e w4 ⟨rfl, hb4, k4⟩
      have HLOG4 := Lib.hid (HLOG.out.reblk (nx' := 1) (run' := run) (fr' := true) k4 hb4)
      have HK4 := Lib.hid k4
      clear hb4 k4
      go_wp2_with fail
      go_roundw
      case rel =>
        refine ⟨k + 1, vl, acc, run, by go_num, by omega, HLOG4.out, ?_, HR1.out.1, HR1.out.2, ?_, ?_, ?_, ?_⟩
        · rw [present_succ, HPK.out, HPS.out]; simp
        · intro i h1 h2
          by_cases h3 : i < frm + k * 8
          · exact HRUN.out i h1 h3
          · have e : L.getD i zeroSec = L.getD (frm + k * 8 + (i - (frm + k * 8))) zeroSec := by congr 1; omega
            rw [e]
            unfold runOf
            rw [HSL.out _ (by omega)]
            have := HR1.out.1
            rw [show unbe (((List.replicate 64 0).drop 10).take 4) = 0 by decide]
            omega
        · exact HDR.out.keep HK4.out (by simp; exact HDR.out.dev.ty.ne HLOG.out.blk.ty (by decide)) (by simp; exact HDR.out.secs.ty.ne HLOG.out.blk.ty (by decide))
        · exact HB5R.out.keep HK4.out (by simp; exact HNE5.out)
        · exact HKR.out.then HK4.out (by intro x hx hlt; simp at hx; have := HLOG.out.new; omega)
      case measure => simp only [intOf]; omega
    | some q =>
      rw [hPk] at hslot
      obtain ⟨hsd, hqok, hgk⟩ := hslot
      have HPK := Lib.hid hPk
      have HQ := Lib.hid hqok
      have HRD := Lib.hid (@read_some wr d sb lb c L HDR.out frm segs vl 1 (run : Int) true HLOG.out.blk k (frm + k * 8) M q.gen q.base q.rs q.rn ⟨HKL.out, HSG.out.2, by omega⟩ rfl HAL.out hsd hqok.recs hqok.room ⟨hqok.gen.1, hqok.gen.2, hqok.base⟩ hgk ⟨by omega, by have := HR1.out; have := HM.out; omega⟩ ⟨by have := HM.out; omega, fun i hi => HP.out.run _ (by omega) (by have := HKL.out; omega)⟩)
      obtain ⟨a, cap, hvl⟩ := HLOG.out.slice
      subst hvl
      clear hsd hqok hgk hPk
      go_wp2_with fail
      refine HRD.out.mono ?_
      rintro e w4 ⟨p, vb, vr, Lr, run2, rr, rfl, hLr, hS4, hB4, hR4, hp4, hb4, hr12, hr2M, hr2, k4, hnd4⟩
      obtain ⟨r2, rfl⟩ : ∃ n : Nat, run2 = (n : Int) := ⟨run2.toNat, by omega⟩
      have hlog4 := HLOG.out.reblk (nx' := 1) (run' := r2) (fr' := true) k4 hb4
      have hsz4 := k4.size
      have hseg4 : SgAt w4 w.heap.size ⟨p, q.gen, q.base, rr, vb, vr, Lr⟩ := ⟨hS4, by
        have e : Sg.rs ⟨p, q.gen, q.base, rr, vb, vr, Lr⟩ = q.rs := hLr
        rw [e]
        exact hB4.mono HKR.out.size, hR4.mono HKR.out.size, Nat.le_trans HKR.out.size hp4, hnd4⟩
      have HSEG4 := Lib.hid hseg4
      have HLOG4 := Lib.hid hlog4
      have HK4 := Lib.hid k4
      have HLR := Lib.hid hLr
      have HP4 := Lib.hid hp4
      have HR2 := Lib.hid (show run ≤ r2 ∧ r2 ≤ M + 1 from by have := HR1.out; constructor <;> omega)
      have HR2B := Lib.hid hr2
      have hbF : ∀ x ∈ (Sg.mk p q.gen q.base rr vb vr Lr).F, wr.heap.size ≤ x := by
        intro x hx
        unfold Sg.F at hx
        rcases List.mem_cons.1 hx with rfl | hx
        · exact hp4
        · rcases List.mem_append.1 hx with hx | hx
          · exact (hB4.lt x (Option.mem_toList.1 hx)).1
          · exact (hR4.lt x hx).1
      have HBF := Lib.hid hbF
      have hlenacc : acc.length ≤ 12 := by
        have h1 : acc.length = (present P k).length := by have := congrArg List.length HPS.out; simpa using this
        have h2 := present_mono P (Nat.le_of_lt HKL.out)
        have h3 := HN.out
        omega
      have HLA := Lib.hid hlenacc
      have HNV : Hid (lb ∉ (Value.slice a acc.length cap).ownBlock.toList) := Lib.hid (fun hm => hlog4.blk.ty.ne (hlog4.row.own.ty lb (Option.mem_toList.1 hm)) (by decide) rfl)
      have c3 := lg_3 hlog4.blk
      have hszw : w.heap.size ≤ w4.heap.size := Nat.le_trans HKR.out.size hsz4
      have HSZW := Lib.hid hszw
      clear hLr hS4 hB4 hR4 hp4 hb4 hr12 hr2M hr2 k4 hnd4 hlog4 hseg4 hbF HRD hsz4
      go_wp2_with (at_builtin; refine wpList_append_src _ rfl _ _ 73 73 rfl w.heap.size 76 iP (.pointer none) 1 8 Try.underlying73 hiP hzP0 hzP1 hzP2 rfl (by decide) (.slice a acc.length cap) acc.length (acc.map sgPtr) rfl (own_n (HLOG4.out.row.own.alloc (.cells #[.pointer (some ⟨p, 0, none⟩)] 76))) _ 1 _ rfl (src_cell Try.underlying73 w4 (.pointer (some ⟨p, 0, none⟩)) rfl 76 _ rfl) (by unfold maxLen; omega) (by omega) (by simp; omega) ?_; intro v1 w5 g2 g3 _ g4; obtain ⟨a5, cp5, rfl⟩ := ownsRow_slice g2; have kk5 := Keep.grown g3; have hbl5 := (HLOG4.out.blk.alloc (.cells #[.pointer (some ⟨p, 0, none⟩)] 76)).keep kk5 HNV.out; have c3' := lg_3 hbl5; have f3' := hbl5.free 3)
      have hS5 := (own_n1 g2)
      have hset := hbl5.set 3 (.slice a5 (acc.length + 1) cp5)
      have KW : Keep (lb :: (Value.slice a acc.length cap).ownBlock.toList) w4 (w5.setCell ⟨lb, 3, none⟩ (.slice a5 (acc.length + 1) cp5)) :=
        ((((Keep.refl [] w4).alloc (.cells #[.pointer (some ⟨p, 0, none⟩)] 76)).mono (by simp)).trans (kk5.mono (fun q hq _ => List.mem_cons_of_mem _ hq))).setCell (.inl (by simp)) _
      have hnot : ∀ {b : Nat} {T : TypeId}, Ty w4 b T → T ≠ 75 → T ≠ 76 → b ∉ lb :: (Value.slice a acc.length cap).ownBlock.toList := by
        intro b T ht h1 h2 hm
        rcases List.mem_cons.1 hm with h | h
        · exact ht.ne HLOG4.out.blk.ty h1 h
        · exact ht.ne (HLOG4.out.row.own.ty b (Option.mem_toList.1 h)) h2 rfl
      have hnotS : ∀ s, SgAt w4 w.heap.size s → ∀ q ∈ s.F, q ∉ lb :: (Value.slice a acc.length cap).ownBlock.toList := by
        intro s hs q hq
        rcases hs.ty q hq with t | t | t
        · exact hnot t (by decide) (by decide)
        · exact hnot t (by decide) (by decide)
        · exact hnot t (by decide) (by decide)
      have hOW := hS5.keep ((Keep.refl [lb] w5).setCell (p := ⟨lb, 3, none⟩) (.inl (by simp)) (.slice a5 (acc.length + 1) cp5)) (fun q hq hm => by
        simp only [List.mem_singleton] at hm
        subst hm
        exact hbl5.ty.ne (hS5.ty _ hq) (by decide) rfl)
      have HOW := Lib.hid hOW
      have HSETT := Lib.hid hset
      have HKW := Lib.hid KW
      have HNOTS := Lib.hid hnotS
      have HD4 : Hid (IsDev w4 d sb L c) := Lib.hid (HDR.out.keep HK4.out (by simp; exact HDR.out.dev.ty.ne HLOG.out.blk.ty (by decide)) (by simp; exact HDR.out.secs.ty.ne HLOG.out.blk.ty (by decide)))
      have HDW := Lib.hid (HD4.out.keep KW (hnot HD4.out.dev.ty (by decide) (by decide)) (hnot HD4.out.secs.ty (by decide) (by decide)))
      have HB54 := Lib.hid (HB5R.out.keep HK4.out (by simp; exact HNE5.out))
      have HB5W := Lib.hid (HB54.out.keep KW (hnot HB54.out.ty (by decide) (by decide)))
      clear hS5 hset KW hnot hnotS hOW g2 g3 g4 kk5 hbl5 c3' f3'
      go_roundw
      case rel =>
        refine ⟨k + 1, _, acc ++ [⟨p, q.gen, q.base, rr, vb, vr, Lr⟩], r2, by go_num, by omega, ⟨HSETT.out, ⟨?_, ?_⟩, ?_, HLOG.out.new⟩, ?_, by have := HR1.out; have := HR2.out; omega, HR2.out.2, ?_, HDW.out, HB5W.out, ?_⟩
        · rw [List.map_append]; exact HOW.out
        · intro s hs
          rcases List.mem_append.1 hs with hs | hs
          · exact (HLOG4.out.row.ok s hs).keep HKW.out (HNOTS.out s (HLOG4.out.row.ok s hs))
          · simp only [List.mem_cons, List.not_mem_nil, or_false] at hs
            subst hs
            exact HSEG4.out.keep HKW.out (HNOTS.out _ HSEG4.out)
        · unfold sgF
          rw [List.flatMap_append, List.flatMap_cons, List.flatMap_nil, List.append_nil, List.nodup_append]
          refine ⟨HLOG4.out.nd, HSEG4.out.nd, fun x hx y hy e => ?_⟩
          subst e
          have h1 := HBF.out x hy
          have h2 := (HLOG.out.lt x (List.mem_cons_of_mem _ (List.mem_append_right _ hx))).2
          omega
        · rw [List.map_append, HPS.out, present_succ, HPK.out, List.map_append]
          congr 1
          simp [Sg.ps, PSeg.ps, Sg.rs, HLR.out]
        · intro i h1 h2
          by_cases h3 : i < frm + k * 8
          · have := HRUN.out i h1 h3; have := HR2.out; omega
          · have h4 := HR2B.out (i - (frm + k * 8)) (by omega)
            have e : frm + k * 8 + (i - (frm + k * 8)) = i := by omega
            rw [e] at h4
            omega
        · have h1 := HKR.out.then HK4.out (S' := [lb]) (by intro x hx hlt; simp at hx; have := HLOG.out.new; omega)
          exact h1.then HKW.out (fun x hx hlt => by
            rcases List.mem_cons.1 hx with h | h
            · have := HLOG.out.new; omega
            · have := (HLOG4.out.row.own.lt x (Option.mem_toList.1 h)).1; omega)
      case measure => simp only [intOf]; omega
  · obtain rfl : k = segs := by omega
    have q5 : decide ((k : Int) < (k : Int)) = false := by simp
    obtain ⟨a, cap, hvl⟩ := hlog.slice
    subst hvl
    have hlenacc : acc.length ≤ 12 := by
      have h1 : acc.length = (present P k).length := by have := congrArg List.length hps; simpa using this
      have h3 := HN.out
      omega
    have HLA := Lib.hid hlenacc
    have c3 := lg_3 hlog.blk
    have hGs : ∀ s ∈ acc, HasGen wr s := by
      intro s hs
      have hA := hlog.row.ok s hs
      obtain ⟨q, hq, e1, _, _⟩ := ps_mem hps s hs
      obtain ⟨j, hj, hPj⟩ := present_mem hq
      have hsl := HP.out.slot j hj
      rw [hPj] at hsl
      exact ⟨seg_0 hA.blk, hA.blk.ty, by rw [e1]; exact hsl.2.1.gen.2⟩
    have HGSS := Lib.hid hGs
    have HSORT := Lib.hid (sort_any hlog.row.own hGs hlenacc)
    unfold CMP at HSORT
    clear hlog hps hrun hdr hKr hr1 hrM k5 hb5r hGs
    go_wp2_with fail
    refine HSORT.out.mono ?_
    rintro e w4 ⟨rfl, m, hm, hOm, k4⟩
    have hlog4 := HLOG.out.perm k4 hOm hm.1
    have hnotv : ∀ {b : Nat} {T : TypeId}, Ty wr b T → T ≠ 76 → b ∉ (Value.slice a acc.length cap).ownBlock.toList := by
      intro b T ht h1 hq
      exact ht.ne (HLOG.out.row.own.ty b (Option.mem_toList.1 hq)) h1 rfl
    have HD4 := Lib.hid (HDR.out.keep k4 (hnotv HDR.out.dev.ty (by decide)) (hnotv HDR.out.secs.ty (by decide)))
    have hb54 := HB5R.out.keep k4 (hnotv HB5R.out.ty (by decide))
    have HK4 : Hid (Keep [] w w4) := Lib.hid (HKR.out.then k4 (fun x hx hlt => by have := (HLOG.out.row.own.lt x (Option.mem_toList.1 hx)).1; omega))
    have hml : acc.length = m.length := hm.1.length_eq.symm
    have HPERM : Hid ((m.map Sg.ps).Perm ((present P k).map PSeg.ps)) := Lib.hid (by rw [← HPS.out]; exact hm.1.map _)
    have HPW := Lib.hid hm.2
    have HMA := Lib.hid hm.1
    have HLOG4 := Lib.hid hlog4
    have HB54 := Lib.hid hb54
    rw [hml] at hlog4 HLOG4 hlenacc
    have HML := Lib.hid hml
    have c3 := lg_3 hlog4.blk
    clear hm hOm k4 hnotv hlog4 hb54 c3
    have c3 := lg_3 HLOG4.out.blk
    rw [hml]
    clear hml
    by_cases hnil : m = []
    · have hz : m.length = 0 := by rw [hnil]; rfl
      have hz2 : ¬ 0 < m.length := by omega
      have HNIL := Lib.hid hnil
      clear hnil
      go_wp2_with fail
      go_ret2
      refine ⟨lb, .slice a m.length cap, m, run, rfl, ?_, HPW.out, HPERM.out, HR1.out.1, HR1.out.2, HRUN.out, HK4.out⟩
      have hnp : nextPos m = 1 := by rw [HNIL.out]; rfl
      rw [hnp]
      exact HLOG4.out
    · have hpos : 0 < m.length := List.length_pos_iff.2 hnil
      obtain ⟨s, hsi⟩ : ∃ s, m[m.length - 1]? = some s := ⟨_, List.getElem?_eq_getElem (by omega)⟩
      have hgl : m.getLast? = some s := by rw [List.getLast?_eq_getElem?]; exact hsi
      obtain ⟨ba, cap', hv, c0⟩ := HLOG4.out.seg_at _ s hsi
      injection hv with hv hv2 hv3
      subst hv hv3
      have hsm : s ∈ m := List.mem_of_getElem? hsi
      have HGL := Lib.hid hgl
      have HSM := Lib.hid hsm
      have HPOS := Lib.hid hpos
      clear hv2 hsi hgl hsm hnil
      go_upto_region 17 with fail
      have hb12 := Blk.new w4 [.pointer (some ⟨s.p, 0, none⟩)] 76
      have K12 := (Keep.refl [] w4).alloc (.cells #[.pointer (some ⟨s.p, 0, none⟩)] 76)
      simp only [List.toArray] at hb12
      obtain ⟨c12, hc12⟩ : ∃ c12, c12 = w4.heap.size := ⟨_, rfl⟩
      rw [← hc12] at hb12 ⊢
      generalize w4.alloc (.cells #[.pointer (some ⟨s.p, 0, none⟩)] 76) = w5 at *
      have HLOG5 := Lib.hid (HLOG4.out.still K12)
      have HB55 := Lib.hid (HB54.out.keep K12 (by simp))
      have HB12 := Lib.hid hb12
      have HK5 := Lib.hid (HK4.out.trans K12)
      have HC12 := Lib.hid hc12
      have HC12N : Hid (c12 ≠ lb ∧ c5 ≠ lb) := Lib.hid ⟨by have := (HLOG4.out.lt lb (by simp [lgF])).2; omega, HNE5.out⟩
      have hgens : ∀ x ∈ m, decide ((x.gen : Int) ≤ (s.gen : Int) - (k : Int)) = false := by
        intro x hx
        have h1 : x.ps ∈ (present P k).map PSeg.ps := HPERM.out.mem_iff.1 (List.mem_map.2 ⟨x, hx, rfl⟩)
        have h2 : s.ps ∈ (present P k).map PSeg.ps := HPERM.out.mem_iff.1 (List.mem_map.2 ⟨s, HSM.out, rfl⟩)
        obtain ⟨q1, hq1, e1⟩ := List.mem_map.1 h1
        obtain ⟨q2, hq2, e2⟩ := List.mem_map.1 h2
        have g1 : q1.gen = x.gen := congrArg PS.gen e1
        have g2 : q2.gen = s.gen := congrArg PS.gen e2
        have := HGEN.out q1 hq1 q2 hq2
        exact decide_eq_false (by omega)
      have hgb : ∀ x ∈ m, x.gen < 281474976710656 := fun x hx => (HGSS.out x (HMA.out.mem_iff.1 hx)).2.2
      have HDEL := Lib.hid (@delete_open w5 w.heap.size c12 c5 (.slice (some ⟨ba, 0, none⟩) m.length cap) m (fun g => decide ((g : Int) ≤ (s.gen : Int) - (k : Int))) HLOG5.out.row.own (fun W kW x hx => by
        have hA := HLOG5.out.row.ok x hx
        have hB := HLOG5.out.row.ok s HSM.out
        exact del_open (kW.cell1 (seg_0 hA.blk) (by simp)) (kW.cell1 (seg_0 hB.blk) (by simp)) (kW.cell1 (HB12.out.cell 0) (by simp)) (kW.cell1 (HB55.out.cell 0) (by simp)) ⟨hgb x hx, hgb s HSM.out, HSG.out.2⟩) (by omega) hgens)
      unfold fnV at HDEL
      have c3 := lg_3 HLOG5.out.blk
      clear hb12 K12 hc12 c0 hgens hgb HB54 k5
      go_wp2_with fail
      refine HDEL.out.mono ?_
      rintro e w6 ⟨rfl, k6⟩
      have HLOG6 := Lib.hid (HLOG5.out.still k6)
      have HB126 := Lib.hid (HB12.out.keep k6 (by simp))
      have HK6 := Lib.hid (HK5.out.trans k6)
      clear k6 c3
      have c3 := lg_3 HLOG6.out.blk
      have f3 := HLOG6.out.blk.free 3
      have hblk6 := HLOG6.out.blk.set 3 (.slice (some ⟨ba, 0, none⟩) m.length cap)
      have hlog7 := HLOG6.out.setC (nx' := 1) (run' := run) (fr' := true) 3 (.slice (some ⟨ba, 0, none⟩) m.length cap) hblk6
      have HLOG7 := Lib.hid hlog7
      have HK7 := Lib.hid ((HK6.out.mono (S' := [lb]) (by simp)).setCell (p := ⟨lb, 3, none⟩) (.inl (by simp)) (.slice (some ⟨ba, 0, none⟩) m.length cap))
      have hb127 := HB126.out.keep ((Keep.refl [lb] w6).setCell (p := ⟨lb, 3, none⟩) (.inl (by simp)) (.slice (some ⟨ba, 0, none⟩) m.length cap)) (by simp; exact HC12N.out.1)
      have HB127 := Lib.hid hb127
      clear hblk6 hlog7 hb127
      go_upto_region 18 with fail
      clear c3 f3
      generalize w6.setCell ⟨lb, 3, none⟩ (.slice (some ⟨ba, 0, none⟩) m.length cap) = w7 at *
      have k12 := HB127.out.cell 0
      simp only [List.getElem?_cons_zero] at k12
      have hs7 := HLOG7.out.row.ok s HSM.out
      have g1 := seg_1 hs7.blk
      have hbs : s.base < 281474976710656 := by
        have h2 : s.ps ∈ (present P k).map PSeg.ps := HPERM.out.mem_iff.1 (List.mem_map.2 ⟨s, HSM.out, rfl⟩)
        obtain ⟨q2, hq2, e2⟩ := List.mem_map.1 h2
        obtain ⟨j, hj, hPj⟩ := present_mem hq2
        have hsl := HP.out.slot j hj
        rw [hPj] at hsl
        have e3 : q2.base = s.base := congrArg PS.base e2
        rw [← e3]; exact hsl.2.1.base
      have hsr : ∀ r ∈ s.rs, r.ok := by
        have h2 : s.ps ∈ (present P k).map PSeg.ps := HPERM.out.mem_iff.1 (List.mem_map.2 ⟨s, HSM.out, rfl⟩)
        obtain ⟨q2, hq2, e2⟩ := List.mem_map.1 h2
        obtain ⟨j, hj, hPj⟩ := present_mem hq2
        have hsl := HP.out.slot j hj
        rw [hPj] at hsl
        have e3 : q2.rs = s.rs := congrArg PS.rs e2
        rw [← e3]; exact hsl.2.1.recs
      have HSR := Lib.hid hsr
      have hroom : (encRs s.rs).length ≤ 378 := by
        have h2 : s.ps ∈ (present P k).map PSeg.ps := HPERM.out.mem_iff.1 (List.mem_map.2 ⟨s, HSM.out, rfl⟩)
        obtain ⟨q2, hq2, e2⟩ := List.mem_map.1 h2
        obtain ⟨j, hj, hPj⟩ := present_mem hq2
        have hsl := HP.out.slot j hj
        rw [hPj] at hsl
        have e3 : q2.rs = s.rs := congrArg PS.rs e2
        rw [← e3]; exact hsl.2.1.room
      have HSROOM := Lib.hid hroom
      clear hroom
      have c4 := lg_4 HLOG7.out.blk
      have f4 := HLOG7.out.blk.free 4
      have hblk8 := HLOG7.out.blk.set 4 (.int .i64 ((s.base : Int) + 64))
      have HLOG8 := Lib.hid (HLOG7.out.setC (nx' := s.base + 64) (run' := run) (fr' := true) 4 (.int .i64 ((s.base : Int) + 64)) hblk8)
      have KK8 := (Keep.refl [lb] w7).setCell (p := ⟨lb, 4, none⟩) (.inl (by simp)) (.int .i64 ((s.base : Int) + 64))
      have HK8 := Lib.hid (HK7.out.trans KK8)
      have HB128 := Lib.hid (HB127.out.keep KK8 (by simp; exact HC12N.out.1))
      clear hs7 hblk8 KK8 hsr
      go_upto_region 19 with fail
      clear k12 g1 c4 f4 hbs
      generalize w7.setCell ⟨lb, 4, none⟩ (.int .i64 ((s.base : Int) + 64)) = w8 at *
      have k12 := HB128.out.cell 0
      simp only [List.getElem?_cons_zero] at k12
      have hs8 := HLOG8.out.row.ok s HSM.out
      have g4 := seg_4 hs8.blk
      obtain ⟨ra, rcap, hvr⟩ := hs8.recs.slice
      rw [hvr] at g4
      have HVR := Lib.hid hvr
      have HS8 := Lib.hid hs8
      have HKF : Hid (∀ W, Keep [lb] w8 W → Keep [] w W) := Lib.hid (fun W kW => by
        exact (HK8.out.trans kW).mono (fun x hx hlt => by simp at hx; have := HLOG8.out.new; omega))
      clear hs8 hvr
      rcases List.eq_nil_or_concat s.recs with hr0 | ⟨R, y, hr0⟩
      · have hz : s.recs.length = 0 := by rw [hr0]; rfl
        have hz2 : ¬ 0 < s.recs.length := by omega
        have HR0 := Lib.hid hr0
        clear hr0
        go_wp2_with fail
        go_ret2
        refine ⟨lb, .slice (some ⟨ba, 0, none⟩) m.length cap, m, run, rfl, ?_, HPW.out, HPERM.out, HR1.out.1, HR1.out.2, HRUN.out, HKF.out _ (Keep.refl _ _)⟩
        have hnp : nextPos m = s.base + 64 := by unfold nextPos; rw [HGL.out]; simp [Sg.rs, HR0.out]
        rw [hnp]
        exact HLOG8.out
      · rw [List.concat_eq_append] at hr0
        have hln : s.recs.length = R.length + 1 := by rw [hr0]; simp
        have hy : s.recs[R.length]? = some y := by rw [hr0]; simp
        have hym : y ∈ s.recs := List.mem_of_getElem? hy
        obtain ⟨g, gc, hg, p0, p1⟩ := HS8.out.recs.at_ R.length (by omega)
        rw [HVR.out] at hg
        injection hg with hg1 hg2 hg3
        subst hg1 hg3
        rw [(List.getElem?_eq_some_iff.1 hy).2] at p0
        rw [hln] at g4
        have hyb : y.r.1 < 281474976710656 := (HSR.out y.r (List.mem_map.2 ⟨y, hym, rfl⟩)).2.2.1
        have hrl : R.length ≤ 1000 := by
          have h1 := recs_len s.rs HSR.out
          have h2 := HSROOM.out
          have h3 : s.rs.length = R.length + 1 := by unfold Sg.rs; rw [List.length_map, hln]
          omega
        have c4 := lg_4 HLOG8.out.blk
        have f4 := HLOG8.out.blk.free 4
        have hblk9 := HLOG8.out.blk.set 4 (.int .i64 ((y.r.1 : Int) + 1 + 64))
        have HLOG9 := Lib.hid (HLOG8.out.setC (nx' := y.r.1 + 1 + 64) (run' := run) (fr' := true) 4 (.int .i64 ((y.r.1 : Int) + 1 + 64)) hblk9)
        have HR0 := Lib.hid hr0
        clear hg2 p1 hr0 hln hy hym hblk9
        go_wp2_with fail
        go_ret2
        refine ⟨lb, .slice (some ⟨ba, 0, none⟩) m.length cap, m, run, rfl, ?_, HPW.out, HPERM.out, HR1.out.1, HR1.out.2, HRUN.out, HKF.out _ ((Keep.refl [lb] w8).setCell (p := ⟨lb, 4, none⟩) (.inl (by simp)) _)⟩
        have hnp : nextPos m = y.r.1 + 1 + 64 := by unfold nextPos; rw [HGL.out]; simp [Sg.rs, HR0.out]
        rw [hnp]
        exact HLOG9.out
end
end Go.Proofs.Ytpibpapolcdeiaa
/- slog: plain laws on what stands on the device. -/
namespace Go.Proofs.Ytpibpapolcdeiaa
open Go.ChangeShapes Go.WideShapes Go.ChangeAt Go.RowKit
set_option linter.unusedVariables false
set_option linter.unusedSimpArgs false
set_option maxRecDepth 100000

def nowF (L : List Sec) (i : Nat) : List Nat := (L.getD i zeroSec).now
def genF (L : List Sec) (i : Nat) : Nat := unbe (((nowF L i).drop 4).take 6)
def badF (L : List Sec) (i : Nat) : Prop := crcSum ((nowF L i).drop 4) ≠ unbe ((nowF L i).take 4)
theorem runOf_eq (L : List Sec) (i : Nat) : runOf (L.getD i zeroSec) = unbe (((nowF L i).drop 10).take 4) := rfl
theorem nowF_flush (L : List Sec) (i : Nat) : nowF (L.map flushSec) i = nowF L i := by
  unfold nowF
  rw [List.getD_eq_getElem?_getD, List.getD_eq_getElem?_getD, List.getElem?_map]
  cases L[i]? <;> rfl
theorem nowF_fl (fr : Bool) (L : List Sec) (i : Nat) : nowF (fl fr L) i = nowF L i := by
  unfold fl; split
  · exact nowF_flush L i
  · rfl
theorem fl_len (fr : Bool) (L : List Sec) : (fl fr L).length = L.length := by unfold fl; split <;> simp
theorem nowF_set (L : List Sec) (j : Nat) (s : Sec) (i : Nat) (hj : j < L.length) : nowF (L.set j s) i = if i = j then s.now else nowF L i := by
  unfold nowF
  rw [List.getD_eq_getElem?_getD, List.getD_eq_getElem?_getD, List.getElem?_set]
  by_cases h : j = i
  · subst h; simp [hj]
  · rw [if_neg h, if_neg (fun e => h e.symm)]
theorem SegDev.congr {L L' : List Sec} {a gen base : Nat} {buf : List Nat} {rn : Nat → Nat} (h : SegDev L a gen base buf rn) (he : ∀ i, i < 8 → nowF L' (a + i) = nowF L (a + i)) : SegDev L' a gen base buf rn := by
  refine ⟨fun i hi h1 => ?_, h.run, h.up, fun i hi h0 h1 => ?_⟩
  · have := h.on i hi h1
    rw [← this]; exact he i hi
  · have := h.off i hi h0 h1
    have e := he i hi
    unfold nowF at e
    rw [e]; exact this
/-- The last segment's number. -/
def lastG (S : List PS) : Nat := match S.getLast? with | none => 0 | some s => s.gen
structure DevOk (L : List Sec) (frm segs run : Nat) (S : List PS) : Prop where
  seg : ∀ s ∈ S, ∃ rn, SegDev L (frm + (s.gen - 1) % segs * 8) s.gen s.base (encRs s.rs) rn
  zero : ∀ k, k < segs → (∀ s ∈ S, (s.gen - 1) % segs ≠ k) → ∀ i, i < 8 → nowF L (frm + k * 8 + i) = List.replicate 64 0
  runs : ∀ i, frm ≤ i → i < frm + segs * 8 → runOf (L.getD i zeroSec) ≤ run
  old : ∀ i, frm ≤ i → i < frm + segs * 8 → badF L i ∨ genF L i ≤ lastG S
structure SOk (segs : Nat) (S : List PS) (nx q : Nat) : Prop where
  len : S.length ≤ segs
  gens : ∃ g0, 1 ≤ g0 ∧ (S.length < segs → g0 = 1) ∧ ∀ i s, S[i]? = some s → s.gen = g0 + i
  small : ∀ s ∈ S, s.gen ≤ q ∧ s.base < 140737488355328
  ok : ∀ s ∈ S, (∀ r ∈ s.rs, r.ok) ∧ (encRs s.rs).length ≤ 378 ∧ s.rs ≠ []
  pos : (S.flatMap PS.rs).Pairwise (fun a b => a.1 < b.1)
  below : ∀ r ∈ S.flatMap PS.rs, 1 ≤ r.1 ∧ r.1 < nx
  tight : ∀ i a b r, S[i]? = some a → S[i + 1]? = some b → b.rs.head? = some r → 370 < (encRs a.rs).length + r.2.length
theorem DevOk.congr {L L' : List Sec} {frm segs run : Nat} {S : List PS} (h : DevOk L frm segs run S) (he : ∀ i, frm ≤ i → i < frm + segs * 8 → nowF L' i = nowF L i) (hs : 0 < segs) : DevOk L' frm segs run S := by
  refine ⟨fun s hs' => ?_, fun k hk hn i hi => ?_, fun i h1 h2 => ?_, fun i h1 h2 => ?_⟩
  · obtain ⟨rn, hr⟩ := h.seg s hs'
    have hk : (s.gen - 1) % segs < segs := Nat.mod_lt _ hs
    exact ⟨rn, hr.congr (fun i hi => he _ (by omega) (by omega))⟩
  · rw [he _ (by omega) (by omega)]; exact h.zero k hk hn i hi
  · rw [runOf_eq, he i h1 h2, ← runOf_eq]; exact h.runs i h1 h2
  · have := h.old i h1 h2
    unfold badF genF at this ⊢
    rw [he i h1 h2]; exact this
theorem DevOk.flush {L : List Sec} {frm segs run : Nat} {S : List PS} (h : DevOk L frm segs run S) (hs : 0 < segs) : DevOk (L.map flushSec) frm segs run S := h.congr (fun i _ _ => nowF_flush L i) hs
theorem mod_ne {a b m : Nat} (h1 : a < b) (h2 : b < a + m) : a % m ≠ b % m := by
  intro h
  have h3 : (b - a) % m = 0 := Nat.sub_mod_eq_zero_of_mod_eq h.symm
  have h4 : b - a < m := by omega
  rw [Nat.mod_eq_of_lt h4] at h3
  omega
theorem zero_bad (L : List Sec) (i : Nat) (h : nowF L i = List.replicate 64 0) : badF L i := by
  unfold badF
  rw [h, show (List.replicate 64 0).drop 4 = List.replicate 60 0 by decide, show unbe ((List.replicate 64 0).take 4) = 0 by decide]
  exact zero_crc
section
variable {segs nx q : Nat} {S : List PS}
theorem SOk.last (h : SOk segs S nx q) {s : PS} (hs : s ∈ S) : s.gen ≤ lastG S := by
  obtain ⟨g0, h1, _, hg⟩ := h.gens
  obtain ⟨i, hi⟩ := List.getElem?_of_mem hs
  have h2 := (List.getElem?_eq_some_iff.1 hi).1
  unfold lastG
  rw [List.getLast?_eq_getElem?]
  obtain ⟨t, ht⟩ : ∃ t, S[S.length - 1]? = some t := ⟨_, List.getElem?_eq_getElem (by omega)⟩
  rw [ht]
  show s.gen ≤ t.gen
  rw [hg i s hi, hg _ t ht]
  omega
theorem SOk.near (h : SOk segs S nx q) {s : PS} (hs : s ∈ S) : lastG S < s.gen + segs ∧ 1 ≤ s.gen := by
  obtain ⟨g0, h1, _, hg⟩ := h.gens
  obtain ⟨i, hi⟩ := List.getElem?_of_mem hs
  have h2 := (List.getElem?_eq_some_iff.1 hi).1
  have h3 := h.len
  unfold lastG
  rw [List.getLast?_eq_getElem?]
  obtain ⟨t, ht⟩ : ∃ t, S[S.length - 1]? = some t := ⟨_, List.getElem?_eq_getElem (by omega)⟩
  rw [ht]
  show t.gen < s.gen + segs ∧ 1 ≤ s.gen
  rw [hg i s hi, hg _ t ht]
  omega
/-- The segments behind a beginning. -/
def beginP (segs : Nat) (S : List PS) (nx : Nat) : List PS := S.filter (fun s => !decide ((s.gen : Int) ≤ ((lastG S + 1 : Nat) : Int) - (segs : Int))) ++ [⟨lastG S + 1, nx, []⟩]
theorem DevOk.begin {L : List Sec} {frm run : Nat} (h : DevOk L frm segs run S) (hS : SOk segs S nx q) (hsg : 0 < segs) (hlt : frm + segs * 8 ≤ L.length) (hr : run < 4294967200) (hq : q + 1 < 281474976710656) (x : List Nat) (b : Bool) :
    DevOk ((L.set (frm + lastG S % segs * 8) ⟨sgImg (lastG S + 1) nx run 0 [], x, b⟩).map flushSec) frm segs run (beginP segs S nx) := by
  have hk0 : lastG S % segs < segs := Nat.mod_lt _ hsg
  have hG : lastG S ≤ q := by
    unfold lastG
    cases hh : S.getLast? with
    | none => exact Nat.zero_le _
    | some s => exact (hS.small s (List.mem_of_getLast? hh)).1
  have hnow : ∀ i, nowF ((L.set (frm + lastG S % segs * 8) ⟨sgImg (lastG S + 1) nx run 0 [], x, b⟩).map flushSec) i = if i = frm + lastG S % segs * 8 then sgImg (lastG S + 1) nx run 0 [] else nowF L i := by
    intro i
    rw [nowF_flush, nowF_set _ _ _ _ (by omega)]
  have hgl : (beginP segs S nx).getLast? = some ⟨lastG S + 1, nx, []⟩ := by unfold beginP; simp
  have hlast : lastG (beginP segs S nx) = lastG S + 1 := by
    show (match (beginP segs S nx).getLast? with | none => 0 | some s => s.gen) = _
    rw [hgl]
  have hfld := sgImg_fld (lastG S + 1) nx run 0 [] (by decide) (by simp) ⟨by omega, by omega⟩
  refine ⟨?_, ?_, ?_, ?_⟩
  · intro s hs
    unfold beginP at hs
    rcases List.mem_append.1 hs with hs | hs
    · obtain ⟨hs1, hs2⟩ := List.mem_filter.1 hs
      have hnear := hS.near hs1
      have hle := hS.last hs1
      have hgt : lastG S + 1 < s.gen + segs := by simp at hs2; omega
      have hne : (s.gen - 1) % segs ≠ lastG S % segs := mod_ne (by omega) (by omega)
      obtain ⟨rn, hrn⟩ := h.seg s hs1
      refine ⟨rn, hrn.congr (fun i hi => ?_)⟩
      rw [hnow, if_neg (by omega)]
    · simp only [List.mem_cons, List.not_mem_nil, or_false] at hs
      subst hs
      refine ⟨fun _ => run, ⟨?_, fun _ _ => by omega, fun _ _ _ _ _ => Nat.le_refl _, ?_⟩⟩
      · intro i hi h0
        have : i = 0 := by
          rcases h0 with h0 | h0
          · exact h0
          · simp [encRs] at h0
        subst this
        show nowF _ _ = _
        rw [hnow, show (lastG S + 1 - 1) = lastG S by omega, Nat.add_zero, if_pos rfl]
        simp [encRs]
      · intro i hi h0 _
        show badF _ _ ∨ genF _ _ ≠ _
        have e : lastG S + 1 - 1 = lastG S := by omega
        have h1 := h.old (frm + lastG S % segs * 8 + i) (by omega) (by omega)
        simp only [e]
        unfold badF genF at h1 ⊢
        rw [hnow, if_neg (by omega)]
        rcases h1 with h1 | h1
        · exact .inl h1
        · exact .inr (by omega)
  · intro k hk hn i hi
    have hkk : lastG S % segs ≠ k := by
      have := hn ⟨lastG S + 1, nx, []⟩ (by unfold beginP; simp)
      simpa using this
    rw [hnow, if_neg (by omega)]
    refine h.zero k hk (fun s hs => ?_) i hi
    by_cases hf : (s.gen : Int) ≤ ((lastG S + 1 : Nat) : Int) - (segs : Int)
    · have hnear := hS.near hs
      have e : s.gen - 1 + segs = lastG S := by omega
      rw [← Nat.add_mod_right, e]
      exact hkk
    · exact hn s (by unfold beginP; exact List.mem_append_left _ (List.mem_filter.2 ⟨hs, by simp; omega⟩))
  · intro i h1 h2
    rw [runOf_eq, hnow]
    split
    · have := hfld.r
      rw [← this]; exact Nat.le_refl _
    · rw [← runOf_eq]; exact h.runs i h1 h2
  · intro i h1 h2
    rw [hlast]
    unfold badF genF
    rw [hnow]
    split
    · right
      have := hfld.g
      rw [← this]; exact Nat.le_refl _
    · rcases h.old i h1 h2 with h3 | h3
      · exact .inl h3
      · exact .inr (Nat.le_succ_of_le h3)
end
end Go.Proofs.Ytpibpapolcdeiaa
/- slog: plain laws: a record is added. -/
namespace Go.Proofs.Ytpibpapolcdeiaa
open Go.ChangeShapes Go.WideShapes Go.ChangeAt Go.RowKit
set_option linter.unusedVariables false
set_option linter.unusedSimpArgs false
set_option maxRecDepth 100000

theorem wrSec_now (a gen base run : Nat) (buf : List Nat) (was : Nat) (L : List Sec) (hL : a + 8 ≤ L.length) : ∀ k, k ≤ 8 → ∀ i, nowF (wrSec a gen base run buf was L k) i = if a ≤ i ∧ i < a + k ∧ was < st0 (i - a + 1) ∧ st0 (i - a) < buf.length then sgImg gen base run (i - a) buf else nowF L i
  | 0, _, i => by
    rw [if_neg (by omega)]; rfl
  | k + 1, hk, i => by
    have ih := wrSec_now a gen base run buf was L hL k (by omega) i
    show nowF (if was < st0 (k + 1) ∧ st0 k < buf.length then _ else _) i = _
    by_cases hc : was < st0 (k + 1) ∧ st0 k < buf.length
    · rw [if_pos hc, nowF_set _ _ _ _ (by rw [wrSec_len]; omega)]
      by_cases hi : i = a + k
      · subst hi
        rw [if_pos rfl, if_pos (by rw [show a + k - a = k by omega]; exact ⟨by omega, by omega, hc⟩), show a + k - a = k by omega]
      · rw [if_neg hi, ih]
        by_cases h2 : a ≤ i ∧ i < a + k ∧ was < st0 (i - a + 1) ∧ st0 (i - a) < buf.length
        · rw [if_pos h2, if_pos ⟨h2.1, by omega, h2.2.2⟩]
        · rw [if_neg h2, if_neg (fun h3 => h2 ⟨h3.1, by omega, h3.2.2⟩)]
    · rw [if_neg hc, ih]
      by_cases h2 : a ≤ i ∧ i < a + k ∧ was < st0 (i - a + 1) ∧ st0 (i - a) < buf.length
      · rw [if_pos h2, if_pos ⟨h2.1, by omega, h2.2.2⟩]
      · rw [if_neg h2, if_neg (fun h3 => by
          by_cases h4 : i = a + k
          · subst h4
            rw [show a + k - a = k by omega] at h3
            exact hc h3.2.2
          · exact h2 ⟨h3.1, by omega, h3.2.2⟩)]
theorem sgImg_congr {buf buf' : List Nat} {i : Nat} (h : sgChunk buf i = sgChunk buf' i) (gen base run : Nat) : sgImg gen base run i buf = sgImg gen base run i buf' := by
  unfold sgImg sgBody
  rw [h]
theorem chunk_app (old ext : List Nat) (i : Nat) (h : st0 (i + 1) ≤ old.length) : sgChunk (old ++ ext) i = sgChunk old i := by
  unfold sgChunk
  rw [st0_succ] at h
  rw [List.drop_append_of_le_length (by omega), List.take_append_of_le_length (by rw [List.length_drop]; omega)]
theorem DevOk.add {L : List Sec} {frm segs run : Nat} {A : List PS} {s : PS} (h : DevOk L frm segs run (A ++ [s])) (hsg : 0 < segs) (hlt : frm + segs * 8 ≤ L.length) (hr : run < 4294967200) (r : Rcd) (hA : ∀ x ∈ A, (x.gen - 1) % segs ≠ (s.gen - 1) % segs) (hg : s.gen < 281474976710656)
    (hbuf : ∀ c ∈ encRs (s.rs ++ [r]), c < 256) :
    DevOk (wrSec (frm + (s.gen - 1) % segs * 8) s.gen s.base run (encRs (s.rs ++ [r])) (encRs s.rs).length L 8) frm segs run (A ++ [⟨s.gen, s.base, s.rs ++ [r]⟩]) := by
  have hk0 : (s.gen - 1) % segs < segs := Nat.mod_lt _ hsg
  obtain ⟨a, ha⟩ : ∃ a, a = frm + (s.gen - 1) % segs * 8 := ⟨_, rfl⟩
  obtain ⟨buf, hb⟩ : ∃ b, b = encRs (s.rs ++ [r]) := ⟨_, rfl⟩
  obtain ⟨old, ho⟩ : ∃ b, b = encRs s.rs := ⟨_, rfl⟩
  have hbo : buf = old ++ encR r := by rw [hb, ho, encRs_snoc]
  rw [← ha, ← hb, ← ho]
  have hnow := wrSec_now a s.gen s.base run buf old.length L (by omega) 8 (Nat.le_refl _)
  generalize wrSec a s.gen s.base run buf old.length L 8 = L' at hnow ⊢
  have hout : ∀ i, (i < a ∨ a + 8 ≤ i) → nowF L' i = nowF L i := fun i hi => by rw [hnow, if_neg (by omega)]
  have hlastE : lastG (A ++ [⟨s.gen, s.base, s.rs ++ [r]⟩]) = lastG (A ++ [s]) := by unfold lastG; simp
  have hlg : lastG (A ++ [s]) = s.gen := by unfold lastG; simp
  have hbytes : ∀ c ∈ buf, c < 256 := by rw [hb]; exact hbuf
  have hfld := fun i (hi : i < 8) => sgImg_fld s.gen s.base run i buf (by omega) hbytes ⟨hg, by omega⟩
  refine ⟨?_, ?_, ?_, ?_⟩
  · intro x hx
    rcases List.mem_append.1 hx with hx | hx
    · obtain ⟨rn, hrn⟩ := h.seg x (List.mem_append_left _ hx)
      have hne := hA x hx
      refine ⟨rn, hrn.congr (fun i hi => hout _ (by omega))⟩
    · simp only [List.mem_cons, List.not_mem_nil, or_false] at hx
      subst hx
      obtain ⟨rn, hrn⟩ := h.seg s (by simp)
      rw [← ha, ← ho] at hrn
      show ∃ rn, SegDev L' (frm + (s.gen - 1) % segs * 8) s.gen s.base (encRs (s.rs ++ [r])) rn
      rw [← ha, ← hb]
      have hle : ∀ i, i < 8 → (i = 0 ∨ st0 i < old.length) → rn i ≤ run := by
        intro i hi h0
        have h1 := hrn.on i hi h0
        have h2 := h.runs (a + i) (by omega) (by omega)
        rw [runOf_eq] at h2
        unfold nowF at h2
        rw [h1] at h2
        have hbo2 : ∀ c ∈ old, c < 256 := fun c hc => hbytes c (by rw [hbo]; exact List.mem_append_left _ hc)
        have h3 := (sgImg_fld s.gen s.base (rn i) i old (by omega) hbo2 ⟨hg, by have := hrn.run i hi; omega⟩).r
        omega
      refine ⟨fun i => if old.length < st0 (i + 1) then run else rn i, ⟨?_, ?_, ?_, ?_⟩⟩
      · intro i hi h0
        show nowF L' (a + i) = _
        rw [hnow]
        have e : a + i - a = i := by omega
        rw [e]
        by_cases h1 : old.length < st0 (i + 1)
        · have h2 : st0 i < buf.length := by
            rcases h0 with h0 | h0
            · subst h0
              rw [hbo, List.length_append, encR_len]; show 0 < _; omega
            · exact h0
          rw [if_pos ⟨by omega, by omega, h1, h2⟩]
          simp only [h1, if_true]
        · rw [if_neg (fun h3 => h1 h3.2.2.1)]
          have h2 : i = 0 ∨ st0 i < old.length := by
            right
            have := st0_succ i
            have := (sgW_le i).2
            omega
          have h3 := hrn.on i hi h2
          unfold nowF
          rw [h3]
          simp only [h1, if_false]
          rw [hbo]
          exact sgImg_congr (chunk_app old (encR r) i (by omega)).symm _ _ _
      · intro i hi
        show (if _ then _ else _) < _
        split
        · omega
        · exact hrn.run i hi
      · intro i j hij hj h0
        show (if _ then _ else _) ≤ (if _ then _ else _)
        have hm := st0_mono (show i + 1 ≤ j + 1 by omega)
        by_cases h1 : old.length < st0 (i + 1)
        · rw [if_pos h1, if_pos (by omega)]; exact Nat.le_refl _
        · rw [if_neg h1]
          have hiold : i = 0 ∨ st0 i < old.length := by
            right
            have := st0_succ i
            have := (sgW_le i).2
            omega
          by_cases h2 : old.length < st0 (j + 1)
          · rw [if_pos h2]
            exact hle i (by omega) hiold
          · rw [if_neg h2]
            refine hrn.up i j hij hj ?_
            right
            have := st0_succ j
            have := (sgW_le j).2
            omega
      · intro i hi h0 h1
        have h2 : old.length ≤ st0 i := by rw [hbo, List.length_append] at h1; omega
        have h3 := hrn.off i hi h0 h2
        show badF L' (a + i) ∨ genF L' (a + i) ≠ _
        unfold badF genF
        rw [hnow, if_neg (by rw [show a + i - a = i by omega]; omega)]
        exact h3
  · intro k hk hn i hi
    have hkk : (s.gen - 1) % segs ≠ k := hn ⟨s.gen, s.base, s.rs ++ [r]⟩ (by simp)
    rw [hout _ (by omega)]
    refine h.zero k hk (fun x hx => ?_) i hi
    rcases List.mem_append.1 hx with hx | hx
    · exact hn x (List.mem_append_left _ hx)
    · simp only [List.mem_cons, List.not_mem_nil, or_false] at hx
      subst hx; exact hkk
  · intro i h1 h2
    rw [runOf_eq, hnow]
    split
    · rename_i hc
      rw [← (hfld (i - a) (by omega)).r]; exact Nat.le_refl _
    · rw [← runOf_eq]; exact h.runs i h1 h2
  · intro i h1 h2
    rw [hlastE]
    unfold badF genF
    rw [hnow]
    split
    · rename_i hc
      right
      rw [← (hfld (i - a) (by omega)).g, hlg]; exact Nat.le_refl _
    · exact h.old i h1 h2
end Go.Proofs.Ytpibpapolcdeiaa
/- slog: plain laws: what the segments say behind a record. -/
namespace Go.Proofs.Ytpibpapolcdeiaa
open Go.ChangeShapes Go.WideShapes Go.ChangeAt Go.RowKit
set_option linter.unusedVariables false
set_option linter.unusedSimpArgs false
set_option maxRecDepth 100000

def needB (S : List PS) (n : Nat) : Bool := match S.getLast? with | none => true | some s => decide (370 < (encRs s.rs).length + n)
def addP (S : List PS) (r : Rcd) : List PS := match S.getLast? with | none => S | some s => S.dropLast ++ [⟨s.gen, s.base, s.rs ++ [r]⟩]
def appP (segs : Nat) (S : List PS) (nx : Nat) (body : List Nat) : List PS := addP (if needB S body.length = true then beginP segs S nx else S) (nx, body)
theorem addP_snoc (A : List PS) (s : PS) (r : Rcd) : addP (A ++ [s]) r = A ++ [⟨s.gen, s.base, s.rs ++ [r]⟩] := by unfold addP; simp
section
variable {segs nx q : Nat} {S : List PS}
theorem SOk.lastG_eq (h : SOk segs S nx q) : ∃ g0, 1 ≤ g0 ∧ (S.length < segs → g0 = 1) ∧ (∀ i s, S[i]? = some s → s.gen = g0 + i) ∧ lastG S + 1 = g0 + S.length := by
  obtain ⟨g0, h1, h2, hg⟩ := h.gens
  cases hS : S.getLast? with
  | none =>
    have : S = [] := List.getLast?_eq_none_iff.1 hS
    subst this
    exact ⟨1, Nat.le_refl _, fun _ => rfl, fun i s hs => by simp at hs, by simp [lastG]⟩
  | some t =>
    refine ⟨g0, h1, h2, hg, ?_⟩
    have ht : S[S.length - 1]? = some t := by rw [← List.getLast?_eq_getElem?]; exact hS
    have hl := (List.getElem?_eq_some_iff.1 ht).1
    have hgt := hg _ t ht
    unfold lastG
    rw [hS]
    show t.gen + 1 = _
    omega
/-- What goes when a segment is begun. -/
theorem SOk.kept (h : SOk segs S nx q) (hsg : 0 < segs) : S.filter (fun s => !decide ((s.gen : Int) ≤ ((lastG S + 1 : Nat) : Int) - (segs : Int))) = S.drop (if S.length = segs then 1 else 0) := by
  obtain ⟨g0, h1, h2, hg, hl⟩ := h.lastG_eq
  have hlen := h.len
  by_cases hn : S.length = segs
  · rw [if_pos hn]
    cases S with
    | nil => rfl
    | cons x T =>
      have hx := hg 0 x rfl
      rw [List.filter_cons_of_neg (by simp at hl hn ⊢; omega), List.drop_one, List.tail_cons, List.filter_eq_self]
      intro s hs
      obtain ⟨i, hi⟩ := List.getElem?_of_mem hs
      have hsg := hg (i + 1) s (by simpa using hi)
      simp at hl hn ⊢
      omega
  · rw [if_neg hn, List.drop_zero, List.filter_eq_self]
    intro s hs
    obtain ⟨i, hi⟩ := List.getElem?_of_mem hs
    have hsg := hg i s hi
    simp at hl ⊢
    omega
theorem SOk.app (h : SOk segs S nx q) (hsg : 2 ≤ segs) (hnx : 1 ≤ nx ∧ nx < 140737488355328) (body : List Nat) (hb : Rcd.ok (nx, body)) : SOk segs (appP segs S nx body) (nx + 1) (q + 1) ∧
    ∃ j, (appP segs S nx body).flatMap PS.rs = (S.flatMap PS.rs).drop j ++ [(nx, body)] ∧ (0 < j → (appP segs S nx body).length = segs) ∧ S.length ≤ (appP segs S nx body).length := by
  have hblen : body.length ≤ 300 := hb.2.1
  unfold appP
  cases hnb : needB S body.length with
  | true =>
    simp only [if_true]
    obtain ⟨g0, h1, h2, hg, hl⟩ := h.lastG_eq
    have hlen := h.len
    unfold beginP
    rw [h.kept (by omega), addP_snoc, List.nil_append]
    obtain ⟨t, ht⟩ : ∃ t, t = (if S.length = segs then 1 else 0) := ⟨_, rfl⟩
    rw [← ht]
    have ht1 : t ≤ 1 ∧ (t = 1 → S.length = segs) ∧ (t = 0 → S.length < segs) := by
      rw [ht]; split <;> omega
    have htl : t ≤ S.length := by omega
    have hdl : (S.drop t).length = S.length - t := List.length_drop
    have hmem : ∀ x ∈ S.drop t, x ∈ S := fun x hx => List.mem_of_mem_drop hx
    have hsub : (S.drop t).flatMap PS.rs = (S.flatMap PS.rs).drop ((S.take t).flatMap PS.rs).length := by
      conv => rhs; rw [← List.take_append_drop t S, List.flatMap_append]
      rw [List.take_append_drop, List.drop_left]
    refine ⟨⟨?_, ⟨g0 + t, by omega, ?_, ?_⟩, ?_, ?_, ?_, ?_, ?_⟩, ⟨((S.take t).flatMap PS.rs).length, ?_, ?_, ?_⟩⟩
    · rw [List.length_append, hdl]; simp; omega
    · intro h3
      rw [List.length_append, hdl] at h3
      simp at h3
      have := h2 (by omega)
      omega
    · intro i s hs
      by_cases hi : i < (S.drop t).length
      · rw [List.getElem?_append_left hi, List.getElem?_drop] at hs
        have := hg _ s hs
        omega
      · rw [List.getElem?_append_right (by omega)] at hs
        have hz : i - (S.drop t).length = 0 := by
          have := (List.getElem?_eq_some_iff.1 hs).1
          simp at this; simp; omega
        rw [hz] at hs
        simp at hs
        subst hs
        show lastG S + 1 = g0 + t + i
        omega
    · intro s hs
      rcases List.mem_append.1 hs with hs | hs
      · have := h.small s (hmem s hs); omega
      · simp only [List.mem_cons, List.not_mem_nil, or_false] at hs
        subst hs
        have hG : lastG S ≤ q := by
          unfold lastG
          cases hh : S.getLast? with
          | none => exact Nat.zero_le _
          | some s => exact (h.small s (List.mem_of_getLast? hh)).1
        exact ⟨by show lastG S + 1 ≤ q + 1; omega, hnx.2⟩
    · intro s hs
      rcases List.mem_append.1 hs with hs | hs
      · exact h.ok s (hmem s hs)
      · simp only [List.mem_cons, List.not_mem_nil, or_false] at hs
        subst hs
        refine ⟨?_, ?_, by simp⟩
        · intro r hr
          simp only [List.mem_cons, List.not_mem_nil, or_false] at hr
          subst hr; exact hb
        · simp [encRs, encR_len]; omega
    · rw [List.flatMap_append, hsub, List.pairwise_append]
      refine ⟨h.pos.sublist (List.drop_sublist _ _), by simp, fun a ha b hb' => ?_⟩
      simp at hb'
      subst hb'
      exact (h.below a (List.mem_of_mem_drop ha)).2
    · intro r hr
      rw [List.flatMap_append, hsub] at hr
      rcases List.mem_append.1 hr with hr | hr
      · have := h.below r (List.mem_of_mem_drop hr); omega
      · simp at hr
        subst hr
        exact ⟨hnx.1, by show nx < nx + 1; omega⟩
    · intro i a b r ha hb' hr
      by_cases hi : i + 1 < (S.drop t).length
      · rw [List.getElem?_append_left (by omega), List.getElem?_drop] at ha
        rw [List.getElem?_append_left hi, List.getElem?_drop] at hb'
        exact h.tight (t + i) a b r ha (by rw [show t + i + 1 = t + (i + 1) by omega]; exact hb') hr
      · have hi2 : i + 1 = (S.drop t).length := by
          have := (List.getElem?_eq_some_iff.1 hb').1
          rw [List.length_append] at this
          simp at this ⊢
          simp at hi
          omega
        rw [List.getElem?_append_left (by omega), List.getElem?_drop] at ha
        rw [List.getElem?_append_right (by omega), show i + 1 - (S.drop t).length = 0 by omega] at hb'
        simp at hb'
        subst hb'
        simp at hr
        subst hr
        have hla : S.getLast? = some a := by
          rw [List.getLast?_eq_getElem?, ← ha]
          congr 1
          omega
        unfold needB at hnb
        rw [hla] at hnb
        exact of_decide_eq_true hnb
    · rw [List.flatMap_append, hsub]; simp
    · intro hj
      rw [List.length_append, hdl]
      have : t ≠ 0 := by
        intro h0
        rw [h0] at hj
        simp at hj
      simp
      have := ht1.2.1 (by omega)
      omega
    · rw [List.length_append, hdl]; simp; omega
  | false =>
    simp only [Bool.false_eq_true, if_false]
    cases hgl : S.getLast? with
    | none => unfold needB at hnb; rw [hgl] at hnb; cases hnb
    | some s =>
      obtain ⟨A, rfl⟩ := List.getLast?_eq_some_iff.1 hgl
      have hfit : (encRs s.rs).length + body.length ≤ 370 := by
        unfold needB at hnb
        rw [hgl] at hnb
        have := of_decide_eq_false hnb
        omega
      rw [addP_snoc]
      have hss : s ∈ A ++ [s] := by simp
      have hfm : (A ++ [(⟨s.gen, s.base, s.rs ++ [(nx, body)]⟩ : PS)]).flatMap PS.rs = (A ++ [s]).flatMap PS.rs ++ [(nx, body)] := by
        simp [List.flatMap_append]
      have hget : ∀ (i : Nat) (x : PS), (A ++ [(⟨s.gen, s.base, s.rs ++ [(nx, body)]⟩ : PS)])[i]? = some x → (A ++ [s])[i]? = some x ∨ (i = A.length ∧ x = ⟨s.gen, s.base, s.rs ++ [(nx, body)]⟩) := by
        intro i x hx
        by_cases hi : i < A.length
        · rw [List.getElem?_append_left hi] at hx ⊢; exact .inl hx
        · rw [List.getElem?_append_right (by omega)] at hx
          have hz := (List.getElem?_eq_some_iff.1 hx).1
          simp at hz
          have hz2 : i - A.length = 0 := by omega
          rw [hz2] at hx
          simp at hx
          exact .inr ⟨by omega, hx.symm⟩
      have hlast : (A ++ [s])[A.length]? = some s := by simp
      refine ⟨⟨?_, ?_, ?_, ?_, ?_, ?_, ?_⟩, ⟨0, by rw [hfm]; simp, fun h => absurd h (by omega), by simp⟩⟩
      · have := h.len; simp at this ⊢; exact this
      · obtain ⟨g0, h1, h2, hg⟩ := h.gens
        refine ⟨g0, h1, fun h3 => h2 (by simp at h3 ⊢; exact h3), fun i x hx => ?_⟩
        rcases hget i x hx with h3 | ⟨rfl, rfl⟩
        · exact hg i x h3
        · exact hg _ s hlast
      · intro x hx
        rcases List.mem_append.1 hx with hx | hx
        · have := h.small x (List.mem_append_left _ hx); omega
        · simp only [List.mem_cons, List.not_mem_nil, or_false] at hx
          subst hx
          have := h.small s hss
          exact ⟨by show s.gen ≤ _; omega, this.2⟩
      · intro x hx
        rcases List.mem_append.1 hx with hx | hx
        · exact h.ok x (List.mem_append_left _ hx)
        · simp only [List.mem_cons, List.not_mem_nil, or_false] at hx
          subst hx
          have ho := h.ok s hss
          refine ⟨?_, ?_, by simp⟩
          · intro r hr
            rcases List.mem_append.1 hr with hr | hr
            · exact ho.1 r hr
            · simp only [List.mem_cons, List.not_mem_nil, or_false] at hr
              subst hr; exact hb
          · show (encRs (s.rs ++ [(nx, body)])).length ≤ 378
            rw [encRs_snoc, List.length_append, encR_len]
            show _ + (8 + body.length) ≤ 378
            omega
      · rw [hfm, List.pairwise_append]
        refine ⟨h.pos, by simp, fun a ha b hb' => ?_⟩
        simp at hb'
        subst hb'
        exact (h.below a ha).2
      · intro r hr
        rw [hfm] at hr
        rcases List.mem_append.1 hr with hr | hr
        · have := h.below r hr; omega
        · simp at hr
          subst hr
          exact ⟨hnx.1, by show nx < nx + 1; omega⟩
      · intro i a b r ha hb' hr
        rcases hget i a ha with h3 | ⟨hi, _⟩
        · rcases hget (i + 1) b hb' with h4 | ⟨hi, rfl⟩
          · exact h.tight i a b r h3 h4 hr
          · have hne := (h.ok s hss).2.2
            refine h.tight i a s r h3 (by rw [hi]; exact hlast) ?_
            cases hsr : s.rs with
            | nil => exact absurd hsr hne
            | cons y ys =>
              simp only [hsr, List.cons_append, List.head?_cons] at hr
              simpa using hr
        · have := (List.getElem?_eq_some_iff.1 hb').1
          simp at this
          omega
end
end Go.Proofs.Ytpibpapolcdeiaa
/- slog: a log whole: Append, Open. -/
namespace Go.Proofs.Ytpibpapolcdeiaa
open Go.ChangeShapes Go.WideShapes Go.ChangeAt Go.RowKit
set_option linter.unusedVariables false
set_option linter.unusedSimpArgs false
set_option maxRecDepth 100000

structure LogOk (w : World) (B lb d frm segs nx run : Nat) (fr : Bool) (vl : Value) (l : List Sg) (L : List Sec) (q : Nat) : Prop where
  at_ : LogAt w B lb d frm segs nx run fr vl l
  dev : DevOk L frm segs run (l.map Sg.ps)
  say : SOk segs (l.map Sg.ps) nx q
theorem nextGen_ps (l : List Sg) : nextGen l = lastG (l.map Sg.ps) + 1 := by
  unfold nextGen lastG
  rw [List.getLast?_map]
  cases l.getLast? <;> rfl
theorem need_ps (l : List Sg) (n : Nat) : need l n ↔ needB (l.map Sg.ps) n = true := by
  unfold need needB
  rw [List.getLast?_map]
  cases l.getLast? with
  | none => simp
  | some s =>
    show (370 - (n : Int) < ((encRs s.rs).length : Int)) ↔ decide (370 < (encRs s.rs).length + n) = true
    rw [decide_eq_true_iff]
    omega
theorem begin_ps (l : List Sg) (segs nx p : Nat) : (l.filter (fun s => !decide ((s.gen : Int) ≤ (nextGen l : Int) - (segs : Int))) ++ [(⟨p, nextGen l, nx, 0, nilS, nilS, []⟩ : Sg)]).map Sg.ps = beginP segs (l.map Sg.ps) nx := by
  unfold beginP
  rw [List.map_append, nextGen_ps, List.filter_map]
  rfl
theorem SOk.apartL {segs nx q : Nat} {A : List PS} {s : PS} (h : SOk segs (A ++ [s]) nx q) : ∀ x ∈ A, (x.gen - 1) % segs ≠ (s.gen - 1) % segs := by
  obtain ⟨g0, h1, _, hg⟩ := h.gens
  intro x hx
  obtain ⟨i, hi⟩ := List.getElem?_of_mem hx
  have hil := (List.getElem?_eq_some_iff.1 hi).1
  have e1 := hg i x (by rw [List.getElem?_append_left hil]; exact hi)
  have e2 := hg A.length s (by simp)
  have := h.len
  simp at this
  exact mod_ne (by omega) (by omega)
section
variable {w : World} {B lb d sb c frm segs nx run q : Nat} {fr : Bool} {vl bv : Value} {l : List Sg} {L : List Sec} {body : List Nat}
theorem appendOk (h : LogOk w B lb d frm segs nx run fr vl l L q) (hd : IsDev w d sb L c) (hc : c + 20 < 1099511627776) (hnx : 1 ≤ nx ∧ nx < 140737488355328) (hrun : run < 4294967200) (hq : q + 2 < 281474976710656)
    (hsg : 3 ≤ segs ∧ segs ≤ 199) (hlt : frm + segs * 8 ≤ L.length) (hb : Rd w bv body) (hbl : 1 ≤ body.length ∧ body.length ≤ 300) (hbb : ∀ c ∈ body, c < 256) (hbs : ∀ q, bv.ownBlock = some q → q ∉ d :: sb :: lgF lb vl l) :
    Calls Try.prog 20 #[.pointer (some ⟨lb, 0, none⟩), bv] w fun e w' => e = .returned (.tuple #[.int .i64 (nx : Int), .int .i64 0]) ∧ ∃ vl' l' L' c', LogOk w' B lb d frm segs (nx + 1) run false vl' l' L' (q + 1) ∧ IsDev w' d sb L' c' ∧ c' ≤ c + 12 ∧
      l'.map Sg.ps = appP segs (l.map Sg.ps) nx body ∧ Keep (d :: sb :: lgF lb vl l) w w' ∧ (∀ q ∈ lgF lb vl' l', q ∈ lgF lb vl l ∨ w.heap.size ≤ q) ∧ L'.length = L.length ∧ (∀ i, (i < frm ∨ frm + segs * 8 ≤ i) → nowF L' i = nowF L i) := by
  have hmx := hd.max
  have hrok : Rcd.ok (nx, body) := ⟨hbl.1, hbl.2, by show nx < _; omega, hbb⟩
  have hmemS : ∀ s ∈ l, s.ps ∈ l.map Sg.ps := fun s hs => List.mem_map.2 ⟨s, hs, rfl⟩
  have hnear : ∀ s ∈ l, 1 ≤ s.gen := fun s hs => (h.say.near (hmemS s hs)).2
  have hll : l.length ≤ segs := by have := h.say.len; simpa using this
  refine (append_any h.at_ hd hc (by omega) (fun s hs => ⟨hnear s hs, by have := (h.say.small _ (hmemS s hs)).1; show s.gen + 1 < _; have e : s.ps.gen = s.gen := rfl; omega, by have := (h.say.small _ (hmemS s hs)).2; have e : s.ps.base = s.base := rfl; omega⟩) (by omega) (by omega) ⟨by omega, by omega⟩ (by omega) hlt (fun s hs => (h.say.ok _ (hmemS s hs)).1) (fun s hs => ⟨(h.say.ok _ (hmemS s hs)).2.1, by
      have h1 := recs_len s.rs (h.say.ok _ (hmemS s hs)).1
      have h2 : (encRs s.rs).length ≤ 378 := (h.say.ok _ (hmemS s hs)).2.1
      have h3 : s.rs.length = s.recs.length := by simp [Sg.rs]
      omega⟩) hb hbl hbb hbs).mono ?_
  rintro e w' ⟨rfl, wc, vl1, A, s, L1, c1, vb, vr, cv, c', hR, hlog, hdev, hcc, hK, hF⟩
  have hsay := (h.say.app (by omega) hnx body hrok).1
  -- what the segments say
  have hL1 : L1.length = L.length ∧ DevOk L1 frm segs run ((A ++ [s]).map Sg.ps) ∧ (∀ i, (i < frm ∨ frm + segs * 8 ≤ i) → nowF L1 i = nowF L i) ∧ addP ((A ++ [s]).map Sg.ps) (nx, body) = appP segs (l.map Sg.ps) nx body := by
    unfold appP
    rcases hR.how with ⟨hn, hl1, rfl, rfl⟩ | ⟨hn, rfl, ⟨p, hl1, hp⟩, rfl⟩
    · rw [hl1]
      have hnb : needB (l.map Sg.ps) body.length = false := by
        cases hh : needB (l.map Sg.ps) body.length with
        | false => rfl
        | true => exact absurd ((need_ps l body.length).2 hh) hn
      rw [hnb]
      exact ⟨rfl, h.dev, fun _ _ => rfl, rfl⟩
    · rw [hl1, begin_ps, (need_ps l body.length).1 hn]
      have e : nextGen l - 1 = lastG (l.map Sg.ps) := by rw [nextGen_ps]; omega
      have e2 : nextGen l = lastG (l.map Sg.ps) + 1 := nextGen_ps l
      rw [e, e2]
      refine ⟨by simp, h.dev.begin h.say (by omega) hlt hrun (by omega) _ _, fun i hi => ?_, rfl⟩
      have hk0 : lastG (l.map Sg.ps) % segs < segs := Nat.mod_lt _ (by omega)
      rw [nowF_flush, nowF_set _ _ _ _ (by omega), if_neg (by omega)]
  obtain ⟨hLl, hD1, hout, hap⟩ := hL1
  have hmap : (A ++ [s.add vb vr nx body cv]).map Sg.ps = appP segs (l.map Sg.ps) nx body := by
    rw [← hap, List.map_append, List.map_append, List.map_cons, List.map_nil, List.map_cons, List.map_nil, addP_snoc]
    simp [Sg.add, Sg.ps, Sg.rs]
  rw [← hmap] at hsay
  have hps : (A ++ [s.add vb vr nx body cv]).map Sg.ps = A.map Sg.ps ++ [⟨s.gen, s.base, s.rs ++ [(nx, body)]⟩] := by
    simp [Sg.add, Sg.ps, Sg.rs]
  have hbyt : ∀ c ∈ encRs (s.rs ++ [(nx, body)]), c < 256 := by
    have := (hsay.ok ⟨s.gen, s.base, s.rs ++ [(nx, body)]⟩ (by rw [hps]; simp)).1
    exact encRs_byte _ this
  have hgs : s.gen < 281474976710656 := by
    have := (hsay.small ⟨s.gen, s.base, s.rs ++ [(nx, body)]⟩ (by rw [hps]; simp)).1
    have e : (PS.mk s.gen s.base (s.rs ++ [(nx, body)])).gen = s.gen := rfl
    omega
  have hD2 := DevOk.add (by rw [List.map_append] at hD1; exact hD1) (by omega) (by rw [hLl]; exact hlt) hrun (nx, body) (by
    rw [hps] at hsay
    exact hsay.apartL) hgs hbyt
  have hk : (s.gen - 1) % segs < segs := Nat.mod_lt _ (by omega)
  refine ⟨rfl, vl1, A ++ [s.add vb vr nx body cv], _, c', ⟨hlog, ?_, hsay⟩, hdev, hcc, hmap, hK, hF, ?_, ?_⟩
  · rw [hps]
    exact hD2.congr (fun i _ _ => nowF_fl fr _ i) (by omega)
  · rw [fl_len, wrSec_len, hLl]
  · intro i hi
    rw [nowF_fl, wrSec_now _ _ _ _ _ _ _ (by rw [hLl]; omega) 8 (Nat.le_refl _), if_neg (by omega)]
    exact hout i hi
end
theorem sorted_eq : ∀ l m : List PS, l.Pairwise (fun a b => a.gen < b.gen) → m.Pairwise (fun a b => a.gen < b.gen) → (∀ x, x ∈ l ↔ x ∈ m) → l = m
  | [], [], _, _, _ => rfl
  | [], y :: m, _, _, h => absurd ((h y).2 (by simp)) (by simp)
  | x :: l, [], _, _, h => absurd ((h x).1 (by simp)) (by simp)
  | x :: l, y :: m, hl, hm, h => by
    rw [List.pairwise_cons] at hl hm
    have hxy : x = y := by
      have h1 := (h x).1 (by simp)
      have h2 := (h y).2 (by simp)
      rcases List.mem_cons.1 h1 with e | e
      · exact e
      · rcases List.mem_cons.1 h2 with e2 | e2
        · exact e2.symm
        · have := hm.1 x e
          have := hl.1 y e2
          omega
    subst hxy
    congr 1
    refine sorted_eq l m hl.2 hm.2 (fun z => ⟨fun hz => ?_, fun hz => ?_⟩)
    · rcases List.mem_cons.1 ((h z).1 (List.mem_cons_of_mem _ hz)) with e | e
      · subst e; have := hl.1 z hz; omega
      · exact e
    · rcases List.mem_cons.1 ((h z).2 (List.mem_cons_of_mem _ hz)) with e | e
      · subst e; have := hm.1 z hz; omega
      · exact e
theorem nodup_le : ∀ l m : List Nat, l.Nodup → (∀ x ∈ l, x ∈ m) → l.length ≤ m.length
  | [], _, _, _ => Nat.zero_le _
  | x :: l, m, hl, h => by
    rw [List.nodup_cons] at hl
    have hx := h x (by simp)
    have ih := nodup_le l (m.erase x) hl.2 (fun y hy => (List.mem_erase_of_ne (by rintro rfl; exact hl.1 hy)).2 (h y (by simp [hy])))
    rw [List.length_erase_of_mem hx] at ih
    have := List.length_pos_of_mem hx
    simp; omega
theorem SOk.sorted {segs nx q : Nat} {S : List PS} (h : SOk segs S nx q) : S.Pairwise (fun a b => a.gen < b.gen) := by
  obtain ⟨g0, _, _, hg⟩ := h.gens
  rw [List.pairwise_iff_getElem]
  intro i j hi hj hij
  rw [hg i _ (List.getElem?_eq_getElem hi), hg j _ (List.getElem?_eq_getElem hj)]
  omega
theorem SOk.oneslot {segs nx q : Nat} {S : List PS} (h : SOk segs S nx q) {a b : PS} (ha : a ∈ S) (hb : b ∈ S) (he : (a.gen - 1) % segs = (b.gen - 1) % segs) : a = b := by
  obtain ⟨g0, h1, _, hg⟩ := h.gens
  obtain ⟨i, hi⟩ := List.getElem?_of_mem ha
  obtain ⟨j, hj⟩ := List.getElem?_of_mem hb
  have e1 := hg i a hi
  have e2 := hg j b hj
  have l1 := (List.getElem?_eq_some_iff.1 hi).1
  have l2 := (List.getElem?_eq_some_iff.1 hj).1
  have := h.len
  by_cases hij : i = j
  · subst hij; rw [hi] at hj; injection hj
  · exfalso
    rcases Nat.lt_or_gt_of_ne hij with h3 | h3
    · exact mod_ne (m := segs) (show a.gen - 1 < b.gen - 1 by omega) (by omega) he
    · exact mod_ne (m := segs) (show b.gen - 1 < a.gen - 1 by omega) (by omega) he.symm
def slotP (S : List PS) (segs : Nat) (f : PS → Nat → Nat) (k : Nat) : Option PSeg := (S.find? (fun s => (s.gen - 1) % segs == k)).map (fun s => ⟨s.gen, s.base, s.rs, f s⟩)
theorem slotP_mem {S : List PS} {segs nx q : Nat} {f : PS → Nat → Nat} (h : SOk segs S nx q) (hsg : 0 < segs) (x : PS) : x ∈ (present (slotP S segs f) segs).map PSeg.ps ↔ x ∈ S := by
  constructor
  · intro hx
    obtain ⟨y, hy, rfl⟩ := List.mem_map.1 hx
    obtain ⟨k, hk, hP⟩ := present_mem hy
    unfold slotP at hP
    cases hf : S.find? (fun s => (s.gen - 1) % segs == k) with
    | none => rw [hf] at hP; cases hP
    | some s =>
      rw [hf] at hP
      injection hP with hP
      subst hP
      exact List.mem_of_find?_eq_some hf
  · intro hx
    have hk : (x.gen - 1) % segs < segs := Nat.mod_lt _ hsg
    cases hf : S.find? (fun s => (s.gen - 1) % segs == (x.gen - 1) % segs) with
    | none =>
      have := List.find?_eq_none.1 hf x hx
      simp at this
    | some s =>
      have h1 := List.mem_of_find?_eq_some hf
      have h2 := List.find?_some hf
      have h3 : s = x := h.oneslot h1 hx (by simpa using h2)
      subst h3
      refine List.mem_map.2 ⟨⟨s.gen, s.base, s.rs, f s⟩, ?_, rfl⟩
      unfold present
      refine List.mem_filterMap.2 ⟨(s.gen - 1) % segs, List.mem_range.2 hk, ?_⟩
      unfold slotP
      rw [hf]; rfl
theorem slotP_apart {S : List PS} {segs : Nat} {f : PS → Nat → Nat} : ∀ n, ((present (slotP S segs f) n).map PSeg.ps).Pairwise (fun a b => a.gen ≠ b.gen)
  | 0 => by simp [present]
  | n + 1 => by
    rw [present_succ, List.map_append, List.pairwise_append]
    refine ⟨slotP_apart n, ?_, ?_⟩
    · cases slotP S segs f n <;> simp
    · intro a ha b hb
      obtain ⟨x, hx, rfl⟩ := List.mem_map.1 ha
      obtain ⟨y, hy, rfl⟩ := List.mem_map.1 hb
      obtain ⟨k, hk, hP⟩ := present_mem hx
      have hQ := Option.mem_toList.1 hy
      have key : ∀ {j : Nat} {z : PSeg}, slotP S segs f j = some z → (z.gen - 1) % segs = j := by
        intro j z hz
        unfold slotP at hz
        cases hf : S.find? (fun s => (s.gen - 1) % segs == j) with
        | none => rw [hf] at hz; cases hz
        | some s =>
          rw [hf] at hz
          injection hz with hz
          subst hz
          simpa using List.find?_some hf
      have e1 := key hP
      have e2 := key hQ
      intro he
      have he2 : x.gen = y.gen := he
      rw [he2, e2] at e1
      omega
theorem DevOk.onDev {L : List Sec} {frm segs run nx q : Nat} {S : List PS} (h : DevOk L frm segs run S) (hS : SOk segs S nx q) (hsg : 0 < segs) (hq : q < 281474976710656) : ∃ P, OnDev L frm segs run P ∧ (∀ x, x ∈ (present P segs).map PSeg.ps ↔ x ∈ S) ∧ ((present P segs).map PSeg.ps).Pairwise (fun a b => a.gen ≠ b.gen) := by
  obtain ⟨f, hf⟩ : ∃ f : PS → Nat → Nat, ∀ s ∈ S, SegDev L (frm + (s.gen - 1) % segs * 8) s.gen s.base (encRs s.rs) (f s) := by
    classical
    refine ⟨fun s => if hs : s ∈ S then (h.seg s hs).choose else fun _ => 0, fun s hs => ?_⟩
    simp only [hs, dite_true]
    exact (h.seg s hs).choose_spec
  refine ⟨slotP S segs f, ⟨fun k hk => ?_, h.runs⟩, slotP_mem hS hsg, slotP_apart segs⟩
  unfold slotP
  cases hfd : S.find? (fun s => (s.gen - 1) % segs == k) with
  | none =>
    intro i hi
    refine h.zero k hk (fun s hs => ?_) i hi
    have := List.find?_eq_none.1 hfd s hs
    simpa using this
  | some s =>
    have h1 := List.mem_of_find?_eq_some hfd
    have h2 : (s.gen - 1) % segs = k := by simpa using List.find?_some hfd
    show SegDev L (frm + k * 8) s.gen s.base (encRs s.rs) (f s) ∧ _ ∧ _
    refine ⟨by rw [← h2]; exact hf s h1, ⟨(hS.ok s h1).1, (hS.ok s h1).2.1, ⟨(hS.near h1).2, ?_⟩, ?_⟩, h2⟩
    · have := (hS.small s h1).1
      show s.gen < _; omega
    · have := (hS.small s h1).2
      show s.base < _; omega
def nextP (S : List PS) : Nat := match S.getLast? with
  | none => 1
  | some s => match s.rs.getLast? with
    | none => s.base + 64
    | some r => r.1 + 1 + 64
theorem nextPos_ps (l : List Sg) : nextPos l = nextP (l.map Sg.ps) := by
  unfold nextPos nextP
  rw [List.getLast?_map]
  cases l.getLast? <;> rfl
theorem SOk.next {segs nx q : Nat} {S : List PS} (h : SOk segs S nx q) (hnx : 1 ≤ nx) : 1 ≤ nextP S ∧ nextP S ≤ nx + 64 ∧ ∀ r ∈ S.flatMap PS.rs, r.1 < nextP S := by
  unfold nextP
  cases hgl : S.getLast? with
  | none =>
    have : S = [] := List.getLast?_eq_none_iff.1 hgl
    subst this
    exact ⟨Nat.le_refl _, by show 1 ≤ _; omega, by simp⟩
  | some s =>
    obtain ⟨A, rfl⟩ := List.getLast?_eq_some_iff.1 hgl
    have hne := (h.ok s (by simp)).2.2
    cases hrl : s.rs.getLast? with
    | none => exact absurd (List.getLast?_eq_none_iff.1 hrl) hne
    | some r =>
      obtain ⟨R, hR⟩ := List.getLast?_eq_some_iff.1 hrl
      have hfm : (A ++ [s]).flatMap PS.rs = (A.flatMap PS.rs ++ R) ++ [r] := by
        rw [List.flatMap_append, List.flatMap_cons, List.flatMap_nil, List.append_nil, hR, List.append_assoc]
      have hb := h.below r (by rw [hfm]; simp)
      have hp := h.pos
      rw [hfm, List.pairwise_append] at hp
      simp only [hrl]
      show 1 ≤ r.1 + 1 + 64 ∧ r.1 + 1 + 64 ≤ nx + 64 ∧ ∀ y ∈ (A ++ [s]).flatMap PS.rs, y.1 < r.1 + 1 + 64
      refine ⟨by omega, by omega, fun y hy => ?_⟩
      rw [hfm] at hy
      rcases List.mem_append.1 hy with hy | hy
      · have := hp.2.2 y hy r (by simp); omega
      · simp at hy; subst hy; omega
theorem SOk.reopened {segs nx q : Nat} {S : List PS} (h : SOk segs S nx q) (hnx : 1 ≤ nx) : SOk segs S (nextP S) q :=
  ⟨h.len, h.gens, h.small, h.ok, h.pos, fun r hr => ⟨(h.below r hr).1, (h.next hnx).2.2 r hr⟩, h.tight⟩
theorem openOk {w : World} {d sb c frm segs nx run q : Nat} {S : List PS} {L : List Sec} (hd : IsDev w d sb L c) (h : DevOk L frm segs run S) (hS : SOk segs S nx q) (hnx : 1 ≤ nx) (hrun : run < 4294967200) (hq : q < 281474976710656) (hsg : 3 ≤ segs ∧ segs ≤ 199) (hlt : frm + segs * 8 ≤ L.length) (hn : S.length ≤ 12) :
    Calls Try.prog 17 #[.pointer (some ⟨d, 0, none⟩), .int .i64 (frm : Int), .int .i64 (segs : Int)] w fun e w' => ∃ lb vl l run', e = .returned (.tuple #[.pointer (some ⟨lb, 0, none⟩), .int .i64 0]) ∧ LogOk w' w.heap.size lb d frm segs (nextP S) run' true vl l L q ∧ l.map Sg.ps = S ∧ run' ≤ run + 1 ∧ Keep [] w w' := by
  obtain ⟨P, hP, hmem, hne⟩ := h.onDev hS (by omega) hq
  have hlen : (present P segs).length ≤ 12 := by
    have h1 := nodup_le (((present P segs).map PSeg.ps).map PS.gen) (S.map PS.gen) (by
      unfold List.Nodup
      rw [List.pairwise_map]
      exact hne) (by
      intro x hx
      obtain ⟨y, hy, rfl⟩ := List.mem_map.1 hx
      exact List.mem_map.2 ⟨y, (hmem y).1 hy, rfl⟩)
    simp at h1
    omega
  have hgen : ∀ a ∈ present P segs, ∀ b ∈ present P segs, b.gen < a.gen + segs := by
    intro a ha b hb
    have h1 := (hmem a.ps).1 (List.mem_map.2 ⟨a, ha, rfl⟩)
    have h2 := (hmem b.ps).1 (List.mem_map.2 ⟨b, hb, rfl⟩)
    have h3 := (hS.near h1).1
    have h4 := hS.last h2
    have e1 : a.ps.gen = a.gen := rfl
    have e2 : b.ps.gen = b.gen := rfl
    omega
  refine (open_any hd ⟨hsg.1, by omega⟩ hlt hP hrun hlen hgen).mono ?_
  rintro e w' ⟨lb, vl, l, run', rfl, hlog, hpw, hperm, hr1, hrM, hrr, hK⟩
  have hl : l.map Sg.ps = S := by
    refine sorted_eq _ _ ?_ hS.sorted (fun x => (hperm.mem_iff).trans (hmem x))
    have h1 : (l.map Sg.ps).Pairwise (fun a b => a.gen ≠ b.gen) := (hperm.pairwise_iff (fun h => Ne.symm h)).2 hne
    have h2 : (l.map Sg.ps).Pairwise (fun a b => a.gen ≤ b.gen) := by
      rw [List.pairwise_map]; exact hpw
    exact (h1.and h2).imp (fun ⟨a, b⟩ => by omega)
  refine ⟨lb, vl, l, run', rfl, ⟨?_, ?_, ?_⟩, hl, hrM, hK⟩
  · rw [← hl, ← nextPos_ps]; exact hlog
  · rw [hl]
    exact ⟨h.seg, h.zero, fun i h1 h2 => Nat.le_of_lt (hrr i h1 h2), h.old⟩
  · rw [hl]; exact hS.reopened hnx
/-- A device on which nothing was ever written. -/
theorem DevOk.fresh {L : List Sec} {frm segs : Nat} (hz : ∀ i, frm ≤ i → i < frm + segs * 8 → nowF L i = List.replicate 64 0) (hsg : 0 < segs) : DevOk L frm segs 0 [] := by
  refine ⟨by simp, fun k hk _ i hi => hz _ (by omega) (by omega), fun i h1 h2 => ?_, fun i h1 h2 => .inl (zero_bad L i (hz i h1 h2))⟩
  rw [runOf_eq, hz i h1 h2]
  decide
theorem SOk.fresh (segs q : Nat) : SOk segs [] 1 q := ⟨Nat.zero_le _, ⟨1, Nat.le_refl _, fun _ => rfl, by simp⟩, by simp, by simp, by simp, by simp, by simp⟩
theorem nowF_zero (n i : Nat) : nowF (List.replicate n zeroSec) i = List.replicate 64 0 := by
  unfold nowF
  rw [List.getD_eq_getElem?_getD]
  by_cases h : i < n
  · rw [List.getElem?_replicate, if_pos h]; rfl
  · rw [List.getElem?_eq_none (by simp; omega)]; rfl
/-- A crash of a device that was flushed. -/
theorem nowF_crash (L : List Sec) (keep : List Bool) (i : Nat) (hi : i < L.length) : nowF (crashN (L.map flushSec) keep (L.map flushSec).length) i = nowF L i := by
  unfold nowF crashN
  rw [List.getD_eq_getElem?_getD, List.getElem?_map, List.getElem?_range (by simpa using hi)]
  show crashNow (L.map flushSec) keep i = _
  unfold crashNow
  have e : (L.map flushSec).getD i zeroSec = flushSec (L.getD i zeroSec) := by
    rw [List.getD_eq_getElem?_getD, List.getD_eq_getElem?_getD, List.getElem?_map, List.getElem?_eq_getElem hi]; rfl
  rw [e]
  simp [flushSec]
end Go.Proofs.Ytpibpapolcdeiaa
/- slog: two records. -/
namespace Go.Proofs.Ytpibpapolcdeiaa
open Go.ChangeShapes Go.WideShapes Go.ChangeAt Go.RowKit
set_option linter.unusedVariables false
set_option linter.unusedSimpArgs false
set_option maxRecDepth 100000

theorem open_new {w : World} {d sb c : Nat} {n : Nat} (hd : IsDev w d sb (List.replicate n zeroSec) c) (frm segs : Nat) (hsg : 3 ≤ segs ∧ segs ≤ 199) (hlt : frm + segs * 8 ≤ n) :
    Calls Try.prog 17 #[.pointer (some ⟨d, 0, none⟩), .int .i64 (frm : Int), .int .i64 (segs : Int)] w fun e w' => ∃ lb vl l run', e = .returned (.tuple #[.pointer (some ⟨lb, 0, none⟩), .int .i64 0]) ∧ LogOk w' w.heap.size lb d frm segs 1 run' true vl l (List.replicate n zeroSec) 0 ∧ l.map Sg.ps = [] ∧ run' ≤ 1 ∧ Keep [] w w' :=
  openOk hd (DevOk.fresh (fun i _ _ => nowF_zero n i) (by omega)) (SOk.fresh segs 0) (Nat.le_refl _) (by decide) (by decide) hsg (by simpa using hlt) (by decide)
section
variable {w w' w0 : World} {B lb d sb c frm segs nx run q : Nat} {fr : Bool} {vl : Value} {l : List Sg} {L : List Sec}
theorem logKeep (h : LogAt w B lb d frm segs nx run fr vl l) (hB : w0.heap.size ≤ B) (hd : w0.heap.size ≤ d) (hsb : w0.heap.size ≤ sb) (K : Keep [] w0 w) (k : Keep (d :: sb :: lgF lb vl l) w w') : Keep [] w0 w' :=
  K.then k (fun x hx hlt => by
    simp only [List.mem_cons] at hx
    rcases hx with h1 | h1 | h1
    · omega
    · omega
    · have := (h.lt x h1).1; omega)
theorem LogOk.keep {S : List Nat} (h : LogOk w B lb d frm segs nx run fr vl l L q) (k : Keep S w w') (hS : ∀ x ∈ lgF lb vl l, x ∉ S) : LogOk w' B lb d frm segs nx run fr vl l L q := ⟨h.at_.keep k hS, h.dev, h.say⟩
theorem LogOk.still (h : LogOk w B lb d frm segs nx run fr vl l L q) (k : Keep [] w w') : LogOk w' B lb d frm segs nx run fr vl l L q := h.keep k (by simp)
/-- A block that is new is none of the log's. -/
theorem LogAt.newNot (h : LogAt w B lb d frm segs nx run fr vl l) (hD : IsDev w d sb L c) {b : Nat} (hb : w.heap.size ≤ b) : b ∉ d :: sb :: lgF lb vl l := by
  intro hm
  simp only [List.mem_cons] at hm
  rcases hm with h1 | h1 | h1
  · have := hD.dev.lt; omega
  · have := hD.secs.lt; omega
  · have := (h.lt b h1).2; omega
theorem LogOk.flushed (h : LogOk w B lb d frm segs nx run fr vl l L q) (hsg : 0 < segs) (k : Keep [d, sb] w w') (hD : IsDev w d sb L c) : LogOk w' B lb d frm segs nx run fr vl l (L.map flushSec) q :=
  ⟨h.at_.keep k (h.at_.apart hD), h.dev.flush hsg, h.say⟩
end
theorem u8s_rd (w : World) (cs : List Nat) (b : Nat) (hb : b = w.heap.size) (fr : Nat × Nat) : Rd (w.alloc (.cells (bcs cs).toArray 5 fr)) (.slice (some ⟨b, 0, none⟩) cs.length cs.length) cs := by
  subst hb
  refine ⟨by simp, _, cs.length, rfl, Nat.le_refl _, fun _ => ⟨w.heap.size, 0, rfl, by simp, fun i hi => ?_⟩⟩
  rw [Nat.zero_add, World.cell?_alloc_mark]
  simp
section
variable {w : World} {B lb d sb c frm segs nx run q : Nat} {fr : Bool} {vl : Value} {l : List Sg} {L : List Sec}
/-- Append of bytes that have just been laid. -/
theorem append_new (h : LogOk w B lb d frm segs nx run fr vl l L q) (hd : IsDev w d sb L c) (hc : c + 20 < 1099511627776) (hnx : 1 ≤ nx ∧ nx < 140737488355328) (hrun : run < 4294967200) (hq : q + 2 < 281474976710656)
    (hsg : 3 ≤ segs ∧ segs ≤ 199) (hlt : frm + segs * 8 ≤ L.length) (body : List Nat) (n : Nat) (hn : n = body.length) (cs : Array Value) (hcs : cs = (bcs body).toArray) (ft : Nat × Nat) (hbl : 1 ≤ body.length ∧ body.length ≤ 300) (hbb : ∀ c ∈ body, c < 256) :
    Calls Try.prog 20 #[.pointer (some ⟨lb, 0, none⟩), .slice (some ⟨w.heap.size, 0, none⟩) n n] (w.alloc (.cells cs 5 ft)) fun e w' => e = .returned (.tuple #[.int .i64 (nx : Int), .int .i64 0]) ∧ ∃ vl' l' L' c', LogOk w' B lb d frm segs (nx + 1) run false vl' l' L' (q + 1) ∧ IsDev w' d sb L' c' ∧ c' ≤ c + 12 ∧
      l'.map Sg.ps = appP segs (l.map Sg.ps) nx body ∧ Keep (d :: sb :: lgF lb vl l) w w' ∧ (∀ q ∈ lgF lb vl' l', q ∈ lgF lb vl l ∨ w.heap.size ≤ q) ∧ L'.length = L.length ∧ (∀ i, (i < frm ∨ frm + segs * 8 ≤ i) → nowF L' i = nowF L i) := by
  subst hn hcs
  have K := (Keep.refl [] w).alloc (.cells (bcs body).toArray 5 ft)
  have hrd := u8s_rd w body w.heap.size rfl ft
  have hnot := h.at_.newNot hd (Nat.le_refl w.heap.size)
  refine (appendOk (h.still K) (hd.keep K (by simp) (by simp)) hc hnx hrun hq hsg hlt hrd hbl hbb (fun x hx => by
    have e : w.heap.size = x := Option.some.inj hx
    subst e; exact hnot)).mono ?_
  rintro e w' ⟨rfl, vl', l', L', c', h1, h2, h3, h4, h5, h6, h7, h8⟩
  exact ⟨rfl, vl', l', L', c', h1, h2, h3, h4, (K.mono (by simp)).trans h5, fun x hx => (h6 x hx).imp id (fun hh => Nat.le_trans K.size hh), h7, h8⟩
end
theorem crashN_len (L : List Sec) (keep : List Bool) (n : Nat) : (crashN L keep n).length = n := by unfold crashN; simp
theorem flatR (l : List Sg) : l.flatMap Sg.rs = (l.map Sg.ps).flatMap PS.rs := by
  induction l with
  | nil => rfl
  | cons s l ih => rw [List.flatMap_cons, ih, List.map_cons, List.flatMap_cons]; rfl
end Go.Proofs.Ytpibpapolcdeiaa
/- slog: plain laws: what a full log holds; many records. -/
namespace Go.Proofs.Ytpibpapolcdeiaa
open Go.ChangeShapes Go.WideShapes Go.ChangeAt Go.RowKit
set_option linter.unusedVariables false
set_option linter.unusedSimpArgs false
set_option maxRecDepth 100000

def costR (l : List Rcd) : Nat := (l.map (fun r => r.2.length + 60)).sum
theorem costR_app (l m : List Rcd) : costR (l ++ m) = costR l + costR m := by unfold costR; simp
theorem costR_enc (l : List Rcd) : costR l = (encRs l).length + 52 * l.length := by
  induction l with
  | nil => rfl
  | cons r l ih =>
    have e : encRs (r :: l) = encR r ++ encRs l := by simp [encRs]
    have e2 : costR (r :: l) = r.2.length + 60 + costR l := by simp [costR]
    rw [e, e2, List.length_append, encR_len, ih, List.length_cons]
    omega
theorem costR_drop (l : List Rcd) (k : Nat) : costR (l.drop k) ≤ costR l := by
  conv => rhs; rw [← List.take_append_drop k l, costR_app]
  omega
/-- Neighbours are full. -/
def Tight (S : List PS) : Prop := ∀ i a b r, S[i]? = some a → S[i + 1]? = some b → b.rs.head? = some r → 370 < (encRs a.rs).length + r.2.length
theorem cost_pairs : ∀ (n : Nat) (S : List PS), S.length ≤ n → Tight S → (∀ s ∈ S, s.rs ≠ []) → 483 * (S.length / 2) ≤ costR (S.flatMap PS.rs)
  | 0, S, hn, _, _ => by
    have : S.length = 0 := by omega
    rw [this]; omega
  | n + 1, S, hn, ht, hne => by
    match S, hn, ht, hne with
    | [], _, _, _ => simp
    | [a], _, _, _ => simp
    | a :: b :: T, hn, ht, hne =>
      have ih := cost_pairs n T (by simp at hn; omega) (fun i x y r hx hy hr => ht (i + 2) x y r (by simpa using hx) (by simpa using hy) hr) (fun s hs => hne s (by simp [hs]))
      have hb := hne b (by simp)
      cases hbr : b.rs with
      | nil => exact absurd hbr hb
      | cons r R =>
        have h1 := ht 0 a b r rfl rfl (by rw [hbr]; rfl)
        have ha := hne a (by simp)
        have hal : 1 ≤ a.rs.length := List.length_pos_iff.2 ha
        have e1 : costR ((a :: b :: T).flatMap PS.rs) = costR a.rs + (costR b.rs + costR (T.flatMap PS.rs)) := by
          rw [List.flatMap_cons, List.flatMap_cons, costR_app, costR_app]
        have e2 := costR_enc a.rs
        have e3 : costR b.rs = r.2.length + 60 + costR R := by rw [hbr]; simp [costR]
        rw [e1, e2, e3]
        simp only [List.length_cons]
        omega
theorem SOk.cost {segs nx q : Nat} {S : List PS} (h : SOk segs S nx q) (hs : 3 ≤ segs) (hl : S.length = segs) : 200 * (segs - 2) < costR (S.flatMap PS.rs) := by
  have h1 := cost_pairs S.length S (Nat.le_refl _) h.tight (fun s hs => (h.ok s hs).2.2)
  rw [hl] at h1
  omega
/-- The log's records are the last ones of all; if elder ones are gone it is full. -/
structure Tail (segs : Nat) (S : List PS) (all : List Rcd) : Prop where
  tail : ∃ k, S.flatMap PS.rs = all.drop k ∧ k ≤ all.length ∧ (0 < k → S.length = segs)
theorem Tail.nil (segs : Nat) : Tail segs [] [] := ⟨0, rfl, Nat.zero_le _, fun h => absurd h (by omega)⟩
theorem Tail.app {segs nx q : Nat} {S : List PS} {all : List Rcd} (h : Tail segs S all) (hS : SOk segs S nx q) (hsg : 2 ≤ segs) (hnx : 1 ≤ nx ∧ nx < 140737488355328) (body : List Nat) (hb : Rcd.ok (nx, body)) : Tail segs (appP segs S nx body) (all ++ [(nx, body)]) := by
  obtain ⟨k, hk, hkl, hfull⟩ := h.tail
  obtain ⟨hS', j, hj, hjf, hjl⟩ := hS.app hsg hnx body hb
  have hle := hS'.len
  by_cases hjk : j = 0
  · subst hjk
    rw [List.drop_zero, hk] at hj
    refine ⟨k, ?_, by simp; omega, fun h0 => ?_⟩
    · rw [hj, List.drop_append_of_le_length hkl]
    · have := hfull h0; omega
  · have hf := hjf (by omega)
    by_cases hkj : k + j ≤ all.length
    · refine ⟨k + j, ?_, by simp; omega, fun _ => hf⟩
      rw [hj, hk, List.drop_drop, List.drop_append_of_le_length hkj]
    · refine ⟨all.length, ?_, by simp, fun _ => hf⟩
      rw [hj, hk, List.drop_drop, List.drop_of_length_le (by omega), List.drop_left]
      rfl
/-- What counts least is there. -/
theorem Tail.there {segs nx q : Nat} {S : List PS} {all : List Rcd} (h : Tail segs S all) (hS : SOk segs S nx q) (hsg : 3 ≤ segs) (i : Nat) (hi : i < all.length) (hc : costR (all.drop i) ≤ 200 * (segs - 2)) : ∃ r, all[i]? = some r ∧ r ∈ S.flatMap PS.rs := by
  obtain ⟨k, hk, hkl, hfull⟩ := h.tail
  have hki : k ≤ i := by
    apply Nat.le_of_not_lt
    intro hlt
    have h1 := hS.cost hsg (hfull (by omega))
    rw [hk] at h1
    have h2 : all.drop k = (all.drop i).drop (k - i) := by rw [List.drop_drop]; congr 1; omega
    rw [h2] at h1
    have := costR_drop (all.drop i) (k - i)
    omega
  refine ⟨all[i], List.getElem?_eq_getElem hi, ?_⟩
  rw [hk]
  have e : all[i] = (all.drop k)[i - k]'(by rw [List.length_drop]; omega) := by
    rw [List.getElem_drop]
    congr 1; omega
  rw [e]
  exact List.getElem_mem _
end Go.Proofs.Ytpibpapolcdeiaa
