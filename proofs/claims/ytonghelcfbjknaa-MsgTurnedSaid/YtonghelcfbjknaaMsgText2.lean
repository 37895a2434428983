/- Package msg: text. -/
import Derived.Test.YtonghelcfbjknaaMsgText
namespace Go.Proofs.Ytonghelcfbjknaa
open Go.ChangeShapes Go.WideShapes Go.ChangeAt Go.RowKit
set_option linter.unusedVariables false
set_option linter.unusedSimpArgs false

def txtL (L : List Nat) (k : ByteArray) (ms os : List Int) (l : Nat → Bool) : List Nat := if l 10 = true then L ++ putText k ++ putNodes ms ++ putNodes os else if l 7 = true then L ++ putText k ++ putNodes ms else if l 4 = true then L ++ putText k else L
def txtV (v0 : Value) (l : Nat → Bool) (x : Nat → Value) : Value := if l 10 = true then x 10 else if l 7 = true then x 7 else if l 4 = true then x 4 else v0
def txtJ (w0 : World) (base : Nat) (V0 : Value) (L : List Nat) (mb : Nat) (m : Ms) (ma oa : Option Addr) (mcap ocap : Nat) (l : Nat → Bool) (x : Nat → Value) (w' : World) : Prop :=
  ∃ B3, (Onto w0 base 5 V0 (txtL L m.key m.mem m.old l) (txtV V0 l x) w') ∧
  (l 4 = true → l 0 = true) ∧
  (l 7 = true → l 4 = true) ∧
  (l 10 = true → l 7 = true) ∧
  (l 11 = true → l 10 = true) ∧
  (l 11 = false → x 11 = V0) ∧
  (l 0 = true → x 0 = V0) ∧
  (l 1 = true → x 1 = .pointer (some ⟨mb, 9, none⟩)) ∧
  (l 2 = true → x 2 = .string m.key) ∧
  (l 3 = true → l 4 = false → x 3 = .slice (some ⟨B3, 0, none⟩) 1 1 ∧ Blk w' B3 (strs [m.key]) 9) ∧
  (l 4 = true → True) ∧
  (l 5 = true → x 5 = .pointer (some ⟨mb, 18, none⟩)) ∧
  (l 6 = true → x 6 = .slice ma m.mem.length mcap) ∧
  (l 7 = true → True) ∧
  (l 8 = true → x 8 = .pointer (some ⟨mb, 20, none⟩)) ∧
  (l 9 = true → x 9 = .slice oa m.old.length ocap) ∧
  (l 10 = true → True) ∧
  (l 11 = true → x 11 = x 10)
def mrkL (L : List Nat) (xs : Int) (xk : ByteArray) (l : Nat → Bool) : List Nat := if l 8 = true then L ++ putAll [xs] ++ putText xk else if l 4 = true then L ++ putAll [xs] else L
def mrkV (v0 : Value) (l : Nat → Bool) (x : Nat → Value) : Value := if l 8 = true then x 8 else if l 4 = true then x 4 else v0
def mrkJ (w0 : World) (base : Nat) (V0 : Value) (L : List Nat) (t : Nat) (xs : Int) (xk : ByteArray) (l : Nat → Bool) (x : Nat → Value) (w' : World) : Prop :=
  ∃ B3 B7, (Onto w0 base 5 V0 (mrkL L xs xk l) (mrkV V0 l x) w') ∧
  (l 4 = true → l 0 = true) ∧
  (l 8 = true → l 4 = true) ∧
  (l 9 = true → l 8 = true) ∧
  (l 9 = false → x 9 = V0) ∧
  (l 0 = true → x 0 = V0) ∧
  (l 1 = true → x 1 = .pointer (some ⟨t, 0, none⟩)) ∧
  (l 2 = true → x 2 = .int .i64 xs) ∧
  (l 3 = true → l 4 = false → x 3 = .slice (some ⟨B3, 0, none⟩) 1 1 ∧ Blk w' B3 (ints [xs]) 2) ∧
  (l 4 = true → True) ∧
  (l 5 = true → x 5 = .pointer (some ⟨t, 1, none⟩)) ∧
  (l 6 = true → x 6 = .string xk) ∧
  (l 7 = true → l 8 = false → x 7 = .slice (some ⟨B7, 0, none⟩) 1 1 ∧ Blk w' B7 (strs [xk]) 9) ∧
  (l 8 = true → True) ∧
  (l 9 = true → x 9 = x 8)
theorem MayM.sz {m : Ms} (h : MayM m) : MsSz m := by
  have h1 := h.key
  have h2 := h.itsn
  have h3 := h.mksn
  have h4 : m.mem.length ≤ 5 := by rcases h.mem with h | h; omega; exact (nodesOk_len h).1
  have h5 : m.old.length ≤ 5 := by rcases h.old with h | h; omega; exact (nodesOk_len h).1
  refine ⟨by omega, ?_, fun y hy => ?_, fun y hy => by have := mksOk_all h.mks y hy; omega, by omega, by omega, by omega, by omega⟩
  · rcases h.it with h | h
    · rw [h]; decide
    · have := may_sizes h; omega
  · have := may_sizes (List.all_eq_true.1 h.its y hy); omega
theorem nodes_i64 {l : List Int} (h : l.length = 0 ∨ nodesOk l = true) : (∀ n ∈ l, I64 n) ∧ l.length ≤ 5 := by
  rcases h with h | h
  · rw [List.eq_nil_of_length_eq_zero h]; simp
  · exact ⟨(nodesOk_len h).2, (nodesOk_len h).1⟩
theorem putNodes_len {l : List Int} (h : l.length = 0 ∨ nodesOk l = true) : (putNodes l).length ≤ 60 := by
  have h1 := nodes_i64 h
  have := putAll_len ((l.length : Int) :: l) (by intro n hn; rcases List.mem_cons.1 hn with rfl | hn; exact ⟨by omega, by omega⟩; exact h1.1 n hn)
  unfold putNodes
  simp only [List.length_cons] at this
  omega
theorem putText_len' (k : ByteArray) (h : k.size ≤ 200) : (putText k).length ≤ k.size + 10 := by
  have h1 := leb_len 10 (zz (k.size : Int)) (by have := zz_lt (k.size : Int) (by omega) (by omega); omega) (by omega)
  unfold putText
  rw [List.length_append, sb_length]
  omega
theorem mNums_i64 {m : Ms} (h : MayM m) : ∀ n ∈ mNums m, I64 n := by
  have a1 := h.kind; have a2 := h.src; have a3 := h.dst; have a4 := h.epoch; have a5 := h.tick; have a6 := h.seq; have a7 := h.id; have a8 := h.base; have a9 := h.n; have a10 := h.op; have a11 := h.err
  have a12 := gN_i64 m.last
  intro n hn
  unfold mNums at hn
  simp only [List.mem_cons, List.not_mem_nil, or_false] at hn
  rcases hn with rfl | rfl | rfl | rfl | rfl | rfl | rfl | rfl | rfl | rfl | rfl | rfl <;> first | exact a12 | (unfold I64; omega)
theorem encIts_len (l : List It) : (encIts l).length ≤ 300 * l.length := by
  unfold encIts
  split
  · rename_i h
    have h' := List.all_eq_true.1 h
    clear h
    induction l with
    | nil => simp [putIts]
    | cons a t ih =>
      have h1 := putIt_len (h' a (by simp))
      have h2 := ih (fun y hy => h' y (by simp [hy]))
      have e : putIts (a :: t) = putIt a ++ putIts t := by simp [putIts]
      rw [e, List.length_append, List.length_cons]
      omega
  · simp
def GotText (w : World) (m : Ms) (e : Ending) (w' : World) : Prop := ∃ v, e = .returned v ∧ Buf w' w.heap.size 5 v (mText m) ∧ Keep [] w w'
set_option maxRecDepth 100000 in
set_option maxHeartbeats 16000000 in
theorem text_any {w : World} (m : Ms) (vi vk vm vo : Value) (h : MsRd w m vi vk vm vo) (hm : MayM m) :
    Calls Try.prog 29 #[msV m vi vk vm vo] w (GotText w m) := by
  have hM := Blk.new w (msC m vi vk vm vo) 29
  have h0 := h.alloc (.cells (msC m vi vk vm vo).toArray 29)
  have K0 := (Keep.refl [] w).alloc (.cells (msC m vi vk vm vo).toArray 29)
  obtain ⟨_, ia, icap, rfl, _, _⟩ := id h.its
  obtain ⟨_, ka, kcap, rfl, _, _⟩ := id h.mks
  obtain ⟨_, ma, mcap, rfl, _, _⟩ := id h.mem
  obtain ⟨_, oa, ocap, rfl, _, _⟩ := id h.old
  have c11 := msc_11 hM
  have HMM := Lib.hid hm
  have b1 := (nodes_i64 hm.mem).2
  have b2 := (nodes_i64 hm.old).2
  have b3 := hm.itsn
  have b4 := hm.mksn
  have HI1 := Lib.hid (nodes_i64 hm.mem).1
  have HI2 := Lib.hid (nodes_i64 hm.old).1
  have n1 := putNodes_len hm.mem
  have n2 := putNodes_len hm.old
  have n3 := putText_len' m.key (by have := hm.key; omega)
  have n4 := hm.key
  go_enter Try.func29, Try.ntmps29
  go_upto_if 9 with fail
  go_cut [3] (fun s wc => s = .int .i64 (gN m.last) ∧ w.alloc (.cells (msC m (.slice ia m.its.length icap) (.slice ka m.mks.length kcap) (.slice ma m.mem.length mcap) (.slice oa m.old.length ocap)).toArray 29) = wc)
  case first =>
    cases hla : m.last
    · rw [hla] at c11
      go_wp2_with fail
      go_meet
      exact ⟨by rw [hla]; rfl, rfl⟩
    · rw [hla] at c11
      go_wp2_with fail
      go_meet
      exact ⟨by rw [hla]; rfl, rfl⟩
  case rest =>
  obtain ⟨rfl, hwc⟩ := hcut
  rw [hwc] at hM h0 K0
  have hsz : wc.heap.size = w.heap.size + 1 := by rw [← hwc]; simp
  clear c11 hwc
  have c0 := msc_0 hM
  have c1 := msc_1 hM
  have c2 := msc_2 hM
  have c3 := msc_3 hM
  have c4 := msc_4 hM
  have c5 := msc_5 hM
  have c6 := msc_6 hM
  have c7 := msc_7 hM
  have c8 := msc_8 hM
  have c10 := msc_10 hM
  have c19 := msc_19 hM
  go_wp2_with fail
  have hrow : Rv (wc.alloc (.cells #[.int .i64 m.kind, .int .i64 m.src, .int .i64 m.dst, .int .i64 m.epoch, .int .i64 m.tick, .int .i64 m.seq, .int .i64 m.n, .int .i64 m.id, .int .i64 m.op, .int .i64 m.err, .int .i64 (gN m.last), .int .i64 m.base] 2)) 1 (.slice (some ⟨w.heap.size + 1, 0, none⟩) 12 12) [m.kind, m.src, m.dst, m.epoch, m.tick, m.seq, m.n, m.id, m.op, m.err, gN m.last, m.base].length (ints [m.kind, m.src, m.dst, m.epoch, m.tick, m.seq, m.n, m.id, m.op, m.err, gN m.last, m.base]) := Rv.new wc (ints [m.kind, m.src, m.dst, m.epoch, m.tick, m.seq, m.n, m.id, m.op, m.err, gN m.last, m.base]) 2 1 12 12 rfl (by omega) (w.heap.size + 1) hsz.symm
  have hi64 : ∀ n ∈ [m.kind, m.src, m.dst, m.epoch, m.tick, m.seq, m.n, m.id, m.op, m.err, gN m.last, m.base], I64 n := mNums_i64 hm
  have hbig : ([] : List Nat).length + 10 * [m.kind, m.src, m.dst, m.epoch, m.tick, m.seq, m.n, m.id, m.op, m.err, gN m.last, m.base].length ≤ 1099511627776 := by simp
  have hbs : w.heap.size + 1 ≤ (wc.alloc (.cells #[.int .i64 m.kind, .int .i64 m.src, .int .i64 m.dst, .int .i64 m.epoch, .int .i64 m.tick, .int .i64 m.seq, .int .i64 m.n, .int .i64 m.id, .int .i64 m.op, .int .i64 m.err, .int .i64 (gN m.last), .int .i64 m.base] 2)).heap.size := by simp; omega
  have HNU := Lib.hid (show [m.kind, m.src, m.dst, m.epoch, m.tick, m.seq, m.n, m.id, m.op, m.err, gN m.last, m.base] = mNums m from rfl)
  refine (Put_any (w.heap.size + 1) (.slice none 0 0) [] _ [m.kind, m.src, m.dst, m.epoch, m.tick, m.seq, m.n, m.id, m.op, m.err, gN m.last, m.base] (Buf.nil _ _ _) hrow (fun _ b hb hw => by cases hw) hi64 hbig hbs).mono ?_
  rintro e w2 ⟨v1, rfl, hO1⟩
  rw [HNU.out] at hO1
  have hB2 := hO1.buf
  have K2 : Keep [] w w2 := (K0.alloc (.cells #[.int .i64 m.kind, .int .i64 m.src, .int .i64 m.dst, .int .i64 m.epoch, .int .i64 m.tick, .int .i64 m.seq, .int .i64 m.n, .int .i64 m.id, .int .i64 m.op, .int .i64 m.err, .int .i64 (gN m.last), .int .i64 m.base] 2)).then hO1.keep (by intro x hx; simp [Value.ownBlock] at hx)
  have hTB := (hM.alloc (.cells #[.int .i64 m.kind, .int .i64 m.src, .int .i64 m.dst, .int .i64 m.epoch, .int .i64 m.tick, .int .i64 m.seq, .int .i64 m.n, .int .i64 m.id, .int .i64 m.op, .int .i64 m.err, .int .i64 (gN m.last), .int .i64 m.base] 2)).keep hO1.keep (by simp [Value.ownBlock])
  have hL1 : (putAll (mNums m)).length ≤ 120 := putAll_len _ (mNums_i64 hm)
  rw [List.nil_append] at hB2
  obtain ⟨L, hL⟩ : ∃ L, L = putAll (mNums m) := ⟨_, rfl⟩
  rw [← hL] at hB2 hL1
  have HL1 := Lib.hid hL
  have hsz2' := Nat.le_trans hbs hO1.keep.size
  clear hL hrow hO1 c0 c1 c2 c3 c4 c5 c6 c7 c8 c10 c19 hM h0 K0 hsz hm
  have HRD := Lib.hid (h.keep K2)
  have hszw := K2.size
  have hsz2 : w.heap.size + 1 ≤ w2.heap.size := hsz2'
  obtain ⟨va, vcap, rfl⟩ := hB2.slice
  have HV0 := Lib.hid (fun k hk => (hB2.lt k hk).1)
  have HSM := Lib.hid h.mem.lo
  have HSO := Lib.hid h.old.lo
  have hTv : w.heap.size ∉ (Value.slice va L.length vcap).ownBlock.toList := by intro hm'; have := (hB2.lt _ (Option.mem_toList.1 hm')).1; omega
  go_wp2_with fail
  refine wp_region_inv_own (txtJ w2 (w.heap.size + 1) (Value.slice va L.length vcap) L w.heap.size m ma oa mcap ocap) (by kernel_rfl) (by kernel_rfl) (by kernel_rfl) ?_ (Steps.cons 0 ?_ (Steps.cons 1 ?_ (Steps.cons 2 ?_ (Steps.cons 3 ?_ (Steps.cons 4 ?_ (Steps.cons 5 ?_ (Steps.cons 6 ?_ (Steps.cons 7 ?_ (Steps.cons 8 ?_ (Steps.cons 9 ?_ (Steps.cons 10 ?_ (Steps.cons 11 ?_ (Steps.nil 12))))))))))))) 12 rfl ?_
  · exact ⟨0, (Onto.refl hB2).drew0, fun h => absurd h (by decide), fun h => absurd h (by decide), fun h => absurd h (by decide), fun h => absurd h (by decide), fun _ => rfl, fun h => absurd h (by decide), fun h => absurd h (by decide), fun h => absurd h (by decide), fun h => absurd h (by decide), fun h => absurd h (by decide), fun h => absurd h (by decide), fun h => absurd h (by decide), fun h => absurd h (by decide), fun h => absurd h (by decide), fun h => absurd h (by decide), fun h => absurd h (by decide), fun h => absurd h (by decide)⟩
  · intro l x w' hJ hi hd
    obtain ⟨B3, hO, d4, d7, d10, d11, d0, h0, h1, h2, h3, h4, h5, h6, h7, h8, h9, h10, h11⟩ := hJ
    have l11 : l 11 = false := by cases h : l 11 with | false => rfl | true => have := d4 (d7 (d10 (d11 h))); rw [hi] at this; cases this
    have e11 := d0 l11
    refine Runs.of (b := ?bT0) ?eT0 ?_
    case eT0 => simp only [putV, Act.put, List.setIfInBounds_toArray, List.set_cons_zero, List.set_cons_succ, e11]; rfl
    intro K' hK'
    go_simp
    exact hK'.go _ rfl ⟨B3, hO, fun _ => rfl, d7, d10, d11, fun h => d0 h, fun _ => rfl, h1, h2, h3, h4, h5, h6, h7, h8, h9, h10, h11⟩
  · intro l x w' hJ hi hd
    obtain ⟨B3, hO, d4, d7, d10, d11, d0, h0, h1, h2, h3, h4, h5, h6, h7, h8, h9, h10, h11⟩ := hJ
    refine Runs.of (b := ?bT1) ?eT1 ?_
    case eT1 => simp only [putV, Act.put, List.setIfInBounds_toArray, List.set_cons_zero, List.set_cons_succ]; rfl
    intro K' hK'
    go_simp
    exact hK'.go _ rfl ⟨B3, hO, d4, d7, d10, d11, d0, h0, fun _ => rfl, h2, h3, h4, h5, h6, h7, h8, h9, h10, h11⟩
  · intro l x w' hJ hi hd
    obtain ⟨B3, hO, d4, d7, d10, d11, d0, h0, h1, h2, h3, h4, h5, h6, h7, h8, h9, h10, h11⟩ := hJ
    have e1 := h1 (show l 1 = true by first | exact hd.1 rfl | exact hd.2.1 rfl | exact hd.2.2.1 rfl | exact hd.2.2.2.1 rfl | exact hd.2.2.2.2.1 rfl | exact hd.2.2.2.2.2.1 rfl)
    have hT := hTB.keep hO.keep hTv
    have c := msc_9 hT
    refine Runs.of (b := ?bT2) ?eT2 ?_
    case eT2 => simp only [putV, Act.put, List.setIfInBounds_toArray, List.set_cons_zero, List.set_cons_succ, e1]; rfl
    intro K' hK'
    go_simp
    exact hK'.go _ rfl ⟨B3, hO, d4, d7, d10, d11, d0, h0, h1, fun _ => rfl, h3, h4, h5, h6, h7, h8, h9, h10, h11⟩
  · intro l x w' hJ hi hd
    obtain ⟨B3, hO, d4, d7, d10, d11, d0, h0, h1, h2, h3, h4, h5, h6, h7, h8, h9, h10, h11⟩ := hJ
    have e2 := h2 (show l 2 = true by first | exact hd.1 rfl | exact hd.2.1 rfl | exact hd.2.2.1 rfl | exact hd.2.2.2.1 rfl | exact hd.2.2.2.2.1 rfl | exact hd.2.2.2.2.2.1 rfl)
    refine Runs.of (b := ?bT3) ?eT3 ?_
    case eT3 => simp only [putV, Act.put, List.setIfInBounds_toArray, List.set_cons_zero, List.set_cons_succ, e2]; rfl
    intro K' hK'
    go_simp
    exact hK'.go _ rfl ⟨w'.heap.size, hO.alloc _, d4, d7, d10, d11, d0, h0, h1, h2, fun _ => fun _ => ⟨rfl, Blk.new _ (strs [m.key]) _⟩, h4, h5, h6, h7, h8, h9, h10, h11⟩
  · intro l x w' hJ hi hd
    obtain ⟨B3, hO, d4, d7, d10, d11, d0, h0, h1, h2, h3, h4, h5, h6, h7, h8, h9, h10, h11⟩ := hJ
    have e0 := h0 (show l 0 = true by first | exact hd.1 rfl | exact hd.2.1 rfl | exact hd.2.2.1 rfl | exact hd.2.2.2.1 rfl | exact hd.2.2.2.2.1 rfl | exact hd.2.2.2.2.2.1 rfl)
    have l0 : l 0 = true := by first | exact hd.1 rfl | exact hd.2.1 rfl | exact hd.2.2.1 rfl | exact hd.2.2.2.1 rfl | exact hd.2.2.2.2.1 rfl | exact hd.2.2.2.2.2.1 rfl
    have e3 := h3 (show l 3 = true by first | exact hd.1 rfl | exact hd.2.1 rfl | exact hd.2.2.1 rfl | exact hd.2.2.2.1 rfl | exact hd.2.2.2.2.1 rfl | exact hd.2.2.2.2.2.1 rfl) hi
    have l7 : l 7 = false := by cases h : l 7 with | false => rfl | true => have := d7 h; rw [hi] at this; cases this
    have l10 : l 10 = false := by cases h : l 10 with | false => rfl | true => have := d7 (d10 h); rw [hi] at this; cases this
    have l11 : l 11 = false := by cases h : l 11 with | false => rfl | true => have := d7 (d10 (d11 h)); rw [hi] at this; cases this
    have eV : txtV (Value.slice va L.length vcap) l x = (Value.slice va L.length vcap) := by unfold txtV; rw [l10, l7, hi]; rfl
    have eL : txtL L m.key m.mem m.old l = L := by unfold txtL; rw [l10, l7, hi]; rfl
    rw [eV, eL] at hO
    have L0 := Lib.hid l0
    have L7 := Lib.hid l7
    have L10 := Lib.hid l10
    clear l0 l7 l10 l11
    refine Runs.of (b := ?bT4) ?eT4 ?_
    case eT4 => simp only [putV, Act.put, List.setIfInBounds_toArray, List.set_cons_zero, List.set_cons_succ, e0, e3.1]; rfl
    intro K' hK'
    go_simp
    have hbf := hO.buf
    have hne3 : ∀ b, (Value.slice va L.length vcap).ownBlock = some b → B3 ≠ b := fun b hb => e3.2.ty.ne (hbf.ty' b hb) (by decide)
    have hrv : Rv w' 1 (.slice (some ⟨B3, 0, none⟩) [m.key].length [m.key].length) [m.key].length (strs [m.key]) := rv_blk e3.2 rfl
    refine (PutText_any (w.heap.size + 1) (Value.slice va L.length vcap) L _ [m.key] hbf hrv (by intro _ b hb e; cases hb; exact hne3 _ e rfl) 40 (by intro t ht; simp at ht; subst ht; exact HMM.out.key) (by simp only [List.length_cons, List.length_nil]; omega) (by have := hO.keep.size; omega)).mono ?_
    rintro e w4 ⟨v1, rfl, o2⟩
    go_simp
    have eV2 : txtV (Value.slice va L.length vcap) (upd l 4 true) (upd x 4 v1) = v1 := by simp [txtV, upd, L10.out, L7.out]
    have eL2 : txtL L m.key m.mem m.old (upd l 4 true) = L ++ putTexts [m.key] := by simp [txtL, upd, L10.out, L7.out, putTexts]
    have hO2 : Onto w2 (w.heap.size + 1) 5 (Value.slice va L.length vcap) (txtL L m.key m.mem m.old (upd l 4 true)) (txtV (Value.slice va L.length vcap) (upd l 4 true) (upd x 4 v1)) w4 := by rw [eV2, eL2]; exact hO.trans o2
    exact hK'.go v1 rfl ⟨B3, hO2, fun _ => L0.out, fun _ => rfl, d10, d11, d0, h0, h1, h2, fun _ h => Bool.noConfusion (show true = false from h), fun _ => trivial, h5, h6, h7, h8, h9, h10, h11⟩
  · intro l x w' hJ hi hd
    obtain ⟨B3, hO, d4, d7, d10, d11, d0, h0, h1, h2, h3, h4, h5, h6, h7, h8, h9, h10, h11⟩ := hJ
    refine Runs.of (b := ?bT5) ?eT5 ?_
    case eT5 => simp only [putV, Act.put, List.setIfInBounds_toArray, List.set_cons_zero, List.set_cons_succ]; rfl
    intro K' hK'
    go_simp
    exact hK'.go _ rfl ⟨B3, hO, d4, d7, d10, d11, d0, h0, h1, h2, h3, h4, fun _ => rfl, h6, h7, h8, h9, h10, h11⟩
  · intro l x w' hJ hi hd
    obtain ⟨B3, hO, d4, d7, d10, d11, d0, h0, h1, h2, h3, h4, h5, h6, h7, h8, h9, h10, h11⟩ := hJ
    have e5 := h5 (show l 5 = true by first | exact hd.1 rfl | exact hd.2.1 rfl | exact hd.2.2.1 rfl | exact hd.2.2.2.1 rfl | exact hd.2.2.2.2.1 rfl | exact hd.2.2.2.2.2.1 rfl)
    have hT := hTB.keep hO.keep hTv
    have c := msc_18 hT
    refine Runs.of (b := ?bT6) ?eT6 ?_
    case eT6 => simp only [putV, Act.put, List.setIfInBounds_toArray, List.set_cons_zero, List.set_cons_succ, e5]; rfl
    intro K' hK'
    go_simp
    exact hK'.go _ rfl ⟨B3, hO, d4, d7, d10, d11, d0, h0, h1, h2, h3, h4, h5, fun _ => rfl, h7, h8, h9, h10, h11⟩
  · intro l x w' hJ hi hd
    obtain ⟨B3, hO, d4, d7, d10, d11, d0, h0, h1, h2, h3, h4, h5, h6, h7, h8, h9, h10, h11⟩ := hJ
    have e6 := h6 (show l 6 = true by first | exact hd.1 rfl | exact hd.2.1 rfl | exact hd.2.2.1 rfl | exact hd.2.2.2.1 rfl | exact hd.2.2.2.2.1 rfl | exact hd.2.2.2.2.2.1 rfl)
    have l4 : l 4 = true := by first | exact hd.1 rfl | exact hd.2.1 rfl | exact hd.2.2.1 rfl | exact hd.2.2.2.1 rfl | exact hd.2.2.2.2.1 rfl | exact hd.2.2.2.2.2.1 rfl
    have l10 : l 10 = false := by cases h : l 10 with | false => rfl | true => have := d10 h; rw [hi] at this; cases this
    have l11 : l 11 = false := by cases h : l 11 with | false => rfl | true => have := d10 (d11 h); rw [hi] at this; cases this
    have eV : txtV (Value.slice va L.length vcap) l x = x 4 := by unfold txtV; rw [l10, hi, l4]; rfl
    have eL : txtL L m.key m.mem m.old l = L ++ putText m.key := by unfold txtL; rw [l10, hi, l4]; rfl
    rw [eV, eL] at hO
    have L4 := Lib.hid l4
    have L10 := Lib.hid l10
    clear l4 l10 l11
    refine Runs.of (b := ?bT7) ?eT7 ?_
    case eT7 => simp only [putV, Act.put, List.setIfInBounds_toArray, List.set_cons_zero, List.set_cons_succ, e6]; rfl
    intro K' hK'
    go_simp
    have hbf := hO.buf
    refine (nodes_any (w.heap.size + 1) (x 4) (L ++ putText m.key) _ m.mem hbf ((HRD.out.mem).keep0 hO.keep (fun b hb hl hm => by have := HSM.out b hb hl; have := HV0.out b (Option.mem_toList.1 hm); omega)) (fun hl b hb e => by have := HSM.out b hb (by rw [ints_len]; exact hl); rcases hO.own b e with h' | h'; (have := HV0.out b h'; omega); omega) HI1.out (by rw [List.length_append]; omega) (by omega) (by have := hO.keep.size; omega)).mono ?_
    rintro e w4 ⟨v1, rfl, o2⟩
    go_simp
    have eV2 : txtV (Value.slice va L.length vcap) (upd l 7 true) (upd x 7 v1) = v1 := by simp [txtV, upd, L10.out]
    have eL2 : txtL L m.key m.mem m.old (upd l 7 true) = L ++ putText m.key ++ putNodes m.mem := by simp [txtL, upd, L10.out]
    have hO2 : Onto w2 (w.heap.size + 1) 5 (Value.slice va L.length vcap) (txtL L m.key m.mem m.old (upd l 7 true)) (txtV (Value.slice va L.length vcap) (upd l 7 true) (upd x 7 v1)) w4 := by rw [eV2, eL2]; exact hO.trans o2
    exact hK'.go v1 rfl ⟨B3, hO2, d4, fun _ => L4.out, fun _ => rfl, d11, d0, h0, h1, h2, fun a h => absurd (L4.out.symm.trans h) (by decide), h4, h5, h6, fun _ => trivial, h8, h9, h10, h11⟩
  · intro l x w' hJ hi hd
    obtain ⟨B3, hO, d4, d7, d10, d11, d0, h0, h1, h2, h3, h4, h5, h6, h7, h8, h9, h10, h11⟩ := hJ
    refine Runs.of (b := ?bT8) ?eT8 ?_
    case eT8 => simp only [putV, Act.put, List.setIfInBounds_toArray, List.set_cons_zero, List.set_cons_succ]; rfl
    intro K' hK'
    go_simp
    exact hK'.go _ rfl ⟨B3, hO, d4, d7, d10, d11, d0, h0, h1, h2, h3, h4, h5, h6, h7, fun _ => rfl, h9, h10, h11⟩
  · intro l x w' hJ hi hd
    obtain ⟨B3, hO, d4, d7, d10, d11, d0, h0, h1, h2, h3, h4, h5, h6, h7, h8, h9, h10, h11⟩ := hJ
    have e8 := h8 (show l 8 = true by first | exact hd.1 rfl | exact hd.2.1 rfl | exact hd.2.2.1 rfl | exact hd.2.2.2.1 rfl | exact hd.2.2.2.2.1 rfl | exact hd.2.2.2.2.2.1 rfl)
    have hT := hTB.keep hO.keep hTv
    have c := msc_20 hT
    refine Runs.of (b := ?bT9) ?eT9 ?_
    case eT9 => simp only [putV, Act.put, List.setIfInBounds_toArray, List.set_cons_zero, List.set_cons_succ, e8]; rfl
    intro K' hK'
    go_simp
    exact hK'.go _ rfl ⟨B3, hO, d4, d7, d10, d11, d0, h0, h1, h2, h3, h4, h5, h6, h7, h8, fun _ => rfl, h10, h11⟩
  · intro l x w' hJ hi hd
    obtain ⟨B3, hO, d4, d7, d10, d11, d0, h0, h1, h2, h3, h4, h5, h6, h7, h8, h9, h10, h11⟩ := hJ
    have e9 := h9 (show l 9 = true by first | exact hd.1 rfl | exact hd.2.1 rfl | exact hd.2.2.1 rfl | exact hd.2.2.2.1 rfl | exact hd.2.2.2.2.1 rfl | exact hd.2.2.2.2.2.1 rfl)
    have l7 : l 7 = true := by first | exact hd.1 rfl | exact hd.2.1 rfl | exact hd.2.2.1 rfl | exact hd.2.2.2.1 rfl | exact hd.2.2.2.2.1 rfl | exact hd.2.2.2.2.2.1 rfl
    have l4 := d7 l7
    have l11 : l 11 = false := by cases h : l 11 with | false => rfl | true => have := d11 h; rw [hi] at this; cases this
    have eV : txtV (Value.slice va L.length vcap) l x = x 7 := by unfold txtV; rw [hi, l7]; rfl
    have eL : txtL L m.key m.mem m.old l = L ++ putText m.key ++ putNodes m.mem := by unfold txtL; rw [hi, l7]; rfl
    rw [eV, eL] at hO
    have L7 := Lib.hid l7
    have L4 := Lib.hid l4
    have L11 := Lib.hid l11
    clear l7 l4 l11
    refine Runs.of (b := ?bT10) ?eT10 ?_
    case eT10 => simp only [putV, Act.put, List.setIfInBounds_toArray, List.set_cons_zero, List.set_cons_succ, e9]; rfl
    intro K' hK'
    go_simp
    have hbf := hO.buf
    refine (nodes_any (w.heap.size + 1) (x 7) (L ++ putText m.key ++ putNodes m.mem) _ m.old hbf ((HRD.out.old).keep0 hO.keep (fun b hb hl hm => by have := HSO.out b hb hl; have := HV0.out b (Option.mem_toList.1 hm); omega)) (fun hl b hb e => by have := HSO.out b hb (by rw [ints_len]; exact hl); rcases hO.own b e with h' | h'; (have := HV0.out b h'; omega); omega) HI2.out (by rw [List.length_append, List.length_append]; omega) (by omega) (by have := hO.keep.size; omega)).mono ?_
    rintro e w4 ⟨v1, rfl, o2⟩
    go_simp
    have eV2 : txtV (Value.slice va L.length vcap) (upd l 10 true) (upd x 10 v1) = v1 := by simp [txtV, upd]
    have eL2 : txtL L m.key m.mem m.old (upd l 10 true) = L ++ putText m.key ++ putNodes m.mem ++ putNodes m.old := by simp [txtL, upd]
    have hO2 : Onto w2 (w.heap.size + 1) 5 (Value.slice va L.length vcap) (txtL L m.key m.mem m.old (upd l 10 true)) (txtV (Value.slice va L.length vcap) (upd l 10 true) (upd x 10 v1)) w4 := by rw [eV2, eL2]; exact hO.trans o2
    exact hK'.go v1 rfl ⟨B3, hO2, d4, d7, fun _ => L7.out, fun _ => rfl, d0, h0, h1, h2, fun a h => absurd (L4.out.symm.trans h) (by decide), h4, h5, h6, h7, h8, h9, fun _ => trivial, fun h => absurd (L11.out.symm.trans h) (by decide)⟩
  · intro l x w' hJ hi hd
    obtain ⟨B3, hO, d4, d7, d10, d11, d0, h0, h1, h2, h3, h4, h5, h6, h7, h8, h9, h10, h11⟩ := hJ
    have l10 : l 10 = true := by first | exact hd.1 rfl | exact hd.2.1 rfl | exact hd.2.2.1 rfl | exact hd.2.2.2.1 rfl | exact hd.2.2.2.2.1 rfl | exact hd.2.2.2.2.2.1 rfl
    refine Runs.of (b := ?bT11) ?eT11 ?_
    case eT11 => simp only [putV, Act.put, List.setIfInBounds_toArray, List.set_cons_zero, List.set_cons_succ]; rfl
    intro K' hK'
    go_simp
    exact hK'.go _ rfl ⟨B3, hO, d4, d7, d10, fun _ => l10, fun h => Bool.noConfusion (show true = false from h), h0, h1, h2, h3, h4, h5, h6, h7, h8, h9, h10, fun _ => rfl⟩
  · intro l x w3 hJ hl
    obtain ⟨B3, hO, d4, d7, d10, d11, d0, h0, h1, h2, h3, h4, h5, h6, h7, h8, h9, h10, h11⟩ := hJ
    have e11 := h11 (hl 11 (by decide))
    have eV : txtV (Value.slice va L.length vcap) l x = x 10 := by unfold txtV; rw [hl 10 (by decide)]; rfl
    have eL : txtL L m.key m.mem m.old l = L ++ putText m.key ++ putNodes m.mem ++ putNodes m.old := by unfold txtL; rw [hl 10 (by decide)]; rfl
    rw [eV, eL] at hO
    simp only [putV, Act.put, List.setIfInBounds_toArray, List.set_cons_zero, List.set_cons_succ, e11]
    clear h0 h1 h2 h3 h4 h5 h6 h7 h8 h9 h10 h11 hl e11 eV eL d0 d4 d7 d10 d11
    have hO3 := hO
    have hB3 := hO3.buf
    have K3 := K2.then hO3.keep (by intro b hb hlt; have := HV0.out b (Option.mem_toList.1 hb); omega)
    have hTB3 := hTB.keep hO3.keep hTv
    have hl3 : (L ++ putText m.key ++ putNodes m.mem ++ putNodes m.old).length ≤ 290 := by simp only [List.length_append]; omega
    have hsz3 : w.heap.size + 1 ≤ w3.heap.size := Nat.le_trans hsz2 hO3.keep.size
    obtain ⟨L1, hL1⟩ : ∃ L1, L1 = L ++ putText m.key ++ putNodes m.mem ++ putNodes m.old := ⟨_, rfl⟩
    rw [← hL1] at hB3 hl3
    have HT1 : Hid (L1 = mText1 m) := Lib.hid (by rw [hL1, HL1.out]; rfl)
    generalize x 10 = vb at *
    obtain ⟨ba, bcap, rfl⟩ := hB3.slice
    clear hO hO3 hL1 hTB hB2 HV0 HSM HSO hTv K2 HRD hszw hsz2 hi64 hbig hbs
    have c12 := msc_12 hTB3
    have c13 := msc_13 hTB3
    have c14 := msc_14 hTB3
    have c15 := msc_15 hTB3
    go_upto_region 6 with fail
    go_cut [49] (fun s wc => s = .bool (hasM m) ∧ w3 = wc)
    case first =>
      by_cases z1 : m.it.1.toList = []
      case neg =>
        have hh : hasM m = true := by unfold hasM; rw [decide_eq_false (fun e => z1 (str_nil.2 (by rw [e]; rfl)))]; rfl
        go_wp2_with fail
        go_meet
        exact ⟨by rw [hh], rfl⟩
      by_cases z2 : m.it.2.1.toList = []
      case neg =>
        have hh : hasM m = true := by unfold hasM; rw [decide_eq_false (fun e => z2 (str_nil.2 (by rw [e]; rfl)))]; rfl
        go_wp2_with fail
        go_meet
        exact ⟨by rw [hh], rfl⟩
      by_cases z3 : m.it.2.2.1 = 0
      case neg =>
        have hh : hasM m = true := by unfold hasM; rw [decide_eq_false (fun e => z3 (by rw [e]; rfl))]; rfl
        go_wp2_with fail
        go_meet
        exact ⟨by rw [hh], rfl⟩
      by_cases z4 : m.it.2.2.2 = true
      case pos =>
        have hh : hasM m = true := by unfold hasM; rw [decide_eq_false (fun e => by rw [e] at z4; exact Bool.noConfusion z4)]; rfl
        go_wp2_with fail
        go_meet
        exact ⟨by rw [hh], rfl⟩
      have hh : hasM m = false := by
        unfold hasM
        rw [decide_eq_true (Prod.ext (tl_inj (z1.trans (str_nil.2 rfl).symm)) (Prod.ext (tl_inj (z2.trans (str_nil.2 rfl).symm)) (Prod.ext z3 (show m.it.2.2.2 = false by simpa using z4))))]; rfl
      go_wp2_with fail
      go_meet
      exact ⟨by rw [hh], rfl⟩
    case rest =>
    obtain ⟨rfl, rfl⟩ := hcut
    clear c12 c13 c14 c15
    go_upto_if 49 with fail
    go_cut [4] (fun s wc => s = .int .i64 (gN (hasM m)) ∧ w3 = wc)
    case first =>
      cases hh : hasM m
      · go_wp2_with fail
        go_meet
        exact ⟨by rw [hh]; rfl, rfl⟩
      · go_wp2_with fail
        go_meet
        exact ⟨by rw [hh]; rfl, rfl⟩
    case rest =>
    obtain ⟨rfl, rfl⟩ := hcut
    have c16 := msc_16 hTB3
    have c17 := msc_17 hTB3
    have hgi := gN_i64 (hasM m)
    go_wp2_with fail
    have hrow : Rv (w3.alloc (.cells #[.int .i64 (gN (hasM m)), .int .i64 (m.its.length : Int), .int .i64 (m.mks.length : Int)] 2)) 1 (.slice (some ⟨w3.heap.size, 0, none⟩) 3 3) [gN (hasM m), (m.its.length : Int), (m.mks.length : Int)].length (ints [gN (hasM m), (m.its.length : Int), (m.mks.length : Int)]) := Rv.new w3 (ints [gN (hasM m), (m.its.length : Int), (m.mks.length : Int)]) 2 1 3 3 rfl (by omega) _ rfl
    have hi3 : ∀ n ∈ [gN (hasM m), (m.its.length : Int), (m.mks.length : Int)], I64 n := by intro n hn; simp at hn; rcases hn with rfl | rfl | rfl; exact hgi; exact ⟨by omega, by omega⟩; exact ⟨by omega, by omega⟩
    refine (Put_any (w.heap.size + 1) _ L1 _ [gN (hasM m), (m.its.length : Int), (m.mks.length : Int)] (hB3.alloc _) hrow (fun _ b hb e => by
      have := hB3.lt b e
      have : w3.heap.size = b := by simpa [Value.ownBlock] using hb
      omega) hi3 (by simp only [List.length_cons, List.length_nil]; omega) (by simp; omega)).mono ?_
    rintro e w4 ⟨v4, rfl, hO4⟩
    have hB4 := hO4.buf
    have K4 := (K3.alloc (.cells #[.int .i64 (gN (hasM m)), .int .i64 (m.its.length : Int), .int .i64 (m.mks.length : Int)] 2)).then hO4.keep (by intro b hb hlt; have := (hB3.lt b (Option.mem_toList.1 hb)).1; omega)
    have hTB4 := (hTB3.alloc (.cells #[.int .i64 (gN (hasM m)), .int .i64 (m.its.length : Int), .int .i64 (m.mks.length : Int)] 2)).keep hO4.keep (by intro hm'; have := (hB3.lt _ (Option.mem_toList.1 hm')).1; omega)
    have hl4 : (L1 ++ putAll [gN (hasM m), (m.its.length : Int), (m.mks.length : Int)]).length ≤ 320 := by
      have := putAll_len _ hi3
      simp only [List.length_append, List.length_cons, List.length_nil] at this ⊢; omega
    have hsz4 : w.heap.size + 1 ≤ w4.heap.size := by have := hO4.keep.size; simp at this; omega
    obtain ⟨L2, hL2⟩ : ∃ L2, L2 = L1 ++ putAll [gN (hasM m), (m.its.length : Int), (m.mks.length : Int)] := ⟨_, rfl⟩
    rw [← hL2] at hB4 hl4
    have HT2 : Hid (L2 = mText2 m) := Lib.hid (by rw [hL2, HT1.out]; rfl)
    obtain ⟨ba4, bcap4, rfl⟩ := hB4.slice
    clear hO4 hL2 HT1 hB3 hTB3 hrow hi3 K3 hsz3 c16 c17 hl3
    obtain ⟨i8, hi8, hz80, hz81, hz82⟩ := info_parts Try.info8
    have c12 := msc_12 hTB4
    have c13 := msc_13 hTB4
    have c14 := msc_14 hTB4
    have c15 := msc_15 hTB4
    go_upto_if 61 with fail
    go_cut [5] (fun s wc => ∃ L, Hid (L = mText2 m ++ (if hasM m = true then encIts [m.it] else [])) ∧ L.length ≤ 620 ∧ Buf wc (w.heap.size + 1) 5 s L ∧ Blk wc w.heap.size (msC m (.slice ia m.its.length icap) (.slice ka m.mks.length kcap) (.slice ma m.mem.length mcap) (.slice oa m.old.length ocap)) 29 ∧ Keep [] w wc)
    case first =>
      rcases Bool.eq_false_or_eq_true (hasM m) with hh | hh
      case inr =>
        have q : (gN (hasM m) == 1) = false := by rw [hh]; rfl
        have HH := Lib.hid hh
        clear hh
        go_wp2_with fail
        go_meet
        exact ⟨L2, Lib.hid (by rw [HT2.out, HH.out]; simp), by omega, hB4, hTB4, K4⟩
      case inl =>
        have q : (gN (hasM m) == 1) = true := by rw [hh]; rfl
        have HH := Lib.hid hh
        clear hh
        have hsi := HMM.out.sz.it
        have hls := encIts_len [m.it]
        simp only [List.length_cons, List.length_nil] at hls
        have hrd : IRd (w4.alloc (.cells #[.string m.it.1, .string m.it.2.1, .int .i64 m.it.2.2.1, .bool m.it.2.2.2] 24)) (.slice (some ⟨w4.heap.size, 0, none⟩) 1 1) [m.it] := Rv.new w4 (ic [m.it]) 24 4 1 1 rfl (by omega) _ rfl
        go_wp2_with fail
        refine (itEncode_any _ [m.it] hrd (by simp) (by intro y hy; simp at hy; subst hy; exact hsi)).mono ?_
        rintro e w5 ⟨v5, rfl, ⟨hE, _⟩, k5⟩
        have hB5 := (hB4.alloc (.cells #[.string m.it.1, .string m.it.2.1, .int .i64 m.it.2.2.1, .bool m.it.2.2.2] 24)).keep k5 (by simp)
        have hTB5 := (hTB4.alloc (.cells #[.string m.it.1, .string m.it.2.1, .int .i64 m.it.2.2.1, .bool m.it.2.2.2] 24)).keep k5 (by simp)
        have K5 := (K4.alloc (.cells #[.string m.it.1, .string m.it.2.1, .int .i64 m.it.2.2.1, .bool m.it.2.2.2] 24)).trans k5
        have hsz5 : w.heap.size + 1 ≤ w5.heap.size := by have := k5.size; simp at this; omega
        have hsrc5 := hE.rd.src Try.underlying33
        have HLS := Lib.hid hls
        clear c12 c13 c14 c15 hrd hls
        go_wp2_with (at_builtin; refine wpList_append_src _ rfl _ _ 33 33 rfl (w.heap.size + 1) 5 i8 (.int .u8 0) 1 1 Try.underlying33 hi8 hz80 hz81 hz82 rfl (by decide) _ _ _ rfl hB5 _ _ _ rfl hsrc5 (by have := HLS.out; unfold maxLen; omega) (by have := HLS.out; omega) (by omega) ?_; intro v6 w6 h1' h2' _ h3')
        have hB6 : Buf w6 (w.heap.size + 1) 5 v6 (L2 ++ encIts [m.it]) := by unfold Buf; rw [List.length_append, bcs_append]; exact h1'
        have hTB6 := hTB5.keep (Keep.grown h2') (by intro hm'; have := (hB5.lt _ (Option.mem_toList.1 hm')).1; omega)
        have K6 := K5.then (Keep.grown h2') (by intro b hb hlt; have := (hB5.lt b (Option.mem_toList.1 hb)).1; omega)
        go_meet
        exact ⟨L2 ++ encIts [m.it], Lib.hid (by rw [HT2.out, HH.out]; simp), by have := HLS.out; rw [List.length_append]; omega, hB6, hTB6, K6⟩
    case rest =>
    clear c12 c13 c14 c15 hB4 hTB4 K4 hsz4 hl4 HT2
    obtain ⟨L3, HT3, hl3, hB, hTB, hK⟩ := hcut
    obtain ⟨b5, bc5, rfl⟩ := hB.slice
    have hsz := hTB.lt
    have hR := h.keep hK
    have c16 := msc_16 hTB
    have hls := encIts_len m.its
    have HLS := Lib.hid hls
    clear hls
    go_wp2_with fail
    refine (itEncode_any _ m.its hR.its (by omega) HMM.out.sz.its).mono ?_
    rintro e w5 ⟨v5, rfl, ⟨hE, _⟩, k5⟩
    have hB5 := hB.keep k5 (by simp)
    have hTB5 := hTB.keep k5 (by simp)
    have K5 := hK.trans k5
    have hsz5 : w.heap.size + 1 ≤ w5.heap.size := by have := k5.size; omega
    have hsrc5 := hE.rd.src Try.underlying33
    clear c16 hB hTB hK hR
    go_wp2_with (at_builtin; refine wpList_append_src _ rfl _ _ 33 33 rfl (w.heap.size + 1) 5 i8 (.int .u8 0) 1 1 Try.underlying33 hi8 hz80 hz81 hz82 rfl (by decide) _ _ _ rfl hB5 _ _ _ rfl hsrc5 (by have := HLS.out; unfold maxLen; omega) (by have := HLS.out; omega) (by omega) ?_; intro v6 w6 h1' h2' _ h3'; have c17 := msc_17 (hTB5.keep (Keep.grown h2') (by intro hm'; have := (hB5.lt _ (Option.mem_toList.1 hm')).1; omega)))
    have hB6 : Buf w6 (w.heap.size + 1) 5 v6 (L3 ++ encIts m.its) := by unfold Buf; rw [List.length_append, bcs_append]; exact h1'
    have hTB6 := hTB5.keep (Keep.grown h2') (by intro hm'; have := (hB5.lt _ (Option.mem_toList.1 hm')).1; omega)
    have K6 := K5.then (Keep.grown h2') (by intro b hb hlt; have := (hB5.lt b (Option.mem_toList.1 hb)).1; omega)
    have hl6 : (L3 ++ encIts m.its).length ≤ 1820 := by have := HLS.out; rw [List.length_append]; omega
    obtain ⟨L4, hL4⟩ : ∃ L4, L4 = L3 ++ encIts m.its := ⟨_, rfl⟩
    rw [← hL4] at hB6 hl6
    have HT4 : Hid (L4 = mText3 m) := Lib.hid (by rw [hL4, HT3.out]; rfl)
    clear hL4 HT3 h1' h2' h3' hB5 hTB5 K5 hE k5 hsrc5 HLS hl3 hsz5 hsz
    obtain ⟨b6, bc6, rfl⟩ := hB6.slice
    go_loopw [5, 76] (fun bv i wr => ∃ (j : Nat) (L : List Nat), i = .int .i64 j ∧ j ≤ m.mks.length ∧ Hid (L = mText3 m ++ putMks (m.mks.take j)) ∧ L.length ≤ 1820 + 70 * j ∧ Buf wr (w.heap.size + 1) 5 bv L ∧ Blk wr w.heap.size (msC m (.slice ia m.its.length icap) (.slice ka m.mks.length kcap) (.slice ma m.mem.length mcap) (.slice oa m.old.length ocap)) 29 ∧ Keep [] w wr) (fun _ i _ => m.mks.length - (intOf i).toNat)
    case atStart => exact ⟨0, L4, rfl, by omega, Lib.hid (by rw [HT4.out]; simp [putMks]), by omega, hB6, hTB6, K6⟩
    case round =>
      clear hB6 hTB6 K6 HT4 hl6 c17
      obtain ⟨j, L, rfl, hj, HLL, hLl, hB, hTB, hK⟩ := hrel
      obtain ⟨ba, bcap, rfl⟩ := hB.slice
      by_cases hlt : j < m.mks.length
      · have q0 : (j : Int) < m.mks.length := by omega
        obtain ⟨sb, so, c', he, hat⟩ := mks_at (h.keep hK).mks (by omega)
        simp only [Value.slice.injEq] at he
        obtain ⟨rfl, _, rfl⟩ := he
        obtain ⟨e0, e1⟩ := hat j hlt
        have hmem : m.mks.getD j mk0 ∈ m.mks := by rw [List.getD_eq_getElem?_getD, List.getElem?_eq_getElem hlt]; exact List.getElem_mem hlt
        obtain ⟨x1, x2, x3, x4⟩ := mksOk_all HMM.out.mks _ hmem
        have HTK := Lib.hid (show m.mks.take (j + 1) = m.mks.take j ++ [m.mks.getD j mk0] from take_succ_getD m.mks mk0 j hlt)
        clear hat hmem
        generalize m.mks.getD j mk0 = xx at *
        obtain ⟨xs, xk⟩ := xx
        simp only at e0 e1 x1 x2 x3 x4
        have HXI : Hid (∀ n ∈ [xs], I64 n) := Lib.hid (by intro n hn; simp at hn; subst hn; exact ⟨by omega, by omega⟩)
        have HXK : Hid (xk.size ≤ 40) := Lib.hid x4
        have HPA : Hid ((putAll [xs]).length ≤ 10) := Lib.hid (putAll_len [xs] HXI.out)
        have HPT : Hid ((putText xk).length ≤ 50) := Lib.hid (by have := putText_len' xk (by omega); omega)
        go_wp2_with fail
        have hTt : Blk (wr.alloc (.cells #[.int .i64 xs, .string xk] 42)) wr.heap.size [.int .i64 xs, .string xk] 42 := Blk.new wr [.int .i64 xs, .string xk] 42
        have hBr := hB.alloc (.cells #[.int .i64 xs, .string xk] 42)
        have hTr := hTB.alloc (.cells #[.int .i64 xs, .string xk] 42)
        have Kr := hK.alloc (.cells #[.int .i64 xs, .string xk] 42)
        have hszr : w.heap.size + 1 ≤ (wr.alloc (.cells #[.int .i64 xs, .string xk] 42)).heap.size := by have := hTB.lt; simp; omega
        have hTv : wr.heap.size ∉ (Value.slice ba L.length bcap).ownBlock.toList := by intro hm'; have := (hB.lt _ (Option.mem_toList.1 hm')).2; omega
        have HVr := Lib.hid (fun k hk => (hB.lt k hk).1)
        clear e0 e1 hB hTB hK
        generalize wr.alloc (.cells #[.int .i64 xs, .string xk] 42) = w2r at *
        refine wp_region_inv_own (mrkJ w2r (w.heap.size + 1) (Value.slice ba L.length bcap) L wr.heap.size xs xk) (by kernel_rfl) (by kernel_rfl) (by kernel_rfl) ?_ (Steps.cons 0 ?_ (Steps.cons 1 ?_ (Steps.cons 2 ?_ (Steps.cons 3 ?_ (Steps.cons 4 ?_ (Steps.cons 5 ?_ (Steps.cons 6 ?_ (Steps.cons 7 ?_ (Steps.cons 8 ?_ (Steps.cons 9 ?_ (Steps.nil 10))))))))))) 10 rfl ?_
        · exact ⟨0, 0, (Onto.refl hBr).drew0, fun h => absurd h (by decide), fun h => absurd h (by decide), fun h => absurd h (by decide), fun _ => rfl, fun h => absurd h (by decide), fun h => absurd h (by decide), fun h => absurd h (by decide), fun h => absurd h (by decide), fun h => absurd h (by decide), fun h => absurd h (by decide), fun h => absurd h (by decide), fun h => absurd h (by decide), fun h => absurd h (by decide), fun h => absurd h (by decide)⟩
        · intro l x w' hJ hi hd
          obtain ⟨B3, B7, hO, d4, d8, d9, d0, h0, h1, h2, h3, h4, h5, h6, h7, h8, h9⟩ := hJ
          have l9 : l 9 = false := by cases h : l 9 with | false => rfl | true => have := d4 (d8 (d9 h)); rw [hi] at this; cases this
          have e9 := d0 l9
          refine Runs.of (b := ?bK0) ?eK0 ?_
          case eK0 => simp only [putV, Act.put, List.setIfInBounds_toArray, List.set_cons_zero, List.set_cons_succ, e9]; rfl
          intro K' hK'
          go_simp
          exact hK'.go _ rfl ⟨B3, B7, hO, fun _ => rfl, d8, d9, d0, fun _ => rfl, h1, h2, h3, h4, h5, h6, h7, h8, h9⟩
        · intro l x w' hJ hi hd
          obtain ⟨B3, B7, hO, d4, d8, d9, d0, h0, h1, h2, h3, h4, h5, h6, h7, h8, h9⟩ := hJ
          refine Runs.of (b := ?bK1) ?eK1 ?_
          case eK1 => simp only [putV, Act.put, List.setIfInBounds_toArray, List.set_cons_zero, List.set_cons_succ]; rfl
          intro K' hK'
          go_simp
          exact hK'.go _ rfl ⟨B3, B7, hO, d4, d8, d9, d0, h0, fun _ => rfl, h2, h3, h4, h5, h6, h7, h8, h9⟩
        · intro l x w' hJ hi hd
          obtain ⟨B3, B7, hO, d4, d8, d9, d0, h0, h1, h2, h3, h4, h5, h6, h7, h8, h9⟩ := hJ
          have e1 := h1 (show l 1 = true by first | exact hd.1 rfl | exact hd.2.1 rfl | exact hd.2.2.1 rfl | exact hd.2.2.2.1 rfl | exact hd.2.2.2.2.1 rfl | exact hd.2.2.2.2.2.1 rfl)
          have hT := hTt.keep hO.keep hTv
          have c := hT.cell 0
          simp only [List.getElem?_cons_zero, List.getElem?_cons_succ] at c
          refine Runs.of (b := ?bK2) ?eK2 ?_
          case eK2 => simp only [putV, Act.put, List.setIfInBounds_toArray, List.set_cons_zero, List.set_cons_succ, e1]; rfl
          intro K' hK'
          go_simp
          exact hK'.go _ rfl ⟨B3, B7, hO, d4, d8, d9, d0, h0, h1, fun _ => rfl, h3, h4, h5, h6, h7, h8, h9⟩
        · intro l x w' hJ hi hd
          obtain ⟨B3, B7, hO, d4, d8, d9, d0, h0, h1, h2, h3, h4, h5, h6, h7, h8, h9⟩ := hJ
          have e2 := h2 (show l 2 = true by first | exact hd.1 rfl | exact hd.2.1 rfl | exact hd.2.2.1 rfl | exact hd.2.2.2.1 rfl | exact hd.2.2.2.2.1 rfl | exact hd.2.2.2.2.2.1 rfl)
          refine Runs.of (b := ?bK3) ?eK3 ?_
          case eK3 => simp only [putV, Act.put, List.setIfInBounds_toArray, List.set_cons_zero, List.set_cons_succ, e2]; rfl
          intro K' hK'
          go_simp
          exact hK'.go _ rfl ⟨w'.heap.size, B7, hO.alloc _, d4, d8, d9, d0, h0, h1, h2, fun _ => fun _ => ⟨rfl, Blk.new _ (ints [xs]) _⟩, h4, h5, h6, fun a b => ⟨(h7 a b).1, (h7 a b).2.alloc _⟩, h8, h9⟩
        · intro l x w' hJ hi hd
          obtain ⟨B3, B7, hO, d4, d8, d9, d0, h0, h1, h2, h3, h4, h5, h6, h7, h8, h9⟩ := hJ
          have e0 := h0 (show l 0 = true by first | exact hd.1 rfl | exact hd.2.1 rfl | exact hd.2.2.1 rfl | exact hd.2.2.2.1 rfl | exact hd.2.2.2.2.1 rfl | exact hd.2.2.2.2.2.1 rfl)
          have l0 : l 0 = true := by first | exact hd.1 rfl | exact hd.2.1 rfl | exact hd.2.2.1 rfl | exact hd.2.2.2.1 rfl | exact hd.2.2.2.2.1 rfl | exact hd.2.2.2.2.2.1 rfl
          have e3 := h3 (show l 3 = true by first | exact hd.1 rfl | exact hd.2.1 rfl | exact hd.2.2.1 rfl | exact hd.2.2.2.1 rfl | exact hd.2.2.2.2.1 rfl | exact hd.2.2.2.2.2.1 rfl) hi
          have l8 : l 8 = false := by cases h : l 8 with | false => rfl | true => have := d8 h; rw [hi] at this; cases this
          have l9 : l 9 = false := by cases h : l 9 with | false => rfl | true => have := d8 (d9 h); rw [hi] at this; cases this
          have eV : mrkV (Value.slice ba L.length bcap) l x = (Value.slice ba L.length bcap) := by unfold mrkV; rw [l8, hi]; rfl
          have eL : mrkL L xs xk l = L := by unfold mrkL; rw [l8, hi]; rfl
          rw [eV, eL] at hO
          have L0 := Lib.hid l0
          have L8 := Lib.hid l8
          clear l0 l8 l9
          refine Runs.of (b := ?bK4) ?eK4 ?_
          case eK4 => simp only [putV, Act.put, List.setIfInBounds_toArray, List.set_cons_zero, List.set_cons_succ, e0, e3.1]; rfl
          intro K' hK'
          go_simp
          have hbf := hO.buf
          have hne3 : ∀ b, (Value.slice ba L.length bcap).ownBlock = some b → B3 ≠ b := fun b hb => e3.2.ty.ne (hbf.ty' b hb) (by decide)
          have hrv : Rv w' 1 (.slice (some ⟨B3, 0, none⟩) [xs].length [xs].length) [xs].length (ints [xs]) := rv_blk e3.2 rfl
          refine (Put_any (w.heap.size + 1) (Value.slice ba L.length bcap) L _ [xs] hbf hrv (by intro _ b hb e; cases hb; exact hne3 _ e rfl) HXI.out (by simp only [List.length_cons, List.length_nil]; omega) (by have := hO.keep.size; omega)).mono ?_
          rintro e w4 ⟨v1, rfl, o2⟩
          go_simp
          have eV2 : mrkV (Value.slice ba L.length bcap) (upd l 4 true) (upd x 4 v1) = v1 := by simp [mrkV, upd, L8.out]
          have eL2 : mrkL L xs xk (upd l 4 true) = L ++ putAll [xs] := by simp [mrkL, upd, L8.out]
          have hO2 : Onto w2r (w.heap.size + 1) 5 (Value.slice ba L.length bcap) (mrkL L xs xk (upd l 4 true)) (mrkV (Value.slice ba L.length bcap) (upd l 4 true) (upd x 4 v1)) w4 := by rw [eV2, eL2]; exact hO.trans o2
          exact hK'.go v1 rfl ⟨B3, B7, hO2, fun _ => L0.out, fun _ => rfl, d9, d0, h0, h1, h2, fun _ h => Bool.noConfusion (show true = false from h), fun _ => trivial, h5, h6, fun a b => ⟨(h7 a b).1, (h7 a b).2.keep o2.keep (by intro hm'; exact (h7 a b).2.ty.ne (hbf.ty' _ (Option.mem_toList.1 hm')) (by decide) rfl)⟩, h8, h9⟩
        · intro l x w' hJ hi hd
          obtain ⟨B3, B7, hO, d4, d8, d9, d0, h0, h1, h2, h3, h4, h5, h6, h7, h8, h9⟩ := hJ
          refine Runs.of (b := ?bK5) ?eK5 ?_
          case eK5 => simp only [putV, Act.put, List.setIfInBounds_toArray, List.set_cons_zero, List.set_cons_succ]; rfl
          intro K' hK'
          go_simp
          exact hK'.go _ rfl ⟨B3, B7, hO, d4, d8, d9, d0, h0, h1, h2, h3, h4, fun _ => rfl, h6, h7, h8, h9⟩
        · intro l x w' hJ hi hd
          obtain ⟨B3, B7, hO, d4, d8, d9, d0, h0, h1, h2, h3, h4, h5, h6, h7, h8, h9⟩ := hJ
          have e5 := h5 (show l 5 = true by first | exact hd.1 rfl | exact hd.2.1 rfl | exact hd.2.2.1 rfl | exact hd.2.2.2.1 rfl | exact hd.2.2.2.2.1 rfl | exact hd.2.2.2.2.2.1 rfl)
          have hT := hTt.keep hO.keep hTv
          have c := hT.cell 1
          simp only [List.getElem?_cons_zero, List.getElem?_cons_succ] at c
          refine Runs.of (b := ?bK6) ?eK6 ?_
          case eK6 => simp only [putV, Act.put, List.setIfInBounds_toArray, List.set_cons_zero, List.set_cons_succ, e5]; rfl
          intro K' hK'
          go_simp
          exact hK'.go _ rfl ⟨B3, B7, hO, d4, d8, d9, d0, h0, h1, h2, h3, h4, h5, fun _ => rfl, h7, h8, h9⟩
        · intro l x w' hJ hi hd
          obtain ⟨B3, B7, hO, d4, d8, d9, d0, h0, h1, h2, h3, h4, h5, h6, h7, h8, h9⟩ := hJ
          have e6 := h6 (show l 6 = true by first | exact hd.1 rfl | exact hd.2.1 rfl | exact hd.2.2.1 rfl | exact hd.2.2.2.1 rfl | exact hd.2.2.2.2.1 rfl | exact hd.2.2.2.2.2.1 rfl)
          refine Runs.of (b := ?bK7) ?eK7 ?_
          case eK7 => simp only [putV, Act.put, List.setIfInBounds_toArray, List.set_cons_zero, List.set_cons_succ, e6]; rfl
          intro K' hK'
          go_simp
          exact hK'.go _ rfl ⟨B3, w'.heap.size, hO.alloc _, d4, d8, d9, d0, h0, h1, h2, fun a b => ⟨(h3 a b).1, (h3 a b).2.alloc _⟩, h4, h5, h6, fun _ => fun _ => ⟨rfl, Blk.new _ (strs [xk]) _⟩, h8, h9⟩
        · intro l x w' hJ hi hd
          obtain ⟨B3, B7, hO, d4, d8, d9, d0, h0, h1, h2, h3, h4, h5, h6, h7, h8, h9⟩ := hJ
          have l4 : l 4 = true := by first | exact hd.1 rfl | exact hd.2.1 rfl | exact hd.2.2.1 rfl | exact hd.2.2.2.1 rfl | exact hd.2.2.2.2.1 rfl | exact hd.2.2.2.2.2.1 rfl
          have e7 := h7 (show l 7 = true by first | exact hd.1 rfl | exact hd.2.1 rfl | exact hd.2.2.1 rfl | exact hd.2.2.2.1 rfl | exact hd.2.2.2.2.1 rfl | exact hd.2.2.2.2.2.1 rfl) hi
          have l9 : l 9 = false := by cases h : l 9 with | false => rfl | true => have := d9 h; rw [hi] at this; cases this
          have eV : mrkV (Value.slice ba L.length bcap) l x = x 4 := by unfold mrkV; rw [hi, l4]; rfl
          have eL : mrkL L xs xk l = L ++ putAll [xs] := by unfold mrkL; rw [hi, l4]; rfl
          rw [eV, eL] at hO
          have L4 := Lib.hid l4
          have L9 := Lib.hid l9
          clear l4 l9
          refine Runs.of (b := ?bK8) ?eK8 ?_
          case eK8 => simp only [putV, Act.put, List.setIfInBounds_toArray, List.set_cons_zero, List.set_cons_succ, e7.1]; rfl
          intro K' hK'
          go_simp
          have hbf := hO.buf
          have hne7 : ∀ b, (x 4).ownBlock = some b → B7 ≠ b := fun b hb => e7.2.ty.ne (hbf.ty' b hb) (by decide)
          have hrv : Rv w' 1 (.slice (some ⟨B7, 0, none⟩) [xk].length [xk].length) [xk].length (strs [xk]) := rv_blk e7.2 rfl
          refine (PutText_any (w.heap.size + 1) (x 4) (L ++ putAll [xs]) _ [xk] hbf hrv (by intro _ b hb e; cases hb; exact hne7 _ e rfl) 40 (by intro t ht; simp at ht; subst ht; exact HXK.out) (by have := HPA.out; rw [List.length_append]; simp only [List.length_cons, List.length_nil]; omega) (by have := hO.keep.size; omega)).mono ?_
          rintro e w4 ⟨v1, rfl, o2⟩
          go_simp
          have eV2 : mrkV (Value.slice ba L.length bcap) (upd l 8 true) (upd x 8 v1) = v1 := by simp [mrkV, upd]
          have eL2 : mrkL L xs xk (upd l 8 true) = L ++ putAll [xs] ++ putTexts [xk] := by simp [mrkL, upd, putTexts]
          have hO2 : Onto w2r (w.heap.size + 1) 5 (Value.slice ba L.length bcap) (mrkL L xs xk (upd l 8 true)) (mrkV (Value.slice ba L.length bcap) (upd l 8 true) (upd x 8 v1)) w4 := by rw [eV2, eL2]; exact hO.trans o2
          exact hK'.go v1 rfl ⟨B3, B7, hO2, d4, fun _ => L4.out, fun _ => rfl, d0, h0, h1, h2, fun a h => absurd (L4.out.symm.trans h) (by decide), h4, h5, h6, fun _ h => Bool.noConfusion (show true = false from h), fun _ => trivial, fun h => absurd (L9.out.symm.trans h) (by decide)⟩
        · intro l x w' hJ hi hd
          obtain ⟨B3, B7, hO, d4, d8, d9, d0, h0, h1, h2, h3, h4, h5, h6, h7, h8, h9⟩ := hJ
          have l8 : l 8 = true := by first | exact hd.1 rfl | exact hd.2.1 rfl | exact hd.2.2.1 rfl | exact hd.2.2.2.1 rfl | exact hd.2.2.2.2.1 rfl | exact hd.2.2.2.2.2.1 rfl
          refine Runs.of (b := ?bK9) ?eK9 ?_
          case eK9 => simp only [putV, Act.put, List.setIfInBounds_toArray, List.set_cons_zero, List.set_cons_succ]; rfl
          intro K' hK'
          go_simp
          exact hK'.go _ rfl ⟨B3, B7, hO, d4, d8, fun _ => l8, fun h => Bool.noConfusion (show true = false from h), h0, h1, h2, h3, h4, h5, h6, h7, h8, fun _ => rfl⟩
        · intro l x w3 hJ hl
          obtain ⟨B3, B7, hO, d4, d8, d9, d0, h0, h1, h2, h3, h4, h5, h6, h7, h8, h9⟩ := hJ
          have e9 := h9 (hl 9 (by decide))
          have eV : mrkV (.slice ba L.length bcap) l x = x 8 := by unfold mrkV; rw [hl 8 (by decide)]; rfl
          have eL : mrkL L xs xk l = L ++ putAll [xs] ++ putText xk := by unfold mrkL; rw [hl 8 (by decide)]; rfl
          rw [eV, eL] at hO
          simp only [putV, Act.put, List.setIfInBounds_toArray, List.set_cons_zero, List.set_cons_succ, e9]
          clear h0 h1 h2 h3 h4 h5 h6 h7 h8 h9 hl e9 eV eL d0 d4 d8 d9
          have hB9 := hO.buf
          have K9 := Kr.then hO.keep (by intro b hb hlt; have := HVr.out b (Option.mem_toList.1 hb); omega)
          have hT9 := hTr.keep hO.keep (by intro hm'; have := HVr.out _ (Option.mem_toList.1 hm'); omega)
          have hl9 : (L ++ putAll [xs] ++ putText xk).length ≤ 1820 + 70 * (j + 1) := by have := HPA.out; have := HPT.out; simp only [List.length_append]; omega
          obtain ⟨L9, hL9⟩ : ∃ L9, L9 = L ++ putAll [xs] ++ putText xk := ⟨_, rfl⟩
          rw [← hL9] at hB9 hl9
          have HL9 : Hid (L9 = mText3 m ++ putMks (m.mks.take (j + 1))) := Lib.hid (by rw [hL9, HTK.out, putMks_snoc, ← List.append_assoc, ← HLL.out, List.append_assoc]; rfl)
          clear hL9 hO
          generalize x 8 = vb at *
          obtain ⟨b9, bc9, rfl⟩ := hB9.slice
          go_wp2_with fail
          go_roundw
          case rel => exact ⟨j + 1, L9, by go_num, by omega, HL9, hl9, hB9, hT9, K9⟩
          case measure => simp [intOf]; omega
      · obtain rfl : j = m.mks.length := by omega
        go_wp2_with fail
        go_ret
        refine ⟨_, rfl, ?_, hK⟩
        have hLL := HLL.out
        rw [List.take_of_length_le (Nat.le_refl _)] at hLL
        unfold mText
        rw [← hLL]
        exact Buf.mono hB (by omega)
end Go.Proofs.Ytonghelcfbjknaa
