/- The law MetaAll: its walk. -/
import Derived.Test.YtnnaleoigiaboaaMetaLaws
import Derived.Test.YtnnaleoigiaboaaOpen
namespace Go.Proofs.Ytnnaleoigiaboaa
open Go.ChangeShapes Go.WideShapes Go.ChangeAt Go.RowKit
set_option linter.unusedVariables false
set_option linter.unusedSimpArgs false

abbrev Me := Int × Int × Int × Bool
def mec (y : Me) : List Value := meC y.1 y.2.1 y.2.2.1 y.2.2.2
def IsMetas (w : World) (v : Value) : Prop := ∃ l : List Me, Rv w 4 v l.length (l.map mec).flatten ∧ l.length ≤ 9223372036854775807
theorem metas_opens {H : Type} {enc : TypeId × Value → H} {W : World} : Opens enc Try.prog W 52 mec
    (fun y => (Lit.int .i64 y.1).wf = true ∧ (Lit.int .i64 y.2.1).wf = true ∧ (Lit.int .i64 y.2.2.1).wf = true ∧ True) :=
  opens_struct4 Try.underlying52 (by kernel_rfl) (by decide) (by refine ⟨?_, ?_, ?_, ?_⟩ <;> kernel_rfl)
    (opens_int Try.underlying2) (opens_int Try.underlying2) (opens_int Try.underlying2) (opens_bool Try.underlying4)
theorem open_metas {H : Type} {enc : TypeId × Value → H} {W : World} {v : Value} {d : DataW H} {p : List MemPlace} {r : Reach} {b : Nat}
    (hv : Value.okWide Try.prog W r b 47 v) (h : DataW.Trod enc Try.prog W 0 (fun _ => true) true 47 v d p) : IsMetas W v := by
  obtain ⟨a0, len, cap, rfl⟩ := okWide_slice Try.underlying47 hv
  obtain ⟨⟨y, l⟩, hy, h1, h2, h3⟩ := opens_val (f := fun p : Value × List Me => p.1) (opens_slice (k := 4) Try.underlying47 (by kernel_rfl) (by omega) (fun _ => rfl) metas_opens) (fun y hy => by simpa [Value.cells] using hy) h
  exact ⟨l, hy ▸ h1, h2⟩
theorem open_flags {H : Type} {enc : TypeId × Value → H} {W : World} {v : Value} {d : DataW H} {p : List MemPlace} {r : Reach} {b : Nat}
    (hv : Value.okWide Try.prog W r b 41 v) (h : DataW.Trod enc Try.prog W 0 (fun _ => true) true 41 v d p) : ∃ keep : List Bool, Rv W 1 v keep.length (bools keep) ∧ keep.length ≤ 9223372036854775807 := by
  obtain ⟨a0, len, cap, rfl⟩ := okWide_slice Try.underlying41 hv
  obtain ⟨⟨y, l⟩, hy, h1, h2⟩ := opens_val (f := fun p : Value × List Bool => p.1) (opens_bools Try.underlying41 Try.underlying4 (by kernel_rfl)) (fun y hy => by simpa [Value.cells] using hy) h
  exact ⟨l, hy ▸ h1, h2⟩
theorem mes_at {w : World} {v : Value} {l : List Me} (h : Rv w 4 v l.length (l.map mec).flatten) (i : Nat) (y : Me) (hi : l[i]? = some y) :
    ∃ sb so cap, v = .slice (some ⟨sb, so, none⟩) l.length cap ∧ l.length ≤ cap ∧ sb < w.heap.size ∧ w.cell? ⟨sb, so + i * 4, none⟩ = some (.int .i64 y.1) ∧ w.cell? ⟨sb, so + i * 4 + 1, none⟩ = some (.int .i64 y.2.1) ∧
      w.cell? ⟨sb, so + i * 4 + 2, none⟩ = some (.int .i64 y.2.2.1) ∧ w.cell? ⟨sb, so + i * 4 + 3, none⟩ = some (.bool y.2.2.2) := by
  have hlt : i < l.length := (List.getElem?_eq_some_iff.1 hi).1
  have hfl := flatten_len mec 4 (fun _ => rfl) l
  obtain ⟨hl, a, cap, rfl, hc, hh⟩ := h
  obtain ⟨sb, so, rfl, hs, hat⟩ := hh (by rw [hfl]; omega)
  have hf : ∀ j, j < 4 → w.cell? ⟨sb, so + (i * 4 + j), none⟩ = (mec y)[j]? := by
    intro j hj
    rw [hat _ (by rw [hfl]; omega), flatten_at mec 4 (fun _ => rfl) l i j hj, hi]; rfl
  exact ⟨sb, so, cap, rfl, hc, hs, hf 0 (by omega), by rw [Nat.add_assoc]; exact hf 1 (by omega), by rw [Nat.add_assoc]; exact hf 2 (by omega), by rw [Nat.add_assoc]; exact hf 3 (by omega)⟩
/-- A keeper on its device. -/
structure MetaOn (w : World) (d sb k s : Nat) (L : List Sec) (c turn slot : Nat) (b e r : Int) (f : Bool) : Prop where
  dev : IsDev w d sb L c
  kep : IsKep w k s d 0 turn slot b e r f
  pair : Pair L 0 slot turn (meText b e r f)
  slot1 : slot ≤ 1
  len : L.length = 2
  may : true = meMay b e r f
theorem MetaOn.keep {w w' : World} {d sb k s : Nat} {L : List Sec} {c turn slot : Nat} {b e r : Int} {f : Bool} (h : MetaOn w d sb k s L c turn slot b e r f) (hk : Keep [] w w') : MetaOn w' d sb k s L c turn slot b e r f :=
  ⟨h.dev.keep hk (by simp) (by simp), h.kep.keep hk (by simp) (by simp) (by simp), h.pair, h.slot1, h.len, h.may⟩
def MetaNext (w : World) (d sb k s c turn : Nat) (b e r : Int) (f : Bool) : Prop := ∃ (L' : List Sec) (c' turn' slot' : Nat), c' ≤ c + 2 ∧ turn' ≤ turn + 1 ∧ turn ≤ turn' ∧ MetaOn w d sb k s L' c' turn' slot' b e r f
theorem MetaNext.keep {w w' : World} {d sb k s c turn : Nat} {b e r : Int} {f : Bool} (h : MetaNext w d sb k s c turn b e r f) (hk : Keep [] w w') : MetaNext w' d sb k s c turn b e r f := by
  obtain ⟨L', c', turn', slot', h1, h2, h3, h4⟩ := h
  exact ⟨L', c', turn', slot', h1, h2, h3, h4.keep hk⟩
theorem meSave_both {w : World} {d sb k s : Nat} {L : List Sec} {c turn slot : Nat} {b e r : Int} {f : Bool} (h : MetaOn w d sb k s L c turn slot b e r f) (mb me mr : Int) (mf : Bool) (ht : turn + 1 < 9223372036854775808) (hc : c + 2 ≤ 1099511627776)
    (want b2 e2 r2 : Int) (f2 : Bool) (hw : ((meMay mb me mr mf = true ∧ b ≤ mb ∧ e ≤ me) ∧ want = 0 ∧ b2 = mb ∧ e2 = me ∧ r2 = mr ∧ f2 = mf) ∨ (¬ (meMay mb me mr mf = true ∧ b ≤ mb ∧ e ≤ me) ∧ want = 1 ∧ b2 = b ∧ e2 = e ∧ r2 = r ∧ f2 = f)) :
    Calls Try.prog 29 #[.pointer (some ⟨k, 0, none⟩), meV mb me mr mf] w fun x w' => x = .returned (.int .i64 want) ∧ MetaNext w' d sb k s c turn b2 e2 r2 f2 ∧ Keep [d, sb, s, k] w w' := by
  rcases hw with ⟨⟨h1, h2, h3⟩, rfl, rfl, rfl, rfl, rfl⟩ | ⟨h1, rfl, rfl, rfl, rfl, rfl⟩
  · refine (meSave_ok h.dev h.kep b2 e2 r2 f2 h1.symm h2 h3 h.slot1 (by rw [h.len]; omega) ht hc).mono ?_
    rintro x w' ⟨rfl, hD, hk, k2⟩
    exact ⟨rfl, ⟨_, c + 2, turn + 1, 1 - slot, by omega, by omega, by omega, ⟨hD, hk, h.pair.save h.slot1 (by omega) _, by omega, by simp [h.len], h1.symm⟩⟩, k2⟩
  · refine (meSave_bad h.kep mb me mr mf h1).mono ?_
    rintro x w' ⟨rfl, k2⟩
    exact ⟨rfl, ⟨L, c, turn, slot, by omega, by omega, by omega, h.keep k2⟩, k2.mono (by simp)⟩
def allJ (w0 : World) (xb nb d sb k s : Nat) (L : List Sec) (c turn slot : Nat) (mb me mr : Int) (mf : Bool) (b e r : Int) (f : Bool) (b2 e2 r2 : Int) (f2 : Bool) (q : Bool) (want : Int) (l : Nat → Bool) (x : Nat → Value) (w' : World) : Prop :=
  (Blk w' xb (meC mb me mr mf) 52) ∧
  (Blk w' nb (meC b2 e2 r2 f2) 52) ∧
  (l 8 = false → MetaOn w' d sb k s L c turn slot b e r f) ∧
  (l 8 = true → MetaNext w' d sb k s c turn b2 e2 r2 f2) ∧
  (Keep [d, sb, s, k] w0 w') ∧
  (l 0 = true → x 0 = meV mb me mr mf) ∧
  (l 1 = true → x 1 = .bool q) ∧
  (l 2 = true → x 2 = meV mb me mr mf) ∧
  (l 3 = true → x 3 = .bool q) ∧
  (l 4 = true → x 4 = .bool false) ∧
  (l 5 = true → x 5 = .bool false) ∧
  (l 6 = true → x 6 = .pointer (some ⟨k, 0, none⟩)) ∧
  (l 7 = true → x 7 = meV mb me mr mf) ∧
  (l 8 = true → x 8 = .int .i64 want) ∧
  (l 9 = true → x 9 = .int .i64 want) ∧
  (l 10 = true → x 10 = .bool false) ∧
  (l 11 = true → x 11 = .bool false)
def all2J (w0 : World) (nb d sb k s : Nat) (L : List Sec) (c turn slot : Nat) (b e r : Int) (f : Bool) (l : Nat → Bool) (x : Nat → Value) (w' : World) : Prop :=
  (Blk w' nb (meC b e r f) 52) ∧
  (MetaOn w' d sb k s L c turn slot b e r f) ∧
  (Keep [] w0 w') ∧
  (l 0 = true → x 0 = .pointer (some ⟨k, 0, none⟩)) ∧
  (l 1 = true → x 1 = meV b e r f) ∧
  (l 2 = true → x 2 = meV b e r f) ∧
  (l 3 = true → x 3 = .bool true) ∧
  (l 4 = true → x 4 = .bool false)

set_option maxRecDepth 100000 in
set_option maxHeartbeats 8000000 in
theorem metaAll_walk (lv ov : Value) (w : World) (w0 : IsMetas w lv) (w1 : ∃ keep : List Bool, Rv w 1 ov keep.length (bools keep) ∧ keep.length ≤ 9223372036854775807) :
    Calls Try.prog 9 #[lv, ov] w fun e w' => e = .returned (.bool true) ∧ Below w.heap.size w w' := by
  obtain ⟨ls, hls, hlm⟩ := w0
  obtain ⟨fl, hfl, hfm⟩ := w1
  obtain ⟨_, la, lcap, rfl, _, _⟩ := id hls
  obtain ⟨_, fa, fcap, rfl, _, _⟩ := id hfl
  go_enter Try.func9, Try.ntmps9
  go_wp2_with fail
  refine (begun12 w).mono ?_
  rintro x w0 ⟨rfl, k0⟩
  go_wp2_with fail
  refine (New_any 2 2 rfl).mono ?_
  rintro x w1 ⟨d, sb, rfl, hD1, k1, hb1, hsb1⟩
  have hz0 := k0.size
  have hz1 := k1.size
  go_wp2_with fail
  refine (meMake_in hD1 0 (by decide) (by decide)).mono ?_
  rintro x w2 ⟨k, s, rfl, hD2, hk2, k2, hkz, hsz⟩
  have hM2 : MetaOn w2 d sb k s _ 5 1 0 0 0 0 false := ⟨hD2, hk2, Pair.make (List.replicate 2 zeroSec) 0 _ (by decide), by omega, by simp, by decide⟩
  have K2 : Keep [] w w2 := (k0.trans k1).then k2 (by intro q hq hlt; simp at hq; omega)
  have HLD0 := Lib.hid (show w.heap.size ≤ d ∧ w.heap.size ≤ sb ∧ w.heap.size ≤ k ∧ w.heap.size ≤ s by omega)
  clear hD1 k0 k1 hb1 hsb1 hz0 hz1 k2 hD2 hk2 hkz hsz
  generalize (((List.replicate 2 zeroSec).map flushSec).set (0 + 1) zeroSec).set 0 ⟨sImg 1 (meText 0 0 0 false), sImg 1 (meText 0 0 0 false), false⟩ = L2 at *
  go_wp2_with fail
  have hN0 : Blk (w2.alloc (.cells (meC 0 0 0 false).toArray 52)) w2.heap.size (meC 0 0 0 false) 52 := Blk.new _ _ _
  have hM0 := hM2.keep ((Keep.refl [] _).alloc (.cells (meC 0 0 0 false).toArray 52))
  have K0 := K2.alloc (.cells (meC 0 0 0 false).toArray 52)
  have HNB := Lib.hid (show w.heap.size ≤ w2.heap.size from K2.size)
  obtain ⟨w3, hw3⟩ : ∃ W, W = w2.alloc (.cells (meC 0 0 0 false).toArray 52) := ⟨_, rfl⟩
  change Code.wp _ _ _ _ (w2.alloc (.cells (meC 0 0 0 false).toArray 52))
  rw [← hw3] at hN0 hM0 K0 ⊢
  clear hw3 hM2 K2
  generalize w2.heap.size = nb at *
  go_loopw [6, 7, 10] (fun s6 s7 i wr => ∃ (j d sb k s c turn slot : Nat) (L : List Sec) (b e r : Int) (f : Bool), j ≤ ls.length ∧ j ≤ 20 ∧ i = .int .i64 j ∧ s6 = .pointer (some ⟨d, 0, none⟩) ∧ s7 = .pointer (some ⟨k, 0, none⟩) ∧
    1 ≤ turn ∧ turn ≤ j + 1 ∧ c ≤ 5 + 2 * j ∧ Blk wr nb (meC b e r f) 52 ∧ MetaOn wr d sb k s L c turn slot b e r f ∧ Keep [] w wr ∧ (w.heap.size ≤ d ∧ w.heap.size ≤ sb ∧ w.heap.size ≤ k ∧ w.heap.size ≤ s)) (fun _ _ i _ => ls.length - (intOf i).toNat)
  case atStart => exact ⟨0, d, sb, k, s, 5, 1, 0, L2, 0, 0, 0, false, by omega, by omega, rfl, rfl, rfl, by omega, by omega, by omega, hN0, hM0, K0, HLD0.out⟩
  case round =>
    clear hN0 hM0 K0 HLD0
    obtain ⟨j, d, sb, k, s, c, turn, slot, L, b, e, r, f, hj, hj20, rfl, rfl, rfl, ht1, htj, hc, hN, hM, hK, hld⟩ := hrel
    have HLD := Lib.hid hld
    clear hld
    by_cases hin : j < ls.length ∧ j < 20
    · obtain ⟨hlt, hlt20⟩ := hin
      have q0 : decide ((j : Int) < ls.length) = true := decide_eq_true (by omega)
      have q1 : decide ((j : Int) < 20) = true := decide_eq_true (by omega)
      have q2 : (j : Int) < ls.length := by omega
      have q3 : (j : Int) < 20 := by omega
      obtain ⟨y, hy⟩ : ∃ y, ls[j]? = some y := ⟨_, List.getElem?_eq_getElem hlt⟩
      obtain ⟨og, oo, oc, he, _, hog, c0, c1, c2, c3⟩ := mes_at (hls.keep hK (by simp)) j y hy
      simp only [Value.slice.injEq] at he
      obtain ⟨rfl, hq1, hq2⟩ := he
      clear hq1 hq2 hy
      obtain ⟨mb, me, mr, mf⟩ := y
      simp only at c0 c1 c2 c3
      have hX1 : Blk (wr.alloc (.cells (meC mb me mr mf).toArray 52)) wr.heap.size (meC mb me mr mf) 52 := Blk.new _ _ _
      have hN1 := hN.alloc (.cells (meC mb me mr mf).toArray 52)
      have hM1 := hM.keep ((Keep.refl [] _).alloc (.cells (meC mb me mr mf).toArray 52))
      have K1 := hK.alloc (.cells (meC mb me mr mf).toArray 52)
      have hxz := hK.size
      have hxn : wr.heap.size ≠ nb := by have := hN.lt; omega
      obtain ⟨q, hq⟩ : ∃ q, q = meMay mb me mr mf := ⟨_, rfl⟩
      have HQ := Lib.hid hq
      obtain ⟨ok, hok⟩ : ∃ ok, ok = (q && (decide (b ≤ mb) && decide (e ≤ me))) := ⟨_, rfl⟩
      have HOK := Lib.hid hok
      clear hq hok
      go_upto_region 14 with fail
      obtain ⟨w1, hw1⟩ : ∃ W, W = wr.alloc (.cells (meC mb me mr mf).toArray 52) := ⟨_, rfl⟩
      change Code.wp _ _ _ _ (wr.alloc (.cells (meC mb me mr mf).toArray 52))
      rw [← hw1] at hX1 hN1 hM1 K1 ⊢
      clear hw1 hN hM hK c0 c1 c2 c3
      obtain ⟨xb, hxb⟩ : ∃ xb, xb = wr.heap.size := ⟨_, rfl⟩
      rw [← hxb] at hX1 hxn hxz ⊢
      clear hxb
      go_cut [53] (fun s53 wc => s53 = .bool ok ∧ Blk wc xb (meC mb me mr mf) 52 ∧ Blk wc nb (meC b e r f) 52 ∧ MetaOn wc d sb k s L c turn slot b e r f ∧ Keep [] w wc)
      case first =>
        have c0 := hX1.cell 0
        have c1 := hX1.cell 1
        have c2 := hX1.cell 2
        have c3 := hX1.cell 3
        simp only [meC, List.getElem?_cons_zero, List.getElem?_cons_succ] at c0 c1 c2 c3
        go_wp2_with fail
        refine (lawMay_any mb me mr mf q HQ.out).mono ?_
        rintro x w2 ⟨rfl, k2⟩
        have hX2 := hX1.keep k2 (by simp)
        have hN2 := hN1.keep k2 (by simp)
        have hM2 := hM1.keep k2
        have K2 := K1.trans k2
        clear hX1 hN1 hM1 K1 k2 c0 c1 c2 c3
        have c0 := hX2.cell 0
        have c1 := hX2.cell 1
        have n0 := hN2.cell 0
        have n1 := hN2.cell 1
        simp only [meC, List.getElem?_cons_zero, List.getElem?_cons_succ] at c0 c1 n0 n1
        cases q
        · have HN : ok = false := HOK.out.trans rfl
          subst HN
          go_wp2_with fail
          go_meet
          exact ⟨rfl, hX2, hN2, hM2, K2⟩
        by_cases a1 : b ≤ mb
        case neg =>
          have p1 : decide (b ≤ mb) = false := decide_eq_false a1
          have HN : ok = false := HOK.out.trans (by rw [p1]; rfl)
          subst HN
          go_wp2_with fail
          go_meet
          exact ⟨rfl, hX2, hN2, hM2, K2⟩
        have p1 : decide (b ≤ mb) = true := decide_eq_true a1
        by_cases a2 : e ≤ me
        case neg =>
          have p2 : decide (e ≤ me) = false := decide_eq_false a2
          have HN : ok = false := HOK.out.trans (by rw [p1, p2]; rfl)
          subst HN
          go_wp2_with fail
          go_meet
          exact ⟨rfl, hX2, hN2, hM2, K2⟩
        have p2 : decide (e ≤ me) = true := decide_eq_true a2
        have HN : ok = true := HOK.out.trans (by rw [p1, p2]; rfl)
        subst HN
        go_wp2_with fail
        go_meet
        exact ⟨rfl, hX2, hN2, hM2, K2⟩
      case rest =>
      obtain ⟨rfl, hX2, hN2, hM2, K2⟩ := hcut
      clear hX1 hN1 hM1 K1
      have hiff : ok = true ↔ (meMay mb me mr mf = true ∧ b ≤ mb ∧ e ≤ me) := by
        rw [HOK.out, HQ.out]
        simp only [Bool.and_eq_true, decide_eq_true_eq]
      have HIFF := Lib.hid hiff
      clear hiff
      go_upto_if 53 with fail
      go_cut [12] (fun s12 wc => ∃ (want b2 e2 r2 : Int) (f2 : Bool), s12 = .int .i64 want ∧ Blk wc nb (meC b2 e2 r2 f2) 52 ∧ Blk wc xb (meC mb me mr mf) 52 ∧ MetaOn wc d sb k s L c turn slot b e r f ∧ Keep [] w wc ∧
        (((meMay mb me mr mf = true ∧ b ≤ mb ∧ e ≤ me) ∧ want = 0 ∧ b2 = mb ∧ e2 = me ∧ r2 = mr ∧ f2 = mf) ∨ (¬ (meMay mb me mr mf = true ∧ b ≤ mb ∧ e ≤ me) ∧ want = 1 ∧ b2 = b ∧ e2 = e ∧ r2 = r ∧ f2 = f)))
      case first =>
        cases ok
        · go_wp2_with fail
          go_meet
          exact ⟨1, b, e, r, f, rfl, hN2, hX2, hM2, K2, .inr ⟨fun h => absurd (HIFF.out.2 h) (by decide), rfl, rfl, rfl, rfl, rfl⟩⟩
        · have hw := HIFF.out.1 rfl
          have HW := Lib.hid hw
          clear hw
          have c0 := hX2.cell 0
          have c1 := hX2.cell 1
          have c2 := hX2.cell 2
          have c3 := hX2.cell 3
          simp only [meC, List.getElem?_cons_zero, List.getElem?_cons_succ] at c0 c1 c2 c3
          have n0 := hN2.cell 0
          have n1 := hN2.cell 1
          have n2 := hN2.cell 2
          have n3 := hN2.cell 3
          have g0 := hN2.free 0
          have g1 := hN2.free 1
          have g2 := hN2.free 2
          have g3 := hN2.free 3
          simp only [meC, List.getElem?_cons_zero, List.getElem?_cons_succ] at n0 n1 n2 n3
          go_wp2_with fail
          go_meet
          have hN5 := (((hN2.set 0 (.int .i64 mb)).set 1 (.int .i64 me)).set 2 (.int .i64 mr)).set 3 (.bool mf)
          have hK5 : Keep [nb] wc ((((wc.setCell ⟨nb, 0, none⟩ (.int .i64 mb)).setCell ⟨nb, 1, none⟩ (.int .i64 me)).setCell ⟨nb, 2, none⟩ (.int .i64 mr)).setCell ⟨nb, 3, none⟩ (.bool mf)) := ((((Keep.refl _ _).setCell (.inl (by simp)) _).setCell (.inl (by simp)) _).setCell (.inl (by simp)) _).setCell (.inl (by simp)) _
          have hnn := hN2.ty.ne hM2.dev.dev.ty (by decide)
          have hns := hN2.ty.ne hM2.dev.secs.ty (by decide)
          have hnp := hN2.ty.ne hM2.kep.2.ty (by decide)
          have hnk := hN2.ty.ne hM2.kep.1.ty (by decide)
          have hnu : ∀ y ∈ [nb], ¬ Ty wc y 5 := by intro y hy; simp only [List.mem_singleton] at hy; subst hy; exact fun h => hN2.ty.ne h (by decide) rfl
          exact ⟨0, mb, me, mr, mf, rfl, hN5, hX2.keep hK5 (by simp; omega), ⟨hM2.dev.keep hK5 (by simp; omega) (by simp; omega), hM2.kep.keep hK5 (by simp; omega) (by simp; omega) hnu, hM2.pair, hM2.slot1, hM2.len, hM2.may⟩, K2.then hK5 (by intro y hy hlt2; have := HNB.out; simp at hy; omega), .inl ⟨HW.out, rfl, rfl, rfl, rfl, rfl⟩⟩
      case rest =>
      obtain ⟨want, b2, e2, r2, f2, rfl, hN3, hX3, hM3, K3, hw⟩ := hcut
      clear hX2 hN2 hM2 K2
      have hsv : ∀ (W : World), MetaOn W d sb k s L c turn slot b e r f → Calls Try.prog 29 #[.pointer (some ⟨k, 0, none⟩), meV mb me mr mf] W fun x w' => x = .returned (.int .i64 want) ∧ MetaNext w' d sb k s c turn b2 e2 r2 f2 ∧ Keep [d, sb, s, k] W w'   := fun W h => meSave_both h mb me mr mf (by omega) (by omega) want b2 e2 r2 f2 hw
      have HSV := Lib.hid hsv
      clear hsv hw
      go_wp2_with fail
      refine wp_region_inv (allJ wc xb nb d sb k s L c turn slot mb me mr mf b e r f b2 e2 r2 f2 q want) (by kernel_rfl) (by kernel_rfl) (by kernel_rfl) ?_ (Steps.cons 0 ?_ (Steps.cons 1 ?_ (Steps.cons 2 ?_ (Steps.cons 3 ?_ (Steps.cons 4 ?_ (Steps.cons 5 ?_ (Steps.cons 6 ?_ (Steps.cons 7 ?_ (Steps.cons 8 ?_ (Steps.cons 9 ?_ (Steps.cons 10 ?_ (Steps.cons 11 ?_ (Steps.nil 12))))))))))))) 12 rfl ?_
      · intro x
        exact ⟨hX3.drew, hN3.drew, fun _ => hM3.keep ((Keep.refl [] _).drew), fun h => absurd h (by decide), (Keep.refl _ _).drew, fun h => absurd h (by decide), fun h => absurd h (by decide), fun h => absurd h (by decide), fun h => absurd h (by decide), fun h => absurd h (by decide), fun h => absurd h (by decide), fun h => absurd h (by decide), fun h => absurd h (by decide), fun h => absurd h (by decide), fun h => absurd h (by decide), fun h => absurd h (by decide), fun h => absurd h (by decide)⟩
      · intro l x w' hJ hi hd
        obtain ⟨hX, hN, hm0, hm1, hK, h0, h1, h2, h3, h4, h5, h6, h7, h8, h9, h10, h11⟩ := hJ
        have c0 := hX.cell 0
        have c1 := hX.cell 1
        have c2 := hX.cell 2
        have c3 := hX.cell 3
        simp only [meC, List.getElem?_cons_zero, List.getElem?_cons_succ] at c0 c1 c2 c3
        refine Runs.of (b := ?bA0) ?eA0 ?_
        case eA0 => simp only [putV, Act.put, List.setIfInBounds_toArray, List.set_cons_zero, List.set_cons_succ]; rfl
        intro K' hK'
        go_simp
        exact hK'.go _ rfl ⟨hX, hN, hm0, hm1, hK, fun _ => rfl, h1, h2, h3, h4, h5, h6, h7, h8, h9, h10, h11⟩
      · intro l x w' hJ hi hd
        obtain ⟨hX, hN, hm0, hm1, hK, h0, h1, h2, h3, h4, h5, h6, h7, h8, h9, h10, h11⟩ := hJ
        have e0 := h0 (show l 0 = true by first | exact hd.1 rfl | exact hd.2.1 rfl | exact hd.2.2.1 rfl | exact hd.2.2.2.1 rfl | exact hd.2.2.2.2.1 rfl | exact hd.2.2.2.2.2.1 rfl)
        refine Runs.of (b := ?bA1) ?eA1 ?_
        case eA1 => simp only [putV, Act.put, List.setIfInBounds_toArray, List.set_cons_zero, List.set_cons_succ, e0]; rfl
        intro K' hK'
        go_simp
        refine (meMay_any mb me mr mf q HQ.out).mono ?_
        rintro x2 w2 ⟨rfl, k2⟩
        go_simp
        exact hK'.go _ rfl ⟨hX.keep k2 (by simp), hN.keep k2 (by simp), fun h => (hm0 h).keep k2, fun h => (hm1 h).keep k2, hK.trans (k2.mono (by simp)), h0, fun _ => rfl, h2, h3, h4, h5, h6, h7, h8, h9, h10, h11⟩
      · intro l x w' hJ hi hd
        obtain ⟨hX, hN, hm0, hm1, hK, h0, h1, h2, h3, h4, h5, h6, h7, h8, h9, h10, h11⟩ := hJ
        have c0 := hX.cell 0
        have c1 := hX.cell 1
        have c2 := hX.cell 2
        have c3 := hX.cell 3
        simp only [meC, List.getElem?_cons_zero, List.getElem?_cons_succ] at c0 c1 c2 c3
        refine Runs.of (b := ?bA2) ?eA2 ?_
        case eA2 => simp only [putV, Act.put, List.setIfInBounds_toArray, List.set_cons_zero, List.set_cons_succ]; rfl
        intro K' hK'
        go_simp
        exact hK'.go _ rfl ⟨hX, hN, hm0, hm1, hK, h0, h1, fun _ => rfl, h3, h4, h5, h6, h7, h8, h9, h10, h11⟩
      · intro l x w' hJ hi hd
        obtain ⟨hX, hN, hm0, hm1, hK, h0, h1, h2, h3, h4, h5, h6, h7, h8, h9, h10, h11⟩ := hJ
        have e2 := h2 (show l 2 = true by first | exact hd.1 rfl | exact hd.2.1 rfl | exact hd.2.2.1 rfl | exact hd.2.2.2.1 rfl | exact hd.2.2.2.2.1 rfl | exact hd.2.2.2.2.2.1 rfl)
        refine Runs.of (b := ?bA3) ?eA3 ?_
        case eA3 => simp only [putV, Act.put, List.setIfInBounds_toArray, List.set_cons_zero, List.set_cons_succ, e2]; rfl
        intro K' hK'
        go_simp
        refine (lawMay_any mb me mr mf q HQ.out).mono ?_
        rintro x2 w2 ⟨rfl, k2⟩
        go_simp
        exact hK'.go _ rfl ⟨hX.keep k2 (by simp), hN.keep k2 (by simp), fun h => (hm0 h).keep k2, fun h => (hm1 h).keep k2, hK.trans (k2.mono (by simp)), h0, h1, h2, fun _ => rfl, h4, h5, h6, h7, h8, h9, h10, h11⟩
      · intro l x w' hJ hi hd
        obtain ⟨hX, hN, hm0, hm1, hK, h0, h1, h2, h3, h4, h5, h6, h7, h8, h9, h10, h11⟩ := hJ
        have e1 := h1 (show l 1 = true by first | exact hd.1 rfl | exact hd.2.1 rfl | exact hd.2.2.1 rfl | exact hd.2.2.2.1 rfl | exact hd.2.2.2.2.1 rfl | exact hd.2.2.2.2.2.1 rfl)
        have e3 := h3 (show l 3 = true by first | exact hd.1 rfl | exact hd.2.1 rfl | exact hd.2.2.1 rfl | exact hd.2.2.2.1 rfl | exact hd.2.2.2.2.1 rfl | exact hd.2.2.2.2.2.1 rfl)
        refine Runs.of (b := ?bA4) ?eA4 ?_
        case eA4 => simp only [putV, Act.put, List.setIfInBounds_toArray, List.set_cons_zero, List.set_cons_succ, e1, e3]; rfl
        intro K' hK'
        go_simp
        exact hK'.go _ rfl ⟨hX, hN, hm0, hm1, hK, h0, h1, h2, h3, fun _ => rfl, h5, h6, h7, h8, h9, h10, h11⟩
      · intro l x w' hJ hi hd
        obtain ⟨hX, hN, hm0, hm1, hK, h0, h1, h2, h3, h4, h5, h6, h7, h8, h9, h10, h11⟩ := hJ
        have e4 := h4 (show l 4 = true by first | exact hd.1 rfl | exact hd.2.1 rfl | exact hd.2.2.1 rfl | exact hd.2.2.2.1 rfl | exact hd.2.2.2.2.1 rfl | exact hd.2.2.2.2.2.1 rfl)
        refine Runs.of (b := ?bA5) ?eA5 ?_
        case eA5 => simp only [putV, Act.put, List.setIfInBounds_toArray, List.set_cons_zero, List.set_cons_succ, e4]; rfl
        intro K' hK'
        go_simp
        exact hK'.go _ rfl ⟨hX, hN, hm0, hm1, hK, h0, h1, h2, h3, h4, fun _ => rfl, h6, h7, h8, h9, h10, h11⟩
      · intro l x w' hJ hi hd
        obtain ⟨hX, hN, hm0, hm1, hK, h0, h1, h2, h3, h4, h5, h6, h7, h8, h9, h10, h11⟩ := hJ
        have e5 := h5 (show l 5 = true by first | exact hd.1 rfl | exact hd.2.1 rfl | exact hd.2.2.1 rfl | exact hd.2.2.2.1 rfl | exact hd.2.2.2.2.1 rfl | exact hd.2.2.2.2.2.1 rfl)
        refine Runs.of (b := ?bA6) ?eA6 ?_
        case eA6 => simp only [putV, Act.put, List.setIfInBounds_toArray, List.set_cons_zero, List.set_cons_succ, e5]; rfl
        intro K' hK'
        go_simp
        exact hK'.go _ rfl ⟨hX, hN, hm0, hm1, hK, h0, h1, h2, h3, h4, h5, fun _ => rfl, h7, h8, h9, h10, h11⟩
      · intro l x w' hJ hi hd
        obtain ⟨hX, hN, hm0, hm1, hK, h0, h1, h2, h3, h4, h5, h6, h7, h8, h9, h10, h11⟩ := hJ
        have e5 := h5 (show l 5 = true by first | exact hd.1 rfl | exact hd.2.1 rfl | exact hd.2.2.1 rfl | exact hd.2.2.2.1 rfl | exact hd.2.2.2.2.1 rfl | exact hd.2.2.2.2.2.1 rfl)
        have c0 := hX.cell 0
        have c1 := hX.cell 1
        have c2 := hX.cell 2
        have c3 := hX.cell 3
        simp only [meC, List.getElem?_cons_zero, List.getElem?_cons_succ] at c0 c1 c2 c3
        refine Runs.of (b := ?bA7) ?eA7 ?_
        case eA7 => simp only [putV, Act.put, List.setIfInBounds_toArray, List.set_cons_zero, List.set_cons_succ, e5]; rfl
        intro K' hK'
        go_simp
        exact hK'.go _ rfl ⟨hX, hN, hm0, hm1, hK, h0, h1, h2, h3, h4, h5, h6, fun _ => rfl, h8, h9, h10, h11⟩
      · intro l x w' hJ hi hd
        obtain ⟨hX, hN, hm0, hm1, hK, h0, h1, h2, h3, h4, h5, h6, h7, h8, h9, h10, h11⟩ := hJ
        have e5 := h5 (show l 5 = true by first | exact hd.1 rfl | exact hd.2.1 rfl | exact hd.2.2.1 rfl | exact hd.2.2.2.1 rfl | exact hd.2.2.2.2.1 rfl | exact hd.2.2.2.2.2.1 rfl)
        have e6 := h6 (show l 6 = true by first | exact hd.1 rfl | exact hd.2.1 rfl | exact hd.2.2.1 rfl | exact hd.2.2.2.1 rfl | exact hd.2.2.2.2.1 rfl | exact hd.2.2.2.2.2.1 rfl)
        have e7 := h7 (show l 7 = true by first | exact hd.1 rfl | exact hd.2.1 rfl | exact hd.2.2.1 rfl | exact hd.2.2.2.1 rfl | exact hd.2.2.2.2.1 rfl | exact hd.2.2.2.2.2.1 rfl)
        refine Runs.of (b := ?bA8) ?eA8 ?_
        case eA8 => simp only [putV, Act.put, List.setIfInBounds_toArray, List.set_cons_zero, List.set_cons_succ, e5, e6, e7]; rfl
        intro K' hK'
        go_simp
        have hM := hm0 hi
        refine (HSV.out _ hM).mono ?_
        rintro x2 w2 ⟨rfl, hM2, k2⟩
        have hxn := hX.ty.ne hM.dev.dev.ty (by decide)
        have hxs := hX.ty.ne hM.dev.secs.ty (by decide)
        have hxp := hX.ty.ne hM.kep.2.ty (by decide)
        have hxk := hX.ty.ne hM.kep.1.ty (by decide)
        have hnn := hN.ty.ne hM.dev.dev.ty (by decide)
        have hns := hN.ty.ne hM.dev.secs.ty (by decide)
        have hnp := hN.ty.ne hM.kep.2.ty (by decide)
        have hnk := hN.ty.ne hM.kep.1.ty (by decide)
        go_simp
        exact hK'.go _ rfl ⟨hX.keep k2 (by simp; omega), hN.keep k2 (by simp; omega), fun h => Bool.noConfusion (show true = false from h), fun _ => hM2, hK.trans k2, h0, h1, h2, h3, h4, h5, h6, h7, fun _ => rfl, h9, h10, h11⟩
      · intro l x w' hJ hi hd
        obtain ⟨hX, hN, hm0, hm1, hK, h0, h1, h2, h3, h4, h5, h6, h7, h8, h9, h10, h11⟩ := hJ
        have e5 := h5 (show l 5 = true by first | exact hd.1 rfl | exact hd.2.1 rfl | exact hd.2.2.1 rfl | exact hd.2.2.2.1 rfl | exact hd.2.2.2.2.1 rfl | exact hd.2.2.2.2.2.1 rfl)
        refine Runs.of (b := ?bA9) ?eA9 ?_
        case eA9 => simp only [putV, Act.put, List.setIfInBounds_toArray, List.set_cons_zero, List.set_cons_succ, e5]; rfl
        intro K' hK'
        go_simp
        exact hK'.go _ rfl ⟨hX, hN, hm0, hm1, hK, h0, h1, h2, h3, h4, h5, h6, h7, h8, fun _ => rfl, h10, h11⟩
      · intro l x w' hJ hi hd
        obtain ⟨hX, hN, hm0, hm1, hK, h0, h1, h2, h3, h4, h5, h6, h7, h8, h9, h10, h11⟩ := hJ
        have e5 := h5 (show l 5 = true by first | exact hd.1 rfl | exact hd.2.1 rfl | exact hd.2.2.1 rfl | exact hd.2.2.2.1 rfl | exact hd.2.2.2.2.1 rfl | exact hd.2.2.2.2.2.1 rfl)
        have e8 := h8 (show l 8 = true by first | exact hd.1 rfl | exact hd.2.1 rfl | exact hd.2.2.1 rfl | exact hd.2.2.2.1 rfl | exact hd.2.2.2.2.1 rfl | exact hd.2.2.2.2.2.1 rfl)
        have e9 := h9 (show l 9 = true by first | exact hd.1 rfl | exact hd.2.1 rfl | exact hd.2.2.1 rfl | exact hd.2.2.2.1 rfl | exact hd.2.2.2.2.1 rfl | exact hd.2.2.2.2.2.1 rfl)
        refine Runs.of (b := ?bA10) ?eA10 ?_
        case eA10 => simp only [putV, Act.put, List.setIfInBounds_toArray, List.set_cons_zero, List.set_cons_succ, e5, e8, e9]; rfl
        intro K' hK'
        go_simp
        exact hK'.go _ rfl ⟨hX, hN, hm0, hm1, hK, h0, h1, h2, h3, h4, h5, h6, h7, h8, h9, fun _ => rfl, h11⟩
      · intro l x w' hJ hi hd
        obtain ⟨hX, hN, hm0, hm1, hK, h0, h1, h2, h3, h4, h5, h6, h7, h8, h9, h10, h11⟩ := hJ
        have e5 := h5 (show l 5 = true by first | exact hd.1 rfl | exact hd.2.1 rfl | exact hd.2.2.1 rfl | exact hd.2.2.2.1 rfl | exact hd.2.2.2.2.1 rfl | exact hd.2.2.2.2.2.1 rfl)
        have e10 := h10 (show l 10 = true by first | exact hd.1 rfl | exact hd.2.1 rfl | exact hd.2.2.1 rfl | exact hd.2.2.2.1 rfl | exact hd.2.2.2.2.1 rfl | exact hd.2.2.2.2.2.1 rfl)
        refine Runs.of (b := ?bA11) ?eA11 ?_
        case eA11 => simp only [putV, Act.put, List.setIfInBounds_toArray, List.set_cons_zero, List.set_cons_succ, e5, e10]; rfl
        intro K' hK'
        go_simp
        exact hK'.go _ rfl ⟨hX, hN, hm0, hm1, hK, h0, h1, h2, h3, h4, h5, h6, h7, h8, h9, h10, fun _ => rfl⟩
      · intro l x w3 hJ hl
        obtain ⟨hX, hN, hm0, hm1, hK, h0, h1, h2, h3, h4, h5, h6, h7, h8, h9, h10, h11⟩ := hJ
        have e11 := h11 (hl 11 (by decide))
        have hM4 := hm1 (hl 8 (by decide))
        simp only [putV, Act.put, List.setIfInBounds_toArray, List.set_cons_zero, List.set_cons_succ, e11]
        have K4 := K3.then hK (by intro y hy hlt2; have := HLD.out; simp at hy; omega)
        have hN4 := hN
        clear h0 h1 h2 h3 h4 h5 h6 h7 h8 h9 h10 h11 e11 hl hX hN hm0 hm1 hK hX3 hN3 hM3 K3
        obtain ⟨L4, c4, turn4, slot4, hc4, ht4, ht4', hM4⟩ := hM4
        have hz4 := K4.size
        go_upto_region 19 with fail
        go_cut [76] (fun s76 wc => w3 = wc ∧ ∃ bb : Bool, s76 = .bool bb)
        case first =>
          by_cases hjf : j < fl.length
          · have q5 : decide ((j : Int) < fl.length) = true := decide_eq_true (by omega)
            have q6 : (j : Int) < fl.length := by omega
            obtain ⟨fg, fo, fc, he, _, hfg, hat⟩ := (hfl.keep K4 (by simp)).at1 (by omega)
            simp only [Value.slice.injEq] at he
            obtain ⟨rfl, hq1, hq2⟩ := he
            clear hq1 hq2
            have hcell := hat j hjf
            rw [bools_at _ _ hjf] at hcell
            clear hat
            generalize fl.getD j false = bb at *
            go_wp2_with fail
            go_meet
            exact ⟨rfl, bb, rfl⟩
          · have q5 : decide ((j : Int) < fl.length) = false := decide_eq_false (by omega)
            go_wp2_with fail
            go_meet
            exact ⟨rfl, false, rfl⟩
        case rest =>
        obtain ⟨rfl, bb, rfl⟩ := hcut
        go_upto_if 76 with fail
        go_cut [6, 7, 8] (fun s6 s7 _ wc => ∃ (d' sb' k' s' : Nat) (L' : List Sec) (c' slot' : Nat), s6 = .pointer (some ⟨d', 0, none⟩) ∧ s7 = .pointer (some ⟨k', 0, none⟩) ∧ c' ≤ c + 2 ∧ Blk wc nb (meC b2 e2 r2 f2) 52 ∧ MetaOn wc d' sb' k' s' L' c' turn4 slot' b2 e2 r2 f2 ∧ Keep [] w wc ∧ (w.heap.size ≤ d' ∧ w.heap.size ≤ sb' ∧ w.heap.size ≤ k' ∧ w.heap.size ≤ s'))
        case first =>
          cases bb
          · go_wp2_with fail
            go_meet
            exact ⟨d, sb, k, s, L4, c4, slot4, rfl, rfl, hc4, hN4, hM4, K4, HLD.out⟩
          · have hkv : Rv w3 1 (.slice none 0 0) ([] : List Bool).length (bools []) := Rv.nil w3 1
            go_wp2_with fail
            refine (Crash_any hM4.dev (.slice none 0 0) [] hkv (by simp)).mono ?_
            rintro x w5 ⟨d5, sb5, rfl, hD5, k5, hd5, hsb5⟩
            have hz5 := k5.size
            go_wp2_with fail
            refine (meOpen_pair hD5 (hM4.pair.crash []) hM4.slot1 hM4.may (by omega) (by omega)).mono ?_
            rintro x w6 ⟨o, s6, rfl, hk6, k6, hko, hso⟩
            have hM6 : MetaOn w6 d5 sb5 o s6 _ 0 turn4 slot4 b2 e2 r2 f2 := ⟨hD5.keep k6 (by simp) (by simp), hk6, hM4.pair.crash [], hM4.slot1, by simp [crashN, hM4.len], hM4.may⟩
            have hN6 := (hN4.keep k5 (by simp)).keep k6 (by simp)
            go_wp2_with fail
            go_meet
            exact ⟨d5, sb5, o, s6, _, 0, slot4, rfl, rfl, by omega, hN6, hM6, (K4.trans k5).trans k6, by omega⟩
        case rest =>
        obtain ⟨d7, sb7, k7, s7, L7, c7, slot7, rfl, rfl, hc7, hN7, hM7, K7, hl7⟩ := hcut
        clear hN4 hM4 K4
        go_wp2_with fail
        refine wp_region_inv (all2J wc nb d7 sb7 k7 s7 L7 c7 turn4 slot7 b2 e2 r2 f2) (by kernel_rfl) (by kernel_rfl) (by kernel_rfl) ?_ (Steps.cons 0 ?_ (Steps.cons 1 ?_ (Steps.cons 2 ?_ (Steps.cons 3 ?_ (Steps.cons 4 ?_ (Steps.nil 5)))))) 5 rfl ?_
        · intro x
          exact ⟨hN7.drew, hM7.keep ((Keep.refl [] _).drew), (Keep.refl _ _).drew, fun h => absurd h (by decide), fun h => absurd h (by decide), fun h => absurd h (by decide), fun h => absurd h (by decide), fun h => absurd h (by decide)⟩
        · intro l x w' hJ hi hd
          obtain ⟨hN, hM, hK, h0, h1, h2, h3, h4⟩ := hJ
          refine Runs.of (b := ?bZ0) ?eZ0 ?_
          case eZ0 => simp only [putV, Act.put, List.setIfInBounds_toArray, List.set_cons_zero, List.set_cons_succ]; rfl
          intro K' hK'
          go_simp
          exact hK'.go _ rfl ⟨hN, hM, hK, fun _ => rfl, h1, h2, h3, h4⟩
        · intro l x w' hJ hi hd
          obtain ⟨hN, hM, hK, h0, h1, h2, h3, h4⟩ := hJ
          have e0 := h0 (show l 0 = true by first | exact hd.1 rfl | exact hd.2.1 rfl | exact hd.2.2.1 rfl | exact hd.2.2.2.1 rfl | exact hd.2.2.2.2.1 rfl | exact hd.2.2.2.2.2.1 rfl)
          refine Runs.of (b := ?bZ1) ?eZ1 ?_
          case eZ1 => simp only [putV, Act.put, List.setIfInBounds_toArray, List.set_cons_zero, List.set_cons_succ, e0]; rfl
          intro K' hK'
          go_simp
          refine (meMeta_any hM.kep).mono ?_
          rintro x2 w2 ⟨rfl, k2⟩
          go_simp
          exact hK'.go _ rfl ⟨hN.keep k2 (by simp), hM.keep k2, hK.trans k2, h0, fun _ => rfl, h2, h3, h4⟩
        · intro l x w' hJ hi hd
          obtain ⟨hN, hM, hK, h0, h1, h2, h3, h4⟩ := hJ
          have c0 := hN.cell 0
          have c1 := hN.cell 1
          have c2 := hN.cell 2
          have c3 := hN.cell 3
          simp only [meC, List.getElem?_cons_zero, List.getElem?_cons_succ] at c0 c1 c2 c3
          refine Runs.of (b := ?bZ2) ?eZ2 ?_
          case eZ2 => simp only [putV, Act.put, List.setIfInBounds_toArray, List.set_cons_zero, List.set_cons_succ]; rfl
          intro K' hK'
          go_simp
          exact hK'.go _ rfl ⟨hN, hM, hK, h0, h1, fun _ => rfl, h3, h4⟩
        · intro l x w' hJ hi hd
          obtain ⟨hN, hM, hK, h0, h1, h2, h3, h4⟩ := hJ
          have e1 := h1 (show l 1 = true by first | exact hd.1 rfl | exact hd.2.1 rfl | exact hd.2.2.1 rfl | exact hd.2.2.2.1 rfl | exact hd.2.2.2.2.1 rfl | exact hd.2.2.2.2.2.1 rfl)
          have e2 := h2 (show l 2 = true by first | exact hd.1 rfl | exact hd.2.1 rfl | exact hd.2.2.1 rfl | exact hd.2.2.2.1 rfl | exact hd.2.2.2.2.1 rfl | exact hd.2.2.2.2.2.1 rfl)
          refine Runs.of (b := ?bZ3) ?eZ3 ?_
          case eZ3 => simp only [putV, Act.put, List.setIfInBounds_toArray, List.set_cons_zero, List.set_cons_succ, e1, e2]; rfl
          intro K' hK'
          go_simp
          refine (lawEq_any _ _ _ _).mono ?_
          rintro x2 w2 ⟨rfl, k2⟩
          go_simp
          exact hK'.go _ rfl ⟨hN.keep k2 (by simp), hM.keep k2, hK.trans k2, h0, h1, h2, fun _ => rfl, h4⟩
        · intro l x w' hJ hi hd
          obtain ⟨hN, hM, hK, h0, h1, h2, h3, h4⟩ := hJ
          have e3 := h3 (show l 3 = true by first | exact hd.1 rfl | exact hd.2.1 rfl | exact hd.2.2.1 rfl | exact hd.2.2.2.1 rfl | exact hd.2.2.2.2.1 rfl | exact hd.2.2.2.2.2.1 rfl)
          refine Runs.of (b := ?bZ4) ?eZ4 ?_
          case eZ4 => simp only [putV, Act.put, List.setIfInBounds_toArray, List.set_cons_zero, List.set_cons_succ, e3]; rfl
          intro K' hK'
          go_simp
          exact hK'.go _ rfl ⟨hN, hM, hK, h0, h1, h2, h3, fun _ => rfl⟩
        · intro l x w3 hJ hl
          obtain ⟨hN, hM, hK, h0, h1, h2, h3, h4⟩ := hJ
          have e4 := h4 (hl 4 (by decide))
          simp only [putV, Act.put, List.setIfInBounds_toArray, List.set_cons_zero, List.set_cons_succ, e4]
          have K8 := K7.trans hK
          clear h0 h1 h2 h3 h4 e4 hl hN7 hM7 K7
          go_wp2_with fail
          go_roundw
          case rel => exact ⟨j + 1, d7, sb7, k7, s7, c7, turn4, slot7, L7, b2, e2, r2, f2, by omega, by omega, by go_num, rfl, rfl, by omega, by omega, by omega, hN, hM, K8, hl7⟩
          case measure => simp [intOf]; omega
    · have hjj : ¬ (j < ls.length) ∨ (j < ls.length ∧ ¬ j < 20) := by omega
      rcases hjj with h1 | ⟨h1, h2⟩
      · have q0 : decide ((j : Int) < ls.length) = false := decide_eq_false (by omega)
        have q2 : ¬ (j : Int) < ls.length := by omega
        go_wp2_with fail
        go_ret
        exact ⟨rfl, hK.below⟩
      · have q0 : decide ((j : Int) < ls.length) = true := decide_eq_true (by omega)
        have q1 : decide ((j : Int) < 20) = false := decide_eq_false (by omega)
        have q2 : (j : Int) < ls.length := by omega
        go_wp2_with fail
        go_ret
        exact ⟨rfl, hK.below⟩
end Go.Proofs.Ytnnaleoigiaboaa
