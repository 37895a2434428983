/- Jn1, Jn2, Jn3, Jn4, Jn6, Jn7, Jn5, Jn8, Jn9 -/
import Derived.Test.YtpibpapolcdeiaaG1
import Derived.Test.YtpibpapolcdeiaaG4
import Derived.Test.YtpibpapolcdeiaaG6
import Derived.Test.YtpibpapolcdeiaaG8
/- journal: marks in memory. -/
namespace Go.Proofs.Ytpibpapolcdeiaa
open Go.ChangeShapes Go.WideShapes Go.ChangeAt Go.RowKit
set_option linter.unusedVariables false
set_option linter.unusedSimpArgs false
set_option maxRecDepth 100000

theorem Try.infoMk : (Try.prog.info? 61).map (fun i => (i.zero, i.size, i.bytes)) = some (some (.agg #[.int .i64 0, .string ByteArray.empty, .int .i64 0]), 3, 32) := by kernel_rfl
/-- A mark: its number, its key's bytes, where it lies. -/
structure Mk where
  seq : Nat
  key : List Nat
  pos : Nat
def mkC (a : Mk) : List Value := [.int .i64 (a.seq : Int), .string (toStr a.key), .int .i64 (a.pos : Int)]
def mkCs (A : List Mk) : List Value := (A.map mkC).flatten
theorem mkCs_at (A : List Mk) (i j : Nat) (hj : j < 3) (a : Mk) (ha : A[i]? = some a) : (mkCs A)[i * 3 + j]? = (mkC a)[j]? := by
  unfold mkCs
  rw [flatten_at mkC 3 (fun _ => rfl) A i j hj, ha]; rfl
theorem mkCs_len (A : List Mk) : (mkCs A).length = A.length * 3 := flatten_len mkC 3 (fun _ => rfl) A
theorem mkCs_snoc (A : List Mk) (a : Mk) : mkCs (A ++ [a]) = mkCs A ++ mkC a := by unfold mkCs; simp
def MRow (w : World) (base : Nat) (v : Value) (A : List Mk) : Prop := w.ownsRow base 61 3 v A.length (mkCs A)
theorem MRow.slice {w : World} {base : Nat} {v : Value} {A : List Mk} (h : MRow w base v A) : ∃ a cap, v = .slice a A.length cap := ownsRow_slice h
theorem MRow.keep {w w' : World} {base : Nat} {v : Value} {A : List Mk} {S : List Nat} (h : MRow w base v A) (k : Keep S w w') (hS : ∀ b, v.ownBlock = some b → b ∉ S) : MRow w' base v A := by
  refine ⟨h.1, ?_⟩
  rcases h.2 with h2 | ⟨g, cap, cur, rfl, hb, hg, r⟩
  · exact .inl h2
  · exact .inr ⟨g, cap, cur, rfl, hb, by rw [k.block g (Array.getElem?_eq_some_iff.1 hg).1 (hS g rfl)]; exact hg, r⟩
theorem MRow.lt {w : World} {base : Nat} {v : Value} {A : List Mk} (h : MRow w base v A) : ∀ b, v.ownBlock = some b → base ≤ b ∧ b < w.heap.size := World.ownsRow.lt h
theorem MRow.ty {w : World} {base : Nat} {v : Value} {A : List Mk} (h : MRow w base v A) : ∀ k, v.ownBlock = some k → Ty w k 61 := by
  intro k hk
  unfold MRow at h
  rcases h.2 with ⟨rfl, _⟩ | ⟨g, cap, cur, rfl, _, hg, _⟩
  · cases hk
  · cases hk; exact ⟨_, _, hg⟩
theorem MRow.at_ {w : World} {base : Nat} {v : Value} {A : List Mk} (h : MRow w base v A) (hp : 0 < A.length) : ∃ g cap, v = .slice (some ⟨g, 0, none⟩) A.length cap ∧ ∀ i a, A[i]? = some a → w.cell? ⟨g, i * 3, none⟩ = some (.int .i64 (a.seq : Int)) ∧ w.cell? ⟨g, i * 3 + 1, none⟩ = some (.string (toStr a.key)) ∧ w.cell? ⟨g, i * 3 + 2, none⟩ = some (.int .i64 (a.pos : Int)) := by
  unfold MRow at h
  have h0 := h
  rcases h0.2 with ⟨_, hn⟩ | ⟨g, cap, cur, he, _⟩
  · omega
  · subst he
    refine ⟨g, cap, rfl, fun i a ha => ?_⟩
    have hi := (List.getElem?_eq_some_iff.1 ha).1
    have hc : ∀ j, j < 3 → w.cell? ⟨g, i * 3 + j, none⟩ = (mkC a)[j]? := fun j hj => by
      rw [World.ownsRow.cellAt h (i * 3 + j) (by omega), mkCs_at A i j hj a ha]
    exact ⟨hc 0 (by decide), hc 1 (by decide), hc 2 (by decide)⟩
theorem MRow.app {w : World} {base : Nat} {v : Value} {A : List Mk} (a : Mk) (h : w.ownsRow base 61 3 v (A.length + 1) (mkCs A ++ mkC a)) : MRow w base v (A ++ [a]) := by
  unfold MRow
  rw [mkCs_snoc, List.length_append]
  exact h
/-- The journal's two cells. -/
def jnC (lb : Nat) (v : Value) : List Value := [.pointer (some ⟨lb, 0, none⟩), v]
/-- The last number. -/
def lastSeq (M : List Mk) : Nat := match M.getLast? with
  | none => 0
  | some a => a.seq
/-- The greatest number that is not kept. -/
def baseSeq (M : List Mk) : Nat := match M.head? with
  | none => 0
  | some a => a.seq - 1
/-- A journal in memory (without its log). -/
structure JAt (w : World) (B jb lb : Nat) (v : Value) (M : List Mk) : Prop where
  blk : Blk w jb (jnC lb v) 53
  row : MRow w B v M
section
variable {w w' : World} {B jb lb : Nat} {v : Value} {M : List Mk}
theorem JAt.keep {S : List Nat} (h : JAt w B jb lb v M) (k : Keep S w w') (hj : jb ∉ S) (hS : ∀ b, v.ownBlock = some b → b ∉ S) : JAt w' B jb lb v M := ⟨h.blk.keep k hj, h.row.keep k hS⟩
theorem JAt.still (h : JAt w B jb lb v M) (k : Keep [] w w') : JAt w' B jb lb v M := h.keep k (by simp) (by simp)
set_option maxHeartbeats 4000000 in
theorem Seq_any (h : JAt w B jb lb v M) (hl : M.length ≤ 100000) :
    Calls Try.prog 13 #[.pointer (some ⟨jb, 0, none⟩)] w fun e w' => e = .returned (.int .i64 (lastSeq M : Int)) ∧ Keep [] w w' := by
  have k1 : w.cell? ⟨jb, 1, none⟩ = some v := h.blk.cell 1
  obtain ⟨a, cap, rfl⟩ := h.row.slice
  have H := Lib.hid h
  have HL := Lib.hid hl
  clear h hl
  rcases List.eq_nil_or_concat M with hM | ⟨M0, y, hM⟩
  · subst hM
    rw [show ([] : List Mk).length = 0 from rfl] at *
    go_enter Try.func13, Try.ntmps13
    go_wp2_with fail
    go_ret
    exact ⟨rfl, Keep.refl _ _⟩
  · rw [List.concat_eq_append] at hM
    obtain ⟨n, hn⟩ : ∃ n, M0.length = n := ⟨_, rfl⟩
    have hlen : M.length = n + 1 := by rw [hM]; simp [hn]
    have hy : M[n]? = some y := by rw [hM, ← hn]; simp
    have hls : lastSeq M = y.seq := by unfold lastSeq; rw [hM]; simp
    obtain ⟨g, gc, hg, hc⟩ := H.out.row.at_ (by omega)
    injection hg with hg1 hg2 hg3
    subst hg1
    obtain ⟨c0, _⟩ := hc n y hy
    have q1 : n < 200000 := by have := HL.out; omega
    rw [hlen] at *
    rw [hls]
    have HQ1 := Lib.hid q1
    clear hM hn hlen hy hls hc hg2 hg3
    go_enter Try.func13, Try.ntmps13
    go_upto_region 3 with fail
    have e4 : IntKind.i64.wrap ((n : Int) + 1 - 1) = (n : Int) := by rw [IntKind.wrap_i64]; have := HQ1.out; omega
    have e5 : IntKind.i64.wrap (n : Int) = (n : Int) := by rw [IntKind.wrap_i64]; have := HQ1.out; omega
    go_quiet (fail)
    have HKQ := Lib.hid (drewnK (Keep.refl [] w) nq)
    clear e4 e5
    generalize w.drewN nq = wq at *
    go_wp2_with fail
    go_ret
    exact ⟨rfl, HKQ.out⟩
set_option maxHeartbeats 4000000 in
theorem Base_any (h : JAt w B jb lb v M) (hl : M.length ≤ 100000) (h1 : ∀ a ∈ M, 1 ≤ a.seq ∧ a.seq < 281474976710656) :
    Calls Try.prog 14 #[.pointer (some ⟨jb, 0, none⟩)] w fun e w' => e = .returned (.int .i64 (baseSeq M : Int)) ∧ Keep [] w w' := by
  have k1 : w.cell? ⟨jb, 1, none⟩ = some v := h.blk.cell 1
  obtain ⟨a, cap, rfl⟩ := h.row.slice
  have H := Lib.hid h
  cases M with
  | nil =>
    rw [show ([] : List Mk).length = 0 from rfl] at *
    clear h hl h1
    go_enter Try.func14, Try.ntmps14
    go_wp2_with fail
    go_ret
    exact ⟨rfl, Keep.refl _ _⟩
  | cons y M0 =>
    obtain ⟨n, hn⟩ : ∃ n, n = M0.length := ⟨_, rfl⟩
    have hbs : (baseSeq (y :: M0) : Int) = (y.seq : Int) - 1 := by
      have := h1 y (by simp)
      show ((y.seq - 1 : Nat) : Int) = _
      omega
    have hb := h1 y (by simp)
    obtain ⟨g, gc, hg, hc⟩ := H.out.row.at_ (by simp)
    injection hg with hg1 hg2 hg3
    subst hg1
    obtain ⟨c0, _⟩ := hc 0 y rfl
    rw [hbs]
    have q1 : n < 200000 := by rw [List.length_cons] at hl; omega
    rw [List.length_cons, ← hn] at k1
    rw [Nat.zero_mul] at c0
    clear hn hbs hc hg2 hg3 h hl h1
    go_enter Try.func14, Try.ntmps14
    go_wp2_with fail
    go_ret
    exact ⟨rfl, Keep.refl _ _⟩
end
end Go.Proofs.Ytpibpapolcdeiaa
/- journal: Since. -/
namespace Go.Proofs.Ytpibpapolcdeiaa
open Go.ChangeShapes Go.WideShapes Go.ChangeAt Go.RowKit
set_option linter.unusedVariables false
set_option linter.unusedSimpArgs false
set_option maxRecDepth 100000

theorem Try.infoMark : (Try.prog.info? 39).map (fun i => (i.zero, i.size, i.bytes)) = some (some (.agg #[.int .i64 0, .string ByteArray.empty]), 2, 24) := by kernel_rfl
/-- What Since tells: numbers and keys. -/
def kmC (a : Mk) : List Value := [.int .i64 (a.seq : Int), .string (toStr a.key)]
def kmCs (A : List Mk) : List Value := (A.map kmC).flatten
theorem kmCs_at (A : List Mk) (i j : Nat) (hj : j < 2) (a : Mk) (ha : A[i]? = some a) : (kmCs A)[i * 2 + j]? = (kmC a)[j]? := by
  unfold kmCs
  rw [flatten_at kmC 2 (fun _ => rfl) A i j hj, ha]; rfl
theorem kmCs_snoc (A : List Mk) (a : Mk) : kmCs (A ++ [a]) = kmCs A ++ kmC a := by unfold kmCs; simp
def KRow (w : World) (base : Nat) (v : Value) (A : List Mk) : Prop := w.ownsRow base 39 2 v A.length (kmCs A)
theorem KRow.slice {w : World} {base : Nat} {v : Value} {A : List Mk} (h : KRow w base v A) : ∃ a cap, v = .slice a A.length cap := ownsRow_slice h
theorem KRow.keep {w w' : World} {base : Nat} {v : Value} {A : List Mk} {S : List Nat} (h : KRow w base v A) (k : Keep S w w') (hS : ∀ b, v.ownBlock = some b → b ∉ S) : KRow w' base v A := by
  refine ⟨h.1, ?_⟩
  rcases h.2 with h2 | ⟨g, cap, cur, rfl, hb, hg, r⟩
  · exact .inl h2
  · exact .inr ⟨g, cap, cur, rfl, hb, by rw [k.block g (Array.getElem?_eq_some_iff.1 hg).1 (hS g rfl)]; exact hg, r⟩
theorem KRow.lt {w : World} {base : Nat} {v : Value} {A : List Mk} (h : KRow w base v A) : ∀ b, v.ownBlock = some b → base ≤ b ∧ b < w.heap.size := World.ownsRow.lt h
theorem KRow.at_ {w : World} {base : Nat} {v : Value} {A : List Mk} (h : KRow w base v A) (hp : 0 < A.length) : ∃ g cap, v = .slice (some ⟨g, 0, none⟩) A.length cap ∧ ∀ i a, A[i]? = some a → w.cell? ⟨g, i * 2, none⟩ = some (.int .i64 (a.seq : Int)) ∧ w.cell? ⟨g, i * 2 + 1, none⟩ = some (.string (toStr a.key)) := by
  unfold KRow at h
  have h0 := h
  rcases h0.2 with ⟨_, hn⟩ | ⟨g, cap, cur, he, _⟩
  · omega
  · subst he
    refine ⟨g, cap, rfl, fun i a ha => ?_⟩
    have hi := (List.getElem?_eq_some_iff.1 ha).1
    have hc : ∀ j, j < 2 → w.cell? ⟨g, i * 2 + j, none⟩ = (kmC a)[j]? := fun j hj => by
      rw [World.ownsRow.cellAt h (i * 2 + j) (by omega), kmCs_at A i j hj a ha]
    exact ⟨hc 0 (by decide), hc 1 (by decide)⟩
theorem KRow.app {w : World} {base : Nat} {v : Value} {A : List Mk} (a : Mk) (h : w.ownsRow base 39 2 v (A.length + 1) (kmCs A ++ kmC a)) : KRow w base v (A ++ [a]) := by
  unfold KRow
  rw [kmCs_snoc, List.length_append]
  exact h
theorem srcKm {P : Program} {t e : TypeId} (w : World) (a : Mk) (ht : P.underlying t = some (.slice e)) (b : Nat) (hb : b = w.heap.size) (T : TypeId) (fr : Nat × Nat) :
    Src P 2 t (.slice (some ⟨b, 0, none⟩) 1 1) 1 (kmC a) (w.alloc (.cells #[.int .i64 (a.seq : Int), .string (toStr a.key)] T fr)) := by
  subst hb
  refine Src.ofSlice _ ht ⟨w.heap.size, 0, none⟩ 1 1 (kmC a) rfl (fun j x hj => ?_) (fun u hu => ?_)
  · rw [Addr.add_lit, Nat.zero_add, World.cell?_alloc_mark]
    unfold kmC at hj
    simpa using hj
  · unfold kmC at hu
    simp only [List.mem_cons, List.not_mem_nil, or_false] at hu
    rcases hu with rfl | rfl <;> rfl
/-- Those of M that are told. -/
def sinceK (M : List Mk) (s n : Int) : List Mk := (M.filter (fun m => decide (s < (m.seq : Int)))).take n.toNat
section
variable {w : World} {B jb lb : Nat} {v : Value} {M : List Mk}
set_option maxHeartbeats 4000000 in
theorem Since_bad (h : JAt w B jb lb v M) (hl : M.length ≤ 100000) (h1 : ∀ a ∈ M, 1 ≤ a.seq ∧ a.seq < 281474976710656) (s n : Int) (hs : s < baseSeq M ∨ (lastSeq M : Int) < s) :
    Calls Try.prog 12 #[.pointer (some ⟨jb, 0, none⟩), .int .i64 s, .int .i64 n] w fun e w' => e = .returned (.tuple #[.slice none 0 0, .bool false]) ∧ Keep [] w w' := by
  have HB := Lib.hid (Base_any h hl h1)
  have HS : Hid (∀ W, Keep [] w W → Calls Try.prog 13 #[.pointer (some ⟨jb, 0, none⟩)] W fun e w' => e = .returned (.int .i64 (lastSeq M : Int)) ∧ Keep [] W w') := Lib.hid (fun W k => Seq_any (h.still k) hl)
  generalize baseSeq M = bq at *
  generalize lastSeq M = lq at *
  clear h hl h1
  by_cases h2 : s < (bq : Int)
  · have q1 : decide (s < (bq : Int)) = true := decide_eq_true h2
    clear hs
    go_enter Try.func12, Try.ntmps12
    go_wp2_with fail
    refine HB.out.mono ?_
    rintro e w1 ⟨rfl, hK⟩
    have HK := Lib.hid hK
    clear hK
    go_wp2_with fail
    go_ret2
    exact ⟨rfl, HK.out⟩
  · have q1 : decide (s < (bq : Int)) = false := decide_eq_false h2
    have q2 : decide (s > (lq : Int)) = true := decide_eq_true (by omega)
    have q2' : decide ((lq : Int) < s) = true := decide_eq_true (by omega)
    clear hs
    go_enter Try.func12, Try.ntmps12
    go_wp2_with fail
    refine HB.out.mono ?_
    rintro e w1 ⟨rfl, hK⟩
    have HK := Lib.hid hK
    clear hK
    go_wp2_with fail
    refine (HS.out w1 HK.out).mono ?_
    rintro e w2 ⟨rfl, hK2⟩
    have HK2 := Lib.hid (HK.out.trans hK2)
    clear hK2
    go_wp2_with fail
    go_ret2
    exact ⟨rfl, HK2.out⟩
end
end Go.Proofs.Ytpibpapolcdeiaa
/- journal: Since, in range. -/
namespace Go.Proofs.Ytpibpapolcdeiaa
open Go.ChangeShapes Go.WideShapes Go.ChangeAt Go.RowKit
set_option linter.unusedVariables false
set_option linter.unusedSimpArgs false
set_option maxRecDepth 100000

section
variable {w : World} {B jb lb : Nat} {v : Value} {M : List Mk}
theorem sinceK_step (M : List Mk) (s n : Int) (j : Nat) (y : Mk) (hy : M[j]? = some y) : sinceK (M.take (j + 1)) s n = if s < (y.seq : Int) ∧ (((M.take j).filter (fun m => decide (s < (m.seq : Int)))).take n.toNat).length < n.toNat then sinceK (M.take j) s n ++ [y] else sinceK (M.take j) s n := by
  unfold sinceK
  have e : M.take (j + 1) = M.take j ++ [y] := by rw [List.take_add_one, hy]; rfl
  rw [e, List.filter_append]
  by_cases h1 : s < (y.seq : Int)
  · have e2 : [y].filter (fun m => decide (s < (m.seq : Int))) = [y] := by simp [h1]
    rw [e2]
    generalize (M.take j).filter (fun m => decide (s < (m.seq : Int))) = F
    by_cases h2 : (F.take n.toNat).length < n.toNat
    · rw [if_pos ⟨h1, h2⟩]
      rw [List.length_take] at h2
      have h3 : F.length < n.toNat := by omega
      rw [List.take_of_length_le (by simp; omega), List.take_of_length_le (by omega)]
    · rw [if_neg (fun h => h2 h.2)]
      rw [List.length_take] at h2
      rw [List.take_append_of_le_length (by omega)]
  · have e2 : [y].filter (fun m => decide (s < (m.seq : Int))) = [] := by simp [h1]
    rw [e2, List.append_nil, if_neg (fun h => h1 h.1)]
set_option maxHeartbeats 8000000 in
theorem Since_ok (h : JAt w B jb lb v M) (hl : M.length ≤ 100000) (h1 : ∀ a ∈ M, 1 ≤ a.seq ∧ a.seq < 281474976710656) (s n : Int) (hs : (baseSeq M : Int) ≤ s ∧ s ≤ (lastSeq M : Int)) :
    Calls Try.prog 12 #[.pointer (some ⟨jb, 0, none⟩), .int .i64 s, .int .i64 n] w fun e w' => ∃ v', e = .returned (.tuple #[v', .bool true]) ∧ KRow w' w.heap.size v' (sinceK M s n) ∧ Keep [] w w' := by
  obtain ⟨iK, hiK, hzK0, hzK1, hzK2⟩ := info_parts Try.infoMark
  have HB := Lib.hid (Base_any h hl h1)
  have HS : Hid (∀ W, Keep [] w W → Calls Try.prog 13 #[.pointer (some ⟨jb, 0, none⟩)] W fun e w' => e = .returned (.int .i64 (lastSeq M : Int)) ∧ Keep [] W w') := Lib.hid (fun W k => Seq_any (h.still k) hl)
  obtain ⟨va, vc, rfl⟩ := h.row.slice
  have H := Lib.hid h
  have HL := Lib.hid hl
  generalize baseSeq M = bq at *
  generalize lastSeq M = lq at *
  have q1 : decide (s < (bq : Int)) = false := decide_eq_false (by omega)
  have q2 : decide (s > (lq : Int)) = false := decide_eq_false (by omega)
  have q2' : decide ((lq : Int) < s) = false := decide_eq_false (by omega)
  clear h hl h1 hs
  go_enter Try.func12, Try.ntmps12
  go_wp2_with fail
  refine HB.out.mono ?_
  rintro e w1 ⟨rfl, hK⟩
  have HK := Lib.hid hK
  clear hK
  go_wp2_with fail
  refine (HS.out w1 HK.out).mono ?_
  rintro e w2 ⟨rfl, hK2⟩
  have HK2 := Lib.hid (HK.out.trans hK2)
  have H2 := Lib.hid (H.out.still HK2.out)
  have k1 : w2.cell? ⟨jb, 1, none⟩ = some (.slice va M.length vc) := H2.out.blk.cell 1
  clear hK2
  obtain ⟨m, hm⟩ : ∃ m, m = M.length := ⟨_, rfl⟩
  rw [← hm] at k1
  have HM := Lib.hid hm
  clear hm
  go_wp2_with fail
  clear q1 q2 q2'
  go_loopw [8, 30] (fun s8 s30 wr => ∃ j : Nat, s30 = .int .i64 (j : Int) ∧ j ≤ m ∧ KRow wr w.heap.size s8 (sinceK (M.take j) s n) ∧ Keep [] w wr) (fun _ x _ => m + 1 - (intOf x).toNat)
  case atStart => exact ⟨0, rfl, Nat.zero_le _, by unfold sinceK; simp; exact World.ownsRow_nil _ _ _ _, HK2.out⟩
  case round =>
  obtain ⟨j, rfl, hj, hR, hKr⟩ := hrel
  have HR := Lib.hid hR
  have HKr := Lib.hid hKr
  clear hKr k1
  obtain ⟨oa, oc, rfl⟩ := hR.slice
  clear hR
  by_cases hlt : j < m
  · have q0 : decide ((j : Int) < (m : Int)) = true := decide_eq_true (by omega)
    have q0' : decide (j < m) = true := decide_eq_true hlt
    obtain ⟨y, hy⟩ : ∃ y, M[j]? = some y := ⟨_, List.getElem?_eq_getElem (by rw [← HM.out]; exact hlt)⟩
    have hst := sinceK_step M s n j y hy
    obtain ⟨g, gc, hg, hc⟩ := ((H.out.still HKr.out).row).at_ (by have := HM.out; omega)
    injection hg with hg1 hg2 hg3
    subst hg1
    obtain ⟨c0, c1, c2⟩ := hc j y hy
    have HST := Lib.hid hst
    have HY := Lib.hid hy
    have hm100 : m ≤ 100000 := by rw [HM.out]; exact HL.out
    have HON : Hid ((sinceK (M.take j) s n).length = (((M.take j).filter (fun m => decide (s < (m.seq : Int)))).take n.toNat).length) := Lib.hid rfl
    have HOL : Hid ((sinceK (M.take j) s n).length ≤ 100000) := Lib.hid (by
      rw [HON.out, List.length_take]
      have h1 := List.length_filter_le (fun m : Mk => decide (s < (m.seq : Int))) (M.take j)
      rw [List.length_take] at h1
      omega)
    obtain ⟨O, hO⟩ : ∃ O, O = sinceK (M.take j) s n := ⟨_, rfl⟩
    rw [← hO] at HR HOL HON HST ⊢
    rw [← HON.out] at HST
    obtain ⟨on, hon⟩ : ∃ on, on = O.length := ⟨_, rfl⟩
    rw [← hon] at HOL HST ⊢
    have HONN := Lib.hid hon
    have HOO := Lib.hid hO
    clear hc hg2 hg3 hst hy hO hon
    have KB := (Keep.refl [] wr).alloc (.cells #[.int .i64 (y.seq : Int), .string (toStr y.key), .int .i64 (y.pos : Int)] 61)
    have HKB := Lib.hid (HKr.out.trans KB)
    have HR1 : Hid (KRow (wr.alloc (.cells #[.int .i64 (y.seq : Int), .string (toStr y.key), .int .i64 (y.pos : Int)] 61)) w.heap.size (.slice oa on oc) O) := Lib.hid (by rw [HONN.out]; exact HR.out.keep KB (by simp))
    clear KB
    by_cases h1 : s < (y.seq : Int)
    · have q3 : decide ((y.seq : Int) > s) = true := decide_eq_true h1
      have q3' : decide (s < (y.seq : Int)) = true := decide_eq_true h1
      by_cases h2 : (on : Int) < n
      · have q4 : decide ((on : Int) < n) = true := decide_eq_true h2
        have HST2 : Hid (sinceK (M.take (j + 1)) s n = O ++ [y]) := Lib.hid (by rw [HST.out, if_pos ⟨h1, by omega⟩])
        clear h1
        have hWS : w.heap.size ≤ wr.heap.size := HKr.out.size
        go_upto_region 8 with fail
        have hbb := Blk.new wr [.int .i64 (y.seq : Int), .string (toStr y.key), .int .i64 (y.pos : Int)] 61
        simp only [List.toArray] at hbb
        obtain ⟨ob, hob⟩ : ∃ b, b = wr.heap.size := ⟨_, rfl⟩
        have hWQ : w.heap.size ≤ (wr.alloc (.cells #[.int .i64 (y.seq : Int), .string (toStr y.key), .int .i64 (y.pos : Int)] 61)).heap.size := HKB.out.size
        rw [← hob] at hbb ⊢
        clear hob
        generalize wr.alloc (.cells #[.int .i64 (y.seq : Int), .string (toStr y.key), .int .i64 (y.pos : Int)] 61) = wq at *
        have k0 : wq.cell? ⟨ob, 0, none⟩ = some (.int .i64 (y.seq : Int)) := hbb.cell 0
        have k1 : wq.cell? ⟨ob, 1, none⟩ = some (.string (toStr y.key)) := hbb.cell 1
        have hOW : wq.ownsRow w.heap.size 39 2 (.slice oa on oc) on (kmCs O) := by have := HR1.out; unfold KRow at this; rw [← HONN.out] at this; exact this
        have hol := HOL.out
        clear hbb c0 c1 c2 q3 q3' q4
        go_wp2_with (at_builtin; refine wpList_append_src _ rfl _ _ 34 34 rfl w.heap.size 39 iK _ 2 24 Try.underlying34 hiK hzK0 hzK1 hzK2 rfl (by decide) (.slice oa on oc) on (kmCs O) rfl (World.ownsRow.alloc hOW _) _ 1 _ rfl (srcKm wq y Try.underlying34 _ rfl _ _) (by unfold maxLen; omega) (by omega) (by simp; omega) ?_; intro v2 w5 g2 g3 g4 g5; obtain ⟨v2a, v2c, rfl⟩ := ownsRow_slice g2)
        have hk5 := Keep.grown g3
        have HR5 : Hid (KRow w5 w.heap.size (.slice v2a (on + 1) v2c) (O ++ [y])) := Lib.hid (KRow.app y (by rw [← HONN.out]; exact g2))
        have HK5 : Hid (Keep [] w w5) := Lib.hid ((HKB.out.trans ((Keep.refl [] wq).alloc _)).then hk5 (fun x hx hlt => by
          have := (HR.out.lt x (by rw [← HONN.out]; simpa using hx)).1
          omega))
        clear hk5 g2 g3 g4 g5 hOW k0 k1
        go_roundw
        case rel => exact ⟨j + 1, by go_num, by omega, by rw [HST2.out]; exact HR5.out, HK5.out⟩
        case measure => simp only [intOf]; omega
      · have q4 : decide ((on : Int) < n) = false := decide_eq_false h2
        have HST2 : Hid (sinceK (M.take (j + 1)) s n = O) := Lib.hid (by rw [HST.out, if_neg (fun h => h2 (by omega))])
        clear h1 h2
        go_wp2_with fail
        go_roundw
        case rel => exact ⟨j + 1, by go_num, by omega, by rw [HST2.out]; exact HR1.out, HKB.out⟩
        case measure => simp only [intOf]; omega
    · have q3 : decide ((y.seq : Int) > s) = false := decide_eq_false h1
      have q3' : decide (s < (y.seq : Int)) = false := decide_eq_false h1
      have HST2 : Hid (sinceK (M.take (j + 1)) s n = O) := Lib.hid (by rw [HST.out, if_neg (fun h => h1 h.1)])
      clear h1
      go_wp2_with fail
      go_roundw
      case rel => exact ⟨j + 1, by go_num, by omega, by rw [HST2.out]; exact HR1.out, HKB.out⟩
      case measure => simp only [intOf]; omega
  · obtain rfl : m = j := by omega
    have q0 : decide ((m : Int) < (m : Int)) = false := by simp
    go_wp2_with fail
    go_ret2
    refine ⟨_, rfl, ?_, HKr.out⟩
    have h8 := HR.out
    have h9 : M.take m = M := List.take_of_length_le (by rw [HM.out]; exact Nat.le_refl _)
    rw [h9] at h8
    rw [h9]
    exact h8
end
end Go.Proofs.Ytpibpapolcdeiaa
/- journal: DeleteFunc where nothing goes. -/
namespace Go.Proofs.Ytpibpapolcdeiaa
open Go.ChangeShapes Go.WideShapes Go.ChangeAt Go.RowKit
set_option linter.unusedVariables false
set_option linter.unusedSimpArgs false
set_option maxRecDepth 100000

def fn1 (k c : Nat) : Value := .func (.func k) #[] #[.pointer (some ⟨c, 0, none⟩)]
/-- The closure lets none of the marks go. -/
def Keeps (w : World) (c : Nat) (M : List Mk) : Prop :=
  ∀ a ∈ M, Calls Try.prog 23 #[.agg (mkC a).toArray, .pointer (some ⟨c, 0, none⟩)] w fun e w' => e = .returned (.bool false) ∧ Keep [] w w'
section
variable {w : World} {B c : Nat} {v : Value} {M : List Mk}
set_option maxHeartbeats 4000000 in
theorem index_keep (hv : MRow w B v M) (hP : ∀ W, Keep [] w W → Keeps W c M) (hN : M.length ≤ 100000) :
    Calls Try.prog 40 #[v, fn1 23 c] w fun e w' => e = .returned (.int .i64 (-1)) ∧ Keep [] w w' := by
  obtain ⟨a, cap, rfl⟩ := hv.slice
  have HV := Lib.hid hv
  have HP := Lib.hid hP
  have HN := Lib.hid hN
  obtain ⟨m, hm⟩ : ∃ m, m = M.length := ⟨_, rfl⟩
  rw [← hm]
  have HM := Lib.hid hm
  clear hv hP hN hm
  unfold fn1
  go_enter Try.func40, Try.ntmps40
  go_wp2_with fail
  go_loopw [8] (fun s8 wr => ∃ i : Nat, s8 = .int .i64 (i : Int) ∧ i ≤ m ∧ Keep [] w wr) (fun x _ => m + 1 - (intOf x).toNat)
  case atStart => exact ⟨0, rfl, Nat.zero_le _, Keep.refl _ _⟩
  case round =>
  obtain ⟨i, rfl, hi, hK⟩ := hrel
  have HK := Lib.hid hK
  clear hK
  by_cases hlt : i < m
  · have q0 : decide ((i : Int) < (m : Int)) = true := decide_eq_true (by omega)
    obtain ⟨y, hy⟩ : ∃ y, M[i]? = some y := ⟨_, List.getElem?_eq_getElem (by rw [← HM.out]; exact hlt)⟩
    obtain ⟨g, gc, hg, hc⟩ := (HV.out.keep HK.out (by simp)).at_ (by have := HM.out; omega)
    injection hg with hg1 hg2 hg3
    subst hg1
    obtain ⟨c0, c1, c2⟩ := hc i y hy
    have HS := Lib.hid (HP.out wr HK.out y (List.mem_of_getElem? hy))
    unfold mkC at HS
    have hm2 : m ≤ 100000 := by rw [HM.out]; exact HN.out
    clear hc hg2 hg3 hy
    go_wp2_with fail
    refine HS.out.mono ?_
    rintro e w2 ⟨rfl, k2⟩
    have HK2 := Lib.hid (HK.out.trans k2)
    clear k2 c0 c1 c2
    go_wp2_with fail
    go_roundw
    case rel => exact ⟨i + 1, by go_num, by omega, HK2.out⟩
    case measure => simp only [intOf]; omega
  · obtain rfl : m = i := by omega
    have q0 : decide ((m : Int) < (m : Int)) = false := by simp
    go_wp2_with fail
    go_ret
    exact ⟨rfl, HK.out⟩
set_option maxHeartbeats 4000000 in
theorem delete_keep (hv : MRow w B v M) (hP : ∀ W, Keep [] w W → Keeps W c M) (hN : M.length ≤ 100000) :
    Calls Try.prog 22 #[v, fn1 23 c] w fun e w' => e = .returned v ∧ Keep [] w w' := by
  have HI := Lib.hid (index_keep hv hP hN)
  obtain ⟨a, cap, rfl⟩ := hv.slice
  clear hv hP hN
  go_enter Try.func22, Try.ntmps22
  go_wp2_with fail
  refine HI.out.mono ?_
  rintro e w1 ⟨rfl, k1⟩
  have HK1 := Lib.hid k1
  clear k1
  go_wp2_with fail
  go_ret
  exact ⟨rfl, HK1.out⟩
end
end Go.Proofs.Ytpibpapolcdeiaa
/- journal: the closure of Add keeps what lies not ahead of the log's first. -/
namespace Go.Proofs.Ytpibpapolcdeiaa
open Go.ChangeShapes Go.WideShapes Go.ChangeAt Go.RowKit
set_option linter.unusedVariables false
set_option linter.unusedSimpArgs false
set_option maxRecDepth 100000

set_option maxHeartbeats 4000000 in
theorem closure_keep {w : World} {B lb d frm segs nx run jb c : Nat} {fr : Bool} {vl : Value} {l : List Sg} (h : LogAt w B lb d frm segs nx run fr vl l) (hl : l.length ≤ 1000) (hc : w.cell? ⟨c, 0, none⟩ = some (.pointer (some ⟨jb, 0, none⟩))) (hj : w.cell? ⟨jb, 0, none⟩ = some (.pointer (some ⟨lb, 0, none⟩))) (a : Mk) (hp : firstPos l nx ≤ a.pos) :
    Calls Try.prog 23 #[.agg (mkC a).toArray, .pointer (some ⟨c, 0, none⟩)] w fun e w' => e = .returned (.bool false) ∧ Keep [] w w' := by
  have HF : Hid (∀ W, Keep [] w W → Calls Try.prog 24 #[.pointer (some ⟨lb, 0, none⟩)] W fun e w' => e = .returned (.int .i64 (firstPos l nx : Int)) ∧ w' = W) := Lib.hid (fun W k => First_any (h.still k) hl)
  have q1 : decide ((a.pos : Int) < (firstPos l nx : Int)) = false := decide_eq_false (by omega)
  have q1' : decide (a.pos < firstPos l nx) = false := decide_eq_false (by omega)
  generalize firstPos l nx = fp at *
  have hb := Blk.new w [.int .i64 (a.seq : Int), .string (toStr a.key), .int .i64 (a.pos : Int)] 61
  have K := (Keep.refl [] w).alloc (.cells #[.int .i64 (a.seq : Int), .string (toStr a.key), .int .i64 (a.pos : Int)] 61)
  have hlt1 : c < w.heap.size := by obtain ⟨_, _, e, hs, _⟩ := addr_cell (w := w) (a := ⟨c, 0, none⟩) (by rw [hc]; rfl); cases e; exact hs
  have hlt2 : jb < w.heap.size := by obtain ⟨_, _, e, hs, _⟩ := addr_cell (w := w) (a := ⟨jb, 0, none⟩) (by rw [hj]; rfl); cases e; exact hs
  have p0 := (K.cell (p := ⟨c, 0, none⟩) hlt1 (by simp)).trans hc
  have p1 := (K.cell (p := ⟨jb, 0, none⟩) hlt2 (by simp)).trans hj
  simp only [List.toArray] at hb
  have k2 := hb.cell 2
  simp only [List.getElem?_cons_succ, List.getElem?_cons_zero] at k2
  have HK := Lib.hid K
  unfold mkC
  simp only [List.toArray]
  clear h hl hc hj hp hlt1 hlt2 hb K
  go_enter Try.func23, Try.ntmps23
  go_upto_region 1 with fail
  obtain ⟨ob, hob⟩ : ∃ b, b = w.heap.size := ⟨_, rfl⟩
  rw [← hob] at k2 ⊢
  clear hob
  generalize w.alloc (.cells #[.int .i64 (a.seq : Int), .string (toStr a.key), .int .i64 (a.pos : Int)] 61) = wq at *
  go_quiet ((go_at_call 24; exact Calls.quiet_of_same (HF.out _ (HK.out.trans (drewnK (Keep.refl [] _) _)))))
  have HKQ := Lib.hid (HK.out.trans (drewnK (Keep.refl [] wq) nq))
  generalize wq.drewN nq = wz at *
  go_wp2_with fail
  go_ret
  exact ⟨rfl, HKQ.out⟩
end Go.Proofs.Ytpibpapolcdeiaa
/- journal: no journal; segments that are too few. -/
namespace Go.Proofs.Ytpibpapolcdeiaa
open Go.ChangeShapes Go.WideShapes Go.ChangeAt Go.RowKit
set_option linter.unusedVariables false
set_option linter.unusedSimpArgs false
set_option maxRecDepth 100000

theorem JSeq_nil {w : World} : Calls Try.prog 13 #[.pointer none] w fun e w' => e = .returned (.int .i64 0) ∧ w' = w := by
  go_enter Try.func13, Try.ntmps13
  go_wp2_with fail
  go_ret
  exact ⟨rfl, rfl⟩
theorem JBase_nil {w : World} : Calls Try.prog 14 #[.pointer none] w fun e w' => e = .returned (.int .i64 0) ∧ w' = w := by
  go_enter Try.func14, Try.ntmps14
  go_wp2_with fail
  go_ret
  exact ⟨rfl, rfl⟩
theorem JSince_nil {w : World} (s n : Int) : Calls Try.prog 12 #[.pointer none, .int .i64 s, .int .i64 n] w fun e w' => e = .returned (.tuple #[.slice none 0 0, .bool false]) ∧ w' = w := by
  go_enter Try.func12, Try.ntmps12
  go_wp2_with fail
  go_ret2
  exact ⟨rfl, rfl⟩
theorem JAdd_nil {w : World} (v : Value) : Calls Try.prog 10 #[.pointer none, v] w fun e w' => e = .returned (.tuple #[.int .i64 0, .int .i64 8]) ∧ Keep [] w w' := by
  have K := Lib.hid ((Keep.refl [] w).alloc (.cells #[.pointer none] 25))
  go_enter Try.func10, Try.ntmps10
  go_wp2_with fail
  go_ret2
  exact ⟨rfl, K.out⟩
theorem JOpen_few {w : World} (d : Nat) (frm segs : Int) (h : segs < 20) : Calls Try.prog 9 #[.pointer (some ⟨d, 0, none⟩), .int .i64 frm, .int .i64 segs] w fun e w' => e = .returned (.tuple #[.pointer none, .int .i64 4]) ∧ w' = w := by
  have q1 : decide (segs < 20) = true := decide_eq_true h
  go_enter Try.func9, Try.ntmps9
  go_wp2_with fail
  go_ret2
  exact ⟨rfl, rfl⟩
end Go.Proofs.Ytpibpapolcdeiaa
/- journal: few records lie in few segments. -/
namespace Go.Proofs.Ytpibpapolcdeiaa
open Go.ChangeShapes Go.WideShapes Go.ChangeAt Go.RowKit
set_option linter.unusedVariables false
set_option linter.unusedSimpArgs false
set_option maxRecDepth 100000

def encN (l : List Rcd) : Nat := (encRs l).length
theorem encN_app (l m : List Rcd) : encN (l ++ m) = encN l + encN m := by unfold encN encRs; simp
theorem encN_cons (r : Rcd) (l : List Rcd) : encN (r :: l) = r.2.length + 8 + encN l := by
  have e : encRs (r :: l) = encR r ++ encRs l := by simp [encRs]
  unfold encN
  rw [e, List.length_append, encR_len]
  omega
theorem enc_pairs : ∀ (n : Nat) (S : List PS), S.length ≤ n → Tight S → (∀ s ∈ S, s.rs ≠ []) → 371 * (S.length / 2) ≤ encN (S.flatMap PS.rs)
  | 0, S, hn, _, _ => by
    have : S.length = 0 := by omega
    rw [this]; omega
  | n + 1, S, hn, ht, hne => by
    match S, hn, ht, hne with
    | [], _, _, _ => simp
    | [a], _, _, _ => simp
    | a :: b :: T, hn, ht, hne =>
      have ih := enc_pairs n T (by simp at hn; omega) (fun i x y r hx hy hr => ht (i + 2) x y r (by simpa using hx) (by simpa using hy) hr) (fun s hs => hne s (by simp [hs]))
      have hb := hne b (by simp)
      cases hbr : b.rs with
      | nil => exact absurd hbr hb
      | cons r R =>
        have h1 := ht 0 a b r rfl rfl (by rw [hbr]; rfl)
        have e1 : encN ((a :: b :: T).flatMap PS.rs) = encN a.rs + (encN b.rs + encN (T.flatMap PS.rs)) := by
          rw [List.flatMap_cons, List.flatMap_cons, encN_app, encN_app]
        have e3 : encN b.rs = r.2.length + 8 + encN R := by rw [hbr, encN_cons]
        have e4 : encN a.rs = (encRs a.rs).length := rfl
        rw [e1, e3]
        simp only [List.length_cons]
        omega
theorem SOk.pairs {segs nx q : Nat} {S : List PS} (h : SOk segs S nx q) : 371 * (S.length / 2) ≤ encN (S.flatMap PS.rs) :=
  enc_pairs S.length S (Nat.le_refl _) h.tight (fun s hs => (h.ok s hs).2.2)
theorem encN_drop (l : List Rcd) (k : Nat) : encN (l.drop k) ≤ encN l := by
  conv => rhs; rw [← List.take_append_drop k l, encN_app]
  omega
/-- A log of twenty segments that holds so little has lost nothing, and few segments are there. -/
theorem Tail.whole {nx q : Nat} {S : List PS} {all : List Rcd} (h : Tail 20 S all) (hS : SOk 20 S nx q) (he : encN all ≤ 2225) : S.flatMap PS.rs = all ∧ S.length ≤ 12 := by
  obtain ⟨k, hk, hkl, hfull⟩ := h.tail
  have h1 := hS.pairs
  rw [hk] at h1
  have h2 := encN_drop all k
  have h3 : S.length ≤ 12 := by omega
  refine ⟨?_, h3⟩
  have h4 : k = 0 := by
    apply Nat.le_zero.1
    apply Nat.le_of_not_lt
    intro h5
    have := hfull h5
    omega
  rw [hk, h4, List.drop_zero]
end Go.Proofs.Ytpibpapolcdeiaa
/- journal: a new one. -/
namespace Go.Proofs.Ytpibpapolcdeiaa
open Go.ChangeShapes Go.WideShapes Go.ChangeAt Go.RowKit
set_option linter.unusedVariables false
set_option linter.unusedSimpArgs false
set_option maxRecDepth 100000

set_option maxHeartbeats 4000000 in
theorem jopen_new {w : World} {d sb c n : Nat} (hd : IsDev w d sb (List.replicate n zeroSec) c) (frm : Nat) (hlt : frm + 160 ≤ n) :
    Calls Try.prog 9 #[.pointer (some ⟨d, 0, none⟩), .int .i64 (frm : Int), .int .i64 20] w fun e w' => ∃ jb lb v vl l run', e = .returned (.tuple #[.pointer (some ⟨jb, 0, none⟩), .int .i64 0]) ∧ JAt w' w.heap.size jb lb v [] ∧ LogOk w' w.heap.size lb d frm 20 1 run' true vl l (List.replicate n zeroSec) 0 ∧ l.map Sg.ps = [] ∧ run' ≤ 1 ∧ Keep [] w w' ∧ w.heap.size ≤ jb := by
  have HO := Lib.hid (open_new hd frm 20 ⟨by decide, by decide⟩ (by omega))
  clear hd
  go_enter Try.func9, Try.ntmps9
  go_wp2_with fail
  refine HO.out.mono ?_
  rintro e w1 ⟨lb, vl, l, run, rfl, hL, hS, hr, hK⟩
  have hl : l = [] := List.map_eq_nil_iff.1 hS
  subst hl
  have HL := Lib.hid hL
  have HR := Lib.hid hr
  have HK := Lib.hid hK
  clear hL hS hr hK
  go_upto_region 9 with fail
  have hb := Blk.new w1 (jnC lb (.slice none 0 0)) 53
  have K := (Keep.refl [] w1).alloc (.cells (jnC lb (.slice none 0 0)).toArray 53)
  unfold jnC at hb K
  simp only [List.toArray] at hb K
  obtain ⟨jb, hjb⟩ : ∃ b, b = w1.heap.size := ⟨_, rfl⟩
  rw [← hjb] at hb ⊢
  have HJB := Lib.hid hjb
  clear hjb
  generalize w1.alloc (.cells #[.pointer (some ⟨lb, 0, none⟩), .slice none 0 0] 53) = w2 at *
  have HB := Lib.hid hb
  have HK2 := Lib.hid K
  have HALL := Lib.hid (All_any (HL.out.still K).at_ ⟨by simp, by simp⟩ (by simp))
  clear hb K
  go_wp2_with fail
  refine HALL.out.mono ?_
  rintro e w3 ⟨va, La, rfl, hRa, hLa, hKa⟩
  have hla : La = [] := by
    have : La.map (·.r) = [] := by simpa using hLa
    exact List.map_eq_nil_iff.1 this
  subst hla
  obtain ⟨aa, ac, rfl⟩ := hRa.slice
  rw [show ([] : List Rc).length = 0 from rfl]
  have HKA := Lib.hid hKa
  clear hRa hLa hKa
  go_wp2_with fail
  go_loopw [38] (fun s38 wr => s38 = .int .i64 0 ∧ wr = w3) (fun _ _ => 0)
  case atStart => exact ⟨rfl, rfl⟩
  case round =>
  obtain ⟨rfl, hwr⟩ := hrel
  have HWR := Lib.hid hwr
  clear hwr
  go_wp2_with fail
  go_ret2
  refine ⟨jb, lb, _, vl, [], run, rfl, ⟨?_, World.ownsRow_nil _ _ _ _⟩, ?_, rfl, HR.out, ?_, ?_⟩
  · rw [HWR.out]; exact HB.out.keep HKA.out (by simp)
  · rw [HWR.out]; exact (HL.out.still HK2.out).still HKA.out
  · rw [HWR.out]; exact (HK.out.trans HK2.out).trans HKA.out
  · rw [HJB.out]; exact HK.out.size
end Go.Proofs.Ytpibpapolcdeiaa
/- journal: what it holds: plain laws. -/
namespace Go.Proofs.Ytpibpapolcdeiaa
open Go.ChangeShapes Go.WideShapes Go.ChangeAt Go.RowKit
set_option linter.unusedVariables false
set_option linter.unusedSimpArgs false
set_option maxRecDepth 100000

/-- A mark's record: its number, then its key. -/
def recOf (a : Mk) : Rcd := (a.pos, leb (zz (a.seq : Int)) ++ a.key)
/-- The journal's own blocks. -/
def jF (jb lb : Nat) (v vl : Value) (l : List Sg) : List Nat := jb :: (v.ownBlock.toList ++ lgF lb vl l)
/-- A journal whose log never came round; t is a bound of all its counts. -/
structure JOk (w : World) (B jb lb d frm t : Nat) (vl v : Value) (l : List Sg) (L : List Sec) (M : List Mk) : Prop where
  at_ : JAt w B jb lb v M
  new : B ≤ jb
  log : ∃ nx run fr q, LogOk w B lb d frm 20 nx run fr vl l L q ∧ 1 ≤ nx ∧ nx ≤ t ∧ run ≤ t ∧ q ≤ t
  tail : Tail 20 (l.map Sg.ps) (M.map recOf)
  few : encN (M.map recOf) ≤ 2225
  seq : ∀ i a, M[i]? = some a → a.seq = i + 1
theorem encN_len : ∀ l : List Rcd, 8 * l.length ≤ encN l
  | [] => Nat.zero_le _
  | r :: l => by
    have := encN_len l
    rw [encN_cons, List.length_cons]
    omega
section
variable {w w' : World} {B jb lb d sb c frm t : Nat} {vl v : Value} {l : List Sg} {L : List Sec} {M : List Mk}
theorem JOk.keep {S : List Nat} (h : JOk w B jb lb d frm t vl v l L M) (k : Keep S w w') (hS : ∀ x ∈ jF jb lb v vl l, x ∉ S) : JOk w' B jb lb d frm t vl v l L M := by
  obtain ⟨nx, run, fr, q, hL, h1, h2, h3, h4⟩ := h.log
  refine ⟨h.at_.keep k (hS jb (by simp [jF])) (fun b hb => hS b (by simp [jF, hb])), h.new, ⟨nx, run, fr, q, hL.keep k (fun x hx => hS x (by simp [jF, hx])), h1, h2, h3, h4⟩, h.tail, h.few, h.seq⟩
theorem JOk.still (h : JOk w B jb lb d frm t vl v l L M) (k : Keep [] w w') : JOk w' B jb lb d frm t vl v l L M := h.keep k (by simp)
theorem JOk.later {t' : Nat} (h : JOk w B jb lb d frm t vl v l L M) (ht : t ≤ t') : JOk w B jb lb d frm t' vl v l L M := by
  obtain ⟨nx, run, fr, q, hL, h1, h2, h3, h4⟩ := h.log
  exact ⟨h.at_, h.new, ⟨nx, run, fr, q, hL, h1, by omega, by omega, by omega⟩, h.tail, h.few, h.seq⟩
theorem JOk.len (h : JOk w B jb lb d frm t vl v l L M) : M.length ≤ 278 := by
  have h1 := encN_len (M.map recOf)
  have h2 := h.few
  rw [List.length_map] at h1
  omega
theorem JOk.flat (h : JOk w B jb lb d frm t vl v l L M) : l.flatMap Sg.rs = M.map recOf ∧ l.length ≤ 12 := by
  obtain ⟨nx, run, fr, q, hL, _⟩ := h.log
  have h1 := h.tail.whole hL.say h.few
  rw [List.length_map] at h1
  exact ⟨by rw [flatR]; exact h1.1, h1.2⟩
theorem JOk.seqs (h : JOk w B jb lb d frm t vl v l L M) : ∀ a ∈ M, 1 ≤ a.seq ∧ a.seq < 281474976710656 := by
  intro a ha
  obtain ⟨i, hi⟩ := List.getElem?_of_mem ha
  have := h.seq i a hi
  have h2 := (List.getElem?_eq_some_iff.1 hi).1
  have := h.len
  omega
theorem JOk.last (h : JOk w B jb lb d frm t vl v l L M) : lastSeq M = M.length := by
  unfold lastSeq
  rcases List.eq_nil_or_concat M with rfl | ⟨M0, y, rfl⟩
  · rfl
  · rw [List.concat_eq_append, List.getLast?_concat, List.length_append]
    exact h.seq M0.length y (by simp)
theorem JOk.base (h : JOk w B jb lb d frm t vl v l L M) : baseSeq M = 0 := by
  unfold baseSeq
  cases M with
  | nil => rfl
  | cons a M =>
    have := h.seq 0 a rfl
    show a.seq - 1 = 0
    omega
/-- The log's first record is not behind any mark. -/
theorem JOk.first (h : JOk w B jb lb d frm t vl v l L M) {nx run q : Nat} {fr : Bool} (hL : LogOk w B lb d frm 20 nx run fr vl l L q) : ∀ a ∈ M, firstPos l nx ≤ a.pos := by
  intro a ha
  have hf := h.flat.1
  have hp := hL.say.pos
  rw [← flatR, hf] at hp
  unfold firstPos
  rw [hf]
  cases M with
  | nil => simp at ha
  | cons b M =>
    rw [List.map_cons]
    show (recOf b).1 ≤ a.pos
    rw [List.map_cons, List.pairwise_cons] at hp
    rcases List.mem_cons.1 ha with rfl | ha
    · exact Nat.le_refl _
    · exact Nat.le_of_lt (hp.1 (recOf a) (List.mem_map.2 ⟨a, ha, rfl⟩))
theorem JOk.nd (h : JOk w B jb lb d frm t vl v l L M) (hD : IsDev w d sb L c) : jb ∉ d :: sb :: lgF lb vl l ∧ (∀ q, v.ownBlock = some q → q ∉ d :: sb :: lgF lb vl l ∧ q ≠ jb) := by
  obtain ⟨nx, run, fr, q, hL, _⟩ := h.log
  have hJ := h.at_.blk.ty
  have hV := h.at_.row.ty
  refine ⟨fun hm => ?_, fun q hq => ⟨fun hm => ?_, fun e => ?_⟩⟩
  · simp only [List.mem_cons] at hm
    rcases hm with e | e | e
    · exact hJ.ne hD.dev.ty (by decide) e
    · exact hJ.ne hD.secs.ty (by decide) e
    · exact hL.at_.apartT hJ (by decide) e
  · simp only [List.mem_cons] at hm
    rcases hm with e | e | e
    · exact (hV q hq).ne hD.dev.ty (by decide) e
    · exact (hV q hq).ne hD.secs.ty (by decide) e
    · exact hL.at_.apartT (hV q hq) (by decide) e
  · exact (hV q hq).ne hJ (by decide) e
theorem JOk.lt (h : JOk w B jb lb d frm t vl v l L M) : ∀ x ∈ jF jb lb v vl l, B ≤ x ∧ x < w.heap.size := by
  intro x hx
  obtain ⟨nx, run, fr, q, hL, _⟩ := h.log
  unfold jF at hx
  rcases List.mem_cons.1 hx with rfl | hx
  · exact ⟨h.new, h.at_.blk.lt⟩
  · rcases List.mem_append.1 hx with hx | hx
    · exact h.at_.row.lt x (Option.mem_toList.1 hx)
    · exact hL.at_.lt x hx
theorem JOk.tys (h : JOk w B jb lb d frm t vl v l L M) : ∀ x ∈ jF jb lb v vl l, Ty w x 53 ∨ Ty w x 61 ∨ Ty w x 75 ∨ Ty w x 76 ∨ Ty w x 80 ∨ Ty w x 57 ∨ Ty w x 5 := by
  intro x hx
  obtain ⟨nx, run, fr, q, hL, _⟩ := h.log
  unfold jF at hx
  rcases List.mem_cons.1 hx with rfl | hx
  · exact .inl h.at_.blk.ty
  · rcases List.mem_append.1 hx with hx | hx
    · exact .inr (.inl (h.at_.row.ty x (Option.mem_toList.1 hx)))
    · exact .inr (.inr (hL.at_.ty x hx))
/-- A block of another type is none of the journal's. -/
theorem JOk.notT {T : TypeId} {b : Nat} (h : JOk w B jb lb d frm t vl v l L M) (hb : Ty w b T) (hn : T ∉ [53, 61, 75, 76, 80, 57, 5]) : b ∉ jF jb lb v vl l := by
  intro hm
  simp only [List.mem_cons, List.not_mem_nil, or_false, not_or] at hn
  obtain ⟨n1, n2, n3, n4, n5, n6, n7⟩ := hn
  rcases h.tys b hm with t | t | t | t | t | t | t
  · exact hb.ne t n1 rfl
  · exact hb.ne t n2 rfl
  · exact hb.ne t n3 rfl
  · exact hb.ne t n4 rfl
  · exact hb.ne t n5 rfl
  · exact hb.ne t n6 rfl
  · exact hb.ne t n7 rfl
end
/-- What a key costs in the log. -/
def keyCost (k : ByteArray) : Nat := k.size + 10
def keysCost (ks : List ByteArray) : Nat := (ks.map keyCost).sum
theorem keysCost_drop (ks : List ByteArray) (j : Nat) (k : ByteArray) (hk : ks[j]? = some k) : keysCost (ks.drop j) = keyCost k + keysCost (ks.drop (j + 1)) := by
  unfold keysCost
  have hj := (List.getElem?_eq_some_iff.1 hk).1
  rw [List.drop_eq_getElem_cons hj]
  have : ks[j] = k := (List.getElem?_eq_some_iff.1 hk).2
  rw [this, List.map_cons, List.sum_cons]
theorem recOf_len (a : Mk) (h : a.seq ≤ 1000000000) : (recOf a).2.length ≤ a.key.length + 10 := by
  have := leb_len 10 (zz (a.seq : Int)) (by have := zz_lt (a.seq : Int) (by omega) (by omega); omega) (by omega)
  unfold recOf
  rw [List.length_append]
  omega
theorem recOf_pos (a : Mk) : 1 ≤ (recOf a).2.length := by
  unfold recOf
  rw [List.length_append]
  have : 1 ≤ (leb (zz (a.seq : Int))).length := by
    unfold leb
    split <;> simp
  omega
def kb (k : ByteArray) : List Nat := sb k
theorem kb_length (k : ByteArray) : (kb k).length = k.size := sb_length k
theorem jsb_byte (k : ByteArray) : ∀ c ∈ kb k, c < 256 := by
  intro c hc
  unfold kb sb at hc
  obtain ⟨u, _, rfl⟩ := List.mem_map.1 hc
  exact u.toNat_lt
theorem putAll_one (n : Int) : putAll [n] = leb (zz n) := by simp [putAll]
end Go.Proofs.Ytpibpapolcdeiaa
