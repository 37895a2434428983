/- journal: bad keys; the bundle with its blocks. -/
import Derived.Test.YtpibpapolcdeiaaG10
import Derived.Test.YtpibpapolcdeiaaHTexts
namespace Go.Proofs.Ytpibpapolcdeiaa
open Go.ChangeShapes Go.WideShapes Go.ChangeAt Go.RowKit
set_option linter.unusedVariables false
set_option linter.unusedSimpArgs false
set_option maxRecDepth 100000

structure JSF (w : World) (d sb jb frm t : Nat) (L : List Sec) (M : List Mk) (F : List Nat) : Prop where
  ex : ∃ B lb vl v l c, JOk w B jb lb d frm t vl v l L M ∧ IsDev w d sb L c ∧ c ≤ t ∧ F = d :: sb :: jF jb lb v vl l
  room : frm + 160 ≤ L.length
section
variable {w w' : World} {d sb jb frm t : Nat} {L : List Sec} {M : List Mk} {F : List Nat}
theorem JSF.lt (h : JSF w d sb jb frm t L M F) : ∀ x ∈ F, x < w.heap.size := by
  obtain ⟨B, lb, vl, v, l, c, h1, h2, h3, rfl⟩ := h.ex
  intro x hx
  rcases List.mem_cons.1 hx with e | hx
  · subst e; exact h2.dev.lt
  · rcases List.mem_cons.1 hx with e | hx
    · subst e; exact h2.secs.lt
    · exact (h1.lt x hx).2
theorem JSF.keep {S : List Nat} (h : JSF w d sb jb frm t L M F) (k : Keep S w w') (hS : ∀ x ∈ F, x ∉ S) : JSF w' d sb jb frm t L M F := by
  obtain ⟨B, lb, vl, v, l, c, h1, h2, h3, rfl⟩ := h.ex
  exact ⟨⟨B, lb, vl, v, l, c, h1.keep k (fun x hx => hS x (by simp [hx])), h2.keep k (hS d (by simp)) (hS sb (by simp)), h3, rfl⟩, h.room⟩
theorem JSF.still (h : JSF w d sb jb frm t L M F) (k : Keep [] w w') : JSF w' d sb jb frm t L M F := h.keep k (by simp)
theorem JSF.seq_at (h : JSF w d sb jb frm t L M F) : ∀ i a, M[i]? = some a → a.seq = i + 1 := by
  obtain ⟨B, lb, vl, v, l, c, h1, h2, h3, h4⟩ := h.ex
  exact h1.seq
theorem JSF.seq (h : JSF w d sb jb frm t L M F) :
    Calls Try.prog 13 #[.pointer (some ⟨jb, 0, none⟩)] w fun e w' => e = .returned (.int .i64 (M.length : Int)) ∧ Keep [] w w' := by
  obtain ⟨B, lb, vl, v, l, c, h1, h2, h3, h4⟩ := h.ex
  have := Seq_any h1.at_ (by have := h1.len; omega)
  rw [h1.last] at this
  exact this
theorem JSF.since (h : JSF w d sb jb frm t L M F) (s n : Int) (hs : 0 ≤ s ∧ s ≤ M.length) :
    Calls Try.prog 12 #[.pointer (some ⟨jb, 0, none⟩), .int .i64 s, .int .i64 n] w fun e w' => ∃ v', e = .returned (.tuple #[v', .bool true]) ∧ KRow w' w.heap.size v' (sinceK M s n) ∧ Keep [] w w' := by
  obtain ⟨B, lb, vl, v, l, c, h1, h2, h3, h4⟩ := h.ex
  exact Since_ok h1.at_ (by have := h1.len; omega) h1.seqs s n (by rw [h1.base, h1.last]; exact ⟨by simpa using hs.1, hs.2⟩)
theorem JSF.add (h : JSF w d sb jb frm t L M F) (ht : t ≤ 1000000000) (kv : Value) (ks : List ByteArray) (hk : Rv w 1 kv ks.length (strs ks)) (hks : ∀ k ∈ ks, 1 ≤ k.size ∧ k.size ≤ 40)
    (hsep : ∀ q, kv.ownBlock = some q → Ty w q 9) (hbud : encN (M.map recOf) + keysCost ks ≤ 2225) :
    Calls Try.prog 10 #[.pointer (some ⟨jb, 0, none⟩), kv] w fun e w' => ∃ L' N F', e = .returned (.tuple #[.int .i64 ((M.length + ks.length : Nat) : Int), .int .i64 0]) ∧ JSF w' d sb jb frm (t + 12 * ks.length + 1) L' (M ++ N) F' ∧ Keep F w w' ∧ (∀ x ∈ F', x ∈ F ∨ w.heap.size ≤ x) ∧ L'.length = L.length ∧ N.map Mk.key = ks.map kb ∧ encN ((M ++ N).map recOf) ≤ encN (M.map recOf) + keysCost ks := by
  obtain ⟨B, lb, vl, v, l, c, h1, h2, h3, rfl⟩ := h.ex
  refine (Add_ok h1 h2 h3 ht h.room ks hk hks (fun _ q hq hm => ?_) hbud).mono ?_
  · have hT := hsep q hq
    rcases List.mem_cons.1 hm with e | hm
    · subst e; exact hT.ne h2.dev.ty (by decide) rfl
    · rcases List.mem_cons.1 hm with e | hm
      · subst e; exact hT.ne h2.secs.ty (by decide) rfl
      · exact h1.notT hT (by decide) hm
  · rintro e w' ⟨vl', v', l', L', c', N, rfl, hA, hfl⟩
    refine ⟨L', N, _, rfl, ⟨⟨B, lb, vl', v', l', c', hA.ok, hA.dev, hA.cnt, rfl⟩, by rw [hA.len]; exact h.room⟩, hA.keep, fun x hx => ?_, hA.len, hA.keys, hA.cost⟩
    rcases List.mem_cons.1 hx with e | hx
    · exact .inl (by simp [e])
    · rcases List.mem_cons.1 hx with e | hx
      · exact .inl (by simp [e])
      · exact hA.own x hx
theorem JSF.open_dev {c : Nat} (hd : IsDev w d sb L c) (hc : c ≤ t) (h : JDev L frm t M) (ht : t ≤ 1000000000) (hlt : frm + 160 ≤ L.length) :
    Calls Try.prog 9 #[.pointer (some ⟨d, 0, none⟩), .int .i64 (frm : Int), .int .i64 20] w fun e w' => ∃ jb F, e = .returned (.tuple #[.pointer (some ⟨jb, 0, none⟩), .int .i64 0]) ∧ JSF w' d sb jb frm (t + 70) L M F ∧ Keep [] w w' ∧ (∀ x ∈ F, x = d ∨ x = sb ∨ w.heap.size ≤ x) := by
  refine (JOpen_ok hd h ht hlt).mono ?_
  rintro e w' ⟨jb, lb, vl, v, l, rfl, hJ, hK⟩
  refine ⟨jb, _, rfl, ⟨⟨w.heap.size, lb, vl, v, l, c, hJ, hd.keep hK (by simp) (by simp), by omega, rfl⟩, hlt⟩, hK, fun x hx => ?_⟩
  rcases List.mem_cons.1 hx with e | hx
  · exact .inl e
  · rcases List.mem_cons.1 hx with e | hx
    · exact .inr (.inl e)
    · exact .inr (.inr (hJ.lt x hx).1)
end
def goodKey (k : ByteArray) : Prop := 1 ≤ k.size ∧ k.size ≤ 40
set_option maxHeartbeats 4000000 in
theorem Add_bad {w : World} {kv : Value} (jb : Nat) (ks : List ByteArray) (hk : Rv w 1 kv ks.length (strs ks)) (hbad : ∃ k ∈ ks, ¬ goodKey k) (hs : ∀ k ∈ ks, k.size ≤ 1000) (hl : ks.length ≤ 1000) :
    Calls Try.prog 10 #[.pointer (some ⟨jb, 0, none⟩), kv] w fun e w' => e = .returned (.tuple #[.int .i64 0, .int .i64 1]) ∧ Keep [] w w' := by
  obtain ⟨_, ka, kc, rfl, hkc, hkat⟩ := hk
  have hk : Rv w 1 (.slice ka ks.length kc) ks.length (strs ks) := ⟨‹_›, ka, kc, rfl, hkc, hkat⟩
  have HK := Lib.hid hk
  have HBAD := Lib.hid hbad
  have HSZ := Lib.hid hs
  obtain ⟨n, hn⟩ : ∃ n, n = ks.length := ⟨_, rfl⟩
  rw [← hn]
  rw [← hn] at hl
  have HN := Lib.hid hn
  clear hk hkat hkc hn hbad hs
  go_enter Try.func10, Try.ntmps10
  go_upto_region 1 with fail
  have KB := (Keep.refl [] w).alloc (.cells #[.pointer (some ⟨jb, 0, none⟩)] 25)
  have hcb := (Blk.new w [.pointer (some ⟨jb, 0, none⟩)] 25)
  simp only [List.toArray] at hcb
  obtain ⟨cb, hcbe⟩ : ∃ b, b = w.heap.size := ⟨_, rfl⟩
  rw [← hcbe] at hcb ⊢
  generalize w.alloc (.cells #[.pointer (some ⟨jb, 0, none⟩)] 25) = w1 at *
  have HKB := Lib.hid KB
  have kcb : w1.cell? ⟨cb, 0, none⟩ = some (.pointer (some ⟨jb, 0, none⟩)) := hcb.cell 0
  clear hcbe KB hcb
  go_wp2_with fail
  clear kcb
  go_loopw [18] (fun s18 wr => ∃ i : Nat, s18 = .int .i64 (i : Int) ∧ i ≤ n ∧ w1 = wr ∧ ∀ j, j < i → goodKey (ks.getD j ByteArray.empty)) (fun x _ => n + 1 - (intOf x).toNat)
  case atStart => exact ⟨0, rfl, Nat.zero_le _, rfl, fun j hj => absurd hj (by omega)⟩
  case round =>
  obtain ⟨i, rfl, hi, rfl, hgood⟩ := hrel
  have HG := Lib.hid hgood
  clear hgood
  have hlt : i < n := by
    apply Classical.byContradiction
    intro h
    obtain ⟨k, hk, hnk⟩ := HBAD.out
    obtain ⟨j, hj⟩ := List.getElem?_of_mem hk
    have hjl := (List.getElem?_eq_some_iff.1 hj).1
    have := HG.out j (by have := HN.out; omega)
    rw [List.getD_eq_getElem?_getD, hj] at this
    exact hnk this
  have q0 : decide ((i : Int) < (n : Int)) = true := decide_eq_true (by omega)
  obtain ⟨g, go, gcap, hg, _, hgl, hgc⟩ := HK.out.at1 (by rw [← HN.out]; omega)
  injection hg with hg1 hg2 hg3
  subst hg1
  have g4 : w1.cell? ⟨g, go + i, none⟩ = some (.string (ks.getD i ByteArray.empty)) := by
    rw [HKB.out.cell (p := ⟨g, go + i, none⟩) hgl (by simp), hgc i (by rw [← HN.out]; exact hlt), strs_at ks i (by rw [← HN.out]; exact hlt)]
  have hsz := HSZ.out (ks.getD i ByteArray.empty) (by rw [List.getD_eq_getElem?_getD, List.getElem?_eq_getElem (by rw [← HN.out]; exact hlt)]; exact List.getElem_mem _)
  obtain ⟨k, hk⟩ : ∃ k, k = ks.getD i ByteArray.empty := ⟨_, rfl⟩
  rw [← hk] at g4 hsz
  have HKE := Lib.hid hk
  clear hk hgc hg2 hg3
  by_cases h0 : k.size = 0
  · obtain rfl := (str_none k).2 h0
    go_wp2_with fail
    go_ret2
    exact ⟨rfl, HKB.out⟩
  · have e1 : k.toList.isEmpty = false := by
      cases h : k.toList with
      | nil => exact absurd (str_nil.1 h) h0
      | cons _ _ => rfl
    by_cases h4 : k.size ≤ 40
    · have q2 : decide (k.size > 40) = false := decide_eq_false (by omega)
      have q3 : decide ((k.size : Int) > 40) = false := decide_eq_false (by omega)
      have q4 : decide (40 < (k.size : Int)) = false := decide_eq_false (by omega)
      have q5 : decide (40 < k.size) = false := decide_eq_false (by omega)
      have HOK : Hid (goodKey k) := Lib.hid ⟨by omega, h4⟩
      clear h0
      go_wp2_with fail
      go_roundw
      case rel => exact ⟨i + 1, by go_num, by omega, by first | rfl | trivial, fun j hj => by
        by_cases h : j < i
        · exact HG.out j h
        · obtain rfl : j = i := by omega
          rw [← HKE.out]; exact HOK.out⟩
      case measure => simp only [intOf]; omega
    · have q2 : decide (k.size > 40) = true := decide_eq_true (by omega)
      have q3 : decide ((k.size : Int) > 40) = true := decide_eq_true (by omega)
      have q4 : decide (40 < (k.size : Int)) = true := decide_eq_true (by omega)
      have q5 : decide (40 < k.size) = true := decide_eq_true (by omega)
      clear h0
      go_wp2_with fail
      go_ret2
      exact ⟨rfl, HKB.out⟩
end Go.Proofs.Ytpibpapolcdeiaa
