/- The reader of messages: took, num, text, nodes, item. -/
import Derived.Test.YtonghelcfbjknaaMsgPure
namespace Go.Proofs.Ytonghelcfbjknaa
open Go.ChangeShapes Go.WideShapes Go.ChangeAt Go.RowKit
set_option linter.unusedVariables false
set_option linter.unusedSimpArgs false

def RdR (w : World) (rb : Nat) (s : Rs) : Prop := ∃ v, Blk w rb [v, .bool s.2] 59 ∧ Rd w v s.1 ∧ (∀ k, v.ownBlock = some k → 0 < s.1.length → k < rb)
structure Rok (s : Rs) : Prop where
  byte : ∀ c ∈ s.1, c < 256
  len : s.1.length ≤ 1099511627776
theorem RdR.keep {w w' : World} {rb : Nat} {s : Rs} {S : List Nat} (h : RdR w rb s) (k : Keep S w w') (hS : ∀ b ∈ S, rb < b) : RdR w' rb s := by
  obtain ⟨v, h1, h2, h3⟩ := h
  refine ⟨v, h1.keep k (fun hm => by have := hS _ hm; omega), h2.keep0 k (fun b hb hl hm => ?_), h3⟩
  have := hS _ hm
  have := h3 b hb hl
  omega
theorem RdR.alloc {w : World} {rb : Nat} {s : Rs} (h : RdR w rb s) (o : Obj) : RdR (w.alloc o) rb s := h.keep ((Keep.refl [] _).alloc o) (by simp)
theorem RdR.lt {w : World} {rb : Nat} {s : Rs} (h : RdR w rb s) : rb < w.heap.size := by obtain ⟨v, h1, _⟩ := h; exact h1.lt
theorem Rok.took {s : Rs} (h : Rok s) (n e : Nat) : Rok (tookR s n e) := by
  unfold tookR
  split
  · exact ⟨h.byte, h.len⟩
  · exact ⟨fun c hc => h.byte c (List.mem_of_mem_drop hc), by have := h.len; simp only [List.length_drop]; omega⟩
theorem rd_cut {w : World} {v : Value} {l : List Nat} (k : Nat) (h : Rv w 1 v (l.length - k) ((bcs l).drop k)) : Rd w v (l.drop k) := by
  unfold Rd
  rw [List.length_drop, show bcs (l.drop k) = (bcs l).drop k by simp [bcs, List.map_drop]]
  exact h
set_option maxHeartbeats 2000000 in
theorem took_any {w : World} (rb : Nat) (s : Rs) (n e : Nat) (h : RdR w rb s) (hn : n ≤ s.1.length) (hl : s.1.length ≤ 1099511627776) :
    Calls Try.prog 51 #[.pointer (some ⟨rb, 0, none⟩), .int .i64 n, .int .i64 e] w fun x w' => x = .returned (.tuple #[]) ∧ RdR w' rb (tookR s n e) ∧ Keep [rb] w w' := by
  obtain ⟨i0, hi, hz0, hz1, hz2⟩ := info_parts Try.info8
  obtain ⟨b, bad⟩ := s
  obtain ⟨v, h1, h2, h3⟩ := h
  simp only at h1 h2 h3 hn hl
  have c0 := h1.cell 0
  have c1 := h1.cell 1
  have f0 := h1.free 0
  have f1 := h1.free 1
  simp only [List.getElem?_cons_zero, List.getElem?_cons_succ] at c0 c1
  have HL := Lib.hid hn
  clear hn
  by_cases hb : bad = true
  · subst hb
    have hs := h1.set 1 (.bool true)
    have hk : Keep [rb] w (w.setCell ⟨rb, 1, none⟩ (.bool true)) := (Keep.refl _ _).setCell (.inl (by simp)) _
    go_enter Try.func51, Try.ntmps51
    go_wp2_with fail
    go_end0
    refine ⟨rfl, ?_, hk⟩
    have e1 : tookR (b, true) n e = (b, true) := by unfold tookR; rw [if_pos (.inl rfl)]
    rw [e1]
    exact ⟨v, hs, h2.keep0 hk (fun k hk' hl' hm => by have := h3 k hk' hl'; simp at hm; omega), h3⟩
  · obtain rfl : bad = false := by simpa using hb
    clear hb
    by_cases he : e = 0
    case neg =>
      have q : ((e : Int) != 0) = true := by simpa using he
      have hs := h1.set 1 (.bool true)
      have hk : Keep [rb] w (w.setCell ⟨rb, 1, none⟩ (.bool true)) := (Keep.refl _ _).setCell (.inl (by simp)) _
      go_enter Try.func51, Try.ntmps51
      go_wp2_with fail
      go_end0
      refine ⟨rfl, ?_, hk⟩
      have e1 : tookR (b, false) n e = (b, true) := by unfold tookR; rw [if_pos (.inr he)]
      rw [e1]
      exact ⟨v, hs, h2.keep0 hk (fun k hk' hl' hm => by have := h3 k hk' hl'; simp at hm; omega), h3⟩
    subst he
    have hs := h1.set 1 (.bool false)
    have hk : Keep [rb] w (w.setCell ⟨rb, 1, none⟩ (.bool false)) := (Keep.refl _ _).setCell (.inl (by simp)) _
    have h2' : Rd (w.setCell ⟨rb, 1, none⟩ (.bool false)) v b := h2.keep0 hk (fun k hk' hl' hm => by have := h3 k hk' hl'; simp at hm; omega)
    go_enter Try.func51, Try.ntmps51
    go_wp2_with (refine wpList_slice_lo _ _ _ _ _ _ _ 5 i0 Try.underlying33 hi hz1 _ _ _ _ n rfl rfl rfl h2' HL.out ?_; intro v1 hv1 ho1; obtain ⟨_, va1, vcap1, rfl, _, _⟩ := id hv1)
    go_end0
    have e1 : tookR (b, false) n 0 = (b.drop n, false) := by unfold tookR; rw [if_neg (by simp)]
    rw [e1]
    have hk2 := hk.setCell (p := ⟨rb, 0, none⟩) (.inl (by simp)) (.slice va1 (b.length - n) vcap1)
    refine ⟨rfl, ⟨_, hs.set 0 _, ?_, ?_⟩, hk2⟩
    · have := rd_cut _ hv1
      refine this.keep0 ((Keep.refl [rb] _).setCell (.inl (by simp)) _) (fun k hk' hl' hm => ?_)
      rw [ho1] at hk'
      have := h3 k hk' (by rw [List.length_drop] at hl'; omega)
      simp at hm; omega
    · intro k hk' hl'
      rw [ho1] at hk'
      exact h3 k hk' (by simp only [List.length_drop] at hl'; omega)
theorem get_ok (l : List Nat) (hb : ∀ c ∈ l, c < 256) : (get l).2.1 ≤ l.length ∧ I64 (get l).1 := by
  have h : (get l) = getGo l 0 0 := rfl
  rw [h]
  rcases getGo_facts l 0 0 (by omega) (by simp) hb with ⟨h1, h2, h3, h4, h5, h6⟩ | ⟨h1, h2, h3, h4⟩
  · exact ⟨by omega, h5, h6⟩
  · rw [h3, h4]; exact ⟨by omega, by unfold I64; omega⟩
theorem rNum_i64 (s : Rs) (h : Rok s) : I64 (rNum s).1 := (get_ok s.1 h.byte).2
theorem Rok.num {s : Rs} (h : Rok s) : Rok (rNum s).2 := h.took _ _
theorem Rok.text {s : Rs} (h : Rok s) : Rok (rText s).2 := h.took _ _
set_option maxHeartbeats 2000000 in
theorem rNum_any {w : World} (rb : Nat) (s : Rs) (h : RdR w rb s) (hk : Rok s) (n : Int) (s' : Rs) (hn : rNum s = (n, s')) :
    Calls Try.prog 33 #[.pointer (some ⟨rb, 0, none⟩)] w fun x w' => x = .returned (.int .i64 n) ∧ RdR w' rb s' ∧ Keep [rb] w w' := by
  have h0 := h
  obtain ⟨v, h1, h2, h3⟩ := h
  have c0 := h1.cell 0
  simp only [List.getElem?_cons_zero] at c0
  obtain ⟨_, va, vcap, rfl, _, _⟩ := id h2
  obtain ⟨b1, b2⟩ := get_ok s.1 hk.byte
  have b3 := hk.len
  unfold rNum at hn
  simp only [Prod.mk.injEq] at hn
  obtain ⟨rfl, rfl⟩ := hn
  generalize hg : get s.1 = g at *
  obtain ⟨n, k, e⟩ := g
  simp only at b1 b2
  have HG := Lib.hid hg
  have HB := Lib.hid b1
  clear hg b1
  go_enter Try.func33, Try.ntmps33
  go_wp2_with fail
  refine (Get_any _ s.1 h2 hk.byte (by omega) _ HG.out.symm).mono ?_
  rintro e1 w1 ⟨rfl, rfl⟩
  go_wp2_with fail
  refine (took_any rb s k e h0 HB.out hk.len).mono ?_
  rintro e1 w1 ⟨rfl, hr, hkp⟩
  go_wp2_with fail
  go_ret
  exact ⟨rfl, hr, hkp⟩
theorem getText_ok (l : List Nat) (hb : ∀ c ∈ l, c < 256) (hl : l.length ≤ 1099511627776) : (getText l).2.1 ≤ l.length ∧ (toStr (getText l).1).size ≤ 65536 := by
  have hf := getGo_facts l 0 0 (by omega) (by simp) hb
  have hG : get l = getGo l 0 0 := rfl
  rw [← hG] at hf
  unfold getText
  generalize get l = g at *
  obtain ⟨n, k, e⟩ := g
  simp only at hf ⊢
  have hz : ∀ x : List Nat, (toStr x).size = x.length := fun x => by simp [toStr, ByteArray.size]
  rw [hz]
  split
  · simp
  · split
    · simp
    · split
      · simp
      · simp only [List.length_take, List.length_drop]
        omega
set_option maxHeartbeats 2000000 in
theorem rText_any {w : World} (rb : Nat) (s : Rs) (h : RdR w rb s) (hk : Rok s) (t : ByteArray) (s' : Rs) (hn : rText s = (t, s')) :
    Calls Try.prog 35 #[.pointer (some ⟨rb, 0, none⟩)] w fun x w' => x = .returned (.string t) ∧ RdR w' rb s' ∧ Keep [rb] w w' := by
  have h0 := h
  obtain ⟨v, h1, h2, h3⟩ := h
  have c0 := h1.cell 0
  simp only [List.getElem?_cons_zero] at c0
  obtain ⟨_, va, vcap, rfl, _, _⟩ := id h2
  have b3 := hk.len
  obtain ⟨b1, b2⟩ := getText_ok s.1 hk.byte b3
  unfold rText at hn
  simp only [Prod.mk.injEq] at hn
  obtain ⟨rfl, rfl⟩ := hn
  generalize hg : getText s.1 = g at *
  obtain ⟨n, k, e⟩ := g
  simp only at b1 b2
  have HG := Lib.hid hg
  have HB := Lib.hid b1
  clear hg b1
  go_enter Try.func35, Try.ntmps35
  go_wp2_with fail
  refine (GetText_any _ s.1 h2 hk.byte (by omega) _ HG.out.symm).mono ?_
  rintro e1 w1 ⟨rfl, rfl⟩
  go_wp2_with fail
  refine (took_any rb s k e h0 HB.out hk.len).mono ?_
  rintro e1 w1 ⟨rfl, hr, hkp⟩
  go_wp2_with fail
  go_ret
  exact ⟨rfl, hr, hkp⟩
end Go.Proofs.Ytonghelcfbjknaa
