/- super.write: its contract. -/
import Derived.Test.YtnnaleoigiaboaaSuper
import Derived.Deep.RegionWith
namespace Go.Proofs.Ytnnaleoigiaboaa
open Go.ChangeShapes Go.WideShapes Go.ChangeAt Go.RowKit
set_option linter.unusedVariables false
set_option linter.unusedSimpArgs false

def sBody (n : Nat) (text : List Nat) : List Nat := be 8 n ++ ([text.length] ++ (text ++ List.replicate (51 - text.length) 0))
def sImg (n : Nat) (text : List Nat) : List Nat := be 4 (crcSum (sBody n text)) ++ sBody n text
theorem sBody_len (n : Nat) (text : List Nat) (h : text.length ≤ 40) : (sBody n text).length = 60 := by simp [sBody]; omega
theorem sBody_byte (n : Nat) (text : List Nat) (h : text.length ≤ 40) (hb : ∀ c ∈ text, c < 256) : ∀ c ∈ sBody n text, c < 256 := by
  intro c hc
  simp only [sBody, List.mem_append, List.mem_singleton, List.mem_replicate] at hc
  rcases hc with hc | rfl | hc | ⟨_, rfl⟩
  · exact be_byte _ _ _ hc
  · omega
  · exact hb _ hc
  · omega
theorem sImg_len (n : Nat) (text : List Nat) (h : text.length ≤ 40) : (sImg n text).length = 64 := by simp [sImg, sBody_len n text h]
theorem sImg_byte (n : Nat) (text : List Nat) (h : text.length ≤ 40) (hb : ∀ c ∈ text, c < 256) : ∀ c ∈ sImg n text, c < 256 := by
  intro c hc
  simp only [sImg, List.mem_append] at hc
  rcases hc with hc | hc
  · exact be_byte _ _ _ hc
  · exact sBody_byte n text h hb _ hc
theorem crcSum_lt (l : List Nat) (hb : ∀ c ∈ l, c < 256) : crcSum l < 4294967296 := by unfold crcSum; omega
theorem wrote_super (L : List Sec) (i : Nat) (s : Sec) (m : List Nat) (hm : m.length = 64) (hs : s.now.length = 64) : (L.set i ⟨over s.now 0 m, s.lasts, true⟩).map flushSec = (L.map flushSec).set i ⟨m, m, false⟩ := by
  have e : over s.now 0 m = m := by simp [over, hm, hs]
  rw [List.map_set, e]; rfl

theorem body_cells (n : Nat) (text : List Nat) (h : text.length ≤ 40) : over ((bcs (List.replicate 4 0 ++ be 8 n ++ List.replicate 52 0)).set 12 (.int .u8 text.length)) 13 (bcs text) = bcs (List.replicate 4 0 ++ sBody n text) := by
  have e8 : ∃ a b c d e f g h, be 8 n = [a, b, c, d, e, f, g, h] := ⟨_, _, _, _, _, _, _, _, rfl⟩
  obtain ⟨a, b, c, d, e, f, g, i, e8⟩ := e8
  have hz : List.replicate (51 - text.length) 0 = (List.replicate 51 0).drop text.length := List.drop_replicate.symm
  unfold sBody
  rw [e8, hz]
  generalize hr : List.replicate 51 0 = R
  have e52 : List.replicate 52 0 = 0 :: R := by rw [← hr]; rfl
  rw [e52]
  simp only [over, bcs_length, List.replicate, bcs, List.map_append, List.map_cons, List.map_nil, List.cons_append, List.nil_append, List.set, List.take, List.map_drop, List.length_map]
  rw [show 13 + text.length = text.length + 13 by omega]
  simp [bc]
theorem Clone_any {w : World} (v : Value) (l : List Nat) (h : Rd w v l) (hl : l.length ≤ 1099511627776) :
    Calls Try.prog 37 #[v] w fun e w' => ∃ v', e = .returned v' ∧ Buf w' w.heap.size 5 v' l ∧ Keep [] w w' := by
  obtain ⟨_, a, cap, rfl, hc, hh⟩ := id h
  cases a with
  | some ad =>
    refine (Clone_some ad cap l h hl).mono ?_
    rintro e w' ⟨v', rfl, hb, hk, _⟩
    exact ⟨v', rfl, hb, hk⟩
  | none =>
    have hl0 : l = [] := by
      cases l with
      | nil => rfl
      | cons x l => obtain ⟨sb, so, he, _⟩ := hh (by simp); cases he
    subst hl0
    have heq := fun W => Lib.run_eql_slice_nil (P := Try.prog) W 22 5 none 0 cap 0 0 Try.underlying22
    go_enter Try.func37, Try.ntmps37
    go_wp2_with fail
    go_ret
    exact ⟨_, rfl, Buf.nil _ _ _, Keep.refl _ _⟩
set_option maxRecDepth 100000 in
set_option maxHeartbeats 400000 in
theorem write_any {w : World} {s d sb : Nat} {L : List Sec} {c : Nat} (at_ slot : Nat) (t0 : Int) (v0 : Value) (sl0 : Int) (n : Nat) (bv : Value) (text : List Nat)
    (hd : IsDev w d sb L c) (hs : Blk w s [.pointer (some ⟨d, 0, none⟩), .int .i64 at_, .int .i64 t0, v0, .int .i64 sl0] 65)
    (hr : Rd w bv text) (hb : ∀ c ∈ text, c < 256) (hl : text.length ≤ 40) (hslot : at_ + slot < L.length) (hn : n < 9223372036854775808) (hc : c + 2 ≤ 1099511627776)
    (hlo : ∀ b, bv.ownBlock = some b → 0 < text.length → b < w.heap.size ∧ b ≠ d ∧ b ≠ sb ∧ b ≠ s) :
    Calls Try.prog 35 #[.pointer (some ⟨s, 0, none⟩), .int .i64 slot, .int .i64 n, bv] w fun e w' => e = .returned (.int .i64 0) ∧ IsDev w' d sb ((L.map flushSec).set (at_ + slot) ⟨sImg n text, sImg n text, false⟩) (c + 2) ∧
      (∃ tv, Blk w' s [.pointer (some ⟨d, 0, none⟩), .int .i64 at_, .int .i64 n, tv, .int .i64 slot] 65 ∧ Buf w' w.heap.size 5 tv text) ∧ Keep [d, sb, s] w w' := by
  obtain ⟨i8, hi8, hz80, hz81, hz82⟩ := info_parts Try.info8
  have h2 := hr
  obtain ⟨_, ba, bcap, rfl, _, _⟩ := hr
  have hne1 : s ≠ d := hs.ty.ne hd.dev.ty (by decide)
  have hne2 : s ≠ sb := hs.ty.ne hd.secs.ty (by decide)
  have hslt := hs.lt
  have hdlt := hd.dev.lt
  have hsblt := hd.secs.lt
  have hmx := hd.max
  go_enter Try.func35, Try.ntmps35
  go_wp2_with (at_make; refine wpList_make_n _ rfl _ _ 22 rfl 5 i8 _ Try.underlying22 hi8 hz80 (by rw [hz81]; rfl) (by decide) _ 64 rfl rfl (by omega) (by rw [hz82]; omega) (by omega) ?_)
  have hB0 : Blk (w.alloc (.cells (bcs (List.replicate 4 0 ++ List.replicate 8 0 ++ List.replicate 52 0)).toArray 5)) w.heap.size (bcs (List.replicate 4 0 ++ List.replicate 8 0 ++ List.replicate 52 0)) 5 := Blk.new _ _ _
  refine (put_any (List.replicate 4 0) (List.replicate 8 0) (List.replicate 52 0) 60 n hB0 (by omega) (by simp) (by simp)).mono ?_
  rintro e w1 ⟨rfl, hB1, hK1⟩
  have hB1 : Blk w1 w.heap.size (bcs (List.replicate 4 0 ++ be 8 n ++ List.replicate 52 0)) 5 := hB1
  have K1 : Keep [] w w1 := ((Keep.refl [] w).alloc _).then hK1 (by simp)
  clear hK1 hB0
  obtain ⟨u, f0⟩ : ∃ u, w1.cell? ⟨w.heap.size, 12, none⟩ = some u := by
    rw [hB1.cell, List.getElem?_eq_getElem (by simp)]; exact ⟨_, rfl⟩
  have f1 := hB1.free 12
  have q0 : (text.length : Int) ≤ 40 := by omega
  have hth0 := (hB1.set 12 (.int .u8 text.length)).there 13 text.length (by simp; omega)
  have k2 : Keep [w.heap.size] w1 (w1.setCell ⟨w.heap.size, 12, none⟩ (.int .u8 text.length)) := (Keep.refl _ w1).setCell (.inl (by simp)) _
  have hsrc := Rd.src (Rd.keep0 (h2.keep K1 (by simp)) k2 (by intro b hb hp; have := hlo b hb hp; simp; omega)) Try.underlying22
  go_wp2_with (refine wpList_copy_mid _ rfl _ _ 22 22 rfl 5 i8 Try.underlying22 hi8 hz81 w.heap.size 13 51 51 rfl _ text.length (bcs text) rfl hsrc (by omega) hth0 ?_)
  obtain ⟨w2, hw2⟩ : ∃ w2, w2 = (w1.setCell ⟨w.heap.size, 12, none⟩ (.int .u8 text.length)).setCells w.heap.size 13 (bcs text) := ⟨_, rfl⟩
  have hB2 : Blk w2 w.heap.size (bcs (List.replicate 4 0 ++ sBody n text)) 5 := by
    rw [hw2, ← body_cells n text hl]
    exact (hB1.set 12 _).setCells (bcs text) 13 _ _ (by simp; omega)
  have K2 : Keep [] w w2 := by
    rw [hw2]
    exact K1.then (Keep.setCells _ _ _ _ k2 (.inl (by simp))) (by simp)
  rw [← hw2]
  have hlen := sBody_len n text hl
  have hby := sBody_byte n text hl hb
  have hsz := hB2.lt
  clear hw2 hB1 K1 k2 hsrc hth0 f0 f1
  have hS := crcSum_lt (sBody n text) hby
  have HI := Lib.hid (show be 4 (crcSum (sBody n text)) ++ sBody n text = sImg n text from rfl)
  generalize sBody n text = body at *
  have HE := Lib.hid (rfl : crcSum body = crcSum body)
  generalize hSS : crcSum body = S at hS HI HE
  have HSS := Lib.hid hSS.symm
  clear hSS HE
  have hRb : Rd w2 (.slice (some ⟨w.heap.size, 4, none⟩) 60 60) body := by
    unfold Rd
    rw [hlen]
    refine ⟨by simp [hlen], _, 60, rfl, by omega, fun _ => ⟨_, 4, rfl, hsz, fun i hi => ?_⟩⟩
    rw [hB2.cell]
    unfold bcs
    rw [List.map_append, List.getElem?_append_right (by simp)]
    simp
  have hp : Rv (w2.alloc (.cells #[.slice (some ⟨w.heap.size, 4, none⟩) 60 60] 22)).drew 1 (.slice (some ⟨w2.heap.size, 0, none⟩) 1 1) 1 [.slice (some ⟨w.heap.size, 4, none⟩) 60 60] := (Rv.new w2 [.slice (some ⟨w.heap.size, 4, none⟩) 60 60] 22 1 1 1 rfl (by omega) _ rfl).keep (Keep.refl [] _).drew (by simp)
  have hq : Rd (w2.alloc (.cells #[.slice (some ⟨w.heap.size, 4, none⟩) 60 60] 22)).drew (.slice (some ⟨w.heap.size, 4, none⟩) 60 60) body := Rv.keep (Rv.alloc hRb _) (Keep.refl [] _).drew (by simp)
  have hB2a : Blk (w2.alloc (.cells #[.slice (some ⟨w.heap.size, 4, none⟩) 60 60] 22)).drew w.heap.size (bcs (List.replicate 4 0 ++ body)) 5 := (hB2.alloc _).drew
  have hSum := Sum_one _ _ _ body hp hq hby (by omega) S HSS.out
  have hPut : Calls Try.prog 43 #[.slice (some ⟨w.heap.size, 0, none⟩) 4 64, .int .u64 S] (w2.alloc (.cells #[.slice (some ⟨w.heap.size, 4, none⟩) 60 60] 22)).drew fun e w' => e = .returned (.tuple #[]) ∧ Blk w' w.heap.size (bcs (be 4 S ++ body)) 5 ∧ Keep [w.heap.size] (w2.alloc (.cells #[.slice (some ⟨w.heap.size, 4, none⟩) 60 60] 22)).drew w' := put_any [] (List.replicate 4 0) body 64 S hB2a (by omega) (by simp) (by simp)
  obtain ⟨SI, hSI⟩ : ∃ z : Int, z = (S : Int) := ⟨_, rfl⟩
  have hSI0 : 0 ≤ SI := by omega
  have hSI1 : SI < 4294967296 := by omega
  rw [← hSI] at hSum hPut
  clear hSI
  have hwr : IntKind.u64.wrap SI = SI := by
    simp [IntKind.wrap, IntKind.bits, IntKind.signed]
    omega
  have HSum := Lib.hid hSum
  have HPut := Lib.hid hPut
  clear hSum hPut hp hq hB2a hRb
  go_region_with
    (first
      | (go_at_call 43; (try rw [← hws]); (try rw [hwr]); refine HPut.out.mono ?_; rintro e w3 ⟨rfl, hB3, k3⟩)
      | (go_at_call 39; refine HSum.out.mono ?_; rintro e ws ⟨rfl, hws⟩)
      | fail)
  rw [HI.out] at hB3
  have hil := sImg_len n text hl
  have hib := sImg_byte n text hl hb
  have K3 : Keep [] w w3 := ((K2.alloc _).drew.then k3 (by simp))
  have hRi : Rd w3 (.slice (some ⟨w.heap.size, 0, none⟩) 64 64) (sImg n text) := by
    unfold Rd
    rw [hil]
    refine ⟨by simp [hil], _, 64, rfl, by omega, fun _ => ⟨_, 0, rfl, hB3.lt, fun i hi => ?_⟩⟩
    rw [Nat.zero_add, hB3.cell]
  generalize hIM : sImg n text = img at *
  have HIM := Lib.hid hIM
  clear hIM
  clear HI hS hby hlen hB2 K2 k3 HSum HPut
  have hs3 := hs.keep K3 (by simp)
  have hd3 := hd.keep K3 (by simp) (by simp)
  have g0 := hs3.cell 0
  have g1 := hs3.cell 1
  simp only [List.getElem?_cons_succ, List.getElem?_cons_zero] at g0 g1
  go_wp2_with fail
  refine wp_region_still_tail 11 (by kernel_rfl) (by kernel_rfl) ?_
  simp only [List.take_succ_cons, List.take_zero, List.drop_succ_cons, List.drop_zero]
  repeat still_step
  refine wpStill_nil ?_
  obtain ⟨sc, hsc, hscm⟩ := sec_mem hslot
  go_wp2_with fail
  rw [show (at_ : Int) + (slot : Int) = ((at_ + slot : Nat) : Int) by omega]
  refine (Write_in (hd3.keep (Keep.refl [] _).drew (by simp) (by simp)) (at_ + slot) sc hsc _ img (Rv.keep hRi (Keep.refl [] _).drew (by simp)) (by omega) hib (by omega)).mono ?_
  rintro e w4 ⟨rfl, hd4, k4⟩
  have K4 : Keep [d, sb] w w4 := (K3.drew.mono (by simp)).trans k4
  have hs4 := hs.keep K4 (by simp; exact ⟨hne1, hne2⟩)
  clear g0 g1
  have g0 := hs4.cell 0
  simp only [List.getElem?_cons_zero] at g0
  go_wp2_with fail
  refine (Flush_any hd4 (by omega)).mono ?_
  rintro e w5 ⟨rfl, hd5, k5⟩
  have hscl : sc.now.length = 64 := (hd.ok sc hscm).1
  rw [wrote_super L (at_ + slot) sc img hil hscl] at hd5
  have K5 : Keep [d, sb] w w5 := K4.trans k5
  have hs5 := hs.keep K5 (by simp; exact ⟨hne1, hne2⟩)
  have hr5 := Rd.keep0 h2 K5 (by intro b hb hp; have := hlo b hb hp; simp; omega)
  clear g0 k4 k5 hd4 hs4 hs3 hd3 K3 K4
  go_wp2_with fail
  refine (Clone_any _ text hr5 (by omega)).mono ?_
  rintro e w6 ⟨tv, rfl, hbuf, k6⟩
  have K6 := K5.trans (k6.mono (by simp))
  obtain ⟨ta, tcap, rfl⟩ := hbuf.slice
  have hs6 := hs5.keep k6 (by simp)
  have hd6 := hd5.keep k6 (by simp) (by simp)
  have g1 := hs6.cell 0
  have g2 := hs6.cell 2
  have g3 := hs6.cell 3
  have g4 := hs6.cell 4
  have f2 := hs6.free 2
  have f3 := hs6.free 3
  have f4 := hs6.free 4
  simp only [List.getElem?_cons_succ, List.getElem?_cons_zero] at g1 g2 g3 g4
  go_wp2_with fail
  go_ret
  have hB := ((hs6.set 4 (.int .i64 slot)).set 2 (.int .i64 n)).set 3 (.slice ta text.length tcap)
  have hk : Keep [s] w6 (((w6.setCell ⟨s, 4, none⟩ (.int .i64 slot)).setCell ⟨s, 2, none⟩ (.int .i64 n)).setCell ⟨s, 3, none⟩ (.slice ta text.length tcap)) := Keep.setCell (Keep.setCell (Keep.setCell (Keep.refl _ _) (.inl (by simp)) _) (.inl (by simp)) _) (.inl (by simp)) _
  rw [HIM.out]
  refine ⟨rfl, hd6.keep hk (by simpa using Ne.symm hne1) (by simpa using Ne.symm hne2), ⟨_, hB, (hbuf.mono K5.size).keep hk ?_⟩, ?_⟩
  · intro b hb'
    have := (hbuf.lt b hb').1
    have := K5.size
    simp
    omega
  · exact (K6.mono (by simp)).then hk (by simp)
end Go.Proofs.Ytnnaleoigiaboaa
