/- The contracts of the reference's device. -/
import Derived.Test.YthknelejcedhnaaDevCrash
import Derived.Test.YthknelejcedhnaaOwn
import Derived.Deep.RegionLaw
import Derived.Deep.DeepCutAuto
import Derived.Deep.CutBlock
namespace Go.Proofs.Ythknelejcedhnaa
open Go.ChangeShapes Go.WideShapes Go.ChangeAt Go.RowKit
set_option linter.unusedVariables false
set_option linter.unusedSimpArgs false

/-- v is a row of just those bytes, in a block of bytes. -/
structure Row (w : World) (B : Nat) (v : Value) (l : List Nat) : Prop where
  rd : Rd w v l
  ty : ∃ g, v.ownBlock = some g ∧ Ty w g 5 ∧ B ≤ g
theorem Row.keep {w w' : World} {B : Nat} {v : Value} {l : List Nat} {S : List Nat} (h : Row w B v l) (k : Keep S w w') (hS : ∀ b ∈ S, ¬ Ty w b 5) : Row w' B v l := by
  obtain ⟨hr, g, hg, ht, hb⟩ := h
  refine ⟨hr.keep k fun b hb _ hm => ?_, g, hg, ht.keep k fun hm => hS g hm ht, hb⟩
  rw [hg] at hb
  cases hb
  exact hS g hm ht
theorem Row.buf {w : World} {B : Nat} {v : Value} {l : List Nat} (h : Buf w B 5 v l) (hl : 0 < l.length) : Row w B v l := by
  refine ⟨h.rd, ?_⟩
  rcases h.2 with ⟨rfl, hn⟩ | ⟨g, cap, cur, rfl, hb, hg, _⟩
  · omega
  · exact ⟨g, rfl, ⟨_, _, hg⟩, hb⟩

/-- The rows vs read as the lists ls. -/
def BRows (w : World) (B : Nat) (vs : List Value) (ls : List (List Nat)) : Prop := vs.length = ls.length ∧ ∀ i v, vs[i]? = some v → Row w B v (ls.getD i [])
theorem BRows.keep {w w' : World} {B : Nat} {vs : List Value} {ls : List (List Nat)} {S : List Nat} (h : BRows w B vs ls) (k : Keep S w w') (hS : ∀ b ∈ S, ¬ Ty w b 5) : BRows w' B vs ls :=
  ⟨h.1, fun i v hv => (h.2 i v hv).keep k hS⟩
theorem BRows.snoc {w : World} {B : Nat} {vs : List Value} {ls : List (List Nat)} {v : Value} {l : List Nat} (h : BRows w B vs ls) (hv : Row w B v l) : BRows w B (vs ++ [v]) (ls ++ [l]) := by
  refine ⟨by simp [h.1], fun i u hu => ?_⟩
  by_cases hi : i < vs.length
  · rw [List.getElem?_append_left hi] at hu
    have := h.2 i u hu
    rwa [List.getD_eq_getElem?_getD, List.getElem?_append_left (by rw [← h.1]; exact hi), ← List.getD_eq_getElem?_getD]
  · rw [List.getElem?_append_right (by omega)] at hu
    have hi2 : i = vs.length := by
      rcases Nat.eq_zero_or_pos (i - vs.length) with h0 | h0
      · omega
      · rw [List.getElem?_eq_none (by simp; omega)] at hu; cases hu
    subst hi2
    rw [Nat.sub_self] at hu
    simp at hu
    subst hu
    rw [List.getD_eq_getElem?_getD, h.1, List.getElem?_append_right (Nat.le_refl _)]
    simpa using hv
theorem BRows.set {w : World} {B : Nat} {vs : List Value} {ls : List (List Nat)} {v : Value} {l : List Nat} (h : BRows w B vs ls) (hv : Row w B v l) (i : Nat) : BRows w B (vs.set i v) (ls.set i l) := by
  refine ⟨by simp [h.1], fun j u hu => ?_⟩
  rw [List.getElem?_set] at hu
  rw [List.getD_eq_getElem?_getD, List.getElem?_set]
  split at hu
  · split at hu
    · rename_i e hlt
      subst e
      cases hu
      rw [if_pos rfl, if_pos (by rw [← h.1]; exact hlt)]
      exact hv
    · cases hu
  · rename_i hne
    rw [if_neg hne, ← List.getD_eq_getElem?_getD]
    exact h.2 j u hu
theorem BRows.at_ {w : World} {B : Nat} {vs : List Value} {ls : List (List Nat)} (h : BRows w B vs ls) (i : Nat) (hi : i < ls.length) : ∃ v, vs[i]? = some v ∧ Row w B v (ls.getD i []) := by
  have hi2 : i < vs.length := by rw [h.1]; exact hi
  exact ⟨vs[i], List.getElem?_eq_getElem hi2, h.2 i _ (List.getElem?_eq_getElem hi2)⟩

theorem ty_u8 : (∀ {w : World} {b : Nat}, Ty w b 60 → ¬ Ty w b 5) ∧ (∀ {w : World} {b : Nat}, Ty w b 22 → ¬ Ty w b 5) ∧ (∀ {w : World} {b : Nat}, Ty w b 4 → ¬ Ty w b 5) :=
  ⟨fun h h' => h.ne h' (by decide) rfl, fun h h' => h.ne h' (by decide) rfl, fun h h' => h.ne h' (by decide) rfl⟩

/-- Block r is the reference's device. -/
structure IsRef (w : World) (B r nb fb db : Nat) (l : List Sec) (calls : Nat) : Prop where
  dev : ∃ nc fc, Blk w r [.slice (some ⟨nb, 0, none⟩) l.length nc, .slice (some ⟨fb, 0, none⟩) l.length fc, .slice (some ⟨db, 0, none⟩) l.length l.length, .int .i64 calls] 60 ∧ l.length ≤ nc ∧ l.length ≤ fc
  now : ∃ vs spare, Blk w nb (vs ++ spare) 22 ∧ BRows w B vs (l.map Sec.now)
  fast : ∃ vs spare, Blk w fb (vs ++ spare) 22 ∧ BRows w B vs (l.map Sec.lasts)
  dirty : Blk w db (bools (l.map Sec.loose)) 4
  ne : nb ≠ fb
  ok : ∀ s ∈ l, s.ok
  pos : 0 < l.length
  max : l.length ≤ 2048
  few : calls ≤ 1099511627776
  low : B ≤ r ∧ B ≤ nb ∧ B ≤ fb ∧ B ≤ db
theorem IsRef.keep {S : List Nat} {w w' : World} {B r nb fb db : Nat} {l : List Sec} {c : Nat} (h : IsRef w B r nb fb db l c) (k : Keep S w w')
    (hS : ∀ b ∈ S, ¬ Ty w b 5 ∧ ¬ Ty w b 22 ∧ ¬ Ty w b 4 ∧ ¬ Ty w b 60) : IsRef w' B r nb fb db l c := by
  obtain ⟨nc, fc, h1, h2, h3⟩ := h.dev
  obtain ⟨vs, sp, h4, h5⟩ := h.now
  obtain ⟨us, sq, h6, h7⟩ := h.fast
  exact ⟨⟨nc, fc, h1.keep k (fun hm => (hS _ hm).2.2.2 h1.ty), h2, h3⟩, ⟨vs, sp, h4.keep k (fun hm => (hS _ hm).2.1 h4.ty), h5.keep k (fun b hm => (hS b hm).1)⟩,
    ⟨us, sq, h6.keep k (fun hm => (hS _ hm).2.1 h6.ty), h7.keep k (fun b hm => (hS b hm).1)⟩, h.dirty.keep k (fun hm => (hS _ hm).2.2.1 h.dirty.ty), h.ne, h.ok, h.pos, h.max, h.few, h.low⟩

/-- On the way through NewDev: a rows of Now, c of Fast. -/
structure ND (w wr : World) (k : Nat) (nv fv : Value) (vs us : List Value) (a c : Nat) : Prop where
  blk : Blk wr (w.heap.size + 1) [nv, fv, .slice (some ⟨w.heap.size, 0, none⟩) k k, .int .i64 0] 60
  dirty : Blk wr w.heap.size (bools (List.replicate k false)) 4
  on : Own wr w.heap.size 22 nv vs
  of : Own wr w.heap.size 22 fv us
  rn : BRows wr w.heap.size vs (List.replicate a z64)
  rf : BRows wr w.heap.size us (List.replicate c z64)
  ne : ∀ b, nv.ownBlock = some b → fv.ownBlock ≠ some b
  kp : Keep [] w wr
theorem ND.alloc {w wr : World} {k : Nat} {nv fv : Value} {vs us : List Value} {a c : Nat} (h : ND w wr k nv fv vs us a c) (o : Obj) : ND w (wr.alloc o) k nv fv vs us a c :=
  ⟨h.blk.alloc o, h.dirty.alloc o, h.on.alloc o, h.of.alloc o, h.rn.keep ((Keep.refl [] _).alloc o) (by simp), h.rf.keep ((Keep.refl [] _).alloc o) (by simp), h.ne, h.kp.alloc o⟩
theorem ND.drew {w wr : World} {k : Nat} {nv fv : Value} {vs us : List Value} {a c : Nat} (h : ND w wr k nv fv vs us a c) : ND w wr.drew k nv fv vs us a c :=
  ⟨h.blk.drew, h.dirty.drew, h.on.drew, h.of.drew, h.rn.keep (Keep.refl [] _).drew (by simp), h.rf.keep (Keep.refl [] _).drew (by simp), h.ne, h.kp.drew⟩
theorem replicate_snoc {α : Type} (n : Nat) (x : α) : List.replicate (n + 1) x = List.replicate n x ++ [x] := by
  rw [List.replicate_succ']
theorem ND.app {w wr w1 : World} {k : Nat} {nv fv v1 x : Value} {vs us : List Value} {a c : Nat} (h : ND w wr k nv fv vs us a c) (hx : Row wr w.heap.size x z64)
    (h1 : w1.ownsRow w.heap.size 22 1 v1 (vs.length + 1) (vs ++ [x])) (h2 : wr.grownBy w1 nv.ownBlock) (h3 : ∀ b, v1.ownBlock = some b → nv.ownBlock = some b ∨ wr.heap.size ≤ b) :
    ND w (w1.setCell ⟨w.heap.size + 1, 0, none⟩ v1) k v1 fv (vs ++ [x]) us (a + 1) c := by
  have hk := Keep.grown h2
  have hS : ∀ b ∈ nv.ownBlock.toList, Ty wr b 22 := fun b hb => h.on.ty b (Option.mem_toList.1 hb)
  have n1 : w.heap.size + 1 ∉ nv.ownBlock.toList := fun hm => (h.blk.ty.ne (hS _ hm) (by decide)) rfl
  have n2 : w.heap.size ∉ nv.ownBlock.toList := fun hm => (h.dirty.ty.ne (hS _ hm) (by decide)) rfl
  have b1 := h.blk.keep hk n1
  have d1 := h.dirty.keep hk n2
  have o1 : Own w1 w.heap.size 22 v1 (vs ++ [x]) := Own.app (w' := w1) (m := 1) rfl h1
  have f1 := h.of.keep hk (fun b hb hm => h.ne b (Option.mem_toList.1 hm) hb)
  have hu : ∀ b ∈ nv.ownBlock.toList, ¬ Ty wr b 5 := fun b hb => ty_u8.2.1 (hS b hb)
  have r1 := (h.rn.snoc hx).keep hk hu
  rw [← replicate_snoc] at r1
  have r2 := h.rf.keep hk hu
  have hk2 : Keep [w.heap.size + 1] w1 (w1.setCell ⟨w.heap.size + 1, 0, none⟩ v1) := (Keep.refl _ _).setCell (.inl (by simp)) _
  have hu2 : ∀ b ∈ [w.heap.size + 1], ¬ Ty w1 b 5 := by simpa using ty_u8.1 b1.ty
  refine ⟨b1.set 0 v1, d1.other (by simp) _, o1.keep hk2 ?_, f1.keep hk2 ?_, r1.keep hk2 hu2, r2.keep hk2 hu2, ?_, ?_⟩
  · intro b hb hm
    rw [List.mem_singleton.1 hm] at hb
    exact (b1.ty.ne (o1.ty _ hb) (by decide)) rfl
  · intro b hb hm
    rw [List.mem_singleton.1 hm] at hb
    exact (b1.ty.ne (f1.ty _ hb) (by decide)) rfl
  · intro b hb hf
    rcases h3 b hb with h' | h'
    · exact h.ne b h' hf
    · have := (h.of.lt b hf).2; omega
  · refine (h.kp.then hk ?_).setCell (.inr (by simp)) _
    intro b hb hlt
    have := (h.on.lt b (Option.mem_toList.1 hb)).1
    omega
theorem ND.flip {w wr w1 : World} {k : Nat} {nv fv v1 x : Value} {vs us : List Value} {a c : Nat} (h : ND w wr k nv fv vs us a c) (hx : Row wr w.heap.size x z64)
    (h1 : w1.ownsRow w.heap.size 22 1 v1 (us.length + 1) (us ++ [x])) (h2 : wr.grownBy w1 fv.ownBlock) (h3 : ∀ b, v1.ownBlock = some b → fv.ownBlock = some b ∨ wr.heap.size ≤ b) :
    ND w (w1.setCell ⟨w.heap.size + 1, 1, none⟩ v1) k nv v1 vs (us ++ [x]) a (c + 1) := by
  have hk := Keep.grown h2
  have hS : ∀ b ∈ fv.ownBlock.toList, Ty wr b 22 := fun b hb => h.of.ty b (Option.mem_toList.1 hb)
  have n1 : w.heap.size + 1 ∉ fv.ownBlock.toList := fun hm => (h.blk.ty.ne (hS _ hm) (by decide)) rfl
  have n2 : w.heap.size ∉ fv.ownBlock.toList := fun hm => (h.dirty.ty.ne (hS _ hm) (by decide)) rfl
  have b1 := h.blk.keep hk n1
  have d1 := h.dirty.keep hk n2
  have o1 : Own w1 w.heap.size 22 v1 (us ++ [x]) := Own.app (w' := w1) (m := 1) rfl h1
  have f1 := h.on.keep hk (fun b hb hm => h.ne b hb (Option.mem_toList.1 hm))
  have hu : ∀ b ∈ fv.ownBlock.toList, ¬ Ty wr b 5 := fun b hb => ty_u8.2.1 (hS b hb)
  have r1 := (h.rf.snoc hx).keep hk hu
  rw [← replicate_snoc] at r1
  have r2 := h.rn.keep hk hu
  have hk2 : Keep [w.heap.size + 1] w1 (w1.setCell ⟨w.heap.size + 1, 1, none⟩ v1) := (Keep.refl _ _).setCell (.inl (by simp)) _
  have hu2 : ∀ b ∈ [w.heap.size + 1], ¬ Ty w1 b 5 := by simpa using ty_u8.1 b1.ty
  refine ⟨b1.set 1 v1, d1.other (by simp) _, f1.keep hk2 ?_, o1.keep hk2 ?_, r2.keep hk2 hu2, r1.keep hk2 hu2, ?_, ?_⟩
  · intro b hb hm
    rw [List.mem_singleton.1 hm] at hb
    exact (b1.ty.ne (f1.ty _ hb) (by decide)) rfl
  · intro b hb hm
    rw [List.mem_singleton.1 hm] at hb
    exact (b1.ty.ne (o1.ty _ hb) (by decide)) rfl
  · intro b hb hf
    rcases h3 b hf with h' | h'
    · exact h.ne b hb h'
    · have := (h.on.lt b hb).2; omega
  · refine (h.kp.then hk ?_).setCell (.inr (by simp)) _
    intro b hb hlt
    have := (h.of.lt b (Option.mem_toList.1 hb)).1
    omega
/-- A new row of noughts. -/
theorem row_new (w wr : World) (h : w.heap.size ≤ wr.heap.size) : Row ((wr.alloc (.cells zero64.toArray 5)).alloc (.cells #[.slice (some ⟨wr.heap.size, 0, none⟩) 64 64] 22)).drew w.heap.size (.slice (some ⟨wr.heap.size, 0, none⟩) 64 64) z64 := by
  have hb := ((Blk.new wr zero64 5).alloc (.cells #[.slice (some ⟨wr.heap.size, 0, none⟩) 64 64] 22)).drew
  refine ⟨⟨by simp, some ⟨wr.heap.size, 0, none⟩, 64, rfl, by simp [z64], fun _ => ⟨wr.heap.size, 0, rfl, hb.lt, fun i hi => ?_⟩⟩, wr.heap.size, rfl, hb.ty, h⟩
  rw [Nat.zero_add, hb.cell]; rfl

theorem src_row (w wr : World) : Src Try.prog 1 58 (.slice (some ⟨wr.heap.size + 1, 0, none⟩) 1 1) 1 [.slice (some ⟨wr.heap.size, 0, none⟩) 64 64] ((wr.alloc (.cells zero64.toArray 5)).alloc (.cells #[.slice (some ⟨wr.heap.size, 0, none⟩) 64 64] 22)).drew :=
  src_at Try.underlying58 _ _ _ ((Blk.new' (wr.alloc (.cells zero64.toArray 5)) [.slice (some ⟨wr.heap.size, 0, none⟩) 64 64] 22 (wr.heap.size + 1) (by simp)).drew.cell 0) rfl
theorem nd_end (w wr : World) (k : Nat) (hk1 : 0 < k) (hk2 : k ≤ 2048) {nv fv : Value} {vs us : List Value} (h : ND w wr k nv fv vs us k k) :
    ∃ nb fb, IsRef wr w.heap.size (w.heap.size + 1) nb fb w.heap.size (List.replicate k zeroSec) 0 := by
  have l1 : vs.length = k := by have := h.rn.1; simpa using this
  have l2 : us.length = k := by have := h.rf.1; simpa using this
  obtain ⟨nb, nc, sn, rfl, hnc, hnb, hN⟩ := h.on.blk (by omega)
  obtain ⟨fb, fc, sf, rfl, hfc, hfb, hF⟩ := h.of.blk (by omega)
  refine ⟨nb, fb, ⟨nc, fc, ?_, by simp; omega, by simp; omega⟩, ⟨vs, sn, hN, ?_⟩, ⟨us, sf, hF, ?_⟩, ?_, ?_, ?_, by simpa using hk1, by simpa using hk2, by omega, by omega, hnb, hfb, Nat.le_refl _⟩
  · have := h.blk
    rw [l1, l2] at this
    simpa using this
  · simpa [zeroSec, z64] using h.rn
  · simpa [zeroSec, z64] using h.rf
  · simpa [zeroSec] using h.dirty
  · intro e
    subst e
    exact h.ne nb rfl rfl
  · intro s hs
    rw [List.eq_of_mem_replicate hs]
    exact zeroSec_ok
set_option maxRecDepth 100000 in
set_option maxHeartbeats 2000000 in
theorem NewDev_any {w : World} (n : Int) (k : Nat) (hk : (k : Int) = min (max n 1) 2048) :
    Calls Try.prog 32 #[.int .i64 n] w fun e w' => ∃ r nb fb db, e = .returned (.pointer (some ⟨r, 0, none⟩)) ∧ IsRef w' w.heap.size r nb fb db (List.replicate k zeroSec) 0 ∧ Keep [] w w' := by
  obtain ⟨i0, hi, hz0, hz1, hz2⟩ := info_parts Try.infoB
  obtain ⟨i8, hi8, hz80, hz81, hz82⟩ := info_parts Try.info8
  obtain ⟨is, his, hzs0, hzs1, hzs2⟩ := info_parts Try.infoBs
  have hk1 : 0 < k := by omega
  have hk2 : k ≤ 2048 := by omega
  have hmk : ∀ W : World, (Instr.makeSlice 22 (.int .i64 64) (.int .i64 64)).run Try.prog W = .ok (.slice (some ⟨W.heap.size, 0, none⟩) 64 64) (W.alloc (.cells zero64.toArray 5)) :=
    fun W => run_make_n (P := Try.prog) 22 5 i8 _ Try.underlying22 hi8 hz80 hz81 rfl 64 64 rfl (by rw [hz82]; omega) (by omega) W
  have hcase : (n < 1 ∧ (k : Int) ≤ 1) ∨ (n = 1 ∧ (k : Int) ≤ 1) ∨ (1 < n ∧ n < 2048 ∧ (k : Int) ≤ n ∧ n ≤ k) ∨ (n = 2048 ∧ 2048 ≤ (k : Int)) ∨ (2048 < n ∧ 2048 ≤ (k : Int)) := by omega
  clear hk
  rcases hcase with ⟨h, h'⟩ | ⟨rfl, h'⟩ | ⟨h, h', h'', h'''⟩ | ⟨rfl, h'⟩ | ⟨h, h'⟩
  all_goals
    go_enter Try.func32, Try.ntmps32
    go_wp2_with (at_make; refine wpList_make_n _ rfl _ _ 54 rfl 4 i0 _ Try.underlying54 hi hz0 (by rw [hz1]; rfl) (by decide) _ k rfl rfl (by omega) (by rw [hz2]; omega) (by omega) ?_)
    have hB0 : Blk ((w.alloc (.cells (Array.replicate k (.bool false)) 4)).alloc (.cells #[.slice none 0 0, .slice none 0 0, .slice (some ⟨w.heap.size, 0, none⟩) k k, .int .i64 0] 60)) (w.heap.size + 1) [.slice none 0 0, .slice none 0 0, .slice (some ⟨w.heap.size, 0, none⟩) k k, .int .i64 0] 60 := Blk.new' _ _ _ _ (by simp)
    have hB1 : Blk ((w.alloc (.cells (Array.replicate k (.bool false)) 4)).alloc (.cells #[.slice none 0 0, .slice none 0 0, .slice (some ⟨w.heap.size, 0, none⟩) k k, .int .i64 0] 60)) w.heap.size (bools (List.replicate k false)) 4 := by
      have := (Blk.new w (bools (List.replicate k false)) 4).alloc (.cells #[.slice none 0 0, .slice none 0 0, .slice (some ⟨w.heap.size, 0, none⟩) k k, .int .i64 0] 60)
      simpa [bools] using this
    have hK0 : Keep [] w ((w.alloc (.cells (Array.replicate k (.bool false)) 4)).alloc (.cells #[.slice none 0 0, .slice none 0 0, .slice (some ⟨w.heap.size, 0, none⟩) k k, .int .i64 0] 60)) := ((Keep.refl _ _).alloc _).alloc _
    go_loopw [4] (fun i wr => ∃ (j : Nat) (nv fv : Value) (vs us : List Value), j ≤ k ∧ i = .int .i64 j ∧ ND w wr k nv fv vs us j j) (fun i _ => k - (intOf i).toNat)
    case atStart => exact ⟨0, _, _, [], [], by omega, rfl, hB0, hB1, Own.nil _ _ _, Own.nil _ _ _, ⟨rfl, by simp⟩, ⟨rfl, by simp⟩, by simp [Value.ownBlock], hK0⟩
    case round =>
      obtain ⟨j, nv, fv, vs, us, hj, rfl, hD⟩ := hrel
      clear hB0 hB1 hK0
      by_cases hlt : j < k
      · have q0 : (j : Int) < (k : Int) := by omega
        go_upto_region 6 with fail
        go_cut [] (fun wc => ∃ (v1 : Value) (vs1 : List Value), ND w wc k v1 fv vs1 us (j + 1) j)
        case first =>
          have hvl : vs.length ≤ 2048 := by rw [hD.rn.1]; simp; omega
          have hD2 := ((hD.alloc (.cells zero64.toArray 5)).alloc (.cells #[.slice (some ⟨wr.heap.size, 0, none⟩) 64 64] 22)).drew
          have hR2 := row_new w wr hD.kp.size
          have HS2 := Lib.hid (src_row w wr)
          have hb2 := hD2.kp.size
          have f0 := hD.blk.cell 0
          simp only [List.getElem?_cons_zero] at f0
          have f0a : (wr.alloc (.cells zero64.toArray 5)).cell? ⟨w.heap.size + 1, 0, none⟩ = some nv := (hD.blk.alloc _).cell 0
          have f0b : ((wr.alloc (.cells zero64.toArray 5)).alloc (.cells #[.slice (some ⟨wr.heap.size, 0, none⟩) 64 64] 22)).cell? ⟨w.heap.size + 1, 0, none⟩ = some nv := ((hD.blk.alloc _).alloc _).cell 0
          go_region_law ((refine step_append_src _ rfl _ _ 58 58 rfl w.heap.size 22 is (.slice none 0 0) 1 24 Try.underlying58 his hzs0 hzs1 hzs2 rfl (by decide) nv vs.length vs rfl hD2.on _ 1 _ rfl HS2.out (by unfold maxLen; omega) (by omega) hb2 ?_; intro v1 w1 h1 h2 h4 h3; obtain ⟨a1, c1, rfl⟩ := ownsRow_slice h1; have hD3 := hD2.app hR2 h1 h2 h3; have f1 : w1.cell? ⟨w.heap.size + 1, 0, none⟩ = some nv := (hD2.blk.keep (Keep.grown h2) (fun hm => (hD2.blk.ty.ne (hD2.on.ty _ (Option.mem_toList.1 hm)) (by decide)) rfl)).cell 0; have f2 := (hD2.blk.keep (Keep.grown h2) (fun hm => (hD2.blk.ty.ne (hD2.on.ty _ (Option.mem_toList.1 hm)) (by decide)) rfl)).free 0))
          all_goals
            go_wp2_with fail
            go_meet
            exact ⟨_, _, hD3⟩
        case rest =>
          obtain ⟨nv1, vs1, hE⟩ := hcut
          have hvl : us.length ≤ 2048 := by rw [hE.rf.1]; simp; omega
          have hD2 := ((hE.alloc (.cells zero64.toArray 5)).alloc (.cells #[.slice (some ⟨wc.heap.size, 0, none⟩) 64 64] 22)).drew
          have hR2 := row_new w wc hE.kp.size
          have HS2 := Lib.hid (src_row w wc)
          have hb2 := hD2.kp.size
          have f0 : wc.cell? ⟨w.heap.size + 1, 1, none⟩ = some fv := hE.blk.cell 1
          have f0a : (wc.alloc (.cells zero64.toArray 5)).cell? ⟨w.heap.size + 1, 1, none⟩ = some fv := (hE.blk.alloc _).cell 1
          have f0b : ((wc.alloc (.cells zero64.toArray 5)).alloc (.cells #[.slice (some ⟨wc.heap.size, 0, none⟩) 64 64] 22)).cell? ⟨w.heap.size + 1, 1, none⟩ = some fv := ((hE.blk.alloc _).alloc _).cell 1
          clear hD
          go_wp2_with fail
          go_region_law ((refine step_append_src _ rfl _ _ 58 58 rfl w.heap.size 22 is (.slice none 0 0) 1 24 Try.underlying58 his hzs0 hzs1 hzs2 rfl (by decide) fv us.length us rfl hD2.of _ 1 _ rfl HS2.out (by unfold maxLen; omega) (by omega) hb2 ?_; intro v1 w1 h1 h2 h4 h3; obtain ⟨a1, c1, rfl⟩ := ownsRow_slice h1; have hD3 := hD2.flip hR2 h1 h2 h3; have f1 : w1.cell? ⟨w.heap.size + 1, 1, none⟩ = some fv := (hD2.blk.keep (Keep.grown h2) (fun hm => (hD2.blk.ty.ne (hD2.of.ty _ (Option.mem_toList.1 hm)) (by decide)) rfl)).cell 1; have f2 := (hD2.blk.keep (Keep.grown h2) (fun hm => (hD2.blk.ty.ne (hD2.of.ty _ (Option.mem_toList.1 hm)) (by decide)) rfl)).free 1))
          all_goals
            go_wp2_with fail
            go_roundw
            case rel => exact ⟨j + 1, _, _, _, _, by omega, by go_num, hD3⟩
            case measure => simp [intOf]; omega
      · obtain rfl : j = k := by omega
        have HF := nd_end w wr j hk1 hk2 hD
        go_wp2_with fail
        go_ret
        obtain ⟨nb, fb, hf⟩ := HF
        exact ⟨w.heap.size + 1, nb, fb, w.heap.size, rfl, hf, hD.kp⟩
end Go.Proofs.Ythknelejcedhnaa
