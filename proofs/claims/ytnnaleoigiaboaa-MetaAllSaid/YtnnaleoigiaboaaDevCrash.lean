/- The contract of dev.Crash. -/
import Derived.Test.YtnnaleoigiaboaaLooseN
import Derived.Deep.DeepCutAuto
import Derived.Deep.CutBlock
namespace Go.Proofs.Ytnnaleoigiaboaa
open Go.ChangeShapes Go.WideShapes Go.ChangeAt Go.RowKit
set_option linter.unusedVariables false
set_option linter.unusedSimpArgs false

theorem fill_fold : ∀ (v : List Value) (k off : Nat) (cells : List Value), off + k + v.length ≤ cells.length →
    (v.zipIdx k).foldl (fun (cs : Array Value) (x : Value × Nat) => cs.setIfInBounds (off + x.2) x.1) cells.toArray = (over cells (off + k) v).toArray := by
  intro v
  induction v with
  | nil => intro k off cells _; simp [over_nil]
  | cons x v ih =>
    intro k off cells h
    simp only [List.length_cons] at h
    simp only [List.zipIdx_cons, List.foldl_cons]
    rw [List.setIfInBounds_toArray, ih (k + 1) off (cells.set (off + k) x) (by simp; omega), ← Nat.add_assoc off k 1, over_cons _ _ _ _ (by omega)]
theorem fill_one (place : Nat → Option (Nat × Nat)) (cells : List Value) (i : Nat) (v : List Value) (rest : List (Nat × Value)) (off : Nat) (hp : place i = some (off, v.length)) (hb : off + v.length ≤ cells.length) :
    Instr.fill place cells.toArray ((i, .agg v.toArray) :: rest) = Instr.fill place (over cells off v).toArray rest := by
  conv => lhs; unfold Instr.fill
  simp only [hp]
  rw [if_neg (by simp [Value.cells]; omega)]
  have h := fill_fold v 0 off cells (by omega)
  rw [Nat.add_zero] at h
  rw [← h]
  congr 1
  rw [← Array.foldl_toList]
  simp [Value.cells]
theorem over_twice (a b c d : List Value) (hc : c.length = a.length) (hd : d.length = b.length) (r : List Value) : over (over (a ++ (b ++ r)) 0 c) a.length d = c ++ (d ++ r) := by
  have e1 : over (a ++ (b ++ r)) 0 c = c ++ (b ++ r) := by
    unfold over
    rw [Nat.zero_add, hc, List.drop_left]; rfl
  rw [e1]
  unfold over
  rw [← hc, List.take_left, List.drop_append, List.drop_of_length_le (by omega), List.nil_append, show c.length + d.length - c.length = d.length by omega, hd, List.drop_left]

theorem Try.placesSec : (match Try.prog.underlying 71 with | some (.struct fs) => fs.toList.mapM (fun f => (Try.prog.info? f.type).map fun i => (f.offset, i.size)) | _ => none) = some [(0, 64), (64, 64), (128, 1)] := by kernel_rfl
theorem build_sec (x : List Nat) (hx : x.length = 64) (w : World) : (Instr.build 71 #[(0, .agg (bcs x).toArray), (1, .agg (bcs x).toArray)]).run Try.prog w = .ok (.agg (secCells ⟨x, x, false⟩).toArray) w := by
  refine run_build w _ _ _ ?_
  obtain ⟨i0, hi, hz0, hz1, hz2⟩ := info_parts Try.infoSec
  have hp := Try.placesSec
  unfold Program.built
  revert hp
  cases hu : Try.prog.underlying 71 with
  | none => intro hp; cases hp
  | some d =>
    cases d <;> try (intro hp; cases hp; done)
    case struct fs =>
      intro hp
      simp only at hp
      simp only [hi, hz0, hp, Value.cells]
      have hl : (bcs x).length = 64 := by rw [bcs_length, hx]
      have hz : (secCells zeroSec).length = 129 := secCells_length zeroSec_ok
      rw [fill_one _ _ 0 (bcs x) _ 0 (by simp [hl]) (by omega), fill_one _ _ 1 (bcs x) _ 64 (by simp [hl]) (by rw [over_length _ _ _ (by omega)]; omega)]
      have e := over_twice (bcs (List.replicate 64 0)) (bcs (List.replicate 64 0)) (bcs x) (bcs x) (by simp [hx]) (by simp [hx]) [.bool false]
      simp only [bcs_length, List.length_replicate] at e
      unfold Instr.fill
      show some (over (over (secCells zeroSec) 0 (bcs x)) 64 (bcs x)).toArray = _
      have e2 : secCells zeroSec = bcs (List.replicate 64 0) ++ (bcs (List.replicate 64 0) ++ [.bool false]) := rfl
      rw [e2, e]
      rfl

/-- What a crash leaves of sector i: keep says of the loose ones, one behind the other, whether they stay. -/
def crashNow (l : List Sec) (keep : List Bool) (i : Nat) : List Nat :=
  if (l.getD i zeroSec).loose && keep.getD (looseN (l.map Sec.loose) i).length false then (l.getD i zeroSec).now else (l.getD i zeroSec).lasts
def sec2 (x : List Nat) : Sec := ⟨x, x, false⟩
def crashN (l : List Sec) (keep : List Bool) (k : Nat) : List Sec := (List.range k).map fun i => sec2 (crashNow l keep i)
theorem crashN_succ (l : List Sec) (keep : List Bool) (k : Nat) : crashN l keep (k + 1) = crashN l keep k ++ [sec2 (crashNow l keep k)] := by
  simp [crashN, List.range_succ]
theorem crashN_step (l : List Sec) (keep : List Bool) (k n : Nat) (h : k < n) : (crashN l keep k ++ List.replicate (n - k) zeroSec).set k (sec2 (crashNow l keep k)) = crashN l keep (k + 1) ++ List.replicate (n - (k + 1)) zeroSec := by
  have hl : (crashN l keep k).length = k := by simp [crashN]
  rw [List.set_append, if_neg (by omega), hl, Nat.sub_self, show n - k = (n - (k + 1)) + 1 by omega, List.replicate_succ, List.set_cons_zero, crashN_succ, List.append_assoc]
  rfl
theorem crashNow_ok (l : List Sec) (keep : List Bool) (i : Nat) (h : ∀ s ∈ l, s.ok) : (sec2 (crashNow l keep i)).ok := by
  have hs : (l.getD i zeroSec).ok := by
    rw [List.getD_eq_getElem?_getD]
    cases hi : l[i]? with
    | none => exact zeroSec_ok
    | some s => exact h s (List.mem_of_getElem? hi)
  unfold crashNow
  split
  · exact ⟨hs.1, hs.1, hs.2.2.1, hs.2.2.1⟩
  · exact ⟨hs.2.1, hs.2.1, hs.2.2.2, hs.2.2.2⟩

theorem Try.size129 : (Try.prog.info? 71).map (·.size) = some 129 := by kernel_rfl
theorem run_zeroSec : ∀ W : World, (zeroValue 71).run Try.prog W = .ok (.agg (secCells zeroSec).toArray) W := by
  intro W
  obtain ⟨i0, hi, hz0, hz1, hz2⟩ := info_parts Try.infoSec
  simp [zeroValue, typeInfo, hi, hz0]
def z64 : List Nat := List.replicate 64 0
def zero64 : List Value := bcs (List.replicate 64 0)
theorem Try.info64u : (Try.prog.info? 69).map (fun i => (i.zero, i.size, i.bytes)) = some (some (.agg zero64.toArray), 64, 64) := by kernel_rfl
theorem run_zero64 : ∀ W : World, (zeroValue 69).run Try.prog W = .ok (.agg zero64.toArray) W := by
  intro W
  obtain ⟨i0, hi, hz0, hz1, hz2⟩ := info_parts Try.info64u
  simp [zeroValue, typeInfo, hi, hz0]
theorem secCells_one (s : Sec) : ∀ v ∈ secCells s, v.oneCell' = true := by
  intro v hv
  unfold secCells at hv
  rcases List.mem_append.1 hv with h | h
  · exact bcs_one _ v h
  · rcases List.mem_append.1 h with h | h
    · exact bcs_one _ v h
    · rw [List.mem_singleton.1 h]; rfl
theorem sec_lasts {w : World} {b : Nat} {s : Sec} {T : TypeId} (hok : s.ok) (h : Blk w b (secCells s) T) : w.rangeAt b 64 (bcs s.lasts) := by
  have hr := h.range 64 64
  have e : ((secCells s).drop 64).take 64 = bcs s.lasts := by
    unfold secCells
    rw [List.drop_left' (by rw [bcs_length, hok.1]), List.take_left' (by rw [bcs_length, hok.2.1])]
  rwa [e] at hr
theorem sec_now {w : World} {b : Nat} {s : Sec} {T : TypeId} (hok : s.ok) (h : Blk w b (secCells s) T) : w.rangeAt b 0 (bcs s.now) := by
  have hr := h.range 0 64
  have e : ((secCells s).drop 0).take 64 = bcs s.now := by
    unfold secCells
    rw [List.drop_zero, List.take_left' (by rw [bcs_length, hok.1])]
  rwa [e] at hr
theorem sec_loose {w : World} {b : Nat} {s : Sec} {T : TypeId} (hok : s.ok) (h : Blk w b (secCells s) T) : w.cell? ⟨b, 128, none⟩ = some (.bool s.loose) := by
  rw [h.cell]
  unfold secCells
  have h1 := hok.1
  have h2 := hok.2.1
  rw [List.getElem?_append_right (by simp; omega), List.getElem?_append_right (by simp; omega)]
  simp [h1, h2]
def DevS (cb csb xb k : Nat) (v : Value) (cs : List Value) (W : World) : Prop := W.cell? ⟨cb, 0, none⟩ = some v ∧ W.rangeAt xb 0 cs ∧ W.there csb (k * 129) 129
set_option maxRecDepth 100000 in
set_option maxHeartbeats 1000000 in
theorem Crash_any {w : World} {b sb : Nat} {l : List Sec} {c : Nat} (h : IsDev w b sb l c) (kv : Value) (keep : List Bool) (hkeep : Rv w 1 kv keep.length (bools keep)) (hkl : keep.length ≤ 9223372036854775807) :
    Calls Try.prog 23 #[.pointer (some ⟨b, 0, none⟩), kv] w fun e w' => ∃ b' sb', e = .returned (.pointer (some ⟨b', 0, none⟩)) ∧ IsDev w' b' sb' (crashN l keep l.length) 0 ∧ Keep [] w w' ∧ w.heap.size ≤ b' ∧ w.heap.size ≤ sb' := by
  have g0 := h.dev.cell 0
  simp only [List.getElem?_cons_zero] at g0
  have hmx := h.max
  have hps := h.pos
  go_enter Try.func23, Try.ntmps23
  go_wp2_with fail
  refine (New_any (l.length : Int) l.length (by omega)).mono ?_
  rintro e w1 ⟨cb, csb, rfl, hC, hK1, hb1, hsb1⟩
  have hD1 := h.keep hK1 (by simp) (by simp)
  have g1 := hD1.dev.cell 0
  simp only [List.getElem?_cons_zero] at g1
  go_wp2_with fail
  go_loopg [6, 23] l.length (fun g j i wr => ∃ k : Nat, g = l.length - k ∧ k ≤ l.length ∧ i = .int .i64 k ∧ j = .int .i64 ((looseN (l.map Sec.loose) k).length : Int) ∧ IsDev wr cb csb (crashN l keep k ++ List.replicate (l.length - k) zeroSec) 0 ∧ Keep [] w wr)
  case atStart => exact ⟨0, rfl, by omega, rfl, rfl, by simpa [crashN] using hC, hK1⟩
  case round =>
    obtain ⟨k, hg, hk, rfl, rfl, hC, hK⟩ := hrel
    have HG := Lib.hid hg
    clear hg
    have hD := h.keep hK (by simp) (by simp)
    have f0 := hC.dev.cell 0
    simp only [List.getElem?_cons_zero] at f0
    have hcl : (crashN l keep k ++ List.replicate (l.length - k) zeroSec).length = l.length := by simp [crashN]; omega
    rw [hcl] at f0
    by_cases hlt : k < l.length
    · obtain ⟨s, hs, hsm⟩ := sec_mem hlt
      have hok := h.ok s hsm
      have q0 : (k : Int) < l.length := by omega
      have hr1 := hD.secs.range (k * 129) 129
      have e1 := devCells_range h.ok k s hs 0 129 (by omega)
      have hl129 := secCells_length hok
      rw [Nat.add_zero] at e1
      rw [e1, List.drop_zero, List.take_of_length_le (Nat.le_of_eq hl129)] at hr1
      have hi79 : (Try.prog.info? 71).map (·.size) = some (secCells s).length := by rw [Try.size129, hl129]
      have hi77 : (Try.prog.info? 69).map (·.size) = some (bcs s.lasts).length := by rw [Try.size64, bcs_length, hok.2.1]
      have hi77n : (Try.prog.info? 69).map (·.size) = some (bcs s.now).length := by rw [Try.size64, bcs_length, hok.1]
      have hz79 : ∀ W : World, (zeroValue 71).run Try.prog W = .ok (.agg (secCells zeroSec).toArray) W := run_zeroSec
      have hz77 : ∀ W : World, (zeroValue 69).run Try.prog W = .ok (.agg zero64.toArray) W := run_zero64
      have hll : (secCells zeroSec).length = (secCells s).length := by rw [hl129, secCells_length zeroSec_ok]
      have hl64 : zero64.length = (bcs s.lasts).length := by rw [bcs_length, hok.2.1]; rfl
      have hln : (bcs s.lasts).length = (bcs s.now).length := by rw [bcs_length, bcs_length, hok.1, hok.2.1]
      have HU := Lib.hid Try.underlying71
      have HU77 := Lib.hid Try.underlying69
      have HI := Lib.hid hi79
      have HI77 := Lib.hid hi77
      have HI77n := Lib.hid hi77n
      have HR := Lib.hid hr1
      have HLL := Lib.hid hll
      have HL64 := Lib.hid hl64
      have HLN := Lib.hid hln
      have h1s := Lib.hid (secCells_one s)
      have h1l := Lib.hid (bcs_one s.lasts)
      have h1n := Lib.hid (bcs_one s.now)
      have hcn : looseN (l.map Sec.loose) (k + 1) = looseN (l.map Sec.loose) k ++ if s.loose then [(k : Int)] else [] := by
        rw [looseN_succ]; simp [List.getD_eq_getElem?_getD, hs]
      have hcw : crashNow l keep k = if s.loose && keep.getD (looseN (l.map Sec.loose) k).length false then s.now else s.lasts := by
        unfold crashNow; simp [List.getD_eq_getElem?_getD, hs]
      have HCN := Lib.hid hcn
      have HCW := Lib.hid hcw
      clear hr1 hi79 hi77 e1 hl129 hll hl64 hi77n hln hcn hcw
      have hcs := hC.secs.lt
      have hcb := hC.dev.lt
      have hcnt := looseN_len (l.map Sec.loose) k
      go_upto_if 31 with (first
        | (refine wpList_load_mid rfl 71 _ rfl sb (k * 129) rfl (secCells s) _ HR.out HU.out rfl HI.out ?_)
        | (refine wpList_store_blk rfl 71 _ _ rfl wr.heap.size (secCells zeroSec) (secCells s) 71 rfl rfl (Blk.new _ _ _) HLL.out HI.out h1s.out ?_; intro w2 hB2 hK2; have hK2' := ((Keep.refl [] wr).alloc _).then hK2 (by simp); have HR2 := Lib.hid (sec_lasts hok hB2))
        | (refine wpList_load_mid rfl 69 _ rfl wr.heap.size 64 rfl (bcs s.lasts) _ HR2.out HU77.out rfl HI77.out ?_)
        | (refine wpList_store_blk rfl 69 _ _ rfl w2.heap.size zero64 (bcs s.lasts) 69 rfl rfl (Blk.new _ _ _) HL64.out HI77.out h1l.out ?_; intro w3 hB3 hK3; have hlt2 := hB2.lt; have hK3' := ((Keep.refl [] w2).alloc _).then hK3 (by simp); have hB23 := hB2.keep hK3' (by simp); have g9 := sec_loose hok hB23))
      go_cut [6, 9] (fun s6 s9 wx => ∃ xb : Nat, s9 = .pointer (some ⟨xb, 0, none⟩) ∧ Blk wx xb (bcs (crashNow l keep k)) 69 ∧ Keep [] wr wx ∧ wr.heap.size ≤ xb ∧ s6 = .int .i64 ((looseN (l.map Sec.loose) (k + 1)).length : Int))
      case first =>
        have hKw3 := hK2'.trans hK3'
        have hKa : Keep [] w w3 := hK.trans hKw3
        cases hso : s.loose with
        | false =>
          rw [hso] at g9
          have HS := Lib.hid hso
          clear hso
          go_wp2_with fail
          go_meet
          exact ⟨w2.heap.size, rfl, by rw [HCW.out, HS.out]; exact hB3, hKw3, hK2'.size, by rw [HCN.out, HS.out]; simp⟩
        | true =>
          rw [hso] at g9
          have HS := Lib.hid hso
          clear hso
          by_cases hj : (looseN (l.map Sec.loose) k).length < keep.length
          · obtain ⟨ks, ko, kcap, rfl, hkc, hks, hat⟩ := hkeep.at1 (by omega)
            have g10 : w3.cell? ⟨ks, ko + (looseN (l.map Sec.loose) k).length, none⟩ = some (.bool (keep.getD (looseN (l.map Sec.loose) k).length false)) := by
              rw [hKa.cell hks (by simp), hat _ hj, bools_at keep _ hj]
            have q1 : ((looseN (l.map Sec.loose) k).length : Int) < keep.length := by omega
            have q2 : decide ((looseN (l.map Sec.loose) k).length < keep.length) = true := by simpa using hj
            clear hat
            cases hkj : keep.getD (looseN (l.map Sec.loose) k).length false with
            | false =>
              rw [hkj] at g10
              have HK := Lib.hid hkj
              clear hkj
              go_wp2_with fail
              go_meet
              exact ⟨w2.heap.size, rfl, by rw [HCW.out, HS.out, HK.out]; exact hB3, hKw3, hK2'.size, by rw [HCN.out, HS.out]; simp⟩
            | true =>
              rw [hkj] at g10
              have HK := Lib.hid hkj
              clear hkj
              have HR3 := Lib.hid (sec_now hok hB23)
              go_wp2_with (first
                | (refine wpList_load_mid rfl 69 _ rfl wr.heap.size 0 rfl (bcs s.now) _ HR3.out HU77.out rfl HI77n.out ?_)
                | (refine wpList_store_blk rfl 69 _ _ rfl w2.heap.size (bcs s.lasts) (bcs s.now) 69 rfl rfl hB3 HLN.out HI77n.out h1n.out ?_; intro w4 hB4 hK4))
              go_meet
              exact ⟨w2.heap.size, rfl, by rw [HCW.out, HS.out, HK.out]; exact hB4, hKw3.then hK4 (by have := hK2'.size; simp; omega), hK2'.size, by rw [HCN.out, HS.out]; simp⟩
          · have q2 : decide ((looseN (l.map Sec.loose) k).length < keep.length) = false := by simpa using hj
            have HG2 := Lib.hid (show keep.getD (looseN (l.map Sec.loose) k).length false = false by simp [List.getD_eq_getElem?_getD, List.getElem?_eq_none (Nat.le_of_not_lt hj)])
            obtain ⟨_, ka, kcap, rfl, _⟩ := id hkeep
            go_wp2_with fail
            go_meet
            exact ⟨w2.heap.size, rfl, by rw [HCW.out, HS.out, HG2.out]; exact hB3, hKw3, hK2'.size, by rw [HCN.out, HS.out]; simp⟩
      case rest =>
        obtain ⟨xb, rfl, hBx, hKx, hxb, rfl⟩ := hcut
        have hCx := hC.keep hKx (by simp) (by simp)
        have p0 := hCx.dev.cell 0
        simp only [List.getElem?_cons_zero] at p0
        rw [hcl] at p0
        have hst := crashN_step l keep k l.length hlt
        have hox := crashNow_ok l keep k h.ok
        have ST := Lib.hid hst
        clear hst
        generalize crashNow l keep k = x at *
        have hlx : x.length = 64 := hox.1
        have hsl := secCells_length hox
        have hp1 : wc.rangeAt xb 0 (bcs x) := by
          have := hBx.range 0 64
          rwa [List.drop_zero, List.take_of_length_le (by rw [bcs_length, hlx]; omega)] at this
        have hdl := devCells_length hCx.ok
        rw [hcl] at hdl
        have hp2 : wc.there csb (k * 129) 129 := hCx.secs.there _ _ (by omega)
        have hz : (crashN l keep k ++ List.replicate (l.length - k) zeroSec)[k]? = some zeroSec := by
          rw [List.getElem?_append_right (by simp [crashN])]
          simp [crashN, List.getElem?_replicate]; omega
        have hfin : Blk (wc.drew.setCells csb (k * 129) (secCells (sec2 x))) csb (devCells (crashN l keep (k + 1) ++ List.replicate (l.length - (k + 1)) zeroSec)) 71 := by
          have h1 := (hCx.secs.drew).setCells (secCells (sec2 x)) (k * 129) wc.drew _ (by omega)
          have ov : over (secCells zeroSec) 0 (secCells (sec2 x)) = secCells (sec2 x) := by
            unfold over
            rw [List.drop_of_length_le (by rw [secCells_length zeroSec_ok]; omega)]
            simp
          have h2 := devCells_over hCx.ok k zeroSec (sec2 x) hz hox 0 (secCells (sec2 x)) (by omega) ov
          rw [Nat.add_zero] at h2
          rw [h2, ST.out] at h1
          exact h1
        have hfk : Keep [csb] wc (wc.drew.setCells csb (k * 129) (secCells (sec2 x))) := Keep.setCells _ _ _ _ (Keep.refl _ _).drew (.inl (by simp))
        have hbd : ∀ W : World, (Instr.build 71 #[(0, .agg (bcs x).toArray), (1, .agg (bcs x).toArray)]).run Try.prog W = .ok (.agg (secCells (sec2 x)).toArray) W := build_sec x hlx
        have hi77x : (Try.prog.info? 69).map (·.size) = some (bcs x).length := by rw [Try.size64, bcs_length, hlx]
        have hi79x : (Try.prog.info? 71).map (·.size) = some (secCells (sec2 x)).length := by rw [Try.size129, hsl]
        have hl64x : (bcs x).length = 64 := by rw [bcs_length, hlx]
        have hx1 := bcs_one x
        have hx2 := secCells_one (sec2 x)
        have hu77 := Try.underlying69
        have hu79 := Try.underlying71
        have hokn : ∀ t ∈ crashN l keep (k + 1) ++ List.replicate (l.length - (k + 1)) zeroSec, t.ok := by
          rw [← ST.out]; exact mem_set_ok hC.ok _ _ hox
        have hlnn : (crashN l keep (k + 1) ++ List.replicate (l.length - (k + 1)) zeroSec).length = l.length := by
          rw [← ST.out, List.length_set]; exact hcl
        have HF := Lib.hid hfin
        have HFK := Lib.hid hfk
        have HOX := Lib.hid hox
        have HCL := Lib.hid hcl
        have HON := Lib.hid hokn
        have HLN2 := Lib.hid hlnn
        have hcne := hC.ne
        have hxne : xb ≠ csb := by omega
        have S0 : DevS cb csb xb k (.slice (some ⟨csb, 0, none⟩) l.length l.length) (bcs x) wc.drew := ⟨p0, hp1, hp2⟩
        have HP2 := Lib.hid (show wc.drew.there csb (k * 129) (secCells (sec2 x)).toArray.size by rw [List.size_toArray, hsl]; exact hp2)
        have HI79 := Lib.hid (show (Try.prog.info? 71).map (·.size) = some (secCells (sec2 x)).toArray.size by rw [List.size_toArray]; exact hi79x)
        have HO1 := Lib.hid (all_oneCell_toArray hx2)
        clear hi79x hx2 hp2 hx1 hl64x
        clear hfin hfk hox hcl hokn hlnn hz hdl HU HU77 HI HI77 HI77n HR HLL HL64 HLN h1s h1l h1n HCN HCW hK2 hK2' HR2 hK3 hlt2 hK3' hB23 g9 hB2 hB3 hz79 hz77 hD1 g1
        go_wp2_with fail
        refine wp_region_still_tail 9 (by kernel_rfl) (by kernel_rfl) ?_
        simp only [List.take_succ_cons, List.take_zero, List.drop_succ_cons, List.drop_zero]
        repeat (first | (refine wpStill_load_mid rfl 69 _ rfl xb 0 rfl (bcs x) _ hp1 hu77 rfl hi77x ?_; simp only [Act.put, List.setIfInBounds_toArray, List.set_cons_zero, List.set_cons_succ]) | still_step)
        refine wpStill_build rfl 71 _ rfl #[(0, .agg (bcs x).toArray), (1, .agg (bcs x).toArray)] (by go_simp) _ (hbd _) ?_
        simp only [Act.put, List.setIfInBounds_toArray, List.set_cons_zero, List.set_cons_succ]
        repeat still_step
        refine wpStill_nil ?_
        go_wp2_with (refine wpList_store_mid rfl 71 _ _ rfl csb (k * 129) (secCells (sec2 x)).toArray rfl rfl HP2.out HI79.out HO1.out ?_)
        go_roundg (l.length - (k + 1))
        case measure => rw [HG.out]; omega
        case rel =>
          refine ⟨k + 1, rfl, by omega, by go_num, rfl, ⟨?_, ?_, hC.ne, HON.out, by rw [HLN2.out]; exact hps, by rw [HLN2.out]; exact hmx, by omega⟩, ?_⟩
          · rw [HLN2.out]
            have := hCx.dev.keep HFK.out (by simpa using hC.ne)
            rwa [HCL.out] at this
          · simpa using HF.out
          · have := (hK.trans hKx).then HFK.out (by simp; omega)
            simpa using this
    · obtain rfl : k = l.length := by omega
      rw [Nat.sub_self, List.replicate_zero, List.append_nil] at hC
      go_wp2_with fail
      go_ret
      exact ⟨cb, csb, rfl, hC, hK, hb1, hsb1⟩
end Go.Proofs.Ytnnaleoigiaboaa
