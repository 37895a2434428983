/- DevCrash, Super, SuperW, Super2 -/
import Derived.Test.YtcoaobdijlppgaaG3
import Derived.Test.YtcoaobdijlppgaaG6
import Derived.Deep.DeepCutAuto
import Derived.Deep.CutBlock
import Derived.Deep.RegionWith
/- The contract of dev.Crash. -/
namespace Go.Proofs.Ytcoaobdijlppgaa
open Go.ChangeShapes Go.WideShapes Go.ChangeAt Go.RowKit
set_option linter.unusedVariables false
set_option linter.unusedSimpArgs false
set_option maxRecDepth 100000

theorem fill_fold : ∀ (v : List Value) (k off : Nat) (cells : List Value), off + k + v.length ≤ cells.length →
    (v.zipIdx k).foldl (fun (cs : Array Value) (x : Value × Nat) => cs.setIfInBounds (off + x.2) x.1) cells.toArray = (over cells (off + k) v).toArray := by
  intro v
  induction v with
  | nil => intro k off cells _; simp [over_nil]
  | cons x v ih =>
    intro k off cells h
    simp only [List.length_cons] at h
    simp only [List.zipIdx_cons, List.foldl_cons]
    rw [List.setIfInBounds_toArray, ih (k + 1) off (cells.set (off + k) x) (by simp; omega), ← Nat.add_assoc off k 1, over_cons _ _ _ _ (by omega)]
theorem fill_one (place : Nat → Option (Nat × Nat)) (cells : List Value) (i : Nat) (v : List Value) (rest : List (Nat × Value)) (off : Nat) (hp : place i = some (off, v.length)) (hb : off + v.length ≤ cells.length) :
    Instr.fill place cells.toArray ((i, .agg v.toArray) :: rest) = Instr.fill place (over cells off v).toArray rest := by
  conv => lhs; unfold Instr.fill
  simp only [hp]
  rw [if_neg (by simp [Value.cells]; omega)]
  have h := fill_fold v 0 off cells (by omega)
  rw [Nat.add_zero] at h
  rw [← h]
  congr 1
  rw [← Array.foldl_toList]
  simp [Value.cells]
theorem over_twice (a b c d : List Value) (hc : c.length = a.length) (hd : d.length = b.length) (r : List Value) : over (over (a ++ (b ++ r)) 0 c) a.length d = c ++ (d ++ r) := by
  have e1 : over (a ++ (b ++ r)) 0 c = c ++ (b ++ r) := by
    unfold over
    rw [Nat.zero_add, hc, List.drop_left]; rfl
  rw [e1]
  unfold over
  rw [← hc, List.take_left, List.drop_append, List.drop_of_length_le (by omega), List.nil_append, show c.length + d.length - c.length = d.length by omega, hd, List.drop_left]

theorem Try.placesSec : (match Try.prog.underlying 85 with | some (.struct fs) => fs.toList.mapM (fun f => (Try.prog.info? f.type).map fun i => (f.offset, i.size)) | _ => none) = some [(0, 64), (64, 64), (128, 1)] := by kernel_rfl
theorem build_sec (x : List Nat) (hx : x.length = 64) (w : World) : (Instr.build 85 #[(0, .agg (bcs x).toArray), (1, .agg (bcs x).toArray)]).run Try.prog w = .ok (.agg (secCells ⟨x, x, false⟩).toArray) w := by
  refine run_build w _ _ _ ?_
  obtain ⟨i0, hi, hz0, hz1, hz2⟩ := info_parts Try.infoSec
  have hp := Try.placesSec
  unfold Program.built
  revert hp
  cases hu : Try.prog.underlying 85 with
  | none => intro hp; cases hp
  | some d =>
    cases d <;> try (intro hp; cases hp; done)
    case struct fs =>
      intro hp
      simp only at hp
      simp only [hi, hz0, hp, Value.cells]
      have hl : (bcs x).length = 64 := by rw [bcs_length, hx]
      have hz : (secCells zeroSec).length = 129 := secCells_length zeroSec_ok
      rw [fill_one _ _ 0 (bcs x) _ 0 (by simp [hl]) (by omega), fill_one _ _ 1 (bcs x) _ 64 (by simp [hl]) (by rw [over_length _ _ _ (by omega)]; omega)]
      have e := over_twice (bcs (List.replicate 64 0)) (bcs (List.replicate 64 0)) (bcs x) (bcs x) (by simp [hx]) (by simp [hx]) [.bool false]
      simp only [bcs_length, List.length_replicate] at e
      unfold Instr.fill
      show some (over (over (secCells zeroSec) 0 (bcs x)) 64 (bcs x)).toArray = _
      have e2 : secCells zeroSec = bcs (List.replicate 64 0) ++ (bcs (List.replicate 64 0) ++ [.bool false]) := rfl
      rw [e2, e]
      rfl

/-- What a crash leaves of sector i: keep says of the loose ones, one behind the other, whether they stay. -/
def crashNow (l : List Sec) (keep : List Bool) (i : Nat) : List Nat :=
  if (l.getD i zeroSec).loose && keep.getD (looseN (l.map Sec.loose) i).length false then (l.getD i zeroSec).now else (l.getD i zeroSec).lasts
def sec2 (x : List Nat) : Sec := ⟨x, x, false⟩
def crashN (l : List Sec) (keep : List Bool) (k : Nat) : List Sec := (List.range k).map fun i => sec2 (crashNow l keep i)
theorem crashN_succ (l : List Sec) (keep : List Bool) (k : Nat) : crashN l keep (k + 1) = crashN l keep k ++ [sec2 (crashNow l keep k)] := by
  simp [crashN, List.range_succ]
theorem crashN_step (l : List Sec) (keep : List Bool) (k n : Nat) (h : k < n) : (crashN l keep k ++ List.replicate (n - k) zeroSec).set k (sec2 (crashNow l keep k)) = crashN l keep (k + 1) ++ List.replicate (n - (k + 1)) zeroSec := by
  have hl : (crashN l keep k).length = k := by simp [crashN]
  rw [List.set_append, if_neg (by omega), hl, Nat.sub_self, show n - k = (n - (k + 1)) + 1 by omega, List.replicate_succ, List.set_cons_zero, crashN_succ, List.append_assoc]
  rfl
theorem crashNow_ok (l : List Sec) (keep : List Bool) (i : Nat) (h : ∀ s ∈ l, s.ok) : (sec2 (crashNow l keep i)).ok := by
  have hs : (l.getD i zeroSec).ok := by
    rw [List.getD_eq_getElem?_getD]
    cases hi : l[i]? with
    | none => exact zeroSec_ok
    | some s => exact h s (List.mem_of_getElem? hi)
  unfold crashNow
  split
  · exact ⟨hs.1, hs.1, hs.2.2.1, hs.2.2.1⟩
  · exact ⟨hs.2.1, hs.2.1, hs.2.2.2, hs.2.2.2⟩

theorem Try.size129 : (Try.prog.info? 85).map (·.size) = some 129 := by kernel_rfl
theorem run_zeroSec : ∀ W : World, (zeroValue 85).run Try.prog W = .ok (.agg (secCells zeroSec).toArray) W := by
  intro W
  obtain ⟨i0, hi, hz0, hz1, hz2⟩ := info_parts Try.infoSec
  simp [zeroValue, typeInfo, hi, hz0]
def z64 : List Nat := List.replicate 64 0
def zero64 : List Value := bcs (List.replicate 64 0)
theorem Try.info64u : (Try.prog.info? 83).map (fun i => (i.zero, i.size, i.bytes)) = some (some (.agg zero64.toArray), 64, 64) := by kernel_rfl
theorem run_zero64 : ∀ W : World, (zeroValue 83).run Try.prog W = .ok (.agg zero64.toArray) W := by
  intro W
  obtain ⟨i0, hi, hz0, hz1, hz2⟩ := info_parts Try.info64u
  simp [zeroValue, typeInfo, hi, hz0]
theorem secCells_one (s : Sec) : ∀ v ∈ secCells s, v.oneCell' = true := by
  intro v hv
  unfold secCells at hv
  rcases List.mem_append.1 hv with h | h
  · exact bcs_one _ v h
  · rcases List.mem_append.1 h with h | h
    · exact bcs_one _ v h
    · rw [List.mem_singleton.1 h]; rfl
theorem sec_lasts {w : World} {b : Nat} {s : Sec} {T : TypeId} (hok : s.ok) (h : Blk w b (secCells s) T) : w.rangeAt b 64 (bcs s.lasts) := by
  have hr := h.range 64 64
  have e : ((secCells s).drop 64).take 64 = bcs s.lasts := by
    unfold secCells
    rw [List.drop_left' (by rw [bcs_length, hok.1]), List.take_left' (by rw [bcs_length, hok.2.1])]
  rwa [e] at hr
theorem sec_now {w : World} {b : Nat} {s : Sec} {T : TypeId} (hok : s.ok) (h : Blk w b (secCells s) T) : w.rangeAt b 0 (bcs s.now) := by
  have hr := h.range 0 64
  have e : ((secCells s).drop 0).take 64 = bcs s.now := by
    unfold secCells
    rw [List.drop_zero, List.take_left' (by rw [bcs_length, hok.1])]
  rwa [e] at hr
theorem sec_loose {w : World} {b : Nat} {s : Sec} {T : TypeId} (hok : s.ok) (h : Blk w b (secCells s) T) : w.cell? ⟨b, 128, none⟩ = some (.bool s.loose) := by
  rw [h.cell]
  unfold secCells
  have h1 := hok.1
  have h2 := hok.2.1
  rw [List.getElem?_append_right (by simp; omega), List.getElem?_append_right (by simp; omega)]
  simp [h1, h2]
def DevS (cb csb xb k : Nat) (v : Value) (cs : List Value) (W : World) : Prop := W.cell? ⟨cb, 0, none⟩ = some v ∧ W.rangeAt xb 0 cs ∧ W.there csb (k * 129) 129
set_option maxRecDepth 100000 in
set_option maxHeartbeats 1000000 in
theorem Crash_any {w : World} {b sb : Nat} {l : List Sec} {c : Nat} (h : IsDev w b sb l c) (kv : Value) (keep : List Bool) (hkeep : Rv w 1 kv keep.length (bools keep)) (hkl : keep.length ≤ 9223372036854775807) :
    Calls Try.prog 19 #[.pointer (some ⟨b, 0, none⟩), kv] w fun e w' => ∃ b' sb', e = .returned (.pointer (some ⟨b', 0, none⟩)) ∧ IsDev w' b' sb' (crashN l keep l.length) 0 ∧ Keep [] w w' ∧ w.heap.size ≤ b' ∧ w.heap.size ≤ sb' := by
  have g0 := h.dev.cell 0
  simp only [List.getElem?_cons_zero] at g0
  have hmx := h.max
  have hps := h.pos
  go_enter Try.func19, Try.ntmps19
  go_wp2_with fail
  refine (New_any (l.length : Int) l.length (by omega)).mono ?_
  rintro e w1 ⟨cb, csb, rfl, hC, hK1, hb1, hsb1⟩
  have hD1 := h.keep hK1 (by simp) (by simp)
  have g1 := hD1.dev.cell 0
  simp only [List.getElem?_cons_zero] at g1
  go_wp2_with fail
  go_loopg [6, 23] l.length (fun g j i wr => ∃ k : Nat, g = l.length - k ∧ k ≤ l.length ∧ i = .int .i64 k ∧ j = .int .i64 ((looseN (l.map Sec.loose) k).length : Int) ∧ IsDev wr cb csb (crashN l keep k ++ List.replicate (l.length - k) zeroSec) 0 ∧ Keep [] w wr)
  case atStart => exact ⟨0, rfl, by omega, rfl, rfl, by simpa [crashN] using hC, hK1⟩
  case round =>
    obtain ⟨k, hg, hk, rfl, rfl, hC, hK⟩ := hrel
    have HG := Lib.hid hg
    clear hg
    have hD := h.keep hK (by simp) (by simp)
    have f0 := hC.dev.cell 0
    simp only [List.getElem?_cons_zero] at f0
    have hcl : (crashN l keep k ++ List.replicate (l.length - k) zeroSec).length = l.length := by simp [crashN]; omega
    rw [hcl] at f0
    by_cases hlt : k < l.length
    · obtain ⟨s, hs, hsm⟩ := sec_mem hlt
      have hok := h.ok s hsm
      have q0 : (k : Int) < l.length := by omega
      have hr1 := hD.secs.range (k * 129) 129
      have e1 := devCells_range h.ok k s hs 0 129 (by omega)
      have hl129 := secCells_length hok
      rw [Nat.add_zero] at e1
      rw [e1, List.drop_zero, List.take_of_length_le (Nat.le_of_eq hl129)] at hr1
      have hi79 : (Try.prog.info? 85).map (·.size) = some (secCells s).length := by rw [Try.size129, hl129]
      have hi77 : (Try.prog.info? 83).map (·.size) = some (bcs s.lasts).length := by rw [Try.size64, bcs_length, hok.2.1]
      have hi77n : (Try.prog.info? 83).map (·.size) = some (bcs s.now).length := by rw [Try.size64, bcs_length, hok.1]
      have hz79 : ∀ W : World, (zeroValue 85).run Try.prog W = .ok (.agg (secCells zeroSec).toArray) W := run_zeroSec
      have hz77 : ∀ W : World, (zeroValue 83).run Try.prog W = .ok (.agg zero64.toArray) W := run_zero64
      have hll : (secCells zeroSec).length = (secCells s).length := by rw [hl129, secCells_length zeroSec_ok]
      have hl64 : zero64.length = (bcs s.lasts).length := by rw [bcs_length, hok.2.1]; rfl
      have hln : (bcs s.lasts).length = (bcs s.now).length := by rw [bcs_length, bcs_length, hok.1, hok.2.1]
      have HU := Lib.hid Try.underlying85
      have HU77 := Lib.hid Try.underlying83
      have HI := Lib.hid hi79
      have HI77 := Lib.hid hi77
      have HI77n := Lib.hid hi77n
      have HR := Lib.hid hr1
      have HLL := Lib.hid hll
      have HL64 := Lib.hid hl64
      have HLN := Lib.hid hln
      have h1s := Lib.hid (secCells_one s)
      have h1l := Lib.hid (bcs_one s.lasts)
      have h1n := Lib.hid (bcs_one s.now)
      have hcn : looseN (l.map Sec.loose) (k + 1) = looseN (l.map Sec.loose) k ++ if s.loose then [(k : Int)] else [] := by
        rw [looseN_succ]; simp [List.getD_eq_getElem?_getD, hs]
      have hcw : crashNow l keep k = if s.loose && keep.getD (looseN (l.map Sec.loose) k).length false then s.now else s.lasts := by
        unfold crashNow; simp [List.getD_eq_getElem?_getD, hs]
      have HCN := Lib.hid hcn
      have HCW := Lib.hid hcw
      clear hr1 hi79 hi77 e1 hl129 hll hl64 hi77n hln hcn hcw
      have hcs := hC.secs.lt
      have hcb := hC.dev.lt
      have hcnt := looseN_len (l.map Sec.loose) k
      go_upto_if 31 with (first
        | (refine wpList_load_mid rfl 85 _ rfl sb (k * 129) rfl (secCells s) _ HR.out HU.out rfl HI.out ?_)
        | (refine wpList_store_blk rfl 85 _ _ rfl wr.heap.size (secCells zeroSec) (secCells s) 85 rfl rfl (Blk.new _ _ _) HLL.out HI.out h1s.out ?_; intro w2 hB2 hK2; have hK2' := ((Keep.refl [] wr).alloc _).then hK2 (by simp); have HR2 := Lib.hid (sec_lasts hok hB2))
        | (refine wpList_load_mid rfl 83 _ rfl wr.heap.size 64 rfl (bcs s.lasts) _ HR2.out HU77.out rfl HI77.out ?_)
        | (refine wpList_store_blk rfl 83 _ _ rfl w2.heap.size zero64 (bcs s.lasts) 83 rfl rfl (Blk.new _ _ _) HL64.out HI77.out h1l.out ?_; intro w3 hB3 hK3; have hlt2 := hB2.lt; have hK3' := ((Keep.refl [] w2).alloc _).then hK3 (by simp); have hB23 := hB2.keep hK3' (by simp); have g9 := sec_loose hok hB23))
      go_cut [6, 9] (fun s6 s9 wx => ∃ xb : Nat, s9 = .pointer (some ⟨xb, 0, none⟩) ∧ Blk wx xb (bcs (crashNow l keep k)) 83 ∧ Keep [] wr wx ∧ wr.heap.size ≤ xb ∧ s6 = .int .i64 ((looseN (l.map Sec.loose) (k + 1)).length : Int))
      case first =>
        have hKw3 := hK2'.trans hK3'
        have hKa : Keep [] w w3 := hK.trans hKw3
        cases hso : s.loose with
        | false =>
          rw [hso] at g9
          have HS := Lib.hid hso
          clear hso
          go_wp2_with fail
          go_meet
          exact ⟨w2.heap.size, rfl, by rw [HCW.out, HS.out]; exact hB3, hKw3, hK2'.size, by rw [HCN.out, HS.out]; simp⟩
        | true =>
          rw [hso] at g9
          have HS := Lib.hid hso
          clear hso
          by_cases hj : (looseN (l.map Sec.loose) k).length < keep.length
          · obtain ⟨ks, ko, kcap, rfl, hkc, hks, hat⟩ := hkeep.at1 (by omega)
            have g10 : w3.cell? ⟨ks, ko + (looseN (l.map Sec.loose) k).length, none⟩ = some (.bool (keep.getD (looseN (l.map Sec.loose) k).length false)) := by
              rw [hKa.cell hks (by simp), hat _ hj, bools_at keep _ hj]
            have q1 : ((looseN (l.map Sec.loose) k).length : Int) < keep.length := by omega
            have q2 : decide ((looseN (l.map Sec.loose) k).length < keep.length) = true := by simpa using hj
            clear hat
            cases hkj : keep.getD (looseN (l.map Sec.loose) k).length false with
            | false =>
              rw [hkj] at g10
              have HK := Lib.hid hkj
              clear hkj
              go_wp2_with fail
              go_meet
              exact ⟨w2.heap.size, rfl, by rw [HCW.out, HS.out, HK.out]; exact hB3, hKw3, hK2'.size, by rw [HCN.out, HS.out]; simp⟩
            | true =>
              rw [hkj] at g10
              have HK := Lib.hid hkj
              clear hkj
              have HR3 := Lib.hid (sec_now hok hB23)
              go_wp2_with (first
                | (refine wpList_load_mid rfl 83 _ rfl wr.heap.size 0 rfl (bcs s.now) _ HR3.out HU77.out rfl HI77n.out ?_)
                | (refine wpList_store_blk rfl 83 _ _ rfl w2.heap.size (bcs s.lasts) (bcs s.now) 83 rfl rfl hB3 HLN.out HI77n.out h1n.out ?_; intro w4 hB4 hK4))
              go_meet
              exact ⟨w2.heap.size, rfl, by rw [HCW.out, HS.out, HK.out]; exact hB4, hKw3.then hK4 (by have := hK2'.size; simp; omega), hK2'.size, by rw [HCN.out, HS.out]; simp⟩
          · have q2 : decide ((looseN (l.map Sec.loose) k).length < keep.length) = false := by simpa using hj
            have HG2 := Lib.hid (show keep.getD (looseN (l.map Sec.loose) k).length false = false by simp [List.getD_eq_getElem?_getD, List.getElem?_eq_none (Nat.le_of_not_lt hj)])
            obtain ⟨_, ka, kcap, rfl, _⟩ := id hkeep
            go_wp2_with fail
            go_meet
            exact ⟨w2.heap.size, rfl, by rw [HCW.out, HS.out, HG2.out]; exact hB3, hKw3, hK2'.size, by rw [HCN.out, HS.out]; simp⟩
      case rest =>
        obtain ⟨xb, rfl, hBx, hKx, hxb, rfl⟩ := hcut
        have hCx := hC.keep hKx (by simp) (by simp)
        have p0 := hCx.dev.cell 0
        simp only [List.getElem?_cons_zero] at p0
        rw [hcl] at p0
        have hst := crashN_step l keep k l.length hlt
        have hox := crashNow_ok l keep k h.ok
        have ST := Lib.hid hst
        clear hst
        generalize crashNow l keep k = x at *
        have hlx : x.length = 64 := hox.1
        have hsl := secCells_length hox
        have hp1 : wc.rangeAt xb 0 (bcs x) := by
          have := hBx.range 0 64
          rwa [List.drop_zero, List.take_of_length_le (by rw [bcs_length, hlx]; omega)] at this
        have hdl := devCells_length hCx.ok
        rw [hcl] at hdl
        have hp2 : wc.there csb (k * 129) 129 := hCx.secs.there _ _ (by omega)
        have hz : (crashN l keep k ++ List.replicate (l.length - k) zeroSec)[k]? = some zeroSec := by
          rw [List.getElem?_append_right (by simp [crashN])]
          simp [crashN, List.getElem?_replicate]; omega
        have hfin : Blk (wc.drew.setCells csb (k * 129) (secCells (sec2 x))) csb (devCells (crashN l keep (k + 1) ++ List.replicate (l.length - (k + 1)) zeroSec)) 85 := by
          have h1 := (hCx.secs.drew).setCells (secCells (sec2 x)) (k * 129) wc.drew _ (by omega)
          have ov : over (secCells zeroSec) 0 (secCells (sec2 x)) = secCells (sec2 x) := by
            unfold over
            rw [List.drop_of_length_le (by rw [secCells_length zeroSec_ok]; omega)]
            simp
          have h2 := devCells_over hCx.ok k zeroSec (sec2 x) hz hox 0 (secCells (sec2 x)) (by omega) ov
          rw [Nat.add_zero] at h2
          rw [h2, ST.out] at h1
          exact h1
        have hfk : Keep [csb] wc (wc.drew.setCells csb (k * 129) (secCells (sec2 x))) := Keep.setCells _ _ _ _ (Keep.refl _ _).drew (.inl (by simp))
        have hbd : ∀ W : World, (Instr.build 85 #[(0, .agg (bcs x).toArray), (1, .agg (bcs x).toArray)]).run Try.prog W = .ok (.agg (secCells (sec2 x)).toArray) W := build_sec x hlx
        have hi77x : (Try.prog.info? 83).map (·.size) = some (bcs x).length := by rw [Try.size64, bcs_length, hlx]
        have hi79x : (Try.prog.info? 85).map (·.size) = some (secCells (sec2 x)).length := by rw [Try.size129, hsl]
        have hl64x : (bcs x).length = 64 := by rw [bcs_length, hlx]
        have hx1 := bcs_one x
        have hx2 := secCells_one (sec2 x)
        have hu77 := Try.underlying83
        have hu79 := Try.underlying85
        have hokn : ∀ t ∈ crashN l keep (k + 1) ++ List.replicate (l.length - (k + 1)) zeroSec, t.ok := by
          rw [← ST.out]; exact mem_set_ok hC.ok _ _ hox
        have hlnn : (crashN l keep (k + 1) ++ List.replicate (l.length - (k + 1)) zeroSec).length = l.length := by
          rw [← ST.out, List.length_set]; exact hcl
        have HF := Lib.hid hfin
        have HFK := Lib.hid hfk
        have HOX := Lib.hid hox
        have HCL := Lib.hid hcl
        have HON := Lib.hid hokn
        have HLN2 := Lib.hid hlnn
        have hcne := hC.ne
        have hxne : xb ≠ csb := by omega
        have S0 : DevS cb csb xb k (.slice (some ⟨csb, 0, none⟩) l.length l.length) (bcs x) wc.drew := ⟨p0, hp1, hp2⟩
        have HP2 := Lib.hid (show wc.drew.there csb (k * 129) (secCells (sec2 x)).toArray.size by rw [List.size_toArray, hsl]; exact hp2)
        have HI79 := Lib.hid (show (Try.prog.info? 85).map (·.size) = some (secCells (sec2 x)).toArray.size by rw [List.size_toArray]; exact hi79x)
        have HO1 := Lib.hid (all_oneCell_toArray hx2)
        clear hi79x hx2 hp2 hx1 hl64x
        clear hfin hfk hox hcl hokn hlnn hz hdl HU HU77 HI HI77 HI77n HR HLL HL64 HLN h1s h1l h1n HCN HCW hK2 hK2' HR2 hK3 hlt2 hK3' hB23 g9 hB2 hB3 hz79 hz77 hD1 g1
        go_wp2_with fail
        refine wp_region_still_tail 9 (by kernel_rfl) (by kernel_rfl) ?_
        simp only [List.take_succ_cons, List.take_zero, List.drop_succ_cons, List.drop_zero]
        repeat (first | (refine wpStill_load_mid rfl 83 _ rfl xb 0 rfl (bcs x) _ hp1 hu77 rfl hi77x ?_; simp only [Act.put, List.setIfInBounds_toArray, List.set_cons_zero, List.set_cons_succ]) | still_step)
        refine wpStill_build rfl 85 _ rfl #[(0, .agg (bcs x).toArray), (1, .agg (bcs x).toArray)] (by go_simp) _ (hbd _) ?_
        simp only [Act.put, List.setIfInBounds_toArray, List.set_cons_zero, List.set_cons_succ]
        repeat still_step
        refine wpStill_nil ?_
        go_wp2_with (refine wpList_store_mid rfl 85 _ _ rfl csb (k * 129) (secCells (sec2 x)).toArray rfl rfl HP2.out HI79.out HO1.out ?_)
        go_roundg (l.length - (k + 1))
        case measure => rw [HG.out]; omega
        case rel =>
          refine ⟨k + 1, rfl, by omega, by go_num, rfl, ⟨?_, ?_, hC.ne, HON.out, by rw [HLN2.out]; exact hps, by rw [HLN2.out]; exact hmx, by omega⟩, ?_⟩
          · rw [HLN2.out]
            have := hCx.dev.keep HFK.out (by simpa using hC.ne)
            rwa [HCL.out] at this
          · simpa using HF.out
          · have := (hK.trans hKx).then HFK.out (by simp; omega)
            simpa using this
    · obtain rfl : k = l.length := by omega
      rw [Nat.sub_self, List.replicate_zero, List.append_nil] at hC
      go_wp2_with fail
      go_ret
      exact ⟨cb, csb, rfl, hC, hK, hb1, hsb1⟩
end Go.Proofs.Ytcoaobdijlppgaa
/- super: numbers of so many bytes, the greatest ones first: put, get. -/
namespace Go.Proofs.Ytcoaobdijlppgaa
open Go.ChangeShapes Go.WideShapes Go.ChangeAt Go.RowKit
set_option linter.unusedVariables false
set_option linter.unusedSimpArgs false
set_option maxRecDepth 100000

/-- n in m bytes, the greatest first. -/
def be : Nat → Nat → List Nat
  | 0, _ => []
  | m + 1, n => be m (n / 256) ++ [n % 256]
def unbe (l : List Nat) : Nat := l.foldl (fun n c => n * 256 + c) 0
@[simp] theorem be_len (m n : Nat) : (be m n).length = m := by induction m generalizing n with
  | zero => rfl
  | succ m ih => simp [be, ih]
theorem be_byte (m n : Nat) : ∀ c ∈ be m n, c < 256 := by
  induction m generalizing n with
  | zero => simp [be]
  | succ m ih =>
    intro c hc
    simp only [be, List.mem_append, List.mem_singleton] at hc
    rcases hc with hc | rfl
    · exact ih _ c hc
    · omega
theorem unbe_snoc (l : List Nat) (c : Nat) : unbe (l ++ [c]) = unbe l * 256 + c := by simp [unbe]
theorem unbe_be (m n : Nat) : unbe (be m n) = n % 256 ^ m := by
  induction m generalizing n with
  | zero => simp [be, unbe]; omega
  | succ m ih =>
    rw [be, unbe_snoc, ih, Nat.pow_succ, Nat.mul_comm (256 ^ m) 256, Nat.mod_mul]
    omega
theorem be_unbe (l : List Nat) (hb : ∀ c ∈ l, c < 256) : be l.length (unbe l) = l := by
  induction h : l.length generalizing l with
  | zero => rw [List.length_eq_zero_iff.1 h]; rfl
  | succ m ih =>
    obtain ⟨a, c, rfl⟩ : ∃ a c, l = a ++ [c] := ⟨l.dropLast, l.getLast (by intro e; simp [e] at h), (List.dropLast_concat_getLast _).symm⟩
    have hc : c < 256 := hb c (by simp)
    rw [unbe_snoc, be, show (unbe a * 256 + c) / 256 = unbe a by omega, show (unbe a * 256 + c) % 256 = c by omega]
    rw [ih a (fun x hx => hb x (by simp [hx])) (by simpa using h)]
theorem unbe_lt (l : List Nat) (hb : ∀ c ∈ l, c < 256) : unbe l < 256 ^ l.length := by
  have := unbe_be l.length (unbe l)
  rw [be_unbe l hb] at this
  rw [this]
  exact Nat.mod_lt _ (Nat.pow_pos (by omega))
theorem be_at (m n i : Nat) (h : i < m) : (be m n).getD (m - 1 - i) 0 = n / 256 ^ i % 256 := by
  induction m generalizing n i with
  | zero => omega
  | succ m ih =>
    simp only [be]
    cases i with
    | zero => simp
    | succ i =>
      rw [List.getD_eq_getElem?_getD, List.getElem?_append_left (by simp; omega), ← List.getD_eq_getElem?_getD, show m + 1 - 1 - (i + 1) = m - 1 - i by omega, ih _ _ (by omega), Nat.pow_succ, Nat.mul_comm, ← Nat.div_div_eq_div_mul]
/-- The last k bytes laid, the others as they were. -/
def beN (old : List Nat) (n k : Nat) : List Nat := old.take (old.length - k) ++ (be old.length n).drop (old.length - k)
theorem beN_zero (old : List Nat) (n : Nat) : beN old n 0 = old := by simp [beN]
theorem beN_all (old : List Nat) (n : Nat) : beN old n old.length = be old.length n := by simp [beN]
theorem beN_len (old : List Nat) (n k : Nat) (h : k ≤ old.length) : (beN old n k).length = old.length := by simp [beN]
theorem beN_succ (old : List Nat) (n k : Nat) (h : k < old.length) : (beN old n k).set (old.length - 1 - k) (n / 256 ^ k % 256) = beN old n (k + 1) := by
  have e1 : old.length - k = (old.length - 1 - k) + 1 := by omega
  unfold beN
  rw [show old.length - (k + 1) = old.length - 1 - k by omega, e1, ← be_at _ n k h]
  generalize hL : be old.length n = L
  have hLl : L.length = old.length := by rw [← hL]; simp
  generalize hq : old.length - 1 - k = q at *
  have hq1 : q < old.length := by omega
  rw [List.take_succ_eq_append_getElem hq1, List.drop_eq_getElem_cons (i := q) (by omega), List.append_assoc]
  rw [List.set_append_right _ _ (by simp; omega)]
  simp [List.getD_eq_getElem?_getD, show q < L.length by omega, Nat.min_eq_left (Nat.le_of_lt hq1)]

set_option maxHeartbeats 2000000 in
theorem put_any {w : World} {b : Nat} {T : TypeId} (A old B : List Nat) (cap n : Nat) (h : Blk w b (bcs (A ++ old ++ B)) T) (hn : n < 18446744073709551616) (hl : old.length ≤ 8) (hA : A.length ≤ 1000000) :
    Calls Try.prog 63 #[.slice (some ⟨b, A.length, none⟩) old.length cap, .int .u64 n] w fun e w' => e = .returned (.tuple #[]) ∧ Blk w' b (bcs (A ++ be old.length n ++ B)) T ∧ Keep [b] w w' := by
  go_enter Try.func63, Try.ntmps63
  go_wp2_with fail
  go_loopw [7] (fun i wr => ∃ k : Nat, k ≤ old.length ∧ i = .int .i64 k ∧ Blk wr b (bcs (A ++ beN old n k ++ B)) T ∧ Keep [b] w wr) (fun i _ => old.length - (intOf i).toNat)
  case atStart => exact ⟨0, by omega, rfl, by rw [beN_zero]; exact h, Keep.refl _ _⟩
  case round =>
    obtain ⟨k, hk, rfl, hB, hK⟩ := hrel
    by_cases hlt : k < old.length
    · have q0 : (k : Int) < old.length := by omega
      have q2 : old.length - 1 - k < old.length := by omega
      have hlen := beN_len old n k hk
      have hcell : ∃ u, wr.cell? ⟨b, A.length + (old.length - 1 - k), none⟩ = some u := by
        rw [hB.cell, List.getElem?_eq_getElem (by simp; omega)]
        exact ⟨_, rfl⟩
      obtain ⟨u, f0⟩ := hcell
      have f1 := hB.free (A.length + (old.length - 1 - k))
      go_wp2_with fail
      go_roundw
      case rel =>
        refine ⟨k + 1, by omega, by go_num, ?_, hK.setCell (by simp) _⟩
        have e := hB.set (A.length + (old.length - 1 - k)) (.int .u8 ((n : Int) / 2 ^ (8 * k) % 256))
        have e2 : (bcs (A ++ beN old n k ++ B)).set (A.length + (old.length - 1 - k)) (.int .u8 ((n : Int) / 2 ^ (8 * k) % 256)) = bcs (A ++ beN old n (k + 1) ++ B) := by
          have e3 : (.int .u8 ((n : Int) / 2 ^ (8 * k) % 256) : Value) = bc (n / 256 ^ k % 256) := by
            unfold bc
            rw [show (256 : Nat) ^ k = 2 ^ (8 * k) by rw [Nat.pow_mul]]
            simp
          rw [e3, ← beN_succ old n k hlt]
          unfold bcs
          rw [← List.map_set]
          congr 1
          rw [List.append_assoc, List.set_append_right _ _ (by omega), Nat.add_sub_cancel_left, List.set_append_left _ _ (by omega), ← List.append_assoc]
        rw [e2] at e
        exact e
      case measure => simp [intOf]; omega
    · obtain rfl : k = old.length := by omega
      rw [beN_all] at hB
      go_wp2_with fail
      go_end0
      exact ⟨rfl, hB, hK⟩
set_option maxHeartbeats 2000000 in
theorem get_any {w : World} (v : Value) (l : List Nat) (h : Rd w v l) (hb : ∀ c ∈ l, c < 256) (hl : l.length ≤ 8) (n : Nat) (hn : n = unbe l) :
    Calls Try.prog 57 #[v] w fun e w' => e = .returned (.int .u64 n) ∧ w = w' := by
  have HN := Lib.hid hn
  clear hn
  have h2 := h
  obtain ⟨_, a, cap, rfl, _, _⟩ := h
  go_enter Try.func57, Try.ntmps57
  go_wp2_with fail
  go_loop [3, 8] (fun x i => ∃ k : Nat, k ≤ l.length ∧ i = .int .i64 k ∧ x = .int .u64 (unbe (l.take k) : Nat)) (fun _ i => l.length - (intOf i).toNat)
  case atStart => exact ⟨0, by omega, rfl, rfl⟩
  case round =>
    obtain ⟨k, hk, rfl, rfl⟩ := hrel
    by_cases hlt : k < l.length
    · obtain ⟨sb0, so, cap3, he, _, hsb, hat⟩ := h2.at1 (by omega)
      simp only [Value.slice.injEq] at he
      obtain ⟨rfl, _, rfl⟩ := he
      have g4 := hat k hlt
      rw [bcs_at l k hlt] at g4
      have hc : l.getD k 0 < 256 := hb _ (by simp [List.getD_eq_getElem?_getD, hlt])
      have hX := unbe_lt (l.take k) (fun c hc => hb c (List.mem_of_mem_take hc))
      have hT : unbe (l.take (k + 1)) = unbe (l.take k) * 256 + l.getD k 0 := by
        rw [List.take_succ_eq_append_getElem hlt, unbe_snoc]; simp [List.getD_eq_getElem?_getD, hlt]
      have HT := Lib.hid hT
      have hX7 : unbe (l.take k) < 72057594037927936 := by
        rw [List.length_take, Nat.min_eq_left hk] at hX
        have : (256 : Nat) ^ k ≤ 256 ^ 7 := Nat.pow_le_pow_right (by omega) (by omega)
        rw [show (256 : Nat) ^ 7 = 72057594037927936 by rfl] at this
        omega
      clear hat h2 hb hT hX
      generalize l.getD k 0 = c at *
      generalize unbe (l.take k) = X at *
      unfold bc at g4
      have q0 : (k : Int) < l.length := by omega
      have ho : bits .or .u64 ((X : Int) * 256) (c : Int) = ((X * 256 + c : Nat) : Int) := by
        rw [show (X : Int) * 256 = ((X * 256 : Nat) : Int) by omega, u64_or_nat _ _ (by omega) (by omega), show X * 256 = 2 ^ 8 * X by omega, ← Nat.two_pow_add_eq_or_of_lt (show c < 2 ^ 8 by omega) X]
      go_wp2_with fail
      go_round
      case rel => exact ⟨k + 1, by omega, by go_num, by rw [HT.out]; go_num⟩
      case measure => simp [intOf]; omega
    · obtain rfl : k = l.length := by omega
      rw [List.take_length]
      generalize hX : unbe l = X at *
      have HX := Lib.hid hX
      clear hX
      go_wp2_with fail
      go_ret
      exact ⟨by rw [HN.out]; rfl, rfl⟩
end Go.Proofs.Ytcoaobdijlppgaa
/- super.write: its contract. -/
namespace Go.Proofs.Ytcoaobdijlppgaa
open Go.ChangeShapes Go.WideShapes Go.ChangeAt Go.RowKit
set_option linter.unusedVariables false
set_option linter.unusedSimpArgs false
set_option maxRecDepth 100000

def sBody (n : Nat) (text : List Nat) : List Nat := be 8 n ++ ([text.length] ++ (text ++ List.replicate (51 - text.length) 0))
def sImg (n : Nat) (text : List Nat) : List Nat := be 4 (crcSum (sBody n text)) ++ sBody n text
theorem sBody_len (n : Nat) (text : List Nat) (h : text.length ≤ 40) : (sBody n text).length = 60 := by simp [sBody]; omega
theorem sBody_byte (n : Nat) (text : List Nat) (h : text.length ≤ 40) (hb : ∀ c ∈ text, c < 256) : ∀ c ∈ sBody n text, c < 256 := by
  intro c hc
  simp only [sBody, List.mem_append, List.mem_singleton, List.mem_replicate] at hc
  rcases hc with hc | rfl | hc | ⟨_, rfl⟩
  · exact be_byte _ _ _ hc
  · omega
  · exact hb _ hc
  · omega
theorem sImg_len (n : Nat) (text : List Nat) (h : text.length ≤ 40) : (sImg n text).length = 64 := by simp [sImg, sBody_len n text h]
theorem sImg_byte (n : Nat) (text : List Nat) (h : text.length ≤ 40) (hb : ∀ c ∈ text, c < 256) : ∀ c ∈ sImg n text, c < 256 := by
  intro c hc
  simp only [sImg, List.mem_append] at hc
  rcases hc with hc | hc
  · exact be_byte _ _ _ hc
  · exact sBody_byte n text h hb _ hc
theorem crcSum_lt (l : List Nat) (hb : ∀ c ∈ l, c < 256) : crcSum l < 4294967296 := by unfold crcSum; omega
theorem wrote_super (L : List Sec) (i : Nat) (s : Sec) (m : List Nat) (hm : m.length = 64) (hs : s.now.length = 64) : (L.set i ⟨over s.now 0 m, s.lasts, true⟩).map flushSec = (L.map flushSec).set i ⟨m, m, false⟩ := by
  have e : over s.now 0 m = m := by simp [over, hm, hs]
  rw [List.map_set, e]; rfl

theorem body_cells (n : Nat) (text : List Nat) (h : text.length ≤ 40) : over ((bcs (List.replicate 4 0 ++ be 8 n ++ List.replicate 52 0)).set 12 (.int .u8 text.length)) 13 (bcs text) = bcs (List.replicate 4 0 ++ sBody n text) := by
  have e8 : ∃ a b c d e f g h, be 8 n = [a, b, c, d, e, f, g, h] := ⟨_, _, _, _, _, _, _, _, rfl⟩
  obtain ⟨a, b, c, d, e, f, g, i, e8⟩ := e8
  have hz : List.replicate (51 - text.length) 0 = (List.replicate 51 0).drop text.length := List.drop_replicate.symm
  unfold sBody
  rw [e8, hz]
  generalize hr : List.replicate 51 0 = R
  have e52 : List.replicate 52 0 = 0 :: R := by rw [← hr]; rfl
  rw [e52]
  simp only [over, bcs_length, List.replicate, bcs, List.map_append, List.map_cons, List.map_nil, List.cons_append, List.nil_append, List.set, List.take, List.map_drop, List.length_map]
  rw [show 13 + text.length = text.length + 13 by omega]
  simp [bc]
theorem Clone_any {w : World} (v : Value) (l : List Nat) (h : Rd w v l) (hl : l.length ≤ 1099511627776) :
    Calls Try.prog 59 #[v] w fun e w' => ∃ v', e = .returned v' ∧ Buf w' w.heap.size 5 v' l ∧ Keep [] w w' := by
  obtain ⟨_, a, cap, rfl, hc, hh⟩ := id h
  cases a with
  | some ad =>
    refine (Clone_some ad cap l h hl).mono ?_
    rintro e w' ⟨v', rfl, hb, hk, _⟩
    exact ⟨v', rfl, hb, hk⟩
  | none =>
    have hl0 : l = [] := by
      cases l with
      | nil => rfl
      | cons x l => obtain ⟨sb, so, he, _⟩ := hh (by simp); cases he
    subst hl0
    have heq := fun W => Lib.run_eql_slice_nil (P := Try.prog) W 70 5 none 0 cap 0 0 Try.underlying70
    go_enter Try.func59, Try.ntmps59
    go_wp2_with fail
    go_ret
    exact ⟨_, rfl, Buf.nil _ _ _, Keep.refl _ _⟩
set_option maxRecDepth 100000 in
set_option maxHeartbeats 400000 in
theorem write_any {w : World} {s d sb : Nat} {L : List Sec} {c : Nat} (at_ slot : Nat) (t0 : Int) (v0 : Value) (sl0 : Int) (n : Nat) (bv : Value) (text : List Nat)
    (hd : IsDev w d sb L c) (hs : Blk w s [.pointer (some ⟨d, 0, none⟩), .int .i64 at_, .int .i64 t0, v0, .int .i64 sl0] 96)
    (hr : Rd w bv text) (hb : ∀ c ∈ text, c < 256) (hl : text.length ≤ 40) (hslot : at_ + slot < L.length) (hn : n < 9223372036854775808) (hc : c + 2 ≤ 1099511627776)
    (hlo : ∀ b, bv.ownBlock = some b → 0 < text.length → b < w.heap.size ∧ b ≠ d ∧ b ≠ sb ∧ b ≠ s) :
    Calls Try.prog 47 #[.pointer (some ⟨s, 0, none⟩), .int .i64 slot, .int .i64 n, bv] w fun e w' => e = .returned (.int .i64 0) ∧ IsDev w' d sb ((L.map flushSec).set (at_ + slot) ⟨sImg n text, sImg n text, false⟩) (c + 2) ∧
      (∃ tv, Blk w' s [.pointer (some ⟨d, 0, none⟩), .int .i64 at_, .int .i64 n, tv, .int .i64 slot] 96 ∧ Buf w' w.heap.size 5 tv text) ∧ Keep [d, sb, s] w w' := by
  obtain ⟨i8, hi8, hz80, hz81, hz82⟩ := info_parts Try.info8
  have h2 := hr
  obtain ⟨_, ba, bcap, rfl, _, _⟩ := hr
  have hne1 : s ≠ d := hs.ty.ne hd.dev.ty (by decide)
  have hne2 : s ≠ sb := hs.ty.ne hd.secs.ty (by decide)
  have hslt := hs.lt
  have hdlt := hd.dev.lt
  have hsblt := hd.secs.lt
  have hmx := hd.max
  go_enter Try.func47, Try.ntmps47
  go_wp2_with (at_make; refine wpList_make_n _ rfl _ _ 70 rfl 5 i8 _ Try.underlying70 hi8 hz80 (by rw [hz81]; rfl) (by decide) _ 64 rfl rfl (by omega) (by rw [hz82]; omega) (by omega) ?_)
  have hB0 : Blk (w.alloc (.cells (bcs (List.replicate 4 0 ++ List.replicate 8 0 ++ List.replicate 52 0)).toArray 5)) w.heap.size (bcs (List.replicate 4 0 ++ List.replicate 8 0 ++ List.replicate 52 0)) 5 := Blk.new _ _ _
  refine (put_any (List.replicate 4 0) (List.replicate 8 0) (List.replicate 52 0) 60 n hB0 (by omega) (by simp) (by simp)).mono ?_
  rintro e w1 ⟨rfl, hB1, hK1⟩
  have hB1 : Blk w1 w.heap.size (bcs (List.replicate 4 0 ++ be 8 n ++ List.replicate 52 0)) 5 := hB1
  have K1 : Keep [] w w1 := ((Keep.refl [] w).alloc _).then hK1 (by simp)
  clear hK1 hB0
  obtain ⟨u, f0⟩ : ∃ u, w1.cell? ⟨w.heap.size, 12, none⟩ = some u := by
    rw [hB1.cell, List.getElem?_eq_getElem (by simp)]; exact ⟨_, rfl⟩
  have f1 := hB1.free 12
  have q0 : (text.length : Int) ≤ 40 := by omega
  have hth0 := (hB1.set 12 (.int .u8 text.length)).there 13 text.length (by simp; omega)
  have k2 : Keep [w.heap.size] w1 (w1.setCell ⟨w.heap.size, 12, none⟩ (.int .u8 text.length)) := (Keep.refl _ w1).setCell (.inl (by simp)) _
  have hsrc := Rd.src (Rd.keep0 (h2.keep K1 (by simp)) k2 (by intro b hb hp; have := hlo b hb hp; simp; omega)) Try.underlying70
  go_wp2_with (refine wpList_copy_mid _ rfl _ _ 70 70 rfl 5 i8 Try.underlying70 hi8 hz81 w.heap.size 13 51 51 rfl _ text.length (bcs text) rfl hsrc (by omega) hth0 ?_)
  obtain ⟨w2, hw2⟩ : ∃ w2, w2 = (w1.setCell ⟨w.heap.size, 12, none⟩ (.int .u8 text.length)).setCells w.heap.size 13 (bcs text) := ⟨_, rfl⟩
  have hB2 : Blk w2 w.heap.size (bcs (List.replicate 4 0 ++ sBody n text)) 5 := by
    rw [hw2, ← body_cells n text hl]
    exact (hB1.set 12 _).setCells (bcs text) 13 _ _ (by simp; omega)
  have K2 : Keep [] w w2 := by
    rw [hw2]
    exact K1.then (Keep.setCells _ _ _ _ k2 (.inl (by simp))) (by simp)
  rw [← hw2]
  have hlen := sBody_len n text hl
  have hby := sBody_byte n text hl hb
  have hsz := hB2.lt
  clear hw2 hB1 K1 k2 hsrc hth0 f0 f1
  have hS := crcSum_lt (sBody n text) hby
  have HI := Lib.hid (show be 4 (crcSum (sBody n text)) ++ sBody n text = sImg n text from rfl)
  generalize sBody n text = body at *
  have HE := Lib.hid (rfl : crcSum body = crcSum body)
  generalize hSS : crcSum body = S at hS HI HE
  have HSS := Lib.hid hSS.symm
  clear hSS HE
  have hRb : Rd w2 (.slice (some ⟨w.heap.size, 4, none⟩) 60 60) body := by
    unfold Rd
    rw [hlen]
    refine ⟨by simp [hlen], _, 60, rfl, by omega, fun _ => ⟨_, 4, rfl, hsz, fun i hi => ?_⟩⟩
    rw [hB2.cell]
    unfold bcs
    rw [List.map_append, List.getElem?_append_right (by simp)]
    simp
  have hp : Rv (w2.alloc (.cells #[.slice (some ⟨w.heap.size, 4, none⟩) 60 60] 70)).drew 1 (.slice (some ⟨w2.heap.size, 0, none⟩) 1 1) 1 [.slice (some ⟨w.heap.size, 4, none⟩) 60 60] := (Rv.new w2 [.slice (some ⟨w.heap.size, 4, none⟩) 60 60] 70 1 1 1 rfl (by omega) _ rfl).keep (Keep.refl [] _).drew (by simp)
  have hq : Rd (w2.alloc (.cells #[.slice (some ⟨w.heap.size, 4, none⟩) 60 60] 70)).drew (.slice (some ⟨w.heap.size, 4, none⟩) 60 60) body := Rv.keep (Rv.alloc hRb _) (Keep.refl [] _).drew (by simp)
  have hB2a : Blk (w2.alloc (.cells #[.slice (some ⟨w.heap.size, 4, none⟩) 60 60] 70)).drew w.heap.size (bcs (List.replicate 4 0 ++ body)) 5 := (hB2.alloc _).drew
  have hSum := Sum_one _ _ _ body hp hq hby (by omega) S HSS.out
  have hPut : Calls Try.prog 63 #[.slice (some ⟨w.heap.size, 0, none⟩) 4 64, .int .u64 S] (w2.alloc (.cells #[.slice (some ⟨w.heap.size, 4, none⟩) 60 60] 70)).drew fun e w' => e = .returned (.tuple #[]) ∧ Blk w' w.heap.size (bcs (be 4 S ++ body)) 5 ∧ Keep [w.heap.size] (w2.alloc (.cells #[.slice (some ⟨w.heap.size, 4, none⟩) 60 60] 70)).drew w' := put_any [] (List.replicate 4 0) body 64 S hB2a (by omega) (by simp) (by simp)
  obtain ⟨SI, hSI⟩ : ∃ z : Int, z = (S : Int) := ⟨_, rfl⟩
  have hSI0 : 0 ≤ SI := by omega
  have hSI1 : SI < 4294967296 := by omega
  rw [← hSI] at hSum hPut
  clear hSI
  have hwr : IntKind.u64.wrap SI = SI := by
    simp [IntKind.wrap, IntKind.bits, IntKind.signed]
    omega
  have HSum := Lib.hid hSum
  have HPut := Lib.hid hPut
  clear hSum hPut hp hq hB2a hRb
  go_region_with
    (first
      | (go_at_call 63; (try rw [← hws]); (try rw [hwr]); refine HPut.out.mono ?_; rintro e w3 ⟨rfl, hB3, k3⟩)
      | (go_at_call 58; refine HSum.out.mono ?_; rintro e ws ⟨rfl, hws⟩)
      | fail)
  rw [HI.out] at hB3
  have hil := sImg_len n text hl
  have hib := sImg_byte n text hl hb
  have K3 : Keep [] w w3 := ((K2.alloc _).drew.then k3 (by simp))
  have hRi : Rd w3 (.slice (some ⟨w.heap.size, 0, none⟩) 64 64) (sImg n text) := by
    unfold Rd
    rw [hil]
    refine ⟨by simp [hil], _, 64, rfl, by omega, fun _ => ⟨_, 0, rfl, hB3.lt, fun i hi => ?_⟩⟩
    rw [Nat.zero_add, hB3.cell]
  generalize hIM : sImg n text = img at *
  have HIM := Lib.hid hIM
  clear hIM
  clear HI hS hby hlen hB2 K2 k3 HSum HPut
  have hs3 := hs.keep K3 (by simp)
  have hd3 := hd.keep K3 (by simp) (by simp)
  have g0 := hs3.cell 0
  have g1 := hs3.cell 1
  simp only [List.getElem?_cons_succ, List.getElem?_cons_zero] at g0 g1
  go_wp2_with fail
  refine wp_region_still_tail 11 (by kernel_rfl) (by kernel_rfl) ?_
  simp only [List.take_succ_cons, List.take_zero, List.drop_succ_cons, List.drop_zero]
  repeat still_step
  refine wpStill_nil ?_
  obtain ⟨sc, hsc, hscm⟩ := sec_mem hslot
  go_wp2_with fail
  rw [show (at_ : Int) + (slot : Int) = ((at_ + slot : Nat) : Int) by omega]
  refine (Write_in (hd3.keep (Keep.refl [] _).drew (by simp) (by simp)) (at_ + slot) sc hsc _ img (Rv.keep hRi (Keep.refl [] _).drew (by simp)) (by omega) hib (by omega)).mono ?_
  rintro e w4 ⟨rfl, hd4, k4⟩
  have K4 : Keep [d, sb] w w4 := (K3.drew.mono (by simp)).trans k4
  have hs4 := hs.keep K4 (by simp; exact ⟨hne1, hne2⟩)
  clear g0 g1
  have g0 := hs4.cell 0
  simp only [List.getElem?_cons_zero] at g0
  go_wp2_with fail
  refine (Flush_any hd4 (by omega)).mono ?_
  rintro e w5 ⟨rfl, hd5, k5⟩
  have hscl : sc.now.length = 64 := (hd.ok sc hscm).1
  rw [wrote_super L (at_ + slot) sc img hil hscl] at hd5
  have K5 : Keep [d, sb] w w5 := K4.trans k5
  have hs5 := hs.keep K5 (by simp; exact ⟨hne1, hne2⟩)
  have hr5 := Rd.keep0 h2 K5 (by intro b hb hp; have := hlo b hb hp; simp; omega)
  clear g0 k4 k5 hd4 hs4 hs3 hd3 K3 K4
  go_wp2_with fail
  refine (Clone_any _ text hr5 (by omega)).mono ?_
  rintro e w6 ⟨tv, rfl, hbuf, k6⟩
  have K6 := K5.trans (k6.mono (by simp))
  obtain ⟨ta, tcap, rfl⟩ := hbuf.slice
  have hs6 := hs5.keep k6 (by simp)
  have hd6 := hd5.keep k6 (by simp) (by simp)
  have g1 := hs6.cell 0
  have g2 := hs6.cell 2
  have g3 := hs6.cell 3
  have g4 := hs6.cell 4
  have f2 := hs6.free 2
  have f3 := hs6.free 3
  have f4 := hs6.free 4
  simp only [List.getElem?_cons_succ, List.getElem?_cons_zero] at g1 g2 g3 g4
  go_wp2_with fail
  go_ret
  have hB := ((hs6.set 4 (.int .i64 slot)).set 2 (.int .i64 n)).set 3 (.slice ta text.length tcap)
  have hk : Keep [s] w6 (((w6.setCell ⟨s, 4, none⟩ (.int .i64 slot)).setCell ⟨s, 2, none⟩ (.int .i64 n)).setCell ⟨s, 3, none⟩ (.slice ta text.length tcap)) := Keep.setCell (Keep.setCell (Keep.setCell (Keep.refl _ _) (.inl (by simp)) _) (.inl (by simp)) _) (.inl (by simp)) _
  rw [HIM.out]
  refine ⟨rfl, hd6.keep hk (by simpa using Ne.symm hne1) (by simpa using Ne.symm hne2), ⟨_, hB, (hbuf.mono K5.size).keep hk ?_⟩, ?_⟩
  · intro b hb'
    have := (hbuf.lt b hb').1
    have := K5.size
    simp
    omega
  · exact (K6.mono (by simp)).then hk (by simp)
end Go.Proofs.Ytcoaobdijlppgaa
/- super: there, Make, Save, Text, Turn: their contracts. -/
namespace Go.Proofs.Ytcoaobdijlppgaa
open Go.ChangeShapes Go.WideShapes Go.ChangeAt Go.RowKit
set_option linter.unusedVariables false
set_option linter.unusedSimpArgs false
set_option maxRecDepth 100000

theorem Buf.ty {w : World} {base : Nat} {E : TypeId} {v : Value} {l : List Nat} (h : Buf w base E v l) : ∀ k, v.ownBlock = some k → Ty w k E := by
  have h2 : Own w base E v (bcs l) := by unfold Own; rw [bcs_length]; exact h
  exact h2.ty
/-- A Super of device d at a place, with its turn, text, slot. -/
def IsSup (w : World) (s d at_ turn : Nat) (text : List Nat) (slot : Nat) : Prop :=
  ∃ tv, Blk w s [.pointer (some ⟨d, 0, none⟩), .int .i64 at_, .int .i64 turn, tv, .int .i64 slot] 96 ∧ Buf w 0 5 tv text
theorem IsSup.keep {w w' : World} {s d at_ turn : Nat} {text : List Nat} {slot : Nat} {S : List Nat} (h : IsSup w s d at_ turn text slot) (k : Keep S w w') (h1 : s ∉ S) (hS : ∀ x ∈ S, ¬ Ty w x 5) : IsSup w' s d at_ turn text slot := by
  obtain ⟨tv, hB, hb⟩ := h
  exact ⟨tv, hB.keep k h1, hb.keep k (fun b hb' hm => hS b hm (hb.ty b hb'))⟩
theorem IsSup.lt {w : World} {s d at_ turn : Nat} {text : List Nat} {slot : Nat} (h : IsSup w s d at_ turn text slot) : s < w.heap.size := by
  obtain ⟨tv, hB, _⟩ := h; exact hB.lt
theorem IsSup.ty {w : World} {s d at_ turn : Nat} {text : List Nat} {slot : Nat} (h : IsSup w s d at_ turn text slot) : Ty w s 96 := by
  obtain ⟨tv, hB, _⟩ := h; exact hB.ty
theorem IsDev.noU8 {w : World} {b sb : Nat} {l : List Sec} {c : Nat} (h : IsDev w b sb l c) : ¬ Ty w b 5 ∧ ¬ Ty w sb 5 :=
  ⟨fun e => h.dev.ty.ne e (by decide) rfl, fun e => h.secs.ty.ne e (by decide) rfl⟩
theorem IsSup.noU8 {w : World} {s d at_ turn : Nat} {text : List Nat} {slot : Nat} (h : IsSup w s d at_ turn text slot) : ¬ Ty w s 5 := fun e => h.ty.ne e (by decide) rfl
theorem IsDev.neSup {w : World} {b sb : Nat} {l : List Sec} {c : Nat} (h : IsDev w b sb l c) {s d at_ turn : Nat} {text : List Nat} {slot : Nat} (hs : IsSup w s d at_ turn text slot) : s ≠ b ∧ s ≠ sb :=
  ⟨hs.ty.ne h.dev.ty (by decide), hs.ty.ne h.secs.ty (by decide)⟩

theorem there_in {w : World} {d sb : Nat} {L : List Sec} {c : Nat} (hd : IsDev w d sb L c) (at_ : Nat) (hat : at_ + 1 < L.length) :
    Calls Try.prog 44 #[.pointer (some ⟨d, 0, none⟩), .int .i64 at_] w fun e w' => e = .returned (.bool true) ∧ w = w' := by
  have hmx := hd.max
  have q0 : (0 : Int) ≤ at_ := by omega
  have q1 : (at_ : Int) < (L.length : Int) - 1 := by omega
  go_enter Try.func44, Try.ntmps44
  go_wp2_with fail
  refine (Len_any hd).mono ?_
  rintro e w1 ⟨rfl, rfl⟩
  go_wp2_with fail
  go_ret
  exact ⟨rfl, rfl⟩
theorem there_out {w : World} {d sb : Nat} {L : List Sec} {c : Nat} (hd : IsDev w d sb L c) (at_ : Int) (hat : at_ < 0 ∨ (L.length : Int) ≤ at_ + 1) :
    Calls Try.prog 44 #[.pointer (some ⟨d, 0, none⟩), .int .i64 at_] w fun e w' => e = .returned (.bool false) ∧ w = w' := by
  have hmx := hd.max
  have hp := hd.pos
  by_cases h : at_ < 0
  · have q0 : decide ((0 : Int) ≤ at_) = false := decide_eq_false (by omega)
    go_enter Try.func44, Try.ntmps44
    go_wp2_with fail
    go_ret
    exact ⟨rfl, rfl⟩
  · have q0 : decide ((0 : Int) ≤ at_) = true := decide_eq_true (by omega)
    have q1 : decide (at_ < (L.length : Int) - 1) = false := decide_eq_false (by omega)
    go_enter Try.func44, Try.ntmps44
    go_wp2_with fail
    refine (Len_any hd).mono ?_
    rintro e w1 ⟨rfl, rfl⟩
    go_wp2_with fail
    go_ret
    exact ⟨rfl, rfl⟩
theorem Text_any {w : World} {s d at_ turn : Nat} {text : List Nat} {slot : Nat} (h : IsSup w s d at_ turn text slot) (hl : text.length ≤ 40) :
    Calls Try.prog 40 #[.pointer (some ⟨s, 0, none⟩)] w fun e w' => ∃ v', e = .returned v' ∧ Buf w' w.heap.size 5 v' text ∧ Keep [] w w' := by
  obtain ⟨tv, hB, hb⟩ := h
  have g3 := hB.cell 3
  simp only [List.getElem?_cons_succ, List.getElem?_cons_zero] at g3
  obtain ⟨ta, tcap, rfl⟩ := hb.slice
  go_enter Try.func40, Try.ntmps40
  go_wp2_with fail
  refine (Clone_any _ text hb.rd (by omega)).mono ?_
  rintro e w1 ⟨v', rfl, h1, h2⟩
  obtain ⟨va, vcap, rfl⟩ := h1.slice
  go_wp2_with fail
  go_ret
  exact ⟨_, rfl, h1, h2⟩
theorem Text_nil {w : World} : Calls Try.prog 40 #[.pointer none] w fun e w' => e = .returned (.slice none 0 0) ∧ w = w' := by
  go_enter Try.func40, Try.ntmps40
  go_wp2_with fail
  go_ret
  exact ⟨rfl, rfl⟩
theorem Save_nil {w : World} (v : Value) : Calls Try.prog 65 #[.pointer none, v] w fun e w' => e = .returned (.int .i64 8) ∧ w = w' := by
  go_enter Try.func65, Try.ntmps65
  go_wp2_with fail
  go_ret
  exact ⟨rfl, rfl⟩
theorem Save_long {w : World} (s : Nat) (a : Option Addr) (n cap : Nat) (hn : 40 < n) : Calls Try.prog 65 #[.pointer (some ⟨s, 0, none⟩), .slice a n cap] w fun e w' => e = .returned (.int .i64 1) ∧ w = w' := by
  have q0 : (40 : Int) < n := by omega
  go_enter Try.func65, Try.ntmps65
  go_wp2_with fail
  go_ret
  exact ⟨rfl, rfl⟩
set_option maxRecDepth 100000 in
set_option maxHeartbeats 400000 in
theorem Save_in {w : World} {s d sb : Nat} {L : List Sec} {c : Nat} {at_ turn : Nat} {text0 : List Nat} {slot : Nat} (hd : IsDev w d sb L c) (hs : IsSup w s d at_ turn text0 slot) (bv : Value) (text : List Nat)
    (hr : Rd w bv text) (hb : ∀ c ∈ text, c < 256) (hl : text.length ≤ 40) (hslot : slot ≤ 1) (hat : at_ + 1 < L.length) (hn : turn + 1 < 9223372036854775808) (hc : c + 2 ≤ 1099511627776)
    (hlo : ∀ b, bv.ownBlock = some b → 0 < text.length → b < w.heap.size ∧ b ≠ d ∧ b ≠ sb ∧ b ≠ s) :
    Calls Try.prog 65 #[.pointer (some ⟨s, 0, none⟩), bv] w fun e w' => e = .returned (.int .i64 0) ∧ IsDev w' d sb ((L.map flushSec).set (at_ + (1 - slot)) ⟨sImg (turn + 1) text, sImg (turn + 1) text, false⟩) (c + 2) ∧
      IsSup w' s d at_ (turn + 1) text (1 - slot) ∧ Keep [d, sb, s] w w' := by
  obtain ⟨tv, hB, _⟩ := hs
  have h2 := hr
  obtain ⟨_, ba, bcap, rfl, _, _⟩ := hr
  have q0 : (text.length : Int) ≤ 40 := by omega
  have g2 := hB.cell 2
  have g4 := hB.cell 4
  simp only [List.getElem?_cons_succ, List.getElem?_cons_zero] at g2 g4
  have hw := fun W (k : Keep [] w W) => write_any at_ (1 - slot) turn tv slot (turn + 1) (.slice ba text.length bcap) text (hd.keep k (by simp) (by simp)) (hB.keep k (by simp)) (h2.keep k (by simp)) hb hl (by omega) (by omega) hc (fun b hb' hp => ⟨by have := (hlo b hb' hp).1; have := k.size; omega, (hlo b hb' hp).2⟩)
  have HW := Lib.hid hw
  have q1 : ((1 - slot : Nat) : Int) = 1 - (slot : Int) := by omega
  have q2 : ((turn + 1 : Nat) : Int) = (turn : Int) + 1 := by omega
  clear hw hlo h2
  go_enter Try.func65, Try.ntmps65
  go_wp2_with fail
  refine wp_region_still_tail 12 (by kernel_rfl) (by kernel_rfl) ?_
  simp only [List.take_succ_cons, List.take_zero, List.drop_succ_cons, List.drop_zero]
  repeat still_step
  refine wpStill_nil ?_
  go_wp2_with fail
  rw [← q1, ← q2]
  refine (HW.out _ (Keep.refl [] _).drew).mono ?_
  rintro e w4 ⟨rfl, hd4, ⟨tv', hB4, hb4⟩, k4⟩
  go_wp2_with fail
  go_ret
  exact ⟨rfl, hd4, ⟨tv', hB4, hb4.mono (by omega)⟩, (Keep.refl _ _).drew.trans k4⟩
theorem flushSec_two (L : List Sec) : (L.map flushSec).map flushSec = L.map flushSec := by simp [flushSec]
theorem make_secs (L : List Sec) (i : Nat) (a b m : Sec) (z : List Nat) (hz : z = List.replicate 64 0) (ha : a.now = z) (hb : b.now = z) :
    ((((L.set i a).set (i + 1) b).map flushSec).map flushSec).set i m = ((L.map flushSec).set (i + 1) zeroSec).set i m := by
  have e1 : flushSec a = zeroSec := by unfold flushSec zeroSec; rw [ha, hz]
  have e2 : flushSec b = zeroSec := by unfold flushSec zeroSec; rw [hb, hz]
  rw [flushSec_two, List.map_set, List.map_set, e1, e2, List.set_comm _ _ (show i ≠ i + 1 by omega), List.set_set]
set_option maxRecDepth 100000 in
set_option maxHeartbeats 400000 in
theorem Make_in {w : World} {d sb : Nat} {L : List Sec} {c : Nat} (hd : IsDev w d sb L c) (at_ : Nat) (hat : at_ + 1 < L.length) (bv : Value) (text : List Nat)
    (hr : Rd w bv text) (hb : ∀ c ∈ text, c < 256) (hl : text.length ≤ 40) (hc : c + 5 ≤ 1099511627776) (hlo : ∀ b, bv.ownBlock = some b → 0 < text.length → b < w.heap.size ∧ b ≠ d ∧ b ≠ sb) :
    Calls Try.prog 27 #[.pointer (some ⟨d, 0, none⟩), .int .i64 at_, bv] w fun e w' => ∃ s, e = .returned (.tuple #[.pointer (some ⟨s, 0, none⟩), .int .i64 0]) ∧
      IsDev w' d sb (((L.map flushSec).set (at_ + 1) zeroSec).set at_ ⟨sImg 1 text, sImg 1 text, false⟩) (c + 5) ∧ IsSup w' s d at_ 1 text 0 ∧ Keep [d, sb] w w' ∧ w.heap.size ≤ s := by
  obtain ⟨i8, hi8, hz80, hz81, hz82⟩ := info_parts Try.info8
  have h2 := hr
  obtain ⟨_, ba, bcap, rfl, _, _⟩ := hr
  have q0 : (text.length : Int) ≤ 40 := by omega
  have hmx := hd.max
  have hdl := hd.dev.lt
  have hsl := hd.secs.lt
  go_enter Try.func27, Try.ntmps27
  go_wp2_with fail
  refine (there_in hd at_ hat).mono ?_
  rintro e w1 ⟨rfl, rfl⟩
  go_wp2_with fail
  refine wp_loop_rounds 3 ?_
  rw [rounds_succ]
  go_wp2_with (at_make; refine wpList_make_n _ rfl _ _ 70 rfl 5 i8 _ Try.underlying70 hi8 hz80 (by rw [hz81]; rfl) (by decide) _ 64 rfl rfl (by omega) (by rw [hz82]; omega) (by omega) ?_)
  obtain ⟨s0, hs0, hm0⟩ := sec_mem (show at_ < L.length by omega)
  have hz : bcs (List.replicate 64 0) = List.replicate 64 (.int .u8 0) := by simp [bcs, bc]
  have hZ : ∀ W : World, Rd (W.alloc (.cells (List.replicate 64 (.int .u8 0)).toArray 5)) (.slice (some ⟨W.heap.size, 0, none⟩) 64 64) (List.replicate 64 0) := fun W => by
    rw [← hz]
    exact Rv.new W (bcs (List.replicate 64 0)) 5 1 64 64 (by simp) (by omega) _ rfl
  have hzb : ∀ x ∈ List.replicate 64 0, x < 256 := by intro x hx; simp at hx; omega
  have HZ := Lib.hid hZ
  have HZB := Lib.hid hzb
  clear hZ hzb hz
  have hd1 := hd.keep ((Keep.refl [] w).alloc (.cells (List.replicate 64 (.int .u8 0)).toArray 5)) (by simp) (by simp)
  have W1 := Write_in hd1 at_ s0 hs0 _ (List.replicate 64 0) (HZ.out w) (by simp) HZB.out (by omega)
  refine W1.mono ?_
  rintro e w2 ⟨rfl, hd2, k2⟩
  clear W1
  have K2 : Keep [d, sb] w w2 := ((Keep.refl _ _).alloc _).trans k2
  have hov : ∀ s : Sec, s ∈ L → over s.now 0 (List.replicate 64 0) = List.replicate 64 0 := fun s hs => by simp [over, (hd.ok s hs).1]
  have q1 : ((at_ + 1 : Nat) : Int) = (at_ : Int) + 1 := by omega
  obtain ⟨s1, hs1, hm1⟩ := sec_mem hat
  have hs1' : (L.set at_ ⟨over s0.now 0 (List.replicate 64 0), s0.lasts, true⟩)[at_ + 1]? = some s1 := by rw [List.getElem?_set_ne (by omega)]; exact hs1
  clear k2 hd1
  go_wp2_with fail
  rw [rounds_succ]
  go_wp2_with (at_make; refine wpList_make_n _ rfl _ _ 70 rfl 5 i8 _ Try.underlying70 hi8 hz80 (by rw [hz81]; rfl) (by decide) _ 64 rfl rfl (by omega) (by rw [hz82]; omega) (by omega) ?_)
  rw [← q1]
  have hd3 := hd2.keep ((Keep.refl [] w2).alloc (.cells (List.replicate 64 (.int .u8 0)).toArray 5)) (by simp) (by simp)
  have W2 := Write_in hd3 (at_ + 1) s1 hs1' _ (List.replicate 64 0) (HZ.out w2) (by simp) HZB.out (by omega)
  refine W2.mono ?_
  rintro e w4 ⟨rfl, hd4, k4⟩
  have K4 : Keep [d, sb] w w4 := (K2.alloc _).trans k4
  clear W2 hd3 hd2 k4
  go_wp2_with fail
  rw [rounds_succ]
  go_wp2_with fail
  refine (Flush_any hd4 (by omega)).mono ?_
  rintro e w5 ⟨rfl, hd5, k5⟩
  have K5 := K4.trans k5
  clear k5 hd4
  go_wp2_with fail
  have hB0 : Blk (w5.alloc (.cells #[.pointer (some ⟨d, 0, none⟩), .int .i64 at_, .int .i64 0, .slice none 0 0, .int .i64 0] 96)) w5.heap.size [.pointer (some ⟨d, 0, none⟩), .int .i64 at_, .int .i64 0, .slice none 0 0, .int .i64 0] 96 := Blk.new _ _ _
  have hsz := K5.size
  have hd6 := hd5.keep ((Keep.refl [] w5).alloc (.cells #[.pointer (some ⟨d, 0, none⟩), .int .i64 at_, .int .i64 0, .slice none 0 0, .int .i64 0] 96)) (by simp) (by simp)
  have K6 : Keep [d, sb] w (w5.alloc (.cells #[.pointer (some ⟨d, 0, none⟩), .int .i64 at_, .int .i64 0, .slice none 0 0, .int .i64 0] 96)) := K5.alloc _
  have hr6 := Rd.keep0 h2 K6 (by intro b hb hp; have := hlo b hb hp; simp; omega)
  have W3 := write_any at_ 0 0 (.slice none 0 0) 0 1 (.slice ba text.length bcap) text hd6 hB0 hr6 hb hl (by simp; omega) (by omega) (by omega) (fun b hb hp => by have := hlo b hb hp; simp; omega)
  refine W3.mono ?_
  rintro e w7 ⟨rfl, hd7, ⟨tv, hB7, hb7⟩, k7⟩
  go_wp2_with fail
  go_ret2
  refine ⟨w5.heap.size, rfl, ?_, ⟨tv, hB7, hb7.mono (by omega)⟩, K6.then k7 (by intro x hx hlt; simp at hx ⊢; omega), hsz⟩
  rw [show at_ + 0 = at_ from rfl, make_secs L at_ _ _ _ (List.replicate 64 0) rfl (hov s0 hm0) (hov s1 hm1)] at hd7
  exact hd7
end Go.Proofs.Ytcoaobdijlppgaa
