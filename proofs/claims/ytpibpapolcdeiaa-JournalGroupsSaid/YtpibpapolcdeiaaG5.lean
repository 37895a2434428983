/- Sl7p, Sl7, Sl8 -/
import Derived.Test.YtpibpapolcdeiaaG3
import Derived.Test.YtpibpapolcdeiaaG4
/- slog: what a sector's bytes say (plain). -/
namespace Go.Proofs.Ytpibpapolcdeiaa
open Go.ChangeShapes Go.WideShapes Go.ChangeAt Go.RowKit
set_option linter.unusedVariables false
set_option linter.unusedSimpArgs false
set_option maxRecDepth 100000

theorem Fld.any (X : List Nat) (hl : X.length = 64) (hb : ∀ c ∈ X, c < 256) : Fld X (crcSum (X.drop 4)) (unbe (X.take 4)) (unbe ((X.drop 4).take 6)) (unbe ((X.drop 10).take 4)) (unbe ((X.drop 16).take 6)) (X.getD 14 0) (X.getD 15 0) :=
  ⟨hl, hb, rfl, rfl, rfl, rfl, rfl, rfl, rfl⟩
section
variable (gen base run i : Nat) (buf : List Nat)
theorem sgImg_d4 : (sgImg gen base run i buf).drop 4 = sgBody gen base run i buf := by unfold sgImg; exact List.drop_left' (by simp)
theorem sgImg_t4 : (sgImg gen base run i buf).take 4 = be 4 (crcSum (sgBody gen base run i buf)) := by unfold sgImg; exact List.take_left' (by simp)
theorem sgImg_d10 : (sgImg gen base run i buf).drop 10 = be 4 run ++ ([i] ++ ([(sgChunk buf i).length] ++ (sgPre i base ++ (sgChunk buf i ++ List.replicate (sgW i - (sgChunk buf i).length) 0)))) := by
  rw [show (10 : Nat) = 4 + 6 from rfl, ← List.drop_drop, sgImg_d4]
  unfold sgBody
  exact List.drop_left' (by simp)
theorem sgImg_d14 : (sgImg gen base run i buf).drop 14 = [i] ++ ([(sgChunk buf i).length] ++ (sgPre i base ++ (sgChunk buf i ++ List.replicate (sgW i - (sgChunk buf i).length) 0))) := by
  rw [show (14 : Nat) = 10 + 4 from rfl, ← List.drop_drop, sgImg_d10]
  exact List.drop_left' (by simp)
theorem sgImg_d16 : (sgImg gen base run i buf).drop 16 = sgPre i base ++ (sgChunk buf i ++ List.replicate (sgW i - (sgChunk buf i).length) 0) := by
  rw [show (16 : Nat) = 14 + 2 from rfl, ← List.drop_drop, sgImg_d14]
  rfl
theorem getD_dropz (l : List Nat) (k j : Nat) : l.getD (k + j) 0 = (l.drop k).getD j 0 := by
  rw [List.getD_eq_getElem?_getD, List.getD_eq_getElem?_getD, List.getElem?_drop]
theorem sgImg_fld (hi : i < 256) (hb : ∀ c ∈ buf, c < 256) (hg : gen < 281474976710656 ∧ run < 4294967296) :
    Fld (sgImg gen base run i buf) (crcSum (sgBody gen base run i buf)) (crcSum (sgBody gen base run i buf)) gen run (unbe (((sgImg gen base run i buf).drop 16).take 6)) i (sgChunk buf i).length := by
  have hS := sumLt _ (sgBody_byte gen base run i buf hi hb)
  refine ⟨sgImg_len _ _ _ _ _, sgImg_byte gen base run i buf hi hb, by rw [sgImg_d4], ?_, ?_, ?_, rfl, ?_, ?_⟩
  · rw [sgImg_t4, unbe_be, Nat.mod_eq_of_lt (by omega)]
  · rw [sgImg_d4]
    unfold sgBody
    rw [List.take_left' (by simp), unbe_be, Nat.mod_eq_of_lt (by omega)]
  · rw [sgImg_d10, List.take_left' (by simp), unbe_be, Nat.mod_eq_of_lt (by omega)]
  · rw [show (14 : Nat) = 14 + 0 from rfl, getD_dropz, sgImg_d14]
    rfl
  · rw [show (15 : Nat) = 14 + 1 from rfl, getD_dropz, sgImg_d14]
    rfl
theorem sgImg_base (hb : base < 281474976710656) : unbe (((sgImg gen base run 0 buf).drop 16).take 6) = base := by
  rw [sgImg_d16]
  unfold sgPre
  rw [if_pos rfl, List.take_left' (by simp), unbe_be, Nat.mod_eq_of_lt (by omega)]
theorem sgImg_part : sgPart (sgImg gen base run i buf) i (sgChunk buf i).length = sgChunk buf i := by
  have hw := sgW_le i
  have hp := sgPre_len i base
  unfold sgPart
  rw [show 64 - sgW i = 16 + (48 - sgW i) by omega, ← List.drop_drop, sgImg_d16, List.drop_left' hp]
  exact List.take_left' rfl
theorem sgImg_run (hi : i < 256) (hb : ∀ c ∈ buf, c < 256) (hg : gen < 281474976710656 ∧ run < 4294967296) : unbe (((sgImg gen base run i buf).drop 10).take 4) = run := (sgImg_fld gen base run i buf hi hb hg).r.symm
theorem sgImg_gen (hi : i < 256) (hb : ∀ c ∈ buf, c < 256) (hg : gen < 281474976710656 ∧ run < 4294967296) : unbe (((sgImg gen base run i buf).drop 4).take 6) = gen := (sgImg_fld gen base run i buf hi hb hg).g.symm
end
theorem st0_succ (i : Nat) : st0 (i + 1) = st0 i + sgW i := by unfold st0 sgW; split <;> omega
theorem chunk_next (buf : List Nat) (i : Nat) : buf.take (st0 i) ++ sgChunk buf i = buf.take (st0 (i + 1)) := by
  unfold sgChunk
  rw [st0_succ, List.take_add]
theorem st0_zero : st0 0 = 0 := rfl
theorem st0_mono {i j : Nat} (h : i ≤ j) : st0 i ≤ st0 j := by unfold st0; omega
/-- A segment as its sectors hold it, from sector a on. -/
structure SegDev (L : List Sec) (a gen base : Nat) (buf : List Nat) (rn : Nat → Nat) : Prop where
  on : ∀ i, i < 8 → (i = 0 ∨ st0 i < buf.length) → (L.getD (a + i) zeroSec).now = sgImg gen base (rn i) i buf
  run : ∀ i, i < 8 → rn i < 4294967295
  up : ∀ i j, i ≤ j → j < 8 → (j = 0 ∨ st0 j < buf.length) → rn i ≤ rn j
  off : ∀ i, i < 8 → 0 < i → buf.length ≤ st0 i → crcSum ((L.getD (a + i) zeroSec).now.drop 4) ≠ unbe ((L.getD (a + i) zeroSec).now.take 4) ∨ unbe (((L.getD (a + i) zeroSec).now.drop 4).take 6) ≠ gen
def runOf (s : Sec) : Nat := unbe ((s.now.drop 10).take 4)
end Go.Proofs.Ytpibpapolcdeiaa
/- slog: a segment is read off the device. -/
namespace Go.Proofs.Ytpibpapolcdeiaa
open Go.ChangeShapes Go.WideShapes Go.ChangeAt Go.RowKit
set_option linter.unusedVariables false
set_option linter.unusedSimpArgs false
set_option maxRecDepth 100000

def readJ6 (w0 : World) (d sb lb c frm kk idx i : Nat) (L : List Sec) (segs nx run : Int) (vl : Value) (fr : Bool) (X : List Nat) (l : Nat → Bool) (x : Nat → Value) (w' : World) : Prop :=
  ∃ xb xc, (IsDev w' d sb L c) ∧
  (Blk w' lb (lgC d frm segs vl nx run fr) 75) ∧
  (Keep [] w0 w') ∧
  (l 14 = true ∨ l 15 = true ∨ l 17 = true → l 13 = true) ∧
  (l 0 = true → x 0 = .pointer (some ⟨lb, 0, none⟩)) ∧
  (l 1 = true → x 1 = .pointer (some ⟨lb, 0, none⟩)) ∧
  (l 2 = true → x 2 = .pointer (some ⟨lb, 0, none⟩)) ∧
  (l 3 = true → x 3 = .pointer (some ⟨d, 0, none⟩)) ∧
  (l 4 = true → x 4 = .pointer (some ⟨lb, 0, none⟩)) ∧
  (l 5 = true → x 5 = .pointer (some ⟨lb, 0, none⟩)) ∧
  (l 6 = true → x 6 = .pointer (some ⟨lb, 1, none⟩)) ∧
  (l 7 = true → x 7 = .int .i64 (frm : Int)) ∧
  (l 8 = true → x 8 = .int .i64 (kk : Int)) ∧
  (l 9 = true → x 9 = .int .i64 ((kk : Int) * 8)) ∧
  (l 10 = true → x 10 = .int .i64 ((frm : Int) + (kk : Int) * 8)) ∧
  (l 11 = true → x 11 = .int .i64 (i : Int)) ∧
  (l 12 = true → x 12 = .int .i64 (idx : Int)) ∧
  (l 13 = true → x 13 = .tuple #[.slice (some ⟨xb, 0, none⟩) 64 xc, .int .i64 0] ∧ Buf w' w0.heap.size 5 (.slice (some ⟨xb, 0, none⟩) 64 xc) X) ∧
  (l 14 = true → x 14 = .tuple #[.slice (some ⟨xb, 0, none⟩) 64 xc, .int .i64 0]) ∧
  (l 15 = true → x 15 = .slice (some ⟨xb, 0, none⟩) 64 xc) ∧
  (l 16 = true → x 16 = .int .i64 0) ∧
  (l 17 = true → x 17 = .slice (some ⟨xb, 0, none⟩) 64 xc) ∧
  (l 18 = true → x 18 = .int .i64 0)
def readJ9 (w0 : World) (lb d xb xc RN : Nat) (frm segs nx run run2 : Int) (vl S1014 : Value) (fr : Bool) (X : List Nat) (l : Nat → Bool) (x : Nat → Value) (w' : World) : Prop :=
  (l 13 = false → Blk w' lb (lgC d frm segs vl nx run fr) 75) ∧
  (l 13 = true → Blk w' lb (lgC d frm segs vl nx run2 fr) 75) ∧
  (l 13 = true → l 4 = true) ∧
  (Buf w' 0 5 (.slice (some ⟨xb, 0, none⟩) 64 xc) X) ∧
  (Keep [lb] w0 w') ∧
  (l 0 = true → x 0 = .pointer (some ⟨lb, 0, none⟩)) ∧
  (l 1 = true → x 1 = .pointer (some ⟨lb, 0, none⟩)) ∧
  (l 2 = true → x 2 = .pointer (some ⟨lb, 0, none⟩)) ∧
  (l 3 = true → x 3 = .pointer (some ⟨lb, 5, none⟩)) ∧
  (l 4 = true → x 4 = .int .i64 run) ∧
  (l 5 = true → x 5 = .slice (some ⟨xb, 0, none⟩) 64 xc) ∧
  (l 6 = true → x 6 = S1014) ∧
  (l 7 = true → x 7 = .int .u64 (RN : Int)) ∧
  (l 8 = true → x 8 = .int .i64 (RN : Int)) ∧
  (l 9 = true → x 9 = .int .i64 ((RN : Int) + 1)) ∧
  (l 10 = true → x 10 = .int .i64 run2 ∧ Hid (l 4 = true)) ∧
  (l 11 = true → x 11 = .pointer (some ⟨lb, 0, none⟩)) ∧
  (l 12 = true → x 12 = .pointer (some ⟨lb, 5, none⟩)) ∧
  (l 13 = true → True)
theorem Buf.at64 {w : World} {base : Nat} {E : TypeId} {v : Value} {l : List Nat} (h : Buf w base E v l) (hl : l.length = 64) : ∃ g cap, v = .slice (some ⟨g, 0, none⟩) 64 cap := by
  obtain ⟨g, cap, rfl, _⟩ := h.at' (by omega)
  rw [hl]
  exact ⟨g, cap, rfl⟩
theorem Buf.lift {w : World} {B : Nat} {E : TypeId} {v : Value} {l : List Nat} (h : Buf w 0 E v l) (hB : ∀ q, v.ownBlock = some q → B ≤ q) : Buf w B E v l := by
  refine ⟨h.1, ?_⟩
  rcases h.2 with h2 | ⟨g, cap, cur, rfl, _, r⟩
  · exact .inl h2
  · exact .inr ⟨g, cap, cur, rfl, hB g rfl, r⟩
/-- How far the reading is. -/
def RdC (gen base : Nat) (buf : List Nat) (rn : Nat → Nat) (i : Nat) (wh : Bool) (g0 b0 r0 : Nat) (cur : List Nat) : Prop :=
  (wh = true ∧ ((i = 0 ∧ g0 = 0 ∧ b0 = 0 ∧ r0 = 0 ∧ cur = []) ∨ (0 < i ∧ g0 = gen ∧ b0 = base ∧ r0 = rn (i - 1) ∧ cur = buf.take (st0 i)))) ∨ (wh = false ∧ 0 < i ∧ g0 = gen ∧ b0 = base ∧ cur = buf)
structure RdW (W0 : World) (p lb d : Nat) (frm segs nx run : Int) (vl : Value) (fr : Bool) (a M : Nat) (L : List Sec) (i g0 b0 r0 : Nat) (cur : List Nat) (vb : Value) (run2 : Int) (w' : World) : Prop where
  seg : Blk w' p (sgC g0 b0 r0 vb (.slice none 0 0)) 80
  buf : Buf w' W0.heap.size 5 vb cur
  log : Blk w' lb (lgC d frm segs vl nx run2 fr) 75
  lo : run ≤ run2
  hi : run2 ≤ max run (M + 1)
  all : ∀ j, j < i → (runOf (L.getD (a + j) zeroSec) : Int) < run2
  keep : Keep [lb] W0 w'
  new : W0.heap.size ≤ p
set_option maxHeartbeats 8000000 in
theorem read_some {w : World} {d sb lb c : Nat} {L : List Sec} (hd : IsDev w d sb L c) (frm segs : Nat) (vl : Value) (nx run : Int) (fr : Bool) (hl : Blk w lb (lgC d frm segs vl nx run fr) 75) (kk a M gen base : Nat) (rs : List Rcd) (rn : Nat → Nat)
    (hk : kk < segs ∧ segs ≤ 200 ∧ frm ≤ 100000) (ha : a = frm + kk * 8) (haL : a + 8 ≤ L.length) (hS : SegDev L a gen base (encRs rs) rn) (hok : ∀ r ∈ rs, r.ok) (hbl : (encRs rs).length ≤ 378) (hg : 0 < gen ∧ gen < 281474976710656 ∧ base < 281474976710656) (hgk : (gen - 1) % segs = kk)
    (hrun : 0 ≤ run ∧ run < 4294967296) (hM : M < 4294967295 ∧ ∀ i, i < 8 → runOf (L.getD (a + i) zeroSec) ≤ M) :
    Calls Try.prog 28 #[.pointer (some ⟨lb, 0, none⟩), .int .i64 (kk : Int)] w fun e w' => ∃ p vb vr Lr run2 rr, e = .returned (.pointer (some ⟨p, 0, none⟩)) ∧ Lr.map (·.r) = rs ∧ Blk w' p (sgC gen base rr vb vr) 80 ∧ Buf w' w.heap.size 5 vb (encRs rs) ∧ RRow w' w.heap.size vr Lr ∧
      w.heap.size ≤ p ∧ Blk w' lb (lgC d frm segs vl nx run2 fr) 75 ∧ run ≤ run2 ∧ run2 ≤ max run (M + 1) ∧ (∀ i, i < 8 → (runOf (L.getD (a + i) zeroSec) : Int) < run2) ∧ Keep [lb] w w' ∧ (p :: (vb.ownBlock.toList ++ rcF vr Lr)).Nodup := by
  obtain ⟨i8, hi8, hz80, hz81, hz82⟩ := info_parts Try.info8
  have HS := Lib.hid hS
  have HOK := Lib.hid hok
  have HBL := Lib.hid hbl
  have HG := Lib.hid hg
  have HGK := Lib.hid hgk
  have HK := Lib.hid hk
  have HA := Lib.hid ha
  have HAL := Lib.hid haL
  have HM := Lib.hid hM
  have HRU := Lib.hid hrun
  have HD := Lib.hid hd
  have HBY := Lib.hid (encRs_byte rs hok)
  have HLL := Lib.hid hl.lt
  have HDL := Lib.hid (show d ≠ lb ∧ sb ≠ lb from ⟨hd.dev.ty.ne hl.ty (by decide), hd.secs.ty.ne hl.ty (by decide)⟩)
  have HWA : Hid (IntKind.i64.wrap ((kk : Int) * 8) = (kk : Int) * 8) := Lib.hid (by rw [IntKind.wrap_i64]; omega)
  have HWB : Hid (IntKind.i64.wrap ((frm : Int) + (kk : Int) * 8) = (frm : Int) + (kk : Int) * 8) := Lib.hid (by rw [IntKind.wrap_i64]; omega)
  have hbz : ∀ W : World, (Instr.build 80 #[]).run Try.prog W = .ok (.agg (sgC 0 0 0 (.slice none 0 0) (.slice none 0 0)).toArray) W := fun W => run_build W _ _ _ (by rfl)
  clear hS hok hbl hg hgk hk ha haL hM hrun hd
  go_enter Try.func28, Try.ntmps28
  go_upto_region 2 with fail
  have hW0 : RdW w w.heap.size lb d frm segs nx run vl fr a M L 0 0 0 0 [] (.slice none 0 0) run (w.alloc (.cells (sgC 0 0 0 (.slice none 0 0) (.slice none 0 0)).toArray 80)) :=
    ⟨Blk.new _ _ _, Buf.nil _ _ _, hl.keep ((Keep.refl [] w).alloc _) (by simp), Int.le_refl _, Int.le_max_left _ _, fun j hj => absurd hj (by omega), (Keep.refl _ w).alloc _, Nat.le_refl _⟩
  change Code.wp _ _ _ _ (w.alloc (.cells (sgC 0 0 0 (.slice none 0 0) (.slice none 0 0)).toArray 80))
  have HW0 := Lib.hid hW0
  clear hW0 hl hbz
  generalize w.alloc (.cells (sgC 0 0 0 (.slice none 0 0) (.slice none 0 0)).toArray 80) = wa at *
  generalize w.heap.size = p at *
  go_wp2_with fail
  go_loopw [6, 12] (fun s6 s12 wr => ∃ (i : Nat) (wh : Bool) (g0 b0 r0 : Nat) (cur : List Nat) (vb : Value) (rq : Int), s6 = .bool wh ∧ s12 = .int .i64 (i : Int) ∧ i ≤ 8 ∧ RdW w p lb d frm segs nx run vl fr a M L i g0 b0 r0 cur vb rq wr ∧ RdC gen base (encRs rs) rn i wh g0 b0 r0 cur) (fun _ x _ => 9 - (intOf x).toNat)
  case atStart => exact ⟨0, true, 0, 0, 0, [], _, run, rfl, rfl, by omega, HW0.out, .inl ⟨rfl, .inl ⟨rfl, rfl, rfl, rfl, rfl⟩⟩⟩
  case round =>
  clear HW0
  obtain ⟨i, wh, g0, b0, r0, cur, vb, rq, rfl, rfl, hi8', hW, hC⟩ := hrel
  by_cases hlt : i < 8
  · have q0 : decide ((i : Int) < 8) = true := decide_eq_true (by omega)
    obtain ⟨idx, hidx⟩ : ∃ idx, idx = a + i := ⟨_, rfl⟩
    obtain ⟨sc, hsc, hscm⟩ := sec_mem (show idx < L.length by have := HAL.out; omega)
    have hscok := HD.out.ok sc hscm
    obtain ⟨X, hX⟩ : ∃ X, X = sc.now := ⟨_, rfl⟩
    have hget : L.getD (a + i) zeroSec = sc := by rw [← hidx, List.getD_eq_getElem?_getD, hsc]; rfl
    have HSC := Lib.hid hsc
    have HGET := Lib.hid hget
    have HSX : Hid (sc.now = X) := Lib.hid hX.symm
    have HX64 : Hid (X.length = 64) := Lib.hid (by rw [hX]; exact hscok.1)
    have HXB : Hid (∀ c ∈ X, c < 256) := Lib.hid (by rw [hX]; exact hscok.2.2.1)
    have HWC : Hid (IntKind.i64.wrap ((frm : Int) + (kk : Int) * 8 + (i : Int)) = (idx : Int)) := Lib.hid (by have := HA.out; have := HK.out; rw [IntKind.wrap_i64]; omega)
    have hdr := HD.out.keep hW.keep (by simpa using HDL.out.1) (by simpa using HDL.out.2)
    have hLr := hW.log
    have HW := Lib.hid hW
    have HCC := Lib.hid hC
    have HLT := Lib.hid hlt
    have HIX := Lib.hid hidx
    clear hsc hscm hscok hX hget hW hC hidx hi8'
    go_wp2_with fail
    refine wp_region_inv (readJ6 wr d sb lb c frm kk idx i L segs nx rq vl fr X) (by kernel_rfl) (by kernel_rfl) (by kernel_rfl) ?_ (Steps.cons 0 ?_ (Steps.cons 1 ?_ (Steps.cons 2 ?_ (Steps.cons 3 ?_ (Steps.cons 4 ?_ (Steps.cons 5 ?_ (Steps.cons 6 ?_ (Steps.cons 7 ?_ (Steps.cons 8 ?_ (Steps.cons 9 ?_ (Steps.cons 10 ?_ (Steps.cons 11 ?_ (Steps.cons 12 ?_ (Steps.cons 13 ?_ (Steps.cons 14 ?_ (Steps.cons 15 ?_ (Steps.cons 16 ?_ (Steps.cons 17 ?_ (Steps.cons 18 ?_ (Steps.nil 19)))))))))))))))))))) 19 rfl ?_
    · intro x
      exact ⟨0, 0, hdr.keep (Keep.refl [] _).drew (by simp) (by simp), hLr.drew, (Keep.refl _ _).drew, fun h => absurd h (by decide), fun h => absurd h (by decide), fun h => absurd h (by decide), fun h => absurd h (by decide), fun h => absurd h (by decide), fun h => absurd h (by decide), fun h => absurd h (by decide), fun h => absurd h (by decide), fun h => absurd h (by decide), fun h => absurd h (by decide), fun h => absurd h (by decide), fun h => absurd h (by decide), fun h => absurd h (by decide), fun h => absurd h (by decide), fun h => absurd h (by decide), fun h => absurd h (by decide), fun h => absurd h (by decide), fun h => absurd h (by decide), fun h => absurd h (by decide), fun h => absurd h (by decide)⟩
    · intro l x w' hJ hi hd
      obtain ⟨xb, xc, hdv, hL, hK, h1413, h0, h1, h2, h3, h4, h5, h6, h7, h8, h9, h10, h11, h12, h13, h14, h15, h16, h17, h18⟩ := hJ
      refine Runs.of (b := ?bA0) ?eA0 ?_
      case eA0 => simp only [putV, Act.put, List.setIfInBounds_toArray, List.set_cons_zero, List.set_cons_succ]; rfl
      intro K' hK'
      go_simp
      exact hK'.go _ rfl ⟨xb, xc, hdv, hL, hK, h1413, fun _ => rfl, h1, h2, h3, h4, h5, h6, h7, h8, h9, h10, h11, h12, h13, h14, h15, h16, h17, h18⟩
    · intro l x w' hJ hi hd
      obtain ⟨xb, xc, hdv, hL, hK, h1413, h0, h1, h2, h3, h4, h5, h6, h7, h8, h9, h10, h11, h12, h13, h14, h15, h16, h17, h18⟩ := hJ
      have e0 := h0 (show l 0 = true by first | exact hd.1 rfl | exact hd.2.1 rfl | exact hd.2.2.1 rfl | exact hd.2.2.2.1 rfl | exact hd.2.2.2.2.1 rfl | exact hd.2.2.2.2.2.1 rfl)
      refine Runs.of (b := ?bA1) ?eA1 ?_
      case eA1 => simp only [putV, Act.put, List.setIfInBounds_toArray, List.set_cons_zero, List.set_cons_succ, e0]; rfl
      intro K' hK'
      go_simp
      exact hK'.go _ rfl ⟨xb, xc, hdv, hL, hK, h1413, h0, fun _ => rfl, h2, h3, h4, h5, h6, h7, h8, h9, h10, h11, h12, h13, h14, h15, h16, h17, h18⟩
    · intro l x w' hJ hi hd
      obtain ⟨xb, xc, hdv, hL, hK, h1413, h0, h1, h2, h3, h4, h5, h6, h7, h8, h9, h10, h11, h12, h13, h14, h15, h16, h17, h18⟩ := hJ
      have e1 := h1 (show l 1 = true by first | exact hd.1 rfl | exact hd.2.1 rfl | exact hd.2.2.1 rfl | exact hd.2.2.2.1 rfl | exact hd.2.2.2.2.1 rfl | exact hd.2.2.2.2.2.1 rfl)
      refine Runs.of (b := ?bA2) ?eA2 ?_
      case eA2 => simp only [putV, Act.put, List.setIfInBounds_toArray, List.set_cons_zero, List.set_cons_succ, e1]; rfl
      intro K' hK'
      go_simp
      exact hK'.go _ rfl ⟨xb, xc, hdv, hL, hK, h1413, h0, h1, fun _ => rfl, h3, h4, h5, h6, h7, h8, h9, h10, h11, h12, h13, h14, h15, h16, h17, h18⟩
    · intro l x w' hJ hi hd
      obtain ⟨xb, xc, hdv, hL, hK, h1413, h0, h1, h2, h3, h4, h5, h6, h7, h8, h9, h10, h11, h12, h13, h14, h15, h16, h17, h18⟩ := hJ
      have e2 := h2 (show l 2 = true by first | exact hd.1 rfl | exact hd.2.1 rfl | exact hd.2.2.1 rfl | exact hd.2.2.2.1 rfl | exact hd.2.2.2.2.1 rfl | exact hd.2.2.2.2.2.1 rfl)
      have c0 := lg_0 hL
      refine Runs.of (b := ?bA3) ?eA3 ?_
      case eA3 => simp only [putV, Act.put, List.setIfInBounds_toArray, List.set_cons_zero, List.set_cons_succ, e2]; rfl
      intro K' hK'
      go_simp
      exact hK'.go _ rfl ⟨xb, xc, hdv, hL, hK, h1413, h0, h1, h2, fun _ => rfl, h4, h5, h6, h7, h8, h9, h10, h11, h12, h13, h14, h15, h16, h17, h18⟩
    · intro l x w' hJ hi hd
      obtain ⟨xb, xc, hdv, hL, hK, h1413, h0, h1, h2, h3, h4, h5, h6, h7, h8, h9, h10, h11, h12, h13, h14, h15, h16, h17, h18⟩ := hJ
      refine Runs.of (b := ?bA4) ?eA4 ?_
      case eA4 => simp only [putV, Act.put, List.setIfInBounds_toArray, List.set_cons_zero, List.set_cons_succ]; rfl
      intro K' hK'
      go_simp
      exact hK'.go _ rfl ⟨xb, xc, hdv, hL, hK, h1413, h0, h1, h2, h3, fun _ => rfl, h5, h6, h7, h8, h9, h10, h11, h12, h13, h14, h15, h16, h17, h18⟩
    · intro l x w' hJ hi hd
      obtain ⟨xb, xc, hdv, hL, hK, h1413, h0, h1, h2, h3, h4, h5, h6, h7, h8, h9, h10, h11, h12, h13, h14, h15, h16, h17, h18⟩ := hJ
      have e4 := h4 (show l 4 = true by first | exact hd.1 rfl | exact hd.2.1 rfl | exact hd.2.2.1 rfl | exact hd.2.2.2.1 rfl | exact hd.2.2.2.2.1 rfl | exact hd.2.2.2.2.2.1 rfl)
      refine Runs.of (b := ?bA5) ?eA5 ?_
      case eA5 => simp only [putV, Act.put, List.setIfInBounds_toArray, List.set_cons_zero, List.set_cons_succ, e4]; rfl
      intro K' hK'
      go_simp
      exact hK'.go _ rfl ⟨xb, xc, hdv, hL, hK, h1413, h0, h1, h2, h3, h4, fun _ => rfl, h6, h7, h8, h9, h10, h11, h12, h13, h14, h15, h16, h17, h18⟩
    · intro l x w' hJ hi hd
      obtain ⟨xb, xc, hdv, hL, hK, h1413, h0, h1, h2, h3, h4, h5, h6, h7, h8, h9, h10, h11, h12, h13, h14, h15, h16, h17, h18⟩ := hJ
      have e5 := h5 (show l 5 = true by first | exact hd.1 rfl | exact hd.2.1 rfl | exact hd.2.2.1 rfl | exact hd.2.2.2.1 rfl | exact hd.2.2.2.2.1 rfl | exact hd.2.2.2.2.2.1 rfl)
      refine Runs.of (b := ?bA6) ?eA6 ?_
      case eA6 => simp only [putV, Act.put, List.setIfInBounds_toArray, List.set_cons_zero, List.set_cons_succ, e5]; rfl
      intro K' hK'
      go_simp
      exact hK'.go _ rfl ⟨xb, xc, hdv, hL, hK, h1413, h0, h1, h2, h3, h4, h5, fun _ => rfl, h7, h8, h9, h10, h11, h12, h13, h14, h15, h16, h17, h18⟩
    · intro l x w' hJ hi hd
      obtain ⟨xb, xc, hdv, hL, hK, h1413, h0, h1, h2, h3, h4, h5, h6, h7, h8, h9, h10, h11, h12, h13, h14, h15, h16, h17, h18⟩ := hJ
      have e6 := h6 (show l 6 = true by first | exact hd.1 rfl | exact hd.2.1 rfl | exact hd.2.2.1 rfl | exact hd.2.2.2.1 rfl | exact hd.2.2.2.2.1 rfl | exact hd.2.2.2.2.2.1 rfl)
      have c1 := lg_1 hL
      refine Runs.of (b := ?bA7) ?eA7 ?_
      case eA7 => simp only [putV, Act.put, List.setIfInBounds_toArray, List.set_cons_zero, List.set_cons_succ, e6]; rfl
      intro K' hK'
      go_simp
      exact hK'.go _ rfl ⟨xb, xc, hdv, hL, hK, h1413, h0, h1, h2, h3, h4, h5, h6, fun _ => rfl, h8, h9, h10, h11, h12, h13, h14, h15, h16, h17, h18⟩
    · intro l x w' hJ hi hd
      obtain ⟨xb, xc, hdv, hL, hK, h1413, h0, h1, h2, h3, h4, h5, h6, h7, h8, h9, h10, h11, h12, h13, h14, h15, h16, h17, h18⟩ := hJ
      refine Runs.of (b := ?bA8) ?eA8 ?_
      case eA8 => simp only [putV, Act.put, List.setIfInBounds_toArray, List.set_cons_zero, List.set_cons_succ]; rfl
      intro K' hK'
      go_simp
      exact hK'.go _ rfl ⟨xb, xc, hdv, hL, hK, h1413, h0, h1, h2, h3, h4, h5, h6, h7, fun _ => rfl, h9, h10, h11, h12, h13, h14, h15, h16, h17, h18⟩
    · intro l x w' hJ hi hd
      obtain ⟨xb, xc, hdv, hL, hK, h1413, h0, h1, h2, h3, h4, h5, h6, h7, h8, h9, h10, h11, h12, h13, h14, h15, h16, h17, h18⟩ := hJ
      have e8 := h8 (show l 8 = true by first | exact hd.1 rfl | exact hd.2.1 rfl | exact hd.2.2.1 rfl | exact hd.2.2.2.1 rfl | exact hd.2.2.2.2.1 rfl | exact hd.2.2.2.2.2.1 rfl)
      refine Runs.of (b := ?bA9) ?eA9 ?_
      case eA9 => simp only [putV, Act.put, List.setIfInBounds_toArray, List.set_cons_zero, List.set_cons_succ, e8]; rfl
      intro K' hK'
      go_simp
      exact hK'.go _ rfl ⟨xb, xc, hdv, hL, hK, h1413, h0, h1, h2, h3, h4, h5, h6, h7, h8, fun _ => (by first | rfl | exact congrArg (Value.int .i64) HWA.out), h10, h11, h12, h13, h14, h15, h16, h17, h18⟩
    · intro l x w' hJ hi hd
      obtain ⟨xb, xc, hdv, hL, hK, h1413, h0, h1, h2, h3, h4, h5, h6, h7, h8, h9, h10, h11, h12, h13, h14, h15, h16, h17, h18⟩ := hJ
      have e7 := h7 (show l 7 = true by first | exact hd.1 rfl | exact hd.2.1 rfl | exact hd.2.2.1 rfl | exact hd.2.2.2.1 rfl | exact hd.2.2.2.2.1 rfl | exact hd.2.2.2.2.2.1 rfl)
      have e9 := h9 (show l 9 = true by first | exact hd.1 rfl | exact hd.2.1 rfl | exact hd.2.2.1 rfl | exact hd.2.2.2.1 rfl | exact hd.2.2.2.2.1 rfl | exact hd.2.2.2.2.2.1 rfl)
      refine Runs.of (b := ?bA10) ?eA10 ?_
      case eA10 => simp only [putV, Act.put, List.setIfInBounds_toArray, List.set_cons_zero, List.set_cons_succ, e7, e9]; rfl
      intro K' hK'
      go_simp
      exact hK'.go _ rfl ⟨xb, xc, hdv, hL, hK, h1413, h0, h1, h2, h3, h4, h5, h6, h7, h8, h9, fun _ => (by first | rfl | exact congrArg (Value.int .i64) HWB.out), h11, h12, h13, h14, h15, h16, h17, h18⟩
    · intro l x w' hJ hi hd
      obtain ⟨xb, xc, hdv, hL, hK, h1413, h0, h1, h2, h3, h4, h5, h6, h7, h8, h9, h10, h11, h12, h13, h14, h15, h16, h17, h18⟩ := hJ
      refine Runs.of (b := ?bA11) ?eA11 ?_
      case eA11 => simp only [putV, Act.put, List.setIfInBounds_toArray, List.set_cons_zero, List.set_cons_succ]; rfl
      intro K' hK'
      go_simp
      exact hK'.go _ rfl ⟨xb, xc, hdv, hL, hK, h1413, h0, h1, h2, h3, h4, h5, h6, h7, h8, h9, h10, fun _ => rfl, h12, h13, h14, h15, h16, h17, h18⟩
    · intro l x w' hJ hi hd
      obtain ⟨xb, xc, hdv, hL, hK, h1413, h0, h1, h2, h3, h4, h5, h6, h7, h8, h9, h10, h11, h12, h13, h14, h15, h16, h17, h18⟩ := hJ
      have e10 := h10 (show l 10 = true by first | exact hd.1 rfl | exact hd.2.1 rfl | exact hd.2.2.1 rfl | exact hd.2.2.2.1 rfl | exact hd.2.2.2.2.1 rfl | exact hd.2.2.2.2.2.1 rfl)
      have e11 := h11 (show l 11 = true by first | exact hd.1 rfl | exact hd.2.1 rfl | exact hd.2.2.1 rfl | exact hd.2.2.2.1 rfl | exact hd.2.2.2.2.1 rfl | exact hd.2.2.2.2.2.1 rfl)
      refine Runs.of (b := ?bA12) ?eA12 ?_
      case eA12 => simp only [putV, Act.put, List.setIfInBounds_toArray, List.set_cons_zero, List.set_cons_succ, e10, e11]; rfl
      intro K' hK'
      go_simp
      exact hK'.go _ rfl ⟨xb, xc, hdv, hL, hK, h1413, h0, h1, h2, h3, h4, h5, h6, h7, h8, h9, h10, h11, fun _ => (by first | rfl | exact congrArg (Value.int .i64) HWC.out), h13, h14, h15, h16, h17, h18⟩
    · intro l x w' hJ hi hd
      obtain ⟨xb, xc, hdv, hL, hK, h1413, h0, h1, h2, h3, h4, h5, h6, h7, h8, h9, h10, h11, h12, h13, h14, h15, h16, h17, h18⟩ := hJ
      have e3 := h3 (show l 3 = true by first | exact hd.1 rfl | exact hd.2.1 rfl | exact hd.2.2.1 rfl | exact hd.2.2.2.1 rfl | exact hd.2.2.2.2.1 rfl | exact hd.2.2.2.2.2.1 rfl)
      have e12 := h12 (show l 12 = true by first | exact hd.1 rfl | exact hd.2.1 rfl | exact hd.2.2.1 rfl | exact hd.2.2.2.1 rfl | exact hd.2.2.2.2.1 rfl | exact hd.2.2.2.2.2.1 rfl)
      refine Runs.of (b := ?bA13) ?eA13 ?_
      case eA13 => simp only [putV, Act.put, List.setIfInBounds_toArray, List.set_cons_zero, List.set_cons_succ, e3, e12]; rfl
      intro K' hK'
      go_simp
      refine (Read_in hdv idx sc HSC.out).mono ?_
      rintro e w2 ⟨v2, rfl, hB2, k2⟩
      rw [HSX.out] at hB2
      obtain ⟨x2, x3, rfl⟩ := hB2.at64 HX64.out
      have HB2 := Lib.hid (hB2.mono hK.size)
      clear hB2
      go_simp
      exact hK'.go (.tuple #[.slice (some ⟨x2, 0, none⟩) 64 x3, .int .i64 0]) rfl ⟨x2, x3, hdv.keep k2 (by simp) (by simp), hL.keep k2 (by simp), hK.trans k2, fun _ => rfl, h0, h1, h2, h3, h4, h5, h6, h7, h8, h9, h10, h11, h12, fun _ => ⟨rfl, HB2.out⟩, fun h => absurd (h1413 (.inl h)) (by simp [hi]), fun h => absurd (h1413 (.inr (.inl h))) (by simp [hi]), h16, fun h => absurd (h1413 (.inr (.inr h))) (by simp [hi]), h18⟩
    · intro l x w' hJ hi hd
      obtain ⟨xb, xc, hdv, hL, hK, h1413, h0, h1, h2, h3, h4, h5, h6, h7, h8, h9, h10, h11, h12, h13, h14, h15, h16, h17, h18⟩ := hJ
      have e13 := h13 (show l 13 = true by first | exact hd.1 rfl | exact hd.2.1 rfl | exact hd.2.2.1 rfl | exact hd.2.2.2.1 rfl | exact hd.2.2.2.2.1 rfl | exact hd.2.2.2.2.2.1 rfl)
      have HL13 : Hid (l 13 = true) := Lib.hid (by first | exact hd.1 rfl | exact hd.2.1 rfl | exact hd.2.2.1 rfl | exact hd.2.2.2.1 rfl | exact hd.2.2.2.2.1 rfl | exact hd.2.2.2.2.2.1 rfl)
      refine Runs.of (b := ?bA14) ?eA14 ?_
      case eA14 => simp only [putV, Act.put, List.setIfInBounds_toArray, List.set_cons_zero, List.set_cons_succ, e13.1]; rfl
      intro K' hK'
      go_simp
      exact hK'.go _ rfl ⟨xb, xc, hdv, hL, hK, fun h => HL13.out, h0, h1, h2, h3, h4, h5, h6, h7, h8, h9, h10, h11, h12, h13, fun _ => rfl, h15, h16, h17, h18⟩
    · intro l x w' hJ hi hd
      obtain ⟨xb, xc, hdv, hL, hK, h1413, h0, h1, h2, h3, h4, h5, h6, h7, h8, h9, h10, h11, h12, h13, h14, h15, h16, h17, h18⟩ := hJ
      have e14 := h14 (show l 14 = true by first | exact hd.1 rfl | exact hd.2.1 rfl | exact hd.2.2.1 rfl | exact hd.2.2.2.1 rfl | exact hd.2.2.2.2.1 rfl | exact hd.2.2.2.2.2.1 rfl)
      have HL13 : Hid (l 13 = true) := Lib.hid (h1413 (.inl (by first | exact hd.1 rfl | exact hd.2.1 rfl | exact hd.2.2.1 rfl | exact hd.2.2.2.1 rfl | exact hd.2.2.2.2.1 rfl | exact hd.2.2.2.2.2.1 rfl)))
      refine Runs.of (b := ?bA15) ?eA15 ?_
      case eA15 => simp only [putV, Act.put, List.setIfInBounds_toArray, List.set_cons_zero, List.set_cons_succ, e14]; rfl
      intro K' hK'
      go_simp
      exact hK'.go _ rfl ⟨xb, xc, hdv, hL, hK, fun h => HL13.out, h0, h1, h2, h3, h4, h5, h6, h7, h8, h9, h10, h11, h12, h13, h14, fun _ => rfl, h16, h17, h18⟩
    · intro l x w' hJ hi hd
      obtain ⟨xb, xc, hdv, hL, hK, h1413, h0, h1, h2, h3, h4, h5, h6, h7, h8, h9, h10, h11, h12, h13, h14, h15, h16, h17, h18⟩ := hJ
      have e14 := h14 (show l 14 = true by first | exact hd.1 rfl | exact hd.2.1 rfl | exact hd.2.2.1 rfl | exact hd.2.2.2.1 rfl | exact hd.2.2.2.2.1 rfl | exact hd.2.2.2.2.2.1 rfl)
      refine Runs.of (b := ?bA16) ?eA16 ?_
      case eA16 => simp only [putV, Act.put, List.setIfInBounds_toArray, List.set_cons_zero, List.set_cons_succ, e14]; rfl
      intro K' hK'
      go_simp
      exact hK'.go _ rfl ⟨xb, xc, hdv, hL, hK, h1413, h0, h1, h2, h3, h4, h5, h6, h7, h8, h9, h10, h11, h12, h13, h14, h15, fun _ => rfl, h17, h18⟩
    · intro l x w' hJ hi hd
      obtain ⟨xb, xc, hdv, hL, hK, h1413, h0, h1, h2, h3, h4, h5, h6, h7, h8, h9, h10, h11, h12, h13, h14, h15, h16, h17, h18⟩ := hJ
      have e15 := h15 (show l 15 = true by first | exact hd.1 rfl | exact hd.2.1 rfl | exact hd.2.2.1 rfl | exact hd.2.2.2.1 rfl | exact hd.2.2.2.2.1 rfl | exact hd.2.2.2.2.2.1 rfl)
      have HL13 : Hid (l 13 = true) := Lib.hid (h1413 (.inr (.inl (by first | exact hd.1 rfl | exact hd.2.1 rfl | exact hd.2.2.1 rfl | exact hd.2.2.2.1 rfl | exact hd.2.2.2.2.1 rfl | exact hd.2.2.2.2.2.1 rfl))))
      refine Runs.of (b := ?bA17) ?eA17 ?_
      case eA17 => simp only [putV, Act.put, List.setIfInBounds_toArray, List.set_cons_zero, List.set_cons_succ, e15]; rfl
      intro K' hK'
      go_simp
      exact hK'.go _ rfl ⟨xb, xc, hdv, hL, hK, fun h => HL13.out, h0, h1, h2, h3, h4, h5, h6, h7, h8, h9, h10, h11, h12, h13, h14, h15, h16, fun _ => rfl, h18⟩
    · intro l x w' hJ hi hd
      obtain ⟨xb, xc, hdv, hL, hK, h1413, h0, h1, h2, h3, h4, h5, h6, h7, h8, h9, h10, h11, h12, h13, h14, h15, h16, h17, h18⟩ := hJ
      have e16 := h16 (show l 16 = true by first | exact hd.1 rfl | exact hd.2.1 rfl | exact hd.2.2.1 rfl | exact hd.2.2.2.1 rfl | exact hd.2.2.2.2.1 rfl | exact hd.2.2.2.2.2.1 rfl)
      refine Runs.of (b := ?bA18) ?eA18 ?_
      case eA18 => simp only [putV, Act.put, List.setIfInBounds_toArray, List.set_cons_zero, List.set_cons_succ, e16]; rfl
      intro K' hK'
      go_simp
      exact hK'.go _ rfl ⟨xb, xc, hdv, hL, hK, h1413, h0, h1, h2, h3, h4, h5, h6, h7, h8, h9, h10, h11, h12, h13, h14, h15, h16, h17, fun _ => rfl⟩
    · intro l x w3 hJ hl
      obtain ⟨xb, xc, hdv, hL, hK, h1413, h0, h1, h2, h3, h4, h5, h6, h7, h8, h9, h10, h11, h12, h13, h14, h15, h16, h17, h18⟩ := hJ
      have hX6 := (h13 (hl 13 (by decide))).2.mono (Nat.zero_le _)
      have HXNEW := Lib.hid ((h13 (hl 13 (by decide))).2.lt xb rfl).1
      have e17 := h17 (hl 17 (by decide))
      have e18 := h18 (hl 18 (by decide))
      simp only [putV, Act.put, List.setIfInBounds_toArray, List.set_cons_zero, List.set_cons_succ, e17, e18]
      simp only [Nat.zero_add, Nat.reduceAdd]
      have HK6 := Lib.hid hK
      have hL6 := hL
      clear h0 h1 h2 h3 h4 h5 h6 h7 h8 h9 h10 h11 h12 h13 h14 h15 h16 h17 h18 hdv hL hK h1413 hdr hLr e17 e18 hl
      -- the greatest run
      obtain ⟨RN, hRN⟩ : ∃ RN, RN = unbe ((X.drop 10).take 4) := ⟨_, rfl⟩
      obtain ⟨S1014, hC1014, hS1014, _⟩ := cutE_both (P := Try.prog) 30 5 i8 Try.underlying30 hi8 hz81 (some ⟨xb, 0, none⟩) 64 xc (bcs X) 10 14 10 14 rfl rfl (by omega) (by omega) (by obtain ⟨_, a, c, he, hc, _⟩ := hX6.rd; rw [HX64.out] at he hc; injection he with _ h2 h3; omega)
      have HC1014 := Lib.hid hC1014
      have HS1014 : Hid (∀ W : World, Buf W 0 5 (.slice (some ⟨xb, 0, none⟩) 64 xc) X → Rd W S1014 ((X.drop 10).take 4)) := Lib.hid (fun W h => by
        have h1 := h.rd
        unfold Rd at h1
        rw [HX64.out] at h1
        have h2 := hS1014 W h1
        rw [bcs_part] at h2
        exact Rv.rd h2 (by rw [List.length_take, List.length_drop, HX64.out]; rfl))
      have HYr : Hid (∀ c ∈ (X.drop 10).take 4, c < 256) := Lib.hid (fun c hc => HXB.out c (List.mem_of_mem_drop (List.mem_of_mem_take hc)))
      have HLr : Hid (((X.drop 10).take 4).length = 4) := Lib.hid (by rw [List.length_take, List.length_drop, HX64.out]; omega)
      have hrn : RN < 4294967296 := by rw [hRN]; exact unbe_le _ 4 (by rw [HLr.out]; omega) HYr.out
      have HRN := Lib.hid hRN
      have HWRN : Hid (IntKind.i64.wrap (RN : Int) = (RN : Int)) := Lib.hid (by rw [IntKind.wrap_i64]; omega)
      have HWRN1 : Hid (IntKind.i64.wrap ((RN : Int) + 1) = (RN : Int) + 1) := Lib.hid (by rw [IntKind.wrap_i64]; omega)
      obtain ⟨run2, hrun2⟩ : ∃ r : Int, r = max rq ((RN : Int) + 1) := ⟨_, rfl⟩
      have HMX : Hid ((if rq < (RN : Int) + 1 then (RN : Int) + 1 else rq) = run2) := Lib.hid (by rw [hrun2]; split <;> omega)
      have HR2 := Lib.hid hrun2
      clear hC1014 hS1014 hRN hrun2
      generalize hw36 : w3 = w6 at *
      clear hw36
      go_wp2_with fail
      refine wp_region_inv (readJ9 w6 lb d xb xc RN frm segs nx rq run2 vl S1014 fr X) (by kernel_rfl) (by kernel_rfl) (by kernel_rfl) ?_ (Steps.cons 0 ?_ (Steps.cons 1 ?_ (Steps.cons 2 ?_ (Steps.cons 3 ?_ (Steps.cons 4 ?_ (Steps.cons 5 ?_ (Steps.cons 6 ?_ (Steps.cons 7 ?_ (Steps.cons 8 ?_ (Steps.cons 9 ?_ (Steps.cons 10 ?_ (Steps.cons 11 ?_ (Steps.cons 12 ?_ (Steps.cons 13 ?_ (Steps.nil 14))))))))))))))) 14 rfl ?_
      · intro x
        exact ⟨fun _ => hL6.drew, fun h => absurd h (by decide), fun h => absurd h (by decide), hX6.keep (Keep.refl [] _).drew (by simp), (Keep.refl _ _).drew, fun h => absurd h (by decide), fun h => absurd h (by decide), fun h => absurd h (by decide), fun h => absurd h (by decide), fun h => absurd h (by decide), fun h => absurd h (by decide), fun h => absurd h (by decide), fun h => absurd h (by decide), fun h => absurd h (by decide), fun h => absurd h (by decide), fun h => absurd h (by decide), fun h => absurd h (by decide), fun h => absurd h (by decide), fun h => absurd h (by decide)⟩
      · intro l x w' hJ hi hd
        obtain ⟨hL0, hL1, h134, hX, hK, h0, h1, h2, h3, h4, h5, h6, h7, h8, h9, h10, h11, h12, h13⟩ := hJ
        refine Runs.of (b := ?bB0) ?eB0 ?_
        case eB0 => simp only [putV, Act.put, List.setIfInBounds_toArray, List.set_cons_zero, List.set_cons_succ]; rfl
        intro K' hK'
        go_simp
        exact hK'.go _ rfl ⟨hL0, hL1, h134, hX, hK, fun _ => rfl, h1, h2, h3, h4, h5, h6, h7, h8, h9, h10, h11, h12, h13⟩
      · intro l x w' hJ hi hd
        obtain ⟨hL0, hL1, h134, hX, hK, h0, h1, h2, h3, h4, h5, h6, h7, h8, h9, h10, h11, h12, h13⟩ := hJ
        refine Runs.of (b := ?bB1) ?eB1 ?_
        case eB1 => simp only [putV, Act.put, List.setIfInBounds_toArray, List.set_cons_zero, List.set_cons_succ]; rfl
        intro K' hK'
        go_simp
        exact hK'.go _ rfl ⟨hL0, hL1, h134, hX, hK, h0, fun _ => rfl, h2, h3, h4, h5, h6, h7, h8, h9, h10, h11, h12, h13⟩
      · intro l x w' hJ hi hd
        obtain ⟨hL0, hL1, h134, hX, hK, h0, h1, h2, h3, h4, h5, h6, h7, h8, h9, h10, h11, h12, h13⟩ := hJ
        have e1 := h1 (show l 1 = true by first | exact hd.1 rfl | exact hd.2.1 rfl | exact hd.2.2.1 rfl | exact hd.2.2.2.1 rfl | exact hd.2.2.2.2.1 rfl | exact hd.2.2.2.2.2.1 rfl)
        refine Runs.of (b := ?bB2) ?eB2 ?_
        case eB2 => simp only [putV, Act.put, List.setIfInBounds_toArray, List.set_cons_zero, List.set_cons_succ, e1]; rfl
        intro K' hK'
        go_simp
        exact hK'.go _ rfl ⟨hL0, hL1, h134, hX, hK, h0, h1, fun _ => rfl, h3, h4, h5, h6, h7, h8, h9, h10, h11, h12, h13⟩
      · intro l x w' hJ hi hd
        obtain ⟨hL0, hL1, h134, hX, hK, h0, h1, h2, h3, h4, h5, h6, h7, h8, h9, h10, h11, h12, h13⟩ := hJ
        have e2 := h2 (show l 2 = true by first | exact hd.1 rfl | exact hd.2.1 rfl | exact hd.2.2.1 rfl | exact hd.2.2.2.1 rfl | exact hd.2.2.2.2.1 rfl | exact hd.2.2.2.2.2.1 rfl)
        refine Runs.of (b := ?bB3) ?eB3 ?_
        case eB3 => simp only [putV, Act.put, List.setIfInBounds_toArray, List.set_cons_zero, List.set_cons_succ, e2]; rfl
        intro K' hK'
        go_simp
        exact hK'.go _ rfl ⟨hL0, hL1, h134, hX, hK, h0, h1, h2, fun _ => rfl, h4, h5, h6, h7, h8, h9, h10, h11, h12, h13⟩
      · intro l x w' hJ hi hd
        obtain ⟨hL0, hL1, h134, hX, hK, h0, h1, h2, h3, h4, h5, h6, h7, h8, h9, h10, h11, h12, h13⟩ := hJ
        have e3 := h3 (show l 3 = true by first | exact hd.1 rfl | exact hd.2.1 rfl | exact hd.2.2.1 rfl | exact hd.2.2.2.1 rfl | exact hd.2.2.2.2.1 rfl | exact hd.2.2.2.2.2.1 rfl)
        have c5 := lg_5 (hL0 (by cases hq : l 13 with | false => rfl | true => exact absurd (h134 hq) (by simp [hi])))
        refine Runs.of (b := ?bB4) ?eB4 ?_
        case eB4 => simp only [putV, Act.put, List.setIfInBounds_toArray, List.set_cons_zero, List.set_cons_succ, e3]; rfl
        intro K' hK'
        go_simp
        exact hK'.go _ rfl ⟨hL0, hL1, fun _ => rfl, hX, hK, h0, h1, h2, h3, fun _ => rfl, h5, h6, h7, h8, h9, fun h => ⟨(h10 h).1, Lib.hid rfl⟩, h11, h12, h13⟩
      · intro l x w' hJ hi hd
        obtain ⟨hL0, hL1, h134, hX, hK, h0, h1, h2, h3, h4, h5, h6, h7, h8, h9, h10, h11, h12, h13⟩ := hJ
        refine Runs.of (b := ?bB5) ?eB5 ?_
        case eB5 => simp only [putV, Act.put, List.setIfInBounds_toArray, List.set_cons_zero, List.set_cons_succ]; rfl
        intro K' hK'
        go_simp
        exact hK'.go _ rfl ⟨hL0, hL1, h134, hX, hK, h0, h1, h2, h3, h4, fun _ => rfl, h6, h7, h8, h9, h10, h11, h12, h13⟩
      · intro l x w' hJ hi hd
        obtain ⟨hL0, hL1, h134, hX, hK, h0, h1, h2, h3, h4, h5, h6, h7, h8, h9, h10, h11, h12, h13⟩ := hJ
        have e5 := h5 (show l 5 = true by first | exact hd.1 rfl | exact hd.2.1 rfl | exact hd.2.2.1 rfl | exact hd.2.2.2.1 rfl | exact hd.2.2.2.2.1 rfl | exact hd.2.2.2.2.2.1 rfl)
        have hcut := HC1014.out
        refine Runs.of (b := ?bB6) ?eB6 ?_
        case eB6 => simp only [putV, Act.put, List.setIfInBounds_toArray, List.set_cons_zero, List.set_cons_succ, e5]; rfl
        intro K' hK'
        go_simp
        exact hK'.go _ rfl ⟨hL0, hL1, h134, hX, hK, h0, h1, h2, h3, h4, h5, fun _ => rfl, h7, h8, h9, h10, h11, h12, h13⟩
      · intro l x w' hJ hi hd
        obtain ⟨hL0, hL1, h134, hX, hK, h0, h1, h2, h3, h4, h5, h6, h7, h8, h9, h10, h11, h12, h13⟩ := hJ
        have e6 := h6 (show l 6 = true by first | exact hd.1 rfl | exact hd.2.1 rfl | exact hd.2.2.1 rfl | exact hd.2.2.2.1 rfl | exact hd.2.2.2.2.1 rfl | exact hd.2.2.2.2.2.1 rfl)
        refine Runs.of (b := ?bB7) ?eB7 ?_
        case eB7 => simp only [putV, Act.put, List.setIfInBounds_toArray, List.set_cons_zero, List.set_cons_succ, e6]; rfl
        intro K' hK'
        go_simp
        refine (sget_any S1014 ((X.drop 10).take 4) (HS1014.out w' hX) HYr.out (by rw [HLr.out]; omega) RN HRN.out).mono ?_
        rintro e w2 ⟨rfl, rfl⟩
        go_simp
        exact hK'.go _ rfl ⟨hL0, hL1, h134, hX, hK, h0, h1, h2, h3, h4, h5, h6, fun _ => rfl, h8, h9, h10, h11, h12, h13⟩
      · intro l x w' hJ hi hd
        obtain ⟨hL0, hL1, h134, hX, hK, h0, h1, h2, h3, h4, h5, h6, h7, h8, h9, h10, h11, h12, h13⟩ := hJ
        have e7 := h7 (show l 7 = true by first | exact hd.1 rfl | exact hd.2.1 rfl | exact hd.2.2.1 rfl | exact hd.2.2.2.1 rfl | exact hd.2.2.2.2.1 rfl | exact hd.2.2.2.2.2.1 rfl)
        refine Runs.of (b := ?bB8) ?eB8 ?_
        case eB8 => simp only [putV, Act.put, List.setIfInBounds_toArray, List.set_cons_zero, List.set_cons_succ, e7]; rfl
        intro K' hK'
        go_simp
        exact hK'.go _ rfl ⟨hL0, hL1, h134, hX, hK, h0, h1, h2, h3, h4, h5, h6, h7, fun _ => (by first | rfl | exact congrArg (Value.int .i64) HWRN.out), h9, h10, h11, h12, h13⟩
      · intro l x w' hJ hi hd
        obtain ⟨hL0, hL1, h134, hX, hK, h0, h1, h2, h3, h4, h5, h6, h7, h8, h9, h10, h11, h12, h13⟩ := hJ
        have e8 := h8 (show l 8 = true by first | exact hd.1 rfl | exact hd.2.1 rfl | exact hd.2.2.1 rfl | exact hd.2.2.2.1 rfl | exact hd.2.2.2.2.1 rfl | exact hd.2.2.2.2.2.1 rfl)
        refine Runs.of (b := ?bB9) ?eB9 ?_
        case eB9 => simp only [putV, Act.put, List.setIfInBounds_toArray, List.set_cons_zero, List.set_cons_succ, e8]; rfl
        intro K' hK'
        go_simp
        exact hK'.go _ rfl ⟨hL0, hL1, h134, hX, hK, h0, h1, h2, h3, h4, h5, h6, h7, h8, fun _ => (by first | rfl | exact congrArg (Value.int .i64) HWRN1.out), h10, h11, h12, h13⟩
      · intro l x w' hJ hi hd
        obtain ⟨hL0, hL1, h134, hX, hK, h0, h1, h2, h3, h4, h5, h6, h7, h8, h9, h10, h11, h12, h13⟩ := hJ
        have e4 := h4 (show l 4 = true by first | exact hd.1 rfl | exact hd.2.1 rfl | exact hd.2.2.1 rfl | exact hd.2.2.2.1 rfl | exact hd.2.2.2.2.1 rfl | exact hd.2.2.2.2.2.1 rfl)
        have e9 := h9 (show l 9 = true by first | exact hd.1 rfl | exact hd.2.1 rfl | exact hd.2.2.1 rfl | exact hd.2.2.2.1 rfl | exact hd.2.2.2.2.1 rfl | exact hd.2.2.2.2.2.1 rfl)
        have HL4 : Hid (l 4 = true) := Lib.hid (by first | exact hd.1 rfl | exact hd.2.1 rfl | exact hd.2.2.1 rfl | exact hd.2.2.2.1 rfl | exact hd.2.2.2.2.1 rfl | exact hd.2.2.2.2.2.1 rfl)
        refine Runs.of (b := ?bB10) ?eB10 ?_
        case eB10 => simp only [putV, Act.put, List.setIfInBounds_toArray, List.set_cons_zero, List.set_cons_succ, e4, e9]; rfl
        intro K' hK'
        go_simp
        exact hK'.go _ rfl ⟨hL0, hL1, h134, hX, hK, h0, h1, h2, h3, h4, h5, h6, h7, h8, h9, fun _ => ⟨congrArg (Value.int .i64) HMX.out, HL4⟩, h11, h12, h13⟩
      · intro l x w' hJ hi hd
        obtain ⟨hL0, hL1, h134, hX, hK, h0, h1, h2, h3, h4, h5, h6, h7, h8, h9, h10, h11, h12, h13⟩ := hJ
        have e0 := h0 (show l 0 = true by first | exact hd.1 rfl | exact hd.2.1 rfl | exact hd.2.2.1 rfl | exact hd.2.2.2.1 rfl | exact hd.2.2.2.2.1 rfl | exact hd.2.2.2.2.2.1 rfl)
        refine Runs.of (b := ?bB11) ?eB11 ?_
        case eB11 => simp only [putV, Act.put, List.setIfInBounds_toArray, List.set_cons_zero, List.set_cons_succ, e0]; rfl
        intro K' hK'
        go_simp
        exact hK'.go _ rfl ⟨hL0, hL1, h134, hX, hK, h0, h1, h2, h3, h4, h5, h6, h7, h8, h9, h10, fun _ => rfl, h12, h13⟩
      · intro l x w' hJ hi hd
        obtain ⟨hL0, hL1, h134, hX, hK, h0, h1, h2, h3, h4, h5, h6, h7, h8, h9, h10, h11, h12, h13⟩ := hJ
        have e11 := h11 (show l 11 = true by first | exact hd.1 rfl | exact hd.2.1 rfl | exact hd.2.2.1 rfl | exact hd.2.2.2.1 rfl | exact hd.2.2.2.2.1 rfl | exact hd.2.2.2.2.2.1 rfl)
        refine Runs.of (b := ?bB12) ?eB12 ?_
        case eB12 => simp only [putV, Act.put, List.setIfInBounds_toArray, List.set_cons_zero, List.set_cons_succ, e11]; rfl
        intro K' hK'
        go_simp
        exact hK'.go _ rfl ⟨hL0, hL1, h134, hX, hK, h0, h1, h2, h3, h4, h5, h6, h7, h8, h9, h10, h11, fun _ => rfl, h13⟩
      · intro l x w' hJ hi hd
        obtain ⟨hL0, hL1, h134, hX, hK, h0, h1, h2, h3, h4, h5, h6, h7, h8, h9, h10, h11, h12, h13⟩ := hJ
        have e10 := h10 (show l 10 = true by first | exact hd.1 rfl | exact hd.2.1 rfl | exact hd.2.2.1 rfl | exact hd.2.2.2.1 rfl | exact hd.2.2.2.2.1 rfl | exact hd.2.2.2.2.2.1 rfl)
        have e12 := h12 (show l 12 = true by first | exact hd.1 rfl | exact hd.2.1 rfl | exact hd.2.2.1 rfl | exact hd.2.2.2.1 rfl | exact hd.2.2.2.2.1 rfl | exact hd.2.2.2.2.2.1 rfl)
        have c5 := lg_5 (hL0 hi)
        have f5 := (hL0 hi).free 5
        refine Runs.of (b := ?bB13) ?eB13 ?_
        case eB13 => simp only [putV, Act.put, List.setIfInBounds_toArray, List.set_cons_zero, List.set_cons_succ, e10.1, e12]; rfl
        intro K' hK'
        have HL4 := e10.2
        have e10 := e10.1
        go_simp
        have k2 : Keep [lb] w' (w'.setCell ⟨lb, 5, none⟩ (.int .i64 run2)) := (Keep.refl _ _).setCell (.inl (by simp)) _
        have hL2 := (hL0 hi).set 5 (.int .i64 run2)
        exact hK'.go undef rfl ⟨fun h => Bool.noConfusion (show true = false from h), fun _ => hL2, fun _ => HL4.out, hX.keep k2 (fun q hq hm => by simp only [List.mem_singleton] at hm; subst hm; exact (hX.ty' q hq).ne (hL0 hi).ty (by decide) rfl), hK.trans k2, h0, h1, h2, h3, h4, h5, h6, h7, h8, h9, h10, h11, h12, fun _ => trivial⟩
      · intro l x w3 hJ hl
        obtain ⟨hL0, hL1, h134, hX, hK, h0, h1, h2, h3, h4, h5, h6, h7, h8, h9, h10, h11, h12, h13⟩ := hJ
        have hL9 := hL1 (hl 13 (by decide))
        simp only [putV, Act.put, List.setIfInBounds_toArray, List.set_cons_zero, List.set_cons_succ]
        simp only [Nat.zero_add, Nat.reduceAdd]
        have hpl : p ∉ [lb] := by have := HLL.out; simp; omega
        have hnu : ∀ q, Ty w6 q 5 → q ∉ [lb] := fun q hq hm => by simp only [List.mem_singleton] at hm; subst hm; exact hq.ne hL6.ty (by decide) rfl
        have hbk := HW.out.buf.keep HK6.out (by simp)
        have HR1 : Hid (RdW w p lb d frm segs nx run vl fr a M L (i + 1) g0 b0 r0 cur vb run2 w3) := Lib.hid (by
          have hb := HW.out
          have hrs : runOf (L.getD (a + i) zeroSec) = RN := by rw [HGET.out]; unfold runOf; rw [HSX.out, HRN.out]
          have hm := HM.out.2 i HLT.out
          rw [hrs] at hm
          have h2 := HR2.out
          refine ⟨(hb.seg.keep HK6.out (by simp)).keep hK hpl, hbk.keep hK (fun q hq => hnu q (hbk.ty' q hq)), hL9, Int.le_trans hb.lo (by rw [h2]; exact Int.le_max_left _ _), ?_, fun j hj => ?_, hb.keep.trans ((HK6.out.mono (by simp)).trans hK), hb.new⟩
          · have := hb.hi; omega
          · by_cases hji : j < i
            · have := hb.all j hji; omega
            · obtain rfl : j = i := by omega
              rw [hrs]; omega)
        have HX9 := Lib.hid hX
        have HXLO := Lib.hid (show wr.heap.size ≤ xb from HXNEW.out)
        clear h0 h1 h2 h3 h4 h5 h6 h7 h8 h9 h10 h11 h12 h13 hL0 hL1 h134 hX hK hl hL9 hL6 hX6 hnu hbk hrn
        cases wh with
        | false =>
          have hi0 : 0 < i := by rcases HCC.out with ⟨h, _⟩ | ⟨_, h, _⟩; cases h; exact h
          have q5 : ((i : Int) == 0) = false := by simp; omega
          go_wp2_with fail
          go_roundw
          case rel =>
            refine ⟨i + 1, false, g0, b0, r0, cur, vb, run2, rfl, by go_num, by omega, HR1.out, .inr ?_⟩
            rcases HCC.out with ⟨h, _⟩ | ⟨_, _, h⟩
            · cases h
            · exact ⟨rfl, by omega, h⟩
          case measure => simp only [intOf]; omega
        | true =>
          have hxc : 64 ≤ xc := by obtain ⟨_, a, c, he, hc, _⟩ := HX9.out.rd; rw [HX64.out] at he hc; injection he with _ h2 h3; omega
          have hne : ∀ q, vb.ownBlock = some q → q ≠ xb := fun q hq => by
            have := (HW.out.buf.lt q hq).2
            have := HXLO.out
            omega
          have hg := HG.out
          have hnow : (L.getD (a + i) zeroSec).now = X := by rw [HGET.out, HSX.out]
          have hkeepL : ∀ q ∈ p :: vb.ownBlock.toList, q ∉ [lb] ∧ w.heap.size ≤ q ∧ lb ≠ q := fun q hq => by
            have hlb := HR1.out.log.ty
            rcases List.mem_cons.1 hq with rfl | hq
            · have h1 := HR1.out.seg.ty.ne hlb (by decide)
              exact ⟨by simpa using h1, HR1.out.new, fun e => h1 e.symm⟩
            · have h1 := (HR1.out.buf.ty' q (Option.mem_toList.1 hq)).ne hlb (by decide)
              exact ⟨by simpa using h1, (HR1.out.buf.lt q (Option.mem_toList.1 hq)).1, fun e => h1 e.symm⟩
          have HKL := Lib.hid hkeepL
          by_cases hin : i = 0 ∨ st0 i < (encRs rs).length
          · have hXe := HS.out.on i HLT.out hin
            rw [hnow] at hXe
            have hrni := HS.out.run i HLT.out
            have hF := sgImg_fld gen base (rn i) i (encRs rs) (by omega) HBY.out ⟨hg.2.1, by omega⟩
            have hpart := sgImg_part gen base (rn i) i (encRs rs)
            rw [← hXe] at hF hpart
            have hcur : cur.length = st0 i ∧ cur = (encRs rs).take (st0 i) ∧ (r0 : Int) ≤ (rn i : Int) ∧ ((i = 0 ∧ gen = gen ∧ base = unbe ((X.drop 16).take 6)) ∨ (0 < i ∧ gen = g0 ∧ base = b0)) := by
              rcases HCC.out with ⟨_, ⟨h0, _, _, hr0, hc0⟩ | ⟨h0, hg0, hb0, hr0, hc0⟩⟩ | ⟨h, _⟩
              · subst h0 hr0 hc0
                refine ⟨rfl, rfl, by omega, .inl ⟨rfl, rfl, ?_⟩⟩
                rw [hXe, sgImg_base gen base (rn 0) (encRs rs) hg.2.2]
              · subst hr0 hc0
                have h9 : st0 i < (encRs rs).length := by rcases hin with h | h; omega; exact h
                refine ⟨by rw [List.length_take]; omega, rfl, ?_, .inr ⟨h0, hg0.symm, hb0.symm⟩⟩
                have := HS.out.up (i - 1) i (by omega) HLT.out hin
                omega
              · cases h
            obtain ⟨hc1, hc2, hc3, hc4⟩ := hcur
            have hT := take_ok (w := w3) hF hxc HR1.out.seg (HR1.out.buf.mono (Nat.zero_le _)) HX9.out HLT.out gen base hc4 rfl rfl hc3 rfl (sgChunk_le _ _) hc1 hne
            rw [hpart, hc2, chunk_next] at hT
            have HT := Lib.hid hT
            clear hT hF hpart hc1 hc2 hc3 hc4 hXe hrni hnow hkeepL hne hg
            go_wp2_with fail
            refine HT.out.mono ?_
            rintro e w4 ⟨rfl, vb4, g1, g2, g3, k4⟩
            have hRd : RdW w p lb d frm segs nx run vl fr a M L (i + 1) gen base (rn i) ((encRs rs).take (st0 (i + 1))) vb4 run2 w4 := by
              have hb := HR1.out
              have hz := hb.keep.size
              refine ⟨g1, g2.lift (fun q hq => ?_), hb.log.keep k4 (fun hm => (HKL.out lb hm).2.2 rfl), hb.lo, hb.hi, hb.all, hb.keep.then k4 (fun q hq hlt => absurd (HKL.out q hq).2.1 (by omega)), hb.new⟩
              rcases g3 q hq with h | h
              · exact (hb.buf.lt q h).1
              · omega
            have HRd := Lib.hid hRd
            clear hRd g1 g2 g3 k4 HT
            go_wp2_with fail
            go_roundw
            case rel =>
              exact ⟨i + 1, true, gen, base, rn i, _, vb4, run2, rfl, by go_num, by omega, HRd.out, .inl ⟨rfl, .inr ⟨by omega, rfl, rfl, by simp, rfl⟩⟩⟩
            case measure => simp only [intOf]; omega
          · have hi0 : 0 < i := by omega
            have hle : (encRs rs).length ≤ st0 i := by omega
            have hoff := HS.out.off i HLT.out hi0 hle
            rw [hnow] at hoff
            have hF := Fld.any X HX64.out HXB.out
            have hcur : g0 = gen ∧ b0 = base ∧ cur = encRs rs := by
              rcases HCC.out with ⟨_, ⟨h0, _⟩ | ⟨h0, hg0, hb0, hr0, hc0⟩⟩ | ⟨h, _⟩
              · omega
              · exact ⟨hg0, hb0, by rw [hc0, List.take_of_length_le hle]⟩
              · cases h
            obtain ⟨rfl, rfl, rfl⟩ := hcur
            have hT : Calls Try.prog 43 #[.pointer (some ⟨p, 0, none⟩), .int .i64 (i : Int), .slice (some ⟨xb, 0, none⟩) 64 xc] w3 fun e w' => e = .returned (.bool false) ∧ Blk w' p (sgC g0 b0 r0 vb (.slice none 0 0)) 80 ∧ Keep [p] w3 w' := by
              by_cases hcrc : crcSum (X.drop 4) = unbe (X.take 4)
              · exact take_gen hF hxc HR1.out.seg (HR1.out.buf.mono (Nat.zero_le _)) HX9.out HLT.out g0 b0 (.inr ⟨hi0, rfl, rfl⟩) hcrc (hoff.resolve_left (fun h => h hcrc))
              · exact take_crc hF hxc HR1.out.seg (HR1.out.buf.mono (Nat.zero_le _)) HX9.out HLT.out g0 b0 (.inr ⟨hi0, rfl, rfl⟩) hcrc
            have HT := Lib.hid hT
            have q5 : ((i : Int) == 0) = false := by simp; omega
            clear hT hF hoff hnow hkeepL hne hg
            go_wp2_with fail
            refine HT.out.mono ?_
            rintro e w4 ⟨rfl, g1, k4⟩
            have hRd : RdW w p lb d frm segs nx run vl fr a M L (i + 1) g0 b0 r0 (encRs rs) vb run2 w4 := by
              have hb := HR1.out
              have hz := hb.keep.size
              have hpt := hb.seg.ty
              refine ⟨g1, hb.buf.keep k4 (fun q hq hm => ?_), hb.log.keep k4 (fun hm => (HKL.out lb (List.mem_cons.2 (.inl (by simpa using hm)))).2.2 rfl), hb.lo, hb.hi, hb.all, hb.keep.then k4 (fun q hq hlt => absurd hb.new (by simp at hq; omega)), hb.new⟩
              simp only [List.mem_singleton] at hm
              subst hm
              exact (hb.buf.ty' q hq).ne hpt (by decide) rfl
            have HRd := Lib.hid hRd
            clear hRd g1 k4 HT
            go_wp2_with fail
            go_roundw
            case rel =>
              exact ⟨i + 1, false, g0, b0, r0, _, vb, run2, rfl, by go_num, by omega, HRd.out, .inr ⟨rfl, by omega, rfl, rfl, rfl⟩⟩
            case measure => simp only [intOf]; omega
  · obtain rfl : i = 8 := by omega
    have hcur : g0 = gen ∧ b0 = base ∧ cur = encRs rs := by
      rcases hC with ⟨_, ⟨h0, _⟩ | ⟨h0, hg0, hb0, hr0, hc0⟩⟩ | ⟨_, _, h1, h2, h3⟩
      · omega
      · exact ⟨hg0, hb0, by rw [hc0, List.take_of_length_le (by have := HBL.out; unfold st0; omega)]⟩
      · exact ⟨h1, h2, h3⟩
    obtain ⟨rfl, rfl, rfl⟩ := hcur
    rw [show ((8 : Nat) : Int) = 8 from rfl]
    have hg := HG.out
    have hk := HK.out
    have hgn : 1 ≤ (g0 : Int) := by omega
    have q1 : decide ((g0 : Int) < 1) = false := decide_eq_false (by omega)
    have hsp : (segs : Int) ≠ 0 := by omega
    have hkI : (((g0 : Int) - 1) % (segs : Int)) = (kk : Int) := by rw [← HGK.out, show ((g0 : Int) - 1) = ((g0 - 1 : Nat) : Int) by omega]; exact (Int.natCast_emod _ _).symm
    have hkT : (((g0 : Int) - 1).tmod (segs : Int)) = (kk : Int) := by rw [Int.tmod_eq_emod_of_nonneg (by omega)]; exact hkI
    have s0 := seg_0 hW.seg
    have l2 := lg_2 hW.log
    have HW := Lib.hid hW
    clear hW hC hlt hi8'
    go_wp2_with fail
    go_quiet (fail)
    have k1 := drewnK (Keep.refl [] wr) nq
    have hs1 := HW.out.seg.keep k1 (by simp)
    have hb1 := HW.out.buf.keep k1 (by simp)
    have hl1 := HW.out.log.keep k1 (by simp)
    have HRE := Lib.hid (records_any (g0 : Int) (b0 : Int) (r0 : Int) vb rs HOK.out hs1 (hb1.mono (Nat.zero_le _)) (by have := HBL.out; omega))
    have HB1 := Lib.hid hb1
    have HL1 := Lib.hid hl1
    have HS1 := Lib.hid hs1.ty
    have HPL := Lib.hid hs1.lt
    have HKK := Lib.hid (HW.out.keep.trans (k1.mono (by simp)))
    have HWZ := Lib.hid k1.size
    clear hs1 hb1 hl1 k1 s0 l2 hkI hkT hsp q1 hgn
    go_wp2_with fail
    refine HRE.out.mono ?_
    rintro e w9 ⟨rfl, vr, Lr, hLr, hs9, hr9, hn9, k9⟩
    have HS9 := Lib.hid hs9
    have HR9 := Lib.hid hr9
    have HK9 := Lib.hid k9
    have HLr := Lib.hid hLr
    have HN9 := Lib.hid hn9
    clear hs9 hr9 k9 HRE hLr hn9
    go_wp2_with fail
    go_ret
    have hb := HW.out
    have hz := hb.keep.size
    have hz2 := HWZ.out
    have hnd : (p :: (vb.ownBlock.toList ++ rcF vr Lr)).Nodup := by
      refine List.nodup_cons.2 ⟨fun hm => ?_, List.nodup_append.2 ⟨?_, HN9.out, fun q hq q' hq' e => ?_⟩⟩
      · rcases List.mem_append.1 hm with h | h
        · exact (HB1.out.ty' p (by simpa using h)).ne HS1.out (by decide) rfl
        · have h1 := (HR9.out.lt p h).1
          have h2 := HPL.out
          omega
      · cases vb.ownBlock <;> simp
      · have h1 := HB1.out.lt q (by simpa using hq)
        have h2 := HR9.out.lt q' hq'
        omega
    refine ⟨p, vb, vr, Lr, rq, r0, rfl, HLr.out, HS9.out, HB1.out.keep HK9.out (fun q hq hm => ?_), HR9.out.mono (by omega), hb.new, HL1.out.keep HK9.out (fun hm => ?_), hb.lo, hb.hi, fun i hi => hb.all i hi, HKK.out.then HK9.out (fun q hq hlt => by simp at hq; have := hb.new; omega), hnd⟩
    · simp only [List.mem_singleton] at hm
      subst hm
      exact (HB1.out.ty' q hq).ne HS1.out (by decide) rfl
    · simp only [List.mem_singleton] at hm
      subst hm
      exact HL1.out.ty.ne HS1.out (by decide) rfl
end Go.Proofs.Ytpibpapolcdeiaa
/- slog: a segment that is not there. -/
namespace Go.Proofs.Ytpibpapolcdeiaa
open Go.ChangeShapes Go.WideShapes Go.ChangeAt Go.RowKit
set_option linter.unusedVariables false
set_option linter.unusedSimpArgs false
set_option maxRecDepth 100000

structure RdZ (W0 : World) (p lb d : Nat) (frm segs nx run : Int) (vl : Value) (fr : Bool) (w' : World) : Prop where
  seg : Blk w' p (sgC 0 0 0 (.slice none 0 0) (.slice none 0 0)) 80
  log : Blk w' lb (lgC d frm segs vl nx run fr) 75
  keep : Keep [lb] W0 w'
  new : W0.heap.size ≤ p
theorem zero_crc : crcSum (List.replicate 60 0) ≠ 0 := by decide +kernel
theorem zero_be (k : Nat) : unbe (List.replicate k 0) = 0 := by
  induction k with
  | zero => rfl
  | succ k ih => rw [List.replicate_succ']; simp [unbe, List.foldl_append] at ih ⊢; omega
set_option maxHeartbeats 8000000 in
theorem read_none {w : World} {d sb lb c : Nat} {L : List Sec} (hd : IsDev w d sb L c) (frm segs : Nat) (vl : Value) (nx run : Int) (fr : Bool) (hl : Blk w lb (lgC d frm segs vl nx run fr) 75) (kk a : Nat)
    (hk : kk < segs ∧ segs ≤ 200 ∧ frm ≤ 100000) (ha : a = frm + kk * 8) (haL : a + 8 ≤ L.length) (hZ : ∀ i, i < 8 → (L.getD (a + i) zeroSec).now = List.replicate 64 0) (hrun : 1 ≤ run ∧ run < 4294967296) :
    Calls Try.prog 28 #[.pointer (some ⟨lb, 0, none⟩), .int .i64 (kk : Int)] w fun e w' => e = .returned (.pointer none) ∧ Blk w' lb (lgC d frm segs vl nx run fr) 75 ∧ Keep [lb] w w' := by
  obtain ⟨i8, hi8, hz80, hz81, hz82⟩ := info_parts Try.info8
  have HZZ := Lib.hid hZ
  have HK := Lib.hid hk
  have HA := Lib.hid ha
  have HAL := Lib.hid haL
  have HRU := Lib.hid hrun
  have HD := Lib.hid hd
  have HLL := Lib.hid hl.lt
  have HDL := Lib.hid (show d ≠ lb ∧ sb ≠ lb from ⟨hd.dev.ty.ne hl.ty (by decide), hd.secs.ty.ne hl.ty (by decide)⟩)
  have HWA : Hid (IntKind.i64.wrap ((kk : Int) * 8) = (kk : Int) * 8) := Lib.hid (by rw [IntKind.wrap_i64]; omega)
  have HWB : Hid (IntKind.i64.wrap ((frm : Int) + (kk : Int) * 8) = (frm : Int) + (kk : Int) * 8) := Lib.hid (by rw [IntKind.wrap_i64]; omega)
  have hbz : ∀ W : World, (Instr.build 80 #[]).run Try.prog W = .ok (.agg (sgC 0 0 0 (.slice none 0 0) (.slice none 0 0)).toArray) W := fun W => run_build W _ _ _ (by rfl)
  clear hZ hk ha haL hrun hd
  go_enter Try.func28, Try.ntmps28
  go_upto_region 2 with fail
  have hW0 : RdZ w w.heap.size lb d frm segs nx run vl fr (w.alloc (.cells (sgC 0 0 0 (.slice none 0 0) (.slice none 0 0)).toArray 80)) :=
    ⟨Blk.new _ _ _, hl.keep ((Keep.refl [] w).alloc _) (by simp), (Keep.refl _ w).alloc _, Nat.le_refl _⟩
  change Code.wp _ _ _ _ (w.alloc (.cells (sgC 0 0 0 (.slice none 0 0) (.slice none 0 0)).toArray 80))
  have HW0 := Lib.hid hW0
  clear hW0 hl hbz
  generalize w.alloc (.cells (sgC 0 0 0 (.slice none 0 0) (.slice none 0 0)).toArray 80) = wa at *
  generalize w.heap.size = p at *
  go_wp2_with fail
  go_loopw [6, 12] (fun s6 s12 wr => ∃ (i : Nat) (wh : Bool), s6 = .bool wh ∧ s12 = .int .i64 (i : Int) ∧ i ≤ 8 ∧ RdZ w p lb d frm segs nx run vl fr wr ∧ ((wh = true ∧ i = 0) ∨ (wh = false ∧ 0 < i))) (fun _ x _ => 9 - (intOf x).toNat)
  case atStart => exact ⟨0, true, rfl, rfl, by omega, HW0.out, .inl ⟨rfl, rfl⟩⟩
  case round =>
  clear HW0
  obtain ⟨i, wh, rfl, rfl, hi8', hW, hC⟩ := hrel
  by_cases hlt : i < 8
  · have q0 : decide ((i : Int) < 8) = true := decide_eq_true (by omega)
    obtain ⟨idx, hidx⟩ : ∃ idx, idx = a + i := ⟨_, rfl⟩
    obtain ⟨sc, hsc, hscm⟩ := sec_mem (show idx < L.length by have := HAL.out; omega)
    have hscok := HD.out.ok sc hscm
    obtain ⟨X, hX⟩ : ∃ X, X = sc.now := ⟨_, rfl⟩
    have hget : L.getD (a + i) zeroSec = sc := by rw [← hidx, List.getD_eq_getElem?_getD, hsc]; rfl
    have HSC := Lib.hid hsc
    have HXZ : Hid (X = List.replicate 64 0) := Lib.hid (by rw [hX, ← hget]; exact HZZ.out i hlt)
    have HSX : Hid (sc.now = X) := Lib.hid hX.symm
    have HX64 : Hid (X.length = 64) := Lib.hid (by rw [hX]; exact hscok.1)
    have HXB : Hid (∀ c ∈ X, c < 256) := Lib.hid (by rw [hX]; exact hscok.2.2.1)
    have HWC : Hid (IntKind.i64.wrap ((frm : Int) + (kk : Int) * 8 + (i : Int)) = (idx : Int)) := Lib.hid (by have := HA.out; have := HK.out; rw [IntKind.wrap_i64]; omega)
    have hdr := HD.out.keep hW.keep (by simpa using HDL.out.1) (by simpa using HDL.out.2)
    have hLr := hW.log
    have HW := Lib.hid hW
    have HCC := Lib.hid hC
    have HLT := Lib.hid hlt
    clear hsc hscm hscok hX hget hW hC hidx hi8'
    go_wp2_with fail
    refine wp_region_inv (readJ6 wr d sb lb c frm kk idx i L segs nx run vl fr X) (by kernel_rfl) (by kernel_rfl) (by kernel_rfl) ?_ (Steps.cons 0 ?_ (Steps.cons 1 ?_ (Steps.cons 2 ?_ (Steps.cons 3 ?_ (Steps.cons 4 ?_ (Steps.cons 5 ?_ (Steps.cons 6 ?_ (Steps.cons 7 ?_ (Steps.cons 8 ?_ (Steps.cons 9 ?_ (Steps.cons 10 ?_ (Steps.cons 11 ?_ (Steps.cons 12 ?_ (Steps.cons 13 ?_ (Steps.cons 14 ?_ (Steps.cons 15 ?_ (Steps.cons 16 ?_ (Steps.cons 17 ?_ (Steps.cons 18 ?_ (Steps.nil 19)))))))))))))))))))) 19 rfl ?_
    · intro x
      exact ⟨0, 0, hdr.keep (Keep.refl [] _).drew (by simp) (by simp), hLr.drew, (Keep.refl _ _).drew, fun h => absurd h (by decide), fun h => absurd h (by decide), fun h => absurd h (by decide), fun h => absurd h (by decide), fun h => absurd h (by decide), fun h => absurd h (by decide), fun h => absurd h (by decide), fun h => absurd h (by decide), fun h => absurd h (by decide), fun h => absurd h (by decide), fun h => absurd h (by decide), fun h => absurd h (by decide), fun h => absurd h (by decide), fun h => absurd h (by decide), fun h => absurd h (by decide), fun h => absurd h (by decide), fun h => absurd h (by decide), fun h => absurd h (by decide), fun h => absurd h (by decide), fun h => absurd h (by decide)⟩
    · intro l x w' hJ hi hd
      obtain ⟨xb, xc, hdv, hL, hK, h1413, h0, h1, h2, h3, h4, h5, h6, h7, h8, h9, h10, h11, h12, h13, h14, h15, h16, h17, h18⟩ := hJ
      refine Runs.of (b := ?bA0) ?eA0 ?_
      case eA0 => simp only [putV, Act.put, List.setIfInBounds_toArray, List.set_cons_zero, List.set_cons_succ]; rfl
      intro K' hK'
      go_simp
      exact hK'.go _ rfl ⟨xb, xc, hdv, hL, hK, h1413, fun _ => rfl, h1, h2, h3, h4, h5, h6, h7, h8, h9, h10, h11, h12, h13, h14, h15, h16, h17, h18⟩
    · intro l x w' hJ hi hd
      obtain ⟨xb, xc, hdv, hL, hK, h1413, h0, h1, h2, h3, h4, h5, h6, h7, h8, h9, h10, h11, h12, h13, h14, h15, h16, h17, h18⟩ := hJ
      have e0 := h0 (show l 0 = true by first | exact hd.1 rfl | exact hd.2.1 rfl | exact hd.2.2.1 rfl | exact hd.2.2.2.1 rfl | exact hd.2.2.2.2.1 rfl | exact hd.2.2.2.2.2.1 rfl)
      refine Runs.of (b := ?bA1) ?eA1 ?_
      case eA1 => simp only [putV, Act.put, List.setIfInBounds_toArray, List.set_cons_zero, List.set_cons_succ, e0]; rfl
      intro K' hK'
      go_simp
      exact hK'.go _ rfl ⟨xb, xc, hdv, hL, hK, h1413, h0, fun _ => rfl, h2, h3, h4, h5, h6, h7, h8, h9, h10, h11, h12, h13, h14, h15, h16, h17, h18⟩
    · intro l x w' hJ hi hd
      obtain ⟨xb, xc, hdv, hL, hK, h1413, h0, h1, h2, h3, h4, h5, h6, h7, h8, h9, h10, h11, h12, h13, h14, h15, h16, h17, h18⟩ := hJ
      have e1 := h1 (show l 1 = true by first | exact hd.1 rfl | exact hd.2.1 rfl | exact hd.2.2.1 rfl | exact hd.2.2.2.1 rfl | exact hd.2.2.2.2.1 rfl | exact hd.2.2.2.2.2.1 rfl)
      refine Runs.of (b := ?bA2) ?eA2 ?_
      case eA2 => simp only [putV, Act.put, List.setIfInBounds_toArray, List.set_cons_zero, List.set_cons_succ, e1]; rfl
      intro K' hK'
      go_simp
      exact hK'.go _ rfl ⟨xb, xc, hdv, hL, hK, h1413, h0, h1, fun _ => rfl, h3, h4, h5, h6, h7, h8, h9, h10, h11, h12, h13, h14, h15, h16, h17, h18⟩
    · intro l x w' hJ hi hd
      obtain ⟨xb, xc, hdv, hL, hK, h1413, h0, h1, h2, h3, h4, h5, h6, h7, h8, h9, h10, h11, h12, h13, h14, h15, h16, h17, h18⟩ := hJ
      have e2 := h2 (show l 2 = true by first | exact hd.1 rfl | exact hd.2.1 rfl | exact hd.2.2.1 rfl | exact hd.2.2.2.1 rfl | exact hd.2.2.2.2.1 rfl | exact hd.2.2.2.2.2.1 rfl)
      have c0 := lg_0 hL
      refine Runs.of (b := ?bA3) ?eA3 ?_
      case eA3 => simp only [putV, Act.put, List.setIfInBounds_toArray, List.set_cons_zero, List.set_cons_succ, e2]; rfl
      intro K' hK'
      go_simp
      exact hK'.go _ rfl ⟨xb, xc, hdv, hL, hK, h1413, h0, h1, h2, fun _ => rfl, h4, h5, h6, h7, h8, h9, h10, h11, h12, h13, h14, h15, h16, h17, h18⟩
    · intro l x w' hJ hi hd
      obtain ⟨xb, xc, hdv, hL, hK, h1413, h0, h1, h2, h3, h4, h5, h6, h7, h8, h9, h10, h11, h12, h13, h14, h15, h16, h17, h18⟩ := hJ
      refine Runs.of (b := ?bA4) ?eA4 ?_
      case eA4 => simp only [putV, Act.put, List.setIfInBounds_toArray, List.set_cons_zero, List.set_cons_succ]; rfl
      intro K' hK'
      go_simp
      exact hK'.go _ rfl ⟨xb, xc, hdv, hL, hK, h1413, h0, h1, h2, h3, fun _ => rfl, h5, h6, h7, h8, h9, h10, h11, h12, h13, h14, h15, h16, h17, h18⟩
    · intro l x w' hJ hi hd
      obtain ⟨xb, xc, hdv, hL, hK, h1413, h0, h1, h2, h3, h4, h5, h6, h7, h8, h9, h10, h11, h12, h13, h14, h15, h16, h17, h18⟩ := hJ
      have e4 := h4 (show l 4 = true by first | exact hd.1 rfl | exact hd.2.1 rfl | exact hd.2.2.1 rfl | exact hd.2.2.2.1 rfl | exact hd.2.2.2.2.1 rfl | exact hd.2.2.2.2.2.1 rfl)
      refine Runs.of (b := ?bA5) ?eA5 ?_
      case eA5 => simp only [putV, Act.put, List.setIfInBounds_toArray, List.set_cons_zero, List.set_cons_succ, e4]; rfl
      intro K' hK'
      go_simp
      exact hK'.go _ rfl ⟨xb, xc, hdv, hL, hK, h1413, h0, h1, h2, h3, h4, fun _ => rfl, h6, h7, h8, h9, h10, h11, h12, h13, h14, h15, h16, h17, h18⟩
    · intro l x w' hJ hi hd
      obtain ⟨xb, xc, hdv, hL, hK, h1413, h0, h1, h2, h3, h4, h5, h6, h7, h8, h9, h10, h11, h12, h13, h14, h15, h16, h17, h18⟩ := hJ
      have e5 := h5 (show l 5 = true by first | exact hd.1 rfl | exact hd.2.1 rfl | exact hd.2.2.1 rfl | exact hd.2.2.2.1 rfl | exact hd.2.2.2.2.1 rfl | exact hd.2.2.2.2.2.1 rfl)
      refine Runs.of (b := ?bA6) ?eA6 ?_
      case eA6 => simp only [putV, Act.put, List.setIfInBounds_toArray, List.set_cons_zero, List.set_cons_succ, e5]; rfl
      intro K' hK'
      go_simp
      exact hK'.go _ rfl ⟨xb, xc, hdv, hL, hK, h1413, h0, h1, h2, h3, h4, h5, fun _ => rfl, h7, h8, h9, h10, h11, h12, h13, h14, h15, h16, h17, h18⟩
    · intro l x w' hJ hi hd
      obtain ⟨xb, xc, hdv, hL, hK, h1413, h0, h1, h2, h3, h4, h5, h6, h7, h8, h9, h10, h11, h12, h13, h14, h15, h16, h17, h18⟩ := hJ
      have e6 := h6 (show l 6 = true by first | exact hd.1 rfl | exact hd.2.1 rfl | exact hd.2.2.1 rfl | exact hd.2.2.2.1 rfl | exact hd.2.2.2.2.1 rfl | exact hd.2.2.2.2.2.1 rfl)
      have c1 := lg_1 hL
      refine Runs.of (b := ?bA7) ?eA7 ?_
      case eA7 => simp only [putV, Act.put, List.setIfInBounds_toArray, List.set_cons_zero, List.set_cons_succ, e6]; rfl
      intro K' hK'
      go_simp
      exact hK'.go _ rfl ⟨xb, xc, hdv, hL, hK, h1413, h0, h1, h2, h3, h4, h5, h6, fun _ => rfl, h8, h9, h10, h11, h12, h13, h14, h15, h16, h17, h18⟩
    · intro l x w' hJ hi hd
      obtain ⟨xb, xc, hdv, hL, hK, h1413, h0, h1, h2, h3, h4, h5, h6, h7, h8, h9, h10, h11, h12, h13, h14, h15, h16, h17, h18⟩ := hJ
      refine Runs.of (b := ?bA8) ?eA8 ?_
      case eA8 => simp only [putV, Act.put, List.setIfInBounds_toArray, List.set_cons_zero, List.set_cons_succ]; rfl
      intro K' hK'
      go_simp
      exact hK'.go _ rfl ⟨xb, xc, hdv, hL, hK, h1413, h0, h1, h2, h3, h4, h5, h6, h7, fun _ => rfl, h9, h10, h11, h12, h13, h14, h15, h16, h17, h18⟩
    · intro l x w' hJ hi hd
      obtain ⟨xb, xc, hdv, hL, hK, h1413, h0, h1, h2, h3, h4, h5, h6, h7, h8, h9, h10, h11, h12, h13, h14, h15, h16, h17, h18⟩ := hJ
      have e8 := h8 (show l 8 = true by first | exact hd.1 rfl | exact hd.2.1 rfl | exact hd.2.2.1 rfl | exact hd.2.2.2.1 rfl | exact hd.2.2.2.2.1 rfl | exact hd.2.2.2.2.2.1 rfl)
      refine Runs.of (b := ?bA9) ?eA9 ?_
      case eA9 => simp only [putV, Act.put, List.setIfInBounds_toArray, List.set_cons_zero, List.set_cons_succ, e8]; rfl
      intro K' hK'
      go_simp
      exact hK'.go _ rfl ⟨xb, xc, hdv, hL, hK, h1413, h0, h1, h2, h3, h4, h5, h6, h7, h8, fun _ => (by first | rfl | exact congrArg (Value.int .i64) HWA.out), h10, h11, h12, h13, h14, h15, h16, h17, h18⟩
    · intro l x w' hJ hi hd
      obtain ⟨xb, xc, hdv, hL, hK, h1413, h0, h1, h2, h3, h4, h5, h6, h7, h8, h9, h10, h11, h12, h13, h14, h15, h16, h17, h18⟩ := hJ
      have e7 := h7 (show l 7 = true by first | exact hd.1 rfl | exact hd.2.1 rfl | exact hd.2.2.1 rfl | exact hd.2.2.2.1 rfl | exact hd.2.2.2.2.1 rfl | exact hd.2.2.2.2.2.1 rfl)
      have e9 := h9 (show l 9 = true by first | exact hd.1 rfl | exact hd.2.1 rfl | exact hd.2.2.1 rfl | exact hd.2.2.2.1 rfl | exact hd.2.2.2.2.1 rfl | exact hd.2.2.2.2.2.1 rfl)
      refine Runs.of (b := ?bA10) ?eA10 ?_
      case eA10 => simp only [putV, Act.put, List.setIfInBounds_toArray, List.set_cons_zero, List.set_cons_succ, e7, e9]; rfl
      intro K' hK'
      go_simp
      exact hK'.go _ rfl ⟨xb, xc, hdv, hL, hK, h1413, h0, h1, h2, h3, h4, h5, h6, h7, h8, h9, fun _ => (by first | rfl | exact congrArg (Value.int .i64) HWB.out), h11, h12, h13, h14, h15, h16, h17, h18⟩
    · intro l x w' hJ hi hd
      obtain ⟨xb, xc, hdv, hL, hK, h1413, h0, h1, h2, h3, h4, h5, h6, h7, h8, h9, h10, h11, h12, h13, h14, h15, h16, h17, h18⟩ := hJ
      refine Runs.of (b := ?bA11) ?eA11 ?_
      case eA11 => simp only [putV, Act.put, List.setIfInBounds_toArray, List.set_cons_zero, List.set_cons_succ]; rfl
      intro K' hK'
      go_simp
      exact hK'.go _ rfl ⟨xb, xc, hdv, hL, hK, h1413, h0, h1, h2, h3, h4, h5, h6, h7, h8, h9, h10, fun _ => rfl, h12, h13, h14, h15, h16, h17, h18⟩
    · intro l x w' hJ hi hd
      obtain ⟨xb, xc, hdv, hL, hK, h1413, h0, h1, h2, h3, h4, h5, h6, h7, h8, h9, h10, h11, h12, h13, h14, h15, h16, h17, h18⟩ := hJ
      have e10 := h10 (show l 10 = true by first | exact hd.1 rfl | exact hd.2.1 rfl | exact hd.2.2.1 rfl | exact hd.2.2.2.1 rfl | exact hd.2.2.2.2.1 rfl | exact hd.2.2.2.2.2.1 rfl)
      have e11 := h11 (show l 11 = true by first | exact hd.1 rfl | exact hd.2.1 rfl | exact hd.2.2.1 rfl | exact hd.2.2.2.1 rfl | exact hd.2.2.2.2.1 rfl | exact hd.2.2.2.2.2.1 rfl)
      refine Runs.of (b := ?bA12) ?eA12 ?_
      case eA12 => simp only [putV, Act.put, List.setIfInBounds_toArray, List.set_cons_zero, List.set_cons_succ, e10, e11]; rfl
      intro K' hK'
      go_simp
      exact hK'.go _ rfl ⟨xb, xc, hdv, hL, hK, h1413, h0, h1, h2, h3, h4, h5, h6, h7, h8, h9, h10, h11, fun _ => (by first | rfl | exact congrArg (Value.int .i64) HWC.out), h13, h14, h15, h16, h17, h18⟩
    · intro l x w' hJ hi hd
      obtain ⟨xb, xc, hdv, hL, hK, h1413, h0, h1, h2, h3, h4, h5, h6, h7, h8, h9, h10, h11, h12, h13, h14, h15, h16, h17, h18⟩ := hJ
      have e3 := h3 (show l 3 = true by first | exact hd.1 rfl | exact hd.2.1 rfl | exact hd.2.2.1 rfl | exact hd.2.2.2.1 rfl | exact hd.2.2.2.2.1 rfl | exact hd.2.2.2.2.2.1 rfl)
      have e12 := h12 (show l 12 = true by first | exact hd.1 rfl | exact hd.2.1 rfl | exact hd.2.2.1 rfl | exact hd.2.2.2.1 rfl | exact hd.2.2.2.2.1 rfl | exact hd.2.2.2.2.2.1 rfl)
      refine Runs.of (b := ?bA13) ?eA13 ?_
      case eA13 => simp only [putV, Act.put, List.setIfInBounds_toArray, List.set_cons_zero, List.set_cons_succ, e3, e12]; rfl
      intro K' hK'
      go_simp
      refine (Read_in hdv idx sc HSC.out).mono ?_
      rintro e w2 ⟨v2, rfl, hB2, k2⟩
      rw [HSX.out] at hB2
      obtain ⟨x2, x3, rfl⟩ := hB2.at64 HX64.out
      have HB2 := Lib.hid (hB2.mono hK.size)
      clear hB2
      go_simp
      exact hK'.go (.tuple #[.slice (some ⟨x2, 0, none⟩) 64 x3, .int .i64 0]) rfl ⟨x2, x3, hdv.keep k2 (by simp) (by simp), hL.keep k2 (by simp), hK.trans k2, fun _ => rfl, h0, h1, h2, h3, h4, h5, h6, h7, h8, h9, h10, h11, h12, fun _ => ⟨rfl, HB2.out⟩, fun h => absurd (h1413 (.inl h)) (by simp [hi]), fun h => absurd (h1413 (.inr (.inl h))) (by simp [hi]), h16, fun h => absurd (h1413 (.inr (.inr h))) (by simp [hi]), h18⟩
    · intro l x w' hJ hi hd
      obtain ⟨xb, xc, hdv, hL, hK, h1413, h0, h1, h2, h3, h4, h5, h6, h7, h8, h9, h10, h11, h12, h13, h14, h15, h16, h17, h18⟩ := hJ
      have e13 := h13 (show l 13 = true by first | exact hd.1 rfl | exact hd.2.1 rfl | exact hd.2.2.1 rfl | exact hd.2.2.2.1 rfl | exact hd.2.2.2.2.1 rfl | exact hd.2.2.2.2.2.1 rfl)
      have HL13 : Hid (l 13 = true) := Lib.hid (by first | exact hd.1 rfl | exact hd.2.1 rfl | exact hd.2.2.1 rfl | exact hd.2.2.2.1 rfl | exact hd.2.2.2.2.1 rfl | exact hd.2.2.2.2.2.1 rfl)
      refine Runs.of (b := ?bA14) ?eA14 ?_
      case eA14 => simp only [putV, Act.put, List.setIfInBounds_toArray, List.set_cons_zero, List.set_cons_succ, e13.1]; rfl
      intro K' hK'
      go_simp
      exact hK'.go _ rfl ⟨xb, xc, hdv, hL, hK, fun h => HL13.out, h0, h1, h2, h3, h4, h5, h6, h7, h8, h9, h10, h11, h12, h13, fun _ => rfl, h15, h16, h17, h18⟩
    · intro l x w' hJ hi hd
      obtain ⟨xb, xc, hdv, hL, hK, h1413, h0, h1, h2, h3, h4, h5, h6, h7, h8, h9, h10, h11, h12, h13, h14, h15, h16, h17, h18⟩ := hJ
      have e14 := h14 (show l 14 = true by first | exact hd.1 rfl | exact hd.2.1 rfl | exact hd.2.2.1 rfl | exact hd.2.2.2.1 rfl | exact hd.2.2.2.2.1 rfl | exact hd.2.2.2.2.2.1 rfl)
      have HL13 : Hid (l 13 = true) := Lib.hid (h1413 (.inl (by first | exact hd.1 rfl | exact hd.2.1 rfl | exact hd.2.2.1 rfl | exact hd.2.2.2.1 rfl | exact hd.2.2.2.2.1 rfl | exact hd.2.2.2.2.2.1 rfl)))
      refine Runs.of (b := ?bA15) ?eA15 ?_
      case eA15 => simp only [putV, Act.put, List.setIfInBounds_toArray, List.set_cons_zero, List.set_cons_succ, e14]; rfl
      intro K' hK'
      go_simp
      exact hK'.go _ rfl ⟨xb, xc, hdv, hL, hK, fun h => HL13.out, h0, h1, h2, h3, h4, h5, h6, h7, h8, h9, h10, h11, h12, h13, h14, fun _ => rfl, h16, h17, h18⟩
    · intro l x w' hJ hi hd
      obtain ⟨xb, xc, hdv, hL, hK, h1413, h0, h1, h2, h3, h4, h5, h6, h7, h8, h9, h10, h11, h12, h13, h14, h15, h16, h17, h18⟩ := hJ
      have e14 := h14 (show l 14 = true by first | exact hd.1 rfl | exact hd.2.1 rfl | exact hd.2.2.1 rfl | exact hd.2.2.2.1 rfl | exact hd.2.2.2.2.1 rfl | exact hd.2.2.2.2.2.1 rfl)
      refine Runs.of (b := ?bA16) ?eA16 ?_
      case eA16 => simp only [putV, Act.put, List.setIfInBounds_toArray, List.set_cons_zero, List.set_cons_succ, e14]; rfl
      intro K' hK'
      go_simp
      exact hK'.go _ rfl ⟨xb, xc, hdv, hL, hK, h1413, h0, h1, h2, h3, h4, h5, h6, h7, h8, h9, h10, h11, h12, h13, h14, h15, fun _ => rfl, h17, h18⟩
    · intro l x w' hJ hi hd
      obtain ⟨xb, xc, hdv, hL, hK, h1413, h0, h1, h2, h3, h4, h5, h6, h7, h8, h9, h10, h11, h12, h13, h14, h15, h16, h17, h18⟩ := hJ
      have e15 := h15 (show l 15 = true by first | exact hd.1 rfl | exact hd.2.1 rfl | exact hd.2.2.1 rfl | exact hd.2.2.2.1 rfl | exact hd.2.2.2.2.1 rfl | exact hd.2.2.2.2.2.1 rfl)
      have HL13 : Hid (l 13 = true) := Lib.hid (h1413 (.inr (.inl (by first | exact hd.1 rfl | exact hd.2.1 rfl | exact hd.2.2.1 rfl | exact hd.2.2.2.1 rfl | exact hd.2.2.2.2.1 rfl | exact hd.2.2.2.2.2.1 rfl))))
      refine Runs.of (b := ?bA17) ?eA17 ?_
      case eA17 => simp only [putV, Act.put, List.setIfInBounds_toArray, List.set_cons_zero, List.set_cons_succ, e15]; rfl
      intro K' hK'
      go_simp
      exact hK'.go _ rfl ⟨xb, xc, hdv, hL, hK, fun h => HL13.out, h0, h1, h2, h3, h4, h5, h6, h7, h8, h9, h10, h11, h12, h13, h14, h15, h16, fun _ => rfl, h18⟩
    · intro l x w' hJ hi hd
      obtain ⟨xb, xc, hdv, hL, hK, h1413, h0, h1, h2, h3, h4, h5, h6, h7, h8, h9, h10, h11, h12, h13, h14, h15, h16, h17, h18⟩ := hJ
      have e16 := h16 (show l 16 = true by first | exact hd.1 rfl | exact hd.2.1 rfl | exact hd.2.2.1 rfl | exact hd.2.2.2.1 rfl | exact hd.2.2.2.2.1 rfl | exact hd.2.2.2.2.2.1 rfl)
      refine Runs.of (b := ?bA18) ?eA18 ?_
      case eA18 => simp only [putV, Act.put, List.setIfInBounds_toArray, List.set_cons_zero, List.set_cons_succ, e16]; rfl
      intro K' hK'
      go_simp
      exact hK'.go _ rfl ⟨xb, xc, hdv, hL, hK, h1413, h0, h1, h2, h3, h4, h5, h6, h7, h8, h9, h10, h11, h12, h13, h14, h15, h16, h17, fun _ => rfl⟩
    · intro l x w3 hJ hl
      obtain ⟨xb, xc, hdv, hL, hK, h1413, h0, h1, h2, h3, h4, h5, h6, h7, h8, h9, h10, h11, h12, h13, h14, h15, h16, h17, h18⟩ := hJ
      have hX6 := (h13 (hl 13 (by decide))).2.mono (Nat.zero_le _)
      have HXNEW := Lib.hid ((h13 (hl 13 (by decide))).2.lt xb rfl).1
      have e17 := h17 (hl 17 (by decide))
      have e18 := h18 (hl 18 (by decide))
      simp only [putV, Act.put, List.setIfInBounds_toArray, List.set_cons_zero, List.set_cons_succ, e17, e18]
      simp only [Nat.zero_add, Nat.reduceAdd]
      have HK6 := Lib.hid hK
      have hL6 := hL
      clear h0 h1 h2 h3 h4 h5 h6 h7 h8 h9 h10 h11 h12 h13 h14 h15 h16 h17 h18 hdv hL hK h1413 hdr hLr e17 e18 hl
      -- the greatest run
      obtain ⟨RN, hRN⟩ : ∃ RN, RN = unbe ((X.drop 10).take 4) := ⟨_, rfl⟩
      obtain ⟨S1014, hC1014, hS1014, _⟩ := cutE_both (P := Try.prog) 30 5 i8 Try.underlying30 hi8 hz81 (some ⟨xb, 0, none⟩) 64 xc (bcs X) 10 14 10 14 rfl rfl (by omega) (by omega) (by obtain ⟨_, a, c, he, hc, _⟩ := hX6.rd; rw [HX64.out] at he hc; injection he with _ h2 h3; omega)
      have HC1014 := Lib.hid hC1014
      have HS1014 : Hid (∀ W : World, Buf W 0 5 (.slice (some ⟨xb, 0, none⟩) 64 xc) X → Rd W S1014 ((X.drop 10).take 4)) := Lib.hid (fun W h => by
        have h1 := h.rd
        unfold Rd at h1
        rw [HX64.out] at h1
        have h2 := hS1014 W h1
        rw [bcs_part] at h2
        exact Rv.rd h2 (by rw [List.length_take, List.length_drop, HX64.out]; rfl))
      have HYr : Hid (∀ c ∈ (X.drop 10).take 4, c < 256) := Lib.hid (fun c hc => HXB.out c (List.mem_of_mem_drop (List.mem_of_mem_take hc)))
      have HLr : Hid (((X.drop 10).take 4).length = 4) := Lib.hid (by rw [List.length_take, List.length_drop, HX64.out]; omega)
      have hRZ : RN = 0 := by rw [hRN, HXZ.out]; exact zero_be 4
      have HRZ := Lib.hid hRZ
      have hrn : RN < 4294967296 := by rw [hRN]; exact unbe_le _ 4 (by rw [HLr.out]; omega) HYr.out
      have HRN := Lib.hid hRN
      have HWRN : Hid (IntKind.i64.wrap (RN : Int) = (RN : Int)) := Lib.hid (by rw [IntKind.wrap_i64]; omega)
      have HWRN1 : Hid (IntKind.i64.wrap ((RN : Int) + 1) = (RN : Int) + 1) := Lib.hid (by rw [IntKind.wrap_i64]; omega)
      obtain ⟨run2, hrun2⟩ : ∃ r : Int, r = run := ⟨_, rfl⟩
      have HMX : Hid ((if run < (RN : Int) + 1 then (RN : Int) + 1 else run) = run2) := Lib.hid (by have := HRU.out; rw [hrun2, hRZ]; split <;> omega)
      have HR2 := Lib.hid hrun2
      clear hC1014 hS1014 hRN hrun2 hRZ
      generalize hw36 : w3 = w6 at *
      clear hw36
      go_wp2_with fail
      refine wp_region_inv (readJ9 w6 lb d xb xc RN frm segs nx run run2 vl S1014 fr X) (by kernel_rfl) (by kernel_rfl) (by kernel_rfl) ?_ (Steps.cons 0 ?_ (Steps.cons 1 ?_ (Steps.cons 2 ?_ (Steps.cons 3 ?_ (Steps.cons 4 ?_ (Steps.cons 5 ?_ (Steps.cons 6 ?_ (Steps.cons 7 ?_ (Steps.cons 8 ?_ (Steps.cons 9 ?_ (Steps.cons 10 ?_ (Steps.cons 11 ?_ (Steps.cons 12 ?_ (Steps.cons 13 ?_ (Steps.nil 14))))))))))))))) 14 rfl ?_
      · intro x
        exact ⟨fun _ => hL6.drew, fun h => absurd h (by decide), fun h => absurd h (by decide), hX6.keep (Keep.refl [] _).drew (by simp), (Keep.refl _ _).drew, fun h => absurd h (by decide), fun h => absurd h (by decide), fun h => absurd h (by decide), fun h => absurd h (by decide), fun h => absurd h (by decide), fun h => absurd h (by decide), fun h => absurd h (by decide), fun h => absurd h (by decide), fun h => absurd h (by decide), fun h => absurd h (by decide), fun h => absurd h (by decide), fun h => absurd h (by decide), fun h => absurd h (by decide), fun h => absurd h (by decide)⟩
      · intro l x w' hJ hi hd
        obtain ⟨hL0, hL1, h134, hX, hK, h0, h1, h2, h3, h4, h5, h6, h7, h8, h9, h10, h11, h12, h13⟩ := hJ
        refine Runs.of (b := ?bB0) ?eB0 ?_
        case eB0 => simp only [putV, Act.put, List.setIfInBounds_toArray, List.set_cons_zero, List.set_cons_succ]; rfl
        intro K' hK'
        go_simp
        exact hK'.go _ rfl ⟨hL0, hL1, h134, hX, hK, fun _ => rfl, h1, h2, h3, h4, h5, h6, h7, h8, h9, h10, h11, h12, h13⟩
      · intro l x w' hJ hi hd
        obtain ⟨hL0, hL1, h134, hX, hK, h0, h1, h2, h3, h4, h5, h6, h7, h8, h9, h10, h11, h12, h13⟩ := hJ
        refine Runs.of (b := ?bB1) ?eB1 ?_
        case eB1 => simp only [putV, Act.put, List.setIfInBounds_toArray, List.set_cons_zero, List.set_cons_succ]; rfl
        intro K' hK'
        go_simp
        exact hK'.go _ rfl ⟨hL0, hL1, h134, hX, hK, h0, fun _ => rfl, h2, h3, h4, h5, h6, h7, h8, h9, h10, h11, h12, h13⟩
      · intro l x w' hJ hi hd
        obtain ⟨hL0, hL1, h134, hX, hK, h0, h1, h2, h3, h4, h5, h6, h7, h8, h9, h10, h11, h12, h13⟩ := hJ
        have e1 := h1 (show l 1 = true by first | exact hd.1 rfl | exact hd.2.1 rfl | exact hd.2.2.1 rfl | exact hd.2.2.2.1 rfl | exact hd.2.2.2.2.1 rfl | exact hd.2.2.2.2.2.1 rfl)
        refine Runs.of (b := ?bB2) ?eB2 ?_
        case eB2 => simp only [putV, Act.put, List.setIfInBounds_toArray, List.set_cons_zero, List.set_cons_succ, e1]; rfl
        intro K' hK'
        go_simp
        exact hK'.go _ rfl ⟨hL0, hL1, h134, hX, hK, h0, h1, fun _ => rfl, h3, h4, h5, h6, h7, h8, h9, h10, h11, h12, h13⟩
      · intro l x w' hJ hi hd
        obtain ⟨hL0, hL1, h134, hX, hK, h0, h1, h2, h3, h4, h5, h6, h7, h8, h9, h10, h11, h12, h13⟩ := hJ
        have e2 := h2 (show l 2 = true by first | exact hd.1 rfl | exact hd.2.1 rfl | exact hd.2.2.1 rfl | exact hd.2.2.2.1 rfl | exact hd.2.2.2.2.1 rfl | exact hd.2.2.2.2.2.1 rfl)
        refine Runs.of (b := ?bB3) ?eB3 ?_
        case eB3 => simp only [putV, Act.put, List.setIfInBounds_toArray, List.set_cons_zero, List.set_cons_succ, e2]; rfl
        intro K' hK'
        go_simp
        exact hK'.go _ rfl ⟨hL0, hL1, h134, hX, hK, h0, h1, h2, fun _ => rfl, h4, h5, h6, h7, h8, h9, h10, h11, h12, h13⟩
      · intro l x w' hJ hi hd
        obtain ⟨hL0, hL1, h134, hX, hK, h0, h1, h2, h3, h4, h5, h6, h7, h8, h9, h10, h11, h12, h13⟩ := hJ
        have e3 := h3 (show l 3 = true by first | exact hd.1 rfl | exact hd.2.1 rfl | exact hd.2.2.1 rfl | exact hd.2.2.2.1 rfl | exact hd.2.2.2.2.1 rfl | exact hd.2.2.2.2.2.1 rfl)
        have c5 := lg_5 (hL0 (by cases hq : l 13 with | false => rfl | true => exact absurd (h134 hq) (by simp [hi])))
        refine Runs.of (b := ?bB4) ?eB4 ?_
        case eB4 => simp only [putV, Act.put, List.setIfInBounds_toArray, List.set_cons_zero, List.set_cons_succ, e3]; rfl
        intro K' hK'
        go_simp
        exact hK'.go _ rfl ⟨hL0, hL1, fun _ => rfl, hX, hK, h0, h1, h2, h3, fun _ => rfl, h5, h6, h7, h8, h9, fun h => ⟨(h10 h).1, Lib.hid rfl⟩, h11, h12, h13⟩
      · intro l x w' hJ hi hd
        obtain ⟨hL0, hL1, h134, hX, hK, h0, h1, h2, h3, h4, h5, h6, h7, h8, h9, h10, h11, h12, h13⟩ := hJ
        refine Runs.of (b := ?bB5) ?eB5 ?_
        case eB5 => simp only [putV, Act.put, List.setIfInBounds_toArray, List.set_cons_zero, List.set_cons_succ]; rfl
        intro K' hK'
        go_simp
        exact hK'.go _ rfl ⟨hL0, hL1, h134, hX, hK, h0, h1, h2, h3, h4, fun _ => rfl, h6, h7, h8, h9, h10, h11, h12, h13⟩
      · intro l x w' hJ hi hd
        obtain ⟨hL0, hL1, h134, hX, hK, h0, h1, h2, h3, h4, h5, h6, h7, h8, h9, h10, h11, h12, h13⟩ := hJ
        have e5 := h5 (show l 5 = true by first | exact hd.1 rfl | exact hd.2.1 rfl | exact hd.2.2.1 rfl | exact hd.2.2.2.1 rfl | exact hd.2.2.2.2.1 rfl | exact hd.2.2.2.2.2.1 rfl)
        have hcut := HC1014.out
        refine Runs.of (b := ?bB6) ?eB6 ?_
        case eB6 => simp only [putV, Act.put, List.setIfInBounds_toArray, List.set_cons_zero, List.set_cons_succ, e5]; rfl
        intro K' hK'
        go_simp
        exact hK'.go _ rfl ⟨hL0, hL1, h134, hX, hK, h0, h1, h2, h3, h4, h5, fun _ => rfl, h7, h8, h9, h10, h11, h12, h13⟩
      · intro l x w' hJ hi hd
        obtain ⟨hL0, hL1, h134, hX, hK, h0, h1, h2, h3, h4, h5, h6, h7, h8, h9, h10, h11, h12, h13⟩ := hJ
        have e6 := h6 (show l 6 = true by first | exact hd.1 rfl | exact hd.2.1 rfl | exact hd.2.2.1 rfl | exact hd.2.2.2.1 rfl | exact hd.2.2.2.2.1 rfl | exact hd.2.2.2.2.2.1 rfl)
        refine Runs.of (b := ?bB7) ?eB7 ?_
        case eB7 => simp only [putV, Act.put, List.setIfInBounds_toArray, List.set_cons_zero, List.set_cons_succ, e6]; rfl
        intro K' hK'
        go_simp
        refine (sget_any S1014 ((X.drop 10).take 4) (HS1014.out w' hX) HYr.out (by rw [HLr.out]; omega) RN HRN.out).mono ?_
        rintro e w2 ⟨rfl, rfl⟩
        go_simp
        exact hK'.go _ rfl ⟨hL0, hL1, h134, hX, hK, h0, h1, h2, h3, h4, h5, h6, fun _ => rfl, h8, h9, h10, h11, h12, h13⟩
      · intro l x w' hJ hi hd
        obtain ⟨hL0, hL1, h134, hX, hK, h0, h1, h2, h3, h4, h5, h6, h7, h8, h9, h10, h11, h12, h13⟩ := hJ
        have e7 := h7 (show l 7 = true by first | exact hd.1 rfl | exact hd.2.1 rfl | exact hd.2.2.1 rfl | exact hd.2.2.2.1 rfl | exact hd.2.2.2.2.1 rfl | exact hd.2.2.2.2.2.1 rfl)
        refine Runs.of (b := ?bB8) ?eB8 ?_
        case eB8 => simp only [putV, Act.put, List.setIfInBounds_toArray, List.set_cons_zero, List.set_cons_succ, e7]; rfl
        intro K' hK'
        go_simp
        exact hK'.go _ rfl ⟨hL0, hL1, h134, hX, hK, h0, h1, h2, h3, h4, h5, h6, h7, fun _ => (by first | rfl | exact congrArg (Value.int .i64) HWRN.out), h9, h10, h11, h12, h13⟩
      · intro l x w' hJ hi hd
        obtain ⟨hL0, hL1, h134, hX, hK, h0, h1, h2, h3, h4, h5, h6, h7, h8, h9, h10, h11, h12, h13⟩ := hJ
        have e8 := h8 (show l 8 = true by first | exact hd.1 rfl | exact hd.2.1 rfl | exact hd.2.2.1 rfl | exact hd.2.2.2.1 rfl | exact hd.2.2.2.2.1 rfl | exact hd.2.2.2.2.2.1 rfl)
        refine Runs.of (b := ?bB9) ?eB9 ?_
        case eB9 => simp only [putV, Act.put, List.setIfInBounds_toArray, List.set_cons_zero, List.set_cons_succ, e8]; rfl
        intro K' hK'
        go_simp
        exact hK'.go _ rfl ⟨hL0, hL1, h134, hX, hK, h0, h1, h2, h3, h4, h5, h6, h7, h8, fun _ => (by first | rfl | exact congrArg (Value.int .i64) HWRN1.out), h10, h11, h12, h13⟩
      · intro l x w' hJ hi hd
        obtain ⟨hL0, hL1, h134, hX, hK, h0, h1, h2, h3, h4, h5, h6, h7, h8, h9, h10, h11, h12, h13⟩ := hJ
        have e4 := h4 (show l 4 = true by first | exact hd.1 rfl | exact hd.2.1 rfl | exact hd.2.2.1 rfl | exact hd.2.2.2.1 rfl | exact hd.2.2.2.2.1 rfl | exact hd.2.2.2.2.2.1 rfl)
        have e9 := h9 (show l 9 = true by first | exact hd.1 rfl | exact hd.2.1 rfl | exact hd.2.2.1 rfl | exact hd.2.2.2.1 rfl | exact hd.2.2.2.2.1 rfl | exact hd.2.2.2.2.2.1 rfl)
        have HL4 : Hid (l 4 = true) := Lib.hid (by first | exact hd.1 rfl | exact hd.2.1 rfl | exact hd.2.2.1 rfl | exact hd.2.2.2.1 rfl | exact hd.2.2.2.2.1 rfl | exact hd.2.2.2.2.2.1 rfl)
        refine Runs.of (b := ?bB10) ?eB10 ?_
        case eB10 => simp only [putV, Act.put, List.setIfInBounds_toArray, List.set_cons_zero, List.set_cons_succ, e4, e9]; rfl
        intro K' hK'
        go_simp
        exact hK'.go _ rfl ⟨hL0, hL1, h134, hX, hK, h0, h1, h2, h3, h4, h5, h6, h7, h8, h9, fun _ => ⟨congrArg (Value.int .i64) HMX.out, HL4⟩, h11, h12, h13⟩
      · intro l x w' hJ hi hd
        obtain ⟨hL0, hL1, h134, hX, hK, h0, h1, h2, h3, h4, h5, h6, h7, h8, h9, h10, h11, h12, h13⟩ := hJ
        have e0 := h0 (show l 0 = true by first | exact hd.1 rfl | exact hd.2.1 rfl | exact hd.2.2.1 rfl | exact hd.2.2.2.1 rfl | exact hd.2.2.2.2.1 rfl | exact hd.2.2.2.2.2.1 rfl)
        refine Runs.of (b := ?bB11) ?eB11 ?_
        case eB11 => simp only [putV, Act.put, List.setIfInBounds_toArray, List.set_cons_zero, List.set_cons_succ, e0]; rfl
        intro K' hK'
        go_simp
        exact hK'.go _ rfl ⟨hL0, hL1, h134, hX, hK, h0, h1, h2, h3, h4, h5, h6, h7, h8, h9, h10, fun _ => rfl, h12, h13⟩
      · intro l x w' hJ hi hd
        obtain ⟨hL0, hL1, h134, hX, hK, h0, h1, h2, h3, h4, h5, h6, h7, h8, h9, h10, h11, h12, h13⟩ := hJ
        have e11 := h11 (show l 11 = true by first | exact hd.1 rfl | exact hd.2.1 rfl | exact hd.2.2.1 rfl | exact hd.2.2.2.1 rfl | exact hd.2.2.2.2.1 rfl | exact hd.2.2.2.2.2.1 rfl)
        refine Runs.of (b := ?bB12) ?eB12 ?_
        case eB12 => simp only [putV, Act.put, List.setIfInBounds_toArray, List.set_cons_zero, List.set_cons_succ, e11]; rfl
        intro K' hK'
        go_simp
        exact hK'.go _ rfl ⟨hL0, hL1, h134, hX, hK, h0, h1, h2, h3, h4, h5, h6, h7, h8, h9, h10, h11, fun _ => rfl, h13⟩
      · intro l x w' hJ hi hd
        obtain ⟨hL0, hL1, h134, hX, hK, h0, h1, h2, h3, h4, h5, h6, h7, h8, h9, h10, h11, h12, h13⟩ := hJ
        have e10 := h10 (show l 10 = true by first | exact hd.1 rfl | exact hd.2.1 rfl | exact hd.2.2.1 rfl | exact hd.2.2.2.1 rfl | exact hd.2.2.2.2.1 rfl | exact hd.2.2.2.2.2.1 rfl)
        have e12 := h12 (show l 12 = true by first | exact hd.1 rfl | exact hd.2.1 rfl | exact hd.2.2.1 rfl | exact hd.2.2.2.1 rfl | exact hd.2.2.2.2.1 rfl | exact hd.2.2.2.2.2.1 rfl)
        have c5 := lg_5 (hL0 hi)
        have f5 := (hL0 hi).free 5
        refine Runs.of (b := ?bB13) ?eB13 ?_
        case eB13 => simp only [putV, Act.put, List.setIfInBounds_toArray, List.set_cons_zero, List.set_cons_succ, e10.1, e12]; rfl
        intro K' hK'
        have HL4 := e10.2
        have e10 := e10.1
        go_simp
        have k2 : Keep [lb] w' (w'.setCell ⟨lb, 5, none⟩ (.int .i64 run2)) := (Keep.refl _ _).setCell (.inl (by simp)) _
        have hL2 := (hL0 hi).set 5 (.int .i64 run2)
        exact hK'.go undef rfl ⟨fun h => Bool.noConfusion (show true = false from h), fun _ => hL2, fun _ => HL4.out, hX.keep k2 (fun q hq hm => by simp only [List.mem_singleton] at hm; subst hm; exact (hX.ty' q hq).ne (hL0 hi).ty (by decide) rfl), hK.trans k2, h0, h1, h2, h3, h4, h5, h6, h7, h8, h9, h10, h11, h12, fun _ => trivial⟩
      · intro l x w3 hJ hl
        obtain ⟨hL0, hL1, h134, hX, hK, h0, h1, h2, h3, h4, h5, h6, h7, h8, h9, h10, h11, h12, h13⟩ := hJ
        have hL9 := hL1 (hl 13 (by decide))
        simp only [putV, Act.put, List.setIfInBounds_toArray, List.set_cons_zero, List.set_cons_succ]
        simp only [Nat.zero_add, Nat.reduceAdd]
        have hpl : p ∉ [lb] := by have := HLL.out; simp; omega
        have HR1 : Hid (RdZ w p lb d frm segs nx run vl fr w3) := Lib.hid (by
          have hb := HW.out
          rw [HR2.out] at hL9
          exact ⟨(hb.seg.keep HK6.out (by simp)).keep hK hpl, hL9, hb.keep.trans ((HK6.out.mono (by simp)).trans hK), hb.new⟩)
        have HX9 := Lib.hid hX
        clear h0 h1 h2 h3 h4 h5 h6 h7 h8 h9 h10 h11 h12 h13 hL0 hL1 h134 hX hK hl hL9 hL6 hX6 hrn
        cases wh with
        | false =>
          have hi0 : 0 < i := by rcases HCC.out with ⟨h, _⟩ | ⟨_, h⟩; cases h; exact h
          have q5 : ((i : Int) == 0) = false := by simp; omega
          go_wp2_with fail
          go_roundw
          case rel => exact ⟨i + 1, false, rfl, by go_num, by omega, HR1.out, .inr ⟨rfl, by omega⟩⟩
          case measure => simp only [intOf]; omega
        | true =>
          have hxc : 64 ≤ xc := by obtain ⟨_, a, c, he, hc, _⟩ := HX9.out.rd; rw [HX64.out] at he hc; injection he with _ h2 h3; omega
          obtain rfl : i = 0 := by rcases HCC.out with ⟨_, h⟩ | ⟨h, _⟩; exact h; cases h
          have hF := Fld.any X HX64.out HXB.out
          have hG0 : unbe ((X.drop 4).take 6) = 0 := by rw [HXZ.out]; exact zero_be 6
          have hB0 : unbe ((X.drop 16).take 6) = 0 := by rw [HXZ.out]; exact zero_be 6
          rw [hG0, hB0] at hF
          have hcrc : crcSum (X.drop 4) ≠ unbe (X.take 4) := by rw [HXZ.out]; exact fun e => zero_crc (e.trans (zero_be 4))
          have HT := Lib.hid (take_crc hF hxc HR1.out.seg (Buf.nil w3 0 5) HX9.out HLT.out 0 0 (.inl ⟨rfl, rfl, rfl⟩) hcrc)
          have q5 : (((0 : Nat) : Int) == 0) = true := rfl
          clear hF hG0 hB0 hcrc
          go_wp2_with fail
          refine HT.out.mono ?_
          rintro e w4 ⟨rfl, g1, k4⟩
          have hRd : RdZ w p lb d frm segs nx run vl fr w4 := by
            have hb := HR1.out
            refine ⟨g1, hb.log.keep k4 (fun hm => ?_), hb.keep.then k4 (fun q hq hlt => absurd hb.new (by simp at hq; omega)), hb.new⟩
            simp only [List.mem_singleton] at hm
            subst hm
            exact hb.log.ty.ne hb.seg.ty (by decide) rfl
          have HRd := Lib.hid hRd
          have f0 := g1.free 0
          have c0 := seg_0 g1
          have g2 := g1.set 0 (.int .i64 0)
          have k5 : Keep [p] w4 (w4.setCell ⟨p, 0, none⟩ (.int .i64 0)) := (Keep.refl _ _).setCell (.inl (by simp)) _
          have hRe : RdZ w p lb d frm segs nx run vl fr (w4.setCell ⟨p, 0, none⟩ (.int .i64 0)) := by
            refine ⟨g2, hRd.log.keep k5 (fun hm => ?_), hRd.keep.then k5 (fun q hq hlt => absurd hRd.new (by simp at hq; omega)), hRd.new⟩
            simp only [List.mem_singleton] at hm
            subst hm
            exact hRd.log.ty.ne g1.ty (by decide) rfl
          have HRe := Lib.hid hRe
          clear hRd hRe g1 g2 k4 k5 HT
          go_wp2_with fail
          go_roundw
          case rel => exact ⟨1, false, rfl, by go_num, by omega, HRe.out, .inr ⟨rfl, by omega⟩⟩
          case measure => simp only [intOf]; omega
  · obtain rfl : i = 8 := by omega
    rw [show ((8 : Nat) : Int) = 8 from rfl]
    have q1 : decide (((0 : Nat) : Int) < 1) = true := rfl
    have s0 := seg_0 hW.seg
    have HW := Lib.hid hW
    clear hW hC hlt hi8'
    go_wp2_with fail
    go_quiet (fail)
    have k1 := drewnK (Keep.refl [] wr) nq
    have HK1 := Lib.hid k1
    clear k1
    go_wp2_with fail
    go_ret
    exact ⟨rfl, HW.out.log.keep HK1.out (by simp), HW.out.keep.trans (HK1.out.mono (by simp))⟩
end Go.Proofs.Ytpibpapolcdeiaa
