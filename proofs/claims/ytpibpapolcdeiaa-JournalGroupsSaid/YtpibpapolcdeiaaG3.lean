/- Sl4, Sl4a, Sl4b -/
import Derived.Test.YtpibpapolcdeiaaG2
/- slog: a sector is taken. -/
namespace Go.Proofs.Ytpibpapolcdeiaa
open Go.ChangeShapes Go.WideShapes Go.ChangeAt Go.RowKit
set_option linter.unusedVariables false
set_option linter.unusedSimpArgs false
set_option maxRecDepth 100000

def sgPart (X : List Nat) (i cl : Nat) : List Nat := (X.drop (64 - sgW i)).take cl
def takeJ3 (w0 : World) (p xb xc tcap GN BN : Nat) (run0 : Int) (vb vr S410 T6 : Value) (ta : Option Addr) (buf X : List Nat) (l : Nat → Bool) (x : Nat → Value) (w' : World) : Prop :=
  ∃ gx bx, (Blk w' p (sgC gx bx run0 vb vr) 80) ∧
  (l 12 = true → gx = (GN : Int)) ∧
  (l 15 = true → bx = (BN : Int)) ∧
  (Buf w' 0 5 (.slice (some ⟨xb, 0, none⟩) 64 xc) X) ∧
  (Buf w' 0 5 vb buf) ∧
  (Keep [p] w0 w') ∧
  (l 0 = true → x 0 = .pointer (some ⟨p, 0, none⟩)) ∧
  (l 1 = true → x 1 = .pointer (some ⟨p, 0, none⟩)) ∧
  (l 2 = true → x 2 = .slice (some ⟨xb, 0, none⟩) 64 xc) ∧
  (l 3 = true → x 3 = S410) ∧
  (l 4 = true → x 4 = .int .u64 (GN : Int)) ∧
  (l 5 = true → x 5 = .int .i64 (GN : Int)) ∧
  (l 6 = true → x 6 = .slice ta 48 tcap) ∧
  (l 7 = true → x 7 = T6) ∧
  (l 8 = true → x 8 = .int .u64 (BN : Int)) ∧
  (l 9 = true → x 9 = .int .i64 (BN : Int)) ∧
  (l 10 = true → x 10 = .pointer (some ⟨p, 0, none⟩)) ∧
  (l 11 = true → x 11 = .pointer (some ⟨p, 0, none⟩)) ∧
  (l 12 = true → True) ∧
  (l 13 = true → x 13 = .pointer (some ⟨p, 0, none⟩)) ∧
  (l 14 = true → x 14 = .pointer (some ⟨p, 1, none⟩)) ∧
  (l 15 = true → True)
def takeJ9 (w0 : World) (p xb xc tcap bcap i cl : Nat) (gen2 base2 run0 : Int) (vr T8 : Value) (ta ba : Option Addr) (buf X : List Nat) (l : Nat → Bool) (x : Nat → Value) (w' : World) : Prop :=
  ∃ va vcap, (l 13 = false → Blk w' p (sgC gen2 base2 run0 (.slice ba buf.length bcap) vr) 80) ∧
  (l 13 = true → Blk w' p (sgC gen2 base2 run0 (.slice va (buf.length + cl) vcap) vr) 80) ∧
  (l 13 = true → l 4 = true ∧ l 10 = true) ∧
  (l 10 = false → Buf w' 0 5 (.slice ba buf.length bcap) buf) ∧
  (l 10 = true → Buf w' 0 5 (.slice va (buf.length + cl) vcap) (buf ++ sgPart X i cl) ∧ ∀ k, (.slice va (buf.length + cl) vcap : Value).ownBlock = some k → (.slice ba buf.length bcap : Value).ownBlock = some k ∨ w0.heap.size ≤ k) ∧
  (Buf w' 0 5 (.slice (some ⟨xb, 0, none⟩) 64 xc) X) ∧
  (Rv w' 1 (.slice ta (sgW i) tcap) (sgW i) (bcs (X.drop (64 - sgW i)))) ∧
  (Keep (p :: (.slice ba buf.length bcap : Value).ownBlock.toList) w0 w') ∧
  (l 0 = true → x 0 = .pointer (some ⟨p, 0, none⟩)) ∧
  (l 1 = true → x 1 = .pointer (some ⟨p, 0, none⟩)) ∧
  (l 2 = true → x 2 = .pointer (some ⟨p, 0, none⟩)) ∧
  (l 3 = true → x 3 = .pointer (some ⟨p, 3, none⟩)) ∧
  (l 4 = true → x 4 = .slice ba buf.length bcap) ∧
  (l 5 = true → x 5 = .slice ta (sgW i) tcap) ∧
  (l 6 = true → x 6 = .slice (some ⟨xb, 0, none⟩) 64 xc) ∧
  (l 7 = true → x 7 = .pointer (some ⟨xb, 15, none⟩)) ∧
  (l 8 = true → x 8 = .int .u8 (cl : Int)) ∧
  (l 9 = true → x 9 = T8) ∧
  (l 10 = true → x 10 = .slice va (buf.length + cl) vcap ∧ Hid (l 4 = true)) ∧
  (l 11 = true → x 11 = .pointer (some ⟨p, 0, none⟩)) ∧
  (l 12 = true → x 12 = .pointer (some ⟨p, 3, none⟩)) ∧
  (l 13 = true → True)
def takeJok (w0 : World) (p xb xc tcap bcap SN FN GN RN gen2 base2 i cl : Nat) (run0 : Int) (vr S4 S04 S410 : Value) (ta ba : Option Addr) (buf X : List Nat) (l : Nat → Bool) (x : Nat → Value) (w' : World) : Prop :=
  ∃ B2, (Blk w' p (sgC (GN : Int) (base2 : Int) run0 (.slice ba buf.length bcap) vr) 80) ∧
  (Buf w' 0 5 (.slice (some ⟨xb, 0, none⟩) 64 xc) X) ∧
  (Keep [] w0 w') ∧
  (l 0 = true → x 0 = .slice (some ⟨xb, 0, none⟩) 64 xc) ∧
  (l 1 = true → x 1 = S4) ∧
  (l 2 = true → x 2 = .slice (some ⟨B2, 0, none⟩) 1 1 ∧ Blk w' B2 [S4] 30) ∧
  (l 3 = true → x 3 = .int .u32 (SN : Int)) ∧
  (l 4 = true → x 4 = .int .u64 (SN : Int)) ∧
  (l 5 = true → x 5 = .slice (some ⟨xb, 0, none⟩) 64 xc) ∧
  (l 6 = true → x 6 = S04) ∧
  (l 7 = true → x 7 = .int .u64 (SN : Int)) ∧
  (l 8 = true → x 8 = .bool false) ∧
  (l 9 = true → x 9 = .bool false) ∧
  (l 10 = true → x 10 = .slice (some ⟨xb, 0, none⟩) 64 xc) ∧
  (l 11 = true → x 11 = S410) ∧
  (l 12 = true → x 12 = .int .u64 (GN : Int)) ∧
  (l 13 = true → x 13 = .int .i64 (GN : Int)) ∧
  (l 14 = true → x 14 = .pointer (some ⟨p, 0, none⟩)) ∧
  (l 15 = true → x 15 = .pointer (some ⟨p, 0, none⟩)) ∧
  (l 16 = true → x 16 = .pointer (some ⟨p, 0, none⟩)) ∧
  (l 17 = true → x 17 = .int .i64 (GN : Int)) ∧
  (l 18 = true → x 18 = .bool false) ∧
  (l 19 = true → x 19 = .bool false) ∧
  (l 20 = true → x 20 = .bool false) ∧
  (l 21 = true → x 21 = .int .i64 (RN : Int)) ∧
  (l 22 = true → x 22 = .pointer (some ⟨p, 0, none⟩)) ∧
  (l 23 = true → x 23 = .pointer (some ⟨p, 0, none⟩)) ∧
  (l 24 = true → x 24 = .pointer (some ⟨p, 2, none⟩)) ∧
  (l 25 = true → x 25 = .int .i64 run0) ∧
  (l 26 = true → x 26 = .bool false) ∧
  (l 27 = true → x 27 = .bool false) ∧
  (l 28 = true → x 28 = .bool false) ∧
  (l 29 = true → x 29 = .slice (some ⟨xb, 0, none⟩) 64 xc) ∧
  (l 30 = true → x 30 = .pointer (some ⟨xb, 14, none⟩)) ∧
  (l 31 = true → x 31 = .int .u8 (i : Int)) ∧
  (l 32 = true → x 32 = .int .i64 (i : Int)) ∧
  (l 33 = true → x 33 = .int .i64 (i : Int)) ∧
  (l 34 = true → x 34 = .bool false) ∧
  (l 35 = true → x 35 = .bool false) ∧
  (l 36 = true → x 36 = .bool false) ∧
  (l 37 = true → x 37 = .slice (some ⟨xb, 0, none⟩) 64 xc) ∧
  (l 38 = true → x 38 = .pointer (some ⟨xb, 15, none⟩)) ∧
  (l 39 = true → x 39 = .int .u8 (cl : Int)) ∧
  (l 40 = true → x 40 = .int .i64 (cl : Int)) ∧
  (l 41 = true → x 41 = .slice ta (sgW i) tcap) ∧
  (l 42 = true → x 42 = .int .i64 (sgW i : Int)) ∧
  (l 43 = true → x 43 = .bool false) ∧
  (l 44 = true → x 44 = .bool false) ∧
  (l 45 = true → x 45 = .bool false) ∧
  (l 46 = true → x 46 = .pointer (some ⟨p, 0, none⟩)) ∧
  (l 47 = true → x 47 = .pointer (some ⟨p, 0, none⟩)) ∧
  (l 48 = true → x 48 = .pointer (some ⟨p, 3, none⟩)) ∧
  (l 49 = true → x 49 = .slice ba buf.length bcap) ∧
  (l 50 = true → x 50 = .int .i64 (buf.length : Int)) ∧
  (l 51 = true → x 51 = .int .i64 (i : Int)) ∧
  (l 52 = true → x 52 = .int .i64 (st0 i : Int)) ∧
  (l 53 = true → x 53 = .bool false) ∧
  (l 54 = true → x 54 = .bool false)
def takeJcrc (w0 : World) (p xb xc tcap bcap SN FN GN RN gen2 base2 i cl : Nat) (run0 : Int) (vr S4 S04 S410 : Value) (ta ba : Option Addr) (buf X : List Nat) (l : Nat → Bool) (x : Nat → Value) (w' : World) : Prop :=
  ∃ B2, (Blk w' p (sgC (gen2 : Int) (base2 : Int) run0 (.slice ba buf.length bcap) vr) 80) ∧
  (Buf w' 0 5 (.slice (some ⟨xb, 0, none⟩) 64 xc) X) ∧
  (Keep [] w0 w') ∧
  (l 0 = true → x 0 = .slice (some ⟨xb, 0, none⟩) 64 xc) ∧
  (l 1 = true → x 1 = S4) ∧
  (l 2 = true → x 2 = .slice (some ⟨B2, 0, none⟩) 1 1 ∧ Blk w' B2 [S4] 30) ∧
  (l 3 = true → x 3 = .int .u32 (SN : Int)) ∧
  (l 4 = true → x 4 = .int .u64 (SN : Int)) ∧
  (l 5 = true → x 5 = .slice (some ⟨xb, 0, none⟩) 64 xc) ∧
  (l 6 = true → x 6 = S04) ∧
  (l 7 = true → x 7 = .int .u64 (FN : Int)) ∧
  (l 8 = true → x 8 = .bool true) ∧
  (l 9 = true → x 9 = .bool true) ∧
  (l 18 = true → x 18 = undef) ∧
  (l 19 = true → x 19 = .bool true) ∧
  (l 20 = true → x 20 = .bool true) ∧
  (l 26 = true → x 26 = undef) ∧
  (l 27 = true → x 27 = .bool true) ∧
  (l 28 = true → x 28 = .bool true) ∧
  (l 34 = true → x 34 = undef) ∧
  (l 35 = true → x 35 = .bool true) ∧
  (l 36 = true → x 36 = .bool true) ∧
  (l 43 = true → x 43 = undef) ∧
  (l 44 = true → x 44 = .bool true) ∧
  (l 45 = true → x 45 = .bool true) ∧
  (l 53 = true → x 53 = undef) ∧
  (l 54 = true → x 54 = .bool true)
def takeJgen (w0 : World) (p xb xc tcap bcap SN FN GN RN gen2 base2 i cl : Nat) (run0 : Int) (vr S4 S04 S410 : Value) (ta ba : Option Addr) (buf X : List Nat) (l : Nat → Bool) (x : Nat → Value) (w' : World) : Prop :=
  ∃ B2, (Blk w' p (sgC (gen2 : Int) (base2 : Int) run0 (.slice ba buf.length bcap) vr) 80) ∧
  (Buf w' 0 5 (.slice (some ⟨xb, 0, none⟩) 64 xc) X) ∧
  (Keep [] w0 w') ∧
  (l 0 = true → x 0 = .slice (some ⟨xb, 0, none⟩) 64 xc) ∧
  (l 1 = true → x 1 = S4) ∧
  (l 2 = true → x 2 = .slice (some ⟨B2, 0, none⟩) 1 1 ∧ Blk w' B2 [S4] 30) ∧
  (l 3 = true → x 3 = .int .u32 (SN : Int)) ∧
  (l 4 = true → x 4 = .int .u64 (SN : Int)) ∧
  (l 5 = true → x 5 = .slice (some ⟨xb, 0, none⟩) 64 xc) ∧
  (l 6 = true → x 6 = S04) ∧
  (l 7 = true → x 7 = .int .u64 (SN : Int)) ∧
  (l 8 = true → x 8 = .bool false) ∧
  (l 9 = true → x 9 = .bool false) ∧
  (l 10 = true → x 10 = .slice (some ⟨xb, 0, none⟩) 64 xc) ∧
  (l 11 = true → x 11 = S410) ∧
  (l 12 = true → x 12 = .int .u64 (GN : Int)) ∧
  (l 13 = true → x 13 = .int .i64 (GN : Int)) ∧
  (l 14 = true → x 14 = .pointer (some ⟨p, 0, none⟩)) ∧
  (l 15 = true → x 15 = .pointer (some ⟨p, 0, none⟩)) ∧
  (l 16 = true → x 16 = .pointer (some ⟨p, 0, none⟩)) ∧
  (l 17 = true → x 17 = .int .i64 (gen2 : Int)) ∧
  (l 18 = true → x 18 = .bool true) ∧
  (l 19 = true → x 19 = .bool true) ∧
  (l 20 = true → x 20 = .bool true) ∧
  (l 26 = true → x 26 = undef) ∧
  (l 27 = true → x 27 = .bool true) ∧
  (l 28 = true → x 28 = .bool true) ∧
  (l 34 = true → x 34 = undef) ∧
  (l 35 = true → x 35 = .bool true) ∧
  (l 36 = true → x 36 = .bool true) ∧
  (l 43 = true → x 43 = undef) ∧
  (l 44 = true → x 44 = .bool true) ∧
  (l 45 = true → x 45 = .bool true) ∧
  (l 53 = true → x 53 = undef) ∧
  (l 54 = true → x 54 = .bool true)
theorem Buf.ty' {w : World} {base : Nat} {E : TypeId} {v : Value} {l : List Nat} (h : Buf w base E v l) : ∀ k, v.ownBlock = some k → Ty w k E := h.own.ty
/-- What a sector's bytes say. -/
structure Fld (X : List Nat) (SN FN GN RN BN i cl : Nat) : Prop where
  len : X.length = 64
  byte : ∀ c ∈ X, c < 256
  s : SN = crcSum (X.drop 4)
  f : FN = unbe (X.take 4)
  g : GN = unbe ((X.drop 4).take 6)
  r : RN = unbe ((X.drop 10).take 4)
  b : BN = unbe ((X.drop 16).take 6)
  i : i = X.getD 14 0
  c : cl = X.getD 15 0
theorem bcsD (l : List Nat) (k : Nat) : (bcs l).drop k = bcs (l.drop k) := by simp [bcs]
theorem bcsT (l : List Nat) (k : Nat) : (bcs l).take k = bcs (l.take k) := by simp [bcs]
theorem unbe_le (l : List Nat) (k : Nat) (hl : l.length ≤ k) (hb : ∀ c ∈ l, c < 256) : unbe l < 256 ^ k := Nat.lt_of_lt_of_le (unbe_lt l hb) (Nat.pow_le_pow_right (by omega) hl)
end Go.Proofs.Ytpibpapolcdeiaa
/- slog: a sector is taken: its sum is none. -/
namespace Go.Proofs.Ytpibpapolcdeiaa
open Go.ChangeShapes Go.WideShapes Go.ChangeAt Go.RowKit
set_option linter.unusedVariables false
set_option linter.unusedSimpArgs false
set_option maxRecDepth 100000

set_option maxHeartbeats 8000000 in
theorem take_crc {w : World} {p xb xc gen0 base0 : Nat} {run0 : Int} {vb vr : Value} {buf X : List Nat} {SN FN GN RN BN i0 cl i : Nat} (hF : Fld X SN FN GN RN BN i0 cl) (hxc : 64 ≤ xc) (hs0 : Blk w p (sgC gen0 base0 run0 vb vr) 80) (hB0 : Buf w 0 5 vb buf) (hX0 : Buf w 0 5 (.slice (some ⟨xb, 0, none⟩) 64 xc) X)
    (hi : i < 8) (gen2 base2 : Nat) (h2 : (i = 0 ∧ gen2 = GN ∧ base2 = BN) ∨ (0 < i ∧ gen2 = gen0 ∧ base2 = base0)) (hbad : SN ≠ FN) :
    Calls Try.prog 43 #[.pointer (some ⟨p, 0, none⟩), .int .i64 (i : Int), .slice (some ⟨xb, 0, none⟩) 64 xc] w fun e w' => e = .returned (.bool false) ∧ Blk w' p (sgC gen2 base2 run0 vb vr) 80 ∧ Keep [p] w w' := by
  have Q8 : Hid ((((SN : Nat) : Int) != ((FN : Nat) : Int)) = true) := Lib.hid (by simp; omega)
  clear hbad
  obtain ⟨i8, hi8, hz80, hz81, hz82⟩ := info_parts Try.info8
  obtain ⟨hl64, hby, hSN, hFN, hGN, hRN, hBN, hi14, hc15⟩ := hF
  obtain ⟨ba, bcap, rfl⟩ := hB0.slice
  have HRD : Hid (∀ W : World, Buf W 0 5 (.slice (some ⟨xb, 0, none⟩) 64 xc) X → Rv W 1 (.slice (some ⟨xb, 0, none⟩) 64 xc) 64 (bcs X)) := Lib.hid (fun W h => by have := h.rd; unfold Rd at this; rw [hl64] at this; exact this)
  obtain ⟨S410, hC410, hS410, _⟩ := cutE_both (P := Try.prog) 30 5 i8 Try.underlying30 hi8 hz81 (some ⟨xb, 0, none⟩) 64 xc (bcs X) 4 10 4 10 rfl rfl (by omega) (by omega) hxc
  obtain ⟨S1014, hC1014, hS1014, _⟩ := cutE_both (P := Try.prog) 30 5 i8 Try.underlying30 hi8 hz81 (some ⟨xb, 0, none⟩) 64 xc (bcs X) 10 14 10 14 rfl rfl (by omega) (by omega) hxc
  obtain ⟨S4, hC4, hS4, _⟩ := cutE_lo (P := Try.prog) 30 5 i8 Try.underlying30 hi8 hz81 (some ⟨xb, 0, none⟩) 64 xc (bcs X) 4 4 rfl (by omega)
  obtain ⟨S04, hC04, hS04, _⟩ := cutE_hi (P := Try.prog) 30 5 i8 Try.underlying30 hi8 hz81 (some ⟨xb, 0, none⟩) 64 xc (bcs X) 4 4 rfl (by omega) hxc
  obtain ⟨T0, hC16, hT0, hT0o⟩ := cutE_lo (P := Try.prog) 30 5 i8 Try.underlying30 hi8 hz81 (some ⟨xb, 0, none⟩) 64 xc (bcs X) 16 16 rfl (by omega)
  have bdr : ∀ k, (bcs X).drop k = bcs (X.drop k) := bcsD X
  have btk : ∀ k, (bcs X).take k = bcs (X.take k) := bcsT X
  have HS410 : Hid (∀ W : World, Rv W 1 (.slice (some ⟨xb, 0, none⟩) 64 xc) 64 (bcs X) → Rv W 1 S410 6 (bcs ((X.drop 4).take 6))) := Lib.hid (fun W h => by have := hS410 W h; rw [bcs_part] at this; exact this)
  have HS1014 : Hid (∀ W : World, Rv W 1 (.slice (some ⟨xb, 0, none⟩) 64 xc) 64 (bcs X) → Rv W 1 S1014 4 (bcs ((X.drop 10).take 4))) := Lib.hid (fun W h => by have := hS1014 W h; rw [bcs_part] at this; exact this)
  have HS4 : Hid (∀ W : World, Rv W 1 (.slice (some ⟨xb, 0, none⟩) 64 xc) 64 (bcs X) → Rv W 1 S4 60 (bcs (X.drop 4))) := Lib.hid (fun W h => by have := hS4 W h; rw [bdr] at this; exact this)
  obtain ⟨_, s4a, s4c, hs4e, _, _⟩ := id (HS4.out w (HRD.out w hX0))
  subst hs4e
  have HS04 : Hid (∀ W : World, Rv W 1 (.slice (some ⟨xb, 0, none⟩) 64 xc) 64 (bcs X) → Rv W 1 S04 4 (bcs (X.take 4))) := Lib.hid (fun W h => by have := hS04 W h; rw [btk] at this; exact this)
  have HT0 : Hid (∀ W : World, Rv W 1 (.slice (some ⟨xb, 0, none⟩) 64 xc) 64 (bcs X) → Rv W 1 T0 48 (bcs (X.drop 16))) := Lib.hid (fun W h => by have := hT0 W h; rw [bdr] at this; exact this)
  obtain ⟨_, ta, tcap, hte, htc, _⟩ := id (HT0.out w (HRD.out w hX0))
  subst hte
  have bd16 : ∀ k, (bcs (X.drop 16)).drop k = bcs ((X.drop 16).drop k) := bcsD _
  have bt16 : ∀ k, (bcs (X.drop 16)).take k = bcs ((X.drop 16).take k) := bcsT _
  obtain ⟨T6, hCT6, hT6, _⟩ := cutE_hi (P := Try.prog) 30 5 i8 Try.underlying30 hi8 hz81 ta 48 tcap (bcs (X.drop 16)) 6 6 rfl (by omega) htc
  obtain ⟨T6b, hCT6b, hT6b, hT6bo⟩ := cutE_lo (P := Try.prog) 30 5 i8 Try.underlying30 hi8 hz81 ta 48 tcap (bcs (X.drop 16)) 6 6 rfl (by omega)
  have HT6 : Hid (∀ W : World, Rv W 1 (.slice ta 48 tcap) 48 (bcs (X.drop 16)) → Rv W 1 T6 6 (bcs ((X.drop 16).take 6))) := Lib.hid (fun W h => by have := hT6 W h; rw [bt16] at this; exact this)
  have HT6b : Hid (∀ W : World, Rv W 1 (.slice ta 48 tcap) 48 (bcs (X.drop 16)) → Rv W 1 T6b 42 (bcs (X.drop 22))) := Lib.hid (fun W h => by have := hT6b W h; rw [bd16, List.drop_drop] at this; exact this)
  obtain ⟨_, tb, tcb, htbe, _, _⟩ := id (HT6b.out w (HT0.out w (HRD.out w hX0)))
  subst htbe
  have HC410 := Lib.hid hC410
  have HC4 := Lib.hid hC4
  have HC04 := Lib.hid hC04
  have HCT6 := Lib.hid hCT6
  have HCT6b := Lib.hid hCT6b
  have HTO := Lib.hid (show (Value.slice ta 48 tcap).ownBlock = some xb ∧ (Value.slice tb 42 tcb).ownBlock = some xb from ⟨hT0o, hT6bo.trans hT0o⟩)
  have hsub : ∀ (Y : List Nat), (∀ c ∈ Y, c ∈ X) → ∀ c ∈ Y, c < 256 := fun Y h c hc => hby c (h c hc)
  have HYg : Hid (∀ c ∈ (X.drop 4).take 6, c < 256) := Lib.hid (fun c hc => hby c (List.mem_of_mem_drop (List.mem_of_mem_take hc)))
  have HYr : Hid (∀ c ∈ (X.drop 10).take 4, c < 256) := Lib.hid (fun c hc => hby c (List.mem_of_mem_drop (List.mem_of_mem_take hc)))
  have HYb : Hid (∀ c ∈ (X.drop 16).take 6, c < 256) := Lib.hid (fun c hc => hby c (List.mem_of_mem_drop (List.mem_of_mem_take hc)))
  have HYd : Hid (∀ c ∈ X.drop 4, c < 256) := Lib.hid (fun c hc => hby c (List.mem_of_mem_drop hc))
  have HYf : Hid (∀ c ∈ X.take 4, c < 256) := Lib.hid (fun c hc => hby c (List.mem_of_mem_take hc))
  have HLg : Hid (((X.drop 4).take 6).length = 6) := Lib.hid (by rw [List.length_take, List.length_drop]; omega)
  have HLr : Hid (((X.drop 10).take 4).length = 4) := Lib.hid (by rw [List.length_take, List.length_drop]; omega)
  have HLb : Hid (((X.drop 16).take 6).length = 6) := Lib.hid (by rw [List.length_take, List.length_drop]; omega)
  have HL4 : Hid ((X.drop 4).length = 60) := Lib.hid (by rw [List.length_drop]; omega)
  have HLf : Hid ((X.take 4).length = 4) := Lib.hid (by rw [List.length_take]; omega)
  have hgn : GN < 281474976710656 := by rw [hGN]; exact unbe_le _ 6 (by rw [HLg.out]; omega) HYg.out
  have hrn : RN < 4294967296 := by rw [hRN]; exact unbe_le _ 4 (by rw [HLr.out]; omega) HYr.out
  have hbn : BN < 281474976710656 := by rw [hBN]; exact unbe_le _ 6 (by rw [HLb.out]; omega) HYb.out
  have hsn : SN < 4294967296 := by rw [hSN]; exact sumLt _ HYd.out
  have hcl : cl < 256 := by
    rw [hc15, List.getD_eq_getElem?_getD, List.getElem?_eq_getElem (by omega)]
    exact hby _ (List.getElem_mem _)
  have HGN := Lib.hid hGN
  have HRN := Lib.hid hRN
  have HBN := Lib.hid hBN
  have HSN := Lib.hid hSN
  have HFN := Lib.hid hFN
  have HWGN : Hid (IntKind.i64.wrap (GN : Int) = (GN : Int)) := Lib.hid (by rw [IntKind.wrap_i64]; omega)
  have HWBN : Hid (IntKind.i64.wrap (BN : Int) = (BN : Int)) := Lib.hid (by rw [IntKind.wrap_i64]; omega)
  have HWSN : Hid (IntKind.u64.wrap (SN : Int) = (SN : Int)) := Lib.hid (by simp [IntKind.wrap, IntKind.bits, IntKind.signed]; omega)
  have HWcl : Hid (IntKind.i64.wrap (cl : Int) = (cl : Int)) := Lib.hid (by rw [IntKind.wrap_i64]; omega)
  have HWi : Hid (IntKind.i64.wrap (i : Int) = (i : Int)) := Lib.hid (by rw [IntKind.wrap_i64]; omega)
  have HCL := Lib.hid hcl
  have HI8 := Lib.hid hi
  have H14 : Hid (∀ W : World, Buf W 0 5 (.slice (some ⟨xb, 0, none⟩) 64 xc) X → W.cell? ⟨xb, 14, none⟩ = some (.int .u8 (i0 : Int))) := Lib.hid (fun W h => by
    have h1 := (h.own.cell (n := 64) (by rw [bcs_length, hl64]) 14 (by omega)).1
    rw [h1, bcs_at X 14 (by omega), ← hi14]
    rfl)
  have H15 : Hid (∀ W : World, Buf W 0 5 (.slice (some ⟨xb, 0, none⟩) 64 xc) X → W.cell? ⟨xb, 15, none⟩ = some (.int .u8 (cl : Int))) := Lib.hid (fun W h => by
    have h1 := (h.own.cell (n := 64) (by rw [bcs_length, hl64]) 15 (by omega)).1
    rw [h1, bcs_at X 15 (by omega), ← hc15]
    rfl)
  have HXP : Hid (∀ q, (Value.slice (some ⟨xb, 0, none⟩) 64 xc).ownBlock = some q → q ∉ [p]) := Lib.hid (fun q hq hm => by
    simp only [List.mem_singleton] at hm
    subst hm
    exact (hX0.ty' _ hq).ne hs0.ty (by decide) rfl)
  have HBP : Hid (∀ q, (Value.slice ba buf.length bcap).ownBlock = some q → q ∉ [p]) := Lib.hid (fun q hq hm => by
    simp only [List.mem_singleton] at hm
    subst hm
    exact (hB0.ty' _ hq).ne hs0.ty (by decide) rfl)
  have H2 := Lib.hid h2
  clear hC410 hC4 hC04 hCT6 hCT6b hS410 hS1014 hS4 hS04 hT0 hT6 hT6b bdr btk bd16 bt16 hGN hRN hBN hSN hFN hi14 hc15 h2 hT0o hT6bo htc hsub hi
  go_enter Try.func43, Try.ntmps43
  go_upto_if 12 with fail
  go_cut [7] (fun s7 wc => ∃ ta tcap, s7 = .slice ta (sgW i) tcap ∧ (Value.slice ta (sgW i) tcap).ownBlock = some xb ∧ Rv wc 1 (.slice ta (sgW i) tcap) (sgW i) (bcs (X.drop (64 - sgW i))) ∧ Blk wc p (sgC gen2 base2 run0 (.slice ba buf.length bcap) vr) 80 ∧ Buf wc 0 5 (.slice (some ⟨xb, 0, none⟩) 64 xc) X ∧ Buf wc 0 5 (.slice ba buf.length bcap) buf ∧ Keep [p] w wc)
  case first =>
    rcases H2.out with ⟨h0, eg, eb⟩ | ⟨h0, eg, eb⟩
    · subst h0
      have EG := Lib.hid eg
      have EB := Lib.hid eb
      clear eg eb
      have HW42 : Hid (sgW 0 = 42) := Lib.hid rfl
      clear hC16
      go_wp2_with fail
      refine wp_region_inv (takeJ3 w p xb xc tcap GN BN run0 (.slice ba buf.length bcap) vr S410 T6 ta buf X) (by kernel_rfl) (by kernel_rfl) (by kernel_rfl) ?_ (Steps.cons 0 ?_ (Steps.cons 1 ?_ (Steps.cons 2 ?_ (Steps.cons 3 ?_ (Steps.cons 4 ?_ (Steps.cons 5 ?_ (Steps.cons 6 ?_ (Steps.cons 7 ?_ (Steps.cons 8 ?_ (Steps.cons 9 ?_ (Steps.cons 10 ?_ (Steps.cons 11 ?_ (Steps.cons 12 ?_ (Steps.cons 13 ?_ (Steps.cons 14 ?_ (Steps.cons 15 ?_ (Steps.nil 16))))))))))))))))) 16 rfl ?_
      · intro x
        exact ⟨_, _, hs0.drew, fun h => absurd h (by decide), fun h => absurd h (by decide), hX0.keep (Keep.refl [] _).drew (by simp), hB0.keep (Keep.refl [] _).drew (by simp), (Keep.refl _ _).drew, fun h => absurd h (by decide), fun h => absurd h (by decide), fun h => absurd h (by decide), fun h => absurd h (by decide), fun h => absurd h (by decide), fun h => absurd h (by decide), fun h => absurd h (by decide), fun h => absurd h (by decide), fun h => absurd h (by decide), fun h => absurd h (by decide), fun h => absurd h (by decide), fun h => absurd h (by decide), fun h => absurd h (by decide), fun h => absurd h (by decide), fun h => absurd h (by decide), fun h => absurd h (by decide)⟩
      · intro l x w' hJ hi hd
        obtain ⟨gx, bx, hS, hg, hb, hX, hB, hK, h0, h1, h2, h3, h4, h5, h6, h7, h8, h9, h10, h11, h12, h13, h14, h15⟩ := hJ
        refine Runs.of (b := ?bA0) ?eA0 ?_
        case eA0 => simp only [putV, Act.put, List.setIfInBounds_toArray, List.set_cons_zero, List.set_cons_succ]; rfl
        intro K' hK'
        go_simp
        exact hK'.go _ rfl ⟨gx, bx, hS, hg, hb, hX, hB, hK, fun _ => rfl, h1, h2, h3, h4, h5, h6, h7, h8, h9, h10, h11, h12, h13, h14, h15⟩
      · intro l x w' hJ hi hd
        obtain ⟨gx, bx, hS, hg, hb, hX, hB, hK, h0, h1, h2, h3, h4, h5, h6, h7, h8, h9, h10, h11, h12, h13, h14, h15⟩ := hJ
        refine Runs.of (b := ?bA1) ?eA1 ?_
        case eA1 => simp only [putV, Act.put, List.setIfInBounds_toArray, List.set_cons_zero, List.set_cons_succ]; rfl
        intro K' hK'
        go_simp
        exact hK'.go _ rfl ⟨gx, bx, hS, hg, hb, hX, hB, hK, h0, fun _ => rfl, h2, h3, h4, h5, h6, h7, h8, h9, h10, h11, h12, h13, h14, h15⟩
      · intro l x w' hJ hi hd
        obtain ⟨gx, bx, hS, hg, hb, hX, hB, hK, h0, h1, h2, h3, h4, h5, h6, h7, h8, h9, h10, h11, h12, h13, h14, h15⟩ := hJ
        refine Runs.of (b := ?bA2) ?eA2 ?_
        case eA2 => simp only [putV, Act.put, List.setIfInBounds_toArray, List.set_cons_zero, List.set_cons_succ]; rfl
        intro K' hK'
        go_simp
        exact hK'.go _ rfl ⟨gx, bx, hS, hg, hb, hX, hB, hK, h0, h1, fun _ => rfl, h3, h4, h5, h6, h7, h8, h9, h10, h11, h12, h13, h14, h15⟩
      · intro l x w' hJ hi hd
        obtain ⟨gx, bx, hS, hg, hb, hX, hB, hK, h0, h1, h2, h3, h4, h5, h6, h7, h8, h9, h10, h11, h12, h13, h14, h15⟩ := hJ
        have e2 := h2 (show l 2 = true by first | exact hd.1 rfl | exact hd.2.1 rfl | exact hd.2.2.1 rfl | exact hd.2.2.2.1 rfl | exact hd.2.2.2.2.1 rfl | exact hd.2.2.2.2.2.1 rfl)
        have hcut := HC410.out
        refine Runs.of (b := ?bA3) ?eA3 ?_
        case eA3 => simp only [putV, Act.put, List.setIfInBounds_toArray, List.set_cons_zero, List.set_cons_succ, e2]; rfl
        intro K' hK'
        go_simp
        exact hK'.go _ rfl ⟨gx, bx, hS, hg, hb, hX, hB, hK, h0, h1, h2, fun _ => rfl, h4, h5, h6, h7, h8, h9, h10, h11, h12, h13, h14, h15⟩
      · intro l x w' hJ hi hd
        obtain ⟨gx, bx, hS, hg, hb, hX, hB, hK, h0, h1, h2, h3, h4, h5, h6, h7, h8, h9, h10, h11, h12, h13, h14, h15⟩ := hJ
        have e3 := h3 (show l 3 = true by first | exact hd.1 rfl | exact hd.2.1 rfl | exact hd.2.2.1 rfl | exact hd.2.2.2.1 rfl | exact hd.2.2.2.2.1 rfl | exact hd.2.2.2.2.2.1 rfl)
        refine Runs.of (b := ?bA4) ?eA4 ?_
        case eA4 => simp only [putV, Act.put, List.setIfInBounds_toArray, List.set_cons_zero, List.set_cons_succ, e3]; rfl
        intro K' hK'
        go_simp
        refine (sget_any S410 ((X.drop 4).take 6) (Rv.rd (HS410.out w' (HRD.out w' hX)) HLg.out) HYg.out (by rw [HLg.out]; omega) GN HGN.out).mono ?_
        rintro e w2 ⟨rfl, rfl⟩
        go_simp
        exact hK'.go _ rfl ⟨gx, bx, hS, hg, hb, hX, hB, hK, h0, h1, h2, h3, fun _ => rfl, h5, h6, h7, h8, h9, h10, h11, h12, h13, h14, h15⟩
      · intro l x w' hJ hi hd
        obtain ⟨gx, bx, hS, hg, hb, hX, hB, hK, h0, h1, h2, h3, h4, h5, h6, h7, h8, h9, h10, h11, h12, h13, h14, h15⟩ := hJ
        have e4 := h4 (show l 4 = true by first | exact hd.1 rfl | exact hd.2.1 rfl | exact hd.2.2.1 rfl | exact hd.2.2.2.1 rfl | exact hd.2.2.2.2.1 rfl | exact hd.2.2.2.2.2.1 rfl)
        refine Runs.of (b := ?bA5) ?eA5 ?_
        case eA5 => simp only [putV, Act.put, List.setIfInBounds_toArray, List.set_cons_zero, List.set_cons_succ, e4]; rfl
        intro K' hK'
        go_simp
        exact hK'.go _ rfl ⟨gx, bx, hS, hg, hb, hX, hB, hK, h0, h1, h2, h3, h4, fun _ => (by first | rfl | exact congrArg (Value.int .i64) HWGN.out), h6, h7, h8, h9, h10, h11, h12, h13, h14, h15⟩
      · intro l x w' hJ hi hd
        obtain ⟨gx, bx, hS, hg, hb, hX, hB, hK, h0, h1, h2, h3, h4, h5, h6, h7, h8, h9, h10, h11, h12, h13, h14, h15⟩ := hJ
        refine Runs.of (b := ?bA6) ?eA6 ?_
        case eA6 => simp only [putV, Act.put, List.setIfInBounds_toArray, List.set_cons_zero, List.set_cons_succ]; rfl
        intro K' hK'
        go_simp
        exact hK'.go _ rfl ⟨gx, bx, hS, hg, hb, hX, hB, hK, h0, h1, h2, h3, h4, h5, fun _ => rfl, h7, h8, h9, h10, h11, h12, h13, h14, h15⟩
      · intro l x w' hJ hi hd
        obtain ⟨gx, bx, hS, hg, hb, hX, hB, hK, h0, h1, h2, h3, h4, h5, h6, h7, h8, h9, h10, h11, h12, h13, h14, h15⟩ := hJ
        have e6 := h6 (show l 6 = true by first | exact hd.1 rfl | exact hd.2.1 rfl | exact hd.2.2.1 rfl | exact hd.2.2.2.1 rfl | exact hd.2.2.2.2.1 rfl | exact hd.2.2.2.2.2.1 rfl)
        have hcut := HCT6.out
        refine Runs.of (b := ?bA7) ?eA7 ?_
        case eA7 => simp only [putV, Act.put, List.setIfInBounds_toArray, List.set_cons_zero, List.set_cons_succ, e6]; rfl
        intro K' hK'
        go_simp
        exact hK'.go _ rfl ⟨gx, bx, hS, hg, hb, hX, hB, hK, h0, h1, h2, h3, h4, h5, h6, fun _ => rfl, h8, h9, h10, h11, h12, h13, h14, h15⟩
      · intro l x w' hJ hi hd
        obtain ⟨gx, bx, hS, hg, hb, hX, hB, hK, h0, h1, h2, h3, h4, h5, h6, h7, h8, h9, h10, h11, h12, h13, h14, h15⟩ := hJ
        have e7 := h7 (show l 7 = true by first | exact hd.1 rfl | exact hd.2.1 rfl | exact hd.2.2.1 rfl | exact hd.2.2.2.1 rfl | exact hd.2.2.2.2.1 rfl | exact hd.2.2.2.2.2.1 rfl)
        refine Runs.of (b := ?bA8) ?eA8 ?_
        case eA8 => simp only [putV, Act.put, List.setIfInBounds_toArray, List.set_cons_zero, List.set_cons_succ, e7]; rfl
        intro K' hK'
        go_simp
        refine (sget_any T6 ((X.drop 16).take 6) (Rv.rd (HT6.out w' (HT0.out w' (HRD.out w' hX))) HLb.out) HYb.out (by rw [HLb.out]; omega) BN HBN.out).mono ?_
        rintro e w2 ⟨rfl, rfl⟩
        go_simp
        exact hK'.go _ rfl ⟨gx, bx, hS, hg, hb, hX, hB, hK, h0, h1, h2, h3, h4, h5, h6, h7, fun _ => rfl, h9, h10, h11, h12, h13, h14, h15⟩
      · intro l x w' hJ hi hd
        obtain ⟨gx, bx, hS, hg, hb, hX, hB, hK, h0, h1, h2, h3, h4, h5, h6, h7, h8, h9, h10, h11, h12, h13, h14, h15⟩ := hJ
        have e8 := h8 (show l 8 = true by first | exact hd.1 rfl | exact hd.2.1 rfl | exact hd.2.2.1 rfl | exact hd.2.2.2.1 rfl | exact hd.2.2.2.2.1 rfl | exact hd.2.2.2.2.2.1 rfl)
        refine Runs.of (b := ?bA9) ?eA9 ?_
        case eA9 => simp only [putV, Act.put, List.setIfInBounds_toArray, List.set_cons_zero, List.set_cons_succ, e8]; rfl
        intro K' hK'
        go_simp
        exact hK'.go _ rfl ⟨gx, bx, hS, hg, hb, hX, hB, hK, h0, h1, h2, h3, h4, h5, h6, h7, h8, fun _ => (by first | rfl | exact congrArg (Value.int .i64) HWBN.out), h10, h11, h12, h13, h14, h15⟩
      · intro l x w' hJ hi hd
        obtain ⟨gx, bx, hS, hg, hb, hX, hB, hK, h0, h1, h2, h3, h4, h5, h6, h7, h8, h9, h10, h11, h12, h13, h14, h15⟩ := hJ
        have e0 := h0 (show l 0 = true by first | exact hd.1 rfl | exact hd.2.1 rfl | exact hd.2.2.1 rfl | exact hd.2.2.2.1 rfl | exact hd.2.2.2.2.1 rfl | exact hd.2.2.2.2.2.1 rfl)
        refine Runs.of (b := ?bA10) ?eA10 ?_
        case eA10 => simp only [putV, Act.put, List.setIfInBounds_toArray, List.set_cons_zero, List.set_cons_succ, e0]; rfl
        intro K' hK'
        go_simp
        exact hK'.go _ rfl ⟨gx, bx, hS, hg, hb, hX, hB, hK, h0, h1, h2, h3, h4, h5, h6, h7, h8, h9, fun _ => rfl, h11, h12, h13, h14, h15⟩
      · intro l x w' hJ hi hd
        obtain ⟨gx, bx, hS, hg, hb, hX, hB, hK, h0, h1, h2, h3, h4, h5, h6, h7, h8, h9, h10, h11, h12, h13, h14, h15⟩ := hJ
        have e10 := h10 (show l 10 = true by first | exact hd.1 rfl | exact hd.2.1 rfl | exact hd.2.2.1 rfl | exact hd.2.2.2.1 rfl | exact hd.2.2.2.2.1 rfl | exact hd.2.2.2.2.2.1 rfl)
        refine Runs.of (b := ?bA11) ?eA11 ?_
        case eA11 => simp only [putV, Act.put, List.setIfInBounds_toArray, List.set_cons_zero, List.set_cons_succ, e10]; rfl
        intro K' hK'
        go_simp
        exact hK'.go _ rfl ⟨gx, bx, hS, hg, hb, hX, hB, hK, h0, h1, h2, h3, h4, h5, h6, h7, h8, h9, h10, fun _ => rfl, h12, h13, h14, h15⟩
      · intro l x w' hJ hi hd
        obtain ⟨gx, bx, hS, hg, hb, hX, hB, hK, h0, h1, h2, h3, h4, h5, h6, h7, h8, h9, h10, h11, h12, h13, h14, h15⟩ := hJ
        have e5 := h5 (show l 5 = true by first | exact hd.1 rfl | exact hd.2.1 rfl | exact hd.2.2.1 rfl | exact hd.2.2.2.1 rfl | exact hd.2.2.2.2.1 rfl | exact hd.2.2.2.2.2.1 rfl)
        have e11 := h11 (show l 11 = true by first | exact hd.1 rfl | exact hd.2.1 rfl | exact hd.2.2.1 rfl | exact hd.2.2.2.1 rfl | exact hd.2.2.2.2.1 rfl | exact hd.2.2.2.2.2.1 rfl)
        have f0 := seg_0 hS
        have f1 := hS.free 0
        refine Runs.of (b := ?bA12) ?eA12 ?_
        case eA12 => simp only [putV, Act.put, List.setIfInBounds_toArray, List.set_cons_zero, List.set_cons_succ, e5, e11]; rfl
        intro K' hK'
        go_simp
        have k2 : Keep [p] w' (w'.setCell ⟨p, 0, none⟩ (.int .i64 (GN : Int))) := (Keep.refl _ _).setCell (.inl (by simp)) _
        exact hK'.go undef rfl ⟨(GN : Int), bx, hS.set 0 _, fun _ => rfl, hb, hX.keep k2 (fun q hq => HXP.out q hq), hB.keep k2 (fun q hq => HBP.out q hq), hK.trans k2, h0, h1, h2, h3, h4, h5, h6, h7, h8, h9, h10, h11, fun _ => trivial, h13, h14, h15⟩
      · intro l x w' hJ hi hd
        obtain ⟨gx, bx, hS, hg, hb, hX, hB, hK, h0, h1, h2, h3, h4, h5, h6, h7, h8, h9, h10, h11, h12, h13, h14, h15⟩ := hJ
        have e1 := h1 (show l 1 = true by first | exact hd.1 rfl | exact hd.2.1 rfl | exact hd.2.2.1 rfl | exact hd.2.2.2.1 rfl | exact hd.2.2.2.2.1 rfl | exact hd.2.2.2.2.2.1 rfl)
        refine Runs.of (b := ?bA13) ?eA13 ?_
        case eA13 => simp only [putV, Act.put, List.setIfInBounds_toArray, List.set_cons_zero, List.set_cons_succ, e1]; rfl
        intro K' hK'
        go_simp
        exact hK'.go _ rfl ⟨gx, bx, hS, hg, hb, hX, hB, hK, h0, h1, h2, h3, h4, h5, h6, h7, h8, h9, h10, h11, h12, fun _ => rfl, h14, h15⟩
      · intro l x w' hJ hi hd
        obtain ⟨gx, bx, hS, hg, hb, hX, hB, hK, h0, h1, h2, h3, h4, h5, h6, h7, h8, h9, h10, h11, h12, h13, h14, h15⟩ := hJ
        have e13 := h13 (show l 13 = true by first | exact hd.1 rfl | exact hd.2.1 rfl | exact hd.2.2.1 rfl | exact hd.2.2.2.1 rfl | exact hd.2.2.2.2.1 rfl | exact hd.2.2.2.2.2.1 rfl)
        refine Runs.of (b := ?bA14) ?eA14 ?_
        case eA14 => simp only [putV, Act.put, List.setIfInBounds_toArray, List.set_cons_zero, List.set_cons_succ, e13]; rfl
        intro K' hK'
        go_simp
        exact hK'.go _ rfl ⟨gx, bx, hS, hg, hb, hX, hB, hK, h0, h1, h2, h3, h4, h5, h6, h7, h8, h9, h10, h11, h12, h13, fun _ => rfl, h15⟩
      · intro l x w' hJ hi hd
        obtain ⟨gx, bx, hS, hg, hb, hX, hB, hK, h0, h1, h2, h3, h4, h5, h6, h7, h8, h9, h10, h11, h12, h13, h14, h15⟩ := hJ
        have e9 := h9 (show l 9 = true by first | exact hd.1 rfl | exact hd.2.1 rfl | exact hd.2.2.1 rfl | exact hd.2.2.2.1 rfl | exact hd.2.2.2.2.1 rfl | exact hd.2.2.2.2.2.1 rfl)
        have e14 := h14 (show l 14 = true by first | exact hd.1 rfl | exact hd.2.1 rfl | exact hd.2.2.1 rfl | exact hd.2.2.2.1 rfl | exact hd.2.2.2.2.1 rfl | exact hd.2.2.2.2.2.1 rfl)
        have f0 := seg_1 hS
        have f1 := hS.free 1
        refine Runs.of (b := ?bA15) ?eA15 ?_
        case eA15 => simp only [putV, Act.put, List.setIfInBounds_toArray, List.set_cons_zero, List.set_cons_succ, e9, e14]; rfl
        intro K' hK'
        go_simp
        have k2 : Keep [p] w' (w'.setCell ⟨p, 1, none⟩ (.int .i64 (BN : Int))) := (Keep.refl _ _).setCell (.inl (by simp)) _
        exact hK'.go undef rfl ⟨gx, (BN : Int), hS.set 1 _, hg, fun _ => rfl, hX.keep k2 (fun q hq => HXP.out q hq), hB.keep k2 (fun q hq => HBP.out q hq), hK.trans k2, h0, h1, h2, h3, h4, h5, h6, h7, h8, h9, h10, h11, h12, h13, h14, fun _ => trivial⟩
      · intro l x w3 hJ hl
        obtain ⟨gx, bx, hS, hg, hb, hX, hB, hK, h0, h1, h2, h3, h4, h5, h6, h7, h8, h9, h10, h11, h12, h13, h14, h15⟩ := hJ
        have eg := hg (hl 12 (by decide))
        have eb := hb (hl 15 (by decide))
        subst eg eb
        clear h0 h1 h2 h3 h4 h5 h6 h7 h8 h9 h10 h11 h12 h13 h14 h15 hg hb hl
        simp only [putV, Act.put, List.setIfInBounds_toArray, List.set_cons_zero, List.set_cons_succ]
        simp only [Nat.zero_add, Nat.reduceAdd]
        have HS := Lib.hid hS
        have HX := Lib.hid hX
        have HB := Lib.hid hB
        have HK := Lib.hid hK
        have hcut := HCT6b.out
        clear hS hX hB hK hs0 hX0 hB0
        go_wp2_with fail
        go_meet
        exact ⟨tb, tcb, rfl, HTO.out.2, HT6b.out _ (HT0.out _ (HRD.out _ HX.out)), (by rw [EG.out, EB.out]; exact HS.out), HX.out, HB.out, HK.out⟩
    · have q : ((i : Int) == 0) = false := by simp; omega
      have hw : sgW i = 48 := by unfold sgW; rw [if_neg (by omega)]
      have HW := Lib.hid hw
      have EG := Lib.hid eg
      have EB := Lib.hid eb
      clear hw hC16 h0 eg eb
      go_wp2_with fail
      go_meet
      refine ⟨ta, tcap, by rw [HW.out], by rw [HW.out]; exact HTO.out.1, ?_, by rw [EG.out, EB.out]; exact hs0, hX0, hB0, Keep.refl _ _⟩
      rw [HW.out]
      exact HT0.out w (HRD.out w hX0)
  case rest =>
  clear hs0 hX0 hB0 hC16 HT0 HT6 HT6b HCT6 HCT6b HTO
  obtain ⟨ta, tcap, rfl, hto, hT1, hs1', hX1', hB1, K1⟩ := hcut
  have HTOX := Lib.hid hto
  clear hto
  generalize hwc : wc = wq at *
  clear hwc
  have HXR := Lib.hid (HRD.out wq hX1')
  go_wp2_with fail
  refine (sget_any S1014 ((X.drop 10).take 4) (Rv.rd (HS1014.out wq HXR.out) HLr.out) HYr.out (by rw [HLr.out]; omega) RN HRN.out).mono ?_
  rintro e w1 ⟨rfl, rfl⟩
  have hs1 := hs1'
  have hX1 := hX1'
  clear hs1' hX1' hC1014 HXR
  go_wp2_with fail
  refine wp_region_inv (takeJcrc wq p xb xc tcap bcap SN FN GN RN gen2 base2 i cl run0 vr (.slice s4a 60 s4c) S04 S410 ta ba buf X) (by kernel_rfl) (by kernel_rfl) (by kernel_rfl) ?_ (Steps.cons 0 ?_ (Steps.cons 1 ?_ (Steps.cons 2 ?_ (Steps.cons 3 ?_ (Steps.cons 4 ?_ (Steps.cons 5 ?_ (Steps.cons 6 ?_ (Steps.cons 7 ?_ (Steps.cons 8 ?_ (Steps.cons 9 ?_ (Steps.cons 10 ?_ (Steps.cons 11 ?_ (Steps.cons 12 ?_ (Steps.cons 13 ?_ (Steps.cons 14 ?_ (Steps.cons 15 ?_ (Steps.cons 16 ?_ (Steps.cons 17 ?_ (Steps.cons 18 ?_ (Steps.cons 19 ?_ (Steps.cons 20 ?_ (Steps.cons 21 ?_ (Steps.cons 22 ?_ (Steps.cons 23 ?_ (Steps.cons 24 ?_ (Steps.cons 25 ?_ (Steps.cons 26 ?_ (Steps.cons 27 ?_ (Steps.cons 28 ?_ (Steps.cons 29 ?_ (Steps.cons 30 ?_ (Steps.cons 31 ?_ (Steps.cons 32 ?_ (Steps.cons 33 ?_ (Steps.cons 34 ?_ (Steps.cons 35 ?_ (Steps.cons 36 ?_ (Steps.cons 37 ?_ (Steps.cons 38 ?_ (Steps.cons 39 ?_ (Steps.cons 40 ?_ (Steps.cons 41 ?_ (Steps.cons 42 ?_ (Steps.cons 43 ?_ (Steps.cons 44 ?_ (Steps.cons 45 ?_ (Steps.cons 46 ?_ (Steps.cons 47 ?_ (Steps.cons 48 ?_ (Steps.cons 49 ?_ (Steps.cons 50 ?_ (Steps.cons 51 ?_ (Steps.cons 52 ?_ (Steps.cons 53 ?_ (Steps.cons 54 ?_ (Steps.nil 55)))))))))))))))))))))))))))))))))))))))))))))))))))))))) 55 rfl ?_
  · intro x
    exact ⟨0, hs1.drew, hX1.keep (Keep.refl [] _).drew (by simp), (Keep.refl _ _).drew, fun h => absurd h (by decide), fun h => absurd h (by decide), fun h => absurd h (by decide), fun h => absurd h (by decide), fun h => absurd h (by decide), fun h => absurd h (by decide), fun h => absurd h (by decide), fun h => absurd h (by decide), fun h => absurd h (by decide), fun h => absurd h (by decide), fun h => absurd h (by decide), fun h => absurd h (by decide), fun h => absurd h (by decide), fun h => absurd h (by decide), fun h => absurd h (by decide), fun h => absurd h (by decide), fun h => absurd h (by decide), fun h => absurd h (by decide), fun h => absurd h (by decide), fun h => absurd h (by decide), fun h => absurd h (by decide), fun h => absurd h (by decide), fun h => absurd h (by decide), fun h => absurd h (by decide)⟩
  · intro l x w' hJ hi hd
    obtain ⟨B2, hS, hX, hK, h0, h1, h2, h3, h4, h5, h6, h7, h8, h9, h18, h19, h20, h26, h27, h28, h34, h35, h36, h43, h44, h45, h53, h54⟩ := hJ
    refine Runs.of (b := ?bB0) ?eB0 ?_
    case eB0 => simp only [putV, Act.put, List.setIfInBounds_toArray, List.set_cons_zero, List.set_cons_succ]; rfl
    intro K' hK'
    go_simp
    exact hK'.go _ rfl ⟨B2, hS, hX, hK, fun _ => rfl, h1, h2, h3, h4, h5, h6, h7, h8, h9, h18, h19, h20, h26, h27, h28, h34, h35, h36, h43, h44, h45, h53, h54⟩
  · intro l x w' hJ hi hd
    obtain ⟨B2, hS, hX, hK, h0, h1, h2, h3, h4, h5, h6, h7, h8, h9, h18, h19, h20, h26, h27, h28, h34, h35, h36, h43, h44, h45, h53, h54⟩ := hJ
    have e0 := h0 (show l 0 = true by first | exact hd.1 rfl | exact hd.2.1 rfl | exact hd.2.2.1 rfl | exact hd.2.2.2.1 rfl | exact hd.2.2.2.2.1 rfl | exact hd.2.2.2.2.2.1 rfl)
    have hcut := HC4.out
    refine Runs.of (b := ?bB1) ?eB1 ?_
    case eB1 => simp only [putV, Act.put, List.setIfInBounds_toArray, List.set_cons_zero, List.set_cons_succ, e0]; rfl
    intro K' hK'
    go_simp
    exact hK'.go _ rfl ⟨B2, hS, hX, hK, h0, fun _ => rfl, h2, h3, h4, h5, h6, h7, h8, h9, h18, h19, h20, h26, h27, h28, h34, h35, h36, h43, h44, h45, h53, h54⟩
  · intro l x w' hJ hi hd
    obtain ⟨B2, hS, hX, hK, h0, h1, h2, h3, h4, h5, h6, h7, h8, h9, h18, h19, h20, h26, h27, h28, h34, h35, h36, h43, h44, h45, h53, h54⟩ := hJ
    have e1 := h1 (show l 1 = true by first | exact hd.1 rfl | exact hd.2.1 rfl | exact hd.2.2.1 rfl | exact hd.2.2.2.1 rfl | exact hd.2.2.2.2.1 rfl | exact hd.2.2.2.2.2.1 rfl)
    refine Runs.of (b := ?bB2) ?eB2 ?_
    case eB2 => simp only [putV, Act.put, List.setIfInBounds_toArray, List.set_cons_zero, List.set_cons_succ, e1]; rfl
    intro K' hK'
    go_simp
    exact hK'.go _ rfl ⟨w'.heap.size, hS.alloc _, hX.alloc _, hK.alloc _, h0, h1, fun _ => ⟨rfl, Blk.new _ [_] _⟩, h3, h4, h5, h6, h7, h8, h9, h18, h19, h20, h26, h27, h28, h34, h35, h36, h43, h44, h45, h53, h54⟩
  · intro l x w' hJ hi hd
    obtain ⟨B2, hS, hX, hK, h0, h1, h2, h3, h4, h5, h6, h7, h8, h9, h18, h19, h20, h26, h27, h28, h34, h35, h36, h43, h44, h45, h53, h54⟩ := hJ
    have e2 := h2 (show l 2 = true by first | exact hd.1 rfl | exact hd.2.1 rfl | exact hd.2.2.1 rfl | exact hd.2.2.2.1 rfl | exact hd.2.2.2.2.1 rfl | exact hd.2.2.2.2.2.1 rfl)
    refine Runs.of (b := ?bB3) ?eB3 ?_
    case eB3 => simp only [putV, Act.put, List.setIfInBounds_toArray, List.set_cons_zero, List.set_cons_succ, e2.1]; rfl
    intro K' hK'
    go_simp
    refine (Sum_one _ _ _ (X.drop 4) (rv_blk e2.2 rfl) (Rv.rd (HS4.out w' (HRD.out w' hX)) HL4.out) HYd.out (by rw [HL4.out]; omega) SN HSN.out).mono ?_
    rintro e w2 ⟨rfl, rfl⟩
    go_simp
    exact hK'.go _ rfl ⟨B2, hS, hX, hK, h0, h1, h2, fun _ => rfl, h4, h5, h6, h7, h8, h9, h18, h19, h20, h26, h27, h28, h34, h35, h36, h43, h44, h45, h53, h54⟩
  · intro l x w' hJ hi hd
    obtain ⟨B2, hS, hX, hK, h0, h1, h2, h3, h4, h5, h6, h7, h8, h9, h18, h19, h20, h26, h27, h28, h34, h35, h36, h43, h44, h45, h53, h54⟩ := hJ
    have e3 := h3 (show l 3 = true by first | exact hd.1 rfl | exact hd.2.1 rfl | exact hd.2.2.1 rfl | exact hd.2.2.2.1 rfl | exact hd.2.2.2.2.1 rfl | exact hd.2.2.2.2.2.1 rfl)
    refine Runs.of (b := ?bB4) ?eB4 ?_
    case eB4 => simp only [putV, Act.put, List.setIfInBounds_toArray, List.set_cons_zero, List.set_cons_succ, e3]; rfl
    intro K' hK'
    go_simp
    exact hK'.go _ rfl ⟨B2, hS, hX, hK, h0, h1, h2, h3, fun _ => (by first | rfl | exact congrArg (Value.int .u64) HWSN.out), h5, h6, h7, h8, h9, h18, h19, h20, h26, h27, h28, h34, h35, h36, h43, h44, h45, h53, h54⟩
  · intro l x w' hJ hi hd
    obtain ⟨B2, hS, hX, hK, h0, h1, h2, h3, h4, h5, h6, h7, h8, h9, h18, h19, h20, h26, h27, h28, h34, h35, h36, h43, h44, h45, h53, h54⟩ := hJ
    refine Runs.of (b := ?bB5) ?eB5 ?_
    case eB5 => simp only [putV, Act.put, List.setIfInBounds_toArray, List.set_cons_zero, List.set_cons_succ]; rfl
    intro K' hK'
    go_simp
    exact hK'.go _ rfl ⟨B2, hS, hX, hK, h0, h1, h2, h3, h4, fun _ => rfl, h6, h7, h8, h9, h18, h19, h20, h26, h27, h28, h34, h35, h36, h43, h44, h45, h53, h54⟩
  · intro l x w' hJ hi hd
    obtain ⟨B2, hS, hX, hK, h0, h1, h2, h3, h4, h5, h6, h7, h8, h9, h18, h19, h20, h26, h27, h28, h34, h35, h36, h43, h44, h45, h53, h54⟩ := hJ
    have e5 := h5 (show l 5 = true by first | exact hd.1 rfl | exact hd.2.1 rfl | exact hd.2.2.1 rfl | exact hd.2.2.2.1 rfl | exact hd.2.2.2.2.1 rfl | exact hd.2.2.2.2.2.1 rfl)
    have hcut := HC04.out
    refine Runs.of (b := ?bB6) ?eB6 ?_
    case eB6 => simp only [putV, Act.put, List.setIfInBounds_toArray, List.set_cons_zero, List.set_cons_succ, e5]; rfl
    intro K' hK'
    go_simp
    exact hK'.go _ rfl ⟨B2, hS, hX, hK, h0, h1, h2, h3, h4, h5, fun _ => rfl, h7, h8, h9, h18, h19, h20, h26, h27, h28, h34, h35, h36, h43, h44, h45, h53, h54⟩
  · intro l x w' hJ hi hd
    obtain ⟨B2, hS, hX, hK, h0, h1, h2, h3, h4, h5, h6, h7, h8, h9, h18, h19, h20, h26, h27, h28, h34, h35, h36, h43, h44, h45, h53, h54⟩ := hJ
    have e6 := h6 (show l 6 = true by first | exact hd.1 rfl | exact hd.2.1 rfl | exact hd.2.2.1 rfl | exact hd.2.2.2.1 rfl | exact hd.2.2.2.2.1 rfl | exact hd.2.2.2.2.2.1 rfl)
    refine Runs.of (b := ?bB7) ?eB7 ?_
    case eB7 => simp only [putV, Act.put, List.setIfInBounds_toArray, List.set_cons_zero, List.set_cons_succ, e6]; rfl
    intro K' hK'
    go_simp
    refine (sget_any S04 (X.take 4) (Rv.rd (HS04.out w' (HRD.out w' hX)) HLf.out) HYf.out (by rw [HLf.out]; omega) FN HFN.out).mono ?_
    rintro e w2 ⟨rfl, rfl⟩
    go_simp
    exact hK'.go _ rfl ⟨B2, hS, hX, hK, h0, h1, h2, h3, h4, h5, h6, fun _ => rfl, h8, h9, h18, h19, h20, h26, h27, h28, h34, h35, h36, h43, h44, h45, h53, h54⟩
  · intro l x w' hJ hi hd
    obtain ⟨B2, hS, hX, hK, h0, h1, h2, h3, h4, h5, h6, h7, h8, h9, h18, h19, h20, h26, h27, h28, h34, h35, h36, h43, h44, h45, h53, h54⟩ := hJ
    have e4 := h4 (show l 4 = true by first | exact hd.1 rfl | exact hd.2.1 rfl | exact hd.2.2.1 rfl | exact hd.2.2.2.1 rfl | exact hd.2.2.2.2.1 rfl | exact hd.2.2.2.2.2.1 rfl)
    have e7 := h7 (show l 7 = true by first | exact hd.1 rfl | exact hd.2.1 rfl | exact hd.2.2.1 rfl | exact hd.2.2.2.1 rfl | exact hd.2.2.2.2.1 rfl | exact hd.2.2.2.2.2.1 rfl)
    have q := Q8.out
    refine Runs.of (b := ?bB8) ?eB8 ?_
    case eB8 => simp only [putV, Act.put, List.setIfInBounds_toArray, List.set_cons_zero, List.set_cons_succ, e4, e7]; rfl
    intro K' hK'
    go_simp
    exact hK'.go _ rfl ⟨B2, hS, hX, hK, h0, h1, h2, h3, h4, h5, h6, h7, fun _ => rfl, h9, h18, h19, h20, h26, h27, h28, h34, h35, h36, h43, h44, h45, h53, h54⟩
  · intro l x w' hJ hi hd
    obtain ⟨B2, hS, hX, hK, h0, h1, h2, h3, h4, h5, h6, h7, h8, h9, h18, h19, h20, h26, h27, h28, h34, h35, h36, h43, h44, h45, h53, h54⟩ := hJ
    have e8 := h8 (show l 8 = true by first | exact hd.1 rfl | exact hd.2.1 rfl | exact hd.2.2.1 rfl | exact hd.2.2.2.1 rfl | exact hd.2.2.2.2.1 rfl | exact hd.2.2.2.2.2.1 rfl)
    refine Runs.of (b := ?bB9) ?eB9 ?_
    case eB9 => simp only [putV, Act.put, List.setIfInBounds_toArray, List.set_cons_zero, List.set_cons_succ, e8]; rfl
    intro K' hK'
    go_simp
    exact hK'.go _ rfl ⟨B2, hS, hX, hK, h0, h1, h2, h3, h4, h5, h6, h7, h8, fun _ => rfl, h18, h19, h20, h26, h27, h28, h34, h35, h36, h43, h44, h45, h53, h54⟩
  · intro l x w' hJ hi hd
    obtain ⟨B2, hS, hX, hK, h0, h1, h2, h3, h4, h5, h6, h7, h8, h9, h18, h19, h20, h26, h27, h28, h34, h35, h36, h43, h44, h45, h53, h54⟩ := hJ
    have e9 := h9 (show l 9 = true by first | exact hd.1 rfl | exact hd.2.1 rfl | exact hd.2.2.1 rfl | exact hd.2.2.2.1 rfl | exact hd.2.2.2.2.1 rfl | exact hd.2.2.2.2.2.1 rfl)
    refine Runs.of (b := ?bB10) ?eB10 ?_
    case eB10 => simp only [putV, Act.put, List.setIfInBounds_toArray, List.set_cons_zero, List.set_cons_succ, e9]; rfl
    intro K' hK'
    go_simp
    exact hK'.go undef rfl ⟨B2, hS, hX, hK, h0, h1, h2, h3, h4, h5, h6, h7, h8, h9, h18, h19, h20, h26, h27, h28, h34, h35, h36, h43, h44, h45, h53, h54⟩
  · intro l x w' hJ hi hd
    obtain ⟨B2, hS, hX, hK, h0, h1, h2, h3, h4, h5, h6, h7, h8, h9, h18, h19, h20, h26, h27, h28, h34, h35, h36, h43, h44, h45, h53, h54⟩ := hJ
    have e9 := h9 (show l 9 = true by first | exact hd.1 rfl | exact hd.2.1 rfl | exact hd.2.2.1 rfl | exact hd.2.2.2.1 rfl | exact hd.2.2.2.2.1 rfl | exact hd.2.2.2.2.2.1 rfl)
    refine Runs.of (b := ?bB11) ?eB11 ?_
    case eB11 => simp only [putV, Act.put, List.setIfInBounds_toArray, List.set_cons_zero, List.set_cons_succ, e9]; rfl
    intro K' hK'
    go_simp
    exact hK'.go undef rfl ⟨B2, hS, hX, hK, h0, h1, h2, h3, h4, h5, h6, h7, h8, h9, h18, h19, h20, h26, h27, h28, h34, h35, h36, h43, h44, h45, h53, h54⟩
  · intro l x w' hJ hi hd
    obtain ⟨B2, hS, hX, hK, h0, h1, h2, h3, h4, h5, h6, h7, h8, h9, h18, h19, h20, h26, h27, h28, h34, h35, h36, h43, h44, h45, h53, h54⟩ := hJ
    have e9 := h9 (show l 9 = true by first | exact hd.1 rfl | exact hd.2.1 rfl | exact hd.2.2.1 rfl | exact hd.2.2.2.1 rfl | exact hd.2.2.2.2.1 rfl | exact hd.2.2.2.2.2.1 rfl)
    refine Runs.of (b := ?bB12) ?eB12 ?_
    case eB12 => simp only [putV, Act.put, List.setIfInBounds_toArray, List.set_cons_zero, List.set_cons_succ, e9]; rfl
    intro K' hK'
    go_simp
    exact hK'.go undef rfl ⟨B2, hS, hX, hK, h0, h1, h2, h3, h4, h5, h6, h7, h8, h9, h18, h19, h20, h26, h27, h28, h34, h35, h36, h43, h44, h45, h53, h54⟩
  · intro l x w' hJ hi hd
    obtain ⟨B2, hS, hX, hK, h0, h1, h2, h3, h4, h5, h6, h7, h8, h9, h18, h19, h20, h26, h27, h28, h34, h35, h36, h43, h44, h45, h53, h54⟩ := hJ
    have e9 := h9 (show l 9 = true by first | exact hd.1 rfl | exact hd.2.1 rfl | exact hd.2.2.1 rfl | exact hd.2.2.2.1 rfl | exact hd.2.2.2.2.1 rfl | exact hd.2.2.2.2.2.1 rfl)
    refine Runs.of (b := ?bB13) ?eB13 ?_
    case eB13 => simp only [putV, Act.put, List.setIfInBounds_toArray, List.set_cons_zero, List.set_cons_succ, e9]; rfl
    intro K' hK'
    go_simp
    exact hK'.go undef rfl ⟨B2, hS, hX, hK, h0, h1, h2, h3, h4, h5, h6, h7, h8, h9, h18, h19, h20, h26, h27, h28, h34, h35, h36, h43, h44, h45, h53, h54⟩
  · intro l x w' hJ hi hd
    obtain ⟨B2, hS, hX, hK, h0, h1, h2, h3, h4, h5, h6, h7, h8, h9, h18, h19, h20, h26, h27, h28, h34, h35, h36, h43, h44, h45, h53, h54⟩ := hJ
    have e9 := h9 (show l 9 = true by first | exact hd.1 rfl | exact hd.2.1 rfl | exact hd.2.2.1 rfl | exact hd.2.2.2.1 rfl | exact hd.2.2.2.2.1 rfl | exact hd.2.2.2.2.2.1 rfl)
    refine Runs.of (b := ?bB14) ?eB14 ?_
    case eB14 => simp only [putV, Act.put, List.setIfInBounds_toArray, List.set_cons_zero, List.set_cons_succ, e9]; rfl
    intro K' hK'
    go_simp
    exact hK'.go undef rfl ⟨B2, hS, hX, hK, h0, h1, h2, h3, h4, h5, h6, h7, h8, h9, h18, h19, h20, h26, h27, h28, h34, h35, h36, h43, h44, h45, h53, h54⟩
  · intro l x w' hJ hi hd
    obtain ⟨B2, hS, hX, hK, h0, h1, h2, h3, h4, h5, h6, h7, h8, h9, h18, h19, h20, h26, h27, h28, h34, h35, h36, h43, h44, h45, h53, h54⟩ := hJ
    have e9 := h9 (show l 9 = true by first | exact hd.1 rfl | exact hd.2.1 rfl | exact hd.2.2.1 rfl | exact hd.2.2.2.1 rfl | exact hd.2.2.2.2.1 rfl | exact hd.2.2.2.2.2.1 rfl)
    refine Runs.of (b := ?bB15) ?eB15 ?_
    case eB15 => simp only [putV, Act.put, List.setIfInBounds_toArray, List.set_cons_zero, List.set_cons_succ, e9]; rfl
    intro K' hK'
    go_simp
    exact hK'.go undef rfl ⟨B2, hS, hX, hK, h0, h1, h2, h3, h4, h5, h6, h7, h8, h9, h18, h19, h20, h26, h27, h28, h34, h35, h36, h43, h44, h45, h53, h54⟩
  · intro l x w' hJ hi hd
    obtain ⟨B2, hS, hX, hK, h0, h1, h2, h3, h4, h5, h6, h7, h8, h9, h18, h19, h20, h26, h27, h28, h34, h35, h36, h43, h44, h45, h53, h54⟩ := hJ
    have e9 := h9 (show l 9 = true by first | exact hd.1 rfl | exact hd.2.1 rfl | exact hd.2.2.1 rfl | exact hd.2.2.2.1 rfl | exact hd.2.2.2.2.1 rfl | exact hd.2.2.2.2.2.1 rfl)
    refine Runs.of (b := ?bB16) ?eB16 ?_
    case eB16 => simp only [putV, Act.put, List.setIfInBounds_toArray, List.set_cons_zero, List.set_cons_succ, e9]; rfl
    intro K' hK'
    go_simp
    exact hK'.go undef rfl ⟨B2, hS, hX, hK, h0, h1, h2, h3, h4, h5, h6, h7, h8, h9, h18, h19, h20, h26, h27, h28, h34, h35, h36, h43, h44, h45, h53, h54⟩
  · intro l x w' hJ hi hd
    obtain ⟨B2, hS, hX, hK, h0, h1, h2, h3, h4, h5, h6, h7, h8, h9, h18, h19, h20, h26, h27, h28, h34, h35, h36, h43, h44, h45, h53, h54⟩ := hJ
    have e9 := h9 (show l 9 = true by first | exact hd.1 rfl | exact hd.2.1 rfl | exact hd.2.2.1 rfl | exact hd.2.2.2.1 rfl | exact hd.2.2.2.2.1 rfl | exact hd.2.2.2.2.2.1 rfl)
    refine Runs.of (b := ?bB17) ?eB17 ?_
    case eB17 => simp only [putV, Act.put, List.setIfInBounds_toArray, List.set_cons_zero, List.set_cons_succ, e9]; rfl
    intro K' hK'
    go_simp
    exact hK'.go undef rfl ⟨B2, hS, hX, hK, h0, h1, h2, h3, h4, h5, h6, h7, h8, h9, h18, h19, h20, h26, h27, h28, h34, h35, h36, h43, h44, h45, h53, h54⟩
  · intro l x w' hJ hi hd
    obtain ⟨B2, hS, hX, hK, h0, h1, h2, h3, h4, h5, h6, h7, h8, h9, h18, h19, h20, h26, h27, h28, h34, h35, h36, h43, h44, h45, h53, h54⟩ := hJ
    have e9 := h9 (show l 9 = true by first | exact hd.1 rfl | exact hd.2.1 rfl | exact hd.2.2.1 rfl | exact hd.2.2.2.1 rfl | exact hd.2.2.2.2.1 rfl | exact hd.2.2.2.2.2.1 rfl)
    refine Runs.of (b := ?bB18) ?eB18 ?_
    case eB18 => simp only [putV, Act.put, List.setIfInBounds_toArray, List.set_cons_zero, List.set_cons_succ, e9]; rfl
    intro K' hK'
    go_simp
    exact hK'.go undef rfl ⟨B2, hS, hX, hK, h0, h1, h2, h3, h4, h5, h6, h7, h8, h9, fun _ => rfl, h19, h20, h26, h27, h28, h34, h35, h36, h43, h44, h45, h53, h54⟩
  · intro l x w' hJ hi hd
    obtain ⟨B2, hS, hX, hK, h0, h1, h2, h3, h4, h5, h6, h7, h8, h9, h18, h19, h20, h26, h27, h28, h34, h35, h36, h43, h44, h45, h53, h54⟩ := hJ
    have e9 := h9 (show l 9 = true by first | exact hd.1 rfl | exact hd.2.1 rfl | exact hd.2.2.1 rfl | exact hd.2.2.2.1 rfl | exact hd.2.2.2.2.1 rfl | exact hd.2.2.2.2.2.1 rfl)
    have e18 := h18 (show l 18 = true by first | exact hd.1 rfl | exact hd.2.1 rfl | exact hd.2.2.1 rfl | exact hd.2.2.2.1 rfl | exact hd.2.2.2.2.1 rfl | exact hd.2.2.2.2.2.1 rfl)
    refine Runs.of (b := ?bB19) ?eB19 ?_
    case eB19 => simp only [putV, Act.put, List.setIfInBounds_toArray, List.set_cons_zero, List.set_cons_succ, e9, e18]; rfl
    intro K' hK'
    go_simp
    exact hK'.go _ rfl ⟨B2, hS, hX, hK, h0, h1, h2, h3, h4, h5, h6, h7, h8, h9, h18, fun _ => rfl, h20, h26, h27, h28, h34, h35, h36, h43, h44, h45, h53, h54⟩
  · intro l x w' hJ hi hd
    obtain ⟨B2, hS, hX, hK, h0, h1, h2, h3, h4, h5, h6, h7, h8, h9, h18, h19, h20, h26, h27, h28, h34, h35, h36, h43, h44, h45, h53, h54⟩ := hJ
    have e19 := h19 (show l 19 = true by first | exact hd.1 rfl | exact hd.2.1 rfl | exact hd.2.2.1 rfl | exact hd.2.2.2.1 rfl | exact hd.2.2.2.2.1 rfl | exact hd.2.2.2.2.2.1 rfl)
    refine Runs.of (b := ?bB20) ?eB20 ?_
    case eB20 => simp only [putV, Act.put, List.setIfInBounds_toArray, List.set_cons_zero, List.set_cons_succ, e19]; rfl
    intro K' hK'
    go_simp
    exact hK'.go _ rfl ⟨B2, hS, hX, hK, h0, h1, h2, h3, h4, h5, h6, h7, h8, h9, h18, h19, fun _ => rfl, h26, h27, h28, h34, h35, h36, h43, h44, h45, h53, h54⟩
  · intro l x w' hJ hi hd
    obtain ⟨B2, hS, hX, hK, h0, h1, h2, h3, h4, h5, h6, h7, h8, h9, h18, h19, h20, h26, h27, h28, h34, h35, h36, h43, h44, h45, h53, h54⟩ := hJ
    have e20 := h20 (show l 20 = true by first | exact hd.1 rfl | exact hd.2.1 rfl | exact hd.2.2.1 rfl | exact hd.2.2.2.1 rfl | exact hd.2.2.2.2.1 rfl | exact hd.2.2.2.2.2.1 rfl)
    refine Runs.of (b := ?bB21) ?eB21 ?_
    case eB21 => simp only [putV, Act.put, List.setIfInBounds_toArray, List.set_cons_zero, List.set_cons_succ, e20]; rfl
    intro K' hK'
    go_simp
    exact hK'.go undef rfl ⟨B2, hS, hX, hK, h0, h1, h2, h3, h4, h5, h6, h7, h8, h9, h18, h19, h20, h26, h27, h28, h34, h35, h36, h43, h44, h45, h53, h54⟩
  · intro l x w' hJ hi hd
    obtain ⟨B2, hS, hX, hK, h0, h1, h2, h3, h4, h5, h6, h7, h8, h9, h18, h19, h20, h26, h27, h28, h34, h35, h36, h43, h44, h45, h53, h54⟩ := hJ
    have e20 := h20 (show l 20 = true by first | exact hd.1 rfl | exact hd.2.1 rfl | exact hd.2.2.1 rfl | exact hd.2.2.2.1 rfl | exact hd.2.2.2.2.1 rfl | exact hd.2.2.2.2.2.1 rfl)
    refine Runs.of (b := ?bB22) ?eB22 ?_
    case eB22 => simp only [putV, Act.put, List.setIfInBounds_toArray, List.set_cons_zero, List.set_cons_succ, e20]; rfl
    intro K' hK'
    go_simp
    exact hK'.go undef rfl ⟨B2, hS, hX, hK, h0, h1, h2, h3, h4, h5, h6, h7, h8, h9, h18, h19, h20, h26, h27, h28, h34, h35, h36, h43, h44, h45, h53, h54⟩
  · intro l x w' hJ hi hd
    obtain ⟨B2, hS, hX, hK, h0, h1, h2, h3, h4, h5, h6, h7, h8, h9, h18, h19, h20, h26, h27, h28, h34, h35, h36, h43, h44, h45, h53, h54⟩ := hJ
    have e20 := h20 (show l 20 = true by first | exact hd.1 rfl | exact hd.2.1 rfl | exact hd.2.2.1 rfl | exact hd.2.2.2.1 rfl | exact hd.2.2.2.2.1 rfl | exact hd.2.2.2.2.2.1 rfl)
    refine Runs.of (b := ?bB23) ?eB23 ?_
    case eB23 => simp only [putV, Act.put, List.setIfInBounds_toArray, List.set_cons_zero, List.set_cons_succ, e20]; rfl
    intro K' hK'
    go_simp
    exact hK'.go undef rfl ⟨B2, hS, hX, hK, h0, h1, h2, h3, h4, h5, h6, h7, h8, h9, h18, h19, h20, h26, h27, h28, h34, h35, h36, h43, h44, h45, h53, h54⟩
  · intro l x w' hJ hi hd
    obtain ⟨B2, hS, hX, hK, h0, h1, h2, h3, h4, h5, h6, h7, h8, h9, h18, h19, h20, h26, h27, h28, h34, h35, h36, h43, h44, h45, h53, h54⟩ := hJ
    have e20 := h20 (show l 20 = true by first | exact hd.1 rfl | exact hd.2.1 rfl | exact hd.2.2.1 rfl | exact hd.2.2.2.1 rfl | exact hd.2.2.2.2.1 rfl | exact hd.2.2.2.2.2.1 rfl)
    refine Runs.of (b := ?bB24) ?eB24 ?_
    case eB24 => simp only [putV, Act.put, List.setIfInBounds_toArray, List.set_cons_zero, List.set_cons_succ, e20]; rfl
    intro K' hK'
    go_simp
    exact hK'.go undef rfl ⟨B2, hS, hX, hK, h0, h1, h2, h3, h4, h5, h6, h7, h8, h9, h18, h19, h20, h26, h27, h28, h34, h35, h36, h43, h44, h45, h53, h54⟩
  · intro l x w' hJ hi hd
    obtain ⟨B2, hS, hX, hK, h0, h1, h2, h3, h4, h5, h6, h7, h8, h9, h18, h19, h20, h26, h27, h28, h34, h35, h36, h43, h44, h45, h53, h54⟩ := hJ
    have e20 := h20 (show l 20 = true by first | exact hd.1 rfl | exact hd.2.1 rfl | exact hd.2.2.1 rfl | exact hd.2.2.2.1 rfl | exact hd.2.2.2.2.1 rfl | exact hd.2.2.2.2.2.1 rfl)
    refine Runs.of (b := ?bB25) ?eB25 ?_
    case eB25 => simp only [putV, Act.put, List.setIfInBounds_toArray, List.set_cons_zero, List.set_cons_succ, e20]; rfl
    intro K' hK'
    go_simp
    exact hK'.go undef rfl ⟨B2, hS, hX, hK, h0, h1, h2, h3, h4, h5, h6, h7, h8, h9, h18, h19, h20, h26, h27, h28, h34, h35, h36, h43, h44, h45, h53, h54⟩
  · intro l x w' hJ hi hd
    obtain ⟨B2, hS, hX, hK, h0, h1, h2, h3, h4, h5, h6, h7, h8, h9, h18, h19, h20, h26, h27, h28, h34, h35, h36, h43, h44, h45, h53, h54⟩ := hJ
    have e20 := h20 (show l 20 = true by first | exact hd.1 rfl | exact hd.2.1 rfl | exact hd.2.2.1 rfl | exact hd.2.2.2.1 rfl | exact hd.2.2.2.2.1 rfl | exact hd.2.2.2.2.2.1 rfl)
    refine Runs.of (b := ?bB26) ?eB26 ?_
    case eB26 => simp only [putV, Act.put, List.setIfInBounds_toArray, List.set_cons_zero, List.set_cons_succ, e20]; rfl
    intro K' hK'
    go_simp
    exact hK'.go undef rfl ⟨B2, hS, hX, hK, h0, h1, h2, h3, h4, h5, h6, h7, h8, h9, h18, h19, h20, fun _ => rfl, h27, h28, h34, h35, h36, h43, h44, h45, h53, h54⟩
  · intro l x w' hJ hi hd
    obtain ⟨B2, hS, hX, hK, h0, h1, h2, h3, h4, h5, h6, h7, h8, h9, h18, h19, h20, h26, h27, h28, h34, h35, h36, h43, h44, h45, h53, h54⟩ := hJ
    have e20 := h20 (show l 20 = true by first | exact hd.1 rfl | exact hd.2.1 rfl | exact hd.2.2.1 rfl | exact hd.2.2.2.1 rfl | exact hd.2.2.2.2.1 rfl | exact hd.2.2.2.2.2.1 rfl)
    have e26 := h26 (show l 26 = true by first | exact hd.1 rfl | exact hd.2.1 rfl | exact hd.2.2.1 rfl | exact hd.2.2.2.1 rfl | exact hd.2.2.2.2.1 rfl | exact hd.2.2.2.2.2.1 rfl)
    refine Runs.of (b := ?bB27) ?eB27 ?_
    case eB27 => simp only [putV, Act.put, List.setIfInBounds_toArray, List.set_cons_zero, List.set_cons_succ, e20, e26]; rfl
    intro K' hK'
    go_simp
    exact hK'.go _ rfl ⟨B2, hS, hX, hK, h0, h1, h2, h3, h4, h5, h6, h7, h8, h9, h18, h19, h20, h26, fun _ => rfl, h28, h34, h35, h36, h43, h44, h45, h53, h54⟩
  · intro l x w' hJ hi hd
    obtain ⟨B2, hS, hX, hK, h0, h1, h2, h3, h4, h5, h6, h7, h8, h9, h18, h19, h20, h26, h27, h28, h34, h35, h36, h43, h44, h45, h53, h54⟩ := hJ
    have e27 := h27 (show l 27 = true by first | exact hd.1 rfl | exact hd.2.1 rfl | exact hd.2.2.1 rfl | exact hd.2.2.2.1 rfl | exact hd.2.2.2.2.1 rfl | exact hd.2.2.2.2.2.1 rfl)
    refine Runs.of (b := ?bB28) ?eB28 ?_
    case eB28 => simp only [putV, Act.put, List.setIfInBounds_toArray, List.set_cons_zero, List.set_cons_succ, e27]; rfl
    intro K' hK'
    go_simp
    exact hK'.go _ rfl ⟨B2, hS, hX, hK, h0, h1, h2, h3, h4, h5, h6, h7, h8, h9, h18, h19, h20, h26, h27, fun _ => rfl, h34, h35, h36, h43, h44, h45, h53, h54⟩
  · intro l x w' hJ hi hd
    obtain ⟨B2, hS, hX, hK, h0, h1, h2, h3, h4, h5, h6, h7, h8, h9, h18, h19, h20, h26, h27, h28, h34, h35, h36, h43, h44, h45, h53, h54⟩ := hJ
    have e28 := h28 (show l 28 = true by first | exact hd.1 rfl | exact hd.2.1 rfl | exact hd.2.2.1 rfl | exact hd.2.2.2.1 rfl | exact hd.2.2.2.2.1 rfl | exact hd.2.2.2.2.2.1 rfl)
    refine Runs.of (b := ?bB29) ?eB29 ?_
    case eB29 => simp only [putV, Act.put, List.setIfInBounds_toArray, List.set_cons_zero, List.set_cons_succ, e28]; rfl
    intro K' hK'
    go_simp
    exact hK'.go undef rfl ⟨B2, hS, hX, hK, h0, h1, h2, h3, h4, h5, h6, h7, h8, h9, h18, h19, h20, h26, h27, h28, h34, h35, h36, h43, h44, h45, h53, h54⟩
  · intro l x w' hJ hi hd
    obtain ⟨B2, hS, hX, hK, h0, h1, h2, h3, h4, h5, h6, h7, h8, h9, h18, h19, h20, h26, h27, h28, h34, h35, h36, h43, h44, h45, h53, h54⟩ := hJ
    have e28 := h28 (show l 28 = true by first | exact hd.1 rfl | exact hd.2.1 rfl | exact hd.2.2.1 rfl | exact hd.2.2.2.1 rfl | exact hd.2.2.2.2.1 rfl | exact hd.2.2.2.2.2.1 rfl)
    refine Runs.of (b := ?bB30) ?eB30 ?_
    case eB30 => simp only [putV, Act.put, List.setIfInBounds_toArray, List.set_cons_zero, List.set_cons_succ, e28]; rfl
    intro K' hK'
    go_simp
    exact hK'.go undef rfl ⟨B2, hS, hX, hK, h0, h1, h2, h3, h4, h5, h6, h7, h8, h9, h18, h19, h20, h26, h27, h28, h34, h35, h36, h43, h44, h45, h53, h54⟩
  · intro l x w' hJ hi hd
    obtain ⟨B2, hS, hX, hK, h0, h1, h2, h3, h4, h5, h6, h7, h8, h9, h18, h19, h20, h26, h27, h28, h34, h35, h36, h43, h44, h45, h53, h54⟩ := hJ
    have e28 := h28 (show l 28 = true by first | exact hd.1 rfl | exact hd.2.1 rfl | exact hd.2.2.1 rfl | exact hd.2.2.2.1 rfl | exact hd.2.2.2.2.1 rfl | exact hd.2.2.2.2.2.1 rfl)
    refine Runs.of (b := ?bB31) ?eB31 ?_
    case eB31 => simp only [putV, Act.put, List.setIfInBounds_toArray, List.set_cons_zero, List.set_cons_succ, e28]; rfl
    intro K' hK'
    go_simp
    exact hK'.go undef rfl ⟨B2, hS, hX, hK, h0, h1, h2, h3, h4, h5, h6, h7, h8, h9, h18, h19, h20, h26, h27, h28, h34, h35, h36, h43, h44, h45, h53, h54⟩
  · intro l x w' hJ hi hd
    obtain ⟨B2, hS, hX, hK, h0, h1, h2, h3, h4, h5, h6, h7, h8, h9, h18, h19, h20, h26, h27, h28, h34, h35, h36, h43, h44, h45, h53, h54⟩ := hJ
    have e28 := h28 (show l 28 = true by first | exact hd.1 rfl | exact hd.2.1 rfl | exact hd.2.2.1 rfl | exact hd.2.2.2.1 rfl | exact hd.2.2.2.2.1 rfl | exact hd.2.2.2.2.2.1 rfl)
    refine Runs.of (b := ?bB32) ?eB32 ?_
    case eB32 => simp only [putV, Act.put, List.setIfInBounds_toArray, List.set_cons_zero, List.set_cons_succ, e28]; rfl
    intro K' hK'
    go_simp
    exact hK'.go undef rfl ⟨B2, hS, hX, hK, h0, h1, h2, h3, h4, h5, h6, h7, h8, h9, h18, h19, h20, h26, h27, h28, h34, h35, h36, h43, h44, h45, h53, h54⟩
  · intro l x w' hJ hi hd
    obtain ⟨B2, hS, hX, hK, h0, h1, h2, h3, h4, h5, h6, h7, h8, h9, h18, h19, h20, h26, h27, h28, h34, h35, h36, h43, h44, h45, h53, h54⟩ := hJ
    have e28 := h28 (show l 28 = true by first | exact hd.1 rfl | exact hd.2.1 rfl | exact hd.2.2.1 rfl | exact hd.2.2.2.1 rfl | exact hd.2.2.2.2.1 rfl | exact hd.2.2.2.2.2.1 rfl)
    refine Runs.of (b := ?bB33) ?eB33 ?_
    case eB33 => simp only [putV, Act.put, List.setIfInBounds_toArray, List.set_cons_zero, List.set_cons_succ, e28]; rfl
    intro K' hK'
    go_simp
    exact hK'.go undef rfl ⟨B2, hS, hX, hK, h0, h1, h2, h3, h4, h5, h6, h7, h8, h9, h18, h19, h20, h26, h27, h28, h34, h35, h36, h43, h44, h45, h53, h54⟩
  · intro l x w' hJ hi hd
    obtain ⟨B2, hS, hX, hK, h0, h1, h2, h3, h4, h5, h6, h7, h8, h9, h18, h19, h20, h26, h27, h28, h34, h35, h36, h43, h44, h45, h53, h54⟩ := hJ
    have e28 := h28 (show l 28 = true by first | exact hd.1 rfl | exact hd.2.1 rfl | exact hd.2.2.1 rfl | exact hd.2.2.2.1 rfl | exact hd.2.2.2.2.1 rfl | exact hd.2.2.2.2.2.1 rfl)
    refine Runs.of (b := ?bB34) ?eB34 ?_
    case eB34 => simp only [putV, Act.put, List.setIfInBounds_toArray, List.set_cons_zero, List.set_cons_succ, e28]; rfl
    intro K' hK'
    go_simp
    exact hK'.go undef rfl ⟨B2, hS, hX, hK, h0, h1, h2, h3, h4, h5, h6, h7, h8, h9, h18, h19, h20, h26, h27, h28, fun _ => rfl, h35, h36, h43, h44, h45, h53, h54⟩
  · intro l x w' hJ hi hd
    obtain ⟨B2, hS, hX, hK, h0, h1, h2, h3, h4, h5, h6, h7, h8, h9, h18, h19, h20, h26, h27, h28, h34, h35, h36, h43, h44, h45, h53, h54⟩ := hJ
    have e28 := h28 (show l 28 = true by first | exact hd.1 rfl | exact hd.2.1 rfl | exact hd.2.2.1 rfl | exact hd.2.2.2.1 rfl | exact hd.2.2.2.2.1 rfl | exact hd.2.2.2.2.2.1 rfl)
    have e34 := h34 (show l 34 = true by first | exact hd.1 rfl | exact hd.2.1 rfl | exact hd.2.2.1 rfl | exact hd.2.2.2.1 rfl | exact hd.2.2.2.2.1 rfl | exact hd.2.2.2.2.2.1 rfl)
    refine Runs.of (b := ?bB35) ?eB35 ?_
    case eB35 => simp only [putV, Act.put, List.setIfInBounds_toArray, List.set_cons_zero, List.set_cons_succ, e28, e34]; rfl
    intro K' hK'
    go_simp
    exact hK'.go _ rfl ⟨B2, hS, hX, hK, h0, h1, h2, h3, h4, h5, h6, h7, h8, h9, h18, h19, h20, h26, h27, h28, h34, fun _ => rfl, h36, h43, h44, h45, h53, h54⟩
  · intro l x w' hJ hi hd
    obtain ⟨B2, hS, hX, hK, h0, h1, h2, h3, h4, h5, h6, h7, h8, h9, h18, h19, h20, h26, h27, h28, h34, h35, h36, h43, h44, h45, h53, h54⟩ := hJ
    have e35 := h35 (show l 35 = true by first | exact hd.1 rfl | exact hd.2.1 rfl | exact hd.2.2.1 rfl | exact hd.2.2.2.1 rfl | exact hd.2.2.2.2.1 rfl | exact hd.2.2.2.2.2.1 rfl)
    refine Runs.of (b := ?bB36) ?eB36 ?_
    case eB36 => simp only [putV, Act.put, List.setIfInBounds_toArray, List.set_cons_zero, List.set_cons_succ, e35]; rfl
    intro K' hK'
    go_simp
    exact hK'.go _ rfl ⟨B2, hS, hX, hK, h0, h1, h2, h3, h4, h5, h6, h7, h8, h9, h18, h19, h20, h26, h27, h28, h34, h35, fun _ => rfl, h43, h44, h45, h53, h54⟩
  · intro l x w' hJ hi hd
    obtain ⟨B2, hS, hX, hK, h0, h1, h2, h3, h4, h5, h6, h7, h8, h9, h18, h19, h20, h26, h27, h28, h34, h35, h36, h43, h44, h45, h53, h54⟩ := hJ
    have e36 := h36 (show l 36 = true by first | exact hd.1 rfl | exact hd.2.1 rfl | exact hd.2.2.1 rfl | exact hd.2.2.2.1 rfl | exact hd.2.2.2.2.1 rfl | exact hd.2.2.2.2.2.1 rfl)
    refine Runs.of (b := ?bB37) ?eB37 ?_
    case eB37 => simp only [putV, Act.put, List.setIfInBounds_toArray, List.set_cons_zero, List.set_cons_succ, e36]; rfl
    intro K' hK'
    go_simp
    exact hK'.go undef rfl ⟨B2, hS, hX, hK, h0, h1, h2, h3, h4, h5, h6, h7, h8, h9, h18, h19, h20, h26, h27, h28, h34, h35, h36, h43, h44, h45, h53, h54⟩
  · intro l x w' hJ hi hd
    obtain ⟨B2, hS, hX, hK, h0, h1, h2, h3, h4, h5, h6, h7, h8, h9, h18, h19, h20, h26, h27, h28, h34, h35, h36, h43, h44, h45, h53, h54⟩ := hJ
    have e36 := h36 (show l 36 = true by first | exact hd.1 rfl | exact hd.2.1 rfl | exact hd.2.2.1 rfl | exact hd.2.2.2.1 rfl | exact hd.2.2.2.2.1 rfl | exact hd.2.2.2.2.2.1 rfl)
    refine Runs.of (b := ?bB38) ?eB38 ?_
    case eB38 => simp only [putV, Act.put, List.setIfInBounds_toArray, List.set_cons_zero, List.set_cons_succ, e36]; rfl
    intro K' hK'
    go_simp
    exact hK'.go undef rfl ⟨B2, hS, hX, hK, h0, h1, h2, h3, h4, h5, h6, h7, h8, h9, h18, h19, h20, h26, h27, h28, h34, h35, h36, h43, h44, h45, h53, h54⟩
  · intro l x w' hJ hi hd
    obtain ⟨B2, hS, hX, hK, h0, h1, h2, h3, h4, h5, h6, h7, h8, h9, h18, h19, h20, h26, h27, h28, h34, h35, h36, h43, h44, h45, h53, h54⟩ := hJ
    have e36 := h36 (show l 36 = true by first | exact hd.1 rfl | exact hd.2.1 rfl | exact hd.2.2.1 rfl | exact hd.2.2.2.1 rfl | exact hd.2.2.2.2.1 rfl | exact hd.2.2.2.2.2.1 rfl)
    refine Runs.of (b := ?bB39) ?eB39 ?_
    case eB39 => simp only [putV, Act.put, List.setIfInBounds_toArray, List.set_cons_zero, List.set_cons_succ, e36]; rfl
    intro K' hK'
    go_simp
    exact hK'.go undef rfl ⟨B2, hS, hX, hK, h0, h1, h2, h3, h4, h5, h6, h7, h8, h9, h18, h19, h20, h26, h27, h28, h34, h35, h36, h43, h44, h45, h53, h54⟩
  · intro l x w' hJ hi hd
    obtain ⟨B2, hS, hX, hK, h0, h1, h2, h3, h4, h5, h6, h7, h8, h9, h18, h19, h20, h26, h27, h28, h34, h35, h36, h43, h44, h45, h53, h54⟩ := hJ
    have e36 := h36 (show l 36 = true by first | exact hd.1 rfl | exact hd.2.1 rfl | exact hd.2.2.1 rfl | exact hd.2.2.2.1 rfl | exact hd.2.2.2.2.1 rfl | exact hd.2.2.2.2.2.1 rfl)
    refine Runs.of (b := ?bB40) ?eB40 ?_
    case eB40 => simp only [putV, Act.put, List.setIfInBounds_toArray, List.set_cons_zero, List.set_cons_succ, e36]; rfl
    intro K' hK'
    go_simp
    exact hK'.go undef rfl ⟨B2, hS, hX, hK, h0, h1, h2, h3, h4, h5, h6, h7, h8, h9, h18, h19, h20, h26, h27, h28, h34, h35, h36, h43, h44, h45, h53, h54⟩
  · intro l x w' hJ hi hd
    obtain ⟨B2, hS, hX, hK, h0, h1, h2, h3, h4, h5, h6, h7, h8, h9, h18, h19, h20, h26, h27, h28, h34, h35, h36, h43, h44, h45, h53, h54⟩ := hJ
    have e36 := h36 (show l 36 = true by first | exact hd.1 rfl | exact hd.2.1 rfl | exact hd.2.2.1 rfl | exact hd.2.2.2.1 rfl | exact hd.2.2.2.2.1 rfl | exact hd.2.2.2.2.2.1 rfl)
    refine Runs.of (b := ?bB41) ?eB41 ?_
    case eB41 => simp only [putV, Act.put, List.setIfInBounds_toArray, List.set_cons_zero, List.set_cons_succ, e36]; rfl
    intro K' hK'
    go_simp
    exact hK'.go undef rfl ⟨B2, hS, hX, hK, h0, h1, h2, h3, h4, h5, h6, h7, h8, h9, h18, h19, h20, h26, h27, h28, h34, h35, h36, h43, h44, h45, h53, h54⟩
  · intro l x w' hJ hi hd
    obtain ⟨B2, hS, hX, hK, h0, h1, h2, h3, h4, h5, h6, h7, h8, h9, h18, h19, h20, h26, h27, h28, h34, h35, h36, h43, h44, h45, h53, h54⟩ := hJ
    have e36 := h36 (show l 36 = true by first | exact hd.1 rfl | exact hd.2.1 rfl | exact hd.2.2.1 rfl | exact hd.2.2.2.1 rfl | exact hd.2.2.2.2.1 rfl | exact hd.2.2.2.2.2.1 rfl)
    refine Runs.of (b := ?bB42) ?eB42 ?_
    case eB42 => simp only [putV, Act.put, List.setIfInBounds_toArray, List.set_cons_zero, List.set_cons_succ, e36]; rfl
    intro K' hK'
    go_simp
    exact hK'.go undef rfl ⟨B2, hS, hX, hK, h0, h1, h2, h3, h4, h5, h6, h7, h8, h9, h18, h19, h20, h26, h27, h28, h34, h35, h36, h43, h44, h45, h53, h54⟩
  · intro l x w' hJ hi hd
    obtain ⟨B2, hS, hX, hK, h0, h1, h2, h3, h4, h5, h6, h7, h8, h9, h18, h19, h20, h26, h27, h28, h34, h35, h36, h43, h44, h45, h53, h54⟩ := hJ
    have e36 := h36 (show l 36 = true by first | exact hd.1 rfl | exact hd.2.1 rfl | exact hd.2.2.1 rfl | exact hd.2.2.2.1 rfl | exact hd.2.2.2.2.1 rfl | exact hd.2.2.2.2.2.1 rfl)
    refine Runs.of (b := ?bB43) ?eB43 ?_
    case eB43 => simp only [putV, Act.put, List.setIfInBounds_toArray, List.set_cons_zero, List.set_cons_succ, e36]; rfl
    intro K' hK'
    go_simp
    exact hK'.go undef rfl ⟨B2, hS, hX, hK, h0, h1, h2, h3, h4, h5, h6, h7, h8, h9, h18, h19, h20, h26, h27, h28, h34, h35, h36, fun _ => rfl, h44, h45, h53, h54⟩
  · intro l x w' hJ hi hd
    obtain ⟨B2, hS, hX, hK, h0, h1, h2, h3, h4, h5, h6, h7, h8, h9, h18, h19, h20, h26, h27, h28, h34, h35, h36, h43, h44, h45, h53, h54⟩ := hJ
    have e36 := h36 (show l 36 = true by first | exact hd.1 rfl | exact hd.2.1 rfl | exact hd.2.2.1 rfl | exact hd.2.2.2.1 rfl | exact hd.2.2.2.2.1 rfl | exact hd.2.2.2.2.2.1 rfl)
    have e43 := h43 (show l 43 = true by first | exact hd.1 rfl | exact hd.2.1 rfl | exact hd.2.2.1 rfl | exact hd.2.2.2.1 rfl | exact hd.2.2.2.2.1 rfl | exact hd.2.2.2.2.2.1 rfl)
    refine Runs.of (b := ?bB44) ?eB44 ?_
    case eB44 => simp only [putV, Act.put, List.setIfInBounds_toArray, List.set_cons_zero, List.set_cons_succ, e36, e43]; rfl
    intro K' hK'
    go_simp
    exact hK'.go _ rfl ⟨B2, hS, hX, hK, h0, h1, h2, h3, h4, h5, h6, h7, h8, h9, h18, h19, h20, h26, h27, h28, h34, h35, h36, h43, fun _ => rfl, h45, h53, h54⟩
  · intro l x w' hJ hi hd
    obtain ⟨B2, hS, hX, hK, h0, h1, h2, h3, h4, h5, h6, h7, h8, h9, h18, h19, h20, h26, h27, h28, h34, h35, h36, h43, h44, h45, h53, h54⟩ := hJ
    have e44 := h44 (show l 44 = true by first | exact hd.1 rfl | exact hd.2.1 rfl | exact hd.2.2.1 rfl | exact hd.2.2.2.1 rfl | exact hd.2.2.2.2.1 rfl | exact hd.2.2.2.2.2.1 rfl)
    refine Runs.of (b := ?bB45) ?eB45 ?_
    case eB45 => simp only [putV, Act.put, List.setIfInBounds_toArray, List.set_cons_zero, List.set_cons_succ, e44]; rfl
    intro K' hK'
    go_simp
    exact hK'.go _ rfl ⟨B2, hS, hX, hK, h0, h1, h2, h3, h4, h5, h6, h7, h8, h9, h18, h19, h20, h26, h27, h28, h34, h35, h36, h43, h44, fun _ => rfl, h53, h54⟩
  · intro l x w' hJ hi hd
    obtain ⟨B2, hS, hX, hK, h0, h1, h2, h3, h4, h5, h6, h7, h8, h9, h18, h19, h20, h26, h27, h28, h34, h35, h36, h43, h44, h45, h53, h54⟩ := hJ
    have e45 := h45 (show l 45 = true by first | exact hd.1 rfl | exact hd.2.1 rfl | exact hd.2.2.1 rfl | exact hd.2.2.2.1 rfl | exact hd.2.2.2.2.1 rfl | exact hd.2.2.2.2.2.1 rfl)
    refine Runs.of (b := ?bB46) ?eB46 ?_
    case eB46 => simp only [putV, Act.put, List.setIfInBounds_toArray, List.set_cons_zero, List.set_cons_succ, e45]; rfl
    intro K' hK'
    go_simp
    exact hK'.go undef rfl ⟨B2, hS, hX, hK, h0, h1, h2, h3, h4, h5, h6, h7, h8, h9, h18, h19, h20, h26, h27, h28, h34, h35, h36, h43, h44, h45, h53, h54⟩
  · intro l x w' hJ hi hd
    obtain ⟨B2, hS, hX, hK, h0, h1, h2, h3, h4, h5, h6, h7, h8, h9, h18, h19, h20, h26, h27, h28, h34, h35, h36, h43, h44, h45, h53, h54⟩ := hJ
    have e45 := h45 (show l 45 = true by first | exact hd.1 rfl | exact hd.2.1 rfl | exact hd.2.2.1 rfl | exact hd.2.2.2.1 rfl | exact hd.2.2.2.2.1 rfl | exact hd.2.2.2.2.2.1 rfl)
    refine Runs.of (b := ?bB47) ?eB47 ?_
    case eB47 => simp only [putV, Act.put, List.setIfInBounds_toArray, List.set_cons_zero, List.set_cons_succ, e45]; rfl
    intro K' hK'
    go_simp
    exact hK'.go undef rfl ⟨B2, hS, hX, hK, h0, h1, h2, h3, h4, h5, h6, h7, h8, h9, h18, h19, h20, h26, h27, h28, h34, h35, h36, h43, h44, h45, h53, h54⟩
  · intro l x w' hJ hi hd
    obtain ⟨B2, hS, hX, hK, h0, h1, h2, h3, h4, h5, h6, h7, h8, h9, h18, h19, h20, h26, h27, h28, h34, h35, h36, h43, h44, h45, h53, h54⟩ := hJ
    have e45 := h45 (show l 45 = true by first | exact hd.1 rfl | exact hd.2.1 rfl | exact hd.2.2.1 rfl | exact hd.2.2.2.1 rfl | exact hd.2.2.2.2.1 rfl | exact hd.2.2.2.2.2.1 rfl)
    refine Runs.of (b := ?bB48) ?eB48 ?_
    case eB48 => simp only [putV, Act.put, List.setIfInBounds_toArray, List.set_cons_zero, List.set_cons_succ, e45]; rfl
    intro K' hK'
    go_simp
    exact hK'.go undef rfl ⟨B2, hS, hX, hK, h0, h1, h2, h3, h4, h5, h6, h7, h8, h9, h18, h19, h20, h26, h27, h28, h34, h35, h36, h43, h44, h45, h53, h54⟩
  · intro l x w' hJ hi hd
    obtain ⟨B2, hS, hX, hK, h0, h1, h2, h3, h4, h5, h6, h7, h8, h9, h18, h19, h20, h26, h27, h28, h34, h35, h36, h43, h44, h45, h53, h54⟩ := hJ
    have e45 := h45 (show l 45 = true by first | exact hd.1 rfl | exact hd.2.1 rfl | exact hd.2.2.1 rfl | exact hd.2.2.2.1 rfl | exact hd.2.2.2.2.1 rfl | exact hd.2.2.2.2.2.1 rfl)
    refine Runs.of (b := ?bB49) ?eB49 ?_
    case eB49 => simp only [putV, Act.put, List.setIfInBounds_toArray, List.set_cons_zero, List.set_cons_succ, e45]; rfl
    intro K' hK'
    go_simp
    exact hK'.go undef rfl ⟨B2, hS, hX, hK, h0, h1, h2, h3, h4, h5, h6, h7, h8, h9, h18, h19, h20, h26, h27, h28, h34, h35, h36, h43, h44, h45, h53, h54⟩
  · intro l x w' hJ hi hd
    obtain ⟨B2, hS, hX, hK, h0, h1, h2, h3, h4, h5, h6, h7, h8, h9, h18, h19, h20, h26, h27, h28, h34, h35, h36, h43, h44, h45, h53, h54⟩ := hJ
    have e45 := h45 (show l 45 = true by first | exact hd.1 rfl | exact hd.2.1 rfl | exact hd.2.2.1 rfl | exact hd.2.2.2.1 rfl | exact hd.2.2.2.2.1 rfl | exact hd.2.2.2.2.2.1 rfl)
    refine Runs.of (b := ?bB50) ?eB50 ?_
    case eB50 => simp only [putV, Act.put, List.setIfInBounds_toArray, List.set_cons_zero, List.set_cons_succ, e45]; rfl
    intro K' hK'
    go_simp
    exact hK'.go undef rfl ⟨B2, hS, hX, hK, h0, h1, h2, h3, h4, h5, h6, h7, h8, h9, h18, h19, h20, h26, h27, h28, h34, h35, h36, h43, h44, h45, h53, h54⟩
  · intro l x w' hJ hi hd
    obtain ⟨B2, hS, hX, hK, h0, h1, h2, h3, h4, h5, h6, h7, h8, h9, h18, h19, h20, h26, h27, h28, h34, h35, h36, h43, h44, h45, h53, h54⟩ := hJ
    have e45 := h45 (show l 45 = true by first | exact hd.1 rfl | exact hd.2.1 rfl | exact hd.2.2.1 rfl | exact hd.2.2.2.1 rfl | exact hd.2.2.2.2.1 rfl | exact hd.2.2.2.2.2.1 rfl)
    refine Runs.of (b := ?bB51) ?eB51 ?_
    case eB51 => simp only [putV, Act.put, List.setIfInBounds_toArray, List.set_cons_zero, List.set_cons_succ, e45]; rfl
    intro K' hK'
    go_simp
    exact hK'.go undef rfl ⟨B2, hS, hX, hK, h0, h1, h2, h3, h4, h5, h6, h7, h8, h9, h18, h19, h20, h26, h27, h28, h34, h35, h36, h43, h44, h45, h53, h54⟩
  · intro l x w' hJ hi hd
    obtain ⟨B2, hS, hX, hK, h0, h1, h2, h3, h4, h5, h6, h7, h8, h9, h18, h19, h20, h26, h27, h28, h34, h35, h36, h43, h44, h45, h53, h54⟩ := hJ
    have e45 := h45 (show l 45 = true by first | exact hd.1 rfl | exact hd.2.1 rfl | exact hd.2.2.1 rfl | exact hd.2.2.2.1 rfl | exact hd.2.2.2.2.1 rfl | exact hd.2.2.2.2.2.1 rfl)
    refine Runs.of (b := ?bB52) ?eB52 ?_
    case eB52 => simp only [putV, Act.put, List.setIfInBounds_toArray, List.set_cons_zero, List.set_cons_succ, e45]; rfl
    intro K' hK'
    go_simp
    exact hK'.go undef rfl ⟨B2, hS, hX, hK, h0, h1, h2, h3, h4, h5, h6, h7, h8, h9, h18, h19, h20, h26, h27, h28, h34, h35, h36, h43, h44, h45, h53, h54⟩
  · intro l x w' hJ hi hd
    obtain ⟨B2, hS, hX, hK, h0, h1, h2, h3, h4, h5, h6, h7, h8, h9, h18, h19, h20, h26, h27, h28, h34, h35, h36, h43, h44, h45, h53, h54⟩ := hJ
    have e45 := h45 (show l 45 = true by first | exact hd.1 rfl | exact hd.2.1 rfl | exact hd.2.2.1 rfl | exact hd.2.2.2.1 rfl | exact hd.2.2.2.2.1 rfl | exact hd.2.2.2.2.2.1 rfl)
    refine Runs.of (b := ?bB53) ?eB53 ?_
    case eB53 => simp only [putV, Act.put, List.setIfInBounds_toArray, List.set_cons_zero, List.set_cons_succ, e45]; rfl
    intro K' hK'
    go_simp
    exact hK'.go undef rfl ⟨B2, hS, hX, hK, h0, h1, h2, h3, h4, h5, h6, h7, h8, h9, h18, h19, h20, h26, h27, h28, h34, h35, h36, h43, h44, h45, fun _ => rfl, h54⟩
  · intro l x w' hJ hi hd
    obtain ⟨B2, hS, hX, hK, h0, h1, h2, h3, h4, h5, h6, h7, h8, h9, h18, h19, h20, h26, h27, h28, h34, h35, h36, h43, h44, h45, h53, h54⟩ := hJ
    have e45 := h45 (show l 45 = true by first | exact hd.1 rfl | exact hd.2.1 rfl | exact hd.2.2.1 rfl | exact hd.2.2.2.1 rfl | exact hd.2.2.2.2.1 rfl | exact hd.2.2.2.2.2.1 rfl)
    have e53 := h53 (show l 53 = true by first | exact hd.1 rfl | exact hd.2.1 rfl | exact hd.2.2.1 rfl | exact hd.2.2.2.1 rfl | exact hd.2.2.2.2.1 rfl | exact hd.2.2.2.2.2.1 rfl)
    refine Runs.of (b := ?bB54) ?eB54 ?_
    case eB54 => simp only [putV, Act.put, List.setIfInBounds_toArray, List.set_cons_zero, List.set_cons_succ, e45, e53]; rfl
    intro K' hK'
    go_simp
    exact hK'.go _ rfl ⟨B2, hS, hX, hK, h0, h1, h2, h3, h4, h5, h6, h7, h8, h9, h18, h19, h20, h26, h27, h28, h34, h35, h36, h43, h44, h45, h53, fun _ => rfl⟩
  · intro l x w3 hJ hl
    obtain ⟨B2, hS, hX, hK, h0, h1, h2, h3, h4, h5, h6, h7, h8, h9, h18, h19, h20, h26, h27, h28, h34, h35, h36, h43, h44, h45, h53, h54⟩ := hJ
    have e54 := h54 (hl 54 (by decide))
    simp only [putV, Act.put, List.setIfInBounds_toArray, List.set_cons_zero, List.set_cons_succ, e54]
    simp only [Nat.zero_add, Nat.reduceAdd]
    have HS := Lib.hid hS
    have HK := Lib.hid (K1.trans (hK.mono (by simp)))
    clear hS hK hX hs1 hX1 hB1 hT1 K1 e54 hl
    go_wp2_with fail
    go_ret
    exact ⟨rfl, HS.out, HK.out⟩
end Go.Proofs.Ytpibpapolcdeiaa
/- slog: a sector is taken: it is of another segment. -/
namespace Go.Proofs.Ytpibpapolcdeiaa
open Go.ChangeShapes Go.WideShapes Go.ChangeAt Go.RowKit
set_option linter.unusedVariables false
set_option linter.unusedSimpArgs false
set_option maxRecDepth 100000

set_option maxHeartbeats 8000000 in
theorem take_gen {w : World} {p xb xc gen0 base0 : Nat} {run0 : Int} {vb vr : Value} {buf X : List Nat} {SN FN GN RN BN i0 cl i : Nat} (hF : Fld X SN FN GN RN BN i0 cl) (hxc : 64 ≤ xc) (hs0 : Blk w p (sgC gen0 base0 run0 vb vr) 80) (hB0 : Buf w 0 5 vb buf) (hX0 : Buf w 0 5 (.slice (some ⟨xb, 0, none⟩) 64 xc) X)
    (hi : i < 8) (gen2 base2 : Nat) (h2 : (i = 0 ∧ gen2 = GN ∧ base2 = BN) ∨ (0 < i ∧ gen2 = gen0 ∧ base2 = base0)) (hok : SN = FN) (hbad : GN ≠ gen2) :
    Calls Try.prog 43 #[.pointer (some ⟨p, 0, none⟩), .int .i64 (i : Int), .slice (some ⟨xb, 0, none⟩) 64 xc] w fun e w' => e = .returned (.bool false) ∧ Blk w' p (sgC gen2 base2 run0 vb vr) 80 ∧ Keep [p] w w' := by
  have Q18 : Hid ((((GN : Nat) : Int) != ((gen2 : Nat) : Int)) = true) := Lib.hid (by simp; omega)
  subst hok
  clear hbad
  obtain ⟨i8, hi8, hz80, hz81, hz82⟩ := info_parts Try.info8
  obtain ⟨hl64, hby, hSN, hFN, hGN, hRN, hBN, hi14, hc15⟩ := hF
  obtain ⟨ba, bcap, rfl⟩ := hB0.slice
  have HRD : Hid (∀ W : World, Buf W 0 5 (.slice (some ⟨xb, 0, none⟩) 64 xc) X → Rv W 1 (.slice (some ⟨xb, 0, none⟩) 64 xc) 64 (bcs X)) := Lib.hid (fun W h => by have := h.rd; unfold Rd at this; rw [hl64] at this; exact this)
  obtain ⟨S410, hC410, hS410, _⟩ := cutE_both (P := Try.prog) 30 5 i8 Try.underlying30 hi8 hz81 (some ⟨xb, 0, none⟩) 64 xc (bcs X) 4 10 4 10 rfl rfl (by omega) (by omega) hxc
  obtain ⟨S1014, hC1014, hS1014, _⟩ := cutE_both (P := Try.prog) 30 5 i8 Try.underlying30 hi8 hz81 (some ⟨xb, 0, none⟩) 64 xc (bcs X) 10 14 10 14 rfl rfl (by omega) (by omega) hxc
  obtain ⟨S4, hC4, hS4, _⟩ := cutE_lo (P := Try.prog) 30 5 i8 Try.underlying30 hi8 hz81 (some ⟨xb, 0, none⟩) 64 xc (bcs X) 4 4 rfl (by omega)
  obtain ⟨S04, hC04, hS04, _⟩ := cutE_hi (P := Try.prog) 30 5 i8 Try.underlying30 hi8 hz81 (some ⟨xb, 0, none⟩) 64 xc (bcs X) 4 4 rfl (by omega) hxc
  obtain ⟨T0, hC16, hT0, hT0o⟩ := cutE_lo (P := Try.prog) 30 5 i8 Try.underlying30 hi8 hz81 (some ⟨xb, 0, none⟩) 64 xc (bcs X) 16 16 rfl (by omega)
  have bdr : ∀ k, (bcs X).drop k = bcs (X.drop k) := bcsD X
  have btk : ∀ k, (bcs X).take k = bcs (X.take k) := bcsT X
  have HS410 : Hid (∀ W : World, Rv W 1 (.slice (some ⟨xb, 0, none⟩) 64 xc) 64 (bcs X) → Rv W 1 S410 6 (bcs ((X.drop 4).take 6))) := Lib.hid (fun W h => by have := hS410 W h; rw [bcs_part] at this; exact this)
  have HS1014 : Hid (∀ W : World, Rv W 1 (.slice (some ⟨xb, 0, none⟩) 64 xc) 64 (bcs X) → Rv W 1 S1014 4 (bcs ((X.drop 10).take 4))) := Lib.hid (fun W h => by have := hS1014 W h; rw [bcs_part] at this; exact this)
  have HS4 : Hid (∀ W : World, Rv W 1 (.slice (some ⟨xb, 0, none⟩) 64 xc) 64 (bcs X) → Rv W 1 S4 60 (bcs (X.drop 4))) := Lib.hid (fun W h => by have := hS4 W h; rw [bdr] at this; exact this)
  obtain ⟨_, s4a, s4c, hs4e, _, _⟩ := id (HS4.out w (HRD.out w hX0))
  subst hs4e
  have HS04 : Hid (∀ W : World, Rv W 1 (.slice (some ⟨xb, 0, none⟩) 64 xc) 64 (bcs X) → Rv W 1 S04 4 (bcs (X.take 4))) := Lib.hid (fun W h => by have := hS04 W h; rw [btk] at this; exact this)
  have HT0 : Hid (∀ W : World, Rv W 1 (.slice (some ⟨xb, 0, none⟩) 64 xc) 64 (bcs X) → Rv W 1 T0 48 (bcs (X.drop 16))) := Lib.hid (fun W h => by have := hT0 W h; rw [bdr] at this; exact this)
  obtain ⟨_, ta, tcap, hte, htc, _⟩ := id (HT0.out w (HRD.out w hX0))
  subst hte
  have bd16 : ∀ k, (bcs (X.drop 16)).drop k = bcs ((X.drop 16).drop k) := bcsD _
  have bt16 : ∀ k, (bcs (X.drop 16)).take k = bcs ((X.drop 16).take k) := bcsT _
  obtain ⟨T6, hCT6, hT6, _⟩ := cutE_hi (P := Try.prog) 30 5 i8 Try.underlying30 hi8 hz81 ta 48 tcap (bcs (X.drop 16)) 6 6 rfl (by omega) htc
  obtain ⟨T6b, hCT6b, hT6b, hT6bo⟩ := cutE_lo (P := Try.prog) 30 5 i8 Try.underlying30 hi8 hz81 ta 48 tcap (bcs (X.drop 16)) 6 6 rfl (by omega)
  have HT6 : Hid (∀ W : World, Rv W 1 (.slice ta 48 tcap) 48 (bcs (X.drop 16)) → Rv W 1 T6 6 (bcs ((X.drop 16).take 6))) := Lib.hid (fun W h => by have := hT6 W h; rw [bt16] at this; exact this)
  have HT6b : Hid (∀ W : World, Rv W 1 (.slice ta 48 tcap) 48 (bcs (X.drop 16)) → Rv W 1 T6b 42 (bcs (X.drop 22))) := Lib.hid (fun W h => by have := hT6b W h; rw [bd16, List.drop_drop] at this; exact this)
  obtain ⟨_, tb, tcb, htbe, _, _⟩ := id (HT6b.out w (HT0.out w (HRD.out w hX0)))
  subst htbe
  have HC410 := Lib.hid hC410
  have HC4 := Lib.hid hC4
  have HC04 := Lib.hid hC04
  have HCT6 := Lib.hid hCT6
  have HCT6b := Lib.hid hCT6b
  have HTO := Lib.hid (show (Value.slice ta 48 tcap).ownBlock = some xb ∧ (Value.slice tb 42 tcb).ownBlock = some xb from ⟨hT0o, hT6bo.trans hT0o⟩)
  have hsub : ∀ (Y : List Nat), (∀ c ∈ Y, c ∈ X) → ∀ c ∈ Y, c < 256 := fun Y h c hc => hby c (h c hc)
  have HYg : Hid (∀ c ∈ (X.drop 4).take 6, c < 256) := Lib.hid (fun c hc => hby c (List.mem_of_mem_drop (List.mem_of_mem_take hc)))
  have HYr : Hid (∀ c ∈ (X.drop 10).take 4, c < 256) := Lib.hid (fun c hc => hby c (List.mem_of_mem_drop (List.mem_of_mem_take hc)))
  have HYb : Hid (∀ c ∈ (X.drop 16).take 6, c < 256) := Lib.hid (fun c hc => hby c (List.mem_of_mem_drop (List.mem_of_mem_take hc)))
  have HYd : Hid (∀ c ∈ X.drop 4, c < 256) := Lib.hid (fun c hc => hby c (List.mem_of_mem_drop hc))
  have HYf : Hid (∀ c ∈ X.take 4, c < 256) := Lib.hid (fun c hc => hby c (List.mem_of_mem_take hc))
  have HLg : Hid (((X.drop 4).take 6).length = 6) := Lib.hid (by rw [List.length_take, List.length_drop]; omega)
  have HLr : Hid (((X.drop 10).take 4).length = 4) := Lib.hid (by rw [List.length_take, List.length_drop]; omega)
  have HLb : Hid (((X.drop 16).take 6).length = 6) := Lib.hid (by rw [List.length_take, List.length_drop]; omega)
  have HL4 : Hid ((X.drop 4).length = 60) := Lib.hid (by rw [List.length_drop]; omega)
  have HLf : Hid ((X.take 4).length = 4) := Lib.hid (by rw [List.length_take]; omega)
  have hgn : GN < 281474976710656 := by rw [hGN]; exact unbe_le _ 6 (by rw [HLg.out]; omega) HYg.out
  have hrn : RN < 4294967296 := by rw [hRN]; exact unbe_le _ 4 (by rw [HLr.out]; omega) HYr.out
  have hbn : BN < 281474976710656 := by rw [hBN]; exact unbe_le _ 6 (by rw [HLb.out]; omega) HYb.out
  have hsn : SN < 4294967296 := by rw [hSN]; exact sumLt _ HYd.out
  have hcl : cl < 256 := by
    rw [hc15, List.getD_eq_getElem?_getD, List.getElem?_eq_getElem (by omega)]
    exact hby _ (List.getElem_mem _)
  have HGN := Lib.hid hGN
  have HRN := Lib.hid hRN
  have HBN := Lib.hid hBN
  have HSN := Lib.hid hSN
  have HFN := Lib.hid hFN
  have HWGN : Hid (IntKind.i64.wrap (GN : Int) = (GN : Int)) := Lib.hid (by rw [IntKind.wrap_i64]; omega)
  have HWBN : Hid (IntKind.i64.wrap (BN : Int) = (BN : Int)) := Lib.hid (by rw [IntKind.wrap_i64]; omega)
  have HWSN : Hid (IntKind.u64.wrap (SN : Int) = (SN : Int)) := Lib.hid (by simp [IntKind.wrap, IntKind.bits, IntKind.signed]; omega)
  have HWcl : Hid (IntKind.i64.wrap (cl : Int) = (cl : Int)) := Lib.hid (by rw [IntKind.wrap_i64]; omega)
  have HWi : Hid (IntKind.i64.wrap (i : Int) = (i : Int)) := Lib.hid (by rw [IntKind.wrap_i64]; omega)
  have HCL := Lib.hid hcl
  have HI8 := Lib.hid hi
  have H14 : Hid (∀ W : World, Buf W 0 5 (.slice (some ⟨xb, 0, none⟩) 64 xc) X → W.cell? ⟨xb, 14, none⟩ = some (.int .u8 (i0 : Int))) := Lib.hid (fun W h => by
    have h1 := (h.own.cell (n := 64) (by rw [bcs_length, hl64]) 14 (by omega)).1
    rw [h1, bcs_at X 14 (by omega), ← hi14]
    rfl)
  have H15 : Hid (∀ W : World, Buf W 0 5 (.slice (some ⟨xb, 0, none⟩) 64 xc) X → W.cell? ⟨xb, 15, none⟩ = some (.int .u8 (cl : Int))) := Lib.hid (fun W h => by
    have h1 := (h.own.cell (n := 64) (by rw [bcs_length, hl64]) 15 (by omega)).1
    rw [h1, bcs_at X 15 (by omega), ← hc15]
    rfl)
  have HXP : Hid (∀ q, (Value.slice (some ⟨xb, 0, none⟩) 64 xc).ownBlock = some q → q ∉ [p]) := Lib.hid (fun q hq hm => by
    simp only [List.mem_singleton] at hm
    subst hm
    exact (hX0.ty' _ hq).ne hs0.ty (by decide) rfl)
  have HBP : Hid (∀ q, (Value.slice ba buf.length bcap).ownBlock = some q → q ∉ [p]) := Lib.hid (fun q hq hm => by
    simp only [List.mem_singleton] at hm
    subst hm
    exact (hB0.ty' _ hq).ne hs0.ty (by decide) rfl)
  have H2 := Lib.hid h2
  clear hC410 hC4 hC04 hCT6 hCT6b hS410 hS1014 hS4 hS04 hT0 hT6 hT6b bdr btk bd16 bt16 hGN hRN hBN hSN hFN hi14 hc15 h2 hT0o hT6bo htc hsub hi
  go_enter Try.func43, Try.ntmps43
  go_upto_if 12 with fail
  go_cut [7] (fun s7 wc => ∃ ta tcap, s7 = .slice ta (sgW i) tcap ∧ (Value.slice ta (sgW i) tcap).ownBlock = some xb ∧ Rv wc 1 (.slice ta (sgW i) tcap) (sgW i) (bcs (X.drop (64 - sgW i))) ∧ Blk wc p (sgC gen2 base2 run0 (.slice ba buf.length bcap) vr) 80 ∧ Buf wc 0 5 (.slice (some ⟨xb, 0, none⟩) 64 xc) X ∧ Buf wc 0 5 (.slice ba buf.length bcap) buf ∧ Keep [p] w wc)
  case first =>
    rcases H2.out with ⟨h0, eg, eb⟩ | ⟨h0, eg, eb⟩
    · subst h0
      have EG := Lib.hid eg
      have EB := Lib.hid eb
      clear eg eb
      have HW42 : Hid (sgW 0 = 42) := Lib.hid rfl
      clear hC16
      go_wp2_with fail
      refine wp_region_inv (takeJ3 w p xb xc tcap GN BN run0 (.slice ba buf.length bcap) vr S410 T6 ta buf X) (by kernel_rfl) (by kernel_rfl) (by kernel_rfl) ?_ (Steps.cons 0 ?_ (Steps.cons 1 ?_ (Steps.cons 2 ?_ (Steps.cons 3 ?_ (Steps.cons 4 ?_ (Steps.cons 5 ?_ (Steps.cons 6 ?_ (Steps.cons 7 ?_ (Steps.cons 8 ?_ (Steps.cons 9 ?_ (Steps.cons 10 ?_ (Steps.cons 11 ?_ (Steps.cons 12 ?_ (Steps.cons 13 ?_ (Steps.cons 14 ?_ (Steps.cons 15 ?_ (Steps.nil 16))))))))))))))))) 16 rfl ?_
      · intro x
        exact ⟨_, _, hs0.drew, fun h => absurd h (by decide), fun h => absurd h (by decide), hX0.keep (Keep.refl [] _).drew (by simp), hB0.keep (Keep.refl [] _).drew (by simp), (Keep.refl _ _).drew, fun h => absurd h (by decide), fun h => absurd h (by decide), fun h => absurd h (by decide), fun h => absurd h (by decide), fun h => absurd h (by decide), fun h => absurd h (by decide), fun h => absurd h (by decide), fun h => absurd h (by decide), fun h => absurd h (by decide), fun h => absurd h (by decide), fun h => absurd h (by decide), fun h => absurd h (by decide), fun h => absurd h (by decide), fun h => absurd h (by decide), fun h => absurd h (by decide), fun h => absurd h (by decide)⟩
      · intro l x w' hJ hi hd
        obtain ⟨gx, bx, hS, hg, hb, hX, hB, hK, h0, h1, h2, h3, h4, h5, h6, h7, h8, h9, h10, h11, h12, h13, h14, h15⟩ := hJ
        refine Runs.of (b := ?bA0) ?eA0 ?_
        case eA0 => simp only [putV, Act.put, List.setIfInBounds_toArray, List.set_cons_zero, List.set_cons_succ]; rfl
        intro K' hK'
        go_simp
        exact hK'.go _ rfl ⟨gx, bx, hS, hg, hb, hX, hB, hK, fun _ => rfl, h1, h2, h3, h4, h5, h6, h7, h8, h9, h10, h11, h12, h13, h14, h15⟩
      · intro l x w' hJ hi hd
        obtain ⟨gx, bx, hS, hg, hb, hX, hB, hK, h0, h1, h2, h3, h4, h5, h6, h7, h8, h9, h10, h11, h12, h13, h14, h15⟩ := hJ
        refine Runs.of (b := ?bA1) ?eA1 ?_
        case eA1 => simp only [putV, Act.put, List.setIfInBounds_toArray, List.set_cons_zero, List.set_cons_succ]; rfl
        intro K' hK'
        go_simp
        exact hK'.go _ rfl ⟨gx, bx, hS, hg, hb, hX, hB, hK, h0, fun _ => rfl, h2, h3, h4, h5, h6, h7, h8, h9, h10, h11, h12, h13, h14, h15⟩
      · intro l x w' hJ hi hd
        obtain ⟨gx, bx, hS, hg, hb, hX, hB, hK, h0, h1, h2, h3, h4, h5, h6, h7, h8, h9, h10, h11, h12, h13, h14, h15⟩ := hJ
        refine Runs.of (b := ?bA2) ?eA2 ?_
        case eA2 => simp only [putV, Act.put, List.setIfInBounds_toArray, List.set_cons_zero, List.set_cons_succ]; rfl
        intro K' hK'
        go_simp
        exact hK'.go _ rfl ⟨gx, bx, hS, hg, hb, hX, hB, hK, h0, h1, fun _ => rfl, h3, h4, h5, h6, h7, h8, h9, h10, h11, h12, h13, h14, h15⟩
      · intro l x w' hJ hi hd
        obtain ⟨gx, bx, hS, hg, hb, hX, hB, hK, h0, h1, h2, h3, h4, h5, h6, h7, h8, h9, h10, h11, h12, h13, h14, h15⟩ := hJ
        have e2 := h2 (show l 2 = true by first | exact hd.1 rfl | exact hd.2.1 rfl | exact hd.2.2.1 rfl | exact hd.2.2.2.1 rfl | exact hd.2.2.2.2.1 rfl | exact hd.2.2.2.2.2.1 rfl)
        have hcut := HC410.out
        refine Runs.of (b := ?bA3) ?eA3 ?_
        case eA3 => simp only [putV, Act.put, List.setIfInBounds_toArray, List.set_cons_zero, List.set_cons_succ, e2]; rfl
        intro K' hK'
        go_simp
        exact hK'.go _ rfl ⟨gx, bx, hS, hg, hb, hX, hB, hK, h0, h1, h2, fun _ => rfl, h4, h5, h6, h7, h8, h9, h10, h11, h12, h13, h14, h15⟩
      · intro l x w' hJ hi hd
        obtain ⟨gx, bx, hS, hg, hb, hX, hB, hK, h0, h1, h2, h3, h4, h5, h6, h7, h8, h9, h10, h11, h12, h13, h14, h15⟩ := hJ
        have e3 := h3 (show l 3 = true by first | exact hd.1 rfl | exact hd.2.1 rfl | exact hd.2.2.1 rfl | exact hd.2.2.2.1 rfl | exact hd.2.2.2.2.1 rfl | exact hd.2.2.2.2.2.1 rfl)
        refine Runs.of (b := ?bA4) ?eA4 ?_
        case eA4 => simp only [putV, Act.put, List.setIfInBounds_toArray, List.set_cons_zero, List.set_cons_succ, e3]; rfl
        intro K' hK'
        go_simp
        refine (sget_any S410 ((X.drop 4).take 6) (Rv.rd (HS410.out w' (HRD.out w' hX)) HLg.out) HYg.out (by rw [HLg.out]; omega) GN HGN.out).mono ?_
        rintro e w2 ⟨rfl, rfl⟩
        go_simp
        exact hK'.go _ rfl ⟨gx, bx, hS, hg, hb, hX, hB, hK, h0, h1, h2, h3, fun _ => rfl, h5, h6, h7, h8, h9, h10, h11, h12, h13, h14, h15⟩
      · intro l x w' hJ hi hd
        obtain ⟨gx, bx, hS, hg, hb, hX, hB, hK, h0, h1, h2, h3, h4, h5, h6, h7, h8, h9, h10, h11, h12, h13, h14, h15⟩ := hJ
        have e4 := h4 (show l 4 = true by first | exact hd.1 rfl | exact hd.2.1 rfl | exact hd.2.2.1 rfl | exact hd.2.2.2.1 rfl | exact hd.2.2.2.2.1 rfl | exact hd.2.2.2.2.2.1 rfl)
        refine Runs.of (b := ?bA5) ?eA5 ?_
        case eA5 => simp only [putV, Act.put, List.setIfInBounds_toArray, List.set_cons_zero, List.set_cons_succ, e4]; rfl
        intro K' hK'
        go_simp
        exact hK'.go _ rfl ⟨gx, bx, hS, hg, hb, hX, hB, hK, h0, h1, h2, h3, h4, fun _ => (by first | rfl | exact congrArg (Value.int .i64) HWGN.out), h6, h7, h8, h9, h10, h11, h12, h13, h14, h15⟩
      · intro l x w' hJ hi hd
        obtain ⟨gx, bx, hS, hg, hb, hX, hB, hK, h0, h1, h2, h3, h4, h5, h6, h7, h8, h9, h10, h11, h12, h13, h14, h15⟩ := hJ
        refine Runs.of (b := ?bA6) ?eA6 ?_
        case eA6 => simp only [putV, Act.put, List.setIfInBounds_toArray, List.set_cons_zero, List.set_cons_succ]; rfl
        intro K' hK'
        go_simp
        exact hK'.go _ rfl ⟨gx, bx, hS, hg, hb, hX, hB, hK, h0, h1, h2, h3, h4, h5, fun _ => rfl, h7, h8, h9, h10, h11, h12, h13, h14, h15⟩
      · intro l x w' hJ hi hd
        obtain ⟨gx, bx, hS, hg, hb, hX, hB, hK, h0, h1, h2, h3, h4, h5, h6, h7, h8, h9, h10, h11, h12, h13, h14, h15⟩ := hJ
        have e6 := h6 (show l 6 = true by first | exact hd.1 rfl | exact hd.2.1 rfl | exact hd.2.2.1 rfl | exact hd.2.2.2.1 rfl | exact hd.2.2.2.2.1 rfl | exact hd.2.2.2.2.2.1 rfl)
        have hcut := HCT6.out
        refine Runs.of (b := ?bA7) ?eA7 ?_
        case eA7 => simp only [putV, Act.put, List.setIfInBounds_toArray, List.set_cons_zero, List.set_cons_succ, e6]; rfl
        intro K' hK'
        go_simp
        exact hK'.go _ rfl ⟨gx, bx, hS, hg, hb, hX, hB, hK, h0, h1, h2, h3, h4, h5, h6, fun _ => rfl, h8, h9, h10, h11, h12, h13, h14, h15⟩
      · intro l x w' hJ hi hd
        obtain ⟨gx, bx, hS, hg, hb, hX, hB, hK, h0, h1, h2, h3, h4, h5, h6, h7, h8, h9, h10, h11, h12, h13, h14, h15⟩ := hJ
        have e7 := h7 (show l 7 = true by first | exact hd.1 rfl | exact hd.2.1 rfl | exact hd.2.2.1 rfl | exact hd.2.2.2.1 rfl | exact hd.2.2.2.2.1 rfl | exact hd.2.2.2.2.2.1 rfl)
        refine Runs.of (b := ?bA8) ?eA8 ?_
        case eA8 => simp only [putV, Act.put, List.setIfInBounds_toArray, List.set_cons_zero, List.set_cons_succ, e7]; rfl
        intro K' hK'
        go_simp
        refine (sget_any T6 ((X.drop 16).take 6) (Rv.rd (HT6.out w' (HT0.out w' (HRD.out w' hX))) HLb.out) HYb.out (by rw [HLb.out]; omega) BN HBN.out).mono ?_
        rintro e w2 ⟨rfl, rfl⟩
        go_simp
        exact hK'.go _ rfl ⟨gx, bx, hS, hg, hb, hX, hB, hK, h0, h1, h2, h3, h4, h5, h6, h7, fun _ => rfl, h9, h10, h11, h12, h13, h14, h15⟩
      · intro l x w' hJ hi hd
        obtain ⟨gx, bx, hS, hg, hb, hX, hB, hK, h0, h1, h2, h3, h4, h5, h6, h7, h8, h9, h10, h11, h12, h13, h14, h15⟩ := hJ
        have e8 := h8 (show l 8 = true by first | exact hd.1 rfl | exact hd.2.1 rfl | exact hd.2.2.1 rfl | exact hd.2.2.2.1 rfl | exact hd.2.2.2.2.1 rfl | exact hd.2.2.2.2.2.1 rfl)
        refine Runs.of (b := ?bA9) ?eA9 ?_
        case eA9 => simp only [putV, Act.put, List.setIfInBounds_toArray, List.set_cons_zero, List.set_cons_succ, e8]; rfl
        intro K' hK'
        go_simp
        exact hK'.go _ rfl ⟨gx, bx, hS, hg, hb, hX, hB, hK, h0, h1, h2, h3, h4, h5, h6, h7, h8, fun _ => (by first | rfl | exact congrArg (Value.int .i64) HWBN.out), h10, h11, h12, h13, h14, h15⟩
      · intro l x w' hJ hi hd
        obtain ⟨gx, bx, hS, hg, hb, hX, hB, hK, h0, h1, h2, h3, h4, h5, h6, h7, h8, h9, h10, h11, h12, h13, h14, h15⟩ := hJ
        have e0 := h0 (show l 0 = true by first | exact hd.1 rfl | exact hd.2.1 rfl | exact hd.2.2.1 rfl | exact hd.2.2.2.1 rfl | exact hd.2.2.2.2.1 rfl | exact hd.2.2.2.2.2.1 rfl)
        refine Runs.of (b := ?bA10) ?eA10 ?_
        case eA10 => simp only [putV, Act.put, List.setIfInBounds_toArray, List.set_cons_zero, List.set_cons_succ, e0]; rfl
        intro K' hK'
        go_simp
        exact hK'.go _ rfl ⟨gx, bx, hS, hg, hb, hX, hB, hK, h0, h1, h2, h3, h4, h5, h6, h7, h8, h9, fun _ => rfl, h11, h12, h13, h14, h15⟩
      · intro l x w' hJ hi hd
        obtain ⟨gx, bx, hS, hg, hb, hX, hB, hK, h0, h1, h2, h3, h4, h5, h6, h7, h8, h9, h10, h11, h12, h13, h14, h15⟩ := hJ
        have e10 := h10 (show l 10 = true by first | exact hd.1 rfl | exact hd.2.1 rfl | exact hd.2.2.1 rfl | exact hd.2.2.2.1 rfl | exact hd.2.2.2.2.1 rfl | exact hd.2.2.2.2.2.1 rfl)
        refine Runs.of (b := ?bA11) ?eA11 ?_
        case eA11 => simp only [putV, Act.put, List.setIfInBounds_toArray, List.set_cons_zero, List.set_cons_succ, e10]; rfl
        intro K' hK'
        go_simp
        exact hK'.go _ rfl ⟨gx, bx, hS, hg, hb, hX, hB, hK, h0, h1, h2, h3, h4, h5, h6, h7, h8, h9, h10, fun _ => rfl, h12, h13, h14, h15⟩
      · intro l x w' hJ hi hd
        obtain ⟨gx, bx, hS, hg, hb, hX, hB, hK, h0, h1, h2, h3, h4, h5, h6, h7, h8, h9, h10, h11, h12, h13, h14, h15⟩ := hJ
        have e5 := h5 (show l 5 = true by first | exact hd.1 rfl | exact hd.2.1 rfl | exact hd.2.2.1 rfl | exact hd.2.2.2.1 rfl | exact hd.2.2.2.2.1 rfl | exact hd.2.2.2.2.2.1 rfl)
        have e11 := h11 (show l 11 = true by first | exact hd.1 rfl | exact hd.2.1 rfl | exact hd.2.2.1 rfl | exact hd.2.2.2.1 rfl | exact hd.2.2.2.2.1 rfl | exact hd.2.2.2.2.2.1 rfl)
        have f0 := seg_0 hS
        have f1 := hS.free 0
        refine Runs.of (b := ?bA12) ?eA12 ?_
        case eA12 => simp only [putV, Act.put, List.setIfInBounds_toArray, List.set_cons_zero, List.set_cons_succ, e5, e11]; rfl
        intro K' hK'
        go_simp
        have k2 : Keep [p] w' (w'.setCell ⟨p, 0, none⟩ (.int .i64 (GN : Int))) := (Keep.refl _ _).setCell (.inl (by simp)) _
        exact hK'.go undef rfl ⟨(GN : Int), bx, hS.set 0 _, fun _ => rfl, hb, hX.keep k2 (fun q hq => HXP.out q hq), hB.keep k2 (fun q hq => HBP.out q hq), hK.trans k2, h0, h1, h2, h3, h4, h5, h6, h7, h8, h9, h10, h11, fun _ => trivial, h13, h14, h15⟩
      · intro l x w' hJ hi hd
        obtain ⟨gx, bx, hS, hg, hb, hX, hB, hK, h0, h1, h2, h3, h4, h5, h6, h7, h8, h9, h10, h11, h12, h13, h14, h15⟩ := hJ
        have e1 := h1 (show l 1 = true by first | exact hd.1 rfl | exact hd.2.1 rfl | exact hd.2.2.1 rfl | exact hd.2.2.2.1 rfl | exact hd.2.2.2.2.1 rfl | exact hd.2.2.2.2.2.1 rfl)
        refine Runs.of (b := ?bA13) ?eA13 ?_
        case eA13 => simp only [putV, Act.put, List.setIfInBounds_toArray, List.set_cons_zero, List.set_cons_succ, e1]; rfl
        intro K' hK'
        go_simp
        exact hK'.go _ rfl ⟨gx, bx, hS, hg, hb, hX, hB, hK, h0, h1, h2, h3, h4, h5, h6, h7, h8, h9, h10, h11, h12, fun _ => rfl, h14, h15⟩
      · intro l x w' hJ hi hd
        obtain ⟨gx, bx, hS, hg, hb, hX, hB, hK, h0, h1, h2, h3, h4, h5, h6, h7, h8, h9, h10, h11, h12, h13, h14, h15⟩ := hJ
        have e13 := h13 (show l 13 = true by first | exact hd.1 rfl | exact hd.2.1 rfl | exact hd.2.2.1 rfl | exact hd.2.2.2.1 rfl | exact hd.2.2.2.2.1 rfl | exact hd.2.2.2.2.2.1 rfl)
        refine Runs.of (b := ?bA14) ?eA14 ?_
        case eA14 => simp only [putV, Act.put, List.setIfInBounds_toArray, List.set_cons_zero, List.set_cons_succ, e13]; rfl
        intro K' hK'
        go_simp
        exact hK'.go _ rfl ⟨gx, bx, hS, hg, hb, hX, hB, hK, h0, h1, h2, h3, h4, h5, h6, h7, h8, h9, h10, h11, h12, h13, fun _ => rfl, h15⟩
      · intro l x w' hJ hi hd
        obtain ⟨gx, bx, hS, hg, hb, hX, hB, hK, h0, h1, h2, h3, h4, h5, h6, h7, h8, h9, h10, h11, h12, h13, h14, h15⟩ := hJ
        have e9 := h9 (show l 9 = true by first | exact hd.1 rfl | exact hd.2.1 rfl | exact hd.2.2.1 rfl | exact hd.2.2.2.1 rfl | exact hd.2.2.2.2.1 rfl | exact hd.2.2.2.2.2.1 rfl)
        have e14 := h14 (show l 14 = true by first | exact hd.1 rfl | exact hd.2.1 rfl | exact hd.2.2.1 rfl | exact hd.2.2.2.1 rfl | exact hd.2.2.2.2.1 rfl | exact hd.2.2.2.2.2.1 rfl)
        have f0 := seg_1 hS
        have f1 := hS.free 1
        refine Runs.of (b := ?bA15) ?eA15 ?_
        case eA15 => simp only [putV, Act.put, List.setIfInBounds_toArray, List.set_cons_zero, List.set_cons_succ, e9, e14]; rfl
        intro K' hK'
        go_simp
        have k2 : Keep [p] w' (w'.setCell ⟨p, 1, none⟩ (.int .i64 (BN : Int))) := (Keep.refl _ _).setCell (.inl (by simp)) _
        exact hK'.go undef rfl ⟨gx, (BN : Int), hS.set 1 _, hg, fun _ => rfl, hX.keep k2 (fun q hq => HXP.out q hq), hB.keep k2 (fun q hq => HBP.out q hq), hK.trans k2, h0, h1, h2, h3, h4, h5, h6, h7, h8, h9, h10, h11, h12, h13, h14, fun _ => trivial⟩
      · intro l x w3 hJ hl
        obtain ⟨gx, bx, hS, hg, hb, hX, hB, hK, h0, h1, h2, h3, h4, h5, h6, h7, h8, h9, h10, h11, h12, h13, h14, h15⟩ := hJ
        have eg := hg (hl 12 (by decide))
        have eb := hb (hl 15 (by decide))
        subst eg eb
        clear h0 h1 h2 h3 h4 h5 h6 h7 h8 h9 h10 h11 h12 h13 h14 h15 hg hb hl
        simp only [putV, Act.put, List.setIfInBounds_toArray, List.set_cons_zero, List.set_cons_succ]
        simp only [Nat.zero_add, Nat.reduceAdd]
        have HS := Lib.hid hS
        have HX := Lib.hid hX
        have HB := Lib.hid hB
        have HK := Lib.hid hK
        have hcut := HCT6b.out
        clear hS hX hB hK hs0 hX0 hB0
        go_wp2_with fail
        go_meet
        exact ⟨tb, tcb, rfl, HTO.out.2, HT6b.out _ (HT0.out _ (HRD.out _ HX.out)), (by rw [EG.out, EB.out]; exact HS.out), HX.out, HB.out, HK.out⟩
    · have q : ((i : Int) == 0) = false := by simp; omega
      have hw : sgW i = 48 := by unfold sgW; rw [if_neg (by omega)]
      have HW := Lib.hid hw
      have EG := Lib.hid eg
      have EB := Lib.hid eb
      clear hw hC16 h0 eg eb
      go_wp2_with fail
      go_meet
      refine ⟨ta, tcap, by rw [HW.out], by rw [HW.out]; exact HTO.out.1, ?_, by rw [EG.out, EB.out]; exact hs0, hX0, hB0, Keep.refl _ _⟩
      rw [HW.out]
      exact HT0.out w (HRD.out w hX0)
  case rest =>
  clear hs0 hX0 hB0 hC16 HT0 HT6 HT6b HCT6 HCT6b HTO
  obtain ⟨ta, tcap, rfl, hto, hT1, hs1', hX1', hB1, K1⟩ := hcut
  have HTOX := Lib.hid hto
  clear hto
  generalize hwc : wc = wq at *
  clear hwc
  have HXR := Lib.hid (HRD.out wq hX1')
  go_wp2_with fail
  refine (sget_any S1014 ((X.drop 10).take 4) (Rv.rd (HS1014.out wq HXR.out) HLr.out) HYr.out (by rw [HLr.out]; omega) RN HRN.out).mono ?_
  rintro e w1 ⟨rfl, rfl⟩
  have hs1 := hs1'
  have hX1 := hX1'
  clear hs1' hX1' hC1014 HXR
  go_wp2_with fail
  refine wp_region_inv (takeJgen wq p xb xc tcap bcap SN SN GN RN gen2 base2 i cl run0 vr (.slice s4a 60 s4c) S04 S410 ta ba buf X) (by kernel_rfl) (by kernel_rfl) (by kernel_rfl) ?_ (Steps.cons 0 ?_ (Steps.cons 1 ?_ (Steps.cons 2 ?_ (Steps.cons 3 ?_ (Steps.cons 4 ?_ (Steps.cons 5 ?_ (Steps.cons 6 ?_ (Steps.cons 7 ?_ (Steps.cons 8 ?_ (Steps.cons 9 ?_ (Steps.cons 10 ?_ (Steps.cons 11 ?_ (Steps.cons 12 ?_ (Steps.cons 13 ?_ (Steps.cons 14 ?_ (Steps.cons 15 ?_ (Steps.cons 16 ?_ (Steps.cons 17 ?_ (Steps.cons 18 ?_ (Steps.cons 19 ?_ (Steps.cons 20 ?_ (Steps.cons 21 ?_ (Steps.cons 22 ?_ (Steps.cons 23 ?_ (Steps.cons 24 ?_ (Steps.cons 25 ?_ (Steps.cons 26 ?_ (Steps.cons 27 ?_ (Steps.cons 28 ?_ (Steps.cons 29 ?_ (Steps.cons 30 ?_ (Steps.cons 31 ?_ (Steps.cons 32 ?_ (Steps.cons 33 ?_ (Steps.cons 34 ?_ (Steps.cons 35 ?_ (Steps.cons 36 ?_ (Steps.cons 37 ?_ (Steps.cons 38 ?_ (Steps.cons 39 ?_ (Steps.cons 40 ?_ (Steps.cons 41 ?_ (Steps.cons 42 ?_ (Steps.cons 43 ?_ (Steps.cons 44 ?_ (Steps.cons 45 ?_ (Steps.cons 46 ?_ (Steps.cons 47 ?_ (Steps.cons 48 ?_ (Steps.cons 49 ?_ (Steps.cons 50 ?_ (Steps.cons 51 ?_ (Steps.cons 52 ?_ (Steps.cons 53 ?_ (Steps.cons 54 ?_ (Steps.nil 55)))))))))))))))))))))))))))))))))))))))))))))))))))))))) 55 rfl ?_
  · intro x
    exact ⟨0, hs1.drew, hX1.keep (Keep.refl [] _).drew (by simp), (Keep.refl _ _).drew, fun h => absurd h (by decide), fun h => absurd h (by decide), fun h => absurd h (by decide), fun h => absurd h (by decide), fun h => absurd h (by decide), fun h => absurd h (by decide), fun h => absurd h (by decide), fun h => absurd h (by decide), fun h => absurd h (by decide), fun h => absurd h (by decide), fun h => absurd h (by decide), fun h => absurd h (by decide), fun h => absurd h (by decide), fun h => absurd h (by decide), fun h => absurd h (by decide), fun h => absurd h (by decide), fun h => absurd h (by decide), fun h => absurd h (by decide), fun h => absurd h (by decide), fun h => absurd h (by decide), fun h => absurd h (by decide), fun h => absurd h (by decide), fun h => absurd h (by decide), fun h => absurd h (by decide), fun h => absurd h (by decide), fun h => absurd h (by decide), fun h => absurd h (by decide), fun h => absurd h (by decide), fun h => absurd h (by decide), fun h => absurd h (by decide), fun h => absurd h (by decide), fun h => absurd h (by decide)⟩
  · intro l x w' hJ hi hd
    obtain ⟨B2, hS, hX, hK, h0, h1, h2, h3, h4, h5, h6, h7, h8, h9, h10, h11, h12, h13, h14, h15, h16, h17, h18, h19, h20, h26, h27, h28, h34, h35, h36, h43, h44, h45, h53, h54⟩ := hJ
    refine Runs.of (b := ?bB0) ?eB0 ?_
    case eB0 => simp only [putV, Act.put, List.setIfInBounds_toArray, List.set_cons_zero, List.set_cons_succ]; rfl
    intro K' hK'
    go_simp
    exact hK'.go _ rfl ⟨B2, hS, hX, hK, fun _ => rfl, h1, h2, h3, h4, h5, h6, h7, h8, h9, h10, h11, h12, h13, h14, h15, h16, h17, h18, h19, h20, h26, h27, h28, h34, h35, h36, h43, h44, h45, h53, h54⟩
  · intro l x w' hJ hi hd
    obtain ⟨B2, hS, hX, hK, h0, h1, h2, h3, h4, h5, h6, h7, h8, h9, h10, h11, h12, h13, h14, h15, h16, h17, h18, h19, h20, h26, h27, h28, h34, h35, h36, h43, h44, h45, h53, h54⟩ := hJ
    have e0 := h0 (show l 0 = true by first | exact hd.1 rfl | exact hd.2.1 rfl | exact hd.2.2.1 rfl | exact hd.2.2.2.1 rfl | exact hd.2.2.2.2.1 rfl | exact hd.2.2.2.2.2.1 rfl)
    have hcut := HC4.out
    refine Runs.of (b := ?bB1) ?eB1 ?_
    case eB1 => simp only [putV, Act.put, List.setIfInBounds_toArray, List.set_cons_zero, List.set_cons_succ, e0]; rfl
    intro K' hK'
    go_simp
    exact hK'.go _ rfl ⟨B2, hS, hX, hK, h0, fun _ => rfl, h2, h3, h4, h5, h6, h7, h8, h9, h10, h11, h12, h13, h14, h15, h16, h17, h18, h19, h20, h26, h27, h28, h34, h35, h36, h43, h44, h45, h53, h54⟩
  · intro l x w' hJ hi hd
    obtain ⟨B2, hS, hX, hK, h0, h1, h2, h3, h4, h5, h6, h7, h8, h9, h10, h11, h12, h13, h14, h15, h16, h17, h18, h19, h20, h26, h27, h28, h34, h35, h36, h43, h44, h45, h53, h54⟩ := hJ
    have e1 := h1 (show l 1 = true by first | exact hd.1 rfl | exact hd.2.1 rfl | exact hd.2.2.1 rfl | exact hd.2.2.2.1 rfl | exact hd.2.2.2.2.1 rfl | exact hd.2.2.2.2.2.1 rfl)
    refine Runs.of (b := ?bB2) ?eB2 ?_
    case eB2 => simp only [putV, Act.put, List.setIfInBounds_toArray, List.set_cons_zero, List.set_cons_succ, e1]; rfl
    intro K' hK'
    go_simp
    exact hK'.go _ rfl ⟨w'.heap.size, hS.alloc _, hX.alloc _, hK.alloc _, h0, h1, fun _ => ⟨rfl, Blk.new _ [_] _⟩, h3, h4, h5, h6, h7, h8, h9, h10, h11, h12, h13, h14, h15, h16, h17, h18, h19, h20, h26, h27, h28, h34, h35, h36, h43, h44, h45, h53, h54⟩
  · intro l x w' hJ hi hd
    obtain ⟨B2, hS, hX, hK, h0, h1, h2, h3, h4, h5, h6, h7, h8, h9, h10, h11, h12, h13, h14, h15, h16, h17, h18, h19, h20, h26, h27, h28, h34, h35, h36, h43, h44, h45, h53, h54⟩ := hJ
    have e2 := h2 (show l 2 = true by first | exact hd.1 rfl | exact hd.2.1 rfl | exact hd.2.2.1 rfl | exact hd.2.2.2.1 rfl | exact hd.2.2.2.2.1 rfl | exact hd.2.2.2.2.2.1 rfl)
    refine Runs.of (b := ?bB3) ?eB3 ?_
    case eB3 => simp only [putV, Act.put, List.setIfInBounds_toArray, List.set_cons_zero, List.set_cons_succ, e2.1]; rfl
    intro K' hK'
    go_simp
    refine (Sum_one _ _ _ (X.drop 4) (rv_blk e2.2 rfl) (Rv.rd (HS4.out w' (HRD.out w' hX)) HL4.out) HYd.out (by rw [HL4.out]; omega) SN HSN.out).mono ?_
    rintro e w2 ⟨rfl, rfl⟩
    go_simp
    exact hK'.go _ rfl ⟨B2, hS, hX, hK, h0, h1, h2, fun _ => rfl, h4, h5, h6, h7, h8, h9, h10, h11, h12, h13, h14, h15, h16, h17, h18, h19, h20, h26, h27, h28, h34, h35, h36, h43, h44, h45, h53, h54⟩
  · intro l x w' hJ hi hd
    obtain ⟨B2, hS, hX, hK, h0, h1, h2, h3, h4, h5, h6, h7, h8, h9, h10, h11, h12, h13, h14, h15, h16, h17, h18, h19, h20, h26, h27, h28, h34, h35, h36, h43, h44, h45, h53, h54⟩ := hJ
    have e3 := h3 (show l 3 = true by first | exact hd.1 rfl | exact hd.2.1 rfl | exact hd.2.2.1 rfl | exact hd.2.2.2.1 rfl | exact hd.2.2.2.2.1 rfl | exact hd.2.2.2.2.2.1 rfl)
    refine Runs.of (b := ?bB4) ?eB4 ?_
    case eB4 => simp only [putV, Act.put, List.setIfInBounds_toArray, List.set_cons_zero, List.set_cons_succ, e3]; rfl
    intro K' hK'
    go_simp
    exact hK'.go _ rfl ⟨B2, hS, hX, hK, h0, h1, h2, h3, fun _ => (by first | rfl | exact congrArg (Value.int .u64) HWSN.out), h5, h6, h7, h8, h9, h10, h11, h12, h13, h14, h15, h16, h17, h18, h19, h20, h26, h27, h28, h34, h35, h36, h43, h44, h45, h53, h54⟩
  · intro l x w' hJ hi hd
    obtain ⟨B2, hS, hX, hK, h0, h1, h2, h3, h4, h5, h6, h7, h8, h9, h10, h11, h12, h13, h14, h15, h16, h17, h18, h19, h20, h26, h27, h28, h34, h35, h36, h43, h44, h45, h53, h54⟩ := hJ
    refine Runs.of (b := ?bB5) ?eB5 ?_
    case eB5 => simp only [putV, Act.put, List.setIfInBounds_toArray, List.set_cons_zero, List.set_cons_succ]; rfl
    intro K' hK'
    go_simp
    exact hK'.go _ rfl ⟨B2, hS, hX, hK, h0, h1, h2, h3, h4, fun _ => rfl, h6, h7, h8, h9, h10, h11, h12, h13, h14, h15, h16, h17, h18, h19, h20, h26, h27, h28, h34, h35, h36, h43, h44, h45, h53, h54⟩
  · intro l x w' hJ hi hd
    obtain ⟨B2, hS, hX, hK, h0, h1, h2, h3, h4, h5, h6, h7, h8, h9, h10, h11, h12, h13, h14, h15, h16, h17, h18, h19, h20, h26, h27, h28, h34, h35, h36, h43, h44, h45, h53, h54⟩ := hJ
    have e5 := h5 (show l 5 = true by first | exact hd.1 rfl | exact hd.2.1 rfl | exact hd.2.2.1 rfl | exact hd.2.2.2.1 rfl | exact hd.2.2.2.2.1 rfl | exact hd.2.2.2.2.2.1 rfl)
    have hcut := HC04.out
    refine Runs.of (b := ?bB6) ?eB6 ?_
    case eB6 => simp only [putV, Act.put, List.setIfInBounds_toArray, List.set_cons_zero, List.set_cons_succ, e5]; rfl
    intro K' hK'
    go_simp
    exact hK'.go _ rfl ⟨B2, hS, hX, hK, h0, h1, h2, h3, h4, h5, fun _ => rfl, h7, h8, h9, h10, h11, h12, h13, h14, h15, h16, h17, h18, h19, h20, h26, h27, h28, h34, h35, h36, h43, h44, h45, h53, h54⟩
  · intro l x w' hJ hi hd
    obtain ⟨B2, hS, hX, hK, h0, h1, h2, h3, h4, h5, h6, h7, h8, h9, h10, h11, h12, h13, h14, h15, h16, h17, h18, h19, h20, h26, h27, h28, h34, h35, h36, h43, h44, h45, h53, h54⟩ := hJ
    have e6 := h6 (show l 6 = true by first | exact hd.1 rfl | exact hd.2.1 rfl | exact hd.2.2.1 rfl | exact hd.2.2.2.1 rfl | exact hd.2.2.2.2.1 rfl | exact hd.2.2.2.2.2.1 rfl)
    refine Runs.of (b := ?bB7) ?eB7 ?_
    case eB7 => simp only [putV, Act.put, List.setIfInBounds_toArray, List.set_cons_zero, List.set_cons_succ, e6]; rfl
    intro K' hK'
    go_simp
    refine (sget_any S04 (X.take 4) (Rv.rd (HS04.out w' (HRD.out w' hX)) HLf.out) HYf.out (by rw [HLf.out]; omega) SN HFN.out).mono ?_
    rintro e w2 ⟨rfl, rfl⟩
    go_simp
    exact hK'.go _ rfl ⟨B2, hS, hX, hK, h0, h1, h2, h3, h4, h5, h6, fun _ => rfl, h8, h9, h10, h11, h12, h13, h14, h15, h16, h17, h18, h19, h20, h26, h27, h28, h34, h35, h36, h43, h44, h45, h53, h54⟩
  · intro l x w' hJ hi hd
    obtain ⟨B2, hS, hX, hK, h0, h1, h2, h3, h4, h5, h6, h7, h8, h9, h10, h11, h12, h13, h14, h15, h16, h17, h18, h19, h20, h26, h27, h28, h34, h35, h36, h43, h44, h45, h53, h54⟩ := hJ
    have e4 := h4 (show l 4 = true by first | exact hd.1 rfl | exact hd.2.1 rfl | exact hd.2.2.1 rfl | exact hd.2.2.2.1 rfl | exact hd.2.2.2.2.1 rfl | exact hd.2.2.2.2.2.1 rfl)
    have e7 := h7 (show l 7 = true by first | exact hd.1 rfl | exact hd.2.1 rfl | exact hd.2.2.1 rfl | exact hd.2.2.2.1 rfl | exact hd.2.2.2.2.1 rfl | exact hd.2.2.2.2.2.1 rfl)
    refine Runs.of (b := ?bB8) ?eB8 ?_
    case eB8 => simp only [putV, Act.put, List.setIfInBounds_toArray, List.set_cons_zero, List.set_cons_succ, e4, e7]; rfl
    intro K' hK'
    go_simp
    exact hK'.go _ rfl ⟨B2, hS, hX, hK, h0, h1, h2, h3, h4, h5, h6, h7, fun _ => rfl, h9, h10, h11, h12, h13, h14, h15, h16, h17, h18, h19, h20, h26, h27, h28, h34, h35, h36, h43, h44, h45, h53, h54⟩
  · intro l x w' hJ hi hd
    obtain ⟨B2, hS, hX, hK, h0, h1, h2, h3, h4, h5, h6, h7, h8, h9, h10, h11, h12, h13, h14, h15, h16, h17, h18, h19, h20, h26, h27, h28, h34, h35, h36, h43, h44, h45, h53, h54⟩ := hJ
    have e8 := h8 (show l 8 = true by first | exact hd.1 rfl | exact hd.2.1 rfl | exact hd.2.2.1 rfl | exact hd.2.2.2.1 rfl | exact hd.2.2.2.2.1 rfl | exact hd.2.2.2.2.2.1 rfl)
    refine Runs.of (b := ?bB9) ?eB9 ?_
    case eB9 => simp only [putV, Act.put, List.setIfInBounds_toArray, List.set_cons_zero, List.set_cons_succ, e8]; rfl
    intro K' hK'
    go_simp
    exact hK'.go _ rfl ⟨B2, hS, hX, hK, h0, h1, h2, h3, h4, h5, h6, h7, h8, fun _ => rfl, h10, h11, h12, h13, h14, h15, h16, h17, h18, h19, h20, h26, h27, h28, h34, h35, h36, h43, h44, h45, h53, h54⟩
  · intro l x w' hJ hi hd
    obtain ⟨B2, hS, hX, hK, h0, h1, h2, h3, h4, h5, h6, h7, h8, h9, h10, h11, h12, h13, h14, h15, h16, h17, h18, h19, h20, h26, h27, h28, h34, h35, h36, h43, h44, h45, h53, h54⟩ := hJ
    have e9 := h9 (show l 9 = true by first | exact hd.1 rfl | exact hd.2.1 rfl | exact hd.2.2.1 rfl | exact hd.2.2.2.1 rfl | exact hd.2.2.2.2.1 rfl | exact hd.2.2.2.2.2.1 rfl)
    refine Runs.of (b := ?bB10) ?eB10 ?_
    case eB10 => simp only [putV, Act.put, List.setIfInBounds_toArray, List.set_cons_zero, List.set_cons_succ, e9]; rfl
    intro K' hK'
    go_simp
    exact hK'.go _ rfl ⟨B2, hS, hX, hK, h0, h1, h2, h3, h4, h5, h6, h7, h8, h9, fun _ => rfl, h11, h12, h13, h14, h15, h16, h17, h18, h19, h20, h26, h27, h28, h34, h35, h36, h43, h44, h45, h53, h54⟩
  · intro l x w' hJ hi hd
    obtain ⟨B2, hS, hX, hK, h0, h1, h2, h3, h4, h5, h6, h7, h8, h9, h10, h11, h12, h13, h14, h15, h16, h17, h18, h19, h20, h26, h27, h28, h34, h35, h36, h43, h44, h45, h53, h54⟩ := hJ
    have e9 := h9 (show l 9 = true by first | exact hd.1 rfl | exact hd.2.1 rfl | exact hd.2.2.1 rfl | exact hd.2.2.2.1 rfl | exact hd.2.2.2.2.1 rfl | exact hd.2.2.2.2.2.1 rfl)
    have e10 := h10 (show l 10 = true by first | exact hd.1 rfl | exact hd.2.1 rfl | exact hd.2.2.1 rfl | exact hd.2.2.2.1 rfl | exact hd.2.2.2.2.1 rfl | exact hd.2.2.2.2.2.1 rfl)
    have hcut := HC410.out
    refine Runs.of (b := ?bB11) ?eB11 ?_
    case eB11 => simp only [putV, Act.put, List.setIfInBounds_toArray, List.set_cons_zero, List.set_cons_succ, e9, e10]; rfl
    intro K' hK'
    go_simp
    exact hK'.go _ rfl ⟨B2, hS, hX, hK, h0, h1, h2, h3, h4, h5, h6, h7, h8, h9, h10, fun _ => rfl, h12, h13, h14, h15, h16, h17, h18, h19, h20, h26, h27, h28, h34, h35, h36, h43, h44, h45, h53, h54⟩
  · intro l x w' hJ hi hd
    obtain ⟨B2, hS, hX, hK, h0, h1, h2, h3, h4, h5, h6, h7, h8, h9, h10, h11, h12, h13, h14, h15, h16, h17, h18, h19, h20, h26, h27, h28, h34, h35, h36, h43, h44, h45, h53, h54⟩ := hJ
    have e9 := h9 (show l 9 = true by first | exact hd.1 rfl | exact hd.2.1 rfl | exact hd.2.2.1 rfl | exact hd.2.2.2.1 rfl | exact hd.2.2.2.2.1 rfl | exact hd.2.2.2.2.2.1 rfl)
    have e11 := h11 (show l 11 = true by first | exact hd.1 rfl | exact hd.2.1 rfl | exact hd.2.2.1 rfl | exact hd.2.2.2.1 rfl | exact hd.2.2.2.2.1 rfl | exact hd.2.2.2.2.2.1 rfl)
    refine Runs.of (b := ?bB12) ?eB12 ?_
    case eB12 => simp only [putV, Act.put, List.setIfInBounds_toArray, List.set_cons_zero, List.set_cons_succ, e9, e11]; rfl
    intro K' hK'
    go_simp
    refine (sget_any S410 ((X.drop 4).take 6) (Rv.rd (HS410.out w' (HRD.out w' hX)) HLg.out) HYg.out (by rw [HLg.out]; omega) GN HGN.out).mono ?_
    rintro e w2 ⟨rfl, rfl⟩
    go_simp
    exact hK'.go _ rfl ⟨B2, hS, hX, hK, h0, h1, h2, h3, h4, h5, h6, h7, h8, h9, h10, h11, fun _ => rfl, h13, h14, h15, h16, h17, h18, h19, h20, h26, h27, h28, h34, h35, h36, h43, h44, h45, h53, h54⟩
  · intro l x w' hJ hi hd
    obtain ⟨B2, hS, hX, hK, h0, h1, h2, h3, h4, h5, h6, h7, h8, h9, h10, h11, h12, h13, h14, h15, h16, h17, h18, h19, h20, h26, h27, h28, h34, h35, h36, h43, h44, h45, h53, h54⟩ := hJ
    have e9 := h9 (show l 9 = true by first | exact hd.1 rfl | exact hd.2.1 rfl | exact hd.2.2.1 rfl | exact hd.2.2.2.1 rfl | exact hd.2.2.2.2.1 rfl | exact hd.2.2.2.2.2.1 rfl)
    have e12 := h12 (show l 12 = true by first | exact hd.1 rfl | exact hd.2.1 rfl | exact hd.2.2.1 rfl | exact hd.2.2.2.1 rfl | exact hd.2.2.2.2.1 rfl | exact hd.2.2.2.2.2.1 rfl)
    refine Runs.of (b := ?bB13) ?eB13 ?_
    case eB13 => simp only [putV, Act.put, List.setIfInBounds_toArray, List.set_cons_zero, List.set_cons_succ, e9, e12]; rfl
    intro K' hK'
    go_simp
    exact hK'.go _ rfl ⟨B2, hS, hX, hK, h0, h1, h2, h3, h4, h5, h6, h7, h8, h9, h10, h11, h12, fun _ => (by first | rfl | exact congrArg (Value.int .i64) HWGN.out), h14, h15, h16, h17, h18, h19, h20, h26, h27, h28, h34, h35, h36, h43, h44, h45, h53, h54⟩
  · intro l x w' hJ hi hd
    obtain ⟨B2, hS, hX, hK, h0, h1, h2, h3, h4, h5, h6, h7, h8, h9, h10, h11, h12, h13, h14, h15, h16, h17, h18, h19, h20, h26, h27, h28, h34, h35, h36, h43, h44, h45, h53, h54⟩ := hJ
    have e9 := h9 (show l 9 = true by first | exact hd.1 rfl | exact hd.2.1 rfl | exact hd.2.2.1 rfl | exact hd.2.2.2.1 rfl | exact hd.2.2.2.2.1 rfl | exact hd.2.2.2.2.2.1 rfl)
    refine Runs.of (b := ?bB14) ?eB14 ?_
    case eB14 => simp only [putV, Act.put, List.setIfInBounds_toArray, List.set_cons_zero, List.set_cons_succ, e9]; rfl
    intro K' hK'
    go_simp
    exact hK'.go _ rfl ⟨B2, hS, hX, hK, h0, h1, h2, h3, h4, h5, h6, h7, h8, h9, h10, h11, h12, h13, fun _ => rfl, h15, h16, h17, h18, h19, h20, h26, h27, h28, h34, h35, h36, h43, h44, h45, h53, h54⟩
  · intro l x w' hJ hi hd
    obtain ⟨B2, hS, hX, hK, h0, h1, h2, h3, h4, h5, h6, h7, h8, h9, h10, h11, h12, h13, h14, h15, h16, h17, h18, h19, h20, h26, h27, h28, h34, h35, h36, h43, h44, h45, h53, h54⟩ := hJ
    have e9 := h9 (show l 9 = true by first | exact hd.1 rfl | exact hd.2.1 rfl | exact hd.2.2.1 rfl | exact hd.2.2.2.1 rfl | exact hd.2.2.2.2.1 rfl | exact hd.2.2.2.2.2.1 rfl)
    have e14 := h14 (show l 14 = true by first | exact hd.1 rfl | exact hd.2.1 rfl | exact hd.2.2.1 rfl | exact hd.2.2.2.1 rfl | exact hd.2.2.2.2.1 rfl | exact hd.2.2.2.2.2.1 rfl)
    refine Runs.of (b := ?bB15) ?eB15 ?_
    case eB15 => simp only [putV, Act.put, List.setIfInBounds_toArray, List.set_cons_zero, List.set_cons_succ, e9, e14]; rfl
    intro K' hK'
    go_simp
    exact hK'.go _ rfl ⟨B2, hS, hX, hK, h0, h1, h2, h3, h4, h5, h6, h7, h8, h9, h10, h11, h12, h13, h14, fun _ => rfl, h16, h17, h18, h19, h20, h26, h27, h28, h34, h35, h36, h43, h44, h45, h53, h54⟩
  · intro l x w' hJ hi hd
    obtain ⟨B2, hS, hX, hK, h0, h1, h2, h3, h4, h5, h6, h7, h8, h9, h10, h11, h12, h13, h14, h15, h16, h17, h18, h19, h20, h26, h27, h28, h34, h35, h36, h43, h44, h45, h53, h54⟩ := hJ
    have e9 := h9 (show l 9 = true by first | exact hd.1 rfl | exact hd.2.1 rfl | exact hd.2.2.1 rfl | exact hd.2.2.2.1 rfl | exact hd.2.2.2.2.1 rfl | exact hd.2.2.2.2.2.1 rfl)
    have e15 := h15 (show l 15 = true by first | exact hd.1 rfl | exact hd.2.1 rfl | exact hd.2.2.1 rfl | exact hd.2.2.2.1 rfl | exact hd.2.2.2.2.1 rfl | exact hd.2.2.2.2.2.1 rfl)
    refine Runs.of (b := ?bB16) ?eB16 ?_
    case eB16 => simp only [putV, Act.put, List.setIfInBounds_toArray, List.set_cons_zero, List.set_cons_succ, e9, e15]; rfl
    intro K' hK'
    go_simp
    exact hK'.go _ rfl ⟨B2, hS, hX, hK, h0, h1, h2, h3, h4, h5, h6, h7, h8, h9, h10, h11, h12, h13, h14, h15, fun _ => rfl, h17, h18, h19, h20, h26, h27, h28, h34, h35, h36, h43, h44, h45, h53, h54⟩
  · intro l x w' hJ hi hd
    obtain ⟨B2, hS, hX, hK, h0, h1, h2, h3, h4, h5, h6, h7, h8, h9, h10, h11, h12, h13, h14, h15, h16, h17, h18, h19, h20, h26, h27, h28, h34, h35, h36, h43, h44, h45, h53, h54⟩ := hJ
    have e9 := h9 (show l 9 = true by first | exact hd.1 rfl | exact hd.2.1 rfl | exact hd.2.2.1 rfl | exact hd.2.2.2.1 rfl | exact hd.2.2.2.2.1 rfl | exact hd.2.2.2.2.2.1 rfl)
    have e16 := h16 (show l 16 = true by first | exact hd.1 rfl | exact hd.2.1 rfl | exact hd.2.2.1 rfl | exact hd.2.2.2.1 rfl | exact hd.2.2.2.2.1 rfl | exact hd.2.2.2.2.2.1 rfl)
    have c0 := seg_0 hS
    refine Runs.of (b := ?bB17) ?eB17 ?_
    case eB17 => simp only [putV, Act.put, List.setIfInBounds_toArray, List.set_cons_zero, List.set_cons_succ, e9, e16]; rfl
    intro K' hK'
    go_simp
    exact hK'.go _ rfl ⟨B2, hS, hX, hK, h0, h1, h2, h3, h4, h5, h6, h7, h8, h9, h10, h11, h12, h13, h14, h15, h16, fun _ => rfl, h18, h19, h20, h26, h27, h28, h34, h35, h36, h43, h44, h45, h53, h54⟩
  · intro l x w' hJ hi hd
    obtain ⟨B2, hS, hX, hK, h0, h1, h2, h3, h4, h5, h6, h7, h8, h9, h10, h11, h12, h13, h14, h15, h16, h17, h18, h19, h20, h26, h27, h28, h34, h35, h36, h43, h44, h45, h53, h54⟩ := hJ
    have e9 := h9 (show l 9 = true by first | exact hd.1 rfl | exact hd.2.1 rfl | exact hd.2.2.1 rfl | exact hd.2.2.2.1 rfl | exact hd.2.2.2.2.1 rfl | exact hd.2.2.2.2.2.1 rfl)
    have e13 := h13 (show l 13 = true by first | exact hd.1 rfl | exact hd.2.1 rfl | exact hd.2.2.1 rfl | exact hd.2.2.2.1 rfl | exact hd.2.2.2.2.1 rfl | exact hd.2.2.2.2.2.1 rfl)
    have e17 := h17 (show l 17 = true by first | exact hd.1 rfl | exact hd.2.1 rfl | exact hd.2.2.1 rfl | exact hd.2.2.2.1 rfl | exact hd.2.2.2.2.1 rfl | exact hd.2.2.2.2.2.1 rfl)
    have q := Q18.out
    refine Runs.of (b := ?bB18) ?eB18 ?_
    case eB18 => simp only [putV, Act.put, List.setIfInBounds_toArray, List.set_cons_zero, List.set_cons_succ, e9, e13, e17]; rfl
    intro K' hK'
    go_simp
    exact hK'.go _ rfl ⟨B2, hS, hX, hK, h0, h1, h2, h3, h4, h5, h6, h7, h8, h9, h10, h11, h12, h13, h14, h15, h16, h17, fun _ => rfl, h19, h20, h26, h27, h28, h34, h35, h36, h43, h44, h45, h53, h54⟩
  · intro l x w' hJ hi hd
    obtain ⟨B2, hS, hX, hK, h0, h1, h2, h3, h4, h5, h6, h7, h8, h9, h10, h11, h12, h13, h14, h15, h16, h17, h18, h19, h20, h26, h27, h28, h34, h35, h36, h43, h44, h45, h53, h54⟩ := hJ
    have e9 := h9 (show l 9 = true by first | exact hd.1 rfl | exact hd.2.1 rfl | exact hd.2.2.1 rfl | exact hd.2.2.2.1 rfl | exact hd.2.2.2.2.1 rfl | exact hd.2.2.2.2.2.1 rfl)
    have e18 := h18 (show l 18 = true by first | exact hd.1 rfl | exact hd.2.1 rfl | exact hd.2.2.1 rfl | exact hd.2.2.2.1 rfl | exact hd.2.2.2.2.1 rfl | exact hd.2.2.2.2.2.1 rfl)
    refine Runs.of (b := ?bB19) ?eB19 ?_
    case eB19 => simp only [putV, Act.put, List.setIfInBounds_toArray, List.set_cons_zero, List.set_cons_succ, e9, e18]; rfl
    intro K' hK'
    go_simp
    exact hK'.go _ rfl ⟨B2, hS, hX, hK, h0, h1, h2, h3, h4, h5, h6, h7, h8, h9, h10, h11, h12, h13, h14, h15, h16, h17, h18, fun _ => rfl, h20, h26, h27, h28, h34, h35, h36, h43, h44, h45, h53, h54⟩
  · intro l x w' hJ hi hd
    obtain ⟨B2, hS, hX, hK, h0, h1, h2, h3, h4, h5, h6, h7, h8, h9, h10, h11, h12, h13, h14, h15, h16, h17, h18, h19, h20, h26, h27, h28, h34, h35, h36, h43, h44, h45, h53, h54⟩ := hJ
    have e19 := h19 (show l 19 = true by first | exact hd.1 rfl | exact hd.2.1 rfl | exact hd.2.2.1 rfl | exact hd.2.2.2.1 rfl | exact hd.2.2.2.2.1 rfl | exact hd.2.2.2.2.2.1 rfl)
    refine Runs.of (b := ?bB20) ?eB20 ?_
    case eB20 => simp only [putV, Act.put, List.setIfInBounds_toArray, List.set_cons_zero, List.set_cons_succ, e19]; rfl
    intro K' hK'
    go_simp
    exact hK'.go _ rfl ⟨B2, hS, hX, hK, h0, h1, h2, h3, h4, h5, h6, h7, h8, h9, h10, h11, h12, h13, h14, h15, h16, h17, h18, h19, fun _ => rfl, h26, h27, h28, h34, h35, h36, h43, h44, h45, h53, h54⟩
  · intro l x w' hJ hi hd
    obtain ⟨B2, hS, hX, hK, h0, h1, h2, h3, h4, h5, h6, h7, h8, h9, h10, h11, h12, h13, h14, h15, h16, h17, h18, h19, h20, h26, h27, h28, h34, h35, h36, h43, h44, h45, h53, h54⟩ := hJ
    have e20 := h20 (show l 20 = true by first | exact hd.1 rfl | exact hd.2.1 rfl | exact hd.2.2.1 rfl | exact hd.2.2.2.1 rfl | exact hd.2.2.2.2.1 rfl | exact hd.2.2.2.2.2.1 rfl)
    refine Runs.of (b := ?bB21) ?eB21 ?_
    case eB21 => simp only [putV, Act.put, List.setIfInBounds_toArray, List.set_cons_zero, List.set_cons_succ, e20]; rfl
    intro K' hK'
    go_simp
    exact hK'.go undef rfl ⟨B2, hS, hX, hK, h0, h1, h2, h3, h4, h5, h6, h7, h8, h9, h10, h11, h12, h13, h14, h15, h16, h17, h18, h19, h20, h26, h27, h28, h34, h35, h36, h43, h44, h45, h53, h54⟩
  · intro l x w' hJ hi hd
    obtain ⟨B2, hS, hX, hK, h0, h1, h2, h3, h4, h5, h6, h7, h8, h9, h10, h11, h12, h13, h14, h15, h16, h17, h18, h19, h20, h26, h27, h28, h34, h35, h36, h43, h44, h45, h53, h54⟩ := hJ
    have e20 := h20 (show l 20 = true by first | exact hd.1 rfl | exact hd.2.1 rfl | exact hd.2.2.1 rfl | exact hd.2.2.2.1 rfl | exact hd.2.2.2.2.1 rfl | exact hd.2.2.2.2.2.1 rfl)
    refine Runs.of (b := ?bB22) ?eB22 ?_
    case eB22 => simp only [putV, Act.put, List.setIfInBounds_toArray, List.set_cons_zero, List.set_cons_succ, e20]; rfl
    intro K' hK'
    go_simp
    exact hK'.go undef rfl ⟨B2, hS, hX, hK, h0, h1, h2, h3, h4, h5, h6, h7, h8, h9, h10, h11, h12, h13, h14, h15, h16, h17, h18, h19, h20, h26, h27, h28, h34, h35, h36, h43, h44, h45, h53, h54⟩
  · intro l x w' hJ hi hd
    obtain ⟨B2, hS, hX, hK, h0, h1, h2, h3, h4, h5, h6, h7, h8, h9, h10, h11, h12, h13, h14, h15, h16, h17, h18, h19, h20, h26, h27, h28, h34, h35, h36, h43, h44, h45, h53, h54⟩ := hJ
    have e20 := h20 (show l 20 = true by first | exact hd.1 rfl | exact hd.2.1 rfl | exact hd.2.2.1 rfl | exact hd.2.2.2.1 rfl | exact hd.2.2.2.2.1 rfl | exact hd.2.2.2.2.2.1 rfl)
    refine Runs.of (b := ?bB23) ?eB23 ?_
    case eB23 => simp only [putV, Act.put, List.setIfInBounds_toArray, List.set_cons_zero, List.set_cons_succ, e20]; rfl
    intro K' hK'
    go_simp
    exact hK'.go undef rfl ⟨B2, hS, hX, hK, h0, h1, h2, h3, h4, h5, h6, h7, h8, h9, h10, h11, h12, h13, h14, h15, h16, h17, h18, h19, h20, h26, h27, h28, h34, h35, h36, h43, h44, h45, h53, h54⟩
  · intro l x w' hJ hi hd
    obtain ⟨B2, hS, hX, hK, h0, h1, h2, h3, h4, h5, h6, h7, h8, h9, h10, h11, h12, h13, h14, h15, h16, h17, h18, h19, h20, h26, h27, h28, h34, h35, h36, h43, h44, h45, h53, h54⟩ := hJ
    have e20 := h20 (show l 20 = true by first | exact hd.1 rfl | exact hd.2.1 rfl | exact hd.2.2.1 rfl | exact hd.2.2.2.1 rfl | exact hd.2.2.2.2.1 rfl | exact hd.2.2.2.2.2.1 rfl)
    refine Runs.of (b := ?bB24) ?eB24 ?_
    case eB24 => simp only [putV, Act.put, List.setIfInBounds_toArray, List.set_cons_zero, List.set_cons_succ, e20]; rfl
    intro K' hK'
    go_simp
    exact hK'.go undef rfl ⟨B2, hS, hX, hK, h0, h1, h2, h3, h4, h5, h6, h7, h8, h9, h10, h11, h12, h13, h14, h15, h16, h17, h18, h19, h20, h26, h27, h28, h34, h35, h36, h43, h44, h45, h53, h54⟩
  · intro l x w' hJ hi hd
    obtain ⟨B2, hS, hX, hK, h0, h1, h2, h3, h4, h5, h6, h7, h8, h9, h10, h11, h12, h13, h14, h15, h16, h17, h18, h19, h20, h26, h27, h28, h34, h35, h36, h43, h44, h45, h53, h54⟩ := hJ
    have e20 := h20 (show l 20 = true by first | exact hd.1 rfl | exact hd.2.1 rfl | exact hd.2.2.1 rfl | exact hd.2.2.2.1 rfl | exact hd.2.2.2.2.1 rfl | exact hd.2.2.2.2.2.1 rfl)
    refine Runs.of (b := ?bB25) ?eB25 ?_
    case eB25 => simp only [putV, Act.put, List.setIfInBounds_toArray, List.set_cons_zero, List.set_cons_succ, e20]; rfl
    intro K' hK'
    go_simp
    exact hK'.go undef rfl ⟨B2, hS, hX, hK, h0, h1, h2, h3, h4, h5, h6, h7, h8, h9, h10, h11, h12, h13, h14, h15, h16, h17, h18, h19, h20, h26, h27, h28, h34, h35, h36, h43, h44, h45, h53, h54⟩
  · intro l x w' hJ hi hd
    obtain ⟨B2, hS, hX, hK, h0, h1, h2, h3, h4, h5, h6, h7, h8, h9, h10, h11, h12, h13, h14, h15, h16, h17, h18, h19, h20, h26, h27, h28, h34, h35, h36, h43, h44, h45, h53, h54⟩ := hJ
    have e20 := h20 (show l 20 = true by first | exact hd.1 rfl | exact hd.2.1 rfl | exact hd.2.2.1 rfl | exact hd.2.2.2.1 rfl | exact hd.2.2.2.2.1 rfl | exact hd.2.2.2.2.2.1 rfl)
    refine Runs.of (b := ?bB26) ?eB26 ?_
    case eB26 => simp only [putV, Act.put, List.setIfInBounds_toArray, List.set_cons_zero, List.set_cons_succ, e20]; rfl
    intro K' hK'
    go_simp
    exact hK'.go undef rfl ⟨B2, hS, hX, hK, h0, h1, h2, h3, h4, h5, h6, h7, h8, h9, h10, h11, h12, h13, h14, h15, h16, h17, h18, h19, h20, fun _ => rfl, h27, h28, h34, h35, h36, h43, h44, h45, h53, h54⟩
  · intro l x w' hJ hi hd
    obtain ⟨B2, hS, hX, hK, h0, h1, h2, h3, h4, h5, h6, h7, h8, h9, h10, h11, h12, h13, h14, h15, h16, h17, h18, h19, h20, h26, h27, h28, h34, h35, h36, h43, h44, h45, h53, h54⟩ := hJ
    have e20 := h20 (show l 20 = true by first | exact hd.1 rfl | exact hd.2.1 rfl | exact hd.2.2.1 rfl | exact hd.2.2.2.1 rfl | exact hd.2.2.2.2.1 rfl | exact hd.2.2.2.2.2.1 rfl)
    have e26 := h26 (show l 26 = true by first | exact hd.1 rfl | exact hd.2.1 rfl | exact hd.2.2.1 rfl | exact hd.2.2.2.1 rfl | exact hd.2.2.2.2.1 rfl | exact hd.2.2.2.2.2.1 rfl)
    refine Runs.of (b := ?bB27) ?eB27 ?_
    case eB27 => simp only [putV, Act.put, List.setIfInBounds_toArray, List.set_cons_zero, List.set_cons_succ, e20, e26]; rfl
    intro K' hK'
    go_simp
    exact hK'.go _ rfl ⟨B2, hS, hX, hK, h0, h1, h2, h3, h4, h5, h6, h7, h8, h9, h10, h11, h12, h13, h14, h15, h16, h17, h18, h19, h20, h26, fun _ => rfl, h28, h34, h35, h36, h43, h44, h45, h53, h54⟩
  · intro l x w' hJ hi hd
    obtain ⟨B2, hS, hX, hK, h0, h1, h2, h3, h4, h5, h6, h7, h8, h9, h10, h11, h12, h13, h14, h15, h16, h17, h18, h19, h20, h26, h27, h28, h34, h35, h36, h43, h44, h45, h53, h54⟩ := hJ
    have e27 := h27 (show l 27 = true by first | exact hd.1 rfl | exact hd.2.1 rfl | exact hd.2.2.1 rfl | exact hd.2.2.2.1 rfl | exact hd.2.2.2.2.1 rfl | exact hd.2.2.2.2.2.1 rfl)
    refine Runs.of (b := ?bB28) ?eB28 ?_
    case eB28 => simp only [putV, Act.put, List.setIfInBounds_toArray, List.set_cons_zero, List.set_cons_succ, e27]; rfl
    intro K' hK'
    go_simp
    exact hK'.go _ rfl ⟨B2, hS, hX, hK, h0, h1, h2, h3, h4, h5, h6, h7, h8, h9, h10, h11, h12, h13, h14, h15, h16, h17, h18, h19, h20, h26, h27, fun _ => rfl, h34, h35, h36, h43, h44, h45, h53, h54⟩
  · intro l x w' hJ hi hd
    obtain ⟨B2, hS, hX, hK, h0, h1, h2, h3, h4, h5, h6, h7, h8, h9, h10, h11, h12, h13, h14, h15, h16, h17, h18, h19, h20, h26, h27, h28, h34, h35, h36, h43, h44, h45, h53, h54⟩ := hJ
    have e28 := h28 (show l 28 = true by first | exact hd.1 rfl | exact hd.2.1 rfl | exact hd.2.2.1 rfl | exact hd.2.2.2.1 rfl | exact hd.2.2.2.2.1 rfl | exact hd.2.2.2.2.2.1 rfl)
    refine Runs.of (b := ?bB29) ?eB29 ?_
    case eB29 => simp only [putV, Act.put, List.setIfInBounds_toArray, List.set_cons_zero, List.set_cons_succ, e28]; rfl
    intro K' hK'
    go_simp
    exact hK'.go undef rfl ⟨B2, hS, hX, hK, h0, h1, h2, h3, h4, h5, h6, h7, h8, h9, h10, h11, h12, h13, h14, h15, h16, h17, h18, h19, h20, h26, h27, h28, h34, h35, h36, h43, h44, h45, h53, h54⟩
  · intro l x w' hJ hi hd
    obtain ⟨B2, hS, hX, hK, h0, h1, h2, h3, h4, h5, h6, h7, h8, h9, h10, h11, h12, h13, h14, h15, h16, h17, h18, h19, h20, h26, h27, h28, h34, h35, h36, h43, h44, h45, h53, h54⟩ := hJ
    have e28 := h28 (show l 28 = true by first | exact hd.1 rfl | exact hd.2.1 rfl | exact hd.2.2.1 rfl | exact hd.2.2.2.1 rfl | exact hd.2.2.2.2.1 rfl | exact hd.2.2.2.2.2.1 rfl)
    refine Runs.of (b := ?bB30) ?eB30 ?_
    case eB30 => simp only [putV, Act.put, List.setIfInBounds_toArray, List.set_cons_zero, List.set_cons_succ, e28]; rfl
    intro K' hK'
    go_simp
    exact hK'.go undef rfl ⟨B2, hS, hX, hK, h0, h1, h2, h3, h4, h5, h6, h7, h8, h9, h10, h11, h12, h13, h14, h15, h16, h17, h18, h19, h20, h26, h27, h28, h34, h35, h36, h43, h44, h45, h53, h54⟩
  · intro l x w' hJ hi hd
    obtain ⟨B2, hS, hX, hK, h0, h1, h2, h3, h4, h5, h6, h7, h8, h9, h10, h11, h12, h13, h14, h15, h16, h17, h18, h19, h20, h26, h27, h28, h34, h35, h36, h43, h44, h45, h53, h54⟩ := hJ
    have e28 := h28 (show l 28 = true by first | exact hd.1 rfl | exact hd.2.1 rfl | exact hd.2.2.1 rfl | exact hd.2.2.2.1 rfl | exact hd.2.2.2.2.1 rfl | exact hd.2.2.2.2.2.1 rfl)
    refine Runs.of (b := ?bB31) ?eB31 ?_
    case eB31 => simp only [putV, Act.put, List.setIfInBounds_toArray, List.set_cons_zero, List.set_cons_succ, e28]; rfl
    intro K' hK'
    go_simp
    exact hK'.go undef rfl ⟨B2, hS, hX, hK, h0, h1, h2, h3, h4, h5, h6, h7, h8, h9, h10, h11, h12, h13, h14, h15, h16, h17, h18, h19, h20, h26, h27, h28, h34, h35, h36, h43, h44, h45, h53, h54⟩
  · intro l x w' hJ hi hd
    obtain ⟨B2, hS, hX, hK, h0, h1, h2, h3, h4, h5, h6, h7, h8, h9, h10, h11, h12, h13, h14, h15, h16, h17, h18, h19, h20, h26, h27, h28, h34, h35, h36, h43, h44, h45, h53, h54⟩ := hJ
    have e28 := h28 (show l 28 = true by first | exact hd.1 rfl | exact hd.2.1 rfl | exact hd.2.2.1 rfl | exact hd.2.2.2.1 rfl | exact hd.2.2.2.2.1 rfl | exact hd.2.2.2.2.2.1 rfl)
    refine Runs.of (b := ?bB32) ?eB32 ?_
    case eB32 => simp only [putV, Act.put, List.setIfInBounds_toArray, List.set_cons_zero, List.set_cons_succ, e28]; rfl
    intro K' hK'
    go_simp
    exact hK'.go undef rfl ⟨B2, hS, hX, hK, h0, h1, h2, h3, h4, h5, h6, h7, h8, h9, h10, h11, h12, h13, h14, h15, h16, h17, h18, h19, h20, h26, h27, h28, h34, h35, h36, h43, h44, h45, h53, h54⟩
  · intro l x w' hJ hi hd
    obtain ⟨B2, hS, hX, hK, h0, h1, h2, h3, h4, h5, h6, h7, h8, h9, h10, h11, h12, h13, h14, h15, h16, h17, h18, h19, h20, h26, h27, h28, h34, h35, h36, h43, h44, h45, h53, h54⟩ := hJ
    have e28 := h28 (show l 28 = true by first | exact hd.1 rfl | exact hd.2.1 rfl | exact hd.2.2.1 rfl | exact hd.2.2.2.1 rfl | exact hd.2.2.2.2.1 rfl | exact hd.2.2.2.2.2.1 rfl)
    refine Runs.of (b := ?bB33) ?eB33 ?_
    case eB33 => simp only [putV, Act.put, List.setIfInBounds_toArray, List.set_cons_zero, List.set_cons_succ, e28]; rfl
    intro K' hK'
    go_simp
    exact hK'.go undef rfl ⟨B2, hS, hX, hK, h0, h1, h2, h3, h4, h5, h6, h7, h8, h9, h10, h11, h12, h13, h14, h15, h16, h17, h18, h19, h20, h26, h27, h28, h34, h35, h36, h43, h44, h45, h53, h54⟩
  · intro l x w' hJ hi hd
    obtain ⟨B2, hS, hX, hK, h0, h1, h2, h3, h4, h5, h6, h7, h8, h9, h10, h11, h12, h13, h14, h15, h16, h17, h18, h19, h20, h26, h27, h28, h34, h35, h36, h43, h44, h45, h53, h54⟩ := hJ
    have e28 := h28 (show l 28 = true by first | exact hd.1 rfl | exact hd.2.1 rfl | exact hd.2.2.1 rfl | exact hd.2.2.2.1 rfl | exact hd.2.2.2.2.1 rfl | exact hd.2.2.2.2.2.1 rfl)
    refine Runs.of (b := ?bB34) ?eB34 ?_
    case eB34 => simp only [putV, Act.put, List.setIfInBounds_toArray, List.set_cons_zero, List.set_cons_succ, e28]; rfl
    intro K' hK'
    go_simp
    exact hK'.go undef rfl ⟨B2, hS, hX, hK, h0, h1, h2, h3, h4, h5, h6, h7, h8, h9, h10, h11, h12, h13, h14, h15, h16, h17, h18, h19, h20, h26, h27, h28, fun _ => rfl, h35, h36, h43, h44, h45, h53, h54⟩
  · intro l x w' hJ hi hd
    obtain ⟨B2, hS, hX, hK, h0, h1, h2, h3, h4, h5, h6, h7, h8, h9, h10, h11, h12, h13, h14, h15, h16, h17, h18, h19, h20, h26, h27, h28, h34, h35, h36, h43, h44, h45, h53, h54⟩ := hJ
    have e28 := h28 (show l 28 = true by first | exact hd.1 rfl | exact hd.2.1 rfl | exact hd.2.2.1 rfl | exact hd.2.2.2.1 rfl | exact hd.2.2.2.2.1 rfl | exact hd.2.2.2.2.2.1 rfl)
    have e34 := h34 (show l 34 = true by first | exact hd.1 rfl | exact hd.2.1 rfl | exact hd.2.2.1 rfl | exact hd.2.2.2.1 rfl | exact hd.2.2.2.2.1 rfl | exact hd.2.2.2.2.2.1 rfl)
    refine Runs.of (b := ?bB35) ?eB35 ?_
    case eB35 => simp only [putV, Act.put, List.setIfInBounds_toArray, List.set_cons_zero, List.set_cons_succ, e28, e34]; rfl
    intro K' hK'
    go_simp
    exact hK'.go _ rfl ⟨B2, hS, hX, hK, h0, h1, h2, h3, h4, h5, h6, h7, h8, h9, h10, h11, h12, h13, h14, h15, h16, h17, h18, h19, h20, h26, h27, h28, h34, fun _ => rfl, h36, h43, h44, h45, h53, h54⟩
  · intro l x w' hJ hi hd
    obtain ⟨B2, hS, hX, hK, h0, h1, h2, h3, h4, h5, h6, h7, h8, h9, h10, h11, h12, h13, h14, h15, h16, h17, h18, h19, h20, h26, h27, h28, h34, h35, h36, h43, h44, h45, h53, h54⟩ := hJ
    have e35 := h35 (show l 35 = true by first | exact hd.1 rfl | exact hd.2.1 rfl | exact hd.2.2.1 rfl | exact hd.2.2.2.1 rfl | exact hd.2.2.2.2.1 rfl | exact hd.2.2.2.2.2.1 rfl)
    refine Runs.of (b := ?bB36) ?eB36 ?_
    case eB36 => simp only [putV, Act.put, List.setIfInBounds_toArray, List.set_cons_zero, List.set_cons_succ, e35]; rfl
    intro K' hK'
    go_simp
    exact hK'.go _ rfl ⟨B2, hS, hX, hK, h0, h1, h2, h3, h4, h5, h6, h7, h8, h9, h10, h11, h12, h13, h14, h15, h16, h17, h18, h19, h20, h26, h27, h28, h34, h35, fun _ => rfl, h43, h44, h45, h53, h54⟩
  · intro l x w' hJ hi hd
    obtain ⟨B2, hS, hX, hK, h0, h1, h2, h3, h4, h5, h6, h7, h8, h9, h10, h11, h12, h13, h14, h15, h16, h17, h18, h19, h20, h26, h27, h28, h34, h35, h36, h43, h44, h45, h53, h54⟩ := hJ
    have e36 := h36 (show l 36 = true by first | exact hd.1 rfl | exact hd.2.1 rfl | exact hd.2.2.1 rfl | exact hd.2.2.2.1 rfl | exact hd.2.2.2.2.1 rfl | exact hd.2.2.2.2.2.1 rfl)
    refine Runs.of (b := ?bB37) ?eB37 ?_
    case eB37 => simp only [putV, Act.put, List.setIfInBounds_toArray, List.set_cons_zero, List.set_cons_succ, e36]; rfl
    intro K' hK'
    go_simp
    exact hK'.go undef rfl ⟨B2, hS, hX, hK, h0, h1, h2, h3, h4, h5, h6, h7, h8, h9, h10, h11, h12, h13, h14, h15, h16, h17, h18, h19, h20, h26, h27, h28, h34, h35, h36, h43, h44, h45, h53, h54⟩
  · intro l x w' hJ hi hd
    obtain ⟨B2, hS, hX, hK, h0, h1, h2, h3, h4, h5, h6, h7, h8, h9, h10, h11, h12, h13, h14, h15, h16, h17, h18, h19, h20, h26, h27, h28, h34, h35, h36, h43, h44, h45, h53, h54⟩ := hJ
    have e36 := h36 (show l 36 = true by first | exact hd.1 rfl | exact hd.2.1 rfl | exact hd.2.2.1 rfl | exact hd.2.2.2.1 rfl | exact hd.2.2.2.2.1 rfl | exact hd.2.2.2.2.2.1 rfl)
    refine Runs.of (b := ?bB38) ?eB38 ?_
    case eB38 => simp only [putV, Act.put, List.setIfInBounds_toArray, List.set_cons_zero, List.set_cons_succ, e36]; rfl
    intro K' hK'
    go_simp
    exact hK'.go undef rfl ⟨B2, hS, hX, hK, h0, h1, h2, h3, h4, h5, h6, h7, h8, h9, h10, h11, h12, h13, h14, h15, h16, h17, h18, h19, h20, h26, h27, h28, h34, h35, h36, h43, h44, h45, h53, h54⟩
  · intro l x w' hJ hi hd
    obtain ⟨B2, hS, hX, hK, h0, h1, h2, h3, h4, h5, h6, h7, h8, h9, h10, h11, h12, h13, h14, h15, h16, h17, h18, h19, h20, h26, h27, h28, h34, h35, h36, h43, h44, h45, h53, h54⟩ := hJ
    have e36 := h36 (show l 36 = true by first | exact hd.1 rfl | exact hd.2.1 rfl | exact hd.2.2.1 rfl | exact hd.2.2.2.1 rfl | exact hd.2.2.2.2.1 rfl | exact hd.2.2.2.2.2.1 rfl)
    refine Runs.of (b := ?bB39) ?eB39 ?_
    case eB39 => simp only [putV, Act.put, List.setIfInBounds_toArray, List.set_cons_zero, List.set_cons_succ, e36]; rfl
    intro K' hK'
    go_simp
    exact hK'.go undef rfl ⟨B2, hS, hX, hK, h0, h1, h2, h3, h4, h5, h6, h7, h8, h9, h10, h11, h12, h13, h14, h15, h16, h17, h18, h19, h20, h26, h27, h28, h34, h35, h36, h43, h44, h45, h53, h54⟩
  · intro l x w' hJ hi hd
    obtain ⟨B2, hS, hX, hK, h0, h1, h2, h3, h4, h5, h6, h7, h8, h9, h10, h11, h12, h13, h14, h15, h16, h17, h18, h19, h20, h26, h27, h28, h34, h35, h36, h43, h44, h45, h53, h54⟩ := hJ
    have e36 := h36 (show l 36 = true by first | exact hd.1 rfl | exact hd.2.1 rfl | exact hd.2.2.1 rfl | exact hd.2.2.2.1 rfl | exact hd.2.2.2.2.1 rfl | exact hd.2.2.2.2.2.1 rfl)
    refine Runs.of (b := ?bB40) ?eB40 ?_
    case eB40 => simp only [putV, Act.put, List.setIfInBounds_toArray, List.set_cons_zero, List.set_cons_succ, e36]; rfl
    intro K' hK'
    go_simp
    exact hK'.go undef rfl ⟨B2, hS, hX, hK, h0, h1, h2, h3, h4, h5, h6, h7, h8, h9, h10, h11, h12, h13, h14, h15, h16, h17, h18, h19, h20, h26, h27, h28, h34, h35, h36, h43, h44, h45, h53, h54⟩
  · intro l x w' hJ hi hd
    obtain ⟨B2, hS, hX, hK, h0, h1, h2, h3, h4, h5, h6, h7, h8, h9, h10, h11, h12, h13, h14, h15, h16, h17, h18, h19, h20, h26, h27, h28, h34, h35, h36, h43, h44, h45, h53, h54⟩ := hJ
    have e36 := h36 (show l 36 = true by first | exact hd.1 rfl | exact hd.2.1 rfl | exact hd.2.2.1 rfl | exact hd.2.2.2.1 rfl | exact hd.2.2.2.2.1 rfl | exact hd.2.2.2.2.2.1 rfl)
    refine Runs.of (b := ?bB41) ?eB41 ?_
    case eB41 => simp only [putV, Act.put, List.setIfInBounds_toArray, List.set_cons_zero, List.set_cons_succ, e36]; rfl
    intro K' hK'
    go_simp
    exact hK'.go undef rfl ⟨B2, hS, hX, hK, h0, h1, h2, h3, h4, h5, h6, h7, h8, h9, h10, h11, h12, h13, h14, h15, h16, h17, h18, h19, h20, h26, h27, h28, h34, h35, h36, h43, h44, h45, h53, h54⟩
  · intro l x w' hJ hi hd
    obtain ⟨B2, hS, hX, hK, h0, h1, h2, h3, h4, h5, h6, h7, h8, h9, h10, h11, h12, h13, h14, h15, h16, h17, h18, h19, h20, h26, h27, h28, h34, h35, h36, h43, h44, h45, h53, h54⟩ := hJ
    have e36 := h36 (show l 36 = true by first | exact hd.1 rfl | exact hd.2.1 rfl | exact hd.2.2.1 rfl | exact hd.2.2.2.1 rfl | exact hd.2.2.2.2.1 rfl | exact hd.2.2.2.2.2.1 rfl)
    refine Runs.of (b := ?bB42) ?eB42 ?_
    case eB42 => simp only [putV, Act.put, List.setIfInBounds_toArray, List.set_cons_zero, List.set_cons_succ, e36]; rfl
    intro K' hK'
    go_simp
    exact hK'.go undef rfl ⟨B2, hS, hX, hK, h0, h1, h2, h3, h4, h5, h6, h7, h8, h9, h10, h11, h12, h13, h14, h15, h16, h17, h18, h19, h20, h26, h27, h28, h34, h35, h36, h43, h44, h45, h53, h54⟩
  · intro l x w' hJ hi hd
    obtain ⟨B2, hS, hX, hK, h0, h1, h2, h3, h4, h5, h6, h7, h8, h9, h10, h11, h12, h13, h14, h15, h16, h17, h18, h19, h20, h26, h27, h28, h34, h35, h36, h43, h44, h45, h53, h54⟩ := hJ
    have e36 := h36 (show l 36 = true by first | exact hd.1 rfl | exact hd.2.1 rfl | exact hd.2.2.1 rfl | exact hd.2.2.2.1 rfl | exact hd.2.2.2.2.1 rfl | exact hd.2.2.2.2.2.1 rfl)
    refine Runs.of (b := ?bB43) ?eB43 ?_
    case eB43 => simp only [putV, Act.put, List.setIfInBounds_toArray, List.set_cons_zero, List.set_cons_succ, e36]; rfl
    intro K' hK'
    go_simp
    exact hK'.go undef rfl ⟨B2, hS, hX, hK, h0, h1, h2, h3, h4, h5, h6, h7, h8, h9, h10, h11, h12, h13, h14, h15, h16, h17, h18, h19, h20, h26, h27, h28, h34, h35, h36, fun _ => rfl, h44, h45, h53, h54⟩
  · intro l x w' hJ hi hd
    obtain ⟨B2, hS, hX, hK, h0, h1, h2, h3, h4, h5, h6, h7, h8, h9, h10, h11, h12, h13, h14, h15, h16, h17, h18, h19, h20, h26, h27, h28, h34, h35, h36, h43, h44, h45, h53, h54⟩ := hJ
    have e36 := h36 (show l 36 = true by first | exact hd.1 rfl | exact hd.2.1 rfl | exact hd.2.2.1 rfl | exact hd.2.2.2.1 rfl | exact hd.2.2.2.2.1 rfl | exact hd.2.2.2.2.2.1 rfl)
    have e43 := h43 (show l 43 = true by first | exact hd.1 rfl | exact hd.2.1 rfl | exact hd.2.2.1 rfl | exact hd.2.2.2.1 rfl | exact hd.2.2.2.2.1 rfl | exact hd.2.2.2.2.2.1 rfl)
    refine Runs.of (b := ?bB44) ?eB44 ?_
    case eB44 => simp only [putV, Act.put, List.setIfInBounds_toArray, List.set_cons_zero, List.set_cons_succ, e36, e43]; rfl
    intro K' hK'
    go_simp
    exact hK'.go _ rfl ⟨B2, hS, hX, hK, h0, h1, h2, h3, h4, h5, h6, h7, h8, h9, h10, h11, h12, h13, h14, h15, h16, h17, h18, h19, h20, h26, h27, h28, h34, h35, h36, h43, fun _ => rfl, h45, h53, h54⟩
  · intro l x w' hJ hi hd
    obtain ⟨B2, hS, hX, hK, h0, h1, h2, h3, h4, h5, h6, h7, h8, h9, h10, h11, h12, h13, h14, h15, h16, h17, h18, h19, h20, h26, h27, h28, h34, h35, h36, h43, h44, h45, h53, h54⟩ := hJ
    have e44 := h44 (show l 44 = true by first | exact hd.1 rfl | exact hd.2.1 rfl | exact hd.2.2.1 rfl | exact hd.2.2.2.1 rfl | exact hd.2.2.2.2.1 rfl | exact hd.2.2.2.2.2.1 rfl)
    refine Runs.of (b := ?bB45) ?eB45 ?_
    case eB45 => simp only [putV, Act.put, List.setIfInBounds_toArray, List.set_cons_zero, List.set_cons_succ, e44]; rfl
    intro K' hK'
    go_simp
    exact hK'.go _ rfl ⟨B2, hS, hX, hK, h0, h1, h2, h3, h4, h5, h6, h7, h8, h9, h10, h11, h12, h13, h14, h15, h16, h17, h18, h19, h20, h26, h27, h28, h34, h35, h36, h43, h44, fun _ => rfl, h53, h54⟩
  · intro l x w' hJ hi hd
    obtain ⟨B2, hS, hX, hK, h0, h1, h2, h3, h4, h5, h6, h7, h8, h9, h10, h11, h12, h13, h14, h15, h16, h17, h18, h19, h20, h26, h27, h28, h34, h35, h36, h43, h44, h45, h53, h54⟩ := hJ
    have e45 := h45 (show l 45 = true by first | exact hd.1 rfl | exact hd.2.1 rfl | exact hd.2.2.1 rfl | exact hd.2.2.2.1 rfl | exact hd.2.2.2.2.1 rfl | exact hd.2.2.2.2.2.1 rfl)
    refine Runs.of (b := ?bB46) ?eB46 ?_
    case eB46 => simp only [putV, Act.put, List.setIfInBounds_toArray, List.set_cons_zero, List.set_cons_succ, e45]; rfl
    intro K' hK'
    go_simp
    exact hK'.go undef rfl ⟨B2, hS, hX, hK, h0, h1, h2, h3, h4, h5, h6, h7, h8, h9, h10, h11, h12, h13, h14, h15, h16, h17, h18, h19, h20, h26, h27, h28, h34, h35, h36, h43, h44, h45, h53, h54⟩
  · intro l x w' hJ hi hd
    obtain ⟨B2, hS, hX, hK, h0, h1, h2, h3, h4, h5, h6, h7, h8, h9, h10, h11, h12, h13, h14, h15, h16, h17, h18, h19, h20, h26, h27, h28, h34, h35, h36, h43, h44, h45, h53, h54⟩ := hJ
    have e45 := h45 (show l 45 = true by first | exact hd.1 rfl | exact hd.2.1 rfl | exact hd.2.2.1 rfl | exact hd.2.2.2.1 rfl | exact hd.2.2.2.2.1 rfl | exact hd.2.2.2.2.2.1 rfl)
    refine Runs.of (b := ?bB47) ?eB47 ?_
    case eB47 => simp only [putV, Act.put, List.setIfInBounds_toArray, List.set_cons_zero, List.set_cons_succ, e45]; rfl
    intro K' hK'
    go_simp
    exact hK'.go undef rfl ⟨B2, hS, hX, hK, h0, h1, h2, h3, h4, h5, h6, h7, h8, h9, h10, h11, h12, h13, h14, h15, h16, h17, h18, h19, h20, h26, h27, h28, h34, h35, h36, h43, h44, h45, h53, h54⟩
  · intro l x w' hJ hi hd
    obtain ⟨B2, hS, hX, hK, h0, h1, h2, h3, h4, h5, h6, h7, h8, h9, h10, h11, h12, h13, h14, h15, h16, h17, h18, h19, h20, h26, h27, h28, h34, h35, h36, h43, h44, h45, h53, h54⟩ := hJ
    have e45 := h45 (show l 45 = true by first | exact hd.1 rfl | exact hd.2.1 rfl | exact hd.2.2.1 rfl | exact hd.2.2.2.1 rfl | exact hd.2.2.2.2.1 rfl | exact hd.2.2.2.2.2.1 rfl)
    refine Runs.of (b := ?bB48) ?eB48 ?_
    case eB48 => simp only [putV, Act.put, List.setIfInBounds_toArray, List.set_cons_zero, List.set_cons_succ, e45]; rfl
    intro K' hK'
    go_simp
    exact hK'.go undef rfl ⟨B2, hS, hX, hK, h0, h1, h2, h3, h4, h5, h6, h7, h8, h9, h10, h11, h12, h13, h14, h15, h16, h17, h18, h19, h20, h26, h27, h28, h34, h35, h36, h43, h44, h45, h53, h54⟩
  · intro l x w' hJ hi hd
    obtain ⟨B2, hS, hX, hK, h0, h1, h2, h3, h4, h5, h6, h7, h8, h9, h10, h11, h12, h13, h14, h15, h16, h17, h18, h19, h20, h26, h27, h28, h34, h35, h36, h43, h44, h45, h53, h54⟩ := hJ
    have e45 := h45 (show l 45 = true by first | exact hd.1 rfl | exact hd.2.1 rfl | exact hd.2.2.1 rfl | exact hd.2.2.2.1 rfl | exact hd.2.2.2.2.1 rfl | exact hd.2.2.2.2.2.1 rfl)
    refine Runs.of (b := ?bB49) ?eB49 ?_
    case eB49 => simp only [putV, Act.put, List.setIfInBounds_toArray, List.set_cons_zero, List.set_cons_succ, e45]; rfl
    intro K' hK'
    go_simp
    exact hK'.go undef rfl ⟨B2, hS, hX, hK, h0, h1, h2, h3, h4, h5, h6, h7, h8, h9, h10, h11, h12, h13, h14, h15, h16, h17, h18, h19, h20, h26, h27, h28, h34, h35, h36, h43, h44, h45, h53, h54⟩
  · intro l x w' hJ hi hd
    obtain ⟨B2, hS, hX, hK, h0, h1, h2, h3, h4, h5, h6, h7, h8, h9, h10, h11, h12, h13, h14, h15, h16, h17, h18, h19, h20, h26, h27, h28, h34, h35, h36, h43, h44, h45, h53, h54⟩ := hJ
    have e45 := h45 (show l 45 = true by first | exact hd.1 rfl | exact hd.2.1 rfl | exact hd.2.2.1 rfl | exact hd.2.2.2.1 rfl | exact hd.2.2.2.2.1 rfl | exact hd.2.2.2.2.2.1 rfl)
    refine Runs.of (b := ?bB50) ?eB50 ?_
    case eB50 => simp only [putV, Act.put, List.setIfInBounds_toArray, List.set_cons_zero, List.set_cons_succ, e45]; rfl
    intro K' hK'
    go_simp
    exact hK'.go undef rfl ⟨B2, hS, hX, hK, h0, h1, h2, h3, h4, h5, h6, h7, h8, h9, h10, h11, h12, h13, h14, h15, h16, h17, h18, h19, h20, h26, h27, h28, h34, h35, h36, h43, h44, h45, h53, h54⟩
  · intro l x w' hJ hi hd
    obtain ⟨B2, hS, hX, hK, h0, h1, h2, h3, h4, h5, h6, h7, h8, h9, h10, h11, h12, h13, h14, h15, h16, h17, h18, h19, h20, h26, h27, h28, h34, h35, h36, h43, h44, h45, h53, h54⟩ := hJ
    have e45 := h45 (show l 45 = true by first | exact hd.1 rfl | exact hd.2.1 rfl | exact hd.2.2.1 rfl | exact hd.2.2.2.1 rfl | exact hd.2.2.2.2.1 rfl | exact hd.2.2.2.2.2.1 rfl)
    refine Runs.of (b := ?bB51) ?eB51 ?_
    case eB51 => simp only [putV, Act.put, List.setIfInBounds_toArray, List.set_cons_zero, List.set_cons_succ, e45]; rfl
    intro K' hK'
    go_simp
    exact hK'.go undef rfl ⟨B2, hS, hX, hK, h0, h1, h2, h3, h4, h5, h6, h7, h8, h9, h10, h11, h12, h13, h14, h15, h16, h17, h18, h19, h20, h26, h27, h28, h34, h35, h36, h43, h44, h45, h53, h54⟩
  · intro l x w' hJ hi hd
    obtain ⟨B2, hS, hX, hK, h0, h1, h2, h3, h4, h5, h6, h7, h8, h9, h10, h11, h12, h13, h14, h15, h16, h17, h18, h19, h20, h26, h27, h28, h34, h35, h36, h43, h44, h45, h53, h54⟩ := hJ
    have e45 := h45 (show l 45 = true by first | exact hd.1 rfl | exact hd.2.1 rfl | exact hd.2.2.1 rfl | exact hd.2.2.2.1 rfl | exact hd.2.2.2.2.1 rfl | exact hd.2.2.2.2.2.1 rfl)
    refine Runs.of (b := ?bB52) ?eB52 ?_
    case eB52 => simp only [putV, Act.put, List.setIfInBounds_toArray, List.set_cons_zero, List.set_cons_succ, e45]; rfl
    intro K' hK'
    go_simp
    exact hK'.go undef rfl ⟨B2, hS, hX, hK, h0, h1, h2, h3, h4, h5, h6, h7, h8, h9, h10, h11, h12, h13, h14, h15, h16, h17, h18, h19, h20, h26, h27, h28, h34, h35, h36, h43, h44, h45, h53, h54⟩
  · intro l x w' hJ hi hd
    obtain ⟨B2, hS, hX, hK, h0, h1, h2, h3, h4, h5, h6, h7, h8, h9, h10, h11, h12, h13, h14, h15, h16, h17, h18, h19, h20, h26, h27, h28, h34, h35, h36, h43, h44, h45, h53, h54⟩ := hJ
    have e45 := h45 (show l 45 = true by first | exact hd.1 rfl | exact hd.2.1 rfl | exact hd.2.2.1 rfl | exact hd.2.2.2.1 rfl | exact hd.2.2.2.2.1 rfl | exact hd.2.2.2.2.2.1 rfl)
    refine Runs.of (b := ?bB53) ?eB53 ?_
    case eB53 => simp only [putV, Act.put, List.setIfInBounds_toArray, List.set_cons_zero, List.set_cons_succ, e45]; rfl
    intro K' hK'
    go_simp
    exact hK'.go undef rfl ⟨B2, hS, hX, hK, h0, h1, h2, h3, h4, h5, h6, h7, h8, h9, h10, h11, h12, h13, h14, h15, h16, h17, h18, h19, h20, h26, h27, h28, h34, h35, h36, h43, h44, h45, fun _ => rfl, h54⟩
  · intro l x w' hJ hi hd
    obtain ⟨B2, hS, hX, hK, h0, h1, h2, h3, h4, h5, h6, h7, h8, h9, h10, h11, h12, h13, h14, h15, h16, h17, h18, h19, h20, h26, h27, h28, h34, h35, h36, h43, h44, h45, h53, h54⟩ := hJ
    have e45 := h45 (show l 45 = true by first | exact hd.1 rfl | exact hd.2.1 rfl | exact hd.2.2.1 rfl | exact hd.2.2.2.1 rfl | exact hd.2.2.2.2.1 rfl | exact hd.2.2.2.2.2.1 rfl)
    have e53 := h53 (show l 53 = true by first | exact hd.1 rfl | exact hd.2.1 rfl | exact hd.2.2.1 rfl | exact hd.2.2.2.1 rfl | exact hd.2.2.2.2.1 rfl | exact hd.2.2.2.2.2.1 rfl)
    refine Runs.of (b := ?bB54) ?eB54 ?_
    case eB54 => simp only [putV, Act.put, List.setIfInBounds_toArray, List.set_cons_zero, List.set_cons_succ, e45, e53]; rfl
    intro K' hK'
    go_simp
    exact hK'.go _ rfl ⟨B2, hS, hX, hK, h0, h1, h2, h3, h4, h5, h6, h7, h8, h9, h10, h11, h12, h13, h14, h15, h16, h17, h18, h19, h20, h26, h27, h28, h34, h35, h36, h43, h44, h45, h53, fun _ => rfl⟩
  · intro l x w3 hJ hl
    obtain ⟨B2, hS, hX, hK, h0, h1, h2, h3, h4, h5, h6, h7, h8, h9, h10, h11, h12, h13, h14, h15, h16, h17, h18, h19, h20, h26, h27, h28, h34, h35, h36, h43, h44, h45, h53, h54⟩ := hJ
    have e54 := h54 (hl 54 (by decide))
    simp only [putV, Act.put, List.setIfInBounds_toArray, List.set_cons_zero, List.set_cons_succ, e54]
    simp only [Nat.zero_add, Nat.reduceAdd]
    have HS := Lib.hid hS
    have HK := Lib.hid (K1.trans (hK.mono (by simp)))
    clear hS hK hX hs1 hX1 hB1 hT1 K1 e54 hl
    go_wp2_with fail
    go_ret
    exact ⟨rfl, HS.out, HK.out⟩
end Go.Proofs.Ytpibpapolcdeiaa
