/- The law DevOwn: its walk. -/
import Derived.Test.YthknelejcedhnaaDevSectors
import Derived.Test.YthknelejcedhnaaShort
import Derived.Laws.OwnMore
namespace Go.Proofs.Ythknelejcedhnaa
open Go.ChangeShapes Go.WideShapes Go.ChangeAt Go.RowKit
set_option linter.unusedVariables false
set_option linter.unusedSimpArgs false

theorem Own.set {w : World} {base : Nat} {E : TypeId} {g n cap : Nat} {vs : List Value} (h : Own w base E (.slice (some ⟨g, 0, none⟩) n cap) vs) (hn : n = vs.length) (i : Nat) (u : Value) :
    Own (w.setCell ⟨g, i, none⟩ u) base E (.slice (some ⟨g, 0, none⟩) n cap) (vs.set i u) ∧ Keep [g] w (w.setCell ⟨g, i, none⟩ u) := by
  subst hn
  refine ⟨?_, (Keep.refl _ _).setCell (.inl (by simp)) _⟩
  unfold Own
  rw [List.length_set]
  exact (World.ownsRow.stored h i u).1
theorem Own.at_ {w : World} {base : Nat} {E : TypeId} {v : Value} {vs : List Value} (h : Own w base E v vs) (hp : 0 < vs.length) :
    ∃ g cap, v = .slice (some ⟨g, 0, none⟩) vs.length cap ∧ vs.length ≤ cap ∧ base ≤ g ∧ g < w.heap.size := by
  obtain ⟨g, cap, sp, rfl, h1, h2, h3⟩ := h.blk hp
  exact ⟨g, cap, rfl, h1, h2, h3.lt⟩
theorem Own.cell {w : World} {base : Nat} {E : TypeId} {g n cap : Nat} {vs : List Value} (h : Own w base E (.slice (some ⟨g, 0, none⟩) n cap) vs) (hn : n = vs.length) (i : Nat) (hi : i < n) :
    w.cell? ⟨g, i, none⟩ = vs[i]? ∧ w.frozen? ⟨g, i, none⟩ = false := by
  subst hn
  exact ⟨World.ownsRow.cellAt h i (by omega), World.ownsRow.frozenAt h i⟩
theorem Buf.own {w : World} {base : Nat} {E : TypeId} {v : Value} {l : List Nat} (h : Buf w base E v l) : Own w base E v (bcs l) := by
  unfold Own; rw [bcs_length]; exact h
theorem Own.buf {w : World} {base : Nat} {E : TypeId} {v : Value} {l : List Nat} (h : Own w base E v (bcs l)) : Buf w base E v l := by
  unfold Own at h; rw [bcs_length] at h; exact h
theorem bcs_set (l : List Nat) (i x : Nat) : (bcs l).set i (bc x) = bcs (l.set i x) := by simp [bcs, List.map_set]

theorem Buf.bump {w : World} {base : Nat} {E : TypeId} {g n cap : Nat} {l : List Nat} (h : Buf w base E (.slice (some ⟨g, 0, none⟩) n cap) l) (hn : n = l.length) (j : Nat) (hj : j < n) (x : Nat) :
    w.cell? ⟨g, j, none⟩ = some (.int .u8 (l.getD j 0 : Int)) ∧ w.frozen? ⟨g, j, none⟩ = false ∧ Buf (w.setCell ⟨g, j, none⟩ (.int .u8 (x : Int))) base E (.slice (some ⟨g, 0, none⟩) n cap) (l.set j x) ∧ Keep [g] w (w.setCell ⟨g, j, none⟩ (.int .u8 (x : Int))) := by
  have hc := h.own.cell (by rw [bcs_length]; exact hn) j hj
  have hs := h.own.set (by rw [bcs_length]; exact hn) j (bc x)
  refine ⟨by rw [hc.1, bcs_at _ _ (by omega)]; rfl, hc.2, ?_, hs.2⟩
  have := hs.1
  rw [bcs_set] at this
  exact this.buf
theorem u8_bump (x : Nat) : IntKind.u8.wrap ((x : Int) + 1) = (((x + 1) % 256 : Nat) : Int) := by rw [IntKind.wrap_u8]; omega
theorem set_byte (l : List Nat) (j x : Nat) (h : ∀ c ∈ l, c < 256) (hx : x < 256) : ∀ c ∈ l.set j x, c < 256 := by
  intro c hc
  rcases List.mem_or_eq_of_mem_set hc with h' | rfl
  · exact h c h'
  · exact hx
def ownL (m : List Nat) : List Sec := [⟨over z64 0 m, z64, true⟩, zeroSec]
theorem own_loose (m : List Nat) : looseN ((ownL m).map Sec.loose) (ownL m).length = [0] := rfl
theorem over_take (m : List Nat) (h : m.length ≤ 64) : (over z64 0 m).take m.length = m := by
  unfold over; rw [List.take_zero, List.nil_append, List.take_left]
theorem take_want (m : List Nat) (h : m.length ≤ 64) : (bcs (over z64 0 m)).take m.length = bcs m := by
  have := over_take m h
  unfold bcs
  rw [← List.map_take, this]
set_option maxRecDepth 100000 in
set_option maxHeartbeats 4000000 in
theorem devOwn_walk (a0 : Option Addr) (len cap : Nat) (z0 : List Int) (w : World) (w0 : IsRow .u8 w a0 len cap z0) :
    Calls Try.prog 9 #[.slice a0 len cap] w fun e w' => e = .returned (.bool true) ∧ Below w.heap.size w w' := by
  obtain ⟨l, rfl, hmax, hr, hb⟩ := w0.rd
  clear w0
  obtain ⟨i8, hi8, hz80, hz81, hz82⟩ := info_parts Try.info8
  go_enter Try.func9, Try.ntmps9
  go_wp2_with fail
  refine (begun4 w).mono ?_
  rintro e w0 ⟨rfl, k0⟩
  have hr0 := hr.keep k0 (by simp)
  clear hr
  go_wp2_with fail
  refine (Short_any _ l 64 hr0 (by omega) hmax).mono ?_
  rintro e w' ⟨v1, rfl, rfl, h1, _⟩
  have hb1 : ∀ c ∈ l.take 64, c < 256 := fun c hc => hb c (List.mem_of_mem_take hc)
  have hl1 : (l.take 64).length ≤ 64 := by rw [List.length_take]; omega
  clear hr0 hb
  generalize l.take 64 = m at *
  have hsrc := Lib.hid (Rd.src h1 Try.underlying22)
  go_upto_region 5 with (at_builtin; refine wpList_append_src _ rfl _ _ 22 22 rfl w0.heap.size 5 i8 (.int .u8 0) 1 1 Try.underlying22 hi8 hz80 hz81 hz82 rfl (by decide) (.slice none 0 0) 0 [] rfl (World.ownsRow_nil w0 _ _ 1) _ _ _ rfl hsrc.out (by unfold maxLen; omega) (by omega) (Nat.le_refl _) ?_; intro v2 w2 h2 hg2 h4 h5)
  rw [Nat.zero_add, List.nil_append] at h2
  have hB2 : Buf w2 w0.heap.size 5 v2 m := h2
  have hk2 : Keep [] w0 w2 := (Keep.grown hg2).mono (by simp [Value.ownBlock])
  have hKa := k0.trans hk2
  clear h2 hg2 h4 h5 hsrc hk2
  obtain ⟨a2, c2, hv2⟩ := hB2.slice
  have hcv : Sem.run Try.prog (convert 22 9 v2) w2 = .ok (.string (toStr m)) w2 := Rd.str (P := Try.prog) hB2.rd hb1 Try.underlying22 Try.underlying5 Try.underlying9
  have hsz : (toStr m).size = m.length := by simp [toStr, ByteArray.size]
  subst hv2
  go_wp2_with fail
  refine (New_any 2 2 rfl).mono ?_
  rintro e w3 ⟨b, sb, rfl, hD3, hK3, hb3, hsb3⟩
  have hB3 := hB2.keep hK3 (by simp)
  have hKb := hKa.trans hK3
  have hlow : w2.heap.size ≤ b ∧ w2.heap.size ≤ sb ∧ w.heap.size ≤ w2.heap.size ∧ w.heap.size ≤ w0.heap.size := ⟨hb3, hsb3, hKa.size, k0.size⟩
  have hown : ∀ g, (Value.slice a2 m.length c2).ownBlock = some g → w0.heap.size ≤ g ∧ g < w2.heap.size := hB2.lt
  clear hB2 hKa hK3 hb3 hsb3 hcv
  go_wp2_with fail
  refine (Write_at hD3 0 0 rfl zeroSec rfl _ m hB3.rd hl1 hb1 (by decide)).mono ?_
  rintro e w4 ⟨rfl, hD4, hK4⟩
  change IsDev w4 b sb (ownL m) (0 + 1) at hD4
  have hB4 := hB3.keep hK4 (by intro g hg hm; have := hown g hg; simp at hm; omega)
  have hKc := hKb.then hK4 (by simp; omega)
  clear hD3 hB3 hKb hK4
  go_wp2_with fail
  go_loopw [6] (fun i wr => ∃ (j : Nat) (l : List Nat), j ≤ m.length ∧ i = .int .i64 j ∧ l.length = m.length ∧ Buf wr w0.heap.size 5 (.slice a2 m.length c2) l ∧ IsDev wr b sb (ownL m) (0 + 1) ∧ Keep [] w wr) (fun i _ => m.length - (intOf i).toNat)
  case atStart => exact ⟨0, m, by omega, rfl, rfl, hB4, hD4, hKc⟩
  case round =>
    obtain ⟨j, l1, hj, rfl, hll, hB, hD, hK⟩ := hrel
    clear hB4 hD4 hKc
    have HLL := Lib.hid hll
    clear hll
    by_cases hlt : j < m.length
    · have q0 : (j : Int) < m.length := by omega
      obtain ⟨g, cap', he, _, hg1, hg2⟩ := hB.own.at_ (by rw [bcs_length, HLL.out]; omega)
      simp only [Value.slice.injEq] at he
      obtain ⟨rfl, he2, rfl⟩ := he
      clear he2
      have hbp := hB.bump (by rw [HLL.out]) j hlt ((l1.getD j 0 + 1) % 256)
      have hw := u8_bump (l1.getD j 0)
      obtain ⟨c0, c1, hB1, hK1⟩ := hbp
      have HB1 := Lib.hid hB1
      generalize l1.getD j 0 = x at *
      have hgo := hown g rfl
      have hD1 := hD.keep hK1 (by simp; omega) (by simp; omega)
      have hK2 := hK.then hK1 (by simp; omega)
      clear hB1 hK1
      go_wp2_with fail
      go_roundw
      case rel => exact ⟨j + 1, _, by omega, by go_num, by rw [List.length_set]; exact HLL.out, HB1.out, hD1, hK2⟩
      case measure => simp [intOf]; omega
    · obtain rfl : j = m.length := by omega
      go_wp2_with fail
      refine (Read_at hD 0 0 rfl _ rfl).mono ?_
      rintro e w5 ⟨vx, rfl, hX, hK5⟩
      have hX1 : Buf w5 wr.heap.size 5 vx (over z64 0 m) := hX
      have hD5 := hD.keep hK5 (by simp) (by simp)
      have hK6 := hK.trans hK5
      have hsz5 : w.heap.size ≤ wr.heap.size ∧ w2.heap.size ≤ wr.heap.size := ⟨hK.size, by have := hD.dev.lt; omega⟩
      have HDW := Lib.hid (show b < wr.heap.size ∧ sb < wr.heap.size from ⟨hD.dev.lt, hD.secs.lt⟩)
      clear hX hD hK hK5 hB
      have hxl : (over z64 0 m).length = 64 := by rw [over_length _ _ _ (by simp [z64]; omega)]; rfl
      have HXL := Lib.hid hxl
      obtain ⟨gx, cx, hvx, hcx, hgx, hgx2⟩ := hX1.own.at_ (by rw [bcs_length, hxl]; omega)
      rw [bcs_length, hxl] at hvx hcx
      subst hvx
      clear hxl
      have hx64 : Rv w5 1 (.slice (some ⟨gx, 0, none⟩) 64 cx) 64 (bcs (over z64 0 m)) := by
        have := hX1.rd; unfold Rd at this; rwa [HXL.out] at this
      have hq0 : (0 : Int) ≤ (m.length : Int) := by omega
      go_wp2_with (refine wpList_slice_to _ _ _ _ _ _ _ 5 i8 Try.underlying22 hi8 hz81 _ 64 _ _ m.length rfl rfl rfl hx64 (by omega) ?_; intro v6 h6 o6; rw [take_want m hl1] at h6; obtain ⟨_, a6, c6, rfl, _, _⟩ := id h6; have hcv6 : Sem.run Try.prog (convert 22 9 (.slice a6 m.length c6)) w5 = .ok (.string (toStr m)) w5 := Rd.str (P := Try.prog) h6 hb1 Try.underlying22 Try.underlying5 Try.underlying9)
      have hxo : (over z64 0 m).length = 64 := HXL.out
      obtain ⟨wo, rfl⟩ : ∃ wo : World, wo = wr := ⟨_, rfl⟩
      clear hx64 hcv6 h6
      go_loopw [9] (fun i wr => ∃ (j : Nat) (l : List Nat), j ≤ 64 ∧ i = .int .i64 j ∧ l.length = 64 ∧ Buf wr wo.heap.size 5 (.slice (some ⟨gx, 0, none⟩) 64 cx) l ∧ IsDev wr b sb (ownL m) (0 + 1) ∧ Keep [] w wr) (fun i _ => 64 - (intOf i).toNat)
      case atStart => exact ⟨0, _, by omega, rfl, hxo, hX1, hD5, hK6⟩
      case round =>
        obtain ⟨j, l2, hj, rfl, hll, hB, hD, hK⟩ := hrel
        clear hX1 hD5 hK6 hxo
        have HLL := Lib.hid hll
        clear hll
        by_cases hlt : j < 64
        · have q0 : (j : Int) < 64 := by omega
          have hbp := hB.bump (by rw [HLL.out]) j hlt ((l2.getD j 0 + 1) % 256)
          have hw := u8_bump (l2.getD j 0)
          obtain ⟨c0, c1, hB1, hK1⟩ := hbp
          have HB1 := Lib.hid hB1
          generalize l2.getD j 0 = x at *
          have hb6 : b < wo.heap.size ∧ sb < wo.heap.size := HDW.out
          have hD1 := hD.keep hK1 (by simp; omega) (by simp; omega)
          have hK2 := hK.then hK1 (by simp; omega)
          clear hB1 hK1
          go_wp2_with fail
          go_roundw
          case rel => exact ⟨j + 1, _, by omega, by go_num, by rw [List.length_set]; exact HLL.out, HB1.out, hD1, hK2⟩
          case measure => simp [intOf]; omega
        · obtain rfl : j = 64 := by omega
          clear hB
          go_wp2_with fail
          refine (Loose_any hD).mono ?_
          rintro e w7 ⟨vl, rfl, hO, hK7⟩
          rw [own_loose] at hO
          have hD7 := hD.keep hK7 (by simp) (by simp)
          have hK8 := hK.trans hK7
          have hO7 : Own w7 wr.heap.size 3 vl (ints [0]) := hO
          obtain ⟨gl, cl, rfl, hcl, hgl, hgl2⟩ := hO7.at_ (by decide)
          have hbr : b < wr.heap.size ∧ sb < wr.heap.size := ⟨hD.dev.lt, hD.secs.lt⟩
          have hsr := hK.size
          clear hO hD hK hK7
          obtain ⟨wp, rfl⟩ : ∃ wp : World, wp = wr := ⟨_, rfl⟩
          go_wp2_with fail
          go_loopw [11] (fun i wr => ∃ (j : Nat) (l : List Int), j ≤ 1 ∧ i = .int .i64 j ∧ l.length = 1 ∧ Own wr wp.heap.size 3 (.slice (some ⟨gl, 0, none⟩) 1 cl) (ints l) ∧ IsDev wr b sb (ownL m) (0 + 1) ∧ Keep [] w wr) (fun i _ => 1 - (intOf i).toNat)
          case atStart => exact ⟨0, [0], by omega, rfl, rfl, hO7, hD7, hK8⟩
          case round =>
            obtain ⟨j, l3, hj, rfl, hll, hO, hD, hK⟩ := hrel
            clear hO7 hD7 hK8
            have HLL := Lib.hid hll
            clear hll
            by_cases hlt : j < 1
            · obtain rfl : j = 0 := by omega
              have hcc := hO.cell (by rw [ints_length, HLL.out]) 0 (by omega)
              rw [ints_at _ _ (by rw [HLL.out]; omega)] at hcc
              have hss := hO.set (by rw [ints_length, HLL.out]) 0 (.int .i64 9)
              obtain ⟨c0, c1⟩ := hcc
              obtain ⟨hO1, hK1⟩ := hss
              have hO2 : Own (wr.setCell ⟨gl, 0, none⟩ (.int .i64 9)) wp.heap.size 3 (.slice (some ⟨gl, 0, none⟩) 1 cl) (ints (l3.set 0 9)) := by
                have : (ints l3).set 0 (.int .i64 9) = ints (l3.set 0 9) := by simp [ints, List.map_set]
                rwa [this] at hO1
              have hD1 := hD.keep hK1 (by simp; omega) (by simp; omega)
              have hK2 := hK.then hK1 (by simp; omega)
              have HO2 := Lib.hid hO2
              clear hO1 hK1 hO2
              go_wp2_with fail
              go_roundw
              case rel => exact ⟨1, _, by omega, rfl, by rw [List.length_set]; exact HLL.out, HO2.out, hD1, hK2⟩
              case measure => simp [intOf]
            · obtain rfl : j = 1 := by omega
              clear hO
              go_wp2_with fail
              refine (Read_at hD 0 0 rfl _ rfl).mono ?_
              rintro e w8 ⟨vy, rfl, hY, hK9⟩
              have hY1 : Buf w8 wr.heap.size 5 vy (over z64 0 m) := hY
              have hD9 := hD.keep hK9 (by simp) (by simp)
              have hK10 := hK.trans hK9
              obtain ⟨gy, cy, hvy, hcy, hgy, hgy2⟩ := hY1.own.at_ (by rw [bcs_length, HXL.out]; omega)
              rw [bcs_length, HXL.out] at hvy hcy
              subst hvy
              clear hY hD hK
              go_wp2_with fail
              refine (Loose_any hD9).mono ?_
              rintro e w9 ⟨vl2, rfl, hO, hK11⟩
              rw [own_loose] at hO
              have hO9 : Own w9 w8.heap.size 3 vl2 (ints [0]) := hO
              obtain ⟨gm, cm, rfl, hcm, hgm, hgm2⟩ := hO9.at_ (by decide)
              have hfin := (hK10.trans hK11).below
              have cc : w9.cell? ⟨gm, 0, none⟩ = some (.int .i64 0) := (hO9.cell rfl 0 (by decide)).1
              have hY2 : Rv w9 1 (.slice (some ⟨gy, 0, none⟩) 64 cy) 64 (bcs (over z64 0 m)) := by
                have := (hY1.keep hK11 (by simp)).rd; unfold Rd at this; rwa [HXL.out] at this
              clear hO hO9 hK10 hK11 hY1 hK9
              go_wp2_with (refine wpList_slice_to _ _ _ _ _ _ _ 5 i8 Try.underlying22 hi8 hz81 _ 64 _ _ m.length rfl rfl rfl hY2 (by omega) ?_; intro v10 h10 o10; rw [take_want m hl1] at h10; obtain ⟨_, a10, c10, rfl, _, _⟩ := id h10; have hcv10 : Sem.run Try.prog (convert 22 9 (.slice a10 m.length c10)) w9 = .ok (.string (toStr m)) w9 := Rd.str (P := Try.prog) h10 hb1 Try.underlying22 Try.underlying5 Try.underlying9)
              go_ret
              exact ⟨rfl, hfin⟩
end Go.Proofs.Ythknelejcedhnaa
