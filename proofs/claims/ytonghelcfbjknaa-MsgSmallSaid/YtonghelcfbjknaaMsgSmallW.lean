/- The law MsgSmall: its walk. -/
import Derived.Test.YtonghelcfbjknaaMsgStep
namespace Go.Proofs.Ytonghelcfbjknaa
open Go.ChangeShapes Go.WideShapes Go.ChangeAt Go.RowKit
set_option linter.unusedVariables false
set_option linter.unusedSimpArgs false

def msS (kind src dst : Int) : Ms := ⟨kind, src, dst, 0, 0, 0, 0, 0, 0, ByteArray.empty, 0, false, it0, [], [], [], 0, []⟩
set_option maxRecDepth 100000 in
set_option maxHeartbeats 8000000 in
theorem msgSmall_walk (kind src dst : Int) (w : World) (_w0 : (Lit.int .i64 kind).wf = true) (_w1 : (Lit.int .i64 src).wf = true) (_w2 : (Lit.int .i64 dst).wf = true) :
    Calls Try.prog 8 #[.int .i64 kind, .int .i64 src, .int .i64 dst] w fun e w' => e = .returned (.bool true) ∧ Below w.heap.size w w' := by
  have hbld : ∀ W : World, (Instr.build 29 #[(0, .int .i64 kind), (1, .int .i64 src), (2, .int .i64 dst)]).run Try.prog W = .ok (msV (msS kind src dst) (.slice none 0 0) (.slice none 0 0) (.slice none 0 0) (.slice none 0 0)) W := fun W => run_build W _ _ _ (by rfl)
  clear _w0 _w1 _w2
  go_enter Try.func8, Try.ntmps8
  go_wp2_with fail
  refine (begun19 w).mono ?_
  rintro e w1 ⟨rfl, k1⟩
  have hZ1 := Blk.new w1 (msC ms0 (.slice none 0 0) (.slice none 0 0) (.slice none 0 0) (.slice none 0 0)) 29
  have K1 := k1.alloc (.cells (msC ms0 (.slice none 0 0) (.slice none 0 0) (.slice none 0 0) (.slice none 0 0)).toArray 29)
  have HLO := Lib.hid (show w.heap.size ≤ w1.heap.size from k1.size)
  have HONE := Lib.hid (msC_one (msS kind src dst) none none none none 0 0 0 0 0 0 0 0)
  go_upto_region 5 with (refine wpList_store_blk rfl 29 _ _ rfl w1.heap.size (msC ms0 (.slice none 0 0) (.slice none 0 0) (.slice none 0 0) (.slice none 0 0)) (msC (msS kind src dst) (.slice none 0 0) (.slice none 0 0) (.slice none 0 0) (.slice none 0 0)) 29 rfl rfl hZ1 rfl Try.sizeMsg HONE.out ?_; intro w2 hM2 k2)
  have K2 : Keep [] w w2 := K1.then k2 (by intro q hq hlt; have := HLO.out; simp at hq; omega)
  obtain ⟨b, hb⟩ : ∃ b, b = w1.heap.size := ⟨_, rfl⟩
  rw [← hb] at hM2 ⊢
  clear hb k1 k2 K1 hZ1 hbld
  have hk : (msS kind src dst).kind = kind ∧ (msS kind src dst).src = src ∧ (msS kind src dst).dst = dst := ⟨rfl, rfl, rfl⟩
  have HK := Lib.hid hk
  clear hk
  have hsz : MsSz (msS kind src dst) := ms_bare_sz _ (by show (ByteArray.empty).size ≤ _; decide) rfl rfl rfl rfl rfl
  have hbare := fun W => ms_bare W (msS kind src dst) rfl rfl rfl rfl
  generalize msS kind src dst = m at *
  go_wp2_with (refine wpList_load_rowg 29 _ rfl b rfl 29 (msC m (.slice none 0 0) (.slice none 0 0) (.slice none 0 0) (.slice none 0 0)).toArray (0, 0) _ hM2 Try.underlying29 rfl Try.sizeMsg (by rfl) ?_)
  refine (encode_any m _ _ _ _ (hbare _) hsz).mono ?_
  rintro e w3 ⟨bv, rfl, hbf, hnil, k3⟩
  have hM3 := hM2.keep k3 (by simp)
  have K3 := K2.trans k3
  obtain ⟨r, hr⟩ : ∃ r, r = mayM m := ⟨_, rfl⟩
  have HR := Lib.hid hr
  have HEL := Lib.hid (encM_length m)
  have HEB := Lib.hid (encM_byte m)
  have HNO := Lib.hid (fun h => encM_none (m := m) h)
  have HYES := Lib.hid (fun h : mayM m = true => decM_enc m h)
  have HNE := Lib.hid (fun h : mayM m = true => encM_ne h)
  clear hr hnil k3 hM2 K2
  generalize encM m = E at *
  obtain ⟨ba, bcap, rfl⟩ := hbf.slice
  have hrb := hbf.rd
  clear hbf
  go_wp2_with (refine wpList_load_rowg 29 _ rfl b rfl 29 (msC m (.slice none 0 0) (.slice none 0 0) (.slice none 0 0) (.slice none 0 0)).toArray (0, 0) _ hM3 Try.underlying29 rfl Try.sizeMsg (by rfl) ?_)
  refine (refMsg_any m _ _ _ _ (hbare _) hsz r HR.out).mono ?_
  rintro e w4 ⟨rfl, k4⟩
  have K4 := K3.trans k4
  have hrb4 := hrb.keep k4 (by simp)
  clear k4 K3 hM3 hrb
  cases r with
  | false =>
    have q1 : ((E.length : Int) == 0) = true := by rw [HNO.out HR.out.symm]; rfl
    go_wp2_with fail
    go_ret
    exact ⟨rfl, K4.below⟩
  | true =>
    have HDEC := Lib.hid (HYES.out HR.out.symm)
    have hpos : 0 < E.length := List.length_pos_iff.2 (HNE.out HR.out.symm)
    have q1 : decide (0 < E.length) = true := decide_eq_true hpos
    have HP := Lib.hid hpos
    clear hpos
    go_wp2_with fail
    refine (decode_any _ E hrb4 HEB.out (by have := HEL.out; omega)).mono ?_
    rintro e w5 ⟨k5, hd⟩
    rw [HDEC.out] at hd
    obtain ⟨vi, vk, vm, vo, rfl, hr5⟩ := hd
    have hZ5 := Blk.new w5 (msC ms0 (.slice none 0 0) (.slice none 0 0) (.slice none 0 0) (.slice none 0 0)) 29
    have K5 := (K4.trans k5).alloc (.cells (msC ms0 (.slice none 0 0) (.slice none 0 0) (.slice none 0 0) (.slice none 0 0)).toArray 29)
    have HLO5 := Lib.hid (show w.heap.size ≤ w5.heap.size from (K4.trans k5).size)
    obtain ⟨_, ia, ca, rfl, _, _⟩ := id hr5.its
    obtain ⟨_, ka, ck, rfl, _, _⟩ := id hr5.mks
    obtain ⟨_, ma, cm, rfl, _, _⟩ := id hr5.mem
    obtain ⟨_, oa, co, rfl, _, _⟩ := id hr5.old
    have HONE5 := Lib.hid (msC_one m ia ka ma oa m.its.length ca m.mks.length ck m.mem.length cm m.old.length co)
    go_upto_region 9 with (refine wpList_store_blk rfl 29 _ _ rfl w5.heap.size (msC ms0 (.slice none 0 0) (.slice none 0 0) (.slice none 0 0) (.slice none 0 0)) (msC m (.slice ia m.its.length ca) (.slice ka m.mks.length ck) (.slice ma m.mem.length cm) (.slice oa m.old.length co)) 29 rfl rfl hZ5 rfl Try.sizeMsg HONE5.out ?_; intro w6 hM6 k6)
    have K6 : Keep [] w w6 := K5.then k6 (by intro q hq hlt; have := HLO5.out; simp at hq; omega)
    have c0 : w6.cell? ⟨w5.heap.size, 0, none⟩ = some (.int .i64 kind) := by rw [← HK.out.1]; exact msc_0 hM6
    have c1 : w6.cell? ⟨w5.heap.size, 1, none⟩ = some (.int .i64 src) := by rw [← HK.out.2.1]; exact msc_1 hM6
    have c2 : w6.cell? ⟨w5.heap.size, 2, none⟩ = some (.int .i64 dst) := by rw [← HK.out.2.2]; exact msc_2 hM6
    clear K5 k6 hZ5 hr5 k5 hrb4
    go_wp2_with fail
    go_ret
    exact ⟨rfl, K6.below⟩
end Go.Proofs.Ytonghelcfbjknaa
