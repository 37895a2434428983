/- The law NumOne: its walk. -/
import Derived.Test.YthknelejcedhnaaNumBegun
import Derived.Deep.RegionWith
import Derived.Deep.DeepCutAuto
import Derived.Deep.CutBlock
import Derived.Deep.LoopGhost
namespace Go.Proofs.Ythknelejcedhnaa
open Go.ChangeShapes Go.WideShapes Go.ChangeAt Go.RowKit
set_option linter.unusedVariables false
set_option linter.unusedSimpArgs false

theorem Try.info2 : (Try.prog.info? 2).map (fun i => (i.zero, i.size, i.bytes)) = some (some (.int .i64 0), 1, 8) := by kernel_rfl
theorem ints_take (l : List Int) (n : Nat) : (ints l).take n = ints (l.take n) := by simp [ints, List.map_take]
theorem putAll_len (l : List Int) (h : ∀ n ∈ l, I64 n) : (putAll l).length ≤ 10 * l.length := by
  induction l with
  | nil => simp [putAll]
  | cons x l ih =>
    have hx := h x (by simp)
    have := ih (fun n hn => h n (by simp [hn]))
    have h10 := leb_len 10 (zz x) (by have := zz_lt x hx.1 hx.2; omega) (by omega)
    simp only [putAll, List.map_cons, List.flatten_cons, List.length_append, List.length_cons] at *
    omega
theorem putAll_byte (l : List Int) : ∀ c ∈ putAll l, c < 256 := by
  intro c hc
  simp only [putAll, List.mem_flatten, List.mem_map] at hc
  obtain ⟨x, ⟨n, _, rfl⟩, hx⟩ := hc
  exact leb_byte _ c hx

set_option maxRecDepth 100000 in
set_option maxHeartbeats 2000000 in
theorem numOne_walk (a0 : Option Addr) (len cap : Nat) (z0 : List Int) (w : World) (w0 : IsRow .i64 w a0 len cap z0) :
    Calls Try.prog 7 #[.slice a0 len cap] w fun e w' => e = .returned (.bool true) ∧ Below w.heap.size w w' := by
  obtain ⟨hl, hmax, hr, hwf⟩ := w0.rv
  clear w0
  have hr : Rv w 1 (.slice a0 len cap) len (ints (z0.take len)) := hr
  have hI : ∀ n ∈ z0.take len, I64 n := fun n hn => i64_wf (hwf n hn)
  clear hwf
  generalize z0.take len = zs at *
  subst hl
  obtain ⟨i0, hi, hz0, hz1, hz2⟩ := info_parts Try.info2
  go_enter Try.func7, Try.ntmps7
  go_wp2_with fail
  refine (begun2 w).mono ?_
  rintro e w0 ⟨rfl, k0⟩
  have hr0 : Rv w0 1 (.slice a0 zs.length cap) zs.length (ints zs) := hr.keep k0 (by simp)
  have hown : ∀ k, (Value.slice a0 zs.length cap).ownBlock = some k → 0 < zs.length → k < w.heap.size := by
    intro k hk hp
    obtain ⟨sb, so, cap', he, _, hsb, _⟩ := hr.at1 hp
    rw [he] at hk; cases hk; exact hsb
  clear hr
  go_upto_if 11 with fail
  go_cut [0] (fun s0 wx => w0 = wx ∧ ∃ (v : Value) (l : List Int), s0 = v ∧ Rv w0 1 v l.length (ints l) ∧ l.length ≤ 30 ∧ (∀ n ∈ l, I64 n) ∧ (∀ k, v.ownBlock = some k → 0 < l.length → k < w.heap.size))
  case first =>
    by_cases h30 : 30 < zs.length
    · have q1 : (30 : Int) < zs.length := by omega
      go_wp2_with (refine wpList_slice_to _ _ _ _ _ _ _ 2 i0 Try.underlying23 hi hz1 _ _ _ _ 30 rfl rfl rfl hr0 (by omega) ?_; intro v1 hv1 ho1)
      go_meet
      rw [ints_take] at hv1
      have hl30 : (zs.take 30).length = 30 := by rw [List.length_take]; omega
      exact ⟨rfl, v1, zs.take 30, rfl, by rw [hl30]; exact hv1, by omega, fun n hn => hI n (List.mem_of_mem_take hn), fun k hk _ => hown k (Eq.trans (Eq.symm ho1) hk) (by omega)⟩
    · have q1 : ¬ (30 : Int) < zs.length := by omega
      go_wp2_with fail
      go_meet
      exact ⟨rfl, _, zs, rfl, hr0, by omega, hI, hown⟩
  case rest =>
    obtain ⟨rfl, v, l, rfl, hv, hl30, hIl, hol⟩ := hcut
    clear hI hr0 hown
    obtain ⟨_, a1, cap1, rfl, hc1, _⟩ := id hv
    have hs0 := k0.size
    have HV := Lib.hid hv
    have HI := Lib.hid hIl
    have HO := Lib.hid hol
    clear hv hIl hol
    go_wp2_with fail
    go_loopg [4, 5] l.length (fun g b i wr => ∃ (k : Nat) (v' : Value), g = l.length - k ∧ k ≤ l.length ∧ b = v' ∧ i = .int .i64 k ∧ Onto w0 w0.heap.size 5 (.slice none 0 0) (putAll (l.take k)) v' wr)
    case atStart => exact ⟨0, _, rfl, by omega, rfl, rfl, Onto.refl (Buf.nil _ _ _)⟩
    case round =>
      obtain ⟨k, v', hg, hk, rfl, rfl, hO⟩ := hrel
      have HG := Lib.hid hg
      clear hg
      by_cases hlt : k < l.length
      · obtain ⟨sb0, so, cap3, he, _, hsb, hat⟩ := HV.out.at1 (by omega)
        simp only [Value.slice.injEq] at he
        obtain ⟨rfl, _, rfl⟩ := he
        have hk0 : Keep [] w0 wr := hO.keep.mono (by simp [Value.ownBlock])
        have g4 : wr.cell? ⟨sb0, so + k, none⟩ = some (.int .i64 (l.getD k 0)) := by
          rw [hk0.cell hsb (by simp), hat k hlt, ints_at l k hlt]
        have st := putAll_snoc (l.take k) (l.getD k 0)
        rw [← take_succ_getD _ _ _ hlt] at st
        have ST := Lib.hid st
        have hx : I64 (l.getD k 0) := HI.out _ (by simp [List.getD_eq_getElem?_getD, hlt])
        have hlen := putAll_len (l.take k) (fun n hn => HI.out n (List.mem_of_mem_take hn))
        have hlk : (l.take k).length ≤ 30 := by rw [List.length_take]; omega
        clear st hat
        generalize l.getD k 0 = x at *
        have q1 : (k : Int) < l.length := by omega
        have hks := hO.keep.size
        go_wp2_with fail
        have hns : Rv (wr.alloc (.cells #[.int .i64 x] 2)) 1 (.slice (some ⟨wr.heap.size, 0, none⟩) 1 1) 1 (ints [x]) := Rv.new _ _ _ 1 1 1 rfl (by omega) _ rfl
        refine (Put_any w0.heap.size _ (putAll (l.take k)) _ [x] (hO.buf.alloc _) hns ?_ (by simpa using hx) (by simp; omega) (by simp; omega)).mono ?_
        · intro _ b hb e
          have := hO.buf.lt _ e
          simp [Value.ownBlock] at hb; omega
        rintro e w1 ⟨v1, rfl, hO1⟩
        have hO2 := (hO.alloc (.cells #[.int .i64 x] 2)).trans hO1
        go_wp2_with fail
        go_roundg (l.length - (k + 1))
        case measure => rw [HG.out]; omega
        case rel => exact ⟨k + 1, v1, rfl, by omega, rfl, by go_num, by rw [ST.out]; simpa [putAll] using hO2⟩
      · obtain rfl : k = l.length := by omega
        rw [List.take_length] at hO
        have hlen := putAll_len l HI.out
        have hk0 : Keep [] w0 wr := hO.keep.mono (by simp [Value.ownBlock])
        have hvr := HV.out.keep hk0 (by simp)
        have hvr2 : Rv wr.drew 1 (.slice a1 l.length cap1) l.length (ints l) := hvr.keep (Keep.refl [] _).drew (by simp)
        have hbuf := hO.buf
        obtain ⟨a4, cap4, rfl⟩ := hbuf.slice
        have hcv : Sem.run Try.prog (convert 22 9 (.slice a4 (putAll l).length cap4)) wr.drew = .ok (.string (toStr (putAll l))) wr.drew :=
          Rd.str (P := Try.prog) (hbuf.keep (Keep.refl [] _).drew (by simp)).rd (putAll_byte l) Try.underlying22 Try.underlying5 Try.underlying9
        have hlb := hbuf.lt
        have HKK := Lib.hid hk0
        go_wp2_with fail
        go_region_with (first
          | (go_at_call_of 20 (Value.slice a1 l.length cap1); refine (Put_any wr.drew.heap.size (.slice none 0 0) [] _ l (Buf.nil _ _ _) hvr2 (by simp [Value.ownBlock]) HI.out (by simp; omega) (Nat.le_refl _)).mono ?_; rintro e w1 ⟨v1, rfl, hO1⟩; rw [List.nil_append] at hO1; obtain ⟨a5, cap5, rfl⟩ := hO1.buf.slice; have hcvA := Rd.str (P := Try.prog) (src := 22) (dst := 9) hO1.buf.rd (putAll_byte l) Try.underlying22 Try.underlying5 Try.underlying9; have hcvB := Rd.str (P := Try.prog) (src := 22) (dst := 9) (Buf.keep (w := wr.drew) (hbuf.keep (Keep.refl [] _).drew (by simp)) hO1.keep (by simp [Value.ownBlock])).rd (putAll_byte l) Try.underlying22 Try.underlying5 Try.underlying9; have k1 : Keep [] w0 w1 := (HKK.out.drew).then hO1.keep (by simp [Value.ownBlock]))
          | (go_at_call 20; refine (Put_any w1.heap.size (.slice none 0 0) [] _ [] (Buf.nil _ _ _) (Rv.nil _ 1) (by simp [Value.ownBlock]) (by simp) (by simp) (Nat.le_refl _)).mono ?_; rintro e w2 ⟨v2, rfl, hO2⟩; obtain ⟨a6, cap6, rfl⟩ := hO2.buf.slice; have k2 : Keep [] w0 w2 := k1.then hO2.keep (by simp [Value.ownBlock]))
          | (go_at_call 19; refine (PutText_any w2.heap.size (.slice none 0 0) [] _ [] (Buf.nil _ _ _) (Rv.nil _ 1) (by simp [Value.ownBlock]) 0 (by simp) (by simp) (Nat.le_refl _)).mono ?_; rintro e w3 ⟨v3, rfl, hO3⟩; obtain ⟨a7, cap7, rfl⟩ := hO3.buf.slice; have k3 : Keep [] w0 w3 := k2.then hO3.keep (by simp [Value.ownBlock])))
        go_goals
        all_goals
          go_wp2_with fail
          go_ret
          exact ⟨rfl, (k0.then k3 (by simp)).below⟩
end Go.Proofs.Ythknelejcedhnaa
