/- Ctl4, Ctl5 -/
import Derived.Test.YtcoaobdijlppgaaG8
import Derived.Great.BuildSlice
/- The authority: rows of messages; member, abort, tell. -/
namespace Go.Proofs.Ytcoaobdijlppgaa
open Go.ChangeShapes Go.WideShapes Go.ChangeAt Go.RowKit
set_option linter.unusedVariables false
set_option linter.unusedSimpArgs false
set_option maxRecDepth 100000

/-- A message that the authority says: its nodes' rows. -/
structure Tm where
  m : Ms
  vm : Value
  vo : Value
def tmC (y : Tm) : List Value := msC y.m (.slice none 0 0) (.slice none 0 0) y.vm y.vo
structure TmOk (w : World) (y : Tm) : Prop where
  mem : Own w 0 3 y.vm (ints y.m.mem)
  old : Own w 0 3 y.vo (ints y.m.old)
  its : y.m.its = []
  mks : y.m.mks = []
theorem TmOk.keep {w w' : World} {y : Tm} {S : List Nat} (h : TmOk w y) (k : Keep S w w') (hS : ∀ q ∈ S, ¬ Ty w q 3) : TmOk w' y :=
  ⟨h.mem.keep k (fun b hb hm => hS b hm (h.mem.ty b hb)), h.old.keep k (fun b hb hm => hS b hm (h.old.ty b hb)), h.its, h.mks⟩
theorem TmOk.one {w : World} {y : Tm} (h : TmOk w y) : ∀ v ∈ tmC y, v.oneCell' = true := by
  obtain ⟨a, c, ha⟩ := h.mem.islice
  obtain ⟨b, d, hb⟩ := h.old.islice
  unfold tmC
  rw [ha, hb]
  exact msC_one _ _ _ _ _ _ _ _ _ _ _ _ _
def tc (L : List Tm) : List Value := (L.map tmC).flatten
theorem tc_snoc (L : List Tm) (y : Tm) : tc (L ++ [y]) = tc L ++ tmC y := by simp [tc]
structure TRow (w : World) (base : Nat) (v : Value) (L : List Tm) : Prop where
  own : w.ownsRow base 39 21 v L.length (tc L)
  ok : ∀ y ∈ L, TmOk w y
theorem TRow.nil (w : World) (base : Nat) : TRow w base (.slice none 0 0) [] := ⟨World.ownsRow_nil w base _ 21, by simp⟩
theorem TRow.slice {w : World} {base : Nat} {v : Value} {L : List Tm} (h : TRow w base v L) : ∃ a cap, v = .slice a L.length cap := ownsRow_slice h.own
theorem TRow.lt {w : World} {base : Nat} {v : Value} {L : List Tm} (h : TRow w base v L) : ∀ k, v.ownBlock = some k → base ≤ k ∧ k < w.heap.size := World.ownsRow.lt h.own
theorem TRow.ty {w : World} {base : Nat} {v : Value} {L : List Tm} (h : TRow w base v L) : ∀ k, v.ownBlock = some k → Ty w k 39 := by
  intro k hk
  rcases h.own.2 with ⟨rfl, hn⟩ | ⟨g, cap, cur, rfl, hb, hg, r⟩
  · cases hk
  · cases hk; exact ⟨_, _, hg⟩
theorem TRow.keep {w w' : World} {base : Nat} {v : Value} {L : List Tm} {S : List Nat} (h : TRow w base v L) (k : Keep S w w') (hS : ∀ b, v.ownBlock = some b → b ∉ S) (hT : ∀ q ∈ S, ¬ Ty w q 3) : TRow w' base v L := by
  have hl := h.lt
  refine ⟨⟨h.own.1, ?_⟩, fun y hy => (h.ok y hy).keep k hT⟩
  rcases h.own.2 with ⟨rfl, hn⟩ | ⟨g, cap, cur, rfl, hb, hg, r⟩
  · exact .inl ⟨rfl, hn⟩
  · exact .inr ⟨g, cap, cur, rfl, hb, by rw [k.block g (hl g rfl).2 (hS g rfl)]; exact hg, r⟩
theorem TRow.still {w w' : World} {base : Nat} {v : Value} {L : List Tm} (h : TRow w base v L) (k : Keep [] w w') : TRow w' base v L := h.keep k (by simp) (by simp)
theorem TRow.mono {w : World} {base base' : Nat} {v : Value} {L : List Tm} (h : TRow w base v L) (hb : base' ≤ base) : TRow w base' v L := by
  refine ⟨⟨h.own.1, ?_⟩, h.ok⟩
  rcases h.own.2 with ⟨rfl, hn⟩ | ⟨g, cap, cur, rfl, hg, r⟩
  · exact .inl ⟨rfl, hn⟩
  · exact .inr ⟨g, cap, cur, rfl, Nat.le_trans hb hg, r⟩
theorem TRow.snoc {w w' : World} {base : Nat} {v v' : Value} {L : List Tm} {y : Tm} (h : TRow w base v L) (hy : TmOk w y) (ho : w'.ownsRow base 39 21 v' (L.length + 1) (tc L ++ tmC y)) (k : Keep v.ownBlock.toList w w') : TRow w' base v' (L ++ [y]) := by
  have hT : ∀ q ∈ v.ownBlock.toList, ¬ Ty w q 3 := fun q hq ht => (h.ty q (Option.mem_toList.1 hq)).ne ht (by decide) rfl
  refine ⟨by rw [tc_snoc, List.length_append]; exact ho, fun z hz => ?_⟩
  rcases List.mem_append.1 hz with hz | hz
  · exact (h.ok z hz).keep k hT
  · simp at hz; subst hz; exact hy.keep k hT
theorem src_tm {P : Program} {t e : TypeId} (ht : P.underlying t = some (.slice e)) (w : World) (b : Nat) (y : Tm) (h : Blk w b (tmC y) 39) (h1 : ∀ v ∈ tmC y, v.oneCell' = true) :
    Src P 21 t (.slice (some ⟨b, 0, none⟩) 1 1) 1 (tmC y) w := by
  refine Src.ofSlice _ ht ⟨b, 0, none⟩ 1 1 (tmC y) rfl ?_ h1
  intro j x hx
  rw [show (⟨b, 0, none⟩ : Addr).add j = ⟨b, j, none⟩ by by_cases h0 : j = 0 <;> simp [Addr.add, h0], h.cell]
  exact hx
/-- What the authority says, as a message. -/
def msT (kind dst epoch tick : Int) (mem : List Int) (base : Int) (old : List Int) : Ms := ⟨kind, 0, dst, epoch, tick, 0, 0, 0, 0, ByteArray.empty, 0, false, it0, [], [], mem, base, old⟩
def abortM (num n : Int) : Ms := msT 12 n num 0 [] 0 []
def memberM (t : Ct) (kind dst tick : Int) : Ms := msT kind dst t.epoch tick t.mem 0 []
def tellM (t : Ct) (kind n : Int) : Ms := msT kind n t.num 0 t.dest t.epoch t.mem
set_option maxHeartbeats 4000000 in
theorem abort_any {w : World} (num : Int) (nv : Value) (l : List Int) (h : Rv w 1 nv l.length (ints l)) (hl : l.length ≤ 1000) :
    Calls Try.prog 43 #[.int .i64 num, nv] w fun e w' => ∃ v L, e = .returned v ∧ TRow w' w.heap.size v L ∧ L.map (·.m) = l.map (abortM num) ∧ Keep [] w w' := by
  obtain ⟨i0, hi, hz0, hz1, hz2⟩ := info_parts Try.infoMsg
  obtain ⟨_, a, cap, rfl, _, _⟩ := id h
  have hbld : ∀ (W : World) (n : Int), (Instr.build 39 #[(0, .int .i64 12), (2, .int .i64 n), (3, .int .i64 num)]).run Try.prog W = .ok (.agg (tmC ⟨abortM num n, .slice none 0 0, .slice none 0 0⟩).toArray) W := fun W n => run_build W _ _ _ (by rfl)
  go_enter Try.func43, Try.ntmps43
  go_wp2_with fail
  go_loopw [5, 10] (fun out i wr => ∃ (j : Nat) (L : List Tm), i = .int .i64 j ∧ j ≤ l.length ∧ L.map (·.m) = (l.take j).map (abortM num) ∧ L.length = j ∧ TRow wr w.heap.size out L ∧ Keep [] w wr) (fun _ i _ => l.length - (intOf i).toNat)
  case atStart => exact ⟨0, [], rfl, by omega, rfl, rfl, TRow.nil _ _, Keep.refl _ _⟩
  case round =>
    obtain ⟨j, L, rfl, hj, hL, hLn, hO, hK⟩ := hrel
    have HL := Lib.hid hL
    have HLN := Lib.hid hLn
    clear hL hLn
    by_cases hlt : j < l.length
    · have q0 : (j : Int) < l.length := by omega
      obtain ⟨sb, so, c', he, _, _, hat⟩ := (h.keep hK (by simp)).at1 (by omega)
      simp only [Value.slice.injEq] at he
      obtain ⟨rfl, _, rfl⟩ := he
      have hcell := hat j hlt
      rw [ints_at _ _ hlt] at hcell
      have HN : Hid (∀ y : Tm, y.m = abortM num (l.getD j 0) → (L ++ [y]).map (·.m) = (l.take (j + 1)).map (abortM num)) := Lib.hid (fun y hy => by rw [List.map_append, HL.out, take_succ_getD l 0 j hlt, List.map_append]; simp [hy])
      clear hat
      generalize l.getD j 0 = x at *
      have hY : TmOk wr ⟨abortM num x, .slice none 0 0, .slice none 0 0⟩ := ⟨Own.nil _ _ _, Own.nil _ _ _, rfl, rfl⟩
      have hlen : L.length ≤ 1000 := by have := HLN.out; omega
      obtain ⟨oa, ocap, rfl⟩ := hO.slice
      have hsz := hK.size
      have hY1 := hY.keep (S := []) ((Keep.refl [] wr).alloc (.cells (tmC ⟨abortM num x, .slice none 0 0, .slice none 0 0⟩).toArray 39)) (by simp)
      have hO1 := hO.still ((Keep.refl [] wr).alloc (.cells (tmC ⟨abortM num x, .slice none 0 0, .slice none 0 0⟩).toArray 39))
      have hsrc := src_tm (P := Try.prog) Try.underlying29 _ _ _ (Blk.new wr (tmC ⟨abortM num x, .slice none 0 0, .slice none 0 0⟩) 39) hY.one
      go_wp2_with (at_builtin; refine wpList_append_src _ rfl _ _ 29 29 rfl w.heap.size 39 i0 _ 21 256 Try.underlying29 hi hz0 hz1 hz2 rfl (by decide) _ L.length _ rfl hO1.own _ 1 _ rfl hsrc (by unfold maxLen; omega) (by omega) (by simp; omega) ?_; intro v1 w2 h2 h3 _ h4)
      have hO2 := hO1.snoc hY1 h2 (Keep.grown h3)
      have hK2 : Keep [] w w2 := (hK.alloc _).then (Keep.grown h3) (fun q hq hlt => by have := (hO.lt q (Option.mem_toList.1 hq)).1; omega)
      go_roundw
      case rel => exact ⟨j + 1, _, by go_num, by omega, HN.out _ rfl, by rw [List.length_append, HLN.out]; rfl, hO2, hK2⟩
      case measure => simp [intOf]; omega
    · obtain rfl : j = l.length := by omega
      have hL := HL.out
      rw [List.take_length] at hL
      go_wp2_with fail
      go_ret
      exact ⟨_, L, rfl, hO, hL, hK⟩
def memberJ (w0 : World) (c kb s g r base : Nat) (t : Ct) (vm vt vn vd : Value) (kind dst tick : Int) (l : Nat → Bool) (x : Nat → Value) (w' : World) : Prop :=
  ∃ va vcap, (CtB w' c kb s g t vm vt vn vd) ∧
  (CtR w' t vm vt vn vd base) ∧
  (Blk w' r (if l 11 = true then (tmC ⟨memberM t kind dst tick, (.slice va t.mem.length vcap), .slice none 0 0⟩) else (msC ms0 (.slice none 0 0) (.slice none 0 0) (.slice none 0 0) (.slice none 0 0))) 39) ∧
  (Keep [r] w0 w') ∧
  (l 11 = true → l 9 = true) ∧
  (l 0 = true → x 0 = .int .i64 kind) ∧
  (l 1 = true → x 1 = .int .i64 dst) ∧
  (l 2 = true → x 2 = .int .i64 tick) ∧
  (l 3 = true → x 3 = .pointer (some ⟨c, 0, none⟩)) ∧
  (l 4 = true → x 4 = .pointer (some ⟨c, 0, none⟩)) ∧
  (l 5 = true → x 5 = .pointer (some ⟨c, 2, none⟩)) ∧
  (l 6 = true → x 6 = .pointer (some ⟨c, 2, none⟩)) ∧
  (l 7 = true → x 7 = .int .i64 t.epoch) ∧
  (l 8 = true → x 8 = .pointer (some ⟨c, 0, none⟩)) ∧
  (l 9 = true → x 9 = (.slice va t.mem.length vcap) ∧ Own w' 0 3 (.slice va t.mem.length vcap) (ints t.mem)) ∧
  (l 10 = true → x 10 = .agg (tmC ⟨memberM t kind dst tick, (.slice va t.mem.length vcap), .slice none 0 0⟩).toArray ∧ l 9 = true) ∧
  (l 11 = true → True)
theorem step_store_blk0 {P : Program} {ops : Array Oper} {op : Oper} {a : Act} {w : World} {K : Act → World → Prop} {Q : Exit → Act → World → Prop} {F : Prop} (hgd : op.guard = none) (ty : TypeId) (x y : Operand) (ho : op.op = .store ty x y)
    (b : Nat) (old cells : List Value) (T : TypeId) (hx : a.eval x = .pointer (some ⟨b, 0, none⟩)) (hy : a.eval y = .agg cells.toArray)
    (hb : Blk w b old T) (hl : old.length = cells.length) (hi : (P.info? ty).map (·.size) = some cells.length) (h1 : ∀ v ∈ cells, v.oneCell' = true)
    (h : ∀ w', Blk w' b cells T → Keep [b] w w' → K (a.put op.dst undef) w') : if Region.wanted op (yielded ops a.tmps) = true then Oper.wp P op a w K Q else F := by
  rw [if_pos (by simp [Region.wanted, hgd])]
  refine wp_store_mid ty x y ho b 0 cells.toArray hx hy (hb.there 0 _ (by simp; omega)) (by simpa using hi) (all_oneCell_toArray h1) (h _ ?_ (Keep.setCells _ _ _ _ (Keep.refl _ _) (.inl (by simp))))
  have := hb.setCells cells 0 w _ (by omega)
  unfold over at this
  rw [List.drop_of_length_le (by omega)] at this
  simpa using this
set_option maxHeartbeats 8000000 in
theorem member_any {w : World} {c kb s g base : Nat} {t : Ct} {vm vt vn vd : Value} (h : CtB w c kb s g t vm vt vn vd) (hr : CtR w t vm vt vn vd base) (hmem : 0 < t.mem.length) (kind dst tick : Int) :
    Calls Try.prog 54 #[.pointer (some ⟨c, 0, none⟩), .int .i64 kind, .int .i64 dst, .int .i64 tick] w fun e w' => ∃ v, e = .returned (.agg (tmC ⟨memberM t kind dst tick, v, .slice none 0 0⟩).toArray) ∧ TmOk w' ⟨memberM t kind dst tick, v, .slice none 0 0⟩ ∧ Keep [] w w' := by
  have hbld : ∀ (W : World) (a : Option Addr) (n cap : Nat), (Instr.build 39 #[(0, .int .i64 kind), (2, .int .i64 dst), (4, .int .i64 tick), (3, .int .i64 t.epoch), (15, .slice a n cap)]).run Try.prog W = .ok (.agg (tmC ⟨memberM t kind dst tick, .slice a n cap, .slice none 0 0⟩).toArray) W := fun W a n cap => run_build W _ _ _ (by rfl)
  have hcl := Blk.lt h
  have hZ0 := Blk.new w (msC ms0 (.slice none 0 0) (.slice none 0 0) (.slice none 0 0) (.slice none 0 0)) 39
  have hB0 := h.keep ((Keep.refl [] w).alloc (.cells (msC ms0 (.slice none 0 0) (.slice none 0 0) (.slice none 0 0) (.slice none 0 0)).toArray 39)) (by simp)
  have hR0 := hr.still ((Keep.refl [] w).alloc (.cells (msC ms0 (.slice none 0 0) (.slice none 0 0) (.slice none 0 0) (.slice none 0 0)).toArray 39))
  have K1 := (Keep.refl [] w).alloc (.cells (msC ms0 (.slice none 0 0) (.slice none 0 0) (.slice none 0 0) (.slice none 0 0)).toArray 39)
  go_enter Try.func54, Try.ntmps54
  go_upto_region 1 with fail
  obtain ⟨r, hrr⟩ : ∃ r, r = w.heap.size := ⟨_, rfl⟩
  change Code.wp _ _ _ _ (w.alloc (.cells (msC ms0 (.slice none 0 0) (.slice none 0 0) (.slice none 0 0) (.slice none 0 0)).toArray 39))
  rw [← hrr] at hZ0 ⊢
  have HCR := Lib.hid (show c < r ∧ w.heap.size ≤ r by omega)
  clear hrr hcl h hr
  generalize w.alloc (.cells (msC ms0 (.slice none 0 0) (.slice none 0 0) (.slice none 0 0) (.slice none 0 0)).toArray 39) = w1 at *
  refine wp_region_inv (memberJ w1 c kb s g r base t vm vt vn vd kind dst tick) (by kernel_rfl) (by kernel_rfl) (by kernel_rfl) ?_ (Steps.cons 0 ?_ (Steps.cons 1 ?_ (Steps.cons 2 ?_ (Steps.cons 3 ?_ (Steps.cons 4 ?_ (Steps.cons 5 ?_ (Steps.cons 6 ?_ (Steps.cons 7 ?_ (Steps.cons 8 ?_ (Steps.cons 9 ?_ (Steps.cons 10 ?_ (Steps.cons 11 ?_ (Steps.nil 12))))))))))))) 12 rfl ?_
  · intro x
    exact ⟨none, 0, hB0.keep (Keep.refl [] _).drew (by simp), hR0.still (Keep.refl [] _).drew, hZ0.drew, (Keep.refl _ _).drew, fun h => absurd h (by decide), fun h => absurd h (by decide), fun h => absurd h (by decide), fun h => absurd h (by decide), fun h => absurd h (by decide), fun h => absurd h (by decide), fun h => absurd h (by decide), fun h => absurd h (by decide), fun h => absurd h (by decide), fun h => absurd h (by decide), fun h => absurd h (by decide), fun h => absurd h (by decide), fun h => absurd h (by decide)⟩
  · intro l x w' hJ hi hd
    obtain ⟨va, vcap, hB, hR, hZ, hK, d11, h0, h1, h2, h3, h4, h5, h6, h7, h8, h9, h10, h11⟩ := hJ
    refine Runs.of (b := ?bM0) ?eM0 ?_
    case eM0 => simp only [putV, Act.put, List.setIfInBounds_toArray, List.set_cons_zero, List.set_cons_succ]; rfl
    intro K' hK'
    go_simp
    exact hK'.go _ rfl ⟨va, vcap, hB, hR, hZ, hK, d11, fun _ => rfl, h1, h2, h3, h4, h5, h6, h7, h8, h9, h10, h11⟩
  · intro l x w' hJ hi hd
    obtain ⟨va, vcap, hB, hR, hZ, hK, d11, h0, h1, h2, h3, h4, h5, h6, h7, h8, h9, h10, h11⟩ := hJ
    refine Runs.of (b := ?bM1) ?eM1 ?_
    case eM1 => simp only [putV, Act.put, List.setIfInBounds_toArray, List.set_cons_zero, List.set_cons_succ]; rfl
    intro K' hK'
    go_simp
    exact hK'.go _ rfl ⟨va, vcap, hB, hR, hZ, hK, d11, h0, fun _ => rfl, h2, h3, h4, h5, h6, h7, h8, h9, h10, h11⟩
  · intro l x w' hJ hi hd
    obtain ⟨va, vcap, hB, hR, hZ, hK, d11, h0, h1, h2, h3, h4, h5, h6, h7, h8, h9, h10, h11⟩ := hJ
    refine Runs.of (b := ?bM2) ?eM2 ?_
    case eM2 => simp only [putV, Act.put, List.setIfInBounds_toArray, List.set_cons_zero, List.set_cons_succ]; rfl
    intro K' hK'
    go_simp
    exact hK'.go _ rfl ⟨va, vcap, hB, hR, hZ, hK, d11, h0, h1, fun _ => rfl, h3, h4, h5, h6, h7, h8, h9, h10, h11⟩
  · intro l x w' hJ hi hd
    obtain ⟨va, vcap, hB, hR, hZ, hK, d11, h0, h1, h2, h3, h4, h5, h6, h7, h8, h9, h10, h11⟩ := hJ
    refine Runs.of (b := ?bM3) ?eM3 ?_
    case eM3 => simp only [putV, Act.put, List.setIfInBounds_toArray, List.set_cons_zero, List.set_cons_succ]; rfl
    intro K' hK'
    go_simp
    exact hK'.go _ rfl ⟨va, vcap, hB, hR, hZ, hK, d11, h0, h1, h2, fun _ => rfl, h4, h5, h6, h7, h8, h9, h10, h11⟩
  · intro l x w' hJ hi hd
    obtain ⟨va, vcap, hB, hR, hZ, hK, d11, h0, h1, h2, h3, h4, h5, h6, h7, h8, h9, h10, h11⟩ := hJ
    have e3 := h3 (show l 3 = true by first | exact hd.1 rfl | exact hd.2.1 rfl | exact hd.2.2.1 rfl | exact hd.2.2.2.1 rfl | exact hd.2.2.2.2.1 rfl | exact hd.2.2.2.2.2.1 rfl)
    refine Runs.of (b := ?bM4) ?eM4 ?_
    case eM4 => simp only [putV, Act.put, List.setIfInBounds_toArray, List.set_cons_zero, List.set_cons_succ, e3]; rfl
    intro K' hK'
    go_simp
    exact hK'.go _ rfl ⟨va, vcap, hB, hR, hZ, hK, d11, h0, h1, h2, h3, fun _ => rfl, h5, h6, h7, h8, h9, h10, h11⟩
  · intro l x w' hJ hi hd
    obtain ⟨va, vcap, hB, hR, hZ, hK, d11, h0, h1, h2, h3, h4, h5, h6, h7, h8, h9, h10, h11⟩ := hJ
    have e4 := h4 (show l 4 = true by first | exact hd.1 rfl | exact hd.2.1 rfl | exact hd.2.2.1 rfl | exact hd.2.2.2.1 rfl | exact hd.2.2.2.2.1 rfl | exact hd.2.2.2.2.2.1 rfl)
    refine Runs.of (b := ?bM5) ?eM5 ?_
    case eM5 => simp only [putV, Act.put, List.setIfInBounds_toArray, List.set_cons_zero, List.set_cons_succ, e4]; rfl
    intro K' hK'
    go_simp
    exact hK'.go _ rfl ⟨va, vcap, hB, hR, hZ, hK, d11, h0, h1, h2, h3, h4, fun _ => rfl, h6, h7, h8, h9, h10, h11⟩
  · intro l x w' hJ hi hd
    obtain ⟨va, vcap, hB, hR, hZ, hK, d11, h0, h1, h2, h3, h4, h5, h6, h7, h8, h9, h10, h11⟩ := hJ
    have e5 := h5 (show l 5 = true by first | exact hd.1 rfl | exact hd.2.1 rfl | exact hd.2.2.1 rfl | exact hd.2.2.2.1 rfl | exact hd.2.2.2.2.1 rfl | exact hd.2.2.2.2.2.1 rfl)
    refine Runs.of (b := ?bM6) ?eM6 ?_
    case eM6 => simp only [putV, Act.put, List.setIfInBounds_toArray, List.set_cons_zero, List.set_cons_succ, e5]; rfl
    intro K' hK'
    go_simp
    exact hK'.go _ rfl ⟨va, vcap, hB, hR, hZ, hK, d11, h0, h1, h2, h3, h4, h5, fun _ => rfl, h7, h8, h9, h10, h11⟩
  · intro l x w' hJ hi hd
    obtain ⟨va, vcap, hB, hR, hZ, hK, d11, h0, h1, h2, h3, h4, h5, h6, h7, h8, h9, h10, h11⟩ := hJ
    have e6 := h6 (show l 6 = true by first | exact hd.1 rfl | exact hd.2.1 rfl | exact hd.2.2.1 rfl | exact hd.2.2.2.1 rfl | exact hd.2.2.2.2.1 rfl | exact hd.2.2.2.2.2.1 rfl)
    have cc := (ctc_2 hB).1
    refine Runs.of (b := ?bM7) ?eM7 ?_
    case eM7 => simp only [putV, Act.put, List.setIfInBounds_toArray, List.set_cons_zero, List.set_cons_succ, e6]; rfl
    intro K' hK'
    go_simp
    exact hK'.go _ rfl ⟨va, vcap, hB, hR, hZ, hK, d11, h0, h1, h2, h3, h4, h5, h6, fun _ => rfl, h8, h9, h10, h11⟩
  · intro l x w' hJ hi hd
    obtain ⟨va, vcap, hB, hR, hZ, hK, d11, h0, h1, h2, h3, h4, h5, h6, h7, h8, h9, h10, h11⟩ := hJ
    refine Runs.of (b := ?bM8) ?eM8 ?_
    case eM8 => simp only [putV, Act.put, List.setIfInBounds_toArray, List.set_cons_zero, List.set_cons_succ]; rfl
    intro K' hK'
    go_simp
    exact hK'.go _ rfl ⟨va, vcap, hB, hR, hZ, hK, d11, h0, h1, h2, h3, h4, h5, h6, h7, fun _ => rfl, h9, h10, h11⟩
  · intro l x w' hJ hi hd
    obtain ⟨va, vcap, hB, hR, hZ, hK, d11, h0, h1, h2, h3, h4, h5, h6, h7, h8, h9, h10, h11⟩ := hJ
    have e8 := h8 (show l 8 = true by first | exact hd.1 rfl | exact hd.2.1 rfl | exact hd.2.2.1 rfl | exact hd.2.2.2.1 rfl | exact hd.2.2.2.2.1 rfl | exact hd.2.2.2.2.2.1 rfl)
    have l11 : l 11 = false := by cases hh : l 11 with | false => rfl | true => have := d11 hh; rw [hi] at this; cases this
    refine Runs.of (b := ?bM9) ?eM9 ?_
    case eM9 => simp only [putV, Act.put, List.setIfInBounds_toArray, List.set_cons_zero, List.set_cons_succ, e8]; rfl
    intro K' hK'
    go_simp
    refine (Members_any hB hR hmem).mono ?_
    rintro e w2 ⟨v2, rfl, hO, k2⟩
    obtain ⟨ua, ucap, rfl⟩ := hO.islice
    go_simp
    exact hK'.go _ rfl ⟨ua, ucap, hB.keep k2 (by simp), hR.still k2, (by show Blk w2 r (if l 11 = true then _ else _) 39; rw [l11] at hZ ⊢; exact hZ.keep k2 (by simp)), hK.trans (k2.mono (by simp)), fun _ => rfl, h0, h1, h2, h3, h4, h5, h6, h7, h8, fun _ => ⟨rfl, hO.mono (by omega)⟩, fun h => absurd ((h10 h).2.symm.trans hi) (by decide), h11⟩
  · intro l x w' hJ hi hd
    obtain ⟨va, vcap, hB, hR, hZ, hK, d11, h0, h1, h2, h3, h4, h5, h6, h7, h8, h9, h10, h11⟩ := hJ
    have e0 := h0 (show l 0 = true by first | exact hd.1 rfl | exact hd.2.1 rfl | exact hd.2.2.1 rfl | exact hd.2.2.2.1 rfl | exact hd.2.2.2.2.1 rfl | exact hd.2.2.2.2.2.1 rfl)
    have e1 := h1 (show l 1 = true by first | exact hd.1 rfl | exact hd.2.1 rfl | exact hd.2.2.1 rfl | exact hd.2.2.2.1 rfl | exact hd.2.2.2.2.1 rfl | exact hd.2.2.2.2.2.1 rfl)
    have e2 := h2 (show l 2 = true by first | exact hd.1 rfl | exact hd.2.1 rfl | exact hd.2.2.1 rfl | exact hd.2.2.2.1 rfl | exact hd.2.2.2.2.1 rfl | exact hd.2.2.2.2.2.1 rfl)
    have e7 := h7 (show l 7 = true by first | exact hd.1 rfl | exact hd.2.1 rfl | exact hd.2.2.1 rfl | exact hd.2.2.2.1 rfl | exact hd.2.2.2.2.1 rfl | exact hd.2.2.2.2.2.1 rfl)
    have e9 := h9 (show l 9 = true by first | exact hd.1 rfl | exact hd.2.1 rfl | exact hd.2.2.1 rfl | exact hd.2.2.2.1 rfl | exact hd.2.2.2.2.1 rfl | exact hd.2.2.2.2.2.1 rfl)
    have L9 := Lib.hid (show l 9 = true by first | exact hd.1 rfl | exact hd.2.1 rfl | exact hd.2.2.1 rfl | exact hd.2.2.2.1 rfl | exact hd.2.2.2.2.1 rfl | exact hd.2.2.2.2.2.1 rfl)
    refine Runs.of (b := ?bM10) ?eM10 ?_
    case eM10 => simp only [putV, Act.put, List.setIfInBounds_toArray, List.set_cons_zero, List.set_cons_succ, e0, e1, e2, e7, e9.1]; rfl
    intro K' hK'
    go_simp
    exact hK'.go _ rfl ⟨va, vcap, hB, hR, hZ, hK, d11, h0, h1, h2, h3, h4, h5, h6, h7, h8, h9, fun _ => ⟨rfl, L9.out⟩, h11⟩
  · intro l x w' hJ hi hd
    obtain ⟨va, vcap, hB, hR, hZ, hK, d11, h0, h1, h2, h3, h4, h5, h6, h7, h8, h9, h10, h11⟩ := hJ
    have e10 := h10 (show l 10 = true by first | exact hd.1 rfl | exact hd.2.1 rfl | exact hd.2.2.1 rfl | exact hd.2.2.2.1 rfl | exact hd.2.2.2.2.1 rfl | exact hd.2.2.2.2.2.1 rfl)
    have L9 := Lib.hid (h10 (show l 10 = true by first | exact hd.1 rfl | exact hd.2.1 rfl | exact hd.2.2.1 rfl | exact hd.2.2.2.1 rfl | exact hd.2.2.2.2.1 rfl | exact hd.2.2.2.2.2.1 rfl)).2
    have e9 := h9 L9.out
    rw [hi] at hZ
    have hP : Blk w' r (msC ms0 (.slice none 0 0) (.slice none 0 0) (.slice none 0 0) (.slice none 0 0)) 39 := hZ
    refine Runs.of (b := ?bM11) ?eM11 ?_
    case eM11 => simp only [putV, Act.put, List.setIfInBounds_toArray, List.set_cons_zero, List.set_cons_succ, e10.1]; rfl
    intro K' hK'
    refine step_store_blk0 rfl 39 _ _ rfl r (msC ms0 (.slice none 0 0) (.slice none 0 0) (.slice none 0 0) (.slice none 0 0)) (tmC ⟨memberM t kind dst tick, (.slice va t.mem.length vcap), .slice none 0 0⟩) 39 rfl rfl hP rfl Try.sizeMsg (by have := msC_one (memberM t kind dst tick) none none va none 0 0 0 0 t.mem.length vcap 0 0; exact this) ?_
    intro w2 hQ k2
    have hcr := HCR.out
    exact hK'.go undef rfl ⟨va, vcap, hB.keep k2 (by simp; omega), hR.keep k2 (fun q hq ht => by simp at hq; subst hq; exact hP.ty.ne ht (by decide) rfl), hQ, hK.trans k2, fun _ => L9.out, h0, h1, h2, h3, h4, h5, h6, h7, h8, fun h => ⟨(h9 h).1, (h9 h).2.keep k2 (fun q hq hm => by simp at hm; subst hm; exact hP.ty.ne ((h9 h).2.ty q hq) (by decide) rfl)⟩, h10, fun _ => trivial⟩
  · intro l x w3 hJ hl
    obtain ⟨va, vcap, hB, hR, hZ, hK, d11, h0, h1, h2, h3, h4, h5, h6, h7, h8, h9, h10, h11⟩ := hJ
    have e9 := h9 (hl 9 (by decide))
    rw [if_pos (hl 11 (by decide))] at hZ
    simp only [putV, Act.put, List.setIfInBounds_toArray, List.set_cons_zero, List.set_cons_succ]
    have K3 := K1.then hK (fun q hq hlt => by have := HCR.out; simp at hq; omega)
    clear h0 h1 h2 h3 h4 h5 h6 h7 h8 h9 h10 h11 hl d11 hZ0 hB0 hR0 K1 hK hB hR
    go_wp2_with fail
    refine bodyPost_ret (v := .agg (tmC ⟨memberM t kind dst tick, (.slice va t.mem.length vcap), .slice none 0 0⟩).toArray) ?_ rfl ?_
    · exact results_cell_row Try.results54 _ _ r 39 _ (0, 0) _ rfl hZ Try.underlying39 rfl Try.sizeMsg
    · exact ⟨_, rfl, ⟨e9.2, Own.nil _ _ _, rfl, rfl⟩, K3⟩
end Go.Proofs.Ytcoaobdijlppgaa
/- The authority: tell. -/
namespace Go.Proofs.Ytcoaobdijlppgaa
open Go.ChangeShapes Go.WideShapes Go.ChangeAt Go.RowKit
set_option linter.unusedVariables false
set_option linter.unusedSimpArgs false
set_option maxRecDepth 100000

theorem tm_fill (y : Tm) : Instr.fill (fun i => some (i * 21, 21)) ((Array.range (1 * 21)).map ((Value.agg #[.int .i64 0, .int .i64 0, .int .i64 0, .int .i64 0, .int .i64 0, .int .i64 0, .int .i64 0, .int .i64 0, .int .i64 0, .string ByteArray.empty, .int .i64 0, .bool false, .string ByteArray.empty, .string ByteArray.empty, .int .i64 0, .bool false, .slice none 0 0, .slice none 0 0, .slice none 0 0, .int .i64 0, .slice none 0 0]).cells[· % 21]!)) [(0, .agg (tmC y).toArray)] = some (tmC y).toArray := by
  kernel_rfl
theorem run_bs (W : World) (y : Tm) : (Instr.buildSlice 29 1 #[(0, .agg (tmC y).toArray)]).run Try.prog W = .ok (.slice (some ⟨W.heap.size, 0, none⟩) 1 1) (W.alloc (.cells (tmC y).toArray 39)) := by
  obtain ⟨ie, hie, hz, hs, hb⟩ := info_parts Try.infoMsg
  exact run_buildSlice W _ _ 1 _ _ ie _ Try.underlying29 hie hz (by rw [hs]; decide) (by rw [hs]; decide) (by rw [hs]; exact tm_fill y)
theorem step_bs_tm {w : World} {ops : Array Oper} {o : Oper} {a : Act} {K : Act → World → Prop} {Q : Exit → Act → World → Prop} {F : Prop} (hg : o.guard = none) (x : Operand) (ho : o.op = .buildSlice 29 1 #[(0, x)]) (y : Tm) (hx : a.eval x = .agg (tmC y).toArray)
    (h : K (a.put o.dst (.slice (some ⟨w.heap.size, 0, none⟩) 1 1)) (w.alloc (.cells (tmC y).toArray 39))) : if Region.wanted o (yielded ops a.tmps) = true then Oper.wp Try.prog o a w K Q else F := by
  rw [if_pos (by simp [Region.wanted, hg])]
  unfold Oper.wp execOp
  have e : (#[(0, x)] : Array (Nat × Operand)).map (fun (i, x) => (i, a.eval x)) = #[(0, .agg (tmC y).toArray)] := by simp [hx]
  simp only [ho, e, Sem.run_bind, run_bs, Result.andThen_ok]
  exact h
def tellJ (w : World) (c kb s g base : Nat) (t : Ct) (vm vt vn vd : Value) (kind n : Int) (L : List Tm) (xa : Option Addr) (xcap : Nat) (l : Nat → Bool) (x : Nat → Value) (w' : World) : Prop :=
  ∃ ta tcap oa ocap B22, (CtB w' c kb s g t vm vt vn vd) ∧
  (CtR w' t vm vt vn vd base) ∧
  (TRow w' w.heap.size (if l 23 = true then x 23 else (Value.slice xa L.length xcap)) (if l 23 = true then L ++ [(⟨tellM t kind n, (Value.slice ta t.dest.length tcap), (Value.slice oa t.mem.length ocap)⟩ : Tm)] else L)) ∧
  (Keep [] w w') ∧
  (l 23 = true → l 0 = true ∧ l 22 = true) ∧
  (l 24 = false → x 24 = (Value.slice xa L.length xcap)) ∧
  (l 0 = true → x 0 = (Value.slice xa L.length xcap)) ∧
  (l 1 = true → x 1 = .int .i64 kind) ∧
  (l 2 = true → x 2 = .int .i64 n) ∧
  (l 3 = true → x 3 = .pointer (some ⟨c, 0, none⟩)) ∧
  (l 4 = true → x 4 = .pointer (some ⟨c, 0, none⟩)) ∧
  (l 5 = true → x 5 = .pointer (some ⟨c, 5, none⟩)) ∧
  (l 6 = true → x 6 = .pointer (some ⟨c, 5, none⟩)) ∧
  (l 7 = true → x 7 = .int .i64 t.num) ∧
  (l 8 = true → x 8 = .pointer (some ⟨c, 0, none⟩)) ∧
  (l 9 = true → x 9 = .pointer (some ⟨c, 0, none⟩)) ∧
  (l 10 = true → x 10 = .pointer (some ⟨c, 5, none⟩)) ∧
  (l 11 = true → x 11 = .pointer (some ⟨c, 7, none⟩)) ∧
  (l 12 = true → x 12 = vt) ∧
  (l 13 = true → x 13 = (Value.slice ta t.dest.length tcap) ∧ Own w' 0 3 (Value.slice ta t.dest.length tcap) (ints t.dest)) ∧
  (l 14 = true → x 14 = .pointer (some ⟨c, 0, none⟩)) ∧
  (l 15 = true → x 15 = .pointer (some ⟨c, 0, none⟩)) ∧
  (l 16 = true → x 16 = .pointer (some ⟨c, 2, none⟩)) ∧
  (l 17 = true → x 17 = .pointer (some ⟨c, 2, none⟩)) ∧
  (l 18 = true → x 18 = .int .i64 t.epoch) ∧
  (l 19 = true → x 19 = .pointer (some ⟨c, 0, none⟩)) ∧
  (l 20 = true → x 20 = (Value.slice oa t.mem.length ocap) ∧ Own w' 0 3 (Value.slice oa t.mem.length ocap) (ints t.mem)) ∧
  (l 21 = true → x 21 = .agg (tmC (⟨tellM t kind n, (Value.slice ta t.dest.length tcap), (Value.slice oa t.mem.length ocap)⟩ : Tm)).toArray ∧ l 13 = true ∧ l 20 = true) ∧
  (l 22 = true → (l 22 = true ∧ l 13 = true ∧ l 20 = true) ∧ (l 23 = false → x 22 = .slice (some ⟨B22, 0, none⟩) 1 1 ∧ Blk w' B22 (tmC (⟨tellM t kind n, (Value.slice ta t.dest.length tcap), (Value.slice oa t.mem.length ocap)⟩ : Tm)) 39)) ∧
  (l 23 = true → True) ∧
  (l 24 = true → x 24 = x 23 ∧ l 23 = true)
set_option maxHeartbeats 8000000 in
theorem tell_any {w : World} {c kb s g base : Nat} {t : Ct} {vm vt vn vd : Value} (h : CtB w c kb s g t vm vt vn vd) (hr : CtR w t vm vt vn vd base) (hmem : 0 < t.mem.length) (hdest : 0 < t.dest.length) (kind : Int) (nv : Value) (l : List Int) (hn : Rv w 1 nv l.length (ints l)) (hl : l.length ≤ 1000) :
    Calls Try.prog 36 #[.pointer (some ⟨c, 0, none⟩), .int .i64 kind, nv] w fun e w' => ∃ v L, e = .returned v ∧ TRow w' w.heap.size v L ∧ L.map (·.m) = l.map (tellM t kind) ∧ Keep [] w w' := by
  obtain ⟨i0, hi0, hz0, hz1, hz2⟩ := info_parts Try.infoMsg
  obtain ⟨_, a, cap, rfl, _, _⟩ := id hn
  obtain ⟨tq, tqc, rfl⟩ := hr.dest.islice
  have HC := Lib.hid (Blk.lt h)
  have hbld : ∀ (W : World) (nd : Int) (a1 a2 : Option Addr) (n1 c1 n2 c2 : Nat), (Instr.build 39 #[(0, .int .i64 kind), (2, .int .i64 nd), (3, .int .i64 t.num), (15, .slice a1 n1 c1), (16, .int .i64 t.epoch), (17, .slice a2 n2 c2)]).run Try.prog W = .ok (.agg (tmC ⟨tellM t kind nd, .slice a1 n1 c1, .slice a2 n2 c2⟩).toArray) W := fun W nd a1 a2 n1 c1 n2 c2 => run_build W _ _ _ (by rfl)
  go_enter Try.func36, Try.ntmps36
  go_wp2_with fail
  go_loopw [7, 12] (fun out i wr => ∃ (j : Nat) (L : List Tm), i = .int .i64 j ∧ j ≤ l.length ∧ L.map (·.m) = (l.take j).map (tellM t kind) ∧ L.length = j ∧ TRow wr w.heap.size out L ∧ CtB wr c kb s g t vm (.slice tq t.dest.length tqc) vn vd ∧ CtR wr t vm (.slice tq t.dest.length tqc) vn vd base ∧ Keep [] w wr) (fun _ i _ => l.length - (intOf i).toNat)
  case atStart => exact ⟨0, [], rfl, by omega, rfl, rfl, TRow.nil _ _, h, hr, Keep.refl _ _⟩
  case round =>
    clear h hr
    obtain ⟨j, L, rfl, hj, hL, hLn, hO0, hB0, hR0, hK0⟩ := hrel
    have HL := Lib.hid hL
    have HLN := Lib.hid hLn
    clear hL hLn
    by_cases hlt : j < l.length
    · have q0 : (j : Int) < l.length := by omega
      obtain ⟨sb, so, c', he, _, _, hat⟩ := (hn.keep hK0 (by simp)).at1 (by omega)
      simp only [Value.slice.injEq] at he
      obtain ⟨rfl, _, rfl⟩ := he
      have hcell := hat j hlt
      rw [ints_at _ _ hlt] at hcell
      have HN : Hid (∀ y : Tm, y.m = tellM t kind (l.getD j 0) → (L ++ [y]).map (·.m) = (l.take (j + 1)).map (tellM t kind)) := Lib.hid (fun y hy => by rw [List.map_append, HL.out, take_succ_getD l 0 j hlt, List.map_append]; simp [hy])
      clear hat
      generalize l.getD j 0 = nd at *
      have hlen : L.length ≤ 1000 := by have := HLN.out; omega
      obtain ⟨xa, xcap, rfl⟩ := hO0.slice
      go_upto_region 5 with fail
      refine wp_region_inv_own (tellJ w c kb s g base t vm (.slice tq t.dest.length tqc) vn vd kind nd L xa xcap) (by kernel_rfl) (by kernel_rfl) (by kernel_rfl) ?_ (Steps.cons 0 ?_ (Steps.cons 1 ?_ (Steps.cons 2 ?_ (Steps.cons 3 ?_ (Steps.cons 4 ?_ (Steps.cons 5 ?_ (Steps.cons 6 ?_ (Steps.cons 7 ?_ (Steps.cons 8 ?_ (Steps.cons 9 ?_ (Steps.cons 10 ?_ (Steps.cons 11 ?_ (Steps.cons 12 ?_ (Steps.cons 13 ?_ (Steps.cons 14 ?_ (Steps.cons 15 ?_ (Steps.cons 16 ?_ (Steps.cons 17 ?_ (Steps.cons 18 ?_ (Steps.cons 19 ?_ (Steps.cons 20 ?_ (Steps.cons 21 ?_ (Steps.cons 22 ?_ (Steps.cons 23 ?_ (Steps.cons 24 ?_ (Steps.nil 25)))))))))))))))))))))))))) 25 rfl ?_
      · exact ⟨none, 0, none, 0, 0, hB0.keep (Keep.refl [] _).drew (by simp), hR0.still (Keep.refl [] _).drew, hO0.still (Keep.refl [] _).drew, hK0.drew, fun h => absurd h (by decide), fun _ => rfl, fun h => absurd h (by decide), fun h => absurd h (by decide), fun h => absurd h (by decide), fun h => absurd h (by decide), fun h => absurd h (by decide), fun h => absurd h (by decide), fun h => absurd h (by decide), fun h => absurd h (by decide), fun h => absurd h (by decide), fun h => absurd h (by decide), fun h => absurd h (by decide), fun h => absurd h (by decide), fun h => absurd h (by decide), fun h => absurd h (by decide), fun h => absurd h (by decide), fun h => absurd h (by decide), fun h => absurd h (by decide), fun h => absurd h (by decide), fun h => absurd h (by decide), fun h => absurd h (by decide), fun h => absurd h (by decide), fun h => absurd h (by decide), fun h => absurd h (by decide), fun h => absurd h (by decide), fun h => absurd h (by decide)⟩
      · intro l x w' hJ hi hd
        obtain ⟨ta, tcap, oa, ocap, B22, hB, hR, hO, hW, d23, d24, h0, h1, h2, h3, h4, h5, h6, h7, h8, h9, h10, h11, h12, h13, h14, h15, h16, h17, h18, h19, h20, h21, h22, h23, h24⟩ := hJ
        have l24 : l 24 = false := by cases hh : l 24 with | false => rfl | true => have := (d23 (h24 hh).2).1; rw [hi] at this; cases this
        have e24 := d24 l24
        refine Runs.of (b := ?bT0) ?eT0 ?_
        case eT0 => simp only [putV, Act.put, List.setIfInBounds_toArray, List.set_cons_zero, List.set_cons_succ, e24]; rfl
        intro K' hK'
        go_simp
        exact hK'.go _ rfl ⟨ta, tcap, oa, ocap, B22, hB, hR, hO, hW, fun h => ⟨rfl, (d23 h).2⟩, d24, fun _ => rfl, h1, h2, h3, h4, h5, h6, h7, h8, h9, h10, h11, h12, h13, h14, h15, h16, h17, h18, h19, h20, h21, h22, h23, h24⟩
      · intro l x w' hJ hi hd
        obtain ⟨ta, tcap, oa, ocap, B22, hB, hR, hO, hW, d23, d24, h0, h1, h2, h3, h4, h5, h6, h7, h8, h9, h10, h11, h12, h13, h14, h15, h16, h17, h18, h19, h20, h21, h22, h23, h24⟩ := hJ
        refine Runs.of (b := ?bT1) ?eT1 ?_
        case eT1 => simp only [putV, Act.put, List.setIfInBounds_toArray, List.set_cons_zero, List.set_cons_succ]; rfl
        intro K' hK'
        go_simp
        exact hK'.go _ rfl ⟨ta, tcap, oa, ocap, B22, hB, hR, hO, hW, d23, d24, h0, fun _ => rfl, h2, h3, h4, h5, h6, h7, h8, h9, h10, h11, h12, h13, h14, h15, h16, h17, h18, h19, h20, h21, h22, h23, h24⟩
      · intro l x w' hJ hi hd
        obtain ⟨ta, tcap, oa, ocap, B22, hB, hR, hO, hW, d23, d24, h0, h1, h2, h3, h4, h5, h6, h7, h8, h9, h10, h11, h12, h13, h14, h15, h16, h17, h18, h19, h20, h21, h22, h23, h24⟩ := hJ
        refine Runs.of (b := ?bT2) ?eT2 ?_
        case eT2 => simp only [putV, Act.put, List.setIfInBounds_toArray, List.set_cons_zero, List.set_cons_succ]; rfl
        intro K' hK'
        go_simp
        exact hK'.go _ rfl ⟨ta, tcap, oa, ocap, B22, hB, hR, hO, hW, d23, d24, h0, h1, fun _ => rfl, h3, h4, h5, h6, h7, h8, h9, h10, h11, h12, h13, h14, h15, h16, h17, h18, h19, h20, h21, h22, h23, h24⟩
      · intro l x w' hJ hi hd
        obtain ⟨ta, tcap, oa, ocap, B22, hB, hR, hO, hW, d23, d24, h0, h1, h2, h3, h4, h5, h6, h7, h8, h9, h10, h11, h12, h13, h14, h15, h16, h17, h18, h19, h20, h21, h22, h23, h24⟩ := hJ
        refine Runs.of (b := ?bT3) ?eT3 ?_
        case eT3 => simp only [putV, Act.put, List.setIfInBounds_toArray, List.set_cons_zero, List.set_cons_succ]; rfl
        intro K' hK'
        go_simp
        exact hK'.go _ rfl ⟨ta, tcap, oa, ocap, B22, hB, hR, hO, hW, d23, d24, h0, h1, h2, fun _ => rfl, h4, h5, h6, h7, h8, h9, h10, h11, h12, h13, h14, h15, h16, h17, h18, h19, h20, h21, h22, h23, h24⟩
      · intro l x w' hJ hi hd
        obtain ⟨ta, tcap, oa, ocap, B22, hB, hR, hO, hW, d23, d24, h0, h1, h2, h3, h4, h5, h6, h7, h8, h9, h10, h11, h12, h13, h14, h15, h16, h17, h18, h19, h20, h21, h22, h23, h24⟩ := hJ
        have e3 := h3 (show l 3 = true by first | exact hd.1 rfl | exact hd.2.1 rfl | exact hd.2.2.1 rfl | exact hd.2.2.2.1 rfl | exact hd.2.2.2.2.1 rfl | exact hd.2.2.2.2.2.1 rfl)
        refine Runs.of (b := ?bT4) ?eT4 ?_
        case eT4 => simp only [putV, Act.put, List.setIfInBounds_toArray, List.set_cons_zero, List.set_cons_succ, e3]; rfl
        intro K' hK'
        go_simp
        exact hK'.go _ rfl ⟨ta, tcap, oa, ocap, B22, hB, hR, hO, hW, d23, d24, h0, h1, h2, h3, fun _ => rfl, h5, h6, h7, h8, h9, h10, h11, h12, h13, h14, h15, h16, h17, h18, h19, h20, h21, h22, h23, h24⟩
      · intro l x w' hJ hi hd
        obtain ⟨ta, tcap, oa, ocap, B22, hB, hR, hO, hW, d23, d24, h0, h1, h2, h3, h4, h5, h6, h7, h8, h9, h10, h11, h12, h13, h14, h15, h16, h17, h18, h19, h20, h21, h22, h23, h24⟩ := hJ
        have e4 := h4 (show l 4 = true by first | exact hd.1 rfl | exact hd.2.1 rfl | exact hd.2.2.1 rfl | exact hd.2.2.2.1 rfl | exact hd.2.2.2.2.1 rfl | exact hd.2.2.2.2.2.1 rfl)
        refine Runs.of (b := ?bT5) ?eT5 ?_
        case eT5 => simp only [putV, Act.put, List.setIfInBounds_toArray, List.set_cons_zero, List.set_cons_succ, e4]; rfl
        intro K' hK'
        go_simp
        exact hK'.go _ rfl ⟨ta, tcap, oa, ocap, B22, hB, hR, hO, hW, d23, d24, h0, h1, h2, h3, h4, fun _ => rfl, h6, h7, h8, h9, h10, h11, h12, h13, h14, h15, h16, h17, h18, h19, h20, h21, h22, h23, h24⟩
      · intro l x w' hJ hi hd
        obtain ⟨ta, tcap, oa, ocap, B22, hB, hR, hO, hW, d23, d24, h0, h1, h2, h3, h4, h5, h6, h7, h8, h9, h10, h11, h12, h13, h14, h15, h16, h17, h18, h19, h20, h21, h22, h23, h24⟩ := hJ
        have e5 := h5 (show l 5 = true by first | exact hd.1 rfl | exact hd.2.1 rfl | exact hd.2.2.1 rfl | exact hd.2.2.2.1 rfl | exact hd.2.2.2.2.1 rfl | exact hd.2.2.2.2.2.1 rfl)
        refine Runs.of (b := ?bT6) ?eT6 ?_
        case eT6 => simp only [putV, Act.put, List.setIfInBounds_toArray, List.set_cons_zero, List.set_cons_succ, e5]; rfl
        intro K' hK'
        go_simp
        exact hK'.go _ rfl ⟨ta, tcap, oa, ocap, B22, hB, hR, hO, hW, d23, d24, h0, h1, h2, h3, h4, h5, fun _ => rfl, h7, h8, h9, h10, h11, h12, h13, h14, h15, h16, h17, h18, h19, h20, h21, h22, h23, h24⟩
      · intro l x w' hJ hi hd
        obtain ⟨ta, tcap, oa, ocap, B22, hB, hR, hO, hW, d23, d24, h0, h1, h2, h3, h4, h5, h6, h7, h8, h9, h10, h11, h12, h13, h14, h15, h16, h17, h18, h19, h20, h21, h22, h23, h24⟩ := hJ
        have e6 := h6 (show l 6 = true by first | exact hd.1 rfl | exact hd.2.1 rfl | exact hd.2.2.1 rfl | exact hd.2.2.2.1 rfl | exact hd.2.2.2.2.1 rfl | exact hd.2.2.2.2.2.1 rfl)
        have cc := (ctc_5 hB).1
        refine Runs.of (b := ?bT7) ?eT7 ?_
        case eT7 => simp only [putV, Act.put, List.setIfInBounds_toArray, List.set_cons_zero, List.set_cons_succ, e6]; rfl
        intro K' hK'
        go_simp
        exact hK'.go _ rfl ⟨ta, tcap, oa, ocap, B22, hB, hR, hO, hW, d23, d24, h0, h1, h2, h3, h4, h5, h6, fun _ => rfl, h8, h9, h10, h11, h12, h13, h14, h15, h16, h17, h18, h19, h20, h21, h22, h23, h24⟩
      · intro l x w' hJ hi hd
        obtain ⟨ta, tcap, oa, ocap, B22, hB, hR, hO, hW, d23, d24, h0, h1, h2, h3, h4, h5, h6, h7, h8, h9, h10, h11, h12, h13, h14, h15, h16, h17, h18, h19, h20, h21, h22, h23, h24⟩ := hJ
        refine Runs.of (b := ?bT8) ?eT8 ?_
        case eT8 => simp only [putV, Act.put, List.setIfInBounds_toArray, List.set_cons_zero, List.set_cons_succ]; rfl
        intro K' hK'
        go_simp
        exact hK'.go _ rfl ⟨ta, tcap, oa, ocap, B22, hB, hR, hO, hW, d23, d24, h0, h1, h2, h3, h4, h5, h6, h7, fun _ => rfl, h9, h10, h11, h12, h13, h14, h15, h16, h17, h18, h19, h20, h21, h22, h23, h24⟩
      · intro l x w' hJ hi hd
        obtain ⟨ta, tcap, oa, ocap, B22, hB, hR, hO, hW, d23, d24, h0, h1, h2, h3, h4, h5, h6, h7, h8, h9, h10, h11, h12, h13, h14, h15, h16, h17, h18, h19, h20, h21, h22, h23, h24⟩ := hJ
        have e8 := h8 (show l 8 = true by first | exact hd.1 rfl | exact hd.2.1 rfl | exact hd.2.2.1 rfl | exact hd.2.2.2.1 rfl | exact hd.2.2.2.2.1 rfl | exact hd.2.2.2.2.2.1 rfl)
        refine Runs.of (b := ?bT9) ?eT9 ?_
        case eT9 => simp only [putV, Act.put, List.setIfInBounds_toArray, List.set_cons_zero, List.set_cons_succ, e8]; rfl
        intro K' hK'
        go_simp
        exact hK'.go _ rfl ⟨ta, tcap, oa, ocap, B22, hB, hR, hO, hW, d23, d24, h0, h1, h2, h3, h4, h5, h6, h7, h8, fun _ => rfl, h10, h11, h12, h13, h14, h15, h16, h17, h18, h19, h20, h21, h22, h23, h24⟩
      · intro l x w' hJ hi hd
        obtain ⟨ta, tcap, oa, ocap, B22, hB, hR, hO, hW, d23, d24, h0, h1, h2, h3, h4, h5, h6, h7, h8, h9, h10, h11, h12, h13, h14, h15, h16, h17, h18, h19, h20, h21, h22, h23, h24⟩ := hJ
        have e9 := h9 (show l 9 = true by first | exact hd.1 rfl | exact hd.2.1 rfl | exact hd.2.2.1 rfl | exact hd.2.2.2.1 rfl | exact hd.2.2.2.2.1 rfl | exact hd.2.2.2.2.2.1 rfl)
        refine Runs.of (b := ?bT10) ?eT10 ?_
        case eT10 => simp only [putV, Act.put, List.setIfInBounds_toArray, List.set_cons_zero, List.set_cons_succ, e9]; rfl
        intro K' hK'
        go_simp
        exact hK'.go _ rfl ⟨ta, tcap, oa, ocap, B22, hB, hR, hO, hW, d23, d24, h0, h1, h2, h3, h4, h5, h6, h7, h8, h9, fun _ => rfl, h11, h12, h13, h14, h15, h16, h17, h18, h19, h20, h21, h22, h23, h24⟩
      · intro l x w' hJ hi hd
        obtain ⟨ta, tcap, oa, ocap, B22, hB, hR, hO, hW, d23, d24, h0, h1, h2, h3, h4, h5, h6, h7, h8, h9, h10, h11, h12, h13, h14, h15, h16, h17, h18, h19, h20, h21, h22, h23, h24⟩ := hJ
        have e10 := h10 (show l 10 = true by first | exact hd.1 rfl | exact hd.2.1 rfl | exact hd.2.2.1 rfl | exact hd.2.2.2.1 rfl | exact hd.2.2.2.2.1 rfl | exact hd.2.2.2.2.2.1 rfl)
        refine Runs.of (b := ?bT11) ?eT11 ?_
        case eT11 => simp only [putV, Act.put, List.setIfInBounds_toArray, List.set_cons_zero, List.set_cons_succ, e10]; rfl
        intro K' hK'
        go_simp
        exact hK'.go _ rfl ⟨ta, tcap, oa, ocap, B22, hB, hR, hO, hW, d23, d24, h0, h1, h2, h3, h4, h5, h6, h7, h8, h9, h10, fun _ => rfl, h12, h13, h14, h15, h16, h17, h18, h19, h20, h21, h22, h23, h24⟩
      · intro l x w' hJ hi hd
        obtain ⟨ta, tcap, oa, ocap, B22, hB, hR, hO, hW, d23, d24, h0, h1, h2, h3, h4, h5, h6, h7, h8, h9, h10, h11, h12, h13, h14, h15, h16, h17, h18, h19, h20, h21, h22, h23, h24⟩ := hJ
        have e11 := h11 (show l 11 = true by first | exact hd.1 rfl | exact hd.2.1 rfl | exact hd.2.2.1 rfl | exact hd.2.2.2.1 rfl | exact hd.2.2.2.2.1 rfl | exact hd.2.2.2.2.2.1 rfl)
        have cc := (ctc_7 hB).1
        refine Runs.of (b := ?bT12) ?eT12 ?_
        case eT12 => simp only [putV, Act.put, List.setIfInBounds_toArray, List.set_cons_zero, List.set_cons_succ, e11]; rfl
        intro K' hK'
        go_simp
        exact hK'.go _ rfl ⟨ta, tcap, oa, ocap, B22, hB, hR, hO, hW, d23, d24, h0, h1, h2, h3, h4, h5, h6, h7, h8, h9, h10, h11, fun _ => rfl, h13, h14, h15, h16, h17, h18, h19, h20, h21, h22, h23, h24⟩
      · intro l x w' hJ hi hd
        obtain ⟨ta, tcap, oa, ocap, B22, hB, hR, hO, hW, d23, d24, h0, h1, h2, h3, h4, h5, h6, h7, h8, h9, h10, h11, h12, h13, h14, h15, h16, h17, h18, h19, h20, h21, h22, h23, h24⟩ := hJ
        have e12 := h12 (show l 12 = true by first | exact hd.1 rfl | exact hd.2.1 rfl | exact hd.2.2.1 rfl | exact hd.2.2.2.1 rfl | exact hd.2.2.2.2.1 rfl | exact hd.2.2.2.2.2.1 rfl)
        have l23 : l 23 = false := by cases hh : l 23 with | false => rfl | true => have h9 := (h22 (d23 hh).2).1; have := h9.2.1; rw [hi] at this; cases this
        refine Runs.of (b := ?bT13) ?eT13 ?_
        case eT13 => simp only [putV, Act.put, List.setIfInBounds_toArray, List.set_cons_zero, List.set_cons_succ, e12]; rfl
        intro K' hK'
        go_simp
        refine (CloneI_any _ t.dest hR.dest.irv (by have := hR.ton; omega) hdest).mono ?_
        rintro e w2 ⟨v2, rfl, hO5, k2⟩
        obtain ⟨ua, ucap, rfl⟩ := hO5.islice
        go_simp
        exact hK'.go _ rfl ⟨ua, ucap, oa, ocap, B22, hB.keep k2 (by simp), hR.still k2, (by show TRow w2 w.heap.size (if l 23 = true then _ else _) (if l 23 = true then _ else _); rw [l23] at hO ⊢; exact hO.still k2), hW.trans k2, d23, d24, h0, h1, h2, h3, h4, h5, h6, h7, h8, h9, h10, h11, h12, fun _ => ⟨rfl, hO5.mono (by omega)⟩, h14, h15, h16, h17, h18, h19, fun h => ⟨(h20 h).1, (h20 h).2.keep k2 (by simp)⟩, fun h => absurd ((h21 h).2.1.symm.trans hi) (by decide), fun h => absurd ((h22 h).1.2.1.symm.trans hi) (by decide), h23, h24⟩
      · intro l x w' hJ hi hd
        obtain ⟨ta, tcap, oa, ocap, B22, hB, hR, hO, hW, d23, d24, h0, h1, h2, h3, h4, h5, h6, h7, h8, h9, h10, h11, h12, h13, h14, h15, h16, h17, h18, h19, h20, h21, h22, h23, h24⟩ := hJ
        refine Runs.of (b := ?bT14) ?eT14 ?_
        case eT14 => simp only [putV, Act.put, List.setIfInBounds_toArray, List.set_cons_zero, List.set_cons_succ]; rfl
        intro K' hK'
        go_simp
        exact hK'.go _ rfl ⟨ta, tcap, oa, ocap, B22, hB, hR, hO, hW, d23, d24, h0, h1, h2, h3, h4, h5, h6, h7, h8, h9, h10, h11, h12, h13, fun _ => rfl, h15, h16, h17, h18, h19, h20, h21, h22, h23, h24⟩
      · intro l x w' hJ hi hd
        obtain ⟨ta, tcap, oa, ocap, B22, hB, hR, hO, hW, d23, d24, h0, h1, h2, h3, h4, h5, h6, h7, h8, h9, h10, h11, h12, h13, h14, h15, h16, h17, h18, h19, h20, h21, h22, h23, h24⟩ := hJ
        have e14 := h14 (show l 14 = true by first | exact hd.1 rfl | exact hd.2.1 rfl | exact hd.2.2.1 rfl | exact hd.2.2.2.1 rfl | exact hd.2.2.2.2.1 rfl | exact hd.2.2.2.2.2.1 rfl)
        refine Runs.of (b := ?bT15) ?eT15 ?_
        case eT15 => simp only [putV, Act.put, List.setIfInBounds_toArray, List.set_cons_zero, List.set_cons_succ, e14]; rfl
        intro K' hK'
        go_simp
        exact hK'.go _ rfl ⟨ta, tcap, oa, ocap, B22, hB, hR, hO, hW, d23, d24, h0, h1, h2, h3, h4, h5, h6, h7, h8, h9, h10, h11, h12, h13, h14, fun _ => rfl, h16, h17, h18, h19, h20, h21, h22, h23, h24⟩
      · intro l x w' hJ hi hd
        obtain ⟨ta, tcap, oa, ocap, B22, hB, hR, hO, hW, d23, d24, h0, h1, h2, h3, h4, h5, h6, h7, h8, h9, h10, h11, h12, h13, h14, h15, h16, h17, h18, h19, h20, h21, h22, h23, h24⟩ := hJ
        have e15 := h15 (show l 15 = true by first | exact hd.1 rfl | exact hd.2.1 rfl | exact hd.2.2.1 rfl | exact hd.2.2.2.1 rfl | exact hd.2.2.2.2.1 rfl | exact hd.2.2.2.2.2.1 rfl)
        refine Runs.of (b := ?bT16) ?eT16 ?_
        case eT16 => simp only [putV, Act.put, List.setIfInBounds_toArray, List.set_cons_zero, List.set_cons_succ, e15]; rfl
        intro K' hK'
        go_simp
        exact hK'.go _ rfl ⟨ta, tcap, oa, ocap, B22, hB, hR, hO, hW, d23, d24, h0, h1, h2, h3, h4, h5, h6, h7, h8, h9, h10, h11, h12, h13, h14, h15, fun _ => rfl, h17, h18, h19, h20, h21, h22, h23, h24⟩
      · intro l x w' hJ hi hd
        obtain ⟨ta, tcap, oa, ocap, B22, hB, hR, hO, hW, d23, d24, h0, h1, h2, h3, h4, h5, h6, h7, h8, h9, h10, h11, h12, h13, h14, h15, h16, h17, h18, h19, h20, h21, h22, h23, h24⟩ := hJ
        have e16 := h16 (show l 16 = true by first | exact hd.1 rfl | exact hd.2.1 rfl | exact hd.2.2.1 rfl | exact hd.2.2.2.1 rfl | exact hd.2.2.2.2.1 rfl | exact hd.2.2.2.2.2.1 rfl)
        refine Runs.of (b := ?bT17) ?eT17 ?_
        case eT17 => simp only [putV, Act.put, List.setIfInBounds_toArray, List.set_cons_zero, List.set_cons_succ, e16]; rfl
        intro K' hK'
        go_simp
        exact hK'.go _ rfl ⟨ta, tcap, oa, ocap, B22, hB, hR, hO, hW, d23, d24, h0, h1, h2, h3, h4, h5, h6, h7, h8, h9, h10, h11, h12, h13, h14, h15, h16, fun _ => rfl, h18, h19, h20, h21, h22, h23, h24⟩
      · intro l x w' hJ hi hd
        obtain ⟨ta, tcap, oa, ocap, B22, hB, hR, hO, hW, d23, d24, h0, h1, h2, h3, h4, h5, h6, h7, h8, h9, h10, h11, h12, h13, h14, h15, h16, h17, h18, h19, h20, h21, h22, h23, h24⟩ := hJ
        have e17 := h17 (show l 17 = true by first | exact hd.1 rfl | exact hd.2.1 rfl | exact hd.2.2.1 rfl | exact hd.2.2.2.1 rfl | exact hd.2.2.2.2.1 rfl | exact hd.2.2.2.2.2.1 rfl)
        have cc := (ctc_2 hB).1
        refine Runs.of (b := ?bT18) ?eT18 ?_
        case eT18 => simp only [putV, Act.put, List.setIfInBounds_toArray, List.set_cons_zero, List.set_cons_succ, e17]; rfl
        intro K' hK'
        go_simp
        exact hK'.go _ rfl ⟨ta, tcap, oa, ocap, B22, hB, hR, hO, hW, d23, d24, h0, h1, h2, h3, h4, h5, h6, h7, h8, h9, h10, h11, h12, h13, h14, h15, h16, h17, fun _ => rfl, h19, h20, h21, h22, h23, h24⟩
      · intro l x w' hJ hi hd
        obtain ⟨ta, tcap, oa, ocap, B22, hB, hR, hO, hW, d23, d24, h0, h1, h2, h3, h4, h5, h6, h7, h8, h9, h10, h11, h12, h13, h14, h15, h16, h17, h18, h19, h20, h21, h22, h23, h24⟩ := hJ
        refine Runs.of (b := ?bT19) ?eT19 ?_
        case eT19 => simp only [putV, Act.put, List.setIfInBounds_toArray, List.set_cons_zero, List.set_cons_succ]; rfl
        intro K' hK'
        go_simp
        exact hK'.go _ rfl ⟨ta, tcap, oa, ocap, B22, hB, hR, hO, hW, d23, d24, h0, h1, h2, h3, h4, h5, h6, h7, h8, h9, h10, h11, h12, h13, h14, h15, h16, h17, h18, fun _ => rfl, h20, h21, h22, h23, h24⟩
      · intro l x w' hJ hi hd
        obtain ⟨ta, tcap, oa, ocap, B22, hB, hR, hO, hW, d23, d24, h0, h1, h2, h3, h4, h5, h6, h7, h8, h9, h10, h11, h12, h13, h14, h15, h16, h17, h18, h19, h20, h21, h22, h23, h24⟩ := hJ
        have e19 := h19 (show l 19 = true by first | exact hd.1 rfl | exact hd.2.1 rfl | exact hd.2.2.1 rfl | exact hd.2.2.2.1 rfl | exact hd.2.2.2.2.1 rfl | exact hd.2.2.2.2.2.1 rfl)
        have l23 : l 23 = false := by cases hh : l 23 with | false => rfl | true => have h9 := (h22 (d23 hh).2).1; have := h9.2.2; rw [hi] at this; cases this
        refine Runs.of (b := ?bT20) ?eT20 ?_
        case eT20 => simp only [putV, Act.put, List.setIfInBounds_toArray, List.set_cons_zero, List.set_cons_succ, e19]; rfl
        intro K' hK'
        go_simp
        refine (Members_any hB hR hmem).mono ?_
        rintro e w2 ⟨v2, rfl, hO5, k2⟩
        obtain ⟨ua, ucap, rfl⟩ := hO5.islice
        go_simp
        exact hK'.go _ rfl ⟨ta, tcap, ua, ucap, B22, hB.keep k2 (by simp), hR.still k2, (by show TRow w2 w.heap.size (if l 23 = true then _ else _) (if l 23 = true then _ else _); rw [l23] at hO ⊢; exact hO.still k2), hW.trans k2, d23, d24, h0, h1, h2, h3, h4, h5, h6, h7, h8, h9, h10, h11, h12, fun h => ⟨(h13 h).1, (h13 h).2.keep k2 (by simp)⟩, h14, h15, h16, h17, h18, h19, fun _ => ⟨rfl, hO5.mono (by omega)⟩, fun h => absurd ((h21 h).2.2.symm.trans hi) (by decide), fun h => absurd ((h22 h).1.2.2.symm.trans hi) (by decide), h23, h24⟩
      · intro l x w' hJ hi hd
        obtain ⟨ta, tcap, oa, ocap, B22, hB, hR, hO, hW, d23, d24, h0, h1, h2, h3, h4, h5, h6, h7, h8, h9, h10, h11, h12, h13, h14, h15, h16, h17, h18, h19, h20, h21, h22, h23, h24⟩ := hJ
        have e1 := h1 (show l 1 = true by first | exact hd.1 rfl | exact hd.2.1 rfl | exact hd.2.2.1 rfl | exact hd.2.2.2.1 rfl | exact hd.2.2.2.2.1 rfl | exact hd.2.2.2.2.2.1 rfl)
        have e2 := h2 (show l 2 = true by first | exact hd.1 rfl | exact hd.2.1 rfl | exact hd.2.2.1 rfl | exact hd.2.2.2.1 rfl | exact hd.2.2.2.2.1 rfl | exact hd.2.2.2.2.2.1 rfl)
        have e7 := h7 (show l 7 = true by first | exact hd.1 rfl | exact hd.2.1 rfl | exact hd.2.2.1 rfl | exact hd.2.2.2.1 rfl | exact hd.2.2.2.2.1 rfl | exact hd.2.2.2.2.2.1 rfl)
        have e13 := h13 (show l 13 = true by first | exact hd.1 rfl | exact hd.2.1 rfl | exact hd.2.2.1 rfl | exact hd.2.2.2.1 rfl | exact hd.2.2.2.2.1 rfl | exact hd.2.2.2.2.2.1 rfl)
        have e18 := h18 (show l 18 = true by first | exact hd.1 rfl | exact hd.2.1 rfl | exact hd.2.2.1 rfl | exact hd.2.2.2.1 rfl | exact hd.2.2.2.2.1 rfl | exact hd.2.2.2.2.2.1 rfl)
        have e20 := h20 (show l 20 = true by first | exact hd.1 rfl | exact hd.2.1 rfl | exact hd.2.2.1 rfl | exact hd.2.2.2.1 rfl | exact hd.2.2.2.2.1 rfl | exact hd.2.2.2.2.2.1 rfl)
        have L13 := Lib.hid (show l 13 = true by first | exact hd.1 rfl | exact hd.2.1 rfl | exact hd.2.2.1 rfl | exact hd.2.2.2.1 rfl | exact hd.2.2.2.2.1 rfl | exact hd.2.2.2.2.2.1 rfl)
        have L20 := Lib.hid (show l 20 = true by first | exact hd.1 rfl | exact hd.2.1 rfl | exact hd.2.2.1 rfl | exact hd.2.2.2.1 rfl | exact hd.2.2.2.2.1 rfl | exact hd.2.2.2.2.2.1 rfl)
        refine Runs.of (b := ?bT21) ?eT21 ?_
        case eT21 => simp only [putV, Act.put, List.setIfInBounds_toArray, List.set_cons_zero, List.set_cons_succ, e1, e2, e7, e13.1, e18, e20.1]; rfl
        intro K' hK'
        go_simp
        exact hK'.go _ rfl ⟨ta, tcap, oa, ocap, B22, hB, hR, hO, hW, d23, d24, h0, h1, h2, h3, h4, h5, h6, h7, h8, h9, h10, h11, h12, h13, h14, h15, h16, h17, h18, h19, h20, fun _ => ⟨rfl, L13.out, L20.out⟩, h22, h23, h24⟩
      · intro l x w' hJ hi hd
        obtain ⟨ta, tcap, oa, ocap, B22, hB, hR, hO, hW, d23, d24, h0, h1, h2, h3, h4, h5, h6, h7, h8, h9, h10, h11, h12, h13, h14, h15, h16, h17, h18, h19, h20, h21, h22, h23, h24⟩ := hJ
        have e21 := h21 (show l 21 = true by first | exact hd.1 rfl | exact hd.2.1 rfl | exact hd.2.2.1 rfl | exact hd.2.2.2.1 rfl | exact hd.2.2.2.2.1 rfl | exact hd.2.2.2.2.2.1 rfl)
        have hlen21 : ∀ y : Tm, (tmC y).length = 21 := fun _ => rfl
        have L13 := Lib.hid e21.2.1
        have L20 := Lib.hid e21.2.2
        refine Runs.of (b := ?bT22) ?eT22 ?_
        case eT22 => simp only [putV, Act.put, List.setIfInBounds_toArray, List.set_cons_zero, List.set_cons_succ, e21.1]; rfl
        intro K' hK'
        refine step_bs_tm rfl _ rfl (⟨tellM t kind nd, (Value.slice ta t.dest.length tcap), (Value.slice oa t.mem.length ocap)⟩ : Tm) rfl ?_
        exact hK'.go _ rfl ⟨ta, tcap, oa, ocap, w'.heap.size, hB.keep ((Keep.refl [] _).alloc _) (by simp), hR.still ((Keep.refl [] _).alloc _), hO.still ((Keep.refl [] _).alloc _), hW.alloc _, fun h => ⟨(d23 h).1, rfl⟩, d24, h0, h1, h2, h3, h4, h5, h6, h7, h8, h9, h10, h11, h12, fun h => ⟨(h13 h).1, (h13 h).2.alloc _⟩, h14, h15, h16, h17, h18, h19, fun h => ⟨(h20 h).1, (h20 h).2.alloc _⟩, h21, fun _ => ⟨⟨rfl, L13.out, L20.out⟩, fun _ => ⟨rfl, Blk.new _ _ _⟩⟩, h23, h24⟩
      · intro l x w' hJ hi hd
        obtain ⟨ta, tcap, oa, ocap, B22, hB, hR, hO, hW, d23, d24, h0, h1, h2, h3, h4, h5, h6, h7, h8, h9, h10, h11, h12, h13, h14, h15, h16, h17, h18, h19, h20, h21, h22, h23, h24⟩ := hJ
        have e0 := h0 (show l 0 = true by first | exact hd.1 rfl | exact hd.2.1 rfl | exact hd.2.2.1 rfl | exact hd.2.2.2.1 rfl | exact hd.2.2.2.2.1 rfl | exact hd.2.2.2.2.2.1 rfl)
        have L22 := Lib.hid (show l 22 = true by first | exact hd.1 rfl | exact hd.2.1 rfl | exact hd.2.2.1 rfl | exact hd.2.2.2.1 rfl | exact hd.2.2.2.2.1 rfl | exact hd.2.2.2.2.2.1 rfl)
        have L0 := Lib.hid (show l 0 = true by first | exact hd.1 rfl | exact hd.2.1 rfl | exact hd.2.2.1 rfl | exact hd.2.2.2.1 rfl | exact hd.2.2.2.2.1 rfl | exact hd.2.2.2.2.2.1 rfl)
        obtain ⟨⟨_, L13, L20⟩, h22b⟩ := h22 L22.out
        obtain ⟨e22, hb22⟩ := h22b hi
        have O13 := (h13 L13).2
        have O20 := (h20 L20).2
        have hY : TmOk w' (⟨tellM t kind nd, (Value.slice ta t.dest.length tcap), (Value.slice oa t.mem.length ocap)⟩ : Tm) := ⟨O13, O20, rfl, rfl⟩
        have hO' : TRow w' w.heap.size (Value.slice xa L.length xcap) L := by have h := hO; rw [hi] at h; exact h
        have hsrc := src_tm (P := Try.prog) Try.underlying29 _ _ _ hb22 hY.one
        have hsz := hW.size
        refine Runs.of (b := ?bT23) ?eT23 ?_
        case eT23 => simp only [putV, Act.put, List.setIfInBounds_toArray, List.set_cons_zero, List.set_cons_succ, e0, e22]; rfl
        intro K' hK'
        refine step_append_src _ rfl _ _ 29 29 rfl w.heap.size 39 i0 _ 21 256 Try.underlying29 hi0 hz0 hz1 hz2 rfl (by decide) _ L.length (tc L) rfl hO'.own _ 1 _ rfl hsrc (by unfold maxLen; omega) (by omega) (by omega) ?_
        intro v1 w4 h1' h2' _ h3'
        have hrow := hO'.snoc hY h1' (Keep.grown h2')
        have k2 := Keep.grown h2'
        have hxb : ∀ q ∈ (Value.ownBlock (Value.slice xa L.length xcap)).toList, w.heap.size ≤ q := fun q hq => (hO'.lt q (Option.mem_toList.1 hq)).1
        have hxt : ∀ q ∈ (Value.ownBlock (Value.slice xa L.length xcap)).toList, ¬ Ty w' q 3 := fun q hq ht => (hO'.ty q (Option.mem_toList.1 hq)).ne ht (by decide) rfl
        have hcl := HC.out
        exact hK'.go v1 rfl ⟨ta, tcap, oa, ocap, B22, hB.keep k2 (fun hm => by have := hxb _ hm; omega), hR.keep k2 hxt, hrow, hW.then k2 (fun q hq hlt => by have := hxb q hq; omega), fun _ => ⟨L0.out, L22.out⟩, d24, h0, h1, h2, h3, h4, h5, h6, h7, h8, h9, h10, h11, h12, fun h => ⟨(h13 h).1, (h13 h).2.keep k2 (fun q hq hm => hxt q hm ((h13 h).2.ty q hq))⟩, h14, h15, h16, h17, h18, h19, fun h => ⟨(h20 h).1, (h20 h).2.keep k2 (fun q hq hm => hxt q hm ((h20 h).2.ty q hq))⟩, h21, fun h => ⟨(h22 h).1, fun h' => Bool.noConfusion (show true = false from h')⟩, fun _ => trivial, fun h => absurd ((h24 h).2.symm.trans hi) (by decide)⟩
      · intro l x w' hJ hi hd
        obtain ⟨ta, tcap, oa, ocap, B22, hB, hR, hO, hW, d23, d24, h0, h1, h2, h3, h4, h5, h6, h7, h8, h9, h10, h11, h12, h13, h14, h15, h16, h17, h18, h19, h20, h21, h22, h23, h24⟩ := hJ
        have L23 := Lib.hid (show l 23 = true by first | exact hd.1 rfl | exact hd.2.1 rfl | exact hd.2.2.1 rfl | exact hd.2.2.2.1 rfl | exact hd.2.2.2.2.1 rfl | exact hd.2.2.2.2.2.1 rfl)
        refine Runs.of (b := ?bT24) ?eT24 ?_
        case eT24 => simp only [putV, Act.put, List.setIfInBounds_toArray, List.set_cons_zero, List.set_cons_succ]; rfl
        intro K' hK'
        go_simp
        exact hK'.go _ rfl ⟨ta, tcap, oa, ocap, B22, hB, hR, hO, hW, d23, fun h => Bool.noConfusion (show true = false from h), h0, h1, h2, h3, h4, h5, h6, h7, h8, h9, h10, h11, h12, h13, h14, h15, h16, h17, h18, h19, h20, h21, h22, h23, fun _ => ⟨rfl, L23.out⟩⟩
      · intro l x w3 hJ hl
        obtain ⟨ta, tcap, oa, ocap, B22, hB, hR, hO, hW, d23, d24, h0, h1, h2, h3, h4, h5, h6, h7, h8, h9, h10, h11, h12, h13, h14, h15, h16, h17, h18, h19, h20, h21, h22, h23, h24⟩ := hJ
        have e13 := h13 (hl 13 (by decide))
        have e24 := (h24 (hl 24 (by decide))).1
        rw [if_pos (hl 23 (by decide)), if_pos (hl 23 (by decide))] at hO
        simp only [putV, Act.put, List.setIfInBounds_toArray, List.set_cons_zero, List.set_cons_succ, e24]
        clear h0 h1 h2 h3 h4 h5 h6 h7 h8 h9 h10 h11 h12 h13 h14 h15 h16 h17 h18 h19 h20 h21 h22 h23 h24 hl d23 d24 e24 e13 hB0 hR0 hO0 hK0 hcell
        generalize x 23 = xv at *
        go_wp2_with fail
        go_roundw
        case rel => exact ⟨j + 1, _, by go_num, by omega, HN.out _ rfl, by rw [List.length_append, HLN.out]; rfl, hO, hB, hR, hW⟩
        case measure => simp [intOf]; omega
    · obtain rfl : j = l.length := by omega
      have hL := HL.out
      rw [List.take_length] at hL
      go_wp2_with fail
      go_ret
      exact ⟨_, L, rfl, hO0, hL, hK0⟩
end Go.Proofs.Ytcoaobdijlppgaa
