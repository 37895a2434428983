/- What the law NumMany calls: the reference's Put, PutText; Texts; an append onto a full slice. -/
import Derived.Test.YthknelejcedhnaaNumCut
import Derived.Test.YthknelejcedhnaaNumOne
namespace Go.Proofs.Ythknelejcedhnaa
open Go.ChangeShapes Go.WideShapes Go.ChangeAt Go.RowKit
set_option linter.unusedVariables false
set_option linter.unusedSimpArgs false

section
variable {P : Program} {w : World}
/-- append onto a slice without spare: its own cells stay as they are. -/
theorem run_append_full (t tx ty e : TypeId) (i : TypeInfo) (z : Value) (ht : P.underlying t = some (.slice e)) (hi : P.info? e = some i) (hz : i.zero = some z) (hsz : i.size = 1) (hby : i.bytes ≤ 64)
    (hzs : z.cells.size = 1) (a : Option Addr) (n : Nat) (vs : List Value) (hv : Rv w 1 (.slice a n n) n vs) (x : Value) (m : Nat) (news : List Value) (hs : Src P 1 tx x m news w) (h1 : ∀ u ∈ vs, u.oneCell' = true)
    (hb : n + m ≤ 1099511627776) :
    ∃ v' w', (Builtin.append_ #[t, tx] ty #[.slice a n n, x]).run P w = .ok v' w' ∧ Rv w' 1 v' (n + m) (vs ++ news) ∧ Keep [] w w' := by
  have hs' : Src P i.size tx x m news w := by rw [hsz]; exact hs
  have hl : vs.length = n := by have := hv.len; omega
  have hml : news.length = m := by have := hs.newsLen; omega
  by_cases hm : m = 0
  · subst hm
    have hn : news = [] := List.eq_nil_of_length_eq_zero hml
    subst hn
    refine ⟨.slice a n n, w, ?_, by simpa using hv, Keep.refl _ _⟩
    cases a with
    | none =>
      have h0 := hs'.cells
      rcases hs.kind with ⟨e', hk⟩ | hk <;> simp [Builtin.append_, run_underlying ht, run_underlying hk, sizeOf, typeInfo, hi, hs'.len, h0]
    | some ad =>
      have h0 := hs'.cells
      rcases hs.kind with ⟨e', hk⟩ | hk <;> simp [Builtin.append_, run_underlying ht, run_underlying hk, sizeOf, typeInfo, hi, hs'.len, h0, storeCells]
  · have hold : (Builtin.firstCells i.size n (.slice a n n)).run P w.drew = .ok vs.toArray w.drew := by
      rw [hsz]
      exact (Rv.src (P := P) (hv.keep (Keep.refl [] _).drew (by simp)) ht h1).cells
    have hr := run_append_grow_src (P := P) w t tx ty e i z ht hi hz a n n vs hold x m news hs' (by omega) (by omega) (growslice_fits (by omega) (by
      have : (n + m) * i.bytes ≤ (n + m) * 64 := Nat.mul_le_mul_left _ hby
      omega))
    refine ⟨_, _, hr, ?_, (Keep.refl _ _).drew.alloc _⟩
    have hge := grownCap_ge w (n + m) n e
    refine ⟨by simp [hl, hml], _, _, rfl, hge, fun _ => ⟨w.heap.size, 0, rfl, by simp, fun j hj => ?_⟩⟩
    rw [Nat.zero_add]
    show (w.drew.alloc _).cell? ⟨w.drew.heap.size, j, none⟩ = _
    rw [World.cell?_alloc_new]
    rw [Array.getElem?_append_left (by simpa using hj)]
    simp

theorem wpList_append_full {ops : Array Oper} {rest : List Oper} {o : Oper} {a : Act} {Q : Exit → Act → World → Prop} (hgd : o.guard = none) (s x : Operand) (t tx : TypeId)
    (ho : o.op = .call { callee := .builtin .append, args := #[s, x], argTypes := #[t, tx] })
    (e : TypeId) (i : TypeInfo) (z : Value) (ht : P.underlying t = some (.slice e)) (hi : P.info? e = some i) (hz : i.zero = some z) (hsz : i.size = 1) (hby : i.bytes ≤ 64) (hzs : z.cells.size = 1)
    (ad : Option Addr) (n : Nat) (vs : List Value) (hse : a.eval s = .slice ad n n) (hv : Rv w 1 (.slice ad n n) n vs) (xv : Value) (m : Nat) (news : List Value) (hx : a.eval x = xv) (hs : Src P 1 tx xv m news w)
    (h1 : ∀ u ∈ vs, u.oneCell' = true) (hb : n + m ≤ 1099511627776)
    (h : ∀ v' w', Rv w' 1 v' (n + m) (vs ++ news) → Keep [] w w' → wpList P ops Q rest (a.put o.dst v') w') : wpList P ops Q (o :: rest) a w := by
  obtain ⟨v', w', hr, h2, h3⟩ := run_append_full (P := P) (w := w) t tx o.type e i z ht hi hz hsz hby hzs ad n vs hv xv m news hs h1 hb
  refine wpList_plain hgd fun K hK => ?_
  unfold Oper.wp execOp
  simp only [ho, resolve, invoke, builtin, Sem.run_bind, Sem.run_pure, Result.andThen_ok, List.map_toArray, List.map_cons, List.map_nil, hse, hx, hr]
  exact hK _ _ (h v' w' h2 h3)
/-- b[lo:hi:hi] -/
theorem wpList_slice_full {ops : Array Oper} {rest : List Oper} {Q : Exit → Act → World → Prop} {a : Act} (dst : Option Tmp) (t : TypeId) (x y z u : Operand) (ty : TypeId) (pos : String) (aft : Array Edge) (e : TypeId) (i : TypeInfo)
    (ht : P.underlying t = some (.slice e)) (hi : P.info? e = some i) (hz : i.size = 1) (v : Value) (n : Nat) (vs : List Value) (lo hi' mx : Int) (l h : Nat)
    (hx : a.eval x = v) (hy : a.eval y = .int .i64 lo) (hzz : a.eval z = .int .i64 hi') (huu : a.eval u = .int .i64 mx) (hlo : lo = l) (hhi : hi' = h) (hmx : mx = h) (hr : Rv w 1 v n vs) (hle : l ≤ h) (hn : h ≤ n)
    (H : ∀ ad, Rv w 1 (.slice ad (h - l) (h - l)) (h - l) ((vs.drop l).take (h - l)) → (Value.slice ad (h - l) (h - l)).ownBlock = v.ownBlock → wpList P ops Q rest (a.put dst (.slice ad (h - l) (h - l))) w) :
    wpList P ops Q (⟨dst, .slice t x (some y) (some z) (some u), ty, pos, aft, none⟩ :: rest) a w := by
  subst hlo hhi hmx
  refine wpList_plain rfl fun K hK => ?_
  have hr2 := hr
  obtain ⟨hvl, ad, cap, rfl, hcap, hat⟩ := hr2
  unfold Oper.wp execOp
  simp only [Sem.run_bind, Sem.run_pure, Result.andThen_ok, hx, hy, hzz, huu, Option.map_some, Option.map_none, run_cut t e i ht hi hz ad n cap l h h hle (Nat.le_refl _) (by omega) (some (.int .i64 h)) (.inr rfl)]
  refine hK _ _ (H _ ⟨by simp [List.length_take, List.length_drop]; omega, _, _, rfl, Nat.le_refl _, fun hp => ?_⟩ ((ownBlock_cut ad n h l _ _).trans (by cases ad <;> rfl)))
  simp only [List.length_take, List.length_drop] at hp
  obtain ⟨sb, so, rfl, hs, hat⟩ := hat (by omega)
  have hne : ¬ h = l := by omega
  refine ⟨sb, so + l, ?_, hs, fun j hj => ?_⟩
  · rw [if_neg hne]
    simp only [Option.map_some, Addr.add]
    by_cases h0 : l = 0
    · subst h0; simp
    · simp [h0]
  · simp only [List.length_take, List.length_drop] at hj
    rw [Nat.add_assoc, hat (l + j) (by omega), List.getElem?_take, if_pos (by omega), List.getElem?_drop]
end

set_option maxHeartbeats 400000 in
theorem refPut_any {w : World} (n : Int) (n0 : -9223372036854775808 ≤ n) (n1 : n ≤ 9223372036854775807) :
    Calls Try.prog 17 #[.int .i64 n] w fun e w' => ∃ v', e = .returned v' ∧ Onto w w.heap.size 5 (.slice none 0 0) (leb (zz n)) v' w' := by
  obtain ⟨i0, hi, hz0, hz1, hz2⟩ := info_parts Try.info8
  have hcase : n < 0 ∨ 0 ≤ n := by omega
  rcases hcase with hn | hn
  · go_enter Try.func17, Try.ntmps17
    go_wp2_with fail
    rw [put_neg n n0 hn]
    have hz := zz_lt n n0 n1
    generalize hZ : zz n = Z at *
    have HZ := Lib.hid hZ
    clear hZ
    go_loopw [4, 3] (fun b u wr => ∃ (l' : List Nat) (U : Nat) (v' : Value), b = v' ∧ u = .int .u64 U ∧ U < 18446744073709551616 ∧ l' ++ leb U = leb Z ∧ Onto w w.heap.size 5 (.slice none 0 0) l' v' wr) (fun _ u _ => (intOf u).toNat)
    case atStart => exact ⟨[], Z, _, rfl, rfl, hz, rfl, Onto.refl (Buf.nil _ _ _)⟩
    case round =>
      obtain ⟨l', U, v', rfl, rfl, hU, hE, hO⟩ := hrel
      have HE := Lib.hid hE
      clear hE
      obtain ⟨a', cap', rfl⟩ := hO.buf.slice
      have hlen : l'.length + (leb U).length = (leb Z).length := by have := congrArg List.length HE.out; simpa using this
      have hZl := leb_len 10 Z (by omega) (by omega)
      have hU1 : 0 < (leb U).length := List.length_pos_iff.2 (leb_ne U)
      have hks := hO.keep.size
      have hbuf := hO.buf
      by_cases hbig : 128 ≤ U
      · have q1 : (128 : Int) ≤ U := by omega
        obtain ⟨X, hX⟩ : ∃ X : Nat, X = U % 128 + 128 := ⟨_, rfl⟩
        have hor : (U : Int) % 128 + 128 = (X : Int) := by omega
        have hXb : X < 256 := by omega
        have HX := Lib.hid hX
        clear hX
        go_wp2_with (at_builtin; refine wpList_append_src _ rfl _ _ 22 22 rfl w.heap.size 5 i0 (.int .u8 0) 1 1 Try.underlying22 hi hz0 hz1 hz2 rfl (by decide) _ _ _ rfl (hbuf.alloc _) _ 1 (bcs [X]) rfl (src_new1 Try.underlying22 _ X _) (by unfold maxLen; omega) (by omega) (by simp; omega) ?_; intro v1 w1 h1 h2 _ h3)
        go_roundw
        case rel =>
          refine ⟨l' ++ [X], U / 128, v1, rfl, by go_num, by omega, ?_, (hO.alloc _).app h1 h2 h3⟩
          rw [← HE.out, leb_big U (by omega), HX.out]; simp
        case measure => simp [intOf]; omega
      · have q1 : ¬ (128 : Int) ≤ U := by omega
        have q2 : (U : Int) ≤ 127 := by omega
        go_wp2_with (at_builtin; refine wpList_append_src _ rfl _ _ 22 22 rfl w.heap.size 5 i0 (.int .u8 0) 1 1 Try.underlying22 hi hz0 hz1 hz2 rfl (by decide) _ _ _ rfl (hbuf.alloc _) _ 1 (bcs [U]) rfl (src_new1 Try.underlying22 _ U _) (by unfold maxLen; omega) (by omega) (by simp; omega) ?_; intro v1 w1 h1 h2 _ h3)
        go_ret
        refine ⟨v1, rfl, ?_⟩
        have hr := (hO.alloc (.cells #[.int .u8 (U : Int)] 5)).app h1 h2 h3
        rw [← leb_small U (by omega), HE.out, ← HZ.out] at hr
        exact hr
  · go_enter Try.func17, Try.ntmps17
    go_wp2_with fail
    rw [put_pos n hn]
    have hz := zz_lt n n0 n1
    generalize hZ : zz n = Z at *
    have HZ := Lib.hid hZ
    clear hZ
    go_loopw [4, 3] (fun b u wr => ∃ (l' : List Nat) (U : Nat) (v' : Value), b = v' ∧ u = .int .u64 U ∧ U < 18446744073709551616 ∧ l' ++ leb U = leb Z ∧ Onto w w.heap.size 5 (.slice none 0 0) l' v' wr) (fun _ u _ => (intOf u).toNat)
    case atStart => exact ⟨[], Z, _, rfl, rfl, hz, rfl, Onto.refl (Buf.nil _ _ _)⟩
    case round =>
      obtain ⟨l', U, v', rfl, rfl, hU, hE, hO⟩ := hrel
      have HE := Lib.hid hE
      clear hE
      obtain ⟨a', cap', rfl⟩ := hO.buf.slice
      have hlen : l'.length + (leb U).length = (leb Z).length := by have := congrArg List.length HE.out; simpa using this
      have hZl := leb_len 10 Z (by omega) (by omega)
      have hU1 : 0 < (leb U).length := List.length_pos_iff.2 (leb_ne U)
      have hks := hO.keep.size
      have hbuf := hO.buf
      by_cases hbig : 128 ≤ U
      · have q1 : (128 : Int) ≤ U := by omega
        obtain ⟨X, hX⟩ : ∃ X : Nat, X = U % 128 + 128 := ⟨_, rfl⟩
        have hor : (U : Int) % 128 + 128 = (X : Int) := by omega
        have hXb : X < 256 := by omega
        have HX := Lib.hid hX
        clear hX
        go_wp2_with (at_builtin; refine wpList_append_src _ rfl _ _ 22 22 rfl w.heap.size 5 i0 (.int .u8 0) 1 1 Try.underlying22 hi hz0 hz1 hz2 rfl (by decide) _ _ _ rfl (hbuf.alloc _) _ 1 (bcs [X]) rfl (src_new1 Try.underlying22 _ X _) (by unfold maxLen; omega) (by omega) (by simp; omega) ?_; intro v1 w1 h1 h2 _ h3)
        go_roundw
        case rel =>
          refine ⟨l' ++ [X], U / 128, v1, rfl, by go_num, by omega, ?_, (hO.alloc _).app h1 h2 h3⟩
          rw [← HE.out, leb_big U (by omega), HX.out]; simp
        case measure => simp [intOf]; omega
      · have q1 : ¬ (128 : Int) ≤ U := by omega
        have q2 : (U : Int) ≤ 127 := by omega
        go_wp2_with (at_builtin; refine wpList_append_src _ rfl _ _ 22 22 rfl w.heap.size 5 i0 (.int .u8 0) 1 1 Try.underlying22 hi hz0 hz1 hz2 rfl (by decide) _ _ _ rfl (hbuf.alloc _) _ 1 (bcs [U]) rfl (src_new1 Try.underlying22 _ U _) (by unfold maxLen; omega) (by omega) (by simp; omega) ?_; intro v1 w1 h1 h2 _ h3)
        go_ret
        refine ⟨v1, rfl, ?_⟩
        have hr := (hO.alloc (.cells #[.int .u8 (U : Int)] 5)).app h1 h2 h3
        rw [← leb_small U (by omega), HE.out, ← HZ.out] at hr
        exact hr

theorem refPutText_any {w : World} (t : ByteArray) (ht : t.size ≤ 100) :
    Calls Try.prog 18 #[.string t] w fun e w' => ∃ v', e = .returned v' ∧ Onto w w.heap.size 5 (.slice none 0 0) (putText t) v' w' := by
  obtain ⟨i0, hi, hz0, hz1, hz2⟩ := info_parts Try.info8
  go_enter Try.func18, Try.ntmps18
  go_wp2_with fail
  refine (refPut_any (t.size : Int) (by omega) (by omega)).mono ?_
  rintro e w1 ⟨v1, rfl, o1⟩
  have hbuf := o1.buf
  obtain ⟨a1, cap1, rfl⟩ := hbuf.slice
  have h10 := leb_len 10 (zz (t.size : Int)) (by have := zz_lt (t.size : Int) (by omega) (by omega); omega) (by omega)
  have hks := o1.keep.size
  have hx2 : t.size = (sb t).length := (sb_length t).symm
  have HX := Lib.hid hx2
  clear hx2
  go_wp2_with (at_builtin; refine wpList_append_src _ rfl _ _ 22 9 rfl w.heap.size 5 i0 (.int .u8 0) 1 1 Try.underlying22 hi hz0 hz1 hz2 rfl (by decide) _ _ _ rfl hbuf _ _ _ rfl (Src.ofString _ Try.underlying9 t) (by unfold maxLen; omega) (by omega) (by omega) ?_; intro v2 w2 h1 h2 _ h3)
  go_ret
  rw [byteCells_sb] at h1
  have h1' : w2.ownsRow w.heap.size 5 1 v2 ((leb (zz (t.size : Int))).length + (sb t).length) (bcs (leb (zz (t.size : Int))) ++ bcs (sb t)) := by rw [sb_length]; exact h1
  exact ⟨v2, rfl, o1.app h1' h2 h3⟩

/-- A text that is not too long. -/
def cutStr (s : ByteArray) (n : Nat) : ByteArray := if n < s.size then s.extract 0 n else s
theorem cutStr_size (s : ByteArray) (n : Nat) : (cutStr s n).size ≤ n := by
  unfold cutStr; split
  · simp; omega
  · omega
theorem Cut_any {w : World} (s : ByteArray) (n : Nat) (hs : s.size ≤ 9223372036854775807) (hn : n ≤ 1000000) :
    Calls Try.prog 40 #[.string s, .int .i64 n] w fun e w' => e = .returned (.string (cutStr s n)) ∧ w = w' := by
  by_cases h : n < s.size
  · have q1 : (n : Int) < s.size := by omega
    go_enter Try.func40, Try.ntmps40
    go_wp2_with fail
    go_ret
    exact ⟨by unfold cutStr; rw [if_pos h]; rfl, rfl⟩
  · have q1 : ¬ (n : Int) < s.size := by omega
    go_enter Try.func40, Try.ntmps40
    go_wp2_with fail
    go_ret
    exact ⟨by unfold cutStr; rw [if_neg h]; rfl, rfl⟩

theorem ownsRow_slice {w : World} {base : Nat} {e : TypeId} {sz : Nat} {v : Value} {n : Nat} {xs : List Value} (h : w.ownsRow base e sz v n xs) : ∃ a c, v = .slice a n c := by
  rcases h.2 with ⟨rfl, rfl⟩ | ⟨g, c, cur, rfl, _⟩
  · exact ⟨none, 0, rfl⟩
  · exact ⟨_, c, rfl⟩
theorem Try.infoS : (Try.prog.info? 9).map (fun i => (i.zero, i.size, i.bytes)) = some (some (.string ByteArray.empty), 1, 16) := by kernel_rfl
def texts (l : List ByteArray) (n size : Nat) : List ByteArray := (l.take n).map (cutStr · size)

set_option maxHeartbeats 400000 in
theorem Texts_any {w : World} (v : Value) (l : List ByteArray) (n size : Nat) (h : Rv w 1 v l.length (strs l)) (hl : l.length ≤ 9223372036854775807) (hs : ∀ s ∈ l, s.size ≤ 9223372036854775807) (hn : n ≤ 1000) (hsz : size ≤ 1000000) :
    Calls Try.prog 16 #[v, .int .i64 n, .int .i64 size] w fun e w' => ∃ v', e = .returned v' ∧ w'.ownsRow w.heap.size 9 1 v' (texts l n size).length (strs (texts l n size)) ∧ Keep [] w w' := by
  obtain ⟨i0, hi, hz0, hz1, hz2⟩ := info_parts Try.infoS
  have h2 := h
  obtain ⟨_, a, cap, rfl, hcap, _⟩ := h
  go_enter Try.func16, Try.ntmps16
  go_wp2_with fail
  go_loopw [7, 8] (fun b i wr => ∃ (k : Nat) (v' : Value), k ≤ l.length ∧ k ≤ n ∧ b = v' ∧ i = .int .i64 k ∧ wr.ownsRow w.heap.size 9 1 v' k (strs ((l.take k).map (cutStr · size))) ∧ Keep [] w wr) (fun _ i _ => l.length - (intOf i).toNat)
  case atStart => exact ⟨0, _, by omega, by omega, rfl, rfl, World.ownsRow_nil _ _ _ _, Keep.refl _ _⟩
  case round =>
    obtain ⟨k, v', hk, hkn, rfl, rfl, hO, hK⟩ := hrel
    by_cases hlt : k < l.length
    · by_cases hlt2 : k < n
      · obtain ⟨sb0, so, cap3, he, _, hsb, hat⟩ := h2.at1 (by omega)
        simp only [Value.slice.injEq] at he
        obtain ⟨rfl, _, rfl⟩ := he
        have g4 : wr.cell? ⟨sb0, so + k, none⟩ = some (.string (l.getD k ByteArray.empty)) := by
          rw [hK.cell hsb (by simp), hat k hlt, strs_at l k hlt]
        have hx := hs (l.getD k ByteArray.empty) (by simp [List.getD_eq_getElem?_getD, hlt])
        have hsn : strs ((l.take (k + 1)).map (cutStr · size)) = strs ((l.take k).map (cutStr · size)) ++ [.string (cutStr (l.getD k ByteArray.empty) size)] := by
          rw [take_succ_getD l ByteArray.empty k hlt]; simp [strs]
        have HSN := Lib.hid hsn
        have q1 : (k : Int) < l.length := by omega
        have q2 : (k : Int) < n := by omega
        have hks := hK.size
        obtain ⟨a', c', rfl⟩ := ownsRow_slice hO
        have hlt3 := hO.lt
        clear hsn hat h2 hs
        generalize l.getD k ByteArray.empty = x at *
        go_wp2_with fail
        refine (Cut_any x size hx hsz).mono ?_
        rintro e w' ⟨rfl, rfl⟩
        generalize cutStr x size = y at *
        have hsrc : Src Try.prog 1 24 (.slice (some ⟨wr.heap.size, 0, none⟩) 1 1) 1 [.string y] (wr.alloc (.cells #[.string y] 9)) :=
          (Rv.new wr [.string y] 9 1 1 1 rfl (by omega) _ rfl).src Try.underlying24 (by intro u hu; simp at hu; subst hu; rfl)
        go_wp2_with (at_builtin; refine wpList_append_src _ rfl _ _ 24 24 rfl w.heap.size 9 i0 (.string ByteArray.empty) 1 16 Try.underlying24 hi hz0 hz1 hz2 rfl (by decide) _ _ _ rfl (hO.alloc _) _ 1 _ rfl hsrc (by unfold maxLen; omega) (by omega) (by simp; omega) ?_; intro v1 w1 h1 h2 _ h3)
        go_roundw
        case rel =>
          refine ⟨k + 1, v1, by omega, by omega, rfl, by go_num, by rw [HSN.out]; exact h1, (hK.alloc _).then (Keep.grown h2) ?_⟩
          intro x hx hlt
          have := (hlt3 x (Option.mem_toList.1 hx)).1
          omega
        case measure => simp [intOf]; omega
      · obtain rfl : k = n := by omega
        have q2 : ¬ (k : Int) < k := by omega
        go_wp2_with fail
        go_ret
        have e : (texts l k size).length = k := by unfold texts; simp; omega
        exact ⟨_, rfl, by rw [e]; exact hO, hK⟩
    · obtain rfl : k = l.length := by omega
      go_wp2_with fail
      go_ret
      have e1 : l.take n = l.take l.length := by rw [List.take_of_length_le (by omega), List.take_length]
      have e : (texts l n size).length = l.length := by unfold texts; rw [e1]; simp
      exact ⟨_, rfl, by rw [e]; unfold texts; rw [e1]; exact hO, hK⟩

theorem toStr_sb (t : ByteArray) : toStr (sb t) = t := by
  unfold toStr sb
  have e : (t.data.toList.map UInt8.toNat).map UInt8.ofNat = t.data.toList := by
    rw [List.map_map]
    conv => rhs; rw [← List.map_id t.data.toList]
    apply List.map_congr_left
    intro c _
    simp
  rw [e]
theorem putAll_cons (x : Int) (l : List Int) : putAll (x :: l) = leb (zz x) ++ putAll l := by simp [putAll]
theorem putTexts_cons (x : ByteArray) (l : List ByteArray) : putTexts (x :: l) = putText x ++ putTexts l := by simp [putTexts]
theorem drop_cons {α : Type} (l : List α) (d : α) (k : Nat) (h : k < l.length) : l.drop k = l.getD k d :: l.drop (k + 1) := by
  rw [List.drop_eq_getElem_cons h]; simp [List.getD_eq_getElem?_getD, h]
theorem getText_putText (t : ByteArray) (ht : t.size ≤ 100) (r : List Nat) : getText (putText t ++ r) = (sb t, (putText t).length, 0) := by
  have hl : (putText t).length = (leb (zz (t.size : Int))).length + t.size := by unfold putText; rw [List.length_append, sb_length]
  unfold getText
  have hg : get (putText t ++ r) = ((t.size : Int), (leb (zz (t.size : Int))).length, 0) := by
    unfold putText
    rw [List.append_assoc]
    exact get_leb _ (by omega) (by omega) _
  rw [hg]
  simp only [ne_eq, not_true_eq_false, if_false]
  rw [if_neg (by omega), if_neg (by rw [List.length_append]; omega)]
  have e : (putText t ++ r).drop (leb (zz (t.size : Int))).length = sb t ++ r := by
    unfold putText
    rw [List.append_assoc, List.drop_append, Nat.sub_self, List.drop_zero, List.drop_of_length_le (Nat.le_refl _), List.nil_append]
  rw [e, Int.toNat_natCast, hl]
  congr 1
  rw [List.take_append_of_le_length (by rw [sb_length]; omega), List.take_of_length_le (by rw [sb_length]; omega)]
theorem rd_drop {w : World} {v : Value} {l : List Nat} (h : Nat) (hv : Rv w 1 v (l.length - h) ((bcs l).drop h)) (m : List Nat) (hm : l.drop h = m) : Rd w v m := by
  have e : (bcs l).drop h = bcs (l.drop h) := by simp [bcs, List.map_drop]
  unfold Rd
  rw [← hm, List.length_drop, ← e]
  exact hv
end Go.Proofs.Ythknelejcedhnaa
