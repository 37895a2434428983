/- The authority: Open. -/
import Derived.Test.YtcoaobdijlppgaaHCtl19
import Derived.Test.YtcoaobdijlppgaaHGetMany
namespace Go.Proofs.Ytcoaobdijlppgaa
open Go.ChangeShapes Go.WideShapes Go.ChangeAt Go.RowKit
set_option linter.unusedVariables false
set_option linter.unusedSimpArgs false
set_option maxRecDepth 100000

def openJ (w0 : World) (c kb s g bb : Nat) (ba : Option Addr) (bcap : Nat) (TB : List Nat) (ep top fn : Int) (l : Nat → Bool) (x : Nat → Value) (w' : World) : Prop :=
  ∃ B13, (l 10 = false → Blk w' c (ctC kb s g ⟨0, 0, [], 0, 0, [], [], 0, []⟩ (.slice none 0 0) (.slice none 0 0) (.slice none 0 0) (.slice none 0 0)) 64 ∧ Blk w' bb [.int .i64 0] 2) ∧
  (l 10 = true → Blk w' c (ctC kb s g ⟨ep, top, [], 0, 0, [], [], 0, []⟩ (.slice none 0 0) (.slice none 0 0) (.slice none 0 0) (.slice none 0 0)) 64 ∧ Blk w' bb [.int .i64 fn] 2) ∧
  (Rd w' (.slice ba TB.length bcap) TB) ∧
  (Keep [c, bb] w0 w') ∧
  (l 0 = true → x 0 = .slice ba TB.length bcap) ∧
  (l 1 = true → x 1 = .pointer (some ⟨c, 0, none⟩)) ∧
  (l 2 = true → x 2 = .pointer (some ⟨c, 0, none⟩)) ∧
  (l 3 = true → x 3 = .pointer (some ⟨c, 2, none⟩)) ∧
  (l 4 = true → x 4 = .pointer (some ⟨c, 2, none⟩)) ∧
  (l 5 = true → x 5 = .pointer (some ⟨c, 0, none⟩)) ∧
  (l 6 = true → x 6 = .pointer (some ⟨c, 0, none⟩)) ∧
  (l 7 = true → x 7 = .pointer (some ⟨c, 2, none⟩)) ∧
  (l 8 = true → x 8 = .pointer (some ⟨c, 3, none⟩)) ∧
  (l 9 = true → x 9 = .slice (some ⟨B13, 0, none⟩) 3 3 ∧ Blk w' B13 (ptrs [some ⟨c, 2, none⟩, some ⟨c, 3, none⟩, some ⟨bb, 0, none⟩]) 89) ∧
  (l 10 = true → x 10 = .tuple #[.int .i64 (TB.length : Int), .int .i64 0]) ∧
  (l 11 = true → x 11 = .tuple #[.int .i64 (TB.length : Int), .int .i64 0]) ∧
  (l 12 = true → x 12 = .int .i64 (TB.length : Int)) ∧
  (l 13 = true → x 13 = .int .i64 0) ∧
  (l 14 = true → x 14 = .int .i64 (TB.length : Int)) ∧
  (l 15 = true → x 15 = .int .i64 0)
def grantJ (w0 : World) (c kb s g j : Nat) (t : Ct) (vm : Value) (f : Int → Option Int) (n now : Int) (l : Nat → Bool) (x : Nat → Value) (w' : World) : Prop :=
  (CtB w' c kb s g t vm (.slice none 0 0) (.slice none 0 0) (.slice none 0 0)) ∧
  (IsClock w' kb now) ∧
  (l 7 = false → Gr w' g j f) ∧
  (l 7 = true → Gr w' g (j + 1) (fun i => if i = n then some now else f i)) ∧
  (Keep [g] w0 w') ∧
  (l 0 = true → x 0 = .pointer (some ⟨c, 0, none⟩)) ∧
  (l 1 = true → x 1 = .pointer (some ⟨c, 0, none⟩)) ∧
  (l 2 = true → x 2 = .pointer (some ⟨c, 11, none⟩)) ∧
  (l 3 = true → x 3 = .map (some g)) ∧
  (l 4 = true → x 4 = .int .i64 n) ∧
  (l 5 = true → x 5 = .pointer (some ⟨kb, 0, none⟩)) ∧
  (l 6 = true → x 6 = .int .i64 now) ∧
  (l 7 = true → True)
theorem bits_in : ∀ mem ∈ allNodes, (((bitsL mem &&& 2 : Nat) : Int) != 0) = decide ((1 : Int) ∈ mem) ∧ (((bitsL mem &&& 4 : Nat) : Int) != 0) = decide ((2 : Int) ∈ mem) ∧ (((bitsL mem &&& 8 : Nat) : Int) != 0) = decide ((3 : Int) ∈ mem) ∧ (((bitsL mem &&& 16 : Nat) : Int) != 0) = decide ((4 : Int) ∈ mem) ∧ (((bitsL mem &&& 32 : Nat) : Int) != 0) = decide ((5 : Int) ∈ mem) := by decide
theorem bothL_self : ∀ mem ∈ allNodes, bothL mem [] 0 = mem := by decide
/-- The authority that is being opened. -/
structure OpW (w : World) (c kb s g d sb bb : Nat) (ep top now : Int) (L : List Sec) (kd turn slot : Nat) (T : List Nat) (B cnt : Nat) (f : Int → Option Int) (l : List Int) (vm : Value) (base : Nat) (w' : World) : Prop where
  ct : CtB w' c kb s g ⟨ep, top, l, 0, 0, [], [], 0, []⟩ vm (.slice none 0 0) (.slice none 0 0) (.slice none 0 0)
  own : Own w' base 3 vm (ints l)
  gr : Gr w' g cnt f
  ck : IsClock w' kb now
  sup : IsSup w' s d 0 turn T slot
  dev : IsDev w' d sb L kd
  bits : Blk w' bb [.int .i64 (B : Int)] 2
  keep : Keep [] w w'
def gF (now : Int) (k : Nat) : Int → Option Int := fun j => if 1 ≤ j ∧ j ≤ (k : Int) then some now else none
theorem gF_zero (now : Int) : gF now 0 = fun _ => none := by
  funext j
  unfold gF
  rw [if_neg (by omega)]
theorem gF_succ (now : Int) (k : Nat) (n : Int) (hn : ((k + 1 : Nat) : Int) = n) : (fun i => if i = n then some now else gF now k i) = gF now (k + 1) := by
  subst hn
  funext j
  unfold gF
  by_cases h : j = ((k + 1 : Nat) : Int)
  · rw [if_pos h, if_pos (by omega)]
  · rw [if_neg h]
    by_cases h2 : 1 ≤ j ∧ j ≤ (k : Int)
    · rw [if_pos h2, if_pos (by omega)]
    · rw [if_neg h2, if_neg (by omega)]
section
variable {w : World} {c kb s g d sb bb : Nat} {ep top now : Int} {L : List Sec} {kd turn slot : Nat} {T : List Nat} {B cnt : Nat} {f : Int → Option Int} {l : List Int} {vm : Value} {base : Nat}
theorem OpW.still {w1 w2 : World} (h : OpW w c kb s g d sb bb ep top now L kd turn slot T B cnt f l vm base w1) (k : Keep [] w1 w2) : OpW w c kb s g d sb bb ep top now L kd turn slot T B cnt f l vm base w2 :=
  ⟨h.ct.keep k (by simp), h.own.keep k (by simp), h.gr.keep k (by simp), h.ck.keep k (by simp), h.sup.keep k (by simp) (by simp), h.dev.keep k (by simp) (by simp), h.bits.keep k (by simp), h.keep.trans k⟩
end
set_option maxHeartbeats 8000000 in
theorem Open_ct {w : World} {d sb kd : Nat} {L : List Sec} (hd : IsDev w d sb L kd) {slot turn : Nat} {ep top : Int} {mem : List Int} (hp : Pair L 0 slot turn (stT ep top mem)) (hs : slot ≤ 1) (h0 : 0 < turn) (hn : turn < 9223372036854775808)
    (hok : nodesOk mem = true) (he : 1 ≤ ep ∧ ep ≤ top ∧ top ≤ 1099511627776) (kv : Value) (now : Int) (hk : (kv = .pointer none ∧ now = 0) ∨ ∃ kb, kv = .pointer (some ⟨kb, 0, none⟩) ∧ IsClock w kb now) :
    Calls Try.prog 20 #[.pointer (some ⟨d, 0, none⟩), kv] w fun e w' => ∃ c kb s g vm bb, e = .returned (.tuple #[.pointer (some ⟨c, 0, none⟩), .int .i64 0]) ∧ OpW w c kb s g d sb bb ep top now L kd turn slot (stT ep top mem) (bitsL mem) 5 (gF now 5) mem vm w.heap.size w' ∧
      w.heap.size ≤ c ∧ w.heap.size ≤ s ∧ c ≠ s ∧ w.heap.size ≤ g ∧ (kv = .pointer (some ⟨kb, 0, none⟩) ∨ w.heap.size ≤ kb) := by
  obtain ⟨n1, n2, n3⟩ := nodes_in hok
  have hall := nodes_all hok
  have hT1 : (stT ep top mem).length ≤ 40 := stT_len ep top mem ⟨by omega, by omega⟩ ⟨by omega, by omega⟩ n1
  have hTb : ∀ c ∈ stT ep top mem, c < 256 := putAll_byte _
  have hb64 := bitsL_lt mem n1
  have hm := getMany_put [ep, top, (bitsL mem : Int)] [] (by intro n hn; simp only [List.mem_cons, List.not_mem_nil, or_false] at hn; rcases hn with rfl | rfl | rfl <;> exact ⟨by omega, by omega⟩)
  rw [List.append_nil] at hm
  have hm2 : getMany (stT ep top mem) 3 = ([ep, top, (bitsL mem : Int)], (stT ep top mem).length, 0) := hm
  have HO := Lib.hid (Open_pair hd hp hs hT1 hTb h0 hn)
  have HD := Lib.hid hd
  have HKV := Lib.hid hk
  have HE := Lib.hid he
  have HOK := Lib.hid hok
  have HALL := Lib.hid hall
  have HN5 := Lib.hid n3
  obtain ⟨BN, hBN⟩ : ∃ BN, BN = bitsL mem := ⟨_, rfl⟩
  have HBN := Lib.hid hBN
  rw [← hBN] at hm2 hb64
  clear hm hd hp hs h0 hn hok he hk hall n1 n2 n3 hBN
  obtain ⟨TB, hT0⟩ : ∃ TB, stT ep top mem = TB := ⟨_, rfl⟩
  rw [hT0] at hT1 hTb hm2 HO ⊢
  clear hT0
  have HM := Lib.hid hm2.symm
  have HTB := Lib.hid (show (∀ c ∈ TB, c < 256) ∧ TB.length ≤ 4611686018427387904 from ⟨hTb, by omega⟩)
  have HTL := Lib.hid hT1
  have HB64 := Lib.hid hb64
  clear hm2 hTb hT1 hb64
  have hb0 : ∀ (W : World), (Instr.build 54 #[]).run Try.prog W = .ok (.agg #[.int .i64 0]) W := fun W => run_build W _ _ _ (by rfl)
  have hb2 : ∀ (W : World) (p q g : Nat), (Instr.build 64 #[(0, .pointer (some ⟨p, 0, none⟩)), (1, .pointer (some ⟨q, 0, none⟩)), (4, .map (some g))]).run Try.prog W = .ok (.agg #[.pointer (some ⟨p, 0, none⟩), .pointer (some ⟨q, 0, none⟩), .int .i64 0, .int .i64 0, .slice none 0 0, .int .i64 0, .int .i64 0, .slice none 0 0, .slice none 0 0, .int .i64 0, .slice none 0 0, .map (some g)]) W := fun W p q g => run_build W _ _ _ (by rfl)
  go_enter Try.func20, Try.ntmps20
  go_wp2_with fail
  refine HO.out.mono ?_
  rintro x w1 ⟨s, rfl, hsz, hS1, k1⟩
  have hz1 := k1.size
  clear HO
  obtain ⟨bb, hbb⟩ : ∃ bb, (kv = .pointer none ∧ now = 0 ∧ bb = true) ∨ (∃ kb, kv = .pointer (some ⟨kb, 0, none⟩) ∧ IsClock w kb now ∧ bb = false) := by
    rcases HKV.out with ⟨hv, hz⟩ | ⟨kb, hv, hck⟩
    · exact ⟨true, .inl ⟨hv, hz, rfl⟩⟩
    · exact ⟨false, .inr ⟨kb, hv, hck, rfl⟩⟩
  have HKV := Lib.hid hbb
  clear hbb
  go_upto_region 4 with fail
  go_cut [23] (fun s23 wc => s23 = .bool bb ∧ w1 = wc)
  case first =>
    rcases HKV.out with ⟨hv, hz, hb⟩ | ⟨kb, hv, hck, hb⟩
    · subst hv hz hb
      go_wp2_with fail
      go_meet
      exact ⟨rfl, rfl⟩
    · subst hv hb
      go_wp2_with fail
      go_meet
      exact ⟨rfl, rfl⟩
  case rest =>
  obtain ⟨rfl, rfl⟩ := hcut
  go_upto_if 23 with fail
  go_cut [1] (fun s1 wc => ∃ kb, s1 = .pointer (some ⟨kb, 0, none⟩) ∧ IsClock wc kb now ∧ Keep [] w1 wc ∧ (kv = .pointer (some ⟨kb, 0, none⟩) ∨ w.heap.size ≤ kb))
  case first =>
    rcases HKV.out with ⟨hv, hz, hb⟩ | ⟨kb, hv, hck, hb⟩
    · subst hv hz hb
      go_wp2_with fail
      go_meet
      exact ⟨_, rfl, ⟨Blk.new _ [.int .i64 0] _, by omega, by omega⟩, (Keep.refl _ _).alloc _, .inr (by omega)⟩
    · subst hv hb
      go_wp2_with fail
      go_meet
      exact ⟨kb, rfl, hck.keep k1 (by simp), Keep.refl _ _, .inl rfl⟩
  case rest =>
  obtain ⟨kb, rfl, hck, kc, hkb⟩ := hcut
  have HKB := Lib.hid hkb
  clear hkb HKV
  have hS2 := hS1.keep kc (by simp) (by simp)
  have K2 := k1.trans kc
  have hzc := kc.size
  have hsl := hS1.lt
  clear hS1 k1 kc
  have hmk : (Instr.makeMap 62 none).run Try.prog wc = .ok (.map (some wc.heap.size)) (wc.alloc (.map #[] 0)) := run_makeMap _ _
  go_upto_region 7 with fail
  clear hmk
  have hG0 := Gr.made wc
  have K3 := (Keep.refl [] wc).alloc (.map #[] 0)
  obtain ⟨g, hg⟩ : ∃ g, g = wc.heap.size := ⟨_, rfl⟩
  have hsz3 : (wc.alloc (.map #[] 0)).heap.size = g + 1 := by simp [hg]
  have hC3 := hck.keep K3 (by simp)
  have hS3 := hS2.keep K3 (by simp) (by simp)
  have Kz := (K2.trans K3)
  have HSG := Lib.hid (show w.heap.size ≤ g ∧ s < g ∧ w.heap.size ≤ s ∧ kb < g by have := hck.blk.lt; omega)
  rw [← hg] at hG0 ⊢
  clear hS2 hck K2 K3 hzc hsl hz1 hsz hg
  generalize wc.alloc (.map #[] 0) = w3 at *
  have hT : Blk (w3.alloc (.cells #[.pointer (some ⟨kb, 0, none⟩), .pointer (some ⟨s, 0, none⟩), .int .i64 0, .int .i64 0, .slice none 0 0, .int .i64 0, .int .i64 0, .slice none 0 0, .slice none 0 0, .int .i64 0, .slice none 0 0, .map (some g)] 64)) (g + 1) [.pointer (some ⟨kb, 0, none⟩), .pointer (some ⟨s, 0, none⟩), .int .i64 0, .int .i64 0, .slice none 0 0, .int .i64 0, .int .i64 0, .slice none 0 0, .slice none 0 0, .int .i64 0, .slice none 0 0, .map (some g)] 64 := Blk.new' w3 [.pointer (some ⟨kb, 0, none⟩), .pointer (some ⟨s, 0, none⟩), .int .i64 0, .int .i64 0, .slice none 0 0, .int .i64 0, .int .i64 0, .slice none 0 0, .slice none 0 0, .int .i64 0, .slice none 0 0, .map (some g)] _ (g + 1) (by omega)
  have K4 := (Keep.refl [] w3).alloc (.cells #[.pointer (some ⟨kb, 0, none⟩), .pointer (some ⟨s, 0, none⟩), .int .i64 0, .int .i64 0, .slice none 0 0, .int .i64 0, .int .i64 0, .slice none 0 0, .slice none 0 0, .int .i64 0, .slice none 0 0, .map (some g)] 64)
  have hsz4 : (w3.alloc (.cells #[.pointer (some ⟨kb, 0, none⟩), .pointer (some ⟨s, 0, none⟩), .int .i64 0, .int .i64 0, .slice none 0 0, .int .i64 0, .int .i64 0, .slice none 0 0, .slice none 0 0, .int .i64 0, .slice none 0 0, .map (some g)] 64)).heap.size = g + 2 := by simp [hsz3]
  have hG4 := hG0.keep K4 (by simp)
  have hC4 := hC3.keep K4 (by simp)
  have hS4 := hS3.keep K4 (by simp) (by simp)
  have KW := Kz.trans K4
  clear hG0 hC3 hS3 Kz K4
  try rw [hsz3]
  clear hsz3
  generalize w3.alloc (.cells #[.pointer (some ⟨kb, 0, none⟩), .pointer (some ⟨s, 0, none⟩), .int .i64 0, .int .i64 0, .slice none 0 0, .int .i64 0, .int .i64 0, .slice none 0 0, .slice none 0 0, .int .i64 0, .slice none 0 0, .map (some g)] 64) = w4 at *
  have hBB : Blk (w4.alloc (.cells #[.int .i64 0] 2)) (g + 2) [.int .i64 0] 2 := Blk.new' w4 [.int .i64 0] _ (g + 2) (by omega)
  have K5 := (Keep.refl [] w4).alloc (.cells #[.int .i64 0] 2)
  have hsz5 : (w4.alloc (.cells #[.int .i64 0] 2)).heap.size = g + 3 := by simp [hsz4]
  have hT5 := hT.keep K5 (by simp)
  have hG5 := hG4.keep K5 (by simp)
  have hC5 := hC4.keep K5 (by simp)
  have hS5 := hS4.keep K5 (by simp) (by simp)
  have KW5 := KW.trans K5
  clear hT hG4 hC4 hS4 KW K5
  go_upto_region 8 with fail
  try rw [hsz4]
  clear hsz4
  generalize w4.alloc (.cells #[.int .i64 0] 2) = w5 at *
  go_wp2_with fail
  refine (Text_any hS5 HTL.out).mono ?_
  rintro x w6 ⟨v6, rfl, hb6, k6⟩
  have hT6 := hT5.keep k6 (by simp)
  have hG6 := hG5.keep k6 (by simp)
  have hC6 := hC5.keep k6 (by simp)
  have hS6 := hS5.keep k6 (by simp) (by simp)
  have hBB6 := hBB.keep k6 (by simp)
  have KW6 := KW5.trans k6
  have hD6 := HD.out.keep KW6 (by simp) (by simp)
  have hrb0 := hb6.rd
  obtain ⟨ba, bcap, rfl⟩ := hb6.slice
  have HVB := Lib.hid (show ∀ q, (Value.slice ba TB.length bcap).ownBlock = some q → q ≠ g + 1 ∧ q ≠ g + 2 from fun q hq => by have := (hb6.lt q hq).1; omega)
  have HGK := Lib.hid (show g + 1 ≠ g + 2 ∧ w.heap.size ≤ g + 1 ∧ w.heap.size ≤ g + 2 ∧ g ≠ g + 1 ∧ g ≠ g + 2 ∧ kb ≠ g + 1 ∧ kb ≠ g + 2 ∧ s ≠ g + 1 ∧ s ≠ g + 2 by have := HSG.out; omega)
  clear hT5 hG5 hC5 hS5 hBB KW5 k6 hb6
  generalize g + 2 = bb at *
  generalize g + 1 = c at *
  have hC0 : Blk w6 c (ctC kb s g ⟨0, 0, [], 0, 0, [], [], 0, []⟩ (.slice none 0 0) (.slice none 0 0) (.slice none 0 0) (.slice none 0 0)) 64 := hT6
  clear hT6
  clear hsz5
  have HNU := Lib.hid (show (∀ q ∈ [c, bb], ¬ Ty w6 q 5) ∧ d < w.heap.size ∧ sb < w.heap.size from ⟨fun q hq ht => by
    simp only [List.mem_cons, List.not_mem_nil, or_false] at hq
    rcases hq with rfl | rfl
    · exact hC0.ty.ne ht (by decide) rfl
    · exact hBB6.ty.ne ht (by decide) rfl, HD.out.dev.lt, HD.out.secs.lt⟩)
  go_wp2_with fail
  refine wp_region_inv (openJ w6 c kb s g bb ba bcap TB ep top (BN : Int)) (by kernel_rfl) (by kernel_rfl) (by kernel_rfl) ?_ (Steps.cons 0 ?_ (Steps.cons 1 ?_ (Steps.cons 2 ?_ (Steps.cons 3 ?_ (Steps.cons 4 ?_ (Steps.cons 5 ?_ (Steps.cons 6 ?_ (Steps.cons 7 ?_ (Steps.cons 8 ?_ (Steps.cons 9 ?_ (Steps.cons 10 ?_ (Steps.cons 11 ?_ (Steps.cons 12 ?_ (Steps.cons 13 ?_ (Steps.cons 14 ?_ (Steps.cons 15 ?_ (Steps.nil 16))))))))))))))))) 16 rfl ?_
  · intro x
    exact ⟨0, fun _ => ⟨hC0.drew, hBB6.drew⟩, fun h => absurd h (by decide), hrb0.keep ((Keep.refl [] _).drew) (by simp), (Keep.refl _ _).drew, fun h => absurd h (by decide), fun h => absurd h (by decide), fun h => absurd h (by decide), fun h => absurd h (by decide), fun h => absurd h (by decide), fun h => absurd h (by decide), fun h => absurd h (by decide), fun h => absurd h (by decide), fun h => absurd h (by decide), fun h => absurd h (by decide), fun h => absurd h (by decide), fun h => absurd h (by decide), fun h => absurd h (by decide), fun h => absurd h (by decide), fun h => absurd h (by decide), fun h => absurd h (by decide)⟩
  · intro l x w' hJ hi hd
    obtain ⟨B13, hg0, hg1, hrb, hK, h0, h1, h2, h3, h4, h5, h6, h7, h8, h9, h10, h11, h12, h13, h14, h15⟩ := hJ
    refine Runs.of (b := ?bO0) ?eO0 ?_
    case eO0 => simp only [putV, Act.put, List.setIfInBounds_toArray, List.set_cons_zero, List.set_cons_succ]; rfl
    intro K' hK'
    go_simp
    exact hK'.go _ rfl ⟨B13, hg0, hg1, hrb, hK, fun _ => rfl, h1, h2, h3, h4, h5, h6, h7, h8, h9, h10, h11, h12, h13, h14, h15⟩
  · intro l x w' hJ hi hd
    obtain ⟨B13, hg0, hg1, hrb, hK, h0, h1, h2, h3, h4, h5, h6, h7, h8, h9, h10, h11, h12, h13, h14, h15⟩ := hJ
    refine Runs.of (b := ?bO1) ?eO1 ?_
    case eO1 => simp only [putV, Act.put, List.setIfInBounds_toArray, List.set_cons_zero, List.set_cons_succ]; rfl
    intro K' hK'
    go_simp
    exact hK'.go _ rfl ⟨B13, hg0, hg1, hrb, hK, h0, fun _ => rfl, h2, h3, h4, h5, h6, h7, h8, h9, h10, h11, h12, h13, h14, h15⟩
  · intro l x w' hJ hi hd
    obtain ⟨B13, hg0, hg1, hrb, hK, h0, h1, h2, h3, h4, h5, h6, h7, h8, h9, h10, h11, h12, h13, h14, h15⟩ := hJ
    have e1 := h1 (show l 1 = true by first | exact hd.1 rfl | exact hd.2.1 rfl | exact hd.2.2.1 rfl | exact hd.2.2.2.1 rfl | exact hd.2.2.2.2.1 rfl | exact hd.2.2.2.2.2.1 rfl)
    refine Runs.of (b := ?bO2) ?eO2 ?_
    case eO2 => simp only [putV, Act.put, List.setIfInBounds_toArray, List.set_cons_zero, List.set_cons_succ, e1]; rfl
    intro K' hK'
    go_simp
    exact hK'.go _ rfl ⟨B13, hg0, hg1, hrb, hK, h0, h1, fun _ => rfl, h3, h4, h5, h6, h7, h8, h9, h10, h11, h12, h13, h14, h15⟩
  · intro l x w' hJ hi hd
    obtain ⟨B13, hg0, hg1, hrb, hK, h0, h1, h2, h3, h4, h5, h6, h7, h8, h9, h10, h11, h12, h13, h14, h15⟩ := hJ
    have e2 := h2 (show l 2 = true by first | exact hd.1 rfl | exact hd.2.1 rfl | exact hd.2.2.1 rfl | exact hd.2.2.2.1 rfl | exact hd.2.2.2.2.1 rfl | exact hd.2.2.2.2.2.1 rfl)
    refine Runs.of (b := ?bO3) ?eO3 ?_
    case eO3 => simp only [putV, Act.put, List.setIfInBounds_toArray, List.set_cons_zero, List.set_cons_succ, e2]; rfl
    intro K' hK'
    go_simp
    exact hK'.go _ rfl ⟨B13, hg0, hg1, hrb, hK, h0, h1, h2, fun _ => rfl, h4, h5, h6, h7, h8, h9, h10, h11, h12, h13, h14, h15⟩
  · intro l x w' hJ hi hd
    obtain ⟨B13, hg0, hg1, hrb, hK, h0, h1, h2, h3, h4, h5, h6, h7, h8, h9, h10, h11, h12, h13, h14, h15⟩ := hJ
    have e3 := h3 (show l 3 = true by first | exact hd.1 rfl | exact hd.2.1 rfl | exact hd.2.2.1 rfl | exact hd.2.2.2.1 rfl | exact hd.2.2.2.2.1 rfl | exact hd.2.2.2.2.2.1 rfl)
    refine Runs.of (b := ?bO4) ?eO4 ?_
    case eO4 => simp only [putV, Act.put, List.setIfInBounds_toArray, List.set_cons_zero, List.set_cons_succ, e3]; rfl
    intro K' hK'
    go_simp
    exact hK'.go _ rfl ⟨B13, hg0, hg1, hrb, hK, h0, h1, h2, h3, fun _ => rfl, h5, h6, h7, h8, h9, h10, h11, h12, h13, h14, h15⟩
  · intro l x w' hJ hi hd
    obtain ⟨B13, hg0, hg1, hrb, hK, h0, h1, h2, h3, h4, h5, h6, h7, h8, h9, h10, h11, h12, h13, h14, h15⟩ := hJ
    refine Runs.of (b := ?bO5) ?eO5 ?_
    case eO5 => simp only [putV, Act.put, List.setIfInBounds_toArray, List.set_cons_zero, List.set_cons_succ]; rfl
    intro K' hK'
    go_simp
    exact hK'.go _ rfl ⟨B13, hg0, hg1, hrb, hK, h0, h1, h2, h3, h4, fun _ => rfl, h6, h7, h8, h9, h10, h11, h12, h13, h14, h15⟩
  · intro l x w' hJ hi hd
    obtain ⟨B13, hg0, hg1, hrb, hK, h0, h1, h2, h3, h4, h5, h6, h7, h8, h9, h10, h11, h12, h13, h14, h15⟩ := hJ
    have e5 := h5 (show l 5 = true by first | exact hd.1 rfl | exact hd.2.1 rfl | exact hd.2.2.1 rfl | exact hd.2.2.2.1 rfl | exact hd.2.2.2.2.1 rfl | exact hd.2.2.2.2.2.1 rfl)
    refine Runs.of (b := ?bO6) ?eO6 ?_
    case eO6 => simp only [putV, Act.put, List.setIfInBounds_toArray, List.set_cons_zero, List.set_cons_succ, e5]; rfl
    intro K' hK'
    go_simp
    exact hK'.go _ rfl ⟨B13, hg0, hg1, hrb, hK, h0, h1, h2, h3, h4, h5, fun _ => rfl, h7, h8, h9, h10, h11, h12, h13, h14, h15⟩
  · intro l x w' hJ hi hd
    obtain ⟨B13, hg0, hg1, hrb, hK, h0, h1, h2, h3, h4, h5, h6, h7, h8, h9, h10, h11, h12, h13, h14, h15⟩ := hJ
    have e6 := h6 (show l 6 = true by first | exact hd.1 rfl | exact hd.2.1 rfl | exact hd.2.2.1 rfl | exact hd.2.2.2.1 rfl | exact hd.2.2.2.2.1 rfl | exact hd.2.2.2.2.2.1 rfl)
    refine Runs.of (b := ?bO7) ?eO7 ?_
    case eO7 => simp only [putV, Act.put, List.setIfInBounds_toArray, List.set_cons_zero, List.set_cons_succ, e6]; rfl
    intro K' hK'
    go_simp
    exact hK'.go _ rfl ⟨B13, hg0, hg1, hrb, hK, h0, h1, h2, h3, h4, h5, h6, fun _ => rfl, h8, h9, h10, h11, h12, h13, h14, h15⟩
  · intro l x w' hJ hi hd
    obtain ⟨B13, hg0, hg1, hrb, hK, h0, h1, h2, h3, h4, h5, h6, h7, h8, h9, h10, h11, h12, h13, h14, h15⟩ := hJ
    have e7 := h7 (show l 7 = true by first | exact hd.1 rfl | exact hd.2.1 rfl | exact hd.2.2.1 rfl | exact hd.2.2.2.1 rfl | exact hd.2.2.2.2.1 rfl | exact hd.2.2.2.2.2.1 rfl)
    refine Runs.of (b := ?bO8) ?eO8 ?_
    case eO8 => simp only [putV, Act.put, List.setIfInBounds_toArray, List.set_cons_zero, List.set_cons_succ, e7]; rfl
    intro K' hK'
    go_simp
    exact hK'.go _ rfl ⟨B13, hg0, hg1, hrb, hK, h0, h1, h2, h3, h4, h5, h6, h7, fun _ => rfl, h9, h10, h11, h12, h13, h14, h15⟩
  · intro l x w' hJ hi hd
    obtain ⟨B13, hg0, hg1, hrb, hK, h0, h1, h2, h3, h4, h5, h6, h7, h8, h9, h10, h11, h12, h13, h14, h15⟩ := hJ
    have e4 := h4 (show l 4 = true by first | exact hd.1 rfl | exact hd.2.1 rfl | exact hd.2.2.1 rfl | exact hd.2.2.2.1 rfl | exact hd.2.2.2.2.1 rfl | exact hd.2.2.2.2.2.1 rfl)
    have e8 := h8 (show l 8 = true by first | exact hd.1 rfl | exact hd.2.1 rfl | exact hd.2.2.1 rfl | exact hd.2.2.2.1 rfl | exact hd.2.2.2.2.1 rfl | exact hd.2.2.2.2.2.1 rfl)
    refine Runs.of (b := ?bO9) ?eO9 ?_
    case eO9 => simp only [putV, Act.put, List.setIfInBounds_toArray, List.set_cons_zero, List.set_cons_succ, e4, e8]; rfl
    intro K' hK'
    go_simp
    exact hK'.go _ rfl ⟨w'.heap.size, fun h => ⟨(hg0 h).1.alloc _, (hg0 h).2.alloc _⟩, fun h => ⟨(hg1 h).1.alloc _, (hg1 h).2.alloc _⟩, hrb.alloc _, hK.alloc _, h0, h1, h2, h3, h4, h5, h6, h7, h8, fun _ => ⟨rfl, Blk.new _ (ptrs [some ⟨c, 2, none⟩, some ⟨c, 3, none⟩, some ⟨bb, 0, none⟩]) _⟩, h10, h11, h12, h13, h14, h15⟩
  · intro l x w' hJ hi hd
    obtain ⟨B13, hg0, hg1, hrb, hK, h0, h1, h2, h3, h4, h5, h6, h7, h8, h9, h10, h11, h12, h13, h14, h15⟩ := hJ
    have e0 := h0 (show l 0 = true by first | exact hd.1 rfl | exact hd.2.1 rfl | exact hd.2.2.1 rfl | exact hd.2.2.2.1 rfl | exact hd.2.2.2.2.1 rfl | exact hd.2.2.2.2.2.1 rfl)
    have e9 := h9 (show l 9 = true by first | exact hd.1 rfl | exact hd.2.1 rfl | exact hd.2.2.1 rfl | exact hd.2.2.2.1 rfl | exact hd.2.2.2.2.1 rfl | exact hd.2.2.2.2.2.1 rfl)
    refine Runs.of (b := ?bO10) ?eO10 ?_
    case eO10 => simp only [putV, Act.put, List.setIfInBounds_toArray, List.set_cons_zero, List.set_cons_succ, e0, e9.1]; rfl
    intro K' hK'
    go_simp
    obtain ⟨hKB, hG⟩ := hg0 hi
    have hns : ∀ q ∈ blocks ([some ⟨c, 2, none⟩, some ⟨c, 3, none⟩, some ⟨bb, 0, none⟩] : List (Option Addr)), q = c ∨ q = bb := by intro q hq; simp only [blocks, List.filterMap_cons, List.filterMap_nil, Option.map_some, List.mem_cons, List.not_mem_nil, or_false] at hq; omega
    have hbk := e9.2.ty.ne hKB.ty (by decide)
    have hbg := e9.2.ty.ne hG.ty (by decide)
    refine (All_any (.slice ba TB.length bcap) _ TB [some ⟨c, 2, none⟩, some ⟨c, 3, none⟩, some ⟨bb, 0, none⟩] hrb (rv_blk e9.2 rfl) HTB.out.1 HTB.out.2 (by simp) ?_ (fun q hq _ hm => by have := HVB.out q hq; have := hns q hm; omega) (fun q hq hm => by have h1 : B13 = q := Option.some.inj hq; have := hns q hm; omega) ([ep, top, (BN : Int)], TB.length, 0) HM.out).mono ?_
    · intro a ha
      simp only [List.mem_cons, Option.some.injEq, List.not_mem_nil, or_false] at ha
      rcases ha with rfl | rfl | rfl
      · exact ⟨⟨_, hKB.cell 2⟩, hKB.free 2⟩
      · exact ⟨⟨_, hKB.cell 3⟩, hKB.free 3⟩
      · exact ⟨⟨_, hG.cell 0⟩, hG.free 0⟩
    rintro x2 w2 ⟨rfl, hw2⟩
    simp only at hw2 ⊢
    have hk2 : Keep [c, bb] w' w2 := by rw [hw2]; exact setAll_keep _ _ _ _ _ (Keep.refl _ _) (by intro q hq; have := hns q hq; simp; omega)
    have hgk := HGK.out
    have hKB2 : Blk w2 c (ctC kb s g ⟨ep, top, [], 0, 0, [], [], 0, []⟩ (.slice none 0 0) (.slice none 0 0) (.slice none 0 0) (.slice none 0 0)) 64 := by rw [hw2]; exact ((hKB.set 2 (.int .i64 ep)).set 3 (.int .i64 top)).other (by show c ≠ bb; omega) _
    have hG2 : Blk w2 bb [.int .i64 (BN : Int)] 2 := by rw [hw2]; exact (((hG.other (a := ⟨c, 2, none⟩) (by show bb ≠ c; omega) _).other (a := ⟨c, 3, none⟩) (by show bb ≠ c; omega) _).set 0 (.int .i64 (BN : Int)))
    clear hw2
    go_simp
    exact hK'.go _ rfl ⟨B13, fun h => Bool.noConfusion (show true = false from h), fun _ => ⟨hKB2, hG2⟩, Rd.keep0 hrb hk2 (fun q hq _ => by have := HVB.out q hq; simp; omega), hK.trans hk2, h0, h1, h2, h3, h4, h5, h6, h7, h8, fun h => ⟨(h9 h).1, (h9 h).2.keep hk2 (by simp; omega)⟩, fun _ => rfl, h11, h12, h13, h14, h15⟩
  · intro l x w' hJ hi hd
    obtain ⟨B13, hg0, hg1, hrb, hK, h0, h1, h2, h3, h4, h5, h6, h7, h8, h9, h10, h11, h12, h13, h14, h15⟩ := hJ
    have e10 := h10 (show l 10 = true by first | exact hd.1 rfl | exact hd.2.1 rfl | exact hd.2.2.1 rfl | exact hd.2.2.2.1 rfl | exact hd.2.2.2.2.1 rfl | exact hd.2.2.2.2.2.1 rfl)
    refine Runs.of (b := ?bO11) ?eO11 ?_
    case eO11 => simp only [putV, Act.put, List.setIfInBounds_toArray, List.set_cons_zero, List.set_cons_succ, e10]; rfl
    intro K' hK'
    go_simp
    exact hK'.go _ rfl ⟨B13, hg0, hg1, hrb, hK, h0, h1, h2, h3, h4, h5, h6, h7, h8, h9, h10, fun _ => rfl, h12, h13, h14, h15⟩
  · intro l x w' hJ hi hd
    obtain ⟨B13, hg0, hg1, hrb, hK, h0, h1, h2, h3, h4, h5, h6, h7, h8, h9, h10, h11, h12, h13, h14, h15⟩ := hJ
    have e11 := h11 (show l 11 = true by first | exact hd.1 rfl | exact hd.2.1 rfl | exact hd.2.2.1 rfl | exact hd.2.2.2.1 rfl | exact hd.2.2.2.2.1 rfl | exact hd.2.2.2.2.2.1 rfl)
    refine Runs.of (b := ?bO12) ?eO12 ?_
    case eO12 => simp only [putV, Act.put, List.setIfInBounds_toArray, List.set_cons_zero, List.set_cons_succ, e11]; rfl
    intro K' hK'
    go_simp
    exact hK'.go _ rfl ⟨B13, hg0, hg1, hrb, hK, h0, h1, h2, h3, h4, h5, h6, h7, h8, h9, h10, h11, fun _ => rfl, h13, h14, h15⟩
  · intro l x w' hJ hi hd
    obtain ⟨B13, hg0, hg1, hrb, hK, h0, h1, h2, h3, h4, h5, h6, h7, h8, h9, h10, h11, h12, h13, h14, h15⟩ := hJ
    have e11 := h11 (show l 11 = true by first | exact hd.1 rfl | exact hd.2.1 rfl | exact hd.2.2.1 rfl | exact hd.2.2.2.1 rfl | exact hd.2.2.2.2.1 rfl | exact hd.2.2.2.2.2.1 rfl)
    refine Runs.of (b := ?bO13) ?eO13 ?_
    case eO13 => simp only [putV, Act.put, List.setIfInBounds_toArray, List.set_cons_zero, List.set_cons_succ, e11]; rfl
    intro K' hK'
    go_simp
    exact hK'.go _ rfl ⟨B13, hg0, hg1, hrb, hK, h0, h1, h2, h3, h4, h5, h6, h7, h8, h9, h10, h11, h12, fun _ => rfl, h14, h15⟩
  · intro l x w' hJ hi hd
    obtain ⟨B13, hg0, hg1, hrb, hK, h0, h1, h2, h3, h4, h5, h6, h7, h8, h9, h10, h11, h12, h13, h14, h15⟩ := hJ
    have e12 := h12 (show l 12 = true by first | exact hd.1 rfl | exact hd.2.1 rfl | exact hd.2.2.1 rfl | exact hd.2.2.2.1 rfl | exact hd.2.2.2.2.1 rfl | exact hd.2.2.2.2.2.1 rfl)
    refine Runs.of (b := ?bO14) ?eO14 ?_
    case eO14 => simp only [putV, Act.put, List.setIfInBounds_toArray, List.set_cons_zero, List.set_cons_succ, e12]; rfl
    intro K' hK'
    go_simp
    exact hK'.go _ rfl ⟨B13, hg0, hg1, hrb, hK, h0, h1, h2, h3, h4, h5, h6, h7, h8, h9, h10, h11, h12, h13, fun _ => rfl, h15⟩
  · intro l x w' hJ hi hd
    obtain ⟨B13, hg0, hg1, hrb, hK, h0, h1, h2, h3, h4, h5, h6, h7, h8, h9, h10, h11, h12, h13, h14, h15⟩ := hJ
    have e13 := h13 (show l 13 = true by first | exact hd.1 rfl | exact hd.2.1 rfl | exact hd.2.2.1 rfl | exact hd.2.2.2.1 rfl | exact hd.2.2.2.2.1 rfl | exact hd.2.2.2.2.2.1 rfl)
    refine Runs.of (b := ?bO15) ?eO15 ?_
    case eO15 => simp only [putV, Act.put, List.setIfInBounds_toArray, List.set_cons_zero, List.set_cons_succ, e13]; rfl
    intro K' hK'
    go_simp
    exact hK'.go _ rfl ⟨B13, hg0, hg1, hrb, hK, h0, h1, h2, h3, h4, h5, h6, h7, h8, h9, h10, h11, h12, h13, h14, fun _ => rfl⟩
  · intro l x w4 hJ hl
    obtain ⟨B13, hg0, hg1, hrb, hK, h0, h1, h2, h3, h4, h5, h6, h7, h8, h9, h10, h11, h12, h13, h14, h15⟩ := hJ
    have e14 := h14 (hl 14 (by decide))
    have e15 := h15 (hl 15 (by decide))
    obtain ⟨hC4, hB4⟩ := hg1 (hl 10 (by decide))
    simp only [putV, Act.put, List.setIfInBounds_toArray, List.set_cons_zero, List.set_cons_succ, e14, e15]
    simp only [Nat.zero_add, Nat.reduceAdd]
    clear h0 h1 h2 h3 h4 h5 h6 h7 h8 h9 h10 h11 h12 h13 h14 h15 e14 e15 hl hg0 hg1 hrb0 hrb
    clear hC0 hBB6
    have hz6 := KW6.size
    have KW4 : Keep [] w w4 := KW6.then hK (by intro q hq hlt; have := HGK.out; simp at hq; omega)
    obtain ⟨nu1, nu2, nu3⟩ := HNU.out
    have hgk := HGK.out
    have hsg := HSG.out
    have hG4 : Gr w4 g 0 (gF now 0) := by rw [gF_zero]; exact hG6.keep hK (by simp; omega)
    have hK4 := hC6.keep hK (by simp; omega)
    have hS4 := hS6.keep hK (by simp; omega) nu1
    have hD4 := hD6.keep hK (by simp; omega) (by simp; omega)
    have hW : OpW w c kb s g d sb bb ep top now L kd turn slot TB BN 0 (gF now 0) (bothU mem [] 0 0) (.slice none 0 0) w.heap.size w4 := ⟨hC4, Own.nil _ _ _, hG4, hK4, hS4, hD4, hB4, KW4⟩
    have HW := Lib.hid hW
    clear hW hC4 hB4 hK hz6 KW4 nu1 nu2 nu3 hgk hsg hG4 hK4 hS4 hD4 hG6 hC6 hS6 hD6 KW6
    obtain ⟨i0, hi, hz0, hz1, hz2⟩ := info_parts Try.infoI
    go_wp2_with fail
    go_loopw [13] (fun n wr => ∃ (k : Nat) (vm : Value), k ≤ 5 ∧ n = .int .i64 ((k + 1 : Nat) : Int) ∧ OpW w c kb s g d sb bb ep top now L kd turn slot TB BN k (gF now k) (bothU mem [] 0 k) vm w.heap.size wr) (fun n _ => 6 - (intOf n).toNat)
    case atStart => exact ⟨0, _, by omega, rfl, HW.out⟩
    case round =>
    obtain ⟨k, vm, hk, rfl, hWr⟩ := hrel
    clear HW
    by_cases hlt : k < 5
    · have hs := bothU_succ mem [] 0 k hlt
      have hlen := bothU_len mem [] 0 k
      have hn : 1 ≤ ((k + 1 : Nat) : Int) ∧ ((k + 1 : Nat) : Int) ≤ 5 := by omega
      have hnx : ((k + 1 : Nat) : Int) + 1 = ((k + 1 + 1 : Nat) : Int) := by omega
      have HNX := Lib.hid hnx
      have HMS := Lib.hid (show 6 - (((k + 1 : Nat) : Int) + 1).toNat < 6 - ((k + 1 : Nat) : Int).toNat by omega)
      clear hnx
      have hP : bothP mem [] 0 ((k + 1 : Nat) : Int) = decide (((k + 1 : Nat) : Int) ∈ mem) := by
        unfold bothP
        rw [decide_eq_false (by omega : ¬ ((k + 1 : Nat) : Int) = 0)]
        simp
      generalize hnn : ((k + 1 : Nat) : Int) = n at *
      have HNN := Lib.hid hnn
      clear hnn
      obtain ⟨bt, hbt⟩ : ∃ bt, bt = decide (n ∈ mem) := ⟨_, rfl⟩
      rw [← hbt] at hP
      have HBT := Lib.hid hbt
      have HS := Lib.hid hs
      have HP := Lib.hid hP
      clear hs hP hbt
      generalize hX : bothU mem [] 0 k = X at *
      have HX := Lib.hid hX
      clear hX
      obtain ⟨n1, n2⟩ := hn
      have q0 : decide (n ≤ 5) = true := decide_eq_true n2
      obtain ⟨va, vcap, rfl⟩ := hWr.own.islice
      have HN64 := Lib.hid (show I64 n from ⟨by omega, by omega⟩)
      have HNW := Lib.hid (show I64 now from ⟨by have := hWr.ck.lo; omega, by have := hWr.ck.hi; omega⟩)
      have HNE := Lib.hid (show c ≠ g ∧ kb ≠ g from ⟨hWr.gr.ne (Blk.ty hWr.ct), hWr.gr.ne hWr.ck.blk.ty⟩)
      have hCr := hWr.ct
      have hkr := hWr.ck
      have hgr := hWr.gr
      go_wp2_with fail
      refine wp_region_inv (grantJ wr c kb s g k ⟨ep, top, X, 0, 0, [], [], 0, []⟩ (.slice va X.length vcap) (gF now k) n now) (by kernel_rfl) (by kernel_rfl) (by kernel_rfl) ?_ (Steps.cons 0 ?_ (Steps.cons 1 ?_ (Steps.cons 2 ?_ (Steps.cons 3 ?_ (Steps.cons 4 ?_ (Steps.cons 5 ?_ (Steps.cons 6 ?_ (Steps.cons 7 ?_ (Steps.nil 8))))))))) 8 rfl ?_
      · intro x
        exact ⟨hCr.keep ((Keep.refl [] _).drew) (by simp), hkr.keep ((Keep.refl [] _).drew) (by simp), fun _ => hgr.keep ((Keep.refl [] _).drew) (by simp), fun h => absurd h (by decide), (Keep.refl _ _).drew, fun h => absurd h (by decide), fun h => absurd h (by decide), fun h => absurd h (by decide), fun h => absurd h (by decide), fun h => absurd h (by decide), fun h => absurd h (by decide), fun h => absurd h (by decide), fun h => absurd h (by decide)⟩
      · intro l x w' hJ hi hd
        obtain ⟨hC, hk, hgr0, hgr1, hK, h0, h1, h2, h3, h4, h5, h6, h7⟩ := hJ
        refine Runs.of (b := ?bG0) ?eG0 ?_
        case eG0 => simp only [putV, Act.put, List.setIfInBounds_toArray, List.set_cons_zero, List.set_cons_succ]; rfl
        intro K' hK'
        go_simp
        exact hK'.go _ rfl ⟨hC, hk, hgr0, hgr1, hK, fun _ => rfl, h1, h2, h3, h4, h5, h6, h7⟩
      · intro l x w' hJ hi hd
        obtain ⟨hC, hk, hgr0, hgr1, hK, h0, h1, h2, h3, h4, h5, h6, h7⟩ := hJ
        have e0 := h0 (show l 0 = true by first | exact hd.1 rfl | exact hd.2.1 rfl | exact hd.2.2.1 rfl | exact hd.2.2.2.1 rfl | exact hd.2.2.2.2.1 rfl | exact hd.2.2.2.2.2.1 rfl)
        refine Runs.of (b := ?bG1) ?eG1 ?_
        case eG1 => simp only [putV, Act.put, List.setIfInBounds_toArray, List.set_cons_zero, List.set_cons_succ, e0]; rfl
        intro K' hK'
        go_simp
        exact hK'.go _ rfl ⟨hC, hk, hgr0, hgr1, hK, h0, fun _ => rfl, h2, h3, h4, h5, h6, h7⟩
      · intro l x w' hJ hi hd
        obtain ⟨hC, hk, hgr0, hgr1, hK, h0, h1, h2, h3, h4, h5, h6, h7⟩ := hJ
        have e1 := h1 (show l 1 = true by first | exact hd.1 rfl | exact hd.2.1 rfl | exact hd.2.2.1 rfl | exact hd.2.2.2.1 rfl | exact hd.2.2.2.2.1 rfl | exact hd.2.2.2.2.2.1 rfl)
        refine Runs.of (b := ?bG2) ?eG2 ?_
        case eG2 => simp only [putV, Act.put, List.setIfInBounds_toArray, List.set_cons_zero, List.set_cons_succ, e1]; rfl
        intro K' hK'
        go_simp
        exact hK'.go _ rfl ⟨hC, hk, hgr0, hgr1, hK, h0, h1, fun _ => rfl, h3, h4, h5, h6, h7⟩
      · intro l x w' hJ hi hd
        obtain ⟨hC, hk, hgr0, hgr1, hK, h0, h1, h2, h3, h4, h5, h6, h7⟩ := hJ
        have e2 := h2 (show l 2 = true by first | exact hd.1 rfl | exact hd.2.1 rfl | exact hd.2.2.1 rfl | exact hd.2.2.2.1 rfl | exact hd.2.2.2.2.1 rfl | exact hd.2.2.2.2.2.1 rfl)
        have c11 := (ctc_11 hC).1
        refine Runs.of (b := ?bG3) ?eG3 ?_
        case eG3 => simp only [putV, Act.put, List.setIfInBounds_toArray, List.set_cons_zero, List.set_cons_succ, e2]; rfl
        intro K' hK'
        go_simp
        exact hK'.go _ rfl ⟨hC, hk, hgr0, hgr1, hK, h0, h1, h2, fun _ => rfl, h4, h5, h6, h7⟩
      · intro l x w' hJ hi hd
        obtain ⟨hC, hk, hgr0, hgr1, hK, h0, h1, h2, h3, h4, h5, h6, h7⟩ := hJ
        refine Runs.of (b := ?bG4) ?eG4 ?_
        case eG4 => simp only [putV, Act.put, List.setIfInBounds_toArray, List.set_cons_zero, List.set_cons_succ]; rfl
        intro K' hK'
        go_simp
        exact hK'.go _ rfl ⟨hC, hk, hgr0, hgr1, hK, h0, h1, h2, h3, fun _ => rfl, h5, h6, h7⟩
      · intro l x w' hJ hi hd
        obtain ⟨hC, hk, hgr0, hgr1, hK, h0, h1, h2, h3, h4, h5, h6, h7⟩ := hJ
        refine Runs.of (b := ?bG5) ?eG5 ?_
        case eG5 => simp only [putV, Act.put, List.setIfInBounds_toArray, List.set_cons_zero, List.set_cons_succ]; rfl
        intro K' hK'
        go_simp
        exact hK'.go _ rfl ⟨hC, hk, hgr0, hgr1, hK, h0, h1, h2, h3, h4, fun _ => rfl, h6, h7⟩
      · intro l x w' hJ hi hd
        obtain ⟨hC, hk, hgr0, hgr1, hK, h0, h1, h2, h3, h4, h5, h6, h7⟩ := hJ
        have e5 := h5 (show l 5 = true by first | exact hd.1 rfl | exact hd.2.1 rfl | exact hd.2.2.1 rfl | exact hd.2.2.2.1 rfl | exact hd.2.2.2.2.1 rfl | exact hd.2.2.2.2.2.1 rfl)
        refine Runs.of (b := ?bG6) ?eG6 ?_
        case eG6 => simp only [putV, Act.put, List.setIfInBounds_toArray, List.set_cons_zero, List.set_cons_succ, e5]; rfl
        intro K' hK'
        go_simp
        refine (now_any hk).mono ?_
        rintro e w2 ⟨rfl, rfl⟩
        go_simp
        exact hK'.go _ rfl ⟨hC, hk, hgr0, hgr1, hK, h0, h1, h2, h3, h4, h5, fun _ => rfl, h7⟩
      · intro l x w' hJ hi hd
        obtain ⟨hC, hk, hgr0, hgr1, hK, h0, h1, h2, h3, h4, h5, h6, h7⟩ := hJ
        have e3 := h3 (show l 3 = true by first | exact hd.1 rfl | exact hd.2.1 rfl | exact hd.2.2.1 rfl | exact hd.2.2.2.1 rfl | exact hd.2.2.2.2.1 rfl | exact hd.2.2.2.2.2.1 rfl)
        have e4 := h4 (show l 4 = true by first | exact hd.1 rfl | exact hd.2.1 rfl | exact hd.2.2.1 rfl | exact hd.2.2.2.1 rfl | exact hd.2.2.2.2.1 rfl | exact hd.2.2.2.2.2.1 rfl)
        have e6 := h6 (show l 6 = true by first | exact hd.1 rfl | exact hd.2.1 rfl | exact hd.2.2.1 rfl | exact hd.2.2.2.1 rfl | exact hd.2.2.2.2.1 rfl | exact hd.2.2.2.2.2.1 rfl)
        refine Runs.of (b := ?bG7) ?eG7 ?_
        case eG7 => simp only [putV, Act.put, List.setIfInBounds_toArray, List.set_cons_zero, List.set_cons_succ, e3, e4, e6]; rfl
        intro K' hK'
        obtain ⟨w2, hrun, hG2, k2⟩ := (hgr0 hi).put n now HN64.out HNW.out (by unfold maxLen; omega)
        go_simp
        have hne := HNE.out
        exact hK'.go undef rfl ⟨hC.keep k2 (by simp; omega), hk.keep k2 (by simp; omega), fun h => Bool.noConfusion (show true = false from h), fun _ => hG2, hK.trans k2, h0, h1, h2, h3, h4, h5, h6, fun _ => trivial⟩
      · intro l x w3 hJ hl
        obtain ⟨hC, hk, hgr0, hgr1, hK, h0, h1, h2, h3, h4, h5, h6, h7⟩ := hJ
        have hg2 := hgr1 (hl 7 (by decide))
        simp only [putV, Act.put, List.setIfInBounds_toArray, List.set_cons_zero, List.set_cons_succ]
        rw [gF_succ now k n HNN.out] at hg2
        have hne := HNE.out
        have hog : ∀ b, (Value.slice va X.length vcap).ownBlock = some b → b ∉ [g] := fun b hb hm => by
          have := hWr.gr.ne (hWr.own.ty b hb)
          simp at hm
          exact this hm
        have hsg : s ∉ [g] ∧ d ∉ [g] ∧ sb ∉ [g] ∧ bb ∉ [g] := by
          have h1 := hWr.gr.ne hWr.sup.ty
          have h2 := hWr.gr.ne hWr.dev.dev.ty
          have h3 := hWr.gr.ne hWr.dev.secs.ty
          have h4 := hWr.gr.ne hWr.bits.ty
          simp only [List.mem_singleton]
          exact ⟨h1, h2, h3, h4⟩
        have hug : ∀ q ∈ [g], ¬ Ty wr q 5 := fun q hq ht => by
          simp at hq
          subst hq
          exact hWr.gr.ne ht rfl
        have hg0 := HSG.out
        have hW5 : OpW w c kb s g d sb bb ep top now L kd turn slot TB BN (k + 1) (gF now (k + 1)) X (.slice va X.length vcap) w.heap.size w3 :=
          ⟨hC, hWr.own.keep hK hog, hg2, hk, hWr.sup.keep hK hsg.1 hug, hWr.dev.keep hK hsg.2.1 hsg.2.2.1, hWr.bits.keep hK hsg.2.2.2, hWr.keep.then hK (by intro q hq hlt; simp at hq; omega)⟩
        have HW5 := Lib.hid hW5
        have hB5 := hW5.bits
        clear hg2 hne hog hsg hug hg0 hW5 hCr hkr hgr hC hk hgr0 hgr1 hK h0 h1 h2 h3 h4 h5 h6 h7 hl hWr
        go_upto_region 16 with fail
        go_cut [70] (fun s70 wc => s70 = .bool bt ∧ ∃ nq, wc = w3.drewN nq)
        case first =>
          rcases (show n = 1 ∨ n = 2 ∨ n = 3 ∨ n = 4 ∨ n = 5 by omega) with rfl | rfl | rfl | rfl | rfl
          · have q : (bits .and .i64 (BN : Int) 2 != 0) = bt := by
              have ha : bits .and .i64 (BN : Int) 2 = ((BN &&& 2 : Nat) : Int) := bits_and_i64_nat BN 2 (by have := HB64.out; omega) (by omega)
              rw [ha, HBN.out, HBT.out]; exact (bits_in mem HALL.out).1
            have HQ := Lib.hid q
            have b0 := hB5.cell 0
            simp only [List.getElem?_cons_zero] at b0
            clear q
            go_wp2_with fail
            go_quiet (fail)
            go_wp2_with fail
            go_meet
            exact ⟨congrArg Value.bool HQ.out, nq, rfl⟩
          · have q : (bits .and .i64 (BN : Int) 4 != 0) = bt := by
              have ha : bits .and .i64 (BN : Int) 4 = ((BN &&& 4 : Nat) : Int) := bits_and_i64_nat BN 4 (by have := HB64.out; omega) (by omega)
              rw [ha, HBN.out, HBT.out]; exact (bits_in mem HALL.out).2.1
            have HQ := Lib.hid q
            have b0 := hB5.cell 0
            simp only [List.getElem?_cons_zero] at b0
            clear q
            go_wp2_with fail
            go_quiet (fail)
            go_wp2_with fail
            go_meet
            exact ⟨congrArg Value.bool HQ.out, nq, rfl⟩
          · have q : (bits .and .i64 (BN : Int) 8 != 0) = bt := by
              have ha : bits .and .i64 (BN : Int) 8 = ((BN &&& 8 : Nat) : Int) := bits_and_i64_nat BN 8 (by have := HB64.out; omega) (by omega)
              rw [ha, HBN.out, HBT.out]; exact (bits_in mem HALL.out).2.2.1
            have HQ := Lib.hid q
            have b0 := hB5.cell 0
            simp only [List.getElem?_cons_zero] at b0
            clear q
            go_wp2_with fail
            go_quiet (fail)
            go_wp2_with fail
            go_meet
            exact ⟨congrArg Value.bool HQ.out, nq, rfl⟩
          · have q : (bits .and .i64 (BN : Int) 16 != 0) = bt := by
              have ha : bits .and .i64 (BN : Int) 16 = ((BN &&& 16 : Nat) : Int) := bits_and_i64_nat BN 16 (by have := HB64.out; omega) (by omega)
              rw [ha, HBN.out, HBT.out]; exact (bits_in mem HALL.out).2.2.2.1
            have HQ := Lib.hid q
            have b0 := hB5.cell 0
            simp only [List.getElem?_cons_zero] at b0
            clear q
            go_wp2_with fail
            go_quiet (fail)
            go_wp2_with fail
            go_meet
            exact ⟨congrArg Value.bool HQ.out, nq, rfl⟩
          · have q : (bits .and .i64 (BN : Int) 32 != 0) = bt := by
              have ha : bits .and .i64 (BN : Int) 32 = ((BN &&& 32 : Nat) : Int) := bits_and_i64_nat BN 32 (by have := HB64.out; omega) (by omega)
              rw [ha, HBN.out, HBT.out]; exact (bits_in mem HALL.out).2.2.2.2
            have HQ := Lib.hid q
            have b0 := hB5.cell 0
            simp only [List.getElem?_cons_zero] at b0
            clear q
            go_wp2_with fail
            go_quiet (fail)
            go_wp2_with fail
            go_meet
            exact ⟨congrArg Value.bool HQ.out, nq, rfl⟩
        case rest =>
        obtain ⟨rfl, nq, rfl⟩ := hcut
        have hW6 := HW5.out.still (drewn_keep (Keep.refl [] w3) nq)
        clear HW5 hB5
        generalize w3.drewN nq = w6' at *
        cases bt with
        | false =>
          go_wp2_with fail
          go_roundw
          case rel =>
            refine ⟨k + 1, (.slice va X.length vcap), by omega, by rw [HNX.out], ?_⟩
            rw [HS.out, HP.out, if_neg (by decide), List.append_nil]
            exact hW6
          case measure => simp only [intOf]; exact HMS.out
        | true =>
          have hsz6 := hW6.keep.size
          obtain ⟨wA, hwA⟩ : ∃ W, W = w6'.alloc (.cells #[.int .i64 n] 3) := ⟨_, rfl⟩
          have hWA := hW6.still ((Keep.refl [] w6').alloc (.cells #[.int .i64 n] 3))
          rw [← hwA] at hWA
          have hszA : w.heap.size ≤ wA.heap.size := hWA.keep.size
          have hsrc : Src Try.prog 1 37 (.slice (some ⟨w6'.heap.size, 0, none⟩) 1 1) 1 [.int .i64 n] wA := by rw [hwA]; exact src_cell Try.underlying37 w6' (.int .i64 n) rfl 3 _ rfl
          have c4 := (ctc_4 hW6.ct).1
          have c4A := (ctc_4 hWA.ct).1
          have hty := hWA.own.ty
          have hnt : ∀ (q : Nat) (T : TypeId), T ≠ 3 → Ty wA q T → q ∉ (Value.slice va X.length vcap).ownBlock.toList := fun q T hT hq hm => (hty q (Option.mem_toList.1 hm)).ne hq (Ne.symm hT) rfl
          have HNT := Lib.hid hnt
          have HWA := Lib.hid hWA
          have HW6 := Lib.hid hW6
          have HWW := Lib.hid hwA
          clear hW6 hWA hty hnt
          go_wp2_with (first | (at_builtin; rw [← HWW.out]; refine wpList_append_src _ rfl _ _ 37 37 rfl w.heap.size 3 i0 (.int .i64 0) 1 8 Try.underlying37 hi hz0 hz1 hz2 rfl (by decide) _ _ _ rfl HWA.out.own _ 1 _ rfl hsrc (by rw [ints_length]; unfold maxLen; omega) (by rw [ints_length]; omega) hszA ?_; intro v1 w2 h2 h3 _ h4; obtain ⟨v1a, v1c, rfl⟩ := ownsRow_slice h2; have hC2 := HWA.out.ct.keep (Keep.grown h3) (HNT.out c _ (by decide) (Blk.ty HWA.out.ct)); have c42 := (ctc_4 hC2).1; have f42 := (ctc_4 hC2).2) | fail)
          have hO2 := Own.app (m := 1) rfl h2
          rw [show ints X ++ [Value.int .i64 n] = ints (X ++ [n]) by rw [ints_append]; rfl] at hO2
          have hk2 : Keep (Value.slice va X.length vcap).ownBlock.toList wA w2 := Keep.grown h3
          have hWA := HWA.out
          have hks : Keep [c] w2 (w2.setCell ⟨c, 4, none⟩ (.slice v1a ((ints X).length + 1) v1c)) := (Keep.refl _ _).setCell (.inl (by simp)) _
          have hnt := HNT.out
          have hnu : ∀ q ∈ (Value.slice va X.length vcap).ownBlock.toList, ¬ Ty wA q 5 := fun q hq ht => hnt q _ (by decide) ht hq
          have hnc : ∀ q (T : TypeId), T ≠ 64 → Ty w2 q T → q ∉ [c] := fun q T hT hq hm => by simp at hm; subst hm; exact (Blk.ty hC2).ne hq (Ne.symm hT) rfl
          have hncu : ∀ q ∈ [c], ¬ Ty w2 q 5 := fun q hq ht => hnc q _ (by decide) ht hq
          have g2 : Gr w2 g (k + 1) (gF now (k + 1)) := hWA.gr.keep hk2 (fun hm => hWA.gr.ne (hWA.own.ty g (Option.mem_toList.1 hm)) rfl)
          have s2 := hWA.sup.keep hk2 (hnt s _ (by decide) hWA.sup.ty) hnu
          have d2 := hWA.dev.keep hk2 (hnt d _ (by decide) hWA.dev.dev.ty) (hnt sb _ (by decide) hWA.dev.secs.ty)
          have b2 := hWA.bits.keep hk2 (hnt bb _ (by decide) hWA.bits.ty)
          have y2 := hWA.ck.keep hk2 (hnt kb _ (by decide) hWA.ck.blk.ty)
          have z2 : Keep [] w w2 := hWA.keep.then hk2 (fun q hq hlt => by have := (hWA.own.lt q (Option.mem_toList.1 hq)).1; omega)
          have hgk := HGK.out
          have hOW : OpW w c kb s g d sb bb ep top now L kd turn slot TB BN (k + 1) (gF now (k + 1)) (X ++ [n]) (.slice v1a ((ints X).length + 1) v1c) w.heap.size (w2.setCell ⟨c, 4, none⟩ (.slice v1a ((ints X).length + 1) v1c)) :=
            ⟨Blk.set hC2 4 _, hO2.keep hks (fun q hq => hnc q _ (by decide) (hO2.ty q hq)), g2.keep hks (fun hm => by simp at hm; omega), y2.keep hks (hnc kb _ (by decide) y2.blk.ty), s2.keep hks (hnc s _ (by decide) s2.ty) hncu,
              d2.keep hks (hnc d _ (by decide) d2.dev.ty) (hnc sb _ (by decide) d2.secs.ty), b2.keep hks (hnc bb _ (by decide) b2.ty), z2.then hks (fun q hq hlt => by simp at hq; omega)⟩
          have HOW := Lib.hid hOW
          clear hO2 hk2 hWA hks hnt hnu hnc hncu g2 s2 d2 b2 y2 z2 hgk hOW hC2 c42 f42 HWA HW6 HNT h2 h3 h4 c4 c4A hsrc hszA HWW
          go_roundw
          case rel =>
            refine ⟨k + 1, (.slice v1a (X.length + 1) v1c), by omega, by rw [HNX.out], ?_⟩
            have hh := HOW.out
            rw [ints_length] at hh
            rw [HS.out, HP.out, if_pos rfl]
            exact hh
          case measure => simp only [intOf]; exact HMS.out
    · obtain rfl : k = 5 := by omega
      have q0 : decide (((5 + 1 : Nat) : Int) ≤ 5) = false := by decide
      have hB5 : bothU mem [] 0 5 = mem := bothL_self mem HALL.out
      rw [hB5] at hWr
      obtain ⟨va, vcap, rfl⟩ := hWr.own.islice
      have c2 := (ctc_2 hWr.ct).1
      have c3 := (ctc_3 hWr.ct).1
      have c4 := (ctc_4 hWr.ct).1
      have q1 : decide (ep < 1) = false := decide_eq_false (by have := HE.out; omega)
      have q2 : decide (top < ep) = false := decide_eq_false (by have := HE.out; omega)
      have HWr := Lib.hid hWr
      have hpm : ∀ q : Nat, Calls Try.prog 25 #[.slice va mem.length vcap] (wr.drewN q) fun e w' => e = .returned (.bool true) ∧ w' = wr.drewN q := fun q => flipc (ptsMay_any _ mem (drewn_rv HWr.out.own.irv q) (by have := HN5.out; omega) true HOK.out.symm)
      clear hWr hB5
      go_wp2_with fail
      go_quiet ((go_at_call 25; exact Calls.quiet_of_same (hpm _)))
      go_wp2_with fail
      go_ret2
      have hz := HGK.out
      have hy := HSG.out
      refine ⟨c, kb, s, g, (.slice va mem.length vcap), bb, rfl, ?_, hz.2.1, hy.2.2.1, by omega, hy.1, HKB.out⟩
      rw [← HBN.out]
      exact HWr.out.still (drewn_keep (Keep.refl [] wr) nq)
end Go.Proofs.Ytcoaobdijlppgaa
