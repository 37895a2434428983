/- Jn10, Jn11, Jn12 -/
import Derived.Test.YtpibpapolcdeiaaG1
import Derived.Test.YtpibpapolcdeiaaG8
import Derived.Test.YtpibpapolcdeiaaG9
/- journal: Add. -/
namespace Go.Proofs.Ytpibpapolcdeiaa
open Go.ChangeShapes Go.WideShapes Go.ChangeAt Go.RowKit
set_option linter.unusedVariables false
set_option linter.unusedSimpArgs false
set_option maxRecDepth 100000

theorem jtoStr_sb (t : ByteArray) : toStr (sb t) = t := by
  unfold toStr sb
  have e : (t.data.toList.map UInt8.toNat).map UInt8.ofNat = t.data.toList := by
    rw [List.map_map]
    conv => rhs; rw [← List.map_id t.data.toList]
    apply List.map_congr_left
    intro u _
    simp
  rw [e]
theorem srcMk {P : Program} {t : TypeId} {e : TypeId} (w : World) (b : Nat) (n : Int) (k : ByteArray) (p : Int) (hb : Blk w b [.int .i64 n, .string k, .int .i64 p] e) (ht : P.underlying t = some (.slice e)) :
    Src P 3 t (.slice (some ⟨b, 0, none⟩) 1 1) 1 [.int .i64 n, .string k, .int .i64 p] w := by
  refine Src.ofSlice _ ht ⟨b, 0, none⟩ 1 1 [.int .i64 n, .string k, .int .i64 p] rfl (fun j x hj => ?_) (fun u hu => ?_)
  · rw [Addr.add_lit, Nat.zero_add, hb.cell, hj]
  · simp only [List.mem_cons, List.not_mem_nil, or_false] at hu
    rcases hu with rfl | rfl | rfl <;> rfl
/-- What an Append did. -/
structure LApp (w0 w' : World) (B lb d sb frm nx run q c : Nat) (F : List Nat) (l : List Sg) (L : List Sec) (body : List Nat) : Prop where
  ex : ∃ vl' l' L' c', LogOk w' B lb d frm 20 (nx + 1) run false vl' l' L' (q + 1) ∧ IsDev w' d sb L' c' ∧ c' ≤ c + 12 ∧ l'.map Sg.ps = appP 20 (l.map Sg.ps) nx body ∧ (∀ x ∈ lgF lb vl' l', x ∈ F ∨ w0.heap.size ≤ x) ∧ L'.length = L.length ∧ (∀ i, (i < frm ∨ frm + 20 * 8 ≤ i) → nowF L' i = nowF L i)
  keep : Keep F w0 w'
theorem LApp.still {w0 w' w'' : World} {B lb d sb frm nx run q c : Nat} {F : List Nat} {l : List Sg} {L : List Sec} {body : List Nat} (h : LApp w0 w' B lb d sb frm nx run q c F l L body) (k : Keep [] w' w'') : LApp w0 w'' B lb d sb frm nx run q c F l L body := by
  obtain ⟨vl', l', L', c', h1, h2, h3⟩ := h.ex
  exact ⟨⟨vl', l', L', c', h1.still k, h2.keep k (by simp) (by simp), h3⟩, h.keep.trans (k.mono (by simp))⟩
/-- What Add did so far. -/
structure Added (w w' : World) (B jb lb d sb frm t' c' : Nat) (F : List Nat) (L : List Sec) (M : List Mk) (K : List ByteArray) (vl' v' : Value) (l' : List Sg) (L' : List Sec) (N : List Mk) : Prop where
  ok : JOk w' B jb lb d frm t' vl' v' l' L' (M ++ N)
  dev : IsDev w' d sb L' c'
  cnt : c' ≤ t'
  keep : Keep F w w'
  own : ∀ x ∈ jF jb lb v' vl' l', x ∈ F ∨ w.heap.size ≤ x
  len : L'.length = L.length
  out : ∀ i, (i < frm ∨ frm + 160 ≤ i) → nowF L' i = nowF L i
  keys : N.map Mk.key = K.map kb
  cost : encN ((M ++ N).map recOf) ≤ encN (M.map recOf) + keysCost K
theorem Added.len' {w w' : World} {B jb lb d sb frm t' c' : Nat} {F : List Nat} {L : List Sec} {M : List Mk} {K : List ByteArray} {vl' v' : Value} {l' : List Sg} {L' : List Sec} {N : List Mk} (h : Added w w' B jb lb d sb frm t' c' F L M K vl' v' l' L' N) : N.length = K.length := by
  have := congrArg List.length h.keys
  simpa using this
theorem Added.still {w w' w'' : World} {B jb lb d sb frm t' c' : Nat} {F : List Nat} {L : List Sec} {M : List Mk} {K : List ByteArray} {vl' v' : Value} {l' : List Sg} {L' : List Sec} {N : List Mk} (h : Added w w' B jb lb d sb frm t' c' F L M K vl' v' l' L' N) (k : Keep [] w' w'') : Added w w'' B jb lb d sb frm t' c' F L M K vl' v' l' L' N :=
  ⟨h.ok.still k, h.dev.keep k (by simp) (by simp), h.cnt, h.keep.trans (k.mono (by simp)), h.own, h.len, h.out, h.keys, h.cost⟩
/-- The step of one more key. -/
theorem Added.next {w wx w' : World} {B jb lb d sb frm t c nx run q : Nat} {fr : Bool} {F : List Nat} {L : List Sec} {M : List Mk} {K K' : List ByteArray} {vl v : Value} {l : List Sg} {Lx : List Sec} {N : List Mk} (k : ByteArray) {v' : Value} {wy : World}
    (h : Added w wx B jb lb d sb frm t c F L M K vl v l Lx N) (hL : LogOk wx B lb d frm 20 nx run fr vl l Lx q) (hn : 1 ≤ nx ∧ nx ≤ t ∧ run ≤ t ∧ q ≤ t) (ht : t ≤ 2000000000) (hk : 1 ≤ k.size ∧ k.size ≤ 40)
    (hA : LApp wx wy B lb d sb frm nx run q c (d :: sb :: lgF lb vl l) l Lx (leb (zz (((M ++ N).length : Int) + 1)) ++ kb k)) (hJ : JAt w' B jb lb v' ((M ++ N) ++ [⟨(M ++ N).length + 1, kb k, nx⟩]))
    (hK : Keep (jb :: v.ownBlock.toList) wy w') (hv : ∀ x, v'.ownBlock = some x → v.ownBlock = some x ∨ wy.heap.size ≤ x) (hb : encN ((M ++ N).map recOf) + keyCost k ≤ 2225) (hF : ∀ x ∈ d :: sb :: jF jb lb v vl l, x ∈ F ∨ w.heap.size ≤ x) (hk' : K' = K ++ [k]) :
    ∃ c' vl' l' L', Added w w' B jb lb d sb frm (t + 12) c' F L M K' vl' v' l' L' (N ++ [⟨(M ++ N).length + 1, kb k, nx⟩]) := by
  subst hk'
  obtain ⟨vl', l', L', c', hL', hD', hc', hps, hown, hlen, hout⟩ := hA.ex
  have hsz := hA.keep.size
  have hsw := h.keep.size
  have hnd := h.ok.nd h.dev
  have hnd' : ∀ x ∈ lgF lb vl' l', x ∉ jb :: v.ownBlock.toList := by
    intro x hx hm
    have hJT := h.ok.at_.blk
    rcases List.mem_cons.1 hm with e | e
    · subst e
      rcases hown x hx with h1 | h1
      · exact hnd.1 h1
      · have := hJT.lt; omega
    · have e := Option.mem_toList.1 e
      rcases hown x hx with h1 | h1
      · exact (hnd.2 x e).1 h1
      · have := (h.ok.at_.row.lt x e).2; omega
  have hbl : (leb (zz (((M ++ N).length : Int) + 1)) ++ kb k).length ≤ k.size + 10 ∧ 1 ≤ (leb (zz (((M ++ N).length : Int) + 1)) ++ kb k).length := by
    have hm := h.ok.len
    have h10 := leb_len 10 (zz (((M ++ N).length : Int) + 1)) (by have := zz_lt (((M ++ N).length : Int) + 1) (by omega) (by omega); omega) (by omega)
    rw [List.length_append, kb_length]
    omega
  have hrok : Rcd.ok (nx, leb (zz (((M ++ N).length : Int) + 1)) ++ kb k) := ⟨hbl.2, by show (leb (zz (((M ++ N).length : Int) + 1)) ++ kb k).length ≤ _; omega, by show nx < _; omega, fun x hx => by
    rcases List.mem_append.1 hx with h1 | h1
    · exact leb_byte _ x h1
    · exact jsb_byte _ x h1⟩
  have hcost : encN [(nx, leb (zz (((M ++ N).length : Int) + 1)) ++ kb k)] ≤ keyCost k := by
    rw [encN_cons]
    show (leb (zz (((M ++ N).length : Int) + 1)) ++ kb k).length + 8 + encN [] ≤ _
    have e : encN [] = 0 := rfl
    have hm := h.ok.len
    have ez : zz (((M ++ N).length : Int) + 1) = 2 * ((M ++ N).length + 1) := by unfold zz; rw [if_pos (by omega)]; omega
    have h2 := leb_len 2 (zz (((M ++ N).length : Int) + 1)) (by omega) (by omega)
    unfold keyCost
    rw [List.length_append, kb_length]
    omega
  have htail := h.ok.tail.app hL.say (by decide) ⟨hn.1, by omega⟩ _ hrok
  rw [← hps] at htail
  have hrec : ((M ++ N).map recOf) ++ [(nx, leb (zz (((M ++ N).length : Int) + 1)) ++ kb k)] = (M ++ (N ++ [(⟨(M ++ N).length + 1, kb k, nx⟩ : Mk)])).map recOf := by
    rw [← List.append_assoc, List.map_append (l₁ := M ++ N)]
    simp only [List.map_cons, List.map_nil]
    rfl
  rw [hrec] at htail
  rw [List.append_assoc] at hJ
  refine ⟨c', vl', l', L', ⟨hJ, h.ok.new, ⟨nx + 1, run, false, q + 1, hL'.keep hK hnd', by omega, by omega, by omega, by omega⟩, htail, ?_, ?_⟩, hD'.keep hK (fun hm => ?_) (fun hm => ?_), by have := h.cnt; omega, ?_, ?_, by rw [hlen, h.len], ?_, ?_, ?_⟩
  · rw [← hrec, encN_app]
    omega
  · intro i a ha
    rw [← List.append_assoc] at ha
    by_cases hi : i < (M ++ N).length
    · rw [List.getElem?_append_left hi] at ha
      exact h.ok.seq i a ha
    · rw [List.getElem?_append_right (by omega)] at ha
      have : i - (M ++ N).length = 0 := by
        have := (List.getElem?_eq_some_iff.1 ha).1
        simp at this
        simp
        omega
      rw [this] at ha
      simp at ha
      subst ha
      simp at this hi
      simp
      omega
  · rcases List.mem_cons.1 hm with e | e
    · subst e; exact hnd.1 (by simp)
    · exact (hnd.2 d (Option.mem_toList.1 e)).1 (by simp)
  · rcases List.mem_cons.1 hm with e | e
    · subst e; exact hnd.1 (by simp)
    · exact (hnd.2 sb (Option.mem_toList.1 e)).1 (by simp)
  · have k1 := h.keep.then hA.keep (fun x hx hlt => by
      rcases hF x (by
        rcases List.mem_cons.1 hx with e | e
        · subst e; simp
        · rcases List.mem_cons.1 e with e | e
          · subst e; simp
          · simp [jF, e]) with h1 | h1
      · exact h1
      · omega)
    exact k1.then hK (fun x hx hlt => by
      rcases hF x (by
        rcases List.mem_cons.1 hx with e | e
        · subst e; simp [jF]
        · simp only [jF, List.mem_cons, List.mem_append]; exact .inr (.inr (.inr (.inl e)))) with h1 | h1
      · exact h1
      · omega)
  · intro x hx
    unfold jF at hx
    rcases List.mem_cons.1 hx with e | hx
    · subst e; exact hF x (by simp [jF])
    · rcases List.mem_append.1 hx with hx | hx
      · rcases hv x (Option.mem_toList.1 hx) with h1 | h1
        · exact hF x (by simp [jF, h1])
        · right; omega
      · rcases hown x hx with h1 | h1
        · exact hF x (by
            rcases List.mem_cons.1 h1 with e | e
            · subst e; simp
            · rcases List.mem_cons.1 e with e | e
              · subst e; simp
              · simp [jF, e])
        · right; omega
  · intro i hi
    rw [hout i (by omega), h.out i hi]
  · rw [List.map_append, h.keys, List.map_append]
    rfl
  · rw [← hrec, encN_app]
    have h1 := h.cost
    have h2 : keysCost (K ++ [k]) = keysCost K + keyCost k := by simp [keysCost]
    omega
/-- Where the journal's own block is written with what it holds. -/
theorem Added.touch {w wx w' : World} {B jb lb d sb frm t c : Nat} {F : List Nat} {L : List Sec} {M : List Mk} {K : List ByteArray} {vl v : Value} {l : List Sg} {Lx : List Sec} {N : List Mk}
    (h : Added w wx B jb lb d sb frm t c F L M K vl v l Lx N) (k : Keep [jb] wx w') (hB : Blk w' jb (jnC lb v) 53) (hF : jb ∈ F) : Added w w' B jb lb d sb frm t c F L M K vl v l Lx N := by
  obtain ⟨nx, run, fr, q, hL, h1, h2, h3, h4⟩ := h.ok.log
  have hnd := h.ok.nd h.dev
  refine ⟨⟨⟨hB, h.ok.at_.row.keep k (fun b hb => by simp only [List.mem_singleton]; exact (hnd.2 b hb).2)⟩, h.ok.new, ⟨nx, run, fr, q, hL.keep k (fun x hx => by simp only [List.mem_singleton]; intro e; subst e; exact hnd.1 (by simp [hx])), h1, h2, h3, h4⟩, h.ok.tail, h.ok.few, h.ok.seq⟩, h.dev.keep k (by simp only [List.mem_singleton]; intro e; subst e; exact hnd.1 (by simp)) (by simp only [List.mem_singleton]; intro e; subst e; exact hnd.1 (by simp)), h.cnt, h.keep.then k (fun x hx _ => by simp only [List.mem_singleton] at hx; subst hx; exact hF), h.own, h.len, h.out, h.keys, h.cost⟩
theorem Added.flush {w wx w' : World} {B jb lb d sb frm t c : Nat} {F : List Nat} {L : List Sec} {M : List Mk} {K : List ByteArray} {vl v : Value} {l : List Sg} {Lx : List Sec} {N : List Mk}
    (h : Added w wx B jb lb d sb frm t c F L M K vl v l Lx N) (k : Keep [d, sb] wx w') (hD : IsDev w' d sb (Lx.map flushSec) (c + 1)) (hF : d ∈ F ∧ sb ∈ F) : Added w w' B jb lb d sb frm (t + 1) (c + 1) F L M K vl v l (Lx.map flushSec) N := by
  obtain ⟨nx, run, fr, q, hL, h1, h2, h3, h4⟩ := h.ok.log
  have hnd := h.ok.nd h.dev
  have hap := hL.at_.apart h.dev
  refine ⟨⟨⟨h.ok.at_.blk.keep k (fun hm => hnd.1 (by simp only [List.mem_cons, List.not_mem_nil, or_false] at hm; rcases hm with e | e <;> simp [e])), h.ok.at_.row.keep k (fun b hb hm => (hnd.2 b hb).1 (by simp only [List.mem_cons, List.not_mem_nil, or_false] at hm; rcases hm with e | e <;> simp [e]))⟩, h.ok.new, ⟨nx, run, fr, q, hL.flushed (by decide) k h.dev, h1, by omega, by omega, by omega⟩, h.ok.tail, h.ok.few, h.ok.seq⟩, hD, by have := h.cnt; omega, h.keep.then k (fun x hx _ => by simp only [List.mem_cons, List.not_mem_nil, or_false] at hx; rcases hx with rfl | rfl; exact hF.1; exact hF.2), h.own, by rw [List.length_map, h.len], fun i hi => by rw [nowF_flush, h.out i hi], h.keys, h.cost⟩
theorem Added.later {w wx : World} {B jb lb d sb frm t t' c : Nat} {F : List Nat} {L : List Sec} {M : List Mk} {K : List ByteArray} {vl v : Value} {l : List Sg} {Lx : List Sec} {N : List Mk}
    (h : Added w wx B jb lb d sb frm t c F L M K vl v l Lx N) (ht : t ≤ t') : Added w wx B jb lb d sb frm t' c F L M K vl v l Lx N :=
  ⟨h.ok.later ht, h.dev, by have := h.cnt; omega, h.keep, h.own, h.len, h.out, h.keys, h.cost⟩
theorem srcKey {P : Program} {t : TypeId} {w : World} (k : ByteArray) {n : Nat} (hn : n = k.size) (ht : P.underlying t = some .string) : Src P 1 t (.string k) n (bcs (kb k)) w := by
  subst hn
  unfold kb
  rw [← byteCells_sb]
  exact Src.ofString _ ht k
def addJ13 (wv : World) (B cb jb lb d sb frm nx run q c1 m n6 kn : Nat) (vl1 : Value) (l1 : List Sg) (L1 : List Sec) (LB : List Nat) (k : ByteArray) (l : Nat → Bool) (x : Nat → Value) (w' : World) : Prop :=
  ∃ B5 a6 c6 a8 c8, (w'.cell? ⟨cb, 0, none⟩ = some (.pointer (some ⟨jb, 0, none⟩))) ∧
  (w'.cell? ⟨jb, 0, none⟩ = some (.pointer (some ⟨lb, 0, none⟩))) ∧
  (l 9 = false → Keep [] wv w') ∧
  (l 9 = true → LApp wv w' B lb d sb frm nx run q c1 (d :: sb :: lgF lb vl1 l1) l1 L1 (LB ++ kb k)) ∧
  (l 9 = true → l 8 = true) ∧
  (l 8 = true → l 6 = true) ∧
  (l 6 = true → l 5 = true) ∧
  (l 0 = true → x 0 = .pointer (some ⟨jb, 0, none⟩)) ∧
  (l 1 = true → x 1 = .pointer (some ⟨jb, 0, none⟩)) ∧
  (l 2 = true → x 2 = .pointer (some ⟨jb, 0, none⟩)) ∧
  (l 3 = true → x 3 = .pointer (some ⟨lb, 0, none⟩)) ∧
  (l 4 = true → x 4 = .int .i64 ((m : Int) + 1)) ∧
  (l 5 = true → x 5 = .slice (some ⟨B5, 0, none⟩) 1 1 ∧ (l 8 = false → Blk w' B5 [.int .i64 ((m : Int) + 1)] 2)) ∧
  (l 6 = true → x 6 = .slice a6 n6 c6 ∧ (l 8 = false → Buf w' wv.heap.size 5 (.slice a6 n6 c6) LB)) ∧
  (l 7 = true → x 7 = .string k) ∧
  (l 8 = true → x 8 = .slice a8 (n6 + kn) c8 ∧ (l 9 = false → Buf w' wv.heap.size 5 (.slice a8 (n6 + kn) c8) (LB ++ kb k))) ∧
  (l 9 = true → x 9 = .tuple #[.int .i64 (nx : Int), .int .i64 0]) ∧
  (l 10 = true → x 10 = .tuple #[.int .i64 (nx : Int), .int .i64 0]) ∧
  (l 11 = true → x 11 = .int .i64 (nx : Int)) ∧
  (l 12 = true → x 12 = .int .i64 0) ∧
  (l 13 = true → x 13 = .int .i64 (nx : Int)) ∧
  (l 14 = true → x 14 = .int .i64 0)
def addJ16 (wa : World) (B cb jb lb nx m : Nat) (va : Option Addr) (vc : Nat) (A : List Mk) (k : ByteArray) (l : Nat → Bool) (x : Nat → Value) (w' : World) : Prop :=
  ∃ ua uc B10, (w'.cell? ⟨cb, 0, none⟩ = some (.pointer (some ⟨jb, 0, none⟩))) ∧
  (l 14 = false → Blk w' jb (jnC lb (.slice va m vc)) 53) ∧
  (l 14 = true → Blk w' jb (jnC lb (.slice ua (m + 1) uc)) 53) ∧
  (l 11 = false → MRow w' B (.slice va m vc) A) ∧
  (l 11 = true → MRow w' B (.slice ua (m + 1) uc) (A ++ [⟨m + 1, kb k, nx⟩])) ∧
  (l 11 = true → ∀ q, (.slice ua (m + 1) uc : Value).ownBlock = some q → (.slice va m vc : Value).ownBlock = some q ∨ wa.heap.size ≤ q) ∧
  (l 14 = true → l 11 = true) ∧
  (l 11 = true → l 4 = true) ∧
  (Keep (jb :: (.slice va m vc : Value).ownBlock.toList) wa w') ∧
  (l 0 = true → x 0 = .pointer (some ⟨jb, 0, none⟩)) ∧
  (l 1 = true → x 1 = .pointer (some ⟨jb, 0, none⟩)) ∧
  (l 2 = true → x 2 = .pointer (some ⟨jb, 0, none⟩)) ∧
  (l 3 = true → x 3 = .pointer (some ⟨jb, 1, none⟩)) ∧
  (l 4 = true → x 4 = .slice va m vc) ∧
  (l 5 = true → x 5 = .int .i64 ((m : Int) + 1)) ∧
  (l 6 = true → x 6 = .string k) ∧
  (l 7 = true → x 7 = .agg #[.int .i64 ((m : Int) + 1), .string k]) ∧
  (l 8 = true → x 8 = .int .i64 (nx : Int)) ∧
  (l 9 = true → x 9 = .agg #[.int .i64 ((m : Int) + 1), .string k, .int .i64 (nx : Int)]) ∧
  (l 10 = true → x 10 = .slice (some ⟨B10, 0, none⟩) 1 1 ∧ (l 11 = false → Blk w' B10 [.int .i64 ((m : Int) + 1), .string k, .int .i64 (nx : Int)] 61 ∧ wa.heap.size ≤ B10)) ∧
  (l 11 = true → x 11 = .slice ua (m + 1) uc) ∧
  (l 12 = true → x 12 = .pointer (some ⟨jb, 0, none⟩)) ∧
  (l 13 = true → x 13 = .pointer (some ⟨jb, 1, none⟩)) ∧
  (l 14 = true → True)
def addJ18 (wr : World) (B cb jb lb m : Nat) (va : Option Addr) (vc : Nat) (l : Nat → Bool) (x : Nat → Value) (w' : World) : Prop :=
  (w'.cell? ⟨cb, 0, none⟩ = some (.pointer (some ⟨jb, 0, none⟩))) ∧
  (Blk w' jb (jnC lb (.slice va m vc)) 53) ∧
  (l 9 = false → Keep [] wr w') ∧
  (l 9 = true → l 6 = true) ∧
  (Keep [jb] wr w') ∧
  (l 0 = true → x 0 = .pointer (some ⟨jb, 0, none⟩)) ∧
  (l 1 = true → x 1 = .pointer (some ⟨jb, 0, none⟩)) ∧
  (l 2 = true → x 2 = .pointer (some ⟨jb, 0, none⟩)) ∧
  (l 3 = true → x 3 = .pointer (some ⟨jb, 1, none⟩)) ∧
  (l 4 = true → x 4 = .slice va m vc) ∧
  (l 5 = true → x 5 = .func (.func 23) #[] #[.pointer (some ⟨cb, 0, none⟩)]) ∧
  (l 6 = true → x 6 = .slice va m vc) ∧
  (l 7 = true → x 7 = .pointer (some ⟨jb, 0, none⟩)) ∧
  (l 8 = true → x 8 = .pointer (some ⟨jb, 1, none⟩)) ∧
  (l 9 = true → True)
theorem keysCost_le (ks : List ByteArray) (j : Nat) : keysCost (ks.take j) + keysCost (ks.drop j) = keysCost ks := by
  conv => rhs; rw [← List.take_append_drop j ks]
  simp only [keysCost, List.map_append, List.sum_append]
set_option maxRecDepth 100000 in
set_option maxHeartbeats 16000000 in
theorem Add_ok {w : World} {B jb lb d sb c frm t : Nat} {vl v kv : Value} {l : List Sg} {L : List Sec} {M : List Mk} (h : JOk w B jb lb d frm t vl v l L M) (hd : IsDev w d sb L c) (hc : c ≤ t) (ht : t ≤ 1000000000) (hlt : frm + 160 ≤ L.length)
    (ks : List ByteArray) (hk : Rv w 1 kv ks.length (strs ks)) (hks : ∀ k ∈ ks, 1 ≤ k.size ∧ k.size ≤ 40) (hsep : 0 < ks.length → ∀ q, kv.ownBlock = some q → q ∉ d :: sb :: jF jb lb v vl l) (hbud : encN (M.map recOf) + keysCost ks ≤ 2225) :
    Calls Try.prog 10 #[.pointer (some ⟨jb, 0, none⟩), kv] w fun e w' => ∃ vl' v' l' L' c' N, e = .returned (.tuple #[.int .i64 ((M.length + ks.length : Nat) : Int), .int .i64 0]) ∧ Added w w' B jb lb d sb frm (t + 12 * ks.length + 1) c' (d :: sb :: jF jb lb v vl l) L M ks vl' v' l' L' N ∧ (0 < ks.length → ∃ L0 : List Sec, L' = L0.map flushSec) := by
  obtain ⟨_, ka, kc, rfl, hkc, hkat⟩ := hk
  have hk : Rv w 1 (.slice ka ks.length kc) ks.length (strs ks) := ⟨‹_›, ka, kc, rfl, hkc, hkat⟩
  obtain ⟨i8, hi8, hz80, hz81, hz82⟩ := info_parts Try.info8
  obtain ⟨iM, hiM, hzM0, hzM1, hzM2⟩ := info_parts Try.infoMk
  have HK := Lib.hid hk
  have HKS := Lib.hid hks
  have HSEP := Lib.hid hsep
  have HBUD := Lib.hid hbud
  have H := Lib.hid h
  have HD := Lib.hid hd
  have HC := Lib.hid hc
  have HT := Lib.hid ht
  have HLT := Lib.hid hlt
  have hnk : ks.length ≤ 230 := by
    have : ∀ l : List ByteArray, 10 * l.length ≤ keysCost l := by
      intro l
      induction l with
      | nil => exact Nat.zero_le _
      | cons a l ih => unfold keysCost at *; rw [List.map_cons, List.sum_cons, List.length_cons]; unfold keyCost at *; omega
    have := this ks
    omega
  obtain ⟨n, hn⟩ : ∃ n, n = ks.length := ⟨_, rfl⟩
  rw [← hn] at hnk ⊢
  have HN := Lib.hid hn
  have HJB : Hid (jb < w.heap.size) := Lib.hid h.at_.blk.lt
  clear h hd hc ht hlt hk hks hsep hbud hkat hkc hn
  go_enter Try.func10, Try.ntmps10
  go_upto_region 1 with fail
  have KB := (Keep.refl [] w).alloc (.cells #[.pointer (some ⟨jb, 0, none⟩)] 25)
  have hcb := (Blk.new w [.pointer (some ⟨jb, 0, none⟩)] 25)
  simp only [List.toArray] at hcb
  obtain ⟨cb, hcbe⟩ : ∃ b, b = w.heap.size := ⟨_, rfl⟩
  rw [← hcbe] at hcb ⊢
  have HCB := Lib.hid hcbe
  generalize w.alloc (.cells #[.pointer (some ⟨jb, 0, none⟩)] 25) = w1 at *
  have HKB := Lib.hid KB
  have HBX := Lib.hid hcb
  have kcb : w1.cell? ⟨cb, 0, none⟩ = some (.pointer (some ⟨jb, 0, none⟩)) := hcb.cell 0
  clear hcbe KB hcb
  go_wp2_with fail
  go_loopw [18] (fun s18 wr => ∃ i : Nat, s18 = .int .i64 (i : Int) ∧ i ≤ n ∧ w1 = wr) (fun x _ => n + 1 - (intOf x).toNat)
  case atStart => exact ⟨0, rfl, Nat.zero_le _, rfl⟩
  case round =>
  obtain ⟨i, rfl, hi, rfl⟩ := hrel
  by_cases hlt : i < n
  · have q0 : decide ((i : Int) < (n : Int)) = true := decide_eq_true (by omega)
    obtain ⟨g, go, gcap, hg, _, hgl, hgc⟩ := HK.out.at1 (by rw [← HN.out]; omega)
    injection hg with hg1 hg2 hg3
    subst hg1
    have g4 : w1.cell? ⟨g, go + i, none⟩ = some (.string (ks.getD i ByteArray.empty)) := by
      rw [HKB.out.cell (p := ⟨g, go + i, none⟩) hgl (by simp), hgc i (by rw [← HN.out]; exact hlt), strs_at ks i (by rw [← HN.out]; exact hlt)]
    have hok := HKS.out (ks.getD i ByteArray.empty) (by rw [List.getD_eq_getElem?_getD, List.getElem?_eq_getElem (by rw [← HN.out]; exact hlt)]; exact List.getElem_mem _)
    generalize ks.getD i ByteArray.empty = k at *
    have e1 : k.toList.isEmpty = false := by
      cases h : k.toList with
      | nil => exact absurd (str_nil.1 h) (by omega)
      | cons _ _ => rfl
    have q2 : decide (k.size > 40) = false := decide_eq_false (by omega)
    have q3 : decide ((k.size : Int) > 40) = false := decide_eq_false (by omega)
    have q4 : decide (40 < (k.size : Int)) = false := decide_eq_false (by omega)
    have q5 : decide (40 < k.size) = false := decide_eq_false (by omega)
    have hok2 := hok.2
    clear hgc hg2 hg3 hok
    go_wp2_with fail
    go_roundw
    case rel => exact ⟨i + 1, by go_num, by omega, by first | rfl | trivial⟩
    case measure => simp only [intOf]; omega
  obtain rfl : n = i := by omega
  have q0 : decide ((n : Int) < (n : Int)) = false := by simp
  go_wp2_with fail
  clear q0 kcb hlt hi
  have hstart : Added w w1 B jb lb d sb frm t c (d :: sb :: jF jb lb v vl l) L M [] vl v l L [] := by
    refine ⟨by rw [List.append_nil]; exact H.out.still HKB.out, HD.out.keep HKB.out (by simp) (by simp), HC.out, HKB.out.mono (by simp), fun x hx => .inl (by simp [hx]), rfl, fun _ _ => rfl, rfl, by simp [keysCost]⟩
  have HSTART := Lib.hid hstart
  clear hstart
  go_loopw [32] (fun s32 wr => ∃ (j : Nat) (N : List Mk) (vl' v' : Value) (l' : List Sg) (L' : List Sec) (c' : Nat), s32 = .int .i64 (j : Int) ∧ j ≤ n ∧ Added w wr B jb lb d sb frm (t + 12 * j) c' (d :: sb :: jF jb lb v vl l) L M (ks.take j) vl' v' l' L' N ∧ Blk wr cb [.pointer (some ⟨jb, 0, none⟩)] 25) (fun x _ => n + 1 - (intOf x).toNat)
  case atStart => exact ⟨0, [], vl, v, l, L, c, rfl, Nat.zero_le _, by rw [List.take_zero]; exact HSTART.out, HBX.out⟩
  case round =>
  obtain ⟨j, N, vl1, v1, l1, L1, c1, rfl, hj, hA, hBX⟩ := hrel
  have HA := Lib.hid hA
  have HBX1 := Lib.hid hBX
  have kcb : wr.cell? ⟨cb, 0, none⟩ = some (.pointer (some ⟨jb, 0, none⟩)) := hBX.cell 0
  clear hA hBX HBX HSTART
  have hm0 := HA.out.ok.len
  have hlastm := HA.out.ok.last
  obtain ⟨m, hm⟩ : ∃ m, m = (M ++ N).length := ⟨_, rfl⟩
  rw [← hm] at hm0 hlastm
  have HM := Lib.hid hm
  have HLM := Lib.hid hlastm
  clear hm hlastm
  by_cases hlt : j < n
  · have q0 : decide ((j : Int) < (n : Int)) = true := decide_eq_true (by omega)
    obtain ⟨g, go, gcap, hg, _, hgl, hgc⟩ := HK.out.at1 (by rw [← HN.out]; omega)
    injection hg with hg1 hg2 hg3
    subst hg1
    have g4 : wr.cell? ⟨g, go + j, none⟩ = some (.string (ks.getD j ByteArray.empty)) := by
      rw [HA.out.keep.cell (p := ⟨g, go + j, none⟩) hgl (HSEP.out (by rw [← HN.out]; omega) g rfl), hgc j (by rw [← HN.out]; exact hlt), strs_at ks j (by rw [← HN.out]; exact hlt)]
    have hok := HKS.out (ks.getD j ByteArray.empty) (by rw [List.getD_eq_getElem?_getD, List.getElem?_eq_getElem (by rw [← HN.out]; exact hlt)]; exact List.getElem_mem _)
    have HTK : Hid (ks.take (j + 1) = ks.take j ++ [ks.getD j ByteArray.empty]) := Lib.hid (take_succ_getD _ _ _ (by rw [← HN.out]; exact hlt))
    have HKJ : Hid (ks[j]? = some (ks.getD j ByteArray.empty)) := Lib.hid (by rw [List.getD_eq_getElem?_getD, List.getElem?_eq_getElem (by rw [← HN.out]; exact hlt)]; rfl)
    have HCST : Hid (encN ((M ++ N).map recOf) + keyCost (ks.getD j ByteArray.empty) ≤ 2225) := Lib.hid (by
      have h1 := HA.out.cost
      have h2 := keysCost_le ks (j + 1)
      have h3 : keysCost (ks.take (j + 1)) = keysCost (ks.take j) + keyCost (ks.getD j ByteArray.empty) := by rw [HTK.out]; simp [keysCost]
      have h4 := HBUD.out
      omega)
    generalize ks.getD j ByteArray.empty = k at *
    have HOK := Lib.hid hok
    have hok2 := hok.2
    clear hgc hg2 hg3 hok
    have HSEQ := Lib.hid (Seq_any HA.out.ok.at_ (by have := HA.out.ok.len; omega))
    rw [HLM.out] at HSEQ
    go_upto_region 12 with fail
    go_wp2_with fail
    refine HSEQ.out.mono ?_
    rintro e wv ⟨rfl, hK2⟩
    have HA2 := Lib.hid (HA.out.still hK2)
    have HBX2 := Lib.hid (HBX1.out.keep hK2 (by simp))
    clear hK2 kcb g4 q0
    go_upto_region 13 with fail
    obtain ⟨nx, run, fr, q, hLog, hnx⟩ := HA2.out.ok.log
    have HLOG := Lib.hid hLog
    have HNX := Lib.hid hnx
    clear hLog hnx HA HBX1 HSEQ
    have HND := Lib.hid (HA2.out.ok.nd HA2.out.dev)
    have kcb : wv.cell? ⟨cb, 0, none⟩ = some (.pointer (some ⟨jb, 0, none⟩)) := HBX2.out.cell 0
    have kj0 : wv.cell? ⟨jb, 0, none⟩ = some (.pointer (some ⟨lb, 0, none⟩)) := HA2.out.ok.at_.blk.cell 0
    have HCBT : Hid (Ty wv cb 25) := Lib.hid HBX2.out.ty
    have hcbn : cb ∉ d :: sb :: lgF lb vl1 l1 := by
      intro hm
      simp only [List.mem_cons] at hm
      rcases hm with e | e | e
      · exact HCBT.out.ne HA2.out.dev.dev.ty (by decide) e
      · exact HCBT.out.ne HA2.out.dev.secs.ty (by decide) e
      · exact HLOG.out.at_.apartT HCBT.out (by decide) e
    have HCBN := Lib.hid hcbn
    have HCBL : Hid (cb < wv.heap.size ∧ jb < wv.heap.size) := Lib.hid ⟨HBX2.out.lt, HA2.out.ok.at_.blk.lt⟩
    clear hcbn
    have h10 := leb_len 10 (zz ((m : Int) + 1)) (by have := zz_lt ((m : Int) + 1) (by omega) (by omega); omega) (by omega)
    obtain ⟨LB, hLB⟩ : ∃ LB, LB = leb (zz ((m : Int) + 1)) := ⟨_, rfl⟩
    rw [← hLB] at h10
    have HLB := Lib.hid hLB
    have HLB256 : Hid (∀ c ∈ LB, c < 256) := Lib.hid (by rw [hLB]; exact leb_byte _)
    have HLB1 : Hid (1 ≤ LB.length) := Lib.hid (by rw [hLB]; unfold leb; split <;> simp)
    obtain ⟨n6, hn6⟩ : ∃ n6, n6 = LB.length := ⟨_, rfl⟩
    rw [← hn6] at h10
    have HN6 := Lib.hid hn6.symm
    have HKL : Hid ((kb k).length = k.size) := Lib.hid (kb_length k)
    have HZ : Hid (n6 ≤ 10 ∧ k.size ≤ 40) := Lib.hid ⟨h10, hok2⟩
    have HM0 := Lib.hid hm0
    obtain ⟨kn, hkn⟩ : ∃ kn, kn = k.size := ⟨_, rfl⟩
    have HKN := Lib.hid hkn
    clear hkn
    have HNJ : Hid (j ≤ 230) := Lib.hid (by omega)
    clear hLB hn6 h10 hm0
    refine wp_region_inv (addJ13 wv B cb jb lb d sb frm nx run q c1 m n6 kn vl1 l1 L1 LB k) (by kernel_rfl) (by kernel_rfl) (by kernel_rfl) ?_ (Steps.cons 0 ?_ (Steps.cons 1 ?_ (Steps.cons 2 ?_ (Steps.cons 3 ?_ (Steps.cons 4 ?_ (Steps.cons 5 ?_ (Steps.cons 6 ?_ (Steps.cons 7 ?_ (Steps.cons 8 ?_ (Steps.cons 9 ?_ (Steps.cons 10 ?_ (Steps.cons 11 ?_ (Steps.cons 12 ?_ (Steps.cons 13 ?_ (Steps.cons 14 ?_ (Steps.nil 15)))))))))))))))) 15 rfl ?_
    · intro x
      exact ⟨0, none, 0, none, 0, kcb, kj0, fun _ => (Keep.refl _ _).drew, fun h => absurd h (by decide), fun h => absurd h (by decide), fun h => absurd h (by decide), fun h => absurd h (by decide), fun h => absurd h (by decide), fun h => absurd h (by decide), fun h => absurd h (by decide), fun h => absurd h (by decide), fun h => absurd h (by decide), fun h => absurd h (by decide), fun h => absurd h (by decide), fun h => absurd h (by decide), fun h => absurd h (by decide), fun h => absurd h (by decide), fun h => absurd h (by decide), fun h => absurd h (by decide), fun h => absurd h (by decide), fun h => absurd h (by decide), fun h => absurd h (by decide)⟩
    · intro l x w' hJ hi hd
      obtain ⟨B5, a6, c6, a8, c8, kc, kj, hK0, hP, d9, d8, d6, h0, h1, h2, h3, h4, h5, h6, h7, h8, h9, h10, h11, h12, h13, h14⟩ := hJ
      have c0 := kc
      refine Runs.of (b := ?bA0) ?eA0 ?_
      case eA0 => simp only [putV, Act.put, List.setIfInBounds_toArray, List.set_cons_zero, List.set_cons_succ]; rfl
      intro K' hK'
      go_simp
      exact hK'.go _ rfl ⟨B5, a6, c6, a8, c8, kc, kj, hK0, hP, d9, d8, d6, fun _ => rfl, h1, h2, h3, h4, h5, h6, h7, h8, h9, h10, h11, h12, h13, h14⟩
    · intro l x w' hJ hi hd
      obtain ⟨B5, a6, c6, a8, c8, kc, kj, hK0, hP, d9, d8, d6, h0, h1, h2, h3, h4, h5, h6, h7, h8, h9, h10, h11, h12, h13, h14⟩ := hJ
      have e0 := h0 (show l 0 = true by first | exact hd.1 rfl | exact hd.2.1 rfl | exact hd.2.2.1 rfl | exact hd.2.2.2.1 rfl | exact hd.2.2.2.2.1 rfl | exact hd.2.2.2.2.2.1 rfl)
      refine Runs.of (b := ?bA1) ?eA1 ?_
      case eA1 => simp only [putV, Act.put, List.setIfInBounds_toArray, List.set_cons_zero, List.set_cons_succ, e0]; rfl
      intro K' hK'
      go_simp
      exact hK'.go _ rfl ⟨B5, a6, c6, a8, c8, kc, kj, hK0, hP, d9, d8, d6, h0, fun _ => rfl, h2, h3, h4, h5, h6, h7, h8, h9, h10, h11, h12, h13, h14⟩
    · intro l x w' hJ hi hd
      obtain ⟨B5, a6, c6, a8, c8, kc, kj, hK0, hP, d9, d8, d6, h0, h1, h2, h3, h4, h5, h6, h7, h8, h9, h10, h11, h12, h13, h14⟩ := hJ
      have e1 := h1 (show l 1 = true by first | exact hd.1 rfl | exact hd.2.1 rfl | exact hd.2.2.1 rfl | exact hd.2.2.2.1 rfl | exact hd.2.2.2.2.1 rfl | exact hd.2.2.2.2.2.1 rfl)
      refine Runs.of (b := ?bA2) ?eA2 ?_
      case eA2 => simp only [putV, Act.put, List.setIfInBounds_toArray, List.set_cons_zero, List.set_cons_succ, e1]; rfl
      intro K' hK'
      go_simp
      exact hK'.go _ rfl ⟨B5, a6, c6, a8, c8, kc, kj, hK0, hP, d9, d8, d6, h0, h1, fun _ => rfl, h3, h4, h5, h6, h7, h8, h9, h10, h11, h12, h13, h14⟩
    · intro l x w' hJ hi hd
      obtain ⟨B5, a6, c6, a8, c8, kc, kj, hK0, hP, d9, d8, d6, h0, h1, h2, h3, h4, h5, h6, h7, h8, h9, h10, h11, h12, h13, h14⟩ := hJ
      have e2 := h2 (show l 2 = true by first | exact hd.1 rfl | exact hd.2.1 rfl | exact hd.2.2.1 rfl | exact hd.2.2.2.1 rfl | exact hd.2.2.2.2.1 rfl | exact hd.2.2.2.2.2.1 rfl)
      have c0 := kj
      refine Runs.of (b := ?bA3) ?eA3 ?_
      case eA3 => simp only [putV, Act.put, List.setIfInBounds_toArray, List.set_cons_zero, List.set_cons_succ, e2]; rfl
      intro K' hK'
      go_simp
      exact hK'.go _ rfl ⟨B5, a6, c6, a8, c8, kc, kj, hK0, hP, d9, d8, d6, h0, h1, h2, fun _ => rfl, h4, h5, h6, h7, h8, h9, h10, h11, h12, h13, h14⟩
    · intro l x w' hJ hi hd
      obtain ⟨B5, a6, c6, a8, c8, kc, kj, hK0, hP, d9, d8, d6, h0, h1, h2, h3, h4, h5, h6, h7, h8, h9, h10, h11, h12, h13, h14⟩ := hJ
      refine Runs.of (b := ?bA4) ?eA4 ?_
      case eA4 => simp only [putV, Act.put, List.setIfInBounds_toArray, List.set_cons_zero, List.set_cons_succ]; rfl
      intro K' hK'
      go_simp
      exact hK'.go _ rfl ⟨B5, a6, c6, a8, c8, kc, kj, hK0, hP, d9, d8, d6, h0, h1, h2, h3, fun _ => rfl, h5, h6, h7, h8, h9, h10, h11, h12, h13, h14⟩
    · intro l x w' hJ hi hd
      obtain ⟨B5, a6, c6, a8, c8, kc, kj, hK0, hP, d9, d8, d6, h0, h1, h2, h3, h4, h5, h6, h7, h8, h9, h10, h11, h12, h13, h14⟩ := hJ
      have e4 := h4 (show l 4 = true by first | exact hd.1 rfl | exact hd.2.1 rfl | exact hd.2.2.1 rfl | exact hd.2.2.2.1 rfl | exact hd.2.2.2.2.1 rfl | exact hd.2.2.2.2.2.1 rfl)
      refine Runs.of (b := ?bA5) ?eA5 ?_
      case eA5 => simp only [putV, Act.put, List.setIfInBounds_toArray, List.set_cons_zero, List.set_cons_succ, e4]; rfl
      intro K' hK'
      go_simp
      exact hK'.go _ rfl ⟨w'.heap.size, a6, c6, a8, c8, ((Keep.refl [] _).alloc _).cell1 kc (by simp), ((Keep.refl [] _).alloc _).cell1 kj (by simp), fun h => (hK0 h).alloc _, fun h => (hP h).still ((Keep.refl [] _).alloc _), d9, d8, fun _ => rfl, h0, h1, h2, h3, h4, fun _ => ⟨rfl, fun _ => Blk.new _ [.int .i64 ((m : Int) + 1)] _⟩, fun h => ⟨(h6 h).1, fun h2 => ((h6 h).2 h2).alloc _⟩, h7, fun h => ⟨(h8 h).1, fun h2 => ((h8 h).2 h2).alloc _⟩, h9, h10, h11, h12, h13, h14⟩
    · intro l x w' hJ hi hd
      obtain ⟨B5, a6, c6, a8, c8, kc, kj, hK0, hP, d9, d8, d6, h0, h1, h2, h3, h4, h5, h6, h7, h8, h9, h10, h11, h12, h13, h14⟩ := hJ
      have e5 := h5 (show l 5 = true by first | exact hd.1 rfl | exact hd.2.1 rfl | exact hd.2.2.1 rfl | exact hd.2.2.2.1 rfl | exact hd.2.2.2.2.1 rfl | exact hd.2.2.2.2.2.1 rfl)
      have f8 : l 8 = false := by cases hq : l 8 with | false => rfl | true => exact absurd (d8 hq) (by simp [hi])
      have f9 : l 9 = false := by cases hq : l 9 with | false => rfl | true => exact absurd (d9 hq) (by simp [f8])
      have HL5 : Hid (l 5 = true) := Lib.hid (by first | exact hd.1 rfl | exact hd.2.1 rfl | exact hd.2.2.1 rfl | exact hd.2.2.2.1 rfl | exact hd.2.2.2.2.1 rfl | exact hd.2.2.2.2.2.1 rfl | exact hd.2.2.2.2.2.2.1 rfl | exact hd.2.2.2.2.2.2.2.1 rfl | exact hd.2.2.2.2.2.2.2.2.1 rfl | exact hd.2.2.2.2.2.2.2.2.2.1 rfl | exact hd.2.2.2.2.2.2.2.2.2.2.1 rfl | exact hd.2.2.2.2.2.2.2.2.2.2.2.1 rfl | exact hd.2.2.2.2.2.2.2.2.2.2.2.2.1 rfl | exact hd.2.2.2.2.2.2.2.2.2.2.2.2.2.1 rfl | exact hd.2.2.2.2.2.2.2.2.2.2.2.2.2.2.1 rfl | exact hd.2.2.2.2.2.2.2.2.2.2.2.2.2.2.2.1 rfl | exact hd.2.2.2.2.2.2.2.2.2.2.2.2.2.2.2.2.1 rfl | exact hd.2.2.2.2.2.2.2.2.2.2.2.2.2.2.2.2.2.1 rfl | exact hd.2.2.2.2.2.2.2.2.2.2.2.2.2.2.2.2.2.2.1 rfl | exact hd.2.2.2.2.2.2.2.2.2.2.2.2.2.2.2.2.2.2.2.1 rfl | exact hd.2.2.2.2.2.2.2.2.2.2.2.2.2.2.2.2.2.2.2.2.1 rfl | exact hd.2.2.2.2.2.2.2.2.2.2.2.2.2.2.2.2.2.2.2.2.2.1 rfl | exact hd.2.2.2.2.2.2.2.2.2.2.2.2.2.2.2.2.2.2.2.2.2.2.1 rfl | exact hd.2.2.2.2.2.2.2.2.2.2.2.2.2.2.2.2.2.2.2.2.2.2.2.1 rfl)
      have hRv : Rv w' 1 (.slice (some ⟨B5, 0, none⟩) 1 1) 1 (ints [(m : Int) + 1]) := rv_blk (e5.2 f8) rfl
      refine Runs.of (b := ?bA6) ?eA6 ?_
      case eA6 => simp only [putV, Act.put, List.setIfInBounds_toArray, List.set_cons_zero, List.set_cons_succ, e5.1]; rfl
      intro K' hK'
      go_simp
      refine (Put_any wv.heap.size (.slice none 0 0) [] _ [(m : Int) + 1] (Buf.nil _ _ _) hRv (fun _ q hq hc => by cases hc) (by intro n hn; simp only [List.mem_singleton] at hn; subst hn; have := HM0.out; exact ⟨by omega, by omega⟩) (by simp) (hK0 f9).size).mono ?_
      rintro e w2 ⟨v2, rfl, hO2⟩
      have k2 : Keep [] w' w2 := hO2.keep
      have hB2 := hO2.buf
      rw [List.nil_append, putAll_one, ← HLB.out] at hB2
      obtain ⟨p2, p3, hp2⟩ := hB2.slice
      rw [HN6.out] at hp2
      subst hp2
      have HB2 := Lib.hid hB2
      clear hB2 hO2
      go_simp
      exact hK'.go (.slice p2 n6 p3) rfl ⟨B5, p2, p3, a8, c8, k2.cell1 kc (by simp), k2.cell1 kj (by simp), fun h => (hK0 h).trans k2, fun h => (hP h).still k2, d9, fun _ => rfl, fun _ => HL5.out, h0, h1, h2, h3, h4, fun h => ⟨(h5 h).1, fun h2 => ((h5 h).2 h2).keep k2 (by simp)⟩, fun _ => ⟨rfl, fun _ => HB2.out⟩, h7, fun h => absurd (f8.symm.trans h) (by decide), h9, h10, h11, h12, h13, h14⟩
    · intro l x w' hJ hi hd
      obtain ⟨B5, a6, c6, a8, c8, kc, kj, hK0, hP, d9, d8, d6, h0, h1, h2, h3, h4, h5, h6, h7, h8, h9, h10, h11, h12, h13, h14⟩ := hJ
      refine Runs.of (b := ?bA7) ?eA7 ?_
      case eA7 => simp only [putV, Act.put, List.setIfInBounds_toArray, List.set_cons_zero, List.set_cons_succ]; rfl
      intro K' hK'
      go_simp
      exact hK'.go _ rfl ⟨B5, a6, c6, a8, c8, kc, kj, hK0, hP, d9, d8, d6, h0, h1, h2, h3, h4, h5, h6, fun _ => rfl, h8, h9, h10, h11, h12, h13, h14⟩
    · intro l x w' hJ hi hd
      obtain ⟨B5, a6, c6, a8, c8, kc, kj, hK0, hP, d9, d8, d6, h0, h1, h2, h3, h4, h5, h6, h7, h8, h9, h10, h11, h12, h13, h14⟩ := hJ
      have e6 := h6 (show l 6 = true by first | exact hd.1 rfl | exact hd.2.1 rfl | exact hd.2.2.1 rfl | exact hd.2.2.2.1 rfl | exact hd.2.2.2.2.1 rfl | exact hd.2.2.2.2.2.1 rfl)
      have e7 := h7 (show l 7 = true by first | exact hd.1 rfl | exact hd.2.1 rfl | exact hd.2.2.1 rfl | exact hd.2.2.2.1 rfl | exact hd.2.2.2.2.1 rfl | exact hd.2.2.2.2.2.1 rfl)
      have f9 : l 9 = false := by cases hq : l 9 with | false => rfl | true => exact absurd (d9 hq) (by simp [hi])
      have HL6 : Hid (l 6 = true) := Lib.hid (by first | exact hd.1 rfl | exact hd.2.1 rfl | exact hd.2.2.1 rfl | exact hd.2.2.2.1 rfl | exact hd.2.2.2.2.1 rfl | exact hd.2.2.2.2.2.1 rfl | exact hd.2.2.2.2.2.2.1 rfl | exact hd.2.2.2.2.2.2.2.1 rfl | exact hd.2.2.2.2.2.2.2.2.1 rfl | exact hd.2.2.2.2.2.2.2.2.2.1 rfl | exact hd.2.2.2.2.2.2.2.2.2.2.1 rfl | exact hd.2.2.2.2.2.2.2.2.2.2.2.1 rfl | exact hd.2.2.2.2.2.2.2.2.2.2.2.2.1 rfl | exact hd.2.2.2.2.2.2.2.2.2.2.2.2.2.1 rfl | exact hd.2.2.2.2.2.2.2.2.2.2.2.2.2.2.1 rfl | exact hd.2.2.2.2.2.2.2.2.2.2.2.2.2.2.2.1 rfl | exact hd.2.2.2.2.2.2.2.2.2.2.2.2.2.2.2.2.1 rfl | exact hd.2.2.2.2.2.2.2.2.2.2.2.2.2.2.2.2.2.1 rfl | exact hd.2.2.2.2.2.2.2.2.2.2.2.2.2.2.2.2.2.2.1 rfl | exact hd.2.2.2.2.2.2.2.2.2.2.2.2.2.2.2.2.2.2.2.1 rfl | exact hd.2.2.2.2.2.2.2.2.2.2.2.2.2.2.2.2.2.2.2.2.1 rfl | exact hd.2.2.2.2.2.2.2.2.2.2.2.2.2.2.2.2.2.2.2.2.2.1 rfl | exact hd.2.2.2.2.2.2.2.2.2.2.2.2.2.2.2.2.2.2.2.2.2.2.1 rfl | exact hd.2.2.2.2.2.2.2.2.2.2.2.2.2.2.2.2.2.2.2.2.2.2.2.1 rfl)
      have hB := e6.2 hi
      refine Runs.of (b := ?bA8) ?eA8 ?_
      case eA8 => simp only [putV, Act.put, List.setIfInBounds_toArray, List.set_cons_zero, List.set_cons_succ, e6.1, e7]; rfl
      intro K' hK'
      refine step_append_src _ rfl (.tmp 46) (.tmp 47) 30 9 rfl wv.heap.size 5 i8 _ 1 1 Try.underlying30 hi8 hz80 hz81 hz82 rfl (by decide) (.slice a6 n6 c6) n6 (bcs LB) rfl (buf_n hB HN6.out) _ kn (bcs (kb k)) rfl (srcKey k HKN.out Try.underlying9) (by unfold maxLen; have := HZ.out; have := HKN.out; omega) (by have := HZ.out; have := HKN.out; omega) (hK0 f9).size ?_
      intro v2 w2 g2 g3 _ g4
      obtain ⟨v2a, v2c, rfl⟩ := ownsRow_slice g2
      have k2 : Keep (.slice a6 n6 c6 : Value).ownBlock.toList w' w2 := Keep.grown g3
      have hB9 := buf_app g2 HN6.out (HKL.out.trans HKN.out.symm)
      have hlo := fun x hx => (hB.lt x (Option.mem_toList.1 hx)).1
      exact hK'.go (.slice v2a (n6 + kn) v2c) rfl ⟨B5, a6, c6, v2a, v2c, k2.cell1 kc (fun hm => by have := hlo cb hm; have := HCBL.out; omega), k2.cell1 kj (fun hm => by have := hlo jb hm; have := HCBL.out; omega), fun h => (hK0 h).then k2 (fun x hx hlt => absurd (hlo x hx) (by omega)), fun h => absurd (f9.symm.trans h) (by decide), fun _ => rfl, fun _ => HL6.out, d6, h0, h1, h2, h3, h4, fun h => ⟨(h5 h).1, fun h2 => Bool.noConfusion (show true = false from h2)⟩, fun h => ⟨(h6 h).1, fun h2 => Bool.noConfusion (show true = false from h2)⟩, h7, fun _ => ⟨rfl, fun _ => hB9⟩, h9, h10, h11, h12, h13, h14⟩
    · intro l x w' hJ hi hd
      obtain ⟨B5, a6, c6, a8, c8, kc, kj, hK0, hP, d9, d8, d6, h0, h1, h2, h3, h4, h5, h6, h7, h8, h9, h10, h11, h12, h13, h14⟩ := hJ
      have e3 := h3 (show l 3 = true by first | exact hd.1 rfl | exact hd.2.1 rfl | exact hd.2.2.1 rfl | exact hd.2.2.2.1 rfl | exact hd.2.2.2.2.1 rfl | exact hd.2.2.2.2.2.1 rfl)
      have e8 := h8 (show l 8 = true by first | exact hd.1 rfl | exact hd.2.1 rfl | exact hd.2.2.1 rfl | exact hd.2.2.2.1 rfl | exact hd.2.2.2.2.1 rfl | exact hd.2.2.2.2.2.1 rfl)
      have HL8 : Hid (l 8 = true) := Lib.hid (by first | exact hd.1 rfl | exact hd.2.1 rfl | exact hd.2.2.1 rfl | exact hd.2.2.2.1 rfl | exact hd.2.2.2.2.1 rfl | exact hd.2.2.2.2.2.1 rfl | exact hd.2.2.2.2.2.2.1 rfl | exact hd.2.2.2.2.2.2.2.1 rfl | exact hd.2.2.2.2.2.2.2.2.1 rfl | exact hd.2.2.2.2.2.2.2.2.2.1 rfl | exact hd.2.2.2.2.2.2.2.2.2.2.1 rfl | exact hd.2.2.2.2.2.2.2.2.2.2.2.1 rfl | exact hd.2.2.2.2.2.2.2.2.2.2.2.2.1 rfl | exact hd.2.2.2.2.2.2.2.2.2.2.2.2.2.1 rfl | exact hd.2.2.2.2.2.2.2.2.2.2.2.2.2.2.1 rfl | exact hd.2.2.2.2.2.2.2.2.2.2.2.2.2.2.2.1 rfl | exact hd.2.2.2.2.2.2.2.2.2.2.2.2.2.2.2.2.1 rfl | exact hd.2.2.2.2.2.2.2.2.2.2.2.2.2.2.2.2.2.1 rfl | exact hd.2.2.2.2.2.2.2.2.2.2.2.2.2.2.2.2.2.2.1 rfl | exact hd.2.2.2.2.2.2.2.2.2.2.2.2.2.2.2.2.2.2.2.1 rfl | exact hd.2.2.2.2.2.2.2.2.2.2.2.2.2.2.2.2.2.2.2.2.1 rfl | exact hd.2.2.2.2.2.2.2.2.2.2.2.2.2.2.2.2.2.2.2.2.2.1 rfl | exact hd.2.2.2.2.2.2.2.2.2.2.2.2.2.2.2.2.2.2.2.2.2.2.1 rfl | exact hd.2.2.2.2.2.2.2.2.2.2.2.2.2.2.2.2.2.2.2.2.2.2.2.1 rfl)
      have hBx := Lib.hid (e8.2 hi)
      have hk0 := Lib.hid (hK0 hi)
      refine Runs.of (b := ?bA9) ?eA9 ?_
      case eA9 => simp only [putV, Act.put, List.setIfInBounds_toArray, List.set_cons_zero, List.set_cons_succ, e3, e8.1]; rfl
      intro K' hK'
      go_simp
      refine (appendOk (HLOG.out.still hk0.out) (HA2.out.dev.keep hk0.out (by simp) (by simp)) (by have := HA2.out.cnt; have := HT.out; have := HNJ.out; omega) ⟨HNX.out.1, by have := HNX.out.2.1; have := HT.out; have := HNJ.out; omega⟩ (by have := HNX.out.2.2.1; have := HT.out; have := HNJ.out; omega) (by have := HNX.out.2.2.2; have := HT.out; have := HNJ.out; omega) ⟨by decide, by decide⟩ (by rw [HA2.out.len]; exact HLT.out) hBx.out.rd (by rw [List.length_append, HKL.out]; have := HZ.out; have := HLB1.out; have := HN6.out; omega) (fun x hx => (List.mem_append.1 hx).elim (HLB256.out x) (jsb_byte k x)) (fun x hx => HLOG.out.at_.newNot HA2.out.dev (hBx.out.lt x hx).1)).mono ?_
      rintro e w9 ⟨rfl, vl9, l9, L9, c9, hL9, hD9, hc9, hps9, hK9, hF9, hlen9, hout9⟩
      have hPP : LApp wv w9 B lb d sb frm nx run q c1 (d :: sb :: lgF lb vl1 l1) l1 L1 (LB ++ kb k) := ⟨⟨vl9, l9, L9, c9, hL9, hD9, hc9, hps9, fun x hx => (hF9 x hx).elim (fun h => .inl (List.mem_cons_of_mem _ (List.mem_cons_of_mem _ h))) (fun h => .inr (Nat.le_trans hk0.out.size h)), hlen9, hout9⟩, (hk0.out.mono (by simp)).trans hK9⟩
      have HPP := Lib.hid hPP
      have k2 := Lib.hid hK9
      clear hPP hL9 hD9 hc9 hps9 hK9 hF9 hlen9 hout9
      go_simp
      exact hK'.go _ rfl ⟨B5, a6, c6, a8, c8, k2.out.cell1 kc HCBN.out, k2.out.cell1 kj HND.out.1, fun h => Bool.noConfusion (show true = false from h), fun _ => HPP.out, fun _ => HL8.out, d8, d6, h0, h1, h2, h3, h4, fun h => ⟨(h5 h).1, fun h2 => absurd (h2.symm.trans HL8.out) (by decide)⟩, fun h => ⟨(h6 h).1, fun h2 => absurd (h2.symm.trans HL8.out) (by decide)⟩, h7, fun h => ⟨(h8 h).1, fun h2 => Bool.noConfusion (show true = false from h2)⟩, fun _ => rfl, h10, h11, h12, h13, h14⟩
    · intro l x w' hJ hi hd
      obtain ⟨B5, a6, c6, a8, c8, kc, kj, hK0, hP, d9, d8, d6, h0, h1, h2, h3, h4, h5, h6, h7, h8, h9, h10, h11, h12, h13, h14⟩ := hJ
      have e9 := h9 (show l 9 = true by first | exact hd.1 rfl | exact hd.2.1 rfl | exact hd.2.2.1 rfl | exact hd.2.2.2.1 rfl | exact hd.2.2.2.2.1 rfl | exact hd.2.2.2.2.2.1 rfl)
      refine Runs.of (b := ?bA10) ?eA10 ?_
      case eA10 => simp only [putV, Act.put, List.setIfInBounds_toArray, List.set_cons_zero, List.set_cons_succ, e9]; rfl
      intro K' hK'
      go_simp
      exact hK'.go _ rfl ⟨B5, a6, c6, a8, c8, kc, kj, hK0, hP, d9, d8, d6, h0, h1, h2, h3, h4, h5, h6, h7, h8, h9, fun _ => rfl, h11, h12, h13, h14⟩
    · intro l x w' hJ hi hd
      obtain ⟨B5, a6, c6, a8, c8, kc, kj, hK0, hP, d9, d8, d6, h0, h1, h2, h3, h4, h5, h6, h7, h8, h9, h10, h11, h12, h13, h14⟩ := hJ
      have e10 := h10 (show l 10 = true by first | exact hd.1 rfl | exact hd.2.1 rfl | exact hd.2.2.1 rfl | exact hd.2.2.2.1 rfl | exact hd.2.2.2.2.1 rfl | exact hd.2.2.2.2.2.1 rfl)
      refine Runs.of (b := ?bA11) ?eA11 ?_
      case eA11 => simp only [putV, Act.put, List.setIfInBounds_toArray, List.set_cons_zero, List.set_cons_succ, e10]; rfl
      intro K' hK'
      go_simp
      exact hK'.go _ rfl ⟨B5, a6, c6, a8, c8, kc, kj, hK0, hP, d9, d8, d6, h0, h1, h2, h3, h4, h5, h6, h7, h8, h9, h10, fun _ => rfl, h12, h13, h14⟩
    · intro l x w' hJ hi hd
      obtain ⟨B5, a6, c6, a8, c8, kc, kj, hK0, hP, d9, d8, d6, h0, h1, h2, h3, h4, h5, h6, h7, h8, h9, h10, h11, h12, h13, h14⟩ := hJ
      have e10 := h10 (show l 10 = true by first | exact hd.1 rfl | exact hd.2.1 rfl | exact hd.2.2.1 rfl | exact hd.2.2.2.1 rfl | exact hd.2.2.2.2.1 rfl | exact hd.2.2.2.2.2.1 rfl)
      refine Runs.of (b := ?bA12) ?eA12 ?_
      case eA12 => simp only [putV, Act.put, List.setIfInBounds_toArray, List.set_cons_zero, List.set_cons_succ, e10]; rfl
      intro K' hK'
      go_simp
      exact hK'.go _ rfl ⟨B5, a6, c6, a8, c8, kc, kj, hK0, hP, d9, d8, d6, h0, h1, h2, h3, h4, h5, h6, h7, h8, h9, h10, h11, fun _ => rfl, h13, h14⟩
    · intro l x w' hJ hi hd
      obtain ⟨B5, a6, c6, a8, c8, kc, kj, hK0, hP, d9, d8, d6, h0, h1, h2, h3, h4, h5, h6, h7, h8, h9, h10, h11, h12, h13, h14⟩ := hJ
      have e11 := h11 (show l 11 = true by first | exact hd.1 rfl | exact hd.2.1 rfl | exact hd.2.2.1 rfl | exact hd.2.2.2.1 rfl | exact hd.2.2.2.2.1 rfl | exact hd.2.2.2.2.2.1 rfl)
      refine Runs.of (b := ?bA13) ?eA13 ?_
      case eA13 => simp only [putV, Act.put, List.setIfInBounds_toArray, List.set_cons_zero, List.set_cons_succ, e11]; rfl
      intro K' hK'
      go_simp
      exact hK'.go _ rfl ⟨B5, a6, c6, a8, c8, kc, kj, hK0, hP, d9, d8, d6, h0, h1, h2, h3, h4, h5, h6, h7, h8, h9, h10, h11, h12, fun _ => rfl, h14⟩
    · intro l x w' hJ hi hd
      obtain ⟨B5, a6, c6, a8, c8, kc, kj, hK0, hP, d9, d8, d6, h0, h1, h2, h3, h4, h5, h6, h7, h8, h9, h10, h11, h12, h13, h14⟩ := hJ
      have e12 := h12 (show l 12 = true by first | exact hd.1 rfl | exact hd.2.1 rfl | exact hd.2.2.1 rfl | exact hd.2.2.2.1 rfl | exact hd.2.2.2.2.1 rfl | exact hd.2.2.2.2.2.1 rfl)
      refine Runs.of (b := ?bA14) ?eA14 ?_
      case eA14 => simp only [putV, Act.put, List.setIfInBounds_toArray, List.set_cons_zero, List.set_cons_succ, e12]; rfl
      intro K' hK'
      go_simp
      exact hK'.go _ rfl ⟨B5, a6, c6, a8, c8, kc, kj, hK0, hP, d9, d8, d6, h0, h1, h2, h3, h4, h5, h6, h7, h8, h9, h10, h11, h12, h13, fun _ => rfl⟩
    · intro l x w3 hJ hl
      obtain ⟨B5, a6, c6, a8, c8, kc, kj, hK0, hP, d9, d8, d6, h0, h1, h2, h3, h4, h5, h6, h7, h8, h9, h10, h11, h12, h13, h14⟩ := hJ
      have HAP := Lib.hid (hP (hl 9 (by decide)))
      have e13 := h13 (hl 13 (by decide))
      have e14 := h14 (hl 14 (by decide))
      simp only [putV, Act.put, List.setIfInBounds_toArray, List.set_cons_zero, List.set_cons_succ, e13, e14]
      have HBX3 := Lib.hid (HBX2.out.keep HAP.out.keep HCBN.out)
      have HJ3 := Lib.hid (HA2.out.ok.at_.keep HAP.out.keep HND.out.1 (fun q hq => (HND.out.2 q hq).1))
      clear h0 h1 h2 h3 h4 h5 h6 h7 h8 h9 h10 h11 h12 h13 h14 kc kj hK0 hP d9 d8 d6 hl e13 e14 kcb kj0
      generalize w3 = wa at *
      obtain ⟨va, vc, hv1⟩ := HJ3.out.row.slice
      rw [← HM.out] at hv1
      subst hv1
      go_upto_region 16 with fail
      have kcb : wa.cell? ⟨cb, 0, none⟩ = some (.pointer (some ⟨jb, 0, none⟩)) := HBX3.out.cell 0
      have hJ16 := HJ3.out.blk
      have hR16 := HJ3.out.row
      have HCBT3 := Lib.hid HBX3.out.ty
      have HMK : Hid (mkC ⟨m + 1, kb k, nx⟩ = [.int .i64 ((m : Int) + 1), .string k, .int .i64 (nx : Int)]) := Lib.hid (by
        unfold mkC
        simp only
        rw [show toStr (kb k) = k from jtoStr_sb k]
        rfl)
      have HBS : Hid (B ≤ wa.heap.size) := Lib.hid (Nat.le_trans HA2.out.ok.new (Nat.le_of_lt HJ3.out.blk.lt))
      obtain ⟨A, hA⟩ : ∃ A, A = M ++ N := ⟨_, rfl⟩
      rw [← hA] at hR16
      have HMA : Hid (A.length = m) := Lib.hid (by rw [hA, HM.out])
      have HAA := Lib.hid hA
      clear hA
      refine wp_region_inv (addJ16 wa B cb jb lb nx m va vc A k) (by kernel_rfl) (by kernel_rfl) (by kernel_rfl) ?_ (Steps.cons 0 ?_ (Steps.cons 1 ?_ (Steps.cons 2 ?_ (Steps.cons 3 ?_ (Steps.cons 4 ?_ (Steps.cons 5 ?_ (Steps.cons 6 ?_ (Steps.cons 7 ?_ (Steps.cons 8 ?_ (Steps.cons 9 ?_ (Steps.cons 10 ?_ (Steps.cons 11 ?_ (Steps.cons 12 ?_ (Steps.cons 13 ?_ (Steps.cons 14 ?_ (Steps.nil 15)))))))))))))))) 15 rfl ?_
      · intro x
        exact ⟨none, 0, 0, kcb, fun _ => hJ16.drew, fun h => absurd h (by decide), fun _ => hR16.keep (Keep.refl [] _).drew (by simp), fun h => absurd h (by decide), fun h => absurd h (by decide), fun h => absurd h (by decide), fun h => absurd h (by decide), (Keep.refl _ _).drew, fun h => absurd h (by decide), fun h => absurd h (by decide), fun h => absurd h (by decide), fun h => absurd h (by decide), fun h => absurd h (by decide), fun h => absurd h (by decide), fun h => absurd h (by decide), fun h => absurd h (by decide), fun h => absurd h (by decide), fun h => absurd h (by decide), fun h => absurd h (by decide), fun h => absurd h (by decide), fun h => absurd h (by decide), fun h => absurd h (by decide), fun h => absurd h (by decide)⟩
      · intro l x w' hJ hi hd
        obtain ⟨ua, uc, B10, kc, hJ0, hJ1, hR0, hR1, hv, d14, d11, hK, h0, h1, h2, h3, h4, h5, h6, h7, h8, h9, h10, h11, h12, h13, h14⟩ := hJ
        have c0 := kc
        refine Runs.of (b := ?bB0) ?eB0 ?_
        case eB0 => simp only [putV, Act.put, List.setIfInBounds_toArray, List.set_cons_zero, List.set_cons_succ]; rfl
        intro K' hK'
        go_simp
        exact hK'.go _ rfl ⟨ua, uc, B10, kc, hJ0, hJ1, hR0, hR1, hv, d14, d11, hK, fun _ => rfl, h1, h2, h3, h4, h5, h6, h7, h8, h9, h10, h11, h12, h13, h14⟩
      · intro l x w' hJ hi hd
        obtain ⟨ua, uc, B10, kc, hJ0, hJ1, hR0, hR1, hv, d14, d11, hK, h0, h1, h2, h3, h4, h5, h6, h7, h8, h9, h10, h11, h12, h13, h14⟩ := hJ
        have c0 := kc
        refine Runs.of (b := ?bB1) ?eB1 ?_
        case eB1 => simp only [putV, Act.put, List.setIfInBounds_toArray, List.set_cons_zero, List.set_cons_succ]; rfl
        intro K' hK'
        go_simp
        exact hK'.go _ rfl ⟨ua, uc, B10, kc, hJ0, hJ1, hR0, hR1, hv, d14, d11, hK, h0, fun _ => rfl, h2, h3, h4, h5, h6, h7, h8, h9, h10, h11, h12, h13, h14⟩
      · intro l x w' hJ hi hd
        obtain ⟨ua, uc, B10, kc, hJ0, hJ1, hR0, hR1, hv, d14, d11, hK, h0, h1, h2, h3, h4, h5, h6, h7, h8, h9, h10, h11, h12, h13, h14⟩ := hJ
        have e1 := h1 (show l 1 = true by first | exact hd.1 rfl | exact hd.2.1 rfl | exact hd.2.2.1 rfl | exact hd.2.2.2.1 rfl | exact hd.2.2.2.2.1 rfl | exact hd.2.2.2.2.2.1 rfl)
        refine Runs.of (b := ?bB2) ?eB2 ?_
        case eB2 => simp only [putV, Act.put, List.setIfInBounds_toArray, List.set_cons_zero, List.set_cons_succ, e1]; rfl
        intro K' hK'
        go_simp
        exact hK'.go _ rfl ⟨ua, uc, B10, kc, hJ0, hJ1, hR0, hR1, hv, d14, d11, hK, h0, h1, fun _ => rfl, h3, h4, h5, h6, h7, h8, h9, h10, h11, h12, h13, h14⟩
      · intro l x w' hJ hi hd
        obtain ⟨ua, uc, B10, kc, hJ0, hJ1, hR0, hR1, hv, d14, d11, hK, h0, h1, h2, h3, h4, h5, h6, h7, h8, h9, h10, h11, h12, h13, h14⟩ := hJ
        have e2 := h2 (show l 2 = true by first | exact hd.1 rfl | exact hd.2.1 rfl | exact hd.2.2.1 rfl | exact hd.2.2.2.1 rfl | exact hd.2.2.2.2.1 rfl | exact hd.2.2.2.2.2.1 rfl)
        refine Runs.of (b := ?bB3) ?eB3 ?_
        case eB3 => simp only [putV, Act.put, List.setIfInBounds_toArray, List.set_cons_zero, List.set_cons_succ, e2]; rfl
        intro K' hK'
        go_simp
        exact hK'.go _ rfl ⟨ua, uc, B10, kc, hJ0, hJ1, hR0, hR1, hv, d14, d11, hK, h0, h1, h2, fun _ => rfl, h4, h5, h6, h7, h8, h9, h10, h11, h12, h13, h14⟩
      · intro l x w' hJ hi hd
        obtain ⟨ua, uc, B10, kc, hJ0, hJ1, hR0, hR1, hv, d14, d11, hK, h0, h1, h2, h3, h4, h5, h6, h7, h8, h9, h10, h11, h12, h13, h14⟩ := hJ
        have e3 := h3 (show l 3 = true by first | exact hd.1 rfl | exact hd.2.1 rfl | exact hd.2.2.1 rfl | exact hd.2.2.2.1 rfl | exact hd.2.2.2.2.1 rfl | exact hd.2.2.2.2.2.1 rfl)
        have f14 : l 14 = false := by cases hq : l 14 with | false => rfl | true => exact absurd (d11 (d14 hq)) (by simp [hi])
        have c0 : w'.cell? ⟨jb, 1, none⟩ = some (.slice va m vc) := (hJ0 f14).cell 1
        refine Runs.of (b := ?bB4) ?eB4 ?_
        case eB4 => simp only [putV, Act.put, List.setIfInBounds_toArray, List.set_cons_zero, List.set_cons_succ, e3]; rfl
        intro K' hK'
        go_simp
        exact hK'.go _ rfl ⟨ua, uc, B10, kc, hJ0, hJ1, hR0, hR1, hv, d14, fun _ => rfl, hK, h0, h1, h2, h3, fun _ => rfl, h5, h6, h7, h8, h9, h10, h11, h12, h13, h14⟩
      · intro l x w' hJ hi hd
        obtain ⟨ua, uc, B10, kc, hJ0, hJ1, hR0, hR1, hv, d14, d11, hK, h0, h1, h2, h3, h4, h5, h6, h7, h8, h9, h10, h11, h12, h13, h14⟩ := hJ
        refine Runs.of (b := ?bB5) ?eB5 ?_
        case eB5 => simp only [putV, Act.put, List.setIfInBounds_toArray, List.set_cons_zero, List.set_cons_succ]; rfl
        intro K' hK'
        go_simp
        exact hK'.go _ rfl ⟨ua, uc, B10, kc, hJ0, hJ1, hR0, hR1, hv, d14, d11, hK, h0, h1, h2, h3, h4, fun _ => rfl, h6, h7, h8, h9, h10, h11, h12, h13, h14⟩
      · intro l x w' hJ hi hd
        obtain ⟨ua, uc, B10, kc, hJ0, hJ1, hR0, hR1, hv, d14, d11, hK, h0, h1, h2, h3, h4, h5, h6, h7, h8, h9, h10, h11, h12, h13, h14⟩ := hJ
        refine Runs.of (b := ?bB6) ?eB6 ?_
        case eB6 => simp only [putV, Act.put, List.setIfInBounds_toArray, List.set_cons_zero, List.set_cons_succ]; rfl
        intro K' hK'
        go_simp
        exact hK'.go _ rfl ⟨ua, uc, B10, kc, hJ0, hJ1, hR0, hR1, hv, d14, d11, hK, h0, h1, h2, h3, h4, h5, fun _ => rfl, h7, h8, h9, h10, h11, h12, h13, h14⟩
      · intro l x w' hJ hi hd
        obtain ⟨ua, uc, B10, kc, hJ0, hJ1, hR0, hR1, hv, d14, d11, hK, h0, h1, h2, h3, h4, h5, h6, h7, h8, h9, h10, h11, h12, h13, h14⟩ := hJ
        have e5 := h5 (show l 5 = true by first | exact hd.1 rfl | exact hd.2.1 rfl | exact hd.2.2.1 rfl | exact hd.2.2.2.1 rfl | exact hd.2.2.2.2.1 rfl | exact hd.2.2.2.2.2.1 rfl)
        have e6 := h6 (show l 6 = true by first | exact hd.1 rfl | exact hd.2.1 rfl | exact hd.2.2.1 rfl | exact hd.2.2.2.1 rfl | exact hd.2.2.2.2.1 rfl | exact hd.2.2.2.2.2.1 rfl)
        refine Runs.of (b := ?bB7) ?eB7 ?_
        case eB7 => simp only [putV, Act.put, List.setIfInBounds_toArray, List.set_cons_zero, List.set_cons_succ, e5, e6]; rfl
        intro K' hK'
        go_simp
        exact hK'.go _ rfl ⟨ua, uc, B10, kc, hJ0, hJ1, hR0, hR1, hv, d14, d11, hK, h0, h1, h2, h3, h4, h5, h6, fun _ => rfl, h8, h9, h10, h11, h12, h13, h14⟩
      · intro l x w' hJ hi hd
        obtain ⟨ua, uc, B10, kc, hJ0, hJ1, hR0, hR1, hv, d14, d11, hK, h0, h1, h2, h3, h4, h5, h6, h7, h8, h9, h10, h11, h12, h13, h14⟩ := hJ
        refine Runs.of (b := ?bB8) ?eB8 ?_
        case eB8 => simp only [putV, Act.put, List.setIfInBounds_toArray, List.set_cons_zero, List.set_cons_succ]; rfl
        intro K' hK'
        go_simp
        exact hK'.go _ rfl ⟨ua, uc, B10, kc, hJ0, hJ1, hR0, hR1, hv, d14, d11, hK, h0, h1, h2, h3, h4, h5, h6, h7, fun _ => rfl, h9, h10, h11, h12, h13, h14⟩
      · intro l x w' hJ hi hd
        obtain ⟨ua, uc, B10, kc, hJ0, hJ1, hR0, hR1, hv, d14, d11, hK, h0, h1, h2, h3, h4, h5, h6, h7, h8, h9, h10, h11, h12, h13, h14⟩ := hJ
        have e7 := h7 (show l 7 = true by first | exact hd.1 rfl | exact hd.2.1 rfl | exact hd.2.2.1 rfl | exact hd.2.2.2.1 rfl | exact hd.2.2.2.2.1 rfl | exact hd.2.2.2.2.2.1 rfl)
        have e8 := h8 (show l 8 = true by first | exact hd.1 rfl | exact hd.2.1 rfl | exact hd.2.2.1 rfl | exact hd.2.2.2.1 rfl | exact hd.2.2.2.2.1 rfl | exact hd.2.2.2.2.2.1 rfl)
        refine Runs.of (b := ?bB9) ?eB9 ?_
        case eB9 => simp only [putV, Act.put, List.setIfInBounds_toArray, List.set_cons_zero, List.set_cons_succ, e7, e8]; rfl
        intro K' hK'
        go_simp
        exact hK'.go _ rfl ⟨ua, uc, B10, kc, hJ0, hJ1, hR0, hR1, hv, d14, d11, hK, h0, h1, h2, h3, h4, h5, h6, h7, h8, fun _ => rfl, h10, h11, h12, h13, h14⟩
      · intro l x w' hJ hi hd
        obtain ⟨ua, uc, B10, kc, hJ0, hJ1, hR0, hR1, hv, d14, d11, hK, h0, h1, h2, h3, h4, h5, h6, h7, h8, h9, h10, h11, h12, h13, h14⟩ := hJ
        have e9 := h9 (show l 9 = true by first | exact hd.1 rfl | exact hd.2.1 rfl | exact hd.2.2.1 rfl | exact hd.2.2.2.1 rfl | exact hd.2.2.2.2.1 rfl | exact hd.2.2.2.2.2.1 rfl)
        refine Runs.of (b := ?bB10) ?eB10 ?_
        case eB10 => simp only [putV, Act.put, List.setIfInBounds_toArray, List.set_cons_zero, List.set_cons_succ, e9]; rfl
        intro K' hK'
        go_simp
        exact hK'.go _ rfl ⟨ua, uc, w'.heap.size, ((Keep.refl [] _).alloc _).cell1 kc (by simp), fun h => (hJ0 h).alloc _, fun h => (hJ1 h).alloc _, fun h => (hR0 h).keep ((Keep.refl [] _).alloc _) (by simp), fun h => (hR1 h).keep ((Keep.refl [] _).alloc _) (by simp), hv, d14, d11, hK.alloc _, h0, h1, h2, h3, h4, h5, h6, h7, h8, h9, fun _ => ⟨rfl, fun _ => ⟨Blk.new _ [.int .i64 ((m : Int) + 1), .string k, .int .i64 (nx : Int)] _, hK.size⟩⟩, h11, h12, h13, h14⟩
      · intro l x w' hJ hi hd
        obtain ⟨ua, uc, B10, kc, hJ0, hJ1, hR0, hR1, hv, d14, d11, hK, h0, h1, h2, h3, h4, h5, h6, h7, h8, h9, h10, h11, h12, h13, h14⟩ := hJ
        have e4 := h4 (show l 4 = true by first | exact hd.1 rfl | exact hd.2.1 rfl | exact hd.2.2.1 rfl | exact hd.2.2.2.1 rfl | exact hd.2.2.2.2.1 rfl | exact hd.2.2.2.2.2.1 rfl)
        have e10 := h10 (show l 10 = true by first | exact hd.1 rfl | exact hd.2.1 rfl | exact hd.2.2.1 rfl | exact hd.2.2.2.1 rfl | exact hd.2.2.2.2.1 rfl | exact hd.2.2.2.2.2.1 rfl)
        have HL4 : Hid (l 4 = true) := Lib.hid (by first | exact hd.1 rfl | exact hd.2.1 rfl | exact hd.2.2.1 rfl | exact hd.2.2.2.1 rfl | exact hd.2.2.2.2.1 rfl | exact hd.2.2.2.2.2.1 rfl | exact hd.2.2.2.2.2.2.1 rfl | exact hd.2.2.2.2.2.2.2.1 rfl | exact hd.2.2.2.2.2.2.2.2.1 rfl | exact hd.2.2.2.2.2.2.2.2.2.1 rfl | exact hd.2.2.2.2.2.2.2.2.2.2.1 rfl | exact hd.2.2.2.2.2.2.2.2.2.2.2.1 rfl | exact hd.2.2.2.2.2.2.2.2.2.2.2.2.1 rfl | exact hd.2.2.2.2.2.2.2.2.2.2.2.2.2.1 rfl | exact hd.2.2.2.2.2.2.2.2.2.2.2.2.2.2.1 rfl | exact hd.2.2.2.2.2.2.2.2.2.2.2.2.2.2.2.1 rfl | exact hd.2.2.2.2.2.2.2.2.2.2.2.2.2.2.2.2.1 rfl | exact hd.2.2.2.2.2.2.2.2.2.2.2.2.2.2.2.2.2.1 rfl | exact hd.2.2.2.2.2.2.2.2.2.2.2.2.2.2.2.2.2.2.1 rfl | exact hd.2.2.2.2.2.2.2.2.2.2.2.2.2.2.2.2.2.2.2.1 rfl | exact hd.2.2.2.2.2.2.2.2.2.2.2.2.2.2.2.2.2.2.2.2.1 rfl | exact hd.2.2.2.2.2.2.2.2.2.2.2.2.2.2.2.2.2.2.2.2.2.1 rfl | exact hd.2.2.2.2.2.2.2.2.2.2.2.2.2.2.2.2.2.2.2.2.2.2.1 rfl | exact hd.2.2.2.2.2.2.2.2.2.2.2.2.2.2.2.2.2.2.2.2.2.2.2.1 rfl)
        have f14 : l 14 = false := by cases hq : l 14 with | false => rfl | true => exact absurd (d14 hq) (by simp [hi])
        obtain ⟨hblk, hB10⟩ := e10.2 hi
        have hRR := hR0 hi
        have hJT := (hJ0 f14).ty
        have hjn : jb ∉ (.slice va m vc : Value).ownBlock.toList := fun hm => hJT.ne (hRR.ty jb (Option.mem_toList.1 hm)) (by decide) rfl
        have hcn : cb ∉ (.slice va m vc : Value).ownBlock.toList := fun hm => HCBT3.out.ne (HJ3.out.row.ty cb (Option.mem_toList.1 hm)) (by decide) rfl
        refine Runs.of (b := ?bB11) ?eB11 ?_
        case eB11 => simp only [putV, Act.put, List.setIfInBounds_toArray, List.set_cons_zero, List.set_cons_succ, e4, e10.1]; rfl
        intro K' hK'
        refine step_append_src _ rfl (.tmp 59) (.tmp 65) 51 51 rfl B 61 iM _ 3 32 Try.underlying51 hiM hzM0 hzM1 hzM2 rfl (by decide) (.slice va m vc) m (mkCs A) rfl (by have hq := hRR; unfold MRow at hq; rw [HMA.out] at hq; exact hq) _ 1 [.int .i64 ((m : Int) + 1), .string k, .int .i64 (nx : Int)] rfl (srcMk w' B10 _ _ _ hblk Try.underlying51) (by unfold maxLen; have := HM0.out; omega) (by have := HM0.out; omega) (Nat.le_trans HBS.out hK.size) ?_
        intro v2 w2 g2 g3 _ g4
        obtain ⟨v2a, v2c, rfl⟩ := ownsRow_slice g2
        have k2 : Keep (.slice va m vc : Value).ownBlock.toList w' w2 := Keep.grown g3
        have hR2 : MRow w2 B (.slice v2a (m + 1) v2c) (A ++ [⟨m + 1, kb k, nx⟩]) := MRow.app _ (by rw [HMA.out, HMK.out]; exact g2)
        exact hK'.go (.slice v2a (m + 1) v2c) rfl ⟨v2a, v2c, B10, k2.cell1 kc hcn, fun h => (hJ0 h).keep k2 hjn, fun h => absurd (f14.symm.trans h) (by decide), fun h => Bool.noConfusion (show true = false from h), fun _ => hR2, fun _ q hq => (g4 q hq).imp id (fun h => Nat.le_trans hK.size h), fun _ => rfl, fun _ => HL4.out, hK.trans (k2.mono (fun q hq _ => List.mem_cons_of_mem _ hq)), h0, h1, h2, h3, h4, h5, h6, h7, h8, h9, fun h => ⟨(h10 h).1, fun h2 => Bool.noConfusion (show true = false from h2)⟩, fun _ => rfl, h12, h13, h14⟩
      · intro l x w' hJ hi hd
        obtain ⟨ua, uc, B10, kc, hJ0, hJ1, hR0, hR1, hv, d14, d11, hK, h0, h1, h2, h3, h4, h5, h6, h7, h8, h9, h10, h11, h12, h13, h14⟩ := hJ
        have e0 := h0 (show l 0 = true by first | exact hd.1 rfl | exact hd.2.1 rfl | exact hd.2.2.1 rfl | exact hd.2.2.2.1 rfl | exact hd.2.2.2.2.1 rfl | exact hd.2.2.2.2.2.1 rfl)
        refine Runs.of (b := ?bB12) ?eB12 ?_
        case eB12 => simp only [putV, Act.put, List.setIfInBounds_toArray, List.set_cons_zero, List.set_cons_succ, e0]; rfl
        intro K' hK'
        go_simp
        exact hK'.go _ rfl ⟨ua, uc, B10, kc, hJ0, hJ1, hR0, hR1, hv, d14, d11, hK, h0, h1, h2, h3, h4, h5, h6, h7, h8, h9, h10, h11, fun _ => rfl, h13, h14⟩
      · intro l x w' hJ hi hd
        obtain ⟨ua, uc, B10, kc, hJ0, hJ1, hR0, hR1, hv, d14, d11, hK, h0, h1, h2, h3, h4, h5, h6, h7, h8, h9, h10, h11, h12, h13, h14⟩ := hJ
        have e12 := h12 (show l 12 = true by first | exact hd.1 rfl | exact hd.2.1 rfl | exact hd.2.2.1 rfl | exact hd.2.2.2.1 rfl | exact hd.2.2.2.2.1 rfl | exact hd.2.2.2.2.2.1 rfl)
        refine Runs.of (b := ?bB13) ?eB13 ?_
        case eB13 => simp only [putV, Act.put, List.setIfInBounds_toArray, List.set_cons_zero, List.set_cons_succ, e12]; rfl
        intro K' hK'
        go_simp
        exact hK'.go _ rfl ⟨ua, uc, B10, kc, hJ0, hJ1, hR0, hR1, hv, d14, d11, hK, h0, h1, h2, h3, h4, h5, h6, h7, h8, h9, h10, h11, h12, fun _ => rfl, h14⟩
      · intro l x w' hJ hi hd
        obtain ⟨ua, uc, B10, kc, hJ0, hJ1, hR0, hR1, hv, d14, d11, hK, h0, h1, h2, h3, h4, h5, h6, h7, h8, h9, h10, h11, h12, h13, h14⟩ := hJ
        have e11 := h11 (show l 11 = true by first | exact hd.1 rfl | exact hd.2.1 rfl | exact hd.2.2.1 rfl | exact hd.2.2.2.1 rfl | exact hd.2.2.2.2.1 rfl | exact hd.2.2.2.2.2.1 rfl)
        have e13 := h13 (show l 13 = true by first | exact hd.1 rfl | exact hd.2.1 rfl | exact hd.2.2.1 rfl | exact hd.2.2.2.1 rfl | exact hd.2.2.2.2.1 rfl | exact hd.2.2.2.2.2.1 rfl)
        have HL11 : Hid (l 11 = true) := Lib.hid (by first | exact hd.1 rfl | exact hd.2.1 rfl | exact hd.2.2.1 rfl | exact hd.2.2.2.1 rfl | exact hd.2.2.2.2.1 rfl | exact hd.2.2.2.2.2.1 rfl | exact hd.2.2.2.2.2.2.1 rfl | exact hd.2.2.2.2.2.2.2.1 rfl | exact hd.2.2.2.2.2.2.2.2.1 rfl | exact hd.2.2.2.2.2.2.2.2.2.1 rfl | exact hd.2.2.2.2.2.2.2.2.2.2.1 rfl | exact hd.2.2.2.2.2.2.2.2.2.2.2.1 rfl | exact hd.2.2.2.2.2.2.2.2.2.2.2.2.1 rfl | exact hd.2.2.2.2.2.2.2.2.2.2.2.2.2.1 rfl | exact hd.2.2.2.2.2.2.2.2.2.2.2.2.2.2.1 rfl | exact hd.2.2.2.2.2.2.2.2.2.2.2.2.2.2.2.1 rfl | exact hd.2.2.2.2.2.2.2.2.2.2.2.2.2.2.2.2.1 rfl | exact hd.2.2.2.2.2.2.2.2.2.2.2.2.2.2.2.2.2.1 rfl | exact hd.2.2.2.2.2.2.2.2.2.2.2.2.2.2.2.2.2.2.1 rfl | exact hd.2.2.2.2.2.2.2.2.2.2.2.2.2.2.2.2.2.2.2.1 rfl | exact hd.2.2.2.2.2.2.2.2.2.2.2.2.2.2.2.2.2.2.2.2.1 rfl | exact hd.2.2.2.2.2.2.2.2.2.2.2.2.2.2.2.2.2.2.2.2.2.1 rfl | exact hd.2.2.2.2.2.2.2.2.2.2.2.2.2.2.2.2.2.2.2.2.2.2.1 rfl | exact hd.2.2.2.2.2.2.2.2.2.2.2.2.2.2.2.2.2.2.2.2.2.2.2.1 rfl)
        have c0 : w'.cell? ⟨jb, 1, none⟩ = some (.slice va m vc) := (hJ0 hi).cell 1
        have f0 := (hJ0 hi).free 1
        refine Runs.of (b := ?bB14) ?eB14 ?_
        case eB14 => simp only [putV, Act.put, List.setIfInBounds_toArray, List.set_cons_zero, List.set_cons_succ, e11, e13]; rfl
        intro K' hK'
        go_simp
        have k2 : Keep [jb] w' _ := ((Keep.refl [jb] w').setCell (p := ⟨jb, 1, none⟩) (.inl (by simp)) (.slice ua (m + 1) uc))
        have hJ2 := (hJ0 hi).set 1 (.slice ua (m + 1) uc)
        have hJT := (hJ0 hi).ty
        have hcn : cb ∉ [jb] := by simp only [List.mem_singleton]; exact fun e => HCBT3.out.ne HJ3.out.blk.ty (by decide) e
        exact hK'.go undef rfl ⟨ua, uc, B10, k2.cell1 kc hcn, fun h => Bool.noConfusion (show true = false from h), fun _ => hJ2, fun h => absurd (h.symm.trans HL11.out) (by decide), fun h => (hR1 h).keep k2 (fun q hq hm => by simp only [List.mem_singleton] at hm; subst hm; exact ((hR1 h).ty _ hq).ne hJT (by decide) rfl), hv, fun _ => HL11.out, d11, hK.trans (k2.mono (by simp)), h0, h1, h2, h3, h4, h5, h6, h7, h8, h9, fun h => ⟨(h10 h).1, fun h2 => absurd (h2.symm.trans HL11.out) (by decide)⟩, h11, h12, h13, fun _ => trivial⟩
      · intro l x w3 hJ hl
        obtain ⟨ua, uc, B10, kc, hJ0, hJ1, hR0, hR1, hv, d14, d11, hK, h0, h1, h2, h3, h4, h5, h6, h7, h8, h9, h10, h11, h12, h13, h14⟩ := hJ
        have hJ9 := hJ1 (hl 14 (by decide))
        have hR9 := hR1 (hl 11 (by decide))
        have hv9 := hv (hl 11 (by decide))
        simp only [putV, Act.put, List.setIfInBounds_toArray, List.set_cons_zero, List.set_cons_succ]
        have hBX9 := HBX3.out.keep hK (fun hm => by
          rcases List.mem_cons.1 hm with h | h
          · exact HCBT3.out.ne HJ3.out.blk.ty (by decide) h
          · exact HCBT3.out.ne (HJ3.out.row.ty cb (Option.mem_toList.1 h)) (by decide) rfl)
        have hnext := Added.next (K' := ks.take (j + 1)) k HA2.out HLOG.out HNX.out (by have := HT.out; have := HNJ.out; omega) HOK.out (by have := HAP.out; rw [HLB.out, HM.out] at this; exact this) ⟨hJ9, by rw [← HM.out, ← HAA.out]; exact hR9⟩ hK hv9 HCST.out (fun x hx => by
          rcases List.mem_cons.1 hx with e | hx
          · exact .inl (by simp [e])
          · rcases List.mem_cons.1 hx with e | hx
            · exact .inl (by simp [e])
            · exact HA2.out.own x hx) HTK.out
        have HNEXT := Lib.hid hnext
        have HBX9 := Lib.hid hBX9
        clear h0 h1 h2 h3 h4 h5 h6 h7 h8 h9 h10 h11 h12 h13 h14 kc hJ0 hJ1 hR0 hR1 hv d14 d11 hK hl hJ9 hR9 hv9 hBX9 hnext kcb hJ16 hR16
        generalize w3 = wb at *
        go_wp2_with fail
        obtain ⟨c9, vl9, l9, L9, hN9⟩ := HNEXT.out
        go_roundw
        case rel => exact ⟨j + 1, _, vl9, _, l9, L9, c9, by go_num, by omega, by rw [Nat.mul_succ, ← Nat.add_assoc]; exact hN9, HBX9.out⟩
        case measure => simp only [intOf]; omega
  · obtain rfl : n = j := by omega
    have q0 : decide ((n : Int) < (n : Int)) = false := by simp
    clear hlt
    have HTK : Hid (ks.take n = ks) := Lib.hid (by rw [HN.out]; exact List.take_length)
    rw [HTK.out] at HA
    obtain ⟨nx, run, fr, q, hLog, hnx⟩ := HA.out.ok.log
    have HLOG := Lib.hid hLog
    clear hLog hnx
    have HND := Lib.hid (HA.out.ok.nd HA.out.dev)
    have kj0 : wr.cell? ⟨jb, 0, none⟩ = some (.pointer (some ⟨lb, 0, none⟩)) := HA.out.ok.at_.blk.cell 0
    have HFI := Lib.hid (HA.out.ok.first HLOG.out)
    have HFL := Lib.hid HA.out.ok.flat.2
    have HCL : Hid (∀ W, Keep [] wr W → Keeps W cb (M ++ N)) := Lib.hid (fun W k a ha => closure_keep (HLOG.out.at_.still k) (by have := HFL.out; omega) (k.cell1 kcb (by simp)) (k.cell1 kj0 (by simp)) a (HFI.out a ha))
    have hJ18 := HA.out.ok.at_.blk
    have hR18 := HA.out.ok.at_.row
    obtain ⟨va, vc, hv1⟩ := hR18.slice
    rw [← HM.out] at hv1
    subst hv1
    have HM0 := Lib.hid hm0
    go_upto_region 18 with fail
    clear kj0 hm0 q0
    refine wp_region_inv (addJ18 wr B cb jb lb m va vc) (by kernel_rfl) (by kernel_rfl) (by kernel_rfl) ?_ (Steps.cons 0 ?_ (Steps.cons 1 ?_ (Steps.cons 2 ?_ (Steps.cons 3 ?_ (Steps.cons 4 ?_ (Steps.cons 5 ?_ (Steps.cons 6 ?_ (Steps.cons 7 ?_ (Steps.cons 8 ?_ (Steps.cons 9 ?_ (Steps.nil 10))))))))))) 10 rfl ?_
    · intro x
      exact ⟨kcb, hJ18.drew, fun _ => (Keep.refl _ _).drew, fun h => absurd h (by decide), (Keep.refl _ _).drew, fun h => absurd h (by decide), fun h => absurd h (by decide), fun h => absurd h (by decide), fun h => absurd h (by decide), fun h => absurd h (by decide), fun h => absurd h (by decide), fun h => absurd h (by decide), fun h => absurd h (by decide), fun h => absurd h (by decide), fun h => absurd h (by decide)⟩
    · intro l x w' hJ hi hd
      obtain ⟨kc, hJ, hK0, d9, hK, h0, h1, h2, h3, h4, h5, h6, h7, h8, h9⟩ := hJ
      have c0 := kc
      refine Runs.of (b := ?bC0) ?eC0 ?_
      case eC0 => simp only [putV, Act.put, List.setIfInBounds_toArray, List.set_cons_zero, List.set_cons_succ]; rfl
      intro K' hK'
      go_simp
      exact hK'.go _ rfl ⟨kc, hJ, hK0, d9, hK, fun _ => rfl, h1, h2, h3, h4, h5, h6, h7, h8, h9⟩
    · intro l x w' hJ hi hd
      obtain ⟨kc, hJ, hK0, d9, hK, h0, h1, h2, h3, h4, h5, h6, h7, h8, h9⟩ := hJ
      have c0 := kc
      refine Runs.of (b := ?bC1) ?eC1 ?_
      case eC1 => simp only [putV, Act.put, List.setIfInBounds_toArray, List.set_cons_zero, List.set_cons_succ]; rfl
      intro K' hK'
      go_simp
      exact hK'.go _ rfl ⟨kc, hJ, hK0, d9, hK, h0, fun _ => rfl, h2, h3, h4, h5, h6, h7, h8, h9⟩
    · intro l x w' hJ hi hd
      obtain ⟨kc, hJ, hK0, d9, hK, h0, h1, h2, h3, h4, h5, h6, h7, h8, h9⟩ := hJ
      have e1 := h1 (show l 1 = true by first | exact hd.1 rfl | exact hd.2.1 rfl | exact hd.2.2.1 rfl | exact hd.2.2.2.1 rfl | exact hd.2.2.2.2.1 rfl | exact hd.2.2.2.2.2.1 rfl)
      refine Runs.of (b := ?bC2) ?eC2 ?_
      case eC2 => simp only [putV, Act.put, List.setIfInBounds_toArray, List.set_cons_zero, List.set_cons_succ, e1]; rfl
      intro K' hK'
      go_simp
      exact hK'.go _ rfl ⟨kc, hJ, hK0, d9, hK, h0, h1, fun _ => rfl, h3, h4, h5, h6, h7, h8, h9⟩
    · intro l x w' hJ hi hd
      obtain ⟨kc, hJ, hK0, d9, hK, h0, h1, h2, h3, h4, h5, h6, h7, h8, h9⟩ := hJ
      have e2 := h2 (show l 2 = true by first | exact hd.1 rfl | exact hd.2.1 rfl | exact hd.2.2.1 rfl | exact hd.2.2.2.1 rfl | exact hd.2.2.2.2.1 rfl | exact hd.2.2.2.2.2.1 rfl)
      refine Runs.of (b := ?bC3) ?eC3 ?_
      case eC3 => simp only [putV, Act.put, List.setIfInBounds_toArray, List.set_cons_zero, List.set_cons_succ, e2]; rfl
      intro K' hK'
      go_simp
      exact hK'.go _ rfl ⟨kc, hJ, hK0, d9, hK, h0, h1, h2, fun _ => rfl, h4, h5, h6, h7, h8, h9⟩
    · intro l x w' hJ hi hd
      obtain ⟨kc, hJ, hK0, d9, hK, h0, h1, h2, h3, h4, h5, h6, h7, h8, h9⟩ := hJ
      have e3 := h3 (show l 3 = true by first | exact hd.1 rfl | exact hd.2.1 rfl | exact hd.2.2.1 rfl | exact hd.2.2.2.1 rfl | exact hd.2.2.2.2.1 rfl | exact hd.2.2.2.2.2.1 rfl)
      have c0 : w'.cell? ⟨jb, 1, none⟩ = some (.slice va m vc) := hJ.cell 1
      refine Runs.of (b := ?bC4) ?eC4 ?_
      case eC4 => simp only [putV, Act.put, List.setIfInBounds_toArray, List.set_cons_zero, List.set_cons_succ, e3]; rfl
      intro K' hK'
      go_simp
      exact hK'.go _ rfl ⟨kc, hJ, hK0, d9, hK, h0, h1, h2, h3, fun _ => rfl, h5, h6, h7, h8, h9⟩
    · intro l x w' hJ hi hd
      obtain ⟨kc, hJ, hK0, d9, hK, h0, h1, h2, h3, h4, h5, h6, h7, h8, h9⟩ := hJ
      refine Runs.of (b := ?bC5) ?eC5 ?_
      case eC5 => simp only [putV, Act.put, List.setIfInBounds_toArray, List.set_cons_zero, List.set_cons_succ]; rfl
      intro K' hK'
      go_simp
      exact hK'.go _ rfl ⟨kc, hJ, hK0, d9, hK, h0, h1, h2, h3, h4, fun _ => rfl, h6, h7, h8, h9⟩
    · intro l x w' hJ hi hd
      obtain ⟨kc, hJ, hK0, d9, hK, h0, h1, h2, h3, h4, h5, h6, h7, h8, h9⟩ := hJ
      have e4 := h4 (show l 4 = true by first | exact hd.1 rfl | exact hd.2.1 rfl | exact hd.2.2.1 rfl | exact hd.2.2.2.1 rfl | exact hd.2.2.2.2.1 rfl | exact hd.2.2.2.2.2.1 rfl)
      have e5 := h5 (show l 5 = true by first | exact hd.1 rfl | exact hd.2.1 rfl | exact hd.2.2.1 rfl | exact hd.2.2.2.1 rfl | exact hd.2.2.2.2.1 rfl | exact hd.2.2.2.2.2.1 rfl)
      have f9 : l 9 = false := by cases hq : l 9 with | false => rfl | true => exact absurd (d9 hq) (by simp [hi])
      have hRW := HA.out.ok.at_.row.keep hK (fun q hq hm => by simp only [List.mem_singleton] at hm; exact (HND.out.2 q hq).2 hm)
      have hcl : ∀ W, Keep [] w' W → Keeps W cb (M ++ N) := fun W k => HCL.out W ((hK0 f9).trans k)
      refine Runs.of (b := ?bC6) ?eC6 ?_
      case eC6 => simp only [putV, Act.put, List.setIfInBounds_toArray, List.set_cons_zero, List.set_cons_succ, e4, e5]; rfl
      intro K' hK'
      go_simp
      refine (delete_keep hRW hcl (by have := HA.out.ok.len; omega)).mono ?_
      rintro e w9 ⟨rfl, k2⟩
      go_simp
      exact hK'.go (.slice va m vc) rfl ⟨k2.cell1 kc (by simp), hJ.keep k2 (by simp), fun h => (hK0 h).trans k2, fun _ => rfl, hK.trans (k2.mono (by simp)), h0, h1, h2, h3, h4, h5, fun _ => rfl, h7, h8, h9⟩
    · intro l x w' hJ hi hd
      obtain ⟨kc, hJ, hK0, d9, hK, h0, h1, h2, h3, h4, h5, h6, h7, h8, h9⟩ := hJ
      have e0 := h0 (show l 0 = true by first | exact hd.1 rfl | exact hd.2.1 rfl | exact hd.2.2.1 rfl | exact hd.2.2.2.1 rfl | exact hd.2.2.2.2.1 rfl | exact hd.2.2.2.2.2.1 rfl)
      refine Runs.of (b := ?bC7) ?eC7 ?_
      case eC7 => simp only [putV, Act.put, List.setIfInBounds_toArray, List.set_cons_zero, List.set_cons_succ, e0]; rfl
      intro K' hK'
      go_simp
      exact hK'.go _ rfl ⟨kc, hJ, hK0, d9, hK, h0, h1, h2, h3, h4, h5, h6, fun _ => rfl, h8, h9⟩
    · intro l x w' hJ hi hd
      obtain ⟨kc, hJ, hK0, d9, hK, h0, h1, h2, h3, h4, h5, h6, h7, h8, h9⟩ := hJ
      have e7 := h7 (show l 7 = true by first | exact hd.1 rfl | exact hd.2.1 rfl | exact hd.2.2.1 rfl | exact hd.2.2.2.1 rfl | exact hd.2.2.2.2.1 rfl | exact hd.2.2.2.2.2.1 rfl)
      refine Runs.of (b := ?bC8) ?eC8 ?_
      case eC8 => simp only [putV, Act.put, List.setIfInBounds_toArray, List.set_cons_zero, List.set_cons_succ, e7]; rfl
      intro K' hK'
      go_simp
      exact hK'.go _ rfl ⟨kc, hJ, hK0, d9, hK, h0, h1, h2, h3, h4, h5, h6, h7, fun _ => rfl, h9⟩
    · intro l x w' hJ hi hd
      obtain ⟨kc, hJ, hK0, d9, hK, h0, h1, h2, h3, h4, h5, h6, h7, h8, h9⟩ := hJ
      have e6 := h6 (show l 6 = true by first | exact hd.1 rfl | exact hd.2.1 rfl | exact hd.2.2.1 rfl | exact hd.2.2.2.1 rfl | exact hd.2.2.2.2.1 rfl | exact hd.2.2.2.2.2.1 rfl)
      have e8 := h8 (show l 8 = true by first | exact hd.1 rfl | exact hd.2.1 rfl | exact hd.2.2.1 rfl | exact hd.2.2.2.1 rfl | exact hd.2.2.2.2.1 rfl | exact hd.2.2.2.2.2.1 rfl)
      have HL6 : Hid (l 6 = true) := Lib.hid (by first | exact hd.1 rfl | exact hd.2.1 rfl | exact hd.2.2.1 rfl | exact hd.2.2.2.1 rfl | exact hd.2.2.2.2.1 rfl | exact hd.2.2.2.2.2.1 rfl | exact hd.2.2.2.2.2.2.1 rfl | exact hd.2.2.2.2.2.2.2.1 rfl | exact hd.2.2.2.2.2.2.2.2.1 rfl | exact hd.2.2.2.2.2.2.2.2.2.1 rfl | exact hd.2.2.2.2.2.2.2.2.2.2.1 rfl | exact hd.2.2.2.2.2.2.2.2.2.2.2.1 rfl | exact hd.2.2.2.2.2.2.2.2.2.2.2.2.1 rfl | exact hd.2.2.2.2.2.2.2.2.2.2.2.2.2.1 rfl | exact hd.2.2.2.2.2.2.2.2.2.2.2.2.2.2.1 rfl | exact hd.2.2.2.2.2.2.2.2.2.2.2.2.2.2.2.1 rfl | exact hd.2.2.2.2.2.2.2.2.2.2.2.2.2.2.2.2.1 rfl | exact hd.2.2.2.2.2.2.2.2.2.2.2.2.2.2.2.2.2.1 rfl | exact hd.2.2.2.2.2.2.2.2.2.2.2.2.2.2.2.2.2.2.1 rfl | exact hd.2.2.2.2.2.2.2.2.2.2.2.2.2.2.2.2.2.2.2.1 rfl | exact hd.2.2.2.2.2.2.2.2.2.2.2.2.2.2.2.2.2.2.2.2.1 rfl | exact hd.2.2.2.2.2.2.2.2.2.2.2.2.2.2.2.2.2.2.2.2.2.1 rfl | exact hd.2.2.2.2.2.2.2.2.2.2.2.2.2.2.2.2.2.2.2.2.2.2.1 rfl | exact hd.2.2.2.2.2.2.2.2.2.2.2.2.2.2.2.2.2.2.2.2.2.2.2.1 rfl)
      have c0 : w'.cell? ⟨jb, 1, none⟩ = some (.slice va m vc) := hJ.cell 1
      have f0 := hJ.free 1
      refine Runs.of (b := ?bC9) ?eC9 ?_
      case eC9 => simp only [putV, Act.put, List.setIfInBounds_toArray, List.set_cons_zero, List.set_cons_succ, e6, e8]; rfl
      intro K' hK'
      go_simp
      have k2 : Keep [jb] w' _ := ((Keep.refl [jb] w').setCell (p := ⟨jb, 1, none⟩) (.inl (by simp)) (.slice va m vc))
      have hJ2 : Blk _ jb (jnC lb (.slice va m vc)) 53 := hJ.set 1 (.slice va m vc)
      have hcn : cb ∉ [jb] := by simp only [List.mem_singleton]; exact fun e => HBX1.out.ty.ne HA.out.ok.at_.blk.ty (by decide) e
      exact hK'.go undef rfl ⟨k2.cell1 kc hcn, hJ2, fun h => Bool.noConfusion (show true = false from h), fun _ => HL6.out, hK.trans k2, h0, h1, h2, h3, h4, h5, h6, h7, h8, fun _ => trivial⟩
    · intro l x w3 hJ hl
      obtain ⟨kc, hJ, hK0, d9, hK, h0, h1, h2, h3, h4, h5, h6, h7, h8, h9⟩ := hJ
      have HJ9 := Lib.hid hJ
      have HK9 := Lib.hid hK
      simp only [putV, Act.put, List.setIfInBounds_toArray, List.set_cons_zero, List.set_cons_succ]
      have HA9 := Lib.hid (HA.out.touch HK9.out HJ9.out (by simp [jF]))
      have HBX9 := Lib.hid (HBX1.out.keep HK9.out (by simp only [List.mem_singleton]; exact fun e => HBX1.out.ty.ne HA.out.ok.at_.blk.ty (by decide) e))
      clear h0 h1 h2 h3 h4 h5 h6 h7 h8 h9 kc hJ hK0 hK d9 hl kcb hJ18 hR18
      generalize w3 = wb at *
      have kcb : wb.cell? ⟨cb, 0, none⟩ = some (.pointer (some ⟨jb, 0, none⟩)) := HBX9.out.cell 0
      have kj0 : wb.cell? ⟨jb, 0, none⟩ = some (.pointer (some ⟨lb, 0, none⟩)) := HA9.out.ok.at_.blk.cell 0
      have HRES : Hid ((lastSeq (M ++ N) : Int) = ((M.length + n : Nat) : Int)) := Lib.hid (by rw [HA9.out.ok.last, List.length_append, HA9.out.len', HN.out])
      by_cases hn0 : n = 0
      · subst hn0
        have HSEQ := Lib.hid (Seq_any HA9.out.ok.at_ (by have := HA9.out.ok.len; omega))
        go_wp2_with fail
        refine HSEQ.out.mono ?_
        rintro e w9 ⟨rfl, hK2⟩
        rw [HRES.out]
        have HAZ := Lib.hid (HA9.out.still hK2)
        clear hK2 kcb kj0
        go_wp2_with fail
        go_ret2
        exact ⟨vl1, _, l1, L1, c1, N, rfl, HAZ.out.later (by omega), fun h => absurd h (by omega)⟩
      · have hpos : 0 < n := by omega
        have q1 : decide ((n : Int) > 0) = true := decide_eq_true (by omega)
        have q2 : decide (0 < n) = true := decide_eq_true hpos
        have q3 : decide (0 < (n : Int)) = true := decide_eq_true (by omega)
        obtain ⟨nx, run, fr, q, hLog, hnx⟩ := HA9.out.ok.log
        have HFLU := Lib.hid (LFlush_any hLog.at_ HA9.out.dev (by have := HA9.out.cnt; have := HT.out; omega))
        clear hLog hnx
        go_wp2_with fail
        refine HFLU.out.mono ?_
        rintro e w9 ⟨rfl, hD9, hK9⟩
        have HAZ := Lib.hid (HA9.out.flush hK9 hD9 ⟨by simp, by simp⟩)
        have HSEQ := Lib.hid (Seq_any HAZ.out.ok.at_ (by have := HAZ.out.ok.len; omega))
        have HCBN : Hid (cb ∉ [d, sb]) := Lib.hid (fun hm => by
          simp only [List.mem_cons, List.not_mem_nil, or_false] at hm
          rcases hm with e | e
          · exact HBX9.out.ty.ne HA9.out.dev.dev.ty (by decide) e
          · exact HBX9.out.ty.ne HA9.out.dev.secs.ty (by decide) e)
        have kcb9 : w9.cell? ⟨cb, 0, none⟩ = some (.pointer (some ⟨jb, 0, none⟩)) := hK9.cell1 kcb HCBN.out
        clear hD9 hK9 kcb kj0 q1 q2 q3
        go_wp2_with fail
        refine HSEQ.out.mono ?_
        rintro e wz ⟨rfl, hK2⟩
        rw [HRES.out]
        have HAZ2 := Lib.hid (HAZ.out.still hK2)
        clear hK2 kcb9
        go_wp2_with fail
        go_ret2
        exact ⟨vl1, _, l1, _, c1 + 1, N, rfl, HAZ2.out, fun _ => ⟨L1, rfl⟩⟩
end Go.Proofs.Ytpibpapolcdeiaa
/- journal: Open. -/
namespace Go.Proofs.Ytpibpapolcdeiaa
open Go.ChangeShapes Go.WideShapes Go.ChangeAt Go.RowKit
set_option linter.unusedVariables false
set_option linter.unusedSimpArgs false
set_option maxRecDepth 100000

/-- What a device says of a journal. -/
def JDev (L : List Sec) (frm t : Nat) (M : List Mk) : Prop :=
  ∃ S nx run q, DevOk L frm 20 run S ∧ SOk 20 S nx q ∧ (1 ≤ nx ∧ nx ≤ t ∧ run ≤ t ∧ q ≤ t) ∧ Tail 20 S (M.map recOf) ∧ encN (M.map recOf) ≤ 2225 ∧ ∀ i a, M[i]? = some a → a.seq = i + 1
theorem JOk.jdev {w : World} {B jb lb d frm t : Nat} {vl v : Value} {l : List Sg} {L : List Sec} {M : List Mk} (h : JOk w B jb lb d frm t vl v l L M) : JDev L frm t M := by
  obtain ⟨nx, run, fr, q, hL, hn⟩ := h.log
  exact ⟨_, nx, run, q, hL.dev, hL.say, hn, h.tail, h.few, h.seq⟩
theorem JDev.congr {L L' : List Sec} {frm t t' : Nat} {M : List Mk} (h : JDev L frm t M) (he : ∀ i, frm ≤ i → i < frm + 160 → nowF L' i = nowF L i) (ht : t ≤ t') : JDev L' frm t' M := by
  obtain ⟨S, nx, run, q, h1, h2, h3, h4⟩ := h
  exact ⟨S, nx, run, q, h1.congr (fun i a b => he i a (by omega)) (by decide), h2, by omega, h4⟩
theorem JDev.fresh {L : List Sec} {frm : Nat} (hz : ∀ i, frm ≤ i → i < frm + 160 → nowF L i = List.replicate 64 0) : JDev L frm 1 [] :=
  ⟨[], 1, 0, 0, DevOk.fresh (fun i a b => hz i a (by omega)) (by decide), SOk.fresh 20 0, by omega, Tail.nil 20, by decide, by simp⟩
theorem JDev.recs {L : List Sec} {frm t : Nat} {M : List Mk} (h : JDev L frm t M) : ∀ a ∈ M, (∀ c ∈ (recOf a).2, c < 256) ∧ (recOf a).2.length ≤ 300 := by
  obtain ⟨S, nx, run, q, h1, h2, h3, h4, h5, h6⟩ := h
  intro a ha
  have hf := (h4.whole h2 h5).1
  have : recOf a ∈ S.flatMap PS.rs := by rw [hf]; exact List.mem_map.2 ⟨a, ha, rfl⟩
  obtain ⟨s, hs, hr⟩ := List.mem_flatMap.1 this
  have := (h2.ok s hs).1 _ hr
  exact ⟨this.2.2.2, this.2.1⟩
theorem bcut {w' : World} {ya : Option Addr} {bl ycap nl : Nat} {S9 : Value} {body key : List Nat} (h : ∀ W : World, Rv W 1 (.slice ya bl ycap) bl (bcs body) → Rv W 1 S9 (bl - nl) ((bcs body).drop nl)) (hY : Buf w' 0 5 (.slice ya bl ycap) body) (hb : bl = body.length) (hd : body.drop nl = key) (hl : bl - nl = key.length) : Rd w' S9 key := by
  have h1 : Rv w' 1 (.slice ya bl ycap) bl (bcs body) := by
    have := hY.rd
    unfold Rd at this
    rw [← hb] at this
    exact this
  have h2 := h w' h1
  unfold Rd
  rw [← hl, ← hd]
  unfold bcs at *
  rw [← List.map_drop] at h2
  exact h2
def opnJ14 (wd : World) (B rb jb lb pos i bl ycap nl sq vc : Nat) (ya va : Option Addr) (S9 : Value) (body : List Nat) (A : List Mk) (a : Mk) (l : Nat → Bool) (x : Nat → Value) (w' : World) : Prop :=
  ∃ ua uc B15, (w'.cell? ⟨rb, 0, none⟩ = some (.int .i64 (pos : Int))) ∧
  (w'.cell? ⟨rb, 1, none⟩ = some (.slice ya bl ycap)) ∧
  (l 16 = false → Buf w' 0 5 (.slice ya bl ycap) body) ∧
  (l 19 = false → Blk w' jb (jnC lb (.slice va i vc)) 53) ∧
  (l 19 = true → Blk w' jb (jnC lb (.slice ua (i + 1) uc)) 53) ∧
  (l 16 = false → MRow w' B (.slice va i vc) A) ∧
  (l 16 = true → MRow w' B (.slice ua (i + 1) uc) (A ++ [a])) ∧
  (l 19 = true → l 16 = true) ∧
  (l 16 = true → l 4 = true ∧ l 10 = true) ∧
  (Keep (jb :: (.slice va i vc : Value).ownBlock.toList) wd w') ∧
  (l 0 = true → x 0 = .pointer (some ⟨jb, 0, none⟩)) ∧
  (l 1 = true → x 1 = .pointer (some ⟨jb, 0, none⟩)) ∧
  (l 2 = true → x 2 = .pointer (some ⟨jb, 0, none⟩)) ∧
  (l 3 = true → x 3 = .pointer (some ⟨jb, 1, none⟩)) ∧
  (l 4 = true → x 4 = .slice va i vc) ∧
  (l 5 = true → x 5 = .int .i64 (sq : Int)) ∧
  (l 6 = true → x 6 = .pointer (some ⟨rb, 1, none⟩)) ∧
  (l 7 = true → x 7 = .slice ya bl ycap) ∧
  (l 8 = true → x 8 = .int .i64 (nl : Int)) ∧
  (l 9 = true → x 9 = S9) ∧
  (l 10 = true → x 10 = .string (toStr a.key)) ∧
  (l 11 = true → x 11 = .agg #[.int .i64 (sq : Int), .string (toStr a.key)] ∧ Hid (l 10 = true)) ∧
  (l 12 = true → x 12 = .pointer (some ⟨rb, 0, none⟩)) ∧
  (l 13 = true → x 13 = .int .i64 (pos : Int)) ∧
  (l 14 = true → x 14 = .agg #[.int .i64 (sq : Int), .string (toStr a.key), .int .i64 (pos : Int)] ∧ Hid (l 10 = true)) ∧
  (l 15 = true → x 15 = .slice (some ⟨B15, 0, none⟩) 1 1 ∧ (l 16 = false → Blk w' B15 [.int .i64 (sq : Int), .string (toStr a.key), .int .i64 (pos : Int)] 61 ∧ wd.heap.size ≤ B15) ∧ Hid (l 10 = true)) ∧
  (l 16 = true → x 16 = .slice ua (i + 1) uc) ∧
  (l 17 = true → x 17 = .pointer (some ⟨jb, 0, none⟩)) ∧
  (l 18 = true → x 18 = .pointer (some ⟨jb, 1, none⟩)) ∧
  (l 19 = true → True)
set_option maxRecDepth 100000 in
set_option maxHeartbeats 16000000 in
theorem JOpen_ok {w : World} {d sb c frm t : Nat} {L : List Sec} {M : List Mk} (hd : IsDev w d sb L c) (h : JDev L frm t M) (ht : t ≤ 1000000000) (hlt : frm + 160 ≤ L.length) :
    Calls Try.prog 9 #[.pointer (some ⟨d, 0, none⟩), .int .i64 (frm : Int), .int .i64 20] w fun e w' => ∃ jb lb vl v l, e = .returned (.tuple #[.pointer (some ⟨jb, 0, none⟩), .int .i64 0]) ∧ JOk w' w.heap.size jb lb d frm (t + 70) vl v l L M ∧ Keep [] w w' := by
  obtain ⟨i8, hi8, hz80, hz81, hz82⟩ := info_parts Try.info8
  obtain ⟨iM, hiM, hzM0, hzM1, hzM2⟩ := info_parts Try.infoMk
  have HREC := Lib.hid h.recs
  have HJD := Lib.hid h
  obtain ⟨S, nx, run, q, h1, h2, h3, h4, h5, h6⟩ := h
  have hw := h4.whole h2 h5
  have HO := Lib.hid (openOk hd h1 h2 h3.1 (by omega) (by omega) ⟨by decide, by decide⟩ (by omega) hw.2)
  have HWH := Lib.hid hw
  have HNX := Lib.hid (h2.next h3.1)
  have HB := Lib.hid h3
  have HT := Lib.hid ht
  have HTAIL := Lib.hid h4
  have HFEW := Lib.hid h5
  have HSEQ := Lib.hid h6
  have hml : M.length ≤ 278 := by
    have h1 := encN_len (M.map recOf)
    rw [List.length_map] at h1
    omega
  obtain ⟨m, hm⟩ : ∃ m, m = M.length := ⟨_, rfl⟩
  rw [← hm] at hml
  have HM := Lib.hid hm
  clear hd h1 h2 h3 h4 h5 h6 hw ht hlt hm
  go_enter Try.func9, Try.ntmps9
  go_wp2_with fail
  refine HO.out.mono ?_
  rintro e w1 ⟨lb, vl, l, run', rfl, hL, hS, hr, hK⟩
  have HL := Lib.hid hL
  have HS := Lib.hid hS
  have HR := Lib.hid hr
  have HK := Lib.hid hK
  clear hL hS hr hK HO
  go_upto_region 9 with fail
  have hb := Blk.new w1 (jnC lb (.slice none 0 0)) 53
  have K := (Keep.refl [] w1).alloc (.cells (jnC lb (.slice none 0 0)).toArray 53)
  unfold jnC at hb K
  simp only [List.toArray] at hb K
  obtain ⟨jb, hjb⟩ : ∃ b, b = w1.heap.size := ⟨_, rfl⟩
  rw [← hjb] at hb ⊢
  have HJB := Lib.hid hjb
  clear hjb
  generalize w1.alloc (.cells #[.pointer (some ⟨lb, 0, none⟩), .slice none 0 0] 53) = w2 at *
  have HBL := Lib.hid hb
  have HK2 := Lib.hid K
  have HLL : Hid (l.length ≤ 12 ∧ l.flatMap Sg.rs = M.map recOf) := Lib.hid (by
    have e1 : l.length = S.length := by rw [← HS.out, List.length_map]
    refine ⟨by have := HWH.out.2; omega, ?_⟩
    rw [flatR, HS.out]
    exact HWH.out.1)
  have HALL := Lib.hid (All_any (HL.out.still K).at_ ⟨by have := HLL.out.1; omega, fun s hs => by
    have h1 := (HL.out.say.ok s.ps (List.mem_map.2 ⟨s, hs, rfl⟩))
    have h2 := recs_len s.rs h1.1
    have h3 : (encRs s.rs).length ≤ 378 := h1.2.1
    have h4 : s.rs.length = s.recs.length := by simp [Sg.rs]
    omega⟩ (fun s hs r hr => (HL.out.say.ok s.ps (List.mem_map.2 ⟨s, hs, rfl⟩)).1 r hr))
  clear hb K
  go_wp2_with fail
  refine HALL.out.mono ?_
  rintro e w3 ⟨va, La, rfl, hRa, hLa, hKa⟩
  rw [HLL.out.2] at hLa
  have hlen : La.length = m := by
    have := congrArg List.length hLa
    rw [List.length_map, List.length_map] at this
    rw [this, HM.out]
  obtain ⟨aa, ac, rfl⟩ := hRa.slice
  have HRA := Lib.hid hRa
  have HLA := Lib.hid hLa
  have HLEN := Lib.hid hlen
  rw [hlen]
  have HST : Hid (JAt w3 w.heap.size jb lb (.slice none 0 0) [] ∧ LogOk w3 w.heap.size lb d frm 20 (nextP S) run' true vl l L q ∧ Keep [] w w3) := Lib.hid ⟨⟨HBL.out.keep hKa (by simp), World.ownsRow_nil _ _ _ _⟩, (HL.out.still HK2.out).still hKa, (HK.out.trans HK2.out).trans hKa⟩
  have HBB : Hid (w.heap.size ≤ jb) := Lib.hid (by rw [HJB.out]; exact HK.out.size)
  clear hRa hLa hKa hlen HALL
  go_wp2_with fail
  go_loopw [38] (fun s38 wr => ∃ (i : Nat) (v : Value), s38 = .int .i64 (i : Int) ∧ i ≤ m ∧ JAt wr w.heap.size jb lb v (M.take i) ∧ LogOk wr w.heap.size lb d frm 20 (nextP S) run' true vl l L q ∧ RRow wr w2.heap.size (.slice aa La.length ac) La ∧ Keep [] w wr) (fun x _ => m + 1 - (intOf x).toNat)
  case atStart => exact ⟨0, _, rfl, Nat.zero_le _, by rw [List.take_zero]; exact HST.out.1, HST.out.2.1, HRA.out, HST.out.2.2⟩
  case round =>
  obtain ⟨i, v, rfl, hi, hJ, hLg, hRr, hK⟩ := hrel
  have HJ := Lib.hid hJ
  have HLG := Lib.hid hLg
  have HRR := Lib.hid hRr
  have HKW := Lib.hid hK
  clear hJ hLg hRr hK HRA HST
  by_cases hlt : i < m
  · have q0 : decide ((i : Int) < (m : Int)) = true := decide_eq_true (by omega)
    obtain ⟨a, ha⟩ : ∃ a, M[i]? = some a := ⟨_, List.getElem?_eq_getElem (by rw [← HM.out]; exact hlt)⟩
    obtain ⟨y, hy⟩ : ∃ y, La[i]? = some y := ⟨_, List.getElem?_eq_getElem (by rw [HLEN.out]; exact hlt)⟩
    obtain ⟨g, gc, hg, k0, k1⟩ := HRR.out.at_ i (by rw [HLEN.out]; exact hlt)
    injection hg with hg1 hg2 hg3
    subst hg1 hg3
    have hyj : La[i]'(by rw [HLEN.out]; exact hlt) = y := (List.getElem?_eq_some_iff.1 hy).2
    rw [hyj] at k0 k1
    have hyr : y.r = recOf a := by
      have := congrArg (fun l => l[i]?) HLA.out
      simp only [List.getElem?_map, hy, ha, Option.map_some] at this
      injection this
    rw [hyr] at k0
    obtain ⟨ya, ycap, hyv⟩ := ((HRR.out.ok y (List.mem_of_getElem? hy)).1).slice
    have hY1 : Buf wr 0 5 y.v (recOf a).2 := by
      have := ((HRR.out.ok y (List.mem_of_getElem? hy)).1).mono (Nat.zero_le _)
      rw [hyr] at this; exact this
    rw [hyr] at hyv
    rw [hyv] at k1 hY1
    have hrc := HREC.out a (List.mem_of_getElem? ha)
    have hsq := HSEQ.out i a ha
    have hz10 := leb_len 10 (zz (a.seq : Int)) (by have := zz_lt (a.seq : Int) (by omega) (by omega); omega) (by omega)
    obtain ⟨nl, hnl⟩ : ∃ nl, nl = (leb (zz (a.seq : Int))).length := ⟨_, rfl⟩
    have hbl : (recOf a).2.length = nl + a.key.length := by rw [hnl]; unfold recOf; rw [List.length_append]
    have hdr : (recOf a).2.drop nl = a.key := by rw [hnl]; unfold recOf; rw [List.drop_left]
    have hget : get (recOf a).2 = ((a.seq : Int), nl, 0) := by rw [hnl]; exact get_leb _ (by omega) (by omega) _
    obtain ⟨pos, hpos⟩ : ∃ p, p = a.pos := ⟨_, rfl⟩
    rw [show (recOf a).1 = pos from hpos.symm] at k0
    have hbl2 : (recOf a).2.length ≤ 300 := hrc.2
    obtain ⟨body, hbody⟩ : ∃ b, b = (recOf a).2 := ⟨_, rfl⟩
    rw [← hbody] at k1 hY1 hbl hdr hbl2
    obtain ⟨bl, hble⟩ : ∃ bl, bl = body.length := ⟨_, rfl⟩
    rw [← hble] at k1 hbl hbl2
    have HBL3 := Lib.hid hble
    obtain ⟨S9, hC9, hS9, hS9o⟩ := cutE_lo (P := Try.prog) 30 5 i8 Try.underlying30 hi8 hz81 ya bl ycap (bcs body) (nl : Int) nl rfl (by omega)
    have HC9 := Lib.hid hC9
    have HS9 := Lib.hid hS9
    have HDR := Lib.hid hdr
    have HBLN := Lib.hid hbl
    have HKEY : Hid (∀ c ∈ a.key, c < 256) := Lib.hid (fun c hc => hrc.1 c (by unfold recOf; exact List.mem_append_right _ hc))
    have HY1 := Lib.hid hY1
    have HA := Lib.hid ha
    have HSQ := Lib.hid hsq
    have HNL : Hid (nl ≤ 10) := Lib.hid (by rw [hnl]; exact hz10)
    have HPOS := Lib.hid hpos
    obtain ⟨va, vc, rfl⟩ := HJ.out.row.slice
    have HTL : Hid ((M.take i).length = i) := Lib.hid (by rw [List.length_take, ← HM.out]; omega)
    rw [HTL.out] at HJ
    have HGET : Hid (∀ W, Keep [] wr W → Calls Try.prog 19 #[.slice ya bl ycap] W (GotN W ((a.seq : Int), nl, 0))) := Lib.hid (fun W k => by
      have h := (hY1.keep k (by simp)).rd
      rw [← hble] at h
      exact Get_any (w := W) _ _ h (by rw [hbody]; exact hrc.1) (by omega) _ (by rw [hbody]; exact hget.symm))
    clear hg2 hyv hyj hyr hy hY1 hrc hsq hz10 hnl hbl hdr hget hpos hbody hble hC9 hS9 hS9o ha
    obtain ⟨sq, hsq⟩ : ∃ sq, sq = a.seq := ⟨_, rfl⟩
    rw [← hsq] at HGET
    rw [← hsq] at HSQ
    have HSQE := Lib.hid hsq
    clear hsq
    go_upto_region 12 with fail
    have hRb1 := Blk.new wr [.int .i64 (pos : Int), .slice ya bl ycap] 57
    have KA := (Keep.refl [] wr).alloc (.cells #[.int .i64 (pos : Int), .slice ya bl ycap] 57)
    obtain ⟨rb, hrb⟩ : ∃ rb, rb = wr.heap.size := ⟨_, rfl⟩
    rw [← hrb] at hRb1 ⊢
    simp only [List.toArray] at hRb1
    clear hrb
    generalize wr.alloc (.cells #[.int .i64 (pos : Int), .slice ya bl ycap] 57) = wa at *
    have HRB := Lib.hid hRb1
    have HKA := Lib.hid KA
    have kr1 : wa.cell? ⟨rb, 1, none⟩ = some (.slice ya bl ycap) := hRb1.cell 1
    clear hRb1 KA k0 k1
    go_wp2_with fail
    refine (HGET.out wa HKA.out).mono ?_
    rintro e wq ⟨rfl, rfl⟩
    have kj1 : wa.cell? ⟨jb, 1, none⟩ = some (.slice va i vc) := (HJ.out.still HKA.out).blk.cell 1
    have HJA := Lib.hid (HJ.out.still HKA.out)
    have HSQC : Hid (∀ W, Keep [] wa W → Calls Try.prog 13 #[.pointer (some ⟨jb, 0, none⟩)] W fun e w' => e = .returned (.int .i64 (lastSeq (M.take i) : Int)) ∧ Keep [] W w') := Lib.hid (fun W k => Seq_any (HJA.out.still k) (by rw [HTL.out]; omega))
    have HLS : Hid (0 < i → lastSeq (M.take i) = i) := Lib.hid (fun h0 => by
      unfold lastSeq
      obtain ⟨z, hz⟩ : ∃ z, M[i - 1]? = some z := ⟨_, List.getElem?_eq_getElem (by rw [← HM.out]; omega)⟩
      have : (M.take i).getLast? = some z := by
        rw [List.getLast?_eq_getElem?, HTL.out, List.getElem?_take, if_pos (by omega), hz]
      rw [this]
      have := HSEQ.out (i - 1) z hz
      show z.seq = i
      omega)
    have HLTM := Lib.hid hlt
    clear hlt q0
    go_upto_region 13 with fail
    go_cut [65] (fun s wc => s = .bool true ∧ Keep [] wa wc)
    case first =>
      by_cases h0 : i = 0
      · have q1 : decide ((i : Int) = 0) = true := decide_eq_true (by omega)
        have q2 : decide (i = 0) = true := decide_eq_true h0
        go_wp2_with fail
        go_meet
        exact ⟨rfl, Keep.refl _ _⟩
      · have q1 : decide ((i : Int) = 0) = false := decide_eq_false (by omega)
        have q2 : decide (i = 0) = false := decide_eq_false h0
        have HLS2 := Lib.hid (HLS.out (by omega))
        rw [HLS2.out] at HSQC
        have q3 : decide ((sq : Int) = (i : Int) + 1) = true := decide_eq_true (by have := HSQ.out; omega)
        have q4 : decide (sq = i + 1) = true := decide_eq_true HSQ.out
        have h0' : ¬ (i : Int) = 0 := by omega
        have hsqi : (sq : Int) = (i : Int) + 1 := by have := HSQ.out; omega
        have HSQI := Lib.hid hsqi
        clear hsqi
        go_wp2_with fail
        refine (HSQC.out wa (Keep.refl _ _)).mono ?_
        rintro e wz ⟨rfl, hKz⟩
        have HKZ := Lib.hid hKz
        clear hKz
        go_wp2_with fail
        go_meet
        exact ⟨by rw [HSQI.out, beq_self_eq_true, Bool.or_true], HKZ.out⟩
    case rest =>
    obtain ⟨rfl, hKc⟩ := hcut
    have HKC := Lib.hid hKc
    clear hKc kj1
    generalize wc = wd at *
    have kr0 : wd.cell? ⟨rb, 0, none⟩ = some (.int .i64 (pos : Int)) := HKC.out.cell1 (HRB.out.cell 0) (by simp)
    have kr1 : wd.cell? ⟨rb, 1, none⟩ = some (.slice ya bl ycap) := HKC.out.cell1 (HRB.out.cell 1) (by simp)
    have hJ14 := (HJA.out.still HKC.out).blk
    have hR14 := (HJA.out.still HKC.out).row
    have HRB4 := Lib.hid (HRB.out.keep HKC.out (by simp))
    have HY4 : Hid (Buf wd 0 5 (.slice ya bl ycap) body) := Lib.hid (by
      have h := (HY1.out.keep HKA.out (by simp)).keep HKC.out (by simp)
      rw [← HBL3.out] at h
      exact h)
    have HRBL : Hid (rb < wd.heap.size) := Lib.hid HRB4.out.lt
    have HMK : Hid (mkC a = [.int .i64 (sq : Int), .string (toStr a.key), .int .i64 (pos : Int)]) := Lib.hid (by
      rw [HSQE.out, HPOS.out]
      rfl)
    obtain ⟨A, hAe⟩ : ∃ A, A = M.take i := ⟨_, rfl⟩
    rw [← hAe] at hR14
    have HMA : Hid (A.length = i) := Lib.hid (by rw [hAe, HTL.out])
    have HAA := Lib.hid hAe
    have HBS : Hid (w.heap.size ≤ wd.heap.size) := Lib.hid (Nat.le_trans (Nat.le_trans HKW.out.size HKA.out.size) HKC.out.size)
    have HI : Hid (i ≤ 278) := Lib.hid (by omega)
    clear hAe
    go_upto_region 14 with fail
    refine wp_region_inv (opnJ14 wd w.heap.size rb jb lb pos i bl ycap nl sq vc ya va S9 body A a) (by kernel_rfl) (by kernel_rfl) (by kernel_rfl) ?_ (Steps.cons 0 ?_ (Steps.cons 1 ?_ (Steps.cons 2 ?_ (Steps.cons 3 ?_ (Steps.cons 4 ?_ (Steps.cons 5 ?_ (Steps.cons 6 ?_ (Steps.cons 7 ?_ (Steps.cons 8 ?_ (Steps.cons 9 ?_ (Steps.cons 10 ?_ (Steps.cons 11 ?_ (Steps.cons 12 ?_ (Steps.cons 13 ?_ (Steps.cons 14 ?_ (Steps.cons 15 ?_ (Steps.cons 16 ?_ (Steps.cons 17 ?_ (Steps.cons 18 ?_ (Steps.cons 19 ?_ (Steps.nil 20))))))))))))))))))))) 20 rfl ?_
    · intro x
      exact ⟨none, 0, 0, kr0, kr1, fun _ => HY4.out.keep (Keep.refl [] _).drew (by simp), fun _ => hJ14.drew, fun h => absurd h (by decide), fun _ => hR14.keep (Keep.refl [] _).drew (by simp), fun h => absurd h (by decide), fun h => absurd h (by decide), fun h => absurd h (by decide), (Keep.refl _ _).drew, fun h => absurd h (by decide), fun h => absurd h (by decide), fun h => absurd h (by decide), fun h => absurd h (by decide), fun h => absurd h (by decide), fun h => absurd h (by decide), fun h => absurd h (by decide), fun h => absurd h (by decide), fun h => absurd h (by decide), fun h => absurd h (by decide), fun h => absurd h (by decide), fun h => absurd h (by decide), fun h => absurd h (by decide), fun h => absurd h (by decide), fun h => absurd h (by decide), fun h => absurd h (by decide), fun h => absurd h (by decide), fun h => absurd h (by decide), fun h => absurd h (by decide), fun h => absurd h (by decide)⟩
    · intro l x w' hJ hi hd
      obtain ⟨ua, uc, B15, kq0, kq1, hY, hJ0, hJ1, hR0, hR1, d19, d16, hK, h0, h1, h2, h3, h4, h5, h6, h7, h8, h9, h10, h11, h12, h13, h14, h15, h16, h17, h18, h19⟩ := hJ
      refine Runs.of (b := ?bA0) ?eA0 ?_
      case eA0 => simp only [putV, Act.put, List.setIfInBounds_toArray, List.set_cons_zero, List.set_cons_succ]; rfl
      intro K' hK'
      go_simp
      exact hK'.go _ rfl ⟨ua, uc, B15, kq0, kq1, hY, hJ0, hJ1, hR0, hR1, d19, d16, hK, fun _ => rfl, h1, h2, h3, h4, h5, h6, h7, h8, h9, h10, h11, h12, h13, h14, h15, h16, h17, h18, h19⟩
    · intro l x w' hJ hi hd
      obtain ⟨ua, uc, B15, kq0, kq1, hY, hJ0, hJ1, hR0, hR1, d19, d16, hK, h0, h1, h2, h3, h4, h5, h6, h7, h8, h9, h10, h11, h12, h13, h14, h15, h16, h17, h18, h19⟩ := hJ
      refine Runs.of (b := ?bA1) ?eA1 ?_
      case eA1 => simp only [putV, Act.put, List.setIfInBounds_toArray, List.set_cons_zero, List.set_cons_succ]; rfl
      intro K' hK'
      go_simp
      exact hK'.go _ rfl ⟨ua, uc, B15, kq0, kq1, hY, hJ0, hJ1, hR0, hR1, d19, d16, hK, h0, fun _ => rfl, h2, h3, h4, h5, h6, h7, h8, h9, h10, h11, h12, h13, h14, h15, h16, h17, h18, h19⟩
    · intro l x w' hJ hi hd
      obtain ⟨ua, uc, B15, kq0, kq1, hY, hJ0, hJ1, hR0, hR1, d19, d16, hK, h0, h1, h2, h3, h4, h5, h6, h7, h8, h9, h10, h11, h12, h13, h14, h15, h16, h17, h18, h19⟩ := hJ
      have e1 := h1 (show l 1 = true by first | exact hd.1 rfl | exact hd.2.1 rfl | exact hd.2.2.1 rfl | exact hd.2.2.2.1 rfl | exact hd.2.2.2.2.1 rfl | exact hd.2.2.2.2.2.1 rfl)
      refine Runs.of (b := ?bA2) ?eA2 ?_
      case eA2 => simp only [putV, Act.put, List.setIfInBounds_toArray, List.set_cons_zero, List.set_cons_succ, e1]; rfl
      intro K' hK'
      go_simp
      exact hK'.go _ rfl ⟨ua, uc, B15, kq0, kq1, hY, hJ0, hJ1, hR0, hR1, d19, d16, hK, h0, h1, fun _ => rfl, h3, h4, h5, h6, h7, h8, h9, h10, h11, h12, h13, h14, h15, h16, h17, h18, h19⟩
    · intro l x w' hJ hi hd
      obtain ⟨ua, uc, B15, kq0, kq1, hY, hJ0, hJ1, hR0, hR1, d19, d16, hK, h0, h1, h2, h3, h4, h5, h6, h7, h8, h9, h10, h11, h12, h13, h14, h15, h16, h17, h18, h19⟩ := hJ
      have e2 := h2 (show l 2 = true by first | exact hd.1 rfl | exact hd.2.1 rfl | exact hd.2.2.1 rfl | exact hd.2.2.2.1 rfl | exact hd.2.2.2.2.1 rfl | exact hd.2.2.2.2.2.1 rfl)
      refine Runs.of (b := ?bA3) ?eA3 ?_
      case eA3 => simp only [putV, Act.put, List.setIfInBounds_toArray, List.set_cons_zero, List.set_cons_succ, e2]; rfl
      intro K' hK'
      go_simp
      exact hK'.go _ rfl ⟨ua, uc, B15, kq0, kq1, hY, hJ0, hJ1, hR0, hR1, d19, d16, hK, h0, h1, h2, fun _ => rfl, h4, h5, h6, h7, h8, h9, h10, h11, h12, h13, h14, h15, h16, h17, h18, h19⟩
    · intro l x w' hJ hi hd
      obtain ⟨ua, uc, B15, kq0, kq1, hY, hJ0, hJ1, hR0, hR1, d19, d16, hK, h0, h1, h2, h3, h4, h5, h6, h7, h8, h9, h10, h11, h12, h13, h14, h15, h16, h17, h18, h19⟩ := hJ
      have e3 := h3 (show l 3 = true by first | exact hd.1 rfl | exact hd.2.1 rfl | exact hd.2.2.1 rfl | exact hd.2.2.2.1 rfl | exact hd.2.2.2.2.1 rfl | exact hd.2.2.2.2.2.1 rfl)
      have f19 : l 19 = false := by cases hq : l 19 with | false => rfl | true => exact absurd (d16 (d19 hq)).1 (by simp [hi])
      have c0 : w'.cell? ⟨jb, 1, none⟩ = some (.slice va i vc) := (hJ0 f19).cell 1
      refine Runs.of (b := ?bA4) ?eA4 ?_
      case eA4 => simp only [putV, Act.put, List.setIfInBounds_toArray, List.set_cons_zero, List.set_cons_succ, e3]; rfl
      intro K' hK'
      go_simp
      exact hK'.go _ rfl ⟨ua, uc, B15, kq0, kq1, hY, hJ0, hJ1, hR0, hR1, d19, fun h => ⟨rfl, (d16 h).2⟩, hK, h0, h1, h2, h3, fun _ => rfl, h5, h6, h7, h8, h9, h10, h11, h12, h13, h14, h15, h16, h17, h18, h19⟩
    · intro l x w' hJ hi hd
      obtain ⟨ua, uc, B15, kq0, kq1, hY, hJ0, hJ1, hR0, hR1, d19, d16, hK, h0, h1, h2, h3, h4, h5, h6, h7, h8, h9, h10, h11, h12, h13, h14, h15, h16, h17, h18, h19⟩ := hJ
      refine Runs.of (b := ?bA5) ?eA5 ?_
      case eA5 => simp only [putV, Act.put, List.setIfInBounds_toArray, List.set_cons_zero, List.set_cons_succ]; rfl
      intro K' hK'
      go_simp
      exact hK'.go _ rfl ⟨ua, uc, B15, kq0, kq1, hY, hJ0, hJ1, hR0, hR1, d19, d16, hK, h0, h1, h2, h3, h4, fun _ => rfl, h6, h7, h8, h9, h10, h11, h12, h13, h14, h15, h16, h17, h18, h19⟩
    · intro l x w' hJ hi hd
      obtain ⟨ua, uc, B15, kq0, kq1, hY, hJ0, hJ1, hR0, hR1, d19, d16, hK, h0, h1, h2, h3, h4, h5, h6, h7, h8, h9, h10, h11, h12, h13, h14, h15, h16, h17, h18, h19⟩ := hJ
      refine Runs.of (b := ?bA6) ?eA6 ?_
      case eA6 => simp only [putV, Act.put, List.setIfInBounds_toArray, List.set_cons_zero, List.set_cons_succ]; rfl
      intro K' hK'
      go_simp
      exact hK'.go _ rfl ⟨ua, uc, B15, kq0, kq1, hY, hJ0, hJ1, hR0, hR1, d19, d16, hK, h0, h1, h2, h3, h4, h5, fun _ => rfl, h7, h8, h9, h10, h11, h12, h13, h14, h15, h16, h17, h18, h19⟩
    · intro l x w' hJ hi hd
      obtain ⟨ua, uc, B15, kq0, kq1, hY, hJ0, hJ1, hR0, hR1, d19, d16, hK, h0, h1, h2, h3, h4, h5, h6, h7, h8, h9, h10, h11, h12, h13, h14, h15, h16, h17, h18, h19⟩ := hJ
      have e6 := h6 (show l 6 = true by first | exact hd.1 rfl | exact hd.2.1 rfl | exact hd.2.2.1 rfl | exact hd.2.2.2.1 rfl | exact hd.2.2.2.2.1 rfl | exact hd.2.2.2.2.2.1 rfl)
      have c0 := kq1
      refine Runs.of (b := ?bA7) ?eA7 ?_
      case eA7 => simp only [putV, Act.put, List.setIfInBounds_toArray, List.set_cons_zero, List.set_cons_succ, e6]; rfl
      intro K' hK'
      go_simp
      exact hK'.go _ rfl ⟨ua, uc, B15, kq0, kq1, hY, hJ0, hJ1, hR0, hR1, d19, d16, hK, h0, h1, h2, h3, h4, h5, h6, fun _ => rfl, h8, h9, h10, h11, h12, h13, h14, h15, h16, h17, h18, h19⟩
    · intro l x w' hJ hi hd
      obtain ⟨ua, uc, B15, kq0, kq1, hY, hJ0, hJ1, hR0, hR1, d19, d16, hK, h0, h1, h2, h3, h4, h5, h6, h7, h8, h9, h10, h11, h12, h13, h14, h15, h16, h17, h18, h19⟩ := hJ
      refine Runs.of (b := ?bA8) ?eA8 ?_
      case eA8 => simp only [putV, Act.put, List.setIfInBounds_toArray, List.set_cons_zero, List.set_cons_succ]; rfl
      intro K' hK'
      go_simp
      exact hK'.go _ rfl ⟨ua, uc, B15, kq0, kq1, hY, hJ0, hJ1, hR0, hR1, d19, d16, hK, h0, h1, h2, h3, h4, h5, h6, h7, fun _ => rfl, h9, h10, h11, h12, h13, h14, h15, h16, h17, h18, h19⟩
    · intro l x w' hJ hi hd
      obtain ⟨ua, uc, B15, kq0, kq1, hY, hJ0, hJ1, hR0, hR1, d19, d16, hK, h0, h1, h2, h3, h4, h5, h6, h7, h8, h9, h10, h11, h12, h13, h14, h15, h16, h17, h18, h19⟩ := hJ
      have e7 := h7 (show l 7 = true by first | exact hd.1 rfl | exact hd.2.1 rfl | exact hd.2.2.1 rfl | exact hd.2.2.2.1 rfl | exact hd.2.2.2.2.1 rfl | exact hd.2.2.2.2.2.1 rfl)
      have e8 := h8 (show l 8 = true by first | exact hd.1 rfl | exact hd.2.1 rfl | exact hd.2.2.1 rfl | exact hd.2.2.2.1 rfl | exact hd.2.2.2.2.1 rfl | exact hd.2.2.2.2.2.1 rfl)
      have hcut := HC9.out
      refine Runs.of (b := ?bA9) ?eA9 ?_
      case eA9 => simp only [putV, Act.put, List.setIfInBounds_toArray, List.set_cons_zero, List.set_cons_succ, e7, e8]; rfl
      intro K' hK'
      go_simp
      exact hK'.go _ rfl ⟨ua, uc, B15, kq0, kq1, hY, hJ0, hJ1, hR0, hR1, d19, d16, hK, h0, h1, h2, h3, h4, h5, h6, h7, h8, fun _ => rfl, h10, h11, h12, h13, h14, h15, h16, h17, h18, h19⟩
    · intro l x w' hJ hi hd
      obtain ⟨ua, uc, B15, kq0, kq1, hY, hJ0, hJ1, hR0, hR1, d19, d16, hK, h0, h1, h2, h3, h4, h5, h6, h7, h8, h9, h10, h11, h12, h13, h14, h15, h16, h17, h18, h19⟩ := hJ
      have e9 := h9 (show l 9 = true by first | exact hd.1 rfl | exact hd.2.1 rfl | exact hd.2.2.1 rfl | exact hd.2.2.2.1 rfl | exact hd.2.2.2.2.1 rfl | exact hd.2.2.2.2.2.1 rfl)
      have f16 : l 16 = false := by cases hq : l 16 with | false => rfl | true => exact absurd (d16 hq).2 (by simp [hi])
      have hst : (convert 30 9 S9).run Try.prog w' = .ok (.string (toStr a.key)) w' := by
          have h := Rd.str (P := Try.prog) (bcut HS9.out (hY f16) HBL3.out HDR.out (by rw [HBLN.out]; omega)) HKEY.out Try.underlying30 Try.underlying5 (dst := 9) Try.underlying9
          exact h
      refine Runs.of (b := ?bA10) ?eA10 ?_
      case eA10 => simp only [putV, Act.put, List.setIfInBounds_toArray, List.set_cons_zero, List.set_cons_succ, e9]; rfl
      intro K' hK'
      go_simp
      exact hK'.go _ rfl ⟨ua, uc, B15, kq0, kq1, hY, hJ0, hJ1, hR0, hR1, d19, fun h => ⟨(d16 h).1, rfl⟩, hK, h0, h1, h2, h3, h4, h5, h6, h7, h8, h9, fun _ => rfl, fun h => ⟨(h11 h).1, Lib.hid rfl⟩, h12, h13, fun h => ⟨(h14 h).1, Lib.hid rfl⟩, fun h => ⟨(h15 h).1, (h15 h).2.1, Lib.hid rfl⟩, h16, h17, h18, h19⟩
    · intro l x w' hJ hi hd
      obtain ⟨ua, uc, B15, kq0, kq1, hY, hJ0, hJ1, hR0, hR1, d19, d16, hK, h0, h1, h2, h3, h4, h5, h6, h7, h8, h9, h10, h11, h12, h13, h14, h15, h16, h17, h18, h19⟩ := hJ
      have e5 := h5 (show l 5 = true by first | exact hd.1 rfl | exact hd.2.1 rfl | exact hd.2.2.1 rfl | exact hd.2.2.2.1 rfl | exact hd.2.2.2.2.1 rfl | exact hd.2.2.2.2.2.1 rfl)
      have e10 := h10 (show l 10 = true by first | exact hd.1 rfl | exact hd.2.1 rfl | exact hd.2.2.1 rfl | exact hd.2.2.2.1 rfl | exact hd.2.2.2.2.1 rfl | exact hd.2.2.2.2.2.1 rfl)
      have HL10 : Hid (l 10 = true) := Lib.hid (by first | exact hd.1 rfl | exact hd.2.1 rfl | exact hd.2.2.1 rfl | exact hd.2.2.2.1 rfl | exact hd.2.2.2.2.1 rfl | exact hd.2.2.2.2.2.1 rfl | exact hd.2.2.2.2.2.2.1 rfl | exact hd.2.2.2.2.2.2.2.1 rfl | exact hd.2.2.2.2.2.2.2.2.1 rfl | exact hd.2.2.2.2.2.2.2.2.2.1 rfl | exact hd.2.2.2.2.2.2.2.2.2.2.1 rfl | exact hd.2.2.2.2.2.2.2.2.2.2.2.1 rfl | exact hd.2.2.2.2.2.2.2.2.2.2.2.2.1 rfl | exact hd.2.2.2.2.2.2.2.2.2.2.2.2.2.1 rfl | exact hd.2.2.2.2.2.2.2.2.2.2.2.2.2.2.1 rfl | exact hd.2.2.2.2.2.2.2.2.2.2.2.2.2.2.2.1 rfl | exact hd.2.2.2.2.2.2.2.2.2.2.2.2.2.2.2.2.1 rfl | exact hd.2.2.2.2.2.2.2.2.2.2.2.2.2.2.2.2.2.1 rfl | exact hd.2.2.2.2.2.2.2.2.2.2.2.2.2.2.2.2.2.2.1 rfl | exact hd.2.2.2.2.2.2.2.2.2.2.2.2.2.2.2.2.2.2.2.1 rfl | exact hd.2.2.2.2.2.2.2.2.2.2.2.2.2.2.2.2.2.2.2.2.1 rfl | exact hd.2.2.2.2.2.2.2.2.2.2.2.2.2.2.2.2.2.2.2.2.2.1 rfl | exact hd.2.2.2.2.2.2.2.2.2.2.2.2.2.2.2.2.2.2.2.2.2.2.1 rfl | exact hd.2.2.2.2.2.2.2.2.2.2.2.2.2.2.2.2.2.2.2.2.2.2.2.1 rfl)
      refine Runs.of (b := ?bA11) ?eA11 ?_
      case eA11 => simp only [putV, Act.put, List.setIfInBounds_toArray, List.set_cons_zero, List.set_cons_succ, e5, e10]; rfl
      intro K' hK'
      go_simp
      exact hK'.go _ rfl ⟨ua, uc, B15, kq0, kq1, hY, hJ0, hJ1, hR0, hR1, d19, d16, hK, h0, h1, h2, h3, h4, h5, h6, h7, h8, h9, h10, fun _ => ⟨rfl, HL10⟩, h12, h13, h14, h15, h16, h17, h18, h19⟩
    · intro l x w' hJ hi hd
      obtain ⟨ua, uc, B15, kq0, kq1, hY, hJ0, hJ1, hR0, hR1, d19, d16, hK, h0, h1, h2, h3, h4, h5, h6, h7, h8, h9, h10, h11, h12, h13, h14, h15, h16, h17, h18, h19⟩ := hJ
      refine Runs.of (b := ?bA12) ?eA12 ?_
      case eA12 => simp only [putV, Act.put, List.setIfInBounds_toArray, List.set_cons_zero, List.set_cons_succ]; rfl
      intro K' hK'
      go_simp
      exact hK'.go _ rfl ⟨ua, uc, B15, kq0, kq1, hY, hJ0, hJ1, hR0, hR1, d19, d16, hK, h0, h1, h2, h3, h4, h5, h6, h7, h8, h9, h10, h11, fun _ => rfl, h13, h14, h15, h16, h17, h18, h19⟩
    · intro l x w' hJ hi hd
      obtain ⟨ua, uc, B15, kq0, kq1, hY, hJ0, hJ1, hR0, hR1, d19, d16, hK, h0, h1, h2, h3, h4, h5, h6, h7, h8, h9, h10, h11, h12, h13, h14, h15, h16, h17, h18, h19⟩ := hJ
      have e12 := h12 (show l 12 = true by first | exact hd.1 rfl | exact hd.2.1 rfl | exact hd.2.2.1 rfl | exact hd.2.2.2.1 rfl | exact hd.2.2.2.2.1 rfl | exact hd.2.2.2.2.2.1 rfl)
      have c0 := kq0
      refine Runs.of (b := ?bA13) ?eA13 ?_
      case eA13 => simp only [putV, Act.put, List.setIfInBounds_toArray, List.set_cons_zero, List.set_cons_succ, e12]; rfl
      intro K' hK'
      go_simp
      exact hK'.go _ rfl ⟨ua, uc, B15, kq0, kq1, hY, hJ0, hJ1, hR0, hR1, d19, d16, hK, h0, h1, h2, h3, h4, h5, h6, h7, h8, h9, h10, h11, h12, fun _ => rfl, h14, h15, h16, h17, h18, h19⟩
    · intro l x w' hJ hi hd
      obtain ⟨ua, uc, B15, kq0, kq1, hY, hJ0, hJ1, hR0, hR1, d19, d16, hK, h0, h1, h2, h3, h4, h5, h6, h7, h8, h9, h10, h11, h12, h13, h14, h15, h16, h17, h18, h19⟩ := hJ
      have e11 := h11 (show l 11 = true by first | exact hd.1 rfl | exact hd.2.1 rfl | exact hd.2.2.1 rfl | exact hd.2.2.2.1 rfl | exact hd.2.2.2.2.1 rfl | exact hd.2.2.2.2.2.1 rfl)
      have e13 := h13 (show l 13 = true by first | exact hd.1 rfl | exact hd.2.1 rfl | exact hd.2.2.1 rfl | exact hd.2.2.2.1 rfl | exact hd.2.2.2.2.1 rfl | exact hd.2.2.2.2.2.1 rfl)
      refine Runs.of (b := ?bA14) ?eA14 ?_
      case eA14 => simp only [putV, Act.put, List.setIfInBounds_toArray, List.set_cons_zero, List.set_cons_succ, e11.1, e13]; rfl
      intro K' hK'
      go_simp
      exact hK'.go _ rfl ⟨ua, uc, B15, kq0, kq1, hY, hJ0, hJ1, hR0, hR1, d19, d16, hK, h0, h1, h2, h3, h4, h5, h6, h7, h8, h9, h10, h11, h12, h13, fun _ => ⟨rfl, e11.2⟩, h15, h16, h17, h18, h19⟩
    · intro l x w' hJ hi hd
      obtain ⟨ua, uc, B15, kq0, kq1, hY, hJ0, hJ1, hR0, hR1, d19, d16, hK, h0, h1, h2, h3, h4, h5, h6, h7, h8, h9, h10, h11, h12, h13, h14, h15, h16, h17, h18, h19⟩ := hJ
      have e14 := h14 (show l 14 = true by first | exact hd.1 rfl | exact hd.2.1 rfl | exact hd.2.2.1 rfl | exact hd.2.2.2.1 rfl | exact hd.2.2.2.2.1 rfl | exact hd.2.2.2.2.2.1 rfl)
      have HL14 : Hid (l 14 = true) := Lib.hid (by first | exact hd.1 rfl | exact hd.2.1 rfl | exact hd.2.2.1 rfl | exact hd.2.2.2.1 rfl | exact hd.2.2.2.2.1 rfl | exact hd.2.2.2.2.2.1 rfl | exact hd.2.2.2.2.2.2.1 rfl | exact hd.2.2.2.2.2.2.2.1 rfl | exact hd.2.2.2.2.2.2.2.2.1 rfl | exact hd.2.2.2.2.2.2.2.2.2.1 rfl | exact hd.2.2.2.2.2.2.2.2.2.2.1 rfl | exact hd.2.2.2.2.2.2.2.2.2.2.2.1 rfl | exact hd.2.2.2.2.2.2.2.2.2.2.2.2.1 rfl | exact hd.2.2.2.2.2.2.2.2.2.2.2.2.2.1 rfl | exact hd.2.2.2.2.2.2.2.2.2.2.2.2.2.2.1 rfl | exact hd.2.2.2.2.2.2.2.2.2.2.2.2.2.2.2.1 rfl | exact hd.2.2.2.2.2.2.2.2.2.2.2.2.2.2.2.2.1 rfl | exact hd.2.2.2.2.2.2.2.2.2.2.2.2.2.2.2.2.2.1 rfl | exact hd.2.2.2.2.2.2.2.2.2.2.2.2.2.2.2.2.2.2.1 rfl | exact hd.2.2.2.2.2.2.2.2.2.2.2.2.2.2.2.2.2.2.2.1 rfl | exact hd.2.2.2.2.2.2.2.2.2.2.2.2.2.2.2.2.2.2.2.2.1 rfl | exact hd.2.2.2.2.2.2.2.2.2.2.2.2.2.2.2.2.2.2.2.2.2.1 rfl | exact hd.2.2.2.2.2.2.2.2.2.2.2.2.2.2.2.2.2.2.2.2.2.2.1 rfl | exact hd.2.2.2.2.2.2.2.2.2.2.2.2.2.2.2.2.2.2.2.2.2.2.2.1 rfl)
      refine Runs.of (b := ?bA15) ?eA15 ?_
      case eA15 => simp only [putV, Act.put, List.setIfInBounds_toArray, List.set_cons_zero, List.set_cons_succ, e14.1]; rfl
      intro K' hK'
      go_simp
      exact hK'.go _ rfl ⟨ua, uc, w'.heap.size, ((Keep.refl [] _).alloc _).cell1 kq0 (by simp), ((Keep.refl [] _).alloc _).cell1 kq1 (by simp), fun h => (hY h).alloc _, fun h => (hJ0 h).alloc _, fun h => (hJ1 h).alloc _, fun h => (hR0 h).keep ((Keep.refl [] _).alloc _) (by simp), fun h => (hR1 h).keep ((Keep.refl [] _).alloc _) (by simp), d19, d16, hK.alloc _, h0, h1, h2, h3, h4, h5, h6, h7, h8, h9, h10, h11, h12, h13, h14, fun _ => ⟨rfl, fun _ => ⟨Blk.new _ [.int .i64 (sq : Int), .string (toStr a.key), .int .i64 (pos : Int)] _, hK.size⟩, (h14 HL14.out).2⟩, h16, h17, h18, h19⟩
    · intro l x w' hJ hi hd
      obtain ⟨ua, uc, B15, kq0, kq1, hY, hJ0, hJ1, hR0, hR1, d19, d16, hK, h0, h1, h2, h3, h4, h5, h6, h7, h8, h9, h10, h11, h12, h13, h14, h15, h16, h17, h18, h19⟩ := hJ
      have e4 := h4 (show l 4 = true by first | exact hd.1 rfl | exact hd.2.1 rfl | exact hd.2.2.1 rfl | exact hd.2.2.2.1 rfl | exact hd.2.2.2.2.1 rfl | exact hd.2.2.2.2.2.1 rfl)
      have e15 := h15 (show l 15 = true by first | exact hd.1 rfl | exact hd.2.1 rfl | exact hd.2.2.1 rfl | exact hd.2.2.2.1 rfl | exact hd.2.2.2.2.1 rfl | exact hd.2.2.2.2.2.1 rfl)
      have HL4 : Hid (l 4 = true) := Lib.hid (by first | exact hd.1 rfl | exact hd.2.1 rfl | exact hd.2.2.1 rfl | exact hd.2.2.2.1 rfl | exact hd.2.2.2.2.1 rfl | exact hd.2.2.2.2.2.1 rfl | exact hd.2.2.2.2.2.2.1 rfl | exact hd.2.2.2.2.2.2.2.1 rfl | exact hd.2.2.2.2.2.2.2.2.1 rfl | exact hd.2.2.2.2.2.2.2.2.2.1 rfl | exact hd.2.2.2.2.2.2.2.2.2.2.1 rfl | exact hd.2.2.2.2.2.2.2.2.2.2.2.1 rfl | exact hd.2.2.2.2.2.2.2.2.2.2.2.2.1 rfl | exact hd.2.2.2.2.2.2.2.2.2.2.2.2.2.1 rfl | exact hd.2.2.2.2.2.2.2.2.2.2.2.2.2.2.1 rfl | exact hd.2.2.2.2.2.2.2.2.2.2.2.2.2.2.2.1 rfl | exact hd.2.2.2.2.2.2.2.2.2.2.2.2.2.2.2.2.1 rfl | exact hd.2.2.2.2.2.2.2.2.2.2.2.2.2.2.2.2.2.1 rfl | exact hd.2.2.2.2.2.2.2.2.2.2.2.2.2.2.2.2.2.2.1 rfl | exact hd.2.2.2.2.2.2.2.2.2.2.2.2.2.2.2.2.2.2.2.1 rfl | exact hd.2.2.2.2.2.2.2.2.2.2.2.2.2.2.2.2.2.2.2.2.1 rfl | exact hd.2.2.2.2.2.2.2.2.2.2.2.2.2.2.2.2.2.2.2.2.2.1 rfl | exact hd.2.2.2.2.2.2.2.2.2.2.2.2.2.2.2.2.2.2.2.2.2.2.1 rfl | exact hd.2.2.2.2.2.2.2.2.2.2.2.2.2.2.2.2.2.2.2.2.2.2.2.1 rfl)
      have HL10 := e15.2.2
      have f19 : l 19 = false := by cases hq : l 19 with | false => rfl | true => exact absurd (d19 hq) (by simp [hi])
      obtain ⟨hblk, hB15⟩ := e15.2.1 hi
      have hRR := hR0 hi
      have hJT := (hJ0 f19).ty
      have hjn : jb ∉ (.slice va i vc : Value).ownBlock.toList := fun hm => hJT.ne (hRR.ty jb (Option.mem_toList.1 hm)) (by decide) rfl
      have hrn : rb ∉ (.slice va i vc : Value).ownBlock.toList := fun hm => HRB4.out.ty.ne ((HJA.out.still HKC.out).row.ty rb (Option.mem_toList.1 hm)) (by decide) rfl
      refine Runs.of (b := ?bA16) ?eA16 ?_
      case eA16 => simp only [putV, Act.put, List.setIfInBounds_toArray, List.set_cons_zero, List.set_cons_succ, e4, e15.1]; rfl
      intro K' hK'
      refine step_append_src _ rfl (.tmp 70) (.tmp 81) 51 51 rfl w.heap.size 61 iM _ 3 32 Try.underlying51 hiM hzM0 hzM1 hzM2 rfl (by decide) (.slice va i vc) i (mkCs A) rfl (by have hq := hRR; unfold MRow at hq; rw [HMA.out] at hq; exact hq) _ 1 [.int .i64 (sq : Int), .string (toStr a.key), .int .i64 (pos : Int)] rfl (srcMk w' B15 _ _ _ hblk Try.underlying51) (by unfold maxLen; have := HI.out; omega) (by have := HI.out; omega) (Nat.le_trans HBS.out hK.size) ?_
      intro v2 w2 g2 g3 _ g4
      obtain ⟨v2a, v2c, rfl⟩ := ownsRow_slice g2
      have k2 : Keep (.slice va i vc : Value).ownBlock.toList w' w2 := Keep.grown g3
      have hR2 : MRow w2 w.heap.size (.slice v2a (i + 1) v2c) (A ++ [a]) := MRow.app _ (by rw [HMA.out, HMK.out]; exact g2)
      exact hK'.go (.slice v2a (i + 1) v2c) rfl ⟨v2a, v2c, B15, k2.cell1 kq0 hrn, k2.cell1 kq1 hrn, fun h => Bool.noConfusion (show true = false from h), fun h => (hJ0 h).keep k2 hjn, fun h => absurd (f19.symm.trans h) (by decide), fun h => Bool.noConfusion (show true = false from h), fun _ => hR2, fun _ => rfl, fun _ => ⟨HL4.out, HL10.out⟩, hK.trans (k2.mono (fun q hq _ => List.mem_cons_of_mem _ hq)), h0, h1, h2, h3, h4, h5, h6, h7, h8, h9, h10, h11, h12, h13, h14, fun h => ⟨(h15 h).1, fun h2 => Bool.noConfusion (show true = false from h2), (h15 h).2.2⟩, fun _ => rfl, h17, h18, h19⟩
    · intro l x w' hJ hi hd
      obtain ⟨ua, uc, B15, kq0, kq1, hY, hJ0, hJ1, hR0, hR1, d19, d16, hK, h0, h1, h2, h3, h4, h5, h6, h7, h8, h9, h10, h11, h12, h13, h14, h15, h16, h17, h18, h19⟩ := hJ
      have e0 := h0 (show l 0 = true by first | exact hd.1 rfl | exact hd.2.1 rfl | exact hd.2.2.1 rfl | exact hd.2.2.2.1 rfl | exact hd.2.2.2.2.1 rfl | exact hd.2.2.2.2.2.1 rfl)
      refine Runs.of (b := ?bA17) ?eA17 ?_
      case eA17 => simp only [putV, Act.put, List.setIfInBounds_toArray, List.set_cons_zero, List.set_cons_succ, e0]; rfl
      intro K' hK'
      go_simp
      exact hK'.go _ rfl ⟨ua, uc, B15, kq0, kq1, hY, hJ0, hJ1, hR0, hR1, d19, d16, hK, h0, h1, h2, h3, h4, h5, h6, h7, h8, h9, h10, h11, h12, h13, h14, h15, h16, fun _ => rfl, h18, h19⟩
    · intro l x w' hJ hi hd
      obtain ⟨ua, uc, B15, kq0, kq1, hY, hJ0, hJ1, hR0, hR1, d19, d16, hK, h0, h1, h2, h3, h4, h5, h6, h7, h8, h9, h10, h11, h12, h13, h14, h15, h16, h17, h18, h19⟩ := hJ
      have e17 := h17 (show l 17 = true by first | exact hd.1 rfl | exact hd.2.1 rfl | exact hd.2.2.1 rfl | exact hd.2.2.2.1 rfl | exact hd.2.2.2.2.1 rfl | exact hd.2.2.2.2.2.1 rfl)
      refine Runs.of (b := ?bA18) ?eA18 ?_
      case eA18 => simp only [putV, Act.put, List.setIfInBounds_toArray, List.set_cons_zero, List.set_cons_succ, e17]; rfl
      intro K' hK'
      go_simp
      exact hK'.go _ rfl ⟨ua, uc, B15, kq0, kq1, hY, hJ0, hJ1, hR0, hR1, d19, d16, hK, h0, h1, h2, h3, h4, h5, h6, h7, h8, h9, h10, h11, h12, h13, h14, h15, h16, h17, fun _ => rfl, h19⟩
    · intro l x w' hJ hi hd
      obtain ⟨ua, uc, B15, kq0, kq1, hY, hJ0, hJ1, hR0, hR1, d19, d16, hK, h0, h1, h2, h3, h4, h5, h6, h7, h8, h9, h10, h11, h12, h13, h14, h15, h16, h17, h18, h19⟩ := hJ
      have e16 := h16 (show l 16 = true by first | exact hd.1 rfl | exact hd.2.1 rfl | exact hd.2.2.1 rfl | exact hd.2.2.2.1 rfl | exact hd.2.2.2.2.1 rfl | exact hd.2.2.2.2.2.1 rfl)
      have e18 := h18 (show l 18 = true by first | exact hd.1 rfl | exact hd.2.1 rfl | exact hd.2.2.1 rfl | exact hd.2.2.2.1 rfl | exact hd.2.2.2.2.1 rfl | exact hd.2.2.2.2.2.1 rfl)
      have HL16 : Hid (l 16 = true) := Lib.hid (by first | exact hd.1 rfl | exact hd.2.1 rfl | exact hd.2.2.1 rfl | exact hd.2.2.2.1 rfl | exact hd.2.2.2.2.1 rfl | exact hd.2.2.2.2.2.1 rfl | exact hd.2.2.2.2.2.2.1 rfl | exact hd.2.2.2.2.2.2.2.1 rfl | exact hd.2.2.2.2.2.2.2.2.1 rfl | exact hd.2.2.2.2.2.2.2.2.2.1 rfl | exact hd.2.2.2.2.2.2.2.2.2.2.1 rfl | exact hd.2.2.2.2.2.2.2.2.2.2.2.1 rfl | exact hd.2.2.2.2.2.2.2.2.2.2.2.2.1 rfl | exact hd.2.2.2.2.2.2.2.2.2.2.2.2.2.1 rfl | exact hd.2.2.2.2.2.2.2.2.2.2.2.2.2.2.1 rfl | exact hd.2.2.2.2.2.2.2.2.2.2.2.2.2.2.2.1 rfl | exact hd.2.2.2.2.2.2.2.2.2.2.2.2.2.2.2.2.1 rfl | exact hd.2.2.2.2.2.2.2.2.2.2.2.2.2.2.2.2.2.1 rfl | exact hd.2.2.2.2.2.2.2.2.2.2.2.2.2.2.2.2.2.2.1 rfl | exact hd.2.2.2.2.2.2.2.2.2.2.2.2.2.2.2.2.2.2.2.1 rfl | exact hd.2.2.2.2.2.2.2.2.2.2.2.2.2.2.2.2.2.2.2.2.1 rfl | exact hd.2.2.2.2.2.2.2.2.2.2.2.2.2.2.2.2.2.2.2.2.2.1 rfl | exact hd.2.2.2.2.2.2.2.2.2.2.2.2.2.2.2.2.2.2.2.2.2.2.1 rfl | exact hd.2.2.2.2.2.2.2.2.2.2.2.2.2.2.2.2.2.2.2.2.2.2.2.1 rfl)
      have c0 : w'.cell? ⟨jb, 1, none⟩ = some (.slice va i vc) := (hJ0 hi).cell 1
      have f0 := (hJ0 hi).free 1
      refine Runs.of (b := ?bA19) ?eA19 ?_
      case eA19 => simp only [putV, Act.put, List.setIfInBounds_toArray, List.set_cons_zero, List.set_cons_succ, e16, e18]; rfl
      intro K' hK'
      go_simp
      have k2 : Keep [jb] w' _ := ((Keep.refl [jb] w').setCell (p := ⟨jb, 1, none⟩) (.inl (by simp)) (.slice ua (i + 1) uc))
      have hJ2 := (hJ0 hi).set 1 (.slice ua (i + 1) uc)
      have hJT := (hJ0 hi).ty
      have hrn : rb ∉ [jb] := by simp only [List.mem_singleton]; exact fun e => HRB4.out.ty.ne (HJA.out.still HKC.out).blk.ty (by decide) e
      exact hK'.go undef rfl ⟨ua, uc, B15, k2.cell1 kq0 hrn, k2.cell1 kq1 hrn, fun h => absurd (h.symm.trans HL16.out) (by decide), fun h => Bool.noConfusion (show true = false from h), fun _ => hJ2, fun h => absurd (h.symm.trans HL16.out) (by decide), fun h => (hR1 h).keep k2 (fun q hq hm => by simp only [List.mem_singleton] at hm; subst hm; exact ((hR1 h).ty _ hq).ne hJT (by decide) rfl), fun _ => HL16.out, d16, hK.trans (k2.mono (by simp)), h0, h1, h2, h3, h4, h5, h6, h7, h8, h9, h10, h11, h12, h13, h14, fun h => ⟨(h15 h).1, fun h2 => absurd (h2.symm.trans HL16.out) (by decide), (h15 h).2.2⟩, h16, h17, h18, fun _ => trivial⟩
    · intro l x w3 hJ hl
      obtain ⟨ua, uc, B15, kq0, kq1, hY, hJ0, hJ1, hR0, hR1, d19, d16, hK, h0, h1, h2, h3, h4, h5, h6, h7, h8, h9, h10, h11, h12, h13, h14, h15, h16, h17, h18, h19⟩ := hJ
      have hJ9 := hJ1 (hl 19 (by decide))
      have hR9 := hR1 (hl 16 (by decide))
      have HJ9 : Hid (JAt w3 w.heap.size jb lb (.slice ua (i + 1) uc) (A ++ [a])) := Lib.hid ⟨hJ9, hR9⟩
      have HK9 := Lib.hid hK
      simp only [putV, Act.put, List.setIfInBounds_toArray, List.set_cons_zero, List.set_cons_succ]
      have HTK : Hid (M.take (i + 1) = A ++ [a]) := Lib.hid (by rw [HAA.out, List.take_add_one, HA.out]; rfl)
      have HNIN : Hid (Ty wd jb 53 ∧ (∀ q, (Value.slice va i vc).ownBlock = some q → Ty wd q 61)) := Lib.hid ⟨(HJA.out.still HKC.out).blk.ty, (HJA.out.still HKC.out).row.ty⟩
      have HLG4 := Lib.hid ((HLG.out.still HKA.out).still HKC.out)
      have HRR4 := Lib.hid ((HRR.out.still HKA.out).still HKC.out)
      have HLG9 := Lib.hid (HLG4.out.keep HK9.out (fun x hx hm => by
        rcases List.mem_cons.1 hm with e | e
        · subst e; exact HLG4.out.at_.apartT HNIN.out.1 (by decide) hx
        · exact HLG4.out.at_.apartT (HNIN.out.2 x (Option.mem_toList.1 e)) (by decide) hx))
      have HRR9 := Lib.hid (HRR4.out.keep HK9.out (fun x hx hm => by
        have hty := HRR4.out.ty x hx
        rcases List.mem_cons.1 hm with e | e
        · subst e; rcases hty with h | h; exact HNIN.out.1.ne h (by decide) rfl; exact HNIN.out.1.ne h (by decide) rfl
        · have h2 := HNIN.out.2 x (Option.mem_toList.1 e); rcases hty with h | h; exact h2.ne h (by decide) rfl; exact h2.ne h (by decide) rfl))
      have HKW9 : Hid (Keep [] w w3) := Lib.hid (((HKW.out.trans HKA.out).trans HKC.out).then HK9.out (fun x hx hlt => by
        rcases List.mem_cons.1 hx with e | e
        · subst e; have := HBB.out; omega
        · have := (HJ.out.row.lt x (Option.mem_toList.1 e)).1; omega))
      clear h0 h1 h2 h3 h4 h5 h6 h7 h8 h9 h10 h11 h12 h13 h14 h15 h16 h17 h18 h19 kr0 kr1 kq0 kq1 hJ0 hJ1 hR0 hR1 d19 d16 hK hl hJ9 hR9 hJ14 hR14 hY
      generalize w3 = wb at *
      go_wp2_with fail
      go_roundw
      case rel => exact ⟨i + 1, _, by go_num, by have := HLTM.out; omega, by rw [HTK.out]; exact HJ9.out, HLG9.out, HRR9.out, HKW9.out⟩
      case measure => simp only [intOf]; have := HLTM.out; omega
  · obtain rfl : m = i := by omega
    have q0 : decide ((m : Int) < (m : Int)) = false := by simp
    go_wp2_with fail
    go_ret2
    have ht2 : M.take m = M := by rw [HM.out]; exact List.take_length
    refine ⟨jb, lb, vl, v, l, rfl, ⟨by have := HJ.out; rw [ht2] at this; exact this, HBB.out, ⟨_, _, _, _, HLG.out, HNX.out.1, by have := HNX.out.2.1; have := HB.out; omega, by have := HR.out; have := HB.out; omega, by have := HB.out; omega⟩, by rw [HS.out]; exact HTAIL.out, HFEW.out, HSEQ.out⟩, HKW.out⟩
end Go.Proofs.Ytpibpapolcdeiaa
/- journal: two marks; the bundle that the laws use. -/
namespace Go.Proofs.Ytpibpapolcdeiaa
open Go.ChangeShapes Go.WideShapes Go.ChangeAt Go.RowKit
set_option linter.unusedVariables false
set_option linter.unusedSimpArgs false
set_option maxRecDepth 100000

/-- A journal and its device, all newer than w0. -/
structure JS (w0 w : World) (d sb jb frm t : Nat) (L : List Sec) (M : List Mk) : Prop where
  ex : ∃ B lb vl v l c, JOk w B jb lb d frm t vl v l L M ∧ IsDev w d sb L c ∧ c ≤ t ∧ w0.heap.size ≤ B
  room : frm + 160 ≤ L.length
  dl : w0.heap.size ≤ d ∧ w0.heap.size ≤ sb
  keep : Keep [] w0 w
theorem JS.still {w0 w w' : World} {d sb jb frm t : Nat} {L : List Sec} {M : List Mk} (h : JS w0 w d sb jb frm t L M) (k : Keep [] w w') : JS w0 w' d sb jb frm t L M := by
  obtain ⟨B, lb, vl, v, l, c, h1, h2, h3, h4⟩ := h.ex
  exact ⟨⟨B, lb, vl, v, l, c, h1.still k, h2.keep k (by simp) (by simp), h3, h4⟩, h.room, h.dl, h.keep.trans k⟩
theorem JS.len {w0 w : World} {d sb jb frm t : Nat} {L : List Sec} {M : List Mk} (h : JS w0 w d sb jb frm t L M) : M.length ≤ 278 := by
  obtain ⟨B, lb, vl, v, l, c, h1, h2, h3, h4⟩ := h.ex
  exact h1.len
theorem JS.seq_at {w0 w : World} {d sb jb frm t : Nat} {L : List Sec} {M : List Mk} (h : JS w0 w d sb jb frm t L M) : ∀ i a, M[i]? = some a → a.seq = i + 1 := by
  obtain ⟨B, lb, vl, v, l, c, h1, h2, h3, h4⟩ := h.ex
  exact h1.seq
/-- The blocks of one bundle that another one's work does not touch: a list F of blocks newer than w1 that are not the first one's. -/
theorem JS.jdev {w0 w : World} {d sb jb frm t : Nat} {L : List Sec} {M : List Mk} (h : JS w0 w d sb jb frm t L M) : JDev L frm t M := by
  obtain ⟨B, lb, vl, v, l, c, h1, h2, h3, h4⟩ := h.ex
  exact h1.jdev
theorem JS.dev {w0 w : World} {d sb jb frm t : Nat} {L : List Sec} {M : List Mk} (h : JS w0 w d sb jb frm t L M) : ∃ c, IsDev w d sb L c ∧ c ≤ t := by
  obtain ⟨B, lb, vl, v, l, c, h1, h2, h3, h4⟩ := h.ex
  exact ⟨c, h2, h3⟩
theorem JS.seq {w0 w : World} {d sb jb frm t : Nat} {L : List Sec} {M : List Mk} (h : JS w0 w d sb jb frm t L M) :
    Calls Try.prog 13 #[.pointer (some ⟨jb, 0, none⟩)] w fun e w' => e = .returned (.int .i64 (M.length : Int)) ∧ Keep [] w w' := by
  obtain ⟨B, lb, vl, v, l, c, h1, h2, h3, h4⟩ := h.ex
  have := Seq_any h1.at_ (by have := h1.len; omega)
  rw [h1.last] at this
  exact this
theorem JS.base {w0 w : World} {d sb jb frm t : Nat} {L : List Sec} {M : List Mk} (h : JS w0 w d sb jb frm t L M) :
    Calls Try.prog 14 #[.pointer (some ⟨jb, 0, none⟩)] w fun e w' => e = .returned (.int .i64 0) ∧ Keep [] w w' := by
  obtain ⟨B, lb, vl, v, l, c, h1, h2, h3, h4⟩ := h.ex
  have := Base_any h1.at_ (by have := h1.len; omega) h1.seqs
  rw [h1.base] at this
  exact this
theorem JS.since {w0 w : World} {d sb jb frm t : Nat} {L : List Sec} {M : List Mk} (h : JS w0 w d sb jb frm t L M) (s n : Int) (hs : 0 ≤ s ∧ s ≤ M.length) :
    Calls Try.prog 12 #[.pointer (some ⟨jb, 0, none⟩), .int .i64 s, .int .i64 n] w fun e w' => ∃ v', e = .returned (.tuple #[v', .bool true]) ∧ KRow w' w.heap.size v' (sinceK M s n) ∧ Keep [] w w' := by
  obtain ⟨B, lb, vl, v, l, c, h1, h2, h3, h4⟩ := h.ex
  exact Since_ok h1.at_ (by have := h1.len; omega) h1.seqs s n (by rw [h1.base, h1.last]; exact ⟨by simpa using hs.1, hs.2⟩)
theorem JS.sinceBad {w0 w : World} {d sb jb frm t : Nat} {L : List Sec} {M : List Mk} (h : JS w0 w d sb jb frm t L M) (s n : Int) (hs : s < 0 ∨ (M.length : Int) < s) :
    Calls Try.prog 12 #[.pointer (some ⟨jb, 0, none⟩), .int .i64 s, .int .i64 n] w fun e w' => e = .returned (.tuple #[.slice none 0 0, .bool false]) ∧ Keep [] w w' := by
  obtain ⟨B, lb, vl, v, l, c, h1, h2, h3, h4⟩ := h.ex
  exact Since_bad h1.at_ (by have := h1.len; omega) h1.seqs s n (by rw [h1.base, h1.last]; simpa using hs)
/-- What Add of good keys does. -/
theorem JS.add {w0 w : World} {d sb jb frm t : Nat} {L : List Sec} {M : List Mk} (h : JS w0 w d sb jb frm t L M) (ht : t ≤ 1000000000) (kv : Value) (ks : List ByteArray) (hk : Rv w 1 kv ks.length (strs ks)) (hks : ∀ k ∈ ks, 1 ≤ k.size ∧ k.size ≤ 40)
    (hsep : ∀ q, kv.ownBlock = some q → Ty w q 9 ∨ q < w0.heap.size) (hbud : encN (M.map recOf) + keysCost ks ≤ 2225) :
    Calls Try.prog 10 #[.pointer (some ⟨jb, 0, none⟩), kv] w fun e w' => ∃ L' N, e = .returned (.tuple #[.int .i64 ((M.length + ks.length : Nat) : Int), .int .i64 0]) ∧ JS w0 w' d sb jb frm (t + 12 * ks.length + 1) L' (M ++ N) ∧ L'.length = L.length ∧ N.map Mk.key = ks.map kb ∧ encN ((M ++ N).map recOf) ≤ encN (M.map recOf) + keysCost ks ∧ (0 < ks.length → ∃ L0 : List Sec, L' = L0.map flushSec) ∧
      (∀ x, x < w.heap.size → w0.heap.size ≤ x → ∀ T, Ty w x T → T ∉ [47, 70, 53, 61, 75, 76, 80, 57, 5] → w'.heap[x]? = w.heap[x]?) := by
  obtain ⟨B, lb, vl, v, l, c, h1, h2, h3, h4⟩ := h.ex
  have hF : ∀ x ∈ d :: sb :: jF jb lb v vl l, w0.heap.size ≤ x := by
    intro x hx
    rcases List.mem_cons.1 hx with e | hx
    · subst e; exact h.dl.1
    · rcases List.mem_cons.1 hx with e | hx
      · subst e; exact h.dl.2
      · have := (h1.lt x hx).1; omega
  refine (Add_ok h1 h2 h3 ht h.room ks hk hks (fun _ q hq hm => ?_) hbud).mono ?_
  · rcases hsep q hq with hT | hT
    · rcases List.mem_cons.1 hm with e | hm
      · subst e; exact hT.ne h2.dev.ty (by decide) rfl
      · rcases List.mem_cons.1 hm with e | hm
        · subst e; exact hT.ne h2.secs.ty (by decide) rfl
        · exact h1.notT hT (by decide) hm
    · have := hF q hm; omega
  · rintro e w' ⟨vl', v', l', L', c', N, rfl, hA, hfl⟩
    refine ⟨L', N, rfl, ⟨⟨B, lb, vl', v', l', c', hA.ok, hA.dev, hA.cnt, h4⟩, by rw [hA.len]; exact h.room, h.dl, h.keep.then hA.keep (fun x hx hlt => by have := hF x hx; omega)⟩, hA.len, hA.keys, hA.cost, hfl, fun x hx hx0 T hT hn => hA.keep.block x hx (fun hm => ?_)⟩
    simp only [List.mem_cons, List.not_mem_nil, or_false, not_or] at hn
    rcases List.mem_cons.1 hm with e | hm
    · subst e; exact hT.ne h2.dev.ty hn.1 rfl
    · rcases List.mem_cons.1 hm with e | hm
      · subst e; exact hT.ne h2.secs.ty hn.2.1 rfl
      · exact h1.notT hT (by simp only [List.mem_cons, List.not_mem_nil, or_false, not_or]; exact hn.2.2) hm
theorem JS.open_dev {w0 w : World} {d sb c frm t : Nat} {L : List Sec} {M : List Mk} (K : Keep [] w0 w) (hd : IsDev w d sb L c) (hc : c ≤ t) (h : JDev L frm t M) (ht : t ≤ 1000000000) (hlt : frm + 160 ≤ L.length) (hl : w0.heap.size ≤ d ∧ w0.heap.size ≤ sb) :
    Calls Try.prog 9 #[.pointer (some ⟨d, 0, none⟩), .int .i64 (frm : Int), .int .i64 20] w fun e w' => ∃ jb, e = .returned (.tuple #[.pointer (some ⟨jb, 0, none⟩), .int .i64 0]) ∧ JS w0 w' d sb jb frm (t + 70) L M ∧ Keep [] w w' ∧ w.heap.size ≤ jb := by
  refine (JOpen_ok hd h ht hlt).mono ?_
  rintro e w' ⟨jb, lb, vl, v, l, rfl, hJ, hK⟩
  exact ⟨jb, rfl, ⟨⟨w.heap.size, lb, vl, v, l, c, hJ, hd.keep hK (by simp) (by simp), by omega, K.size⟩, hlt, hl, K.trans hK⟩, hK, hJ.new⟩
theorem JDev.new (n frm : Nat) (h : frm + 160 ≤ n) : JDev (List.replicate n zeroSec) frm 1 [] := JDev.fresh (fun i _ _ => nowF_zero n i)
theorem JDev.crash {L : List Sec} {frm t : Nat} {M : List Mk} (h : JDev L frm t M) (hf : ∃ L0 : List Sec, L = L0.map flushSec) (keep : List Bool) (hlt : frm + 160 ≤ L.length) : JDev (crashN L keep L.length) frm t M := by
  obtain ⟨L0, rfl⟩ := hf
  refine h.congr (fun i h1 h2 => ?_) (Nat.le_refl _)
  rw [List.length_map] at hlt
  rw [nowF_crash L0 keep i (by omega), nowF_flush]
set_option maxRecDepth 100000 in
set_option maxHeartbeats 8000000 in
theorem begun10 (w : World) : Calls Try.prog 7 #[] w fun e w' => e = .returned (.bool true) ∧ Keep [] w w' := by
  go_enter Try.func7, Try.ntmps7
  go_wp2_with fail
  refine (New_any 200 200 rfl).mono ?_
  rintro e w1 ⟨d, sb, rfl, hD1, hK1, hb, hsb⟩
  have HO := Lib.hid (JS.open_dev hK1 hD1 (Nat.zero_le _) (JDev.new 200 2 (by decide)) (by decide) (by simp) ⟨hb, hsb⟩)
  clear hD1 hK1 hb hsb
  go_wp2_with fail
  refine HO.out.mono ?_
  rintro e w2 ⟨jb, rfl, hJ2, hK2, _⟩
  have HJ2 := Lib.hid hJ2
  clear hJ2 hK2 HO
  have hA2 : Blk (w2.alloc (.cells #[.string { data := #[97] }, .string { data := #[98] }] 9)) w2.heap.size [.string { data := #[97] }, .string { data := #[98] }] 9 := Blk.new w2 [.string { data := #[97] }, .string { data := #[98] }] _
  have HADD := Lib.hid ((HJ2.out.still ((Keep.refl [] w2).alloc (.cells #[.string { data := #[97] }, .string { data := #[98] }] 9))).add (by decide) (.slice (some ⟨w2.heap.size, 0, none⟩) 2 2) [{ data := #[97] }, { data := #[98] }] (rv_blk hA2 rfl) (by
    intro k hk
    simp only [List.mem_cons, List.not_mem_nil, or_false] at hk
    rcases hk with rfl | rfl <;> decide) (fun q hq => .inl (by
    have e : w2.heap.size = q := Option.some.inj hq
    subst e; exact hA2.ty)) (by decide))
  clear hA2
  go_wp2_with fail
  refine HADD.out.mono ?_
  rintro e w3 ⟨L3, N, rfl, hJ3, hl3, hN, hc3, hf3, _⟩
  rw [List.nil_append] at hJ3
  obtain ⟨a, b, rfl⟩ : ∃ a b, N = [a, b] := by
    have := congrArg List.length hN
    simp at this
    match N, this with
    | [a, b], _ => exact ⟨a, b, rfl⟩
  have HJ3 := Lib.hid hJ3
  have HKA : Hid (a.key = [97] ∧ b.key = [98]) := Lib.hid (by
    have h1 : [a.key, b.key] = [[97], [98]] := hN
    injection h1 with h2 h3
    injection h3 with h4 _
    exact ⟨h2, h4⟩)
  have HSQ : Hid (a.seq = 1 ∧ b.seq = 2) := Lib.hid ⟨hJ3.seq_at 0 a rfl, hJ3.seq_at 1 b rfl⟩
  have HF3 : Hid (∃ L0 : List Sec, L3 = L0.map flushSec) := Lib.hid (hf3 (by decide))
  have HL3 : Hid (L3.length = 200) := Lib.hid (by rw [hl3]; simp)
  have HS3 := Lib.hid (hJ3.since 1 5 ⟨by decide, by simp⟩)
  have hsk : sinceK [a, b] 1 5 = [b] := by
    unfold sinceK
    rw [List.filter_cons_of_neg (by rw [HSQ.out.1]; decide), List.filter_cons_of_pos (by rw [HSQ.out.2]; decide)]
    rfl
  rw [hsk] at HS3
  clear hJ3 hl3 hN hc3 hf3 HADD HJ2 hsk
  rw [show ((([] : List Mk).length + [({ data := #[97] } : ByteArray), { data := #[98] }].length : Nat) : Int) = 2 from rfl]
  go_wp2_with fail
  refine HS3.out.mono ?_
  rintro e w4 ⟨v4, rfl, hR4, hK4⟩
  obtain ⟨g4, gc4, rfl, hc4⟩ := hR4.at_ (by simp)
  obtain ⟨cb0, cb1⟩ := hc4 0 b rfl
  rw [HSQ.out.2] at cb0
  rw [HKA.out.2, show toStr [98] = { data := #[98] } from by decide] at cb1
  rw [show [b].length = 1 from rfl]
  have HJ4 := Lib.hid (HJ3.out.still hK4)
  obtain ⟨c4, hD4, hc4⟩ := HJ4.out.dev
  have HCR := Lib.hid (Crash_any hD4 (.slice none 0 0) [] (Rv.nil _ _) (by decide))
  clear hR4 hK4 hD4 HS3 HJ3
  rw [Nat.zero_mul] at cb0 cb1
  rw [Nat.zero_add] at cb1
  have CB0 := Lib.hid cb0
  have CB1 := Lib.hid cb1
  clear cb0 cb1
  go_wp2_with fail
  refine HCR.out.mono ?_
  rintro e w5 ⟨d5, sb5, rfl, hD5, hK5, hd5, hsb5⟩
  have hws := HJ4.out.keep.size
  have HO5 := Lib.hid (JS.open_dev (HJ4.out.keep.trans hK5) hD5 (Nat.zero_le _) (HJ4.out.jdev.crash HF3.out [] (by rw [HL3.out]; decide)) (by decide) (by rw [crashN_len, HL3.out]; decide) ⟨by omega, by omega⟩)
  have HJ5 := Lib.hid (HJ4.out.still hK5)
  have c50 := hK5.cell1 CB0.out (by simp)
  have c51 := hK5.cell1 CB1.out (by simp)
  have C50 := Lib.hid c50
  have C51 := Lib.hid c51
  clear hD5 hK5 hd5 hsb5 HCR HJ4 hws c50 c51
  go_wp2_with fail
  refine HO5.out.mono ?_
  rintro e w6 ⟨jb6, rfl, hJ6, hK6, _⟩
  have HJ6 := Lib.hid hJ6
  have HJ56 := Lib.hid (HJ5.out.still hK6)
  have c60 := hK6.cell1 C50.out (by simp)
  have c61 := hK6.cell1 C51.out (by simp)
  clear hJ6 hK6 HO5
  have HSE := Lib.hid HJ6.out.seq
  go_wp2_with fail
  refine HSE.out.mono ?_
  rintro e w7 ⟨rfl, hK7⟩
  rw [show (([a, b] : List Mk).length : Int) = 2 from rfl]
  have HBA := Lib.hid (HJ56.out.still hK7).base
  have HK7 := Lib.hid (HJ6.out.keep.trans hK7)
  clear hK7
  go_wp2_with fail
  refine HBA.out.mono ?_
  rintro e w8 ⟨rfl, hK8⟩
  have HK8 := Lib.hid (HK7.out.trans hK8)
  clear hK8
  go_wp2_with fail
  go_ret
  exact ⟨rfl, HK8.out⟩
end Go.Proofs.Ytpibpapolcdeiaa
