/- The contracts of the reference's Put, PutText, of the laws' Cut; a text off its bytes. -/
import Derived.Test.YtonghelcfbjknaaNumText
namespace Go.Proofs.Ytonghelcfbjknaa
open Go.ChangeShapes Go.WideShapes Go.ChangeAt Go.RowKit
set_option linter.unusedVariables false
set_option linter.unusedSimpArgs false

/-- A text that is not too long. -/
def cutStr (s : ByteArray) (n : Nat) : ByteArray := if n < s.size then s.extract 0 n else s
theorem cutStr_size (s : ByteArray) (n : Nat) : (cutStr s n).size ≤ n := by
  unfold cutStr; split
  · simp; omega
  · omega
theorem Cut_any {w : World} (s : ByteArray) (n : Nat) (hs : s.size ≤ 9223372036854775807) (hn : n ≤ 1000000) :
    Calls Try.prog 18 #[.string s, .int .i64 n] w fun e w' => e = .returned (.string (cutStr s n)) ∧ w = w' := by
  by_cases h : n < s.size
  · have q1 : (n : Int) < s.size := by omega
    go_enter Try.func18, Try.ntmps18
    go_wp2_with fail
    go_ret
    exact ⟨by unfold cutStr; rw [if_pos h]; rfl, rfl⟩
  · have q1 : ¬ (n : Int) < s.size := by omega
    go_enter Try.func18, Try.ntmps18
    go_wp2_with fail
    go_ret
    exact ⟨by unfold cutStr; rw [if_neg h]; rfl, rfl⟩

theorem toStr_sb (t : ByteArray) : toStr (sb t) = t := by
  unfold toStr sb
  have e : (t.data.toList.map UInt8.toNat).map UInt8.ofNat = t.data.toList := by
    rw [List.map_map]
    conv => rhs; rw [← List.map_id t.data.toList]
    apply List.map_congr_left
    intro c _
    simp
  rw [e]
theorem getText_putText (t : ByteArray) (ht : t.size ≤ 65536) (r : List Nat) : getText (putText t ++ r) = (sb t, (putText t).length, 0) := by
  have hl : (putText t).length = (leb (zz (t.size : Int))).length + t.size := by unfold putText; rw [List.length_append, sb_length]
  unfold getText
  have hg : get (putText t ++ r) = ((t.size : Int), (leb (zz (t.size : Int))).length, 0) := by
    unfold putText
    rw [List.append_assoc]
    exact get_leb _ (by omega) (by omega) _
  rw [hg]
  simp only [ne_eq, not_true_eq_false, if_false]
  rw [if_neg (by omega), if_neg (by rw [List.length_append]; omega)]
  have e : (putText t ++ r).drop (leb (zz (t.size : Int))).length = sb t ++ r := by
    unfold putText
    rw [List.append_assoc, List.drop_append, Nat.sub_self, List.drop_zero, List.drop_of_length_le (Nat.le_refl _), List.nil_append]
  rw [e, Int.toNat_natCast, hl]
  congr 1
  rw [List.take_append_of_le_length (by rw [sb_length]; omega), List.take_of_length_le (by rw [sb_length]; omega)]
end Go.Proofs.Ytonghelcfbjknaa
