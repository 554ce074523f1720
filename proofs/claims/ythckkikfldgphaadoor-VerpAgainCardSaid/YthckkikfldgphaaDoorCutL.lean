/- Plain lemmas on what strings.Cut and strings.Trim tell: no program. -/
import Derived.Test.YthckkikfldgphaaDoorAid
import Derived.Lib.IndexMore
import Derived.Lib.TrimByte
namespace Go.Proofs.YthckkikfldgphaaDoor.CutL
open Go.Lib (cut index trimB trimLeftB trimRightB)
set_option linter.unusedVariables false
set_option linter.unusedSimpArgs false
theorem cut_nil (sep : List UInt8) (h : sep ≠ []) : cut [] sep = ([], [], false) := by
  unfold cut index
  have : sep.isEmpty = false := by cases sep <;> simp_all
  rw [this]
  rfl
theorem cut_hit (b : UInt8) (l sep : List UInt8) (h : sep.isPrefixOf (b :: l) = true) : cut (b :: l) sep = ([], (b :: l).drop sep.length, true) := by
  have e : index (b :: l) sep = 0 := by unfold index; rw [if_pos h]
  unfold cut
  rw [e, if_pos (by omega)]
  simp
theorem cut_miss (b : UInt8) (l sep : List UInt8) (h : sep.isPrefixOf (b :: l) = false) : cut (b :: l) sep = (b :: (cut l sep).1, (cut l sep).2.1, (cut l sep).2.2) := by
  have e : index (b :: l) sep = if index l sep == -1 then -1 else index l sep + 1 := by
    conv => lhs; unfold index
    rw [if_neg (by rw [h]; simp)]
  have hg := Go.Lib.index_ge l sep
  by_cases hm : index l sep = -1
  · have e2 : index (b :: l) sep = -1 := by rw [e, hm]; rfl
    unfold cut
    rw [e2, hm]
    rfl
  · have hb : ¬ ((index l sep == -1) = true) := by simpa using hm
    rw [if_neg hb] at e
    unfold cut
    rw [e, if_pos (by omega), if_pos (by omega)]
    obtain ⟨n, hn⟩ : ∃ n : Nat, index l sep = (n : Int) := ⟨(index l sep).toNat, by omega⟩
    rw [hn, show ((n : Int) + 1).toNat = n + 1 from by omega, Int.toNat_natCast, List.take_succ_cons, show n + 1 + sep.length = (n + sep.length) + 1 from by omega, List.drop_succ_cons]
theorem cut_len (l sep : List UInt8) (hs : sep ≠ []) : (cut l sep).1.length ≤ l.length ∧ (cut l sep).2.1.length ≤ l.length := by
  induction l with
  | nil => rw [cut_nil sep hs]; simp
  | cons b l ih =>
    cases h : sep.isPrefixOf (b :: l) with
    | true => rw [cut_hit b l sep h]; simp
    | false => rw [cut_miss b l sep h]; simp only [List.length_cons]; omega
/-- up to the first one, and from it on -/
theorem cut_one (c : UInt8) (l : List UInt8) : cut l [c] = (l.takeWhile (fun b => !(b == c)), (l.dropWhile (fun b => !(b == c))).drop 1, l.any (fun b => b == c)) := by
  induction l with
  | nil => exact cut_nil [c] (by simp)
  | cons b l ih =>
    by_cases h : b = c
    · subst h
      rw [cut_hit b l [b] (by simp [List.isPrefixOf])]
      simp [List.takeWhile_cons, List.dropWhile_cons]
    · have h2 : (b == c) = false := by simpa using h
      rw [cut_miss b l [c] (by simp only [List.isPrefixOf, Bool.and_true]; simpa using fun e => h e.symm), ih]
      simp [List.takeWhile_cons, List.dropWhile_cons, h2]
end Go.Proofs.YthckkikfldgphaaDoor.CutL
