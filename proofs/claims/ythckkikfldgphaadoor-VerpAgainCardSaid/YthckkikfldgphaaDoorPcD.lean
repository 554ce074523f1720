/- The pieces of a text between dots, by strings.Index: plain lemmas, no program. -/
import Derived.Test.YthckkikfldgphaaDoorVerpP
import Derived.Lib.IndexMore
namespace Go.Proofs.YthckkikfldgphaaDoor.PcD
open Go.Lib (index indexB)
open Go.Proofs.YthckkikfldgphaaDoor.Aid Go.Proofs.YthckkikfldgphaaDoor.Verp
set_option linter.unusedVariables false
set_option linter.unusedSimpArgs false
theorem pre_iff (c : UInt8) (t : List UInt8) : ([46] : List UInt8).isPrefixOf (c :: t) = true ↔ c = 46 := by
  simp [List.isPrefixOf]
  exact eq_comm
theorem pcd_index : ∀ (l cur : List UInt8), (index l [46] = -1 → pcd cur l = [cur ++ l]) ∧
    (∀ i : Nat, index l [46] = (i : Int) → pcd cur l = (cur ++ l.take i) :: pcd [] (l.drop (i + 1)))
  | [], cur => by
    have e : index [] [46] = -1 := rfl
    refine ⟨fun _ => by simp [pcd], fun i h => ?_⟩
    rw [e] at h
    omega
  | c :: t, cur => by
    by_cases hp : c = 46
    · have hb := (pre_iff c t).2 hp
      have e : index (c :: t) [46] = 0 := by rw [index, if_pos hb]
      refine ⟨fun h => by rw [e] at h; omega, fun i h => ?_⟩
      rw [e] at h
      obtain rfl : i = 0 := by omega
      rw [pcd, if_pos hp]
      simp
    · have hb : ¬ (([46] : List UInt8).isPrefixOf (c :: t) = true) := fun h => hp ((pre_iff c t).1 h)
      obtain ⟨i1, i2⟩ := pcd_index t (cur ++ [c])
      have hg := Go.Lib.index_ge t [46]
      have e : index (c :: t) [46] = if index t [46] == -1 then -1 else index t [46] + 1 := by
        conv => lhs; rw [index, if_neg hb]
      by_cases hx : index t [46] = -1
      · rw [if_pos (by rw [hx]; rfl)] at e
        refine ⟨fun _ => by rw [pcd, if_neg hp, i1 hx]; simp, fun i h => by rw [e] at h; omega⟩
      · rw [if_neg (by simpa using hx)] at e
        refine ⟨fun h => by rw [e] at h; omega, fun i h => ?_⟩
        rw [e] at h
        obtain ⟨j, rfl⟩ : ∃ j, i = j + 1 := ⟨i - 1, by omega⟩
        have hj : index t [46] = (j : Int) := by omega
        rw [pcd, if_neg hp, i2 j hj]
        simp
def pcs (l : List UInt8) : List (List UInt8) := pcd [] l
theorem pcs_miss (l : List UInt8) (h : index l [46] = -1) : pcs l = [l] := by
  unfold pcs
  rw [(pcd_index l []).1 h]
  rfl
theorem pcs_hit (l : List UInt8) (i : Nat) (h : index l [46] = (i : Int)) : pcs l = l.take i :: pcs (l.drop (i + 1)) := by
  unfold pcs
  rw [(pcd_index l []).2 i h]
  rfl
theorem pcs_size : ∀ (n : Nat) (l : List UInt8), l.length ≤ n → (∀ x ∈ pcs l, x.length ≤ l.length) ∧ (pcs l).length ≤ l.length + 1
  | n, l, hn => by
    rcases Go.Lib.index_spec l [46] with ⟨hx, _⟩ | ⟨i, hx, hi, _⟩
    · rw [pcs_miss l hx]
      simp
    · have hr := Go.Lib.index_room l [46] (by omega)
      rw [hx] at hr
      simp only [List.length_cons, List.length_nil] at hr
      cases n with
      | zero => omega
      | succ n =>
        have hd : (l.drop (i + 1)).length = l.length - (i + 1) := List.length_drop
        obtain ⟨h1, h2⟩ := pcs_size n (l.drop (i + 1)) (by omega)
        rw [pcs_hit l i hx]
        refine ⟨fun x hx2 => ?_, by rw [List.length_cons]; omega⟩
        rcases List.mem_cons.1 hx2 with rfl | hx2
        · rw [List.length_take]; omega
        · have := h1 x hx2; omega
end Go.Proofs.YthckkikfldgphaaDoor.PcD
