/- The pieces of a text between ends (13, 10), by strings.Index, by strings.Split and by the reference's way: plain lemmas, no program. -/
import Derived.Test.YtaflpmpffppfaaaDoorAid
import Derived.Lib.IndexMore
import Derived.Lib.SplitLaws
namespace Go.Proofs.YtaflpmpffppfaaaDoor.PcL
open Go.Lib (index indexB splitB countB)
open Go.Proofs.YtaflpmpffppfaaaDoor.Aid
set_option linter.unusedVariables false
set_option linter.unusedSimpArgs false
/-- whole lines, and what is left -/
def sp : List UInt8 → List UInt8 → List (List UInt8) × List UInt8
  | cur, [] => ([], cur)
  | cur, [c] => ([], cur ++ [c])
  | cur, c :: d :: t => if c = 13 ∧ d = 10 then (cur :: (sp [] t).1, (sp [] t).2) else sp (cur ++ [c]) (d :: t)
theorem sp_hit (cur t : List UInt8) : sp cur (13 :: 10 :: t) = (cur :: (sp [] t).1, (sp [] t).2) := by
  rw [sp, if_pos ⟨rfl, rfl⟩]
theorem sp_miss (cur : List UInt8) (c : UInt8) (t : List UInt8) (h : ∀ u, c :: t ≠ 13 :: 10 :: u) : sp cur (c :: t) = sp (cur ++ [c]) t := by
  cases t with
  | nil => rw [sp, sp]
  | cons d t =>
    rw [sp, if_neg]
    rintro ⟨rfl, rfl⟩
    exact h t rfl
/-- the pieces -/
def pcs (l : List UInt8) : List (List UInt8) := (sp [] l).1 ++ [(sp [] l).2]
theorem pre_iff (c : UInt8) (t : List UInt8) : ([13, 10] : List UInt8).isPrefixOf (c :: t) = true ↔ ∃ u, c :: t = 13 :: 10 :: u := by
  rw [List.isPrefixOf_iff_prefix]
  constructor
  · rintro ⟨u, h⟩
    exact ⟨u, h.symm⟩
  · rintro ⟨u, h⟩
    exact ⟨u, h.symm⟩
theorem sp_index : ∀ (l cur : List UInt8), (index l [13, 10] = -1 → sp cur l = ([], cur ++ l)) ∧
    (∀ i : Nat, index l [13, 10] = (i : Int) → sp cur l = ((cur ++ l.take i) :: (sp [] (l.drop (i + 2))).1, (sp [] (l.drop (i + 2))).2))
  | [], cur => by
    have e : index [] [13, 10] = -1 := rfl
    refine ⟨fun _ => by simp [sp], fun i h => ?_⟩
    rw [e] at h
    omega
  | c :: t, cur => by
    by_cases hp : ∃ u, c :: t = 13 :: 10 :: u
    · have hb := (pre_iff c t).2 hp
      have e : index (c :: t) [13, 10] = 0 := by rw [index, if_pos hb]
      refine ⟨fun h => by rw [e] at h; omega, fun i h => ?_⟩
      rw [e] at h
      obtain rfl : i = 0 := by omega
      obtain ⟨u, hu⟩ := hp
      rw [hu, sp_hit]
      simp
    · have hb : ¬ (([13, 10] : List UInt8).isPrefixOf (c :: t) = true) := fun h => hp ((pre_iff c t).1 h)
      have hm := sp_miss cur c t (fun u e => hp ⟨u, e⟩)
      obtain ⟨i1, i2⟩ := sp_index t (cur ++ [c])
      have hg := Go.Lib.index_ge t [13, 10]
      have e : index (c :: t) [13, 10] = if index t [13, 10] == -1 then -1 else index t [13, 10] + 1 := by
        conv => lhs; rw [index, if_neg hb]
      by_cases hx : index t [13, 10] = -1
      · rw [if_pos (by rw [hx]; rfl)] at e
        refine ⟨fun _ => by rw [hm, i1 hx]; simp, fun i h => by rw [e] at h; omega⟩
      · rw [if_neg (by simpa using hx)] at e
        refine ⟨fun h => by rw [e] at h; omega, fun i h => ?_⟩
        rw [e] at h
        obtain ⟨j, rfl⟩ : ∃ j, i = j + 1 := ⟨i - 1, by omega⟩
        have hj : index t [13, 10] = (j : Int) := by omega
        rw [hm, i2 j hj]
        simp
theorem pcs_miss (l : List UInt8) (h : index l [13, 10] = -1) : pcs l = [l] := by
  unfold pcs
  rw [(sp_index l []).1 h]
  simp
theorem pcs_hit (l : List UInt8) (i : Nat) (h : index l [13, 10] = (i : Int)) : pcs l = l.take i :: pcs (l.drop (i + 2)) := by
  unfold pcs
  rw [(sp_index l []).2 i h]
  simp
theorem pcs_ne (l : List UInt8) : pcs l ≠ [] := by unfold pcs; simp
theorem crlf_data : (⟨#[13, 10]⟩ : ByteArray).data.toList = [13, 10] := rfl
/-- what strings.Split tells -/
theorem split_pcs : ∀ (n : Nat) (s : ByteArray), s.size ≤ n → splitB (⟨#[13, 10]⟩ : ByteArray) 0 (countB s ⟨#[13, 10]⟩) s = (pcs (L s)).map S
  | n, s, hn => by
    rcases Go.Lib.indexB_cases s ⟨#[13, 10]⟩ with hix | ⟨i, hix, hroom⟩
    · have h : index (L s) [13, 10] = -1 := hix
      rw [Go.Lib.splitB_miss _ _ _ _ hix, pcs_miss _ h]
      simp [S_L]
    · have h : index (L s) [13, 10] = (i : Int) := hix
      have hsz : (⟨#[13, 10]⟩ : ByteArray).size = 2 := rfl
      rw [hsz] at hroom
      cases n with
      | zero => omega
      | succ n =>
        rw [Go.Lib.countB_hit s ⟨#[13, 10]⟩ i (by decide) hix, Nat.add_comm, Go.Lib.splitB_hit _ _ _ _ i hix, hsz, pcs_hit _ i h]
        have hz : (s.extract (i + 2) s.size).size ≤ n := by rw [ByteArray.size_extract]; omega
        rw [split_pcs n _ hz, L_to_end]
        simp only [Nat.add_zero, List.map_cons]
        congr 1
        apply L_inj
        rw [L_from_start, L_S]
theorem pcs_size : ∀ (n : Nat) (l : List UInt8), l.length ≤ n → (∀ x ∈ pcs l, x.length ≤ l.length) ∧ (pcs l).length ≤ l.length + 1
  | n, l, hn => by
    rcases Go.Lib.index_spec l [13, 10] with ⟨hx, _⟩ | ⟨i, hx, hi, _⟩
    · rw [pcs_miss l hx]
      simp
    · have hr := Go.Lib.index_room l [13, 10] (by omega)
      rw [hx] at hr
      simp only [List.length_cons, List.length_nil] at hr
      cases n with
      | zero => omega
      | succ n =>
        have hd : (l.drop (i + 2)).length = l.length - (i + 2) := List.length_drop
        obtain ⟨h1, h2⟩ := pcs_size n (l.drop (i + 2)) (by omega)
        rw [pcs_hit l i hx]
        refine ⟨fun x hx2 => ?_, by rw [List.length_cons]; omega⟩
        rcases List.mem_cons.1 hx2 with rfl | hx2
        · rw [List.length_take]; omega
        · have := h1 x hx2; omega
end Go.Proofs.YtaflpmpffppfaaaDoor.PcL
