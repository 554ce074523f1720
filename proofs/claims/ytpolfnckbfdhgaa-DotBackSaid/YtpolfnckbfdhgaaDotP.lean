/- dot: what stuffing makes, from the lines of a text: no program. -/
import Derived.Test.YtpolfnckbfdhgaaSpL
import Derived.Test.YtpolfnckbfdhgaaCutL
namespace Go.Proofs.Ytpolfnckbfdhgaa.Dot
open Go.Proofs.Ytpolfnckbfdhgaa.SpL Go.Proofs.Ytpolfnckbfdhgaa.CutL Go.Lib
set_option linter.unusedVariables false
set_option linter.unusedSimpArgs false
def dotl (x : List UInt8) : List UInt8 := (if hasPrefix x [46] = true then [46] else []) ++ (x ++ [13, 10])
/-- the lines, with what is left behind the last end as one of its own, if it is no empty one -/
def full (l : List UInt8) : List (List UInt8) := (sp [] l).1 ++ (if (sp [] l).2 = [] then [] else [(sp [] l).2])
def stuffL (l : List UInt8) : List UInt8 := (full l).flatMap dotl ++ [46, 13, 10]
theorem pre_hit (u : List UInt8) : ([13, 10] : List UInt8).isPrefixOf (13 :: 10 :: u) = true := by simp [List.isPrefixOf]
theorem pre_miss (c : UInt8) (t : List UInt8) (h : ∀ u, c :: t ≠ 13 :: 10 :: u) : ([13, 10] : List UInt8).isPrefixOf (c :: t) = false := by
  cases t with
  | nil => simp [List.isPrefixOf]
  | cons d t =>
    cases e : ([13, 10] : List UInt8).isPrefixOf (c :: d :: t) with
    | false => rfl
    | true =>
      simp only [List.isPrefixOf, Bool.and_true, Bool.and_eq_true, beq_iff_eq] at e
      exact absurd (by rw [← e.1, ← e.2]) (h t)
theorem sp_cut : ∀ (n : Nat) (l cur : List UInt8), l.length ≤ n → ((cut l [13, 10]).2.2 = true → sp cur l = ((cur ++ (cut l [13, 10]).1) :: (sp [] (cut l [13, 10]).2.1).1, (sp [] (cut l [13, 10]).2.1).2) ∧ (cut l [13, 10]).1.length + 2 + (cut l [13, 10]).2.1.length = l.length) ∧ ((cut l [13, 10]).2.2 = false → sp cur l = ([], cur ++ l)) := by
  intro n
  induction n with
  | zero =>
    intro l cur h
    rw [List.length_eq_zero_iff.1 (by omega : l.length = 0), cut_nil _ (by simp)]
    exact ⟨(fun h => absurd h (by simp)), (fun _ => by rw [sp]; simp)⟩
  | succ n ih =>
    intro l cur h
    cases l with
    | nil =>
      rw [cut_nil _ (by simp)]
      exact ⟨(fun h => absurd h (by simp)), (fun _ => by rw [sp]; simp)⟩
    | cons c t =>
      by_cases hp : ∃ u, c :: t = 13 :: 10 :: u
      · obtain ⟨u, e⟩ := hp
        rw [e, cut_hit _ _ _ (pre_hit u)]
        refine ⟨fun _ => ⟨?_, ?_⟩, (fun h => absurd h (by simp))⟩
        · rw [sp_hit]; simp
        · simp; omega
      · have hm := fun u e => hp ⟨u, e⟩
        rw [cut_miss _ _ _ (pre_miss c t hm), sp_miss cur c t hm]
        obtain ⟨i1, i2⟩ := ih t (cur ++ [c]) (by simpa using h)
        refine ⟨fun h => ?_, fun h => ?_⟩
        · obtain ⟨j1, j2⟩ := i1 h
          refine ⟨by rw [j1]; simp, by simp only [List.length_cons]; omega⟩
        · rw [i2 h]; simp
theorem sp_app : ∀ (n : Nat) (l cur : List UInt8), l.length ≤ n → sp cur (l ++ [13, 10]) = ((sp cur l).1 ++ [(sp cur l).2], []) := by
  intro n
  induction n with
  | zero =>
    intro l cur h
    rw [List.length_eq_zero_iff.1 (by omega : l.length = 0), List.nil_append, sp_hit]
    simp [sp]
  | succ n ih =>
    intro l cur h
    cases l with
    | nil => rw [List.nil_append, sp_hit]; simp [sp]
    | cons c t =>
      by_cases hp : ∃ u, c :: t = 13 :: 10 :: u
      · obtain ⟨u, e⟩ := hp
        rw [e, sp_hit]
        rw [e] at h
        have := ih u [] (by simp at h; omega)
        simp only [List.cons_append]
        rw [sp_hit, this]
      · have hm := fun u e => hp ⟨u, e⟩
        have hm2 : ∀ u, c :: (t ++ [13, 10]) ≠ 13 :: 10 :: u := by
          intro u e
          cases t with
          | nil => simp at e
          | cons d t =>
            simp only [List.cons_append, List.cons.injEq] at e
            exact hp ⟨t, by rw [e.1, e.2.1]⟩
        rw [List.cons_append, sp_miss cur c _ hm2, sp_miss cur c t hm]
        exact ih t (cur ++ [c]) (by simpa using h)
theorem sp_last : ∀ (n : Nat) (l cur : List UInt8), l.length ≤ n → (sp cur l).2 = [] → (cur ≠ [] ∨ l ≠ []) → ∃ l', l = l' ++ [13, 10] := by
  intro n
  induction n with
  | zero =>
    intro l cur h hs hc
    rw [List.length_eq_zero_iff.1 (by omega : l.length = 0)] at hs hc
    rw [sp] at hs
    exact absurd hs (hc.resolve_right (by simp))
  | succ n ih =>
    intro l cur h hs hc
    cases l with
    | nil => rw [sp] at hs; exact absurd hs (hc.resolve_right (by simp))
    | cons c t =>
      by_cases hp : ∃ u, c :: t = 13 :: 10 :: u
      · obtain ⟨u, e⟩ := hp
        rw [e] at h hs ⊢
        rw [sp_hit] at hs
        by_cases hu : u = []
        · exact ⟨[], by rw [hu]; rfl⟩
        · obtain ⟨l', e'⟩ := ih u [] (by simp at h; omega) hs (.inr hu)
          exact ⟨13 :: 10 :: l', by rw [e']; rfl⟩
      · have hm := fun u e => hp ⟨u, e⟩
        rw [sp_miss cur c t hm] at hs
        obtain ⟨l', e'⟩ := ih t (cur ++ [c]) (by simpa using h) hs (.inl (by simp))
        exact ⟨c :: l', by rw [e']; rfl⟩
theorem suffix_iff (l : List UInt8) : hasSuffix l [13, 10] = true ↔ ∃ l', l = l' ++ [13, 10] := by
  unfold hasSuffix
  constructor
  · intro h
    obtain ⟨t, e⟩ := List.isSuffixOf_iff_suffix.1 h
    exact ⟨t, e.symm⟩
  · rintro ⟨l', e⟩
    exact List.isSuffixOf_iff_suffix.2 ⟨l', e.symm⟩
/-- the text with an end behind it -/
def norm (l : List UInt8) : List UInt8 := if l ≠ [] ∧ hasSuffix l [13, 10] = false then l ++ [13, 10] else l
theorem sp_norm (l : List UInt8) : sp [] (norm l) = (full l, []) := by
  unfold norm full
  by_cases h : l ≠ [] ∧ hasSuffix l [13, 10] = false
  · rw [if_pos h, sp_app l.length l [] (Nat.le_refl _)]
    by_cases h2 : (sp [] l).2 = []
    · have h3 := (suffix_iff l).2 (sp_last l.length l [] (Nat.le_refl _) h2 (.inr h.1))
      rw [h.2] at h3; cases h3
    · rw [if_neg h2]
  · rw [if_neg h]
    have h2 : (sp [] l).2 = [] := by
      by_cases hl : l = []
      · rw [hl, sp]
      · have h3 : hasSuffix l [13, 10] = true := by
          cases e : hasSuffix l [13, 10] with
          | true => rfl
          | false => exact absurd ⟨hl, e⟩ h
        obtain ⟨l', e⟩ := (suffix_iff l).1 h3
        rw [e, sp_app l'.length l' [] (Nat.le_refl _)]
    rw [if_pos h2, List.append_nil]
    exact Prod.ext rfl h2
theorem norm_len (l : List UInt8) : (norm l).length ≤ l.length + 2 := by
  unfold norm
  split <;> simp
/-- a round of the loop -/
theorem sp_round (l : List UInt8) (ls : List (List UInt8)) (h : sp [] l = (ls, [])) (hl : l ≠ []) :
    ls = (cut l [13, 10]).1 :: (sp [] (cut l [13, 10]).2.1).1 ∧ (sp [] (cut l [13, 10]).2.1).2 = [] ∧ (cut l [13, 10]).1.length + 2 + (cut l [13, 10]).2.1.length = l.length := by
  obtain ⟨i1, i2⟩ := sp_cut l.length l [] (Nat.le_refl _)
  cases e : (cut l [13, 10]).2.2 with
  | true =>
    obtain ⟨j1, j2⟩ := i1 e
    rw [h] at j1
    have e1 := congrArg Prod.fst j1
    have e2 := congrArg Prod.snd j1
    simp only [List.nil_append] at e1 e2
    exact ⟨e1, e2.symm, j2⟩
  | false =>
    have j := i2 e
    rw [h] at j
    have e2 := congrArg Prod.snd j
    simp only [List.nil_append] at e2
    exact absurd e2.symm hl
theorem dotl_len (x : List UInt8) : (dotl x).length ≤ x.length + 3 := by
  unfold dotl
  split <;> simp
end Go.Proofs.Ytpolfnckbfdhgaa.Dot
