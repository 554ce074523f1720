/- The lines of a text: what the reference's printed function tells. -/
import Derived.Test.YtpolfnckbfdhgaaXDot
import Derived.Test.YtpolfnckbfdhgaaAid
namespace Go.Proofs.Ytpolfnckbfdhgaa.SpL
open Go.RowKit Go.Proofs.Ytpolfnckbfdhgaa.X Go.Proofs.YtpolfnckbfdhgaaW.PrintWords Go.Proofs.YtpolfnckbfdhgaaW.PrintLast Go.Proofs.YtpolfnckbfdhgaaW.PrintMore Go.Proofs.Ytpolfnckbfdhgaa.Aid
set_option linter.unusedVariables false
set_option linter.unusedSimpArgs false
/-- whole lines, and what is left -/
def sp : List UInt8 → List UInt8 → List (List UInt8) × List UInt8
  | cur, [] => ([], cur)
  | cur, [c] => ([], cur ++ [c])
  | cur, c :: d :: t => if c = 13 ∧ d = 10 then (cur :: (sp [] t).1, (sp [] t).2) else sp (cur ++ [c]) (d :: t)
theorem sp_hit (cur t : List UInt8) : sp cur (13 :: 10 :: t) = (cur :: (sp [] t).1, (sp [] t).2) := by
  rw [sp, if_pos ⟨rfl, rfl⟩]
theorem sp_miss (cur : List UInt8) (c : UInt8) (t : List UInt8) (h : ∀ u, c :: t ≠ 13 :: 10 :: u) : sp cur (c :: t) = sp (cur ++ [c]) t := by
  cases t with
  | nil => rw [sp, sp]
  | cons d t =>
    rw [sp, if_neg]
    rintro ⟨rfl, rfl⟩
    exact h t rfl
theorem sp_count (n : Nat) : ∀ l cur : List UInt8, l.length ≤ n → (sp cur l).1.length ≤ l.length := by
  induction n with
  | zero =>
    intro l cur h
    rw [List.length_eq_zero_iff.1 (by omega : l.length = 0), sp]
    simp
  | succ n ih =>
    intro l cur h
    cases l with
    | nil => rw [sp]; simp
    | cons c t =>
      by_cases hp : ∃ u, c :: t = 13 :: 10 :: u
      · obtain ⟨u, e⟩ := hp
        rw [e, sp_hit]
        rw [e] at h
        have := ih u [] (by simp at h; omega)
        simp only [List.length_cons] at h ⊢
        omega
      · rw [sp_miss cur c t (fun u e => hp ⟨u, e⟩)]
        have := ih t (cur ++ [c]) (by simpa using h)
        simp only [List.length_cons]
        omega
/-- each line, and what is left, has no more bytes than all -/
theorem sp_size (n : Nat) : ∀ l cur : List UInt8, l.length ≤ n → (∀ x ∈ (sp cur l).1, x.length ≤ cur.length + l.length) ∧ (sp cur l).2.length ≤ cur.length + l.length := by
  induction n with
  | zero =>
    intro l cur h
    rw [List.length_eq_zero_iff.1 (by omega : l.length = 0), sp]
    simp
  | succ n ih =>
    intro l cur h
    cases l with
    | nil => rw [sp]; simp
    | cons c t =>
      by_cases hp : ∃ u, c :: t = 13 :: 10 :: u
      · obtain ⟨u, e⟩ := hp
        rw [e, sp_hit]
        rw [e] at h
        obtain ⟨i1, i2⟩ := ih u [] (by simp at h; omega)
        simp only [List.length_cons, List.length_nil] at h i1 i2 ⊢
        refine ⟨fun x hx => ?_, by omega⟩
        rcases List.mem_cons.1 hx with rfl | hx
        · omega
        · have := i1 x hx; omega
      · rw [sp_miss cur c t (fun u e => hp ⟨u, e⟩)]
        obtain ⟨i1, i2⟩ := ih t (cur ++ [c]) (by simpa using h)
        simp only [List.length_append, List.length_cons, List.length_nil] at i1 i2 ⊢
        refine ⟨fun x hx => ?_, by omega⟩
        have := i1 x hx
        omega
theorem ext1 (s : ByteArray) (i : Nat) (h : i < (L s).length) : s.extract ((i : Nat) : Int).toNat ((i + 1 : Nat) : Int).toNat = S [(L s)[i]] := by
  apply L_inj
  rw [L_ext, L_S]
  show ((L s).take (i + 1)).drop i = _
  rw [List.take_add_one, List.drop_append_of_le_length (by rw [List.length_take]; omega), List.drop_eq_nil_of_le (by rw [List.length_take]; omega), List.getElem?_eq_getElem h]
  rfl
theorem zS (l : List UInt8) : (S l).size = l.length := by rw [sz, L_S]
theorem lines_l0 (s : ByteArray) (hs : (L s).length ≤ 1000000000) (d : Nat) : ∀ (i : Nat) (acc : List ByteArray) (cur : List UInt8), i ≤ (L s).length → (L s).length - i ≤ d → acc.length ≤ i → cur.length ≤ i →
    Ev (fun k => bulletinref17_Lines.l0 k s acc (S cur) (i : Int)) (acc ++ (sp cur ((L s).drop i)).1.map S ++ [S (sp cur ((L s).drop i)).2]) := by
  induction d with
  | zero =>
    intro i acc cur hi hd ha hc
    refine up ?_
    simp only [bulletinref17_Lines.l0]
    refine neg (by rw [sz]; omega) (pos (by omega) (now' ?_))
    rw [List.drop_eq_nil_of_le (by omega), sp]
    simp
  | succ d ih =>
    intro i acc cur hi hd ha hc
    by_cases hil : i < (L s).length
    case neg =>
      refine up ?_
      simp only [bulletinref17_Lines.l0]
      refine neg (by rw [sz]; omega) (pos (by omega) (now' ?_))
      rw [List.drop_eq_nil_of_le (by omega), sp]
      simp
    have hz := zS cur
    have z1 : (S [(L s)[i]]).size = 1 := rfl
    have ss := sz s
    refine up ?_
    simp only [bulletinref17_Lines.l0]
    refine pos (by omega) (pos (by omega) ?_)
    rw [btn s i hil, wi i (by omega), ext1 s i hil]
    have other : (∀ u, (L s).drop i ≠ 13 :: 10 :: u) → Ev (fun k => (if (i : Int) ≤ ((i + 1 : Nat) : Int) then (if ((i + 1 : Nat) : Int) ≤ (s.size : Int) then (if (S cur).size + (S [(L s)[i]]).size ≤ 9223372036854775807 then (bulletinref17_Lines.l0 k s acc (S cur ++ S [(L s)[i]]) ((i + 1 : Nat) : Int)) else (none)) else (none)) else (none))) (acc ++ (sp cur ((L s).drop i)).1.map S ++ [S (sp cur ((L s).drop i)).2]) := by
      intro h
      rw [List.drop_eq_getElem_cons hil] at h ⊢
      rw [sp_miss cur _ _ h, S_app]
      refine pos (by omega) (pos (by omega) (pos (by omega) ?_))
      exact ih (i + 1) acc (cur ++ [(L s)[i]]) (by omega) (by omega) (by omega) (by simp; omega)
    by_cases h13 : (L s)[i] = 13
    · refine pos (by rw [h13]; rfl) ?_
      by_cases hi1 : i + 1 < (L s).length
      · refine pos (by omega) (pos (by omega) ?_)
        rw [btn s (i + 1) hi1, wi (i + 1) (by omega)]
        have hdr : (L s).drop i = (L s)[i] :: (L s)[i + 1] :: (L s).drop (i + 2) := by rw [List.drop_eq_getElem_cons hil, List.drop_eq_getElem_cons hi1]
        by_cases h10 : (L s)[i + 1] = 10
        · refine pos (by rw [h10]; rfl) (pos (by omega) ?_)
          rw [hdr, h13, h10, sp_hit]
          have := ih (i + 2) (acc ++ [S cur]) [] (by omega) (by omega) (by simp; omega) (by simp)
          simp only [List.map_cons, List.append_assoc, List.cons_append, List.nil_append] at this ⊢
          exact this
        · refine neg (fun e => h10 (u8i (d := 10) e)) (other ?_)
          intro u e
          rw [hdr] at e
          exact h10 (List.cons.inj (List.cons.inj e).2).1
      · refine neg (by omega) (other ?_)
        intro u e
        have := congrArg List.length e
        rw [List.length_drop] at this
        simp only [List.length_cons] at this
        omega
    · refine neg (fun e => h13 (u8i (d := 13) e)) (other ?_)
      intro u e
      rw [List.drop_eq_getElem_cons hil] at e
      exact h13 (List.cons.inj e).1
theorem lines_ev (s : ByteArray) (hs : (L s).length ≤ 1000000000) : Ev (fun k => bulletinref17_Lines.f k s) ((sp [] (L s)).1.map S ++ [S (sp [] (L s)).2]) := by
  have := lines_l0 s hs (L s).length 0 [] [] (by omega) (by omega) (by simp) (by simp)
  rw [List.drop_zero, List.nil_append] at this
  exact this
end Go.Proofs.Ytpolfnckbfdhgaa.SpL
