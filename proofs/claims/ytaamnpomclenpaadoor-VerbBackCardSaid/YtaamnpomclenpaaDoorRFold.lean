/- The reference's Fold: what the printed function tells. -/
import Derived.Test.YtaamnpomclenpaaDoorGFold
namespace Go.Proofs.YtaamnpomclenpaaDoor.Glyph
open Go.RowKit Go.Proofs.YtaamnpomclenpaaDoor.X Go.Proofs.YtaamnpomclenpaaDoorW.PrintWords Go.Proofs.YtaamnpomclenpaaDoorW.PrintLast Go.Proofs.YtaamnpomclenpaaDoorW.PrintMore Go.Proofs.YtaamnpomclenpaaDoor.Aid
set_option linter.unusedVariables false
set_option linter.unusedSimpArgs false
theorem ext1 (s : ByteArray) (i : Nat) (h : i < (L s).length) : s.extract ((i : Nat) : Int).toNat ((i + 1 : Nat) : Int).toNat = S [(L s)[i]] := by
  apply L_inj
  rw [L_ext, L_S]
  show ((L s).take (i + 1)).drop i = _
  rw [List.take_add_one, List.drop_append_of_le_length (by rw [List.length_take]; omega), List.drop_eq_nil_of_le (by rw [List.length_take]; omega), List.getElem?_eq_getElem h]
  rfl
theorem zS (l : List UInt8) : (S l).size = l.length := by rw [sz, L_S]
theorem reffold_l0 (s : ByteArray) (hs : (L s).length ≤ 1000000000) (d : Nat) : ∀ (i : Nat) (acc : List UInt8), i ≤ (L s).length → (L s).length - i = d → acc.length = i →
    Ev (fun k => bulletinref06_Fold.l0 k s (S acc) (i : Int)) (S (acc ++ ((L s).drop i).map low)) := by
  induction d with
  | zero =>
    intro i acc hi hd _
    refine up ?_
    simp only [bulletinref06_Fold.l0]
    refine neg (by rw [sz]; omega) (now' ?_)
    rw [List.drop_eq_nil_of_le (by omega)]
    simp
  | succ d ih =>
    intro i acc hi hd ha
    have hil : i < (L s).length := by omega
    have hz := zS acc
    refine up ?_
    simp only [bulletinref06_Fold.l0]
    refine pos (by rw [sz]; omega) (pos (by omega) ?_)
    rw [btn s i hil, wi i (by omega), ext1 s i hil]
    rw [List.drop_eq_getElem_cons hil, List.map_cons]
    have next : ∀ T : ByteArray, T = S [low (L s)[i]] → Ev (fun k => bulletinref06_Fold.l0 k s (S acc ++ T) ((i + 1 : Nat) : Int)) (S (acc ++ low (L s)[i] :: ((L s).drop (i + 1)).map low)) := by
      rintro T rfl
      have := ih (i + 1) (acc ++ [low (L s)[i]]) (by omega) (by omega) (by simp; omega)
      rw [List.append_assoc] at this
      rw [S_app]
      exact this
    have hx := (L s)[i].toNat_lt
    have plain : ¬ (65 ≤ (L s)[i].toNat ∧ (L s)[i].toNat ≤ 90) → Ev (fun k => (if (i : Int) ≤ ((i + 1 : Nat) : Int) then (if ((i + 1 : Nat) : Int) ≤ (s.size : Int) then (if (S acc).size + (S [(L s)[i]]).size ≤ 9223372036854775807 then (bulletinref06_Fold.l0 k s (S acc ++ S [(L s)[i]]) ((i + 1 : Nat) : Int)) else (none)) else (none)) else (none))) (S (acc ++ low (L s)[i] :: ((L s).drop (i + 1)).map low)) := by
      intro hc
      have z1 : (S [(L s)[i]]).size = 1 := rfl
      refine pos (by omega) (pos (by rw [sz]; omega) (pos (by omega) (next _ ?_)))
      unfold low
      rw [if_neg hc]
    by_cases c1 : 65 ≤ (L s)[i].toNat
    · refine pos (by omega) ?_
      by_cases c2 : (L s)[i].toNat ≤ 90
      · refine pos (by omega) (cbind rfl ?_)
        have e : strOfNums [((L s)[i].toNat + 32 : Int) % 256] = S [low (L s)[i]] := by
          rw [nums_eq]
          unfold low
          rw [if_pos ⟨c1, c2⟩]
          congr 1
          simp only [List.map_cons, List.map_nil]
          congr 2
          omega
        rw [e]
        have z1 : (S [low (L s)[i]]).size = 1 := rfl
        exact pos (by omega) (next _ rfl)
      · exact neg (by omega) (plain (by omega))
    · exact neg (by omega) (plain (by omega))
theorem reffold_ev (s : ByteArray) (hs : (L s).length ≤ 1000000000) : Ev (fun k => bulletinref06_Fold.f k s) (S (foldL (L s))) := by
  have := reffold_l0 s hs (L s).length 0 [] (by omega) (by omega) rfl
  rw [List.drop_zero, List.nil_append] at this
  exact this
end Go.Proofs.YtaamnpomclenpaaDoor.Glyph
