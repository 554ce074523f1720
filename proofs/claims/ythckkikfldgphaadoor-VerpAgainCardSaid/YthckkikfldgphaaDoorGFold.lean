/- glyph.Fold: what the printed function tells. -/
import Derived.Test.YthckkikfldgphaaDoorXMB
import Derived.Test.YthckkikfldgphaaDoorAid
namespace Go.Proofs.YthckkikfldgphaaDoor.Glyph
open Go.RowKit Go.Proofs.YthckkikfldgphaaDoor.X Go.Proofs.YthckkikfldgphaaDoorW.PrintWords Go.Proofs.YthckkikfldgphaaDoorW.PrintLast Go.Proofs.YthckkikfldgphaaDoorW.PrintMore Go.Proofs.YthckkikfldgphaaDoor.Aid
set_option linter.unusedVariables false
set_option linter.unusedSimpArgs false
def low (c : UInt8) : UInt8 := if 65 ≤ c.toNat ∧ c.toNat ≤ 90 then UInt8.ofNat (c.toNat + 32) else c
theorem low_eq (c : UInt8) : glyph_low (c.toNat : Int) = ((low c).toNat : Int) := by
  unfold glyph_low low
  have := UInt8.toNat_lt c
  by_cases h1 : 65 ≤ c.toNat
  · rw [if_pos (by omega)]
    by_cases h2 : c.toNat ≤ 90
    · rw [if_pos (by omega), if_pos ⟨h1, h2⟩]
      have : (UInt8.ofNat (c.toNat + 32)).toNat = c.toNat + 32 := by simp; omega
      rw [this]
      omega
    · rw [if_neg (by omega), if_neg (by omega)]
  · rw [if_neg (by omega), if_neg (by omega)]
theorem fold_l0 (s : ByteArray) (hs : (L s).length ≤ 1000000000) (d : Nat) : ∀ (i : Nat) (acc : List UInt8), i ≤ (L s).length → (L s).length - i = d → acc.length = i →
    Ev (fun k => glyph_Fold.l0 k s (acc.map (fun c => (c.toNat : Int))) i) (S (acc ++ ((L s).drop i).map low)) := by
  induction d with
  | zero =>
    intro i acc hi hd _
    refine up ?_
    simp only [glyph_Fold.l0]
    refine neg (by rw [sz]; omega) (now' ?_)
    rw [nums_eq, List.map_map, List.drop_eq_nil_of_le (by omega)]
    congr 1
    rw [show ((fun x : Int => UInt8.ofNat x.toNat) ∘ fun c : UInt8 => (c.toNat : Int)) = id from by funext c; simp]
    simp
  | succ d ih =>
    intro i acc hi hd ha
    have hil : i < (L s).length := by omega
    refine up ?_
    simp only [glyph_Fold.l0]
    refine pos (by rw [sz]; omega) (pos (by rw [List.length_map]; omega) ?_)
    rw [btn s i hil, low_eq]
    have := ih (i + 1) (acc ++ [low (L s)[i]]) (by omega) (by omega) (by simp; omega)
    rw [List.map_append, List.append_assoc] at this
    rw [List.drop_eq_getElem_cons hil, List.map_cons]
    exact this
def foldL (l : List UInt8) : List UInt8 := l.map low
theorem fold_ev (s : ByteArray) (hs : (L s).length ≤ 1000000000) : Ev (fun k => glyph_Fold.f k s) (S (foldL (L s))) := by
  have := fold_l0 s hs (L s).length 0 [] (by omega) (by omega) rfl
  rw [List.drop_zero, List.nil_append] at this
  exact this
end Go.Proofs.YthckkikfldgphaaDoor.Glyph
