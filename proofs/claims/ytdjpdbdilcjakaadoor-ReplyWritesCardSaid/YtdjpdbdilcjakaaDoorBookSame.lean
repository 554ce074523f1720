/- Whether lists of texts have the same members: what the statements' own function tells. -/
import Derived.Test.YtdjpdbdilcjakaaDoorXW
import Derived.Test.YtdjpdbdilcjakaaDoorAid
namespace Go.Proofs.YtdjpdbdilcjakaaDoor.Book
open Go.RowKit Go.Proofs.YtdjpdbdilcjakaaDoor.X Go.Proofs.YtdjpdbdilcjakaaDoorW.PrintWords Go.Proofs.YtdjpdbdilcjakaaDoorW.PrintLast Go.Proofs.YtdjpdbdilcjakaaDoorW.PrintMore Go.Proofs.YtdjpdbdilcjakaaDoor.Aid
set_option linter.unusedVariables false
set_option linter.unusedSimpArgs false
theorem same_l0 (a b : List ByteArray) (hl : a.length = b.length) (hq : a.length ≤ 1000000) (d : Nat) : ∀ i : Nat, i ≤ a.length → a.length - i = d →
    Ev (fun k => bulletinbook_SameTexts.l0 k a b true (i : Int)) (decide (a.drop i = b.drop i)) := by
  induction d with
  | zero =>
    intro i hi hd
    refine up ?_
    simp only [bulletinbook_SameTexts.l0]
    refine pos (by trivial) (neg (by omega) (now' ?_))
    rw [List.drop_eq_nil_of_le (by omega), List.drop_eq_nil_of_le (by omega)]
    simp
  | succ d ih =>
    intro i hi hd
    have h1 : i < a.length := by omega
    have h2 : i < b.length := by omega
    refine up ?_
    simp only [bulletinbook_SameTexts.l0]
    refine pos (by trivial) (pos (by omega) (pos (by omega) (pos (by omega) ?_)))
    have hdr : (a.drop i = b.drop i) ↔ (a[i] = b[i] ∧ a.drop (i + 1) = b.drop (i + 1)) := by
      rw [List.drop_eq_getElem_cons h1, List.drop_eq_getElem_cons h2, List.cons.injEq]
    rw [rdOf_nat _ _ _ h1, rdOf_nat _ _ _ h2, beq_L]
    simp only [hdr]
    rw [wi i (by omega)]
    by_cases heq : a[i] = b[i]
    · rw [decide_eq_true heq]
      have := ih (i + 1) (by omega) (by omega)
      simpa only [heq, true_and] using this
    · rw [decide_eq_false heq]
      refine up ?_
      simp only [bulletinbook_SameTexts.l0]
      refine neg (by simp) (now' ?_)
      simp [heq]
theorem same_ev (a b : List ByteArray) (hq : a.length ≤ 1000000) (hq2 : b.length ≤ 1000000) : Ev (fun k => bulletinbook_SameTexts.f k a b) (decide (a = b)) := by
  unfold bulletinbook_SameTexts.f
  by_cases hl : a.length = b.length
  · have : ((a.length : Int) == (b.length : Int)) = true := by simp [hl]
    rw [this]
    simpa using same_l0 a b hl hq a.length 0 (by omega) (by omega)
  · have : ((a.length : Int) == (b.length : Int)) = false := by
      rw [beq_eq_false_iff_ne]; omega
    rw [this]
    refine up ?_
    simp only [bulletinbook_SameTexts.l0]
    refine neg (by simp) (now' ?_)
    have : ¬ a = b := fun e => hl (by rw [e])
    simp [this]
end Go.Proofs.YtdjpdbdilcjakaaDoor.Book
