/- The pure statements of ReplyTells and ReplyOne: a table of answers, each seen by itself. -/
import Derived.Test.YtdjpdbdilcjakaaDoorX21
import Derived.Test.YtdjpdbdilcjakaaDoorReplyFor
import Derived.Test.YtdjpdbdilcjakaaDoorAid
namespace Go.Proofs.YtdjpdbdilcjakaaDoor.Reply
open Go.RowKit Go.Proofs.YtdjpdbdilcjakaaDoor.X Go.Proofs.YtdjpdbdilcjakaaDoorW.PrintWords Go.Proofs.YtdjpdbdilcjakaaDoorW.PrintLast Go.Proofs.YtdjpdbdilcjakaaDoorW.PrintMore Go.Proofs.YtdjpdbdilcjakaaDoor.Aid
set_option linter.unusedVariables false
set_option linter.unusedSimpArgs false
theorem one_own : ∀ a ∈ ([0, 270, 7, 3, 5, 6, 340, 2, 130, 480, 150, 200, 1, 430, 8, 81, 80] : List Int), bulletinlaw30_ReplyOne.f 60 a = some true := by decide +kernel
theorem one_law (a : Int) : ∃ k, bulletinlaw30_ReplyOne.f k a = some true := by
  refine ⟨60, ?_⟩
  by_cases h : own a
  · exact one_own a h
  · unfold bulletinlaw30_ReplyOne.f
    have h0 : (a == 0) = false := by
      rw [beq_eq_false_iff_ne]
      rintro rfl
      exact h (by decide)
    rw [for_other a h, works60, h0]
    decide +kernel
theorem one_ev (a : Int) (hw : (Lit.int .i64 a).wf = true) : Ev (fun k => bulletinlaw30_ReplyOne.f k a) true := by
  obtain ⟨k, h⟩ := one_law a
  exact Ev.of (fun k => bulletinlaw30_ReplyOne.mono a k) h
end Go.Proofs.YtdjpdbdilcjakaaDoor.Reply
