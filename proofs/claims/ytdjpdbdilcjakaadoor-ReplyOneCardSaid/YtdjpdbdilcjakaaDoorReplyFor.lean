/- The pure statements of ReplyTells and ReplyOne: a table of answers, each seen by itself. -/
import Derived.Test.YtdjpdbdilcjakaaDoorX9
import Derived.Test.YtdjpdbdilcjakaaDoorX18
import Derived.Test.YtdjpdbdilcjakaaDoorAid
namespace Go.Proofs.YtdjpdbdilcjakaaDoor.Reply
open Go.RowKit Go.Proofs.YtdjpdbdilcjakaaDoor.X Go.Proofs.YtdjpdbdilcjakaaDoorW.PrintWords Go.Proofs.YtdjpdbdilcjakaaDoorW.PrintLast Go.Proofs.YtdjpdbdilcjakaaDoorW.PrintMore Go.Proofs.YtdjpdbdilcjakaaDoor.Aid
set_option linter.unusedVariables false
set_option linter.unusedSimpArgs false
theorem works60 : bulletinlaw30_works.f 60 = some true := by decide +kernel
/-- the codes that have a reply of their own -/
def own (a : Int) : Prop := a ∈ ([0, 270, 7, 3, 5, 6, 340, 2, 130, 480, 150, 200, 1, 430, 8, 81, 80] : List Int)
theorem for_other (a : Int) (h : ¬ own a) : reply_For.f 60 a = some (554, [⟨#[53, 46, 48, 46, 48, 32, 110, 111]⟩]) := by
  simp only [own, List.mem_cons, List.not_mem_nil, or_false, not_or] at h
  obtain ⟨h0, h1, h2, h3, h4, h5, h6, h7, h8, h9, h10, h11, h12, h13, h14, h15, h16⟩ := h
  unfold reply_For.f
  rw [if_neg h0, if_neg h1, if_neg h2, if_neg h3, if_neg h4, if_neg h5, if_neg h6, if_neg h7, if_neg h8, if_neg h9, if_neg h10, beq_eq_false_iff_ne.2 h11]
  rw [reply_For.j0, if_neg (by decide), if_neg h12, if_neg h13, if_neg h14, beq_eq_false_iff_ne.2 h15]
  rw [reply_For.j1, if_neg (by decide), if_neg h16]
  decide +kernel
instance (a : Int) : Decidable (own a) := by unfold own; infer_instance
end Go.Proofs.YtdjpdbdilcjakaaDoor.Reply
