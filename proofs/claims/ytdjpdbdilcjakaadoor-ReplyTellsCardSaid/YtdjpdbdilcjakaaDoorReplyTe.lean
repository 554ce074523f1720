/- The pure statements of ReplyTells and ReplyOne: a table of answers, each seen by itself. -/
import Derived.Test.YtdjpdbdilcjakaaDoorX20
import Derived.Test.YtdjpdbdilcjakaaDoorReplyFor
import Derived.Test.YtdjpdbdilcjakaaDoorAid
namespace Go.Proofs.YtdjpdbdilcjakaaDoor.Reply
open Go.RowKit Go.Proofs.YtdjpdbdilcjakaaDoor.X Go.Proofs.YtdjpdbdilcjakaaDoorW.PrintWords Go.Proofs.YtdjpdbdilcjakaaDoorW.PrintLast Go.Proofs.YtdjpdbdilcjakaaDoorW.PrintMore Go.Proofs.YtdjpdbdilcjakaaDoor.Aid
set_option linter.unusedVariables false
set_option linter.unusedSimpArgs false
theorem rfor_other (a : Int) (h : ¬ own a) : bulletinref30_For.f 60 a = some (554, [⟨#[53, 46, 48, 46, 48, 32, 110, 111]⟩]) := by
  simp only [own, List.mem_cons, List.not_mem_nil, or_false, not_or] at h
  obtain ⟨h0, h1, h2, h3, h4, h5, h6, h7, h8, h9, h10, h11, h12, h13, h14, h15, h16⟩ := h
  unfold bulletinref30_For.f
  rw [if_neg h0]
  rw [bulletinref30_For.j0, if_neg h1]
  rw [bulletinref30_For.j1, if_neg h3, beq_eq_false_iff_ne.2 h2]
  rw [bulletinref30_For.j2, if_neg (by decide)]
  rw [bulletinref30_For.j3, if_neg h4]
  rw [bulletinref30_For.j4, if_neg h5]
  rw [bulletinref30_For.j5, if_neg h6]
  rw [bulletinref30_For.j6, if_neg h7]
  rw [bulletinref30_For.j7, if_neg h8]
  rw [bulletinref30_For.j8, if_neg h9, if_neg h10, beq_eq_false_iff_ne.2 h11]
  rw [bulletinref30_For.j9, if_neg (by decide)]
  rw [bulletinref30_For.j10, if_neg h12]
  rw [bulletinref30_For.j11, if_neg h13]
  rw [bulletinref30_For.j12, if_neg h14, beq_eq_false_iff_ne.2 h15]
  rw [bulletinref30_For.j13, if_neg (by decide), if_neg h16]
theorem tells_own : ∀ a ∈ ([0, 270, 7, 3, 5, 6, 340, 2, 130, 480, 150, 200, 1, 430, 8, 81, 80] : List Int), bulletinlaw30_ReplyTells.f 60 a = some true := by decide +kernel
theorem tells_law (a : Int) : ∃ k, bulletinlaw30_ReplyTells.f k a = some true := by
  refine ⟨60, ?_⟩
  by_cases h : own a
  · exact tells_own a h
  · unfold bulletinlaw30_ReplyTells.f
    rw [for_other a h, rfor_other a h]
    decide +kernel
theorem tells_ev (a : Int) (hw : (Lit.int .i64 a).wf = true) : Ev (fun k => bulletinlaw30_ReplyTells.f k a) true := by
  obtain ⟨k, h⟩ := tells_law a
  exact Ev.of (fun k => bulletinlaw30_ReplyTells.mono a k) h
end Go.Proofs.YtdjpdbdilcjakaaDoor.Reply
