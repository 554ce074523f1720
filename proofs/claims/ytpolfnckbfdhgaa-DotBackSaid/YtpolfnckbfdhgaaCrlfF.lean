/- crlf: plain lemmas on lines. -/
import Derived.Test.YtpolfnckbfdhgaaCrlfE
import Derived.Test.YtpolfnckbfdhgaaAid
namespace Go.Proofs.Ytpolfnckbfdhgaa.Crlf
open Go.RowKit Go.Proofs.Ytpolfnckbfdhgaa.Mem Go.Proofs.Ytpolfnckbfdhgaa.Aid
set_option linter.unusedVariables false
set_option linter.unusedSimpArgs false
theorem bad_cons (c : UInt8) (l : List UInt8) : bad (c :: l) = ((c == 13 || c == 10) || bad l) := rfl
theorem fds_clean (ws : List (List UInt8)) (cur : List UInt8) : ∀ x : List UInt8, bad x = false → fds (ws, cur, false) x = (ws, cur ++ x, false)
  | [], _ => by simp [fds]
  | c :: x, h => by
    rw [bad_cons, Bool.or_eq_false_iff, Bool.or_eq_false_iff] at h
    have e : fds (ws, cur, false) (c :: x) = fds (fd (ws, cur, false) c) x := rfl
    have e2 : fd (ws, cur, false) c = (ws, cur ++ [c], false) := by simp [fd, h.1.1]
    rw [e, e2, fds_clean ws _ x h.2]
    simp
theorem fds_line (ws : List (List UInt8)) (x : List UInt8) (h : bad x = false) : fds (ws, [], false) (x ++ [13, 10]) = (ws ++ [x], [], false) := by
  rw [fds_app, fds_clean ws [] x h]
  simp [fds, fd]
theorem judge_clean (x : List UInt8) (h : bad x = false) (hl : x.length ≤ 998) : judge x 998 = (1, x) := by
  unfold judge
  rw [if_neg (by omega), h]
  rfl
theorem bad_of (s : List UInt8) (h : ∀ k (hk : k < s.length), s[k] ≠ 13 ∧ s[k] ≠ 10) : bad s = false := by
  unfold bad
  rw [List.any_eq_false]
  intro c hc
  obtain ⟨k, hk, rfl⟩ := List.getElem_of_mem hc
  have := h k hk
  simp [this.1, this.2]
theorem not_ext {F : Nat → Prop} {a b : World} {g : Nat} (h : ¬ F g) (hg : g < a.heap.size) : ¬ ext F a b g := by
  rintro (e | ⟨e, _⟩)
  · exact h e
  · omega
end Go.Proofs.Ytpolfnckbfdhgaa.Crlf
