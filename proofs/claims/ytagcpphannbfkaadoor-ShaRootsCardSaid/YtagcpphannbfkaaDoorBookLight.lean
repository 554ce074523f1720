/- Whether lists of texts are light: what the statements' own function tells, and its contract for a walk by hand. -/
import Derived.Test.YtagcpphannbfkaaDoorX
import Derived.Test.YtagcpphannbfkaaDoorAid
import Derived.Test.YtagcpphannbfkaaDoorMemP
namespace Go.Proofs.YtagcpphannbfkaaDoor.Book
open Go.RowKit Go.Proofs.YtagcpphannbfkaaDoor.X Go.Proofs.YtagcpphannbfkaaDoorW.PrintWords Go.Proofs.YtagcpphannbfkaaDoorW.PrintLast Go.Proofs.YtagcpphannbfkaaDoorW.PrintMore Go.Proofs.YtagcpphannbfkaaDoor.Aid
set_option linter.unusedVariables false
set_option linter.unusedSimpArgs false
theorem blight_l0 (l : List ByteArray) (hq : l.length ≤ 9223372036854775807) (m q : Nat) (hm : m ≤ 1000000) (d : Nat) : ∀ i : Nat, i ≤ l.length → i ≤ m + 1 → m + 1 - i = d → (∀ j (hj : j < l.length), j < i → (l[j]).size ≤ q) →
    ∃ r, Ev (fun k => bulletinbook_Light.l0 k l (m : Int) (q : Int) (i : Int)) r ∧ (r = true → l.length ≤ m ∧ ∀ s ∈ l, s.size ≤ q) := by
  have stop : ∀ i : Nat, i ≤ l.length → (¬ i < l.length ∨ ¬ (i : Int) ≤ (m : Int)) → (∀ j (hj : j < l.length), j < i → (l[j]).size ≤ q) → ∃ r, Ev (fun k => bulletinbook_Light.j1 k l (m : Int) (q : Int) (i : Int) false) r ∧ (r = true → l.length ≤ m ∧ ∀ s ∈ l, s.size ≤ q) := by
    intro i hi h hall
    refine ⟨decide ((l.length : Int) ≤ (m : Int)), up ?_, ?_⟩
    · simp only [bulletinbook_Light.j1]
      exact neg (by simp) (Ev.now _)
    · intro qq
      have qq := of_decide_eq_true qq
      refine ⟨by omega, fun s hs => ?_⟩
      obtain ⟨j, hj, rfl⟩ := List.getElem_of_mem hs
      exact hall j hj (by omega)
  induction d with
  | zero =>
    intro i hi h13 hd hall
    obtain ⟨r, h1, h2⟩ := stop i hi (Or.inr (by omega)) hall
    refine ⟨r, up ?_, h2⟩
    simp only [bulletinbook_Light.l0]
    rw [decide_eq_false (show ¬ (i : Int) ≤ (m : Int) by omega)]
    exact ite_ev (fun _ => h1) (fun _ => h1)
  | succ d ih =>
    intro i hi h13 hd hall
    by_cases hlt : i < l.length
    · by_cases hs : l[i].size ≤ q
      · obtain ⟨r, h1, h2⟩ := ih (i + 1) (by omega) (by omega) (by omega) (fun j hj hji => (by
          by_cases e : j = i
          · subst e; exact hs
          · exact hall j hj (by omega)))
        refine ⟨r, up ?_, h2⟩
        simp only [bulletinbook_Light.l0]
        rw [decide_eq_true (show (i : Int) ≤ (m : Int) by omega)]
        refine pos (by omega) (up ?_)
        simp only [bulletinbook_Light.j1]
        refine pos (by trivial) (pos (by omega) (pos (by omega) ?_))
        rw [rdOf_nat _ _ _ hlt, wi i (by omega)]
        exact neg (by omega) h1
      · refine ⟨false, up ?_, fun qq => (by cases qq)⟩
        simp only [bulletinbook_Light.l0]
        rw [decide_eq_true (show (i : Int) ≤ (m : Int) by omega)]
        refine pos (by omega) (up ?_)
        simp only [bulletinbook_Light.j1]
        refine pos (by trivial) (pos (by omega) (pos (by omega) ?_))
        rw [rdOf_nat _ _ _ hlt]
        exact pos (by omega) (Ev.now _)
    · obtain ⟨r, h1, h2⟩ := stop i hi (Or.inl hlt) hall
      refine ⟨r, up ?_, h2⟩
      simp only [bulletinbook_Light.l0]
      exact neg (by omega) h1
theorem blight_ev (l : List ByteArray) (hq : l.length ≤ 9223372036854775807) (m q : Nat) (hm : m ≤ 1000000) : ∃ r, Ev (fun k => bulletinbook_Light.f k l (m : Int) (q : Int)) r ∧ (r = true → l.length ≤ m ∧ ∀ s ∈ l, s.size ≤ q) :=
  blight_l0 l hq m q hm (m + 1) 0 (by omega) (by omega) (by omega) (fun j hj h => (by omega))
/-- called: some answer; 'yes' tells that the texts are not too many, nor too long -/
theorem light_calls (w : World) (A : Option Addr) (c : Nat) (l : List ByteArray) (hr : Kd.C Kd.string w A l.length l) (hc : l.length ≤ c) (m q : Nat) (hm : m ≤ 1000000) :
    ∃ r : Bool, (r = true → l.length ≤ m ∧ ∀ s ∈ l, s.size ≤ q) ∧ Calls Tryd.prog 10 #[.slice A l.length c, .int .i64 (m : Int), .int .i64 (q : Int)] w fun e w' => e = .returned (.bool r) ∧ ∃ n, w' = w.drewN n := by
  obtain ⟨r, h1, h2⟩ := blight_ev l hr.2.1 m q hm
  obtain ⟨k, hk⟩ := Ev.rounds h1
  exact ⟨r, h2, (bulletinbook_Light.calls k A c l m q r w hr hc hk).mono fun e w' ⟨h, hd⟩ => ⟨h, hd.out⟩⟩
end Go.Proofs.YtagcpphannbfkaaDoor.Book
