/- The pure statement of ReplyWrites. -/
import Derived.Test.YtdjpdbdilcjakaaDoorReplyW
import Derived.Test.YtdjpdbdilcjakaaDoorBookSame
namespace Go.Proofs.YtdjpdbdilcjakaaDoor.Reply
open Go.RowKit Go.Proofs.YtdjpdbdilcjakaaDoor.X Go.Proofs.YtdjpdbdilcjakaaDoorW.PrintWords Go.Proofs.YtdjpdbdilcjakaaDoorW.PrintLast Go.Proofs.YtdjpdbdilcjakaaDoorW.PrintMore Go.Proofs.YtdjpdbdilcjakaaDoor.Aid
set_option linter.unusedVariables false
set_option linter.unusedSimpArgs false

theorem blight_l0 (l : List ByteArray) (hq : l.length ≤ 9223372036854775807) (d : Nat) : ∀ i : Nat, i ≤ l.length → i ≤ 13 → 13 - i = d → (∀ j (hj : j < l.length), j < i → (l[j]).size ≤ 600) →
    ∃ r, Ev (fun k => bulletinbook_Light.l0 k l 12 600 (i : Int)) r ∧ (r = true → l.length ≤ 12 ∧ ∀ s ∈ l, s.size ≤ 600) := by
  have stop : ∀ i : Nat, i ≤ l.length → (¬ i < l.length ∨ ¬ (i : Int) ≤ 12) → (∀ j (hj : j < l.length), j < i → (l[j]).size ≤ 600) → ∃ r, Ev (fun k => bulletinbook_Light.j1 k l 12 600 (i : Int) false) r ∧ (r = true → l.length ≤ 12 ∧ ∀ s ∈ l, s.size ≤ 600) := by
    intro i hi h hall
    refine ⟨decide ((l.length : Int) ≤ 12), up ?_, ?_⟩
    · simp only [bulletinbook_Light.j1]
      exact neg (by simp) (Ev.now _)
    · intro q
      have q := of_decide_eq_true q
      refine ⟨by omega, fun s hs => ?_⟩
      obtain ⟨j, hj, rfl⟩ := List.getElem_of_mem hs
      exact hall j hj (by omega)
  induction d with
  | zero =>
    intro i hi h13 hd hall
    obtain ⟨r, h1, h2⟩ := stop i hi (Or.inr (by omega)) hall
    refine ⟨r, up ?_, h2⟩
    simp only [bulletinbook_Light.l0]
    rw [decide_eq_false (show ¬ (i : Int) ≤ 12 by omega)]
    exact ite_ev (fun _ => h1) (fun _ => h1)
  | succ d ih =>
    intro i hi h13 hd hall
    by_cases hlt : i < l.length
    · by_cases hs : l[i].size ≤ 600
      · obtain ⟨r, h1, h2⟩ := ih (i + 1) (by omega) (by omega) (by omega) (fun j hj hji => (by
          by_cases e : j = i
          · subst e; exact hs
          · exact hall j hj (by omega)))
        refine ⟨r, up ?_, h2⟩
        simp only [bulletinbook_Light.l0]
        rw [decide_eq_true (show (i : Int) ≤ 12 by omega)]
        refine pos (by omega) (up ?_)
        simp only [bulletinbook_Light.j1]
        refine pos (by trivial) (pos (by omega) (pos (by omega) ?_))
        rw [rdOf_nat _ _ _ hlt, wi i (by omega)]
        exact neg (by omega) h1
      · refine ⟨false, up ?_, fun q => (by cases q)⟩
        simp only [bulletinbook_Light.l0]
        rw [decide_eq_true (show (i : Int) ≤ 12 by omega)]
        refine pos (by omega) (up ?_)
        simp only [bulletinbook_Light.j1]
        refine pos (by trivial) (pos (by omega) (pos (by omega) ?_))
        rw [rdOf_nat _ _ _ hlt]
        exact pos (by omega) (Ev.now _)
    · obtain ⟨r, h1, h2⟩ := stop i hi (Or.inl hlt) hall
      refine ⟨r, up ?_, h2⟩
      simp only [bulletinbook_Light.l0]
      exact neg (by omega) h1
theorem blight_ev (l : List ByteArray) (hq : l.length ≤ 9223372036854775807) : ∃ r, Ev (fun k => bulletinbook_Light.f k l 12 600) r ∧ (r = true → l.length ≤ 12 ∧ ∀ s ∈ l, s.size ≤ 600) :=
  blight_l0 l hq 13 0 (by omega) (by omega) (by omega) (fun j hj h => (by omega))
def okR (x : S29) : Prop := x.f1.length ≤ 12 ∧ ∀ s ∈ x.f1, s.size ≤ 600
theorem light_l0 (l : List S29) (hq : l.length ≤ 9223372036854775807) (hq2 : ∀ x ∈ l, x.f1.length ≤ 9223372036854775807) (d : Nat) : ∀ i : Nat, i ≤ l.length → i ≤ 12 → 12 - i = d → (∀ j (hj : j < l.length), j < i → okR l[j]) →
    ∃ r, Ev (fun k => bulletinlaw30_light.l0 k l (i : Int)) r ∧ (r = true → l.length ≤ 12 ∧ ∀ x ∈ l, okR x) := by
  have stop : ∀ i : Nat, i ≤ l.length → (¬ i < l.length ∨ ¬ (i : Int) < 12) → (∀ j (hj : j < l.length), j < i → okR l[j]) → ∃ r, Ev (fun k => bulletinlaw30_light.j1 k l (i : Int) false) r ∧ (r = true → l.length ≤ 12 ∧ ∀ x ∈ l, okR x) := by
    intro i hi h hall
    refine ⟨decide ((l.length : Int) ≤ 12), up ?_, ?_⟩
    · simp only [bulletinlaw30_light.j1]
      exact neg (by simp) (Ev.now _)
    · intro q
      have q := of_decide_eq_true q
      refine ⟨by omega, fun s hs => ?_⟩
      obtain ⟨j, hj, rfl⟩ := List.getElem_of_mem hs
      exact hall j hj (by omega)
  induction d with
  | zero =>
    intro i hi h13 hd hall
    obtain ⟨r, h1, h2⟩ := stop i hi (Or.inr (by omega)) hall
    refine ⟨r, up ?_, h2⟩
    simp only [bulletinlaw30_light.l0]
    rw [decide_eq_false (show ¬ (i : Int) < 12 by omega)]
    exact ite_ev (fun _ => h1) (fun _ => h1)
  | succ d ih =>
    intro i hi h13 hd hall
    by_cases hlt : i < l.length
    · have e29 : rd_T29 l (i : Int) = l[i] := by simp [rd_T29, List.getD, hlt]
      obtain ⟨b, hb1, hb2⟩ := blight_ev l[i].f1 (hq2 _ (List.getElem_mem hlt))
      cases b with
      | true =>
        obtain ⟨r, h1, h2⟩ := ih (i + 1) (by omega) (by omega) (by omega) (fun j hj hji => (by
          by_cases e : j = i
          · subst e; exact hb2 rfl
          · exact hall j hj (by omega)))
        refine ⟨r, up ?_, h2⟩
        simp only [bulletinlaw30_light.l0]
        rw [decide_eq_true (show (i : Int) < 12 by omega)]
        refine pos (by omega) (up ?_)
        simp only [bulletinlaw30_light.j1]
        refine pos (by trivial) (pos (by omega) (pos (by omega) ?_))
        rw [e29, wi i (by omega)]
        exact Ev.bind hb1 (pos (by rfl) h1)
      | false =>
        refine ⟨false, up ?_, fun q => (by cases q)⟩
        simp only [bulletinlaw30_light.l0]
        rw [decide_eq_true (show (i : Int) < 12 by omega)]
        refine pos (by omega) (up ?_)
        simp only [bulletinlaw30_light.j1]
        refine pos (by trivial) (pos (by omega) (pos (by omega) ?_))
        rw [e29]
        exact Ev.bind hb1 (neg (by simp) (Ev.now _))
    · obtain ⟨r, h1, h2⟩ := stop i hi (Or.inl hlt) hall
      refine ⟨r, up ?_, h2⟩
      simp only [bulletinlaw30_light.l0]
      exact neg (by omega) h1
theorem works_w : Ev (fun k => bulletinlaw30_works.f k) true := Ev.of bulletinlaw30_works.mono (k := 60) (by decide +kernel)
theorem writes_l0 (l : List S29) (hl : l.length ≤ 12) (hok : ∀ x ∈ l, okR x) (hc : ∀ x ∈ l, -9223372036854775808 ≤ x.f0 ∧ x.f0 ≤ 9223372036854775807) (d : Nat) : ∀ i : Nat, i ≤ l.length → l.length - i = d → Ev (fun k => bulletinlaw30_ReplyWrites.l0 k l (i : Int)) true := by
  induction d with
  | zero =>
    intro i hi hd
    refine up ?_
    simp only [bulletinlaw30_ReplyWrites.l0]
    exact neg (by omega) (Ev.bind works_w (Ev.now _))
  | succ d ih =>
    intro i hi hd
    have hlt : i < l.length := by omega
    have e29 : rd_T29 l (i : Int) = l[i] := by simp [rd_T29, List.getD, hlt]
    obtain ⟨o1, o2⟩ := hok l[i] (List.getElem_mem hlt)
    obtain ⟨c0, c1⟩ := hc l[i] (List.getElem_mem hlt)
    refine up ?_
    simp only [bulletinlaw30_ReplyWrites.l0]
    rw [e29, wi i (by omega)]
    have hm : reply_Make.f l[i].f0 l[i].f1 = some (l[i].f0, l[i].f1) := by
      unfold reply_Make.f slices_Clone_string_string.f
      rw [if_pos (by omega)]
      rfl
    have hsm := Book.same_ev l[i].f1 l[i].f1 (by omega) (by omega)
    rw [decide_eq_true rfl] at hsm
    refine pos (by omega) (pos (by omega) (cbind hm (pos (by rfl) (Ev.bind hsm (pos (by rfl) (cbind (text_eq l[i].f0 l[i].f1 c0 c1 o1 o2) (Ev.bind (rtext_ev l[i].f0 l[i].f1 c0 c1 o1 o2) (pos (by rfl) (Ev.bind (right_ev l[i].f0 l[i].f1) (Ev.bind (rright_ev l[i].f0 l[i].f1 o1 o2) (neg ?_ (ih (i + 1) (by omega) (by omega)))))))))))))
    simp
theorem writes_law (l : List S29) (hq : l.length ≤ 9223372036854775807) (hq2 : ∀ x ∈ l, x.f1.length ≤ 9223372036854775807) (hc : ∀ x ∈ l, -9223372036854775808 ≤ x.f0 ∧ x.f0 ≤ 9223372036854775807) : Ev (fun k => bulletinlaw30_ReplyWrites.f k l) true := by
  unfold bulletinlaw30_ReplyWrites.f
  obtain ⟨r, h1, h2⟩ := light_l0 l hq hq2 12 0 (by omega) (by omega) (by omega) (fun j hj h => (by omega))
  refine Ev.bind h1 ?_
  cases r with
  | true =>
    obtain ⟨g1, g2⟩ := h2 rfl
    exact pos (by rfl) (writes_l0 l g1 g2 hc _ 0 (by omega) rfl)
  | false => exact neg (by simp) (Ev.bind works_w (Ev.now _))
end Go.Proofs.YtdjpdbdilcjakaaDoor.Reply
