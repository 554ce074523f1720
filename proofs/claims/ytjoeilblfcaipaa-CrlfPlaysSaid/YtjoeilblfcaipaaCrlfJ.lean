/- crlf: the reference's judgement and lines, and numbers below one another, as contracts for a walk by hand. -/
import Derived.Test.YtjoeilblfcaipaaX
import Derived.Test.YtjoeilblfcaipaaCrlfF
import Derived.Test.YtjoeilblfcaipaaBookLight
namespace Go.Proofs.Ytjoeilblfcaipaa.Crlf
open Go.RowKit Go.Proofs.Ytjoeilblfcaipaa.Mem Go.Proofs.Ytjoeilblfcaipaa.X Go.Proofs.YtjoeilblfcaipaaW.PrintWords Go.Proofs.YtjoeilblfcaipaaW.PrintLast Go.Proofs.YtjoeilblfcaipaaW.PrintMore Go.Proofs.Ytjoeilblfcaipaa.Aid
set_option linter.unusedVariables false
set_option linter.unusedSimpArgs false
theorem bad_drop (s : ByteArray) (i : Nat) (h : i < (L s).length) : bad ((L s).drop i) = (((L s)[i] == 13 || (L s)[i] == 10) || bad ((L s).drop (i + 1))) := by
  rw [List.drop_eq_getElem_cons h]; rfl
theorem judge_l0 (s : ByteArray) (hs : (L s).length ≤ 1000000) (d : Nat) : ∀ i : Nat, i ≤ (L s).length → (L s).length - i = d →
    Ev (fun k => bulletinref26_Judge.l0 k s (i : Int)) (if bad ((L s).drop i) = true then (2, (⟨#[]⟩ : ByteArray)) else (1, s)) := by
  induction d with
  | zero =>
    intro i hi hd
    refine up ?_
    simp only [bulletinref26_Judge.l0]
    rw [List.drop_eq_nil_of_le (by omega)]
    exact neg (by rw [sz]; omega) (Ev.now _)
  | succ d ih =>
    intro i hi hd
    have hlt : i < (L s).length := by omega
    have ih := ih (i + 1) (by omega) (by omega)
    refine up ?_
    simp only [bulletinref26_Judge.l0]
    refine pos (by rw [sz]; omega) (pos (by omega) ?_)
    rw [btn s i hlt, wi i (by omega), bad_drop s i hlt]
    by_cases h13 : (L s)[i] = 13
    · refine pos (by rw [h13]; rfl) ?_
      rw [h13]
      exact now' rfl
    · refine neg (fun e => h13 (u8i (d := 13) e)) ?_
      by_cases h10 : (L s)[i] = 10
      · refine pos (by rw [h10]; rfl) ?_
        rw [h10]
        exact now' rfl
      · refine neg (fun e => h10 (u8i (d := 10) e)) ?_
        rw [beq_eq_false_iff_ne.2 h13, beq_eq_false_iff_ne.2 h10, Bool.false_or, Bool.false_or]
        exact ih
theorem judge_ev (s : ByteArray) (hs : s.size ≤ 1000000) (most : Int) : Ev (fun k => bulletinref26_Judge.f k s most) ((judge (L s) most).1, (S (judge (L s) most).2)) := by
  have hz := sz s
  have go : ∀ b : Bool, Ev (fun k => bulletinref26_Judge.j0 k s b) (if b = true then (3, (⟨#[]⟩ : ByteArray)) else if bad (L s) = true then (2, (⟨#[]⟩ : ByteArray)) else (1, s)) := by
    intro b
    refine up ?_
    simp only [bulletinref26_Judge.j0]
    cases b with
    | true => exact pos rfl (Ev.now _)
    | false => exact neg (by simp) (judge_l0 s (by omega) _ 0 (by omega) rfl)
  unfold bulletinref26_Judge.f
  have h1 := go true
  have h2 := go (decide ((s.size : Int) > 998))
  unfold judge
  by_cases c1 : (s.size : Int) > most
  · refine pos c1 ?_
    rw [if_pos (.inl (by omega))]
    exact h1
  · refine neg c1 ?_
    by_cases c2 : 998 < (L s).length
    · rw [if_pos (.inr c2)]
      rw [decide_eq_true (by omega)] at h2 ⊢
      exact h2
    · rw [if_neg (by omega)]
      rw [decide_eq_false (by omega)] at h2 ⊢
      cases hb : bad (L s) with
      | true => rw [hb] at h2; exact h2
      | false =>
        rw [hb] at h2
        have e : ((if false = true then ((2 : Int), ([] : List UInt8)) else (1, L s)).1, S (if false = true then ((2 : Int), ([] : List UInt8)) else (1, L s)).2) = (1, s) := by
          show (1, S (L s)) = (1, s)
          rw [S_L]
        rw [e]
        exact h2
theorem judge_calls (w : World) (s : ByteArray) (hs : s.size ≤ 1000000) (most : Int) :
    Calls Try.prog 15 #[.string s, .int .i64 most] w fun e w' => e = .returned (lineV (judge (L s) most)) ∧ Below w.heap.size w w' := by
  obtain ⟨k, hk⟩ := Ev.rounds (judge_ev s hs most)
  exact bulletinref26_Judge.calls k s most _ _ w hk
theorem below_calls (w : World) (x : Int) (n : Nat) (hn : 0 < n) (hm : n ≤ 1000000) (hx : (Lit.int .i64 x).wf = true) :
    ∃ r : Nat, r < n ∧ Calls Try.prog 16 #[.int .i64 x, .int .i64 (n : Int)] w fun e w' => e = .returned (.int .i64 (r : Int)) ∧ ∃ q, w' = w.drewN q := by
  have hb := wf64 hx
  have h1 := Int.lt_tmod_of_pos x (show (0 : Int) < n by omega)
  have h2 := Int.tmod_lt_of_pos x (show (0 : Int) < n by omega)
  by_cases hneg : Int.tmod x n < 0
  · refine ⟨(Int.tmod x n + n).toNat, by omega, ?_⟩
    have := bulletinbook_Below.calls x n ((Int.tmod x n + n).toNat : Int) w (by
      unfold bulletinbook_Below.f
      rw [if_neg (by omega), if_pos hneg, w64 (by omega) (by omega)]
      congr 1
      omega)
    exact this.mono fun e w' ⟨h, hd⟩ => ⟨h, hd.out⟩
  · refine ⟨(Int.tmod x n).toNat, by omega, ?_⟩
    have := bulletinbook_Below.calls x n ((Int.tmod x n).toNat : Int) w (by
      unfold bulletinbook_Below.f
      rw [if_neg (by omega), if_neg hneg]
      congr 1
      omega)
    exact this.mono fun e w' ⟨h, hd⟩ => ⟨h, hd.out⟩
end Go.Proofs.Ytjoeilblfcaipaa.Crlf
