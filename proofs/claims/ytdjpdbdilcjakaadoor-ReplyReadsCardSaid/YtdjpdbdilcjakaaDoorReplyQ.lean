/- Reading replies: the program's reading and the reference's both answer as one plain reading of the lines does. -/
import Derived.Test.YtdjpdbdilcjakaaDoorReplyP
namespace Go.Proofs.YtdjpdbdilcjakaaDoor.Reply
open Go.RowKit Go.Proofs.YtdjpdbdilcjakaaDoor.X Go.Proofs.YtdjpdbdilcjakaaDoorW.PrintWords Go.Proofs.YtdjpdbdilcjakaaDoorW.PrintLast Go.Proofs.YtdjpdbdilcjakaaDoorW.PrintMore Go.Proofs.YtdjpdbdilcjakaaDoor.Aid
open Go.Proofs.YtdjpdbdilcjakaaDoor.Glyph (plb plb_ev)
open Go.Proofs.YtdjpdbdilcjakaaDoor.RLines (sp lines_ev sp_count sp_size cut_cr)
open Go.Lib (cut)
set_option linter.unusedVariables false
set_option linter.unusedSimpArgs false

/-! ### the plain reading -/
abbrev R := Int × List ByteArray
def mk27 (r : R) : S27 := ⟨r.1, r.2⟩
def mk29 (r : R) : S29 := ⟨r.1, r.2⟩
def go : List (List UInt8) → List UInt8 → List R → Option R → List R × Int
  | [], rest, done, cur => if rest = [] then (if cur.isSome = true then ([], 9) else (done, 0)) else ([], 9)
  | x :: xs, rest, done, cur => match ln x with
    | none => ([], 3)
    | some (n, t, z) => match cur with
      | none => if z = true then go xs rest (done ++ [((n : Int), [S t])]) none else go xs rest done (some ((n : Int), [S t]))
      | some c => if c.1 = (n : Int) then (if z = true then go xs rest (done ++ [((n : Int), c.2 ++ [S t])]) none else go xs rest done (some ((n : Int), c.2 ++ [S t]))) else ([], 3)
theorem go_small (B : Nat) : ∀ (W : List (List UInt8)) (rest : List UInt8) (done : List R) (cur : Option R), done.length + W.length ≤ B → (∀ r ∈ done, r.2.length ≤ B) → (∀ c, cur = some c → c.2.length + W.length ≤ B) →
    (go W rest done cur).1.length ≤ B ∧ ∀ r ∈ (go W rest done cur).1, r.2.length ≤ B := by
  intro W
  induction W with
  | nil =>
    intro rest done cur h1 h2 h3
    simp only [go]
    split
    · split
      · exact ⟨by simp, by simp⟩
      · exact ⟨by simpa using h1, h2⟩
    · exact ⟨by simp, by simp⟩
  | cons x xs ih =>
    intro rest done cur h1 h2 h3
    simp only [List.length_cons] at h1 h3
    cases hx : ln x with
    | none =>
      have e : go (x :: xs) rest done cur = ([], 3) := by simp only [go, hx]
      rw [e]
      exact ⟨by simp, by simp⟩
    | some p =>
      obtain ⟨n, t, z⟩ := p
      cases cur with
      | none =>
        have e : go (x :: xs) rest done none = if z = true then go xs rest (done ++ [((n : Int), [S t])]) none else go xs rest done (some ((n : Int), [S t])) := by simp only [go, hx]
        rw [e]
        cases z with
        | true =>
          exact ih rest _ none (by simp; omega) (fun r hr => (by
            rcases List.mem_append.1 hr with h | h
            · exact h2 r h
            · rw [List.mem_singleton.1 h]; simp; omega)) (by simp)
        | false =>
          refine ih rest _ _ (by omega) h2 ?_
          intro c hc
          obtain rfl := Option.some.inj hc
          simp; omega
      | some c =>
        have h3 := h3 c rfl
        have e : go (x :: xs) rest done (some c) = if c.1 = (n : Int) then (if z = true then go xs rest (done ++ [((n : Int), c.2 ++ [S t])]) none else go xs rest done (some ((n : Int), c.2 ++ [S t]))) else ([], 3) := by simp only [go, hx]
        rw [e]
        by_cases hc : c.1 = (n : Int)
        · rw [if_pos hc]
          cases z with
          | true =>
            exact ih rest _ none (by simp; omega) (fun r hr => (by
              rcases List.mem_append.1 hr with h | h
              · exact h2 r h
              · rw [List.mem_singleton.1 h]; simp; omega)) (by simp)
          | false =>
            refine ih rest _ _ (by omega) h2 ?_
            intro c' hc'
            obtain rfl := Option.some.inj hc'
            simp; omega
        · rw [if_neg hc]
          exact ⟨by simp, by simp⟩

/-! ### the program -/
theorem last_snoc (xs : List S27) (y : S27) : reply_last (xs ++ [y]) = y := by
  unfold reply_last
  simp [List.getD]
theorem put_snoc (xs : List S27) (y : S27) (t : ByteArray) : reply_put (xs ++ [y]) t = xs ++ [(⟨y.f0, y.f1 ++ [t]⟩ : S27)] := by
  unfold reply_put
  rw [last_snoc]
  simp
def out27 (g : List R × Int) : List S27 × Int := (g.1.map mk27, g.2)
def out29 (g : List R × Int) : List S29 × Int := (g.1.map mk29, g.2)
theorem cut_ev (l : List UInt8) (hl : l.length ≤ 1000000) : strings_Cut.f (S l) (⟨#[13, 10]⟩ : ByteArray) = some (S (cut l [13, 10]).1, S (cut l [13, 10]).2.1, (cut l [13, 10]).2.2) := by
  unfold strings_Cut.f
  rw [if_pos (by rw [sz, L_S]; omega)]
  have e : (S l).data.toList = l := L_S l
  rw [e]
  rfl
theorem cut_lt (l : List UInt8) : (cut l [13, 10]).2.2 = true → (cut l [13, 10]).2.1.length < l.length := by
  induction l with
  | nil =>
    rw [CutL.cut_nil _ (by simp)]
    intro h
    cases h
  | cons c l ih =>
    cases hp : ([13, 10] : List UInt8).isPrefixOf (c :: l) with
    | true =>
      rw [CutL.cut_hit _ _ _ hp]
      intro _
      show ((c :: l).drop 2).length < _
      rw [List.length_drop]
      simp only [List.length_cons]
      omega
    | false =>
      rw [CutL.cut_miss _ _ _ hp]
      intro h
      have := ih h
      simp only [List.length_cons]
      omega
theorem pread (n : Nat) : ∀ (l : List UInt8) (done : List R) (cur : Option R), l.length ≤ n → l.length ≤ 2000 → done.length + l.length ≤ 4000 → (∀ c, cur = some c → c.2.length + l.length ≤ 4000) →
    Ev (fun k => reply_Read.l0 k (S l) ((done ++ cur.toList).map mk27) cur.isSome) (out27 (go (sp [] l).1 (sp [] l).2 done cur)) := by
  induction n with
  | zero =>
    intro l done cur hn h0 h1 h2
    obtain rfl : l = [] := List.eq_nil_of_length_eq_zero (by omega)
    refine up ?_
    simp only [reply_Read.l0]
    refine pos (by rfl) ?_
    cases cur with
    | none =>
      refine neg (by simp) (now' ?_)
      show (((done ++ []).map mk27, 0) : List S27 × Int) = out27 (done, 0)
      rw [List.append_nil]
      rfl
    | some c => exact pos (by rfl) (Ev.now _)
  | succ n ih =>
    intro l done cur hn h0 h1 h2
    by_cases hl : l = []
    · subst hl
      exact ih [] done cur (by simp) h0 h1 h2
    have hpos : 0 < l.length := List.length_pos_iff.2 hl
    refine up ?_
    simp only [reply_Read.l0]
    refine neg (by rw [sz, L_S]; omega) (cbind (cut_ev l (by omega)) ?_)
    have hcc := cut_cr l []
    have hlt := cut_lt l
    cases hb : (cut l [13, 10]).2.2 with
    | false =>
      rw [hcc.2 hb]
      refine neg (by simp) (now' ?_)
      show _ = out27 (if l = [] then _ else _)
      rw [if_neg hl]
      rfl
    | true =>
      rw [hcc.1 hb]
      have hlt := hlt hb
      obtain ⟨p, hp, hno, hso⟩ := part_ev (S (cut l [13, 10]).1)
      rw [L_S] at hno hso
      refine pos (by rfl) (Ev.bind hp ?_)
      show Ev _ (out27 (go ((cut l [13, 10]).1 :: _) _ _ _))
      simp only [go]
      generalize (cut l [13, 10]).1 = x at *
      generalize (cut l [13, 10]).2.1 = l' at *
      cases hx : ln x with
      | none => exact neg (by rw [hno hx]; simp) (Ev.now _)
      | some q =>
        obtain ⟨m, t, z⟩ := q
        obtain rfl := hso m t z hx
        refine pos (by rfl) ?_
        cases cur with
        | none =>
          refine neg (by simp) (pos (by simp; omega) ?_)
          have e : reply_put (List.map mk27 (done ++ (none : Option R).toList) ++ [(⟨(m : Int), []⟩ : S27)]) (S t) = (done ++ [((m : Int), [S t])]).map mk27 := by
            rw [put_snoc]
            simp [mk27]
          show Ev (fun k => reply_Read.l0 k (S l') (reply_put (List.map mk27 (done ++ (none : Option R).toList) ++ [(⟨(m : Int), []⟩ : S27)]) (S t)) (!z)) (out27 (if z = true then _ else _))
          rw [e]
          cases z with
          | true =>
            have := ih l' (done ++ [((m : Int), [S t])]) none (by omega) (by omega) (by simp; omega) (by simp)
            rw [show (none : Option R).toList = [] from rfl, List.append_nil] at this
            exact this
          | false => exact ih l' done (some ((m : Int), [S t])) (by omega) (by omega) (by omega) (fun c hc => (by cases hc; simp; omega))
        | some c =>
          have h2 := h2 c rfl
          have el : reply_last (List.map mk27 (done ++ (some c : Option R).toList)) = mk27 c := by
            show reply_last (List.map mk27 (done ++ [c])) = _
            rw [List.map_append]
            exact last_snoc _ _
          refine pos (by rfl) (pos (by simp) ?_)
          rw [el]
          show Ev _ (out27 (if c.1 = (m : Int) then (if z = true then _ else _) else _))
          by_cases hc : c.1 = (m : Int)
          · refine pos hc (pos ⟨by simp; omega, by show c.2.length < _; omega⟩ ?_)
            rw [if_pos hc]
            have e : reply_put (List.map mk27 (done ++ (some c : Option R).toList)) (S t) = (done ++ [((m : Int), c.2 ++ [S t])]).map mk27 := by
              show reply_put (List.map mk27 (done ++ [c])) (S t) = _
              rw [List.map_append]
              refine (put_snoc _ (mk27 c) _).trans ?_
              rw [List.map_append, ← hc]
              rfl
            show Ev (fun k => reply_Read.l0 k (S l') (reply_put (List.map mk27 (done ++ (some c : Option R).toList)) (S t)) (!z)) _
            rw [e]
            cases z with
            | true =>
              have := ih l' (done ++ [((m : Int), c.2 ++ [S t])]) none (by omega) (by omega) (by simp; omega) (by simp)
              rw [show (none : Option R).toList = [] from rfl, List.append_nil] at this
              exact this
            | false => exact ih l' done (some ((m : Int), c.2 ++ [S t])) (by omega) (by omega) (by omega) (fun c' hc' => (by cases hc'; simp; omega))
          · refine neg hc (now' ?_)
            rw [if_neg hc]
            rfl
theorem read_ev (s : ByteArray) (hs : (L s).length ≤ 2000) : Ev (fun k => reply_Read.f k s) (out27 (go (sp [] (L s)).1 (sp [] (L s)).2 [] none)) := by
  have := pread _ (L s) [] none (Nat.le_refl _) hs (by simp; omega) (by simp)
  rw [S_L] at this
  exact this
end Go.Proofs.YtdjpdbdilcjakaaDoor.Reply
