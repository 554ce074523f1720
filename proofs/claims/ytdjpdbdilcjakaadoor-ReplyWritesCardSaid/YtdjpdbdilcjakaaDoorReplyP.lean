/- Lines of a reply: what the printed functions part, coded, lined and the reference's tell of one line. -/
import Derived.Test.YtdjpdbdilcjakaaDoorGPlain
import Derived.Test.YtdjpdbdilcjakaaDoorBookSame
namespace Go.Proofs.YtdjpdbdilcjakaaDoor.Reply
open Go.RowKit Go.Proofs.YtdjpdbdilcjakaaDoor.X Go.Proofs.YtdjpdbdilcjakaaDoorW.PrintWords Go.Proofs.YtdjpdbdilcjakaaDoorW.PrintLast Go.Proofs.YtdjpdbdilcjakaaDoorW.PrintMore Go.Proofs.YtdjpdbdilcjakaaDoor.Aid
open Go.Proofs.YtdjpdbdilcjakaaDoor.Glyph (plb plb_ev)
set_option linter.unusedVariables false
set_option linter.unusedSimpArgs false

def dig (c : UInt8) : Bool := decide (48 ≤ c.toNat ∧ c.toNat ≤ 57)
def cd (n : Nat) : Bool := decide (200 ≤ n ∧ n ≤ 599 ∧ n / 10 % 10 ≤ 5)
def lnd (l : List UInt8) : Bool := plb l && decide (l.length ≤ 500)
def num (a b c : UInt8) : Nat := 10 * (10 * (10 * 0 + (a.toNat - 48)) + (b.toNat - 48)) + (c.toNat - 48)
def ln : List UInt8 → Option (Nat × List UInt8 × Bool)
  | a :: b :: c :: d :: t => if (dig a && dig b && dig c && (d == 32 || d == 45) && cd (num a b c) && lnd t) = true then some (num a b c, t, d == 32) else none
  | _ => none
theorem dig_iff (c : UInt8) : dig c = true ↔ 48 ≤ c.toNat ∧ c.toNat ≤ 57 := by simp [dig]
theorem ln_eq (a b c d : UInt8) (t : List UInt8) : ln (a :: b :: c :: d :: t) = if (dig a && dig b && dig c && (d == 32 || d == 45) && cd (num a b c) && lnd t) = true then some (num a b c, t, d == 32) else none := rfl
theorem ln_short (l : List UInt8) (h : l.length < 4) : ln l = none := by
  match l, h with
  | [], _ => rfl
  | [_], _ => rfl
  | [_, _], _ => rfl
  | [_, _, _], _ => rfl
theorem coded_all : ∀ n : Nat, n < 1000 → reply_coded.f (n : Int) = some (cd n) ∧ bulletinref30_Coded.f (n : Int) = some (cd n) := by decide +kernel
theorem num_small (a b c : UInt8) (ha : dig a = true) (hb : dig b = true) (hc : dig c = true) : num a b c < 1000 := by
  have := (dig_iff a).1 ha
  have := (dig_iff b).1 hb
  have := (dig_iff c).1 hc
  unfold num
  omega
theorem lined_ev (s : ByteArray) : Ev (fun k => reply_lined.f k s) (lnd (L s)) := by
  unfold reply_lined.f
  refine Ev.bind (plb_ev s) ?_
  unfold lnd
  cases plb (L s) with
  | true =>
    refine pos rfl (now' ?_)
    rw [sz, Bool.true_and, Bool.eq_iff_iff, decide_eq_true_eq, decide_eq_true_eq]
    omega
  | false => exact neg (by simp) (Ev.now _)
theorem rlined_l0 (s : ByteArray) (hs : (L s).length ≤ 1000000) (d : Nat) : ∀ i : Nat, i ≤ (L s).length → (L s).length - i = d → Ev (fun k => bulletinref30_Lined.l0 k s (i : Int)) (plb ((L s).drop i) && decide ((L s).length ≤ 500)) := by
  induction d with
  | zero =>
    intro i hi hd
    refine up ?_
    simp only [bulletinref30_Lined.l0]
    refine neg (by rw [sz]; omega) (now' ?_)
    rw [List.drop_eq_nil_of_le (by omega)]
    show _ = (true && _)
    rw [sz, Bool.true_and, Bool.eq_iff_iff, decide_eq_true_eq, decide_eq_true_eq]
    omega
  | succ d ih =>
    intro i hi hd
    have hlt : i < (L s).length := by omega
    have ih := ih (i + 1) (by omega) (by omega)
    have e : plb ((L s).drop i) = (decide (32 ≤ (L s)[i].toNat ∧ (L s)[i].toNat ≤ 126) && plb ((L s).drop (i + 1))) := by
      rw [List.drop_eq_getElem_cons hlt]
      rfl
    rw [e]
    refine up ?_
    simp only [bulletinref30_Lined.l0]
    refine pos (by rw [sz]; omega) (pos (by omega) ?_)
    rw [btn s i hlt]
    by_cases h1 : (L s)[i].toNat < 32
    · refine pos (by omega) ?_
      rw [decide_eq_false (by omega)]
      exact Ev.now _
    refine neg (by omega) ?_
    by_cases h2 : (L s)[i].toNat > 126
    · refine pos (by omega) ?_
      rw [decide_eq_false (by omega)]
      exact Ev.now _
    refine neg (by omega) ?_
    rw [decide_eq_true (by omega), wi i (by omega), Bool.true_and]
    exact ih
theorem rlined_ev (s : ByteArray) (hs : (L s).length ≤ 1000000) : Ev (fun k => bulletinref30_Lined.f k s) (lnd (L s)) := rlined_l0 s hs _ 0 (by omega) rfl

/-! ### the program's part -/
abbrev bad : Int × ByteArray × Bool × Bool := (0, (⟨#[]⟩ : ByteArray), false, false)
theorem p_step (s : ByteArray) (i n : Nat) (hi : i < 3) (hl : i < (L s).length) (hn : n ≤ 1000) (hd : dig (L s)[i] = true) {r : Int × ByteArray × Bool × Bool}
    (h : Ev (fun k => reply_part.l0 k s ((10 * n + ((L s)[i].toNat - 48) : Nat) : Int) ((i + 1 : Nat) : Int)) r) : Ev (fun k => reply_part.l0 k s (n : Int) (i : Int)) r := by
  have hd := (dig_iff _).1 hd
  refine up ?_
  simp only [reply_part.l0]
  refine pos (by omega) (pos (by omega) (pos (by rw [sz]; omega) ?_))
  rw [btn s i hl]
  refine neg (by omega) (neg (by omega) ?_)
  rw [wi i (by omega), w64 (x := 10 * (n : Int)) (by omega) (by omega), w64 (x := 10 * (n : Int) + _) (by omega) (by omega)]
  have e : 10 * (n : Int) + (((L s)[i].toNat : Int) - 48) % 256 = ((10 * n + ((L s)[i].toNat - 48) : Nat) : Int) := by omega
  rw [e]
  exact h
theorem p_bad (s : ByteArray) (i n : Nat) (hi : i < 3) (hl : i < (L s).length) (hd : ¬ dig (L s)[i] = true) : Ev (fun k => reply_part.l0 k s (n : Int) (i : Int)) bad := by
  have hd : ¬ _ := fun q => hd ((dig_iff _).2 q)
  refine up ?_
  simp only [reply_part.l0]
  refine pos (by omega) (pos (by omega) (pos (by rw [sz]; omega) ?_))
  rw [btn s i hl]
  by_cases h1 : (L s)[i].toNat < 48
  · exact pos (by omega) (Ev.now _)
  · exact neg (by omega) (pos (by omega) (Ev.now _))
theorem p_end (s : ByteArray) (i n : Nat) (hi : i = 3) (hl : 4 ≤ (L s).length) (hn : n < 1000) :
    Ev (fun k => reply_part.l0 k s (n : Int) (i : Int)) ((n : Int), s.extract 4 s.size, ((s.extract 3 4).toList == ([32] : List UInt8)), cd n && lnd ((L s).drop 4)) := by
  refine up ?_
  simp only [reply_part.l0]
  refine neg (by omega) (pos (by rw [sz]; omega) (pos (by decide) (cbind (coded_all n hn).1 ?_)))
  have hl := lined_ev (s.extract 4 s.size)
  rw [L_to_end] at hl
  cases cd n with
  | true => exact pos rfl (Ev.bind hl (Ev.now _))
  | false => exact neg (by simp) (Ev.now _)
theorem part_ev (s : ByteArray) : ∃ p, Ev (fun k => reply_part.f k s) p ∧ (ln (L s) = none → p.2.2.2 = false) ∧ ∀ n t z, ln (L s) = some (n, t, z) → p = ((n : Int), S t, z, true) := by
  unfold reply_part.f
  by_cases hsh : (L s).length < 4
  · refine ⟨bad, pos (by rw [sz]; omega) (up ?_), fun _ => rfl, fun n t z e => ?_⟩
    · simp only [reply_part.j0]
      exact pos (by trivial) (Ev.now _)
    · rw [ln_short _ hsh] at e
      cases e
  obtain ⟨a, b, c, d, t, hL⟩ : ∃ a b c d t, L s = a :: b :: c :: d :: t := by
    match L s, hsh with
    | [], h => exact absurd (by simp) h
    | [_], h => exact absurd (by simp) h
    | [_, _], h => exact absurd (by simp) h
    | [_, _, _], h => exact absurd (by simp) h
    | a :: b :: c :: d :: t, _ => exact ⟨a, b, c, d, t, rfl⟩
  have h4 : 4 ≤ (L s).length := by omega
  have e34 : (s.extract 3 4).toList = [d] := by rw [tl, L_ext, hL]; rfl
  have eL : (L s).drop 4 = t := by rw [hL]; rfl
  have eS : s.extract 4 s.size = S t := by
    apply L_inj
    rw [L_to_end, eL, L_S]
  have ga : (L s)[0]'(by omega) = a := by simp [hL]
  have gb : (L s)[1]'(by omega) = b := by simp [hL]
  have gc : (L s)[2]'(by omega) = c := by simp [hL]
  have no : ∀ {q : Prop}, (dig a && dig b && dig c && (d == 32 || d == 45) && cd (num a b c) && lnd t) = false → (ln (L s) = none → bad.2.2.2 = false) ∧ ∀ n t z, ln (L s) = some (n, t, z) → bad = ((n : Int), S t, z, true) := by
    intro q h
    refine ⟨fun _ => rfl, fun n t z e => ?_⟩
    rw [hL, ln_eq, h, if_neg (by simp)] at e
    cases e
  -- the digits
  have body : (d == 32 || d == 45) = true → ∃ p, Ev (fun k => reply_part.l0 k s 0 0) p ∧ (ln (L s) = none → p.2.2.2 = false) ∧ ∀ n t z, ln (L s) = some (n, t, z) → p = ((n : Int), S t, z, true) := by
    intro hd
    by_cases ha : dig a = true
    case neg =>
      refine ⟨bad, p_bad s 0 0 (by omega) (by omega) (by rw [ga]; exact ha), no (q := True) ?_⟩
      rw [Bool.not_eq_true] at ha
      rw [ha]; rfl
    have ha' := (dig_iff _).1 ha
    by_cases hb : dig b = true
    case neg =>
      refine ⟨bad, p_step s 0 0 (by omega) (by omega) (by omega) (by rw [ga]; exact ha) (p_bad s 1 _ (by omega) (by omega) (by rw [gb]; exact hb)), no (q := True) ?_⟩
      rw [Bool.not_eq_true] at hb
      rw [hb, Bool.and_false]; rfl
    have hb' := (dig_iff _).1 hb
    by_cases hc : dig c = true
    case neg =>
      refine ⟨bad, p_step s 0 0 (by omega) (by omega) (by omega) (by rw [ga]; exact ha) (p_step s 1 _ (by omega) (by omega) (by rw [ga]; omega) (by rw [gb]; exact hb) (p_bad s 2 _ (by omega) (by omega) (by rw [gc]; exact hc))), no (q := True) ?_⟩
      rw [Bool.not_eq_true] at hc
      rw [hc, Bool.and_false]; rfl
    have hc' := (dig_iff _).1 hc
    have hn := num_small a b c ha hb hc
    have en : 10 * (10 * (10 * 0 + ((L s)[0].toNat - 48)) + ((L s)[1].toNat - 48)) + ((L s)[2].toNat - 48) = num a b c := by rw [ga, gb, gc]; rfl
    refine ⟨_, p_step s 0 0 (by omega) (by omega) (by omega) (by rw [ga]; exact ha) (p_step s 1 _ (by omega) (by omega) (by rw [ga]; omega) (by rw [gb]; exact hb) (p_step s 2 _ (by omega) (by omega) (by rw [ga, gb]; omega) (by rw [gc]; exact hc) (p_end s 3 _ rfl h4 (by rw [en]; exact hn)))), ?_⟩
    rw [en, eL, eS, e34, hL, ln_eq, ha, hb, hc, hd]
    simp only [Bool.true_and]
    cases hq : (cd (num a b c) && lnd t) with
    | false => exact ⟨fun _ => rfl, fun n t z e => (by rw [if_neg (by simp)] at e; cases e)⟩
    | true =>
      refine ⟨fun e => (by rw [if_pos rfl] at e; cases e), fun n t' z e => ?_⟩
      rw [if_pos rfl] at e
      cases e
      have : (([d] : List UInt8) == [32]) = (d == 32) := by
        show (d == 32 && true) = _
        rw [Bool.and_true]
      rw [this]
  by_cases hd : (d == 32 || d == 45) = true
  · obtain ⟨p, h1, h2⟩ := body hd
    refine ⟨p, neg (by rw [sz]; omega) (pos (by decide) (pos (by rw [sz]; omega) ?_)), h2⟩
    by_cases h32 : d = 32
    · refine pos (by rw [e34, h32]) (up ?_)
      simp only [reply_part.j0]
      exact neg (by simp) h1
    · refine neg (by rw [e34]; simpa using h32) ?_
      have h45 : d = 45 := by simpa [h32] using hd
      have : ((s.extract 3 4).toList != ([45] : List UInt8)) = false := by rw [e34, h45]; rfl
      rw [this]
      refine up ?_
      simp only [reply_part.j0]
      exact neg (by simp) h1
  · refine ⟨bad, neg (by rw [sz]; omega) (pos (by decide) (pos (by rw [sz]; omega) ?_)), no (q := True) ?_⟩
    · have h32 : d ≠ 32 := by rintro rfl; exact hd rfl
      have h45 : d ≠ 45 := by rintro rfl; exact hd rfl
      refine neg (by rw [e34]; simpa using h32) ?_
      have : ((s.extract 3 4).toList != ([45] : List UInt8)) = true := by
        rw [e34]
        simpa using h45
      rw [this]
      refine up ?_
      simp only [reply_part.j0]
      exact pos (by trivial) (Ev.now _)
    · rw [Bool.not_eq_true] at hd
      rw [hd, Bool.and_false]; rfl
end Go.Proofs.YtdjpdbdilcjakaaDoor.Reply
