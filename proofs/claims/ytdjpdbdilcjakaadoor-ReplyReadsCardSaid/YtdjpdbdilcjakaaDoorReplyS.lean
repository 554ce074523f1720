/- Reading replies: the reference, and the law. -/
import Derived.Test.YtdjpdbdilcjakaaDoorReplyQ
namespace Go.Proofs.YtdjpdbdilcjakaaDoor.Reply
open Go.RowKit Go.Proofs.YtdjpdbdilcjakaaDoor.X Go.Proofs.YtdjpdbdilcjakaaDoorW.PrintWords Go.Proofs.YtdjpdbdilcjakaaDoorW.PrintLast Go.Proofs.YtdjpdbdilcjakaaDoorW.PrintMore Go.Proofs.YtdjpdbdilcjakaaDoor.Aid
open Go.Proofs.YtdjpdbdilcjakaaDoor.Glyph (plb plb_ev)
open Go.Proofs.YtdjpdbdilcjakaaDoor.RLines (sp lines_ev sp_count sp_size cut_cr)
set_option linter.unusedVariables false
set_option linter.unusedSimpArgs false

abbrev bad29 : List S29 × Int := ([], 3)
section
variable (x4 : List ByteArray) (x5 : List S29) (x7 : Int) (s : ByteArray) (c0 : Int) (cs : List ByteArray)
theorem r_step (i n : Nat) (hi : i < 3) (hl : i < (L s).length) (hn : n ≤ 1000) (hd : dig (L s)[i] = true) {r : List S29 × Int}
    (h : Ev (fun k => bulletinref30_Read.l1 k x4 x5 x7 s ((10 * n + ((L s)[i].toNat - 48) : Nat) : Int) ((i + 1 : Nat) : Int) c0 cs) r) : Ev (fun k => bulletinref30_Read.l1 k x4 x5 x7 s (n : Int) (i : Int) c0 cs) r := by
  have hd := (dig_iff _).1 hd
  refine up ?_
  simp only [bulletinref30_Read.l1]
  refine pos (by rw [sz]; omega) ?_
  rw [decide_eq_true (show (i : Int) < 3 by omega)]
  refine up ?_
  simp only [bulletinref30_Read.j2]
  refine pos (by trivial) (pos (by omega) (pos (by rw [sz]; omega) ?_))
  rw [btn s i hl]
  refine neg (by omega) (neg (by omega) ?_)
  rw [wi i (by omega), w64 (x := ((L s)[i].toNat : Int)) (by omega) (by omega), w64 (x := 10 * (n : Int)) (by omega) (by omega), w64 (x := 10 * (n : Int) + _) (by omega) (by omega), w64 (x := 10 * (n : Int) + _ - 48) (by omega) (by omega)]
  have e : 10 * (n : Int) + ((L s)[i].toNat : Int) - 48 = ((10 * n + ((L s)[i].toNat - 48) : Nat) : Int) := by omega
  rw [e]
  exact h
theorem r_bad (i n : Nat) (hi : i < 3) (hl : i < (L s).length) (hd : ¬ dig (L s)[i] = true) : Ev (fun k => bulletinref30_Read.l1 k x4 x5 x7 s (n : Int) (i : Int) c0 cs) bad29 := by
  have hd : ¬ _ := fun q => hd ((dig_iff _).2 q)
  refine up ?_
  simp only [bulletinref30_Read.l1]
  refine pos (by rw [sz]; omega) ?_
  rw [decide_eq_true (show (i : Int) < 3 by omega)]
  refine up ?_
  simp only [bulletinref30_Read.j2]
  refine pos (by trivial) (pos (by omega) (pos (by rw [sz]; omega) ?_))
  rw [btn s i hl]
  by_cases h1 : (L s)[i].toNat < 48
  · exact pos (by omega) (Ev.now _)
  · exact neg (by omega) (pos (by omega) (Ev.now _))
theorem j3_bad (n : Int) : Ev (fun k => bulletinref30_Read.j3 k x4 x5 x7 s n true c0 cs) bad29 := by
  refine up ?_
  simp only [bulletinref30_Read.j3]
  exact pos (by trivial) (Ev.now _)
theorem r_short (i n : Nat) (hi : i = (L s).length) (hl : (L s).length < 4) : Ev (fun k => bulletinref30_Read.l1 k x4 x5 x7 s (n : Int) (i : Int) c0 cs) bad29 := by
  refine up ?_
  simp only [bulletinref30_Read.l1]
  refine neg (by rw [sz]; omega) (up ?_)
  simp only [bulletinref30_Read.j2]
  exact neg (by simp) (pos (by rw [sz]; omega) (j3_bad x4 x5 x7 s c0 cs _))
/-- after three digits of a line of four bytes or more -/
theorem r_end (i n : Nat) (hi : i = 3) (a b c d : UInt8) (t : List UInt8) (hL : L s = a :: b :: c :: d :: t) (hs : (L s).length ≤ 100000) (hn : n < 1000) {r : List S29 × Int}
    (h : ((d == 32 || d == 45) && cd n && lnd t) = true → Ev (fun k => bulletinref30_Read.j3 k x4 x5 x7 s (n : Int) false c0 cs) r) (h' : ((d == 32 || d == 45) && cd n && lnd t) = false → r = bad29) :
    Ev (fun k => bulletinref30_Read.l1 k x4 x5 x7 s (n : Int) (i : Int) c0 cs) r := by
  have h4 : (L s).length = t.length + 4 := by rw [hL]; rfl
  have hr := rlined_ev (s.extract 4 s.size) (by rw [L_to_end, List.length_drop]; omega)
  have eL : (L s).drop 4 = t := by rw [hL]; rfl
  rw [L_to_end, eL] at hr
  have hb3 : bt s 3 = (d.toNat : Int) := by
    have e := btn s 3 (by omega)
    have : (L s)[3]'(by omega) = d := by simp [hL]
    rw [this] at e
    exact e
  have nb : r = bad29 → Ev (fun k => bulletinref30_Read.j3 k x4 x5 x7 s (n : Int) true c0 cs) r := fun e => (by rw [e]; exact j3_bad x4 x5 x7 s c0 cs _)
  refine up ?_
  simp only [bulletinref30_Read.l1]
  subst hi
  refine pos (by rw [sz]; omega) ?_
  rw [decide_eq_false (show ¬ ((3 : Nat) : Int) < 3 by omega)]
  refine up ?_
  simp only [bulletinref30_Read.j2]
  refine neg (by simp) (neg (by rw [sz]; omega) (pos (by rw [sz]; omega) ?_))
  rw [hb3]
  have tail : (d == 32 || d == 45) = true → Ev (fun k => (bulletinref30_Coded.f (n : Int)).bind fun t177 => (if t177 = true then (if 4 ≤ (s.size : Int) then ((bulletinref30_Lined.f k (s.extract 4 s.size)).bind fun t178 => (bulletinref30_Read.j3 k x4 x5 x7 s (n : Int) (!t178) c0 cs)) else (none)) else (bulletinref30_Read.j3 k x4 x5 x7 s (n : Int) true c0 cs))) r := by
    intro hd
    rw [hd] at h h'
    refine cbind (coded_all n hn).2 ?_
    cases hc : cd n with
    | false =>
      rw [hc] at h'
      exact neg (by simp) (nb (h' rfl))
    | true =>
      rw [hc] at h h'
      refine pos (by rfl) (pos (by rw [sz]; omega) (Ev.bind hr ?_))
      cases hq : lnd t with
      | false =>
        rw [hq] at h'
        exact nb (h' rfl)
      | true =>
        rw [hq] at h
        exact h rfl
  by_cases h32 : d = 32
  · exact pos (by rw [h32]; rfl) (tail (by rw [h32]; rfl))
  refine neg (fun q => h32 (UInt8.toNat_inj.1 (by show d.toNat = 32; omega))) ?_
  by_cases h45 : d = 45
  · exact pos (by rw [h45]; rfl) (tail (by rw [h45]; rfl))
  refine neg (fun q => h45 (UInt8.toNat_inj.1 (by show d.toNat = 45; omega))) (nb (h' ?_))
  have : (d == 32 || d == 45) = false := by simp [h32, h45]
  rw [this]; rfl
/-- one line -/
theorem r_line (hs : (L s).length ≤ 100000) {r : List S29 × Int} (h : ∀ n t z, ln (L s) = some (n, t, z) → n < 1000 → (∃ a b c d, L s = a :: b :: c :: d :: t ∧ z = (d == 32) ∧ (d = 32 ∨ d = 45)) → Ev (fun k => bulletinref30_Read.j3 k x4 x5 x7 s (n : Int) false c0 cs) r) (h' : ln (L s) = none → r = bad29) :
    Ev (fun k => bulletinref30_Read.l1 k x4 x5 x7 s 0 0 c0 cs) r := by
  have no : ∀ {i n : Nat} {p : Prop}, ln (L s) = none → Ev (fun k => bulletinref30_Read.l1 k x4 x5 x7 s (n : Int) (i : Int) c0 cs) bad29 → Ev (fun k => bulletinref30_Read.l1 k x4 x5 x7 s (n : Int) (i : Int) c0 cs) r := fun e g => (by rw [h' e]; exact g)
  by_cases hsh : (L s).length < 4
  · have hn := ln_short _ hsh
    refine no (i := 0) (n := 0) (p := True) hn ?_
    by_cases l0 : (L s).length = 0
    · exact r_short x4 x5 x7 s c0 cs 0 0 l0.symm hsh
    by_cases d0 : dig ((L s)[0]'(by omega)) = true
    case neg => exact r_bad x4 x5 x7 s c0 cs 0 0 (by omega) (by omega) d0
    have d0' := (dig_iff _).1 d0
    refine r_step x4 x5 x7 s c0 cs 0 0 (by omega) (by omega) (by omega) d0 ?_
    by_cases l1 : (L s).length = 1
    · exact r_short x4 x5 x7 s c0 cs 1 _ l1.symm hsh
    by_cases d1 : dig ((L s)[1]'(by omega)) = true
    case neg => exact r_bad x4 x5 x7 s c0 cs 1 _ (by omega) (by omega) d1
    have d1' := (dig_iff _).1 d1
    refine r_step x4 x5 x7 s c0 cs 1 _ (by omega) (by omega) (by omega) d1 ?_
    by_cases l2 : (L s).length = 2
    · exact r_short x4 x5 x7 s c0 cs 2 _ l2.symm hsh
    by_cases d2 : dig ((L s)[2]'(by omega)) = true
    case neg => exact r_bad x4 x5 x7 s c0 cs 2 _ (by omega) (by omega) d2
    have d2' := (dig_iff _).1 d2
    refine r_step x4 x5 x7 s c0 cs 2 _ (by omega) (by omega) (by omega) d2 ?_
    exact r_short x4 x5 x7 s c0 cs 3 _ (by omega) hsh
  obtain ⟨a, b, c, d, t, hL⟩ : ∃ a b c d t, L s = a :: b :: c :: d :: t := by
    match L s, hsh with
    | [], h => exact absurd (by simp) h
    | [_], h => exact absurd (by simp) h
    | [_, _], h => exact absurd (by simp) h
    | [_, _, _], h => exact absurd (by simp) h
    | a :: b :: c :: d :: t, _ => exact ⟨a, b, c, d, t, rfl⟩
  have h4 : (L s).length = t.length + 4 := by rw [hL]; rfl
  have ga : (L s)[0]'(by omega) = a := by simp [hL]
  have gb : (L s)[1]'(by omega) = b := by simp [hL]
  have gc : (L s)[2]'(by omega) = c := by simp [hL]
  have el := ln_eq a b c d t
  rw [← hL] at el
  by_cases ha : dig a = true
  case neg =>
    rw [Bool.not_eq_true] at ha
    rw [ha] at el
    refine no (i := 0) (n := 0) (p := True) (by rw [el]; rfl) (r_bad x4 x5 x7 s c0 cs 0 0 (by omega) (by omega) (by rw [ga, ha]; simp))
  have ha' := (dig_iff _).1 ha
  refine r_step x4 x5 x7 s c0 cs 0 0 (by omega) (by omega) (by omega) (by rw [ga]; exact ha) ?_
  by_cases hb : dig b = true
  case neg =>
    rw [Bool.not_eq_true] at hb
    rw [hb, Bool.and_false] at el
    refine no (i := 1) (p := True) (by rw [el]; rfl) (r_bad x4 x5 x7 s c0 cs 1 _ (by omega) (by omega) (by rw [gb, hb]; simp))
  have hb' := (dig_iff _).1 hb
  refine r_step x4 x5 x7 s c0 cs 1 _ (by omega) (by omega) (by rw [ga]; omega) (by rw [gb]; exact hb) ?_
  by_cases hc : dig c = true
  case neg =>
    rw [Bool.not_eq_true] at hc
    rw [hc, Bool.and_false] at el
    refine no (i := 2) (p := True) (by rw [el]; rfl) (r_bad x4 x5 x7 s c0 cs 2 _ (by omega) (by omega) (by rw [gc, hc]; simp))
  have hc' := (dig_iff _).1 hc
  refine r_step x4 x5 x7 s c0 cs 2 _ (by omega) (by omega) (by rw [ga, gb]; omega) (by rw [gc]; exact hc) ?_
  have hn := num_small a b c ha hb hc
  have en : 10 * (10 * (10 * 0 + ((L s)[0].toNat - 48)) + ((L s)[1].toNat - 48)) + ((L s)[2].toNat - 48) = num a b c := by rw [ga, gb, gc]; rfl
  rw [en]
  rw [ha, hb, hc, Bool.true_and, Bool.true_and, Bool.true_and] at el
  refine r_end x4 x5 x7 s c0 cs 3 (num a b c) rfl a b c d t hL hs hn (fun q => ?_) (fun q => h' (by rw [el, q]; rfl))
  refine h _ _ _ (by rw [el, q]; rfl) hn ⟨a, b, c, d, hL, rfl, ?_⟩
  have : (d == 32 || d == 45) = true := by
    rw [Bool.and_assoc, Bool.and_eq_true] at q
    exact q.1
  simpa using this
end

/-! ### the reference's walk over the lines -/
def code (c : Option R) : Int := match c with | none => 0 | some c => c.1
def texts (c : Option R) : List ByteArray := match c with | none => [] | some c => c.2
theorem rread (all : List (List UInt8)) (rest : List UInt8) (hall : all.length ≤ 3000) (hsz : ∀ x ∈ all, x.length ≤ 3000) (d : Nat) : ∀ (i : Nat) (done : List R) (cur : Option R), i ≤ all.length → all.length - i = d →
    done.length + d ≤ 4000 → (∀ c, cur = some c → c.2 ≠ [] ∧ c.2.length + d ≤ 4000) →
    Ev (fun k => bulletinref30_Read.l0 k (all.map S ++ [S rest]) (done.map mk29) (i : Int) (code cur) (texts cur)) (out29 (go (all.drop i) rest done cur)) := by
  have hlen : ((all.map S ++ [S rest]).length : Int) = (all.length : Int) + 1 := by simp
  have hw : wrap64 (((all.map S ++ [S rest]).length : Int) - 1) = (all.length : Int) := by rw [hlen, w64 (by omega) (by omega)]; omega
  induction d with
  | zero =>
    intro i done cur hi hd hdn hcur
    obtain rfl : i = all.length := by omega
    refine up ?_
    simp only [bulletinref30_Read.l0]
    rw [hw]
    refine neg (by omega) (pos (by omega) (pos (by rw [hlen]; omega) ?_))
    have e : rdOf ByteArray.empty (all.map S ++ [S rest]) (all.length : Int) = S rest := by
      rw [rdOf_nat _ _ _ (by simp)]
      simp
    rw [e, List.drop_length, tl, L_S]
    simp only [go]
    by_cases hr : rest = []
    · refine pos hr ?_
      rw [if_pos hr]
      cases cur with
      | none => exact neg (by simp [texts]) (Ev.now _)
      | some c =>
        have := (hcur c rfl).1
        have := List.length_pos_iff.2 this
        exact pos (by show ((c.2.length : Nat) : Int) > 0; omega) (Ev.now _)
    · refine neg hr (now' ?_)
      rw [if_neg hr]
      rfl
  | succ d ih =>
    intro i done cur hi hd hdn hcur
    have hlt : i < all.length := by omega
    refine up ?_
    simp only [bulletinref30_Read.l0]
    rw [hw]
    refine pos (by omega) (pos (by omega) (pos (by rw [hlen]; omega) ?_))
    have e : rdOf ByteArray.empty (all.map S ++ [S rest]) (i : Int) = S all[i] := by
      rw [rdOf_nat _ _ _ (by simp; omega)]
      simp [List.getElem_append, hlt]
    rw [e, List.drop_eq_getElem_cons hlt]
    have hx := hsz all[i] (List.getElem_mem hlt)
    generalize hxx : all[i] = x at *
    refine r_line _ _ _ (S x) _ _ (by rw [L_S]; omega) ?_ ?_
    · intro n t z hln hn1 hsh
      rw [L_S] at hln hsh
      obtain ⟨a, b, c, dd, hL, hz, hdd⟩ := hsh
      have hL' : L (S x) = a :: b :: c :: dd :: t := by rw [L_S]; exact hL
      have hl4 : (L (S x)).length = t.length + 4 := by rw [hL']; rfl
      have eS : (S x).extract 4 (S x).size = S t := by
        apply L_inj
        rw [L_to_end, hL', L_S]
        rfl
      have hb3 : bt (S x) 3 = (dd.toNat : Int) := by
        have e := btn (S x) 3 (by omega)
        have : (L (S x))[3]'(by omega) = dd := by simp [hL']
        rw [this] at e
        exact e
      have t4 : ∀ (cs : List ByteArray), cs.length ≤ 4000 → (code cur = (n : Int) ∨ texts cur = []) → Ev (fun k => bulletinref30_Read.j4 k (all.map S ++ [S rest]) (done.map mk29) (i : Int) (S x) (n : Int) false (code cur) (texts cur)) (out29 (if z = true then go (all.drop (i + 1)) rest (done ++ [((n : Int), texts cur ++ [S t])]) none else go (all.drop (i + 1)) rest done (some ((n : Int), texts cur ++ [S t])))) := by
        intro cs _ _
        have htl : (texts cur).length + (d + 1) ≤ 4000 := by
          cases cur with
          | none => simp [texts]; omega
          | some c => exact (hcur c rfl).2
        refine up ?_
        simp only [bulletinref30_Read.j4]
        refine neg (by simp) (pos (by rw [sz]; omega) (pos (by omega) (sbind (pos (by rw [sz]; omega) ?_))))
        rw [hb3, eS, wi i (by omega)]
        rcases hdd with rfl | rfl
        · refine pos (by rfl) (pos (by simp; omega) ?_)
          rw [hz]
          show Ev _ (out29 (go _ _ _ _))
          have := ih (i + 1) (done ++ [((n : Int), texts cur ++ [S t])]) none (by omega) (by omega) (by simp; omega) (by simp)
          rw [List.map_append] at this
          exact this
        · refine neg (by decide) ?_
          rw [hz]
          show Ev _ (out29 (go _ _ _ _))
          exact ih (i + 1) done (some ((n : Int), texts cur ++ [S t])) (by omega) (by omega) (by omega) (fun c hc => (by cases hc; refine ⟨by simp, ?_⟩; simp; omega))
      refine up ?_
      simp only [bulletinref30_Read.j3]
      refine neg (by simp) ?_
      simp only [go, hln]
      cases cur with
      | none =>
        refine neg (by simp [texts]) ?_
        exact t4 [] (by simp) (Or.inr rfl)
      | some c =>
        have hc1 := List.length_pos_iff.2 (hcur c rfl).1
        refine pos (by show ((c.2.length : Nat) : Int) > 0; omega) ?_
        show Ev (fun k => bulletinref30_Read.j4 k _ _ _ _ _ (c.1 != (n : Int)) _ _) (out29 (if c.1 = (n : Int) then _ else _))
        by_cases hc : c.1 = (n : Int)
        · rw [if_pos hc]
          have : (c.1 != (n : Int)) = false := by simp [hc]
          rw [this]
          exact t4 [] (by simp) (Or.inl hc)
        · rw [if_neg hc]
          have : (c.1 != (n : Int)) = true := by simp [hc]
          rw [this]
          refine up ?_
          simp only [bulletinref30_Read.j4]
          exact pos (by trivial) (Ev.now _)
    · intro hln
      rw [L_S] at hln
      simp only [go, hln]
      rfl
theorem refread_ev (s : ByteArray) (hs : (L s).length ≤ 2000) : Ev (fun k => bulletinref30_Read.f k s) (out29 (go (sp [] (L s)).1 (sp [] (L s)).2 [] none)) := by
  unfold bulletinref30_Read.f
  refine Ev.bind (lines_ev s (by omega)) ?_
  have h1 := sp_count _ (L s) [] (Nat.le_refl _)
  have h2 := (sp_size _ (L s) [] (Nat.le_refl _)).1
  exact rread (sp [] (L s)).1 (sp [] (L s)).2 (by omega) (fun x hx => (by have := h2 x hx; simp at this; omega)) _ 0 [] none (by omega) rfl (by simp; omega) (by simp)

/-! ### the same -/
theorem same_l0 (a : List R) (hq : a.length ≤ 10000) (hb : ∀ r ∈ a, r.2.length ≤ 10000) (d : Nat) : ∀ i : Nat, i ≤ a.length → a.length - i = d → Ev (fun k => bulletinlaw30_Same.l0 k (a.map mk27) (a.map mk29) true (i : Int)) true := by
  induction d with
  | zero =>
    intro i hi hd
    refine up ?_
    simp only [bulletinlaw30_Same.l0]
    exact pos (by trivial) (neg (by simp; omega) (Ev.now _))
  | succ d ih =>
    intro i hi hd
    have hlt : i < a.length := by omega
    have e27 : rd_T27 (a.map mk27) (i : Int) = mk27 a[i] := by simp [rd_T27, List.getD, hlt]
    have e29 : rd_T29 (a.map mk29) (i : Int) = mk29 a[i] := by simp [rd_T29, List.getD, hlt]
    have hx := hb a[i] (List.getElem_mem hlt)
    refine up ?_
    simp only [bulletinlaw30_Same.l0]
    refine pos (by trivial) (pos (by simp; omega) (pos (by simp; omega) (pos (by omega) ?_)))
    rw [e27, e29, wi i (by omega)]
    refine pos (by rfl) (Ev.bind (Book.same_ev a[i].2 a[i].2 (by omega) (by omega)) ?_)
    rw [decide_eq_true rfl]
    exact ih (i + 1) (by omega) (by omega)
theorem same_ev (a : List R) (hq : a.length ≤ 10000) (hb : ∀ r ∈ a, r.2.length ≤ 10000) : Ev (fun k => bulletinlaw30_Same.f k (a.map mk27) (a.map mk29)) true := by
  unfold bulletinlaw30_Same.f
  have : (((a.map mk27).length : Int) == ((a.map mk29).length : Int)) = true := by simp
  rw [this]
  exact same_l0 a hq hb _ 0 (by omega) rfl
theorem works_ev : Ev (fun k => bulletinlaw30_works.f k) true := Ev.of bulletinlaw30_works.mono (k := 60) (by decide +kernel)
theorem reads_law (a0 : ByteArray) (h0 : a0.size ≤ 140737488351232) : Ev (fun k => bulletinlaw30_ReplyReads.f k a0) true := by
  unfold bulletinlaw30_ReplyReads.f
  by_cases c1 : (a0.size : Int) > 2000
  · exact pos c1 (Ev.bind works_ev (Ev.now _))
  refine neg c1 ?_
  have hs : (L a0).length ≤ 2000 := by rw [← sz]; omega
  have h1 := sp_count _ (L a0) [] (Nat.le_refl _)
  obtain ⟨g1, g2⟩ := go_small 10000 (sp [] (L a0)).1 (sp [] (L a0)).2 [] none (by simp; omega) (by simp) (by simp)
  refine Ev.bind (read_ev a0 hs) (Ev.bind (refread_ev a0 hs) (Ev.bind (same_ev _ g1 g2) (pos (by rfl) (pos (by rfl) (Ev.bind works_ev (Ev.now _))))))
end Go.Proofs.YtdjpdbdilcjakaaDoor.Reply
