/- What the reference of package verb tells, and the law VerbReads. -/
import Derived.Test.YtaamnpomclenpaaDoorVerbP
namespace Go.Proofs.YtaamnpomclenpaaDoor.Verb
open Go.RowKit Go.Proofs.YtaamnpomclenpaaDoor.X Go.Proofs.YtaamnpomclenpaaDoorW.PrintWords Go.Proofs.YtaamnpomclenpaaDoorW.PrintLast Go.Proofs.YtaamnpomclenpaaDoorW.PrintMore Go.Proofs.YtaamnpomclenpaaDoor.Aid Go.Proofs.YtaamnpomclenpaaDoor.Glyph
open Go.Lib (cut trimB trimLeftB trimRightB)
set_option linter.unusedVariables false
set_option linter.unusedSimpArgs false

theorem word_eq (i : Nat) (h0 : 0 < i) (h9 : i ≤ 9) : bulletinref27_word.f (i : Int) = some (wordOf i) := by
  have : i = 1 ∨ i = 2 ∨ i = 3 ∨ i = 4 ∨ i = 5 ∨ i = 6 ∨ i = 7 ∨ i = 8 ∨ i = 9 := by omega
  have e : ∀ (i : Nat), wrap64 ((wrap64 (4 * (i : Int))) - 4) = 4 * (i : Int) - 4 ∧ wrap64 (4 * (i : Int)) = 4 * (i : Int) ∨ ¬ i ≤ 9 ∨ i = 0 := by
    intro i
    by_cases h : i ≤ 9 ∧ i ≠ 0
    · left
      rw [w64 (x := 4 * (i : Int)) (by omega) (by omega), w64 (by omega) (by omega)]
      exact ⟨rfl, rfl⟩
    · right; omega
  unfold bulletinref27_word.f
  rcases e i with ⟨e1, e2⟩ | h | h
  · rw [e1, e2, if_pos (by omega), if_pos (by omega), if_pos (by omega)]
    congr 1
    apply L_inj
    have k : ∀ j : Nat, j < 9 → L ((⟨#[72, 69, 76, 79, 69, 72, 76, 79, 77, 65, 73, 76, 82, 67, 80, 84, 68, 65, 84, 65, 82, 83, 69, 84, 78, 79, 79, 80, 86, 82, 70, 89, 81, 85, 73, 84]⟩ : ByteArray).extract (4 * j) (4 * j + 4)) = L (wordOf (j + 1)) := by decide +kernel
    have := k (i - 1) (by omega)
    rw [show i - 1 + 1 = i from by omega] at this
    rw [← this, show (4 * (i : Int) - 4).toNat = 4 * (i - 1) from by omega, show (4 * (i : Int)).toNat = 4 * (i - 1) + 4 from by omega]
  · omega
  · omega

/-! ### the end of the reference's Read -/
def outE (r : Int × List UInt8 × Int) : Int × ByteArray × Int := out r
theorem j6_no (v : Nat) (b : List UInt8) : Ev (fun k => bulletinref27_Read.j6 k true (v : Int) (S b)) (out (0, [], 3)) := by
  refine up ?_
  simp only [bulletinref27_Read.j6]
  exact pos (by trivial) (now' rfl)
theorem j5_ev (v : Nat) (h0 : 0 < v) (b : List UInt8) : Ev (fun k => bulletinref27_Read.j5 k (v : Int) (S b)) (out (rest v b)) := by
  refine up ?_
  simp only [bulletinref27_Read.j5]
  unfold rest
  by_cases hb : b = []
  · refine pos (by rw [tl, L_S]; exact hb) ?_
    have j6 : ∀ q : Bool, q = needs v → Ev (fun k => bulletinref27_Read.j6 k q (v : Int) (S b)) (out (if (b = [] ∧ needs v = true) ∨ (b ≠ [] ∧ bans v = true) then (0, [], 3) else ((v : Int), b, 0))) := by
      rintro q rfl
      cases hn : needs v with
      | true => rw [if_pos (Or.inl ⟨hb, rfl⟩)]; exact j6_no v b
      | false =>
        refine up ?_
        simp only [bulletinref27_Read.j6]
        refine neg (by simp) (pos (by rw [tl, L_S]; exact hb) (now' ?_))
        rw [if_neg (fun q => Or.elim q (fun h => absurd h.2 (by simp)) (fun h => h.1 hb))]
        rfl
    by_cases h4 : (v : Int) ≤ 4
    · exact pos h4 (j6 true (by unfold needs; rw [decide_eq_true (show v ≤ 4 by omega)]; rfl))
    · refine neg h4 (j6 _ ?_)
      unfold needs
      rw [decide_eq_false (show ¬ v ≤ 4 by omega), Bool.false_or, Bool.eq_iff_iff, beq_iff_eq]
      simp only [decide_eq_true_eq]
      omega
  · refine neg (by rw [tl, L_S]; exact hb) (up ?_)
    simp only [bulletinref27_Read.j6]
    refine neg (by simp) (neg (by rw [tl, L_S]; exact hb) ?_)
    have no : bans v = true → some (0, (⟨#[]⟩ : ByteArray), 3) = some (out (if (b = [] ∧ needs v = true) ∨ (b ≠ [] ∧ bans v = true) then (0, [], 3) else ((v : Int), b, 0))) := by
      intro h
      rw [if_pos (Or.inr ⟨hb, h⟩)]
      rfl
    by_cases h5 : v = 5
    · exact pos (by omega) (now' (Option.some.inj (no (by rw [h5]; rfl))))
    by_cases h6 : v = 6
    · exact neg (by omega) (pos (by omega) (now' (Option.some.inj (no (by rw [h6]; rfl)))))
    by_cases h9 : v = 9
    · exact neg (by omega) (neg (by omega) (pos (by omega) (now' (Option.some.inj (no (by rw [h9]; rfl))))))
    refine neg (by omega) (neg (by omega) (neg (by omega) (now' ?_)))
    have hn : bans v = false := by
      unfold bans
      rw [decide_eq_false h5, decide_eq_false h6, decide_eq_false h9]
      rfl
    rw [if_neg (fun q => Or.elim q (fun h => hb h.1) (fun h => absurd h.2 (by rw [hn]; simp)))]
    rfl
theorem l2_fin (s : ByteArray) (hs : (L s).length ≤ 1000000) (p v : Nat) (h0 : 0 < v) (h9 : v ≤ 9) (hp : p ≤ (L s).length) (a : List UInt8) (ha : a = tr ((L s).drop p)) :
    Ev (fun k => (if 0 ≤ (p : Int) then (if (p : Int) ≤ (s.size : Int) then ((bulletinref27_trim.f k (s.extract (p : Int).toNat s.size)).bind fun t127 => (if (v : Int) = 3 then (if (t127.size : Int) < 5 then (some (0, (⟨#[]⟩ : ByteArray), 3)) else (if 0 ≤ 5 then (if 5 ≤ (t127.size : Int) then ((bulletinref06_Fold.f k (t127.extract 0 5)).bind fun t128 => (if t128.toList = ([102, 114, 111, 109, 58] : List UInt8) then ((bulletinref27_trim.f k (t127.extract 5 t127.size)).bind fun t129 => (bulletinref27_Read.j4 k (v : Int) t129)) else (some (0, (⟨#[]⟩ : ByteArray), 3)))) else (none)) else (none))) else (bulletinref27_Read.j4 k (v : Int) t127))) else (none)) else (none))) (out (rdV v true a)) := by
  refine pos (by omega) (pos (by rw [sz]; omega) ?_)
  have e1 : s.extract ((p : Nat) : Int).toNat s.size = S ((L s).drop p) := by
    apply L_inj
    rw [L_to_end, L_S]
    rfl
  rw [e1]
  refine Ev.bind (reftrim_ev _ (by rw [List.length_drop]; omega)) ?_
  rw [← ha]
  have hal : a.length ≤ 1000000 := by
    rw [ha]
    have := tr_len ((L s).drop p)
    rw [List.length_drop] at this
    omega
  have hta : tr a = a := by rw [ha, tr_tr]
  clear ha e1
  have za := zS a
  unfold rdV
  rw [if_neg (by omega), if_pos rfl]
  have no : ∀ r, r = out (0, [], 3) → Ev (fun _ : Nat => some (0, (⟨#[]⟩ : ByteArray), 3)) r := by rintro r rfl; exact now' rfl
  have j5only : frL v = [] → ∀ r, r = out (if (frL v).length ≤ a.length ∧ foldL (a.take (frL v).length) = foldL (frL v) then rest v (tr (a.drop (frL v).length)) else (0, [], 3)) → Ev (fun k => bulletinref27_Read.j5 k (v : Int) (S a)) r := by
    rintro h r rfl
    rw [h, if_pos ⟨by simp, by simp⟩]
    show Ev _ (out (rest v (tr a)))
    rw [hta]
    exact j5_ev v h0 a
  by_cases h3 : v = 3
  · subst h3
    have fe : frL 3 = [70, 82, 79, 77, 58] := rfl
    rw [fe]
    refine pos (by rfl) ?_
    by_cases h5 : a.length < 5
    · refine pos (by omega) (no _ ?_)
      rw [if_neg (fun q => by have := q.1; simp only [List.length_cons, List.length_nil] at this; omega)]
    refine neg (by omega) (pos (by omega) (pos (by omega) ?_))
    have e2 : (S a).extract 0 5 = S (a.take 5) := by apply L_inj; rw [L_from_start, L_S, L_S]
    rw [e2]
    refine Ev.bind (reffold_ev _ (by rw [L_S, List.length_take]; omega)) ?_
    rw [L_S, tl, L_S]
    have ff : foldL [70, 82, 79, 77, 58] = [102, 114, 111, 109, 58] := by decide
    by_cases hf : foldL (a.take 5) = [102, 114, 111, 109, 58]
    · refine pos hf ?_
      have e3 : (S a).extract 5 (S a).size = S (a.drop 5) := by apply L_inj; rw [L_to_end, L_S, L_S]
      rw [e3]
      refine Ev.bind (reftrim_ev _ (by rw [List.length_drop]; omega)) (up ?_)
      simp only [bulletinref27_Read.j4]
      refine neg (by omega) ?_
      rw [if_pos ⟨by show 5 ≤ a.length; omega, by rw [ff]; exact hf⟩]
      exact j5_ev 3 (by omega) _
    · refine neg hf (no _ ?_)
      rw [if_neg (fun q => hf (by rw [← ff]; exact q.2))]
  refine neg (by omega) (up ?_)
  simp only [bulletinref27_Read.j4]
  by_cases h4 : v = 4
  · subst h4
    have fe : frL 4 = [84, 79, 58] := rfl
    rw [fe]
    refine pos (by rfl) ?_
    by_cases h5 : a.length < 3
    · refine pos (by omega) (no _ ?_)
      rw [if_neg (fun q => by have := q.1; simp only [List.length_cons, List.length_nil] at this; omega)]
    refine neg (by omega) (pos (by omega) (pos (by omega) ?_))
    have e2 : (S a).extract 0 3 = S (a.take 3) := by apply L_inj; rw [L_from_start, L_S, L_S]
    rw [e2]
    refine Ev.bind (reffold_ev _ (by rw [L_S, List.length_take]; omega)) ?_
    rw [L_S, tl, L_S]
    have ff : foldL [84, 79, 58] = [116, 111, 58] := by decide
    by_cases hf : foldL (a.take 3) = [116, 111, 58]
    · refine pos hf ?_
      have e3 : (S a).extract 3 (S a).size = S (a.drop 3) := by apply L_inj; rw [L_to_end, L_S, L_S]
      rw [e3]
      refine Ev.bind (reftrim_ev _ (by rw [List.length_drop]; omega)) ?_
      rw [if_pos ⟨by show 3 ≤ a.length; omega, by rw [ff]; exact hf⟩]
      exact j5_ev 4 (by omega) _
    · refine neg hf (no _ ?_)
      rw [if_neg (fun q => hf (by rw [← ff]; exact q.2))]
  · refine neg (by omega) (j5only ?_ _ rfl)
    unfold frL
    rw [if_neg h3, if_neg h4]
theorem l2_ev (s : ByteArray) (hs : (L s).length ≤ 1000000) (p v : Nat) (h0 : 0 < v) (h9 : v ≤ 9) (hp : p ≤ (L s).length) (a : List UInt8) (ha : a = tr ((L s).drop p)) (d : Nat) : ∀ i : Nat, i ≤ (L s).length → (L s).length - i = d →
    Ev (fun k => bulletinref27_Read.l2 k s (p : Int) (i : Int) (v : Int) (⟨#[]⟩ : ByteArray)) (out (rdV v (plb ((L s).drop i)) a)) := by
  induction d with
  | zero =>
    intro i hi hd
    refine up ?_
    simp only [bulletinref27_Read.l2]
    refine neg (by rw [sz]; omega) ?_
    rw [List.drop_eq_nil_of_le (by omega)]
    exact l2_fin s hs p v h0 h9 hp a ha
  | succ d ih =>
    intro i hi hd
    have hil : i < (L s).length := by omega
    refine up ?_
    simp only [bulletinref27_Read.l2]
    rw [btn s i hil, wi i (by omega), List.drop_eq_getElem_cons hil]
    have hx := (L s)[i].toNat_lt
    have e : plb ((L s)[i] :: (L s).drop (i + 1)) = (decide (32 ≤ (L s)[i].toNat ∧ (L s)[i].toNat ≤ 126) && plb ((L s).drop (i + 1))) := rfl
    rw [e]
    refine pos (by rw [sz]; omega) (pos (by omega) ?_)
    have no : ¬ (32 ≤ (L s)[i].toNat ∧ (L s)[i].toNat ≤ 126) → (0, (⟨#[]⟩ : ByteArray), 3) = out (rdV v (decide (32 ≤ (L s)[i].toNat ∧ (L s)[i].toNat ≤ 126) && plb ((L s).drop (i + 1))) a) := by
      intro h
      rw [decide_eq_false h, Bool.false_and]
      unfold rdV
      rw [if_neg (by omega), if_neg (by simp)]
      rfl
    by_cases c1 : (L s)[i].toNat < 32
    · exact pos (by omega) (now' (no (by omega)))
    refine neg (by omega) ?_
    by_cases c2 : (L s)[i].toNat > 126
    · exact pos (by omega) (now' (no (by omega)))
    refine neg (by omega) ?_
    rw [decide_eq_true (show 32 ≤ (L s)[i].toNat ∧ (L s)[i].toNat ≤ 126 by omega), Bool.true_and]
    exact ih (i + 1) (by omega) (by omega)
theorem l1_ev (s : ByteArray) (hs : (L s).length ≤ 1000000) (p : Nat) (hp : p ≤ (L s).length) (d : Nat) : ∀ v : Nat, d ≤ 9 → v ≤ 9 →
    Ev (fun k => bulletinref27_Read.l1 k s (p : Int) ((10 - d : Nat) : Int) (v : Int) (⟨#[]⟩ : ByteArray)) (out (rdV (rn d v (foldL ((L s).take p))) (plb (L s)) (tr ((L s).drop p)))) := by
  induction d with
  | zero =>
    intro v _ hv
    refine up ?_
    simp only [bulletinref27_Read.l1]
    refine neg (by omega) ?_
    simp only [rn]
    by_cases h : v = 0
    · refine pos (by omega) (now' ?_)
      unfold rdV
      rw [if_pos h]
      rfl
    · exact neg (by omega) (l2_ev s hs p v (by omega) hv hp _ rfl _ 0 (by omega) rfl)
  | succ d ih =>
    intro v hd hv
    refine up ?_
    simp only [bulletinref27_Read.l1]
    have e10 : 10 - (d + 1) = 9 - d := by omega
    rw [e10]
    refine pos (by omega) (cbind (word_eq (9 - d) (by omega) (by omega)) (Ev.bind (reffold_ev _ (wordOf_small _)) (pos (by omega) (pos (by rw [sz]; omega) ?_))))
    have e1 : s.extract 0 ((p : Nat) : Int).toNat = S ((L s).take p) := by apply L_inj; rw [L_from_start, L_S]; rfl
    rw [e1]
    refine Ev.bind (reffold_ev _ (by rw [L_S, List.length_take]; omega)) ?_
    rw [L_S, wi (9 - d) (by omega)]
    simp only [rn]
    have en : 9 - d + 1 = 10 - d := by omega
    rw [en]
    by_cases h : lw (9 - d) = foldL ((L s).take p)
    · rw [if_pos h]
      exact pos ((S_eq _ _).2 h) (ih (9 - d) (by omega) (by omega))
    · rw [if_neg h]
      exact neg (fun q => h ((S_eq _ _).1 q)) (ih v (by omega) hv)
theorem refread_l0 (s : ByteArray) (hs : (L s).length ≤ 1000000) (d : Nat) : ∀ i : Nat, i ≤ (L s).length → (L s).length - i = d → (∀ c ∈ (L s).take i, c ≠ 32) →
    Ev (fun k => bulletinref27_Read.l0 k s (i : Int)) (out (rdL (L s))) := by
  have fin : ∀ i : Nat, i ≤ (L s).length → (∀ c ∈ (L s).take i, c ≠ 32) → (i = (L s).length ∨ (L s)[i]? = some 32) → Ev (fun k => bulletinref27_Read.j1 k s (i : Int)) (out (rdL (L s))) := by
    intro i hi hall hend
    refine up ?_
    simp only [bulletinref27_Read.j1]
    have := l1_ev s hs i hi 9 0 (by omega) (by omega)
    rw [rn_kn] at this
    have key : ∀ l : List UInt8, ∀ i, i ≤ l.length → (∀ c ∈ l.take i, c ≠ 32) → (i = l.length ∨ l[i]? = some 32) → wd l = l.take i ∧ l.dropWhile (fun b => !(b == 32)) = l.drop i := by
      intro l
      induction l with
      | nil => intro i hi _ _; simp at hi; subst hi; exact ⟨rfl, rfl⟩
      | cons x l ih =>
        intro i hi hall hend
        cases i with
        | zero =>
          rcases hend with h | h
          · simp at h
          · have : x = 32 := by simpa using h
            subst this
            exact ⟨rfl, rfl⟩
        | succ i =>
          have hx : x ≠ 32 := hall x (by simp)
          have hx2 : (!(x == 32)) = true := by simpa using hx
          obtain ⟨i1, i2⟩ := ih i (by simpa using hi) (fun c hc => hall c (by rw [List.take_succ_cons]; exact List.mem_cons_of_mem _ hc)) (by simpa using hend)
          unfold wd at i1 ⊢
          rw [List.takeWhile_cons, List.dropWhile_cons, hx2, if_pos rfl, if_pos rfl, i1, i2]
          exact ⟨rfl, rfl⟩
    obtain ⟨k1, k2⟩ := key (L s) i hi hall hend
    have e : rdL (L s) = rdV (kn 10 (foldL ((L s).take i))) (plb (L s)) (tr ((L s).drop i)) := by
      unfold rdL be
      rw [k1, k2]
      congr 1
      rcases hend with h | h
      · rw [h, List.drop_length]; rfl
      · have hil : i < (L s).length := by
          have := (List.getElem?_eq_some_iff.1 h).1
          exact this
        have hx : (L s)[i] = 32 := by
          have := (List.getElem?_eq_some_iff.1 h).2
          exact this
        rw [List.drop_eq_getElem_cons hil, hx, tr_cons_blank]
        rfl
    rw [e]
    exact this
  induction d with
  | zero =>
    intro i hi hd hall
    refine up ?_
    simp only [bulletinref27_Read.l0]
    exact neg (by rw [sz]; omega) (fin i hi hall (Or.inl (by omega)))
  | succ d ih =>
    intro i hi hd hall
    have hil : i < (L s).length := by omega
    refine up ?_
    simp only [bulletinref27_Read.l0]
    refine pos (by rw [sz]; omega) (pos (by omega) ?_)
    rw [btn s i hil, wi i (by omega)]
    by_cases h : (L s)[i] = 32
    · exact pos (by rw [h]; rfl) (fin i hi hall (Or.inr (by rw [List.getElem?_eq_getElem hil, h])))
    · refine neg (fun e => h (u8i (d := 32) e)) (ih (i + 1) (by omega) (by omega) ?_)
      intro c hc
      rw [List.take_add_one, List.getElem?_eq_getElem hil] at hc
      rcases List.mem_append.1 hc with hc | hc
      · exact hall c hc
      · have : c = (L s)[i] := by simpa using hc
        rw [this]; exact h
theorem refread_ev (s : ByteArray) (hs : (L s).length ≤ 1000000) : Ev (fun k => bulletinref27_Read.f k s) (out (rdL (L s))) := refread_l0 s hs _ 0 (by omega) rfl (by simp)

/-! ### Text -/
def txL (v : Int) (b : List UInt8) : List UInt8 := if v < 1 ∨ v > 9 then [] else if b = [] then L (wordOf v.toNat) else L (wordOf v.toNat) ++ [32] ++ frL v.toNat ++ b
theorem text_eq (v : Int) (b : ByteArray) (hb : (L b).length ≤ 100000) : verb_Command_Text.f v b = some (S (txL v (L b))) := by
  unfold verb_Command_Text.f txL
  by_cases c1 : v < 1
  · rw [if_pos c1, if_pos (Or.inl c1)]; rfl
  rw [if_neg c1]
  by_cases c2 : v > 9
  · rw [if_pos c2, if_pos (Or.inr c2)]; rfl
  rw [if_neg c2, if_neg (show ¬ (v < 1 ∨ v > 9) by omega)]
  by_cases c3 : L b = []
  · rw [if_pos (by rw [tl]; exact c3), if_pos c3, S_L]
  rw [if_neg (by rw [tl]; exact c3), if_neg c3]
  obtain ⟨n, rfl⟩ : ∃ n : Nat, v = (n : Int) := ⟨v.toNat, by omega⟩
  rw [front_eq, Int.toNat_natCast]
  have := frL_len n
  show (if (S (frL n)).size + b.size ≤ 1000000 then _ else none) = _
  rw [if_pos (by rw [zS, sz]; omega)]
  refine congrArg some (L_inj ?_)
  rw [L_app, L_app, L_app, L_S, L_S]
  rfl
theorem reftext_ev (v : Int) (b : ByteArray) (hb : (L b).length ≤ 100000) : Ev (fun k => bulletinref27_Text.f k v b) (S (txL v (L b))) := by
  unfold bulletinref27_Text.f txL
  have yes : Ev (fun k => bulletinref27_Text.j0 k true v b) (S []) := by
    refine up ?_
    simp only [bulletinref27_Text.j0]
    exact pos (by trivial) (Ev.now _)
  by_cases c1 : v < 1
  · rw [if_pos (Or.inl c1)]; exact pos c1 yes
  refine neg c1 ?_
  by_cases c2 : v > 9
  · rw [if_pos (Or.inr c2), decide_eq_true c2]; exact yes
  rw [if_neg (by omega), decide_eq_false c2]
  obtain ⟨n, rfl⟩ : ∃ n : Nat, v = (n : Int) := ⟨v.toNat, by omega⟩
  rw [Int.toNat_natCast]
  have hs := verb_wordOf_size n
  have zb := sz b
  refine up ?_
  simp only [bulletinref27_Text.j0]
  refine neg (by simp) ?_
  by_cases c3 : L b = []
  · rw [if_pos c3, S_L]
    exact pos (by rw [tl]; exact c3) (cbind (word_eq n (by omega) (by omega)) (Ev.now _))
  rw [if_neg c3]
  refine neg (by rw [tl]; exact c3) ?_
  by_cases h3 : n = 3
  · refine pos (by omega) (pos (by omega) (now' ?_))
    subst h3
    apply L_inj
    rw [L_app, L_S]
    rfl
  refine neg (by omega) ?_
  by_cases h4 : n = 4
  · refine pos (by omega) (pos (by omega) (now' ?_))
    subst h4
    apply L_inj
    rw [L_app, L_S]
    rfl
  have z1 : (⟨#[32]⟩ : ByteArray).size = 1 := rfl
  refine neg (by omega) (cbind (word_eq n (by omega) (by omega)) (pos (by omega) (pos (by rw [ByteArray.size_append]; omega) (now' ?_))))
  apply L_inj
  rw [L_app, L_app, L_S]
  have : frL n = [] := by unfold frL; rw [if_neg h3, if_neg h4]
  rw [this, List.append_nil]
  rfl

/-! ### the law -/
theorem works_ev : Ev (fun k => bulletinlaw27_works.f k) true := by
  unfold bulletinlaw27_works.f
  have e1 : rdL (L ⟨#[109, 97, 105, 108, 32, 102, 114, 111, 109, 58, 32, 60, 97, 64, 98, 62]⟩) = (3, [60, 97, 64, 98, 62], 0) := by decide +kernel
  have e2 : txL 3 [60, 97, 64, 98, 62] = [77, 65, 73, 76, 32, 70, 82, 79, 77, 58, 60, 97, 64, 98, 62] := by decide +kernel
  refine Ev.bind (read_ev _ (Nat.le_of_ble_eq_true rfl)) ?_
  rw [e1]
  refine pos (by rfl) (pos (by show ((3 : Int) == 3 && (S [60, 97, 64, 98, 62]).toList == [60, 97, 64, 98, 62]) = true; rw [tl, L_S]; rfl) (cbind (text_eq _ _ (Nat.le_of_ble_eq_true rfl)) (now' ?_)))
  have e3 : (out (3, [60, 97, 64, 98, 62], 0)).1 = 3 := rfl
  have e4 : L (out (3, [60, 97, 64, 98, 62], 0)).2.1 = [60, 97, 64, 98, 62] := L_S _
  rw [e3, e4, e2, tl, L_S]
  rfl
theorem reads_law (a0 : ByteArray) (v : Int) (b : ByteArray) (h0 : a0.size ≤ 140737488351232) : Ev (fun k => bulletinlaw27_VerbReads.f k a0 v b) true := by
  unfold bulletinlaw27_VerbReads.f
  have yes : Ev (fun k => bulletinlaw27_VerbReads.j0 k a0 true v b) true := by
    refine up ?_
    simp only [bulletinlaw27_VerbReads.j0]
    exact pos (by trivial) (Ev.bind works_ev (Ev.now _))
  by_cases c1 : (a0.size : Int) > 1200
  · exact pos c1 yes
  refine neg c1 ?_
  by_cases c2 : (b.size : Int) > 1200
  · rw [decide_eq_true c2]; exact yes
  rw [decide_eq_false c2]
  have s0 : (L a0).length ≤ 1200 := by rw [← sz]; omega
  have s1 : (L b).length ≤ 1200 := by rw [← sz]; omega
  refine up ?_
  simp only [bulletinlaw27_VerbReads.j0]
  exact neg (by simp) (Ev.bind (read_ev a0 (by omega)) (Ev.bind (refread_ev a0 (by omega)) (pos rfl (pos rfl (pos rfl (cbind (text_eq v b (by omega)) (Ev.bind (reftext_ev v b (by omega)) (pos rfl (Ev.bind works_ev (Ev.now _))))))))))
end Go.Proofs.YtaamnpomclenpaaDoor.Verb
