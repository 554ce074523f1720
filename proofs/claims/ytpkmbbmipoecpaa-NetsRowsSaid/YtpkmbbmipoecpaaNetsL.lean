/- Plain lemmas on decimal digits and on texts behind their lengths (nets), on lists of bytes: no program. -/
import Derived.Test.YtpkmbbmipoecpaaAid
namespace Go.Proofs.Ytpkmbbmipoecpaa.Nets
open Go.Proofs.Ytpkmbbmipoecpaa.Aid
set_option linter.unusedVariables false
set_option linter.unusedSimpArgs false

/-- a byte for a number -/
abbrev B (n : Nat) : UInt8 := UInt8.ofNat n
theorem B_toNat {n : Nat} (h : n < 256) : (B n).toNat = n := by simp [B, Nat.mod_eq_of_lt h]
theorem B_of_toNat (c : UInt8) : B c.toNat = c := by simp [B]

/-- decimal digits -/
def digL (n : Nat) : List UInt8 := if n < 10 then [B (48 + n)] else digL (n / 10) ++ [B (48 + n % 10)]
theorem digL_small {n : Nat} (h : n < 10) : digL n = [B (48 + n)] := by rw [digL, if_pos h]
theorem digL_big {n : Nat} (h : ¬ n < 10) : digL n = digL (n / 10) ++ [B (48 + n % 10)] := by rw [digL, if_neg h]

def isD (c : UInt8) : Bool := decide (48 ≤ c.toNat) && decide (c.toNat ≤ 57)
theorem isD_iff (c : UInt8) : isD c = true ↔ 48 ≤ c.toNat ∧ c.toNat ≤ 57 := by simp [isD]
theorem isD_B {n : Nat} (h : n < 10) : isD (B (48 + n)) = true := by
  rw [isD_iff, B_toNat (by omega)]; omega
def val (d : List UInt8) : Nat := d.foldl (fun a c => 10 * a + (c.toNat - 48)) 0
theorem val_nil : val [] = 0 := rfl
theorem val_snoc (d : List UInt8) (c : UInt8) : val (d ++ [c]) = 10 * val d + (c.toNat - 48) := by simp [val]

theorem digL_ne (n : Nat) : digL n ≠ [] := by
  rw [digL]; split <;> simp
theorem digL_all (n : Nat) : ∀ c ∈ digL n, isD c = true := by
  induction n using Nat.strongRecOn with
  | _ n ih =>
    intro c hc
    by_cases h : n < 10
    · rw [digL_small h] at hc
      simp only [List.mem_singleton] at hc
      rw [hc]; exact isD_B h
    · rw [digL_big h, List.mem_append] at hc
      rcases hc with hc | hc
      · exact ih (n / 10) (by omega) c hc
      · simp only [List.mem_singleton] at hc
        rw [hc]; exact isD_B (by omega)
theorem val_digL (n : Nat) : val (digL n) = n := by
  induction n using Nat.strongRecOn with
  | _ n ih =>
    by_cases h : n < 10
    · rw [digL_small h]
      simp [val]
      omega
    · rw [digL_big h, val_snoc, ih _ (by omega), B_toNat (by omega)]
      omega
theorem digL_len (k : Nat) : ∀ n, 1 ≤ k → n < 10 ^ k → (digL n).length ≤ k := by
  induction k with
  | zero => intro n h; omega
  | succ k ih =>
    intro n _ hn
    by_cases h : n < 10
    · rw [digL_small h]; simp
    · rw [digL_big h, List.length_append]
      have hk : 1 ≤ k := by
        rcases Nat.eq_zero_or_pos k with h0 | h0
        · subst h0; simp at hn; omega
        · exact h0
      have := ih (n / 10) hk (by rw [Nat.pow_succ] at hn; omega)
      simp; omega
theorem digL_head (n : Nat) : 1 ≤ n → (digL n).head? ≠ some 48 := by
  induction n using Nat.strongRecOn with
  | _ n ih =>
    intro h1
    by_cases h : n < 10
    · rw [digL_small h]
      simp only [List.head?_cons]
      intro e
      have := congrArg (fun c => UInt8.toNat c) (Option.some.inj e)
      simp only [B_toNat (show 48 + n < 256 by omega)] at this
      simp at this
      omega
    · rw [digL_big h, List.head?_append]
      have := ih (n / 10) (by omega) (by omega)
      cases hd : (digL (n / 10)).head? with
      | none => exact absurd (List.head?_eq_none_iff.1 hd) (digL_ne _)
      | some c => rw [hd] at this; exact this
/-- digits as a number is written: no nought ahead -/
def canon (d : List UInt8) : Prop := ¬ (1 < d.length ∧ d.head? = some 48)
theorem canon_digL (n : Nat) : canon (digL n) := by
  rintro ⟨h1, h2⟩
  rcases Nat.eq_zero_or_pos n with h0 | h0
  · subst h0
    rw [digL_small (by omega)] at h1
    simp at h1
  · exact digL_head n h0 h2
theorem val_pos (k : Nat) : ∀ d : List UInt8, d.length = k → d ≠ [] → (∀ c ∈ d, isD c = true) → d.head? ≠ some 48 → 1 ≤ val d := by
  induction k with
  | zero => intro d h hne; exact absurd (List.length_eq_zero_iff.1 h) hne
  | succ k ih =>
    intro d hl hne hall hh
    obtain ⟨d', c, rfl⟩ : ∃ d' c, d = d' ++ [c] := by
      rcases List.eq_nil_or_concat d with h | ⟨d', c, h⟩
      · exact absurd h hne
      · exact ⟨d', c, by simpa using h⟩
    rw [val_snoc]
    by_cases hd : d' = []
    · subst hd
      have hc := (isD_iff c).1 (hall c (by simp))
      simp only [List.nil_append, List.head?_cons, ne_eq, Option.some.injEq] at hh
      have : c.toNat ≠ 48 := fun e => hh (UInt8.toNat_inj.1 (by simpa using e))
      omega
    · have := ih d' (by simp at hl; omega) hd (fun x hx => hall x (by simp [hx])) (by
        rw [List.head?_append] at hh
        cases h : d'.head? with
        | none => exact absurd (List.head?_eq_none_iff.1 h) hd
        | some x => rw [h] at hh; simpa using hh)
      omega
theorem digL_val (k : Nat) : ∀ d : List UInt8, d.length = k → d ≠ [] → (∀ c ∈ d, isD c = true) → canon d → digL (val d) = d := by
  induction k with
  | zero => intro d h hne; exact absurd (List.length_eq_zero_iff.1 h) hne
  | succ k ih =>
    intro d hl hne hall hcan
    obtain ⟨d', c, rfl⟩ : ∃ d' c, d = d' ++ [c] := by
      rcases List.eq_nil_or_concat d with h | ⟨d', c, h⟩
      · exact absurd h hne
      · exact ⟨d', c, by simpa using h⟩
    have hc := (isD_iff c).1 (hall c (by simp))
    rw [val_snoc]
    by_cases hd : d' = []
    · subst hd
      rw [val_nil, digL_small (by omega), show 48 + (10 * 0 + (c.toNat - 48)) = c.toNat from by omega, B_of_toNat]
      rfl
    · have hpos : 0 < d'.length := by
        rcases Nat.eq_zero_or_pos d'.length with h | h
        · exact absurd (List.length_eq_zero_iff.1 h) hd
        · exact h
      have hh : d'.head? ≠ some 48 := by
        intro e
        refine hcan ⟨by simp; omega, ?_⟩
        rw [List.head?_append, e]
        rfl
      have hall' : ∀ x ∈ d', isD x = true := fun x hx => hall x (by simp [hx])
      have h1 := val_pos _ d' rfl hd hall' hh
      have h2 := ih d' (by simp at hl; omega) hd hall' (fun h => hh h.2)
      rw [digL_big (by omega), show (10 * val d' + (c.toNat - 48)) / 10 = val d' from by omega, show 48 + (10 * val d' + (c.toNat - 48)) % 10 = c.toNat from by omega, h2, B_of_toNat]
theorem val_lt (k : Nat) : ∀ d : List UInt8, d.length ≤ k → (∀ c ∈ d, isD c = true) → val d < 10 ^ k := by
  induction k with
  | zero =>
    intro d h _
    rw [List.length_eq_zero_iff.1 (by omega : d.length = 0)]
    simp [val]
  | succ k ih =>
    intro d hl hall
    rcases List.eq_nil_or_concat d with h | ⟨d', c, h⟩
    · subst h; rw [val_nil]; exact Nat.pow_pos (by omega)
    · have h : d = d' ++ [c] := by simpa using h
      subst h
      have hc := (isD_iff c).1 (hall c (by simp))
      have := ih d' (by simp at hl; omega) (fun x hx => hall x (by simp [hx]))
      rw [val_snoc, Nat.pow_succ]
      omega

/-! ### the digits ahead -/
theorem tw_take {α : Type} (p : α → Bool) (l : List α) : l.takeWhile p = l.take (l.takeWhile p).length := by
  induction l with
  | nil => simp
  | cons x xs ih =>
    by_cases h : p x = true
    · simp only [List.takeWhile_cons, h, if_true, List.length_cons, List.take_succ_cons]
      rw [← ih]
    · simp [List.takeWhile_cons, h]
theorem tw_all {α : Type} (p : α → Bool) (l : List α) : ∀ x ∈ l.takeWhile p, p x = true := by
  induction l with
  | nil => simp
  | cons y ys ih =>
    intro x hx
    by_cases h : p y = true
    · simp only [List.takeWhile_cons, h, if_true, List.mem_cons] at hx
      rcases hx with rfl | hx
      · exact h
      · exact ih x hx
    · simp [List.takeWhile_cons, h] at hx
theorem tw_le {α : Type} (p : α → Bool) (l : List α) : (l.takeWhile p).length ≤ l.length := by
  rw [tw_take, List.length_take]; omega
theorem tw_stop {α : Type} (p : α → Bool) (l : List α) : ∀ h : (l.takeWhile p).length < l.length, p (l[(l.takeWhile p).length]'h) = false := by
  induction l with
  | nil => intro h; simp at h
  | cons y ys ih =>
    intro h
    by_cases hy : p y = true
    · simp only [List.takeWhile_cons, hy, if_true, List.length_cons, Nat.succ_lt_succ_iff] at h ⊢
      exact ih h
    · simp only [List.takeWhile_cons, hy]
      simpa using hy
theorem tw_get {α : Type} (p : α → Bool) (l : List α) (i : Nat) (h : i < (l.takeWhile p).length) : p (l[i]'(Nat.lt_of_lt_of_le h (tw_le p l))) = true := by
  have h1 := tw_all p l ((l.takeWhile p)[i]) (List.getElem_mem h)
  have h2 : (l.takeWhile p)[i] = l[i]'(Nat.lt_of_lt_of_le h (tw_le p l)) := by
    have := tw_take p l
    rw [List.getElem_of_eq this h, List.getElem_take]
  rw [← h2]; exact h1
theorem tw_app {α : Type} (p : α → Bool) (a : List α) (x : α) (b : List α) (ha : ∀ y ∈ a, p y = true) (hx : p x = false) : (a ++ x :: b).takeWhile p = a := by
  induction a with
  | nil => simp [List.takeWhile_cons, hx]
  | cons y ys ih =>
    simp only [List.cons_append, List.takeWhile_cons, ha y (by simp), if_true]
    rw [ih (fun z hz => ha z (by simp [hz]))]

/-! ### nets -/
def pre (l : List UInt8) : List UInt8 := l.takeWhile isD
def putL (l : List UInt8) : List UInt8 := digL l.length ++ [58] ++ l ++ [44]
/-- the text that nets begin with -/
def takeL (l : List UInt8) : List UInt8 × List UInt8 × Int :=
  if l = [] then ([], [], 9)
  else if (pre l).length = 0 then ([], [], 3)
  else if 9 < (pre l).length then ([], [], 2)
  else if (pre l).length = l.length then ([], [], 9)
  else if l.getD (pre l).length 0 ≠ 58 ∨ (1 < (pre l).length ∧ l.getD 0 0 = 48) then ([], [], 3)
  else if (l.drop ((pre l).length + 1)).length ≤ val (pre l) then ([], [], 9)
  else if (l.drop ((pre l).length + 1)).getD (val (pre l)) 0 ≠ 44 then ([], [], 3)
  else ((l.drop ((pre l).length + 1)).take (val (pre l)), (l.drop ((pre l).length + 1)).drop (val (pre l) + 1), 0)

theorem pre_put (l b : List UInt8) : pre (putL l ++ b) = digL l.length := by
  unfold pre putL
  rw [show digL l.length ++ [58] ++ l ++ [44] ++ b = digL l.length ++ 58 :: (l ++ [44] ++ b) from by simp]
  exact tw_app isD _ _ _ (digL_all _) (by decide)
theorem take_put (l b : List UInt8) (h : l.length < 1000000000) : takeL (putL l ++ b) = (l, b, 0) := by
  have hp := pre_put l b
  have hl9 := digL_len 9 l.length (by omega) (by omega)
  have hne := digL_ne l.length
  have hl0 : (digL l.length).length ≠ 0 := fun e => hne (List.length_eq_zero_iff.1 e)
  have heq : putL l ++ b = digL l.length ++ (58 :: (l ++ (44 :: b))) := by simp [putL]
  have hlen : (putL l ++ b).length = (digL l.length).length + (l.length + b.length + 2) := by rw [heq]; simp; omega
  have hget : (putL l ++ b).getD (digL l.length).length 0 = 58 := by
    rw [heq]; simp [List.getD_eq_getElem?_getD, List.getElem?_append_right]
  have hdrop : (putL l ++ b).drop ((digL l.length).length + 1) = l ++ (44 :: b) := by
    rw [heq, List.drop_append]
    simp
  have hcan := canon_digL l.length
  have h0 : (putL l ++ b).getD 0 0 = (digL l.length).head?.getD 0 := by
    rw [heq]
    cases hd : digL l.length with
    | nil => exact absurd hd hne
    | cons c cs => simp
  have hh : (digL l.length).head? = some ((digL l.length).head?.getD 0) := by
    cases hd : digL l.length with
    | nil => exact absurd hd hne
    | cons c cs => simp
  unfold takeL
  rw [hp, val_digL, hdrop, hget, h0]
  rw [if_neg (by intro e; rw [e] at hlen; simp at hlen), if_neg hl0, if_neg (by omega), if_neg (by omega)]
  rw [if_neg (by
    rintro (e | ⟨e1, e2⟩)
    · exact e rfl
    · exact hcan ⟨e1, by rw [hh, e2]⟩)]
  rw [if_neg (by simp), if_neg (by simp [List.getD_eq_getElem?_getD])]
  simp [List.drop_append]
theorem put_take (b u r : List UInt8) (h : takeL b = (u, r, 0)) : putL u ++ r = b := by
  unfold takeL at h
  by_cases h1 : b = []
  · simp [h1] at h
  rw [if_neg h1] at h
  by_cases h2 : (pre b).length = 0
  · rw [if_pos h2] at h; simp at h
  rw [if_neg h2] at h
  by_cases h3 : 9 < (pre b).length
  · rw [if_pos h3] at h; simp at h
  rw [if_neg h3] at h
  by_cases h4 : (pre b).length = b.length
  · rw [if_pos h4] at h; simp at h
  rw [if_neg h4] at h
  by_cases h5 : b.getD (pre b).length 0 ≠ 58 ∨ (1 < (pre b).length ∧ b.getD 0 0 = 48)
  · rw [if_pos h5] at h; simp at h
  rw [if_neg h5] at h
  by_cases h6 : (b.drop ((pre b).length + 1)).length ≤ val (pre b)
  · rw [if_pos h6] at h; simp at h
  rw [if_neg h6] at h
  by_cases h7 : (b.drop ((pre b).length + 1)).getD (val (pre b)) 0 ≠ 44
  · rw [if_pos h7] at h; simp at h
  rw [if_neg h7] at h
  simp only [Prod.mk.injEq, and_true] at h
  obtain ⟨hu, hr⟩ := h
  have hle := tw_le isD b
  have hlt : (pre b).length < b.length := by unfold pre at h4 ⊢; omega
  have hpt := tw_take isD b
  have hcan : canon (pre b) := by
    rintro ⟨e1, e2⟩
    refine h5 (Or.inr ⟨e1, ?_⟩)
    cases hb : b with
    | nil => exact absurd hb h1
    | cons c cs =>
      have : (pre b).head? = some c := by
        have h0 : 0 < (pre b).length := by omega
        rw [List.head?_eq_getElem?, List.getElem?_eq_getElem h0]
        have := List.getElem_of_eq hpt h0
        unfold pre
        rw [this, List.getElem_take]
        simp [hb]
      rw [this] at e2
      simpa using e2
  have hne : pre b ≠ [] := fun e => h2 (by rw [e]; rfl)
  have hd := digL_val _ (pre b) rfl hne (tw_all isD b) hcan
  have hul : u.length = val (pre b) := by rw [← hu, List.length_take]; omega
  have h58 : b[(pre b).length] = 58 := by
    have : ¬ b.getD (pre b).length 0 ≠ 58 := fun e => h5 (Or.inl e)
    simpa [List.getD_eq_getElem?_getD, List.getElem?_eq_getElem hlt] using this
  have h44 : (b.drop ((pre b).length + 1))[val (pre b)]'(by omega) = 44 := by
    have : ¬ (b.drop ((pre b).length + 1)).getD (val (pre b)) 0 ≠ 44 := h7
    rw [List.getD_eq_getElem?_getD, List.getElem?_eq_getElem (by omega : val (pre b) < (b.drop ((pre b).length + 1)).length)] at this
    simpa using this
  unfold putL
  rw [hul, hd]
  have e1 : b = pre b ++ 58 :: b.drop ((pre b).length + 1) := by
    rw [← h58, ← List.drop_eq_getElem_cons hlt]
    have : pre b = b.take (pre b).length := hpt
    conv => lhs; rw [← List.take_append_drop (pre b).length b]
    rw [← this]
  have e2 : b.drop ((pre b).length + 1) = u ++ 44 :: r := by
    have hq : val (pre b) < (b.drop ((pre b).length + 1)).length := by omega
    conv => lhs; rw [← List.take_append_drop (val (pre b)) (b.drop ((pre b).length + 1))]
    rw [List.drop_eq_getElem_cons hq, h44, hu, hr]
  conv => rhs; rw [e1, e2]
  simp
theorem take_fail (b u r : List UInt8) (c : Int) (h : takeL b = (u, r, c)) (hc : c ≠ 0) : u = [] ∧ r = [] := by
  unfold takeL at h
  repeat (first | (split at h) | (simp only [Prod.mk.injEq] at h; obtain ⟨rfl, rfl, rfl⟩ := h; first | exact ⟨rfl, rfl⟩ | exact absurd rfl hc))
theorem take_less (b u r : List UInt8) (h : takeL b = (u, r, 0)) : r.length + 3 ≤ b.length := by
  have := put_take b u r h
  rw [← this]
  have hl0 : (digL u.length).length ≠ 0 := fun e => digL_ne u.length (List.length_eq_zero_iff.1 e)
  simp [putL]
  omega

/-- the nets of texts -/
def rowL : List (List UInt8) → List UInt8
  | [] => []
  | x :: xs => putL x ++ rowL xs
/-- the texts of nets -/
def textsL : Nat → List UInt8 → List (List UInt8) → List (List UInt8) × Int
  | 0, _, acc => (acc, 0)
  | k + 1, l, acc => if l = [] then (acc, 0) else if (takeL l).2.2 = 0 then textsL k (takeL l).2.1 (acc ++ [(takeL l).1]) else ([], (takeL l).2.2)
theorem putL_ne (l r : List UInt8) : putL l ++ r ≠ [] := by simp [putL]
theorem row_inj : ∀ (a b : List (List UInt8)), (∀ x ∈ a, x.length < 1000000000) → (∀ x ∈ b, x.length < 1000000000) → rowL a = rowL b → a = b
  | [], [], _, _, _ => rfl
  | [], y :: ys, _, _, h => absurd h.symm (putL_ne y (rowL ys))
  | x :: xs, [], _, _, h => absurd h (putL_ne x (rowL xs))
  | x :: xs, y :: ys, ha, hb, h => by
    have h1 := take_put x (rowL xs) (ha x (by simp))
    have h2 := take_put y (rowL ys) (hb y (by simp))
    have h3 : putL x ++ rowL xs = putL y ++ rowL ys := h
    rw [h3, h2] at h1
    simp only [Prod.mk.injEq, and_true] at h1
    obtain ⟨rfl, h4⟩ := h1
    rw [row_inj xs ys (fun z hz => ha z (by simp [hz])) (fun z hz => hb z (by simp [hz])) h4.symm]
theorem rowL_app (a b : List (List UInt8)) : rowL (a ++ b) = rowL a ++ rowL b := by
  induction a with
  | nil => simp [rowL]
  | cons x xs ih => simp [rowL, ih]
theorem row_texts (k : Nat) : ∀ l acc r, l.length ≤ k → textsL k l acc = (r, 0) → rowL r = rowL acc ++ l := by
  induction k with
  | zero =>
    intro l acc r hl h
    simp only [textsL, Prod.mk.injEq] at h
    rw [← h.1, List.length_eq_zero_iff.1 (by omega : l.length = 0)]; simp
  | succ k ih =>
    intro l acc r hl h
    simp only [textsL] at h
    by_cases h1 : l = []
    · rw [if_pos h1] at h
      simp only [Prod.mk.injEq] at h
      rw [← h.1, h1]; simp
    · rw [if_neg h1] at h
      by_cases h2 : (takeL l).2.2 = 0
      · rw [if_pos h2] at h
        have hq : takeL l = ((takeL l).1, (takeL l).2.1, 0) := by rw [← h2]
        have h3 := put_take _ _ _ hq
        have h4 := take_less _ _ _ hq
        have h5 := ih _ _ _ (by omega) h
        rw [h5, rowL_app]
        conv => rhs; rw [← h3]
        simp [rowL]
      · rw [if_neg h2] at h
        simp only [Prod.mk.injEq] at h
        exact absurd h.2 h2
theorem texts_enough (k : Nat) : ∀ m l acc, l.length ≤ k → k ≤ m → textsL m l acc = textsL k l acc := by
  induction k with
  | zero =>
    intro m l acc hl hm
    have : l = [] := List.length_eq_zero_iff.1 (by omega)
    subst this
    cases m <;> simp [textsL]
  | succ k ih =>
    intro m l acc hl hm
    obtain ⟨m, rfl⟩ : ∃ q, m = q + 1 := ⟨m - 1, by omega⟩
    simp only [textsL]
    by_cases h1 : l = []
    · rw [if_pos h1, if_pos h1]
    · rw [if_neg h1, if_neg h1]
      by_cases h2 : (takeL l).2.2 = 0
      · rw [if_pos h2, if_pos h2]
        have hq : takeL l = ((takeL l).1, (takeL l).2.1, 0) := by rw [← h2]
        have h4 := take_less _ _ _ hq
        exact ih _ _ _ (by omega) (by omega)
      · rw [if_neg h2, if_neg h2]
theorem texts_fail (k : Nat) : ∀ l acc r c, textsL k l acc = (r, c) → c ≠ 0 → r = [] := by
  induction k with
  | zero => intro l acc r c h hc; simp only [textsL, Prod.mk.injEq] at h; exact absurd h.2.symm hc
  | succ k ih =>
    intro l acc r c h hc
    simp only [textsL] at h
    by_cases h1 : l = []
    · rw [if_pos h1] at h
      simp only [Prod.mk.injEq] at h
      exact absurd h.2.symm hc
    · rw [if_neg h1] at h
      by_cases h2 : (takeL l).2.2 = 0
      · rw [if_pos h2] at h
        exact ih _ _ _ _ h hc
      · rw [if_neg h2] at h
        simp only [Prod.mk.injEq] at h
        exact h.1.symm
end Go.Proofs.Ytpkmbbmipoecpaa.Nets
