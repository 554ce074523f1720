/- Plain lemmas on bytes as signs (UTF-8): no program. -/
import Derived.Test.YthckkikfldgphaaDoorAid
import Derived.Lib.MapLaws
import Derived.Lib.RuneCountTail
import Derived.Lib.FieldsP
import Derived.Lib.QuoteLoop
namespace Go.Proofs.YthckkikfldgphaaDoor.Glyph
open Go.Proofs.YthckkikfldgphaaDoor.Aid
set_option linter.unusedVariables false
set_option linter.unusedSimpArgs false
open Go.Lib (decodeL decodeN encodeRune encodeRuneZ)

/-- the numbers of signs -/
def V (v : Nat) : Prop := v < 55296 ∨ (57344 ≤ v ∧ v ≤ 1114111)
instance (v : Nat) : Decidable (V v) := inferInstanceAs (Decidable (_ ∨ _))
/-- a sign's bytes -/
def E (v : Nat) : List UInt8 := encodeRune (v : Int)
theorem u8 (n : Int) (h0 : 0 ≤ n) (h1 : n < 256) : (n.toNat.toUInt8).toNat = n.toNat := by
  simp; omega
theorem E_cases (v : Nat) (h : V v) :
    (v < 128 ∧ ∃ a : UInt8, E v = [a] ∧ a.toNat = v) ∨
    (128 ≤ v ∧ v < 2048 ∧ ∃ a b : UInt8, E v = [a, b] ∧ a.toNat = 192 + v / 64 ∧ b.toNat = 128 + v % 64) ∨
    (2048 ≤ v ∧ v < 65536 ∧ ∃ a b c : UInt8, E v = [a, b, c] ∧ a.toNat = 224 + v / 4096 ∧ b.toNat = 128 + v / 64 % 64 ∧ c.toNat = 128 + v % 64) ∨
    (65536 ≤ v ∧ v ≤ 1114111 ∧ ∃ a b c d : UInt8, E v = [a, b, c, d] ∧ a.toNat = 240 + v / 262144 ∧ b.toNat = 128 + v / 4096 % 64 ∧ c.toNat = 128 + v / 64 % 64 ∧ d.toNat = 128 + v % 64) := by
  unfold V at h
  unfold E encodeRune
  by_cases h1 : v < 128
  · refine Or.inl ⟨h1, ?_⟩
    rw [Go.Lib.encodeRuneZ_one (by omega) (by omega)]
    exact ⟨_, rfl, by rw [u8 _ (by omega) (by omega)]; omega⟩
  by_cases h2 : v < 2048
  · refine Or.inr (Or.inl ⟨by omega, h2, ?_⟩)
    rw [Go.Lib.encodeRuneZ_two (by omega) (by omega)]
    exact ⟨_, _, rfl, by rw [u8 _ (by omega) (by omega)]; omega, by rw [u8 _ (by omega) (by omega)]; omega⟩
  by_cases h3 : v < 65536
  · refine Or.inr (Or.inr (Or.inl ⟨by omega, h3, ?_⟩))
    rw [Go.Lib.encodeRuneZ_three (by omega)]
    exact ⟨_, _, _, rfl, by rw [u8 _ (by omega) (by omega)]; omega, by rw [u8 _ (by omega) (by omega)]; omega, by rw [u8 _ (by omega) (by omega)]; omega⟩
  · refine Or.inr (Or.inr (Or.inr ⟨by omega, by omega, ?_⟩))
    rw [Go.Lib.encodeRuneZ_four (by omega) (by omega)]
    exact ⟨_, _, _, _, rfl, by rw [u8 _ (by omega) (by omega)]; omega, by rw [u8 _ (by omega) (by omega)]; omega, by rw [u8 _ (by omega) (by omega)]; omega, by rw [u8 _ (by omega) (by omega)]; omega⟩
theorem E_len (v : Nat) (h : V v) : 1 ≤ (E v).length ∧ (E v).length ≤ 4 := by
  rcases E_cases v h with ⟨_, a, e, _⟩ | ⟨_, _, a, b, e, _⟩ | ⟨_, _, a, b, c, e, _⟩ | ⟨_, _, a, b, c, d, e, _⟩ <;> rw [e] <;> simp
theorem E_ne (v : Nat) (h : V v) : E v ≠ [] := fun e => by have := (E_len v h).1; rw [e] at this; simp at this
/-- A sign that stands first is read. -/
theorem dec_good (v : Nat) (h : V v) (t : List UInt8) : decodeL (E v ++ t) = (v, (E v).length) := by
  rw [Go.Lib.decodeL_N]
  unfold V at h
  rcases E_cases v h with ⟨h1, a, e, ha⟩ | ⟨h1, h2, a, b, e, ha, hb⟩ | ⟨h1, h2, a, b, c, e, ha, hb, hc⟩ | ⟨h1, h2, a, b, c, d, e, ha, hb, hc, hd⟩
  · rw [e]
    simp only [List.cons_append, List.nil_append, List.getD_cons_zero, List.length_cons, List.length_nil]
    unfold decodeN
    rw [if_pos (by omega), ha]
  · rw [e]
    simp only [List.cons_append, List.nil_append, List.getD_cons_zero, List.getD_cons_succ, List.length_cons, List.length_nil]
    unfold decodeN
    rw [if_neg (by omega), if_pos (by omega), if_pos (by omega)]
    refine Prod.ext ?_ rfl
    show a.toNat % 32 * 64 + b.toNat % 64 = v
    omega
  · rw [e]
    simp only [List.cons_append, List.nil_append, List.getD_cons_zero, List.getD_cons_succ, List.length_cons, List.length_nil]
    unfold decodeN
    rw [if_neg (by omega), if_neg (by omega), if_pos (by omega), if_pos (by omega)]
    refine Prod.ext ?_ rfl
    show a.toNat % 16 * 4096 + b.toNat % 64 * 64 + c.toNat % 64 = v
    omega
  · rw [e]
    simp only [List.cons_append, List.nil_append, List.getD_cons_zero, List.getD_cons_succ, List.length_cons, List.length_nil]
    unfold decodeN
    rw [if_neg (by omega), if_neg (by omega), if_neg (by omega), if_pos (by omega), if_pos (by omega)]
    refine Prod.ext ?_ rfl
    show a.toNat % 8 * 262144 + b.toNat % 64 * 4096 + c.toNat % 64 * 64 + d.toNat % 64 = v
    omega
theorem dec_V (l : List UInt8) : V (decodeL l).1 := by
  rw [Go.Lib.decodeL_N]
  have k0 := (l.getD 0 0).toNat_lt
  unfold V
  rcases Go.Lib.decodeN_valid l.length (l.getD 0 0).toNat (l.getD 1 0).toNat (l.getD 2 0).toNat (l.getD 3 0).toNat k0 with h | h <;> omega
theorem dec_cases (l : List UInt8) (hne : l ≠ []) : (∃ v t, V v ∧ l = E v ++ t ∧ decodeL l = (v, (E v).length)) ∨ (decodeL l = (65533, 1) ∧ ∀ v t, V v → l ≠ E v ++ t) := by
  by_cases hb : (decodeL l).1 = 65533 ∧ (decodeL l).2 = 1
  · refine Or.inr ⟨Prod.ext hb.1 hb.2, ?_⟩
    intro v t hv e
    rw [e, dec_good v hv t] at hb
    obtain ⟨e1, e2⟩ := hb
    have e1 : v = 65533 := e1
    subst e1
    have : (E 65533).length = 3 := rfl
    rw [this] at e2
    exact absurd e2 (by decide)
  · refine Or.inl ⟨(decodeL l).1, l.drop (decodeL l).2, dec_V l, ?_, ?_⟩
    · unfold E
      rw [Go.Lib.encode_decode l hne hb, List.take_append_drop]
    · refine Prod.ext rfl ?_
      unfold E
      rw [Go.Lib.encode_decode l hne hb, List.length_take, Nat.min_eq_left (Go.Lib.decodeL_le l hne)]

/-- what stands first: a sign's number, or -1, and how long it is -/
def one (l : List UInt8) : Int × Nat := if (decodeL l).1 = 65533 ∧ (decodeL l).2 = 1 then (-1, 1) else (((decodeL l).1 : Int), (decodeL l).2)
theorem one_good (v : Nat) (h : V v) (t : List UInt8) : one (E v ++ t) = ((v : Int), (E v).length) := by
  unfold one
  rw [dec_good v h t, if_neg]
  rintro ⟨e1, e2⟩
  have e1 : v = 65533 := e1
  subst e1
  exact absurd e2 (by decide)
theorem one_cases (l : List UInt8) (hne : l ≠ []) : (∃ v t, V v ∧ l = E v ++ t ∧ one l = ((v : Int), (E v).length)) ∨ (∃ c t, l = c :: t ∧ one l = (-1, 1) ∧ ∀ v t, V v → l ≠ E v ++ t) := by
  rcases dec_cases l hne with ⟨v, t, hv, e, hd⟩ | ⟨hd, hno⟩
  · exact Or.inl ⟨v, t, hv, e, by rw [e]; exact one_good v hv t⟩
  · obtain ⟨c, t, rfl⟩ : ∃ c t, l = c :: t := by cases l with
      | nil => exact absurd rfl hne
      | cons c t => exact ⟨c, t, rfl⟩
    refine Or.inr ⟨c, t, rfl, ?_, hno⟩
    unfold one
    rw [hd, if_pos ⟨rfl, rfl⟩]
theorem one_width (l : List UInt8) (hne : l ≠ []) : 1 ≤ (one l).2 ∧ (one l).2 ≤ l.length := by
  rcases one_cases l hne with ⟨v, t, hv, e, h⟩ | ⟨c, t, e, h, _⟩
  · rw [h, e]
    have := (E_len v hv).1
    simp only [List.length_append]
    omega
  · rw [h, e]; simp

/-- the signs of bytes, with the bytes of each -/
def sig : Nat → List UInt8 → List (Int × List UInt8)
  | 0, _ => []
  | k + 1, l => if l = [] then [] else ((one l).1, l.take (one l).2) :: sig k (l.drop (one l).2)
theorem sig_fuel (k : Nat) : ∀ (m : Nat) (l : List UInt8), l.length ≤ k → k ≤ m → sig m l = sig k l := by
  induction k with
  | zero =>
    intro m l h _
    have : l = [] := List.length_eq_zero_iff.1 (by omega)
    subst this
    cases m <;> simp [sig]
  | succ k ih =>
    intro m l h hm
    obtain ⟨m, rfl⟩ : ∃ q, m = q + 1 := ⟨m - 1, by omega⟩
    simp only [sig]
    by_cases hl : l = []
    · rw [if_pos hl, if_pos hl]
    · rw [if_neg hl, if_neg hl, ih m (l.drop (one l).2) (by
        have := one_width l hl
        rw [List.length_drop]; omega) (by omega)]
def sg (l : List UInt8) : List (Int × List UInt8) := sig l.length l
theorem sg_nil : sg [] = [] := rfl
theorem sg_cons (l : List UInt8) (h : l ≠ []) : sg l = ((one l).1, l.take (one l).2) :: sg (l.drop (one l).2) := by
  unfold sg
  have hp : 0 < l.length := List.length_pos_iff.2 h
  obtain ⟨n, hn⟩ : ∃ n, l.length = n + 1 := ⟨l.length - 1, by omega⟩
  rw [hn]
  simp only [sig, if_neg h]
  congr 1
  exact sig_fuel _ n _ (Nat.le_refl _) (by
    have := one_width l h
    rw [List.length_drop]; omega)
theorem sg_E (v : Nat) (h : V v) (t : List UInt8) : sg (E v ++ t) = ((v : Int), E v) :: sg t := by
  rw [sg_cons _ (by intro e; exact E_ne v h (List.append_eq_nil_iff.1 e).1), one_good v h t]
  show ((v : Int), (E v ++ t).take (E v).length) :: sg ((E v ++ t).drop (E v).length) = _
  rw [List.take_left', List.drop_left'] <;> rfl
theorem sg_bad (c : UInt8) (t : List UInt8) (h : one (c :: t) = (-1, 1)) : sg (c :: t) = (-1, [c]) :: sg t := by
  rw [sg_cons _ (by simp), h]
  rfl
/-- induction along the signs -/
theorem sg_ind {P : List UInt8 → Prop} (h0 : P []) (h1 : ∀ v t, V v → P t → P (E v ++ t)) (h2 : ∀ c t, one (c :: t) = (-1, 1) → (∀ v u, V v → c :: t ≠ E v ++ u) → P t → P (c :: t)) : ∀ l, P l := by
  have : ∀ (k : Nat) (l : List UInt8), l.length ≤ k → P l := by
    intro k
    induction k with
    | zero =>
      intro l h
      rw [List.length_eq_zero_iff.1 (by omega : l.length = 0)]; exact h0
    | succ k ih =>
      intro l h
      by_cases hl : l = []
      · rw [hl]; exact h0
      rcases one_cases l hl with ⟨v, t, hv, e, _⟩ | ⟨c, t, e, ho, hno⟩
      · rw [e]
        refine h1 v t hv (ih t ?_)
        rw [e, List.length_append] at h
        have := (E_len v hv).1
        omega
      · subst e
        refine h2 c t ho hno (ih t ?_)
        simp only [List.length_cons] at h
        omega
  exact fun l => this l.length l (Nat.le_refl _)
theorem sg_flat : ∀ l : List UInt8, (sg l).flatMap (·.2) = l := by
  refine sg_ind rfl ?_ ?_
  · intro v t hv ih
    rw [sg_E v hv, List.flatMap_cons, ih]
  · intro c t ho _ ih
    rw [sg_bad c t ho, List.flatMap_cons, ih]
    rfl
theorem sg_len : ∀ l : List UInt8, (sg l).length ≤ l.length := by
  refine sg_ind (by simp [sg_nil]) ?_ ?_
  · intro v t hv ih
    rw [sg_E v hv, List.length_cons, List.length_append]
    have := (E_len v hv).1
    omega
  · intro c t ho _ ih
    rw [sg_bad c t ho, List.length_cons, List.length_cons]
    omega
end Go.Proofs.YthckkikfldgphaaDoor.Glyph
