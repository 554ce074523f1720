/- What the printed functions of package b64's reference tell, and the pure statements of layer 18's laws. -/
import Derived.Test.YtgbkjgngpceeiaaDoorB64P
namespace Go.Proofs.YtgbkjgngpceeiaaDoor.B64
open Go.RowKit Go.Proofs.YtgbkjgngpceeiaaDoor.X Go.Proofs.YtgbkjgngpceeiaaDoorW.PrintWords Go.Proofs.YtgbkjgngpceeiaaDoorW.PrintLast Go.Proofs.YtgbkjgngpceeiaaDoorW.PrintMore Go.Proofs.YtgbkjgngpceeiaaDoor.Aid
set_option linter.unusedVariables false
set_option linter.unusedSimpArgs false

theorem letter_eq (n : Nat) (h : n < 64) : bulletinref18_letter.f (n : Int) = some (let64 n : Int) := by
  unfold bulletinref18_letter.f let64
  by_cases h1 : n < 26
  · rw [if_pos (by omega), if_pos h1, w64 (by omega) (by omega)]; congr 1; omega
  rw [if_neg (by omega), if_neg h1]
  by_cases h2 : n < 52
  · rw [if_pos (by omega), if_pos h2, w64 (x := 97 + (n : Int)) (by omega) (by omega), w64 (by omega) (by omega)]; congr 1; omega
  rw [if_neg (by omega), if_neg h2]
  by_cases h3 : n < 62
  · rw [if_pos (by omega), if_pos h3, w64 (x := 48 + (n : Int)) (by omega) (by omega), w64 (by omega) (by omega)]; congr 1; omega
  rw [if_neg (by omega), if_neg h3]
  by_cases h4 : n = 62
  · rw [if_pos (by omega), if_pos h4]; rfl
  · rw [if_neg (by omega), if_neg h4]; rfl

/-! ### bits -/
def bitN (l : List UInt8) (i : Nat) : Nat := (l.getD (i / 8) 0).toNat / 2 ^ (7 - i % 8) % 2
theorem bit_l0 (d : Nat) : ∀ (c j : Nat), c < 256 → j + d = 7 → Ev (fun k => bulletinref18_bit.l0 k (c : Int) (j : Int)) (((c / 2 ^ d % 2 : Nat)) : Int) := by
  induction d with
  | zero =>
    intro c j hc hj
    refine up ?_
    simp only [bulletinref18_bit.l0]
    refine neg (by omega) (now' ?_)
    rw [Int.tmod_eq_emod_of_nonneg (by omega)]
    simp
  | succ d ih =>
    intro c j hc hj
    refine up ?_
    simp only [bulletinref18_bit.l0]
    refine pos (by omega) ?_
    rw [wi j (by omega), Int.tdiv_eq_ediv_of_nonneg (by omega), w64 (by omega) (by omega)]
    have := ih (c / 2) (j + 1) (by omega) (by omega)
    rw [Nat.div_div_eq_div_mul, Nat.mul_comm, ← Nat.pow_succ] at this
    exact this
theorem bit_ev (s : ByteArray) (i : Nat) (hi : i < 100000000000) (hs : (L s).length ≤ 100000000000) : Ev (fun k => bulletinref18_bit.f k s (i : Int)) ((bitN (L s) i : Nat) : Int) := by
  unfold bulletinref18_bit.f
  have e : wrap64 (Int.tdiv (i : Int) 8) = ((i / 8 : Nat) : Int) := by
    rw [Int.tdiv_eq_ediv_of_nonneg (by omega), w64 (by omega) (by omega)]; rfl
  have e2 : Int.tmod (i : Int) 8 = ((i % 8 : Nat) : Int) := by rw [Int.tmod_eq_emod_of_nonneg (by omega)]; rfl
  simp only [e, e2]
  clear e e2
  by_cases h : (L s).length ≤ i / 8
  · refine pos (by rw [sz]; omega) (now' ?_)
    unfold bitN
    rw [List.getD_eq_getElem?_getD, List.getElem?_eq_none h]
    simp
  · refine neg (by rw [sz]; omega) (pos (by omega) (pos (by rw [sz]; omega) ?_))
    rw [btd]
    have hc := lt256 ((L s).getD (i / 8) 0)
    rw [w64 (x := (((L s).getD (i / 8) 0).toNat : Int)) (by omega) (by omega)]
    exact bit_l0 (7 - i % 8) _ (i % 8) hc (by omega)
/-- six bits from a place on -/
def bits6 (l : List UInt8) (i : Nat) : Nat → Nat → Nat
  | 0, n => n
  | d + 1, n => bits6 l i d (2 * n + bitN l (i + (5 - d)))
def V (l : List UInt8) (i : Nat) : Nat := bits6 l i 6 0
theorem bitN_lt (l : List UInt8) (i : Nat) : bitN l i < 2 := Nat.mod_lt _ (by omega)
theorem V_eq (l : List UInt8) (i : Nat) : V l i = 32 * bitN l i + 16 * bitN l (i + 1) + 8 * bitN l (i + 2) + 4 * bitN l (i + 3) + 2 * bitN l (i + 4) + bitN l (i + 5) := by
  simp only [V, bits6, Nat.sub_self, Nat.add_zero, Nat.reduceSub]
  omega
theorem V_lt (l : List UInt8) (i : Nat) : V l i < 64 := by
  rw [V_eq]
  have := bitN_lt l i; have := bitN_lt l (i + 1); have := bitN_lt l (i + 2); have := bitN_lt l (i + 3); have := bitN_lt l (i + 4); have := bitN_lt l (i + 5)
  omega
theorem bit_shift (a b c : UInt8) (r : List UInt8) (i : Nat) : bitN (a :: b :: c :: r) (i + 24) = bitN r i := by
  unfold bitN
  rw [show (i + 24) / 8 = i / 8 + 1 + 1 + 1 from by omega, show (i + 24) % 8 = i % 8 from by omega]
  simp only [List.getD_cons_succ]
theorem V_shift (a b c : UInt8) (r : List UInt8) (i : Nat) : V (a :: b :: c :: r) (i + 24) = V r i := by
  rw [V_eq, V_eq]
  rw [bit_shift, show i + 24 + 1 = (i + 1) + 24 from by omega, bit_shift, show i + 24 + 2 = (i + 2) + 24 from by omega, bit_shift, show i + 24 + 3 = (i + 3) + 24 from by omega, bit_shift, show i + 24 + 4 = (i + 4) + 24 from by omega, bit_shift, show i + 24 + 5 = (i + 5) + 24 from by omega, bit_shift]
/-- the numbers that the reference takes -/
def lett (l : List UInt8) : Nat → Nat → List Nat
  | 0, _ => []
  | k + 1, i => if i < 8 * l.length then V l i :: lett l k (i + 6) else []
theorem lett_shift (a b c : UInt8) (r : List UInt8) : ∀ (k i : Nat), lett (a :: b :: c :: r) k (i + 24) = lett r k i
  | 0, _ => rfl
  | k + 1, i => by
    simp only [lett, List.length_cons]
    by_cases h : i < 8 * r.length
    · rw [if_pos (by omega), if_pos h, V_shift, show i + 24 + 6 = (i + 6) + 24 from by omega, lett_shift a b c r k]
    · rw [if_neg (by omega), if_neg h]
theorem V3 (a b c : UInt8) (r : List UInt8) : V (a :: b :: c :: r) 0 = a.toNat / 4 ∧ V (a :: b :: c :: r) 6 = a.toNat % 4 * 16 + b.toNat / 16 ∧ V (a :: b :: c :: r) 12 = b.toNat % 16 * 4 + c.toNat / 64 ∧ V (a :: b :: c :: r) 18 = c.toNat % 64 := by
  have ha := lt256 a; have hb := lt256 b; have hc := lt256 c
  refine ⟨?_, ?_, ?_, ?_⟩
  · rw [V_eq]
    show 32 * (a.toNat / 128 % 2) + 16 * (a.toNat / 64 % 2) + 8 * (a.toNat / 32 % 2) + 4 * (a.toNat / 16 % 2) + 2 * (a.toNat / 8 % 2) + a.toNat / 4 % 2 = _
    omega
  · rw [V_eq]
    show 32 * (a.toNat / 2 % 2) + 16 * (a.toNat / 1 % 2) + 8 * (b.toNat / 128 % 2) + 4 * (b.toNat / 64 % 2) + 2 * (b.toNat / 32 % 2) + b.toNat / 16 % 2 = _
    omega
  · rw [V_eq]
    show 32 * (b.toNat / 8 % 2) + 16 * (b.toNat / 4 % 2) + 8 * (b.toNat / 2 % 2) + 4 * (b.toNat / 1 % 2) + 2 * (c.toNat / 128 % 2) + c.toNat / 64 % 2 = _
    omega
  · rw [V_eq]
    show 32 * (c.toNat / 32 % 2) + 16 * (c.toNat / 16 % 2) + 8 * (c.toNat / 8 % 2) + 4 * (c.toNat / 4 % 2) + 2 * (c.toNat / 2 % 2) + c.toNat / 1 % 2 = _
    omega
theorem V_pad1 (a : UInt8) (i : Nat) : V [a] i = V [a, 0, 0] i := by
  have : ∀ j, bitN [a] j = bitN [a, 0, 0] j := by
    intro j
    unfold bitN
    congr 2
    match j / 8 with
    | 0 => rfl
    | 1 => rfl
    | 2 => rfl
    | n + 3 => rfl
  rw [V_eq, V_eq]
  simp only [this]
theorem V_pad2 (a b : UInt8) (i : Nat) : V [a, b] i = V [a, b, 0] i := by
  have : ∀ j, bitN [a, b] j = bitN [a, b, 0] j := by
    intro j
    unfold bitN
    congr 2
    match j / 8 with
    | 0 => rfl
    | 1 => rfl
    | 2 => rfl
    | n + 3 => rfl
  rw [V_eq, V_eq]
  simp only [this]
theorem lett_sext : ∀ (l : List UInt8) (k : Nat), 2 * l.length + 2 ≤ k → lett l k 0 = sext l
  | [], k, h => by
    cases k <;> simp [lett, sext]
  | [a], k, h => by
    obtain ⟨k, rfl⟩ : ∃ q, k = q + 3 := ⟨k - 3, by simp at h; omega⟩
    obtain ⟨v1, v2, _, _⟩ := V3 a 0 0 []
    simp only [lett, List.length_cons, List.length_nil]
    rw [if_pos (by omega), if_pos (by omega), if_neg (by omega), V_pad1, V_pad1, v1, show 0 + 6 = 6 from rfl, v2]
    rfl
  | [a, b], k, h => by
    obtain ⟨k, rfl⟩ : ∃ q, k = q + 4 := ⟨k - 4, by simp at h; omega⟩
    obtain ⟨v1, v2, v3, _⟩ := V3 a b 0 []
    simp only [lett, List.length_cons, List.length_nil]
    rw [if_pos (by omega), if_pos (by omega), if_pos (by omega), if_neg (by omega), V_pad2, V_pad2, V_pad2, v1, show 0 + 6 = 6 from rfl, v2, show 6 + 6 = 12 from rfl, v3]
    rfl
  | a :: b :: c :: r, k, h => by
    obtain ⟨k, rfl⟩ : ∃ q, k = q + 4 := ⟨k - 4, by simp at h; omega⟩
    obtain ⟨v1, v2, v3, v4⟩ := V3 a b c r
    simp only [lett, List.length_cons]
    rw [if_pos (by omega), if_pos (by omega), if_pos (by omega), if_pos (by omega), v1, show 0 + 6 = 6 from rfl, v2, show 6 + 6 = 12 from rfl, v3, show 12 + 6 = 18 from rfl, v4, show 18 + 6 = 0 + 24 from rfl, lett_shift, lett_sext r k (by simp at h; omega)]
    rfl
theorem pads_cases : ∀ l : List UInt8, ((sext l).length % 4 = 0 ∧ pads l = []) ∨ ((sext l).length % 4 = 2 ∧ pads l = [61, 61]) ∨ ((sext l).length % 4 = 3 ∧ pads l = [61])
  | [] => Or.inl ⟨rfl, rfl⟩
  | [_] => Or.inr (Or.inl ⟨rfl, rfl⟩)
  | [_, _] => Or.inr (Or.inr ⟨rfl, rfl⟩)
  | a :: b :: c :: r => by
    simp only [sext, pads, List.length_cons]
    rcases pads_cases r with ⟨h1, h2⟩ | ⟨h1, h2⟩ | ⟨h1, h2⟩
    · exact Or.inl ⟨by omega, h2⟩
    · exact Or.inr (Or.inl ⟨by omega, h2⟩)
    · exact Or.inr (Or.inr ⟨by omega, h2⟩)

/-! ### Plain, by the reference -/
theorem l2_end (l : List UInt8) (h : l.length % 4 = 0) : Ev (fun k => bulletinref18_Plain.l2 k (S l)) (S l) := by
  refine up ?_
  simp only [bulletinref18_Plain.l2]
  exact pos (by rw [sz, L_S]; omega) (Ev.now _)
theorem l2_more (l : List UInt8) (hl : l.length ≤ 1000000000000) {r : ByteArray} (h : l.length % 4 ≠ 0) (k : Ev (fun k => bulletinref18_Plain.l2 k (S (l ++ [61]))) r) : Ev (fun k => bulletinref18_Plain.l2 k (S l)) r := by
  refine up ?_
  simp only [bulletinref18_Plain.l2]
  refine neg (by rw [sz, L_S]; omega) (pos (by rw [sz, L_S]; omega) ?_)
  have e : S l ++ (⟨#[61]⟩ : ByteArray) = S (l ++ [61]) := S_app l [61]
  rw [e]
  exact k
theorem refplain_l0 (s : ByteArray) (hs : (L s).length ≤ 1000000000) (m : Nat) : ∀ (i : Nat) (acc : List Nat), (∀ n ∈ acc, n < 64) → acc.length ≤ i → i ≤ 8 * (L s).length + 5 → 8 * (L s).length ≤ i + 6 * m → acc ++ lett (L s) m i = sext (L s) →
    Ev (fun k => bulletinref18_Plain.l0 k s (S (acc.map (fun n => B (let64 n)))) (i : Int)) (S (encL (L s))) := by
  have w8 : wrap64 (8 * (s.size : Int)) = ((8 * (L s).length : Nat) : Int) := by rw [sz, w64 (by omega) (by omega)]; omega
  induction m with
  | zero =>
    intro i acc hacc hai hi6 hend hr
    refine up ?_
    simp only [bulletinref18_Plain.l0, w8]
    refine neg (by omega) ?_
    simp only [lett, List.append_nil] at hr
    have hlen : acc.length = (sext (L s)).length := by rw [hr]
    have hsl := (enc_len (L s)).2
    unfold encL
    rw [hr]
    have hml : ((sext (L s)).map (fun n => B (let64 n))).length = (sext (L s)).length := List.length_map _
    rcases pads_cases (L s) with ⟨h1, h2⟩ | ⟨h1, h2⟩ | ⟨h1, h2⟩
    · rw [h2, List.append_nil]
      exact l2_end _ (by rw [hml]; exact h1)
    · rw [h2]
      refine l2_more _ (by rw [hml]; omega) (by rw [hml]; omega) (l2_more _ (by simp only [List.length_append, hml, List.length_cons, List.length_nil]; omega) (by simp only [List.length_append, hml, List.length_cons, List.length_nil]; omega) ?_)
      rw [List.append_assoc]
      exact l2_end _ (by simp only [List.length_append, hml, List.length_cons, List.length_nil]; omega)
    · rw [h2]
      refine l2_more _ (by rw [hml]; omega) (by rw [hml]; omega) ?_
      exact l2_end _ (by simp only [List.length_append, hml, List.length_cons, List.length_nil]; omega)
  | succ m ih =>
    intro i acc hacc hai hi6 hend hr
    by_cases hlt : i < 8 * (L s).length
    · -- a letter more
      have inner : ∀ (d n : Nat), d ≤ 6 → n < 2 ^ (6 - d) → bits6 (L s) i d n = V (L s) i → Ev (fun k => bulletinref18_Plain.l1 k s (S (acc.map (fun n => B (let64 n)))) (i : Int) (n : Int) ((6 - d : Nat) : Int)) (S (encL (L s))) := by
        intro d
        induction d with
        | zero =>
          intro n _ hn hv
          simp only [bits6] at hv
          subst hv
          have hv := V_lt (L s) i
          refine up ?_
          simp only [bulletinref18_Plain.l1]
          refine neg (by omega) (cbind (letter_eq _ hv) (sbind ?_))
          have e : strOfNums [((let64 (V (L s) i) : Nat) : Int)] = S [B (let64 (V (L s) i))] := by
            rw [nums_eq]; rfl
          rw [e]
          have z1 : (S (acc.map (fun n => B (let64 n)))).size = acc.length := by rw [sz, L_S, List.length_map]
          have z2 : (S [B (let64 (V (L s) i))]).size = 1 := rfl
          refine pos (by omega) ?_
          have w6 : wrap64 ((i : Int) + 6) = ((i + 6 : Nat) : Int) := by rw [w64 (by omega) (by omega)]; rfl
          rw [S_app, w6]
          clear w6
          have := ih (i + 6) (acc ++ [V (L s) i]) (by
            intro x hx
            rw [List.mem_append] at hx
            rcases hx with hx | hx
            · exact hacc x hx
            · simp only [List.mem_singleton] at hx
              rw [hx]; exact hv) (by simp; omega) (by omega) (by omega) (by
            simp only [lett, if_pos hlt] at hr
            rw [List.append_assoc]
            exact hr)
          simpa using this
        | succ d ihd =>
          intro n hd hn hv
          refine up ?_
          simp only [bulletinref18_Plain.l1]
          refine pos (by omega) ?_
          have w1 : wrap64 ((i : Int) + ((6 - (d + 1) : Nat) : Int)) = ((i + (5 - d) : Nat) : Int) := by rw [w64 (by omega) (by omega)]; omega
          rw [w1]
          clear w1
          refine Ev.bind (bit_ev s (i + (5 - d)) (by omega) (by omega)) ?_
          have hb := bitN_lt (L s) (i + (5 - d))
          have hn2 : n < 64 := Nat.lt_of_lt_of_le hn (Nat.pow_le_pow_right (by omega) (show 6 - (d + 1) ≤ 6 by omega))
          have w2 : wrap64 (wrap64 (2 * (n : Int)) + ((bitN (L s) (i + (5 - d)) : Nat) : Int)) = ((2 * n + bitN (L s) (i + (5 - d)) : Nat) : Int) := by
            rw [w64 (x := 2 * (n : Int)) (by omega) (by omega), w64 (by omega) (by omega)]; omega
          have w3 : wrap64 (((6 - (d + 1) : Nat) : Int) + 1) = ((6 - d : Nat) : Int) := by rw [w64 (by omega) (by omega)]; omega
          rw [w2, w3]
          clear w2 w3
          refine ihd (2 * n + bitN (L s) (i + (5 - d))) (by omega) ?_ hv
          have : 2 ^ (6 - d) = 2 * 2 ^ (6 - (d + 1)) := by
            rw [show 6 - d = (6 - (d + 1)) + 1 from by omega, Nat.pow_succ, Nat.mul_comm]
          omega
      refine up ?_
      simp only [bulletinref18_Plain.l0, w8]
      refine pos (by omega) ?_
      exact inner 6 0 (by omega) (by decide) rfl
    · have hl : lett (L s) (m + 1) i = lett (L s) 0 i := by simp only [lett, if_neg hlt]
      rw [hl] at hr
      have hl2 : lett (L s) m i = lett (L s) 0 i := by cases m <;> simp only [lett, if_neg hlt]
      exact ih i acc hacc hai hi6 (by omega) (by rw [hl2]; exact hr)
theorem refplain_ev (s : ByteArray) (hs : (L s).length ≤ 1000000000) : Ev (fun k => bulletinref18_Plain.f k s) (S (encL (L s))) := by
  unfold bulletinref18_Plain.f
  have := refplain_l0 s hs (2 * (L s).length + 2) 0 [] (by simp) (by simp) (by omega) (by omega) (by rw [List.nil_append]; exact lett_sext (L s) _ (Nat.le_refl _))
  exact this
end Go.Proofs.YtgbkjgngpceeiaaDoor.B64
