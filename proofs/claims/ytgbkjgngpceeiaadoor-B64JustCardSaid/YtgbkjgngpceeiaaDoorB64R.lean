/- The rest of what the reference of package b64 tells. -/
import Derived.Test.YtgbkjgngpceeiaaDoorB64Q
namespace Go.Proofs.YtgbkjgngpceeiaaDoor.B64
open Go.RowKit Go.Proofs.YtgbkjgngpceeiaaDoor.X Go.Proofs.YtgbkjgngpceeiaaDoorW.PrintWords Go.Proofs.YtgbkjgngpceeiaaDoorW.PrintLast Go.Proofs.YtgbkjgngpceeiaaDoorW.PrintMore Go.Proofs.YtgbkjgngpceeiaaDoor.Aid
set_option linter.unusedVariables false
set_option linter.unusedSimpArgs false

theorem ext1 (s : ByteArray) (i : Nat) (h : i < (L s).length) : s.extract ((i : Nat) : Int).toNat ((i + 1 : Nat) : Int).toNat = S [(L s)[i]] := by
  apply L_inj
  rw [L_ext, L_S]
  show ((L s).take (i + 1)).drop i = _
  rw [List.take_add_one, List.drop_append_of_le_length (by rw [List.length_take]; omega), List.drop_eq_nil_of_le (by rw [List.length_take]; omega), List.getElem?_eq_getElem h]
  rfl

/-! ### Bare -/
theorem refbare_l0 (s : ByteArray) (hs : (L s).length ≤ 1000000000) (d : Nat) : ∀ (i : Nat) (acc : List UInt8), i ≤ (L s).length → (L s).length - i = d → acc.length ≤ i →
    Ev (fun k => bulletinref18_Bare.l0 k s (S acc) (i : Int)) (S (acc ++ bare ((L s).drop i))) := by
  induction d with
  | zero =>
    intro i acc hi hd _
    refine up ?_
    simp only [bulletinref18_Bare.l0]
    refine neg (by rw [sz]; omega) (now' ?_)
    rw [List.drop_eq_nil_of_le (by omega)]
    simp [bare]
  | succ d ih =>
    intro i acc hi hd ha
    have hil : i < (L s).length := by omega
    refine up ?_
    simp only [bulletinref18_Bare.l0]
    refine pos (by rw [sz]; omega) (pos (by omega) ?_)
    rw [btn s i hil, wi i (by omega)]
    have next : bare ((L s).drop i) = bare ((L s).drop (i + 1)) → Ev (fun k => bulletinref18_Bare.l0 k s (S acc) ((i + 1 : Nat) : Int)) (S (acc ++ bare ((L s).drop i))) := by
      intro e
      rw [e]
      exact ih (i + 1) acc (by omega) (by omega) (by omega)
    have eb : ∀ b, white (L s)[i] = b → bare ((L s).drop i) = if b then bare ((L s).drop (i + 1)) else (L s)[i] :: bare ((L s).drop (i + 1)) := by
      intro b hb
      rw [List.drop_eq_getElem_cons hil]
      unfold bare
      rw [List.filter_cons, hb]
      cases b <;> rfl
    by_cases h1 : (L s)[i] = 32
    · exact pos (by rw [h1]; rfl) (next (eb true (by rw [h1]; rfl)))
    refine neg (fun e => h1 (u8i (d := 32) e)) ?_
    by_cases h2 : (L s)[i] = 9
    · exact pos (by rw [h2]; rfl) (next (eb true (by rw [h2]; rfl)))
    refine neg (fun e => h2 (u8i (d := 9) e)) ?_
    by_cases h3 : (L s)[i] = 13
    · exact pos (by rw [h3]; rfl) (next (eb true (by rw [h3]; rfl)))
    refine neg (fun e => h3 (u8i (d := 13) e)) ?_
    by_cases h4 : (L s)[i] = 10
    · exact pos (by rw [h4]; rfl) (next (eb true (by rw [h4]; rfl)))
    refine neg (fun e => h4 (u8i (d := 10) e)) ?_
    have hw : white (L s)[i] = false := by
      unfold white
      rw [beq_eq_false_iff_ne.2 h1, beq_eq_false_iff_ne.2 h2, beq_eq_false_iff_ne.2 h3, beq_eq_false_iff_ne.2 h4]; rfl
    refine pos (by omega) (pos (by rw [sz]; omega) ?_)
    rw [ext1 s i hil]
    have z1 : (S acc).size = acc.length := by rw [sz, L_S]
    have z2 : (S [(L s)[i]]).size = 1 := rfl
    refine pos (by omega) ?_
    rw [S_app]
    have := ih (i + 1) (acc ++ [(L s)[i]]) (by omega) (by omega) (by simp; omega)
    rw [eb false hw]
    rw [List.append_assoc] at this
    exact this
theorem refbare_ev (s : ByteArray) (hs : (L s).length ≤ 1000000000) : Ev (fun k => bulletinref18_Bare.f k s) (S (bare (L s))) := by
  unfold bulletinref18_Bare.f
  have := refbare_l0 s hs (L s).length 0 [] (by omega) (by omega) (by simp)
  rw [List.drop_zero, List.nil_append] at this
  exact this

/-! ### Encode -/
def lns (t : List UInt8) : List UInt8 := linesL t.length t
theorem lns_nil : lns [] = [] := rfl
theorem lns_cons (t : List UInt8) (h : t ≠ []) : lns t = t.take 76 ++ [13, 10] ++ lns (t.drop 76) := by
  unfold lns
  have hp : 0 < t.length := List.length_pos_iff.2 h
  obtain ⟨n, hn⟩ : ∃ n, t.length = n + 1 := ⟨t.length - 1, by omega⟩
  rw [hn]
  simp only [linesL, if_neg h]
  rw [linesL_enough (t.drop 76).length n (t.drop 76) (Nat.le_refl _) (by rw [List.length_drop]; omega)]
def lnc (c : Nat) (t : List UInt8) : List UInt8 := if t = [] then [] else t.take (76 - c) ++ [13, 10] ++ lns (t.drop (76 - c))
theorem lnc_0 (t : List UInt8) : lnc 0 t = lns t := by
  unfold lnc
  by_cases h : t = []
  · rw [if_pos h, h, lns_nil]
  · rw [if_neg h, lns_cons t h]
theorem lnc_end (c : Nat) (hc : c < 76) (x : UInt8) : lnc c [x] = [x, 13, 10] := by
  unfold lnc
  obtain ⟨n, hn⟩ : ∃ n, 76 - c = n + 1 := ⟨75 - c, by omega⟩
  rw [if_neg (by simp), hn, List.take_succ_cons, List.drop_succ_cons, List.take_nil, List.drop_nil, lns_nil]
  rfl
theorem lnc_75 (x : UInt8) (t : List UInt8) : lnc 75 (x :: t) = [x, 13, 10] ++ lnc 0 t := by
  rw [lnc_0]
  unfold lnc
  rw [if_neg (by simp)]
  rfl
theorem lnc_more (c : Nat) (hc : c < 75) (x : UInt8) (t : List UInt8) (ht : t ≠ []) : lnc c (x :: t) = x :: lnc (c + 1) t := by
  unfold lnc
  rw [if_neg (by simp), if_neg ht, show 76 - c = (76 - (c + 1)) + 1 from by omega, List.take_succ_cons, List.drop_succ_cons]
  rfl
theorem refenc_l0 (t : ByteArray) (ht : (L t).length ≤ 1000000000) (d : Nat) : ∀ (i : Nat) (acc : List UInt8), i ≤ (L t).length → (L t).length - i = d → acc.length ≤ 3 * i →
    Ev (fun k => bulletinref18_Encode.l0 k t (S acc) (i : Int)) (S (acc ++ lnc (i % 76) ((L t).drop i))) := by
  induction d with
  | zero =>
    intro i acc hi hd _
    refine up ?_
    simp only [bulletinref18_Encode.l0]
    refine neg (by rw [sz]; omega) (now' ?_)
    rw [List.drop_eq_nil_of_le (by omega)]
    simp [lnc]
  | succ d ih =>
    intro i acc hi hd ha
    have hil : i < (L t).length := by omega
    refine up ?_
    simp only [bulletinref18_Encode.l0]
    refine pos (by rw [sz]; omega) (pos (by omega) ?_)
    rw [wi i (by omega), ext1 t i hil]
    refine pos (by omega) (pos (by rw [sz]; omega) ?_)
    have z1 : (S acc).size = acc.length := by rw [sz, L_S]
    have z2 : (S [(L t)[i]]).size = 1 := rfl
    refine pos (by omega) ?_
    have e10 : (⟨#[13, 10]⟩ : ByteArray) = S [13, 10] := rfl
    rw [S_app, e10, S_app]
    have z3 : (S (acc ++ [(L t)[i]])).size = acc.length + 1 := by rw [sz, L_S]; simp
    have et : Int.tmod (i : Int) 76 = ((i % 76 : Nat) : Int) := by rw [Int.tmod_eq_emod_of_nonneg (by omega)]; rfl
    rw [et]
    clear et
    have hc := Nat.mod_lt i (show 0 < 76 by omega)
    have hdr := List.drop_eq_getElem_cons hil
    by_cases h75 : i % 76 = 75
    · refine pos (by omega) (pos (by omega) ?_)
      have := ih (i + 1) (acc ++ [(L t)[i]] ++ [13, 10]) (by omega) (by omega) (by simp; omega)
      rw [show (i + 1) % 76 = 0 from by omega] at this
      rw [hdr, h75, lnc_75]
      simp only [List.append_assoc, List.cons_append, List.nil_append] at this ⊢
      exact this
    · refine neg (by omega) ?_
      by_cases hend : i + 1 = (L t).length
      · refine pos (by rw [sz]; omega) (pos (by omega) ?_)
        have := ih (i + 1) (acc ++ [(L t)[i]] ++ [13, 10]) (by omega) (by omega) (by simp; omega)
        have hn : (L t).drop (i + 1) = [] := List.drop_eq_nil_of_le (by omega)
        rw [hdr, hn, lnc_end _ hc]
        rw [hn] at this
        have e0 : ∀ c, lnc c [] = [] := fun c => by unfold lnc; rw [if_pos rfl]
        rw [e0, List.append_nil] at this
        simp only [List.append_assoc, List.cons_append, List.nil_append] at this ⊢
        exact this
      · refine neg (by rw [sz]; omega) ?_
        have := ih (i + 1) (acc ++ [(L t)[i]]) (by omega) (by omega) (by simp; omega)
        rw [show (i + 1) % 76 = i % 76 + 1 from by omega] at this
        rw [hdr, lnc_more _ (by omega) _ _ (by
          intro e
          have := congrArg List.length e
          rw [List.length_drop, List.length_nil] at this
          omega)]
        simp only [List.append_assoc, List.cons_append, List.nil_append] at this ⊢
        exact this
theorem refencode_ev (s : ByteArray) (h : (L s).length ≤ 100000000) : Ev (fun k => bulletinref18_Encode.f k s) (S (linesL (encL (L s)).length (encL (L s)))) := by
  unfold bulletinref18_Encode.f
  refine Ev.bind (refplain_ev s (by omega)) ?_
  have hel := (enc_len (L s)).1
  have := refenc_l0 (S (encL (L s))) (by rw [L_S]; omega) (L (S (encL (L s)))).length 0 [] (by omega) (by omega) (by simp)
  rw [L_S, show 0 % 76 = 0 from rfl, lnc_0, List.drop_zero, List.nil_append] at this
  exact this

/-! ### value -/
def valI (c : Nat) : Int := match val64 c with | some n => (n : Int) | none => -1
theorem value_l0 (c : Nat) (d : Nat) : ∀ i : Nat, i + d = 64 → (∀ j, j < i → let64 j ≠ c) → Ev (fun k => bulletinref18_value.l0 k (c : Int) (i : Int)) (valI c) := by
  induction d with
  | zero =>
    intro i hi hno
    refine up ?_
    simp only [bulletinref18_value.l0]
    refine neg (by omega) (now' ?_)
    unfold valI
    cases h : val64 c with
    | none => rfl
    | some n =>
      obtain ⟨h1, h2⟩ := val_some h
      exact absurd h2 (hno n (by omega))
  | succ d ih =>
    intro i hi hno
    refine up ?_
    simp only [bulletinref18_value.l0]
    refine pos (by omega) (cbind (letter_eq i (by omega)) ?_)
    by_cases h : let64 i = c
    · refine pos (by omega) (now' ?_)
      unfold valI
      rw [← h, val_let i (by omega)]
    · refine neg (by omega) ?_
      rw [wi i (by omega)]
      refine ih (i + 1) (by omega) ?_
      intro j hj
      by_cases hji : j = i
      · subst hji; exact h
      · exact hno j (by omega)
theorem value_ev (c : Nat) : Ev (fun k => bulletinref18_value.f k (c : Int)) (valI c) := value_l0 c 64 0 (by omega) (fun j hj => by omega)

/-! ### Decode, by the reference -/
def b1 (v w : Nat) (s : Nat × Nat × List UInt8) : Nat × Nat × List UInt8 := if s.2.1 + 1 = 8 then (0, 0, s.2.2 ++ [B (2 * s.1 + v / w % 2)]) else (2 * s.1 + v / w % 2, s.2.1 + 1, s.2.2)
theorem b1_inv (v w : Nat) (s : Nat × Nat × List UInt8) (h1 : s.1 < 2 ^ s.2.1) (h2 : s.2.1 < 8) : (b1 v w s).1 < 2 ^ (b1 v w s).2.1 ∧ (b1 v w s).2.1 < 8 ∧ (b1 v w s).2.2.length ≤ s.2.2.length + 1 := by
  unfold b1
  by_cases h : s.2.1 + 1 = 8
  · rw [if_pos h]; simp
  · rw [if_neg h]
    have := Nat.mod_lt (v / w) (show 0 < 2 by omega)
    refine ⟨?_, ?_, ?_⟩
    · show 2 * s.1 + v / w % 2 < 2 ^ (s.2.1 + 1)
      rw [Nat.pow_succ]; omega
    · show s.2.1 + 1 < 8; omega
    · show s.2.2.length ≤ _; omega
theorem round (t : ByteArray) (i : Int) (v w : Nat) (hw : w = 1 ∨ w = 2 ∨ w = 4 ∨ w = 8 ∨ w = 16 ∨ w = 32) (hv : v < 64) (s : Nat × Nat × List UInt8) (h1 : s.1 < 2 ^ s.2.1) (h2 : s.2.1 < 8) (h3 : s.2.2.length ≤ 10000000000) {r : ByteArray × Bool}
    (k : Ev (fun k => bulletinref18_Decode.l1 k t (S (b1 v w s).2.2) ((b1 v w s).1 : Int) ((b1 v w s).2.1 : Int) i (v : Int) ((w / 2 : Nat) : Int)) r) :
    Ev (fun k => bulletinref18_Decode.l1 k t (S s.2.2) (s.1 : Int) (s.2.1 : Int) i (v : Int) (w : Int)) r := by
  have hs1 : s.1 < 128 := Nat.lt_of_lt_of_le h1 (Nat.pow_le_pow_right (by omega) (show s.2.1 ≤ 7 by omega))
  have hw0 : 1 ≤ w := by omega
  have hb := Nat.mod_lt (v / w) (show 0 < 2 by omega)
  have hdiv : v / w < 64 := Nat.lt_of_le_of_lt (Nat.div_le_self _ _) hv
  have e1 : Int.tmod (wrap64 (Int.tdiv (v : Int) (w : Int))) 2 = ((v / w % 2 : Nat) : Int) := by
    have : Int.tdiv (v : Int) (w : Int) = ((v / w : Nat) : Int) := by rw [Int.tdiv_eq_ediv_of_nonneg (by omega)]; rfl
    rw [this]
    clear this
    generalize v / w = q at hdiv ⊢
    rw [w64 (by omega) (by omega), Int.tmod_eq_emod_of_nonneg (by omega)]; rfl
  have e2 : wrap64 (Int.tdiv (w : Int) 2) = ((w / 2 : Nat) : Int) := by
    have : Int.tdiv (w : Int) 2 = ((w / 2 : Nat) : Int) := by rw [Int.tdiv_eq_ediv_of_nonneg (by omega)]; rfl
    rw [this]
    clear this
    rw [w64 (by omega) (by omega)]
  have e3 : wrap64 ((s.2.1 : Int) + 1) = ((s.2.1 + 1 : Nat) : Int) := wi _ (by omega)
  have e4 : ∀ b : Nat, b < 2 → wrap64 ((wrap64 (2 * (s.1 : Int))) + (b : Int)) = ((2 * s.1 + b : Nat) : Int) := by
    intro b hb
    rw [w64 (x := 2 * (s.1 : Int)) (by omega) (by omega), w64 (by omega) (by omega)]; omega
  refine up ?_
  simp only [bulletinref18_Decode.l1]
  refine pos (by omega) ?_
  refine up ?_
  simp only [bulletinref18_Decode.j2]
  refine pos (by simp) (neg (by omega) ?_)
  simp only [e1, e2, e3, e4 _ hb]
  clear e1 e2 e3 e4
  by_cases h8 : s.2.1 + 1 = 8
  · refine pos (by omega) (sbind ?_)
    have e : b1 v w s = (0, 0, s.2.2 ++ [B (2 * s.1 + v / w % 2)]) := by unfold b1; rw [if_pos h8]
    rw [e] at k
    have es : strOfNums [((2 * s.1 + v / w % 2 : Nat) : Int) % 256] = S [B (2 * s.1 + v / w % 2)] := by
      rw [nums_eq]
      have : (((2 * s.1 + v / w % 2 : Nat) : Int) % 256).toNat = 2 * s.1 + v / w % 2 := by omega
      simp only [List.map_cons, List.map_nil, this]
    rw [es]
    have z1 : (S s.2.2).size = s.2.2.length := by rw [sz, L_S]
    have z2 : (S [B (2 * s.1 + v / w % 2)]).size = 1 := rfl
    refine pos (by omega) ?_
    rw [S_app]
    exact k
  · refine neg (by omega) ?_
    have e : b1 v w s = (2 * s.1 + v / w % 2, s.2.1 + 1, s.2.2) := by unfold b1; rw [if_neg h8]
    rw [e] at k
    exact k
theorem six (h n v : Nat) (acc : List UInt8) (hn : okN n) (hh : h < 2 ^ n) (hv : v < 64) :
    b1 v 1 (b1 v 2 (b1 v 4 (b1 v 8 (b1 v 16 (b1 v 32 (h, n, acc)))))) = ((step h n v).1, (step h n v).2.1, acc ++ (step h n v).2.2) := by
  rcases hn with rfl | rfl | rfl | rfl
  · obtain rfl : h = 0 := by omega
    simp only [b1, step, Nat.reduceAdd, Nat.reduceEqDiff, if_false, if_true, Nat.reduceLT, Nat.reduceSub, Nat.reducePow, List.append_nil]
    refine Prod.ext ?_ rfl
    show 2 * (2 * (2 * (2 * (2 * (2 * 0 + v / 32 % 2) + v / 16 % 2) + v / 8 % 2) + v / 4 % 2) + v / 2 % 2) + v / 1 % 2 = 0 * 64 + v
    omega
  · simp only [b1, step, Nat.reduceAdd, Nat.reduceEqDiff, if_false, if_true, Nat.reduceLT, Nat.reduceSub, Nat.reducePow, List.append_nil]
    rw [show 2 * (2 * (2 * (2 * (2 * (2 * h + v / 32 % 2) + v / 16 % 2) + v / 8 % 2) + v / 4 % 2) + v / 2 % 2) + v / 1 % 2 = (h * 64 + v) / 1 from by omega, show (h * 64 + v) % 1 = 0 from by omega]
  · simp only [b1, step, Nat.reduceAdd, Nat.reduceEqDiff, if_false, if_true, Nat.reduceLT, Nat.reduceSub, Nat.reducePow, List.append_nil]
    rw [show 2 * (2 * (2 * (2 * h + v / 32 % 2) + v / 16 % 2) + v / 8 % 2) + v / 4 % 2 = (h * 64 + v) / 4 from by omega, show 2 * (2 * 0 + v / 2 % 2) + v / 1 % 2 = (h * 64 + v) % 4 from by omega]
  · simp only [b1, step, Nat.reduceAdd, Nat.reduceEqDiff, if_false, if_true, Nat.reduceLT, Nat.reduceSub, Nat.reducePow, List.append_nil]
    rw [show 2 * (2 * h + v / 32 % 2) + v / 16 % 2 = (h * 64 + v) / 16 from by omega, show 2 * (2 * (2 * (2 * 0 + v / 8 % 2) + v / 4 % 2) + v / 2 % 2) + v / 1 % 2 = (h * 64 + v) % 16 from by omega]
theorem six_ev (t : ByteArray) (i : Int) (v h n : Nat) (acc : List UInt8) (hv : v < 64) (hn : okN n) (hh : h < 2 ^ n) (ha : acc.length ≤ 1000000000) {r : ByteArray × Bool}
    (k : Ev (fun k => bulletinref18_Decode.l0 k t (S (acc ++ (step h n v).2.2)) ((step h n v).1 : Int) ((step h n v).2.1 : Int) (wrap64 (i + 1))) r) :
    Ev (fun k => bulletinref18_Decode.l1 k t (S acc) (h : Int) (n : Int) i (v : Int) 32) r := by
  have e := six h n v acc hn hh hv
  have i0 : (h, n, acc).1 < 2 ^ (h, n, acc).2.1 := hh
  have n0 : (h, n, acc).2.1 < 8 := by unfold okN at hn; show n < 8; omega
  have a0 : (h, n, acc).2.2.length ≤ 1000000000 := ha
  have : Ev (fun k => bulletinref18_Decode.l1 k t (S (h, n, acc).2.2) ((h, n, acc).1 : Int) ((h, n, acc).2.1 : Int) i (v : Int) ((32 : Nat) : Int)) r := by
    generalize (h, n, acc) = s0 at *
    obtain ⟨i1, n1, a1⟩ := b1_inv v 32 s0 i0 n0
    refine round t i v 32 (by omega) hv s0 i0 n0 (by omega) ?_
    generalize b1 v 32 s0 = s1 at *
    obtain ⟨i2, n2, a2⟩ := b1_inv v 16 s1 i1 n1
    refine round t i v 16 (by omega) hv s1 i1 n1 (by omega) ?_
    generalize b1 v 16 s1 = s2 at *
    obtain ⟨i3, n3, a3⟩ := b1_inv v 8 s2 i2 n2
    refine round t i v 8 (by omega) hv s2 i2 n2 (by omega) ?_
    generalize b1 v 8 s2 = s3 at *
    obtain ⟨i4, n4, a4⟩ := b1_inv v 4 s3 i3 n3
    refine round t i v 4 (by omega) hv s3 i3 n3 (by omega) ?_
    generalize b1 v 4 s3 = s4 at *
    obtain ⟨i5, n5, a5⟩ := b1_inv v 2 s4 i4 n4
    refine round t i v 2 (by omega) hv s4 i4 n4 (by omega) ?_
    generalize b1 v 2 s4 = s5 at *
    refine round t i v 1 (by omega) hv s5 i5 n5 (by omega) ?_
    rw [e]
    refine up ?_
    simp only [bulletinref18_Decode.l1]
    refine neg (by omega) ?_
    refine up ?_
    simp only [bulletinref18_Decode.j2]
    exact neg (by simp) k
  exact this
def decB (t : List UInt8) : ByteArray × Bool := (S (decL t).1, (decL t).2)
theorem refdec_l0 (t : ByteArray) (ht : (L t).length ≤ 100000000) (d : Nat) : ∀ (i h n : Nat) (acc : List UInt8), i ≤ (L t).length → (L t).length - i = d → okN n → h < 2 ^ n → acc.length ≤ i →
    acc ++ run h n (vals ((L t).drop i)) = run 0 0 (vals (L t)) →
    Ev (fun k => bulletinref18_Decode.l0 k t (S acc) (h : Int) (n : Int) (i : Int)) (decB (L t)) := by
  induction d with
  | zero =>
    intro i h n acc hi hd hn hh ha hr
    refine up ?_
    simp only [bulletinref18_Decode.l0]
    refine neg (by rw [sz]; omega) (Ev.bind (refplain_ev _ (by rw [L_S]; omega)) ?_)
    rw [List.drop_eq_nil_of_le (by omega)] at hr
    simp only [vals, List.filterMap_nil, run, List.append_nil] at hr
    rw [L_S]
    have hd : decL (L t) = if encL acc = L t then (acc, true) else ([], false) := by unfold decL; rw [hr]; rfl
    unfold decB
    rw [hd]
    by_cases he : encL acc = L t
    · rw [if_pos he]
      exact pos (by rw [he, S_L]) (Ev.now _)
    · rw [if_neg he]
      exact neg (by rw [tl, tl, L_S]; exact he) (Ev.now _)
  | succ d ih =>
    intro i h n acc hi hd hn hh ha hr
    have hil : i < (L t).length := by omega
    refine up ?_
    simp only [bulletinref18_Decode.l0]
    refine pos (by rw [sz]; omega) (pos (by omega) ?_)
    rw [btn t i hil]
    refine Ev.bind (value_ev _) ?_
    rw [List.drop_eq_getElem_cons hil] at hr
    unfold valI
    cases hv : val64 (L t)[i].toNat with
    | none =>
      refine up ?_
      simp only [bulletinref18_Decode.l1]
      refine pos (by omega) ?_
      refine up ?_
      simp only [bulletinref18_Decode.j2]
      refine neg (by simp) ?_
      rw [wi i (by omega)]
      simp only [vals, List.filterMap_cons, hv] at hr
      exact ih (i + 1) h n acc (by omega) (by omega) hn hh (by omega) hr
    | some v =>
      obtain ⟨hv64, _⟩ := val_some hv
      simp only [vals, List.filterMap_cons, hv] at hr
      simp only [run] at hr
      rw [← List.append_assoc] at hr
      obtain ⟨s1, s2⟩ := step_ok h n v hn hh hv64
      refine six_ev t _ v h n acc hv64 hn hh (by omega) ?_
      rw [wi i (by omega)]
      have : (step h n v).2.2.length ≤ 1 := by unfold step; split <;> simp
      exact ih (i + 1) _ _ _ (by omega) (by omega) s1 s2 (by rw [List.length_append]; omega) hr
theorem refdecode_ev (s : ByteArray) (hs : (L s).length ≤ 100000000) : Ev (fun k => bulletinref18_Decode.f k s) (decB (bare (L s))) := by
  unfold bulletinref18_Decode.f
  refine Ev.bind (refbare_ev s (by omega)) ?_
  have hbl : (bare (L s)).length ≤ (L s).length := by unfold bare; exact List.length_filter_le _ _
  have := refdec_l0 (S (bare (L s))) (by rw [L_S]; omega) (L (S (bare (L s)))).length 0 0 0 [] (by omega) (by omega) (Or.inl rfl) (by omega) (by simp) (by rw [List.drop_zero, List.nil_append])
  rw [L_S] at this
  exact this
end Go.Proofs.YtgbkjgngpceeiaaDoor.B64
