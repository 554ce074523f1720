/- The pure statements of layer 18's laws. -/
import Derived.Test.YtgbkjgngpceeiaaDoorB64R
namespace Go.Proofs.YtgbkjgngpceeiaaDoor.B64
open Go.RowKit Go.Proofs.YtgbkjgngpceeiaaDoor.X Go.Proofs.YtgbkjgngpceeiaaDoorW.PrintWords Go.Proofs.YtgbkjgngpceeiaaDoorW.PrintLast Go.Proofs.YtgbkjgngpceeiaaDoorW.PrintMore Go.Proofs.YtgbkjgngpceeiaaDoor.Aid
set_option linter.unusedVariables false
set_option linter.unusedSimpArgs false

theorem works_ev : Ev (fun k => bulletinlaw18_works.f k) true := by
  unfold bulletinlaw18_works.f
  refine Ev.bind (decode_ev _ (Nat.le_of_ble_eq_true rfl)) (Ev.bind (decode_ev _ (Nat.le_of_ble_eq_true rfl)) (Ev.bind (plain_ev _ (Nat.le_of_ble_eq_true rfl)) ?_))
  have e1 : decL (bare (L ⟨#[97, 71, 13, 10, 107, 104]⟩)) = ([104, 105, 33], true) := by decide +kernel
  have e2 : decL (bare (L ⟨#[89, 82, 61, 61]⟩)) = ([], false) := by decide +kernel
  have e3 : encL (L ⟨#[104, 105, 33]⟩) = [97, 71, 107, 104] := by decide +kernel
  have e4 : linesL (encL (L ⟨#[97]⟩)).length (encL (L ⟨#[97]⟩)) = [89, 81, 61, 61, 13, 10] := by decide +kernel
  unfold decT
  rw [e1, e2, e3]
  refine pos (by rw [tl, L_S]) (Ev.bind (encode_ev _ (Nat.le_of_ble_eq_true rfl)) ?_)
  rw [e4]
  exact pos (by rw [tl, L_S]) (pos (by rw [tl, L_S]) (pos (by rfl) (now' (by rfl))))
theorem signs_ev (a0 a1 : ByteArray) (h0 : a0.size ≤ 140737488351232) (h1 : a1.size ≤ 140737488351232) : Ev (fun k => bulletinlaw18_B64Signs.f k a0 a1) true := by
  unfold bulletinlaw18_B64Signs.f
  have wk : Ev (fun k => bulletinlaw18_B64Signs.j0 k a0 a1 true) true := by
    refine up ?_
    simp only [bulletinlaw18_B64Signs.j0]
    exact pos (by trivial) (Ev.bind works_ev (Ev.now _))
  by_cases hb : (a0.size : Int) > 500
  · exact pos hb wk
  refine neg hb ?_
  by_cases hc : (a1.size : Int) > 500
  · rw [decide_eq_true hc]; exact wk
  rw [decide_eq_false hc]
  refine up ?_
  simp only [bulletinlaw18_B64Signs.j0]
  have s0 : (L a0).length ≤ 500 := by rw [← sz]; omega
  have s1 : (L a1).length ≤ 500 := by rw [← sz]; omega
  refine neg (by simp) (Ev.bind (decode_ev a1 (by omega)) (Ev.bind (refdecode_ev a1 (by omega)) ?_))
  have fin : Ev (fun k => bulletinlaw18_B64Signs.j1 k a0 (S (decL (bare (L a1))).1) (if (decL (bare (L a1))).2 = true then 0 else 3) (S (decL (bare (L a1))).1) (if (decL (bare (L a1))).2 = true then 0 else 3)) true := by
    refine up ?_
    simp only [bulletinlaw18_B64Signs.j1]
    refine Ev.bind (plain_ev a0 (by omega)) (Ev.bind (refplain_ev a0 (by omega)) (pos (by rfl) (Ev.bind (encode_ev a0 (by omega)) (Ev.bind (refencode_ev a0 (by omega)) (pos (by rfl) (pos (by trivial) (pos (by trivial) (Ev.bind works_ev (Ev.now _)))))))))
  unfold decT decB
  cases hd : (decL (bare (L a1))).2 with
  | true =>
    rw [hd] at fin
    exact pos (by trivial) fin
  | false =>
    rw [hd] at fin
    exact neg (by simp) fin

theorem below_ev (n : Int) (m : Nat) (hm : 0 < m) (hm2 : m ≤ 1000000000000) : ∃ q : Nat, q < m ∧ bulletinbook_Below.f n (m : Int) = some (q : Int) := by
  unfold bulletinbook_Below.f
  rw [if_neg (by omega)]
  have h1 : Int.tmod n m < m := Int.tmod_lt_of_pos n (by omega)
  have h2 : -(m : Int) < Int.tmod n m := by
    have := Int.tmod_lt_of_pos (-n) (show (0 : Int) < m by omega)
    rw [Int.neg_tmod] at this
    omega
  by_cases h : Int.tmod n m < 0
  · rw [if_pos h, w64 (by omega) (by omega)]
    exact ⟨(Int.tmod n m + m).toNat, by omega, by rw [Int.toNat_of_nonneg (by omega)]⟩
  · rw [if_neg h]
    exact ⟨(Int.tmod n m).toNat, by omega, by rw [Int.toNat_of_nonneg (by omega)]⟩

theorem back_ev (a0 : ByteArray) (a1 : Int) (a2 : Bool) (h0 : a0.size ≤ 140737488351232) (h1 : (Lit.int .i64 a1).wf = true) : Ev (fun k => bulletinlaw18_B64Back.f k a0 a1 a2) true := by
  unfold bulletinlaw18_B64Back.f
  refine Ev.bind works_ev (pos (by trivial) ?_)
  by_cases hb : (a0.size : Int) > 500
  · exact pos hb (Ev.now _)
  refine neg hb ?_
  have s0 : (L a0).length ≤ 500 := by rw [← sz]; omega
  have hel := (enc_len (L a0)).1
  have hll := linesL_len (encL (L a0)).length (encL (L a0))
  refine Ev.bind (encode_ev a0 (by omega)) ?_
  have hbare := bare_lines (encL (L a0)).length (encL (L a0)) (Nat.le_refl _) (enc_not_white (L a0))
  generalize linesL (encL (L a0)).length (encL (L a0)) = t at hll hbare ⊢
  have zt : (S t).size = t.length := by rw [sz, L_S]
  have wt : wrap64 (((S t).size : Int) + 1) = ((t.length + 1 : Nat) : Int) := by rw [zt]; exact wi _ (by omega)
  rw [wt]
  clear wt
  obtain ⟨q, hq, e⟩ := below_ev a1 (t.length + 1) (by omega) (by omega)
  refine cbind e ?_
  have w32 : (⟨#[32, 10]⟩ : ByteArray) = S [32, 10] := rfl
  have w9 : (⟨#[9]⟩ : ByteArray) = S [9] := rfl
  have ea : (S t).extract 0 ((q : Nat) : Int).toNat = S (t.take q) := by apply L_inj; rw [L_from_start, L_S, L_S]; rfl
  have eb : (S t).extract ((q : Nat) : Int).toNat t.length = S (t.drop q) := by rw [← zt]; apply L_inj; rw [L_to_end, L_S, L_S]; rfl
  simp only [ea, eb, w9, w32, S_app, zt]
  clear ea eb w9 w32
  have key : ∀ w : List UInt8, bare w = [] → w.length ≤ 2 → Ev (fun k => (b64_Decode.f k (S (t.take q ++ w ++ t.drop q))).bind fun bt154 => ((b64_Plain.f k a0).bind fun t156 => ((b64_Decode.f k t156).bind fun bt157 => (if bt154.2 = 0 then (if bt157.2 = 0 then (if bt154.1.toList = a0.toList then (some (bt157.1.toList == a0.toList)) else (some false)) else (some false)) else (some false))))) true := by
    intro w hw hwl
    have hlen : (t.take q ++ w ++ t.drop q).length ≤ 100000000 := by
      simp only [List.length_append, List.length_take, List.length_drop]; omega
    refine Ev.bind (decode_ev _ (by rw [L_S]; exact hlen)) (Ev.bind (plain_ev a0 (by omega)) (Ev.bind (decode_ev _ (by rw [L_S]; omega)) ?_))
    rw [L_S, L_S, bare_app, bare_app, hw, List.append_nil, ← bare_app, List.take_append_drop, hbare, bare_enc]
    unfold decT
    rw [dec_enc]
    refine pos (by rfl) (pos (by rfl) (pos (by rw [tl, tl, L_S]) (now' (by rw [beq_L]; simp [S_L]))))
  have zz : ∀ w : List UInt8, (S w).size = w.length := fun w => by rw [sz, L_S]
  have b1 : (S (t.take q)).size ≤ 5000000 := by rw [zz, List.length_take]; omega
  cases a2 with
  | true =>
    refine pos (by trivial) (pos (by omega) (pos (by omega) (pos (by omega) (pos ?_ (key [9] rfl (by decide))))))
    rw [zz, zz]; simp only [List.length_append, List.length_take, List.length_drop, List.length_cons, List.length_nil]; omega
  | false =>
    refine neg (by simp) (pos (by omega) (pos (by omega) (pos (by omega) (pos ?_ (key [32, 10] rfl (by decide))))))
    rw [zz, zz]; simp only [List.length_append, List.length_take, List.length_drop, List.length_cons, List.length_nil]; omega

theorem just_l0 (s x1 x2 x7 : ByteArray) (x8 : Int) (hs : (L s).length ≤ 1000000000) {r : Bool} (d : Nat) : ∀ (i : Nat) (acc : List UInt8), i ≤ (L s).length → (L s).length - i = d → acc.length ≤ i →
    Ev (fun k => (if x8 = 0 then ((b64_Plain.f k x7).bind fun t162 => (bulletinlaw18_B64Just.j2 k x1 x2 (t162.toList != (S (acc ++ bare ((L s).drop i))).toList))) else (if x7.toList = ([] : List UInt8) then (bulletinlaw18_B64Just.j2 k x1 x2 false) else (bulletinlaw18_B64Just.j2 k x1 x2 true)))) r →
    Ev (fun k => bulletinlaw18_B64Just.l0 k s x1 x2 x7 x8 (S acc) (s.size : Int) (i : Int)) r := by
  induction d with
  | zero =>
    intro i acc hi hd _ hk
    refine up ?_
    simp only [bulletinlaw18_B64Just.l0]
    refine neg (by rw [sz]; omega) ?_
    rw [List.drop_eq_nil_of_le (by omega), show bare [] = [] from rfl, List.append_nil] at hk
    exact hk
  | succ d ih =>
    intro i acc hi hd ha hk
    have hil : i < (L s).length := by omega
    refine up ?_
    simp only [bulletinlaw18_B64Just.l0]
    refine pos (by rw [sz]; omega) (pos (by omega) (pos (by rw [sz]; omega) ?_))
    rw [btn s i hil, wi i (by omega)]
    have eb : ∀ b, white (L s)[i] = b → bare ((L s).drop i) = if b then bare ((L s).drop (i + 1)) else (L s)[i] :: bare ((L s).drop (i + 1)) := by
      intro b hb
      rw [List.drop_eq_getElem_cons hil]
      unfold bare
      rw [List.filter_cons, hb]
      cases b <;> rfl
    have next : bare ((L s).drop i) = bare ((L s).drop (i + 1)) → Ev (fun k => bulletinlaw18_B64Just.l0 k s x1 x2 x7 x8 (S acc) (s.size : Int) ((i + 1 : Nat) : Int)) r := by
      intro e
      rw [e] at hk
      exact ih (i + 1) acc (by omega) (by omega) (by omega) hk
    by_cases h1 : (L s)[i] = 32
    · exact pos (by rw [h1]; rfl) (next (eb true (by rw [h1]; rfl)))
    refine neg (fun e => h1 (u8i (d := 32) e)) ?_
    by_cases h2 : (L s)[i] = 9
    · exact pos (by rw [h2]; rfl) (next (eb true (by rw [h2]; rfl)))
    refine neg (fun e => h2 (u8i (d := 9) e)) ?_
    by_cases h3 : (L s)[i] = 13
    · exact pos (by rw [h3]; rfl) (next (eb true (by rw [h3]; rfl)))
    refine neg (fun e => h3 (u8i (d := 13) e)) ?_
    by_cases h4 : (L s)[i] = 10
    · exact pos (by rw [h4]; rfl) (next (eb true (by rw [h4]; rfl)))
    refine neg (fun e => h4 (u8i (d := 10) e)) ?_
    have hw : white (L s)[i] = false := by
      unfold white
      rw [beq_eq_false_iff_ne.2 h1, beq_eq_false_iff_ne.2 h2, beq_eq_false_iff_ne.2 h3, beq_eq_false_iff_ne.2 h4]; rfl
    refine pos (by omega) (pos (by rw [sz]; omega) ?_)
    rw [ext1 s i hil]
    have z1 : (S acc).size = acc.length := by rw [sz, L_S]
    have z2 : (S [(L s)[i]]).size = 1 := rfl
    refine pos (by omega) ?_
    rw [S_app]
    refine ih (i + 1) (acc ++ [(L s)[i]]) (by omega) (by omega) (by simp; omega) ?_
    rw [eb false hw] at hk
    rw [List.append_assoc]
    exact hk
theorem just_ev (a0 a1 a2 : ByteArray) (h0 : a0.size ≤ 140737488351232) (h1 : a1.size ≤ 140737488351232) (h2 : a2.size ≤ 140737488351232) : Ev (fun k => bulletinlaw18_B64Just.f k a0 a1 a2) true := by
  unfold bulletinlaw18_B64Just.f
  refine Ev.bind works_ev (pos (by trivial) ?_)
  have big : Ev (fun k => bulletinlaw18_B64Just.j0 k a0 a1 a2 true) true := by
    refine up ?_
    simp only [bulletinlaw18_B64Just.j0]
    exact pos (by trivial) (Ev.now _)
  by_cases hb : (a0.size : Int) > 500
  · exact pos hb big
  refine neg hb ?_
  by_cases hc : (a1.size : Int) > 500
  · exact pos hc big
  refine neg hc ?_
  by_cases hd : (a2.size : Int) > 500
  · rw [decide_eq_true hd]; exact big
  rw [decide_eq_false hd]
  have s0 : (L a0).length ≤ 500 := by rw [← sz]; omega
  have s1 : (L a1).length ≤ 500 := by rw [← sz]; omega
  have s2 : (L a2).length ≤ 500 := by rw [← sz]; omega
  refine up ?_
  simp only [bulletinlaw18_B64Just.j0]
  refine neg (by simp) (Ev.bind (decode_ev a0 (by omega)) ?_)
  refine just_l0 a0 a1 a2 _ _ (by omega) (L a0).length 0 [] (by omega) (by omega) (by simp) ?_
  rw [List.nil_append, List.drop_zero]
  have fin : Ev (fun k => bulletinlaw18_B64Just.j2 k a1 a2 false) true := by
    refine up ?_
    simp only [bulletinlaw18_B64Just.j2]
    refine neg (by simp) (Ev.bind (plain_ev a1 (by omega)) (Ev.bind (plain_ev a2 (by omega)) (now' ?_)))
    rw [beq_L, beq_L, beq_iff_eq]
    congr 1
    apply propext
    constructor
    · intro h
      exact L_inj (enc_inj (S_inj h))
    · intro h; rw [h]
  have hbl : (bare (L a0)).length ≤ (L a0).length := by unfold bare; exact List.length_filter_le _ _
  unfold decT
  by_cases he : encL (run 0 0 (vals (bare (L a0)))) = bare (L a0)
  · have e : decL (bare (L a0)) = (run 0 0 (vals (bare (L a0))), true) := by unfold decL; rw [if_pos he]
    rw [e]
    have hl := run_len (vals (bare (L a0))) 0 0
    have hv := vals_len (bare (L a0))
    refine pos (by rfl) (Ev.bind (plain_ev _ (by rw [L_S]; show (run 0 0 (vals (bare (L a0)))).length ≤ _; omega)) ?_)
    rw [L_S, he]
    simp only [bne_self_eq_false]
    exact fin
  · have e : decL (bare (L a0)) = ([], false) := by unfold decL; rw [if_neg he]
    rw [e]
    refine neg (by simp) (pos (by rw [tl, L_S]) fin)
end Go.Proofs.YtgbkjgngpceeiaaDoor.B64
