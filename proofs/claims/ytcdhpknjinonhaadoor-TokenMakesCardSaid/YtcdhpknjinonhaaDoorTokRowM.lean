/- token: what the printed parts tell. -/
import Derived.Test.YtcdhpknjinonhaaDoorY1
import Derived.Test.YtcdhpknjinonhaaDoorTokAll
import Derived.Test.YtcdhpknjinonhaaDoorY3
import Derived.Test.YtcdhpknjinonhaaDoorShaAll
namespace Go.Proofs.YtcdhpknjinonhaaDoor.Tok
open Go.RowKit Go.Proofs.YtcdhpknjinonhaaDoor.X Go.Proofs.YtcdhpknjinonhaaDoorW.PrintWords Go.Proofs.YtcdhpknjinonhaaDoorW.PrintLast Go.Proofs.YtcdhpknjinonhaaDoorW.PrintMore Go.Proofs.YtcdhpknjinonhaaDoor.Aid
open Go.Lib (decDigits itoa cut)
open Go.Proofs.YtcdhpknjinonhaaDoor.Glyph (low foldL fold_ev)
set_option linter.unusedVariables false
set_option linter.unusedSimpArgs false
theorem light_f (n : Int) (a l o : ByteArray) : bulletinlaw25_light.f n a l o = some (lightB a l o) := by
  unfold bulletinlaw25_light.f lightB
  by_cases h1 : a.size ≤ 100
  · by_cases h2 : l.size ≤ 100
    · rw [if_pos (by omega), if_pos (by omega)]
      congr 1
      rw [decide_eq_decide]
      omega
    · rw [if_pos (by omega), if_neg (by omega)]
      congr 1
      symm
      rw [decide_eq_false_iff_not]
      omega
  · rw [if_neg (by omega)]
    congr 1
    symm
    rw [decide_eq_false_iff_not]
    omega
theorem lt_of {n : Int} {a l o : ByteArray} (n0 : -9223372036854775808 ≤ n) (n1 : n ≤ 9223372036854775807) (h : lightB a l o = true) : Lt n a l o := by
  unfold lightB at h
  rw [decide_eq_true_eq] at h
  exact ⟨n0, n1, h.1, h.2.1, h.2.2⟩
theorem make_f (key : ByteArray) (n : Int) (a l o : ByteArray) (hk : key.size ≤ 300) (h : Lt n a l o) : Y.token_Make.f key n a l o = some (S (makeL key n a l o)) := by
  unfold Y.token_Make.f
  rw [if_pos ⟨by omega, h.n0, h.n1, h.a, h.l, h.o⟩]
theorem fits_f (key : ByteArray) (n : Int) (a l o s : ByteArray) (hk : key.size ≤ 300) (h : Lt n a l o) (hs : s.size ≤ 100000) : Y.token_Fits.f key n a l o s = some (fitsL key n a l o s) := by
  unfold Y.token_Fits.f
  rw [if_pos ⟨by omega, h.n0, h.n1, h.a, h.l, h.o, hs⟩]
end Go.Proofs.YtcdhpknjinonhaaDoor.Tok
/- The reference's Fold: what the printed function tells. -/
namespace Go.Proofs.YtcdhpknjinonhaaDoor.Glyph
open Go.RowKit Go.Proofs.YtcdhpknjinonhaaDoor.X Go.Proofs.YtcdhpknjinonhaaDoorW.PrintWords Go.Proofs.YtcdhpknjinonhaaDoorW.PrintLast Go.Proofs.YtcdhpknjinonhaaDoorW.PrintMore Go.Proofs.YtcdhpknjinonhaaDoor.Aid
set_option linter.unusedVariables false
set_option linter.unusedSimpArgs false
theorem ext1 (s : ByteArray) (i : Nat) (h : i < (L s).length) : s.extract ((i : Nat) : Int).toNat ((i + 1 : Nat) : Int).toNat = S [(L s)[i]] := by
  apply L_inj
  rw [L_ext, L_S]
  show ((L s).take (i + 1)).drop i = _
  rw [List.take_add_one, List.drop_append_of_le_length (by rw [List.length_take]; omega), List.drop_eq_nil_of_le (by rw [List.length_take]; omega), List.getElem?_eq_getElem h]
  rfl
theorem zS (l : List UInt8) : (S l).size = l.length := by rw [sz, L_S]
theorem reffold_l0 (s : ByteArray) (hs : (L s).length ≤ 1000000000) (d : Nat) : ∀ (i : Nat) (acc : List UInt8), i ≤ (L s).length → (L s).length - i = d → acc.length = i →
    Ev (fun k => bulletinref06_Fold.l0 k s (S acc) (i : Int)) (S (acc ++ ((L s).drop i).map low)) := by
  induction d with
  | zero =>
    intro i acc hi hd _
    refine up ?_
    simp only [bulletinref06_Fold.l0]
    refine neg (by rw [sz]; omega) (now' ?_)
    rw [List.drop_eq_nil_of_le (by omega)]
    simp
  | succ d ih =>
    intro i acc hi hd ha
    have hil : i < (L s).length := by omega
    have hz := zS acc
    refine up ?_
    simp only [bulletinref06_Fold.l0]
    refine pos (by rw [sz]; omega) (pos (by omega) ?_)
    rw [btn s i hil, wi i (by omega), ext1 s i hil]
    rw [List.drop_eq_getElem_cons hil, List.map_cons]
    have next : ∀ T : ByteArray, T = S [low (L s)[i]] → Ev (fun k => bulletinref06_Fold.l0 k s (S acc ++ T) ((i + 1 : Nat) : Int)) (S (acc ++ low (L s)[i] :: ((L s).drop (i + 1)).map low)) := by
      rintro T rfl
      have := ih (i + 1) (acc ++ [low (L s)[i]]) (by omega) (by omega) (by simp; omega)
      rw [List.append_assoc] at this
      rw [S_app]
      exact this
    have hx := (L s)[i].toNat_lt
    have plain : ¬ (65 ≤ (L s)[i].toNat ∧ (L s)[i].toNat ≤ 90) → Ev (fun k => (if (i : Int) ≤ ((i + 1 : Nat) : Int) then (if ((i + 1 : Nat) : Int) ≤ (s.size : Int) then (if (S acc).size + (S [(L s)[i]]).size ≤ 9223372036854775807 then (bulletinref06_Fold.l0 k s (S acc ++ S [(L s)[i]]) ((i + 1 : Nat) : Int)) else (none)) else (none)) else (none))) (S (acc ++ low (L s)[i] :: ((L s).drop (i + 1)).map low)) := by
      intro hc
      have z1 : (S [(L s)[i]]).size = 1 := rfl
      refine pos (by omega) (pos (by rw [sz]; omega) (pos (by omega) (next _ ?_)))
      unfold low
      rw [if_neg hc]
    by_cases c1 : 65 ≤ (L s)[i].toNat
    · refine pos (by omega) ?_
      by_cases c2 : (L s)[i].toNat ≤ 90
      · refine pos (by omega) (cbind rfl ?_)
        have e : strOfNums [((L s)[i].toNat + 32 : Int) % 256] = S [low (L s)[i]] := by
          rw [nums_eq]
          unfold low
          rw [if_pos ⟨c1, c2⟩]
          congr 1
          simp only [List.map_cons, List.map_nil]
          congr 2
          omega
        rw [e]
        have z1 : (S [low (L s)[i]]).size = 1 := rfl
        exact pos (by omega) (next _ rfl)
      · exact neg (by omega) (plain (by omega))
    · exact neg (by omega) (plain (by omega))
theorem reffold_ev (s : ByteArray) (hs : (L s).length ≤ 1000000000) : Ev (fun k => bulletinref06_Fold.f k s) (S (foldL (L s))) := by
  have := reffold_l0 s hs (L s).length 0 [] (by omega) (by omega) rfl
  rw [List.drop_zero, List.nil_append] at this
  exact this
end Go.Proofs.YtcdhpknjinonhaaDoor.Glyph
/- the reference's To32 of ten bytes. -/
namespace Go.Proofs.YtcdhpknjinonhaaDoor.Code
open Go.RowKit Go.Proofs.YtcdhpknjinonhaaDoor.X Go.Proofs.YtcdhpknjinonhaaDoorW.PrintWords Go.Proofs.YtcdhpknjinonhaaDoorW.PrintLast Go.Proofs.YtcdhpknjinonhaaDoorW.PrintMore Go.Proofs.YtcdhpknjinonhaaDoor.Aid
set_option linter.unusedVariables false
set_option linter.unusedSimpArgs false
/-- bytes as a number -/
def num (l : List UInt8) : Nat := l.foldl (fun a c => a * 256 + c.toNat) 0
theorem num_snoc (l : List UInt8) (c : UInt8) : num (l ++ [c]) = num l * 256 + c.toNat := by simp [num]
theorem num_app (a : List UInt8) : ∀ r : List UInt8, num (a ++ r.reverse) / 256 ^ r.length = num a
  | [] => by simp
  | c :: r => by
    have hc := c.toNat_lt
    rw [List.reverse_cons, ← List.append_assoc, num_snoc, List.length_cons, Nat.pow_succ, Nat.mul_comm (256 ^ r.length) 256, ← Nat.div_div_eq_div_mul]
    rw [show (num (a ++ r.reverse) * 256 + c.toNat) / 256 = num (a ++ r.reverse) from by omega]
    exact num_app a r
/-- the j-th group of five bits -/
def grp (X T j : Nat) : Nat := X / 2 ^ (T - 5 * (j + 1)) % 32
/-- as the signs stand for the first T bits -/
def Good (X T : Nat) (x : List UInt8 × Nat × Nat) : Prop :=
  5 * x.1.length + x.2.2 = T ∧ x.1 = (List.range x.1.length).map (fun j => sg (grp X T j)) ∧ x.2.1 = X % 2 ^ x.2.2
theorem w5_good (X T : Nat) : ∀ k x, Good X T x → Good X T (w5 k x)
  | 0, x, h => h
  | k + 1, x, h => by
    rw [w5]
    split
    · exact h
    · rename_i h5
      obtain ⟨h1, h2, h3⟩ := h
      refine w5_good X T k _ ⟨by simp only [List.length_append, List.length_singleton]; omega, ?_, ?_⟩
      · simp only [List.length_append, List.length_singleton, List.range_succ, List.map_append, List.map_cons, List.map_nil]
        rw [← h2]
        congr 2
        unfold grp
        have e : T - 5 * (x.1.length + 1) = x.2.2 - 5 := by omega
        rw [e, h3]
        have e2 : x.2.2 = (x.2.2 - 5) + 5 := by omega
        congr 1
        conv => lhs; rw [e2, Nat.pow_add]
        rw [show x.2.2 - 5 + 5 - 5 = x.2.2 - 5 by omega]
        exact Nat.mod_mul_right_div_self X (2 ^ (x.2.2 - 5)) (2 ^ 5)
      · simp only
        rw [h3]
        exact Nat.mod_mod_of_dvd X (Nat.pow_dvd_pow 2 (by omega))
theorem mod_next (X P c : Nat) (hp : 0 < P) (hc : c < 256) : (X * 256 + c) % (P * 2 ^ 8) = X % P * 256 + c := by
  have h4 := Nat.div_add_mod X P
  have h6 := Nat.mod_lt X hp
  obtain ⟨q, hq⟩ : ∃ q, X / P = q := ⟨_, rfl⟩
  obtain ⟨r, hr⟩ : ∃ r, X % P = r := ⟨_, rfl⟩
  rw [hq, hr] at h4
  rw [hr] at h6 ⊢
  have e : X * 256 + c = (r * 256 + c) + (P * 2 ^ 8) * q := by
    rw [← h4, Nat.mul_assoc P, Nat.mul_comm (2 ^ 8) q, ← Nat.mul_assoc]
    obtain ⟨m, hm⟩ : ∃ m, P * q = m := ⟨_, rfl⟩
    rw [hm]
    omega
  rw [e, Nat.add_mul_mod_self_left, Nat.mod_eq_of_lt]
  have h7 : (r + 1) * 256 ≤ P * 256 := Nat.mul_le_mul_right _ h6
  omega
theorem good_next (X T : Nat) (x : List UInt8 × Nat × Nat) (c : UInt8) (h : Good X T x) (h5 : x.2.2 < 5) : Good (X * 256 + c.toNat) (T + 8) (x.1, x.2.1 * 256 + c.toNat, x.2.2 + 8) := by
  obtain ⟨h1, h2, h3⟩ := h
  have hc := c.toNat_lt
  refine ⟨by simp only; omega, ?_, ?_⟩
  · simp only
    conv => lhs; rw [h2]
    refine List.map_congr_left fun j hj => ?_
    have hj' : j < x.1.length := List.mem_range.1 hj
    congr 1
    unfold grp
    have e : T + 8 - 5 * (j + 1) = 8 + (T - 5 * (j + 1)) := by omega
    rw [e, Nat.pow_add, ← Nat.div_div_eq_div_mul, show (X * 256 + c.toNat) / 2 ^ 8 = X from by omega]
  · simp only
    rw [h3, Nat.pow_add]
    exact (mod_next X (2 ^ x.2.2) c.toNat (Nat.two_pow_pos _) hc).symm
theorem wrB_good (r : List UInt8) : Good (num r.reverse) (8 * r.length) (wrB r.reverse) := by
  induction r with
  | nil => simp [Good, wrB, num, Nat.mod_one]
  | cons c r ih =>
    rw [List.reverse_cons, wrB_snoc, num_snoc, List.length_cons]
    exact w5_good _ _ 3 _ (good_next _ _ _ c ih (wrB_ok r.reverse).2.1)
theorem to32_grp (l : List UInt8) (h : l.length = 10) : to32B l = (List.range 16).map fun j => sg (grp (num l) 80 j) := by
  have hg := wrB_good l.reverse
  rw [List.reverse_reverse, List.length_reverse, h] at hg
  obtain ⟨h1, h2, _⟩ := hg
  have h3 := (wrB_ok l).2.1
  have hn : ¬ 0 < (wrB l).2.2 := by omega
  have hl : (wrB l).1.length = 16 := by omega
  unfold to32B
  rw [if_neg hn, h2, hl]
/-- a bit of ten bytes -/
theorem bit_num (l : List UInt8) (h : l.length = 10) (i : Nat) (hi : i < 80) : (l.getD (i / 8) 0).toNat / 2 ^ (7 - i % 8) % 2 = num l / 2 ^ (79 - i) % 2 := by
  have hq : i / 8 < l.length := by omega
  have h1 := num_app (l.take (i / 8 + 1)) (l.drop (i / 8 + 1)).reverse
  rw [List.reverse_reverse, List.take_append_drop, List.length_reverse, List.length_drop, h, List.take_succ_eq_append_getElem hq, num_snoc] at h1
  rw [List.getD_eq_getElem?_getD, List.getElem?_eq_getElem hq, Option.getD_some]
  have hc := (l[i / 8]).toNat_lt
  have e : 79 - i = 8 * (10 - (i / 8 + 1)) + (7 - i % 8) := by omega
  rw [e, Nat.pow_add, Nat.pow_mul, ← Nat.div_div_eq_div_mul, show (2 ^ 8 : Nat) = 256 from rfl, h1]
  have hr : i % 8 < 8 := Nat.mod_lt _ (by decide)
  have hcase : i % 8 = 0 ∨ i % 8 = 1 ∨ i % 8 = 2 ∨ i % 8 = 3 ∨ i % 8 = 4 ∨ i % 8 = 5 ∨ i % 8 = 6 ∨ i % 8 = 7 := by omega
  rcases hcase with h8 | h8 | h8 | h8 | h8 | h8 | h8 | h8 <;> rw [h8] <;> simp only [Nat.reducePow, Nat.reduceSub] <;> omega
end Go.Proofs.YtcdhpknjinonhaaDoor.Code
/- the reference's To32 of ten bytes: what the printed function tells. -/
namespace Go.Proofs.YtcdhpknjinonhaaDoor.Code
open Go.RowKit Go.Proofs.YtcdhpknjinonhaaDoor.X Go.Proofs.YtcdhpknjinonhaaDoorW.PrintWords Go.Proofs.YtcdhpknjinonhaaDoorW.PrintLast Go.Proofs.YtcdhpknjinonhaaDoorW.PrintMore Go.Proofs.YtcdhpknjinonhaaDoor.Aid
set_option linter.unusedVariables false
set_option linter.unusedSimpArgs false
theorem bit_l0 : ∀ (m x c : Nat), x + m = 7 → c < 256 → Ev (fun k => bulletinref05_bit.l0 k (c : Int) (x : Int)) ((c / 2 ^ m % 2 : Nat) : Int)
  | 0, x, c, h, hc => by
    refine Aid.up (neg (by omega) (now' ?_))
    rw [Int.tmod_eq_emod_of_nonneg (by omega)]
    simp
  | m + 1, x, c, h, hc => by
    refine Aid.up (pos (by omega) ?_)
    rw [Int.tdiv_eq_ediv_of_nonneg (by omega), show (c : Int) / 2 = ((c / 2 : Nat) : Int) from by omega, w64 (by omega) (by omega), wi x (by omega)]
    have ih := bit_l0 m (x + 1) (c / 2) (by omega) (by omega)
    rw [Nat.div_div_eq_div_mul, ← Nat.pow_succ'] at ih
    exact ih
theorem bit_ev (s : ByteArray) (h : s.size = 10) (i : Nat) (hi : i < 80) : Ev (fun k => bulletinref05_bit.f k s (i : Int)) ((num (L s) / 2 ^ (79 - i) % 2 : Nat) : Int) := by
  unfold bulletinref05_bit.f
  have hL : (L s).length = 10 := by rw [← sz]; exact h
  have e1 : Int.tdiv (i : Int) 8 = ((i / 8 : Nat) : Int) := by rw [Int.tdiv_eq_ediv_of_nonneg (by omega)]; omega
  have e2 : Int.tmod (i : Int) 8 = ((i % 8 : Nat) : Int) := by rw [Int.tmod_eq_emod_of_nonneg (by omega)]; omega
  have e3 : wrap64 (((i / 8 : Nat) : Int)) = ((i / 8 : Nat) : Int) := w64 (by omega) (by omega)
  rw [e1, e2, e3]
  have hb := btd s (i / 8)
  have hc := ((L s).getD (i / 8) 0).toNat_lt
  have e4 : wrap64 (bt s ((i / 8 : Nat) : Int)) = (((L s).getD (i / 8) 0).toNat : Int) := by rw [hb]; exact w64 (by omega) (by omega)
  rw [e4]
  clear e1 e2 e3 e4 hb
  refine neg (by omega) (pos (by omega) (pos (by omega) ?_))
  have := bit_l0 (7 - i % 8) (i % 8) ((L s).getD (i / 8) 0).toNat (by omega) (by omega)
  rw [bit_num (L s) hL i hi] at this
  exact this
theorem sign_all : ∀ n : Nat, n < 32 → bulletinref05_sign.f (n : Int) = some (((sg n).toNat : Nat) : Int) := by decide +kernel
theorem wsum (a b : Nat) (h : a ≤ 100) (hb : b ≤ 1) : wrap64 (wrap64 (2 * (a : Int)) + (b : Int)) = ((2 * a + b : Nat) : Int) := by
  rw [w64 (x := 2 * (a : Int)) (by omega) (by omega), w64 (by omega) (by omega)]
  omega
theorem l1_step (s : ByteArray) (h : s.size = 10) (acc : ByteArray) (j : Nat) (hj : j < 16) (r : ByteArray) (q : Nat) (hq : q < 5) (a : Nat) (ha : a ≤ 31)
    (hn : Ev (fun k => bulletinref05_To32.l1 k s acc ((5 * j : Nat) : Int) ((2 * a + num (L s) / 2 ^ (79 - (5 * j + q)) % 2 : Nat) : Int) ((q + 1 : Nat) : Int)) r) :
    Ev (fun k => bulletinref05_To32.l1 k s acc ((5 * j : Nat) : Int) ((a : Nat) : Int) ((q : Nat) : Int)) r := by
  refine Aid.up (pos (by omega) ?_)
  have e : wrap64 (((5 * j : Nat) : Int) + ((q : Nat) : Int)) = ((5 * j + q : Nat) : Int) := by rw [w64 (by omega) (by omega)]; omega
  rw [e]
  refine Ev.bind (bit_ev s h (5 * j + q) (by omega)) ?_
  have hb : num (L s) / 2 ^ (79 - (5 * j + q)) % 2 ≤ 1 := by omega
  rw [wsum a _ (by omega) hb, wi q (by omega)]
  exact hn
theorem five (Y : Nat) : 2 * (2 * (2 * (2 * (2 * 0 + Y / 16 % 2) + Y / 8 % 2) + Y / 4 % 2) + Y / 2 % 2) + Y % 2 = Y % 32 := by omega
theorem grp_bits (X j : Nat) (hj : j < 16) : 2 * (2 * (2 * (2 * (2 * 0 + X / 2 ^ (79 - (5 * j + 0)) % 2) + X / 2 ^ (79 - (5 * j + 1)) % 2) + X / 2 ^ (79 - (5 * j + 2)) % 2) + X / 2 ^ (79 - (5 * j + 3)) % 2) + X / 2 ^ (79 - (5 * j + 4)) % 2 = grp X 80 j := by
  unfold grp
  have e0 : 79 - (5 * j + 0) = (80 - 5 * (j + 1)) + 4 := by omega
  have e1 : 79 - (5 * j + 1) = (80 - 5 * (j + 1)) + 3 := by omega
  have e2 : 79 - (5 * j + 2) = (80 - 5 * (j + 1)) + 2 := by omega
  have e3 : 79 - (5 * j + 3) = (80 - 5 * (j + 1)) + 1 := by omega
  have e4 : 79 - (5 * j + 4) = 80 - 5 * (j + 1) := by omega
  rw [e0, e1, e2, e3, e4]
  obtain ⟨Y, hY⟩ : ∃ Y, X / 2 ^ (80 - 5 * (j + 1)) = Y := ⟨_, rfl⟩
  rw [Nat.pow_add, Nat.pow_add, Nat.pow_add, Nat.pow_add, ← Nat.div_div_eq_div_mul, ← Nat.div_div_eq_div_mul, ← Nat.div_div_eq_div_mul, ← Nat.div_div_eq_div_mul, hY]
  exact five Y
theorem to32_l0 (s : ByteArray) (h : s.size = 10) : ∀ (r j : Nat), j + r = 16 →
    Ev (fun k => bulletinref05_To32.l0 k s (S ((List.range j).map fun j => sg (grp (num (L s)) 80 j))) ((5 * j : Nat) : Int)) (S ((List.range 16).map fun j => sg (grp (num (L s)) 80 j)))
  | 0, j, hj => by
    have hj16 : j = 16 := by omega
    subst hj16
    refine Aid.up (neg ?_ (now' rfl))
    rw [h, w64 (by omega) (by omega)]
    omega
  | r + 1, j, hj => by
    refine Aid.up (pos ?_ ?_)
    · rw [h, w64 (by omega) (by omega)]; omega
    have hg32 : grp (num (L s)) 80 j < 32 := Nat.mod_lt _ (by decide)
    have b0 : num (L s) / 2 ^ (79 - (5 * j + 0)) % 2 ≤ 1 := by omega
    have b1 : num (L s) / 2 ^ (79 - (5 * j + 1)) % 2 ≤ 1 := by omega
    have b2 : num (L s) / 2 ^ (79 - (5 * j + 2)) % 2 ≤ 1 := by omega
    have b3 : num (L s) / 2 ^ (79 - (5 * j + 3)) % 2 ≤ 1 := by omega
    refine l1_step s h _ j (by omega) _ 0 (by omega) 0 (by omega) ?_
    refine l1_step s h _ j (by omega) _ 1 (by omega) _ (by omega) ?_
    refine l1_step s h _ j (by omega) _ 2 (by omega) _ (by omega) ?_
    refine l1_step s h _ j (by omega) _ 3 (by omega) _ (by omega) ?_
    refine l1_step s h _ j (by omega) _ 4 (by omega) _ (by omega) ?_
    rw [grp_bits (num (L s)) j (by omega)]
    refine Aid.up (neg (by omega) (cbind (sign_all _ hg32) (sbind ?_)))
    have hone : strOfNums [((sg (grp (num (L s)) 80 j)).toNat : Int)] = S [sg (grp (num (L s)) 80 j)] := by
      rw [nums_eq]
      simp
    rw [hone, S_app]
    have e5 : wrap64 (((5 * j : Nat) : Int) + 5) = ((5 * (j + 1) : Nat) : Int) := by rw [w64 (by omega) (by omega)]; omega
    rw [e5]
    refine pos (by rw [sz, sz, L_S, L_S]; simp; omega) ?_
    have ih := to32_l0 s h r (j + 1) (by omega)
    rw [List.range_succ, List.map_append] at ih
    exact ih
theorem refto32_ev (s : ByteArray) (h : s.size = 10) : Ev (fun k => bulletinref05_To32.f k s) (S (to32B (L s))) := by
  unfold bulletinref05_To32.f
  rw [to32_grp (L s) (by rw [← sz]; exact h)]
  exact to32_l0 s h 16 0 (by omega)
end Go.Proofs.YtcdhpknjinonhaaDoor.Code
/- token: TokenMakes' law, plain. -/
namespace Go.Proofs.YtcdhpknjinonhaaDoor.Tok
open Go.RowKit Go.Proofs.YtcdhpknjinonhaaDoor.X Go.Proofs.YtcdhpknjinonhaaDoorW.PrintWords Go.Proofs.YtcdhpknjinonhaaDoorW.PrintLast Go.Proofs.YtcdhpknjinonhaaDoorW.PrintMore Go.Proofs.YtcdhpknjinonhaaDoor.Aid
open Go.Lib (decDigits itoa cut)
open Go.Proofs.YtcdhpknjinonhaaDoor.Glyph (low foldL fold_ev reffold_ev)
open Go.Proofs.YtcdhpknjinonhaaDoor.Nets (refrow_ev rowL digL_len)
set_option linter.unusedVariables false
set_option linter.unusedSimpArgs false
theorem refmake_ev (key : ByteArray) (n : Int) (a l o : ByteArray) (hk : key.size ≤ 300) (h : Lt n a l o) : Ev (fun k => Y.bulletinref25_Make.f k key n a l o) (S (makeL key n a l o)) := by
  unfold Y.bulletinref25_Make.f
  have hil := itoa_len n h.n0 h.n1
  refine Ev.bind (Digits.number_ev n h.n0 h.n1) ?_
  have hS : (S (itoa n)).size = (itoa n).length := by rw [sz, L_S]
  have ha := h.a
  have hl := h.l
  have ho := h.o
  refine Ev.bind (refrow_ev [a, l, o, S (itoa n)] 300 (by
    intro x hx
    simp only [List.mem_cons, List.not_mem_nil, or_false] at hx
    rcases hx with rfl | rfl | rfl | rfl <;> omega) (by omega) (by simp)) ?_
  have hr : ([a, l, o, S (itoa n)].map L) = [L a, L l, L o, itoa n] := by simp
  rw [hr]
  have hsz : (S (rowL [L a, L l, L o, itoa n])).size ≤ 100000 := by
    rw [sz, L_S]
    simp only [rowL, Nets.putL, List.length_append, List.length_cons, List.length_nil]
    have k1 := digL_len 9 (L a).length (by omega) (by rw [← sz]; omega)
    have k2 := digL_len 9 (L l).length (by omega) (by rw [← sz]; omega)
    have k3 := digL_len 9 (L o).length (by omega) (by rw [← sz]; omega)
    have k4 := digL_len 9 (itoa n).length (by omega) (by omega)
    have s1 := sz a
    have s2 := sz l
    have s3 := sz o
    omega
  refine cbind (a := S (summed key n a l o)) (by unfold Y.bulletinref04_Sum.f; rw [if_pos ⟨by omega, hsz⟩, L_S]; rfl) ?_
  have hml : (summed key n a l o).length = 32 := Mac.macB_len _ _
  have hmz : (S (summed key n a l o)).size = 32 := by rw [sz, L_S, hml]
  refine pos (by omega) (pos (by omega) (pos (by omega) ?_))
  have he : (S (summed key n a l o)).extract 0 10 = S ((summed key n a l o).take 10) := by
    apply L_inj
    rw [L_from_start, L_S, L_S]
  rw [he]
  have h10 : (S ((summed key n a l o).take 10)).size = 10 := by rw [sz, L_S, List.length_take, hml]; rfl
  refine Ev.bind (Code.refto32_ev _ h10) ?_
  rw [L_S]
  have hsl : (sealL key n a l o).length = 16 := (sealL_ok key n a l o).1
  have e1 : (S (itoa n) ++ (⟨#[46]⟩ : ByteArray)).size ≤ 21 := by rw [ByteArray.size_append, hS]; show _ + 1 ≤ 21; omega
  have e2 : (S (Code.to32B ((summed key n a l o).take 10))).size = 16 := by rw [sz, L_S]; exact hsl
  refine pos (by omega) (now' ?_)
  apply L_inj
  rw [L_app, L_app, L_S, L_S, L_S]
  rfl
theorem reffits_ev (key : ByteArray) (n : Int) (a l o s : ByteArray) (hk : key.size ≤ 300) (h : Lt n a l o) (hs : s.size ≤ 300) : Ev (fun k => Y.bulletinref25_Fits.f k key n a l o s) (fitsL key n a l o s) := by
  unfold Y.bulletinref25_Fits.f
  refine Ev.bind (reffold_ev s (by rw [← sz]; omega)) (Ev.bind (refmake_ev key n a l o hk h) (now' ?_))
  rw [beq_L]
  unfold fitsL
  rw [decide_eq_decide]
  constructor
  · intro e; exact (S_inj e).symm
  · intro e; rw [e]
theorem makes_ev (key : ByteArray) (n : Int) (a l o s : ByteArray) (n0 : -9223372036854775808 ≤ n) (n1 : n ≤ 9223372036854775807) : Ev (fun k => Y.bulletinlaw25_TokenMakes.f k key n a l o s) true := by
  unfold Y.bulletinlaw25_TokenMakes.f
  have out : Ev (fun k => Y.bulletinlaw25_TokenMakes.j0 k key s true n a l o) true := by
    refine Aid.up ?_
    simp only [Y.bulletinlaw25_TokenMakes.j0]
    exact pos (by trivial) (cbind (a := true) rfl (now' rfl))
  by_cases hk : (key.size : Int) > 300
  · exact pos hk out
  refine neg hk (cbind (light_f n a l o) ?_)
  by_cases hl : lightB a l o = true
  case neg =>
    have hl2 : lightB a l o = false := by simpa using hl
    rw [hl2]
    exact neg (by simp) out
  have hlt := lt_of n0 n1 hl
  rw [hl]
  refine pos (by trivial) ?_
  by_cases hs : (s.size : Int) > 300
  · rw [decide_eq_true hs]
    exact out
  rw [decide_eq_false hs]
  refine Aid.up ?_
  simp only [Y.bulletinlaw25_TokenMakes.j0]
  refine neg (by simp) (cbind (a := (n, a, l, o)) rfl (cbind (make_f key n a l o (by omega) hlt) ?_))
  refine Ev.bind (refmake_ev key n a l o (by omega) hlt) (pos rfl ?_)
  refine cbind (a := (n, a, l, o)) rfl (cbind (fits_f key n a l o s (by omega) hlt (by omega)) ?_)
  refine Ev.bind (reffits_ev key n a l o s (by omega) hlt (by omega)) (pos (by simp) ?_)
  exact cbind (a := true) rfl (now' rfl)
end Go.Proofs.YtcdhpknjinonhaaDoor.Tok
/- bulletin/bulletinlaw25.TokenMakes, as its row asks for it. -/
namespace Go.Proofs.YtcdhpknjinonhaaDoor.Row
open Go.RowKit Go.Proofs.YtcdhpknjinonhaaDoorW.PrintWords Go.Proofs.YtcdhpknjinonhaaDoorW.PrintLast
set_option linter.unusedVariables false
theorem makes_ev (key : ByteArray) (n : Int) (a l o s : ByteArray) (h0 : key.size ≤ 140737488351232) (h1 : (Lit.int .i64 n).wf = true) (h2 : s.size ≤ 140737488351232) : Ev (fun k => Y.bulletinlaw25_TokenMakes.f k key n a l o s) true :=
  Tok.makes_ev key n a l o s (Aid.wf64 h1).1 (Aid.wf64 h1).2
end Go.Proofs.YtcdhpknjinonhaaDoor.Row
