/- A number's digits: the reference's printed functions Digits and Number tell what strconv.Itoa tells. -/
import Derived.Test.YtdjpdbdilcjakaaDoorXW
import Derived.Test.YtdjpdbdilcjakaaDoorAid
import Derived.Lib.ItoaNum
namespace Go.Proofs.YtdjpdbdilcjakaaDoor.Digits
open Go.RowKit Go.Proofs.YtdjpdbdilcjakaaDoor.X Go.Proofs.YtdjpdbdilcjakaaDoorW.PrintWords Go.Proofs.YtdjpdbdilcjakaaDoorW.PrintLast Go.Proofs.YtdjpdbdilcjakaaDoorW.PrintMore Go.Proofs.YtdjpdbdilcjakaaDoor.Aid
open Go.Lib (decDigits itoa)
set_option linter.unusedVariables false
set_option linter.unusedSimpArgs false
def B (n : Nat) : UInt8 := UInt8.ofNat n
theorem dd_small {n : Nat} (h : n < 10) : decDigits n = [B (48 + n)] := by rw [decDigits, dif_pos h]; rfl
theorem dd_big {n : Nat} (h : ¬ n < 10) : decDigits n = decDigits (n / 10) ++ [B (48 + n % 10)] := by rw [decDigits, dif_neg h]; rfl
theorem numB (d : Nat) (h : d < 10) : strOfNums ([(wrap64 (48 + ((d : Nat) : Int))) % 256] : List Int) = S [B (48 + d)] := by
  rw [nums_eq]
  congr 1
  rw [List.map_cons, List.map_nil, w64 (by omega) (by omega)]
  congr 2
  omega
theorem refdig_l0 (d : Nat) : ∀ (n j : Nat) (acc : List UInt8), n < 10 ^ d → n ≤ 9223372036854775807 → j + d ≤ 20 → j + acc.length ≤ 60 → (j = 0 → 1 ≤ d) → acc.length = j →
    Ev (fun k => bulletinref01_Digits.l0 k (n : Int) (S acc) (j : Int)) (S ((if n = 0 ∧ 0 < j then [] else decDigits n) ++ acc)) := by
  induction d with
  | zero =>
    intro n j acc hn _ hj _ h0 hl
    have hn0 : n = 0 := by simpa using hn
    subst hn0
    have hj0 : 0 < j := by
      rcases Nat.eq_zero_or_pos j with h | h
      · exact absurd (h0 h) (by omega)
      · exact h
    refine up ?_
    simp only [bulletinref01_Digits.l0]
    refine neg (by omega) (neg (by omega) (now' ?_))
    rw [if_pos ⟨trivial, hj0⟩, List.nil_append]
  | succ d ih =>
    intro n j acc hn hnm hj hq h0 hl
    have hstep : Ev (fun k => (some (([(wrap64 (48 + (Int.tmod (n : Int) 10))) % 256] : List Int) : List Int)).bind fun y => (if (strOfNums y).size + (S acc).size ≤ 9223372036854775807 then (bulletinref01_Digits.l0 k (wrap64 (Int.tdiv (n : Int) 10)) ((strOfNums y) ++ S acc) (wrap64 ((j : Int) + 1))) else (none))) (S (decDigits n ++ acc)) := by
      have e1 : wrap64 (Int.tdiv (n : Int) 10) = ((n / 10 : Nat) : Int) := by
        rw [Int.tdiv_eq_ediv_of_nonneg (by omega), w64 (by omega) (by omega)]
        rfl
      have e2 : Int.tmod (n : Int) 10 = ((n % 10 : Nat) : Int) := by
        rw [Int.tmod_eq_emod_of_nonneg (by omega)]
        rfl
      have e3 : wrap64 ((j : Int) + 1) = ((j + 1 : Nat) : Int) := by rw [w64 (by omega) (by omega)]; rfl
      simp only [e1, e2, e3]
      refine sbind ?_
      rw [numB _ (by omega)]
      have z1 : (S [B (48 + n % 10)]).size = 1 := rfl
      have z2 : (S acc).size = acc.length := by rw [sz, L_S]
      refine pos (by rw [z1, z2]; omega) ?_
      rw [S_app]
      have hn' : n / 10 < 10 ^ d := by rw [Nat.pow_succ] at hn; omega
      have := ih (n / 10) (j + 1) ([B (48 + n % 10)] ++ acc) hn' (by omega) (by omega) (by simp; omega) (by omega) (by simp; omega)
      refine cast (congrArg _ ?_) this
      congr 1
      by_cases h : n < 10
      · rw [if_pos ⟨by omega, by omega⟩, dd_small h, show n % 10 = n from by omega]
        simp
      · rw [if_neg (by omega), dd_big h]
        simp
    refine up ?_
    simp only [bulletinref01_Digits.l0]
    by_cases hj0 : j = 0
    · rw [if_neg (by omega)]
      exact pos (by omega) hstep
    · by_cases hn0 : n = 0
      · rw [if_pos ⟨hn0, by omega⟩]
        exact neg (by omega) (neg (by omega) (now' (by simp)))
      · rw [if_neg (by omega)]
        exact neg (by omega) (pos (by omega) (pos (by omega) hstep))
theorem refdigits_ev (n : Nat) (hn : n ≤ 9223372036854775807) : Ev (fun k => bulletinref01_Digits.f k (n : Int)) (S (decDigits n)) := by
  unfold bulletinref01_Digits.f
  have hb : n < 10 ^ 20 := Nat.lt_of_le_of_lt hn (by decide)
  have := refdig_l0 20 n 0 [] hb hn (by omega) (by simp) (by omega) rfl
  rw [if_neg (by omega), List.append_nil] at this
  exact this
theorem number_ev (a : Int) (h0 : -9223372036854775808 ≤ a) (h1 : a ≤ 9223372036854775807) : Ev (fun k => bulletinref07_Number.f k a) (S (itoa a)) := by
  unfold bulletinref07_Number.f
  by_cases hp : a ≥ 0
  · obtain ⟨n, rfl⟩ : ∃ n : Nat, a = n := ⟨a.toNat, by omega⟩
    refine pos hp (Ev.bind (refdigits_ev n (by omega)) (now' ?_))
    unfold itoa
    rw [if_neg (by omega), Int.toNat_natCast]
  · obtain ⟨u, hu⟩ : ∃ u : Nat, a = -(u : Int) := ⟨a.natAbs, by omega⟩
    subst hu
    have e1 : wrap64 (-(Int.tmod (-(u : Int)) 10)) = ((u % 10 : Nat) : Int) := by
      rw [Int.neg_tmod, Int.tmod_eq_emod_of_nonneg (by omega), Int.neg_neg, w64 (by omega) (by omega)]
      rfl
    have e2 : wrap64 (-(wrap64 (Int.tdiv (-(u : Int)) 10))) = ((u / 10 : Nat) : Int) := by
      rw [Int.neg_tdiv, Int.tdiv_eq_ediv_of_nonneg (by omega), w64 (x := -((u : Int) / 10)) (by omega) (by omega), Int.neg_neg, w64 (by omega) (by omega)]
      rfl
    have ei : itoa (-(u : Int)) = 45 :: decDigits u := by
      unfold itoa
      rw [if_pos (by omega), show (-(u : Int)).natAbs = u from by omega]
    have ds : decDigits (u % 10) = [B (48 + u % 10)] := dd_small (by omega)
    have hl : (S (decDigits (u % 10))).size = 1 := by rw [ds]; rfl
    have e45 : (⟨#[45]⟩ : ByteArray) = S [45] := rfl
    rw [e1, e2, ei]
    refine neg hp (Ev.bind (refdigits_ev (u % 10) (by omega)) ?_)
    by_cases hb : u < 10
    · refine neg (by omega) (pos (by rw [hl]; decide) (now' ?_))
      rw [e45, S_app, show u % 10 = u from by omega]
      rfl
    · have hlen : (decDigits (u / 10)).length ≤ 30 := by
        have : ∀ d n, n < 10 ^ (d + 1) → (decDigits n).length ≤ d + 1 := by
          intro d
          induction d with
          | zero => intro n hn; rw [dd_small (by simpa using hn)]; simp
          | succ d ih =>
            intro n hn
            by_cases h : n < 10
            · rw [dd_small h]; simp
            · rw [dd_big h, List.length_append]
              have := ih (n / 10) (by rw [Nat.pow_succ] at hn; omega)
              simp
              omega
        have := this 19 (u / 10) (Nat.lt_of_le_of_lt (show u / 10 ≤ 922337203685477580 by omega) (by decide))
        omega
      have hl2 : (S (decDigits (u / 10))).size ≤ 30 := by rw [sz, L_S]; exact hlen
      refine pos (by omega) (Ev.bind (refdigits_ev (u / 10) (by omega)) (pos (by rw [hl]; omega) ?_))
      rw [S_app]
      have hl3 : (S (decDigits (u / 10) ++ decDigits (u % 10))).size ≤ 31 := by rw [sz, L_S, List.length_append, ds]; simp; omega
      refine pos (by omega) (now' ?_)
      rw [e45, S_app, dd_big hb, ds]
      rfl
end Go.Proofs.YtdjpdbdilcjakaaDoor.Digits
