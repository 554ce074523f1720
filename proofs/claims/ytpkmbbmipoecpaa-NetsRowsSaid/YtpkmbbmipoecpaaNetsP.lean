/- What the printed functions of package nets and of its reference tell, as functions on lists of bytes. -/
import Derived.Test.YtpkmbbmipoecpaaX
import Derived.Test.YtpkmbbmipoecpaaNetsL
namespace Go.Proofs.Ytpkmbbmipoecpaa.Nets
open Go.RowKit Go.Proofs.Ytpkmbbmipoecpaa.X Go.Proofs.YtpkmbbmipoecpaaW.PrintWords Go.Proofs.YtpkmbbmipoecpaaW.PrintLast Go.Proofs.Ytpkmbbmipoecpaa.Aid
set_option linter.unusedVariables false
set_option linter.unusedSimpArgs false

theorem numB (n : Nat) (h : n < 10) : strOfNums [wrap64 (48 + (n : Int)) % 256] = S [B (48 + n)] := by
  rw [nums_eq, w64 (by omega) (by omega)]
  simp only [List.map_cons, List.map_nil]
  rw [show ((48 + (n : Int)) % 256).toNat = 48 + n from by omega]
theorem digits_ev (n : Nat) (hn : n ≤ 4611686018427387904) : Ev (fun k => nets_digits.f k (n : Int)) (S (digL n)) := by
  induction n using Nat.strongRecOn with
  | _ n ih =>
    refine up ?_
    simp only [nets_digits.f]
    by_cases h : n < 10
    · refine pos (by omega) (now' ?_)
      rw [numB n h, digL_small h]
    · refine neg (by omega) ?_
      have e1 : wrap64 (Int.tdiv (n : Int) 10) = ((n / 10 : Nat) : Int) := by
        rw [Int.tdiv_eq_ediv_of_nonneg (by omega), w64 (by omega) (by omega)]
        rfl
      have e2 : Int.tmod (n : Int) 10 = ((n % 10 : Nat) : Int) := by
        rw [Int.tmod_eq_emod_of_nonneg (by omega)]
        rfl
      simp only [e1, e2]
      refine Ev.bind (ih (n / 10) (by omega) (by omega)) ?_
      refine sbind ?_
      rw [numB _ (by omega)]
      have := digL_len 19 (n / 10) (by omega) (by omega)
      refine pos (by simp only [sz, L_S]; simp; omega) (now' ?_)
      rw [S_app, digL_big h]
theorem put_ev (s : ByteArray) (h : s.size ≤ 140737488351232) : Ev (fun k => nets_Put.f k s) (S (putL (L s))) := by
  unfold nets_Put.f
  have hl := digL_len 19 s.size (by omega) (by omega)
  refine Ev.bind (digits_ev s.size (by omega)) ?_
  have h1 : (S (digL s.size)).size = (digL s.size).length := by rw [sz, L_S]
  have e1 : L (⟨#[58]⟩ : ByteArray) = [58] := L_lit [58]
  have e2 : L (⟨#[44]⟩ : ByteArray) = [44] := L_lit [44]
  refine pos (by omega) ?_
  have z1 : (⟨#[58]⟩ : ByteArray).size = 1 := rfl
  refine pos (by rw [ByteArray.size_append, h1, z1]; omega) ?_
  refine pos (by rw [ByteArray.size_append, ByteArray.size_append, h1, z1]; omega) (now' ?_)
  apply L_inj
  rw [L_app, L_app, L_app, L_S, L_S, e1, e2, sz]
  rfl
theorem digit_eq (c : UInt8) : nets_digit.f (c.toNat : Int) = some (isD c) := by
  unfold nets_digit.f isD
  by_cases h : 48 ≤ c.toNat
  · rw [if_pos (by omega)]
    simp [h]
    omega
  · rw [if_neg (by omega)]
    simp [h]
theorem size_l1 (s : ByteArray) (m : Nat) (hm : m ≤ 9) (hl : m ≤ (L s).length) (hs : (L s).length ≤ 140737488351232) (hd : ∀ i (h : i < m), isD ((L s)[i]'(by omega)) = true) (d : Nat) : ∀ i : Nat, i ≤ m → m - i = d →
    Ev (fun k => nets_size.l1 k s (val ((L s).take i) : Nat) m m i) ((val ((L s).take m) : Nat), ((m + 1 : Nat) : Int), 0) := by
  induction d with
  | zero =>
    intro i hi hd0
    obtain rfl : i = m := by omega
    refine up ?_
    simp only [nets_size.l1]
    refine neg (by omega) (now' ?_)
    rw [w64 (by omega) (by omega)]
    rfl
  | succ d ih =>
    intro i hi hd0
    refine up ?_
    simp only [nets_size.l1]
    have hil : i < (L s).length := by omega
    refine pos (by omega) (pos (by omega) (pos (by rw [sz]; omega) ?_))
    have hc := (isD_iff _).1 (hd i (by omega))
    have hv := val_lt i ((L s).take i) (by rw [List.length_take]; omega) (by
      intro c hc
      obtain ⟨j, hj, rfl⟩ := List.getElem_of_mem hc
      rw [List.getElem_take]
      rw [List.length_take] at hj
      exact hd j (by omega))
    have hp : 10 ^ i ≤ 10 ^ 8 := Nat.pow_le_pow_right (by omega) (by omega)
    have hv' : val ((L s).take i) < 100000000 := Nat.lt_of_lt_of_le hv (Nat.le_trans hp (by decide))
    clear hv hp
    have e1 : wrap64 (wrap64 (((val ((L s).take i) : Nat) : Int) * 10) + ((bt s (i : Int)) - 48) % 256) = ((val ((L s).take (i + 1)) : Nat) : Int) := by
      rw [btn s i hil, List.take_succ_eq_append_getElem hil, val_snoc, w64 (x := ((val ((L s).take i) : Nat) : Int) * 10) (by omega) (by omega)]
      rw [w64 (by omega) (by omega)]
      omega
    have e2 : wrap64 ((i : Int) + 1) = ((i + 1 : Nat) : Int) := by rw [w64 (by omega) (by omega)]; rfl
    rw [e1, e2]
    exact ih (i + 1) (by omega) (by omega)
theorem pre_le (l : List UInt8) : (pre l).length ≤ l.length := tw_le isD l
theorem size_l0 (s : ByteArray) (hs : (L s).length ≤ 140737488351232) {r : Int × Int × Int} (hr : Ev (fun k => nets_size.j1 k s 0 ((pre (L s)).length : Nat)) r) (d : Nat) : ∀ i : Nat, i ≤ (pre (L s)).length → (pre (L s)).length - i = d →
    Ev (fun k => nets_size.l0 k s 0 i) r := by
  have hle := pre_le (L s)
  induction d with
  | zero =>
    intro i hi hd0
    obtain rfl : i = (pre (L s)).length := by omega
    refine up ?_
    simp only [nets_size.l0]
    by_cases h : (pre (L s)).length < (L s).length
    · refine pos (by rw [sz]; omega) (pos (by omega) ?_)
      have hst := tw_stop isD (L s) h
      rw [btn s _ h]
      refine cbind (digit_eq _) (neg (fun e => ?_) hr)
      have : isD ((L s)[(pre (L s)).length]) = false := hst
      rw [this] at e
      cases e
    · exact neg (by rw [sz]; omega) hr
  | succ d ih =>
    intro i hi hd0
    refine up ?_
    simp only [nets_size.l0]
    have hil : i < (L s).length := by omega
    refine pos (by rw [sz]; omega) (pos (by omega) ?_)
    rw [btn s i hil]
    refine cbind (digit_eq _) (pos (tw_get isD (L s) i (by unfold pre at hi hd0; omega)) ?_)
    have e2 : wrap64 ((i : Int) + 1) = ((i + 1 : Nat) : Int) := by rw [w64 (by omega) (by omega)]; rfl
    rw [e2]
    exact ih (i + 1) (by omega) (by omega)
/-- what Take tells -/
def takeT (s : ByteArray) : ByteArray × ByteArray × Int := (S (takeL (L s)).1, S (takeL (L s)).2.1, (takeL (L s)).2.2)
theorem take_ev (s : ByteArray) (h : s.size ≤ 140737488351232) : Ev (fun k => nets_Take.f k s) (takeT s) := by
  have hs : (L s).length ≤ 140737488351232 := by rw [← sz]; exact h
  have hle := pre_le (L s)
  have fail : ∀ c : Int, c ≠ 0 → Ev (fun k => nets_size.f k s) (0, 0, c) → takeL (L s) = ([], [], c) → Ev (fun k => nets_Take.f k s) (takeT s) := by
    intro c hc hev ht
    unfold nets_Take.f
    refine Ev.bind hev (neg hc (now' ?_))
    simp [takeT, ht, S]
  have hsize : L s ≠ [] → ∀ {r : Int × Int × Int}, Ev (fun k => nets_size.j1 k s 0 ((pre (L s)).length : Nat)) r → Ev (fun k => nets_size.f k s) r := by
    intro hne r hr
    unfold nets_size.f
    exact neg (by rw [eq_nil_iff]; exact hne) (size_l0 s hs hr _ 0 (by omega) rfl)
  by_cases h1 : L s = []
  · refine fail 9 (by decide) ?_ (by simp [takeL, h1])
    unfold nets_size.f
    exact pos (by rw [eq_nil_iff]; exact h1) (now' rfl)
  have hj : ∀ {r : Int × Int × Int}, Ev (fun k => nets_size.j1 k s 0 ((pre (L s)).length : Nat)) r → Ev (fun k => nets_size.f k s) r := hsize h1
  by_cases h2 : (pre (L s)).length = 0
  · refine fail 3 (by decide) (hj (up ?_)) (by unfold takeL; rw [if_neg h1, if_pos h2])
    simp only [nets_size.j1]
    exact pos (by omega) (now' rfl)
  by_cases h3 : 9 < (pre (L s)).length
  · refine fail 2 (by decide) (hj (up ?_)) (by unfold takeL; rw [if_neg h1, if_neg h2, if_pos h3])
    simp only [nets_size.j1]
    exact neg (by omega) (pos (by omega) (now' rfl))
  by_cases h4 : (pre (L s)).length = (L s).length
  · refine fail 9 (by decide) (hj (up ?_)) (by unfold takeL; rw [if_neg h1, if_neg h2, if_neg h3, if_pos h4])
    simp only [nets_size.j1]
    exact neg (by omega) (neg (by omega) (pos (by rw [sz]; omega) (now' rfl)))
  have h4' : (pre (L s)).length < (L s).length := by omega
  have hb0 : bt s 0 = (((L s).getD 0 0).toNat : Int) := btd s 0
  by_cases h5 : (L s).getD (pre (L s)).length 0 ≠ 58 ∨ (1 < (pre (L s)).length ∧ (L s).getD 0 0 = 48)
  · refine fail 3 (by decide) (hj (up ?_)) (by unfold takeL; rw [if_neg h1, if_neg h2, if_neg h3, if_neg h4, if_pos h5])
    simp only [nets_size.j1]
    refine neg (by omega) (neg (by omega) (neg (by rw [sz]; omega) (pos (by omega) (pos (by rw [sz]; omega) ?_))))
    rw [btd]
    refine ite_ev (fun e => ?_) (fun e => now' rfl)
    have e58 : (L s).getD (pre (L s)).length 0 = 58 := u8i e
    rcases h5 with h5 | ⟨h5, h6⟩
    · exact absurd e58 h5
    · refine pos (by omega) (pos (by rw [sz]; omega) ?_)
      rw [hb0, h6]
      exact pos (by decide) (now' rfl)
  · have e58 : (L s).getD (pre (L s)).length 0 = 58 := Classical.byContradiction fun e => h5 (Or.inl e)
    have hall := tw_all isD (L s)
    have hv0 := val_lt 9 (pre (L s)) (by omega) hall
    have hv : val (pre (L s)) < 1000000000 := Nat.lt_of_lt_of_le hv0 (by decide)
    clear hv0
    have hok : Ev (fun k => nets_size.f k s) ((val (pre (L s)) : Nat), (((pre (L s)).length + 1 : Nat) : Int), 0) := by
      refine hj (up ?_)
      have hl1 := size_l1 s (pre (L s)).length (by omega) hle hs (fun i hi => tw_get isD (L s) i hi) _ 0 (by omega) rfl
      have hpt : (L s).take (pre (L s)).length = pre (L s) := (tw_take isD (L s)).symm
      rw [hpt] at hl1
      simp only [List.take_zero, val_nil] at hl1
      simp only [nets_size.j1]
      refine neg (by omega) (neg (by omega) (neg (by rw [sz]; omega) (pos (by omega) (pos (by rw [sz]; omega) ?_))))
      rw [btd, e58]
      refine pos (by decide) ?_
      refine ite_ev (fun e => ?_) (fun e => ?_)
      · refine pos (by rw [sz]; omega) ?_
        rw [hb0]
        refine neg (fun e' => h5 (Or.inr ⟨by omega, u8i e'⟩)) (up ?_)
        simp only [nets_size.j2]
        exact hl1
      · refine up ?_
        simp only [nets_size.j2]
        exact hl1
    have htl : takeL (L s) = if (List.drop ((pre (L s)).length + 1) (L s)).length ≤ val (pre (L s)) then ([], [], 9) else if (List.drop ((pre (L s)).length + 1) (L s)).getD (val (pre (L s))) 0 ≠ 44 then ([], [], 3) else ((List.drop ((pre (L s)).length + 1) (L s)).take (val (pre (L s))), (List.drop ((pre (L s)).length + 1) (L s)).drop (val (pre (L s)) + 1), 0) := by
      conv => lhs; unfold takeL
      rw [if_neg h1, if_neg h2, if_neg h3, if_neg h4, if_neg h5]
    unfold takeT
    rw [htl]
    have hex : ∀ q : ByteArray, q = s.extract ((pre (L s)).length + 1) s.size → L q = (L s).drop ((pre (L s)).length + 1) := by
      rintro q rfl; exact L_to_end _ _
    unfold nets_Take.f
    refine Ev.bind hok ?_
    simp only [Int.toNat_natCast]
    obtain ⟨q, hq⟩ : ∃ q, q = s.extract ((pre (L s)).length + 1) s.size := ⟨_, rfl⟩
    have hLq := hex q hq
    rw [← hq, ← hLq]
    have hql : (L q).length < 140737488351233 := by rw [hLq, List.length_drop]; omega
    refine pos trivial (pos (by omega) (pos (by rw [sz]; omega) ?_))
    by_cases h6 : (L q).length ≤ val (pre (L s))
    · rw [if_pos h6]
      exact pos (by rw [sz]; omega) (now' rfl)
    · rw [if_neg h6]
      refine neg (by rw [sz]; omega) (pos (by omega) (pos (by rw [sz]; omega) ?_))
      rw [btd]
      by_cases h7 : (L q).getD (val (pre (L s))) 0 ≠ 44
      · rw [if_pos h7]
        exact neg (fun e => h7 (u8i e)) (now' rfl)
      · rw [if_neg h7]
        have h7' : (L q).getD (val (pre (L s))) 0 = 44 := Classical.byContradiction h7
        rw [h7']
        have e3 : wrap64 (((val (pre (L s)) : Nat) : Int) + 1) = ((val (pre (L s)) + 1 : Nat) : Int) := by rw [w64 (by omega) (by omega)]; rfl
        rw [e3]
        refine pos (by decide) (pos (by rw [sz]; omega) (pos (by omega) (pos (by rw [sz]; omega) (now' ?_))))
        simp only [Int.toNat_natCast, Prod.mk.injEq, and_true]
        constructor
        · apply L_inj; rw [L_S, L_from_start]
        · apply L_inj; rw [L_S, L_to_end]

/-! ### the reference -/
theorem refdig_l0 (d : Nat) : ∀ (n j : Nat) (acc : List UInt8), n < 10 ^ d → n ≤ 4611686018427387904 → j + d ≤ 20 → j + acc.length ≤ 60 → (j = 0 → 1 ≤ d) → acc.length = j →
    Ev (fun k => bulletinref01_Digits.l0 k (n : Int) (S acc) (j : Int)) (S ((if n = 0 ∧ 0 < j then [] else digL n) ++ acc)) := by
  induction d with
  | zero =>
    intro n j acc hn _ hj _ h0 hl
    have hn0 : n = 0 := by simpa using hn
    subst hn0
    have hj0 : 0 < j := by
      rcases Nat.eq_zero_or_pos j with h | h
      · exact absurd (h0 h) (by omega)
      · exact h
    refine up ?_
    simp only [bulletinref01_Digits.l0]
    refine neg (by omega) (neg (by omega) (now' ?_))
    rw [if_pos ⟨trivial, hj0⟩, List.nil_append]
  | succ d ih =>
    intro n j acc hn hnm hj hq h0 hl
    have hstep : Ev (fun k => (some (([(wrap64 (48 + (Int.tmod (n : Int) 10))) % 256] : List Int) : List Int)).bind fun y => (if (strOfNums y).size + (S acc).size ≤ 9223372036854775807 then (bulletinref01_Digits.l0 k (wrap64 (Int.tdiv (n : Int) 10)) ((strOfNums y) ++ S acc) (wrap64 ((j : Int) + 1))) else (none))) (S (digL n ++ acc)) := by
      have e1 : wrap64 (Int.tdiv (n : Int) 10) = ((n / 10 : Nat) : Int) := by
        rw [Int.tdiv_eq_ediv_of_nonneg (by omega), w64 (by omega) (by omega)]
        rfl
      have e2 : Int.tmod (n : Int) 10 = ((n % 10 : Nat) : Int) := by
        rw [Int.tmod_eq_emod_of_nonneg (by omega)]
        rfl
      have e3 : wrap64 ((j : Int) + 1) = ((j + 1 : Nat) : Int) := by rw [w64 (by omega) (by omega)]; rfl
      simp only [e1, e2, e3]
      refine sbind ?_
      rw [numB _ (by omega)]
      have z1 : (S [B (48 + n % 10)]).size = 1 := rfl
      have z2 : (S acc).size = acc.length := by rw [sz, L_S]
      refine pos (by rw [z1, z2]; omega) ?_
      rw [S_app]
      have hn' : n / 10 < 10 ^ d := by rw [Nat.pow_succ] at hn; omega
      have := ih (n / 10) (j + 1) ([B (48 + n % 10)] ++ acc) hn' (by omega) (by omega) (by simp; omega) (by omega) (by simp; omega)
      refine cast (congrArg _ ?_) this
      congr 1
      by_cases h : n < 10
      · rw [if_pos ⟨by omega, by omega⟩, digL_small h, show n % 10 = n from by omega]
        simp
      · rw [if_neg (by omega), digL_big h]
        simp
    refine up ?_
    simp only [bulletinref01_Digits.l0]
    by_cases hj0 : j = 0
    · rw [if_neg (by omega)]
      exact pos (by omega) hstep
    · by_cases hn0 : n = 0
      · rw [if_pos ⟨hn0, by omega⟩]
        exact neg (by omega) (neg (by omega) (now' (by simp)))
      · rw [if_neg (by omega)]
        exact neg (by omega) (pos (by omega) (pos (by omega) hstep))
theorem refdigits_ev (n : Nat) (hn : n ≤ 4611686018427387904) : Ev (fun k => bulletinref01_Digits.f k (n : Int)) (S (digL n)) := by
  unfold bulletinref01_Digits.f
  have hb : n < 10 ^ 20 := Nat.lt_of_le_of_lt hn (by decide)
  have := refdig_l0 20 n 0 [] hb hn (by omega) (by simp) (by omega) rfl
  rw [if_neg (by omega), List.append_nil] at this
  exact this
theorem refput_ev (s : ByteArray) (h : s.size ≤ 140737488351232) : Ev (fun k => bulletinref01_Put.f k s) (S (putL (L s))) := by
  unfold bulletinref01_Put.f
  have hl := digL_len 19 s.size (by omega) (by omega)
  refine Ev.bind (refdigits_ev s.size (by omega)) ?_
  have h1 : (S (digL s.size)).size = (digL s.size).length := by rw [sz, L_S]
  have e1 : L (⟨#[58]⟩ : ByteArray) = [58] := L_lit [58]
  have e2 : L (⟨#[44]⟩ : ByteArray) = [44] := L_lit [44]
  refine pos (by omega) ?_
  have z1 : (⟨#[58]⟩ : ByteArray).size = 1 := rfl
  refine pos (by rw [ByteArray.size_append, h1, z1]; omega) ?_
  refine pos (by rw [ByteArray.size_append, ByteArray.size_append, h1, z1]; omega) (now' ?_)
  apply L_inj
  rw [L_app, L_app, L_app, L_S, L_S, e1, e2, sz]
  rfl
/-- the number that the first nine digits tell -/
theorem refl0 (s : ByteArray) (hs : (L s).length ≤ 140737488351232) {r : ByteArray × ByteArray × Int}
    (hr : Ev (fun k => bulletinref01_Take.j1 k s ((pre (L s)).length : Nat) ((val ((pre (L s)).take 9) : Nat) : Int) false) r) (d : Nat) : ∀ i : Nat, i ≤ (pre (L s)).length → (pre (L s)).length - i = d →
    Ev (fun k => bulletinref01_Take.l0 k s (i : Int) ((val (((L s).take i).take 9) : Nat) : Int)) r := by
  have hle := pre_le (L s)
  have hpt : (L s).take (pre (L s)).length = pre (L s) := (tw_take isD (L s)).symm
  induction d with
  | zero =>
    intro i hi hd0
    obtain rfl : i = (pre (L s)).length := by omega
    rw [hpt]
    refine up ?_
    simp only [bulletinref01_Take.l0]
    by_cases h : (pre (L s)).length < (L s).length
    · refine pos (by rw [sz]; omega) (pos (by omega) ?_)
      have hst : isD ((L s)[(pre (L s)).length]) = false := tw_stop isD (L s) h
      rw [btn s _ h]
      refine ite_ev (fun e => ?_) (fun e => hr)
      have : decide ((((L s)[(pre (L s)).length]).toNat : Int) ≤ 57) = false := by
        simp only [isD, Bool.and_eq_false_iff, decide_eq_false_iff_not] at hst
        simp only [decide_eq_false_iff_not]
        omega
      rw [this]
      exact hr
    · exact neg (by rw [sz]; omega) hr
  | succ d ih =>
    intro i hi hd0
    have hil : i < (L s).length := by omega
    have hc := (isD_iff _).1 (tw_get isD (L s) i (by unfold pre at hi hd0; omega))
    have e2 : wrap64 ((i : Int) + 1) = ((i + 1 : Nat) : Int) := by rw [w64 (by omega) (by omega)]; rfl
    have hnext := ih (i + 1) (by omega) (by omega)
    refine up ?_
    simp only [bulletinref01_Take.l0]
    refine pos (by rw [sz]; omega) (pos (by omega) ?_)
    rw [btn s i hil]
    refine pos (by omega) ?_
    have : decide ((((L s)[i]).toNat : Int) ≤ 57) = true := by simp only [decide_eq_true_eq]; omega
    rw [this]
    refine up ?_
    simp only [bulletinref01_Take.j1]
    refine pos trivial ?_
    by_cases h9 : i < 9
    · refine pos (by omega) (pos (by omega) (pos (by rw [sz]; omega) ?_))
      have ht : ((L s).take i).take 9 = (L s).take i := by rw [List.take_take]; congr 1; omega
      have ht1 : ((L s).take (i + 1)).take 9 = (L s).take (i + 1) := by rw [List.take_take]; congr 1; omega
      rw [ht1] at hnext
      have hv0 := val_lt i ((L s).take i) (by rw [List.length_take]; omega) (by
        intro c hc
        obtain ⟨j, hj, rfl⟩ := List.getElem_of_mem hc
        rw [List.getElem_take]
        rw [List.length_take] at hj
        exact tw_get isD (L s) j (by unfold pre at hi hd0; omega))
      have hp : 10 ^ i ≤ 10 ^ 8 := Nat.pow_le_pow_right (by omega) (by omega)
      have hv : val ((L s).take i) < 100000000 := Nat.lt_of_lt_of_le hv0 (Nat.le_trans hp (by decide))
      clear hv0 hp
      have e1 : wrap64 (wrap64 (wrap64 (10 * ((val (((L s).take i).take 9) : Nat) : Int)) + wrap64 (bt s (i : Int))) - 48) = ((val ((L s).take (i + 1)) : Nat) : Int) := by
        rw [ht, btn s i hil, List.take_succ_eq_append_getElem hil, val_snoc, w64 (x := 10 * ((val ((L s).take i) : Nat) : Int)) (by omega) (by omega)]
        have hb := UInt8.toNat_lt ((L s)[i])
        rw [w64 (x := (((L s)[i]).toNat : Int)) (by omega) (by omega), w64 (x := 10 * ((val ((L s).take i) : Nat) : Int) + _) (by omega) (by omega), w64 (by omega) (by omega)]
        omega
      rw [e1, e2]
      exact hnext
    · refine neg (by omega) ?_
      rw [e2]
      have ht : ((L s).take i).take 9 = ((L s).take (i + 1)).take 9 := by rw [List.take_take, List.take_take]; congr 1; omega
      rw [ht]
      exact hnext
theorem reftake_ev (s : ByteArray) (h : s.size ≤ 140737488351232) : Ev (fun k => bulletinref01_Take.f k s) (takeT s) := by
  have hs : (L s).length ≤ 140737488351232 := by rw [← sz]; exact h
  have hle := pre_le (L s)
  have nil : S [] = (⟨#[]⟩ : ByteArray) := rfl
  have hT : ∀ c : Int, takeL (L s) = ([], [], c) → ((⟨#[]⟩ : ByteArray), (⟨#[]⟩ : ByteArray), c) = takeT s := by
    intro c hc
    unfold takeT
    rw [hc]
    rfl
  unfold bulletinref01_Take.f
  by_cases h1 : L s = []
  · exact pos (by rw [eq_nil_iff]; exact h1) (now' (hT 9 (by simp [takeL, h1])))
  refine neg (by rw [eq_nil_iff]; exact h1) ?_
  refine refl0 s hs (i := 0) (d := (pre (L s)).length) (up ?_) (by omega) (by omega)
  simp only [bulletinref01_Take.j1]
  refine neg (by simp) ?_
  by_cases h2 : (pre (L s)).length = 0
  · exact pos (by omega) (now' (hT 3 (by unfold takeL; rw [if_neg h1, if_pos h2])))
  refine neg (by omega) ?_
  by_cases h3 : 9 < (pre (L s)).length
  · exact pos (by omega) (now' (hT 2 (by unfold takeL; rw [if_neg h1, if_neg h2, if_pos h3])))
  refine neg (by omega) ?_
  by_cases h4 : (pre (L s)).length = (L s).length
  · exact pos (by rw [sz]; omega) (now' (hT 9 (by unfold takeL; rw [if_neg h1, if_neg h2, if_neg h3, if_pos h4])))
  have h4' : (pre (L s)).length < (L s).length := by omega
  refine neg (by rw [sz]; omega) (pos (by omega) (pos (by rw [sz]; omega) ?_))
  have hpt : (L s).take (pre (L s)).length = pre (L s) := (tw_take isD (L s)).symm
  have h9 : (pre (L s)).take 9 = pre (L s) := List.take_of_length_le (by omega)
  have hall := tw_all isD (L s)
  have hv0 := val_lt 9 (pre (L s)) (by omega) hall
  have hv : val (pre (L s)) < 1000000000 := Nat.lt_of_lt_of_le hv0 (by decide)
  clear hv0
  rw [btd, h9]
  have hne : pre (L s) ≠ [] := fun e => h2 (by rw [e]; rfl)
  have hhead : (pre (L s)).head? = some ((L s).getD 0 0) := by
    have h0 : 0 < (pre (L s)).length := by omega
    rw [List.head?_eq_getElem?, List.getElem?_eq_getElem h0]
    have e := List.getElem_of_eq hpt.symm h0
    rw [e, List.getElem_take, List.getD_eq_getElem?_getD, List.getElem?_eq_getElem (by omega)]
    rfl
  by_cases h58 : (L s).getD (pre (L s)).length 0 = 58
  · rw [h58]
    refine pos (by decide) (pos (by rw [sz]; omega) ?_)
    refine Ev.bind (refdigits_ev (val (pre (L s))) (by omega)) ?_
    simp only [Int.toNat_natCast]
    have hb : ((s.extract 0 (pre (L s)).length).toList != (S (digL (val (pre (L s))))).toList) = decide ((1 < (pre (L s)).length ∧ (L s).getD 0 0 = 48)) := by
      rw [tl, tl, L_from_start, L_S, hpt]
      rw [Bool.eq_iff_iff]
      simp only [bne_iff_ne, ne_eq, decide_eq_true_eq]
      constructor
      · intro hnq
        refine Classical.byContradiction fun hcan => hnq ?_
        exact (digL_val _ (pre (L s)) rfl hne hall (fun hx => hcan ⟨hx.1, by have := hx.2; rw [hhead] at this; exact Option.some.inj this⟩)).symm
      · rintro ⟨ha, hb⟩ heq
        have := canon_digL (val (pre (L s)))
        rw [← heq] at this
        exact this ⟨ha, by rw [hhead, hb]⟩
    rw [hb]
    refine up ?_
    simp only [bulletinref01_Take.j2]
    by_cases h5 : 1 < (pre (L s)).length ∧ (L s).getD 0 0 = 48
    · exact pos (by simpa using h5) (now' (hT 3 (by unfold takeL; rw [if_neg h1, if_neg h2, if_neg h3, if_neg h4, if_pos (Or.inr h5)])))
    have h5' : ¬ ((L s).getD (pre (L s)).length 0 ≠ 58 ∨ (1 < (pre (L s)).length ∧ (L s).getD 0 0 = 48)) := by
      rintro (e | e)
      · exact e h58
      · exact h5 e
    refine neg (by simpa using h5) ?_
    have e3 : wrap64 (((pre (L s)).length : Int) + 1) = (((pre (L s)).length + 1 : Nat) : Int) := by rw [w64 (by omega) (by omega)]; rfl
    have e4 : wrap64 (((val (pre (L s)) : Nat) : Int) + 1) = ((val (pre (L s)) + 1 : Nat) : Int) := by rw [w64 (by omega) (by omega)]; rfl
    simp only [e3, e4, Int.toNat_natCast]
    obtain ⟨q, hq⟩ : ∃ q, q = s.extract ((pre (L s)).length + 1) s.size := ⟨_, rfl⟩
    have hLq : L q = (L s).drop ((pre (L s)).length + 1) := by rw [hq]; exact L_to_end _ _
    have htl : takeL (L s) = if (L q).length ≤ val (pre (L s)) then ([], [], 9) else if (L q).getD (val (pre (L s))) 0 ≠ 44 then ([], [], 3) else ((L q).take (val (pre (L s))), (L q).drop (val (pre (L s)) + 1), 0) := by
      conv => lhs; unfold takeL
      rw [if_neg h1, if_neg h2, if_neg h3, if_neg h4, if_neg h5', ← hLq]
    rw [← hq]
    have hql : (L q).length < 140737488351233 := by rw [hLq, List.length_drop]; omega
    refine pos (by omega) (pos (by rw [sz]; omega) ?_)
    by_cases h6 : (L q).length ≤ val (pre (L s))
    · exact pos (by rw [sz]; omega) (now' (hT 9 (by rw [htl, if_pos h6])))
    refine neg (by rw [sz]; omega) (pos (by omega) (pos (by rw [sz]; omega) ?_))
    rw [btd]
    by_cases h7 : (L q).getD (val (pre (L s))) 0 ≠ 44
    · exact neg (fun e => h7 (u8i e)) (now' (hT 3 (by rw [htl, if_neg h6, if_pos h7])))
    have h7' : (L q).getD (val (pre (L s))) 0 = 44 := Classical.byContradiction h7
    rw [h7']
    refine pos (by decide) (pos (by rw [sz]; omega) (pos (by omega) (pos (by rw [sz]; omega) (now' ?_))))
    unfold takeT
    rw [htl, if_neg h6, if_neg h7]
    simp only [Prod.mk.injEq, and_true]
    constructor
    · apply L_inj; rw [L_S, L_from_start]
    · apply L_inj; rw [L_S, L_to_end]
  · refine neg (fun e => h58 (u8i e)) (up ?_)
    simp only [bulletinref01_Take.j2]
    exact pos trivial (now' (hT 3 (by unfold takeL; rw [if_neg h1, if_neg h2, if_neg h3, if_neg h4, if_pos (Or.inl h58)])))

/-! ### rows and texts -/
/-- all of a row's nets together are short enough -/
theorem row_g (N M : Nat) (hM : N + 30 ≤ M) : ∀ (l : List ByteArray) (acc : List UInt8), (∀ x ∈ l, x.size ≤ N) → N ≤ 1000000 → l.length ≤ 1000000 → acc.length + l.length * M ≤ 140737488355328 →
    Ev (fun k => nets_Row.g k l (S acc)) (S (acc ++ rowL (l.map L)))
  | [], acc, _, _, _, _ => by
    simp only [nets_Row.g, List.map_nil, rowL, List.append_nil]
    exact Ev.now _
  | x :: xs, acc, h, hN, hl, hq => by
    simp only [nets_Row.g]
    have hx := h x (by simp)
    have hd := digL_len 19 (L x).length (by omega) (by rw [← sz]; omega)
    refine Ev.bind (put_ev x (by omega)) ?_
    have z1 : (S acc).size = acc.length := by rw [sz, L_S]
    have z2 : (S (putL (L x))).size = (putL (L x)).length := by rw [sz, L_S]
    have z3 : (putL (L x)).length ≤ M := by
      rw [sz] at hx
      unfold putL
      simp only [List.length_append, List.length_cons, List.length_nil]
      omega
    simp only [List.length_cons, Nat.succ_mul] at hq
    refine pos (by rw [z1, z2]; omega) ?_
    rw [S_app]
    have := row_g N M hM xs (acc ++ putL (L x)) (fun y hy => h y (by simp [hy])) hN (by simp at hl; omega) (by rw [List.length_append]; omega)
    rw [List.append_assoc] at this
    exact this
theorem row_ev (l : List ByteArray) (N : Nat) (h : ∀ x ∈ l, x.size ≤ N) (hN : N ≤ 1000000) (hl : l.length ≤ 1000000) : Ev (fun k => nets_Row.f k l) (S (rowL (l.map L))) := by
  unfold nets_Row.f
  have hm : l.length * 1000030 ≤ 1000000 * 1000030 := Nat.mul_le_mul_right _ hl
  refine pos (by omega) ?_
  have := row_g N 1000030 (by omega) l [] h hN hl (by simp only [List.length_nil]; omega)
  rw [List.nil_append] at this
  exact this
theorem texts_l0 (n : Nat) : ∀ (s : ByteArray) (acc : List ByteArray), (L s).length ≤ n → n ≤ 1000000 → acc.length + n ≤ 1000000 →
    Ev (fun k => nets_Texts.l0 k s acc) (((textsL n (L s) (acc.map L)).1.map S), (textsL n (L s) (acc.map L)).2) := by
  induction n with
  | zero =>
    intro s acc hl _ _
    have h0 : L s = [] := List.length_eq_zero_iff.1 (by omega)
    refine up ?_
    simp only [nets_Texts.l0, textsL]
    refine pos (by rw [eq_nil_iff]; exact h0) (now' ?_)
    simp [S_L, Function.comp_def]
  | succ n ih =>
    intro s acc hl hn ha
    refine up ?_
    simp only [nets_Texts.l0, textsL]
    by_cases h1 : L s = []
    · rw [if_pos h1]
      refine pos (by rw [eq_nil_iff]; exact h1) (now' ?_)
      simp [S_L, Function.comp_def]
    rw [if_neg h1]
    refine neg (by rw [eq_nil_iff]; exact h1) ?_
    refine Ev.bind (take_ev s (by rw [sz]; omega)) ?_
    simp only [takeT]
    by_cases h2 : (takeL (L s)).2.2 = 0
    · rw [if_pos h2]
      refine pos h2 (pos (by omega) ?_)
      have hq : takeL (L s) = ((takeL (L s)).1, (takeL (L s)).2.1, 0) := by rw [← h2]
      have h4 := take_less _ _ _ hq
      have := ih (S (takeL (L s)).2.1) (acc ++ [S (takeL (L s)).1]) (by rw [L_S]; omega) (by omega) (by simp; omega)
      simpa using this
    · rw [if_neg h2]
      exact neg h2 (now' (by simp))
theorem texts_ev (s : ByteArray) (h : (L s).length ≤ 500000) : Ev (fun k => nets_Texts.f k s) (((textsL (L s).length (L s) []).1.map S), (textsL (L s).length (L s) []).2) := by
  unfold nets_Texts.f
  exact texts_l0 (L s).length s [] (Nat.le_refl _) (by omega) (by simp; omega)
theorem reftexts_l0 (n : Nat) : ∀ (s : ByteArray) (acc : List ByteArray) (i : Nat), (L s).length ≤ n → n ≤ 50000 → acc.length + n ≤ 60000 → i + n < 100000 →
    Ev (fun k => bulletinref01_Texts.l0 k s acc (i : Int)) (((textsL n (L s) (acc.map L)).1.map S), (textsL n (L s) (acc.map L)).2) := by
  induction n with
  | zero =>
    intro s acc i hl _ _ _
    have h0 : L s = [] := List.length_eq_zero_iff.1 (by omega)
    refine up ?_
    simp only [bulletinref01_Texts.l0, textsL]
    refine pos (by rw [eq_nil_iff]; exact h0) (up ?_)
    simp only [bulletinref01_Texts.j1]
    refine neg (by simp) (now' ?_)
    simp [S_L, Function.comp_def]
  | succ n ih =>
    intro s acc i hl hn ha hi
    refine up ?_
    simp only [bulletinref01_Texts.l0, textsL]
    by_cases h1 : L s = []
    · rw [if_pos h1]
      refine pos (by rw [eq_nil_iff]; exact h1) (up ?_)
      simp only [bulletinref01_Texts.j1]
      refine neg (by simp) (now' ?_)
      simp [S_L, Function.comp_def]
    rw [if_neg h1]
    refine neg (by rw [eq_nil_iff]; exact h1) (up ?_)
    simp only [bulletinref01_Texts.j1]
    refine pos (by simp only [decide_eq_true_eq]; omega) ?_
    refine Ev.bind (reftake_ev s (by rw [sz]; omega)) ?_
    simp only [takeT]
    by_cases h2 : (takeL (L s)).2.2 = 0
    · rw [if_pos h2]
      refine pos h2 (pos (by omega) ?_)
      have hq : takeL (L s) = ((takeL (L s)).1, (takeL (L s)).2.1, 0) := by rw [← h2]
      have h4 := take_less _ _ _ hq
      have e : wrap64 ((i : Int) + 1) = ((i + 1 : Nat) : Int) := by rw [w64 (by omega) (by omega)]; rfl
      rw [e]
      have := ih (S (takeL (L s)).2.1) (acc ++ [S (takeL (L s)).1]) (i + 1) (by rw [L_S]; omega) (by omega) (by simp; omega) (by omega)
      simpa using this
    · rw [if_neg h2]
      exact neg h2 (now' (by simp))
theorem reftexts_ev (s : ByteArray) (h : (L s).length ≤ 3000) : Ev (fun k => bulletinref01_Texts.f k s) (((textsL (L s).length (L s) []).1.map S), (textsL (L s).length (L s) []).2) := by
  unfold bulletinref01_Texts.f
  exact reftexts_l0 (L s).length s [] 0 (Nat.le_refl _) (by omega) (by simp; omega) (by omega)
theorem refrow_l0 (l : List ByteArray) (N : Nat) (h : ∀ x ∈ l, x.size ≤ N) (hN : N ≤ 1000000) (hl : l.length ≤ 1000000) (M : Nat) (hM : N + 30 ≤ M) (hM2 : M ≤ 1000030) (d : Nat) : ∀ (i : Nat) (acc : List UInt8), i ≤ l.length → l.length - i = d → acc.length ≤ i * M →
    Ev (fun k => bulletinref01_Row.l0 k l (S acc) (i : Int)) (S (acc ++ rowL ((l.drop i).map L))) := by
  induction d with
  | zero =>
    intro i acc hi hd _
    refine up ?_
    simp only [bulletinref01_Row.l0]
    refine neg (by omega) (now' ?_)
    rw [List.drop_eq_nil_of_le (by omega)]
    simp [rowL]
  | succ d ih =>
    intro i acc hi hd ha
    have hil : i < l.length := by omega
    have hi2 : l.length - (i + 1) = d := by omega
    have hx := h l[i] (List.getElem_mem hil)
    refine up ?_
    simp only [bulletinref01_Row.l0]
    refine pos (by omega) (pos (by omega) ?_)
    rw [rdOf_nat _ _ _ hil]
    refine Ev.bind (refput_ev _ (by omega)) ?_
    have hdl := digL_len 19 (L l[i]).length (by omega) (by rw [← sz]; omega)
    have z1 : (S acc).size = acc.length := by rw [sz, L_S]
    have z2 : (S (putL (L l[i]))).size = (putL (L l[i])).length := by rw [sz, L_S]
    have z3 : (putL (L l[i])).length ≤ M := by
      rw [sz] at hx
      unfold putL
      simp only [List.length_append, List.length_cons, List.length_nil]
      omega
    have hm : i * M ≤ 1000000 * 1000030 := Nat.mul_le_mul (by omega) hM2
    refine pos (by rw [z1, z2]; omega) ?_
    have e : wrap64 ((i : Int) + 1) = ((i + 1 : Nat) : Int) := by rw [w64 (by omega) (by omega)]; rfl
    rw [S_app, e]
    have hle : (acc ++ putL (L l[i])).length ≤ (i + 1) * M := by
      rw [List.length_append, Nat.succ_mul]
      exact Nat.add_le_add ha z3
    have := ih (i + 1) (acc ++ putL (L l[i])) hil hi2 hle
    rw [List.drop_eq_getElem_cons hil]
    rw [List.append_assoc] at this
    exact this
theorem refrow_ev (l : List ByteArray) (N : Nat) (h : ∀ x ∈ l, x.size ≤ N) (hN : N ≤ 1000000) (hl : l.length ≤ 1000000) : Ev (fun k => bulletinref01_Row.f k l) (S (rowL (l.map L))) := by
  unfold bulletinref01_Row.f
  have := refrow_l0 l N h hN hl 1000030 (by omega) (by omega) l.length 0 [] (by omega) (by omega) (by simp)
  rw [List.nil_append, List.drop_zero] at this
  exact this
end Go.Proofs.Ytpkmbbmipoecpaa.Nets
