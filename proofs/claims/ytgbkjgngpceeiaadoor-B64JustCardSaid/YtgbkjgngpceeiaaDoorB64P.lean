/- What the printed functions of package b64 and of its reference tell, as functions on lists of bytes. -/
import Derived.Test.YtgbkjgngpceeiaaDoorX
import Derived.Test.YtgbkjgngpceeiaaDoorB64L
namespace Go.Proofs.YtgbkjgngpceeiaaDoor.B64
open Go.RowKit Go.Proofs.YtgbkjgngpceeiaaDoor.X Go.Proofs.YtgbkjgngpceeiaaDoorW.PrintWords Go.Proofs.YtgbkjgngpceeiaaDoorW.PrintLast Go.Proofs.YtgbkjgngpceeiaaDoorW.PrintMore Go.Proofs.YtgbkjgngpceeiaaDoor.Aid
set_option linter.unusedVariables false
set_option linter.unusedSimpArgs false

/-! ### numbers -/
theorem w62 (n : Int) (h₀ : 0 ≤ n) (h₁ : n < 2 ^ 62) : IntKind.i64.wrap n = n := by rw [IntKind.wrap_i64]; omega
theorem or64 (h v : Nat) (hh : h < 65536) (hv : v < 64) : Go.bits .or .i64 (wrap64 ((h : Int) * 64)) (v : Int) = ((h * 64 + v : Nat) : Int) := by
  rw [w64 (by omega) (by omega), bits_join .i64 62 (by decide) w62 6 _ _ (by omega) (by omega) (by omega) (by omega) (by omega) (by omega)]
  omega
theorem mask (x : Nat) (hx : x < 65536) (i : Nat) (hi : i ≤ 8) : Go.bits .and .i64 (x : Int) (2 ^ i - 1) = ((x % 2 ^ i : Nat) : Int) := by
  rw [bits_mask .i64 62 (by decide) w62 i (by omega) _ (by omega) (by omega)]
  simp
theorem q_let : ∀ n : Nat, n < 64 → b64_q (n : Int) = (let64 n : Int) := by decide +kernel
theorem idx_let : ∀ c : Nat, c < 256 → Lib.indexByte [65, 66, 67, 68, 69, 70, 71, 72, 73, 74, 75, 76, 77, 78, 79, 80, 81, 82, 83, 84, 85, 86, 87, 88, 89, 90, 97, 98, 99, 100, 101, 102, 103, 104, 105, 106, 107, 108, 109, 110, 111, 112, 113, 114, 115, 116, 117, 118, 119, 120, 121, 122, 48, 49, 50, 51, 52, 53, 54, 55, 56, 57, 43, 47] c.toUInt8 = (match val64 c with | some n => (n : Int) | none => -1) := by decide +kernel

/-! ### groups -/
theorem nums1 (a : Nat) : UInt8.ofNat ((a : Int)).toNat = B a := rfl
theorem short3 (l : List UInt8) (h1 : 1 ≤ l.length) (h3 : l.length ≤ 3) : (∃ a, l = [a]) ∨ (∃ a b, l = [a, b]) ∨ (∃ a b c, l = [a, b, c]) := by
  match l, h1, h3 with
  | [a], _, _ => exact Or.inl ⟨a, rfl⟩
  | [a, b], _, _ => exact Or.inr (Or.inl ⟨a, b, rfl⟩)
  | [a, b, c], _, _ => exact Or.inr (Or.inr ⟨a, b, c, rfl⟩)
theorem group_ev (s : ByteArray) (h1 : 1 ≤ (L s).length) (h3 : (L s).length ≤ 3) : b64_group.f s = some (S (encL (L s))) := by
  have b0 := btd s 0; have b1 := btd s 1; have b2 := btd s 2
  have q : ∀ (x : Int) (n : Nat), x = (n : Int) → n < 64 → b64_q x = (let64 n : Int) := by
    intro x n e h; rw [e]; exact q_let n h
  have key : ∀ l : List UInt8, 1 ≤ l.length → l.length ≤ 3 → ∀ N : Int, N = ((l.getD 0 0).toNat : Int) * 65536 + ((l.getD 1 0).toNat : Int) * 256 + ((l.getD 2 0).toNat : Int) →
      (([b64_q (N / 262144 % 64), b64_q (N / 4096 % 64), b64_q (N / 64 % 64), b64_q (N % 64)].take (l.length + 1)).map fun x => UInt8.ofNat x.toNat) ++ Lib.repeatL [61] (3 - l.length) = encL l := by
    intro l h1 h3 N hN
    rcases short3 l h1 h3 with ⟨a, rfl⟩ | ⟨a, b, rfl⟩ | ⟨a, b, c, rfl⟩
    ·
      have ha := lt256 a
      simp only [List.getD_cons_zero, List.getD_cons_succ, List.getD_nil] at hN
      have h0 : ((0 : UInt8).toNat : Int) = 0 := rfl
      rw [h0] at hN
      rw [q (N / 262144 % 64) (a.toNat / 4) (by omega) (by omega), q (N / 4096 % 64) (a.toNat % 4 * 16) (by omega) (by omega)]
      rfl
    ·
      have ha := lt256 a; have hb := lt256 b
      simp only [List.getD_cons_zero, List.getD_cons_succ, List.getD_nil] at hN
      have h0 : ((0 : UInt8).toNat : Int) = 0 := rfl
      rw [h0] at hN
      rw [q (N / 262144 % 64) (a.toNat / 4) (by omega) (by omega), q (N / 4096 % 64) (a.toNat % 4 * 16 + b.toNat / 16) (by omega) (by omega), q (N / 64 % 64) (b.toNat % 16 * 4) (by omega) (by omega)]
      rfl
    ·
      have ha := lt256 a; have hb := lt256 b; have hc := lt256 c
      simp only [List.getD_cons_zero, List.getD_cons_succ, List.getD_nil] at hN
      rw [q (N / 262144 % 64) (a.toNat / 4) (by omega) (by omega), q (N / 4096 % 64) (a.toNat % 4 * 16 + b.toNat / 16) (by omega) (by omega), q (N / 64 % 64) (b.toNat % 16 * 4 + c.toNat / 64) (by omega) (by omega), q (N % 64) (c.toNat % 64) (by omega) (by omega)]
      rfl
  unfold b64_group.f
  rw [if_pos (by rw [sz]; omega)]
  have hn : b64_nv s 3 = (((L s).getD 0 0).toNat : Int) * 65536 + (((L s).getD 1 0).toNat : Int) * 256 + (((L s).getD 2 0).toNat : Int) := by
    have e : b64_nv s 3 = ((0 * 256 + bt s ((0 : Nat) : Int)) * 256 + bt s ((1 : Nat) : Int)) * 256 + bt s ((2 : Nat) : Int) := rfl
    rw [e, b0, b1, b2]
    omega
  have k := key (L s) h1 h3 _ hn
  congr 1
  apply L_inj
  rw [L_app, L_nums, L_S, L_lit, sz]
  exact k
theorem enc_cut (l : List UInt8) (h : 3 ≤ l.length) : encL l = encL (l.take 3) ++ encL (l.drop 3) := by
  match l, h with
  | a :: b :: c :: r, _ => simp [encL, sext, pads]
theorem plain_l0 (n : Nat) : ∀ (s : ByteArray) (acc : List UInt8), (L s).length ≤ n → acc.length + 4 * n + 4 ≤ 140737488355328 → Ev (fun k => b64_Plain.l0 k s (S acc)) (S (acc ++ encL (L s))) := by
  induction n using Nat.strongRecOn with
  | _ n ih =>
    intro s acc hl hq
    refine up ?_
    simp only [b64_Plain.l0]
    by_cases h0 : s.size = 0
    · refine pos h0 (now' ?_)
      rw [sz] at h0
      rw [List.length_eq_zero_iff.1 h0]
      simp [encL, sext, pads]
    · refine neg h0 ?_
      rw [sz] at h0
      by_cases h3 : (L s).length < 3
      · have hm : min 3 s.size = s.size := by rw [sz]; omega
        rw [hm, bld_all, bld_none]
        refine cbind (group_ev s (by omega) (by omega)) ?_
        have hel := (enc_len (L s)).1
        have z1 : (S acc).size = acc.length := by rw [sz, L_S]
        have z2 : (S (encL (L s))).size = (encL (L s)).length := by rw [sz, L_S]
        refine pos (by omega) ?_
        rw [S_app]
        refine up ?_
        simp only [b64_Plain.l0]
        exact pos rfl (Ev.now _)
      · have hm : min 3 s.size = 3 := by rw [sz]; omega
        rw [hm]
        have e1 : L (s.extract 0 3) = (L s).take 3 := L_from_start s 3
        have e2 : L (s.extract 3 s.size) = (L s).drop 3 := L_to_end s 3
        have l1 : (L (s.extract 0 3)).length = 3 := by rw [e1, List.length_take]; omega
        refine cbind (group_ev (s.extract 0 3) (by omega) (by omega)) ?_
        have hel : (encL (L (s.extract 0 3))).length = 4 := by
          generalize L (s.extract 0 3) = q at l1
          match q, l1 with
          | [a, b, c], _ => rfl
        have z1 : (S acc).size = acc.length := by rw [sz, L_S]
        have z2 : (S (encL (L (s.extract 0 3)))).size = 4 := by rw [sz, L_S, hel]
        refine pos (by omega) ?_
        rw [S_app]
        have := ih (n - 3) (by omega) (s.extract 3 s.size) (acc ++ encL (L (s.extract 0 3))) (by rw [e2, List.length_drop]; omega) (by rw [List.length_append, hel]; omega)
        rw [List.append_assoc, e2] at this
        rw [enc_cut (L s) (by omega), ← e1]
        exact this
theorem plain_ev (s : ByteArray) (h : (L s).length ≤ 1000000000) : Ev (fun k => b64_Plain.f k s) (S (encL (L s))) := by
  have := plain_l0 (L s).length s [] (Nat.le_refl _) (by simp; omega)
  rw [List.nil_append] at this
  exact this
theorem encode_l0 (n : Nat) : ∀ (s : ByteArray) (acc : List UInt8), (L s).length ≤ n → acc.length + 3 * (L s).length ≤ 100000000000 → Ev (fun k => b64_Encode.l0 k s (S acc)) (S (acc ++ linesL n (L s))) := by
  induction n with
  | zero =>
    intro s acc hl hq
    refine up ?_
    simp only [b64_Encode.l0]
    refine pos (by rw [sz]; omega) (now' ?_)
    simp [linesL]
  | succ n ih =>
    intro s acc hl hq
    refine up ?_
    simp only [b64_Encode.l0]
    by_cases h0 : s.size = 0
    · refine pos h0 (now' ?_)
      rw [sz] at h0
      rw [List.length_eq_zero_iff.1 h0]
      simp [linesL]
    · refine neg h0 ?_
      rw [sz] at h0
      have hne : L s ≠ [] := fun e => h0 (by rw [e]; rfl)
      have z1 : (S acc).size = acc.length := by rw [sz, L_S]
      refine pos (by rw [z1, sz]; omega) ?_
      have e1 : L (s.extract 0 (min 76 s.size)) = (L s).take 76 := by
        rw [L_from_start, sz]
        by_cases h : (L s).length ≤ 76
        · rw [Nat.min_eq_right h, List.take_length, List.take_of_length_le h]
        · rw [Nat.min_eq_left (by omega)]
      have e2 : L (s.extract (min 76 s.size) s.size) = (L s).drop 76 := by
        rw [L_to_end, sz]
        by_cases h : (L s).length ≤ 76
        · rw [Nat.min_eq_right h, List.drop_length, List.drop_eq_nil_of_le h]
        · rw [Nat.min_eq_left (by omega)]
      have e3 : S acc ++ (s.extract 0 (min 76 s.size) ++ ⟨#[13, 10]⟩) = S (acc ++ ((L s).take 76 ++ [13, 10])) := by
        apply L_inj
        rw [L_app, L_app, L_S, L_S, e1]
        rfl
      rw [e3]
      have hd : ((L s).drop 76).length ≤ n := by rw [List.length_drop]; omega
      have := ih (s.extract (min 76 s.size) s.size) (acc ++ ((L s).take 76 ++ [13, 10])) (by rw [e2]; exact hd) (by
        rw [e2]
        simp only [List.length_append, List.length_take, List.length_cons, List.length_nil, List.length_drop]
        omega)
      rw [e2] at this
      simp only [linesL, if_neg hne]
      rw [List.append_assoc] at this
      exact this
theorem encode_ev (s : ByteArray) (h : (L s).length ≤ 1000000000) : Ev (fun k => b64_Encode.f k s) (S (linesL (encL (L s)).length (encL (L s)))) := by
  unfold b64_Encode.f
  refine Ev.bind (plain_ev s h) ?_
  have hel := (enc_len (L s)).1
  have := encode_l0 (encL (L s)).length (S (encL (L s))) [] (by rw [L_S]; exact Nat.le_refl _) (by rw [L_S]; simp; omega)
  rw [L_S, List.nil_append] at this
  exact this

/-! ### bare -/
def ints (l : List UInt8) : List Int := l.map (fun c => (c.toNat : Int))
theorem nums_ints (l : List UInt8) : strOfNums (ints l) = S l := by
  rw [nums_eq]
  unfold ints
  rw [List.map_map]
  congr 1
  rw [show ((fun x : Int => UInt8.ofNat x.toNat) ∘ fun c : UInt8 => (c.toNat : Int)) = id from by funext c; simp]
  simp
theorem white_eq (c : UInt8) : b64_white.f (c.toNat : Int) = some (white c) := by
  unfold b64_white.f white
  by_cases h1 : c = 32
  · subst h1; rfl
  by_cases h2 : c = 9
  · subst h2; rfl
  by_cases h3 : c = 13
  · subst h3; rfl
  have n1 : ¬ (c.toNat : Int) = 32 := fun e => h1 (u8i (d := 32) e)
  have n2 : ¬ (c.toNat : Int) = 9 := fun e => h2 (u8i (d := 9) e)
  have n3 : ¬ (c.toNat : Int) = 13 := fun e => h3 (u8i (d := 13) e)
  rw [if_neg n1, if_neg n2, if_neg n3]
  have e1 : (c == 32) = false := by simpa using h1
  have e2 : (c == 9) = false := by simpa using h2
  have e3 : (c == 13) = false := by simpa using h3
  rw [e1, e2, e3]
  congr 1
  by_cases h4 : c = 10
  · subst h4; rfl
  · have e4 : (c == 10) = false := by simpa using h4
    rw [e4]
    simp only [Bool.or_self]
    rw [beq_eq_false_iff_ne]
    exact fun e => h4 (u8i (d := 10) e)
theorem bare_l0 (s : ByteArray) (hs : (L s).length ≤ 1000000000) (d : Nat) : ∀ (i : Nat) (acc : List UInt8), i ≤ (L s).length → (L s).length - i = d → acc.length ≤ i →
    Ev (fun k => b64_bare.l0 k s (ints acc) (s.size : Int) (i : Int)) (S (acc ++ bare ((L s).drop i))) := by
  induction d with
  | zero =>
    intro i acc hi hd _
    refine up ?_
    simp only [b64_bare.l0]
    refine neg (by rw [sz]; omega) (now' ?_)
    rw [nums_ints, List.drop_eq_nil_of_le (by omega)]
    simp [bare]
  | succ d ih =>
    intro i acc hi hd ha
    have hil : i < (L s).length := by omega
    refine up ?_
    simp only [b64_bare.l0]
    refine pos (by rw [sz]; omega) (pos (by omega) (pos (by rw [sz]; omega) ?_))
    rw [btn s i hil]
    refine cbind (white_eq _) ?_
    rw [wi i (by omega)]
    by_cases hw : white (L s)[i] = true
    · refine pos hw ?_
      have := ih (i + 1) acc (by omega) (by omega) (by omega)
      have e : bare ((L s).drop i) = bare ((L s).drop (i + 1)) := by
        rw [List.drop_eq_getElem_cons hil]
        simp only [bare, List.filter_cons, hw, Bool.not_true, Bool.false_eq_true, if_false]
      rw [e]
      exact this
    · refine neg hw (pos (by unfold ints; rw [List.length_map]; omega) ?_)
      have := ih (i + 1) (acc ++ [(L s)[i]]) (by omega) (by omega) (by simp; omega)
      have e : ints (acc ++ [(L s)[i]]) = ints acc ++ [((L s)[i].toNat : Int)] := by simp [ints]
      rw [e] at this
      have e2 : bare ((L s).drop i) = (L s)[i] :: bare ((L s).drop (i + 1)) := by
        rw [List.drop_eq_getElem_cons hil]
        have hw' : white (L s)[i] = false := by simpa using hw
        simp only [bare, List.filter_cons, hw', Bool.not_false, if_true]
      rw [e2]
      rw [List.append_assoc] at this
      exact this
theorem bare_ev (s : ByteArray) (hs : (L s).length ≤ 1000000000) : Ev (fun k => b64_bare.f k s) (S (bare (L s))) := by
  unfold b64_bare.f
  have := bare_l0 s hs (L s).length 0 [] (by omega) (by omega) (by simp)
  simpa [ints] using this

/-! ### Decode -/
theorem enc_form {t : List UInt8} {x : List UInt8} (h : encL x = t) : ∀ c ∈ t, val64 c.toNat = none → c = 61 := by
  intro c hc hv
  rw [← h] at hc
  unfold encL at hc
  rw [List.mem_append] at hc
  rcases hc with hc | hc
  · obtain ⟨n, hn, rfl⟩ := List.mem_map.1 hc
    have h1 := sext_lt x n hn
    have h2 := let64_lt n h1
    rw [B_toNat (by omega), val_let n h1] at hv
    cases hv
  · exact pads_61 x c hc
/-- the letters ahead of the last signs that are pads -/
def trim (t : List UInt8) : List UInt8 := Lib.trimRightS t [61]
theorem trim_pre (t : List UInt8) : ∃ p : List UInt8, t = trim t ++ p ∧ (∀ c ∈ p, c = 61) ∧ (trim t).length ≤ t.length := by
  unfold trim Lib.trimRightS
  have h : t.reverse = t.reverse.takeWhile (([61] : List UInt8).contains ·) ++ t.reverse.dropWhile (([61] : List UInt8).contains ·) := (List.takeWhile_append_dropWhile).symm
  refine ⟨(t.reverse.takeWhile (([61] : List UInt8).contains ·)).reverse, ?_, ?_, ?_⟩
  · have := congrArg List.reverse h
    rw [List.reverse_reverse, List.reverse_append] at this
    exact this
  · intro c hc
    rw [List.mem_reverse] at hc
    have := List.all_takeWhile (l := t.reverse) (p := (([61] : List UInt8).contains ·))
    have := List.all_eq_true.1 this c hc
    simpa using this
  · have := congrArg List.length h
    rw [List.length_append, List.length_reverse] at this
    rw [List.length_reverse]
    omega
theorem trim_take (t : List UInt8) : t.take (trim t).length = trim t := by
  obtain ⟨p, h1, _, _⟩ := trim_pre t
  have := congrArg (List.take (trim t).length) h1
  rw [List.take_append_of_le_length (Nat.le_refl _), List.take_length] at this
  exact this
theorem vals_trim (t : List UInt8) : vals (trim t) = vals t := by
  obtain ⟨p, h1, h2, _⟩ := trim_pre t
  conv => rhs; rw [h1]
  unfold vals
  rw [List.filterMap_append]
  have : List.filterMap (fun c : UInt8 => val64 c.toNat) p = [] := by
    rw [List.filterMap_eq_nil_iff]
    intro c hc
    rw [h2 c hc]
    rfl
  rw [this, List.append_nil]
/-- where a sign among the letters is none, no bytes have them -/
theorem dec_bad {t : List UInt8} (c : UInt8) (hc : c ∈ trim t) (hv : val64 c.toNat = none) : decL t = ([], false) := by
  unfold decL
  rw [if_neg]
  intro e
  -- t = letters, then pads: what is trimmed has no pad at its end
  have h61 : c = 61 := enc_form e c (by
    obtain ⟨p, h1, _, _⟩ := trim_pre t
    rw [h1]; exact List.mem_append_left _ hc) hv
  subst h61
  have hdrop : trim t = (sext (run 0 0 (vals t))).map (fun n => B (let64 n)) := by
    have hx : t = (sext (run 0 0 (vals t))).map (fun n => B (let64 n)) ++ pads (run 0 0 (vals t)) := e.symm
    generalize run 0 0 (vals t) = x at hx
    have hp := pads_61 x
    have hnl : ∀ z ∈ (sext x).map (fun n => B (let64 n)), z ≠ 61 := by
      intro z hz
      obtain ⟨n, hn, rfl⟩ := List.mem_map.1 hz
      have h1 := sext_lt x n hn
      have h2 := let64_lt n h1
      intro e2
      have := congrArg UInt8.toNat e2
      rw [B_toNat (by omega)] at this
      exact (let64_ne n h1).1 this
    unfold trim Lib.trimRightS
    rw [hx, List.reverse_append]
    generalize pads x = p at hp
    generalize (sext x).map (fun n => B (let64 n)) = q at hnl
    clear hx
    have hp' : ∀ c ∈ p.reverse, c = 61 := fun c hc => hp c (List.mem_reverse.1 hc)
    generalize p.reverse = p' at hp'
    have h1 : (p' ++ q.reverse).dropWhile (([61] : List UInt8).contains ·) = q.reverse.dropWhile (([61] : List UInt8).contains ·) := by
      clear hp
      induction p' with
      | nil => rfl
      | cons y ys ih =>
        obtain rfl := hp' y (by simp)
        simp only [List.cons_append, List.dropWhile_cons]
        rw [if_pos (by decide)]
        exact ih (fun c hc => hp' c (by simp [hc]))
    rw [h1]
    have h2 : q.reverse.dropWhile (([61] : List UInt8).contains ·) = q.reverse := by
      cases hq : q.reverse with
      | nil => rfl
      | cons y ys =>
        have : y ≠ 61 := hnl y (by rw [← List.mem_reverse, hq]; simp)
        simp only [List.dropWhile_cons]
        rw [if_neg (by simpa using this)]
    rw [h2, List.reverse_reverse]
  rw [hdrop] at hc
  obtain ⟨n, hn, h2⟩ := List.mem_map.1 hc
  have h1 := sext_lt _ n hn
  have h3 := let64_lt n h1
  have := congrArg UInt8.toNat h2
  rw [B_toNat (by omega)] at this
  exact (let64_ne n h1).1 this
/-- what Decode tells of bare letters -/
def decT (t : List UInt8) : ByteArray × Int := (S (decL t).1, if (decL t).2 = true then 0 else 3)
theorem fin_ev (t : ByteArray) (out : List UInt8) (ho : out.length ≤ 1000000000) (hd : decL (L t) = if encL out = L t then (out, true) else ([], false)) :
    Ev (fun k => (b64_Plain.f k (strOfNums (ints out))).bind fun q => (if q.toList = t.toList then (some (strOfNums (ints out), (0 : Int))) else (some ((⟨#[]⟩ : ByteArray), 3)))) (decT (L t)) := by
  rw [nums_ints]
  refine Ev.bind (plain_ev (S out) (by rw [L_S]; exact ho)) ?_
  rw [L_S]
  unfold decT
  rw [hd]
  by_cases h : encL out = L t
  · rw [if_pos h, h, S_L]
    exact pos (by rfl) (now' (by simp))
  · rw [if_neg h]
    refine neg ?_ (now' (by simp [S]))
    rw [tl, tl, L_S]
    exact h
def okN (n : Nat) : Prop := n = 0 ∨ n = 2 ∨ n = 4 ∨ n = 6
theorem step_ok (h n v : Nat) (hn : okN n) (hh : h < 2 ^ n) (hv : v < 64) : okN (step h n v).2.1 ∧ (step h n v).1 < 2 ^ (step h n v).2.1 := by
  by_cases h8 : n + 6 < 8
  · have e : step h n v = (h * 64 + v, n + 6, []) := by unfold step; rw [if_pos h8]
    rw [e]
    have hn0 : n = 0 := by unfold okN at hn; omega
    subst hn0
    exact ⟨Or.inr (Or.inr (Or.inr rfl)), by show h * 64 + v < 64; omega⟩
  · have e : step h n v = ((h * 64 + v) % 2 ^ (n - 2), n - 2, [B ((h * 64 + v) / 2 ^ (n - 2))]) := by unfold step; rw [if_neg h8]
    rw [e]
    exact ⟨by unfold okN at hn ⊢; show n - 2 = 0 ∨ n - 2 = 2 ∨ n - 2 = 4 ∨ n - 2 = 6; omega, Nat.mod_lt _ (Nat.two_pow_pos _)⟩
theorem shl1 (m : Nat) (hm : m = 0 ∨ m = 2 ∨ m = 4) : wrap64 (shl .i64 1 (m : Int) - 1) = 2 ^ m - 1 := by
  rcases hm with rfl | rfl | rfl
  · have : shl .i64 1 ((0 : Nat) : Int) = 1 := by unfold shl; rw [IntKind.wrap_i64]; rfl
    rw [this, w64 (by omega) (by omega)]; rfl
  · have : shl .i64 1 ((2 : Nat) : Int) = 4 := by unfold shl; rw [IntKind.wrap_i64]; rfl
    rw [this, w64 (by omega) (by omega)]; rfl
  · have : shl .i64 1 ((4 : Nat) : Int) = 16 := by unfold shl; rw [IntKind.wrap_i64]; rfl
    rw [this, w64 (by omega) (by omega)]; rfl
theorem shrn (x m : Nat) (hm : m = 0 ∨ m = 2 ∨ m = 4) (hx : x < 65536) : (shr .i64 (x : Int) (m : Int)) % 256 = (((B (x / 2 ^ m)).toNat : Nat) : Int) := by
  have e : ∀ y : Nat, (((B y).toNat : Nat) : Int) = ((y % 256 : Nat) : Int) := fun y => by simp [B]
  rw [e]
  rcases hm with rfl | rfl | rfl
  · have : shr .i64 (x : Int) ((0 : Nat) : Int) = (x : Int) / 1 := rfl
    rw [this, show 2 ^ 0 = 1 from rfl]; omega
  · have : shr .i64 (x : Int) ((2 : Nat) : Int) = (x : Int) / 4 := rfl
    rw [this, show 2 ^ 2 = 4 from rfl]; omega
  · have : shr .i64 (x : Int) ((4 : Nat) : Int) = (x : Int) / 16 := rfl
    rw [this, show 2 ^ 4 = 16 from rfl]; omega
theorem dec_l0 (t : ByteArray) (ht : (L t).length ≤ 100000000) (m : Nat) (hm : m ≤ (L t).length) (hT : (L t).take m = trim (L t)) (d : Nat) : ∀ (i h n : Nat) (acc : List UInt8), i ≤ m → m - i = d → okN n → h < 2 ^ n → acc.length ≤ i →
    acc ++ run h n (vals (((L t).take m).drop i)) = run 0 0 (vals (L t)) →
    Ev (fun k => b64_Decode.l0 k t (ints acc) (h : Int) (n : Int) (m : Int) (i : Int)) (decT (L t)) := by
  induction d with
  | zero =>
    intro i h n acc hi hd hn hh ha hr
    refine up ?_
    simp only [b64_Decode.l0]
    refine neg (by omega) ?_
    rw [List.drop_eq_nil_of_le (by rw [List.length_take]; omega)] at hr
    simp only [vals, List.filterMap_nil, run, List.append_nil] at hr
    refine fin_ev t acc (by omega) ?_
    unfold decL
    rw [hr]
    rfl
  | succ d ih =>
    intro i h n acc hi hd hn hh ha hr
    have hil : i < (L t).length := by omega
    have hit : i < ((L t).take m).length := by rw [List.length_take]; omega
    refine up ?_
    simp only [b64_Decode.l0]
    refine pos (by omega) (pos (by omega) (pos (by rw [sz]; omega) ?_))
    rw [btn t i hil]
    have hc := lt256 (L t)[i]
    have hx : strings_IndexByte.f (⟨#[65, 66, 67, 68, 69, 70, 71, 72, 73, 74, 75, 76, 77, 78, 79, 80, 81, 82, 83, 84, 85, 86, 87, 88, 89, 90, 97, 98, 99, 100, 101, 102, 103, 104, 105, 106, 107, 108, 109, 110, 111, 112, 113, 114, 115, 116, 117, 118, 119, 120, 121, 122, 48, 49, 50, 51, 52, 53, 54, 55, 56, 57, 43, 47]⟩ : ByteArray) ((L t)[i].toNat : Int) = some (match val64 (L t)[i].toNat with | some n => (n : Int) | none => -1) := by
      unfold strings_IndexByte.f
      rw [Int.toNat_natCast]
      exact congrArg some (idx_let _ hc)
    refine cbind hx ?_
    have hge : ((L t).take m)[i] = (L t)[i] := List.getElem_take
    rw [List.drop_eq_getElem_cons hit, hge] at hr
    rw [wi i (by omega)]
    cases hv : val64 (L t)[i].toNat with
    | none =>
      refine pos (by simp) (now' ?_)
      have hmem : (L t)[i] ∈ trim (L t) := by rw [← hT, ← hge]; exact List.getElem_mem hit
      unfold decT
      rw [dec_bad _ hmem hv]
      rfl
    | some v =>
      obtain ⟨hv64, _⟩ := val_some hv
      simp only [vals, List.filterMap_cons, hv] at hr
      refine neg (by simp) ?_
      have hh2 : h < 65536 := by rcases hn with rfl | rfl | rfl | rfl <;> omega
      obtain ⟨s1, s2⟩ := step_ok h n v hn hh hv64
      simp only [run] at hr
      rw [← List.append_assoc] at hr
      simp only [or64 h v hh2 hv64]
      have hnn : wrap64 ((n : Int) + 6) = ((n + 6 : Nat) : Int) := by
        rcases hn with rfl | rfl | rfl | rfl <;> (rw [w64 (by omega) (by omega)]; rfl)
      rw [hnn]
      by_cases h8 : n + 6 < 8
      · refine neg (by omega) ?_
        have e : step h n v = (h * 64 + v, n + 6, []) := by unfold step; rw [if_pos h8]
        rw [e] at s1 s2 hr
        simp only [List.append_nil] at hr
        exact ih (i + 1) _ _ acc (by omega) (by omega) s1 s2 (by omega) hr
      · have e : step h n v = ((h * 64 + v) % 2 ^ (n - 2), n - 2, [B ((h * 64 + v) / 2 ^ (n - 2))]) := by unfold step; rw [if_neg h8]
        rw [e] at s1 s2 hr
        refine pos (by omega) ?_
        have hx3 : h * 64 + v < 65536 := by
          rcases hn with rfl | rfl | rfl | rfl <;> omega
        have hm2 : n - 2 = 0 ∨ n - 2 = 2 ∨ n - 2 = 4 := by unfold okN at hn; omega
        have k1 : wrap64 (((n + 6 : Nat) : Int) - 8) = ((n - 2 : Nat) : Int) := by rw [w64 (by omega) (by omega)]; omega
        rw [k1, shrn _ _ hm2 hx3, shl1 _ hm2, mask _ hx3 (n - 2) (by omega)]
        clear k1 hnn
        refine pos (by omega) (pos (by unfold ints; rw [List.length_map]; omega) ?_)
        have := ih (i + 1) _ _ (acc ++ [B ((h * 64 + v) / 2 ^ (n - 2))]) (by omega) (by omega) s1 s2 (by simp; omega) hr
        have e5 : ints (acc ++ [B ((h * 64 + v) / 2 ^ (n - 2))]) = ints acc ++ [((B ((h * 64 + v) / 2 ^ (n - 2))).toNat : Int)] := by simp [ints]
        rw [e5] at this
        exact this
theorem decode_ev (s : ByteArray) (hs : (L s).length ≤ 100000000) : Ev (fun k => b64_Decode.f k s) (decT (bare (L s))) := by
  unfold b64_Decode.f
  refine Ev.bind (bare_ev s (by omega)) ?_
  have hbl : (bare (L s)).length ≤ (L s).length := by unfold bare; exact List.length_filter_le _ _
  have htr : strings_TrimRight.f (S (bare (L s))) (⟨#[61]⟩ : ByteArray) = some (S (trim (bare (L s)))) := by
    unfold strings_TrimRight.f
    rw [if_pos ⟨by rw [sz, L_S]; omega, Nat.le_of_ble_eq_true rfl, rfl⟩]
    congr 1
  refine cbind htr ?_
  obtain ⟨p, hp, _, hpl⟩ := trim_pre (bare (L s))
  have hz : (S (trim (bare (L s)))).size = (trim (bare (L s))).length := by rw [sz, L_S]
  rw [hz]
  have hT : (L (S (bare (L s)))).take (trim (bare (L s))).length = trim (L (S (bare (L s)))) := by
    rw [L_S]
    exact trim_take _
  have := dec_l0 (S (bare (L s))) (by rw [L_S]; omega) (trim (bare (L s))).length (by rw [L_S]; exact hpl) hT (trim (bare (L s))).length 0 0 0 [] (by omega) (by omega) (Or.inl rfl) (by omega) (by simp) (by
    rw [List.drop_zero, hT, L_S, vals_trim, List.nil_append])
  rw [L_S] at this
  exact this
end Go.Proofs.YtgbkjgngpceeiaaDoor.B64
