/- What the printed functions of package glyph and of its reference tell. -/
import Derived.Test.YtlkppogpoodjlaaDoorX
import Derived.Test.YtlkppogpoodjlaaDoorGlyphL
namespace Go.Proofs.YtlkppogpoodjlaaDoor.Glyph
open Go.RowKit Go.Proofs.YtlkppogpoodjlaaDoor.X Go.Proofs.YtlkppogpoodjlaaDoorW.PrintWords Go.Proofs.YtlkppogpoodjlaaDoorW.PrintLast Go.Proofs.YtlkppogpoodjlaaDoorW.PrintMore Go.Proofs.YtlkppogpoodjlaaDoor.Aid
open Go.Lib (decodeL decodeN encodeRune encodeRuneZ)
set_option linter.unusedVariables false
set_option linter.unusedSimpArgs false

theorem dec_at (s : ByteArray) (p : Nat) : Utf8.decode s p = decodeL ((L s).drop p) := by
  have h := Go.Lib.tail_decode s p 0
  rw [Nat.add_zero] at h
  rw [← h]
  unfold decodeL
  congr 1
  apply L_inj
  rw [L_to_end]
  exact (L_S _).symm
/-- a place in a text, and what stands from there on -/
structure At (s : ByteArray) (p : Nat) (l : List UInt8) : Prop where
  le : p ≤ (L s).length
  dr : (L s).drop p = l
theorem At.nil {s : ByteArray} {p : Nat} (h : At s p []) : p = (L s).length := by
  have := congrArg List.length h.dr
  rw [List.length_drop, List.length_nil] at this
  have := h.le
  omega
theorem At.lt {s : ByteArray} {p : Nat} {l : List UInt8} (h : At s p l) (hl : l ≠ []) : p < (L s).length := by
  have := congrArg List.length h.dr
  rw [List.length_drop] at this
  have := List.length_pos_iff.2 hl
  omega
theorem At.next {s : ByteArray} {p : Nat} {a t : List UInt8} (h : At s p (a ++ t)) : At s (p + a.length) t := by
  have h1 := congrArg List.length h.dr
  rw [List.length_drop, List.length_append] at h1
  have h2 := h.le
  refine ⟨by omega, ?_⟩
  rw [← List.drop_drop, h.dr, List.drop_left']
  rfl
theorem At.start (s : ByteArray) : At s 0 (L s) := ⟨Nat.zero_le _, rfl⟩
theorem At.take {s : ByteArray} {p : Nat} {a t : List UInt8} (h : At s p (a ++ t)) : (L s).take (p + a.length) = (L s).take p ++ a := by
  rw [List.take_add, h.dr, List.take_left']
  rfl
theorem At.pre {s : ByteArray} {p : Nat} {l : List UInt8} (h : At s p l) : (L s).take p ++ l = L s := by rw [← h.dr, List.take_append_drop]
theorem one_dec (l : List UInt8) (hl : l ≠ []) : (one l).2 = (decodeL l).2 := by
  rcases dec_cases l hl with ⟨v, t, hv, e, hd⟩ | ⟨hd, _⟩
  · rw [hd, e, one_good v hv]
  · unfold one; rw [hd]; rfl
theorem bad_eq {s : ByteArray} {p : Nat} {l : List UInt8} (h : At s p l) (hl : l ≠ []) : glyph_bad.f s (p : Int) ((Utf8.decode s p).1 : Int) = some (decide ((one l).1 = -1)) := by
  rw [dec_at, h.dr]
  unfold glyph_bad.f
  have hp := h.lt hl
  rcases dec_cases l hl with ⟨v, t, hv, e, hd⟩ | ⟨hd, hno⟩
  · have ho : (one l).1 = (v : Int) := by rw [e, one_good v hv]
    have hf : decide ((one l).1 = -1) = false := by rw [ho]; exact decide_eq_false (by omega)
    rw [hd, hf]
    dsimp only
    by_cases h3 : (v : Int) = 65533
    · rw [if_pos h3, if_pos (by omega), if_pos (by rw [sz]; omega)]
      have h3 : v = 65533 := by omega
      subst h3
      unfold utf8_DecodeRuneInString.f Go.Lib.decodeGo
      have hz : ¬ (s.extract ((p : Nat) : Int).toNat s.size).size = 0 := by
        rw [sz, L_to_end, List.length_drop]
        show ¬ (L s).length - p = 0
        omega
      rw [if_neg hz, dec_at, L_to_end]
      show some _ = _
      have e2 : (L s).drop ((p : Nat) : Int).toNat = l := h.dr
      rw [e2, List.drop_zero, hd]
      rfl
    · rw [if_neg h3]
  · have ho : (one l).1 = -1 := by unfold one; rw [hd]; rfl
    have hf : decide ((one l).1 = -1) = true := by rw [ho]; rfl
    rw [hd, hf]
    dsimp only
    rw [if_pos (by rfl), if_pos (by omega), if_pos (by rw [sz]; omega)]
    unfold utf8_DecodeRuneInString.f Go.Lib.decodeGo
    have hz : ¬ (s.extract ((p : Nat) : Int).toNat s.size).size = 0 := by
      rw [sz, L_to_end, List.length_drop]
      show ¬ (L s).length - p = 0
      omega
    rw [if_neg hz, dec_at, L_to_end]
    show some _ = _
    have e2 : (L s).drop ((p : Nat) : Int).toNat = l := h.dr
    rw [e2, List.drop_zero, hd]
    rfl
theorem dec_E {s : ByteArray} {p : Nat} {v : Nat} {t : List UInt8} (h : At s p (E v ++ t)) (hv : V v) : Utf8.decode s p = (v, (E v).length) := by
  rw [dec_at, h.dr, dec_good v hv]
theorem dec_B {s : ByteArray} {p : Nat} {c : UInt8} {t : List UInt8} (h : At s p (c :: t)) (ho : one (c :: t) = (-1, 1)) : Utf8.decode s p = (65533, 1) := by
  rw [dec_at, h.dr]
  rcases dec_cases (c :: t) (by simp) with ⟨v, u, hv, e, hd⟩ | ⟨hd, _⟩
  · rw [e, one_good v hv] at ho
    have := (Prod.mk.inj ho).1
    omega
  · exact hd
theorem At.tl {s : ByteArray} {p : Nat} {c : UInt8} {t : List UInt8} (h : At s p (c :: t)) : At s (p + 1) t := At.next (a := [c]) h
theorem E_app_ne {v : Nat} (hv : V v) (t : List UInt8) : E v ++ t ≠ [] := fun e => E_ne v hv (List.append_eq_nil_iff.1 e).1

/-! ### Valid, Count, Plain, Clip -/
def validL (l : List UInt8) : Bool := (sg l).all (fun x => decide (0 ≤ x.1))
theorem valid_l0 (s : ByteArray) : ∀ (l : List UInt8) (p : Nat), At s p l → Ev (fun k => glyph_Valid.l0 k s p) (validL l) := by
  refine sg_ind ?_ ?_ ?_
  · intro p h
    refine up ?_
    simp only [glyph_Valid.l0]
    exact neg (by rw [sz, h.nil]; omega) (Ev.now _)
  · intro v t hv ih p h
    refine up ?_
    simp only [glyph_Valid.l0]
    refine pos (by rw [sz]; exact h.lt (E_app_ne hv t)) (cbind (bad_eq h (E_app_ne hv t)) ?_)
    rw [one_good v hv, dec_E h hv]
    refine neg (by simp) ?_
    have e : validL (E v ++ t) = validL t := by
      unfold validL
      rw [sg_E v hv, List.all_cons]
      simp
    rw [e]
    exact ih _ h.next
  · intro c t ho hno ih p h
    refine up ?_
    simp only [glyph_Valid.l0]
    refine pos (by rw [sz]; exact h.lt (by simp)) (cbind (bad_eq h (by simp)) ?_)
    rw [ho]
    refine pos (by rfl) (now' ?_)
    unfold validL
    rw [sg_bad c t ho, List.all_cons]
    rfl
theorem valid_ev (s : ByteArray) : Ev (fun k => glyph_Valid.f k s) (validL (L s)) := valid_l0 s (L s) 0 (At.start s)
theorem count_l0 (s : ByteArray) (hs : (L s).length ≤ 1000000000) : ∀ (l : List UInt8) (p n : Nat), n ≤ p → At s p l → Ev (fun k => glyph_Count.l0 k s (n : Int) p) (((n + (sg l).length : Nat)) : Int) := by
  refine sg_ind ?_ ?_ ?_
  · intro p n _ h
    refine up ?_
    simp only [glyph_Count.l0]
    exact neg (by rw [sz, h.nil]; omega) (Ev.now _)
  · intro v t hv ih p n hn h
    have hp := h.lt (E_app_ne hv t)
    have := (E_len v hv).1
    refine up ?_
    simp only [glyph_Count.l0]
    refine pos (by rw [sz]; exact hp) ?_
    rw [dec_E h hv, wi n (by omega), sg_E v hv, List.length_cons, show n + ((sg t).length + 1) = n + 1 + (sg t).length from by omega]
    exact ih _ _ (by show n + 1 ≤ p + (E v).length; omega) h.next
  · intro c t ho hno ih p n hn h
    have hp := h.lt (by simp)
    refine up ?_
    simp only [glyph_Count.l0]
    refine pos (by rw [sz]; exact hp) ?_
    rw [dec_B h ho, wi n (by omega), sg_bad c t ho, List.length_cons, show n + ((sg t).length + 1) = n + 1 + (sg t).length from by omega]
    exact ih _ _ (by show n + 1 ≤ p + 1; omega) h.tl
theorem count_ev (s : ByteArray) (hs : (L s).length ≤ 1000000000) : Ev (fun k => glyph_Count.f k s) ((sg (L s)).length : Int) := by
  have := count_l0 s hs (L s) 0 0 (Nat.le_refl _) (At.start s)
  rw [Nat.zero_add] at this
  exact this
def plainL (l : List UInt8) : Bool := (sg l).all (fun x => decide (32 ≤ x.1 ∧ x.1 ≤ 126))
theorem plain_eq (v : Nat) : glyph_plain.f (v : Int) = some (decide (32 ≤ (v : Int) ∧ (v : Int) ≤ 126)) := by
  unfold glyph_plain.f
  by_cases h : (v : Int) ≥ 32
  · rw [if_pos h]
    congr 1
    rw [Bool.eq_iff_iff]
    simp only [decide_eq_true_eq]
    omega
  · rw [if_neg h]
    congr 1
    rw [decide_eq_false (by omega)]
theorem plain_l0 (s : ByteArray) : ∀ (l : List UInt8) (p : Nat), At s p l → Ev (fun k => glyph_Plain.l0 k s p) (plainL l) := by
  refine sg_ind ?_ ?_ ?_
  · intro p h
    refine up ?_
    simp only [glyph_Plain.l0]
    exact neg (by rw [sz, h.nil]; omega) (Ev.now _)
  · intro v t hv ih p h
    refine up ?_
    simp only [glyph_Plain.l0]
    refine pos (by rw [sz]; exact h.lt (E_app_ne hv t)) ?_
    rw [dec_E h hv]
    refine cbind (plain_eq v) ?_
    have e : plainL (E v ++ t) = (decide (32 ≤ (v : Int) ∧ (v : Int) ≤ 126) && plainL t) := by
      unfold plainL
      rw [sg_E v hv, List.all_cons]
    rw [e]
    by_cases hq : 32 ≤ (v : Int) ∧ (v : Int) ≤ 126
    · rw [decide_eq_true hq, Bool.true_and]
      exact pos (by rfl) (ih _ h.next)
    · rw [decide_eq_false hq]
      exact neg (by simp) (Ev.now _)
  · intro c t ho hno ih p h
    refine up ?_
    simp only [glyph_Plain.l0]
    refine pos (by rw [sz]; exact h.lt (by simp)) ?_
    rw [dec_B h ho]
    refine cbind (plain_eq 65533) ?_
    refine neg (by decide) (now' ?_)
    unfold plainL
    rw [sg_bad c t ho, List.all_cons]
    rfl
theorem plain_ev (s : ByteArray) : Ev (fun k => glyph_Plain.f k s) (plainL (L s)) := plain_l0 s (L s) 0 (At.start s)
/-- the first signs' bytes -/
def clipL (n : Nat) (l : List UInt8) : List UInt8 := ((sg l).take n).flatMap (·.2)
theorem clipL_zero (l : List UInt8) : clipL 0 l = [] := by simp [clipL]
theorem clipL_nil (n : Nat) : clipL n [] = [] := by simp [clipL, sg_nil]
theorem clipL_E (n v : Nat) (hv : V v) (t : List UInt8) : clipL (n + 1) (E v ++ t) = E v ++ clipL n t := by
  unfold clipL
  rw [sg_E v hv, List.take_succ_cons, List.flatMap_cons]
theorem clipL_B (n : Nat) (c : UInt8) (t : List UInt8) (ho : one (c :: t) = (-1, 1)) : clipL (n + 1) (c :: t) = c :: clipL n t := by
  unfold clipL
  rw [sg_bad c t ho, List.take_succ_cons, List.flatMap_cons]
  rfl
theorem clip_l0 (s : ByteArray) : ∀ (l : List UInt8) (p : Nat) (n : Int), -9223372036854775808 ≤ n → n ≤ 9223372036854775807 → At s p l → Ev (fun k => glyph_Clip.l0 k s n p) (S ((L s).take p ++ clipL n.toNat l)) := by
  refine sg_ind ?_ ?_ ?_
  · intro p n _ _ h
    refine up ?_
    simp only [glyph_Clip.l0]
    refine neg (by rw [sz, h.nil]; omega) (now' ?_)
    rw [clipL_nil, List.append_nil, h.nil, List.take_length, S_L]
  · intro v t hv ih p n hn0 hn1 h
    refine up ?_
    simp only [glyph_Clip.l0]
    refine pos (by rw [sz]; exact h.lt (E_app_ne hv t)) ?_
    by_cases hn : n ≤ 0
    · refine pos hn (now' ?_)
      rw [show n.toNat = 0 from by omega, clipL_zero, List.append_nil]
      apply L_inj
      rw [L_from_start, L_S]
    · refine neg hn ?_
      rw [dec_E h hv, w64 (by omega) (by omega)]
      obtain ⟨m, hm⟩ : ∃ m : Nat, n.toNat = m + 1 := ⟨n.toNat - 1, by omega⟩
      have := ih _ (n - 1) (by omega) (by omega) h.next
      rw [show (n - 1).toNat = m from by omega] at this
      rw [hm, clipL_E m v hv]
      have e : (L s).take (p + (E v).length) = (L s).take p ++ E v := h.take
      rw [e, List.append_assoc] at this
      exact this
  · intro c t ho hno ih p n hn0 hn1 h
    refine up ?_
    simp only [glyph_Clip.l0]
    refine pos (by rw [sz]; exact h.lt (by simp)) ?_
    by_cases hn : n ≤ 0
    · refine pos hn (now' ?_)
      rw [show n.toNat = 0 from by omega, clipL_zero, List.append_nil]
      apply L_inj
      rw [L_from_start, L_S]
    · refine neg hn ?_
      rw [dec_B h ho, w64 (by omega) (by omega)]
      obtain ⟨m, hm⟩ : ∃ m : Nat, n.toNat = m + 1 := ⟨n.toNat - 1, by omega⟩
      have := ih _ (n - 1) (by omega) (by omega) h.tl
      rw [show (n - 1).toNat = m from by omega] at this
      rw [hm, clipL_B m c t ho]
      have e : (L s).take (p + 1) = (L s).take p ++ [c] := At.take (a := [c]) h
      rw [e, List.append_assoc] at this
      exact this
theorem clip_ev (s : ByteArray) (n : Int) (hn0 : -9223372036854775808 ≤ n) (hn1 : n ≤ 9223372036854775807) : Ev (fun k => glyph_Clip.f k s n) (S (clipL n.toNat (L s))) := by
  have := clip_l0 s (L s) 0 n hn0 hn1 (At.start s)
  rw [List.take_zero, List.nil_append] at this
  exact this

/-! ### Fold, Clean, hex, Spell -/
def low (c : UInt8) : UInt8 := if 65 ≤ c.toNat ∧ c.toNat ≤ 90 then UInt8.ofNat (c.toNat + 32) else c
theorem low_eq (c : UInt8) : glyph_low (c.toNat : Int) = ((low c).toNat : Int) := by
  unfold glyph_low low
  have := UInt8.toNat_lt c
  by_cases h1 : 65 ≤ c.toNat
  · rw [if_pos (by omega)]
    by_cases h2 : c.toNat ≤ 90
    · rw [if_pos (by omega), if_pos ⟨h1, h2⟩]
      have : (UInt8.ofNat (c.toNat + 32)).toNat = c.toNat + 32 := by simp; omega
      rw [this]
      omega
    · rw [if_neg (by omega), if_neg (by omega)]
  · rw [if_neg (by omega), if_neg (by omega)]
theorem fold_l0 (s : ByteArray) (hs : (L s).length ≤ 1000000000) (d : Nat) : ∀ (i : Nat) (acc : List UInt8), i ≤ (L s).length → (L s).length - i = d → acc.length = i →
    Ev (fun k => glyph_Fold.l0 k s (acc.map (fun c => (c.toNat : Int))) i) (S (acc ++ ((L s).drop i).map low)) := by
  induction d with
  | zero =>
    intro i acc hi hd _
    refine up ?_
    simp only [glyph_Fold.l0]
    refine neg (by rw [sz]; omega) (now' ?_)
    rw [nums_eq, List.map_map, List.drop_eq_nil_of_le (by omega)]
    congr 1
    rw [show ((fun x : Int => UInt8.ofNat x.toNat) ∘ fun c : UInt8 => (c.toNat : Int)) = id from by funext c; simp]
    simp
  | succ d ih =>
    intro i acc hi hd ha
    have hil : i < (L s).length := by omega
    refine up ?_
    simp only [glyph_Fold.l0]
    refine pos (by rw [sz]; omega) (pos (by rw [List.length_map]; omega) ?_)
    rw [btn s i hil, low_eq]
    have := ih (i + 1) (acc ++ [low (L s)[i]]) (by omega) (by omega) (by simp; omega)
    rw [List.map_append, List.append_assoc] at this
    rw [List.drop_eq_getElem_cons hil, List.map_cons]
    exact this
def foldL (l : List UInt8) : List UInt8 := l.map low
theorem fold_ev (s : ByteArray) (hs : (L s).length ≤ 1000000000) : Ev (fun k => glyph_Fold.f k s) (S (foldL (L s))) := by
  have := fold_l0 s hs (L s).length 0 [] (by omega) (by omega) rfl
  rw [List.drop_zero, List.nil_append] at this
  exact this
def control (v : Int) : Bool := decide (v < 32) || (decide (127 ≤ v) && decide (v ≤ 159))
theorem control_eq (v : Int) : glyph_control.f v = some (control v) := by
  unfold glyph_control.f control
  by_cases h1 : v < 32
  · rw [if_pos h1, decide_eq_true h1]; rfl
  · rw [if_neg h1, decide_eq_false h1]
    by_cases h2 : v ≥ 127
    · rw [if_pos h2, decide_eq_true (show 127 ≤ v from h2)]; rfl
    · rw [if_neg h2, decide_eq_false (show ¬ 127 ≤ v from h2)]; rfl
/-- a sign, cleaned -/
def cl (x : Int) : Nat := if x < 0 then 65533 else if control x then 32 else x.toNat
def cleanL (l : List UInt8) : List UInt8 := (sg l).flatMap (fun x => E (cl x.1))
theorem clean_l0 (s : ByteArray) (hs : (L s).length ≤ 1000000000) : ∀ (l : List UInt8) (p : Nat) (acc : List UInt8), acc.length ≤ 4 * p → At s p l → Ev (fun k => glyph_Clean.l0 k s acc p) (S (acc ++ cleanL l)) := by
  refine sg_ind ?_ ?_ ?_
  · intro p acc _ h
    refine up ?_
    simp only [glyph_Clean.l0]
    refine neg (by rw [sz, h.nil]; omega) (now' ?_)
    simp [cleanL, sg_nil, S]
  · intro v t hv ih p acc ha h
    have hp := h.lt (E_app_ne hv t)
    have hl := (E_len v hv).1
    refine up ?_
    simp only [glyph_Clean.l0]
    refine pos (by rw [sz]; exact hp) (pos (by omega) ?_)
    rw [dec_E h hv]
    refine cbind (control_eq v) ?_
    have e : cleanL (E v ++ t) = E (cl v) ++ cleanL t := by
      unfold cleanL
      rw [sg_E v hv, List.flatMap_cons]
    rw [e, ← List.append_assoc]
    by_cases hc : control (v : Int) = true
    · refine pos hc ?_
      have e2 : cl (v : Int) = 32 := by unfold cl; rw [if_neg (by omega), if_pos hc]
      rw [e2]
      have : (E 32).length = 1 := rfl
      exact ih _ (acc ++ E 32) (by show _ ≤ 4 * (p + (E v).length); rw [List.length_append]; omega) h.next
    · refine neg hc ?_
      have e2 : cl (v : Int) = v := by unfold cl; rw [if_neg (by omega), if_neg hc]; omega
      rw [e2]
      have := (E_len v hv).2
      exact ih _ (acc ++ E v) (by show _ ≤ 4 * (p + (E v).length); rw [List.length_append]; omega) h.next
  · intro c t ho hno ih p acc ha h
    have hp := h.lt (by simp)
    refine up ?_
    simp only [glyph_Clean.l0]
    refine pos (by rw [sz]; exact hp) (pos (by omega) ?_)
    rw [dec_B h ho]
    refine cbind (control_eq 65533) (neg (by decide) ?_)
    have e : cleanL (c :: t) = E 65533 ++ cleanL t := by
      unfold cleanL
      rw [sg_bad c t ho, List.flatMap_cons]
      rfl
    rw [e, ← List.append_assoc]
    have : (E 65533).length = 3 := rfl
    exact ih _ (acc ++ E 65533) (by show _ ≤ 4 * (p + 1); rw [List.length_append]; omega) h.tl
theorem clean_ev (s : ByteArray) (hs : (L s).length ≤ 1000000000) : Ev (fun k => glyph_Clean.f k s) (S (cleanL (L s))) := by
  have := clean_l0 s hs (L s) 0 [] (by simp) (At.start s)
  rw [List.nil_append] at this
  exact this
/-- a digit's letter -/
def hexd (n : Nat) : UInt8 := UInt8.ofNat (if n < 10 then 48 + n else 87 + n)
def hexL : Nat → Nat → List UInt8 → List UInt8
  | 0, _, acc => acc
  | k + 1, n, acc => if n / 16 = 0 then hexd (n % 16) :: acc else hexL k (n / 16) (hexd (n % 16) :: acc)
theorem dig_eq : ∀ m : Nat, m < 16 → Utf8.encode (glyph_dig (m : Int)) = S [hexd m] := by
  intro m hm
  have h : ∀ m : Nat, m < 16 → (Utf8.encode (glyph_dig (m : Int))).data.toList = [hexd m] := by decide +kernel
  apply L_inj
  rw [L_S]
  exact h m hm
theorem hex_l0 (d : Nat) : ∀ (n : Nat) (acc : List UInt8), n < 16 ^ d → n ≤ 2147483647 → acc.length + d ≤ 1000 → 0 < d → Ev (fun k => glyph_hex.l0 k (S acc) (n : Int)) (S (hexL d n acc)) := by
  induction d with
  | zero => intro n acc _ _ _ h; omega
  | succ d ih =>
    intro n acc hn hn2 ha _
    have hm : n % 16 < 16 := Nat.mod_lt _ (by omega)
    have e1 : ((n : Int) % 16) = ((n % 16 : Nat) : Int) := by omega
    have e2 : ((n : Int) / 16) = ((n / 16 : Nat) : Int) := by omega
    refine up ?_
    simp only [glyph_hex.l0]
    rw [e1, e2, dig_eq _ hm, S_app]
    have z1 : (S [hexd (n % 16)]).size = 1 := rfl
    have z2 : (S acc).size = acc.length := by rw [sz, L_S]
    refine pos (by omega) ?_
    simp only [hexL]
    by_cases h0 : n / 16 = 0
    · rw [if_pos h0]
      exact pos (by omega) (Ev.now _)
    · rw [if_neg h0]
      have hd : 0 < d := by
        rcases Nat.eq_zero_or_pos d with rfl | h
        · rw [Nat.zero_add, Nat.pow_one] at hn
          omega
        · exact h
      refine neg (by omega) (ih (n / 16) (hexd (n % 16) :: acc) ?_ (by omega) (by simp only [List.length_cons]; omega) hd)
      rw [Nat.pow_succ] at hn
      omega
def hexOf (n : Nat) : List UInt8 := hexL 8 n []
theorem hex_ev (n : Nat) (hn : n ≤ 2147483647) : Ev (fun k => glyph_hex.f k (n : Int)) (S (hexOf n)) := hex_l0 8 n [] (by omega) hn (by simp) (by omega)
theorem hexL_len (d : Nat) : ∀ (n : Nat) (acc : List UInt8), (hexL d n acc).length ≤ acc.length + d := by
  induction d with
  | zero => intro n acc; simp [hexL]
  | succ d ih =>
    intro n acc
    simp only [hexL]
    split
    · simp only [List.length_cons]; omega
    · have := ih (n / 16) (hexd (n % 16) :: acc)
      simp only [List.length_cons] at this
      omega
/-- a sign, spelt -/
def sp (x : Int) : List UInt8 := if x < 0 then [123, 98, 97, 100, 125] else if 32 ≤ x ∧ x ≤ 126 ∧ x ≠ 123 then E x.toNat else 123 :: hexOf x.toNat ++ [125]
def spellL (l : List UInt8) : List UInt8 := (sg l).flatMap (fun x => sp x.1)
theorem sp_len (x : Int) (h : x < 0 ∨ V x.toNat) : (sp x).length ≤ 10 := by
  unfold sp
  have := hexL_len 8 x.toNat []
  split
  · simp
  · split
    · rcases h with h | h
      · omega
      · have := (E_len x.toNat h).2
        omega
    · unfold hexOf
      simp only [List.length_cons, List.length_append, List.length_nil] at this ⊢
      omega
theorem spell_l0 (s : ByteArray) (hs : (L s).length ≤ 1000000000) : ∀ (l : List UInt8) (p : Nat) (acc : List UInt8), acc.length ≤ 10 * p → At s p l → Ev (fun k => glyph_Spell.l0 k s acc p) (S (acc ++ spellL l)) := by
  refine sg_ind ?_ ?_ ?_
  · intro p acc _ h
    refine up ?_
    simp only [glyph_Spell.l0]
    refine neg (by rw [sz, h.nil]; omega) (now' ?_)
    simp [spellL, sg_nil, S]
  · intro v t hv ih p acc ha h
    have hp := h.lt (E_app_ne hv t)
    have hl := (E_len v hv).1
    refine up ?_
    simp only [glyph_Spell.l0]
    refine pos (by rw [sz]; exact hp) (pos (by omega) (cbind (bad_eq h (E_app_ne hv t)) ?_))
    rw [one_good v hv, dec_E h hv]
    refine neg (by simp) (cbind (plain_eq v) ?_)
    have e : spellL (E v ++ t) = sp v ++ spellL t := by
      unfold spellL
      rw [sg_E v hv, List.flatMap_cons]
    have hsl := sp_len v (Or.inr hv)
    rw [e, ← List.append_assoc]
    have next : ∀ q, q = sp v → Ev (fun k => glyph_Spell.l0 k s (acc ++ q) (p + (E v).length)) (S (acc ++ sp v ++ spellL t)) := by
      rintro q rfl
      exact ih _ (acc ++ sp v) (by rw [List.length_append]; omega) h.next
    by_cases hc : 32 ≤ (v : Int) ∧ (v : Int) ≤ 126 ∧ (v : Int) ≠ 123
    · refine pos ⟨decide_eq_true ⟨hc.1, hc.2.1⟩, hc.2.2⟩ (next _ ?_)
      unfold sp
      rw [if_neg (by omega), if_pos hc]
      rfl
    · refine neg ?_ (Ev.bind (hex_ev v (by unfold V at hv; omega)) (pos ?_ (next _ ?_)))
      · rintro ⟨h1, h2⟩
        have := of_decide_eq_true h1
        exact hc ⟨this.1, this.2, h2⟩
      · have := hexL_len 8 v []
        rw [sz, L_S]
        unfold hexOf
        simp only [List.length_nil] at this
        omega
      · unfold sp
        rw [if_neg (by omega), if_neg hc]
        show L ((⟨#[123]⟩ : ByteArray) ++ S (hexOf v) ++ (⟨#[125]⟩ : ByteArray)) = _
        rw [L_app, L_app, L_S]
        rfl
  · intro c t ho hno ih p acc ha h
    have hp := h.lt (by simp)
    refine up ?_
    simp only [glyph_Spell.l0]
    refine pos (by rw [sz]; exact hp) (pos (by omega) (cbind (bad_eq h (by simp)) ?_))
    rw [ho, dec_B h ho]
    have e : spellL (c :: t) = [123, 98, 97, 100, 125] ++ spellL t := by
      unfold spellL
      rw [sg_bad c t ho, List.flatMap_cons]
      rfl
    rw [e, ← List.append_assoc]
    exact pos (by rfl) (ih _ (acc ++ [123, 98, 97, 100, 125]) (by rw [List.length_append]; simp only [List.length_cons, List.length_nil]; omega) h.tl)
theorem spell_ev (s : ByteArray) (hs : (L s).length ≤ 1000000000) : Ev (fun k => glyph_Spell.f k s) (S (spellL (L s))) := by
  have := spell_l0 s hs (L s) 0 [] (by simp) (At.start s)
  rw [List.nil_append] at this
  exact this
end Go.Proofs.YtlkppogpoodjlaaDoor.Glyph
