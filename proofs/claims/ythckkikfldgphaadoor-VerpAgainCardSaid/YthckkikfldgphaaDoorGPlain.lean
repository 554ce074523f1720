/- glyph.Plain: what the printed function tells. -/
import Derived.Test.YthckkikfldgphaaDoorXMB
import Derived.Test.YthckkikfldgphaaDoorGlyphL
namespace Go.Proofs.YthckkikfldgphaaDoor.Glyph
open Go.RowKit Go.Proofs.YthckkikfldgphaaDoor.X Go.Proofs.YthckkikfldgphaaDoorW.PrintWords Go.Proofs.YthckkikfldgphaaDoorW.PrintLast Go.Proofs.YthckkikfldgphaaDoorW.PrintMore Go.Proofs.YthckkikfldgphaaDoor.Aid
open Go.Lib (decodeL decodeN encodeRune encodeRuneZ)
set_option linter.unusedVariables false
set_option linter.unusedSimpArgs false
theorem dec_at (s : ByteArray) (p : Nat) : Utf8.decode s p = decodeL ((L s).drop p) := by
  have h := Go.Lib.tail_decode s p 0
  rw [Nat.add_zero] at h
  rw [← h]
  unfold decodeL
  congr 1
  apply L_inj
  rw [L_to_end]
  exact (L_S _).symm
/-- a place in a text, and what stands from there on -/
structure At (s : ByteArray) (p : Nat) (l : List UInt8) : Prop where
  le : p ≤ (L s).length
  dr : (L s).drop p = l
theorem At.nil {s : ByteArray} {p : Nat} (h : At s p []) : p = (L s).length := by
  have := congrArg List.length h.dr
  rw [List.length_drop, List.length_nil] at this
  have := h.le
  omega
theorem At.lt {s : ByteArray} {p : Nat} {l : List UInt8} (h : At s p l) (hl : l ≠ []) : p < (L s).length := by
  have := congrArg List.length h.dr
  rw [List.length_drop] at this
  have := List.length_pos_iff.2 hl
  omega
theorem At.next {s : ByteArray} {p : Nat} {a t : List UInt8} (h : At s p (a ++ t)) : At s (p + a.length) t := by
  have h1 := congrArg List.length h.dr
  rw [List.length_drop, List.length_append] at h1
  have h2 := h.le
  refine ⟨by omega, ?_⟩
  rw [← List.drop_drop, h.dr, List.drop_left']
  rfl
theorem At.start (s : ByteArray) : At s 0 (L s) := ⟨Nat.zero_le _, rfl⟩
theorem At.take {s : ByteArray} {p : Nat} {a t : List UInt8} (h : At s p (a ++ t)) : (L s).take (p + a.length) = (L s).take p ++ a := by
  rw [List.take_add, h.dr, List.take_left']
  rfl
theorem At.pre {s : ByteArray} {p : Nat} {l : List UInt8} (h : At s p l) : (L s).take p ++ l = L s := by rw [← h.dr, List.take_append_drop]
theorem dec_E {s : ByteArray} {p : Nat} {v : Nat} {t : List UInt8} (h : At s p (E v ++ t)) (hv : V v) : Utf8.decode s p = (v, (E v).length) := by
  rw [dec_at, h.dr, dec_good v hv]
theorem dec_B {s : ByteArray} {p : Nat} {c : UInt8} {t : List UInt8} (h : At s p (c :: t)) (ho : one (c :: t) = (-1, 1)) : Utf8.decode s p = (65533, 1) := by
  rw [dec_at, h.dr]
  rcases dec_cases (c :: t) (by simp) with ⟨v, u, hv, e, hd⟩ | ⟨hd, _⟩
  · rw [e, one_good v hv] at ho
    have := (Prod.mk.inj ho).1
    omega
  · exact hd
theorem At.tl {s : ByteArray} {p : Nat} {c : UInt8} {t : List UInt8} (h : At s p (c :: t)) : At s (p + 1) t := At.next (a := [c]) h
theorem E_app_ne {v : Nat} (hv : V v) (t : List UInt8) : E v ++ t ≠ [] := fun e => E_ne v hv (List.append_eq_nil_iff.1 e).1

def plainL (l : List UInt8) : Bool := (sg l).all (fun x => decide (32 ≤ x.1 ∧ x.1 ≤ 126))
theorem plain_eq (v : Nat) : glyph_plain.f (v : Int) = some (decide (32 ≤ (v : Int) ∧ (v : Int) ≤ 126)) := by
  unfold glyph_plain.f
  by_cases h : (v : Int) ≥ 32
  · rw [if_pos h]
    congr 1
    rw [Bool.eq_iff_iff]
    simp only [decide_eq_true_eq]
    omega
  · rw [if_neg h]
    congr 1
    rw [decide_eq_false (by omega)]
theorem plain_l0 (s : ByteArray) : ∀ (l : List UInt8) (p : Nat), At s p l → Ev (fun k => glyph_Plain.l0 k s p) (plainL l) := by
  refine sg_ind ?_ ?_ ?_
  · intro p h
    refine up ?_
    simp only [glyph_Plain.l0]
    exact neg (by rw [sz, h.nil]; omega) (Ev.now _)
  · intro v t hv ih p h
    refine up ?_
    simp only [glyph_Plain.l0]
    refine pos (by rw [sz]; exact h.lt (E_app_ne hv t)) ?_
    rw [dec_E h hv]
    refine cbind (plain_eq v) ?_
    have e : plainL (E v ++ t) = (decide (32 ≤ (v : Int) ∧ (v : Int) ≤ 126) && plainL t) := by
      unfold plainL
      rw [sg_E v hv, List.all_cons]
    rw [e]
    by_cases hq : 32 ≤ (v : Int) ∧ (v : Int) ≤ 126
    · rw [decide_eq_true hq, Bool.true_and]
      exact pos (by rfl) (ih _ h.next)
    · rw [decide_eq_false hq]
      exact neg (by simp) (Ev.now _)
  · intro c t ho hno ih p h
    refine up ?_
    simp only [glyph_Plain.l0]
    refine pos (by rw [sz]; exact h.lt (by simp)) ?_
    rw [dec_B h ho]
    refine cbind (plain_eq 65533) ?_
    refine neg (by decide) (now' ?_)
    unfold plainL
    rw [sg_bad c t ho, List.all_cons]
    rfl
theorem plain_ev (s : ByteArray) : Ev (fun k => glyph_Plain.f k s) (plainL (L s)) := plain_l0 s (L s) 0 (At.start s)

theorem E_byte (c : UInt8) (h : c.toNat < 128) : E c.toNat = [c] := by
  have hv : V c.toNat := by unfold V; omega
  rcases E_cases c.toNat hv with ⟨_, a, e, ha⟩ | ⟨h1, _⟩ | ⟨h1, _⟩ | ⟨h1, _⟩
  · rw [e, UInt8.toNat_inj.1 ha]
  all_goals omega
/-- plain by bytes -/
def plb (l : List UInt8) : Bool := l.all (fun c => decide (32 ≤ c.toNat ∧ c.toNat ≤ 126))
theorem plainL_eq : ∀ l : List UInt8, plainL l = plb l := by
  refine sg_ind rfl ?_ ?_
  · intro v t hv ih
    unfold plainL at ih ⊢
    rw [sg_E v hv, List.all_cons, ih]
    have ea : plb (E v ++ t) = ((E v).all (fun c => decide (32 ≤ c.toNat ∧ c.toNat ≤ 126)) && plb t) := List.all_append
    rw [ea]
    congr 1
    rcases E_cases v hv with ⟨h1, a, e, ha⟩ | ⟨h1, h2, a, b, e, ha, hb⟩ | ⟨h1, h2, a, b, c, e, ha, hb, hc⟩ | ⟨h1, h2, a, b, c, d, e, ha, hb, hc, hd⟩
    · rw [e, List.all_cons, List.all_nil, Bool.and_true, ha]
      congr 1
      exact propext ⟨fun h => by omega, fun h => by omega⟩
    all_goals
      rw [e, List.all_cons, decide_eq_false (by omega), decide_eq_false (by omega)]
      rfl
  · intro c t ho hno ih
    unfold plainL at ih ⊢
    rw [sg_bad c t ho, List.all_cons]
    have hc : 128 ≤ c.toNat := by
      rcases Nat.lt_or_ge c.toNat 128 with h | h
      · exact absurd (by rw [E_byte c h]; rfl) (hno c.toNat t (by unfold V; omega))
      · exact h
    have e : plb (c :: t) = (decide (32 ≤ c.toNat ∧ c.toNat ≤ 126) && plb t) := rfl
    rw [e, decide_eq_false (show ¬ (32 ≤ c.toNat ∧ c.toNat ≤ 126) by omega)]
    rfl
theorem plb_ev (s : ByteArray) : Ev (fun k => glyph_Plain.f k s) (plb (L s)) := by
  rw [← plainL_eq]
  exact plain_ev s
end Go.Proofs.YthckkikfldgphaaDoor.Glyph
