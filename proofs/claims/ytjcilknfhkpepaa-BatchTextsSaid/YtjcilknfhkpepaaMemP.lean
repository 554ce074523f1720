/- Words for memory beside the printer's: arguments and results that are slices, read as lists. -/
import Derived.Test.YtjcilknfhkpepaaMem
import Derived.Test.YtjcilknfhkpepaaWWords
import Derived.Test.YtjcilknfhkpepaaWLast
import Derived.Test.YtjcilknfhkpepaaWMore
namespace Go.Proofs.Ytjcilknfhkpepaa.Mem
open Go.RowKit Go.Proofs.YtjcilknfhkpepaaW.PrintWords Go.Proofs.YtjcilknfhkpepaaW.PrintLast Go.Proofs.YtjcilknfhkpepaaW.PrintMore
theorem str_at {w : World} {A : Option Addr} {l : List ByteArray} (h : Kd.C Kd.string w A l.length l) {i : Nat} (hi : i < l.length) : ∃ ad, A = some ad ∧ w.cell? (ad.add i) = some (.string l[i]) := by
  obtain ⟨ad, hA, hc⟩ := h.2.2 (by omega)
  obtain ⟨c, h1, h2, h3⟩ := hc i _ (List.getElem?_eq_getElem hi)
  have h2 : c = [.string l[i]] := h2
  subst h2
  exact ⟨ad, hA, by simpa [Kd.string, Kd.scalar] using h3 0 _ rfl⟩
theorem int_at {k : IntKind} {w : World} {A : Option Addr} {l : List Int} (h : Kd.C (Kd.int k) w A l.length l) {i : Nat} (hi : i < l.length) : ∃ ad, A = some ad ∧ w.cell? (ad.add i) = some (.int k l[i]) := by
  obtain ⟨ad, hA, hc⟩ := h.2.2 (by omega)
  obtain ⟨c, h1, h2, h3⟩ := hc i _ (List.getElem?_eq_getElem hi)
  have h2 : c = [.int k l[i]] := h2
  subst h2
  exact ⟨ad, hA, by simpa [Kd.int, Kd.scalar] using h3 0 _ rfl⟩
theorem bool_at {w : World} {A : Option Addr} {l : List Bool} (h : Kd.C Kd.bool w A l.length l) {i : Nat} (hi : i < l.length) : ∃ ad, A = some ad ∧ w.cell? (ad.add i) = some (.bool l[i]) := by
  obtain ⟨ad, hA, hc⟩ := h.2.2 (by omega)
  obtain ⟨c, h1, h2, h3⟩ := hc i _ (List.getElem?_eq_getElem hi)
  have h2 : c = [.bool l[i]] := h2
  subst h2
  exact ⟨ad, hA, by simpa [Kd.bool, Kd.scalar] using h3 0 _ rfl⟩
/-- a list of strings that a call has made -/
theorem sl_strs {w : World} {e base : Nat} {ok : Nat → Prop} {v : Value} {xs : List ByteArray} (h : Kd.R Kd.string e w base ok v xs) : Sl w e 1 v xs.length (xs.map Value.string) ∧ ∀ k, own v k → base ≤ k := by
  obtain ⟨h0, inner, ho, hr⟩ := h
  have hi : inner = xs.map Value.string := by
    apply List.ext_getElem?
    intro j
    have hl := hr.1
    have hs : Kd.string.sz = 1 := rfl
    rw [hs, Nat.mul_one] at hl
    by_cases hj : j < xs.length
    · have := hr.2 j _ (List.getElem?_eq_getElem hj)
      have h2 : (inner.drop (j * 1)).take 1 = [Value.string xs[j]] := this
      rw [Nat.mul_one] at h2
      have h3 := congrArg (fun l : List Value => l[0]?) h2
      simp only [List.getElem?_take_of_lt (show 0 < 1 by omega), List.getElem?_drop, Nat.add_zero] at h3
      rw [h3]
      simp [hj]
    · rw [List.getElem?_eq_none (by omega), List.getElem?_eq_none (by simp; omega)]
  subst hi
  refine ⟨⟨by simp, ?_⟩, fun k hk => ?_⟩
  · rcases ho.2 with ⟨rfl, e0⟩ | ⟨g, cap, cur, rfl, hb, hg, h1, h2, h3, h4⟩
    · exact .inl ⟨rfl, e0⟩
    · have hs : Kd.string.sz = 1 := rfl
      rw [hs] at h3 h4
      exact .inr ⟨g, 0, cap, cur, rfl, hg, h1, h2, by omega, by rw [List.drop_zero]; exact h4⟩
  · rcases ho.2 with ⟨rfl, _⟩ | ⟨g, cap, cur, rfl, hb, _⟩
    · cases hk
    · cases hk; exact hb
/-- an element of a list of strings -/
theorem Sl.str_at {w : World} {e : TypeId} {v : Value} {xs : List ByteArray} (h : Sl w e 1 v xs.length (xs.map Value.string)) {i : Nat} (hi : i < xs.length) : ∃ g off cap, v = .slice (some ⟨g, off, none⟩) xs.length cap ∧ w.cell? ⟨g, off + i, none⟩ = some (.string xs[i]) := by
  obtain ⟨g, off, cap, cur, hv, _⟩ := h.form_pos (by omega)
  refine ⟨g, off, cap, hv, ?_⟩
  rw [h.cell hv (by omega)]
  simp [hi]
end Go.Proofs.Ytjcilknfhkpepaa.Mem
