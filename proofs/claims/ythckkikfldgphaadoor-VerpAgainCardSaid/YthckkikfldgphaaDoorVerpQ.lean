/- verp: what the printed functions on texts tell: atoms, labels, names, local parts. -/
import Derived.Test.YthckkikfldgphaaDoorGFold
import Derived.Test.YthckkikfldgphaaDoorGPlain
import Derived.Test.YthckkikfldgphaaDoorCutL
import Derived.Test.YthckkikfldgphaaDoorSeqD
namespace Go.Proofs.YthckkikfldgphaaDoor.Verp
open Go.RowKit Go.Proofs.YthckkikfldgphaaDoor.X Go.Proofs.YthckkikfldgphaaDoorW.PrintWords Go.Proofs.YthckkikfldgphaaDoorW.PrintLast Go.Proofs.YthckkikfldgphaaDoorW.PrintMore Go.Proofs.YthckkikfldgphaaDoor.Aid
set_option linter.unusedVariables false
set_option linter.unusedSimpArgs false
/-! ### loops over a text -/
def allI (q : Nat → UInt8 → Bool) : Nat → List UInt8 → Bool
  | _, [] => true
  | i, c :: t => q i c && allI q (i + 1) t
theorem allI_iff (q : Nat → UInt8 → Bool) : ∀ (l : List UInt8) (i : Nat), allI q i l = true ↔ ∀ j (h : j < l.length), q (i + j) l[j] = true
  | [], i => by simp [allI]
  | c :: t, i => by
    rw [allI, Bool.and_eq_true, allI_iff q t (i + 1)]
    constructor
    · rintro ⟨h1, h2⟩ j hj
      cases j with
      | zero => exact h1
      | succ j => have := h2 j (by simpa using hj); rwa [show i + 1 + j = i + (j + 1) from by omega] at this
    · intro h
      refine ⟨h 0 (by simp), fun j hj => ?_⟩
      have := h (j + 1) (by simpa using hj)
      rwa [show i + (j + 1) = i + 1 + j from by omega] at this
theorem allI_all (p : UInt8 → Bool) : ∀ (l : List UInt8) (i : Nat), allI (fun _ => p) i l = l.all p
  | [], _ => rfl
  | c :: t, i => by rw [allI, allI_all p t, List.all_cons]
theorem loop_all (l : List UInt8) (q : Nat → UInt8 → Bool) (fin : Bool) (G : Nat → Nat → Option Bool)
    (hgo : ∀ i (h : i < l.length) (r : Bool), q i l[i] = true → Ev (fun k => G k (i + 1)) r → Ev (fun k => G k i) r)
    (hbad : ∀ i (h : i < l.length), q i l[i] = false → Ev (fun k => G k i) false)
    (hend : Ev (fun k => G k l.length) fin) (d : Nat) : ∀ i, i ≤ l.length → l.length - i = d → Ev (fun k => G k i) (allI q i (l.drop i) && fin) := by
  induction d with
  | zero =>
    intro i hi hd
    have : i = l.length := by omega
    subst this
    rw [List.drop_eq_nil_of_le (Nat.le_refl _)]
    exact hend
  | succ d ih =>
    intro i hi hd
    have h : i < l.length := by omega
    rw [List.drop_eq_getElem_cons h, allI]
    cases hq : q i l[i] with
    | true =>
      have := ih (i + 1) (by omega) (by omega)
      rw [Bool.true_and]
      exact hgo i h _ hq this
    | false =>
      rw [Bool.false_and, Bool.false_and]
      exact hbad i h hq
theorem loop_all0 (l : List UInt8) (q : Nat → UInt8 → Bool) (fin : Bool) (G : Nat → Nat → Option Bool)
    (hgo : ∀ i (h : i < l.length) (r : Bool), q i l[i] = true → Ev (fun k => G k (i + 1)) r → Ev (fun k => G k i) r)
    (hbad : ∀ i (h : i < l.length), q i l[i] = false → Ev (fun k => G k i) false)
    (hend : Ev (fun k => G k l.length) fin) : Ev (fun k => G k 0) (allI q 0 l && fin) := loop_all l q fin G hgo hbad hend l.length 0 (Nat.zero_le _) (by omega)
/-- where a sign may not stand at an end -/
theorem edge (a : UInt8 → Bool) (h : a 45 = false) (l : List UInt8) (hl : l ≠ []) :
    allI (fun i c => a c || (c == 45 && !(i == 0) && !(i == l.length - 1))) 0 l = (l.all (fun c => a c || c == 45) && l.head? != some 45 && l.getLast? != some 45) := by
  have hp : 0 < l.length := List.length_pos_iff.2 hl
  rw [Bool.eq_iff_iff, allI_iff, List.getLast?_eq_getElem?, List.head?_eq_getElem?, List.getElem?_eq_getElem hp, List.getElem?_eq_getElem (by omega : l.length - 1 < l.length)]
  simp only [Bool.and_eq_true, List.all_eq_true, bne_iff_ne, ne_eq, Option.some.injEq, Nat.zero_add, Bool.or_eq_true, beq_iff_eq, Bool.not_eq_true', beq_eq_false_iff_ne]
  constructor
  · intro hh
    refine ⟨⟨fun c hc => ?_, fun e => ?_⟩, fun e => ?_⟩
    · obtain ⟨j, hj, rfl⟩ := List.getElem_of_mem hc
      rcases hh j hj with h1 | h1
      · exact .inl h1
      · exact .inr h1.1.1
    · rcases hh 0 hp with h1 | h1
      · rw [e, h] at h1; cases h1
      · exact h1.1.2 rfl
    · rcases hh (l.length - 1) (by omega) with h1 | h1
      · rw [e, h] at h1; cases h1
      · exact h1.2 rfl
  · rintro ⟨⟨h1, h2⟩, h3⟩ j hj
    rcases h1 _ (List.getElem_mem hj) with h4 | h4
    · exact .inl h4
    · refine .inr ⟨⟨h4, fun e => ?_⟩, fun e => ?_⟩
      · subst e; exact h2 h4
      · subst e; exact h3 h4
/-! ### bytes -/
theorem atomic_eq (c : UInt8) : lex_atomic.f (c.toNat : Int) = some (at1 c) := all8 (P := fun c => lex_atomic.f (c.toNat : Int) = some (at1 c)) (by decide +kernel) c
theorem labelled_eq (c : UInt8) : addr_labelled.f (c.toNat : Int) = some (lb c) := all8 (P := fun c => addr_labelled.f (c.toNat : Int) = some (lb c)) (by decide +kernel) c
theorem small_eq (c : UInt8) : verp_small.f (c.toNat : Int) = some (sm c) := all8 (P := fun c => verp_small.f (c.toNat : Int) = some (sm c)) (by decide +kernel) c
theorem text_eq (c : UInt8) : lex_text.f (c.toNat : Int) = some (tx c) := all8 (P := fun c => lex_text.f (c.toNat : Int) = some (tx c)) (by decide +kernel) c
theorem fold_eq (l : List UInt8) : Glyph.foldL l = fo l := rfl
theorem fold_ev (s : ByteArray) (hs : (L s).length ≤ 1000000) : Ev (fun k => glyph_Fold.f k s) (S (fo (L s))) := Glyph.fold_ev s (by omega)
theorem nilB (s : ByteArray) : (s.toList != ([] : List UInt8)) = !(L s).isEmpty := by rw [tl]; cases L s <;> rfl
theorem nilB' (s : ByteArray) : (s.toList == ([] : List UInt8)) = (L s).isEmpty := by rw [tl]; cases L s <;> rfl
/-! ### atoms -/
theorem isAtom_ev (s : ByteArray) (hs : (L s).length ≤ 1000000) : Ev (fun k => lex_IsAtom.f k s) (isAtom (L s)) := by
  have := loop_all0 (L s) (fun _ => at1) (!(L s).isEmpty) (fun k i => lex_IsAtom.l0 k s (s.size : Int) (i : Int)) ?_ ?_ ?_
  · rw [allI_all, Bool.and_comm] at this
    exact this
  · intro i h r hq hr
    refine up ?_
    simp only [lex_IsAtom.l0]
    refine pos (by rw [sz]; omega) (pos (by omega) (pos (by rw [sz]; omega) ?_))
    rw [btn s i h, wi i (by omega)]
    exact cbind (atomic_eq _) (pos hq hr)
  · intro i h hq
    refine up ?_
    simp only [lex_IsAtom.l0]
    refine pos (by rw [sz]; omega) (pos (by omega) (pos (by rw [sz]; omega) ?_))
    rw [btn s i h]
    exact cbind (atomic_eq _) (neg (by rw [hq]; simp) (now' rfl))
  · refine up ?_
    simp only [lex_IsAtom.l0]
    refine neg (by rw [sz]; omega) (now' (nilB s))
theorem pcd_len : ∀ (l cur : List UInt8), (∀ x ∈ pcd cur l, x.length ≤ cur.length + l.length) ∧ (pcd cur l).length ≤ l.length + 1
  | [], cur => by simp [pcd]
  | c :: t, cur => by
    rw [pcd]
    by_cases h : c = 46
    · obtain ⟨h1, h2⟩ := pcd_len t []
      rw [if_pos h]
      refine ⟨fun x hx => ?_, by simp; omega⟩
      rcases List.mem_cons.1 hx with rfl | hx
      · omega
      · have := h1 x hx; simp at this; simp; omega
    · obtain ⟨h1, h2⟩ := pcd_len t (cur ++ [c])
      rw [if_neg h]
      exact ⟨fun x hx => by have := h1 x hx; simp at this; simp; omega, by simp; omega⟩
theorem dotted_ev (s : ByteArray) (hs : (L s).length ≤ 1000000) : Ev (fun k => addr_Dotted.f k s) (dotted (L s)) := by
  unfold addr_Dotted.f dotted
  refine pos (by rw [sz]; omega) ?_
  have hx := (pcd_len (L s) []).1
  show Ev (fun k => addr_Dotted.go k ((pcd [] (L s)).map S)) _
  generalize pcd [] (L s) = ps at hx
  induction ps with
  | nil => exact now' rfl
  | cons p t ih =>
    have hp : p.length ≤ 1000000 := by have := hx p (by simp); simp at this; omega
    have h0 := ih fun x hx2 => hx x (by simp [hx2])
    have h1 := isAtom_ev (S p) (by rw [L_S]; exact hp)
    rw [L_S] at h1
    rw [List.all_cons]
    show Ev (fun k => (lex_IsAtom.f k (S p)).bind fun b => if b = true then addr_Dotted.go k (t.map S) else some false) _
    cases hb : isAtom p with
    | true => rw [hb] at h1; exact Ev.bind h1 (pos rfl (by rw [Bool.true_and]; exact h0))
    | false => rw [hb] at h1; exact Ev.bind h1 (neg (by simp) (now' rfl))
end Go.Proofs.YthckkikfldgphaaDoor.Verp
