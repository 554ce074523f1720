/- verp: what the printed functions of the program tell: labels, names, local parts, addresses, extensions. -/
import Derived.Test.YthckkikfldgphaaDoorVerpQ
namespace Go.Proofs.YthckkikfldgphaaDoor.Verp
open Go.RowKit Go.Proofs.YthckkikfldgphaaDoor.X Go.Proofs.YthckkikfldgphaaDoorW.PrintWords Go.Proofs.YthckkikfldgphaaDoorW.PrintLast Go.Proofs.YthckkikfldgphaaDoorW.PrintMore Go.Proofs.YthckkikfldgphaaDoor.Aid
set_option linter.unusedVariables false
set_option linter.unusedSimpArgs false
theorem ne_len {l : List UInt8} (h : l ≠ []) : 0 < l.length := List.length_pos_iff.2 h
theorem w1 (n : Nat) (h : 1 ≤ n) (h2 : n ≤ 1000000) : wrap64 ((n : Int) - 1) = ((n - 1 : Nat) : Int) := by rw [w64 (by omega) (by omega)]; omega
theorem bne45 (c : UInt8) : ((c.toNat : Int) != 45) = (some c != some 45) := all8 (P := fun c => ((c.toNat : Int) != 45) = (some c != some 45)) (by decide +kernel) c
theorem head_eq (l : List UInt8) (h : 0 < l.length) : l.head? = some l[0] := by rw [List.head?_eq_getElem?, List.getElem?_eq_getElem h]
theorem last_eq (l : List UInt8) (h : 0 < l.length) : l.getLast? = some (l[l.length - 1]'(by omega)) := by rw [List.getLast?_eq_getElem?, List.getElem?_eq_getElem (by omega)]
/-! ### labels and domains -/
theorem label_ev (s : ByteArray) (hs : (L s).length ≤ 1000000) : Ev (fun k => addr_label.f k s) (label (L s)) := by
  have := loop_all0 (L s) (fun _ => lb) (!(L s).isEmpty && ((L s).head? != some 45 && (L s).getLast? != some 45)) (fun k i => addr_label.l0 k s (s.size : Int) (i : Int)) ?_ ?_ ?_
  · rw [allI_all] at this
    unfold label
    rw [Bool.and_assoc, Bool.and_assoc]
    exact this
  · intro i h r hq hr
    refine up ?_
    simp only [addr_label.l0]
    refine pos (by rw [sz]; omega) (pos (by omega) (pos (by rw [sz]; omega) ?_))
    rw [btn s i h, wi i (by omega)]
    exact cbind (labelled_eq _) (pos hq hr)
  · intro i h hq
    refine up ?_
    simp only [addr_label.l0]
    refine pos (by rw [sz]; omega) (pos (by omega) (pos (by rw [sz]; omega) ?_))
    rw [btn s i h]
    exact cbind (labelled_eq _) (neg (by rw [hq]; simp) (now' rfl))
  · refine up ?_
    simp only [addr_label.l0]
    refine neg (by rw [sz]; omega) ?_
    by_cases hn : L s = []
    · refine pos (by rw [tl]; exact hn) (now' ?_)
      rw [hn]; rfl
    · have hp := ne_len hn
      refine neg (by rw [tl]; exact hn) (pos (by rw [sz]; omega) ?_)
      rw [show (!(L s).isEmpty) = true from by cases h : L s with | nil => exact absurd h hn | cons => rfl, Bool.true_and, head_eq _ hp, last_eq _ hp, ← bne45, ← bne45]
      have b0 := btn s 0 hp
      rw [show ((0 : Nat) : Int) = 0 from rfl] at b0
      rw [b0, sz, w1 _ hp hs, btn s _ (by omega)]
      by_cases h0 : (((L s)[0]).toNat : Int) = 45
      · refine pos h0 (now' ?_)
        rw [bne, beq_iff_eq.2 h0]; rfl
      · refine neg h0 (pos (by omega) (pos (by omega) (now' ?_)))
        rw [bne, bne, beq_eq_false_iff_ne.2 h0]; rfl
theorem domain_ev (s : ByteArray) (hs : (L s).length ≤ 1000000) : Ev (fun k => addr_domain.f k s) (dom (L s)) := by
  unfold addr_domain.f dom
  refine pos (by rw [sz]; omega) ?_
  have hx := (pcd_len (L s) []).1
  have key : ∀ (ps : List (List UInt8)), (∀ p ∈ ps, p.length ≤ 1000000) → ∀ long : Bool, Ev (fun k => addr_domain.go k (ps.map S) long) (if ps.all label then (if long = true ∨ ∃ p ∈ ps, 63 < p.length then 2 else 0) else 130) := by
    intro ps
    induction ps with
    | nil => intro _ long; exact now' (by cases long <;> simp)
    | cons p t ih =>
      intro hp long
      have h0 := ih (fun x hx2 => hp x (by simp [hx2])) (long || decide (63 < p.length))
      have h1 := label_ev (S p) (by rw [L_S]; exact hp p (by simp))
      rw [L_S] at h1
      rw [List.all_cons]
      show Ev (fun k => (addr_label.f k (S p)).bind fun b => if b = true then addr_domain.go k (t.map S) (long || decide (63 < (S p).size)) else some 130) _
      rw [show (S p).size = p.length from by rw [sz, L_S]]
      cases hb : label p with
      | true =>
        rw [hb] at h1
        refine Ev.bind h1 (pos rfl ?_)
        rw [Bool.true_and]
        have e : ((long || decide (63 < p.length)) = true ∨ ∃ q ∈ t, 63 < q.length) ↔ (long = true ∨ ∃ q ∈ p :: t, 63 < q.length) := by
          simp only [Bool.or_eq_true, decide_eq_true_eq, List.mem_cons, exists_eq_or_imp, or_assoc]
        by_cases hh : (long = true ∨ ∃ q ∈ p :: t, 63 < q.length)
        · rw [if_pos (e.2 hh)] at h0; rw [if_pos hh]; exact h0
        · rw [if_neg (fun z => hh (e.1 z))] at h0; rw [if_neg hh]; exact h0
      | false => rw [hb] at h1; exact Ev.bind h1 (neg (by simp) (now' rfl))
  have := key (pcd [] (L s)) (fun p hp => by have := hx p hp; simp at this; omega) (decide (253 < s.size))
  by_cases hz : 253 < s.size
  · have hz' : 253 < (L s).length := by rw [← sz]; exact hz
    rw [decide_eq_true hz] at this ⊢
    rw [if_pos (Or.inl rfl)] at this
    rw [if_pos (Or.inl hz')]
    exact this
  · have hz' : ¬ 253 < (L s).length := by rw [← sz]; exact hz
    rw [decide_eq_false hz] at this ⊢
    by_cases hq : ∃ p, p ∈ pcd [] (L s) ∧ 63 < p.length
    · rw [if_pos (Or.inr hq)] at this
      rw [if_pos (Or.inr hq)]
      exact this
    · rw [if_neg (show ¬ (false = true ∨ ∃ p, p ∈ pcd [] (L s) ∧ 63 < p.length) from fun z => z.elim (fun h => by cases h) hq)] at this
      rw [if_neg (show ¬ (253 < (L s).length ∨ ∃ p, p ∈ pcd [] (L s) ∧ 63 < p.length) from fun z => z.elim hz' hq)]
      exact this
/-! ### names -/
theorem ends_drop (a b : List UInt8) (h : b.length ≤ a.length) : (a.drop (a.length - b.length) == b) = ends a b := by
  rw [Bool.eq_iff_iff, ends_iff, beq_iff_eq]
  constructor
  · intro e
    exact ⟨a.take (a.length - b.length), by conv => lhs; rw [← List.take_append_drop (a.length - b.length) a, e]⟩
  · rintro ⟨u, rfl⟩
    rw [List.length_append, Nat.add_sub_cancel, List.drop_left]
theorem ends_short (a b : List UInt8) (h : a.length < b.length) : ends a b = false := by
  cases hc : ends a b with
  | false => rfl
  | true =>
    obtain ⟨u, rfl⟩ := (ends_iff _ _).1 hc
    rw [List.length_append] at h
    omega
theorem hasSuffix_eq (a b : ByteArray) (ha : (L a).length ≤ 1000000) : stringslite_HasSuffix.f a b = some (ends (L a) (L b)) := by
  unfold stringslite_HasSuffix.f
  rw [sz, sz]
  by_cases h : (L b).length ≤ (L a).length
  · have hw : wrap64 (((L a).length : Int) - ((L b).length : Int)) = (((L a).length - (L b).length : Nat) : Int) := by rw [w64 (by omega) (by omega)]; omega
    rw [if_pos (by omega), hw, if_pos (by omega), if_pos (by omega), tl, tl, ← sz a, L_to_end, Int.toNat_natCast, sz, ends_drop _ _ h]
  · rw [if_neg (by omega), ends_short _ _ (by omega)]
theorem hasSuffix_eq2 (a b : ByteArray) (ha : (L a).length ≤ 1000000) : strings_HasSuffix.f a b = some (ends (L a) (L b)) := by
  unfold strings_HasSuffix.f
  rw [hasSuffix_eq a b ha]; rfl
theorem cutSuffix_eq (a b : ByteArray) (ha : (L a).length ≤ 1000000) : strings_CutSuffix.f a b = some (if ends (L a) (L b) then (S ((L a).take ((L a).length - (L b).length)), true) else (a, false)) := by
  unfold strings_CutSuffix.f stringslite_CutSuffix.f
  rw [hasSuffix_eq a b ha]
  simp only [Option.bind_some]
  cases hc : ends (L a) (L b) with
  | false => simp
  | true =>
    have h : (L b).length ≤ (L a).length := by
      obtain ⟨u, hu⟩ := (ends_iff _ _).1 hc
      rw [hu, List.length_append]; omega
    have hw : wrap64 ((a.size : Int) - (b.size : Int)) = (((L a).length - (L b).length : Nat) : Int) := by rw [sz, sz, w64 (by omega) (by omega)]; omega
    rw [hw, if_pos rfl, if_pos (by omega), if_pos (by rw [sz]; omega)]
    simp only [Option.bind_some, if_true]
    congr 2
    apply L_inj
    rw [L_from_start, L_S, Int.toNat_natCast]
theorem suffix_eq (r : Nat) (h : r = 2 ∨ r = 3 ∨ r = 4 ∨ r = 5) : verp_suffix.f (r : Int) = some (S (sfx r)) := by
  rcases h with rfl | rfl | rfl | rfl <;> rfl
theorem suffix1 : verp_suffix.f 1 = some (S []) := rfl
theorem suffix_any (r : Nat) (h : 1 ≤ r) (h5 : r ≤ 5) : verp_suffix.f (r : Int) = some (S (sfx r)) := by
  have : r = 1 ∨ r = 2 ∨ r = 3 ∨ r = 4 ∨ r = 5 := by omega
  rcases this with rfl | rfl | rfl | rfl | rfl <;> rfl
/-- what stands behind the loop over a name's bytes -/
def nmEnd (l : List UInt8) : Bool := !ends l (sfx 2) && (!ends l (sfx 3) && (!ends l (sfx 4) && (!ends l (sfx 5) && (!l.isEmpty && decide (l.length ≤ 20)))))
theorem name_end (s : ByteArray) (hs : (L s).length ≤ 1000000) : Ev (fun k => verp_Name.l1 k s 2) (nmEnd (L s)) := by
  have stp : ∀ (r : Nat) (fin : Bool), (r = 2 ∨ r = 3 ∨ r = 4 ∨ r = 5) → Ev (fun k => verp_Name.l1 k s ((r + 1 : Nat) : Int)) fin → Ev (fun k => verp_Name.l1 k s (r : Int)) (!ends (L s) (sfx r) && fin) := by
    intro r fin hr h
    refine up ?_
    simp only [verp_Name.l1]
    refine pos (by omega) (cbind (suffix_eq r hr) (cbind (hasSuffix_eq2 s _ hs) ?_))
    rw [L_S, wi r (by omega)]
    cases hc : ends (L s) (sfx r) with
    | true => exact pos rfl (now' rfl)
    | false => exact neg (by simp) h
  refine stp 2 _ (.inl rfl) (stp 3 _ (.inr (.inl rfl)) (stp 4 _ (.inr (.inr (.inl rfl))) (stp 5 _ (.inr (.inr (.inr rfl))) ?_)))
  refine up ?_
  simp only [verp_Name.l1]
  refine neg (by decide) ?_
  by_cases hn : L s = []
  · refine pos (by rw [tl]; exact hn) (now' ?_)
    rw [hn]; rfl
  · refine neg (by rw [tl]; exact hn) (now' ?_)
    rw [show (!(L s).isEmpty) = true from by cases h : L s with | nil => exact absurd h hn | cons => rfl, Bool.true_and, sz]
    exact decide_eq_decide.2 (by omega)
theorem nm_eq (l : List UInt8) : nm l = (allI (fun i c => sm c || (c == 45 && !(i == 0) && !(i == l.length - 1))) 0 l && nmEnd l) := by
  by_cases hn : l = []
  · subst hn; rfl
  · rw [edge sm (by decide) l hn]
    unfold nm nmEnd nc
    cases h1 : l.isEmpty <;> cases h2 : decide (l.length ≤ 20) <;> cases h3 : (l.head? != some 45) <;> cases h4 : (l.getLast? != some 45) <;> cases h5 : ends l (sfx 2) <;> cases h6 : ends l (sfx 3) <;> cases h7 : ends l (sfx 4) <;> cases h8 : ends l (sfx 5) <;> simp
theorem name_ev (s : ByteArray) (hs : (L s).length ≤ 1000000) : Ev (fun k => verp_Name.f k s) (nm (L s)) := by
  rw [nm_eq]
  have hend := name_end s hs
  refine loop_all0 (L s) (fun i c => sm c || (c == 45 && !(i == 0) && !(i == (L s).length - 1))) (nmEnd (L s)) (fun k i => verp_Name.l0 k s (s.size : Int) (i : Int)) ?_ ?_ ?_
  · intro i h r hq hr
    refine up ?_
    simp only [verp_Name.l0]
    refine pos (by rw [sz]; omega) (pos (by omega) (pos (by rw [sz]; omega) ?_))
    rw [btn s i h, wi i (by omega), sz, w1 _ (by omega) hs]
    rw [sz] at hr
    refine cbind (small_eq _) ?_
    cases hsm : sm (L s)[i] with
    | true => exact pos rfl hr
    | false =>
      simp only [hsm, Bool.false_or, Bool.and_eq_true, Bool.not_eq_true', beq_iff_eq, beq_eq_false_iff_ne] at hq
      refine neg (by simp) (pos (by rw [hq.1.1]; rfl) (neg (by omega) (neg (by omega) hr)))
  · intro i h hq
    refine up ?_
    simp only [verp_Name.l0]
    refine pos (by rw [sz]; omega) (pos (by omega) (pos (by rw [sz]; omega) ?_))
    rw [btn s i h, wi i (by omega), sz, w1 _ (by omega) hs]
    refine cbind (small_eq _) ?_
    rw [Bool.or_eq_false_iff] at hq
    rw [hq.1]
    refine neg (by simp) ?_
    by_cases h45 : (L s)[i] = 45
    · refine pos (by rw [h45]; rfl) ?_
      by_cases hi : i = 0
      · exact pos (by omega) (now' rfl)
      · refine neg (by omega) (pos ?_ (now' rfl))
        have h2 := hq.2
        rw [h45] at h2
        have hi' : (i == 0) = false := beq_eq_false_iff_ne.2 hi
        rw [hi'] at h2
        simp at h2
        omega
    · exact neg (fun e => h45 (u8i (by rw [e]; rfl))) (now' rfl)
  · refine up ?_
    simp only [verp_Name.l0]
    exact neg (by rw [sz]; omega) hend
/-! ### local parts -/
theorem extended_eq (r : Nat) : verp_extended.f (r : Int) = some (decide (r = 4 ∨ r = 5)) := by
  unfold verp_extended.f
  by_cases h4 : r = 4
  · rw [if_pos (by omega)]; simp [h4]
  · rw [if_neg (by omega)]
    congr 1
    rw [Bool.eq_iff_iff, beq_iff_eq, decide_eq_true_eq]
    omega
theorem zS (l : List UInt8) : (S l).size = l.length := by rw [sz, L_S]
theorem sfx_len (r : Nat) : (sfx r).length ≤ 8 := by unfold sfx; split <;> decide
theorem local_ev (a e : ByteArray) (r : Nat) (ha : (L a).length ≤ 1000000) (he : (L e).length ≤ 1000000) (h1 : 1 ≤ r) (h5 : r ≤ 5) : Ev (fun k => verp_Local.f k a (r : Int) e) (S (loc (L a) r (L e))) := by
  unfold verp_Local.f
  have hl := sfx_len r
  refine neg (by omega) ?_
  have hd : decide ((r : Int) > 5) = false := decide_eq_false (by omega)
  rw [hd]
  refine up ?_
  simp only [verp_Local.j0]
  refine neg (by simp) (cbind (extended_eq r) ?_)
  have hlc : loc (L a) r (L e) = if 4 ≤ r then L a ++ sfx r ++ 43 :: L e else L a ++ sfx r := by
    unfold loc
    rw [if_neg (by omega)]
  rw [hlc]
  by_cases h4 : 4 ≤ r
  · rw [if_pos h4]
    refine pos (decide_eq_true (by omega)) (cbind (suffix_any r h1 h5) ?_)
    have z1 : (a ++ S (sfx r)).size = (L a).length + (sfx r).length := by rw [sz, L_app, List.length_append, L_S]
    have z2 : ((a ++ S (sfx r)) ++ (⟨#[43]⟩ : ByteArray)).size = (L a).length + (sfx r).length + 1 := by rw [sz, L_app, List.length_append, ← sz, z1]; rfl
    refine pos (by rw [zS, sz]; omega) (pos (by rw [z1]; omega) (pos (by rw [z2, sz e]; omega) (now' ?_)))
    apply L_inj
    rw [L_app, L_app, L_app, L_S, L_S, List.append_assoc (L a ++ sfx r)]
    rfl
  · rw [if_neg h4]
    refine neg (fun hh => h4 (by have := of_decide_eq_true hh; omega)) (cbind (suffix_any r h1 h5) ?_)
    refine pos (by rw [zS, sz]; omega) (now' ?_)
    apply L_inj
    rw [L_app, L_S, L_S]
theorem local_bad (a e : ByteArray) (r : Int) (h : r < 1 ∨ 5 < r) : Ev (fun k => verp_Local.f k a r e) (S []) := by
  unfold verp_Local.f
  by_cases h1 : r < 1
  · refine pos h1 (up ?_)
    simp only [verp_Local.j0]
    exact pos (by trivial) (now' rfl)
  · refine neg h1 ?_
    have hd : decide (r > 5) = true := decide_eq_true (by omega)
    rw [hd]
    refine up ?_
    simp only [verp_Local.j0]
    exact pos (by trivial) (now' rfl)
/-- what Read tells -/
def enR (o : Option (List UInt8 × Nat × List UInt8)) : ByteArray × Int × ByteArray × Int := match o with
  | some (l, r, e) => (S l, (r : Int), S e, 0)
  | none => (S [], 0, S [], 6)
theorem read_ev (s : ByteArray) (hs : (L s).length ≤ 1000000) : Ev (fun k => verp_Read.f k s) (enR (readP (fo (L s)))) := by
  unfold verp_Read.f
  refine Ev.bind (fold_ev s hs) ?_
  obtain ⟨t, ht⟩ : ∃ t, fo (L s) = t := ⟨_, rfl⟩
  have htl : t.length ≤ 1000000 := by rw [← ht, fo_len]; exact hs
  rw [ht]
  have hcut : strings_Cut.f (S t) (⟨#[43]⟩ : ByteArray) = some (S (t.takeWhile n43), S ((t.dropWhile n43).drop 1), t.any (· == 43)) := by
    unfold strings_Cut.f
    rw [if_pos (by rw [zS]; omega)]
    have e := CutL.cut_one 43 t
    show some (S (Go.Lib.cut (L (S t)) [43]).1, S (Go.Lib.cut (L (S t)) [43]).2.1, (Go.Lib.cut (L (S t)) [43]).2.2) = _
    rw [L_S, e]
    rfl
  refine cbind hcut ?_
  simp only
  obtain ⟨p, hp⟩ : ∃ p, t.takeWhile n43 = p := ⟨_, rfl⟩
  obtain ⟨e, he⟩ : ∃ e, (t.dropWhile n43).drop 1 = e := ⟨_, rfl⟩
  obtain ⟨m, hm⟩ : ∃ m, t.any (· == 43) = m := ⟨_, rfl⟩
  have hpl : p.length ≤ 1000000 := by rw [← hp]; exact Nat.le_trans (List.takeWhile_sublist _).length_le htl
  unfold readP
  rw [hp, he, hm]
  have fin : ∀ (l : List UInt8) (r : Nat), l.length ≤ 1000000 → Ev (fun k => verp_Read.j1 k (r : Int) (S e) (S l) m) (enR (if nm l = false ∨ (decide (r = 4 ∨ r = 5) != m) = true ∨ (m = true ∧ e = []) then none else some (l, r, e))) := by
    intro l r hl
    refine up ?_
    simp only [verp_Read.j1]
    have hn := name_ev (S l) (by rw [L_S]; exact hl)
    rw [L_S] at hn
    refine Ev.bind hn ?_
    cases hnm : nm l with
    | false => exact neg (by simp) (now' (by rw [if_pos (Or.inl rfl)]; rfl))
    | true =>
      refine pos rfl (cbind (extended_eq r) ?_)
      by_cases hx : (decide (r = 4 ∨ r = 5) != m) = true
      · exact pos hx (now' (by rw [if_pos (Or.inr (Or.inl hx))]; rfl))
      · refine neg hx ?_
        cases m with
        | true =>
          refine pos rfl ?_
          by_cases hee : e = []
          · exact pos (by rw [tl, L_S]; exact hee) (now' (by rw [if_pos (Or.inr (Or.inr ⟨rfl, hee⟩))]; rfl))
          · refine neg (by rw [tl, L_S]; exact hee) (now' ?_)
            rw [if_neg (fun z => z.elim (fun h => by cases h) (fun z => z.elim hx (fun h => hee h.2)))]
            rfl
        | false =>
          refine neg (by simp) (now' ?_)
          rw [if_neg (fun z => z.elim (fun h => by cases h) (fun z => z.elim hx (fun h => by cases h.1)))]
          rfl
  have fin' : ∀ (l : List UInt8) (r : Nat), 1 ≤ r → r ≤ 5 → l.length ≤ 1000000 → Ev (fun k => verp_Read.j1 k (r : Int) (S e) (S l) m) (enR (if nm l = false ∨ (decide (4 ≤ r) != m) = true ∨ (m = true ∧ e = []) then none else some (l, r, e))) := by
    intro l r h1 h5 hl
    have := fin l r hl
    rwa [show decide (r = 4 ∨ r = 5) = decide (4 ≤ r) from decide_eq_decide.2 (by omega)] at this
  have stp : ∀ (r : Nat) (R0 : ByteArray × Int × ByteArray × Int), (r = 2 ∨ r = 3 ∨ r = 4 ∨ r = 5) → (ends p (sfx r) = true → Ev (fun k => verp_Read.j1 k (r : Int) (S e) (S (p.take (p.length - (sfx r).length))) m) R0) → (ends p (sfx r) = false → Ev (fun k => verp_Read.l0 k 1 (S e) (S p) m ((r + 1 : Nat) : Int)) R0) → Ev (fun k => verp_Read.l0 k 1 (S e) (S p) m (r : Int)) R0 := by
    intro r R0 hr ha hb
    refine up ?_
    simp only [verp_Read.l0]
    refine pos (by omega) (cbind (suffix_eq r hr) (cbind (cutSuffix_eq (S p) _ (by rw [L_S]; exact hpl)) ?_))
    rw [L_S, L_S, wi r (by omega)]
    cases hc : ends p (sfx r) with
    | true => simp only [if_true]; exact ha hc
    | false =>
      simp only [Bool.false_eq_true, if_false]
      exact hb hc
  have tk : ∀ r, (p.take (p.length - (sfx r).length)).length ≤ 1000000 := fun r => by rw [List.length_take]; omega
  have hw : who p = (if ends p (sfx 2) then (p.take (p.length - (sfx 2).length), 2) else if ends p (sfx 3) then (p.take (p.length - (sfx 3).length), 3) else if ends p (sfx 4) then (p.take (p.length - (sfx 4).length), 4) else if ends p (sfx 5) then (p.take (p.length - (sfx 5).length), 5) else (p, 1)) := rfl
  refine stp 2 _ (.inl rfl) (fun h => ?_) (fun h2 => stp 3 _ (.inr (.inl rfl)) (fun h => ?_) (fun h3 => stp 4 _ (.inr (.inr (.inl rfl))) (fun h => ?_) (fun h4 => stp 5 _ (.inr (.inr (.inr rfl))) (fun h => ?_) (fun h5 => ?_))))
  · rw [if_pos h] at hw
    rw [hw]; exact fin' _ 2 (by omega) (by omega) (tk 2)
  · rw [h2, if_neg (by simp), if_pos h] at hw
    rw [hw]; exact fin' _ 3 (by omega) (by omega) (tk 3)
  · rw [h2, h3, if_neg (by simp), if_neg (by simp), if_pos h] at hw
    rw [hw]; exact fin' _ 4 (by omega) (by omega) (tk 4)
  · rw [h2, h3, h4, if_neg (by simp), if_neg (by simp), if_neg (by simp), if_pos h] at hw
    rw [hw]; exact fin' _ 5 (by omega) (by omega) (tk 5)
  · rw [h2, h3, h4, h5, if_neg (by simp), if_neg (by simp), if_neg (by simp), if_neg (by simp)] at hw
    rw [hw]
    refine up ?_
    simp only [verp_Read.l0]
    exact neg (by decide) (fin' p 1 (by omega) (by omega) hpl)
end Go.Proofs.YthckkikfldgphaaDoor.Verp
