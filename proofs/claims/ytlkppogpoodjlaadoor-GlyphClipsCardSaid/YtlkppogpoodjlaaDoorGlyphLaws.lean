/- The pure statements of layer 6's laws. -/
import Derived.Test.YtlkppogpoodjlaaDoorGlyphQ
import Derived.Test.YtlkppogpoodjlaaDoorBookSame
namespace Go.Proofs.YtlkppogpoodjlaaDoor.Glyph
open Go.RowKit Go.Proofs.YtlkppogpoodjlaaDoor.X Go.Proofs.YtlkppogpoodjlaaDoorW.PrintWords Go.Proofs.YtlkppogpoodjlaaDoorW.PrintLast Go.Proofs.YtlkppogpoodjlaaDoorW.PrintMore Go.Proofs.YtlkppogpoodjlaaDoor.Aid
open Go.Lib (decodeL decodeN encodeRune encodeRuneZ)
set_option linter.unusedVariables false
set_option linter.unusedSimpArgs false

/-! ### plain lemmas -/
theorem cleanL_E (v : Nat) (hv : V v) (t : List UInt8) : cleanL (E v ++ t) = E (cl v) ++ cleanL t := by
  unfold cleanL
  rw [sg_E v hv, List.flatMap_cons]
theorem cleanL_B (c : UInt8) (t : List UInt8) (ho : one (c :: t) = (-1, 1)) : cleanL (c :: t) = E 65533 ++ cleanL t := by
  unfold cleanL
  rw [sg_bad c t ho, List.flatMap_cons]
  rfl
theorem V65533 : V 65533 := by unfold V; omega
theorem sg_clean : ∀ l : List UInt8, sg (cleanL l) = (sg l).map (fun x => (((cl x.1 : Nat) : Int), E (cl x.1))) := by
  refine sg_ind rfl ?_ ?_
  · intro v t hv ih
    rw [cleanL_E v hv, sg_E _ (cl_V _ (Or.inr ⟨v, hv, rfl⟩)), sg_E v hv, List.map_cons, ih]
  · intro c t ho _ ih
    rw [cleanL_B c t ho, sg_E _ V65533, sg_bad c t ho, List.map_cons, ih]
    rfl
theorem cl_cl (x : Int) (h : G x) : cl ((cl x : Nat) : Int) = cl x := by
  have h32 : cl 32 = 32 := by decide
  have hfd : cl 65533 = 65533 := by decide
  rcases h with rfl | ⟨v, hv, rfl⟩
  · exact hfd
  · have e : cl (v : Int) = if control (v : Int) = true then 32 else v := by
      unfold cl
      rw [if_neg (by omega), Int.toNat_natCast]
    by_cases hc : control (v : Int) = true
    · rw [if_pos hc] at e
      rw [e]
      exact h32
    · rw [if_neg hc] at e
      rw [e, e]
theorem flat_cl : ∀ X : List (Int × List UInt8), (∀ x ∈ X, G x.1) → (X.map (fun x => (((cl x.1 : Nat) : Int), E (cl x.1)))).flatMap (fun x => E (cl x.1)) = X.flatMap fun x => E (cl x.1)
  | [], _ => rfl
  | x :: X, h => by
    rw [List.map_cons, List.flatMap_cons, List.flatMap_cons, flat_cl X (fun y hy => h y (by simp [hy])), cl_cl _ (h x (by simp))]
theorem clean_clean (l : List UInt8) : cleanL (cleanL l) = cleanL l := by
  have e : cleanL (cleanL l) = (sg (cleanL l)).flatMap (fun x => E (cl x.1)) := rfl
  rw [e, sg_clean, flat_cl (sg l) (sg_G l)]
  rfl
theorem valid_clean (l : List UInt8) : validL (cleanL l) = true := by
  unfold validL
  rw [sg_clean, List.all_map, List.all_eq_true]
  intro x _
  simp
theorem count_clean (l : List UInt8) : (sg (cleanL l)).length = (sg l).length := by rw [sg_clean, List.length_map]
theorem low_low : ∀ c : UInt8, low (low c) = low c := all8 (by decide +kernel)
theorem fold_fold (l : List UInt8) : foldL (foldL l) = foldL l := by
  unfold foldL
  rw [List.map_map]
  congr 1
  funext c
  exact low_low c
theorem low_big : ∀ c : UInt8, 128 ≤ c.toNat → low c = c := all8 (by decide +kernel)
theorem low_small : ∀ c : UInt8, c.toNat < 128 → (low c).toNat < 128 := all8 (by decide +kernel)
theorem low_of_big (c : UInt8) (h : 128 ≤ (low c).toNat) : low c = c := by
  rcases Nat.lt_or_ge c.toNat 128 with h1 | h1
  · have := low_small c h1; omega
  · exact low_big c h1
theorem E_big (v : Nat) (hv : V v) (h : 128 ≤ v) : ∀ c ∈ E v, 128 ≤ c.toNat := by
  intro x hx
  rcases E_cases v hv with ⟨h1, a, e, ha⟩ | ⟨h1, h2, a, b, e, ha, hb⟩ | ⟨h1, h2, a, b, c, e, ha, hb, hc⟩ | ⟨h1, h2, a, b, c, d, e, ha, hb, hc, hd⟩ <;> rw [e] at hx <;> simp only [List.mem_cons, List.not_mem_nil, or_false] at hx
  · omega
  · rcases hx with rfl | rfl <;> omega
  · rcases hx with rfl | rfl | rfl <;> omega
  · rcases hx with rfl | rfl | rfl | rfl <;> omega
theorem map_low_big : ∀ w : List UInt8, (∀ c ∈ w, 128 ≤ c.toNat) → w.map low = w
  | [], _ => rfl
  | c :: w, h => by rw [List.map_cons, low_big c (h c (by simp)), map_low_big w (fun x hx => h x (by simp [hx]))]
theorem map_low_of_big : ∀ w : List UInt8, (∀ c ∈ w.map low, 128 ≤ c.toNat) → w.map low = w
  | [], _ => rfl
  | c :: w, h => by rw [List.map_cons, low_of_big c (h _ (by simp)), map_low_of_big w (fun x hx => h x (by simp at hx ⊢; exact Or.inr hx))]
theorem count_fold : ∀ l : List UInt8, (sg (foldL l)).length = (sg l).length := by
  refine sg_ind rfl ?_ ?_
  · intro v t hv ih
    rw [sg_E v hv]
    have e : foldL (E v ++ t) = foldL (E v) ++ foldL t := List.map_append
    rw [e]
    rcases Nat.lt_or_ge v 128 with h | h
    · obtain ⟨a, ea, ha⟩ : ∃ a : UInt8, E v = [a] ∧ a.toNat = v := by
        rcases E_cases v hv with ⟨_, a, e, ha⟩ | ⟨h1, _⟩ | ⟨h1, _⟩ | ⟨h1, _⟩
        · exact ⟨a, e, ha⟩
        all_goals omega
      have hs := low_small a (by omega)
      have e2 : foldL (E v) = E (low a).toNat := by rw [ea, E_byte _ hs]; rfl
      rw [e2, sg_E _ (by unfold V; omega), List.length_cons, List.length_cons, ih]
    · have e2 : foldL (E v) = E v := map_low_big _ (E_big v hv h)
      rw [e2, sg_E v hv, List.length_cons, List.length_cons, ih]
  · intro c t ho hno ih
    have hc : 128 ≤ c.toNat := by
      rcases Nat.lt_or_ge c.toNat 128 with h | h
      · exact absurd (by rw [E_byte c h]; rfl) (hno c.toNat t (by unfold V; omega))
      · exact h
    have e : foldL (c :: t) = c :: foldL t := by unfold foldL; rw [List.map_cons, low_big c hc]
    rw [e, sg_bad c t ho, List.length_cons]
    rcases one_cases (c :: foldL t) (by simp) with ⟨v, u, hv, e2, _⟩ | ⟨c', t', e2, ho', _⟩
    · exfalso
      have hv8 : 128 ≤ v := by
        rcases Nat.lt_or_ge v 128 with h | h
        · have : E v = [UInt8.ofNat v] := by
            have := E_byte (UInt8.ofNat v) (by simp; omega)
            rwa [show (UInt8.ofNat v).toNat = v from by simp; omega] at this
          rw [this] at e2
          have := (List.cons.inj e2).1
          rw [this] at hc
          simp at hc
          omega
        · exact h
      obtain ⟨d, w, ew⟩ : ∃ d w, E v = d :: w := by
        cases hE : E v with
        | nil => exact absurd hE (E_ne v hv)
        | cons d w => exact ⟨d, w, rfl⟩
      have hbig := E_big v hv hv8
      rw [ew] at e2 hbig
      obtain ⟨rfl, e3⟩ := List.cons.inj e2
      obtain ⟨w', u', rfl, ew', eu'⟩ := List.map_eq_append_iff.1 e3
      have := map_low_of_big w' (by rw [ew']; exact fun x hx => hbig x (by simp [hx]))
      rw [this] at ew'
      subst ew'
      exact hno v u' hv (by rw [ew]; rfl)
    · obtain ⟨rfl, rfl⟩ := List.cons.inj e2
      rw [sg_bad _ _ ho', List.length_cons, ih]
theorem plain_bytes : ∀ l : List UInt8, (∀ c ∈ l, 32 ≤ c.toNat ∧ c.toNat ≤ 126) → plainL l = true
  | [], _ => rfl
  | c :: t, h => by
    have hc := h c (by simp)
    have e : c :: t = E c.toNat ++ t := by rw [E_byte c (by omega)]; rfl
    rw [e]
    unfold plainL
    rw [sg_E _ (by unfold V; omega), List.all_cons]
    have := plain_bytes t (fun x hx => h x (by simp [hx]))
    unfold plainL at this
    rw [this, decide_eq_true (by omega)]
    rfl
theorem hexd_plain : ∀ m, m < 16 → 32 ≤ (hexd m).toNat ∧ (hexd m).toNat ≤ 126 := by decide
theorem hexL_plain (d : Nat) : ∀ (n : Nat) (acc : List UInt8), (∀ c ∈ acc, 32 ≤ c.toNat ∧ c.toNat ≤ 126) → ∀ c ∈ hexL d n acc, 32 ≤ c.toNat ∧ c.toNat ≤ 126 := by
  induction d with
  | zero => intro n acc h; simpa [hexL] using h
  | succ d ih =>
    intro n acc h
    have hm := hexd_plain (n % 16) (Nat.mod_lt _ (by omega))
    have h2 : ∀ c ∈ hexd (n % 16) :: acc, 32 ≤ c.toNat ∧ c.toNat ≤ 126 := by
      intro c hc
      rcases List.mem_cons.1 hc with rfl | hc
      · exact hm
      · exact h c hc
    simp only [hexL]
    split
    · exact h2
    · exact ih _ _ h2
theorem sp_plain (x : Int) : ∀ c ∈ sp x, 32 ≤ c.toNat ∧ c.toNat ≤ 126 := by
  unfold sp
  split
  · decide
  · split
    · rename_i h
      intro c hc
      have : E x.toNat = [UInt8.ofNat x.toNat] := by
        have := E_byte (UInt8.ofNat x.toNat) (by simp; omega)
        rwa [show (UInt8.ofNat x.toNat).toNat = x.toNat from by simp; omega] at this
      rw [this] at hc
      rw [List.mem_singleton.1 hc]
      simp
      omega
    · intro c hc
      rcases List.mem_append.1 hc with hc | hc
      · rcases List.mem_cons.1 hc with rfl | hc
        · decide
        · exact hexL_plain 8 _ [] (by simp) c hc
      · rw [List.mem_singleton.1 hc]; decide
theorem plain_spell (l : List UInt8) : plainL (spellL l) = true := by
  refine plain_bytes _ ?_
  intro c hc
  obtain ⟨x, _, hx⟩ := List.mem_flatMap.1 hc
  exact sp_plain _ c hx
theorem cleanL_len (l : List UInt8) : (cleanL l).length ≤ 4 * l.length := by
  revert l
  refine sg_ind (by simp [cleanL, sg_nil]) ?_ ?_
  · intro v t hv ih
    rw [cleanL_E v hv, List.length_append, List.length_append]
    have := (E_len v hv).1
    have := (E_len _ (cl_V (v : Int) (Or.inr ⟨v, hv, rfl⟩))).2
    omega
  · intro c t ho _ ih
    rw [cleanL_B c t ho, List.length_append, List.length_cons]
    have : (E 65533).length = 3 := rfl
    omega
theorem spellL_len (l : List UInt8) : (spellL l).length ≤ 10 * l.length := by
  have h := sg_len l
  have : ∀ X : List (Int × List UInt8), (∀ x ∈ X, G x.1) → (X.flatMap (fun x => sp x.1)).length ≤ 10 * X.length := by
    intro X
    induction X with
    | nil => intro _; simp
    | cons x X ih =>
      intro hX
      rw [List.flatMap_cons, List.length_append, List.length_cons]
      have hsp : x.1 < 0 ∨ V x.1.toNat := by
        rcases hX x (by simp) with e | ⟨v, hv, e⟩
        · left; omega
        · right; rw [e]; exact hv
      have h1 : (sp x.1).length ≤ 10 := sp_len _ hsp
      have := ih (fun y hy => hX y (by simp [hy]))
      omega
  have := this (sg l) (sg_G l)
  unfold spellL
  omega

/-! ### the laws -/
theorem works_ev : Ev (fun k => bulletinlaw06_works.f k) true := by
  unfold bulletinlaw06_works.f
  have e1 : spellL (L ⟨#[97, 195, 169, 255]⟩) = [97, 123, 101, 57, 125, 123, 98, 97, 100, 125] := by decide +kernel
  have e2 : (sg (L ⟨#[97, 195, 169, 255]⟩)).length = 3 := by decide +kernel
  have e3 : foldL (L ⟨#[97, 66, 45, 67]⟩) = [97, 98, 45, 99] := by decide +kernel
  have e4 : validL (L ⟨#[255]⟩) = false := by decide +kernel
  have e5 : cleanL (L ⟨#[97, 9, 98]⟩) = [97, 32, 98] := by decide +kernel
  refine Ev.bind (spell_ev _ (Nat.le_of_ble_eq_true rfl)) (pos (by rw [tl, L_S, e1]) (Ev.bind (count_ev _ (Nat.le_of_ble_eq_true rfl)) (pos (by rw [e2]; rfl) (Ev.bind (fold_ev _ (Nat.le_of_ble_eq_true rfl)) (pos (by rw [tl, L_S, e3]) (Ev.bind (valid_ev _) (neg (by rw [e4]; simp) (Ev.bind (clean_ev _ (Nat.le_of_ble_eq_true rfl)) (now' ?_)))))))))
  rw [tl, L_S, e5]
  rfl
theorem clean_law (a0 : ByteArray) (h0 : a0.size ≤ 140737488351232) : Ev (fun k => bulletinlaw06_GlyphClean.f k a0) true := by
  unfold bulletinlaw06_GlyphClean.f
  refine Ev.bind works_ev (pos (by trivial) ?_)
  by_cases hb : (a0.size : Int) > 500
  · exact pos hb (Ev.now _)
  refine neg hb ?_
  have s0 : (L a0).length ≤ 500 := by rw [← sz]; omega
  have c0 := cleanL_len (L a0)
  have p0 := spellL_len (L a0)
  have f0 : (foldL (L a0)).length = (L a0).length := by unfold foldL; rw [List.length_map]
  refine Ev.bind (clean_ev a0 (by omega)) (Ev.bind (fold_ev a0 (by omega)) (Ev.bind (valid_ev _) (pos (by rw [L_S]; exact valid_clean _) (Ev.bind (clean_ev _ (by rw [L_S]; omega)) (pos (by rw [tl, tl, L_S, L_S, clean_clean]) (Ev.bind (count_ev _ (by rw [L_S]; omega)) (Ev.bind (count_ev a0 (by omega)) (pos (by rw [L_S, count_clean]) (Ev.bind (fold_ev _ (by rw [L_S]; omega)) (pos (by rw [tl, tl, L_S, L_S, fold_fold]) (Ev.bind (count_ev _ (by rw [L_S]; omega)) (Ev.bind (count_ev a0 (by omega)) (pos (by rw [L_S, count_fold]) (pos (by rw [sz, sz, L_S, f0]) (Ev.bind (spell_ev a0 (by omega)) (Ev.bind (plain_ev _) (now' ?_)))))))))))))))))
  rw [L_S, plain_spell]
theorem signs_vp (l : List UInt8) : ((sg l).map (·.1)).all (fun x => decide (x ≥ 0)) = validL l ∧ ((sg l).map (·.1)).all (fun x => decide (x ≥ 32) && decide (x ≤ 126)) = plainL l := by
  constructor
  · unfold validL
    rw [List.all_map]
    rfl
  · unfold plainL
    rw [List.all_map]
    congr 1
    funext x
    show (decide (x.1 ≥ 32) && decide (x.1 ≤ 126)) = decide (32 ≤ x.1 ∧ x.1 ≤ 126)
    rw [Bool.decide_and]
theorem counts_fin (s : ByteArray) (n : Int) (hs : (L s).length ≤ 500) (hn0 : -9223372036854775808 ≤ n) (hn1 : n ≤ 9223372036854775807) (X : List Int) (hX : X = (sg (L s)).map (·.1)) (u v : Bool) (hu : u = validL (L s)) (hv : v = plainL (L s)) :
    Ev (fun k => ((glyph_Valid.f k s).bind fun t141 => (if (t141 == u) = true then ((glyph_Plain.f k s).bind fun t142 => (if (t142 == v) = true then ((glyph_Count.f k s).bind fun t143 => (if t143 = (X.length : Int) then ((glyph_Clip.f k s n).bind fun t144 => ((bulletinref06_Clip.f k s n).bind fun t145 => (if t144.toList = t145.toList then ((bulletinlaw06_works.f k).bind fun t146 => (some t146)) else (some false)))) else (some false))) else (some false))) else (some false)))) true := by
  subst hu hv hX
  refine Ev.bind (valid_ev s) (pos (by simp) (Ev.bind (plain_ev s) (pos (by simp) (Ev.bind (count_ev s (by omega)) (pos (by rw [List.length_map]) (Ev.bind (clip_ev s n hn0 hn1) (Ev.bind (refclip_ev s n (by omega) hn1) (pos rfl (Ev.bind works_ev (Ev.now _))))))))))
theorem counts_l0 (s : ByteArray) (n : Int) (hs : (L s).length ≤ 500) (hn0 : -9223372036854775808 ≤ n) (hn1 : n ≤ 9223372036854775807) (X : List Int) (hX : X = (sg (L s)).map (·.1)) (d : Nat) : ∀ (i : Nat) (u v : Bool), i ≤ X.length → X.length - i = d →
    (u && (X.drop i).all (fun x => decide (x ≥ 0))) = validL (L s) → (v && (X.drop i).all (fun x => decide (x ≥ 32) && decide (x ≤ 126))) = plainL (L s) → Ev (fun k => bulletinlaw06_GlyphCounts.l0 k s n X u v (i : Int)) true := by
  have hxl : X.length ≤ 500 := by rw [hX, List.length_map]; have := sg_len (L s); omega
  induction d with
  | zero =>
    intro i u v hi hd hu hv
    refine up ?_
    simp only [bulletinlaw06_GlyphCounts.l0]
    rw [List.drop_eq_nil_of_le (by omega)] at hu hv
    exact neg (by omega) (counts_fin s n hs hn0 hn1 X hX u v (by simpa using hu) (by simpa using hv))
  | succ d ih =>
    intro i u v hi hd hu hv
    have hil : i < X.length := by omega
    have hr : rd X (i : Int) = X[i] := by simp [rd, hil]
    rw [List.drop_eq_getElem_cons hil, List.all_cons] at hu hv
    have next : ∀ u' v', u' = (u && decide (X[i] ≥ 0)) → v' = (v && (decide (X[i] ≥ 32) && decide (X[i] ≤ 126))) → Ev (fun k => bulletinlaw06_GlyphCounts.l0 k s n X u' v' ((i + 1 : Nat) : Int)) true := by
      rintro u' v' rfl rfl
      refine ih (i + 1) _ _ (by omega) (by omega) ?_ ?_
      · rw [← hu, Bool.and_assoc]
      · rw [← hv, Bool.and_assoc]
    refine up ?_
    simp only [bulletinlaw06_GlyphCounts.l0]
    rw [hr, wi i (by omega)]
    refine pos (by omega) ?_
    cases u with
    | true =>
      refine pos (by trivial) (pos (by omega) ?_)
      cases v with
      | true =>
        refine pos (by trivial) ?_
        by_cases c : X[i] ≥ 32
        · exact pos c (next _ _ (by simp) (by rw [decide_eq_true c]; simp))
        · exact neg c (next _ _ (by simp) (by rw [decide_eq_false c]; simp))
      | false => exact neg (by simp) (next _ _ (by simp) (by simp))
    | false =>
      refine neg (by simp) ?_
      cases v with
      | true =>
        refine pos (by trivial) (pos (by omega) ?_)
        by_cases c : X[i] ≥ 32
        · exact pos c (next _ _ (by simp) (by rw [decide_eq_true c]; simp))
        · exact neg c (next _ _ (by simp) (by rw [decide_eq_false c]; simp))
      | false => exact neg (by simp) (next _ _ (by simp) (by simp))
theorem counts_law (a0 : ByteArray) (a1 : Int) (h0 : a0.size ≤ 140737488351232) (h1 : (Lit.int .i64 a1).wf = true) : Ev (fun k => bulletinlaw06_GlyphCounts.f k a0 a1) true := by
  unfold bulletinlaw06_GlyphCounts.f
  have hw := wf64 h1
  by_cases hb : (a0.size : Int) > 500
  · exact pos hb (Ev.bind works_ev (Ev.now _))
  refine neg hb ?_
  have s0 : (L a0).length ≤ 500 := by rw [← sz]; omega
  refine Ev.bind (signs_ev a0 (by omega)) (counts_l0 a0 a1 s0 hw.1 hw.2 _ rfl _ 0 true true (by omega) rfl ?_ ?_)
  · rw [List.drop_zero, Bool.true_and]; exact (signs_vp (L a0)).1
  · rw [List.drop_zero, Bool.true_and]; exact (signs_vp (L a0)).2
theorem wd_len (l : List UInt8) : ∀ cur, (wd cur l).length ≤ l.length + 1 := by
  induction l with
  | nil => intro cur; simp only [wd]; split <;> simp
  | cons c t ih =>
    intro cur
    simp only [wd]
    have h1 := ih []
    have h2 := ih (cur ++ [c])
    split
    · split
      · simp only [List.length_cons]; omega
      · simp only [List.length_cons]; omega
    · simp only [List.length_cons]; omega
theorem same_refl (X : List ByteArray) (h : X.length ≤ 1000000) : Ev (fun k => bulletinbook_SameTexts.f k X X) true := by
  have := Book.same_ev X X h h
  rwa [decide_eq_true rfl] at this
theorem turns_law (a0 : ByteArray) (h0 : a0.size ≤ 140737488351232) : Ev (fun k => bulletinlaw06_GlyphTurns.f k a0) true := by
  unfold bulletinlaw06_GlyphTurns.f
  by_cases hb : (a0.size : Int) > 500
  · exact pos hb (Ev.bind works_ev (Ev.now _))
  refine neg hb ?_
  have s0 : (L a0).length ≤ 500 := by rw [← sz]; omega
  have hwl := wd_len (L a0) []
  refine Ev.bind (fold_ev a0 (by omega)) (Ev.bind (reffold_ev a0 (by omega)) (pos rfl (Ev.bind (clean_ev a0 (by omega)) (Ev.bind (refclean_ev a0 (by omega)) (pos rfl (Ev.bind (spell_ev a0 (by omega)) (Ev.bind (refspell_ev a0 (by omega)) (pos rfl (cbind (words_eq a0 (by omega)) (Ev.bind (refwords_ev a0 (by omega)) (Ev.bind (same_refl _ ?_) (pos rfl (Ev.bind works_ev (Ev.now _))))))))))))))
  rw [List.length_map]
  unfold wordsL
  omega

theorem sg_clip : ∀ (l : List UInt8) (n : Nat), sg (clipL n l) = (sg l).take n := by
  refine sg_ind ?_ ?_ ?_
  · intro n; rw [clipL_nil, sg_nil, List.take_nil]
  · intro v t hv ih n
    cases n with
    | zero => rw [clipL_zero, sg_nil, List.take_zero]
    | succ n => rw [clipL_E n v hv, sg_E v hv, sg_E v hv, List.take_succ_cons, ih]
  · intro c t ho hno ih n
    cases n with
    | zero => rw [clipL_zero, sg_nil, List.take_zero]
    | succ n =>
      rw [clipL_B n c t ho, sg_bad c t ho, List.take_succ_cons]
      rcases one_cases (c :: clipL n t) (by simp) with ⟨v, u, hv, e2, _⟩ | ⟨c', t', e2, ho', _⟩
      · exfalso
        have hp : clipL n t ++ ((sg t).drop n).flatMap (·.2) = t := by
          unfold clipL
          rw [← List.flatMap_append, List.take_append_drop, sg_flat]
        refine hno v (u ++ ((sg t).drop n).flatMap (·.2)) hv ?_
        rw [← List.append_assoc, ← e2, List.cons_append, hp]
      · obtain ⟨rfl, rfl⟩ := List.cons.inj e2
        rw [sg_bad _ _ ho', ih]
theorem clip_pre (l : List UInt8) (n : Nat) : ∃ r, l = clipL n l ++ r := by
  refine ⟨((sg l).drop n).flatMap (·.2), ?_⟩
  unfold clipL
  rw [← List.flatMap_append, List.take_append_drop, sg_flat]
theorem clip_take (l : List UInt8) (n : Nat) : l.take (clipL n l).length = clipL n l := by
  obtain ⟨r, hr⟩ := clip_pre l n
  have : (clipL n l ++ r).take (clipL n l).length = clipL n l := List.take_left' rfl
  rwa [← hr] at this
theorem clip_le (l : List UInt8) (n : Nat) : (clipL n l).length ≤ l.length := by
  obtain ⟨r, hr⟩ := clip_pre l n
  have := congrArg List.length hr
  rw [List.length_append] at this
  omega
theorem clip_clip (l : List UInt8) (a b : Nat) (h : a ≤ b) : clipL a (clipL b l) = clipL a l := by
  show ((sg (clipL b l)).take a).flatMap _ = _
  rw [sg_clip, List.take_take, Nat.min_eq_left h]
  rfl
theorem clip_mono (l : List UInt8) (a b : Nat) (h : a ≤ b) : (clipL a l).length ≤ (clipL b l).length := by
  rw [← clip_clip l a b h]
  exact clip_le _ _
theorem wd_tail (l : List UInt8) : ∀ cur, wd cur (l ++ [13, 10, 9]) = wd cur l := by
  induction l with
  | nil =>
    intro cur
    by_cases h : cur = []
    · subst h; rfl
    · show wd cur [13, 10, 9] = _
      simp only [wd]
      rw [if_pos (show blk 13 = true from rfl), if_neg h, if_neg h, if_pos True.intro, if_pos (show blk 10 = true from rfl), if_pos (show blk 9 = true from rfl), if_pos True.intro, if_pos True.intro]
  | cons c t ih =>
    intro cur
    rw [List.cons_append]
    simp only [wd]
    rw [ih, ih]
theorem words_pad (l : List UInt8) : wordsL ([32] ++ l ++ [13, 10, 9]) = wordsL l := by
  show wd [] (32 :: (l ++ [13, 10, 9])) = wd [] l
  simp only [wd]
  rw [if_pos (show blk 32 = true from rfl), if_pos trivial, wd_tail]
theorem clips_law (a0 : ByteArray) (a1 a2 : Int) (h0 : a0.size ≤ 140737488351232) (h1 : (Lit.int .i64 a1).wf = true) (h2 : (Lit.int .i64 a2).wf = true) : Ev (fun k => bulletinlaw06_GlyphClips.f k a0 a1 a2) true := by
  unfold bulletinlaw06_GlyphClips.f
  have w1 := wf64 h1
  have w2 := wf64 h2
  refine Ev.bind works_ev (pos rfl ?_)
  have yes : Ev (fun k => bulletinlaw06_GlyphClips.j0 k a0 a1 a2 true) true := by
    refine up ?_
    simp only [bulletinlaw06_GlyphClips.j0]
    exact pos (by trivial) (Ev.now _)
  by_cases hb : (a0.size : Int) > 500
  · exact pos hb yes
  refine neg hb ?_
  by_cases c1 : a1 < 0
  · exact pos c1 yes
  refine neg c1 ?_
  by_cases c2 : a2 < a1
  · exact pos c2 yes
  refine neg c2 ?_
  by_cases c3 : a2 > 1000
  · rw [decide_eq_true c3]; exact yes
  rw [decide_eq_false c3]
  have s0 : (L a0).length ≤ 500 := by rw [← sz]; omega
  have hle : a1.toNat ≤ a2.toNat := by omega
  have l1 := clip_le (L a0) a1.toNat
  have l2 := clip_le (L a0) a2.toNat
  have lm := clip_mono (L a0) _ _ hle
  have z1 := zS (clipL a1.toNat (L a0))
  have z2 := zS (clipL a2.toNat (L a0))
  have hwl := wd_len (L a0) []
  have q0 : a0.size = (L a0).length := sz a0
  refine up ?_
  simp only [bulletinlaw06_GlyphClips.j0]
  refine neg (by simp) (Ev.bind (clip_ev a0 a1 w1.1 w1.2) (Ev.bind (clip_ev a0 a2 w2.1 w2.2) (pos (by omega) (pos (by omega) (pos (by omega) (pos ?_ (pos (by omega) (pos (by omega) (pos ?_ (Ev.bind (count_ev _ (by rw [L_S]; omega)) (Ev.bind (count_ev a0 (by omega)) (pos ?_ (Ev.bind (clip_ev _ a1 w1.1 w1.2) (pos ?_ ?_))))))))))))))
  · rw [tl, tl, L_S, L_from_start, z1]
    exact clip_take _ _
  · rw [tl, tl, L_S, L_from_start, z2]
    exact clip_take _ _
  · rw [L_S, sg_clip, List.length_take]
    unfold mn
    split <;> omega
  · rw [tl, tl, L_S, L_S, L_S, clip_clip _ _ _ hle]
  · have e1 : (⟨#[32]⟩ : ByteArray) ++ a0 ++ (⟨#[13, 10, 9]⟩ : ByteArray) = S ([32] ++ L a0 ++ [13, 10, 9]) := by
      apply L_inj
      rw [L_app, L_app, L_S]
      rfl
    have z3 : ((⟨#[32]⟩ : ByteArray) ++ a0).size = 1 + a0.size := by rw [ByteArray.size_append]; rfl
    refine cbind (words_eq a0 (by omega)) (pos (by omega) (pos (by omega) ?_))
    rw [e1]
    refine cbind (words_eq _ (by rw [L_S]; simp only [List.length_append, List.length_cons, List.length_nil]; omega)) ?_
    rw [L_S, words_pad]
    refine Ev.bind (same_refl _ ?_) (Ev.now _)
    rw [List.length_map]
    unfold wordsL
    omega
end Go.Proofs.YtlkppogpoodjlaaDoor.Glyph
