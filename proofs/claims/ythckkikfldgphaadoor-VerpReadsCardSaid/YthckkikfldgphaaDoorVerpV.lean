/- verp: what the reference's Name, Local and Read tell; the law VerpReads. -/
import Derived.Test.YthckkikfldgphaaDoorVerpT
import Derived.Test.YthckkikfldgphaaDoorXMR
namespace Go.Proofs.YthckkikfldgphaaDoor.Glyph
open Go.RowKit Go.Proofs.YthckkikfldgphaaDoor.X Go.Proofs.YthckkikfldgphaaDoorW.PrintWords Go.Proofs.YthckkikfldgphaaDoorW.PrintLast Go.Proofs.YthckkikfldgphaaDoorW.PrintMore Go.Proofs.YthckkikfldgphaaDoor.Aid
set_option linter.unusedVariables false
set_option linter.unusedSimpArgs false
theorem ext1 (s : ByteArray) (i : Nat) (h : i < (L s).length) : s.extract ((i : Nat) : Int).toNat ((i + 1 : Nat) : Int).toNat = S [(L s)[i]] := by
  apply L_inj
  rw [L_ext, L_S]
  show ((L s).take (i + 1)).drop i = _
  rw [List.take_add_one, List.drop_append_of_le_length (by rw [List.length_take]; omega), List.drop_eq_nil_of_le (by rw [List.length_take]; omega), List.getElem?_eq_getElem h]
  rfl
theorem zS (l : List UInt8) : (S l).size = l.length := by rw [sz, L_S]
theorem reffold_l0 (s : ByteArray) (hs : (L s).length ≤ 1000000000) (d : Nat) : ∀ (i : Nat) (acc : List UInt8), i ≤ (L s).length → (L s).length - i = d → acc.length = i →
    Ev (fun k => bulletinref06_Fold.l0 k s (S acc) (i : Int)) (S (acc ++ ((L s).drop i).map low)) := by
  induction d with
  | zero =>
    intro i acc hi hd _
    refine up ?_
    simp only [bulletinref06_Fold.l0]
    refine neg (by rw [sz]; omega) (now' ?_)
    rw [List.drop_eq_nil_of_le (by omega)]
    simp
  | succ d ih =>
    intro i acc hi hd ha
    have hil : i < (L s).length := by omega
    have hz := zS acc
    refine up ?_
    simp only [bulletinref06_Fold.l0]
    refine pos (by rw [sz]; omega) (pos (by omega) ?_)
    rw [btn s i hil, wi i (by omega), ext1 s i hil]
    rw [List.drop_eq_getElem_cons hil, List.map_cons]
    have next : ∀ T : ByteArray, T = S [low (L s)[i]] → Ev (fun k => bulletinref06_Fold.l0 k s (S acc ++ T) ((i + 1 : Nat) : Int)) (S (acc ++ low (L s)[i] :: ((L s).drop (i + 1)).map low)) := by
      rintro T rfl
      have := ih (i + 1) (acc ++ [low (L s)[i]]) (by omega) (by omega) (by simp; omega)
      rw [List.append_assoc] at this
      rw [S_app]
      exact this
    have hx := (L s)[i].toNat_lt
    have plain : ¬ (65 ≤ (L s)[i].toNat ∧ (L s)[i].toNat ≤ 90) → Ev (fun k => (if (i : Int) ≤ ((i + 1 : Nat) : Int) then (if ((i + 1 : Nat) : Int) ≤ (s.size : Int) then (if (S acc).size + (S [(L s)[i]]).size ≤ 9223372036854775807 then (bulletinref06_Fold.l0 k s (S acc ++ S [(L s)[i]]) ((i + 1 : Nat) : Int)) else (none)) else (none)) else (none))) (S (acc ++ low (L s)[i] :: ((L s).drop (i + 1)).map low)) := by
      intro hc
      have z1 : (S [(L s)[i]]).size = 1 := rfl
      refine pos (by omega) (pos (by rw [sz]; omega) (pos (by omega) (next _ ?_)))
      unfold low
      rw [if_neg hc]
    by_cases c1 : 65 ≤ (L s)[i].toNat
    · refine pos (by omega) ?_
      by_cases c2 : (L s)[i].toNat ≤ 90
      · refine pos (by omega) (cbind rfl ?_)
        have e : strOfNums [((L s)[i].toNat + 32 : Int) % 256] = S [low (L s)[i]] := by
          rw [nums_eq]
          unfold low
          rw [if_pos ⟨c1, c2⟩]
          congr 1
          simp only [List.map_cons, List.map_nil]
          congr 2
          omega
        rw [e]
        have z1 : (S [low (L s)[i]]).size = 1 := rfl
        exact pos (by omega) (next _ rfl)
      · exact neg (by omega) (plain (by omega))
    · exact neg (by omega) (plain (by omega))
theorem reffold_ev (s : ByteArray) (hs : (L s).length ≤ 1000000000) : Ev (fun k => bulletinref06_Fold.f k s) (S (foldL (L s))) := by
  have := reffold_l0 s hs (L s).length 0 [] (by omega) (by omega) rfl
  rw [List.drop_zero, List.nil_append] at this
  exact this
end Go.Proofs.YthckkikfldgphaaDoor.Glyph
namespace Go.Proofs.YthckkikfldgphaaDoor.Verp
open Go.RowKit Go.Proofs.YthckkikfldgphaaDoor.X Go.Proofs.YthckkikfldgphaaDoorW.PrintWords Go.Proofs.YthckkikfldgphaaDoorW.PrintLast Go.Proofs.YthckkikfldgphaaDoorW.PrintMore Go.Proofs.YthckkikfldgphaaDoor.Aid
set_option linter.unusedVariables false
set_option linter.unusedSimpArgs false
theorem rsmall_eq (c : UInt8) : bulletinref24_small.f (c.toNat : Int) = some (sm c) := all8 (P := fun c => bulletinref24_small.f (c.toNat : Int) = some (sm c)) (by decide +kernel) c
theorem rfold_ev (s : ByteArray) (hs : (L s).length ≤ 1000000) : Ev (fun k => bulletinref06_Fold.f k s) (S (fo (L s))) := Glyph.reffold_ev s (by omega)
theorem rends_eq (a b : ByteArray) (ha : (L a).length ≤ 1000000) : bulletinref24_ends.f a b = some (ends (L a) (L b)) := hasSuffix_eq a b ha
theorem rname_ev (s : ByteArray) (hs : (L s).length ≤ 1000000) : Ev (fun k => bulletinref24_Name.f k s) (nm (L s)) := by
  unfold bulletinref24_Name.f
  have bad : Ev (fun k => bulletinref24_Name.j0 k s true) false := by
    refine up ?_
    simp only [bulletinref24_Name.j0]
    exact pos (by trivial) (now' rfl)
  by_cases h1 : L s = []
  · rw [h1]
    exact pos (by rw [sz, h1]; decide) bad
  have hp := ne_len h1
  refine neg (by rw [sz]; omega) ?_
  have hne : (!(L s).isEmpty) = true := by cases h : L s with | nil => exact absurd h h1 | cons => rfl
  unfold nm
  rw [hne, Bool.true_and]
  by_cases h2 : (L s).length ≤ 20
  · refine neg (by rw [sz]; omega) (pos (by rw [sz]; omega) ?_)
    rw [decide_eq_true h2, Bool.true_and, head_eq _ hp, last_eq _ hp, ← bne45, ← bne45]
    have b0 := btn s 0 hp
    rw [show ((0 : Nat) : Int) = 0 from rfl] at b0
    rw [b0, sz, w1 _ hp hs, btn s _ (by omega)]
    by_cases h3 : (((L s)[0]).toNat : Int) = 45
    · refine pos h3 ?_
      rw [bne, beq_iff_eq.2 h3]
      exact bad
    · refine neg h3 (pos (by omega) (pos (by omega) ?_))
      rw [bne, bne, beq_eq_false_iff_ne.2 h3]
      cases h4 : ((((L s)[(L s).length - 1]'(by omega)).toNat : Int) == 45) with
      | true => exact bad
      | false =>
        refine up ?_
        simp only [bulletinref24_Name.j0]
        refine neg (by simp) ?_
        have := loop_all0 (L s) (fun _ => nc) (!ends (L s) (sfx 2) && (!ends (L s) (sfx 3) && (!ends (L s) (sfx 4) && !ends (L s) (sfx 5)))) (fun k i => bulletinref24_Name.l0 k s (i : Int)) ?_ ?_ ?_
        · rw [allI_all] at this
          simp only [Bool.not_false, Bool.true_and, Bool.and_assoc]
          exact this
        · intro i h r hq hr
          refine up ?_
          simp only [bulletinref24_Name.l0]
          refine pos (by rw [sz]; omega) (pos (by omega) ?_)
          rw [btn s i h, wi i (by omega)]
          refine cbind (rsmall_eq _) ?_
          cases hsm : sm (L s)[i] with
          | true => exact pos (by trivial) hr
          | false =>
            unfold nc at hq
            rw [hsm, Bool.false_or, beq_iff_eq] at hq
            exact neg (by simp) (pos (by rw [hq]; rfl) hr)
        · intro i h hq
          refine up ?_
          simp only [bulletinref24_Name.l0]
          refine pos (by rw [sz]; omega) (pos (by omega) ?_)
          rw [btn s i h, wi i (by omega)]
          unfold nc at hq
          rw [Bool.or_eq_false_iff] at hq
          refine cbind (rsmall_eq _) ?_
          rw [hq.1]
          exact neg (by simp) (neg (fun e => by have := beq_eq_false_iff_ne.1 hq.2; exact this (u8i (by rw [e]; rfl))) (now' rfl))
        · refine up ?_
          simp only [bulletinref24_Name.l0]
          refine neg (by rw [sz]; omega) ?_
          have st : ∀ (r : Nat) (lit : ByteArray) (b : Nat → Option Bool) (fin : Bool), L lit = sfx r → Ev b fin → Ev (fun k => (bulletinref24_ends.f s lit).bind fun t => if t = true then some false else b k) (!ends (L s) (sfx r) && fin) := by
            intro r lit b fin hl hb
            refine cbind (rends_eq s lit hs) ?_
            rw [hl]
            cases ends (L s) (sfx r) with
            | true => exact pos (by trivial) (now' rfl)
            | false => exact neg (by simp) hb
          refine st 2 _ _ _ rfl (st 3 _ _ _ rfl (st 4 _ _ _ rfl ?_))
          exact cbind (rends_eq s _ hs) (now' rfl)
  · rw [decide_eq_false h2]
    simp only [Bool.false_and]
    exact pos (by rw [sz]; omega) bad
theorem rsuffix (r : Nat) (h : 1 ≤ r) (h5 : r ≤ 5) : bulletinref24_Suffix.f (r : Int) = some (S (sfx r)) := by
  have : r = 1 ∨ r = 2 ∨ r = 3 ∨ r = 4 ∨ r = 5 := by omega
  rcases this with rfl | rfl | rfl | rfl | rfl <;> rfl
theorem rlocal_ev (a e : ByteArray) (r : Nat) (ha : (L a).length ≤ 1000000) (he : (L e).length ≤ 1000000) (h1 : 1 ≤ r) (h5 : r ≤ 5) : Ev (fun k => bulletinref24_Local.f k a (r : Int) e) (S (loc (L a) r (L e))) := by
  unfold bulletinref24_Local.f
  have hl := sfx_len r
  refine neg (by omega) ?_
  have hd : decide ((r : Int) > 5) = false := decide_eq_false (by omega)
  rw [hd]
  refine up ?_
  simp only [bulletinref24_Local.j0]
  refine neg (by simp) ?_
  have hlc : loc (L a) r (L e) = if 4 ≤ r then L a ++ sfx r ++ 43 :: L e else L a ++ sfx r := by
    unfold loc
    rw [if_neg (by omega)]
  rw [hlc]
  by_cases h4 : 4 ≤ r
  · rw [if_pos h4]
    refine pos (by omega) (cbind (rsuffix r h1 h5) ?_)
    have z1 : (a ++ S (sfx r)).size = (L a).length + (sfx r).length := by rw [sz, L_app, List.length_append, L_S]
    have z2 : ((a ++ S (sfx r)) ++ (⟨#[43]⟩ : ByteArray)).size = (L a).length + (sfx r).length + 1 := by rw [sz, L_app, List.length_append, ← sz, z1]; rfl
    refine pos (by rw [zS, sz]; omega) (pos (by rw [z1]; omega) (pos (by rw [z2, sz e]; omega) (now' ?_)))
    apply L_inj
    rw [L_app, L_app, L_app, L_S, L_S, List.append_assoc (L a ++ sfx r)]
    rfl
  · rw [if_neg h4]
    refine neg (by omega) (cbind (rsuffix r h1 h5) ?_)
    refine pos (by rw [zS, sz]; omega) (now' ?_)
    apply L_inj
    rw [L_app, L_S, L_S]
theorem rlocal_bad (a e : ByteArray) (r : Int) (h : r < 1 ∨ 5 < r) : Ev (fun k => bulletinref24_Local.f k a r e) (S []) := by
  unfold bulletinref24_Local.f
  by_cases h1 : r < 1
  · refine pos h1 (up ?_)
    simp only [bulletinref24_Local.j0]
    exact pos (by trivial) (now' rfl)
  · refine neg h1 ?_
    have hd : decide (r > 5) = true := decide_eq_true (by omega)
    rw [hd]
    refine up ?_
    simp only [bulletinref24_Local.j0]
    exact pos (by trivial) (now' rfl)
theorem R_take {t l e : List UInt8} {r : Nat} (h : R t l r e) : t.take l.length = l ∧ l.length ≤ t.length := by
  have h1 := h.lo
  have h5 := h.hi
  have e1 : ∃ u, t = l ++ u := by
    rw [h.eq]
    unfold loc
    rw [if_neg (by omega)]
    split
    · exact ⟨_, List.append_assoc ..⟩
    · exact ⟨_, rfl⟩
  obtain ⟨u, rfl⟩ := e1
  exact ⟨List.take_left, by simp⟩
/-- the reference's search, from a place on -/
theorem rsearch (t : List UInt8) (ht : t.length ≤ 1000000) : ∀ (m kk role : Nat), (t.length + 1 - kk) * 8 + (7 - role) ≤ m → 1 ≤ role → role ≤ 6 → kk ≤ t.length → (∀ l r e, readP t = some (l, r, e) → kk < l.length ∨ (kk = l.length ∧ role ≤ r)) →
    Ev (fun k => bulletinref24_Read.l1 k (S t) (kk : Int) (role : Int)) (enR (readP t))
  | 0, kk, role, hm, h1, h6, hk, _ => by omega
  | m + 1, kk, role, hm, h1, h6, hk, hC => by
    refine up ?_
    simp only [bulletinref24_Read.l1]
    by_cases h5 : role ≤ 5
    · refine pos (by omega) (pos (by omega) (pos (by rw [zS]; omega) ?_))
      have hx : (S t).extract 0 (kk : Int).toNat = S (t.take kk) := by
        apply L_inj
        rw [L_from_start, L_S, L_S, Int.toNat_natCast]
      rw [hx, wi role (by omega)]
      have hlt : (t.take kk).length = kk := by rw [List.length_take]; omega
      have hn := rname_ev (S (t.take kk)) (by rw [L_S]; omega)
      rw [L_S] at hn
      refine Ev.bind hn ?_
      have go : (∀ e, ¬ R t (t.take kk) role e) → Ev (fun k => bulletinref24_Read.l1 k (S t) (kk : Int) ((role + 1 : Nat) : Int)) (enR (readP t)) := by
        intro hno
        refine rsearch t ht m kk (role + 1) (by omega) (by omega) (by omega) hk fun l r e h => ?_
        rcases hC l r e h with g | ⟨g1, g2⟩
        · exact .inl g
        · refine .inr ⟨g1, ?_⟩
          rcases Nat.lt_or_ge role r with g3 | g3
          · omega
          · exfalso
            have hR := readP_R h
            have := (R_take hR).1
            rw [← g1] at this
            refine hno e ?_
            rw [this, show role = r from by omega]
            exact hR
      cases hnm : nm (t.take kk) with
      | false => exact neg (by simp) (go fun e hR => by have := hR.name; rw [hnm] at this; cases this)
      | true =>
        have hll := rlocal_ev (S (t.take kk)) (⟨#[]⟩ : ByteArray) role (by rw [L_S]; omega) (by show 0 ≤ 1000000; omega) h1 h5
        rw [L_S, show L (⟨#[]⟩ : ByteArray) = [] from rfl] at hll
        refine pos (by trivial) (Ev.bind hll ?_)
        have fin : ∀ e, R t (t.take kk) role e → enR (readP t) = (S (t.take kk), (role : Int), S e, 0) := fun e hR => by rw [readP_of hR]; rfl
        have hbig : ∀ b : Bool, (b = true → R t (t.take kk) role []) → (b = false → ¬ R t (t.take kk) role []) → Ev (fun k => bulletinref24_Read.j2 k (S t) (kk : Int) (role : Int) (S (t.take kk)) (S (loc (t.take kk) role [])) b) (enR (readP t)) := by
          intro b hb1 hb2
          refine up ?_
          simp only [bulletinref24_Read.j2]
          rw [wi role (by omega)]
          cases b with
          | true => exact pos (by trivial) (now' (fin [] (hb1 rfl)).symm)
          | false =>
            refine neg (by simp) ?_
            by_cases h4 : 4 ≤ role
            · refine pos (by omega) ?_
              have hlo : loc (t.take kk) role [] = t.take kk ++ sfx role ++ [43] := by
                unfold loc
                rw [if_neg (by omega), if_pos h4]
              obtain ⟨fr, hfr⟩ : ∃ fr, loc (t.take kk) role [] = fr := ⟨_, rfl⟩
              rw [hfr] at hlo
              rw [hfr]
              have hRe : ∀ e, R t (t.take kk) role e → t = fr ++ e ∧ e ≠ [] := fun e hR => by
                have := hR.eq
                unfold loc at this
                rw [if_neg (by omega), if_pos h4] at this
                exact ⟨by rw [hlo, List.append_assoc (t.take kk ++ sfx role)]; exact this, hR.more h4⟩
              by_cases g1 : fr.length < t.length
              · refine pos (by rw [zS, zS]; omega) (pos (by omega) (pos (by rw [zS, zS]; omega) ?_))
                have hx2 : (S t).extract 0 (S fr).size = S (t.take fr.length) := by
                  apply L_inj
                  rw [L_from_start, L_S, L_S, zS]
                rw [hx2]
                by_cases g2 : t.take fr.length = fr
                · refine pos (by rw [tl, tl, L_S, L_S, g2]) (now' ?_)
                  have hR : R t (t.take kk) role (t.drop fr.length) := by
                    refine ⟨hnm, h1, h5, ?_, fun _ e => ?_, fun h => by omega⟩
                    · unfold loc
                      rw [if_neg (by omega), if_pos h4]
                      have : t = fr ++ t.drop fr.length := by conv => lhs; rw [← List.take_append_drop fr.length t, g2]
                      conv => lhs; rw [this]
                      rw [hlo, List.append_assoc (t.take kk ++ sfx role)]
                      rfl
                    · have := congrArg List.length e
                      rw [List.length_drop, List.length_nil] at this
                      omega
                  rw [fin _ hR]
                  congr 3
                  apply L_inj
                  rw [L_to_end, L_S, L_S, zS]
                · refine neg (by rw [tl, tl, L_S, L_S]; exact g2) (go fun e hR => ?_)
                  obtain ⟨he, _⟩ := hRe e hR
                  apply g2
                  conv => lhs; rw [he]
                  exact List.take_left
              · refine neg (by rw [zS, zS]; omega) (go fun e hR => ?_)
                obtain ⟨he, hne⟩ := hRe e hR
                have := congrArg List.length he
                rw [List.length_append] at this
                exact hne (List.eq_nil_of_length_eq_zero (by omega))
            · refine neg (by omega) (go fun e hR => ?_)
              have := hR.less (by omega)
              subst this
              exact hb2 rfl hR
        by_cases h3 : role ≤ 3
        · refine pos (by omega) ?_
          have hlo : loc (t.take kk) role [] = t.take kk ++ sfx role := by
            unfold loc
            rw [if_neg (by omega), if_neg (by omega)]
          refine hbig _ (fun hb => ?_) (fun hb hR => ?_)
          · rw [tl, tl, L_S, L_S, beq_iff_eq] at hb
            exact ⟨hnm, h1, h5, hb.symm, fun h => by omega, fun _ => rfl⟩
          · rw [tl, tl, L_S, L_S, beq_eq_false_iff_ne] at hb
            exact hb hR.eq.symm
        · refine neg (by omega) (hbig _ (fun hb => by cases hb) (fun _ hR => hR.more (by omega) rfl))
    · refine neg (by omega) ?_
      refine up ?_
      simp only [bulletinref24_Read.l0]
      rw [wi kk (by omega)]
      by_cases hk2 : kk + 1 ≤ t.length
      · refine pos (by rw [zS]; omega) ?_
        refine rsearch t ht m (kk + 1) 1 (by omega) (by omega) (by omega) hk2 fun l r e h => ?_
        have := (readP_R h).lo
        have h9 := (readP_R h).hi
        rcases hC l r e h with g | ⟨g1, g2⟩ <;> omega
      · refine neg (by rw [zS]; omega) (now' ?_)
        cases hr : readP t with
        | none => rfl
        | some z =>
          exfalso
          obtain ⟨l, r, e⟩ := z
          have h9 := (readP_R hr).hi
          have := (R_take (readP_R hr)).2
          rcases hC l r e hr with g | ⟨g1, g2⟩ <;> omega
theorem rread_ev (s : ByteArray) (hs : (L s).length ≤ 1000000) : Ev (fun k => bulletinref24_Read.f k s) (enR (readP (fo (L s)))) := by
  unfold bulletinref24_Read.f
  refine Ev.bind (rfold_ev s hs) ?_
  refine up ?_
  simp only [bulletinref24_Read.l0]
  refine pos (by omega) ?_
  refine rsearch (fo (L s)) (by rw [fo_len]; exact hs) _ 0 1 (Nat.le_refl _) (by omega) (by omega) (by omega) fun l r e h => ?_
  have := (readP_R h).lo
  have h2 := (nm_parts (readP_R h).name).1
  exact .inl (ne_len h2)
theorem reads_law (a0 a1 : ByteArray) (a2 : Int) (a3 : ByteArray) (h0 : a0.size ≤ 140737488351232) (h1 : a1.size ≤ 140737488351232) (h2 : (Lit.int .i64 a2).wf = true) (h3 : a3.size ≤ 140737488351232) :
    Ev (fun k => bulletinlaw24_VerpReads.f k a0 a1 a2 a3) true := by
  unfold bulletinlaw24_VerpReads.f
  have big : Ev (fun k => bulletinlaw24_VerpReads.j0 k a0 a1 a2 a3 true) true := by
    refine up ?_
    simp only [bulletinlaw24_VerpReads.j0]
    exact pos (by trivial) (Ev.bind works_ev (now' rfl))
  by_cases z0 : (a0.size : Int) > 300
  · exact pos z0 big
  refine neg z0 ?_
  by_cases z1 : (a1.size : Int) > 300
  · exact pos z1 big
  refine neg z1 ?_
  by_cases z3 : (a3.size : Int) > 300
  · rw [decide_eq_true z3]; exact big
  rw [decide_eq_false z3]
  rw [sz] at z0 z1 z3
  refine up ?_
  simp only [bulletinlaw24_VerpReads.j0]
  have loc2 : ∃ x, Ev (fun k => verp_Local.f k a1 a2 a3) x ∧ Ev (fun k => bulletinref24_Local.f k a1 a2 a3) x := by
    by_cases hr : a2 < 1 ∨ 5 < a2
    · exact ⟨_, local_bad a1 a3 a2 hr, rlocal_bad a1 a3 a2 hr⟩
    · obtain ⟨r, rfl⟩ : ∃ r : Nat, a2 = r := ⟨a2.toNat, by omega⟩
      exact ⟨_, local_ev a1 a3 r (by omega) (by omega) (by omega) (by omega), rlocal_ev a1 a3 r (by omega) (by omega) (by omega) (by omega)⟩
  obtain ⟨x, l1, l2⟩ := loc2
  refine neg (by simp) (Ev.bind (read_ev a0 (by omega)) (Ev.bind (rread_ev a0 (by omega)) (pos (by rfl) (pos (by rfl) (pos (by rfl) (pos (by rfl) ?_))))))
  refine Ev.bind (name_ev a1 (by omega)) (Ev.bind (rname_ev a1 (by omega)) (pos (beq_self_eq_true _) ?_))
  refine Ev.bind (name_ev a0 (by omega)) (Ev.bind (rname_ev a0 (by omega)) (pos (beq_self_eq_true _) ?_))
  exact Ev.bind l1 (Ev.bind l2 (pos (by rfl) (Ev.bind works_ev (now' rfl))))
end Go.Proofs.YthckkikfldgphaaDoor.Verp
