/- The pure statements of the laws of layer 1 (nets). -/
import Derived.Test.YtpkmbbmipoecpaaNetsP
namespace Go.Proofs.Ytpkmbbmipoecpaa.Nets
open Go.RowKit Go.Proofs.Ytpkmbbmipoecpaa.X Go.Proofs.YtpkmbbmipoecpaaW.PrintWords Go.Proofs.YtpkmbbmipoecpaaW.PrintLast Go.Proofs.Ytpkmbbmipoecpaa.Aid
set_option linter.unusedVariables false
set_option linter.unusedSimpArgs false

theorem lit_le {s : ByteArray} (n : Nat) (h : s.size = n) (hn : n ≤ 1000) : s.size ≤ 140737488351232 := by omega
theorem works_ev : Ev (fun k => bulletinlaw01_works.f k) true := by
  unfold bulletinlaw01_works.f
  refine Ev.bind (take_ev _ (lit_le 6 rfl (by decide))) ?_
  refine Ev.bind (put_ev _ (lit_le 2 rfl (by decide))) ?_
  have e1 : takeT (⟨#[50, 58, 104, 105, 44, 120]⟩ : ByteArray) = (S [104, 105], S [120], 0) := by
    have : L (⟨#[50, 58, 104, 105, 44, 120]⟩ : ByteArray) = putL [104, 105] ++ [120] := by
      rw [show L (⟨#[50, 58, 104, 105, 44, 120]⟩ : ByteArray) = [50, 58, 104, 105, 44, 120] from rfl]
      simp [putL, digL_small, B]
    unfold takeT
    rw [this, take_put _ _ (by decide)]
  have e2 : (S (putL (L (⟨#[104, 105]⟩ : ByteArray)))) = S [50, 58, 104, 105, 44] := by
    rw [show L (⟨#[104, 105]⟩ : ByteArray) = [104, 105] from rfl]
    simp [putL, digL_small, B]
  rw [e1, e2]
  simp only [tl, L_S]
  refine pos (by trivial) (pos (by trivial) (pos (by trivial) (pos (by trivial) ?_)))
  have hx : ∀ x ∈ ([(⟨#[97]⟩ : ByteArray), (⟨#[]⟩ : ByteArray)] : List ByteArray), x.size ≤ 10 := by
    intro x hx
    rcases List.mem_cons.1 hx with rfl | hx
    · exact Nat.le_of_ble_eq_true rfl
    · rcases List.mem_cons.1 hx with rfl | hx
      · exact Nat.le_of_ble_eq_true rfl
      · exact absurd hx List.not_mem_nil
  refine Ev.bind (row_ev _ 10 hx (by omega) (by simp only [List.length_cons, List.length_nil]; omega)) (now' ?_)
  have e3 : rowL (List.map L [(⟨#[97]⟩ : ByteArray), (⟨#[]⟩ : ByteArray)]) = [49, 58, 97, 44, 48, 58, 44] := by
    show rowL [[97], []] = _
    simp [rowL, putL, digL_small, B]
  rw [e3, L_S]
  decide
theorem works_bind {f : Nat → Bool → Option Bool} {r : Bool} (k : Ev (fun n => f n true) r) : Ev (fun n => (bulletinlaw01_works.f n).bind (f n)) r := Ev.bind works_ev k

theorem NetsTakes : bulletinlaw01_NetsTakes.Pure := by
  intro s t hs ht
  refine Ev.rounds (r := true) (g := fun k => bulletinlaw01_NetsTakes.f k s t) ?_
  have hw : Ev (fun k => bulletinlaw01_NetsTakes.j0 k s t true) true := by
    refine up ?_
    simp only [bulletinlaw01_NetsTakes.j0]
    exact pos (by trivial) (works_bind (Ev.now _))
  unfold bulletinlaw01_NetsTakes.f
  refine ite_ev (fun _ => hw) (fun h1 => ?_)
  by_cases h2 : (t.size : Int) > 3000
  · rw [decide_eq_true h2]; exact hw
  · rw [decide_eq_false h2]
    refine up ?_
    simp only [bulletinlaw01_NetsTakes.j0]
    refine neg (by simp) ?_
    refine Ev.bind (take_ev t ht) (Ev.bind (reftake_ev t ht) (Ev.bind (put_ev s hs) (Ev.bind (refput_ev s hs) ?_)))
    exact pos (by rfl) (pos (by rfl) (pos (by rfl) (pos (by rfl) (works_bind (Ev.now _)))))

theorem NetsBack : bulletinlaw01_NetsBack.Pure := by
  intro s b hs hb
  refine Ev.rounds (r := true) (g := fun k => bulletinlaw01_NetsBack.f k s b) ?_
  have hw : Ev (fun k => bulletinlaw01_NetsBack.j0 k s b true) true := by
    refine up ?_
    simp only [bulletinlaw01_NetsBack.j0]
    exact pos (by trivial) (Ev.now _)
  unfold bulletinlaw01_NetsBack.f
  refine works_bind (pos (by trivial) ?_)
  refine ite_ev (fun _ => hw) (fun h1 => ?_)
  by_cases h2 : (b.size : Int) > 3000
  · rw [decide_eq_true h2]; exact hw
  rw [decide_eq_false h2]
  refine up ?_
  simp only [bulletinlaw01_NetsBack.j0]
  refine neg (by simp) (Ev.bind (put_ev s hs) ?_)
  have h1' : (L s).length ≤ 3000 := by rw [← sz]; omega
  have h2' : (L b).length ≤ 3000 := by rw [← sz]; omega
  have hd := digL_len 19 (L s).length (by omega) (by omega)
  have z1 : (S (putL (L s))).size ≤ 4000 := by
    rw [sz, L_S]; unfold putL; simp only [List.length_append, List.length_cons, List.length_nil]; omega
  refine pos (by omega) ?_
  refine Ev.bind (take_ev _ (by rw [ByteArray.size_append]; omega)) ?_
  have e1 : takeT (S (putL (L s)) ++ b) = (s, b, 0) := by
    unfold takeT
    rw [L_app, L_S, take_put _ _ (by omega), S_L, S_L]
  rw [e1]
  refine pos (by rfl) (pos (by rfl) ?_)
  refine up ?_
  simp only [bulletinlaw01_NetsBack.j1]
  refine neg (by simp) (Ev.bind (take_ev b hb) ?_)
  by_cases h3 : (takeL (L b)).2.2 = 0
  · refine pos h3 ?_
    have hq : takeL (L b) = ((takeL (L b)).1, (takeL (L b)).2.1, 0) := by rw [← h3]
    have hp := put_take _ _ _ hq
    have hlen := congrArg List.length hp
    rw [List.length_append] at hlen
    have hu : (takeL (L b)).1.length ≤ (putL (takeL (L b)).1).length := by
      unfold putL; simp only [List.length_append]; omega
    have z2 : (S (takeL (L b)).1).size = (takeL (L b)).1.length := by rw [sz, L_S]
    refine Ev.bind (put_ev (takeT b).1 (by unfold takeT; rw [z2]; omega)) ?_
    unfold takeT
    rw [L_S]
    have z3 : (S (putL (takeL (L b)).1)).size = (putL (takeL (L b)).1).length := by rw [sz, L_S]
    have z4 : (S (takeL (L b)).2.1).size = (takeL (L b)).2.1.length := by rw [sz, L_S]
    refine pos (by rw [z3, z4]; omega) (now' ?_)
    rw [S_app, hp, S_L]
    simp
  · refine neg h3 ?_
    have hq : takeL (L b) = ((takeL (L b)).1, (takeL (L b)).2.1, (takeL (L b)).2.2) := rfl
    obtain ⟨e3, e4⟩ := take_fail _ _ _ _ hq h3
    unfold takeT
    rw [e3, e4]
    simp only [tl, L_S]
    exact pos (by trivial) (pos (by trivial) (Ev.now _))

/-! ### lists -/
theorem map_L_inj : ∀ {a b : List ByteArray}, a.map L = b.map L → a = b
  | [], [], _ => rfl
  | [], _ :: _, h => by simp at h
  | _ :: _, [], h => by simp at h
  | x :: xs, y :: ys, h => by
    simp only [List.map_cons, List.cons.injEq] at h
    rw [L_inj h.1, map_L_inj h.2]
theorem same_l0 (a b : List ByteArray) (hl : a.length = b.length) (hq : a.length ≤ 1000000) (d : Nat) : ∀ i : Nat, i ≤ a.length → a.length - i = d →
    Ev (fun k => bulletinbook_SameTexts.l0 k a b true (i : Int)) (decide (a.drop i = b.drop i)) := by
  induction d with
  | zero =>
    intro i hi hd
    refine up ?_
    simp only [bulletinbook_SameTexts.l0]
    refine pos (by trivial) (neg (by omega) (now' ?_))
    rw [List.drop_eq_nil_of_le (by omega), List.drop_eq_nil_of_le (by omega)]
    simp
  | succ d ih =>
    intro i hi hd
    have h1 : i < a.length := by omega
    have h2 : i < b.length := by omega
    refine up ?_
    simp only [bulletinbook_SameTexts.l0]
    refine pos (by trivial) (pos (by omega) (pos (by omega) (pos (by omega) ?_)))
    have hdr : (a.drop i = b.drop i) ↔ (a[i] = b[i] ∧ a.drop (i + 1) = b.drop (i + 1)) := by
      rw [List.drop_eq_getElem_cons h1, List.drop_eq_getElem_cons h2, List.cons.injEq]
    rw [rdOf_nat _ _ _ h1, rdOf_nat _ _ _ h2, beq_L]
    simp only [hdr]
    rw [wi i (by omega)]
    by_cases heq : a[i] = b[i]
    · rw [decide_eq_true heq]
      have := ih (i + 1) (by omega) (by omega)
      simpa only [heq, true_and] using this
    · rw [decide_eq_false heq]
      refine up ?_
      simp only [bulletinbook_SameTexts.l0]
      refine neg (by simp) (now' ?_)
      simp [heq]
theorem same_ev (a b : List ByteArray) (hq : a.length ≤ 1000000) (hq2 : b.length ≤ 1000000) : Ev (fun k => bulletinbook_SameTexts.f k a b) (decide (a = b)) := by
  unfold bulletinbook_SameTexts.f
  by_cases hl : a.length = b.length
  · have : ((a.length : Int) == (b.length : Int)) = true := by simp [hl]
    rw [this]
    simpa using same_l0 a b hl hq a.length 0 (by omega) (by omega)
  · have : ((a.length : Int) == (b.length : Int)) = false := by
      rw [beq_eq_false_iff_ne]; omega
    rw [this]
    refine up ?_
    simp only [bulletinbook_SameTexts.l0]
    refine neg (by simp) (now' ?_)
    have : ¬ a = b := fun e => hl (by rw [e])
    simp [this]

theorem textsL_count (k : Nat) : ∀ l acc, (textsL k l acc).1.length ≤ acc.length + k ∧ (∀ N, (∀ x ∈ acc, x.length ≤ N) → l.length ≤ N → ∀ x ∈ (textsL k l acc).1, x.length ≤ N) := by
  induction k with
  | zero => intro l acc; exact ⟨by simp [textsL], fun N h _ => by simpa [textsL] using h⟩
  | succ k ih =>
    intro l acc
    simp only [textsL]
    by_cases h1 : l = []
    · rw [if_pos h1]; exact ⟨by simp, fun N h _ => h⟩
    rw [if_neg h1]
    by_cases h2 : (takeL l).2.2 = 0
    · rw [if_pos h2]
      have hq : takeL l = ((takeL l).1, (takeL l).2.1, 0) := by rw [← h2]
      have h4 := congrArg List.length (put_take _ _ _ hq)
      rw [List.length_append] at h4
      have hu : (takeL l).1.length ≤ (putL (takeL l).1).length := by
        unfold putL; simp only [List.length_append]; omega
      obtain ⟨i1, i2⟩ := ih (takeL l).2.1 (acc ++ [(takeL l).1])
      refine ⟨by simp at i1; omega, fun N h hN => i2 N ?_ (by omega)⟩
      intro x hx
      rw [List.mem_append] at hx
      rcases hx with hx | hx
      · exact h x hx
      · simp only [List.mem_singleton] at hx
        subst hx; omega
    · rw [if_neg h2]; exact ⟨by simp, fun N _ _ => by simp⟩

/-- law NetsApart, whatever the lists -/
theorem apart_ev (a b : List ByteArray) (s : ByteArray) (ha : a.length ≤ 140737488351232) (hb : b.length ≤ 140737488351232) (hs : s.size ≤ 140737488351232) : Ev (fun k => bulletinlaw01_NetsApart.f k a b s) true := by
  have hw : Ev (fun k => bulletinlaw01_NetsApart.j0 k a b s true) true := by
    refine up ?_
    simp only [bulletinlaw01_NetsApart.j0]
    exact pos (by trivial) (Ev.now _)
  unfold bulletinlaw01_NetsApart.f
  refine works_bind (pos (by trivial) ?_)
  refine ite_ev (fun _ => hw) (fun h1 => ite_ev (fun _ => hw) (fun h2 => ?_))
  by_cases h3 : (s.size : Int) > 3000
  · rw [decide_eq_true h3]; exact hw
  rw [decide_eq_false h3]
  refine up ?_
  simp only [bulletinlaw01_NetsApart.j0]
  refine neg (by simp) ?_
  have h3' : (L s).length ≤ 3000 := by rw [← sz]; omega
  -- the end
  have fin : (∀ x ∈ a, x.size ≤ 300) → (∀ x ∈ b, x.size ≤ 300) → Ev (fun k => (nets_Row.f k a).bind fun t159 => ((nets_Row.f k b).bind fun t160 => ((bulletinbook_SameTexts.f k a b).bind fun t161 => (if ((t159.toList == t160.toList) != t161) = true then (some false) else ((nets_Texts.f k s).bind fun bt162 => (if bt162.2 = 0 then ((nets_Row.f k bt162.1).bind fun t166 => (some (t166.toList == s.toList))) else (if (bt162.1.length : Int) = 0 then (some true) else (some false)))))))) true := by
    intro hxa hxb
    refine Ev.bind (row_ev a 300 hxa (by omega) (by omega)) (Ev.bind (row_ev b 300 hxb (by omega) (by omega)) (Ev.bind (same_ev a b (by omega) (by omega)) ?_))
    have hsame : (((S (rowL (a.map L))).toList == (S (rowL (b.map L))).toList) != decide (a = b)) = false := by
      rw [beq_L]
      have : (S (rowL (a.map L)) = S (rowL (b.map L))) ↔ a = b := by
        constructor
        · intro h
          have := S_inj h
          refine map_L_inj (row_inj _ _ ?_ ?_ this)
          · intro x hx
            obtain ⟨y, hy, rfl⟩ := List.mem_map.1 hx
            have := hxa y hy
            rw [sz] at this; omega
          · intro x hx
            obtain ⟨y, hy, rfl⟩ := List.mem_map.1 hx
            have := hxb y hy
            rw [sz] at this; omega
        · intro h; rw [h]
      simp [this]
    rw [hsame]
    refine neg (by simp) (Ev.bind (texts_ev s (by omega)) ?_)
    obtain ⟨c1, c2⟩ := textsL_count (L s).length (L s) []
    have c3 := c2 3000 (by simp) h3'
    by_cases h0 : (textsL (L s).length (L s) []).2 = 0
    · refine pos h0 (Ev.bind (row_ev _ 3000 ?_ (by omega) (by simp at c1 ⊢; omega)) (now' ?_))
      · intro x hx
        obtain ⟨y, hy, rfl⟩ := List.mem_map.1 hx
        rw [sz, L_S]
        exact c3 y hy
      · have hq : textsL (L s).length (L s) [] = ((textsL (L s).length (L s) []).1, 0) := by rw [← h0]
        have := row_texts _ _ _ _ (Nat.le_refl _) hq
        rw [beq_L]
        simp only [List.map_map, Function.comp_def, L_S, List.map_id']
        rw [this]
        simp [rowL, S_L]
    · have hq : textsL (L s).length (L s) [] = ((textsL (L s).length (L s) []).1, (textsL (L s).length (L s) []).2) := rfl
      have := texts_fail _ _ _ _ _ hq h0
      refine neg h0 (pos ?_ (Ev.now _))
      rw [this]; rfl
  -- the second loop
  have loop1 : (∀ x ∈ a, x.size ≤ 300) → ∀ (d i : Nat), i ≤ b.length → b.length - i = d → (∀ x ∈ b.take i, x.size ≤ 300) → Ev (fun k => bulletinlaw01_NetsApart.l1 k a b s (b.length : Int) (i : Int)) true := by
    intro hxa d
    induction d with
    | zero =>
      intro i hi hd hx
      refine up ?_
      simp only [bulletinlaw01_NetsApart.l1]
      refine neg (by omega) (fin hxa ?_)
      rwa [List.take_of_length_le (by omega)] at hx
    | succ d ih =>
      intro i hi hd hx
      have hil : i < b.length := by omega
      refine up ?_
      simp only [bulletinlaw01_NetsApart.l1]
      refine pos (by omega) (pos (by omega) (pos (by omega) ?_))
      rw [rdOf_nat _ _ _ hil]
      refine ite_ev (fun _ => Ev.now _) (fun h => ?_)
      rw [wi i (by omega)]
      refine ih (i + 1) (by omega) (by omega) ?_
      intro x hx'
      rw [List.take_succ_eq_append_getElem hil, List.mem_append] at hx'
      rcases hx' with hx' | hx'
      · exact hx x hx'
      · simp only [List.mem_singleton] at hx'
        subst hx'; omega
  have loop0 : ∀ (d i : Nat), i ≤ a.length → a.length - i = d → (∀ x ∈ a.take i, x.size ≤ 300) → Ev (fun k => bulletinlaw01_NetsApart.l0 k a b s (a.length : Int) (i : Int)) true := by
    intro d
    induction d with
    | zero =>
      intro i hi hd hx
      refine up ?_
      simp only [bulletinlaw01_NetsApart.l0]
      refine neg (by omega) (loop1 ?_ b.length 0 (by omega) (by omega) (by simp))
      rwa [List.take_of_length_le (by omega)] at hx
    | succ d ih =>
      intro i hi hd hx
      have hil : i < a.length := by omega
      refine up ?_
      simp only [bulletinlaw01_NetsApart.l0]
      refine pos (by omega) (pos (by omega) (pos (by omega) ?_))
      rw [rdOf_nat _ _ _ hil]
      refine ite_ev (fun _ => Ev.now _) (fun h => ?_)
      rw [wi i (by omega)]
      refine ih (i + 1) (by omega) (by omega) ?_
      intro x hx'
      rw [List.take_succ_eq_append_getElem hil, List.mem_append] at hx'
      rcases hx' with hx' | hx'
      · exact hx x hx'
      · simp only [List.mem_singleton] at hx'
        subst hx'; omega
  exact loop0 a.length 0 (by omega) (by omega) (by simp)

/-- law NetsRows, whatever the lists -/
theorem rows_ev (l : List ByteArray) (s : ByteArray) (n : Int) (hl : l.length ≤ 140737488351232) (hs : s.size ≤ 140737488351232) (hn : (Lit.int .i64 n).wf = true) : Ev (fun k => bulletinlaw01_NetsRows.f k l s n) true := by
  have hwk : ∀ {g : Nat → Option Bool}, (∀ k, g k = (bulletinlaw01_works.f k).bind fun t => some t) → Ev g true := fun h => Ev.congr h (works_bind (Ev.now _))
  have hw : Ev (fun k => bulletinlaw01_NetsRows.j0 k l s n true) true := by
    refine up ?_
    simp only [bulletinlaw01_NetsRows.j0]
    exact pos (by trivial) (works_bind (Ev.now _))
  unfold bulletinlaw01_NetsRows.f
  refine ite_ev (fun _ => hw) (fun h1 => ?_)
  by_cases h3 : (s.size : Int) > 3000
  · rw [decide_eq_true h3]; exact hw
  rw [decide_eq_false h3]
  refine up ?_
  simp only [bulletinlaw01_NetsRows.j0]
  refine neg (by simp) ?_
  have h3' : (L s).length ≤ 3000 := by rw [← sz]; omega
  obtain ⟨c1, c2⟩ := textsL_count (L s).length (L s) []
  simp only [List.length_nil, Nat.zero_add] at c1
  obtain ⟨R, hR⟩ : ∃ R, R = (textsL (L s).length (L s) []).1.map S := ⟨_, rfl⟩
  obtain ⟨z, hz⟩ : ∃ z, z = (textsL (L s).length (L s) []).2 := ⟨_, rfl⟩
  have hRl : R.length ≤ 3000 := by rw [hR, List.length_map]; omega
  have hRz : z ≠ 0 → R = [] := by
    intro h0
    have hq : textsL (L s).length (L s) [] = ((textsL (L s).length (L s) []).1, (textsL (L s).length (L s) []).2) := rfl
    rw [hR, texts_fail _ _ _ _ _ hq (by rw [← hz]; exact h0)]
    rfl
  have t1 := texts_ev s (by omega)
  have t2 := reftexts_ev s h3'
  rw [← hR, ← hz] at t1 t2
  have hsame : Ev (fun k => bulletinbook_SameTexts.f k R R) true := by simpa using same_ev R R (by omega) (by omega)
  have hnil : Ev (fun k => bulletinbook_SameTexts.f k ([] : List ByteArray) R) (decide ([] = R)) := same_ev [] R (by simp) (by omega)
  -- what Pick tells: P, d
  obtain ⟨P, d, hpick, hd0, hdne, hj2⟩ : ∃ (P : List ByteArray) (d : Int), Ev (fun k => nets_Pick.f k s n) (P, d) ∧ (d = 0 → P = R) ∧ (d ≠ 0 → P = []) ∧ d = (if z = 0 ∧ (R.length : Int) ≠ n then 3 else z) := by
    by_cases h0 : z = 0
    · by_cases hn : (R.length : Int) = n
      · refine ⟨R, z, ?_, fun _ => rfl, fun h => absurd h0 h, by rw [if_neg (fun h => h.2 hn)]⟩
        unfold nets_Pick.f
        exact Ev.bind t1 (pos h0 (pos hn (Ev.now _)))
      · refine ⟨[], 3, ?_, fun h => absurd h (by decide), fun _ => rfl, by rw [if_pos ⟨h0, hn⟩]⟩
        unfold nets_Pick.f
        exact Ev.bind t1 (pos h0 (neg hn (Ev.now _)))
    · refine ⟨R, z, ?_, fun _ => rfl, fun _ => hRz h0, by rw [if_neg (fun h => h0 h.1)]⟩
      unfold nets_Pick.f
      exact Ev.bind t1 (neg h0 (Ev.now _))
  have j4 : Ev (fun k => bulletinlaw01_NetsRows.j4 k R P d false) true := by
    refine up ?_
    simp only [bulletinlaw01_NetsRows.j4]
    refine neg (by simp) (ite_ev (fun h => ?_) (fun h => ?_))
    · rw [hd0 h]
      exact Ev.bind hsame (pos (by trivial) (works_bind (Ev.now _)))
    · rw [hdne h]
      exact pos (by rfl) (works_bind (Ev.now _))
  have j3 : (∀ x ∈ l, x.size ≤ 300) → Ev (fun k => bulletinlaw01_NetsRows.j3 k l R z R z P d d) true := by
    intro hx
    refine up ?_
    simp only [bulletinlaw01_NetsRows.j3]
    refine pos (by trivial) (Ev.bind hsame (pos (by trivial) (pos (by trivial) ?_)))
    refine Ev.bind (row_ev l 300 hx (by omega) (by omega)) (Ev.bind (refrow_ev l 300 hx (by omega) (by omega)) ?_)
    simpa using j4
  have j2 : (∀ x ∈ l, x.size ≤ 300) → ∀ b : Bool, (b = true ↔ z = 0 ∧ (R.length : Int) ≠ n) → Ev (fun k => bulletinlaw01_NetsRows.j2 k l R z R z P d z b) true := by
    intro hx b hb
    refine up ?_
    simp only [bulletinlaw01_NetsRows.j2]
    refine ite_ev (fun h => ?_) (fun h => ?_)
    · have := j3 hx
      rw [hj2, if_pos (hb.1 h)] at this ⊢
      exact this
    · have := j3 hx
      rw [hj2, if_neg (fun e => h (hb.2 e))] at this ⊢
      exact this
  have loop : ∀ (d' i : Nat), i ≤ l.length → l.length - i = d' → (∀ x ∈ l.take i, x.size ≤ 300) → Ev (fun k => bulletinlaw01_NetsRows.l0 k l s n (i : Int)) true := by
    intro d'
    induction d' with
    | zero =>
      intro i hi hd hx
      have hx' : ∀ x ∈ l, x.size ≤ 300 := by rwa [List.take_of_length_le (by omega)] at hx
      refine up ?_
      simp only [bulletinlaw01_NetsRows.l0]
      refine neg (by omega) (Ev.bind t1 (Ev.bind t2 (Ev.bind hpick ?_)))
      refine ite_ev (fun h0 => j2 hx' _ ?_) (fun h0 => j2 hx' _ ?_)
      · simp only [bne_iff_ne]
        exact ⟨fun h => ⟨h0, h⟩, fun h => h.2⟩
      · constructor
        · intro h; cases h
        · intro h; exact absurd h.1 h0
    | succ d' ih =>
      intro i hi hd hx
      have hil : i < l.length := by omega
      refine up ?_
      simp only [bulletinlaw01_NetsRows.l0]
      refine pos (by omega) (pos (by omega) ?_)
      rw [rdOf_nat _ _ _ hil]
      refine ite_ev (fun _ => works_bind (Ev.now _)) (fun h => ?_)
      rw [wi i (by omega)]
      refine ih (i + 1) (by omega) (by omega) ?_
      intro x hx'
      rw [List.take_succ_eq_append_getElem hil, List.mem_append] at hx'
      rcases hx' with hx' | hx'
      · exact hx x hx'
      · simp only [List.mem_singleton] at hx'
        subst hx'; omega
  exact loop l.length 0 (by omega) (by omega) (by simp)
end Go.Proofs.Ytpkmbbmipoecpaa.Nets
