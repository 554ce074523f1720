/- dot: which texts are lined, how many ends they have, and what a reader and a body make of a stuffed text: no memory. -/
import Derived.Test.YtpolfnckbfdhgaaDotL
import Derived.Test.YtpolfnckbfdhgaaCrlfF
namespace Go.Proofs.Ytpolfnckbfdhgaa.Dot
open Go.RowKit Go.Proofs.Ytpolfnckbfdhgaa.Mem Go.Proofs.Ytpolfnckbfdhgaa.SpL Go.Proofs.Ytpolfnckbfdhgaa.X Go.Proofs.YtpolfnckbfdhgaaW.PrintWords Go.Proofs.YtpolfnckbfdhgaaW.PrintLast Go.Proofs.YtpolfnckbfdhgaaW.PrintMore Go.Proofs.Ytpolfnckbfdhgaa.Aid Go.Proofs.Ytpolfnckbfdhgaa.Crlf
set_option linter.unusedVariables false
set_option linter.unusedSimpArgs false
def fineL (x : List UInt8) : Prop := bad x = false ∧ x.length ≤ 901
theorem lined_l0 (s : ByteArray) (hs : (L s).length ≤ 2000) (d : Nat) : ∀ (i at_ : Nat) (cur : List UInt8), i ≤ (L s).length → (L s).length - i ≤ d → at_ + cur.length = i → bad cur = false → cur.length ≤ 901 →
    ∃ r, Ev (fun k => bulletinlaw29_lined.l0 k s (at_ : Int) (i : Int)) r ∧ (r = true → (∀ x ∈ (sp cur ((L s).drop i)).1, fineL x) ∧ fineL (sp cur ((L s).drop i)).2) := by
  induction d with
  | zero =>
    intro i a cur hi hd ha hb hc
    have ss := sz s
    refine ⟨true, up ?_, fun _ => ?_⟩
    · simp only [bulletinlaw29_lined.l0]
      exact neg (by omega) (Ev.now _)
    · rw [List.drop_eq_nil_of_le (by omega), sp]
      exact ⟨by simp, hb, hc⟩
  | succ d ih =>
    intro i a cur hi hd ha hb hc
    have ss := sz s
    by_cases hil : i < (L s).length
    case neg =>
      refine ⟨true, up ?_, fun _ => ?_⟩
      · simp only [bulletinlaw29_lined.l0]
        exact neg (by omega) (Ev.now _)
      · rw [List.drop_eq_nil_of_le (by omega), sp]
        exact ⟨by simp, hb, hc⟩
    have no : ∀ {j : Nat → Option Bool}, Ev j false → ∃ r, Ev j r ∧ (r = true → (∀ x ∈ (sp cur ((L s).drop i)).1, fineL x) ∧ fineL (sp cur ((L s).drop i)).2) := fun h => ⟨false, h, fun e => by cases e⟩
    by_cases h9 : cur.length ≤ 900
    case neg =>
      refine no (up ?_)
      simp only [bulletinlaw29_lined.l0]
      refine pos (by omega) ?_
      rw [w64 (by omega) (by omega)]
      refine pos (by omega) (up ?_)
      simp only [bulletinlaw29_lined.j1]
      exact pos (by trivial) (Ev.now _)
    by_cases h10 : (L s)[i] = 10
    · refine no (up ?_)
      simp only [bulletinlaw29_lined.l0]
      refine pos (by omega) ?_
      rw [w64 (by omega) (by omega)]
      refine neg (by omega) (pos (by omega) (up ?_))
      simp only [bulletinlaw29_lined.j1]
      exact pos (by rw [btn s i hil, h10]; rfl) (Ev.now _)
    have go : ∀ r, Ev (fun k => (if 0 ≤ (i : Int) then (if (i : Int) < (s.size : Int) then (if (bt s (i : Int)) = 13 then (if (((i + 1 : Nat) : Int)) ≥ (s.size : Int) then (some false) else (if 0 ≤ (((i + 1 : Nat) : Int)) then (if (((i + 1 : Nat) : Int)) < (s.size : Int) then (if (bt s (((i + 1 : Nat) : Int))) = 10 then (bulletinlaw29_lined.l0 k s (((i + 2 : Nat) : Int)) (((i + 2 : Nat) : Int))) else (some false)) else (none)) else (none))) else (bulletinlaw29_lined.l0 k s (a : Int) (((i + 1 : Nat) : Int)))) else (none)) else (none))) r → Ev (fun k => bulletinlaw29_lined.l0 k s (a : Int) (i : Int)) r := by
      intro r h
      refine up ?_
      simp only [bulletinlaw29_lined.l0]
      refine pos (by omega) ?_
      rw [w64 (by omega) (by omega)]
      refine neg (by omega) (pos (by omega) (up ?_))
      simp only [bulletinlaw29_lined.j1]
      refine neg (by rw [btn s i hil]; simp only [beq_iff_eq]; exact fun e => h10 (u8i (d := 10) e)) ?_
      rw [wi i (by omega), wi (i + 1) (by omega)]
      exact h
    by_cases h13 : (L s)[i] = 13
    · by_cases hi1 : i + 1 < (L s).length
      case neg =>
        refine no (go _ (pos (by omega) (pos (by omega) (pos (by rw [btn s i hil, h13]; rfl) (pos (by omega) (Ev.now _))))))
      by_cases hn : (L s)[i + 1] = 10
      case neg =>
        refine no (go _ (pos (by omega) (pos (by omega) (pos (by rw [btn s i hil, h13]; rfl) (neg (by omega) (pos (by omega) (pos (by omega) (neg (by rw [btn s (i + 1) hi1]; exact fun e => hn (u8i (d := 10) e)) (Ev.now _)))))))))
      obtain ⟨r, h1, h2⟩ := ih (i + 2) (i + 2) [] (by omega) (by omega) (by simp) rfl (by simp)
      have hdr : (L s).drop i = 13 :: 10 :: (L s).drop (i + 2) := by rw [List.drop_eq_getElem_cons hil, List.drop_eq_getElem_cons hi1, h13, hn]
      rw [hdr, sp_hit]
      refine ⟨r, go _ (pos (by omega) (pos (by omega) (pos (by rw [btn s i hil, h13]; rfl) (neg (by omega) (pos (by omega) (pos (by omega) (pos (by rw [btn s (i + 1) hi1, hn]; rfl) h1))))))), fun e => ?_⟩
      obtain ⟨g1, g2⟩ := h2 e
      refine ⟨fun x hx => ?_, g2⟩
      rcases List.mem_cons.1 hx with rfl | hx
      · exact ⟨hb, by omega⟩
      · exact g1 x hx
    · have hbc : bad (cur ++ [(L s)[i]]) = false := by
        rw [bad_snoc, hb]
        simp [h10, h13]
      obtain ⟨r, h1, h2⟩ := ih (i + 1) a (cur ++ [(L s)[i]]) (by omega) (by omega) (by simp; omega) hbc (by simp; omega)
      have hm : ∀ u, (L s)[i] :: (L s).drop (i + 1) ≠ 13 :: 10 :: u := fun u e => h13 (List.cons.inj e).1
      rw [List.drop_eq_getElem_cons hil, sp_miss _ _ _ hm]
      exact ⟨r, go _ (pos (by omega) (pos (by omega) (neg (by rw [btn s i hil]; exact fun e => h13 (u8i (d := 13) e)) h1))), h2⟩
theorem lined_ev (s : ByteArray) (hs : (L s).length ≤ 2000) : ∃ r, Ev (fun k => bulletinlaw29_lined.f k s) r ∧ (r = true → ∀ x ∈ full (L s), fineL x) := by
  obtain ⟨r, h1, h2⟩ := lined_l0 s hs (L s).length 0 0 [] (by omega) (by omega) rfl rfl (by simp)
  refine ⟨r, h1, fun e x hx => ?_⟩
  obtain ⟨g1, g2⟩ := h2 e
  rw [List.drop_zero] at g1 g2
  unfold full at hx
  rcases List.mem_append.1 hx with hx | hx
  · exact g1 x hx
  · split at hx
    · cases hx
    · rw [List.mem_singleton.1 hx]; exact g2
def cnt (l : List UInt8) : Nat := l.countP (· == 10)
theorem ends_l0 (s : ByteArray) (hs : (L s).length ≤ 1000000) (d : Nat) : ∀ (i n : Nat), i ≤ (L s).length → (L s).length - i ≤ d → n ≤ i →
    Ev (fun k => bulletinlaw29_ends.l0 k s (n : Int) (s.size : Int) (i : Int)) ((n + cnt ((L s).drop i) : Nat) : Int) := by
  have ss := sz s
  induction d with
  | zero =>
    intro i n hi hd hn
    refine up ?_
    simp only [bulletinlaw29_ends.l0]
    refine neg (by omega) (now' ?_)
    rw [List.drop_eq_nil_of_le (by omega)]; rfl
  | succ d ih =>
    intro i n hi hd hn
    refine up ?_
    simp only [bulletinlaw29_ends.l0]
    by_cases hil : i < (L s).length
    case neg =>
      refine neg (by omega) (now' ?_)
      rw [List.drop_eq_nil_of_le (by omega)]; rfl
    refine pos (by omega) (pos (by omega) (pos (by omega) ?_))
    rw [btn s i hil, wi i (by omega), wi n (by omega), List.drop_eq_getElem_cons hil]
    unfold cnt
    rw [List.countP_cons]
    by_cases h10 : (L s)[i] = 10
    · have h := ih (i + 1) (n + 1) (by omega) (by omega) (by omega)
      refine pos (by rw [h10]; rfl) ?_
      rw [if_pos (by simp [h10]), show n + (List.countP (· == 10) ((L s).drop (i + 1)) + 1) = n + 1 + List.countP (· == 10) ((L s).drop (i + 1)) from by omega]
      exact h
    · have h := ih (i + 1) n (by omega) (by omega) (by omega)
      refine neg (fun e => h10 (u8i (d := 10) e)) ?_
      rw [if_neg (by simp [h10])]
      exact h
theorem ends_ev (s : ByteArray) (hs : (L s).length ≤ 1000000) : Ev (fun k => bulletinlaw29_ends.f k s) ((cnt (L s) : Nat) : Int) := by
  have h := ends_l0 s hs _ 0 0 (by omega) (Nat.le_refl _) (by omega)
  rw [List.drop_zero, Nat.zero_add] at h
  exact h
theorem sp_join (n : Nat) : ∀ (l cur : List UInt8), l.length ≤ n → cur ++ l = (sp cur l).1.flatMap (· ++ [13, 10]) ++ (sp cur l).2 := by
  induction n with
  | zero =>
    intro l cur h
    rw [List.length_eq_zero_iff.1 (by omega : l.length = 0), sp]
    simp
  | succ n ih =>
    intro l cur h
    cases l with
    | nil => rw [sp]; simp
    | cons c t =>
      by_cases hp : ∃ u, c :: t = 13 :: 10 :: u
      · obtain ⟨u, e⟩ := hp
        rw [e, sp_hit]
        rw [e] at h
        have := ih u [] (by simp at h; omega)
        simp only [List.nil_append] at this
        simp only [List.flatMap_cons, List.append_assoc]
        rw [← this]
        rfl
      · have hm := fun u e => hp ⟨u, e⟩
        rw [sp_miss cur c t hm, ← ih t (cur ++ [c]) (by simpa using h)]
        simp
theorem norm_join (l : List UInt8) : norm l = (full l).flatMap (· ++ [13, 10]) := by
  have h := sp_join (norm l).length (norm l) [] (Nat.le_refl _)
  rw [sp_norm] at h
  simpa using h
theorem cnt_clean : ∀ x : List UInt8, bad x = false → cnt x = 0
  | [], _ => rfl
  | c :: x, h => by
    rw [bad_cons] at h
    simp only [Bool.or_eq_false_iff] at h
    have := cnt_clean x h.2
    unfold cnt at this ⊢
    rw [List.countP_cons, this, h.1.2]
    rfl
theorem cnt_join : ∀ ls : List (List UInt8), (∀ x ∈ ls, fineL x) → cnt (ls.flatMap (· ++ [13, 10])) = ls.length
  | [], _ => rfl
  | x :: ls, h => by
    have h1 := cnt_join ls (fun y hy => h y (List.mem_cons_of_mem _ hy))
    have h2 := cnt_clean x (h x (List.mem_cons_self ..)).1
    unfold cnt at h1 h2 ⊢
    rw [List.flatMap_cons, List.countP_append, List.countP_append, h1, h2]
    simp [List.countP_cons, Nat.add_comm]
def dotx (x : List UInt8) : List UInt8 := (if Lib.hasPrefix x [46] = true then [46] else []) ++ x
theorem dotl_eq (x : List UInt8) : dotl x = dotx x ++ [13, 10] := by unfold dotl dotx; rw [List.append_assoc]
theorem dotx_bad (x : List UInt8) (h : bad x = false) : bad (dotx x) = false := by
  unfold dotx
  split
  · show bad ([46] ++ x) = false
    rw [show ([46] ++ x : List UInt8) = 46 :: x from rfl, bad_cons, h]; rfl
  · exact h
theorem dotx_len (x : List UInt8) : (dotx x).length ≤ x.length + 1 := by
  unfold dotx
  split <;> simp
theorem dotx_trim (x : List UInt8) : trim (dotx x) = x ∧ dotx x ≠ [46] := by
  unfold dotx trim Lib.trimPrefix Lib.hasPrefix
  cases x with
  | nil => simp [List.isPrefixOf]
  | cons c t =>
    by_cases h : c = 46
    · subst h; simp [List.isPrefixOf]
    · have h2 : (46 == c) = false := by simpa using fun e => h e.symm
      simp [List.isPrefixOf, h2, h]
theorem fds_stuff (ls : List (List UInt8)) (h : ∀ x ∈ ls, fineL x) : ∀ ws, fds (ws, [], false) (ls.flatMap dotl) = (ws ++ ls.map dotx, [], false) := by
  induction ls with
  | nil => intro ws; simp [fds]
  | cons x ls ih =>
    intro ws
    rw [List.flatMap_cons, fds_app, dotl_eq, fds_line _ _ (dotx_bad x (h x (List.mem_cons_self ..)).1), ih (fun y hy => h y (List.mem_cons_of_mem _ hy))]
    simp
theorem fd_more (ws : List (List UInt8)) (cur : List UInt8) (cr : Bool) (c : UInt8) : ∃ more cur' cr', fd (ws, cur, cr) c = (ws ++ more, cur', cr') := by
  unfold fd
  repeat' split
  all_goals first
    | exact ⟨[], _, _, by rw [List.append_nil]⟩
    | exact ⟨_, _, _, rfl⟩
theorem fds_more (t : List UInt8) : ∀ (ws : List (List UInt8)) (cur : List UInt8) (cr : Bool), ∃ more cur' cr', fds (ws, cur, cr) t = (ws ++ more, cur', cr') := by
  induction t with
  | nil => intro ws cur cr; exact ⟨[], cur, cr, by simp [fds]⟩
  | cons c t ih =>
    intro ws cur cr
    obtain ⟨m1, c1, r1, e1⟩ := fd_more ws cur cr c
    obtain ⟨m2, c2, r2, e2⟩ := ih (ws ++ m1) c1 r1
    refine ⟨m1 ++ m2, c2, r2, ?_⟩
    show fds (fd (ws, cur, cr) c) t = _
    rw [e1, e2, List.append_assoc]
/-- all that is sent -/
theorem fds_all (l rest : List UInt8) (h : ∀ x ∈ full l, fineL x) : ∃ more cur cr, fds ([], [], false) (stuffL l ++ [120, 13, 10] ++ rest) = (((full l).map dotx ++ [[46]]) ++ [120] :: more, cur, cr) := by
  obtain ⟨more, cur, cr, e⟩ := fds_more rest ((full l).map dotx ++ [[46]] ++ [[120]]) [] false
  refine ⟨more, cur, cr, ?_⟩
  unfold stuffL
  rw [fds_app, fds_app, fds_app, fds_stuff _ h, List.nil_append]
  have e1 : fds ((full l).map dotx, [], false) [46, 13, 10] = ((full l).map dotx ++ [[46]], [], false) := fds_line _ [46] rfl
  have e2 : fds ((full l).map dotx ++ [[46]], [], false) [120, 13, 10] = ((full l).map dotx ++ [[46]] ++ [[120]], [], false) := fds_line _ [120] rfl
  rw [e1, e2, e]
  simp
/-- the body behind n of the lines -/
def after (l : List UInt8) (n : Nat) : St := if n ≤ (full l).length then ⟨((full l).take n).flatMap (· ++ [13, 10]), false, false⟩ else ⟨norm l, false, true⟩
theorem after_zero (l : List UInt8) : after l 0 = ⟨[], false, false⟩ := by unfold after; rw [if_pos (by omega)]; rfl
theorem after_ended (l : List UInt8) (n : Nat) : (after l n).ended = decide ((full l).length < n) := by
  unfold after
  by_cases h : n ≤ (full l).length
  · rw [if_pos h, decide_eq_false (by omega)]
  · rw [if_neg h, decide_eq_true (by omega)]
theorem after_le (l : List UInt8) (n : Nat) (h : n ≤ (full l).length) : after l n = ⟨((full l).take n).flatMap (· ++ [13, 10]), false, false⟩ := by unfold after; rw [if_pos h]
theorem after_gt (l : List UInt8) (n : Nat) (h : ¬ n ≤ (full l).length) : after l n = ⟨norm l, false, true⟩ := by unfold after; rw [if_neg h]
theorem after_put (l : List UInt8) (n : Nat) (x : List UInt8) (hx : ((full l).map dotx ++ [[46]])[n]? = some x) : put (after l n) 1 x = after l (n + 1) := by
  by_cases h : n < (full l).length
  · rw [List.getElem?_append_left (by simpa using h), List.getElem?_map, List.getElem?_eq_getElem h] at hx
    have hx : dotx (full l)[n] = x := Option.some.inj hx
    subst hx
    obtain ⟨h1, h2⟩ := dotx_trim (full l)[n]
    rw [after_le l n (by omega), after_le l (n + 1) (by omega)]
    unfold put
    rw [if_neg (by simp), if_neg (by simp), if_neg h2, h1, List.take_succ_eq_append_getElem h, List.flatMap_append]
    simp
  · by_cases he : n = (full l).length
    · subst he
      rw [List.getElem?_append_right (by simp)] at hx
      have hx : [46] = x := by simpa using hx
      subst hx
      rw [after_le l _ (Nat.le_refl _), after_gt l _ (by omega)]
      unfold put
      rw [if_neg (by simp), if_neg (by simp), List.take_of_length_le (Nat.le_refl _), ← norm_join]
      simp
    · rw [List.getElem?_eq_none (by simp; omega)] at hx
      cases hx
theorem after_len (l : List UInt8) (n : Nat) (hl : l.length ≤ 2000) : (after l n).T.length ≤ 2002 := by
  have h1 := norm_len l
  unfold after
  split
  · have h2 : norm l = ((full l).take n).flatMap (· ++ [13, 10]) ++ ((full l).drop n).flatMap (· ++ [13, 10]) := by
      rw [norm_join, ← List.flatMap_append, List.take_append_drop]
    have h3 := congrArg List.length h2
    rw [List.length_append] at h3
    simp only
    omega
  · simp only; omega
theorem flat_len : ∀ ls : List (List UInt8), (ls.flatMap dotl).length ≤ 2 * (ls.flatMap (· ++ [13, 10])).length
  | [] => by simp
  | x :: ls => by
    have h1 := flat_len ls
    have h2 := dotl_len x
    simp only [List.flatMap_cons, List.length_append, List.length_cons, List.length_nil]
    omega
theorem stuffL_len (l : List UInt8) (hl : l.length ≤ 2000) : (stuffL l).length ≤ 4010 := by
  have h1 := flat_len (full l)
  have h2 := norm_len l
  rw [← norm_join] at h1
  unfold stuffL
  simp only [List.length_append, List.length_cons, List.length_nil]
  omega
theorem full_len (l : List UInt8) (hl : l.length ≤ 2000) : (full l).length ≤ 2002 := by
  have h1 : ∀ ls : List (List UInt8), ls.length ≤ (ls.flatMap (· ++ [13, 10])).length := by
    intro ls
    induction ls with
    | nil => simp
    | cons x ls ih => simp only [List.flatMap_cons, List.length_append, List.length_cons, List.length_nil]; omega
  have h2 := h1 (full l)
  rw [← norm_join] at h2
  have := norm_len l
  omega
theorem suffix_ext (s : ByteArray) (h2 : ¬ s.size < 2) : Lib.hasSuffix (L s) [13, 10] = ((s.extract (s.size - 2) s.size).toList == [13, 10]) := by
  rw [tl, L_to_end]
  have hz := sz s
  cases e : ((L s).drop (s.size - 2) == [13, 10]) with
  | true =>
    have e := beq_iff_eq.1 e
    exact (suffix_iff _).2 ⟨(L s).take (s.size - 2), by rw [← e, List.take_append_drop]⟩
  | false =>
    have e := beq_eq_false_iff_ne.1 e
    cases h : Lib.hasSuffix (L s) [13, 10] with
    | false => rfl
    | true =>
      obtain ⟨l', e'⟩ := (suffix_iff _).1 h
      have hl := congrArg List.length e'
      simp only [List.length_append, List.length_cons, List.length_nil] at hl
      exact absurd (by rw [e', show s.size - 2 = l'.length from by omega, List.drop_left]) e
theorem norm_ext (s : ByteArray) (h0 : L s ≠ []) (h2 : ¬ s.size < 2) : norm (L s) = if (!(s.extract (s.size - 2) s.size).toList == [13, 10]) = true then L s ++ [13, 10] else L s := by
  unfold norm
  rw [suffix_ext s h2]
  cases ((s.extract (s.size - 2) s.size).toList == [13, 10]) with
  | true => rw [if_neg (by simp), if_neg (by simp)]
  | false => rw [if_pos ⟨h0, rfl⟩]; rfl
end Go.Proofs.Ytpolfnckbfdhgaa.Dot
