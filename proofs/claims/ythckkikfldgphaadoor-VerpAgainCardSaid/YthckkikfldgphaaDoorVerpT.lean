/- verp: what the printed functions of the program tell: texts and keys of addresses, right ones, extensions, members. -/
import Derived.Test.YthckkikfldgphaaDoorVerpS
namespace Go.Proofs.YthckkikfldgphaaDoor.Verp
open Go.RowKit Go.Proofs.YthckkikfldgphaaDoor.X Go.Proofs.YthckkikfldgphaaDoorW.PrintWords Go.Proofs.YthckkikfldgphaaDoorW.PrintLast Go.Proofs.YthckkikfldgphaaDoorW.PrintMore Go.Proofs.YthckkikfldgphaaDoor.Aid
set_option linter.unusedVariables false
set_option linter.unusedSimpArgs false
/-! ### quoted texts -/
def nums (l : List UInt8) : List Int := l.map fun c => (c.toNat : Int)
theorem nums_S (l : List UInt8) : strOfNums (nums l) = S l := by
  rw [nums_eq]
  unfold nums
  rw [List.map_map]
  congr 1
  conv => rhs; rw [← List.map_id l]
  exact List.map_congr_left fun c _ => by simp
theorem nums_app (a b : List UInt8) : nums a ++ nums b = nums (a ++ b) := by simp [nums]
theorem nums_len (a : List UInt8) : (nums a).length = a.length := by simp [nums]
theorem q1_len (c : UInt8) : (q1 c).length ≤ 2 := all8 (P := fun c => (q1 c).length ≤ 2) (by decide +kernel) c
theorem fm_len : ∀ l : List UInt8, (l.flatMap q1).length ≤ 2 * l.length
  | [] => by simp
  | c :: t => by
    have := q1_len c
    have := fm_len t
    rw [List.flatMap_cons, List.length_append, List.length_cons]
    omega
theorem quote_len (l : List UInt8) : (quote l).length ≤ 2 * l.length + 2 := by
  have := fm_len l
  unfold quote
  rw [List.length_cons, List.length_append]
  simp only [List.length_cons, List.length_nil]
  omega
theorem quote_l0 (s : ByteArray) (hs : (L s).length ≤ 1000000) (d : Nat) : ∀ (i : Nat) (acc : List UInt8), i ≤ (L s).length → (L s).length - i = d → acc.length ≤ 2 * i + 1 →
    Ev (fun k => lex_Quote.l0 k s (nums acc) (s.size : Int) (i : Int)) (S (acc ++ ((L s).drop i).flatMap q1 ++ [34])) := by
  induction d with
  | zero =>
    intro i acc hi hd ha
    refine up ?_
    simp only [lex_Quote.l0]
    refine neg (by rw [sz]; omega) (pos (by rw [nums_len]; omega) (now' ?_))
    rw [List.drop_eq_nil_of_le (by omega), show ([34] : List Int) = nums [34] from rfl, nums_app, nums_S]
    simp
  | succ d ih =>
    intro i acc hi hd ha
    have h : i < (L s).length := by omega
    obtain ⟨c, hc⟩ : ∃ c, (L s)[i] = c := ⟨_, rfl⟩
    have next : ∀ q : List UInt8, q1 c = q → q.length ≤ 2 → Ev (fun k => lex_Quote.l0 k s (nums (acc ++ q)) (s.size : Int) ((i + 1 : Nat) : Int)) (S (acc ++ ((L s).drop i).flatMap q1 ++ [34])) := by
      intro q hq hl
      have := ih (i + 1) (acc ++ q) (by omega) (by omega) (by rw [List.length_append]; omega)
      rw [List.drop_eq_getElem_cons h, List.flatMap_cons, hc, hq, ← List.append_assoc acc]
      exact this
    refine up ?_
    simp only [lex_Quote.l0]
    refine pos (by rw [sz]; omega) (pos (by omega) (pos (by rw [sz]; omega) ?_))
    rw [btn s i h, hc]
    have yes : (c = 34 ∨ c = 92) → Ev (fun k => lex_Quote.j1 k s (nums acc) (c.toNat : Int) (s.size : Int) (i : Int) true) (S (acc ++ ((L s).drop i).flatMap q1 ++ [34])) := by
      intro hq
      refine up ?_
      simp only [lex_Quote.j1]
      rw [wi i (by omega)]
      refine pos (by trivial) (pos (by rw [nums_len]; omega) (cbind rfl (pos (by rw [List.length_append, nums_len]; simp; omega) ?_)))
      rw [show ([92] : List Int) = nums [92] from rfl, nums_app, show ([(c.toNat : Int)] : List Int) = nums [c] from rfl, nums_app, List.append_assoc]
      exact next [92, c] (if_pos hq) (by simp)
    have no : ¬ (c = 34 ∨ c = 92) → Ev (fun k => lex_Quote.j1 k s (nums acc) (c.toNat : Int) (s.size : Int) (i : Int) false) (S (acc ++ ((L s).drop i).flatMap q1 ++ [34])) := by
      intro hq
      refine up ?_
      simp only [lex_Quote.j1]
      rw [wi i (by omega)]
      refine neg (by simp) (cbind (text_eq c) ?_)
      cases ht : tx c with
      | true =>
        refine pos (by trivial) (pos (by rw [nums_len]; omega) ?_)
        rw [show ([(c.toNat : Int)] : List Int) = nums [c] from rfl, nums_app]
        exact next [c] (by unfold q1; rw [if_neg hq, ht]; rfl) (by simp)
      | false =>
        refine neg (by simp) (pos (by rw [nums_len]; omega) ?_)
        rw [show ([32] : List Int) = nums [32] from rfl, nums_app]
        exact next [32] (by unfold q1; rw [if_neg hq, ht]; rfl) (by simp)
    by_cases h34 : c = 34
    · exact pos (by rw [h34]; rfl) (yes (.inl h34))
    · refine neg (fun e => h34 (u8i (by rw [e]; rfl))) ?_
      by_cases h92 : c = 92
      · rw [show ((c.toNat : Int) == 92) = true from by rw [h92]; rfl]
        exact yes (.inr h92)
      · rw [show ((c.toNat : Int) == 92) = false from beq_eq_false_iff_ne.2 fun e => h92 (u8i (by rw [e]; rfl))]
        exact no (fun e => e.elim h34 h92)
theorem quote_ev (s : ByteArray) (hs : (L s).length ≤ 1000000) : Ev (fun k => lex_Quote.f k s) (S (quote (L s))) := by
  have := quote_l0 s hs (L s).length 0 [34] (by omega) (by omega) (by simp)
  exact this
theorem loct_len (l : List UInt8) : (loct l).length ≤ 2 * l.length + 2 := by
  unfold loct
  split
  · omega
  · exact quote_len l
theorem text_len (l d : List UInt8) : (text l d).length ≤ 2 * l.length + 3 + d.length := by
  have := loct_len l
  unfold text
  rw [List.length_append, List.length_cons]
  omega
theorem text_ev (a b : ByteArray) (ha : (L a).length ≤ 400000) (hb : (L b).length ≤ 400000) : Ev (fun k => addr_Addr_Text.f k a b) (S (text (L a) (L b))) := by
  unfold addr_Addr_Text.f text loct
  have h1 := dotted_ev a (by omega)
  have q := quote_len (L a)
  have e64 : ∀ x : ByteArray, (x ++ (⟨#[64]⟩ : ByteArray)).size = x.size + 1 := fun x => by rw [ByteArray.size_append]; rfl
  cases hd : dotted (L a) with
  | true =>
    rw [hd] at h1
    refine Ev.bind h1 (pos (by trivial) (pos (by rw [sz]; omega) (pos (by rw [e64, sz, sz]; omega) (now' ?_))))
    apply L_inj
    rw [L_app, L_app, L_S, List.append_assoc]
    rfl
  | false =>
    rw [hd] at h1
    refine Ev.bind h1 (neg (by simp) (Ev.bind (quote_ev a (by omega)) (pos (by rw [zS]; omega) (pos (by rw [e64, zS, sz]; omega) (now' ?_)))))
    apply L_inj
    rw [L_app, L_app, L_S, L_S, List.append_assoc]
    rfl
theorem key_ev (a b : ByteArray) (ha : (L a).length ≤ 400000) (hb : (L b).length ≤ 400000) (h2 : (text (L a) (L b)).length ≤ 1000000) : Ev (fun k => addr_Addr_Key.f k a b) (S (fo (text (L a) (L b)))) := by
  unfold addr_Addr_Key.f
  refine Ev.bind (text_ev a b ha hb) ?_
  have := fold_ev (S (text (L a) (L b))) (by rw [L_S]; exact h2)
  rw [L_S] at this
  exact Ev.bind this (now' rfl)
/-! ### right addresses -/
theorem plain_eq (l : List UInt8) : Glyph.plb l = l.all pl := by
  unfold Glyph.plb
  exact List.all_congr rfl fun c => by unfold pl; rw [Bool.eq_iff_iff]; simp
theorem plain_ev (s : ByteArray) : Ev (fun k => glyph_Plain.f k s) ((L s).all pl) := by
  rw [← plain_eq]
  exact Glyph.plb_ev s
theorem dom_cases (d : List UInt8) : dom d = 0 ∨ dom d = 2 ∨ dom d = 130 := by
  unfold dom
  split
  · split
    · exact .inr (.inl rfl)
    · exact .inl rfl
  · exact .inr (.inr rfl)
theorem why_ev (a b : ByteArray) (ha : (L a).length ≤ 400000) (hb : (L b).length ≤ 400000) : Ev (fun k => addr_why.f k a b) (why (L a) (L b)) := by
  unfold addr_why.f why
  refine Ev.bind (domain_ev b (by omega)) ?_
  have bad : ∀ x : Int, Ev (fun k => addr_why.j0 k x true a b) 130 := fun x => by
    refine up ?_
    simp only [addr_why.j0]
    exact pos (by trivial) (now' rfl)
  by_cases h1 : dom (L b) = 130
  · rw [if_pos (.inl h1)]
    exact pos h1 (bad _)
  · refine neg h1 ?_
    by_cases h2 : L a = []
    · rw [if_pos (.inr (.inl h2))]
      exact pos (by rw [tl]; exact h2) (bad _)
    · refine neg (by rw [tl]; exact h2) (Ev.bind (plain_ev a) ?_)
      cases h3 : (L a).all pl with
      | false =>
        rw [if_pos (.inr (.inr rfl))]
        exact bad _
      | true =>
        rw [if_neg (fun z => z.elim h1 (fun z => z.elim h2 (fun z => by cases z)))]
        refine up ?_
        simp only [addr_why.j0]
        refine neg (by simp) ?_
        by_cases h4 : dom (L b) = 0
        · refine pos h4 ?_
          by_cases h5 : 64 < (L a).length
          · rw [show (if dom (L b) ≠ 0 ∨ 64 < (L a).length ∨ 254 < (text (L a) (L b)).length then (2 : Int) else 0) = 2 from if_pos (.inr (.inl h5))]
            exact pos (by rw [sz]; omega) (now' rfl)
          · refine neg (by rw [sz]; omega) (Ev.bind (text_ev a b ha hb) ?_)
            by_cases h6 : 254 < (text (L a) (L b)).length
            · rw [show (if dom (L b) ≠ 0 ∨ 64 < (L a).length ∨ 254 < (text (L a) (L b)).length then (2 : Int) else 0) = 2 from if_pos (.inr (.inr h6))]
              exact pos (by rw [zS]; omega) (now' rfl)
            · rw [show (if dom (L b) ≠ 0 ∨ 64 < (L a).length ∨ 254 < (text (L a) (L b)).length then (2 : Int) else 0) = 0 from if_neg (fun z => z.elim (fun z => z h4) (fun z => z.elim h5 h6))]
              exact neg (by rw [zS]; omega) (now' rfl)
        · rw [show (if dom (L b) ≠ 0 ∨ 64 < (L a).length ∨ 254 < (text (L a) (L b)).length then (2 : Int) else 0) = 2 from if_pos (.inl h4)]
          exact neg h4 (now' rfl)
theorem right_ev (a b : ByteArray) (ha : (L a).length ≤ 400000) (hb : (L b).length ≤ 400000) : Ev (fun k => addr_Addr_Right.f k a b) (right (L a) (L b)) := by
  unfold addr_Addr_Right.f right
  refine Ev.bind (why_ev a b ha hb) ?_
  by_cases h : why (L a) (L b) = 0
  · refine pos h (Ev.bind (fold_ev b (by omega)) (now' ?_))
    rw [decide_eq_true h, Bool.true_and, tl, tl, L_S]
    rw [Bool.eq_iff_iff, beq_iff_eq, decide_eq_true_eq]
  · refine neg h (now' ?_)
    rw [decide_eq_false h]
    rfl
/-! ### extensions -/
theorem enc1_len (b : Bool) (c : UInt8) : (enc1 b c).length ≤ 3 := by
  have := all8 (P := fun c => ∀ b : Bool, (enc1 b c).length ≤ 3) (by decide +kernel) c
  exact this b
theorem enc_len (b : Bool) : ∀ l : List UInt8, (enc b l).length ≤ 3 * l.length
  | [] => by simp [enc]
  | c :: t => by
    have h1 := enc1_len b c
    have h2 := enc_len b t
    have he : enc b (c :: t) = enc1 b c ++ enc b t := List.flatMap_cons
    rw [he, List.length_append, List.length_cons]
    omega
theorem ext_len (l d : List UInt8) : (ext l d).length ≤ 3 * l.length + 1 + d.length := by
  have h := enc_len (dotted (fo l)) (fo l)
  unfold ext
  rw [List.length_append, List.length_cons, fo_len]
  rw [fo_len] at h
  omega
theorem extend_l0 (dt : Bool) (s : ByteArray) (hs : (L s).length ≤ 1000000) (d : Nat) : ∀ (i : Nat) (acc : List UInt8), i ≤ (L s).length → (L s).length - i = d → acc.length ≤ 3 * i →
    Ev (fun k => verp_Extend.l0 k dt s acc i) (S (acc ++ enc dt ((L s).drop i))) := by
  induction d with
  | zero =>
    intro i acc hi hd ha
    refine up ?_
    simp only [verp_Extend.l0]
    refine neg (by rw [sz]; omega) (now' ?_)
    rw [List.drop_eq_nil_of_le (by omega)]
    show S acc = S (acc ++ [])
    rw [List.append_nil]
  | succ d ih =>
    intro i acc hi hd ha
    have h : i < (L s).length := by omega
    refine up ?_
    simp only [verp_Extend.l0]
    refine pos (by rw [sz]; omega) (pos (by omega) ?_)
    rw [List.getD_eq_getElem?_getD, List.getElem?_eq_getElem h, Option.getD_some]
    have h3 := enc1_len dt (L s)[i]
    have := ih (i + 1) (acc ++ enc1 dt (L s)[i]) (by omega) (by omega) (by rw [List.length_append]; omega)
    rw [List.drop_eq_getElem_cons h]
    have he : enc dt ((L s)[i] :: (L s).drop (i + 1)) = enc1 dt (L s)[i] ++ enc dt ((L s).drop (i + 1)) := List.flatMap_cons
    rw [he, ← List.append_assoc]
    exact this
theorem extend_ev (a b : ByteArray) (ha : (L a).length ≤ 100000) (hb : (L b).length ≤ 100000) : Ev (fun k => verp_Extend.f k a b) (S (ext (L a) (L b))) := by
  unfold verp_Extend.f ext
  refine Ev.bind (fold_ev a (by omega)) ?_
  have h1 := dotted_ev (S (fo (L a))) (by rw [L_S, fo_len]; omega)
  rw [L_S] at h1
  refine Ev.bind h1 ?_
  have h2 := extend_l0 (dotted (fo (L a))) (S (fo (L a))) (by rw [L_S, fo_len]; omega) (fo (L a)).length 0 [] (by omega) (by rw [L_S]; omega) (by simp)
  rw [L_S, List.drop_zero, List.nil_append] at h2
  have h3 := enc_len (dotted (fo (L a))) (fo (L a))
  have h4 := fo_len (L a)
  have h5 := fo_len (L b)
  refine Ev.bind h2 (Ev.bind (fold_ev b (by omega)) (pos ⟨by rw [zS, zS]; omega, by rw [zS]; omega⟩ (now' ?_)))
  apply L_inj
  rw [L_app, L_app, L_S, L_S, L_S, List.append_assoc]
  rfl
theorem hx_hv (c : UInt8) : hx c = hv c := all8 (P := fun c => hx c = hv c) (by decide +kernel) c
def enU (o : Option (List UInt8)) : ByteArray × Bool := match o with
  | some l => (S l, true)
  | none => (S [], false)
theorem uns_ev (s : ByteArray) (hs : (L s).length ≤ 1000000) : ∀ (d i : Nat) (acc : List UInt8), i ≤ (L s).length → (L s).length - i ≤ d → acc.length ≤ i →
    Ev (fun k => verp_unsigned.l0 k s acc i) (enU ((uns d ((L s).drop i)).map (acc ++ ·)))
  | 0, i, acc, hi, hd, ha => by
    refine up ?_
    simp only [verp_unsigned.l0]
    refine neg (by rw [sz]; omega) (now' ?_)
    show _ = (S (acc ++ []), true)
    rw [List.append_nil]
    rfl
  | d + 1, i, acc, hi, hd, ha => by
    refine up ?_
    simp only [verp_unsigned.l0]
    by_cases h : i < (L s).length
    · refine pos (by rw [sz]; omega) (pos (by omega) ?_)
      rw [List.getD_eq_getElem?_getD, List.getElem?_eq_getElem h, Option.getD_some, List.drop_eq_getElem_cons h]
      by_cases h37 : (L s)[i] = 37
      · refine pos h37 ?_
        by_cases h2 : (L s).length ≤ i + 2
        · refine pos (by rw [sz]; exact h2) (now' ?_)
          have : uns (d + 1) ((L s)[i] :: (L s).drop (i + 1)) = none := by
            have hl : ((L s).drop (i + 1)).length ≤ 1 := by rw [List.length_drop]; omega
            match hq : (L s).drop (i + 1), hl with
            | [], _ => simp only [uns, h37, if_true]
            | [x], _ => simp only [uns, h37, if_true]
          rw [this]
          rfl
        · have g1 : i + 1 < (L s).length := by omega
          have g2 : i + 2 < (L s).length := by omega
          refine neg (by rw [sz]; exact h2) ?_
          have e1 : (L s).getD (i + 1) 0 = (L s)[i + 1] := by rw [List.getD_eq_getElem?_getD, List.getElem?_eq_getElem g1, Option.getD_some]
          have e2 : (L s).getD (i + 2) 0 = (L s)[i + 2] := by rw [List.getD_eq_getElem?_getD, List.getElem?_eq_getElem g2, Option.getD_some]
          rw [e1, e2, hx_hv, hx_hv, List.drop_eq_getElem_cons g1, List.drop_eq_getElem_cons g2]
          have hu : uns (d + 1) ((L s)[i] :: (L s)[i + 1] :: (L s)[i + 2] :: (L s).drop (i + 2 + 1)) = if hv (L s)[i + 1] < 0 ∨ hv (L s)[i + 2] < 0 then none else (uns d ((L s).drop (i + 2 + 1))).map (UInt8.ofNat (16 * hv (L s)[i + 1] + hv (L s)[i + 2]).toNat :: ·) := by
            simp only [uns, h37, if_true]
          rw [hu]
          by_cases z1 : hv (L s)[i + 1] < 0
          · rw [if_pos (.inl z1)]
            exact pos z1 (now' rfl)
          · refine neg z1 ?_
            by_cases z2 : hv (L s)[i + 2] < 0
            · rw [if_pos (.inr z2)]
              exact pos z2 (now' rfl)
            · rw [if_neg (fun z => z.elim z1 z2)]
              refine neg z2 ?_
              have := uns_ev s hs d (i + 3) (acc ++ [hxb (hv (L s)[i + 1]) (hv (L s)[i + 2])]) (by omega) (by omega) (by simp; omega)
              rw [Option.map_map, show ((fun x => acc ++ x) ∘ fun x => UInt8.ofNat (16 * hv (L s)[i + 1] + hv (L s)[i + 2]).toNat :: x) = (fun x => (acc ++ [hxb (hv (L s)[i + 1]) (hv (L s)[i + 2])]) ++ x) from by funext x; simp [hxb]]
              exact this
      · refine neg h37 ?_
        have hu : uns (d + 1) ((L s)[i] :: (L s).drop (i + 1)) = (uns d ((L s).drop (i + 1))).map ((L s)[i] :: ·) := by
          simp only [uns, if_neg h37]
        rw [hu]
        have := uns_ev s hs d (i + 1) (acc ++ [(L s)[i]]) (by omega) (by omega) (by simp; omega)
        rw [Option.map_map, show ((fun x => acc ++ x) ∘ fun x => (L s)[i] :: x) = (fun x => (acc ++ [(L s)[i]]) ++ x) from by funext x; simp]
        exact this
    · refine neg (by rw [sz]; exact h) (now' ?_)
      rw [List.drop_eq_nil_of_le (by omega)]
      show _ = (S (acc ++ []), true)
      rw [List.append_nil]
      rfl
theorem unsigned_ev (s : ByteArray) (hs : (L s).length ≤ 1000000) : Ev (fun k => verp_unsigned.f k s) (enU (uns (L s).length (L s))) := by
  unfold verp_unsigned.f
  refine pos (by rw [sz]; omega) ?_
  have := uns_ev s hs (L s).length 0 [] (by omega) (by omega) (by simp)
  rw [List.drop_zero] at this
  rwa [show (uns (L s).length (L s)).map ([] ++ ·) = uns (L s).length (L s) from by simp] at this
set_option maxRecDepth 100000 in
theorem works60 : bulletinlaw24_works.f 60 = some true := by decide +kernel
theorem works_ev : Ev (fun k => bulletinlaw24_works.f k) true := Ev.of (fun k => bulletinlaw24_works.mono k) works60
theorem loc_len (l : List UInt8) (r : Nat) (e : List UInt8) : (loc l r e).length ≤ l.length + e.length + 9 := by
  have := sfx_len r
  unfold loc
  split
  · simp
  · split <;> simp <;> omega
theorem lastEq_snoc (c : UInt8) : ∀ l : List UInt8, lastEq (l ++ [c]) = if c = 61 then some (l, []) else (lastEq l).map (fun z => (z.1, z.2 ++ [c]))
  | [] => by
    rw [List.nil_append, lastEq, lastEq]
    rfl
  | d :: t => by
    rw [List.cons_append, lastEq, lastEq_snoc c t, lastEq]
    by_cases h : c = 61
    · rw [if_pos h, if_pos h]
    · rw [if_neg h, if_neg h]
      cases lastEq t with
      | none =>
        simp only [Option.map_none]
        split <;> simp
      | some z => simp
def lastIx (l : List UInt8) : Int := match lastEq l with
  | some z => (z.1.length : Int)
  | none => -1
theorem lastIx_ev (s : ByteArray) (hs : (L s).length ≤ 1000000) : ∀ i : Nat, i ≤ (L s).length → Ev (fun k => bytealg_LastIndexByteString.l0 k s 61 ((i : Int) - 1)) (lastIx ((L s).take i))
  | 0, _ => by
    refine up ?_
    simp only [bytealg_LastIndexByteString.l0]
    exact neg (by omega) (now' rfl)
  | i + 1, h => by
    have hi : i < (L s).length := by omega
    refine up ?_
    simp only [bytealg_LastIndexByteString.l0]
    rw [show ((i + 1 : Nat) : Int) - 1 = (i : Int) from by omega]
    refine pos (by omega) (pos (by omega) (pos (by rw [sz]; omega) ?_))
    rw [btn s i hi, List.take_succ_eq_append_getElem hi]
    unfold lastIx
    rw [lastEq_snoc]
    by_cases h61 : (L s)[i] = 61
    · rw [if_pos h61]
      refine pos (by rw [h61]; rfl) (now' ?_)
      show (i : Int) = ((((L s).take i).length : Nat) : Int)
      rw [List.length_take]
      omega
    · rw [if_neg h61]
      refine neg (fun e => h61 (u8i (by rw [e]; rfl))) ?_
      have := lastIx_ev s hs i (by omega)
      rw [w64 (by omega) (by omega)]
      unfold lastIx at this
      cases hl : lastEq ((L s).take i) with
      | none => rw [hl] at this; exact this
      | some z => rw [hl] at this; exact this
theorem lastIndex_ev (s : ByteArray) (hs : (L s).length ≤ 1000000) : Ev (fun k => strings_LastIndexByte.f k s 61) (lastIx (L s)) := by
  unfold strings_LastIndexByte.f bytealg_LastIndexByteString.f
  have := lastIx_ev s hs (L s).length (Nat.le_refl _)
  rw [List.take_length] at this
  rw [sz, w64 (by omega) (by omega)]
  exact Ev.bind this (now' rfl)
def enM (o : Option (List UInt8 × List UInt8)) : ByteArray × ByteArray × Int := match o with
  | some (l, d) => (S l, S d, 0)
  | none => (S [], S [], 130)
theorem uns_len : ∀ (n : Nat) (l x : List UInt8), uns n l = some x → x.length ≤ l.length
  | 0, l, x, h => by
    simp only [uns, Option.some.injEq] at h
    subst h
    simp
  | n + 1, [], x, h => by
    simp only [uns, Option.some.injEq] at h
    subst h
    simp
  | n + 1, c :: t, x, h => by
    have other : ∀ u : List UInt8, c ≠ 37 → (uns n u).map (c :: ·) = some x → x.length ≤ (c :: u).length := fun u _ h => by
      obtain ⟨y, hy, rfl⟩ := Option.map_eq_some_iff.1 h
      have := uns_len n u y hy
      simp
      omega
    by_cases hc : c = 37
    · match t, h with
      | [], h => simp only [uns, if_pos hc] at h; cases h
      | [_], h => simp only [uns, if_pos hc] at h; cases h
      | a :: b :: u, h =>
        simp only [uns, if_pos hc] at h
        by_cases hh : hv a < 0 ∨ hv b < 0
        · rw [if_pos hh] at h; cases h
        · rw [if_neg hh] at h
          obtain ⟨y, hy, rfl⟩ := Option.map_eq_some_iff.1 h
          have := uns_len n u y hy
          simp
          omega
    · simp only [uns, if_neg hc] at h
      exact other t hc h
theorem member_ev (s : ByteArray) (hs : (L s).length ≤ 100000) : Ev (fun k => verp_Member.f k s) (enM (memP (fo (L s)))) := by
  unfold verp_Member.f
  refine Ev.bind (fold_ev s (by omega)) ?_
  obtain ⟨t, ht⟩ : ∃ t, fo (L s) = t := ⟨_, rfl⟩
  have htl : t.length ≤ 100000 := by rw [← ht, fo_len]; exact hs
  rw [ht]
  have h1 := lastIndex_ev (S t) (by rw [L_S]; omega)
  rw [L_S] at h1
  refine Ev.bind h1 ?_
  unfold lastIx memP
  cases hl : lastEq t with
  | none => exact pos (by decide) (now' rfl)
  | some z =>
    obtain ⟨a, b⟩ := z
    obtain ⟨hab, hb61⟩ := lastEq_some hl
    have hlen : t.length = a.length + 1 + b.length := by rw [hab]; simp; omega
    simp only [Option.bind_some]
    refine neg (by omega) (pos (by omega) (pos (by rw [zS]; omega) ?_))
    have hx : (S t).extract 0 (a.length : Int).toNat = S a := by
      apply L_inj
      rw [L_from_start, L_S, L_S, Int.toNat_natCast, hab, List.take_left]
    have hw : wrap64 ((a.length : Int) + 1) = ((a.length + 1 : Nat) : Int) := wi _ (by omega)
    have hy : (S t).extract ((a.length + 1 : Nat) : Int).toNat (S t).size = S b := by
      apply L_inj
      rw [L_to_end, L_S, L_S, Int.toNat_natCast, hab, List.drop_append, List.drop_eq_nil_of_le (by omega), Nat.add_sub_cancel_left]
      rfl
    rw [hx, hw, hy]
    have hu := unsigned_ev (S a) (by rw [L_S]; omega)
    rw [L_S] at hu
    refine Ev.bind hu (pos (by omega) (pos (by rw [zS]; omega) ?_))
    cases hq : uns a.length a with
    | none => exact neg (by simp [enU]) (now' rfl)
    | some x =>
      have hxl := uns_len _ _ _ hq
      simp only [Option.bind_some]
      have hr := right_ev (S x) (S b) (by rw [L_S]; omega) (by rw [L_S]; omega)
      rw [L_S, L_S] at hr
      have he := extend_ev (S x) (S b) (by rw [L_S]; omega) (by rw [L_S]; omega)
      rw [L_S, L_S] at he
      refine pos (by rfl) (Ev.bind hr ?_)
      cases hrr : right x b with
      | false => exact neg (by simp) (now' (by rw [show (if false = true ∧ ext x b = t then some (x, b) else none) = none from if_neg (by simp)]; rfl))
      | true =>
        refine pos (by trivial) (Ev.bind he ?_)
        by_cases hext : ext x b = t
        · rw [show (if true = true ∧ ext x b = t then some (x, b) else none) = some (x, b) from if_pos ⟨rfl, hext⟩]
          exact pos (by rw [tl, tl, L_S, L_S]; exact hext) (now' rfl)
        · rw [show (if true = true ∧ ext x b = t then some (x, b) else none) = none from if_neg (fun h => hext h.2)]
          exact neg (by rw [tl, tl, L_S, L_S]; exact hext) (now' rfl)
theorem return_ev (list host a b : ByteArray) (hl : (L list).length ≤ 1000) (ha : (L a).length ≤ 1000) (hb : (L b).length ≤ 1000) : Ev (fun k => verp_Return.f k list host a b) (S (loc (L list) 5 (ext (L a) (L b))), host) := by
  unfold verp_Return.f
  have h := ext_len (L a) (L b)
  refine Ev.bind (extend_ev a b (by omega) (by omega)) ?_
  have := local_ev list (S (ext (L a) (L b))) 5 (by omega) (by rw [L_S]; omega) (by omega) (by omega)
  rw [L_S] at this
  exact Ev.bind this (now' rfl)
end Go.Proofs.YthckkikfldgphaaDoor.Verp
