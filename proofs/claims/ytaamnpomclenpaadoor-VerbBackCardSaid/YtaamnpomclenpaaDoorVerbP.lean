/- What the printed functions of package verb and of its reference tell. -/
import Derived.Test.YtaamnpomclenpaaDoorGPlain
import Derived.Test.YtaamnpomclenpaaDoorRFold
import Derived.Test.YtaamnpomclenpaaDoorCutL
namespace Go.Proofs.YtaamnpomclenpaaDoor.Verb
open Go.RowKit Go.Proofs.YtaamnpomclenpaaDoor.X Go.Proofs.YtaamnpomclenpaaDoorW.PrintWords Go.Proofs.YtaamnpomclenpaaDoorW.PrintLast Go.Proofs.YtaamnpomclenpaaDoorW.PrintMore Go.Proofs.YtaamnpomclenpaaDoor.Aid Go.Proofs.YtaamnpomclenpaaDoor.Glyph
open Go.Lib (cut trimB trimLeftB trimRightB)
set_option linter.unusedVariables false
set_option linter.unusedSimpArgs false

def lw (i : Nat) : List UInt8 := foldL (L (wordOf i))
def kn : Nat → List UInt8 → Nat
  | 0, _ => 0
  | d + 1, u => if 0 < 9 - d ∧ lw (9 - d) = u then 9 - d else kn d u
theorem S_eq (a b : List UInt8) : ((S a).toList = (S b).toList) ↔ a = b := by rw [tl, tl, L_S, L_S]
theorem wordOf_small (i : Nat) : (L (wordOf i)).length ≤ 1000000000 := by
  rw [← sz]
  have := verb_wordOf_size i
  omega
theorem known_l0 (s : ByteArray) (hs : (L s).length ≤ 1000000000) (d : Nat) : d ≤ 10 → Ev (fun k => verb_known.l0 k s (10 - d)) ((kn d (foldL (L s)) : Nat) : Int) := by
  induction d with
  | zero =>
    intro _
    refine up ?_
    simp only [verb_known.l0]
    exact neg (by omega) (Ev.now _)
  | succ d ih =>
    intro hd
    have ih := ih (by omega)
    refine up ?_
    simp only [verb_known.l0]
    rw [show 10 - (d + 1) = 9 - d from by omega]
    rw [show 10 - d = 9 - d + 1 from by omega] at ih
    refine pos (by omega) ?_
    simp only [kn]
    by_cases h0 : 0 < 9 - d
    · refine pos h0 (Ev.bind (fold_ev _ (wordOf_small _)) (Ev.bind (fold_ev s hs) ?_))
      by_cases he : lw (9 - d) = foldL (L s)
      · rw [if_pos ⟨h0, he⟩]
        exact pos ((S_eq _ _).2 he) (Ev.now _)
      · rw [if_neg (fun q => he q.2)]
        exact neg (fun q => he ((S_eq _ _).1 q)) ih
    · rw [if_neg (fun q => h0 q.1)]
      exact neg h0 ih
theorem known_ev (s : ByteArray) (hs : (L s).length ≤ 1000000000) : Ev (fun k => verb_known.f k s) ((kn 10 (foldL (L s)) : Nat) : Int) := known_l0 s hs 10 (by omega)
/-- the last one of those that fit -/
def rn : Nat → Nat → List UInt8 → Nat
  | 0, v, _ => v
  | d + 1, v, u => if lw (9 - d) = u then rn d (9 - d) u else rn d v u
theorem rn_kn (u : List UInt8) : rn 9 0 u = kn 10 u := by
  have e : ∀ i, i < 10 → 0 < i → lw i = u → rn 9 0 u = kn 10 u := by
    intro i hi h0 h
    subst h
    have : i = 1 ∨ i = 2 ∨ i = 3 ∨ i = 4 ∨ i = 5 ∨ i = 6 ∨ i = 7 ∨ i = 8 ∨ i = 9 := by omega
    rcases this with rfl | rfl | rfl | rfl | rfl | rfl | rfl | rfl | rfl <;> decide +kernel
  by_cases h1 : lw 1 = u
  · exact e 1 (by decide) (by decide) h1
  by_cases h2 : lw 2 = u
  · exact e 2 (by decide) (by decide) h2
  by_cases h3 : lw 3 = u
  · exact e 3 (by decide) (by decide) h3
  by_cases h4 : lw 4 = u
  · exact e 4 (by decide) (by decide) h4
  by_cases h5 : lw 5 = u
  · exact e 5 (by decide) (by decide) h5
  by_cases h6 : lw 6 = u
  · exact e 6 (by decide) (by decide) h6
  by_cases h7 : lw 7 = u
  · exact e 7 (by decide) (by decide) h7
  by_cases h8 : lw 8 = u
  · exact e 8 (by decide) (by decide) h8
  by_cases h9 : lw 9 = u
  · exact e 9 (by decide) (by decide) h9
  have k : ∀ d, d ≤ 9 → kn d u = 0 ∧ ∀ v, rn d v u = v := by
    intro d
    induction d with
    | zero => intro _; exact ⟨rfl, fun _ => rfl⟩
    | succ d ih =>
      intro hd
      obtain ⟨i1, i2⟩ := ih (by omega)
      have hne : ¬ lw (9 - d) = u := by
        have : 9 - d = 1 ∨ 9 - d = 2 ∨ 9 - d = 3 ∨ 9 - d = 4 ∨ 9 - d = 5 ∨ 9 - d = 6 ∨ 9 - d = 7 ∨ 9 - d = 8 ∨ 9 - d = 9 := by omega
        rcases this with h | h | h | h | h | h | h | h | h <;> rw [h] <;> assumption
      simp only [kn, rn]
      exact ⟨by rw [if_neg (fun q => hne q.2), i1], fun v => by rw [if_neg hne, i2]⟩
  have k9 := k 9 (by omega)
  rw [k9.2]
  show 0 = (if 0 < 9 - 9 ∧ lw (9 - 9) = u then 9 - 9 else kn 9 u)
  rw [if_neg (by omega), k9.1]
theorem kn_le (u : List UInt8) : ∀ d, d ≤ 10 → kn d u ≤ 9 := by
  intro d
  induction d with
  | zero => intro _; simp [kn]
  | succ d ih =>
    intro hd
    simp only [kn]
    split
    · omega
    · exact ih (by omega)

/-! ### trim -/
def tr (l : List UInt8) : List UInt8 := trimB l 32
theorem tr_ev (s : ByteArray) (hs : (L s).length ≤ 1000000000) : strings_Trim.f s (⟨#[32]⟩ : ByteArray) = some (S (tr (L s))) := by
  unfold strings_Trim.f
  rw [if_pos ⟨by rw [sz]; omega, rfl⟩]
  rfl
theorem dropWhile_rev_app (l : List UInt8) (p : UInt8 → Bool) (x : UInt8) (hx : p x = false) (m : List UInt8) : ((x :: l).reverse.dropWhile p).reverse = x :: (l.reverse.dropWhile p).reverse := by
  rw [List.reverse_cons]
  have : ∀ r : List UInt8, (r ++ [x]).dropWhile p = r.dropWhile p ++ [x] := by
    intro r
    induction r with
    | nil => simp [List.dropWhile_cons, hx]
    | cons y r ih =>
      rw [List.cons_append, List.dropWhile_cons, List.dropWhile_cons]
      split
      · exact ih
      · rfl
  rw [this]
  simp
/-- from the left first, or from the right -/
theorem tr_cons_blank (l : List UInt8) : tr (32 :: l) = tr l := by
  unfold tr trimB trimRightB trimLeftB
  rw [List.reverse_cons]
  have : ∀ r : List UInt8, ((r ++ [32]).dropWhile (· == 32)) = if r.dropWhile (· == 32) = [] then [] else r.dropWhile (· == 32) ++ [32] := by
    intro r
    induction r with
    | nil => rfl
    | cons y r ih =>
      rw [List.cons_append, List.dropWhile_cons, List.dropWhile_cons]
      split
      · exact ih
      · rw [if_neg (by simp)]; rfl
  rw [this]
  split
  · rename_i h; rw [h]
  · rw [List.reverse_append]
    rfl
theorem tr_nil : tr [] = [] := rfl
theorem tr_other (x : UInt8) (l : List UInt8) (h : x ≠ 32) : tr (x :: l) = x :: trimRightB l 32 := by
  unfold tr trimB trimRightB trimLeftB
  have hx : (x == 32) = false := by simpa using h
  rw [dropWhile_rev_app l _ x hx []]
  rw [List.dropWhile_cons, hx]
  simp
theorem trR_snoc (l : List UInt8) (x : UInt8) : trimRightB (l ++ [x]) 32 = if x = 32 then trimRightB l 32 else l ++ [x] := by
  unfold trimRightB
  rw [List.reverse_append]
  show ((x :: l.reverse).dropWhile _).reverse = _
  rw [List.dropWhile_cons]
  by_cases h : x = 32
  · subst h; simp
  · rw [if_neg h]
    have : (x == 32) = false := by simpa using h
    rw [this]
    simp
theorem trR_len (l : List UInt8) : (trimRightB l 32).length ≤ l.length := by
  unfold trimRightB
  rw [List.length_reverse]
  have := (List.dropWhile_sublist (l := l.reverse) (· == 32)).length_le
  rwa [List.length_reverse] at this
theorem tr_len (l : List UInt8) : (tr l).length ≤ l.length := by
  unfold tr trimB trimLeftB
  have := (List.dropWhile_sublist (l := trimRightB l 32) (· == 32)).length_le
  have := trR_len l
  omega
theorem reftrim_l1 (n : Nat) : ∀ l : List UInt8, l.length = n → n ≤ 1000000000 → Ev (fun k => bulletinref27_trim.l1 k (S l)) (S (trimRightB l 32)) := by
  induction n with
  | zero =>
    intro l hl _
    rw [List.length_eq_zero_iff.1 hl]
    refine up ?_
    simp only [bulletinref27_trim.l1]
    exact neg (by decide) (Ev.now _)
  | succ n ih =>
    intro l hl hn
    have hne : l ≠ [] := by intro h; rw [h] at hl; simp at hl
    obtain ⟨m, x, rfl⟩ : ∃ m x, l = m ++ [x] := by
      cases hr : l.reverse with
      | nil => exact absurd (List.reverse_eq_nil_iff.1 hr) hne
      | cons x r => exact ⟨r.reverse, x, by have := congrArg List.reverse hr; simpa using this⟩
    have hm : m.length = n := by simp at hl; exact hl
    have z : ((S (m ++ [x])).size : Int) = ((n + 1 : Nat) : Int) := by rw [zS]; simp [hm]
    have w1 : wrap64 (((n + 1 : Nat) : Int) - 1) = (n : Int) := by rw [w64 (by omega) (by omega)]; omega
    have hb : bt (S (m ++ [x])) (n : Int) = (x.toNat : Int) := by
      rw [btn _ n (by rw [L_S]; simp [hm])]
      simp [L_S, ← hm]
    refine up ?_
    simp only [bulletinref27_trim.l1]
    rw [z, w1, hb, trR_snoc]
    refine pos (by omega) (pos (by omega) (pos (by omega) ?_))
    by_cases h : x = 32
    · rw [if_pos h]
      refine pos (by rw [h]; rfl) (pos (by omega) ?_)
      have e : (S (m ++ [x])).extract 0 ((n : Nat) : Int).toNat = S m := by
        apply L_inj
        rw [L_from_start, L_S, L_S]
        show (m ++ [x]).take n = m
        rw [List.take_left' hm]
      rw [e]
      exact ih m hm (by omega)
    · rw [if_neg h]
      exact neg (fun e => h (u8i (d := 32) e)) (Ev.now _)
theorem reftrim_l0 (n : Nat) : ∀ l : List UInt8, l.length = n → n ≤ 1000000000 → Ev (fun k => bulletinref27_trim.l0 k (S l)) (S (tr l)) := by
  induction n with
  | zero =>
    intro l hl _
    rw [List.length_eq_zero_iff.1 hl]
    refine up ?_
    simp only [bulletinref27_trim.l0]
    refine neg (by decide) (up ?_)
    simp only [bulletinref27_trim.j1]
    exact reftrim_l1 0 [] rfl (by omega)
  | succ n ih =>
    intro l hl hn
    obtain ⟨x, l, rfl⟩ : ∃ x m, l = x :: m := by cases l with
      | nil => simp at hl
      | cons x m => exact ⟨x, m, rfl⟩
    have hm : l.length = n := by simpa using hl
    have z : ((S (x :: l)).size : Int) = ((n + 1 : Nat) : Int) := by rw [zS]; simp [hm]
    have hb : bt (S (x :: l)) 0 = (x.toNat : Int) := by
      have := btn (S (x :: l)) 0 (by rw [L_S]; simp)
      rw [show bt (S (x :: l)) 0 = bt (S (x :: l)) ((0 : Nat) : Int) from rfl, this]
      simp [L_S]
    refine up ?_
    simp only [bulletinref27_trim.l0]
    rw [hb, z]
    refine pos (by omega) (pos (by omega) ?_)
    by_cases h : x = 32
    · refine pos (by rw [h]; rfl) (pos (by omega) ?_)
      have e : (S (x :: l)).extract 1 (S (x :: l)).size = S l := by
        apply L_inj
        rw [L_to_end, L_S, L_S]
        rfl
      rw [e, h, tr_cons_blank]
      exact ih l hm (by omega)
    · refine neg (fun e => h (u8i (d := 32) e)) (up ?_)
      simp only [bulletinref27_trim.j1]
      rw [tr_other x l h]
      have := reftrim_l1 (n + 1) (x :: l) (by simp [hm]) hn
      have e : trimRightB (x :: l) 32 = x :: trimRightB l 32 := by
        have := tr_other x l h
        unfold trimRightB
        exact dropWhile_rev_app l _ x (by simpa using h) []
      rwa [e] at this
theorem reftrim_ev (l : List UInt8) (h : l.length ≤ 1000000000) : Ev (fun k => bulletinref27_trim.f k (S l)) (S (tr l)) := reftrim_l0 l.length l rfl h
theorem dw_dw (p : UInt8 → Bool) : ∀ l : List UInt8, (l.dropWhile p).dropWhile p = l.dropWhile p
  | [] => rfl
  | x :: l => by
    rw [List.dropWhile_cons]
    split
    · exact dw_dw p l
    · rename_i h
      rw [List.dropWhile_cons, if_neg h]
theorem tr_tr (l : List UInt8) : tr (tr l) = tr l := by
  induction l with
  | nil => rfl
  | cons x l ih =>
    by_cases h : x = 32
    · subst h; rw [tr_cons_blank, ih]
    · rw [tr_other x l h, tr_other x _ h]
      congr 1
      unfold trimRightB
      rw [List.reverse_reverse, dw_dw]

/-! ### Read -/
def wd (l : List UInt8) : List UInt8 := l.takeWhile (fun b => !(b == 32))
def be (l : List UInt8) : List UInt8 := (l.dropWhile (fun b => !(b == 32))).drop 1
def frL (v : Nat) : List UInt8 := if v = 3 then [70, 82, 79, 77, 58] else if v = 4 then [84, 79, 58] else []
def needs (v : Nat) : Bool := decide (v ≤ 4) || decide (v = 8)
def bans (v : Nat) : Bool := decide (v = 5) || decide (v = 6) || decide (v = 9)
def rest (v : Nat) (b : List UInt8) : Int × List UInt8 × Int := if (b = [] ∧ needs v = true) ∨ (b ≠ [] ∧ bans v = true) then (0, [], 3) else ((v : Int), b, 0)
def rdV (v : Nat) (pl : Bool) (a : List UInt8) : Int × List UInt8 × Int :=
  if v = 0 then (0, [], 270) else if pl = true then (if (frL v).length ≤ a.length ∧ foldL (a.take (frL v).length) = foldL (frL v) then rest v (tr (a.drop (frL v).length)) else (0, [], 3)) else (0, [], 3)
def rdL (l : List UInt8) : Int × List UInt8 × Int := rdV (kn 10 (foldL (wd l))) (plb l) (tr (be l))
def out (r : Int × List UInt8 × Int) : Int × ByteArray × Int := (r.1, S r.2.1, r.2.2)
theorem takeWhile_le (p : UInt8 → Bool) (l : List UInt8) : (l.takeWhile p).length ≤ l.length := (List.takeWhile_sublist p).length_le
theorem be_len (l : List UInt8) : (be l).length ≤ l.length := by
  unfold be
  rw [List.length_drop]
  have := (List.dropWhile_sublist (l := l) (fun b => !(b == 32))).length_le
  omega
theorem front_eq (v : Nat) : verb_front.f (v : Int) = some (S (frL v)) := by
  unfold verb_front.f frL
  by_cases h3 : v = 3
  · rw [if_pos (by omega), if_pos h3]; rfl
  rw [if_neg (by omega), if_neg h3]
  by_cases h4 : v = 4
  · rw [if_pos (by omega), if_pos h4]; rfl
  rw [if_neg (by omega), if_neg h4]
  rfl
theorem needs_eq (v : Nat) (h : v ≤ 9) (h0 : v ≠ 0) : verb_needs.f (v : Int) = some (needs v) := by
  have : v = 1 ∨ v = 2 ∨ v = 3 ∨ v = 4 ∨ v = 5 ∨ v = 6 ∨ v = 7 ∨ v = 8 ∨ v = 9 := by omega
  rcases this with rfl | rfl | rfl | rfl | rfl | rfl | rfl | rfl | rfl <;> rfl
theorem bans_eq (v : Nat) (h : v ≤ 9) (h0 : v ≠ 0) : verb_bans.f (v : Int) = some (bans v) := by
  have : v = 1 ∨ v = 2 ∨ v = 3 ∨ v = 4 ∨ v = 5 ∨ v = 6 ∨ v = 7 ∨ v = 8 ∨ v = 9 := by omega
  rcases this with rfl | rfl | rfl | rfl | rfl | rfl | rfl | rfl | rfl <;> rfl
theorem frL_len (v : Nat) : (frL v).length ≤ 5 := by
  unfold frL
  split
  · decide
  · split <;> decide
theorem read_ev (s : ByteArray) (hs : (L s).length ≤ 1000000) : Ev (fun k => verb_Read.f k s) (out (rdL (L s))) := by
  unfold verb_Read.f
  have hc : strings_Cut.f s (⟨#[32]⟩ : ByteArray) = some (S (wd (L s)), S (be (L s)), (L s).any (fun b => b == 32)) := by
    unfold strings_Cut.f
    rw [if_pos (by rw [sz]; omega)]
    show some (S (cut (L s) [32]).1, S (cut (L s) [32]).2.1, (cut (L s) [32]).2.2) = _
    rw [CutL.cut_one]
    rfl
  have w1 := takeWhile_le (fun b => !(b == 32)) (L s)
  have hw : (wd (L s)).length ≤ (L s).length := w1
  have hbl := be_len (L s)
  refine cbind hc (Ev.bind (known_ev _ (by rw [L_S]; omega)) ?_)
  rw [L_S]
  have hk := kn_le (foldL (wd (L s))) 10 (by omega)
  unfold rdL
  generalize kn 10 (foldL (wd (L s))) = v at hk ⊢
  unfold rdV
  by_cases hv : v = 0
  · rw [if_pos hv]
    exact pos (by omega) (now' (by rfl))
  rw [if_neg hv]
  refine neg (by omega) (Ev.bind (plb_ev s) ?_)
  cases hp : plb (L s) with
  | false => exact neg (by simp) (now' rfl)
  | true =>
    refine pos rfl (cbind (tr_ev _ (by rw [L_S]; omega)) (cbind (front_eq v) ?_))
    rw [L_S, if_pos rfl]
    have htl := tr_len (be (L s))
    generalize tr (be (L s)) = a at htl ⊢
    have hfl := frL_len v
    have za := zS a
    have zf := zS (frL v)
    have no : Ev (fun k => verb_Read.j0 k (S a) (v : Int) (S (frL v)) false) (out (0, [], 3)) := by
      refine up ?_
      simp only [verb_Read.j0]
      exact neg (by simp) (now' rfl)
    by_cases hl : (frL v).length ≤ a.length
    · refine pos (by omega) (pos (by omega) (pos (by omega) ?_))
      have e1 : (S a).extract 0 (S (frL v)).size = S (a.take (frL v).length) := by
        apply L_inj
        rw [L_from_start, L_S, L_S, zf]
      rw [e1]
      refine Ev.bind (fold_ev _ (by rw [L_S, List.length_take]; omega)) (Ev.bind (fold_ev _ (by rw [L_S]; omega)) ?_)
      rw [L_S, L_S]
      by_cases hf : foldL (a.take (frL v).length) = foldL (frL v)
      · rw [if_pos ⟨hl, hf⟩, beq_iff_eq.2 ((S_eq _ _).2 hf)]
        refine up ?_
        simp only [verb_Read.j0]
        have e2 : (S a).extract (S (frL v)).size (S a).size = S (a.drop (frL v).length) := by
          apply L_inj
          rw [L_to_end, L_S, L_S, zf]
        rw [e2]
        refine pos (by trivial) (pos (by omega) (pos (by omega) (cbind (tr_ev _ (by rw [L_S, List.length_drop]; omega)) ?_)))
        rw [L_S]
        generalize tr (a.drop (frL v).length) = b
        unfold rest
        by_cases hb : b = []
        · refine pos (by rw [tl, L_S]; exact hb) (cbind (needs_eq v hk hv) ?_)
          cases hn : needs v with
          | true => rw [if_pos (Or.inl ⟨hb, rfl⟩)]; exact pos rfl (now' rfl)
          | false =>
            refine neg (by simp) (now' ?_)
            rw [if_neg (fun q => Or.elim q (fun h => absurd h.2 (by simp)) (fun h => h.1 hb))]
            rfl
        · refine neg (by rw [tl, L_S]; exact hb) (cbind (bans_eq v hk hv) ?_)
          cases hn : bans v with
          | true => rw [if_pos (Or.inr ⟨hb, rfl⟩)]; exact pos rfl (now' rfl)
          | false =>
            refine neg (by simp) (now' ?_)
            rw [if_neg (fun q => Or.elim q (fun h => hb h.1) (fun h => absurd h.2 (by simp)))]
            rfl
      · rw [if_neg (fun q => hf q.2)]
        have : ((S (foldL (a.take (frL v).length))).toList == (S (foldL (frL v))).toList) = false := by
          rw [beq_eq_false_iff_ne]
          exact fun q => hf ((S_eq _ _).1 q)
        rw [this]
        exact no
    · rw [if_neg (fun q => hl q.1)]
      exact neg (by omega) no
end Go.Proofs.YtaamnpomclenpaaDoor.Verb
