/- verp, the plain law: names, local parts, extensions and addresses as lists of bytes; no program. -/
import Derived.Test.YthckkikfldgphaaDoorAid
namespace Go.Proofs.YthckkikfldgphaaDoor.Verp
open Go.Proofs.YthckkikfldgphaaDoor.Aid
set_option linter.unusedVariables false
set_option linter.unusedSimpArgs false
/-- a capital letter as a small one -/
def lw (c : UInt8) : UInt8 := if 65 ≤ c.toNat ∧ c.toNat ≤ 90 then UInt8.ofNat (c.toNat + 32) else c
def fo (l : List UInt8) : List UInt8 := l.map lw
def sm (c : UInt8) : Bool := (decide (97 ≤ c.toNat) && decide (c.toNat ≤ 122)) || (decide (48 ≤ c.toNat) && decide (c.toNat ≤ 57))
theorem lw_lw (c : UInt8) : lw (lw c) = lw c := all8 (P := fun c => lw (lw c) = lw c) (by decide +kernel) c
theorem fo_fo (l : List UInt8) : fo (fo l) = fo l := by
  unfold fo
  rw [List.map_map]
  exact List.map_congr_left fun c _ => lw_lw c
theorem fo_app (a b : List UInt8) : fo (a ++ b) = fo a ++ fo b := List.map_append
theorem fo_cons (c : UInt8) (b : List UInt8) : fo (c :: b) = lw c :: fo b := rfl
theorem fo_nil : fo [] = [] := rfl
theorem fo_len (a : List UInt8) : (fo a).length = a.length := List.length_map _
theorem fo_eq_nil {a : List UInt8} : fo a = [] ↔ a = [] := List.map_eq_nil_iff
theorem lw_sm (c : UInt8) (h : sm c = true) : lw c = c := all8 (P := fun c => sm c = true → lw c = c) (by decide +kernel) c h
/-! ### names -/
def sfx : Nat → List UInt8
  | 2 => [45, 114, 101, 113, 117, 101, 115, 116]
  | 3 => [45, 111, 119, 110, 101, 114]
  | 4 => [45, 99, 111, 110, 102, 105, 114, 109]
  | 5 => [45, 98, 111, 117, 110, 99, 101, 115]
  | _ => []
def ends (s t : List UInt8) : Bool := t.isSuffixOf s
theorem ends_iff (s t : List UInt8) : ends s t = true ↔ ∃ u, s = u ++ t := by
  unfold ends
  rw [List.isSuffixOf_iff_suffix]
  constructor
  · rintro ⟨u, h⟩; exact ⟨u, h.symm⟩
  · rintro ⟨u, h⟩; exact ⟨u, h.symm⟩
def nc (c : UInt8) : Bool := sm c || c == 45
def nm (s : List UInt8) : Bool := !s.isEmpty && decide (s.length ≤ 20) && s.head? != some 45 && s.getLast? != some 45 && s.all nc && !ends s (sfx 2) && !ends s (sfx 3) && !ends s (sfx 4) && !ends s (sfx 5)
theorem nm_parts {s : List UInt8} (h : nm s = true) : s ≠ [] ∧ s.length ≤ 20 ∧ (∀ c ∈ s, nc c = true) ∧ ends s (sfx 2) = false ∧ ends s (sfx 3) = false ∧ ends s (sfx 4) = false ∧ ends s (sfx 5) = false := by
  unfold nm at h
  simp only [Bool.and_eq_true, Bool.not_eq_true', decide_eq_true_eq, List.all_eq_true, List.isEmpty_eq_false_iff] at h
  obtain ⟨⟨⟨⟨⟨⟨⟨⟨h1, h2⟩, _⟩, _⟩, h3⟩, h4⟩, h5⟩, h6⟩, h7⟩ := h
  exact ⟨h1, h2, h3, h4, h5, h6, h7⟩
theorem nc_lw (c : UInt8) (h : nc c = true) : lw c = c ∧ c ≠ 43 := all8 (P := fun c => nc c = true → lw c = c ∧ c ≠ 43) (by decide +kernel) c h
theorem fo_id {s : List UInt8} (h : ∀ c ∈ s, lw c = c) : fo s = s := by
  induction s with
  | nil => rfl
  | cons c t ih => rw [fo_cons, h c (by simp), ih fun d hd => h d (by simp [hd])]
theorem nm_fo {s : List UInt8} (h : nm s = true) : fo s = s := fo_id fun c hc => (nc_lw c ((nm_parts h).2.2.1 c hc)).1
theorem sfx_nc (r : Nat) : ∀ c ∈ sfx r, nc c = true := by
  unfold sfx
  split <;> decide +kernel
theorem sfx_fo (r : Nat) : fo (sfx r) = sfx r := fo_id fun c hc => (nc_lw c (sfx_nc r c hc)).1
def loc (list : List UInt8) (role : Nat) (ext : List UInt8) : List UInt8 :=
  if role < 1 ∨ 5 < role then [] else if 4 ≤ role then list ++ sfx role ++ 43 :: ext else list ++ sfx role
/-- whose a local part is -/
structure R (s list : List UInt8) (role : Nat) (ext : List UInt8) : Prop where
  name : nm list = true
  lo : 1 ≤ role
  hi : role ≤ 5
  eq : s = loc list role ext
  more : 4 ≤ role → ext ≠ []
  less : role < 4 → ext = []
def n43 (c : UInt8) : Bool := c != 43
/-- the last role whose suffix a text has, and what is ahead of it -/
def who (p : List UInt8) : List UInt8 × Nat :=
  if ends p (sfx 2) then (p.take (p.length - (sfx 2).length), 2)
  else if ends p (sfx 3) then (p.take (p.length - (sfx 3).length), 3)
  else if ends p (sfx 4) then (p.take (p.length - (sfx 4).length), 4)
  else if ends p (sfx 5) then (p.take (p.length - (sfx 5).length), 5)
  else (p, 1)
def readP (s : List UInt8) : Option (List UInt8 × Nat × List UInt8) :=
  if nm (who (s.takeWhile n43)).1 = false ∨ (decide (4 ≤ (who (s.takeWhile n43)).2) != s.any (· == 43)) = true ∨ (s.any (· == 43) = true ∧ (s.dropWhile n43).drop 1 = []) then none
  else some ((who (s.takeWhile n43)).1, (who (s.takeWhile n43)).2, (s.dropWhile n43).drop 1)
theorem take_end (u t : List UInt8) : (u ++ t).take ((u ++ t).length - t.length) = u := by
  rw [List.length_append, Nat.add_sub_cancel, List.take_left]
theorem ends_no {u : List UInt8} (a b : List UInt8) (ha : a ≠ []) (hb : b ≠ []) (h : a.getLast? ≠ b.getLast?) : ends (u ++ a) b = false := by
  cases hc : ends (u ++ a) b with
  | false => rfl
  | true =>
    exfalso
    obtain ⟨v, hv⟩ := (ends_iff _ _).1 hc
    apply h
    have := congrArg List.getLast? hv
    have g : ∀ (x y : List UInt8), y ≠ [] → (x ++ y).getLast? = y.getLast? := fun x y hy => by
      rw [List.getLast?_append, List.getLast?_eq_some_getLast hy]
      rfl
    rwa [g _ _ ha, g _ _ hb] at this
theorem ends_yes (u a : List UInt8) : ends (u ++ a) a = true := (ends_iff _ _).2 ⟨u, rfl⟩
theorem who_of {l : List UInt8} (h : nm l = true) {r : Nat} (h1 : 1 ≤ r) (h5 : r ≤ 5) : who (l ++ sfx r) = (l, r) := by
  obtain ⟨_, _, _, e2, e3, e4, e5⟩ := nm_parts h
  have hr : r = 1 ∨ r = 2 ∨ r = 3 ∨ r = 4 ∨ r = 5 := by omega
  unfold who
  rcases hr with rfl | rfl | rfl | rfl | rfl
  · rw [show l ++ sfx 1 = l from List.append_nil l, e2, e3, e4, e5]; rfl
  · rw [ends_yes, if_pos rfl, take_end]
  · rw [ends_no _ (sfx 2) (by decide) (by decide) (by decide), ends_yes, if_neg (by decide), if_pos rfl, take_end]
  · rw [ends_no _ (sfx 2) (by decide) (by decide) (by decide), ends_no _ (sfx 3) (by decide) (by decide) (by decide), ends_yes, if_neg (by decide), if_neg (by decide), if_pos rfl, take_end]
  · rw [ends_no _ (sfx 2) (by decide) (by decide) (by decide), ends_no _ (sfx 3) (by decide) (by decide) (by decide), ends_no _ (sfx 4) (by decide) (by decide) (by decide), ends_yes, if_neg (by decide), if_neg (by decide), if_neg (by decide), if_pos rfl, take_end]
theorem who_eq (p : List UInt8) : p = (who p).1 ++ sfx (who p).2 ∧ 1 ≤ (who p).2 ∧ (who p).2 ≤ 5 := by
  have key : ∀ t : List UInt8, ends p t = true → p = p.take (p.length - t.length) ++ t := fun t h => by
    obtain ⟨u, hu⟩ := (ends_iff _ _).1 h
    rw [hu, take_end]
  unfold who
  split
  · rename_i h; exact ⟨key _ h, Nat.le_of_ble_eq_true rfl, Nat.le_of_ble_eq_true rfl⟩
  split
  · rename_i h; exact ⟨key _ h, Nat.le_of_ble_eq_true rfl, Nat.le_of_ble_eq_true rfl⟩
  split
  · rename_i h; exact ⟨key _ h, Nat.le_of_ble_eq_true rfl, Nat.le_of_ble_eq_true rfl⟩
  split
  · rename_i h; exact ⟨key _ h, Nat.le_of_ble_eq_true rfl, Nat.le_of_ble_eq_true rfl⟩
  · exact ⟨(List.append_nil p).symm, Nat.le_of_ble_eq_true rfl, Nat.le_of_ble_eq_true rfl⟩
theorem n43_of {c : UInt8} (h : nc c = true) : n43 c = true := by
  unfold n43
  simpa using (nc_lw c h).2
theorem front43 {l : List UInt8} (h : nm l = true) (r : Nat) : ∀ c ∈ l ++ sfx r, n43 c = true := by
  intro c hc
  rcases List.mem_append.1 hc with hc | hc
  · exact n43_of ((nm_parts h).2.2.1 c hc)
  · exact n43_of (sfx_nc r c hc)
theorem tw43 (p e : List UInt8) (h : ∀ c ∈ p, n43 c = true) : (p ++ 43 :: e).takeWhile n43 = p ∧ (p ++ 43 :: e).dropWhile n43 = 43 :: e := by
  induction p with
  | nil => exact ⟨rfl, rfl⟩
  | cons c t ih =>
    have := ih fun d hd => h d (by simp [hd])
    rw [List.cons_append, List.takeWhile_cons, List.dropWhile_cons, if_pos (h c (by simp)), if_pos (h c (by simp)), this.1]
    exact ⟨rfl, this.2⟩
theorem tw43' (p : List UInt8) (h : ∀ c ∈ p, n43 c = true) : p.takeWhile n43 = p ∧ p.dropWhile n43 = [] ∧ p.any (· == 43) = false := by
  induction p with
  | nil => exact ⟨rfl, rfl, rfl⟩
  | cons c t ih =>
    have := ih fun d hd => h d (by simp [hd])
    have hc := h c (by simp)
    rw [List.takeWhile_cons, List.dropWhile_cons, if_pos hc, if_pos hc, this.1, List.any_cons, this.2.2]
    refine ⟨rfl, this.2.1, ?_⟩
    unfold n43 at hc
    simpa using hc
theorem readP_of {s l e : List UInt8} {r : Nat} (h : R s l r e) : readP s = some (l, r, e) := by
  obtain ⟨hn, h1, h5, hs, hm, hl⟩ := h
  have hf := front43 hn r
  unfold loc at hs
  rw [if_neg (by omega)] at hs
  unfold readP
  by_cases h4 : 4 ≤ r
  · rw [if_pos h4] at hs
    subst hs
    rw [(tw43 _ e hf).1, (tw43 _ e hf).2, who_of hn h1 h5]
    have ha : (l ++ sfx r ++ 43 :: e).any (· == 43) = true := by simp
    rw [ha, if_neg]
    · rfl
    · simp only [decide_eq_true h4, hn, not_or, bne_self_eq_false]
      exact ⟨by decide, by decide, fun e => hm h4 e.2⟩
  · rw [if_neg h4] at hs
    subst hs
    obtain ⟨a, b, c⟩ := tw43' _ hf
    rw [a, b, c, who_of hn h1 h5, hl (by omega), if_neg]
    · rfl
    · simp only [decide_eq_false h4, hn, not_or, bne_self_eq_false]
      exact ⟨by decide, by decide, fun e => by simp at e⟩
theorem split43 (s : List UInt8) : (s.any (· == 43) = true ∧ s = s.takeWhile n43 ++ 43 :: (s.dropWhile n43).drop 1) ∨ (s.any (· == 43) = false ∧ s = s.takeWhile n43 ∧ s.dropWhile n43 = []) := by
  induction s with
  | nil => exact .inr ⟨rfl, rfl, rfl⟩
  | cons c t ih =>
    rw [List.takeWhile_cons, List.dropWhile_cons, List.any_cons]
    by_cases hc : c = 43
    · subst hc
      exact .inl ⟨rfl, rfl⟩
    · have h1 : n43 c = true := by unfold n43; simpa using hc
      have h2 : (c == 43) = false := by simpa using hc
      rw [if_pos h1, if_pos h1, h2, Bool.false_or]
      rcases ih with ⟨a, b⟩ | ⟨a, b, d⟩
      · exact .inl ⟨a, by rw [List.cons_append, ← b]⟩
      · exact .inr ⟨a, by rw [← b], d⟩
theorem readP_R {s l e : List UInt8} {r : Nat} (h : readP s = some (l, r, e)) : R s l r e := by
  unfold readP at h
  split at h
  · cases h
  rename_i hc
  simp only [not_or, Bool.not_eq_false, Bool.not_eq_true, bne_eq_false_iff_eq] at hc
  obtain ⟨hn, hm, he⟩ := hc
  have h' := Option.some.inj h
  obtain ⟨w1, w2, w3⟩ := who_eq (s.takeWhile n43)
  have e1 : (who (s.takeWhile n43)).1 = l := congrArg Prod.fst h'
  have e2 : (who (s.takeWhile n43)).2 = r := congrArg (fun z => z.2.1) h'
  have e3 : (s.dropWhile n43).drop 1 = e := congrArg (fun z => z.2.2) h'
  rw [e1] at hn w1
  rw [e2] at hm w1 w2 w3
  rw [e3] at he
  rcases split43 s with ⟨a, b⟩ | ⟨a, b, d⟩
  · rw [a] at hm he
    have h4 := of_decide_eq_true hm
    refine ⟨hn, w2, w3, ?_, fun _ x => he ⟨rfl, x⟩, fun x => by omega⟩
    unfold loc
    rw [if_neg (by omega), if_pos h4, ← w1, ← e3]
    exact b
  · rw [a] at hm
    have h4 := of_decide_eq_false hm
    refine ⟨hn, w2, w3, ?_, fun x => absurd x h4, fun _ => by rw [← e3, d]; rfl⟩
    unfold loc
    rw [if_neg (by omega), if_neg h4, ← w1]
    exact b
theorem R_one {s l e l' e' : List UInt8} {r r' : Nat} (h : R s l r e) (h' : R s l' r' e') : l = l' ∧ r = r' ∧ e = e' := by
  have := (readP_of h).symm.trans (readP_of h')
  simp only [Option.some.injEq, Prod.mk.injEq] at this
  exact this
theorem fo_loc {l : List UInt8} (h : nm l = true) (r : Nat) (e : List UInt8) : fo (loc l r e) = loc l r (fo e) := by
  unfold loc
  split
  · rfl
  split
  · rw [fo_app, fo_app, fo_cons, nm_fo h, sfx_fo]; rfl
  · rw [fo_app, nm_fo h, sfx_fo]
/-! ### texts of addresses -/
def at1 (c : UInt8) : Bool := (decide (97 ≤ c.toNat) && decide (c.toNat ≤ 122)) || (decide (65 ≤ c.toNat) && decide (c.toNat ≤ 90)) || (decide (48 ≤ c.toNat) && decide (c.toNat ≤ 57)) || decide (127 < c.toNat) ||
  ([33, 35, 36, 37, 38, 39, 42, 43, 45, 47, 61, 63, 94, 95, 96, 123, 124, 125, 126] : List UInt8).contains c
def isAtom (p : List UInt8) : Bool := !p.isEmpty && p.all at1
def pcd : List UInt8 → List UInt8 → List (List UInt8)
  | cur, [] => [cur]
  | cur, c :: t => if c = 46 then cur :: pcd [] t else pcd (cur ++ [c]) t
def dotted (l : List UInt8) : Bool := (pcd [] l).all isAtom
theorem lw46 (c : UInt8) : lw c = 46 ↔ c = 46 := all8 (P := fun c => lw c = 46 ↔ c = 46) (by decide +kernel) c
theorem pcd_fo : ∀ (l cur : List UInt8), pcd (fo cur) (fo l) = (pcd cur l).map fo
  | [], cur => rfl
  | c :: t, cur => by
    rw [fo_cons, pcd, pcd]
    by_cases h : c = 46
    · rw [if_pos h, if_pos ((lw46 c).2 h), List.map_cons, ← pcd_fo t []]; rfl
    · rw [if_neg h, if_neg (fun e => h ((lw46 c).1 e)), ← pcd_fo t (cur ++ [c]), fo_app]; rfl
theorem at1_lw (c : UInt8) : at1 (lw c) = at1 c := all8 (P := fun c => at1 (lw c) = at1 c) (by decide +kernel) c
theorem isAtom_fo (p : List UInt8) : isAtom (fo p) = isAtom p := by
  unfold isAtom fo
  rw [List.all_map, List.isEmpty_map]
  congr 1
  exact List.all_congr rfl fun c => at1_lw c
theorem dotted_fo (l : List UInt8) : dotted (fo l) = dotted l := by
  unfold dotted
  rw [show pcd [] (fo l) = pcd (fo []) (fo l) from rfl, pcd_fo, List.all_map]
  exact List.all_congr rfl fun p => isAtom_fo p
theorem pcd_all {q : UInt8 → Bool} : ∀ (l cur : List UInt8), (∀ p ∈ pcd cur l, p.all q = true) → (∀ c ∈ cur, q c = true) ∧ ∀ c ∈ l, c = 46 ∨ q c = true
  | [], cur, h => ⟨fun c hc => List.all_eq_true.1 (h cur (by simp [pcd])) c hc, fun c hc => by simp at hc⟩
  | d :: t, cur, h => by
    rw [pcd] at h
    by_cases hd : d = 46
    · rw [if_pos hd] at h
      obtain ⟨_, i2⟩ := pcd_all t [] fun p hp => h p (by simp [hp])
      refine ⟨fun c hc => List.all_eq_true.1 (h cur (by simp)) c hc, fun c hc => ?_⟩
      rcases List.mem_cons.1 hc with rfl | hc
      · exact .inl hd
      · exact i2 c hc
    · rw [if_neg hd] at h
      obtain ⟨i1, i2⟩ := pcd_all t (cur ++ [d]) h
      refine ⟨fun c hc => i1 c (by simp [hc]), fun c hc => ?_⟩
      rcases List.mem_cons.1 hc with rfl | hc
      · exact .inr (i1 _ (by simp))
      · exact i2 c hc
theorem dotted_all {l : List UInt8} (h : dotted l = true) : ∀ c ∈ l, c = 46 ∨ at1 c = true := by
  refine (pcd_all l [] fun p hp => ?_).2
  have := List.all_eq_true.1 h p hp
  unfold isAtom at this
  exact (Bool.and_eq_true _ _ ▸ this).2
def tx (c : UInt8) : Bool := c == 9 || (decide (32 ≤ c.toNat) && c != 127)
def q1 (c : UInt8) : List UInt8 := if c = 34 ∨ c = 92 then [92, c] else if tx c then [c] else [32]
def quote (l : List UInt8) : List UInt8 := 34 :: (l.flatMap q1 ++ [34])
def loct (l : List UInt8) : List UInt8 := if dotted l then l else quote l
def text (l d : List UInt8) : List UInt8 := loct l ++ 64 :: d
theorem q1_fo (c : UInt8) : fo (q1 c) = q1 (lw c) := all8 (P := fun c => fo (q1 c) = q1 (lw c)) (by decide +kernel) c
theorem quote_fo (l : List UInt8) : fo (quote l) = quote (fo l) := by
  have h : ∀ l : List UInt8, fo (l.flatMap q1) = (fo l).flatMap q1 := fun l => by
    induction l with
    | nil => rfl
    | cons c t ih => rw [List.flatMap_cons, fo_app, fo_cons, List.flatMap_cons, ih, q1_fo]
  unfold quote
  rw [fo_cons, fo_app, h]
  rfl
theorem loct_fo (l : List UInt8) : fo (loct l) = loct (fo l) := by
  unfold loct
  rw [dotted_fo]
  split
  · rfl
  · exact quote_fo l
theorem text_fo (l d : List UInt8) : fo (text l d) = text (fo l) (fo d) := by
  unfold text
  rw [fo_app, fo_cons, loct_fo]
  rfl
def pl (c : UInt8) : Bool := decide (32 ≤ c.toNat) && decide (c.toNat ≤ 126)
theorem pl_lw (c : UInt8) : pl (lw c) = pl c := all8 (P := fun c => pl (lw c) = pl c) (by decide +kernel) c
theorem q1_pl (c : UInt8) (h : pl c = true) : q1 c = if c = 34 ∨ c = 92 then [92, c] else [c] := all8 (P := fun c => pl c = true → q1 c = if c = 34 ∨ c = 92 then [92, c] else [c]) (by decide +kernel) c h
theorem quote_inj0 : ∀ (a b : List UInt8), (∀ c ∈ a, pl c = true) → (∀ c ∈ b, pl c = true) → a.flatMap q1 ++ [34] = b.flatMap q1 ++ [34] → a = b
  | [], [], _, _, _ => rfl
  | [], c :: t, _, hb, h => by
    exfalso
    rw [List.flatMap_cons, q1_pl c (hb c (by simp))] at h
    split at h
    · simp at h
    · rename_i hc
      simp only [List.flatMap_nil, List.nil_append, List.cons_append, List.cons.injEq] at h
      exact hc (.inl h.1.symm)
  | c :: t, [], ha, _, h => by
    exfalso
    rw [List.flatMap_cons, q1_pl c (ha c (by simp))] at h
    split at h
    · simp at h
    · rename_i hc
      simp only [List.flatMap_nil, List.nil_append, List.cons_append, List.cons.injEq] at h
      exact hc (.inl h.1)
  | c :: t, d :: u, ha, hb, h => by
    have ih := quote_inj0 t u (fun x hx => ha x (by simp [hx])) (fun x hx => hb x (by simp [hx]))
    rw [List.flatMap_cons, List.flatMap_cons, q1_pl c (ha c (by simp)), q1_pl d (hb d (by simp))] at h
    by_cases hc : c = 34 ∨ c = 92
    · by_cases hd : d = 34 ∨ d = 92
      · rw [if_pos hc, if_pos hd] at h
        simp only [List.cons_append, List.nil_append, List.cons.injEq] at h
        rw [h.2.1, ih h.2.2]
      · rw [if_pos hc, if_neg hd] at h
        simp only [List.cons_append, List.nil_append, List.cons.injEq] at h
        exact absurd (.inr h.1.symm) hd
    · by_cases hd : d = 34 ∨ d = 92
      · rw [if_neg hc, if_pos hd] at h
        simp only [List.cons_append, List.nil_append, List.cons.injEq] at h
        exact absurd (.inr h.1) hc
      · rw [if_neg hc, if_neg hd] at h
        simp only [List.cons_append, List.nil_append, List.cons.injEq] at h
        rw [h.1, ih h.2]
theorem quote_inj {a b : List UInt8} (ha : ∀ c ∈ a, pl c = true) (hb : ∀ c ∈ b, pl c = true) (h : quote a = quote b) : a = b := by
  unfold quote at h
  exact quote_inj0 a b ha hb (List.cons.inj h).2
theorem loct_inj {a b : List UInt8} (ha : ∀ c ∈ a, pl c = true) (hb : ∀ c ∈ b, pl c = true) (h : loct a = loct b) : a = b := by
  have no : ∀ x y : List UInt8, dotted x = true → x ≠ quote y := fun x y hx e => by
    have := dotted_all hx 34 (by rw [e]; simp [quote])
    exact absurd this (by decide)
  unfold loct at h
  by_cases h1 : dotted a = true
  · by_cases h2 : dotted b = true
    · rwa [if_pos h1, if_pos h2] at h
    · rw [if_pos h1, if_neg h2] at h
      exact absurd h (no _ _ h1)
  · by_cases h2 : dotted b = true
    · rw [if_neg h1, if_pos h2] at h
      exact absurd h.symm (no _ _ h2)
    · rw [if_neg h1, if_neg h2] at h
      exact quote_inj ha hb h
theorem cut_last (z : UInt8) : ∀ (a b x y : List UInt8), z ∉ b → z ∉ y → a ++ z :: b = x ++ z :: y → a = x ∧ b = y
  | [], b, [], y, _, _, h => ⟨rfl, (List.cons.inj h).2⟩
  | [], b, d :: x, y, hb, _, h => by
    exfalso
    apply hb
    rw [(List.cons.inj h).2]
    simp
  | c :: a, b, [], y, _, hy, h => by
    exfalso
    apply hy
    rw [← (List.cons.inj h).2]
    simp
  | c :: a, b, d :: x, y, hb, hy, h => by
    obtain ⟨h1, h2⟩ := List.cons.inj h
    obtain ⟨i1, i2⟩ := cut_last z a b x y hb hy h2
    exact ⟨by rw [h1, i1], i2⟩
/-! ### right addresses -/
def lb (c : UInt8) : Bool := (decide (97 ≤ c.toNat) && decide (c.toNat ≤ 122)) || (decide (65 ≤ c.toNat) && decide (c.toNat ≤ 90)) || (decide (48 ≤ c.toNat) && decide (c.toNat ≤ 57)) || c == 45
def label (p : List UInt8) : Bool := p.all lb && !p.isEmpty && p.head? != some 45 && p.getLast? != some 45
def dom (d : List UInt8) : Int := if (pcd [] d).all label then (if 253 < d.length ∨ ∃ p ∈ pcd [] d, 63 < p.length then 2 else 0) else 130
def why (l d : List UInt8) : Int := if dom d = 130 ∨ l = [] ∨ l.all pl = false then 130 else if dom d ≠ 0 ∨ 64 < l.length ∨ 254 < (text l d).length then 2 else 0
def right (l d : List UInt8) : Bool := decide (why l d = 0) && decide (d = fo d)
theorem right_parts {l d : List UInt8} (h : right l d = true) : (∀ c ∈ d, c ≠ 61 ∧ c ≠ 64) ∧ fo d = d ∧ (∀ c ∈ l, pl c = true) ∧ l ≠ [] := by
  unfold right at h
  obtain ⟨h1, h2⟩ := (Bool.and_eq_true _ _).mp h
  have h1 := of_decide_eq_true h1
  have h2 := of_decide_eq_true h2
  unfold why at h1
  split at h1
  · exact absurd h1 (by decide)
  rename_i hn
  simp only [not_or] at hn
  refine ⟨?_, h2.symm, List.all_eq_true.1 (by simpa using hn.2.2), hn.2.1⟩
  intro c hc
  have hd := hn.1
  unfold dom at hd
  split at hd
  · rename_i hl
    have hp := (pcd_all (q := lb) d [] fun p hp => by
      have := List.all_eq_true.1 hl p hp
      unfold label at this
      simp only [Bool.and_eq_true] at this
      exact this.1.1.1).2 c hc
    rcases hp with rfl | hp
    · decide
    · exact all8 (P := fun c => lb c = true → c ≠ 61 ∧ c ≠ 64) (by decide +kernel) c hp
  · exact absurd rfl hd
theorem q1_len_lw (c : UInt8) : (q1 (lw c)).length = (q1 c).length := all8 (P := fun c => (q1 (lw c)).length = (q1 c).length) (by decide +kernel) c
theorem text_len_fo (l d : List UInt8) (hd : fo d = d) : (text (fo l) d).length = (text l d).length := by
  rw [← hd, ← text_fo, fo_len, hd]
theorem right_fo {l d : List UInt8} (h : right l d = true) : right (fo l) d = true := by
  obtain ⟨_, hd, _, _⟩ := right_parts h
  unfold right why at h ⊢
  rw [text_len_fo l d hd, fo_len, show (fo l).all pl = l.all pl by
    unfold fo
    rw [List.all_map]
    exact List.all_congr rfl fun c => pl_lw c]
  simpa only [fo_eq_nil] using h
/-! ### extensions -/
def hexd (n : Nat) : UInt8 := if n < 10 then UInt8.ofNat (48 + n) else UInt8.ofNat (87 + n)
def sgn (c : UInt8) : List UInt8 := [37, hexd (c.toNat / 16), hexd (c.toNat % 16)]
def enc1 (b : Bool) (c : UInt8) : List UInt8 := if c = 37 ∨ (b = false ∧ sm c = false) then sgn c else [c]
def enc (b : Bool) (l : List UInt8) : List UInt8 := l.flatMap (enc1 b)
def ext (l d : List UInt8) : List UInt8 := enc (dotted (fo l)) (fo l) ++ 61 :: fo d
def hv (c : UInt8) : Int := if 48 ≤ c.toNat ∧ c.toNat ≤ 57 then (c.toNat : Int) - 48 else if 97 ≤ c.toNat ∧ c.toNat ≤ 102 then (c.toNat : Int) - 87 else -1
def uns : Nat → List UInt8 → Option (List UInt8)
  | 0, _ => some []
  | _ + 1, [] => some []
  | n + 1, c :: t => if c = 37 then (match t with
      | h :: l :: u => if hv h < 0 ∨ hv l < 0 then none else (uns n u).map (UInt8.ofNat (16 * hv h + hv l).toNat :: ·)
      | _ => none) else (uns n t).map (c :: ·)
def rdec : Nat → List UInt8 → List UInt8
  | 0, _ => []
  | _ + 1, [] => []
  | n + 1, c :: t => if c = 37 then (match t with
      | h :: l :: u => UInt8.ofNat ((16 * (hv h + 32) + hv l) % 256).toNat :: rdec n u
      | t => c :: rdec n t) else c :: rdec n t
theorem enc1_cases (b : Bool) (c : UInt8) : enc1 b c = sgn c ∨ (c ≠ 37 ∧ enc1 b c = [c]) := by
  unfold enc1
  by_cases h : c = 37 ∨ (b = false ∧ sm c = false)
  · exact .inl (if_pos h)
  · exact .inr ⟨fun e => h (.inl e), if_neg h⟩
theorem sgn_back (c : UInt8) : 0 ≤ hv (hexd (c.toNat / 16)) ∧ 0 ≤ hv (hexd (c.toNat % 16)) ∧ UInt8.ofNat (16 * hv (hexd (c.toNat / 16)) + hv (hexd (c.toNat % 16))).toNat = c ∧
    UInt8.ofNat ((16 * (hv (hexd (c.toNat / 16)) + 32) + hv (hexd (c.toNat % 16))) % 256).toNat = c :=
  all8 (P := fun c => 0 ≤ hv (hexd (c.toNat / 16)) ∧ 0 ≤ hv (hexd (c.toNat % 16)) ∧ UInt8.ofNat (16 * hv (hexd (c.toNat / 16)) + hv (hexd (c.toNat % 16))).toNat = c ∧
    UInt8.ofNat ((16 * (hv (hexd (c.toNat / 16)) + 32) + hv (hexd (c.toNat % 16))) % 256).toNat = c) (by decide +kernel) c
theorem uns_enc (b : Bool) : ∀ (l : List UInt8) (n : Nat), (enc b l).length ≤ n → uns n (enc b l) = some l ∧ rdec n (enc b l) = l
  | [], n, _ => by cases n <;> exact ⟨rfl, rfl⟩
  | c :: t, n, hn => by
    have he : enc b (c :: t) = enc1 b c ++ enc b t := List.flatMap_cons
    rw [he] at hn ⊢
    rcases enc1_cases b c with h | ⟨hc, h⟩
    · rw [h] at hn ⊢
      cases n with
      | zero => simp [sgn] at hn
      | succ n =>
        obtain ⟨h1, h2, h3, h4⟩ := sgn_back c
        obtain ⟨i1, i2⟩ := uns_enc b t n (by simp [sgn] at hn; omega)
        show uns (n + 1) (37 :: hexd (c.toNat / 16) :: hexd (c.toNat % 16) :: enc b t) = _ ∧ rdec (n + 1) (37 :: hexd (c.toNat / 16) :: hexd (c.toNat % 16) :: enc b t) = _
        simp only [uns, rdec, if_true]
        rw [if_neg (by omega), i1, i2, h3, h4]
        exact ⟨rfl, rfl⟩
    · rw [h] at hn ⊢
      cases n with
      | zero => simp at hn
      | succ n =>
        obtain ⟨i1, i2⟩ := uns_enc b t n (by simp at hn; omega)
        show uns (n + 1) (c :: enc b t) = _ ∧ rdec (n + 1) (c :: enc b t) = _
        simp only [uns, rdec, if_neg hc]
        rw [i1, i2]
        exact ⟨rfl, rfl⟩
/-- a text at its last sign '=' -/
def lastEq : List UInt8 → Option (List UInt8 × List UInt8)
  | [] => none
  | c :: t => match lastEq t with
    | some (a, b) => some (c :: a, b)
    | none => if c = 61 then some ([], t) else none
theorem lastEq_none {l : List UInt8} (h : 61 ∉ l) : lastEq l = none := by
  induction l with
  | nil => rfl
  | cons c t ih =>
    rw [lastEq, ih fun e => h (by simp [e]), if_neg fun e => h (by simp [e])]
theorem lastEq_app (a : List UInt8) {b : List UInt8} (h : 61 ∉ b) : lastEq (a ++ 61 :: b) = some (a, b) := by
  induction a with
  | nil => rw [List.nil_append, lastEq, lastEq_none h, if_pos rfl]
  | cons c t ih => rw [List.cons_append, lastEq, ih]
theorem lastEq_some : ∀ {l a b : List UInt8}, lastEq l = some (a, b) → l = a ++ 61 :: b ∧ 61 ∉ b
  | [], a, b, h => by cases h
  | c :: t, a, b, h => by
    rw [lastEq] at h
    cases ht : lastEq t with
    | none =>
      rw [ht] at h
      simp only at h
      split at h
      · rename_i hc
        cases h
        refine ⟨by rw [hc]; rfl, fun hm => ?_⟩
        obtain ⟨u, v, rfl⟩ := List.append_of_mem hm
        have : ∀ (u v : List UInt8), lastEq (u ++ 61 :: v) ≠ none := fun u v => by
          induction u with
          | nil => rw [List.nil_append, lastEq]; cases lastEq v <;> simp
          | cons x y ih =>
            rw [List.cons_append, lastEq]
            cases hz : lastEq (y ++ 61 :: v) with
            | none => exact absurd hz ih
            | some z => simp
        exact this u v ht
      · cases h
    | some z =>
      obtain ⟨x, y⟩ := z
      rw [ht] at h
      simp only [Option.some.injEq, Prod.mk.injEq] at h
      obtain ⟨h1, h2⟩ := h
      subst h1 h2
      obtain ⟨i1, i2⟩ := lastEq_some ht
      exact ⟨by rw [List.cons_append, ← i1], i2⟩
def memP (s : List UInt8) : Option (List UInt8 × List UInt8) :=
  (lastEq s).bind fun z => (uns z.1.length z.1).bind fun x => if right x z.2 = true ∧ ext x z.2 = s then some (x, z.2) else none
def memR (s : List UInt8) : Option (List UInt8 × List UInt8) :=
  (lastEq s).bind fun z => if right (rdec z.1.length z.1) z.2 = true ∧ ext (rdec z.1.length z.1) z.2 = s then some (rdec z.1.length z.1, z.2) else none
theorem right61 {l d : List UInt8} (h : right l d = true) : 61 ∉ d := fun hm => ((right_parts h).1 61 hm).1 rfl
theorem ext_of {l d : List UInt8} (h : right l d = true) : lastEq (ext l d) = some (enc (dotted (fo l)) (fo l), d) ∧ uns (enc (dotted (fo l)) (fo l)).length (enc (dotted (fo l)) (fo l)) = some (fo l) ∧ rdec (enc (dotted (fo l)) (fo l)).length (enc (dotted (fo l)) (fo l)) = fo l := by
  obtain ⟨_, hd, _, _⟩ := right_parts h
  obtain ⟨u1, u2⟩ := uns_enc (dotted (fo l)) (fo l) _ (Nat.le_refl _)
  refine ⟨?_, u1, u2⟩
  unfold ext
  rw [hd]
  exact lastEq_app _ (right61 h)
theorem memP_some {s l d : List UInt8} (h : memP s = some (l, d)) : right l d = true ∧ ext l d = s ∧ fo l = l := by
  unfold memP at h
  obtain ⟨z, hz, h⟩ := Option.bind_eq_some_iff.mp h
  obtain ⟨x, hx, h⟩ := Option.bind_eq_some_iff.mp h
  split at h
  · rename_i hc
    simp only [Option.some.injEq, Prod.mk.injEq] at h
    obtain ⟨h1, h2⟩ := h
    subst h1 h2
    obtain ⟨e1, e2, e3⟩ := ext_of hc.1
    rw [hc.2, hz] at e1
    have e1 := Option.some.inj e1
    have := congrArg Prod.fst e1
    simp only at this
    rw [this, e2] at hx
    exact ⟨hc.1, hc.2, Option.some.inj hx⟩
  · cases h
theorem memR_some {s l d : List UInt8} (h : memR s = some (l, d)) : right l d = true ∧ ext l d = s ∧ fo l = l := by
  unfold memR at h
  obtain ⟨z, hz, h⟩ := Option.bind_eq_some_iff.mp h
  split at h
  · rename_i hc
    simp only [Option.some.injEq, Prod.mk.injEq] at h
    obtain ⟨h1, h2⟩ := h
    subst h2
    obtain ⟨e1, e2, e3⟩ := ext_of hc.1
    rw [hc.2, hz] at e1
    have e1 := Option.some.inj e1
    have := congrArg Prod.fst e1
    simp only at this
    rw [h1] at hc e3 this
    rw [← this, h1] at e3
    exact ⟨hc.1, hc.2, e3.symm⟩
  · cases h
theorem mem_of {l d : List UInt8} (h : right l d = true) (hf : fo l = l) : memP (ext l d) = some (l, d) ∧ memR (ext l d) = some (l, d) := by
  obtain ⟨e1, e2, e3⟩ := ext_of h
  unfold memP memR
  rw [e1]
  simp only [Option.bind_some]
  rw [e2, e3, hf]
  simp only [Option.bind_some]
  simp only [h, and_self, if_true]
theorem memP_R (s : List UInt8) : memP s = memR s := by
  cases h : memP s with
  | some z =>
    obtain ⟨l, d⟩ := z
    obtain ⟨h1, h2, h3⟩ := memP_some h
    rw [← h2]
    exact (mem_of h1 h3).2.symm
  | none =>
    cases h' : memR s with
    | none => rfl
    | some z =>
      obtain ⟨l, d⟩ := z
      obtain ⟨h1, h2, h3⟩ := memR_some h'
      rw [← h2, (mem_of h1 h3).1] at h
      cases h
/-! ### the theorems -/
theorem ext_foL (l d : List UInt8) : ext (fo l) d = ext l d := by
  unfold ext
  rw [fo_fo]
theorem enc1_fo (b : Bool) (c : UInt8) (h : lw c = c) : fo (enc1 b c) = enc1 b c := by
  have := all8 (P := fun c => ∀ b : Bool, lw c = c → fo (enc1 b c) = enc1 b c) (by decide +kernel) c
  exact this b h
theorem ext_fo (l d : List UInt8) : fo (ext l d) = ext l d := by
  unfold ext
  rw [fo_app, fo_cons, fo_fo]
  congr 1
  have : ∀ (b : Bool) (m : List UInt8), fo m = m → fo (enc b m) = enc b m := fun b m => by
    induction m with
    | nil => intro _; rfl
    | cons c t ih =>
      intro h
      rw [fo_cons] at h
      obtain ⟨h1, h2⟩ := List.cons.inj h
      have he : enc b (c :: t) = enc1 b c ++ enc b t := List.flatMap_cons
      rw [he, fo_app, ih h2, enc1_fo b c h1]
  exact this _ _ (fo_fo l)
theorem again {l d : List UInt8} (h : right l d = true) : memP (ext l d) = some (fo l, d) ∧ fo (text (fo l) d) = fo (text l d) := by
  obtain ⟨_, hd, _, _⟩ := right_parts h
  refine ⟨?_, by rw [text_fo, text_fo, fo_fo]⟩
  rw [← ext_foL]
  exact (mem_of (right_fo h) (fo_fo l)).1
theorem one_key {l d l' d' : List UInt8} (h : right l d = true) (h' : right l' d' = true) : ext l d = ext l' d' ↔ fo (text l d) = fo (text l' d') := by
  obtain ⟨hc, hd, hp, hn⟩ := right_parts h
  obtain ⟨hc', hd', hp', hn'⟩ := right_parts h'
  have n64 : 64 ∉ d := fun hm => (hc 64 hm).2 rfl
  have n64' : 64 ∉ d' := fun hm => (hc' 64 hm).2 rfl
  rw [text_fo, text_fo, hd, hd']
  constructor
  · intro e
    have := (again h).1.symm.trans ((congrArg memP e).trans (again h').1)
    simp only [Option.some.injEq, Prod.mk.injEq] at this
    rw [this.1, this.2]
  · intro e
    unfold text at e
    obtain ⟨e1, e2⟩ := cut_last 64 _ _ _ _ n64 n64' e
    have pf : ∀ m : List UInt8, (∀ c ∈ m, pl c = true) → ∀ c ∈ fo m, pl c = true := fun m hm c hc => by
      obtain ⟨x, hx, rfl⟩ := List.mem_map.1 hc
      rw [pl_lw]
      exact hm x hx
    have e3 := loct_inj (pf l hp) (pf l' hp') e1
    unfold ext
    rw [e3, e2]
end Go.Proofs.YthckkikfldgphaaDoor.Verp
