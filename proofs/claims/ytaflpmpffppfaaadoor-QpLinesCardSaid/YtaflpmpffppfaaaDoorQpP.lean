/- qp: bytes written and read: what the program's functions tell, and the document's; plain lemmas, no program. -/
import Derived.Test.YtaflpmpffppfaaaDoorPcL
namespace Go.Proofs.YtaflpmpffppfaaaDoor.QpP
open Go.Proofs.YtaflpmpffppfaaaDoor.Aid Go.Proofs.YtaflpmpffppfaaaDoor.PcL
set_option linter.unusedVariables false
set_option linter.unusedSimpArgs false
def itself (c : UInt8) : Bool := decide (33 ≤ c.toNat) && decide (c.toNat ≤ 126) && !(c == 61)
def blank (c : UInt8) : Bool := c == 32 || c == 9
def hexU (n : Nat) : UInt8 := if n < 10 then UInt8.ofNat (48 + n) else UInt8.ofNat (55 + n)
def sgn (c : UInt8) : List UInt8 := [61, hexU (c.toNat / 16), hexU (c.toNat % 16)]
def wr (c : UInt8) (last : Bool) : List UInt8 := if itself c || (blank c && !last) then [c] else sgn c
def lineGo : List UInt8 → Nat → List UInt8
  | [], _ => []
  | c :: t, n => if 75 < n + (wr c t.isEmpty).length then [61, 13, 10] ++ wr c t.isEmpty ++ lineGo t (wr c t.isEmpty).length else wr c t.isEmpty ++ lineGo t (n + (wr c t.isEmpty).length)
def joinE : List (List UInt8) → List UInt8
  | [] => []
  | [a] => a
  | a :: b :: t => a ++ [13, 10] ++ joinE (b :: t)
def enc (l : List UInt8) : List UInt8 := joinE ((pcs l).map fun p => lineGo p 0)
theorem joinE_cons (a : List UInt8) (t : List (List UInt8)) (h : t ≠ []) : joinE (a :: t) = a ++ [13, 10] ++ joinE t := by
  cases t with
  | nil => exact absurd rfl h
  | cons b t => rfl
theorem joinE_app : ∀ (a b : List (List UInt8)), a ≠ [] → b ≠ [] → joinE (a ++ b) = joinE a ++ [13, 10] ++ joinE b
  | [], _, h, _ => absurd rfl h
  | [x], b, _, hb => by rw [List.singleton_append, joinE_cons x b hb]; rfl
  | x :: y :: t, b, _, hb => by
    rw [List.cons_append, joinE_cons x _ (by simp), joinE_app (y :: t) b (by simp) hb, joinE_cons x (y :: t) (by simp)]
    simp only [List.append_assoc]
theorem joinE_snoc (a : List (List UInt8)) (x : List UInt8) : joinE (a ++ [x]) = if a = [] then x else joinE a ++ [13, 10] ++ x := by
  by_cases h : a = []
  · subst h; rfl
  · rw [if_neg h, joinE_app a [x] h (by simp)]; rfl
theorem join_pcs : ∀ (n : Nat) (l : List UInt8), l.length ≤ n → joinE (pcs l) = l
  | n, l, hn => by
    rcases Go.Lib.index_spec l [13, 10] with ⟨hx, _⟩ | ⟨i, hx, hi, ho, _⟩
    · rw [pcs_miss l hx]; rfl
    · have hr := Go.Lib.index_room l [13, 10] (by omega)
      rw [hx] at hr
      simp only [List.length_cons, List.length_nil] at hr
      cases n with
      | zero => omega
      | succ n =>
        have hd : (l.drop (i + 2)).length = l.length - (i + 2) := List.length_drop
        rw [pcs_hit l i hx, joinE_cons _ _ (pcs_ne _), join_pcs n _ (by omega)]
        have ht : (l.drop i).take 2 = [13, 10] := by
          have := Go.Lib.occAt_iff_take l [13, 10] i (by simp only [List.length_cons, List.length_nil]; omega)
          rw [ho] at this
          simpa using this.symm
        rw [← ht, List.append_assoc, ← List.drop_drop, List.take_append_drop, List.take_append_drop]
/-! ### reading -/
/-- what a digit is worth -/
def hx (c : UInt8) : Int := if 48 ≤ c.toNat ∧ c.toNat ≤ 57 then (c.toNat : Int) - 48 else if 65 ≤ c.toNat ∧ c.toNat ≤ 70 then (c.toNat : Int) - 55 else if 97 ≤ c.toNat ∧ c.toNat ≤ 102 then (c.toNat : Int) - 87 else -1
def two (a b : UInt8) : UInt8 := UInt8.ofNat ((hx a).toNat * 16 + (hx b).toNat)
def hex2 (a b : UInt8) : Bool := decide (0 ≤ hx a) && decide (0 ≤ hx b)
def rd : List UInt8 → List UInt8 → List UInt8 × Bool × Bool
  | acc, [] => (acc, false, true)
  | acc, [c] => if (itself c || blank c) = true then (acc ++ [c], false, true) else if c = 61 then (acc, true, true) else ([], false, false)
  | acc, [c, a] => if (itself c || blank c) = true then rd (acc ++ [c]) [a] else ([], false, false)
  | acc, c :: a :: b :: t => if (itself c || blank c) = true then rd (acc ++ [c]) (a :: b :: t) else if c = 61 ∧ hex2 a b = true then rd (acc ++ [two a b]) t else ([], false, false)
def trimB (l : List UInt8) : List UInt8 := (l.reverse.dropWhile blank).reverse
def dec : List (List UInt8) → Bool → List UInt8 → Option (List UInt8)
  | [], _, acc => some acc
  | p :: t, j, acc => if (rd [] (trimB p)).2.2 = true then dec t (rd [] (trimB p)).2.1 ((if j = true then acc else acc ++ [13, 10]) ++ (rd [] (trimB p)).1) else none
def decode (l : List UInt8) : Option (List UInt8) := dec (pcs l) true []
theorem free61 : (itself 61 || blank 61) = false := by decide
/-- a byte that stands for itself -/
theorem rd_free (acc : List UInt8) (c : UInt8) (t : List UInt8) (h : (itself c || blank c) = true) : rd acc (c :: t) = rd (acc ++ [c]) t := by
  match t with
  | [] =>
    conv => lhs; rw [rd, if_pos h]
    rw [rd]
  | [a] => conv => lhs; rw [rd, if_pos h]
  | a :: b :: t => conv => lhs; rw [rd, if_pos h]
theorem rd_soft (acc : List UInt8) : rd acc [61] = (acc, true, true) := by
  rw [rd, if_neg (by rw [free61]; simp), if_pos rfl]
theorem rd_hex (acc : List UInt8) (a b : UInt8) (t : List UInt8) (h : hex2 a b = true) : rd acc (61 :: a :: b :: t) = rd (acc ++ [two a b]) t := by
  rw [rd, if_neg (by rw [free61]; simp), if_pos ⟨rfl, h⟩]
theorem hexU_lt (n : Nat) (h : n < 16) : 0 ≤ hx (hexU n) ∧ hx (hexU n) = (n : Int) := by
  have : ∀ m : Nat, m < 16 → 0 ≤ hx (hexU m) ∧ hx (hexU m) = (m : Int) := by decide
  exact this n h
theorem hex2_sgn (c : UInt8) : hex2 (hexU (c.toNat / 16)) (hexU (c.toNat % 16)) = true ∧ two (hexU (c.toNat / 16)) (hexU (c.toNat % 16)) = c := by
  have hc := c.toNat_lt
  obtain ⟨a1, a2⟩ := hexU_lt (c.toNat / 16) (by omega)
  obtain ⟨b1, b2⟩ := hexU_lt (c.toNat % 16) (by omega)
  refine ⟨by simp [hex2, a1, b1], ?_⟩
  unfold two
  rw [a2, b2, Int.toNat_natCast, Int.toNat_natCast, show c.toNat / 16 * 16 + c.toNat % 16 = c.toNat by omega]
  exact UInt8.ofNat_toNat
/-- what is written of a byte is read as it -/
theorem rd_wr (acc : List UInt8) (c : UInt8) (last : Bool) (t : List UInt8) : rd acc (wr c last ++ t) = rd (acc ++ [c]) t := by
  unfold wr
  by_cases h : (itself c || (blank c && !last)) = true
  · rw [if_pos h]
    refine rd_free acc c t ?_
    simp only [Bool.or_eq_true, Bool.and_eq_true] at h ⊢
    rcases h with h | h
    · exact .inl h
    · exact .inr h.1
  · rw [if_neg h]
    unfold sgn
    obtain ⟨h1, h2⟩ := hex2_sgn c
    have := rd_hex acc (hexU (c.toNat / 16)) (hexU (c.toNat % 16)) t h1
    rw [h2] at this
    exact this
/-- a line's pieces, the current one begun -/
def lineP : List UInt8 → Nat → List UInt8 → List (List UInt8)
  | [], _, cur => [cur]
  | c :: t, n, cur => if 75 < n + (wr c t.isEmpty).length then (cur ++ [61]) :: lineP t (wr c t.isEmpty).length (wr c t.isEmpty) else lineP t (n + (wr c t.isEmpty).length) (cur ++ wr c t.isEmpty)
theorem lineP_ne (l : List UInt8) (n : Nat) (cur : List UInt8) : lineP l n cur ≠ [] := by
  induction l generalizing n cur with
  | nil => simp [lineP]
  | cons c t ih =>
    rw [lineP]
    split
    · simp
    · exact ih _ _
theorem lineP_join (l : List UInt8) (n : Nat) (cur : List UInt8) : joinE (lineP l n cur) = cur ++ lineGo l n := by
  induction l generalizing n cur with
  | nil => simp [lineP, lineGo, joinE]
  | cons c t ih =>
    rw [lineP, lineGo]
    split
    · rw [joinE_cons _ _ (lineP_ne _ _ _), ih]
      simp [List.append_assoc]
    · rw [ih]
      simp [List.append_assoc]
def allP (l : List UInt8) : List (List UInt8) := (pcs l).flatMap fun p => lineP p 0 []
theorem joinE_flat : ∀ (xs : List (List UInt8)), joinE (xs.flatMap fun p => lineP p 0 []) = joinE (xs.map fun p => lineGo p 0)
  | [] => rfl
  | [x] => by simp only [List.flatMap_cons, List.flatMap_nil, List.append_nil, List.map_cons, List.map_nil]; rw [lineP_join]; rfl
  | x :: y :: t => by
    have ih := joinE_flat (y :: t)
    have hne : (y :: t).flatMap (fun p => lineP p 0 []) ≠ [] := by
      rw [List.flatMap_cons]
      intro e
      exact lineP_ne y 0 [] (List.append_eq_nil_iff.1 e).1
    rw [List.flatMap_cons, joinE_app _ _ (lineP_ne _ _ _) hne, ih, lineP_join]
    exact (joinE_cons (lineGo x 0) ((y :: t).map fun p => lineGo p 0) (by simp)).symm
theorem enc_allP (l : List UInt8) : enc l = joinE (allP l) := (joinE_flat (pcs l)).symm
/-- a byte that may stand in what is written -/
def okc (c : UInt8) : Bool := (decide (33 ≤ c.toNat) && decide (c.toNat ≤ 126)) || blank c
theorem okc_wr (c : UInt8) (last : Bool) : ∀ x ∈ wr c last, okc x = true := by
  unfold wr
  split
  · rename_i h
    intro x hx
    obtain rfl := List.mem_singleton.1 hx
    unfold okc
    simp only [itself, Bool.or_eq_true, Bool.and_eq_true] at h ⊢
    rcases h with ⟨h, _⟩ | ⟨h, _⟩
    · exact .inl h
    · exact .inr h
  · unfold sgn
    have h16 : ∀ n : Nat, n < 16 → okc (hexU n) = true := by decide
    have hc := c.toNat_lt
    intro x hx
    simp only [List.mem_cons, List.not_mem_nil, or_false] at hx
    rcases hx with rfl | rfl | rfl
    · decide
    · exact h16 _ (by omega)
    · exact h16 _ (by omega)
theorem wr_len (c : UInt8) (last : Bool) : 1 ≤ (wr c last).length ∧ (wr c last).length ≤ 3 := by
  unfold wr sgn
  split <;> simp
theorem wr_ne (c : UInt8) (last : Bool) : wr c last ≠ [] := by
  intro e
  have := (wr_len c last).1
  rw [e] at this
  simp at this
/-- the end of what is written is no blank, if the byte is the last one -/
def endOk (l : List UInt8) : Prop := ∀ x, l.getLast? = some x → blank x = false
theorem endOk_app {a b : List UInt8} (hb : b ≠ []) (h : endOk b) : endOk (a ++ b) := by
  intro x hx
  obtain ⟨y, hy⟩ : ∃ y, b.getLast? = some y := ⟨b.getLast hb, List.getLast?_eq_some_getLast hb⟩
  rw [List.getLast?_append, hy] at hx
  exact h x (hy.trans hx)
theorem wr_last (c : UInt8) : endOk (wr c true) := by
  unfold wr
  intro x hx
  split at hx
  · rename_i h
    have : x = c := by simpa using hx.symm
    subst this
    simp only [Bool.not_true, Bool.and_false, Bool.or_false] at h
    have hall : ∀ n : Nat, n < 256 → itself (UInt8.ofNat n) = true → blank (UInt8.ofNat n) = false := by decide +kernel
    have := hall x.toNat x.toNat_lt
    rw [UInt8.ofNat_toNat] at this
    exact this h
  · unfold sgn at hx
    have h16 : ∀ n : Nat, n < 16 → blank (hexU n) = false := by decide
    have : x = hexU (c.toNat % 16) := by simpa using hx.symm
    subst this
    exact h16 _ (by omega)
/-- each piece of a line: its bytes, its length, its end -/
theorem lineP_ok (l : List UInt8) (n : Nat) (cur : List UInt8) (hc : ∀ x ∈ cur, okc x = true) (hn : cur.length = n) (h75 : n ≤ 75) (he : l = [] → endOk cur) :
    ∀ p ∈ lineP l n cur, (∀ x ∈ p, okc x = true) ∧ p.length ≤ 76 ∧ endOk p := by
  induction l generalizing n cur with
  | nil =>
    intro p hp
    rw [lineP, List.mem_singleton] at hp
    subst hp
    exact ⟨hc, by omega, he rfl⟩
  | cons c t ih =>
    have hl := wr_len c t.isEmpty
    have ho := okc_wr c t.isEmpty
    have hend : t = [] → endOk (wr c t.isEmpty) := fun e => by subst e; exact wr_last c
    rw [lineP]
    split
    · intro p hp
      rcases List.mem_cons.1 hp with rfl | hp
      · refine ⟨fun x hx => ?_, by simp; omega, endOk_app (by simp) (fun x hx => ?_)⟩
        · rcases List.mem_append.1 hx with hx | hx
          · exact hc x hx
          · rw [List.mem_singleton.1 hx]; decide
        · have : x = 61 := by simpa using hx.symm
          rw [this]; decide
      · exact ih _ _ ho rfl (by omega) hend p hp
    · refine ih _ _ (fun x hx => ?_) (by simp; omega) (by omega) (fun e => endOk_app (wr_ne _ _) (hend e))
      rcases List.mem_append.1 hx with hx | hx
      · exact hc x hx
      · exact ho x hx
theorem allP_ok (l : List UInt8) : ∀ p ∈ allP l, (∀ x ∈ p, okc x = true) ∧ p.length ≤ 76 ∧ endOk p := by
  intro p hp
  obtain ⟨q, _, hq⟩ := List.mem_flatMap.1 hp
  exact lineP_ok q 0 [] (by simp) rfl (by omega) (fun _ x hx => by simp at hx) p hq
theorem allP_ne (l : List UInt8) : allP l ≠ [] := by
  unfold allP
  intro e
  have h := pcs_ne l
  cases hp : pcs l with
  | nil => exact h hp
  | cons x t =>
    rw [hp, List.flatMap_cons] at e
    exact lineP_ne x 0 [] (List.append_eq_nil_iff.1 e).1
/-! ### there and back -/
theorem trimB_end (l : List UInt8) (h : endOk l) : trimB l = l := by
  unfold trimB
  cases hr : l.reverse with
  | nil => simp at hr; subst hr; rfl
  | cons x t =>
    have hx : l.getLast? = some x := by rw [← List.head?_reverse, hr]; rfl
    rw [List.dropWhile_cons, if_neg (by rw [h x hx]; simp), ← hr, List.reverse_reverse]
theorem trimB_blanks (l : List UInt8) (n : Nat) (h : endOk l) : trimB (l ++ List.replicate n 32) = l := by
  have : trimB (l ++ List.replicate n 32) = trimB l := by
    unfold trimB
    induction n with
    | zero => simp
    | succ n ih =>
      rw [List.replicate_succ', ← List.append_assoc, List.reverse_append, List.reverse_singleton, List.singleton_append, List.dropWhile_cons, if_pos (by decide)]
      exact ih
  rw [this, trimB_end l h]
theorem dec_line (l : List UInt8) (n : Nat) (cur pre : List UInt8) (j : Bool) (acc : List UInt8) (rest : List (List UInt8)) (hr : ∀ t, rd [] (cur ++ t) = rd pre t) (he : l = [] → endOk cur) :
    dec (lineP l n cur ++ rest) j acc = dec rest false ((if j = true then acc else acc ++ [13, 10]) ++ pre ++ l) := by
  induction l generalizing n cur pre j acc with
  | nil =>
    rw [lineP, List.singleton_append, dec, trimB_end cur (he rfl)]
    have := hr []
    rw [List.append_nil, rd] at this
    rw [this]
    simp
  | cons c t ih =>
    have hend : t = [] → endOk (wr c t.isEmpty) := fun e => by subst e; exact wr_last c
    rw [lineP]
    split
    · have h61 : endOk (cur ++ [61]) := endOk_app (by simp) (fun x hx => by
        have : x = 61 := by simpa using hx.symm
        rw [this]; decide)
      rw [List.cons_append, dec, trimB_end _ h61, hr [61], rd_soft]
      simp only [if_true]
      rw [ih _ _ [c] true _ (fun u => by rw [rd_wr]; rfl) hend]
      simp [List.append_assoc]
    · rw [ih _ _ (pre ++ [c]) j acc (fun u => by rw [List.append_assoc, hr, rd_wr]) (fun e => endOk_app (wr_ne _ _) (hend e))]
      simp [List.append_assoc]
theorem dec_lines : ∀ (xs : List (List UInt8)) (acc : List UInt8), dec (xs.flatMap fun p => lineP p 0 []) false acc = some (acc ++ (xs.map fun x => [13, 10] ++ x).flatten)
  | [], acc => by simp [dec]
  | x :: t, acc => by
    rw [List.flatMap_cons, dec_line x 0 [] [] false acc _ (fun u => rfl) (fun _ y hy => by simp at hy), dec_lines t]
    simp [List.append_assoc]
theorem joinE_flatten : ∀ (x : List UInt8) (t : List (List UInt8)), joinE (x :: t) = x ++ (t.map fun x => [13, 10] ++ x).flatten
  | x, [] => by simp [joinE]
  | x, y :: t => by
    rw [joinE_cons x (y :: t) (by simp), joinE_flatten y t]
    simp [List.append_assoc]
theorem dec_all (l : List UInt8) : dec (allP l) true [] = some l := by
  unfold allP
  have hj := join_pcs l.length l (Nat.le_refl _)
  cases hp : pcs l with
  | nil => exact absurd hp (pcs_ne l)
  | cons x t =>
    rw [List.flatMap_cons, dec_line x 0 [] [] true [] _ (fun u => rfl) (fun _ y hy => by simp at hy), dec_lines t]
    rw [hp, joinE_flatten] at hj
    simpa using hj
theorem dec_trim : ∀ (ps qs : List (List UInt8)) (j : Bool) (acc : List UInt8), ps.map trimB = qs.map trimB → dec ps j acc = dec qs j acc
  | [], [], _, _, _ => rfl
  | [], q :: qs, _, _, h => by simp at h
  | p :: ps, [], _, _, h => by simp at h
  | p :: ps, q :: qs, j, acc, h => by
    simp only [List.map_cons, List.cons.injEq] at h
    rw [dec, dec, h.1]
    split
    · exact dec_trim ps qs _ _ h.2
    · rfl
/-- what has no end in it -/
theorem index_plain (l : List UInt8) (h : ∀ x ∈ l, x ≠ 13) : Go.Lib.index l [13, 10] = -1 := by
  induction l with
  | nil => rfl
  | cons c t ih =>
    have hc := h c (by simp)
    rw [Go.Lib.index, if_neg (by simp [List.isPrefixOf, hc, Ne.symm hc]), ih (fun x hx => h x (by simp [hx]))]
    rfl
theorem index_first (l t : List UInt8) (h : ∀ x ∈ l, x ≠ 13) : Go.Lib.index (l ++ [13, 10] ++ t) [13, 10] = (l.length : Int) := by
  induction l with
  | nil => rfl
  | cons c u ih =>
    have hc := h c (by simp)
    simp only [List.cons_append]
    rw [Go.Lib.index, if_neg (by simp [List.isPrefixOf, hc, Ne.symm hc]), ih (fun x hx => h x (by simp [hx]))]
    rw [if_neg (by simp)]
    simp
theorem pcs_join : ∀ (ps : List (List UInt8)), ps ≠ [] → (∀ p ∈ ps, ∀ x ∈ p, x ≠ 13) → pcs (joinE ps) = ps
  | [], h, _ => absurd rfl h
  | [p], _, h => pcs_miss p (index_plain p (h p (by simp)))
  | p :: q :: t, _, h => by
    rw [joinE_cons p (q :: t) (by simp), pcs_hit _ p.length (index_first p _ (h p (by simp)))]
    have hd : (p ++ [13, 10] ++ joinE (q :: t)).drop (p.length + 2) = joinE (q :: t) := by
      have e : p.length + 2 = (p ++ [13, 10]).length := by simp
      rw [e, List.drop_left]
    rw [hd, List.append_assoc, List.take_left]
    rw [pcs_join (q :: t) (by simp) (fun r hr => h r (by simp [hr]))]
theorem okc_13 {x : UInt8} (h : okc x = true) : x ≠ 13 := by
  rintro rfl
  exact absurd h (by decide)
theorem back (l : List UInt8) (n : Nat) : decode (enc l ++ List.replicate n 32) = some l := by
  rcases List.eq_nil_or_concat (allP l) with h | ⟨xs, y, h⟩
  · exact absurd h (allP_ne l)
  · have hok := allP_ok l
    have he : enc l ++ List.replicate n 32 = joinE (xs ++ [y ++ List.replicate n 32]) := by
      rw [enc_allP, h, List.concat_eq_append, joinE_snoc, joinE_snoc]
      split
      · rfl
      · simp [List.append_assoc]
    unfold decode
    rw [he, pcs_join _ (by simp)]
    · have hd := dec_all l
      rw [h, List.concat_eq_append] at hd
      rw [← hd]
      refine dec_trim _ _ _ _ ?_
      rw [List.map_append, List.map_append]
      congr 1
      have hy := (hok y (by rw [h]; simp)).2.2
      simp only [List.map_cons, List.map_nil]
      rw [trimB_blanks y n hy, trimB_end y hy]
    · intro p hp x hx
      rcases List.mem_append.1 hp with hp | hp
      · exact okc_13 ((hok p (by rw [h]; simp [hp])).1 x hx)
      · rw [List.mem_singleton.1 hp] at hx
        rcases List.mem_append.1 hx with hx | hx
        · exact okc_13 ((hok y (by rw [h]; simp)).1 x hx)
        · rw [(List.mem_replicate.1 hx).2]; decide
/-! ### line by line -/
theorem pcs_app : ∀ (n : Nat) (a b : List UInt8), a.length ≤ n → a.getLast? ≠ some 13 → pcs (a ++ [13, 10] ++ b) = pcs a ++ pcs b
  | n, a, b, hn, hl => by
    rcases Go.Lib.index_spec a [13, 10] with ⟨hx, hno⟩ | ⟨i, hx, hi, ho, hf⟩
    · have hi : Go.Lib.index (a ++ [13, 10] ++ b) [13, 10] = ((a.length : Nat) : Int) := by
        refine Go.Lib.index_first (by simp) ?_ (fun j hj => ?_)
        · unfold Go.Lib.occAt
          rw [List.append_assoc, List.drop_left]
          simp [List.isPrefixOf]
        · have := hno j (by omega)
          unfold Go.Lib.occAt at this ⊢
          rw [List.append_assoc, List.drop_append_of_le_length (by omega)]
          cases hd : a.drop j with
          | nil =>
            have := congrArg List.length hd
            rw [List.length_drop, List.length_nil] at this
            omega
          | cons c t =>
            rw [hd] at this
            cases t with
            | nil =>
              have hg : a.getLast? = some c := by
                have e : a = a.take j ++ [c] := by rw [← hd, List.take_append_drop]
                rw [e]; simp
              have hc : c ≠ 13 := fun e => hl (by rw [hg, e])
              simp [List.isPrefixOf, Ne.symm hc]
            | cons d t =>
              simpa [List.isPrefixOf] using this
      rw [pcs_hit _ _ hi, pcs_miss a hx, List.append_assoc, List.take_left, ← List.append_assoc, show a.length + 2 = (a ++ [13, 10]).length by simp, List.drop_left]
      rfl
    · have hr := Go.Lib.index_room a [13, 10] (by omega)
      rw [hx] at hr
      simp only [List.length_cons, List.length_nil] at hr
      cases n with
      | zero => omega
      | succ n =>
        have hi2 : Go.Lib.index (a ++ [13, 10] ++ b) [13, 10] = (i : Int) := by
          refine Go.Lib.index_first (by simp; omega) ?_ (fun j hj => ?_)
          · rw [Go.Lib.occAt_iff_take _ _ _ (by simp; omega)]
            rw [Go.Lib.occAt_iff_take _ _ _ (by simp; omega)] at ho
            rw [← ho, List.append_assoc, List.drop_append_of_le_length (by omega), List.take_append_of_le_length (by rw [List.length_drop]; simp; omega)]
          · have h2 := hf j hj
            rw [Go.Lib.occAt_iff_take _ _ _ (by simp; omega)]
            rw [Go.Lib.occAt_iff_take _ _ _ (by simp; omega)] at h2
            rw [← h2, List.append_assoc, List.drop_append_of_le_length (by omega), List.take_append_of_le_length (by rw [List.length_drop]; simp; omega)]
        have hd : (a.drop (i + 2)).length = a.length - (i + 2) := List.length_drop
        rw [pcs_hit _ i hi2, pcs_hit a i hx, List.append_assoc, List.take_append_of_le_length (by omega), List.drop_append_of_le_length (by omega), ← List.append_assoc, pcs_app n _ b (by omega)]
        · rfl
        · intro e
          rw [List.getLast?_drop] at e
          split at e
          · cases e
          · exact hl e
theorem lines_law (a b : List UInt8) (h : a.getLast? ≠ some 13) : enc (a ++ [13, 10] ++ b) = enc a ++ [13, 10] ++ enc b := by
  unfold enc
  rw [pcs_app a.length a b (Nat.le_refl _) h, List.map_append, joinE_app _ _ (by simp [pcs_ne]) (by simp [pcs_ne])]
end Go.Proofs.YtaflpmpffppfaaaDoor.QpP
