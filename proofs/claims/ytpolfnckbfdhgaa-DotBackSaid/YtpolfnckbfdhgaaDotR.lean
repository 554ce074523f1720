/- dot: the document's stuffing: what the printed function tells. -/
import Derived.Test.YtpolfnckbfdhgaaDotP
namespace Go.Proofs.Ytpolfnckbfdhgaa.Dot
open Go.RowKit Go.Proofs.Ytpolfnckbfdhgaa.SpL Go.Proofs.Ytpolfnckbfdhgaa.X Go.Proofs.YtpolfnckbfdhgaaW.PrintWords Go.Proofs.YtpolfnckbfdhgaaW.PrintLast Go.Proofs.YtpolfnckbfdhgaaW.PrintMore Go.Proofs.Ytpolfnckbfdhgaa.Aid
set_option linter.unusedVariables false
set_option linter.unusedSimpArgs false
def tailR : List (List UInt8) → List UInt8
  | [] => []
  | x :: t => (if t = [] ∧ x = [] then [] else dotl x) ++ tailR t
theorem tailR_full (ls : List (List UInt8)) (e : List UInt8) : tailR (ls ++ [e]) = (ls ++ (if e = [] then [] else [e])).flatMap dotl := by
  induction ls with
  | nil =>
    simp only [List.nil_append, tailR]
    by_cases h : e = []
    · rw [h]; simp
    · simp [h]
  | cons x ls ih =>
    simp only [List.cons_append, tailR]
    rw [ih, if_neg (by simp)]
    rfl
theorem hp46 (x : List UInt8) (h : 0 < x.length) : (Lib.hasPrefix x [46] = true) ↔ (((x[0]).toNat : Int) = 46) := by
  cases x with
  | nil => simp at h
  | cons c t =>
    unfold Lib.hasPrefix
    simp only [List.isPrefixOf, Bool.and_true, beq_iff_eq, List.getElem_cons_zero]
    constructor
    · rintro e; rw [← e]; rfl
    · intro e; exact (u8i (d := 46) e).symm
theorem stuff_put (xs : List ByteArray) (acc : ByteArray) (i : Nat) (r : ByteArray) (hi : i < xs.length) (hx : (L xs[i]).length ≤ 3000) (ha : acc.size ≤ 100000000)
    (hl : xs.length ≤ 3000) (h : Ev (fun k => bulletinref29_Stuff.l0 k xs (acc ++ S (dotl (L xs[i]))) ((i + 1 : Nat) : Int)) r) : Ev (fun k => bulletinref29_Stuff.j1 k xs acc (i : Int) false) r := by
  refine up ?_
  simp only [bulletinref29_Stuff.j1]
  rw [rdOf_nat _ _ _ hi, wi i (by omega)]
  have ss := sz xs[i]
  have ha2 : (acc ++ (⟨#[46]⟩ : ByteArray)).size = acc.size + 1 := by rw [ByteArray.size_append]; rfl
  refine neg (by simp) (pos (by omega) (pos (by omega) ?_))
  have e0 : ∀ p : List UInt8, dotl (L xs[i]) = p ++ (L xs[i] ++ [13, 10]) → acc ++ S (dotl (L xs[i])) = acc ++ S p ++ xs[i] ++ (⟨#[13, 10]⟩ : ByteArray) := by
    intro p hp
    rw [hp]
    have e2 : L (⟨#[13, 10]⟩ : ByteArray) = [13, 10] := rfl
    apply L_inj
    simp only [L_app, L_S, e2, List.append_assoc]
  by_cases h0 : 0 < (L xs[i]).length
  · refine pos (by omega) (pos (by omega) ?_)
    have hb := btn xs[i] 0 h0
    simp only [Int.natCast_zero] at hb
    by_cases h46 : Lib.hasPrefix (L xs[i]) [46] = true
    · refine pos (by rw [hb]; exact (hp46 _ h0).1 h46) (pos (by omega) (pos (by rw [ha2]; omega) (pos (by rw [ByteArray.size_append, ha2]; omega) ?_)))
      rw [e0 [46] (by unfold dotl; rw [if_pos h46])] at h
      exact h
    · refine neg (by rw [hb]; exact fun e => h46 ((hp46 _ h0).2 e)) (pos (by omega) (pos (by rw [ByteArray.size_append]; omega) ?_))
      rw [e0 [] (by unfold dotl; rw [if_neg h46])] at h
      have e1 : acc ++ S ([] : List UInt8) = acc := L_inj (by simp [L_app])
      rw [e1] at h
      exact h
  · refine neg (by omega) (pos (by omega) (pos (by rw [ByteArray.size_append]; omega) ?_))
    have hn : L xs[i] = [] := List.length_eq_zero_iff.1 (by omega)
    have hnp : ¬ Lib.hasPrefix (L xs[i]) [46] = true := by rw [hn]; simp [Lib.hasPrefix, List.isPrefixOf]
    rw [e0 [] (by unfold dotl; rw [if_neg hnp])] at h
    have e1 : acc ++ S ([] : List UInt8) = acc := L_inj (by simp [L_app])
    rw [e1] at h
    exact h
theorem stuff_l0 (xs : List ByteArray) (hl : xs.length ≤ 3000) (hx : ∀ x ∈ xs, (L x).length ≤ 3000) (d : Nat) : ∀ (i : Nat) (acc : ByteArray), i ≤ xs.length → xs.length - i ≤ d → acc.size ≤ i * 4000 →
    Ev (fun k => bulletinref29_Stuff.l0 k xs acc (i : Int)) (S (L acc ++ tailR ((xs.drop i).map L) ++ [46, 13, 10])) := by
  induction d with
  | zero =>
    intro i acc hi hd ha
    refine up ?_
    simp only [bulletinref29_Stuff.l0]
    refine neg (by omega) (pos (by omega) (now' ?_))
    rw [List.drop_eq_nil_of_le (by omega)]
    have e2 : L (⟨#[46, 13, 10]⟩ : ByteArray) = [46, 13, 10] := rfl
    apply L_inj
    simp only [L_app, L_S, e2, tailR, List.map_nil, List.append_nil]
  | succ d ih =>
    intro i acc hi hd ha
    by_cases hil : i < xs.length
    case neg =>
      refine up ?_
      simp only [bulletinref29_Stuff.l0]
      refine neg (by omega) (pos (by omega) (now' ?_))
      rw [List.drop_eq_nil_of_le (by omega)]
      have e2 : L (⟨#[46, 13, 10]⟩ : ByteArray) = [46, 13, 10] := rfl
      apply L_inj
      simp only [L_app, L_S, e2, tailR, List.map_nil, List.append_nil]
    refine up ?_
    simp only [bulletinref29_Stuff.l0]
    refine pos (by omega) ?_
    have hxi := hx _ (List.getElem_mem hil)
    have hdl := dotl_len (L xs[i])
    have hdr : (xs.drop i).map L = L xs[i] :: (xs.drop (i + 1)).map L := by rw [List.drop_eq_getElem_cons hil]; rfl
    have hput : ¬ ((xs.drop (i + 1)).map L = [] ∧ L xs[i] = []) → Ev (fun k => bulletinref29_Stuff.j1 k xs acc (i : Int) false) (S (L acc ++ tailR ((xs.drop i).map L) ++ [46, 13, 10])) := by
      intro hne
      refine stuff_put xs acc i _ hil hxi (by omega) hl ?_
      have h := ih (i + 1) (acc ++ S (dotl (L xs[i]))) (by omega) (by omega) (by rw [ByteArray.size_append, zS]; omega)
      rw [hdr, tailR, if_neg hne]
      rw [L_app, L_S, List.append_assoc (L acc)] at h
      exact h
    rw [w64 (by omega) (by omega)]
    by_cases hlast : i + 1 = xs.length
    · refine pos (by omega) (pos (by omega) ?_)
      rw [rdOf_nat _ _ _ hil]
      by_cases hn : L xs[i] = []
      · have hb : (xs[i].toList == ([] : List UInt8)) = true := by rw [tl, hn]; rfl
        rw [hb]
        refine up ?_
        simp only [bulletinref29_Stuff.j1]
        refine pos (by trivial) ?_
        rw [wi i (by omega)]
        have h := ih (i + 1) acc (by omega) (by omega) (Nat.le_trans ha (Nat.mul_le_mul_right _ (Nat.le_succ i)))
        rw [hdr, tailR, if_pos ⟨by rw [List.drop_eq_nil_of_le (by omega)]; rfl, hn⟩, List.nil_append]
        exact h
      · have hb : (xs[i].toList == ([] : List UInt8)) = false := by rw [tl]; exact beq_eq_false_iff_ne.2 hn
        rw [hb]
        exact hput (fun e => hn e.2)
    · refine neg (by omega) (hput ?_)
      rintro ⟨e, _⟩
      have := congrArg List.length e
      simp only [List.length_map, List.length_drop, List.length_nil] at this
      omega
theorem stuff_ev (s : ByteArray) (hs : (L s).length ≤ 2000) : Ev (fun k => bulletinref29_Stuff.f k s) (S (stuffL (L s))) := by
  unfold bulletinref29_Stuff.f
  obtain ⟨h1, h2⟩ := sp_size (L s).length (L s) [] (Nat.le_refl _)
  have h3 := sp_count (L s).length (L s) [] (Nat.le_refl _)
  simp only [List.length_nil] at h1 h2
  refine Ev.bind (lines_ev s (by omega)) ?_
  have h := stuff_l0 ((sp [] (L s)).1.map S ++ [S (sp [] (L s)).2]) (by simp; omega) (by
    intro x hx
    rcases List.mem_append.1 hx with hx | hx
    · obtain ⟨y, hy, rfl⟩ := List.mem_map.1 hx
      have := h1 y hy
      rw [L_S]; omega
    · rw [List.mem_singleton.1 hx, L_S]; omega) _ 0 (⟨#[]⟩ : ByteArray) (by omega) (Nat.le_refl _) (by decide)
  have e1 : (((sp [] (L s)).1.map S ++ [S (sp [] (L s)).2]).drop 0).map L = (sp [] (L s)).1 ++ [(sp [] (L s)).2] := by
    rw [List.drop_zero, List.map_append, List.map_map]
    simp [Function.comp_def]
  rw [e1, tailR_full] at h
  exact h
end Go.Proofs.Ytpolfnckbfdhgaa.Dot
