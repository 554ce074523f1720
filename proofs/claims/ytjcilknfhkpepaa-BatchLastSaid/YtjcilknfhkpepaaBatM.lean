/- batch: many keys, the plain part. -/
import Derived.Test.YtjcilknfhkpepaaBatD
import Derived.Test.YtjcilknfhkpepaaX6
import Derived.Test.YtjcilknfhkpepaaX7
namespace Go.Proofs.Ytjcilknfhkpepaa.Bat
open Go.RowKit Go.Proofs.Ytjcilknfhkpepaa.Mem Go.Proofs.Ytjcilknfhkpepaa.X Go.Proofs.Ytjcilknfhkpepaa.Aid
set_option linter.unusedVariables false
def nk (j : Nat) : ByteArray := strOfNums [107, (wrap64 (Int.tdiv (j : Int) 256)) % 256, (Int.tmod (j : Int) 256) % 256]
theorem nk_num (j : Nat) : bulletinlaw10_number.f (j : Int) = some (nk j) := rfl
theorem nk_step : ∀ i, i < 2101 → lt (nk i) (nk (i + 1)) := by decide +kernel
theorem nk_size : ∀ i, i < 2101 → (nk i).size = 3 := by decide +kernel
theorem nk_lt : ∀ (d i : Nat), i + d + 1 ≤ 2101 → lt (nk i) (nk (i + d + 1))
  | 0, i, h => nk_step i (by omega)
  | d + 1, i, h => lt_trans (nk_lt d i (by omega)) (nk_step (i + d + 1) (by omega))
theorem nk_mono {i j : Nat} (h : i < j) (hj : j ≤ 2101) : lt (nk i) (nk j) := by
  obtain ⟨d, rfl⟩ : ∃ d, j = i + d + 1 := ⟨j - i - 1, by omega⟩
  exact nk_lt d i hj
theorem nk_inj {i j : Nat} (h : nk i = nk j) (hi : i ≤ 2101) (hj : j ≤ 2101) : i = j := by
  rcases Nat.lt_trichotomy i j with e | e | e
  · exact (lt_irrefl _ (h ▸ nk_mono e hj)).elim
  · exact e
  · exact (lt_irrefl _ (h ▸ nk_mono e hi)).elim
def mk (m : Nat) : List Ch := (List.range m).map fun j => ⟨nk j, ⟨#[118]⟩, false⟩
theorem mk_len (m : Nat) : (mk m).length = m := by simp [mk]
theorem mk_succ (m : Nat) : mk (m + 1) = mk m ++ [⟨nk m, ⟨#[118]⟩, false⟩] := by simp [mk, List.range_succ]
theorem mk_mem {m : Nat} {c : Ch} (h : c ∈ mk m) : ∃ j, j < m ∧ c.key = nk j := by
  obtain ⟨j, hj, rfl⟩ := List.mem_map.1 h
  exact ⟨j, List.mem_range.1 hj, rfl⟩
theorem put_end : ∀ (l : List Ch) (c : Ch), (∀ x ∈ l, lt x.key c.key) → put l c = l ++ [c]
  | [], c, _ => rfl
  | a :: r, c, h => by
    rw [put_cons, if_pos (h a (by simp)), put_end r c (fun x hx => h x (by simp [hx]))]
    rfl
theorem there_end : ∀ (l : List Ch) (key : ByteArray), (∀ x ∈ l, lt x.key key) → there l key = false
  | [], _, _ => rfl
  | a :: r, key, h => by
    unfold there
    rw [if_pos (h a (by simp))]
    exact there_end r key (fun x hx => h x (by simp [hx]))
theorem mk_sorted : ∀ m, m ≤ 2100 → Sorted (mk m)
  | 0, _ => List.Pairwise.nil
  | m + 1, h => by
    have hm : ∀ x ∈ mk m, lt x.key (⟨nk m, ⟨#[118]⟩, false⟩ : Ch).key := fun x hx => by
      obtain ⟨j, hj, e⟩ := mk_mem hx
      rw [e]
      exact nk_mono hj (by omega)
    rw [mk_succ, ← put_end _ _ hm]
    exact put_sorted _ _ (mk_sorted m (by omega))
theorem find_mem : ∀ (l : List Ch) (c : Ch), c ∈ l → (find l c.key).isSome = true
  | a :: r, c, h => by
    unfold find
    by_cases e : a.key = c.key
    · rw [if_pos e]; rfl
    · rw [if_neg e]
      rcases List.mem_cons.1 h with e1 | e1
      · exact (e (by rw [e1])).elim
      · exact find_mem r c e1
theorem mk_there (m j : Nat) (hm : m ≤ 2100) (hj : j ≤ 2100) : there (mk m) (nk j) = decide (j < m) := by
  rw [← find_there _ _ (mk_sorted m hm)]
  by_cases h : j < m
  · rw [decide_eq_true h]
    have : (⟨nk j, ⟨#[118]⟩, false⟩ : Ch) ∈ mk m := List.mem_map.2 ⟨j, List.mem_range.2 h, rfl⟩
    exact find_mem _ _ this
  · rw [decide_eq_false h, find_none _ _ (fun x hx e => by
      obtain ⟨i, hi, e1⟩ := mk_mem hx
      have := nk_inj (e1.symm.trans e) (by omega) (by omega)
      omega)]
    rfl
theorem nk_fits (j : Nat) (hj : j ≤ 2100) (v : ByteArray) (hv : v.size ≤ 1) (g : Bool) : fits ⟨nk j, v, g⟩ = 0 := by
  unfold fits
  rw [nk_size j (by omega), if_neg (by decide), if_neg (by dsimp only; omega)]
/-- a key is put behind the others -/
theorem many_put (i : Nat) (hi : i < 2100) : change (mk (min i 2000)) ⟨nk i, ⟨#[118]⟩, false⟩ = (mk (min (i + 1) 2000), if i < 2000 then 0 else 8) := by
  have hth := mk_there (min i 2000) i (by omega) (by omega)
  rw [decide_eq_false (by omega)] at hth
  have hf := nk_fits i (by omega) ⟨#[118]⟩ (by decide) false
  unfold change
  rw [if_neg (by rw [hf]; simp), hth, mk_len]
  by_cases h : i < 2000
  · rw [if_neg (by omega), if_pos h, Nat.min_eq_left (by omega), Nat.min_eq_left (by omega), mk_succ, put_end _ _ (fun x hx => by
      obtain ⟨j, hj, e⟩ := mk_mem hx
      rw [e]
      exact nk_mono hj (by omega))]
  · rw [if_pos ⟨rfl, by omega⟩, if_neg h, Nat.min_eq_right (by omega), Nat.min_eq_right (by omega)]
theorem getOf_find (l : List Ch) (key : ByteArray) (hs : Sorted l) : getOf l key = (find l key).getD ⟨⟨#[]⟩, ⟨#[]⟩, false⟩ := by
  rw [find_pos l key hs]
  unfold getOf
  split <;> rfl
/-- what the last change tells -/
theorem many_del (n k : Nat) (hn : n ≤ 2100) (hk : k < 2100) (T : Bool) (hT : T = decide (k < n ∧ k < 2000 ∨ n < 2000)) :
    ∃ l', change (mk (min n 2000)) ⟨nk k, ⟨#[]⟩, true⟩ = (l', if T = true then 0 else 8) ∧ Sorted l' ∧ l'.length ≤ 2000 ∧ there l' (nk k) = T ∧ (getOf l' (nk k)).gone = T := by
  have hs := mk_sorted (min n 2000) (by omega)
  have hth := mk_there (min n 2000) k (by omega) (by omega)
  have hf := nk_fits k (by omega) ⟨#[]⟩ (by decide) true
  have hcs := change_sorted (mk (min n 2000)) ⟨nk k, ⟨#[]⟩, true⟩ hs
  have hcl := change_len (mk (min n 2000)) ⟨nk k, ⟨#[]⟩, true⟩ (by rw [mk_len]; omega)
  refine ⟨_, Prod.ext rfl ?_, hcs, hcl, ?_, ?_⟩
  all_goals clear hcl
  · unfold change
    rw [if_neg (by rw [hf]; simp), hth, mk_len, hT]
    by_cases h : k < n ∧ k < 2000 ∨ n < 2000
    · rw [decide_eq_true h, if_pos rfl, if_neg (by simp; omega)]
    · rw [decide_eq_false h, if_pos ⟨decide_eq_false (by omega), by omega⟩]; rfl
  · rw [← find_there _ _ hcs]
    unfold change
    rw [if_neg (by rw [hf]; simp), hth, mk_len, hT]
    by_cases h : k < n ∧ k < 2000 ∨ n < 2000
    · rw [decide_eq_true h, if_neg (by simp; omega)]
      show (find (put _ _) _).isSome = true
      rw [find_put _ _ _ hs, if_pos rfl]; rfl
    · rw [decide_eq_false h, if_pos ⟨decide_eq_false (by omega), by omega⟩]
      show (find (mk _) _).isSome = false
      rw [find_there _ _ hs, hth]
      exact decide_eq_false (by omega)
  · rw [getOf_find _ _ hcs]
    unfold change
    rw [if_neg (by rw [hf]; simp), hth, mk_len, hT]
    by_cases h : k < n ∧ k < 2000 ∨ n < 2000
    · rw [decide_eq_true h, if_neg (by simp; omega)]
      show ((find (put _ _) _).getD _).gone = true
      rw [find_put _ _ _ hs, if_pos rfl]; rfl
    · rw [decide_eq_false h, if_pos ⟨decide_eq_false (by omega), by omega⟩]
      show ((find (mk _) _).getD _).gone = false
      have : find (mk (min n 2000)) (nk k) = none := by
        have := find_there (mk (min n 2000)) (nk k) hs
        rw [hth, decide_eq_false (by omega)] at this
        exact Option.isNone_iff_eq_none.1 (by rw [← Option.not_isSome, this]; rfl)
      rw [this]; rfl
theorem below_2100 (s : Int) : ∃ k : Nat, k < 2100 ∧ bulletinbook_Below.f s 2100 = some (k : Int) := by
  unfold bulletinbook_Below.f
  rw [if_neg (by decide)]
  have h1 := Int.tmod_lt_of_pos s (show (0 : Int) < 2100 by decide)
  have h2 : -2100 < Int.tmod s 2100 := by
    have := Int.lt_tmod_of_pos s (show (0 : Int) < 2100 by decide)
    exact this
  by_cases h : Int.tmod s 2100 < 0
  · rw [if_pos h]
    refine ⟨(Int.tmod s 2100 + 2100).toNat, by omega, ?_⟩
    rw [w64 (by omega) (by omega)]
    congr 1
    omega
  · rw [if_neg h]
    exact ⟨(Int.tmod s 2100).toNat, by omega, by congr 1; omega⟩
end Go.Proofs.Ytjcilknfhkpepaa.Bat
