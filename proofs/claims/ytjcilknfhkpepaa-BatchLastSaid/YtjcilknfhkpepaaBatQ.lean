/- batch: the last one holds, the plain part. -/
import Derived.Test.YtjcilknfhkpepaaBatM
namespace Go.Proofs.Ytjcilknfhkpepaa.Bat
open Go.RowKit Go.Proofs.Ytjcilknfhkpepaa.Mem Go.Proofs.Ytjcilknfhkpepaa.X Go.Proofs.Ytjcilknfhkpepaa.Aid
set_option linter.unusedVariables false
def nrm (c : Ch) : Ch := if c.gone = true then ⟨c.key, ⟨#[]⟩, true⟩ else ⟨c.key, c.value, false⟩
theorem nrm_key (c : Ch) : (nrm c).key = c.key := by unfold nrm; split <;> rfl
theorem nrm_gone (c : Ch) : (nrm c).gone = c.gone := by
  unfold nrm
  cases c.gone <;> rfl
theorem there_find (l : List Ch) (key : ByteArray) (hs : Sorted l) : there l key = (find l key).isSome := (find_there l key hs).symm
theorem last_same (q : List Ch) (c : Ch) (key : ByteArray) (hs : Sorted q) (h : key ≠ c.key ∨ (change q c).2 ≠ 0) : getOf (change q c).1 key = getOf q key ∧ there (change q c).1 key = there q key := by
  have hcs := change_sorted q c hs
  rw [getOf_find _ _ hcs, getOf_find _ _ hs, there_find _ _ hcs, there_find _ _ hs]
  unfold change at h ⊢
  by_cases h1 : fits c ≠ 0
  · rw [if_pos h1]; exact ⟨rfl, rfl⟩
  · rw [if_neg h1] at h ⊢
    by_cases h2 : there q c.key = false ∧ 2000 ≤ q.length
    · rw [if_pos h2]; exact ⟨rfl, rfl⟩
    · rw [if_neg h2] at h ⊢
      have hk : ¬ c.key = key := by
        rcases h with h | h
        · exact fun e => h e.symm
        · exact (h rfl).elim
      dsimp only
      rw [find_put _ _ _ hs, if_neg hk]
      exact ⟨rfl, rfl⟩
theorem last_new (q : List Ch) (c : Ch) (hs : Sorted q) (h : (change q c).2 = 0) : getOf (change q c).1 c.key = c ∧ there (change q c).1 c.key = true := by
  have hcs := change_sorted q c hs
  rw [getOf_find _ _ hcs, there_find _ _ hcs]
  unfold change at h ⊢
  by_cases h1 : fits c ≠ 0
  · rw [if_pos h1] at h; exact (h1 h).elim
  · rw [if_neg h1] at h ⊢
    by_cases h2 : there q c.key = false ∧ 2000 ≤ q.length
    · rw [if_pos h2] at h; exact absurd (show (8 : Int) = 0 from h) (by decide)
    · rw [if_neg h2]
      dsimp only
      rw [find_put _ _ _ hs, if_pos rfl]
      exact ⟨rfl, rfl⟩
def toCh (x : S24) : Ch := ⟨x.f0, x.f1, x.f2⟩
/-- the batch behind some changes -/
def after (l : List S24) : List Ch := l.foldl (fun q x => (change q (nrm (toCh x))).1) []
theorem after_succ (l : List S24) (i : Nat) (h : i < l.length) : after (l.take (i + 1)) = (change (after (l.take i)) (nrm (toCh l[i]))).1 := by
  unfold after
  rw [List.take_add_one, List.getElem?_eq_getElem h, List.foldl_append]
  rfl
theorem fold_ok : ∀ (l : List S24) (q : List Ch), Sorted q → q.length ≤ 2000 → Sorted (l.foldl (fun q x => (change q (nrm (toCh x))).1) q) ∧ (l.foldl (fun q x => (change q (nrm (toCh x))).1) q).length ≤ 2000
  | [], q, h1, h2 => ⟨h1, h2⟩
  | x :: r, q, h1, h2 => fold_ok r _ (change_sorted _ _ h1) (change_len _ _ h2)
theorem after_ok (l : List S24) : Sorted (after l) ∧ (after l).length ≤ 2000 := fold_ok l [] List.Pairwise.nil (by simp)
theorem light_some (l : List S24) : ∀ (d i : Nat), 40 - i = d → i ≤ 40 → ∃ b, bulletinlaw10_Light.l0 (2 * d + 2) l (i : Int) = some b
  | 0, i, hd, hi => by
    have : i = 40 := by omega
    subst this
    refine ⟨decide ((l.length : Int) ≤ 40), ?_⟩
    show (if ((40 : Nat) : Int) < (l.length : Int) then bulletinlaw10_Light.j1 1 l ((40 : Nat) : Int) (decide (((40 : Nat) : Int) < 40)) else bulletinlaw10_Light.j1 1 l ((40 : Nat) : Int) false) = _
    split <;> rfl
  | d + 1, i, hd, hi => by
    obtain ⟨b, hb⟩ := light_some l d (i + 1) (by omega) (by omega)
    by_cases h : (i : Int) < (l.length : Int)
    · have e : bulletinlaw10_Light.l0 (2 * (d + 1) + 2) l (i : Int) = bulletinlaw10_Light.j1 (2 * d + 3) l (i : Int) true := by
        show (if (i : Int) < (l.length : Int) then bulletinlaw10_Light.j1 (2 * d + 3) l (i : Int) (decide ((i : Int) < 40)) else bulletinlaw10_Light.j1 (2 * d + 3) l (i : Int) false) = _
        rw [if_pos h, decide_eq_true (show (i : Int) < 40 by omega)]
      have e2 : bulletinlaw10_Light.j1 (2 * d + 3) l (i : Int) true = (if 0 ≤ (i : Int) then (if (i : Int) < (l.length : Int) then (if (((rd_T24 l (i : Int)).f0).size : Int) > 300 then (some false) else (if (((rd_T24 l (i : Int)).f1).size : Int) > 1000 then (some false) else (bulletinlaw10_Light.l0 (2 * d + 2) l (wrap64 ((i : Int) + 1))))) else none) else none) := rfl
      rw [e, e2, if_pos (by omega), if_pos h]
      by_cases h3 : (((rd_T24 l (i : Int)).f0).size : Int) > 300
      · rw [if_pos h3]; exact ⟨_, rfl⟩
      · rw [if_neg h3]
        by_cases h4 : (((rd_T24 l (i : Int)).f1).size : Int) > 1000
        · rw [if_pos h4]; exact ⟨_, rfl⟩
        · rw [if_neg h4, w64 (by omega) (by omega)]
          exact ⟨b, hb⟩
    · have e : bulletinlaw10_Light.l0 (2 * (d + 1) + 2) l (i : Int) = bulletinlaw10_Light.j1 (2 * d + 3) l (i : Int) false := by
        show (if (i : Int) < (l.length : Int) then bulletinlaw10_Light.j1 (2 * d + 3) l (i : Int) (decide ((i : Int) < 40)) else bulletinlaw10_Light.j1 (2 * d + 3) l (i : Int) false) = _
        rw [if_neg h]
      rw [e]
      exact ⟨_, rfl⟩
theorem light_f (l : List S24) : ∃ b, bulletinlaw10_Light.f 82 l = some b := light_some l 40 0 rfl (by omega)
end Go.Proofs.Ytjcilknfhkpepaa.Bat
