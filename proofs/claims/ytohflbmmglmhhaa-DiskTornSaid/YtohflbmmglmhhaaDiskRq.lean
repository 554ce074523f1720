/- disk: the reference's crash, as plain values. -/
import Derived.Test.YtohflbmmglmhhaaDiskD
import Derived.Test.YtohflbmmglmhhaaDiskQ
namespace Go.Proofs.Ytohflbmmglmhhaa.Dk
open Go.RowKit Go.Proofs.Ytohflbmmglmhhaa.Aid
/-- the last of the first so many that is kept -/
def lastN (keep : List Bool) : Nat → Int
  | 0 => -1
  | n + 1 => if keep.getD n false then (n : Int) else lastN keep n
theorem lastN_lt (keep : List Bool) : ∀ n, lastN keep n < n ∧ -1 ≤ lastN keep n
  | 0 => by simp [lastN]
  | n + 1 => by
    have := lastN_lt keep n
    unfold lastN
    split <;> omega
theorem lastN_true (keep : List Bool) : ∀ n, 0 ≤ lastN keep n → keep.getD (lastN keep n).toNat false = true
  | 0, h => by simp [lastN] at h
  | n + 1, h => by
    unfold lastN at h ⊢
    by_cases hk : keep.getD n false = true
    · rw [if_pos hk]
      simpa using hk
    · rw [if_neg hk] at h ⊢
      exact lastN_true keep n h
theorem lastN_more (keep : List Bool) : ∀ n, keep.length ≤ n → lastN keep n = lastN keep keep.length
  | 0, h => by
    have : keep.length = 0 := by omega
    rw [this]
  | n + 1, h => by
    rcases Nat.lt_or_ge n keep.length with h1 | h1
    · rw [show keep.length = n + 1 by omega]
    · have hk : keep.getD n false = false := by rw [List.getD_eq_getElem?_getD, List.getElem?_eq_none h1]; rfl
      rw [lastN, hk, if_neg (by simp)]
      exact lastN_more keep n h1
theorem aliveN_last (cache : List (Nat × ByteArray)) (keep : List Bool) : ∀ n, n ≤ cache.length → aliveN cache keep n = if lastN keep n < 0 then [] else aliveN cache keep ((lastN keep n).toNat + 1)
  | 0, _ => by simp [lastN, aliveN, alive]
  | n + 1, h => by
    by_cases hk : keep.getD n false = true
    · have e : lastN keep (n + 1) = n := by rw [lastN, if_pos hk]
      rw [e, if_neg (by omega), Int.toNat_natCast]
    · have e : lastN keep (n + 1) = lastN keep n := by rw [lastN, if_neg hk]
      rw [e, aliveN_succ cache keep n (by omega), if_neg hk]
      exact aliveN_last cache keep n (by omega)
/-- what the reference's crash lays -/
theorem crash_ref (d : D) (keep : List Bool) (torn : Int) (j : Nat) (hj : lastN keep (min d.cache.length keep.length) = j) (hc : j < d.cache.length) :
    (crash d keep torn).l = (lands d.l (aliveN d.cache keep j)).set d.cache[j].1 (tear d.size torn (lands d.l (aliveN d.cache keep j)) d.cache[j]) := by
  have h1 : lastN keep d.cache.length = j := by
    rcases Nat.le_total d.cache.length keep.length with h | h
    · rw [Nat.min_eq_left h] at hj; exact hj
    · rw [Nat.min_eq_right h] at hj
      rw [lastN_more keep _ h, hj]
  have h2 := aliveN_last d.cache keep d.cache.length (Nat.le_refl _)
  rw [h1, if_neg (by omega), Int.toNat_natCast, aliveN_all] at h2
  have ht := lastN_true keep d.cache.length (by rw [h1]; omega)
  rw [h1, Int.toNat_natCast] at ht
  show landsT d.size torn d.l (alive d.cache keep) = _
  rw [h2, aliveN_succ d.cache keep j hc, if_pos ht]
  exact landsT_snoc d.size torn _ _ _
theorem crash_none (d : D) (keep : List Bool) (torn : Int) (hj : lastN keep (min d.cache.length keep.length) = -1) : (crash d keep torn).l = d.l := by
  have h1 : lastN keep d.cache.length = -1 := by
    rcases Nat.le_total d.cache.length keep.length with h | h
    · rw [Nat.min_eq_left h] at hj; exact hj
    · rw [Nat.min_eq_right h] at hj
      rw [lastN_more keep _ h, hj]
  have h2 := aliveN_last d.cache keep d.cache.length (Nat.le_refl _)
  rw [h1, if_pos (by omega), aliveN_all] at h2
  show landsT d.size torn d.l (alive d.cache keep) = _
  rw [h2]
  rfl
end Go.Proofs.Ytohflbmmglmhhaa.Dk
