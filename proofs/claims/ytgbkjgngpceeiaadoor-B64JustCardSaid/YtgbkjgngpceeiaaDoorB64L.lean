/- Plain lemmas on bytes as 64 letters: no program. -/
import Derived.Test.YtgbkjgngpceeiaaDoorAid
namespace Go.Proofs.YtgbkjgngpceeiaaDoor.B64
open Go.Proofs.YtgbkjgngpceeiaaDoor.Aid
set_option linter.unusedVariables false
set_option linter.unusedSimpArgs false

abbrev B (n : Nat) : UInt8 := UInt8.ofNat n
theorem B_toNat {n : Nat} (h : n < 256) : (B n).toNat = n := by simp [B, Nat.mod_eq_of_lt h]
theorem B_of_toNat (c : UInt8) : B c.toNat = c := by simp [B]
theorem lt256 (c : UInt8) : c.toNat < 256 := UInt8.toNat_lt c

/-- the letter of a number below 64 -/
def let64 (n : Nat) : Nat := if n < 26 then 65 + n else if n < 52 then 71 + n else if n < 62 then n - 4 else if n = 62 then 43 else 47
theorem let64_lt (n : Nat) (h : n < 64) : let64 n < 128 := by unfold let64; repeat (first | split | omega)
theorem let64_inj (n m : Nat) (hn : n < 64) (hm : m < 64) (h : let64 n = let64 m) : n = m := by
  unfold let64 at h
  repeat (first | omega | split at h)
theorem let64_ne (n : Nat) (h : n < 64) : let64 n ≠ 61 ∧ let64 n ≠ 32 ∧ let64 n ≠ 9 ∧ let64 n ≠ 13 ∧ let64 n ≠ 10 := by
  unfold let64
  repeat (first | omega | split)
/-- what a letter is worth -/
def val64 (c : Nat) : Option Nat := if 65 ≤ c ∧ c ≤ 90 then some (c - 65) else if 97 ≤ c ∧ c ≤ 122 then some (c - 71) else if 48 ≤ c ∧ c ≤ 57 then some (c + 4) else if c = 43 then some 62 else if c = 47 then some 63 else none
theorem val_let (n : Nat) (h : n < 64) : val64 (let64 n) = some n := by
  unfold let64
  split
  · unfold val64; rw [if_pos (by omega)]; congr 1; omega
  split
  · unfold val64; rw [if_neg (by omega), if_pos (by omega)]; congr 1; omega
  split
  · unfold val64; rw [if_neg (by omega), if_neg (by omega), if_pos (by omega)]; congr 1; omega
  split
  · rename_i h62; subst h62; rfl
  · obtain rfl : n = 63 := by omega
    rfl
theorem val_some {c n : Nat} (h : val64 c = some n) : n < 64 ∧ let64 n = c := by
  unfold val64 at h
  split at h
  · injection h with h; subst h; refine ⟨by omega, ?_⟩; unfold let64; rw [if_pos (by omega)]; omega
  split at h
  · injection h with h; subst h; refine ⟨by omega, ?_⟩; unfold let64; rw [if_neg (by omega), if_pos (by omega)]; omega
  split at h
  · injection h with h; subst h; refine ⟨by omega, ?_⟩; unfold let64; rw [if_neg (by omega), if_neg (by omega), if_pos (by omega)]; omega
  split at h
  · injection h with h; subst h; rename_i h1; subst h1; exact ⟨by omega, rfl⟩
  split at h
  · injection h with h; subst h; rename_i h1; subst h1; exact ⟨by omega, rfl⟩
  · cases h
theorem val_61 : val64 61 = none := rfl

/-- the numbers below 64 that bytes are -/
def sext : List UInt8 → List Nat
  | [] => []
  | [a] => [a.toNat / 4, a.toNat % 4 * 16]
  | [a, b] => [a.toNat / 4, a.toNat % 4 * 16 + b.toNat / 16, b.toNat % 16 * 4]
  | a :: b :: c :: r => a.toNat / 4 :: (a.toNat % 4 * 16 + b.toNat / 16) :: (b.toNat % 16 * 4 + c.toNat / 64) :: (c.toNat % 64) :: sext r
def pads : List UInt8 → List UInt8
  | [] => []
  | [_] => [61, 61]
  | [_, _] => [61]
  | _ :: _ :: _ :: r => pads r
def encL (l : List UInt8) : List UInt8 := (sext l).map (fun n => B (let64 n)) ++ pads l
theorem sext_lt : ∀ l : List UInt8, ∀ n ∈ sext l, n < 64
  | [], n, h => by simp [sext] at h
  | [a], n, h => by
    have := lt256 a
    simp only [sext, List.mem_cons, List.not_mem_nil, or_false] at h
    omega
  | [a, b], n, h => by
    have := lt256 a; have := lt256 b
    simp only [sext, List.mem_cons, List.not_mem_nil, or_false] at h
    omega
  | a :: b :: c :: r, n, h => by
    have := lt256 a; have := lt256 b; have := lt256 c
    simp only [sext, List.mem_cons] at h
    rcases h with h | h | h | h | h
    · omega
    · omega
    · omega
    · omega
    · exact sext_lt r n h
theorem pads_61 : ∀ l : List UInt8, ∀ c ∈ pads l, c = 61
  | [], c, h => by simp [pads] at h
  | [_], c, h => by simpa [pads] using h
  | [_, _], c, h => by simpa [pads] using h
  | _ :: _ :: _ :: r, c, h => pads_61 r c h

/-- the machine that puts such numbers together: what is held, how many bits -/
def step (h n v : Nat) : Nat × Nat × List UInt8 := if n + 6 < 8 then (h * 64 + v, n + 6, []) else ((h * 64 + v) % 2 ^ (n - 2), n - 2, [B ((h * 64 + v) / 2 ^ (n - 2))])
def run : Nat → Nat → List Nat → List UInt8
  | _, _, [] => []
  | h, n, v :: vs => (step h n v).2.2 ++ run (step h n v).1 (step h n v).2.1 vs
theorem run_sext : ∀ l : List UInt8, run 0 0 (sext l) = l
  | [] => rfl
  | [a] => by
    have ha := lt256 a
    simp only [sext, run, step]
    simp only [Nat.zero_add, Nat.reduceLT, if_true, Nat.zero_mul, Nat.reduceAdd, if_false, Nat.reduceSub, Nat.reducePow, List.nil_append, List.append_nil]
    rw [show (a.toNat / 4 * 64 + a.toNat % 4 * 16) / 16 = a.toNat from by omega, B_of_toNat]
  | [a, b] => by
    have ha := lt256 a; have hb := lt256 b
    simp only [sext, run, step]
    simp only [Nat.zero_add, Nat.reduceLT, if_true, Nat.zero_mul, Nat.reduceAdd, if_false, Nat.reduceSub, Nat.reducePow, List.nil_append, List.append_nil]
    rw [show (a.toNat / 4 * 64 + (a.toNat % 4 * 16 + b.toNat / 16)) / 16 = a.toNat from by omega, B_of_toNat,
      show ((a.toNat / 4 * 64 + (a.toNat % 4 * 16 + b.toNat / 16)) % 16 * 64 + b.toNat % 16 * 4) / 4 = b.toNat from by omega, B_of_toNat]
    rfl
  | a :: b :: c :: r => by
    have ha := lt256 a; have hb := lt256 b; have hc := lt256 c
    simp only [sext, run, step]
    simp only [Nat.zero_add, Nat.reduceLT, if_true, Nat.zero_mul, Nat.reduceAdd, if_false, Nat.reduceSub, Nat.reducePow, List.nil_append, List.append_nil]
    rw [show (a.toNat / 4 * 64 + (a.toNat % 4 * 16 + b.toNat / 16)) / 16 = a.toNat from by omega, B_of_toNat,
      show ((a.toNat / 4 * 64 + (a.toNat % 4 * 16 + b.toNat / 16)) % 16 * 64 + (b.toNat % 16 * 4 + c.toNat / 64)) / 4 = b.toNat from by omega, B_of_toNat,
      show (((a.toNat / 4 * 64 + (a.toNat % 4 * 16 + b.toNat / 16)) % 16 * 64 + (b.toNat % 16 * 4 + c.toNat / 64)) % 4 * 64 + c.toNat % 64) / 1 = c.toNat from by omega, B_of_toNat,
      show (((a.toNat / 4 * 64 + (a.toNat % 4 * 16 + b.toNat / 16)) % 16 * 64 + (b.toNat % 16 * 4 + c.toNat / 64)) % 4 * 64 + c.toNat % 64) % 1 = 0 from by omega, run_sext r]
    rfl
/-- the numbers of the letters among bytes -/
def vals (l : List UInt8) : List Nat := l.filterMap (fun c => val64 c.toNat)
theorem vals_map (l : List Nat) (h : ∀ n ∈ l, n < 64) : vals (l.map (fun n => B (let64 n))) = l := by
  induction l with
  | nil => rfl
  | cons x xs ih =>
    have hx := h x (by simp)
    have h1 := let64_lt x hx
    simp only [vals, List.map_cons, List.filterMap_cons, B_toNat (show let64 x < 256 by omega), val_let x hx]
    congr 1
    exact ih (fun n hn => h n (by simp [hn]))
theorem vals_pads (l : List UInt8) : vals (pads l) = [] := by
  have h := pads_61 l
  revert h
  generalize pads l = p
  intro h
  induction p with
  | nil => rfl
  | cons x xs ih =>
    obtain rfl := h x (by simp)
    simp only [vals, List.filterMap_cons]
    exact ih (fun c hc => h c (by simp [hc]))
theorem vals_enc (l : List UInt8) : vals (encL l) = sext l := by
  unfold encL vals
  rw [List.filterMap_append]
  have h1 := vals_map (sext l) (sext_lt l)
  have h2 := vals_pads l
  unfold vals at h1 h2
  rw [h1, h2, List.append_nil]
theorem enc_inj {a b : List UInt8} (h : encL a = encL b) : a = b := by
  have := congrArg vals h
  rw [vals_enc, vals_enc] at this
  rw [← run_sext a, this, run_sext]
/-- what the bytes of letters are, by the document: those whose letters they are -/
def decL (t : List UInt8) : List UInt8 × Bool := if encL (run 0 0 (vals t)) = t then (run 0 0 (vals t), true) else ([], false)
theorem dec_enc (x : List UInt8) : decL (encL x) = (x, true) := by
  unfold decL
  rw [vals_enc, run_sext, if_pos rfl]
theorem run_len : ∀ (l : List Nat) (h n : Nat), (run h n l).length ≤ l.length
  | [], _, _ => by simp [run]
  | v :: vs, h, n => by
    have := run_len vs (step h n v).1 (step h n v).2.1
    simp only [run, List.length_append, List.length_cons]
    have : (step h n v).2.2.length ≤ 1 := by unfold step; split <;> simp
    omega
theorem vals_len (t : List UInt8) : (vals t).length ≤ t.length := List.length_filterMap_le _ _
theorem enc_len : ∀ l : List UInt8, (encL l).length ≤ 4 * l.length + 4 ∧ (sext l).length ≤ 4 * l.length := by
  have aux : ∀ l : List UInt8, (sext l).length + (pads l).length ≤ 4 * l.length ∧ (sext l).length ≤ 4 * l.length := by
    intro l
    induction l using sext.induct with
    | case1 => simp [sext, pads]
    | case2 a => simp [sext, pads]
    | case3 a b => simp [sext, pads]
    | case4 a b c r ih => simp only [sext, pads, List.length_cons]; omega
  intro l
  have := aux l
  unfold encL
  simp only [List.length_append, List.length_map]
  omega

/-! ### white, and lines -/
def white (c : UInt8) : Bool := c == 32 || c == 9 || c == 13 || c == 10
def bare (l : List UInt8) : List UInt8 := l.filter (fun c => !white c)
theorem bare_app (a b : List UInt8) : bare (a ++ b) = bare a ++ bare b := by simp [bare]
theorem white_let (n : Nat) (h : n < 64) : white (B (let64 n)) = false := by
  have h1 := let64_ne n h
  have h2 := let64_lt n h
  have ne : ∀ k : UInt8, let64 n ≠ k.toNat → (B (let64 n) == k) = false := by
    intro k hk
    rw [beq_eq_false_iff_ne]
    intro e
    apply hk
    rw [← e, B_toNat (by omega)]
  unfold white
  rw [ne 32 (by simpa using h1.2.1), ne 9 (by simpa using h1.2.2.1), ne 13 (by simpa using h1.2.2.2.1), ne 10 (by simpa using h1.2.2.2.2)]
  rfl
theorem bare_self (l : List UInt8) (h : ∀ c ∈ l, white c = false) : bare l = l := by
  unfold bare
  rw [List.filter_eq_self]
  intro c hc
  rw [h c hc]
  rfl
theorem enc_not_white (l : List UInt8) : ∀ c ∈ encL l, white c = false := by
  intro c hc
  unfold encL at hc
  rw [List.mem_append] at hc
  rcases hc with hc | hc
  · obtain ⟨n, hn, rfl⟩ := List.mem_map.1 hc
    exact white_let n (sext_lt l n hn)
  · rw [pads_61 l c hc]; rfl
theorem bare_enc (l : List UInt8) : bare (encL l) = encL l := bare_self _ (enc_not_white l)
/-- letters in lines -/
def linesL : Nat → List UInt8 → List UInt8
  | 0, _ => []
  | k + 1, t => if t = [] then [] else t.take 76 ++ [13, 10] ++ linesL k (t.drop 76)
theorem bare_lines (k : Nat) : ∀ t : List UInt8, t.length ≤ k → (∀ c ∈ t, white c = false) → bare (linesL k t) = t := by
  induction k with
  | zero => intro t h _; rw [List.length_eq_zero_iff.1 (by omega : t.length = 0)]; rfl
  | succ k ih =>
    intro t h hw
    simp only [linesL]
    by_cases ht : t = []
    · rw [if_pos ht, ht]; rfl
    · rw [if_neg ht, bare_app, bare_app, bare_self (t.take 76) (fun c hc => hw c (List.mem_of_mem_take hc)), ih (t.drop 76) (by
        have : 0 < t.length := List.length_pos_iff.2 ht
        rw [List.length_drop]; omega) (fun c hc => hw c (List.mem_of_mem_drop hc))]
      have : bare [13, 10] = [] := rfl
      rw [this, List.append_nil, List.take_append_drop]
theorem linesL_enough (k : Nat) : ∀ (m : Nat) (t : List UInt8), t.length ≤ k → k ≤ m → linesL m t = linesL k t := by
  induction k with
  | zero =>
    intro m t h _
    have : t = [] := List.length_eq_zero_iff.1 (by omega)
    subst this
    cases m <;> simp [linesL]
  | succ k ih =>
    intro m t h hm
    obtain ⟨m, rfl⟩ : ∃ q, m = q + 1 := ⟨m - 1, by omega⟩
    simp only [linesL]
    by_cases ht : t = []
    · rw [if_pos ht, if_pos ht]
    · rw [if_neg ht, if_neg ht, ih m (t.drop 76) (by
        have : 0 < t.length := List.length_pos_iff.2 ht
        rw [List.length_drop]; omega) (by omega)]
theorem linesL_len (k : Nat) : ∀ t : List UInt8, (linesL k t).length ≤ 3 * t.length := by
  induction k with
  | zero => intro t; simp [linesL]
  | succ k ih =>
    intro t
    simp only [linesL]
    by_cases ht : t = []
    · rw [if_pos ht]; simp
    · rw [if_neg ht]
      have h1 := ih (t.drop 76)
      have : 0 < t.length := List.length_pos_iff.2 ht
      simp only [List.length_append, List.length_cons, List.length_nil, List.length_take, List.length_drop] at h1 ⊢
      omega
end Go.Proofs.YtgbkjgngpceeiaaDoor.B64
