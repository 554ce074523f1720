/- Plain lemmas on numbers, bytes and rounds, for the pure statements of this seat: no program, no memory. -/
import Derived.Test.YtjcilknfhkpepaaWWords
import Derived.Test.YtjcilknfhkpepaaWLast
import Derived.Test.YtjcilknfhkpepaaWMore
namespace Go.Proofs.Ytjcilknfhkpepaa.Aid
open Go.RowKit Go.Proofs.YtjcilknfhkpepaaW.PrintWords Go.Proofs.YtjcilknfhkpepaaW.PrintLast

/-! ### rounds -/
theorem pos {α : Type} {c : Prop} [Decidable c] {a b : Nat → Option α} {r : α} (hc : c) (h : Ev a r) : Ev (fun k => if c then a k else b k) r :=
  Ev.congr (fun _ => if_pos hc) h
theorem neg {α : Type} {c : Prop} [Decidable c] {a b : Nat → Option α} {r : α} (hc : ¬ c) (h : Ev b r) : Ev (fun k => if c then a k else b k) r :=
  Ev.congr (fun _ => if_neg hc) h
theorem up {α : Type} {g : Nat → Option α} {r : α} (h : Ev (fun k => g (k + 1)) r) : Ev g r := Ev.step (fun _ => rfl) h
theorem sbind {α β : Type} {f : Nat → α → Option β} {a : α} {r : β} (k : Ev (fun n => f n a) r) : Ev (fun n => (some a : Option α).bind (f n)) r := k
theorem cbind {α β : Type} {g : Option α} {f : Nat → α → Option β} {a : α} {r : β} (h : g = some a) (k : Ev (fun n => f n a) r) : Ev (fun n => g.bind (f n)) r := by subst h; exact k
theorem now' {α : Type} {a r : α} (h : a = r) : Ev (fun _ => some a) r := by subst h; exact Ev.now _
theorem ite_ev {α : Type} {c : Prop} [Decidable c] {a b : Nat → Option α} {r : α} (h1 : c → Ev a r) (h2 : ¬ c → Ev b r) : Ev (fun k => if c then a k else b k) r := by
  by_cases hc : c
  · exact pos hc (h1 hc)
  · exact neg hc (h2 hc)
theorem ev_unique {α : Type} {g : Nat → Option α} {r r' : α} (h : Ev g r) (h' : Ev g r') : r = r' := by
  obtain ⟨K, h⟩ := h
  obtain ⟨K', h'⟩ := h'
  have a := h (max K K') (by omega)
  have b := h' (max K K') (by omega)
  rw [a] at b
  exact Option.some.inj b

/-! ### numbers -/
theorem w64 {x : Int} (h0 : -9223372036854775808 ≤ x) (h1 : x ≤ 9223372036854775807) : wrap64 x = x := by
  unfold wrap64
  omega

theorem wi (i : Nat) (h : i < 4611686018427387904) : wrap64 ((i : Int) + 1) = ((i + 1 : Nat) : Int) := by
  rw [w64 (by omega) (by omega)]
  rfl

theorem wf64 {n : Int} (h : (Lit.int .i64 n).wf = true) : -9223372036854775808 ≤ n ∧ n ≤ 9223372036854775807 := by
  simp [Lit.wf, IntKind.min, IntKind.max, IntKind.signed, IntKind.bits] at h
  omega

/-! ### bytes -/
theorem all8 {P : UInt8 → Prop} (h : ∀ n, n < 256 → P (UInt8.ofNat n)) (c : UInt8) : P c := by
  have := h c.toNat c.toNat_lt
  simpa using this
/-- a string as a list of bytes -/
def L (s : ByteArray) : List UInt8 := s.data.toList
/-- a list of bytes as a string -/
def S (l : List UInt8) : ByteArray := ⟨l.toArray⟩
theorem L_lit (l : List UInt8) : L ⟨l.toArray⟩ = l := by simp [L]
theorem sz (s : ByteArray) : s.size = (L s).length := by unfold L; rw [Array.length_toList]; rfl
theorem loop_eq (s : ByteArray) (i : Nat) (r : List UInt8) : ByteArray.toList.loop s i r = r.reverse ++ (L s).drop i := by
  unfold ByteArray.toList.loop
  by_cases h : i < s.size
  · rw [if_pos h, loop_eq s (i + 1)]
    have h' : i < (L s).length := by rw [← sz]; exact h
    have hg : s.get! i = (L s)[i] := by
      show s.data[i]! = _
      rw [getElem!_pos s.data i h]
      simp [L]
    rw [List.drop_eq_getElem_cons h', hg]
    simp
  · rw [if_neg h]
    rw [List.drop_eq_nil_of_le (by rw [← sz]; exact Nat.le_of_not_lt h)]
    simp
termination_by s.size - i
theorem tl (s : ByteArray) : s.toList = L s := by
  unfold ByteArray.toList
  rw [loop_eq]
  simp
theorem L_inj {a b : ByteArray} (h : L a = L b) : a = b := by
  cases a; cases b
  simp [L] at h
  rw [h]
theorem S_L (s : ByteArray) : S (L s) = s := by cases s; simp [S, L]
@[simp] theorem L_S (l : List UInt8) : L (S l) = l := by simp [S, L]
theorem S_inj {a b : List UInt8} (h : S a = S b) : a = b := by rw [← L_S a, h, L_S]
@[simp] theorem L_app (a b : ByteArray) : L (a ++ b) = L a ++ L b := by simp [L]
theorem L_ext (a : ByteArray) (i j : Nat) : L (a.extract i j) = ((L a).take j).drop i := by
  simp [L, List.extract_eq_drop_take', Array.toList_extract]
theorem L_to_end (a : ByteArray) (i : Nat) : L (a.extract i a.size) = (L a).drop i := by
  rw [L_ext, sz, List.take_length]
theorem L_from_start (a : ByteArray) (j : Nat) : L (a.extract 0 j) = (L a).take j := by
  rw [L_ext]; simp
theorem btn (s : ByteArray) (i : Nat) (h : i < (L s).length) : bt s (i : Int) = (((L s)[i]).toNat : Int) := by
  have h' : i < s.size := by rw [sz]; exact h
  simp [bt, h', L]
  rfl
theorem btd (s : ByteArray) (i : Nat) : bt s (i : Int) = (((L s).getD i 0).toNat : Int) := by
  by_cases h : i < (L s).length
  · rw [btn s i h]
    simp [List.getD_eq_getElem?_getD, List.getElem?_eq_getElem h]
  · have h' : ¬ i < s.size := by rw [sz]; exact h
    rw [List.getD_eq_getElem?_getD, List.getElem?_eq_none (Nat.le_of_not_lt h)]
    simp [bt, h']
theorem u8i {c d : UInt8} (h : (c.toNat : Int) = (d.toNat : Int)) : c = d := UInt8.toNat_inj.1 (by omega)
theorem eq_iff_L (a b : ByteArray) : (a.toList = b.toList) ↔ a = b := by
  rw [tl, tl]
  exact ⟨L_inj, fun h => by rw [h]⟩
theorem beq_L (a b : ByteArray) : (a.toList == b.toList) = decide (a = b) := by
  rw [Bool.eq_iff_iff]
  simp [eq_iff_L]
theorem L_nums (xs : List Int) : L (strOfNums xs) = xs.map (fun x => UInt8.ofNat x.toNat) := by
  simp [L, strOfNums]
theorem eq_nil_iff (a : ByteArray) : (a.toList = ([] : List UInt8)) ↔ L a = [] := by rw [tl]
theorem S_app (a b : List UInt8) : S a ++ S b = S (a ++ b) := by
  apply L_inj
  rw [L_app, L_S, L_S, L_S]
theorem nums_eq (xs : List Int) : strOfNums xs = S (xs.map (fun x => UInt8.ofNat x.toNat)) := by
  apply L_inj
  rw [L_nums, L_S]
theorem rdOf_nat {α : Type} (d : α) (xs : List α) (i : Nat) (h : i < xs.length) : rdOf d xs (i : Int) = xs[i] := by
  simp [rdOf, h]
end Go.Proofs.Ytjcilknfhkpepaa.Aid
