/- A slice of structs of 2 scalar fields among a law's arguments, read as a list. (Written by recrow.py.) -/
import Derived.Test.YtpolfnckbfdhgaaRowAid
import Derived.Test.YtpolfnckbfdhgaaX0
import Derived.Lib.LaidTab
import Derived.Test.YtpolfnckbfdhgaaAid
namespace Go.Proofs.Ytpolfnckbfdhgaa.RowRec
open Go.ChangeShapes Go.WideShapes Go.RowKit Go.Proofs.Ytpolfnckbfdhgaa.X Go.Proofs.YtpolfnckbfdhgaaW.PrintWords
set_option linter.unusedVariables false
theorem gather {α : Type} (n : Nat) (P : Nat → α → Prop) (H : ∀ j, j < n → ∃ x, P j x) : ∃ l : List α, l.length = n ∧ ∀ j x, l[j]? = some x → P j x := by
  induction n with
  | zero => exact ⟨[], rfl, fun j x h => (by simp at h)⟩
  | succ n ih =>
    obtain ⟨l, h1, h2⟩ := ih (fun j hj => H j (by omega))
    obtain ⟨y, hy⟩ := H n (by omega)
    refine ⟨l ++ [y], by simp [h1], fun j x h => ?_⟩
    by_cases hj : j < l.length
    · rw [List.getElem?_append_left hj] at h
      exact h2 j x h
    · rw [List.getElem?_append_right (by omega)] at h
      have hj0 : j - l.length = 0 := by
        have := (List.getElem?_eq_some_iff.1 h).1
        simp at this
        omega
      rw [hj0] at h
      have : y = x := by simpa using h
      have ej : j = n := by omega
      rw [← this, ej]
      exact hy
theorem add_add (a : Addr) (m i : Nat) : (a.add m).add i = a.add (m + i) := by
  unfold Addr.add
  by_cases hm : m = 0
  · subst hm; simp
  · by_cases hi : i = 0
    · subst hi; simp
    · simp [hm, hi, Nat.add_assoc]
theorem cells_at {w : World} {base n : Nat} {a : Addr} {cs : List Value} (h : w.cells? base a n = some cs) (i : Nat) (u : Value) (hu : cs[i]? = some u) (hi : i < n) : w.cell? (a.add i) = some u := by
  unfold World.cells? at h
  split at h
  · obtain ⟨b, hb1, hb2⟩ := Lib.mapM_at h i i (by simp [hi])
    rw [hb1] at hu
    obtain rfl := Option.some.inj hu
    exact hb2
  · cases h
theorem open_recs {H : Type} {enc : TypeId × Value → H} {P : Program} {W : World} {base : Nat} {t e t0 t1 : TypeId} {f0 f1 : Field} {a : Option Addr} {len cap : Nat} {d : DataW H} {ps : List MemPlace} {held : Bool} {spare : Nat → Bool}
    (hu : P.underlying t = some (.slice e)) (he : P.underlying e = some (.struct #[f0, f1])) (hce : P.cellsOf e = 2) (o0 : f0.offset = 0) (ht0 : f0.type = t0) (hu0 : P.underlying t0 = some (.int .i64)) (hk0 : P.cellsOf t0 = 1) (o1 : f1.offset = 1) (ht1 : f1.type = t1) (hu1 : P.underlying t1 = some .string) (hk1 : P.cellsOf t1 = 1) 
    (h : DataW.Trod enc P W base spare held t (.slice a len cap) d ps) :
    ∃ l : List S31, l.length = len ∧ len ≤ cap ∧ Kd.C k31 W a len l ∧ len ≤ 9223372036854775807 ∧ (∀ y ∈ l, (Lit.int .i64 y.f0).wf = true) := by
  obtain ⟨fuel, hf⟩ := h
  rcases DataW.trod_slice hu hf with ⟨hcs0, _⟩ | ⟨x, l, c, elems, rest, n, _, hcs0, _, hb, hlc, hm, hlen, hel, _, _⟩
  · simp [Value.cells] at hcs0
    obtain ⟨rfl, rfl, rfl⟩ := hcs0
    exact ⟨[], rfl, Nat.le_refl _, ⟨rfl, by omega, fun h => absurd h (Nat.lt_irrefl 0)⟩, by omega, by simp⟩
  · simp [Value.cells] at hcs0
    obtain ⟨rfl, rfl, rfl⟩ := hcs0
    have hmax : cap ≤ 9223372036854775807 := hm
    have each : ∀ j, j < len → ∃ y : S31, (∃ cs : List Value, cs.length = 2 ∧ k31.K W y cs ∧ ∀ i u, cs[i]? = some u → W.cell? (x.add (j * 2 + i)) = some u) ∧ ((Lit.int .i64 y.f0).wf = true) := by
      intro j hj
      have hej := hel j hj
      rw [List.getElem?_eq_getElem (by omega), Option.bind_eq_some_iff] at hej
      obtain ⟨cs, hc1, hc2⟩ := hej
      rw [hce] at hc1
      obtain ⟨xs, n', _, _, hcl2, hxl, hfs⟩ := DataW.trod_struct he hc2
      have hcl2' : cs.length = 2 := by rw [hcl2, hce]
      have hxl2 : xs.length = 2 := hxl
      have g0 := hfs 0 f0 rfl
      have g1 := hfs 1 f1 rfl
      rw [o0, ht0, hk0, List.getElem?_eq_getElem (by omega)] at g0
      rw [o1, ht1, hk1, List.getElem?_eq_getElem (by omega)] at g1
      obtain ⟨u0, u1, rfl⟩ : ∃ u0 u1, cs = [u0, u1] := by
        match cs, hcl2' with
        | [u0, u1], _ => exact ⟨u0, u1, rfl⟩
      obtain ⟨z0, q0, _, v0⟩ := DataW.trod_int hu0 g0
      have e0 : u0 = .int .i64 z0 := by simpa using q0
      obtain ⟨z1, q1, _, _⟩ := DataW.trod_string hu1 g1
      have e1 : u1 = .string z1 := by simpa using q1
      subst e0
      subst e1
      refine ⟨⟨z0, z1⟩, ⟨_, rfl, k31_mk W ⟨z0, z1⟩, fun i u hiu => ?_⟩, v0⟩
      have hi2 : i < 2 := by
        have := (List.getElem?_eq_some_iff.1 hiu).1
        simpa using this
      have := cells_at hc1 i u hiu hi2
      rw [add_add] at this
      exact this
    obtain ⟨l, g1, g2⟩ := gather len _ each
    have gm : ∀ y ∈ l, (Lit.int .i64 y.f0).wf = true := fun y hy => (by
      obtain ⟨j, hj⟩ := List.getElem?_of_mem hy
      exact (g2 j y hj).2)
    exact ⟨l, g1, hlc, ⟨g1, by omega, fun _ => ⟨x, rfl, fun j p hp => (g2 j p hp).1⟩⟩, by omega, gm⟩
end Go.Proofs.Ytpolfnckbfdhgaa.RowRec
