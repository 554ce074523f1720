/- A slice of replies (a number and a slice of strings each) among a law's arguments, read as a list. -/
import Derived.Test.YtdjpdbdilcjakaaDoorRowAid
import Derived.Test.YtdjpdbdilcjakaaDoorX0
import Derived.Lib.LaidTab
import Derived.Test.YtdjpdbdilcjakaaDoorAid
namespace Go.Proofs.YtdjpdbdilcjakaaDoor.RowReply
open Go.ChangeShapes Go.WideShapes Go.RowKit Go.Proofs.YtdjpdbdilcjakaaDoor.X Go.Proofs.YtdjpdbdilcjakaaDoorW.PrintWords
set_option linter.unusedVariables false
theorem gather {α : Type} (n : Nat) (P : Nat → α → Prop) (H : ∀ j, j < n → ∃ x, P j x) : ∃ l : List α, l.length = n ∧ ∀ j x, l[j]? = some x → P j x := by
  induction n with
  | zero => exact ⟨[], rfl, fun j x h => (by simp at h)⟩
  | succ n ih =>
    obtain ⟨l, h1, h2⟩ := ih (fun j hj => H j (by omega))
    obtain ⟨y, hy⟩ := H n (by omega)
    refine ⟨l ++ [y], by simp [h1], fun j x h => ?_⟩
    by_cases hj : j < l.length
    · rw [List.getElem?_append_left hj] at h
      exact h2 j x h
    · rw [List.getElem?_append_right (by omega)] at h
      have hj0 : j - l.length = 0 := by
        have := (List.getElem?_eq_some_iff.1 h).1
        simp at this
        omega
      rw [hj0] at h
      have : y = x := by simpa using h
      have ej : j = n := by omega
      rw [← this, ej]
      exact hy
theorem add_add (a : Addr) (m i : Nat) : (a.add m).add i = a.add (m + i) := by
  unfold Addr.add
  by_cases hm : m = 0
  · subst hm; simp
  · by_cases hi : i = 0
    · subst hi; simp
    · simp [hm, hi, Nat.add_assoc]
theorem cells_at {w : World} {base n : Nat} {a : Addr} {cs : List Value} (h : w.cells? base a n = some cs) (i : Nat) (u : Value) (hu : cs[i]? = some u) (hi : i < n) : w.cell? (a.add i) = some u := by
  unfold World.cells? at h
  split at h
  · obtain ⟨b, hb1, hb2⟩ := Lib.mapM_at h i i (by simp [hi])
    rw [hb1] at hu
    obtain rfl := Option.some.inj hu
    exact hb2
  · cases h
theorem open_replies {H : Type} {enc : TypeId × Value → H} {P : Program} {W : World} {base : Nat} {t e ti tl ts : TypeId} {f0 f1 : Field} {a : Option Addr} {len cap : Nat} {d : DataW H} {ps : List MemPlace} {held : Bool} {spare : Nat → Bool}
    (hu : P.underlying t = some (.slice e)) (he : P.underlying e = some (.struct #[f0, f1])) (hce : P.cellsOf e = 2) (h0 : f0.offset = 0) (h1 : f1.offset = 1) (hti : f0.type = ti) (htl : f1.type = tl)
    (hi : P.underlying ti = some (.int .i64)) (hci : P.cellsOf ti = 1) (hl : P.underlying tl = some (.slice ts)) (hcl : P.cellsOf tl = 1) (hs : P.underlying ts = some .string) (hcs : P.cellsOf ts = 1)
    (h : DataW.Trod enc P W base spare held t (.slice a len cap) d ps) :
    ∃ l : List S29, l.length = len ∧ len ≤ cap ∧ Kd.C k29 W a len l ∧ len ≤ 9223372036854775807 ∧ (∀ x ∈ l, x.f1.length ≤ 9223372036854775807) ∧ (∀ x ∈ l, -9223372036854775808 ≤ x.f0 ∧ x.f0 ≤ 9223372036854775807) := by
  obtain ⟨fuel, hf⟩ := h
  rcases DataW.trod_slice hu hf with ⟨hcs0, _⟩ | ⟨x, l, c, elems, rest, n, _, hcs0, _, hb, hlc, hm, hlen, hel, _, _⟩
  · simp [Value.cells] at hcs0
    obtain ⟨rfl, rfl, rfl⟩ := hcs0
    exact ⟨[], rfl, Nat.le_refl _, ⟨rfl, by omega, fun h => absurd h (Nat.lt_irrefl 0)⟩, by omega, by simp, by simp⟩
  · simp [Value.cells] at hcs0
    obtain ⟨rfl, rfl, rfl⟩ := hcs0
    have hmax : cap ≤ 9223372036854775807 := hm
    have each : ∀ j, j < len → ∃ y : S29, (∃ cs : List Value, cs.length = 2 ∧ k29.K W y cs ∧ ∀ i u, cs[i]? = some u → W.cell? (x.add (j * 2 + i)) = some u) ∧ y.f1.length ≤ 9223372036854775807 ∧ -9223372036854775808 ≤ y.f0 ∧ y.f0 ≤ 9223372036854775807 := by
      intro j hj
      have hej := hel j hj
      rw [List.getElem?_eq_getElem (by omega), Option.bind_eq_some_iff] at hej
      obtain ⟨cs, hc1, hc2⟩ := hej
      rw [hce] at hc1
      obtain ⟨xs, n', _, _, hcl2, hxl, hfs⟩ := DataW.trod_struct he hc2
      have hcl2' : cs.length = 2 := by rw [hcl2, hce]
      have g0 := hfs 0 f0 rfl
      have g1 := hfs 1 f1 rfl
      have hxl2 : xs.length = 2 := hxl
      rw [h0, hti, hci, List.getElem?_eq_getElem (by omega)] at g0
      rw [h1, htl, hcl, List.getElem?_eq_getElem (by omega)] at g1
      obtain ⟨z, hz1, _, hz2⟩ := DataW.trod_int hi g0
      obtain ⟨u0, u1, rfl⟩ : ∃ u0 u1, cs = [u0, u1] := by
        match cs, hcl2' with
        | [u0, u1], _ => exact ⟨u0, u1, rfl⟩
      have e0 : u0 = .int .i64 z := by simpa using hz1
      subst e0
      have hz := Aid.wf64 hz2
      have cellsj : ∀ (i : Nat) (u : Value), ([Value.int .i64 z, u1] : List Value)[i]? = some u → W.cell? (x.add (j * 2 + i)) = some u := fun i u hiu => (by
        have hi2 : i < 2 := by
          have := (List.getElem?_eq_some_iff.1 hiu).1
          simpa using this
        have := cells_at hc1 i u hiu hi2
        rw [add_add] at this
        exact this)
      have g1' : DataW.trod enc P W base spare held n' tl [u1] = some xs[1] := g1
      rcases open_strings hl hs hcs g1' with ⟨hq, _⟩ | ⟨x', l', c', ss, hq, _, hl', hm', hz', _, hcell, _⟩
      · have : u1 = .slice none 0 0 := by simpa using hq
        subst this
        refine ⟨⟨z, []⟩, ⟨_, rfl, k29_mk W ⟨z, []⟩ (A1 := none) (c1 := 0) (Nat.le_refl _) ?_, cellsj⟩, by simp, hz⟩
        exact Kd.C_of_reads (d := ByteArray.empty) (h1 := fun _ => rfl) ⟨rfl, (by show 0 ≤ 9223372036854775807; omega), fun h => absurd h (Nat.lt_irrefl 0)⟩
      · have : u1 = .slice (some x') l' c' := by simpa using hq
        subst this
        have hmax' : c' ≤ 9223372036854775807 := hm'
        have hl2 : l' ≤ ss.length := by
          rw [hz']
          split
          · exact hl'
          · exact Nat.le_refl _
        have htk : (ss.take l').length = l' := by rw [List.length_take]; omega
        have hC : Kd.C Kd.string W (some x') l' (ss.take l') := Kd.C_of_reads (d := ByteArray.empty) (h1 := fun _ => rfl) ⟨htk, by omega, fun h => ⟨x', rfl, fun i hi => (by
          have := hcell i (by omega)
          rw [this]
          congr 2
          rw [List.getD_eq_getElem?_getD, List.getD_eq_getElem?_getD, List.getElem?_take_of_lt hi])⟩⟩
        have hK := k29_mk W ⟨z, ss.take l'⟩ (A1 := some x') (c1 := c') (by show (ss.take l').length ≤ c'; omega) (by show Kd.C Kd.string W (some x') (ss.take l').length (ss.take l'); rw [htk]; exact hC)
        have hK' : k29.K W ⟨z, ss.take l'⟩ [.int .i64 z, .slice (some x') l' c'] := by
          have e : (⟨z, ss.take l'⟩ : S29).f1.length = l' := htk
          rw [e] at hK
          exact hK
        exact ⟨⟨z, ss.take l'⟩, ⟨_, rfl, hK', cellsj⟩, by show (ss.take l').length ≤ _; omega, hz⟩
    obtain ⟨l, g1, g2⟩ := gather len _ each
    have gm : ∀ y ∈ l, y.f1.length ≤ 9223372036854775807 ∧ -9223372036854775808 ≤ y.f0 ∧ y.f0 ≤ 9223372036854775807 := fun y hy => (by
      obtain ⟨j, hj⟩ := List.getElem?_of_mem hy
      exact (g2 j y hj).2)
    exact ⟨l, g1, hlc, ⟨g1, by omega, fun _ => ⟨x, rfl, fun j p hp => (g2 j p hp).1⟩⟩, by omega, fun y hy => (gm y hy).1, fun y hy => (gm y hy).2⟩
end Go.Proofs.YtdjpdbdilcjakaaDoor.RowReply
