/- Arguments of any shape, read as values: opened kind by kind. -/
import Derived.Test.YtjcilknfhkpepaaRowAid
import Derived.Test.YtjcilknfhkpepaaWArr
import Derived.OpenShut
namespace Go.Proofs.Ytjcilknfhkpepaa.RowGen
open Go.ChangeShapes Go.WideShapes Go.RowKit Go.Proofs.YtjcilknfhkpepaaW.PrintWords
set_option linter.unusedVariables false
theorem gather {α : Type} (n : Nat) (P : Nat → α → Prop) (H : ∀ j, j < n → ∃ x, P j x) : ∃ l : List α, l.length = n ∧ ∀ j x, l[j]? = some x → P j x := by
  induction n with
  | zero => exact ⟨[], rfl, fun j x h => (by simp at h)⟩
  | succ n ih =>
    obtain ⟨l, h1, h2⟩ := ih (fun j hj => H j (by omega))
    obtain ⟨y, hy⟩ := H n (by omega)
    refine ⟨l ++ [y], by simp [h1], fun j x h => ?_⟩
    by_cases hj : j < l.length
    · rw [List.getElem?_append_left hj] at h
      exact h2 j x h
    · rw [List.getElem?_append_right (by omega)] at h
      have hj0 : j - l.length = 0 := by
        have := (List.getElem?_eq_some_iff.1 h).1
        simp at this
        omega
      rw [hj0] at h
      have : y = x := by simpa using h
      have ej : j = n := by omega
      rw [← this, ej]
      exact hy
theorem add_add (a : Addr) (m i : Nat) : (a.add m).add i = a.add (m + i) := by
  unfold Addr.add
  by_cases hm : m = 0
  · subst hm; simp
  · by_cases hi : i = 0
    · subst hi; simp
    · simp [hm, hi, Nat.add_assoc]
theorem cells_at {w : World} {base n : Nat} {a : Addr} {cs : List Value} (h : w.cells? base a n = some cs) (i : Nat) (u : Value) (hu : cs[i]? = some u) (hi : i < n) : w.cell? (a.add i) = some u := by
  unfold World.cells? at h
  split at h
  · obtain ⟨b, hb1, hb2⟩ := Lib.mapM_at h i i (by simp [hi])
    rw [hb1] at hu
    obtain rfl := Option.some.inj hu
    exact hb2
  · cases h
/-- whatever reads at type t reads as one of kind d, of which V holds -/
structure Opens (P : Program) (t : TypeId) {α : Type} (d : Kd α) (V : α → Prop) : Prop where
  sz : P.cellsOf t = d.sz
  here : ∀ {H : Type} (enc : TypeId × Value → H) (W : World) (base : Nat) (held : Bool) (spare : Nat → Bool) (fuel : Nat) (cs : List Value) (x : DataW H × List MemPlace), DataW.trod enc P W base spare held fuel t cs = some x → ∃ a, d.K W a cs ∧ V a
section
variable {P : Program} {t e : TypeId}
theorem Opens.int {k : IntKind} (hu : P.underlying t = some (.int k)) (hc : P.cellsOf t = 1) : Opens P t (Kd.int k) (fun n => (Lit.int k n).wf = true) :=
  ⟨hc, fun enc W base held spare fuel cs x h => by
    obtain ⟨n, h1, _, h2⟩ := DataW.trod_int hu h
    exact ⟨n, h1, h2⟩⟩
theorem Opens.bool (hu : P.underlying t = some .bool) (hc : P.cellsOf t = 1) : Opens P t Kd.bool (fun _ => True) :=
  ⟨hc, fun enc W base held spare fuel cs x h => by
    obtain ⟨n, h1, _⟩ := DataW.trod_bool hu h
    exact ⟨n, h1, trivial⟩⟩
theorem Opens.string (hu : P.underlying t = some .string) (hc : P.cellsOf t = 1) : Opens P t Kd.string (fun s => s.size ≤ 9223372036854775807) :=
  ⟨hc, fun enc W base held spare fuel cs x h => by
    obtain ⟨n, h1, _, h2⟩ := DataW.trod_string hu h
    exact ⟨n, h1, h2⟩⟩
theorem Opens.slice {α : Type} {d : Kd α} {V : α → Prop} (hu : P.underlying t = some (.slice e)) (hc : P.cellsOf t = 1) (h0 : Opens P e d V) : Opens P t (Kd.slice e d) (fun l => l.length ≤ 9223372036854775807 ∧ ∀ x ∈ l, V x) :=
  ⟨hc, fun enc W base held spare fuel cs x h => by
    rcases DataW.trod_slice hu h with ⟨hcs, _⟩ | ⟨a, len, cap, elems, rest, n, _, hcs, _, hb, hlc, hm, hlen, hel, _, _⟩
    · exact ⟨[], ⟨none, 0, by simpa using hcs, Nat.le_refl _, ⟨rfl, by simp, fun h => absurd h (Nat.lt_irrefl 0)⟩⟩, by simp, by simp⟩
    · have hmax : cap ≤ 9223372036854775807 := hm
      have each : ∀ j, j < len → ∃ y : α, (∃ cs : List Value, cs.length = d.sz ∧ d.K W y cs ∧ ∀ i u, cs[i]? = some u → W.cell? (a.add (j * d.sz + i)) = some u) ∧ V y := by
        intro j hj
        have hej := hel j hj
        rw [List.getElem?_eq_getElem (by omega), Option.bind_eq_some_iff] at hej
        obtain ⟨cs, hc1, hc2⟩ := hej
        rw [h0.sz] at hc1
        obtain ⟨y, hy, hv⟩ := h0.here enc W base held spare n cs _ hc2
        have hl := d.K_len hy
        refine ⟨y, ⟨cs, hl, hy, fun i u hiu => ?_⟩, hv⟩
        have hi := (List.getElem?_eq_some_iff.1 hiu).1
        have := cells_at hc1 i u hiu (by omega)
        rw [add_add] at this
        exact this
      obtain ⟨l, g1, g2⟩ := gather len _ each
      refine ⟨l, ⟨some a, cap, by rw [hcs, g1], by omega, ⟨rfl, by omega, fun _ => ⟨a, rfl, fun j p hp => ?_⟩⟩⟩, by omega, fun y hy => ?_⟩
      · obtain ⟨cs, h1, h2, h3⟩ := (g2 j p hp).1
        exact ⟨cs, h1, h2, h3⟩
      · obtain ⟨j, hj⟩ := List.getElem?_of_mem hy
        exact (g2 j y hj).2⟩
/-- the fields from the i-th on, the first of them at off -/
structure OpensAt (P : Program) (fs : Array Field) (i off : Nat) {α : Type} (d : Kd α) (V : α → Prop) : Prop where
  here : ∀ {H : Type} (enc : TypeId × Value → H) (W : World) (base : Nat) (held : Bool) (spare : Nat → Bool) (n : Nat) (cs : List Value) (xs : List (DataW H × List MemPlace)), xs.length = fs.size → cs.length = off + d.sz →
    (∀ (j : Nat) (f : Field), fs[j]? = some f → DataW.trod enc P W base spare held n f.type ((cs.drop f.offset).take (P.cellsOf f.type)) = xs[j]?) → ∃ a, d.K W a (cs.drop off) ∧ V a
theorem OpensAt.last {α : Type} {d : Kd α} {V : α → Prop} {fs : Array Field} {i off : Nat} (f : Field) (hf : fs[i]? = some f) (ho : f.offset = off) (h : Opens P f.type d V) : OpensAt P fs i off d V :=
  ⟨fun enc W base held spare n cs xs hx hl hj => by
    have h1 := hj i f hf
    have hi : i < fs.size := (Array.getElem?_eq_some_iff.1 hf).1
    rw [List.getElem?_eq_getElem (by omega), ho, h.sz, List.take_of_length_le (by rw [List.length_drop]; omega)] at h1
    exact h.here enc W base held spare n _ _ h1⟩
theorem OpensAt.cons {α β : Type} {d : Kd α} {V : α → Prop} {d' : Kd β} {V' : β → Prop} {fs : Array Field} {i off off' : Nat} (f : Field) (hf : fs[i]? = some f) (ho : f.offset = off) (h : Opens P f.type d V) (ho' : off' = off + d.sz) (hr : OpensAt P fs (i + 1) off' d' V') :
    OpensAt P fs i off (Kd.pair d d') (fun p => V p.1 ∧ V' p.2) :=
  ⟨fun enc W base held spare n cs xs hx hl hj => by
    have h1 := hj i f hf
    have hi : i < fs.size := (Array.getElem?_eq_some_iff.1 hf).1
    have hl' : cs.length = off + (d.sz + d'.sz) := hl
    rw [List.getElem?_eq_getElem (by omega), ho, h.sz] at h1
    obtain ⟨a, ha, va⟩ := h.here enc W base held spare n _ _ h1
    obtain ⟨b, hb, vb⟩ := hr.here enc W base held spare n cs xs hx (by omega) hj
    subst ho'
    refine ⟨(a, b), ⟨_, _, ?_, ha, hb⟩, va, vb⟩
    rw [← List.drop_drop, List.take_append_drop]⟩
theorem OpensAt.consI {α β : Type} {d : Kd α} {V : α → Prop} {d' : Kd β} {V' : β → Prop} {fs : Array Field} {i off off' : Nat} {t : TypeId} (h : Opens P t d V) (hf : (fs[i]?).map (fun f => (f.offset, f.type)) = some (off, t)) (ho' : off' = off + d.sz) (hr : OpensAt P fs (i + 1) off' d' V') :
    OpensAt P fs i off (Kd.pair d d') (fun p => V p.1 ∧ V' p.2) := by
  obtain ⟨f, hf, e⟩ := Option.map_eq_some_iff.1 hf
  injection e with e1 e2
  exact .cons f hf e1 (e2 ▸ h) ho' hr
theorem OpensAt.lastI {α : Type} {d : Kd α} {V : α → Prop} {fs : Array Field} {i off : Nat} {t : TypeId} (h : Opens P t d V) (hf : (fs[i]?).map (fun f => (f.offset, f.type)) = some (off, t)) : OpensAt P fs i off d V := by
  obtain ⟨f, hf, e⟩ := Option.map_eq_some_iff.1 hf
  injection e with e1 e2
  exact .last f hf e1 (e2 ▸ h)
theorem Opens.struct {α : Type} {d : Kd α} {V : α → Prop} {fs : Array Field} (hu : P.underlying t = some (.struct fs)) (hc : P.cellsOf t = d.sz) (h : OpensAt P fs 0 0 d V) : Opens P t d V :=
  ⟨hc, fun enc W base held spare fuel cs x hx => by
    obtain ⟨xs, n, _, _, hcl, hxl, hfs⟩ := DataW.trod_struct hu hx
    obtain ⟨a, ha, hv⟩ := h.here enc W base held spare n cs xs hxl (by rw [hcl, hc, Nat.zero_add]) hfs
    rw [List.drop_zero] at ha
    exact ⟨a, ha, hv⟩⟩
theorem Opens.iso {α β : Type} {d : Kd α} {V : α → Prop} (h : Opens P t d V) (f : β → α) (g : α → β) (hfg : ∀ a, f (g a) = a) : Opens P t (Kd.iso d f) (fun b => V (f b)) :=
  ⟨h.sz, fun enc W base held spare fuel cs x hx => by
    obtain ⟨a, ha, hv⟩ := h.here enc W base held spare fuel cs x hx
    exact ⟨g a, by show d.K W (f (g a)) cs; rw [hfg]; exact ha, by rw [hfg]; exact hv⟩⟩
/-- a small array, element by element -/
theorem Opens.arr2 {α : Type} {d : Kd α} {V : α → Prop} (hu : P.underlying t = some (.array 2 e)) (hc : P.cellsOf t = d.sz + d.sz) (h : Opens P e d V) : Opens P t (Kd.pair d d) (fun p => V p.1 ∧ V p.2) :=
  ⟨hc, fun enc W base held spare fuel cs x hx => by
    obtain ⟨xs, m, _, _, hcl, hxl, hel⟩ := DataW.trod_array hu hx
    have h0 := hel 0 (by omega)
    have h1 := hel 1 (by omega)
    rw [List.getElem?_eq_getElem (by omega), h.sz, Nat.zero_mul, List.drop_zero] at h0
    rw [List.getElem?_eq_getElem (by omega), h.sz, Nat.one_mul, List.take_of_length_le (by rw [List.length_drop, hcl, hc]; omega)] at h1
    obtain ⟨a, ha, va⟩ := h.here enc W base held spare m _ _ h0
    obtain ⟨b, hb, vb⟩ := h.here enc W base held spare m _ _ h1
    exact ⟨(a, b), ⟨_, _, (List.take_append_drop _ _).symm, ha, hb⟩, va, vb⟩⟩
/-- a slice among the arguments, read as a list -/
theorem open_gen {α : Type} {d : Kd α} {V : α → Prop} (h0 : Opens P e d V) (hu : P.underlying t = some (.slice e)) {H : Type} {enc : TypeId × Value → H} {W : World} {base : Nat} {a : Option Addr} {len cap : Nat} {D : DataW H} {ps : List MemPlace} {held : Bool} {spare : Nat → Bool}
    (h : DataW.Trod enc P W base spare held t (.slice a len cap) D ps) : ∃ l : List α, l.length = len ∧ len ≤ cap ∧ Kd.C d W a len l ∧ len ≤ 9223372036854775807 ∧ ∀ y ∈ l, V y := by
  obtain ⟨fuel, hf⟩ := h
  rcases DataW.trod_slice hu hf with ⟨hcs, _⟩ | ⟨a', len', cap', elems, rest, n, _, hcs, _, hb, hlc, hm, hlen, hel, _, _⟩
  · simp [Value.cells] at hcs
    obtain ⟨rfl, rfl, rfl⟩ := hcs
    exact ⟨[], rfl, Nat.le_refl _, ⟨rfl, by simp, fun h => absurd h (Nat.lt_irrefl 0)⟩, by simp, by simp⟩
  · simp [Value.cells] at hcs
    obtain ⟨rfl, rfl, rfl⟩ := hcs
    have hmax : cap ≤ 9223372036854775807 := hm
    have each : ∀ j, j < len → ∃ y : α, (∃ cs : List Value, cs.length = d.sz ∧ d.K W y cs ∧ ∀ i u, cs[i]? = some u → W.cell? (a'.add (j * d.sz + i)) = some u) ∧ V y := by
      intro j hj
      have hej := hel j hj
      rw [List.getElem?_eq_getElem (by omega), Option.bind_eq_some_iff] at hej
      obtain ⟨cs, hc1, hc2⟩ := hej
      rw [h0.sz] at hc1
      obtain ⟨y, hy, hv⟩ := h0.here enc W base held spare n cs _ hc2
      have hl := d.K_len hy
      refine ⟨y, ⟨cs, hl, hy, fun i u hiu => ?_⟩, hv⟩
      have hi := (List.getElem?_eq_some_iff.1 hiu).1
      have := cells_at hc1 i u hiu (by omega)
      rw [add_add] at this
      exact this
    obtain ⟨l, g1, g2⟩ := gather len _ each
    refine ⟨l, g1, hlc, ⟨g1, by omega, fun _ => ⟨a', rfl, fun j p hp => (g2 j p hp).1⟩⟩, by omega, fun y hy => ?_⟩
    obtain ⟨j, hj⟩ := List.getElem?_of_mem hy
    exact (g2 j y hj).2
/-- a struct, or an array, among the arguments -/
theorem open_aggs {α : Type} {d : Kd α} {V : α → Prop} (h0 : Opens P t d V) (hs : (∃ fs, P.underlying t = some (.struct fs)) ∨ ∃ n e, P.underlying t = some (.array n e)) {H : Type} {enc : TypeId × Value → H} {W : World} {r : Reach} {b0 base : Nat} {v : Value} {D : DataW H} {ps : List MemPlace} {held : Bool} {spare : Nat → Bool}
    (hv : Value.okWide P W r b0 t v) (h : DataW.Trod enc P W base spare held t v D ps) : ∃ (x : α) (cs : Array Value), v = .agg cs ∧ d.K W x cs.toList ∧ V x := by
  obtain ⟨fuel, hf⟩ := h
  have hc : ∃ cs, v = .agg cs := by
    rcases hs with ⟨fs, hs⟩ | ⟨n, e, hs⟩
    all_goals
      simp only [Value.okWide, hs] at hv
      obtain ⟨cs, h1, _⟩ := hv
      exact ⟨cs, h1⟩
  obtain ⟨cs, rfl⟩ := hc
  obtain ⟨x, hx, hv2⟩ := h0.here enc W base held spare fuel _ _ hf
  exact ⟨x, cs, rfl, hx, hv2⟩
/-- two of a scalar -/
theorem open_int2 {k : IntKind} (hu : P.underlying t = some (.array 2 e)) (hue : P.underlying e = some (.int k)) (hce : P.cellsOf e = 1) (hct : P.cellsOf t = 2) {H : Type} {enc : TypeId × Value → H} {W : World} {r : Reach} {b0 base : Nat} {v : Value} {D : DataW H} {ps : List MemPlace} {held : Bool} {spare : Nat → Bool}
    (hv : Value.okWide P W r b0 t v) (h : DataW.Trod enc P W base spare held t v D ps) : ∃ a b : Int, v = .agg #[.int k a, .int k b] ∧ (Lit.int k a).wf = true ∧ (Lit.int k b).wf = true := by
  obtain ⟨⟨a, b⟩, cs, rfl, ⟨c0, c1, hcs, h0, h1⟩, va, vb⟩ := open_aggs (Opens.arr2 (d := Kd.int k) hu hct (Opens.int hue hce)) (.inr ⟨_, _, hu⟩) hv h
  have h0 : c0 = [.int k a] := h0
  have h1 : c1 = [.int k b] := h1
  subst h0 h1
  refine ⟨a, b, ?_, va, vb⟩
  congr 1
  exact Array.toList_inj.1 hcs
end
end Go.Proofs.Ytjcilknfhkpepaa.RowGen
