/- A region whose quiet operations are taken one after another, skipped ones too: the goal is kept in a box, so that nothing unfolds it. -/
import Derived.StillTactics
namespace Go.Proofs.Ytjcilknfhkpepaa.StillB
open Go
structure Box (p : Prop) : Prop where
  out : p
theorem step_ {P : Program} {ops : Array Oper} {w : World} {Q : Act → Prop} {a : Act} {o : Oper} {rest : List Oper} (h : ∀ K : Act → Prop, (∀ a, Box (wpStill P ops w Q rest a) → K a) → if Region.wanted o (yielded ops a.tmps) then o.still P a w K else K (a.put o.dst undef)) : Box (wpStill P ops w Q (o :: rest) a) :=
  Box.mk (wpStill_step fun K hK => h K fun a ha => hK a ha.out)
theorem nil_ {P : Program} {ops : Array Oper} {w : World} {Q : Act → Prop} {a : Act} (h : Q a) : Box (wpStill P ops w Q [] a) := Box.mk h
theorem out_ {p : Prop} (h : Box p) : p := h.out
end Go.Proofs.Ytjcilknfhkpepaa.StillB
