/- bulletin/bulletinlaw08.DiskLast, as its row asks for it. -/
import Derived.Test.YtohflbmmglmhhaaDiskLa
import Derived.Test.YtohflbmmglmhhaaDiskRow1
namespace Go.Proofs.Ytohflbmmglmhhaa.X
open Go.RowKit Go.Proofs.YtohflbmmglmhhaaW.PrintWords Go.Proofs.YtohflbmmglmhhaaW.PrintLast Go.Proofs.YtohflbmmglmhhaaW.PrintMore
set_option linter.unusedVariables false
open Classical in
noncomputable def bulletinlaw08_DiskLast.f (k : Nat) (l : List Dk.TAct) (all : Bool) : Option Bool := if (l.length ≤ 9223372036854775807 ∧ ∀ a ∈ l, Dk.vAct a) then some true else none
theorem bulletinlaw08_DiskLast.calls (k : Nat) (A : Option Addr) (c : Nat) (l : List Dk.TAct) (all : Bool) (r : Bool) (w : World) (hr : Kd.C Dk.kAct w A l.length l) (hc : l.length ≤ c) (h : bulletinlaw08_DiskLast.f k l all = some r) :
    Calls Try.prog 4 #[.slice A l.length c, .bool all] w fun e w' => e = .returned (.bool r) ∧ Below w.heap.size w w' := by
  unfold bulletinlaw08_DiskLast.f at h
  by_cases hw : l.length ≤ 9223372036854775807 ∧ ∀ a ∈ l, Dk.vAct a
  · rw [if_pos hw] at h
    obtain rfl : true = r := Option.some.inj h
    exact Dk.last_calls w A c l all hr hw.2 hw.1
  · rw [if_neg hw] at h
    cases h
end Go.Proofs.Ytohflbmmglmhhaa.X
namespace Go.Proofs.Ytohflbmmglmhhaa.Row
open Go.RowKit Go.Proofs.YtohflbmmglmhhaaW.PrintWords Go.Proofs.YtohflbmmglmhhaaW.PrintLast
set_option linter.unusedVariables false
theorem last_ev (l : List Dk.TAct) (all : Bool) (hn : l.length ≤ 9223372036854775807) (hz : ∀ a ∈ l, Dk.vAct a) : Ev (fun k => X.bulletinlaw08_DiskLast.f k l all) true := by
  unfold X.bulletinlaw08_DiskLast.f
  rw [if_pos ⟨hn, hz⟩]
  exact Ev.now _
end Go.Proofs.Ytohflbmmglmhhaa.Row
