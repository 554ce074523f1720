/- bulletin/bulletinlaw08.DiskPlays, as its row asks for it. -/
import Derived.Test.YtohflbmmglmhhaaDiskZ
namespace Go.Proofs.Ytohflbmmglmhhaa.Dk
open Go.RowKit Go.Proofs.YtohflbmmglmhhaaW.PrintWords Go.Proofs.Ytohflbmmglmhhaa.RowGen
theorem act_opens : Opens Try.prog 37 kAct vAct := by
  refine Opens.struct Try.underlying37 (by kernel_rfl) ?_
  refine OpensAt.consI (V := fun x : Int => (Lit.int .i64 x).wf = true) (V' := fun x : Int × Int × Int × Bool × Bool × List Bool => ((Lit.int .i64 x.1).wf = true) ∧ ((Lit.int .i64 x.2.1).wf = true) ∧ ((Lit.int .u8 x.2.2.1).wf = true) ∧ (True) ∧ (True) ∧ x.2.2.2.2.2.length ≤ 9223372036854775807 ∧ ∀ y ∈ x.2.2.2.2.2, True) (off' := 1) (Opens.int Try.underlying3 (by kernel_rfl)) rfl rfl ?_
  refine OpensAt.consI (V := fun x : Int => (Lit.int .i64 x).wf = true) (V' := fun x : Int × Int × Bool × Bool × List Bool => ((Lit.int .i64 x.1).wf = true) ∧ ((Lit.int .u8 x.2.1).wf = true) ∧ (True) ∧ (True) ∧ x.2.2.2.2.length ≤ 9223372036854775807 ∧ ∀ y ∈ x.2.2.2.2, True) (off' := 2) (Opens.int Try.underlying3 (by kernel_rfl)) rfl rfl ?_
  refine OpensAt.consI (V := fun x : Int => (Lit.int .i64 x).wf = true) (V' := fun x : Int × Bool × Bool × List Bool => ((Lit.int .u8 x.1).wf = true) ∧ (True) ∧ (True) ∧ x.2.2.2.length ≤ 9223372036854775807 ∧ ∀ y ∈ x.2.2.2, True) (off' := 3) (Opens.int Try.underlying3 (by kernel_rfl)) rfl rfl ?_
  refine OpensAt.consI (V := fun x : Int => (Lit.int .u8 x).wf = true) (V' := fun x : Bool × Bool × List Bool => (True) ∧ (True) ∧ x.2.2.length ≤ 9223372036854775807 ∧ ∀ y ∈ x.2.2, True) (off' := 4) (Opens.int Try.underlying5 (by kernel_rfl)) rfl rfl ?_
  refine OpensAt.consI (V := fun x : Bool => True) (V' := fun x : Bool × List Bool => (True) ∧ x.2.length ≤ 9223372036854775807 ∧ ∀ y ∈ x.2, True) (off' := 5) (Opens.bool Try.underlying4 (by kernel_rfl)) rfl rfl ?_
  refine OpensAt.consI (V := fun x : Bool => True) (V' := fun x : List Bool => x.length ≤ 9223372036854775807 ∧ ∀ y ∈ x, True) (off' := 6) (Opens.bool Try.underlying4 (by kernel_rfl)) rfl rfl ?_
  exact OpensAt.lastI (Opens.slice Try.underlying23 (by kernel_rfl) (Opens.bool Try.underlying4 (by kernel_rfl))) rfl
end Go.Proofs.Ytohflbmmglmhhaa.Dk
namespace Go.Proofs.Ytohflbmmglmhhaa.X
open Go.RowKit Go.Proofs.YtohflbmmglmhhaaW.PrintWords Go.Proofs.YtohflbmmglmhhaaW.PrintLast Go.Proofs.YtohflbmmglmhhaaW.PrintMore
set_option linter.unusedVariables false
open Classical in
noncomputable def bulletinlaw08_DiskPlays.f (k : Nat) (a0 a1 : Int) (l : List Dk.TAct) : Option Bool := if (l.length ≤ 9223372036854775807 ∧ ∀ a ∈ l, Dk.vAct a) then some true else none
theorem bulletinlaw08_DiskPlays.calls (k : Nat) (a0 a1 : Int) (A : Option Addr) (c : Nat) (l : List Dk.TAct) (r : Bool) (w : World) (hr : Kd.C Dk.kAct w A l.length l) (hc : l.length ≤ c) (h : bulletinlaw08_DiskPlays.f k a0 a1 l = some r) :
    Calls Try.prog 5 #[.agg #[.int .i64 a0, .int .i64 a1], .slice A l.length c] w fun e w' => e = .returned (.bool r) ∧ Below w.heap.size w w' := by
  unfold bulletinlaw08_DiskPlays.f at h
  by_cases hw : l.length ≤ 9223372036854775807 ∧ ∀ a ∈ l, Dk.vAct a
  · rw [if_pos hw] at h
    obtain rfl : true = r := Option.some.inj h
    exact Dk.plays_calls w a0 a1 A c l hr hw.2 hw.1
  · rw [if_neg hw] at h
    cases h
end Go.Proofs.Ytohflbmmglmhhaa.X
namespace Go.Proofs.Ytohflbmmglmhhaa.Row
open Go.RowKit Go.Proofs.YtohflbmmglmhhaaW.PrintWords Go.Proofs.YtohflbmmglmhhaaW.PrintLast
set_option linter.unusedVariables false
theorem plays_ev (a0 a1 : Int) (l : List Dk.TAct) (h0 : (Lit.int .i64 a0).wf = true) (h1 : (Lit.int .i64 a1).wf = true) (hn : l.length ≤ 9223372036854775807) (hz : ∀ a ∈ l, Dk.vAct a) : Ev (fun k => X.bulletinlaw08_DiskPlays.f k a0 a1 l) true := by
  unfold X.bulletinlaw08_DiskPlays.f
  rw [if_pos ⟨hn, hz⟩]
  exact Ev.now _
end Go.Proofs.Ytohflbmmglmhhaa.Row
