/- bulletin/bulletinlaw08.DiskTorn, as its row asks for it. -/
import Derived.Test.YtohflbmmglmhhaaDiskTo
import Derived.Test.YtohflbmmglmhhaaDiskRow1
namespace Go.Proofs.Ytohflbmmglmhhaa.X
open Go.RowKit Go.Proofs.YtohflbmmglmhhaaW.PrintWords Go.Proofs.YtohflbmmglmhhaaW.PrintLast Go.Proofs.YtohflbmmglmhhaaW.PrintMore
set_option linter.unusedVariables false
open Classical in
noncomputable def bulletinlaw08_DiskTorn.f (k : Nat) (l : List Dk.TAct) (keep : List Bool) (torn : Int) : Option Bool := if (l.length ≤ 9223372036854775807 ∧ (∀ a ∈ l, Dk.vAct a) ∧ (Lit.int .i64 torn).wf = true) then some true else none
theorem bulletinlaw08_DiskTorn.calls (k : Nat) (A : Option Addr) (c : Nat) (l : List Dk.TAct) (A1 : Option Addr) (c1 : Nat) (keep : List Bool) (torn : Int) (r : Bool) (w : World) (hr : Kd.C Dk.kAct w A l.length l) (hc : l.length ≤ c) (hr1 : Kd.C Kd.bool w A1 keep.length keep) (hc1 : keep.length ≤ c1) (h : bulletinlaw08_DiskTorn.f k l keep torn = some r) :
    Calls Try.prog 3 #[.slice A l.length c, .slice A1 keep.length c1, .int .i64 torn] w fun e w' => e = .returned (.bool r) ∧ Below w.heap.size w w' := by
  unfold bulletinlaw08_DiskTorn.f at h
  by_cases hw : l.length ≤ 9223372036854775807 ∧ (∀ a ∈ l, Dk.vAct a) ∧ (Lit.int .i64 torn).wf = true
  · rw [if_pos hw] at h
    obtain rfl : true = r := Option.some.inj h
    exact Dk.torn_calls w A c l A1 c1 keep torn hr hw.2.1 hw.1 hr1 hc1 hw.2.2
  · rw [if_neg hw] at h
    cases h
end Go.Proofs.Ytohflbmmglmhhaa.X
namespace Go.Proofs.Ytohflbmmglmhhaa.Row
open Go.RowKit Go.Proofs.YtohflbmmglmhhaaW.PrintWords Go.Proofs.YtohflbmmglmhhaaW.PrintLast
set_option linter.unusedVariables false
theorem torn_ev (l : List Dk.TAct) (keep : List Bool) (torn : Int) (hn : l.length ≤ 9223372036854775807) (hz : ∀ a ∈ l, Dk.vAct a) (hn1 : keep.length ≤ 9223372036854775807) (hz1 : ∀ x ∈ keep, True) (ht : (Lit.int .i64 torn).wf = true) : Ev (fun k => X.bulletinlaw08_DiskTorn.f k l keep torn) true := by
  unfold X.bulletinlaw08_DiskTorn.f
  rw [if_pos ⟨hn, hz, ht⟩]
  exact Ev.now _
end Go.Proofs.Ytohflbmmglmhhaa.Row
