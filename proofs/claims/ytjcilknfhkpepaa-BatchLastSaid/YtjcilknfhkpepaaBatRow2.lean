/- bulletin/bulletinlaw10.BatchLast, as its row asks for it. -/
import Derived.Test.YtjcilknfhkpepaaBatR
import Derived.Test.YtjcilknfhkpepaaRowGen
namespace Go.Proofs.Ytjcilknfhkpepaa.Bat
open Go.RowKit Go.Proofs.YtjcilknfhkpepaaW.PrintWords Go.Proofs.Ytjcilknfhkpepaa.RowGen Go.Proofs.Ytjcilknfhkpepaa.X
def v24 : S24 → Prop := fun x => x.f0.size ≤ 9223372036854775807 ∧ x.f1.size ≤ 9223372036854775807 ∧ True
theorem c24_opens0 : Opens Try.prog 24 (Kd.pair Kd.string (Kd.pair Kd.string Kd.bool)) (fun x : ByteArray × ByteArray × Bool => x.1.size ≤ 9223372036854775807 ∧ x.2.1.size ≤ 9223372036854775807 ∧ True) := by
  refine Opens.struct Try.underlying24 (by kernel_rfl) ?_
  refine OpensAt.consI (V := fun x : ByteArray => x.size ≤ 9223372036854775807) (V' := fun x : ByteArray × Bool => (x.1.size ≤ 9223372036854775807) ∧ True) (off' := 1) (Opens.string Try.underlying9 (by kernel_rfl)) rfl rfl ?_
  refine OpensAt.consI (V := fun x : ByteArray => x.size ≤ 9223372036854775807) (V' := fun x : Bool => True) (off' := 2) (Opens.string Try.underlying9 (by kernel_rfl)) rfl rfl ?_
  exact OpensAt.lastI (Opens.bool Try.underlying4 (by kernel_rfl)) rfl
theorem c24_opens : Opens Try.prog 24 k24 v24 := Opens.iso c24_opens0 (fun x : S24 => (x.f0, x.f1, x.f2)) (fun x => ⟨x.1, x.2.1, x.2.2⟩) (fun _ => rfl)
end Go.Proofs.Ytjcilknfhkpepaa.Bat
namespace Go.Proofs.Ytjcilknfhkpepaa.X
open Go.RowKit Go.Proofs.YtjcilknfhkpepaaW.PrintWords Go.Proofs.YtjcilknfhkpepaaW.PrintLast Go.Proofs.YtjcilknfhkpepaaW.PrintMore
set_option linter.unusedVariables false
def bulletinlaw10_BatchLast.f (k : Nat) (l : List S24) (a1_0 : ByteArray) (a1_1 : ByteArray) (a1_2 : Bool) (a2 : ByteArray) : Option Bool := if l.length ≤ 9223372036854775807 then some true else none
theorem bulletinlaw10_BatchLast.calls (k : Nat) (A : Option Addr) (c : Nat) (l : List S24) (a1_0 : ByteArray) (a1_1 : ByteArray) (a1_2 : Bool) (a2 : ByteArray) (r : Bool) (w : World) (hr : Kd.C k24 w A l.length l) (hc : l.length ≤ c) (h : bulletinlaw10_BatchLast.f k l a1_0 a1_1 a1_2 a2 = some r) :
    Calls Try.prog 3 #[.slice A l.length c, .agg #[.string a1_0, .string a1_1, .bool a1_2], .string a2] w fun e w' => e = .returned (.bool r) ∧ Below w.heap.size w w' := by
  unfold bulletinlaw10_BatchLast.f at h
  by_cases hw : l.length ≤ 9223372036854775807
  · rw [if_pos hw] at h
    obtain rfl : true = r := Option.some.inj h
    exact Bat.last_calls w A c l ⟨a1_0, a1_1, a1_2⟩ a2 hr hc hw
  · rw [if_neg hw] at h
    cases h
end Go.Proofs.Ytjcilknfhkpepaa.X
namespace Go.Proofs.Ytjcilknfhkpepaa.Row
open Go.RowKit Go.Proofs.YtjcilknfhkpepaaW.PrintWords Go.Proofs.YtjcilknfhkpepaaW.PrintLast
set_option linter.unusedVariables false
theorem last_ev (l : List X.S24) (a1_0 : ByteArray) (a1_1 : ByteArray) (a1_2 : Bool) (a2 : ByteArray) (hn : l.length ≤ 9223372036854775807) (hz : ∀ a ∈ l, Bat.v24 a) (h2 : a2.size ≤ 140737488351232) : Ev (fun k => X.bulletinlaw10_BatchLast.f k l a1_0 a1_1 a1_2 a2) true := by
  unfold X.bulletinlaw10_BatchLast.f
  rw [if_pos hn]
  exact Ev.now _
end Go.Proofs.Ytjcilknfhkpepaa.Row
