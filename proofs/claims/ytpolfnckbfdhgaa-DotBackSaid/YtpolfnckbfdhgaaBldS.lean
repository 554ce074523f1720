/- strings.Builder in a block of its own (a local variable): WriteString and String, told with 'Below'. -/
import Derived.Test.YtpolfnckbfdhgaaBldG
namespace Go.Proofs.Ytpolfnckbfdhgaa.Mem
open Go.RowKit
set_option linter.unusedVariables false
set_option linter.unusedSimpArgs false
/-- a builder of the call's own: all its blocks are from B on -/
def Bs (w : World) (b B : Nat) (l : List UInt8) : Prop :=
  ∃ p v, Bl w b 50 #[p, v] 0 v l ∧ (l = [] → v = .slice none 0 0) ∧ B ≤ b ∧ (∀ k, own v k → B ≤ k)
theorem bs_lies (p v : Value) : liesAt Try.prog Try.prog.depth 50 ((#[p, v] : Array Value).size / Try.prog.cellsOf 50) 0 50 1 = true := by
  show liesAt Try.prog Try.prog.depth 50 (2 / Try.prog.cellsOf 50) 0 50 1 = true
  kernel_rfl
variable {w w' : World} {b B : Nat} {l : List UInt8}
theorem Bs.new (w : World) (B : Nat) (hB : B ≤ w.heap.size) : Bs (w.alloc (.cells #[.pointer none, .slice none 0 0] 50)) w.heap.size B [] :=
  ⟨_, _, ⟨Blk.new w _ _, .inl rfl, rfl, SlF.nil _ _, by decide, bs_lies _ _⟩, fun _ => rfl, hB, fun k hk => by cases hk⟩
theorem Bs.lt (h : Bs w b B l) : b < w.heap.size := by
  obtain ⟨p, v, h, _⟩ := h
  exact h.blk.lt
theorem Bs.below (h : Bs w b B l) (hb : Below w.heap.size w w') : Bs w' b B l := by
  obtain ⟨p, v, h, h0, h1, h2⟩ := h
  exact ⟨p, v, ⟨h.blk.below hb, h.addr, h.buf, h.row.only (Only.of_below hb none_) (fun _ _ => id), h.ne, h.lies⟩, h0, h1, h2⟩
theorem Bs.drewN (h : Bs w b B l) (n : Nat) : Bs (w.drewN n) b B l := by
  obtain ⟨p, v, h, h0, h1, h2⟩ := h
  exact ⟨p, v, ⟨h.blk.drewN n, h.addr, h.buf, h.row.keep (fun _ _ => rfl), h.ne, h.lies⟩, h0, h1, h2⟩
theorem bs_write (h : Bs w b B l) (hB : B ≤ w.heap.size) (s : ByteArray) (hs : 0 < s.size) (hlen : l.length + s.size ≤ 140737488355328) :
    Calls Try.prog 24 #[.pointer (some ⟨b, 0, none⟩), .string s] w fun e w' => e = .returned (.tuple #[.int .i64 s.size, .nilIface]) ∧ (Bs w' b B (l ++ s.data.toList) ∧ Below B w w') := by
  obtain ⟨p, v, h, h0, h1, h2⟩ := h
  refine (bld_WriteString h s hlen).mono ?_
  rintro e w2 ⟨rfl, v', hb2, ho2, hv2⟩
  refine ⟨rfl, ⟨_, v', hb2, fun e => ?_, h1, fun k hk => (hv2 k hk).elim (h2 k) (fun e => Nat.le_trans hB e)⟩, ho2.to_below hB fun k hk => ?_⟩
  · have e2 := congrArg List.length e
    have e3 : s.data.toList.length = s.size := by simp
    rw [List.length_append, e3, List.length_nil] at e2
    omega
  · rcases hk with rfl | hk
    · exact h1
    · exact h2 k hk
theorem bs_string (h : Bs w b B l) (hB : B ≤ w.heap.size) :
    Calls Try.prog 25 #[.pointer (some ⟨b, 0, none⟩)] w fun e w' => e = .returned (.string ⟨l.toArray⟩) ∧ (Bs w' b B l ∧ Below B w w') := by
  obtain ⟨p, v, h, h0, h1, h2⟩ := h
  refine (bld_String h h0).mono ?_
  rintro e w2 ⟨rfl, hb2, ho2⟩
  exact ⟨rfl, ⟨p, v, hb2, h0, h1, h2⟩, ho2.to_below hB h2⟩
end Go.Proofs.Ytpolfnckbfdhgaa.Mem
