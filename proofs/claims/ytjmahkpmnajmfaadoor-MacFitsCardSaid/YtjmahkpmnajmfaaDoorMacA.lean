/- mac: what a sum under a key is, as lists of bytes. -/
import Derived.Test.YtjmahkpmnajmfaaDoorShaF
namespace Go.Proofs.YtjmahkpmnajmfaaDoor.Mac
open Go.RowKit Go.Proofs.YtjmahkpmnajmfaaDoor.Aid Go.Proofs.YtjmahkpmnajmfaaDoor.Sha
/-- a key, no longer than a block -/
def keyB (k : List UInt8) : List UInt8 := if 64 < k.length then shaB k else k
/-- a key's block, each byte put together with another one -/
def padB (k : List UInt8) (c : UInt8) : List UInt8 := (keyB k ++ List.replicate (64 - (keyB k).length) 0).map (· ^^^ c)
/-- the sum of a text under a key -/
def macB (k s : List UInt8) : List UInt8 := shaB (padB k 92 ++ shaB (padB k 54 ++ s))
theorem keyB_len (k : List UInt8) : (keyB k).length ≤ 64 := by
  unfold keyB
  split
  · rw [shaB_len]; omega
  · omega
theorem padB_len (k : List UInt8) (c : UInt8) : (padB k c).length = 64 := by
  have := keyB_len k
  simp [padB]
  omega
theorem macB_len (k s : List UInt8) : (macB k s).length = 32 := shaB_len _
theorem padB_noughts (k : List UInt8) (n : Nat) (c : UInt8) (h : k.length + n ≤ 64) : padB (k ++ List.replicate n 0) c = padB k c := by
  have h1 : keyB (k ++ List.replicate n 0) = k ++ List.replicate n 0 := by unfold keyB; rw [if_neg (by simp; omega)]
  have h2 : keyB k = k := by unfold keyB; rw [if_neg (by omega)]
  unfold padB
  rw [h1, h2, List.append_assoc, List.replicate_append_replicate]
  congr 3
  simp
  omega
theorem macB_noughts (k s : List UInt8) (n : Nat) (h : k.length + n ≤ 64) : macB (k ++ List.replicate n 0) s = macB k s := by
  unfold macB
  rw [padB_noughts k n _ h, padB_noughts k n _ h]
def jefe : List UInt8 := [74, 101, 102, 101]
def ask : List UInt8 := [119, 104, 97, 116, 32, 100, 111, 32, 121, 97, 32, 119, 97, 110, 116, 32, 102, 111, 114, 32, 110, 111, 116, 104, 105, 110, 103, 63]
theorem jefe4 : (macB jefe ask).take 4 = [91, 220, 193, 70] := by decide +kernel
theorem jefe31 : (macB jefe ask).getD 31 0 = 67 := by decide +kernel
end Go.Proofs.YtjmahkpmnajmfaaDoor.Mac
