/- disk: sectors and a cache, as plain values. -/
import Derived.Test.YtohflbmmglmhhaaAid
namespace Go.Proofs.Ytohflbmmglmhhaa.Dk
open Go.RowKit Go.Proofs.Ytohflbmmglmhhaa.Aid
/-- a disk -/
structure D where
  size : Nat
  l : List ByteArray
  cache : List (Nat × ByteArray)
  left : Nat
  off : Bool
  full : Bool
  ops : Nat
/-- the last write of a sector that the cache has, or what is durable -/
def look : List (Nat × ByteArray) → Nat → ByteArray → ByteArray
  | [], _, s => s
  | (a, x) :: r, at_, s => look r at_ (if a = at_ then x else s)
theorem look_snoc (at_ a : Nat) (x : ByteArray) : ∀ (l : List (Nat × ByteArray)) (s : ByteArray), look (l ++ [(a, x)]) at_ s = if a = at_ then x else look l at_ s
  | [], s => rfl
  | (b, y) :: r, s => by
    rw [List.cons_append, look, look_snoc at_ a x r]
    rfl
/-- one more operation; does the power go? -/
def oper (d : D) : D × Bool :=
  if d.left = 0 then ({ d with ops := d.ops + 1 }, false)
  else ({ d with ops := d.ops + 1, left := d.left - 1, off := decide (d.left - 1 = 0) }, decide (d.left - 1 = 0))
def rd (d : D) (at_ : Int) : ByteArray × Int :=
  if at_ < 0 ∨ (d.l.length : Int) ≤ at_ then (⟨#[]⟩, 1)
  else if d.off then (⟨#[]⟩, 80)
  else (look d.cache at_.toNat (d.l.getD at_.toNat ⟨#[]⟩), 0)
def put (d : D) (at_ : Int) (s : ByteArray) : D × Int :=
  if at_ < 0 ∨ (d.l.length : Int) ≤ at_ ∨ s.size ≠ d.size then (d, 1)
  else if d.off then (d, 80)
  else if (oper d).2 = false ∧ d.full then ((oper d).1, 81)
  else ({ (oper d).1 with cache := d.cache ++ [(at_.toNat, s)] }, if (oper d).2 then 80 else 0)
def lands (l : List ByteArray) (ws : List (Nat × ByteArray)) : List ByteArray := ws.foldl (fun l w => l.set w.1 w.2) l
def flush (d : D) : D × Int :=
  if d.off then (d, 80)
  else if (oper d).2 then ((oper d).1, 80)
  else ({ (oper d).1 with l := lands d.l d.cache, cache := [] }, 0)
/-- the writes that survive -/
def alive (cache : List (Nat × ByteArray)) (keep : List Bool) : List (Nat × ByteArray) := ((cache.zip keep).filter (·.2)).map (·.1)
/-- the last of them, torn -/
def tear (size : Nat) (torn : Int) (l : List ByteArray) (w : Nat × ByteArray) : ByteArray :=
  if 0 ≤ torn ∧ torn < size then w.2.extract 0 torn.toNat ++ (l.getD w.1 ⟨#[]⟩).extract torn.toNat (l.getD w.1 ⟨#[]⟩).size else w.2
def landsT (size : Nat) (torn : Int) : List ByteArray → List (Nat × ByteArray) → List ByteArray
  | l, [] => l
  | l, [w] => l.set w.1 (tear size torn l w)
  | l, w :: v :: r => landsT size torn (l.set w.1 w.2) (v :: r)
def crash (d : D) (keep : List Bool) (torn : Int) : D :=
  { d with l := landsT d.size torn d.l (alive d.cache keep), cache := [], off := false, left := 0 }
def cut (d : D) (n : Int) : D := { d with left := (max n 0).toNat }
def fill (d : D) (b : Bool) : D := { d with full := b }
def new (n size : Nat) : D := ⟨size, List.replicate n (S (List.replicate size 0)), [], 0, false, false, 0⟩
/-- as a disk is -/
structure Fine (d : D) : Prop where
  each : ∀ s ∈ d.l, s.size = d.size
  wat : ∀ w ∈ d.cache, w.1 < d.l.length ∧ w.2.size = d.size
  size : d.size ≤ 256
  len : d.l.length ≤ 4096
  left : d.left ≤ 9223372036854775807
theorem oper_l (d : D) : (oper d).1.l = d.l ∧ (oper d).1.cache = d.cache ∧ (oper d).1.size = d.size ∧ (oper d).1.full = d.full ∧ (oper d).1.ops = d.ops + 1 ∧ (oper d).1.left ≤ d.left := by
  unfold oper
  split <;> simp
end Go.Proofs.Ytohflbmmglmhhaa.Dk
