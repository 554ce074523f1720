/- the tables of roots, evaluated. -/
import Derived.Test.YtagcpphannbfkaaDoorShaC
namespace Go.Proofs.YtagcpphannbfkaaDoor.Sha
open Go.RowKit Go.Proofs.YtagcpphannbfkaaDoor.X Go.Proofs.YtagcpphannbfkaaDoorW.PrintWords Go.Proofs.YtagcpphannbfkaaDoorW.PrintLast Go.Proofs.YtagcpphannbfkaaDoor.Aid
def primes : List Int := [2, 3, 5, 7, 11, 13, 17, 19, 23, 29, 31, 37, 41, 43, 47, 53, 59, 61, 67, 71, 73, 79, 83, 89, 97, 101, 103, 107, 109, 113, 127, 131, 137, 139, 149, 151, 157, 163, 167, 173, 179, 181, 191, 193, 197, 199, 211, 223, 227, 229, 233, 239, 241, 251, 257, 263, 269, 271, 277, 281, 283, 293, 307, 311]
theorem cubes_ok : ∀ i, i < 64 → bulletinref03_root.f 60 (primes.getD i 0) true = some (iv (kc.getD i 0#32)) := by decide +kernel
theorem squares_ok : ∀ i, i < 8 → bulletinref03_root.f 60 (primes.getD i 0) false = some (iv ([vbegin.a, vbegin.b, vbegin.c, vbegin.d, vbegin.e, vbegin.f, vbegin.g, vbegin.h].getD i 0#32)) := by decide +kernel
theorem primes_ok : ∀ i : Nat, i < 64 → bulletinref03_prime.f 6000 (i : Int) = some (primes.getD i 0) := by decide +kernel
end Go.Proofs.YtagcpphannbfkaaDoor.Sha
