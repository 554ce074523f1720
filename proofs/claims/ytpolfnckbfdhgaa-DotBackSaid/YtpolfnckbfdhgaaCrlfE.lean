/- crlf: the chapter's example. -/
import Derived.Test.YtpolfnckbfdhgaaCrlfD
namespace Go.Proofs.Ytpolfnckbfdhgaa.Crlf
open Go.RowKit Go.Proofs.Ytpolfnckbfdhgaa.Mem
set_option linter.unusedVariables false
set_option linter.unusedSimpArgs false
/-- a reader of the call's own: all blocks from B on may be its -/
def My (w0 w : World) (b : Nat) (m : M) : Prop := Rd w b (mine w0.heap.size w) m ∧ Below w0.heap.size w0 w
theorem My.step {w0 w w' : World} {b : Nat} {m m' : M} (h : My w0 w b m) (hp : FeedPost w b (mine w0.heap.size w) m' w') : My w0 w' b m' :=
  ⟨hp.1.mono (mine_ext (fun _ h => h) h.2.size hp.2.size) mine_lt, hp.2.below_mine (fun _ h => h.1) h.2.size h.2⟩
theorem My.below {w0 w w' : World} {b : Nat} {m : M} (h : My w0 w b m) (hb : Below w.heap.size w w') : My w0 w' b m :=
  ⟨(h.1.below hb).mono (mine_more hb.size) mine_lt, h.2.trans (hb.mono h.2.size)⟩
theorem My.new (w : World) : My w (w.alloc (.cells #[.slice none 0 0, .slice none 0 0, .int .i64 0, .bool false, .bool false] 67)) w.heap.size ([], [], false) :=
  ⟨(rd_new w).mono (fun k hk => by subst hk; exact ⟨Nat.le_refl _, by simp⟩) mine_lt, (Below.refl _ w).alloc (Nat.le_refl _) _⟩
end Go.Proofs.Ytpolfnckbfdhgaa.Crlf
