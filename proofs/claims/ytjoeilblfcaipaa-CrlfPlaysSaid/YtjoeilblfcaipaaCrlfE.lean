/- crlf: the chapter's example. -/
import Derived.Test.YtjoeilblfcaipaaCrlfD
namespace Go.Proofs.Ytjoeilblfcaipaa.Crlf
open Go.RowKit Go.Proofs.Ytjoeilblfcaipaa.Mem
set_option linter.unusedVariables false
set_option linter.unusedSimpArgs false
/-- a reader of the call's own: all blocks from B on may be its -/
def My (w0 w : World) (b : Nat) (m : M) : Prop := Rd w b (mine w0.heap.size w) m ∧ Below w0.heap.size w0 w
theorem My.step {w0 w w' : World} {b : Nat} {m m' : M} (h : My w0 w b m) (hp : FeedPost w b (mine w0.heap.size w) m' w') : My w0 w' b m' :=
  ⟨hp.1.mono (mine_ext (fun _ h => h) h.2.size hp.2.size) mine_lt, hp.2.below_mine (fun _ h => h.1) h.2.size h.2⟩
theorem My.below {w0 w w' : World} {b : Nat} {m : M} (h : My w0 w b m) (hb : Below w.heap.size w w') : My w0 w' b m :=
  ⟨(h.1.below hb).mono (mine_more hb.size) mine_lt, h.2.trans (hb.mono h.2.size)⟩
theorem My.new (w : World) : My w (w.alloc (.cells #[.slice none 0 0, .slice none 0 0, .int .i64 0, .bool false, .bool false] 49)) w.heap.size ([], [], false) :=
  ⟨(rd_new w).mono (fun k hk => by subst hk; exact ⟨Nat.le_refl _, by simp⟩) mine_lt, (Below.refl _ w).alloc (Nat.le_refl _) _⟩
set_option maxHeartbeats 1000000 in
set_option maxRecDepth 100000 in
theorem works_calls (w : World) : Calls Try.prog 9 #[] w fun e w' => e = .returned (.bool true) ∧ Below w.heap.size w w' := by
  go_enter Try.func9, Try.ntmps9
  go_wp2_with fail
  refine (new_calls _).mono ?_
  rintro e w1 ⟨rfl, rfl⟩
  have hM := My.new w
  obtain ⟨w1, hw1⟩ : ∃ x, w.alloc (.cells #[.slice none 0 0, .slice none 0 0, .int .i64 0, .bool false, .bool false] 49) = x := ⟨_, rfl⟩
  obtain ⟨b, hb⟩ : ∃ x, w.heap.size = x := ⟨_, rfl⟩
  rw [hw1] at hM ⊢
  rw [hb] at hM
  simp only [hb]
  clear hw1
  have HB : Hid (w.heap.size = b) := hb
  clear hb
  go_wp2_with fail
  refine (Feed_calls _ b _ _ _ hM.1 (by decide) (by decide)).mono ?_
  rintro e w2 ⟨rfl, hp⟩
  have hM2 : My w w2 b ([], [97], true) := hM.step hp
  clear hp hM
  go_wp2_with fail
  refine (whole_calls _ b _ _ hM2.1).mono ?_
  rintro e w3 ⟨rfl, rfl⟩
  go_wp2_with fail
  refine (Feed_calls _ b _ _ _ hM2.1 (by decide) (by decide)).mono ?_
  rintro e w3 ⟨rfl, hp⟩
  have hM3 : My w w3 b ([[97]], [98], false) := hM2.step hp
  clear hp hM2
  go_wp2_with fail
  refine (take_some _ b _ [97] [] [98] false 9 hM3.1 (by decide)).mono ?_
  rintro e w4 ⟨rfl, hp⟩
  have hM4 : My w w4 b ([], [98], false) := hM3.step hp
  have hj : judge [97] 9 = (1, [97]) := by decide
  simp only [hj, lineV]
  clear hp hM3 hj
  go_wp2_with fail
  have hM5 := hM4.below ((Below.refl _ w4).alloc (Nat.le_refl _) (.cells #[.int .i64 1, .string ⟨#[97]⟩] 33))
  refine (held_calls _ b _ _ hM5.1 (by decide)).mono ?_
  rintro e w6 ⟨rfl, rfl⟩
  have hh : held ([], [98], false) = 1 := rfl
  simp only [hh]
  clear hh hM4
  go_wp2
  go_ret
  exact ⟨rfl, hM5.2⟩
end Go.Proofs.Ytjoeilblfcaipaa.Crlf
