/- batch: Put, Del, Len, Clear, Get, walked. -/
import Derived.Test.YtjcilknfhkpepaaBatB
namespace Go.Proofs.Ytjcilknfhkpepaa.Bat
open Go.RowKit Go.Proofs.Ytjcilknfhkpepaa.Mem Go.Proofs.Ytjcilknfhkpepaa.X Go.Proofs.YtjcilknfhkpepaaW.PrintWords Go.Proofs.YtjcilknfhkpepaaW.PrintLast Go.Proofs.YtjcilknfhkpepaaW.PrintMore Go.Proofs.Ytjcilknfhkpepaa.Aid
set_option linter.unusedVariables false
set_option linter.unusedSimpArgs false
set_option maxHeartbeats 4000000 in
set_option maxRecDepth 100000 in
theorem put_calls (w : World) (p : Nat) (v : Value) (l : List Ch) (ck cv : ByteArray) (h : Bt w p v l) (hs : Sorted l) (hn : l.length ≤ 2000) :
    Calls Try.prog 13 #[.pointer (some ⟨p, 0, none⟩), .string ck, .string cv] w fun e w' => ∃ v', e = .returned (.int .i64 (change l ⟨ck, cv, false⟩).2) ∧ Bt w' p v' (change l ⟨ck, cv, false⟩).1 ∧ Only (fun k => k = p ∨ own v k) w w' ∧ ∀ k, own v' k → own v k ∨ w.heap.size ≤ k := by
  have hc := change_calls w p v l ck cv false h hs hn
  clear h hs hn
  go_enter Try.func13, Try.ntmps13
  go_wp2_with fail
  refine hc.mono ?_
  rintro e w' ⟨v', rfl, h1, h2, h3⟩
  go_wp2
  go_ret
  exact ⟨v', rfl, h1, h2, h3⟩
set_option maxHeartbeats 4000000 in
set_option maxRecDepth 100000 in
theorem del_calls (w : World) (p : Nat) (v : Value) (l : List Ch) (ck : ByteArray) (h : Bt w p v l) (hs : Sorted l) (hn : l.length ≤ 2000) :
    Calls Try.prog 16 #[.pointer (some ⟨p, 0, none⟩), .string ck] w fun e w' => ∃ v', e = .returned (.int .i64 (change l ⟨ck, ⟨#[]⟩, true⟩).2) ∧ Bt w' p v' (change l ⟨ck, ⟨#[]⟩, true⟩).1 ∧ Only (fun k => k = p ∨ own v k) w w' ∧ ∀ k, own v' k → own v k ∨ w.heap.size ≤ k := by
  have hc := change_calls w p v l ck ⟨#[]⟩ true h hs hn
  clear h hs hn
  go_enter Try.func16, Try.ntmps16
  go_wp2_with fail
  refine hc.mono ?_
  rintro e w' ⟨v', rfl, h1, h2, h3⟩
  go_wp2
  go_ret
  exact ⟨v', rfl, h1, h2, h3⟩
set_option maxHeartbeats 4000000 in
theorem len_calls (w : World) (p : Nat) (v : Value) (l : List Ch) (h : Bt w p v l) :
    Calls Try.prog 17 #[.pointer (some ⟨p, 0, none⟩)] w fun e w' => e = .returned (.int .i64 (l.length : Int)) ∧ w' = w := by
  obtain ⟨A, cap, rfl, hnc, hml⟩ := h.row.form
  have x0 : w.cell? ⟨p, 0, none⟩ = some (.slice A l.length cap) := (h.blk.cell 0).trans rfl
  clear h hnc hml
  go_enter Try.func17, Try.ntmps17
  go_wp2
  go_ret
  exact ⟨rfl, rfl⟩
set_option maxHeartbeats 4000000 in
theorem clear_calls (w : World) (p : Nat) (v : Value) (l : List Ch) (h : Bt w p v l) :
    Calls Try.prog 24 #[.pointer (some ⟨p, 0, none⟩)] w fun e w' => (∃ x, e = .returned x) ∧ Bt w' p (.slice none 0 0) [] ∧ Only (fun k => k = p) w w' := by
  have x0 : w.cell? ⟨p, 0, none⟩ = some v := (h.blk.cell 0).trans rfl
  have f0 := h.blk.frozen 0
  have h1 : Bt (w.setCell ⟨p, 0, none⟩ (.slice none 0 0)) p (.slice none 0 0) [] := ⟨h.blk.set_ 0 _, Sl.nil _ _ _⟩
  have h2 : Only (fun k => k = p) w (w.setCell ⟨p, 0, none⟩ (.slice none 0 0)) := (Only.refl (fun k => k = p) w).put rfl 0 _
  clear h
  go_enter Try.func24, Try.ntmps24
  go_wp2
  go_end0
  exact ⟨⟨_, rfl⟩, h1, h2⟩
end Go.Proofs.Ytjcilknfhkpepaa.Bat
