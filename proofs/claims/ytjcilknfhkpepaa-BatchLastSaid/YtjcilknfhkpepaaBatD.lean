/- batch: Get, walked. -/
import Derived.Test.YtjcilknfhkpepaaBatC
import Derived.Test.YtjcilknfhkpepaaMemP
namespace Go.Proofs.Ytjcilknfhkpepaa.Bat
open Go.RowKit Go.Proofs.Ytjcilknfhkpepaa.Mem Go.Proofs.Ytjcilknfhkpepaa.X Go.Proofs.YtjcilknfhkpepaaW.PrintWords Go.Proofs.YtjcilknfhkpepaaW.PrintLast Go.Proofs.YtjcilknfhkpepaaW.PrintMore Go.Proofs.Ytjcilknfhkpepaa.Aid
set_option linter.unusedVariables false
set_option linter.unusedSimpArgs false
def getOf (l : List Ch) (key : ByteArray) : Ch := if there l key = true then (l[pos l key]?).getD ⟨⟨#[]⟩, ⟨#[]⟩, false⟩ else ⟨⟨#[]⟩, ⟨#[]⟩, false⟩
theorem info_c : (Try.prog.info? 31).map (·.size) = some 3 := by kernel_rfl
set_option maxHeartbeats 4000000 in
set_option maxRecDepth 100000 in
theorem get_calls (w : World) (p : Nat) (v : Value) (l : List Ch) (key : ByteArray) (h : Bt w p v l) (hs : Sorted l) (hn : l.length ≤ 100000) :
    Calls Try.prog 12 #[.pointer (some ⟨p, 0, none⟩), .string key] w fun e w' => e = .returned (.tuple #[vch (getOf l key), .bool (there l key)]) ∧ Below w.heap.size w w' := by
  have hx0 := Blk.new w 31 #[.string ⟨#[]⟩, .string ⟨#[]⟩, .bool false]
  have hb0 := h.alloc (.cells #[.string ⟨#[]⟩, .string ⟨#[]⟩, .bool false] 31)
  have hB0 : Below w.heap.size w (w.alloc (.cells #[.string ⟨#[]⟩, .string ⟨#[]⟩, .bool false] 31)) := (Below.refl _ w).alloc (Nat.le_refl _) _
  have hpl := place_calls _ p _ l key hb0 hs hn
  have hlt := h.blk.lt
  clear h hs
  go_enter Try.func12, Try.ntmps12
  go_wp2_with fail
  refine hpl.mono ?_
  rintro e w1 ⟨rfl, hd1⟩
  have hx1 := hx0.below hd1
  have hb1 := hb0.below hd1
  have hB1 := hB0.trans (hd1.mono hB0.size)
  clear hx0 hb0 hB0 hd1 hpl
  obtain ⟨bx, hbx⟩ : ∃ bx, w.heap.size = bx := ⟨_, rfl⟩
  have HBX := Lib.hid hbx
  rw [hbx] at hx1 hB1 hlt ⊢
  clear hbx
  obtain ⟨A, cap, rfl, hnc, hml⟩ := hb1.row.form
  cases hth : there l key with
  | true =>
    have hpt := there_pos hth
    obtain ⟨g, off, hA, z1, z2, z3⟩ := hb1.at hpt
    subst hA
    have x0 : w1.cell? ⟨p, 0, none⟩ = some (.slice (some ⟨g, off, none⟩) l.length cap) := (hb1.blk.cell 0).trans rfl
    have hG : getOf l key = l[pos l key] := by unfold getOf; rw [if_pos hth, List.getElem?_eq_getElem hpt]; rfl
    obtain ⟨c, hc⟩ : ∃ c, l[pos l key] = c := ⟨_, rfl⟩
    rw [hc] at z1 z2 z3 hG
    obtain ⟨q, hq⟩ : ∃ q, pos l key = q := ⟨_, rfl⟩
    have hqi : (q : Int) < (l.length : Int) := by omega
    have HQ : Hid (getOf l key = c ∧ there l key = true) := Lib.hid ⟨hG, hth⟩
    simp only [hq] at z1 z2 z3 ⊢
    clear hq hG hc hth hb1 hnc hml hn
    have y0 : w1.cell? ⟨bx, 0, none⟩ = some (.string ⟨#[]⟩) := (hx1.cell 0).trans rfl
    have y1 : w1.cell? ⟨bx, 1, none⟩ = some (.string ⟨#[]⟩) := (hx1.cell 1).trans rfl
    have y2 : w1.cell? ⟨bx, 2, none⟩ = some (.bool false) := (hx1.cell 2).trans rfl
    have f0 := hx1.frozen 0
    have f1 := hx1.frozen 1
    have f2 := hx1.frozen 2
    have n1 := ((hx1.set_ 0 (.string c.key)).set_ 1 (.string c.value)).set_ 2 (.bool c.gone)
    have hB2 := ((hB1.setCell (p := ⟨bx, 0, none⟩) (Nat.le_refl _) (.string c.key)).setCell (p := ⟨bx, 1, none⟩) (Nat.le_refl _) (.string c.value)).setCell (p := ⟨bx, 2, none⟩) (Nat.le_refl _) (.bool c.gone)
    go_wp2_with fail
    refine bodyPost_ret (results_ct rfl _ _ bx 31 _ (0, 0) _ rfl n1 Try.underlying31 rfl info_c) rfl ⟨by rw [HQ.out.1, HQ.out.2]; rfl, by rw [HBX.out]; exact hB2⟩
  | false =>
    have HQ : Hid (getOf l key = ⟨⟨#[]⟩, ⟨#[]⟩, false⟩ ∧ there l key = false) := Lib.hid ⟨by unfold getOf; rw [if_neg (by rw [hth]; simp)], hth⟩
    have y0 : w1.cell? ⟨bx, 0, none⟩ = some (.string ⟨#[]⟩) := (hx1.cell 0).trans rfl
    have y1 : w1.cell? ⟨bx, 1, none⟩ = some (.string ⟨#[]⟩) := (hx1.cell 1).trans rfl
    have y2 : w1.cell? ⟨bx, 2, none⟩ = some (.bool false) := (hx1.cell 2).trans rfl
    have f0 := hx1.frozen 0
    have f1 := hx1.frozen 1
    have f2 := hx1.frozen 2
    have n1 := ((hx1.set_ 0 (.string ⟨#[]⟩)).set_ 1 (.string ⟨#[]⟩)).set_ 2 (.bool false)
    have hB2 := ((hB1.setCell (p := ⟨bx, 0, none⟩) (Nat.le_refl _) (.string ⟨#[]⟩)).setCell (p := ⟨bx, 1, none⟩) (Nat.le_refl _) (.string ⟨#[]⟩)).setCell (p := ⟨bx, 2, none⟩) (Nat.le_refl _) (.bool false)
    clear hth hb1 hnc hml hn
    go_wp2_with fail
    refine bodyPost_ret (results_ct rfl _ _ bx 31 _ (0, 0) _ rfl n1 Try.underlying31 rfl info_c) rfl ⟨by rw [HQ.out.1, HQ.out.2]; rfl, by rw [HBX.out]; exact hB2⟩
end Go.Proofs.Ytjcilknfhkpepaa.Bat
