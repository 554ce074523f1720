/- batch: one and works of the laws. -/
import Derived.Test.YtjcilknfhkpepaaBatD
import Derived.Test.YtjcilknfhkpepaaBatF
import Derived.Test.YtjcilknfhkpepaaBatQ
namespace Go.Proofs.Ytjcilknfhkpepaa.Bat
open Go.RowKit Go.Proofs.Ytjcilknfhkpepaa.Mem Go.Proofs.Ytjcilknfhkpepaa.X Go.Proofs.YtjcilknfhkpepaaW.PrintWords Go.Proofs.YtjcilknfhkpepaaW.PrintLast Go.Proofs.YtjcilknfhkpepaaW.PrintMore Go.Proofs.Ytjcilknfhkpepaa.Aid
set_option linter.unusedVariables false
set_option linter.unusedSimpArgs false
set_option maxHeartbeats 4000000 in
set_option maxRecDepth 100000 in
theorem one_calls (w : World) (p : Nat) (v : Value) (l : List Ch) (c : Ch) (h : Bt w p v l) (hs : Sorted l) (hn : l.length ≤ 2000) :
    Calls Try.prog 11 #[.pointer (some ⟨p, 0, none⟩), vch c] w fun e w' => ∃ v', e = .returned (.int .i64 (change l (nrm c)).2) ∧ Bt w' p v' (change l (nrm c)).1 ∧ Only (fun k => k = p ∨ own v k) w w' ∧ ∀ k, own v' k → own v k ∨ w.heap.size ≤ k := by
  obtain ⟨ck, cv, cg⟩ := c
  have h1 := h.alloc (.cells #[.string ck, .string cv, .bool cg] 24)
  have ho : Only (fun k => k = p ∨ own v k) w (w.alloc (.cells #[.string ck, .string cv, .bool cg] 24)) := (Only.refl _ w).alloc _
  have hz : w.heap.size ≤ (w.alloc (.cells #[.string ck, .string cv, .bool cg] 24)).heap.size := ho.size
  cases cg with
  | true =>
    have hc := del_calls _ p v l ck h1 hs hn
    clear h hs hn h1
    unfold vch
    go_enter Try.func11, Try.ntmps11
    go_wp2_with fail
    refine hc.mono ?_
    rintro e w' ⟨v', rfl, h1, h2, h3⟩
    clear hc
    go_wp2
    go_ret
    exact ⟨v', rfl, h1, ho.trans h2, fun k hk => (h3 k hk).imp id fun e => Nat.le_trans hz e⟩
  | false =>
    have hc := put_calls _ p v l ck cv h1 hs hn
    clear h hs hn h1
    unfold vch
    go_enter Try.func11, Try.ntmps11
    go_wp2_with fail
    refine hc.mono ?_
    rintro e w' ⟨v', rfl, h1, h2, h3⟩
    clear hc
    go_wp2
    go_ret
    exact ⟨v', rfl, h1, ho.trans h2, fun k hk => (h3 k hk).imp id fun e => Nat.le_trans hz e⟩
theorem equalIn_func (P : Program) (w : World) (d : Nat) (t : TypeId) (ps rs : Array TypeId) (b : Bool) (f : Fn) (x y : Array Value) (h : P.underlying t = some (.func ps rs b)) : (Op.equalIn (d + 1) t (.func f x y) .nilFunc).run P w = .ok false w := by
  simp [Op.equalIn, run_underlying h]
theorem equal_func (P : Program) (w : World) (t : TypeId) (ps rs : Array TypeId) (b : Bool) (f : Fn) (x y : Array Value) (h : P.underlying t = some (.func ps rs b)) : (Op.equal t (.func f x y) .nilFunc).run P w = .ok false w := equalIn_func P w 9999 t ps rs b f x y h
theorem neq_func (P : Program) (w : World) (t : TypeId) (ps rs : Array TypeId) (b : Bool) (f : Fn) (x y : Array Value) (h : P.underlying t = some (.func ps rs b)) : (binOp .neq t (.func f x y) .nilFunc).run P w = .ok (.bool true) w := by
  simp only [binOp]
  simp [equal_func P w t ps rs b f x y h]
theorem write_ab : batch_Write.f 40 ⟨#[97]⟩ ⟨#[98]⟩ false = some ⟨#[49, 58, 43, 44, 49, 58, 97, 44, 49, 58, 98, 44]⟩ := by decide +kernel
set_option maxHeartbeats 8000000 in
set_option maxRecDepth 100000 in
theorem works_calls (w : World) : Calls Try.prog 8 #[] w fun e w' => e = .returned (.bool true) ∧ Below w.heap.size w w' := by
  go_enter Try.func8, Try.ntmps8
  go_wp2_with fail
  refine (new_calls w).mono ?_
  rintro e w1 ⟨rfl, h1, hb1⟩
  have hs0 : Sorted [] := List.Pairwise.nil
  have hc := put_calls w1 w.heap.size _ [] ⟨#[97]⟩ ⟨#[98]⟩ h1 hs0 (by simp)
  obtain ⟨p, hp⟩ : ∃ p, w.heap.size = p := ⟨_, rfl⟩
  have HP := Lib.hid hp
  rw [hp] at h1 hb1 hc
  simp only [hp]
  clear hp
  go_wp2_with fail
  refine hc.mono ?_
  rintro e w2 ⟨v', rfl, h2, ho2, hn2⟩
  have hch : change [] ⟨⟨#[97]⟩, ⟨#[98]⟩, false⟩ = ([⟨⟨#[97]⟩, ⟨#[98]⟩, false⟩], 0) := by kernel_rfl
  rw [hch] at h2
  simp only [hch]
  have hb2 := hb1.trans (ho2.to_below (by rw [← HP.out]; exact hb1.size) (by
    rintro k (rfl | e)
    · exact Nat.le_refl _
    · cases e))
  clear hch hc ho2 hn2 h1 hb1
  have hs2 : Sorted [⟨⟨#[97]⟩, ⟨#[98]⟩, false⟩] := by simp [Sorted]
  have hg := get_calls w2 p v' _ ⟨#[97]⟩ h2 hs2 (by simp)
  have e1 : getOf [⟨⟨#[97]⟩, ⟨#[98]⟩, false⟩] ⟨#[97]⟩ = ⟨⟨#[97]⟩, ⟨#[98]⟩, false⟩ := by kernel_rfl
  have e2 : there [⟨⟨#[97]⟩, ⟨#[98]⟩, false⟩] ⟨#[97]⟩ = true := by decide +kernel
  rw [e1, e2] at hg
  unfold vch at hg
  clear e1 e2
  go_wp2_with fail
  refine hg.mono ?_
  rintro e w3 ⟨rfl, hb3⟩
  have h3 := h2.below hb3
  have hb4 := hb2.trans (hb3.mono (by rw [← HP.out]; exact hb2.size))
  have h5 := h3.alloc (.cells #[.string ⟨#[97]⟩, .string ⟨#[98]⟩, .bool false] 31)
  have hb5 := hb4.alloc (by rw [← HP.out]; exact hb4.size) (.cells #[.string ⟨#[97]⟩, .string ⟨#[98]⟩, .bool false] 31)
  have hx5 := Blk.new w3 31 #[.string ⟨#[97]⟩, .string ⟨#[98]⟩, .bool false]
  clear hg h2 hb2 hb3 h3 hb4
  go_wp2_with fail
  obtain ⟨bx, hbx⟩ : ∃ x, w3.heap.size = x := ⟨_, rfl⟩
  obtain ⟨w4, hw4⟩ : ∃ x, w3.alloc (.cells #[.string ⟨#[97]⟩, .string ⟨#[98]⟩, .bool false] 31) = x := ⟨_, rfl⟩
  rw [hw4] at h5 hb5 hx5
  rw [hbx] at hx5
  simp only [hw4, hbx]
  clear hw4 hbx
  have ht := texts_calls 40 w4 p v' _ (fun _ => ⟨#[49, 58, 43, 44, 49, 58, 97, 44, 49, 58, 98, 44]⟩) h5 (by simp) (fun c hc => by
    have : c = ⟨⟨#[97]⟩, ⟨#[98]⟩, false⟩ := by simpa using hc
    rw [this]; exact write_ab)
  refine ht.mono ?_
  rintro e w5 ⟨v5, rfl, hs5, hn5, hb6⟩
  have hx6 := hx5.below hb6
  have hb7 := hb5.trans (hb6.mono (by rw [← HP.out]; exact hb5.size))
  obtain ⟨g, off, cap, cur, hv, z2, z3, z4, z5, z6⟩ := hs5.form_pos (by simp)
  have c0 := hs5.cell hv (j := 0) (by simp)
  subst hv
  clear z2 z3 z4 z5 z6 hn5 hb6 ht h5 hb5 hx5 hs5
  have y1 : w5.cell? ⟨bx, 1, none⟩ = some (.string ⟨#[98]⟩) := (hx6.cell 1).trans rfl
  simp only [List.map_cons, List.map_nil, List.length_cons, List.length_nil, List.getElem?_cons_zero, Nat.zero_add, Nat.add_zero] at c0 ⊢
  go_wp2_with fail
  refine (all_calls w5 p).mono ?_
  rintro e w6 ⟨rfl, bt, rfl⟩
  have hb8 := hb7.alloc (by rw [← HP.out]; exact hb7.size) (.cells #[.pointer (some ⟨p, 0, none⟩)] bt)
  have hne := fun w => neq_func Try.prog w _ _ _ _ (.func 40) #[] #[.pointer (some ⟨w5.heap.size, 0, none⟩)] Try.underlying61
  go_wp2
  go_ret
  exact ⟨rfl, by rw [HP.out]; exact hb8⟩
end Go.Proofs.Ytjcilknfhkpepaa.Bat
