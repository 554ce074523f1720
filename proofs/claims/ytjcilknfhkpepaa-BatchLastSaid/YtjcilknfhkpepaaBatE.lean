/- batch: All and its iterator. -/
import Derived.Test.YtjcilknfhkpepaaBatB
import Derived.Test.YtjcilknfhkpepaaRangeC
import Derived.Shelf.Abstract
import Derived.WalkKit
import Derived.OwnWalkIn
import Derived.TacticsInMore
import Derived.LoopNIn
import Derived.LoopIn
namespace Go.Proofs.Ytjcilknfhkpepaa.Bat
open Go.RowKit Go.Shelf Go.Proofs.Ytjcilknfhkpepaa.Mem Go.Proofs.Ytjcilknfhkpepaa.X Go.Proofs.Ytjcilknfhkpepaa.Aid
attribute [local go_sem] Oper.semAt_some
set_option linter.unusedVariables false
set_option linter.unusedSimpArgs false
set_option maxRecDepth 100000 in
set_option maxHeartbeats 4000000 in
theorem all_in (n : Nat) (bt : TypeId) (l b c p : Nat) (v : Value) (xs : List Ch) (J Jx : List Ch → World → Prop) (hn : xs.length ≤ 100000)
    (hJ : Mind (· = c) J)
    (hY : ∀ pre x W1, pre ++ [x] <+: xs → J pre W1 → YieldAt Fence.wide (n - 1) Try.prog l #[vch x] W1 fun e W' =>
      (e = .returned (.bool true) ∧ J (pre ++ [x]) W' ∧ ∀ k, own v k → W'.heap[k]? = W1.heap[k]?) ∨ (e = .returned (.bool false) ∧ Jx (pre ++ [x]) W'))
    (W : World) (hb : Blk W b bt #[.pointer (some ⟨p, 0, none⟩)]) (ht : Bt W p v xs) (h0 : J [] W) :
    CallsIn Fence.wide n Try.prog 40 #[.func (.yield l) #[] #[], .pointer (some ⟨b, 0, none⟩)] W fun e W' => (∃ v, e = .returned v) ∧
      (J xs W' ∨ (∃ pre, Jx pre W')) := by
  have hro : Fence.wide.round = none := rfl
  have h7 : Fence.wide.fn 40 := trivial
  refine callsIn_of_wp Try.func40 rfl h7 ?_ hro
  simp only [Try.ntmps40, List.size_toArray, List.length_cons, List.length_nil, Nat.reduceAdd, Nat.reduceSub, Array.replicate_succ, Array.replicate_zero, List.push_toArray, List.append_toArray, List.nil_append, List.cons_append]
  obtain ⟨A, cap, rfl, hnc, hml⟩ := ht.row.form
  have c0 : W.cell? ⟨b, 0, none⟩ = some (.pointer (some ⟨p, 0, none⟩)) := (hb.cell 0).trans rfl
  have c1 : W.cell? ⟨p, 0, none⟩ = some (.slice A xs.length cap) := (ht.blk.cell 0).trans rfl
  have HT := Lib.hid ht
  clear hb ht hnc hml
  gi_wp2
  clear c0 c1
  gi_loopw [10] (fun i wr => ∃ j : Nat, i = .int .i64 j ∧ j ≤ xs.length ∧ J (xs.take j) wr ∧ ∀ k, own (.slice A xs.length cap) k → wr.heap[k]? = W.heap[k]?)
    (fun i _ => xs.length - (intOf i).toNat)
  case atStart => exact ⟨0, rfl, Nat.zero_le _, h0, fun _ _ => rfl⟩
  case round =>
    obtain ⟨j, rfl, hj, hJs, hk⟩ := hrel
    by_cases hlt : j < xs.length
    case neg =>
      have hl : ¬ (j : Int) < (xs.length : Int) := by omega
      have he : xs.take j = xs := List.take_of_length_le (by omega)
      rw [he] at hJs
      clear he
      gi_wp2
      go_end0
      exact ⟨⟨_, rfl⟩, .inl hJs⟩
    case pos =>
      have hl : (j : Int) < (xs.length : Int) := by omega
      obtain ⟨g, off, hA, z1, z2, z3⟩ := HT.out.at hlt
      subst hA
      have z1 := (World.cell?_of_block (a := ⟨g, off + j * 3, none⟩) (hk g rfl)).trans z1
      have z2 := (World.cell?_of_block (a := ⟨g, off + j * 3 + 1, none⟩) (hk g rfl)).trans z2
      have z3 := (World.cell?_of_block (a := ⟨g, off + j * 3 + 2, none⟩) (hk g rfl)).trans z3
      have hpre : xs.take j ++ [xs[j]] = xs.take (j + 1) := by rw [List.take_add_one, List.getElem?_eq_getElem hlt]; rfl
      obtain ⟨x, hx⟩ : ∃ x, xs[j] = x := ⟨_, rfl⟩
      rw [hx] at z1 z2 z3 hpre
      have HPX := Lib.hid hpre
      have hW1 : J (xs.take j) (wr.alloc (.cells #[.string x.key, .string x.value, .bool x.gone] 31)) := hJ _ _ _ hJs ((Only.refl _ wr).alloc _)
      obtain ⟨fn, tmps, assign, body, hy, hR⟩ := hY (xs.take j) x _ (by rw [hpre]; exact List.take_prefix _ _) hW1
      dsimp only [vch] at hy hR
      have hsz : (wr.alloc (.cells #[.string x.key, .string x.value, .bool x.gone] 31)).heap.size = wr.heap.size + 1 := World.size_alloc ..
      have hkw : ∀ k, own (.slice (some ⟨g, off, none⟩) xs.length cap) k → (wr.alloc (.cells #[.string x.key, .string x.value, .bool x.gone] 31)).heap[k]? = W.heap[k]? := fun k hk1 => (Below.heap_alloc _ _ _ (by
        have := (Array.getElem?_eq_some_iff.1 ((hk k hk1).trans (Array.getElem?_eq_getElem (HT.out.row.lt hk1)))).1
        exact this)).trans (hk k hk1)
      have HKW := Lib.hid hkw
      have HHK := Lib.hid hk
      clear hx hpre hsz hkw hk
      gi_wp2_with fail
      refine ⟨fun h => absurd h (by decide), ?_⟩
      refine hR.mono ?_
      rintro e W3 (⟨rfl, hJ3, hk3⟩ | ⟨rfl, hJx3⟩)
      · rw [HPX.out] at hJ3
        have HK3 := Lib.hid hk3
        clear hk3 z1 z2 z3 hJs hW1 hy hR hY
        gi_wp2
        go_roundw
        case rel => exact ⟨j + 1, rfl, hlt, hJ3, fun k hk => (HK3.out k hk).trans (HKW.out k hk)⟩
        case measure =>
          show xs.length - ((j : Int) + 1).toNat < xs.length - ((j : Int)).toNat
          omega
      · gi_wp2
        refine bodyPost_ret (results_none rfl _ _ _) rfl ?_
        exact ⟨⟨_, rfl⟩, .inr ⟨_, hJx3⟩⟩
/-- All: its iterator tells the changes -/
theorem all_seq (n : Nat) (bt : TypeId) (b p : Nat) (v : Value) (xs : List Ch) (hn : xs.length ≤ 100000) (w : World) (c : Nat) (hb : Blk w b bt #[.pointer (some ⟨p, 0, none⟩)]) (ht : Bt w p v xs) :
    SeqC Fence.wide n Try.prog 40 #[.pointer (some ⟨b, 0, none⟩)] (fun x : Ch => #[vch x]) c (own v) xs w := by
  intro l J Jx W hW hJ hJx hY h0
  exact all_in n bt l b c p v xs J Jx hn hJ hY W (hb.below hW) (ht.below hW) h0
set_option maxHeartbeats 1000000 in
theorem all_calls (w : World) (p : Nat) : Calls Try.prog 30 #[.pointer (some ⟨p, 0, none⟩)] w fun e w' =>
    e = .returned (.func (.func 40) #[] #[.pointer (some ⟨w.heap.size, 0, none⟩)]) ∧ ∃ bt, w' = w.alloc (.cells #[.pointer (some ⟨p, 0, none⟩)] bt) := by
  go_enter Try.func30, Try.ntmps30
  go_wp2
  go_ret
  exact ⟨rfl, _, rfl⟩
end Go.Proofs.Ytjcilknfhkpepaa.Bat
