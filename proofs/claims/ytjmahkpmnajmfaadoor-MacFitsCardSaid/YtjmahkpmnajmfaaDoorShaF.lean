/- sha: Sum; the chapter's example; ShaParts. -/
import Derived.Test.YtjmahkpmnajmfaaDoorShaE
namespace Go.Proofs.YtjmahkpmnajmfaaDoor.Sha
open Go.RowKit Go.Proofs.YtjmahkpmnajmfaaDoor.Mem Go.Proofs.YtjmahkpmnajmfaaDoor.X Go.Proofs.YtjmahkpmnajmfaaDoorW.PrintWords Go.Proofs.YtjmahkpmnajmfaaDoorW.PrintLast Go.Proofs.YtjmahkpmnajmfaaDoorW.PrintMore Go.Proofs.YtjmahkpmnajmfaaDoor.Aid
attribute [-simp] Tryd.sizeOf36 Tryd.isAgg36 Tryd.zeroValue36
set_option linter.unusedVariables false
set_option linter.unusedSimpArgs false
theorem eat_fuel : ∀ (f g : Nat) (v : V8) (l : List UInt8), l.length ≤ f → l.length ≤ g → eat f v l = eat g v l
  | 0, 0, _, _, _, _ => rfl
  | 0, g + 1, v, l, h, _ => by rw [eat, eat, if_pos (by omega)]
  | f + 1, 0, v, l, _, h => by rw [eat, eat, if_pos (by omega)]
  | f + 1, g + 1, v, l, h1, h2 => by
    rw [eat, eat]
    by_cases h : l.length < 64
    · rw [if_pos h, if_pos h]
    · rw [if_neg h, if_neg h]
      exact eat_fuel f g _ _ (by rw [List.length_drop]; omega) (by rw [List.length_drop]; omega)
def eatA (v : V8) (l : List UInt8) : V8 × List UInt8 := eat l.length v l
theorem eat_app (b : List UInt8) : ∀ (f : Nat) (v : V8) (a : List UInt8), a.length ≤ f → eatA v (a ++ b) = eatA (eat f v a).1 ((eat f v a).2 ++ b)
  | 0, v, a, h => rfl
  | f + 1, v, a, h => by
    by_cases h64 : a.length < 64
    · rw [eat, if_pos h64]
    · rw [eat, if_neg h64, ← eat_app b f _ _ (by rw [List.length_drop]; omega)]
      unfold eatA
      rw [List.length_append, eat_fuel (a.length + b.length) ((a.length + b.length) + 1) v (a ++ b) (by simp) (by simp), eat, if_neg (by rw [List.length_append]; omega)]
      rw [List.take_append_of_le_length (by omega), List.drop_append_of_le_length (by omega)]
      exact eat_fuel _ _ _ _ (by rw [List.length_append, List.length_drop]; omega) (by rw [List.length_append]; exact Nat.le_refl _)
theorem eat_len : ∀ (f : Nat) (v : V8) (l : List UInt8), (eat f v l).2.length ≤ l.length
  | 0, _, _ => Nat.le_refl _
  | f + 1, v, l => by
    rw [eat]
    split
    · exact Nat.le_refl _
    · have := eat_len f (comp v (l.take 64)) (l.drop 64)
      rw [List.length_drop] at this
      omega
/-- the sum of a text -/
def shaB (l : List UInt8) : List UInt8 := dig (eatA vbegin (l ++ endB l.length)).1
theorem digest_eq (v : V8) (r : List UInt8) (n : Nat) : digest v r n = dig (eatA v (r ++ endB n)).1 := by
  unfold digest eatA
  rw [List.length_append]
/-- a sum under way, of these bytes -/
def HashOf (w : World) (p : Nat) (all : List UInt8) : Prop := ∃ v r, Blk w p 48 (hcells v r all.length) ∧ eatA vbegin all = (v, L r)
theorem HashOf.len {w : World} {p : Nat} {all : List UInt8} (h : HashOf w p all) : p < w.heap.size := by
  obtain ⟨v, r, h, _⟩ := h
  exact h.lt
theorem HashOf.only {w w' : World} {p : Nat} {all : List UInt8} {F : Nat → Prop} (h : HashOf w p all) (ho : Only F w w') (hn : ¬ F p) : HashOf w' p all := by
  obtain ⟨v, r, h, e⟩ := h
  exact ⟨v, r, ho.blk h hn, e⟩
theorem HashOf.below {w w' : World} {p : Nat} {all : List UInt8} (h : HashOf w p all) (hb : Below w.heap.size w w') : HashOf w' p all := h.only (Only.of_below hb none_) id
theorem hash_new (w : World) : HashOf (w.alloc (.cells (hcells vbegin ⟨#[]⟩ 0) 48)) w.heap.size [] := ⟨vbegin, ⟨#[]⟩, Blk.new w _ _, rfl⟩
theorem Tabs.lts {w : World} (h : Tabs w) : 1 < w.heap.size ∧ 0 < w.heap.size :=
  ⟨World.block_lt_of_cell? w _ (h.k 0 (by decide)), World.block_lt_of_cell? w ⟨0, 0, none⟩ (show w.cell? ⟨0, 0, none⟩ = some (.int .u32 (iv vbegin.a)) from h.b 0 (by decide))⟩
theorem hash_write {w : World} {p : Nat} {all : List UInt8} (h : HashOf w p all) (hT : Tabs w) (hp1 : 1 < p) (hp2 : 0 < p) (s : ByteArray) (hn : all.length + s.size ≤ 800000000) :
    Calls Tryd.prog 21 #[.pointer (some ⟨p, 0, none⟩), .string s] w fun e w' => e = .returned (.tuple #[]) ∧ HashOf w' p (all ++ L s) ∧ Only (· = p) w w' := by
  obtain ⟨v, r, hb, he⟩ := h
  have hr : r.size ≤ all.length := by
    have := eat_len all.length vbegin all
    rw [show eat all.length vbegin all = (v, L r) from he] at this
    rw [sz]; exact this
  refine (write_calls w hT hT.lts p hp1 hp2 v r s all.length hb (by omega) (by omega)).mono ?_
  rintro e w' ⟨rfl, hb2, ho⟩
  refine ⟨rfl, ⟨_, _, by rw [List.length_append, ← sz]; exact hb2, ?_⟩, ho⟩
  have := eat_app (L s) all.length vbegin all (Nat.le_refl _)
  rw [show eat all.length vbegin all = (v, L r) from he] at this
  rw [this, L_S]
  simp only
  unfold eatA
  rw [L_app, List.length_append, sz, sz]
theorem hash_sum {w : World} {p : Nat} {all : List UInt8} (h : HashOf w p all) (hT : Tabs w) (hn : all.length ≤ 800000000) :
    Calls Tryd.prog 22 #[.pointer (some ⟨p, 0, none⟩)] w fun e w' => e = .returned (.string (S (shaB all))) ∧ Below w.heap.size w w' := by
  obtain ⟨v, r, hb, he⟩ := h
  have hr : r.size ≤ all.length := by
    have := eat_len all.length vbegin all
    rw [show eat all.length vbegin all = (v, L r) from he] at this
    rw [sz]; exact this
  refine (hsum_calls w hT p v r all.length hb (by omega) (by omega)).mono ?_
  rintro e w' ⟨rfl, hb2⟩
  refine ⟨?_, hb2⟩
  have := eat_app (endB all.length) all.length vbegin all (Nat.le_refl _)
  rw [show eat all.length vbegin all = (v, L r) from he] at this
  rw [digest_eq]
  unfold shaB
  rw [this]
set_option maxHeartbeats 1000000 in
set_option maxRecDepth 100000 in
theorem sum_calls (w : World) (hT : Tabs w) (s : ByteArray) (hs : s.size ≤ 800000000) :
    Calls Tryd.prog 14 #[.string s] w fun e w' => e = .returned (.string (S (shaB (L s)))) ∧ Below w.heap.size w w' := by
  obtain ⟨lk, lb⟩ := hT.lts
  go_enter Tryd.func14, Tryd.ntmps14
  go_wp2_with fail
  refine (new_calls w hT).mono ?_
  rintro e w1 ⟨rfl, rfl⟩
  have h1 := hash_new w
  have b1 : Below w.heap.size w (w.alloc (.cells (hcells vbegin ⟨#[]⟩ 0) 48)) := (Below.refl _ w).alloc (Nat.le_refl _) _
  have hT1 := hT.below b1
  obtain ⟨w1, hw1⟩ : ∃ x, w.alloc (.cells (hcells vbegin ⟨#[]⟩ 0) 48) = x := ⟨_, rfl⟩
  rw [hw1] at h1 b1 hT1 ⊢
  clear hw1
  go_wp2_with fail
  refine (hash_write h1 hT1 lk lb s (by simpa using hs)).mono ?_
  rintro e w2 ⟨rfl, h2, ho2⟩
  have b2 : Below w.heap.size w w2 := ho2.below_mine (fun k e => by rw [e]; exact Nat.le_refl _) b1.size b1
  have hT2 := hT.below b2
  go_wp2_with fail
  refine (hash_sum h2 hT2 (by rw [List.nil_append, ← sz]; exact hs)).mono ?_
  rintro e w3 ⟨rfl, b3⟩
  go_wp2
  go_ret
  exact ⟨rfl, b2.trans (b3.mono b2.size)⟩
theorem shaB_len (l : List UInt8) : (shaB l).length = 32 := by
  unfold shaB dig
  rw [flat_len]
  rfl
end Go.Proofs.YtjmahkpmnajmfaaDoor.Sha
