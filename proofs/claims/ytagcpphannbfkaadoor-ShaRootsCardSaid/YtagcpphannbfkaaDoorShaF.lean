/- sha: Sum; the chapter's example; ShaParts. -/
import Derived.Test.YtagcpphannbfkaaDoorShaE
import Derived.Test.YtagcpphannbfkaaDoorBookLight
namespace Go.Proofs.YtagcpphannbfkaaDoor.Sha
open Go.RowKit Go.Proofs.YtagcpphannbfkaaDoor.Mem Go.Proofs.YtagcpphannbfkaaDoor.X Go.Proofs.YtagcpphannbfkaaDoorW.PrintWords Go.Proofs.YtagcpphannbfkaaDoorW.PrintLast Go.Proofs.YtagcpphannbfkaaDoorW.PrintMore Go.Proofs.YtagcpphannbfkaaDoor.Aid
attribute [-simp] Tryd.sizeOf36 Tryd.isAgg36 Tryd.zeroValue36
set_option linter.unusedVariables false
set_option linter.unusedSimpArgs false
theorem eat_fuel : ∀ (f g : Nat) (v : V8) (l : List UInt8), l.length ≤ f → l.length ≤ g → eat f v l = eat g v l
  | 0, 0, _, _, _, _ => rfl
  | 0, g + 1, v, l, h, _ => by rw [eat, eat, if_pos (by omega)]
  | f + 1, 0, v, l, _, h => by rw [eat, eat, if_pos (by omega)]
  | f + 1, g + 1, v, l, h1, h2 => by
    rw [eat, eat]
    by_cases h : l.length < 64
    · rw [if_pos h, if_pos h]
    · rw [if_neg h, if_neg h]
      exact eat_fuel f g _ _ (by rw [List.length_drop]; omega) (by rw [List.length_drop]; omega)
def eatA (v : V8) (l : List UInt8) : V8 × List UInt8 := eat l.length v l
theorem eat_app (b : List UInt8) : ∀ (f : Nat) (v : V8) (a : List UInt8), a.length ≤ f → eatA v (a ++ b) = eatA (eat f v a).1 ((eat f v a).2 ++ b)
  | 0, v, a, h => rfl
  | f + 1, v, a, h => by
    by_cases h64 : a.length < 64
    · rw [eat, if_pos h64]
    · rw [eat, if_neg h64, ← eat_app b f _ _ (by rw [List.length_drop]; omega)]
      unfold eatA
      rw [List.length_append, eat_fuel (a.length + b.length) ((a.length + b.length) + 1) v (a ++ b) (by simp) (by simp), eat, if_neg (by rw [List.length_append]; omega)]
      rw [List.take_append_of_le_length (by omega), List.drop_append_of_le_length (by omega)]
      exact eat_fuel _ _ _ _ (by rw [List.length_append, List.length_drop]; omega) (by rw [List.length_append]; exact Nat.le_refl _)
theorem eat_len : ∀ (f : Nat) (v : V8) (l : List UInt8), (eat f v l).2.length ≤ l.length
  | 0, _, _ => Nat.le_refl _
  | f + 1, v, l => by
    rw [eat]
    split
    · exact Nat.le_refl _
    · have := eat_len f (comp v (l.take 64)) (l.drop 64)
      rw [List.length_drop] at this
      omega
/-- the sum of a text -/
def shaB (l : List UInt8) : List UInt8 := dig (eatA vbegin (l ++ endB l.length)).1
theorem digest_eq (v : V8) (r : List UInt8) (n : Nat) : digest v r n = dig (eatA v (r ++ endB n)).1 := by
  unfold digest eatA
  rw [List.length_append]
/-- a sum under way, of these bytes -/
def HashOf (w : World) (p : Nat) (all : List UInt8) : Prop := ∃ v r, Blk w p 44 (hcells v r all.length) ∧ eatA vbegin all = (v, L r)
theorem HashOf.len {w : World} {p : Nat} {all : List UInt8} (h : HashOf w p all) : p < w.heap.size := by
  obtain ⟨v, r, h, _⟩ := h
  exact h.lt
theorem HashOf.only {w w' : World} {p : Nat} {all : List UInt8} {F : Nat → Prop} (h : HashOf w p all) (ho : Only F w w') (hn : ¬ F p) : HashOf w' p all := by
  obtain ⟨v, r, h, e⟩ := h
  exact ⟨v, r, ho.blk h hn, e⟩
theorem HashOf.below {w w' : World} {p : Nat} {all : List UInt8} (h : HashOf w p all) (hb : Below w.heap.size w w') : HashOf w' p all := h.only (Only.of_below hb none_) id
theorem hash_new (w : World) : HashOf (w.alloc (.cells (hcells vbegin ⟨#[]⟩ 0) 44)) w.heap.size [] := ⟨vbegin, ⟨#[]⟩, Blk.new w _ _, rfl⟩
theorem Tabs.lts {w : World} (h : Tabs w) : 1 < w.heap.size ∧ 0 < w.heap.size :=
  ⟨World.block_lt_of_cell? w _ (h.k 0 (by decide)), World.block_lt_of_cell? w ⟨0, 0, none⟩ (show w.cell? ⟨0, 0, none⟩ = some (.int .u32 (iv vbegin.a)) from h.b 0 (by decide))⟩
theorem hash_write {w : World} {p : Nat} {all : List UInt8} (h : HashOf w p all) (hT : Tabs w) (hp1 : 1 < p) (hp2 : 0 < p) (s : ByteArray) (hn : all.length + s.size ≤ 800000000) :
    Calls Tryd.prog 12 #[.pointer (some ⟨p, 0, none⟩), .string s] w fun e w' => e = .returned (.tuple #[]) ∧ HashOf w' p (all ++ L s) ∧ Only (· = p) w w' := by
  obtain ⟨v, r, hb, he⟩ := h
  have hr : r.size ≤ all.length := by
    have := eat_len all.length vbegin all
    rw [show eat all.length vbegin all = (v, L r) from he] at this
    rw [sz]; exact this
  refine (write_calls w hT hT.lts p hp1 hp2 v r s all.length hb (by omega) (by omega)).mono ?_
  rintro e w' ⟨rfl, hb2, ho⟩
  refine ⟨rfl, ⟨_, _, by rw [List.length_append, ← sz]; exact hb2, ?_⟩, ho⟩
  have := eat_app (L s) all.length vbegin all (Nat.le_refl _)
  rw [show eat all.length vbegin all = (v, L r) from he] at this
  rw [this, L_S]
  simp only
  unfold eatA
  rw [L_app, List.length_append, sz, sz]
theorem hash_sum {w : World} {p : Nat} {all : List UInt8} (h : HashOf w p all) (hT : Tabs w) (hn : all.length ≤ 800000000) :
    Calls Tryd.prog 13 #[.pointer (some ⟨p, 0, none⟩)] w fun e w' => e = .returned (.string (S (shaB all))) ∧ Below w.heap.size w w' := by
  obtain ⟨v, r, hb, he⟩ := h
  have hr : r.size ≤ all.length := by
    have := eat_len all.length vbegin all
    rw [show eat all.length vbegin all = (v, L r) from he] at this
    rw [sz]; exact this
  refine (hsum_calls w hT p v r all.length hb (by omega) (by omega)).mono ?_
  rintro e w' ⟨rfl, hb2⟩
  refine ⟨?_, hb2⟩
  have := eat_app (endB all.length) all.length vbegin all (Nat.le_refl _)
  rw [show eat all.length vbegin all = (v, L r) from he] at this
  rw [digest_eq]
  unfold shaB
  rw [this]
set_option maxHeartbeats 1000000 in
set_option maxRecDepth 100000 in
theorem sum_calls (w : World) (hT : Tabs w) (s : ByteArray) (hs : s.size ≤ 800000000) :
    Calls Tryd.prog 7 #[.string s] w fun e w' => e = .returned (.string (S (shaB (L s)))) ∧ Below w.heap.size w w' := by
  obtain ⟨lk, lb⟩ := hT.lts
  go_enter Tryd.func7, Tryd.ntmps7
  go_wp2_with fail
  refine (new_calls w hT).mono ?_
  rintro e w1 ⟨rfl, rfl⟩
  have h1 := hash_new w
  have b1 : Below w.heap.size w (w.alloc (.cells (hcells vbegin ⟨#[]⟩ 0) 44)) := (Below.refl _ w).alloc (Nat.le_refl _) _
  have hT1 := hT.below b1
  obtain ⟨w1, hw1⟩ : ∃ x, w.alloc (.cells (hcells vbegin ⟨#[]⟩ 0) 44) = x := ⟨_, rfl⟩
  rw [hw1] at h1 b1 hT1 ⊢
  clear hw1
  go_wp2_with fail
  refine (hash_write h1 hT1 lk lb s (by simpa using hs)).mono ?_
  rintro e w2 ⟨rfl, h2, ho2⟩
  have b2 : Below w.heap.size w w2 := ho2.below_mine (fun k e => by rw [e]; exact Nat.le_refl _) b1.size b1
  have hT2 := hT.below b2
  go_wp2_with fail
  refine (hash_sum h2 hT2 (by rw [List.nil_append, ← sz]; exact hs)).mono ?_
  rintro e w3 ⟨rfl, b3⟩
  go_wp2
  go_ret
  exact ⟨rfl, b2.trans (b3.mono b2.size)⟩
theorem shaB_len (l : List UInt8) : (shaB l).length = 32 := by
  unfold shaB dig
  rw [flat_len]
  rfl
theorem abc4 : (shaB [97, 98, 99]).take 4 = [186, 120, 22, 191] := by decide +kernel
theorem abc31 : (shaB [97, 98, 99]).getD 31 0 = 173 := by decide +kernel
set_option maxHeartbeats 1000000 in
set_option maxRecDepth 100000 in
theorem works_calls (w : World) (hT : Tabs w) : Calls Tryd.prog 6 #[] w fun e w' => e = .returned (.bool true) ∧ Below w.heap.size w w' := by
  have h1 := sum_calls w hT ⟨#[97, 98, 99]⟩ (by decide)
  have hL : L (⟨#[97, 98, 99]⟩ : ByteArray) = [97, 98, 99] := rfl
  rw [hL] at h1
  obtain ⟨s, hs⟩ : ∃ s, S (shaB [97, 98, 99]) = s := ⟨_, rfl⟩
  have hz : s.size = 32 := by rw [← hs, sz, L_S, shaB_len]
  have h4 : (s.extract 0 4).toList = [186, 120, 22, 191] := by rw [tl, L_from_start, ← hs, L_S, abc4]
  have h4b : ((s.extract 0 4).toList == ([186, 120, 22, 191] : List UInt8)) = true := by rw [h4]; rfl
  have hx : ∀ h : 31 < s.size, ((s[31]'h).toNat : Int) = 173 := fun h => (bt_at s 31 h).trans (by
    have := btd s 31
    rw [← hs, L_S, abc31] at this
    rw [← hs]
    exact this)
  rw [hs] at h1
  clear hs hL
  go_enter Tryd.func6, Tryd.ntmps6
  go_wp2_with fail
  refine h1.mono ?_
  rintro e w1 ⟨rfl, b1⟩
  have hT1 := hT.below b1
  clear h1
  go_wp2_with fail
  refine (new_calls w1 hT1).mono ?_
  rintro e w2 ⟨rfl, rfl⟩
  have h2 := hash_new w1
  have b2 : Below w.heap.size w (w1.alloc (.cells (hcells vbegin ⟨#[]⟩ 0) 44)) := b1.alloc b1.size _
  have hT2 := hT.below b2
  obtain ⟨w2, hw2⟩ : ∃ x, w1.alloc (.cells (hcells vbegin ⟨#[]⟩ 0) 44) = x := ⟨_, rfl⟩
  rw [hw2] at h2 b2 hT2 ⊢
  clear hw2
  go_wp2_with fail
  refine (hash_sum h2 hT2 (by simp)).mono ?_
  rintro e w3 ⟨rfl, b3⟩
  have b3' := b2.trans (b3.mono b2.size)
  go_wp2_with fail
  refine (sum_calls w3 (hT.below b3') ⟨#[]⟩ (by decide)).mono ?_
  rintro e w4 ⟨rfl, b4⟩
  have hL0 : L (⟨#[]⟩ : ByteArray) = [] := rfl
  simp only [hL0]
  go_wp2
  go_ret
  exact ⟨by simp, b3'.trans (b4.mono b3'.size)⟩
/-- the bytes of the first pieces -/
def upto (l : List ByteArray) (k : Nat) : List UInt8 := ((l.take k).map L).flatten
theorem upto_succ (l : List ByteArray) (k : Nat) (h : k < l.length) : upto l (k + 1) = upto l k ++ L l[k] := by
  unfold upto
  rw [List.take_succ_eq_append_getElem h, List.map_append, List.flatten_append]
  congr 1
  exact List.append_nil _
theorem upto_len (l : List ByteArray) (q : Nat) (hall : ∀ s ∈ l, s.size ≤ q) : ∀ k, k ≤ l.length → (upto l k).length ≤ k * q
  | 0, _ => by simp [upto]
  | k + 1, h => by
    have := upto_len l q hall k (by omega)
    rw [upto_succ l k (by omega), List.length_append]
    have h2 := hall l[k] (List.getElem_mem (by omega))
    rw [sz] at h2
    rw [Nat.add_mul]
    omega
set_option maxHeartbeats 4000000 in
set_option maxRecDepth 100000 in
theorem parts_calls (w : World) (hT : Tabs w) (A : Option Addr) (c : Nat) (l : List ByteArray) (hr : Kd.C Kd.string w A l.length l) (hc : l.length ≤ c) :
    Calls Tryd.prog 5 #[.slice A l.length c] w fun e w' => e = .returned (.bool true) ∧ Below w.heap.size w w' := by
  obtain ⟨lk, lb⟩ := hT.lts
  go_enter Tryd.func5, Tryd.ntmps5
  go_wp2_with fail
  refine (works_calls w hT).mono ?_
  rintro e w1 ⟨rfl, b1⟩
  have hC := Kd.C_below hr b1
  obtain ⟨r, hlight, hcall⟩ := Book.light_calls w1 A c l hC hc 40 200 (by omega)
  go_wp2_with fail
  refine hcall.mono ?_
  rintro e w3 ⟨rfl, n, rfl⟩
  have b3 : Below w.heap.size w (w1.drewN n) := pw_below_drewN b1 n
  obtain ⟨w3, hw3⟩ : ∃ x, w1.drewN n = x := ⟨_, rfl⟩
  rw [hw3] at b3 ⊢
  clear hcall hC hw3
  cases r with
  | false =>
    go_wp2
    go_ret
    exact ⟨rfl, b3⟩
  | true =>
    obtain ⟨hlen, hall⟩ := hlight rfl
    clear hlight
    go_wp2_with fail
    refine (new_calls w3 (hT.below b3)).mono ?_
    rintro e w4 ⟨rfl, rfl⟩
    have h4 := hash_new w3
    have b4 : Below w.heap.size w (w3.alloc (.cells (hcells vbegin ⟨#[]⟩ 0) 44)) := b3.alloc b3.size _
    obtain ⟨w4, hw4⟩ : ∃ x, w3.alloc (.cells (hcells vbegin ⟨#[]⟩ 0) 44) = x := ⟨_, rfl⟩
    have hpw := b3.size
    obtain ⟨p, hp⟩ : ∃ x, w3.heap.size = x := ⟨_, rfl⟩
    simp only [hw4, hp] at h4 b4 hpw ⊢
    clear hw4 hp
    have HT := Lib.hid hT
    clear hT
    go_wp2
    go_loopw [4, 16] (fun a i wr => ∃ (k : Nat) (s : ByteArray), k ≤ l.length ∧ i = .int .i64 k ∧ a = .string s ∧ Hid (L s = upto l k) ∧ HashOf wr p (upto l k) ∧ Below w.heap.size w wr) (fun _ i _ => l.length - (intOf i).toNat)
    case atStart => exact ⟨0, ⟨#[]⟩, Nat.zero_le _, rfl, rfl, Lib.hid rfl, h4, b4⟩
    case round =>
      clear h4 b4 b3 b1
      obtain ⟨k, s, hk, rfl, rfl, HS, h4, b4⟩ := hrel
      have hul := upto_len l 200 hall k hk
      have hul2 : (upto l k).length ≤ 8000 := by have : k * 200 ≤ 40 * 200 := Nat.mul_le_mul_right _ (by omega); omega
      have hss : s.size = (upto l k).length := by rw [sz, HS.out]
      by_cases hlt : k < l.length
      · obtain ⟨ad, hA, hx⟩ := str_at (Kd.C_below hr b4) hlt
        obtain ⟨x, hx2⟩ : ∃ x, l[k] = x := ⟨_, rfl⟩
        have hxz : x.size ≤ 200 := hx2 ▸ hall _ (List.getElem_mem hlt)
        have hus := upto_succ l k hlt
        rw [hx2] at hx hus
        have HUS := Lib.hid hus
        have HX2 := Lib.hid hx2
        subst hA
        have hw := hash_write h4 (HT.out.below b4) (by omega) (by omega) x (by omega)
        rw [← hus] at hw
        have hsx : (s.size : Int) + x.size ≤ 9223372036854775807 := by omega
        have hsl := upto_len l 200 hall (k + 1) hlt
        have hsl2 : (upto l (k + 1)).length ≤ 8000 := by have : (k + 1) * 200 ≤ 40 * 200 := Nat.mul_le_mul_right _ (by omega); omega
        clear hus hx2 hul hsl hss
        go_wp2_with fail
        refine hw.mono ?_
        rintro e w5 ⟨rfl, h5, ho5⟩
        have b5 : Below w.heap.size w w5 := ho5.below_mine (fun q e => by rw [e]; exact hpw) b4.size b4
        have hx5 : w5.cell? (ad.add k) = some (.string x) := by
          obtain ⟨ad', hA', hx5⟩ := str_at (Kd.C_below hr b5) hlt
          cases hA'
          rw [hx5, HX2.out]
        have HSX : Hid (L (s ++ x) = upto l (k + 1)) := Lib.hid (by rw [L_app, HS.out, HUS.out])
        have hsz2 : (s ++ x).size ≤ 8000 := by rw [sz, HSX.out]; exact hsl2
        clear hw h4 b4 hx ho5
        by_cases hm : k % 3 = 1
        · have hmi : decide ((k : Int) % 3 = 1) = true := decide_eq_true (by omega)
          have hmi2 : (((k : Int) % 3) == 1) = true := beq_iff_eq.mpr (by omega)
          go_wp2_with fail
          refine (hash_sum h5 (HT.out.below b5) (by omega)).mono ?_
          rintro e w6 ⟨rfl, b6⟩
          have h6 := h5.below b6
          have b6' := b5.trans (b6.mono b5.size)
          go_wp2_with fail
          refine (sum_calls w6 (HT.out.below b6') (s ++ x) (by omega)).mono ?_
          rintro e w7 ⟨rfl, b7⟩
          have h7 := h6.below b7
          have b7' := b6'.trans (b7.mono b6'.size)
          simp only [HSX.out]
          go_wp2
          go_roundw
          case rel => exact ⟨k + 1, s ++ x, by omega, by go_num, rfl, HSX, h7, b7'⟩
          case measure => simp [intOf]; omega
        · have hmi : decide ((k : Int) % 3 = 1) = false := decide_eq_false (by omega)
          have hmi2 : (((k : Int) % 3) == 1) = false := beq_eq_false_iff_ne.mpr (by omega)
          go_wp2
          go_roundw
          case rel => exact ⟨k + 1, s ++ x, by omega, by go_num, rfl, HSX, h5, b5⟩
          case measure => simp [intOf]; omega
      · go_wp2_with fail
        refine (hash_sum h4 (HT.out.below b4) (by omega)).mono ?_
        rintro e w6 ⟨rfl, b6⟩
        have h6 := h4.below b6
        have b6' := b4.trans (b6.mono b4.size)
        go_wp2_with fail
        refine (sum_calls w6 (HT.out.below b6') s (by omega)).mono ?_
        rintro e w7 ⟨rfl, b7⟩
        have h7 := h6.below b7
        have b7' := b6'.trans (b7.mono b6'.size)
        simp only [HS.out]
        go_wp2_with fail
        obtain ⟨v, rr, hbk, _⟩ := h7
        refine (len_calls w7 p v rr _ hbk).mono ?_
        rintro e w8 ⟨rfl, rfl⟩
        go_wp2
        go_ret
        exact ⟨by simp [hss], b7'⟩
end Go.Proofs.YtagcpphannbfkaaDoor.Sha
