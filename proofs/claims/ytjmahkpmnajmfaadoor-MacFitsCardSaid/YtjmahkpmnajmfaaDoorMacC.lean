/- mac: Same, Sum, Short, Fits; the chapter's example. -/
import Derived.Test.YtjmahkpmnajmfaaDoorMacB
namespace Go.Proofs.YtjmahkpmnajmfaaDoor.Mac
open Go.RowKit Go.Proofs.YtjmahkpmnajmfaaDoor.Mem Go.Proofs.YtjmahkpmnajmfaaDoor.X Go.Proofs.YtjmahkpmnajmfaaDoorW.PrintWords Go.Proofs.YtjmahkpmnajmfaaDoorW.PrintLast Go.Proofs.YtjmahkpmnajmfaaDoorW.PrintMore Go.Proofs.YtjmahkpmnajmfaaDoor.Aid Go.Proofs.YtjmahkpmnajmfaaDoor.Sha
set_option linter.unusedVariables false
set_option linter.unusedSimpArgs false
theorem or_u8 (x c : UInt8) : Go.bits .or .u8 (x.toNat : Int) (c.toNat : Int) = ((x ||| c).toNat : Int) := by
  show IntKind.u8.wrap ((BitVec.ofInt 8 (x.toNat : Int) ||| BitVec.ofInt 8 (c.toNat : Int)).toNat : Int) = _
  rw [BitVec.ofInt_natCast, BitVec.ofInt_natCast]
  have h1 : BitVec.ofNat 8 x.toNat = x.toBitVec := by apply BitVec.eq_of_toNat_eq; simp
  have h2 : BitVec.ofNat 8 c.toNat = c.toBitVec := by apply BitVec.eq_of_toNat_eq; simp
  rw [h1, h2, ← UInt8.toBitVec_or]
  show IntKind.u8.wrap (((x ||| c).toNat : Nat) : Int) = _
  obtain ⟨n, hn⟩ : ∃ n, (x ||| c).toNat = n := ⟨_, rfl⟩
  have h3 : (x ||| c).toNat < 256 := (x ||| c).toNat_lt
  rw [hn] at h3 ⊢
  simp [IntKind.wrap, IntKind.bits, IntKind.signed]
  omega
theorem same_l0 (a b : ByteArray) (hab : a.size = b.size) (hb : a.size ≤ 4611686018427387903) : ∀ (r i : Nat), i + r = a.size → ∀ x : UInt8,
    Ev (fun k => mac_Same.l0 k a b (x.toNat : Int) (a.size : Int) (i : Int)) (decide (x = 0) && decide ((L a).drop i = (L b).drop i))
  | 0, i, h, x => by
    refine up (neg (by omega) (now' ?_))
    have h1 : (L a).drop i = [] := List.drop_eq_nil_of_le (by rw [← sz]; omega)
    have h2 : (L b).drop i = [] := List.drop_eq_nil_of_le (by rw [← sz]; omega)
    rw [h1, h2, Bool.eq_iff_iff]
    simp only [beq_iff_eq, Bool.and_eq_true, decide_eq_true_eq, and_true]
    rw [← UInt8.toNat_inj]
    have : (0 : UInt8).toNat = 0 := rfl
    rw [this]
    omega
  | r + 1, i, h, x => by
    refine up (pos (by omega) (pos (by omega) (pos (by omega) (pos (by omega) ?_))))
    have ha : i < (L a).length := by rw [← sz]; omega
    have hb' : i < (L b).length := by rw [← sz]; omega
    rw [btn a i ha, btn b i hb', xor_u8, or_u8, wi i (by omega)]
    have ih := same_l0 a b hab hb r (i + 1) (by omega) (x ||| ((L a)[i] ^^^ (L b)[i]))
    have e : (decide (x = 0) && decide ((L a).drop i = (L b).drop i)) = (decide (x ||| ((L a)[i] ^^^ (L b)[i]) = 0) && decide ((L a).drop (i + 1) = (L b).drop (i + 1))) := by
      rw [List.drop_eq_getElem_cons ha, List.drop_eq_getElem_cons hb', Bool.eq_iff_iff]
      simp only [Bool.and_eq_true, decide_eq_true_eq, UInt8.or_eq_zero_iff, UInt8.xor_eq_zero_iff, List.cons.injEq]
      constructor
      · rintro ⟨h1, h2, h3⟩; exact ⟨⟨h1, h2⟩, h3⟩
      · rintro ⟨⟨h1, h2⟩, h3⟩; exact ⟨h1, h2, h3⟩
    rw [e]
    exact ih
theorem same_ev (a b : ByteArray) (hb : a.size ≤ 4611686018427387903) : Ev (fun k => mac_Same.f k a b) (decide (a = b)) := by
  unfold mac_Same.f
  by_cases h : a.size = b.size
  · refine pos (by omega) ?_
    have := same_l0 a b h hb a.size 0 (by omega) 0
    have e : (decide ((0 : UInt8) = 0) && decide ((L a).drop 0 = (L b).drop 0)) = decide (a = b) := by
      rw [List.drop_zero, List.drop_zero, Bool.eq_iff_iff]
      simp only [Bool.and_eq_true, decide_eq_true_eq, true_and]
      exact ⟨fun h => L_inj h, fun h => by rw [h]⟩
    rw [e] at this
    exact this
  · refine neg (by omega) (now' ?_)
    symm
    rw [decide_eq_false_iff_not]
    intro e
    exact h (by rw [e])
theorem same_calls (w : World) (a b : ByteArray) (hb : a.size ≤ 4611686018427387903) :
    Calls Tryd.prog 11 #[.string a, .string b] w fun e w' => e = .returned (.bool (decide (a = b))) ∧ Below w.heap.size w w' := by
  obtain ⟨k, hk⟩ := Ev.rounds (same_ev a b hb)
  refine (mac_Same.calls k a b _ w hk).mono ?_
  rintro e w' ⟨rfl, h⟩
  obtain ⟨q, rfl⟩ := h.out
  exact ⟨rfl, pw_below_drewN (Below.refl _ w) q⟩
set_option maxHeartbeats 1000000 in
set_option maxRecDepth 100000 in
theorem msum_calls (w : World) (hT : Tabs w) (k s : ByteArray) (hk : k.size ≤ 100000000) (hs : s.size ≤ 100000000) :
    Calls Tryd.prog 9 #[.string k, .string s] w fun e w' => e = .returned (.string (S (macB (L k) (L s)))) ∧ Below w.heap.size w w' := by
  go_enter Tryd.func9, Tryd.ntmps9
  go_wp2_with fail
  have hp := pad_calls w hT k 92 hk
  refine hp.mono ?_
  rintro e w1 ⟨rfl, b1⟩
  go_wp2_with fail
  have hp := pad_calls w1 (hT.below b1) k 54 hk
  refine hp.mono ?_
  rintro e w2 ⟨rfl, b2⟩
  have b2' := b1.trans (b2.mono b1.size)
  obtain ⟨p1, hp1⟩ : ∃ x, S (padB (L k) 92) = x := ⟨_, rfl⟩
  obtain ⟨p2, hp2⟩ : ∃ x, S (padB (L k) 54) = x := ⟨_, rfl⟩
  have hz1 : p1.size = 64 := by rw [← hp1, sz, L_S, padB_len]
  have hz2 : p2.size = 64 := by rw [← hp2, sz, L_S, padB_len]
  have hn : (p2.size : Int) + s.size ≤ 9223372036854775807 := by omega
  simp only [hp1, hp2]
  have HP1 := Lib.hid hp1
  have HP2 := Lib.hid hp2
  clear hp hp1 hp2
  go_wp2_with fail
  refine (sum_calls w2 (hT.below b2') (p2 ++ s) (by rw [ByteArray.size_append]; omega)).mono ?_
  rintro e w3 ⟨rfl, b3⟩
  have b3' := b2'.trans (b3.mono b2'.size)
  obtain ⟨p3, hp3⟩ : ∃ x, S (shaB (L (p2 ++ s))) = x := ⟨_, rfl⟩
  have hz3 : p3.size = 32 := by rw [← hp3, sz, L_S, shaB_len]
  have hn3 : (p1.size : Int) + p3.size ≤ 9223372036854775807 := by omega
  simp only [hp3]
  have HP3 := Lib.hid hp3
  clear hp3
  go_wp2_with fail
  refine (sum_calls w3 (hT.below b3') (p1 ++ p3) (by rw [ByteArray.size_append]; omega)).mono ?_
  rintro e w4 ⟨rfl, b4⟩
  go_wp2
  go_ret
  refine ⟨?_, b3'.trans (b4.mono b3'.size)⟩
  show Ending.returned (.string (S (shaB (L p1 ++ L p3)))) = _
  unfold macB
  rw [← HP3.out, L_S, L_app, ← HP1.out, ← HP2.out, L_S, L_S]
def shortB (k s : List UInt8) (n : Int) : ByteArray × Int := if n < 1 ∨ 32 < n then (⟨#[]⟩, 1) else (S ((macB k s).take n.toNat), 0)
set_option maxHeartbeats 1000000 in
set_option maxRecDepth 100000 in
theorem short_calls (w : World) (hT : Tabs w) (k s : ByteArray) (n : Int) (hk : k.size ≤ 100000000) (hs : s.size ≤ 100000000) :
    Calls Tryd.prog 8 #[.string k, .string s, .int .i64 n] w fun e w' => e = .returned (.tuple #[.string (shortB (L k) (L s) n).1, .int .i64 (shortB (L k) (L s) n).2]) ∧ Below w.heap.size w w' := by
  go_enter Tryd.func8, Tryd.ntmps8
  by_cases h1 : n < 1
  · have hb : shortB (L k) (L s) n = (⟨#[]⟩, 1) := if_pos (.inl h1)
    rw [hb]
    go_wp2
    go_ret2
    exact ⟨rfl, Below.refl _ w⟩
  · by_cases h2 : 32 < n
    · have hb : shortB (L k) (L s) n = (⟨#[]⟩, 1) := if_pos (.inr h2)
      rw [hb]
      go_wp2
      go_ret2
      exact ⟨rfl, Below.refl _ w⟩
    · have hb : shortB (L k) (L s) n = (S ((macB (L k) (L s)).take n.toNat), 0) := if_neg (by omega)
      rw [hb]
      obtain ⟨m, rfl⟩ : ∃ m : Nat, n = m := ⟨n.toNat, by omega⟩
      go_wp2_with fail
      refine (msum_calls w hT k s hk hs).mono ?_
      rintro e w1 ⟨rfl, b1⟩
      obtain ⟨p, hp⟩ : ∃ x, S (macB (L k) (L s)) = x := ⟨_, rfl⟩
      have hz : p.size = 32 := by rw [← hp, sz, L_S, macB_len]
      simp only [hp]
      have HP := Lib.hid hp
      have HE : Hid (p.extract 0 m = S ((macB (L k) (L s)).take ((m : Int).toNat))) := Lib.hid (by apply L_inj; rw [L_from_start, L_S, ← hp, L_S]; rfl)
      have hm : m ≤ p.size := by omega
      clear hp hb
      go_wp2
      go_ret2
      refine ⟨?_, b1⟩
      show Ending.returned (.tuple #[.string (p.extract 0 m), .int .i64 0]) = _
      rw [HE.out, Int.toNat_natCast]
def fitsB (k s t : List UInt8) : Bool := decide (1 ≤ t.length ∧ t.length ≤ 32 ∧ (macB k s).take t.length = t)
set_option maxHeartbeats 1000000 in
set_option maxRecDepth 100000 in
theorem fits_calls (w : World) (hT : Tabs w) (k s t : ByteArray) (hk : k.size ≤ 100000000) (hs : s.size ≤ 100000000) :
    Calls Tryd.prog 10 #[.string k, .string s, .string t] w fun e w' => e = .returned (.bool (fitsB (L k) (L s) (L t))) ∧ Below w.heap.size w w' := by
  go_enter Tryd.func10, Tryd.ntmps10
  go_wp2_with fail
  refine (short_calls w hT k s _ hk hs).mono ?_
  rintro e w1 ⟨rfl, b1⟩
  by_cases h : 1 ≤ t.size ∧ t.size ≤ 32
  · have hb : shortB (L k) (L s) (t.size : Int) = (S ((macB (L k) (L s)).take t.size), 0) := if_neg (by omega)
    rw [hb]
    obtain ⟨p, hp⟩ : ∃ x, S ((macB (L k) (L s)).take t.size) = x := ⟨_, rfl⟩
    have hz : p.size = t.size := by rw [← hp, sz, L_S, List.length_take, macB_len]; omega
    simp only [hp]
    have HP := Lib.hid hp
    have hpz : p.size ≤ 4611686018427387903 := by omega
    clear hp hb
    go_wp2_with fail
    refine (same_calls w1 p t hpz).mono ?_
    rintro e w2 ⟨rfl, b2⟩
    go_wp2
    go_ret
    refine ⟨?_, b1.trans (b2.mono b1.size)⟩
    show Ending.returned (.bool (decide (p = t))) = _
    unfold fitsB
    rw [← sz]
    congr 2
    rw [decide_eq_decide]
    rw [← HP.out]
    constructor
    · intro e
      refine ⟨h.1, h.2, ?_⟩
      have e2 := congrArg L e
      rw [L_S] at e2
      exact e2
    · rintro ⟨_, _, e⟩
      rw [e, S_L]
  · have hb : shortB (L k) (L s) (t.size : Int) = (⟨#[]⟩, 1) := if_pos (by omega)
    rw [hb]
    go_wp2
    go_ret
    refine ⟨?_, b1⟩
    show Ending.returned (.bool false) = _
    unfold fitsB
    rw [← sz, decide_eq_false (by rintro ⟨h1, h2, _⟩; exact h ⟨h1, h2⟩)]
set_option maxHeartbeats 1000000 in
set_option maxRecDepth 100000 in
theorem mworks_calls (w : World) (hT : Tabs w) : Calls Tryd.prog 6 #[] w fun e w' => e = .returned (.bool true) ∧ Below w.heap.size w w' := by
  have h1 := msum_calls w hT ⟨#[74, 101, 102, 101]⟩ ⟨#[119, 104, 97, 116, 32, 100, 111, 32, 121, 97, 32, 119, 97, 110, 116, 32, 102, 111, 114, 32, 110, 111, 116, 104, 105, 110, 103, 63]⟩ (by decide) (by decide)
  have hL : L (⟨#[74, 101, 102, 101]⟩ : ByteArray) = jefe := rfl
  have hM : L (⟨#[119, 104, 97, 116, 32, 100, 111, 32, 121, 97, 32, 119, 97, 110, 116, 32, 102, 111, 114, 32, 110, 111, 116, 104, 105, 110, 103, 63]⟩ : ByteArray) = ask := rfl
  rw [hL, hM] at h1
  obtain ⟨s, hs⟩ : ∃ s, S (macB jefe ask) = s := ⟨_, rfl⟩
  have hz : s.size = 32 := by rw [← hs, sz, L_S, macB_len]
  have h4 : (s.extract 0 4).toList = [91, 220, 193, 70] := by rw [tl, L_from_start, ← hs, L_S, jefe4]
  have h4b : ((s.extract 0 4).toList == ([91, 220, 193, 70] : List UInt8)) = true := by rw [h4]; rfl
  have hx : ∀ h : 31 < s.size, ((s[31]'h).toNat : Int) = 67 := fun h => (bt_at s 31 h).trans (by
    have := btd s 31
    rw [← hs, L_S, jefe31] at this
    rw [← hs]
    exact this)
  rw [hs] at h1
  clear hs hL hM
  go_enter Tryd.func6, Tryd.ntmps6
  go_wp2_with fail
  refine h1.mono ?_
  rintro e w1 ⟨rfl, b1⟩
  clear h1
  go_wp2_with fail
  refine (same_calls w1 ⟨#[97]⟩ ⟨#[97]⟩ (by decide)).mono ?_
  rintro e w2 ⟨rfl, b2⟩
  have b2' := b1.trans (b2.mono b1.size)
  have hd : decide ((⟨#[97]⟩ : ByteArray) = ⟨#[97]⟩) = true := rfl
  simp only [hd]
  go_wp2_with fail
  refine (same_calls w2 ⟨#[97]⟩ ⟨#[98]⟩ (by decide)).mono ?_
  rintro e w3 ⟨rfl, b3⟩
  have hd2 : decide ((⟨#[97]⟩ : ByteArray) = ⟨#[98]⟩) = false := rfl
  simp only [hd2]
  go_wp2
  go_ret
  exact ⟨by simp, b2'.trans (b3.mono b2'.size)⟩
end Go.Proofs.YtjmahkpmnajmfaaDoor.Mac
