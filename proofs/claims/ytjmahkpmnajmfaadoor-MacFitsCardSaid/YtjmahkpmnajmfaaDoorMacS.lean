/- mac: the reference's Sum; MacSums, MacFits, walked. -/
import Derived.Test.YtjmahkpmnajmfaaDoorMacR
namespace Go.Proofs.YtjmahkpmnajmfaaDoor.Mac
open Go.RowKit Go.Proofs.YtjmahkpmnajmfaaDoor.Mem Go.Proofs.YtjmahkpmnajmfaaDoor.X Go.Proofs.YtjmahkpmnajmfaaDoorW.PrintWords Go.Proofs.YtjmahkpmnajmfaaDoorW.PrintLast Go.Proofs.YtjmahkpmnajmfaaDoorW.PrintMore Go.Proofs.YtjmahkpmnajmfaaDoor.Aid Go.Proofs.YtjmahkpmnajmfaaDoor.Sha
set_option linter.unusedVariables false
set_option linter.unusedSimpArgs false
set_option maxHeartbeats 1000000 in
set_option maxRecDepth 100000 in
theorem refsum_calls (w : World) (k s : ByteArray) (hk : k.size ≤ 1000) (hs : s.size ≤ 100000) :
    Calls Tryd.prog 7 #[.string k, .string s] w fun e w' => e = .returned (.string (S (macB (L k) (L s)))) ∧ Below w.heap.size w w' := by
  go_enter Tryd.func7, Tryd.ntmps7
  go_wp2_with fail
  have hp := block_calls w k 92 hk
  refine hp.mono ?_
  rintro e w1 ⟨rfl, b1⟩
  go_wp2_with fail
  have hp := block_calls w1 k 54 hk
  refine hp.mono ?_
  rintro e w2 ⟨rfl, b2⟩
  have b2' := b1.trans (b2.mono b1.size)
  obtain ⟨p1, hp1⟩ : ∃ x, S (padB (L k) 92) = x := ⟨_, rfl⟩
  obtain ⟨p2, hp2⟩ : ∃ x, S (padB (L k) 54) = x := ⟨_, rfl⟩
  have hz1 : p1.size = 64 := by rw [← hp1, sz, L_S, padB_len]
  have hz2 : p2.size = 64 := by rw [← hp2, sz, L_S, padB_len]
  have hn : (p2.size : Int) + s.size ≤ 9223372036854775807 := by omega
  simp only [hp1, hp2]
  have HP1 := Lib.hid hp1
  have HP2 := Lib.hid hp2
  clear hp hp1 hp2
  go_wp2_with fail
  refine (rsum_calls w2 (p2 ++ s) (by rw [ByteArray.size_append]; omega)).mono ?_
  rintro e w3 ⟨rfl, b3⟩
  have b3' := b2'.trans (b3.mono b2'.size)
  obtain ⟨p3, hp3⟩ : ∃ x, S (shaB (L (p2 ++ s))) = x := ⟨_, rfl⟩
  have hz3 : p3.size = 32 := by rw [← hp3, sz, L_S, shaB_len]
  have hn3 : (p1.size : Int) + p3.size ≤ 9223372036854775807 := by omega
  simp only [hp3]
  have HP3 := Lib.hid hp3
  clear hp3
  go_wp2_with fail
  refine (rsum_calls w3 (p1 ++ p3) (by rw [ByteArray.size_append]; omega)).mono ?_
  rintro e w4 ⟨rfl, b4⟩
  go_wp2
  go_ret
  refine ⟨?_, b3'.trans (b4.mono b3'.size)⟩
  show Ending.returned (.string (S (shaB (L p1 ++ L p3)))) = _
  unfold macB
  rw [← HP3.out, L_S, L_app, ← HP1.out, ← HP2.out, L_S, L_S]
set_option maxHeartbeats 4000000 in
set_option maxRecDepth 100000 in
theorem sums_calls (w : World) (hT : Tabs w) (k s : ByteArray) (n : Int) :
    Calls Tryd.prog 3 #[.string k, .string s, .int .i64 n] w fun e w' => e = .returned (.bool true) ∧ Below w.heap.size w w' := by
  go_enter Tryd.func3, Tryd.ntmps3
  by_cases h1 : (200 : Int) < (k.size : Int)
  · go_wp2_with fail
    refine (mworks_calls w hT).mono ?_
    rintro e w1 ⟨rfl, b1⟩
    go_wp2
    go_ret
    exact ⟨rfl, b1⟩
  by_cases h2 : (200 : Int) < (s.size : Int)
  · go_wp2_with fail
    refine (mworks_calls w hT).mono ?_
    rintro e w1 ⟨rfl, b1⟩
    go_wp2
    go_ret
    exact ⟨rfl, b1⟩
  have d1 : decide ((200 : Int) < (k.size : Int)) = false := decide_eq_false h1
  have d2 : decide ((200 : Int) < (s.size : Int)) = false := decide_eq_false h2
  go_wp2_with fail
  refine (refsum_calls w k s (by omega) (by omega)).mono ?_
  rintro e w1 ⟨rfl, b1⟩
  obtain ⟨p, hp⟩ : ∃ x, S (macB (L k) (L s)) = x := ⟨_, rfl⟩
  have hz : p.size = 32 := by rw [← hp, sz, L_S, macB_len]
  simp only [hp]
  have HP := Lib.hid hp
  clear hp
  go_wp2_with fail
  refine (short_calls w1 (hT.below b1) k s n (by omega) (by omega)).mono ?_
  rintro e w2 ⟨rfl, b2⟩
  have b2' := b1.trans (b2.mono b1.size)
  have hpp : (p.toList == p.toList) = true := beq_iff_eq.mpr rfl
  by_cases hb : n < 1 ∨ 32 < n
  · have hsb : shortB (L k) (L s) n = (⟨#[]⟩, 1) := if_pos hb
    rw [hsb]
    rcases hb with h3 | h3
    all_goals
      go_wp2_with fail
      refine (msum_calls w2 (hT.below b2') k s (by omega) (by omega)).mono ?_
      rintro e w3 ⟨rfl, b3⟩
      have b3' := b2'.trans (b3.mono b2'.size)
      rw [HP.out]
      go_wp2_with fail
      refine (mworks_calls w3 (hT.below b3')).mono ?_
      rintro e w4 ⟨rfl, b4⟩
      go_wp2
      go_ret
      exact ⟨by first | rfl | simp, b3'.trans (b4.mono b3'.size)⟩
  · have hsb : shortB (L k) (L s) n = (S ((macB (L k) (L s)).take n.toNat), 0) := if_neg hb
    have h3 : ¬ n < 1 := by omega
    have h4 : ¬ 32 < n := by omega
    obtain ⟨m, rfl⟩ : ∃ m : Nat, n = m := ⟨n.toNat, by omega⟩
    have hm : m ≤ p.size := by omega
    have he : S ((macB (L k) (L s)).take ((m : Int).toNat)) = p.extract 0 m := by
      apply L_inj
      rw [L_S, L_from_start, ← HP.out, L_S]
      rfl
    rw [hsb, he]
    clear hsb he hb
    have hee : ((p.extract 0 m).toList == (p.extract 0 m).toList) = true := beq_iff_eq.mpr rfl
    go_wp2_with fail
    refine (msum_calls w2 (hT.below b2') k s (by omega) (by omega)).mono ?_
    rintro e w3 ⟨rfl, b3⟩
    have b3' := b2'.trans (b3.mono b2'.size)
    rw [HP.out]
    go_wp2_with fail
    refine (mworks_calls w3 (hT.below b3')).mono ?_
    rintro e w4 ⟨rfl, b4⟩
    go_wp2
    go_ret
    exact ⟨by first | rfl | simp, b3'.trans (b4.mono b3'.size)⟩
set_option maxHeartbeats 4000000 in
set_option maxRecDepth 100000 in
theorem mfits_calls (w : World) (hT : Tabs w) (k s t : ByteArray) :
    Calls Tryd.prog 4 #[.string k, .string s, .string t] w fun e w' => e = .returned (.bool true) ∧ Below w.heap.size w w' := by
  go_enter Tryd.func4, Tryd.ntmps4
  by_cases h1 : (200 : Int) < (k.size : Int)
  · go_wp2_with fail
    refine (mworks_calls w hT).mono ?_
    rintro e w1 ⟨rfl, b1⟩
    go_wp2
    go_ret
    exact ⟨rfl, b1⟩
  by_cases h2 : (200 : Int) < (s.size : Int)
  · go_wp2_with fail
    refine (mworks_calls w hT).mono ?_
    rintro e w1 ⟨rfl, b1⟩
    go_wp2
    go_ret
    exact ⟨rfl, b1⟩
  by_cases h3 : (200 : Int) < (t.size : Int)
  · go_wp2_with fail
    refine (mworks_calls w hT).mono ?_
    rintro e w1 ⟨rfl, b1⟩
    go_wp2
    go_ret
    exact ⟨rfl, b1⟩
  have hst : s.size ≤ 4611686018427387903 := by omega
  have hss : (s.toList == s.toList) = true := beq_iff_eq.mpr rfl
  have hsd : (s.toList == t.toList) = decide (s = t) := beq_L s t
  have hself : decide (s = s) = true := decide_eq_true rfl
  by_cases hb : 1 ≤ t.size ∧ t.size ≤ 32
  · have h4 : (1 : Int) ≤ (t.size : Int) := by omega
    have h5 : (t.size : Int) ≤ 32 := by omega
    go_wp2_with fail
    refine (refsum_calls w k s (by omega) (by omega)).mono ?_
    rintro e w1 ⟨rfl, b1⟩
    obtain ⟨p, hp⟩ : ∃ x, S (macB (L k) (L s)) = x := ⟨_, rfl⟩
    have hz : p.size = 32 := by rw [← hp, sz, L_S, macB_len]
    simp only [hp]
    have hmin : min (t.size : Int) 32 = (t.size : Int) := by omega
    have hee : ((p.extract 0 t.size).toList == t.toList) = fitsB (L k) (L s) (L t) := by
      rw [beq_L, fitsB, ← sz, decide_eq_decide]
      constructor
      · intro e
        refine ⟨hb.1, hb.2, ?_⟩
        have e2 := congrArg L e
        rw [L_from_start, ← hp, L_S] at e2
        exact e2
      · rintro ⟨_, _, e⟩
        apply L_inj
        rw [L_from_start, ← hp, L_S, e]
    have HP := Lib.hid hp
    clear hp
    go_wp2_with fail
    refine (fits_calls w1 (hT.below b1) k s t (by omega) (by omega)).mono ?_
    rintro e w2 ⟨rfl, b2⟩
    have b2' := b1.trans (b2.mono b1.size)
    obtain ⟨f, hf⟩ : ∃ f, fitsB (L k) (L s) (L t) = f := ⟨_, rfl⟩
    obtain ⟨d, hd⟩ : ∃ d, decide (s = t) = d := ⟨_, rfl⟩
    simp only [hf, hd] at hsd ⊢
    have HD := Lib.hid hd
    have hff : (f == f) = true := by cases f <;> rfl
    have hdd : (d == d) = true := by cases d <;> rfl
    clear hself hd
    go_wp2_with fail
    refine (same_calls w2 s t hst).mono ?_
    rintro e w3 ⟨rfl, b3⟩
    have b3' := b2'.trans (b3.mono b2'.size)
    rw [HD.out]
    go_wp2_with fail
    refine (same_calls w3 s s hst).mono ?_
    rintro e w4 ⟨rfl, b4⟩
    have b4' := b3'.trans (b4.mono b3'.size)
    rw [decide_eq_true rfl]
    go_wp2_with fail
    refine (mworks_calls w4 (hT.below b4')).mono ?_
    rintro e w5 ⟨rfl, b5⟩
    go_wp2
    go_ret
    exact ⟨by first | rfl | simp, b4'.trans (b5.mono b4'.size)⟩
  · have hF : fitsB (L k) (L s) (L t) = false := by
      unfold fitsB
      rw [← sz, decide_eq_false_iff_not]
      rintro ⟨h, h', _⟩
      exact hb ⟨h, h'⟩
    have b0 := Below.refl w.heap.size w
    rcases (show t.size = 0 ∨ 32 < t.size by omega) with h4 | h4
    all_goals
      by_cases h5 : (1 : Int) ≤ (t.size : Int)
      all_goals by_cases h6 : (t.size : Int) ≤ 32
      all_goals try omega
    all_goals
      go_wp2_with fail
      refine (fits_calls w hT k s t (by omega) (by omega)).mono ?_
      rintro e w2 ⟨rfl, b2⟩
      rw [hF]
      obtain ⟨d, hd⟩ : ∃ d, decide (s = t) = d := ⟨_, rfl⟩
      simp only [hd] at hsd ⊢
      have HD := Lib.hid hd
      have hdd : (d == d) = true := by cases d <;> rfl
      clear hself hd
      go_wp2_with fail
      refine (same_calls w2 s t hst).mono ?_
      rintro e w3 ⟨rfl, b3⟩
      have b3' := b2.trans (b3.mono b2.size)
      rw [HD.out]
      go_wp2_with fail
      refine (same_calls w3 s s hst).mono ?_
      rintro e w4 ⟨rfl, b4⟩
      have b4' := b3'.trans (b4.mono b3'.size)
      rw [decide_eq_true rfl]
      go_wp2_with fail
      refine (mworks_calls w4 (hT.below b4')).mono ?_
      rintro e w5 ⟨rfl, b5⟩
      go_wp2
      go_ret
      exact ⟨by first | rfl | simp, b4'.trans (b5.mono b4'.size)⟩
end Go.Proofs.YtjmahkpmnajmfaaDoor.Mac
