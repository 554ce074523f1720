/- mac: MacKeys, walked. -/
import Derived.Test.YtjmahkpmnajmfaaDoorMacC
namespace Go.Proofs.YtjmahkpmnajmfaaDoor.Mac
open Go.RowKit Go.Proofs.YtjmahkpmnajmfaaDoor.Mem Go.Proofs.YtjmahkpmnajmfaaDoor.X Go.Proofs.YtjmahkpmnajmfaaDoorW.PrintWords Go.Proofs.YtjmahkpmnajmfaaDoorW.PrintLast Go.Proofs.YtjmahkpmnajmfaaDoorW.PrintMore Go.Proofs.YtjmahkpmnajmfaaDoor.Aid Go.Proofs.YtjmahkpmnajmfaaDoor.Sha
set_option linter.unusedVariables false
set_option linter.unusedSimpArgs false
theorem info_u8' : (Tryd.prog.info? 5).map (fun i => (i.zero, i.size, i.bytes)) = some (some (.int .u8 0), 1, 1) := by kernel_rfl
theorem fitsB_take (k s : List UInt8) (i : Nat) (h1 : 1 ≤ i) (h2 : i ≤ 32) : fitsB k s ((macB k s).take i) = true := by
  unfold fitsB
  have := macB_len k s
  rw [decide_eq_true_eq, List.length_take, this, Nat.min_eq_left h2]
  exact ⟨h1, h2, rfl⟩
set_option maxHeartbeats 4000000 in
set_option maxRecDepth 100000 in
theorem keys_calls (w : World) (hT : Tabs w) (k s : ByteArray) (n : Int) :
    Calls Tryd.prog 5 #[.string k, .string s, .int .i64 n] w fun e w' => e = .returned (.bool true) ∧ Below w.heap.size w w' := by
  go_enter Tryd.func5, Tryd.ntmps5
  go_wp2_with fail
  refine (mworks_calls w hT).mono ?_
  rintro e w1 ⟨rfl, b1⟩
  by_cases h1 : (64 : Int) < (k.size : Int)
  · go_wp2
    go_ret
    exact ⟨rfl, b1⟩
  by_cases h2 : (200 : Int) < (s.size : Int)
  · go_wp2
    go_ret
    exact ⟨rfl, b1⟩
  by_cases h3 : n < 0
  · go_wp2
    go_ret
    exact ⟨rfl, b1⟩
  have hsub : IntKind.i64.wrap (64 - (k.size : Int)) = 64 - (k.size : Int) := by
    rw [i64_w, w64 (by omega) (by omega)]
  by_cases h4 : 64 - (k.size : Int) < n
  · go_wp2
    go_ret
    exact ⟨rfl, b1⟩
  obtain ⟨m, rfl⟩ : ∃ m : Nat, n = m := ⟨n.toNat, by omega⟩
  go_wp2_with fail
  refine (msum_calls w1 (hT.below b1) k s (by omega) (by omega)).mono ?_
  rintro e w2 ⟨rfl, b2⟩
  have b2' := b1.trans (b2.mono b1.size)
  obtain ⟨i0, hi, hz0, hz1, hz2⟩ := info_parts info_u8'
  have hmk := run_make_sl (P := Tryd.prog) 30 5 i0 (.int .u8 0) Tryd.underlying30 hi hz0 .i64 .i64 m (by rw [hz2]; omega) (by omega) w2
  obtain ⟨p, hp⟩ : ∃ x, S (macB (L k) (L s)) = x := ⟨_, rfl⟩
  have hz : p.size = 32 := by rw [← hp, sz, L_S, macB_len]
  simp only [hp]
  have HP := Lib.hid hp
  clear hp
  have hB := Blk.new w2 5 (madeCells #[Value.int .u8 0] m)
  have hcv := run_convert_bytes_back (P := Tryd.prog) (w2.alloc (.cells (madeCells #[Value.int .u8 0] m) 5)) 30 9 5 ⟨w2.heap.size, 0, none⟩ m (noughts m) Tryd.underlying30 Tryd.underlying5 Tryd.underlying9 (fun j hj => by
    have hadd : (⟨w2.heap.size, 0, none⟩ : Addr).add j = ⟨w2.heap.size, j, none⟩ := by unfold Addr.add; split <;> simp_all
    have hjm : j < m := by simpa [noughts] using hj
    rw [hadd, hB.cell j, madeCells_one, Array.getElem?_replicate, if_pos hjm]
    simp [noughts])
  have hnl : (noughts m).length = m := by simp [noughts]
  rw [hnl] at hcv
  have b3 : Below w.heap.size w (w2.alloc (.cells (madeCells #[Value.int .u8 0] m) 5)) := b2'.alloc b2'.size _
  obtain ⟨w3, hw3⟩ : ∃ x, w2.alloc (.cells (madeCells #[Value.int .u8 0] m) 5) = x := ⟨_, rfl⟩
  have hmk2 : (Value.int .u8 0).cells = #[Value.int .u8 0] := rfl
  rw [hz1, Nat.mul_one, hmk2, hw3] at hmk
  rw [hw3] at hcv b3
  have hzs : (k.size : Int) + ((⟨(noughts m).toArray⟩ : ByteArray).size : Int) ≤ 9223372036854775807 := by
    have : (⟨(noughts m).toArray⟩ : ByteArray).size = m := by show (noughts m).toArray.size = m; simp [noughts]
    rw [this]; omega
  clear hB hmk2 hw3 hi hz0 hz1 hz2
  go_wp2_with fail
  have hkl : k.size + m ≤ 64 := by omega
  obtain ⟨q, hq⟩ : ∃ q, k ++ (⟨(noughts m).toArray⟩ : ByteArray) = q := ⟨_, rfl⟩
  have hqL : L q = L k ++ List.replicate m 0 := by rw [← hq, L_app]; simp [L, noughts]
  have hqz : q.size ≤ 64 := by rw [sz, hqL, List.length_append, List.length_replicate, ← sz]; exact hkl
  simp only [hq]
  refine (msum_calls w3 (hT.below b3) q s (by omega) (by omega)).mono ?_
  rintro e w4 ⟨rfl, b4⟩
  have b4' := b3.trans (b4.mono b3.size)
  rw [hqL, macB_noughts (L k) (L s) m (by rw [← sz]; exact hkl), HP.out]
  clear hmk hcv hq hqL hqz hzs
  have hpp : (p.toList == p.toList) = true := beq_iff_eq.mpr rfl
  go_wp2_with fail
  clear b1 b2 b2' b3 b4 h1 h2 h3 h4 hpp
  go_loopw [8] (fun i wr => ∃ t : Nat, 1 ≤ t ∧ t ≤ 33 ∧ i = .int .i64 t ∧ Below w.heap.size w wr) (fun i _ => 64 - (intOf i).toNat)
  case atStart => exact ⟨1, by omega, by omega, rfl, b4'⟩
  case round =>
    clear b4'
    obtain ⟨t, ht1, ht, rfl, hb⟩ := hrel
    by_cases hlt : t ≤ 32
    · have htp : t ≤ p.size := by omega
      have hti : (t : Int) ≤ 32 := by omega
      go_wp2_with fail
      refine (fits_calls wr (hT.below hb) k s (p.extract 0 t) (by omega) (by omega)).mono ?_
      rintro e w5 ⟨rfl, b5⟩
      have hb5 := hb.trans (b5.mono hb.size)
      have he : fitsB (L k) (L s) (L (p.extract 0 t)) = true := by
        rw [L_from_start, ← HP.out, L_S]
        exact fitsB_take _ _ t ht1 hlt
      simp only [he]
      clear hb b5 he
      go_wp2
      go_roundw
      case rel => exact ⟨t + 1, by omega, by omega, by go_num, hb5⟩
      case measure => simp [intOf]; omega
    · have hti : ¬ (t : Int) ≤ 32 := by omega
      go_wp2_with fail
      refine (fits_calls wr (hT.below hb) k s ⟨#[]⟩ (by omega) (by omega)).mono ?_
      rintro e w5 ⟨rfl, b5⟩
      have hb5 := hb.trans (b5.mono hb.size)
      have he : fitsB (L k) (L s) (L (⟨#[]⟩ : ByteArray)) = false := by
        unfold fitsB
        rw [decide_eq_false_iff_not]
        rintro ⟨h, _⟩
        simp [L] at h
      simp only [he]
      have hz2 : (p.size : Int) + 1 ≤ 9223372036854775807 := by omega
      clear hb b5 he
      go_wp2_with fail
      obtain ⟨q, hq⟩ : ∃ q : ByteArray, p ++ (⟨#[97]⟩ : ByteArray) = q := ⟨_, rfl⟩
      have hqz : q.size = 33 := by rw [← hq, ByteArray.size_append, hz]; rfl
      simp only [hq]
      clear hq
      refine (fits_calls w5 (hT.below hb5) k s q (by omega) (by omega)).mono ?_
      rintro e w6 ⟨rfl, b6⟩
      have hb6 := hb5.trans (b6.mono hb5.size)
      have he : fitsB (L k) (L s) (L q) = false := by
        unfold fitsB
        rw [decide_eq_false_iff_not]
        rintro ⟨_, h, _⟩
        rw [← sz] at h
        omega
      simp only [he]
      go_wp2
      go_ret
      exact ⟨rfl, hb6⟩
end Go.Proofs.YtjmahkpmnajmfaaDoor.Mac
