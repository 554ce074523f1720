/- the reference's sum: padded. -/
import Derived.Test.YtjmahkpmnajmfaaDoorShaR2
namespace Go.Proofs.YtjmahkpmnajmfaaDoor.Sha
open Go.RowKit Go.Proofs.YtjmahkpmnajmfaaDoor.Mem Go.Proofs.YtjmahkpmnajmfaaDoor.X Go.Proofs.YtjmahkpmnajmfaaDoorW.PrintWords Go.Proofs.YtjmahkpmnajmfaaDoorW.PrintLast Go.Proofs.YtjmahkpmnajmfaaDoorW.PrintMore Go.Proofs.YtjmahkpmnajmfaaDoor.Aid
set_option linter.unusedVariables false
set_option linter.unusedSimpArgs false
def slen : Value → Nat
  | .slice _ n _ => n
  | _ => 0
theorem sizeB_take (n k : Nat) (h : k < 8) : (sizeB n).take (k + 1) = (sizeB n).take k ++ [UInt8.ofNat (n * 8 / 256 ^ (7 - k))] := by
  have hc : k = 0 ∨ k = 1 ∨ k = 2 ∨ k = 3 ∨ k = 4 ∨ k = 5 ∨ k = 6 ∨ k = 7 := by omega
  rcases hc with rfl | rfl | rfl | rfl | rfl | rfl | rfl | rfl <;> simp [sizeB]
theorem pow_step (N j : Nat) (h0 : 0 < j) (h : j ≤ 7) : N / 256 ^ (7 - j) / 256 = N / 256 ^ (7 - (j - 1)) := by
  rw [Nat.div_div_eq_div_mul, ← Nat.pow_succ, show (7 - j).succ = 7 - (j - 1) by omega]
theorem nz_at (n m : Nat) (h : m ≤ nz n) : (n + 1 + m) % 64 = 56 ↔ m = nz n := by
  unfold nz at *; omega
set_option maxHeartbeats 4000000 in
set_option maxRecDepth 100000 in
theorem padded_calls (w : World) (s : ByteArray) (hs : s.size ≤ 1000000) :
    Calls Tryd.prog 18 #[.string s] w fun e w' => e = .returned (.string (S (L s ++ endB s.size))) ∧ Below w.heap.size w w' := by
  have hz64 : nz s.size < 64 := by unfold nz; omega
  have hconv := run_bytes_of_string (P := Tryd.prog) w 9 30 5 s Tryd.underlying9 Tryd.underlying30 Tryd.underlying5
  have hR := Rw.conv w w.heap.size s (Nat.le_refl _)
  have hb1 : Below w.heap.size w (w.drew.alloc (.cells (bytesRow s (grownCap w s.size 0 5)) 5 ((bytesRow s (grownCap w s.size 0 5)).size, (bytesRow s (grownCap w s.size 0 5)).size + 1))) := (Below.refl _ w).drew.alloc (Nat.le_refl _) _
  obtain ⟨w1, hw1⟩ : ∃ x, (w.drew.alloc (.cells (bytesRow s (grownCap w s.size 0 5)) 5 ((bytesRow s (grownCap w s.size 0 5)).size, (bytesRow s (grownCap w s.size 0 5)).size + 1))) = x := ⟨_, rfl⟩
  rw [hw1] at hconv hR hb1
  obtain ⟨cap, hcap⟩ : ∃ x, grownCap w s.size 0 5 = x := ⟨_, rfl⟩
  rw [hcap] at hconv hR
  clear hw1 hcap
  have hR2 : Rw (w1.alloc (.cells #[.int .u8 128] 5)) w.heap.size (.slice (some ⟨w.heap.size, 0, none⟩) s.size cap) (L s) := hR.below ((Below.refl _ w1).alloc (Nat.le_refl _) _)
  have hc2 : (w1.alloc (.cells #[.int .u8 128] 5)).cell? ⟨w1.heap.size, 0, none⟩ = some (bv 128) := ((Blk.new w1 5 #[.int .u8 128]).cell 0).trans rfl
  have hs1 := hb1.size
  have hb2 : Below w.heap.size w (w1.alloc (.cells #[.int .u8 128] 5)) := hb1.alloc hs1 _
  have hlen : (L s).length = s.size := (sz s).symm
  go_enter Tryd.func18, Tryd.ntmps18
  go_wp2_with (at_builtin; refine wpList_append_rw rfl (.tmp 10) (.tmp 11) rfl _ rfl (L s) w.heap.size hR2 128 w1.heap.size rfl hc2 hb2 (by rw [World.size_alloc]; omega) (by omega) ?_)
  intro v2 w2 hR3 hb3 hs3
  clear hR2 hc2 hb2 hconv hR hb1
  go_wp2
  have hbase : w.heap.size ≤ w2.heap.size := hs3
  obtain ⟨B, hB⟩ : ∃ x, w.heap.size = x := ⟨_, rfl⟩
  have HB := Lib.hid hB
  simp only [hB] at hR3 hb3 hbase
  clear hs3 hs1
  go_loopw [3] (fun v wr => ∃ m : Nat, m ≤ nz s.size ∧ Rw wr B v (L s ++ 128 :: List.replicate m 0) ∧ Below B w wr ∧ B ≤ wr.heap.size) (fun v _ => s.size + 70 - slen v)
  case atStart => exact ⟨0, Nat.zero_le _, hR3, hb3, hbase⟩
  case round =>
    clear hR3 hb3 hbase hB
    obtain ⟨m, hm, hR, hb, hbs⟩ := hrel
    have hll : (L s ++ 128 :: List.replicate m 0).length = s.size + 1 + m := by
      simp only [List.length_append, List.length_cons, List.length_replicate, hlen]; omega
    have HR := Lib.hid hR
    obtain ⟨g, off, cap2, rfl, _⟩ := hR
    rw [hll] at HR ⊢
    have HNZ := nz_at s.size m hm
    obtain ⟨N, hN⟩ : ∃ N, s.size + 1 + m = N := ⟨_, rfl⟩
    rw [hN] at HR HNZ ⊢
    have hNb : N ≤ 2000000 := by omega
    have HNN := Lib.hid hN
    have HLL : Hid ((L s ++ 128 :: List.replicate m 0).length = N) := Lib.hid (by rw [hll, hN])
    have HML : Hid (m ≤ nz s.size) := Lib.hid hm
    by_cases h56 : N % 64 = 56
    · have hme : m = nz s.size := HNZ.1 h56
      have hq : decide ((N : Int) % 64 = 56) = true := decide_eq_true (by omega)
      have hq2 : (((N : Int) % 64) == 56) = true := beq_iff_eq.mpr (by omega)
      have hbu : ∃ k : Nat, k ≤ 8 ∧ (0 : Int) = (k : Int) ∧ Rw wr B (.slice (some ⟨g, off, none⟩) N cap2) (L s ++ 128 :: List.replicate (nz s.size) 0 ++ (sizeB s.size).take k) := ⟨0, by omega, rfl, by rw [← hme]; simpa using HR.out⟩
      have HBU := Lib.hid hbu
      clear hbu HNZ hm hll hN hme
      go_wp2
      obtain ⟨Z, hZ⟩ : ∃ Z, s.size * 8 = Z := ⟨_, rfl⟩
      have hZi : (s.size : Int) * 8 = (Z : Int) := by omega
      have hZb : Z ≤ 8000000 := by omega
      have HZ := Lib.hid hZ
      have hq3 : ((N : Int) % 64 != 56) = false := by simp only [bne, hq2]; rfl
      simp only [hZi, hq3]
      obtain ⟨pre, hpre⟩ : ∃ pre, L s ++ 128 :: List.replicate (nz s.size) 0 = pre := ⟨_, rfl⟩
      have hpl : pre.length ≤ 2000000 := by
        rw [← hpre]
        simp only [List.length_append, List.length_cons, List.length_replicate, hlen]; omega
      have HPRE := Lib.hid hpre
      have HPL := Lib.hid hpl
      simp only [hpre] at HBU
      clear hZ hZi hpre hpl hq hq2 hq3 h56 HR HLL
      go_loopw [3, 5] (fun v i wq => ∃ k : Nat, k ≤ 8 ∧ i = .int .i64 k ∧ Rw wq B v (pre ++ (sizeB s.size).take k) ∧ Below B w wq ∧ B ≤ wq.heap.size) (fun _ i _ => 8 - (intOf i).toNat)
      case atStart =>
        obtain ⟨k, hk, hk0, hRk⟩ := HBU.out
        exact ⟨k, hk, by rw [hk0], hRk, hb, hbs⟩
      case round =>
        clear HBU hb hbs
        obtain ⟨k, hk, rfl, hR, hb, hbs⟩ := hrel
        have HRR := Lib.hid hR
        obtain ⟨g3, off3, cap3, rfl, _⟩ := hR
        obtain ⟨n3, hn3⟩ : ∃ n, (pre ++ (sizeB s.size).take k).length = n := ⟨_, rfl⟩
        rw [hn3] at HRR ⊢
        have hR := HRR.out
        clear hn3 HRR
        by_cases hlt : k < 8
        · have hki : (k : Int) < 8 := by omega
          go_wp2
          go_loopw [6, 7] (fun pv jv wq => ∃ j : Nat, k ≤ j ∧ j ≤ 7 ∧ jv = .int .i64 j ∧ pv = .int .u64 ((Z / 256 ^ (7 - j) : Nat) : Int) ∧ Rw wq B (.slice (some ⟨g3, off3, none⟩) n3 cap3) (pre ++ (sizeB s.size).take k) ∧ Below B w wq ∧ B ≤ wq.heap.size) (fun _ jv _ => (intOf jv).toNat - k)
          case atStart => exact ⟨7, by omega, by omega, rfl, by simp, hR, hb, hbs⟩
          case round =>
            clear hR hb hbs
            obtain ⟨j, hj1, hj2, rfl, rfl, hR, hb, hbs⟩ := hrel
            have hPb : Z / 256 ^ (7 - j) ≤ 8000000 := Nat.le_trans (Nat.div_le_self _ _) hZb
            by_cases hjk : k < j
            · have HPS := Lib.hid (pow_step Z j (by omega) hj2)
              obtain ⟨P, hP⟩ : ∃ P, Z / 256 ^ (7 - j) = P := ⟨_, rfl⟩
              rw [hP] at hPb HPS ⊢
              have hji : (k : Int) < (j : Int) := by omega
              clear hP
              go_wp2
              go_roundw
              case rel => exact ⟨j - 1, by omega, by omega, by go_num, by rw [← HPS.out]; go_num, hR, hb, hbs⟩
              case measure => simp [intOf]; omega
            · have hje : j = k := by omega
              subst hje
              have HST := Lib.hid (sizeB_take s.size j hlt)
              simp only [HZ.out] at HST
              obtain ⟨P, hP⟩ : ∃ P, Z / 256 ^ (7 - j) = P := ⟨_, rfl⟩
              rw [hP] at hPb HST ⊢
              have hji : ¬ ((j : Int) < (j : Int)) := by omega
              have hll : (pre ++ (sizeB s.size).take j).length ≤ 3000000 := by
                have : ((sizeB s.size).take j).length ≤ 8 := by
                  rw [List.length_take]; exact Nat.le_trans (Nat.min_le_left _ _) hk
                have := HPL.out
                rw [List.length_append]; omega
              have HLL := Lib.hid hll
              have hR2 : Rw (wr.alloc (.cells #[.int .u8 ((P : Int) % 256)] 5)) B (.slice (some ⟨g3, off3, none⟩) n3 cap3) (pre ++ (sizeB s.size).take j) := hR.below ((Below.refl _ wr).alloc (Nat.le_refl _) _)
              have hcv : Value.int .u8 ((P : Int) % 256) = bv (UInt8.ofNat P) := by
                unfold bv; rw [UInt8.toNat_ofNat']; norm_cast
              have hc2 : (wr.alloc (.cells #[.int .u8 ((P : Int) % 256)] 5)).cell? ⟨wr.heap.size, 0, none⟩ = some (bv (UInt8.ofNat P)) := by
                rw [← hcv]; exact ((Blk.new wr 5 #[.int .u8 ((P : Int) % 256)]).cell 0).trans rfl
              have hb2 : Below B w (wr.alloc (.cells #[.int .u8 ((P : Int) % 256)] 5)) := hb.alloc hbs _
              clear hP hll hcv
              go_wp2_with (at_builtin; refine wpList_append_rw rfl (.tmp 36) (.tmp 40) rfl _ rfl (pre ++ (sizeB s.size).take j) B hR2 (UInt8.ofNat P) wr.heap.size rfl hc2 hb2 (by rw [World.size_alloc]; omega) (by have := HLL.out; omega) ?_)
              intro v4 w4 hR4 hb4 hs4
              clear hR2 hc2 hb2 hR hb hbs
              simp only [List.append_assoc, ← HST.out] at hR4
              go_wp2
              go_roundw
              case rel => exact ⟨j + 1, by omega, by go_num, hR4, hb4, hs4⟩
              case measure => simp [intOf]; omega
        · have hk8 : k = 8 := by omega
          have hki : ¬ ((k : Int) < 8) := by omega
          have hst := hR.str
          have e : pre ++ (sizeB s.size).take k = L s ++ endB s.size := by
            rw [hk8, ← HPRE.out, List.take_of_length_le (by simp [sizeB])]
            unfold endB
            simp
          rw [e] at hst
          clear e hk8 hlt hk hR
          go_wp2
          go_ret
          rw [← HB.out] at hb
          exact ⟨rfl, hb⟩
    · have hq : decide ((N : Int) % 64 = 56) = false := decide_eq_false (by omega)
      have hq2 : (((N : Int) % 64) == 56) = false := beq_eq_false_iff_ne.mpr (by omega)
      have hmlt : m + 1 ≤ nz s.size := by
        have : ¬ m = nz s.size := fun e => h56 (HNZ.2 e)
        omega
      have hR2 : Rw (wr.alloc (.cells #[.int .u8 0] 5)) B (.slice (some ⟨g, off, none⟩) N cap2) (L s ++ 128 :: List.replicate m 0) := HR.out.below ((Below.refl _ wr).alloc (Nat.le_refl _) _)
      have hc2 : (wr.alloc (.cells #[.int .u8 0] 5)).cell? ⟨wr.heap.size, 0, none⟩ = some (bv 0) := ((Blk.new wr 5 #[.int .u8 0]).cell 0).trans rfl
      have hb2 : Below B w (wr.alloc (.cells #[.int .u8 0] 5)) := hb.alloc hbs _
      clear HNZ hm hll hN
      go_wp2_with (at_builtin; refine wpList_append_rw rfl (.tmp 17) (.tmp 18) rfl _ rfl (L s ++ 128 :: List.replicate m 0) B hR2 0 wr.heap.size rfl hc2 hb2 (by rw [World.size_alloc]; omega) (by rw [HLL.out]; omega) ?_)
      intro v2 w2 hR3 hb3 hs3
      clear hR2 hc2 hb2
      go_wp2
      go_roundw
      case rel => exact ⟨m + 1, hmlt, by
        rw [List.replicate_succ']; simpa using hR3, hb3, hs3⟩
      case measure =>
        obtain ⟨_, _, _, rfl, _⟩ := hR3
        have := HLL.out
        simp [slen] at this ⊢
        omega
end Go.Proofs.YtjmahkpmnajmfaaDoor.Sha
