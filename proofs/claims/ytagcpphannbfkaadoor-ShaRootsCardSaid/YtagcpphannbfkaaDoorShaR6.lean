/- ByRoots, walked. -/
import Derived.Test.YtagcpphannbfkaaDoorShaR4
import Derived.Test.YtagcpphannbfkaaDoorShaT
namespace Go.Proofs.YtagcpphannbfkaaDoor.Sha
open Go.RowKit Go.Proofs.YtagcpphannbfkaaDoor.Mem Go.Proofs.YtagcpphannbfkaaDoor.X Go.Proofs.YtagcpphannbfkaaDoorW.PrintWords Go.Proofs.YtagcpphannbfkaaDoorW.PrintLast Go.Proofs.YtagcpphannbfkaaDoorW.PrintMore Go.Proofs.YtagcpphannbfkaaDoor.Aid
attribute [-simp] Tryd.sizeOf36 Tryd.isAgg36 Tryd.zeroValue36
set_option linter.unusedVariables false
set_option linter.unusedSimpArgs false
theorem prime_q (w : World) (n i : Nat) (hi : i < 64) : Calls Tryd.prog 20 #[.int .i64 (i : Int)] (w.drewN n) fun e w' => e = .returned (.int .u64 (primes.getD i 0)) ∧ ∃ m, w' = w.drewN m :=
  Calls.quiet_of ((bulletinref03_prime.calls 6000 (i : Int) _ (w.drewN n) (primes_ok i hi)).mono fun e w' h => ⟨h.1, h.2.out⟩)
theorem rootc_q (w : World) (n i : Nat) (hi : i < 64) : Calls Tryd.prog 19 #[.int .u64 (primes.getD i 0), .bool true] (w.drewN n) fun e w' => e = .returned (.int .u32 (iv (kc.getD i 0#32))) ∧ ∃ m, w' = w.drewN m :=
  Calls.quiet_of ((bulletinref03_root.calls 60 _ true _ (w.drewN n) (cubes_ok i hi)).mono fun e w' h => ⟨h.1, h.2.out⟩)
theorem roots_q (w : World) (n i : Nat) (hi : i < 8) : Calls Tryd.prog 19 #[.int .u64 (primes.getD i 0), .bool false] (w.drewN n) fun e w' => e = .returned (.int .u32 (iv ((words8 vbegin).getD i 0#32))) ∧ ∃ m, w' = w.drewN m :=
  Calls.quiet_of ((bulletinref03_root.calls 60 _ false _ (w.drewN n) (squares_ok i hi)).mono fun e w' h => ⟨h.1, h.2.out⟩)
set_option maxHeartbeats 4000000 in
set_option maxRecDepth 100000 in
theorem byroots_calls (w : World) :
    Calls Tryd.prog 9 #[] w fun e w' => e = .returned (.bool true) ∧ Below w.heap.size w w' := by
  go_enter Tryd.func9, Tryd.ntmps9
  go_wp2_with fail
  refine (rBegin_calls w).mono ?_
  rintro e w1 ⟨rfl, b1⟩
  have hs1 := b1.size
  have HI8 : Hid ((Tryd.prog.info? 34).map (·.size) = some (cells8 vbegin).size) := Lib.hid (by show _ = some 8; kernel_rfl)
  have HO8 : Hid ((cells8 vbegin).all (·.oneCell') = true) := Lib.hid (by simp [cells8, Value.oneCell'])
  have HTH : Hid ((w1.alloc (.cells zero8 34)).there w1.heap.size 0 (cells8 vbegin).size) := Lib.hid (there_blk (Blk.new w1 34 zero8) (Nat.le_refl 8))
  have HV : Hid (Blk ((w1.alloc (.cells zero8 34)).setCells w1.heap.size 0 (cells8 vbegin).toList) w1.heap.size 34 (cells8 vbegin)) := Lib.hid (blk_whole (Blk.new w1 34 zero8) rfl)
  have b2 : Below w.heap.size w ((w1.alloc (.cells zero8 34)).setCells w1.heap.size 0 (cells8 vbegin).toList) := below_cells (b1.alloc hs1 _) hs1
  have hsz2 : ((w1.alloc (.cells zero8 34)).setCells w1.heap.size 0 (cells8 vbegin).toList).heap.size = w1.heap.size + 1 := by rw [setCells_size]; simp
  obtain ⟨cs, hcs⟩ : ∃ cs, cells8 vbegin = cs := ⟨_, rfl⟩
  have HCS := Lib.hid hcs
  simp only [hcs] at HI8 HO8 HTH HV b2 hsz2 ⊢
  clear hcs
  go_wp2_with (refine wpList_store_mid rfl 34 (.tmp 1) (.tmp 4) rfl w1.heap.size 0 cs rfl rfl HTH.out HI8.out HO8.out ?_)
  have hV := HV.out
  obtain ⟨w2, hw2⟩ : ∃ x, (w1.alloc (.cells zero8 34)).setCells w1.heap.size 0 cs.toList = x := ⟨_, rfl⟩
  obtain ⟨pv, hpv⟩ : ∃ x, w1.heap.size = x := ⟨_, rfl⟩
  have hbpv : w.heap.size ≤ pv := by omega
  have e8 : (#[Value.int .u32 0, .int .u32 0, .int .u32 0, .int .u32 0, .int .u32 0, .int .u32 0, .int .u32 0, .int .u32 0] : Array Value) = zero8 := rfl
  simp only [e8]
  simp only [hw2] at hV b2 hsz2 ⊢
  simp only [hpv] at hV hsz2 ⊢
  clear HV HTH b1 hs1 hw2 hpv e8
  refine (rConst_calls w2).mono ?_
  rintro e w3 ⟨rfl, b3⟩
  have hs3 := b3.size
  have hV3 := hV.below b3
  have b3' := b2.trans (b3.mono (by omega))
  have HSZ : Hid ((Tryd.prog.info? 36).map (·.size) = some (arr kc).size) := Lib.hid (by show _ = some 64; kernel_rfl)
  have HONE := Lib.hid (arr_one kc)
  have HTH : Hid ((w3.alloc (.cells (arr []) 36)).there w3.heap.size 0 (arr kc).size) := Lib.hid (there_blk (Blk.new w3 36 (arr [])) (Nat.le_refl 64))
  have HK : Hid (Blk ((w3.alloc (.cells (arr []) 36)).setCells w3.heap.size 0 (arr kc).toList) w3.heap.size 36 (arr kc)) := Lib.hid (blk_whole (Blk.new w3 36 (arr [])) (by rw [arr_size kc (by decide), arr_size [] (by decide)]))
  have hV4 : Blk ((w3.alloc (.cells (arr []) 36)).setCells w3.heap.size 0 (arr kc).toList) pv 34 cs := blk_whole_far (hV3.alloc _) (Nat.ne_of_lt hV3.lt) _ _
  have b4 : Below w.heap.size w ((w3.alloc (.cells (arr []) 36)).setCells w3.heap.size 0 (arr kc).toList) := below_cells (b3'.alloc (by omega) _) (by omega)
  have hsz4 : ((w3.alloc (.cells (arr []) 36)).setCells w3.heap.size 0 (arr kc).toList).heap.size = w3.heap.size + 1 := by rw [setCells_size]; simp
  obtain ⟨K, hK⟩ : ∃ K, arr kc = K := ⟨_, rfl⟩
  have HKK := Lib.hid hK
  simp only [hK] at HSZ HONE HTH HK hV4 b4 hsz4 ⊢
  have hz := fun w => zero64 w
  clear hK b3 b3' hV3 b2 hV
  go_wp2_with (refine wpList_store_mid rfl 36 (.tmp 2) (.tmp 5) rfl w3.heap.size 0 K rfl rfl HTH.out HSZ.out HONE.out ?_)
  have hK4 := HK.out
  obtain ⟨w4, hw4⟩ : ∃ x, (w3.alloc (.cells (arr []) 36)).setCells w3.heap.size 0 K.toList = x := ⟨_, rfl⟩
  obtain ⟨pk, hpk⟩ : ∃ x, w3.heap.size = x := ⟨_, rfl⟩
  have hbpk : w.heap.size ≤ pk := by omega
  have HPP : Hid (pv < pk) := Lib.hid (by omega)
  simp only [hw4] at hK4 hV4 b4 hsz4 ⊢
  simp only [hpk] at hK4 hsz4 ⊢
  clear HK HTH hs3 hw4 hpk hsz2
  rw [← HCS.out] at hV4
  rw [← HKK.out] at hK4
  clear HI8 HO8 HSZ HONE hz hsz4
  go_loopw [3] (fun i wr => ∃ k : Nat, k ≤ 64 ∧ i = .int .i64 k ∧ Blk wr pv 34 (cells8 vbegin) ∧ Blk wr pk 36 (arr kc) ∧ Below w.heap.size w wr) (fun i _ => 64 - (intOf i).toNat)
  case atStart => exact ⟨0, by omega, rfl, hV4, hK4, b4⟩
  case round =>
    clear hV4 hK4 b4
    obtain ⟨i, hi, rfl, hV, hK, hb⟩ := hrel
    by_cases hlt : i < 64
    · have hii : (i : Int) < 64 := by omega
      obtain ⟨y, hy⟩ : ∃ y, kc.getD i 0#32 = y := ⟨_, rfl⟩
      obtain ⟨p, hp⟩ : ∃ p, primes.getD i 0 = p := ⟨_, rfl⟩
      have cy : wr.cell? ⟨pk, i, none⟩ = some (.int .u32 (iv y)) := by rw [hK.cell i, arr_getD kc i (show i < kc.length from hlt), hy]; rfl
      have q1 := fun n => prime_q wr n i hlt
      have q2 := fun n => rootc_q wr n i hlt
      rw [hp] at q2
      simp only [hp] at q1
      simp only [hy] at q2
      have Q1 := Lib.hid q1
      have Q2 := Lib.hid q2
      by_cases h8 : i < 8
      · have h8i : (i : Int) < 8 := by omega
        have hd8 : decide ((i : Int) < 8) = true := decide_eq_true h8i
        obtain ⟨z, hz⟩ : ∃ z, (words8 vbegin).getD i 0#32 = z := ⟨_, rfl⟩
        have cz : wr.cell? ⟨pv, i, none⟩ = some (.int .u32 (iv z)) := by rw [hV.cell i, cells8_words vbegin i h8, hz]
        have q3 := fun n => roots_q wr n i h8
        simp only [hp, hz] at q3
        have Q3 := Lib.hid q3
        clear q1 q2 q3 hy hp hz
        go_wp2
        go_quiet (first | (go_at_call 20; exact Q1.out _) | (go_at_call 19; first | with_reducible exact Q2.out _ | with_reducible exact Q3.out _))
        go_wp2
        go_roundw
        case rel => exact ⟨i + 1, by omega, by go_num, hV, hK, pw_below_drewN hb _⟩
        case measure => simp [intOf]; omega
      · have h8i : ¬ ((i : Int) < 8) := by omega
        have hd8 : decide ((i : Int) < 8) = false := decide_eq_false h8i
        clear q1 q2 hy hp
        go_wp2
        go_quiet (first | (go_at_call 20; exact Q1.out _) | (go_at_call 19; exact Q2.out _))
        go_wp2
        go_roundw
        case rel => exact ⟨i + 1, by omega, by go_num, hV, hK, pw_below_drewN hb _⟩
        case measure => simp [intOf]; omega
    · have hii : ¬ ((i : Int) < 64) := by omega
      go_wp2
      go_ret
      exact ⟨rfl, hb⟩
end Go.Proofs.YtagcpphannbfkaaDoor.Sha
