/- the reference's sum. -/
import Derived.Test.YtjmahkpmnajmfaaDoorShaR3
namespace Go.Proofs.YtjmahkpmnajmfaaDoor.Sha
open Go.RowKit Go.Proofs.YtjmahkpmnajmfaaDoor.Mem Go.Proofs.YtjmahkpmnajmfaaDoor.X Go.Proofs.YtjmahkpmnajmfaaDoorW.PrintWords Go.Proofs.YtjmahkpmnajmfaaDoorW.PrintLast Go.Proofs.YtjmahkpmnajmfaaDoorW.PrintMore Go.Proofs.YtjmahkpmnajmfaaDoor.Aid
attribute [-simp] Tryd.sizeOf36 Tryd.isAgg36 Tryd.zeroValue36
set_option linter.unusedVariables false
set_option linter.unusedSimpArgs false
theorem wpStill_load_mid {P : Program} {ops : Array Oper} {o : Oper} {rest : List Oper} {a : Act} {w : World} {Q : Act → Prop} (hgd : o.guard = none) (ty : TypeId) (x : Operand) (ho : o.op = .load ty x) (b off : Nat)
    (hx : a.eval x = .pointer (some ⟨b, off, none⟩)) (cs : List Value) (d : TypeDesc) (hc : w.rangeAt b off cs) (hu : P.underlying ty = some d) (hd : d.isRow = true) (hi : (P.info? ty).map (·.size) = some cs.length)
    (h : wpStill P ops w Q rest (a.put o.dst (.agg cs.toArray))) : wpStill P ops w Q (o :: rest) a := by
  have hw : Region.wanted o (yielded ops a.tmps) = true := by simp [Region.wanted, hgd]
  have hrun : (execOp a.eval o).run P w = .ok (.value (.agg cs.toArray)) w := by
    unfold execOp
    simp only [ho, hx, Instr.loadAt, Instr.sureAddr, Sem.run_bind, Sem.run_pure, Result.andThen_ok, run_loadVar_mid w b off ty cs d hc hu hd hi]
  unfold wpStill
  rw [if_pos hw]
  unfold Oper.still
  rw [hrun, Oper.stillUpon_value]
  exact h
theorem cells8_size (v : V8) : (cells8 v).size = 8 := rfl
theorem cells8_len (v : V8) : (cells8 v).toList.length = 8 := rfl
theorem cells8_one (v : V8) : (cells8 v).all (·.oneCell') = true := by simp [cells8, Value.oneCell']
/-- so many blocks eaten -/
def runB (v : V8) (l : List UInt8) : Nat → V8
  | 0 => v
  | i + 1 => comp (runB v l i) ((l.drop (64 * i)).take 64)
theorem runB_shift (v : V8) (l : List UInt8) (m : Nat) : runB v l (m + 1) = runB (comp v (l.take 64)) (l.drop 64) m := by
  induction m with
  | zero => simp [runB]
  | succ m ih =>
    rw [runB, ih]
    show _ = comp (runB (comp v (l.take 64)) (l.drop 64) m) (((l.drop 64).drop (64 * m)).take 64)
    rw [List.drop_drop, show 64 + 64 * m = 64 * (m + 1) by omega]
theorem eat_runB (m : Nat) : ∀ (f : Nat) (v : V8) (l : List UInt8), l.length = 64 * m → m ≤ f → (eat f v l).1 = runB v l m := by
  induction m with
  | zero =>
    intro f v l hl hf
    cases f with
    | zero => rfl
    | succ f => rw [eat, if_pos (by omega)]; rfl
  | succ m ih =>
    intro f v l hl hf
    cases f with
    | zero => omega
    | succ f =>
      rw [eat, if_neg (by omega), ih f _ _ (by rw [List.length_drop]; omega) (by omega), runB_shift]
set_option maxHeartbeats 4000000 in
set_option maxRecDepth 100000 in
theorem rsum_calls (w : World) (s : ByteArray) (hs : s.size ≤ 1000000) :
    Calls Tryd.prog 12 #[.string s] w fun e w' => e = .returned (.string (S (shaB (L s)))) ∧ Below w.heap.size w w' := by
  go_enter Tryd.func12, Tryd.ntmps12
  go_wp2_with fail
  refine (rBegin_calls w).mono ?_
  rintro e w1 ⟨rfl, b1⟩
  have hs1 := b1.size
  have HI8 : Hid ((Tryd.prog.info? 34).map (·.size) = some (cells8 vbegin).size) := Lib.hid (by show _ = some 8; kernel_rfl)
  have HO8 : Hid ((cells8 vbegin).all (·.oneCell') = true) := Lib.hid (by simp [cells8, Value.oneCell'])
  have HTH : Hid ((w1.alloc (.cells zero8 34)).there w1.heap.size 0 (cells8 vbegin).size) := Lib.hid (there_blk (Blk.new w1 34 zero8) (Nat.le_refl 8))
  have HV : Hid (Blk ((w1.alloc (.cells zero8 34)).setCells w1.heap.size 0 (cells8 vbegin).toList) w1.heap.size 34 (cells8 vbegin)) := Lib.hid (blk_whole (Blk.new w1 34 zero8) rfl)
  have b2 : Below w.heap.size w ((w1.alloc (.cells zero8 34)).setCells w1.heap.size 0 (cells8 vbegin).toList) := below_cells (b1.alloc hs1 _) hs1
  have hsz2 : ((w1.alloc (.cells zero8 34)).setCells w1.heap.size 0 (cells8 vbegin).toList).heap.size = w1.heap.size + 1 := by rw [setCells_size]; simp
  obtain ⟨cs, hcs⟩ : ∃ cs, cells8 vbegin = cs := ⟨_, rfl⟩
  have HCS := Lib.hid hcs
  simp only [hcs] at HI8 HO8 HTH HV b2 hsz2 ⊢
  clear hcs
  go_wp2_with (refine wpList_store_mid rfl 34 (.tmp 3) (.tmp 10) rfl w1.heap.size 0 cs rfl rfl HTH.out HI8.out HO8.out ?_)
  have hV := HV.out
  obtain ⟨w2, hw2⟩ : ∃ x, (w1.alloc (.cells zero8 34)).setCells w1.heap.size 0 cs.toList = x := ⟨_, rfl⟩
  obtain ⟨pv, hpv⟩ : ∃ x, w1.heap.size = x := ⟨_, rfl⟩
  have hbpv : w.heap.size ≤ pv := by omega
  have e8 : (#[Value.int .u32 0, .int .u32 0, .int .u32 0, .int .u32 0, .int .u32 0, .int .u32 0, .int .u32 0, .int .u32 0] : Array Value) = zero8 := rfl
  simp only [e8]
  simp only [hw2] at hV b2 hsz2 ⊢
  simp only [hpv] at hV hsz2 ⊢
  clear HV HTH b1 hs1 hw2 hpv e8
  refine (rConst_calls w2).mono ?_
  rintro e w3 ⟨rfl, b3⟩
  have hs3 := b3.size
  have hV3 := hV.below b3
  have b3' := b2.trans (b3.mono (by omega))
  have HSZ : Hid ((Tryd.prog.info? 36).map (·.size) = some (arr kc).size) := Lib.hid (by show _ = some 64; kernel_rfl)
  have HONE := Lib.hid (arr_one kc)
  have HTH : Hid ((w3.alloc (.cells (arr []) 36)).there w3.heap.size 0 (arr kc).size) := Lib.hid (there_blk (Blk.new w3 36 (arr [])) (Nat.le_refl 64))
  have HK : Hid (Blk ((w3.alloc (.cells (arr []) 36)).setCells w3.heap.size 0 (arr kc).toList) w3.heap.size 36 (arr kc)) := Lib.hid (blk_whole (Blk.new w3 36 (arr [])) (by rw [arr_size kc (by decide), arr_size [] (by decide)]))
  have hV4 : Blk ((w3.alloc (.cells (arr []) 36)).setCells w3.heap.size 0 (arr kc).toList) pv 34 cs := blk_whole_far (hV3.alloc _) (Nat.ne_of_lt hV3.lt) _ _
  have b4 : Below w.heap.size w ((w3.alloc (.cells (arr []) 36)).setCells w3.heap.size 0 (arr kc).toList) := below_cells (b3'.alloc (by omega) _) (by omega)
  have hsz4 : ((w3.alloc (.cells (arr []) 36)).setCells w3.heap.size 0 (arr kc).toList).heap.size = w3.heap.size + 1 := by rw [setCells_size]; simp
  obtain ⟨K, hK⟩ : ∃ K, arr kc = K := ⟨_, rfl⟩
  have HKK := Lib.hid hK
  simp only [hK] at HSZ HONE HTH HK hV4 b4 hsz4 ⊢
  have hz := fun w => zero64 w
  clear hK b3 b3' hV3 b2 hV
  go_wp2_with (refine wpList_store_mid rfl 36 (.tmp 4) (.tmp 11) rfl w3.heap.size 0 K rfl rfl HTH.out HSZ.out HONE.out ?_)
  have hK4 := HK.out
  obtain ⟨w4, hw4⟩ : ∃ x, (w3.alloc (.cells (arr []) 36)).setCells w3.heap.size 0 K.toList = x := ⟨_, rfl⟩
  obtain ⟨pk, hpk⟩ : ∃ x, w3.heap.size = x := ⟨_, rfl⟩
  have hbpk : w.heap.size ≤ pk := by omega
  have HPP : Hid (pv < pk) := Lib.hid (by omega)
  simp only [hw4] at hK4 hV4 b4 hsz4 ⊢
  simp only [hpk] at hK4 hsz4 ⊢
  clear HK HTH hs3 hw4 hpk hsz2
  refine (padded_calls w4 s hs).mono ?_
  rintro e w5 ⟨rfl, b5⟩
  have hV5 := hV4.below b5
  have hK5 := hK4.below b5
  have b5' := b4.trans (b5.mono (by omega))
  have hel := endB_len s.size
  have hll : (L s).length = s.size := (sz s).symm
  obtain ⟨T, hT⟩ : ∃ T, L s ++ endB s.size = T := ⟨_, rfl⟩
  have hTl : T.length = s.size + nz s.size + 9 := by rw [← hT, List.length_append, hel, hll]; omega
  have HTT := Lib.hid hT
  obtain ⟨nb, hnb⟩ : ∃ nb, T.length = 64 * nb := ⟨(s.size + nz s.size + 9) / 64, by rw [hTl]; unfold nz; omega⟩
  have hnbb : nb ≤ 20000 := by have : nz s.size < 64 := by unfold nz; omega
                               omega
  obtain ⟨t, ht⟩ : ∃ t, S T = t := ⟨_, rfl⟩
  have hts : t.size = 64 * nb := by rw [← ht, sz, L_S, hnb]
  have HLT : Hid (L t = T) := Lib.hid (by rw [← ht, L_S])
  have HNB := Lib.hid hnb
  have hVr : Blk w5 pv 34 (cells8 (runB vbegin T 0)) := by
    show Blk w5 pv _ (cells8 vbegin)
    rw [HCS.out]; exact hV5
  simp only [hT, ht]
  clear hT ht hTl hel hll hnb b5 b4 hV4 hK4 hV5 HI8 HO8 HSZ HONE HCS hsz4
  obtain ⟨m64, hm64⟩ : ∃ m, 64 * nb = m := ⟨_, rfl⟩
  have HM := Lib.hid hm64
  rw [hm64] at hts
  have hm2 : m64 ≤ 2000000 := by omega
  have hb5 := b5'.size
  clear hm64
  go_wp2
  go_loopw [6] (fun i wr => ∃ k : Nat, k ≤ nb ∧ i = .int .i64 ((64 * k : Nat) : Int) ∧ Blk wr pv 34 (cells8 (runB vbegin T k)) ∧ Blk wr pk 36 K ∧ Below w.heap.size w wr) (fun i _ => 64 * nb + 64 - (intOf i).toNat)
  case atStart => exact ⟨0, by omega, rfl, hVr, hK5, b5'⟩
  case round =>
    clear hVr hK5 b5' hb5
    obtain ⟨k, hk, rfl, hV, hKr, hb⟩ := hrel
    obtain ⟨q, hq⟩ : ∃ q, 64 * k = q := ⟨_, rfl⟩
    have hqm : q ≤ m64 := by have := HM.out; omega
    rw [hq]
    have HQ := Lib.hid hq
    clear hq
    by_cases hlt : q < m64
    · have hqi : (q : Int) < (m64 : Int) := by omega
      have hq2 : q + 64 ≤ m64 := by have := HM.out; have := HQ.out; omega
      have hkn : k + 1 ≤ nb := by have := HM.out; have := HQ.out; omega
      obtain ⟨e, he⟩ : ∃ e, q + 64 = e := ⟨_, rfl⟩
      have hq64 : IntKind.i64.wrap ((q : Int) + 64) = (e : Int) := by rw [i64_w, w64 (by omega) (by omega)]; omega
      have HEK : Hid (e = 64 * (k + 1)) := Lib.hid (by have := HQ.out; omega)
      have hqe : q ≤ e := by omega
      have hqei : (q : Int) ≤ (e : Int) := by omega
      have hem : e ≤ m64 := by omega
      have hemi : (e : Int) ≤ (m64 : Int) := by omega
      have hez : (t.extract q e).size = 64 := by rw [ByteArray.size_extract]; omega
      have HEL : Hid (L (t.extract q e) = (T.drop (64 * k)).take 64) := Lib.hid (by rw [L_ext, HLT.out, List.drop_take, HQ.out]; congr 1; omega)
      have hone := one_calls wr.drew (runB vbegin T k) (t.extract q e) hez
      have HST : Hid (comp (runB vbegin T k) (L (t.extract q e)) = runB vbegin T (k + 1)) := Lib.hid (by rw [HEL.out]; rfl)
      rw [HST.out, HKK.out] at hone
      have HV8 : Hid (wr.drew.rangeAt pv 0 (cells8 (runB vbegin T k)).toList) := Lib.hid (rangeAt_blk hV.drew)
      have HK64 : Hid (wr.drew.rangeAt pk 0 K.toList) := Lib.hid (rangeAt_blk hKr.drew)
      have HI8 : Hid ((Tryd.prog.info? 34).map (·.size) = some (cells8 (runB vbegin T k)).toList.length) := Lib.hid (by rw [cells8_len]; kernel_rfl)
      have HI64 : Hid ((Tryd.prog.info? 36).map (·.size) = some K.toList.length) := Lib.hid (by rw [← HKK.out]; show _ = some 64; kernel_rfl)
      have hV' := hV.drew
      have hK' := hKr.drew
      have hb' := hb.drew
      have HONE := Lib.hid hone
      obtain ⟨C, hC⟩ : ∃ C, cells8 (runB vbegin T k) = C := ⟨_, rfl⟩
      have HCC := Lib.hid hC
      simp only [hC] at HV8 HI8 HONE
      clear hC hone hV hKr hb hez he hq2
      go_wp2
      refine wp_region_still_tail 7 (by kernel_rfl) (by kernel_rfl) ?_; simp only [List.take_succ_cons, List.take_zero, List.drop_succ_cons, List.drop_zero]
      refine wpStill_load_mid rfl 34 (.tmp 3) rfl pv 0 rfl C.toList _ HV8.out Tryd.underlying34 rfl HI8.out ?_
      refine wpStill_load_mid rfl 36 (.tmp 4) rfl pk 0 rfl K.toList _ HK64.out Tryd.underlying36 rfl HI64.out ?_
      simp only [Array.toArray_toList]
      repeat still_step
      refine wpStill_nil ?_
      change wpList _ _ _ _ _ wr.drew
      go_wp2_with fail
      refine HONE.out.mono ?_
      rintro e6 w6 ⟨rfl, b6⟩
      have hV6 := hV'.below b6
      have hK6 := hK'.below b6
      have hb6 := hb'.trans (b6.mono hb'.size)
      clear hV' hK' hb' b6 HV8 HK64 HI8 HI64 HONE
      have HI8 : Hid ((Tryd.prog.info? 34).map (·.size) = some (cells8 (runB vbegin T (k + 1))).size) := Lib.hid (by rw [cells8_size]; kernel_rfl)
      have HO8 : Hid ((cells8 (runB vbegin T (k + 1))).all (·.oneCell') = true) := Lib.hid (cells8_one _)
      have HTH : Hid (w6.there pv 0 (cells8 (runB vbegin T (k + 1))).size) := Lib.hid (there_blk hV6 (by rw [cells8_size, cells8_size]; exact Nat.le_refl 8))
      have hV7 : Blk (w6.setCells pv 0 (cells8 (runB vbegin T (k + 1))).toList) pv 34 (cells8 (runB vbegin T (k + 1))) := blk_whole hV6 (by rw [cells8_size, cells8_size])
      have hK7 : Blk (w6.setCells pv 0 (cells8 (runB vbegin T (k + 1))).toList) pk 36 K := blk_whole_far hK6 (by have := HPP.out; omega) _ _
      have hb7 : Below w.heap.size w (w6.setCells pv 0 (cells8 (runB vbegin T (k + 1))).toList) := below_cells hb6 hbpv
      have HALL := Lib.hid (And.intro hV7 (And.intro hK7 hb7))
      clear hV7 hK7 hb7 hV6 hK6 hb6 HCC
      obtain ⟨D, hD⟩ : ∃ D, cells8 (runB vbegin T (k + 1)) = D := ⟨_, rfl⟩
      have HDD := Lib.hid hD
      simp only [hD] at HI8 HO8 HTH HALL ⊢
      clear hD
      have hqn : IntKind.i64.wrap ((q : Int) + 64) = (e : Int) := hq64
      go_wp2_with (refine wpList_store_mid rfl 34 (.tmp 3) (.tmp 27) rfl pv 0 D rfl rfl HTH.out HI8.out HO8.out ?_)
      go_roundw
      case rel => exact ⟨k + 1, hkn, by rw [HEK.out], by rw [HDD.out]; exact HALL.out.1, HALL.out.2.1, HALL.out.2.2⟩
      case measure =>
        have := HEK.out
        have := HQ.out
        have := HM.out
        simp [intOf]; omega
    · have hqi : ¬ ((q : Int) < (m64 : Int)) := by omega
      have hkn : k = nb := by have := HM.out; have := HQ.out; omega
      have HRB : Hid (dig (runB vbegin T k) = shaB (L s)) := Lib.hid (by
        unfold shaB eatA
        rw [← sz s, HTT.out, eat_runB nb _ _ _ HNB.out (by rw [HNB.out]; omega), hkn])
      obtain ⟨wl, hwl⟩ : ∃ wl, words8 (runB vbegin T k) = wl := ⟨_, rfl⟩
      have HWL : Hid (wl.length = 8) := Lib.hid (by rw [← hwl]; rfl)
      have HWD : Hid (wl.flatMap word4 = shaB (L s)) := Lib.hid (by rw [← hwl]; exact HRB.out)
      have HCL : Hid (∀ i, i < 8 → (cells8 (runB vbegin T k))[i]? = some (.int .u32 (iv (wl.getD i 0#32)))) := Lib.hid (fun i hi => by rw [← hwl]; exact cells8_words _ i hi)
      obtain ⟨C, hC⟩ : ∃ C, cells8 (runB vbegin T k) = C := ⟨_, rfl⟩
      rw [hC] at hV
      simp only [hC] at HCL
      clear hkn hwl hC hlt hk hqm hKr
      go_wp2
      go_loopw [7, 8] (fun o i wq => ∃ (j : Nat) (x : ByteArray), j ≤ 8 ∧ i = .int .i64 j ∧ o = .string x ∧ Hid (L x = (wl.take j).flatMap word4) ∧ Blk wq pv 34 C ∧ Below w.heap.size w wq) (fun _ i _ => 8 - (intOf i).toNat)
      case atStart => exact ⟨0, ⟨#[]⟩, by omega, rfl, rfl, Lib.hid rfl, hV, hb⟩
      case round =>
        clear hV hb
        obtain ⟨j, x, hj, rfl, rfl, HX, hV, hb⟩ := hrel
        by_cases hlj : j < 8
        · obtain ⟨y, hy⟩ : ∃ y, wl.getD j 0#32 = y := ⟨_, rfl⟩
          have cy : wr.cell? ⟨pv, j, none⟩ = some (.int .u32 (iv y)) := by rw [hV.cell j, HCL.out j hlj, hy]
          have HN : Hid (L x ++ word4 y = (wl.take (j + 1)).flatMap word4) := Lib.hid (by rw [HX.out, take_flat wl j (by rw [HWL.out]; exact hlj), hy])
          have hji : (j : Int) < 8 := by omega
          have hbs := hb.size
          have hconv : (convert 30 9 (.slice (some ⟨wr.heap.size, 0, none⟩) 4 4)).run Tryd.prog (wr.alloc (.cells #[.int .u8 (iv y / 16777216 % 256), .int .u8 (iv y / 65536 % 256), .int .u8 (iv y / 256 % 256), .int .u8 (iv y % 256)] 5)) = .ok (.string (S (word4 y))) (wr.alloc (.cells #[.int .u8 (iv y / 16777216 % 256), .int .u8 (iv y / 65536 % 256), .int .u8 (iv y / 256 % 256), .int .u8 (iv y % 256)] 5)) := by
            refine run_convert_bytes_back _ 30 9 5 ⟨wr.heap.size, 0, none⟩ 4 (word4 y) Tryd.underlying30 Tryd.underlying5 Tryd.underlying9 fun i hi => ?_
            have hadd : (⟨wr.heap.size, 0, none⟩ : Addr).add i = ⟨wr.heap.size, i, none⟩ := by unfold Addr.add; split <;> simp_all
            rw [hadd, (Blk.new wr 5 #[.int .u8 (iv y / 16777216 % 256), .int .u8 (iv y / 65536 % 256), .int .u8 (iv y / 256 % 256), .int .u8 (iv y % 256)]).cell i]
            have b1 := byte24 y
            have b2 := byte16 y
            have b3 := byte8 y
            have b4 := byte0 y
            rw [IntKind.wrap_u8] at b1 b2 b3 b4
            rw [b1, b2, b3, b4]
            have hc : i = 0 ∨ i = 1 ∨ i = 2 ∨ i = 3 := by simp [word4] at hi; omega
            rcases hc with rfl | rfl | rfl | rfl <;> rfl
          have hV2 := hV.alloc (.cells #[.int .u8 (iv y / 16777216 % 256), .int .u8 (iv y / 65536 % 256), .int .u8 (iv y / 256 % 256), .int .u8 (iv y % 256)] 5)
          have hb2 := hb.alloc hbs (.cells #[.int .u8 (iv y / 16777216 % 256), .int .u8 (iv y / 65536 % 256), .int .u8 (iv y / 256 % 256), .int .u8 (iv y % 256)] 5)
          clear hy
          have hy0 := (iv_lt y).1
          have hsx : (x.size : Int) + (S (word4 y)).size ≤ 9223372036854775807 := by
            have e1 : x.size = 4 * (wl.take j).length := by rw [sz, HX.out, flat_len]
            have e2 : (wl.take j).length ≤ 8 := by rw [List.length_take, HWL.out]; omega
            have e3 : (S (word4 y)).size = 4 := by rw [sz, L_S]; rfl
            omega
          have t1 : (iv y).tdiv 16777216 = iv y / 16777216 := Int.tdiv_eq_ediv_of_nonneg hy0
          have t2 : (iv y).tdiv 65536 = iv y / 65536 := Int.tdiv_eq_ediv_of_nonneg hy0
          have t3 : (iv y).tdiv 256 = iv y / 256 := Int.tdiv_eq_ediv_of_nonneg hy0
          have t4 : (iv y).tmod 256 = iv y % 256 := Int.tmod_eq_emod_of_nonneg hy0
          go_wp2
          go_roundw
          case rel => exact ⟨j + 1, x ++ S (word4 y), by omega, by go_num, rfl, Lib.hid (by rw [L_app, L_S]; exact HN.out), hV2, hb2⟩
          case measure => simp [intOf]; omega
        · have hj8 : j = 8 := by omega
          have hji : ¬ ((j : Int) < 8) := by omega
          have hx : x = S (shaB (L s)) := by
            rw [← HWD.out, ← S_L x, HX.out, hj8, List.take_of_length_le (by rw [HWL.out]; exact Nat.le_refl _)]
          clear hj8 hlj hj hV HX
          go_wp2
          go_ret
          exact ⟨rfl, hb⟩
end Go.Proofs.YtjmahkpmnajmfaaDoor.Sha
