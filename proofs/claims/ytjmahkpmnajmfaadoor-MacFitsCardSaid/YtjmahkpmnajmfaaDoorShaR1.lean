/- the reference's sum: one. -/
import Derived.Test.YtjmahkpmnajmfaaDoorShaR0
namespace Go.Proofs.YtjmahkpmnajmfaaDoor.Sha
open Go.RowKit Go.Proofs.YtjmahkpmnajmfaaDoor.Mem Go.Proofs.YtjmahkpmnajmfaaDoor.X Go.Proofs.YtjmahkpmnajmfaaDoorW.PrintWords Go.Proofs.YtjmahkpmnajmfaaDoorW.PrintLast Go.Proofs.YtjmahkpmnajmfaaDoorW.PrintMore Go.Proofs.YtjmahkpmnajmfaaDoor.Aid
attribute [-simp] Tryd.sizeOf36 Tryd.isAgg36 Tryd.zeroValue36
set_option linter.unusedVariables false
set_option linter.unusedSimpArgs false
theorem fill8 (x0 x1 x2 x3 x4 x5 x6 x7 : Int) : Instr.fill (fun i => some (i * 1, 1)) zero8 [(0, .int .u32 x0), (1, .int .u32 x1), (2, .int .u32 x2), (3, .int .u32 x3), (4, .int .u32 x4), (5, .int .u32 x5), (6, .int .u32 x6), (7, .int .u32 x7)] = some #[.int .u32 x0, .int .u32 x1, .int .u32 x2, .int .u32 x3, .int .u32 x4, .int .u32 x5, .int .u32 x6, .int .u32 x7] := by
  simp [Instr.fill, zero8, Value.cells, List.zipIdx]
theorem zero8_run (w : World) : (zeroValue 34).run Tryd.prog w = .ok (.agg zero8) w := by
  have h : (Tryd.prog.info? 34).map (fun i => (i.zero, i.size)) = some (some (.agg zero8), 8) := by kernel_rfl
  exact (zero_of_info h).1 w
theorem build8 (x0 x1 x2 x3 x4 x5 x6 x7 : Int) (w : World) : (Instr.build 34 #[(0, .int .u32 x0), (1, .int .u32 x1), (2, .int .u32 x2), (3, .int .u32 x3), (4, .int .u32 x4), (5, .int .u32 x5), (6, .int .u32 x6), (7, .int .u32 x7)]).run Tryd.prog w = .ok (.agg #[.int .u32 x0, .int .u32 x1, .int .u32 x2, .int .u32 x3, .int .u32 x4, .int .u32 x5, .int .u32 x6, .int .u32 x7]) w := by
  have hs : ∀ w, (sizeOf 33).run Tryd.prog w = .ok 1 w := fun w => by simp
  have hc : Value.cells (.agg zero8) = zero8 := rfl
  have hf := fill8 x0 x1 x2 x3 x4 x5 x6 x7
  unfold Instr.build
  simp only [Sem.run_bind, zero8_run, Result.andThen_ok, run_underlying Tryd.underlying34, hs, hc, hf, Sem.run_pure]
theorem wpList_build8 {ops : Array Oper} {rest : List Oper} {op : Oper} {a : Act} {w : World} {Q : Exit → Act → World → Prop} (hgd : op.guard = none) (parts : Array (Nat × Operand)) (ho : op.op = .build 34 parts) {x0 x1 x2 x3 x4 x5 x6 x7 : Int}
    (hv' : parts.toList.map (fun p => (p.1, a.eval p.2)) = [(0, .int .u32 x0), (1, .int .u32 x1), (2, .int .u32 x2), (3, .int .u32 x3), (4, .int .u32 x4), (5, .int .u32 x5), (6, .int .u32 x6), (7, .int .u32 x7)]) (h : wpList Tryd.prog ops Q rest (a.put op.dst (.agg #[.int .u32 x0, .int .u32 x1, .int .u32 x2, .int .u32 x3, .int .u32 x4, .int .u32 x5, .int .u32 x6, .int .u32 x7])) w) : wpList Tryd.prog ops Q (op :: rest) a w := by
  have hv : parts.map (fun p => (p.1, a.eval p.2)) = #[(0, .int .u32 x0), (1, .int .u32 x1), (2, .int .u32 x2), (3, .int .u32 x3), (4, .int .u32 x4), (5, .int .u32 x5), (6, .int .u32 x6), (7, .int .u32 x7)] := by
    apply Array.toList_inj.1
    rw [Array.toList_map]
    exact hv'
  refine Kd.event_run hgd ?_ h
  unfold execOp
  simp only [ho, hv, Sem.run_bind, build8, Result.andThen_ok, Sem.run_pure]
def mixA (u v : V8) (i : Nat) : Array Value := ((List.range 8).map fun j => wv (if j < i then (words8 v).getD j 0#32 + (words8 u).getD j 0#32 else (words8 u).getD j 0#32)).toArray
theorem mix_get (u v : V8) (i : Nat) (h : i < 8) : (mixA u v i)[i]? = some (wv ((words8 u).getD i 0#32)) := by
  unfold mixA
  rw [List.getElem?_toArray, List.getElem?_map, List.getElem?_range h]
  simp
theorem mix_set (u v : V8) (i : Nat) (h : i < 8) : (mixA u v i).setIfInBounds i (wv ((words8 v).getD i 0#32 + (words8 u).getD i 0#32)) = mixA u v (i + 1) := by
  have hc : i = 0 ∨ i = 1 ∨ i = 2 ∨ i = 3 ∨ i = 4 ∨ i = 5 ∨ i = 6 ∨ i = 7 := by omega
  rcases hc with rfl | rfl | rfl | rfl | rfl | rfl | rfl | rfl <;> simp [mixA, List.range, List.range.loop]
theorem mix_zero (u v : V8) : mixA u v 0 = cells8 u := by
  simp [mixA, List.range, List.range.loop, cells8, words8, wv]
theorem mix_full (u v : V8) : mixA u v 8 = cells8 (add8 v u) := by
  simp [mixA, List.range, List.range.loop, cells8, words8, wv, add8]
theorem mix_size (u v : V8) (i : Nat) : (mixA u v i).size = 8 := by simp [mixA]
/-- what stays while the words are laid -/
structure Oth (w0 w : World) (base r b0 b1 : Nat) (v : V8) : Prop where
  hr : Blk w r 34 zero8
  h0 : Blk w b0 34 (cells8 v)
  h1 : Blk w b1 36 (arr kc)
  hb : Below base w0 w
theorem Oth.put {w0 w : World} {base r b0 b1 : Nat} {v : V8} (h : Oth w0 w base r b0 b1 v) (g o : Nat) (x : Value) (hg : r < g ∧ b0 < g ∧ b1 < g ∧ base ≤ g) : Oth w0 (w.setCell ⟨g, o, none⟩ x) base r b0 b1 v :=
  ⟨h.hr.far (p := ⟨g, o, none⟩) (by simp; omega) _, h.h0.far (p := ⟨g, o, none⟩) (by simp; omega) _, h.h1.far (p := ⟨g, o, none⟩) (by simp; omega) _, h.hb.setCell (p := ⟨g, o, none⟩) (by simp; omega) _⟩
theorem Oth.drew {w0 w : World} {base r b0 b1 : Nat} {v : V8} (h : Oth w0 w base r b0 b1 v) : Oth w0 w.drew base r b0 b1 v := ⟨h.hr.drew, h.h0.drew, h.h1.drew, h.hb.drew⟩
theorem Oth.drewN {w0 w : World} {base r b0 b1 : Nat} {v : V8} (h : Oth w0 w base r b0 b1 v) (n : Nat) : Oth w0 (w.drewN n) base r b0 b1 v := ⟨h.hr, h.h0, h.h1, pw_below_drewN h.hb n⟩
theorem Oth.many {w0 w : World} {base r b0 b1 : Nat} {v : V8} (h : Oth w0 w base r b0 b1 v) (g : Nat) (vs : List Value) (hg : r < g ∧ b0 < g ∧ b1 < g ∧ base ≤ g) : Oth w0 (w.setCells g 0 vs) base r b0 b1 v :=
  ⟨blk_whole_far h.hr (by omega) _ _, blk_whole_far h.h0 (by omega) _ _, blk_whole_far h.h1 (by omega) _ _, below_cells h.hb hg.2.2.2⟩
theorem Oth.fresh {w0 w : World} {base r b0 b1 : Nat} {v : V8} (h : Oth w0 w base r b0 b1 v) (x : Array Value) (ty : TypeId) (cs : List Value) (hb : base ≤ w.heap.size) : Oth w0 ((w.alloc (.cells x ty)).setCells w.heap.size 0 cs) base r b0 b1 v :=
  ⟨blk_whole_far (h.hr.alloc _) (Nat.ne_of_lt h.hr.lt) _ _, blk_whole_far (h.h0.alloc _) (Nat.ne_of_lt h.h0.lt) _ _, blk_whole_far (h.h1.alloc _) (Nat.ne_of_lt h.h1.lt) _ _, below_cells (h.hb.alloc hb _) hb⟩
def schedR (s : List UInt8) (t : Nat) : List W := if t ≤ 16 then words16 s t else schedN s t
theorem schedR_len (s : List UInt8) (t : Nat) : (schedR s t).length = t := by
  unfold schedR
  split
  · exact words16_len s t
  · exact schedN_len s t (by omega)
theorem schedR_lo (s : List UInt8) (t : Nat) (h : t < 16) : schedR s (t + 1) = schedR s t ++ [wordK s t 4] := by
  unfold schedR; rw [if_pos (by omega), if_pos (by omega), words16_succ]
theorem schedR_hi (s : List UInt8) (t : Nat) (h : 16 ≤ t) : schedR s (t + 1) = schedR s t ++ [nextW (schedR s t)] := by
  unfold schedR
  rw [if_neg (by omega)]
  by_cases h16 : t = 16
  · rw [if_pos (by omega), schedN_succ s t h]
    have : schedN s t = words16 s t := by subst h16; rfl
    rw [this]
  · rw [if_neg (by omega), schedN_succ s t h]
theorem schedR_64 (s : List UInt8) : schedR s 64 = sched s := by
  unfold schedR; rw [if_neg (by omega)]; exact schedN_64 s
theorem sum4 (a b c d : W) : a + b + c + d = d + c + b + a := by ac_rfl
theorem not_sub (x : W) : (4294967295 - iv x) % 4294967296 = iv (~~~x) := by
  unfold iv; rw [BitVec.toNat_not]; have := x.isLt; omega
theorem ch_or (e f g : W) : (e &&& f) ||| (~~~e &&& g) = ch e f g := by
  unfold ch
  ext i hi
  simp only [BitVec.getElem_or, BitVec.getElem_and, BitVec.getElem_not, BitVec.getElem_xor]
  cases e[i] <;> simp
theorem mj_or (a b c : W) : (a &&& b) ||| (a &&& c) ||| (b &&& c) = mj a b c := by
  unfold mj
  ext i hi
  simp only [BitVec.getElem_or, BitVec.getElem_and, BitVec.getElem_xor]
  cases a[i] <;> cases b[i] <;> cases c[i] <;> rfl
theorem or8 (p b : W) (hb : b.toNat < 256) (hp : p.toNat < 16777216) : ((p <<< 8) ||| b).toNat = p.toNat * 256 + b.toNat := by
  rw [BitVec.toNat_or, BitVec.toNat_shiftLeft, Nat.mod_eq_of_lt (by rw [Nat.shiftLeft_eq]; omega), ← Nat.shiftLeft_add_eq_or_of_lt (by simpa using hb), Nat.shiftLeft_eq]
theorem by_lt (s : List UInt8) (i : Nat) : (by_ s i).toNat < 256 := by
  unfold by_
  rw [BitVec.toNat_ofNat]
  have := (s.getD i 0).toNat_lt
  omega
theorem word_val4 (l : List UInt8) (t q0 q1 q2 q3 : Nat) (h0 : 4 * t = q0) (h1 : 4 * t + 1 = q1) (h2 : 4 * t + 2 = q2) (h3 : 4 * t + 3 = q3) :
    IntKind.u32.wrap (IntKind.u32.wrap (IntKind.u32.wrap (IntKind.u32.wrap (iv (by_ l q0) * 16777216) + IntKind.u32.wrap (iv (by_ l q1) * 65536)) + IntKind.u32.wrap (iv (by_ l q2) * 256)) + iv (by_ l q3)) = iv (wordK l t 4) := by
  subst h1 h2 h3 h0
  have b0 := by_lt l (4 * t)
  have b1 := by_lt l (4 * t + 1)
  have b2 := by_lt l (4 * t + 2)
  have b3 := by_lt l (4 * t + 3)
  have e : (wordK l t 4).toNat = (((by_ l (4 * t)).toNat * 256 + (by_ l (4 * t + 1)).toNat) * 256 + (by_ l (4 * t + 2)).toNat) * 256 + (by_ l (4 * t + 3)).toNat := by
    have w1 : (wordK l t 1).toNat = (by_ l (4 * t)).toNat := by
      show ((0#32 <<< 8) ||| by_ l (4 * t)).toNat = _
      rw [or8 _ _ b0 (by simp)]; simp
    have w2 : (wordK l t 2).toNat = (by_ l (4 * t)).toNat * 256 + (by_ l (4 * t + 1)).toNat := by
      show ((wordK l t 1 <<< 8) ||| by_ l (4 * t + 1)).toNat = _
      rw [or8 _ _ b1 (by omega), w1]
    have w3 : (wordK l t 3).toNat = ((by_ l (4 * t)).toNat * 256 + (by_ l (4 * t + 1)).toNat) * 256 + (by_ l (4 * t + 2)).toNat := by
      show ((wordK l t 2 <<< 8) ||| by_ l (4 * t + 2)).toNat = _
      rw [or8 _ _ b2 (by omega), w2]
    show ((wordK l t 3 <<< 8) ||| by_ l (4 * t + 3)).toNat = _
    rw [or8 _ _ b3 (by omega), w3]
  unfold iv
  rw [e]
  simp only [wrap_u32]
  omega
set_option maxHeartbeats 4000000 in
set_option maxRecDepth 100000 in
theorem one_calls (w : World) (v : V8) (s : ByteArray) (hs : s.size = 64) :
    Calls Tryd.prog 19 #[.agg (cells8 v), .agg (arr kc), .string s] w fun e w' => e = .returned (.agg (cells8 (comp v (L s)))) ∧ Below w.heap.size w w' := by
  obtain ⟨R, hR⟩ : ∃ R, comp v (L s) = R := ⟨_, rfl⟩
  rw [hR]
  have HR := Lib.hid hR
  clear hR
  obtain ⟨va, vb, vc, vd, ve, vf, vg, vh⟩ := v
  obtain ⟨V, hV⟩ : ∃ V, (⟨va, vb, vc, vd, ve, vf, vg, vh⟩ : V8) = V := ⟨_, rfl⟩
  have HV := Lib.hid hV
  go_enter Tryd.func19, Tryd.ntmps19
  obtain ⟨C8, hC8⟩ : ∃ C, cells8 ⟨va, vb, vc, vd, ve, vf, vg, vh⟩ = C := ⟨_, rfl⟩
  obtain ⟨K, hK⟩ : ∃ K, arr kc = K := ⟨_, rfl⟩
  rw [hC8, hK]
  have hz := fun w => zero64 w
  go_wp2_with fail
  have hO : Oth w ((((w.alloc (.cells C8 34)).alloc (.cells K 36)).alloc (.cells zero8 34)).alloc (.cells (arr []) 36)) w.heap.size (w.heap.size + 1 + 1) w.heap.size (w.heap.size + 1) V := by
    refine ⟨?_, ?_, ?_, ?_⟩
    · have := (Blk.new ((w.alloc (.cells C8 34)).alloc (.cells K 36)) 34 zero8).alloc (.cells (arr []) 36)
      simpa using this
    · rw [← hV, hC8]
      exact (((Blk.new w 34 C8).alloc _).alloc _).alloc _
    · rw [hK]
      have := ((Blk.new (w.alloc (.cells C8 34)) 36 K).alloc (.cells zero8 34)).alloc (.cells (arr []) 36)
      simpa using this
    · exact ((((Below.refl _ w).alloc (Nat.le_refl _) _).alloc (by simp) _).alloc (by simp; omega) _).alloc (by simp; omega) _
  have hB1 := Blk.new (((w.alloc (.cells C8 34)).alloc (.cells K 36)).alloc (.cells zero8 34)) 36 (arr [])
  simp only [World.size_alloc] at hB1
  change Code.wp _ _ _ _ ((((w.alloc (.cells C8 34)).alloc (.cells K 36)).alloc (.cells zero8 34)).alloc (.cells (arr []) 36))
  obtain ⟨w1, hw1⟩ : ∃ x, ((((w.alloc (.cells C8 34)).alloc (.cells K 36)).alloc (.cells zero8 34)).alloc (.cells (arr []) 36)) = x := ⟨_, rfl⟩
  obtain ⟨b0, hb0⟩ : ∃ x, w.heap.size = x := ⟨_, rfl⟩
  simp only [hw1] at hB1 hO ⊢
  simp only [hb0] at hB1 hO ⊢
  obtain ⟨b1, hb1⟩ : ∃ x, b0 + 1 = x := ⟨_, rfl⟩
  obtain ⟨r, hr⟩ : ∃ x, b1 + 1 = x := ⟨_, rfl⟩
  obtain ⟨g, hg⟩ : ∃ x, r + 1 = x := ⟨_, rfl⟩
  have HG : Hid (r < g ∧ b0 < g ∧ b1 < g ∧ b0 ≤ g) := Lib.hid (by omega)
  have HRR : Hid (b0 < r ∧ b0 ≤ r) := Lib.hid (by omega)
  simp only [hb1, hr, hg] at hB1 hO ⊢
  have HB0 : Hid (w.heap.size = b0) := Lib.hid hb0
  clear hw1 hb0 hb1 hr hg hC8 hK hV
  go_loopw [8] (fun i wr => ∃ t : Nat, t ≤ 64 ∧ i = .int .i64 t ∧ Blk wr g 36 (arr (schedR (L s) t)) ∧ Oth w wr b0 r b0 b1 V) (fun i _ => 64 - (intOf i).toNat)
  case atStart => exact ⟨0, by omega, rfl, hB1, hO⟩
  case round =>
    clear hB1 hO
    obtain ⟨t, ht, rfl, hB1, hO⟩ := hrel
    by_cases hlt : t < 64
    · by_cases h16 : t < 16
      · have hti : (t : Int) < 64 := by omega
        have ht16 : (t : Int) < 16 := by omega
        have hm : IntKind.i64.wrap (4 * (t : Int)) = ((4 * t : Nat) : Int) := by rw [i64_w, w64 (by omega) (by omega)]; omega
        obtain ⟨q0, hq0⟩ : ∃ q, 4 * t = q := ⟨_, rfl⟩
        obtain ⟨q1, hq1⟩ : ∃ q, 4 * t + 1 = q := ⟨_, rfl⟩
        obtain ⟨q2, hq2⟩ : ∃ q, 4 * t + 2 = q := ⟨_, rfl⟩
        obtain ⟨q3, hq3⟩ : ∃ q, 4 * t + 3 = q := ⟨_, rfl⟩
        have hl0 : q0 < s.size := by omega
        have hl1 : q1 < s.size := by omega
        have hl2 : q2 < s.size := by omega
        have hl3 : q3 < s.size := by omega
        rw [hq0] at hm
        have hi0 : (q0 : Int) < 64 := by omega
        have hi1 : (q1 : Int) < 64 := by omega
        have hi2 : (q2 : Int) < 64 := by omega
        have hi3 : (q3 : Int) < 64 := by omega
        have hm1 : IntKind.i64.wrap ((q0 : Int) + 1) = (q1 : Int) := by rw [i64_w, w64 (by omega) (by omega)]; omega
        have hm2 : IntKind.i64.wrap ((q0 : Int) + 2) = (q2 : Int) := by rw [i64_w, w64 (by omega) (by omega)]; omega
        have hm3 : IntKind.i64.wrap ((q0 : Int) + 3) = (q3 : Int) := by rw [i64_w, w64 (by omega) (by omega)]; omega
        have HQ := Lib.hid (And.intro hq0 (And.intro hq1 (And.intro hq2 hq3)))
        have HT := Lib.hid h16
        clear hq0 hq1 hq2 hq3 h16 ht
        go_wp2
        refine wp_region_still_tail 31 (by kernel_rfl) (by kernel_rfl) ?_; simp only [List.take_succ_cons, List.take_zero, List.drop_succ_cons, List.drop_zero]; repeat still_step
        refine wpStill_nil ?_
        change wpList _ _ _ _ _ wr.drew
        obtain ⟨eq0, eq1, eq2, eq3⟩ := HQ.out
        have hwv := word_val4 (L s) t q0 q1 q2 q3 eq0 eq1 eq2 eq3
        rw [← byte_iv s q0 hl0, ← byte_iv s q1 hl1, ← byte_iv s q2 hl2, ← byte_iv s q3 hl3] at hwv
        simp only [hwv]
        clear hwv eq0 eq1 eq2 eq3 hm hm1 hm2 hm3
        obtain ⟨x, hx⟩ : ∃ x, wordK (L s) t 4 = x := ⟨_, rfl⟩
        have HX : Hid (schedR (L s) (t + 1) = schedR (L s) t ++ [x]) := Lib.hid (by rw [← hx]; exact schedR_lo (L s) t HT.out)
        simp only [hx]
        have HP : Hid (Blk (wr.drew.setCell ⟨g, t, none⟩ (.int .u32 (iv x))) g 36 (arr (schedR (L s) (t + 1))) ∧ Oth w (wr.drew.setCell ⟨g, t, none⟩ (.int .u32 (iv x))) b0 r b0 b1 V) := by
          refine Lib.hid ⟨?_, hO.drew.put g t _ HG.out⟩
          have h := hB1.drew.set_ t (wv x)
          have e := arr_put (schedR (L s) t) x (by rw [schedR_len]; exact hlt)
          rw [schedR_len] at e
          rw [e] at h
          rw [HX.out]
          exact h
        have ct : wr.drew.cell? ⟨g, t, none⟩ = some (.int .u32 0) := by
          have hz : (arr (schedR (L s) t))[t]? = some (wv 0#32) := by
            rw [← arr_nought (schedR (L s) t) (by rw [schedR_len]; exact hlt), arr_getD _ t (by rw [List.length_append, schedR_len]; simp)]
            have : (schedR (L s) t ++ [0#32]).getD t 0#32 = 0#32 := by
              rw [List.getD_eq_getElem?_getD, List.getElem?_append_right (by rw [schedR_len]; exact Nat.le_refl _), schedR_len]; simp
            rw [this]
          exact (hB1.drew.cell t).trans hz
        have hft : wr.drew.frozen? ⟨g, t, none⟩ = false := hB1.drew.frozen t
        clear hx hB1 hO
        generalize wr.drew = w8 at HP ct hft ⊢
        go_wp2
        go_roundw
        case rel => exact ⟨t + 1, by omega, by go_num, HP.out.1, HP.out.2⟩
        case measure => simp [intOf]; omega
      · have hti : (t : Int) < 64 := by omega
        have ht16 : ¬ ((t : Int) < 16) := by omega
        have hlen := schedR_len (L s) t
        have HN := Lib.hid (schedR_hi (L s) t (by omega))
        obtain ⟨l, hl⟩ : ∃ l, schedR (L s) t = l := ⟨_, rfl⟩
        rw [hl] at hlen hB1 HN
        clear hl
        obtain ⟨q15, h15⟩ : ∃ q, t - 15 = q := ⟨_, rfl⟩
        obtain ⟨q2, h2⟩ : ∃ q, t - 2 = q := ⟨_, rfl⟩
        obtain ⟨q7, h7⟩ : ∃ q, t - 7 = q := ⟨_, rfl⟩
        obtain ⟨q16, h16'⟩ : ∃ q, t - 16 = q := ⟨_, rfl⟩
        have i15 : IntKind.i64.wrap ((t : Int) - 15) = (q15 : Int) := by rw [i64_w, w64 (by omega) (by omega)]; omega
        have i2 : IntKind.i64.wrap ((t : Int) - 2) = (q2 : Int) := by rw [i64_w, w64 (by omega) (by omega)]; omega
        have i7 : IntKind.i64.wrap ((t : Int) - 7) = (q7 : Int) := by rw [i64_w, w64 (by omega) (by omega)]; omega
        have i16 : IntKind.i64.wrap ((t : Int) - 16) = (q16 : Int) := by rw [i64_w, w64 (by omega) (by omega)]; omega
        have b15 : (q15 : Int) < 64 := by omega
        have b2 : (q2 : Int) < 64 := by omega
        have b7 : (q7 : Int) < 64 := by omega
        have b16 : (q16 : Int) < 64 := by omega
        have n15 : q15 < 64 := by omega
        have n2 : q2 < 64 := by omega
        have n7 : q7 < 64 := by omega
        have n16 : q16 < 64 := by omega
        obtain ⟨x15, hx15⟩ : ∃ x, l.getD q15 0#32 = x := ⟨_, rfl⟩
        obtain ⟨x2, hx2⟩ : ∃ x, l.getD q2 0#32 = x := ⟨_, rfl⟩
        obtain ⟨x7, hx7⟩ : ∃ x, l.getD q7 0#32 = x := ⟨_, rfl⟩
        obtain ⟨x16, hx16⟩ : ∃ x, l.getD q16 0#32 = x := ⟨_, rfl⟩
        have c15 : wr.cell? ⟨g, q15, none⟩ = some (.int .u32 (iv x15)) := by rw [hB1.cell q15, arr_getD _ q15 (by omega), hx15]; rfl
        have c2 : wr.cell? ⟨g, q2, none⟩ = some (.int .u32 (iv x2)) := by rw [hB1.cell q2, arr_getD _ q2 (by omega), hx2]; rfl
        have c7 : wr.cell? ⟨g, q7, none⟩ = some (.int .u32 (iv x7)) := by rw [hB1.cell q7, arr_getD _ q7 (by omega), hx7]; rfl
        have c16 : wr.cell? ⟨g, q16, none⟩ = some (.int .u32 (iv x16)) := by rw [hB1.cell q16, arr_getD _ q16 (by omega), hx16]; rfl
        have HX : Hid (nextW l = x16 + sg0 x15 + x7 + sg1 x2) := Lib.hid (by
          unfold nextW
          rw [hlen, h2, h7, h15, h16', hx2, hx7, hx15, hx16]
          exact sum4 _ _ _ _)
        have HLN := Lib.hid hlen
        clear h15 h2 h7 h16' hx15 hx2 hx7 hx16 hlen h16 ht
        go_wp2
        refine wp_region_still_tail 29 (by kernel_rfl) (by kernel_rfl) ?_; simp only [List.take_succ_cons, List.take_zero, List.drop_succ_cons, List.drop_zero]; repeat still_step
        still_call (rturn_calls _ x15 7 (by decide))
        repeat still_step
        still_call (rturn_calls _ x15 18 (by decide))
        repeat still_step
        still_call (rturn_calls _ x2 17 (by decide))
        repeat still_step
        still_call (rturn_calls _ x2 19 (by decide))
        repeat still_step
        refine wpStill_nil ?_
        change wpList _ _ _ _ _ wr.drew
        have e0 : ror x15 7 ^^^ ror x15 18 ^^^ x15 >>> 3 = sg0 x15 := rfl
        have e1 : ror x2 17 ^^^ ror x2 19 ^^^ x2 >>> 10 = sg1 x2 := rfl
        simp only [div8, div1024, iv_xor, e0, e1, iv_add]
        clear e0 e1 c15 c2 c7 c16
        obtain ⟨x, hx⟩ : ∃ x, x16 + sg0 x15 + x7 + sg1 x2 = x := ⟨_, rfl⟩
        rw [hx] at HX
        simp only [hx]
        have HP : Hid (Blk (wr.drew.setCell ⟨g, t, none⟩ (.int .u32 (iv x))) g 36 (arr (schedR (L s) (t + 1))) ∧ Oth w (wr.drew.setCell ⟨g, t, none⟩ (.int .u32 (iv x))) b0 r b0 b1 V) := by
          refine Lib.hid ⟨?_, hO.drew.put g t _ HG.out⟩
          have h := hB1.drew.set_ t (wv x)
          have e := arr_put l x (by rw [HLN.out]; exact hlt)
          rw [HLN.out] at e
          rw [e] at h
          rw [HN.out, HX.out]
          exact h
        have ct : wr.drew.cell? ⟨g, t, none⟩ = some (.int .u32 0) := by
          have hz : (arr l)[t]? = some (wv 0#32) := by
            rw [← arr_nought l (by rw [HLN.out]; exact hlt), arr_getD _ t (by rw [List.length_append, HLN.out]; simp)]
            have : (l ++ [0#32]).getD t 0#32 = 0#32 := by
              rw [List.getD_eq_getElem?_getD, List.getElem?_append_right (by rw [HLN.out]; exact Nat.le_refl _), HLN.out]; simp
            rw [this]
          exact (hB1.drew.cell t).trans hz
        have hft : wr.drew.frozen? ⟨g, t, none⟩ = false := hB1.drew.frozen t
        clear hx hB1 hO
        generalize wr.drew = w8 at HP ct hft ⊢
        go_wp2
        go_roundw
        case rel => exact ⟨t + 1, by omega, by go_num, HP.out.1, HP.out.2⟩
        case measure => simp [intOf]; omega
    · have ht64 : t = 64 := by omega
      have hti : ¬ ((t : Int) < 64) := by omega
      have hB2 : Blk wr g 36 (arr (sched (L s))) := by rw [ht64, schedR_64] at hB1; exact hB1
      clear hB1 hlt ht ht64
      have hsl := sched_len (L s)
      obtain ⟨ws, hws⟩ : ∃ ws, sched (L s) = ws := ⟨_, rfl⟩
      have HWS := Lib.hid hws
      rw [hws] at hsl hB2
      clear hws
      have hb := hO.h0
      have HRG : Hid (wr.rangeAt b0 0 (cells8 V).toList) := Lib.hid (rangeAt_blk hb)
      have HI8 : Hid ((Tryd.prog.info? 34).map (·.size) = some (cells8 V).toList.length) := Lib.hid (by show _ = some 8; kernel_rfl)
      have HI8b : Hid ((Tryd.prog.info? 34).map (·.size) = some (cells8 V).toList.toArray.size) := Lib.hid (by show _ = some 8; kernel_rfl)
      have HO8 : Hid ((cells8 V).toList.toArray.all (·.oneCell') = true) := Lib.hid (by simp [cells8, Value.oneCell'])
      have HTH : Hid ((wr.alloc (.cells zero8 34)).there wr.heap.size 0 (cells8 V).toList.toArray.size) := Lib.hid (there_blk (Blk.new wr 34 zero8) (by rw [Array.toArray_toList]; exact Nat.le_refl 8))
      have HBU : Hid (Blk ((wr.alloc (.cells zero8 34)).setCells wr.heap.size 0 (cells8 V).toList) wr.heap.size 34 (cells8 V)) := Lib.hid (blk_whole (Blk.new wr 34 zero8) rfl)
      obtain ⟨cs, hcs⟩ : ∃ cs, (cells8 V).toList = cs := ⟨_, rfl⟩
      have HCS := Lib.hid hcs
      simp only [hcs] at HRG HI8 HI8b HO8 HTH HBU
      clear hcs hb
      go_wp2_with (first | (refine wpList_load_mid rfl 34 (.tmp 3) rfl b0 0 rfl cs _ HRG.out Tryd.underlying34 rfl HI8.out ?_) | (refine wpList_store_mid rfl 34 (.tmp 11) (.tmp 92) rfl wr.heap.size 0 cs.toArray rfl rfl HTH.out HI8b.out HO8.out ?_))
      change Code.wp _ _ _ _ ((wr.alloc (.cells zero8 34)).setCells wr.heap.size 0 cs)
      have hG3 : Blk ((wr.alloc (.cells zero8 34)).setCells wr.heap.size 0 cs) g 36 (arr ws) := blk_whole_far (hB2.alloc _) (Nat.ne_of_lt hB2.lt) _ _
      have hO3 := hO.fresh zero8 34 cs (Nat.le_trans (HB0.out ▸ Nat.le_refl _) hO.hb.size)
      have hU3 := HBU.out
      have hgu := hB2.lt
      obtain ⟨w3, hw3⟩ : ∃ x, ((wr.alloc (.cells zero8 34)).setCells wr.heap.size 0 cs) = x := ⟨_, rfl⟩
      obtain ⟨ub, hub⟩ : ∃ x, wr.heap.size = x := ⟨_, rfl⟩
      simp only [hw3] at hG3 hO3 hU3 ⊢
      simp only [hub] at hG3 hO3 hU3 hgu ⊢
      have HGU : Hid (r < ub ∧ b0 < ub ∧ b1 < ub ∧ b0 ≤ ub) := Lib.hid (by have := HG.out; omega)
      have HGG : Hid (g ≠ ub) := Lib.hid (by omega)
      clear hw3 hub HBU HTH HO8 HI8 HI8b HRG HCS hgu hB2 hO
      go_loopw [12] (fun i wq => ∃ (t : Nat) (u : V8), t ≤ 64 ∧ Hid (runs V ws t = u) ∧ i = .int .i64 t ∧ Blk wq ub 34 (cells8 u) ∧ Blk wq g 36 (arr ws) ∧ Oth w wq b0 r b0 b1 V) (fun i _ => 64 - (intOf i).toNat)
      case atStart => exact ⟨0, V, by omega, Lib.hid rfl, rfl, hU3, hG3, hO3⟩
      case round =>
        clear hU3 hG3 hO3
        obtain ⟨t, ⟨ua, uu, uc, ud, ue, uf, ug, uh⟩, ht, HU, rfl, hU, hG, hO⟩ := hrel
        by_cases hlt : t < 64
        · obtain ⟨k, hk⟩ : ∃ k, kc.getD t 0#32 = k := ⟨_, rfl⟩
          obtain ⟨x, hx⟩ : ∃ x, ws.getD t 0#32 = x := ⟨_, rfl⟩
          have HST : Hid (runs V ws (t + 1) = step ⟨ua, uu, uc, ud, ue, uf, ug, uh⟩ k x) := Lib.hid (by rw [runs, HU.out, hk, hx])
          have hkl : t < kc.length := hlt
          have ck : wr.cell? ⟨b1, t, none⟩ = some (.int .u32 (iv k)) := by rw [hO.h1.cell t, arr_getD _ t hkl, hk]; rfl
          have cx : wr.cell? ⟨g, t, none⟩ = some (.int .u32 (iv x)) := by rw [hG.cell t, arr_getD _ t (by omega), hx]; rfl
          have c0 : wr.cell? ⟨ub, 0, none⟩ = some (.int .u32 (iv ua)) := (hU.cell 0).trans rfl
          have c1 : wr.cell? ⟨ub, 1, none⟩ = some (.int .u32 (iv uu)) := (hU.cell 1).trans rfl
          have c2 : wr.cell? ⟨ub, 2, none⟩ = some (.int .u32 (iv uc)) := (hU.cell 2).trans rfl
          have c3 : wr.cell? ⟨ub, 3, none⟩ = some (.int .u32 (iv ud)) := (hU.cell 3).trans rfl
          have c4 : wr.cell? ⟨ub, 4, none⟩ = some (.int .u32 (iv ue)) := (hU.cell 4).trans rfl
          have c5 : wr.cell? ⟨ub, 5, none⟩ = some (.int .u32 (iv uf)) := (hU.cell 5).trans rfl
          have c6 : wr.cell? ⟨ub, 6, none⟩ = some (.int .u32 (iv ug)) := (hU.cell 6).trans rfl
          have c7 : wr.cell? ⟨ub, 7, none⟩ = some (.int .u32 (iv uh)) := (hU.cell 7).trans rfl
          clear hk hx HU hkl hsl
          have hti : (t : Int) < 64 := by omega
          go_wp2
          simp only [not_sub, iv_and, iv_or, ch_or]
          refine wp_region_still_lit (by kernel_rfl) (by kernel_rfl) ?_
          repeat still_step
          still_call (rturn_calls _ ue 6 (by decide))
          repeat still_step
          still_call (rturn_calls _ ue 11 (by decide))
          repeat still_step
          still_call (rturn_calls _ ue 25 (by decide))
          repeat still_step
          refine wpStill_nil ?_
          have e1 : ror ue 6 ^^^ ror ue 11 ^^^ ror ue 25 = bs1 ue := rfl
          simp only [iv_xor, e1, iv_add]
          clear e1 ck cx c0 c1 c2 c3 c4 c5 c6 c7
          obtain ⟨t1, ht1⟩ : ∃ t1, uh + bs1 ue + ch ue uf ug + k + x = t1 := ⟨_, rfl⟩
          simp only [ht1]
          have HT1 := Lib.hid ht1
          clear ht1
          show (_ : Exit → Act → World → Prop) Exit.normal _ wr.drew
          have hU4 := hU.drew
          have hG4 := hG.drew
          have hO4 := hO.drew
          generalize wr.drew = w4 at hU4 hG4 hO4 ⊢
          clear hU hG hO
          have c0 : w4.cell? ⟨ub, 0, none⟩ = some (.int .u32 (iv ua)) := (hU4.cell 0).trans rfl
          have c1 : w4.cell? ⟨ub, 1, none⟩ = some (.int .u32 (iv uu)) := (hU4.cell 1).trans rfl
          have c2 : w4.cell? ⟨ub, 2, none⟩ = some (.int .u32 (iv uc)) := (hU4.cell 2).trans rfl
          go_wp2
          simp only [iv_and, iv_or, mj_or]
          refine wp_region_still_lit (by kernel_rfl) (by kernel_rfl) ?_
          repeat still_step
          still_call (rturn_calls _ ua 2 (by decide))
          repeat still_step
          still_call (rturn_calls _ ua 13 (by decide))
          repeat still_step
          still_call (rturn_calls _ ua 22 (by decide))
          repeat still_step
          refine wpStill_nil ?_
          have e1 : ror ua 2 ^^^ ror ua 13 ^^^ ror ua 22 = bs0 ua := rfl
          simp only [iv_xor, e1, iv_add]
          clear e1 c0 c1 c2
          obtain ⟨t2, ht2⟩ : ∃ t2, bs0 ua + mj ua uu uc = t2 := ⟨_, rfl⟩
          simp only [ht2]
          have HT2 := Lib.hid ht2
          clear ht2
          show (_ : Exit → Act → World → Prop) Exit.normal _ w4.drew
          have hU5 := hU4.drew
          have hG5 := hG4.drew
          have hO5 := hO4.drew
          generalize w4.drew = w5 at hU5 hG5 hO5 ⊢
          clear hU4 hG4 hO4
          have c0 : w5.cell? ⟨ub, 0, none⟩ = some (.int .u32 (iv ua)) := (hU5.cell 0).trans rfl
          have c1 : w5.cell? ⟨ub, 1, none⟩ = some (.int .u32 (iv uu)) := (hU5.cell 1).trans rfl
          have c2 : w5.cell? ⟨ub, 2, none⟩ = some (.int .u32 (iv uc)) := (hU5.cell 2).trans rfl
          have c3 : w5.cell? ⟨ub, 3, none⟩ = some (.int .u32 (iv ud)) := (hU5.cell 3).trans rfl
          have c4 : w5.cell? ⟨ub, 4, none⟩ = some (.int .u32 (iv ue)) := (hU5.cell 4).trans rfl
          have c5 : w5.cell? ⟨ub, 5, none⟩ = some (.int .u32 (iv uf)) := (hU5.cell 5).trans rfl
          have c6 : w5.cell? ⟨ub, 6, none⟩ = some (.int .u32 (iv ug)) := (hU5.cell 6).trans rfl
          have c7 : w5.cell? ⟨ub, 7, none⟩ = some (.int .u32 (iv uh)) := (hU5.cell 7).trans rfl
          have HTH : Hid (w5.there ub 0 8) := Lib.hid (there_blk hU5 (Nat.le_refl 8))
          have HI8 : Hid ((Tryd.prog.info? 34).map (·.size) = some 8) := Lib.hid (by kernel_rfl)
          iterate 60 go_step
          refine wpList_build8 rfl _ rfl rfl ?_
          refine wpList_store_mid rfl 34 (.tmp 11) (.tmp 182) rfl ub 0 _ rfl rfl HTH.out HI8.out (by simp [Value.oneCell']) ?_
          have hU6 := blk_whole hU5 (cs := cells8 (step ⟨ua, uu, uc, ud, ue, uf, ug, uh⟩ k x)) rfl
          have ec : (cells8 (step ⟨ua, uu, uc, ud, ue, uf, ug, uh⟩ k x)).toList = [.int .u32 ((iv t1 + iv t2) % 4294967296), .int .u32 (iv ua), .int .u32 (iv uu), .int .u32 (iv uc), .int .u32 ((iv ud + iv t1) % 4294967296), .int .u32 (iv ue), .int .u32 (iv uf), .int .u32 (iv ug)] := by
            simp only [add_val]
            rw [← HT1.out, ← HT2.out]
            rfl
          rw [ec] at hU6
          show wpList _ _ _ _ _ (w5.setCells ub 0 [.int .u32 ((iv t1 + iv t2) % 4294967296), .int .u32 (iv ua), .int .u32 (iv uu), .int .u32 (iv uc), .int .u32 ((iv ud + iv t1) % 4294967296), .int .u32 (iv ue), .int .u32 (iv uf), .int .u32 (iv ug)])
          have hG6 : Blk (w5.setCells ub 0 [.int .u32 ((iv t1 + iv t2) % 4294967296), .int .u32 (iv ua), .int .u32 (iv uu), .int .u32 (iv uc), .int .u32 ((iv ud + iv t1) % 4294967296), .int .u32 (iv ue), .int .u32 (iv uf), .int .u32 (iv ug)]) g 36 (arr ws) := blk_whole_far hG5 HGG.out _ _
          have hO6 := hO5.many ub [.int .u32 ((iv t1 + iv t2) % 4294967296), .int .u32 (iv ua), .int .u32 (iv uu), .int .u32 (iv uc), .int .u32 ((iv ud + iv t1) % 4294967296), .int .u32 (iv ue), .int .u32 (iv uf), .int .u32 (iv ug)] HGU.out
          generalize w5.setCells ub 0 [.int .u32 ((iv t1 + iv t2) % 4294967296), .int .u32 (iv ua), .int .u32 (iv uu), .int .u32 (iv uc), .int .u32 ((iv ud + iv t1) % 4294967296), .int .u32 (iv ue), .int .u32 (iv uf), .int .u32 (iv ug)] = w6 at hU6 hG6 hO6 ⊢
          clear c0 c1 c2 c3 c4 c5 c6 c7 hU5 hG5 hO5 ec HTH HI8
          go_wp2
          go_roundw
          case rel => exact ⟨t + 1, step ⟨ua, uu, uc, ud, ue, uf, ug, uh⟩ k x, by omega, HST, by go_num, hU6, hG6, hO6⟩
          case measure => simp [intOf]; omega
        · have ht64 : t = 64 := by omega
          have hti : ¬ ((t : Int) < 64) := by omega
          obtain ⟨U, hUe⟩ : ∃ U, (⟨ua, uu, uc, ud, ue, uf, ug, uh⟩ : V8) = U := ⟨_, rfl⟩
          rw [hUe] at HU hU
          have HF : Hid (R = add8 V U) := Lib.hid (by
            rw [← HR.out]
            unfold comp
            rw [HWS.out, ← HU.out, ht64, HV.out])
          have hM : Blk wr ub 34 (mixA U V 0) := by rw [mix_zero]; exact hU
          clear hUe HU hU hG hlt ht ht64 hsl
          go_wp2
          go_loopw [17] (fun i wq => ∃ j : Nat, j ≤ 8 ∧ i = .int .i64 j ∧ Blk wq ub 34 (mixA U V j) ∧ Oth w wq b0 r b0 b1 V) (fun i _ => 8 - (intOf i).toNat)
          case atStart => exact ⟨0, by omega, rfl, hM, hO⟩
          case round =>
            clear hM hO
            obtain ⟨j, hj, rfl, hM, hO⟩ := hrel
            by_cases hlj : j < 8
            · obtain ⟨x, hx⟩ : ∃ x, (words8 U).getD j 0#32 = x := ⟨_, rfl⟩
              obtain ⟨y, hy⟩ : ∃ y, (words8 V).getD j 0#32 = y := ⟨_, rfl⟩
              have cu : wr.cell? ⟨ub, j, none⟩ = some (.int .u32 (iv x)) := by rw [hM.cell j, mix_get U V j hlj, hx]; rfl
              have cv : wr.cell? ⟨b0, j, none⟩ = some (.int .u32 (iv y)) := by rw [hO.h0.cell j, cells8_words V j hlj, hy]
              have HS : Hid ((mixA U V j).setIfInBounds j (wv (x + y)) = mixA U V (j + 1)) := Lib.hid (by
                have := mix_set U V j hlj
                rw [hx, hy, BitVec.add_comm] at this
                exact this)
              have hji : (j : Int) < 8 := by omega
              clear hx hy
              go_wp2
              refine wp_region_still_tail 9 (by kernel_rfl) (by kernel_rfl) ?_; simp only [List.take_succ_cons, List.take_zero, List.drop_succ_cons, List.drop_zero]; repeat still_step
              refine wpStill_nil ?_
              change wpList _ _ _ _ _ wr.drew
              simp only [iv_add]
              have hM2 : Blk (wr.drew.setCell ⟨ub, j, none⟩ (.int .u32 (iv (x + y)))) ub 34 (mixA U V (j + 1)) := by
                have h := hM.drew.set_ j (wv (x + y))
                rw [HS.out] at h
                exact h
              have hO2 := hO.drew.put ub j (.int .u32 (iv (x + y))) HGU.out
              have hft : wr.drew.frozen? ⟨ub, j, none⟩ = false := hM.drew.frozen j
              have ct : wr.drew.cell? ⟨ub, j, none⟩ = some (.int .u32 (iv x)) := cu
              clear cu cv hM hO
              generalize wr.drew = w8 at hM2 hO2 ct hft ⊢
              go_wp2
              go_roundw
              case rel => exact ⟨j + 1, by omega, by go_num, hM2, hO2⟩
              case measure => simp [intOf]; omega
            · have hj8 : j = 8 := by omega
              have hji : ¬ ((j : Int) < 8) := by omega
              rw [hj8, mix_full, ← HF.out] at hM
              clear hj8 hlj hj
              have HRT : Hid (wr.there r 0 (cells8 R).toList.toArray.size) := Lib.hid (by rw [Array.toArray_toList]; exact there_blk hO.hr (Nat.le_refl 8))
              have HBR : Hid (wr.rangeAt ub 0 (cells8 R).toList) := Lib.hid (rangeAt_blk hM)
              have HI8 : Hid ((Tryd.prog.info? 34).map (·.size) = some (cells8 R).toList.length) := Lib.hid (by show _ = some 8; kernel_rfl)
              have HI8b : Hid ((Tryd.prog.info? 34).map (·.size) = some (cells8 R).toList.toArray.size) := Lib.hid (by show _ = some 8; kernel_rfl)
              have HO8 : Hid ((cells8 R).toList.toArray.all (·.oneCell') = true) := Lib.hid (by simp [cells8, Value.oneCell'])
              obtain ⟨cs, hcs⟩ : ∃ cs, (cells8 R).toList = cs := ⟨_, rfl⟩
              have HCS := Lib.hid hcs
              simp only [hcs] at HRT HBR HI8 HI8b HO8
              clear hcs hM
              go_wp2_with (first | (refine wpList_load_mid rfl 34 (.tmp 11) rfl ub 0 rfl cs _ HBR.out Tryd.underlying34 rfl HI8.out ?_) | (refine wpList_store_mid rfl 34 (.tmp 6) (.tmp 196) rfl r 0 cs.toArray rfl rfl HRT.out HI8b.out HO8.out ?_))
              have HRR2 := World.rangeAt_setCells_same wr r 0 cs (by have := HRT.out; simpa using this)
              have hl := run_loadVar_mid (P := Tryd.prog) (wr.setCells r 0 cs) r 0 34 cs _ HRR2 Tryd.underlying34 rfl HI8.out
              refine bodyPost_ret (v := .agg cs.toArray) (results_agg rfl rfl hl) rfl ⟨by rw [← HCS.out, Array.toArray_toList], ?_⟩
              have h1 := HB0.out
              have h2 := HRR.out
              have hb := hO.hb
              rw [← h1] at hb
              exact below_cells hb (by omega)
end Go.Proofs.YtjmahkpmnajmfaaDoor.Sha
