/- the reference's sum: Begin, Constants, turn. -/
import Derived.Test.YtcdhpknjinonhaaDoorShaAll
import Derived.ArgAppend
namespace Go.Proofs.YtcdhpknjinonhaaDoor.Sha
open Go.RowKit Go.Proofs.YtcdhpknjinonhaaDoor.Mem Go.Proofs.YtcdhpknjinonhaaDoor.X Go.Proofs.YtcdhpknjinonhaaDoorW.PrintWords Go.Proofs.YtcdhpknjinonhaaDoorW.PrintLast Go.Proofs.YtcdhpknjinonhaaDoorW.PrintMore Go.Proofs.YtcdhpknjinonhaaDoor.Aid
attribute [-simp] Tryd.sizeOf72 Tryd.isAgg72 Tryd.zeroValue72
set_option linter.unusedVariables false
set_option linter.unusedSimpArgs false
theorem loadVar_blk {P : Program} {w : World} {g : Nat} {t : TypeId} {cs : Array Value} {d : TypeDesc} (h : Blk w g t cs) (ty : TypeId) (hu : P.underlying ty = some d) (hd : d.isRow = true) (hi : (P.info? ty).map (·.size) = some cs.size) :
    (loadVar ty ⟨g, 0, none⟩).run P w = .ok (.agg cs) w := by
  have := run_loadVar_mid (P := P) w g 0 ty cs.toList d (rangeAt_blk h) hu hd (by rw [hi]; simp)
  simpa using this
theorem rturn_calls (w : World) (x : W) (n : Nat) (hn : n ≤ 32) :
    Calls Tryd.prog 62 #[.int .u32 (iv x), .int .u64 (n : Int)] w fun e w' => e = .returned (.int .u32 (iv (ror x n))) ∧ w' = w := by
  have h2 : IntKind.u64.wrap (32 - (n : Int)) = ((32 - n : Nat) : Int) := by
    rw [IntKind.wrap_u64]; omega
  have h3 : (32 - (n : Int)) % 18446744073709551616 = ((32 - n : Nat) : Int) := by omega
  have hp : 0 ≤ ((32 - n : Nat) : Int) := by omega
  have hq : 0 ≤ (n : Int) := by omega
  have e : bits .or .u32 (iv x / 2 ^ min n 32) (iv x * 2 ^ min (32 - n) 32 % 4294967296) = iv (ror x n) := by
    rw [Nat.min_eq_left (by omega), Nat.min_eq_left (by omega), ← wrap_u32, iv_shl, iv_shr, iv_or]
    unfold ror
    rw [BitVec.or_comm]
  obtain ⟨m, hm⟩ : ∃ m, 32 - n = m := ⟨_, rfl⟩
  rw [hm] at h2 h3 hp e
  have HE := Lib.hid e
  go_enter Tryd.func62, Tryd.ntmps62
  clear hn hm e
  go_wp2
  simp only [HE.out]
  go_ret
  exact ⟨rfl, rfl⟩
set_option maxHeartbeats 4000000 in
set_option maxRecDepth 100000 in
theorem rBegin_calls (w : World) : Calls Tryd.prog 49 #[] w fun e w' => e = .returned (.agg (cells8 vbegin)) ∧ Below w.heap.size w w' := by
  go_enter Tryd.func49, Tryd.ntmps49
  go_wp2
  have ev : (#[.int .u32 1779033703, .int .u32 3144134277, .int .u32 1013904242, .int .u32 2773480762, .int .u32 1359893119, .int .u32 2600822924, .int .u32 528734635, .int .u32 1541459225] : Array Value) = cells8 vbegin := by kernel_rfl
  simp only [ev]
  have hi : (Tryd.prog.info? 70).map (·.size) = some (cells8 vbegin).size := by show _ = some 8; kernel_rfl
  obtain ⟨cs, hcs⟩ : ∃ cs, cells8 vbegin = cs := ⟨_, rfl⟩
  rw [hcs] at hi ⊢
  have hB := Blk.new w 70 cs
  refine bodyPost_ret (v := .agg cs) (results_agg rfl rfl (loadVar_blk hB 70 Tryd.underlying70 rfl hi)) rfl ⟨rfl, ?_⟩
  exact (Below.refl _ w).alloc (Nat.le_refl _) _
def kparts : Array (Nat × Value) := #[(0, .int .u32 1116352408), (1, .int .u32 1899447441), (2, .int .u32 3049323471), (3, .int .u32 3921009573), (4, .int .u32 961987163), (5, .int .u32 1508970993), (6, .int .u32 2453635748), (7, .int .u32 2870763221), (8, .int .u32 3624381080), (9, .int .u32 310598401), (10, .int .u32 607225278), (11, .int .u32 1426881987), (12, .int .u32 1925078388), (13, .int .u32 2162078206), (14, .int .u32 2614888103), (15, .int .u32 3248222580), (16, .int .u32 3835390401), (17, .int .u32 4022224774), (18, .int .u32 264347078), (19, .int .u32 604807628), (20, .int .u32 770255983), (21, .int .u32 1249150122), (22, .int .u32 1555081692), (23, .int .u32 1996064986), (24, .int .u32 2554220882), (25, .int .u32 2821834349), (26, .int .u32 2952996808), (27, .int .u32 3210313671), (28, .int .u32 3336571891), (29, .int .u32 3584528711), (30, .int .u32 113926993), (31, .int .u32 338241895), (32, .int .u32 666307205), (33, .int .u32 773529912), (34, .int .u32 1294757372), (35, .int .u32 1396182291), (36, .int .u32 1695183700), (37, .int .u32 1986661051), (38, .int .u32 2177026350), (39, .int .u32 2456956037), (40, .int .u32 2730485921), (41, .int .u32 2820302411), (42, .int .u32 3259730800), (43, .int .u32 3345764771), (44, .int .u32 3516065817), (45, .int .u32 3600352804), (46, .int .u32 4094571909), (47, .int .u32 275423344), (48, .int .u32 430227734), (49, .int .u32 506948616), (50, .int .u32 659060556), (51, .int .u32 883997877), (52, .int .u32 958139571), (53, .int .u32 1322822218), (54, .int .u32 1537002063), (55, .int .u32 1747873779), (56, .int .u32 1955562222), (57, .int .u32 2024104815), (58, .int .u32 2227730452), (59, .int .u32 2361852424), (60, .int .u32 2428436474), (61, .int .u32 2756734187), (62, .int .u32 3204031479), (63, .int .u32 3329325298)]
set_option maxHeartbeats 4000000 in
set_option maxRecDepth 100000 in
theorem fill64 : Instr.fill (fun i => some (i * 1, 1)) (arr []) kparts.toList = some (arr kc) := by kernel_rfl
set_option maxHeartbeats 4000000 in
set_option maxRecDepth 100000 in
theorem build64 (w : World) : (Instr.build 72 kparts).run Tryd.prog w = .ok (.agg (arr kc)) w := by
  have hs : ∀ w, (sizeOf 69).run Tryd.prog w = .ok 1 w := fun w => by simp
  have hc : Value.cells (.agg (arr [])) = arr [] := rfl
  unfold Instr.build
  simp only [Sem.run_bind, zero64, Result.andThen_ok, run_underlying Tryd.underlying72, hs, hc, fill64, Sem.run_pure]
theorem wpList_build64 {ops : Array Oper} {rest : List Oper} {op : Oper} {a : Act} {w : World} {Q : Exit → Act → World → Prop} (hgd : op.guard = none) (parts : Array (Nat × Operand)) (ho : op.op = .build 72 parts)
    (hv' : parts.toList.map (fun p => (p.1, a.eval p.2)) = kparts.toList) (h : wpList Tryd.prog ops Q rest (a.put op.dst (.agg (arr kc))) w) : wpList Tryd.prog ops Q (op :: rest) a w := by
  have hv : parts.map (fun p => (p.1, a.eval p.2)) = kparts := by
    apply Array.toList_inj.1
    rw [Array.toList_map]
    exact hv'
  refine Kd.event_run hgd ?_ h
  unfold execOp
  simp only [ho, hv, Sem.run_bind, build64, Result.andThen_ok, Sem.run_pure]
set_option maxHeartbeats 4000000 in
set_option maxRecDepth 100000 in
theorem rConst_calls (w : World) : Calls Tryd.prog 50 #[] w fun e w' => e = .returned (.agg (arr kc)) ∧ Below w.heap.size w w' := by
  go_enter Tryd.func50, Tryd.ntmps50
  have hth := there_blk (Blk.new w 72 (arr [])) (n := (arr kc).size) (Nat.le_refl _)
  have hz := zero64 w
  go_wp2_with (first | (refine wpList_build64 rfl _ rfl rfl ?_) | (refine wpList_store_mid rfl 72 (.tmp 0) (.tmp 1) rfl w.heap.size 0 (arr kc) rfl rfl hth (by show _ = some 64; kernel_rfl) (arr_one kc) ?_))
  have hi : (Tryd.prog.info? 72).map (·.size) = some (arr kc).size := by show _ = some 64; kernel_rfl
  have hB := blk_whole (Blk.new w 72 (arr [])) (cs := arr kc) (by rw [arr_size kc (by decide), arr_size [] (by decide)])
  obtain ⟨cs, hcs⟩ : ∃ cs, arr kc = cs := ⟨_, rfl⟩
  rw [hcs] at hi hB ⊢
  refine bodyPost_ret (v := .agg cs) (results_agg rfl rfl (loadVar_blk hB 72 Tryd.underlying72 rfl hi)) rfl ⟨rfl, ?_⟩
  exact below_cells (((Below.refl _ w).alloc (Nat.le_refl _) _)) (Nat.le_refl _)
end Go.Proofs.YtcdhpknjinonhaaDoor.Sha
/- the reference's sum: one. -/
namespace Go.Proofs.YtcdhpknjinonhaaDoor.Sha
open Go.RowKit Go.Proofs.YtcdhpknjinonhaaDoor.Mem Go.Proofs.YtcdhpknjinonhaaDoor.X Go.Proofs.YtcdhpknjinonhaaDoorW.PrintWords Go.Proofs.YtcdhpknjinonhaaDoorW.PrintLast Go.Proofs.YtcdhpknjinonhaaDoorW.PrintMore Go.Proofs.YtcdhpknjinonhaaDoor.Aid
attribute [-simp] Tryd.sizeOf72 Tryd.isAgg72 Tryd.zeroValue72
set_option linter.unusedVariables false
set_option linter.unusedSimpArgs false
theorem fill8 (x0 x1 x2 x3 x4 x5 x6 x7 : Int) : Instr.fill (fun i => some (i * 1, 1)) zero8 [(0, .int .u32 x0), (1, .int .u32 x1), (2, .int .u32 x2), (3, .int .u32 x3), (4, .int .u32 x4), (5, .int .u32 x5), (6, .int .u32 x6), (7, .int .u32 x7)] = some #[.int .u32 x0, .int .u32 x1, .int .u32 x2, .int .u32 x3, .int .u32 x4, .int .u32 x5, .int .u32 x6, .int .u32 x7] := by
  simp [Instr.fill, zero8, Value.cells, List.zipIdx]
theorem zero8_run (w : World) : (zeroValue 70).run Tryd.prog w = .ok (.agg zero8) w := by
  have h : (Tryd.prog.info? 70).map (fun i => (i.zero, i.size)) = some (some (.agg zero8), 8) := by kernel_rfl
  exact (zero_of_info h).1 w
theorem build8 (x0 x1 x2 x3 x4 x5 x6 x7 : Int) (w : World) : (Instr.build 70 #[(0, .int .u32 x0), (1, .int .u32 x1), (2, .int .u32 x2), (3, .int .u32 x3), (4, .int .u32 x4), (5, .int .u32 x5), (6, .int .u32 x6), (7, .int .u32 x7)]).run Tryd.prog w = .ok (.agg #[.int .u32 x0, .int .u32 x1, .int .u32 x2, .int .u32 x3, .int .u32 x4, .int .u32 x5, .int .u32 x6, .int .u32 x7]) w := by
  have hs : ∀ w, (sizeOf 69).run Tryd.prog w = .ok 1 w := fun w => by simp
  have hc : Value.cells (.agg zero8) = zero8 := rfl
  have hf := fill8 x0 x1 x2 x3 x4 x5 x6 x7
  unfold Instr.build
  simp only [Sem.run_bind, zero8_run, Result.andThen_ok, run_underlying Tryd.underlying70, hs, hc, hf, Sem.run_pure]
theorem wpList_build8 {ops : Array Oper} {rest : List Oper} {op : Oper} {a : Act} {w : World} {Q : Exit → Act → World → Prop} (hgd : op.guard = none) (parts : Array (Nat × Operand)) (ho : op.op = .build 70 parts) {x0 x1 x2 x3 x4 x5 x6 x7 : Int}
    (hv' : parts.toList.map (fun p => (p.1, a.eval p.2)) = [(0, .int .u32 x0), (1, .int .u32 x1), (2, .int .u32 x2), (3, .int .u32 x3), (4, .int .u32 x4), (5, .int .u32 x5), (6, .int .u32 x6), (7, .int .u32 x7)]) (h : wpList Tryd.prog ops Q rest (a.put op.dst (.agg #[.int .u32 x0, .int .u32 x1, .int .u32 x2, .int .u32 x3, .int .u32 x4, .int .u32 x5, .int .u32 x6, .int .u32 x7])) w) : wpList Tryd.prog ops Q (op :: rest) a w := by
  have hv : parts.map (fun p => (p.1, a.eval p.2)) = #[(0, .int .u32 x0), (1, .int .u32 x1), (2, .int .u32 x2), (3, .int .u32 x3), (4, .int .u32 x4), (5, .int .u32 x5), (6, .int .u32 x6), (7, .int .u32 x7)] := by
    apply Array.toList_inj.1
    rw [Array.toList_map]
    exact hv'
  refine Kd.event_run hgd ?_ h
  unfold execOp
  simp only [ho, hv, Sem.run_bind, build8, Result.andThen_ok, Sem.run_pure]
def mixA (u v : V8) (i : Nat) : Array Value := ((List.range 8).map fun j => wv (if j < i then (words8 v).getD j 0#32 + (words8 u).getD j 0#32 else (words8 u).getD j 0#32)).toArray
theorem mix_get (u v : V8) (i : Nat) (h : i < 8) : (mixA u v i)[i]? = some (wv ((words8 u).getD i 0#32)) := by
  unfold mixA
  rw [List.getElem?_toArray, List.getElem?_map, List.getElem?_range h]
  simp
theorem mix_set (u v : V8) (i : Nat) (h : i < 8) : (mixA u v i).setIfInBounds i (wv ((words8 v).getD i 0#32 + (words8 u).getD i 0#32)) = mixA u v (i + 1) := by
  have hc : i = 0 ∨ i = 1 ∨ i = 2 ∨ i = 3 ∨ i = 4 ∨ i = 5 ∨ i = 6 ∨ i = 7 := by omega
  rcases hc with rfl | rfl | rfl | rfl | rfl | rfl | rfl | rfl <;> simp [mixA, List.range, List.range.loop]
theorem mix_zero (u v : V8) : mixA u v 0 = cells8 u := by
  simp [mixA, List.range, List.range.loop, cells8, words8, wv]
theorem mix_full (u v : V8) : mixA u v 8 = cells8 (add8 v u) := by
  simp [mixA, List.range, List.range.loop, cells8, words8, wv, add8]
theorem mix_size (u v : V8) (i : Nat) : (mixA u v i).size = 8 := by simp [mixA]
/-- what stays while the words are laid -/
structure Oth (w0 w : World) (base r b0 b1 : Nat) (v : V8) : Prop where
  hr : Blk w r 70 zero8
  h0 : Blk w b0 70 (cells8 v)
  h1 : Blk w b1 72 (arr kc)
  hb : Below base w0 w
theorem Oth.put {w0 w : World} {base r b0 b1 : Nat} {v : V8} (h : Oth w0 w base r b0 b1 v) (g o : Nat) (x : Value) (hg : r < g ∧ b0 < g ∧ b1 < g ∧ base ≤ g) : Oth w0 (w.setCell ⟨g, o, none⟩ x) base r b0 b1 v :=
  ⟨h.hr.far (p := ⟨g, o, none⟩) (by simp; omega) _, h.h0.far (p := ⟨g, o, none⟩) (by simp; omega) _, h.h1.far (p := ⟨g, o, none⟩) (by simp; omega) _, h.hb.setCell (p := ⟨g, o, none⟩) (by simp; omega) _⟩
theorem Oth.drew {w0 w : World} {base r b0 b1 : Nat} {v : V8} (h : Oth w0 w base r b0 b1 v) : Oth w0 w.drew base r b0 b1 v := ⟨h.hr.drew, h.h0.drew, h.h1.drew, h.hb.drew⟩
theorem Oth.drewN {w0 w : World} {base r b0 b1 : Nat} {v : V8} (h : Oth w0 w base r b0 b1 v) (n : Nat) : Oth w0 (w.drewN n) base r b0 b1 v := ⟨h.hr, h.h0, h.h1, pw_below_drewN h.hb n⟩
theorem Oth.many {w0 w : World} {base r b0 b1 : Nat} {v : V8} (h : Oth w0 w base r b0 b1 v) (g : Nat) (vs : List Value) (hg : r < g ∧ b0 < g ∧ b1 < g ∧ base ≤ g) : Oth w0 (w.setCells g 0 vs) base r b0 b1 v :=
  ⟨blk_whole_far h.hr (by omega) _ _, blk_whole_far h.h0 (by omega) _ _, blk_whole_far h.h1 (by omega) _ _, below_cells h.hb hg.2.2.2⟩
theorem Oth.fresh {w0 w : World} {base r b0 b1 : Nat} {v : V8} (h : Oth w0 w base r b0 b1 v) (x : Array Value) (ty : TypeId) (cs : List Value) (hb : base ≤ w.heap.size) : Oth w0 ((w.alloc (.cells x ty)).setCells w.heap.size 0 cs) base r b0 b1 v :=
  ⟨blk_whole_far (h.hr.alloc _) (Nat.ne_of_lt h.hr.lt) _ _, blk_whole_far (h.h0.alloc _) (Nat.ne_of_lt h.h0.lt) _ _, blk_whole_far (h.h1.alloc _) (Nat.ne_of_lt h.h1.lt) _ _, below_cells (h.hb.alloc hb _) hb⟩
def schedR (s : List UInt8) (t : Nat) : List W := if t ≤ 16 then words16 s t else schedN s t
theorem schedR_len (s : List UInt8) (t : Nat) : (schedR s t).length = t := by
  unfold schedR
  split
  · exact words16_len s t
  · exact schedN_len s t (by omega)
theorem schedR_lo (s : List UInt8) (t : Nat) (h : t < 16) : schedR s (t + 1) = schedR s t ++ [wordK s t 4] := by
  unfold schedR; rw [if_pos (by omega), if_pos (by omega), words16_succ]
theorem schedR_hi (s : List UInt8) (t : Nat) (h : 16 ≤ t) : schedR s (t + 1) = schedR s t ++ [nextW (schedR s t)] := by
  unfold schedR
  rw [if_neg (by omega)]
  by_cases h16 : t = 16
  · rw [if_pos (by omega), schedN_succ s t h]
    have : schedN s t = words16 s t := by subst h16; rfl
    rw [this]
  · rw [if_neg (by omega), schedN_succ s t h]
theorem schedR_64 (s : List UInt8) : schedR s 64 = sched s := by
  unfold schedR; rw [if_neg (by omega)]; exact schedN_64 s
theorem sum4 (a b c d : W) : a + b + c + d = d + c + b + a := by ac_rfl
theorem not_sub (x : W) : (4294967295 - iv x) % 4294967296 = iv (~~~x) := by
  unfold iv; rw [BitVec.toNat_not]; have := x.isLt; omega
theorem ch_or (e f g : W) : (e &&& f) ||| (~~~e &&& g) = ch e f g := by
  unfold ch
  ext i hi
  simp only [BitVec.getElem_or, BitVec.getElem_and, BitVec.getElem_not, BitVec.getElem_xor]
  cases e[i] <;> simp
theorem mj_or (a b c : W) : (a &&& b) ||| (a &&& c) ||| (b &&& c) = mj a b c := by
  unfold mj
  ext i hi
  simp only [BitVec.getElem_or, BitVec.getElem_and, BitVec.getElem_xor]
  cases a[i] <;> cases b[i] <;> cases c[i] <;> rfl
theorem or8 (p b : W) (hb : b.toNat < 256) (hp : p.toNat < 16777216) : ((p <<< 8) ||| b).toNat = p.toNat * 256 + b.toNat := by
  rw [BitVec.toNat_or, BitVec.toNat_shiftLeft, Nat.mod_eq_of_lt (by rw [Nat.shiftLeft_eq]; omega), ← Nat.shiftLeft_add_eq_or_of_lt (by simpa using hb), Nat.shiftLeft_eq]
theorem by_lt (s : List UInt8) (i : Nat) : (by_ s i).toNat < 256 := by
  unfold by_
  rw [BitVec.toNat_ofNat]
  have := (s.getD i 0).toNat_lt
  omega
theorem word_val4 (l : List UInt8) (t q0 q1 q2 q3 : Nat) (h0 : 4 * t = q0) (h1 : 4 * t + 1 = q1) (h2 : 4 * t + 2 = q2) (h3 : 4 * t + 3 = q3) :
    IntKind.u32.wrap (IntKind.u32.wrap (IntKind.u32.wrap (IntKind.u32.wrap (iv (by_ l q0) * 16777216) + IntKind.u32.wrap (iv (by_ l q1) * 65536)) + IntKind.u32.wrap (iv (by_ l q2) * 256)) + iv (by_ l q3)) = iv (wordK l t 4) := by
  subst h1 h2 h3 h0
  have b0 := by_lt l (4 * t)
  have b1 := by_lt l (4 * t + 1)
  have b2 := by_lt l (4 * t + 2)
  have b3 := by_lt l (4 * t + 3)
  have e : (wordK l t 4).toNat = (((by_ l (4 * t)).toNat * 256 + (by_ l (4 * t + 1)).toNat) * 256 + (by_ l (4 * t + 2)).toNat) * 256 + (by_ l (4 * t + 3)).toNat := by
    have w1 : (wordK l t 1).toNat = (by_ l (4 * t)).toNat := by
      show ((0#32 <<< 8) ||| by_ l (4 * t)).toNat = _
      rw [or8 _ _ b0 (by simp)]; simp
    have w2 : (wordK l t 2).toNat = (by_ l (4 * t)).toNat * 256 + (by_ l (4 * t + 1)).toNat := by
      show ((wordK l t 1 <<< 8) ||| by_ l (4 * t + 1)).toNat = _
      rw [or8 _ _ b1 (by omega), w1]
    have w3 : (wordK l t 3).toNat = ((by_ l (4 * t)).toNat * 256 + (by_ l (4 * t + 1)).toNat) * 256 + (by_ l (4 * t + 2)).toNat := by
      show ((wordK l t 2 <<< 8) ||| by_ l (4 * t + 2)).toNat = _
      rw [or8 _ _ b2 (by omega), w2]
    show ((wordK l t 3 <<< 8) ||| by_ l (4 * t + 3)).toNat = _
    rw [or8 _ _ b3 (by omega), w3]
  unfold iv
  rw [e]
  simp only [wrap_u32]
  omega
set_option maxHeartbeats 4000000 in
set_option maxRecDepth 100000 in
theorem one_calls (w : World) (v : V8) (s : ByteArray) (hs : s.size = 64) :
    Calls Tryd.prog 52 #[.agg (cells8 v), .agg (arr kc), .string s] w fun e w' => e = .returned (.agg (cells8 (comp v (L s)))) ∧ Below w.heap.size w w' := by
  obtain ⟨R, hR⟩ : ∃ R, comp v (L s) = R := ⟨_, rfl⟩
  rw [hR]
  have HR := Lib.hid hR
  clear hR
  obtain ⟨va, vb, vc, vd, ve, vf, vg, vh⟩ := v
  obtain ⟨V, hV⟩ : ∃ V, (⟨va, vb, vc, vd, ve, vf, vg, vh⟩ : V8) = V := ⟨_, rfl⟩
  have HV := Lib.hid hV
  go_enter Tryd.func52, Tryd.ntmps52
  obtain ⟨C8, hC8⟩ : ∃ C, cells8 ⟨va, vb, vc, vd, ve, vf, vg, vh⟩ = C := ⟨_, rfl⟩
  obtain ⟨K, hK⟩ : ∃ K, arr kc = K := ⟨_, rfl⟩
  rw [hC8, hK]
  have hz := fun w => zero64 w
  go_wp2_with fail
  have hO : Oth w ((((w.alloc (.cells C8 70)).alloc (.cells K 72)).alloc (.cells zero8 70)).alloc (.cells (arr []) 72)) w.heap.size (w.heap.size + 1 + 1) w.heap.size (w.heap.size + 1) V := by
    refine ⟨?_, ?_, ?_, ?_⟩
    · have := (Blk.new ((w.alloc (.cells C8 70)).alloc (.cells K 72)) 70 zero8).alloc (.cells (arr []) 72)
      simpa using this
    · rw [← hV, hC8]
      exact (((Blk.new w 70 C8).alloc _).alloc _).alloc _
    · rw [hK]
      have := ((Blk.new (w.alloc (.cells C8 70)) 72 K).alloc (.cells zero8 70)).alloc (.cells (arr []) 72)
      simpa using this
    · exact ((((Below.refl _ w).alloc (Nat.le_refl _) _).alloc (by simp) _).alloc (by simp; omega) _).alloc (by simp; omega) _
  have hB1 := Blk.new (((w.alloc (.cells C8 70)).alloc (.cells K 72)).alloc (.cells zero8 70)) 72 (arr [])
  simp only [World.size_alloc] at hB1
  change Code.wp _ _ _ _ ((((w.alloc (.cells C8 70)).alloc (.cells K 72)).alloc (.cells zero8 70)).alloc (.cells (arr []) 72))
  obtain ⟨w1, hw1⟩ : ∃ x, ((((w.alloc (.cells C8 70)).alloc (.cells K 72)).alloc (.cells zero8 70)).alloc (.cells (arr []) 72)) = x := ⟨_, rfl⟩
  obtain ⟨b0, hb0⟩ : ∃ x, w.heap.size = x := ⟨_, rfl⟩
  simp only [hw1] at hB1 hO ⊢
  simp only [hb0] at hB1 hO ⊢
  obtain ⟨b1, hb1⟩ : ∃ x, b0 + 1 = x := ⟨_, rfl⟩
  obtain ⟨r, hr⟩ : ∃ x, b1 + 1 = x := ⟨_, rfl⟩
  obtain ⟨g, hg⟩ : ∃ x, r + 1 = x := ⟨_, rfl⟩
  have HG : Hid (r < g ∧ b0 < g ∧ b1 < g ∧ b0 ≤ g) := Lib.hid (by omega)
  have HRR : Hid (b0 < r ∧ b0 ≤ r) := Lib.hid (by omega)
  simp only [hb1, hr, hg] at hB1 hO ⊢
  have HB0 : Hid (w.heap.size = b0) := Lib.hid hb0
  clear hw1 hb0 hb1 hr hg hC8 hK hV
  go_loopw [8] (fun i wr => ∃ t : Nat, t ≤ 64 ∧ i = .int .i64 t ∧ Blk wr g 72 (arr (schedR (L s) t)) ∧ Oth w wr b0 r b0 b1 V) (fun i _ => 64 - (intOf i).toNat)
  case atStart => exact ⟨0, by omega, rfl, hB1, hO⟩
  case round =>
    clear hB1 hO
    obtain ⟨t, ht, rfl, hB1, hO⟩ := hrel
    by_cases hlt : t < 64
    · by_cases h16 : t < 16
      · have hti : (t : Int) < 64 := by omega
        have ht16 : (t : Int) < 16 := by omega
        have hm : IntKind.i64.wrap (4 * (t : Int)) = ((4 * t : Nat) : Int) := by rw [i64_w, w64 (by omega) (by omega)]; omega
        obtain ⟨q0, hq0⟩ : ∃ q, 4 * t = q := ⟨_, rfl⟩
        obtain ⟨q1, hq1⟩ : ∃ q, 4 * t + 1 = q := ⟨_, rfl⟩
        obtain ⟨q2, hq2⟩ : ∃ q, 4 * t + 2 = q := ⟨_, rfl⟩
        obtain ⟨q3, hq3⟩ : ∃ q, 4 * t + 3 = q := ⟨_, rfl⟩
        have hl0 : q0 < s.size := by omega
        have hl1 : q1 < s.size := by omega
        have hl2 : q2 < s.size := by omega
        have hl3 : q3 < s.size := by omega
        rw [hq0] at hm
        have hi0 : (q0 : Int) < 64 := by omega
        have hi1 : (q1 : Int) < 64 := by omega
        have hi2 : (q2 : Int) < 64 := by omega
        have hi3 : (q3 : Int) < 64 := by omega
        have hm1 : IntKind.i64.wrap ((q0 : Int) + 1) = (q1 : Int) := by rw [i64_w, w64 (by omega) (by omega)]; omega
        have hm2 : IntKind.i64.wrap ((q0 : Int) + 2) = (q2 : Int) := by rw [i64_w, w64 (by omega) (by omega)]; omega
        have hm3 : IntKind.i64.wrap ((q0 : Int) + 3) = (q3 : Int) := by rw [i64_w, w64 (by omega) (by omega)]; omega
        have HQ := Lib.hid (And.intro hq0 (And.intro hq1 (And.intro hq2 hq3)))
        have HT := Lib.hid h16
        clear hq0 hq1 hq2 hq3 h16 ht
        go_wp2
        refine wp_region_still_tail 31 (by kernel_rfl) (by kernel_rfl) ?_; simp only [List.take_succ_cons, List.take_zero, List.drop_succ_cons, List.drop_zero]; repeat still_step
        refine wpStill_nil ?_
        change wpList _ _ _ _ _ wr.drew
        obtain ⟨eq0, eq1, eq2, eq3⟩ := HQ.out
        have hwv := word_val4 (L s) t q0 q1 q2 q3 eq0 eq1 eq2 eq3
        rw [← byte_iv s q0 hl0, ← byte_iv s q1 hl1, ← byte_iv s q2 hl2, ← byte_iv s q3 hl3] at hwv
        simp only [hwv]
        clear hwv eq0 eq1 eq2 eq3 hm hm1 hm2 hm3
        obtain ⟨x, hx⟩ : ∃ x, wordK (L s) t 4 = x := ⟨_, rfl⟩
        have HX : Hid (schedR (L s) (t + 1) = schedR (L s) t ++ [x]) := Lib.hid (by rw [← hx]; exact schedR_lo (L s) t HT.out)
        simp only [hx]
        have HP : Hid (Blk (wr.drew.setCell ⟨g, t, none⟩ (.int .u32 (iv x))) g 72 (arr (schedR (L s) (t + 1))) ∧ Oth w (wr.drew.setCell ⟨g, t, none⟩ (.int .u32 (iv x))) b0 r b0 b1 V) := by
          refine Lib.hid ⟨?_, hO.drew.put g t _ HG.out⟩
          have h := hB1.drew.set_ t (wv x)
          have e := arr_put (schedR (L s) t) x (by rw [schedR_len]; exact hlt)
          rw [schedR_len] at e
          rw [e] at h
          rw [HX.out]
          exact h
        have ct : wr.drew.cell? ⟨g, t, none⟩ = some (.int .u32 0) := by
          have hz : (arr (schedR (L s) t))[t]? = some (wv 0#32) := by
            rw [← arr_nought (schedR (L s) t) (by rw [schedR_len]; exact hlt), arr_getD _ t (by rw [List.length_append, schedR_len]; simp)]
            have : (schedR (L s) t ++ [0#32]).getD t 0#32 = 0#32 := by
              rw [List.getD_eq_getElem?_getD, List.getElem?_append_right (by rw [schedR_len]; exact Nat.le_refl _), schedR_len]; simp
            rw [this]
          exact (hB1.drew.cell t).trans hz
        have hft : wr.drew.frozen? ⟨g, t, none⟩ = false := hB1.drew.frozen t
        clear hx hB1 hO
        generalize wr.drew = w8 at HP ct hft ⊢
        go_wp2
        go_roundw
        case rel => exact ⟨t + 1, by omega, by go_num, HP.out.1, HP.out.2⟩
        case measure => simp [intOf]; omega
      · have hti : (t : Int) < 64 := by omega
        have ht16 : ¬ ((t : Int) < 16) := by omega
        have hlen := schedR_len (L s) t
        have HN := Lib.hid (schedR_hi (L s) t (by omega))
        obtain ⟨l, hl⟩ : ∃ l, schedR (L s) t = l := ⟨_, rfl⟩
        rw [hl] at hlen hB1 HN
        clear hl
        obtain ⟨q15, h15⟩ : ∃ q, t - 15 = q := ⟨_, rfl⟩
        obtain ⟨q2, h2⟩ : ∃ q, t - 2 = q := ⟨_, rfl⟩
        obtain ⟨q7, h7⟩ : ∃ q, t - 7 = q := ⟨_, rfl⟩
        obtain ⟨q16, h16'⟩ : ∃ q, t - 16 = q := ⟨_, rfl⟩
        have i15 : IntKind.i64.wrap ((t : Int) - 15) = (q15 : Int) := by rw [i64_w, w64 (by omega) (by omega)]; omega
        have i2 : IntKind.i64.wrap ((t : Int) - 2) = (q2 : Int) := by rw [i64_w, w64 (by omega) (by omega)]; omega
        have i7 : IntKind.i64.wrap ((t : Int) - 7) = (q7 : Int) := by rw [i64_w, w64 (by omega) (by omega)]; omega
        have i16 : IntKind.i64.wrap ((t : Int) - 16) = (q16 : Int) := by rw [i64_w, w64 (by omega) (by omega)]; omega
        have b15 : (q15 : Int) < 64 := by omega
        have b2 : (q2 : Int) < 64 := by omega
        have b7 : (q7 : Int) < 64 := by omega
        have b16 : (q16 : Int) < 64 := by omega
        have n15 : q15 < 64 := by omega
        have n2 : q2 < 64 := by omega
        have n7 : q7 < 64 := by omega
        have n16 : q16 < 64 := by omega
        obtain ⟨x15, hx15⟩ : ∃ x, l.getD q15 0#32 = x := ⟨_, rfl⟩
        obtain ⟨x2, hx2⟩ : ∃ x, l.getD q2 0#32 = x := ⟨_, rfl⟩
        obtain ⟨x7, hx7⟩ : ∃ x, l.getD q7 0#32 = x := ⟨_, rfl⟩
        obtain ⟨x16, hx16⟩ : ∃ x, l.getD q16 0#32 = x := ⟨_, rfl⟩
        have c15 : wr.cell? ⟨g, q15, none⟩ = some (.int .u32 (iv x15)) := by rw [hB1.cell q15, arr_getD _ q15 (by omega), hx15]; rfl
        have c2 : wr.cell? ⟨g, q2, none⟩ = some (.int .u32 (iv x2)) := by rw [hB1.cell q2, arr_getD _ q2 (by omega), hx2]; rfl
        have c7 : wr.cell? ⟨g, q7, none⟩ = some (.int .u32 (iv x7)) := by rw [hB1.cell q7, arr_getD _ q7 (by omega), hx7]; rfl
        have c16 : wr.cell? ⟨g, q16, none⟩ = some (.int .u32 (iv x16)) := by rw [hB1.cell q16, arr_getD _ q16 (by omega), hx16]; rfl
        have HX : Hid (nextW l = x16 + sg0 x15 + x7 + sg1 x2) := Lib.hid (by
          unfold nextW
          rw [hlen, h2, h7, h15, h16', hx2, hx7, hx15, hx16]
          exact sum4 _ _ _ _)
        have HLN := Lib.hid hlen
        clear h15 h2 h7 h16' hx15 hx2 hx7 hx16 hlen h16 ht
        go_wp2
        refine wp_region_still_tail 29 (by kernel_rfl) (by kernel_rfl) ?_; simp only [List.take_succ_cons, List.take_zero, List.drop_succ_cons, List.drop_zero]; repeat still_step
        still_call (rturn_calls _ x15 7 (by decide))
        repeat still_step
        still_call (rturn_calls _ x15 18 (by decide))
        repeat still_step
        still_call (rturn_calls _ x2 17 (by decide))
        repeat still_step
        still_call (rturn_calls _ x2 19 (by decide))
        repeat still_step
        refine wpStill_nil ?_
        change wpList _ _ _ _ _ wr.drew
        have e0 : ror x15 7 ^^^ ror x15 18 ^^^ x15 >>> 3 = sg0 x15 := rfl
        have e1 : ror x2 17 ^^^ ror x2 19 ^^^ x2 >>> 10 = sg1 x2 := rfl
        simp only [div8, div1024, iv_xor, e0, e1, iv_add]
        clear e0 e1 c15 c2 c7 c16
        obtain ⟨x, hx⟩ : ∃ x, x16 + sg0 x15 + x7 + sg1 x2 = x := ⟨_, rfl⟩
        rw [hx] at HX
        simp only [hx]
        have HP : Hid (Blk (wr.drew.setCell ⟨g, t, none⟩ (.int .u32 (iv x))) g 72 (arr (schedR (L s) (t + 1))) ∧ Oth w (wr.drew.setCell ⟨g, t, none⟩ (.int .u32 (iv x))) b0 r b0 b1 V) := by
          refine Lib.hid ⟨?_, hO.drew.put g t _ HG.out⟩
          have h := hB1.drew.set_ t (wv x)
          have e := arr_put l x (by rw [HLN.out]; exact hlt)
          rw [HLN.out] at e
          rw [e] at h
          rw [HN.out, HX.out]
          exact h
        have ct : wr.drew.cell? ⟨g, t, none⟩ = some (.int .u32 0) := by
          have hz : (arr l)[t]? = some (wv 0#32) := by
            rw [← arr_nought l (by rw [HLN.out]; exact hlt), arr_getD _ t (by rw [List.length_append, HLN.out]; simp)]
            have : (l ++ [0#32]).getD t 0#32 = 0#32 := by
              rw [List.getD_eq_getElem?_getD, List.getElem?_append_right (by rw [HLN.out]; exact Nat.le_refl _), HLN.out]; simp
            rw [this]
          exact (hB1.drew.cell t).trans hz
        have hft : wr.drew.frozen? ⟨g, t, none⟩ = false := hB1.drew.frozen t
        clear hx hB1 hO
        generalize wr.drew = w8 at HP ct hft ⊢
        go_wp2
        go_roundw
        case rel => exact ⟨t + 1, by omega, by go_num, HP.out.1, HP.out.2⟩
        case measure => simp [intOf]; omega
    · have ht64 : t = 64 := by omega
      have hti : ¬ ((t : Int) < 64) := by omega
      have hB2 : Blk wr g 72 (arr (sched (L s))) := by rw [ht64, schedR_64] at hB1; exact hB1
      clear hB1 hlt ht ht64
      have hsl := sched_len (L s)
      obtain ⟨ws, hws⟩ : ∃ ws, sched (L s) = ws := ⟨_, rfl⟩
      have HWS := Lib.hid hws
      rw [hws] at hsl hB2
      clear hws
      have hb := hO.h0
      have HRG : Hid (wr.rangeAt b0 0 (cells8 V).toList) := Lib.hid (rangeAt_blk hb)
      have HI8 : Hid ((Tryd.prog.info? 70).map (·.size) = some (cells8 V).toList.length) := Lib.hid (by show _ = some 8; kernel_rfl)
      have HI8b : Hid ((Tryd.prog.info? 70).map (·.size) = some (cells8 V).toList.toArray.size) := Lib.hid (by show _ = some 8; kernel_rfl)
      have HO8 : Hid ((cells8 V).toList.toArray.all (·.oneCell') = true) := Lib.hid (by simp [cells8, Value.oneCell'])
      have HTH : Hid ((wr.alloc (.cells zero8 70)).there wr.heap.size 0 (cells8 V).toList.toArray.size) := Lib.hid (there_blk (Blk.new wr 70 zero8) (by rw [Array.toArray_toList]; exact Nat.le_refl 8))
      have HBU : Hid (Blk ((wr.alloc (.cells zero8 70)).setCells wr.heap.size 0 (cells8 V).toList) wr.heap.size 70 (cells8 V)) := Lib.hid (blk_whole (Blk.new wr 70 zero8) rfl)
      obtain ⟨cs, hcs⟩ : ∃ cs, (cells8 V).toList = cs := ⟨_, rfl⟩
      have HCS := Lib.hid hcs
      simp only [hcs] at HRG HI8 HI8b HO8 HTH HBU
      clear hcs hb
      go_wp2_with (first | (refine wpList_load_mid rfl 70 (.tmp 3) rfl b0 0 rfl cs _ HRG.out Tryd.underlying70 rfl HI8.out ?_) | (refine wpList_store_mid rfl 70 (.tmp 11) (.tmp 92) rfl wr.heap.size 0 cs.toArray rfl rfl HTH.out HI8b.out HO8.out ?_))
      change Code.wp _ _ _ _ ((wr.alloc (.cells zero8 70)).setCells wr.heap.size 0 cs)
      have hG3 : Blk ((wr.alloc (.cells zero8 70)).setCells wr.heap.size 0 cs) g 72 (arr ws) := blk_whole_far (hB2.alloc _) (Nat.ne_of_lt hB2.lt) _ _
      have hO3 := hO.fresh zero8 70 cs (Nat.le_trans (HB0.out ▸ Nat.le_refl _) hO.hb.size)
      have hU3 := HBU.out
      have hgu := hB2.lt
      obtain ⟨w3, hw3⟩ : ∃ x, ((wr.alloc (.cells zero8 70)).setCells wr.heap.size 0 cs) = x := ⟨_, rfl⟩
      obtain ⟨ub, hub⟩ : ∃ x, wr.heap.size = x := ⟨_, rfl⟩
      simp only [hw3] at hG3 hO3 hU3 ⊢
      simp only [hub] at hG3 hO3 hU3 hgu ⊢
      have HGU : Hid (r < ub ∧ b0 < ub ∧ b1 < ub ∧ b0 ≤ ub) := Lib.hid (by have := HG.out; omega)
      have HGG : Hid (g ≠ ub) := Lib.hid (by omega)
      clear hw3 hub HBU HTH HO8 HI8 HI8b HRG HCS hgu hB2 hO
      go_loopw [12] (fun i wq => ∃ (t : Nat) (u : V8), t ≤ 64 ∧ Hid (runs V ws t = u) ∧ i = .int .i64 t ∧ Blk wq ub 70 (cells8 u) ∧ Blk wq g 72 (arr ws) ∧ Oth w wq b0 r b0 b1 V) (fun i _ => 64 - (intOf i).toNat)
      case atStart => exact ⟨0, V, by omega, Lib.hid rfl, rfl, hU3, hG3, hO3⟩
      case round =>
        clear hU3 hG3 hO3
        obtain ⟨t, ⟨ua, uu, uc, ud, ue, uf, ug, uh⟩, ht, HU, rfl, hU, hG, hO⟩ := hrel
        by_cases hlt : t < 64
        · obtain ⟨k, hk⟩ : ∃ k, kc.getD t 0#32 = k := ⟨_, rfl⟩
          obtain ⟨x, hx⟩ : ∃ x, ws.getD t 0#32 = x := ⟨_, rfl⟩
          have HST : Hid (runs V ws (t + 1) = step ⟨ua, uu, uc, ud, ue, uf, ug, uh⟩ k x) := Lib.hid (by rw [runs, HU.out, hk, hx])
          have hkl : t < kc.length := hlt
          have ck : wr.cell? ⟨b1, t, none⟩ = some (.int .u32 (iv k)) := by rw [hO.h1.cell t, arr_getD _ t hkl, hk]; rfl
          have cx : wr.cell? ⟨g, t, none⟩ = some (.int .u32 (iv x)) := by rw [hG.cell t, arr_getD _ t (by omega), hx]; rfl
          have c0 : wr.cell? ⟨ub, 0, none⟩ = some (.int .u32 (iv ua)) := (hU.cell 0).trans rfl
          have c1 : wr.cell? ⟨ub, 1, none⟩ = some (.int .u32 (iv uu)) := (hU.cell 1).trans rfl
          have c2 : wr.cell? ⟨ub, 2, none⟩ = some (.int .u32 (iv uc)) := (hU.cell 2).trans rfl
          have c3 : wr.cell? ⟨ub, 3, none⟩ = some (.int .u32 (iv ud)) := (hU.cell 3).trans rfl
          have c4 : wr.cell? ⟨ub, 4, none⟩ = some (.int .u32 (iv ue)) := (hU.cell 4).trans rfl
          have c5 : wr.cell? ⟨ub, 5, none⟩ = some (.int .u32 (iv uf)) := (hU.cell 5).trans rfl
          have c6 : wr.cell? ⟨ub, 6, none⟩ = some (.int .u32 (iv ug)) := (hU.cell 6).trans rfl
          have c7 : wr.cell? ⟨ub, 7, none⟩ = some (.int .u32 (iv uh)) := (hU.cell 7).trans rfl
          clear hk hx HU hkl hsl
          have hti : (t : Int) < 64 := by omega
          go_wp2
          simp only [not_sub, iv_and, iv_or, ch_or]
          refine wp_region_still_lit (by kernel_rfl) (by kernel_rfl) ?_
          repeat still_step
          still_call (rturn_calls _ ue 6 (by decide))
          repeat still_step
          still_call (rturn_calls _ ue 11 (by decide))
          repeat still_step
          still_call (rturn_calls _ ue 25 (by decide))
          repeat still_step
          refine wpStill_nil ?_
          have e1 : ror ue 6 ^^^ ror ue 11 ^^^ ror ue 25 = bs1 ue := rfl
          simp only [iv_xor, e1, iv_add]
          clear e1 ck cx c0 c1 c2 c3 c4 c5 c6 c7
          obtain ⟨t1, ht1⟩ : ∃ t1, uh + bs1 ue + ch ue uf ug + k + x = t1 := ⟨_, rfl⟩
          simp only [ht1]
          have HT1 := Lib.hid ht1
          clear ht1
          show (_ : Exit → Act → World → Prop) Exit.normal _ wr.drew
          have hU4 := hU.drew
          have hG4 := hG.drew
          have hO4 := hO.drew
          generalize wr.drew = w4 at hU4 hG4 hO4 ⊢
          clear hU hG hO
          have c0 : w4.cell? ⟨ub, 0, none⟩ = some (.int .u32 (iv ua)) := (hU4.cell 0).trans rfl
          have c1 : w4.cell? ⟨ub, 1, none⟩ = some (.int .u32 (iv uu)) := (hU4.cell 1).trans rfl
          have c2 : w4.cell? ⟨ub, 2, none⟩ = some (.int .u32 (iv uc)) := (hU4.cell 2).trans rfl
          go_wp2
          simp only [iv_and, iv_or, mj_or]
          refine wp_region_still_lit (by kernel_rfl) (by kernel_rfl) ?_
          repeat still_step
          still_call (rturn_calls _ ua 2 (by decide))
          repeat still_step
          still_call (rturn_calls _ ua 13 (by decide))
          repeat still_step
          still_call (rturn_calls _ ua 22 (by decide))
          repeat still_step
          refine wpStill_nil ?_
          have e1 : ror ua 2 ^^^ ror ua 13 ^^^ ror ua 22 = bs0 ua := rfl
          simp only [iv_xor, e1, iv_add]
          clear e1 c0 c1 c2
          obtain ⟨t2, ht2⟩ : ∃ t2, bs0 ua + mj ua uu uc = t2 := ⟨_, rfl⟩
          simp only [ht2]
          have HT2 := Lib.hid ht2
          clear ht2
          show (_ : Exit → Act → World → Prop) Exit.normal _ w4.drew
          have hU5 := hU4.drew
          have hG5 := hG4.drew
          have hO5 := hO4.drew
          generalize w4.drew = w5 at hU5 hG5 hO5 ⊢
          clear hU4 hG4 hO4
          have c0 : w5.cell? ⟨ub, 0, none⟩ = some (.int .u32 (iv ua)) := (hU5.cell 0).trans rfl
          have c1 : w5.cell? ⟨ub, 1, none⟩ = some (.int .u32 (iv uu)) := (hU5.cell 1).trans rfl
          have c2 : w5.cell? ⟨ub, 2, none⟩ = some (.int .u32 (iv uc)) := (hU5.cell 2).trans rfl
          have c3 : w5.cell? ⟨ub, 3, none⟩ = some (.int .u32 (iv ud)) := (hU5.cell 3).trans rfl
          have c4 : w5.cell? ⟨ub, 4, none⟩ = some (.int .u32 (iv ue)) := (hU5.cell 4).trans rfl
          have c5 : w5.cell? ⟨ub, 5, none⟩ = some (.int .u32 (iv uf)) := (hU5.cell 5).trans rfl
          have c6 : w5.cell? ⟨ub, 6, none⟩ = some (.int .u32 (iv ug)) := (hU5.cell 6).trans rfl
          have c7 : w5.cell? ⟨ub, 7, none⟩ = some (.int .u32 (iv uh)) := (hU5.cell 7).trans rfl
          have HTH : Hid (w5.there ub 0 8) := Lib.hid (there_blk hU5 (Nat.le_refl 8))
          have HI8 : Hid ((Tryd.prog.info? 70).map (·.size) = some 8) := Lib.hid (by kernel_rfl)
          iterate 60 go_step
          refine wpList_build8 rfl _ rfl rfl ?_
          refine wpList_store_mid rfl 70 (.tmp 11) (.tmp 182) rfl ub 0 _ rfl rfl HTH.out HI8.out (by simp [Value.oneCell']) ?_
          have hU6 := blk_whole hU5 (cs := cells8 (step ⟨ua, uu, uc, ud, ue, uf, ug, uh⟩ k x)) rfl
          have ec : (cells8 (step ⟨ua, uu, uc, ud, ue, uf, ug, uh⟩ k x)).toList = [.int .u32 ((iv t1 + iv t2) % 4294967296), .int .u32 (iv ua), .int .u32 (iv uu), .int .u32 (iv uc), .int .u32 ((iv ud + iv t1) % 4294967296), .int .u32 (iv ue), .int .u32 (iv uf), .int .u32 (iv ug)] := by
            simp only [add_val]
            rw [← HT1.out, ← HT2.out]
            rfl
          rw [ec] at hU6
          show wpList _ _ _ _ _ (w5.setCells ub 0 [.int .u32 ((iv t1 + iv t2) % 4294967296), .int .u32 (iv ua), .int .u32 (iv uu), .int .u32 (iv uc), .int .u32 ((iv ud + iv t1) % 4294967296), .int .u32 (iv ue), .int .u32 (iv uf), .int .u32 (iv ug)])
          have hG6 : Blk (w5.setCells ub 0 [.int .u32 ((iv t1 + iv t2) % 4294967296), .int .u32 (iv ua), .int .u32 (iv uu), .int .u32 (iv uc), .int .u32 ((iv ud + iv t1) % 4294967296), .int .u32 (iv ue), .int .u32 (iv uf), .int .u32 (iv ug)]) g 72 (arr ws) := blk_whole_far hG5 HGG.out _ _
          have hO6 := hO5.many ub [.int .u32 ((iv t1 + iv t2) % 4294967296), .int .u32 (iv ua), .int .u32 (iv uu), .int .u32 (iv uc), .int .u32 ((iv ud + iv t1) % 4294967296), .int .u32 (iv ue), .int .u32 (iv uf), .int .u32 (iv ug)] HGU.out
          generalize w5.setCells ub 0 [.int .u32 ((iv t1 + iv t2) % 4294967296), .int .u32 (iv ua), .int .u32 (iv uu), .int .u32 (iv uc), .int .u32 ((iv ud + iv t1) % 4294967296), .int .u32 (iv ue), .int .u32 (iv uf), .int .u32 (iv ug)] = w6 at hU6 hG6 hO6 ⊢
          clear c0 c1 c2 c3 c4 c5 c6 c7 hU5 hG5 hO5 ec HTH HI8
          go_wp2
          go_roundw
          case rel => exact ⟨t + 1, step ⟨ua, uu, uc, ud, ue, uf, ug, uh⟩ k x, by omega, HST, by go_num, hU6, hG6, hO6⟩
          case measure => simp [intOf]; omega
        · have ht64 : t = 64 := by omega
          have hti : ¬ ((t : Int) < 64) := by omega
          obtain ⟨U, hUe⟩ : ∃ U, (⟨ua, uu, uc, ud, ue, uf, ug, uh⟩ : V8) = U := ⟨_, rfl⟩
          rw [hUe] at HU hU
          have HF : Hid (R = add8 V U) := Lib.hid (by
            rw [← HR.out]
            unfold comp
            rw [HWS.out, ← HU.out, ht64, HV.out])
          have hM : Blk wr ub 70 (mixA U V 0) := by rw [mix_zero]; exact hU
          clear hUe HU hU hG hlt ht ht64 hsl
          go_wp2
          go_loopw [17] (fun i wq => ∃ j : Nat, j ≤ 8 ∧ i = .int .i64 j ∧ Blk wq ub 70 (mixA U V j) ∧ Oth w wq b0 r b0 b1 V) (fun i _ => 8 - (intOf i).toNat)
          case atStart => exact ⟨0, by omega, rfl, hM, hO⟩
          case round =>
            clear hM hO
            obtain ⟨j, hj, rfl, hM, hO⟩ := hrel
            by_cases hlj : j < 8
            · obtain ⟨x, hx⟩ : ∃ x, (words8 U).getD j 0#32 = x := ⟨_, rfl⟩
              obtain ⟨y, hy⟩ : ∃ y, (words8 V).getD j 0#32 = y := ⟨_, rfl⟩
              have cu : wr.cell? ⟨ub, j, none⟩ = some (.int .u32 (iv x)) := by rw [hM.cell j, mix_get U V j hlj, hx]; rfl
              have cv : wr.cell? ⟨b0, j, none⟩ = some (.int .u32 (iv y)) := by rw [hO.h0.cell j, cells8_words V j hlj, hy]
              have HS : Hid ((mixA U V j).setIfInBounds j (wv (x + y)) = mixA U V (j + 1)) := Lib.hid (by
                have := mix_set U V j hlj
                rw [hx, hy, BitVec.add_comm] at this
                exact this)
              have hji : (j : Int) < 8 := by omega
              clear hx hy
              go_wp2
              refine wp_region_still_tail 9 (by kernel_rfl) (by kernel_rfl) ?_; simp only [List.take_succ_cons, List.take_zero, List.drop_succ_cons, List.drop_zero]; repeat still_step
              refine wpStill_nil ?_
              change wpList _ _ _ _ _ wr.drew
              simp only [iv_add]
              have hM2 : Blk (wr.drew.setCell ⟨ub, j, none⟩ (.int .u32 (iv (x + y)))) ub 70 (mixA U V (j + 1)) := by
                have h := hM.drew.set_ j (wv (x + y))
                rw [HS.out] at h
                exact h
              have hO2 := hO.drew.put ub j (.int .u32 (iv (x + y))) HGU.out
              have hft : wr.drew.frozen? ⟨ub, j, none⟩ = false := hM.drew.frozen j
              have ct : wr.drew.cell? ⟨ub, j, none⟩ = some (.int .u32 (iv x)) := cu
              clear cu cv hM hO
              generalize wr.drew = w8 at hM2 hO2 ct hft ⊢
              go_wp2
              go_roundw
              case rel => exact ⟨j + 1, by omega, by go_num, hM2, hO2⟩
              case measure => simp [intOf]; omega
            · have hj8 : j = 8 := by omega
              have hji : ¬ ((j : Int) < 8) := by omega
              rw [hj8, mix_full, ← HF.out] at hM
              clear hj8 hlj hj
              have HRT : Hid (wr.there r 0 (cells8 R).toList.toArray.size) := Lib.hid (by rw [Array.toArray_toList]; exact there_blk hO.hr (Nat.le_refl 8))
              have HBR : Hid (wr.rangeAt ub 0 (cells8 R).toList) := Lib.hid (rangeAt_blk hM)
              have HI8 : Hid ((Tryd.prog.info? 70).map (·.size) = some (cells8 R).toList.length) := Lib.hid (by show _ = some 8; kernel_rfl)
              have HI8b : Hid ((Tryd.prog.info? 70).map (·.size) = some (cells8 R).toList.toArray.size) := Lib.hid (by show _ = some 8; kernel_rfl)
              have HO8 : Hid ((cells8 R).toList.toArray.all (·.oneCell') = true) := Lib.hid (by simp [cells8, Value.oneCell'])
              obtain ⟨cs, hcs⟩ : ∃ cs, (cells8 R).toList = cs := ⟨_, rfl⟩
              have HCS := Lib.hid hcs
              simp only [hcs] at HRT HBR HI8 HI8b HO8
              clear hcs hM
              go_wp2_with (first | (refine wpList_load_mid rfl 70 (.tmp 11) rfl ub 0 rfl cs _ HBR.out Tryd.underlying70 rfl HI8.out ?_) | (refine wpList_store_mid rfl 70 (.tmp 6) (.tmp 196) rfl r 0 cs.toArray rfl rfl HRT.out HI8b.out HO8.out ?_))
              have HRR2 := World.rangeAt_setCells_same wr r 0 cs (by have := HRT.out; simpa using this)
              have hl := run_loadVar_mid (P := Tryd.prog) (wr.setCells r 0 cs) r 0 70 cs _ HRR2 Tryd.underlying70 rfl HI8.out
              refine bodyPost_ret (v := .agg cs.toArray) (results_agg rfl rfl hl) rfl ⟨by rw [← HCS.out, Array.toArray_toList], ?_⟩
              have h1 := HB0.out
              have h2 := HRR.out
              have hb := hO.hb
              rw [← h1] at hb
              exact below_cells hb (by omega)
end Go.Proofs.YtcdhpknjinonhaaDoor.Sha
/- the reference's sum: padded. -/
namespace Go.Proofs.YtcdhpknjinonhaaDoor.Sha
open Go.RowKit Go.Proofs.YtcdhpknjinonhaaDoor.Mem Go.Proofs.YtcdhpknjinonhaaDoor.X Go.Proofs.YtcdhpknjinonhaaDoorW.PrintWords Go.Proofs.YtcdhpknjinonhaaDoorW.PrintLast Go.Proofs.YtcdhpknjinonhaaDoorW.PrintMore Go.Proofs.YtcdhpknjinonhaaDoor.Aid
set_option linter.unusedVariables false
set_option linter.unusedSimpArgs false
/-- a slice that holds these bytes, in a row of one's own, wherever that came from -/
def Rw (w : World) (base : Nat) (v : Value) (l : List UInt8) : Prop :=
  ∃ g off cap, v = .slice (some ⟨g, off, none⟩) l.length cap ∧ base ≤ g ∧ g < w.heap.size ∧ l.length ≤ cap ∧
    (∀ j (hj : j < l.length), w.cell? ⟨g, off + j, none⟩ = some (bv l[j])) ∧ (∀ j, j < cap → (w.cell? ⟨g, off + j, none⟩).isSome = true ∧ w.frozen? ⟨g, off + j, none⟩ = false)
theorem Rw.below {w w' : World} {base : Nat} {v : Value} {l : List UInt8} (h : Rw w base v l) (hb : Below w.heap.size w w') : Rw w' base v l := by
  obtain ⟨g, off, cap, hv, h1, h2, h3, h4, h5⟩ := h
  refine ⟨g, off, cap, hv, h1, Nat.lt_of_lt_of_le h2 hb.size, h3, fun j hj => (hb.cell (p := ⟨g, off + j, none⟩) h2).trans (h4 j hj), fun j hj => ?_⟩
  refine ⟨by rw [hb.cell (p := ⟨g, off + j, none⟩) h2]; exact (h5 j hj).1, ?_⟩
  have e : w'.frozen? ⟨g, off + j, none⟩ = w.frozen? ⟨g, off + j, none⟩ := by
    unfold World.frozen?
    rw [hb.block g h2]
  rw [e]; exact (h5 j hj).2
theorem Rw.conv (w : World) (base : Nat) (s : ByteArray) (hb : base ≤ w.heap.size) :
    Rw (w.drew.alloc (.cells (bytesRow s (grownCap w s.size 0 5)) 5 ((bytesRow s (grownCap w s.size 0 5)).size, (bytesRow s (grownCap w s.size 0 5)).size + 1))) base
      (.slice (some ⟨w.heap.size, 0, none⟩) s.size (grownCap w s.size 0 5)) (L s) := by
  have hge := grownCap_ge w s.size 0 5
  obtain ⟨cap, hcap⟩ : ∃ c, grownCap w s.size 0 5 = c := ⟨_, rfl⟩
  rw [hcap] at hge ⊢
  have hcs : (bytesRow s cap).size = cap := by
    unfold bytesRow
    have : s.data.size = s.size := rfl
    simp; omega
  have hblk : (w.drew.alloc (.cells (bytesRow s cap) 5 ((bytesRow s cap).size, (bytesRow s cap).size + 1))).heap[w.heap.size]? = some (.cells (bytesRow s cap) 5 ((bytesRow s cap).size, (bytesRow s cap).size + 1)) := by
    show (w.heap.push _)[w.heap.size]? = _
    simp
  obtain ⟨W, hW⟩ : ∃ W, (w.drew.alloc (.cells (bytesRow s cap) 5 ((bytesRow s cap).size, (bytesRow s cap).size + 1))) = W := ⟨_, rfl⟩
  rw [hW] at hblk ⊢
  have hcell : ∀ j, W.cell? ⟨w.heap.size, 0 + j, none⟩ = (bytesRow s cap)[j]? := fun j => by simp [World.cell?, hblk]
  refine ⟨w.heap.size, 0, cap, by rw [← sz], hb, (Array.getElem?_eq_some_iff.1 hblk).1, by rw [← sz]; exact hge, fun j hj => ?_, fun j hj => ?_⟩
  · rw [hcell j]
    have hj' : j < s.data.size := by rw [← sz] at hj; exact hj
    unfold bytesRow
    rw [Array.getElem?_append_left (by simpa using hj')]
    simp only [Array.getElem?_map, Array.getElem?_eq_getElem hj', Option.map_some]
    rfl
  · refine ⟨by rw [hcell j, Array.getElem?_eq_getElem (by rw [hcs]; exact hj)]; rfl, ?_⟩
    simp [World.frozen?, hblk, hcs]
    omega
theorem setCells_one (w : World) (g o : Nat) (x : Value) : w.setCells g o [x] = w.setCell ⟨g, o, none⟩ x := rfl
theorem wpList_append_rw {ops : Array Oper} {rest : List Oper} {o : Oper} {a : Act} {w w0 : World} {Q : Exit → Act → World → Prop} (hgd : o.guard = none) (s x : Operand)
    (ho : o.op = .call { callee := .builtin .append, args := #[s, x], argTypes := #[38, 38] }) (v : Value) (hv : a.eval s = v) (l : List UInt8) (base : Nat) (h : Rw w base v l) (c : UInt8) (gx : Nat)
    (hx : a.eval x = .slice (some ⟨gx, 0, none⟩) 1 1) (hc : w.cell? ⟨gx, 0, none⟩ = some (bv c)) (hb : Below base w0 w) (hbs : base ≤ w.heap.size) (hl : l.length ≤ 1000000000)
    (hK : ∀ v' w', Rw w' base v' (l ++ [c]) → Below base w0 w' → base ≤ w'.heap.size → wpList Tryd.prog ops Q rest (a.put o.dst v') w') : wpList Tryd.prog ops Q (o :: rest) a w := by
  obtain ⟨g, off, cap, hveq, hbg, hg, hn, hcell, hsp⟩ := h
  obtain ⟨i0, hi, hz0, hz1, hz2⟩ := info_parts info_u8
  have hadd : (⟨gx, 0, none⟩ : Addr).add 0 = ⟨gx, 0, none⟩ := by unfold Addr.add; split <;> simp_all
  refine wpList_append_arg (P := Tryd.prog) w hgd s x 38 ho 5 i0 (.int .u8 0) 1 1 Tryd.underlying38 hi hz0 hz1 hz2 rfl (by decide) g off l.length cap (l.map bv) (by rw [hv]; exact hveq) (by simp) ?_ ⟨gx, 0, none⟩ 1 1 [bv c] hx rfl ?_ ?_ ?_ ?_ ?_ ?_ ?_
  · intro j u hu
    have hj : j < l.length := by
      have := (List.getElem?_eq_some_iff.1 hu).1
      simpa using this
    rw [List.getElem?_map, List.getElem?_eq_getElem hj] at hu
    rw [hcell j hj]; exact hu
  · intro j u hu
    cases j with
    | zero => rw [hadd, hc]; exact hu
    | succ j => simp at hu
  · intro u hu
    rw [List.mem_singleton] at hu
    subst hu; rfl
  · intro hr j hj
    have : j = 0 := by simpa using hj
    subst this
    have := hsp l.length (by omega)
    simpa using this
  · unfold maxLen; omega
  · omega
  · intro hr
    rw [setCells_one, Nat.mul_one]
    refine hK _ _ ⟨g, off, cap, by simp, hbg, by simpa using hg, by simpa using hr, fun j hj => ?_, fun j hj => ?_⟩ (hb.setCell (p := ⟨g, off + l.length, none⟩) hbg _) (by simpa using hbs)
    · by_cases hjl : j < l.length
      · rw [World.cell?_setCells_out g [bv c] (off + l.length) w ⟨g, off + j, none⟩ (fun _ _ => .inl (by simp; omega)) |> (fun e => (show (w.setCell ⟨g, off + l.length, none⟩ (bv c)).cell? ⟨g, off + j, none⟩ = w.cell? ⟨g, off + j, none⟩ from e)), hcell j hjl, List.getElem_append_left hjl]
      · have hje : j = l.length := by simp at hj; omega
        subst hje
        have e := World.cell?_setCells_in g [bv c] (off + l.length) w (fun i hi => by
          have : i = 0 := by simpa using hi
          subst this
          have := (hsp l.length (by omega)).1
          simpa using this) 0 (by simp)
        have e' : (w.setCell ⟨g, off + l.length, none⟩ (bv c)).cell? ⟨g, off + l.length, none⟩ = some (bv c) := by simpa [setCells_one] using e
        rw [e']; simp
    · have hf : (w.setCell ⟨g, off + l.length, none⟩ (bv c)).frozen? ⟨g, off + j, none⟩ = w.frozen? ⟨g, off + j, none⟩ := World.frozen?_setCells g [bv c] (off + l.length) w _
      refine ⟨?_, by rw [hf]; exact (hsp j hj).2⟩
      by_cases hjl : j = l.length
      · subst hjl
        have e := World.cell?_setCells_in g [bv c] (off + l.length) w (fun i hi => by
          have : i = 0 := by simpa using hi
          subst this
          have := (hsp l.length hj).1
          simpa using this) 0 (by simp)
        have e' : (w.setCell ⟨g, off + l.length, none⟩ (bv c)).cell? ⟨g, off + l.length, none⟩ = some (bv c) := by simpa [setCells_one] using e
        rw [e']; rfl
      · have e := World.cell?_setCells_out g [bv c] (off + l.length) w ⟨g, off + j, none⟩ (fun _ _ => by simp; omega)
        rw [show (w.setCell ⟨g, off + l.length, none⟩ (bv c)).cell? ⟨g, off + j, none⟩ = w.cell? ⟨g, off + j, none⟩ from e]
        exact (hsp j hj).1
  · intro hr v' w' hown hgr
    have hb' := hb.grown hgr hbs (fun k hk => by cases hk)
    obtain ⟨hlen, hcase⟩ := hown
    rcases hcase with ⟨_, h0⟩ | ⟨g', cap', cur, rfl, hg', hblk, hn', hm', hsz, htk⟩
    · omega
    · have hB : Blk w' g' 5 cur := hblk
      refine hK _ _ ⟨g', 0, cap', by simp, Nat.le_trans hbs hg', hB.lt, by simpa using hn', fun j hj => ?_, fun j hj => ⟨?_, hB.frozen _⟩⟩ hb' (Nat.le_trans hbs hgr.size)
      · rw [hB.cell, Nat.zero_add]
        have e : (cur.toList.take ((l.length + 1) * 1))[j]? = (l.map bv ++ [bv c])[j]? := by rw [htk]
        rw [List.getElem?_take, if_pos (by simpa using hj)] at e
        rw [← Array.getElem?_toList, e, show l.map bv ++ [bv c] = (l ++ [c]).map bv from by simp, List.getElem?_map, List.getElem?_eq_getElem hj]
        rfl
      · rw [hB.cell, Nat.zero_add, Array.getElem?_eq_getElem (by omega)]; rfl
theorem Rw.str {w : World} {base : Nat} {v : Value} {l : List UInt8} (h : Rw w base v l) : (convert 38 9 v).run Tryd.prog w = .ok (.string (S l)) w := by
  obtain ⟨g, off, cap, rfl, _, _, _, hc, _⟩ := h
  refine run_convert_bytes_back w 38 9 5 ⟨g, off, none⟩ cap l Tryd.underlying38 Tryd.underlying5 Tryd.underlying9 fun j hj => ?_
  have hadd : (⟨g, off, none⟩ : Addr).add j = ⟨g, off + j, none⟩ := by unfold Addr.add; split <;> simp_all
  rw [hadd]; exact hc j hj
end Go.Proofs.YtcdhpknjinonhaaDoor.Sha
/- the reference's sum: padded. -/
namespace Go.Proofs.YtcdhpknjinonhaaDoor.Sha
open Go.RowKit Go.Proofs.YtcdhpknjinonhaaDoor.Mem Go.Proofs.YtcdhpknjinonhaaDoor.X Go.Proofs.YtcdhpknjinonhaaDoorW.PrintWords Go.Proofs.YtcdhpknjinonhaaDoorW.PrintLast Go.Proofs.YtcdhpknjinonhaaDoorW.PrintMore Go.Proofs.YtcdhpknjinonhaaDoor.Aid
set_option linter.unusedVariables false
set_option linter.unusedSimpArgs false
def slen : Value → Nat
  | .slice _ n _ => n
  | _ => 0
theorem sizeB_take (n k : Nat) (h : k < 8) : (sizeB n).take (k + 1) = (sizeB n).take k ++ [UInt8.ofNat (n * 8 / 256 ^ (7 - k))] := by
  have hc : k = 0 ∨ k = 1 ∨ k = 2 ∨ k = 3 ∨ k = 4 ∨ k = 5 ∨ k = 6 ∨ k = 7 := by omega
  rcases hc with rfl | rfl | rfl | rfl | rfl | rfl | rfl | rfl <;> simp [sizeB]
theorem pow_step (N j : Nat) (h0 : 0 < j) (h : j ≤ 7) : N / 256 ^ (7 - j) / 256 = N / 256 ^ (7 - (j - 1)) := by
  rw [Nat.div_div_eq_div_mul, ← Nat.pow_succ, show (7 - j).succ = 7 - (j - 1) by omega]
theorem nz_at (n m : Nat) (h : m ≤ nz n) : (n + 1 + m) % 64 = 56 ↔ m = nz n := by
  unfold nz at *; omega
set_option maxHeartbeats 4000000 in
set_option maxRecDepth 100000 in
theorem padded_calls (w : World) (s : ByteArray) (hs : s.size ≤ 1000000) :
    Calls Tryd.prog 51 #[.string s] w fun e w' => e = .returned (.string (S (L s ++ endB s.size))) ∧ Below w.heap.size w w' := by
  have hz64 : nz s.size < 64 := by unfold nz; omega
  have hconv := run_bytes_of_string (P := Tryd.prog) w 9 38 5 s Tryd.underlying9 Tryd.underlying38 Tryd.underlying5
  have hR := Rw.conv w w.heap.size s (Nat.le_refl _)
  have hb1 : Below w.heap.size w (w.drew.alloc (.cells (bytesRow s (grownCap w s.size 0 5)) 5 ((bytesRow s (grownCap w s.size 0 5)).size, (bytesRow s (grownCap w s.size 0 5)).size + 1))) := (Below.refl _ w).drew.alloc (Nat.le_refl _) _
  obtain ⟨w1, hw1⟩ : ∃ x, (w.drew.alloc (.cells (bytesRow s (grownCap w s.size 0 5)) 5 ((bytesRow s (grownCap w s.size 0 5)).size, (bytesRow s (grownCap w s.size 0 5)).size + 1))) = x := ⟨_, rfl⟩
  rw [hw1] at hconv hR hb1
  obtain ⟨cap, hcap⟩ : ∃ x, grownCap w s.size 0 5 = x := ⟨_, rfl⟩
  rw [hcap] at hconv hR
  clear hw1 hcap
  have hR2 : Rw (w1.alloc (.cells #[.int .u8 128] 5)) w.heap.size (.slice (some ⟨w.heap.size, 0, none⟩) s.size cap) (L s) := hR.below ((Below.refl _ w1).alloc (Nat.le_refl _) _)
  have hc2 : (w1.alloc (.cells #[.int .u8 128] 5)).cell? ⟨w1.heap.size, 0, none⟩ = some (bv 128) := ((Blk.new w1 5 #[.int .u8 128]).cell 0).trans rfl
  have hs1 := hb1.size
  have hb2 : Below w.heap.size w (w1.alloc (.cells #[.int .u8 128] 5)) := hb1.alloc hs1 _
  have hlen : (L s).length = s.size := (sz s).symm
  go_enter Tryd.func51, Tryd.ntmps51
  go_wp2_with (at_builtin; refine wpList_append_rw rfl (.tmp 10) (.tmp 11) rfl _ rfl (L s) w.heap.size hR2 128 w1.heap.size rfl hc2 hb2 (by rw [World.size_alloc]; omega) (by omega) ?_)
  intro v2 w2 hR3 hb3 hs3
  clear hR2 hc2 hb2 hconv hR hb1
  go_wp2
  have hbase : w.heap.size ≤ w2.heap.size := hs3
  obtain ⟨B, hB⟩ : ∃ x, w.heap.size = x := ⟨_, rfl⟩
  have HB := Lib.hid hB
  simp only [hB] at hR3 hb3 hbase
  clear hs3 hs1
  go_loopw [3] (fun v wr => ∃ m : Nat, m ≤ nz s.size ∧ Rw wr B v (L s ++ 128 :: List.replicate m 0) ∧ Below B w wr ∧ B ≤ wr.heap.size) (fun v _ => s.size + 70 - slen v)
  case atStart => exact ⟨0, Nat.zero_le _, hR3, hb3, hbase⟩
  case round =>
    clear hR3 hb3 hbase hB
    obtain ⟨m, hm, hR, hb, hbs⟩ := hrel
    have hll : (L s ++ 128 :: List.replicate m 0).length = s.size + 1 + m := by
      simp only [List.length_append, List.length_cons, List.length_replicate, hlen]; omega
    have HR := Lib.hid hR
    obtain ⟨g, off, cap2, rfl, _⟩ := hR
    rw [hll] at HR ⊢
    have HNZ := nz_at s.size m hm
    obtain ⟨N, hN⟩ : ∃ N, s.size + 1 + m = N := ⟨_, rfl⟩
    rw [hN] at HR HNZ ⊢
    have hNb : N ≤ 2000000 := by omega
    have HNN := Lib.hid hN
    have HLL : Hid ((L s ++ 128 :: List.replicate m 0).length = N) := Lib.hid (by rw [hll, hN])
    have HML : Hid (m ≤ nz s.size) := Lib.hid hm
    by_cases h56 : N % 64 = 56
    · have hme : m = nz s.size := HNZ.1 h56
      have hq : decide ((N : Int) % 64 = 56) = true := decide_eq_true (by omega)
      have hq2 : (((N : Int) % 64) == 56) = true := beq_iff_eq.mpr (by omega)
      have hbu : ∃ k : Nat, k ≤ 8 ∧ (0 : Int) = (k : Int) ∧ Rw wr B (.slice (some ⟨g, off, none⟩) N cap2) (L s ++ 128 :: List.replicate (nz s.size) 0 ++ (sizeB s.size).take k) := ⟨0, by omega, rfl, by rw [← hme]; simpa using HR.out⟩
      have HBU := Lib.hid hbu
      clear hbu HNZ hm hll hN hme
      go_wp2
      obtain ⟨Z, hZ⟩ : ∃ Z, s.size * 8 = Z := ⟨_, rfl⟩
      have hZi : (s.size : Int) * 8 = (Z : Int) := by omega
      have hZb : Z ≤ 8000000 := by omega
      have HZ := Lib.hid hZ
      have hq3 : ((N : Int) % 64 != 56) = false := by simp only [bne, hq2]; rfl
      simp only [hZi, hq3]
      obtain ⟨pre, hpre⟩ : ∃ pre, L s ++ 128 :: List.replicate (nz s.size) 0 = pre := ⟨_, rfl⟩
      have hpl : pre.length ≤ 2000000 := by
        rw [← hpre]
        simp only [List.length_append, List.length_cons, List.length_replicate, hlen]; omega
      have HPRE := Lib.hid hpre
      have HPL := Lib.hid hpl
      simp only [hpre] at HBU
      clear hZ hZi hpre hpl hq hq2 hq3 h56 HR HLL
      go_loopw [3, 5] (fun v i wq => ∃ k : Nat, k ≤ 8 ∧ i = .int .i64 k ∧ Rw wq B v (pre ++ (sizeB s.size).take k) ∧ Below B w wq ∧ B ≤ wq.heap.size) (fun _ i _ => 8 - (intOf i).toNat)
      case atStart =>
        obtain ⟨k, hk, hk0, hRk⟩ := HBU.out
        exact ⟨k, hk, by rw [hk0], hRk, hb, hbs⟩
      case round =>
        clear HBU hb hbs
        obtain ⟨k, hk, rfl, hR, hb, hbs⟩ := hrel
        have HRR := Lib.hid hR
        obtain ⟨g3, off3, cap3, rfl, _⟩ := hR
        obtain ⟨n3, hn3⟩ : ∃ n, (pre ++ (sizeB s.size).take k).length = n := ⟨_, rfl⟩
        rw [hn3] at HRR ⊢
        have hR := HRR.out
        clear hn3 HRR
        by_cases hlt : k < 8
        · have hki : (k : Int) < 8 := by omega
          go_wp2
          go_loopw [6, 7] (fun pv jv wq => ∃ j : Nat, k ≤ j ∧ j ≤ 7 ∧ jv = .int .i64 j ∧ pv = .int .u64 ((Z / 256 ^ (7 - j) : Nat) : Int) ∧ Rw wq B (.slice (some ⟨g3, off3, none⟩) n3 cap3) (pre ++ (sizeB s.size).take k) ∧ Below B w wq ∧ B ≤ wq.heap.size) (fun _ jv _ => (intOf jv).toNat - k)
          case atStart => exact ⟨7, by omega, by omega, rfl, by simp, hR, hb, hbs⟩
          case round =>
            clear hR hb hbs
            obtain ⟨j, hj1, hj2, rfl, rfl, hR, hb, hbs⟩ := hrel
            have hPb : Z / 256 ^ (7 - j) ≤ 8000000 := Nat.le_trans (Nat.div_le_self _ _) hZb
            by_cases hjk : k < j
            · have HPS := Lib.hid (pow_step Z j (by omega) hj2)
              obtain ⟨P, hP⟩ : ∃ P, Z / 256 ^ (7 - j) = P := ⟨_, rfl⟩
              rw [hP] at hPb HPS ⊢
              have hji : (k : Int) < (j : Int) := by omega
              clear hP
              go_wp2
              go_roundw
              case rel => exact ⟨j - 1, by omega, by omega, by go_num, by rw [← HPS.out]; go_num, hR, hb, hbs⟩
              case measure => simp [intOf]; omega
            · have hje : j = k := by omega
              subst hje
              have HST := Lib.hid (sizeB_take s.size j hlt)
              simp only [HZ.out] at HST
              obtain ⟨P, hP⟩ : ∃ P, Z / 256 ^ (7 - j) = P := ⟨_, rfl⟩
              rw [hP] at hPb HST ⊢
              have hji : ¬ ((j : Int) < (j : Int)) := by omega
              have hll : (pre ++ (sizeB s.size).take j).length ≤ 3000000 := by
                have : ((sizeB s.size).take j).length ≤ 8 := by
                  rw [List.length_take]; exact Nat.le_trans (Nat.min_le_left _ _) hk
                have := HPL.out
                rw [List.length_append]; omega
              have HLL := Lib.hid hll
              have hR2 : Rw (wr.alloc (.cells #[.int .u8 ((P : Int) % 256)] 5)) B (.slice (some ⟨g3, off3, none⟩) n3 cap3) (pre ++ (sizeB s.size).take j) := hR.below ((Below.refl _ wr).alloc (Nat.le_refl _) _)
              have hcv : Value.int .u8 ((P : Int) % 256) = bv (UInt8.ofNat P) := by
                unfold bv; rw [UInt8.toNat_ofNat']; norm_cast
              have hc2 : (wr.alloc (.cells #[.int .u8 ((P : Int) % 256)] 5)).cell? ⟨wr.heap.size, 0, none⟩ = some (bv (UInt8.ofNat P)) := by
                rw [← hcv]; exact ((Blk.new wr 5 #[.int .u8 ((P : Int) % 256)]).cell 0).trans rfl
              have hb2 : Below B w (wr.alloc (.cells #[.int .u8 ((P : Int) % 256)] 5)) := hb.alloc hbs _
              clear hP hll hcv
              go_wp2_with (at_builtin; refine wpList_append_rw rfl (.tmp 36) (.tmp 40) rfl _ rfl (pre ++ (sizeB s.size).take j) B hR2 (UInt8.ofNat P) wr.heap.size rfl hc2 hb2 (by rw [World.size_alloc]; omega) (by have := HLL.out; omega) ?_)
              intro v4 w4 hR4 hb4 hs4
              clear hR2 hc2 hb2 hR hb hbs
              simp only [List.append_assoc, ← HST.out] at hR4
              go_wp2
              go_roundw
              case rel => exact ⟨j + 1, by omega, by go_num, hR4, hb4, hs4⟩
              case measure => simp [intOf]; omega
        · have hk8 : k = 8 := by omega
          have hki : ¬ ((k : Int) < 8) := by omega
          have hst := hR.str
          have e : pre ++ (sizeB s.size).take k = L s ++ endB s.size := by
            rw [hk8, ← HPRE.out, List.take_of_length_le (by simp [sizeB])]
            unfold endB
            simp
          rw [e] at hst
          clear e hk8 hlt hk hR
          go_wp2
          go_ret
          rw [← HB.out] at hb
          exact ⟨rfl, hb⟩
    · have hq : decide ((N : Int) % 64 = 56) = false := decide_eq_false (by omega)
      have hq2 : (((N : Int) % 64) == 56) = false := beq_eq_false_iff_ne.mpr (by omega)
      have hmlt : m + 1 ≤ nz s.size := by
        have : ¬ m = nz s.size := fun e => h56 (HNZ.2 e)
        omega
      have hR2 : Rw (wr.alloc (.cells #[.int .u8 0] 5)) B (.slice (some ⟨g, off, none⟩) N cap2) (L s ++ 128 :: List.replicate m 0) := HR.out.below ((Below.refl _ wr).alloc (Nat.le_refl _) _)
      have hc2 : (wr.alloc (.cells #[.int .u8 0] 5)).cell? ⟨wr.heap.size, 0, none⟩ = some (bv 0) := ((Blk.new wr 5 #[.int .u8 0]).cell 0).trans rfl
      have hb2 : Below B w (wr.alloc (.cells #[.int .u8 0] 5)) := hb.alloc hbs _
      clear HNZ hm hll hN
      go_wp2_with (at_builtin; refine wpList_append_rw rfl (.tmp 17) (.tmp 18) rfl _ rfl (L s ++ 128 :: List.replicate m 0) B hR2 0 wr.heap.size rfl hc2 hb2 (by rw [World.size_alloc]; omega) (by rw [HLL.out]; omega) ?_)
      intro v2 w2 hR3 hb3 hs3
      clear hR2 hc2 hb2
      go_wp2
      go_roundw
      case rel => exact ⟨m + 1, hmlt, by
        rw [List.replicate_succ']; simpa using hR3, hb3, hs3⟩
      case measure =>
        obtain ⟨_, _, _, rfl, _⟩ := hR3
        have := HLL.out
        simp [slen] at this ⊢
        omega
end Go.Proofs.YtcdhpknjinonhaaDoor.Sha
/- the reference's sum. -/
namespace Go.Proofs.YtcdhpknjinonhaaDoor.Sha
open Go.RowKit Go.Proofs.YtcdhpknjinonhaaDoor.Mem Go.Proofs.YtcdhpknjinonhaaDoor.X Go.Proofs.YtcdhpknjinonhaaDoorW.PrintWords Go.Proofs.YtcdhpknjinonhaaDoorW.PrintLast Go.Proofs.YtcdhpknjinonhaaDoorW.PrintMore Go.Proofs.YtcdhpknjinonhaaDoor.Aid
attribute [-simp] Tryd.sizeOf72 Tryd.isAgg72 Tryd.zeroValue72
set_option linter.unusedVariables false
set_option linter.unusedSimpArgs false
theorem wpStill_load_mid {P : Program} {ops : Array Oper} {o : Oper} {rest : List Oper} {a : Act} {w : World} {Q : Act → Prop} (hgd : o.guard = none) (ty : TypeId) (x : Operand) (ho : o.op = .load ty x) (b off : Nat)
    (hx : a.eval x = .pointer (some ⟨b, off, none⟩)) (cs : List Value) (d : TypeDesc) (hc : w.rangeAt b off cs) (hu : P.underlying ty = some d) (hd : d.isRow = true) (hi : (P.info? ty).map (·.size) = some cs.length)
    (h : wpStill P ops w Q rest (a.put o.dst (.agg cs.toArray))) : wpStill P ops w Q (o :: rest) a := by
  have hw : Region.wanted o (yielded ops a.tmps) = true := by simp [Region.wanted, hgd]
  have hrun : (execOp a.eval o).run P w = .ok (.value (.agg cs.toArray)) w := by
    unfold execOp
    simp only [ho, hx, Instr.loadAt, Instr.sureAddr, Sem.run_bind, Sem.run_pure, Result.andThen_ok, run_loadVar_mid w b off ty cs d hc hu hd hi]
  unfold wpStill
  rw [if_pos hw]
  unfold Oper.still
  rw [hrun, Oper.stillUpon_value]
  exact h
theorem cells8_size (v : V8) : (cells8 v).size = 8 := rfl
theorem cells8_len (v : V8) : (cells8 v).toList.length = 8 := rfl
theorem cells8_one (v : V8) : (cells8 v).all (·.oneCell') = true := by simp [cells8, Value.oneCell']
/-- so many blocks eaten -/
def runB (v : V8) (l : List UInt8) : Nat → V8
  | 0 => v
  | i + 1 => comp (runB v l i) ((l.drop (64 * i)).take 64)
theorem runB_shift (v : V8) (l : List UInt8) (m : Nat) : runB v l (m + 1) = runB (comp v (l.take 64)) (l.drop 64) m := by
  induction m with
  | zero => simp [runB]
  | succ m ih =>
    rw [runB, ih]
    show _ = comp (runB (comp v (l.take 64)) (l.drop 64) m) (((l.drop 64).drop (64 * m)).take 64)
    rw [List.drop_drop, show 64 + 64 * m = 64 * (m + 1) by omega]
theorem eat_runB (m : Nat) : ∀ (f : Nat) (v : V8) (l : List UInt8), l.length = 64 * m → m ≤ f → (eat f v l).1 = runB v l m := by
  induction m with
  | zero =>
    intro f v l hl hf
    cases f with
    | zero => rfl
    | succ f => rw [eat, if_pos (by omega)]; rfl
  | succ m ih =>
    intro f v l hl hf
    cases f with
    | zero => omega
    | succ f =>
      rw [eat, if_neg (by omega), ih f _ _ (by rw [List.length_drop]; omega) (by omega), runB_shift]
set_option maxHeartbeats 4000000 in
set_option maxRecDepth 100000 in
theorem rsum_calls (w : World) (s : ByteArray) (hs : s.size ≤ 1000000) :
    Calls Tryd.prog 37 #[.string s] w fun e w' => e = .returned (.string (S (shaB (L s)))) ∧ Below w.heap.size w w' := by
  go_enter Tryd.func37, Tryd.ntmps37
  go_wp2_with fail
  refine (rBegin_calls w).mono ?_
  rintro e w1 ⟨rfl, b1⟩
  have hs1 := b1.size
  have HI8 : Hid ((Tryd.prog.info? 70).map (·.size) = some (cells8 vbegin).size) := Lib.hid (by show _ = some 8; kernel_rfl)
  have HO8 : Hid ((cells8 vbegin).all (·.oneCell') = true) := Lib.hid (by simp [cells8, Value.oneCell'])
  have HTH : Hid ((w1.alloc (.cells zero8 70)).there w1.heap.size 0 (cells8 vbegin).size) := Lib.hid (there_blk (Blk.new w1 70 zero8) (Nat.le_refl 8))
  have HV : Hid (Blk ((w1.alloc (.cells zero8 70)).setCells w1.heap.size 0 (cells8 vbegin).toList) w1.heap.size 70 (cells8 vbegin)) := Lib.hid (blk_whole (Blk.new w1 70 zero8) rfl)
  have b2 : Below w.heap.size w ((w1.alloc (.cells zero8 70)).setCells w1.heap.size 0 (cells8 vbegin).toList) := below_cells (b1.alloc hs1 _) hs1
  have hsz2 : ((w1.alloc (.cells zero8 70)).setCells w1.heap.size 0 (cells8 vbegin).toList).heap.size = w1.heap.size + 1 := by rw [setCells_size]; simp
  obtain ⟨cs, hcs⟩ : ∃ cs, cells8 vbegin = cs := ⟨_, rfl⟩
  have HCS := Lib.hid hcs
  simp only [hcs] at HI8 HO8 HTH HV b2 hsz2 ⊢
  clear hcs
  go_wp2_with (refine wpList_store_mid rfl 70 (.tmp 3) (.tmp 10) rfl w1.heap.size 0 cs rfl rfl HTH.out HI8.out HO8.out ?_)
  have hV := HV.out
  obtain ⟨w2, hw2⟩ : ∃ x, (w1.alloc (.cells zero8 70)).setCells w1.heap.size 0 cs.toList = x := ⟨_, rfl⟩
  obtain ⟨pv, hpv⟩ : ∃ x, w1.heap.size = x := ⟨_, rfl⟩
  have hbpv : w.heap.size ≤ pv := by omega
  have e8 : (#[Value.int .u32 0, .int .u32 0, .int .u32 0, .int .u32 0, .int .u32 0, .int .u32 0, .int .u32 0, .int .u32 0] : Array Value) = zero8 := rfl
  simp only [e8]
  simp only [hw2] at hV b2 hsz2 ⊢
  simp only [hpv] at hV hsz2 ⊢
  clear HV HTH b1 hs1 hw2 hpv e8
  refine (rConst_calls w2).mono ?_
  rintro e w3 ⟨rfl, b3⟩
  have hs3 := b3.size
  have hV3 := hV.below b3
  have b3' := b2.trans (b3.mono (by omega))
  have HSZ : Hid ((Tryd.prog.info? 72).map (·.size) = some (arr kc).size) := Lib.hid (by show _ = some 64; kernel_rfl)
  have HONE := Lib.hid (arr_one kc)
  have HTH : Hid ((w3.alloc (.cells (arr []) 72)).there w3.heap.size 0 (arr kc).size) := Lib.hid (there_blk (Blk.new w3 72 (arr [])) (Nat.le_refl 64))
  have HK : Hid (Blk ((w3.alloc (.cells (arr []) 72)).setCells w3.heap.size 0 (arr kc).toList) w3.heap.size 72 (arr kc)) := Lib.hid (blk_whole (Blk.new w3 72 (arr [])) (by rw [arr_size kc (by decide), arr_size [] (by decide)]))
  have hV4 : Blk ((w3.alloc (.cells (arr []) 72)).setCells w3.heap.size 0 (arr kc).toList) pv 70 cs := blk_whole_far (hV3.alloc _) (Nat.ne_of_lt hV3.lt) _ _
  have b4 : Below w.heap.size w ((w3.alloc (.cells (arr []) 72)).setCells w3.heap.size 0 (arr kc).toList) := below_cells (b3'.alloc (by omega) _) (by omega)
  have hsz4 : ((w3.alloc (.cells (arr []) 72)).setCells w3.heap.size 0 (arr kc).toList).heap.size = w3.heap.size + 1 := by rw [setCells_size]; simp
  obtain ⟨K, hK⟩ : ∃ K, arr kc = K := ⟨_, rfl⟩
  have HKK := Lib.hid hK
  simp only [hK] at HSZ HONE HTH HK hV4 b4 hsz4 ⊢
  have hz := fun w => zero64 w
  clear hK b3 b3' hV3 b2 hV
  go_wp2_with (refine wpList_store_mid rfl 72 (.tmp 4) (.tmp 11) rfl w3.heap.size 0 K rfl rfl HTH.out HSZ.out HONE.out ?_)
  have hK4 := HK.out
  obtain ⟨w4, hw4⟩ : ∃ x, (w3.alloc (.cells (arr []) 72)).setCells w3.heap.size 0 K.toList = x := ⟨_, rfl⟩
  obtain ⟨pk, hpk⟩ : ∃ x, w3.heap.size = x := ⟨_, rfl⟩
  have hbpk : w.heap.size ≤ pk := by omega
  have HPP : Hid (pv < pk) := Lib.hid (by omega)
  simp only [hw4] at hK4 hV4 b4 hsz4 ⊢
  simp only [hpk] at hK4 hsz4 ⊢
  clear HK HTH hs3 hw4 hpk hsz2
  refine (padded_calls w4 s hs).mono ?_
  rintro e w5 ⟨rfl, b5⟩
  have hV5 := hV4.below b5
  have hK5 := hK4.below b5
  have b5' := b4.trans (b5.mono (by omega))
  have hel := endB_len s.size
  have hll : (L s).length = s.size := (sz s).symm
  obtain ⟨T, hT⟩ : ∃ T, L s ++ endB s.size = T := ⟨_, rfl⟩
  have hTl : T.length = s.size + nz s.size + 9 := by rw [← hT, List.length_append, hel, hll]; omega
  have HTT := Lib.hid hT
  obtain ⟨nb, hnb⟩ : ∃ nb, T.length = 64 * nb := ⟨(s.size + nz s.size + 9) / 64, by rw [hTl]; unfold nz; omega⟩
  have hnbb : nb ≤ 20000 := by have : nz s.size < 64 := by unfold nz; omega
                               omega
  obtain ⟨t, ht⟩ : ∃ t, S T = t := ⟨_, rfl⟩
  have hts : t.size = 64 * nb := by rw [← ht, sz, L_S, hnb]
  have HLT : Hid (L t = T) := Lib.hid (by rw [← ht, L_S])
  have HNB := Lib.hid hnb
  have hVr : Blk w5 pv 70 (cells8 (runB vbegin T 0)) := by
    show Blk w5 pv _ (cells8 vbegin)
    rw [HCS.out]; exact hV5
  simp only [hT, ht]
  clear hT ht hTl hel hll hnb b5 b4 hV4 hK4 hV5 HI8 HO8 HSZ HONE HCS hsz4
  obtain ⟨m64, hm64⟩ : ∃ m, 64 * nb = m := ⟨_, rfl⟩
  have HM := Lib.hid hm64
  rw [hm64] at hts
  have hm2 : m64 ≤ 2000000 := by omega
  have hb5 := b5'.size
  clear hm64
  go_wp2
  go_loopw [6] (fun i wr => ∃ k : Nat, k ≤ nb ∧ i = .int .i64 ((64 * k : Nat) : Int) ∧ Blk wr pv 70 (cells8 (runB vbegin T k)) ∧ Blk wr pk 72 K ∧ Below w.heap.size w wr) (fun i _ => 64 * nb + 64 - (intOf i).toNat)
  case atStart => exact ⟨0, by omega, rfl, hVr, hK5, b5'⟩
  case round =>
    clear hVr hK5 b5' hb5
    obtain ⟨k, hk, rfl, hV, hKr, hb⟩ := hrel
    obtain ⟨q, hq⟩ : ∃ q, 64 * k = q := ⟨_, rfl⟩
    have hqm : q ≤ m64 := by have := HM.out; omega
    rw [hq]
    have HQ := Lib.hid hq
    clear hq
    by_cases hlt : q < m64
    · have hqi : (q : Int) < (m64 : Int) := by omega
      have hq2 : q + 64 ≤ m64 := by have := HM.out; have := HQ.out; omega
      have hkn : k + 1 ≤ nb := by have := HM.out; have := HQ.out; omega
      obtain ⟨e, he⟩ : ∃ e, q + 64 = e := ⟨_, rfl⟩
      have hq64 : IntKind.i64.wrap ((q : Int) + 64) = (e : Int) := by rw [i64_w, w64 (by omega) (by omega)]; omega
      have HEK : Hid (e = 64 * (k + 1)) := Lib.hid (by have := HQ.out; omega)
      have hqe : q ≤ e := by omega
      have hqei : (q : Int) ≤ (e : Int) := by omega
      have hem : e ≤ m64 := by omega
      have hemi : (e : Int) ≤ (m64 : Int) := by omega
      have hez : (t.extract q e).size = 64 := by rw [ByteArray.size_extract]; omega
      have HEL : Hid (L (t.extract q e) = (T.drop (64 * k)).take 64) := Lib.hid (by rw [L_ext, HLT.out, List.drop_take, HQ.out]; congr 1; omega)
      have hone := one_calls wr.drew (runB vbegin T k) (t.extract q e) hez
      have HST : Hid (comp (runB vbegin T k) (L (t.extract q e)) = runB vbegin T (k + 1)) := Lib.hid (by rw [HEL.out]; rfl)
      rw [HST.out, HKK.out] at hone
      have HV8 : Hid (wr.drew.rangeAt pv 0 (cells8 (runB vbegin T k)).toList) := Lib.hid (rangeAt_blk hV.drew)
      have HK64 : Hid (wr.drew.rangeAt pk 0 K.toList) := Lib.hid (rangeAt_blk hKr.drew)
      have HI8 : Hid ((Tryd.prog.info? 70).map (·.size) = some (cells8 (runB vbegin T k)).toList.length) := Lib.hid (by rw [cells8_len]; kernel_rfl)
      have HI64 : Hid ((Tryd.prog.info? 72).map (·.size) = some K.toList.length) := Lib.hid (by rw [← HKK.out]; show _ = some 64; kernel_rfl)
      have hV' := hV.drew
      have hK' := hKr.drew
      have hb' := hb.drew
      have HONE := Lib.hid hone
      obtain ⟨C, hC⟩ : ∃ C, cells8 (runB vbegin T k) = C := ⟨_, rfl⟩
      have HCC := Lib.hid hC
      simp only [hC] at HV8 HI8 HONE
      clear hC hone hV hKr hb hez he hq2
      go_wp2
      refine wp_region_still_tail 7 (by kernel_rfl) (by kernel_rfl) ?_; simp only [List.take_succ_cons, List.take_zero, List.drop_succ_cons, List.drop_zero]
      refine wpStill_load_mid rfl 70 (.tmp 3) rfl pv 0 rfl C.toList _ HV8.out Tryd.underlying70 rfl HI8.out ?_
      refine wpStill_load_mid rfl 72 (.tmp 4) rfl pk 0 rfl K.toList _ HK64.out Tryd.underlying72 rfl HI64.out ?_
      simp only [Array.toArray_toList]
      repeat still_step
      refine wpStill_nil ?_
      change wpList _ _ _ _ _ wr.drew
      go_wp2_with fail
      refine HONE.out.mono ?_
      rintro e6 w6 ⟨rfl, b6⟩
      have hV6 := hV'.below b6
      have hK6 := hK'.below b6
      have hb6 := hb'.trans (b6.mono hb'.size)
      clear hV' hK' hb' b6 HV8 HK64 HI8 HI64 HONE
      have HI8 : Hid ((Tryd.prog.info? 70).map (·.size) = some (cells8 (runB vbegin T (k + 1))).size) := Lib.hid (by rw [cells8_size]; kernel_rfl)
      have HO8 : Hid ((cells8 (runB vbegin T (k + 1))).all (·.oneCell') = true) := Lib.hid (cells8_one _)
      have HTH : Hid (w6.there pv 0 (cells8 (runB vbegin T (k + 1))).size) := Lib.hid (there_blk hV6 (by rw [cells8_size, cells8_size]; exact Nat.le_refl 8))
      have hV7 : Blk (w6.setCells pv 0 (cells8 (runB vbegin T (k + 1))).toList) pv 70 (cells8 (runB vbegin T (k + 1))) := blk_whole hV6 (by rw [cells8_size, cells8_size])
      have hK7 : Blk (w6.setCells pv 0 (cells8 (runB vbegin T (k + 1))).toList) pk 72 K := blk_whole_far hK6 (by have := HPP.out; omega) _ _
      have hb7 : Below w.heap.size w (w6.setCells pv 0 (cells8 (runB vbegin T (k + 1))).toList) := below_cells hb6 hbpv
      have HALL := Lib.hid (And.intro hV7 (And.intro hK7 hb7))
      clear hV7 hK7 hb7 hV6 hK6 hb6 HCC
      obtain ⟨D, hD⟩ : ∃ D, cells8 (runB vbegin T (k + 1)) = D := ⟨_, rfl⟩
      have HDD := Lib.hid hD
      simp only [hD] at HI8 HO8 HTH HALL ⊢
      clear hD
      have hqn : IntKind.i64.wrap ((q : Int) + 64) = (e : Int) := hq64
      go_wp2_with (refine wpList_store_mid rfl 70 (.tmp 3) (.tmp 27) rfl pv 0 D rfl rfl HTH.out HI8.out HO8.out ?_)
      go_roundw
      case rel => exact ⟨k + 1, hkn, by rw [HEK.out], by rw [HDD.out]; exact HALL.out.1, HALL.out.2.1, HALL.out.2.2⟩
      case measure =>
        have := HEK.out
        have := HQ.out
        have := HM.out
        simp [intOf]; omega
    · have hqi : ¬ ((q : Int) < (m64 : Int)) := by omega
      have hkn : k = nb := by have := HM.out; have := HQ.out; omega
      have HRB : Hid (dig (runB vbegin T k) = shaB (L s)) := Lib.hid (by
        unfold shaB eatA
        rw [← sz s, HTT.out, eat_runB nb _ _ _ HNB.out (by rw [HNB.out]; omega), hkn])
      obtain ⟨wl, hwl⟩ : ∃ wl, words8 (runB vbegin T k) = wl := ⟨_, rfl⟩
      have HWL : Hid (wl.length = 8) := Lib.hid (by rw [← hwl]; rfl)
      have HWD : Hid (wl.flatMap word4 = shaB (L s)) := Lib.hid (by rw [← hwl]; exact HRB.out)
      have HCL : Hid (∀ i, i < 8 → (cells8 (runB vbegin T k))[i]? = some (.int .u32 (iv (wl.getD i 0#32)))) := Lib.hid (fun i hi => by rw [← hwl]; exact cells8_words _ i hi)
      obtain ⟨C, hC⟩ : ∃ C, cells8 (runB vbegin T k) = C := ⟨_, rfl⟩
      rw [hC] at hV
      simp only [hC] at HCL
      clear hkn hwl hC hlt hk hqm hKr
      go_wp2
      go_loopw [7, 8] (fun o i wq => ∃ (j : Nat) (x : ByteArray), j ≤ 8 ∧ i = .int .i64 j ∧ o = .string x ∧ Hid (L x = (wl.take j).flatMap word4) ∧ Blk wq pv 70 C ∧ Below w.heap.size w wq) (fun _ i _ => 8 - (intOf i).toNat)
      case atStart => exact ⟨0, ⟨#[]⟩, by omega, rfl, rfl, Lib.hid rfl, hV, hb⟩
      case round =>
        clear hV hb
        obtain ⟨j, x, hj, rfl, rfl, HX, hV, hb⟩ := hrel
        by_cases hlj : j < 8
        · obtain ⟨y, hy⟩ : ∃ y, wl.getD j 0#32 = y := ⟨_, rfl⟩
          have cy : wr.cell? ⟨pv, j, none⟩ = some (.int .u32 (iv y)) := by rw [hV.cell j, HCL.out j hlj, hy]
          have HN : Hid (L x ++ word4 y = (wl.take (j + 1)).flatMap word4) := Lib.hid (by rw [HX.out, take_flat wl j (by rw [HWL.out]; exact hlj), hy])
          have hji : (j : Int) < 8 := by omega
          have hbs := hb.size
          have hconv : (convert 38 9 (.slice (some ⟨wr.heap.size, 0, none⟩) 4 4)).run Tryd.prog (wr.alloc (.cells #[.int .u8 (iv y / 16777216 % 256), .int .u8 (iv y / 65536 % 256), .int .u8 (iv y / 256 % 256), .int .u8 (iv y % 256)] 5)) = .ok (.string (S (word4 y))) (wr.alloc (.cells #[.int .u8 (iv y / 16777216 % 256), .int .u8 (iv y / 65536 % 256), .int .u8 (iv y / 256 % 256), .int .u8 (iv y % 256)] 5)) := by
            refine run_convert_bytes_back _ 38 9 5 ⟨wr.heap.size, 0, none⟩ 4 (word4 y) Tryd.underlying38 Tryd.underlying5 Tryd.underlying9 fun i hi => ?_
            have hadd : (⟨wr.heap.size, 0, none⟩ : Addr).add i = ⟨wr.heap.size, i, none⟩ := by unfold Addr.add; split <;> simp_all
            rw [hadd, (Blk.new wr 5 #[.int .u8 (iv y / 16777216 % 256), .int .u8 (iv y / 65536 % 256), .int .u8 (iv y / 256 % 256), .int .u8 (iv y % 256)]).cell i]
            have b1 := byte24 y
            have b2 := byte16 y
            have b3 := byte8 y
            have b4 := byte0 y
            rw [IntKind.wrap_u8] at b1 b2 b3 b4
            rw [b1, b2, b3, b4]
            have hc : i = 0 ∨ i = 1 ∨ i = 2 ∨ i = 3 := by simp [word4] at hi; omega
            rcases hc with rfl | rfl | rfl | rfl <;> rfl
          have hV2 := hV.alloc (.cells #[.int .u8 (iv y / 16777216 % 256), .int .u8 (iv y / 65536 % 256), .int .u8 (iv y / 256 % 256), .int .u8 (iv y % 256)] 5)
          have hb2 := hb.alloc hbs (.cells #[.int .u8 (iv y / 16777216 % 256), .int .u8 (iv y / 65536 % 256), .int .u8 (iv y / 256 % 256), .int .u8 (iv y % 256)] 5)
          clear hy
          have hy0 := (iv_lt y).1
          have hsx : (x.size : Int) + (S (word4 y)).size ≤ 9223372036854775807 := by
            have e1 : x.size = 4 * (wl.take j).length := by rw [sz, HX.out, flat_len]
            have e2 : (wl.take j).length ≤ 8 := by rw [List.length_take, HWL.out]; omega
            have e3 : (S (word4 y)).size = 4 := by rw [sz, L_S]; rfl
            omega
          have t1 : (iv y).tdiv 16777216 = iv y / 16777216 := Int.tdiv_eq_ediv_of_nonneg hy0
          have t2 : (iv y).tdiv 65536 = iv y / 65536 := Int.tdiv_eq_ediv_of_nonneg hy0
          have t3 : (iv y).tdiv 256 = iv y / 256 := Int.tdiv_eq_ediv_of_nonneg hy0
          have t4 : (iv y).tmod 256 = iv y % 256 := Int.tmod_eq_emod_of_nonneg hy0
          go_wp2
          go_roundw
          case rel => exact ⟨j + 1, x ++ S (word4 y), by omega, by go_num, rfl, Lib.hid (by rw [L_app, L_S]; exact HN.out), hV2, hb2⟩
          case measure => simp [intOf]; omega
        · have hj8 : j = 8 := by omega
          have hji : ¬ ((j : Int) < 8) := by omega
          have hx : x = S (shaB (L s)) := by
            rw [← HWD.out, ← S_L x, HX.out, hj8, List.take_of_length_le (by rw [HWL.out]; exact Nat.le_refl _)]
          clear hj8 hlj hj hV HX
          go_wp2
          go_ret
          exact ⟨rfl, hb⟩
end Go.Proofs.YtcdhpknjinonhaaDoor.Sha
