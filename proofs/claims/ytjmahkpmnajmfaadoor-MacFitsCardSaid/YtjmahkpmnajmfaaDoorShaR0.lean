/- the reference's sum: Begin, Constants, turn. -/
import Derived.Test.YtjmahkpmnajmfaaDoorShaF
namespace Go.Proofs.YtjmahkpmnajmfaaDoor.Sha
open Go.RowKit Go.Proofs.YtjmahkpmnajmfaaDoor.Mem Go.Proofs.YtjmahkpmnajmfaaDoor.X Go.Proofs.YtjmahkpmnajmfaaDoorW.PrintWords Go.Proofs.YtjmahkpmnajmfaaDoorW.PrintLast Go.Proofs.YtjmahkpmnajmfaaDoorW.PrintMore Go.Proofs.YtjmahkpmnajmfaaDoor.Aid
attribute [-simp] Tryd.sizeOf36 Tryd.isAgg36 Tryd.zeroValue36
set_option linter.unusedVariables false
set_option linter.unusedSimpArgs false
theorem loadVar_blk {P : Program} {w : World} {g : Nat} {t : TypeId} {cs : Array Value} {d : TypeDesc} (h : Blk w g t cs) (ty : TypeId) (hu : P.underlying ty = some d) (hd : d.isRow = true) (hi : (P.info? ty).map (·.size) = some cs.size) :
    (loadVar ty ⟨g, 0, none⟩).run P w = .ok (.agg cs) w := by
  have := run_loadVar_mid (P := P) w g 0 ty cs.toList d (rangeAt_blk h) hu hd (by rw [hi]; simp)
  simpa using this
theorem rturn_calls (w : World) (x : W) (n : Nat) (hn : n ≤ 32) :
    Calls Tryd.prog 23 #[.int .u32 (iv x), .int .u64 (n : Int)] w fun e w' => e = .returned (.int .u32 (iv (ror x n))) ∧ w' = w := by
  have h2 : IntKind.u64.wrap (32 - (n : Int)) = ((32 - n : Nat) : Int) := by
    rw [IntKind.wrap_u64]; omega
  have h3 : (32 - (n : Int)) % 18446744073709551616 = ((32 - n : Nat) : Int) := by omega
  have hp : 0 ≤ ((32 - n : Nat) : Int) := by omega
  have hq : 0 ≤ (n : Int) := by omega
  have e : bits .or .u32 (iv x / 2 ^ min n 32) (iv x * 2 ^ min (32 - n) 32 % 4294967296) = iv (ror x n) := by
    rw [Nat.min_eq_left (by omega), Nat.min_eq_left (by omega), ← wrap_u32, iv_shl, iv_shr, iv_or]
    unfold ror
    rw [BitVec.or_comm]
  obtain ⟨m, hm⟩ : ∃ m, 32 - n = m := ⟨_, rfl⟩
  rw [hm] at h2 h3 hp e
  have HE := Lib.hid e
  go_enter Tryd.func23, Tryd.ntmps23
  clear hn hm e
  go_wp2
  simp only [HE.out]
  go_ret
  exact ⟨rfl, rfl⟩
set_option maxHeartbeats 4000000 in
set_option maxRecDepth 100000 in
theorem rBegin_calls (w : World) : Calls Tryd.prog 16 #[] w fun e w' => e = .returned (.agg (cells8 vbegin)) ∧ Below w.heap.size w w' := by
  go_enter Tryd.func16, Tryd.ntmps16
  go_wp2
  have ev : (#[.int .u32 1779033703, .int .u32 3144134277, .int .u32 1013904242, .int .u32 2773480762, .int .u32 1359893119, .int .u32 2600822924, .int .u32 528734635, .int .u32 1541459225] : Array Value) = cells8 vbegin := by kernel_rfl
  simp only [ev]
  have hi : (Tryd.prog.info? 34).map (·.size) = some (cells8 vbegin).size := by show _ = some 8; kernel_rfl
  obtain ⟨cs, hcs⟩ : ∃ cs, cells8 vbegin = cs := ⟨_, rfl⟩
  rw [hcs] at hi ⊢
  have hB := Blk.new w 34 cs
  refine bodyPost_ret (v := .agg cs) (results_agg rfl rfl (loadVar_blk hB 34 Tryd.underlying34 rfl hi)) rfl ⟨rfl, ?_⟩
  exact (Below.refl _ w).alloc (Nat.le_refl _) _
def kparts : Array (Nat × Value) := #[(0, .int .u32 1116352408), (1, .int .u32 1899447441), (2, .int .u32 3049323471), (3, .int .u32 3921009573), (4, .int .u32 961987163), (5, .int .u32 1508970993), (6, .int .u32 2453635748), (7, .int .u32 2870763221), (8, .int .u32 3624381080), (9, .int .u32 310598401), (10, .int .u32 607225278), (11, .int .u32 1426881987), (12, .int .u32 1925078388), (13, .int .u32 2162078206), (14, .int .u32 2614888103), (15, .int .u32 3248222580), (16, .int .u32 3835390401), (17, .int .u32 4022224774), (18, .int .u32 264347078), (19, .int .u32 604807628), (20, .int .u32 770255983), (21, .int .u32 1249150122), (22, .int .u32 1555081692), (23, .int .u32 1996064986), (24, .int .u32 2554220882), (25, .int .u32 2821834349), (26, .int .u32 2952996808), (27, .int .u32 3210313671), (28, .int .u32 3336571891), (29, .int .u32 3584528711), (30, .int .u32 113926993), (31, .int .u32 338241895), (32, .int .u32 666307205), (33, .int .u32 773529912), (34, .int .u32 1294757372), (35, .int .u32 1396182291), (36, .int .u32 1695183700), (37, .int .u32 1986661051), (38, .int .u32 2177026350), (39, .int .u32 2456956037), (40, .int .u32 2730485921), (41, .int .u32 2820302411), (42, .int .u32 3259730800), (43, .int .u32 3345764771), (44, .int .u32 3516065817), (45, .int .u32 3600352804), (46, .int .u32 4094571909), (47, .int .u32 275423344), (48, .int .u32 430227734), (49, .int .u32 506948616), (50, .int .u32 659060556), (51, .int .u32 883997877), (52, .int .u32 958139571), (53, .int .u32 1322822218), (54, .int .u32 1537002063), (55, .int .u32 1747873779), (56, .int .u32 1955562222), (57, .int .u32 2024104815), (58, .int .u32 2227730452), (59, .int .u32 2361852424), (60, .int .u32 2428436474), (61, .int .u32 2756734187), (62, .int .u32 3204031479), (63, .int .u32 3329325298)]
set_option maxHeartbeats 4000000 in
set_option maxRecDepth 100000 in
theorem fill64 : Instr.fill (fun i => some (i * 1, 1)) (arr []) kparts.toList = some (arr kc) := by kernel_rfl
set_option maxHeartbeats 4000000 in
set_option maxRecDepth 100000 in
theorem build64 (w : World) : (Instr.build 36 kparts).run Tryd.prog w = .ok (.agg (arr kc)) w := by
  have hs : ∀ w, (sizeOf 33).run Tryd.prog w = .ok 1 w := fun w => by simp
  have hc : Value.cells (.agg (arr [])) = arr [] := rfl
  unfold Instr.build
  simp only [Sem.run_bind, zero64, Result.andThen_ok, run_underlying Tryd.underlying36, hs, hc, fill64, Sem.run_pure]
theorem wpList_build64 {ops : Array Oper} {rest : List Oper} {op : Oper} {a : Act} {w : World} {Q : Exit → Act → World → Prop} (hgd : op.guard = none) (parts : Array (Nat × Operand)) (ho : op.op = .build 36 parts)
    (hv' : parts.toList.map (fun p => (p.1, a.eval p.2)) = kparts.toList) (h : wpList Tryd.prog ops Q rest (a.put op.dst (.agg (arr kc))) w) : wpList Tryd.prog ops Q (op :: rest) a w := by
  have hv : parts.map (fun p => (p.1, a.eval p.2)) = kparts := by
    apply Array.toList_inj.1
    rw [Array.toList_map]
    exact hv'
  refine Kd.event_run hgd ?_ h
  unfold execOp
  simp only [ho, hv, Sem.run_bind, build64, Result.andThen_ok, Sem.run_pure]
set_option maxHeartbeats 4000000 in
set_option maxRecDepth 100000 in
theorem rConst_calls (w : World) : Calls Tryd.prog 17 #[] w fun e w' => e = .returned (.agg (arr kc)) ∧ Below w.heap.size w w' := by
  go_enter Tryd.func17, Tryd.ntmps17
  have hth := there_blk (Blk.new w 36 (arr [])) (n := (arr kc).size) (Nat.le_refl _)
  have hz := zero64 w
  go_wp2_with (first | (refine wpList_build64 rfl _ rfl rfl ?_) | (refine wpList_store_mid rfl 36 (.tmp 0) (.tmp 1) rfl w.heap.size 0 (arr kc) rfl rfl hth (by show _ = some 64; kernel_rfl) (arr_one kc) ?_))
  have hi : (Tryd.prog.info? 36).map (·.size) = some (arr kc).size := by show _ = some 64; kernel_rfl
  have hB := blk_whole (Blk.new w 36 (arr [])) (cs := arr kc) (by rw [arr_size kc (by decide), arr_size [] (by decide)])
  obtain ⟨cs, hcs⟩ : ∃ cs, arr kc = cs := ⟨_, rfl⟩
  rw [hcs] at hi hB ⊢
  refine bodyPost_ret (v := .agg cs) (results_agg rfl rfl (loadVar_blk hB 36 Tryd.underlying36 rfl hi)) rfl ⟨rfl, ?_⟩
  exact below_cells (((Below.refl _ w).alloc (Nat.le_refl _) _)) (Nat.le_refl _)
end Go.Proofs.YtjmahkpmnajmfaaDoor.Sha
