/- mac: pad and Sum, walked. -/
import Derived.Test.YtjmahkpmnajmfaaDoorMacA
import Derived.Test.YtjmahkpmnajmfaaDoorMemP
import Derived.Lib.LazyBuf
namespace Go.Proofs.YtjmahkpmnajmfaaDoor.Mac
open Go.RowKit Go.Proofs.YtjmahkpmnajmfaaDoor.Mem Go.Proofs.YtjmahkpmnajmfaaDoor.X Go.Proofs.YtjmahkpmnajmfaaDoorW.PrintWords Go.Proofs.YtjmahkpmnajmfaaDoorW.PrintLast Go.Proofs.YtjmahkpmnajmfaaDoorW.PrintMore Go.Proofs.YtjmahkpmnajmfaaDoor.Aid Go.Proofs.YtjmahkpmnajmfaaDoor.Sha
attribute [-simp] Tryd.sizeOf43 Tryd.isAgg43 Tryd.zeroValue43
set_option linter.unusedVariables false
set_option linter.unusedSimpArgs false
/-- a byte's cell -/
def bc (c : UInt8) : Value := .int .u8 (c.toNat : Int)
/-- a block's cells -/
def cells64 (l : List UInt8) : Array Value := (l.map bc).toArray
def noughts (n : Nat) : List UInt8 := List.replicate n 0
theorem zeroB (w : World) : (zeroValue 43).run Tryd.prog w = .ok (.agg (cells64 (noughts 64))) w := by
  have h : (Tryd.prog.info? 43).map (fun i => (i.zero, i.size)) = some (some (.agg (cells64 (noughts 64))), 64) := by kernel_rfl
  exact (zero_of_info h).1 w
theorem cells64_get (l : List UInt8) (i : Nat) (h : i < l.length) : (cells64 l)[i]? = some (bc l[i]) := by
  simp [cells64, h]
theorem cells64_size (l : List UInt8) : (cells64 l).size = l.length := by simp [cells64]
theorem cells_put (n : Nat) (k : List UInt8) (h : k.length ≤ n) : putMany (cells64 (noughts n)) 0 (k.map bc) = cells64 (k ++ noughts (n - k.length)) := by
  apply Array.toList_inj.1
  rw [putMany_list _ _ _ (by rw [List.length_map, cells64_size]; simp [noughts]; omega)]
  simp [cells64, noughts]
theorem cells64_put (k : List UInt8) (h : k.length ≤ 64) : putMany (cells64 (noughts 64)) 0 (k.map bc) = cells64 (k ++ noughts (64 - k.length)) := cells_put 64 k h
/-- the first so many bytes put together with another one -/
def xorN (c : UInt8) (t : Nat) (l : List UInt8) : List UInt8 := (l.take t).map (· ^^^ c) ++ l.drop t
theorem xorN_len (c : UInt8) (t : Nat) (l : List UInt8) : (xorN c t l).length = l.length := by
  simp [xorN]; omega
theorem xorN_at (c : UInt8) (t : Nat) (l : List UInt8) (h : t < l.length) : (xorN c t l)[t]? = some l[t] := by
  unfold xorN
  rw [List.getElem?_append_right (by simp; omega)]
  simp [Nat.min_eq_left (Nat.le_of_lt h)]
theorem xorN_set (c : UInt8) (t : Nat) (l : List UInt8) (h : t < l.length) : (cells64 (xorN c t l)).setIfInBounds t (bc (l[t] ^^^ c)) = cells64 (xorN c (t + 1) l) := by
  apply Array.toList_inj.1
  rw [Array.toList_setIfInBounds]
  unfold cells64 xorN
  simp only [List.map_append]
  rw [List.set_append_right _ _ (by simp; omega), List.take_succ_eq_append_getElem h, List.drop_eq_getElem_cons h]
  have hm : t - (List.map bc (List.map (fun x => x ^^^ c) (List.take t l))).length = 0 := by simp; omega
  rw [hm]
  simp only [List.map_append, List.map_cons, List.map_nil, List.set_cons_zero, List.append_assoc, List.cons_append, List.nil_append]
theorem xorN_all (c : UInt8) (l : List UInt8) (n : Nat) (h : l.length = n) : xorN c n l = l.map (· ^^^ c) := by
  subst h
  simp [xorN]
theorem xor_u8 (x c : UInt8) : Go.bits .xor .u8 (x.toNat : Int) (c.toNat : Int) = ((x ^^^ c).toNat : Int) := by
  show IntKind.u8.wrap ((BitVec.ofInt 8 (x.toNat : Int) ^^^ BitVec.ofInt 8 (c.toNat : Int)).toNat : Int) = _
  rw [BitVec.ofInt_natCast, BitVec.ofInt_natCast]
  have h1 : BitVec.ofNat 8 x.toNat = x.toBitVec := by apply BitVec.eq_of_toNat_eq; simp
  have h2 : BitVec.ofNat 8 c.toNat = c.toBitVec := by apply BitVec.eq_of_toNat_eq; simp
  rw [h1, h2, ← UInt8.toBitVec_xor]
  show IntKind.u8.wrap (((x ^^^ c).toNat : Nat) : Int) = _
  obtain ⟨n, hn⟩ : ∃ n, (x ^^^ c).toNat = n := ⟨_, rfl⟩
  have h3 : (x ^^^ c).toNat < 256 := (x ^^^ c).toNat_lt
  rw [hn] at h3 ⊢
  simp [IntKind.wrap, IntKind.bits, IntKind.signed]
  omega
theorem sizeOf_u8 (w : World) : (Go.sizeOf 5).run Tryd.prog w = .ok 1 w := by
  simp
set_option maxHeartbeats 4000000 in
set_option maxRecDepth 100000 in
theorem pad_calls (w : World) (hT : Tabs w) (k : ByteArray) (c : UInt8) (hk : k.size ≤ 100000000) :
    Calls Tryd.prog 15 #[.string k, .int .u8 (c.toNat : Int)] w fun e w' => e = .returned (.string (S (padB (L k) c))) ∧ Below w.heap.size w w' := by
  have hz := fun w => zeroB w
  go_enter Tryd.func15, Tryd.ntmps15
  by_cases hlong : (64 : Int) < (k.size : Int)
  · go_wp2_with fail
    refine (sum_calls w hT k (by omega)).mono ?_
    rintro e w1 ⟨rfl, b1⟩
    obtain ⟨k1, hk1⟩ : ∃ x, S (shaB (L k)) = x := ⟨_, rfl⟩
    have hk1z : k1.size = 32 := by rw [← hk1, sz, L_S, shaB_len]
    have hk1L : L k1 = shaB (L k) := by rw [← hk1, L_S]
    simp only [hk1]
    clear hk1
    go_wp2_with fail
    have hs := run_copy_string (P := Tryd.prog) (w1.alloc (.cells (cells64 (noughts 64)) 43)) 30 9 3 5 w1.heap.size 0 64 64 k1 Tryd.underlying30 sizeOf_u8 (by omega)
      (fun j hj => by rw [(Blk.new w1 _ _).cell, cells64_get _ _ (by simp [noughts]; omega)]; rfl) (fun j hj => (Blk.new w1 _ _).frozen _)
    rw [hs]
    clear hs
    have hB := Blk.many ((L k1).map bc) 0 (Blk.new w1 43 (cells64 (noughts 64)))
    rw [cells64_put _ (by rw [← sz]; omega)] at hB
    have hb : Below w.heap.size w ((w1.alloc (.cells (cells64 (noughts 64)) 43)).setCells w1.heap.size 0 ((L k1).map bc)) := below_cells (b1.alloc b1.size _) b1.size
    have hkp : (L k1 ++ noughts (64 - (L k1).length)).map (· ^^^ c) = padB (L k) c := by unfold padB keyB; rw [if_pos (by rw [← sz]; omega), hk1L]; rfl
    obtain ⟨l, hl⟩ : ∃ l, L k1 ++ noughts (64 - (L k1).length) = l := ⟨_, rfl⟩
    have hlen : l.length = 64 := by rw [← hl]; simp only [List.length_append, noughts, List.length_replicate]; rw [← sz]; omega
    have e0 : cells64 l = cells64 (xorN c 0 l) := by simp [xorN]
    rw [hl, e0] at hB
    rw [hl] at hkp
    change Blk ((w1.alloc (.cells (cells64 (noughts 64)) 43)).setCells w1.heap.size 0 (k1.data.toList.map fun x => Value.int .u8 (x.toNat : Int))) w1.heap.size 43 (cells64 (xorN c 0 l)) at hB
    change Below w.heap.size w ((w1.alloc (.cells (cells64 (noughts 64)) 43)).setCells w1.heap.size 0 (k1.data.toList.map fun x => Value.int .u8 (x.toNat : Int))) at hb
    obtain ⟨w3, hw3⟩ : ∃ x, ((w1.alloc (.cells (cells64 (noughts 64)) 43)).setCells w1.heap.size 0 (k1.data.toList.map fun x => Value.int .u8 (x.toNat : Int))) = x := ⟨_, rfl⟩
    obtain ⟨g, hg⟩ : ∃ x, w1.heap.size = x := ⟨_, rfl⟩
    have hgs : w.heap.size ≤ g := hg ▸ b1.size
    simp only [hw3] at hB hb ⊢
    simp only [hg] at hB ⊢
    clear hw3 hg hl e0 hz
    have HKP := Lib.hid hkp
    clear hkp
    go_wp2
    go_loopw [15] (fun i wr => ∃ t : Nat, t ≤ 64 ∧ i = .int .i64 t ∧ Blk wr g 43 (cells64 (xorN c t l)) ∧ Below w.heap.size w wr) (fun i _ => 64 - (intOf i).toNat)
    case atStart => exact ⟨0, by omega, rfl, hB, hb⟩
    case round =>
      clear hB hb
      obtain ⟨t, ht, rfl, hB, hb⟩ := hrel
      by_cases hlt : t < 64
      · have hti : (t : Int) < 64 := by omega
        have hc : wr.cell? ⟨g, t, none⟩ = some (.int .u8 ((l[t]'(by omega)).toNat : Int)) := by
          rw [hB.cell t, cells64_get _ _ (by rw [xorN_len]; omega)]
          have := xorN_at c t l (by omega)
          rw [List.getElem?_eq_getElem (by rw [xorN_len]; omega)] at this
          rw [Option.some.inj this]
          rfl
        have hf := hB.frozen t
        have hx := xor_u8 (l[t]'(by omega)) c
        have hB2 := hB.set_ t (bc ((l[t]'(by omega)) ^^^ c))
        rw [xorN_set c t l (by omega)] at hB2
        have hb2 := hb.setCell (p := ⟨g, t, none⟩) (by simpa using hgs) (bc ((l[t]'(by omega)) ^^^ c))
        go_wp2
        go_roundw
        case rel => exact ⟨t + 1, by omega, by go_num, by first | exact hB2 | (rw [← hx] at hB2; exact hB2), hb2⟩
        case measure => simp [intOf]; omega
      · have ht64 : t = 64 := by omega
        rw [ht64, xorN_all c l 64 hlen, HKP.out] at hB
        have hcv := run_convert_bytes_back (P := Tryd.prog) wr 30 9 5 ⟨g, 0, none⟩ 64 (padB (L k) c) Tryd.underlying30 Tryd.underlying5 Tryd.underlying9 (fun j hj => by
          have hadd : (⟨g, 0, none⟩ : Addr).add j = ⟨g, j, none⟩ := by unfold Addr.add; split <;> simp_all
          rw [hadd, hB.cell j, cells64_get _ _ hj]; rfl)
        rw [padB_len] at hcv
        go_wp2
        go_ret
        exact ⟨rfl, hb⟩
  · have b1 := Below.refl w.heap.size w
    go_wp2_with fail
    have hs := run_copy_string (P := Tryd.prog) (w.alloc (.cells (cells64 (noughts 64)) 43)) 30 9 3 5 w.heap.size 0 64 64 k Tryd.underlying30 sizeOf_u8 (by omega)
      (fun j hj => by rw [(Blk.new w _ _).cell, cells64_get _ _ (by simp [noughts]; omega)]; rfl) (fun j hj => (Blk.new w _ _).frozen _)
    rw [hs]
    clear hs
    have hB := Blk.many ((L k).map bc) 0 (Blk.new w 43 (cells64 (noughts 64)))
    rw [cells64_put _ (by rw [← sz]; omega)] at hB
    have hb : Below w.heap.size w ((w.alloc (.cells (cells64 (noughts 64)) 43)).setCells w.heap.size 0 ((L k).map bc)) := below_cells (b1.alloc b1.size _) b1.size
    have hkp : (L k ++ noughts (64 - (L k).length)).map (· ^^^ c) = padB (L k) c := by unfold padB keyB; rw [if_neg (by rw [← sz]; omega)]; rfl
    obtain ⟨l, hl⟩ : ∃ l, L k ++ noughts (64 - (L k).length) = l := ⟨_, rfl⟩
    have hlen : l.length = 64 := by rw [← hl]; simp only [List.length_append, noughts, List.length_replicate]; rw [← sz]; omega
    have e0 : cells64 l = cells64 (xorN c 0 l) := by simp [xorN]
    rw [hl, e0] at hB
    rw [hl] at hkp
    change Blk ((w.alloc (.cells (cells64 (noughts 64)) 43)).setCells w.heap.size 0 (k.data.toList.map fun x => Value.int .u8 (x.toNat : Int))) w.heap.size 43 (cells64 (xorN c 0 l)) at hB
    change Below w.heap.size w ((w.alloc (.cells (cells64 (noughts 64)) 43)).setCells w.heap.size 0 (k.data.toList.map fun x => Value.int .u8 (x.toNat : Int))) at hb
    obtain ⟨w3, hw3⟩ : ∃ x, ((w.alloc (.cells (cells64 (noughts 64)) 43)).setCells w.heap.size 0 (k.data.toList.map fun x => Value.int .u8 (x.toNat : Int))) = x := ⟨_, rfl⟩
    obtain ⟨g, hg⟩ : ∃ x, w.heap.size = x := ⟨_, rfl⟩
    have hgs : w.heap.size ≤ g := hg ▸ b1.size
    simp only [hw3] at hB hb ⊢
    simp only [hg] at hB ⊢
    clear hw3 hg hl e0 hz
    have HKP := Lib.hid hkp
    clear hkp
    go_wp2
    go_loopw [15] (fun i wr => ∃ t : Nat, t ≤ 64 ∧ i = .int .i64 t ∧ Blk wr g 43 (cells64 (xorN c t l)) ∧ Below w.heap.size w wr) (fun i _ => 64 - (intOf i).toNat)
    case atStart => exact ⟨0, by omega, rfl, hB, hb⟩
    case round =>
      clear hB hb
      obtain ⟨t, ht, rfl, hB, hb⟩ := hrel
      by_cases hlt : t < 64
      · have hti : (t : Int) < 64 := by omega
        have hc : wr.cell? ⟨g, t, none⟩ = some (.int .u8 ((l[t]'(by omega)).toNat : Int)) := by
          rw [hB.cell t, cells64_get _ _ (by rw [xorN_len]; omega)]
          have := xorN_at c t l (by omega)
          rw [List.getElem?_eq_getElem (by rw [xorN_len]; omega)] at this
          rw [Option.some.inj this]
          rfl
        have hf := hB.frozen t
        have hx := xor_u8 (l[t]'(by omega)) c
        have hB2 := hB.set_ t (bc ((l[t]'(by omega)) ^^^ c))
        rw [xorN_set c t l (by omega)] at hB2
        have hb2 := hb.setCell (p := ⟨g, t, none⟩) (by simpa using hgs) (bc ((l[t]'(by omega)) ^^^ c))
        go_wp2
        go_roundw
        case rel => exact ⟨t + 1, by omega, by go_num, by first | exact hB2 | (rw [← hx] at hB2; exact hB2), hb2⟩
        case measure => simp [intOf]; omega
      · have ht64 : t = 64 := by omega
        rw [ht64, xorN_all c l 64 hlen, HKP.out] at hB
        have hcv := run_convert_bytes_back (P := Tryd.prog) wr 30 9 5 ⟨g, 0, none⟩ 64 (padB (L k) c) Tryd.underlying30 Tryd.underlying5 Tryd.underlying9 (fun j hj => by
          have hadd : (⟨g, 0, none⟩ : Addr).add j = ⟨g, j, none⟩ := by unfold Addr.add; split <;> simp_all
          rw [hadd, hB.cell j, cells64_get _ _ hj]; rfl)
        rw [padB_len] at hcv
        go_wp2
        go_ret
        exact ⟨rfl, hb⟩
end Go.Proofs.YtjmahkpmnajmfaaDoor.Mac
