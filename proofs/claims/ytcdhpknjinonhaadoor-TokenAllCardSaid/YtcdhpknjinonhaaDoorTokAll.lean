/- mac: what a sum under a key is, as lists of bytes. -/
import Derived.Test.YtcdhpknjinonhaaDoorShaAll
import Derived.Test.YtcdhpknjinonhaaDoorMemP
import Derived.Lib.LazyBuf
import Derived.Test.YtcdhpknjinonhaaDoorX
import Derived.Test.YtcdhpknjinonhaaDoorAid
import Derived.Lib.Hide
import Derived.Lib.IndexMore
import Derived.Lib.TrimByte
import Derived.Lib.ItoaNum
namespace Go.Proofs.YtcdhpknjinonhaaDoor.Mac
open Go.RowKit Go.Proofs.YtcdhpknjinonhaaDoor.Aid Go.Proofs.YtcdhpknjinonhaaDoor.Sha
/-- a key, no longer than a block -/
def keyB (k : List UInt8) : List UInt8 := if 64 < k.length then shaB k else k
/-- a key's block, each byte put together with another one -/
def padB (k : List UInt8) (c : UInt8) : List UInt8 := (keyB k ++ List.replicate (64 - (keyB k).length) 0).map (· ^^^ c)
/-- the sum of a text under a key -/
def macB (k s : List UInt8) : List UInt8 := shaB (padB k 92 ++ shaB (padB k 54 ++ s))
theorem keyB_len (k : List UInt8) : (keyB k).length ≤ 64 := by
  unfold keyB
  split
  · rw [shaB_len]; omega
  · omega
theorem padB_len (k : List UInt8) (c : UInt8) : (padB k c).length = 64 := by
  have := keyB_len k
  simp [padB]
  omega
theorem macB_len (k s : List UInt8) : (macB k s).length = 32 := shaB_len _
theorem padB_noughts (k : List UInt8) (n : Nat) (c : UInt8) (h : k.length + n ≤ 64) : padB (k ++ List.replicate n 0) c = padB k c := by
  have h1 : keyB (k ++ List.replicate n 0) = k ++ List.replicate n 0 := by unfold keyB; rw [if_neg (by simp; omega)]
  have h2 : keyB k = k := by unfold keyB; rw [if_neg (by omega)]
  unfold padB
  rw [h1, h2, List.append_assoc, List.replicate_append_replicate]
  congr 3
  simp
  omega
theorem macB_noughts (k s : List UInt8) (n : Nat) (h : k.length + n ≤ 64) : macB (k ++ List.replicate n 0) s = macB k s := by
  unfold macB
  rw [padB_noughts k n _ h, padB_noughts k n _ h]
def jefe : List UInt8 := [74, 101, 102, 101]
def ask : List UInt8 := [119, 104, 97, 116, 32, 100, 111, 32, 121, 97, 32, 119, 97, 110, 116, 32, 102, 111, 114, 32, 110, 111, 116, 104, 105, 110, 103, 63]
theorem jefe4 : (macB jefe ask).take 4 = [91, 220, 193, 70] := by decide +kernel
theorem jefe31 : (macB jefe ask).getD 31 0 = 67 := by decide +kernel
end Go.Proofs.YtcdhpknjinonhaaDoor.Mac
/- mac: pad and Sum, walked. -/
namespace Go.Proofs.YtcdhpknjinonhaaDoor.Mac
open Go.RowKit Go.Proofs.YtcdhpknjinonhaaDoor.Mem Go.Proofs.YtcdhpknjinonhaaDoor.X Go.Proofs.YtcdhpknjinonhaaDoorW.PrintWords Go.Proofs.YtcdhpknjinonhaaDoorW.PrintLast Go.Proofs.YtcdhpknjinonhaaDoorW.PrintMore Go.Proofs.YtcdhpknjinonhaaDoor.Aid Go.Proofs.YtcdhpknjinonhaaDoor.Sha
attribute [-simp] Tryd.sizeOf85 Tryd.isAgg85 Tryd.zeroValue85
set_option linter.unusedVariables false
set_option linter.unusedSimpArgs false
/-- a byte's cell -/
def bc (c : UInt8) : Value := .int .u8 (c.toNat : Int)
/-- a block's cells -/
def cells64 (l : List UInt8) : Array Value := (l.map bc).toArray
def noughts (n : Nat) : List UInt8 := List.replicate n 0
theorem zeroB (w : World) : (zeroValue 85).run Tryd.prog w = .ok (.agg (cells64 (noughts 64))) w := by
  have h : (Tryd.prog.info? 85).map (fun i => (i.zero, i.size)) = some (some (.agg (cells64 (noughts 64))), 64) := by kernel_rfl
  exact (zero_of_info h).1 w
theorem cells64_get (l : List UInt8) (i : Nat) (h : i < l.length) : (cells64 l)[i]? = some (bc l[i]) := by
  simp [cells64, h]
theorem cells64_size (l : List UInt8) : (cells64 l).size = l.length := by simp [cells64]
theorem cells_put (n : Nat) (k : List UInt8) (h : k.length ≤ n) : putMany (cells64 (noughts n)) 0 (k.map bc) = cells64 (k ++ noughts (n - k.length)) := by
  apply Array.toList_inj.1
  rw [putMany_list _ _ _ (by rw [List.length_map, cells64_size]; simp [noughts]; omega)]
  simp [cells64, noughts]
theorem cells64_put (k : List UInt8) (h : k.length ≤ 64) : putMany (cells64 (noughts 64)) 0 (k.map bc) = cells64 (k ++ noughts (64 - k.length)) := cells_put 64 k h
/-- the first so many bytes put together with another one -/
def xorN (c : UInt8) (t : Nat) (l : List UInt8) : List UInt8 := (l.take t).map (· ^^^ c) ++ l.drop t
theorem xorN_len (c : UInt8) (t : Nat) (l : List UInt8) : (xorN c t l).length = l.length := by
  simp [xorN]; omega
theorem xorN_at (c : UInt8) (t : Nat) (l : List UInt8) (h : t < l.length) : (xorN c t l)[t]? = some l[t] := by
  unfold xorN
  rw [List.getElem?_append_right (by simp; omega)]
  simp [Nat.min_eq_left (Nat.le_of_lt h)]
theorem xorN_set (c : UInt8) (t : Nat) (l : List UInt8) (h : t < l.length) : (cells64 (xorN c t l)).setIfInBounds t (bc (l[t] ^^^ c)) = cells64 (xorN c (t + 1) l) := by
  apply Array.toList_inj.1
  rw [Array.toList_setIfInBounds]
  unfold cells64 xorN
  simp only [List.map_append]
  rw [List.set_append_right _ _ (by simp; omega), List.take_succ_eq_append_getElem h, List.drop_eq_getElem_cons h]
  have hm : t - (List.map bc (List.map (fun x => x ^^^ c) (List.take t l))).length = 0 := by simp; omega
  rw [hm]
  simp only [List.map_append, List.map_cons, List.map_nil, List.set_cons_zero, List.append_assoc, List.cons_append, List.nil_append]
theorem xorN_all (c : UInt8) (l : List UInt8) (n : Nat) (h : l.length = n) : xorN c n l = l.map (· ^^^ c) := by
  subst h
  simp [xorN]
theorem xor_u8 (x c : UInt8) : Go.bits .xor .u8 (x.toNat : Int) (c.toNat : Int) = ((x ^^^ c).toNat : Int) := by
  show IntKind.u8.wrap ((BitVec.ofInt 8 (x.toNat : Int) ^^^ BitVec.ofInt 8 (c.toNat : Int)).toNat : Int) = _
  rw [BitVec.ofInt_natCast, BitVec.ofInt_natCast]
  have h1 : BitVec.ofNat 8 x.toNat = x.toBitVec := by apply BitVec.eq_of_toNat_eq; simp
  have h2 : BitVec.ofNat 8 c.toNat = c.toBitVec := by apply BitVec.eq_of_toNat_eq; simp
  rw [h1, h2, ← UInt8.toBitVec_xor]
  show IntKind.u8.wrap (((x ^^^ c).toNat : Nat) : Int) = _
  obtain ⟨n, hn⟩ : ∃ n, (x ^^^ c).toNat = n := ⟨_, rfl⟩
  have h3 : (x ^^^ c).toNat < 256 := (x ^^^ c).toNat_lt
  rw [hn] at h3 ⊢
  simp [IntKind.wrap, IntKind.bits, IntKind.signed]
  omega
theorem sizeOf_u8 (w : World) : (Go.sizeOf 5).run Tryd.prog w = .ok 1 w := by
  simp
set_option maxHeartbeats 4000000 in
set_option maxRecDepth 100000 in
theorem pad_calls (w : World) (hT : Sha.Tabs w) (k : ByteArray) (c : UInt8) (hk : k.size ≤ 100000000) :
    Calls Tryd.prog 46 #[.string k, .int .u8 (c.toNat : Int)] w fun e w' => e = .returned (.string (S (padB (L k) c))) ∧ Below w.heap.size w w' := by
  have hz := fun w => zeroB w
  go_enter Tryd.func46, Tryd.ntmps46
  by_cases hlong : (64 : Int) < (k.size : Int)
  · go_wp2_with fail
    refine (sum_calls w hT k (by omega)).mono ?_
    rintro e w1 ⟨rfl, b1⟩
    obtain ⟨k1, hk1⟩ : ∃ x, S (shaB (L k)) = x := ⟨_, rfl⟩
    have hk1z : k1.size = 32 := by rw [← hk1, sz, L_S, shaB_len]
    have hk1L : L k1 = shaB (L k) := by rw [← hk1, L_S]
    simp only [hk1]
    clear hk1
    go_wp2_with fail
    have hs := run_copy_string (P := Tryd.prog) (w1.alloc (.cells (cells64 (noughts 64)) 85)) 38 9 3 5 w1.heap.size 0 64 64 k1 Tryd.underlying38 sizeOf_u8 (by omega)
      (fun j hj => by rw [(Blk.new w1 _ _).cell, cells64_get _ _ (by simp [noughts]; omega)]; rfl) (fun j hj => (Blk.new w1 _ _).frozen _)
    rw [hs]
    clear hs
    have hB := Blk.many ((L k1).map bc) 0 (Blk.new w1 85 (cells64 (noughts 64)))
    rw [cells64_put _ (by rw [← sz]; omega)] at hB
    have hb : Below w.heap.size w ((w1.alloc (.cells (cells64 (noughts 64)) 85)).setCells w1.heap.size 0 ((L k1).map bc)) := below_cells (b1.alloc b1.size _) b1.size
    have hkp : (L k1 ++ noughts (64 - (L k1).length)).map (· ^^^ c) = padB (L k) c := by unfold padB keyB; rw [if_pos (by rw [← sz]; omega), hk1L]; rfl
    obtain ⟨l, hl⟩ : ∃ l, L k1 ++ noughts (64 - (L k1).length) = l := ⟨_, rfl⟩
    have hlen : l.length = 64 := by rw [← hl]; simp only [List.length_append, noughts, List.length_replicate]; rw [← sz]; omega
    have e0 : cells64 l = cells64 (xorN c 0 l) := by simp [xorN]
    rw [hl, e0] at hB
    rw [hl] at hkp
    change Blk ((w1.alloc (.cells (cells64 (noughts 64)) 85)).setCells w1.heap.size 0 (k1.data.toList.map fun x => Value.int .u8 (x.toNat : Int))) w1.heap.size 85 (cells64 (xorN c 0 l)) at hB
    change Below w.heap.size w ((w1.alloc (.cells (cells64 (noughts 64)) 85)).setCells w1.heap.size 0 (k1.data.toList.map fun x => Value.int .u8 (x.toNat : Int))) at hb
    obtain ⟨w3, hw3⟩ : ∃ x, ((w1.alloc (.cells (cells64 (noughts 64)) 85)).setCells w1.heap.size 0 (k1.data.toList.map fun x => Value.int .u8 (x.toNat : Int))) = x := ⟨_, rfl⟩
    obtain ⟨g, hg⟩ : ∃ x, w1.heap.size = x := ⟨_, rfl⟩
    have hgs : w.heap.size ≤ g := hg ▸ b1.size
    simp only [hw3] at hB hb ⊢
    simp only [hg] at hB ⊢
    clear hw3 hg hl e0 hz
    have HKP := Lib.hid hkp
    clear hkp
    go_wp2
    go_loopw [15] (fun i wr => ∃ t : Nat, t ≤ 64 ∧ i = .int .i64 t ∧ Blk wr g 85 (cells64 (xorN c t l)) ∧ Below w.heap.size w wr) (fun i _ => 64 - (intOf i).toNat)
    case atStart => exact ⟨0, by omega, rfl, hB, hb⟩
    case round =>
      clear hB hb
      obtain ⟨t, ht, rfl, hB, hb⟩ := hrel
      by_cases hlt : t < 64
      · have hti : (t : Int) < 64 := by omega
        have hc : wr.cell? ⟨g, t, none⟩ = some (.int .u8 ((l[t]'(by omega)).toNat : Int)) := by
          rw [hB.cell t, cells64_get _ _ (by rw [xorN_len]; omega)]
          have := xorN_at c t l (by omega)
          rw [List.getElem?_eq_getElem (by rw [xorN_len]; omega)] at this
          rw [Option.some.inj this]
          rfl
        have hf := hB.frozen t
        have hx := xor_u8 (l[t]'(by omega)) c
        have hB2 := hB.set_ t (bc ((l[t]'(by omega)) ^^^ c))
        rw [xorN_set c t l (by omega)] at hB2
        have hb2 := hb.setCell (p := ⟨g, t, none⟩) (by simpa using hgs) (bc ((l[t]'(by omega)) ^^^ c))
        go_wp2
        go_roundw
        case rel => exact ⟨t + 1, by omega, by go_num, by first | exact hB2 | (rw [← hx] at hB2; exact hB2), hb2⟩
        case measure => simp [intOf]; omega
      · have ht64 : t = 64 := by omega
        rw [ht64, xorN_all c l 64 hlen, HKP.out] at hB
        have hcv := run_convert_bytes_back (P := Tryd.prog) wr 38 9 5 ⟨g, 0, none⟩ 64 (padB (L k) c) Tryd.underlying38 Tryd.underlying5 Tryd.underlying9 (fun j hj => by
          have hadd : (⟨g, 0, none⟩ : Addr).add j = ⟨g, j, none⟩ := by unfold Addr.add; split <;> simp_all
          rw [hadd, hB.cell j, cells64_get _ _ hj]; rfl)
        rw [padB_len] at hcv
        go_wp2
        go_ret
        exact ⟨rfl, hb⟩
  · have b1 := Below.refl w.heap.size w
    go_wp2_with fail
    have hs := run_copy_string (P := Tryd.prog) (w.alloc (.cells (cells64 (noughts 64)) 85)) 38 9 3 5 w.heap.size 0 64 64 k Tryd.underlying38 sizeOf_u8 (by omega)
      (fun j hj => by rw [(Blk.new w _ _).cell, cells64_get _ _ (by simp [noughts]; omega)]; rfl) (fun j hj => (Blk.new w _ _).frozen _)
    rw [hs]
    clear hs
    have hB := Blk.many ((L k).map bc) 0 (Blk.new w 85 (cells64 (noughts 64)))
    rw [cells64_put _ (by rw [← sz]; omega)] at hB
    have hb : Below w.heap.size w ((w.alloc (.cells (cells64 (noughts 64)) 85)).setCells w.heap.size 0 ((L k).map bc)) := below_cells (b1.alloc b1.size _) b1.size
    have hkp : (L k ++ noughts (64 - (L k).length)).map (· ^^^ c) = padB (L k) c := by unfold padB keyB; rw [if_neg (by rw [← sz]; omega)]; rfl
    obtain ⟨l, hl⟩ : ∃ l, L k ++ noughts (64 - (L k).length) = l := ⟨_, rfl⟩
    have hlen : l.length = 64 := by rw [← hl]; simp only [List.length_append, noughts, List.length_replicate]; rw [← sz]; omega
    have e0 : cells64 l = cells64 (xorN c 0 l) := by simp [xorN]
    rw [hl, e0] at hB
    rw [hl] at hkp
    change Blk ((w.alloc (.cells (cells64 (noughts 64)) 85)).setCells w.heap.size 0 (k.data.toList.map fun x => Value.int .u8 (x.toNat : Int))) w.heap.size 85 (cells64 (xorN c 0 l)) at hB
    change Below w.heap.size w ((w.alloc (.cells (cells64 (noughts 64)) 85)).setCells w.heap.size 0 (k.data.toList.map fun x => Value.int .u8 (x.toNat : Int))) at hb
    obtain ⟨w3, hw3⟩ : ∃ x, ((w.alloc (.cells (cells64 (noughts 64)) 85)).setCells w.heap.size 0 (k.data.toList.map fun x => Value.int .u8 (x.toNat : Int))) = x := ⟨_, rfl⟩
    obtain ⟨g, hg⟩ : ∃ x, w.heap.size = x := ⟨_, rfl⟩
    have hgs : w.heap.size ≤ g := hg ▸ b1.size
    simp only [hw3] at hB hb ⊢
    simp only [hg] at hB ⊢
    clear hw3 hg hl e0 hz
    have HKP := Lib.hid hkp
    clear hkp
    go_wp2
    go_loopw [15] (fun i wr => ∃ t : Nat, t ≤ 64 ∧ i = .int .i64 t ∧ Blk wr g 85 (cells64 (xorN c t l)) ∧ Below w.heap.size w wr) (fun i _ => 64 - (intOf i).toNat)
    case atStart => exact ⟨0, by omega, rfl, hB, hb⟩
    case round =>
      clear hB hb
      obtain ⟨t, ht, rfl, hB, hb⟩ := hrel
      by_cases hlt : t < 64
      · have hti : (t : Int) < 64 := by omega
        have hc : wr.cell? ⟨g, t, none⟩ = some (.int .u8 ((l[t]'(by omega)).toNat : Int)) := by
          rw [hB.cell t, cells64_get _ _ (by rw [xorN_len]; omega)]
          have := xorN_at c t l (by omega)
          rw [List.getElem?_eq_getElem (by rw [xorN_len]; omega)] at this
          rw [Option.some.inj this]
          rfl
        have hf := hB.frozen t
        have hx := xor_u8 (l[t]'(by omega)) c
        have hB2 := hB.set_ t (bc ((l[t]'(by omega)) ^^^ c))
        rw [xorN_set c t l (by omega)] at hB2
        have hb2 := hb.setCell (p := ⟨g, t, none⟩) (by simpa using hgs) (bc ((l[t]'(by omega)) ^^^ c))
        go_wp2
        go_roundw
        case rel => exact ⟨t + 1, by omega, by go_num, by first | exact hB2 | (rw [← hx] at hB2; exact hB2), hb2⟩
        case measure => simp [intOf]; omega
      · have ht64 : t = 64 := by omega
        rw [ht64, xorN_all c l 64 hlen, HKP.out] at hB
        have hcv := run_convert_bytes_back (P := Tryd.prog) wr 38 9 5 ⟨g, 0, none⟩ 64 (padB (L k) c) Tryd.underlying38 Tryd.underlying5 Tryd.underlying9 (fun j hj => by
          have hadd : (⟨g, 0, none⟩ : Addr).add j = ⟨g, j, none⟩ := by unfold Addr.add; split <;> simp_all
          rw [hadd, hB.cell j, cells64_get _ _ hj]; rfl)
        rw [padB_len] at hcv
        go_wp2
        go_ret
        exact ⟨rfl, hb⟩
end Go.Proofs.YtcdhpknjinonhaaDoor.Mac
/- mac: Same, Sum, Short, Fits; the chapter's example. -/
namespace Go.Proofs.YtcdhpknjinonhaaDoor.Mac
open Go.RowKit Go.Proofs.YtcdhpknjinonhaaDoor.Mem Go.Proofs.YtcdhpknjinonhaaDoor.X Go.Proofs.YtcdhpknjinonhaaDoorW.PrintWords Go.Proofs.YtcdhpknjinonhaaDoorW.PrintLast Go.Proofs.YtcdhpknjinonhaaDoorW.PrintMore Go.Proofs.YtcdhpknjinonhaaDoor.Aid Go.Proofs.YtcdhpknjinonhaaDoor.Sha
set_option linter.unusedVariables false
set_option linter.unusedSimpArgs false
theorem or_u8 (x c : UInt8) : Go.bits .or .u8 (x.toNat : Int) (c.toNat : Int) = ((x ||| c).toNat : Int) := by
  show IntKind.u8.wrap ((BitVec.ofInt 8 (x.toNat : Int) ||| BitVec.ofInt 8 (c.toNat : Int)).toNat : Int) = _
  rw [BitVec.ofInt_natCast, BitVec.ofInt_natCast]
  have h1 : BitVec.ofNat 8 x.toNat = x.toBitVec := by apply BitVec.eq_of_toNat_eq; simp
  have h2 : BitVec.ofNat 8 c.toNat = c.toBitVec := by apply BitVec.eq_of_toNat_eq; simp
  rw [h1, h2, ← UInt8.toBitVec_or]
  show IntKind.u8.wrap (((x ||| c).toNat : Nat) : Int) = _
  obtain ⟨n, hn⟩ : ∃ n, (x ||| c).toNat = n := ⟨_, rfl⟩
  have h3 : (x ||| c).toNat < 256 := (x ||| c).toNat_lt
  rw [hn] at h3 ⊢
  simp [IntKind.wrap, IntKind.bits, IntKind.signed]
  omega
theorem same_l0 (a b : ByteArray) (hab : a.size = b.size) (hb : a.size ≤ 4611686018427387903) : ∀ (r i : Nat), i + r = a.size → ∀ x : UInt8,
    Ev (fun k => mac_Same.l0 k a b (x.toNat : Int) (a.size : Int) (i : Int)) (decide (x = 0) && decide ((L a).drop i = (L b).drop i))
  | 0, i, h, x => by
    refine up (neg (by omega) (now' ?_))
    have h1 : (L a).drop i = [] := List.drop_eq_nil_of_le (by rw [← sz]; omega)
    have h2 : (L b).drop i = [] := List.drop_eq_nil_of_le (by rw [← sz]; omega)
    rw [h1, h2, Bool.eq_iff_iff]
    simp only [beq_iff_eq, Bool.and_eq_true, decide_eq_true_eq, and_true]
    rw [← UInt8.toNat_inj]
    have : (0 : UInt8).toNat = 0 := rfl
    rw [this]
    omega
  | r + 1, i, h, x => by
    refine up (pos (by omega) (pos (by omega) (pos (by omega) (pos (by omega) ?_))))
    have ha : i < (L a).length := by rw [← sz]; omega
    have hb' : i < (L b).length := by rw [← sz]; omega
    rw [btn a i ha, btn b i hb', xor_u8, or_u8, wi i (by omega)]
    have ih := same_l0 a b hab hb r (i + 1) (by omega) (x ||| ((L a)[i] ^^^ (L b)[i]))
    have e : (decide (x = 0) && decide ((L a).drop i = (L b).drop i)) = (decide (x ||| ((L a)[i] ^^^ (L b)[i]) = 0) && decide ((L a).drop (i + 1) = (L b).drop (i + 1))) := by
      rw [List.drop_eq_getElem_cons ha, List.drop_eq_getElem_cons hb', Bool.eq_iff_iff]
      simp only [Bool.and_eq_true, decide_eq_true_eq, UInt8.or_eq_zero_iff, UInt8.xor_eq_zero_iff, List.cons.injEq]
      constructor
      · rintro ⟨h1, h2, h3⟩; exact ⟨⟨h1, h2⟩, h3⟩
      · rintro ⟨⟨h1, h2⟩, h3⟩; exact ⟨h1, h2, h3⟩
    rw [e]
    exact ih
theorem same_ev (a b : ByteArray) (hb : a.size ≤ 4611686018427387903) : Ev (fun k => mac_Same.f k a b) (decide (a = b)) := by
  unfold mac_Same.f
  by_cases h : a.size = b.size
  · refine pos (by omega) ?_
    have := same_l0 a b h hb a.size 0 (by omega) 0
    have e : (decide ((0 : UInt8) = 0) && decide ((L a).drop 0 = (L b).drop 0)) = decide (a = b) := by
      rw [List.drop_zero, List.drop_zero, Bool.eq_iff_iff]
      simp only [Bool.and_eq_true, decide_eq_true_eq, true_and]
      exact ⟨fun h => L_inj h, fun h => by rw [h]⟩
    rw [e] at this
    exact this
  · refine neg (by omega) (now' ?_)
    symm
    rw [decide_eq_false_iff_not]
    intro e
    exact h (by rw [e])
theorem same_calls (w : World) (a b : ByteArray) (hb : a.size ≤ 4611686018427387903) :
    Calls Tryd.prog 24 #[.string a, .string b] w fun e w' => e = .returned (.bool (decide (a = b))) ∧ Below w.heap.size w w' := by
  obtain ⟨k, hk⟩ := Ev.rounds (same_ev a b hb)
  refine (mac_Same.calls k a b _ w hk).mono ?_
  rintro e w' ⟨rfl, h⟩
  obtain ⟨q, rfl⟩ := h.out
  exact ⟨rfl, pw_below_drewN (Below.refl _ w) q⟩
set_option maxHeartbeats 1000000 in
set_option maxRecDepth 100000 in
theorem msum_calls (w : World) (hT : Sha.Tabs w) (k s : ByteArray) (hk : k.size ≤ 100000000) (hs : s.size ≤ 100000000) :
    Calls Tryd.prog 31 #[.string k, .string s] w fun e w' => e = .returned (.string (S (macB (L k) (L s)))) ∧ Below w.heap.size w w' := by
  go_enter Tryd.func31, Tryd.ntmps31
  go_wp2_with fail
  have hp := pad_calls w hT k 92 hk
  refine hp.mono ?_
  rintro e w1 ⟨rfl, b1⟩
  go_wp2_with fail
  have hp := pad_calls w1 (hT.below b1) k 54 hk
  refine hp.mono ?_
  rintro e w2 ⟨rfl, b2⟩
  have b2' := b1.trans (b2.mono b1.size)
  obtain ⟨p1, hp1⟩ : ∃ x, S (padB (L k) 92) = x := ⟨_, rfl⟩
  obtain ⟨p2, hp2⟩ : ∃ x, S (padB (L k) 54) = x := ⟨_, rfl⟩
  have hz1 : p1.size = 64 := by rw [← hp1, sz, L_S, padB_len]
  have hz2 : p2.size = 64 := by rw [← hp2, sz, L_S, padB_len]
  have hn : (p2.size : Int) + s.size ≤ 9223372036854775807 := by omega
  simp only [hp1, hp2]
  have HP1 := Lib.hid hp1
  have HP2 := Lib.hid hp2
  clear hp hp1 hp2
  go_wp2_with fail
  refine (sum_calls w2 (hT.below b2') (p2 ++ s) (by rw [ByteArray.size_append]; omega)).mono ?_
  rintro e w3 ⟨rfl, b3⟩
  have b3' := b2'.trans (b3.mono b2'.size)
  obtain ⟨p3, hp3⟩ : ∃ x, S (shaB (L (p2 ++ s))) = x := ⟨_, rfl⟩
  have hz3 : p3.size = 32 := by rw [← hp3, sz, L_S, shaB_len]
  have hn3 : (p1.size : Int) + p3.size ≤ 9223372036854775807 := by omega
  simp only [hp3]
  have HP3 := Lib.hid hp3
  clear hp3
  go_wp2_with fail
  refine (sum_calls w3 (hT.below b3') (p1 ++ p3) (by rw [ByteArray.size_append]; omega)).mono ?_
  rintro e w4 ⟨rfl, b4⟩
  go_wp2
  go_ret
  refine ⟨?_, b3'.trans (b4.mono b3'.size)⟩
  show Ending.returned (.string (S (shaB (L p1 ++ L p3)))) = _
  unfold macB
  rw [← HP3.out, L_S, L_app, ← HP1.out, ← HP2.out, L_S, L_S]
def shortB (k s : List UInt8) (n : Int) : ByteArray × Int := if n < 1 ∨ 32 < n then (⟨#[]⟩, 1) else (S ((macB k s).take n.toNat), 0)
set_option maxHeartbeats 1000000 in
set_option maxRecDepth 100000 in
theorem short_calls (w : World) (hT : Sha.Tabs w) (k s : ByteArray) (n : Int) (hk : k.size ≤ 100000000) (hs : s.size ≤ 100000000) :
    Calls Tryd.prog 17 #[.string k, .string s, .int .i64 n] w fun e w' => e = .returned (.tuple #[.string (shortB (L k) (L s) n).1, .int .i64 (shortB (L k) (L s) n).2]) ∧ Below w.heap.size w w' := by
  go_enter Tryd.func17, Tryd.ntmps17
  by_cases h1 : n < 1
  · have hb : shortB (L k) (L s) n = (⟨#[]⟩, 1) := if_pos (.inl h1)
    rw [hb]
    go_wp2
    go_ret2
    exact ⟨rfl, Below.refl _ w⟩
  · by_cases h2 : 32 < n
    · have hb : shortB (L k) (L s) n = (⟨#[]⟩, 1) := if_pos (.inr h2)
      rw [hb]
      go_wp2
      go_ret2
      exact ⟨rfl, Below.refl _ w⟩
    · have hb : shortB (L k) (L s) n = (S ((macB (L k) (L s)).take n.toNat), 0) := if_neg (by omega)
      rw [hb]
      obtain ⟨m, rfl⟩ : ∃ m : Nat, n = m := ⟨n.toNat, by omega⟩
      go_wp2_with fail
      refine (msum_calls w hT k s hk hs).mono ?_
      rintro e w1 ⟨rfl, b1⟩
      obtain ⟨p, hp⟩ : ∃ x, S (macB (L k) (L s)) = x := ⟨_, rfl⟩
      have hz : p.size = 32 := by rw [← hp, sz, L_S, macB_len]
      simp only [hp]
      have HP := Lib.hid hp
      have HE : Hid (p.extract 0 m = S ((macB (L k) (L s)).take ((m : Int).toNat))) := Lib.hid (by apply L_inj; rw [L_from_start, L_S, ← hp, L_S]; rfl)
      have hm : m ≤ p.size := by omega
      clear hp hb
      go_wp2
      go_ret2
      refine ⟨?_, b1⟩
      show Ending.returned (.tuple #[.string (p.extract 0 m), .int .i64 0]) = _
      rw [HE.out, Int.toNat_natCast]
end Go.Proofs.YtcdhpknjinonhaaDoor.Mac
/- code.To32, walked. -/
namespace Go.Proofs.YtcdhpknjinonhaaDoor.Code
open Go.RowKit Go.Proofs.YtcdhpknjinonhaaDoor.Mem Go.Proofs.YtcdhpknjinonhaaDoor.X Go.Proofs.YtcdhpknjinonhaaDoorW.PrintWords Go.Proofs.YtcdhpknjinonhaaDoorW.PrintLast Go.Proofs.YtcdhpknjinonhaaDoorW.PrintMore Go.Proofs.YtcdhpknjinonhaaDoor.Aid
set_option linter.unusedVariables false
set_option linter.unusedSimpArgs false
def signs : List UInt8 := [97, 98, 99, 100, 101, 102, 103, 104, 105, 106, 107, 108, 109, 110, 111, 112, 113, 114, 115, 116, 117, 118, 119, 120, 121, 122, 50, 51, 52, 53, 54, 55]
def sg (n : Nat) : UInt8 := signs.getD n 0
/-- the signs of whole groups of five bits -/
def w5 : Nat → List UInt8 × Nat × Nat → List UInt8 × Nat × Nat
  | 0, x => x
  | k + 1, x => if x.2.2 < 5 then x else w5 k (x.1 ++ [sg (x.2.1 / 2 ^ (x.2.2 - 5))], x.2.1 % 2 ^ (x.2.2 - 5), x.2.2 - 5)
/-- a byte more -/
def wb (x : List UInt8 × Nat × Nat) (c : UInt8) : List UInt8 × Nat × Nat := w5 3 (x.1, x.2.1 * 256 + c.toNat, x.2.2 + 8)
def wrB (l : List UInt8) : List UInt8 × Nat × Nat := l.foldl wb ([], 0, 0)
def to32B (l : List UInt8) : List UInt8 := if 0 < (wrB l).2.2 then (wrB l).1 ++ [sg ((wrB l).2.1 * 2 ^ (5 - (wrB l).2.2))] else (wrB l).1
/-- as the accumulator is -/
def Ok (x : List UInt8 × Nat × Nat) : Prop := x.2.1 < 2 ^ x.2.2
theorem w5_ok : ∀ k x, Ok x → Ok (w5 k x)
  | 0, x, h => h
  | k + 1, x, h => by
    rw [w5]
    split
    · exact h
    · exact w5_ok k _ (Nat.mod_lt _ (Nat.two_pow_pos _))
theorem w5_lt : ∀ k x, x.2.2 < 5 * k + 5 → (w5 k x).2.2 < 5
  | 0, x, h => by rw [w5]; omega
  | k + 1, x, h => by
    rw [w5]
    split
    · assumption
    · exact w5_lt k _ (by simp only; omega)
theorem wb_ok (x : List UInt8 × Nat × Nat) (c : UInt8) (h : Ok x) (h5 : x.2.2 < 5) : Ok (wb x c) ∧ (wb x c).2.2 < 5 := by
  have hc := c.toNat_lt
  refine ⟨w5_ok 3 _ ?_, w5_lt 3 _ (by simp only; omega)⟩
  unfold Ok at h ⊢
  simp only
  rw [Nat.pow_add]
  omega
theorem w5_len : ∀ k x, (w5 k x).1.length ≤ x.1.length + k
  | 0, x => Nat.le_refl _
  | k + 1, x => by
    rw [w5]
    split
    · omega
    · have := w5_len k (x.1 ++ [sg (x.2.1 / 2 ^ (x.2.2 - 5))], x.2.1 % 2 ^ (x.2.2 - 5), x.2.2 - 5)
      simp at this
      omega
theorem wrB_snoc (l : List UInt8) (c : UInt8) : wrB (l ++ [c]) = wb (wrB l) c := by simp [wrB]
theorem wrB_ok_snoc (l : List UInt8) : ∀ r : List UInt8, r.reverse = l → Ok (wrB l) ∧ (wrB l).2.2 < 5 ∧ (wrB l).1.length ≤ 3 * l.length
  | [], h => by
    subst h
    exact ⟨by simp [Ok, wrB], by simp [wrB], by simp [wrB]⟩
  | c :: r, h => by
    subst h
    rw [List.reverse_cons, wrB_snoc]
    obtain ⟨h1, h2, h3⟩ := wrB_ok_snoc r.reverse r rfl
    have h4 := w5_len 3 ((wrB r.reverse).1, (wrB r.reverse).2.1 * 256 + c.toNat, (wrB r.reverse).2.2 + 8)
    refine ⟨(wb_ok _ c h1 h2).1, (wb_ok _ c h1 h2).2, ?_⟩
    have : (wb (wrB r.reverse) c).1.length ≤ (wrB r.reverse).1.length + 3 := h4
    simp only [List.length_append, List.length_singleton]
    omega
theorem wrB_ok (l : List UInt8) : Ok (wrB l) ∧ (wrB l).2.2 < 5 ∧ (wrB l).1.length ≤ 3 * l.length := wrB_ok_snoc l l.reverse (by simp)
theorem wr64 (n : Int) (h₀ : 0 ≤ n) (h₁ : n < 2 ^ 62) : IntKind.i64.wrap n = n := by rw [IntKind.wrap_i64]; omega
theorem shr_n (h n : Nat) (hn : n < 64) : shr .i64 (h : Int) (n : Int) = ((h / 2 ^ n : Nat) : Int) := by
  unfold shr
  rw [show min ((n : Int).toNat) (IntKind.bits .i64) = n from by show min ((n : Int).toNat) 64 = n; omega]
  norm_cast
theorem shl_n (h n : Nat) (hn : n < 20) (hh : h < 2 ^ 20) : shl .i64 (h : Int) (n : Int) = ((h * 2 ^ n : Nat) : Int) := by
  unfold shl
  rw [show min ((n : Int).toNat) (IntKind.bits .i64) = n from by show min ((n : Int).toNat) 64 = n; omega]
  have h1 : 2 ^ n ≤ 2 ^ 20 := Nat.pow_le_pow_right (by decide) (by omega)
  have h2 : h * 2 ^ n ≤ 2 ^ 20 * 2 ^ 20 := Nat.mul_le_mul (by omega) h1
  have h3 : ((h : Int) * 2 ^ n) = ((h * 2 ^ n : Nat) : Int) := by norm_cast
  rw [h3, wr64 _ (by omega) (by omega)]
theorem or_b (h c : Nat) (hh : h < 2 ^ 20) (hc : c < 256) : Go.bits .or .i64 ((h : Int) * 256) (c : Int) = ((h * 256 + c : Nat) : Int) := by
  rw [bits_join .i64 62 (by decide) wr64 8 ((h : Int) * 256) (c : Int) (by omega) (by omega) (by omega) (by omega) (by omega) (by omega)]
  omega
theorem mask_n (h n : Nat) (hn : n < 20) (hh : h < 2 ^ 40) : Go.bits .and .i64 (h : Int) ((2 ^ n : Nat) - 1 : Int) = ((h % 2 ^ n : Nat) : Int) := by
  have := bits_mask .i64 62 (by decide) wr64 n (by omega) (h : Int) (by omega) (by omega)
  have e : ((2 ^ n : Nat) : Int) - 1 = (2 : Int) ^ n - 1 := by norm_cast
  rw [e, this]
  norm_cast
theorem wrP (P : Nat) (h : P ≤ 4096) : wrap64 (P : Int) = P := w64 (by omega) (by omega)
theorem wrP1 (P : Nat) (h1 : 1 ≤ P) (h : P ≤ 4096) : wrap64 ((P : Int) - 1) = P - 1 := w64 (by omega) (by omega)
theorem wr5 (h n g : Nat) (hg : h * 2 ^ (5 - n) = g) (hg32 : g < 32) : wrap64 ((h : Int) * 2 ^ (5 - n)) = (g : Int) := by
  have e : (h : Int) * 2 ^ (5 - n) = (g : Int) := by rw [← hg]; norm_cast
  rw [e, w64 (by omega) (by omega)]
def signsS : ByteArray := ⟨#[97, 98, 99, 100, 101, 102, 103, 104, 105, 106, 107, 108, 109, 110, 111, 112, 113, 114, 115, 116, 117, 118, 119, 120, 121, 122, 50, 51, 52, 53, 54, 55]⟩
theorem signs_at (k : Nat) (hk : k < signsS.size) : ((signsS[k]'hk).toNat : Int) = ((sg k).toNat : Int) := by
  have h : (L signsS).getD k 0 = sg k := rfl
  rw [← h, ← btd signsS k]
  exact bt_at signsS k hk
set_option maxHeartbeats 4000000 in
set_option maxRecDepth 100000 in
theorem write_calls (w : World) (s : ByteArray) (hs : s.size ≤ 10000) :
    Calls Tryd.prog 35 #[.string s, .string signsS, .int .i64 5] w fun e w' => e = .returned (.string (S (to32B (L s)))) ∧ Below w.heap.size w w' := by
  have hsz : signsS.size = 32 := rfl
  obtain ⟨sn, hsn⟩ : ∃ x, signsS = x := ⟨_, rfl⟩
  have hat : ∀ k (hk : k < sn.size), ((sn[k]'hk).toNat : Int) = ((sg k).toNat : Int) := by subst hsn; exact signs_at
  rw [hsn] at hsz ⊢
  have HAT := Lib.hid hat
  clear hat hsn
  have hI0 := Lib.IsBuilderF.of (Lib.fresh_isBuilder 55 5 w)
  have hB0 : Below w.heap.size w (w.alloc (.cells #[.pointer none, .slice none 0 0] 55)) := (Below.refl _ w).alloc (Nat.le_refl _) _
  go_enter Tryd.func35, Tryd.ntmps35
  go_wp2
  go_loopw [8, 9, 13] (fun h n i q => ∃ (t : Nat), t ≤ s.size ∧ i = .int .i64 t ∧ h = .int .i64 ((wrB ((L s).take t)).2.1 : Int) ∧ n = .int .i64 ((wrB ((L s).take t)).2.2 : Int) ∧ Lib.IsBuilderF 55 5 w.heap.size w.heap.size (Lib.byteCells (wrB ((L s).take t)).1) q ∧ Below w.heap.size w q) (fun _ _ i _ => s.size - (intOf i).toNat)
  case atStart => exact ⟨0, Nat.zero_le _, rfl, rfl, rfl, hI0, hB0⟩
  case round =>
    clear hI0 hB0
    obtain ⟨t, ht, rfl, rfl, rfl, hI, hB⟩ := hrel
    obtain ⟨ok1, ok2, ok3⟩ := wrB_ok ((L s).take t)
    by_cases hlt : t < s.size
    · have hc : ((s[t]'hlt).toNat : Int) = (((L s)[t]'(by rw [← sz]; exact hlt)).toNat : Int) := rfl
      obtain ⟨c, hcc⟩ : ∃ c, (L s)[t]'(by rw [← sz]; exact hlt) = c := ⟨_, rfl⟩
      have hnext : wrB ((L s).take (t + 1)) = wb (wrB ((L s).take t)) c := by
        rw [List.take_succ_eq_append_getElem (by rw [← sz]; exact hlt), wrB_snoc, hcc]
      rw [hcc] at hc
      have ok3' : (wrB ((L s).take t)).1.length ≤ 30000 := by
        rw [List.length_take] at ok3; omega
      obtain ⟨⟨a, h, n⟩, hx⟩ : ∃ x, wrB ((L s).take t) = x := ⟨_, rfl⟩
      rw [hx] at hnext hI ok1 ok2 ok3' ⊢
      simp only [Ok] at ok1 ok2 ok3' hI ⊢
      have HN := Lib.hid hnext
      clear hnext hx hcc ok3
      have hh : h < 16 := Nat.lt_of_lt_of_le ok1 (Nat.pow_le_pow_right (by decide) (by omega) : 2 ^ n ≤ 2 ^ 4)
      have hcl := c.toNat_lt
      have hor := or_b h c.toNat (by omega) hcl
      go_wp2
      obtain ⟨R, hR⟩ : ∃ R, wb (a, h, n) c = R := ⟨_, rfl⟩
      have hR0 : w5 3 (a, h * 256 + c.toNat, n + 8) = R := hR
      rw [hR] at HN
      have hst : h * 256 + c.toNat < 2 ^ (n + 8) := by rw [Nat.pow_add]; omega
      clear hR
      go_loopw [8, 9] (fun hv nv q => ∃ (f : Nat) (a' : List UInt8) (h' n' : Nat), hv = .int .i64 (h' : Int) ∧ nv = .int .i64 (n' : Int) ∧ Hid (w5 f (a', h', n') = R) ∧ h' < 2 ^ n' ∧ n' ≤ 12 ∧ n' < 5 * f + 5 ∧ f ≤ 3 ∧ a'.length + f ≤ 30003 ∧ Lib.IsBuilderF 55 5 w.heap.size w.heap.size (Lib.byteCells a') q ∧ Below w.heap.size w q) (fun _ nv _ => (intOf nv).toNat)
      case atStart => exact ⟨3, a, h * 256 + c.toNat, n + 8, rfl, by go_num, Lib.hid hR0, hst, by omega, by omega, by omega, by omega, hI, hB⟩
      case round =>
        clear hI hB hor hst hR0 ok1 ok2 ok3'
        obtain ⟨f, a', h', n', rfl, rfl, HR, ok1, ok2, ok3, ok5, ok4, hI, hB⟩ := hrel
        by_cases h5 : n' < 5
        · have hRR : w5 f (a', h', n') = (a', h', n') := by
            cases f with
            | zero => rfl
            | succ f => rw [w5, if_pos h5]
          have hfin : wrB ((L s).take (t + 1)) = (a', h', n') := by rw [HN.out, ← HR.out, hRR]
          go_wp2
          refine ⟨⟨t + 1, by omega, by go_num, by rw [hfin], by rw [hfin], by rw [hfin]; exact hI, hB⟩, by simp [intOf]; omega⟩
        · obtain ⟨m, rfl⟩ : ∃ m, n' = m + 5 := ⟨n' - 5, by omega⟩
          cases f with
          | zero => omega
          | succ f =>
            have hshr := shr_n h' m (by omega)
            have hmask := mask_n h' m (by omega) (by have : 2 ^ (m + 5) ≤ 2 ^ 12 := Nat.pow_le_pow_right (by decide) ok2; omega)
            have hshl := shl_n 1 m (by omega) (by omega)
            have hq : h' / 2 ^ m < 32 := by
              rw [Nat.div_lt_iff_lt_mul (Nat.two_pow_pos _)]
              rw [Nat.pow_add] at ok1
              omega
            obtain ⟨g, hg⟩ : ∃ g, h' / 2 ^ m = g := ⟨_, rfl⟩
            obtain ⟨r, hr⟩ : ∃ r, h' % 2 ^ m = r := ⟨_, rfl⟩
            obtain ⟨P, hP⟩ : ∃ P, 2 ^ m = P := ⟨_, rfl⟩
            have hrlt : r < 2 ^ m := by rw [← hr]; exact Nat.mod_lt _ (Nat.two_pow_pos _)
            have hdiv : (h' : Int) / 2 ^ m = (g : Int) := by rw [← hg]; norm_cast
            have hdiv2 : (h' : Int) / (P : Int) = (g : Int) := by rw [← hg, ← hP]; norm_cast
            have hPi : (2 : Int) ^ m = (P : Int) := by rw [← hP]; norm_cast
            have hPu : P ≤ 4096 := by rw [← hP]; exact (Nat.pow_le_pow_right (by decide) (show m ≤ 12 by omega) : 2 ^ m ≤ 2 ^ 12)
            have hP1 : 1 ≤ P := by rw [← hP]; exact Nat.two_pow_pos _
            have HG := Lib.hid hg
            have HR2 := Lib.hid hr
            have HP := Lib.hid hP
            rw [hg] at hshr hq
            rw [hr, hP] at hmask
            rw [Nat.one_mul, hP] at hshl
            clear hg hr hP hshr
            have hgi : (g : Int) < 32 := by omega
            have hx := HAT.out g (by omega)
            go_wp2_with fail
            refine (bld_WriteByte w.heap.size w.heap.size (Lib.byteCells a') _ wr hI (by rw [Lib.byteCells_length]; omega) hB.size).mono ?_
            rintro e q1 ⟨rfl, h1, hb1, _⟩
            have hB1 := hB.trans hb1
            have hI1 : Lib.IsBuilderF 55 5 w.heap.size w.heap.size (Lib.byteCells (a' ++ [sg g])) q1 := by
              have e : Lib.byteCells (a' ++ [sg g]) = Lib.byteCells a' ++ [.int .u8 ((sg g).toNat : Int)] := by simp [Lib.byteCells]
              rw [e]; exact .inr h1
            have hrec : w5 f (a' ++ [sg g], r, m) = R := by
              have := HR.out
              rw [w5, if_neg (by simp only; omega)] at this
              simp only [Nat.add_sub_cancel, HG.out, HR2.out] at this
              exact this
            clear hI hB h1 hb1 hx hdiv2
            go_wp2
            clear hPi hmask hshl
            refine ⟨⟨f, a' ++ [sg g], r, m, rfl, rfl, Lib.hid hrec, hrlt, by omega, by omega, by omega, by rw [List.length_append, List.length_singleton]; omega, hI1, hB1⟩, by simp [intOf]; omega⟩
    · have htz : t = s.size := by omega
      have hall : (L s).take t = L s := List.take_of_length_le (by rw [← sz]; omega)
      rw [hall] at hI ok1 ok2 ok3 ⊢
      have ok3' : (wrB (L s)).1.length ≤ 30000 := by rw [← sz] at ok3; omega
      have hres : to32B (L s) = if 0 < (wrB (L s)).2.2 then (wrB (L s)).1 ++ [sg ((wrB (L s)).2.1 * 2 ^ (5 - (wrB (L s)).2.2))] else (wrB (L s)).1 := rfl
      have HRES := Lib.hid hres
      obtain ⟨⟨a, h, n⟩, hx⟩ : ∃ x, wrB (L s) = x := ⟨_, rfl⟩
      rw [hx] at HRES hI ok1 ok2 ok3' ⊢
      simp only [Ok] at ok1 ok2 ok3' hI HRES ⊢
      clear hall hx ok3 hres
      by_cases hn : 0 < n
      · rw [if_pos hn] at HRES
        obtain ⟨g, hg⟩ : ∃ g, h * 2 ^ (5 - n) = g := ⟨_, rfl⟩
        rw [hg] at HRES
        have hg32 : g < 32 := by
          rw [← hg]
          have h1 : h * 2 ^ (5 - n) < 2 ^ n * 2 ^ (5 - n) := Nat.mul_lt_mul_of_pos_right ok1 (Nat.two_pow_pos _)
          rw [← Nat.pow_add, show n + (5 - n) = 5 from by omega] at h1
          omega
        have hgi : (g : Int) < 32 := by omega
        have hgx := HAT.out g (by rw [hsz]; exact hg32)
        have hsx := wr5 h n g hg hg32
        clear hg
        go_wp2_with fail
        refine (bld_WriteByte w.heap.size w.heap.size (Lib.byteCells a) _ wr hI (by rw [Lib.byteCells_length]; omega) hB.size).mono ?_
        rintro e q1 ⟨rfl, h1, hb1, _⟩
        have hB1 := hB.trans hb1
        have hI1 : Lib.IsBuilderF 55 5 w.heap.size w.heap.size (Lib.byteCells (a ++ [sg g])) q1 := by
          have e : Lib.byteCells (a ++ [sg g]) = Lib.byteCells a ++ [.int .u8 ((sg g).toNat : Int)] := by simp [Lib.byteCells]
          rw [e]; exact .inr h1
        clear hI hB h1 hb1 hsx hgx
        go_wp2_with fail
        refine (bld_String w.heap.size w.heap.size (a ++ [sg g]) _ hI1 hB1.size).mono ?_
        rintro e q2 ⟨rfl, _, hb2, _⟩
        go_wp2
        go_ret
        exact ⟨by rw [HRES.out]; rfl, hB1.trans hb2⟩
      · rw [if_neg hn] at HRES
        go_wp2_with fail
        refine (bld_String w.heap.size w.heap.size a _ hI hB.size).mono ?_
        rintro e q2 ⟨rfl, _, hb2, _⟩
        go_wp2
        go_ret
        exact ⟨by rw [HRES.out]; rfl, hB.trans hb2⟩
set_option maxRecDepth 100000 in
theorem to32_calls (w : World) (s : ByteArray) (hs : s.size ≤ 10000) :
    Calls Tryd.prog 19 #[.string s] w fun e w' => e = .returned (.string (S (to32B (L s)))) ∧ Below w.heap.size w w' := by
  have h := write_calls w s hs
  go_enter Tryd.func19, Tryd.ntmps19
  go_wp2_with fail
  refine h.mono ?_
  rintro e w1 ⟨rfl, b1⟩
  go_wp2
  go_ret
  exact ⟨rfl, b1⟩
end Go.Proofs.YtcdhpknjinonhaaDoor.Code
/- Plain lemmas on decimal digits and on texts behind their lengths (nets), on lists of bytes: no program. -/
namespace Go.Proofs.YtcdhpknjinonhaaDoor.Nets
open Go.Proofs.YtcdhpknjinonhaaDoor.Aid
set_option linter.unusedVariables false
set_option linter.unusedSimpArgs false

/-- a byte for a number -/
abbrev B (n : Nat) : UInt8 := UInt8.ofNat n
theorem B_toNat {n : Nat} (h : n < 256) : (B n).toNat = n := by simp [B, Nat.mod_eq_of_lt h]
theorem B_of_toNat (c : UInt8) : B c.toNat = c := by simp [B]

/-- decimal digits -/
def digL (n : Nat) : List UInt8 := if n < 10 then [B (48 + n)] else digL (n / 10) ++ [B (48 + n % 10)]
theorem digL_small {n : Nat} (h : n < 10) : digL n = [B (48 + n)] := by rw [digL, if_pos h]
theorem digL_big {n : Nat} (h : ¬ n < 10) : digL n = digL (n / 10) ++ [B (48 + n % 10)] := by rw [digL, if_neg h]

def isD (c : UInt8) : Bool := decide (48 ≤ c.toNat) && decide (c.toNat ≤ 57)
theorem isD_iff (c : UInt8) : isD c = true ↔ 48 ≤ c.toNat ∧ c.toNat ≤ 57 := by simp [isD]
theorem isD_B {n : Nat} (h : n < 10) : isD (B (48 + n)) = true := by
  rw [isD_iff, B_toNat (by omega)]; omega
def val (d : List UInt8) : Nat := d.foldl (fun a c => 10 * a + (c.toNat - 48)) 0
theorem val_nil : val [] = 0 := rfl
theorem val_snoc (d : List UInt8) (c : UInt8) : val (d ++ [c]) = 10 * val d + (c.toNat - 48) := by simp [val]

theorem digL_ne (n : Nat) : digL n ≠ [] := by
  rw [digL]; split <;> simp
theorem digL_all (n : Nat) : ∀ c ∈ digL n, isD c = true := by
  induction n using Nat.strongRecOn with
  | _ n ih =>
    intro c hc
    by_cases h : n < 10
    · rw [digL_small h] at hc
      simp only [List.mem_singleton] at hc
      rw [hc]; exact isD_B h
    · rw [digL_big h, List.mem_append] at hc
      rcases hc with hc | hc
      · exact ih (n / 10) (by omega) c hc
      · simp only [List.mem_singleton] at hc
        rw [hc]; exact isD_B (by omega)
theorem val_digL (n : Nat) : val (digL n) = n := by
  induction n using Nat.strongRecOn with
  | _ n ih =>
    by_cases h : n < 10
    · rw [digL_small h]
      simp [val]
      omega
    · rw [digL_big h, val_snoc, ih _ (by omega), B_toNat (by omega)]
      omega
theorem digL_len (k : Nat) : ∀ n, 1 ≤ k → n < 10 ^ k → (digL n).length ≤ k := by
  induction k with
  | zero => intro n h; omega
  | succ k ih =>
    intro n _ hn
    by_cases h : n < 10
    · rw [digL_small h]; simp
    · rw [digL_big h, List.length_append]
      have hk : 1 ≤ k := by
        rcases Nat.eq_zero_or_pos k with h0 | h0
        · subst h0; simp at hn; omega
        · exact h0
      have := ih (n / 10) hk (by rw [Nat.pow_succ] at hn; omega)
      simp; omega
theorem digL_head (n : Nat) : 1 ≤ n → (digL n).head? ≠ some 48 := by
  induction n using Nat.strongRecOn with
  | _ n ih =>
    intro h1
    by_cases h : n < 10
    · rw [digL_small h]
      simp only [List.head?_cons]
      intro e
      have := congrArg (fun c => UInt8.toNat c) (Option.some.inj e)
      simp only [B_toNat (show 48 + n < 256 by omega)] at this
      simp at this
      omega
    · rw [digL_big h, List.head?_append]
      have := ih (n / 10) (by omega) (by omega)
      cases hd : (digL (n / 10)).head? with
      | none => exact absurd (List.head?_eq_none_iff.1 hd) (digL_ne _)
      | some c => rw [hd] at this; exact this
/-- digits as a number is written: no nought ahead -/
def canon (d : List UInt8) : Prop := ¬ (1 < d.length ∧ d.head? = some 48)
theorem canon_digL (n : Nat) : canon (digL n) := by
  rintro ⟨h1, h2⟩
  rcases Nat.eq_zero_or_pos n with h0 | h0
  · subst h0
    rw [digL_small (by omega)] at h1
    simp at h1
  · exact digL_head n h0 h2
theorem val_pos (k : Nat) : ∀ d : List UInt8, d.length = k → d ≠ [] → (∀ c ∈ d, isD c = true) → d.head? ≠ some 48 → 1 ≤ val d := by
  induction k with
  | zero => intro d h hne; exact absurd (List.length_eq_zero_iff.1 h) hne
  | succ k ih =>
    intro d hl hne hall hh
    obtain ⟨d', c, rfl⟩ : ∃ d' c, d = d' ++ [c] := by
      rcases List.eq_nil_or_concat d with h | ⟨d', c, h⟩
      · exact absurd h hne
      · exact ⟨d', c, by simpa using h⟩
    rw [val_snoc]
    by_cases hd : d' = []
    · subst hd
      have hc := (isD_iff c).1 (hall c (by simp))
      simp only [List.nil_append, List.head?_cons, ne_eq, Option.some.injEq] at hh
      have : c.toNat ≠ 48 := fun e => hh (UInt8.toNat_inj.1 (by simpa using e))
      omega
    · have := ih d' (by simp at hl; omega) hd (fun x hx => hall x (by simp [hx])) (by
        rw [List.head?_append] at hh
        cases h : d'.head? with
        | none => exact absurd (List.head?_eq_none_iff.1 h) hd
        | some x => rw [h] at hh; simpa using hh)
      omega
theorem digL_val (k : Nat) : ∀ d : List UInt8, d.length = k → d ≠ [] → (∀ c ∈ d, isD c = true) → canon d → digL (val d) = d := by
  induction k with
  | zero => intro d h hne; exact absurd (List.length_eq_zero_iff.1 h) hne
  | succ k ih =>
    intro d hl hne hall hcan
    obtain ⟨d', c, rfl⟩ : ∃ d' c, d = d' ++ [c] := by
      rcases List.eq_nil_or_concat d with h | ⟨d', c, h⟩
      · exact absurd h hne
      · exact ⟨d', c, by simpa using h⟩
    have hc := (isD_iff c).1 (hall c (by simp))
    rw [val_snoc]
    by_cases hd : d' = []
    · subst hd
      rw [val_nil, digL_small (by omega), show 48 + (10 * 0 + (c.toNat - 48)) = c.toNat from by omega, B_of_toNat]
      rfl
    · have hpos : 0 < d'.length := by
        rcases Nat.eq_zero_or_pos d'.length with h | h
        · exact absurd (List.length_eq_zero_iff.1 h) hd
        · exact h
      have hh : d'.head? ≠ some 48 := by
        intro e
        refine hcan ⟨by simp; omega, ?_⟩
        rw [List.head?_append, e]
        rfl
      have hall' : ∀ x ∈ d', isD x = true := fun x hx => hall x (by simp [hx])
      have h1 := val_pos _ d' rfl hd hall' hh
      have h2 := ih d' (by simp at hl; omega) hd hall' (fun h => hh h.2)
      rw [digL_big (by omega), show (10 * val d' + (c.toNat - 48)) / 10 = val d' from by omega, show 48 + (10 * val d' + (c.toNat - 48)) % 10 = c.toNat from by omega, h2, B_of_toNat]
theorem val_lt (k : Nat) : ∀ d : List UInt8, d.length ≤ k → (∀ c ∈ d, isD c = true) → val d < 10 ^ k := by
  induction k with
  | zero =>
    intro d h _
    rw [List.length_eq_zero_iff.1 (by omega : d.length = 0)]
    simp [val]
  | succ k ih =>
    intro d hl hall
    rcases List.eq_nil_or_concat d with h | ⟨d', c, h⟩
    · subst h; rw [val_nil]; exact Nat.pow_pos (by omega)
    · have h : d = d' ++ [c] := by simpa using h
      subst h
      have hc := (isD_iff c).1 (hall c (by simp))
      have := ih d' (by simp at hl; omega) (fun x hx => hall x (by simp [hx]))
      rw [val_snoc, Nat.pow_succ]
      omega

/-! ### the digits ahead -/
theorem tw_take {α : Type} (p : α → Bool) (l : List α) : l.takeWhile p = l.take (l.takeWhile p).length := by
  induction l with
  | nil => simp
  | cons x xs ih =>
    by_cases h : p x = true
    · simp only [List.takeWhile_cons, h, if_true, List.length_cons, List.take_succ_cons]
      rw [← ih]
    · simp [List.takeWhile_cons, h]
theorem tw_all {α : Type} (p : α → Bool) (l : List α) : ∀ x ∈ l.takeWhile p, p x = true := by
  induction l with
  | nil => simp
  | cons y ys ih =>
    intro x hx
    by_cases h : p y = true
    · simp only [List.takeWhile_cons, h, if_true, List.mem_cons] at hx
      rcases hx with rfl | hx
      · exact h
      · exact ih x hx
    · simp [List.takeWhile_cons, h] at hx
theorem tw_le {α : Type} (p : α → Bool) (l : List α) : (l.takeWhile p).length ≤ l.length := by
  rw [tw_take, List.length_take]; omega
theorem tw_stop {α : Type} (p : α → Bool) (l : List α) : ∀ h : (l.takeWhile p).length < l.length, p (l[(l.takeWhile p).length]'h) = false := by
  induction l with
  | nil => intro h; simp at h
  | cons y ys ih =>
    intro h
    by_cases hy : p y = true
    · simp only [List.takeWhile_cons, hy, if_true, List.length_cons, Nat.succ_lt_succ_iff] at h ⊢
      exact ih h
    · simp only [List.takeWhile_cons, hy]
      simpa using hy
theorem tw_get {α : Type} (p : α → Bool) (l : List α) (i : Nat) (h : i < (l.takeWhile p).length) : p (l[i]'(Nat.lt_of_lt_of_le h (tw_le p l))) = true := by
  have h1 := tw_all p l ((l.takeWhile p)[i]) (List.getElem_mem h)
  have h2 : (l.takeWhile p)[i] = l[i]'(Nat.lt_of_lt_of_le h (tw_le p l)) := by
    have := tw_take p l
    rw [List.getElem_of_eq this h, List.getElem_take]
  rw [← h2]; exact h1
theorem tw_app {α : Type} (p : α → Bool) (a : List α) (x : α) (b : List α) (ha : ∀ y ∈ a, p y = true) (hx : p x = false) : (a ++ x :: b).takeWhile p = a := by
  induction a with
  | nil => simp [List.takeWhile_cons, hx]
  | cons y ys ih =>
    simp only [List.cons_append, List.takeWhile_cons, ha y (by simp), if_true]
    rw [ih (fun z hz => ha z (by simp [hz]))]

/-! ### nets -/
def pre (l : List UInt8) : List UInt8 := l.takeWhile isD
def putL (l : List UInt8) : List UInt8 := digL l.length ++ [58] ++ l ++ [44]
/-- the text that nets begin with -/
def takeL (l : List UInt8) : List UInt8 × List UInt8 × Int :=
  if l = [] then ([], [], 9)
  else if (pre l).length = 0 then ([], [], 3)
  else if 9 < (pre l).length then ([], [], 2)
  else if (pre l).length = l.length then ([], [], 9)
  else if l.getD (pre l).length 0 ≠ 58 ∨ (1 < (pre l).length ∧ l.getD 0 0 = 48) then ([], [], 3)
  else if (l.drop ((pre l).length + 1)).length ≤ val (pre l) then ([], [], 9)
  else if (l.drop ((pre l).length + 1)).getD (val (pre l)) 0 ≠ 44 then ([], [], 3)
  else ((l.drop ((pre l).length + 1)).take (val (pre l)), (l.drop ((pre l).length + 1)).drop (val (pre l) + 1), 0)

theorem pre_put (l b : List UInt8) : pre (putL l ++ b) = digL l.length := by
  unfold pre putL
  rw [show digL l.length ++ [58] ++ l ++ [44] ++ b = digL l.length ++ 58 :: (l ++ [44] ++ b) from by simp]
  exact tw_app isD _ _ _ (digL_all _) (by decide)
theorem take_put (l b : List UInt8) (h : l.length < 1000000000) : takeL (putL l ++ b) = (l, b, 0) := by
  have hp := pre_put l b
  have hl9 := digL_len 9 l.length (by omega) (by omega)
  have hne := digL_ne l.length
  have hl0 : (digL l.length).length ≠ 0 := fun e => hne (List.length_eq_zero_iff.1 e)
  have heq : putL l ++ b = digL l.length ++ (58 :: (l ++ (44 :: b))) := by simp [putL]
  have hlen : (putL l ++ b).length = (digL l.length).length + (l.length + b.length + 2) := by rw [heq]; simp; omega
  have hget : (putL l ++ b).getD (digL l.length).length 0 = 58 := by
    rw [heq]; simp [List.getD_eq_getElem?_getD, List.getElem?_append_right]
  have hdrop : (putL l ++ b).drop ((digL l.length).length + 1) = l ++ (44 :: b) := by
    rw [heq, List.drop_append]
    simp
  have hcan := canon_digL l.length
  have h0 : (putL l ++ b).getD 0 0 = (digL l.length).head?.getD 0 := by
    rw [heq]
    cases hd : digL l.length with
    | nil => exact absurd hd hne
    | cons c cs => simp
  have hh : (digL l.length).head? = some ((digL l.length).head?.getD 0) := by
    cases hd : digL l.length with
    | nil => exact absurd hd hne
    | cons c cs => simp
  unfold takeL
  rw [hp, val_digL, hdrop, hget, h0]
  rw [if_neg (by intro e; rw [e] at hlen; simp at hlen), if_neg hl0, if_neg (by omega), if_neg (by omega)]
  rw [if_neg (by
    rintro (e | ⟨e1, e2⟩)
    · exact e rfl
    · exact hcan ⟨e1, by rw [hh, e2]⟩)]
  rw [if_neg (by simp), if_neg (by simp [List.getD_eq_getElem?_getD])]
  simp [List.drop_append]
theorem put_take (b u r : List UInt8) (h : takeL b = (u, r, 0)) : putL u ++ r = b := by
  unfold takeL at h
  by_cases h1 : b = []
  · simp [h1] at h
  rw [if_neg h1] at h
  by_cases h2 : (pre b).length = 0
  · rw [if_pos h2] at h; simp at h
  rw [if_neg h2] at h
  by_cases h3 : 9 < (pre b).length
  · rw [if_pos h3] at h; simp at h
  rw [if_neg h3] at h
  by_cases h4 : (pre b).length = b.length
  · rw [if_pos h4] at h; simp at h
  rw [if_neg h4] at h
  by_cases h5 : b.getD (pre b).length 0 ≠ 58 ∨ (1 < (pre b).length ∧ b.getD 0 0 = 48)
  · rw [if_pos h5] at h; simp at h
  rw [if_neg h5] at h
  by_cases h6 : (b.drop ((pre b).length + 1)).length ≤ val (pre b)
  · rw [if_pos h6] at h; simp at h
  rw [if_neg h6] at h
  by_cases h7 : (b.drop ((pre b).length + 1)).getD (val (pre b)) 0 ≠ 44
  · rw [if_pos h7] at h; simp at h
  rw [if_neg h7] at h
  simp only [Prod.mk.injEq, and_true] at h
  obtain ⟨hu, hr⟩ := h
  have hle := tw_le isD b
  have hlt : (pre b).length < b.length := by unfold pre at h4 ⊢; omega
  have hpt := tw_take isD b
  have hcan : canon (pre b) := by
    rintro ⟨e1, e2⟩
    refine h5 (Or.inr ⟨e1, ?_⟩)
    cases hb : b with
    | nil => exact absurd hb h1
    | cons c cs =>
      have : (pre b).head? = some c := by
        have h0 : 0 < (pre b).length := by omega
        rw [List.head?_eq_getElem?, List.getElem?_eq_getElem h0]
        have := List.getElem_of_eq hpt h0
        unfold pre
        rw [this, List.getElem_take]
        simp [hb]
      rw [this] at e2
      simpa using e2
  have hne : pre b ≠ [] := fun e => h2 (by rw [e]; rfl)
  have hd := digL_val _ (pre b) rfl hne (tw_all isD b) hcan
  have hul : u.length = val (pre b) := by rw [← hu, List.length_take]; omega
  have h58 : b[(pre b).length] = 58 := by
    have : ¬ b.getD (pre b).length 0 ≠ 58 := fun e => h5 (Or.inl e)
    simpa [List.getD_eq_getElem?_getD, List.getElem?_eq_getElem hlt] using this
  have h44 : (b.drop ((pre b).length + 1))[val (pre b)]'(by omega) = 44 := by
    have : ¬ (b.drop ((pre b).length + 1)).getD (val (pre b)) 0 ≠ 44 := h7
    rw [List.getD_eq_getElem?_getD, List.getElem?_eq_getElem (by omega : val (pre b) < (b.drop ((pre b).length + 1)).length)] at this
    simpa using this
  unfold putL
  rw [hul, hd]
  have e1 : b = pre b ++ 58 :: b.drop ((pre b).length + 1) := by
    rw [← h58, ← List.drop_eq_getElem_cons hlt]
    have : pre b = b.take (pre b).length := hpt
    conv => lhs; rw [← List.take_append_drop (pre b).length b]
    rw [← this]
  have e2 : b.drop ((pre b).length + 1) = u ++ 44 :: r := by
    have hq : val (pre b) < (b.drop ((pre b).length + 1)).length := by omega
    conv => lhs; rw [← List.take_append_drop (val (pre b)) (b.drop ((pre b).length + 1))]
    rw [List.drop_eq_getElem_cons hq, h44, hu, hr]
  conv => rhs; rw [e1, e2]
  simp
theorem take_fail (b u r : List UInt8) (c : Int) (h : takeL b = (u, r, c)) (hc : c ≠ 0) : u = [] ∧ r = [] := by
  unfold takeL at h
  repeat (first | (split at h) | (simp only [Prod.mk.injEq] at h; obtain ⟨rfl, rfl, rfl⟩ := h; first | exact ⟨rfl, rfl⟩ | exact absurd rfl hc))
theorem take_less (b u r : List UInt8) (h : takeL b = (u, r, 0)) : r.length + 3 ≤ b.length := by
  have := put_take b u r h
  rw [← this]
  have hl0 : (digL u.length).length ≠ 0 := fun e => digL_ne u.length (List.length_eq_zero_iff.1 e)
  simp [putL]
  omega

/-- the nets of texts -/
def rowL : List (List UInt8) → List UInt8
  | [] => []
  | x :: xs => putL x ++ rowL xs
/-- the texts of nets -/
def textsL : Nat → List UInt8 → List (List UInt8) → List (List UInt8) × Int
  | 0, _, acc => (acc, 0)
  | k + 1, l, acc => if l = [] then (acc, 0) else if (takeL l).2.2 = 0 then textsL k (takeL l).2.1 (acc ++ [(takeL l).1]) else ([], (takeL l).2.2)
theorem putL_ne (l r : List UInt8) : putL l ++ r ≠ [] := by simp [putL]
theorem row_inj : ∀ (a b : List (List UInt8)), (∀ x ∈ a, x.length < 1000000000) → (∀ x ∈ b, x.length < 1000000000) → rowL a = rowL b → a = b
  | [], [], _, _, _ => rfl
  | [], y :: ys, _, _, h => absurd h.symm (putL_ne y (rowL ys))
  | x :: xs, [], _, _, h => absurd h (putL_ne x (rowL xs))
  | x :: xs, y :: ys, ha, hb, h => by
    have h1 := take_put x (rowL xs) (ha x (by simp))
    have h2 := take_put y (rowL ys) (hb y (by simp))
    have h3 : putL x ++ rowL xs = putL y ++ rowL ys := h
    rw [h3, h2] at h1
    simp only [Prod.mk.injEq, and_true] at h1
    obtain ⟨rfl, h4⟩ := h1
    rw [row_inj xs ys (fun z hz => ha z (by simp [hz])) (fun z hz => hb z (by simp [hz])) h4.symm]
theorem rowL_app (a b : List (List UInt8)) : rowL (a ++ b) = rowL a ++ rowL b := by
  induction a with
  | nil => simp [rowL]
  | cons x xs ih => simp [rowL, ih]
theorem row_texts (k : Nat) : ∀ l acc r, l.length ≤ k → textsL k l acc = (r, 0) → rowL r = rowL acc ++ l := by
  induction k with
  | zero =>
    intro l acc r hl h
    simp only [textsL, Prod.mk.injEq] at h
    rw [← h.1, List.length_eq_zero_iff.1 (by omega : l.length = 0)]; simp
  | succ k ih =>
    intro l acc r hl h
    simp only [textsL] at h
    by_cases h1 : l = []
    · rw [if_pos h1] at h
      simp only [Prod.mk.injEq] at h
      rw [← h.1, h1]; simp
    · rw [if_neg h1] at h
      by_cases h2 : (takeL l).2.2 = 0
      · rw [if_pos h2] at h
        have hq : takeL l = ((takeL l).1, (takeL l).2.1, 0) := by rw [← h2]
        have h3 := put_take _ _ _ hq
        have h4 := take_less _ _ _ hq
        have h5 := ih _ _ _ (by omega) h
        rw [h5, rowL_app]
        conv => rhs; rw [← h3]
        simp [rowL]
      · rw [if_neg h2] at h
        simp only [Prod.mk.injEq] at h
        exact absurd h.2 h2
theorem texts_enough (k : Nat) : ∀ m l acc, l.length ≤ k → k ≤ m → textsL m l acc = textsL k l acc := by
  induction k with
  | zero =>
    intro m l acc hl hm
    have : l = [] := List.length_eq_zero_iff.1 (by omega)
    subst this
    cases m <;> simp [textsL]
  | succ k ih =>
    intro m l acc hl hm
    obtain ⟨m, rfl⟩ : ∃ q, m = q + 1 := ⟨m - 1, by omega⟩
    simp only [textsL]
    by_cases h1 : l = []
    · rw [if_pos h1, if_pos h1]
    · rw [if_neg h1, if_neg h1]
      by_cases h2 : (takeL l).2.2 = 0
      · rw [if_pos h2, if_pos h2]
        have hq : takeL l = ((takeL l).1, (takeL l).2.1, 0) := by rw [← h2]
        have h4 := take_less _ _ _ hq
        exact ih _ _ _ (by omega) (by omega)
      · rw [if_neg h2, if_neg h2]
theorem texts_fail (k : Nat) : ∀ l acc r c, textsL k l acc = (r, c) → c ≠ 0 → r = [] := by
  induction k with
  | zero => intro l acc r c h hc; simp only [textsL, Prod.mk.injEq] at h; exact absurd h.2.symm hc
  | succ k ih =>
    intro l acc r c h hc
    simp only [textsL] at h
    by_cases h1 : l = []
    · rw [if_pos h1] at h
      simp only [Prod.mk.injEq] at h
      exact absurd h.2.symm hc
    · rw [if_neg h1] at h
      by_cases h2 : (takeL l).2.2 = 0
      · rw [if_pos h2] at h
        exact ih _ _ _ _ h hc
      · rw [if_neg h2] at h
        simp only [Prod.mk.injEq] at h
        exact h.1.symm
end Go.Proofs.YtcdhpknjinonhaaDoor.Nets
/- What the printed rows of nets tell (a part of NetsP). -/
namespace Go.Proofs.YtcdhpknjinonhaaDoor.Nets
open Go.RowKit Go.Proofs.YtcdhpknjinonhaaDoor.X Go.Proofs.YtcdhpknjinonhaaDoorW.PrintWords Go.Proofs.YtcdhpknjinonhaaDoorW.PrintLast Go.Proofs.YtcdhpknjinonhaaDoor.Aid
set_option linter.unusedVariables false
set_option linter.unusedSimpArgs false

theorem numB (n : Nat) (h : n < 10) : strOfNums [wrap64 (48 + (n : Int)) % 256] = S [B (48 + n)] := by
  rw [nums_eq, w64 (by omega) (by omega)]
  simp only [List.map_cons, List.map_nil]
  rw [show ((48 + (n : Int)) % 256).toNat = 48 + n from by omega]
theorem digits_ev (n : Nat) (hn : n ≤ 4611686018427387904) : Ev (fun k => nets_digits.f k (n : Int)) (S (digL n)) := by
  induction n using Nat.strongRecOn with
  | _ n ih =>
    refine up ?_
    simp only [nets_digits.f]
    by_cases h : n < 10
    · refine pos (by omega) (now' ?_)
      rw [numB n h, digL_small h]
    · refine neg (by omega) ?_
      have e1 : wrap64 (Int.tdiv (n : Int) 10) = ((n / 10 : Nat) : Int) := by
        rw [Int.tdiv_eq_ediv_of_nonneg (by omega), w64 (by omega) (by omega)]
        rfl
      have e2 : Int.tmod (n : Int) 10 = ((n % 10 : Nat) : Int) := by
        rw [Int.tmod_eq_emod_of_nonneg (by omega)]
        rfl
      simp only [e1, e2]
      refine Ev.bind (ih (n / 10) (by omega) (by omega)) ?_
      refine sbind ?_
      rw [numB _ (by omega)]
      have := digL_len 19 (n / 10) (by omega) (by omega)
      refine pos (by simp only [sz, L_S]; simp; omega) (now' ?_)
      rw [S_app, digL_big h]
theorem put_ev (s : ByteArray) (h : s.size ≤ 140737488351232) : Ev (fun k => nets_Put.f k s) (S (putL (L s))) := by
  unfold nets_Put.f
  have hl := digL_len 19 s.size (by omega) (by omega)
  refine Ev.bind (digits_ev s.size (by omega)) ?_
  have h1 : (S (digL s.size)).size = (digL s.size).length := by rw [sz, L_S]
  have e1 : L (⟨#[58]⟩ : ByteArray) = [58] := L_lit [58]
  have e2 : L (⟨#[44]⟩ : ByteArray) = [44] := L_lit [44]
  refine pos (by omega) ?_
  have z1 : (⟨#[58]⟩ : ByteArray).size = 1 := rfl
  refine pos (by rw [ByteArray.size_append, h1, z1]; omega) ?_
  refine pos (by rw [ByteArray.size_append, ByteArray.size_append, h1, z1]; omega) (now' ?_)
  apply L_inj
  rw [L_app, L_app, L_app, L_S, L_S, e1, e2, sz]
  rfl
theorem refdig_l0 (d : Nat) : ∀ (n j : Nat) (acc : List UInt8), n < 10 ^ d → n ≤ 4611686018427387904 → j + d ≤ 20 → j + acc.length ≤ 60 → (j = 0 → 1 ≤ d) → acc.length = j →
    Ev (fun k => bulletinref01_Digits.l0 k (n : Int) (S acc) (j : Int)) (S ((if n = 0 ∧ 0 < j then [] else digL n) ++ acc)) := by
  induction d with
  | zero =>
    intro n j acc hn _ hj _ h0 hl
    have hn0 : n = 0 := by simpa using hn
    subst hn0
    have hj0 : 0 < j := by
      rcases Nat.eq_zero_or_pos j with h | h
      · exact absurd (h0 h) (by omega)
      · exact h
    refine up ?_
    simp only [bulletinref01_Digits.l0]
    refine neg (by omega) (neg (by omega) (now' ?_))
    rw [if_pos ⟨trivial, hj0⟩, List.nil_append]
  | succ d ih =>
    intro n j acc hn hnm hj hq h0 hl
    have hstep : Ev (fun k => (some (([(wrap64 (48 + (Int.tmod (n : Int) 10))) % 256] : List Int) : List Int)).bind fun y => (if (strOfNums y).size + (S acc).size ≤ 9223372036854775807 then (bulletinref01_Digits.l0 k (wrap64 (Int.tdiv (n : Int) 10)) ((strOfNums y) ++ S acc) (wrap64 ((j : Int) + 1))) else (none))) (S (digL n ++ acc)) := by
      have e1 : wrap64 (Int.tdiv (n : Int) 10) = ((n / 10 : Nat) : Int) := by
        rw [Int.tdiv_eq_ediv_of_nonneg (by omega), w64 (by omega) (by omega)]
        rfl
      have e2 : Int.tmod (n : Int) 10 = ((n % 10 : Nat) : Int) := by
        rw [Int.tmod_eq_emod_of_nonneg (by omega)]
        rfl
      have e3 : wrap64 ((j : Int) + 1) = ((j + 1 : Nat) : Int) := by rw [w64 (by omega) (by omega)]; rfl
      simp only [e1, e2, e3]
      refine sbind ?_
      rw [numB _ (by omega)]
      have z1 : (S [B (48 + n % 10)]).size = 1 := rfl
      have z2 : (S acc).size = acc.length := by rw [sz, L_S]
      refine pos (by rw [z1, z2]; omega) ?_
      rw [S_app]
      have hn' : n / 10 < 10 ^ d := by rw [Nat.pow_succ] at hn; omega
      have := ih (n / 10) (j + 1) ([B (48 + n % 10)] ++ acc) hn' (by omega) (by omega) (by simp; omega) (by omega) (by simp; omega)
      refine cast (congrArg _ ?_) this
      congr 1
      by_cases h : n < 10
      · rw [if_pos ⟨by omega, by omega⟩, digL_small h, show n % 10 = n from by omega]
        simp
      · rw [if_neg (by omega), digL_big h]
        simp
    refine up ?_
    simp only [bulletinref01_Digits.l0]
    by_cases hj0 : j = 0
    · rw [if_neg (by omega)]
      exact pos (by omega) hstep
    · by_cases hn0 : n = 0
      · rw [if_pos ⟨hn0, by omega⟩]
        exact neg (by omega) (neg (by omega) (now' (by simp)))
      · rw [if_neg (by omega)]
        exact neg (by omega) (pos (by omega) (pos (by omega) hstep))
theorem refdigits_ev (n : Nat) (hn : n ≤ 4611686018427387904) : Ev (fun k => bulletinref01_Digits.f k (n : Int)) (S (digL n)) := by
  unfold bulletinref01_Digits.f
  have hb : n < 10 ^ 20 := Nat.lt_of_le_of_lt hn (by decide)
  have := refdig_l0 20 n 0 [] hb hn (by omega) (by simp) (by omega) rfl
  rw [if_neg (by omega), List.append_nil] at this
  exact this
theorem refput_ev (s : ByteArray) (h : s.size ≤ 140737488351232) : Ev (fun k => bulletinref01_Put.f k s) (S (putL (L s))) := by
  unfold bulletinref01_Put.f
  have hl := digL_len 19 s.size (by omega) (by omega)
  refine Ev.bind (refdigits_ev s.size (by omega)) ?_
  have h1 : (S (digL s.size)).size = (digL s.size).length := by rw [sz, L_S]
  have e1 : L (⟨#[58]⟩ : ByteArray) = [58] := L_lit [58]
  have e2 : L (⟨#[44]⟩ : ByteArray) = [44] := L_lit [44]
  refine pos (by omega) ?_
  have z1 : (⟨#[58]⟩ : ByteArray).size = 1 := rfl
  refine pos (by rw [ByteArray.size_append, h1, z1]; omega) ?_
  refine pos (by rw [ByteArray.size_append, ByteArray.size_append, h1, z1]; omega) (now' ?_)
  apply L_inj
  rw [L_app, L_app, L_app, L_S, L_S, e1, e2, sz]
  rfl
/-- the number that the first nine digits tell -/
theorem row_g (N M : Nat) (hM : N + 30 ≤ M) : ∀ (l : List ByteArray) (acc : List UInt8), (∀ x ∈ l, x.size ≤ N) → N ≤ 1000000 → l.length ≤ 1000000 → acc.length + l.length * M ≤ 140737488355328 →
    Ev (fun k => nets_Row.g k l (S acc)) (S (acc ++ rowL (l.map L)))
  | [], acc, _, _, _, _ => by
    simp only [nets_Row.g, List.map_nil, rowL, List.append_nil]
    exact Ev.now _
  | x :: xs, acc, h, hN, hl, hq => by
    simp only [nets_Row.g]
    have hx := h x (by simp)
    have hd := digL_len 19 (L x).length (by omega) (by rw [← sz]; omega)
    refine Ev.bind (put_ev x (by omega)) ?_
    have z1 : (S acc).size = acc.length := by rw [sz, L_S]
    have z2 : (S (putL (L x))).size = (putL (L x)).length := by rw [sz, L_S]
    have z3 : (putL (L x)).length ≤ M := by
      rw [sz] at hx
      unfold putL
      simp only [List.length_append, List.length_cons, List.length_nil]
      omega
    simp only [List.length_cons, Nat.succ_mul] at hq
    refine pos (by rw [z1, z2]; omega) ?_
    rw [S_app]
    have := row_g N M hM xs (acc ++ putL (L x)) (fun y hy => h y (by simp [hy])) hN (by simp at hl; omega) (by rw [List.length_append]; omega)
    rw [List.append_assoc] at this
    exact this
theorem row_ev (l : List ByteArray) (N : Nat) (h : ∀ x ∈ l, x.size ≤ N) (hN : N ≤ 1000000) (hl : l.length ≤ 1000000) : Ev (fun k => nets_Row.f k l) (S (rowL (l.map L))) := by
  unfold nets_Row.f
  have hm : l.length * 1000030 ≤ 1000000 * 1000030 := Nat.mul_le_mul_right _ hl
  refine pos (by omega) ?_
  have := row_g N 1000030 (by omega) l [] h hN hl (by simp only [List.length_nil]; omega)
  rw [List.nil_append] at this
  exact this
theorem refrow_l0 (l : List ByteArray) (N : Nat) (h : ∀ x ∈ l, x.size ≤ N) (hN : N ≤ 1000000) (hl : l.length ≤ 1000000) (M : Nat) (hM : N + 30 ≤ M) (hM2 : M ≤ 1000030) (d : Nat) : ∀ (i : Nat) (acc : List UInt8), i ≤ l.length → l.length - i = d → acc.length ≤ i * M →
    Ev (fun k => bulletinref01_Row.l0 k l (S acc) (i : Int)) (S (acc ++ rowL ((l.drop i).map L))) := by
  induction d with
  | zero =>
    intro i acc hi hd _
    refine up ?_
    simp only [bulletinref01_Row.l0]
    refine neg (by omega) (now' ?_)
    rw [List.drop_eq_nil_of_le (by omega)]
    simp [rowL]
  | succ d ih =>
    intro i acc hi hd ha
    have hil : i < l.length := by omega
    have hi2 : l.length - (i + 1) = d := by omega
    have hx := h l[i] (List.getElem_mem hil)
    refine up ?_
    simp only [bulletinref01_Row.l0]
    refine pos (by omega) (pos (by omega) ?_)
    rw [rdOf_nat _ _ _ hil]
    refine Ev.bind (refput_ev _ (by omega)) ?_
    have hdl := digL_len 19 (L l[i]).length (by omega) (by rw [← sz]; omega)
    have z1 : (S acc).size = acc.length := by rw [sz, L_S]
    have z2 : (S (putL (L l[i]))).size = (putL (L l[i])).length := by rw [sz, L_S]
    have z3 : (putL (L l[i])).length ≤ M := by
      rw [sz] at hx
      unfold putL
      simp only [List.length_append, List.length_cons, List.length_nil]
      omega
    have hm : i * M ≤ 1000000 * 1000030 := Nat.mul_le_mul (by omega) hM2
    refine pos (by rw [z1, z2]; omega) ?_
    have e : wrap64 ((i : Int) + 1) = ((i + 1 : Nat) : Int) := by rw [w64 (by omega) (by omega)]; rfl
    rw [S_app, e]
    have hle : (acc ++ putL (L l[i])).length ≤ (i + 1) * M := by
      rw [List.length_append, Nat.succ_mul]
      exact Nat.add_le_add ha z3
    have := ih (i + 1) (acc ++ putL (L l[i])) hil hi2 hle
    rw [List.drop_eq_getElem_cons hil]
    rw [List.append_assoc] at this
    exact this
theorem refrow_ev (l : List ByteArray) (N : Nat) (h : ∀ x ∈ l, x.size ≤ N) (hN : N ≤ 1000000) (hl : l.length ≤ 1000000) : Ev (fun k => bulletinref01_Row.f k l) (S (rowL (l.map L))) := by
  unfold bulletinref01_Row.f
  have := refrow_l0 l N h hN hl 1000030 (by omega) (by omega) l.length 0 [] (by omega) (by omega) (by simp)
  rw [List.nil_append, List.drop_zero] at this
  exact this

end Go.Proofs.YtcdhpknjinonhaaDoor.Nets
/- Plain lemmas on what strings.Cut and strings.Trim tell: no program. -/
namespace Go.Proofs.YtcdhpknjinonhaaDoor.CutL
open Go.Lib (cut index trimB trimLeftB trimRightB)
set_option linter.unusedVariables false
set_option linter.unusedSimpArgs false
theorem cut_nil (sep : List UInt8) (h : sep ≠ []) : cut [] sep = ([], [], false) := by
  unfold cut index
  have : sep.isEmpty = false := by cases sep <;> simp_all
  rw [this]
  rfl
theorem cut_hit (b : UInt8) (l sep : List UInt8) (h : sep.isPrefixOf (b :: l) = true) : cut (b :: l) sep = ([], (b :: l).drop sep.length, true) := by
  have e : index (b :: l) sep = 0 := by unfold index; rw [if_pos h]
  unfold cut
  rw [e, if_pos (by omega)]
  simp
theorem cut_miss (b : UInt8) (l sep : List UInt8) (h : sep.isPrefixOf (b :: l) = false) : cut (b :: l) sep = (b :: (cut l sep).1, (cut l sep).2.1, (cut l sep).2.2) := by
  have e : index (b :: l) sep = if index l sep == -1 then -1 else index l sep + 1 := by
    conv => lhs; unfold index
    rw [if_neg (by rw [h]; simp)]
  have hg := Go.Lib.index_ge l sep
  by_cases hm : index l sep = -1
  · have e2 : index (b :: l) sep = -1 := by rw [e, hm]; rfl
    unfold cut
    rw [e2, hm]
    rfl
  · have hb : ¬ ((index l sep == -1) = true) := by simpa using hm
    rw [if_neg hb] at e
    unfold cut
    rw [e, if_pos (by omega), if_pos (by omega)]
    obtain ⟨n, hn⟩ : ∃ n : Nat, index l sep = (n : Int) := ⟨(index l sep).toNat, by omega⟩
    rw [hn, show ((n : Int) + 1).toNat = n + 1 from by omega, Int.toNat_natCast, List.take_succ_cons, show n + 1 + sep.length = (n + sep.length) + 1 from by omega, List.drop_succ_cons]
theorem cut_len (l sep : List UInt8) (hs : sep ≠ []) : (cut l sep).1.length ≤ l.length ∧ (cut l sep).2.1.length ≤ l.length := by
  induction l with
  | nil => rw [cut_nil sep hs]; simp
  | cons b l ih =>
    cases h : sep.isPrefixOf (b :: l) with
    | true => rw [cut_hit b l sep h]; simp
    | false => rw [cut_miss b l sep h]; simp only [List.length_cons]; omega
/-- up to the first one, and from it on -/
theorem cut_one (c : UInt8) (l : List UInt8) : cut l [c] = (l.takeWhile (fun b => !(b == c)), (l.dropWhile (fun b => !(b == c))).drop 1, l.any (fun b => b == c)) := by
  induction l with
  | nil => exact cut_nil [c] (by simp)
  | cons b l ih =>
    by_cases h : b = c
    · subst h
      rw [cut_hit b l [b] (by simp [List.isPrefixOf])]
      simp [List.takeWhile_cons, List.dropWhile_cons]
    · have h2 : (b == c) = false := by simpa using h
      rw [cut_miss b l [c] (by simp only [List.isPrefixOf, Bool.and_true]; simpa using fun e => h e.symm), ih]
      simp [List.takeWhile_cons, List.dropWhile_cons, h2]
end Go.Proofs.YtcdhpknjinonhaaDoor.CutL
/- glyph.Fold: what the printed function tells. -/
namespace Go.Proofs.YtcdhpknjinonhaaDoor.Glyph
open Go.RowKit Go.Proofs.YtcdhpknjinonhaaDoor.X Go.Proofs.YtcdhpknjinonhaaDoorW.PrintWords Go.Proofs.YtcdhpknjinonhaaDoorW.PrintLast Go.Proofs.YtcdhpknjinonhaaDoorW.PrintMore Go.Proofs.YtcdhpknjinonhaaDoor.Aid
set_option linter.unusedVariables false
set_option linter.unusedSimpArgs false
def low (c : UInt8) : UInt8 := if 65 ≤ c.toNat ∧ c.toNat ≤ 90 then UInt8.ofNat (c.toNat + 32) else c
theorem low_eq (c : UInt8) : glyph_low (c.toNat : Int) = ((low c).toNat : Int) := by
  unfold glyph_low low
  have := UInt8.toNat_lt c
  by_cases h1 : 65 ≤ c.toNat
  · rw [if_pos (by omega)]
    by_cases h2 : c.toNat ≤ 90
    · rw [if_pos (by omega), if_pos ⟨h1, h2⟩]
      have : (UInt8.ofNat (c.toNat + 32)).toNat = c.toNat + 32 := by simp; omega
      rw [this]
      omega
    · rw [if_neg (by omega), if_neg (by omega)]
  · rw [if_neg (by omega), if_neg (by omega)]
theorem fold_l0 (s : ByteArray) (hs : (L s).length ≤ 1000000000) (d : Nat) : ∀ (i : Nat) (acc : List UInt8), i ≤ (L s).length → (L s).length - i = d → acc.length = i →
    Ev (fun k => glyph_Fold.l0 k s (acc.map (fun c => (c.toNat : Int))) i) (S (acc ++ ((L s).drop i).map low)) := by
  induction d with
  | zero =>
    intro i acc hi hd _
    refine up ?_
    simp only [glyph_Fold.l0]
    refine neg (by rw [sz]; omega) (now' ?_)
    rw [nums_eq, List.map_map, List.drop_eq_nil_of_le (by omega)]
    congr 1
    rw [show ((fun x : Int => UInt8.ofNat x.toNat) ∘ fun c : UInt8 => (c.toNat : Int)) = id from by funext c; simp]
    simp
  | succ d ih =>
    intro i acc hi hd ha
    have hil : i < (L s).length := by omega
    refine up ?_
    simp only [glyph_Fold.l0]
    refine pos (by rw [sz]; omega) (pos (by rw [List.length_map]; omega) ?_)
    rw [btn s i hil, low_eq]
    have := ih (i + 1) (acc ++ [low (L s)[i]]) (by omega) (by omega) (by simp; omega)
    rw [List.map_append, List.append_assoc] at this
    rw [List.drop_eq_getElem_cons hil, List.map_cons]
    exact this
def foldL (l : List UInt8) : List UInt8 := l.map low
theorem fold_ev (s : ByteArray) (hs : (L s).length ≤ 1000000000) : Ev (fun k => glyph_Fold.f k s) (S (foldL (L s))) := by
  have := fold_l0 s hs (L s).length 0 [] (by omega) (by omega) rfl
  rw [List.drop_zero, List.nil_append] at this
  exact this
end Go.Proofs.YtcdhpknjinonhaaDoor.Glyph
/- A number's digits: the reference's printed functions Digits and Number tell what strconv.Itoa tells. -/
namespace Go.Proofs.YtcdhpknjinonhaaDoor.Digits
open Go.RowKit Go.Proofs.YtcdhpknjinonhaaDoor.X Go.Proofs.YtcdhpknjinonhaaDoorW.PrintWords Go.Proofs.YtcdhpknjinonhaaDoorW.PrintLast Go.Proofs.YtcdhpknjinonhaaDoorW.PrintMore Go.Proofs.YtcdhpknjinonhaaDoor.Aid
open Go.Lib (decDigits itoa)
set_option linter.unusedVariables false
set_option linter.unusedSimpArgs false
def B (n : Nat) : UInt8 := UInt8.ofNat n
theorem dd_small {n : Nat} (h : n < 10) : decDigits n = [B (48 + n)] := by rw [decDigits, dif_pos h]; rfl
theorem dd_big {n : Nat} (h : ¬ n < 10) : decDigits n = decDigits (n / 10) ++ [B (48 + n % 10)] := by rw [decDigits, dif_neg h]; rfl
theorem numB (d : Nat) (h : d < 10) : strOfNums ([(wrap64 (48 + ((d : Nat) : Int))) % 256] : List Int) = S [B (48 + d)] := by
  rw [nums_eq]
  congr 1
  rw [List.map_cons, List.map_nil, w64 (by omega) (by omega)]
  congr 2
  omega
theorem refdig_l0 (d : Nat) : ∀ (n j : Nat) (acc : List UInt8), n < 10 ^ d → n ≤ 9223372036854775807 → j + d ≤ 20 → j + acc.length ≤ 60 → (j = 0 → 1 ≤ d) → acc.length = j →
    Ev (fun k => bulletinref01_Digits.l0 k (n : Int) (S acc) (j : Int)) (S ((if n = 0 ∧ 0 < j then [] else decDigits n) ++ acc)) := by
  induction d with
  | zero =>
    intro n j acc hn _ hj _ h0 hl
    have hn0 : n = 0 := by simpa using hn
    subst hn0
    have hj0 : 0 < j := by
      rcases Nat.eq_zero_or_pos j with h | h
      · exact absurd (h0 h) (by omega)
      · exact h
    refine up ?_
    simp only [bulletinref01_Digits.l0]
    refine neg (by omega) (neg (by omega) (now' ?_))
    rw [if_pos ⟨trivial, hj0⟩, List.nil_append]
  | succ d ih =>
    intro n j acc hn hnm hj hq h0 hl
    have hstep : Ev (fun k => (some (([(wrap64 (48 + (Int.tmod (n : Int) 10))) % 256] : List Int) : List Int)).bind fun y => (if (strOfNums y).size + (S acc).size ≤ 9223372036854775807 then (bulletinref01_Digits.l0 k (wrap64 (Int.tdiv (n : Int) 10)) ((strOfNums y) ++ S acc) (wrap64 ((j : Int) + 1))) else (none))) (S (decDigits n ++ acc)) := by
      have e1 : wrap64 (Int.tdiv (n : Int) 10) = ((n / 10 : Nat) : Int) := by
        rw [Int.tdiv_eq_ediv_of_nonneg (by omega), w64 (by omega) (by omega)]
        rfl
      have e2 : Int.tmod (n : Int) 10 = ((n % 10 : Nat) : Int) := by
        rw [Int.tmod_eq_emod_of_nonneg (by omega)]
        rfl
      have e3 : wrap64 ((j : Int) + 1) = ((j + 1 : Nat) : Int) := by rw [w64 (by omega) (by omega)]; rfl
      simp only [e1, e2, e3]
      refine sbind ?_
      rw [numB _ (by omega)]
      have z1 : (S [B (48 + n % 10)]).size = 1 := rfl
      have z2 : (S acc).size = acc.length := by rw [sz, L_S]
      refine pos (by rw [z1, z2]; omega) ?_
      rw [S_app]
      have hn' : n / 10 < 10 ^ d := by rw [Nat.pow_succ] at hn; omega
      have := ih (n / 10) (j + 1) ([B (48 + n % 10)] ++ acc) hn' (by omega) (by omega) (by simp; omega) (by omega) (by simp; omega)
      refine cast (congrArg _ ?_) this
      congr 1
      by_cases h : n < 10
      · rw [if_pos ⟨by omega, by omega⟩, dd_small h, show n % 10 = n from by omega]
        simp
      · rw [if_neg (by omega), dd_big h]
        simp
    refine up ?_
    simp only [bulletinref01_Digits.l0]
    by_cases hj0 : j = 0
    · rw [if_neg (by omega)]
      exact pos (by omega) hstep
    · by_cases hn0 : n = 0
      · rw [if_pos ⟨hn0, by omega⟩]
        exact neg (by omega) (neg (by omega) (now' (by simp)))
      · rw [if_neg (by omega)]
        exact neg (by omega) (pos (by omega) (pos (by omega) hstep))
theorem refdigits_ev (n : Nat) (hn : n ≤ 9223372036854775807) : Ev (fun k => bulletinref01_Digits.f k (n : Int)) (S (decDigits n)) := by
  unfold bulletinref01_Digits.f
  have hb : n < 10 ^ 20 := Nat.lt_of_le_of_lt hn (by decide)
  have := refdig_l0 20 n 0 [] hb hn (by omega) (by simp) (by omega) rfl
  rw [if_neg (by omega), List.append_nil] at this
  exact this
theorem number_ev (a : Int) (h0 : -9223372036854775808 ≤ a) (h1 : a ≤ 9223372036854775807) : Ev (fun k => bulletinref07_Number.f k a) (S (itoa a)) := by
  unfold bulletinref07_Number.f
  by_cases hp : a ≥ 0
  · obtain ⟨n, rfl⟩ : ∃ n : Nat, a = n := ⟨a.toNat, by omega⟩
    refine pos hp (Ev.bind (refdigits_ev n (by omega)) (now' ?_))
    unfold itoa
    rw [if_neg (by omega), Int.toNat_natCast]
  · obtain ⟨u, hu⟩ : ∃ u : Nat, a = -(u : Int) := ⟨a.natAbs, by omega⟩
    subst hu
    have e1 : wrap64 (-(Int.tmod (-(u : Int)) 10)) = ((u % 10 : Nat) : Int) := by
      rw [Int.neg_tmod, Int.tmod_eq_emod_of_nonneg (by omega), Int.neg_neg, w64 (by omega) (by omega)]
      rfl
    have e2 : wrap64 (-(wrap64 (Int.tdiv (-(u : Int)) 10))) = ((u / 10 : Nat) : Int) := by
      rw [Int.neg_tdiv, Int.tdiv_eq_ediv_of_nonneg (by omega), w64 (x := -((u : Int) / 10)) (by omega) (by omega), Int.neg_neg, w64 (by omega) (by omega)]
      rfl
    have ei : itoa (-(u : Int)) = 45 :: decDigits u := by
      unfold itoa
      rw [if_pos (by omega), show (-(u : Int)).natAbs = u from by omega]
    have ds : decDigits (u % 10) = [B (48 + u % 10)] := dd_small (by omega)
    have hl : (S (decDigits (u % 10))).size = 1 := by rw [ds]; rfl
    have e45 : (⟨#[45]⟩ : ByteArray) = S [45] := rfl
    rw [e1, e2, ei]
    refine neg hp (Ev.bind (refdigits_ev (u % 10) (by omega)) ?_)
    by_cases hb : u < 10
    · refine neg (by omega) (pos (by rw [hl]; decide) (now' ?_))
      rw [e45, S_app, show u % 10 = u from by omega]
      rfl
    · have hlen : (decDigits (u / 10)).length ≤ 30 := by
        have : ∀ d n, n < 10 ^ (d + 1) → (decDigits n).length ≤ d + 1 := by
          intro d
          induction d with
          | zero => intro n hn; rw [dd_small (by simpa using hn)]; simp
          | succ d ih =>
            intro n hn
            by_cases h : n < 10
            · rw [dd_small h]; simp
            · rw [dd_big h, List.length_append]
              have := ih (n / 10) (by rw [Nat.pow_succ] at hn; omega)
              simp
              omega
        have := this 19 (u / 10) (Nat.lt_of_le_of_lt (show u / 10 ≤ 922337203685477580 by omega) (by decide))
        omega
      have hl2 : (S (decDigits (u / 10))).size ≤ 30 := by rw [sz, L_S]; exact hlen
      refine pos (by omega) (Ev.bind (refdigits_ev (u / 10) (by omega)) (pos (by rw [hl]; omega) ?_))
      rw [S_app]
      have hl3 : (S (decDigits (u / 10) ++ decDigits (u % 10))).size ≤ 31 := by rw [sz, L_S, List.length_append, ds]; simp; omega
      refine pos (by omega) (now' ?_)
      rw [e45, S_app, dd_big hb, ds]
      rfl
end Go.Proofs.YtcdhpknjinonhaaDoor.Digits
/- token: what a token is, as a list of bytes; what its printed parts tell. -/
namespace Go.Proofs.YtcdhpknjinonhaaDoor.Tok
open Go.RowKit Go.Proofs.YtcdhpknjinonhaaDoor.X Go.Proofs.YtcdhpknjinonhaaDoorW.PrintWords Go.Proofs.YtcdhpknjinonhaaDoorW.PrintLast Go.Proofs.YtcdhpknjinonhaaDoorW.PrintMore Go.Proofs.YtcdhpknjinonhaaDoor.Aid
open Go.Lib (decDigits itoa)
open Go.Proofs.YtcdhpknjinonhaaDoor.Code (sg signs w5 wb wrB to32B)
open Go.Proofs.YtcdhpknjinonhaaDoor.Mac (macB macB_len)
open Go.Proofs.YtcdhpknjinonhaaDoor.Nets (rowL digL isD val digL_all val_digL digL_len digL_ne)
open Go.Proofs.YtcdhpknjinonhaaDoor.Glyph (low foldL)
set_option linter.unusedVariables false
set_option linter.unusedSimpArgs false
/-! ### the seal: 16 signs -/
theorem sg_mem (k : Nat) (h : k < 32) : sg k ∈ signs := by
  unfold sg
  rw [List.getD_eq_getElem?_getD, List.getElem?_eq_getElem (show k < signs.length from h)]
  exact List.getElem_mem _
theorem w5_mem : ∀ k x, Code.Ok x → (∀ c ∈ x.1, c ∈ signs) → ∀ c ∈ (w5 k x).1, c ∈ signs
  | 0, x, _, h => h
  | k + 1, x, ho, h => by
    rw [w5]
    split
    · exact h
    · rename_i h5
      refine w5_mem k _ (Nat.mod_lt _ (Nat.two_pow_pos _)) ?_
      intro c hc
      rcases List.mem_append.1 hc with hc | hc
      · exact h c hc
      · rw [List.mem_singleton.1 hc]
        refine sg_mem _ ?_
        rw [Nat.div_lt_iff_lt_mul (Nat.two_pow_pos _)]
        unfold Code.Ok at ho
        have e : x.2.2 = (x.2.2 - 5) + 5 := by omega
        rw [e, Nat.pow_add] at ho
        omega
theorem w5_count : ∀ k x, 5 * (w5 k x).1.length + (w5 k x).2.2 = 5 * x.1.length + x.2.2
  | 0, x => rfl
  | k + 1, x => by
    rw [w5]
    split
    · rfl
    · rw [w5_count k]
      simp only [List.length_append, List.length_singleton]
      omega
theorem wrB_count (r : List UInt8) : 5 * (wrB r.reverse).1.length + (wrB r.reverse).2.2 = 8 * r.length ∧ ∀ c ∈ (wrB r.reverse).1, c ∈ signs := by
  induction r with
  | nil => simp [wrB]
  | cons c r ih =>
    rw [List.reverse_cons, Code.wrB_snoc]
    have ho := Code.wrB_ok r.reverse
    refine ⟨?_, ?_⟩
    · have := w5_count 3 ((wrB r.reverse).1, (wrB r.reverse).2.1 * 256 + c.toNat, (wrB r.reverse).2.2 + 8)
      have e : wb (wrB r.reverse) c = w5 3 ((wrB r.reverse).1, (wrB r.reverse).2.1 * 256 + c.toNat, (wrB r.reverse).2.2 + 8) := rfl
      rw [← e] at this
      simp only at this
      rw [List.length_cons]
      omega
    · refine w5_mem 3 _ ?_ ih.2
      have hc := c.toNat_lt
      have := ho.1
      unfold Code.Ok at this ⊢
      simp only
      rw [Nat.pow_add]
      omega
theorem seal_ok (l : List UInt8) (h : l.length = 10) : (to32B l).length = 16 ∧ ∀ c ∈ to32B l, c ∈ signs := by
  have h1 := wrB_count l.reverse
  have h2 := Code.wrB_ok l
  rw [List.reverse_reverse, List.length_reverse, h] at h1
  have hn : ¬ 0 < (wrB l).2.2 := by omega
  unfold to32B
  rw [if_neg hn]
  exact ⟨by omega, h1.2⟩
/-! ### a token -/
def summed (key : ByteArray) (n : Int) (a l o : ByteArray) : List UInt8 := macB (L key) (rowL [L a, L l, L o, itoa n])
def sealL (key : ByteArray) (n : Int) (a l o : ByteArray) : List UInt8 := to32B ((summed key n a l o).take 10)
def makeL (key : ByteArray) (n : Int) (a l o : ByteArray) : List UInt8 := itoa n ++ [46] ++ sealL key n a l o
theorem sealL_ok (key : ByteArray) (n : Int) (a l o : ByteArray) : (sealL key n a l o).length = 16 ∧ ∀ c ∈ sealL key n a l o, c ∈ signs :=
  seal_ok _ (by unfold summed; rw [List.length_take, macB_len]; rfl)
theorem dd_digL (n : Nat) : decDigits n = digL n := by
  by_cases h : n < 10
  · rw [decDigits, dif_pos h, digL, if_pos h]
  · rw [decDigits, dif_neg h, digL, if_neg h, dd_digL (n / 10)]
theorem itoa_pos (n : Nat) : itoa (n : Int) = digL n := by
  unfold itoa
  rw [if_neg (by omega), Int.toNat_natCast, dd_digL]
theorem itoa_neg (n : Int) (h : n < 0) : itoa n = 45 :: digL n.natAbs := by
  unfold itoa
  rw [if_pos h, dd_digL]
theorem isD_ne (c d : UInt8) (h : isD c = true) (hd : isD d = false) : c ≠ d := fun e => by rw [e, hd] at h; cases h
theorem itoa_chars (n : Int) : ∀ c ∈ itoa n, isD c = true ∨ c = 45 := by
  rcases Int.lt_or_le n 0 with h | h
  · rw [itoa_neg n h]
    intro c hc
    rcases List.mem_cons.1 hc with e | hc
    · exact .inr e
    · exact .inl (digL_all _ c hc)
  · obtain ⟨m, rfl⟩ : ∃ m : Nat, n = m := ⟨n.toNat, by omega⟩
    rw [itoa_pos]
    exact fun c hc => .inl (digL_all _ c hc)
theorem itoa_len (n : Int) (h0 : -9223372036854775808 ≤ n) (h1 : n ≤ 9223372036854775807) : (itoa n).length ≤ 20 := by
  rcases Int.lt_or_le n 0 with h | h
  · rw [itoa_neg n h]
    have := digL_len 19 n.natAbs (by omega) (by omega)
    simp only [List.length_cons]
    omega
  · obtain ⟨m, rfl⟩ : ∃ m : Nat, n = m := ⟨n.toNat, by omega⟩
    rw [itoa_pos]
    have := digL_len 19 m (by omega) (by omega)
    omega
theorem itoa_ne (n : Int) : itoa n ≠ [] := by
  rcases Int.lt_or_le n 0 with h | h
  · rw [itoa_neg n h]; simp
  · obtain ⟨m, rfl⟩ : ∃ m : Nat, n = m := ⟨n.toNat, by omega⟩
    rw [itoa_pos]; exact digL_ne m
theorem itoa_inj (n m : Int) (h : itoa n = itoa m) : n = m := by
  have h45 : isD 45 = false := rfl
  rcases Int.lt_or_le n 0 with hn | hn <;> rcases Int.lt_or_le m 0 with hm | hm
  · rw [itoa_neg n hn, itoa_neg m hm] at h
    have := congrArg val (List.cons.inj h).2
    rw [val_digL, val_digL] at this
    omega
  · obtain ⟨q, rfl⟩ : ∃ q : Nat, m = q := ⟨m.toNat, by omega⟩
    rw [itoa_neg n hn, itoa_pos] at h
    have := digL_all q 45 (by rw [← h]; simp)
    rw [h45] at this; cases this
  · obtain ⟨q, rfl⟩ : ∃ q : Nat, n = q := ⟨n.toNat, by omega⟩
    rw [itoa_neg m hm, itoa_pos] at h
    have := digL_all q 45 (by rw [h]; simp)
    rw [h45] at this; cases this
  · obtain ⟨q, rfl⟩ : ∃ q : Nat, n = q := ⟨n.toNat, by omega⟩
    obtain ⟨r, rfl⟩ : ∃ r : Nat, m = r := ⟨m.toNat, by omega⟩
    rw [itoa_pos, itoa_pos] at h
    have := congrArg val h
    rw [val_digL, val_digL] at this
    omega
/-! ### capital letters, and small ones -/
def up1 (c : UInt8) : UInt8 := if 97 ≤ c.toNat ∧ c.toNat ≤ 122 then UInt8.ofNat (c.toNat - 32) else c
def upL (l : List UInt8) : List UInt8 := l.map up1
theorem up_low (c : UInt8) : up1 (low c) = up1 c := by
  revert c
  exact all8 (P := fun c => up1 (low c) = up1 c) (by decide +kernel)
theorem upL_fold (l : List UInt8) : upL (foldL l) = upL l := by
  unfold upL foldL
  rw [List.map_map]
  congr 1
  funext c
  exact up_low c
theorem low_up_sign : ∀ c ∈ signs, low (up1 c) = c ∧ low c = c := by decide +kernel
theorem low_up_dig (c : UInt8) : isD c = true → low (up1 c) = c ∧ low c = c := by
  revert c
  exact all8 (P := fun c => isD c = true → low (up1 c) = c ∧ low c = c) (by decide +kernel)
theorem makeL_chars (key : ByteArray) (n : Int) (a l o : ByteArray) : ∀ c ∈ makeL key n a l o, low (up1 c) = c ∧ low c = c := by
  intro c hc
  unfold makeL at hc
  rcases List.mem_append.1 hc with hc | hc
  · rcases List.mem_append.1 hc with hc | hc
    · rcases itoa_chars n c hc with h | h
      · exact low_up_dig c h
      · rw [h]; decide
    · rw [List.mem_singleton.1 hc]; decide
  · exact low_up_sign c ((sealL_ok key n a l o).2 c hc)
theorem fold_up_make (key : ByteArray) (n : Int) (a l o : ByteArray) : foldL (upL (makeL key n a l o)) = makeL key n a l o := by
  unfold foldL upL
  rw [List.map_map]
  conv => rhs; rw [← List.map_id (makeL key n a l o)]
  exact List.map_congr_left fun c hc => (makeL_chars key n a l o c hc).1
theorem fold_make (key : ByteArray) (n : Int) (a l o : ByteArray) : foldL (makeL key n a l o) = makeL key n a l o := by
  unfold foldL
  conv => rhs; rw [← List.map_id (makeL key n a l o)]
  exact List.map_congr_left fun c hc => (makeL_chars key n a l o c hc).2
theorem foldL_len (l : List UInt8) : (foldL l).length = l.length := by simp [foldL]
theorem makeL_len (key : ByteArray) (n : Int) (a l o : ByteArray) : (makeL key n a l o).length = (itoa n).length + 17 := by
  unfold makeL
  simp only [List.length_append, List.length_singleton, (sealL_ok key n a l o).1]
/-- whatever is told apart by its number is another token -/
theorem make_other (key : ByteArray) (n m : Int) (a l o : ByteArray) (h : makeL key n a l o = makeL key m a l o) : n = m := by
  unfold makeL at h
  have hl : (itoa n ++ [46]).length = (itoa m ++ [46]).length := by
    have := congrArg List.length h
    simp only [List.length_append, (sealL_ok key n a l o).1, (sealL_ok key m a l o).1] at this ⊢
    omega
  have := List.append_inj_left h hl
  exact itoa_inj n m (List.append_inj_left this (by simp only [List.length_append] at hl; omega))
end Go.Proofs.YtcdhpknjinonhaaDoor.Tok
/- token: Make, Fits, walked. -/
namespace Go.Proofs.YtcdhpknjinonhaaDoor.Tok
open Go.RowKit Go.Proofs.YtcdhpknjinonhaaDoor.Mem Go.Proofs.YtcdhpknjinonhaaDoor.X Go.Proofs.YtcdhpknjinonhaaDoorW.PrintWords Go.Proofs.YtcdhpknjinonhaaDoorW.PrintLast Go.Proofs.YtcdhpknjinonhaaDoorW.PrintMore Go.Proofs.YtcdhpknjinonhaaDoor.Aid
open Go.Lib (decDigits itoa)
open Go.Proofs.YtcdhpknjinonhaaDoor.Code (sg signs w5 wb wrB to32B to32_calls)
open Go.Proofs.YtcdhpknjinonhaaDoor.Mac (macB macB_len short_calls shortB same_calls)
open Go.Proofs.YtcdhpknjinonhaaDoor.Nets (rowL digL isD val digL_all val_digL digL_len digL_ne row_ev)
open Go.Proofs.YtcdhpknjinonhaaDoor.Glyph (low foldL fold_ev)
set_option linter.unusedVariables false
set_option linter.unusedSimpArgs false
/-- what the laid variables hold -/
structure Both (w : World) : Prop where
  x : X.Tabs w
  s : Sha.Tabs w
theorem Both.below {w w' : World} (h : Both w) (hb : Below w.heap.size w w') : Both w' := ⟨h.x.below hb, h.s.below hb⟩
/-- a list of strings in a block -/
theorem strs_blk {w : World} {g : Nat} {t : TypeId} (l : List ByteArray) (hb : Blk w g t (l.map Value.string).toArray) (hl : l.length ≤ 1000) : Kd.C Kd.string w (some ⟨g, 0, none⟩) l.length l :=
  Kd.C_of_reads (d := ByteArray.empty) (h1 := fun _ => rfl) ⟨rfl, by have := hb.lt; omega, fun h => ⟨⟨g, 0, none⟩, rfl, fun i hi => by
    have hadd : (⟨g, 0, none⟩ : Addr).add i = ⟨g, i, none⟩ := by unfold Addr.add; split <;> simp_all
    rw [hadd, hb.cell i]
    simp [hi, List.getD_eq_getElem?_getD]⟩⟩
/-- a ticket -/
def tv (n : Int) (a l o : ByteArray) : Value := .agg #[.int .i64 n, .string a, .string l, .string o]
/-- is a ticket not too much? -/
structure Lt (n : Int) (a l o : ByteArray) : Prop where
  n0 : -9223372036854775808 ≤ n
  n1 : n ≤ 9223372036854775807
  a : a.size ≤ 100
  l : l.size ≤ 100
  o : o.size ≤ 300
set_option maxHeartbeats 4000000 in
set_option maxRecDepth 100000 in
theorem make_calls (w : World) (hT : Both w) (key : ByteArray) (n : Int) (a l o : ByteArray) (hk : key.size ≤ 1000) (hl : Lt n a l o) :
    Calls Tryd.prog 8 #[.string key, tv n a l o] w fun e w' => e = .returned (.string (S (makeL key n a l o))) ∧ Below w.heap.size w w' := by
  obtain ⟨n0, n1, ha, hll, ho⟩ := hl
  unfold tv
  have hB := Blk.new w 27 #[.int .i64 n, .string a, .string l, .string o]
  have b1 : Below w.heap.size w (w.alloc (.cells #[.int .i64 n, .string a, .string l, .string o] 27)) := (Below.refl _ w).alloc (Nat.le_refl _) _
  go_enter Tryd.func8, Tryd.ntmps8
  go_wp2_with fail
  refine (strconv_Itoa.calls n (S (itoa n)) _ ⟨(hT.below b1).x⟩ (by unfold strconv_Itoa.f; rw [if_pos ⟨n0, n1⟩]; rfl)).mono ?_
  rintro e w2 ⟨rfl, c2⟩
  have b2 := b1.trans (c2.mono b1.size)
  have hB2 := hB.below c2
  obtain ⟨g, hg⟩ : ∃ x, w.heap.size = x := ⟨_, rfl⟩
  simp only [hg] at hB2
  obtain ⟨d, hd⟩ : ∃ x, S (itoa n) = x := ⟨_, rfl⟩
  have hdz : d.size ≤ 20 := by rw [← hd, sz, L_S]; exact itoa_len n n0 n1
  have hdL : L d = itoa n := by rw [← hd, L_S]
  have c1 := hB2.cell 1
  have c2' := hB2.cell 2
  have c3 := hB2.cell 3
  simp only [hd]
  have HD := Lib.hid hdL
  clear hd hB hdL
  simp only [hg]
  go_wp2_with fail
  have hR := Blk.new w2 9 #[.string a, .string l, .string o, .string d]
  have b3 := b2.alloc b2.size (.cells #[.string a, .string l, .string o, .string d] 9)
  obtain ⟨q, hq⟩ := Ev.rounds (row_ev [a, l, o, d] 300 (by
    intro x hx
    simp only [List.mem_cons, List.not_mem_nil, or_false] at hx
    rcases hx with rfl | rfl | rfl | rfl <;> omega) (by omega) (by simp))
  refine (nets_Row.calls q (some ⟨w2.heap.size, 0, none⟩) 4 [a, l, o, d] _ _ (strs_blk [a, l, o, d] hR (by simp)) (by simp) hq).mono ?_
  rintro e w4 ⟨rfl, c4⟩
  have b4 := b3.trans (c4.mono b3.size)
  obtain ⟨s, hs⟩ : ∃ s, S (rowL ([a, l, o, d].map L)) = s := ⟨_, rfl⟩
  have hsL : L s = rowL [L a, L l, L o, itoa n] := by rw [← hs, L_S]; simp only [List.map_cons, List.map_nil, HD.out]
  have hsz : s.size ≤ 100000 := by
    rw [sz, hsL]
    simp only [rowL, Nets.putL, List.length_append, List.length_cons, List.length_nil]
    have k1 := digL_len 9 (L a).length (by omega) (by rw [← sz]; omega)
    have k2 := digL_len 9 (L l).length (by omega) (by rw [← sz]; omega)
    have k3 := digL_len 9 (L o).length (by omega) (by rw [← sz]; omega)
    have k0 := itoa_len n n0 n1
    have k4 := digL_len 9 (itoa n).length (by omega) (by omega)
    have s1 := sz a
    have s2 := sz l
    have s3 := sz o
    omega
  simp only [hs]
  clear hs hR hB2 c1 c2' c3 hq c4
  go_wp2_with fail
  refine (short_calls w4 (hT.below b4).s key s 10 (by omega) (by omega)).mono ?_
  rintro e w5 ⟨rfl, c5⟩
  have b5 := b4.trans (c5.mono b4.size)
  have hsb : shortB (L key) (L s) 10 = (S ((macB (L key) (L s)).take 10), 0) := rfl
  rw [hsb]
  obtain ⟨p, hp⟩ : ∃ p, S ((macB (L key) (L s)).take 10) = p := ⟨_, rfl⟩
  have hpL : L p = (summed key n a l o).take 10 := by rw [← hp, L_S]; unfold summed; rw [hsL]
  have hpz : p.size = 10 := by rw [← hp, sz, L_S, List.length_take, macB_len]; rfl
  simp only [hp]
  clear hp hsb hsz hsL c5
  have hdz2 : (d.size : Int) + 1 ≤ 9223372036854775807 := by omega
  go_wp2_with fail
  refine (to32_calls w5 p (by omega)).mono ?_
  rintro e w6 ⟨rfl, c6⟩
  have b6 := b5.trans (c6.mono b5.size)
  obtain ⟨u, hu⟩ : ∃ u, S (to32B (L p)) = u := ⟨_, rfl⟩
  have huL : L u = sealL key n a l o := by rw [← hu, L_S, hpL]; rfl
  have huz : u.size = 16 := by rw [sz, huL]; exact (sealL_ok key n a l o).1
  obtain ⟨v, hv⟩ : ∃ v, d ++ (⟨#[46]⟩ : ByteArray) = v := ⟨_, rfl⟩
  have hvz : v.size ≤ 21 := by rw [← hv, ByteArray.size_append]; show d.size + 1 ≤ 21; omega
  have hvL : L v = itoa n ++ [46] := by rw [← hv, L_app, HD.out]; rfl
  simp only [hu, hv]
  have hdz3 : (v.size : Int) + u.size ≤ 9223372036854775807 := by omega
  clear hu hv hpL
  go_wp2
  go_ret
  refine ⟨?_, b6⟩
  show Ending.returned (.string (v ++ u)) = _
  have : v ++ u = S (makeL key n a l o) := by
    apply L_inj
    rw [L_app, L_S, hvL, huL]
    rfl
  rw [this]
def fitsL (key : ByteArray) (n : Int) (a l o s : ByteArray) : Bool := decide (makeL key n a l o = foldL (L s))
set_option maxHeartbeats 4000000 in
set_option maxRecDepth 100000 in
theorem fits_calls (w : World) (hT : Both w) (key : ByteArray) (n : Int) (a l o s : ByteArray) (hk : key.size ≤ 1000) (hl : Lt n a l o) (hs : s.size ≤ 100000) :
    Calls Tryd.prog 11 #[.string key, tv n a l o, .string s] w fun e w' => e = .returned (.bool (fitsL key n a l o s)) ∧ Below w.heap.size w w' := by
  have hm := fun w h => make_calls w h key n a l o hk hl
  unfold tv at hm ⊢
  have hB := Blk.new w 27 #[.int .i64 n, .string a, .string l, .string o]
  have b1 : Below w.heap.size w (w.alloc (.cells #[.int .i64 n, .string a, .string l, .string o] 27)) := (Below.refl _ w).alloc (Nat.le_refl _) _
  go_enter Tryd.func11, Tryd.ntmps11
  go_wp2_with fail
  refine (hm _ (hT.below b1)).mono ?_
  rintro e w2 ⟨rfl, c2⟩
  have b2 := b1.trans (c2.mono b1.size)
  obtain ⟨m, hmm⟩ : ∃ x, S (makeL key n a l o) = x := ⟨_, rfl⟩
  have hmL : L m = makeL key n a l o := by rw [← hmm, L_S]
  have hil := itoa_len n hl.n0 hl.n1
  have hmz : m.size ≤ 4611686018427387903 := by rw [sz, hmL, makeL_len]; omega
  simp only [hmm]
  clear hmm hm c2 hB
  obtain ⟨k, hk2⟩ := Ev.rounds (fold_ev s (by rw [← sz]; omega))
  go_wp2_with fail
  refine (glyph_Fold.calls k s _ w2 hk2).mono ?_
  rintro e w3 ⟨rfl, c3⟩
  have b3 := b2.trans (c3.mono b2.size)
  go_wp2_with fail
  refine (same_calls w3 m (S (foldL (L s))) hmz).mono ?_
  rintro e w4 ⟨rfl, c4⟩
  have b4 := b3.trans (c4.mono b3.size)
  go_wp2
  go_ret
  refine ⟨?_, b4⟩
  show Ending.returned (.bool (decide (m = S (foldL (L s))))) = _
  unfold fitsL
  congr 2
  rw [decide_eq_decide, ← hmL]
  constructor
  · intro h; rw [h, L_S]
  · intro h; apply L_inj; rw [h, L_S]
end Go.Proofs.YtcdhpknjinonhaaDoor.Tok
/- token: what Read tells of a token. -/
namespace Go.Proofs.YtcdhpknjinonhaaDoor.Tok
open Go.RowKit Go.Proofs.YtcdhpknjinonhaaDoor.X Go.Proofs.YtcdhpknjinonhaaDoorW.PrintWords Go.Proofs.YtcdhpknjinonhaaDoorW.PrintLast Go.Proofs.YtcdhpknjinonhaaDoorW.PrintMore Go.Proofs.YtcdhpknjinonhaaDoor.Aid
open Go.Lib (decDigits itoa cut)
open Go.Proofs.YtcdhpknjinonhaaDoor.Code (sg signs w5 wb wrB to32B)
open Go.Proofs.YtcdhpknjinonhaaDoor.Mac (macB macB_len)
open Go.Proofs.YtcdhpknjinonhaaDoor.Nets (rowL digL isD isD_iff val val_snoc digL_all val_digL digL_len digL_ne val_lt)
open Go.Proofs.YtcdhpknjinonhaaDoor.Glyph (low foldL fold_ev)
set_option linter.unusedVariables false
set_option linter.unusedSimpArgs false
def numR (n : Int) : Int × Bool := if 0 ≤ n ∧ n ≤ 1099511627776 then (n, true) else (0, false)
theorem sub48 (c : UInt8) (h : isD c = true) : ((c.toNat : Int) - 48) % 256 = ((c.toNat - 48 : Nat) : Int) := by
  obtain ⟨h1, h2⟩ := (isD_iff c).1 h
  omega
theorem number_l0 (m : Nat) (hm : m ≤ 9223372036854775807) : ∀ (r i : Nat), i + r = (digL m).length → i ≤ 13 →
    Ev (fun k => token_number.l0 k (S (digL m)) (val ((digL m).take i) : Int) ((digL m).length : Int) (i : Int)) (numR (m : Int))
  | 0, i, h, h13 => by
    refine up (neg (by omega) ?_)
    have hall : (digL m).take i = digL m := List.take_of_length_le (by omega)
    rw [hall, val_digL]
    by_cases hb : (m : Int) > 1099511627776
    · refine pos hb (now' ?_)
      unfold numR
      rw [if_neg (by omega)]
    · refine neg hb (cbind (a := S (itoa (m : Int))) (by unfold strconv_Itoa.f; rw [if_pos ⟨by omega, by omega⟩]; rfl) (pos ?_ (now' ?_)))
      · rw [itoa_pos]
      · unfold numR
        rw [if_pos ⟨by omega, by omega⟩]
  | r + 1, i, h, h13 => by
    have hi : i < (digL m).length := by omega
    have hc := digL_all m ((digL m)[i]) (List.getElem_mem hi)
    obtain ⟨c1, c2⟩ := (isD_iff _).1 hc
    have hz : (S (digL m)).size = (digL m).length := by rw [sz, L_S]
    have hbt : bt (S (digL m)) (i : Int) = (((digL m)[i]).toNat : Int) := by
      have := btn (S (digL m)) i (by rw [L_S]; exact hi)
      rw [this]
      simp only [L_S]
    refine up (pos (by omega) (pos (by omega) (pos (by rw [hz]; omega) ?_)))
    rw [hbt]
    refine neg (by omega) (neg (by omega) ?_)
    by_cases he : i = 13
    · subst he
      refine pos (by omega) (now' ?_)
      unfold numR
      rw [if_neg]
      rintro ⟨_, hle⟩
      have := digL_len 13 m (by omega) (by omega)
      omega
    · refine neg (by omega) ?_
      have hv := val_lt 13 ((digL m).take i) (by rw [List.length_take]; omega) (fun c hc => digL_all m c (List.mem_of_mem_take hc))
      have hnext : val ((digL m).take (i + 1)) = 10 * val ((digL m).take i) + (((digL m)[i]).toNat - 48) := by
        rw [List.take_succ_eq_append_getElem hi, val_snoc]
      rw [sub48 _ hc, w64 (x := 10 * (val ((digL m).take i) : Int)) (by omega) (by omega), w64 (by omega) (by omega), wi i (by omega)]
      have ih := number_l0 m hm r (i + 1) (by omega) (by omega)
      rw [hnext] at ih
      have e : (10 * (val ((digL m).take i) : Int) + ((((digL m)[i]).toNat - 48 : Nat) : Int)) = ((10 * val ((digL m).take i) + (((digL m)[i]).toNat - 48) : Nat) : Int) := by omega
      rw [e]
      exact ih
theorem number_ev (n : Int) (h0 : -9223372036854775808 ≤ n) (h1 : n ≤ 9223372036854775807) : Ev (fun k => token_number.f k (S (itoa n))) (numR n) := by
  unfold token_number.f
  rcases Int.lt_or_le n 0 with h | h
  · have hz : (S (itoa n)).size = (itoa n).length := by rw [sz, L_S]
    have hl : 0 < (itoa n).length := List.length_pos_iff.2 (itoa_ne n)
    refine up (pos (by omega) (pos (by omega) (pos (by omega) (pos ?_ (now' ?_)))))
    · have := btd (S (itoa n)) 0
      rw [L_S, itoa_neg n h] at this
      rw [itoa_neg n h]
      have e : bt (S (45 :: digL n.natAbs)) 0 = 45 := this
      rw [e]; omega
    · unfold numR
      rw [if_neg (by omega)]
  · obtain ⟨m, rfl⟩ : ∃ m : Nat, n = m := ⟨n.toNat, by omega⟩
    rw [itoa_pos]
    have := number_l0 m (by omega) (digL m).length 0 (by omega) (by omega)
    have hz : (S (digL m)).size = (digL m).length := by rw [sz, L_S]
    rw [hz]
    exact this
theorem sign_range : ∀ c ∈ signs, (97 ≤ c.toNat ∧ c.toNat ≤ 122) ∨ (50 ≤ c.toNat ∧ c.toNat ≤ 55) := by decide +kernel
theorem sealed_l0 (l : List UInt8) (hl : l.length = 16) (hc : ∀ c ∈ l, c ∈ signs) : ∀ (r i : Nat), i + r = 16 → Ev (fun k => token_sealed.l0 k (S l) 16 (i : Int)) true
  | 0, i, h => by
    have hz : (S l).size = 16 := by rw [sz, L_S, hl]
    refine up (neg (by omega) (now' ?_))
    rw [hz]; rfl
  | r + 1, i, h => by
    have hz : (S l).size = 16 := by rw [sz, L_S, hl]
    have hi : i < l.length := by omega
    have hbt : bt (S l) (i : Int) = ((l[i]).toNat : Int) := by
      have := btn (S l) i (by rw [L_S]; exact hi)
      rw [this]
      simp only [L_S]
    have hr := sign_range l[i] (hc _ (List.getElem_mem hi))
    have ih := sealed_l0 l hl hc r (i + 1) (by omega)
    refine up (pos (by omega) (pos (by omega) (pos (by omega) ?_)))
    rw [hbt, wi i (by omega)]
    rcases hr with ⟨h1, h2⟩ | ⟨h1, h2⟩
    · exact neg (by omega) (neg (by omega) ih)
    · exact pos (by omega) (neg (by omega) (neg (by omega) ih))
theorem sealed_ev (l : List UInt8) (hl : l.length = 16) (hc : ∀ c ∈ l, c ∈ signs) : Ev (fun k => token_sealed.f k (S l)) true := by
  unfold token_sealed.f
  have hz : (S l).size = 16 := by rw [sz, L_S, hl]
  rw [hz]
  exact sealed_l0 l hl hc 16 0 (by omega)
theorem cut_gen (p q : List UInt8) (hp : ∀ c ∈ p, (!(c == 46)) = true) : cut (p ++ 46 :: q) [46] = (p, q, true) := by
  rw [CutL.cut_one]
  have ht : (p ++ 46 :: q).takeWhile (fun b => !(b == 46)) = p := Nets.tw_app (fun b => !(b == 46)) p 46 q hp rfl
  have hd : (p ++ 46 :: q).dropWhile (fun b => !(b == 46)) = 46 :: q := by
    have h := List.takeWhile_append_dropWhile (p := fun b => !(b == 46)) (l := p ++ 46 :: q)
    rw [ht] at h
    exact List.append_cancel_left h
  rw [ht, hd]
  refine Prod.ext rfl (Prod.ext rfl ?_)
  show (p ++ 46 :: q).any (fun b => b == 46) = true
  rw [List.any_eq_true]
  exact ⟨46, by simp, rfl⟩
theorem cut_make (key : ByteArray) (n : Int) (a l o : ByteArray) : cut (makeL key n a l o) [46] = (itoa n, sealL key n a l o, true) := by
  have e : makeL key n a l o = itoa n ++ 46 :: sealL key n a l o := by
    unfold makeL
    obtain ⟨q, hq⟩ : ∃ q, sealL key n a l o = q := ⟨_, rfl⟩
    rw [hq, List.append_assoc]
    rfl
  rw [e]
  refine cut_gen _ _ ?_
  intro c hc
  rcases itoa_chars n c hc with h | h
  · have : c ≠ 46 := isD_ne c 46 h rfl
    simpa using this
  · rw [h]; rfl
/-- what Read tells of a token -/
def readR (key : ByteArray) (n : Int) (a l o : ByteArray) : Int × ByteArray × Int :=
  if 0 ≤ n ∧ n ≤ 1099511627776 then (n, S (sealL key n a l o), 0) else (0, ⟨#[]⟩, 250)
theorem read_ev (key : ByteArray) (n : Int) (a l o : ByteArray) (h0 : -9223372036854775808 ≤ n) (h1 : n ≤ 9223372036854775807) (x : ByteArray) (hx : foldL (L x) = makeL key n a l o) :
    Ev (fun k => token_Read.f k x) (readR key n a l o) := by
  unfold token_Read.f
  have hlen := makeL_len key n a l o
  have hil := itoa_len n h0 h1
  have hxl : (L x).length ≤ 1000 := by
    have := congrArg List.length hx
    rw [foldL_len] at this
    omega
  refine Ev.bind (fold_ev x (by omega)) ?_
  rw [hx]
  have hcm := cut_make key n a l o
  have hso := sealL_ok key n a l o
  unfold readR
  obtain ⟨M, hM⟩ : ∃ M, makeL key n a l o = M := ⟨_, rfl⟩
  obtain ⟨Q, hQ⟩ : ∃ Q, sealL key n a l o = Q := ⟨_, rfl⟩
  rw [hM] at hlen hcm ⊢
  rw [hQ] at hcm hso ⊢
  clear hM hQ hx
  have hcut : strings_Cut.f (S M) (⟨#[46]⟩ : ByteArray) = some (S (itoa n), S Q, true) := by
    unfold strings_Cut.f
    rw [if_pos (by rw [sz, L_S]; omega)]
    have e1 : (S M).data.toList = M := L_S _
    have e2 : (⟨#[46]⟩ : ByteArray).data.toList = [46] := rfl
    rw [e1, e2, hcm]
    rfl
  refine cbind hcut (Ev.bind (number_ev n h0 h1) ?_)
  unfold numR
  by_cases hn : 0 ≤ n ∧ n ≤ 1099511627776
  · rw [if_pos hn, if_pos hn]
    refine pos (by trivial) (Ev.bind (sealed_ev Q hso.1 hso.2) (pos (by trivial) (now' rfl)))
  · rw [if_neg hn, if_neg hn]
    exact neg (by simp) (now' rfl)
end Go.Proofs.YtcdhpknjinonhaaDoor.Tok
/- bytes of a text, written over: upper, walked. -/
namespace Go.Proofs.YtcdhpknjinonhaaDoor.Tok
open Go.RowKit Go.Proofs.YtcdhpknjinonhaaDoor.Mem Go.Proofs.YtcdhpknjinonhaaDoor.X Go.Proofs.YtcdhpknjinonhaaDoorW.PrintWords Go.Proofs.YtcdhpknjinonhaaDoorW.PrintLast Go.Proofs.YtcdhpknjinonhaaDoorW.PrintMore Go.Proofs.YtcdhpknjinonhaaDoor.Aid
open Go.Proofs.YtcdhpknjinonhaaDoor.Mac (bc)
set_option linter.unusedVariables false
set_option linter.unusedSimpArgs false
/-- bytes at the beginning of a block -/
structure Row (w : World) (g : Nat) (l : List UInt8) : Prop where
  at_ : ∀ j (hj : j < l.length), w.cell? ⟨g, j, none⟩ = some (bc l[j])
  free : ∀ j, j < l.length → w.frozen? ⟨g, j, none⟩ = false
theorem Row.set_ {w : World} {g : Nat} {l : List UInt8} (h : Row w g l) (i : Nat) (hi : i < l.length) (c : UInt8) : Row (w.setCell ⟨g, i, none⟩ (bc c)) g (l.set i c) := by
  constructor
  · intro j hj
    have hj' : j < l.length := by simpa using hj
    by_cases e : i = j
    · subst e
      rw [World.cell?_setCell_same _ _ _ (h.at_ i hi)]
      rw [List.getElem_set_self]
    · rw [World.cell?_setCell_other _ _ _ _ (by first | (simp; done) | (simp; omega)), h.at_ j hj']
      simp [List.getElem_set, e]
  · intro j hj
    have hj' : j < l.length := by simpa using hj
    rw [World.frozen?_setCell]
    exact h.free j hj'
theorem Row.conv (w : World) (s : ByteArray) :
    Row (w.drew.alloc (.cells (bytesRow s (grownCap w s.size 0 5)) 5 ((bytesRow s (grownCap w s.size 0 5)).size, (bytesRow s (grownCap w s.size 0 5)).size + 1))) w.heap.size (L s) := by
  have hge := grownCap_ge w s.size 0 5
  obtain ⟨cap, hcap⟩ : ∃ c, grownCap w s.size 0 5 = c := ⟨_, rfl⟩
  rw [hcap] at hge ⊢
  have hcs : (bytesRow s cap).size = cap := by
    unfold bytesRow
    have : s.data.size = s.size := rfl
    simp; omega
  have hblk : (w.drew.alloc (.cells (bytesRow s cap) 5 ((bytesRow s cap).size, (bytesRow s cap).size + 1))).heap[w.heap.size]? = some (.cells (bytesRow s cap) 5 ((bytesRow s cap).size, (bytesRow s cap).size + 1)) := by
    show (w.heap.push _)[w.heap.size]? = _
    simp
  obtain ⟨W, hW⟩ : ∃ W, (w.drew.alloc (.cells (bytesRow s cap) 5 ((bytesRow s cap).size, (bytesRow s cap).size + 1))) = W := ⟨_, rfl⟩
  rw [hW] at hblk ⊢
  constructor
  · intro j hj
    have hj' : j < s.data.size := by rw [← sz] at hj; exact hj
    have hcell : W.cell? ⟨w.heap.size, j, none⟩ = (bytesRow s cap)[j]? := by simp [World.cell?, hblk]
    rw [hcell]
    unfold bytesRow
    rw [Array.getElem?_append_left (by simpa using hj')]
    simp only [Array.getElem?_map, Array.getElem?_eq_getElem hj', Option.map_some]
    rfl
  · intro j hj
    rw [← sz] at hj
    simp [World.frozen?, hblk, hcs]
    omega
theorem Row.lt {w : World} {g : Nat} {l : List UInt8} (h : Row w g l) (hl : 0 < l.length) : g < w.heap.size := World.block_lt_of_cell? w _ (h.at_ 0 hl)
theorem Row.below {w w' : World} {g : Nat} {l : List UInt8} (h : Row w g l) (hb : Below w.heap.size w w') (hl : 0 < l.length) : Row w' g l := by
  have hg := h.lt hl
  constructor
  · intro j hj
    exact (hb.cell (p := ⟨g, j, none⟩) hg).trans (h.at_ j hj)
  · intro j hj
    have e : w'.frozen? ⟨g, j, none⟩ = w.frozen? ⟨g, j, none⟩ := by
      unfold World.frozen?
      rw [hb.block g hg]
    rw [e]; exact h.free j hj
theorem Row.str {w : World} {g cap : Nat} {l : List UInt8} (h : Row w g l) : (convert 38 9 (.slice (some ⟨g, 0, none⟩) l.length cap)).run Tryd.prog w = .ok (.string (S l)) w := by
  refine run_convert_bytes_back w 38 9 5 ⟨g, 0, none⟩ cap l Tryd.underlying38 Tryd.underlying5 Tryd.underlying9 fun j hj => ?_
  have hadd : (⟨g, 0, none⟩ : Addr).add j = ⟨g, j, none⟩ := by unfold Addr.add; split <;> simp_all
  rw [hadd]; exact h.at_ j hj
/-- the first so many turned -/
def upN (t : Nat) (l : List UInt8) : List UInt8 := upL (l.take t) ++ l.drop t
theorem upN_len (t : Nat) (l : List UInt8) : (upN t l).length = l.length := by simp [upN, upL]; omega
theorem upN_at (t : Nat) (l : List UInt8) (h : t < l.length) : (upN t l)[t]'(by rw [upN_len]; exact h) = l[t] := by
  have : (upN t l)[t]? = some l[t] := by
    unfold upN
    rw [List.getElem?_append_right (by simp [upL]; omega)]
    simp [upL, Nat.min_eq_left (Nat.le_of_lt h)]
  rw [List.getElem?_eq_getElem (by rw [upN_len]; exact h)] at this
  exact Option.some.inj this
theorem upN_set (t : Nat) (l : List UInt8) (h : t < l.length) : (upN t l).set t (up1 l[t]) = upN (t + 1) l := by
  unfold upN upL
  rw [List.set_append_right _ _ (by simp; omega), List.take_succ_eq_append_getElem h, List.drop_eq_getElem_cons h]
  have hm : t - (List.map up1 (List.take t l)).length = 0 := by simp; omega
  rw [hm]
  simp only [List.map_append, List.map_cons, List.map_nil, List.set_cons_zero, List.append_assoc, List.cons_append, List.nil_append]
theorem upN_same (t : Nat) (l : List UInt8) (h : t < l.length) (hs : up1 l[t] = l[t]) : upN t l = upN (t + 1) l := by
  rw [← upN_set t l h, hs]
  have e := upN_at t l h
  rw [← e, List.set_getElem_self]
theorem upN_all (l : List UInt8) (n : Nat) (h : n = l.length) : upN n l = upL l := by subst h; simp [upN]
set_option maxHeartbeats 4000000 in
set_option maxRecDepth 100000 in
theorem upper_calls (w : World) (s : ByteArray) (hs : s.size ≤ 100000) :
    Calls Tryd.prog 14 #[.string s] w fun e w' => e = .returned (.string (S (upL (L s)))) ∧ Below w.heap.size w w' := by
  have hconv := run_bytes_of_string (P := Tryd.prog) w 9 38 5 s Tryd.underlying9 Tryd.underlying38 Tryd.underlying5
  have hR := Row.conv w s
  have hb : Below w.heap.size w (w.drew.alloc (.cells (bytesRow s (grownCap w s.size 0 5)) 5 ((bytesRow s (grownCap w s.size 0 5)).size, (bytesRow s (grownCap w s.size 0 5)).size + 1))) := (Below.refl _ w).drew.alloc (Nat.le_refl _) _
  have hcz : s.size ≤ grownCap w s.size 0 5 := grownCap_ge w s.size 0 5
  obtain ⟨cap, hcap⟩ : ∃ x, grownCap w s.size 0 5 = x := ⟨_, rfl⟩
  rw [hcap] at hconv hR hb hcz
  obtain ⟨w1, hw1⟩ : ∃ x, w.drew.alloc (.cells (bytesRow s cap) 5 ((bytesRow s cap).size, (bytesRow s cap).size + 1)) = x := ⟨_, rfl⟩
  rw [hw1] at hconv hR hb
  obtain ⟨g, hg⟩ : ∃ x, w.heap.size = x := ⟨_, rfl⟩
  have hgs : w.heap.size ≤ g := by omega
  rw [hg] at hconv hR
  clear hw1 hcap hg
  go_enter Tryd.func14, Tryd.ntmps14
  go_wp2
  go_loopw [9] (fun i wr => ∃ t : Nat, t ≤ s.size ∧ i = .int .i64 t ∧ Row wr g (upN t (L s)) ∧ Below w.heap.size w wr) (fun i _ => s.size - (intOf i).toNat)
  case atStart => exact ⟨0, Nat.zero_le _, rfl, by simpa [upN, upL] using hR, hb⟩
  case round =>
    clear hR hb hconv
    obtain ⟨t, ht, rfl, hR, hb⟩ := hrel
    have hLs := sz s
    by_cases hlt : t < s.size
    · have hl : t < (L s).length := by omega
      obtain ⟨c, hc⟩ : ∃ c, (L s)[t] = c := ⟨_, rfl⟩
      have hcell : wr.cell? ⟨g, t, none⟩ = some (.int .u8 (c.toNat : Int)) := by
        rw [hR.at_ t (by rw [upN_len]; exact hl), upN_at t _ hl, hc]; rfl
      have hfz := hR.free t (by rw [upN_len]; exact hl)
      have hset := upN_set t (L s) hl
      have hsame := upN_same t (L s) hl
      rw [hc] at hset hsame
      have hR2 := hR.set_ t (by rw [upN_len]; exact hl) (up1 c)
      rw [hset] at hR2
      have hb2 := hb.setCell (p := ⟨g, t, none⟩) hgs (bc (up1 c))
      have HS := Lib.hid hsame
      have hc256 := c.toNat_lt
      clear hset hsame hc hl hLs
      by_cases h1 : 97 ≤ c.toNat
      · by_cases h2 : c.toNat ≤ 122
        · have hup : ((up1 c).toNat : Int) = (c.toNat : Int) - 32 := by
            unfold up1
            rw [if_pos ⟨h1, h2⟩]
            have : (UInt8.ofNat (c.toNat - 32)).toNat = c.toNat - 32 := by simp; omega
            rw [this]; omega
          clear hR hb HS
          go_wp2
          have e : (c.toNat : Int) - 97 + 65 = ((up1 c).toNat : Int) := by omega
          have hR3 : Row (wr.setCell ⟨g, t, none⟩ (.int .u8 ((c.toNat : Int) - 97 + 65))) g (upN (t + 1) (L s)) := by rw [e]; exact hR2
          have hb3 : Below w.heap.size w (wr.setCell ⟨g, t, none⟩ (.int .u8 ((c.toNat : Int) - 97 + 65))) := by rw [e]; exact hb2
          go_roundw
          case rel => exact ⟨t + 1, by omega, by go_num, hR3, hb3⟩
          case measure => simp [intOf]; omega
        · have hs2 := HS.out (by unfold up1; rw [if_neg (by omega)])
          rw [hs2] at hR
          clear hR2 hb2 HS hs2
          go_wp2
          go_roundw
          case rel => exact ⟨t + 1, by omega, by go_num, hR, hb⟩
          case measure => simp [intOf]; omega
      · have hs2 := HS.out (by unfold up1; rw [if_neg (by omega)])
        rw [hs2] at hR
        clear hR2 hb2 HS hs2
        go_wp2
        go_roundw
        case rel => exact ⟨t + 1, by omega, by go_num, hR, hb⟩
        case measure => simp [intOf]; omega
    · have hts : t = s.size := by omega
      rw [upN_all (L s) t (by omega)] at hR
      have hcv := hR.str (cap := cap)
      have hul : (upL (L s)).length = s.size := by simp [upL]; omega
      rw [hul] at hcv
      clear hR hLs hul
      go_wp2
      go_ret
      exact ⟨rfl, hb⟩
end Go.Proofs.YtcdhpknjinonhaaDoor.Tok
/- token: works; TokenBack, walked. -/
namespace Go.Proofs.YtcdhpknjinonhaaDoor.Tok
open Go.RowKit Go.Proofs.YtcdhpknjinonhaaDoor.Mem Go.Proofs.YtcdhpknjinonhaaDoor.X Go.Proofs.YtcdhpknjinonhaaDoorW.PrintWords Go.Proofs.YtcdhpknjinonhaaDoorW.PrintLast Go.Proofs.YtcdhpknjinonhaaDoorW.PrintMore Go.Proofs.YtcdhpknjinonhaaDoor.Aid
open Go.Lib (decDigits itoa)
open Go.Proofs.YtcdhpknjinonhaaDoor.Glyph (low foldL)
set_option linter.unusedVariables false
set_option linter.unusedSimpArgs false
/-- a ticket's cells -/
def tcs (n : Int) (a l o : ByteArray) : Array Value := #[.int .i64 n, .string a, .string l, .string o]
theorem tcells {w : World} {g : Nat} {t : TypeId} {n : Int} {a l o : ByteArray} (h : Blk w g t (tcs n a l o)) :
    w.cell? ⟨g, 0, none⟩ = some (.int .i64 n) ∧ w.cell? ⟨g, 1, none⟩ = some (.string a) ∧ w.cell? ⟨g, 2, none⟩ = some (.string l) ∧ w.cell? ⟨g, 3, none⟩ = some (.string o) :=
  ⟨(h.cell 0).trans rfl, (h.cell 1).trans rfl, (h.cell 2).trans rfl, (h.cell 3).trans rfl⟩
def lightB (a l o : ByteArray) : Bool := decide (a.size ≤ 100 ∧ l.size ≤ 100 ∧ o.size ≤ 300)
theorem light_calls (w : World) (n : Int) (a l o : ByteArray) : Calls Tryd.prog 6 #[.agg #[.int .i64 n, .string a, .string l, .string o]] w fun e w' => e = .returned (.bool (lightB a l o)) ∧ Below w.heap.size w w' := by
  refine bulletinlaw25_light.calls n a l o _ w ?_
  unfold bulletinlaw25_light.f lightB
  by_cases h1 : a.size ≤ 100
  · by_cases h2 : l.size ≤ 100
    · rw [if_pos (by omega), if_pos (by omega)]
      congr 1
      rw [decide_eq_decide]
      omega
    · rw [if_pos (by omega), if_neg (by omega)]
      congr 1
      symm
      rw [decide_eq_false_iff_not]
      omega
  · rw [if_neg (by omega)]
    congr 1
    symm
    rw [decide_eq_false_iff_not]
    omega
theorem to_calls (w : World) (n : Int) (a l o : ByteArray) : Calls Tryd.prog 9 #[.agg #[.int .i64 n, .string a, .string l, .string o]] w fun e w' => e = .returned (.agg #[.int .i64 n, .string a, .string l, .string o]) ∧ Below w.heap.size w w' :=
  bulletinlaw25_To.calls n a l o _ _ _ _ w rfl
theorem itoa7 : itoa 7 = [55] := (itoa_pos 7).trans (by rw [Nets.digL_small (by decide)]; rfl)
theorem lt_works : Lt 7 ⟨#[106, 111, 105, 110]⟩ ⟨#[100, 101, 118]⟩ ⟨#[97, 64, 98]⟩ := ⟨by decide, by decide, by decide, by decide, by decide⟩
theorem read_calls (w : World) (hT : Both w) (key : ByteArray) (n : Int) (a l o : ByteArray) (hl : Lt n a l o) (x : ByteArray) (hx : foldL (L x) = makeL key n a l o) :
    Calls Tryd.prog 13 #[.string x] w fun e w' => e = .returned (.tuple #[.int .i64 (readR key n a l o).1, .string (readR key n a l o).2.1, .int .i64 (readR key n a l o).2.2]) ∧ Below w.heap.size w w' := by
  obtain ⟨k, hk⟩ := Ev.rounds (read_ev key n a l o hl.n0 hl.n1 x hx)
  exact token_Read.calls k x _ _ _ w ⟨hT.x⟩ hk
theorem fitsL_self (key : ByteArray) (n : Int) (a l o x : ByteArray) (hx : foldL (L x) = makeL key n a l o) : fitsL key n a l o x = true := by
  unfold fitsL
  rw [hx, decide_eq_true rfl]
set_option maxHeartbeats 4000000 in
set_option maxRecDepth 100000 in
theorem tworks_calls (w : World) (hT : Both w) : Calls Tryd.prog 7 #[] w fun e w' => e = .returned (.bool true) ∧ Below w.heap.size w w' := by
  have hk1 : (⟨#[107]⟩ : ByteArray).size ≤ 1000 := by decide
  have hm := fun w h => make_calls w h ⟨#[107]⟩ 7 ⟨#[106, 111, 105, 110]⟩ ⟨#[100, 101, 118]⟩ ⟨#[97, 64, 98]⟩ hk1 lt_works
  have hf := fun w h s hs => fits_calls w h ⟨#[107]⟩ 7 ⟨#[106, 111, 105, 110]⟩ ⟨#[100, 101, 118]⟩ ⟨#[97, 64, 98]⟩ s hk1 lt_works hs
  have hr := fun w h x hx => read_calls w h ⟨#[107]⟩ 7 ⟨#[106, 111, 105, 110]⟩ ⟨#[100, 101, 118]⟩ ⟨#[97, 64, 98]⟩ lt_works x hx
  have hff := fun x hx => fitsL_self ⟨#[107]⟩ 7 ⟨#[106, 111, 105, 110]⟩ ⟨#[100, 101, 118]⟩ ⟨#[97, 64, 98]⟩ x hx
  have hfold := fold_make ⟨#[107]⟩ 7 ⟨#[106, 111, 105, 110]⟩ ⟨#[100, 101, 118]⟩ ⟨#[97, 64, 98]⟩
  have hlen := makeL_len ⟨#[107]⟩ 7 ⟨#[106, 111, 105, 110]⟩ ⟨#[100, 101, 118]⟩ ⟨#[97, 64, 98]⟩
  have hform : makeL ⟨#[107]⟩ 7 ⟨#[106, 111, 105, 110]⟩ ⟨#[100, 101, 118]⟩ ⟨#[97, 64, 98]⟩ = [55, 46] ++ sealL ⟨#[107]⟩ 7 ⟨#[106, 111, 105, 110]⟩ ⟨#[100, 101, 118]⟩ ⟨#[97, 64, 98]⟩ := by unfold makeL; rw [itoa7]; rfl
  have hrr : readR ⟨#[107]⟩ 7 ⟨#[106, 111, 105, 110]⟩ ⟨#[100, 101, 118]⟩ ⟨#[97, 64, 98]⟩ = (7, S (sealL ⟨#[107]⟩ 7 ⟨#[106, 111, 105, 110]⟩ ⟨#[100, 101, 118]⟩ ⟨#[97, 64, 98]⟩), 0) := rfl
  have hi7 : (itoa 7).length = 1 := by rw [itoa7]; rfl
  rw [hi7] at hlen
  obtain ⟨M, hM⟩ : ∃ M, makeL ⟨#[107]⟩ 7 ⟨#[106, 111, 105, 110]⟩ ⟨#[100, 101, 118]⟩ ⟨#[97, 64, 98]⟩ = M := ⟨_, rfl⟩
  obtain ⟨Q, hQ⟩ : ∃ Q, sealL ⟨#[107]⟩ 7 ⟨#[106, 111, 105, 110]⟩ ⟨#[100, 101, 118]⟩ ⟨#[97, 64, 98]⟩ = Q := ⟨_, rfl⟩
  simp only [hM, hQ, hrr] at hm hr hff hfold hlen hform
  clear hM hQ hrr
  obtain ⟨s, hs⟩ : ∃ s, S M = s := ⟨_, rfl⟩
  have hsL : L s = M := by rw [← hs, L_S]
  have hsz : s.size = 18 := by rw [sz, hsL]; exact hlen
  have hsf : foldL (L s) = M := by rw [hsL]; exact hfold
  have hr2 := fun w h => hr w h s hsf
  have hff2 := hff s hsf
  have hf2 := fun w h => hf w h s (by omega)
  simp only [hs, hff2] at hm hf2
  have h2 : (s.extract 0 2).toList = [55, 46] := by rw [tl, L_from_start, hsL, hform]; rfl
  have h2b : ((s.extract 0 2).toList == ([55, 46] : List UInt8)) = true := by rw [h2]; rfl
  have hq : S Q = s.extract 2 18 := by
    apply L_inj
    rw [L_S, show (18 : Nat) = s.size from hsz.symm, L_to_end, hsL, hform]
    rfl
  rw [hq] at hr2
  have hqq : ((s.extract 2 18).toList == (s.extract 2 18).toList) = true := beq_iff_eq.mpr rfl
  unfold tv at hm hf2
  have HM := Lib.hid hm
  have HF := Lib.hid hf2
  have HR := Lib.hid hr2
  clear hm hf hf2 hr hr2 hff hff2 hfold hlen hform hs hsL hsf h2 hq hk1 hi7
  go_enter Tryd.func7, Tryd.ntmps7
  go_wp2_with fail
  have hB : Blk (w.alloc (.cells (tcs 7 ⟨#[106, 111, 105, 110]⟩ ⟨#[100, 101, 118]⟩ ⟨#[97, 64, 98]⟩) 27)) w.heap.size 27 (tcs 7 ⟨#[106, 111, 105, 110]⟩ ⟨#[100, 101, 118]⟩ ⟨#[97, 64, 98]⟩) := Blk.new w _ _
  have b1 : Below w.heap.size w (w.alloc (.cells (tcs 7 ⟨#[106, 111, 105, 110]⟩ ⟨#[100, 101, 118]⟩ ⟨#[97, 64, 98]⟩) 27)) := (Below.refl _ w).alloc (Nat.le_refl _) _
  refine (HM.out _ (hT.below b1)).mono ?_
  rintro e w2 ⟨rfl, c2⟩
  have b2 := b1.trans (c2.mono b1.size)
  have hB2 := hB.below c2
  clear hB c2 b1
  go_wp2_with fail
  refine (HR.out _ (hT.below b2)).mono ?_
  rintro e w3 ⟨rfl, c3⟩
  have b3 := b2.trans (c3.mono b2.size)
  have hB3 := hB2.below c3
  obtain ⟨g, hg⟩ : ∃ x, w.heap.size = x := ⟨_, rfl⟩
  simp only [hg] at hB3
  obtain ⟨d0, d1, d2, d3⟩ := tcells hB3
  clear hB2 hB3 c3
  simp only [hg]
  go_wp2_with fail
  refine (HF.out _ (hT.below b3)).mono ?_
  rintro e w4 ⟨rfl, c4⟩
  have b4 := b3.trans (c4.mono b3.size)
  go_wp2
  go_ret
  exact ⟨by first | rfl | simp, hg ▸ b4⟩
end Go.Proofs.YtcdhpknjinonhaaDoor.Tok
