/- sha: turn, schedule. -/
import Derived.Test.YtjmahkpmnajmfaaDoorShaA
import Derived.Test.YtjmahkpmnajmfaaDoorX
import Derived.Test.YtjmahkpmnajmfaaDoorAid
import Derived.StillTailTactics
import Derived.Deep.MidRow
import Derived.Deep.QuietTactic
import Derived.BigQuiet
import Derived.Deep.RegionLaw
namespace Go.Proofs.YtjmahkpmnajmfaaDoor.Sha
open Go.RowKit Go.Proofs.YtjmahkpmnajmfaaDoor.Mem Go.Proofs.YtjmahkpmnajmfaaDoor.X Go.Proofs.YtjmahkpmnajmfaaDoorW.PrintWords Go.Proofs.YtjmahkpmnajmfaaDoorW.PrintLast Go.Proofs.YtjmahkpmnajmfaaDoorW.PrintMore Go.Proofs.YtjmahkpmnajmfaaDoor.Aid
attribute [-simp] Tryd.sizeOf36 Tryd.isAgg36 Tryd.zeroValue36
set_option linter.unusedVariables false
set_option linter.unusedSimpArgs false
/-- turned right -/
def ror (x : W) (n : Nat) : W := (x <<< (32 - n)) ||| (x >>> n)
theorem shl_iv (x : W) (n : Nat) (h : n ≤ 32) : shl .u32 (iv x) (n : Int) = iv (x <<< n) := by
  unfold shl
  rw [show min ((n : Int).toNat) (IntKind.bits .u32) = n from by show min ((n : Int).toNat) 32 = n; omega]
  exact iv_shl x n
theorem shr_iv (x : W) (n : Nat) (h : n ≤ 32) : shr .u32 (iv x) (n : Int) = iv (x >>> n) := by
  unfold shr
  rw [show min ((n : Int).toNat) (IntKind.bits .u32) = n from by show min ((n : Int).toNat) 32 = n; omega]
  exact iv_shr x n
theorem turn_calls (w : World) (x : W) (n : Nat) (hn : n ≤ 32) (h1 : Go.bits .and .u64 (IntKind.u64.wrap (wrap64 (-(n : Int)))) 31 = ((32 - n : Nat) : Int)) :
    Calls Tryd.prog 27 #[.int .u32 (iv x), .int .i64 (n : Int)] w fun e w' => e = .returned (.int .u32 (iv (ror x n))) ∧ ∃ q, w' = w.drewN q := by
  refine (sha_turn.calls (iv x) (n : Int) (iv (ror x n)) w ?_).mono fun e w' h => ⟨h.1, h.2.out⟩
  unfold sha_turn.f bits_RotateLeft32.f
  rw [h1]
  have h2 : IntKind.u64.wrap (32 - ((32 - n : Nat) : Int)) = ((n : Nat) : Int) := by
    rw [IntKind.wrap_u64]; omega
  rw [h2, if_pos (by omega), if_pos (by omega), shl_iv x _ (by omega), shr_iv x n hn, iv_or]
  rfl
set_option maxHeartbeats 1000000 in
set_option maxRecDepth 100000 in
theorem below_cells {a w : World} {B g o : Nat} {vs : List Value} (h : Below B a w) (hg : B ≤ g) : Below B a (w.setCells g o vs) := by
  obtain ⟨o1, o2, o3⟩ := setCells_os g vs o w
  refine ⟨o1.trans h.os, o2.trans h.tape, o3.trans h.output, by rw [setCells_size]; exact h.size, fun k hk => ?_⟩
  rw [setCells_heap_ne g vs o w k (by omega)]
  exact h.block k hk
theorem results_agg {fn : Func} {t : Tmp} {ty : TypeId} (h : fn.results = #[.cell t ty]) {P : Program} {w : World} {tmps : Array Value} {a : Addr} {v : Value} (ht : tmps.getD t undef = .pointer (some a)) (hl : (loadVar ty a).run P w = .ok v w) :
    (results fn tmps).run P w = .ok v w := by
  have ht' : tmps[t]?.getD undef = .pointer (some a) := by simpa [Array.getD_eq_getD_getElem?] using ht
  simp [results, h, ht', hl, asAddr]
theorem size64 : (Tryd.prog.info? 36).map (·.size) = some 64 := by kernel_rfl
theorem rangeAt_blk {w : World} {g : Nat} {t : TypeId} {cs : Array Value} (h : Blk w g t cs) : w.rangeAt g 0 cs.toList := fun j v hv => by
  rw [Nat.zero_add, h.cell j]; simpa using hv
theorem there_blk {w : World} {g : Nat} {t : TypeId} {cs : Array Value} (h : Blk w g t cs) {n : Nat} (hn : n ≤ cs.size) : w.there g 0 n := fun j hj => by
  rw [Nat.zero_add]
  exact ⟨by rw [h.cell j, Array.getElem?_eq_getElem (by omega)]; rfl, h.frozen j⟩
theorem zero64 (w : World) : (zeroValue 36).run Tryd.prog w = .ok (.agg (arr [])) w := by
  have h : (Tryd.prog.info? 36).map (fun i => (i.zero, i.size)) = some (some (.agg (arr [])), 64) := by kernel_rfl
  exact (zero_of_info h).1 w
/-- the first byte at a place of a text -/
def by_ (s : List UInt8) (i : Nat) : W := BitVec.ofNat 32 (s.getD i 0).toNat
/-- a word, so many of its bytes taken -/
def wordK (s : List UInt8) (t : Nat) : Nat → W
  | 0 => 0#32
  | k + 1 => (wordK s t k <<< 8) ||| by_ s (4 * t + k)
def sg0 (a : W) : W := ror a 7 ^^^ ror a 18 ^^^ (a >>> 3)
def sg1 (b : W) : W := ror b 17 ^^^ ror b 19 ^^^ (b >>> 10)
/-- the next word -/
def nextW (l : List W) : W := sg1 (l.getD (l.length - 2) 0#32) + l.getD (l.length - 7) 0#32 + sg0 (l.getD (l.length - 15) 0#32) + l.getD (l.length - 16) 0#32
def words16 (s : List UInt8) (n : Nat) : List W := (List.range n).map fun t => wordK s t 4
def grow (l : List W) : Nat → List W
  | 0 => l
  | n + 1 => grow l n ++ [nextW (grow l n)]
def sched (s : List UInt8) : List W := grow (words16 s 16) 48
theorem words16_succ (s : List UInt8) (n : Nat) : words16 s (n + 1) = words16 s n ++ [wordK s n 4] := by
  unfold words16; rw [List.range_succ, List.map_append]; rfl
theorem words16_len (s : List UInt8) (n : Nat) : (words16 s n).length = n := by simp [words16]
theorem grow_len (l : List W) (n : Nat) : (grow l n).length = l.length + n := by
  induction n with
  | zero => rfl
  | succ n ih => simp only [grow, List.length_append, ih, List.length_singleton]; omega
theorem sched_len (s : List UInt8) : (sched s).length = 64 := by unfold sched; rw [grow_len, words16_len]
def schedN (s : List UInt8) (t : Nat) : List W := grow (words16 s 16) (t - 16)
theorem schedN_len (s : List UInt8) (t : Nat) (h : 16 ≤ t) : (schedN s t).length = t := by unfold schedN; rw [grow_len, words16_len]; omega
theorem schedN_64 (s : List UInt8) : schedN s 64 = sched s := congrArg (fun n => grow (words16 s 16) n) (show 64 - 16 = 48 from rfl)
theorem schedN_succ (s : List UInt8) (t : Nat) (h : 16 ≤ t) : schedN s (t + 1) = schedN s t ++ [nextW (schedN s t)] := by
  unfold schedN; rw [show t + 1 - 16 = (t - 16) + 1 from by omega]; rfl
theorem div8 (x : W) : iv x / (8 : Int) = iv (x >>> (3 : Nat)) := iv_shr x 3
theorem div1024 (x : W) : iv x / (1024 : Int) = iv (x >>> (10 : Nat)) := iv_shr x 10
theorem byte_iv (s : ByteArray) (q : Nat) (h : q < s.size) : IntKind.u32.wrap ((s[q].toNat : Nat) : Int) = iv (by_ (L s) q) := by
  have e : (L s).getD q 0 = s[q] := by
    rw [List.getD_eq_getElem?_getD, List.getElem?_eq_getElem (by rw [← sz]; exact h)]; rfl
  unfold by_ iv
  rw [e, wrap_u32, BitVec.toNat_ofNat]
  have := s[q].toNat_lt
  omega
theorem or_byte (p : W) (s : ByteArray) (q : Nat) (h : q < s.size) : bits .or .u32 (IntKind.u32.wrap (iv p * 256)) (IntKind.u32.wrap ((s[q].toNat : Nat) : Int)) = iv ((p <<< 8) ||| by_ (L s) q) := by
  rw [byte_iv s q h, show (256 : Int) = 2 ^ 8 from rfl, iv_shl, iv_or]
set_option maxHeartbeats 4000000 in
set_option maxRecDepth 100000 in
theorem schedule_calls (w : World) (s : ByteArray) (hs : s.size = 64) :
    Calls Tryd.prog 26 #[.string s] w fun e w' => e = .returned (.agg (arr (sched (L s)))) ∧ Below w.heap.size w w' := by
  go_enter Tryd.func26, Tryd.ntmps26
  go_wp2
  rw [zero64]
  simp only [Result.andThen]
  rw [Oper.upon_value]
  go_wp2
  rw [zero64]
  simp only [Result.andThen]
  rw [Oper.upon_value]
  go_wp2
  have hB1 := Blk.new (w.alloc (.cells (arr []) 36)) 36 (arr [])
  have hB0 := (Blk.new w 36 (arr [])).alloc (.cells (arr []) 36)
  have hb0 : Below w.heap.size w ((w.alloc (.cells (arr []) 36)).alloc (.cells (arr []) 36)) := ((Below.refl _ w).alloc (Nat.le_refl _) _).alloc (by simp) _
  rw [World.size_alloc] at hB1
  obtain ⟨w1, hw1⟩ : ∃ x, (w.alloc (.cells (arr []) 36)).alloc (.cells (arr []) 36) = x := ⟨_, rfl⟩
  obtain ⟨r0, hr0⟩ : ∃ x, w.heap.size = x := ⟨_, rfl⟩
  obtain ⟨g, hg⟩ : ∃ x, r0 + 1 = x := ⟨_, rfl⟩
  have HR : r0 < g := by omega
  simp only [hw1, hr0, hg] at hB1 hB0 hb0 ⊢
  have hrg : w.heap.size ≤ r0 := by omega
  clear hw1 hr0 hg
  have hL : (L s).length = 64 := by rw [← sz]; exact hs
  go_loopw [11] (fun i wr => ∃ t : Nat, t ≤ 16 ∧ i = .int .i64 t ∧ Blk wr g 36 (arr (words16 (L s) t)) ∧ Blk wr r0 36 (arr []) ∧ Below r0 w wr) (fun i _ => 16 - (intOf i).toNat)
  case atStart => exact ⟨0, by omega, rfl, hB1, hB0, hb0⟩
  case round =>
    clear hB1 hB0 hb0
    obtain ⟨t, ht, rfl, hB1, hB0, hb⟩ := hrel
    by_cases hlt : t < 16
    · have hd16 : decide ((t : Int) < 16) = true := decide_eq_true (by omega)
      go_wp2
      have hB2 : Blk wr g 36 (arr (words16 (L s) t ++ [wordK (L s) t 0])) := by
        show Blk wr g _ (arr (words16 (L s) t ++ [0#32]))
        rw [arr_nought _ (by rw [words16_len]; omega)]; exact hB1
      go_loopw [14] (fun i wq => ∃ k : Nat, k ≤ 4 ∧ i = .int .i64 k ∧ Blk wq g 36 (arr (words16 (L s) t ++ [wordK (L s) t k])) ∧ Blk wq r0 36 (arr []) ∧ Below r0 w wq) (fun i _ => 4 - (intOf i).toNat)
      case atStart => exact ⟨0, by omega, rfl, hB2, hB0, hb⟩
      case round =>
        clear hB1 hB2 hB0 hb
        obtain ⟨k, hk, rfl, hB2, hB0, hb⟩ := hrel
        by_cases hlk : k < 4
        · have hc : wr.cell? ⟨g, t, none⟩ = some (.int .u32 (iv (wordK (L s) t k))) := by
            rw [hB2.cell t, arr_get _ t (by simp [words16_len])]
            simp [words16_len, wv]
          have hfz := hB2.frozen t
          have hlx : 4 * t + k < s.size := by omega
          have ht64 : t < 64 := by omega
          have ht64i : (t : Int) < 64 := by omega
          obtain ⟨q, hq⟩ : ∃ q, 4 * t + k = q := ⟨_, rfl⟩
          have hqi : (q : Int) < 64 := by omega
          have hm4 : IntKind.i64.wrap (4 * (t : Int)) = 4 * (t : Int) := by rw [i64_w, w64 (by omega) (by omega)]
          have hm5 : IntKind.i64.wrap (4 * (t : Int) + (k : Int)) = (q : Int) := by rw [i64_w, w64 (by omega) (by omega)]; omega
          rw [hq] at hlx
          have HQ := Lib.hid hq
          clear hq
          go_wp2
          refine wp_region_still_tail 14 (by kernel_rfl) (by kernel_rfl) ?_; simp only [List.take_succ_cons, List.take_zero, List.drop_succ_cons, List.drop_zero]; repeat still_step
          refine wpStill_nil ?_
          change wpList _ _ _ _ _ wr.drew
          have hor := or_byte (wordK (L s) t k) s q hlx
          simp only [hor]
          clear hor hm4 hm5
          have hB3 : Blk (wr.drew.setCell ⟨g, t, none⟩ (.int .u32 (iv ((wordK (L s) t k <<< 8) ||| by_ (L s) q)))) g 36 (arr (words16 (L s) t ++ [wordK (L s) t (k + 1)])) := by
            have h := hB2.drew.set_ t (wv (wordK (L s) t (k + 1)))
            have e := arr_set (words16 (L s) t) (wordK (L s) t k) (wordK (L s) t (k + 1)) (by rw [words16_len]; omega)
            rw [words16_len] at e
            rw [e] at h
            have e2 : wordK (L s) t (k + 1) = (wordK (L s) t k <<< 8) ||| by_ (L s) q := by rw [← HQ.out]; rfl
            rw [e2] at h ⊢
            exact h
          have hB4 : Blk (wr.drew.setCell ⟨g, t, none⟩ (.int .u32 (iv ((wordK (L s) t k <<< 8) ||| by_ (L s) q)))) r0 36 (arr []) := hB0.drew.far (p := ⟨g, t, none⟩) (by simp; omega) _
          have hb2 : Below r0 w (wr.drew.setCell ⟨g, t, none⟩ (.int .u32 (iv ((wordK (L s) t k <<< 8) ||| by_ (L s) q)))) := hb.drew.setCell (p := ⟨g, t, none⟩) (by simp; omega) _
          have hfz2 : wr.drew.frozen? ⟨g, t, none⟩ = false := hfz
          have hc2 : wr.drew.cell? ⟨g, t, none⟩ = some (.int .u32 (iv (wordK (L s) t k))) := hc
          generalize wr.drew = w8 at hB3 hB4 hb2 hfz2 hc2 ⊢
          go_wp2
          go_roundw
          case rel => exact ⟨k + 1, by omega, by go_num, hB3, hB4, hb2⟩
          case measure => simp [intOf]; omega
        · have hk4 : k = 4 := by omega
          have hB3 : Blk wr g 36 (arr (words16 (L s) (t + 1))) := by rw [words16_succ]; rw [hk4] at hB2; exact hB2
          clear hB2 hk4
          go_wp2
          go_roundw
          case rel => exact ⟨t + 1, by omega, by go_num, hB3, hB0, hb⟩
          case measure => simp [intOf]; omega
    · have ht16 : t = 16 := by omega
      have hB3 : Blk wr g 36 (arr (schedN (L s) 16)) := by rw [ht16] at hB1; exact hB1
      clear hB1 ht16
      go_wp2
      clear hlt ht
      go_loopw [6] (fun i wq => ∃ t : Nat, 16 ≤ t ∧ t ≤ 64 ∧ i = .int .i64 t ∧ Blk wq g 36 (arr (schedN (L s) t)) ∧ Blk wq r0 36 (arr []) ∧ Below r0 w wq) (fun i _ => 64 - (intOf i).toNat)
      case atStart => exact ⟨16, by omega, by omega, rfl, hB3, hB0, hb⟩
      case round =>
        clear hB3 hB0 hb
        obtain ⟨t, ht0, ht, rfl, hB1, hB0, hb⟩ := hrel
        have hlen := schedN_len (L s) t ht0
        have HN := Lib.hid (schedN_succ (L s) t ht0)
        by_cases hlt : t < 64
        · obtain ⟨l, hl⟩ : ∃ l, schedN (L s) t = l := ⟨_, rfl⟩
          have HLL := Lib.hid hl
          rw [hl] at hlen hB1
          clear hl
          obtain ⟨q15, h15⟩ : ∃ q, t - 15 = q := ⟨_, rfl⟩
          obtain ⟨q2, h2⟩ : ∃ q, t - 2 = q := ⟨_, rfl⟩
          obtain ⟨q7, h7⟩ : ∃ q, t - 7 = q := ⟨_, rfl⟩
          obtain ⟨q16, h16⟩ : ∃ q, t - 16 = q := ⟨_, rfl⟩
          have i15 : IntKind.i64.wrap ((t : Int) - 15) = (q15 : Int) := by rw [i64_w, w64 (by omega) (by omega)]; omega
          have i2 : IntKind.i64.wrap ((t : Int) - 2) = (q2 : Int) := by rw [i64_w, w64 (by omega) (by omega)]; omega
          have i7 : IntKind.i64.wrap ((t : Int) - 7) = (q7 : Int) := by rw [i64_w, w64 (by omega) (by omega)]; omega
          have i16 : IntKind.i64.wrap ((t : Int) - 16) = (q16 : Int) := by rw [i64_w, w64 (by omega) (by omega)]; omega
          have b15 : q15 < 64 := by omega
          have b2 : q2 < 64 := by omega
          have b7 : q7 < 64 := by omega
          have b16 : q16 < 64 := by omega
          have Hq7 : q7 < t := by omega
          have Hq16 : q16 < t := by omega
          obtain ⟨x15, hx15⟩ : ∃ x, l.getD q15 0#32 = x := ⟨_, rfl⟩
          obtain ⟨x2, hx2⟩ : ∃ x, l.getD q2 0#32 = x := ⟨_, rfl⟩
          obtain ⟨x7, hx7⟩ : ∃ x, l.getD q7 0#32 = x := ⟨_, rfl⟩
          obtain ⟨x16, hx16⟩ : ∃ x, l.getD q16 0#32 = x := ⟨_, rfl⟩
          have c15 : wr.cell? ⟨g, q15, none⟩ = some (.int .u32 (iv x15)) := by rw [hB1.cell q15, arr_getD _ q15 (by omega), hx15]; rfl
          have c2 : wr.cell? ⟨g, q2, none⟩ = some (.int .u32 (iv x2)) := by rw [hB1.cell q2, arr_getD _ q2 (by omega), hx2]; rfl
          have hnx : nextW l = sg1 x2 + x7 + sg0 x15 + x16 := by
            unfold nextW
            rw [hlen, h2, h7, h15, h16, hx2, hx7, hx15, hx16]
          have HX := Lib.hid hnx
          have H7 := Lib.hid hx7
          have H16 := Lib.hid hx16
          have HLN := Lib.hid hlen
          clear h15 h2 h7 h16 hx15 hx2 hx7 hx16 hnx hlen
          go_wp2
          go_quiet (fail)
          go_wp2_with fail
          refine (turn_calls _ x15 7 (by decide) (by decide +kernel)).mono ?_
          rintro e w3 ⟨rfl, q3, rfl⟩
          go_wp2_with fail
          refine (turn_calls _ x15 18 (by decide) (by decide +kernel)).mono ?_
          rintro e w4 ⟨rfl, q4, rfl⟩
          go_wp2_with fail
          have e0 : ror x15 7 ^^^ ror x15 18 ^^^ x15 >>> 3 = sg0 x15 := rfl
          simp only [div8, iv_xor, e0]
          clear e0
          refine (turn_calls _ x2 17 (by decide) (by decide +kernel)).mono ?_
          rintro e w5 ⟨rfl, q5, rfl⟩
          go_wp2_with fail
          refine (turn_calls _ x2 19 (by decide) (by decide +kernel)).mono ?_
          rintro e w6 ⟨rfl, q6, rfl⟩
          go_wp2
          have hB6 : Blk (wr.drewN (nq + q3 + q4 + q5 + q6)) g 36 (arr l) := hB1
          have hB06 : Blk (wr.drewN (nq + q3 + q4 + q5 + q6)) r0 36 (arr []) := hB0
          have hb6 : Below r0 w (wr.drewN (nq + q3 + q4 + q5 + q6)) := pw_below_drewN hb _
          obtain ⟨w7, hw7⟩ : ∃ x, (wr.drewN (nq + q3 + q4 + q5 + q6)) = x := ⟨_, rfl⟩
          simp only [hw7] at hB6 hB06 hb6 ⊢
          clear hw7 hB1 hB0 hb c15 c2
          have hlen := HLN.out
          have ht16 : 16 ≤ t := ht0
          have hq7 : q7 < l.length := by omega
          have hq16 : q16 < l.length := by omega
          have c7 : w7.cell? ⟨g, q7, none⟩ = some (.int .u32 (iv x7)) := by rw [hB6.cell q7, arr_getD _ q7 hq7, H7.out]; rfl
          have c16 : w7.cell? ⟨g, q16, none⟩ = some (.int .u32 (iv x16)) := by rw [hB6.cell q16, arr_getD _ q16 hq16, H16.out]; rfl
          clear hlen
          have e1 : ror x2 17 ^^^ ror x2 19 ^^^ x2 >>> 10 = sg1 x2 := rfl
          simp only [div1024, iv_xor, e1]
          clear e1
          have b7i : (q7 : Int) < 64 := by omega
          have b16i : (q16 : Int) < 64 := by omega
          have hlti : (t : Int) < 64 := by omega
          go_still_tail 15, (by kernel_rfl)
          change wpList _ _ _ _ _ w7.drew
          simp only [iv_add]
          have hB7 : Blk (w7.drew.setCell ⟨g, t, none⟩ (.int .u32 (iv (sg1 x2 + x7 + sg0 x15 + x16)))) g 36 (arr (schedN (L s) (t + 1))) := by
            have h := hB6.drew.set_ t (wv (nextW l))
            have e := arr_put l (nextW l) (by rw [HLN.out]; exact hlt)
            rw [HLN.out] at e
            rw [e, HX.out] at h
            rw [HN.out, HLL.out, HX.out]
            exact h
          have hB8 : Blk (w7.drew.setCell ⟨g, t, none⟩ (.int .u32 (iv (sg1 x2 + x7 + sg0 x15 + x16)))) r0 36 (arr []) := hB06.drew.far (p := ⟨g, t, none⟩) (by simp; omega) _
          have hb8 : Below r0 w (w7.drew.setCell ⟨g, t, none⟩ (.int .u32 (iv (sg1 x2 + x7 + sg0 x15 + x16)))) := hb6.drew.setCell (p := ⟨g, t, none⟩) (by simp; omega) _
          have ct : w7.drew.cell? ⟨g, t, none⟩ = some (.int .u32 0) := by
            have hx : (arr l)[t]? = some (wv 0#32) := by
              rw [← arr_nought l (by rw [HLN.out]; exact hlt), arr_getD _ t (by rw [List.length_append, HLN.out]; simp)]
              have : (l ++ [0#32]).getD t 0#32 = 0#32 := by
                rw [List.getD_eq_getElem?_getD, ← HLN.out]; simp
              rw [this]
            exact (hB6.cell t).trans hx
          have hft : w7.drew.frozen? ⟨g, t, none⟩ = false := hB6.frozen t
          generalize w7.drew = w8 at hB7 hB8 hb8 ct hft ⊢
          go_wp2
          go_roundw
          case rel => exact ⟨t + 1, by omega, by omega, by go_num, hB7, hB8, hb8⟩
          case measure => simp [intOf]; omega
        · have ht64 : t = 64 := by omega
          have hB3 : Blk wr g 36 (arr (sched (L s))) := by rw [ht64, schedN_64] at hB1; exact hB1
          clear hB1 ht64
          have hrg3 : wr.rangeAt g 0 (arr (sched (L s))).toList := rangeAt_blk hB3
          have hth : wr.there r0 0 (arr (sched (L s))).toList.toArray.size := there_blk hB0 (by rw [Array.toArray_toList, arr_size (sched (L s)) (by rw [sched_len]; exact Nat.le_refl _), arr_size [] (Nat.zero_le _)]; exact Nat.le_refl _)
          have HR3 := Lib.hid hrg3
          have HTH := Lib.hid hth
          have HSZ : Hid ((Tryd.prog.info? 36).map (·.size) = some (arr (sched (L s))).toList.length) := Lib.hid (by rw [size64, Array.length_toList, arr_size _ (by rw [sched_len]; exact Nat.le_refl _)])
          have HSZ2 : Hid ((Tryd.prog.info? 36).map (·.size) = some (arr (sched (L s))).toList.toArray.size) := Lib.hid (by rw [HSZ.out]; simp)
          have HONE : Hid ((arr (sched (L s))).toList.toArray.all (·.oneCell') = true) := Lib.hid (by rw [Array.toArray_toList]; exact arr_one _)
          obtain ⟨cs, hcs⟩ : ∃ cs, (arr (sched (L s))).toList = cs := ⟨_, rfl⟩
          have HCS : Hid (cs = (arr (sched (L s))).toList) := Lib.hid hcs.symm
          simp only [hcs] at HR3 HTH HSZ HSZ2 HONE
          clear hrg3 hth hcs
          have ht64i : ¬ ((t : Int) < 64) := by omega
          go_wp2_with (first | (refine wpList_load_mid rfl 36 (.tmp 3) rfl g 0 rfl cs _ HR3.out Tryd.underlying36 rfl HSZ.out ?_) | (refine wpList_store_mid rfl 36 (.tmp 2) (.tmp 76) rfl r0 0 cs.toArray rfl rfl HTH.out HSZ2.out HONE.out ?_))
          have HRR := World.rangeAt_setCells_same wr r0 0 cs (by have := HTH.out; simpa using this)
          have hl := run_loadVar_mid (P := Tryd.prog) (wr.setCells r0 0 cs) r0 0 36 cs _ HRR Tryd.underlying36 rfl HSZ.out
          refine bodyPost_ret (v := .agg cs.toArray) (results_agg rfl rfl hl) rfl ⟨by rw [HCS.out, Array.toArray_toList], ?_⟩
          exact below_cells (hb.mono hrg) hrg
end Go.Proofs.YtjmahkpmnajmfaaDoor.Sha
