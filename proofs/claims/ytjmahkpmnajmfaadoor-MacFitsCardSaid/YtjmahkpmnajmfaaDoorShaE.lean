/- sha: the end of a text, the sum's bytes. -/
import Derived.Test.YtjmahkpmnajmfaaDoorShaD
import Derived.Laws.IdiomStrings
namespace Go.Proofs.YtjmahkpmnajmfaaDoor.Sha
open Go.RowKit Go.Proofs.YtjmahkpmnajmfaaDoor.Mem Go.Proofs.YtjmahkpmnajmfaaDoor.X Go.Proofs.YtjmahkpmnajmfaaDoorW.PrintWords Go.Proofs.YtjmahkpmnajmfaaDoorW.PrintLast Go.Proofs.YtjmahkpmnajmfaaDoorW.PrintMore Go.Proofs.YtjmahkpmnajmfaaDoor.Aid
attribute [-simp] Tryd.sizeOf36 Tryd.isAgg36 Tryd.zeroValue36
set_option linter.unusedVariables false
set_option linter.unusedSimpArgs false
/-- how many noughts -/
def nz (n : Nat) : Nat := (64 - (n + 9) % 64) % 64
def sizeB (n : Nat) : List UInt8 := [UInt8.ofNat (n * 8 / 2 ^ (8 * 7)), UInt8.ofNat (n * 8 / 2 ^ (8 * 6)), UInt8.ofNat (n * 8 / 2 ^ (8 * 5)), UInt8.ofNat (n * 8 / 2 ^ (8 * 4)), UInt8.ofNat (n * 8 / 2 ^ (8 * 3)), UInt8.ofNat (n * 8 / 2 ^ (8 * 2)), UInt8.ofNat (n * 8 / 2 ^ (8 * 1)), UInt8.ofNat (n * 8 / 2 ^ (8 * 0))]
def endB (n : Nat) : List UInt8 := 128 :: List.replicate (nz n) 0 ++ sizeB n
def I8 (l : List UInt8) : List Int := l.map fun c => (c.toNat : Int)
theorem nums_I8 (l : List UInt8) : strOfNums (I8 l) = S l := by
  rw [nums_eq]
  congr 1
  unfold I8
  rw [List.map_map]
  have : ((fun x : Int => UInt8.ofNat x.toNat) ∘ fun c : UInt8 => (c.toNat : Int)) = id := by
    funext c
    simp
  rw [this, List.map_id]
theorem shr_u64 (x : Int) (n : Nat) (h : n < 64) : shr .u64 x (n : Int) = x / 2 ^ n := by
  unfold shr
  simp [IntKind.bits, IntKind.signed]
  rw [show min n 64 = n by omega]
theorem i8_app (l : List UInt8) (c : UInt8) (x : Int) (h : x = (c.toNat : Int)) : I8 l ++ [x] = I8 (l ++ [c]) := by simp [I8, h]
theorem end_l1 (n : Nat) (hn : n ≤ 1000000000) (l : List UInt8) (hl : l.length ≤ 1000) : Ev (fun k => sha_end.l1 k (I8 l) ((n * 8 : Nat) : Int) 7) (S (l ++ sizeB n)) := by
  have one : ∀ (j : Nat) (l : List UInt8) (R : ByteArray), j < 8 → l.length ≤ 2000 → Ev (fun k => sha_end.l1 k (I8 (l ++ [UInt8.ofNat (n * 8 / 2 ^ (8 * j))])) ((n * 8 : Nat) : Int) ((j : Int) - 1)) R → Ev (fun k => sha_end.l1 k (I8 l) ((n * 8 : Nat) : Int) (j : Int)) R := by
    intro j l R hj hl h
    refine up ?_
    simp only [sha_end.l1]
    have e1 : wrap64 (8 * (j : Int)) = ((8 * j : Nat) : Int) := by rw [w64 (by omega) (by omega)]; omega
    have e2 : wrap64 ((j : Int) - 1) = (j : Int) - 1 := w64 (by omega) (by omega)
    rw [e1, e2, shr_u64 _ _ (by omega)]
    refine pos (by omega) (pos (by omega) (pos (by simp [I8]; omega) ?_))
    rw [i8_app l (UInt8.ofNat (n * 8 / 2 ^ (8 * j)))]
    · exact h
    · rw [UInt8.toNat_ofNat', Int.natCast_emod, Int.natCast_ediv, Int.natCast_pow]
      rfl
  have e : l ++ sizeB n = (((((((l ++ [UInt8.ofNat (n * 8 / 2 ^ (8 * 7))]) ++ [UInt8.ofNat (n * 8 / 2 ^ (8 * 6))]) ++ [UInt8.ofNat (n * 8 / 2 ^ (8 * 5))]) ++ [UInt8.ofNat (n * 8 / 2 ^ (8 * 4))]) ++ [UInt8.ofNat (n * 8 / 2 ^ (8 * 3))]) ++ [UInt8.ofNat (n * 8 / 2 ^ (8 * 2))]) ++ [UInt8.ofNat (n * 8 / 2 ^ (8 * 1))]) ++ [UInt8.ofNat (n * 8 / 2 ^ (8 * 0))] := by
    simp only [sizeB, List.append_assoc, List.cons_append, List.nil_append]
  rw [e]
  refine one 7 _ _ (by omega) (by omega) (one 6 _ _ (by omega) (by simp; omega) (one 5 _ _ (by omega) (by simp; omega) (one 4 _ _ (by omega) (by simp; omega) (one 3 _ _ (by omega) (by simp; omega) (one 2 _ _ (by omega) (by simp; omega) (one 1 _ _ (by omega) (by simp; omega) (one 0 _ _ (by omega) (by simp; omega) (up ?_))))))))
  simp only [sha_end.l1]
  exact neg (by decide) (now' (nums_I8 _))
theorem end_l0 (n : Nat) (hn : n ≤ 1000000000) (d : Nat) : ∀ m : Nat, m ≤ nz n → nz n - m ≤ d → Ev (fun k => sha_end.l0 k (n : Int) (I8 (128 :: List.replicate m 0))) (S (endB n)) := by
  have hz : nz n < 64 := by unfold nz; omega
  induction d with
  | zero =>
    intro m hm hd
    obtain rfl : m = nz n := by omega
    refine up ?_
    simp only [sha_end.l0]
    have hlen : (I8 (128 :: List.replicate (nz n) 0)).length = nz n + 1 := by simp [I8]
    rw [hlen]
    have e1 : wrap64 ((wrap64 ((n : Int) + ((nz n + 1 : Nat) : Int))) + 8) = ((n + nz n + 9 : Nat) : Int) := by
      rw [show wrap64 ((n : Int) + ((nz n + 1 : Nat) : Int)) = ((n + nz n + 1 : Nat) : Int) from by rw [w64 (by omega) (by omega)]; omega, w64 (by omega) (by omega)]
      omega
    rw [e1]
    have e2 : IntKind.u64.wrap (IntKind.u64.wrap (n : Int) * 8) = ((n * 8 : Nat) : Int) := by
      simp only [IntKind.wrap_u64]
      omega
    rw [e2]
    refine pos ?_ (end_l1 n hn _ (by simp; omega))
    rw [Int.tmod_eq_emod_of_nonneg (by omega)]
    unfold nz
    omega
  | succ d ih =>
    intro m hm hd
    by_cases hmz : m = nz n
    · exact (show Ev (fun k => sha_end.l0 k (n : Int) (I8 (128 :: List.replicate m 0))) (S (endB n)) from by
        subst hmz
        refine up ?_
        simp only [sha_end.l0]
        have hlen : (I8 (128 :: List.replicate (nz n) 0)).length = nz n + 1 := by simp [I8]
        rw [hlen]
        have e1 : wrap64 ((wrap64 ((n : Int) + ((nz n + 1 : Nat) : Int))) + 8) = ((n + nz n + 9 : Nat) : Int) := by
          rw [show wrap64 ((n : Int) + ((nz n + 1 : Nat) : Int)) = ((n + nz n + 1 : Nat) : Int) from by rw [w64 (by omega) (by omega)]; omega, w64 (by omega) (by omega)]
          omega
        rw [e1]
        have e2 : IntKind.u64.wrap (IntKind.u64.wrap (n : Int) * 8) = ((n * 8 : Nat) : Int) := by
          simp only [IntKind.wrap_u64]
          omega
        rw [e2]
        refine pos ?_ (end_l1 n hn _ (by simp; omega))
        rw [Int.tmod_eq_emod_of_nonneg (by omega)]
        unfold nz
        omega)
    · refine up ?_
      simp only [sha_end.l0]
      have hlen : (I8 (128 :: List.replicate m 0)).length = m + 1 := by simp [I8]
      rw [hlen]
      have e1 : wrap64 ((wrap64 ((n : Int) + ((m + 1 : Nat) : Int))) + 8) = ((n + m + 9 : Nat) : Int) := by
        rw [show wrap64 ((n : Int) + ((m + 1 : Nat) : Int)) = ((n + m + 1 : Nat) : Int) from by rw [w64 (by omega) (by omega)]; omega, w64 (by omega) (by omega)]
        omega
      rw [e1]
      refine neg ?_ (pos (by omega) ?_)
      · rw [Int.tmod_eq_emod_of_nonneg (by omega)]
        unfold nz at hm hmz hz
        omega
      · have e3 : I8 (128 :: List.replicate m 0) ++ [0] = I8 (128 :: List.replicate (m + 1) 0) := by
          rw [i8_app _ 0 0 rfl, List.cons_append, List.replicate_succ']
        rw [e3]
        exact ih (m + 1) (by omega) (by omega)
theorem end_ev (n : Nat) (hn : n ≤ 1000000000) : Ev (fun k => sha_end.f k (n : Int)) (S (endB n)) :=
  end_l0 n hn (nz n) 0 (by omega) (by omega)
theorem endB_len (n : Nat) : (endB n).length = nz n + 9 := by simp [endB, sizeB]
def words8 (v : V8) : List W := [v.a, v.b, v.c, v.d, v.e, v.f, v.g, v.h]
def dig (v : V8) : List UInt8 := (words8 v).flatMap word4
/-- what has been written so far has this sum -/
def digest (v : V8) (r : List UInt8) (n : Nat) : List UInt8 := dig (eat (r.length + (endB n).length) v (r ++ endB n)).1
theorem cells8_words (v : V8) (i : Nat) (h : i < 8) : (cells8 v)[i]? = some (.int .u32 (iv ((words8 v).getD i 0#32))) := by
  match i, h with
  | 0, _ => rfl
  | 1, _ => rfl
  | 2, _ => rfl
  | 3, _ => rfl
  | 4, _ => rfl
  | 5, _ => rfl
  | 6, _ => rfl
  | 7, _ => rfl
def bv (c : UInt8) : Value := .int .u8 (c.toNat : Int)
theorem info_u8 : (Tryd.prog.info? 5).map (fun i => (i.zero, i.size, i.bytes)) = some (some (.int .u8 0), 1, 1) := by kernel_rfl
theorem byte24 (x : W) : IntKind.u8.wrap (iv x / 16777216) = ((UInt8.ofNat (x.toNat / 16777216)).toNat : Int) := by
  rw [IntKind.wrap_u8, UInt8.toNat_ofNat']; unfold iv; omega
theorem byte16 (x : W) : IntKind.u8.wrap (iv x / 65536) = ((UInt8.ofNat (x.toNat / 65536)).toNat : Int) := by
  rw [IntKind.wrap_u8, UInt8.toNat_ofNat']; unfold iv; omega
theorem byte8 (x : W) : IntKind.u8.wrap (iv x / 256) = ((UInt8.ofNat (x.toNat / 256)).toNat : Int) := by
  rw [IntKind.wrap_u8, UInt8.toNat_ofNat']; unfold iv; omega
theorem byte0 (x : W) : IntKind.u8.wrap (iv x) = ((UInt8.ofNat x.toNat).toNat : Int) := by
  rw [IntKind.wrap_u8, UInt8.toNat_ofNat']; unfold iv; omega
theorem take_flat (l : List W) (k : Nat) (h : k < l.length) : (l.take (k + 1)).flatMap word4 = (l.take k).flatMap word4 ++ word4 (l.getD k 0#32) := by
  rw [List.take_succ_eq_append_getElem h, List.flatMap_append, List.getD_eq_getElem?_getD, List.getElem?_eq_getElem h]
  simp
theorem flat_len (l : List W) : (l.flatMap word4).length = 4 * l.length := by
  induction l with
  | nil => rfl
  | cons x t ih => rw [List.flatMap_cons, List.length_append, ih]; simp [word4]; omega
set_option maxHeartbeats 4000000 in
set_option maxRecDepth 100000 in
theorem hsum_calls (w : World) (hT : Tabs w) (p : Nat) (v : V8) (r : ByteArray) (n : Nat) (h : Blk w p 48 (hcells v r n)) (hn : n ≤ 900000000) (hr : r.size ≤ 900000000) :
    Calls Tryd.prog 22 #[.pointer (some ⟨p, 0, none⟩)] w fun e w' => e = .returned (.string (S (digest v (L r) n))) ∧ Below w.heap.size w w' := by
  have c0 : w.cell? ⟨p, 0, none⟩ = some (.int .u32 (iv v.a)) := (h.cell 0).trans rfl
  have c1 : w.cell? ⟨p, 1, none⟩ = some (.int .u32 (iv v.b)) := (h.cell 1).trans rfl
  have c2 : w.cell? ⟨p, 2, none⟩ = some (.int .u32 (iv v.c)) := (h.cell 2).trans rfl
  have c3 : w.cell? ⟨p, 3, none⟩ = some (.int .u32 (iv v.d)) := (h.cell 3).trans rfl
  have c4 : w.cell? ⟨p, 4, none⟩ = some (.int .u32 (iv v.e)) := (h.cell 4).trans rfl
  have c5 : w.cell? ⟨p, 5, none⟩ = some (.int .u32 (iv v.f)) := (h.cell 5).trans rfl
  have c6 : w.cell? ⟨p, 6, none⟩ = some (.int .u32 (iv v.g)) := (h.cell 6).trans rfl
  have c7 : w.cell? ⟨p, 7, none⟩ = some (.int .u32 (iv v.h)) := (h.cell 7).trans rfl
  have c8 : w.cell? ⟨p, 8, none⟩ = some (.string r) := (h.cell 8).trans rfl
  have c9 : w.cell? ⟨p, 9, none⟩ = some (.int .i64 (n : Int)) := (h.cell 9).trans rfl
  obtain ⟨K, hK⟩ := end_ev n (by omega)
  have hend := sha_end.calls K (n : Int) _ (w.alloc (.cells (hcells v r n) 48)) (hK K (Nat.le_refl _))
  have e9 : (w.alloc (.cells (hcells v r n) 48)).cell? ⟨p, 9, none⟩ = some (.int .i64 (n : Int)) := ((h.alloc _).cell 9).trans rfl
  simp only [hcells] at e9
  have hel := endB_len n
  have hz : nz n < 64 := by unfold nz; omega
  go_enter Tryd.func22, Tryd.ntmps22
  go_wp2_with fail
  refine hend.mono ?_
  rintro e w1 ⟨rfl, hb1⟩
  have hB1 := (Blk.new w 48 (hcells v r n)).below hb1
  have hT1 : Tabs w1 := hT.below (((Below.refl _ w).alloc (Nat.le_refl _) _).trans (hb1.mono (by simp)))
  have hbw : Below w.heap.size w w1 := ((Below.refl _ w).alloc (Nat.le_refl _) _).trans (hb1.mono (by simp))
  have lk := World.block_lt_of_cell? w _ (hT.k 0 (by decide))
  have lb : 0 < w.heap.size := World.block_lt_of_cell? w _ (show w.cell? ⟨0, 0, none⟩ = some (.int .u32 (iv vbegin.a)) from hT.b 0 (by decide))
  have hs1 := hb1.size
  simp only [World.size_alloc] at hs1
  have hes : (S (endB n)).size ≤ 100 := by rw [sz, L_S, hel]; omega
  have hwr := write_calls w1 hT1 ⟨by have := lk; omega, by omega⟩ w.heap.size lk lb v r (S (endB n)) n hB1 (by omega) (by omega)
  clear hend c0 c1 c2 c3 c4 c5 c6 c7 c8 c9 e9 hb1 hK
  go_wp2_with fail
  refine hwr.mono ?_
  rintro e w2 ⟨rfl, hB2, ho2⟩
  have hb2 : Below w.heap.size w w2 := ho2.below_mine (fun k e => by rw [e]; exact Nat.le_refl _) hbw.size hbw
  have hdg : dig (eat (r.size + (S (endB n)).size) v (L (r ++ S (endB n)))).1 = digest v (L r) n := by
    unfold digest
    rw [L_app, L_S, sz, sz, L_S]
  obtain ⟨⟨u, l⟩, hu⟩ : ∃ x, eat (r.size + (S (endB n)).size) v (L (r ++ S (endB n))) = x := ⟨_, rfl⟩
  rw [hu] at hB2 hdg
  simp only at hB2 hdg
  have HDG := Lib.hid hdg
  obtain ⟨ua, ub, uc, ud, ue, uf, ug, uh⟩ := u
  have c0 : w2.cell? ⟨w.heap.size, 0, none⟩ = some (.int .u32 (iv ua)) := (hB2.cell 0).trans rfl
  have c1 : w2.cell? ⟨w.heap.size, 1, none⟩ = some (.int .u32 (iv ub)) := (hB2.cell 1).trans rfl
  have c2 : w2.cell? ⟨w.heap.size, 2, none⟩ = some (.int .u32 (iv uc)) := (hB2.cell 2).trans rfl
  have c3 : w2.cell? ⟨w.heap.size, 3, none⟩ = some (.int .u32 (iv ud)) := (hB2.cell 3).trans rfl
  have c4 : w2.cell? ⟨w.heap.size, 4, none⟩ = some (.int .u32 (iv ue)) := (hB2.cell 4).trans rfl
  have c5 : w2.cell? ⟨w.heap.size, 5, none⟩ = some (.int .u32 (iv uf)) := (hB2.cell 5).trans rfl
  have c6 : w2.cell? ⟨w.heap.size, 6, none⟩ = some (.int .u32 (iv ug)) := (hB2.cell 6).trans rfl
  have c7 : w2.cell? ⟨w.heap.size, 7, none⟩ = some (.int .u32 (iv uh)) := (hB2.cell 7).trans rfl
  clear hwr hu hdg hbw hB1 hs1 hT1 hes hel hz
  go_wp2
  have HWL : (words8 ⟨ua, ub, uc, ud, ue, uf, ug, uh⟩).length = 8 := rfl
  have HIX : Hid (∀ (i : Nat) (W : World), i < 8 → (Instr.index 34 (.agg (cells8 ⟨ua, ub, uc, ud, ue, uf, ug, uh⟩)) (.int .i64 (i : Int))).run Tryd.prog W = .ok (.int .u32 (iv ((words8 ⟨ua, ub, uc, ud, ue, uf, ug, uh⟩).getD i 0#32))) W) := Lib.hid (fun i W hi => index8 _ i _ hi (cells8_words _ i hi) W)
  simp only [cells8] at HIX
  obtain ⟨wl, hwl⟩ : ∃ wl, words8 ⟨ua, ub, uc, ud, ue, uf, ug, uh⟩ = wl := ⟨_, rfl⟩
  rw [hwl] at HWL HIX
  have HWW := Lib.hid hwl
  have HWL8 := Lib.hid HWL
  clear HWL hwl c0 c1 c2 c3 c4 c5 c6 c7
  obtain ⟨i0, hi, hz0, hz1, hz2⟩ := info_parts info_u8
  go_loopw [4, 18] (fun o i wr => ∃ k : Nat, k ≤ 8 ∧ i = .int .i64 k ∧ Sl wr 5 1 o (4 * k) (((wl.take k).flatMap word4).map bv) ∧ (∀ q, own o q → w.heap.size ≤ q) ∧ Below w.heap.size w wr) (fun _ i _ => 8 - (intOf i).toNat)
  case atStart => exact ⟨0, by omega, rfl, Sl.nil _ _ _, (fun q hq => by cases hq), hb2⟩
  case round =>
    clear hb2 ho2 hB2
    obtain ⟨k, hk, rfl, hs, hown, hb⟩ := hrel
    obtain ⟨A, cap, rfl, _⟩ := hs.form
    by_cases hlt : k < 8
    · have hix := fun W => HIX.out k W hlt
      have htf := take_flat wl k (by rw [HWL8.out]; exact hlt)
      have HTF := Lib.hid htf
      have hki : (k : Int) < 8 := by omega
      obtain ⟨x, hx⟩ : ∃ x, wl.getD k 0#32 = x := ⟨_, rfl⟩
      rw [hx] at HTF
      simp only [hx] at hix
      clear htf hx
      have h4 : 4 * k + 4 ≤ maxLen := by unfold maxLen; omega
      go_wp2_with (at_builtin; refine wpList_append_sl rfl _ _ 30 30 rfl 5 i0 (.int .u8 0) 1 1 Tryd.underlying30 hi hz0 hz1 hz2 rfl _ _ _ rfl (hs.alloc _) _ 4 [.int .u8 (iv x / 16777216 % 256), .int .u8 (iv x / 65536 % 256), .int .u8 (iv x / 256 % 256), .int .u8 (iv x % 256)] rfl (src_blk (Blk.new wr 5 #[.int .u8 (iv x / 16777216 % 256), .int .u8 (iv x / 65536 % 256), .int .u8 (iv x / 256 % 256), .int .u8 (iv x % 256)]) Tryd.underlying30 4 4 rfl (by simp [Value.oneCell'])) h4 (by omega) ?_)
      intro A' cap' w3 hs3 ho3 hw3
      have hv4 : ([.int .u8 (iv x / 16777216 % 256), .int .u8 (iv x / 65536 % 256), .int .u8 (iv x / 256 % 256), .int .u8 (iv x % 256)] : List Value) = (word4 x).map bv := by
        have b1 := byte24 x
        have b2 := byte16 x
        have b3 := byte8 x
        have b4 := byte0 x
        rw [IntKind.wrap_u8] at b1 b2 b3 b4
        simp only [word4, List.map_cons, List.map_nil, bv, b1, b2, b3, b4]
      rw [hv4, ← List.map_append, ← HTF.out] at hs3
      have HS3 := Lib.hid hs3
      have hb3 : Below w.heap.size w w3 := (hb.alloc hb.size _).trans (ho3.to_below (by rw [World.size_alloc]; exact Nat.le_succ_of_le hb.size) (fun q hq => hown q hq))
      have hown3 : ∀ q, own (.slice A' (4 * k + 4) cap') q → w.heap.size ≤ q := fun q hq => (hw3 q hq).elim (hown q) (fun e => by rw [e]; exact Nat.le_succ_of_le hb.size)
      have HO3 := Lib.hid hown3
      clear hs3 hv4 ho3 hw3 hown3 hs hown hb
      go_wp2
      go_roundw
      case rel => exact ⟨k + 1, by omega, by go_num, HS3.out, HO3.out, hb3⟩
      case measure => simp [intOf]; omega
    · have hke : k = 8 := by omega
      have hfin : (wl.take k).flatMap word4 = digest v (L r) n := by
        rw [hke, List.take_of_length_le (by rw [HWL8.out]; exact Nat.le_refl _), ← HWW.out]
        exact HDG.out
      rw [hfin] at hs
      have hdl : (digest v (L r) n).length = 4 * k := by
        have := hs.1
        simpa using this
      rw [← hdl] at hs
      have hconv := hs.str (P := Tryd.prog) (src := 30) (dst := 9) Tryd.underlying30 Tryd.underlying5 Tryd.underlying9
      rw [hdl] at hconv
      have hki : ¬ ((k : Int) < 8) := by omega
      have HC := Lib.hid hconv
      clear hs hfin hdl hke
      go_wp2
      go_ret
      exact ⟨rfl, hb⟩
end Go.Proofs.YtjmahkpmnajmfaaDoor.Sha
