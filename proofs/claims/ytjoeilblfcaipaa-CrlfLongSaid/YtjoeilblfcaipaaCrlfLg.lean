/- crlf: CrlfLong: a line of so many bytes is long by any limit just if it has more, or more than 998. -/
import Derived.Test.YtjoeilblfcaipaaCrlfJ
namespace Go.Proofs.Ytjoeilblfcaipaa.Crlf
open Go.RowKit Go.Proofs.Ytjoeilblfcaipaa.Mem Go.Proofs.Ytjoeilblfcaipaa.X Go.Proofs.YtjoeilblfcaipaaW.PrintWords Go.Proofs.YtjoeilblfcaipaaW.PrintLast Go.Proofs.YtjoeilblfcaipaaW.PrintMore Go.Proofs.Ytjoeilblfcaipaa.Aid
set_option linter.unusedVariables false
set_option linter.unusedSimpArgs false
/-- bytes 'x' -/
def xs (n : Nat) : List UInt8 := List.replicate n 120
theorem xs_take (n r : Nat) (h : r ≤ n) : ((xs n).map bv).take (r * 1) = (xs r).map bv := by
  rw [Nat.mul_one, ← List.map_take]; simp [xs, Nat.min_eq_left h]
theorem xs_drop (n r : Nat) : ((xs n).map bv).drop (r * 1) = (xs (n - r)).map bv := by
  rw [Nat.mul_one, ← List.map_drop]; simp [xs]
theorem xs_app (r q : Nat) : xs r ++ xs q = xs (r + q) := by simp [xs]
theorem xs_len (r : Nat) : (xs r).length = r := by simp [xs]
theorem bad_xs (n : Nat) : bad (xs n) = false := bad_of _ fun k hk => by simp [xs]
set_option maxHeartbeats 4000000 in
set_option maxRecDepth 100000 in
theorem long_calls (w : World) (n0 most cut : Int) (hc : (Lit.int .i64 cut).wf = true) :
    Calls Try.prog 4 #[.int .i64 n0, .int .i64 most, .int .i64 cut] w fun e w' => e = .returned (.bool true) ∧ Below w.heap.size w w' := by
  by_cases h0 : n0 < 0
  · go_enter Try.func4, Try.ntmps4
    go_wp2_with fail
    refine (works_calls _).mono ?_
    rintro e w1 ⟨rfl, hb1⟩
    go_wp2
    go_ret
    exact ⟨rfl, hb1⟩
  by_cases h1 : n0 > 1200
  · go_enter Try.func4, Try.ntmps4
    go_wp2_with fail
    refine (works_calls _).mono ?_
    rintro e w1 ⟨rfl, hb1⟩
    go_wp2
    go_ret
    exact ⟨rfl, hb1⟩
  obtain ⟨n, rfl⟩ : ∃ n : Nat, n0 = n := ⟨n0.toNat, by omega⟩
  have hn : n ≤ 1200 := by omega
  obtain ⟨i0, hi, hz0, hz1, hz2⟩ := info_parts info_u8
  have hmk : ∀ W, (Instr.makeSlice 39 (.int .i64 (n : Int)) (.int .i64 (n : Int))).run Try.prog W = .ok (.slice (some ⟨W.heap.size, 0, none⟩) n n) (W.alloc (.cells (Array.replicate n (.int .u8 0)) 5)) := fun W => by
    rw [run_make_sl (P := Try.prog) 39 5 i0 (.int .u8 0) Try.underlying39 hi hz0 .i64 .i64 n (by rw [hz2]; omega) (by omega) W, hz1, Nat.mul_one]
    congr 3
    exact madeCells_one _ n
  clear h0 h1 hi hz0 hz1 hz2
  go_enter Try.func4, Try.ntmps4
  go_wp2_with fail
  refine (new_calls _).mono ?_
  rintro e w1 ⟨rfl, rfl⟩
  have hM0 := My.new w
  obtain ⟨b, w1, hb, hw1, hM⟩ : ∃ b w1, w.heap.size = b ∧ w.alloc (.cells #[.slice none 0 0, .slice none 0 0, .int .i64 0, .bool false, .bool false] 49) = w1 ∧ My w w1 b ([], [], false) := ⟨_, _, rfl, rfl, hM0⟩
  rw [hw1]
  simp only [hb]
  have HB : Hid (w.heap.size = b) := hb
  clear hb hw1 hM0
  go_wp2
  have hR : Rd (w1.alloc (.cells (Array.replicate n (.int .u8 0)) 5)) b (mine w.heap.size w1) ([], [], false) := hM.1.below ((Below.refl _ _).alloc (Nat.le_refl _) _)
  have hBl : Below w.heap.size w (w1.alloc (.cells (Array.replicate n (.int .u8 0)) 5)) := hM.2.alloc hM.2.size _
  have hG := Blk.new w1 5 (Array.replicate n (.int .u8 0))
  obtain ⟨g, hg⟩ : ∃ g, w1.heap.size = g := ⟨_, rfl⟩
  have hgF : ¬ mine w.heap.size w1 g := fun h => by have := h.2; omega
  have hgw : w.heap.size ≤ g := by rw [← hg]; exact hM.2.size
  obtain ⟨F, hF⟩ : ∃ F, mine w.heap.size w1 = F := ⟨_, rfl⟩
  have hFw : ∀ k, F k → w.heap.size ≤ k := by rw [← hF]; exact fun k h => h.1
  obtain ⟨w2, hw2⟩ : ∃ x, w1.alloc (.cells (Array.replicate n (.int .u8 0)) 5) = x := ⟨_, rfl⟩
  rw [hF] at hR hgF
  rw [hg] at hG
  rw [hw2] at hR hBl hG ⊢
  simp only [hg]
  clear hF hg hw2 hM hmk
  go_loopw [28] (fun i wr => ∃ k : Nat, ∃ cs : Array Value, k ≤ n ∧ i = .int .i64 k ∧ Rd wr b F ([], [], false) ∧ Below w.heap.size w wr ∧ Blk wr g 5 cs ∧ cs.size = n ∧ ∀ j, j < k → cs[j]? = some (.int .u8 120)) (fun i _ => n - (intOf i).toNat)
  case atStart => exact ⟨0, _, Nat.zero_le _, rfl, hR, hBl, hG, by simp, fun j hj => by omega⟩
  case round =>
    clear hR hBl hG
    obtain ⟨k, cs, hk, rfl, hR, hBl, hG, hcs, h120⟩ := hrel
    have H120 : Hid (∀ j, j < k → cs[j]? = some (.int .u8 120)) := h120
    have HCS : Hid (cs.size = n) := hcs
    clear h120 hcs
    by_cases hlt : k < n
    · obtain ⟨u, hu⟩ : ∃ u, wr.cell? ⟨g, k, none⟩ = some u := by
        rw [hG.cell]
        exact ⟨_, Array.getElem?_eq_getElem (by rw [HCS.out]; exact hlt)⟩
      have hfz := hG.frozen k
      go_wp2
      go_roundw
      case rel => exact ⟨k + 1, _, by omega, by go_num, hR.only ((Only.refl (· = g) wr).put rfl k _) (fun i h e => hgF (e ▸ h)), hBl.setCell (p := ⟨g, k, none⟩) hgw _, hG.set_ k _, by simpa using HCS.out, fun j hj => by
        rw [Array.getElem?_setIfInBounds]
        by_cases e : k = j
        · rw [if_pos e, if_pos (by rw [HCS.out]; omega)]
        · rw [if_neg e]; exact H120.out j (by omega)⟩
      case measure => simp [intOf]; omega
    · have hS : Sl wr 5 1 (.slice (some ⟨g, 0, none⟩) n n) n ((xs n).map bv) := by
        have := Sl.of_blk (size := 1) hG (Nat.le_refl n) (by unfold maxLen; omega) (by rw [HCS.out]; omega)
        have e : cs.toList.take (n * 1) = (xs n).map bv := by
          apply List.ext_getElem?
          intro j
          by_cases hj : j < n
          · rw [List.getElem?_take_of_lt (by omega), Array.getElem?_toList, H120.out j (by omega)]
            simp [xs, hj, bv]
          · rw [List.getElem?_eq_none (by rw [List.length_take]; omega), List.getElem?_eq_none (by simp [xs]; omega)]
        rw [e] at this
        exact this
      obtain ⟨r, hrn, hbl⟩ := below_calls wr cut (n + 1) (by omega) (by omega) hc
      clear H120 HCS hk
      go_wp2_with fail
      refine (show Calls Try.prog 16 #[.int .i64 cut, .int .i64 ((n : Int) + 1)] wr _ from hbl).mono ?_
      rintro e w3 ⟨rfl, q, rfl⟩
      have hS := hS.drewN q
      have hR := hR.below (pw_below_drewN (Below.refl _ wr) q)
      have hBl := hBl.trans ((pw_below_drewN (Below.refl _ wr) q).mono hBl.size)
      have hgl : g < (wr.drewN q).heap.size := hS.lt rfl
      obtain ⟨w3, hw3⟩ : ∃ x, wr.drewN q = x := ⟨_, rfl⟩
      rw [hw3] at hS hR hBl hgl ⊢
      clear hw3 hbl
      have hS1 : Sl w3 5 1 (.slice (some ⟨g, 0, none⟩) r n) (xs r).length ((xs r).map bv) := by
        have := hS.upto (k := r) (by omega)
        rw [xs_take n r (by omega)] at this
        rw [xs_len]; exact this
      have hcv1 := hS1.str (P := Try.prog) Try.underlying39 Try.underlying5 Try.underlying9
      go_wp2_with fail
      refine (Feed_calls _ b F _ (⟨(xs r).toArray⟩ : ByteArray) hR (by show 0 + (S (xs r)).size ≤ _; rw [sz, L_S, xs_len]; omega) (by show 0 + (S (xs r)).size ≤ _; rw [sz, L_S, xs_len]; omega)).mono ?_
      rintro e w4 ⟨rfl, hp⟩
      have hR4 : Rd w4 b (ext F w3 w4) ([], xs r, false) := by
        have := hp.1
        rw [show (⟨(xs r).toArray⟩ : ByteArray).data.toList = xs r by simp, fds_clean [] [] _ (bad_xs r)] at this
        exact this
      have ho4 := hp.2
      have hS4 := hS.only ho4 (fun k hk => by cases hk; exact hgF)
      have hgF4 := not_ext (b := w4) hgF hgl
      have hFw4 : ∀ k, ext F w3 w4 k → w.heap.size ≤ k := fun k hk => hk.elim (hFw k) (fun h => Nat.le_trans hBl.size h.1)
      have hBl4 := ho4.below_mine hFw hBl.size hBl
      have hgl4 : g < w4.heap.size := hS4.lt rfl
      obtain ⟨F4, hF4⟩ : ∃ x, ext F w3 w4 = x := ⟨_, rfl⟩
      rw [hF4] at hR4 hgF4 hFw4
      clear hp ho4 hF4 hS hR hBl hgl hS1 hcv1 hgF hFw
      have hS5 : Sl w4 5 1 (.slice (if n = r then some ⟨g, 0, none⟩ else some ⟨g, r, none⟩) (n - r) (n - r)) (xs (n - r)).length ((xs (n - r)).map bv) := by
        have := hS4.cut (k := r) (by omega)
        rw [xs_drop n r] at this
        rw [xs_len]
        have hadd : (⟨g, 0, none⟩ : Addr).add (r * 1) = ⟨g, r, none⟩ := by unfold Addr.add; split <;> simp_all
        simp only [Option.map_some, hadd] at this
        exact this
      by_cases hnr : n = r
      · subst hnr
        have hcv2 := hS5.str (P := Try.prog) Try.underlying39 Try.underlying5 Try.underlying9
        have hcv3 := fun (W : World) (hW : Sl W 5 1 (.slice (some ⟨g, 0, none⟩) n n) (xs n).length ((xs n).map bv)) => hW.str (P := Try.prog) Try.underlying39 Try.underlying5 Try.underlying9
        have HCV : Hid (∀ W, Sl W 5 1 (.slice (some ⟨g, 0, none⟩) n n) (xs n).length ((xs n).map bv) → (convert 39 9 (.slice (some ⟨g, 0, none⟩) n n)).run Try.prog W = .ok (.string ⟨(xs n).toArray⟩) W) := hcv3
        clear hcv3
        rw [if_pos rfl] at hcv2
        simp only [Nat.sub_self] at hcv2
        obtain ⟨s2, hs2⟩ : ∃ x, (⟨(xs 0).toArray⟩ : ByteArray) = x := ⟨_, rfl⟩
        rw [hs2] at hcv2
        have hz2 : s2.size ≤ 1200 := by rw [← hs2, sz, L_lit, xs_len]; omega
        have HL : Hid (L s2 = xs 0) := by show _ = _; rw [← hs2, L_lit]
        clear hs2
        go_wp2_with fail
        have hss : (s2 ++ (⟨#[13, 10]⟩ : ByteArray)).size = s2.size + 2 := by rw [ByteArray.size_append]; rfl
        refine (Feed_calls _ b F4 _ _ hR4 (by rw [hss]; show 0 + _ ≤ _; omega) (by rw [hss]; show (xs n).length + 0 + _ ≤ _; rw [xs_len]; omega)).mono ?_
        rintro e w5 ⟨rfl, hp⟩
        have hR5 : Rd w5 b (ext F4 w4 w5) ([xs n], [], false) := by
          have := hp.1
          rw [show (s2 ++ (⟨#[13, 10]⟩ : ByteArray)).data.toList = L s2 ++ [13, 10] by simp [L], HL.out, fds_app, fds_clean [] _ _ (bad_xs _), xs_app, show n + 0 = n from rfl] at this
          exact this
        have ho5 := hp.2
        have hS5' := hS4.only ho5 (fun k hk => by cases hk; exact hgF4)
        have hBl5 := ho5.below_mine hFw4 hBl4.size hBl4
        have hgF5 := not_ext (b := w5) hgF4 hgl4
        have hgl5 : g < w5.heap.size := hS5'.lt rfl
        have hFw5 : ∀ k, ext F4 w4 w5 k → w.heap.size ≤ k := fun k hk => hk.elim (hFw4 k) (fun h => Nat.le_trans hBl4.size h.1)
        obtain ⟨F5, hF5⟩ : ∃ x, ext F4 w4 w5 = x := ⟨_, rfl⟩
        rw [hF5] at hR5 hgF5 hFw5
        clear hp ho5 hF5 hS5 hS4 hcv2 hss hR4 hgF4 hFw4 hgl4 hBl4
        go_wp2_with fail
        refine (take_some _ b F5 (xs n) [] [] false most hR5 (by decide)).mono ?_
        rintro e w6 ⟨rfl, hp⟩
        have hS6 := hS5'.only hp.2 (fun k hk => by cases hk; exact hgF5)
        have hBl6 := hp.2.below_mine hFw5 hBl5.size hBl5
        clear hp hS5' hR5 hgF5 hFw5 hBl5
        obtain ⟨pv, hpv⟩ : ∃ x, judge (xs n) most = x := ⟨_, rfl⟩
        have HP : Hid (judge (xs n) most = pv) := hpv
        simp only [hpv, lineV]
        clear hpv
        obtain ⟨p1, p2⟩ := pv
        simp only
        have hcv4 := HCV.out _ (by rw [xs_len]; exact hS6.alloc (.cells #[.int .i64 p1, .string ⟨p2.toArray⟩] 33))
        go_wp2_with fail
        refine (judge_calls _ (⟨(xs n).toArray⟩ : ByteArray) (by rw [sz, L_lit, xs_len]; omega) most).mono ?_
        rintro e w7 ⟨rfl, hb7⟩
        have hy0 := (((Blk.new w6 33 #[.int .i64 p1, .string ⟨p2.toArray⟩]).same (hb7.block _ (by simp))).cell 0).trans rfl
        have hy1 := (((Blk.new w6 33 #[.int .i64 p1, .string ⟨p2.toArray⟩]).same (hb7.block _ (by simp))).cell 1).trans rfl
        have hBl7 := (hBl6.alloc hBl6.size (.cells #[.int .i64 p1, .string ⟨p2.toArray⟩] 33)).trans (hb7.mono (by have := hBl6.size; simp; omega))
        have hz7 : w6.heap.size < w7.heap.size := by have := hb7.size; simp at this; omega
        simp only [L_lit, HP.out, lineV]
        obtain ⟨g6, hg6⟩ : ∃ x, w6.heap.size = x := ⟨_, rfl⟩
        simp only [hg6] at hy0 hy1 hz7 ⊢
        obtain ⟨ps, hps⟩ : ∃ x, (⟨p2.toArray⟩ : ByteArray) = x := ⟨_, rfl⟩
        simp only [hps] at hy1 ⊢
        clear hcv4 hS6 HP hb7 hBl6 hg6 hps
        have hp1 : (p1 == p1) = true := beq_iff_eq.mpr rfl
        have hps : (ps.toList == ps.toList) = true := beq_iff_eq.mpr rfl
        go_wp2_with fail
        refine (works_calls _).mono ?_
        rintro e w8 ⟨rfl, hb8⟩
        go_wp2
        go_ret
        exact ⟨rfl, (hBl7.alloc hBl7.size _).trans (hb8.mono (by have := hBl7.size; simp; omega))⟩
      · have hcv2 := hS5.str (P := Try.prog) Try.underlying39 Try.underlying5 Try.underlying9
        have hcv3 := fun (W : World) (hW : Sl W 5 1 (.slice (some ⟨g, 0, none⟩) n n) (xs n).length ((xs n).map bv)) => hW.str (P := Try.prog) Try.underlying39 Try.underlying5 Try.underlying9
        have HCV : Hid (∀ W, Sl W 5 1 (.slice (some ⟨g, 0, none⟩) n n) (xs n).length ((xs n).map bv) → (convert 39 9 (.slice (some ⟨g, 0, none⟩) n n)).run Try.prog W = .ok (.string ⟨(xs n).toArray⟩) W) := hcv3
        clear hcv3
        rw [if_neg hnr] at hcv2
        obtain ⟨s2, hs2⟩ : ∃ x, (⟨(xs (n - r)).toArray⟩ : ByteArray) = x := ⟨_, rfl⟩
        rw [hs2] at hcv2
        have hz2 : s2.size ≤ 1200 := by rw [← hs2, sz, L_lit, xs_len]; omega
        have HL : Hid (L s2 = xs (n - r)) := by show _ = _; rw [← hs2, L_lit]
        clear hs2
        go_wp2_with fail
        have hss : (s2 ++ (⟨#[13, 10]⟩ : ByteArray)).size = s2.size + 2 := by rw [ByteArray.size_append]; rfl
        refine (Feed_calls _ b F4 _ _ hR4 (by rw [hss]; show 0 + _ ≤ _; omega) (by rw [hss]; show (xs r).length + 0 + _ ≤ _; rw [xs_len]; omega)).mono ?_
        rintro e w5 ⟨rfl, hp⟩
        have hR5 : Rd w5 b (ext F4 w4 w5) ([xs n], [], false) := by
          have := hp.1
          rw [show (s2 ++ (⟨#[13, 10]⟩ : ByteArray)).data.toList = L s2 ++ [13, 10] by simp [L], HL.out, fds_app, fds_clean [] _ _ (bad_xs _), xs_app, show r + (n - r) = n by omega] at this
          exact this
        have ho5 := hp.2
        have hS5' := hS4.only ho5 (fun k hk => by cases hk; exact hgF4)
        have hBl5 := ho5.below_mine hFw4 hBl4.size hBl4
        have hgF5 := not_ext (b := w5) hgF4 hgl4
        have hgl5 : g < w5.heap.size := hS5'.lt rfl
        have hFw5 : ∀ k, ext F4 w4 w5 k → w.heap.size ≤ k := fun k hk => hk.elim (hFw4 k) (fun h => Nat.le_trans hBl4.size h.1)
        obtain ⟨F5, hF5⟩ : ∃ x, ext F4 w4 w5 = x := ⟨_, rfl⟩
        rw [hF5] at hR5 hgF5 hFw5
        clear hp ho5 hF5 hS5 hS4 hcv2 hss hR4 hgF4 hFw4 hgl4 hBl4
        go_wp2_with fail
        refine (take_some _ b F5 (xs n) [] [] false most hR5 (by decide)).mono ?_
        rintro e w6 ⟨rfl, hp⟩
        have hS6 := hS5'.only hp.2 (fun k hk => by cases hk; exact hgF5)
        have hBl6 := hp.2.below_mine hFw5 hBl5.size hBl5
        clear hp hS5' hR5 hgF5 hFw5 hBl5
        obtain ⟨pv, hpv⟩ : ∃ x, judge (xs n) most = x := ⟨_, rfl⟩
        have HP : Hid (judge (xs n) most = pv) := hpv
        simp only [hpv, lineV]
        clear hpv
        obtain ⟨p1, p2⟩ := pv
        simp only
        have hcv4 := HCV.out _ (by rw [xs_len]; exact hS6.alloc (.cells #[.int .i64 p1, .string ⟨p2.toArray⟩] 33))
        go_wp2_with fail
        refine (judge_calls _ (⟨(xs n).toArray⟩ : ByteArray) (by rw [sz, L_lit, xs_len]; omega) most).mono ?_
        rintro e w7 ⟨rfl, hb7⟩
        have hy0 := (((Blk.new w6 33 #[.int .i64 p1, .string ⟨p2.toArray⟩]).same (hb7.block _ (by simp))).cell 0).trans rfl
        have hy1 := (((Blk.new w6 33 #[.int .i64 p1, .string ⟨p2.toArray⟩]).same (hb7.block _ (by simp))).cell 1).trans rfl
        have hBl7 := (hBl6.alloc hBl6.size (.cells #[.int .i64 p1, .string ⟨p2.toArray⟩] 33)).trans (hb7.mono (by have := hBl6.size; simp; omega))
        have hz7 : w6.heap.size < w7.heap.size := by have := hb7.size; simp at this; omega
        simp only [L_lit, HP.out, lineV]
        obtain ⟨g6, hg6⟩ : ∃ x, w6.heap.size = x := ⟨_, rfl⟩
        simp only [hg6] at hy0 hy1 hz7 ⊢
        obtain ⟨ps, hps⟩ : ∃ x, (⟨p2.toArray⟩ : ByteArray) = x := ⟨_, rfl⟩
        simp only [hps] at hy1 ⊢
        clear hcv4 hS6 HP hb7 hBl6 hg6 hps
        have hp1 : (p1 == p1) = true := beq_iff_eq.mpr rfl
        have hps : (ps.toList == ps.toList) = true := beq_iff_eq.mpr rfl
        go_wp2_with fail
        refine (works_calls _).mono ?_
        rintro e w8 ⟨rfl, hb8⟩
        go_wp2
        go_ret
        exact ⟨rfl, (hBl7.alloc hBl7.size _).trans (hb8.mono (by have := hBl7.size; simp; omega))⟩
end Go.Proofs.Ytjoeilblfcaipaa.Crlf
