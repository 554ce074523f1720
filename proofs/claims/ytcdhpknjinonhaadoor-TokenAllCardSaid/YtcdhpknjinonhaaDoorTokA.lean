/- token: TokenAll, walked. -/
import Derived.Test.YtcdhpknjinonhaaDoorTokAll
import Derived.Deep.RegionWith
namespace Go.Proofs.YtcdhpknjinonhaaDoor.Tok
open Go.RowKit Go.Proofs.YtcdhpknjinonhaaDoor.Mem Go.Proofs.YtcdhpknjinonhaaDoor.X Go.Proofs.YtcdhpknjinonhaaDoorW.PrintWords Go.Proofs.YtcdhpknjinonhaaDoorW.PrintLast Go.Proofs.YtcdhpknjinonhaaDoorW.PrintMore Go.Proofs.YtcdhpknjinonhaaDoor.Aid
open Go.Lib (decDigits itoa)
open Go.Proofs.YtcdhpknjinonhaaDoor.Mac (bc)
open Go.Proofs.YtcdhpknjinonhaaDoor.Glyph (low foldL)
set_option linter.unusedVariables false
set_option linter.unusedSimpArgs false
theorem below_f (x : Int) (m : Nat) (hm : 0 < m) (hm2 : m ≤ 1000) : ∃ k : Nat, k < m ∧ bulletinbook_Below.f x (m : Int) = some (k : Int) := by
  unfold bulletinbook_Below.f
  rw [if_neg (by omega)]
  have h1 : Int.tmod x m < m := Int.tmod_lt_of_pos x (by omega)
  have h2 : -(m : Int) < Int.tmod x m := by
    have := Int.tmod_lt_of_pos (-x) (show (0 : Int) < m by omega)
    rw [Int.neg_tmod] at this
    omega
  by_cases h : Int.tmod x m < 0
  · rw [if_pos h]
    refine ⟨(Int.tmod x m + m).toNat, by omega, ?_⟩
    rw [w64 (by omega) (by omega)]
    congr 1
    omega
  · rw [if_neg h]
    exact ⟨(Int.tmod x m).toNat, by omega, by congr 1; omega⟩
theorem fitsL_up (key : ByteArray) (n : Int) (a l o b : ByteArray) (h : upL (L b) ≠ upL (makeL key n a l o)) : fitsL key n a l o b = false := by
  unfold fitsL
  rw [decide_eq_false_iff_not]
  intro e
  exact h (by rw [e, upL_fold])
theorem fitsL_len (key : ByteArray) (n : Int) (a l o b : ByteArray) (h : b.size ≠ (makeL key n a l o).length) : fitsL key n a l o b = false := by
  unfold fitsL
  rw [decide_eq_false_iff_not]
  intro e
  rw [e, foldL_len, ← sz] at h
  exact h rfl
theorem fitsL_other (key : ByteArray) (n m : Int) (a l o b : ByteArray) (hb : foldL (L b) = makeL key n a l o) (h : m ≠ n) : fitsL key m a l o b = false := by
  unfold fitsL
  rw [decide_eq_false_iff_not, hb]
  intro e
  exact h (make_other key m n a l o e)
set_option maxHeartbeats 60000000 in
set_option maxRecDepth 100000 in
theorem all_calls (w : World) (hT : Both w) (key : ByteArray) (n : Int) (a l o : ByteArray) (at_ : Int) (c : UInt8) (more : ByteArray) (other : Int)
    (n0 : -9223372036854775808 ≤ n) (n1 : n ≤ 9223372036854775807) (m0 : -9223372036854775808 ≤ other) (m1 : other ≤ 9223372036854775807) :
    Calls Tryd.prog 5 #[.string key, .agg (tcs n a l o), .int .i64 at_, .int .u8 (c.toNat : Int), .string more, .int .i64 other] w fun e w' => e = .returned (.bool true) ∧ Below w.heap.size w w' := by
  have hB : Blk (w.alloc (.cells (tcs n a l o) 23)) w.heap.size 23 (tcs n a l o) := Blk.new w _ _
  have b1 : Below w.heap.size w (w.alloc (.cells (tcs n a l o) 23)) := (Below.refl _ w).alloc (Nat.le_refl _) _
  go_enter Tryd.func5, Tryd.ntmps5
  go_wp2_with fail
  refine (tworks_calls _ (hT.below b1)).mono ?_
  rintro e w2 ⟨rfl, c2⟩
  have b2 := b1.trans (c2.mono b1.size)
  have hB2 := hB.below c2
  obtain ⟨g, hg⟩ : ∃ x, w.heap.size = x := ⟨_, rfl⟩
  simp only [hg] at hB2
  simp only [hg]
  have hgw : w.heap.size ≤ g := by omega
  clear hg hB c2 b1
  by_cases hk : (300 : Int) < (key.size : Int)
  · go_wp2
    go_ret
    exact ⟨rfl, b2⟩
  obtain ⟨d0, d1, d2, d3⟩ := tcells hB2
  go_wp2_with fail
  refine (light_calls w2 n a l o).mono ?_
  rintro e w3 ⟨rfl, c3⟩
  have b3 := b2.trans (c3.mono b2.size)
  have hB3 := hB2.below c3
  clear d0 d1 d2 d3 hB2 c3
  obtain ⟨lb, hlb⟩ : ∃ b, lightB a l o = b := ⟨_, rfl⟩
  rw [hlb]
  cases lb with
  | false =>
    go_wp2
    go_ret
    exact ⟨rfl, b3⟩
  | true =>
  by_cases hmore : (100 : Int) < (more.size : Int)
  · go_wp2
    go_ret
    exact ⟨rfl, b3⟩
  have hlight : a.size ≤ 100 ∧ l.size ≤ 100 ∧ o.size ≤ 300 := by
    unfold lightB at hlb
    rw [decide_eq_true_eq] at hlb
    exact hlb
  have hlt : Lt n a l o := ⟨n0, n1, hlight.1, hlight.2.1, hlight.2.2⟩
  have hlt2 : Lt other a l o := ⟨m0, m1, hlight.1, hlight.2.1, hlight.2.2⟩
  have hk1 : key.size ≤ 1000 := by omega
  have HLT := Lib.hid hlt
  have HLT2 := Lib.hid hlt2
  clear hlb hlt hlt2 hlight
  obtain ⟨d0, d1, d2, d3⟩ := tcells hB3
  go_wp2_with fail
  refine (to_calls w3 n a l o).mono ?_
  rintro e w4 ⟨rfl, c4⟩
  have b4 := b3.trans (c4.mono b3.size)
  have hB4 := hB3.below c4
  clear d0 d1 d2 d3 hB3 c4
  go_wp2_with fail
  have hT4 : Blk (w4.alloc (.cells (tcs n a l o) 27)) w4.heap.size 27 (tcs n a l o) := Blk.new w4 _ _
  have b5 : Below w.heap.size w (w4.alloc (.cells (tcs n a l o) 27)) := b4.alloc b4.size _
  have hB5 := hB4.alloc (.cells (tcs n a l o) 27)
  refine (make_calls _ (hT.below b5) key n a l o hk1 HLT.out).mono ?_
  rintro e w6 ⟨rfl, c6⟩
  have b6 := b5.trans (c6.mono b5.size)
  have hB6 := hB5.below c6
  have hT6 := hT4.below c6
  have hgq : g < w4.heap.size := hB4.lt
  have hwq : w.heap.size ≤ w4.heap.size := b4.size
  obtain ⟨q, hq⟩ : ∃ x, w4.heap.size = x := ⟨_, rfl⟩
  simp only [hq] at hT6 hgq hwq
  simp only [hq]
  clear hq hT4 hB4 hB5 b5 c6 b4
  obtain ⟨M, hM⟩ : ∃ M, makeL key n a l o = M := ⟨_, rfl⟩
  have hlen := makeL_len key n a l o
  have hil := itoa_len n n0 n1
  have hine := List.length_pos_iff.2 (itoa_ne n)
  have hfold := fold_make key n a l o
  rw [hM] at hlen hfold
  rw [hM]
  obtain ⟨s, hs⟩ : ∃ s, S M = s := ⟨_, rfl⟩
  have hsL : L s = M := by rw [← hs, L_S]
  have hs18 : 18 ≤ s.size := by rw [sz, hsL]; omega
  have hs37 : s.size ≤ 37 := by rw [sz, hsL]; omega
  rw [hs]
  clear hs hlen hil hine
  have HM := Lib.hid hM
  have HSL := Lib.hid hsL
  have HFO := Lib.hid hfold
  clear hM hsL hfold
  obtain ⟨k, hk3, hbf⟩ := below_f at_ s.size (by omega) (by omega)
  go_wp2_with fail
  refine (bulletinbook_Below.calls at_ (s.size : Int) (k : Int) w6 hbf).mono ?_
  rintro e w7 ⟨rfl, hq7⟩
  obtain ⟨dn, rfl⟩ := hq7.out
  have b7 : Below w.heap.size w (w6.drewN dn) := pw_below_drewN b6 dn
  have hB7 := hB6.drewN dn
  have hT7 := hT6.drewN dn
  obtain ⟨w7, hw7⟩ : ∃ x, w6.drewN dn = x := ⟨_, rfl⟩
  rw [hw7] at b7 hB7 hT7
  rw [hw7]
  clear hw7 hB6 hT6 b6 hbf hq7
  have hconv := run_bytes_of_string (P := Tryd.prog) w7 9 38 5 s Tryd.underlying9 Tryd.underlying38 Tryd.underlying5
  have hR := Row.conv w7 s
  have hcz : s.size ≤ grownCap w7 s.size 0 5 := grownCap_ge w7 s.size 0 5
  obtain ⟨cap, hcap⟩ : ∃ x, grownCap w7 s.size 0 5 = x := ⟨_, rfl⟩
  rw [hcap] at hconv hR hcz
  have b8 : Below w.heap.size w (w7.drew.alloc (.cells (bytesRow s cap) 5 ((bytesRow s cap).size, (bytesRow s cap).size + 1))) := b7.drew.alloc b7.size _
  have hB8 := hB7.drew.alloc (.cells (bytesRow s cap) 5 ((bytesRow s cap).size, (bytesRow s cap).size + 1))
  have hT8 := hT7.drew.alloc (.cells (bytesRow s cap) 5 ((bytesRow s cap).size, (bytesRow s cap).size + 1))
  obtain ⟨w8, hw8⟩ : ∃ x, w7.drew.alloc (.cells (bytesRow s cap) 5 ((bytesRow s cap).size, (bytesRow s cap).size + 1)) = x := ⟨_, rfl⟩
  rw [hw8] at hconv hR b8 hB8 hT8
  have hgp : g < w7.heap.size := hB7.lt
  have hqp : q < w7.heap.size := hT7.lt
  have hwp : w.heap.size ≤ w7.heap.size := b7.size
  obtain ⟨p, hp⟩ : ∃ x, w7.heap.size = x := ⟨_, rfl⟩
  rw [hp] at hconv hR hgp hqp hwp
  clear hw8 hcap hp b7 hB7 hT7
  have hLk : k < (L s).length := by rw [← sz]; exact hk3
  have hLz : (L s).length = s.size := (sz s).symm
  have hck : ∃ u, w8.cell? ⟨p, k, none⟩ = some u := ⟨_, hR.at_ k hLk⟩
  obtain ⟨ck, hck⟩ := hck
  have hfk := hR.free k hLk
  have hR9 := hR.set_ k hLk c
  have b9 := b8.setCell (p := ⟨p, k, none⟩) hwp (bc c)
  have hB9 := hB8.far (p := ⟨p, k, none⟩) (by show g ≠ p; omega) (bc c)
  have hT9 := hT8.far (p := ⟨p, k, none⟩) (by show q ≠ p; omega) (bc c)
  have hkc : k < cap := by omega
  clear hR b8 hB8 hT8
  have HLZ := Lib.hid hLz
  clear hLz hLk
  obtain ⟨w9, hw9⟩ : ∃ x, w8.setCell ⟨p, k, none⟩ (.int .u8 (c.toNat : Int)) = x := ⟨_, rfl⟩
  change Row (w8.setCell ⟨p, k, none⟩ (.int .u8 (c.toNat : Int))) p ((L s).set k c) at hR9
  change Below w.heap.size w (w8.setCell ⟨p, k, none⟩ (.int .u8 (c.toNat : Int))) at b9
  change Blk (w8.setCell ⟨p, k, none⟩ (.int .u8 (c.toNat : Int))) g 23 (tcs n a l o) at hB9
  change Blk (w8.setCell ⟨p, k, none⟩ (.int .u8 (c.toNat : Int))) q 27 (tcs n a l o) at hT9
  rw [hw9] at hR9 b9 hB9 hT9
  have hcv := hR9.str (cap := cap)
  have hsl : ((L s).set k c).length = s.size := by rw [List.length_set, HLZ.out]
  rw [hsl] at hcv
  obtain ⟨bb, hbb⟩ : ∃ bb, S ((L s).set k c) = bb := ⟨_, rfl⟩
  have hbL : L bb = (L s).set k c := by rw [← hbb, L_S]
  have hbz : bb.size = s.size := by rw [sz, hbL, hsl]
  rw [hbb] at hcv
  have HBL := Lib.hid hbL
  have HSL2 := Lib.hid hsl
  clear hbb hbL hsl
  go_wp2_with fail
  refine (upper_calls w9 bb (by omega)).mono ?_
  rintro e w10 ⟨rfl, c10⟩
  have b10 := b9.trans (c10.mono b9.size)
  have hB10 := hB9.below c10
  have hT10 := hT9.below c10
  have hR10 := hR9.below c10 (by rw [HSL2.out]; omega)
  obtain ⟨ub, hub⟩ : ∃ x, S (upL (L bb)) = x := ⟨_, rfl⟩
  have hubL : L ub = upL (L bb) := by rw [← hub, L_S]
  simp only [hub]
  have HUB := Lib.hid hubL
  clear hcv hR9 b9 hB9 hT9 c10 hub hubL hconv hck hfk hw9
  go_wp2_with fail
  refine (upper_calls w10 s (by omega)).mono ?_
  rintro e w11 ⟨rfl, c11⟩
  have b11 := b10.trans (c11.mono b10.size)
  have hB11 := hB10.below c11
  have hT11 := hT10.below c11
  have hR11 := hR10.below c11 (by rw [HSL2.out]; omega)
  obtain ⟨us, hus⟩ : ∃ x, S (upL (L s)) = x := ⟨_, rfl⟩
  have husL : L us = upL M := by rw [← hus, L_S, HSL.out]
  simp only [hus]
  have HUS := Lib.hid husL
  clear hR10 b10 hB10 hT10 c11 hus husL
  obtain ⟨d0, d1, d2, d3⟩ := tcells hT11
  have hcv := hR11.str (cap := cap)
  rw [HSL2.out] at hcv
  have hbS : S ((L s).set k c) = bb := by apply L_inj; rw [L_S, HBL.out]
  rw [hbS] at hcv
  clear hbS
  have hmz : M.length = s.size := by rw [← HSL.out]; exact HLZ.out
  have HF1 : Hid (∀ W x, Below w.heap.size w W → x = s ++ more → more.size ≠ 0 → Calls Tryd.prog 11 #[.string key, .agg #[.int .i64 n, .string a, .string l, .string o], .string x] W fun e w' => e = .returned (.bool false) ∧ Below W.heap.size W w') := Lib.hid fun W x hW hx hm => by
    subst hx
    have hz : (s ++ more).size = s.size + more.size := ByteArray.size_append
    have h := fits_calls W (hT.below hW) key n a l o (s ++ more) hk1 HLT.out (by omega)
    rw [fitsL_len key n a l o (s ++ more) (by rw [HM.out, hmz, hz]; omega)] at h
    exact h
  have HF2 : Hid (∀ W x, Below w.heap.size w W → x = s.extract 0 k → Calls Tryd.prog 11 #[.string key, .agg #[.int .i64 n, .string a, .string l, .string o], .string x] W fun e w' => e = .returned (.bool false) ∧ Below W.heap.size W w') := Lib.hid fun W x hW hx => by
    subst hx
    have hz : (s.extract 0 k).size = k := by rw [ByteArray.size_extract]; omega
    have h := fits_calls W (hT.below hW) key n a l o (s.extract 0 k) hk1 HLT.out (by omega)
    rw [fitsL_len key n a l o (s.extract 0 k) (by rw [HM.out, hmz, hz]; omega)] at h
    exact h
  clear hmz
  have HO : Hid (other ≠ n → fitsL key other a l o s = false) := Lib.hid fun h => fitsL_other key n other a l o s (by rw [HSL.out, HM.out]; exact HFO.out) h
  have hs3 : s.size ≤ 100000 := by omega
  by_cases hne : ub = us
  · have hnb : (ub.toList == us.toList) = true := by subst hne; simp
    go_wp2_with fail
    clear hnb hne d0 d1 d2 d3
    have hks : k ≤ s.size := by omega
    have b12' : Below w.heap.size w w11.drew := b11.drew
    have hT12' := hT11.drew
    have hB12' := hB11.drew
    obtain ⟨d0, d1, d2, d3⟩ := tcells hT12'
    by_cases hm : more.size = 0
    · have hm1 : (more.toList == []) = true := by
        rw [beq_iff_eq, tl]
        rw [sz] at hm
        exact List.length_eq_zero_iff.1 hm
      clear hR11 hcv HUB HUS HBL HSL2 HLZ HFO HSL HM HLT hk3 hcz hgp hqp hwp hgw hs18 hs37 b2 b3 b11 hT11 hB11
      refine wp_region_any (by kernel_rfl) ?_
      try (change wpAny _ _ _ _ _ _ _ (World.drew _))
      refine wpAny_take (i := 0) (v := ?vv1) rfl (by kernel_rfl) (by kernel_rfl) (by kernel_rfl) (fun _ _ _ h => h) (Or.inl ⟨by kernel_rfl, ?hh1⟩) ?rr1
      case hh1 => (intro w; go_simp; try with_reducible rfl)
      refine wpAny_take (i := 1) (v := ?vv2) rfl (by kernel_rfl) (by kernel_rfl) (by kernel_rfl) (fun _ _ _ h => h) (Or.inl ⟨by kernel_rfl, ?hh2⟩) ?rr2
      case hh2 => (intro w; go_simp; try with_reducible rfl)
      refine wpAny_take (i := 2) (v := ?vv3) rfl (by kernel_rfl) (by kernel_rfl) (by kernel_rfl) (fun _ _ _ h => h) (Or.inl ⟨by kernel_rfl, ?hh3⟩) ?rr3
      case hh3 => (intro w; go_simp; try with_reducible rfl)
      refine wpAny_take (i := 3) (v := undef) rfl (by kernel_rfl) (by kernel_rfl) (by kernel_rfl) (fun _ _ _ h => h) (Or.inr ⟨by kernel_rfl, rfl⟩) ?_
      refine wpAny_take (i := 4) (v := undef) rfl (by kernel_rfl) (by kernel_rfl) (by kernel_rfl) (fun _ _ _ h => h) (Or.inr ⟨by kernel_rfl, rfl⟩) ?_
      refine wpAny_take (i := 5) (v := undef) rfl (by kernel_rfl) (by kernel_rfl) (by kernel_rfl) (fun _ _ _ h => h) (Or.inr ⟨by kernel_rfl, rfl⟩) ?_
      refine wpAny_take (i := 6) (v := undef) rfl (by kernel_rfl) (by kernel_rfl) (by kernel_rfl) (fun _ _ _ h => h) (Or.inr ⟨by kernel_rfl, rfl⟩) ?_
      refine wpAny_take (i := 7) (v := undef) rfl (by kernel_rfl) (by kernel_rfl) (by kernel_rfl) (fun _ _ _ h => h) (Or.inr ⟨by kernel_rfl, rfl⟩) ?_
      refine wpAny_take (i := 8) (v := undef) rfl (by kernel_rfl) (by kernel_rfl) (by kernel_rfl) (fun _ _ _ h => h) (Or.inr ⟨by kernel_rfl, rfl⟩) ?_
      refine wpAny_take (i := 9) (v := ?vv4) rfl (by kernel_rfl) (by kernel_rfl) (by kernel_rfl) (fun _ _ _ h => h) (Or.inl ⟨by kernel_rfl, ?hh4⟩) ?rr4
      case hh4 => (intro w; go_simp; try with_reducible rfl)
      refine wpAny_take (i := 10) (v := ?vv5) rfl (by kernel_rfl) (by kernel_rfl) (by kernel_rfl) (fun _ _ _ h => h) (Or.inl ⟨by kernel_rfl, ?hh5⟩) ?rr5
      case hh5 => (intro w; go_simp; try with_reducible rfl)
      refine wpAny_take (i := 11) (v := ?vv6) rfl (by kernel_rfl) (by kernel_rfl) (by kernel_rfl) (fun _ _ _ h => h) (Or.inl ⟨by kernel_rfl, ?hh6⟩) ?rr6
      case hh6 => (intro w; go_simp; try with_reducible rfl)
      refine wpAny_take (i := 13) (v := ?vv7) rfl (by kernel_rfl) (by kernel_rfl) (by kernel_rfl) (fun _ _ _ h => h) (Or.inl ⟨by kernel_rfl, ?hh7⟩) ?rr7
      case hh7 => (intro w; go_simp; try with_reducible rfl)
      refine wpAny_take (i := 14) (v := ?vv8) rfl (by kernel_rfl) (by kernel_rfl) (by kernel_rfl) (fun _ _ _ h => h) (Or.inl ⟨by kernel_rfl, ?hh8⟩) ?rr8
      case hh8 => (intro w; go_simp; try with_reducible rfl)
      refine wpAny_take (i := 15) (v := ?vv9) rfl (by kernel_rfl) (by kernel_rfl) (by kernel_rfl) (fun _ _ _ h => h) (Or.inl ⟨by kernel_rfl, ?hh9⟩) ?rr9
      case hh9 => (intro w; go_simp; try with_reducible rfl)
      refine wpAny_ready (rs := [12]) (by kernel_rfl) (by simp) (AllReady.cons rfl (fun K hK => ?_) AllReady.nil)
      go_simp
      refine hK _ _ ?_
      clear hK K
      refine wpAny_ready (rs := [16]) (by kernel_rfl) (by simp) (AllReady.cons rfl (fun K hK => ?_) AllReady.nil)
      go_simp
      go_wp2_with (go_at_call 11; refine (HF2.out _ _ ?_ ?_).mono ?_; exact b12'; rfl; rintro e w14 ⟨rfl, c14⟩; have b14 := b12'.trans (c14.mono b12'.size); have hT14 := hT12'.below c14; have hB14 := hB12'.below c14)
      refine wpAny_take (i := 17) (v := ?vv10) rfl (by kernel_rfl) (by kernel_rfl) (by kernel_rfl) (fun _ _ _ h => h) (Or.inl ⟨by kernel_rfl, ?hh10⟩) ?rr10
      case hh10 => (intro w; go_simp; try with_reducible rfl)
      refine wpAny_done (by kernel_rfl) ?_ _
      all_goals
        have hB15 := hB14.far (p := ⟨q, 0, none⟩) (by show g ≠ q; omega) (.int .i64 other)
        have hT15 : Blk (w14.setCell ⟨q, 0, none⟩ (.int .i64 other)) q 27 (tcs other a l o) := hT14.set_ 0 (.int .i64 other)
        have b15 := b14.setCell (p := ⟨q, 0, none⟩) hwq (.int .i64 other)
        have e0 := (tcells hT14).1
        have e1 := hT14.frozen 0
        have e2 := (tcells hB15).1
        obtain ⟨f0, f1, f2, f3⟩ := tcells hT15
        clear hgq hwq
        by_cases hon : other = n
        · have ho1 : decide (other = n) = true := decide_eq_true hon
          have ho2 : (other == n) = true := beq_iff_eq.2 hon
          clear hon
          go_wp2
          go_ret
          exact ⟨rfl, b15⟩
        · have ho1 : decide (other = n) = false := decide_eq_false hon
          have ho2 : (other == n) = false := beq_eq_false_iff_ne.2 hon
          have ho3 := HO.out hon
          clear hon
          go_wp2_with fail
          refine (fits_calls _ (hT.below b15) key other a l o s hk1 HLT2.out hs3).mono ?_
          rintro e w16 ⟨rfl, c16⟩
          rw [ho3]
          have b16 := b15.trans (c16.mono b15.size)
          clear ho3
          go_wp2
          go_ret
          exact ⟨rfl, b16⟩
    · have hm1 : (more.toList == []) = false := by
        rw [beq_eq_false_iff_ne]
        intro e
        exact hm (by rw [sz, ← tl, e]; rfl)
      have hsm : (s.size : Int) + more.size ≤ 9223372036854775807 := by omega
      clear hR11 hcv HUB HUS HBL HSL2 HLZ HFO HSL HM HLT hk3 hcz hgp hqp hwp hgw hs18 hs37 b2 b3 b11 hT11 hB11
      go_region_with (first
        | (go_at_call 11; refine (HF1.out _ _ ?_ ?_ hm).mono ?_; exact b12'; rfl; rintro e w13 ⟨rfl, c13⟩; have b13 := b12'.trans (c13.mono b12'.size); have hT13 := hT12'.below c13; have hB13 := hB12'.below c13; obtain ⟨j0, j1, j2, j3⟩ := tcells hT13)
        | (go_at_call 11; refine (HF2.out _ _ ?_ ?_).mono ?_; exact b13; rfl; rintro e w14 ⟨rfl, c14⟩; have b14 := b13.trans (c14.mono b13.size); have hT14 := hT13.below c14; have hB14 := hB13.below c14))
      all_goals
        have hB15 := hB14.far (p := ⟨q, 0, none⟩) (by show g ≠ q; omega) (.int .i64 other)
        have hT15 : Blk (w14.setCell ⟨q, 0, none⟩ (.int .i64 other)) q 27 (tcs other a l o) := hT14.set_ 0 (.int .i64 other)
        have b15 := b14.setCell (p := ⟨q, 0, none⟩) hwq (.int .i64 other)
        have e0 := (tcells hT14).1
        have e1 := hT14.frozen 0
        have e2 := (tcells hB15).1
        obtain ⟨f0, f1, f2, f3⟩ := tcells hT15
        clear hgq hwq
        by_cases hon : other = n
        · have ho1 : decide (other = n) = true := decide_eq_true hon
          have ho2 : (other == n) = true := beq_iff_eq.2 hon
          clear hon
          go_wp2
          go_ret
          exact ⟨rfl, b15⟩
        · have ho1 : decide (other = n) = false := decide_eq_false hon
          have ho2 : (other == n) = false := beq_eq_false_iff_ne.2 hon
          have ho3 := HO.out hon
          clear hon
          go_wp2_with fail
          refine (fits_calls _ (hT.below b15) key other a l o s hk1 HLT2.out hs3).mono ?_
          rintro e w16 ⟨rfl, c16⟩
          rw [ho3]
          have b16 := b15.trans (c16.mono b15.size)
          clear ho3
          go_wp2
          go_ret
          exact ⟨rfl, b16⟩
  · have hnb : (ub.toList == us.toList) = false := by
      rw [beq_eq_false_iff_ne]
      intro e
      exact hne ((eq_iff_L _ _).1 e)
    have hfb : fitsL key n a l o bb = false := fitsL_up key n a l o bb (by
      rw [HM.out, ← HUB.out, ← HUS.out]
      exact fun e => hne (L_inj e))
    go_wp2_with fail
    refine (fits_calls w11 (hT.below b11) key n a l o bb hk1 HLT.out (by omega)).mono ?_
    rintro e w12 ⟨rfl, c12⟩
    rw [hfb]
    have b12 := b11.trans (c12.mono b11.size)
    have hT12 := hT11.below c12
    have hB12 := hB11.below c12
    clear hfb hnb hne d0 d1 d2 d3
    go_wp2_with fail
    have hks : k ≤ s.size := by omega
    have b12' : Below w.heap.size w w12.drew := b12.drew
    have hT12' := hT12.drew
    have hB12' := hB12.drew
    obtain ⟨d0, d1, d2, d3⟩ := tcells hT12'
    by_cases hm : more.size = 0
    · have hm1 : (more.toList == []) = true := by
        rw [beq_iff_eq, tl]
        rw [sz] at hm
        exact List.length_eq_zero_iff.1 hm
      clear hR11 hcv HUB HUS HBL HSL2 HLZ HFO HSL HM HLT hk3 hcz hgp hqp hwp hgw hs18 hs37 b2 b3 b11 hT11 hB11 b12 hT12 hB12 c12
      refine wp_region_any (by kernel_rfl) ?_
      try (change wpAny _ _ _ _ _ _ _ (World.drew _))
      refine wpAny_take (i := 0) (v := ?vv11) rfl (by kernel_rfl) (by kernel_rfl) (by kernel_rfl) (fun _ _ _ h => h) (Or.inl ⟨by kernel_rfl, ?hh11⟩) ?rr11
      case hh11 => (intro w; go_simp; try with_reducible rfl)
      refine wpAny_take (i := 1) (v := ?vv12) rfl (by kernel_rfl) (by kernel_rfl) (by kernel_rfl) (fun _ _ _ h => h) (Or.inl ⟨by kernel_rfl, ?hh12⟩) ?rr12
      case hh12 => (intro w; go_simp; try with_reducible rfl)
      refine wpAny_take (i := 2) (v := ?vv13) rfl (by kernel_rfl) (by kernel_rfl) (by kernel_rfl) (fun _ _ _ h => h) (Or.inl ⟨by kernel_rfl, ?hh13⟩) ?rr13
      case hh13 => (intro w; go_simp; try with_reducible rfl)
      refine wpAny_take (i := 3) (v := undef) rfl (by kernel_rfl) (by kernel_rfl) (by kernel_rfl) (fun _ _ _ h => h) (Or.inr ⟨by kernel_rfl, rfl⟩) ?_
      refine wpAny_take (i := 4) (v := undef) rfl (by kernel_rfl) (by kernel_rfl) (by kernel_rfl) (fun _ _ _ h => h) (Or.inr ⟨by kernel_rfl, rfl⟩) ?_
      refine wpAny_take (i := 5) (v := undef) rfl (by kernel_rfl) (by kernel_rfl) (by kernel_rfl) (fun _ _ _ h => h) (Or.inr ⟨by kernel_rfl, rfl⟩) ?_
      refine wpAny_take (i := 6) (v := undef) rfl (by kernel_rfl) (by kernel_rfl) (by kernel_rfl) (fun _ _ _ h => h) (Or.inr ⟨by kernel_rfl, rfl⟩) ?_
      refine wpAny_take (i := 7) (v := undef) rfl (by kernel_rfl) (by kernel_rfl) (by kernel_rfl) (fun _ _ _ h => h) (Or.inr ⟨by kernel_rfl, rfl⟩) ?_
      refine wpAny_take (i := 8) (v := undef) rfl (by kernel_rfl) (by kernel_rfl) (by kernel_rfl) (fun _ _ _ h => h) (Or.inr ⟨by kernel_rfl, rfl⟩) ?_
      refine wpAny_take (i := 9) (v := ?vv14) rfl (by kernel_rfl) (by kernel_rfl) (by kernel_rfl) (fun _ _ _ h => h) (Or.inl ⟨by kernel_rfl, ?hh14⟩) ?rr14
      case hh14 => (intro w; go_simp; try with_reducible rfl)
      refine wpAny_take (i := 10) (v := ?vv15) rfl (by kernel_rfl) (by kernel_rfl) (by kernel_rfl) (fun _ _ _ h => h) (Or.inl ⟨by kernel_rfl, ?hh15⟩) ?rr15
      case hh15 => (intro w; go_simp; try with_reducible rfl)
      refine wpAny_take (i := 11) (v := ?vv16) rfl (by kernel_rfl) (by kernel_rfl) (by kernel_rfl) (fun _ _ _ h => h) (Or.inl ⟨by kernel_rfl, ?hh16⟩) ?rr16
      case hh16 => (intro w; go_simp; try with_reducible rfl)
      refine wpAny_take (i := 13) (v := ?vv17) rfl (by kernel_rfl) (by kernel_rfl) (by kernel_rfl) (fun _ _ _ h => h) (Or.inl ⟨by kernel_rfl, ?hh17⟩) ?rr17
      case hh17 => (intro w; go_simp; try with_reducible rfl)
      refine wpAny_take (i := 14) (v := ?vv18) rfl (by kernel_rfl) (by kernel_rfl) (by kernel_rfl) (fun _ _ _ h => h) (Or.inl ⟨by kernel_rfl, ?hh18⟩) ?rr18
      case hh18 => (intro w; go_simp; try with_reducible rfl)
      refine wpAny_take (i := 15) (v := ?vv19) rfl (by kernel_rfl) (by kernel_rfl) (by kernel_rfl) (fun _ _ _ h => h) (Or.inl ⟨by kernel_rfl, ?hh19⟩) ?rr19
      case hh19 => (intro w; go_simp; try with_reducible rfl)
      refine wpAny_ready (rs := [12]) (by kernel_rfl) (by simp) (AllReady.cons rfl (fun K hK => ?_) AllReady.nil)
      go_simp
      refine hK _ _ ?_
      clear hK K
      refine wpAny_ready (rs := [16]) (by kernel_rfl) (by simp) (AllReady.cons rfl (fun K hK => ?_) AllReady.nil)
      go_simp
      go_wp2_with (go_at_call 11; refine (HF2.out _ _ ?_ ?_).mono ?_; exact b12'; rfl; rintro e w14 ⟨rfl, c14⟩; have b14 := b12'.trans (c14.mono b12'.size); have hT14 := hT12'.below c14; have hB14 := hB12'.below c14)
      refine wpAny_take (i := 17) (v := ?vv20) rfl (by kernel_rfl) (by kernel_rfl) (by kernel_rfl) (fun _ _ _ h => h) (Or.inl ⟨by kernel_rfl, ?hh20⟩) ?rr20
      case hh20 => (intro w; go_simp; try with_reducible rfl)
      refine wpAny_done (by kernel_rfl) ?_ _
      all_goals
        have hB15 := hB14.far (p := ⟨q, 0, none⟩) (by show g ≠ q; omega) (.int .i64 other)
        have hT15 : Blk (w14.setCell ⟨q, 0, none⟩ (.int .i64 other)) q 27 (tcs other a l o) := hT14.set_ 0 (.int .i64 other)
        have b15 := b14.setCell (p := ⟨q, 0, none⟩) hwq (.int .i64 other)
        have e0 := (tcells hT14).1
        have e1 := hT14.frozen 0
        have e2 := (tcells hB15).1
        obtain ⟨f0, f1, f2, f3⟩ := tcells hT15
        clear hgq hwq
        by_cases hon : other = n
        · have ho1 : decide (other = n) = true := decide_eq_true hon
          have ho2 : (other == n) = true := beq_iff_eq.2 hon
          clear hon
          go_wp2
          go_ret
          exact ⟨rfl, b15⟩
        · have ho1 : decide (other = n) = false := decide_eq_false hon
          have ho2 : (other == n) = false := beq_eq_false_iff_ne.2 hon
          have ho3 := HO.out hon
          clear hon
          go_wp2_with fail
          refine (fits_calls _ (hT.below b15) key other a l o s hk1 HLT2.out hs3).mono ?_
          rintro e w16 ⟨rfl, c16⟩
          rw [ho3]
          have b16 := b15.trans (c16.mono b15.size)
          clear ho3
          go_wp2
          go_ret
          exact ⟨rfl, b16⟩
    · have hm1 : (more.toList == []) = false := by
        rw [beq_eq_false_iff_ne]
        intro e
        exact hm (by rw [sz, ← tl, e]; rfl)
      have hsm : (s.size : Int) + more.size ≤ 9223372036854775807 := by omega
      clear hR11 hcv HUB HUS HBL HSL2 HLZ HFO HSL HM HLT hk3 hcz hgp hqp hwp hgw hs18 hs37 b2 b3 b11 hT11 hB11 b12 hT12 hB12 c12
      go_region_with (first
        | (go_at_call 11; refine (HF1.out _ _ ?_ ?_ hm).mono ?_; exact b12'; rfl; rintro e w13 ⟨rfl, c13⟩; have b13 := b12'.trans (c13.mono b12'.size); have hT13 := hT12'.below c13; have hB13 := hB12'.below c13; obtain ⟨j0, j1, j2, j3⟩ := tcells hT13)
        | (go_at_call 11; refine (HF2.out _ _ ?_ ?_).mono ?_; exact b13; rfl; rintro e w14 ⟨rfl, c14⟩; have b14 := b13.trans (c14.mono b13.size); have hT14 := hT13.below c14; have hB14 := hB13.below c14))
      all_goals
        have hB15 := hB14.far (p := ⟨q, 0, none⟩) (by show g ≠ q; omega) (.int .i64 other)
        have hT15 : Blk (w14.setCell ⟨q, 0, none⟩ (.int .i64 other)) q 27 (tcs other a l o) := hT14.set_ 0 (.int .i64 other)
        have b15 := b14.setCell (p := ⟨q, 0, none⟩) hwq (.int .i64 other)
        have e0 := (tcells hT14).1
        have e1 := hT14.frozen 0
        have e2 := (tcells hB15).1
        obtain ⟨f0, f1, f2, f3⟩ := tcells hT15
        clear hgq hwq
        by_cases hon : other = n
        · have ho1 : decide (other = n) = true := decide_eq_true hon
          have ho2 : (other == n) = true := beq_iff_eq.2 hon
          clear hon
          go_wp2
          go_ret
          exact ⟨rfl, b15⟩
        · have ho1 : decide (other = n) = false := decide_eq_false hon
          have ho2 : (other == n) = false := beq_eq_false_iff_ne.2 hon
          have ho3 := HO.out hon
          clear hon
          go_wp2_with fail
          refine (fits_calls _ (hT.below b15) key other a l o s hk1 HLT2.out hs3).mono ?_
          rintro e w16 ⟨rfl, c16⟩
          rw [ho3]
          have b16 := b15.trans (c16.mono b15.size)
          clear ho3
          go_wp2
          go_ret
          exact ⟨rfl, b16⟩
end Go.Proofs.YtcdhpknjinonhaaDoor.Tok
