/- crlf: CrlfPlays: whatever pieces are fed, all is as the document has it of all bytes at once. -/
import Derived.Test.YtjoeilblfcaipaaCrlfG
import Derived.StillTailTactics
namespace Go.Proofs.Ytjoeilblfcaipaa.Crlf
open Go.RowKit Go.Proofs.Ytjoeilblfcaipaa.Mem Go.Proofs.Ytjoeilblfcaipaa.X Go.Proofs.YtjoeilblfcaipaaW.PrintWords Go.Proofs.YtjoeilblfcaipaaW.PrintLast Go.Proofs.YtjoeilblfcaipaaW.PrintMore Go.Proofs.Ytjoeilblfcaipaa.Aid
open Go.Proofs.Ytjoeilblfcaipaa.SpL (sp sp_hit sp_miss sp_count sp_size lines_ev)
set_option linter.unusedVariables false
set_option linter.unusedSimpArgs false
/-- the bytes of the first pieces -/
def upto (l : List ByteArray) (k : Nat) : List UInt8 := ((l.take k).map L).flatten
theorem upto_succ (l : List ByteArray) (k : Nat) (h : k < l.length) : upto l (k + 1) = upto l k ++ L l[k] := by
  unfold upto
  rw [List.take_succ_eq_append_getElem h, List.map_append, List.flatten_append]
  congr 1
  exact List.append_nil _
theorem upto_len (l : List ByteArray) (q : Nat) (hall : ∀ s ∈ l, s.size ≤ q) : ∀ k, k ≤ l.length → (upto l k).length ≤ k * q
  | 0, _ => by simp [upto]
  | k + 1, h => by
    have := upto_len l q hall k (by omega)
    rw [upto_succ l k (by omega), List.length_append]
    have h2 := hall l[k] (List.getElem_mem (by omega))
    rw [sz] at h2
    rw [Nat.add_mul]
    omega
/-- the reader that was fed so much -/
def st (s : List UInt8) : M := fds ([], [], false) s
theorem st_sp (s : List UInt8) : (st s).1 = (sp [] s).1 ∧ tail (st s) = (sp [] s).2 := by
  have := (fds_sp s [] []).1
  exact ⟨this.1, this.2⟩
theorem st_app (s t : List UInt8) : st (s ++ t) = fds (st s) t := fds_app _ s t
theorem st_bound (s : List UInt8) : (st s).1.length ≤ s.length ∧ held (st s) ≤ s.length := by
  have := fds_bound ([], [], false) s
  have e : held ([], [], false) = 0 := rfl
  rw [e] at this
  simpa [st] using this
theorem fds_mono (m : M) (s : List UInt8) : m.1.length ≤ (fds m s).1.length := by
  obtain ⟨ws, cur, cr⟩ := m
  rw [fds_pre]
  simp
theorem judge_kind (l : List UInt8) (m : Int) : ((judge l m).1 != 0) = true := by
  unfold judge
  split
  · rfl
  · split <;> rfl
theorem my_take {w0 w4 w5 w6 : World} {b : Nat} {m : M} (hs : w4.heap.size ≤ w5.heap.size) (hB : Below w0.heap.size w0 w5) (hp : TakePost w5 b (mine w0.heap.size w4) m w6) : My w0 w6 b m :=
  ⟨hp.1.mono (mine_ext (mine_more hs) hB.size hp.2.size) mine_lt, hp.2.below_mine (fun _ h => h.1) hB.size hB⟩
/-- what a round of the statement keeps -/
def PlaysI (w : World) (b : Nat) (l : List ByteArray) (allv tk i : Value) (wr : World) : Prop :=
  ∃ (k t : Nat) (a : ByteArray), k ≤ l.length ∧ i = .int .i64 k ∧ tk = .int .i64 t ∧ allv = .string a ∧ L a = upto l k ∧ t ≤ (st (upto l k)).1.length ∧ My w wr b ((st (upto l k)).1.drop t, (st (upto l k)).2)
set_option maxHeartbeats 8000000 in
set_option maxRecDepth 100000 in
theorem plays_calls (w : World) (A : Option Addr) (c : Nat) (l : List ByteArray) (hr : Kd.C Kd.string w A l.length l) (hc : l.length ≤ c) (A1 : Option Addr) (c1 : Nat) (ms : List Int) (hr1 : Kd.C (Kd.int .i64) w A1 ms.length ms) (hc1 : ms.length ≤ c1) :
    Calls Try.prog 3 #[.slice A l.length c, .slice A1 ms.length c1] w fun e w' => e = .returned (.bool true) ∧ Below w.heap.size w w' := by
  have hms := hr1.2.1
  go_enter Try.func3, Try.ntmps3
  go_wp2_with fail
  refine (new_calls _).mono ?_
  rintro e w1 ⟨rfl, rfl⟩
  obtain ⟨b, w1, hb, hw1, hM⟩ : ∃ b w1, w.heap.size = b ∧ w.alloc (.cells #[.slice none 0 0, .slice none 0 0, .int .i64 0, .bool false, .bool false] 49) = w1 ∧ My w w1 b ([], [], false) := ⟨_, _, rfl, rfl, My.new w⟩
  rw [hw1]
  simp only [hb]
  have HB : Hid (w.heap.size = b) := hb
  clear hb hw1
  have hC := Kd.C_below hr hM.2
  obtain ⟨r, hlight, hcall⟩ := Book.light_calls w1 A c l hC hc 30 1100 (by omega)
  go_wp2_with fail
  refine hcall.mono ?_
  rintro e w3 ⟨rfl, n, rfl⟩
  have hM := hM.below (w' := w1.drewN n) (pw_below_drewN (Below.refl _ _) n)
  obtain ⟨w3, hw3⟩ : ∃ x, w1.drewN n = x := ⟨_, rfl⟩
  rw [hw3] at hM ⊢
  clear hcall hC hw3
  cases r with
  | false =>
    go_wp2_with fail
    refine (works_calls _).mono ?_
    rintro e w4 ⟨rfl, hb4⟩
    go_wp2
    go_ret
    exact ⟨rfl, hM.2.trans (hb4.mono hM.2.size)⟩
  | true =>
    obtain ⟨hlen, hall⟩ := hlight rfl
    clear hlight
    go_wp2
    go_loopw [6, 7, 8] (fun allv tk i wr => PlaysI w b l allv tk i wr) (fun _ _ i _ => l.length - (intOf i).toNat)
    case atStart => exact ⟨0, 0, ⟨#[]⟩, Nat.zero_le _, rfl, rfl, rfl, rfl, Nat.zero_le _, hM⟩
    case round =>
      clear hM
      obtain ⟨k, t, a, hk, rfl, rfl, rfl, ha, ht, hM⟩ := hrel
      have HA : Hid (L a = upto l k) := ha
      clear ha
      by_cases hlt : k < l.length
      · obtain ⟨ad, hA, hx⟩ := str_at (Kd.C_below hr hM.2) hlt
        obtain ⟨s, hs⟩ : ∃ s, l[k] = s := ⟨_, rfl⟩
        have hz : s.size ≤ 1100 := hs ▸ hall _ (List.getElem_mem hlt)
        have hu := upto_len l 1100 hall k hk
        have hu' : (upto l k).length ≤ 33000 := by have : k * 1100 ≤ 30 * 1100 := Nat.mul_le_mul_right _ (by omega); omega
        have hst := st_bound (upto l k)
        have hza : a.size ≤ 33000 := by rw [sz, HA.out]; exact hu'
        rw [hs] at hx
        subst hA
        have HU : Hid (upto l (k + 1) = upto l k ++ L s) := by show _ = _; rw [upto_succ l k hlt, hs]
        have HS : Hid (l[k] = s) := hs
        have hd1 : ((st (upto l k)).1.drop t).length ≤ (st (upto l k)).1.length := by rw [List.length_drop]; omega
        have hd2 : held ((st (upto l k)).1.drop t, (st (upto l k)).2) = held (st (upto l k)) := rfl
        have B1 : ((st (upto l k)).1.drop t).length + s.size ≤ 1000000 := by omega
        have B2 : held ((st (upto l k)).1.drop t, (st (upto l k)).2) + s.size ≤ 999990 := by omega
        clear hs hu hu' hst hd1 hd2
        go_wp2_with fail
        refine (Feed_calls _ b _ _ s hM.1 B1 B2).mono ?_
        rintro e w4 ⟨rfl, hp⟩
        have hM4 : My w w4 b ((st (upto l (k + 1))).1.drop t, (st (upto l (k + 1))).2) := by
          have := hM.step hp
          rw [show s.data.toList = L s from rfl, fds_drop _ _ _ ht, ← st_app, ← HU.out] at this
          exact this
        have ht4 : t ≤ (st (upto l (k + 1))).1.length := by
          rw [HU.out, st_app]
          exact Nat.le_trans ht (fds_mono _ _)
        have hx4 : w4.cell? (ad.add k) = some (.string s) := by
          obtain ⟨ad', hA', hx4⟩ := str_at (Kd.C_below hr hM4.2) hlt
          cases hA'
          rw [hx4, HS.out]
        have hza2 : ((a.size : Int) + s.size) ≤ 9223372036854775807 := by omega
        have HA4 : Hid (L (a ++ s) = upto l (k + 1)) := by show _ = _; rw [L_app, HA.out, HU.out]
        have hz4 : (a ++ s).size ≤ 1000000 := by rw [ByteArray.size_append]; omega
        clear hp hM hx B1 B2 ht
        go_wp2_with fail
        refine (lines_calls w4 (a ++ s) hz4).mono ?_
        rintro e w5 ⟨AL, cL, rfl, hb5, hSL, hoL⟩
        have hsp := st_sp (upto l (k + 1))
        have hheld : held (st (upto l (k + 1))) = (sp [] (upto l (k + 1))).2.length := by rw [← hsp.2, tail_len]
        rw [HA4.out, ← hsp.1] at hSL hoL
        simp only [HA4.out, ← hsp.1, ← hheld]
        obtain ⟨⟨W, R⟩, hW⟩ : ∃ x, st (upto l (k + 1)) = x := ⟨_, rfl⟩
        have HW : Hid (st (upto l (k + 1)) = (W, R)) := hW
        have hbd := st_bound (upto l (k + 1))
        have hu := upto_len l 1100 hall (k + 1) hlt
        have hu' : (upto l (k + 1)).length ≤ 33000 := by have : (k + 1) * 1100 ≤ 30 * 1100 := Nat.mul_le_mul_right _ (by omega); omega
        rw [hW] at hM4 ht4 hSL hoL hbd ⊢
        simp only at hM4 ht4 hSL hoL hbd ⊢
        have hM5 := hM4.below hb5
        have hx5 : w5.cell? (ad.add k) = some (.string s) := (hb5.cell (World.block_lt_of_cell? w4 _ hx4)).trans hx4
        have hoF : ∀ q, own (.slice AL W.length cL) q → ¬ mine w.heap.size w4 q := fun q hq h => by have := hoL q hq; have := h.2; omega
        have hwl : W.length ≤ 33000 := by omega
        have hWs : ∀ y ∈ W, y.length ≤ 33000 := fun y hy => by
          have := (sp_size _ (upto l (k + 1)) [] (Nat.le_refl _)).1 y (by rw [← hsp.1, hW]; exact hy)
          simp only [List.length_nil, Nat.zero_add] at this
          omega
        have hh1 : held ((W.drop t), R) ≤ 1000000 := by have : held (W.drop t, R) = held (W, R) := rfl; omega
        have hRd := hM4.1.below hb5
        have hs45 := hb5.size
        have hBl5 := hM4.2.trans (hb5.mono hM4.2.size)
        clear hsp hheld hW hbd hu hu' hM4 hx4 hb5 hza2 hz4 hza
        go_wp2_with fail
        refine (held_calls _ b _ _ hRd hh1).mono ?_
        rintro e w6 ⟨rfl, rfl⟩
        simp only [show held (W.drop t, R) = held (W, R) from rfl]
        obtain ⟨hd, hhd⟩ : ∃ x, held (W, R) = x := ⟨_, rfl⟩
        simp only [hhd]
        clear hhd hh1
        go_wp2_with fail
        refine (whole_calls _ b _ _ hRd).mono ?_
        rintro e w6 ⟨rfl, rfl⟩
        have hwd : ((W.drop t).length : Int) = (W.length : Int) - t := by rw [List.length_drop]; omega
        simp only [hwd]
        clear hwd
        by_cases hkm : k < ms.length
        · obtain ⟨ad1, hA1, hy⟩ := int_at (Kd.C_below hr1 hBl5) hkm
          obtain ⟨most, hmo⟩ : ∃ x, ms[k] = x := ⟨_, rfl⟩
          rw [hmo] at hy
          subst hA1
          have HMO : Hid (ms[k] = most) := hmo
          clear hmo
          by_cases htl : t < W.length
          · have hRd' : Rd w5 b (mine w.heap.size w4) (W[t] :: W.drop (t + 1), R.1, R.2) := by
              rw [List.drop_eq_getElem_cons htl] at hRd
              exact hRd
            have hpl : (W.drop (t + 1)).length ≤ 1000000 := by rw [List.length_drop]; omega
            have hkd := judge_kind W[t] most
            obtain ⟨g, off, cL', hvL, hcell⟩ := Sl.str_at (xs := W.map S) (by rw [List.length_map]; exact hSL) (i := t) (by simpa using htl)
            rw [List.length_map] at hvL
            rw [List.getElem_map] at hcell
            cases hvL
            have hgF : ¬ mine w.heap.size w4 g := hoF g rfl
            obtain ⟨x, hx⟩ : ∃ x, W[t] = x := ⟨_, rfl⟩
            have hxz : x.length ≤ 100000 := by have := hWs W[t] (List.getElem_mem htl); rw [hx] at this; omega
            rw [hx] at hRd' hkd hcell
            obtain ⟨pv, hpv⟩ : ∃ y, judge x most = y := ⟨_, rfl⟩
            have HP : Hid (judge x most = pv) := hpv
            rw [hpv] at hkd
            clear hRd hSL hoL hoF hM5 hx
            go_wp2_with fail
            refine (take_some _ b _ x _ R.1 R.2 most hRd' hpl).mono ?_
            rintro e w6 ⟨rfl, hp⟩
            have hm6 := my_take hs45 hBl5 hp
            have hcell6 : w6.cell? ⟨g, off + t, none⟩ = some (.string (S x)) :=
              (World.cell?_of_block (hp.2.block g (World.block_lt_of_cell? w5 _ hcell) hgF)).trans hcell
            have hy6 : w6.cell? (ad1.add k) = some (.int .i64 most) := by
              obtain ⟨ad', hA', hy'⟩ := int_at (Kd.C_below hr1 hm6.2) hkm
              cases hA'
              rw [hy', HMO.out]
            simp only [hpv, lineV]
            clear hp hRd' hpv hcell hy
            obtain ⟨p1, p2⟩ := pv
            simp only at hkd ⊢
            obtain ⟨ps, hps⟩ : ∃ y, (⟨p2.toArray⟩ : ByteArray) = y := ⟨_, rfl⟩
            simp only [hps]
            have HPS : Hid ((⟨p2.toArray⟩ : ByteArray) = ps) := hps
            clear hps
            go_wp2
            have hB33 := (Blk.new w6 33 #[.int .i64 p1, .string ps]).alloc (.cells #[.int .i64 0, .string ⟨#[]⟩] 36)
            have hB36 := Blk.new (w6.alloc (.cells #[.int .i64 p1, .string ps] 33)) 36 #[.int .i64 0, .string ⟨#[]⟩]
            rw [World.size_alloc] at hB36
            have hb67 : Below w6.heap.size w6 ((w6.alloc (.cells #[.int .i64 p1, .string ps] 33)).alloc (.cells #[.int .i64 0, .string ⟨#[]⟩] 36)) := ((Below.refl _ w6).alloc (Nat.le_refl _) _).alloc (by simp) _
            obtain ⟨w7, hw7⟩ : ∃ y, (w6.alloc (.cells #[.int .i64 p1, .string ps] 33)).alloc (.cells #[.int .i64 0, .string ⟨#[]⟩] 36) = y := ⟨_, rfl⟩
            have hcell7 := (hb67.cell (World.block_lt_of_cell? w6 _ hcell6)).trans hcell6
            have hy7 := (hb67.cell (World.block_lt_of_cell? w6 _ hy6)).trans hy6
            rw [hw7] at hB33 hB36 hb67 hcell7 hy7 ⊢
            have hr7 := hm6.1.below hb67
            have hl7 := hm6.2.trans (hb67.mono hm6.2.size)
            have hgw : w.heap.size ≤ w6.heap.size := hm6.2.size
            have hnF : ¬ mine w.heap.size w6 (w6.heap.size + 1) := fun h => by have := h.2; omega
            have hF6 : ∀ q, mine w.heap.size w6 q → w.heap.size ≤ q := fun q h => h.1
            obtain ⟨F6, hF6e⟩ : ∃ F, mine w.heap.size w6 = F := ⟨_, rfl⟩
            rw [hF6e] at hr7 hnF hF6
            clear hw7 hcell6 hy6 hb67 hm6 hF6e
            go_still_tail 8, (by kernel_rfl)
            change wpList _ _ _ _ _ w7.drew
            have hB33 := hB33.drew
            have hB36 := hB36.drew
            have hr7 : Rd w7.drew b F6 _ := hr7.below (pw_below_drewN (Below.refl _ w7) 1)
            have hl7 : Below w.heap.size w w7.drew := hl7.drew
            generalize w7.drew = w8 at hB33 hB36 hr7 hl7 ⊢
            go_wp2_with fail
            refine (judge_calls w8 (S x) (by rw [sz, L_S]; omega) most).mono ?_
            rintro e w9 ⟨rfl, hb9⟩
            have hB33 := hB33.below hb9
            have hB36 := hB36.below hb9
            have hr9 := hr7.below hb9
            have hl9 := hl7.trans (hb9.mono hl7.size)
            simp only [L_S, HP.out, lineV, HPS.out]
            obtain ⟨g6, hg6⟩ : ∃ y, w6.heap.size = y := ⟨_, rfl⟩
            simp only [hg6] at hB33 hB36 hgw hnF ⊢
            have q0 : w9.cell? ⟨g6, 0, none⟩ = some (.int .i64 p1) := (hB33.cell 0).trans rfl
            have q1 : w9.cell? ⟨g6, 1, none⟩ = some (.string ps) := (hB33.cell 1).trans rfl
            have q2 : w9.cell? ⟨g6 + 1, 0, none⟩ = some (.int .i64 0) := (hB36.cell 0).trans rfl
            have q3 : w9.cell? ⟨g6 + 1, 1, none⟩ = some (.string ⟨#[]⟩) := (hB36.cell 1).trans rfl
            have z2 := hB36.frozen 0
            have z3 := hB36.frozen 1
            have hp1 : (p1 == p1) = true := beq_iff_eq.mpr rfl
            have hps : (ps.toList == ps.toList) = true := beq_iff_eq.mpr rfl
            clear hr7 hl7 hb9 hcell7 hy7 hg6
            go_wp2
            go_roundw
            case rel => exact ⟨k + 1, t + 1, a ++ s, by omega, by go_num, by go_num, rfl, HA4.out, by rw [HW.out]; exact htl, by
              rw [HW.out]
              have ho := ((Only.refl (· = g6 + 1) w9).put rfl 0 (.int .i64 p1)).put rfl 1 (.string ps)
              exact ⟨(hr9.only ho (fun q h e => hnF (e ▸ h))).mono (fun q h => ⟨hF6 q h, by have := hr9.lt q h; have := ho.size; omega⟩) mine_lt, ho.below_mine (fun q e => by subst e; omega) hl9.size hl9⟩⟩
            case measure => simp [intOf]; omega
          · have htW : t = W.length := by omega
            have hRd' : Rd w5 b (mine w.heap.size w4) ([], R.1, R.2) := by
              rw [htW, List.drop_eq_nil_of_le (Nat.le_refl _)] at hRd
              exact hRd
            clear htW hRd
            go_wp2_with fail
            refine (take_none _ b _ R.1 R.2 most hRd').mono ?_
            rintro e w6 ⟨rfl, hp⟩
            simp only [lineV]
            have hm6 := my_take hs45 hBl5 hp
            clear hp hRd' hSL hoL hoF hM5
            go_wp2
            go_roundw
            case rel => exact ⟨k + 1, t, a ++ s, by omega, by go_num, rfl, rfl, HA4.out, by rw [HW.out]; exact ht4, by
              rw [HW.out, List.drop_eq_nil_of_le (show (W, R).1.length ≤ t by simp only; omega)]
              exact hm6.below (((Below.refl _ w6).alloc (Nat.le_refl _) _).alloc (by simp) _)⟩
            case measure => simp [intOf]; omega
        · clear hRd
          have hkm' : ms.length ≤ k := by omega
          go_wp2
          go_roundw
          case rel => exact ⟨k + 1, t, a ++ s, by omega, by go_num, rfl, rfl, HA4.out, by rw [HW.out]; exact ht4, by rw [HW.out]; exact hM5⟩
          case measure => simp [intOf]; omega
      · go_wp2_with fail
        refine (works_calls _).mono ?_
        rintro e w4 ⟨rfl, hb4⟩
        go_wp2
        go_ret
        exact ⟨rfl, hM.2.trans (hb4.mono hM.2.size)⟩
end Go.Proofs.Ytjoeilblfcaipaa.Crlf
