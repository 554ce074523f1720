/- crlf: CrlfCuts: fed piece by piece, or all at once, the lines are the same. -/
import Derived.Test.YtjoeilblfcaipaaCrlfG
import Derived.Test.YtjoeilblfcaipaaCrlfPl
namespace Go.Proofs.Ytjoeilblfcaipaa.Crlf
open Go.RowKit Go.Proofs.Ytjoeilblfcaipaa.Mem Go.Proofs.Ytjoeilblfcaipaa.X Go.Proofs.YtjoeilblfcaipaaW.PrintWords Go.Proofs.YtjoeilblfcaipaaW.PrintLast Go.Proofs.YtjoeilblfcaipaaW.PrintMore Go.Proofs.Ytjoeilblfcaipaa.Aid
open Go.Proofs.Ytjoeilblfcaipaa.SpL (sp sp_hit sp_miss sp_count sp_size lines_ev)
set_option linter.unusedVariables false
set_option linter.unusedSimpArgs false
def jcells (js : List (Int × List UInt8)) : List Value := js.flatMap fun p => [.int .i64 p.1, .string ⟨p.2.toArray⟩]
theorem jcells_snoc (js : List (Int × List UInt8)) (p : Int × List UInt8) : jcells (js ++ [p]) = jcells js ++ [.int .i64 p.1, .string ⟨p.2.toArray⟩] := by simp [jcells]
theorem jcells_at : ∀ (js : List (Int × List UInt8)) (i : Nat) (h : i < js.length), (jcells js)[i * 2]? = some (.int .i64 js[i].1) ∧ (jcells js)[i * 2 + 1]? = some (.string ⟨js[i].2.toArray⟩)
  | p :: js, 0, _ => by simp [jcells]
  | p :: js, i + 1, h => by
    have := jcells_at js i (by simpa using h)
    have e : jcells (p :: js) = .int .i64 p.1 :: .string ⟨p.2.toArray⟩ :: jcells js := by simp [jcells]
    rw [e, show (i + 1) * 2 = i * 2 + 1 + 1 by omega]
    simpa using this
/-- two readers, and the lines that came of the first one -/
structure Two (w0 wr : World) (a b : Nat) (Fa Fb : Nat → Prop) (ma mb : M) (vx : Value) (js : List (Int × List UInt8)) : Prop where
  ra : Rd wr a Fa ma
  rb : Rd wr b Fb mb
  ap : ∀ k, Fa k → ¬ Fb k
  sx : Sl wr 33 2 vx js.length (jcells js)
  xo : ∀ k, own vx k → ¬ Fa k ∧ ¬ Fb k ∧ w0.heap.size ≤ k
  la : ∀ k, Fa k → w0.heap.size ≤ k
  lb : ∀ k, Fb k → w0.heap.size ≤ k
  be : Below w0.heap.size w0 wr
section
variable {w0 wr w' : World} {a b : Nat} {Fa Fb : Nat → Prop} {ma mb m : M} {vx vx' : Value} {js : List (Int × List UInt8)} {p : Int × List UInt8}
theorem Two.stepA (h : Two w0 wr a b Fa Fb ma mb vx js) (hp : Rd w' a (ext Fa wr w') m ∧ Only Fa wr w') : Two w0 w' a b (ext Fa wr w') Fb m mb vx js :=
  ⟨hp.1, h.rb.only hp.2 (fun k h1 h2 => h.ap k h2 h1), fun k hk hb => hk.elim (fun e => h.ap k e hb) (fun e => by have := h.rb.lt k hb; omega), h.sx.only hp.2 (fun k hk => (h.xo k hk).1),
    fun k hk => ⟨not_ext (h.xo k hk).1 (h.sx.lt hk), (h.xo k hk).2⟩, fun k hk => hk.elim (h.la k) (fun e => Nat.le_trans h.be.size e.1), h.lb, hp.2.below_mine h.la h.be.size h.be⟩
theorem Two.stepB (h : Two w0 wr a b Fa Fb ma mb vx js) (hp : Rd w' b (ext Fb wr w') m ∧ Only Fb wr w') : Two w0 w' a b Fa (ext Fb wr w') ma m vx js :=
  ⟨h.ra.only hp.2 (fun k h1 h2 => h.ap k h1 h2), hp.1, fun k ha hk => hk.elim (fun e => h.ap k ha e) (fun e => by have := h.ra.lt k ha; omega), h.sx.only hp.2 (fun k hk => (h.xo k hk).2.1),
    fun k hk => ⟨(h.xo k hk).1, not_ext (h.xo k hk).2.1 (h.sx.lt hk), (h.xo k hk).2.2⟩, h.la, fun k hk => hk.elim (h.lb k) (fun e => Nat.le_trans h.be.size e.1), hp.2.below_mine h.lb h.be.size h.be⟩
theorem Two.below (h : Two w0 wr a b Fa Fb ma mb vx js) (hb : Below wr.heap.size wr w') : Two w0 w' a b Fa Fb ma mb vx js :=
  ⟨h.ra.below hb, h.rb.below hb, h.ap, h.sx.below hb, h.xo, h.la, h.lb, h.be.trans (hb.mono h.be.size)⟩
theorem Two.app (h : Two w0 wr a b Fa Fb ma mb vx js) (hs : Sl w' 33 2 vx' (js.length + 1) (jcells js ++ [.int .i64 p.1, .string ⟨p.2.toArray⟩])) (ho : Only (own vx) wr w') (hv : ∀ k, own vx' k → own vx k ∨ k = wr.heap.size) :
    Two w0 w' a b Fa Fb ma mb vx' (js ++ [p]) :=
  ⟨h.ra.only ho (fun k h1 h2 => (h.xo k h2).1 h1), h.rb.only ho (fun k h1 h2 => (h.xo k h2).2.1 h1), h.ap, by rw [jcells_snoc, List.length_append]; exact hs,
    fun k hk => (hv k hk).elim (h.xo k) (fun e => by subst e; exact ⟨fun q => Nat.lt_irrefl _ (h.ra.lt _ q), fun q => Nat.lt_irrefl _ (h.rb.lt _ q), h.be.size⟩), h.la, h.lb, ho.below_mine (fun k hk => (h.xo k hk).2.2) h.be.size h.be⟩
end
theorem two_new (w : World) : ∃ w2, (w.alloc (.cells #[.slice none 0 0, .slice none 0 0, .int .i64 0, .bool false, .bool false] 49)).alloc (.cells #[.slice none 0 0, .slice none 0 0, .int .i64 0, .bool false, .bool false] 49) = w2 ∧
    Two w w2 w.heap.size (w.heap.size + 1) (fun k => k = w.heap.size) (fun k => k = w.heap.size + 1) ([], [], false) ([], [], false) (.slice none 0 0) [] := by
  refine ⟨_, rfl, ?_⟩
  have h1 := rd_new w
  have h2 := rd_new (w.alloc (.cells #[.slice none 0 0, .slice none 0 0, .int .i64 0, .bool false, .bool false] 49))
  rw [World.size_alloc] at h2
  exact ⟨h1.below ((Below.refl _ _).alloc (Nat.le_refl _) _), h2, fun k e1 e2 => by omega, Sl.nil _ _ _, fun k hk => (by cases hk), fun k e => by omega, fun k e => by omega, ((Below.refl _ w).alloc (Nat.le_refl _) _).alloc (by simp) _⟩
theorem info_Line : (Try.prog.info? 33).map (fun i => (i.zero, i.size, i.bytes)) = some (some (.agg #[.int .i64 0, .string ⟨#[]⟩]), 2, 24) := by kernel_rfl
/-- what a round of the first loop keeps -/
def CutsI (w : World) (a b : Nat) (most : Int) (l : List ByteArray) (allv vx i : Value) (wr : World) : Prop :=
  ∃ (k : Nat) (s : ByteArray) (Fa Fb : Nat → Prop), k ≤ l.length ∧ i = .int .i64 k ∧ allv = .string s ∧ L s = upto l k ∧
    Two w wr a b Fa Fb ([], (st (upto l k)).2) ([], [], false) vx ((st (upto l k)).1.map (judge · most))
/-- what a round of the inner loop keeps -/
def CutsJ (w : World) (a b : Nat) (most : Int) (W : List (List UInt8)) (R : List UInt8 × Bool) (vx i : Value) (wr : World) : Prop :=
  ∃ (t : Nat) (Fa Fb : Nat → Prop), t ≤ W.length ∧ i = .int .i64 ((W.length : Int) - t) ∧ Two w wr a b Fa Fb (W.drop t, R) ([], [], false) vx ((W.take t).map (judge · most))
set_option maxHeartbeats 8000000 in
set_option maxRecDepth 100000 in
theorem cuts_calls (w : World) (A : Option Addr) (c : Nat) (l : List ByteArray) (hr : Kd.C Kd.string w A l.length l) (hc : l.length ≤ c) (most : Int) :
    Calls Try.prog 5 #[.slice A l.length c, .int .i64 most] w fun e w' => e = .returned (.bool true) ∧ Below w.heap.size w w' := by
  obtain ⟨i0, hi, hz0, hz1, hz2⟩ := info_parts info_Line
  go_enter Try.func5, Try.ntmps5
  go_wp2_with fail
  refine (works_calls _).mono ?_
  rintro e wa ⟨rfl, hba⟩
  go_wp2_with fail
  refine (new_calls _).mono ?_
  rintro e w1 ⟨rfl, rfl⟩
  go_wp2_with fail
  refine (new_calls _).mono ?_
  rintro e w1 ⟨rfl, rfl⟩
  obtain ⟨w2, hw2, hT0⟩ := two_new wa
  have hT : Two w w2 wa.heap.size (wa.heap.size + 1) (fun k => k = wa.heap.size) (fun k => k = wa.heap.size + 1) ([], [], false) ([], [], false) (.slice none 0 0) [] :=
    ⟨hT0.ra, hT0.rb, hT0.ap, hT0.sx, fun k hk => (by cases hk), fun k e => by have := hba.size; omega, fun k e => by have := hba.size; omega, hba.trans (hT0.be.mono hba.size)⟩
  obtain ⟨a, ha⟩ : ∃ x, wa.heap.size = x := ⟨_, rfl⟩
  simp only [hw2, ha, World.size_alloc] at hT ⊢
  have hC := Kd.C_below hr hT.be
  obtain ⟨r, hlight, hcall⟩ := Book.light_calls w2 A c l hC hc 30 1100 (by omega)
  clear hw2 hT0 ha
  go_wp2_with fail
  refine hcall.mono ?_
  rintro e w3 ⟨rfl, n, rfl⟩
  have hT := hT.below (w' := w2.drewN n) (pw_below_drewN (Below.refl _ _) n)
  obtain ⟨w3, hw3⟩ : ∃ x, w2.drewN n = x := ⟨_, rfl⟩
  rw [hw3] at hT ⊢
  clear hcall hC hw3
  cases r with
  | false =>
    go_wp2
    go_ret
    exact ⟨rfl, hT.be⟩
  | true =>
    obtain ⟨hlen, hall⟩ := hlight rfl
    clear hlight
    go_wp2
    go_loopw [7, 8, 41] (fun allv vx i wr => CutsI w a (a + 1) most l allv vx i wr) (fun _ _ i _ => l.length - (intOf i).toNat)
    case atStart => exact ⟨0, ⟨#[]⟩, _, _, Nat.zero_le _, rfl, rfl, rfl, hT⟩
    case round =>
      clear hT
      obtain ⟨k, al, Fa, Fb, hk, rfl, rfl, hal, hT⟩ := hrel
      have HA : Hid (L al = upto l k) := hal
      clear hal
      by_cases hlt : k < l.length
      · obtain ⟨ad, hA, hx⟩ := str_at (Kd.C_below hr hT.be) hlt
        obtain ⟨s, hs⟩ : ∃ s, l[k] = s := ⟨_, rfl⟩
        have hz : s.size ≤ 1100 := hs ▸ hall _ (List.getElem_mem hlt)
        have hu := upto_len l 1100 hall k hk
        have hu' : (upto l k).length ≤ 33000 := by have : k * 1100 ≤ 30 * 1100 := Nat.mul_le_mul_right _ (by omega); omega
        have hst := st_bound (upto l k)
        have hza : al.size ≤ 33000 := by rw [sz, HA.out]; exact hu'
        rw [hs] at hx
        subst hA
        have HU : Hid (upto l (k + 1) = upto l k ++ L s) := by show _ = _; rw [upto_succ l k hlt, hs]
        have HS : Hid (l[k] = s) := hs
        have hd2 : held ([], (st (upto l k)).2) = held (st (upto l k)) := rfl
        have B1 : ([] : List (List UInt8)).length + s.size ≤ 1000000 := by simp only [List.length_nil]; omega
        have B2 : held ([], (st (upto l k)).2) + s.size ≤ 999990 := by omega
        have ht4 : (st (upto l k)).1.length ≤ (st (upto l (k + 1))).1.length := by rw [HU.out, st_app]; exact fds_mono _ _
        have htk : (st (upto l (k + 1))).1.take (st (upto l k)).1.length = (st (upto l k)).1 := by
          rw [HU.out, st_app, show fds (st (upto l k)) (L s) = fds ((st (upto l k)).1, (st (upto l k)).2.1, (st (upto l k)).2.2) (L s) from rfl, fds_pre]
          simp
        clear hs hu hu' hst hd2
        go_wp2_with fail
        refine (Feed_calls _ a _ _ s hT.ra B1 B2).mono ?_
        rintro e w4 ⟨rfl, hp⟩
        have hT4 : Two w w4 a (a + 1) (ext Fa wr w4) Fb ((st (upto l (k + 1))).1.drop (st (upto l k)).1.length, (st (upto l (k + 1))).2) ([], [], false) u8 (((st (upto l (k + 1))).1.take (st (upto l k)).1.length).map (judge · most)) := by
          have := hT.stepA hp
          have e2 := fds_drop (st (upto l k)) (L s) (st (upto l k)).1.length (Nat.le_refl _)
          rw [List.drop_eq_nil_of_le (Nat.le_refl _)] at e2
          rw [show s.data.toList = L s from rfl, e2, ← st_app, ← HU.out] at this
          rw [htk]
          exact this
        have hx4 : w4.cell? (ad.add k) = some (.string s) := by
          obtain ⟨ad', hA', hx4⟩ := str_at (Kd.C_below hr hT4.be) hlt
          cases hA'
          rw [hx4, HS.out]
        have hza2 : ((al.size : Int) + s.size) ≤ 9223372036854775807 := by omega
        have HA4 : Hid (L (al ++ s) = upto l (k + 1)) := by show _ = _; rw [L_app, HA.out, HU.out]
        have hbd := st_bound (upto l (k + 1))
        have hu := upto_len l 1100 hall (k + 1) hlt
        have hu' : (upto l (k + 1)).length ≤ 33000 := by have : (k + 1) * 1100 ≤ 30 * 1100 := Nat.mul_le_mul_right _ (by omega); omega
        obtain ⟨⟨W, R⟩, hW⟩ : ∃ x, st (upto l (k + 1)) = x := ⟨_, rfl⟩
        have HW : Hid (st (upto l (k + 1)) = (W, R)) := hW
        obtain ⟨t0, ht0⟩ : ∃ x, (st (upto l k)).1.length = x := ⟨_, rfl⟩
        rw [hW, ht0] at hT4 ht4
        rw [hW] at hbd
        simp only at hT4 ht4 hbd
        have hwl : W.length ≤ 33000 := by omega
        clear hp hT hx B1 B2 htk hW ht0 hbd hu hu'
        go_wp2_with fail
        refine (whole_calls _ a _ _ hT4.ra).mono ?_
        rintro e w6 ⟨rfl, rfl⟩
        have hwd : ((W.drop t0).length : Int) = (W.length : Int) - t0 := by rw [List.length_drop]; omega
        simp only [hwd]
        clear hwd
        go_wp2
        go_loopw [8, 10] (fun vx i wr => CutsJ w a (a + 1) most W R vx i wr) (fun _ i _ => (intOf i).toNat)
        case atStart => exact ⟨t0, _, _, ht4, rfl, hT4⟩
        case round =>
          clear hT4 ht4 hx4
          obtain ⟨t, Fa', Fb', ht, rfl, hT⟩ := hrel
          by_cases htl : t < W.length
          · have hRd' : Rd wr a Fa' (W[t] :: W.drop (t + 1), R.1, R.2) := by
              have := hT.ra
              rw [List.drop_eq_getElem_cons htl] at this
              exact this
            have hpl : (W.drop (t + 1)).length ≤ 1000000 := by rw [List.length_drop]; omega
            have hgt : (0 : Int) < (W.length : Int) - t := by omega
            have hlt2 : (W.length : Int) - t ≤ 100000 := by omega
            have htw : (W.take (t + 1)).map (judge · most) = (W.take t).map (judge · most) ++ [judge W[t] most] := by
              rw [List.take_succ_eq_append_getElem htl, List.map_append]; rfl
            have hml : ((W.take t).map (judge · most)).length = t := by rw [List.length_map, List.length_take]; omega
            obtain ⟨x, hx⟩ : ∃ x, W[t] = x := ⟨_, rfl⟩
            rw [hx] at hRd' htw
            have HT : Hid ((W.take (t + 1)).map (judge · most) = (W.take t).map (judge · most) ++ [judge x most]) := htw
            obtain ⟨js, hjs⟩ : ∃ y, (W.take t).map (judge · most) = y := ⟨_, rfl⟩
            have HJ : Hid ((W.take t).map (judge · most) = js) := hjs
            rw [hjs] at hT hml
            obtain ⟨A8, c8, hv8, hn8, hm8⟩ := hT.sx.form
            subst hv8
            obtain ⟨pv, hpv⟩ : ∃ y, judge x most = y := ⟨_, rfl⟩
            have HP : Hid (judge x most = pv) := hpv
            have HM : Hid (js.length = t) := hml
            have hm1 : js.length ≤ 100000 := by omega
            clear htw hjs hx hml
            go_wp2_with fail
            refine (take_some _ a _ x _ R.1 R.2 most hRd' hpl).mono ?_
            rintro e w6 ⟨rfl, hp⟩
            have hT6 := hT.stepA hp
            simp only [hpv, lineV]
            clear hp hRd' hpv hT
            obtain ⟨p1, p2⟩ := pv
            simp only
            have hT7 := hT6.below ((Below.refl _ w6).alloc (Nat.le_refl _) (.cells #[.int .i64 p1, .string ⟨p2.toArray⟩] 33))
            have hT8 := hT7.below ((Below.refl _ _).alloc (Nat.le_refl _) (.cells #[.int .i64 p1, .string ⟨p2.toArray⟩] 33))
            have hsrc : Src Try.prog 2 42 (.slice (some ⟨w6.heap.size + 1, 0, none⟩) 1 1) 1 [.int .i64 p1, .string ⟨p2.toArray⟩] ((w6.alloc (.cells #[.int .i64 p1, .string ⟨p2.toArray⟩] 33)).alloc (.cells #[.int .i64 p1, .string ⟨p2.toArray⟩] 33)) := by
              have := src_blk (P := Try.prog) (size := 2) (Blk.new (w6.alloc (.cells #[.int .i64 p1, .string ⟨p2.toArray⟩] 33)) 33 #[.int .i64 p1, .string ⟨p2.toArray⟩]) Try.underlying42 1 1 rfl (by simp [Value.oneCell'])
              rw [World.size_alloc] at this
              exact this
            go_wp2_with (at_builtin; refine wpList_append_sl rfl _ _ 42 42 rfl 33 i0 _ 2 24 Try.underlying42 hi hz0 hz1 hz2 rfl _ _ _ rfl hT8.sx _ 1 [.int .i64 p1, .string ⟨p2.toArray⟩] rfl hsrc ?c1 ?c2 ?_)
            case c1 => unfold maxLen; omega
            case c2 => omega
            intro A' cap' w9 hs9 ho9 hw9
            have hT9 := hT8.app (p := (p1, p2)) hs9 ho9 (fun k h => (hw9 k h).imp_right fun e => by rw [e, World.size_alloc, World.size_alloc])
            clear hT6 hT7 hT8
            go_wp2
            go_roundw
            case rel => exact ⟨t + 1, _, _, htl, by congr 1; omega, by rw [HT.out, HJ.out, HP.out]; exact hT9⟩
            case measure => simp [intOf]; omega
          · have htW : t = W.length := by omega
            have hz : ¬ ((0 : Int) < (W.length : Int) - t) := by omega
            have hTe : Two w wr a (a + 1) Fa' Fb' ([], R) ([], [], false) u8 (W.map (judge · most)) := by
              have := hT
              rw [htW, List.drop_eq_nil_of_le (Nat.le_refl _), List.take_of_length_le (Nat.le_refl _)] at this
              exact this
            clear htW hT
            go_wp2
            go_roundw
            case rel => exact ⟨k + 1, al ++ s, _, _, by omega, by go_num, rfl, HA4.out, by rw [HW.out]; exact hTe⟩
            case measure => simp [intOf]; omega
      · have hkl : k = l.length := by omega
        subst hkl
        have hst := st_bound (upto l l.length)
        have hu := upto_len l 1100 hall l.length (Nat.le_refl _)
        have hu' : (upto l l.length).length ≤ 33000 := by have : l.length * 1100 ≤ 30 * 1100 := Nat.mul_le_mul_right _ (by omega); omega
        have hza : al.size ≤ 33000 := by rw [sz, HA.out]; exact hu'
        have B1 : ([] : List (List UInt8)).length + al.size ≤ 1000000 := by simp only [List.length_nil]; omega
        have B2 : held ([], [], false) + al.size ≤ 999990 := by show 0 + _ ≤ _; omega
        obtain ⟨⟨W, R⟩, hW⟩ : ∃ x, st (upto l l.length) = x := ⟨_, rfl⟩
        have HE : Hid (fds ([], [], false) al.data.toList = (W, R)) := by show _ = _; rw [← hW, ← HA.out]; rfl
        rw [hW] at hT hst
        simp only at hT hst
        have hwl : W.length ≤ 33000 := by omega
        have hh1 : held (W, R) ≤ 1000000 := by omega
        have hml : (W.map (judge · most)).length = W.length := List.length_map _
        clear hW hu hu' hza hst HA hk hlt
        go_wp2_with fail
        refine (Feed_calls _ (a + 1) _ _ al hT.rb B1 B2).mono ?_
        rintro e w4 ⟨rfl, hp⟩
        have hT4 := hT.stepB hp
        rw [HE.out] at hT4
        clear hp hT B1 B2 HE
        go_wp2_with fail
        refine (whole_calls _ (a + 1) _ _ hT4.rb).mono ?_
        rintro e w5 ⟨rfl, rfl⟩
        simp only
        have hsx := hT4.sx.form
        obtain ⟨A8, c8, hv8, hn8, hm8⟩ := hsx
        rw [hml] at hv8
        subst hv8
        clear hml
        go_wp2_with fail
        refine (held_calls _ a _ _ hT4.ra (show held ([], R) ≤ 1000000 from hh1)).mono ?_
        rintro e w5 ⟨rfl, rfl⟩
        simp only [show held ([], R) = held (W, R) from rfl]
        go_wp2_with fail
        refine (held_calls _ (a + 1) _ _ hT4.rb hh1).mono ?_
        rintro e w5 ⟨rfl, rfl⟩
        obtain ⟨hd, hhd⟩ : ∃ x, held (W, R) = x := ⟨_, rfl⟩
        simp only [hhd]
        clear hhd hh1
        go_wp2
        go_loopw [92] (fun i wr => ∃ (t : Nat) (Fa Fb : Nat → Prop), t ≤ W.length ∧ i = .int .i64 t ∧ Two w wr a (a + 1) Fa Fb ([], R) (W.drop t, R) (.slice A8 W.length c8) (W.map (judge · most))) (fun i _ => W.length - (intOf i).toNat)
        case atStart => exact ⟨0, _, _, Nat.zero_le _, rfl, hT4⟩
        case round =>
          clear hT4
          obtain ⟨t, Fa', Fb', ht, rfl, hT⟩ := hrel
          by_cases htl : t < W.length
          · have hRd' : Rd wr (a + 1) Fb' (W[t] :: W.drop (t + 1), R.1, R.2) := by
              have := hT.rb
              rw [List.drop_eq_getElem_cons htl] at this
              exact this
            have hpl : (W.drop (t + 1)).length ≤ 1000000 := by rw [List.length_drop]; omega
            have hml : (W.map (judge · most)).length = W.length := List.length_map _
            have hjc := jcells_at (W.map (judge · most)) t (by rw [hml]; exact htl)
            rw [List.getElem_map] at hjc
            have HJC : Hid ((jcells (W.map (judge · most)))[t * 2]? = some (.int .i64 (judge W[t] most).1) ∧ (jcells (W.map (judge · most)))[t * 2 + 1]? = some (.string ⟨(judge W[t] most).2.toArray⟩)) := hjc
            obtain ⟨x, hx⟩ : ∃ x, W[t] = x := ⟨_, rfl⟩
            rw [hx] at hRd' HJC
            obtain ⟨pv, hpv⟩ : ∃ y, judge x most = y := ⟨_, rfl⟩
            rw [hpv] at HJC
            clear hjc hx hml
            go_wp2_with fail
            refine (take_some _ (a + 1) _ x _ R.1 R.2 most hRd' hpl).mono ?_
            rintro e w6 ⟨rfl, hp⟩
            have hT6 := hT.stepB hp
            simp only [hpv, lineV]
            clear hp hRd' hpv hT
            obtain ⟨p1, p2⟩ := pv
            simp only at HJC ⊢
            obtain ⟨ps, hps⟩ : ∃ y, (⟨p2.toArray⟩ : ByteArray) = y := ⟨_, rfl⟩
            simp only [hps] at HJC ⊢
            clear hps
            go_wp2
            have hT7 := hT6.below ((Below.refl _ w6).alloc (Nat.le_refl _) (.cells #[.int .i64 p1, .string ps] 33))
            have hsx := hT7.sx
            rw [show (W.map (judge · most)).length = W.length from List.length_map _] at hsx
            obtain ⟨g, off, cap, cu, hvv, _⟩ := hsx.form_pos (by omega)
            cases hvv
            have x0 : (w6.alloc (.cells #[.int .i64 p1, .string ps] 33)).cell? ⟨g, off + t * 2, none⟩ = some (.int .i64 p1) := (hsx.cell rfl (by omega)).trans HJC.out.1
            have x1 : (w6.alloc (.cells #[.int .i64 p1, .string ps] 33)).cell? ⟨g, off + t * 2 + 1, none⟩ = some (.string ps) := by rw [Nat.add_assoc]; exact (hsx.cell rfl (by omega)).trans HJC.out.2
            have hy0 : (w6.alloc (.cells #[.int .i64 p1, .string ps] 33)).cell? ⟨w6.heap.size, 0, none⟩ = some (.int .i64 p1) := ((Blk.new w6 _ _).cell 0).trans rfl
            have hy1 : (w6.alloc (.cells #[.int .i64 p1, .string ps] 33)).cell? ⟨w6.heap.size, 1, none⟩ = some (.string ps) := ((Blk.new w6 _ _).cell 1).trans rfl
            have hp1 : (p1 == p1) = true := beq_iff_eq.mpr rfl
            have hps : (ps.toList == ps.toList) = true := beq_iff_eq.mpr rfl
            obtain ⟨w7, hw7⟩ : ∃ y, w6.alloc (.cells #[.int .i64 p1, .string ps] 33) = y := ⟨_, rfl⟩
            simp only [hw7] at hT7 x0 x1 hy0 hy1 ⊢
            obtain ⟨g7, hg7⟩ : ∃ y, w6.heap.size = y := ⟨_, rfl⟩
            simp only [hg7] at hy0 hy1 ⊢
            clear hT6 hsx hw7 hg7 HJC
            go_quiet (fail)
            have hT8 := hT7.below (w' := w7.drewN nq) (pw_below_drewN (Below.refl _ _) nq)
            go_wp2
            go_roundw
            case rel => exact ⟨t + 1, _, _, htl, by go_num, hT8⟩
            case measure => simp [intOf]; omega
          · have hRd' : Rd wr (a + 1) Fb' ([], R.1, R.2) := by
              have := hT.rb
              rw [List.drop_eq_nil_of_le (by omega)] at this
              exact this
            go_wp2_with fail
            refine (take_none _ (a + 1) _ R.1 R.2 most hRd').mono ?_
            rintro e w6 ⟨rfl, hp⟩
            simp only [lineV]
            have hT6 := hT.stepB hp
            clear hp hRd' hT
            go_wp2
            go_ret
            exact ⟨rfl, hT6.be.alloc hT6.be.size _⟩
end Go.Proofs.Ytjoeilblfcaipaa.Crlf
