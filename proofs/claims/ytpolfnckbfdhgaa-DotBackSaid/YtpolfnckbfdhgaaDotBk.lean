/- dot: DotBack. -/
import Derived.Test.YtpolfnckbfdhgaaDotQ
namespace Go.Proofs.Ytpolfnckbfdhgaa.Dot
open Go.RowKit Go.Proofs.Ytpolfnckbfdhgaa.Mem Go.Proofs.Ytpolfnckbfdhgaa.SpL Go.Proofs.Ytpolfnckbfdhgaa.X Go.Proofs.YtpolfnckbfdhgaaW.PrintWords Go.Proofs.YtpolfnckbfdhgaaW.PrintLast Go.Proofs.YtpolfnckbfdhgaaW.PrintMore Go.Proofs.Ytpolfnckbfdhgaa.Aid Go.Proofs.Ytpolfnckbfdhgaa.Crlf
set_option linter.unusedVariables false
set_option linter.unusedSimpArgs false
/-- a reader and a body of the call's own, apart from one another -/
def Two (B : Nat) (w : World) (r : Nat) (m : M) (b : Nat) (s : St) : Prop :=
  ∃ F G, Rd w r F m ∧ Bd w b G 3000 s ∧ (∀ k, F k → ¬ G k) ∧ (∀ k, F k → B ≤ k) ∧ (∀ k, G k → B ≤ k) ∧ B ≤ w.heap.size
theorem Two.reader {B : Nat} {w : World} {r : Nat} {m : M} {b : Nat} {s : St} (h : Two B w r m b s) :
    ∃ F, Rd w r F m ∧ ∀ w' m', (Rd w' r (ext F w w') m' ∧ Only F w w') → Two B w' r m' b s ∧ Below B w w' := by
  obtain ⟨F, G, hr, hb, hd, hF, hG, hB⟩ := h
  refine ⟨F, hr, fun w' m' hp => ⟨⟨ext F w w', G, hp.1, hb.only hp.2 (fun k hk hf => hd k hf hk), fun k hk hg => ?_, fun k hk => ?_, hG, Nat.le_trans hB hp.2.size⟩, hp.2.to_below hB hF⟩⟩
  · rcases hk with hk | hk
    · exact hd k hk hg
    · have := hb.lt k hg; omega
  · rcases hk with hk | hk
    · exact hF k hk
    · omega
theorem Two.body {B : Nat} {w : World} {r : Nat} {m : M} {b : Nat} {s : St} (h : Two B w r m b s) :
    ∃ G, Bd w b G 3000 s ∧ (∀ w' s', (Bd w' b (ext G w w') 3000 s' ∧ Only G w w') → Two B w' r m b s' ∧ Below B w w') ∧ (∀ w', (Bd w' b G 3000 s ∧ Only G w w') → Two B w' r m b s ∧ Below B w w') ∧ (∀ k, G k → B ≤ k) := by
  obtain ⟨F, G, hr, hb, hd, hF, hG, hB⟩ := h
  refine ⟨G, hb, fun w' s' hp => ⟨⟨F, ext G w w', hr.only hp.2 hd, hp.1, fun k hk hg => ?_, hF, fun k hk => ?_, Nat.le_trans hB hp.2.size⟩, hp.2.to_below hB hG⟩, fun w' hp => ⟨⟨F, G, hr.only hp.2 hd, hp.1, hd, hF, hG, Nat.le_trans hB hp.2.size⟩, hp.2.to_below hB hG⟩, hG⟩
  · rcases hg with hg | hg
    · exact hd k hk hg
    · have := hr.lt k hk; omega
  · rcases hk with hk | hk
    · exact hG k hk
    · omega
theorem Two.below {B : Nat} {w w' : World} {r : Nat} {m : M} {b : Nat} {s : St} (h : Two B w r m b s) (hb : Below w.heap.size w w') : Two B w' r m b s := by
  obtain ⟨F, G, hr, hbd, hd, hF, hG, hB⟩ := h
  exact ⟨F, G, hr.below hb, hbd.below hb, hd, hF, hG, Nat.le_trans hB hb.size⟩
theorem two_new (w : World) (B : Nat) (hB : B ≤ w.heap.size) : Two B ((w.alloc (.cells #[.slice none 0 0, .slice none 0 0, .int .i64 0, .bool false, .bool false] 67)).alloc (.cells (bcells 3000 (.pointer none) (.slice none 0 0) 0 false false) 61)) w.heap.size ([], [], false) (w.heap.size + 1) ⟨[], false, false⟩ := by
  have hr := (rd_new w).below ((Below.refl _ (w.alloc (.cells #[.slice none 0 0, .slice none 0 0, .int .i64 0, .bool false, .bool false] 67))).alloc (Nat.le_refl _) (.cells (bcells 3000 (.pointer none) (.slice none 0 0) 0 false false) 61))
  have hb := bd_new (w.alloc (.cells #[.slice none 0 0, .slice none 0 0, .int .i64 0, .bool false, .bool false] 67)) 3000
  rw [World.size_alloc] at hb
  exact ⟨_, _, hr, hb, fun k h1 h2 => by omega, fun k hk => by omega, fun k hk => by omega, by simp; omega⟩
set_option maxHeartbeats 4000000 in
set_option maxRecDepth 100000 in
theorem back_calls (w : World) (s bh : ByteArray) (hT : Tabs w) :
    Calls Try.prog 5 #[.string s, .string bh] w fun e w' => e = .returned (.bool true) ∧ Below w.heap.size w w' := by
  go_enter Try.func5, Try.ntmps5
  go_wp2_with fail
  refine (works_calls _ hT).mono ?_
  rintro e w1 ⟨rfl, hb1⟩
  by_cases hz : s.size > 2000
  · have hd : decide (2000 < (s.size : Int)) = true := decide_eq_true (by omega)
    go_wp2
    go_ret
    exact ⟨rfl, hb1⟩
  have hd : decide (2000 < (s.size : Int)) = false := decide_eq_false (by omega)
  by_cases hz2 : bh.size > 500
  · have hd2 : decide (500 < (bh.size : Int)) = true := decide_eq_true (by omega)
    go_wp2
    go_ret
    exact ⟨rfl, hb1⟩
  have hd2 : decide (500 < (bh.size : Int)) = false := decide_eq_false (by omega)
  have hl : (L s).length ≤ 2000 := by rw [← sz]; omega
  obtain ⟨r, hev, hfull⟩ := lined_ev s hl
  obtain ⟨k, hk⟩ := hev.rounds
  have HK := Lib.hid hk
  clear hk hev
  go_wp2_with fail
  refine (bulletinlaw29_lined.calls k s r _ HK.out).mono ?_
  rintro e w2 ⟨rfl, hd0⟩
  obtain ⟨n2, rfl⟩ := hd0.out
  have hb2 : Below w.heap.size w (w1.drewN n2) := pw_below_drewN hb1 n2
  obtain ⟨w2, hw2⟩ : ∃ x, w1.drewN n2 = x := ⟨_, rfl⟩
  simp only [hw2] at hb2 ⊢
  clear hw2 hb1 hd0
  cases r with
  | false =>
    go_wp2
    go_ret
    exact ⟨rfl, hb2⟩
  | true =>
    have HF := Lib.hid (hfull rfl)
    clear hfull
    go_wp2_with fail
    refine (Crlf.new_calls _).mono ?_
    rintro e w3 ⟨rfl, rfl⟩
    go_wp2_with fail
    refine (new_calls _ _).mono ?_
    rintro e w3 ⟨rfl, rfl⟩
    have hN := two_new w2 w.heap.size hb2.size
    have hb3 : Below w.heap.size w ((w2.alloc (.cells #[.slice none 0 0, .slice none 0 0, .int .i64 0, .bool false, .bool false] 67)).alloc (.cells (bcells 3000 (.pointer none) (.slice none 0 0) 0 false false) 61)) := (hb2.alloc hb2.size _).alloc (by have := hb2.size; simp; omega) _
    rw [World.size_alloc]
    obtain ⟨w3, hw3⟩ : ∃ x, (w2.alloc (.cells #[.slice none 0 0, .slice none 0 0, .int .i64 0, .bool false, .bool false] 67)).alloc (.cells (bcells 3000 (.pointer none) (.slice none 0 0) 0 false false) 61) = x := ⟨_, rfl⟩
    obtain ⟨rp, hrp⟩ : ∃ x, w2.heap.size = x := ⟨_, rfl⟩
    obtain ⟨bp, hbp⟩ : ∃ x, rp + 1 = x := ⟨_, rfl⟩
    simp only [hw3, hrp, hbp] at hN hb3 ⊢
    clear hw3 hrp hbp
    go_wp2_with fail
    refine (stuff_calls _ s hl (hT.below hb3)).mono ?_
    rintro e w4 ⟨rfl, hb4⟩
    have hN4 := hN.below hb4
    have hb4 := hb3.trans (hb4.mono hb3.size)
    clear hN hb3
    have hsl := stuffL_len (L s) hl
    have hfl := full_len (L s) hl
    obtain ⟨a, ha⟩ : ∃ a, S (stuffL (L s)) = a := ⟨_, rfl⟩
    have haz : a.size ≤ 4010 := by rw [← ha, zS]; exact hsl
    have HA : Hid (L a = stuffL (L s)) := by show _ = _; rw [← ha, L_S]
    simp only [ha]
    clear ha hsl
    have q1 : (a ++ (⟨#[120, 13, 10]⟩ : ByteArray)).size = a.size + 3 := by rw [ByteArray.size_append]; rfl
    have q2 : (a ++ (⟨#[120, 13, 10]⟩ : ByteArray) ++ bh).size = a.size + 3 + bh.size := by rw [ByteArray.size_append, q1]
    have q3 : (a ++ (⟨#[120, 13, 10]⟩ : ByteArray) ++ bh ++ (⟨#[13, 10]⟩ : ByteArray)).size = a.size + 3 + bh.size + 2 := by rw [ByteArray.size_append, q2]; rfl
    have HQ := Lib.hid q3
    have z1 : (a ++ (⟨#[120, 13, 10]⟩ : ByteArray)).size ≤ 5000 := by omega
    have z2 : (a ++ (⟨#[120, 13, 10]⟩ : ByteArray) ++ bh).size ≤ 6000 := by omega
    clear q1 q2 q3
    obtain ⟨F, hR, hstep⟩ := hN4.reader
    go_wp2_with fail
    refine (Feed_calls _ rp F _ (a ++ (⟨#[120, 13, 10]⟩ : ByteArray) ++ bh ++ (⟨#[13, 10]⟩ : ByteArray)) hR (by have := HQ.out; simp only [List.length_nil]; omega) (by have := HQ.out; have h0 : held ([], [], false) = 0 := rfl; rw [h0]; omega)).mono ?_
    rintro e w5 ⟨rfl, hp⟩
    obtain ⟨hN5, hb5⟩ := hstep _ _ hp
    obtain ⟨more, cur, cr, hall⟩ := fds_all (L s) (L bh ++ [13, 10]) HF.out
    have hD : fds ([], [], false) (a ++ (⟨#[120, 13, 10]⟩ : ByteArray) ++ bh ++ (⟨#[13, 10]⟩ : ByteArray)).data.toList = (((full (L s)).map dotx ++ [[46]]) ++ [120] :: more, cur, cr) := by
      rw [← hall, ← HA.out]
      simp [L]
    rw [hD] at hN5
    have hbound := (fds_bound ([], [], false) (a ++ (⟨#[120, 13, 10]⟩ : ByteArray) ++ bh ++ (⟨#[13, 10]⟩ : ByteArray)).data.toList).1
    rw [hD] at hbound
    have hmore : more.length ≤ 10000 := by
      have e1 : (a ++ (⟨#[120, 13, 10]⟩ : ByteArray) ++ bh ++ (⟨#[13, 10]⟩ : ByteArray)).data.toList.length = (a ++ (⟨#[120, 13, 10]⟩ : ByteArray) ++ bh ++ (⟨#[13, 10]⟩ : ByteArray)).size := (sz _).symm
      rw [e1, HQ.out] at hbound
      simp only [List.length_append, List.length_cons, List.length_nil, List.length_map] at hbound
      omega
    have hb5 := hb4.trans hb5
    clear hD hbound hall hstep hR hN4 hp hb4
    obtain ⟨Y, hY⟩ : ∃ Y, (full (L s)).map dotx ++ [[46]] = Y := ⟨_, rfl⟩
    have HY := Lib.hid hY
    have hYl : Y.length = (full (L s)).length + 1 := by rw [← hY]; simp
    have HYL := Lib.hid hYl
    rw [hY] at hN5
    have hYf : ∀ y ∈ Y, bad y = false ∧ y.length ≤ 902 := by
      intro y hy
      rw [← hY] at hy
      rcases List.mem_append.1 hy with hy | hy
      · obtain ⟨x, hx, rfl⟩ := List.mem_map.1 hy
        have h1 := HF.out x hx
        exact ⟨dotx_bad x h1.1, by have := dotx_len x; have := h1.2; omega⟩
      · rw [List.mem_singleton.1 hy]; exact ⟨rfl, by decide⟩
    have HYf := Lib.hid hYf
    clear hY hYl hYf
    go_wp2
    go_loopw [7] (fun i wr => ∃ k : Nat, k ≤ (full (L s)).length + 1 ∧ i = .int .i64 k ∧ Two w.heap.size wr rp (Y.drop k ++ [120] :: more, cur, cr) bp (after (L s) k) ∧ Below w.heap.size w wr) (fun i _ => (full (L s)).length + 1 - (intOf i).toNat)
    case atStart => exact ⟨0, Nat.zero_le _, rfl, by rw [after_zero]; exact hN5, hb5⟩
    case round =>
      clear hN5 hb5
      obtain ⟨k, hk, rfl, hN, hb⟩ := hrel
      obtain ⟨G, hB, hB1, hB2⟩ := hN.body
      by_cases hlt : (full (L s)).length < k
      case neg =>
        have he : (after (L s) k).ended = false := by rw [after_ended, decide_eq_false hlt]
        go_wp2_with fail
        refine (ended_calls _ bp G 3000 _ hB).mono ?_
        rintro e w6 ⟨rfl, rfl⟩
        simp only [he]
        have hkY : k < Y.length := by rw [HYL.out]; omega
        obtain ⟨x, hx⟩ : ∃ x, Y[k] = x := ⟨_, rfl⟩
        have hdr : Y.drop k = x :: Y.drop (k + 1) := by rw [List.drop_eq_getElem_cons hkY, hx]
        have hxf := HYf.out x (hx ▸ List.getElem_mem hkY)
        have hput : put (after (L s) k) 1 x = after (L s) (k + 1) := after_put (L s) k x (by rw [HY.out, List.getElem?_eq_getElem hkY, hx])
        rw [hdr] at hN
        obtain ⟨F, hR, hstep⟩ := hN.reader
        have hj : judge x 998 = (1, x) := judge_clean x hxf.1 (by have := hxf.2; omega)
        have HP := Lib.hid hput
        clear hdr hx hput he hB hB1 hB2
        go_wp2_with fail
        refine (take_some _ rp F x (Y.drop (k + 1) ++ [120] :: more) cur cr 998 hR (by rw [List.length_append, List.length_drop, HYL.out]; simp; omega)).mono ?_
        rintro e w6 ⟨rfl, hp⟩
        obtain ⟨hN6, hb6⟩ := hstep _ _ hp
        have hb6 := hb.trans hb6
        simp only [hj, lineV]
        obtain ⟨xs, hxs⟩ : ∃ y, (⟨x.toArray⟩ : ByteArray) = y := ⟨_, rfl⟩
        have HXS : Hid (x = xs.data.toList) := by show _ = _; rw [← hxs]
        have hxz : xs.size ≤ 902 := by have := hxf.2; rw [sz, ← hxs, L_lit]; exact this
        simp only [hxs]
        clear hxs hj hp hstep hR hN hb hxf
        have hN7 := hN6.below ((Below.refl _ w6).alloc (Nat.le_refl _) (.cells #[.int .i64 1, .string xs] 32))
        have hb7 : Below w.heap.size w (w6.alloc (.cells #[.int .i64 1, .string xs] 32)) := hb6.alloc hb6.size _
        have hy0 : (w6.alloc (.cells #[.int .i64 1, .string xs] 32)).cell? ⟨w6.heap.size, 0, none⟩ = some (.int .i64 1) := ((Blk.new w6 _ _).cell 0).trans rfl
        have hy1 : (w6.alloc (.cells #[.int .i64 1, .string xs] 32)).cell? ⟨w6.heap.size, 1, none⟩ = some (.string xs) := ((Blk.new w6 _ _).cell 1).trans rfl
        obtain ⟨w7, hw7⟩ : ∃ x, w6.alloc (.cells #[.int .i64 1, .string xs] 32) = x := ⟨_, rfl⟩
        obtain ⟨g7, hg7⟩ : ∃ x, w6.heap.size = x := ⟨_, rfl⟩
        have hk21 : k ≤ 2003 := by omega
        obtain ⟨G, hB, hB1, hB2⟩ := hN7.body
        simp only [hw7] at hN7 hb7 hy0 hy1 hB hB1
        simp only [hg7] at hy0 hy1
        have hal := after_len (L s) k hl
        go_wp2_with fail
        refine (put_calls w7 bp G 3000 _ 1 xs hB (by omega)).mono ?_
        rintro e w8 ⟨rfl, hp⟩
        obtain ⟨hN8, hb8⟩ := hB1 _ _ hp
        have hb8 := hb7.trans hb8
        rw [← HXS.out, HP.out] at hN8
        clear hN7 hN6 hB hB1 hB2 hp hb7 hb6
        go_wp2
        go_roundw
        case rel => exact ⟨k + 1, by omega, by go_num, hN8, hb8⟩
        case measure => simp [intOf]; omega
      case pos =>
        have he : (after (L s) k).ended = true := by rw [after_ended, decide_eq_true hlt]
        have hk1 : k = (full (L s)).length + 1 := by omega
        have ha : after (L s) k = ⟨norm (L s), false, true⟩ := after_gt (L s) k (by omega)
        have hd : Y.drop k = [] := List.drop_eq_nil_of_le (by rw [HYL.out]; omega)
        go_wp2_with fail
        refine (ended_calls _ bp G 3000 _ hB).mono ?_
        rintro e w6 ⟨rfl, rfl⟩
        simp only [he]
        rw [ha, hd, List.nil_append] at hN
        have HK1 := Lib.hid hk1
        have HFF := Lib.hid HF
        clear he hk1 ha hd hB hB1 hB2 HF hlt
        go_upto_region 17 with (fail)
        go_cut [85] (fun v85 wc => ∃ b : Bool, v85 = .bool b ∧ norm (L s) = (if b = true then L s ++ [13, 10] else L s) ∧ wr = wc)
        case first =>
          by_cases h0 : L s = []
          · have e0 : (s.toList == ([] : List UInt8)) = true := by rw [tl, h0]; rfl
            have hn : norm (L s) = (if false = true then L s ++ [13, 10] else L s) := by unfold norm; rw [if_neg (by simp [h0])]; rfl
            go_wp2
            go_meet
            case rel => exact ⟨_, rfl, hn, rfl⟩
          · have e0 : (s.toList == ([] : List UInt8)) = false := by rw [tl]; exact beq_eq_false_iff_ne.2 h0
            by_cases h2 : s.size < 2
            · have e2 : decide ((s.size : Int) < 2) = true := decide_eq_true (by omega)
              have hf : Lib.hasSuffix (L s) [13, 10] = false := by
                cases e : Lib.hasSuffix (L s) [13, 10] with
                | false => rfl
                | true =>
                  obtain ⟨l', e'⟩ := (suffix_iff _).1 e
                  have := congrArg List.length e'
                  rw [← sz] at this
                  simp at this; omega
              have hn : norm (L s) = (if true = true then L s ++ [13, 10] else L s) := by unfold norm; rw [if_pos ⟨h0, hf⟩]; rfl
              clear hf
              go_wp2
              go_meet
              case rel => exact ⟨_, rfl, hn, rfl⟩
            · have e2 : decide ((s.size : Int) < 2) = false := decide_eq_false (by omega)
              go_wp2
              go_meet
              case rel => exact ⟨_, rfl, norm_ext s h0 h2, rfl⟩
        case rest =>
        obtain ⟨bb, rfl, hn, rfl⟩ := hcut
        have HN := Lib.hid hn
        clear hn
        go_upto_if 85 with (fail)
        go_cut [10] (fun v10 wc => ∃ t : ByteArray, v10 = .string t ∧ L t = norm (L s) ∧ Two w.heap.size wc rp ([120] :: more, cur, cr) bp ⟨norm (L s), false, true⟩ ∧ Below w.heap.size w wc)
        case first =>
          cases bb with
          | false =>
            go_wp2
            go_meet
            case rel => exact ⟨_, rfl, HN.out.symm, hN, hb⟩
          | true =>
            have hq : L (s ++ (⟨#[13, 10]⟩ : ByteArray)) = L s ++ [13, 10] := by simp [L]
            go_wp2
            go_meet
            case rel => exact ⟨_, rfl, hq.trans HN.out.symm, by first | exact hN | exact hN.below (pw_below_drewN (Below.refl _ _) 1), by first | exact hb | exact hb.drew⟩
        case rest =>
        clear hN hb
        obtain ⟨t, rfl, ht, hN, hb⟩ := hcut
        have htz : t.size ≤ 2002 := by have := norm_len (L s); rw [sz, ht]; omega
        have htt : (S (L t)) = t := S_L t
        rw [← ht] at hN
        obtain ⟨F, hR, hstep⟩ := hN.reader
        have hj : judge [120] 998 = (1, [120]) := rfl
        have HT := Lib.hid ht
        clear ht
        go_wp2_with fail
        refine (take_some _ rp F [120] more cur cr 998 hR (by omega)).mono ?_
        rintro e w6 ⟨rfl, hp⟩
        obtain ⟨hN6, hb6⟩ := hstep _ _ hp
        have hb6 := hb.trans hb6
        simp only [hj, lineV]
        clear hstep hp hR hN hb hj
        have hN7 := hN6.below ((Below.refl _ w6).alloc (Nat.le_refl _) (.cells #[.int .i64 1, .string (⟨#[120]⟩ : ByteArray)] 32))
        have hb7 : Below w.heap.size w (w6.alloc (.cells #[.int .i64 1, .string (⟨#[120]⟩ : ByteArray)] 32)) := hb6.alloc hb6.size _
        have hB7 := Blk.new w6 32 #[.int .i64 1, .string (⟨#[120]⟩ : ByteArray)]
        have hy0 := (hB7.cell 0).trans rfl
        have hy1 := (hB7.cell 1).trans rfl
        obtain ⟨G, hB6, _, _, hGB⟩ := hN6.body
        have hB := hB6.below ((Below.refl _ w6).alloc (Nat.le_refl _) (.cells #[.int .i64 1, .string (⟨#[120]⟩ : ByteArray)] 32))
        have hG := hB6.lt
        have ho67 : Only G w6 (w6.alloc (.cells #[.int .i64 1, .string (⟨#[120]⟩ : ByteArray)] 32)) := (Only.refl G w6).alloc _
        obtain ⟨w7, hw7⟩ : ∃ x, w6.alloc (.cells #[.int .i64 1, .string (⟨#[120]⟩ : ByteArray)] 32) = x := ⟨_, rfl⟩
        simp only [hw7] at hb7 hy0 hy1 hB hB7 ho67 ⊢
        have hgG : ¬ G w6.heap.size := fun h => by have := hG _ h; omega
        have hLt : (L t).length ≤ 2002 := by rw [← sz]; exact htz
        have hs7 : w7.heap.size = w6.heap.size + 1 := by rw [← hw7]; simp
        obtain ⟨g7, hg7⟩ : ∃ x, w6.heap.size = x := ⟨_, rfl⟩
        simp only [hg7] at hy0 hy1 hB7 hgG ⊢
        go_wp2_with fail
        refine (put_calls w7 bp G 3000 _ 1 (⟨#[120]⟩ : ByteArray) hB (by have : (⟨#[120]⟩ : ByteArray).size = 1 := rfl; show (L t).length + _ ≤ _; omega)).mono ?_
        rintro e w8 ⟨rfl, hp⟩
        have hpe : put ⟨L t, false, true⟩ 1 (⟨#[120]⟩ : ByteArray).data.toList = ⟨L t, false, true⟩ := rfl
        rw [hpe] at hp
        obtain ⟨hB8, ho8⟩ := hp
        have hB87 := ho8.blk hB7 hgG
        have hb8 := hb7.trans (ho8.to_below hb7.size hGB)
        have hg8 : ¬ ext G w7 w8 g7 := fun h => h.elim hgG (fun e => by have := e.1; omega)
        have hGB8 : ∀ k, ext G w7 w8 k → w.heap.size ≤ k := fun k h => h.elim (hGB k) (fun e => by have := hb7.size; have := e.1; omega)
        obtain ⟨G8, hG8⟩ : ∃ x, ext G w7 w8 = x := ⟨_, rfl⟩
        rw [hG8] at hB8 hg8 hGB8
        clear hG8 hpe ho8 hB hB6 hG ho67 hb7 hy0 hy1 hB7 hgG hs7 hg7 hN7 hN6 hb6 hw7 hGB
        go_wp2_with fail
        refine (text_calls w8 bp G8 3000 _ hB8 (by show (L t).length ≤ _; omega)).mono ?_
        rintro e w9 ⟨rfl, hB9, ho9⟩
        have hB97 := ho9.blk hB87 hg8
        have hb9 := hb8.trans (ho9.to_below hb8.size hGB8)
        have hy1 : w9.cell? ⟨g7, 1, none⟩ = some (.string (⟨#[120]⟩ : ByteArray)) := (hB97.cell 1).trans rfl
        have htext : text 3000 ⟨L t, false, true⟩ = (L t, 0) := by unfold text; rw [if_neg (by simp), if_neg (by show ¬ (3000 : Int) < ((L t).length : Int); omega)]
        have htS : (⟨(L t).toArray⟩ : ByteArray) = t := htt
        simp only [htext, htS]
        have hend := ends_ev t (by omega)
        rw [HT.out, norm_join, cnt_join _ HFF.out] at hend
        obtain ⟨ke, hke⟩ := hend.rounds
        have HKE := Lib.hid hke
        have hk1 := HK1.out
        have htb : (t.toList == t.toList) = true := beq_iff_eq.mpr rfl
        have hwf : wrap64 (((full (L s)).length : Int) + 1) = (k : Int) := by rw [wi _ (by omega), hk1]
        have hsN : ((L t).length : Int) = (t.size : Int) := by rw [sz]
        have HW := Lib.hid hwf
        have HSN := Lib.hid hsN
        clear hke hend htext htS htt hk1 hwf hsN
        go_wp2_with fail
        refine (bulletinlaw29_ends.calls ke t _ _ HKE.out).mono ?_
        rintro e w10 ⟨rfl, hd10⟩
        obtain ⟨n10, rfl⟩ := hd10.out
        have hB10 := hB9.below (pw_below_drewN (Below.refl _ w9) n10)
        have hb10 : Below w.heap.size w (w9.drewN n10) := pw_below_drewN hb9 n10
        have hy2 : (w9.drewN n10).cell? ⟨g7, 1, none⟩ = some (.string (⟨#[120]⟩ : ByteArray)) := hy1
        obtain ⟨w10, hw10⟩ : ∃ x, w9.drewN n10 = x := ⟨_, rfl⟩
        simp only [hw10] at hB10 hb10 hy2 ⊢
        obtain ⟨m, hm⟩ : ∃ m, (full (L s)).length = m := ⟨_, rfl⟩
        have hkm : ((k : Int) == (m : Int) + 1) = true := beq_iff_eq.mpr (by have := HK1.out; omega)
        simp only [hm] at hfl ⊢
        clear hw10 hB9 hB97 hB87 hb9 hy1 hd10 hm
        go_wp2_with fail
        refine (size_calls _ bp G8 3000 _ hB10).mono ?_
        rintro e w11 ⟨rfl, rfl⟩
        have hzz : ((t.size : Int) == (t.size : Int)) = true := beq_iff_eq.mpr rfl
        simp only [HSN.out]
        go_wp2
        go_ret
        exact ⟨rfl, hb10⟩
end Go.Proofs.Ytpolfnckbfdhgaa.Dot
