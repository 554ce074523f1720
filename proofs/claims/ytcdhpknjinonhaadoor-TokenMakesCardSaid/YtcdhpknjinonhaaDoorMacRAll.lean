/- mac: the reference's sum. -/
import Derived.Test.YtcdhpknjinonhaaDoorTokAll
import Derived.Test.YtcdhpknjinonhaaDoorShaRAll
namespace Go.Proofs.YtcdhpknjinonhaaDoor.Mac
open Go.RowKit Go.Proofs.YtcdhpknjinonhaaDoor.Mem Go.Proofs.YtcdhpknjinonhaaDoor.X Go.Proofs.YtcdhpknjinonhaaDoorW.PrintWords Go.Proofs.YtcdhpknjinonhaaDoorW.PrintLast Go.Proofs.YtcdhpknjinonhaaDoorW.PrintMore Go.Proofs.YtcdhpknjinonhaaDoor.Aid Go.Proofs.YtcdhpknjinonhaaDoor.Sha
set_option linter.unusedVariables false
set_option linter.unusedSimpArgs false
set_option maxHeartbeats 4000000 in
set_option maxRecDepth 100000 in
theorem block_calls (w : World) (k : ByteArray) (c : UInt8) (hk : k.size ≤ 1000) :
    Calls Tryd.prog 38 #[.string k, .int .u8 (c.toNat : Int)] w fun e w' => e = .returned (.string (S (padB (L k) c))) ∧ Below w.heap.size w w' := by
  go_enter Tryd.func38, Tryd.ntmps38
  by_cases hlong : (64 : Int) < (k.size : Int)
  · go_wp2_with fail
    refine (rsum_calls w k (by omega)).mono ?_
    rintro e w1 ⟨rfl, b1⟩
    obtain ⟨k1, hk1⟩ : ∃ x, S (shaB (L k)) = x := ⟨_, rfl⟩
    have hk1z : k1.size ≤ 64 := by rw [← hk1, sz, L_S, shaB_len]; omega
    have hk1L : L k1 = shaB (L k) := by rw [← hk1, L_S]
    simp only [hk1]
    have hk1L' := Lib.hid hk1L
    clear hk1 hk1L
    go_wp2
    have hkp : (L k1 ++ noughts (64 - (L k1).length)).map (· ^^^ c) = padB (L k) c := by unfold padB keyB; rw [if_pos (by rw [← sz]; omega), hk1L'.out]; rfl
    obtain ⟨l, hl⟩ : ∃ l, L k1 ++ noughts (64 - (L k1).length) = l := ⟨_, rfl⟩
    have hlen : l.length = 64 := by rw [← hl]; simp only [List.length_append, noughts, List.length_replicate]; rw [← sz]; omega
    have hat : ∀ t (ht : t < k1.size), l[t]'(by omega) = (L k1)[t]'(by rw [← sz]; exact ht) := fun t ht => by
      have : l[t]? = (L k1)[t]? := by rw [← hl, List.getElem?_append_left (by rw [← sz]; exact ht)]
      rw [List.getElem?_eq_getElem (by omega), List.getElem?_eq_getElem (by rw [← sz]; exact ht)] at this
      exact Option.some.inj this
    have hat0 : ∀ t (ht : ¬ t < k1.size) (h64 : t < 64), l[t]'(by omega) = 0 := fun t ht h64 => by
      have : l[t]? = (noughts (64 - (L k1).length))[t - (L k1).length]? := by rw [← hl, List.getElem?_append_right (by rw [← sz]; omega)]
      rw [List.getElem?_eq_getElem (by omega)] at this
      have hs := sz k1
      simp only [noughts, List.getElem?_replicate] at this
      rw [if_pos (by omega)] at this
      exact Option.some.inj this
    rw [hl] at hkp
    have HKP := Lib.hid hkp
    have HAT := Lib.hid hat
    have HAT0 := Lib.hid hat0
    clear hkp hl hat hat0
    go_loopw [5, 6] (fun o i wr => ∃ (t : Nat) (s : ByteArray), t ≤ 64 ∧ i = .int .i64 t ∧ o = .string s ∧ Hid (L s = (l.take t).map (· ^^^ c)) ∧ s.size = t ∧ Below w.heap.size w wr) (fun _ i _ => 64 - (intOf i).toNat)
    case atStart => exact ⟨0, ⟨#[]⟩, by omega, rfl, rfl, Lib.hid rfl, rfl, b1⟩
    case round =>
      clear b1
      obtain ⟨t, s, ht, rfl, rfl, HS, hsz, hb⟩ := hrel
      by_cases hlt : t < 64
      · have hti : (t : Int) < 64 := by omega
        obtain ⟨x, hx⟩ : ∃ x, l[t]'(by omega) = x := ⟨_, rfl⟩
        obtain ⟨y, hy⟩ : ∃ y, x ^^^ c = y := ⟨_, rfl⟩
        have HS2 : Hid (L s ++ [y] = (l.take (t + 1)).map (· ^^^ c)) := Lib.hid (by rw [List.take_succ_eq_append_getElem (by omega), List.map_append, HS.out, hx, ← hy]; rfl)
        have hxc := xor_u8 x c
        rw [hy] at hxc
        have hb2 : Below w.heap.size w (wr.alloc (.cells #[.int .u8 (y.toNat : Int)] 5)) := hb.alloc hb.size _
        have hcv := run_convert_bytes_back (P := Tryd.prog) (wr.alloc (.cells #[.int .u8 (y.toNat : Int)] 5)) 38 9 5 ⟨wr.heap.size, 0, none⟩ 1 [y] Tryd.underlying38 Tryd.underlying5 Tryd.underlying9 (fun j hj => by
          have hadd : (⟨wr.heap.size, 0, none⟩ : Addr).add j = ⟨wr.heap.size, j, none⟩ := by unfold Addr.add; split <;> simp_all
          have hj0 : j = 0 := by simpa using hj
          subst hj0
          rw [hadd, (Blk.new wr _ _).cell]; rfl)
        rw [show [y].length = 1 from rfl] at hcv
        have hn : (s.size : Int) + ((⟨#[y]⟩ : ByteArray).size : Int) ≤ 9223372036854775807 := by show (s.size : Int) + ((1 : Nat) : Int) ≤ _; omega
        have HX0 := Lib.hid (HAT0.out t)
        have HXX := Lib.hid hx
        clear hy
        by_cases hk2 : t < k1.size
        · have hx2 : (k1[t].toNat : Int) = (x.toNat : Int) := by rw [← hx, HAT.out t hk2]; rfl
          clear hx
          go_wp2
          go_roundw
          case rel => exact ⟨t + 1, s ++ ⟨#[y]⟩, by omega, by go_num, rfl, Lib.hid (by rw [L_app]; exact HS2.out), by rw [ByteArray.size_append]; show s.size + 1 = _; omega, hb2⟩
          case measure => simp [intOf]; omega
        · have hx2 : x = 0 := by rw [← hx]; exact HX0.out hk2 hlt
          have h00 : ((0 : UInt8).toNat : Int) = 0 := rfl
          subst hx2
          rw [h00] at hxc
          clear hx
          go_wp2
          go_roundw
          case rel => exact ⟨t + 1, s ++ ⟨#[y]⟩, by omega, by go_num, rfl, Lib.hid (by rw [L_app]; exact HS2.out), by rw [ByteArray.size_append]; show s.size + 1 = _; omega, hb2⟩
          case measure => simp [intOf]; omega
      · have ht64 : t = 64 := by omega
        have hfin : L s = padB (L k) c := by rw [HS.out, ht64, ← hlen, List.take_length, HKP.out]
        go_wp2
        go_ret
        refine ⟨?_, hb⟩
        show Ending.returned (.string s) = _
        rw [← hfin, S_L]
  · have b1 := Below.refl w.heap.size w
    go_wp2
    have hkp : (L k ++ noughts (64 - (L k).length)).map (· ^^^ c) = padB (L k) c := by unfold padB keyB; rw [if_neg (by rw [← sz]; omega)]; rfl
    obtain ⟨l, hl⟩ : ∃ l, L k ++ noughts (64 - (L k).length) = l := ⟨_, rfl⟩
    have hlen : l.length = 64 := by rw [← hl]; simp only [List.length_append, noughts, List.length_replicate]; rw [← sz]; omega
    have hat : ∀ t (ht : t < k.size), l[t]'(by omega) = (L k)[t]'(by rw [← sz]; exact ht) := fun t ht => by
      have : l[t]? = (L k)[t]? := by rw [← hl, List.getElem?_append_left (by rw [← sz]; exact ht)]
      rw [List.getElem?_eq_getElem (by omega), List.getElem?_eq_getElem (by rw [← sz]; exact ht)] at this
      exact Option.some.inj this
    have hat0 : ∀ t (ht : ¬ t < k.size) (h64 : t < 64), l[t]'(by omega) = 0 := fun t ht h64 => by
      have : l[t]? = (noughts (64 - (L k).length))[t - (L k).length]? := by rw [← hl, List.getElem?_append_right (by rw [← sz]; omega)]
      rw [List.getElem?_eq_getElem (by omega)] at this
      have hs := sz k
      simp only [noughts, List.getElem?_replicate] at this
      rw [if_pos (by omega)] at this
      exact Option.some.inj this
    rw [hl] at hkp
    have HKP := Lib.hid hkp
    have HAT := Lib.hid hat
    have HAT0 := Lib.hid hat0
    clear hkp hl hat hat0
    go_loopw [5, 6] (fun o i wr => ∃ (t : Nat) (s : ByteArray), t ≤ 64 ∧ i = .int .i64 t ∧ o = .string s ∧ Hid (L s = (l.take t).map (· ^^^ c)) ∧ s.size = t ∧ Below w.heap.size w wr) (fun _ i _ => 64 - (intOf i).toNat)
    case atStart => exact ⟨0, ⟨#[]⟩, by omega, rfl, rfl, Lib.hid rfl, rfl, b1⟩
    case round =>
      clear b1
      obtain ⟨t, s, ht, rfl, rfl, HS, hsz, hb⟩ := hrel
      by_cases hlt : t < 64
      · have hti : (t : Int) < 64 := by omega
        obtain ⟨x, hx⟩ : ∃ x, l[t]'(by omega) = x := ⟨_, rfl⟩
        obtain ⟨y, hy⟩ : ∃ y, x ^^^ c = y := ⟨_, rfl⟩
        have HS2 : Hid (L s ++ [y] = (l.take (t + 1)).map (· ^^^ c)) := Lib.hid (by rw [List.take_succ_eq_append_getElem (by omega), List.map_append, HS.out, hx, ← hy]; rfl)
        have hxc := xor_u8 x c
        rw [hy] at hxc
        have hb2 : Below w.heap.size w (wr.alloc (.cells #[.int .u8 (y.toNat : Int)] 5)) := hb.alloc hb.size _
        have hcv := run_convert_bytes_back (P := Tryd.prog) (wr.alloc (.cells #[.int .u8 (y.toNat : Int)] 5)) 38 9 5 ⟨wr.heap.size, 0, none⟩ 1 [y] Tryd.underlying38 Tryd.underlying5 Tryd.underlying9 (fun j hj => by
          have hadd : (⟨wr.heap.size, 0, none⟩ : Addr).add j = ⟨wr.heap.size, j, none⟩ := by unfold Addr.add; split <;> simp_all
          have hj0 : j = 0 := by simpa using hj
          subst hj0
          rw [hadd, (Blk.new wr _ _).cell]; rfl)
        rw [show [y].length = 1 from rfl] at hcv
        have hn : (s.size : Int) + ((⟨#[y]⟩ : ByteArray).size : Int) ≤ 9223372036854775807 := by show (s.size : Int) + ((1 : Nat) : Int) ≤ _; omega
        have HX0 := Lib.hid (HAT0.out t)
        have HXX := Lib.hid hx
        clear hy
        by_cases hk2 : t < k.size
        · have hx2 : (k[t].toNat : Int) = (x.toNat : Int) := by rw [← hx, HAT.out t hk2]; rfl
          clear hx
          go_wp2
          go_roundw
          case rel => exact ⟨t + 1, s ++ ⟨#[y]⟩, by omega, by go_num, rfl, Lib.hid (by rw [L_app]; exact HS2.out), by rw [ByteArray.size_append]; show s.size + 1 = _; omega, hb2⟩
          case measure => simp [intOf]; omega
        · have hx2 : x = 0 := by rw [← hx]; exact HX0.out hk2 hlt
          have h00 : ((0 : UInt8).toNat : Int) = 0 := rfl
          subst hx2
          rw [h00] at hxc
          clear hx
          go_wp2
          go_roundw
          case rel => exact ⟨t + 1, s ++ ⟨#[y]⟩, by omega, by go_num, rfl, Lib.hid (by rw [L_app]; exact HS2.out), by rw [ByteArray.size_append]; show s.size + 1 = _; omega, hb2⟩
          case measure => simp [intOf]; omega
      · have ht64 : t = 64 := by omega
        have hfin : L s = padB (L k) c := by rw [HS.out, ht64, ← hlen, List.take_length, HKP.out]
        go_wp2
        go_ret
        refine ⟨?_, hb⟩
        show Ending.returned (.string s) = _
        rw [← hfin, S_L]
end Go.Proofs.YtcdhpknjinonhaaDoor.Mac
/- mac: the reference's Sum; MacSums, MacFits, walked. -/
namespace Go.Proofs.YtcdhpknjinonhaaDoor.Mac
open Go.RowKit Go.Proofs.YtcdhpknjinonhaaDoor.Mem Go.Proofs.YtcdhpknjinonhaaDoor.X Go.Proofs.YtcdhpknjinonhaaDoorW.PrintWords Go.Proofs.YtcdhpknjinonhaaDoorW.PrintLast Go.Proofs.YtcdhpknjinonhaaDoorW.PrintMore Go.Proofs.YtcdhpknjinonhaaDoor.Aid Go.Proofs.YtcdhpknjinonhaaDoor.Sha
set_option linter.unusedVariables false
set_option linter.unusedSimpArgs false
set_option maxHeartbeats 1000000 in
set_option maxRecDepth 100000 in
theorem refsum_calls (w : World) (k s : ByteArray) (hk : k.size ≤ 1000) (hs : s.size ≤ 100000) :
    Calls Tryd.prog 21 #[.string k, .string s] w fun e w' => e = .returned (.string (S (macB (L k) (L s)))) ∧ Below w.heap.size w w' := by
  go_enter Tryd.func21, Tryd.ntmps21
  go_wp2_with fail
  have hp := block_calls w k 92 hk
  refine hp.mono ?_
  rintro e w1 ⟨rfl, b1⟩
  go_wp2_with fail
  have hp := block_calls w1 k 54 hk
  refine hp.mono ?_
  rintro e w2 ⟨rfl, b2⟩
  have b2' := b1.trans (b2.mono b1.size)
  obtain ⟨p1, hp1⟩ : ∃ x, S (padB (L k) 92) = x := ⟨_, rfl⟩
  obtain ⟨p2, hp2⟩ : ∃ x, S (padB (L k) 54) = x := ⟨_, rfl⟩
  have hz1 : p1.size = 64 := by rw [← hp1, sz, L_S, padB_len]
  have hz2 : p2.size = 64 := by rw [← hp2, sz, L_S, padB_len]
  have hn : (p2.size : Int) + s.size ≤ 9223372036854775807 := by omega
  simp only [hp1, hp2]
  have HP1 := Lib.hid hp1
  have HP2 := Lib.hid hp2
  clear hp hp1 hp2
  go_wp2_with fail
  refine (rsum_calls w2 (p2 ++ s) (by rw [ByteArray.size_append]; omega)).mono ?_
  rintro e w3 ⟨rfl, b3⟩
  have b3' := b2'.trans (b3.mono b2'.size)
  obtain ⟨p3, hp3⟩ : ∃ x, S (shaB (L (p2 ++ s))) = x := ⟨_, rfl⟩
  have hz3 : p3.size = 32 := by rw [← hp3, sz, L_S, shaB_len]
  have hn3 : (p1.size : Int) + p3.size ≤ 9223372036854775807 := by omega
  simp only [hp3]
  have HP3 := Lib.hid hp3
  clear hp3
  go_wp2_with fail
  refine (rsum_calls w3 (p1 ++ p3) (by rw [ByteArray.size_append]; omega)).mono ?_
  rintro e w4 ⟨rfl, b4⟩
  go_wp2
  go_ret
  refine ⟨?_, b3'.trans (b4.mono b3'.size)⟩
  show Ending.returned (.string (S (shaB (L p1 ++ L p3)))) = _
  unfold macB
  rw [← HP3.out, L_S, L_app, ← HP1.out, ← HP2.out, L_S, L_S]
end Go.Proofs.YtcdhpknjinonhaaDoor.Mac
