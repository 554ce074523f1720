/- batch: BatchLast, walked. -/
import Derived.Test.YtjcilknfhkpepaaBatG
namespace Go.Proofs.Ytjcilknfhkpepaa.Bat
open Go.RowKit Go.Proofs.Ytjcilknfhkpepaa.Mem Go.Proofs.Ytjcilknfhkpepaa.X Go.Proofs.YtjcilknfhkpepaaW.PrintWords Go.Proofs.YtjcilknfhkpepaaW.PrintLast Go.Proofs.YtjcilknfhkpepaaW.PrintMore Go.Proofs.Ytjcilknfhkpepaa.Aid
set_option linter.unusedVariables false
set_option linter.unusedSimpArgs false
theorem wrap_next' (i n : Nat) (h : i < n) (hn : n ≤ 9223372036854775807) : wrap64 ((i : Int) + 1) = ((i + 1 : Nat) : Int) := by
  rw [w64 (by omega) (by omega)]; rfl
theorem wrap_next (i n : Nat) (h : i < n) (hn : n ≤ 9223372036854775807) : Value.int .i64 (wrap64 ((i : Int) + 1)) = .int .i64 ((i + 1 : Nat) : Int) := by
  rw [wrap_next' i n h hn]
theorem add_form (ad : Addr) (n j : Nat) (hj : 0 < j) : ad.add (n + j) = { block := (ad.add n).block, off := (ad.add n).off + j } := by
  unfold Addr.add
  split <;> split <;> simp_all <;> omega
theorem s24_at {w : World} {A : Option Addr} {l : List S24} (h : Kd.C k24 w A l.length l) {i : Nat} (hi : i < l.length) : ∃ ad, A = some ad ∧
    ∀ j u, #[Value.string l[i].f0, .string l[i].f1, .bool l[i].f2].toList[j]? = some u → w.cell? (ad.add (i * 3 + j)) = some u := by
  obtain ⟨ad, hA, hc⟩ := h.2.2 (by omega)
  obtain ⟨cs, h1, h2, h3⟩ := hc i _ (List.getElem?_eq_getElem hi)
  have e := k24_open h2
  subst e
  exact ⟨ad, hA, fun j u hu => h3 j u hu⟩
set_option maxHeartbeats 8000000 in
set_option maxRecDepth 100000 in
theorem last_calls (w : World) (A : Option Addr) (cp : Nat) (l : List S24) (c : Ch) (key : ByteArray) (hr : Kd.C k24 w A l.length l) (hc : l.length ≤ cp) (hz : l.length ≤ 9223372036854775807) :
    Calls Try.prog 3 #[.slice A l.length cp, .agg #[.string c.key, .string c.value, .bool c.gone], .string key] w fun e w' => e = .returned (.bool true) ∧ Below w.heap.size w w' := by
  obtain ⟨lb, hlb⟩ := light_f l
  have HL := Lib.hid hlb
  have HC := Lib.hid hc
  have HZ := Lib.hid hz
  have hx0 := Blk.new w 24 #[.string c.key, .string c.value, .bool c.gone]
  have hB0 : Below w.heap.size w (w.alloc (.cells #[.string c.key, .string c.value, .bool c.gone] 24)) := (Below.refl _ w).alloc (Nat.le_refl _) _
  have hr0 := Kd.C_below hr hB0
  have HR := Lib.hid hr
  clear hlb hc hz hr
  go_enter Try.func3, Try.ntmps3
  go_wp2_with fail
  refine (works_calls _).mono ?_
  rintro e w1 ⟨rfl, hb1⟩
  have hx1 := hx0.below hb1
  have hB1 := hB0.trans (hb1.mono hB0.size)
  have hr1 := Kd.C_below hr0 hb1
  clear hx0 hB0 hr0 hb1
  obtain ⟨bx, hbx⟩ : ∃ x, w.heap.size = x := ⟨_, rfl⟩
  have HBX := Lib.hid hbx
  rw [hbx] at hx1 hB1
  simp only [hbx]
  clear hbx
  go_wp2_with fail
  refine (new_calls w1).mono ?_
  rintro e w2 ⟨rfl, h2, hb2⟩
  have hx2 := hx1.below hb2
  have hp1 : bx ≤ w1.heap.size := by rw [← HBX.out]; exact hB1.size
  have hlt1 := hx1.lt
  have hB2 := hB1.trans (hb2.mono hp1)
  have hr2 := Kd.C_below hr1 hb2
  obtain ⟨p, hp⟩ : ∃ x, w1.heap.size = x := ⟨_, rfl⟩
  rw [hp] at h2 hlt1 hp1
  simp only [hp]
  clear hx1 hB1 hr1 hb2 hp
  have hli := bulletinlaw10_Light.calls 82 A cp l lb w2 hr2 HC.out HL.out
  go_wp2_with fail
  refine hli.mono ?_
  rintro e w3 ⟨rfl, hd3⟩
  have hb3 : Below w2.heap.size w2 w3 := hd3.below
  have hx3 := hx2.below hb3
  have hp2 : p < w2.heap.size := h2.blk.lt
  have h3 := h2.below hb3
  have hB3 := hB2.trans (hb3.mono (by omega))
  clear hli hd3 hb3 hx2 hr2 h2 hB2 hp2
  have x0 : w3.cell? ⟨bx, 0, none⟩ = some (.string c.key) := (hx3.cell 0).trans rfl
  have x1 : w3.cell? ⟨bx, 1, none⟩ = some (.string c.value) := (hx3.cell 1).trans rfl
  cases lb with
  | false =>
    go_wp2
    go_ret
    exact ⟨rfl, by rw [HBX.out]; exact hB3⟩
  | true =>
  by_cases hk : (300 : Int) < (c.key.size : Int)
  · go_wp2
    go_ret
    exact ⟨rfl, by rw [HBX.out]; exact hB3⟩
  by_cases hv : (1000 : Int) < (c.value.size : Int)
  · go_wp2
    go_ret
    exact ⟨rfl, by rw [HBX.out]; exact hB3⟩
  go_wp2
  clear x0 x1 hk hv
  go_loopw [8] (fun x wr => ∃ (i : Nat) (v' : Value), x = .int .i64 i ∧ i ≤ l.length ∧ Bt wr p v' (after (l.take i)) ∧ (∀ k, own v' k → p ≤ k) ∧ Blk wr bx 24 #[.string c.key, .string c.value, .bool c.gone] ∧ Below bx w wr) (fun x _ => l.length - (intOf x).toNat)
  case atStart => exact ⟨0, _, rfl, Nat.zero_le _, h3, fun k hk => (by cases hk), hx3, hB3⟩
  case round =>
    obtain ⟨i, v', rfl, hi, hbt, hown, hxr, hbw⟩ := hrel
    have hpw : p < wr.heap.size := hbt.blk.lt
    clear h3 hx3 hB3
    have hok := after_ok (l.take i)
    by_cases hlt : i < l.length
    case pos =>
      have hil : (i : Int) < (l.length : Int) := by omega
      obtain ⟨ad, hA, hcell⟩ := s24_at (Kd.C_below (w1 := wr) HR.out (by rw [HBX.out]; exact hbw)) hlt
      have q0 := hcell 0 _ rfl
      rw [Nat.add_zero] at q0
      have q1 := hcell 1 _ rfl
      have q2 := hcell 2 _ rfl
      rw [add_form _ _ _ (by decide)] at q1 q2
      have hone := one_calls wr p v' _ (toCh l[i]) hbt hok.1 hok.2
      have hnx := after_succ l i hlt
      rw [← hnx] at hone
      obtain ⟨x, hx⟩ : ∃ x, l[i] = x := ⟨_, rfl⟩
      rw [hx] at q0 q1 q2 hone
      unfold vch toCh at hone
      dsimp only at hone
      have HOW := Lib.hid hown
      have HI := Lib.hid hlt
      have HXR := Lib.hid hxr
      subst hA
      clear hcell hnx hx hok hown hi hbt hxr
      go_wp2_with fail
      refine hone.mono ?_
      rintro e w4 ⟨v4, rfl, hbt4, ho4, hn4⟩
      have hbw4 := hbw.trans (ho4.to_below (B := bx) (by omega) (by
        rintro k (rfl | e)
        · exact hp1
        · exact Nat.le_trans hp1 (HOW.out k e)))
      have hx4 := ho4.blk HXR.out (by
        rintro (e | e)
        · omega
        · have := HOW.out _ e; omega)
      have hown4 : ∀ k, own v4 k → p ≤ k := fun k hk => (hn4 k hk).elim (HOW.out k) (fun e => by omega)
      have H4 := Lib.hid (And.intro hbt4 (And.intro hown4 (And.intro hx4 hbw4)))
      clear hone hbt4 ho4 hn4 hbw4 hx4 hown4 hbw q0 q1 q2 HXR hpw
      go_wp2
      go_roundw
      case rel => exact ⟨i + 1, v4, wrap_next i l.length HI.out HZ.out, HI.out, H4.out.1, H4.out.2.1, H4.out.2.2.1, H4.out.2.2.2⟩
      case measure =>
        first
          | (have := HI.out
             show l.length - ((i : Int) + 1).toNat < l.length - ((i : Int)).toNat
             omega)
          | (rw [wrap_next' i l.length HI.out HZ.out]
             have := HI.out
             show l.length - (((i + 1 : Nat) : Int)).toNat < l.length - ((i : Int)).toNat
             omega)
    case neg =>
      have hil : ¬ (i : Int) < (l.length : Int) := by omega
      obtain rfl : i = l.length := by omega
      rw [List.take_length] at hbt hok
      clear hlt hi
      obtain ⟨q, hq⟩ : ∃ q, after l = q := ⟨_, rfl⟩
      rw [hq] at hbt hok
      clear hq
      have hg := get_calls wr p v' q key hbt hok.1 (by omega)
      obtain ⟨wz, hwz⟩ : ∃ x, getOf q key = x := ⟨_, rfl⟩
      obtain ⟨hd, hhd⟩ : ∃ x, there q key = x := ⟨_, rfl⟩
      rw [hwz, hhd] at hg
      unfold vch at hg
      have HOK := Lib.hid hok
      have HWZ := Lib.hid (And.intro hwz hhd)
      have HOW := Lib.hid hown
      clear hok hwz hhd hown
      go_wp2_with fail
      refine hg.mono ?_
      rintro e w4 ⟨rfl, hb4⟩
      have hbt4 := hbt.below hb4
      have hx4 := hxr.below hb4
      have hbw4 := hbw.trans (hb4.mono (by omega))
      have hpw4 : p < w4.heap.size := hbt4.blk.lt
      have h9 := Blk.new w4 31 #[.string wz.key, .string wz.value, .bool wz.gone]
      have hbt5 := hbt4.alloc (.cells #[.string wz.key, .string wz.value, .bool wz.gone] 31)
      have hx5 := hx4.alloc (.cells #[.string wz.key, .string wz.value, .bool wz.gone] 31)
      have hbw5 := hbw4.alloc (by omega) (.cells #[.string wz.key, .string wz.value, .bool wz.gone] 31)
      have hne9 : ¬ own v' w4.heap.size := fun e => by have := hbt4.row.lt e; omega
      clear hg hbt hxr hbw hpw hb4 hbt4 hx4 hbw4
      have hone := one_calls _ p v' q c hbt5 HOK.out.1 HOK.out.2
      unfold vch at hone
      have x0 := (hx5.cell 0).trans rfl
      have x1 := (hx5.cell 1).trans rfl
      have x2 := (hx5.cell 2).trans rfl
      go_wp2_with fail
      refine hone.mono ?_
      rintro e w6 ⟨v6, rfl, hbt6, ho6, hn6⟩
      have hx6 := ho6.blk hx5 (by
        rintro (e | e)
        · omega
        · have := HOW.out _ e; omega)
      have h96 := ho6.blk h9 (by
        rintro (e | e)
        · omega
        · have := hbt5.row.lt e
          have := HOW.out _ e
          exact absurd e (by intro e; exact hne9 e))
      have hbw6 := hbw5.trans (ho6.to_below (B := bx) (by rw [World.size_alloc]; omega) (by
        rintro k (rfl | e)
        · exact hp1
        · exact Nat.le_trans hp1 (HOW.out k e)))
      obtain ⟨⟨q', ec⟩, hch⟩ : ∃ x, change q (nrm c) = x := ⟨_, rfl⟩
      have hcs := change_sorted q (nrm c) HOK.out.1
      have hcl := change_len q (nrm c) HOK.out.2
      rw [hch] at hbt6 hcs hcl
      simp only [hch]
      have hpw6 : p < w6.heap.size := hbt6.blk.lt
      have hg6 := get_calls w6 p v6 q' key hbt6 hcs (by dsimp only at hcl; omega)
      obtain ⟨iz, hiz⟩ : ∃ x, getOf q' key = x := ⟨_, rfl⟩
      obtain ⟨hs, hhs⟩ : ∃ x, there q' key = x := ⟨_, rfl⟩
      rw [hiz, hhs] at hg6
      unfold vch at hg6
      have HIZ := Lib.hid (And.intro hch (And.intro hiz hhs))
      obtain ⟨b9, hb9⟩ : ∃ x, w4.heap.size = x := ⟨_, rfl⟩
      rw [hb9] at h96
      simp only [hb9]
      clear hone hbt5 hx5 h9 hbw5 ho6 hn6 hch hcs hcl hiz hhs x0 x1 x2 hb9 hbt6 hpw4
      go_wp2_with fail
      refine hg6.mono ?_
      rintro e w7 ⟨rfl, hb7⟩
      have hx7 := hx6.below hb7
      have h97 := h96.below hb7
      have hbw7 := hbw6.trans (hb7.mono (by omega))
      have hpw7 : p < w7.heap.size := Nat.lt_of_lt_of_le hpw6 hb7.size
      have hl9 := h97.lt
      have h12 := Blk.new w7 31 #[.string iz.key, .string iz.value, .bool iz.gone]
      have hx8 := hx7.alloc (.cells #[.string iz.key, .string iz.value, .bool iz.gone] 31)
      have h98 := h97.alloc (.cells #[.string iz.key, .string iz.value, .bool iz.gone] 31)
      have hbw8 := hbw7.alloc (by omega) (.cells #[.string iz.key, .string iz.value, .bool iz.gone] 31)
      clear hg6 hb7 hx6 h96 hbw6 hpw6 hx7 h97 hbw7
      have x0 := (hx8.cell 0).trans rfl
      have x1 := (hx8.cell 1).trans rfl
      have x2 := (hx8.cell 2).trans rfl
      have y0 := (h98.cell 0).trans rfl
      have y1 := (h98.cell 1).trans rfl
      have y2 := (h98.cell 2).trans rfl
      have hsplit : (((¬ key.toList = c.key.toList) ∨ (key.toList = c.key.toList ∧ (ec != 0) = true)) ∧ iz = wz ∧ hs = hd) ∨ (key.toList = c.key.toList ∧ ec = 0 ∧ hs = true ∧ iz = nrm c) := by
        obtain ⟨hch, hiz, hhs⟩ := HIZ.out
        obtain ⟨hwz, hhd⟩ := HWZ.out
        by_cases hke : key = c.key
        · by_cases he : ec = 0
          · have := last_new q (nrm c) HOK.out.1 (by rw [hch]; exact he)
            rw [nrm_key, hch, ← hke, hiz, hhs] at this
            exact .inr ⟨by rw [hke], he, this.2, this.1⟩
          · have := last_same q (nrm c) key HOK.out.1 (.inr (by rw [hch]; exact he))
            rw [hch, hiz, hhs, hwz, hhd] at this
            exact .inl ⟨.inr ⟨by rw [hke], by simpa using he⟩, this.1, this.2⟩
        · have := last_same q (nrm c) key HOK.out.1 (.inl (by rw [nrm_key]; exact hke))
          rw [hch, hiz, hhs, hwz, hhd] at this
          exact .inl ⟨.inl (fun e => hke (L_inj (by rw [← tl, ← tl]; exact e))), this.1, this.2⟩
      clear HIZ HWZ
      rcases hsplit with ⟨t1 | ⟨t1, t2⟩, rfl, rfl⟩ | ⟨t1, rfl, rfl, rfl⟩
      · go_wp2
        go_ret
        exact ⟨by simp, by rw [HBX.out]; exact hbw8⟩
      · go_wp2
        go_ret
        exact ⟨by simp, by rw [HBX.out]; exact hbw8⟩
      · cases hcg : c.gone with
        | true =>
          have hnr : nrm c = ⟨c.key, ⟨#[]⟩, true⟩ := by unfold nrm; rw [if_pos hcg]
          rw [hcg] at x2
          rw [hnr] at h12 hx8 h98 hbw8 x0 x1 x2 y0 y1 y2
          simp only [hnr]
          clear hcg hnr
          go_wp2
          go_ret
          exact ⟨rfl, by rw [HBX.out]; exact hbw8⟩
        | false =>
          have hnr : nrm c = ⟨c.key, c.value, false⟩ := by unfold nrm; rw [if_neg (by rw [hcg]; simp)]
          rw [hcg] at x2
          rw [hnr] at h12 hx8 h98 hbw8 x0 x1 x2 y0 y1 y2
          simp only [hnr]
          clear hcg hnr
          go_wp2
          go_ret
          exact ⟨rfl, by rw [HBX.out]; exact hbw8⟩
end Go.Proofs.Ytjcilknfhkpepaa.Bat
