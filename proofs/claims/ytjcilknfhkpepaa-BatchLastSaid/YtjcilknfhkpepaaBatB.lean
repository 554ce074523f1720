/- batch: New, Len, change, Put, Del, walked. -/
import Derived.Test.YtjcilknfhkpepaaBatA
import Derived.Test.YtjcilknfhkpepaaMemS
namespace Go.Proofs.Ytjcilknfhkpepaa.Bat
open Go.RowKit Go.Proofs.Ytjcilknfhkpepaa.Mem Go.Proofs.Ytjcilknfhkpepaa.X Go.Proofs.YtjcilknfhkpepaaW.PrintWords Go.Proofs.YtjcilknfhkpepaaW.PrintLast Go.Proofs.YtjcilknfhkpepaaW.PrintMore Go.Proofs.Ytjcilknfhkpepaa.Aid
set_option linter.unusedVariables false
set_option linter.unusedSimpArgs false
theorem Sl.put3 {w : World} {e : TypeId} {g off n cap : Nat} {xs : List Value} (h : Sl w e 3 (.slice (some ⟨g, off, none⟩) n cap) n xs) {i : Nat} (hi : i < n) (vs : List Value) (hv : vs.length = 3) :
    Sl (w.setCells g (off + i * 3) vs) e 3 (.slice (some ⟨g, off, none⟩) n cap) n (xs.take (i * 3) ++ vs ++ xs.drop (i * 3 + 3)) := by
  obtain ⟨g', off', cap', cur, hv', hb, h2, h3, h4, h5⟩ := h.form_pos (by omega)
  injection hv' with e1 e2 e3
  injection e1 with e1
  injection e1 with e4 e5
  subst e3 e4 e5
  have hl := h.len
  have hp := putMany_list vs (off + i * 3) cur (by omega)
  refine ⟨by rw [List.length_append, List.length_append, List.length_take, List.length_drop, hl, hv]; omega, .inr ⟨g, off, cap, _, rfl, hb.many vs (off + i * 3), h2, h3, by rw [putMany_size]; exact h4, ?_⟩⟩
  rw [hp]
  have hc : cur.toList.length = cur.size := Array.length_toList
  have e6 : ((cur.toList.take (off + i * 3) ++ vs ++ cur.toList.drop (off + i * 3 + vs.length)).drop off) = (cur.toList.drop off).take (i * 3) ++ vs ++ (cur.toList.drop off).drop (i * 3 + 3) := by
    rw [List.append_assoc, List.drop_append_of_le_length (by rw [List.length_take]; omega), List.drop_take, Nat.add_sub_cancel_left, List.drop_drop, hv, ← List.append_assoc]
    congr 2
  rw [e6, ← h5]
  have e7 : ((cur.toList.drop off).take (i * 3)).length = i * 3 := by rw [List.length_take, List.length_drop]; omega
  have e8 : (((cur.toList.drop off).take (i * 3) ++ vs).length) = i * 3 + 3 := by rw [List.length_append, e7, hv]
  rw [List.take_append, List.take_of_length_le (by omega), e8, List.take_take, Nat.min_eq_left (by omega), List.drop_take]
def vch (c : Ch) : Value := .agg #[.string c.key, .string c.value, .bool c.gone]
theorem put_there {l : List Ch} {c : Ch} (h : there l c.key = true) : (bcells l).take (pos l c.key * 3) ++ ccells c ++ (bcells l).drop (pos l c.key * 3 + 3) = bcells (put l c) := by
  unfold put
  rw [h, if_pos rfl, show pos l c.key * 3 + 3 = (pos l c.key + 1) * 3 from by omega, bcells_take, bcells_drop, bcells_app]
  have e : bcells (c :: l.drop (pos l c.key + 1)) = ccells c ++ bcells (l.drop (pos l c.key + 1)) := List.flatMap_cons
  rw [e, List.append_assoc]
theorem put_new {l : List Ch} {c : Ch} (h : there l c.key = false) : (bcells l).take (pos l c.key * 3) ++ ccells c ++ (bcells l).drop (pos l c.key * 3) = bcells (put l c) := by
  unfold put
  rw [h, if_neg (by simp), Nat.add_zero, bcells_take, bcells_drop, bcells_app]
  have e : bcells (c :: l.drop (pos l c.key)) = ccells c ++ bcells (l.drop (pos l c.key)) := List.flatMap_cons
  rw [e, List.append_assoc]
theorem there_pos {l : List Ch} {key : ByteArray} (h : there l key = true) : pos l key < l.length := by
  rw [at_pos] at h
  rcases Nat.lt_or_ge (pos l key) l.length with h1 | h1
  · exact h1
  · rw [List.getElem?_eq_none h1] at h; cases h
theorem fits_eq (k v : ByteArray) (g : Bool) : batch_fits.f k v g = some (fits ⟨k, v, g⟩) := by
  unfold batch_fits.f fits
  by_cases h0 : k.size = 0
  · rw [if_pos (by rw [tl]; exact List.eq_nil_of_length_eq_zero (by rw [← sz]; exact h0)), if_pos h0]
  · rw [if_neg (by rw [tl]; intro e; apply h0; rw [sz, e]; rfl), if_neg h0]
    by_cases h1 : 200 < k.size
    · rw [if_pos (by omega), if_pos (.inl h1)]
    · rw [if_neg (by omega)]
      by_cases h2 : 1048576 < v.size
      · rw [if_pos (by omega), if_pos (.inr h2)]
      · rw [if_neg (by omega), if_neg (fun e => e.elim h1 h2)]
set_option maxHeartbeats 4000000 in
theorem new_calls (w : World) : Calls Try.prog 9 #[] w fun e w' => e = .returned (.pointer (some ⟨w.heap.size, 0, none⟩)) ∧ Bt w' w.heap.size (.slice none 0 0) [] ∧ Below w.heap.size w w' := by
  have hu := Try.underlying65
  go_enter Try.func9, Try.ntmps9
  go_wp2
  go_ret
  exact ⟨rfl, ⟨Blk.new _ _ _, Sl.nil _ _ _⟩, (Below.refl _ w).alloc (Nat.le_refl _) _⟩
theorem Bt.there3 {w : World} {p : Nat} {g off cap : Nat} {l : List Ch} {n : Nat} (h : Bt w p (.slice (some ⟨g, off, none⟩) n cap) l) {i : Nat} (hi : i < l.length) : w.there g (off + i * 3) 3 := by
  obtain ⟨g', off', cap', cur, hv', hb, h2, h3, h4, h5⟩ := h.row.form_pos (by omega)
  injection hv' with e1 e2 e3
  injection e1 with e1
  injection e1 with e4 e5
  subst e3 e4 e5
  intro j hj
  exact ⟨by rw [hb.cell, Array.getElem?_eq_getElem (by omega)]; rfl, hb.frozen _⟩
set_option maxHeartbeats 8000000 in
set_option maxRecDepth 100000 in
theorem change_calls (w : World) (p : Nat) (v : Value) (l : List Ch) (ck cv : ByteArray) (cg : Bool) (h : Bt w p v l) (hs : Sorted l) (hn : l.length ≤ 2000) :
    Calls Try.prog 32 #[.pointer (some ⟨p, 0, none⟩), .agg #[.string ck, .string cv, .bool cg]] w fun e w' => ∃ v', e = .returned (.int .i64 (change l ⟨ck, cv, cg⟩).2) ∧ Bt w' p v' (change l ⟨ck, cv, cg⟩).1 ∧ Only (fun k => k = p ∨ own v k) w w' ∧ ∀ k, own v' k → own v k ∨ w.heap.size ≤ k := by
  obtain ⟨A, cap, rfl, hnc, hml⟩ := h.row.form
  have hlt0 := h.blk.lt
  have HT := Lib.hid h
  have HS := Lib.hid hs
  have hx0 := Blk.new w 31 #[.string ck, .string cv, .bool cg]
  have hb0 := h.alloc (.cells #[.string ck, .string cv, .bool cg] 31)
  have hB0 : Below w.heap.size w (w.alloc (.cells #[.string ck, .string cv, .bool cg] 31)) := (Below.refl _ w).alloc (Nat.le_refl _) _
  have hfit := fits_eq ck cv cg
  obtain ⟨ft, hft⟩ : ∃ ft, fits ⟨ck, cv, cg⟩ = ft := ⟨_, rfl⟩
  rw [hft] at hfit
  have HF := Lib.hid hft
  clear h hs hml hnc hft
  go_enter Try.func32, Try.ntmps32
  go_wp2_with fail
  refine (batch_fits.calls ck cv cg ft _ hfit).mono ?_
  rintro e w1 ⟨rfl, hd1⟩
  have hx1 := hx0.below hd1
  have hb1 := hb0.below hd1
  have hB1 := hB0.trans (hd1.mono hB0.size)
  clear hx0 hb0 hB0 hd1 hfit
  by_cases hf0 : ft = 0
  case neg =>
    have hf1 : (ft == 0) = false := beq_eq_false_iff_ne.mpr hf0
    have hf2 : (ft != 0) = true := by rw [bne, hf1]; rfl
    go_wp2
    go_ret
    refine ⟨_, by unfold change; rw [if_pos (by rw [HF.out]; exact hf0), HF.out]; rfl, by unfold change; rw [if_pos (by rw [HF.out]; exact hf0)]; exact hb1, Only.of_below hB1 _, fun k hk => .inl hk⟩
  subst hf0
  have hpl := place_calls w1 p _ l ck hb1 HS.out (by omega)
  obtain ⟨bx, hbx⟩ : ∃ bx, w.heap.size = bx := ⟨_, rfl⟩
  have x1 : w1.cell? ⟨bx, 0, none⟩ = some (.string ck) := by rw [← hbx]; exact (hx1.cell 0).trans rfl
  rw [hbx] at hx1
  have HBX := Lib.hid hbx
  simp only [hbx]
  clear hbx
  go_wp2_with fail
  refine hpl.mono ?_
  rintro e w2 ⟨rfl, hd2⟩
  have hb2 := hb1.below hd2
  have hx2 := hx1.below hd2
  have hB2 := hB1.trans (hd2.mono hB1.size)
  have hpos := pos_le l ck
  have hchg : ∀ b, there l ck = b → change l ⟨ck, cv, cg⟩ = if b = false ∧ 2000 ≤ l.length then (l, 8) else (put l ⟨ck, cv, cg⟩, 0) := fun b hb => by
    unfold change
    rw [if_neg (by rw [HF.out]; simp)]
    simp only [hb]
  have HCH := Lib.hid hchg
  clear hx1 hb1 hB1 hd2 hpl x1 hchg
  cases hth : there l ck with
  | true =>
    have hpt := there_pos hth
    obtain ⟨g, off, hA, z1, z2, z3⟩ := hb2.at hpt
    clear z1 z2 z3
    subst hA
    have hthere3 : ∀ W, Bt W p (.slice (some ⟨g, off, none⟩) l.length cap) l → W.there g (off + pos l ck * 3) 3 := fun W hW => hW.there3 hpt
    have hput := put_there (l := l) (c := ⟨ck, cv, cg⟩) hth
    have hlen := put_len l ⟨ck, cv, cg⟩
    obtain ⟨q, hq⟩ : ∃ q, pos l ck = q := ⟨_, rfl⟩
    have hqi : (q : Int) < (l.length : Int) := by omega
    have HQ := Lib.hid (And.intro hq (And.intro hth (And.intro hput (And.intro hlen hpt))))
    simp only [hq] at hthere3 ⊢
    clear hq hth hput hlen hpt hpos
    have hbw : ∀ k, own (.slice (some ⟨g, off, none⟩) l.length cap) k → k = g := fun k hk => by cases hk; rfl
    go_wp2
    refine start_ (n := 8) (S := fun w' => Bt w' p (.slice (some ⟨g, off, none⟩) l.length cap) l ∧ Blk w' bx 31 #[.string ck, .string cv, .bool cg] ∧ Below w.heap.size w w') (ds := [7]) #[false, false, false, false, false, false, false, false] (by kernel_rfl) rfl rfl ⟨hb2.drew, hx2.drew, hB2.drew⟩ (fun hHeld => ?_)
    generalize w2.drew = w3 at hHeld ⊢
    refine pure_ (i := 0) (N := some 33) (v := ?_) (a' := ?_) #[true, false, false, false, false, false, false, false] rfl rfl (by kernel_rfl) (fun _ _ _ h => h) (Or.inl ⟨by rfl, ?_⟩) ?_ ?_
    rotate_left
    · intro w'
      go_simp
      with_reducible rfl
    rotate_left
    · simp only [Act.put, List.setIfInBounds_toArray, List.set_cons_zero, List.set_cons_succ]
      rfl
    refine pure_ (i := 1) (N := some 34) (v := ?_) (a' := ?_) #[true, true, false, false, false, false, false, false] rfl rfl (by kernel_rfl) (fun _ _ _ h => h) (Or.inl ⟨by rfl, ?_⟩) ?_ ?_
    rotate_left
    · intro w'
      go_simp
      with_reducible rfl
    rotate_left
    · simp only [Act.put, List.setIfInBounds_toArray, List.set_cons_zero, List.set_cons_succ]
      rfl
    refine pure_ (i := 2) (N := some 35) (v := ?_) (a' := ?_) #[true, true, true, false, false, false, false, false] rfl rfl (by kernel_rfl) (fun _ _ _ h => h) (Or.inl ⟨by rfl, ?_⟩) ?_ ?_
    rotate_left
    · intro w'
      go_simp
      with_reducible rfl
    rotate_left
    · simp only [Act.put, List.setIfInBounds_toArray, List.set_cons_zero, List.set_cons_succ]
      rfl
    refine take_ (i := 3) (N := some 36) (v := ?_) (a' := ?_) #[true, true, true, true, false, false, false, false] rfl rfl (by kernel_rfl) (fun _ _ _ h => h) (Or.inl ⟨by rfl, ?_⟩) hHeld ?_ ?_
    rotate_left
    · rintro w' ⟨hS, hX, _⟩
      have x1 : w'.cell? ⟨p, 0, none⟩ = some (.slice (some ⟨g, off, none⟩) l.length cap) := (hS.blk.cell 0).trans rfl
      go_simp
      with_reducible rfl
    rotate_left
    · simp only [Act.put, List.setIfInBounds_toArray, List.set_cons_zero, List.set_cons_succ]
      rfl
    refine pure_ (i := 4) (N := some 37) (v := ?_) (a' := ?_) #[true, true, true, true, true, false, false, false] rfl rfl (by kernel_rfl) (fun _ _ _ h => h) (Or.inl ⟨by rfl, ?_⟩) ?_ ?_
    rotate_left
    · intro w'
      go_simp
      with_reducible rfl
    rotate_left
    · simp only [Act.put, List.setIfInBounds_toArray, List.set_cons_zero, List.set_cons_succ]
      rfl
    refine take_ (i := 5) (N := some 38) (v := ?_) (a' := ?_) #[true, true, true, true, true, true, false, false] rfl rfl (by kernel_rfl) (fun _ _ _ h => h) (Or.inl ⟨by rfl, ?_⟩) hHeld ?_ ?_
    rotate_left
    · rintro w' ⟨hS, hX, _⟩
      have x1 : w'.cell? ⟨bx, 0, none⟩ = some (.string ck) := (hX.cell 0).trans rfl
      have x2 : w'.cell? ⟨bx, 1, none⟩ = some (.string cv) := (hX.cell 1).trans rfl
      have x3 : w'.cell? ⟨bx, 2, none⟩ = some (.bool cg) := (hX.cell 2).trans rfl
      go_simp
      with_reducible rfl
    rotate_left
    · simp only [Act.put, List.setIfInBounds_toArray, List.set_cons_zero, List.set_cons_succ]
      rfl
    refine pure_ (i := 6) (N := some 39) (v := ?_) (a' := ?_) #[true, true, true, true, true, true, true, false] rfl rfl (by kernel_rfl) (fun _ _ _ h => h) (Or.inl ⟨by rfl, ?_⟩) ?_ ?_
    rotate_left
    · intro w'
      go_simp
      with_reducible rfl
    rotate_left
    · simp only [Act.put, List.setIfInBounds_toArray, List.set_cons_zero, List.set_cons_succ]
      rfl
    refine last_ (i := 7) (N := none) #[true, true, true, true, true, true, true, true] rfl rfl (by kernel_rfl) (by decide) (fun K hK => ?_)
    rw [if_pos (by rfl)]
    refine wp_store_mid 31 (.tmp 39) (.tmp 38) rfl g (off + q * 3) #[.string ck, .string cv, .bool cg] rfl rfl (hthere3 _ hHeld.1) Ins.sizeT (by simp [Value.oneCell']) ?_
    have hrow := Sl.put3 hHeld.1.row (i := q) (by have := HQ.out; omega) (ccells ⟨ck, cv, cg⟩) rfl
    have hb4 : Bt (w3.setCells g (off + q * 3) (ccells ⟨ck, cv, cg⟩)) p (.slice (some ⟨g, off, none⟩) l.length cap) (put l ⟨ck, cv, cg⟩) := by
      have hpg : p ≠ g := fun e => hHeld.1.apart (by rw [e]; rfl)
      have hl := HQ.out.2.2.2.1
      rw [if_pos HQ.out.2.1] at hl
      refine ⟨(setCells_heap_ne g _ _ w3 p hpg).trans hHeld.1.blk, ?_⟩
      rw [hl, ← HQ.out.2.2.1, HQ.out.1]
      exact hrow
    have ho4 : Only (fun k => k = p ∨ own (.slice (some ⟨g, off, none⟩) l.length cap) k) w (w3.setCells g (off + q * 3) (ccells ⟨ck, cv, cg⟩)) := (Only.of_below hHeld.2.2 _).cells (.inl (.inr rfl)) _ _
    have HB4 := Lib.hid (And.intro hb4 ho4)
    refine hK.out _ _ ?_
    clear hK K hrow hb4 ho4
    refine done_ (by kernel_rfl) ?_
    go_wp2
    go_ret
    have hc := HCH.out true HQ.out.2.1
    rw [if_neg (by simp)] at hc
    exact ⟨_, by rw [hc]; rfl, by rw [hc]; exact HB4.out.1, HB4.out.2, fun k hk => .inl hk⟩
  | false =>
    have hnt := put_new (l := l) (c := ⟨ck, cv, cg⟩) hth
    have hlen := put_len l ⟨ck, cv, cg⟩
    have hpl2 : (pos l ck : Int) ≤ (l.length : Int) := by omega
    obtain ⟨q, hq⟩ : ∃ q, pos l ck = q := ⟨_, rfl⟩
    have HQ := Lib.hid (And.intro hq (And.intro hth (And.intro hnt (And.intro hlen hpos))))
    have x0 : w2.cell? ⟨p, 0, none⟩ = some (.slice A l.length cap) := (hb2.blk.cell 0).trans rfl
    simp only [hq]
    rw [hq] at hpl2
    clear hq hth hnt hlen hpos
    by_cases hful : 2000 ≤ l.length
    · have hfi : (2000 : Int) ≤ (l.length : Int) := by omega
      have hfd : decide (2000 ≤ l.length) = true := decide_eq_true hful
      go_wp2
      go_ret
      have hc := HCH.out false HQ.out.2.1
      rw [if_pos ⟨rfl, hful⟩] at hc
      exact ⟨by rw [hc]; rfl, .slice A l.length cap, by rw [hc]; exact hb2, Only.of_below hB2 _, fun k hk => .inl hk⟩
    · have hfi : ¬ (2000 : Int) ≤ (l.length : Int) := by omega
      have hfd : decide (2000 ≤ l.length) = false := decide_eq_false hful
      go_wp2
      refine start_ (n := 12) (S := fun w' => Bt w' p (.slice A l.length cap) l ∧ Blk w' bx 31 #[.string ck, .string cv, .bool cg] ∧ Below w.heap.size w w') (ds := [8, 11]) #[false, false, false, false, false, false, false, false, false, false, false, false] (by kernel_rfl) rfl rfl ⟨hb2.drew, hx2.drew, hB2.drew⟩ (fun hHeld => ?_)
      generalize w2.drew = w3 at hHeld ⊢
      refine pure_ (i := 0) (N := some 20) (v := ?_) (a' := ?_) #[true, false, false, false, false, false, false, false, false, false, false, false] rfl rfl (by kernel_rfl) (fun _ _ _ h => h) (Or.inl ⟨by rfl, ?_⟩) ?_ ?_
      rotate_left
      · intro w'
        go_simp
        with_reducible rfl
      rotate_left
      · simp only [Act.put, List.setIfInBounds_toArray, List.set_cons_zero, List.set_cons_succ]
        rfl
      refine pure_ (i := 1) (N := some 21) (v := ?_) (a' := ?_) #[true, true, false, false, false, false, false, false, false, false, false, false] rfl rfl (by kernel_rfl) (fun _ _ _ h => h) (Or.inl ⟨by rfl, ?_⟩) ?_ ?_
      rotate_left
      · intro w'
        go_simp
        with_reducible rfl
      rotate_left
      · simp only [Act.put, List.setIfInBounds_toArray, List.set_cons_zero, List.set_cons_succ]
        rfl
      refine pure_ (i := 2) (N := some 22) (v := ?_) (a' := ?_) #[true, true, true, false, false, false, false, false, false, false, false, false] rfl rfl (by kernel_rfl) (fun _ _ _ h => h) (Or.inl ⟨by rfl, ?_⟩) ?_ ?_
      rotate_left
      · intro w'
        go_simp
        with_reducible rfl
      rotate_left
      · simp only [Act.put, List.setIfInBounds_toArray, List.set_cons_zero, List.set_cons_succ]
        rfl
      refine pure_ (i := 3) (N := some 23) (v := ?_) (a' := ?_) #[true, true, true, true, false, false, false, false, false, false, false, false] rfl rfl (by kernel_rfl) (fun _ _ _ h => h) (Or.inl ⟨by rfl, ?_⟩) ?_ ?_
      rotate_left
      · intro w'
        go_simp
        with_reducible rfl
      rotate_left
      · simp only [Act.put, List.setIfInBounds_toArray, List.set_cons_zero, List.set_cons_succ]
        rfl
      refine take_ (i := 4) (N := some 24) (v := ?_) (a' := ?_) #[true, true, true, true, true, false, false, false, false, false, false, false] rfl rfl (by kernel_rfl) (fun _ _ _ h => h) (Or.inl ⟨by rfl, ?_⟩) hHeld ?_ ?_
      rotate_left
      · rintro w' ⟨hS, hX, _⟩
        have x1 : w'.cell? ⟨p, 0, none⟩ = some (.slice A l.length cap) := (hS.blk.cell 0).trans rfl
        go_simp
        with_reducible rfl
      rotate_left
      · simp only [Act.put, List.setIfInBounds_toArray, List.set_cons_zero, List.set_cons_succ]
        rfl
      refine pure_ (i := 5) (N := some 25) (v := ?_) (a' := ?_) #[true, true, true, true, true, true, false, false, false, false, false, false] rfl rfl (by kernel_rfl) (fun _ _ _ h => h) (Or.inl ⟨by rfl, ?_⟩) ?_ ?_
      rotate_left
      · intro w'
        go_simp
        with_reducible rfl
      rotate_left
      · simp only [Act.put, List.setIfInBounds_toArray, List.set_cons_zero, List.set_cons_succ]
        rfl
      refine take_ (i := 6) (N := some 26) (v := ?_) (a' := ?_) #[true, true, true, true, true, true, true, false, false, false, false, false] rfl rfl (by kernel_rfl) (fun _ _ _ h => h) (Or.inl ⟨by rfl, ?_⟩) hHeld ?_ ?_
      rotate_left
      · rintro w' ⟨hS, hX, _⟩
        have x1 : w'.cell? ⟨bx, 0, none⟩ = some (.string ck) := (hX.cell 0).trans rfl
        have x2 : w'.cell? ⟨bx, 1, none⟩ = some (.string cv) := (hX.cell 1).trans rfl
        have x3 : w'.cell? ⟨bx, 2, none⟩ = some (.bool cg) := (hX.cell 2).trans rfl
        go_simp
        with_reducible rfl
      rotate_left
      · simp only [Act.put, List.setIfInBounds_toArray, List.set_cons_zero, List.set_cons_succ]
        rfl
      refine one_ (i := 7) (N := some 27) #[true, true, true, true, true, true, true, true, false, false, false, false] rfl rfl (by kernel_rfl) (by decide) (fun K hK => ?_)
      go_simp
      have hv9 := Blk.new w3 31 #[.string ck, .string cv, .bool cg]
      have hs9 : Bt (w3.alloc (.cells #[.string ck, .string cv, .bool cg] 31)) p (.slice A l.length cap) l ∧ Blk (w3.alloc (.cells #[.string ck, .string cv, .bool cg] 31)) bx 31 #[.string ck, .string cv, .bool cg] ∧ Below w.heap.size w (w3.alloc (.cells #[.string ck, .string cv, .bool cg] 31)) := ⟨hHeld.1.alloc _, hHeld.2.1.alloc _, hHeld.2.2.alloc hHeld.2.2.size _⟩
      have hne9 : ¬ own (.slice A l.length cap) w3.heap.size := fun e => by have := hHeld.1.row.lt e; omega
      have hvl : w.heap.size ≤ w3.heap.size := hHeld.2.2.size
      refine hK.out _ _ hs9 (fun hHeld => ?_)
      clear hK K hs9
      obtain ⟨vb, hvb⟩ : ∃ vb, w3.heap.size = vb := ⟨_, rfl⟩
      obtain ⟨w5, hw5⟩ : ∃ w5, w3.alloc (.cells #[.string ck, .string cv, .bool cg] 31) = w5 := ⟨_, rfl⟩
      rw [hw5] at hHeld hv9
      rw [hvb] at hv9 hne9 hvl
      simp only [hvb, hw5]
      clear hvb hw5
      have hins := Ins.ins_calls w5 A l.length cap q (bcells l) hHeld.1.row (by have := HQ.out; omega) (one_bcells l) vb (ccells ⟨ck, cv, cg⟩) rfl hv9 hne9 (one_ccells _) (by omega)
      refine last_ (i := 8) (N := some 28) #[true, true, true, true, true, true, true, true, true, false, false, false] rfl rfl (by kernel_rfl) (by decide) (fun K hK => ?_)
      go_simp
      go_wp2_with (go_at_call 41; refine hins.mono ?_; rintro e w6 ⟨A', cap', rfl, hs6, ho6, hn6⟩)
      have hpk : ¬ own (.slice A l.length cap) p := hHeld.1.apart
      have hbk6 := ho6.blk hHeld.1.blk hpk
      have hap6 : ¬ own (.slice A' (l.length + 1) cap') p := hs6.type_ne hbk6 (by decide)
      have ho9 : Only (fun k => k = p ∨ own (.slice A l.length cap) k) w w6 := (Only.of_below hHeld.2.2 _).trans (ho6.mono fun k hk => .inr hk)
      have hn9 : ∀ k, own (.slice A' (l.length + 1) cap') k → own (.slice A l.length cap) k ∨ w.heap.size ≤ k := fun k hk => (hn6 k hk).imp id fun e => Nat.le_trans hHeld.2.2.size e
      have HB6 := Lib.hid (And.intro hs6 (And.intro hbk6 (And.intro hap6 (And.intro ho9 hn9))))
      refine hK.out _ _ ?_
      clear hK K hHeld hs6 ho6 hn6 hins hv9 hne9 hpk hbk6 hap6 ho9 hn9
      refine pure_ (i := 9) (N := some 29) (v := ?_) (a' := ?_) #[true, true, true, true, true, true, true, true, true, true, false, false] rfl rfl (by kernel_rfl) (fun _ _ _ h => h) (Or.inl ⟨by rfl, ?_⟩) ?_ ?_
      rotate_left
      · intro w'
        go_simp
        with_reducible rfl
      rotate_left
      · simp only [Act.put, List.setIfInBounds_toArray, List.set_cons_zero, List.set_cons_succ]
        rfl
      refine pure_ (i := 10) (N := some 30) (v := ?_) (a' := ?_) #[true, true, true, true, true, true, true, true, true, true, true, false] rfl rfl (by kernel_rfl) (fun _ _ _ h => h) (Or.inl ⟨by rfl, ?_⟩) ?_ ?_
      rotate_left
      · intro w'
        go_simp
        with_reducible rfl
      rotate_left
      · simp only [Act.put, List.setIfInBounds_toArray, List.set_cons_zero, List.set_cons_succ]
        rfl
      refine last_ (i := 11) (N := none) #[true, true, true, true, true, true, true, true, true, true, true, true] rfl rfl (by kernel_rfl) (by decide) (fun K hK => ?_)
      have x6 : w6.cell? ⟨p, 0, none⟩ = some (.slice A l.length cap) := (HB6.out.2.1.cell 0).trans rfl
      have f6 := HB6.out.2.1.frozen 0
      go_simp
      refine hK.out _ _ ?_
      clear hK K
      refine done_ (by kernel_rfl) ?_
      go_wp2
      go_ret
      have hc := HCH.out false HQ.out.2.1
      rw [if_neg (fun e => hful e.2)] at hc
      obtain ⟨hs6, hbk6, hap6, ho9, hn9⟩ := HB6.out
      have hl := HQ.out.2.2.2.1
      rw [if_neg (show ¬ there l (⟨ck, cv, cg⟩ : Ch).key = true by rw [HQ.out.2.1]; simp)] at hl
      have hbt : Bt (w6.setCell ⟨p, 0, none⟩ (.slice A' (l.length + 1) cap')) p (.slice A' (l.length + 1) cap') (put l ⟨ck, cv, cg⟩) := by
        refine ⟨hbk6.set_ 0 _, ?_⟩
        rw [hl, ← HQ.out.2.2.1, HQ.out.1]
        exact hs6.far (p := ⟨p, 0, none⟩) hap6 _
      exact ⟨.slice A' (l.length + 1) cap', by rw [hc]; rfl, by rw [hc]; exact hbt, ho9.put (.inl rfl) 0 _, hn9⟩
end Go.Proofs.Ytjcilknfhkpepaa.Bat
