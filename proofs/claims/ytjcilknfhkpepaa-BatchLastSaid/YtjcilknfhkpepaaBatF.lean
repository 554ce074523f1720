/- batch: Texts. -/
import Derived.Test.YtjcilknfhkpepaaBatE
import Derived.Test.YtjcilknfhkpepaaRangeD
import Derived.Test.YtjcilknfhkpepaaStartIn
import Derived.Test.YtjcilknfhkpepaaX5
namespace Go.Proofs.Ytjcilknfhkpepaa.Bat
open Go.RowKit Go.Shelf Go.Proofs.Ytjcilknfhkpepaa.Mem Go.Proofs.Ytjcilknfhkpepaa.X Go.Proofs.Ytjcilknfhkpepaa.Aid Go.Proofs.YtjcilknfhkpepaaW.PrintWords Go.Proofs.YtjcilknfhkpepaaW.PrintLast
attribute [local go_sem] Oper.semAt_some
set_option linter.unusedVariables false
set_option linter.unusedSimpArgs false
theorem info_s : (Try.prog.info? 9).map (fun i => (i.zero, i.size, i.bytes)) = some (some (.string ⟨#[]⟩), 1, 16) := by kernel_rfl
def txI (w : World) (tx : Ch → ByteArray) (pre : List Ch) (W : World) : Prop := ∃ v', Blk W w.heap.size 47 #[v'] ∧ Sl W 9 1 v' pre.length (pre.map fun c => .string (tx c)) ∧ (∀ k, own v' k → w.heap.size + 4 ≤ k) ∧ Below w.heap.size w W
def txAct (p b : Nat) (w : World) (x : Ch) : Act := { tmps := #[.pointer (some ⟨p, 0, none⟩), undef, .slice none 0 0, .pointer (some ⟨w.heap.size, 0, none⟩), .pointer (some ⟨b, 0, none⟩), .pointer (some ⟨p, 0, none⟩), .func (.func 40) #[] #[.pointer (some ⟨w.heap.size + 1, 0, none⟩)], .agg #[.string x.key, .string x.value, .bool x.gone], undef, undef, undef, undef, undef, undef], defers := [] }
set_option maxHeartbeats 8000000 in
set_option maxRecDepth 100000 in
theorem texts_calls (k : Nat) (w : World) (p : Nat) (v : Value) (l : List Ch) (tx : Ch → ByteArray) (h : Bt w p v l) (hn : l.length ≤ 100000) (hw : ∀ c ∈ l, batch_Write.f k c.key c.value c.gone = some (tx c)) :
    Calls Try.prog 22 #[.pointer (some ⟨p, 0, none⟩)] w fun e w' => ∃ v', e = .returned v' ∧ Sl w' 9 1 v' l.length (l.map fun c => .string (tx c)) ∧ (∀ k, own v' k → w.heap.size ≤ k) ∧ Below w.heap.size w w' := by
  have hlt0 := h.blk.lt
  have hrow : ∀ k, own v k → k < w.heap.size := fun k hk => h.row.lt hk
  have HW := Lib.hid hw
  have HR := Lib.hid hrow
  have HN := Lib.hid hn
  clear hw hrow hn
  refine (callsIn_wide (n := 3)).1 ?_
  refine callsIn_of_wp_marks Try.func22 rfl trivial ?_ rfl
  simp only [Try.ntmps22, List.size_toArray, List.length_cons, List.length_nil, Nat.reduceAdd, Nat.reduceSub, Array.replicate_succ, Array.replicate_zero, List.push_toArray, List.append_toArray, List.nil_append, List.cons_append]
  have hB0 := Blk.new w 47 #[.slice none 0 0]
  have hBA : Below w.heap.size w (w.alloc (.cells #[.slice none 0 0] 47)) := (Below.refl _ w).alloc (Nat.le_refl _) _
  have hsA : (w.alloc (.cells #[.slice none 0 0] 47)).heap.size = w.heap.size + 1 := World.size_alloc ..
  gi_wp2_with fail
  refine ⟨trivial, ?_⟩
  refine (callsIn_wide.2 (all_calls _ p)).mono ?_
  rintro e w1 ⟨rfl, bt, rfl⟩
  have hbox := Blk.new (w.alloc (.cells #[.slice none 0 0] 47)) bt #[.pointer (some ⟨p, 0, none⟩)]
  have hB1 := hBA.alloc (hBA.size) (.cells #[.pointer (some ⟨p, 0, none⟩)] bt)
  have hs1 : ((w.alloc (.cells #[.slice none 0 0] 47)).alloc (.cells #[.pointer (some ⟨p, 0, none⟩)] bt)).heap.size = w.heap.size + 2 := by simp [hsA]
  have hB0 := hB0.alloc (.cells #[.pointer (some ⟨p, 0, none⟩)] bt)
  rw [hsA] at hbox
  obtain ⟨w1, hw1⟩ : ∃ x, (w.alloc (.cells #[.slice none 0 0] 47)).alloc (.cells #[.pointer (some ⟨p, 0, none⟩)] bt) = x := ⟨_, rfl⟩
  simp only [hw1, hsA] at hB0 hbox hB1 hs1 ⊢
  clear hw1 hBA hsA
  have ht1 := h.below hB1
  have hseq := all_seq 2 bt (w.heap.size + 1) p v l HN.out w1 (w.heap.size + 1) hbox ht1
  gi_wp2_with fail
  refine Mem.wpIn_rangeFunc_D rfl (by decide) (gf := 40) (lb := #[.pointer (some ⟨w.heap.size + 1, 0, none⟩)]) rfl trivial (enters_of Try.func40 (by kernel_rfl) rfl)
    hseq (by omega) (fun k hk => by have := HR.out k hk; omega) (Below.refl _ _) (fun _ => rfl)
    (txI w tx) (fun _ _ _ => False) ?hI ?hIx ⟨_, hB0, Sl.nil _ _ _, fun k hk => (by cases hk), hB1⟩
    (fun x a W => ∃ b, a = txAct p b w x ∧ w.heap.size + 4 ≤ b ∧ Blk W b 31 #[.string x.key, .string x.value, .bool x.gone]) ?hAx ?assign ?body ?done ?stop
  case hI =>
    rintro pre W W' ⟨v', h1, h2, h3, h4⟩ ho
    exact ⟨v', ho.blk h1 (by omega), h2.only ho (fun k hk => by have := h3 k hk; omega), h3, h4.trans (ho.to_below h4.size fun q hq => by omega)⟩
  case hIx => exact fun _ _ _ _ h _ => h
  case hAx =>
    rintro x a W W' ⟨b, rfl, hb, h1⟩ ho
    exact ⟨b, rfl, hb, ho.blk h1 (by omega)⟩
  case assign =>
    intro l x W K hlt hK
    have hb0 := Blk.new W 31 #[.string ⟨#[]⟩, .string ⟨#[]⟩, .bool false]
    unfold vch
    gi_wp2
    exact hK _ _ ⟨W.heap.size, rfl, by omega, Blk.new _ _ _⟩ ((Only.refl _ W).alloc _)
  case body =>
    rintro lp pre x a' W hpx ⟨v', h1, h2, h3, h4⟩ ⟨b, rfl, hb, hbx⟩ hlt
    have hmem : x ∈ l := hpx.subset (by simp)
    have hpl : pre.length + 1 ≤ l.length := by have := hpx.length_le; rw [List.length_append] at this; exact this
    have HWX : Hid (batch_Write.f k x.key x.value x.gone = some (tx x)) := Lib.hid (HW.out x hmem)
    have HPL : Hid (pre.length + 1 ≤ 100000) := Lib.hid (Nat.le_trans hpl HN.out)
    have hkeep : ∀ W3 : World, Only (fun q => q = w.heap.size ∨ own v' q) W W3 → ∀ q, (own v q ∨ q = w1.heap.size ∨ q = w1.heap.size + 1) → W3.heap[q]? = W.heap[q]? := fun W3 ho q hq => by
      have hq1 : q < w.heap.size ∨ (w.heap.size + 2 ≤ q ∧ q ≤ w.heap.size + 3) := by
        rcases hq with hq | hq | hq
        · exact .inl (HR.out q hq)
        · exact .inr (by omega)
        · exact .inr (by omega)
      refine ho.block q (by omega) ?_
      rintro (e | e)
      · omega
      · have := h3 q e; omega
    have HKP := Lib.hid hkeep
    have H3 := Lib.hid h3
    have hne0 : b ≠ w.heap.size := by omega
    obtain ⟨A, cap, rfl, hnc, hml⟩ := h2.form
    clear hmem hpl hkeep h3 hpx
    unfold txAct
    gi_wp2_with fail
    refine startIn_ (n := 6) (S := fun w' => Blk w' w.heap.size 47 #[.slice A pre.length cap] ∧ Sl w' 9 1 (.slice A pre.length cap) pre.length (pre.map fun c => .string (tx c)) ∧ Blk w' b 31 #[.string x.key, .string x.value, .bool x.gone] ∧ Below W.heap.size W w') (ds := [4, 5]) #[false, false, false, false, false, false] (by kernel_rfl) (by rintro ⟨a, w, h⟩; exact h) (by kernel_rfl) rfl rfl ⟨h1.drew, h2.drew, hbx.drew, (Below.refl _ W).drew⟩ (fun hHeld => ?_)
    generalize W.drew = w3 at hHeld ⊢
    refine take_ (i := 0) (N := some 8) (v := ?_) (a' := ?_) #[true, false, false, false, false, false] rfl rfl (by kernel_rfl) (fun _ _ _ h => h) (Or.inl ⟨by rfl, ?_⟩) hHeld ?_ ?_
    rotate_left
    · rintro w' ⟨g1, g2, g3, g4⟩
      have z0 : w'.cell? ⟨w.heap.size, 0, none⟩ = some (.slice A pre.length cap) := (g1.cell 0).trans rfl
      go_simp
      with_reducible rfl
    rotate_left
    · simp only [Act.put, List.setIfInBounds_toArray, List.set_cons_zero, List.set_cons_succ]
      rfl
    refine take_ (i := 1) (N := some 9) (v := ?_) (a' := ?_) #[true, true, false, false, false, false] rfl rfl (by kernel_rfl) (fun _ _ _ h => h) (Or.inl ⟨by rfl, ?_⟩) hHeld ?_ ?_
    rotate_left
    · rintro w' ⟨g1, g2, g3, g4⟩
      have z0 : w'.cell? ⟨b, 0, none⟩ = some (.string x.key) := (g3.cell 0).trans rfl
      have z1 : w'.cell? ⟨b, 1, none⟩ = some (.string x.value) := (g3.cell 1).trans rfl
      have z2 : w'.cell? ⟨b, 2, none⟩ = some (.bool x.gone) := (g3.cell 2).trans rfl
      go_simp
      with_reducible rfl
    rotate_left
    · simp only [Act.put, List.setIfInBounds_toArray, List.set_cons_zero, List.set_cons_succ]
      rfl
    refine one_ (i := 2) (N := some 10) #[true, true, true, false, false, false] rfl rfl (by kernel_rfl) (by decide) (fun K hK => ?_)
    go_simp
    go_wp2_with (go_at_call 27; refine (batch_Write.calls k x.key x.value x.gone (tx x) _ HWX.out).mono ?_; rintro e w4 ⟨rfl, hb4⟩)
    refine hK.out _ _ ⟨hHeld.1.below hb4, hHeld.2.1.below hb4, hHeld.2.2.1.below hb4, hHeld.2.2.2.trans (hb4.mono hHeld.2.2.2.size)⟩ (fun hHeld => ?_)
    clear hK K
    refine one_ (i := 3) (N := some 11) #[true, true, true, true, false, false] rfl rfl (by kernel_rfl) (by decide) (fun K hK => ?_)
    go_simp
    have hv9 := Blk.new w4 9 #[.string (tx x)]
    refine hK.out _ _ ⟨hHeld.1.alloc _, hHeld.2.1.alloc _, hHeld.2.2.1.alloc _, hHeld.2.2.2.alloc hHeld.2.2.2.size _⟩ (fun hHeld => ?_)
    clear hK K
    have hvl : W.heap.size ≤ w4.heap.size := by
      have := hHeld.2.2.2.size
      exact Nat.le_trans (by rename_i hh; exact hh.2.2.2.size) (Nat.le_refl _)
    obtain ⟨vb, hvb⟩ : ∃ vb, w4.heap.size = vb := ⟨_, rfl⟩
    obtain ⟨w5, hw5⟩ : ∃ w5, w4.alloc (.cells #[.string (tx x)] 9) = w5 := ⟨_, rfl⟩
    rw [hw5] at hHeld hv9
    rw [hvb] at hv9 hvl
    simp only [hvb, hw5]
    clear hvb hw5
    obtain ⟨i0, hi, hz0, hz1, hz2⟩ := info_parts info_s
    refine last_ (i := 4) (N := some 12) #[true, true, true, true, true, false] rfl rfl (by kernel_rfl) (by decide) (fun K hK => ?_)
    refine step_append_sl rfl _ _ 47 47 rfl 9 i0 _ 1 16 Try.underlying47 hi hz0 hz1 hz2 rfl _ _ _ rfl hHeld.2.1 _ 1 [.string (tx x)] rfl (src_blk hv9 Try.underlying47 1 1 rfl (by simp [Value.oneCell'])) (by have := HPL.out; unfold maxLen; omega) (by have := HPL.out; omega) ?_
    intro A' cap' w6 hs6 ho6 hn6
    have hbk6 := ho6.blk hHeld.1 (fun e => by have := H3.out _ e; omega)
    have ho7 : Only (fun q => q = w.heap.size ∨ own (.slice A pre.length cap) q) W w6 := (Only.of_below hHeld.2.2.2 _).trans (ho6.mono fun k hk => .inr hk)
    have hn7 : ∀ k, own (.slice A' (pre.length + 1) cap') k → w.heap.size + 4 ≤ k := fun k hk => (hn6 k hk).elim (H3.out k) (fun e => by have := hHeld.2.2.2.size; omega)
    have h47 : Below w.heap.size w w6 := h4.trans (ho7.to_below h4.size (by
      rintro q (rfl | e)
      · exact Nat.le_refl _
      · have := H3.out q e; omega))
    have HB6 := Lib.hid (And.intro hs6 (And.intro hbk6 (And.intro ho7 (And.intro hn7 h47))))
    refine hK.out _ _ ?_
    clear hK K hHeld hs6 ho6 hn6 hv9 hbk6 ho7 hn7 h47
    refine last_ (i := 5) (N := none) #[true, true, true, true, true, true] rfl rfl (by kernel_rfl) (by decide) (fun K hK => ?_)
    have x6 : w6.cell? ⟨w.heap.size, 0, none⟩ = some (.slice A pre.length cap) := (HB6.out.2.1.cell 0).trans rfl
    have f6 := HB6.out.2.1.frozen 0
    go_simp
    refine hK.out _ _ ?_
    clear hK K
    refine done_ (by kernel_rfl) ?_
    clear x6 f6
    obtain ⟨hs6, hbk6, ho7, hn7, h47⟩ := HB6.out
    have q1 := hbk6.set_ 0 (.slice A' (pre.length + 1) cap')
    have q2 := hs6.far (p := ⟨w.heap.size, 0, none⟩) (fun e => by have := hn7 _ e; dsimp only at this; omega) (.slice A' (pre.length + 1) cap')
    have q3 := ho7.put (.inl rfl) 0 (.slice A' (pre.length + 1) cap')
    have q4 := h47.setCell (p := ⟨w.heap.size, 0, none⟩) (Nat.le_refl _) (.slice A' (pre.length + 1) cap')
    refine ⟨HKP.out _ q3, ⟨_, q1, ?_, hn7, q4⟩⟩
    rw [List.length_append, List.map_append]
    exact q2
  case done =>
    rintro W ⟨v', h1, h2, h3, h4⟩ hD
    have c1 := (h1.cell 0).trans rfl
    obtain ⟨A, cap, rfl, hnc, hml⟩ := h2.form
    clear hnc hml
    gi_wp2
    refine ⟨by simp, .inl ⟨_, _, rfl, run_takeDeferred hD, ?_⟩⟩
    have hlt2 : w1.heap.size < W.heap.size := (Array.getElem?_eq_some_iff.1 hD).1
    have ho := Only.putObj (F := fun k => k = w1.heap.size) W w1.heap.size (.deferred none) rfl
    exact ⟨_, by simp [results, Try.results22, go_sem], _, rfl, h2.only ho (fun k hk => by have := h3 k hk; omega), fun k hk => by have := h3 k hk; omega, h4.trans (ho.to_below h4.size fun q hq => by omega)⟩
  case stop => exact fun _ _ _ h _ => h.elim
end Go.Proofs.Ytjcilknfhkpepaa.Bat
