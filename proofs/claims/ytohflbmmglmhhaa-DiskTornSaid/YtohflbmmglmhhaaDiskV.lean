/- disk: the law's 'same', walked. -/
import Derived.Test.YtohflbmmglmhhaaDiskU
namespace Go.Proofs.Ytohflbmmglmhhaa.Dk
open Go.RowKit Go.Proofs.Ytohflbmmglmhhaa.Mem Go.Proofs.Ytohflbmmglmhhaa.X Go.Proofs.YtohflbmmglmhhaaW.PrintWords Go.Proofs.YtohflbmmglmhhaaW.PrintLast Go.Proofs.YtohflbmmglmhhaaW.PrintMore Go.Proofs.Ytohflbmmglmhhaa.Aid
set_option linter.unusedVariables false
set_option linter.unusedSimpArgs false
theorem PD.drew {w : World} {p : Nat} {F : Nat → Prop} {d : D} (h : PD w p F d) : PD w.drew p F d := h.only (Only.drew (Only.refl none_ w)) (fun _ _ e => e)
theorem PD.alloc {w : World} {p : Nat} {F : Nat → Prop} {d : D} (h : PD w p F d) (o : Obj) : PD (w.alloc o) p F d := h.only ((Only.refl none_ w).alloc o) (fun _ _ e => e)
theorem dur_in (w : World) (p : Nat) (F : Nat → Prop) (d : D) (h : PD w p F d) (i : Nat) (hi : i < d.l.length) :
    Calls Try.prog 10 #[.pointer (some ⟨p, 0, none⟩), .int .i64 (i : Int)] w fun e w' => e = .returned (.string d.l[i]) ∧ w' = w := by
  have h1 := durable_calls w p F d h (i : Int)
  rw [if_pos (by omega), Int.toNat_natCast, List.getD_eq_getElem?_getD, List.getElem?_eq_getElem hi, Option.getD_some] at h1
  exact h1
theorem dur_out (w : World) (p : Nat) (F : Nat → Prop) (d : D) (h : PD w p F d) :
    Calls Try.prog 10 #[.pointer (some ⟨p, 0, none⟩), .int .i64 (-1)] w fun e w' => e = .returned (.string ⟨#[]⟩) ∧ w' = w := by
  have h1 := durable_calls w p F d h (-1)
  rw [if_neg (by omega)] at h1
  exact h1
set_option maxHeartbeats 4000000 in
set_option maxRecDepth 100000 in
theorem same_calls (w : World) (p : Nat) (F : Nat → Prop) (lv cv : Value) (d : D) (h : PD w p F d) (hr : RD w lv cv d) (hn : d.l.length ≤ 4096) :
    Calls Try.prog 17 #[.pointer (some ⟨p, 0, none⟩), .agg (dcells d lv cv)] w fun e w' => e = .returned (.bool true) ∧ Below w.heap.size w w' := by
  have OFF := fun W (hW : PD W p F d) => off_calls W p F d hW
  have CAC := fun W (hW : PD W p F d) => cached_calls W p F d hW
  have OPS := fun W (hW : PD W p F d) => ops_calls W p F d hW
  have SEC := fun W (hW : PD W p F d) => sectors_calls W p F d hW
  have SIZ := fun W (hW : PD W p F d) => size_calls W p F d hW
  have DUR := fun W (hW : PD W p F d) => dur_in W p F d hW
  have OUT := fun W (hW : PD W p F d) => dur_out W p F d hW
  obtain ⟨ds, dl, dc, left, off, full, ops⟩ := d
  simp only at OFF CAC OPS SEC SIZ DUR hn
  obtain ⟨A, cap, rfl, _⟩ := hr.secs.form
  obtain ⟨A1, cap1, rfl, _⟩ := hr.cach.form
  rw [dcells_mk]
  go_enter Try.func17, Try.ntmps17
  have b0 := Blk.new w 32 #[.int .i64 (ds : Int), .slice A dl.length cap, .slice A1 dc.length cap1, .int .i64 (left : Int), .bool off, .bool full, .int .i64 (ops : Int)]
  have p0 := h.alloc (.cells #[.int .i64 (ds : Int), .slice A dl.length cap, .slice A1 dc.length cap1, .int .i64 (left : Int), .bool off, .bool full, .int .i64 (ops : Int)] 32)
  have r0 := hr.alloc (.cells #[.int .i64 (ds : Int), .slice A dl.length cap, .slice A1 dc.length cap1, .int .i64 (left : Int), .bool off, .bool full, .int .i64 (ops : Int)] 32)
  have e0 := (Below.refl w.heap.size w).alloc (Nat.le_refl _) (.cells #[.int .i64 (ds : Int), .slice A dl.length cap, .slice A1 dc.length cap1, .int .i64 (left : Int), .bool off, .bool full, .int .i64 (ops : Int)] 32)
  clear h hr
  go_wp2
  change Code.wp _ _ _ _ (w.alloc (.cells #[.int .i64 (ds : Int), .slice A dl.length cap, .slice A1 dc.length cap1, .int .i64 (left : Int), .bool off, .bool full, .int .i64 (ops : Int)] 32))
  generalize w.alloc (.cells #[.int .i64 (ds : Int), .slice A dl.length cap, .slice A1 dc.length cap1, .int .i64 (left : Int), .bool off, .bool full, .int .i64 (ops : Int)] 32) = w1 at b0 p0 r0 e0 ⊢
  refine wp_region_still_lit (by kernel_rfl) (by kernel_rfl) ?_
  have b1 := b0.drew
  have p1 := p0.drew
  have r1 := r0.drew
  have e1 := e0.drew
  obtain ⟨x0, x1, x2, x3, x4, x5, x6⟩ := blk7 b0
  have H := Lib.hid (And.intro b1 (And.intro r1 e1))
  clear b0 p0 r0 e0 b1 r1 e1
  repeat still_step
  still_call (OFF _ p1)
  repeat still_step
  still_call (CAC _ p1)
  repeat still_step
  still_call (OPS _ p1)
  repeat still_step
  still_call (SEC _ p1)
  repeat still_step
  still_call (SIZ _ p1)
  repeat still_step
  refine wpStill_nil ?_
  clear x0 x1 x2 x3 x4 x5 x6
  go_wp2
  go_loopw [5] (fun i wr => ∃ k : Nat, k ≤ dl.length ∧ i = .int .i64 k ∧ Blk wr w.heap.size 32 #[.int .i64 (ds : Int), .slice A dl.length cap, .slice A1 dc.length cap1, .int .i64 (left : Int), .bool off, .bool full, .int .i64 (ops : Int)] ∧ PD wr p F ⟨ds, dl, dc, left, off, full, ops⟩ ∧ RD wr (.slice A dl.length cap) (.slice A1 dc.length cap1) ⟨ds, dl, dc, left, off, full, ops⟩ ∧ Below w.heap.size w wr) (fun i _ => dl.length - (intOf i).toNat)
  case atStart => exact ⟨0, Nat.zero_le _, rfl, H.out.1, p1, H.out.2.1, H.out.2.2⟩
  case round =>
    clear H p1
    obtain ⟨k, hk, rfl, b, pd, r, e⟩ := hrel
    obtain ⟨x0, x1, x2, x3, x4, x5, x6⟩ := blk7 b
    have ex : (k < dl.length ∧ k < 12) ∨ ((dl.length : Int) ≤ (k : Int)) ∨ ((k : Int) < (dl.length : Int) ∧ (12 : Int) ≤ (k : Int)) := by omega
    rcases ex with ⟨h1, h2⟩ | ex
    · have g1 : (k : Int) < (dl.length : Int) := by omega
      have g2 : (k : Int) < 12 := by omega
      obtain ⟨g, o, hA, hc⟩ := sec_at r.secs h1
      subst hA
      have hne : ∀ s : ByteArray, (s.toList == s.toList) = true := fun s => by simp
      have H := Lib.hid (And.intro b (And.intro pd (And.intro r e)))
      clear b pd r e x0 x2 x3 x4 x5 x6
      go_wp2
      refine wp_region_still_lit (by kernel_rfl) (by kernel_rfl) ?_
      repeat still_step
      still_call (DUR _ (H.out.2.1.drew) k h1)
      repeat still_step
      refine wpStill_nil ?_
      obtain ⟨b, pd, r, e⟩ := H.out
      have H := Lib.hid (And.intro b.drew (And.intro pd.drew (And.intro r.drew e.drew)))
      clear b pd r e x1 hc
      go_wp2
      go_roundw
      case rel => exact ⟨k + 1, by omega, by go_num, H.out.1, H.out.2.1, H.out.2.2.1, H.out.2.2.2⟩
      case measure => simp [intOf]; omega
    · rcases ex with h1 | ⟨h1, h2⟩
      · clear x0 x2 x3 x4 x5 x6 b r
        go_wp2_with fail
        refine (OUT _ pd).mono ?_
        rintro e9 w9 ⟨rfl, rfl⟩
        go_wp2
        go_ret
        exact ⟨rfl, e⟩
      · clear x0 x2 x3 x4 x5 x6 b r
        go_wp2_with fail
        refine (OUT _ pd).mono ?_
        rintro e9 w9 ⟨rfl, rfl⟩
        go_wp2
        go_ret
        exact ⟨rfl, e⟩
end Go.Proofs.Ytohflbmmglmhhaa.Dk
