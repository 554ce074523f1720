/- disk: DiskPlays, walked. -/
import Derived.Test.YtohflbmmglmhhaaDiskY
import Derived.Test.YtohflbmmglmhhaaRowGen
namespace Go.Proofs.Ytohflbmmglmhhaa.Dk
open Go.RowKit Go.Proofs.Ytohflbmmglmhhaa.Mem Go.Proofs.Ytohflbmmglmhhaa.X Go.Proofs.YtohflbmmglmhhaaW.PrintWords Go.Proofs.YtohflbmmglmhhaaW.PrintLast Go.Proofs.YtohflbmmglmhhaaW.PrintMore Go.Proofs.Ytohflbmmglmhhaa.Aid
set_option linter.unusedVariables false
set_option linter.unusedSimpArgs false
/-- an act among a law's arguments -/
abbrev TAct := Int × Int × Int × Int × Bool × Bool × List Bool
def kAct : Kd TAct := Kd.pair (Kd.int .i64) (Kd.pair (Kd.int .i64) (Kd.pair (Kd.int .i64) (Kd.pair (Kd.int .u8) (Kd.pair Kd.bool (Kd.pair Kd.bool (Kd.slice 4 Kd.bool))))))
def vAct : TAct → Prop := fun a => (Lit.int .i64 a.1).wf = true ∧ (Lit.int .i64 a.2.1).wf = true ∧ (Lit.int .i64 a.2.2.1).wf = true ∧ (Lit.int .u8 a.2.2.2.1).wf = true ∧ True ∧ True ∧ (a.2.2.2.2.2.2.length ≤ 9223372036854775807 ∧ ∀ x ∈ a.2.2.2.2.2.2, True)
theorem act_at {w : World} {A : Option Addr} {l : List TAct} (h : Kd.C kAct w A l.length l) {i : Nat} (hi : i < l.length) : ∃ ad K c, A = some ad ∧ l[i].2.2.2.2.2.2.length ≤ c ∧ Kd.C Kd.bool w K l[i].2.2.2.2.2.2.length l[i].2.2.2.2.2.2 ∧
    ∀ j u, #[Value.int .i64 l[i].1, .int .i64 l[i].2.1, .int .i64 l[i].2.2.1, .int .u8 l[i].2.2.2.1, .bool l[i].2.2.2.2.1, .bool l[i].2.2.2.2.2.1, .slice K l[i].2.2.2.2.2.2.length c].toList[j]? = some u → w.cell? (ad.add (i * 7 + j)) = some u := by
  obtain ⟨ad, hA, hc⟩ := h.2.2 (by omega)
  obtain ⟨cs, h1, h2, h3⟩ := hc i _ (List.getElem?_eq_getElem hi)
  obtain ⟨c0, r0, rfl, e0, h2⟩ := h2
  obtain ⟨c1, r1, rfl, e1, h2⟩ := h2
  obtain ⟨c2, r2, rfl, e2, h2⟩ := h2
  obtain ⟨c3, r3, rfl, e3, h2⟩ := h2
  obtain ⟨c4, r4, rfl, e4, h2⟩ := h2
  obtain ⟨c5, r5, rfl, e5, h2⟩ := h2
  obtain ⟨K, c, rfl, hl, hC⟩ := h2
  have e0 : c0 = [.int .i64 l[i].1] := e0
  have e1 : c1 = [.int .i64 l[i].2.1] := e1
  have e2 : c2 = [.int .i64 l[i].2.2.1] := e2
  have e3 : c3 = [.int .u8 l[i].2.2.2.1] := e3
  have e4 : c4 = [.bool l[i].2.2.2.2.1] := e4
  have e5 : c5 = [.bool l[i].2.2.2.2.2.1] := e5
  subst e0 e1 e2 e3 e4 e5
  exact ⟨ad, K, c, hA, hl, hC, fun j u hu => h3 j u (by simpa using hu)⟩
theorem add_off (a : Addr) (m j : Nat) : a.add (m + (j + 1)) = ⟨(a.add m).block, (a.add m).off + (j + 1), none⟩ := by
  unfold Addr.add
  by_cases hm : m = 0
  · subst hm; simp
  · simp [hm, Nat.add_assoc]
theorem St.cellsO {w0 wb w : World} {Fb : Nat → Prop} {p : Nat} {F : Nat → Prop} {lv cv : Value} {d dr : D} (h : St w0 wb Fb w p F lv cv d dr) {g : Nat} {cs : Array Value} (hb : Blk w g 32 cs) (vs : List Value) (o : Nat) (hF : ¬ F g) (hg : w0.heap.size ≤ g) : St w0 (w.setCells g o vs) F (w.setCells g o vs) p F lv cv d dr :=
  ⟨h.pd.only (G := fun k => k = g) ((Only.refl (fun k => k = g) w).cells (.inl rfl) o vs) (fun k f e => hF (e ▸ f)), RD.cells h.rd hb vs o, h.ap, h.fb, below_cells h.bl hg, Only.refl _ _, fun k f => .inl f⟩
theorem doesD_fine (d : D) (kind at_ n : Int) (s : ByteArray) (is : Bool) (keep : List Bool) (hn : n ≤ 9223372036854775807) (h : Fine d) : Fine (doesD d kind at_ n s is keep) := by
  unfold doesD
  split
  · exact put_fine d at_ s h
  split
  · exact flush_fine d h
  split
  · exact cut_fine d n hn h
  split
  · exact fill_fine d is h
  split
  · exact crash_fine d keep n h
  · exact h
theorem doesD_few (d : D) (kind at_ n : Int) (s : ByteArray) (is : Bool) (keep : List Bool) (m : Nat) (h : Few d m) : Few (doesD d kind at_ n s is keep) (m + 1) := by
  have hm : ∀ d', Few d' m → Few d' (m + 1) := fun d' h => ⟨Nat.le_succ_of_le h.1, Nat.le_succ_of_le h.2⟩
  unfold doesD
  split
  · exact put_few d at_ s m h
  split
  · exact flush_few d m h
  split
  · exact hm _ h
  split
  · exact hm _ h
  split
  · exact hm _ (crash_few d keep n m h)
  · exact hm _ h
theorem doesD_shape (d : D) (kind at_ n : Int) (s : ByteArray) (is : Bool) (keep : List Bool) : (doesD d kind at_ n s is keep).size = d.size ∧ (doesD d kind at_ n s is keep).l.length = d.l.length := by
  obtain ⟨h1, h2, h3, _⟩ := oper_l d
  unfold doesD
  split
  · unfold put
    split
    · exact ⟨rfl, rfl⟩
    · split
      · exact ⟨rfl, rfl⟩
      · split
        · exact ⟨h3, by rw [h1]⟩
        · exact ⟨h3, by show (oper d).1.l.length = _; rw [h1]⟩
  split
  · unfold flush
    split
    · exact ⟨rfl, rfl⟩
    · split
      · exact ⟨h3, by rw [h1]⟩
      · exact ⟨h3, lands_length _ _⟩
  split
  · exact ⟨rfl, rfl⟩
  split
  · exact ⟨rfl, rfl⟩
  split
  · exact ⟨rfl, crash_len d keep n⟩
  · exact ⟨rfl, rfl⟩
set_option maxHeartbeats 1000000 in
set_option maxRecDepth 100000 in
theorem right_calls (w : World) (n m : Int) : Calls Try.prog 16 #[.int .i64 n, .int .i64 m] w fun e w' => e = .returned (.bool (decide (4 ≤ n ∧ n ≤ 4096 ∧ 16 ≤ m ∧ m ≤ 256))) ∧ w' = w := by
  go_enter Try.func16, Try.ntmps16
  by_cases h1 : 4 ≤ n
  · by_cases h2 : n ≤ 4096
    · by_cases h3 : 16 ≤ m
      · by_cases h4 : m ≤ 256
        · rw [decide_eq_true ⟨h1, h2, h3, h4⟩]
          go_wp2
          go_ret
          exact ⟨rfl, rfl⟩
        · rw [decide_eq_false (fun e => h4 e.2.2.2)]
          go_wp2
          go_ret
          exact ⟨rfl, rfl⟩
      · rw [decide_eq_false (fun e => h3 e.2.2.1)]
        go_wp2
        go_ret
        exact ⟨rfl, rfl⟩
    · rw [decide_eq_false (fun e => h2 e.2.1)]
      go_wp2
      go_ret
      exact ⟨rfl, rfl⟩
  · rw [decide_eq_false (fun e => h1 e.1)]
    go_wp2
    go_ret
    exact ⟨rfl, rfl⟩
set_option maxHeartbeats 8000000 in
set_option maxRecDepth 100000 in
theorem plays_calls (w : World) (g0 g1 : Int) (L0 : Option Addr) (c0 : Nat) (l : List TAct) (hl : Kd.C kAct w L0 l.length l) (hv : ∀ a ∈ l, vAct a) (hll : l.length ≤ 9223372036854775807) :
    Calls Try.prog 5 #[.agg #[.int .i64 g0, .int .i64 g1], .slice L0 l.length c0] w fun e w' => e = .returned (.bool true) ∧ Below w.heap.size w w' := by
  have HW : Hid (∀ W, Calls Try.prog 6 #[] W fun e w' => e = .returned (.bool true) ∧ Below W.heap.size W w') := Lib.hid works_calls
  have HL := Lib.hid hl
  have HV := Lib.hid hv
  clear hl hv
  go_enter Try.func5, Try.ntmps5
  have b2 := Blk.new w 48 #[.int .i64 g0, .int .i64 g1]
  have e2 := (Below.refl w.heap.size w).alloc (Nat.le_refl _) (.cells #[.int .i64 g0, .int .i64 g1] 48)
  by_cases hok : 4 ≤ g0 ∧ g0 ≤ 4096 ∧ 16 ≤ g1 ∧ g1 ≤ 256
  · obtain ⟨n, rfl⟩ : ∃ n : Nat, g0 = n := ⟨g0.toNat, by omega⟩
    obtain ⟨m, rfl⟩ : ∃ m : Nat, g1 = m := ⟨g1.toNat, by omega⟩
    have hnew := new_calls (w.alloc (.cells #[.int .i64 (n : Int), .int .i64 (m : Int)] 48)) n m (by omega) (by omega) (by omega) (by omega)
    go_wp2_with fail
    refine hnew.mono ?_
    rintro e w1 ⟨p, rfl, hP, hb1⟩
    have hri := right_calls w1 (n : Int) (m : Int)
    rw [decide_eq_true hok] at hri
    have b3 := b2.below hb1
    have x0 : w1.cell? ⟨w.heap.size, 0, none⟩ = some (.int .i64 (n : Int)) := (b3.cell 0).trans rfl
    have x1 : w1.cell? ⟨w.heap.size, 1, none⟩ = some (.int .i64 (m : Int)) := (b3.cell 1).trans rfl
    have hbw : Below w.heap.size w w1 := e2.trans (hb1.mono (by simp))
    have hok2 := hok
    clear hnew hok
    go_wp2_with fail
    refine hri.mono ?_
    rintro e w2 ⟨rfl, rfl⟩
    by_cases h12 : 12 < n
    · have h12' : (12 : Int) < (n : Int) := by omega
      have HB := Lib.hid hbw
      clear hri b3 hbw hb1 hP b2 e2
      go_wp2_with fail
      refine (HW.out w2).mono ?_
      rintro e w3 ⟨rfl, hb3⟩
      go_wp2
      go_ret
      exact ⟨rfl, HB.out.trans (hb3.mono HB.out.size)⟩
    · have h12' : ¬ (12 : Int) < (n : Int) := by omega
      have hrn := rnew_calls w2 n m (by omega) (by omega)
      clear hri
      go_wp2_with fail
      refine hrn.mono ?_
      rintro e w3 ⟨lv, cv, rfl, hR, hb3, ho⟩
      obtain ⟨A, cap, hlv, _⟩ := hR.secs.form
      obtain ⟨A1, cap1, hcv, _⟩ := hR.cach.form
      have hst : St w w3 (mine w.heap.size w2) w3 p (mine w.heap.size w2) lv cv (new n m) (new n m) := by
        have hm : ∀ k, mine (w.alloc (.cells #[.int .i64 (n : Int), .int .i64 (m : Int)] 48)).heap.size w2 k → mine w.heap.size w2 k := fun k hk => ⟨by have := hk.1; rw [World.size_alloc] at this; omega, hk.2⟩
        refine ⟨(hP.mono hm fun k hk => hk.2).below hb3, hR, fun k hk f => ?_, fun k f => f.1, hbw.trans (hb3.mono hbw.size), Only.refl _ _, fun k f => .inl f⟩
        have := ho k hk
        have := f.2
        omega
      have hnl : (new n m).l.length = n := by show (List.replicate n _).length = n; rw [List.length_replicate]
      rw [hnl] at hlv
      have hcl : (new n m).cache.length = 0 := rfl
      rw [hcl] at hcv
      subst hlv hcv
      rw [show dcells (new n m) (.slice A n cap) (.slice A1 0 cap1) = #[.int .i64 (m : Int), .slice A n cap, .slice A1 0 cap1, .int .i64 0, .bool false, .bool false, .int .i64 0] from rfl]
      have hs0 := (hst.alloc (.cells #[.int .i64 (m : Int), .slice A n cap, .slice A1 0 cap1, .int .i64 0, .bool false, .bool false, .int .i64 0] 32)).rebase
      have hB7 : w.heap.size ≤ w3.heap.size := hst.bl.size
      have hb0 := Blk.new w3 32 #[.int .i64 (m : Int), .slice A n cap, .slice A1 0 cap1, .int .i64 0, .bool false, .bool false, .int .i64 0]
      have hF0 : ¬ mine w.heap.size w2 w3.heap.size := fun e => by have := e.2; have := hb3.size; omega
      have hfn := new_fine n m (by omega) (by omega)
      clear hrn hR hb3 ho hst hP b3 b2 e2 hb1 x0 x1 hbw hcl hnl
      go_wp2
      go_loopw [8] (fun i wr => ∃ (k : Nat) (d : D) (F : Nat → Prop) (lv cv : Value), k ≤ l.length ∧ k ≤ 60 ∧ i = .int .i64 k ∧ St w wr F wr p F lv cv d d ∧ Fine d ∧ Few d k ∧ 16 ≤ d.size ∧ Blk wr w3.heap.size 32 (dcells d lv cv) ∧ ¬ F w3.heap.size) (fun i _ => l.length - (intOf i).toNat)
      case atStart => exact ⟨0, new n m, _, _, _, Nat.zero_le _, Nat.zero_le _, rfl, hs0, hfn, new_few n m, hok2.2.2.1 |> fun h => (by show 16 ≤ m; omega), hb0, hF0⟩
      case round =>
        clear hs0 hb0 hF0 hfn
        obtain ⟨k, d, F, lv, cv, hk1, hk2, rfl, hst, hfd, hfew, hz, hb, hF⟩ := hrel
        obtain ⟨ds, dl, dc, left, off, full, ops⟩ := d
        obtain ⟨A9, cap9, rfl, _⟩ := hst.rd.secs.form
        obtain ⟨A8, cap8, rfl, _⟩ := hst.rd.cach.form
        have hsame := fun W (h1 : PD W p F ⟨ds, dl, dc, left, off, full, ops⟩) (h2 : RD W (.slice A9 dl.length cap9) (.slice A8 dc.length cap8) ⟨ds, dl, dc, left, off, full, ops⟩) => same_calls W p F _ _ _ h1 h2 hfd.len
        simp only [dcells_mk] at hb hsame
        simp only at hz
        obtain ⟨x0, x1, x2, x3, x4, x5, x6⟩ := blk7 hb
        by_cases hkl : k < l.length ∧ k < 60
        · obtain ⟨hkl, hk6⟩ := hkl
          have hki : (k : Int) < (l.length : Int) := by omega
          have hk6' : (k : Int) < 60 := by omega
          obtain ⟨ad, K, c, hA, hcl, hC, hcell⟩ := act_at HL.out hkl
          have hv := HV.out _ (List.getElem_mem hkl)
          subst hA
          obtain ⟨⟨kind, at_, nn, fb, short, is, keep⟩, ha⟩ : ∃ x, l[k] = x := ⟨_, rfl⟩
          rw [ha] at hcl hC hcell hv
          simp only at hcl hC hcell
          clear ha
          have tr : ∀ W, Below w.heap.size w W → ∀ j u, #[Value.int .i64 kind, .int .i64 at_, .int .i64 nn, .int .u8 fb, .bool short, .bool is, .slice K keep.length c].toList[j]? = some u → W.cell? (ad.add (k * 7 + j)) = some u := fun W hW j u hu => (hW.cell (p := ad.add (k * 7 + j)) (World.block_lt_of_cell? w _ (hcell j u hu))).trans (hcell j u hu)
          have hdoes := fun W (hst : St w W F W p F (.slice A9 dl.length cap9) (.slice A8 dc.length cap8) ⟨ds, dl, dc, left, off, full, ops⟩ ⟨ds, dl, dc, left, off, full, ops⟩) => does_calls w W p F _ _ _ hst hfd k hfew (by omega) hz kind at_ nn fb short is K c keep hC hcl hv.2.2.1
          rw [dcells_mk] at hdoes
          clear hcell x0 x1 x2 x3 x4 x5 x6
          go_wp2
          have hbl := hst.bl
          refine start_ (n := 13) (S := fun w' => Blk w' w3.heap.size 32 #[.int .i64 (ds : Int), .slice A9 dl.length cap9, .slice A8 dc.length cap8, .int .i64 (left : Int), .bool off, .bool full, .int .i64 (ops : Int)] ∧ Below w.heap.size w w') (ds := []) #[false, false, false, false, false, false, false, false, false, false, false, false, false] (by kernel_rfl) rfl rfl ⟨hb.drew, hbl.drew⟩ (fun hHeld => ?_)
          have gst := hst.drew
          clear hst hb hbl
          generalize wr.drew = w4 at hHeld gst ⊢
          have gst := gst.rebase
          refine pure_ (i := 0) (N := some 70) (v := ?_) (a' := ?_) #[true, false, false, false, false, false, false, false, false, false, false, false, false] rfl rfl (by kernel_rfl) (fun _ _ _ h => h) (Or.inl ⟨by rfl, ?_⟩) ?_ ?_
          rotate_left
          · intro w'
            go_simp
            with_reducible rfl
          rotate_left
          · simp only [Act.put, List.setIfInBounds_toArray, List.set_cons_zero, List.set_cons_succ]
            rfl
          refine take_ (i := 1) (N := some 71) (v := ?_) (a' := ?_) #[true, true, false, false, false, false, false, false, false, false, false, false, false] rfl rfl (by kernel_rfl) (fun _ _ _ h => h) (Or.inl ⟨by rfl, ?_⟩) hHeld ?_ ?_
          rotate_left
          · rintro w' ⟨hS, hB⟩
            obtain ⟨x0, x1, x2, x3, x4, x5, x6⟩ := blk7 hS
            go_simp
            with_reducible rfl
          rotate_left
          · simp only [Act.put, List.setIfInBounds_toArray, List.set_cons_zero, List.set_cons_succ]
            rfl
          refine pure_ (i := 2) (N := some 72) (v := ?_) (a' := ?_) #[true, true, true, false, false, false, false, false, false, false, false, false, false] rfl rfl (by kernel_rfl) (fun _ _ _ h => h) (Or.inl ⟨by rfl, ?_⟩) ?_ ?_
          rotate_left
          · intro w'
            go_simp
            with_reducible rfl
          rotate_left
          · simp only [Act.put, List.setIfInBounds_toArray, List.set_cons_zero, List.set_cons_succ]
            rfl
          refine pure_ (i := 3) (N := some 73) (v := ?_) (a' := ?_) #[true, true, true, true, false, false, false, false, false, false, false, false, false] rfl rfl (by kernel_rfl) (fun _ _ _ h => h) (Or.inl ⟨by rfl, ?_⟩) ?_ ?_
          rotate_left
          · intro w'
            go_simp
            with_reducible rfl
          rotate_left
          · simp only [Act.put, List.setIfInBounds_toArray, List.set_cons_zero, List.set_cons_succ]
            rfl
          refine pure_ (i := 4) (N := some 74) (v := ?_) (a' := ?_) #[true, true, true, true, true, false, false, false, false, false, false, false, false] rfl rfl (by kernel_rfl) (fun _ _ _ h => h) (Or.inl ⟨by rfl, ?_⟩) ?_ ?_
          rotate_left
          · intro w'
            go_simp
            with_reducible rfl
          rotate_left
          · simp only [Act.put, List.setIfInBounds_toArray, List.set_cons_zero, List.set_cons_succ]
            rfl
          refine take_ (i := 5) (N := some 75) (v := ?_) (a' := ?_) #[true, true, true, true, true, true, false, false, false, false, false, false, false] rfl rfl (by kernel_rfl) (fun _ _ _ h => h) (Or.inl ⟨by rfl, ?_⟩) hHeld ?_ ?_
          rotate_left
          · rintro w' ⟨hS, hB⟩
            have y0 : w'.cell? (ad.add (k * 7)) = some (.int .i64 kind) := tr w' hB 0 _ rfl
            have y1 : w'.cell? ⟨(ad.add (k * 7)).block, (ad.add (k * 7)).off + 1, none⟩ = some (.int .i64 at_) := (congrArg w'.cell? (add_off ad (k * 7) 0)).symm.trans (tr w' hB 1 _ rfl)
            have y2 : w'.cell? ⟨(ad.add (k * 7)).block, (ad.add (k * 7)).off + 2, none⟩ = some (.int .i64 nn) := (congrArg w'.cell? (add_off ad (k * 7) 1)).symm.trans (tr w' hB 2 _ rfl)
            have y3 : w'.cell? ⟨(ad.add (k * 7)).block, (ad.add (k * 7)).off + 3, none⟩ = some (.int .u8 fb) := (congrArg w'.cell? (add_off ad (k * 7) 2)).symm.trans (tr w' hB 3 _ rfl)
            have y4 : w'.cell? ⟨(ad.add (k * 7)).block, (ad.add (k * 7)).off + 4, none⟩ = some (.bool short) := (congrArg w'.cell? (add_off ad (k * 7) 3)).symm.trans (tr w' hB 4 _ rfl)
            have y5 : w'.cell? ⟨(ad.add (k * 7)).block, (ad.add (k * 7)).off + 5, none⟩ = some (.bool is) := (congrArg w'.cell? (add_off ad (k * 7) 4)).symm.trans (tr w' hB 5 _ rfl)
            have y6 : w'.cell? ⟨(ad.add (k * 7)).block, (ad.add (k * 7)).off + 6, none⟩ = some (.slice K keep.length c) := (congrArg w'.cell? (add_off ad (k * 7) 5)).symm.trans (tr w' hB 6 _ rfl)
            go_simp
            with_reducible rfl
          rotate_left
          · simp only [Act.put, List.setIfInBounds_toArray, List.set_cons_zero, List.set_cons_succ]
            rfl
          refine join_ (σ := D × (Nat → Prop) × Value × Value × Nat) 2 #[true, true, true, true, true, true, true, true, true, true, true, false, false] (fun s => [(76, .tuple #[.agg (dcells s.1 s.2.2.1 s.2.2.2.1), .bool true]), (69, .tuple #[.agg (dcells s.1 s.2.2.1 s.2.2.2.1), .bool true]), (77, .agg (dcells s.1 s.2.2.1 s.2.2.2.1)), (78, .bool true), (9, .pointer (some ⟨s.2.2.2.2, 0, none⟩))])
            (fun s w' => St w w4 F w' p s.2.1 s.2.2.1 s.2.2.2.1 s.1 s.1 ∧ (∃ x, s.1 = doesD ⟨ds, dl, dc, left, off, full, ops⟩ kind at_ nn x is keep) ∧ Blk w' s.2.2.2.2 32 zero7 ∧ ¬ s.2.1 s.2.2.2.2 ∧ Blk w' w3.heap.size 32 #[.int .i64 (ds : Int), .slice A9 dl.length cap9, .slice A8 dc.length cap8, .int .i64 (left : Int), .bool off, .bool full, .int .i64 (ops : Int)] ∧ s.2.2.2.2 ≠ w3.heap.size ∧ w4.heap.size ≤ s.2.2.2.2) ?_ ?_
          · rintro ⟨d', F', lv', cv', b9⟩ w6 ⟨h1, hd', h2, h3, h4, h5, h6⟩
            simp only at h1 h2 h3 h5 h6 hd'
            have h7 : w3.heap.size < w4.heap.size := hHeld.1.lt
            have h8 : ¬ F' w3.heap.size := fun e => (h1.fx _ e).elim hF (fun e => by omega)
            have hw4 : w.heap.size ≤ w4.heap.size := hHeld.2.size
            have hfd' : Fine d' := by
              obtain ⟨x, rfl⟩ := hd'
              exact doesD_fine _ _ _ _ _ _ _ (wf64 hv.2.2.1).2 hfd
            have hfew' : Few d' (k + 1) := by
              obtain ⟨x, rfl⟩ := hd'
              exact doesD_few _ _ _ _ _ _ _ k hfew
            have hz' : 16 ≤ d'.size := by
              obtain ⟨x, rfl⟩ := hd'
              rw [(doesD_shape _ _ _ _ _ _ _).1]
              exact hz
            clear hd' hHeld gst hfd hfew hv
            obtain ⟨ds', dl', dc', left', off', full', ops'⟩ := d'
            obtain ⟨A7, cap7, rfl, _⟩ := h1.rd.secs.form
            obtain ⟨A6, cap6, rfl, _⟩ := h1.rd.cach.form
            simp only [dcells_mk, putAll, Act.put, List.setIfInBounds_toArray, List.set_cons_zero, List.set_cons_succ]
            refine one_ (i := 11) (N := none) #[true, true, true, true, true, true, true, true, true, true, true, true, false] rfl rfl (by kernel_rfl) (by decide) (fun K hK => ?_)
            rw [if_pos (by rfl)]
            refine wp_store_mid 32 (.tmp 9) (.tmp 77) rfl b9 0 #[.int .i64 (ds' : Int), .slice A7 dl'.length cap7, .slice A6 dc'.length cap6, .int .i64 (left' : Int), .bool off', .bool full', .int .i64 (ops' : Int)] rfl rfl (there_blk h2 (n := 7) (by show 7 ≤ 7; omega)) info_d (by simp [Value.oneCell']) ?_
            have m9 := blk_whole h2 (cs := #[.int .i64 (ds' : Int), .slice A7 dl'.length cap7, .slice A6 dc'.length cap6, .int .i64 (left' : Int), .bool off', .bool full', .int .i64 (ops' : Int)]) rfl
            have m7 := blk_whole_far h4 (g' := b9) (fun e => h5 e.symm) [.int .i64 (ds' : Int), .slice A7 dl'.length cap7, .slice A6 dc'.length cap6, .int .i64 (left' : Int), .bool off', .bool full', .int .i64 (ops' : Int)] 0
            have ms := h1.cellsF h2 [.int .i64 (ds' : Int), .slice A7 dl'.length cap7, .slice A6 dc'.length cap6, .int .i64 (left' : Int), .bool off', .bool full', .int .i64 (ops' : Int)] 0 h3 hw4 h6
            refine hK.out _ _ ⟨m7, ms.bl⟩ (fun _ => ?_)
            clear hK K h1 h2 h4
            refine pure_ (i := 12) (N := some 10) (v := ?_) (a' := ?_) #[true, true, true, true, true, true, true, true, true, true, true, true, true] rfl rfl (by kernel_rfl) (fun _ _ _ h => h) (Or.inl ⟨by rfl, ?_⟩) ?_ ?_
            rotate_left
            · intro w'
              go_simp
              with_reducible rfl
            rotate_left
            · simp only [Act.put, List.setIfInBounds_toArray, List.set_cons_zero, List.set_cons_succ]
              rfl
            refine done_ (by kernel_rfl) ?_
            generalize w6.setCells b9 0 [.int .i64 (ds' : Int), .slice A7 dl'.length cap7, .slice A6 dc'.length cap6, .int .i64 (left' : Int), .bool off', .bool full', .int .i64 (ops' : Int)] = w7 at m9 m7 ms ⊢
            obtain ⟨x0, x1, x2, x3, x4, x5, x6⟩ := blk7 m9
            obtain ⟨y0, y1, y2, y3, y4, y5, y6⟩ := blk7 m7
            have f0 := m7.frozen 0
            have f1 := m7.frozen 1
            have f2 := m7.frozen 2
            have f3 := m7.frozen 3
            have f4 := m7.frozen 4
            have f5 := m7.frozen 5
            have f6 := m7.frozen 6
            have q7 := blk_whole m7 (cs := #[.int .i64 (ds' : Int), .slice A7 dl'.length cap7, .slice A6 dc'.length cap6, .int .i64 (left' : Int), .bool off', .bool full', .int .i64 (ops' : Int)]) rfl
            have qs := ms.cellsO m7 [.int .i64 (ds' : Int), .slice A7 dl'.length cap7, .slice A6 dc'.length cap6, .int .i64 (left' : Int), .bool off', .bool full', .int .i64 (ops' : Int)] 0 h8 hB7
            rw [setCells7] at q7 qs
            obtain ⟨z0, z1, z2, z3, z4, z5, z6⟩ := blk7 q7
            have hsm := same_calls _ p F' _ _ _ qs.pd qs.rd hfd'.len
            rw [dcells_mk] at hsm
            have HQ := Lib.hid (And.intro q7 qs)
            clear q7 qs m9 m7 ms h3 h5 h6 h7
            go_wp2_with fail
            refine hsm.mono ?_
            rintro e w8 ⟨rfl, hb8⟩
            have r7 := HQ.out.1.below hb8
            have rs := (HQ.out.2.below hb8).rebase
            clear HQ hsm hb8 x0 x1 x2 x3 x4 x5 x6 y0 y1 y2 y3 y4 y5 y6 z0 z1 z2 z3 z4 z5 z6 f0 f1 f2 f3 f4 f5 f6
            go_wp2
            go_roundw
            case rel => exact ⟨k + 1, _, _, _, _, by omega, by omega, by go_num, rs, hfd', hfew', hz', r7, h8⟩
            case measure => simp [intOf]; omega
          · intro hcont
            refine two_ (i := 6) (j := 10) (Ni := some 76) (Nj := some 9) #[true, true, true, true, true, true, true, false, false, false, false, false, false] #[true, true, true, true, true, true, false, false, false, false, true, false, false] rfl rfl rfl rfl (by kernel_rfl) (by decide) (by decide) (fun K hK => ?_) (fun K hK => ?_)
            · go_simp
              go_wp2_with (go_at_call 9; refine (hdoes _ gst).mono ?_; rintro e w5 ⟨d', F', lv', cv', rfl, hs5, hx⟩)
              have m7 := hs5.on.blk hHeld.1 hF
              refine hK.out _ _ ⟨m7, hs5.bl⟩ (fun hHeld => ?_)
              clear hK K
              refine pure_ (i := 7) (N := some 69) (v := ?_) (a' := ?_) #[true, true, true, true, true, true, true, true, false, false, false, false, false] rfl rfl (by kernel_rfl) (fun _ _ _ h => h) (Or.inl ⟨by rfl, ?_⟩) ?_ ?_
              rotate_left
              · intro w'
                go_simp
                with_reducible rfl
              rotate_left
              · simp only [Act.put, List.setIfInBounds_toArray, List.set_cons_zero, List.set_cons_succ]
                rfl
              refine pure_ (i := 8) (N := some 77) (v := ?_) (a' := ?_) #[true, true, true, true, true, true, true, true, true, false, false, false, false] rfl rfl (by kernel_rfl) (fun _ _ _ h => h) (Or.inl ⟨by rfl, ?_⟩) ?_ ?_
              rotate_left
              · intro w'
                go_simp
                with_reducible rfl
              rotate_left
              · simp only [Act.put, List.setIfInBounds_toArray, List.set_cons_zero, List.set_cons_succ]
                rfl
              refine pure_ (i := 9) (N := some 78) (v := ?_) (a' := ?_) #[true, true, true, true, true, true, true, true, true, true, false, false, false] rfl rfl (by kernel_rfl) (fun _ _ _ h => h) (Or.inl ⟨by rfl, ?_⟩) ?_ ?_
              rotate_left
              · intro w'
                go_simp
                with_reducible rfl
              rotate_left
              · simp only [Act.put, List.setIfInBounds_toArray, List.set_cons_zero, List.set_cons_succ]
                rfl
              refine one_ (i := 10) (N := some 9) #[true, true, true, true, true, true, true, true, true, true, true, false, false] rfl rfl (by kernel_rfl) (by decide) (fun K hK => ?_)
              go_simp
              have n7 := m7.alloc (.cells zero7 32)
              have nst := hs5.alloc (.cells zero7 32)
              have n9 := Blk.new w5 32 zero7
              refine hK.out _ _ ⟨n7, nst.bl⟩ (fun _ => ?_)
              clear hK K
              have h7 : w3.heap.size < w5.heap.size := m7.lt
              refine norm_ ?_ (hcont ⟨d', F', lv', cv', w5.heap.size⟩ _ ⟨nst, hx, n9, fun e => by have := hs5.pd.lt _ e; simp only at this; omega, n7, by show w5.heap.size ≠ w3.heap.size; omega, hs5.on.size⟩)
              simp only [putAll, Act.put, List.setIfInBounds_toArray, List.set_cons_zero, List.set_cons_succ]
              try rfl
            · go_simp
              have n7 := hHeld.1.alloc (.cells zero7 32)
              have nst := gst.alloc (.cells zero7 32)
              have n9 := Blk.new w4 32 zero7
              refine hK.out _ _ ⟨n7, nst.bl⟩ (fun hHeld2 => ?_)
              clear hK K
              refine one_ (i := 6) (N := some 76) #[true, true, true, true, true, true, true, false, false, false, true, false, false] rfl rfl (by kernel_rfl) (by decide) (fun K hK => ?_)
              go_simp
              have h7 : w3.heap.size < w4.heap.size := hHeld.1.lt
              have h9F : ¬ F w4.heap.size := fun e => by have := gst.pd.lt _ e; omega
              go_wp2_with (go_at_call 9; refine (hdoes _ nst.rebase).mono ?_; rintro e w5 ⟨d', F', lv', cv', rfl, hs5, hx⟩)
              have m7 := hs5.on.blk n7 hF
              have m9 := hs5.on.blk n9 h9F
              refine hK.out _ _ ⟨m7, hs5.bl⟩ (fun _ => ?_)
              clear hK K
              refine pure_ (i := 7) (N := some 69) (v := ?_) (a' := ?_) #[true, true, true, true, true, true, true, true, false, false, true, false, false] rfl rfl (by kernel_rfl) (fun _ _ _ h => h) (Or.inl ⟨by rfl, ?_⟩) ?_ ?_
              rotate_left
              · intro w'
                go_simp
                with_reducible rfl
              rotate_left
              · simp only [Act.put, List.setIfInBounds_toArray, List.set_cons_zero, List.set_cons_succ]
                rfl
              refine pure_ (i := 8) (N := some 77) (v := ?_) (a' := ?_) #[true, true, true, true, true, true, true, true, true, false, true, false, false] rfl rfl (by kernel_rfl) (fun _ _ _ h => h) (Or.inl ⟨by rfl, ?_⟩) ?_ ?_
              rotate_left
              · intro w'
                go_simp
                with_reducible rfl
              rotate_left
              · simp only [Act.put, List.setIfInBounds_toArray, List.set_cons_zero, List.set_cons_succ]
                rfl
              refine pure_ (i := 9) (N := some 78) (v := ?_) (a' := ?_) #[true, true, true, true, true, true, true, true, true, true, true, false, false] rfl rfl (by kernel_rfl) (fun _ _ _ h => h) (Or.inl ⟨by rfl, ?_⟩) ?_ ?_
              rotate_left
              · intro w'
                go_simp
                with_reducible rfl
              rotate_left
              · simp only [Act.put, List.setIfInBounds_toArray, List.set_cons_zero, List.set_cons_succ]
                rfl
              refine norm_ ?_ (hcont ⟨d', F', lv', cv', w4.heap.size⟩ _ ⟨?_, hx, m9, fun e => ?_, m7, by show w4.heap.size ≠ w3.heap.size; omega, Nat.le_refl _⟩)
              · simp only [putAll, Act.put, List.setIfInBounds_toArray, List.set_cons_zero, List.set_cons_succ]
                try rfl
              · exact ⟨hs5.pd, hs5.rd, hs5.ap, hs5.fb, hs5.bl, (((Only.refl F w4).alloc _).trans hs5.on), fun q f => (hs5.fx q f).imp id (fun e => by rw [World.size_alloc] at e; omega)⟩
              · rcases hs5.fx _ e with e | e
                · exact h9F e
                · have e2 : w4.heap.size + 1 ≤ w4.heap.size := by rw [World.size_alloc] at e; exact e
                  omega
        · have ex : ((l.length : Int) ≤ (k : Int)) ∨ ((k : Int) < (l.length : Int) ∧ (60 : Int) ≤ (k : Int)) := by omega
          have hsm := hsame _ hst.pd hst.rd
          have HS := Lib.hid hst.bl
          clear hst hb hsame hkl
          rcases ex with h1 | ⟨h1, h2⟩
          · go_wp2_with fail
            refine hsm.mono ?_
            rintro e w5 ⟨rfl, hb5⟩
            have HB := Lib.hid (HS.out.trans (hb5.mono HS.out.size))
            clear hb5 hsm x0 x1 x2 x3 x4 x5 x6
            go_wp2_with fail
            refine (HW.out w5).mono ?_
            rintro e w6 ⟨rfl, hb6⟩
            go_wp2
            go_ret
            exact ⟨rfl, HB.out.trans (hb6.mono HB.out.size)⟩
          · go_wp2_with fail
            refine hsm.mono ?_
            rintro e w5 ⟨rfl, hb5⟩
            have HB := Lib.hid (HS.out.trans (hb5.mono HS.out.size))
            clear hb5 hsm x0 x1 x2 x3 x4 x5 x6
            go_wp2_with fail
            refine (HW.out w5).mono ?_
            rintro e w6 ⟨rfl, hb6⟩
            go_wp2
            go_ret
            exact ⟨rfl, HB.out.trans (hb6.mono HB.out.size)⟩
  · have hnew := new_bad (w.alloc (.cells #[.int .i64 g0, .int .i64 g1] 48)) g0 g1 hok
    go_wp2_with fail
    refine hnew.mono ?_
    rintro e w1 ⟨rfl, rfl⟩
    have hri := right_calls (w.alloc (.cells #[.int .i64 g0, .int .i64 g1] 48)) g0 g1
    rw [decide_eq_false hok] at hri
    clear hnew hok
    go_wp2_with fail
    refine hri.mono ?_
    rintro e w2 ⟨rfl, rfl⟩
    have HB := Lib.hid e2
    clear hri e2 b2
    go_wp2_with fail
    refine (HW.out _).mono ?_
    rintro e w3 ⟨rfl, hb3⟩
    go_wp2
    go_ret
    exact ⟨rfl, HB.out.trans (hb3.mono HB.out.size)⟩
end Go.Proofs.Ytohflbmmglmhhaa.Dk
