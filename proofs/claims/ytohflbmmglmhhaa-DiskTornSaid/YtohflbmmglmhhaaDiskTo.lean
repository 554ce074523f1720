/- disk: DiskTorn, walked. -/
import Derived.Test.YtohflbmmglmhhaaDiskZ
namespace Go.Proofs.Ytohflbmmglmhhaa.Dk
open Go.RowKit Go.Proofs.Ytohflbmmglmhhaa.Mem Go.Proofs.Ytohflbmmglmhhaa.X Go.Proofs.YtohflbmmglmhhaaW.PrintWords Go.Proofs.YtohflbmmglmhhaaW.PrintLast Go.Proofs.YtohflbmmglmhhaaW.PrintMore Go.Proofs.Ytohflbmmglmhhaa.Aid
set_option linter.unusedVariables false
set_option linter.unusedSimpArgs false
/-- a list under way, beside a disk and the document's -/
structure One (w wq : World) (p : Nat) (F : Nat → Prop) (lv cv : Value) (d : D) (B : Nat) (cs : Array Value) (a : Value) (k : Nat) (xs : List ByteArray) : Prop where
  pd : PD wq p F d
  rd : RD wq lv cv d
  bx : Blk wq B 32 cs
  sa : Sl wq 9 1 a k (xs.map Value.string)
  na : ∀ j, own a j → ¬ F j ∧ w.heap.size ≤ j ∧ ¬ own lv j ∧ j ≠ B
  bl : Below w.heap.size w wq
structure Box (p : Prop) : Prop where
  out : p
theorem hid_skip {P : Program} {ops : Array Oper} {w : World} {Q : Act → Prop} {a : Act} {o : Oper} {rest : List Oper} (h : Region.wanted o (yielded ops a.tmps) = false) (k : Box (wpStill P ops w Q rest (a.put o.dst undef))) : Box (wpStill P ops w Q (o :: rest) a) := by
  refine Box.mk ?_
  unfold wpStill; rw [h]; exact k.out
theorem hid_step {P : Program} {ops : Array Oper} {w : World} {Q : Act → Prop} {a : Act} {o : Oper} {rest : List Oper} (h : ∀ K : Act → Prop, (∀ a, Box (wpStill P ops w Q rest a) → K a) → if Region.wanted o (yielded ops a.tmps) then o.still P a w K else K (a.put o.dst undef)) : Box (wpStill P ops w Q (o :: rest) a) :=
  Box.mk (wpStill_step fun K hK => h K fun a ha => hK a ha.out)
theorem hid_nil {P : Program} {ops : Array Oper} {w : World} {Q : Act → Prop} {a : Act} (h : Q a) : Box (wpStill P ops w Q [] a) := Box.mk h
theorem hid_out {p : Prop} (h : Box p) : p := h.out
theorem One.next {w wq w3 : World} {p : Nat} {F : Nat → Prop} {lv cv : Value} {d : D} {B : Nat} {cs : Array Value} {a : Value} {k : Nat} {xs : List ByteArray} (h : One w wq p F lv cv d B cs a k xs) (x : ByteArray) {A' : Option Addr} {cap' : Nat}
    (h1 : Sl w3 9 1 (.slice A' (k + 1) cap') (k + 1) (xs.map Value.string ++ [.string x])) (h2 : Only (own a) (wq.alloc (.cells #[.string x] 9)) w3) (h3 : ∀ j, own (.slice A' (k + 1) cap') j → own a j ∨ j = wq.heap.size + 1) :
    One w w3 p F lv cv d B cs (.slice A' (k + 1) cap') (k + 1) (xs ++ [x]) := by
  have hs := h.bl.size
  refine ⟨(h.pd.alloc _).only h2 fun q f e => (h.na q e).1 f, (h.rd.alloc _).only h2 fun q e => ⟨(h.na q e).2.2.1, fun f => h.sa.apart h.rd.cach (by decide) q e f⟩, h2.blk (h.bx.alloc _) (fun e => (h.na B e).2.2.2 rfl), by rw [List.map_append]; exact h1, fun j hj => ?_, Only.below_mine h2 (fun q e => (h.na q e).2.1) (by rw [World.size_alloc]; omega) (h.bl.alloc hs _)⟩
  rcases h3 j hj with e | e
  · exact h.na j e
  · exact ⟨fun f => by have := h.pd.lt j f; omega, by omega, fun f => by have := h.rd.lt j (.inl f); omega, fun f => by have := h.bx.lt; omega⟩
/-- what is read behind the crash -/
structure Zt (w wr : World) (p : Nat) (F : Nat → Prop) (D1 : D) (B : Nat) (cs : Array Value) (a cv : Value) (was : List ByteArray) (cache : List (Nat × ByteArray)) : Prop where
  pd : PD wr p F D1
  bx : Blk wr B 32 cs
  sa : Sl wr 9 1 a 8 (was.map Value.string)
  ca : Sl wr 41 2 cv cache.length (wcells cache)
  bl : Below w.heap.size w wr
theorem Zt.drew {w wr : World} {p : Nat} {F : Nat → Prop} {D1 : D} {B : Nat} {cs : Array Value} {a cv : Value} {was : List ByteArray} {cache : List (Nat × ByteArray)} (h : Zt w wr p F D1 B cs a cv was cache) : Zt w wr.drew p F D1 B cs a cv was cache := ⟨h.pd.drew, h.bx.drew, h.sa.drew, h.ca.drew, h.bl.drew⟩
set_option maxHeartbeats 8000000 in
set_option maxRecDepth 100000 in
theorem torn_calls (w : World) (L0 : Option Addr) (c0 : Nat) (l : List TAct) (K9 : Option Addr) (c9 : Nat) (keep9 : List Bool) (torn : Int) (hl : Kd.C kAct w L0 l.length l) (hv : ∀ a ∈ l, vAct a) (hll : l.length ≤ 9223372036854775807) (hk9 : Kd.C Kd.bool w K9 keep9.length keep9) (hkc9 : keep9.length ≤ c9) (ht : (Lit.int .i64 torn).wf = true) :
    Calls Try.prog 3 #[.slice L0 l.length c0, .slice K9 keep9.length c9, .int .i64 torn] w fun e w' => e = .returned (.bool true) ∧ Below w.heap.size w w' := by
  have HL := Lib.hid hl
  have HV := Lib.hid hv
  have HK9 := Lib.hid hk9
  clear hl hv
  go_enter Try.func3, Try.ntmps3
  go_wp2_with fail
  refine (works_calls w).mono ?_
  rintro e w0 ⟨rfl, hb0⟩
  have hnew := new_calls w0 8 16 (by omega) (by omega) (by omega) (by omega)
  go_wp2_with fail
  refine hnew.mono ?_
  rintro e w2 ⟨p, rfl, hP, hb1⟩
  have hbw : Below w.heap.size w w2 := hb0.trans (hb1.mono hb0.size)
  have hrn := rnew_calls w2 8 16 (by omega) (by omega)
  clear hnew
  go_wp2_with fail
  refine hrn.mono ?_
  rintro e w3 ⟨lv, cv, rfl, hR, hb3, ho⟩
  obtain ⟨A, cap, hlv, _⟩ := hR.secs.form
  obtain ⟨A1, cap1, hcv, _⟩ := hR.cach.form
  have hst : St w w3 (mine w.heap.size w2) w3 p (mine w.heap.size w2) lv cv (new 8 16) (new 8 16) := by
    have hm : ∀ k, mine w0.heap.size w2 k → mine w.heap.size w2 k := fun k hk => ⟨by have := hk.1; have := hb0.size; omega, hk.2⟩
    refine ⟨(hP.mono hm fun k hk => hk.2).below hb3, hR, fun k hk f => ?_, fun k f => f.1, hbw.trans (hb3.mono hbw.size), Only.refl _ _, fun k f => .inl f⟩
    have := ho k hk
    have := f.2
    omega
  have hnl : (new 8 16).l.length = 8 := by show (List.replicate 8 _).length = 8; rw [List.length_replicate]
  rw [hnl] at hlv
  have hcl : (new 8 16).cache.length = 0 := rfl
  rw [hcl] at hcv
  subst hlv hcv
  rw [show dcells (new 8 16) (.slice A 8 cap) (.slice A1 0 cap1) = #[.int .i64 16, .slice A 8 cap, .slice A1 0 cap1, .int .i64 0, .bool false, .bool false, .int .i64 0] from rfl]
  have hs0 := (hst.alloc (.cells #[.int .i64 16, .slice A 8 cap, .slice A1 0 cap1, .int .i64 0, .bool false, .bool false, .int .i64 0] 32)).rebase
  have hB7 : w.heap.size ≤ w3.heap.size := hst.bl.size
  have hb0' := Blk.new w3 32 #[.int .i64 16, .slice A 8 cap, .slice A1 0 cap1, .int .i64 0, .bool false, .bool false, .int .i64 0]
  have hF0 : ¬ mine w.heap.size w2 w3.heap.size := fun e => by have := e.2; have := hb3.size; omega
  have hfn := new_fine 8 16 (by omega) (by omega)
  have HNL := Lib.hid hnl
  clear hrn hR hb3 ho hst hP hb1 hbw hcl hb0 hnl
  go_wp2
  go_loopw [10] (fun i wr => ∃ (k : Nat) (d : D) (F : Nat → Prop) (lv cv : Value), k ≤ l.length ∧ k ≤ 60 ∧ i = .int .i64 k ∧ St w wr F wr p F lv cv d d ∧ Fine d ∧ Few d k ∧ d.size = 16 ∧ d.l.length = 8 ∧ Blk wr w3.heap.size 32 (dcells d lv cv) ∧ ¬ F w3.heap.size) (fun i _ => l.length - (intOf i).toNat)
  case atStart => exact ⟨0, new 8 16, _, _, _, Nat.zero_le _, Nat.zero_le _, rfl, hs0, hfn, new_few 8 16, rfl, HNL.out, hb0', hF0⟩
  case round =>
    clear hs0 hb0' hF0 hfn
    obtain ⟨k, d, F, lv, cv, hk1, hk2, rfl, hst, hfd, hfew, hz, hl8, hb, hF⟩ := hrel
    obtain ⟨ds, dl, dc, left, off, full, ops⟩ := d
    obtain ⟨A9, cap9, rfl, _⟩ := hst.rd.secs.form
    obtain ⟨A8, cap8, rfl, _⟩ := hst.rd.cach.form
    simp only [dcells_mk] at hb
    simp only at hz hl8
    have HZ := Lib.hid hz
    have HL8 := Lib.hid hl8
    clear hz hl8
    obtain ⟨x0, x1, x2, x3, x4, x5, x6⟩ := blk7 hb
    by_cases hkl : k < l.length ∧ k < 60
    · obtain ⟨hkl, hk6⟩ := hkl
      have hki : (k : Int) < (l.length : Int) := by omega
      have hk6' : (k : Int) < 60 := by omega
      obtain ⟨ad, K, c, hA, hcl, hC, hcell⟩ := act_at HL.out hkl
      have hv := HV.out _ (List.getElem_mem hkl)
      subst hA
      obtain ⟨⟨kind, at_, nn, fb, short, is, keep⟩, ha⟩ : ∃ x, l[k] = x := ⟨_, rfl⟩
      rw [ha] at hcl hC hcell hv
      simp only at hcl hC hcell
      clear ha
      have tr : ∀ W, Below w.heap.size w W → ∀ j u, #[Value.int .i64 kind, .int .i64 at_, .int .i64 nn, .int .u8 fb, .bool short, .bool is, .slice K keep.length c].toList[j]? = some u → W.cell? (ad.add (k * 7 + j)) = some u := fun W hW j u hu => (hW.cell (p := ad.add (k * 7 + j)) (World.block_lt_of_cell? w _ (hcell j u hu))).trans (hcell j u hu)
      have hdoes := fun W (hst : St w W F W p F (.slice A9 dl.length cap9) (.slice A8 dc.length cap8) ⟨ds, dl, dc, left, off, full, ops⟩ ⟨ds, dl, dc, left, off, full, ops⟩) => does_calls w W p F _ _ _ hst hfd k hfew (by omega) (by have := HZ.out; show 16 ≤ ds; omega) kind at_ nn fb short is K c keep hC hcl hv.2.2.1
      rw [dcells_mk] at hdoes
      clear hcell x0 x1 x2 x3 x4 x5 x6
      go_wp2
      have hbl := hst.bl
      refine start_ (n := 13) (S := fun w' => Blk w' w3.heap.size 32 #[.int .i64 (ds : Int), .slice A9 dl.length cap9, .slice A8 dc.length cap8, .int .i64 (left : Int), .bool off, .bool full, .int .i64 (ops : Int)] ∧ Below w.heap.size w w') (ds := []) #[false, false, false, false, false, false, false, false, false, false, false, false, false] (by kernel_rfl) rfl rfl ⟨hb.drew, hbl.drew⟩ (fun hHeld => ?_)
      have gst := hst.drew
      clear hst hb hbl
      generalize wr.drew = w4 at hHeld gst ⊢
      have gst := gst.rebase
      refine pure_ (i := 0) (N := some 44) (v := ?_) (a' := ?_) #[true, false, false, false, false, false, false, false, false, false, false, false, false] rfl rfl (by kernel_rfl) (fun _ _ _ h => h) (Or.inl ⟨by rfl, ?_⟩) ?_ ?_
      rotate_left
      · intro w'
        go_simp
        with_reducible rfl
      rotate_left
      · simp only [Act.put, List.setIfInBounds_toArray, List.set_cons_zero, List.set_cons_succ]
        rfl
      refine take_ (i := 1) (N := some 45) (v := ?_) (a' := ?_) #[true, true, false, false, false, false, false, false, false, false, false, false, false] rfl rfl (by kernel_rfl) (fun _ _ _ h => h) (Or.inl ⟨by rfl, ?_⟩) hHeld ?_ ?_
      rotate_left
      · rintro w' ⟨hS, hB⟩
        obtain ⟨x0, x1, x2, x3, x4, x5, x6⟩ := blk7 hS
        go_simp
        with_reducible rfl
      rotate_left
      · simp only [Act.put, List.setIfInBounds_toArray, List.set_cons_zero, List.set_cons_succ]
        rfl
      refine pure_ (i := 2) (N := some 46) (v := ?_) (a' := ?_) #[true, true, true, false, false, false, false, false, false, false, false, false, false] rfl rfl (by kernel_rfl) (fun _ _ _ h => h) (Or.inl ⟨by rfl, ?_⟩) ?_ ?_
      rotate_left
      · intro w'
        go_simp
        with_reducible rfl
      rotate_left
      · simp only [Act.put, List.setIfInBounds_toArray, List.set_cons_zero, List.set_cons_succ]
        rfl
      refine pure_ (i := 3) (N := some 47) (v := ?_) (a' := ?_) #[true, true, true, true, false, false, false, false, false, false, false, false, false] rfl rfl (by kernel_rfl) (fun _ _ _ h => h) (Or.inl ⟨by rfl, ?_⟩) ?_ ?_
      rotate_left
      · intro w'
        go_simp
        with_reducible rfl
      rotate_left
      · simp only [Act.put, List.setIfInBounds_toArray, List.set_cons_zero, List.set_cons_succ]
        rfl
      refine pure_ (i := 4) (N := some 48) (v := ?_) (a' := ?_) #[true, true, true, true, true, false, false, false, false, false, false, false, false] rfl rfl (by kernel_rfl) (fun _ _ _ h => h) (Or.inl ⟨by rfl, ?_⟩) ?_ ?_
      rotate_left
      · intro w'
        go_simp
        with_reducible rfl
      rotate_left
      · simp only [Act.put, List.setIfInBounds_toArray, List.set_cons_zero, List.set_cons_succ]
        rfl
      refine take_ (i := 5) (N := some 49) (v := ?_) (a' := ?_) #[true, true, true, true, true, true, false, false, false, false, false, false, false] rfl rfl (by kernel_rfl) (fun _ _ _ h => h) (Or.inl ⟨by rfl, ?_⟩) hHeld ?_ ?_
      rotate_left
      · rintro w' ⟨hS, hB⟩
        have y0 : w'.cell? (ad.add (k * 7)) = some (.int .i64 kind) := tr w' hB 0 _ rfl
        have y1 : w'.cell? ⟨(ad.add (k * 7)).block, (ad.add (k * 7)).off + 1, none⟩ = some (.int .i64 at_) := (congrArg w'.cell? (add_off ad (k * 7) 0)).symm.trans (tr w' hB 1 _ rfl)
        have y2 : w'.cell? ⟨(ad.add (k * 7)).block, (ad.add (k * 7)).off + 2, none⟩ = some (.int .i64 nn) := (congrArg w'.cell? (add_off ad (k * 7) 1)).symm.trans (tr w' hB 2 _ rfl)
        have y3 : w'.cell? ⟨(ad.add (k * 7)).block, (ad.add (k * 7)).off + 3, none⟩ = some (.int .u8 fb) := (congrArg w'.cell? (add_off ad (k * 7) 2)).symm.trans (tr w' hB 3 _ rfl)
        have y4 : w'.cell? ⟨(ad.add (k * 7)).block, (ad.add (k * 7)).off + 4, none⟩ = some (.bool short) := (congrArg w'.cell? (add_off ad (k * 7) 3)).symm.trans (tr w' hB 4 _ rfl)
        have y5 : w'.cell? ⟨(ad.add (k * 7)).block, (ad.add (k * 7)).off + 5, none⟩ = some (.bool is) := (congrArg w'.cell? (add_off ad (k * 7) 4)).symm.trans (tr w' hB 5 _ rfl)
        have y6 : w'.cell? ⟨(ad.add (k * 7)).block, (ad.add (k * 7)).off + 6, none⟩ = some (.slice K keep.length c) := (congrArg w'.cell? (add_off ad (k * 7) 5)).symm.trans (tr w' hB 6 _ rfl)
        go_simp
        with_reducible rfl
      rotate_left
      · simp only [Act.put, List.setIfInBounds_toArray, List.set_cons_zero, List.set_cons_succ]
        rfl
      refine join_ (σ := D × (Nat → Prop) × Value × Value × Nat) 2 #[true, true, true, true, true, true, true, true, true, true, true, false, false] (fun s => [(50, .tuple #[.agg (dcells s.1 s.2.2.1 s.2.2.2.1), .bool true]), (43, .tuple #[.agg (dcells s.1 s.2.2.1 s.2.2.2.1), .bool true]), (51, .agg (dcells s.1 s.2.2.1 s.2.2.2.1)), (52, .bool true), (11, .pointer (some ⟨s.2.2.2.2, 0, none⟩))])
        (fun s w' => St w w4 F w' p s.2.1 s.2.2.1 s.2.2.2.1 s.1 s.1 ∧ (∃ x, s.1 = doesD ⟨ds, dl, dc, left, off, full, ops⟩ kind at_ nn x is keep) ∧ Blk w' s.2.2.2.2 32 zero7 ∧ ¬ s.2.1 s.2.2.2.2 ∧ Blk w' w3.heap.size 32 #[.int .i64 (ds : Int), .slice A9 dl.length cap9, .slice A8 dc.length cap8, .int .i64 (left : Int), .bool off, .bool full, .int .i64 (ops : Int)] ∧ s.2.2.2.2 ≠ w3.heap.size ∧ w4.heap.size ≤ s.2.2.2.2) ?_ ?_
      · rintro ⟨d', F', lv', cv', b9⟩ w6 ⟨h1, hd', h2, h3, h4, h5, h6⟩
        simp only at h1 h2 h3 h5 h6 hd'
        have h7 : w3.heap.size < w4.heap.size := hHeld.1.lt
        have h8 : ¬ F' w3.heap.size := fun e => (h1.fx _ e).elim hF (fun e => by omega)
        have hw4 : w.heap.size ≤ w4.heap.size := hHeld.2.size
        have hfd' : Fine d' := by
          obtain ⟨x, rfl⟩ := hd'
          exact doesD_fine _ _ _ _ _ _ _ (wf64 hv.2.2.1).2 hfd
        have hfew' : Few d' (k + 1) := by
          obtain ⟨x, rfl⟩ := hd'
          exact doesD_few _ _ _ _ _ _ _ k hfew
        have hz' : d'.size = 16 := by
          obtain ⟨x, rfl⟩ := hd'
          rw [(doesD_shape _ _ _ _ _ _ _).1]
          exact HZ.out
        have hl' : d'.l.length = 8 := by
          obtain ⟨x, rfl⟩ := hd'
          rw [(doesD_shape _ _ _ _ _ _ _).2]
          exact HL8.out
        have HZ2 := Lib.hid (And.intro hz' hl')
        clear hz' hl'
        clear hd' hHeld gst hfd hfew hv
        obtain ⟨ds', dl', dc', left', off', full', ops'⟩ := d'
        obtain ⟨A7, cap7, rfl, _⟩ := h1.rd.secs.form
        obtain ⟨A6, cap6, rfl, _⟩ := h1.rd.cach.form
        simp only [dcells_mk, putAll, Act.put, List.setIfInBounds_toArray, List.set_cons_zero, List.set_cons_succ]
        refine one_ (i := 11) (N := none) #[true, true, true, true, true, true, true, true, true, true, true, true, false] rfl rfl (by kernel_rfl) (by decide) (fun K hK => ?_)
        rw [if_pos (by rfl)]
        refine wp_store_mid 32 (.tmp 11) (.tmp 51) rfl b9 0 #[.int .i64 (ds' : Int), .slice A7 dl'.length cap7, .slice A6 dc'.length cap6, .int .i64 (left' : Int), .bool off', .bool full', .int .i64 (ops' : Int)] rfl rfl (there_blk h2 (n := 7) (by show 7 ≤ 7; omega)) info_d (by simp [Value.oneCell']) ?_
        have m9 := blk_whole h2 (cs := #[.int .i64 (ds' : Int), .slice A7 dl'.length cap7, .slice A6 dc'.length cap6, .int .i64 (left' : Int), .bool off', .bool full', .int .i64 (ops' : Int)]) rfl
        have m7 := blk_whole_far h4 (g' := b9) (fun e => h5 e.symm) [.int .i64 (ds' : Int), .slice A7 dl'.length cap7, .slice A6 dc'.length cap6, .int .i64 (left' : Int), .bool off', .bool full', .int .i64 (ops' : Int)] 0
        have ms := h1.cellsF h2 [.int .i64 (ds' : Int), .slice A7 dl'.length cap7, .slice A6 dc'.length cap6, .int .i64 (left' : Int), .bool off', .bool full', .int .i64 (ops' : Int)] 0 h3 hw4 h6
        refine hK.out _ _ ⟨m7, ms.bl⟩ (fun _ => ?_)
        clear hK K h1 h2 h4
        refine pure_ (i := 12) (N := some 12) (v := ?_) (a' := ?_) #[true, true, true, true, true, true, true, true, true, true, true, true, true] rfl rfl (by kernel_rfl) (fun _ _ _ h => h) (Or.inl ⟨by rfl, ?_⟩) ?_ ?_
        rotate_left
        · intro w'
          go_simp
          with_reducible rfl
        rotate_left
        · simp only [Act.put, List.setIfInBounds_toArray, List.set_cons_zero, List.set_cons_succ]
          rfl
        refine done_ (by kernel_rfl) ?_
        generalize w6.setCells b9 0 [.int .i64 (ds' : Int), .slice A7 dl'.length cap7, .slice A6 dc'.length cap6, .int .i64 (left' : Int), .bool off', .bool full', .int .i64 (ops' : Int)] = w7 at m9 m7 ms ⊢
        obtain ⟨x0, x1, x2, x3, x4, x5, x6⟩ := blk7 m9
        obtain ⟨y0, y1, y2, y3, y4, y5, y6⟩ := blk7 m7
        have f0 := m7.frozen 0
        have f1 := m7.frozen 1
        have f2 := m7.frozen 2
        have f3 := m7.frozen 3
        have f4 := m7.frozen 4
        have f5 := m7.frozen 5
        have f6 := m7.frozen 6
        have q7 := blk_whole m7 (cs := #[.int .i64 (ds' : Int), .slice A7 dl'.length cap7, .slice A6 dc'.length cap6, .int .i64 (left' : Int), .bool off', .bool full', .int .i64 (ops' : Int)]) rfl
        have qs := ms.cellsO m7 [.int .i64 (ds' : Int), .slice A7 dl'.length cap7, .slice A6 dc'.length cap6, .int .i64 (left' : Int), .bool off', .bool full', .int .i64 (ops' : Int)] 0 h8 hB7
        have HQ := Lib.hid (And.intro q7 qs)
        clear q7 qs m9 m7 ms h3 h5 h6 h7
        go_wp2
        go_roundw
        case rel => exact ⟨k + 1, _, _, _, _, by omega, by omega, by go_num, HQ.out.2, hfd', hfew', HZ2.out.1, HZ2.out.2, HQ.out.1, h8⟩
        case measure => simp [intOf]; omega
      · intro hcont
        refine two_ (i := 6) (j := 10) (Ni := some 50) (Nj := some 11) #[true, true, true, true, true, true, true, false, false, false, false, false, false] #[true, true, true, true, true, true, false, false, false, false, true, false, false] rfl rfl rfl rfl (by kernel_rfl) (by decide) (by decide) (fun K hK => ?_) (fun K hK => ?_)
        · go_simp
          go_wp2_with (go_at_call 9; refine (hdoes _ gst).mono ?_; rintro e w5 ⟨d', F', lv', cv', rfl, hs5, hx⟩)
          have m7 := hs5.on.blk hHeld.1 hF
          refine hK.out _ _ ⟨m7, hs5.bl⟩ (fun hHeld => ?_)
          clear hK K
          refine pure_ (i := 7) (N := some 43) (v := ?_) (a' := ?_) #[true, true, true, true, true, true, true, true, false, false, false, false, false] rfl rfl (by kernel_rfl) (fun _ _ _ h => h) (Or.inl ⟨by rfl, ?_⟩) ?_ ?_
          rotate_left
          · intro w'
            go_simp
            with_reducible rfl
          rotate_left
          · simp only [Act.put, List.setIfInBounds_toArray, List.set_cons_zero, List.set_cons_succ]
            rfl
          refine pure_ (i := 8) (N := some 51) (v := ?_) (a' := ?_) #[true, true, true, true, true, true, true, true, true, false, false, false, false] rfl rfl (by kernel_rfl) (fun _ _ _ h => h) (Or.inl ⟨by rfl, ?_⟩) ?_ ?_
          rotate_left
          · intro w'
            go_simp
            with_reducible rfl
          rotate_left
          · simp only [Act.put, List.setIfInBounds_toArray, List.set_cons_zero, List.set_cons_succ]
            rfl
          refine pure_ (i := 9) (N := some 52) (v := ?_) (a' := ?_) #[true, true, true, true, true, true, true, true, true, true, false, false, false] rfl rfl (by kernel_rfl) (fun _ _ _ h => h) (Or.inl ⟨by rfl, ?_⟩) ?_ ?_
          rotate_left
          · intro w'
            go_simp
            with_reducible rfl
          rotate_left
          · simp only [Act.put, List.setIfInBounds_toArray, List.set_cons_zero, List.set_cons_succ]
            rfl
          refine one_ (i := 10) (N := some 11) #[true, true, true, true, true, true, true, true, true, true, true, false, false] rfl rfl (by kernel_rfl) (by decide) (fun K hK => ?_)
          go_simp
          have n7 := m7.alloc (.cells zero7 32)
          have nst := hs5.alloc (.cells zero7 32)
          have n9 := Blk.new w5 32 zero7
          refine hK.out _ _ ⟨n7, nst.bl⟩ (fun _ => ?_)
          clear hK K
          have h7 : w3.heap.size < w5.heap.size := m7.lt
          refine norm_ ?_ (hcont ⟨d', F', lv', cv', w5.heap.size⟩ _ ⟨nst, hx, n9, fun e => by have := hs5.pd.lt _ e; simp only at this; omega, n7, by show w5.heap.size ≠ w3.heap.size; omega, hs5.on.size⟩)
          simp only [putAll, Act.put, List.setIfInBounds_toArray, List.set_cons_zero, List.set_cons_succ]
          try rfl
        · go_simp
          have n7 := hHeld.1.alloc (.cells zero7 32)
          have nst := gst.alloc (.cells zero7 32)
          have n9 := Blk.new w4 32 zero7
          refine hK.out _ _ ⟨n7, nst.bl⟩ (fun hHeld2 => ?_)
          clear hK K
          refine one_ (i := 6) (N := some 50) #[true, true, true, true, true, true, true, false, false, false, true, false, false] rfl rfl (by kernel_rfl) (by decide) (fun K hK => ?_)
          go_simp
          have h7 : w3.heap.size < w4.heap.size := hHeld.1.lt
          have h9F : ¬ F w4.heap.size := fun e => by have := gst.pd.lt _ e; omega
          go_wp2_with (go_at_call 9; refine (hdoes _ nst.rebase).mono ?_; rintro e w5 ⟨d', F', lv', cv', rfl, hs5, hx⟩)
          have m7 := hs5.on.blk n7 hF
          have m9 := hs5.on.blk n9 h9F
          refine hK.out _ _ ⟨m7, hs5.bl⟩ (fun _ => ?_)
          clear hK K
          refine pure_ (i := 7) (N := some 43) (v := ?_) (a' := ?_) #[true, true, true, true, true, true, true, true, false, false, true, false, false] rfl rfl (by kernel_rfl) (fun _ _ _ h => h) (Or.inl ⟨by rfl, ?_⟩) ?_ ?_
          rotate_left
          · intro w'
            go_simp
            with_reducible rfl
          rotate_left
          · simp only [Act.put, List.setIfInBounds_toArray, List.set_cons_zero, List.set_cons_succ]
            rfl
          refine pure_ (i := 8) (N := some 51) (v := ?_) (a' := ?_) #[true, true, true, true, true, true, true, true, true, false, true, false, false] rfl rfl (by kernel_rfl) (fun _ _ _ h => h) (Or.inl ⟨by rfl, ?_⟩) ?_ ?_
          rotate_left
          · intro w'
            go_simp
            with_reducible rfl
          rotate_left
          · simp only [Act.put, List.setIfInBounds_toArray, List.set_cons_zero, List.set_cons_succ]
            rfl
          refine pure_ (i := 9) (N := some 52) (v := ?_) (a' := ?_) #[true, true, true, true, true, true, true, true, true, true, true, false, false] rfl rfl (by kernel_rfl) (fun _ _ _ h => h) (Or.inl ⟨by rfl, ?_⟩) ?_ ?_
          rotate_left
          · intro w'
            go_simp
            with_reducible rfl
          rotate_left
          · simp only [Act.put, List.setIfInBounds_toArray, List.set_cons_zero, List.set_cons_succ]
            rfl
          refine norm_ ?_ (hcont ⟨d', F', lv', cv', w4.heap.size⟩ _ ⟨?_, hx, m9, fun e => ?_, m7, by show w4.heap.size ≠ w3.heap.size; omega, Nat.le_refl _⟩)
          · simp only [putAll, Act.put, List.setIfInBounds_toArray, List.set_cons_zero, List.set_cons_succ]
            try rfl
          · exact ⟨hs5.pd, hs5.rd, hs5.ap, hs5.fb, hs5.bl, (((Only.refl F w4).alloc _).trans hs5.on), fun q f => (hs5.fx q f).imp id (fun e => by rw [World.size_alloc] at e; omega)⟩
          · rcases hs5.fx _ e with e | e
            · exact h9F e
            · have e2 : w4.heap.size + 1 ≤ w4.heap.size := by rw [World.size_alloc] at e; exact e
              omega
    · have ex : ((l.length : Int) ≤ (k : Int)) ∨ ((k : Int) < (l.length : Int) ∧ (60 : Int) ≤ (k : Int)) := by omega
      clear hkl
      rcases ex with h1 | ⟨h1, h2⟩
      · have hbl := hst.bl
        have hfb := hst.fb
        have hap := hst.ap
        have hcc : dc.length ≤ 60 := by have := hfew.2; simp only at this; omega
        have hO : One w wr p F (.slice A9 dl.length cap9) (.slice A8 dc.length cap8) ⟨ds, dl, dc, left, off, full, ops⟩ w3.heap.size #[.int .i64 (ds : Int), .slice A9 dl.length cap9, .slice A8 dc.length cap8, .int .i64 (left : Int), .bool off, .bool full, .int .i64 (ops : Int)] (.slice none 0 0) 0 [] := ⟨hst.pd, hst.rd, hb, Sl.nil _ _ _, fun j e => by (cases e), hbl⟩
        have HFD := Lib.hid hfd
        have HCC := Lib.hid hcc
        clear hst hfd hfew hb x0 x1 x2 x3 x4 x5 x6 hcc hbl
        obtain ⟨i0, hi, hz0', hz1, hz2⟩ := info_parts info_rs
        have HI := Lib.hid (And.intro hi (And.intro hz0' (And.intro hz1 hz2)))
        clear hi hz0' hz1 hz2
        go_wp2
        go_loopw [13, 14] (fun a i wq => ∃ k : Nat, k ≤ 8 ∧ i = .int .i64 k ∧ One w wq p F (.slice A9 dl.length cap9) (.slice A8 dc.length cap8) ⟨ds, dl, dc, left, off, full, ops⟩ w3.heap.size #[.int .i64 (ds : Int), .slice A9 dl.length cap9, .slice A8 dc.length cap8, .int .i64 (left : Int), .bool off, .bool full, .int .i64 (ops : Int)] a k (dl.take k)) (fun _ i _ => 8 - (intOf i).toNat)
        case atStart => exact ⟨0, Nat.zero_le _, rfl, by simpa using hO⟩
        case round =>
          clear hO
          obtain ⟨k, hk8, rfl, hT⟩ := hrel
          obtain ⟨Aa, capa, rfl, _⟩ := hT.sa.form
          by_cases h8 : k < 8
          · have h8' : (k : Int) < 8 := by omega
            have hkl : k < dl.length := by rw [HL8.out]; exact h8
            have hdu := dur_in wr p F _ hT.pd k hkl
            simp only at hdu
            obtain ⟨du, hdu2⟩ : ∃ du, dl[k] = du := ⟨_, rfl⟩
            rw [hdu2] at hdu
            have hn1 : dl.take (k + 1) = dl.take k ++ [du] := by rw [List.take_succ_eq_append_getElem hkl, hdu2]
            obtain ⟨xs, hxs⟩ : ∃ xs, dl.take k = xs := ⟨_, rfl⟩
            rw [hxs] at hT hn1
            have HN := Lib.hid hn1
            have HT := Lib.hid hT
            clear hxs hn1 hdu2 hT
            go_wp2_with fail
            refine hdu.mono ?_
            rintro e w8 ⟨rfl, rfl⟩
            clear hdu
            go_wp2_with (at_builtin; go_loud (refine wpList_append_sl rfl _ _ 29 29 rfl 9 i0 _ 1 16 Try.underlying29 HI.out.1 HI.out.2.1 HI.out.2.2.1 HI.out.2.2.2 rfl _ _ _ rfl (HT.out.sa.alloc _) _ 1 [.string du] rfl (src_blk (Blk.new _ _ _) Try.underlying29 1 1 rfl (by simp [Value.oneCell'])) ?c1 ?c2 ?_))
            case c1 => unfold maxLen; omega
            case c2 => omega
            intro A1' cap1' w9 hs9 ho9 hw9
            have h9 := HT.out.next du hs9 ho9 (fun j hj => by simpa using hw9 j hj)
            rw [← HN.out] at h9
            clear hs9 ho9 hw9 HT HN
            go_wp2
            go_roundw
            case rel => exact ⟨k + 1, by omega, by go_num, h9⟩
            case measure => simp [intOf]; omega
          · have hk : k = 8 := by omega
            subst hk
            have htk : dl.take 8 = dl := List.take_of_length_le (by rw [HL8.out]; omega)
            rw [htk] at hT
            clear htk
            obtain ⟨tw0, tw1⟩ := wf64 ht
            have hcr := crash_calls wr p F _ hT.pd HFD.out (by have := HCC.out; simp only; omega) K9 c9 keep9 torn (fun W hW => Kd.C_below HK9.out (Only.below_mine hW hfb hT.bl.size hT.bl)) hkc9 tw0 tw1
            have hoon := crash_oon ⟨ds, dl, dc, left, off, full, ops⟩ keep9 torn (fun x hx => (HFD.out.wat x hx).2)
            have hf1 := crash_fine _ keep9 torn HFD.out
            have hl1 : (crash ⟨ds, dl, dc, left, off, full, ops⟩ keep9 torn).l.length = 8 := by rw [crash_len]; exact HL8.out
            have hsz1 : (crash ⟨ds, dl, dc, left, off, full, ops⟩ keep9 torn).size = 16 := HZ.out
            obtain ⟨D1, hD1⟩ : ∃ D1, crash ⟨ds, dl, dc, left, off, full, ops⟩ keep9 torn = D1 := ⟨_, rfl⟩
            rw [hD1] at hcr hoon hf1 hl1 hsz1
            have HD := Lib.hid (And.intro hoon (And.intro hf1 (And.intro hl1 hsz1)))
            have HT := Lib.hid hT
            clear hD1 hoon hf1 hl1 hsz1 hT
            go_wp2_with fail
            refine hcr.mono ?_
            rintro e w9 ⟨rfl, hp⟩
            have hsa := HT.out.sa.only hp.2 fun q e => (HT.out.na q e).1
            have hbx := hp.2.blk HT.out.bx hF
            have hcv := HT.out.rd.cach.only hp.2 fun q e => hap q (.inr e)
            have hbl : Below w.heap.size w w9 := Only.below_mine hp.2 hfb HT.out.bl.size HT.out.bl
            have hz0 : Zt w w9 p _ D1 w3.heap.size #[.int .i64 (ds : Int), .slice A9 dl.length cap9, .slice A8 dc.length cap8, .int .i64 (left : Int), .bool off, .bool full, .int .i64 (ops : Int)] (.slice Aa 8 capa) (.slice A8 dc.length cap8) dl dc := ⟨hp.1, hbx, hsa, hcv, hbl⟩
            obtain ⟨F1, hF1⟩ : ∃ F1, ext F wr w9 = F1 := ⟨_, rfl⟩
            rw [hF1] at hz0
            have HZ0 := Lib.hid hz0
            clear hcr hp HT hsa hbx hcv hbl hF1 hz0
            go_wp2
            go_loopw [15] (fun i wr => Zt w wr p F1 D1 w3.heap.size #[.int .i64 (ds : Int), .slice A9 dl.length cap9, .slice A8 dc.length cap8, .int .i64 (left : Int), .bool off, .bool full, .int .i64 (ops : Int)] (.slice Aa 8 capa) (.slice A8 dc.length cap8) dl dc ∧ ∃ k : Nat, k ≤ 8 ∧ i = .int .i64 k) (fun i _ => 8 - (intOf i).toNat)
            case atStart => exact ⟨HZ0.out, 0, Nat.zero_le _, rfl⟩
            case round =>
              clear HZ0
              obtain ⟨hz0, k, hk8, rfl⟩ := hrel
              by_cases hk : k < 8
              · have hk' : (k : Int) < 8 := by omega
                have hkl : k < D1.l.length := by rw [HD.out.2.2.1]; exact hk
                have hdl : k < dl.length := by rw [HL8.out]; exact hk
                have hdu := dur_in wr p _ D1 hz0.pd k hkl
                obtain ⟨s, hs⟩ : ∃ s, D1.l[k] = s := ⟨_, rfl⟩
                rw [hs] at hdu
                have hss : s.size = 16 := by rw [← hs, ← HD.out.2.2.2]; exact HD.out.2.1.each _ (List.getElem_mem hkl)
                have hts : dl[k].size = 16 := by have := HFD.out.each _ (List.getElem_mem hdl); rw [this]; exact HZ.out
                obtain ⟨t, ht9⟩ : ∃ t, dl[k] = t := ⟨_, rfl⟩
                rw [ht9] at hts
                have HS := Lib.hid (And.intro hs (And.intro hss (And.intro ht9 hts)))
                have HZ1 := Lib.hid hz0
                clear hs hss ht9 hts hz0
                go_wp2_with fail
                refine hdu.mono ?_
                rintro e w10 ⟨rfl, rfl⟩
                clear hdu
                go_wp2
                go_loopw [17] (fun i wr => Zt w wr p F1 D1 w3.heap.size #[.int .i64 (ds : Int), .slice A9 dl.length cap9, .slice A8 dc.length cap8, .int .i64 (left : Int), .bool off, .bool full, .int .i64 (ops : Int)] (.slice Aa 8 capa) (.slice A8 dc.length cap8) dl dc ∧ ∃ q : Nat, q ≤ 16 ∧ i = .int .i64 q) (fun i _ => 16 - (intOf i).toNat)
                case atStart => exact ⟨HZ1.out, 0, Nat.zero_le _, rfl⟩
                case round =>
                  clear HZ1
                  obtain ⟨hz1, q, hq16, rfl⟩ := hrel
                  by_cases hq : q < 16
                  · have hq' : (q : Int) < 16 := by omega
                    have hqs : q < s.size := by have := HS.out.2.1; omega
                    have hqt : q < t.size := by have := HS.out.2.2.2; omega
                    have hqs' : (q : Int) < (s.size : Int) := by omega
                    have hqt' : (q : Int) < (t.size : Int) := by omega
                    obtain ⟨ga, oa, hAa, hca⟩ : ∃ g off, Aa = some ⟨g, off, none⟩ ∧ wr.cell? ⟨g, off + k, none⟩ = some (.string t) := by
                      obtain ⟨g, off, c, cur, hv, _⟩ := hz1.sa.form_pos (by omega)
                      injection hv with e1 e2 e3
                      subst e1 e3
                      have hh := hz1.sa.cell rfl (j := k) (by omega)
                      exact ⟨g, off, rfl, by rw [hh, List.getElem?_map, List.getElem?_eq_getElem hdl, HS.out.2.2.1]; rfl⟩
                    subst hAa
                    have HZ2 := Lib.hid hz1
                    clear hz1
                    go_wp2
                    refine wp_region_still_lit (by kernel_rfl) (by kernel_rfl) ?_
                    repeat still_step
                    refine wpStill_nil ?_
                    have HZ3 := Lib.hid HZ2.out.drew
                    clear HZ2 hca
                    go_wp2
                    go_loopw [18, 19] (fun okv i wr => Zt w wr p F1 D1 w3.heap.size #[.int .i64 (ds : Int), .slice A9 dl.length cap9, .slice A8 dc.length cap8, .int .i64 (left : Int), .bool off, .bool full, .int .i64 (ops : Int)] (.slice (some ⟨ga, oa, none⟩) 8 capa) (.slice A8 dc.length cap8) dl dc ∧ ∃ (m : Nat) (b : Bool), m ≤ dc.length ∧ i = .int .i64 m ∧ okv = .bool b ∧ (b = false → s[q] ≠ t[q] ∧ ∀ m' (hm' : m' < dc.length), m' < m → dc[m'].1 = k → ∀ hq9 : q < dc[m'].2.size, dc[m'].2[q] ≠ s[q])) (fun _ i _ => dc.length - (intOf i).toNat)
                    case atStart =>
                      refine ⟨HZ3.out, 0, _, Nat.zero_le _, rfl, rfl, fun hb => ⟨fun e => ?_, fun m' _ h => absurd h (Nat.not_lt_zero _)⟩⟩
                      rw [e] at hb
                      simp at hb
                    case round =>
                      clear HZ3
                      obtain ⟨hz2, m, b, hm, rfl, rfl, hb⟩ := hrel
                      obtain ⟨z0, z1, z2, z3, z4, z5, z6⟩ := blk7 hz2.bx
                      clear z0 z1 z3 z4 z5 z6
                      by_cases hmd : m < dc.length
                      · have hmi : (m : Int) < (dc.length : Int) := by omega
                        have hm1 : m + 1 ≤ 9223372036854775807 := by have hM : maxLen ≤ 9223372036854775807 := by decide
                                                                     omega
                        obtain ⟨gw, ow, hAw, y1, y2⟩ := wr_at hz2.ca hmd
                        subst hAw
                        have hw2 : dc[m].2.size = 16 := by have := (HFD.out.wat _ (List.getElem_mem hmd)).2; rw [this]; exact HZ.out
                        obtain ⟨⟨wa, ws⟩, hws⟩ : ∃ x, dc[m] = x := ⟨_, rfl⟩
                        rw [hws] at y1 y2 hw2
                        simp only at y1 y2 hw2
                        have hqw : q < ws.size := by omega
                        have hqw' : (q : Int) < (ws.size : Int) := by omega
                        have HWS := Lib.hid hws
                        have HB := Lib.hid hb
                        have HZ4 := Lib.hid hz2
                        clear hws hw2 hb hz2
                        cases b with
                        | true =>
                          go_wp2
                          refine wp_region_still_lit (by kernel_rfl) (by kernel_rfl) ?_
                          refine hid_out ?_
                          iterate 26 (refine hid_step (fun K hK => ?_); go_simp; refine hK _ ?_; clear hK K)
                          refine hid_nil ?_
                          have HZ5 := Lib.hid HZ4.out.drew
                          clear HZ4 y1 y2 z2
                          go_wp2
                          go_roundw
                          case rel => exact ⟨HZ5.out, m + 1, true, by omega, by go_num, rfl, fun h => by cases h⟩
                          case measure => simp [intOf]; omega
                        | false =>
                          by_cases hak : wa = k
                          · have hake : ((wa : Int) == (k : Int)) = true := beq_iff_eq.mpr (by omega)
                            by_cases hcs : ws[q] = s[q]
                            · have hce : ((ws[q].toNat : Int) == (s[q].toNat : Int)) = true := by rw [hcs]; simp
                              clear hcs hak
                              go_wp2
                              refine wp_region_still_lit (by kernel_rfl) (by kernel_rfl) ?_
                              repeat still_step
                              refine wpStill_nil ?_
                              have HZ5 := Lib.hid HZ4.out.drew
                              clear HZ4 y1 y2 z2
                              go_wp2
                              go_roundw
                              case rel => exact ⟨HZ5.out, m + 1, true, by omega, by go_num, rfl, fun h => by cases h⟩
                              case measure => simp [intOf]; omega
                            · have hce : ((ws[q].toNat : Int) == (s[q].toNat : Int)) = false := by
                                refine beq_eq_false_iff_ne.mpr fun e => hcs ?_
                                exact UInt8.toNat_inj.1 (by omega)
                              have HN := Lib.hid hcs
                              clear hcs hak
                              go_wp2
                              refine wp_region_still_lit (by kernel_rfl) (by kernel_rfl) ?_
                              repeat still_step
                              refine wpStill_nil ?_
                              have HZ5 := Lib.hid HZ4.out.drew
                              clear HZ4 y1 y2 z2
                              go_wp2
                              go_roundw
                              case rel =>
                                refine ⟨HZ5.out, m + 1, false, by omega, by go_num, rfl, fun h => ⟨(HB.out (by trivial)).1, fun m' hm' hlt hk9 hq9 => ?_⟩⟩
                                rcases Nat.lt_succ_iff_lt_or_eq.1 hlt with h2 | h2
                                · exact (HB.out (by trivial)).2 m' hm' h2 hk9 hq9
                                · subst h2
                                  intro e
                                  refine HN.out ?_
                                  rw [← e]
                                  simp only [HWS.out]
                              case measure => simp [intOf]; omega
                          · have hake : ((wa : Int) == (k : Int)) = false := beq_eq_false_iff_ne.mpr (by omega)
                            have HAK := Lib.hid hak
                            clear hak
                            go_wp2
                            refine wp_region_still_lit (by kernel_rfl) (by kernel_rfl) ?_
                            refine hid_out ?_
                            iterate 26 (refine hid_step (fun K hK => ?_); go_simp; refine hK _ ?_; clear hK K)
                            refine hid_nil ?_
                            have HZ5 := Lib.hid HZ4.out.drew
                            clear HZ4 y1 y2 z2
                            go_wp2
                            go_roundw
                            case rel =>
                              refine ⟨HZ5.out, m + 1, false, by omega, by go_num, rfl, fun h => ⟨(HB.out (by trivial)).1, fun m' hm' hlt hk9 hq9 => ?_⟩⟩
                              rcases Nat.lt_succ_iff_lt_or_eq.1 hlt with h2 | h2
                              · exact (HB.out (by trivial)).2 m' hm' h2 hk9 hq9
                              · subst h2
                                rw [HWS.out] at hk9
                                exact absurd hk9 HAK.out
                            case measure => simp [intOf]; omega
                      · have hmd2 : m = dc.length := by omega
                        have hbt : b = true := by
                          cases b with
                          | true => rfl
                          | false =>
                            exfalso
                            obtain ⟨hne, hall⟩ := hb rfl
                            have hby : by_ D1.l k q = some s[q] := by
                              unfold by_
                              rw [List.getD_eq_getElem?_getD, List.getElem?_eq_getElem hkl, Option.getD_some, HS.out.1]
                              unfold L
                              rw [List.getElem?_eq_getElem (by rw [Array.length_toList]; exact hqs)]
                              rfl
                            rcases HD.out.1 k q with e | ⟨wx, hwx, hwk, e⟩
                            · have hbt : by_ dl k q = some t[q] := by
                                unfold by_
                                rw [List.getD_eq_getElem?_getD, List.getElem?_eq_getElem hdl, Option.getD_some, HS.out.2.2.1]
                                unfold L
                                rw [List.getElem?_eq_getElem (by rw [Array.length_toList]; exact hqt)]
                                rfl
                              rw [hby] at e
                              exact hne (Option.some.inj (e.trans hbt))
                            · obtain ⟨m', hm', rfl⟩ := List.getElem_of_mem hwx
                              rw [hby] at e
                              have hq9 : q < dc[m'].2.size := by
                                have := (HFD.out.wat _ (List.getElem_mem hm')).2
                                have h3 := HZ.out
                                simp only at this
                                omega
                              refine hall m' hm' (by omega) hwk hq9 ?_
                              unfold L at e
                              rw [List.getElem?_eq_getElem (by rw [Array.length_toList]; exact hq9)] at e
                              exact Option.some.inj e
                        subst hbt
                        clear hb
                        subst hmd2
                        clear hmd
                        have HZ6 := Lib.hid hz2
                        clear hz2
                        go_wp2
                        go_roundw
                        case rel => exact ⟨HZ6.out, q + 1, by omega, by go_num⟩
                        case measure => simp [intOf]; omega
                  · have HZ7 := Lib.hid hz1
                    clear hz1
                    have hq2 : q = 16 := by omega
                    subst hq2
                    have hsz16 : ¬ (s.size : Int) < 16 := by have := HS.out.2.1; omega
                    go_wp2
                    go_roundw
                    case rel => exact ⟨HZ7.out, k + 1, by omega, by go_num⟩
                    case measure => simp [intOf]; omega
              · go_wp2
                go_ret
                exact ⟨rfl, hz0.bl⟩
      · have hbl := hst.bl
        have hfb := hst.fb
        have hap := hst.ap
        have hcc : dc.length ≤ 60 := by have := hfew.2; simp only at this; omega
        have hO : One w wr p F (.slice A9 dl.length cap9) (.slice A8 dc.length cap8) ⟨ds, dl, dc, left, off, full, ops⟩ w3.heap.size #[.int .i64 (ds : Int), .slice A9 dl.length cap9, .slice A8 dc.length cap8, .int .i64 (left : Int), .bool off, .bool full, .int .i64 (ops : Int)] (.slice none 0 0) 0 [] := ⟨hst.pd, hst.rd, hb, Sl.nil _ _ _, fun j e => by (cases e), hbl⟩
        have HFD := Lib.hid hfd
        have HCC := Lib.hid hcc
        clear hst hfd hfew hb x0 x1 x2 x3 x4 x5 x6 hcc hbl
        obtain ⟨i0, hi, hz0', hz1, hz2⟩ := info_parts info_rs
        have HI := Lib.hid (And.intro hi (And.intro hz0' (And.intro hz1 hz2)))
        clear hi hz0' hz1 hz2
        go_wp2
        go_loopw [13, 14] (fun a i wq => ∃ k : Nat, k ≤ 8 ∧ i = .int .i64 k ∧ One w wq p F (.slice A9 dl.length cap9) (.slice A8 dc.length cap8) ⟨ds, dl, dc, left, off, full, ops⟩ w3.heap.size #[.int .i64 (ds : Int), .slice A9 dl.length cap9, .slice A8 dc.length cap8, .int .i64 (left : Int), .bool off, .bool full, .int .i64 (ops : Int)] a k (dl.take k)) (fun _ i _ => 8 - (intOf i).toNat)
        case atStart => exact ⟨0, Nat.zero_le _, rfl, by simpa using hO⟩
        case round =>
          clear hO
          obtain ⟨k, hk8, rfl, hT⟩ := hrel
          obtain ⟨Aa, capa, rfl, _⟩ := hT.sa.form
          by_cases h8 : k < 8
          · have h8' : (k : Int) < 8 := by omega
            have hkl : k < dl.length := by rw [HL8.out]; exact h8
            have hdu := dur_in wr p F _ hT.pd k hkl
            simp only at hdu
            obtain ⟨du, hdu2⟩ : ∃ du, dl[k] = du := ⟨_, rfl⟩
            rw [hdu2] at hdu
            have hn1 : dl.take (k + 1) = dl.take k ++ [du] := by rw [List.take_succ_eq_append_getElem hkl, hdu2]
            obtain ⟨xs, hxs⟩ : ∃ xs, dl.take k = xs := ⟨_, rfl⟩
            rw [hxs] at hT hn1
            have HN := Lib.hid hn1
            have HT := Lib.hid hT
            clear hxs hn1 hdu2 hT
            go_wp2_with fail
            refine hdu.mono ?_
            rintro e w8 ⟨rfl, rfl⟩
            clear hdu
            go_wp2_with (at_builtin; go_loud (refine wpList_append_sl rfl _ _ 29 29 rfl 9 i0 _ 1 16 Try.underlying29 HI.out.1 HI.out.2.1 HI.out.2.2.1 HI.out.2.2.2 rfl _ _ _ rfl (HT.out.sa.alloc _) _ 1 [.string du] rfl (src_blk (Blk.new _ _ _) Try.underlying29 1 1 rfl (by simp [Value.oneCell'])) ?c1 ?c2 ?_))
            case c1 => unfold maxLen; omega
            case c2 => omega
            intro A1' cap1' w9 hs9 ho9 hw9
            have h9 := HT.out.next du hs9 ho9 (fun j hj => by simpa using hw9 j hj)
            rw [← HN.out] at h9
            clear hs9 ho9 hw9 HT HN
            go_wp2
            go_roundw
            case rel => exact ⟨k + 1, by omega, by go_num, h9⟩
            case measure => simp [intOf]; omega
          · have hk : k = 8 := by omega
            subst hk
            have htk : dl.take 8 = dl := List.take_of_length_le (by rw [HL8.out]; omega)
            rw [htk] at hT
            clear htk
            obtain ⟨tw0, tw1⟩ := wf64 ht
            have hcr := crash_calls wr p F _ hT.pd HFD.out (by have := HCC.out; simp only; omega) K9 c9 keep9 torn (fun W hW => Kd.C_below HK9.out (Only.below_mine hW hfb hT.bl.size hT.bl)) hkc9 tw0 tw1
            have hoon := crash_oon ⟨ds, dl, dc, left, off, full, ops⟩ keep9 torn (fun x hx => (HFD.out.wat x hx).2)
            have hf1 := crash_fine _ keep9 torn HFD.out
            have hl1 : (crash ⟨ds, dl, dc, left, off, full, ops⟩ keep9 torn).l.length = 8 := by rw [crash_len]; exact HL8.out
            have hsz1 : (crash ⟨ds, dl, dc, left, off, full, ops⟩ keep9 torn).size = 16 := HZ.out
            obtain ⟨D1, hD1⟩ : ∃ D1, crash ⟨ds, dl, dc, left, off, full, ops⟩ keep9 torn = D1 := ⟨_, rfl⟩
            rw [hD1] at hcr hoon hf1 hl1 hsz1
            have HD := Lib.hid (And.intro hoon (And.intro hf1 (And.intro hl1 hsz1)))
            have HT := Lib.hid hT
            clear hD1 hoon hf1 hl1 hsz1 hT
            go_wp2_with fail
            refine hcr.mono ?_
            rintro e w9 ⟨rfl, hp⟩
            have hsa := HT.out.sa.only hp.2 fun q e => (HT.out.na q e).1
            have hbx := hp.2.blk HT.out.bx hF
            have hcv := HT.out.rd.cach.only hp.2 fun q e => hap q (.inr e)
            have hbl : Below w.heap.size w w9 := Only.below_mine hp.2 hfb HT.out.bl.size HT.out.bl
            have hz0 : Zt w w9 p _ D1 w3.heap.size #[.int .i64 (ds : Int), .slice A9 dl.length cap9, .slice A8 dc.length cap8, .int .i64 (left : Int), .bool off, .bool full, .int .i64 (ops : Int)] (.slice Aa 8 capa) (.slice A8 dc.length cap8) dl dc := ⟨hp.1, hbx, hsa, hcv, hbl⟩
            obtain ⟨F1, hF1⟩ : ∃ F1, ext F wr w9 = F1 := ⟨_, rfl⟩
            rw [hF1] at hz0
            have HZ0 := Lib.hid hz0
            clear hcr hp HT hsa hbx hcv hbl hF1 hz0
            go_wp2
            go_loopw [15] (fun i wr => Zt w wr p F1 D1 w3.heap.size #[.int .i64 (ds : Int), .slice A9 dl.length cap9, .slice A8 dc.length cap8, .int .i64 (left : Int), .bool off, .bool full, .int .i64 (ops : Int)] (.slice Aa 8 capa) (.slice A8 dc.length cap8) dl dc ∧ ∃ k : Nat, k ≤ 8 ∧ i = .int .i64 k) (fun i _ => 8 - (intOf i).toNat)
            case atStart => exact ⟨HZ0.out, 0, Nat.zero_le _, rfl⟩
            case round =>
              clear HZ0
              obtain ⟨hz0, k, hk8, rfl⟩ := hrel
              by_cases hk : k < 8
              · have hk' : (k : Int) < 8 := by omega
                have hkl : k < D1.l.length := by rw [HD.out.2.2.1]; exact hk
                have hdl : k < dl.length := by rw [HL8.out]; exact hk
                have hdu := dur_in wr p _ D1 hz0.pd k hkl
                obtain ⟨s, hs⟩ : ∃ s, D1.l[k] = s := ⟨_, rfl⟩
                rw [hs] at hdu
                have hss : s.size = 16 := by rw [← hs, ← HD.out.2.2.2]; exact HD.out.2.1.each _ (List.getElem_mem hkl)
                have hts : dl[k].size = 16 := by have := HFD.out.each _ (List.getElem_mem hdl); rw [this]; exact HZ.out
                obtain ⟨t, ht9⟩ : ∃ t, dl[k] = t := ⟨_, rfl⟩
                rw [ht9] at hts
                have HS := Lib.hid (And.intro hs (And.intro hss (And.intro ht9 hts)))
                have HZ1 := Lib.hid hz0
                clear hs hss ht9 hts hz0
                go_wp2_with fail
                refine hdu.mono ?_
                rintro e w10 ⟨rfl, rfl⟩
                clear hdu
                go_wp2
                go_loopw [17] (fun i wr => Zt w wr p F1 D1 w3.heap.size #[.int .i64 (ds : Int), .slice A9 dl.length cap9, .slice A8 dc.length cap8, .int .i64 (left : Int), .bool off, .bool full, .int .i64 (ops : Int)] (.slice Aa 8 capa) (.slice A8 dc.length cap8) dl dc ∧ ∃ q : Nat, q ≤ 16 ∧ i = .int .i64 q) (fun i _ => 16 - (intOf i).toNat)
                case atStart => exact ⟨HZ1.out, 0, Nat.zero_le _, rfl⟩
                case round =>
                  clear HZ1
                  obtain ⟨hz1, q, hq16, rfl⟩ := hrel
                  by_cases hq : q < 16
                  · have hq' : (q : Int) < 16 := by omega
                    have hqs : q < s.size := by have := HS.out.2.1; omega
                    have hqt : q < t.size := by have := HS.out.2.2.2; omega
                    have hqs' : (q : Int) < (s.size : Int) := by omega
                    have hqt' : (q : Int) < (t.size : Int) := by omega
                    obtain ⟨ga, oa, hAa, hca⟩ : ∃ g off, Aa = some ⟨g, off, none⟩ ∧ wr.cell? ⟨g, off + k, none⟩ = some (.string t) := by
                      obtain ⟨g, off, c, cur, hv, _⟩ := hz1.sa.form_pos (by omega)
                      injection hv with e1 e2 e3
                      subst e1 e3
                      have hh := hz1.sa.cell rfl (j := k) (by omega)
                      exact ⟨g, off, rfl, by rw [hh, List.getElem?_map, List.getElem?_eq_getElem hdl, HS.out.2.2.1]; rfl⟩
                    subst hAa
                    have HZ2 := Lib.hid hz1
                    clear hz1
                    go_wp2
                    refine wp_region_still_lit (by kernel_rfl) (by kernel_rfl) ?_
                    repeat still_step
                    refine wpStill_nil ?_
                    have HZ3 := Lib.hid HZ2.out.drew
                    clear HZ2 hca
                    go_wp2
                    go_loopw [18, 19] (fun okv i wr => Zt w wr p F1 D1 w3.heap.size #[.int .i64 (ds : Int), .slice A9 dl.length cap9, .slice A8 dc.length cap8, .int .i64 (left : Int), .bool off, .bool full, .int .i64 (ops : Int)] (.slice (some ⟨ga, oa, none⟩) 8 capa) (.slice A8 dc.length cap8) dl dc ∧ ∃ (m : Nat) (b : Bool), m ≤ dc.length ∧ i = .int .i64 m ∧ okv = .bool b ∧ (b = false → s[q] ≠ t[q] ∧ ∀ m' (hm' : m' < dc.length), m' < m → dc[m'].1 = k → ∀ hq9 : q < dc[m'].2.size, dc[m'].2[q] ≠ s[q])) (fun _ i _ => dc.length - (intOf i).toNat)
                    case atStart =>
                      refine ⟨HZ3.out, 0, _, Nat.zero_le _, rfl, rfl, fun hb => ⟨fun e => ?_, fun m' _ h => absurd h (Nat.not_lt_zero _)⟩⟩
                      rw [e] at hb
                      simp at hb
                    case round =>
                      clear HZ3
                      obtain ⟨hz2, m, b, hm, rfl, rfl, hb⟩ := hrel
                      obtain ⟨z0, z1, z2, z3, z4, z5, z6⟩ := blk7 hz2.bx
                      clear z0 z1 z3 z4 z5 z6
                      by_cases hmd : m < dc.length
                      · have hmi : (m : Int) < (dc.length : Int) := by omega
                        have hm1 : m + 1 ≤ 9223372036854775807 := by have hM : maxLen ≤ 9223372036854775807 := by decide
                                                                     omega
                        obtain ⟨gw, ow, hAw, y1, y2⟩ := wr_at hz2.ca hmd
                        subst hAw
                        have hw2 : dc[m].2.size = 16 := by have := (HFD.out.wat _ (List.getElem_mem hmd)).2; rw [this]; exact HZ.out
                        obtain ⟨⟨wa, ws⟩, hws⟩ : ∃ x, dc[m] = x := ⟨_, rfl⟩
                        rw [hws] at y1 y2 hw2
                        simp only at y1 y2 hw2
                        have hqw : q < ws.size := by omega
                        have hqw' : (q : Int) < (ws.size : Int) := by omega
                        have HWS := Lib.hid hws
                        have HB := Lib.hid hb
                        have HZ4 := Lib.hid hz2
                        clear hws hw2 hb hz2
                        cases b with
                        | true =>
                          go_wp2
                          refine wp_region_still_lit (by kernel_rfl) (by kernel_rfl) ?_
                          refine hid_out ?_
                          iterate 26 (refine hid_step (fun K hK => ?_); go_simp; refine hK _ ?_; clear hK K)
                          refine hid_nil ?_
                          have HZ5 := Lib.hid HZ4.out.drew
                          clear HZ4 y1 y2 z2
                          go_wp2
                          go_roundw
                          case rel => exact ⟨HZ5.out, m + 1, true, by omega, by go_num, rfl, fun h => by cases h⟩
                          case measure => simp [intOf]; omega
                        | false =>
                          by_cases hak : wa = k
                          · have hake : ((wa : Int) == (k : Int)) = true := beq_iff_eq.mpr (by omega)
                            by_cases hcs : ws[q] = s[q]
                            · have hce : ((ws[q].toNat : Int) == (s[q].toNat : Int)) = true := by rw [hcs]; simp
                              clear hcs hak
                              go_wp2
                              refine wp_region_still_lit (by kernel_rfl) (by kernel_rfl) ?_
                              repeat still_step
                              refine wpStill_nil ?_
                              have HZ5 := Lib.hid HZ4.out.drew
                              clear HZ4 y1 y2 z2
                              go_wp2
                              go_roundw
                              case rel => exact ⟨HZ5.out, m + 1, true, by omega, by go_num, rfl, fun h => by cases h⟩
                              case measure => simp [intOf]; omega
                            · have hce : ((ws[q].toNat : Int) == (s[q].toNat : Int)) = false := by
                                refine beq_eq_false_iff_ne.mpr fun e => hcs ?_
                                exact UInt8.toNat_inj.1 (by omega)
                              have HN := Lib.hid hcs
                              clear hcs hak
                              go_wp2
                              refine wp_region_still_lit (by kernel_rfl) (by kernel_rfl) ?_
                              repeat still_step
                              refine wpStill_nil ?_
                              have HZ5 := Lib.hid HZ4.out.drew
                              clear HZ4 y1 y2 z2
                              go_wp2
                              go_roundw
                              case rel =>
                                refine ⟨HZ5.out, m + 1, false, by omega, by go_num, rfl, fun h => ⟨(HB.out (by trivial)).1, fun m' hm' hlt hk9 hq9 => ?_⟩⟩
                                rcases Nat.lt_succ_iff_lt_or_eq.1 hlt with h2 | h2
                                · exact (HB.out (by trivial)).2 m' hm' h2 hk9 hq9
                                · subst h2
                                  intro e
                                  refine HN.out ?_
                                  rw [← e]
                                  simp only [HWS.out]
                              case measure => simp [intOf]; omega
                          · have hake : ((wa : Int) == (k : Int)) = false := beq_eq_false_iff_ne.mpr (by omega)
                            have HAK := Lib.hid hak
                            clear hak
                            go_wp2
                            refine wp_region_still_lit (by kernel_rfl) (by kernel_rfl) ?_
                            refine hid_out ?_
                            iterate 26 (refine hid_step (fun K hK => ?_); go_simp; refine hK _ ?_; clear hK K)
                            refine hid_nil ?_
                            have HZ5 := Lib.hid HZ4.out.drew
                            clear HZ4 y1 y2 z2
                            go_wp2
                            go_roundw
                            case rel =>
                              refine ⟨HZ5.out, m + 1, false, by omega, by go_num, rfl, fun h => ⟨(HB.out (by trivial)).1, fun m' hm' hlt hk9 hq9 => ?_⟩⟩
                              rcases Nat.lt_succ_iff_lt_or_eq.1 hlt with h2 | h2
                              · exact (HB.out (by trivial)).2 m' hm' h2 hk9 hq9
                              · subst h2
                                rw [HWS.out] at hk9
                                exact absurd hk9 HAK.out
                            case measure => simp [intOf]; omega
                      · have hmd2 : m = dc.length := by omega
                        have hbt : b = true := by
                          cases b with
                          | true => rfl
                          | false =>
                            exfalso
                            obtain ⟨hne, hall⟩ := hb rfl
                            have hby : by_ D1.l k q = some s[q] := by
                              unfold by_
                              rw [List.getD_eq_getElem?_getD, List.getElem?_eq_getElem hkl, Option.getD_some, HS.out.1]
                              unfold L
                              rw [List.getElem?_eq_getElem (by rw [Array.length_toList]; exact hqs)]
                              rfl
                            rcases HD.out.1 k q with e | ⟨wx, hwx, hwk, e⟩
                            · have hbt : by_ dl k q = some t[q] := by
                                unfold by_
                                rw [List.getD_eq_getElem?_getD, List.getElem?_eq_getElem hdl, Option.getD_some, HS.out.2.2.1]
                                unfold L
                                rw [List.getElem?_eq_getElem (by rw [Array.length_toList]; exact hqt)]
                                rfl
                              rw [hby] at e
                              exact hne (Option.some.inj (e.trans hbt))
                            · obtain ⟨m', hm', rfl⟩ := List.getElem_of_mem hwx
                              rw [hby] at e
                              have hq9 : q < dc[m'].2.size := by
                                have := (HFD.out.wat _ (List.getElem_mem hm')).2
                                have h3 := HZ.out
                                simp only at this
                                omega
                              refine hall m' hm' (by omega) hwk hq9 ?_
                              unfold L at e
                              rw [List.getElem?_eq_getElem (by rw [Array.length_toList]; exact hq9)] at e
                              exact Option.some.inj e
                        subst hbt
                        clear hb
                        subst hmd2
                        clear hmd
                        have HZ6 := Lib.hid hz2
                        clear hz2
                        go_wp2
                        go_roundw
                        case rel => exact ⟨HZ6.out, q + 1, by omega, by go_num⟩
                        case measure => simp [intOf]; omega
                  · have HZ7 := Lib.hid hz1
                    clear hz1
                    have hq2 : q = 16 := by omega
                    subst hq2
                    have hsz16 : ¬ (s.size : Int) < 16 := by have := HS.out.2.1; omega
                    go_wp2
                    go_roundw
                    case rel => exact ⟨HZ7.out, k + 1, by omega, by go_num⟩
                    case measure => simp [intOf]; omega
              · go_wp2
                go_ret
                exact ⟨rfl, hz0.bl⟩
end Go.Proofs.Ytohflbmmglmhhaa.Dk
