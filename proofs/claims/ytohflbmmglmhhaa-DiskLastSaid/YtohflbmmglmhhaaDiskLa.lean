/- disk: DiskLast, walked. -/
import Derived.Test.YtohflbmmglmhhaaDiskZ
namespace Go.Proofs.Ytohflbmmglmhhaa.Dk
open Go.RowKit Go.Proofs.Ytohflbmmglmhhaa.Mem Go.Proofs.Ytohflbmmglmhhaa.X Go.Proofs.YtohflbmmglmhhaaW.PrintWords Go.Proofs.YtohflbmmglmhhaaW.PrintLast Go.Proofs.YtohflbmmglmhhaaW.PrintMore Go.Proofs.Ytohflbmmglmhhaa.Aid
set_option linter.unusedVariables false
set_option linter.unusedSimpArgs false
/-- two lists under way, apart from a disk and from one another -/
structure Two (w wq : World) (p : Nat) (F : Nat → Prop) (d : D) (a b : Value) (k : Nat) (xs ys : List ByteArray) : Prop where
  pd : PD wq p F d
  sa : Sl wq 9 1 a k (xs.map Value.string)
  sb : Sl wq 9 1 b k (ys.map Value.string)
  na : ∀ j, own a j → ¬ F j ∧ w.heap.size ≤ j
  nb : ∀ j, own b j → ¬ F j ∧ w.heap.size ≤ j
  ab : ∀ j, own a j → ¬ own b j
  bl : Below w.heap.size w wq
theorem Two.first {w wq w3 : World} {p : Nat} {F : Nat → Prop} {d : D} {a b : Value} {k : Nat} {xs ys : List ByteArray} (h : Two w wq p F d a b k xs ys) (x : ByteArray) {A' : Option Addr} {cap' : Nat}
    (h1 : Sl w3 9 1 (.slice A' (k + 1) cap') (k + 1) (xs.map Value.string ++ [.string x])) (h2 : Only (own a) (wq.alloc (.cells #[.string x] 9)) w3) (h3 : ∀ j, own (.slice A' (k + 1) cap') j → own a j ∨ j = wq.heap.size + 1) :
    PD w3 p F d ∧ Sl w3 9 1 (.slice A' (k + 1) cap') (k + 1) ((xs ++ [x]).map Value.string) ∧ Sl w3 9 1 b k (ys.map Value.string) ∧ (∀ j, own (.slice A' (k + 1) cap') j → ¬ F j ∧ w.heap.size ≤ j) ∧ (∀ j, own (.slice A' (k + 1) cap') j → ¬ own b j) ∧ Below w.heap.size w w3 ∧ wq.heap.size < w3.heap.size := by
  have hs := h.bl.size
  have hs2 := h2.size
  rw [World.size_alloc] at hs2
  refine ⟨(h.pd.alloc _).only h2 fun q f e => (h.na q e).1 f, by rw [List.map_append]; exact h1, (h.sb.alloc _).only h2 fun q e f => h.ab q f e, fun j hj => ?_, fun j hj e => ?_, Only.below_mine h2 (fun q e => (h.na q e).2) (by rw [World.size_alloc]; omega) (h.bl.alloc hs _), by omega⟩
  · rcases h3 j hj with e | e
    · exact h.na j e
    · exact ⟨fun f => by have := h.pd.lt j f; omega, by omega⟩
  · rcases h3 j hj with f | f
    · exact h.ab j f e
    · have := h.sb.lt e; omega
theorem Two.second {w wq w3 w4 : World} {p : Nat} {F : Nat → Prop} {d : D} {a b a' : Value} {k : Nat} {xs xs' ys : List ByteArray} (h : Two w wq p F d a b k xs ys) (y : ByteArray) {A' : Option Addr} {cap' : Nat}
    (g : PD w3 p F d ∧ Sl w3 9 1 a' (k + 1) (xs'.map Value.string) ∧ Sl w3 9 1 b k (ys.map Value.string) ∧ (∀ j, own a' j → ¬ F j ∧ w.heap.size ≤ j) ∧ (∀ j, own a' j → ¬ own b j) ∧ Below w.heap.size w w3 ∧ wq.heap.size < w3.heap.size)
    (h1 : Sl w4 9 1 (.slice A' (k + 1) cap') (k + 1) (ys.map Value.string ++ [.string y])) (h2 : Only (own b) (w3.alloc (.cells #[.string y] 9)) w4) (h3 : ∀ j, own (.slice A' (k + 1) cap') j → own b j ∨ j = w3.heap.size + 1) :
    Two w w4 p F d a' (.slice A' (k + 1) cap') (k + 1) xs' (ys ++ [y]) := by
  obtain ⟨g1, g2, g3, g4, g5, g6, g7⟩ := g
  have hs := g6.size
  refine ⟨(g1.alloc _).only h2 fun q f e => (h.nb q e).1 f, (g2.alloc _).only h2 fun q e f => g5 q e f, by rw [List.map_append]; exact h1, g4, fun j hj => ?_, fun j hj e => ?_, Only.below_mine h2 (fun q e => (h.nb q e).2) (by rw [World.size_alloc]; omega) (g6.alloc hs _)⟩
  · rcases h3 j hj with e | e
    · exact h.nb j e
    · exact ⟨fun f => by have := g1.lt j f; omega, by omega⟩
  · rcases h3 j e with f | f
    · exact g5 j hj f
    · have := g2.lt hj; omega
theorem Two.far {w wq : World} {p : Nat} {F : Nat → Prop} {d : D} {a b : Value} {k : Nat} {xs ys : List ByteArray} (h : Two w wq p F d a b k xs ys) {g j : Nat} {cs : Array Value} {t : TypeId} (hb : Blk wq g t cs) (ht : t ≠ 9) (hF : ¬ F g) (hg : w.heap.size ≤ g) (u : Value) : Two w (wq.setCell ⟨g, j, none⟩ u) p F d a b k xs ys :=
  ⟨h.pd.only (G := fun k => k = g) ((Only.refl (fun k => k = g) wq).setCell (p := ⟨g, j, none⟩) (.inl rfl) u) (fun k f e => hF (e ▸ f)), h.sa.far (p := ⟨g, j, none⟩) (h.sa.type_ne hb ht) u, h.sb.far (p := ⟨g, j, none⟩) (h.sb.type_ne hb ht) u, h.na, h.nb, h.ab, h.bl.setCell (p := ⟨g, j, none⟩) hg u⟩
theorem sl_at {w : World} {A : Option Addr} {n cap : Nat} {xs : List ByteArray} (h : Sl w 9 1 (.slice A n cap) n (xs.map Value.string)) {i : Nat} (hi : i < n) (hx : i < xs.length) : ∃ g off, A = some ⟨g, off, none⟩ ∧ w.cell? ⟨g, off + i, none⟩ = some (.string xs[i]) := by
  obtain ⟨g, off, c, cur, hv, _⟩ := h.form_pos (by omega)
  injection hv with e1 e2 e3
  subst e1 e3
  have := h.cell rfl (j := i) (by omega)
  exact ⟨g, off, rfl, by rw [this, List.getElem?_map, List.getElem?_eq_getElem hx]; rfl⟩
theorem bools_C {w : World} {t : TypeId} {A : Option Addr} {n cap : Nat} {bs : List Bool} (h : Sl w t 1 (.slice A n cap) n (bs.map Value.bool)) (hb : bs.length = n) (hn : n ≤ 9223372036854775807) : Kd.C Kd.bool w A bs.length bs := by
  refine ⟨rfl, by omega, fun h0 => ?_⟩
  obtain ⟨g, off, c, cur, hv, _⟩ := h.form_pos (by omega)
  injection hv with e1 e2 e3
  subst e1 e3
  refine ⟨⟨g, off, none⟩, rfl, fun j p hp => ⟨[.bool p], rfl, rfl, fun i u hu => ?_⟩⟩
  have hj := (List.getElem?_eq_some_iff.1 hp).1
  have hi : i = 0 := by have := (List.getElem?_eq_some_iff.1 hu).1; simp at this; omega
  subst hi
  have hu : Value.bool p = u := by simpa using hu
  subst hu
  have hc := h.cell rfl (j := j) (by omega)
  rw [List.getElem?_map, hp] at hc
  have e : (⟨g, off, none⟩ : Addr).add (j * Kd.bool.sz + 0) = ⟨g, off + j, none⟩ := by
    have : Kd.bool.sz = 1 := rfl
    rw [this]
    unfold Addr.add
    split <;> simp_all
  rw [e]
  exact hc
theorem info_bool : (Try.prog.info? 4).map (fun i => (i.zero, i.size, i.bytes)) = some (some (.bool false), 1, 1) := by kernel_rfl
theorem fill_set (n j : Nat) (all : Bool) (h : j < n) : (List.replicate j all ++ List.replicate (n - j) false).set j all = List.replicate (j + 1) all ++ List.replicate (n - (j + 1)) false := by
  rw [List.set_append_right _ _ (by simp), List.length_replicate, Nat.sub_self]
  obtain ⟨m, hm⟩ : ∃ m, n - j = m + 1 := ⟨n - j - 1, by omega⟩
  have hm2 : n - (j + 1) = m := by omega
  rw [hm, hm2, List.replicate_succ, List.set_cons_zero, List.replicate_succ', List.append_assoc]
  rfl
theorem last_facts (D0 : D) (all : Bool) (n : Nat) (hn : D0.cache.length = n) (h8 : D0.l.length = 8) (k : Nat) (hk : k < 8) :
    ∃ s, rd (crash D0 (List.replicate n all) (-1)) (k : Int) = (s, 0) ∧ (all = false → s = D0.l.getD k ⟨#[]⟩) ∧ (all = true → D0.off = false → s = (rd D0 (k : Int)).1) := by
  subst hn
  have hl : (crash D0 (List.replicate D0.cache.length all) (-1)).l = if all then lands D0.l D0.cache else D0.l := by
    show landsT D0.size (-1) D0.l (alive D0.cache (List.replicate D0.cache.length all)) = _
    rw [alive_all, landsT_none _ _ (by omega)]
    cases all <;> rfl
  have hlen : (crash D0 (List.replicate D0.cache.length all) (-1)).l.length = 8 := by rw [crash_len]; exact h8
  refine ⟨(crash D0 (List.replicate D0.cache.length all) (-1)).l.getD k ⟨#[]⟩, ?_, fun ha => ?_, fun ha ho => ?_⟩
  · unfold rd
    rw [if_neg (by rw [hlen]; omega), if_neg (by show ¬ false = true; simp), Int.toNat_natCast]
    rfl
  · subst ha
    rw [hl]
    rfl
  · subst ha
    rw [hl, if_pos rfl]
    unfold rd
    rw [if_neg (by rw [h8]; omega), if_neg (by rw [ho]; simp), Int.toNat_natCast, look_lands _ _ _ (by omega)]
set_option maxHeartbeats 8000000 in
set_option maxRecDepth 100000 in
theorem last_calls (w : World) (L0 : Option Addr) (c0 : Nat) (l : List TAct) (all : Bool) (hl : Kd.C kAct w L0 l.length l) (hv : ∀ a ∈ l, vAct a) (hll : l.length ≤ 9223372036854775807)  :
    Calls Try.prog 4 #[.slice L0 l.length c0, .bool all] w fun e w' => e = .returned (.bool true) ∧ Below w.heap.size w w' := by
  have HL := Lib.hid hl
  have HV := Lib.hid hv
  clear hl hv
  go_enter Try.func4, Try.ntmps4
  go_wp2_with fail
  refine (works_calls w).mono ?_
  rintro e w0 ⟨rfl, hb0⟩
  have hnew := new_calls w0 8 16 (by omega) (by omega) (by omega) (by omega)
  go_wp2_with fail
  refine hnew.mono ?_
  rintro e w2 ⟨p, rfl, hP, hb1⟩
  have hbw : Below w.heap.size w w2 := hb0.trans (hb1.mono hb0.size)
  have hrn := rnew_calls w2 8 16 (by omega) (by omega)
  clear hnew
  go_wp2_with fail
  refine hrn.mono ?_
  rintro e w3 ⟨lv, cv, rfl, hR, hb3, ho⟩
  obtain ⟨A, cap, hlv, _⟩ := hR.secs.form
  obtain ⟨A1, cap1, hcv, _⟩ := hR.cach.form
  have hst : St w w3 (mine w.heap.size w2) w3 p (mine w.heap.size w2) lv cv (new 8 16) (new 8 16) := by
    have hm : ∀ k, mine w0.heap.size w2 k → mine w.heap.size w2 k := fun k hk => ⟨by have := hk.1; have := hb0.size; omega, hk.2⟩
    refine ⟨(hP.mono hm fun k hk => hk.2).below hb3, hR, fun k hk f => ?_, fun k f => f.1, hbw.trans (hb3.mono hbw.size), Only.refl _ _, fun k f => .inl f⟩
    have := ho k hk
    have := f.2
    omega
  have hnl : (new 8 16).l.length = 8 := by show (List.replicate 8 _).length = 8; rw [List.length_replicate]
  rw [hnl] at hlv
  have hcl : (new 8 16).cache.length = 0 := rfl
  rw [hcl] at hcv
  subst hlv hcv
  rw [show dcells (new 8 16) (.slice A 8 cap) (.slice A1 0 cap1) = #[.int .i64 16, .slice A 8 cap, .slice A1 0 cap1, .int .i64 0, .bool false, .bool false, .int .i64 0] from rfl]
  have hs0 := (hst.alloc (.cells #[.int .i64 16, .slice A 8 cap, .slice A1 0 cap1, .int .i64 0, .bool false, .bool false, .int .i64 0] 32)).rebase
  have hB7 : w.heap.size ≤ w3.heap.size := hst.bl.size
  have hb0' := Blk.new w3 32 #[.int .i64 16, .slice A 8 cap, .slice A1 0 cap1, .int .i64 0, .bool false, .bool false, .int .i64 0]
  have hF0 : ¬ mine w.heap.size w2 w3.heap.size := fun e => by have := e.2; have := hb3.size; omega
  have hfn := new_fine 8 16 (by omega) (by omega)
  have HNL := Lib.hid hnl
  clear hrn hR hb3 ho hst hP hb1 hbw hcl hb0 hnl
  go_wp2
  go_loopw [8] (fun i wr => ∃ (k : Nat) (d : D) (F : Nat → Prop) (lv cv : Value), k ≤ l.length ∧ k ≤ 60 ∧ i = .int .i64 k ∧ St w wr F wr p F lv cv d d ∧ Fine d ∧ Few d k ∧ d.size = 16 ∧ d.l.length = 8 ∧ Blk wr w3.heap.size 32 (dcells d lv cv) ∧ ¬ F w3.heap.size) (fun i _ => l.length - (intOf i).toNat)
  case atStart => exact ⟨0, new 8 16, _, _, _, Nat.zero_le _, Nat.zero_le _, rfl, hs0, hfn, new_few 8 16, rfl, HNL.out, hb0', hF0⟩
  case round =>
    clear hs0 hb0' hF0 hfn
    obtain ⟨k, d, F, lv, cv, hk1, hk2, rfl, hst, hfd, hfew, hz, hl8, hb, hF⟩ := hrel
    obtain ⟨ds, dl, dc, left, off, full, ops⟩ := d
    obtain ⟨A9, cap9, rfl, _⟩ := hst.rd.secs.form
    obtain ⟨A8, cap8, rfl, _⟩ := hst.rd.cach.form
    simp only [dcells_mk] at hb
    simp only at hz hl8
    have HZ := Lib.hid hz
    have HL8 := Lib.hid hl8
    clear hz hl8
    obtain ⟨x0, x1, x2, x3, x4, x5, x6⟩ := blk7 hb
    by_cases hkl : k < l.length ∧ k < 60
    · obtain ⟨hkl, hk6⟩ := hkl
      have hki : (k : Int) < (l.length : Int) := by omega
      have hk6' : (k : Int) < 60 := by omega
      obtain ⟨ad, K, c, hA, hcl, hC, hcell⟩ := act_at HL.out hkl
      have hv := HV.out _ (List.getElem_mem hkl)
      subst hA
      obtain ⟨⟨kind, at_, nn, fb, short, is, keep⟩, ha⟩ : ∃ x, l[k] = x := ⟨_, rfl⟩
      rw [ha] at hcl hC hcell hv
      simp only at hcl hC hcell
      clear ha
      have tr : ∀ W, Below w.heap.size w W → ∀ j u, #[Value.int .i64 kind, .int .i64 at_, .int .i64 nn, .int .u8 fb, .bool short, .bool is, .slice K keep.length c].toList[j]? = some u → W.cell? (ad.add (k * 7 + j)) = some u := fun W hW j u hu => (hW.cell (p := ad.add (k * 7 + j)) (World.block_lt_of_cell? w _ (hcell j u hu))).trans (hcell j u hu)
      have hdoes := fun W (hst : St w W F W p F (.slice A9 dl.length cap9) (.slice A8 dc.length cap8) ⟨ds, dl, dc, left, off, full, ops⟩ ⟨ds, dl, dc, left, off, full, ops⟩) => does_calls w W p F _ _ _ hst hfd k hfew (by omega) (by have := HZ.out; show 16 ≤ ds; omega) kind at_ nn fb short is K c keep hC hcl hv.2.2.1
      rw [dcells_mk] at hdoes
      clear hcell x0 x1 x2 x3 x4 x5 x6
      go_wp2
      have hbl := hst.bl
      refine start_ (n := 13) (S := fun w' => Blk w' w3.heap.size 32 #[.int .i64 (ds : Int), .slice A9 dl.length cap9, .slice A8 dc.length cap8, .int .i64 (left : Int), .bool off, .bool full, .int .i64 (ops : Int)] ∧ Below w.heap.size w w') (ds := []) #[false, false, false, false, false, false, false, false, false, false, false, false, false] (by kernel_rfl) rfl rfl ⟨hb.drew, hbl.drew⟩ (fun hHeld => ?_)
      have gst := hst.drew
      clear hst hb hbl
      generalize wr.drew = w4 at hHeld gst ⊢
      have gst := gst.rebase
      refine pure_ (i := 0) (N := some 46) (v := ?_) (a' := ?_) #[true, false, false, false, false, false, false, false, false, false, false, false, false] rfl rfl (by kernel_rfl) (fun _ _ _ h => h) (Or.inl ⟨by rfl, ?_⟩) ?_ ?_
      rotate_left
      · intro w'
        go_simp
        with_reducible rfl
      rotate_left
      · simp only [Act.put, List.setIfInBounds_toArray, List.set_cons_zero, List.set_cons_succ]
        rfl
      refine take_ (i := 1) (N := some 47) (v := ?_) (a' := ?_) #[true, true, false, false, false, false, false, false, false, false, false, false, false] rfl rfl (by kernel_rfl) (fun _ _ _ h => h) (Or.inl ⟨by rfl, ?_⟩) hHeld ?_ ?_
      rotate_left
      · rintro w' ⟨hS, hB⟩
        obtain ⟨x0, x1, x2, x3, x4, x5, x6⟩ := blk7 hS
        go_simp
        with_reducible rfl
      rotate_left
      · simp only [Act.put, List.setIfInBounds_toArray, List.set_cons_zero, List.set_cons_succ]
        rfl
      refine pure_ (i := 2) (N := some 48) (v := ?_) (a' := ?_) #[true, true, true, false, false, false, false, false, false, false, false, false, false] rfl rfl (by kernel_rfl) (fun _ _ _ h => h) (Or.inl ⟨by rfl, ?_⟩) ?_ ?_
      rotate_left
      · intro w'
        go_simp
        with_reducible rfl
      rotate_left
      · simp only [Act.put, List.setIfInBounds_toArray, List.set_cons_zero, List.set_cons_succ]
        rfl
      refine pure_ (i := 3) (N := some 49) (v := ?_) (a' := ?_) #[true, true, true, true, false, false, false, false, false, false, false, false, false] rfl rfl (by kernel_rfl) (fun _ _ _ h => h) (Or.inl ⟨by rfl, ?_⟩) ?_ ?_
      rotate_left
      · intro w'
        go_simp
        with_reducible rfl
      rotate_left
      · simp only [Act.put, List.setIfInBounds_toArray, List.set_cons_zero, List.set_cons_succ]
        rfl
      refine pure_ (i := 4) (N := some 50) (v := ?_) (a' := ?_) #[true, true, true, true, true, false, false, false, false, false, false, false, false] rfl rfl (by kernel_rfl) (fun _ _ _ h => h) (Or.inl ⟨by rfl, ?_⟩) ?_ ?_
      rotate_left
      · intro w'
        go_simp
        with_reducible rfl
      rotate_left
      · simp only [Act.put, List.setIfInBounds_toArray, List.set_cons_zero, List.set_cons_succ]
        rfl
      refine take_ (i := 5) (N := some 51) (v := ?_) (a' := ?_) #[true, true, true, true, true, true, false, false, false, false, false, false, false] rfl rfl (by kernel_rfl) (fun _ _ _ h => h) (Or.inl ⟨by rfl, ?_⟩) hHeld ?_ ?_
      rotate_left
      · rintro w' ⟨hS, hB⟩
        have y0 : w'.cell? (ad.add (k * 7)) = some (.int .i64 kind) := tr w' hB 0 _ rfl
        have y1 : w'.cell? ⟨(ad.add (k * 7)).block, (ad.add (k * 7)).off + 1, none⟩ = some (.int .i64 at_) := (congrArg w'.cell? (add_off ad (k * 7) 0)).symm.trans (tr w' hB 1 _ rfl)
        have y2 : w'.cell? ⟨(ad.add (k * 7)).block, (ad.add (k * 7)).off + 2, none⟩ = some (.int .i64 nn) := (congrArg w'.cell? (add_off ad (k * 7) 1)).symm.trans (tr w' hB 2 _ rfl)
        have y3 : w'.cell? ⟨(ad.add (k * 7)).block, (ad.add (k * 7)).off + 3, none⟩ = some (.int .u8 fb) := (congrArg w'.cell? (add_off ad (k * 7) 2)).symm.trans (tr w' hB 3 _ rfl)
        have y4 : w'.cell? ⟨(ad.add (k * 7)).block, (ad.add (k * 7)).off + 4, none⟩ = some (.bool short) := (congrArg w'.cell? (add_off ad (k * 7) 3)).symm.trans (tr w' hB 4 _ rfl)
        have y5 : w'.cell? ⟨(ad.add (k * 7)).block, (ad.add (k * 7)).off + 5, none⟩ = some (.bool is) := (congrArg w'.cell? (add_off ad (k * 7) 4)).symm.trans (tr w' hB 5 _ rfl)
        have y6 : w'.cell? ⟨(ad.add (k * 7)).block, (ad.add (k * 7)).off + 6, none⟩ = some (.slice K keep.length c) := (congrArg w'.cell? (add_off ad (k * 7) 5)).symm.trans (tr w' hB 6 _ rfl)
        go_simp
        with_reducible rfl
      rotate_left
      · simp only [Act.put, List.setIfInBounds_toArray, List.set_cons_zero, List.set_cons_succ]
        rfl
      refine join_ (σ := D × (Nat → Prop) × Value × Value × Nat) 2 #[true, true, true, true, true, true, true, true, true, true, true, false, false] (fun s => [(52, .tuple #[.agg (dcells s.1 s.2.2.1 s.2.2.2.1), .bool true]), (45, .tuple #[.agg (dcells s.1 s.2.2.1 s.2.2.2.1), .bool true]), (53, .agg (dcells s.1 s.2.2.1 s.2.2.2.1)), (54, .bool true), (9, .pointer (some ⟨s.2.2.2.2, 0, none⟩))])
        (fun s w' => St w w4 F w' p s.2.1 s.2.2.1 s.2.2.2.1 s.1 s.1 ∧ (∃ x, s.1 = doesD ⟨ds, dl, dc, left, off, full, ops⟩ kind at_ nn x is keep) ∧ Blk w' s.2.2.2.2 32 zero7 ∧ ¬ s.2.1 s.2.2.2.2 ∧ Blk w' w3.heap.size 32 #[.int .i64 (ds : Int), .slice A9 dl.length cap9, .slice A8 dc.length cap8, .int .i64 (left : Int), .bool off, .bool full, .int .i64 (ops : Int)] ∧ s.2.2.2.2 ≠ w3.heap.size ∧ w4.heap.size ≤ s.2.2.2.2) ?_ ?_
      · rintro ⟨d', F', lv', cv', b9⟩ w6 ⟨h1, hd', h2, h3, h4, h5, h6⟩
        simp only at h1 h2 h3 h5 h6 hd'
        have h7 : w3.heap.size < w4.heap.size := hHeld.1.lt
        have h8 : ¬ F' w3.heap.size := fun e => (h1.fx _ e).elim hF (fun e => by omega)
        have hw4 : w.heap.size ≤ w4.heap.size := hHeld.2.size
        have hfd' : Fine d' := by
          obtain ⟨x, rfl⟩ := hd'
          exact doesD_fine _ _ _ _ _ _ _ (wf64 hv.2.2.1).2 hfd
        have hfew' : Few d' (k + 1) := by
          obtain ⟨x, rfl⟩ := hd'
          exact doesD_few _ _ _ _ _ _ _ k hfew
        have hz' : d'.size = 16 := by
          obtain ⟨x, rfl⟩ := hd'
          rw [(doesD_shape _ _ _ _ _ _ _).1]
          exact HZ.out
        have hl' : d'.l.length = 8 := by
          obtain ⟨x, rfl⟩ := hd'
          rw [(doesD_shape _ _ _ _ _ _ _).2]
          exact HL8.out
        have HZ2 := Lib.hid (And.intro hz' hl')
        clear hz' hl'
        clear hd' hHeld gst hfd hfew hv
        obtain ⟨ds', dl', dc', left', off', full', ops'⟩ := d'
        obtain ⟨A7, cap7, rfl, _⟩ := h1.rd.secs.form
        obtain ⟨A6, cap6, rfl, _⟩ := h1.rd.cach.form
        simp only [dcells_mk, putAll, Act.put, List.setIfInBounds_toArray, List.set_cons_zero, List.set_cons_succ]
        refine one_ (i := 11) (N := none) #[true, true, true, true, true, true, true, true, true, true, true, true, false] rfl rfl (by kernel_rfl) (by decide) (fun K hK => ?_)
        rw [if_pos (by rfl)]
        refine wp_store_mid 32 (.tmp 9) (.tmp 53) rfl b9 0 #[.int .i64 (ds' : Int), .slice A7 dl'.length cap7, .slice A6 dc'.length cap6, .int .i64 (left' : Int), .bool off', .bool full', .int .i64 (ops' : Int)] rfl rfl (there_blk h2 (n := 7) (by show 7 ≤ 7; omega)) info_d (by simp [Value.oneCell']) ?_
        have m9 := blk_whole h2 (cs := #[.int .i64 (ds' : Int), .slice A7 dl'.length cap7, .slice A6 dc'.length cap6, .int .i64 (left' : Int), .bool off', .bool full', .int .i64 (ops' : Int)]) rfl
        have m7 := blk_whole_far h4 (g' := b9) (fun e => h5 e.symm) [.int .i64 (ds' : Int), .slice A7 dl'.length cap7, .slice A6 dc'.length cap6, .int .i64 (left' : Int), .bool off', .bool full', .int .i64 (ops' : Int)] 0
        have ms := h1.cellsF h2 [.int .i64 (ds' : Int), .slice A7 dl'.length cap7, .slice A6 dc'.length cap6, .int .i64 (left' : Int), .bool off', .bool full', .int .i64 (ops' : Int)] 0 h3 hw4 h6
        refine hK.out _ _ ⟨m7, ms.bl⟩ (fun _ => ?_)
        clear hK K h1 h2 h4
        refine pure_ (i := 12) (N := some 10) (v := ?_) (a' := ?_) #[true, true, true, true, true, true, true, true, true, true, true, true, true] rfl rfl (by kernel_rfl) (fun _ _ _ h => h) (Or.inl ⟨by rfl, ?_⟩) ?_ ?_
        rotate_left
        · intro w'
          go_simp
          with_reducible rfl
        rotate_left
        · simp only [Act.put, List.setIfInBounds_toArray, List.set_cons_zero, List.set_cons_succ]
          rfl
        refine done_ (by kernel_rfl) ?_
        generalize w6.setCells b9 0 [.int .i64 (ds' : Int), .slice A7 dl'.length cap7, .slice A6 dc'.length cap6, .int .i64 (left' : Int), .bool off', .bool full', .int .i64 (ops' : Int)] = w7 at m9 m7 ms ⊢
        obtain ⟨x0, x1, x2, x3, x4, x5, x6⟩ := blk7 m9
        obtain ⟨y0, y1, y2, y3, y4, y5, y6⟩ := blk7 m7
        have f0 := m7.frozen 0
        have f1 := m7.frozen 1
        have f2 := m7.frozen 2
        have f3 := m7.frozen 3
        have f4 := m7.frozen 4
        have f5 := m7.frozen 5
        have f6 := m7.frozen 6
        have q7 := blk_whole m7 (cs := #[.int .i64 (ds' : Int), .slice A7 dl'.length cap7, .slice A6 dc'.length cap6, .int .i64 (left' : Int), .bool off', .bool full', .int .i64 (ops' : Int)]) rfl
        have qs := ms.cellsO m7 [.int .i64 (ds' : Int), .slice A7 dl'.length cap7, .slice A6 dc'.length cap6, .int .i64 (left' : Int), .bool off', .bool full', .int .i64 (ops' : Int)] 0 h8 hB7
        have HQ := Lib.hid (And.intro q7 qs)
        clear q7 qs m9 m7 ms h3 h5 h6 h7
        go_wp2
        go_roundw
        case rel => exact ⟨k + 1, _, _, _, _, by omega, by omega, by go_num, HQ.out.2, hfd', hfew', HZ2.out.1, HZ2.out.2, HQ.out.1, h8⟩
        case measure => simp [intOf]; omega
      · intro hcont
        refine two_ (i := 6) (j := 10) (Ni := some 52) (Nj := some 9) #[true, true, true, true, true, true, true, false, false, false, false, false, false] #[true, true, true, true, true, true, false, false, false, false, true, false, false] rfl rfl rfl rfl (by kernel_rfl) (by decide) (by decide) (fun K hK => ?_) (fun K hK => ?_)
        · go_simp
          go_wp2_with (go_at_call 9; refine (hdoes _ gst).mono ?_; rintro e w5 ⟨d', F', lv', cv', rfl, hs5, hx⟩)
          have m7 := hs5.on.blk hHeld.1 hF
          refine hK.out _ _ ⟨m7, hs5.bl⟩ (fun hHeld => ?_)
          clear hK K
          refine pure_ (i := 7) (N := some 45) (v := ?_) (a' := ?_) #[true, true, true, true, true, true, true, true, false, false, false, false, false] rfl rfl (by kernel_rfl) (fun _ _ _ h => h) (Or.inl ⟨by rfl, ?_⟩) ?_ ?_
          rotate_left
          · intro w'
            go_simp
            with_reducible rfl
          rotate_left
          · simp only [Act.put, List.setIfInBounds_toArray, List.set_cons_zero, List.set_cons_succ]
            rfl
          refine pure_ (i := 8) (N := some 53) (v := ?_) (a' := ?_) #[true, true, true, true, true, true, true, true, true, false, false, false, false] rfl rfl (by kernel_rfl) (fun _ _ _ h => h) (Or.inl ⟨by rfl, ?_⟩) ?_ ?_
          rotate_left
          · intro w'
            go_simp
            with_reducible rfl
          rotate_left
          · simp only [Act.put, List.setIfInBounds_toArray, List.set_cons_zero, List.set_cons_succ]
            rfl
          refine pure_ (i := 9) (N := some 54) (v := ?_) (a' := ?_) #[true, true, true, true, true, true, true, true, true, true, false, false, false] rfl rfl (by kernel_rfl) (fun _ _ _ h => h) (Or.inl ⟨by rfl, ?_⟩) ?_ ?_
          rotate_left
          · intro w'
            go_simp
            with_reducible rfl
          rotate_left
          · simp only [Act.put, List.setIfInBounds_toArray, List.set_cons_zero, List.set_cons_succ]
            rfl
          refine one_ (i := 10) (N := some 9) #[true, true, true, true, true, true, true, true, true, true, true, false, false] rfl rfl (by kernel_rfl) (by decide) (fun K hK => ?_)
          go_simp
          have n7 := m7.alloc (.cells zero7 32)
          have nst := hs5.alloc (.cells zero7 32)
          have n9 := Blk.new w5 32 zero7
          refine hK.out _ _ ⟨n7, nst.bl⟩ (fun _ => ?_)
          clear hK K
          have h7 : w3.heap.size < w5.heap.size := m7.lt
          refine norm_ ?_ (hcont ⟨d', F', lv', cv', w5.heap.size⟩ _ ⟨nst, hx, n9, fun e => by have := hs5.pd.lt _ e; simp only at this; omega, n7, by show w5.heap.size ≠ w3.heap.size; omega, hs5.on.size⟩)
          simp only [putAll, Act.put, List.setIfInBounds_toArray, List.set_cons_zero, List.set_cons_succ]
          try rfl
        · go_simp
          have n7 := hHeld.1.alloc (.cells zero7 32)
          have nst := gst.alloc (.cells zero7 32)
          have n9 := Blk.new w4 32 zero7
          refine hK.out _ _ ⟨n7, nst.bl⟩ (fun hHeld2 => ?_)
          clear hK K
          refine one_ (i := 6) (N := some 52) #[true, true, true, true, true, true, true, false, false, false, true, false, false] rfl rfl (by kernel_rfl) (by decide) (fun K hK => ?_)
          go_simp
          have h7 : w3.heap.size < w4.heap.size := hHeld.1.lt
          have h9F : ¬ F w4.heap.size := fun e => by have := gst.pd.lt _ e; omega
          go_wp2_with (go_at_call 9; refine (hdoes _ nst.rebase).mono ?_; rintro e w5 ⟨d', F', lv', cv', rfl, hs5, hx⟩)
          have m7 := hs5.on.blk n7 hF
          have m9 := hs5.on.blk n9 h9F
          refine hK.out _ _ ⟨m7, hs5.bl⟩ (fun _ => ?_)
          clear hK K
          refine pure_ (i := 7) (N := some 45) (v := ?_) (a' := ?_) #[true, true, true, true, true, true, true, true, false, false, true, false, false] rfl rfl (by kernel_rfl) (fun _ _ _ h => h) (Or.inl ⟨by rfl, ?_⟩) ?_ ?_
          rotate_left
          · intro w'
            go_simp
            with_reducible rfl
          rotate_left
          · simp only [Act.put, List.setIfInBounds_toArray, List.set_cons_zero, List.set_cons_succ]
            rfl
          refine pure_ (i := 8) (N := some 53) (v := ?_) (a' := ?_) #[true, true, true, true, true, true, true, true, true, false, true, false, false] rfl rfl (by kernel_rfl) (fun _ _ _ h => h) (Or.inl ⟨by rfl, ?_⟩) ?_ ?_
          rotate_left
          · intro w'
            go_simp
            with_reducible rfl
          rotate_left
          · simp only [Act.put, List.setIfInBounds_toArray, List.set_cons_zero, List.set_cons_succ]
            rfl
          refine pure_ (i := 9) (N := some 54) (v := ?_) (a' := ?_) #[true, true, true, true, true, true, true, true, true, true, true, false, false] rfl rfl (by kernel_rfl) (fun _ _ _ h => h) (Or.inl ⟨by rfl, ?_⟩) ?_ ?_
          rotate_left
          · intro w'
            go_simp
            with_reducible rfl
          rotate_left
          · simp only [Act.put, List.setIfInBounds_toArray, List.set_cons_zero, List.set_cons_succ]
            rfl
          refine norm_ ?_ (hcont ⟨d', F', lv', cv', w4.heap.size⟩ _ ⟨?_, hx, m9, fun e => ?_, m7, by show w4.heap.size ≠ w3.heap.size; omega, Nat.le_refl _⟩)
          · simp only [putAll, Act.put, List.setIfInBounds_toArray, List.set_cons_zero, List.set_cons_succ]
            try rfl
          · exact ⟨hs5.pd, hs5.rd, hs5.ap, hs5.fb, hs5.bl, (((Only.refl F w4).alloc _).trans hs5.on), fun q f => (hs5.fx q f).imp id (fun e => by rw [World.size_alloc] at e; omega)⟩
          · rcases hs5.fx _ e with e | e
            · exact h9F e
            · have e2 : w4.heap.size + 1 ≤ w4.heap.size := by rw [World.size_alloc] at e; exact e
              omega
    · have ex : ((l.length : Int) ≤ (k : Int)) ∨ ((k : Int) < (l.length : Int) ∧ (60 : Int) ≤ (k : Int)) := by omega
      clear hkl
      rcases ex with h1 | ⟨h1, h2⟩
      · have hP := hst.pd
        have hbl := hst.bl
        have hfb := hst.fb
        have hD0 : (cut ⟨ds, dl, dc, left, off, full, ops⟩ 0).l.length = 8 := HL8.out
        have hcc : dc.length ≤ 60 := by have := hfew.2; simp only at this; omega
        have hcut := cut_calls wr p F _ hP 0 (by omega)
        have hfc := cut_fine _ 0 (by omega) hfd
        have hcl0 : (cut ⟨ds, dl, dc, left, off, full, ops⟩ 0).cache.length ≤ 60 := hcc
        obtain ⟨D0, hDD⟩ : ∃ D0, cut ⟨ds, dl, dc, left, off, full, ops⟩ 0 = D0 := ⟨_, rfl⟩
        rw [hDD] at hD0 hcut hfc hcl0
        clear hst hfd hfew hDD hb hF x0 x1 x2 x3 x4 x5 x6
        have H8 := Lib.hid (And.intro hD0 (And.intro hfc hcl0))
        clear hD0 hfc hcl0 hcc
        go_wp2_with fail
        refine hcut.mono ?_
        rintro e w5 ⟨rfl, hP5, hO5, hz5⟩
        have hb5 : Below w.heap.size w w5 := Only.below_mine hO5 hfb hbl.size hbl
        have hoff := off_calls w5 p F D0 hP5
        clear hcut hO5 hz5 hP hbl
        go_wp2_with fail
        refine hoff.mono ?_
        rintro e w6 ⟨rfl, rfl⟩
        have hT : Two w w6 p F D0 (.slice none 0 0) (.slice none 0 0) 0 [] [] := ⟨hP5, Sl.nil _ _ _, Sl.nil _ _ _, fun j e => by (cases e), fun j e => by (cases e), fun j e => by (cases e), hb5⟩
        clear hoff hP5 hb5
        obtain ⟨i0, hi, hz0', hz1, hz2⟩ := info_parts info_rs
        have HI := Lib.hid (And.intro hi (And.intro hz0' (And.intro hz1 hz2)))
        clear hi hz0' hz1 hz2
        go_wp2
        go_loopw [11, 12, 14] (fun a b i wq => ∃ k : Nat, k ≤ 8 ∧ i = .int .i64 k ∧ Two w wq p F D0 a b k (D0.l.take k) ((List.range k).map fun j : Nat => (rd D0 (j : Int)).1)) (fun _ _ i _ => 8 - (intOf i).toNat)
        case atStart => exact ⟨0, Nat.zero_le _, rfl, by simpa using hT⟩
        case round =>
          clear hT
          obtain ⟨k, hk8, rfl, hT⟩ := hrel
          obtain ⟨Aa, capa, rfl, _⟩ := hT.sa.form
          obtain ⟨Ab, capb, rfl, _⟩ := hT.sb.form
          by_cases h8 : k < 8
          · have h8' : (k : Int) < 8 := by omega
            have hkl : k < D0.l.length := by rw [H8.out.1]; exact h8
            have hrd := read_calls wr p F D0 hT.pd (k : Int) (by have := H8.out.2.2; omega)
            obtain ⟨⟨rs, rc⟩, hrs⟩ : ∃ x, rd D0 (k : Int) = x := ⟨_, rfl⟩
            rw [hrs] at hrd
            have hdu := dur_in wr p F D0 hT.pd k hkl
            obtain ⟨du, hdu2⟩ : ∃ du, D0.l[k] = du := ⟨_, rfl⟩
            rw [hdu2] at hdu
            have hn1 : D0.l.take (k + 1) = D0.l.take k ++ [du] := by rw [List.take_succ_eq_append_getElem hkl, hdu2]
            have hn2 : (List.range (k + 1)).map (fun j : Nat => (rd D0 (j : Int)).1) = (List.range k).map (fun j : Nat => (rd D0 (j : Int)).1) ++ [rs] := by rw [List.range_succ, List.map_append, List.map_singleton, hrs]
            obtain ⟨xs, hxs⟩ : ∃ xs, D0.l.take k = xs := ⟨_, rfl⟩
            obtain ⟨ys, hys⟩ : ∃ ys, (List.range k).map (fun j : Nat => (rd D0 (j : Int)).1) = ys := ⟨_, rfl⟩
            rw [hxs] at hT hn1
            rw [hys] at hT hn2
            clear hxs hys
            have HN := Lib.hid (And.intro hn1 hn2)
            have HT := Lib.hid hT
            have hsa := hT.sa
            clear hn1 hn2 hrs hdu2 hT
            go_wp2_with fail
            refine hrd.mono ?_
            rintro e w7 ⟨rfl, rfl⟩
            go_wp2_with fail
            refine hdu.mono ?_
            rintro e w8 ⟨rfl, rfl⟩
            clear hrd hdu
            go_wp2_with (at_builtin; go_loud (refine wpList_append_sl rfl _ _ 29 29 rfl 9 i0 _ 1 16 Try.underlying29 HI.out.1 HI.out.2.1 HI.out.2.2.1 HI.out.2.2.2 rfl _ _ _ rfl (HT.out.sa.alloc _) _ 1 [.string du] rfl (src_blk (Blk.new _ _ _) Try.underlying29 1 1 rfl (by simp [Value.oneCell'])) ?c1 ?c2 ?_))
            case c1 => unfold maxLen; omega
            case c2 => omega
            intro A1' cap1' w9 hs9 ho9 hw9
            have h9 := HT.out.first du hs9 ho9 (fun j hj => by simpa using hw9 j hj)
            have H9 := Lib.hid h9
            clear hs9 ho9 hw9 h9 hsa
            go_wp2_with (at_builtin; go_loud (refine wpList_append_sl rfl _ _ 29 29 rfl 9 i0 _ 1 16 Try.underlying29 HI.out.1 HI.out.2.1 HI.out.2.2.1 HI.out.2.2.2 rfl _ _ _ rfl (H9.out.2.2.1.alloc _) _ 1 [.string rs] rfl (src_blk (Blk.new _ _ _) Try.underlying29 1 1 rfl (by simp [Value.oneCell'])) ?d1 ?d2 ?_))
            case d1 => unfold maxLen; omega
            case d2 => omega
            intro A2' cap2' w10 hs10 ho10 hw10
            have h10 := HT.out.second rs H9.out hs10 ho10 (fun j hj => by simpa using hw10 j hj)
            rw [← HN.out.1, ← HN.out.2] at h10
            clear hs10 ho10 hw10 H9 HT HN
            go_wp2
            go_roundw
            case rel => exact ⟨k + 1, by omega, by go_num, h10⟩
            case measure => simp [intOf]; omega
          · have hk : k = 8 := by omega
            subst hk
            have hcch := cached_calls wr p F D0 hT.pd
            obtain ⟨ib, hbi, hb0, hb1, hb2⟩ := info_parts info_bool
            obtain ⟨n, hn⟩ : ∃ n, D0.cache.length = n := ⟨_, rfl⟩
            have hn60 : n ≤ 60 := by have := H8.out.2.2; omega
            rw [hn] at hcch
            have hmk := run_make_sl (P := Try.prog) 23 4 ib (.bool false) Try.underlying23 hbi hb0 .i64 .i64 n (by rw [hb2]; omega) (by omega) wr
            have hm1 : (madeCells (Value.bool false).cells (n * ib.size)) = madeCells #[Value.bool false] n := by rw [hb1, Nat.mul_one]; rfl
            rw [hm1] at hmk
            have hk0 : Sl (wr.alloc (.cells (madeCells #[Value.bool false] n) 4)) 4 1 (.slice (some ⟨wr.heap.size, 0, none⟩) n n) n ((List.replicate n false).map Value.bool) := by
              have h1 := Sl.of_blk (e := 4) (size := 1) (n := n) (Blk.new wr 4 (madeCells #[Value.bool false] n)) (Nat.le_refl n) (by unfold maxLen; omega) (by rw [madeCells_one]; simp)
              rw [madeCells_one] at h1 ⊢
              have e : List.take (n * 1) (Array.replicate n (Value.bool false)).toList = (List.replicate n false).map Value.bool := by simp
              rw [e] at h1
              exact h1
            have hBk := Blk.new wr 4 (madeCells #[Value.bool false] n)
            have hTa : Two w (wr.alloc (.cells (madeCells #[Value.bool false] n) 4)) p F D0 _ _ 8 _ _ := ⟨hT.pd.alloc _, hT.sa.alloc _, hT.sb.alloc _, hT.na, hT.nb, hT.ab, hT.bl.alloc hT.bl.size _⟩
            have hBF : ¬ F wr.heap.size := fun e => by have := hT.pd.lt _ e; omega
            have hBw : w.heap.size ≤ wr.heap.size := hT.bl.size
            have HNN := Lib.hid hn
            clear hn hbi hb0 hb1 hb2 hm1
            go_wp2_with fail
            refine hcch.mono ?_
            rintro e w7 ⟨rfl, rfl⟩
            clear hcch hT
            obtain ⟨B, hB⟩ : ∃ B, w7.heap.size = B := ⟨_, rfl⟩
            rw [hB] at hmk hk0 hBF hBw hBk
            clear hB
            go_wp2
            go_loopw [85] (fun i wr => ∃ j : Nat, ∃ cs, j ≤ n ∧ i = .int .i64 j ∧ Two w wr p F D0 (.slice Aa 8 capa) (.slice Ab 8 capb) 8 (D0.l.take 8) ((List.range 8).map fun j : Nat => (rd D0 (j : Int)).1) ∧ Sl wr 4 1 (.slice (some ⟨B, 0, none⟩) n n) n ((List.replicate j all ++ List.replicate (n - j) false).map Value.bool) ∧ Blk wr B 4 cs) (fun i _ => n - (intOf i).toNat)
            case atStart => exact ⟨0, _, Nat.zero_le _, rfl, hTa, by simpa using hk0, hBk⟩
            case round =>
              clear hTa hk0 hBk hmk
              obtain ⟨j, cs, hj, rfl, hT, hS, hBk⟩ := hrel
              by_cases hjn : j < n
              · have hji : (j : Int) < (n : Int) := by omega
                have hc := hS.cell rfl (j := j) (by omega)
                have hf := hS.frozen rfl (0 + j)
                have hset := hS.set_ rfl (j := j) (by omega) (.bool all)
                rw [Nat.zero_add] at hc hf hset
                rw [← List.map_set, fill_set n j all hjn] at hset
                have hlen : (List.replicate j all ++ List.replicate (n - j) false).length = n := by simp; omega
                rw [List.getElem?_map, List.getElem?_eq_getElem (by rw [hlen]; exact hjn)] at hc
                have hc2 : wr.cell? ⟨B, j, none⟩ = some (.bool ((List.replicate j all ++ List.replicate (n - j) false)[j]'(by rw [hlen]; exact hjn))) := hc
                obtain ⟨old, hold⟩ : ∃ x, (List.replicate j all ++ List.replicate (n - j) false)[j]'(by rw [hlen]; exact hjn) = x := ⟨_, rfl⟩
                rw [hold] at hc2
                have H := Lib.hid (And.intro (hT.far (j := j) hBk (by decide) hBF hBw (.bool all)) (And.intro hset (hBk.set_ j (.bool all))))
                clear hT hS hBk hc hset hlen hold
                go_wp2
                go_roundw
                case rel => exact ⟨j + 1, _, by omega, by go_num, H.out.1, H.out.2.1, H.out.2.2⟩
                case measure => simp [intOf]; omega
              · have hjn2 : n = j := by omega
                subst hjn2
                have hS2 : Sl wr 4 1 (.slice (some ⟨B, 0, none⟩) n n) n ((List.replicate n all).map Value.bool) := by
                  have h := hS
                  rw [Nat.sub_self] at h
                  simpa using h
                have hcr := crash_calls wr p F D0 hT.pd H8.out.2.1 (by have := H8.out.2.2; omega) (some ⟨B, 0, none⟩) n (List.replicate n all) (-1) (fun W hW => bools_C (by rw [List.length_replicate]; exact hS2.only hW (fun q e f => hBF (by cases e; exact f))) rfl (by simp; omega)) (by simp) (by omega) (by omega)
                rw [List.length_replicate] at hcr
                have hlf := last_facts D0 all n HNN.out H8.out.1
                obtain ⟨D1, hD1⟩ : ∃ D1, crash D0 (List.replicate n all) (-1) = D1 := ⟨_, rfl⟩
                have ho1 : D1.off = false := by rw [← hD1]; rfl
                have hc1 : D1.cache.length = 0 := by rw [← hD1]; rfl
                rw [hD1] at hcr hlf
                have HT := Lib.hid hT
                clear hD1 hS hS2 hT hBk
                go_wp2_with fail
                refine hcr.mono ?_
                rintro e w9 ⟨rfl, hp⟩
                have hsa := HT.out.sa.only hp.2 fun q e => (HT.out.na q e).1
                have hsb := HT.out.sb.only hp.2 fun q e => (HT.out.nb q e).1
                have hb9 : Below w.heap.size w w9 := Only.below_mine hp.2 hfb HT.out.bl.size HT.out.bl
                have hoff1 := off_calls w9 p _ _ hp.1
                have hcc1 := cached_calls w9 p _ _ hp.1
                rw [ho1] at hoff1
                rw [hc1] at hcc1
                have hrd := fun k => read_calls w9 p _ _ hp.1 k (by rw [hc1]; omega)
                have HB := Lib.hid hb9
                clear hcr hp HT hb9 ho1 hc1
                obtain ⟨off0, hoff0⟩ : ∃ o, D0.off = o := ⟨_, rfl⟩
                rw [hoff0] at hlf
                simp only [hoff0]
                clear hoff0
                have HLF := Lib.hid hlf
                have HRD := Lib.hid hrd
                clear hlf hrd
                go_wp2
                go_loopw [19] (fun i wr => wr = w9 ∧ ∃ k : Nat, k ≤ 8 ∧ i = .int .i64 k) (fun i _ => 8 - (intOf i).toNat)
                case atStart => exact ⟨rfl, 0, Nat.zero_le _, rfl⟩
                case round =>
                  obtain ⟨rfl, k, hk8, rfl⟩ := hrel
                  by_cases hk : k < 8
                  · have hk' : (k : Int) < 8 := by omega
                    obtain ⟨s, hs, hs1, hs2⟩ := HLF.out k hk
                    have hrd := HRD.out (k : Int)
                    rw [hs] at hrd
                    simp only at hrd
                    have hlen1 : k < (D0.l.take 8).length := by rw [List.length_take, H8.out.1]; omega
                    have hlen2 : k < ((List.range 8).map fun j : Nat => (rd D0 (j : Int)).1).length := by simp; omega
                    obtain ⟨ga, oa, hAa, hca⟩ := sl_at hsa hk hlen1
                    obtain ⟨gb, ob, hAb, hcb⟩ := sl_at hsb hk hlen2
                    subst hAa hAb
                    have e1 : (D0.l.take 8)[k] = D0.l.getD k ⟨#[]⟩ := by
                      rw [List.getD_eq_getElem?_getD, List.getElem?_eq_getElem (by rw [H8.out.1]; exact hk)]
                      simp
                    have e2 : ((List.range 8).map fun j : Nat => (rd D0 (j : Int)).1)[k] = (rd D0 (k : Int)).1 := by simp
                    rw [e1] at hca
                    rw [e2] at hcb
                    obtain ⟨x1, hx1⟩ : ∃ x, D0.l.getD k ⟨#[]⟩ = x := ⟨_, rfl⟩
                    obtain ⟨x2, hx2⟩ : ∃ x, (rd D0 (k : Int)).1 = x := ⟨_, rfl⟩
                    rw [hx1] at hca hs1
                    rw [hx2] at hcb hs2
                    clear e1 e2 hx1 hx2 hs hlen1 hlen2
                    cases all with
                    | false =>
                      have hs3 := hs1 rfl
                      subst hs3
                      clear hs1 hs2
                      have heq : (s.toList == s.toList) = true := by simp
                      go_wp2_with fail
                      refine hrd.mono ?_
                      rintro e wx ⟨rfl, rfl⟩
                      clear hrd
                      go_wp2_with fail
                      refine hcc1.mono ?_
                      rintro e wy ⟨rfl, rfl⟩
                      go_wp2
                      go_roundw
                      case rel => exact ⟨by trivial, k + 1, by omega, by go_num⟩
                      case measure => simp [intOf]; omega
                    | true =>
                      cases off0 with
                      | false =>
                        have hs3 := hs2 rfl rfl
                        subst hs3
                        clear hs1 hs2
                        have heq : (s.toList == s.toList) = true := by simp
                        go_wp2_with fail
                        refine hrd.mono ?_
                        rintro e wx ⟨rfl, rfl⟩
                        clear hrd
                        go_wp2_with fail
                        refine hcc1.mono ?_
                        rintro e wy ⟨rfl, rfl⟩
                        go_wp2
                        go_roundw
                        case rel => exact ⟨by trivial, k + 1, by omega, by go_num⟩
                        case measure => simp [intOf]; omega
                      | true =>
                        clear hs1 hs2
                        go_wp2_with fail
                        refine hrd.mono ?_
                        rintro e wx ⟨rfl, rfl⟩
                        clear hrd
                        go_wp2_with fail
                        refine hcc1.mono ?_
                        rintro e wy ⟨rfl, rfl⟩
                        go_wp2
                        go_roundw
                        case rel => exact ⟨by trivial, k + 1, by omega, by go_num⟩
                        case measure => simp [intOf]; omega
                  · go_wp2_with fail
                    refine hoff1.mono ?_
                    rintro e wx ⟨rfl, rfl⟩
                    go_wp2
                    go_ret
                    exact ⟨rfl, HB.out⟩
      · have hP := hst.pd
        have hbl := hst.bl
        have hfb := hst.fb
        have hD0 : (cut ⟨ds, dl, dc, left, off, full, ops⟩ 0).l.length = 8 := HL8.out
        have hcc : dc.length ≤ 60 := by have := hfew.2; simp only at this; omega
        have hcut := cut_calls wr p F _ hP 0 (by omega)
        have hfc := cut_fine _ 0 (by omega) hfd
        have hcl0 : (cut ⟨ds, dl, dc, left, off, full, ops⟩ 0).cache.length ≤ 60 := hcc
        obtain ⟨D0, hDD⟩ : ∃ D0, cut ⟨ds, dl, dc, left, off, full, ops⟩ 0 = D0 := ⟨_, rfl⟩
        rw [hDD] at hD0 hcut hfc hcl0
        clear hst hfd hfew hDD hb hF x0 x1 x2 x3 x4 x5 x6
        have H8 := Lib.hid (And.intro hD0 (And.intro hfc hcl0))
        clear hD0 hfc hcl0 hcc
        go_wp2_with fail
        refine hcut.mono ?_
        rintro e w5 ⟨rfl, hP5, hO5, hz5⟩
        have hb5 : Below w.heap.size w w5 := Only.below_mine hO5 hfb hbl.size hbl
        have hoff := off_calls w5 p F D0 hP5
        clear hcut hO5 hz5 hP hbl
        go_wp2_with fail
        refine hoff.mono ?_
        rintro e w6 ⟨rfl, rfl⟩
        have hT : Two w w6 p F D0 (.slice none 0 0) (.slice none 0 0) 0 [] [] := ⟨hP5, Sl.nil _ _ _, Sl.nil _ _ _, fun j e => by (cases e), fun j e => by (cases e), fun j e => by (cases e), hb5⟩
        clear hoff hP5 hb5
        obtain ⟨i0, hi, hz0', hz1, hz2⟩ := info_parts info_rs
        have HI := Lib.hid (And.intro hi (And.intro hz0' (And.intro hz1 hz2)))
        clear hi hz0' hz1 hz2
        go_wp2
        go_loopw [11, 12, 14] (fun a b i wq => ∃ k : Nat, k ≤ 8 ∧ i = .int .i64 k ∧ Two w wq p F D0 a b k (D0.l.take k) ((List.range k).map fun j : Nat => (rd D0 (j : Int)).1)) (fun _ _ i _ => 8 - (intOf i).toNat)
        case atStart => exact ⟨0, Nat.zero_le _, rfl, by simpa using hT⟩
        case round =>
          clear hT
          obtain ⟨k, hk8, rfl, hT⟩ := hrel
          obtain ⟨Aa, capa, rfl, _⟩ := hT.sa.form
          obtain ⟨Ab, capb, rfl, _⟩ := hT.sb.form
          by_cases h8 : k < 8
          · have h8' : (k : Int) < 8 := by omega
            have hkl : k < D0.l.length := by rw [H8.out.1]; exact h8
            have hrd := read_calls wr p F D0 hT.pd (k : Int) (by have := H8.out.2.2; omega)
            obtain ⟨⟨rs, rc⟩, hrs⟩ : ∃ x, rd D0 (k : Int) = x := ⟨_, rfl⟩
            rw [hrs] at hrd
            have hdu := dur_in wr p F D0 hT.pd k hkl
            obtain ⟨du, hdu2⟩ : ∃ du, D0.l[k] = du := ⟨_, rfl⟩
            rw [hdu2] at hdu
            have hn1 : D0.l.take (k + 1) = D0.l.take k ++ [du] := by rw [List.take_succ_eq_append_getElem hkl, hdu2]
            have hn2 : (List.range (k + 1)).map (fun j : Nat => (rd D0 (j : Int)).1) = (List.range k).map (fun j : Nat => (rd D0 (j : Int)).1) ++ [rs] := by rw [List.range_succ, List.map_append, List.map_singleton, hrs]
            obtain ⟨xs, hxs⟩ : ∃ xs, D0.l.take k = xs := ⟨_, rfl⟩
            obtain ⟨ys, hys⟩ : ∃ ys, (List.range k).map (fun j : Nat => (rd D0 (j : Int)).1) = ys := ⟨_, rfl⟩
            rw [hxs] at hT hn1
            rw [hys] at hT hn2
            clear hxs hys
            have HN := Lib.hid (And.intro hn1 hn2)
            have HT := Lib.hid hT
            have hsa := hT.sa
            clear hn1 hn2 hrs hdu2 hT
            go_wp2_with fail
            refine hrd.mono ?_
            rintro e w7 ⟨rfl, rfl⟩
            go_wp2_with fail
            refine hdu.mono ?_
            rintro e w8 ⟨rfl, rfl⟩
            clear hrd hdu
            go_wp2_with (at_builtin; go_loud (refine wpList_append_sl rfl _ _ 29 29 rfl 9 i0 _ 1 16 Try.underlying29 HI.out.1 HI.out.2.1 HI.out.2.2.1 HI.out.2.2.2 rfl _ _ _ rfl (HT.out.sa.alloc _) _ 1 [.string du] rfl (src_blk (Blk.new _ _ _) Try.underlying29 1 1 rfl (by simp [Value.oneCell'])) ?c1 ?c2 ?_))
            case c1 => unfold maxLen; omega
            case c2 => omega
            intro A1' cap1' w9 hs9 ho9 hw9
            have h9 := HT.out.first du hs9 ho9 (fun j hj => by simpa using hw9 j hj)
            have H9 := Lib.hid h9
            clear hs9 ho9 hw9 h9 hsa
            go_wp2_with (at_builtin; go_loud (refine wpList_append_sl rfl _ _ 29 29 rfl 9 i0 _ 1 16 Try.underlying29 HI.out.1 HI.out.2.1 HI.out.2.2.1 HI.out.2.2.2 rfl _ _ _ rfl (H9.out.2.2.1.alloc _) _ 1 [.string rs] rfl (src_blk (Blk.new _ _ _) Try.underlying29 1 1 rfl (by simp [Value.oneCell'])) ?d1 ?d2 ?_))
            case d1 => unfold maxLen; omega
            case d2 => omega
            intro A2' cap2' w10 hs10 ho10 hw10
            have h10 := HT.out.second rs H9.out hs10 ho10 (fun j hj => by simpa using hw10 j hj)
            rw [← HN.out.1, ← HN.out.2] at h10
            clear hs10 ho10 hw10 H9 HT HN
            go_wp2
            go_roundw
            case rel => exact ⟨k + 1, by omega, by go_num, h10⟩
            case measure => simp [intOf]; omega
          · have hk : k = 8 := by omega
            subst hk
            have hcch := cached_calls wr p F D0 hT.pd
            obtain ⟨ib, hbi, hb0, hb1, hb2⟩ := info_parts info_bool
            obtain ⟨n, hn⟩ : ∃ n, D0.cache.length = n := ⟨_, rfl⟩
            have hn60 : n ≤ 60 := by have := H8.out.2.2; omega
            rw [hn] at hcch
            have hmk := run_make_sl (P := Try.prog) 23 4 ib (.bool false) Try.underlying23 hbi hb0 .i64 .i64 n (by rw [hb2]; omega) (by omega) wr
            have hm1 : (madeCells (Value.bool false).cells (n * ib.size)) = madeCells #[Value.bool false] n := by rw [hb1, Nat.mul_one]; rfl
            rw [hm1] at hmk
            have hk0 : Sl (wr.alloc (.cells (madeCells #[Value.bool false] n) 4)) 4 1 (.slice (some ⟨wr.heap.size, 0, none⟩) n n) n ((List.replicate n false).map Value.bool) := by
              have h1 := Sl.of_blk (e := 4) (size := 1) (n := n) (Blk.new wr 4 (madeCells #[Value.bool false] n)) (Nat.le_refl n) (by unfold maxLen; omega) (by rw [madeCells_one]; simp)
              rw [madeCells_one] at h1 ⊢
              have e : List.take (n * 1) (Array.replicate n (Value.bool false)).toList = (List.replicate n false).map Value.bool := by simp
              rw [e] at h1
              exact h1
            have hBk := Blk.new wr 4 (madeCells #[Value.bool false] n)
            have hTa : Two w (wr.alloc (.cells (madeCells #[Value.bool false] n) 4)) p F D0 _ _ 8 _ _ := ⟨hT.pd.alloc _, hT.sa.alloc _, hT.sb.alloc _, hT.na, hT.nb, hT.ab, hT.bl.alloc hT.bl.size _⟩
            have hBF : ¬ F wr.heap.size := fun e => by have := hT.pd.lt _ e; omega
            have hBw : w.heap.size ≤ wr.heap.size := hT.bl.size
            have HNN := Lib.hid hn
            clear hn hbi hb0 hb1 hb2 hm1
            go_wp2_with fail
            refine hcch.mono ?_
            rintro e w7 ⟨rfl, rfl⟩
            clear hcch hT
            obtain ⟨B, hB⟩ : ∃ B, w7.heap.size = B := ⟨_, rfl⟩
            rw [hB] at hmk hk0 hBF hBw hBk
            clear hB
            go_wp2
            go_loopw [85] (fun i wr => ∃ j : Nat, ∃ cs, j ≤ n ∧ i = .int .i64 j ∧ Two w wr p F D0 (.slice Aa 8 capa) (.slice Ab 8 capb) 8 (D0.l.take 8) ((List.range 8).map fun j : Nat => (rd D0 (j : Int)).1) ∧ Sl wr 4 1 (.slice (some ⟨B, 0, none⟩) n n) n ((List.replicate j all ++ List.replicate (n - j) false).map Value.bool) ∧ Blk wr B 4 cs) (fun i _ => n - (intOf i).toNat)
            case atStart => exact ⟨0, _, Nat.zero_le _, rfl, hTa, by simpa using hk0, hBk⟩
            case round =>
              clear hTa hk0 hBk hmk
              obtain ⟨j, cs, hj, rfl, hT, hS, hBk⟩ := hrel
              by_cases hjn : j < n
              · have hji : (j : Int) < (n : Int) := by omega
                have hc := hS.cell rfl (j := j) (by omega)
                have hf := hS.frozen rfl (0 + j)
                have hset := hS.set_ rfl (j := j) (by omega) (.bool all)
                rw [Nat.zero_add] at hc hf hset
                rw [← List.map_set, fill_set n j all hjn] at hset
                have hlen : (List.replicate j all ++ List.replicate (n - j) false).length = n := by simp; omega
                rw [List.getElem?_map, List.getElem?_eq_getElem (by rw [hlen]; exact hjn)] at hc
                have hc2 : wr.cell? ⟨B, j, none⟩ = some (.bool ((List.replicate j all ++ List.replicate (n - j) false)[j]'(by rw [hlen]; exact hjn))) := hc
                obtain ⟨old, hold⟩ : ∃ x, (List.replicate j all ++ List.replicate (n - j) false)[j]'(by rw [hlen]; exact hjn) = x := ⟨_, rfl⟩
                rw [hold] at hc2
                have H := Lib.hid (And.intro (hT.far (j := j) hBk (by decide) hBF hBw (.bool all)) (And.intro hset (hBk.set_ j (.bool all))))
                clear hT hS hBk hc hset hlen hold
                go_wp2
                go_roundw
                case rel => exact ⟨j + 1, _, by omega, by go_num, H.out.1, H.out.2.1, H.out.2.2⟩
                case measure => simp [intOf]; omega
              · have hjn2 : n = j := by omega
                subst hjn2
                have hS2 : Sl wr 4 1 (.slice (some ⟨B, 0, none⟩) n n) n ((List.replicate n all).map Value.bool) := by
                  have h := hS
                  rw [Nat.sub_self] at h
                  simpa using h
                have hcr := crash_calls wr p F D0 hT.pd H8.out.2.1 (by have := H8.out.2.2; omega) (some ⟨B, 0, none⟩) n (List.replicate n all) (-1) (fun W hW => bools_C (by rw [List.length_replicate]; exact hS2.only hW (fun q e f => hBF (by cases e; exact f))) rfl (by simp; omega)) (by simp) (by omega) (by omega)
                rw [List.length_replicate] at hcr
                have hlf := last_facts D0 all n HNN.out H8.out.1
                obtain ⟨D1, hD1⟩ : ∃ D1, crash D0 (List.replicate n all) (-1) = D1 := ⟨_, rfl⟩
                have ho1 : D1.off = false := by rw [← hD1]; rfl
                have hc1 : D1.cache.length = 0 := by rw [← hD1]; rfl
                rw [hD1] at hcr hlf
                have HT := Lib.hid hT
                clear hD1 hS hS2 hT hBk
                go_wp2_with fail
                refine hcr.mono ?_
                rintro e w9 ⟨rfl, hp⟩
                have hsa := HT.out.sa.only hp.2 fun q e => (HT.out.na q e).1
                have hsb := HT.out.sb.only hp.2 fun q e => (HT.out.nb q e).1
                have hb9 : Below w.heap.size w w9 := Only.below_mine hp.2 hfb HT.out.bl.size HT.out.bl
                have hoff1 := off_calls w9 p _ _ hp.1
                have hcc1 := cached_calls w9 p _ _ hp.1
                rw [ho1] at hoff1
                rw [hc1] at hcc1
                have hrd := fun k => read_calls w9 p _ _ hp.1 k (by rw [hc1]; omega)
                have HB := Lib.hid hb9
                clear hcr hp HT hb9 ho1 hc1
                obtain ⟨off0, hoff0⟩ : ∃ o, D0.off = o := ⟨_, rfl⟩
                rw [hoff0] at hlf
                simp only [hoff0]
                clear hoff0
                have HLF := Lib.hid hlf
                have HRD := Lib.hid hrd
                clear hlf hrd
                go_wp2
                go_loopw [19] (fun i wr => wr = w9 ∧ ∃ k : Nat, k ≤ 8 ∧ i = .int .i64 k) (fun i _ => 8 - (intOf i).toNat)
                case atStart => exact ⟨rfl, 0, Nat.zero_le _, rfl⟩
                case round =>
                  obtain ⟨rfl, k, hk8, rfl⟩ := hrel
                  by_cases hk : k < 8
                  · have hk' : (k : Int) < 8 := by omega
                    obtain ⟨s, hs, hs1, hs2⟩ := HLF.out k hk
                    have hrd := HRD.out (k : Int)
                    rw [hs] at hrd
                    simp only at hrd
                    have hlen1 : k < (D0.l.take 8).length := by rw [List.length_take, H8.out.1]; omega
                    have hlen2 : k < ((List.range 8).map fun j : Nat => (rd D0 (j : Int)).1).length := by simp; omega
                    obtain ⟨ga, oa, hAa, hca⟩ := sl_at hsa hk hlen1
                    obtain ⟨gb, ob, hAb, hcb⟩ := sl_at hsb hk hlen2
                    subst hAa hAb
                    have e1 : (D0.l.take 8)[k] = D0.l.getD k ⟨#[]⟩ := by
                      rw [List.getD_eq_getElem?_getD, List.getElem?_eq_getElem (by rw [H8.out.1]; exact hk)]
                      simp
                    have e2 : ((List.range 8).map fun j : Nat => (rd D0 (j : Int)).1)[k] = (rd D0 (k : Int)).1 := by simp
                    rw [e1] at hca
                    rw [e2] at hcb
                    obtain ⟨x1, hx1⟩ : ∃ x, D0.l.getD k ⟨#[]⟩ = x := ⟨_, rfl⟩
                    obtain ⟨x2, hx2⟩ : ∃ x, (rd D0 (k : Int)).1 = x := ⟨_, rfl⟩
                    rw [hx1] at hca hs1
                    rw [hx2] at hcb hs2
                    clear e1 e2 hx1 hx2 hs hlen1 hlen2
                    cases all with
                    | false =>
                      have hs3 := hs1 rfl
                      subst hs3
                      clear hs1 hs2
                      have heq : (s.toList == s.toList) = true := by simp
                      go_wp2_with fail
                      refine hrd.mono ?_
                      rintro e wx ⟨rfl, rfl⟩
                      clear hrd
                      go_wp2_with fail
                      refine hcc1.mono ?_
                      rintro e wy ⟨rfl, rfl⟩
                      go_wp2
                      go_roundw
                      case rel => exact ⟨by trivial, k + 1, by omega, by go_num⟩
                      case measure => simp [intOf]; omega
                    | true =>
                      cases off0 with
                      | false =>
                        have hs3 := hs2 rfl rfl
                        subst hs3
                        clear hs1 hs2
                        have heq : (s.toList == s.toList) = true := by simp
                        go_wp2_with fail
                        refine hrd.mono ?_
                        rintro e wx ⟨rfl, rfl⟩
                        clear hrd
                        go_wp2_with fail
                        refine hcc1.mono ?_
                        rintro e wy ⟨rfl, rfl⟩
                        go_wp2
                        go_roundw
                        case rel => exact ⟨by trivial, k + 1, by omega, by go_num⟩
                        case measure => simp [intOf]; omega
                      | true =>
                        clear hs1 hs2
                        go_wp2_with fail
                        refine hrd.mono ?_
                        rintro e wx ⟨rfl, rfl⟩
                        clear hrd
                        go_wp2_with fail
                        refine hcc1.mono ?_
                        rintro e wy ⟨rfl, rfl⟩
                        go_wp2
                        go_roundw
                        case rel => exact ⟨by trivial, k + 1, by omega, by go_num⟩
                        case measure => simp [intOf]; omega
                  · go_wp2_with fail
                    refine hoff1.mono ?_
                    rintro e wx ⟨rfl, rfl⟩
                    go_wp2
                    go_ret
                    exact ⟨rfl, HB.out⟩
end Go.Proofs.Ytohflbmmglmhhaa.Dk
