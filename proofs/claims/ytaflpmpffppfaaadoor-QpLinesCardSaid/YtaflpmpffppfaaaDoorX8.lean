-- Written by a program (print.py's text, with contracts of this session's own put in). Not trusted: Lean checks it.
import Derived.Test.YtaflpmpffppfaaaDoorX0
import Derived.Test.YtaflpmpffppfaaaDoorX3
import Derived.Test.YtaflpmpffppfaaaDoorX6
import Derived.Test.YtaflpmpffppfaaaDoorX7
namespace Go.Proofs.YtaflpmpffppfaaaDoor.X
open Go.RowKit Go.Proofs.YtaflpmpffppfaaaDoorW.PrintWords Go.Proofs.YtaflpmpffppfaaaDoorW.PrintLast Go.Proofs.YtaflpmpffppfaaaDoorW.PrintMore
attribute [local go_sem] max2_int min2_int max_two min_two max_three min_three max_four min_four   -- for this text's walks alone
set_option linter.unusedVariables false
set_option linter.unusedSimpArgs false

/-! ### qp_Decode: function 11, a contract written by hand -/
-- IMPORT Derived.Test.YtaflpmpffppfaaaDoorSeqI2
-- IMPORT Derived.Test.YtaflpmpffppfaaaDoorBldG
-- IMPORT Derived.TacticsInMore
-- IMPORT Derived.OwnWalkIn
-- IMPORT Derived.Shelf.Abstract
def qp_Decode.go (k : Nat) : List ByteArray → Bool → ByteArray → Option (ByteArray × Int)
  | [], _, acc => some (acc, 0)
  | p :: t, j, acc => (strings_TrimRight.f p (⟨#[32, 9]⟩ : ByteArray)).bind fun q => (qp_read.f k q).bind fun r => if r.2.2 = true then (if acc.size + 2 + r.1.size ≤ 1000000000 then qp_Decode.go k t r.2.1 ((if j = true then acc else acc ++ (⟨#[13, 10]⟩ : ByteArray)) ++ r.1) else none) else some (⟨#[]⟩, 3)
def qp_Decode.f (k : Nat) (a0 : ByteArray) : Option (ByteArray × Int) := if a0.size < 4294967281 then qp_Decode.go k ((PcL.pcs (Aid.L a0)).map Aid.S) true ⟨#[]⟩ else none
theorem qp_Decode.mono_go : ∀ (l : List ByteArray) (j : Bool) (acc : ByteArray) (k : Nat), LeO (qp_Decode.go k l j acc) (qp_Decode.go (k + 1) l j acc)
  | [], _, _, _ => LeO.refl _
  | p :: t, j, acc, k => by
    unfold qp_Decode.go
    exact LeO.bind (LeO.refl _) (fun _ => LeO.bind (qp_read.mono _ _) (fun _ => LeO.ite (LeO.ite (qp_Decode.mono_go t _ _ k) (LeO.refl _)) (LeO.refl _)))
theorem qp_Decode.mono : ∀ a0 k, LeO (qp_Decode.f k a0) (qp_Decode.f (k + 1) a0) := fun a0 k => LeO.ite (qp_Decode.mono_go _ _ _ k) (LeO.refl _)
/-- what holds between two rounds -/
def qp_Decode.I (k : Nat) (xs : List ByteArray) (r1 : ByteArray) (r2 : Int) (w : World) (rs rc b jb lo : Nat) (pre : List ByteArray) (W : World) : Prop :=
  ∃ (rest : List ByteArray) (acc : ByteArray) (j : Bool), xs = pre ++ rest ∧ (qp_Decode.go k rest j acc = some (r1, r2) ∧ acc.size ≤ 1000000000) ∧ Mem.Blk W rs 9 #[.string ⟨#[]⟩] ∧ Mem.Blk W rc 25 #[.int .i64 0] ∧ Mem.Blk W jb 4 #[.bool j] ∧ bj W b lo acc ∧ Below w.heap.size w W
def qp_Decode.Ix (r1 : ByteArray) (r2 : Int) (w : World) (rs rc : Nat) (c : Code) (pre : List ByteArray) (W : World) : Prop :=
  c = .ret ∧ Mem.Blk W rs 9 #[.string r1] ∧ Mem.Blk W rc 25 #[.int .i64 r2] ∧ Below w.heap.size w W
attribute [local go_sem] Oper.semAt_some
set_option maxHeartbeats 4000000 in
set_option maxRecDepth 100000 in
theorem qp_Decode.calls (k : Nat) (a0 : ByteArray) (r1 : ByteArray) (r2 : Int) (w : World) (hT0 : Aside0 (Tabs w)) (h : qp_Decode.f k a0 = some (r1, r2)) :
    Calls Tryd.prog 11 #[.string a0] w fun e w' => e = .returned (.tuple #[.string r1, .int .i64 r2]) ∧ Below w.heap.size w w' := by
  unfold qp_Decode.f at h
  by_cases hsz : a0.size < 4294967281
  case neg => rw [if_neg hsz] at h; cases h
  rw [if_pos hsz] at h
  have H := Lib.hid h
  clear h
  refine (callsIn_wide (n := 3)).1 ?_
  refine callsIn_of_wp_marks Tryd.func11 rfl trivial ?_ rfl
  simp only [Tryd.ntmps11, List.size_toArray, List.length_cons, List.length_nil, Nat.reduceAdd, Nat.reduceSub, Array.replicate_succ, Array.replicate_zero, List.push_toArray, List.append_toArray, List.nil_append, List.cons_append]
  obtain ⟨gm, hm⟩ := hT0.out.max
  have hlt0 := World.block_lt_of_cell? w _ hm
  have HM := Lib.hid hm
  clear hm
  gi_wp2_with fail
  refine ⟨trivial, ?_⟩
  refine (callsIn_wide.2 (Mem.splitSeq_calls _ a0)).mono ?_
  rintro e w1 ⟨rfl, rfl⟩
  have hrs := ((Mem.Blk.new w 9 #[.string ⟨#[]⟩]).alloc (.cells #[.int .i64 0] 25)).alloc (.cells #[.pointer none, .slice none 0 0] 37) |>.alloc (.cells #[.bool true] 4)
  have hrc := ((Mem.Blk.new (w.alloc (.cells #[.string ⟨#[]⟩] 9)) 25 #[.int .i64 0]).alloc (.cells #[.pointer none, .slice none 0 0] 37)).alloc (.cells #[.bool true] 4)
  have hbj := bj_new ((w.alloc (.cells #[.string ⟨#[]⟩] 9)).alloc (.cells #[.int .i64 0] 25)) (w.heap.size + 9)
  have hbj := bj_below hbj ((Below.refl _ _).alloc (Nat.le_refl _) (.cells #[.bool true] 4))
  have hjb := Mem.Blk.new (((w.alloc (.cells #[.string ⟨#[]⟩] 9)).alloc (.cells #[.int .i64 0] 25)).alloc (.cells #[.pointer none, .slice none 0 0] 37)) 4 #[.bool true]
  have hBA : Below w.heap.size w ((((w.alloc (.cells #[.string ⟨#[]⟩] 9)).alloc (.cells #[.int .i64 0] 25)).alloc (.cells #[.pointer none, .slice none 0 0] 37)).alloc (.cells #[.bool true] 4)) := ((((Below.refl _ w).alloc (Nat.le_refl _) _).alloc (by simp) _).alloc (by simp; omega) _).alloc (by simp; omega) _
  have hmA := (hBA.cell hlt0).trans HM.out
  have HSA : ((((w.alloc (.cells #[.string ⟨#[]⟩] 9)).alloc (.cells #[.int .i64 0] 25)).alloc (.cells #[.pointer none, .slice none 0 0] 37)).alloc (.cells #[.bool true] 4)).heap.size = w.heap.size + 1 + 1 + 1 + 1 := by simp
  simp only [World.size_alloc] at hrc hbj hjb
  obtain ⟨wA, hwA⟩ : ∃ x, ((((w.alloc (.cells #[.string ⟨#[]⟩] 9)).alloc (.cells #[.int .i64 0] 25)).alloc (.cells #[.pointer none, .slice none 0 0] 37)).alloc (.cells #[.bool true] 4)) = x := ⟨_, rfl⟩
  simp only [hwA] at hrs hrc hbj hjb hBA hmA HSA ⊢
  clear hwA
  have hseq := Mem.split_seq 2 wA a0 hsz gm hmA
  have h3 : Below wA.heap.size wA (((wA.alloc (.cells #[.string a0] 9)).alloc (.cells #[.string ⟨#[13, 10]⟩] 9)).alloc (.cells #[.int .i64 0] 3)) := (((Below.refl _ wA).alloc (Nat.le_refl _) _).alloc (by simp) _).alloc (by simp; omega) _
  have hrs := hrs.below h3
  have hrc := hrc.below h3
  have hbj := bj_below hbj h3
  have hjb := hjb.below h3
  have hB1 := hBA.trans (h3.mono hBA.size)
  have HS1 : (((wA.alloc (.cells #[.string a0] 9)).alloc (.cells #[.string ⟨#[13, 10]⟩] 9)).alloc (.cells #[.int .i64 0] 3)).heap.size = w.heap.size + 7 := by simp [HSA]
  obtain ⟨w1, hw1⟩ : ∃ x, ((wA.alloc (.cells #[.string a0] 9)).alloc (.cells #[.string ⟨#[13, 10]⟩] 9)).alloc (.cells #[.int .i64 0] 3) = x := ⟨_, rfl⟩
  simp only [hw1, HSA] at hrs hrc hbj hjb hB1 HS1 hseq ⊢
  clear hw1 h3 hmA
  gi_wp2
  refine Mem.wpIn_rangeFunc_C rfl (by decide) (gf := 42) (lb := #[.pointer (some ⟨w.heap.size + 1 + 1 + 1 + 1 + 1, 0, none⟩), .pointer (some ⟨w.heap.size + 1 + 1 + 1 + 1, 0, none⟩), .pointer (some ⟨w.heap.size + 1 + 1 + 1 + 1 + 2, 0, none⟩)]) rfl trivial (enters_of Tryd.func42 (by kernel_rfl) rfl)
    hseq (by omega) (fun k hk => by unfold Mem.splitHold at hk; omega) (Below.refl _ _) (fun _ => rfl)
    (qp_Decode.I k ((PcL.pcs (Aid.L a0)).map Aid.S) r1 r2 w w.heap.size (w.heap.size + 1) (w.heap.size + 1 + 1) (w.heap.size + 1 + 1 + 1) (w.heap.size + 9))
    (qp_Decode.Ix r1 r2 w w.heap.size (w.heap.size + 1)) ?hI ?hIx ⟨_, ⟨#[]⟩, true, rfl, ⟨H.out, by decide⟩, hrs, hrc, hjb, hbj, hB1⟩
    (fun x => { tmps := #[.string a0, undef, .pointer (some ⟨w.heap.size, 0, none⟩), .pointer (some ⟨w.heap.size + 1, 0, none⟩), .pointer (some ⟨w.heap.size + 1 + 1, 0, none⟩), .pointer (some ⟨w.heap.size + 1 + 1 + 1, 0, none⟩), .string x, undef, undef, undef, .string a0, .func (.func 42) #[] #[.pointer (some ⟨w.heap.size + 1 + 1 + 1 + 1 + 1, 0, none⟩), .pointer (some ⟨w.heap.size + 1 + 1 + 1 + 1, 0, none⟩), .pointer (some ⟨w.heap.size + 1 + 1 + 1 + 1 + 2, 0, none⟩)], .string x, undef, undef, undef, undef, undef, undef, undef, undef, undef, undef, undef, undef, undef, undef, undef, undef], defers := [] }) ?assign ?body ?done ?stop
  case hI =>
    rintro pre W W' ⟨rest, acc, j, hx, hg, h1, h2, h3, h4, h5⟩ ho
    have hn : ∀ q, q < w.heap.size + 4 → ¬ (q = w.heap.size + 1 + 1 + 1 + 1 ∨ q = w1.heap.size ∨ q = w1.heap.size + 1) := fun q hq => by omega
    exact ⟨rest, acc, j, hx, hg, ho.blk h1 (hn _ (by omega)), ho.blk h2 (hn _ (by omega)), ho.blk h3 (hn _ (by omega)), bj_only h4 ho (hn _ (by omega)) (fun q hq => by omega), h5.trans (ho.to_below h5.size fun q hq => by omega)⟩
  case hIx =>
    rintro c pre W W' ⟨hc, h1, h2, h5⟩ ho
    exact ⟨hc, ho.blk h1 (by omega), ho.blk h2 (by omega), h5.trans (ho.to_below h5.size fun q hq => by omega)⟩
  case assign =>
    intro l x W K hK
    gi_wp2
    exact hK
  case body =>
    rintro l pre x W hpx ⟨rest, acc, j, hx, ⟨hg, hac⟩, h1, h2, h3, h4, h5⟩ hlt
    obtain ⟨rest, rfl⟩ : ∃ u, rest = x :: u := by
      rw [hx] at hpx
      have hp := (List.prefix_append_right_inj pre).1 hpx
      cases rest with
      | nil => simp at hp
      | cons y u => exact ⟨u, by rw [List.cons_prefix_cons] at hp; rw [hp.1]⟩
    obtain ⟨q, hq, hg⟩ := Option.bind_eq_some_iff.mp (show (strings_TrimRight.f x (⟨#[32, 9]⟩ : ByteArray)).bind _ = some (r1, r2) from hg)
    obtain ⟨⟨tx, mo, ok⟩, hr, hg⟩ := Option.bind_eq_some_iff.mp hg
    dsimp only at hg
    have HQ := Aside0.mk hq
    have HRD := Aside0.mk hr
    have HG := Lib.hid hg
    have HX : Hid ((PcL.pcs (Aid.L a0)).map Aid.S = (pre ++ [x]) ++ rest) := Lib.hid (by rw [hx]; simp)
    clear hq hr hg hpx hx
    have hlo : w.heap.size + 9 ≤ W.heap.size := by omega
    have hWF : ∀ W' : World, Mem.Only (fun q => q = w.heap.size ∨ q = w.heap.size + 1 ∨ q = w.heap.size + 1 + 1 ∨ q = w.heap.size + 1 + 1 + 1 ∨ w.heap.size + 9 ≤ q) W W' → ∀ q, (Mem.splitHold (w.heap.size + 1 + 1 + 1 + 1) q ∨ q = w1.heap.size ∨ q = w1.heap.size + 1) → W'.heap[q]? = W.heap[q]? := fun W' ho q hq => by
      refine ho.block q ?_ ?_
      · unfold Mem.splitHold at hq; omega
      · unfold Mem.splitHold at hq; omega
    have HWF := Lib.hid hWF
    have hWB : ∀ W' : World, Mem.Only (fun q => q = w.heap.size ∨ q = w.heap.size + 1 ∨ q = w.heap.size + 1 + 1 ∨ q = w.heap.size + 1 + 1 + 1 ∨ w.heap.size + 9 ≤ q) W W' → Below w.heap.size w W' := fun W' ho => h5.trans (ho.to_below h5.size fun q hq => by omega)
    have HWB := Lib.hid hWB
    clear hWF hWB
    cases j with
    | true =>
      have d3 := (h3.cell 0).trans rfl
      have g1 := h1
      have g2 := h2
      have g3 := h3
      have g4 := h4
      have ho1 := Mem.Only.refl (fun q => q = w.heap.size ∨ q = w.heap.size + 1 ∨ q = w.heap.size + 1 + 1 ∨ q = w.heap.size + 1 + 1 + 1 ∨ w.heap.size + 9 ≤ q) W
      clear h1 h2 h3 h4 h5
      gi_wp2_with fail
      refine ⟨trivial, ?_⟩
      refine (CallsIn.inRound l (callsIn_wide.2 (strings_TrimRight.calls x _ q _ HQ.out))).mono ?_
      rintro e W1 ⟨rfl, hb1⟩
      gi_wp2_with fail
      refine ⟨trivial, ?_⟩
      refine (CallsIn.inRound l (callsIn_wide.2 (qp_read.calls k q tx mo ok _ HRD.out))).mono ?_
      rintro e W2 ⟨rfl, hb2⟩
      have hb := hb1.trans (hb2.mono hb1.size)
      have ho2 : Mem.Only (fun q => q = w.heap.size ∨ q = w.heap.size + 1 ∨ q = w.heap.size + 1 + 1 ∨ q = w.heap.size + 1 + 1 + 1 ∨ w.heap.size + 9 ≤ q) W W2 := ho1.trans' (Mem.Only.of_below hb (fun _ => False)) (fun _ h => h.elim)
      have k1 := g1.below hb
      have k2 := g2.below hb
      have k3 := g3.below hb
      have k4 := bj_below g4 hb
      have hlo2 := Nat.le_trans hlo ho2.size
      clear hb hb1 hb2 ho1 g1 g2 g3 g4
      cases ok with
      | false =>
        have hG := HG.out
        rw [if_neg (by simp)] at hG
        obtain ⟨rfl, rfl⟩ := Prod.mk.inj (Option.some.inj hG)
        have c1 := (k1.cell 0).trans rfl
        have c2 := (k2.cell 0).trans rfl
        have f1 := k1.frozen 0
        have f2 := k2.frozen 0
        have ho5 := (ho2.put (.inl rfl) 0 (.string ⟨#[]⟩)).put (b := w.heap.size + 1) (.inr (.inl rfl)) 0 (.int .i64 3)
        have m1 := (k1.set_ 0 (.string ⟨#[]⟩)).far (p := ⟨w.heap.size + 1, 0, none⟩) (by simp) (.int .i64 3)
        have m2 := (k2.far (p := ⟨w.heap.size, 0, none⟩) (by simp) (.string ⟨#[]⟩)).set_ 0 (.int .i64 3)
        clear hG
        gi_wp2
        exact ⟨HWF.out _ ho5, rfl, m1, m2, HWB.out _ ho5⟩
      | true =>
        have hG := HG.out
        rw [if_pos rfl] at hG
        by_cases hroom : acc.size + 2 + tx.size ≤ 1000000000
        case neg => rw [if_neg hroom] at hG; cases hG
        rw [if_pos hroom] at hG
        have HG2 := Lib.hid hG
        clear hG HG
        gi_wp2_with fail
        refine ⟨trivial, ?_⟩
        refine (CallsIn.inRound l (callsIn_wide.2 (bj_write k4 hlo2 tx (by omega)))).mono ?_
        rintro e W3 ⟨rfl, g4, ho3⟩
        have n1 : ¬ (w.heap.size = w.heap.size + 1 + 1 ∨ w.heap.size + 9 ≤ w.heap.size) := by omega
        have n2 : ¬ (w.heap.size + 1 = w.heap.size + 1 + 1 ∨ w.heap.size + 9 ≤ w.heap.size + 1) := by omega
        have n3 : ¬ (w.heap.size + 1 + 1 + 1 = w.heap.size + 1 + 1 ∨ w.heap.size + 9 ≤ w.heap.size + 1 + 1 + 1) := by omega
        have m1 := ho3.blk k1 n1
        have m2 := ho3.blk k2 n2
        have m3 := ho3.blk k3 n3
        have c3 := (m3.cell 0).trans rfl
        have f3 := m3.frozen 0
        have ho4 := ho2.trans (ho3.mono fun q hq => hq.elim (fun e => .inr (.inr (.inl e))) (fun e => .inr (.inr (.inr (.inr e)))))
        have ho5 := ho4.put (b := w.heap.size + 1 + 1 + 1) (.inr (.inr (.inr (.inl rfl)))) 0 (.bool mo)
        have q1 := m1.far (p := ⟨w.heap.size + 1 + 1 + 1, 0, none⟩) (by dsimp only; omega) (.bool mo)
        have q2 := m2.far (p := ⟨w.heap.size + 1 + 1 + 1, 0, none⟩) (by dsimp only; omega) (.bool mo)
        have q3 := m3.set_ 0 (.bool mo)
        have q4 := bj_only g4 ((Mem.Only.refl (· = w.heap.size + 1 + 1 + 1) W3).put rfl 0 (.bool mo)) (by omega) (fun q hq => by omega)
        clear ho3 ho4 k1 k2 k3 k4 m1 m2 m3 g4 ho2
        gi_wp2
        exact ⟨HWF.out _ ho5, rest, _, mo, HX.out, ⟨HG2.out, by simp only [if_true, ByteArray.size_append]; omega⟩, q1, q2, q3, q4, HWB.out _ ho5⟩
    | false =>
      have d3 := (h3.cell 0).trans rfl
      gi_wp2_with fail
      refine ⟨trivial, ?_⟩
      refine (CallsIn.inRound l (callsIn_wide.2 (bj_write h4 hlo ⟨#[13, 10]⟩ (by show _ + 2 ≤ _; omega)))).mono ?_
      rintro e W0 ⟨rfl, g4, hoW⟩
      have n1 : ¬ (w.heap.size = w.heap.size + 1 + 1 ∨ w.heap.size + 9 ≤ w.heap.size) := by omega
      have n2 : ¬ (w.heap.size + 1 = w.heap.size + 1 + 1 ∨ w.heap.size + 9 ≤ w.heap.size + 1) := by omega
      have n3 : ¬ (w.heap.size + 1 + 1 + 1 = w.heap.size + 1 + 1 ∨ w.heap.size + 9 ≤ w.heap.size + 1 + 1 + 1) := by omega
      have g1 := hoW.blk h1 n1
      have g2 := hoW.blk h2 n2
      have g3 := hoW.blk h3 n3
      have ho1 : Mem.Only (fun q => q = w.heap.size ∨ q = w.heap.size + 1 ∨ q = w.heap.size + 1 + 1 ∨ q = w.heap.size + 1 + 1 + 1 ∨ w.heap.size + 9 ≤ q) W W0 := hoW.mono fun q hq => hq.elim (fun e => .inr (.inr (.inl e))) (fun e => .inr (.inr (.inr (.inr e))))
      clear h1 h2 h3 h4 h5 hoW n1 n2 n3 d3
      gi_wp2_with fail
      refine ⟨trivial, ?_⟩
      refine (CallsIn.inRound l (callsIn_wide.2 (strings_TrimRight.calls x _ q _ HQ.out))).mono ?_
      rintro e W1 ⟨rfl, hb1⟩
      gi_wp2_with fail
      refine ⟨trivial, ?_⟩
      refine (CallsIn.inRound l (callsIn_wide.2 (qp_read.calls k q tx mo ok _ HRD.out))).mono ?_
      rintro e W2 ⟨rfl, hb2⟩
      have hb := hb1.trans (hb2.mono hb1.size)
      have ho2 : Mem.Only (fun q => q = w.heap.size ∨ q = w.heap.size + 1 ∨ q = w.heap.size + 1 + 1 ∨ q = w.heap.size + 1 + 1 + 1 ∨ w.heap.size + 9 ≤ q) W W2 := ho1.trans' (Mem.Only.of_below hb (fun _ => False)) (fun _ h => h.elim)
      have k1 := g1.below hb
      have k2 := g2.below hb
      have k3 := g3.below hb
      have k4 := bj_below g4 hb
      have hlo2 := Nat.le_trans hlo ho2.size
      clear hb hb1 hb2 ho1 g1 g2 g3 g4
      cases ok with
      | false =>
        have hG := HG.out
        rw [if_neg (by simp)] at hG
        obtain ⟨rfl, rfl⟩ := Prod.mk.inj (Option.some.inj hG)
        have c1 := (k1.cell 0).trans rfl
        have c2 := (k2.cell 0).trans rfl
        have f1 := k1.frozen 0
        have f2 := k2.frozen 0
        have ho5 := (ho2.put (.inl rfl) 0 (.string ⟨#[]⟩)).put (b := w.heap.size + 1) (.inr (.inl rfl)) 0 (.int .i64 3)
        have m1 := (k1.set_ 0 (.string ⟨#[]⟩)).far (p := ⟨w.heap.size + 1, 0, none⟩) (by simp) (.int .i64 3)
        have m2 := (k2.far (p := ⟨w.heap.size, 0, none⟩) (by simp) (.string ⟨#[]⟩)).set_ 0 (.int .i64 3)
        clear hG
        gi_wp2
        exact ⟨HWF.out _ ho5, rfl, m1, m2, HWB.out _ ho5⟩
      | true =>
        have hG := HG.out
        rw [if_pos rfl] at hG
        by_cases hroom : acc.size + 2 + tx.size ≤ 1000000000
        case neg => rw [if_neg hroom] at hG; cases hG
        rw [if_pos hroom] at hG
        have HG2 := Lib.hid hG
        clear hG HG
        gi_wp2_with fail
        refine ⟨trivial, ?_⟩
        refine (CallsIn.inRound l (callsIn_wide.2 (bj_write k4 hlo2 tx (by rw [ByteArray.size_append]; show _ + 2 + _ ≤ _; omega)))).mono ?_
        rintro e W3 ⟨rfl, g4, ho3⟩
        have n1 : ¬ (w.heap.size = w.heap.size + 1 + 1 ∨ w.heap.size + 9 ≤ w.heap.size) := by omega
        have n2 : ¬ (w.heap.size + 1 = w.heap.size + 1 + 1 ∨ w.heap.size + 9 ≤ w.heap.size + 1) := by omega
        have n3 : ¬ (w.heap.size + 1 + 1 + 1 = w.heap.size + 1 + 1 ∨ w.heap.size + 9 ≤ w.heap.size + 1 + 1 + 1) := by omega
        have m1 := ho3.blk k1 n1
        have m2 := ho3.blk k2 n2
        have m3 := ho3.blk k3 n3
        have c3 := (m3.cell 0).trans rfl
        have f3 := m3.frozen 0
        have ho4 := ho2.trans (ho3.mono fun q hq => hq.elim (fun e => .inr (.inr (.inl e))) (fun e => .inr (.inr (.inr (.inr e)))))
        have ho5 := ho4.put (b := w.heap.size + 1 + 1 + 1) (.inr (.inr (.inr (.inl rfl)))) 0 (.bool mo)
        have q1 := m1.far (p := ⟨w.heap.size + 1 + 1 + 1, 0, none⟩) (by dsimp only; omega) (.bool mo)
        have q2 := m2.far (p := ⟨w.heap.size + 1 + 1 + 1, 0, none⟩) (by dsimp only; omega) (.bool mo)
        have q3 := m3.set_ 0 (.bool mo)
        have q4 := bj_only g4 ((Mem.Only.refl (· = w.heap.size + 1 + 1 + 1) W3).put rfl 0 (.bool mo)) (by omega) (fun q hq => by omega)
        clear ho3 ho4 k1 k2 k3 k4 m1 m2 m3 g4 ho2
        gi_wp2
        exact ⟨HWF.out _ ho5, rest, _, mo, HX.out, ⟨HG2.out, by simp only [if_false, Bool.false_eq_true, ByteArray.size_append]; show _ + 2 + _ ≤ _; omega⟩, q1, q2, q3, q4, HWB.out _ ho5⟩
  case done =>
    rintro W ⟨rest, acc, j, hx, ⟨hg, _⟩, h1, h2, h3, h4, h5⟩ hD
    have hr : rest = [] := by simpa using hx
    subst hr
    obtain ⟨rfl, rfl⟩ := Prod.mk.inj (Option.some.inj (show some (acc, (0 : Int)) = some (r1, r2) from hg))
    clear hg hx
    gi_wp2_with fail
    refine ⟨trivial, ?_⟩
    refine (callsIn_wide.2 (bj_string h4)).mono ?_
    rintro e W2 ⟨rfl, ho2⟩
    have k1 := ho2.blk h1 (by omega)
    have k2 := ho2.blk h2 (by omega)
    have c1 := (k1.cell 0).trans rfl
    have c2 := (k2.cell 0).trans rfl
    have f1 := k1.frozen 0
    have f2 := k2.frozen 0
    have hD2 := (ho2.block _ (Array.getElem?_eq_some_iff.1 hD).1 (by omega)).trans hD
    have hB2 := h5.trans (ho2.to_below h5.size fun q hq => by omega)
    have m1 := (k1.set_ 0 (.string acc)).far (p := ⟨w.heap.size + 1, 0, none⟩) (by simp) (.int .i64 0)
    have m2 := (k2.far (p := ⟨w.heap.size, 0, none⟩) (by simp) (.string acc)).set_ 0 (.int .i64 0)
    have hD3 := (Below.heap_setCell _ ⟨w.heap.size + 1, 0, none⟩ (.int .i64 0) w1.heap.size (by simp; omega)).trans ((Below.heap_setCell W2 ⟨w.heap.size, 0, none⟩ (.string acc) w1.heap.size (by simp; omega)).trans hD2)
    have hB3 := (hB2.setCell (p := ⟨w.heap.size, 0, none⟩) (Nat.le_refl _) (.string acc)).setCell (p := ⟨w.heap.size + 1, 0, none⟩) (by simp) (.int .i64 0)
    clear ho2 h1 h2 h3 h4 h5 hD hD2
    gi_wp2
    rw [HS1] at hD3
    refine ⟨by simp, .inl ⟨_, _, rfl, run_takeDeferred hD3, ?_⟩⟩
    have o1 := m1.same (World.putObj_heap_other (r := w.heap.size + 7) (o := .deferred none) (by omega))
    have o2 := m2.same (World.putObj_heap_other (r := w.heap.size + 7) (o := .deferred none) (by omega))
    have e1 := (o1.cell 0).trans rfl
    have e2 := (o2.cell 0).trans rfl
    exact ⟨.tuple #[.string acc, .int .i64 0], by simp [results, Tryd.results11, go_sem, e1, e2], rfl, hB3.grown (grownBy_putObj' _ _ _) hB3.size (fun q e => by cases e; omega)⟩
  case stop =>
    rintro c pre W ⟨rfl, h1, h2, h5⟩ hD
    gi_wp2
    refine ⟨by simp, .inl ⟨_, _, rfl, run_takeDeferred hD, ?_⟩⟩
    have o1 := h1.same (World.putObj_heap_other (r := w1.heap.size) (o := .deferred none) (by omega))
    have o2 := h2.same (World.putObj_heap_other (r := w1.heap.size) (o := .deferred none) (by omega))
    have e1 := (o1.cell 0).trans rfl
    have e2 := (o2.cell 0).trans rfl
    exact ⟨.tuple #[.string r1, .int .i64 r2], by simp [results, Tryd.results11, go_sem, e1, e2], rfl, h5.grown (grownBy_putObj' _ _ _) h5.size (fun q e => by cases e; omega)⟩

end Go.Proofs.YtaflpmpffppfaaaDoor.X
