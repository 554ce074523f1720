/- A range over a function whose iterator keeps its state in cells of its own: the law. It speaks of no program. -/
import Derived.Test.YtaflpmpffppfaaaDoorMem
import Derived.RangeFuncNested
import Derived.RangeFuncBound
import Derived.RangeFuncCalls
import Derived.RangeFuncLeaves
import Derived.Test.YtaflpmpffppfaaaDoorShelf
import Derived.Test.YtaflpmpffppfaaaDoorPcL
import Derived.Shelf.Abstract
import Derived.WalkKit
import Derived.OwnWalkIn
import Derived.TacticsInMore
import Derived.LoopNIn
import Derived.LoopIn
import Derived.Lib.Hide
namespace Go.Proofs.YtaflpmpffppfaaaDoor.Mem
open Go Go.RowKit
set_option linter.unusedVariables false
/-- what is said does not mind what becomes of the blocks of C -/
def Mind {β : Type} (C : Nat → Prop) (J : β → World → Prop) : Prop := ∀ s W W', J s W → Only C W W' → J s W'
theorem Only.putObj {F : Nat → Prop} (W : World) (l : Nat) (o : Obj) (h : F l) : Only F W (W.putObj l o) :=
  ⟨rfl, rfl, rfl, by simp, fun k _ hk => World.putObj_heap_other (fun e => hk (by rw [e]; exact h))⟩
variable {F : Fence} {n : Nat} {P : Program}
/-- the iterator's word: all of xs, one by one, or what a round has ended; c: its own cell's block, which it writes; hold: the blocks that it reads -/
def SeqC {α : Type} (F : Fence) (n : Nat) (P : Program) (g : Nat) (lb : Array Value) (encs : α → Array Value) (c : Nat) (hold : Nat → Prop) (xs : List α) (w : World) : Prop :=
  ∀ (l : Nat) (J Jx : List α → World → Prop) (W : World), Below w.heap.size w W → Mind (· = c) J → Mind (· = c) Jx →
    (∀ pre x W1, pre ++ [x] <+: xs → J pre W1 → YieldAt F (n - 1) P l (encs x) W1 fun e W' =>
      (e = .returned (.bool true) ∧ J (pre ++ [x]) W' ∧ ∀ k, hold k → W'.heap[k]? = W1.heap[k]?) ∨ (e = .returned (.bool false) ∧ Jx (pre ++ [x]) W')) →
    J [] W →
    CallsIn F n P g (#[.func (.yield l) #[] #[]] ++ lb) W fun e W' => (∃ v, e = .returned v) ∧ (J xs W' ∨ (∃ pre, Jx pre W'))
/-- how a round may be left -/
def postC {α : Type} (hold : Nat → Prop) (I : List α → World → Prop) (Ix : Code → List α → World → Prop) (xs : List α) (W : World) : Exit → Act → World → Prop
  | .normal, _, W' => (∀ k, hold k → W'.heap[k]? = W.heap[k]?) ∧ I xs W'
  | .ret, _, W' => (∀ k, hold k → W'.heap[k]? = W.heap[k]?) ∧ Ix .ret xs W'
  | .exit id, _, W' => (∀ k, hold k → W'.heap[k]? = W.heap[k]?) ∧ Ix (.exit id) xs W'
  | .goto t, _, W' => (∀ k, hold k → W'.heap[k]? = W.heap[k]?) ∧ Ix (.goto t) xs W'
  | .panic _, _, _ => False
  | .outgrown, _, _ => False
theorem wpIn_rangeFunc_C {α : Type} {g : Operand} {ps : Array Tmp} {assign body : Code} {Q : Exit → Act → World → Prop} {a : Act} {w : World}
    (hro : F.round = none) (h1 : 1 ≤ n) {gf : Nat} {lb : Array Value} (hg : a.eval g = .func (.func gf) #[] lb) (hFg : F.fn gf) (eg : ∀ args w, (callFunc gf args).run P w = .ok (.enter gf args) w)
    {encs : α → Array Value} {c : Nat} {hold : Nat → Prop} {xs : List α} {w0 : World} (hseq : SeqC F (n - 1) P gf lb encs c hold xs w0) (hc : c < w.heap.size) (hh : ∀ k, hold k → k < w.heap.size)
    (hb0 : Below w0.heap.size w0 w) (hps : ∀ x, (encs x).size = ps.size)
    (I : List α → World → Prop) (Ix : Code → List α → World → Prop) (hI : Mind (fun k => k = c ∨ k = w.heap.size ∨ k = w.heap.size + 1) I) (hIx : ∀ j, Mind (fun k => k = c ∨ k = w.heap.size ∨ k = w.heap.size + 1) (Ix j)) (h0 : I [] w) (a₁ : α → Act)
    (hassign : ∀ (l : Nat) (x : α) (W : World) (K : Act → World → Prop), K (a₁ x) W →
      assign.wpIn (F.inRound l) (n - 1 - 1) P (Exit.then K (fun _ _ _ => False)) { tmps := (ps.zip (encs x)).foldl (fun t (p, v) => t.setIfInBounds p v) a.tmps, defers := [] } W)
    (hbody : ∀ (l : Nat) (pre : List α) (x : α) (W : World), pre ++ [x] <+: xs → I pre W → w.heap.size + 1 < W.heap.size → body.wpIn (F.inRound l) (n - 1 - 1) P (postC (fun k => hold k ∨ k = w.heap.size ∨ k = w.heap.size + 1) I Ix (pre ++ [x]) W) (a₁ x) W)
    (hdone : ∀ (W : World), I xs W → W.heap[w.heap.size]? = some (.deferred (some [])) → Q .normal { a with defers := { target := .collected w.heap.size, args := #[] } :: a.defers } W)
    (hstop : ∀ (j : Code) (pre : List α) (W : World), Ix j pre W → W.heap[w.heap.size]? = some (.deferred (some [])) → j.wpIn F n P Q { a with defers := { target := .collected w.heap.size, args := #[] } :: a.defers } W) :
    (Code.rangeFunc g ps assign body).wpIn F n P Q a w := by
  refine wpIn_rangeFunc ?_
  intro fn hfn
  rw [hro]
  obtain ⟨rec, hrec⟩ : ∃ rec : LoopState → Option Code → Loop, rec = fun st pe => { state := st, pending := pe, fn, tmps := a.tmps, params := ps, assign, body, defers := w.heap.size } := ⟨_, rfl⟩
  obtain ⟨W1, hW1⟩ : ∃ W1, (w.alloc (.deferred (some []))).alloc (.loop (rec .ready none)) = W1 := ⟨_, rfl⟩
  have hL1 : W1.heap[w.heap.size + 1]? = some (.loop (rec .ready none)) := by
    rw [← hW1]; have := World.alloc_heap_new (w.alloc (.deferred (some []))) (.loop (rec .ready none)); rwa [World.size_alloc] at this
  have hK1 : W1.heap[w.heap.size]? = some (.deferred (some [])) := by
    rw [← hW1]; exact (Below.heap_alloc _ _ _ (by simp)).trans (World.alloc_heap_new w _)
  have hI1 : I [] W1 := hI _ _ _ h0 (by rw [← hW1]; exact ((Only.refl _ w).alloc _).alloc _)
  have hb1 : Below w0.heap.size w0 W1 := by
    rw [← hW1]; exact hb0.trans ((((Below.refl _ w).alloc (Nat.le_refl _) _).alloc (by simp) _).mono hb0.size)
  refine ⟨w.heap.size + 1, [{ target := .collected w.heap.size, args := #[] }], W1, { target := .fn (.func gf) lb, args := #[.func (.yield (w.heap.size + 1)) #[] #[]] }, W1, gf,
    #[.func (.yield (w.heap.size + 1)) #[] #[]] ++ lb, W1, ?_, ?_, ?_, ?_, fun _ => h1, ?_⟩
  · rw [← hW1, hrec]; exact run_enterLoop_outer _ _ _ _ _
  · simp only [resolve, hg]
    simp [go_sem]
  · intro f' hf'; simp [Target.leads] at hf'; subst hf'; exact hFg
  · simp [invoke, go_sem, eg]
  · have up1 : ∀ {A B : World}, Only (· = c) A B → Only (fun k => k = c ∨ k = w.heap.size ∨ k = w.heap.size + 1) A B := fun h => h.mono fun k e => .inl e
    have book : ∀ {A B : World} {k : Nat} {o : Obj}, Only (· = c) A B → A.heap[k]? = some o → w.heap.size ≤ k → B.heap[k]? = some o := fun ho hk hle => (ho.block _ (Array.getElem?_eq_some_iff.1 hk).1 (by omega)).trans hk
    refine (hseq (w.heap.size + 1)
      (fun pre W => I pre W ∧ W.heap[w.heap.size + 1]? = some (.loop (rec .ready none)) ∧ W.heap[w.heap.size]? = some (.deferred (some [])))
      (fun pre W => ∃ j, Ix j pre W ∧ W.heap[w.heap.size + 1]? = some (.loop (rec .done (some j))) ∧ W.heap[w.heap.size]? = some (.deferred (some [])))
      W1 hb1
      (fun s A B hs ho => ⟨hI s A B hs.1 (up1 ho), book ho hs.2.1 (by omega), book ho hs.2.2 (Nat.le_refl _)⟩)
      (fun s A B hs ho => by
        obtain ⟨j, hj, hl, hk⟩ := hs
        exact ⟨j, hIx j s A B hj (up1 ho), book ho hl (by omega), book ho hk (Nat.le_refl _)⟩)
      ?_ ⟨hI1, hL1, hK1⟩).mono ?_
    · rintro pre x W hpx ⟨hi, hl, hk⟩
      have hlt : w.heap.size + 1 < W.heap.size := (Array.getElem?_eq_some_iff.1 hl).1
      have hy := run_yield (P := P) (args := encs x) hl (by rw [hrec]; exact hps x)
      rw [hrec] at hy
      refine ⟨fn, _, assign, body, hy, roundIn_of_wpIn hfn (hassign _ x W _ ⟨_, run_beginRound hl (by rw [hrec]), ?_⟩)⟩
      have hl2 : (W.putObj (w.heap.size + 1) (.loop { rec .ready none with state := .busy })).heap[w.heap.size + 1]? = some (.loop { rec .ready none with state := .busy }) := World.putObj_heap_same hlt
      have hk2 : (W.putObj (w.heap.size + 1) (.loop { rec .ready none with state := .busy })).heap[w.heap.size]? = some (.deferred (some [])) := (World.putObj_heap_other (by omega)).trans hk
      have po : ∀ (A : World) (o : Obj), Only (fun k => k = c ∨ k = w.heap.size ∨ k = w.heap.size + 1) A (A.putObj (w.heap.size + 1) o) := fun A o => Only.putObj A _ o (.inr (.inr rfl))
      refine wpIn_mono (hbody _ pre x _ hpx (hI _ _ _ hi (po _ _)) (by rw [World.putObj_size]; exact hlt)) ?_
      have fin : ∀ (jump : Option Code) (W3 : World), (∀ k, (hold k ∨ k = w.heap.size ∨ k = w.heap.size + 1) → W3.heap[k]? = (W.putObj (w.heap.size + 1) (.loop { rec .ready none with state := .busy })).heap[k]?) →
          (Instr.endRound (w.heap.size + 1) jump).run P W3 = .ok (.bool jump.isNone) (W3.putObj (w.heap.size + 1) (.loop (rec (if jump.isNone then .ready else .done) jump))) ∧
          (W3.putObj (w.heap.size + 1) (.loop (rec (if jump.isNone then .ready else .done) jump))).heap[w.heap.size + 1]? = some (.loop (rec (if jump.isNone then .ready else .done) jump)) ∧
          (W3.putObj (w.heap.size + 1) (.loop (rec (if jump.isNone then .ready else .done) jump))).heap[w.heap.size]? = some (.deferred (some [])) ∧
          (∀ k, hold k → (W3.putObj (w.heap.size + 1) (.loop (rec (if jump.isNone then .ready else .done) jump))).heap[k]? = W.heap[k]?) := fun jump W3 hk3 => by
        have hl3 := (hk3 _ (.inr (.inr rfl))).trans hl2
        have := run_endRound (P := P) jump hl3
        rw [hrec] at this ⊢
        refine ⟨this, World.putObj_heap_same (Array.getElem?_eq_some_iff.1 hl3).1, (World.putObj_heap_other (by omega)).trans ((hk3 _ (.inr (.inl rfl))).trans hk2), fun k hkk => ?_⟩
        have := hh k hkk
        rw [World.putObj_heap_other (by omega), hk3 k (.inl hkk), World.putObj_heap_other (by omega)]
      rintro e a3 W3 hp
      cases e with
      | normal =>
        obtain ⟨hk3, hi3⟩ := hp
        obtain ⟨hr, hl4, hk4, hh4⟩ := fin none W3 hk3
        exact ⟨_, _, hr, .inl ⟨rfl, ⟨hI _ _ _ hi3 (po _ _), hl4, hk4⟩, hh4⟩⟩
      | ret =>
        obtain ⟨hk3, hi3⟩ := hp
        obtain ⟨hr, hl4, hk4, hh4⟩ := fin (some .ret) W3 hk3
        exact ⟨_, _, hr, .inr ⟨rfl, .ret, (hIx _) _ _ _ hi3 (po _ _), hl4, hk4⟩⟩
      | exit id =>
        obtain ⟨hk3, hi3⟩ := hp
        obtain ⟨hr, hl4, hk4, hh4⟩ := fin (some (.exit id)) W3 hk3
        exact ⟨_, _, hr, .inr ⟨rfl, .exit id, (hIx _) _ _ _ hi3 (po _ _), hl4, hk4⟩⟩
      | goto t =>
        obtain ⟨hk3, hi3⟩ := hp
        obtain ⟨hr, hl4, hk4, hh4⟩ := fin (some (.goto t)) W3 hk3
        exact ⟨_, _, hr, .inr ⟨rfl, .goto t, (hIx _) _ _ _ hi3 (po _ _), hl4, hk4⟩⟩
      | panic ch => exact hp.elim
      | outgrown => exact hp.elim
    · rintro e W2 ⟨⟨v, rfl⟩, (⟨hi, hl, hk⟩ | ⟨pre, j, hi, hl, hk⟩)⟩
      · exact ⟨none, _, by have := run_endLoop (P := P) hl (by rw [hrec]; simp); rw [hrec] at this; exact this, hdone _ (hI _ _ _ hi (Only.putObj _ _ _ (.inr (.inr rfl)))) ((World.putObj_heap_other (by omega)).trans hk)⟩
      · exact ⟨some j, _, by have := run_endLoop (P := P) hl (by rw [hrec]; simp); rw [hrec] at this; exact this, hstop j pre _ ((hIx j) _ _ _ hi (Only.putObj _ _ _ (.inr (.inr rfl)))) ((World.putObj_heap_other (by omega)).trans hk)⟩
end Go.Proofs.YtaflpmpffppfaaaDoor.Mem
/- strings.SplitSeq at the end 13, 10: the word of its iterator. -/
namespace Go.Proofs.YtaflpmpffppfaaaDoor.Mem
open Go.RowKit Go.Shelf Go.Proofs.YtaflpmpffppfaaaDoor.PcL Go.Proofs.YtaflpmpffppfaaaDoor.Aid
attribute [local go_sem] Oper.semAt_some
set_option linter.unusedVariables false
set_option linter.unusedSimpArgs false
/-- how many bytes the captured text has -/
def capt (w : World) (b : Nat) : Nat := match w.cell? ⟨b, 0, none⟩ with | some (.string s) => s.size | _ => 0
theorem capt_eq {w : World} {b : Nat} {t : TypeId} {s : ByteArray} (h : Blk w b t #[.string s]) : capt w b = s.size := by
  unfold capt
  have e : w.cell? ⟨b, 0, none⟩ = some (.string s) := (h.cell 0).trans rfl
  rw [e]
theorem L_toEnd (s : ByteArray) (i : Nat) : L (s.extract i s.size) = (L s).drop i := L_to_end s i
theorem pc_miss (s : ByteArray) (h : Go.Lib.index s.data.toList [13, 10] = -1) : (pcs (L s)).map S = [s] := by
  rw [show pcs (L s) = [L s] from pcs_miss (L s) h]
  simp [S_L]
theorem pc_hit (s : ByteArray) (i : Nat) (h : Go.Lib.index s.data.toList [13, 10] = (i : Int)) : (pcs (L s)).map S = s.extract 0 i :: (pcs (L (s.extract (i + 2) s.size))).map S := by
  rw [show pcs (L s) = (L s).take i :: pcs ((L s).drop (i + 2)) from pcs_hit (L s) i h, L_to_end, List.map_cons]
  congr 1
  apply L_inj
  rw [L_from_start, L_S]
set_option maxRecDepth 100000 in
set_option maxHeartbeats 2000000 in
theorem iter_in (n : Nat) (l bs bp bv : Nat) (hsp : bs ≠ bp) (hsv : bs ≠ bv) (xs : List ByteArray) (J Jx : List ByteArray → World → Prop) (gm : Int)
    (hJ : Mind (· = bs) J) (hgb : 0 ≠ bs)
    (hY : ∀ pre x W1, pre ++ [x] <+: xs → J pre W1 → YieldAt Fence.wide (n - 1) Tryd.prog l #[.string x] W1 fun e W' =>
      (e = .returned (.bool true) ∧ J (pre ++ [x]) W' ∧ ∀ k, (k = bs ∨ k = bp ∨ k = bv ∨ k = 0) → W'.heap[k]? = W1.heap[k]?) ∨ (e = .returned (.bool false) ∧ Jx (pre ++ [x]) W'))
    (W : World) (hM0 : W.cell? ⟨0, 0, none⟩ = some (.int .i64 gm)) (s : ByteArray) (hs : s.size < 4294967281) (hxs : (pcs (L s)).map S = xs)
    (hbs : Blk W bs 9 #[.string s]) (hbp : Blk W bp 9 #[.string ⟨#[13, 10]⟩]) (hbv : Blk W bv 3 #[.int .i64 0]) (h0 : J [] W) :
    CallsIn Fence.wide n Tryd.prog 42 #[.func (.yield l) #[] #[], .pointer (some ⟨bp, 0, none⟩), .pointer (some ⟨bs, 0, none⟩), .pointer (some ⟨bv, 0, none⟩)] W fun e W' => (∃ v, e = .returned v) ∧
      (J xs W' ∨ (∃ pre, Jx pre W')) := by
  have hro : Fence.wide.round = none := rfl
  have h7 : Fence.wide.fn 42 := trivial
  refine callsIn_of_wp Tryd.func42 rfl h7 ?_ hro
  simp only [Tryd.ntmps42, List.size_toArray, List.length_cons, List.length_nil, Nat.reduceAdd, Nat.reduceSub, Array.replicate_succ, Array.replicate_zero, List.push_toArray, List.append_toArray, List.nil_append, List.cons_append]
  have c0 : W.cell? ⟨bp, 0, none⟩ = some (.string ⟨#[13, 10]⟩) := (hbp.cell 0).trans rfl
  have H0 := Lib.hid hbs
  have HM0 := Lib.hid hM0
  clear hM0
  gi_wp2
  clear c0
  gi_loopw [7] (fun i wr => ∃ (pre : List ByteArray) (r : ByteArray), r.size < 4294967281 ∧ xs = pre ++ (pcs (L r)).map S ∧ Blk wr bs 9 #[.string r] ∧ Blk wr bp 9 #[.string ⟨#[13, 10]⟩] ∧ Blk wr bv 3 #[.int .i64 0] ∧ J pre wr ∧ wr.cell? ⟨0, 0, none⟩ = some (.int .i64 gm))
    (fun i wr => capt wr bs)
  case atStart => exact ⟨[], s, hs, by rw [hxs]; rfl, H0.out, hbp, hbv, h0, HM0.out⟩
  case round =>
    obtain ⟨pre, r, hr, hx, hbs, hbp, hbv, hJs, hm⟩ := hrel
    have cs : wr.cell? ⟨bs, 0, none⟩ = some (.string r) := (hbs.cell 0).trans rfl
    have cp : wr.cell? ⟨bp, 0, none⟩ = some (.string ⟨#[13, 10]⟩) := (hbp.cell 0).trans rfl
    have cv : wr.cell? ⟨bv, 0, none⟩ = some (.int .i64 0) := (hbv.cell 0).trans rfl
    have HBS := Lib.hid hbs
    have HBP := Lib.hid hbp
    have HBV := Lib.hid hbv
    have HX := Lib.hid hx
    have HM := Lib.hid hm
    have HC : Hid (capt wr bs = r.size) := Lib.hid (capt_eq hbs)
    clear hbs hbp hbv hx hm H0 HM0 hxs
    rcases Go.Lib.indexB_cases r ⟨#[13, 10]⟩ with hix | ⟨i, hix, hroom⟩
    · have hcall : Calls Tryd.prog 40 #[.string r, .string ⟨#[13, 10]⟩] wr fun e w' => e = .returned (.int .i64 (-1)) ∧ wr = w' :=
        (Tryd.strings_Index r ⟨#[13, 10]⟩ gm wr hr HM.out).mono fun e w' ⟨he, hw⟩ => ⟨he.trans (by rw [← hix]), hw.symm⟩
      have HP := Lib.hid (pc_miss r hix)
      obtain ⟨fn, tmps, assign, body, hy, hR⟩ := hY pre r wr (by rw [HX.out, HP.out]; exact List.prefix_refl _) hJs
      clear hix
      gi_wp2_with fail
      refine ⟨trivial, fun h => absurd h (by decide), ?_⟩
      refine (callsIn_wide.2 hcall).mono ?_
      rintro e w' ⟨rfl, rfl⟩
      gi_wp2
      refine ⟨fun h => absurd h (by decide), ?_⟩
      refine hR.mono ?_
      rintro e W3 (⟨rfl, hJ3, hk3⟩ | ⟨rfl, hJx3⟩)
      · gi_wp2
        go_end0
        exact ⟨⟨_, rfl⟩, .inl (by rw [HX.out, HP.out]; exact hJ3)⟩
      · gi_wp2
        go_end0
        exact ⟨⟨_, rfl⟩, .inr ⟨_, hJx3⟩⟩
    · have hcall : Calls Tryd.prog 40 #[.string r, .string ⟨#[13, 10]⟩] wr fun e w' => e = .returned (.int .i64 (i : Int)) ∧ wr = w' :=
        (Tryd.strings_Index r ⟨#[13, 10]⟩ gm wr hr HM.out).mono fun e w' ⟨he, hw⟩ => ⟨he.trans (by rw [← hix]), hw.symm⟩
      have HP := Lib.hid (pc_hit r i hix)
      have hsz : (⟨#[13, 10]⟩ : ByteArray).size = 2 := rfl
      rw [hsz] at hroom
      obtain ⟨fn, tmps, assign, body, hy, hR⟩ := hY pre (r.extract 0 i) wr (by rw [HX.out, HP.out]; exact ⟨(pcs (L (r.extract (i + 2) r.size))).map S, by simp⟩) hJs
      clear hix hsz
      gi_wp2_with fail
      refine ⟨trivial, fun h => absurd h (by decide), ?_⟩
      refine (callsIn_wide.2 hcall).mono ?_
      rintro e w' ⟨rfl, rfl⟩
      gi_wp2
      refine ⟨fun h => absurd h (by decide), ?_⟩
      refine hR.mono ?_
      rintro e W3 (⟨rfl, hJ3, hk3⟩ | ⟨rfl, hJx3⟩)
      · have hbs3 := HBS.out.same (hk3 bs (.inl rfl))
        have hbp3 := HBP.out.same (hk3 bp (.inr (.inl rfl)))
        have hbv3 := HBV.out.same (hk3 bv (.inr (.inr (.inl rfl))))
        have hm3 := (World.cell?_of_block (a := ⟨0, 0, none⟩) (Below.heap_setCell W3 ⟨bs, 0, none⟩ (.string (r.extract (i + 2) r.size)) 0 hgb)).trans ((World.cell?_of_block (hk3 0 (.inr (.inr (.inr rfl))))).trans HM.out)
        have HM3 := Lib.hid hm3
        clear hm3
        have ds : W3.cell? ⟨bs, 0, none⟩ = some (.string r) := (hbs3.cell 0).trans rfl
        have dp : W3.cell? ⟨bp, 0, none⟩ = some (.string ⟨#[13, 10]⟩) := (hbp3.cell 0).trans rfl
        have df := hbs3.frozen 0
        have hi0 : 0 ≤ (i : Int) + 2 := by omega
        have hi1 : (i : Int) + 2 ≤ (r.size : Int) := by omega
        have hi2 : IntKind.i64.wrap ((i : Int) + 2) = ((i + 2 : Nat) : Int) := by
          rw [show IntKind.i64.wrap ((i : Int) + 2) = (i : Int) + 2 from IntWalk.i64_in _ ⟨by omega, by omega⟩]; omega
        have hJ4 := hJ _ _ _ hJ3 ((Only.refl (· = bs) W3).put rfl 0 (.string (r.extract (i + 2) r.size)))
        have hB4 := hbs3.set_ 0 (.string (r.extract (i + 2) r.size))
        have hB5 := hbp3.far (p := ⟨bs, 0, none⟩) (Ne.symm hsp) (.string (r.extract (i + 2) r.size))
        have hB6 := hbv3.far (p := ⟨bs, 0, none⟩) (Ne.symm hsv) (.string (r.extract (i + 2) r.size))
        clear hbs3 hbp3 hbv3 hJ3 cs cp cv
        gi_wp2
        go_roundw
        case rel => exact ⟨pre ++ [r.extract 0 i], r.extract (i + 2) r.size, by rw [ByteArray.size_extract]; omega, by rw [HX.out, HP.out]; simp, hB4, hB5, hB6, hJ4, HM3.out⟩
        case measure => rw [HC.out, capt_eq hB4, ByteArray.size_extract]; omega
      · gi_wp2
        refine bodyPost_ret (results_none rfl _ _ _) rfl ?_
        exact ⟨⟨_, rfl⟩, .inr ⟨_, hJx3⟩⟩
/-- the blocks that the iterator reads -/
def splitHold (b k : Nat) : Prop := k = b ∨ k = b + 1 ∨ k = b + 2 ∨ k = 0
/-- strings.SplitSeq(s, "\r\n"): its iterator tells the pieces -/
theorem split_seq (n : Nat) (w : World) (s : ByteArray) (hs : s.size < 4294967281) (gm : Int) (hm : w.cell? ⟨0, 0, none⟩ = some (.int .i64 gm)) :
    SeqC Fence.wide n Tryd.prog 42 #[.pointer (some ⟨w.heap.size + 1, 0, none⟩), .pointer (some ⟨w.heap.size, 0, none⟩), .pointer (some ⟨w.heap.size + 2, 0, none⟩)] (fun x : ByteArray => #[.string x]) w.heap.size (splitHold w.heap.size) ((pcs (L s)).map S)
      (((w.alloc (.cells #[.string s] 9)).alloc (.cells #[.string ⟨#[13, 10]⟩] 9)).alloc (.cells #[.int .i64 0] 3)) := by
  intro l J Jx W hW hJ hJx hY h0
  have b0 := ((Blk.new w 9 #[.string s]).alloc (.cells #[.string ⟨#[13, 10]⟩] 9)).alloc (.cells #[.int .i64 0] 3)
  have b1 := (Blk.new (w.alloc (.cells #[.string s] 9)) 9 #[.string ⟨#[13, 10]⟩]).alloc (.cells #[.int .i64 0] 3)
  have b2 := Blk.new ((w.alloc (.cells #[.string s] 9)).alloc (.cells #[.string ⟨#[13, 10]⟩] 9)) 3 #[.int .i64 0]
  simp only [World.size_alloc] at b1 b2
  have hlt := World.block_lt_of_cell? w _ hm
  have hm2 : Below w.heap.size w (((w.alloc (.cells #[.string s] 9)).alloc (.cells #[.string ⟨#[13, 10]⟩] 9)).alloc (.cells #[.int .i64 0] 3)) := (((Below.refl _ w).alloc (Nat.le_refl _) _).alloc (by simp) _).alloc (by simp; omega) _
  have hm3 : W.cell? ⟨0, 0, none⟩ = some (.int .i64 gm) := (hW.cell (World.block_lt_of_cell? _ _ ((hm2.cell hlt).trans hm))).trans ((hm2.cell hlt).trans hm)
  exact iter_in n l w.heap.size (w.heap.size + 1) (w.heap.size + 2) (by omega) (by omega) _ J Jx gm hJ (Nat.ne_of_lt hlt) hY W hm3 s hs rfl (b0.below hW) (b1.below hW) (b2.below hW) h0
set_option maxHeartbeats 1000000 in
theorem splitSeq_calls (w : World) (s : ByteArray) : Calls Tryd.prog 21 #[.string s, .string ⟨#[13, 10]⟩] w fun e w' =>
    e = .returned (.func (.func 42) #[] #[.pointer (some ⟨w.heap.size + 1, 0, none⟩), .pointer (some ⟨w.heap.size, 0, none⟩), .pointer (some ⟨w.heap.size + 2, 0, none⟩)]) ∧
    w' = (((w.alloc (.cells #[.string s] 9)).alloc (.cells #[.string ⟨#[13, 10]⟩] 9)).alloc (.cells #[.int .i64 0] 3)) := by
  have h1 : Calls Tryd.prog 33 #[.string s, .string ⟨#[13, 10]⟩, .int .i64 0] w fun e w' =>
    e = .returned (.func (.func 42) #[] #[.pointer (some ⟨w.heap.size + 1, 0, none⟩), .pointer (some ⟨w.heap.size, 0, none⟩), .pointer (some ⟨w.heap.size + 2, 0, none⟩)]) ∧
    w' = (((w.alloc (.cells #[.string s] 9)).alloc (.cells #[.string ⟨#[13, 10]⟩] 9)).alloc (.cells #[.int .i64 0] 3)) := by
    go_enter Tryd.func33, Tryd.ntmps33
    go_wp2
    go_ret
    exact ⟨rfl, rfl⟩
  go_enter Tryd.func21, Tryd.ntmps21
  go_wp2_with fail
  refine h1.mono ?_
  rintro e w' ⟨rfl, rfl⟩
  go_wp2
  go_ret
  exact ⟨rfl, rfl⟩
end Go.Proofs.YtaflpmpffppfaaaDoor.Mem
