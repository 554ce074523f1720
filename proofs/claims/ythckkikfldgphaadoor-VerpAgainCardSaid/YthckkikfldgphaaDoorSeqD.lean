/- strings.SplitSeq at a dot: the word of its iterator. -/
import Derived.Test.YthckkikfldgphaaDoorShelf
import Derived.Test.YthckkikfldgphaaDoorRangeC
import Derived.Test.YthckkikfldgphaaDoorPcD
import Derived.Shelf.Abstract
import Derived.WalkKit
import Derived.OwnWalkIn
import Derived.TacticsInMore
import Derived.LoopNIn
import Derived.LoopIn
import Derived.Lib.Hide
namespace Go.Proofs.YthckkikfldgphaaDoor.Mem
open Go.RowKit Go.Shelf Go.Proofs.YthckkikfldgphaaDoor.PcD Go.Proofs.YthckkikfldgphaaDoor.Aid
attribute [local go_sem] Oper.semAt_some
set_option linter.unusedVariables false
set_option linter.unusedSimpArgs false
/-- how many bytes the captured text has -/
def capt (w : World) (b : Nat) : Nat := match w.cell? ⟨b, 0, none⟩ with | some (.string s) => s.size | _ => 0
theorem capt_eq {w : World} {b : Nat} {t : TypeId} {s : ByteArray} (h : Blk w b t #[.string s]) : capt w b = s.size := by
  unfold capt
  have e : w.cell? ⟨b, 0, none⟩ = some (.string s) := (h.cell 0).trans rfl
  rw [e]
theorem L_toEnd (s : ByteArray) (i : Nat) : L (s.extract i s.size) = (L s).drop i := L_to_end s i
theorem pc_miss (s : ByteArray) (h : Go.Lib.index s.data.toList [46] = -1) : (pcs (L s)).map S = [s] := by
  rw [show pcs (L s) = [L s] from pcs_miss (L s) h]
  simp [S_L]
theorem pc_hit (s : ByteArray) (i : Nat) (h : Go.Lib.index s.data.toList [46] = (i : Int)) : (pcs (L s)).map S = s.extract 0 i :: (pcs (L (s.extract (i + 1) s.size))).map S := by
  rw [show pcs (L s) = (L s).take i :: pcs ((L s).drop (i + 1)) from pcs_hit (L s) i h, L_to_end, List.map_cons]
  congr 1
  apply L_inj
  rw [L_from_start, L_S]
set_option maxRecDepth 100000 in
set_option maxHeartbeats 2000000 in
theorem iter_in (n : Nat) (l bs bp bv : Nat) (hsp : bs ≠ bp) (hsv : bs ≠ bv) (xs : List ByteArray) (J Jx : List ByteArray → World → Prop) (gm : Int)
    (hJ : Mind (· = bs) J) (hgb : 0 ≠ bs)
    (hY : ∀ pre x W1, pre ++ [x] <+: xs → J pre W1 → YieldAt Fence.wide (n - 1) Tryd.prog l #[.string x] W1 fun e W' =>
      (e = .returned (.bool true) ∧ J (pre ++ [x]) W' ∧ ∀ k, (k = bs ∨ k = bp ∨ k = bv ∨ k = 0) → W'.heap[k]? = W1.heap[k]?) ∨ (e = .returned (.bool false) ∧ Jx (pre ++ [x]) W'))
    (W : World) (hM0 : W.cell? ⟨0, 0, none⟩ = some (.int .i64 gm)) (s : ByteArray) (hs : s.size < 4294967281) (hxs : (pcs (L s)).map S = xs)
    (hbs : Blk W bs 9 #[.string s]) (hbp : Blk W bp 9 #[.string ⟨#[46]⟩]) (hbv : Blk W bv 3 #[.int .i64 0]) (h0 : J [] W) :
    CallsIn Fence.wide n Tryd.prog 79 #[.func (.yield l) #[] #[], .pointer (some ⟨bp, 0, none⟩), .pointer (some ⟨bs, 0, none⟩), .pointer (some ⟨bv, 0, none⟩)] W fun e W' => (∃ v, e = .returned v) ∧
      (J xs W' ∨ (∃ pre, Jx pre W')) := by
  have hro : Fence.wide.round = none := rfl
  have h7 : Fence.wide.fn 79 := trivial
  refine callsIn_of_wp Tryd.func79 rfl h7 ?_ hro
  simp only [Tryd.ntmps79, List.size_toArray, List.length_cons, List.length_nil, Nat.reduceAdd, Nat.reduceSub, Array.replicate_succ, Array.replicate_zero, List.push_toArray, List.append_toArray, List.nil_append, List.cons_append]
  have c0 : W.cell? ⟨bp, 0, none⟩ = some (.string ⟨#[46]⟩) := (hbp.cell 0).trans rfl
  have H0 := Lib.hid hbs
  have HM0 := Lib.hid hM0
  clear hM0
  gi_wp2
  clear c0
  gi_loopw [7] (fun i wr => ∃ (pre : List ByteArray) (r : ByteArray), r.size < 4294967281 ∧ xs = pre ++ (pcs (L r)).map S ∧ Blk wr bs 9 #[.string r] ∧ Blk wr bp 9 #[.string ⟨#[46]⟩] ∧ Blk wr bv 3 #[.int .i64 0] ∧ J pre wr ∧ wr.cell? ⟨0, 0, none⟩ = some (.int .i64 gm))
    (fun i wr => capt wr bs)
  case atStart => exact ⟨[], s, hs, by rw [hxs]; rfl, H0.out, hbp, hbv, h0, HM0.out⟩
  case round =>
    obtain ⟨pre, r, hr, hx, hbs, hbp, hbv, hJs, hm⟩ := hrel
    have cs : wr.cell? ⟨bs, 0, none⟩ = some (.string r) := (hbs.cell 0).trans rfl
    have cp : wr.cell? ⟨bp, 0, none⟩ = some (.string ⟨#[46]⟩) := (hbp.cell 0).trans rfl
    have cv : wr.cell? ⟨bv, 0, none⟩ = some (.int .i64 0) := (hbv.cell 0).trans rfl
    have HBS := Lib.hid hbs
    have HBP := Lib.hid hbp
    have HBV := Lib.hid hbv
    have HX := Lib.hid hx
    have HM := Lib.hid hm
    have HC : Hid (capt wr bs = r.size) := Lib.hid (capt_eq hbs)
    clear hbs hbp hbv hx hm H0 HM0 hxs
    rcases Go.Lib.indexB_cases r ⟨#[46]⟩ with hix | ⟨i, hix, hroom⟩
    · have hcall : Calls Tryd.prog 81 #[.string r, .string ⟨#[46]⟩] wr fun e w' => e = .returned (.int .i64 (-1)) ∧ wr = w' :=
        (Tryd.strings_Index r ⟨#[46]⟩ gm wr hr HM.out).mono fun e w' ⟨he, hw⟩ => ⟨he.trans (by rw [← hix]), hw.symm⟩
      have HP := Lib.hid (pc_miss r hix)
      obtain ⟨fn, tmps, assign, body, hy, hR⟩ := hY pre r wr (by rw [HX.out, HP.out]; exact List.prefix_refl _) hJs
      clear hix
      gi_wp2_with fail
      refine ⟨trivial, fun h => absurd h (by decide), ?_⟩
      refine (callsIn_wide.2 hcall).mono ?_
      rintro e w' ⟨rfl, rfl⟩
      gi_wp2
      refine ⟨fun h => absurd h (by decide), ?_⟩
      refine hR.mono ?_
      rintro e W3 (⟨rfl, hJ3, hk3⟩ | ⟨rfl, hJx3⟩)
      · gi_wp2
        go_end0
        exact ⟨⟨_, rfl⟩, .inl (by rw [HX.out, HP.out]; exact hJ3)⟩
      · gi_wp2
        go_end0
        exact ⟨⟨_, rfl⟩, .inr ⟨_, hJx3⟩⟩
    · have hcall : Calls Tryd.prog 81 #[.string r, .string ⟨#[46]⟩] wr fun e w' => e = .returned (.int .i64 (i : Int)) ∧ wr = w' :=
        (Tryd.strings_Index r ⟨#[46]⟩ gm wr hr HM.out).mono fun e w' ⟨he, hw⟩ => ⟨he.trans (by rw [← hix]), hw.symm⟩
      have HP := Lib.hid (pc_hit r i hix)
      have hsz : (⟨#[46]⟩ : ByteArray).size = 1 := rfl
      rw [hsz] at hroom
      obtain ⟨fn, tmps, assign, body, hy, hR⟩ := hY pre (r.extract 0 i) wr (by rw [HX.out, HP.out]; exact ⟨(pcs (L (r.extract (i + 1) r.size))).map S, by simp⟩) hJs
      clear hix hsz
      gi_wp2_with fail
      refine ⟨trivial, fun h => absurd h (by decide), ?_⟩
      refine (callsIn_wide.2 hcall).mono ?_
      rintro e w' ⟨rfl, rfl⟩
      gi_wp2
      refine ⟨fun h => absurd h (by decide), ?_⟩
      refine hR.mono ?_
      rintro e W3 (⟨rfl, hJ3, hk3⟩ | ⟨rfl, hJx3⟩)
      · have hbs3 := HBS.out.same (hk3 bs (.inl rfl))
        have hbp3 := HBP.out.same (hk3 bp (.inr (.inl rfl)))
        have hbv3 := HBV.out.same (hk3 bv (.inr (.inr (.inl rfl))))
        have hm3 := (World.cell?_of_block (a := ⟨0, 0, none⟩) (Below.heap_setCell W3 ⟨bs, 0, none⟩ (.string (r.extract (i + 1) r.size)) 0 hgb)).trans ((World.cell?_of_block (hk3 0 (.inr (.inr (.inr rfl))))).trans HM.out)
        have HM3 := Lib.hid hm3
        clear hm3
        have ds : W3.cell? ⟨bs, 0, none⟩ = some (.string r) := (hbs3.cell 0).trans rfl
        have dp : W3.cell? ⟨bp, 0, none⟩ = some (.string ⟨#[46]⟩) := (hbp3.cell 0).trans rfl
        have df := hbs3.frozen 0
        have hi0 : 0 ≤ (i : Int) + 1 := by omega
        have hi1 : (i : Int) + 1 ≤ (r.size : Int) := by omega
        have hi2 : IntKind.i64.wrap ((i : Int) + 1) = ((i + 1 : Nat) : Int) := by
          rw [show IntKind.i64.wrap ((i : Int) + 1) = (i : Int) + 1 from IntWalk.i64_in _ ⟨by omega, by omega⟩]; omega
        have hJ4 := hJ _ _ _ hJ3 ((Only.refl (· = bs) W3).put rfl 0 (.string (r.extract (i + 1) r.size)))
        have hB4 := hbs3.set_ 0 (.string (r.extract (i + 1) r.size))
        have hB5 := hbp3.far (p := ⟨bs, 0, none⟩) (Ne.symm hsp) (.string (r.extract (i + 1) r.size))
        have hB6 := hbv3.far (p := ⟨bs, 0, none⟩) (Ne.symm hsv) (.string (r.extract (i + 1) r.size))
        clear hbs3 hbp3 hbv3 hJ3 cs cp cv
        gi_wp2
        go_roundw
        case rel => exact ⟨pre ++ [r.extract 0 i], r.extract (i + 1) r.size, by rw [ByteArray.size_extract]; omega, by rw [HX.out, HP.out]; simp, hB4, hB5, hB6, hJ4, HM3.out⟩
        case measure => rw [HC.out, capt_eq hB4, ByteArray.size_extract]; omega
      · gi_wp2
        refine bodyPost_ret (results_none rfl _ _ _) rfl ?_
        exact ⟨⟨_, rfl⟩, .inr ⟨_, hJx3⟩⟩
/-- the blocks that the iterator reads -/
def splitHold (b k : Nat) : Prop := k = b ∨ k = b + 1 ∨ k = b + 2 ∨ k = 0
/-- strings.SplitSeq(s, "."): its iterator tells the pieces -/
theorem split_seq (n : Nat) (w : World) (s : ByteArray) (hs : s.size < 4294967281) (gm : Int) (hm : w.cell? ⟨0, 0, none⟩ = some (.int .i64 gm)) :
    SeqC Fence.wide n Tryd.prog 79 #[.pointer (some ⟨w.heap.size + 1, 0, none⟩), .pointer (some ⟨w.heap.size, 0, none⟩), .pointer (some ⟨w.heap.size + 2, 0, none⟩)] (fun x : ByteArray => #[.string x]) w.heap.size (splitHold w.heap.size) ((pcs (L s)).map S)
      (((w.alloc (.cells #[.string s] 9)).alloc (.cells #[.string ⟨#[46]⟩] 9)).alloc (.cells #[.int .i64 0] 3)) := by
  intro l J Jx W hW hJ hJx hY h0
  have b0 := ((Blk.new w 9 #[.string s]).alloc (.cells #[.string ⟨#[46]⟩] 9)).alloc (.cells #[.int .i64 0] 3)
  have b1 := (Blk.new (w.alloc (.cells #[.string s] 9)) 9 #[.string ⟨#[46]⟩]).alloc (.cells #[.int .i64 0] 3)
  have b2 := Blk.new ((w.alloc (.cells #[.string s] 9)).alloc (.cells #[.string ⟨#[46]⟩] 9)) 3 #[.int .i64 0]
  simp only [World.size_alloc] at b1 b2
  have hlt := World.block_lt_of_cell? w _ hm
  have hm2 : Below w.heap.size w (((w.alloc (.cells #[.string s] 9)).alloc (.cells #[.string ⟨#[46]⟩] 9)).alloc (.cells #[.int .i64 0] 3)) := (((Below.refl _ w).alloc (Nat.le_refl _) _).alloc (by simp) _).alloc (by simp; omega) _
  have hm3 : W.cell? ⟨0, 0, none⟩ = some (.int .i64 gm) := (hW.cell (World.block_lt_of_cell? _ _ ((hm2.cell hlt).trans hm))).trans ((hm2.cell hlt).trans hm)
  exact iter_in n l w.heap.size (w.heap.size + 1) (w.heap.size + 2) (by omega) (by omega) _ J Jx gm hJ (Nat.ne_of_lt hlt) hY W hm3 s hs rfl (b0.below hW) (b1.below hW) (b2.below hW) h0
set_option maxHeartbeats 1000000 in
theorem splitSeq_calls (w : World) (s : ByteArray) : Calls Tryd.prog 55 #[.string s, .string ⟨#[46]⟩] w fun e w' =>
    e = .returned (.func (.func 79) #[] #[.pointer (some ⟨w.heap.size + 1, 0, none⟩), .pointer (some ⟨w.heap.size, 0, none⟩), .pointer (some ⟨w.heap.size + 2, 0, none⟩)]) ∧
    w' = (((w.alloc (.cells #[.string s] 9)).alloc (.cells #[.string ⟨#[46]⟩] 9)).alloc (.cells #[.int .i64 0] 3)) := by
  have h1 : Calls Tryd.prog 67 #[.string s, .string ⟨#[46]⟩, .int .i64 0] w fun e w' =>
    e = .returned (.func (.func 79) #[] #[.pointer (some ⟨w.heap.size + 1, 0, none⟩), .pointer (some ⟨w.heap.size, 0, none⟩), .pointer (some ⟨w.heap.size + 2, 0, none⟩)]) ∧
    w' = (((w.alloc (.cells #[.string s] 9)).alloc (.cells #[.string ⟨#[46]⟩] 9)).alloc (.cells #[.int .i64 0] 3)) := by
    go_enter Tryd.func67, Tryd.ntmps67
    go_wp2
    go_ret
    exact ⟨rfl, rfl⟩
  go_enter Tryd.func55, Tryd.ntmps55
  go_wp2_with fail
  refine h1.mono ?_
  rintro e w' ⟨rfl, rfl⟩
  go_wp2
  go_ret
  exact ⟨rfl, rfl⟩
end Go.Proofs.YthckkikfldgphaaDoor.Mem
