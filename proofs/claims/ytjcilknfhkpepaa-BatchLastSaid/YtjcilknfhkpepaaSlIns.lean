/- slices.Insert of one element into a slice of structs: copy and Insert, walked. -/
import Derived.Test.YtjcilknfhkpepaaMem
import Derived.Test.YtjcilknfhkpepaaShelf
import Derived.Shelf.RegionOpenPlain
import Derived.WalkKit
import Derived.Lib.Walk
import Derived.Lib.SliceRun
import Derived.Lib.JoinLaws
import Derived.Lib.AppendZeros
import Derived.Lib.AppendZerosOnto
import Derived.Lib.Overlaps
import Derived.Laws.Externs
import Derived.Laws.IdiomCopy
import Derived.Laws.NewBlocks
import Derived.Deep.MidRow
import Derived.Lib.Hide
namespace Go.Proofs.Ytjcilknfhkpepaa.Ins
open Go Go.RowKit Go.Lib Go.Proofs.Ytjcilknfhkpepaa.Mem
set_option linter.unusedVariables false
set_option linter.unusedSimpArgs false
/-! ### copy, of elements of several cells -/
theorem run_copy_z {P : Program} (w : World) (dT sT ty elem : TypeId) (z k : Nat) (b o dLen dCap : Nat) (a : Addr) (sLen sCap : Nat) (cs : List Value)
    (hu : P.underlying dT = some (.slice elem)) (hs : (P.info? elem).map (·.size) = some z) (hk : Nat.min sLen dLen = k) (hn : cs.length = k * z)
    (hsrc : ∀ j v, cs[j]? = some v → w.cell? (a.add j) = some v) (hc : ∀ j, j < cs.length → (w.cell? ⟨b, o + j, none⟩).isSome = true) (hf : ∀ j, j < cs.length → w.frozen? ⟨b, o + j, none⟩ = false) (h1 : ∀ v ∈ cs, v.oneCell' = true) :
    (Builtin.copy_ #[dT, sT] ty #[.slice (some ⟨b, o, none⟩) dLen dCap, .slice (some a) sLen sCap]).run P w = .ok (goInt k) (w.setCells b o cs) := by
  have hl := run_firstCells_some (P := P) w z k a sLen sCap cs hn hsrc
  have hst := run_storeCells_cells (P := P) b o cs 0 w (by simpa using hc) (by simpa using hf) h1
  cases hq : P.info? elem with
  | none => simp [hq] at hs
  | some i =>
    have hi : i.size = z := by simpa [hq] using hs
    simp [Builtin.copy_, run_underlying hu, Builtin.lenOf, sizeOf, typeInfo, hq, hi, hk, hl, hst]
theorem wpList_copy_z (w : World) {P : Program} {ops : Array Oper} {rest : List Oper} {o : Oper} {a : Act} {Q : Exit → Act → World → Prop} (hgd : o.guard = none) (d s : Operand) (t t' : TypeId)
    (ho : o.op = .call { callee := .builtin .copy, args := #[d, s], argTypes := #[t, t'] }) (v u : Value) (hd : a.eval d = v) (hs : a.eval s = u) {v' : Value} {w' : World}
    (hr : (Builtin.copy_ #[t, t'] o.type #[v, u]).run P w = .ok v' w') (h : wpList P ops Q rest (a.put o.dst v') w') : wpList P ops Q (o :: rest) a w :=
  wpList_plain hgd fun _ hK => by
    unfold Oper.wp execOp
    simp only [ho, resolve, invoke, builtin, Sem.run_bind, Sem.run_pure, Result.andThen_ok, List.map_toArray, List.map_cons, List.map_nil, hd, hs, hr]
    exact hK _ _ h
theorem step_copy_z {P : Program} {ops : Array Oper} {o : Oper} {a : Act} {w : World} {K : Act → World → Prop} {Q : Exit → Act → World → Prop} {E : Prop}
    (hg : o.guard = none) (d x : Operand) (dT sT : TypeId) (hop : o.op = Op.call { callee := Callee.builtin Builtin.copy, args := #[d, x], argTypes := #[dT, sT] })
    (v u : Value) (hd : a.eval d = v) (hx : a.eval x = u) {v' : Value} {w' : World} (hr : (Builtin.copy_ #[dT, sT] o.type #[v, u]).run P w = .ok v' w') (hK : K (a.put o.dst v') w') :
    if Region.wanted o (yielded ops a.tmps) = true then Oper.wp P o a w K Q else E := by
  have hw : Region.wanted o (yielded ops a.tmps) = true := by simp [Region.wanted, hg]
  rw [if_pos hw]
  unfold Oper.wp
  simp [execOp, hop, resolve, invoke, builtin, hd, hx, hr, Result.andThen]
  exact hK
/-! ### lists of cells -/
/-- cells moved up, one element put between -/
theorem shifted (cur xs vs : List Value) (off p m z : Nat) (hxs : (cur.drop off).take m = xs) (hl : xs.length = m) (h3 : p ≤ m) (hv : vs.length = z) (hfit : off + m + z ≤ cur.length) :
    ((((cur.take (off + p + z) ++ xs.drop p ++ cur.drop (off + p + z + (xs.drop p).length)).take (off + p) ++ vs ++ (cur.take (off + p + z) ++ xs.drop p ++ cur.drop (off + p + z + (xs.drop p).length)).drop (off + p + vs.length)).drop off).take (m + z)) = xs.take p ++ vs ++ xs.drop p := by
  have hd : (xs.drop p).length = m - p := by rw [List.length_drop, hl]
  have e1 : (cur.take (off + p + z) ++ xs.drop p ++ cur.drop (off + p + z + (xs.drop p).length)).take (off + p) = cur.take (off + p) := by
    rw [List.append_assoc, List.take_append_of_le_length (by rw [List.length_take]; omega), List.take_take, Nat.min_eq_left (by omega)]
  have e2 : (cur.take (off + p + z) ++ xs.drop p ++ cur.drop (off + p + z + (xs.drop p).length)).drop (off + p + vs.length) = xs.drop p ++ cur.drop (off + p + z + (xs.drop p).length) := by
    have hlen : (cur.take (off + p + z)).length = off + p + vs.length := by rw [List.length_take, hv]; omega
    rw [List.append_assoc, ← hlen, List.drop_left]
  rw [e1, e2]
  have e3 : (cur.take (off + p)).drop off = xs.take p := by
    rw [← hxs, List.drop_take, List.take_take, Nat.add_sub_cancel_left, Nat.min_eq_left h3]
  have hlt : (xs.take p).length = p := by rw [List.length_take, hl]; omega
  rw [List.append_assoc, List.drop_append_of_le_length (by rw [List.length_take]; omega), e3, ← List.append_assoc, ← List.append_assoc, List.take_append_of_le_length (by rw [List.length_append, List.length_append, hlt, hd, hv]; omega)]
  exact List.take_of_length_le (by rw [List.length_append, List.length_append, hlt, hd, hv]; omega)
theorem setCells_blk {w : World} {g o : Nat} {t : TypeId} {cur : Array Value} (h : Blk w g t cur) (vs : List Value) : Blk (w.setCells g o vs) g t (putMany cur o vs) := h.many vs o
theorem sizeT : (Try.prog.info? 31).map (·.size) = some 3 := by kernel_rfl
theorem info_T : (Try.prog.info? 31).map (fun i => (i.zero, i.size, i.bytes)) = some (some (.agg #[.string ⟨#[]⟩, .string ⟨#[]⟩, .bool false]), 3, 40) := by kernel_rfl
theorem no_overlap (w : World) (vb g o : Nat) (lb cb : Nat) (cs cur : Array Value) (hv : Blk w vb 31 cs) (hg : Blk w g 31 cur) (hne : vb ≠ g) (h0 : cur.size ≠ 0) :
    (callFunc 48 #[.slice (some ⟨vb, 0, none⟩) 1 1, .slice (some ⟨g, o, none⟩) lb cb]).run Try.prog w = .ok (.value (.bool false)) w := by
  obtain ⟨i0, hi, hz0, hz1, hz2⟩ := info_parts info_T
  rw [run_callFunc_extern Try.func48 (by kernel_rfl) (by kernel_rfl) (by kernel_rfl) (e := Extern.SlicesOverlaps.overlaps #[59, 59] #[4]) (by kernel_rfl),
    Lib.run_overlaps_apart w 59 4 31 Try.underlying59 3 (fun w => by simp [sizeOf, typeInfo, hi, hz1]) ⟨vb, 0, none⟩ ⟨g, o, none⟩ 1 1 lb cb hne 31 31 cs.size cur.size (by simp [World.shape?, hv, Blk] at hv ⊢; rw [hv]) (by simp [World.shape?, hg, Blk] at hg ⊢; rw [hg]) h0 (hv.frozen 0) (hv.frozen _)]
  rfl
/-- what Insert tells -/
def InsPost (w : World) (A : Option Addr) (n cap i : Nat) (xs vs : List Value) (e : Ending) (w' : World) : Prop :=
  ∃ A' cap', e = .returned (.slice A' (n + 1) cap') ∧ Sl w' 31 3 (.slice A' (n + 1) cap') (n + 1) (xs.take (i * 3) ++ vs ++ xs.drop (i * 3)) ∧ Only (own (.slice A n cap)) w w' ∧ ∀ k, own (.slice A' (n + 1) cap') k → own (.slice A n cap) k ∨ w.heap.size ≤ k
set_option maxHeartbeats 4000000 in
set_option maxRecDepth 100000 in
/-- at the end -/
theorem ins_end (w : World) (A : Option Addr) (n cap : Nat) (xs : List Value) (h : Sl w 31 3 (.slice A n cap) n xs) (vb : Nat) (vs : List Value) (hv : vs.length = 3) (hvb : Blk w vb 31 vs.toArray) (h1 : ∀ v ∈ vs, v.oneCell' = true) (hn : n ≤ 100000) :
    Calls Try.prog 41 #[.slice A n cap, .int .i64 (n : Int), .slice (some ⟨vb, 0, none⟩) 1 1] w fun e w' => InsPost w A n cap n xs vs e w' := by
  obtain ⟨i0, hi, hz0, hz1, hz2⟩ := info_parts info_T
  have HI := Lib.hid (And.intro hi (And.intro hz0 (And.intro hz1 hz2)))
  have HS : Hid (Src Try.prog 3 59 (.slice (some ⟨vb, 0, none⟩) 1 1) 1 vs w) := Lib.hid (by
    have := src_blk (P := Try.prog) (size := 3) hvb Try.underlying59 1 1 (by rw [List.size_toArray]; omega) (by simpa using h1)
    simpa using this)
  have HX := Lib.hid h
  obtain ⟨A9, cap9, he, hle, hml⟩ := h.form
  have hnc : n ≤ cap := by injection he with e1 e2 e3; omega
  have HE := Lib.hid h.len
  clear hi hz0 hz1 hz2 h he hml
  by_cases hcn : cap = n
  · obtain rfl : n = cap := hcn.symm
    go_enter Try.func41, Try.ntmps41
    go_wp2_with (at_builtin; go_loud (refine wpList_append_sl rfl _ _ 59 59 rfl 31 i0 _ 3 40 Try.underlying59 HI.out.1 HI.out.2.1 HI.out.2.2.1 HI.out.2.2.2 rfl _ n xs rfl HX.out _ 1 vs rfl HS.out ?c1 ?c2 ?_))
    case c1 => unfold maxLen; omega
    case c2 => omega
    intro A' cap' w' h2 h3 h4
    go_wp2
    go_ret
    refine ⟨A', cap', rfl, ?_, h3, fun k hk => (h4 k hk).imp id (fun e => by rw [e]; exact Nat.le_refl _)⟩
    have e1 : xs.take (n * 3) = xs := List.take_of_length_le (by rw [HE.out]; exact Nat.le_refl _)
    have e2 : xs.drop (n * 3) = [] := List.drop_eq_nil_of_le (by rw [HE.out]; exact Nat.le_refl _)
    rw [e1, e2, List.append_nil]
    exact h2
  · have hcn2 : ¬ n = cap := fun e => hcn e.symm
    go_enter Try.func41, Try.ntmps41
    go_wp2_with (at_builtin; go_loud (refine wpList_append_sl rfl _ _ 59 59 rfl 31 i0 _ 3 40 Try.underlying59 HI.out.1 HI.out.2.1 HI.out.2.2.1 HI.out.2.2.2 rfl _ n xs rfl HX.out _ 1 vs rfl HS.out ?c1 ?c2 ?_))
    case c1 => unfold maxLen; omega
    case c2 => omega
    intro A' cap' w' h2 h3 h4
    go_wp2
    go_ret
    refine ⟨A', cap', rfl, ?_, h3, fun k hk => (h4 k hk).imp id (fun e => by rw [e]; exact Nat.le_refl _)⟩
    have e1 : xs.take (n * 3) = xs := List.take_of_length_le (by rw [HE.out]; exact Nat.le_refl _)
    have e2 : xs.drop (n * 3) = [] := List.drop_eq_nil_of_le (by rw [HE.out]; exact Nat.le_refl _)
    rw [e1, e2, List.append_nil]
    exact h2
theorem add_mul3 (g off i : Nat) : (⟨g, off, none⟩ : Addr).add (i * 3) = ⟨g, off + i * 3, none⟩ := by unfold Addr.add; split <;> simp_all
set_option maxHeartbeats 4000000 in
set_option maxRecDepth 100000 in
/-- there is room -/
theorem ins_shift (w : World) (g off n cap i : Nat) (cur : Array Value) (xs : List Value) (hg : Blk w g 31 cur) (hnc : n + 1 ≤ cap) (hml : cap ≤ maxLen) (hfit : off + cap * 3 ≤ cur.size) (hxs : (cur.toList.drop off).take (n * 3) = xs) (hl : xs.length = n * 3) (hi : i < n) (h1x : ∀ v ∈ xs, v.oneCell' = true)
    (vb : Nat) (vs : List Value) (hv : vs.length = 3) (hvb : Blk w vb 31 vs.toArray) (hne : vb ≠ g) (h1 : ∀ v ∈ vs, v.oneCell' = true) (hn : n ≤ 100000) :
    Calls Try.prog 41 #[.slice (some ⟨g, off, none⟩) n cap, .int .i64 (i : Int), .slice (some ⟨vb, 0, none⟩) 1 1] w fun e w' => InsPost w (some ⟨g, off, none⟩) n cap i xs vs e w' := by
  have hml' : cap ≤ 9223372036854775807 := by unfold maxLen at hml; exact hml
  have hcell : ∀ j v, xs[j]? = some v → w.cell? ⟨g, off + j, none⟩ = some v := fun j v hj => by
    rw [hg.cell]
    rw [← hxs, List.getElem?_take] at hj
    split at hj
    · rw [List.getElem?_drop] at hj
      rw [← Array.getElem?_toList]
      exact hj
    · cases hj
  have hthere : ∀ j, j < (n + 1) * 3 → (w.cell? ⟨g, off + j, none⟩).isSome = true := fun j hj => by rw [hg.cell, Array.getElem?_eq_getElem (by omega)]; rfl
  have hdl : (xs.drop (i * 3)).length = (n - i) * 3 := by rw [List.length_drop, hl]; omega
  have hov : ∀ lb cb, (callFunc 48 #[.slice (some ⟨vb, 0, none⟩) 1 1, .slice (some ⟨g, off + (i + 1) * 3, none⟩) lb cb]).run Try.prog w = .ok (.value (.bool false)) w := fun lb cb => no_overlap w vb g _ lb cb _ _ hvb hg hne (by omega)
  have hcp1 : ∀ ty dc sc, (Builtin.copy_ #[59, 59] ty #[.slice (some ⟨g, off + (i + 1) * 3, none⟩) (n - i) dc, .slice (some ⟨g, off + i * 3, none⟩) (n + 1 - i) sc]).run Try.prog w.drew = .ok (goInt ((n - i : Nat) : Int)) (w.drew.setCells g (off + (i + 1) * 3) (xs.drop (i * 3))) := fun ty dc sc =>
    run_copy_z w.drew _ _ ty 31 3 (n - i) g (off + (i + 1) * 3) (n - i) dc ⟨g, off + i * 3, none⟩ (n + 1 - i) sc (xs.drop (i * 3)) Try.underlying59 sizeT (by simp only [Nat.min_def]; split <;> omega) hdl
      (fun j v hj => by rw [show (⟨g, off + i * 3, none⟩ : Addr).add j = ⟨g, off + (i * 3 + j), none⟩ from by unfold Addr.add; split <;> simp_all [Nat.add_assoc]]; exact hcell _ v (by rwa [List.getElem?_drop] at hj))
      (fun j hj => by rw [Nat.add_assoc]; exact hthere _ (by rw [hdl] at hj; omega)) (fun j hj => hg.frozen _) (fun v hv => h1x v (List.mem_of_mem_drop hv))
  obtain ⟨W1, hW1⟩ : ∃ W1, W1 = w.drew.setCells g (off + (i + 1) * 3) (xs.drop (i * 3)) := ⟨_, rfl⟩
  have hg1 : Blk W1 g 31 (putMany cur (off + (i + 1) * 3) (xs.drop (i * 3))) := by rw [hW1]; exact hg.drew.many _ _
  have hv1 : Blk W1 vb 31 vs.toArray := by rw [hW1]; exact (setCells_heap_ne g _ _ _ vb hne).trans hvb
  have hcp2 : ∀ ty dc, (Builtin.copy_ #[59, 59] ty #[.slice (some ⟨g, off + i * 3, none⟩) (n + 1 - i) dc, .slice (some ⟨vb, 0, none⟩) 1 1]).run Try.prog W1 = .ok (goInt 1) (W1.setCells g (off + i * 3) vs) := fun ty dc =>
    run_copy_z W1 _ _ ty 31 3 1 g (off + i * 3) (n + 1 - i) dc ⟨vb, 0, none⟩ 1 1 vs Try.underlying59 sizeT (by simp only [Nat.min_def]; split <;> omega) (by omega)
      (fun j v hj => by rw [show (⟨vb, 0, none⟩ : Addr).add j = ⟨vb, j, none⟩ from by unfold Addr.add; split <;> simp_all, hv1.cell]; simpa using hj)
      (fun j hj => by rw [hg1.cell, Array.getElem?_eq_getElem (by rw [putMany_size]; omega)]; rfl) (fun j hj => hg1.frozen _) h1
  rw [← hW1] at hcp1
  have hz2 : ¬ ((i : Int) = (n : Int)) := by omega
  have mixed : Try.prog.follows .mixedOrders = true := by kernel_rfl
  have hw1 : IntKind.i64.wrap ((i : Int) + 1) = (i : Int) + 1 := IntWalk.i64_in _ ⟨by omega, by omega⟩
  have hw2 : IntKind.i64.wrap ((n : Int) + 1) = (n : Int) + 1 := IntWalk.i64_in _ ⟨by omega, by omega⟩
  have hb1 : (0 : Int) ≤ (i : Int) + 1 := by omega
  have hb0 : (0 : Int) ≤ (n : Int) + 1 := by omega
  have htn : ((i : Int) + 1).toNat = i + 1 := by omega
  have htm : ((n : Int) + 1).toNat = n + 1 := by omega
  have hb2 : ¬ (cap = i + 1) := by omega
  have hb4 : ¬ (cap = i) := by omega
  have hb3 : (i : Int) + 1 ≤ (n : Int) + 1 := by omega
  have hb5 : (i : Int) ≤ (n : Int) + 1 := by omega
  have hb6 : (n : Int) + 1 ≤ (cap : Int) := by omega
  have hb7 : ¬ ((cap : Int) < (n : Int) + 1) := by omega
  have hin : (i : Int) ≤ (n : Int) := by omega
  have H0 := Lib.hid (And.intro hg (And.intro hg1 (And.intro hxs (And.intro hl (And.intro hfit (And.intro hv hW1))))))
  clear hcell hthere hdl hg hg1 hxs hl hv hvb hv1 h1 h1x hml hW1
  go_enter Try.func41, Try.ntmps41
  go_wp2_with (simp only [hov])
  go_region_law_o (refine step_copy_z rfl _ _ 59 59 rfl _ _ (by simp [Act.eval, Act.put]) (by simp [Act.eval, Act.put]) (hcp1 _ _ _) ?_)
  go_wp2_with (at_builtin; refine wpList_copy_z _ rfl _ _ 59 59 rfl _ _ rfl rfl (hcp2 _ _) ?_)
  go_ret
  obtain ⟨hg, hg1, hxs, hl, hfit, hv, hW1⟩ := H0.out
  have hg2 := hg1.many vs (off + i * 3)
  have hp1 := putMany_list (xs.drop (i * 3)) (off + (i + 1) * 3) cur (by rw [List.length_drop, hl]; omega)
  have hp2 := putMany_list vs (off + i * 3) (putMany cur (off + (i + 1) * 3) (xs.drop (i * 3))) (by rw [putMany_size]; omega)
  have hsh := shifted cur.toList xs vs off (i * 3) (n * 3) 3 hxs hl (by omega) hv (by rw [Array.length_toList]; omega)
  refine ⟨_, _, rfl, ⟨?_, .inr ⟨g, off, cap, _, rfl, hg2, by omega, hml', by rw [putMany_size, putMany_size]; exact hfit, ?_⟩⟩, ?_, fun k hk => .inl hk⟩
  · rw [List.length_append, List.length_append, List.length_take, List.length_drop, hl, hv]; omega
  · rw [hp2, hp1, show (n + 1) * 3 = n * 3 + 3 from by omega, show off + (i + 1) * 3 = off + i * 3 + 3 from by omega]
    exact hsh
  · obtain ⟨o1, o2, o3⟩ := setCells_os g vs (off + i * 3) W1
    obtain ⟨p1, p2, p3⟩ := setCells_os g (xs.drop (i * 3)) (off + (i + 1) * 3) w.drew
    rw [← hW1] at p1 p2 p3
    refine ⟨o1.trans p1, o2.trans p2, o3.trans p3, by rw [setCells_size, hW1, setCells_size]; exact Nat.le_refl _, fun k _ hk => ?_⟩
    have hkg : k ≠ g := fun e => hk (by rw [e]; rfl)
    rw [setCells_heap_ne g vs _ W1 k hkg, hW1, setCells_heap_ne g _ _ w.drew k hkg]
    rfl
set_option maxHeartbeats 4000000 in
set_option maxRecDepth 100000 in
/-- no room: a new row -/
theorem ins_grow (w : World) (g off n cap i : Nat) (cur : Array Value) (xs : List Value) (hg : Blk w g 31 cur) (hle : n ≤ cap) (hnc : cap < n + 1) (hml : cap ≤ maxLen) (hfit : off + cap * 3 ≤ cur.size) (hxs : (cur.toList.drop off).take (n * 3) = xs) (hl : xs.length = n * 3) (hi : i < n) (h1x : ∀ v ∈ xs, v.oneCell' = true)
    (vb : Nat) (vs : List Value) (hv : vs.length = 3) (hvb : Blk w vb 31 vs.toArray) (h1 : ∀ v ∈ vs, v.oneCell' = true) (hn : n ≤ 100000) :
    Calls Try.prog 41 #[.slice (some ⟨g, off, none⟩) n cap, .int .i64 (i : Int), .slice (some ⟨vb, 0, none⟩) 1 1] w fun e w' => InsPost w (some ⟨g, off, none⟩) n cap i xs vs e w' := by
  obtain ⟨i0, hi0, hz0, hzs, hzb⟩ := info_parts info_T
  have hml' : cap ≤ 9223372036854775807 := by unfold maxLen at hml; exact hml
  have hcell : ∀ j v, xs[j]? = some v → w.cell? ⟨g, off + j, none⟩ = some v := fun j v hj => by
    rw [hg.cell]
    rw [← hxs, List.getElem?_take] at hj
    split at hj
    · rw [List.getElem?_drop] at hj
      rw [← Array.getElem?_toList]
      exact hj
    · cases hj
  have hdl : (xs.drop (i * 3)).length = (n - i) * 3 := by rw [List.length_drop, hl]; omega
  have htl : (xs.take (i * 3)).length = i * 3 := by rw [List.length_take, hl]; omega
  have hgw := hg.lt
  have hvw := hvb.lt
  have hkk : (n : Int) + 1 - (i : Int) = ((n + 1 - i : Nat) : Int) := by omega
  have hik : i + (n + 1 - i) = n + 1 := by omega
  have hold : (Builtin.firstCells i0.size i (.slice (some ⟨g, off, none⟩) i cap)).run Try.prog w.drew = .ok (xs.take (i * 3)).toArray w.drew := by
    rw [hzs]
    exact run_firstCells_some w.drew 3 i ⟨g, off, none⟩ i cap (xs.take (i * 3)) htl (fun j v hj => by
      rw [show (⟨g, off, none⟩ : Addr).add j = ⟨g, off + j, none⟩ from by unfold Addr.add; split <;> simp_all]
      rw [List.getElem?_take] at hj
      split at hj
      · exact hcell j v hj
      · cases hj)
  have hrz : ∀ ty, (Builtin.append_ #[59, 3] ty #[.slice (some ⟨g, off, none⟩) i cap, .int .i64 ((n : Int) + 1 - (i : Int))]).run Try.prog w =
      .ok (.slice (some ⟨w.heap.size, 0, none⟩) (n + 1) (grownCap w (n + 1) cap 31)) (w.drew.alloc (.cells ((xs.take (i * 3)).toArray ++ Builtin.zeroCells (Value.agg #[.string ⟨#[]⟩, .string ⟨#[]⟩, .bool false]).cells (n + 1 - i) ++ Builtin.zeroCells (Value.agg #[.string ⟨#[]⟩, .string ⟨#[]⟩, .bool false]).cells (grownCap w (n + 1) cap 31 - (n + 1))) 31)) := fun ty => by
    have h := Lib.run_append_grow_zeros w 59 3 ty 31 i0 _ .i64 .i64 Try.underlying59 Try.underlying3 hi0 hz0 (some ⟨g, off, none⟩) i cap (xs.take (i * 3)) hold (n + 1 - i) (by omega) (by omega) (by omega) (by omega) (by rw [hzb]; omega) (by rw [hzb, hik]; exact growslice_fits hnc (by omega))
    rw [hik] at h
    rw [hkk]
    exact h
  obtain ⟨G, hG⟩ : ∃ G, G = grownCap w (n + 1) cap 31 := ⟨_, rfl⟩
  rw [← hG] at hrz
  have hGn : n + 1 ≤ G := by rw [hG]; exact grownCap_ge w _ _ _
  have hGml : G ≤ maxLen := by rw [hG]; exact grownCap_le_maxLen w (n + 1) cap 31 (by unfold maxLen; omega)
  have hG63 : G ≤ 9223372036854775807 := by unfold maxLen at hGml; exact hGml
  have hzc : ((Value.agg #[.string ⟨#[]⟩, .string ⟨#[]⟩, .bool false]).cells).size = 3 := rfl
  obtain ⟨ROW, hROW⟩ : ∃ ROW : Array Value, ROW = (xs.take (i * 3)).toArray ++ Builtin.zeroCells (Value.agg #[.string ⟨#[]⟩, .string ⟨#[]⟩, .bool false]).cells (n + 1 - i) ++ Builtin.zeroCells (Value.agg #[.string ⟨#[]⟩, .string ⟨#[]⟩, .bool false]).cells (G - (n + 1)) := ⟨_, rfl⟩
  rw [← hROW] at hrz
  have hRs : ROW.size = G * 3 := by rw [hROW, Array.size_append, Array.size_append, size_zeroCells, size_zeroCells, hzc, List.size_toArray, htl]; omega
  have hRl : ROW.toList.take (i * 3) = xs.take (i * 3) := by
    rw [hROW, Array.toList_append, Array.toList_append, List.append_assoc, List.take_append_of_le_length (by show i * 3 ≤ (xs.take (i * 3)).length; omega)]
    exact List.take_of_length_le (by show (xs.take (i * 3)).length ≤ i * 3; omega)
  obtain ⟨W1, hW1⟩ : ∃ W1, W1 = w.drew.alloc (.cells ROW 31) := ⟨_, rfl⟩
  rw [← hW1] at hrz
  have hg1 : Blk W1 g 31 cur := by rw [hW1]; exact hg.drew.alloc _
  have hv1 : Blk W1 vb 31 vs.toArray := by rw [hW1]; exact hvb.drew.alloc _
  have hN1 : Blk W1 w.heap.size 31 ROW := by rw [hW1]; exact Blk.new w.drew _ _
  have hcpA : ∀ ty dc, (Builtin.copy_ #[59, 59] ty #[.slice (some ⟨w.heap.size, i * 3, none⟩) (n + 1 - i) dc, .slice (some ⟨vb, 0, none⟩) 1 1]).run Try.prog W1 = .ok (goInt 1) (W1.setCells w.heap.size (i * 3) vs) := fun ty dc =>
    run_copy_z W1 _ _ ty 31 3 1 w.heap.size (i * 3) (n + 1 - i) dc ⟨vb, 0, none⟩ 1 1 vs Try.underlying59 sizeT (by simp only [Nat.min_def]; split <;> omega) (by omega)
      (fun j v hj => by rw [show (⟨vb, 0, none⟩ : Addr).add j = ⟨vb, j, none⟩ from by unfold Addr.add; split <;> simp_all, hv1.cell]; simpa using hj)
      (fun j hj => by rw [hN1.cell, Array.getElem?_eq_getElem (by omega)]; rfl) (fun j hj => hN1.frozen _) h1
  obtain ⟨W2, hW2⟩ : ∃ W2, W2 = W1.setCells w.heap.size (i * 3) vs := ⟨_, rfl⟩
  rw [← hW2] at hcpA
  have hN2 : Blk W2 w.heap.size 31 (putMany ROW (i * 3) vs) := by rw [hW2]; exact hN1.many _ _
  have hg2 : Blk W2 g 31 cur := by rw [hW2]; exact (setCells_heap_ne _ _ _ _ g (by omega)).trans hg1
  have hcpB : ∀ ty dc sc, (Builtin.copy_ #[59, 59] ty #[.slice (some ⟨w.heap.size, (i + 1) * 3, none⟩) (n - i) dc, .slice (some ⟨g, off + i * 3, none⟩) (n - i) sc]).run Try.prog W2.drew = .ok (goInt ((n - i : Nat) : Int)) (W2.drew.setCells w.heap.size ((i + 1) * 3) (xs.drop (i * 3))) := fun ty dc sc =>
    run_copy_z W2.drew _ _ ty 31 3 (n - i) w.heap.size ((i + 1) * 3) (n - i) dc ⟨g, off + i * 3, none⟩ (n - i) sc (xs.drop (i * 3)) Try.underlying59 sizeT (by simp) hdl
      (fun j v hj => by
        rw [show (⟨g, off + i * 3, none⟩ : Addr).add j = ⟨g, off + (i * 3 + j), none⟩ from by unfold Addr.add; split <;> simp_all [Nat.add_assoc]]
        rw [List.getElem?_drop] at hj
        have h2 := hcell _ v hj
        rw [hg.cell] at h2
        exact (hg2.drew.cell _).trans h2)
      (fun j hj => by rw [hN2.drew.cell, Array.getElem?_eq_getElem (by rw [putMany_size, hRs]; rw [hdl] at hj; omega)]; rfl) (fun j hj => hN2.drew.frozen _) (fun v hv => h1x v (List.mem_of_mem_drop hv))
  have hz2 : ¬ ((i : Int) = (n : Int)) := by omega
  have mixed : Try.prog.follows .mixedOrders = true := by kernel_rfl
  have hw1 : IntKind.i64.wrap ((i : Int) + 1) = (i : Int) + 1 := IntWalk.i64_in _ ⟨by omega, by omega⟩
  have hb1 : (0 : Int) ≤ (i : Int) + 1 := by omega
  have htn : ((i : Int) + 1).toNat = i + 1 := by omega
  have hb2 : ¬ (G = i + 1) := by omega
  have hb4 : ¬ (G = i) := by omega
  have hci : ¬ (cap = i) := by omega
  have hb3 : (i : Int) + 1 ≤ (n : Int) + 1 := by omega
  have hb5 : (i : Int) ≤ (n : Int) + 1 := by omega
  have hb7 : (cap : Int) < (n : Int) + 1 := by omega
  have hin : (i : Int) ≤ (n : Int) := by omega
  have H0 := Lib.hid (And.intro hN2 (And.intro hRs (And.intro hRl (And.intro hl (And.intro hv (And.intro hW1 (And.intro hW2 (And.intro hGml hik))))))))
  clear hcell hdl htl hgw hvw hkk hik hold hG hzc hROW hW1 hW2 hRs hRl hg hg1 hg2 hN1 hN2 hxs hl hv hvb hv1 h1 h1x hml hGml hi0 hz0 hzs hzb
  go_enter Try.func41, Try.ntmps41
  go_wp2_with (first
    | (at_builtin; refine Lib.wpList_append_run _ rfl _ _ _ _ rfl _ _ rfl rfl _ _ (hrz _) ?_)
    | (at_builtin; refine wpList_copy_z _ rfl _ _ 59 59 rfl _ _ rfl rfl (hcpA _ _) ?_))
  go_region_law_o (refine step_copy_z rfl _ _ 59 59 rfl _ _ (by simp [Act.eval, Act.put]) (by simp [Act.eval, Act.put]) (hcpB _ _ _) ?_)
  go_wp2
  go_ret
  obtain ⟨hN2, hRs, hRl, hl, hv, hW1, hW2, hGml, hik⟩ := H0.out
  have hN3 := hN2.drew.many (xs.drop (i * 3)) ((i + 1) * 3)
  have hdl : (xs.drop (i * 3)).length = n * 3 - i * 3 := by rw [List.length_drop, hl]
  have hp1 := putMany_list vs (i * 3) ROW (by omega)
  have hp2 := putMany_list (xs.drop (i * 3)) ((i + 1) * 3) (putMany ROW (i * 3) vs) (by rw [putMany_size, hdl]; omega)
  have htl : (xs.take (i * 3)).length = i * 3 := by rw [List.length_take, hl]; omega
  refine ⟨_, _, rfl, ⟨?_, .inr ⟨w.heap.size, 0, G, _, rfl, hN3, hGn, hGml, by rw [putMany_size, putMany_size, hRs]; omega, ?_⟩⟩, ?_, fun k hk => .inr (by cases hk; exact Nat.le_refl _)⟩
  · rw [List.length_append, List.length_append, htl, hdl, hv]; omega
  · rw [hp2, hp1, hRl, List.drop_zero]
    have e1 : (xs.take (i * 3) ++ vs ++ ROW.toList.drop (i * 3 + vs.length)).take ((i + 1) * 3) = xs.take (i * 3) ++ vs := by
      rw [List.take_append_of_le_length (by rw [List.length_append, htl, hv]; omega)]
      exact List.take_of_length_le (by rw [List.length_append, htl, hv]; omega)
    rw [e1, List.take_append_of_le_length (by rw [List.length_append, List.length_append, htl, hdl, hv]; omega)]
    exact List.take_of_length_le (by rw [List.length_append, List.length_append, htl, hdl, hv]; omega)
  · have o2 := setCells_os w.heap.size (xs.drop (i * 3)) ((i + 1) * 3) W2.drew
    have o1 := setCells_os w.heap.size vs (i * 3) W1
    rw [← hW2] at o1
    have os1 : W1.os = w.os ∧ W1.tape = w.tape ∧ W1.output = w.output := by rw [hW1]; exact ⟨rfl, rfl, rfl⟩
    have z1 : W1.heap.size = w.heap.size + 1 := by rw [hW1]; exact World.size_alloc ..
    have z2 : W2.heap.size = w.heap.size + 1 := by rw [hW2, setCells_size, z1]
    refine ⟨o2.1.trans (o1.1.trans os1.1), o2.2.1.trans (o1.2.1.trans os1.2.1), o2.2.2.trans (o1.2.2.trans os1.2.2), by rw [setCells_size]; show w.heap.size ≤ W2.heap.size; omega, fun k hk _ => ?_⟩
    rw [setCells_heap_ne w.heap.size _ _ W2.drew k (by omega)]
    show W2.heap[k]? = _
    rw [hW2, setCells_heap_ne w.heap.size vs _ W1 k (by omega), hW1]
    exact Below.heap_alloc w.drew _ k hk
/-- slices.Insert of one element -/
theorem ins_calls (w : World) (A : Option Addr) (n cap i : Nat) (xs : List Value) (h : Sl w 31 3 (.slice A n cap) n xs) (hi : i ≤ n) (h1x : ∀ v ∈ xs, v.oneCell' = true) (vb : Nat) (vs : List Value) (hv : vs.length = 3) (hvb : Blk w vb 31 vs.toArray) (hne : ¬ own (.slice A n cap) vb) (h1 : ∀ v ∈ vs, v.oneCell' = true) (hn : n ≤ 100000) :
    Calls Try.prog 41 #[.slice A n cap, .int .i64 (i : Int), .slice (some ⟨vb, 0, none⟩) 1 1] w fun e w' => InsPost w A n cap i xs vs e w' := by
  rcases Nat.lt_or_ge i n with hlt | hge
  · obtain ⟨g, off, c9, cur, he, hb, h2, h3, h4, h5⟩ := h.form_pos (by omega)
    injection he with e1 e2 e3
    subst e1 e3
    rcases Nat.lt_or_ge cap (n + 1) with hc | hc
    · exact ins_grow w g off n cap i cur xs hb h2 hc h3 h4 h5 h.len hlt h1x vb vs hv hvb h1 hn
    · exact ins_shift w g off n cap i cur xs hb hc h3 h4 h5 h.len hlt h1x vb vs hv hvb (fun e => hne (by rw [e]; rfl)) h1 hn
  · obtain rfl : i = n := by omega
    exact ins_end w A i cap xs h vb vs hv hvb h1 hn
end Go.Proofs.Ytjcilknfhkpepaa.Ins
