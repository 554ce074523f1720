/- Law MacFits: for every input the call of bulletin/bulletinlaw04.MacFits returns true, and each argument reads afterwards as it read before. No condition. -/
import Derived.Test.YtjmahkpmnajmfaaDoorRows
import Derived.Test.YtjmahkpmnajmfaaDoorRowAid
import Derived.Test.YtjmahkpmnajmfaaDoorMacRow3
import Derived.WalkKit
import Derived.ProofKit
import Derived.OpenShut
import Derived.ShutString
import Derived.ChangeOld
import Derived.Below
import Derived.SizedLaws
import Derived.Test.YtjmahkpmnajmfaaDoorCards
import Derived.Test.YtjmahkpmnajmfaaDoorTie
import Derived.LaidMore
import Derived.Lay
import Derived.SevenTiedAt
import Derived.Stop.Joined
import Derived.Lib.LaidU8
import Derived.Shelf.Vars
namespace Go.Proofs.YtjmahkpmnajmfaaDoor.macFits
open Go.ChangeShapes Go.WideShapes Go.ChangeAt Go.RowKit
open Go.ChangeMaps (open_string shut_string)
set_option linter.unusedVariables false
theorem own : ownKnob Tryd.prog.godebug = none := by kernel_rfl
set_option maxRecDepth 100000 in
theorem lifted (os : Os) (started : os.Started) (H : Type) (enc : TypeId × Value → H) :
    ReturnsInHanded {} Tryd.checked os 4 .any (fun w args => (Rows.macFitsSpec.pre enc Tryd.prog Tryd.f4 Rows.macFitsRow.domain false w args ∧ laidMetH Tryd.prog Rows.macFitsRow.laid w) ∧ sizedMet enc Tryd.prog Tryd.f4 (OpenSpec.ofChange Rows.macFitsSpec) false w args) (Rows.macFitsSpec.post enc Tryd.prog Tryd.f4 false true false false) := by
  refine RowAid.handed_and_shaped (C := Tryd.checked) (X := fun w _ => laidMetH Tryd.prog Rows.macFitsRow.laid w) (fun _ _ _ hh h => h.of_heap hh) own started (by kernel_rfl) Tryd.func4
    (ChangeSpec.witness_shaped (enc := enc) (C := Tryd.checked) (os := os) (X := fun w _ => laidMetH Tryd.prog Rows.macFitsRow.laid w) false (World.laidAll Tryd.prog os Rows.macFitsRow.laid) #[.string ByteArray.empty, .string ByteArray.empty, .string ByteArray.empty] 8 (World.laidAll_os _ _ _)
      (World.shaped_of_ZipB (by kernel_rfl) (by kernel_rfl)) (by kernel_rfl) (by kernel_rfl) (by kernel_rfl)
      (by rw [MakeChecks.laidMetH_plain _ _ _ (by kernel_rfl)]; exact laidMet_laidAll _ (by kernel_rfl) (by kernel_rfl))) ?_
  intro W base args ds gs before hval0 hW hcnd hsz0 hL hsh _
  have hsz : (DataW.weightsEach Tryd.prog (Tryd.f4.params.toList ++ Rows.macFitsSpec.plain.varTypes Tryd.prog) (ds ++ gs)).all (· ≤ reachBytes) = true := hsz0
  have hval : ∀ (j : Nat) t v, Tryd.f4.params[j]? = some t → args[j]? = some v → Value.okWide Tryd.prog W .any base t v := hval0
  have hW' := hW
  obtain ⟨p, q, hA0, hV, rfl, hfz, hnd⟩ := hW
  have hA : DataW.TrodAll enc Tryd.prog W 0 (fun _ => true) true Tryd.f4.params.toList args.toList ds p := hA0
  rw [Tryd.params4] at hA hval hsz
  obtain ⟨v0, vs0, d0, ds0, p0, q0, hargs, rfl, rfl, h0, r0⟩ := trodAll_cons hA
  obtain ⟨v1, vs1, d1, ds1, p1, q1, rfl, rfl, rfl, h1, r1⟩ := trodAll_cons r0
  obtain ⟨v2, vs2, d2, ds2, p2, q2, rfl, rfl, rfl, h2, r2⟩ := trodAll_cons r1
  obtain ⟨rfl, rfl, rfl⟩ := trodAll_nil r2
  obtain rfl : args = #[v0, v1, v2] := by cases args; simp_all
  obtain ⟨rfl, rfl⟩ := trodVars_none hV
  obtain ⟨a0, rfl, rfl, rfl, y0⟩ := open_string Tryd.underlying9 (hval 0 9 v0 rfl rfl) h0
  have w0 : a0.size ≤ 140737488351232 := by
    have z := sized_string hsz (j := 0) (t := 9) rfl rfl
    rw [Array.length_toList] at z
    exact z
  obtain ⟨a1, rfl, rfl, rfl, y1⟩ := open_string Tryd.underlying9 (hval 1 9 v1 rfl rfl) h1
  have w1 : a1.size ≤ 140737488351232 := by
    have z := sized_string hsz (j := 1) (t := 9) rfl rfl
    rw [Array.length_toList] at z
    exact z
  obtain ⟨a2, rfl, rfl, rfl, y2⟩ := open_string Tryd.underlying9 (hval 2 9 v2 rfl rfl) h2
  have w2 : a2.size ≤ 140737488351232 := by
    have z := sized_string hsz (j := 2) (t := 9) rfl rfl
    rw [Array.length_toList] at z
    exact z
  have hL' : laidMet Tryd.prog Rows.macFitsRow.laid W := by rw [MakeChecks.laidMetH_plain _ _ _ (by kernel_rfl)] at hL; exact hL
  have hk0 : Lib.VarReads Tryd.prog W "bulletin/sha.constants" Rows.laid_bulletin_sha_constants :=
    Lib.laidMet.reads hL' (n := "bulletin/sha.constants") (d := Rows.laid_bulletin_sha_constants) (by simp [Rows.macFitsRow])
  have hk1 : Lib.VarReads Tryd.prog W "bulletin/sha.constants" (Lib.tabData .u32 (Sha.kc.map Sha.iv)) := by
    have e : (Rows.laid_bulletin_sha_constants : DataW Unit) = Lib.tabData .u32 (Sha.kc.map Sha.iv) := by kernel_rfl
    rw [← e]; exact hk0
  have hb0 : Lib.VarReads Tryd.prog W "bulletin/sha.begin" Rows.laid_bulletin_sha_begin :=
    Lib.laidMet.reads hL' (n := "bulletin/sha.begin") (d := Rows.laid_bulletin_sha_begin) (by simp [Rows.macFitsRow])
  have hb1 : Lib.VarReads Tryd.prog W "bulletin/sha.begin" (Lib.tabData .u32 Sha.begins) := by
    have e : (Rows.laid_bulletin_sha_begin : DataW Unit) = Lib.tabData .u32 Sha.begins := by kernel_rfl
    rw [← e]; exact hb0
  have hT0 : Go.Proofs.YtjmahkpmnajmfaaDoorW.PrintWords.Aside0 (X.Tabs W) := ⟨Sha.tabs_of (RowAid.tab_of_reads (g := 1) (t := 36) (by kernel_rfl) (by kernel_rfl) Tryd.underlying36 Tryd.underlying33 (by kernel_rfl) (by kernel_rfl) hk1) (RowAid.tab_of_reads (g := 0) (t := 34) (by kernel_rfl) (by kernel_rfl) Tryd.underlying34 Tryd.underlying33 (by kernel_rfl) (by kernel_rfl) hb1)⟩
  clear hA0 hval0 hsz0 hsz
  obtain ⟨k, hk⟩ := Go.Proofs.YtjmahkpmnajmfaaDoorW.PrintWords.Ev.rounds (Row.fits_ev a0 a1 a2 w0 w1 w2)
  refine (X.bulletinlaw04_MacFits.calls (hT0 := hT0) k a0 a1 a2 true W hk).mono fun e W' ⟨he, bel⟩ => ?_
  subst he
  exact ⟨_, rfl, _, _, _, [], _, [], hW', trodAll_mk1 (shut_bool Tryd.underlying4 _), (trodAll_cons_mk (shut_string Tryd.underlying9 y0) (trodAll_cons_mk (shut_string Tryd.underlying9 y1) (trodAll_cons_mk (shut_string Tryd.underlying9 y2) trodAll_mk0))), rfl, bel.frame _, fun h => by cases h⟩
theorem over : Rows.macFitsRow.holds Tryd.pinned (OpenSpec.ofChange Rows.macFitsSpec) :=
  OpenClaim.holds_of_wide 4 Tryd.f4 rfl rfl rfl rfl rfl rfl rfl ⟨rfl, rfl, rfl, rfl, rfl⟩ rfl rfl rfl rfl rfl (by kernel_rfl) Tryd.func4 (by kernel_rfl)
    (of_decide_eq_true (by kernel_rfl)) (by unfold Func.isWrapper; first | (rw [if_pos (by decide +kernel)]; kernel_rfl) | (rw [if_neg (by decide +kernel)]; exact ⟨rfl, rfl⟩))
    (fun os started H enc _ => lifted os started H enc)
theorem said : Rows.MacFitsSaid := over
theorem plain (f : FuncId) (fn : Func) (hf : Tryd.pinned.checked.prog.funcNamed "bulletin/bulletinlaw04.MacFits" = some f) (hfn : Tryd.pinned.checked.prog.funcs[f]? = some fn) :
    false = Tryd.pinned.checked.prog.looks [] ∧ ∀ (j : Nat) t, fn.params[j]? = some t → Tryd.pinned.checked.prog.wantsStandIn t = false := by
  obtain rfl : f = 4 := Option.some.inj ((show Tryd.prog.funcNamed "bulletin/bulletinlaw04.MacFits" = some 4 by kernel_rfl).symm.trans hf) |>.symm
  obtain rfl : fn = Tryd.f4 := (Option.some.inj (Tryd.func4.symm.trans hfn)).symm
  refine ⟨by kernel_rfl, fun j t ht => ?_⟩
  rw [Tryd.params4] at ht
  have hm : t ∈ [9, 9, 9] := (Array.mem_toList_iff (xs := #[9, 9, 9])).2 (Array.mem_of_getElem? ht)
  have hall : ([9, 9, 9].all fun u => !Tryd.prog.wantsStandIn u) = true := by kernel_rfl
  have h2 := List.all_eq_true.1 hall t hm
  have h3 : Tryd.prog.wantsStandIn t = false := by simpa using h2
  exact h3
theorem proved : Rows.MacFitsCardSaid :=
  Claim7.holds_tied_plain_at .later [] _ _ _ _ said (fun _ h => by cases h) (by kernel_rfl) (fun _ h => by cases h) macFits_row_tie rfl ⟨rfl, rfl⟩ (by kernel_rfl) rfl plain (by kernel_rfl)
#print axioms proved
end Go.Proofs.YtjmahkpmnajmfaaDoor.macFits
namespace Go.Proofs.YtjmahkpmnajmfaaDoor
/-- The row, under a short name, for the claim. -/
theorem macFits_holds : Rows.MacFitsCardSaid := macFits.proved
end Go.Proofs.YtjmahkpmnajmfaaDoor
