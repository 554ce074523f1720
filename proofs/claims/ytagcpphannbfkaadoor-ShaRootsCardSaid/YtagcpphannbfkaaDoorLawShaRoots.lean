/- Law ShaRoots: for every input the call of bulletin/bulletinlaw03.ShaRoots returns true, and each argument reads afterwards as it read before. No condition. -/
import Derived.Test.YtagcpphannbfkaaDoorRows
import Derived.Test.YtagcpphannbfkaaDoorRowAid
import Derived.Test.YtagcpphannbfkaaDoorShaRow3
import Derived.WalkKit
import Derived.ProofKit
import Derived.OpenShut
import Derived.ShutString
import Derived.ChangeOld
import Derived.Below
import Derived.SizedLaws
import Derived.Test.YtagcpphannbfkaaDoorCards
import Derived.Test.YtagcpphannbfkaaDoorTie
import Derived.LaidMore
import Derived.Lay
import Derived.SevenTiedAt
import Derived.Stop.Joined
import Derived.Lib.LaidU8
import Derived.Shelf.Vars
namespace Go.Proofs.YtagcpphannbfkaaDoor.shaRoots
open Go.ChangeShapes Go.WideShapes Go.ChangeAt Go.RowKit
open Go.ChangeMaps (open_string shut_string)
set_option linter.unusedVariables false
theorem own : ownKnob Tryd.prog.godebug = none := by kernel_rfl
set_option maxRecDepth 100000 in
theorem lifted (os : Os) (started : os.Started) (H : Type) (enc : TypeId × Value → H) :
    ReturnsInHanded {} Tryd.checked os 4 .any (fun w args => (Rows.shaRootsSpec.pre enc Tryd.prog Tryd.f4 Rows.shaRootsRow.domain false w args ∧ laidMetH Tryd.prog Rows.shaRootsRow.laid w) ∧ sizedMet enc Tryd.prog Tryd.f4 (OpenSpec.ofChange Rows.shaRootsSpec) false w args) (Rows.shaRootsSpec.post enc Tryd.prog Tryd.f4 false true false false) := by
  refine RowAid.handed_and_shaped (C := Tryd.checked) (X := fun w _ => laidMetH Tryd.prog Rows.shaRootsRow.laid w) (fun _ _ _ hh h => h.of_heap hh) own started (by kernel_rfl) Tryd.func4
    (ChangeSpec.witness_shaped (enc := enc) (C := Tryd.checked) (os := os) (X := fun w _ => laidMetH Tryd.prog Rows.shaRootsRow.laid w) false (World.laidAll Tryd.prog os Rows.shaRootsRow.laid) #[] 8 (World.laidAll_os _ _ _)
      (World.shaped_of_ZipB (by kernel_rfl) (by kernel_rfl)) (by kernel_rfl) (by kernel_rfl) (by kernel_rfl)
      (by rw [MakeChecks.laidMetH_plain _ _ _ (by kernel_rfl)]; exact laidMet_laidAll _ (by kernel_rfl) (by kernel_rfl))) ?_
  intro W base args ds gs before hval0 hW hcnd hsz0 hL hsh _
  have hsz : (DataW.weightsEach Tryd.prog (Tryd.f4.params.toList ++ Rows.shaRootsSpec.plain.varTypes Tryd.prog) (ds ++ gs)).all (· ≤ reachBytes) = true := hsz0
  have hval : ∀ (j : Nat) t v, Tryd.f4.params[j]? = some t → args[j]? = some v → Value.okWide Tryd.prog W .any base t v := hval0
  have hW' := hW
  obtain ⟨p, q, hA0, hV, rfl, hfz, hnd⟩ := hW
  have hA : DataW.TrodAll enc Tryd.prog W 0 (fun _ => true) true Tryd.f4.params.toList args.toList ds p := hA0
  rw [Tryd.params4] at hA hval hsz
  obtain ⟨rfl, rfl, rfl⟩ := trodAll_none hA
  obtain ⟨rfl, rfl⟩ := trodVars_none hV
  have hL' : laidMet Tryd.prog Rows.shaRootsRow.laid W := by rw [MakeChecks.laidMetH_plain _ _ _ (by kernel_rfl)] at hL; exact hL
  have hk0 : Lib.VarReads Tryd.prog W "bulletin/sha.constants" Rows.laid_bulletin_sha_constants :=
    Lib.laidMet.reads hL' (n := "bulletin/sha.constants") (d := Rows.laid_bulletin_sha_constants) (by simp [Rows.shaRootsRow])
  have hk1 : Lib.VarReads Tryd.prog W "bulletin/sha.constants" (Lib.tabData .u32 (Sha.kc.map Sha.iv)) := by
    have e : (Rows.laid_bulletin_sha_constants : DataW Unit) = Lib.tabData .u32 (Sha.kc.map Sha.iv) := by kernel_rfl
    rw [← e]; exact hk0
  have hb0 : Lib.VarReads Tryd.prog W "bulletin/sha.begin" Rows.laid_bulletin_sha_begin :=
    Lib.laidMet.reads hL' (n := "bulletin/sha.begin") (d := Rows.laid_bulletin_sha_begin) (by simp [Rows.shaRootsRow])
  have hb1 : Lib.VarReads Tryd.prog W "bulletin/sha.begin" (Lib.tabData .u32 Sha.begins) := by
    have e : (Rows.laid_bulletin_sha_begin : DataW Unit) = Lib.tabData .u32 Sha.begins := by kernel_rfl
    rw [← e]; exact hb0
  have hT0 : Go.Proofs.YtagcpphannbfkaaDoorW.PrintWords.Aside0 (X.Tabs W) := ⟨Sha.tabs_of (RowAid.tab_of_reads (g := 1) (t := 36) (by kernel_rfl) (by kernel_rfl) Tryd.underlying36 Tryd.underlying33 (by kernel_rfl) (by kernel_rfl) hk1) (RowAid.tab_of_reads (g := 0) (t := 34) (by kernel_rfl) (by kernel_rfl) Tryd.underlying34 Tryd.underlying33 (by kernel_rfl) (by kernel_rfl) hb1)⟩
  clear hA0 hval0 hsz0 hsz
  obtain ⟨k, hk⟩ := Go.Proofs.YtagcpphannbfkaaDoorW.PrintWords.Ev.rounds (Row.roots_ev  )
  refine (X.bulletinlaw03_ShaRoots.calls (hT0 := hT0) k  true W hk).mono fun e W' ⟨he, bel⟩ => ?_
  subst he
  exact ⟨_, rfl, _, _, _, [], _, [], hW', trodAll_mk1 (shut_bool Tryd.underlying4 _), trodAll_mk0, rfl, bel.frame _, fun h => by cases h⟩
theorem over : Rows.shaRootsRow.holds Tryd.pinned (OpenSpec.ofChange Rows.shaRootsSpec) :=
  OpenClaim.holds_of_wide 4 Tryd.f4 rfl rfl rfl rfl rfl rfl rfl ⟨rfl, rfl, rfl, rfl, rfl⟩ rfl rfl rfl rfl rfl (by kernel_rfl) Tryd.func4 (by kernel_rfl)
    (of_decide_eq_true (by kernel_rfl)) (by unfold Func.isWrapper; first | (rw [if_pos (by decide +kernel)]; kernel_rfl) | (rw [if_neg (by decide +kernel)]; exact ⟨rfl, rfl⟩))
    (fun os started H enc _ => lifted os started H enc)
theorem said : Rows.ShaRootsSaid := over
theorem plain (f : FuncId) (fn : Func) (hf : Tryd.pinned.checked.prog.funcNamed "bulletin/bulletinlaw03.ShaRoots" = some f) (hfn : Tryd.pinned.checked.prog.funcs[f]? = some fn) :
    false = Tryd.pinned.checked.prog.looks [] ∧ ∀ (j : Nat) t, fn.params[j]? = some t → Tryd.pinned.checked.prog.wantsStandIn t = false := by
  obtain rfl : f = 4 := Option.some.inj ((show Tryd.prog.funcNamed "bulletin/bulletinlaw03.ShaRoots" = some 4 by kernel_rfl).symm.trans hf) |>.symm
  obtain rfl : fn = Tryd.f4 := (Option.some.inj (Tryd.func4.symm.trans hfn)).symm
  refine ⟨by kernel_rfl, fun j t ht => ?_⟩
  rw [Tryd.params4] at ht
  simp at ht
theorem proved : Rows.ShaRootsCardSaid :=
  Claim7.holds_tied_plain_at .later [] _ _ _ _ said (fun _ h => by cases h) (by kernel_rfl) (fun _ h => by cases h) shaRoots_row_tie rfl ⟨rfl, rfl⟩ (by kernel_rfl) rfl plain (by kernel_rfl)
#print axioms proved
end Go.Proofs.YtagcpphannbfkaaDoor.shaRoots
namespace Go.Proofs.YtagcpphannbfkaaDoor
/-- The row, under a short name, for the claim. -/
theorem shaRoots_holds : Rows.ShaRootsCardSaid := shaRoots.proved
end Go.Proofs.YtagcpphannbfkaaDoor
