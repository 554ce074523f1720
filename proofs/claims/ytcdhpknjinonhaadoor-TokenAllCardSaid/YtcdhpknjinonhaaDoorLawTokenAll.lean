/- Law TokenAll: for every input the call of bulletin/bulletinlaw25.TokenAll returns true, and each argument reads afterwards as it read before. No condition. -/
import Derived.Lib.SmallJoins
import Derived.Test.YtcdhpknjinonhaaDoorRows
import Derived.Test.YtcdhpknjinonhaaDoorRowAid
import Derived.Test.YtcdhpknjinonhaaDoorTokAll
import Derived.Test.YtcdhpknjinonhaaDoorTokRow3
import Derived.WalkKit
import Derived.ProofKit
import Derived.OpenShut
import Derived.ShutString
import Derived.ChangeOld
import Derived.Below
import Derived.SizedLaws
import Derived.Test.YtcdhpknjinonhaaDoorWSized
import Derived.Test.YtcdhpknjinonhaaDoorCards
import Derived.Test.YtcdhpknjinonhaaDoorTie
import Derived.LaidMore
import Derived.Lay
import Derived.SevenTiedAt
import Derived.Stop.Joined
import Derived.Lib.LaidU8
import Derived.Lib.ItoaNum
import Derived.Shelf.Vars
namespace Go.Proofs.YtcdhpknjinonhaaDoor.tokenAll
open Go.ChangeShapes Go.WideShapes Go.ChangeAt Go.RowKit
open Go.ChangeMaps (open_string shut_string)
set_option linter.unusedVariables false
theorem own : ownKnob Tryd.prog.godebug = none := by kernel_rfl
theorem laidOut : laidOutB Tryd.prog = true := by kernel_rfl
set_option maxRecDepth 100000 in
theorem lifted (os : Os) (started : os.Started) (H : Type) (enc : TypeId × Value → H) :
    ReturnsInHanded {} Tryd.checked os 5 .any (fun w args => (Rows.tokenAllSpec.pre enc Tryd.prog Tryd.f5 Rows.tokenAllRow.domain false w args ∧ laidMetH Tryd.prog Rows.tokenAllRow.laid w) ∧ sizedMet enc Tryd.prog Tryd.f5 (OpenSpec.ofChange Rows.tokenAllSpec) false w args) (Rows.tokenAllSpec.post enc Tryd.prog Tryd.f5 false true false false) := by
  refine RowAid.handed_and_shaped (C := Tryd.checked) (X := fun w _ => laidMetH Tryd.prog Rows.tokenAllRow.laid w) (fun _ _ _ hh h => h.of_heap hh) own started (by kernel_rfl) Tryd.func5
    (ChangeSpec.witness_shaped (enc := enc) (C := Tryd.checked) (os := os) (X := fun w _ => laidMetH Tryd.prog Rows.tokenAllRow.laid w) false (World.laidAll Tryd.prog os Rows.tokenAllRow.laid) #[.string ByteArray.empty, .agg #[.int .i64 0, .string ByteArray.empty, .string ByteArray.empty, .string ByteArray.empty], .int .i64 0, .int .u8 0, .string ByteArray.empty, .int .i64 0] 8 (World.laidAll_os _ _ _)
      (World.shaped_of_ZipB (by kernel_rfl) (by kernel_rfl)) (by kernel_rfl) (by kernel_rfl) (by kernel_rfl)
      (by rw [MakeChecks.laidMetH_plain _ _ _ (by kernel_rfl)]; exact laidMet_laidAll _ (by kernel_rfl) (by kernel_rfl))) ?_
  intro W base args ds gs before hval0 hW hcnd hsz0 hL hsh _
  have hsz : (DataW.weightsEach Tryd.prog (Tryd.f5.params.toList ++ Rows.tokenAllSpec.plain.varTypes Tryd.prog) (ds ++ gs)).all (· ≤ reachBytes) = true := hsz0
  have hval : ∀ (j : Nat) t v, Tryd.f5.params[j]? = some t → args[j]? = some v → Value.okWide Tryd.prog W .any base t v := hval0
  have hW' := hW
  obtain ⟨p, q, hA0, hV, rfl, hfz, hnd⟩ := hW
  have hA : DataW.TrodAll enc Tryd.prog W 0 (fun _ => true) true Tryd.f5.params.toList args.toList ds p := hA0
  rw [Tryd.params5] at hA hval hsz
  obtain ⟨v0, vs0, d0, ds0, p0, q0, hargs, rfl, rfl, h0, r0⟩ := trodAll_cons hA
  obtain ⟨v1, vs1, d1, ds1, p1, q1, rfl, rfl, rfl, h1, r1⟩ := trodAll_cons r0
  obtain ⟨v2, vs2, d2, ds2, p2, q2, rfl, rfl, rfl, h2, r2⟩ := trodAll_cons r1
  obtain ⟨v3, vs3, d3, ds3, p3, q3, rfl, rfl, rfl, h3, r3⟩ := trodAll_cons r2
  obtain ⟨v4, vs4, d4, ds4, p4, q4, rfl, rfl, rfl, h4, r4⟩ := trodAll_cons r3
  obtain ⟨v5, vs5, d5, ds5, p5, q5, rfl, rfl, rfl, h5, r5⟩ := trodAll_cons r4
  obtain ⟨rfl, rfl, rfl⟩ := trodAll_nil r5
  obtain rfl : args = #[v0, v1, v2, v3, v4, v5] := by cases args; simp_all
  obtain ⟨rfl, rfl⟩ := trodVars_none hV
  obtain ⟨a0, rfl, rfl, rfl, y0⟩ := open_string Tryd.underlying9 (hval 0 9 v0 rfl rfl) h0
  have w0 : a0.size ≤ 140737488351232 := by
    have z := sized_string hsz (j := 0) (t := 9) rfl rfl
    rw [Array.length_toList] at z
    exact z
  have k1 := h1
  have lt1 : ∀ x ∈ p1, x.block < W.heap.size := by obtain ⟨m, hm⟩ := k1; exact DataW.trod_lt m _ _ _ hm
  obtain ⟨c1_0, c1_1, c1_2, c1_3, y1_0, y1_1, y1_2, y1_3, m1, rfl, rfl, rfl, hy1_0, hy1_1, hy1_2, hy1_3⟩ := Go.Joins.open_agg4 Tryd.underlying23 (by kernel_rfl) (by kernel_rfl) (hval 1 23 v1 rfl rfl) h1
  obtain ⟨a1_0, e1_0, rfl, w1_0⟩ := DataW.trod_int Tryd.underlying3 hy1_0
  simp at e1_0
  subst e1_0
  obtain ⟨a1_1, e1_1, rfl, w1_1⟩ := DataW.trod_string Tryd.underlying9 hy1_1
  simp at e1_1
  subst e1_1
  obtain ⟨a1_2, e1_2, rfl, w1_2⟩ := DataW.trod_string Tryd.underlying9 hy1_2
  simp at e1_2
  subst e1_2
  obtain ⟨a1_3, e1_3, rfl, w1_3⟩ := DataW.trod_string Tryd.underlying9 hy1_3
  simp at e1_3
  subst e1_3
  obtain ⟨a2, rfl, rfl, rfl, w2⟩ := open_int Tryd.underlying3 (hval 2 3 v2 rfl rfl) h2
  obtain ⟨a3, rfl, rfl, rfl, w3⟩ := open_int Tryd.underlying5 (hval 3 5 v3 rfl rfl) h3
  obtain ⟨a4, rfl, rfl, rfl, y4⟩ := open_string Tryd.underlying9 (hval 4 9 v4 rfl rfl) h4
  have w4 : a4.size ≤ 140737488351232 := by
    have z := sized_string hsz (j := 4) (t := 9) rfl rfl
    rw [Array.length_toList] at z
    exact z
  obtain ⟨a5, rfl, rfl, rfl, w5⟩ := open_int Tryd.underlying3 (hval 5 3 v5 rfl rfl) h5
  have hL' : laidMet Tryd.prog Rows.tokenAllRow.laid W := by rw [MakeChecks.laidMetH_plain _ _ _ (by kernel_rfl)] at hL; exact hL
  have hpw0 : Lib.VarReads Tryd.prog W "internal/strconv.uint64pow10" Rows.laid_internal_strconv_uint64pow10 :=
    Lib.laidMet.reads hL' (n := "internal/strconv.uint64pow10") (d := Rows.laid_internal_strconv_uint64pow10) (by simp [Rows.tokenAllRow])
  have hpw : Lib.VarReads Tryd.prog W "internal/strconv.uint64pow10" (Lib.tabData .u64 Lib.pow10Tab) := by
    have e : (Rows.laid_internal_strconv_uint64pow10 : DataW Unit) = Lib.tabData .u64 Lib.pow10Tab := by kernel_rfl
    rw [← e]; exact hpw0
  have hTx : Go.Proofs.YtcdhpknjinonhaaDoorW.PrintWords.Aside0 (X.Tabs W) := ⟨⟨Go.Proofs.cell_of_shapedOpen_int (zero := #[.int .i64 0]) (t := 3) hsh (of_decide_eq_true (by kernel_rfl)) (by kernel_rfl) rfl (by kernel_rfl) (by kernel_rfl) Tryd.underlying3, RowAid.tab_of_reads (g := 1) (t := 92) (by kernel_rfl) (by kernel_rfl) Tryd.underlying92 Tryd.underlying77 (by kernel_rfl) (by kernel_rfl) hpw⟩⟩
  have hk0 : Lib.VarReads Tryd.prog W "bulletin/sha.constants" Rows.laid_bulletin_sha_constants :=
    Lib.laidMet.reads hL' (n := "bulletin/sha.constants") (d := Rows.laid_bulletin_sha_constants) (by simp [Rows.tokenAllRow])
  have hk1 : Lib.VarReads Tryd.prog W "bulletin/sha.constants" (Lib.tabData .u32 (Sha.kc.map Sha.iv)) := by
    have e : (Rows.laid_bulletin_sha_constants : DataW Unit) = Lib.tabData .u32 (Sha.kc.map Sha.iv) := by kernel_rfl
    rw [← e]; exact hk0
  have hb0 : Lib.VarReads Tryd.prog W "bulletin/sha.begin" Rows.laid_bulletin_sha_begin :=
    Lib.laidMet.reads hL' (n := "bulletin/sha.begin") (d := Rows.laid_bulletin_sha_begin) (by simp [Rows.tokenAllRow])
  have hb1 : Lib.VarReads Tryd.prog W "bulletin/sha.begin" (Lib.tabData .u32 Sha.begins) := by
    have e : (Rows.laid_bulletin_sha_begin : DataW Unit) = Lib.tabData .u32 Sha.begins := by kernel_rfl
    rw [← e]; exact hb0
  have hTs : Go.Proofs.YtcdhpknjinonhaaDoorW.PrintWords.Aside0 (Sha.Tabs W) := ⟨Sha.tabs_of (RowAid.tab_of_reads (g := 3) (t := 72) (by kernel_rfl) (by kernel_rfl) Tryd.underlying72 Tryd.underlying69 (by kernel_rfl) (by kernel_rfl) hk1) (RowAid.tab_of_reads (g := 2) (t := 70) (by kernel_rfl) (by kernel_rfl) Tryd.underlying70 Tryd.underlying69 (by kernel_rfl) (by kernel_rfl) hb1)⟩
  have hT0 : Go.Proofs.YtcdhpknjinonhaaDoorW.PrintWords.Aside0 (Tok.Both W) := ⟨⟨hTx.out, hTs.out⟩⟩
  clear hA0 hval0 hsz0 hsz
  obtain ⟨k, hk⟩ := Go.Proofs.YtcdhpknjinonhaaDoorW.PrintWords.Ev.rounds (Row.all_ev a0 a1_0 a1_1 a1_2 a1_3 a2 a3 a4 a5 w0 w1_0 w2 w3 w4 w5)
  refine (X.bulletinlaw25_TokenAll.calls (hT0 := hT0) k a0 a1_0 a1_1 a1_2 a1_3 a2 a3 a4 a5 true W hk).mono fun e W' ⟨he, bel⟩ => ?_
  subst he
  exact ⟨_, rfl, _, _, _, [], _, [], hW', trodAll_mk1 (shut_bool Tryd.underlying4 _), (trodAll_cons_mk (shut_string Tryd.underlying9 y0) (trodAll_cons_mk (Below.trod laidOut (by kernel_rfl) (of_decide_eq_true (by kernel_rfl)) k1 bel lt1) (trodAll_cons_mk (shut_int Tryd.underlying3 w2) (trodAll_cons_mk (shut_int Tryd.underlying5 w3) (trodAll_cons_mk (shut_string Tryd.underlying9 y4) (trodAll_cons_mk (shut_int Tryd.underlying3 w5) trodAll_mk0)))))), rfl, bel.frame _, fun h => by cases h⟩
theorem over : Rows.tokenAllRow.holds Tryd.pinned (OpenSpec.ofChange Rows.tokenAllSpec) :=
  OpenClaim.holds_of_wide 5 Tryd.f5 rfl rfl rfl rfl rfl rfl rfl ⟨rfl, rfl, rfl, rfl, rfl⟩ rfl rfl rfl rfl rfl (by kernel_rfl) Tryd.func5 (by kernel_rfl)
    (of_decide_eq_true (by kernel_rfl)) (by unfold Func.isWrapper; first | (rw [if_pos (by decide +kernel)]; kernel_rfl) | (rw [if_neg (by decide +kernel)]; exact ⟨rfl, rfl⟩))
    (fun os started H enc _ => lifted os started H enc)
theorem said : Rows.TokenAllSaid := over
theorem plain (f : FuncId) (fn : Func) (hf : Tryd.pinned.checked.prog.funcNamed "bulletin/bulletinlaw25.TokenAll" = some f) (hfn : Tryd.pinned.checked.prog.funcs[f]? = some fn) :
    false = Tryd.pinned.checked.prog.looks [] ∧ ∀ (j : Nat) t, fn.params[j]? = some t → Tryd.pinned.checked.prog.wantsStandIn t = false := by
  obtain rfl : f = 5 := Option.some.inj ((show Tryd.prog.funcNamed "bulletin/bulletinlaw25.TokenAll" = some 5 by kernel_rfl).symm.trans hf) |>.symm
  obtain rfl : fn = Tryd.f5 := (Option.some.inj (Tryd.func5.symm.trans hfn)).symm
  refine ⟨by kernel_rfl, fun j t ht => ?_⟩
  rw [Tryd.params5] at ht
  have hm : t ∈ [9, 23, 3, 5, 9, 3] := (Array.mem_toList_iff (xs := #[9, 23, 3, 5, 9, 3])).2 (Array.mem_of_getElem? ht)
  have hall : ([9, 23, 3, 5, 9, 3].all fun u => !Tryd.prog.wantsStandIn u) = true := by kernel_rfl
  have h2 := List.all_eq_true.1 hall t hm
  have h3 : Tryd.prog.wantsStandIn t = false := by simpa using h2
  exact h3
theorem proved : Rows.TokenAllCardSaid :=
  Claim7.holds_tied_plain_at .later [] _ _ _ _ said (fun _ h => by cases h) (by kernel_rfl) (fun _ h => by cases h) tokenAll_row_tie rfl ⟨rfl, rfl⟩ (by kernel_rfl) rfl plain (by kernel_rfl)
#print axioms proved
end Go.Proofs.YtcdhpknjinonhaaDoor.tokenAll
namespace Go.Proofs.YtcdhpknjinonhaaDoor
/-- The row, under a short name, for the claim. -/
theorem tokenAll_holds : Rows.TokenAllCardSaid := tokenAll.proved
end Go.Proofs.YtcdhpknjinonhaaDoor
