/- bulletin/bulletinlaw25.TokenAll, as its row asks for it. -/
import Derived.Test.YtcdhpknjinonhaaDoorTokA
namespace Go.Proofs.YtcdhpknjinonhaaDoor.X
open Go.RowKit Go.Proofs.YtcdhpknjinonhaaDoorW.PrintWords Go.Proofs.YtcdhpknjinonhaaDoorW.PrintLast Go.Proofs.YtcdhpknjinonhaaDoorW.PrintMore
set_option linter.unusedVariables false
def bulletinlaw25_TokenAll.f (k : Nat) (key : ByteArray) (n : Int) (a l o : ByteArray) (at_ : Int) (c : Int) (more : ByteArray) (other : Int) : Option Bool :=
  if (-9223372036854775808 ≤ n ∧ n ≤ 9223372036854775807) ∧ (0 ≤ c ∧ c < 256) ∧ (-9223372036854775808 ≤ other ∧ other ≤ 9223372036854775807) then some true else none
theorem bulletinlaw25_TokenAll.calls (k : Nat) (key : ByteArray) (n : Int) (a l o : ByteArray) (at_ : Int) (c : Int) (more : ByteArray) (other : Int) (r : Bool) (w : World) (hT0 : Aside0 (Tok.Both w)) (h : bulletinlaw25_TokenAll.f k key n a l o at_ c more other = some r) :
    Calls Tryd.prog 5 #[.string key, .agg #[.int .i64 n, .string a, .string l, .string o], .int .i64 at_, .int .u8 c, .string more, .int .i64 other] w fun e w' => e = .returned (.bool r) ∧ Below w.heap.size w w' := by
  unfold bulletinlaw25_TokenAll.f at h
  split at h
  · rename_i hb
    obtain rfl : true = r := Option.some.inj h
    obtain ⟨c8, hc⟩ : ∃ c8 : UInt8, (c8.toNat : Int) = c := ⟨UInt8.ofNat c.toNat, by
      rw [UInt8.toNat_ofNat']
      omega⟩
    have := Tok.all_calls w hT0.out key n a l o at_ c8 more other hb.1.1 hb.1.2 hb.2.2.1 hb.2.2.2
    rw [hc] at this
    exact this
  · cases h
end Go.Proofs.YtcdhpknjinonhaaDoor.X
namespace Go.Proofs.YtcdhpknjinonhaaDoor.Row
open Go.RowKit Go.Proofs.YtcdhpknjinonhaaDoorW.PrintWords Go.Proofs.YtcdhpknjinonhaaDoorW.PrintLast
set_option linter.unusedVariables false
theorem wf8 {c : Int} (h : (Lit.int .u8 c).wf = true) : 0 ≤ c ∧ c < 256 := by
  simp [Lit.wf, IntKind.min, IntKind.max, IntKind.signed, IntKind.bits] at h
  omega
theorem all_ev (key : ByteArray) (n : Int) (a l o : ByteArray) (at_ : Int) (c : Int) (more : ByteArray) (other : Int) (h0 : key.size ≤ 140737488351232) (h1 : (Lit.int .i64 n).wf = true) (h2 : (Lit.int .i64 at_).wf = true) (h3 : (Lit.int .u8 c).wf = true) (h4 : more.size ≤ 140737488351232) (h5 : (Lit.int .i64 other).wf = true) : Ev (fun k => X.bulletinlaw25_TokenAll.f k key n a l o at_ c more other) true := by
  have e : (fun k => X.bulletinlaw25_TokenAll.f k key n a l o at_ c more other) = fun _ => some true := by
    funext k
    unfold X.bulletinlaw25_TokenAll.f
    rw [if_pos ⟨Aid.wf64 h1, wf8 h3, Aid.wf64 h5⟩]
  rw [e]
  exact Ev.now _
end Go.Proofs.YtcdhpknjinonhaaDoor.Row
