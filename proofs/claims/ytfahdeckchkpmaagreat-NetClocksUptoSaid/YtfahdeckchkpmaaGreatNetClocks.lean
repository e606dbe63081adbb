/- Proved here: NetClocksUptoSaid, the law NetClocks where what it reads is of bulk at most 1048576; this text holds a part of its proof. -/
import Derived.Test.YtfahdeckchkpmaaGreatLB
import Derived.Test.YtfahdeckchkpmaaGreatL
import Derived.WalkKit
import Derived.ProofKit
import Derived.OpenShut
import Derived.JoinedCond
section
namespace Go.Proofs.YtfahdeckchkpmaaGreat.netClocks
open Go.ChangeShapes Go.WideShapes Go.ChangeAt Go.RowKit
set_option linter.unusedVariables false
set_option maxRecDepth 100000

theorem own : ownKnob Tryz.prog.godebug = none := by kernel_rfl

theorem contract (H : Type) (enc : TypeId × Value → H) (W : World) (base : Nat) (args : Array Value) (ds gs : List (DataW H)) (before : List MemPlace)
    (hval : ∀ (j : Nat) t v, Tryz.f4.params[j]? = some t → args[j]? = some v → Value.okWide Tryz.prog W .any base t v)
    (hW : DataW.Whole enc Tryz.prog Tryz.f4.params.toList Rows.netClocksSpec.vars false W args.toList ds gs before) (hk : Rows.uptoSmall H (ds ++ gs) = true) :
    Calls Tryz.prog 4 args W fun e W' => ∃ v, e = .returned v ∧ Rows.netClocksSpec.post enc Tryz.prog Tryz.f4 false true false false W args v W' := by
  have hW' := hW
  obtain ⟨p, q, hA, hV, rfl, hfz, hnd⟩ := hW
  obtain ⟨rfl, rfl⟩ := trodVars_none hV
  have hs : Rows.netClocksSpec.fn H (ds ++ []) = { results := [.lit (.bool true)], args := ds, vars := [] } := by
    rw [Tryz.params4] at hA
    obtain ⟨v0, vs0, d0, ds0, p0, q0, hargs, rfl, rfl, h0, r0⟩ := trodAll_cons hA
    obtain ⟨v1, vs1, d1, ds1, p1, q1, hargs1, rfl, rfl, h1, r1⟩ := trodAll_cons r0
    obtain ⟨v2, vs2, d2, ds2, p2, q2, hargs2, rfl, rfl, h2, r2⟩ := trodAll_cons r1
    obtain ⟨rfl, rfl, rfl⟩ := trodAll_nil r2
    rfl
  exact Go.Av.law_true Tryz.func4 (by kernel_rfl) rfl (by kernel_rfl) rfl (by kernel_rfl) rfl Tryz.underlying4 Go.Av.fitsClocks Go.Av.own_bulk hs hval hW' (Go.Av.own_all hk) fun xs => Go.Av.calls_netClocks

/-- THE SECOND FORM's STEP -/
theorem lifted (os : Os) (started : os.Started) (H : Type) (enc : TypeId × Value → H) (F : Stop.Interp) :
    ReturnsInHanded {} Tryz.checked os 4 .any ((Rows.OpenSpec.upto Rows.netClocksSpec).pre6 enc Tryz.prog Tryz.f4 Rows.netClocksUptoRow.domain false) (((Rows.OpenSpec.upto Rows.netClocksSpec).at F).post enc Tryz.prog Tryz.f4 false true false false) := by
  refine returnsInHanded_of_cond (C := Tryz.checked) (s := Rows.OpenSpec.upto Rows.netClocksSpec) (k := Rows.uptoSmall) rfl own started (by kernel_rfl) Tryz.func4
    (OpenSpec.witness (enc := enc) (C := Tryz.checked) (s := Rows.OpenSpec.upto Rows.netClocksSpec) (k := Rows.uptoSmall) rfl false ⟨#[], #[.slice none 0 0, .slice none 0 0, .int .i64 0], []⟩ 8 (by kernel_rfl) (by kernel_rfl) (by kernel_rfl)
      (x := ([.nil, .nil, .lit (.int .i64 0)], [], [])) (by kernel_rfl) rfl (by kernel_rfl)) ?_
  intro W base args ds gs before hval hW _ hk _
  exact contract H enc W base args ds gs before hval hW hk

theorem o1 : Tryz.pinned.checked.prog.funcNamed Rows.netClocksUptoRow.func = some 4 := by kernel_rfl
theorem p1 : laidOutB Tryz.prog = true := by kernel_rfl
theorem p2 : mapsRowed Tryz.prog = true := by kernel_rfl
theorem p3 : (Rows.netClocksUptoRow.inPlace == Tryz.prog.inPlace 4) = true := by kernel_rfl
theorem p4 : (Rows.netClocksUptoRow.unfollowed == Tryz.prog.unfollowed 4) = true := by kernel_rfl
theorem p5 : (Rows.netClocksUptoRow.recurses == Tryz.prog.recurses 4) = true := by kernel_rfl
theorem p6 : (Rows.netClocksUptoRow.named == Tryz.prog.varsNamed 4) = true := by kernel_rfl
theorem o3 : joinedFacts Tryz.pinned.checked.prog 4 Tryz.f4 (Rows.OpenSpec.upto Rows.netClocksSpec).bare Rows.netClocksUptoRow = true :=
  Go.Av.joined_mk p1 p2 p3 p4 p5 p6 (by kernel_rfl) (by kernel_rfl) (by kernel_rfl)
theorem o4 : Tryz.f4.isInstance Tryz.pinned.checked.prog Rows.netClocksUptoRow.origin Rows.netClocksUptoRow.targs := of_decide_eq_true (by kernel_rfl)
theorem o5 : Tryz.f4.isWrapper Tryz.pinned.checked.prog Rows.netClocksUptoRow.wrapper Rows.netClocksUptoRow.mainSum := by unfold Func.isWrapper; first | (rw [if_pos (by decide +kernel)]; kernel_rfl) | (rw [if_neg (by decide +kernel)]; exact ⟨rfl, rfl⟩)
theorem over : Rows.netClocksUptoRow.holds Tryz.pinned (Rows.OpenSpec.upto Rows.netClocksSpec) :=
  OpenClaim.holds_of_cond 4 Tryz.f4 rfl rfl rfl rfl rfl rfl rfl ⟨rfl, rfl, rfl, rfl, rfl⟩ rfl rfl rfl rfl rfl o1 Tryz.func4 o3 o4 o5
    (fun os started H enc _ F => lifted os started H enc F)

theorem proved : Rows.NetClocksUptoSaid :=
  over
end Go.Proofs.YtfahdeckchkpmaaGreat.netClocks
end
