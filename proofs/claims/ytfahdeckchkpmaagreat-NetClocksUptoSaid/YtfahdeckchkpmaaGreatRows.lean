/-
  No cell of these rows narrows 'for every input' (looked for: loops, veiled, ifaces, maps, wideKeys, modest, calm, conditions, laid).
  DERIVED. THE GIVEN ROWS OF THIS SEAT. 10 by the template 'for every input the law returns true; each argument reads behind the call as it read before'; 0 by the template 'total and deterministic' (their statements: YtfahdeckchkpmaaGreatTotals.lean).
  GIVEN WITH THE SEED: the statements are not yours to turn. If you find one false, say at which input.
  Laid BY PROGRAM, IN A SANDBOX (cutbox-rows.mjs): the forced cells as the released guide's own fill.sh prints them over the translation da738aed2310c797… (all of the seat's roots in one cut). By AI agents, Wed Nov 11 2026. No macro, syntax, notation, axiom, sorry.
-/
import Derived.Test.YtfahdeckchkpmaaGreatChecked
import GoSem.Claim
import GoSem.ClaimJoined
import GoSem.ClaimMapViews
import Derived.JoinedTies
import Derived.KernelRfl
namespace Go.Proofs.YtfahdeckchkpmaaGreat
/- THE CELL 'sum', in the pinned program and in every row, IS THE sha256 OF THE DUMP (.gsa) THAT YtfahdeckchkpmaaGreatProg.lean LOADS. Nothing in Lean hashes anything: it is a label: what it is worth is what the hold of that sum in a sandbox is worth. -/
noncomputable def Tryz.pinned : Pinned := { name := "ytfahdeckchkpmaagreat", sum := "da738aed2310c797c4d5d2e47b0abee81e6fd399590589fae3c44556da3a8495", checked := Tryz.checked }
namespace Rows
def none {H : Type} : Left H := { results := [], args := [] }

/-- 'clepsydralaw18.NetRefuses': WHATEVER THE INPUT: true; the input reads as it did. -/
def netRefusesSpec : ChangeSpec := { name := "netRefuses", fn := fun _ => fun
  | [d1, d2, d3, d4] => { results := [.lit (.bool true)], args := [d1, d2, d3, d4] }
  | _ => none }
def netRefusesRow : OpenClaim := { program := "ytfahdeckchkpmaagreat", sum := "da738aed2310c797c4d5d2e47b0abee81e6fd399590589fae3c44556da3a8495", func := "clepsydra/clepsydralaw18.NetRefuses", spec := "netRefuses", inPlace := ["slices.overlaps[byte]", "internal/bytealg.Compare", "math/bits.Sub64", "math/bits.Add64"], unfollowed := true, recurses := true, named := ["math/bits.divideError", "math/bits.overflowError"], plainKeys := false, apart := false }
def NetRefusesSaid : Prop := netRefusesRow.holds Tryz.pinned (OpenSpec.ofChange netRefusesSpec)

/-- ITS FALSE NEIGHBOUR: 'it returns false'. Refute it at one input. -/
def netRefusesWrong : ChangeSpec := { name := "netRefuses", fn := fun _ => fun
  | [d1, d2, d3, d4] => { results := [.lit (.bool false)], args := [d1, d2, d3, d4] }
  | _ => none }
def NetRefusesWrongFalsely : Prop := netRefusesRow.holds Tryz.pinned (OpenSpec.ofChange netRefusesWrong)

/-- 'clepsydralaw18.NetClocks': WHATEVER THE INPUT: true; the input reads as it did. -/
def netClocksSpec : ChangeSpec := { name := "netClocks", fn := fun _ => fun
  | [d1, d2, d3] => { results := [.lit (.bool true)], args := [d1, d2, d3] }
  | _ => none }
def netClocksRow : OpenClaim := { program := "ytfahdeckchkpmaagreat", sum := "da738aed2310c797c4d5d2e47b0abee81e6fd399590589fae3c44556da3a8495", func := "clepsydra/clepsydralaw18.NetClocks", spec := "netClocks", inPlace := ["slices.overlaps[byte]", "internal/bytealg.Compare", "math/bits.Sub64", "math/bits.Add64"], unfollowed := true, recurses := true, named := ["math/bits.divideError", "math/bits.overflowError"], plainKeys := false, apart := false }
def NetClocksSaid : Prop := netClocksRow.holds Tryz.pinned (OpenSpec.ofChange netClocksSpec)

/-- ITS FALSE NEIGHBOUR: 'it returns false'. Refute it at one input. -/
def netClocksWrong : ChangeSpec := { name := "netClocks", fn := fun _ => fun
  | [d1, d2, d3] => { results := [.lit (.bool false)], args := [d1, d2, d3] }
  | _ => none }
def NetClocksWrongFalsely : Prop := netClocksRow.holds Tryz.pinned (OpenSpec.ofChange netClocksWrong)

/-- 'clepsydralaw18.NetCarries': WHATEVER THE INPUT: true; the input reads as it did. -/
def netCarriesSpec : ChangeSpec := { name := "netCarries", fn := fun _ => fun
  | [d1, d2, d3, d4] => { results := [.lit (.bool true)], args := [d1, d2, d3, d4] }
  | _ => none }
def netCarriesRow : OpenClaim := { program := "ytfahdeckchkpmaagreat", sum := "da738aed2310c797c4d5d2e47b0abee81e6fd399590589fae3c44556da3a8495", func := "clepsydra/clepsydralaw18.NetCarries", spec := "netCarries", inPlace := ["slices.overlaps[byte]", "internal/bytealg.Compare", "math/bits.Sub64", "math/bits.Add64"], unfollowed := true, recurses := true, named := ["math/bits.divideError", "math/bits.overflowError"], plainKeys := false, apart := false }
def NetCarriesSaid : Prop := netCarriesRow.holds Tryz.pinned (OpenSpec.ofChange netCarriesSpec)

/-- ITS FALSE NEIGHBOUR: 'it returns false'. Refute it at one input. -/
def netCarriesWrong : ChangeSpec := { name := "netCarries", fn := fun _ => fun
  | [d1, d2, d3, d4] => { results := [.lit (.bool false)], args := [d1, d2, d3, d4] }
  | _ => none }
def NetCarriesWrongFalsely : Prop := netCarriesRow.holds Tryz.pinned (OpenSpec.ofChange netCarriesWrong)

/-- 'clepsydralaw18.NetSilent': WHATEVER THE INPUT: true; the input reads as it did. -/
def netSilentSpec : ChangeSpec := { name := "netSilent", fn := fun _ => fun
  | [d1, d2, d3, d4, d5] => { results := [.lit (.bool true)], args := [d1, d2, d3, d4, d5] }
  | _ => none }
def netSilentRow : OpenClaim := { program := "ytfahdeckchkpmaagreat", sum := "da738aed2310c797c4d5d2e47b0abee81e6fd399590589fae3c44556da3a8495", func := "clepsydra/clepsydralaw18.NetSilent", spec := "netSilent", inPlace := ["slices.overlaps[byte]", "internal/bytealg.Compare", "math/bits.Sub64", "math/bits.Add64"], unfollowed := true, recurses := true, named := ["math/bits.divideError", "math/bits.overflowError"], plainKeys := false, apart := false }
def NetSilentSaid : Prop := netSilentRow.holds Tryz.pinned (OpenSpec.ofChange netSilentSpec)

/-- ITS FALSE NEIGHBOUR: 'it returns false'. Refute it at one input. -/
def netSilentWrong : ChangeSpec := { name := "netSilent", fn := fun _ => fun
  | [d1, d2, d3, d4, d5] => { results := [.lit (.bool false)], args := [d1, d2, d3, d4, d5] }
  | _ => none }
def NetSilentWrongFalsely : Prop := netSilentRow.holds Tryz.pinned (OpenSpec.ofChange netSilentWrong)

/-- 'clepsydralaw17.HostRefuses': WHATEVER THE INPUT: true; the input reads as it did. -/
def hostRefusesSpec : ChangeSpec := { name := "hostRefuses", fn := fun _ => fun
  | [d1, d2, d3, d4, d5, d6, d7] => { results := [.lit (.bool true)], args := [d1, d2, d3, d4, d5, d6, d7] }
  | _ => none }
def hostRefusesRow : OpenClaim := { program := "ytfahdeckchkpmaagreat", sum := "da738aed2310c797c4d5d2e47b0abee81e6fd399590589fae3c44556da3a8495", func := "clepsydra/clepsydralaw17.HostRefuses", spec := "hostRefuses", inPlace := ["slices.overlaps[byte]", "internal/bytealg.Compare", "math/bits.Sub64", "math/bits.Add64"], unfollowed := true, recurses := true, named := ["math/bits.divideError", "math/bits.overflowError"], plainKeys := false, apart := false }
def HostRefusesSaid : Prop := hostRefusesRow.holds Tryz.pinned (OpenSpec.ofChange hostRefusesSpec)

/-- ITS FALSE NEIGHBOUR: 'it returns false'. Refute it at one input. -/
def hostRefusesWrong : ChangeSpec := { name := "hostRefuses", fn := fun _ => fun
  | [d1, d2, d3, d4, d5, d6, d7] => { results := [.lit (.bool false)], args := [d1, d2, d3, d4, d5, d6, d7] }
  | _ => none }
def HostRefusesWrongFalsely : Prop := hostRefusesRow.holds Tryz.pinned (OpenSpec.ofChange hostRefusesWrong)

/-- 'clepsydralaw17.HostComes': WHATEVER THE INPUT: true; the input reads as it did. -/
def hostComesSpec : ChangeSpec := { name := "hostComes", fn := fun _ => fun
  | [d] => { results := [.lit (.bool true)], args := [d] }
  | _ => none }
def hostComesRow : OpenClaim := { program := "ytfahdeckchkpmaagreat", sum := "da738aed2310c797c4d5d2e47b0abee81e6fd399590589fae3c44556da3a8495", func := "clepsydra/clepsydralaw17.HostComes", spec := "hostComes", inPlace := ["math/bits.Sub64", "math/bits.Add64", "slices.overlaps[byte]", "internal/bytealg.Compare"], unfollowed := true, recurses := true, named := ["math/bits.divideError", "math/bits.overflowError"], plainKeys := false, apart := false }
def HostComesSaid : Prop := hostComesRow.holds Tryz.pinned (OpenSpec.ofChange hostComesSpec)

/-- ITS FALSE NEIGHBOUR: 'it returns false'. Refute it at one input. -/
def hostComesWrong : ChangeSpec := { name := "hostComes", fn := fun _ => fun
  | [d] => { results := [.lit (.bool false)], args := [d] }
  | _ => none }
def HostComesWrongFalsely : Prop := hostComesRow.holds Tryz.pinned (OpenSpec.ofChange hostComesWrong)

/-- 'clepsydralaw17.HostTrusts': WHATEVER THE INPUT: true; the input reads as it did. -/
def hostTrustsSpec : ChangeSpec := { name := "hostTrusts", fn := fun _ => fun
  | [d1, d2] => { results := [.lit (.bool true)], args := [d1, d2] }
  | _ => none }
def hostTrustsRow : OpenClaim := { program := "ytfahdeckchkpmaagreat", sum := "da738aed2310c797c4d5d2e47b0abee81e6fd399590589fae3c44556da3a8495", func := "clepsydra/clepsydralaw17.HostTrusts", spec := "hostTrusts", inPlace := ["math/bits.Sub64", "math/bits.Add64", "slices.overlaps[byte]", "internal/bytealg.Compare"], unfollowed := true, recurses := true, named := ["math/bits.divideError", "math/bits.overflowError"], plainKeys := false, apart := false }
def HostTrustsSaid : Prop := hostTrustsRow.holds Tryz.pinned (OpenSpec.ofChange hostTrustsSpec)

/-- ITS FALSE NEIGHBOUR: 'it returns false'. Refute it at one input. -/
def hostTrustsWrong : ChangeSpec := { name := "hostTrusts", fn := fun _ => fun
  | [d1, d2] => { results := [.lit (.bool false)], args := [d1, d2] }
  | _ => none }
def HostTrustsWrongFalsely : Prop := hostTrustsRow.holds Tryz.pinned (OpenSpec.ofChange hostTrustsWrong)

/-- 'clepsydralaw17.HostSpoilt': WHATEVER THE INPUT: true; the input reads as it did. -/
def hostSpoiltSpec : ChangeSpec := { name := "hostSpoilt", fn := fun _ => fun
  | [d1, d2, d3] => { results := [.lit (.bool true)], args := [d1, d2, d3] }
  | _ => none }
def hostSpoiltRow : OpenClaim := { program := "ytfahdeckchkpmaagreat", sum := "da738aed2310c797c4d5d2e47b0abee81e6fd399590589fae3c44556da3a8495", func := "clepsydra/clepsydralaw17.HostSpoilt", spec := "hostSpoilt", inPlace := ["math/bits.Sub64", "math/bits.Add64", "slices.overlaps[byte]", "internal/bytealg.Compare"], unfollowed := true, recurses := true, named := ["math/bits.divideError", "math/bits.overflowError"], plainKeys := false, apart := false }
def HostSpoiltSaid : Prop := hostSpoiltRow.holds Tryz.pinned (OpenSpec.ofChange hostSpoiltSpec)

/-- ITS FALSE NEIGHBOUR: 'it returns false'. Refute it at one input. -/
def hostSpoiltWrong : ChangeSpec := { name := "hostSpoilt", fn := fun _ => fun
  | [d1, d2, d3] => { results := [.lit (.bool false)], args := [d1, d2, d3] }
  | _ => none }
def HostSpoiltWrongFalsely : Prop := hostSpoiltRow.holds Tryz.pinned (OpenSpec.ofChange hostSpoiltWrong)

/-- 'clepsydralaw17.HostAnew': WHATEVER THE INPUT: true; the input reads as it did. -/
def hostAnewSpec : ChangeSpec := { name := "hostAnew", fn := fun _ => fun
  | [d1, d2] => { results := [.lit (.bool true)], args := [d1, d2] }
  | _ => none }
def hostAnewRow : OpenClaim := { program := "ytfahdeckchkpmaagreat", sum := "da738aed2310c797c4d5d2e47b0abee81e6fd399590589fae3c44556da3a8495", func := "clepsydra/clepsydralaw17.HostAnew", spec := "hostAnew", inPlace := ["math/bits.Sub64", "math/bits.Add64", "slices.overlaps[byte]", "internal/bytealg.Compare"], unfollowed := true, recurses := true, named := ["math/bits.divideError", "math/bits.overflowError"], plainKeys := false, apart := false }
def HostAnewSaid : Prop := hostAnewRow.holds Tryz.pinned (OpenSpec.ofChange hostAnewSpec)

/-- ITS FALSE NEIGHBOUR: 'it returns false'. Refute it at one input. -/
def hostAnewWrong : ChangeSpec := { name := "hostAnew", fn := fun _ => fun
  | [d1, d2] => { results := [.lit (.bool false)], args := [d1, d2] }
  | _ => none }
def HostAnewWrongFalsely : Prop := hostAnewRow.holds Tryz.pinned (OpenSpec.ofChange hostAnewWrong)

/-- 'clepsydratop.TopNoise': WHATEVER THE INPUT: true; the input reads as it did. -/
def topNoiseSpec : ChangeSpec := { name := "topNoise", fn := fun _ => fun
  | [d1, d2, d3] => { results := [.lit (.bool true)], args := [d1, d2, d3] }
  | _ => none }
def topNoiseRow : OpenClaim := { program := "ytfahdeckchkpmaagreat", sum := "da738aed2310c797c4d5d2e47b0abee81e6fd399590589fae3c44556da3a8495", func := "clepsydra/clepsydratop.TopNoise", spec := "topNoise", inPlace := ["math/bits.Sub64", "math/bits.Add64", "internal/bytealg.Compare", "slices.overlaps[byte]"], unfollowed := true, recurses := true, named := ["math/bits.divideError", "math/bits.overflowError"], plainKeys := false, apart := false }
def TopNoiseSaid : Prop := topNoiseRow.holds Tryz.pinned (OpenSpec.ofChange topNoiseSpec)

/-- ITS FALSE NEIGHBOUR: 'it returns false'. Refute it at one input. -/
def topNoiseWrong : ChangeSpec := { name := "topNoise", fn := fun _ => fun
  | [d1, d2, d3] => { results := [.lit (.bool false)], args := [d1, d2, d3] }
  | _ => none }
def TopNoiseWrongFalsely : Prop := topNoiseRow.holds Tryz.pinned (OpenSpec.ofChange topNoiseWrong)

/- THE SECOND FORM. 'bulk': how many values and letters a reading holds, each counted each time it is reached (what is shared counts as often as it is met; a slice's spare places count too). A statement '..UptoSaid' is the law's where the arguments, and the package variables that the reading takes, are together of bulk at most 1048576: NARROWER than '..Said'. Prove '..Said' where nothing that the law and all that it calls make is longer than what came in: it says more and counts as full. Else prove '..UptoSaid'. A law counts once. -/
mutual
def uptoBulk {H : Type} : DataW H → Nat
  | .lit (.string bytes) => bytes.length + 1
  | .lit _ => 1
  | .nil => 1
  | .ptr d => uptoBulk d + 1
  | .slice elems spare => uptoBulkAll elems + uptoBulkAll spare + 1
  | .agg parts => uptoBulkAll parts + 1
  | .iface _ d => uptoBulk d + 1
  | .map entries => uptoBulkEntries entries + 1
  | .held _ => 1
def uptoBulkAll {H : Type} : List (DataW H) → Nat
  | [] => 0
  | d :: r => uptoBulk d + uptoBulkAll r
def uptoBulkEntries {H : Type} : List (Lit × DataW H) → Nat
  | [] => 0
  | x :: r => uptoBulkEntry x + uptoBulkEntries r
def uptoBulkEntry {H : Type} : Lit × DataW H → Nat
  | (.string bytes, d) => bytes.length + uptoBulk d + 1
  | (_, d) => uptoBulk d + 1
 end
def uptoSmall : (H : Type) → List (DataW H) → Bool := fun _ ds => decide (uptoBulkAll ds ≤ 1048576)
def OpenSpec.upto (s : _root_.Go.ChangeSpec) : _root_.Go.OpenSpec := { _root_.Go.OpenSpec.ofChange s with cond := some uptoSmall }

/-- 'clepsydralaw18.NetRefuses', WHERE WHAT IT READS IS OF BULK AT MOST 1048576: true; the input reads as it did. -/
def netRefusesUptoRow : OpenClaim := { program := "ytfahdeckchkpmaagreat", sum := "da738aed2310c797c4d5d2e47b0abee81e6fd399590589fae3c44556da3a8495", func := "clepsydra/clepsydralaw18.NetRefuses", spec := "netRefuses", inPlace := ["slices.overlaps[byte]", "internal/bytealg.Compare", "math/bits.Sub64", "math/bits.Add64"], unfollowed := true, recurses := true, named := ["math/bits.divideError", "math/bits.overflowError"], plainKeys := false, apart := false, narrowed := true }
def NetRefusesUptoSaid : Prop := netRefusesUptoRow.holds Tryz.pinned (OpenSpec.upto netRefusesSpec)

/-- 'clepsydralaw18.NetClocks', WHERE WHAT IT READS IS OF BULK AT MOST 1048576: true; the input reads as it did. -/
def netClocksUptoRow : OpenClaim := { program := "ytfahdeckchkpmaagreat", sum := "da738aed2310c797c4d5d2e47b0abee81e6fd399590589fae3c44556da3a8495", func := "clepsydra/clepsydralaw18.NetClocks", spec := "netClocks", inPlace := ["slices.overlaps[byte]", "internal/bytealg.Compare", "math/bits.Sub64", "math/bits.Add64"], unfollowed := true, recurses := true, named := ["math/bits.divideError", "math/bits.overflowError"], plainKeys := false, apart := false, narrowed := true }
def NetClocksUptoSaid : Prop := netClocksUptoRow.holds Tryz.pinned (OpenSpec.upto netClocksSpec)

/-- 'clepsydralaw18.NetCarries', WHERE WHAT IT READS IS OF BULK AT MOST 1048576: true; the input reads as it did. -/
def netCarriesUptoRow : OpenClaim := { program := "ytfahdeckchkpmaagreat", sum := "da738aed2310c797c4d5d2e47b0abee81e6fd399590589fae3c44556da3a8495", func := "clepsydra/clepsydralaw18.NetCarries", spec := "netCarries", inPlace := ["slices.overlaps[byte]", "internal/bytealg.Compare", "math/bits.Sub64", "math/bits.Add64"], unfollowed := true, recurses := true, named := ["math/bits.divideError", "math/bits.overflowError"], plainKeys := false, apart := false, narrowed := true }
def NetCarriesUptoSaid : Prop := netCarriesUptoRow.holds Tryz.pinned (OpenSpec.upto netCarriesSpec)

/-- 'clepsydralaw18.NetSilent', WHERE WHAT IT READS IS OF BULK AT MOST 1048576: true; the input reads as it did. -/
def netSilentUptoRow : OpenClaim := { program := "ytfahdeckchkpmaagreat", sum := "da738aed2310c797c4d5d2e47b0abee81e6fd399590589fae3c44556da3a8495", func := "clepsydra/clepsydralaw18.NetSilent", spec := "netSilent", inPlace := ["slices.overlaps[byte]", "internal/bytealg.Compare", "math/bits.Sub64", "math/bits.Add64"], unfollowed := true, recurses := true, named := ["math/bits.divideError", "math/bits.overflowError"], plainKeys := false, apart := false, narrowed := true }
def NetSilentUptoSaid : Prop := netSilentUptoRow.holds Tryz.pinned (OpenSpec.upto netSilentSpec)

/-- 'clepsydralaw17.HostRefuses', WHERE WHAT IT READS IS OF BULK AT MOST 1048576: true; the input reads as it did. -/
def hostRefusesUptoRow : OpenClaim := { program := "ytfahdeckchkpmaagreat", sum := "da738aed2310c797c4d5d2e47b0abee81e6fd399590589fae3c44556da3a8495", func := "clepsydra/clepsydralaw17.HostRefuses", spec := "hostRefuses", inPlace := ["slices.overlaps[byte]", "internal/bytealg.Compare", "math/bits.Sub64", "math/bits.Add64"], unfollowed := true, recurses := true, named := ["math/bits.divideError", "math/bits.overflowError"], plainKeys := false, apart := false, narrowed := true }
def HostRefusesUptoSaid : Prop := hostRefusesUptoRow.holds Tryz.pinned (OpenSpec.upto hostRefusesSpec)

/-- 'clepsydralaw17.HostComes', WHERE WHAT IT READS IS OF BULK AT MOST 1048576: true; the input reads as it did. -/
def hostComesUptoRow : OpenClaim := { program := "ytfahdeckchkpmaagreat", sum := "da738aed2310c797c4d5d2e47b0abee81e6fd399590589fae3c44556da3a8495", func := "clepsydra/clepsydralaw17.HostComes", spec := "hostComes", inPlace := ["math/bits.Sub64", "math/bits.Add64", "slices.overlaps[byte]", "internal/bytealg.Compare"], unfollowed := true, recurses := true, named := ["math/bits.divideError", "math/bits.overflowError"], plainKeys := false, apart := false, narrowed := true }
def HostComesUptoSaid : Prop := hostComesUptoRow.holds Tryz.pinned (OpenSpec.upto hostComesSpec)

/-- 'clepsydralaw17.HostTrusts', WHERE WHAT IT READS IS OF BULK AT MOST 1048576: true; the input reads as it did. -/
def hostTrustsUptoRow : OpenClaim := { program := "ytfahdeckchkpmaagreat", sum := "da738aed2310c797c4d5d2e47b0abee81e6fd399590589fae3c44556da3a8495", func := "clepsydra/clepsydralaw17.HostTrusts", spec := "hostTrusts", inPlace := ["math/bits.Sub64", "math/bits.Add64", "slices.overlaps[byte]", "internal/bytealg.Compare"], unfollowed := true, recurses := true, named := ["math/bits.divideError", "math/bits.overflowError"], plainKeys := false, apart := false, narrowed := true }
def HostTrustsUptoSaid : Prop := hostTrustsUptoRow.holds Tryz.pinned (OpenSpec.upto hostTrustsSpec)

/-- 'clepsydralaw17.HostSpoilt', WHERE WHAT IT READS IS OF BULK AT MOST 1048576: true; the input reads as it did. -/
def hostSpoiltUptoRow : OpenClaim := { program := "ytfahdeckchkpmaagreat", sum := "da738aed2310c797c4d5d2e47b0abee81e6fd399590589fae3c44556da3a8495", func := "clepsydra/clepsydralaw17.HostSpoilt", spec := "hostSpoilt", inPlace := ["math/bits.Sub64", "math/bits.Add64", "slices.overlaps[byte]", "internal/bytealg.Compare"], unfollowed := true, recurses := true, named := ["math/bits.divideError", "math/bits.overflowError"], plainKeys := false, apart := false, narrowed := true }
def HostSpoiltUptoSaid : Prop := hostSpoiltUptoRow.holds Tryz.pinned (OpenSpec.upto hostSpoiltSpec)

/-- 'clepsydralaw17.HostAnew', WHERE WHAT IT READS IS OF BULK AT MOST 1048576: true; the input reads as it did. -/
def hostAnewUptoRow : OpenClaim := { program := "ytfahdeckchkpmaagreat", sum := "da738aed2310c797c4d5d2e47b0abee81e6fd399590589fae3c44556da3a8495", func := "clepsydra/clepsydralaw17.HostAnew", spec := "hostAnew", inPlace := ["math/bits.Sub64", "math/bits.Add64", "slices.overlaps[byte]", "internal/bytealg.Compare"], unfollowed := true, recurses := true, named := ["math/bits.divideError", "math/bits.overflowError"], plainKeys := false, apart := false, narrowed := true }
def HostAnewUptoSaid : Prop := hostAnewUptoRow.holds Tryz.pinned (OpenSpec.upto hostAnewSpec)

/-- 'clepsydratop.TopNoise', WHERE WHAT IT READS IS OF BULK AT MOST 1048576: true; the input reads as it did. -/
def topNoiseUptoRow : OpenClaim := { program := "ytfahdeckchkpmaagreat", sum := "da738aed2310c797c4d5d2e47b0abee81e6fd399590589fae3c44556da3a8495", func := "clepsydra/clepsydratop.TopNoise", spec := "topNoise", inPlace := ["math/bits.Sub64", "math/bits.Add64", "internal/bytealg.Compare", "slices.overlaps[byte]"], unfollowed := true, recurses := true, named := ["math/bits.divideError", "math/bits.overflowError"], plainKeys := false, apart := false, narrowed := true }
def TopNoiseUptoSaid : Prop := topNoiseUptoRow.holds Tryz.pinned (OpenSpec.upto topNoiseSpec)

end Rows
end Go.Proofs.YtfahdeckchkpmaaGreat
