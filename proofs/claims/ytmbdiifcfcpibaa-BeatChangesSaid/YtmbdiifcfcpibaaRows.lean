/-
  No cell of these rows narrows 'for every input' (looked for: loops, veiled, ifaces, maps, wideKeys, modest, calm, conditions, laid).
  DERIVED. THE GIVEN ROWS OF THIS SEAT. 9 by the template 'for every input the law returns true; each argument reads behind the call as it read before'; 0 by the template 'total and deterministic' (their statements: YtmbdiifcfcpibaaTotals.lean).
  GIVEN WITH THE SEED: the statements are not yours to turn. If you find one false, say at which input.
  Laid BY PROGRAM, IN A SANDBOX (cutbox-rows.mjs): the forced cells as the released guide's own fill.sh prints them over the translation 275ad3c8b1493870… (all of the seat's roots in one cut). By AI agents, Wed Nov 11 2026. No macro, syntax, notation, axiom, sorry.
-/
import Derived.Test.YtmbdiifcfcpibaaChecked
import GoSem.Claim
import GoSem.ClaimJoined
import GoSem.ClaimMapViews
import Derived.JoinedTies
import Derived.KernelRfl
namespace Go.Proofs.Ytmbdiifcfcpibaa
/- THE CELL 'sum', in the pinned program and in every row, IS THE sha256 OF THE DUMP (.gsa) THAT YtmbdiifcfcpibaaProg.lean LOADS. Nothing in Lean hashes anything: it is a label: what it is worth is what the hold of that sum in a sandbox is worth. -/
noncomputable def Try.pinned : Pinned := { name := "ytmbdiifcfcpibaa", sum := "275ad3c8b149387035424ed49156a3a1523aeaee7f9ced8a1a5dde47b819d570", checked := Try.checked }
namespace Rows
def none {H : Type} : Left H := { results := [], args := [] }

/-- 'turretlaw03.BeatExacts': WHATEVER THE INPUT: true; the input reads as it did. -/
def beatExactsSpec : ChangeSpec := { name := "beatExacts", fn := fun _ => fun
  | [d1, d2] => { results := [.lit (.bool true)], args := [d1, d2] }
  | _ => none }
def beatExactsRow : OpenClaim := { program := "ytmbdiifcfcpibaa", sum := "275ad3c8b149387035424ed49156a3a1523aeaee7f9ced8a1a5dde47b819d570", func := "turret/turretlaw03.BeatExacts", spec := "beatExacts", unfollowed := true, recurses := true, apart := false }
def BeatExactsSaid : Prop := beatExactsRow.holds Try.pinned (OpenSpec.ofChange beatExactsSpec)

/-- ITS FALSE NEIGHBOUR: 'it returns false'. Refute it at one input. -/
def beatExactsWrong : ChangeSpec := { name := "beatExacts", fn := fun _ => fun
  | [d1, d2] => { results := [.lit (.bool false)], args := [d1, d2] }
  | _ => none }
def BeatExactsWrongFalsely : Prop := beatExactsRow.holds Try.pinned (OpenSpec.ofChange beatExactsWrong)

/-- 'turretlaw03.BeatRates': WHATEVER THE INPUT: true; the input reads as it did. -/
def beatRatesSpec : ChangeSpec := { name := "beatRates", fn := fun _ => fun
  | [d1, d2] => { results := [.lit (.bool true)], args := [d1, d2] }
  | _ => none }
def beatRatesRow : OpenClaim := { program := "ytmbdiifcfcpibaa", sum := "275ad3c8b149387035424ed49156a3a1523aeaee7f9ced8a1a5dde47b819d570", func := "turret/turretlaw03.BeatRates", spec := "beatRates", unfollowed := true, recurses := true, apart := false }
def BeatRatesSaid : Prop := beatRatesRow.holds Try.pinned (OpenSpec.ofChange beatRatesSpec)

/-- ITS FALSE NEIGHBOUR: 'it returns false'. Refute it at one input. -/
def beatRatesWrong : ChangeSpec := { name := "beatRates", fn := fun _ => fun
  | [d1, d2] => { results := [.lit (.bool false)], args := [d1, d2] }
  | _ => none }
def BeatRatesWrongFalsely : Prop := beatRatesRow.holds Try.pinned (OpenSpec.ofChange beatRatesWrong)

/-- 'turretlaw03.BeatChanges': WHATEVER THE INPUT: true; the input reads as it did. -/
def beatChangesSpec : ChangeSpec := { name := "beatChanges", fn := fun _ => fun
  | [d1, d2, d3] => { results := [.lit (.bool true)], args := [d1, d2, d3] }
  | _ => none }
def beatChangesRow : OpenClaim := { program := "ytmbdiifcfcpibaa", sum := "275ad3c8b149387035424ed49156a3a1523aeaee7f9ced8a1a5dde47b819d570", func := "turret/turretlaw03.BeatChanges", spec := "beatChanges", unfollowed := true, recurses := true, apart := false }
def BeatChangesSaid : Prop := beatChangesRow.holds Try.pinned (OpenSpec.ofChange beatChangesSpec)

/-- ITS FALSE NEIGHBOUR: 'it returns false'. Refute it at one input. -/
def beatChangesWrong : ChangeSpec := { name := "beatChanges", fn := fun _ => fun
  | [d1, d2, d3] => { results := [.lit (.bool false)], args := [d1, d2, d3] }
  | _ => none }
def BeatChangesWrongFalsely : Prop := beatChangesRow.holds Try.pinned (OpenSpec.ofChange beatChangesWrong)

/-- 'turretlaw03.BeatBalances': WHATEVER THE INPUT: true; the input reads as it did. -/
def beatBalancesSpec : ChangeSpec := { name := "beatBalances", fn := fun _ => fun
  | [d1, d2] => { results := [.lit (.bool true)], args := [d1, d2] }
  | _ => none }
def beatBalancesRow : OpenClaim := { program := "ytmbdiifcfcpibaa", sum := "275ad3c8b149387035424ed49156a3a1523aeaee7f9ced8a1a5dde47b819d570", func := "turret/turretlaw03.BeatBalances", spec := "beatBalances", unfollowed := true, recurses := true, apart := false }
def BeatBalancesSaid : Prop := beatBalancesRow.holds Try.pinned (OpenSpec.ofChange beatBalancesSpec)

/-- ITS FALSE NEIGHBOUR: 'it returns false'. Refute it at one input. -/
def beatBalancesWrong : ChangeSpec := { name := "beatBalances", fn := fun _ => fun
  | [d1, d2] => { results := [.lit (.bool false)], args := [d1, d2] }
  | _ => none }
def BeatBalancesWrongFalsely : Prop := beatBalancesRow.holds Try.pinned (OpenSpec.ofChange beatBalancesWrong)

/-- 'turretlaw03.BeatCone': WHATEVER THE INPUT: true; the input reads as it did. -/
def beatConeSpec : ChangeSpec := { name := "beatCone", fn := fun _ => fun
  | [d1, d2, d3] => { results := [.lit (.bool true)], args := [d1, d2, d3] }
  | _ => none }
def beatConeRow : OpenClaim := { program := "ytmbdiifcfcpibaa", sum := "275ad3c8b149387035424ed49156a3a1523aeaee7f9ced8a1a5dde47b819d570", func := "turret/turretlaw03.BeatCone", spec := "beatCone", unfollowed := true, recurses := true, apart := false }
def BeatConeSaid : Prop := beatConeRow.holds Try.pinned (OpenSpec.ofChange beatConeSpec)

/-- ITS FALSE NEIGHBOUR: 'it returns false'. Refute it at one input. -/
def beatConeWrong : ChangeSpec := { name := "beatCone", fn := fun _ => fun
  | [d1, d2, d3] => { results := [.lit (.bool false)], args := [d1, d2, d3] }
  | _ => none }
def BeatConeWrongFalsely : Prop := beatConeRow.holds Try.pinned (OpenSpec.ofChange beatConeWrong)

/-- 'turretlaw03.BeatNarrows': WHATEVER THE INPUT: true; the input reads as it did. -/
def beatNarrowsSpec : ChangeSpec := { name := "beatNarrows", fn := fun _ => fun
  | [d1, d2, d3] => { results := [.lit (.bool true)], args := [d1, d2, d3] }
  | _ => none }
def beatNarrowsRow : OpenClaim := { program := "ytmbdiifcfcpibaa", sum := "275ad3c8b149387035424ed49156a3a1523aeaee7f9ced8a1a5dde47b819d570", func := "turret/turretlaw03.BeatNarrows", spec := "beatNarrows", unfollowed := true, recurses := true, apart := false }
def BeatNarrowsSaid : Prop := beatNarrowsRow.holds Try.pinned (OpenSpec.ofChange beatNarrowsSpec)

/-- ITS FALSE NEIGHBOUR: 'it returns false'. Refute it at one input. -/
def beatNarrowsWrong : ChangeSpec := { name := "beatNarrows", fn := fun _ => fun
  | [d1, d2, d3] => { results := [.lit (.bool false)], args := [d1, d2, d3] }
  | _ => none }
def BeatNarrowsWrongFalsely : Prop := beatNarrowsRow.holds Try.pinned (OpenSpec.ofChange beatNarrowsWrong)

/-- 'turretlaw03.BeatMoves': WHATEVER THE INPUT: true; the input reads as it did. -/
def beatMovesSpec : ChangeSpec := { name := "beatMoves", fn := fun _ => fun
  | [d] => { results := [.lit (.bool true)], args := [d] }
  | _ => none }
def beatMovesRow : OpenClaim := { program := "ytmbdiifcfcpibaa", sum := "275ad3c8b149387035424ed49156a3a1523aeaee7f9ced8a1a5dde47b819d570", func := "turret/turretlaw03.BeatMoves", spec := "beatMoves", unfollowed := true, recurses := true, apart := false }
def BeatMovesSaid : Prop := beatMovesRow.holds Try.pinned (OpenSpec.ofChange beatMovesSpec)

/-- ITS FALSE NEIGHBOUR: 'it returns false'. Refute it at one input. -/
def beatMovesWrong : ChangeSpec := { name := "beatMoves", fn := fun _ => fun
  | [d] => { results := [.lit (.bool false)], args := [d] }
  | _ => none }
def BeatMovesWrongFalsely : Prop := beatMovesRow.holds Try.pinned (OpenSpec.ofChange beatMovesWrong)

/-- 'turretlaw03.BeatApart': WHATEVER THE INPUT: true; the input reads as it did. -/
def beatApartSpec : ChangeSpec := { name := "beatApart", fn := fun _ => fun
  | [d1, d2, d3] => { results := [.lit (.bool true)], args := [d1, d2, d3] }
  | _ => none }
def beatApartRow : OpenClaim := { program := "ytmbdiifcfcpibaa", sum := "275ad3c8b149387035424ed49156a3a1523aeaee7f9ced8a1a5dde47b819d570", func := "turret/turretlaw03.BeatApart", spec := "beatApart", unfollowed := true, recurses := true, apart := false }
def BeatApartSaid : Prop := beatApartRow.holds Try.pinned (OpenSpec.ofChange beatApartSpec)

/-- ITS FALSE NEIGHBOUR: 'it returns false'. Refute it at one input. -/
def beatApartWrong : ChangeSpec := { name := "beatApart", fn := fun _ => fun
  | [d1, d2, d3] => { results := [.lit (.bool false)], args := [d1, d2, d3] }
  | _ => none }
def BeatApartWrongFalsely : Prop := beatApartRow.holds Try.pinned (OpenSpec.ofChange beatApartWrong)

/-- 'turretlaw03.BeatSteady': WHATEVER THE INPUT: true; the input reads as it did. -/
def beatSteadySpec : ChangeSpec := { name := "beatSteady", fn := fun _ => fun
  | [d1, d2, d3] => { results := [.lit (.bool true)], args := [d1, d2, d3] }
  | _ => none }
def beatSteadyRow : OpenClaim := { program := "ytmbdiifcfcpibaa", sum := "275ad3c8b149387035424ed49156a3a1523aeaee7f9ced8a1a5dde47b819d570", func := "turret/turretlaw03.BeatSteady", spec := "beatSteady", unfollowed := true, recurses := true, apart := false }
def BeatSteadySaid : Prop := beatSteadyRow.holds Try.pinned (OpenSpec.ofChange beatSteadySpec)

/-- ITS FALSE NEIGHBOUR: 'it returns false'. Refute it at one input. -/
def beatSteadyWrong : ChangeSpec := { name := "beatSteady", fn := fun _ => fun
  | [d1, d2, d3] => { results := [.lit (.bool false)], args := [d1, d2, d3] }
  | _ => none }
def BeatSteadyWrongFalsely : Prop := beatSteadyRow.holds Try.pinned (OpenSpec.ofChange beatSteadyWrong)

/- THE SECOND FORM. 'bulk': how many values and letters a reading holds, each counted each time it is reached (what is shared counts as often as it is met; a slice's spare places count too). A statement '..UptoSaid' is the law's where the arguments, and the package variables that the reading takes, are together of bulk at most 1048576: NARROWER than '..Said'. Prove '..Said' where nothing that the law and all that it calls make is longer than what came in: it says more and counts as full. Else prove '..UptoSaid'. A law counts once. -/
mutual
def uptoBulk {H : Type} : DataW H → Nat
  | .lit (.string bytes) => bytes.length + 1
  | .lit _ => 1
  | .nil => 1
  | .ptr d => uptoBulk d + 1
  | .slice elems spare => uptoBulkAll elems + uptoBulkAll spare + 1
  | .agg parts => uptoBulkAll parts + 1
  | .iface _ d => uptoBulk d + 1
  | .map entries => uptoBulkEntries entries + 1
  | .held _ => 1
def uptoBulkAll {H : Type} : List (DataW H) → Nat
  | [] => 0
  | d :: r => uptoBulk d + uptoBulkAll r
def uptoBulkEntries {H : Type} : List (Lit × DataW H) → Nat
  | [] => 0
  | x :: r => uptoBulkEntry x + uptoBulkEntries r
def uptoBulkEntry {H : Type} : Lit × DataW H → Nat
  | (.string bytes, d) => bytes.length + uptoBulk d + 1
  | (_, d) => uptoBulk d + 1
 end
def uptoSmall : (H : Type) → List (DataW H) → Bool := fun _ ds => decide (uptoBulkAll ds ≤ 1048576)
def OpenSpec.upto (s : _root_.Go.ChangeSpec) : _root_.Go.OpenSpec := { _root_.Go.OpenSpec.ofChange s with cond := some uptoSmall }

/-- 'turretlaw03.BeatExacts', WHERE WHAT IT READS IS OF BULK AT MOST 1048576: true; the input reads as it did. -/
def beatExactsUptoRow : OpenClaim := { program := "ytmbdiifcfcpibaa", sum := "275ad3c8b149387035424ed49156a3a1523aeaee7f9ced8a1a5dde47b819d570", func := "turret/turretlaw03.BeatExacts", spec := "beatExacts", unfollowed := true, recurses := true, apart := false, narrowed := true }
def BeatExactsUptoSaid : Prop := beatExactsUptoRow.holds Try.pinned (OpenSpec.upto beatExactsSpec)

/-- 'turretlaw03.BeatRates', WHERE WHAT IT READS IS OF BULK AT MOST 1048576: true; the input reads as it did. -/
def beatRatesUptoRow : OpenClaim := { program := "ytmbdiifcfcpibaa", sum := "275ad3c8b149387035424ed49156a3a1523aeaee7f9ced8a1a5dde47b819d570", func := "turret/turretlaw03.BeatRates", spec := "beatRates", unfollowed := true, recurses := true, apart := false, narrowed := true }
def BeatRatesUptoSaid : Prop := beatRatesUptoRow.holds Try.pinned (OpenSpec.upto beatRatesSpec)

/-- 'turretlaw03.BeatChanges', WHERE WHAT IT READS IS OF BULK AT MOST 1048576: true; the input reads as it did. -/
def beatChangesUptoRow : OpenClaim := { program := "ytmbdiifcfcpibaa", sum := "275ad3c8b149387035424ed49156a3a1523aeaee7f9ced8a1a5dde47b819d570", func := "turret/turretlaw03.BeatChanges", spec := "beatChanges", unfollowed := true, recurses := true, apart := false, narrowed := true }
def BeatChangesUptoSaid : Prop := beatChangesUptoRow.holds Try.pinned (OpenSpec.upto beatChangesSpec)

/-- 'turretlaw03.BeatBalances', WHERE WHAT IT READS IS OF BULK AT MOST 1048576: true; the input reads as it did. -/
def beatBalancesUptoRow : OpenClaim := { program := "ytmbdiifcfcpibaa", sum := "275ad3c8b149387035424ed49156a3a1523aeaee7f9ced8a1a5dde47b819d570", func := "turret/turretlaw03.BeatBalances", spec := "beatBalances", unfollowed := true, recurses := true, apart := false, narrowed := true }
def BeatBalancesUptoSaid : Prop := beatBalancesUptoRow.holds Try.pinned (OpenSpec.upto beatBalancesSpec)

/-- 'turretlaw03.BeatCone', WHERE WHAT IT READS IS OF BULK AT MOST 1048576: true; the input reads as it did. -/
def beatConeUptoRow : OpenClaim := { program := "ytmbdiifcfcpibaa", sum := "275ad3c8b149387035424ed49156a3a1523aeaee7f9ced8a1a5dde47b819d570", func := "turret/turretlaw03.BeatCone", spec := "beatCone", unfollowed := true, recurses := true, apart := false, narrowed := true }
def BeatConeUptoSaid : Prop := beatConeUptoRow.holds Try.pinned (OpenSpec.upto beatConeSpec)

/-- 'turretlaw03.BeatNarrows', WHERE WHAT IT READS IS OF BULK AT MOST 1048576: true; the input reads as it did. -/
def beatNarrowsUptoRow : OpenClaim := { program := "ytmbdiifcfcpibaa", sum := "275ad3c8b149387035424ed49156a3a1523aeaee7f9ced8a1a5dde47b819d570", func := "turret/turretlaw03.BeatNarrows", spec := "beatNarrows", unfollowed := true, recurses := true, apart := false, narrowed := true }
def BeatNarrowsUptoSaid : Prop := beatNarrowsUptoRow.holds Try.pinned (OpenSpec.upto beatNarrowsSpec)

/-- 'turretlaw03.BeatMoves', WHERE WHAT IT READS IS OF BULK AT MOST 1048576: true; the input reads as it did. -/
def beatMovesUptoRow : OpenClaim := { program := "ytmbdiifcfcpibaa", sum := "275ad3c8b149387035424ed49156a3a1523aeaee7f9ced8a1a5dde47b819d570", func := "turret/turretlaw03.BeatMoves", spec := "beatMoves", unfollowed := true, recurses := true, apart := false, narrowed := true }
def BeatMovesUptoSaid : Prop := beatMovesUptoRow.holds Try.pinned (OpenSpec.upto beatMovesSpec)

/-- 'turretlaw03.BeatApart', WHERE WHAT IT READS IS OF BULK AT MOST 1048576: true; the input reads as it did. -/
def beatApartUptoRow : OpenClaim := { program := "ytmbdiifcfcpibaa", sum := "275ad3c8b149387035424ed49156a3a1523aeaee7f9ced8a1a5dde47b819d570", func := "turret/turretlaw03.BeatApart", spec := "beatApart", unfollowed := true, recurses := true, apart := false, narrowed := true }
def BeatApartUptoSaid : Prop := beatApartUptoRow.holds Try.pinned (OpenSpec.upto beatApartSpec)

/-- 'turretlaw03.BeatSteady', WHERE WHAT IT READS IS OF BULK AT MOST 1048576: true; the input reads as it did. -/
def beatSteadyUptoRow : OpenClaim := { program := "ytmbdiifcfcpibaa", sum := "275ad3c8b149387035424ed49156a3a1523aeaee7f9ced8a1a5dde47b819d570", func := "turret/turretlaw03.BeatSteady", spec := "beatSteady", unfollowed := true, recurses := true, apart := false, narrowed := true }
def BeatSteadyUptoSaid : Prop := beatSteadyUptoRow.holds Try.pinned (OpenSpec.upto beatSteadySpec)

end Rows
end Go.Proofs.Ytmbdiifcfcpibaa
