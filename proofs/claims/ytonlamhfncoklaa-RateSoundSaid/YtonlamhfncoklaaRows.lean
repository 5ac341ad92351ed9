/-
  No cell of these rows narrows 'for every input' (looked for: loops, veiled, ifaces, maps, wideKeys, modest, calm, conditions, laid).
  DERIVED. THE GIVEN ROWS OF THIS SEAT. 8 by the template 'for every input the law returns true; each argument reads behind the call as it read before'; 0 by the template 'total and deterministic' (their statements: YtonlamhfncoklaaTotals.lean).
  GIVEN WITH THE SEED: the statements are not yours to turn. If you find one false, say at which input.
  Laid BY PROGRAM, IN A SANDBOX (cutbox-rows.mjs): the forced cells as the released guide's own fill.sh prints them over the translation 26dd8a5541fb14a5… (all of the seat's roots in one cut). By AI agents, Wed Nov 11 2026. No macro, syntax, notation, axiom, sorry.
-/
import Derived.Test.YtonlamhfncoklaaChecked
import GoSem.Claim
import GoSem.ClaimJoined
import GoSem.ClaimMapViews
import Derived.JoinedTies
import Derived.KernelRfl
namespace Go.Proofs.Ytonlamhfncoklaa
/- THE CELL 'sum', in the pinned program and in every row, IS THE sha256 OF THE DUMP (.gsa) THAT YtonlamhfncoklaaProg.lean LOADS. Nothing in Lean hashes anything: it is a label: what it is worth is what the hold of that sum in a sandbox is worth. -/
noncomputable def Try.pinned : Pinned := { name := "ytonlamhfncoklaa", sum := "26dd8a5541fb14a50f9c984be979696ba9ee95c8b6892005ef20b91a4f45289a", checked := Try.checked }
namespace Rows
def none {H : Type} : Left H := { results := [], args := [] }

/-- 'turretlaw07.RateAfters': WHATEVER THE INPUT: true; the input reads as it did. -/
def rateAftersSpec : ChangeSpec := { name := "rateAfters", fn := fun _ => fun
  | [d1, d2, d3] => { results := [.lit (.bool true)], args := [d1, d2, d3] }
  | _ => none }
def rateAftersRow : OpenClaim := { program := "ytonlamhfncoklaa", sum := "26dd8a5541fb14a50f9c984be979696ba9ee95c8b6892005ef20b91a4f45289a", func := "turret/turretlaw07.RateAfters", spec := "rateAfters", unfollowed := true, recurses := true, plainKeys := false, apart := false }
def RateAftersSaid : Prop := rateAftersRow.holds Try.pinned (OpenSpec.ofChange rateAftersSpec)

/-- ITS FALSE NEIGHBOUR: 'it returns false'. Refute it at one input. -/
def rateAftersWrong : ChangeSpec := { name := "rateAfters", fn := fun _ => fun
  | [d1, d2, d3] => { results := [.lit (.bool false)], args := [d1, d2, d3] }
  | _ => none }
def RateAftersWrongFalsely : Prop := rateAftersRow.holds Try.pinned (OpenSpec.ofChange rateAftersWrong)

/-- 'turretlaw07.RateFewest': WHATEVER THE INPUT: true; the input reads as it did. -/
def rateFewestSpec : ChangeSpec := { name := "rateFewest", fn := fun _ => fun
  | [d1, d2] => { results := [.lit (.bool true)], args := [d1, d2] }
  | _ => none }
def rateFewestRow : OpenClaim := { program := "ytonlamhfncoklaa", sum := "26dd8a5541fb14a50f9c984be979696ba9ee95c8b6892005ef20b91a4f45289a", func := "turret/turretlaw07.RateFewest", spec := "rateFewest", unfollowed := true, recurses := true, plainKeys := false, apart := false }
def RateFewestSaid : Prop := rateFewestRow.holds Try.pinned (OpenSpec.ofChange rateFewestSpec)

/-- ITS FALSE NEIGHBOUR: 'it returns false'. Refute it at one input. -/
def rateFewestWrong : ChangeSpec := { name := "rateFewest", fn := fun _ => fun
  | [d1, d2] => { results := [.lit (.bool false)], args := [d1, d2] }
  | _ => none }
def RateFewestWrongFalsely : Prop := rateFewestRow.holds Try.pinned (OpenSpec.ofChange rateFewestWrong)

/-- 'turretlaw07.RateProofs': WHATEVER THE INPUT: true; the input reads as it did. -/
def rateProofsSpec : ChangeSpec := { name := "rateProofs", fn := fun _ => fun
  | [d1, d2] => { results := [.lit (.bool true)], args := [d1, d2] }
  | _ => none }
def rateProofsRow : OpenClaim := { program := "ytonlamhfncoklaa", sum := "26dd8a5541fb14a50f9c984be979696ba9ee95c8b6892005ef20b91a4f45289a", func := "turret/turretlaw07.RateProofs", spec := "rateProofs", unfollowed := true, recurses := true, plainKeys := false, apart := false }
def RateProofsSaid : Prop := rateProofsRow.holds Try.pinned (OpenSpec.ofChange rateProofsSpec)

/-- ITS FALSE NEIGHBOUR: 'it returns false'. Refute it at one input. -/
def rateProofsWrong : ChangeSpec := { name := "rateProofs", fn := fun _ => fun
  | [d1, d2] => { results := [.lit (.bool false)], args := [d1, d2] }
  | _ => none }
def RateProofsWrongFalsely : Prop := rateProofsRow.holds Try.pinned (OpenSpec.ofChange rateProofsWrong)

/-- 'turretlaw07.RateEnough': WHATEVER THE INPUT: true; the input reads as it did. -/
def rateEnoughSpec : ChangeSpec := { name := "rateEnough", fn := fun _ => fun
  | [d1, d2, d3] => { results := [.lit (.bool true)], args := [d1, d2, d3] }
  | _ => none }
def rateEnoughRow : OpenClaim := { program := "ytonlamhfncoklaa", sum := "26dd8a5541fb14a50f9c984be979696ba9ee95c8b6892005ef20b91a4f45289a", func := "turret/turretlaw07.RateEnough", spec := "rateEnough", unfollowed := true, recurses := true, plainKeys := false, apart := false }
def RateEnoughSaid : Prop := rateEnoughRow.holds Try.pinned (OpenSpec.ofChange rateEnoughSpec)

/-- ITS FALSE NEIGHBOUR: 'it returns false'. Refute it at one input. -/
def rateEnoughWrong : ChangeSpec := { name := "rateEnough", fn := fun _ => fun
  | [d1, d2, d3] => { results := [.lit (.bool false)], args := [d1, d2, d3] }
  | _ => none }
def RateEnoughWrongFalsely : Prop := rateEnoughRow.holds Try.pinned (OpenSpec.ofChange rateEnoughWrong)

/-- 'turretlaw07.RateNoFewer': WHATEVER THE INPUT: true; the input reads as it did. -/
def rateNoFewerSpec : ChangeSpec := { name := "rateNoFewer", fn := fun _ => fun
  | [d1, d2, d3] => { results := [.lit (.bool true)], args := [d1, d2, d3] }
  | _ => none }
def rateNoFewerRow : OpenClaim := { program := "ytonlamhfncoklaa", sum := "26dd8a5541fb14a50f9c984be979696ba9ee95c8b6892005ef20b91a4f45289a", func := "turret/turretlaw07.RateNoFewer", spec := "rateNoFewer", unfollowed := true, recurses := true, plainKeys := false, apart := false }
def RateNoFewerSaid : Prop := rateNoFewerRow.holds Try.pinned (OpenSpec.ofChange rateNoFewerSpec)

/-- ITS FALSE NEIGHBOUR: 'it returns false'. Refute it at one input. -/
def rateNoFewerWrong : ChangeSpec := { name := "rateNoFewer", fn := fun _ => fun
  | [d1, d2, d3] => { results := [.lit (.bool false)], args := [d1, d2, d3] }
  | _ => none }
def RateNoFewerWrongFalsely : Prop := rateNoFewerRow.holds Try.pinned (OpenSpec.ofChange rateNoFewerWrong)

/-- 'turretlaw07.RateNarrows': WHATEVER THE INPUT: true; the input reads as it did. -/
def rateNarrowsSpec : ChangeSpec := { name := "rateNarrows", fn := fun _ => fun
  | [d1, d2, d3] => { results := [.lit (.bool true)], args := [d1, d2, d3] }
  | _ => none }
def rateNarrowsRow : OpenClaim := { program := "ytonlamhfncoklaa", sum := "26dd8a5541fb14a50f9c984be979696ba9ee95c8b6892005ef20b91a4f45289a", func := "turret/turretlaw07.RateNarrows", spec := "rateNarrows", unfollowed := true, recurses := true, plainKeys := false, apart := false }
def RateNarrowsSaid : Prop := rateNarrowsRow.holds Try.pinned (OpenSpec.ofChange rateNarrowsSpec)

/-- ITS FALSE NEIGHBOUR: 'it returns false'. Refute it at one input. -/
def rateNarrowsWrong : ChangeSpec := { name := "rateNarrows", fn := fun _ => fun
  | [d1, d2, d3] => { results := [.lit (.bool false)], args := [d1, d2, d3] }
  | _ => none }
def RateNarrowsWrongFalsely : Prop := rateNarrowsRow.holds Try.pinned (OpenSpec.ofChange rateNarrowsWrong)

/-- 'turretlaw07.RateProves': WHATEVER THE INPUT: true; the input reads as it did. -/
def rateProvesSpec : ChangeSpec := { name := "rateProves", fn := fun _ => fun
  | [d1, d2] => { results := [.lit (.bool true)], args := [d1, d2] }
  | _ => none }
def rateProvesRow : OpenClaim := { program := "ytonlamhfncoklaa", sum := "26dd8a5541fb14a50f9c984be979696ba9ee95c8b6892005ef20b91a4f45289a", func := "turret/turretlaw07.RateProves", spec := "rateProves", unfollowed := true, recurses := true, plainKeys := false, apart := false }
def RateProvesSaid : Prop := rateProvesRow.holds Try.pinned (OpenSpec.ofChange rateProvesSpec)

/-- ITS FALSE NEIGHBOUR: 'it returns false'. Refute it at one input. -/
def rateProvesWrong : ChangeSpec := { name := "rateProves", fn := fun _ => fun
  | [d1, d2] => { results := [.lit (.bool false)], args := [d1, d2] }
  | _ => none }
def RateProvesWrongFalsely : Prop := rateProvesRow.holds Try.pinned (OpenSpec.ofChange rateProvesWrong)

/-- 'turretlaw07.RateSound': WHATEVER THE INPUT: true; the input reads as it did. -/
def rateSoundSpec : ChangeSpec := { name := "rateSound", fn := fun _ => fun
  | [d1, d2, d3] => { results := [.lit (.bool true)], args := [d1, d2, d3] }
  | _ => none }
def rateSoundRow : OpenClaim := { program := "ytonlamhfncoklaa", sum := "26dd8a5541fb14a50f9c984be979696ba9ee95c8b6892005ef20b91a4f45289a", func := "turret/turretlaw07.RateSound", spec := "rateSound", unfollowed := true, recurses := true, plainKeys := false, apart := false }
def RateSoundSaid : Prop := rateSoundRow.holds Try.pinned (OpenSpec.ofChange rateSoundSpec)

/-- ITS FALSE NEIGHBOUR: 'it returns false'. Refute it at one input. -/
def rateSoundWrong : ChangeSpec := { name := "rateSound", fn := fun _ => fun
  | [d1, d2, d3] => { results := [.lit (.bool false)], args := [d1, d2, d3] }
  | _ => none }
def RateSoundWrongFalsely : Prop := rateSoundRow.holds Try.pinned (OpenSpec.ofChange rateSoundWrong)

/- THE SECOND FORM. 'bulk': how many values and letters a reading holds, each counted each time it is reached (what is shared counts as often as it is met; a slice's spare places count too). A statement '..UptoSaid' is the law's where the arguments, and the package variables that the reading takes, are together of bulk at most 1048576: NARROWER than '..Said'. Prove '..Said' where nothing that the law and all that it calls make is longer than what came in: it says more and counts as full. Else prove '..UptoSaid'. A law counts once. -/
mutual
def uptoBulk {H : Type} : DataW H → Nat
  | .lit (.string bytes) => bytes.length + 1
  | .lit _ => 1
  | .nil => 1
  | .ptr d => uptoBulk d + 1
  | .slice elems spare => uptoBulkAll elems + uptoBulkAll spare + 1
  | .agg parts => uptoBulkAll parts + 1
  | .iface _ d => uptoBulk d + 1
  | .map entries => uptoBulkEntries entries + 1
  | .held _ => 1
def uptoBulkAll {H : Type} : List (DataW H) → Nat
  | [] => 0
  | d :: r => uptoBulk d + uptoBulkAll r
def uptoBulkEntries {H : Type} : List (Lit × DataW H) → Nat
  | [] => 0
  | x :: r => uptoBulkEntry x + uptoBulkEntries r
def uptoBulkEntry {H : Type} : Lit × DataW H → Nat
  | (.string bytes, d) => bytes.length + uptoBulk d + 1
  | (_, d) => uptoBulk d + 1
 end
def uptoSmall : (H : Type) → List (DataW H) → Bool := fun _ ds => decide (uptoBulkAll ds ≤ 1048576)
def OpenSpec.upto (s : _root_.Go.ChangeSpec) : _root_.Go.OpenSpec := { _root_.Go.OpenSpec.ofChange s with cond := some uptoSmall }

/-- 'turretlaw07.RateAfters', WHERE WHAT IT READS IS OF BULK AT MOST 1048576: true; the input reads as it did. -/
def rateAftersUptoRow : OpenClaim := { program := "ytonlamhfncoklaa", sum := "26dd8a5541fb14a50f9c984be979696ba9ee95c8b6892005ef20b91a4f45289a", func := "turret/turretlaw07.RateAfters", spec := "rateAfters", unfollowed := true, recurses := true, plainKeys := false, apart := false, narrowed := true }
def RateAftersUptoSaid : Prop := rateAftersUptoRow.holds Try.pinned (OpenSpec.upto rateAftersSpec)

/-- 'turretlaw07.RateFewest', WHERE WHAT IT READS IS OF BULK AT MOST 1048576: true; the input reads as it did. -/
def rateFewestUptoRow : OpenClaim := { program := "ytonlamhfncoklaa", sum := "26dd8a5541fb14a50f9c984be979696ba9ee95c8b6892005ef20b91a4f45289a", func := "turret/turretlaw07.RateFewest", spec := "rateFewest", unfollowed := true, recurses := true, plainKeys := false, apart := false, narrowed := true }
def RateFewestUptoSaid : Prop := rateFewestUptoRow.holds Try.pinned (OpenSpec.upto rateFewestSpec)

/-- 'turretlaw07.RateProofs', WHERE WHAT IT READS IS OF BULK AT MOST 1048576: true; the input reads as it did. -/
def rateProofsUptoRow : OpenClaim := { program := "ytonlamhfncoklaa", sum := "26dd8a5541fb14a50f9c984be979696ba9ee95c8b6892005ef20b91a4f45289a", func := "turret/turretlaw07.RateProofs", spec := "rateProofs", unfollowed := true, recurses := true, plainKeys := false, apart := false, narrowed := true }
def RateProofsUptoSaid : Prop := rateProofsUptoRow.holds Try.pinned (OpenSpec.upto rateProofsSpec)

/-- 'turretlaw07.RateEnough', WHERE WHAT IT READS IS OF BULK AT MOST 1048576: true; the input reads as it did. -/
def rateEnoughUptoRow : OpenClaim := { program := "ytonlamhfncoklaa", sum := "26dd8a5541fb14a50f9c984be979696ba9ee95c8b6892005ef20b91a4f45289a", func := "turret/turretlaw07.RateEnough", spec := "rateEnough", unfollowed := true, recurses := true, plainKeys := false, apart := false, narrowed := true }
def RateEnoughUptoSaid : Prop := rateEnoughUptoRow.holds Try.pinned (OpenSpec.upto rateEnoughSpec)

/-- 'turretlaw07.RateNoFewer', WHERE WHAT IT READS IS OF BULK AT MOST 1048576: true; the input reads as it did. -/
def rateNoFewerUptoRow : OpenClaim := { program := "ytonlamhfncoklaa", sum := "26dd8a5541fb14a50f9c984be979696ba9ee95c8b6892005ef20b91a4f45289a", func := "turret/turretlaw07.RateNoFewer", spec := "rateNoFewer", unfollowed := true, recurses := true, plainKeys := false, apart := false, narrowed := true }
def RateNoFewerUptoSaid : Prop := rateNoFewerUptoRow.holds Try.pinned (OpenSpec.upto rateNoFewerSpec)

/-- 'turretlaw07.RateNarrows', WHERE WHAT IT READS IS OF BULK AT MOST 1048576: true; the input reads as it did. -/
def rateNarrowsUptoRow : OpenClaim := { program := "ytonlamhfncoklaa", sum := "26dd8a5541fb14a50f9c984be979696ba9ee95c8b6892005ef20b91a4f45289a", func := "turret/turretlaw07.RateNarrows", spec := "rateNarrows", unfollowed := true, recurses := true, plainKeys := false, apart := false, narrowed := true }
def RateNarrowsUptoSaid : Prop := rateNarrowsUptoRow.holds Try.pinned (OpenSpec.upto rateNarrowsSpec)

/-- 'turretlaw07.RateProves', WHERE WHAT IT READS IS OF BULK AT MOST 1048576: true; the input reads as it did. -/
def rateProvesUptoRow : OpenClaim := { program := "ytonlamhfncoklaa", sum := "26dd8a5541fb14a50f9c984be979696ba9ee95c8b6892005ef20b91a4f45289a", func := "turret/turretlaw07.RateProves", spec := "rateProves", unfollowed := true, recurses := true, plainKeys := false, apart := false, narrowed := true }
def RateProvesUptoSaid : Prop := rateProvesUptoRow.holds Try.pinned (OpenSpec.upto rateProvesSpec)

/-- 'turretlaw07.RateSound', WHERE WHAT IT READS IS OF BULK AT MOST 1048576: true; the input reads as it did. -/
def rateSoundUptoRow : OpenClaim := { program := "ytonlamhfncoklaa", sum := "26dd8a5541fb14a50f9c984be979696ba9ee95c8b6892005ef20b91a4f45289a", func := "turret/turretlaw07.RateSound", spec := "rateSound", unfollowed := true, recurses := true, plainKeys := false, apart := false, narrowed := true }
def RateSoundUptoSaid : Prop := rateSoundUptoRow.holds Try.pinned (OpenSpec.upto rateSoundSpec)

end Rows
end Go.Proofs.Ytonlamhfncoklaa
