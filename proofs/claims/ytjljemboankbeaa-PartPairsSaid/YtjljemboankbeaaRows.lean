/-
  No cell of these rows narrows 'for every input' (looked for: loops, veiled, ifaces, maps, wideKeys, modest, calm, conditions, laid).
  DERIVED. THE GIVEN ROWS OF THIS SEAT. 10 by the template 'for every input the law returns true; each argument reads behind the call as it read before'; 0 by the template 'total and deterministic' (their statements: YtjljemboankbeaaTotals.lean).
  GIVEN WITH THE SEED: the statements are not yours to turn. If you find one false, say at which input.
  Laid BY PROGRAM, IN A SANDBOX (cutbox-rows.mjs): the forced cells as the released guide's own fill.sh prints them over the translation f0599f501c7631a6… (all of the seat's roots in one cut). By AI agents, Wed Nov 11 2026. No macro, syntax, notation, axiom, sorry.
-/
import Derived.Test.YtjljemboankbeaaChecked
import GoSem.Claim
import GoSem.ClaimJoined
import GoSem.ClaimMapViews
import Derived.JoinedTies
import Derived.KernelRfl
namespace Go.Proofs.Ytjljemboankbeaa
/- THE CELL 'sum', in the pinned program and in every row, IS THE sha256 OF THE DUMP (.gsa) THAT YtjljemboankbeaaProg.lean LOADS. Nothing in Lean hashes anything: it is a label: what it is worth is what the hold of that sum in a sandbox is worth. -/
noncomputable def Try.pinned : Pinned := { name := "ytjljemboankbeaa", sum := "f0599f501c7631a60525d8b438f9e34a0a6f0adaec893ab35b7f0d88449f42f8", checked := Try.checked }
namespace Rows
def none {H : Type} : Left H := { results := [], args := [] }

/-- 'turretlaw12.PartLooses': WHATEVER THE INPUT: true; the input reads as it did. -/
def partLoosesSpec : ChangeSpec := { name := "partLooses", fn := fun _ => fun
  | [d] => { results := [.lit (.bool true)], args := [d] }
  | _ => none }
def partLoosesRow : OpenClaim := { program := "ytjljemboankbeaa", sum := "f0599f501c7631a60525d8b438f9e34a0a6f0adaec893ab35b7f0d88449f42f8", func := "turret/turretlaw12.PartLooses", spec := "partLooses", unfollowed := true, recurses := true, apart := false }
def PartLoosesSaid : Prop := partLoosesRow.holds Try.pinned (OpenSpec.ofChange partLoosesSpec)

/-- ITS FALSE NEIGHBOUR: 'it returns false'. Refute it at one input. -/
def partLoosesWrong : ChangeSpec := { name := "partLooses", fn := fun _ => fun
  | [d] => { results := [.lit (.bool false)], args := [d] }
  | _ => none }
def PartLoosesWrongFalsely : Prop := partLoosesRow.holds Try.pinned (OpenSpec.ofChange partLoosesWrong)

/-- 'turretlaw12.PartGauges': WHATEVER THE INPUT: true; the input reads as it did. -/
def partGaugesSpec : ChangeSpec := { name := "partGauges", fn := fun _ => fun
  | [d1, d2, d3] => { results := [.lit (.bool true)], args := [d1, d2, d3] }
  | _ => none }
def partGaugesRow : OpenClaim := { program := "ytjljemboankbeaa", sum := "f0599f501c7631a60525d8b438f9e34a0a6f0adaec893ab35b7f0d88449f42f8", func := "turret/turretlaw12.PartGauges", spec := "partGauges", unfollowed := true, recurses := true, apart := false }
def PartGaugesSaid : Prop := partGaugesRow.holds Try.pinned (OpenSpec.ofChange partGaugesSpec)

/-- ITS FALSE NEIGHBOUR: 'it returns false'. Refute it at one input. -/
def partGaugesWrong : ChangeSpec := { name := "partGauges", fn := fun _ => fun
  | [d1, d2, d3] => { results := [.lit (.bool false)], args := [d1, d2, d3] }
  | _ => none }
def PartGaugesWrongFalsely : Prop := partGaugesRow.holds Try.pinned (OpenSpec.ofChange partGaugesWrong)

/-- 'turretlaw12.PartPairs': WHATEVER THE INPUT: true; the input reads as it did. -/
def partPairsSpec : ChangeSpec := { name := "partPairs", fn := fun _ => fun
  | [d1, d2] => { results := [.lit (.bool true)], args := [d1, d2] }
  | _ => none }
def partPairsRow : OpenClaim := { program := "ytjljemboankbeaa", sum := "f0599f501c7631a60525d8b438f9e34a0a6f0adaec893ab35b7f0d88449f42f8", func := "turret/turretlaw12.PartPairs", spec := "partPairs", unfollowed := true, recurses := true, apart := false }
def PartPairsSaid : Prop := partPairsRow.holds Try.pinned (OpenSpec.ofChange partPairsSpec)

/-- ITS FALSE NEIGHBOUR: 'it returns false'. Refute it at one input. -/
def partPairsWrong : ChangeSpec := { name := "partPairs", fn := fun _ => fun
  | [d1, d2] => { results := [.lit (.bool false)], args := [d1, d2] }
  | _ => none }
def PartPairsWrongFalsely : Prop := partPairsRow.holds Try.pinned (OpenSpec.ofChange partPairsWrong)

/-- 'turretlaw12.PartChooses': WHATEVER THE INPUT: true; the input reads as it did. -/
def partChoosesSpec : ChangeSpec := { name := "partChooses", fn := fun _ => fun
  | [d1, d2, d3] => { results := [.lit (.bool true)], args := [d1, d2, d3] }
  | _ => none }
def partChoosesRow : OpenClaim := { program := "ytjljemboankbeaa", sum := "f0599f501c7631a60525d8b438f9e34a0a6f0adaec893ab35b7f0d88449f42f8", func := "turret/turretlaw12.PartChooses", spec := "partChooses", unfollowed := true, recurses := true, apart := false }
def PartChoosesSaid : Prop := partChoosesRow.holds Try.pinned (OpenSpec.ofChange partChoosesSpec)

/-- ITS FALSE NEIGHBOUR: 'it returns false'. Refute it at one input. -/
def partChoosesWrong : ChangeSpec := { name := "partChooses", fn := fun _ => fun
  | [d1, d2, d3] => { results := [.lit (.bool false)], args := [d1, d2, d3] }
  | _ => none }
def PartChoosesWrongFalsely : Prop := partChoosesRow.holds Try.pinned (OpenSpec.ofChange partChoosesWrong)

/-- 'turretlaw12.PartSpares': WHATEVER THE INPUT: true; the input reads as it did. -/
def partSparesSpec : ChangeSpec := { name := "partSpares", fn := fun _ => fun
  | [d1, d2, d3] => { results := [.lit (.bool true)], args := [d1, d2, d3] }
  | _ => none }
def partSparesRow : OpenClaim := { program := "ytjljemboankbeaa", sum := "f0599f501c7631a60525d8b438f9e34a0a6f0adaec893ab35b7f0d88449f42f8", func := "turret/turretlaw12.PartSpares", spec := "partSpares", unfollowed := true, recurses := true, apart := false }
def PartSparesSaid : Prop := partSparesRow.holds Try.pinned (OpenSpec.ofChange partSparesSpec)

/-- ITS FALSE NEIGHBOUR: 'it returns false'. Refute it at one input. -/
def partSparesWrong : ChangeSpec := { name := "partSpares", fn := fun _ => fun
  | [d1, d2, d3] => { results := [.lit (.bool false)], args := [d1, d2, d3] }
  | _ => none }
def PartSparesWrongFalsely : Prop := partSparesRow.holds Try.pinned (OpenSpec.ofChange partSparesWrong)

/-- 'turretlaw12.PartAll': WHATEVER THE INPUT: true; the input reads as it did. -/
def partAllSpec : ChangeSpec := { name := "partAll", fn := fun _ => fun
  | [d1, d2] => { results := [.lit (.bool true)], args := [d1, d2] }
  | _ => none }
def partAllRow : OpenClaim := { program := "ytjljemboankbeaa", sum := "f0599f501c7631a60525d8b438f9e34a0a6f0adaec893ab35b7f0d88449f42f8", func := "turret/turretlaw12.PartAll", spec := "partAll", unfollowed := true, recurses := true, apart := false }
def PartAllSaid : Prop := partAllRow.holds Try.pinned (OpenSpec.ofChange partAllSpec)

/-- ITS FALSE NEIGHBOUR: 'it returns false'. Refute it at one input. -/
def partAllWrong : ChangeSpec := { name := "partAll", fn := fun _ => fun
  | [d1, d2] => { results := [.lit (.bool false)], args := [d1, d2] }
  | _ => none }
def PartAllWrongFalsely : Prop := partAllRow.holds Try.pinned (OpenSpec.ofChange partAllWrong)

/-- 'turretlaw12.PartSure': WHATEVER THE INPUT: true; the input reads as it did. -/
def partSureSpec : ChangeSpec := { name := "partSure", fn := fun _ => fun
  | [d1, d2, d3] => { results := [.lit (.bool true)], args := [d1, d2, d3] }
  | _ => none }
def partSureRow : OpenClaim := { program := "ytjljemboankbeaa", sum := "f0599f501c7631a60525d8b438f9e34a0a6f0adaec893ab35b7f0d88449f42f8", func := "turret/turretlaw12.PartSure", spec := "partSure", unfollowed := true, recurses := true, apart := false }
def PartSureSaid : Prop := partSureRow.holds Try.pinned (OpenSpec.ofChange partSureSpec)

/-- ITS FALSE NEIGHBOUR: 'it returns false'. Refute it at one input. -/
def partSureWrong : ChangeSpec := { name := "partSure", fn := fun _ => fun
  | [d1, d2, d3] => { results := [.lit (.bool false)], args := [d1, d2, d3] }
  | _ => none }
def PartSureWrongFalsely : Prop := partSureRow.holds Try.pinned (OpenSpec.ofChange partSureWrong)

/-- 'turretlaw12.PartNoMore': WHATEVER THE INPUT: true; the input reads as it did. -/
def partNoMoreSpec : ChangeSpec := { name := "partNoMore", fn := fun _ => fun
  | [d1, d2, d3] => { results := [.lit (.bool true)], args := [d1, d2, d3] }
  | _ => none }
def partNoMoreRow : OpenClaim := { program := "ytjljemboankbeaa", sum := "f0599f501c7631a60525d8b438f9e34a0a6f0adaec893ab35b7f0d88449f42f8", func := "turret/turretlaw12.PartNoMore", spec := "partNoMore", unfollowed := true, recurses := true, apart := false }
def PartNoMoreSaid : Prop := partNoMoreRow.holds Try.pinned (OpenSpec.ofChange partNoMoreSpec)

/-- ITS FALSE NEIGHBOUR: 'it returns false'. Refute it at one input. -/
def partNoMoreWrong : ChangeSpec := { name := "partNoMore", fn := fun _ => fun
  | [d1, d2, d3] => { results := [.lit (.bool false)], args := [d1, d2, d3] }
  | _ => none }
def PartNoMoreWrongFalsely : Prop := partNoMoreRow.holds Try.pinned (OpenSpec.ofChange partNoMoreWrong)

/-- 'turretlaw12.PartEnough': WHATEVER THE INPUT: true; the input reads as it did. -/
def partEnoughSpec : ChangeSpec := { name := "partEnough", fn := fun _ => fun
  | [d] => { results := [.lit (.bool true)], args := [d] }
  | _ => none }
def partEnoughRow : OpenClaim := { program := "ytjljemboankbeaa", sum := "f0599f501c7631a60525d8b438f9e34a0a6f0adaec893ab35b7f0d88449f42f8", func := "turret/turretlaw12.PartEnough", spec := "partEnough", unfollowed := true, recurses := true, apart := false }
def PartEnoughSaid : Prop := partEnoughRow.holds Try.pinned (OpenSpec.ofChange partEnoughSpec)

/-- ITS FALSE NEIGHBOUR: 'it returns false'. Refute it at one input. -/
def partEnoughWrong : ChangeSpec := { name := "partEnough", fn := fun _ => fun
  | [d] => { results := [.lit (.bool false)], args := [d] }
  | _ => none }
def PartEnoughWrongFalsely : Prop := partEnoughRow.holds Try.pinned (OpenSpec.ofChange partEnoughWrong)

/-- 'turretlaw12.PartWider': WHATEVER THE INPUT: true; the input reads as it did. -/
def partWiderSpec : ChangeSpec := { name := "partWider", fn := fun _ => fun
  | [d1, d2, d3] => { results := [.lit (.bool true)], args := [d1, d2, d3] }
  | _ => none }
def partWiderRow : OpenClaim := { program := "ytjljemboankbeaa", sum := "f0599f501c7631a60525d8b438f9e34a0a6f0adaec893ab35b7f0d88449f42f8", func := "turret/turretlaw12.PartWider", spec := "partWider", unfollowed := true, recurses := true, apart := false }
def PartWiderSaid : Prop := partWiderRow.holds Try.pinned (OpenSpec.ofChange partWiderSpec)

/-- ITS FALSE NEIGHBOUR: 'it returns false'. Refute it at one input. -/
def partWiderWrong : ChangeSpec := { name := "partWider", fn := fun _ => fun
  | [d1, d2, d3] => { results := [.lit (.bool false)], args := [d1, d2, d3] }
  | _ => none }
def PartWiderWrongFalsely : Prop := partWiderRow.holds Try.pinned (OpenSpec.ofChange partWiderWrong)

/- THE SECOND FORM. 'bulk': how many values and letters a reading holds, each counted each time it is reached (what is shared counts as often as it is met; a slice's spare places count too). A statement '..UptoSaid' is the law's where the arguments, and the package variables that the reading takes, are together of bulk at most 1048576: NARROWER than '..Said'. Prove '..Said' where nothing that the law and all that it calls make is longer than what came in: it says more and counts as full. Else prove '..UptoSaid'. A law counts once. -/
mutual
def uptoBulk {H : Type} : DataW H → Nat
  | .lit (.string bytes) => bytes.length + 1
  | .lit _ => 1
  | .nil => 1
  | .ptr d => uptoBulk d + 1
  | .slice elems spare => uptoBulkAll elems + uptoBulkAll spare + 1
  | .agg parts => uptoBulkAll parts + 1
  | .iface _ d => uptoBulk d + 1
  | .map entries => uptoBulkEntries entries + 1
  | .held _ => 1
def uptoBulkAll {H : Type} : List (DataW H) → Nat
  | [] => 0
  | d :: r => uptoBulk d + uptoBulkAll r
def uptoBulkEntries {H : Type} : List (Lit × DataW H) → Nat
  | [] => 0
  | x :: r => uptoBulkEntry x + uptoBulkEntries r
def uptoBulkEntry {H : Type} : Lit × DataW H → Nat
  | (.string bytes, d) => bytes.length + uptoBulk d + 1
  | (_, d) => uptoBulk d + 1
 end
def uptoSmall : (H : Type) → List (DataW H) → Bool := fun _ ds => decide (uptoBulkAll ds ≤ 1048576)
def OpenSpec.upto (s : _root_.Go.ChangeSpec) : _root_.Go.OpenSpec := { _root_.Go.OpenSpec.ofChange s with cond := some uptoSmall }

/-- 'turretlaw12.PartLooses', WHERE WHAT IT READS IS OF BULK AT MOST 1048576: true; the input reads as it did. -/
def partLoosesUptoRow : OpenClaim := { program := "ytjljemboankbeaa", sum := "f0599f501c7631a60525d8b438f9e34a0a6f0adaec893ab35b7f0d88449f42f8", func := "turret/turretlaw12.PartLooses", spec := "partLooses", unfollowed := true, recurses := true, apart := false, narrowed := true }
def PartLoosesUptoSaid : Prop := partLoosesUptoRow.holds Try.pinned (OpenSpec.upto partLoosesSpec)

/-- 'turretlaw12.PartGauges', WHERE WHAT IT READS IS OF BULK AT MOST 1048576: true; the input reads as it did. -/
def partGaugesUptoRow : OpenClaim := { program := "ytjljemboankbeaa", sum := "f0599f501c7631a60525d8b438f9e34a0a6f0adaec893ab35b7f0d88449f42f8", func := "turret/turretlaw12.PartGauges", spec := "partGauges", unfollowed := true, recurses := true, apart := false, narrowed := true }
def PartGaugesUptoSaid : Prop := partGaugesUptoRow.holds Try.pinned (OpenSpec.upto partGaugesSpec)

/-- 'turretlaw12.PartPairs', WHERE WHAT IT READS IS OF BULK AT MOST 1048576: true; the input reads as it did. -/
def partPairsUptoRow : OpenClaim := { program := "ytjljemboankbeaa", sum := "f0599f501c7631a60525d8b438f9e34a0a6f0adaec893ab35b7f0d88449f42f8", func := "turret/turretlaw12.PartPairs", spec := "partPairs", unfollowed := true, recurses := true, apart := false, narrowed := true }
def PartPairsUptoSaid : Prop := partPairsUptoRow.holds Try.pinned (OpenSpec.upto partPairsSpec)

/-- 'turretlaw12.PartChooses', WHERE WHAT IT READS IS OF BULK AT MOST 1048576: true; the input reads as it did. -/
def partChoosesUptoRow : OpenClaim := { program := "ytjljemboankbeaa", sum := "f0599f501c7631a60525d8b438f9e34a0a6f0adaec893ab35b7f0d88449f42f8", func := "turret/turretlaw12.PartChooses", spec := "partChooses", unfollowed := true, recurses := true, apart := false, narrowed := true }
def PartChoosesUptoSaid : Prop := partChoosesUptoRow.holds Try.pinned (OpenSpec.upto partChoosesSpec)

/-- 'turretlaw12.PartSpares', WHERE WHAT IT READS IS OF BULK AT MOST 1048576: true; the input reads as it did. -/
def partSparesUptoRow : OpenClaim := { program := "ytjljemboankbeaa", sum := "f0599f501c7631a60525d8b438f9e34a0a6f0adaec893ab35b7f0d88449f42f8", func := "turret/turretlaw12.PartSpares", spec := "partSpares", unfollowed := true, recurses := true, apart := false, narrowed := true }
def PartSparesUptoSaid : Prop := partSparesUptoRow.holds Try.pinned (OpenSpec.upto partSparesSpec)

/-- 'turretlaw12.PartAll', WHERE WHAT IT READS IS OF BULK AT MOST 1048576: true; the input reads as it did. -/
def partAllUptoRow : OpenClaim := { program := "ytjljemboankbeaa", sum := "f0599f501c7631a60525d8b438f9e34a0a6f0adaec893ab35b7f0d88449f42f8", func := "turret/turretlaw12.PartAll", spec := "partAll", unfollowed := true, recurses := true, apart := false, narrowed := true }
def PartAllUptoSaid : Prop := partAllUptoRow.holds Try.pinned (OpenSpec.upto partAllSpec)

/-- 'turretlaw12.PartSure', WHERE WHAT IT READS IS OF BULK AT MOST 1048576: true; the input reads as it did. -/
def partSureUptoRow : OpenClaim := { program := "ytjljemboankbeaa", sum := "f0599f501c7631a60525d8b438f9e34a0a6f0adaec893ab35b7f0d88449f42f8", func := "turret/turretlaw12.PartSure", spec := "partSure", unfollowed := true, recurses := true, apart := false, narrowed := true }
def PartSureUptoSaid : Prop := partSureUptoRow.holds Try.pinned (OpenSpec.upto partSureSpec)

/-- 'turretlaw12.PartNoMore', WHERE WHAT IT READS IS OF BULK AT MOST 1048576: true; the input reads as it did. -/
def partNoMoreUptoRow : OpenClaim := { program := "ytjljemboankbeaa", sum := "f0599f501c7631a60525d8b438f9e34a0a6f0adaec893ab35b7f0d88449f42f8", func := "turret/turretlaw12.PartNoMore", spec := "partNoMore", unfollowed := true, recurses := true, apart := false, narrowed := true }
def PartNoMoreUptoSaid : Prop := partNoMoreUptoRow.holds Try.pinned (OpenSpec.upto partNoMoreSpec)

/-- 'turretlaw12.PartEnough', WHERE WHAT IT READS IS OF BULK AT MOST 1048576: true; the input reads as it did. -/
def partEnoughUptoRow : OpenClaim := { program := "ytjljemboankbeaa", sum := "f0599f501c7631a60525d8b438f9e34a0a6f0adaec893ab35b7f0d88449f42f8", func := "turret/turretlaw12.PartEnough", spec := "partEnough", unfollowed := true, recurses := true, apart := false, narrowed := true }
def PartEnoughUptoSaid : Prop := partEnoughUptoRow.holds Try.pinned (OpenSpec.upto partEnoughSpec)

/-- 'turretlaw12.PartWider', WHERE WHAT IT READS IS OF BULK AT MOST 1048576: true; the input reads as it did. -/
def partWiderUptoRow : OpenClaim := { program := "ytjljemboankbeaa", sum := "f0599f501c7631a60525d8b438f9e34a0a6f0adaec893ab35b7f0d88449f42f8", func := "turret/turretlaw12.PartWider", spec := "partWider", unfollowed := true, recurses := true, apart := false, narrowed := true }
def PartWiderUptoSaid : Prop := partWiderUptoRow.holds Try.pinned (OpenSpec.upto partWiderSpec)

end Rows
end Go.Proofs.Ytjljemboankbeaa
