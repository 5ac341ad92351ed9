/-
  No cell of these rows narrows 'for every input' (looked for: loops, veiled, ifaces, maps, wideKeys, modest, calm, conditions, laid).
  DERIVED. THE GIVEN ROWS OF THIS SEAT. 3 by the template 'for every input the law returns true; each argument reads behind the call as it read before'; 0 by the template 'total and deterministic' (their statements: YtedlnndkamgknaaGreatTotals.lean).
  GIVEN WITH THE SEED: the statements are not yours to turn. If you find one false, say at which input.
  Laid BY PROGRAM, IN A SANDBOX (cutbox-rows.mjs): the forced cells as the released guide's own fill.sh prints them over the translation 838f3b6dc59120a0… (all of the seat's roots in one cut). By AI agents, Wed Nov 11 2026. No macro, syntax, notation, axiom, sorry.
-/
import Derived.Test.YtedlnndkamgknaaGreatChecked
import GoSem.Claim
import GoSem.ClaimJoined
import GoSem.ClaimMapViews
import Derived.JoinedTies
import Derived.KernelRfl
namespace Go.Proofs.YtedlnndkamgknaaGreat
/- THE CELL 'sum', in the pinned program and in every row, IS THE sha256 OF THE DUMP (.gsa) THAT YtedlnndkamgknaaGreatProg.lean LOADS. Nothing in Lean hashes anything: it is a label: what it is worth is what the hold of that sum in a sandbox is worth. -/
noncomputable def Tryz.pinned : Pinned := { name := "ytedlnndkamgknaagreat", sum := "838f3b6dc59120a02c7a0ad6a3c958ee192442d380441f97ef717686c4042870", checked := Tryz.checked }
namespace Rows
def none {H : Type} : Left H := { results := [], args := [] }

/-- 'turrettop.TopDaysZone': WHATEVER THE INPUT: true; the input reads as it did. -/
def topDaysZoneSpec : ChangeSpec := { name := "topDaysZone", fn := fun _ => fun
  | [d1, d2, d3] => { results := [.lit (.bool true)], args := [d1, d2, d3] }
  | _ => none }
def topDaysZoneRow : OpenClaim := { program := "ytedlnndkamgknaagreat", sum := "838f3b6dc59120a02c7a0ad6a3c958ee192442d380441f97ef717686c4042870", func := "turret/turrettop.TopDaysZone", spec := "topDaysZone", unfollowed := true, recurses := true, plainKeys := false, apart := false }
def TopDaysZoneSaid : Prop := topDaysZoneRow.holds Tryz.pinned (OpenSpec.ofChange topDaysZoneSpec)

/-- ITS FALSE NEIGHBOUR: 'it returns false'. Refute it at one input. -/
def topDaysZoneWrong : ChangeSpec := { name := "topDaysZone", fn := fun _ => fun
  | [d1, d2, d3] => { results := [.lit (.bool false)], args := [d1, d2, d3] }
  | _ => none }
def TopDaysZoneWrongFalsely : Prop := topDaysZoneRow.holds Tryz.pinned (OpenSpec.ofChange topDaysZoneWrong)

/-- 'turrettop.TopRoundDrop': WHATEVER THE INPUT: true; the input reads as it did. -/
def topRoundDropSpec : ChangeSpec := { name := "topRoundDrop", fn := fun _ => fun
  | [d1, d2, d3] => { results := [.lit (.bool true)], args := [d1, d2, d3] }
  | _ => none }
def topRoundDropRow : OpenClaim := { program := "ytedlnndkamgknaagreat", sum := "838f3b6dc59120a02c7a0ad6a3c958ee192442d380441f97ef717686c4042870", func := "turret/turrettop.TopRoundDrop", spec := "topRoundDrop", unfollowed := true, recurses := true, plainKeys := false, apart := false }
def TopRoundDropSaid : Prop := topRoundDropRow.holds Tryz.pinned (OpenSpec.ofChange topRoundDropSpec)

/-- ITS FALSE NEIGHBOUR: 'it returns false'. Refute it at one input. -/
def topRoundDropWrong : ChangeSpec := { name := "topRoundDrop", fn := fun _ => fun
  | [d1, d2, d3] => { results := [.lit (.bool false)], args := [d1, d2, d3] }
  | _ => none }
def TopRoundDropWrongFalsely : Prop := topRoundDropRow.holds Tryz.pinned (OpenSpec.ofChange topRoundDropWrong)

/-- 'turrettop.TopStrikeBarrel': WHATEVER THE INPUT: true; the input reads as it did. -/
def topStrikeBarrelSpec : ChangeSpec := { name := "topStrikeBarrel", fn := fun _ => fun
  | [d1, d2] => { results := [.lit (.bool true)], args := [d1, d2] }
  | _ => none }
def topStrikeBarrelRow : OpenClaim := { program := "ytedlnndkamgknaagreat", sum := "838f3b6dc59120a02c7a0ad6a3c958ee192442d380441f97ef717686c4042870", func := "turret/turrettop.TopStrikeBarrel", spec := "topStrikeBarrel", unfollowed := true, recurses := true, plainKeys := false, apart := false }
def TopStrikeBarrelSaid : Prop := topStrikeBarrelRow.holds Tryz.pinned (OpenSpec.ofChange topStrikeBarrelSpec)

/-- ITS FALSE NEIGHBOUR: 'it returns false'. Refute it at one input. -/
def topStrikeBarrelWrong : ChangeSpec := { name := "topStrikeBarrel", fn := fun _ => fun
  | [d1, d2] => { results := [.lit (.bool false)], args := [d1, d2] }
  | _ => none }
def TopStrikeBarrelWrongFalsely : Prop := topStrikeBarrelRow.holds Tryz.pinned (OpenSpec.ofChange topStrikeBarrelWrong)

/- THE SECOND FORM. 'bulk': how many values and letters a reading holds, each counted each time it is reached (what is shared counts as often as it is met; a slice's spare places count too). A statement '..UptoSaid' is the law's where the arguments, and the package variables that the reading takes, are together of bulk at most 1048576: NARROWER than '..Said'. Prove '..Said' where nothing that the law and all that it calls make is longer than what came in: it says more and counts as full. Else prove '..UptoSaid'. A law counts once. -/
mutual
def uptoBulk {H : Type} : DataW H → Nat
  | .lit (.string bytes) => bytes.length + 1
  | .lit _ => 1
  | .nil => 1
  | .ptr d => uptoBulk d + 1
  | .slice elems spare => uptoBulkAll elems + uptoBulkAll spare + 1
  | .agg parts => uptoBulkAll parts + 1
  | .iface _ d => uptoBulk d + 1
  | .map entries => uptoBulkEntries entries + 1
  | .held _ => 1
def uptoBulkAll {H : Type} : List (DataW H) → Nat
  | [] => 0
  | d :: r => uptoBulk d + uptoBulkAll r
def uptoBulkEntries {H : Type} : List (Lit × DataW H) → Nat
  | [] => 0
  | x :: r => uptoBulkEntry x + uptoBulkEntries r
def uptoBulkEntry {H : Type} : Lit × DataW H → Nat
  | (.string bytes, d) => bytes.length + uptoBulk d + 1
  | (_, d) => uptoBulk d + 1
 end
def uptoSmall : (H : Type) → List (DataW H) → Bool := fun _ ds => decide (uptoBulkAll ds ≤ 1048576)
def OpenSpec.upto (s : _root_.Go.ChangeSpec) : _root_.Go.OpenSpec := { _root_.Go.OpenSpec.ofChange s with cond := some uptoSmall }

/-- 'turrettop.TopDaysZone', WHERE WHAT IT READS IS OF BULK AT MOST 1048576: true; the input reads as it did. -/
def topDaysZoneUptoRow : OpenClaim := { program := "ytedlnndkamgknaagreat", sum := "838f3b6dc59120a02c7a0ad6a3c958ee192442d380441f97ef717686c4042870", func := "turret/turrettop.TopDaysZone", spec := "topDaysZone", unfollowed := true, recurses := true, plainKeys := false, apart := false, narrowed := true }
def TopDaysZoneUptoSaid : Prop := topDaysZoneUptoRow.holds Tryz.pinned (OpenSpec.upto topDaysZoneSpec)

/-- 'turrettop.TopRoundDrop', WHERE WHAT IT READS IS OF BULK AT MOST 1048576: true; the input reads as it did. -/
def topRoundDropUptoRow : OpenClaim := { program := "ytedlnndkamgknaagreat", sum := "838f3b6dc59120a02c7a0ad6a3c958ee192442d380441f97ef717686c4042870", func := "turret/turrettop.TopRoundDrop", spec := "topRoundDrop", unfollowed := true, recurses := true, plainKeys := false, apart := false, narrowed := true }
def TopRoundDropUptoSaid : Prop := topRoundDropUptoRow.holds Tryz.pinned (OpenSpec.upto topRoundDropSpec)

/-- 'turrettop.TopStrikeBarrel', WHERE WHAT IT READS IS OF BULK AT MOST 1048576: true; the input reads as it did. -/
def topStrikeBarrelUptoRow : OpenClaim := { program := "ytedlnndkamgknaagreat", sum := "838f3b6dc59120a02c7a0ad6a3c958ee192442d380441f97ef717686c4042870", func := "turret/turrettop.TopStrikeBarrel", spec := "topStrikeBarrel", unfollowed := true, recurses := true, plainKeys := false, apart := false, narrowed := true }
def TopStrikeBarrelUptoSaid : Prop := topStrikeBarrelUptoRow.holds Tryz.pinned (OpenSpec.upto topStrikeBarrelSpec)

end Rows
end Go.Proofs.YtedlnndkamgknaaGreat
