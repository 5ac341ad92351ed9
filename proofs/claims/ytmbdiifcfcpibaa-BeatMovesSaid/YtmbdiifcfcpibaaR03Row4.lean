/- BeatMoves: for every input, true, and the input reads as it did. No condition. -/
import Derived.Test.YtmbdiifcfcpibaaP07
section
namespace Go.Proofs.Ytmbdiifcfcpibaa
open Go.Vc Go.RowKit Go.Proofs Go.Proofs.R03 Go.ChangeShapes Go.WideShapes Go.ChangeAt

set_option maxRecDepth 100000 in
theorem beatMoves_lifted (os : Os) (started : os.Started) (H : Type) (enc : TypeId × Value → H) :
    ReturnsInHanded {} Try.checked os 9 .any (Rows.beatMovesSpec.pre6 enc Try.prog Try.f9 Rows.beatMovesRow.domain false) (Rows.beatMovesSpec.post enc Try.prog Try.f9 false true false false) := by
  refine law_lift (C := Try.checked) R03.Try.own started (by kernel_rfl) Try.func9
    (ChangeSpec.witness6 (enc := enc) (C := Try.checked) false ⟨#[], #[.agg #[.slice none 0 0, U8 0, .int .i16 0, U8 0, U8 0, U8 0, U8 0, U8 0, U8 0, U8 0, U8 0, U8 0, U8 0, U8 0, U8 0, .slice none 0 0, .int .i16 0]], []⟩ 8 (by kernel_rfl) (by kernel_rfl) (by kernel_rfl) (by kernel_rfl))
    R03.Try.laidOut (by kernel_rfl) ⟨4, rfl, by kernel_rfl⟩ rfl (fun ds hl => ?_) ?_
  · match ds, hl with
    | [_], _ => rfl
  intro W base args ds ps hval hA _
  have hA' := hA
  rw [Try.params9] at hA' hval
  obtain ⟨v0, d0, rfl, rfl, h0⟩ := trodAll_one hA'
  obtain ⟨m, x, l, turn, a, n, b, k, rfl, hm, hx, ht, hc, hB, h8⟩ := open_moved (hval 0 82 v0 rfl rfl) h0
  exact moves_any hm hx ht h8 hc hB

theorem BeatMoves_holds : Rows.BeatMovesSaid :=
  OpenClaim.holds_of_wide 9 Try.f9 rfl rfl rfl rfl rfl rfl rfl ⟨rfl, rfl, rfl, rfl, rfl⟩ rfl rfl rfl rfl rfl (by kernel_rfl) Try.func9 (by kernel_rfl)
    (of_decide_eq_true (by kernel_rfl)) (by unfold Func.isWrapper; first | (rw [if_pos (by decide +kernel)]; kernel_rfl) | (rw [if_neg (by decide +kernel)]; exact ⟨rfl, rfl⟩))
    (fun os started H enc _ => beatMoves_lifted os started H enc)
end Go.Proofs.Ytmbdiifcfcpibaa
end
