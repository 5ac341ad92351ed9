/- BeatChanges: for every input, true, and the input reads as it did. No condition. -/
import Derived.Test.YtmbdiifcfcpibaaP06
section
namespace Go.Proofs.Ytmbdiifcfcpibaa
open Go.Vc Go.RowKit Go.Proofs Go.Proofs.R03 Go.ChangeShapes Go.WideShapes Go.ChangeAt

set_option maxRecDepth 100000 in
theorem beatChanges_lifted (os : Os) (started : os.Started) (H : Type) (enc : TypeId × Value → H) :
    ReturnsInHanded {} Try.checked os 5 .any (Rows.beatChangesSpec.pre6 enc Try.prog Try.f5 Rows.beatChangesRow.domain false) (Rows.beatChangesSpec.post enc Try.prog Try.f5 false true false false) := by
  refine law_lift (C := Try.checked) R03.Try.own started (by kernel_rfl) Try.func5
    (ChangeSpec.witness6 (enc := enc) (C := Try.checked) false ⟨#[], #[.agg #[I 0, I 0, .slice none 0 0, I 0, I 0, I 0, I 0], .agg #[I 0, I 0, I 0, I 0, I 0, I 0, I 0, I 0], .agg #[I 0, I 0, I 0, I 0, I 0, I 0, I 0, I 0]], []⟩ 8 (by kernel_rfl) (by kernel_rfl) (by kernel_rfl) (by kernel_rfl))
    R03.Try.laidOut (by kernel_rfl) ⟨4, rfl, by kernel_rfl⟩ rfl (fun ds hl => ?_) ?_
  · match ds, hl with
    | [_, _, _], _ => rfl
  intro W base args ds ps hval hA _
  have hA' := hA
  rw [Try.params5] at hA' hval
  obtain ⟨v0, v1, v2, d0, d1, d2, p0, p1, p2, rfl, rfl, rfl, h0, h1, h2⟩ := trodAll_three hA'
  obtain ⟨c, a, n, rfl, _, hc⟩ := open_clk (hval 0 27 v0 rfl rfl) h0
  obtain ⟨x, rfl⟩ := open_bn (hval 1 45 v1 rfl rfl) h1
  obtain ⟨y, rfl⟩ := open_bn (hval 2 45 v2 rfl rfl) h2
  exact changes_any c x y hc

theorem BeatChanges_holds : Rows.BeatChangesSaid :=
  OpenClaim.holds_of_wide 5 Try.f5 rfl rfl rfl rfl rfl rfl rfl ⟨rfl, rfl, rfl, rfl, rfl⟩ rfl rfl rfl rfl rfl (by kernel_rfl) Try.func5 (by kernel_rfl)
    (of_decide_eq_true (by kernel_rfl)) (by unfold Func.isWrapper; first | (rw [if_pos (by decide +kernel)]; kernel_rfl) | (rw [if_neg (by decide +kernel)]; exact ⟨rfl, rfl⟩))
    (fun os started H enc _ => beatChanges_lifted os started H enc)
end Go.Proofs.Ytmbdiifcfcpibaa
end
