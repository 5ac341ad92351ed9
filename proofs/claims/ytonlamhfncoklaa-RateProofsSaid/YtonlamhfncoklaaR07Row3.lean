/- RateProofs: for every input, true, and the input reads as it did. No condition. -/
import Derived.Test.YtonlamhfncoklaaP07
section
namespace Go.Proofs.Ytonlamhfncoklaa
open Go.Vc Go.RowKit Go.Proofs Go.Proofs.R07 Go.ChangeShapes Go.WideShapes Go.ChangeAt

set_option maxRecDepth 100000 in
theorem proofs_lifted (os : Os) (started : os.Started) (H : Type) (enc : TypeId × Value → H) :
    ReturnsInHanded {} Try.checked os 5 .any (Rows.rateProofsSpec.pre6 enc Try.prog Try.f5 Rows.rateProofsRow.domain false) (Rows.rateProofsSpec.post enc Try.prog Try.f5 false true false false) := by
  refine law_lift (C := Try.checked) R07.Try.own started (by kernel_rfl) Try.func5
    (ChangeSpec.witness6 (enc := enc) (C := Try.checked) false ⟨#[], #[.agg #[I 0, I 0, I 0, I 0, I 0, .slice none 0 0], .slice none 0 0], []⟩ 8 (by kernel_rfl) (by kernel_rfl) (by kernel_rfl) (by kernel_rfl))
    R07.Try.laidOut (by kernel_rfl) ⟨4, rfl, by kernel_rfl⟩ rfl (fun ds hl => ?_) ?_
  · match ds, hl with
    | [_, _], _ => rfl
  intro W base args ds ps hval hA _
  have hA' := hA
  rw [Try.params5] at hA' hval
  obtain ⟨v0, v1, d0, d1, p0, p1, rfl, rfl, rfl, h0, h1⟩ := trodAll_two hA'
  obtain ⟨r, a, c, rfl, _, hr⟩ := open_rules (hval 0 26 v0 rfl rfl) h0
  obtain ⟨la, lc, l, rfl, _, hl⟩ := open_claims (hval 1 54 v1 rfl rfl) h1
  exact rateProofs_any r hr hl

theorem RateProofs_holds : Rows.RateProofsSaid :=
  OpenClaim.holds_of_wide 5 Try.f5 rfl rfl rfl rfl rfl rfl rfl ⟨rfl, rfl, rfl, rfl, rfl⟩ rfl rfl rfl rfl rfl (by kernel_rfl) Try.func5 (by kernel_rfl)
    (of_decide_eq_true (by kernel_rfl)) (by unfold Func.isWrapper; first | (rw [if_pos (by decide +kernel)]; kernel_rfl) | (rw [if_neg (by decide +kernel)]; exact ⟨rfl, rfl⟩))
    (fun os started H enc _ => proofs_lifted os started H enc)
end Go.Proofs.Ytonlamhfncoklaa
end
