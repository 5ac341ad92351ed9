/- RateFewest: for every input, true, and the input reads as it did. No condition. -/
import Derived.Test.YtonlamhfncoklaaP06
section
namespace Go.Proofs.Ytonlamhfncoklaa
open Go.Vc Go.RowKit Go.Proofs Go.Proofs.R07 Go.ChangeShapes Go.WideShapes Go.ChangeAt

set_option maxRecDepth 100000 in
theorem fewest_lifted (os : Os) (started : os.Started) (H : Type) (enc : TypeId × Value → H) :
    ReturnsInHanded {} Try.checked os 4 .any (Rows.rateFewestSpec.pre6 enc Try.prog Try.f4 Rows.rateFewestRow.domain false) (Rows.rateFewestSpec.post enc Try.prog Try.f4 false true false false) := by
  refine law_lift (C := Try.checked) R07.Try.own started (by kernel_rfl) Try.func4
    (ChangeSpec.witness6 (enc := enc) (C := Try.checked) false ⟨#[], #[.agg #[I 0, I 0, I 0, I 0, I 0, .slice none 0 0], .agg #[I 0, I 0, .slice none 0 0]], []⟩ 8 (by kernel_rfl) (by kernel_rfl) (by kernel_rfl) (by kernel_rfl))
    R07.Try.laidOut (by kernel_rfl) ⟨4, rfl, by kernel_rfl⟩ rfl (fun ds hl => ?_) ?_
  · match ds, hl with
    | [_, _], _ => rfl
  intro W base args ds ps hval hA _
  have hA' := hA
  rw [Try.params4] at hA' hval
  obtain ⟨v0, v1, d0, d1, p0, p1, rfl, rfl, rfl, h0, h1⟩ := trodAll_two hA'
  obtain ⟨r, a, c, rfl, _, hr⟩ := open_rules (hval 0 26 v0 rfl rfl) h0
  obtain ⟨s, b, d, rfl, _, hs⟩ := open_st (hval 1 29 v1 rfl rfl) h1
  exact rateFewest_any r s hr hs

theorem RateFewest_holds : Rows.RateFewestSaid :=
  OpenClaim.holds_of_wide 4 Try.f4 rfl rfl rfl rfl rfl rfl rfl ⟨rfl, rfl, rfl, rfl, rfl⟩ rfl rfl rfl rfl rfl (by kernel_rfl) Try.func4 (by kernel_rfl)
    (of_decide_eq_true (by kernel_rfl)) (by unfold Func.isWrapper; first | (rw [if_pos (by decide +kernel)]; kernel_rfl) | (rw [if_neg (by decide +kernel)]; exact ⟨rfl, rfl⟩))
    (fun os started H enc _ => fewest_lifted os started H enc)
end Go.Proofs.Ytonlamhfncoklaa
end
