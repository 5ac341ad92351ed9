/- PartLooses: for every input, true, and the input reads as it did. No condition. -/
import Derived.Test.YtjljemboankbeaaP06
section
namespace Go.Proofs.Ytjljemboankbeaa
open Go.Vc Go.RowKit Go.Proofs Go.Proofs.R12 Go.ChangeShapes Go.WideShapes Go.ChangeAt

set_option maxRecDepth 100000 in
theorem partLooses_lifted (os : Os) (started : os.Started) (H : Type) (enc : TypeId × Value → H) :
    ReturnsInHanded {} Try.checked os 3 .any (Rows.partLoosesSpec.pre6 enc Try.prog Try.f3 Rows.partLoosesRow.domain false) (Rows.partLoosesSpec.post enc Try.prog Try.f3 false true false false) := by
  refine law_lift (C := Try.checked) R12.Try.own started (by kernel_rfl) Try.func3
    (ChangeSpec.witness6 (enc := enc) (C := Try.checked) false ⟨#[], #[.agg #[.slice none 0 0, .slice none 0 0]], []⟩ 8 (by kernel_rfl) (by kernel_rfl) (by kernel_rfl) (by kernel_rfl))
    R12.Try.laidOut (by kernel_rfl) ⟨4, rfl, by kernel_rfl⟩ rfl (fun ds hl => ?_) ?_
  · match ds, hl with
    | [_], _ => rfl
  intro W base args ds ps hval hA _
  have hA' := hA
  rw [Try.params3] at hA' hval
  obtain ⟨v0, d0, rfl, rfl, h0⟩ := trodAll_one hA'
  obtain ⟨W, pa, pc, fa, fc, rfl, hp, hf⟩ := open_works (hval 0 25 v0 rfl rfl) h0
  exact law3 hp hf

theorem PartLooses_holds : Rows.PartLoosesSaid :=
  OpenClaim.holds_of_wide 3 Try.f3 rfl rfl rfl rfl rfl rfl rfl ⟨rfl, rfl, rfl, rfl, rfl⟩ rfl rfl rfl rfl rfl (by kernel_rfl) Try.func3 (by kernel_rfl)
    (of_decide_eq_true (by kernel_rfl)) (by unfold Func.isWrapper; first | (rw [if_pos (by decide +kernel)]; kernel_rfl) | (rw [if_neg (by decide +kernel)]; exact ⟨rfl, rfl⟩))
    (fun os started H enc _ => partLooses_lifted os started H enc)
end Go.Proofs.Ytjljemboankbeaa
end
