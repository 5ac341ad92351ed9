/- PartPairs: for every input, true, and the input reads as it did. No condition. -/
import Derived.Test.YtjljemboankbeaaP07
section
namespace Go.Proofs.Ytjljemboankbeaa
open Go.Vc Go.RowKit Go.Proofs Go.Proofs.R12 Go.ChangeShapes Go.WideShapes Go.ChangeAt

set_option maxRecDepth 100000 in
theorem partPairs_lifted (os : Os) (started : os.Started) (H : Type) (enc : TypeId × Value → H) :
    ReturnsInHanded {} Try.checked os 5 .any (Rows.partPairsSpec.pre6 enc Try.prog Try.f5 Rows.partPairsRow.domain false) (Rows.partPairsSpec.post enc Try.prog Try.f5 false true false false) := by
  refine law_lift (C := Try.checked) R12.Try.own started (by kernel_rfl) Try.func5
    (ChangeSpec.witness6 (enc := enc) (C := Try.checked) false ⟨#[], #[.agg #[.slice none 0 0, .slice none 0 0], .agg #[I 0, .slice none 0 0, .slice none 0 0]], []⟩ 8 (by kernel_rfl) (by kernel_rfl) (by kernel_rfl) (by kernel_rfl))
    R12.Try.laidOut (by kernel_rfl) ⟨4, rfl, by kernel_rfl⟩ rfl (fun ds hl => ?_) ?_
  · match ds, hl with
    | [_, _], _ => rfl
  intro W base args ds ps hval hA _
  have hA' := hA
  rw [Try.params5] at hA' hval
  obtain ⟨v0, v1, d0, d1, p0, p1, rfl, rfl, rfl, h0, h1⟩ := trodAll_two hA'
  obtain ⟨W, pa, pc, fa, fc, rfl, hp, hf⟩ := open_works (hval 0 25 v0 rfl rfl) h0
  obtain ⟨bx, Hs, Ss, ha, hc, sa, sc, rfl, _, _, kH, kS⟩ := open_box (hval 1 56 v1 rfl rfl) h1
  exact law5 hp hf kH kS

theorem PartPairs_holds : Rows.PartPairsSaid :=
  OpenClaim.holds_of_wide 5 Try.f5 rfl rfl rfl rfl rfl rfl rfl ⟨rfl, rfl, rfl, rfl, rfl⟩ rfl rfl rfl rfl rfl (by kernel_rfl) Try.func5 (by kernel_rfl)
    (of_decide_eq_true (by kernel_rfl)) (by unfold Func.isWrapper; first | (rw [if_pos (by decide +kernel)]; kernel_rfl) | (rw [if_neg (by decide +kernel)]; exact ⟨rfl, rfl⟩))
    (fun os started H enc _ => partPairs_lifted os started H enc)
end Go.Proofs.Ytjljemboankbeaa
end
