/- PartChooses: for every input, true, and the input reads as it did. No condition. -/
import Derived.Test.YtjljemboankbeaaP07
section
namespace Go.Proofs.Ytjljemboankbeaa
open Go.Vc Go.RowKit Go.Proofs Go.Proofs.R12 Go.ChangeShapes Go.WideShapes Go.ChangeAt

set_option maxRecDepth 100000 in
theorem partChooses_lifted (os : Os) (started : os.Started) (H : Type) (enc : TypeId × Value → H) :
    ReturnsInHanded {} Try.checked os 6 .any (Rows.partChoosesSpec.pre6 enc Try.prog Try.f6 Rows.partChoosesRow.domain false) (Rows.partChoosesSpec.post enc Try.prog Try.f6 false true false false) := by
  refine law_lift (C := Try.checked) R12.Try.own started (by kernel_rfl) Try.func6
    (ChangeSpec.witness6 (enc := enc) (C := Try.checked) false ⟨#[], #[.agg #[.slice none 0 0, .slice none 0 0], .slice none 0 0, .agg #[I 0, .slice none 0 0]], []⟩ 8 (by kernel_rfl) (by kernel_rfl) (by kernel_rfl) (by kernel_rfl))
    R12.Try.laidOut (by kernel_rfl) ⟨4, rfl, by kernel_rfl⟩ rfl (fun ds hl => ?_) ?_
  · match ds, hl with
    | [_, _, _], _ => rfl
  intro W base args ds ps hval hA hwt
  have hA' := hA
  rw [Try.params6] at hA' hval hwt
  obtain ⟨v0, v1, v2, d0, d1, d2, p0, p1, p2, rfl, rfl, rfl, h0, h1, h2⟩ := trodAll_three hA'
  obtain ⟨W, pa, pc, fa, fc, rfl, hp, hf⟩ := open_works (hval 0 25 v0 rfl rfl) h0
  obtain ⟨ca, cc, C, rfl, xC, hC⟩ := open_piecesB (hval 1 45 v1 rfl rfl) h1 (weights_at hwt (j := 1) rfl rfl)
  obtain ⟨p, sa, sc, St, rfl, xT, hT⟩ := open_storeB (hval 2 73 v2 rfl rfl) h2 (weights_at hwt (j := 2) rfl rfl)
  exact law6 hp hf hC hT xC xT

theorem PartChooses_holds : Rows.PartChoosesSaid :=
  OpenClaim.holds_of_wide 6 Try.f6 rfl rfl rfl rfl rfl rfl rfl ⟨rfl, rfl, rfl, rfl, rfl⟩ rfl rfl rfl rfl rfl (by kernel_rfl) Try.func6 (by kernel_rfl)
    (of_decide_eq_true (by kernel_rfl)) (by unfold Func.isWrapper; first | (rw [if_pos (by decide +kernel)]; kernel_rfl) | (rw [if_neg (by decide +kernel)]; exact ⟨rfl, rfl⟩))
    (fun os started H enc _ => partChooses_lifted os started H enc)
end Go.Proofs.Ytjljemboankbeaa
end
