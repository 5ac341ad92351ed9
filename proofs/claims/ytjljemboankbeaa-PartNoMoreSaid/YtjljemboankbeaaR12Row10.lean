/- PartNoMore: for every input, true, and the input reads as it did. No condition. -/
import Derived.Test.YtjljemboankbeaaP07
section
namespace Go.Proofs.Ytjljemboankbeaa
open Go.Vc Go.RowKit Go.Proofs Go.Proofs.R12 Go.ChangeShapes Go.WideShapes Go.ChangeAt

set_option maxRecDepth 100000 in
theorem partNoMore_lifted (os : Os) (started : os.Started) (H : Type) (enc : TypeId × Value → H) :
    ReturnsInHanded {} Try.checked os 10 .any (Rows.partNoMoreSpec.pre6 enc Try.prog Try.f10 Rows.partNoMoreRow.domain false) (Rows.partNoMoreSpec.post enc Try.prog Try.f10 false true false false) := by
  refine law_lift (C := Try.checked) R12.Try.own started (by kernel_rfl) Try.func10
    (ChangeSpec.witness6 (enc := enc) (C := Try.checked) false ⟨#[], #[.agg #[.slice none 0 0, .slice none 0 0], .slice none 0 0, .slice none 0 0], []⟩ 8 (by kernel_rfl) (by kernel_rfl) (by kernel_rfl) (by kernel_rfl))
    R12.Try.laidOut (by kernel_rfl) ⟨4, rfl, by kernel_rfl⟩ rfl (fun ds hl => ?_) ?_
  · match ds, hl with
    | [_, _, _], _ => rfl
  intro W base args ds ps hval hA _
  have hA' := hA
  rw [Try.params10] at hA' hval
  obtain ⟨v0, v1, v2, d0, d1, d2, p0, p1, p2, rfl, rfl, rfl, h0, h1, h2⟩ := trodAll_three hA'
  obtain ⟨T0, U0, xa0, ya0, xc0, yc0, rfl, kT0, kU0, qT0, qU0⟩ := open_shop (hval 0 84 v0 rfl rfl) h0
  obtain ⟨a0, c0, l0, rfl, ql0, kl0⟩ := open_u8s (hval 1 85 v1 rfl rfl) h1
  obtain ⟨a1, c1, l1, rfl, ql1, kl1⟩ := open_u8s (hval 2 85 v2 rfl rfl) h2
  exact law10 kT0 kU0 qT0 qU0 kl0 kl1 ql0 ql1

theorem PartNoMore_holds : Rows.PartNoMoreSaid :=
  OpenClaim.holds_of_wide 10 Try.f10 rfl rfl rfl rfl rfl rfl rfl ⟨rfl, rfl, rfl, rfl, rfl⟩ rfl rfl rfl rfl rfl (by kernel_rfl) Try.func10 (by kernel_rfl)
    (of_decide_eq_true (by kernel_rfl)) (by unfold Func.isWrapper; first | (rw [if_pos (by decide +kernel)]; kernel_rfl) | (rw [if_neg (by decide +kernel)]; exact ⟨rfl, rfl⟩))
    (fun os started H enc _ => partNoMore_lifted os started H enc)
end Go.Proofs.Ytjljemboankbeaa
end
