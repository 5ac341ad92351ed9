/- PartSure: for every input, true, and the input reads as it did. No condition. -/
import Derived.Test.YtjljemboankbeaaP06
section
namespace Go.Proofs.Ytjljemboankbeaa
open Go.Vc Go.RowKit Go.Proofs Go.Proofs.R12 Go.ChangeShapes Go.WideShapes Go.ChangeAt

set_option maxRecDepth 100000 in
theorem partSure_lifted (os : Os) (started : os.Started) (H : Type) (enc : TypeId × Value → H) :
    ReturnsInHanded {} Try.checked os 9 .any (Rows.partSureSpec.pre6 enc Try.prog Try.f9 Rows.partSureRow.domain false) (Rows.partSureSpec.post enc Try.prog Try.f9 false true false false) := by
  refine law_lift (C := Try.checked) R12.Try.own started (by kernel_rfl) Try.func9
    (ChangeSpec.witness6 (enc := enc) (C := Try.checked) false ⟨#[], #[.agg #[.slice none 0 0, .slice none 0 0], .agg #[.int .u8 0, .int .u8 0, .int .u8 0], .agg #[.int .u8 0, .int .u8 0]], []⟩ 8 (by kernel_rfl) (by kernel_rfl) (by kernel_rfl) (by kernel_rfl))
    R12.Try.laidOut (by kernel_rfl) ⟨4, rfl, by kernel_rfl⟩ rfl (fun ds hl => ?_) ?_
  · match ds, hl with
    | [_, _, _], _ => rfl
  intro W base args ds ps hval hA _
  have hA' := hA
  rw [Try.params9] at hA' hval
  obtain ⟨v0, v1, v2, d0, d1, d2, p0, p1, p2, rfl, rfl, rfl, h0, h1, h2⟩ := trodAll_three hA'
  obtain ⟨T0, U0, xa0, ya0, xc0, yc0, rfl, kT0, kU0, qT0, qU0⟩ := open_shop (hval 0 84 v0 rfl rfl) h0
  obtain ⟨r0, r1, r2, rfl, g0, g1, g2⟩ := open_b3 (hval 1 91 v1 rfl rfl) h1
  obtain ⟨p0, p1, rfl, g3, g4⟩ := open_b2 (hval 2 92 v2 rfl rfl) h2
  exact law9 kT0 kU0 qT0 qU0 g0 g1 g2 g3 g4

theorem PartSure_holds : Rows.PartSureSaid :=
  OpenClaim.holds_of_wide 9 Try.f9 rfl rfl rfl rfl rfl rfl rfl ⟨rfl, rfl, rfl, rfl, rfl⟩ rfl rfl rfl rfl rfl (by kernel_rfl) Try.func9 (by kernel_rfl)
    (of_decide_eq_true (by kernel_rfl)) (by unfold Func.isWrapper; first | (rw [if_pos (by decide +kernel)]; kernel_rfl) | (rw [if_neg (by decide +kernel)]; exact ⟨rfl, rfl⟩))
    (fun os started H enc _ => partSure_lifted os started H enc)
end Go.Proofs.Ytjljemboankbeaa
end
