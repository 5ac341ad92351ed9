/- PartEnough: for every input, true, and the input reads as it did. No condition. -/
import Derived.Test.YtjljemboankbeaaP06
section
namespace Go.Proofs.Ytjljemboankbeaa
open Go.Vc Go.RowKit Go.Proofs Go.Proofs.R12 Go.ChangeShapes Go.WideShapes Go.ChangeAt

set_option maxRecDepth 100000 in
theorem partEnough_lifted (os : Os) (started : os.Started) (H : Type) (enc : TypeId × Value → H) :
    ReturnsInHanded {} Try.checked os 11 .any (Rows.partEnoughSpec.pre6 enc Try.prog Try.f11 Rows.partEnoughRow.domain false) (Rows.partEnoughSpec.post enc Try.prog Try.f11 false true false false) := by
  refine law_lift (C := Try.checked) R12.Try.own started (by kernel_rfl) Try.func11
    (ChangeSpec.witness6 (enc := enc) (C := Try.checked) false ⟨#[], #[.agg #[.int .u8 0, .int .u8 0, .slice none 0 0, .slice none 0 0, .slice none 0 0]], []⟩ 8 (by kernel_rfl) (by kernel_rfl) (by kernel_rfl) (by kernel_rfl))
    R12.Try.laidOut (by kernel_rfl) ⟨4, rfl, by kernel_rfl⟩ rfl (fun ds hl => ?_) ?_
  · match ds, hl with
    | [_], _ => rfl
  intro W base args ds ps hval hA _
  have hA' := hA
  rw [Try.params11] at hA' hval
  obtain ⟨v0, d0, rfl, rfl, h0⟩ := trodAll_one hA'
  obtain ⟨x0, x1, T, O, Lv, a2, a3, a4, c2, c3, c4, rfl, g0, g1, k2, k3, k4, q2, q3, q4⟩ := open_keep (hval 0 99 v0 rfl rfl) h0
  exact law11 g0 g1 k2 k3 k4 q2 q3 q4

theorem PartEnough_holds : Rows.PartEnoughSaid :=
  OpenClaim.holds_of_wide 11 Try.f11 rfl rfl rfl rfl rfl rfl rfl ⟨rfl, rfl, rfl, rfl, rfl⟩ rfl rfl rfl rfl rfl (by kernel_rfl) Try.func11 (by kernel_rfl)
    (of_decide_eq_true (by kernel_rfl)) (by unfold Func.isWrapper; first | (rw [if_pos (by decide +kernel)]; kernel_rfl) | (rw [if_neg (by decide +kernel)]; exact ⟨rfl, rfl⟩))
    (fun os started H enc _ => partEnough_lifted os started H enc)
end Go.Proofs.Ytjljemboankbeaa
end
