/- RateSound: for every input, true, and the input reads as it did. No condition. -/
import Derived.Test.YtonlamhfncoklaaP06
section
namespace Go.Proofs.Ytonlamhfncoklaa
open Go.Vc Go.RowKit Go.Proofs Go.Proofs.R07 Go.ChangeShapes Go.WideShapes Go.ChangeAt

set_option maxRecDepth 100000 in
theorem sound_lifted (os : Os) (started : os.Started) (H : Type) (enc : TypeId × Value → H) :
    ReturnsInHanded {} Try.checked os 10 .any (Rows.rateSoundSpec.pre6 enc Try.prog Try.f10 Rows.rateSoundRow.domain false) (Rows.rateSoundSpec.post enc Try.prog Try.f10 false true false false) := by
  refine law_lift (C := Try.checked) R07.Try.own started (by kernel_rfl) Try.func10
    (ChangeSpec.witness6 (enc := enc) (C := Try.checked) false ⟨#[], #[.agg #[J 0, J 0, J 0, J 0, J 0, .slice none 0 0], .agg #[J 0, J 0, J 0], .slice none 0 0], []⟩ 8 (by kernel_rfl) (by kernel_rfl) (by kernel_rfl) (by kernel_rfl))
    R07.Try.laidOut (by kernel_rfl) ⟨4, rfl, by kernel_rfl⟩ rfl (fun ds hl => ?_) ?_
  · match ds, hl with
    | [_, _, _], _ => rfl
  intro W base args ds ps hval hA _
  have hA' := hA
  rw [Try.params10] at hA' hval
  obtain ⟨v0, v1, v2, d0, d1, d2, p0, p1, p2, rfl, rfl, rfl, h0, h1, h2⟩ := trodAll_three hA'
  obtain ⟨x0, x1, x2, x3, x4, a, c, l, rfl, u0, u1, u2, u3, u4, hl, hlu⟩ := open_shop (hval 0 64 v0 rfl rfl) h0
  obtain ⟨y0, y1, y2, rfl, g0, g1, _⟩ := open_b3 (hval 1 65 v1 rfl rfl) h1
  obtain ⟨b, d, bl, rfl, hb, hbu⟩ := open_bytes (hval 2 66 v2 rfl rfl) h2
  exact rateSound_any u0 u1 u2 u3 u4 hlu g0 g1 hbu hl hb

theorem RateSound_holds : Rows.RateSoundSaid :=
  OpenClaim.holds_of_wide 10 Try.f10 rfl rfl rfl rfl rfl rfl rfl ⟨rfl, rfl, rfl, rfl, rfl⟩ rfl rfl rfl rfl rfl (by kernel_rfl) Try.func10 (by kernel_rfl)
    (of_decide_eq_true (by kernel_rfl)) (by unfold Func.isWrapper; first | (rw [if_pos (by decide +kernel)]; kernel_rfl) | (rw [if_neg (by decide +kernel)]; exact ⟨rfl, rfl⟩))
    (fun os started H enc _ => sound_lifted os started H enc)
end Go.Proofs.Ytonlamhfncoklaa
end
