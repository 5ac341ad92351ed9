/- TopRoundDrop: for every input, true, and the input reads as it did. No condition. -/
import Derived.Test.YtedlnndkamgknaaGreatP08
section
namespace Go.Proofs.YtedlnndkamgknaaGreat
open Go.Vc Go.RowKit Go.Proofs Go.Proofs.RT Go.ChangeShapes Go.WideShapes Go.ChangeAt

set_option maxRecDepth 100000 in
theorem topRoundDrop_lifted (os : Os) (started : os.Started) (H : Type) (enc : TypeId × Value → H) :
    ReturnsInHanded {} Tryz.checked os 4 .any (Rows.topRoundDropSpec.pre6 enc Tryz.prog Tryz.f4 Rows.topRoundDropRow.domain false) (Rows.topRoundDropSpec.post enc Tryz.prog Tryz.f4 false true false false) := by
  refine law_lift (C := Tryz.checked) RT.Tryz.own started (by kernel_rfl) Tryz.func4
    (ChangeSpec.witness6 (enc := enc) (C := Tryz.checked) false ⟨#[], #[.int .u8 0, .int .u8 0, .slice none 0 0], []⟩ 8 (by kernel_rfl) (by kernel_rfl) (by kernel_rfl) (by kernel_rfl))
    RT.Tryz.laidOut (by kernel_rfl) ⟨4, rfl, by kernel_rfl⟩ rfl (fun ds hl => ?_) ?_
  · match ds, hl with
    | [_, _, _], _ => rfl
  intro W base args ds ps hval hA _
  have hA' := hA
  rw [Tryz.params4] at hA' hval
  obtain ⟨v0, v1, v2, d0, d1, d2, p0, p1, p2, rfl, rfl, rfl, h0, h1, h2⟩ := trodAll_three hA'
  obtain ⟨g, rfl, hg⟩ := open_u8 (hval 0 5 v0 rfl rfl) h0
  obtain ⟨u, rfl, hu⟩ := open_u8 (hval 1 5 v1 rfl rfl) h1
  obtain ⟨ba, bc, bs, rfl, hl, hr, hb⟩ := open_u8s (hval 2 23 v2 rfl rfl) h2
  exact TopRoundDrop_any hb hr (by simp only [maxLen] at hl; omega) hg hu

theorem TopRoundDrop_holds : Rows.TopRoundDropSaid :=
  OpenClaim.holds_of_wide 4 Tryz.f4 rfl rfl rfl rfl rfl rfl rfl ⟨rfl, rfl, rfl, rfl, rfl⟩ rfl rfl rfl rfl rfl (by kernel_rfl) Tryz.func4 (by kernel_rfl)
    (of_decide_eq_true (by kernel_rfl)) (by unfold Func.isWrapper; first | (rw [if_pos (by decide +kernel)]; kernel_rfl) | (rw [if_neg (by decide +kernel)]; exact ⟨rfl, rfl⟩))
    (fun os started H enc _ => topRoundDrop_lifted os started H enc)
end Go.Proofs.YtedlnndkamgknaaGreat
end
