/- TopDaysZone: for every input, true, and the input reads as it did. No condition. -/
import Derived.Test.YtedlnndkamgknaaGreatP07
section
namespace Go.Proofs.YtedlnndkamgknaaGreat
open Go.Vc Go.RowKit Go.Proofs Go.Proofs.RT Go.ChangeShapes Go.WideShapes Go.ChangeAt

set_option maxRecDepth 100000 in
theorem topDaysZone_lifted (os : Os) (started : os.Started) (H : Type) (enc : TypeId × Value → H) :
    ReturnsInHanded {} Tryz.checked os 3 .any (Rows.topDaysZoneSpec.pre6 enc Tryz.prog Tryz.f3 Rows.topDaysZoneRow.domain false) (Rows.topDaysZoneSpec.post enc Tryz.prog Tryz.f3 false true false false) := by
  refine law_lift (C := Tryz.checked) RT.Tryz.own started (by kernel_rfl) Tryz.func3
    (ChangeSpec.witness6 (enc := enc) (C := Tryz.checked) false ⟨#[], #[.int .i16 0, .slice none 0 0, .agg #[.int .u8 0, .int .u8 0]], []⟩ 8 (by kernel_rfl) (by kernel_rfl) (by kernel_rfl) (by kernel_rfl))
    RT.Tryz.laidOut (by kernel_rfl) ⟨4, rfl, by kernel_rfl⟩ rfl (fun ds hl => ?_) ?_
  · match ds, hl with
    | [_, _, _], _ => rfl
  intro W base args ds ps hval hA _
  have hA' := hA
  rw [Tryz.params3] at hA' hval
  obtain ⟨v0, v1, v2, d0, d1, d2, p0, p1, p2, rfl, rfl, rfl, h0, h1, h2⟩ := trodAll_three hA'
  obtain ⟨o, rfl, ho⟩ := open_i16 (hval 0 22 v0 rfl rfl) h0
  obtain ⟨ga, gc, gaps, rfl, hl, hg, hga⟩ := open_u8s (hval 1 23 v1 rfl rfl) h1
  obtain ⟨g0, g1, rfl, h0, h1⟩ := open_b2 (hval 2 24 v2 rfl rfl) h2
  exact TopDaysZone_any hga hg ho h0 h1 (by simp only [maxLen] at hl; omega)

theorem TopDaysZone_holds : Rows.TopDaysZoneSaid :=
  OpenClaim.holds_of_wide 3 Tryz.f3 rfl rfl rfl rfl rfl rfl rfl ⟨rfl, rfl, rfl, rfl, rfl⟩ rfl rfl rfl rfl rfl (by kernel_rfl) Tryz.func3 (by kernel_rfl)
    (of_decide_eq_true (by kernel_rfl)) (by unfold Func.isWrapper; first | (rw [if_pos (by decide +kernel)]; kernel_rfl) | (rw [if_neg (by decide +kernel)]; exact ⟨rfl, rfl⟩))
    (fun os started H enc _ => topDaysZone_lifted os started H enc)
end Go.Proofs.YtedlnndkamgknaaGreat
end
