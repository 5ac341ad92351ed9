/- BeatExacts: for every input, true, and the input reads as it did. No condition. -/
import Derived.Test.YtmbdiifcfcpibaaP06
section
namespace Go.Proofs.Ytmbdiifcfcpibaa
open Go.Vc Go.RowKit Go.Proofs Go.Proofs.R03 Go.ChangeShapes Go.WideShapes Go.ChangeAt

set_option maxRecDepth 100000 in
theorem exacts_lifted (os : Os) (started : os.Started) (H : Type) (enc : TypeId × Value → H) :
    ReturnsInHanded {} Try.checked os 3 .any (Rows.beatExactsSpec.pre6 enc Try.prog Try.f3 Rows.beatExactsRow.domain false) (Rows.beatExactsSpec.post enc Try.prog Try.f3 false true false false) := by
  refine law_lift (C := Try.checked) R03.Try.own started (by kernel_rfl) Try.func3
    (ChangeSpec.witness6 (enc := enc) (C := Try.checked) false ⟨#[], #[.agg #[I 0, I 0, .slice none 0 0, I 0, I 0, I 0, I 0], .agg #[.slice none 0 0, I 0, I 0, I 0, I 0, I 0, I 0]], []⟩ 8 (by kernel_rfl) (by kernel_rfl) (by kernel_rfl) (by kernel_rfl))
    R03.Try.laidOut (by kernel_rfl) ⟨4, rfl, by kernel_rfl⟩ rfl (fun ds hl => ?_) ?_
  · match ds, hl with
    | [_, _], _ => rfl
  intro W base args ds ps hval hA _
  have hA' := hA
  rw [Try.params3] at hA' hval
  obtain ⟨v0, v1, d0, d1, p0, p1, rfl, rfl, rfl, h0, h1⟩ := trodAll_two hA'
  obtain ⟨c, a, n, rfl, _, hc⟩ := open_clk (hval 0 27 v0 rfl rfl) h0
  obtain ⟨t, b, m, rfl, _, ht⟩ := open_tr (hval 1 30 v1 rfl rfl) h1
  exact exacts_any c t hc ht

theorem BeatExacts_holds : Rows.BeatExactsSaid :=
  OpenClaim.holds_of_wide 3 Try.f3 rfl rfl rfl rfl rfl rfl rfl ⟨rfl, rfl, rfl, rfl, rfl⟩ rfl rfl rfl rfl rfl (by kernel_rfl) Try.func3 (by kernel_rfl)
    (of_decide_eq_true (by kernel_rfl)) (by unfold Func.isWrapper; first | (rw [if_pos (by decide +kernel)]; kernel_rfl) | (rw [if_neg (by decide +kernel)]; exact ⟨rfl, rfl⟩))
    (fun os started H enc _ => exacts_lifted os started H enc)
end Go.Proofs.Ytmbdiifcfcpibaa
end
