/- BeatNarrows: for every input, true, and the input reads as it did. No condition. -/
import Derived.Test.YtmbdiifcfcpibaaP07
section
namespace Go.Proofs.Ytmbdiifcfcpibaa
open Go.Vc Go.RowKit Go.Proofs Go.Proofs.R03 Go.ChangeShapes Go.WideShapes Go.ChangeAt

set_option maxRecDepth 100000 in
theorem beatNarrows_lifted (os : Os) (started : os.Started) (H : Type) (enc : TypeId × Value → H) :
    ReturnsInHanded {} Try.checked os 8 .any (Rows.beatNarrowsSpec.pre6 enc Try.prog Try.f8 Rows.beatNarrowsRow.domain false) (Rows.beatNarrowsSpec.post enc Try.prog Try.f8 false true false false) := by
  refine law_lift (C := Try.checked) R03.Try.own started (by kernel_rfl) Try.func8
    (ChangeSpec.witness6 (enc := enc) (C := Try.checked) false ⟨#[], #[.agg #[.slice none 0 0, U8 0, .int .i16 0, U8 0, U8 0, U8 0, U8 0], .agg #[U8 0, U8 0, U8 0, U8 0, U8 0, U8 0, U8 0, U8 0], .slice none 0 0], []⟩ 8 (by kernel_rfl) (by kernel_rfl) (by kernel_rfl) (by kernel_rfl))
    R03.Try.laidOut (by kernel_rfl) ⟨4, rfl, by kernel_rfl⟩ rfl (fun ds hl => ?_) ?_
  · match ds, hl with
    | [_, _, _], _ => rfl
  intro W base args ds ps hval hA _
  have hA' := hA
  rw [Try.params8] at hA' hval
  obtain ⟨v0, v1, v2, d0, d1, d2, p0, p1, p2, rfl, rfl, rfl, h0, h1, h2⟩ := trodAll_three hA'
  obtain ⟨m, a, n, rfl, hm, hc⟩ := open_made (hval 0 68 v0 rfl rfl) h0
  obtain ⟨x, rfl, hx⟩ := open_wx (hval 1 70 v1 rfl rfl) h1
  obtain ⟨b, k, l, rfl, hl, h8⟩ := open_bytes (hval 2 71 v2 rfl rfl) h2
  exact narrows_any hm hx h8 hc hl

theorem BeatNarrows_holds : Rows.BeatNarrowsSaid :=
  OpenClaim.holds_of_wide 8 Try.f8 rfl rfl rfl rfl rfl rfl rfl ⟨rfl, rfl, rfl, rfl, rfl⟩ rfl rfl rfl rfl rfl (by kernel_rfl) Try.func8 (by kernel_rfl)
    (of_decide_eq_true (by kernel_rfl)) (by unfold Func.isWrapper; first | (rw [if_pos (by decide +kernel)]; kernel_rfl) | (rw [if_neg (by decide +kernel)]; exact ⟨rfl, rfl⟩))
    (fun os started H enc _ => beatNarrows_lifted os started H enc)
end Go.Proofs.Ytmbdiifcfcpibaa
end
