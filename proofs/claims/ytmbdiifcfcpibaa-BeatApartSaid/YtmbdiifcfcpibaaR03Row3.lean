/- BeatApart: for every input, true, and the input reads as it did. No condition. -/
import Derived.Test.YtmbdiifcfcpibaaP07
section
namespace Go.Proofs.Ytmbdiifcfcpibaa
open Go.Vc Go.RowKit Go.Proofs Go.Proofs.R03 Go.ChangeShapes Go.WideShapes Go.ChangeAt

set_option maxRecDepth 100000 in
theorem beatApart_lifted (os : Os) (started : os.Started) (H : Type) (enc : TypeId × Value → H) :
    ReturnsInHanded {} Try.checked os 10 .any (Rows.beatApartSpec.pre6 enc Try.prog Try.f10 Rows.beatApartRow.domain false) (Rows.beatApartSpec.post enc Try.prog Try.f10 false true false false) := by
  refine law_lift (C := Try.checked) R03.Try.own started (by kernel_rfl) Try.func10
    (ChangeSpec.witness6 (enc := enc) (C := Try.checked) false ⟨#[], #[.agg #[.slice none 0 0, U8 0, .int .i16 0, U8 0, U8 0, U8 0, U8 0], .agg #[U8 0, U8 0, U8 0, U8 0, U8 0, U8 0, U8 0, U8 0, U8 0, U8 0, U8 0, U8 0, U8 0, U8 0, U8 0, U8 0], .agg #[.slice none 0 0, .slice none 0 0]], []⟩ 8 (by kernel_rfl) (by kernel_rfl) (by kernel_rfl) (by kernel_rfl))
    R03.Try.laidOut (by kernel_rfl) ⟨4, rfl, by kernel_rfl⟩ rfl (fun ds hl => ?_) ?_
  · match ds, hl with
    | [_, _, _], _ => rfl
  intro W base args ds ps hval hA _
  have hA' := hA
  rw [Try.params10] at hA' hval
  obtain ⟨v0, v1, v2, d0, d1, d2, p0, p1, p2, rfl, rfl, rfl, h0, h1, h2⟩ := trodAll_three hA'
  obtain ⟨m, a, n, rfl, hm, hc⟩ := open_made (hval 0 68 v0 rfl rfl) h0
  obtain ⟨x, y, rfl, hx, hy⟩ := open_wx2 (hval 1 84 v1 rfl rfl) h1
  obtain ⟨b, d, k, j, l1, l2, rfl, hB, hD, h8, h9⟩ := open_bytes2 (hval 2 85 v2 rfl rfl) h2
  exact apart_any hm hx hy h8 h9 hc hB hD

theorem BeatApart_holds : Rows.BeatApartSaid :=
  OpenClaim.holds_of_wide 10 Try.f10 rfl rfl rfl rfl rfl rfl rfl ⟨rfl, rfl, rfl, rfl, rfl⟩ rfl rfl rfl rfl rfl (by kernel_rfl) Try.func10 (by kernel_rfl)
    (of_decide_eq_true (by kernel_rfl)) (by unfold Func.isWrapper; first | (rw [if_pos (by decide +kernel)]; kernel_rfl) | (rw [if_neg (by decide +kernel)]; exact ⟨rfl, rfl⟩))
    (fun os started H enc _ => beatApart_lifted os started H enc)
end Go.Proofs.Ytmbdiifcfcpibaa
end
