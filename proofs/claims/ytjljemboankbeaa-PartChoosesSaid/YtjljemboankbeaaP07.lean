/- Part 7: own lemmas, and the conditions of the functions. -/
import Derived.Test.YtjljemboankbeaaP06
section
/- The law PartChooses, walked. -/
namespace Go.Proofs.R12
open Go.Vc Go.RowKit Go.Proofs
theorem choose_len (W : Wk) (p : Int) (C St : List Piece) : (chooseM W p C St).1.length ≤ St.length := by
  unfold chooseM
  split
  · simp
  · split
    · simp
    · split
      · simp
      · split
        · simp
        · split
          · simp
          · exact chosen_len W p C St St.length
set_option maxRecDepth 100000 in
set_option maxHeartbeats 4000000 in
theorem law6 {w : World} {W : Wk} {pa fa : Option Addr} {pc fc : Nat} (hp : CellsS w pa W.pats) (hf : Cells w fa (fitsV W.fits)) {ca sa : Option Addr} {cc sc : Nat} {p : Int} {C St : List Piece} (hC : CellsP w ca C) (hT : CellsP w sa St) (xC : ∀ x ∈ C, x.sizes.length ≤ 17592186044000) (xT : ∀ x ∈ St, x.sizes.length ≤ 17592186044000) : Calls Try.prog 6 #[W.v pa pc fa fc, .slice ca C.length cc, .agg #[I p, .slice sa St.length sc]] w (Pure w (.bool true)) := by
  have hch := choose_len W p C St
  refine vc6 _ _ _ _ _ _ _ _ _ _ _ _ _ w _ ?_
  intro m1 g_m1 m2 g_m2 w1 hb1 hk1
  have y1 := hb1.size
  have z1 := hk1.size; have o1 := hk1.own
  simp only [List.mem_cons, List.not_mem_nil, or_false, forall_eq_or_imp, forall_eq] at o1
  refine Pure.calls (large_any (hp.keep hb1) (hf.keep hb1)) fun w2 hd2 => ?_
  have hb2 := hb1.trans (hd2.mono hb1.size)
  refine ⟨_, rfl, .all hd2, ?_, ?_⟩
  · intro h1 w3 hb3 hk3
    try simp only [decide_eq_true_eq] at h1
    have y3 := hb3.size
    have z3 := hk3.size; have o3 := hk3.own
    simp only [List.mem_cons, List.not_mem_nil, or_false, forall_eq_or_imp, forall_eq] at o3
    refine Pure.calls (known_any) fun w4 hd4 => ?_
    have hb4 := hb3.trans (hd4.mono hb3.size)
    refine ⟨_, rfl, .all hd4, ?_⟩
    intro w5 hb5 hk5
    have y5 := hb5.size
    have z5 := hk5.size; have o5 := hk5.own
    simp only [List.mem_cons, List.not_mem_nil, or_false, forall_eq_or_imp, forall_eq] at o5
    exact ⟨by first | rfl | exact absurd rfl (by assumption) | (exfalso; simp_all; done), hb5⟩
  · intro h2
    try simp only [decide_eq_false_iff_not] at h2
    refine ⟨?_, ?_⟩
    · intro h3 w6 hb6 hk6
      try simp only [Bool.not_eq_true', Bool.not_eq_false', decide_eq_true_eq, decide_eq_false_iff_not] at h3
      have y6 := hb6.size
      have z6 := hk6.size; have o6 := hk6.own
      simp only [List.mem_cons, List.not_mem_nil, or_false, forall_eq_or_imp, forall_eq] at o6
      refine Pure.calls (known_any) fun w7 hd7 => ?_
      have hb7 := hb6.trans (hd7.mono hb6.size)
      refine ⟨_, rfl, .all hd7, ?_⟩
      intro w8 hb8 hk8
      have y8 := hb8.size
      have z8 := hk8.size; have o8 := hk8.own
      simp only [List.mem_cons, List.not_mem_nil, or_false, forall_eq_or_imp, forall_eq] at o8
      exact ⟨by first | rfl | exact absurd rfl (by assumption) | (exfalso; simp_all; done), hb8⟩
    · intro h4
      try simp only [Bool.not_eq_true', Bool.not_eq_false', decide_eq_true_eq, decide_eq_false_iff_not] at h4
      refine ⟨?_, ?_⟩
      · intro h5
        try simp only [Bool.not_eq_true', Bool.not_eq_false', decide_eq_true_eq, decide_eq_false_iff_not] at h5
        refine ⟨?_, ?_⟩
        · intro h6 w9 hb9 hk9
          try simp only [Bool.not_eq_true', Bool.not_eq_false', decide_eq_true_eq, decide_eq_false_iff_not] at h6
          have y9 := hb9.size
          have z9 := hk9.size; have o9 := hk9.own
          simp only [List.mem_cons, List.not_mem_nil, or_false, forall_eq_or_imp, forall_eq] at o9
          refine Pure.calls (known_any) fun w10 hd10 => ?_
          have hb10 := hb9.trans (hd10.mono hb9.size)
          refine ⟨_, rfl, .all hd10, ?_⟩
          intro w11 hb11 hk11
          have y11 := hb11.size
          have z11 := hk11.size; have o11 := hk11.own
          simp only [List.mem_cons, List.not_mem_nil, or_false, forall_eq_or_imp, forall_eq] at o11
          exact ⟨by first | rfl | exact absurd rfl (by assumption) | (exfalso; simp_all; done), hb11⟩
        · intro h7
          try simp only [Bool.not_eq_true', Bool.not_eq_false', decide_eq_true_eq, decide_eq_false_iff_not] at h7
          refine ⟨?_, ?_⟩
          · intro h8 w12 hb12 hk12
            try simp only [Bool.not_eq_true', Bool.not_eq_false', decide_eq_true_eq, decide_eq_false_iff_not] at h8
            have y12 := hb12.size
            have z12 := hk12.size; have o12 := hk12.own
            simp only [List.mem_cons, List.not_mem_nil, or_false, forall_eq_or_imp, forall_eq] at o12
            refine Pure.calls (known_any) fun w13 hd13 => ?_
            have hb13 := hb12.trans (hd13.mono hb12.size)
            refine ⟨_, rfl, .all hd13, ?_⟩
            intro w14 hb14 hk14
            have y14 := hb14.size
            have z14 := hk14.size; have o14 := hk14.own
            simp only [List.mem_cons, List.not_mem_nil, or_false, forall_eq_or_imp, forall_eq] at o14
            exact ⟨by first | rfl | exact absurd rfl (by assumption) | (exfalso; simp_all; done), hb14⟩
          · intro h9 w15 hb15 hk15
            try simp only [Bool.not_eq_true', Bool.not_eq_false', decide_eq_true_eq, decide_eq_false_iff_not] at h9
            have y15 := hb15.size
            have z15 := hk15.size; have o15 := hk15.own
            simp only [List.mem_cons, List.not_mem_nil, or_false, forall_eq_or_imp, forall_eq] at o15
            refine (pieces_l (hC.keep hb15) (by omega) xC).mono fun e16 w16 he => ?_
            obtain ⟨aQ16, cQ16, rfl, hd16, QC16_16⟩ := he
            have hb16 := hb15.trans (hd16.mono hb15.size)
            have z16 := hd16.size
            refine ⟨_, _, _, rfl, .all hd16, ?_⟩
            intro w17 hb17 hk17
            have y17 := hb17.size
            have z17 := hk17.size; have o17 := hk17.own
            simp only [List.mem_cons, List.not_mem_nil, or_false, forall_eq_or_imp, forall_eq] at o17
            have QC16_17 := QC16_16.kio hk17 (allc (.inl (by omega)) (allc (.inl (by omega)) all0)) ⟨(0, w16.heap.size), by simp, by simp only; omega, by simp only; omega⟩
            refine (pieces_l (hT.keep hb17) (by omega) xT).mono fun e18 w18 he => ?_
            obtain ⟨aQ18, cQ18, rfl, hd18, QS18_18⟩ := he
            have hb18 := hb17.trans (hd18.mono hb17.size)
            have z18 := hd18.size
            have QC16_18 := QC16_17.below hd18
            refine ⟨_, _, _, rfl, .all hd18, ?_⟩
            intro w19 hb19 hk19
            have y19 := hb19.size
            have z19 := hk19.size; have o19 := hk19.own
            simp only [List.mem_cons, List.not_mem_nil, or_false, forall_eq_or_imp, forall_eq] at o19
            have QC16_19 := QC16_18.kio hk19 (allc (.inl (by omega)) (allc (.inl (by omega)) all0)) ⟨(0, w18.heap.size), by simp, by simp only; omega, by simp only; omega⟩
            have QS18_19 := QS18_18.kio hk19 (allc (.inl (by omega)) (allc (.inl (by omega)) all0)) ⟨(0, w18.heap.size), by simp, by simp only; omega, by simp only; omega⟩
            refine (works_l (hp.keep hb19) (hf.keep hb19) (lim_small (by assumption))).mono fun e20 w20 he => ?_
            obtain ⟨paN20, pcN20, faN20, fcN20, rfl, hd20, P20_20, F20_20⟩ := he
            have hb20 := hb19.trans (hd20.mono hb19.size)
            have z20 := hd20.size
            have QC16_20 := QC16_19.below hd20
            have QS18_20 := QS18_19.below hd20
            refine ⟨_, _, _, _, _, _, rfl, .all hd20, ?_⟩
            intro w21 hb21 hk21
            have y21 := hb21.size
            have z21 := hk21.size; have o21 := hk21.own
            simp only [List.mem_cons, List.not_mem_nil, or_false, forall_eq_or_imp, forall_eq] at o21
            have QC16_21 := QC16_20.kio hk21 (allc (.inl (by omega)) (allc (.inl (by omega)) all0)) ⟨(0, w20.heap.size), by simp, by simp only; omega, by simp only; omega⟩
            have QS18_21 := QS18_20.kio hk21 (allc (.inl (by omega)) (allc (.inl (by omega)) all0)) ⟨(0, w20.heap.size), by simp, by simp only; omega, by simp only; omega⟩
            have P20_21 := P20_20.kio hk21 (allc (.inl (by omega)) (allc (.inl (by omega)) all0)) ⟨(0, w20.heap.size), by simp, by simp only; omega, by simp only; omega⟩
            have F20_21 := F20_20.kio hk21 (allc (.inl (by omega)) (allc (.inl (by omega)) all0)) ⟨(0, w20.heap.size), by simp, by simp only; omega, by simp only; omega⟩
            refine (Choose_l (p := p) P20_21.cells F20_21.cells (lim_small (by assumption)) QC16_21.cells QS18_21.cells (by omega) (by omega) xC xT).mono fun e22 w22 he => ?_
            obtain ⟨aR22, cR22, rfl, hd22, RA22_22⟩ := he
            have hb22 := hb21.trans (hd22.mono hb21.size)
            have z22 := hd22.size
            have QC16_22 := QC16_21.below hd22
            have QS18_22 := QS18_21.below hd22
            have P20_22 := P20_21.below hd22
            have F20_22 := F20_21.below hd22
            refine ⟨_, _, _, _, rfl, .all hd22, ?_⟩
            intro w23 hb23 hk23
            have y23 := hb23.size
            have z23 := hk23.size; have o23 := hk23.own
            simp only [List.mem_cons, List.not_mem_nil, or_false, forall_eq_or_imp, forall_eq] at o23
            have QC16_23 := QC16_22.ko hk23 (allc (.inl (by omega)) (allc (.inl (by omega)) all0))
            have QS18_23 := QS18_22.ko hk23 (allc (.inl (by omega)) (allc (.inl (by omega)) all0))
            have P20_23 := P20_22.ko hk23 (allc (.inl (by omega)) (allc (.inl (by omega)) all0))
            have F20_23 := F20_22.ko hk23 (allc (.inl (by omega)) (allc (.inl (by omega)) all0))
            have RA22_23 := RA22_22.ko hk23 (allc (.inl (by omega)) (allc (.inl (by omega)) all0))
            refine (rChoose_l (p := p) (hp.keep hb23) (hf.keep hb23) (lim_small (by assumption)) (hC.keep hb23) (hT.keep hb23) (by omega) (by omega) xC xT).mono fun e24 w24 he => ?_
            obtain ⟨aR24, cR24, rfl, hd24, RB24_24⟩ := he
            have hb24 := hb23.trans (hd24.mono hb23.size)
            have z24 := hd24.size
            have QC16_24 := QC16_23.below hd24
            have QS18_24 := QS18_23.below hd24
            have P20_24 := P20_23.below hd24
            have F20_24 := F20_23.below hd24
            have RA22_24 := RA22_23.below hd24
            refine ⟨_, _, _, _, rfl, .all hd24, ?_⟩
            intro w25 hb25 hk25
            have y25 := hb25.size
            have z25 := hk25.size; have o25 := hk25.own
            simp only [List.mem_cons, List.not_mem_nil, or_false, forall_eq_or_imp, forall_eq] at o25
            have QC16_25 := QC16_24.ko hk25 (allc (.inl (by omega)) (allc (.inl (by omega)) all0))
            have QS18_25 := QS18_24.ko hk25 (allc (.inl (by omega)) (allc (.inl (by omega)) all0))
            have P20_25 := P20_24.ko hk25 (allc (.inl (by omega)) (allc (.inl (by omega)) all0))
            have F20_25 := F20_24.ko hk25 (allc (.inl (by omega)) (allc (.inl (by omega)) all0))
            have RA22_25 := RA22_24.ko hk25 (allc (.inl (by omega)) (allc (.inl (by omega)) all0))
            have RB24_25 := RB24_24.ko hk25 (allc (.inl (by omega)) (allc (.inl (by omega)) all0))
            refine Pure.calls (same_any QC16_25.cells (hC.keep hb25) (by omega) xC) fun w26 hd26 => ?_
            have hb26 := hb25.trans (hd26.mono hb25.size)
            have z26 := hd26.size
            have QC16_26 := QC16_25.below hd26
            have QS18_26 := QS18_25.below hd26
            have P20_26 := P20_25.below hd26
            have F20_26 := F20_25.below hd26
            have RA22_26 := RA22_25.below hd26
            have RB24_26 := RB24_25.below hd26
            refine ⟨_, rfl, .all hd26, ?_, ?_⟩
            · intro h10 w27 hb27 hk27
              try simp only [] at h10
              have y27 := hb27.size
              have z27 := hk27.size; have o27 := hk27.own
              simp only [List.mem_cons, List.not_mem_nil, or_false, forall_eq_or_imp, forall_eq] at o27
              have QC16_27 := QC16_26.ko hk27 (allc (.inl (by omega)) (allc (.inl (by omega)) all0))
              have QS18_27 := QS18_26.ko hk27 (allc (.inl (by omega)) (allc (.inl (by omega)) all0))
              have P20_27 := P20_26.ko hk27 (allc (.inl (by omega)) (allc (.inl (by omega)) all0))
              have F20_27 := F20_26.ko hk27 (allc (.inl (by omega)) (allc (.inl (by omega)) all0))
              have RA22_27 := RA22_26.ko hk27 (allc (.inl (by omega)) (allc (.inl (by omega)) all0))
              have RB24_27 := RB24_26.ko hk27 (allc (.inl (by omega)) (allc (.inl (by omega)) all0))
              refine Pure.calls (same_any QS18_27.cells (hT.keep hb27) (by omega) xT) fun w28 hd28 => ?_
              have hb28 := hb27.trans (hd28.mono hb27.size)
              have z28 := hd28.size
              have QC16_28 := QC16_27.below hd28
              have QS18_28 := QS18_27.below hd28
              have P20_28 := P20_27.below hd28
              have F20_28 := F20_27.below hd28
              have RA22_28 := RA22_27.below hd28
              have RB24_28 := RB24_27.below hd28
              refine ⟨_, rfl, .all hd28, ?_, ?_⟩
              · intro h11
                try simp only [] at h11
                refine ⟨?_, ?_⟩
                · intro h12 w29 hb29 hk29
                  try simp only [] at h12
                  have y29 := hb29.size
                  have z29 := hk29.size; have o29 := hk29.own
                  simp only [List.mem_cons, List.not_mem_nil, or_false, forall_eq_or_imp, forall_eq] at o29
                  have QC16_29 := QC16_28.ko hk29 (allc (.inl (by omega)) (allc (.inl (by omega)) all0))
                  have QS18_29 := QS18_28.ko hk29 (allc (.inl (by omega)) (allc (.inl (by omega)) all0))
                  have P20_29 := P20_28.ko hk29 (allc (.inl (by omega)) (allc (.inl (by omega)) all0))
                  have F20_29 := F20_28.ko hk29 (allc (.inl (by omega)) (allc (.inl (by omega)) all0))
                  have RA22_29 := RA22_28.ko hk29 (allc (.inl (by omega)) (allc (.inl (by omega)) all0))
                  have RB24_29 := RB24_28.ko hk29 (allc (.inl (by omega)) (allc (.inl (by omega)) all0))
                  refine Pure.calls (Ints_any RA22_29.cells RB24_29.cells (by omega)) fun w30 hd30 => ?_
                  have hb30 := hb29.trans (hd30.mono hb29.size)
                  have z30 := hd30.size
                  have QC16_30 := QC16_29.below hd30
                  have QS18_30 := QS18_29.below hd30
                  have P20_30 := P20_29.below hd30
                  have F20_30 := F20_29.below hd30
                  have RA22_30 := RA22_29.below hd30
                  have RB24_30 := RB24_29.below hd30
                  refine ⟨_, rfl, .all hd30, ?_, ?_⟩
                  · intro h13 w31 hb31 hk31
                    try simp only [] at h13
                    have y31 := hb31.size
                    have z31 := hk31.size; have o31 := hk31.own
                    simp only [List.mem_cons, List.not_mem_nil, or_false, forall_eq_or_imp, forall_eq] at o31
                    have QC16_31 := QC16_30.ko hk31 (allc (.inl (by omega)) (allc (.inl (by omega)) all0))
                    have QS18_31 := QS18_30.ko hk31 (allc (.inl (by omega)) (allc (.inl (by omega)) all0))
                    have P20_31 := P20_30.ko hk31 (allc (.inl (by omega)) (allc (.inl (by omega)) all0))
                    have F20_31 := F20_30.ko hk31 (allc (.inl (by omega)) (allc (.inl (by omega)) all0))
                    have RA22_31 := RA22_30.ko hk31 (allc (.inl (by omega)) (allc (.inl (by omega)) all0))
                    have RB24_31 := RB24_30.ko hk31 (allc (.inl (by omega)) (allc (.inl (by omega)) all0))
                    refine Pure.calls (known_any) fun w32 hd32 => ?_
                    have hb32 := hb31.trans (hd32.mono hb31.size)
                    have z32 := hd32.size
                    have QC16_32 := QC16_31.below hd32
                    have QS18_32 := QS18_31.below hd32
                    have P20_32 := P20_31.below hd32
                    have F20_32 := F20_31.below hd32
                    have RA22_32 := RA22_31.below hd32
                    have RB24_32 := RB24_31.below hd32
                    refine ⟨_, rfl, .all hd32, ?_⟩
                    intro w33 hb33 hk33
                    have y33 := hb33.size
                    have z33 := hk33.size; have o33 := hk33.own
                    simp only [List.mem_cons, List.not_mem_nil, or_false, forall_eq_or_imp, forall_eq] at o33
                    have QC16_33 := QC16_32.ko hk33 (allc (.inl (by omega)) (allc (.inl (by omega)) all0))
                    have QS18_33 := QS18_32.ko hk33 (allc (.inl (by omega)) (allc (.inl (by omega)) all0))
                    have P20_33 := P20_32.ko hk33 (allc (.inl (by omega)) (allc (.inl (by omega)) all0))
                    have F20_33 := F20_32.ko hk33 (allc (.inl (by omega)) (allc (.inl (by omega)) all0))
                    have RA22_33 := RA22_32.ko hk33 (allc (.inl (by omega)) (allc (.inl (by omega)) all0))
                    have RB24_33 := RB24_32.ko hk33 (allc (.inl (by omega)) (allc (.inl (by omega)) all0))
                    exact ⟨by first | rfl | exact absurd rfl (by assumption) | (exfalso; simp_all; done), hb33⟩
                  · intro h14 w34 hb34 hk34
                    try simp only [Bool.not_eq_true', Bool.not_eq_false', decide_eq_true_eq, decide_eq_false_iff_not] at h14
                    have y34 := hb34.size
                    have z34 := hk34.size; have o34 := hk34.own
                    simp only [List.mem_cons, List.not_mem_nil, or_false, forall_eq_or_imp, forall_eq] at o34
                    have QC16_34 := QC16_30.ko hk34 (allc (.inl (by omega)) (allc (.inl (by omega)) all0))
                    have QS18_34 := QS18_30.ko hk34 (allc (.inl (by omega)) (allc (.inl (by omega)) all0))
                    have P20_34 := P20_30.ko hk34 (allc (.inl (by omega)) (allc (.inl (by omega)) all0))
                    have F20_34 := F20_30.ko hk34 (allc (.inl (by omega)) (allc (.inl (by omega)) all0))
                    have RA22_34 := RA22_30.ko hk34 (allc (.inl (by omega)) (allc (.inl (by omega)) all0))
                    have RB24_34 := RB24_30.ko hk34 (allc (.inl (by omega)) (allc (.inl (by omega)) all0))
                    exact ⟨by first | rfl | exact absurd rfl (by assumption) | (exfalso; simp_all; done), hb34⟩
                · intro h15 w35 hb35 hk35
                  try simp only [Bool.not_eq_true', Bool.not_eq_false', decide_eq_true_eq, decide_eq_false_iff_not] at h15
                  have y35 := hb35.size
                  have z35 := hk35.size; have o35 := hk35.own
                  simp only [List.mem_cons, List.not_mem_nil, or_false, forall_eq_or_imp, forall_eq] at o35
                  have QC16_35 := QC16_28.ko hk35 (allc (.inl (by omega)) (allc (.inl (by omega)) all0))
                  have QS18_35 := QS18_28.ko hk35 (allc (.inl (by omega)) (allc (.inl (by omega)) all0))
                  have P20_35 := P20_28.ko hk35 (allc (.inl (by omega)) (allc (.inl (by omega)) all0))
                  have F20_35 := F20_28.ko hk35 (allc (.inl (by omega)) (allc (.inl (by omega)) all0))
                  have RA22_35 := RA22_28.ko hk35 (allc (.inl (by omega)) (allc (.inl (by omega)) all0))
                  have RB24_35 := RB24_28.ko hk35 (allc (.inl (by omega)) (allc (.inl (by omega)) all0))
                  exact ⟨by first | rfl | exact absurd rfl (by assumption) | (exfalso; simp_all; done), hb35⟩
              · intro h16 w36 hb36 hk36
                try simp only [Bool.not_eq_true', Bool.not_eq_false', decide_eq_true_eq, decide_eq_false_iff_not] at h16
                have y36 := hb36.size
                have z36 := hk36.size; have o36 := hk36.own
                simp only [List.mem_cons, List.not_mem_nil, or_false, forall_eq_or_imp, forall_eq] at o36
                have QC16_36 := QC16_28.ko hk36 (allc (.inl (by omega)) (allc (.inl (by omega)) all0))
                have QS18_36 := QS18_28.ko hk36 (allc (.inl (by omega)) (allc (.inl (by omega)) all0))
                have P20_36 := P20_28.ko hk36 (allc (.inl (by omega)) (allc (.inl (by omega)) all0))
                have F20_36 := F20_28.ko hk36 (allc (.inl (by omega)) (allc (.inl (by omega)) all0))
                have RA22_36 := RA22_28.ko hk36 (allc (.inl (by omega)) (allc (.inl (by omega)) all0))
                have RB24_36 := RB24_28.ko hk36 (allc (.inl (by omega)) (allc (.inl (by omega)) all0))
                exact ⟨by first | rfl | exact absurd rfl (by assumption) | (exfalso; simp_all; done), hb36⟩
            · intro h17 w37 hb37 hk37
              try simp only [Bool.not_eq_true', Bool.not_eq_false', decide_eq_true_eq, decide_eq_false_iff_not] at h17
              have y37 := hb37.size
              have z37 := hk37.size; have o37 := hk37.own
              simp only [List.mem_cons, List.not_mem_nil, or_false, forall_eq_or_imp, forall_eq] at o37
              have QC16_37 := QC16_26.ko hk37 (allc (.inl (by omega)) (allc (.inl (by omega)) all0))
              have QS18_37 := QS18_26.ko hk37 (allc (.inl (by omega)) (allc (.inl (by omega)) all0))
              have P20_37 := P20_26.ko hk37 (allc (.inl (by omega)) (allc (.inl (by omega)) all0))
              have F20_37 := F20_26.ko hk37 (allc (.inl (by omega)) (allc (.inl (by omega)) all0))
              have RA22_37 := RA22_26.ko hk37 (allc (.inl (by omega)) (allc (.inl (by omega)) all0))
              have RB24_37 := RB24_26.ko hk37 (allc (.inl (by omega)) (allc (.inl (by omega)) all0))
              exact ⟨by first | rfl | exact absurd rfl (by assumption) | (exfalso; simp_all; done), hb37⟩
      · intro h18
        try simp only [Bool.not_eq_true', Bool.not_eq_false', decide_eq_true_eq, decide_eq_false_iff_not] at h18
        refine ⟨?_, ?_⟩
        · intro h19 w38 hb38 hk38
          try simp only [Bool.not_eq_true', Bool.not_eq_false', decide_eq_true_eq, decide_eq_false_iff_not] at h19
          have y38 := hb38.size
          have z38 := hk38.size; have o38 := hk38.own
          simp only [List.mem_cons, List.not_mem_nil, or_false, forall_eq_or_imp, forall_eq] at o38
          refine Pure.calls (known_any) fun w39 hd39 => ?_
          have hb39 := hb38.trans (hd39.mono hb38.size)
          refine ⟨_, rfl, .all hd39, ?_⟩
          intro w40 hb40 hk40
          have y40 := hb40.size
          have z40 := hk40.size; have o40 := hk40.own
          simp only [List.mem_cons, List.not_mem_nil, or_false, forall_eq_or_imp, forall_eq] at o40
          exact ⟨by first | rfl | exact absurd rfl (by assumption) | (exfalso; simp_all; done), hb40⟩
        · intro h20 w41 hb41 hk41
          try simp only [Bool.not_eq_true', Bool.not_eq_false', decide_eq_true_eq, decide_eq_false_iff_not] at h20
          have y41 := hb41.size
          have z41 := hk41.size; have o41 := hk41.own
          simp only [List.mem_cons, List.not_mem_nil, or_false, forall_eq_or_imp, forall_eq] at o41
          refine (pieces_l (hC.keep hb41) (by omega) xC).mono fun e42 w42 he => ?_
          obtain ⟨aQ42, cQ42, rfl, hd42, QC42_42⟩ := he
          have hb42 := hb41.trans (hd42.mono hb41.size)
          have z42 := hd42.size
          refine ⟨_, _, _, rfl, .all hd42, ?_⟩
          intro w43 hb43 hk43
          have y43 := hb43.size
          have z43 := hk43.size; have o43 := hk43.own
          simp only [List.mem_cons, List.not_mem_nil, or_false, forall_eq_or_imp, forall_eq] at o43
          have QC42_43 := QC42_42.kio hk43 (allc (.inl (by omega)) (allc (.inl (by omega)) all0)) ⟨(0, w42.heap.size), by simp, by simp only; omega, by simp only; omega⟩
          refine (pieces_l (hT.keep hb43) (by omega) xT).mono fun e44 w44 he => ?_
          obtain ⟨aQ44, cQ44, rfl, hd44, QS44_44⟩ := he
          have hb44 := hb43.trans (hd44.mono hb43.size)
          have z44 := hd44.size
          have QC42_44 := QC42_43.below hd44
          refine ⟨_, _, _, rfl, .all hd44, ?_⟩
          intro w45 hb45 hk45
          have y45 := hb45.size
          have z45 := hk45.size; have o45 := hk45.own
          simp only [List.mem_cons, List.not_mem_nil, or_false, forall_eq_or_imp, forall_eq] at o45
          have QC42_45 := QC42_44.kio hk45 (allc (.inl (by omega)) (allc (.inl (by omega)) all0)) ⟨(0, w44.heap.size), by simp, by simp only; omega, by simp only; omega⟩
          have QS44_45 := QS44_44.kio hk45 (allc (.inl (by omega)) (allc (.inl (by omega)) all0)) ⟨(0, w44.heap.size), by simp, by simp only; omega, by simp only; omega⟩
          refine (works_l (hp.keep hb45) (hf.keep hb45) (lim_small (by assumption))).mono fun e46 w46 he => ?_
          obtain ⟨paN46, pcN46, faN46, fcN46, rfl, hd46, P46_46, F46_46⟩ := he
          have hb46 := hb45.trans (hd46.mono hb45.size)
          have z46 := hd46.size
          have QC42_46 := QC42_45.below hd46
          have QS44_46 := QS44_45.below hd46
          refine ⟨_, _, _, _, _, _, rfl, .all hd46, ?_⟩
          intro w47 hb47 hk47
          have y47 := hb47.size
          have z47 := hk47.size; have o47 := hk47.own
          simp only [List.mem_cons, List.not_mem_nil, or_false, forall_eq_or_imp, forall_eq] at o47
          have QC42_47 := QC42_46.kio hk47 (allc (.inl (by omega)) (allc (.inl (by omega)) all0)) ⟨(0, w46.heap.size), by simp, by simp only; omega, by simp only; omega⟩
          have QS44_47 := QS44_46.kio hk47 (allc (.inl (by omega)) (allc (.inl (by omega)) all0)) ⟨(0, w46.heap.size), by simp, by simp only; omega, by simp only; omega⟩
          have P46_47 := P46_46.kio hk47 (allc (.inl (by omega)) (allc (.inl (by omega)) all0)) ⟨(0, w46.heap.size), by simp, by simp only; omega, by simp only; omega⟩
          have F46_47 := F46_46.kio hk47 (allc (.inl (by omega)) (allc (.inl (by omega)) all0)) ⟨(0, w46.heap.size), by simp, by simp only; omega, by simp only; omega⟩
          refine (Choose_l (p := p) P46_47.cells F46_47.cells (lim_small (by assumption)) QC42_47.cells QS44_47.cells (by omega) (by omega) xC xT).mono fun e48 w48 he => ?_
          obtain ⟨aR48, cR48, rfl, hd48, RA48_48⟩ := he
          have hb48 := hb47.trans (hd48.mono hb47.size)
          have z48 := hd48.size
          have QC42_48 := QC42_47.below hd48
          have QS44_48 := QS44_47.below hd48
          have P46_48 := P46_47.below hd48
          have F46_48 := F46_47.below hd48
          refine ⟨_, _, _, _, rfl, .all hd48, ?_⟩
          intro w49 hb49 hk49
          have y49 := hb49.size
          have z49 := hk49.size; have o49 := hk49.own
          simp only [List.mem_cons, List.not_mem_nil, or_false, forall_eq_or_imp, forall_eq] at o49
          have QC42_49 := QC42_48.ko hk49 (allc (.inl (by omega)) (allc (.inl (by omega)) all0))
          have QS44_49 := QS44_48.ko hk49 (allc (.inl (by omega)) (allc (.inl (by omega)) all0))
          have P46_49 := P46_48.ko hk49 (allc (.inl (by omega)) (allc (.inl (by omega)) all0))
          have F46_49 := F46_48.ko hk49 (allc (.inl (by omega)) (allc (.inl (by omega)) all0))
          have RA48_49 := RA48_48.ko hk49 (allc (.inl (by omega)) (allc (.inl (by omega)) all0))
          refine (rChoose_l (p := p) (hp.keep hb49) (hf.keep hb49) (lim_small (by assumption)) (hC.keep hb49) (hT.keep hb49) (by omega) (by omega) xC xT).mono fun e50 w50 he => ?_
          obtain ⟨aR50, cR50, rfl, hd50, RB50_50⟩ := he
          have hb50 := hb49.trans (hd50.mono hb49.size)
          have z50 := hd50.size
          have QC42_50 := QC42_49.below hd50
          have QS44_50 := QS44_49.below hd50
          have P46_50 := P46_49.below hd50
          have F46_50 := F46_49.below hd50
          have RA48_50 := RA48_49.below hd50
          refine ⟨_, _, _, _, rfl, .all hd50, ?_⟩
          intro w51 hb51 hk51
          have y51 := hb51.size
          have z51 := hk51.size; have o51 := hk51.own
          simp only [List.mem_cons, List.not_mem_nil, or_false, forall_eq_or_imp, forall_eq] at o51
          have QC42_51 := QC42_50.ko hk51 (allc (.inl (by omega)) (allc (.inl (by omega)) all0))
          have QS44_51 := QS44_50.ko hk51 (allc (.inl (by omega)) (allc (.inl (by omega)) all0))
          have P46_51 := P46_50.ko hk51 (allc (.inl (by omega)) (allc (.inl (by omega)) all0))
          have F46_51 := F46_50.ko hk51 (allc (.inl (by omega)) (allc (.inl (by omega)) all0))
          have RA48_51 := RA48_50.ko hk51 (allc (.inl (by omega)) (allc (.inl (by omega)) all0))
          have RB50_51 := RB50_50.ko hk51 (allc (.inl (by omega)) (allc (.inl (by omega)) all0))
          refine Pure.calls (same_any QC42_51.cells (hC.keep hb51) (by omega) xC) fun w52 hd52 => ?_
          have hb52 := hb51.trans (hd52.mono hb51.size)
          have z52 := hd52.size
          have QC42_52 := QC42_51.below hd52
          have QS44_52 := QS44_51.below hd52
          have P46_52 := P46_51.below hd52
          have F46_52 := F46_51.below hd52
          have RA48_52 := RA48_51.below hd52
          have RB50_52 := RB50_51.below hd52
          refine ⟨_, rfl, .all hd52, ?_, ?_⟩
          · intro h21 w53 hb53 hk53
            try simp only [] at h21
            have y53 := hb53.size
            have z53 := hk53.size; have o53 := hk53.own
            simp only [List.mem_cons, List.not_mem_nil, or_false, forall_eq_or_imp, forall_eq] at o53
            have QC42_53 := QC42_52.ko hk53 (allc (.inl (by omega)) (allc (.inl (by omega)) all0))
            have QS44_53 := QS44_52.ko hk53 (allc (.inl (by omega)) (allc (.inl (by omega)) all0))
            have P46_53 := P46_52.ko hk53 (allc (.inl (by omega)) (allc (.inl (by omega)) all0))
            have F46_53 := F46_52.ko hk53 (allc (.inl (by omega)) (allc (.inl (by omega)) all0))
            have RA48_53 := RA48_52.ko hk53 (allc (.inl (by omega)) (allc (.inl (by omega)) all0))
            have RB50_53 := RB50_52.ko hk53 (allc (.inl (by omega)) (allc (.inl (by omega)) all0))
            refine Pure.calls (same_any QS44_53.cells (hT.keep hb53) (by omega) xT) fun w54 hd54 => ?_
            have hb54 := hb53.trans (hd54.mono hb53.size)
            have z54 := hd54.size
            have QC42_54 := QC42_53.below hd54
            have QS44_54 := QS44_53.below hd54
            have P46_54 := P46_53.below hd54
            have F46_54 := F46_53.below hd54
            have RA48_54 := RA48_53.below hd54
            have RB50_54 := RB50_53.below hd54
            refine ⟨_, rfl, .all hd54, ?_, ?_⟩
            · intro h22
              try simp only [] at h22
              refine ⟨?_, ?_⟩
              · intro h23 w55 hb55 hk55
                try simp only [] at h23
                have y55 := hb55.size
                have z55 := hk55.size; have o55 := hk55.own
                simp only [List.mem_cons, List.not_mem_nil, or_false, forall_eq_or_imp, forall_eq] at o55
                have QC42_55 := QC42_54.ko hk55 (allc (.inl (by omega)) (allc (.inl (by omega)) all0))
                have QS44_55 := QS44_54.ko hk55 (allc (.inl (by omega)) (allc (.inl (by omega)) all0))
                have P46_55 := P46_54.ko hk55 (allc (.inl (by omega)) (allc (.inl (by omega)) all0))
                have F46_55 := F46_54.ko hk55 (allc (.inl (by omega)) (allc (.inl (by omega)) all0))
                have RA48_55 := RA48_54.ko hk55 (allc (.inl (by omega)) (allc (.inl (by omega)) all0))
                have RB50_55 := RB50_54.ko hk55 (allc (.inl (by omega)) (allc (.inl (by omega)) all0))
                refine Pure.calls (Ints_any RA48_55.cells RB50_55.cells (by omega)) fun w56 hd56 => ?_
                have hb56 := hb55.trans (hd56.mono hb55.size)
                have z56 := hd56.size
                have QC42_56 := QC42_55.below hd56
                have QS44_56 := QS44_55.below hd56
                have P46_56 := P46_55.below hd56
                have F46_56 := F46_55.below hd56
                have RA48_56 := RA48_55.below hd56
                have RB50_56 := RB50_55.below hd56
                refine ⟨_, rfl, .all hd56, ?_, ?_⟩
                · intro h24 w57 hb57 hk57
                  try simp only [] at h24
                  have y57 := hb57.size
                  have z57 := hk57.size; have o57 := hk57.own
                  simp only [List.mem_cons, List.not_mem_nil, or_false, forall_eq_or_imp, forall_eq] at o57
                  have QC42_57 := QC42_56.ko hk57 (allc (.inl (by omega)) (allc (.inl (by omega)) all0))
                  have QS44_57 := QS44_56.ko hk57 (allc (.inl (by omega)) (allc (.inl (by omega)) all0))
                  have P46_57 := P46_56.ko hk57 (allc (.inl (by omega)) (allc (.inl (by omega)) all0))
                  have F46_57 := F46_56.ko hk57 (allc (.inl (by omega)) (allc (.inl (by omega)) all0))
                  have RA48_57 := RA48_56.ko hk57 (allc (.inl (by omega)) (allc (.inl (by omega)) all0))
                  have RB50_57 := RB50_56.ko hk57 (allc (.inl (by omega)) (allc (.inl (by omega)) all0))
                  refine Pure.calls (known_any) fun w58 hd58 => ?_
                  have hb58 := hb57.trans (hd58.mono hb57.size)
                  have z58 := hd58.size
                  have QC42_58 := QC42_57.below hd58
                  have QS44_58 := QS44_57.below hd58
                  have P46_58 := P46_57.below hd58
                  have F46_58 := F46_57.below hd58
                  have RA48_58 := RA48_57.below hd58
                  have RB50_58 := RB50_57.below hd58
                  refine ⟨_, rfl, .all hd58, ?_⟩
                  intro w59 hb59 hk59
                  have y59 := hb59.size
                  have z59 := hk59.size; have o59 := hk59.own
                  simp only [List.mem_cons, List.not_mem_nil, or_false, forall_eq_or_imp, forall_eq] at o59
                  have QC42_59 := QC42_58.ko hk59 (allc (.inl (by omega)) (allc (.inl (by omega)) all0))
                  have QS44_59 := QS44_58.ko hk59 (allc (.inl (by omega)) (allc (.inl (by omega)) all0))
                  have P46_59 := P46_58.ko hk59 (allc (.inl (by omega)) (allc (.inl (by omega)) all0))
                  have F46_59 := F46_58.ko hk59 (allc (.inl (by omega)) (allc (.inl (by omega)) all0))
                  have RA48_59 := RA48_58.ko hk59 (allc (.inl (by omega)) (allc (.inl (by omega)) all0))
                  have RB50_59 := RB50_58.ko hk59 (allc (.inl (by omega)) (allc (.inl (by omega)) all0))
                  exact ⟨by first | rfl | exact absurd rfl (by assumption) | (exfalso; simp_all; done), hb59⟩
                · intro h25 w60 hb60 hk60
                  try simp only [Bool.not_eq_true', Bool.not_eq_false', decide_eq_true_eq, decide_eq_false_iff_not] at h25
                  have y60 := hb60.size
                  have z60 := hk60.size; have o60 := hk60.own
                  simp only [List.mem_cons, List.not_mem_nil, or_false, forall_eq_or_imp, forall_eq] at o60
                  have QC42_60 := QC42_56.ko hk60 (allc (.inl (by omega)) (allc (.inl (by omega)) all0))
                  have QS44_60 := QS44_56.ko hk60 (allc (.inl (by omega)) (allc (.inl (by omega)) all0))
                  have P46_60 := P46_56.ko hk60 (allc (.inl (by omega)) (allc (.inl (by omega)) all0))
                  have F46_60 := F46_56.ko hk60 (allc (.inl (by omega)) (allc (.inl (by omega)) all0))
                  have RA48_60 := RA48_56.ko hk60 (allc (.inl (by omega)) (allc (.inl (by omega)) all0))
                  have RB50_60 := RB50_56.ko hk60 (allc (.inl (by omega)) (allc (.inl (by omega)) all0))
                  exact ⟨by first | rfl | exact absurd rfl (by assumption) | (exfalso; simp_all; done), hb60⟩
              · intro h26 w61 hb61 hk61
                try simp only [Bool.not_eq_true', Bool.not_eq_false', decide_eq_true_eq, decide_eq_false_iff_not] at h26
                have y61 := hb61.size
                have z61 := hk61.size; have o61 := hk61.own
                simp only [List.mem_cons, List.not_mem_nil, or_false, forall_eq_or_imp, forall_eq] at o61
                have QC42_61 := QC42_54.ko hk61 (allc (.inl (by omega)) (allc (.inl (by omega)) all0))
                have QS44_61 := QS44_54.ko hk61 (allc (.inl (by omega)) (allc (.inl (by omega)) all0))
                have P46_61 := P46_54.ko hk61 (allc (.inl (by omega)) (allc (.inl (by omega)) all0))
                have F46_61 := F46_54.ko hk61 (allc (.inl (by omega)) (allc (.inl (by omega)) all0))
                have RA48_61 := RA48_54.ko hk61 (allc (.inl (by omega)) (allc (.inl (by omega)) all0))
                have RB50_61 := RB50_54.ko hk61 (allc (.inl (by omega)) (allc (.inl (by omega)) all0))
                exact ⟨by first | rfl | exact absurd rfl (by assumption) | (exfalso; simp_all; done), hb61⟩
            · intro h27 w62 hb62 hk62
              try simp only [Bool.not_eq_true', Bool.not_eq_false', decide_eq_true_eq, decide_eq_false_iff_not] at h27
              have y62 := hb62.size
              have z62 := hk62.size; have o62 := hk62.own
              simp only [List.mem_cons, List.not_mem_nil, or_false, forall_eq_or_imp, forall_eq] at o62
              have QC42_62 := QC42_54.ko hk62 (allc (.inl (by omega)) (allc (.inl (by omega)) all0))
              have QS44_62 := QS44_54.ko hk62 (allc (.inl (by omega)) (allc (.inl (by omega)) all0))
              have P46_62 := P46_54.ko hk62 (allc (.inl (by omega)) (allc (.inl (by omega)) all0))
              have F46_62 := F46_54.ko hk62 (allc (.inl (by omega)) (allc (.inl (by omega)) all0))
              have RA48_62 := RA48_54.ko hk62 (allc (.inl (by omega)) (allc (.inl (by omega)) all0))
              have RB50_62 := RB50_54.ko hk62 (allc (.inl (by omega)) (allc (.inl (by omega)) all0))
              exact ⟨by first | rfl | exact absurd rfl (by assumption) | (exfalso; simp_all; done), hb62⟩
          · intro h28 w63 hb63 hk63
            try simp only [Bool.not_eq_true', Bool.not_eq_false', decide_eq_true_eq, decide_eq_false_iff_not] at h28
            have y63 := hb63.size
            have z63 := hk63.size; have o63 := hk63.own
            simp only [List.mem_cons, List.not_mem_nil, or_false, forall_eq_or_imp, forall_eq] at o63
            have QC42_63 := QC42_52.ko hk63 (allc (.inl (by omega)) (allc (.inl (by omega)) all0))
            have QS44_63 := QS44_52.ko hk63 (allc (.inl (by omega)) (allc (.inl (by omega)) all0))
            have P46_63 := P46_52.ko hk63 (allc (.inl (by omega)) (allc (.inl (by omega)) all0))
            have F46_63 := F46_52.ko hk63 (allc (.inl (by omega)) (allc (.inl (by omega)) all0))
            have RA48_63 := RA48_52.ko hk63 (allc (.inl (by omega)) (allc (.inl (by omega)) all0))
            have RB50_63 := RB50_52.ko hk63 (allc (.inl (by omega)) (allc (.inl (by omega)) all0))
            exact ⟨by first | rfl | exact absurd rfl (by assumption) | (exfalso; simp_all; done), hb63⟩
end Go.Proofs.R12
end
