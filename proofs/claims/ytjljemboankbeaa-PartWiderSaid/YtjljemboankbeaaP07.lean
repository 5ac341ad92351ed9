/- Part 7: own lemmas, and the conditions of the functions. -/
import Derived.Test.YtjljemboankbeaaP06
section
/- The law PartWider, walked. -/
namespace Go.Proofs.R12
open Go.Vc Go.RowKit Go.Proofs
theorem tdiv3 {x : Int} (h : 0 ≤ x ∧ x ≤ 255) : 0 ≤ x.tdiv 3 ∧ x.tdiv 3 ≤ 255 := by
  rw [Int.tdiv_eq_ediv_of_nonneg h.1]; omega
theorem WidF.put2 {W : Wk} {fs : List Fit} {a b : Int} {k : Nat} (h : WidF W fs a b k) (hk : k < fs.length) : WidF W ((fs.set k ⟨(fs.getD k fit00).hole, (fs.getD k fit00).hs, (fs.getD k fit00).shaft, (fs.getD k fit00).ss, ((fs.getD k fit00).gap.1, (fs.getD k fit00).gap.2 + a)⟩).set k ⟨((fs.set k ⟨(fs.getD k fit00).hole, (fs.getD k fit00).hs, (fs.getD k fit00).shaft, (fs.getD k fit00).ss, ((fs.getD k fit00).gap.1, (fs.getD k fit00).gap.2 + a)⟩).getD k fit00).hole, ((fs.set k ⟨(fs.getD k fit00).hole, (fs.getD k fit00).hs, (fs.getD k fit00).shaft, (fs.getD k fit00).ss, ((fs.getD k fit00).gap.1, (fs.getD k fit00).gap.2 + a)⟩).getD k fit00).hs, ((fs.set k ⟨(fs.getD k fit00).hole, (fs.getD k fit00).hs, (fs.getD k fit00).shaft, (fs.getD k fit00).ss, ((fs.getD k fit00).gap.1, (fs.getD k fit00).gap.2 + a)⟩).getD k fit00).shaft, ((fs.set k ⟨(fs.getD k fit00).hole, (fs.getD k fit00).hs, (fs.getD k fit00).shaft, (fs.getD k fit00).ss, ((fs.getD k fit00).gap.1, (fs.getD k fit00).gap.2 + a)⟩).getD k fit00).ss, (((fs.set k ⟨(fs.getD k fit00).hole, (fs.getD k fit00).hs, (fs.getD k fit00).shaft, (fs.getD k fit00).ss, ((fs.getD k fit00).gap.1, (fs.getD k fit00).gap.2 + a)⟩).getD k fit00).gap.1 - b, ((fs.set k ⟨(fs.getD k fit00).hole, (fs.getD k fit00).hs, (fs.getD k fit00).shaft, (fs.getD k fit00).ss, ((fs.getD k fit00).gap.1, (fs.getD k fit00).gap.2 + a)⟩).getD k fit00).gap.2)⟩) a b (k + 1) := by
  rw [set_getD hk, if_pos rfl, List.set_set]
  have := h.put hk
  rw [← h.e k (Nat.le_refl _)] at this
  exact this
set_option maxRecDepth 100000 in
set_option maxHeartbeats 8000000 in
theorem law12 {w : World} {T U : List (Int × Int × Int × Int)} {l : List Int} {x0a x1a p1bya : Option Addr} {x0c x1c p1byc : Nat} {which : Int} (hT0 : Cells w x0a (quadsV T)) (hU0 : Cells w x1a (quadsV U)) (hT : ∀ t ∈ T, ByteQ t) (hU : ∀ t ∈ U, ByteQ t) (hc : Cells w p1bya (u8s l)) (hl : ∀ x ∈ l, 0 ≤ x ∧ x ≤ 255) (hwh : 0 ≤ which ∧ which ≤ 255) : Calls Try.prog 12 #[.agg #[.slice x0a T.length x0c, .slice x1a U.length x1c], .slice p1bya l.length p1byc, .int .u8 which] w (Pure w (.bool true)) := by
  refine vc12 _ _ _ _ _ _ _ _ _ _ w _ ?_
  intro m1 g_m1 w1 hb1 hk1
  have y1 := hb1.size
  have z1 := hk1.size; have o1 := hk1.own
  simp only [List.mem_cons, List.not_mem_nil, or_false, forall_eq] at o1
  refine (shop_l (hT0.keep hb1) (hU0.keep hb1) hT hU).mono fun e2 w2 he => ?_
  obtain ⟨W, pa, fa, pc, fc, rfl, hd2, hW, LP_2, LF_2⟩ := he
  have hb2 := hb1.trans (hd2.mono hb1.size)
  have z2 := hd2.size
  have hWn := hW.n
  have hWm := hW.m
  refine ⟨_, _, _, _, _, _, rfl, .all hd2, ?_⟩
  intro m7 g_m7 w3 hb3 hk3
  have y3 := hb3.size
  have z3 := hk3.size; have o3 := hk3.own
  simp only [List.mem_cons, List.not_mem_nil, or_false, forall_eq_or_imp, forall_eq] at o3
  have LP_3 := LP_2.ko hk3 (allc (by omega) (allc (by omega) all0))
  have LF_3 := LF_2.ko hk3 (allc (by omega) (allc (by omega) all0))
  refine (works_l LP_3.cells LF_3.cells hW.small).mono fun e4 w4 he => ?_
  obtain ⟨pa1, pc1, fa1, fc1, rfl, hd4, LV4_4, LU4_4⟩ := he
  have hb4 := hb3.trans (hd4.mono hb3.size)
  have z4 := hd4.size
  have LP_4 := LP_3.below hd4
  have LF_4 := LF_3.below hd4
  refine ⟨_, _, _, _, _, _, rfl, .all hd4, ?_⟩
  intro w5 hb5 hk5
  have y5 := hb5.size
  have z5 := hk5.size; have o5 := hk5.own
  simp only [List.mem_cons, List.not_mem_nil, or_false, forall_eq_or_imp, forall_eq] at o5
  have LP_5 := LP_4.ko hk5 (allc (by omega) (allc (by omega) all0))
  have LF_5 := LF_4.ko hk5 (allc (by omega) (allc (by omega) all0))
  have LV4_5 := LV4_4.ko hk5 (allc (by omega) (allc (by omega) all0))
  have LU4_5 := LU4_4.ko hk5 (allc (by omega) (allc (by omega) all0))
  refine (loose_p LV4_5.cells LU4_5.cells hW).mono fun e6 w6 he => ?_
  obtain ⟨ga, gc, rfl, hd6, LG_6⟩ := he
  have hb6 := hb5.trans (hd6.mono hb5.size)
  have z6 := hd6.size
  have LP_6 := LP_5.below hd6
  have LF_6 := LF_5.below hd6
  have LV4_6 := LV4_5.below hd6
  have LU4_6 := LU4_5.below hd6
  refine ⟨_, _, _, _, rfl, .all hd6, ?_⟩
  intro w7 hb7 hk7
  have y7 := hb7.size
  have z7 := hk7.size; have o7 := hk7.own
  simp only [List.mem_cons, List.not_mem_nil, or_false, forall_eq_or_imp, forall_eq] at o7
  have LP_7 := LP_6.kio hk7 (allc (by omega) (allc (by omega) all0)) ⟨(0, w6.heap.size), by simp, by simp only; omega, by simp only; omega⟩
  have LF_7 := LF_6.kio hk7 (allc (by omega) (allc (by omega) all0)) ⟨(0, w6.heap.size), by simp, by simp only; omega, by simp only; omega⟩
  have LV4_7 := LV4_6.kio hk7 (allc (by omega) (allc (by omega) all0)) ⟨(0, w6.heap.size), by simp, by simp only; omega, by simp only; omega⟩
  have LU4_7 := LU4_6.kio hk7 (allc (by omega) (allc (by omega) all0)) ⟨(0, w6.heap.size), by simp, by simp only; omega, by simp only; omega⟩
  have LG_7 := LG_6.kio hk7 (allc (by omega) (allc (by omega) all0)) ⟨(0, w6.heap.size), by simp, by simp only; omega, by simp only; omega⟩
  refine (works_d LP_7.cells LF_7.cells hW).mono fun e8 w8 he => ?_
  obtain ⟨pa2, pc2, fa2, fc2, xs0, mid, rfl, hd8, ⟨hxs0, hmid, PD_8⟩, F7_8⟩ := he
  have hb8 := hb7.trans (hd8.mono hb7.size)
  have z8 := hd8.size
  have LP_8 := LP_7.below hd8
  have LF_8 := LF_7.below hd8
  have LV4_8 := LV4_7.below hd8
  have LU4_8 := LU4_7.below hd8
  have LG_8 := LG_7.below hd8
  refine ⟨_, _, _, _, _, _, rfl, hd8, ?_⟩
  intro w9 hb9 hk9
  have y9 := hb9.size
  have z9 := hk9.size; have o9 := hk9.own
  simp only [List.mem_cons, List.not_mem_nil, or_false, forall_eq_or_imp, forall_eq] at o9
  have LP_9 := LP_8.kio hk9 (allc (by omega) (allc (by omega) all0)) ⟨(0, w6.heap.size), by simp, by simp only; omega, by simp only; omega⟩
  have LF_9 := LF_8.kio hk9 (allc (by omega) (allc (by omega) all0)) ⟨(0, w6.heap.size), by simp, by simp only; omega, by simp only; omega⟩
  have LV4_9 := LV4_8.kio hk9 (allc (by omega) (allc (by omega) all0)) ⟨(0, w6.heap.size), by simp, by simp only; omega, by simp only; omega⟩
  have LU4_9 := LU4_8.kio hk9 (allc (by omega) (allc (by omega) all0)) ⟨(0, w6.heap.size), by simp, by simp only; omega, by simp only; omega⟩
  have LG_9 := LG_8.kio hk9 (allc (by omega) (allc (by omega) all0)) ⟨(0, w6.heap.size), by simp, by simp only; omega, by simp only; omega⟩
  have PD_9 := PD_8.kio hk9 (allc (by omega) (allc (by omega) all0)) ⟨(w7.heap.size, w8.heap.size), by simp, by simp only; omega, by simp only; omega⟩
  have F7_9 := F7_8.kio hk9 (allc (by omega) (allc (by omega) all0)) ⟨(w7.heap.size, w8.heap.size), by simp, by simp only; omega, by simp only; omega⟩
  refine (works_d LP_9.cells LF_9.cells hW).mono fun e10 w10 he => ?_
  obtain ⟨pa3, pc3, fa3, fc3, xs3, mid3, rfl, hd10, ⟨hxs3, hmid3, PD3⟩, F9d⟩ := he
  have hb10 := hb9.trans (hd10.mono hb9.size)
  have z10 := hd10.size
  have L8_10 := PD3.lies
  rw [hxs3] at L8_10
  obtain ⟨d9, rfl, hd9, QF_10⟩ := F9d.fb
  have LP_10 := LP_9.below hd10
  have LF_10 := LF_9.below hd10
  have LV4_10 := LV4_9.below hd10
  have LU4_10 := LU4_9.below hd10
  have LG_10 := LG_9.below hd10
  have PD_10 := PD_9.below hd10
  have F7_10 := F7_9.below hd10
  refine ⟨_, _, _, _, _, _, rfl, hd10, ?_⟩
  intro m24 g_m24 d0_m24 d1_m24 m25 g_m25 d0_m25 d1_m25
  obtain ⟨d7, rfl, hd7, L7_10⟩ := F7_10.fb
  refine ⟨fun ls w' => match ls with | [.bool _, .int _ ii] => (0 ≤ ii ∧ ii ≤ W.pats.length) ∧ (∃ xs, Wid W (xs.map (·.2.2)) ii.toNat ∧ PatsD mid w8.heap.size w' pa2 xs) ∧ FB d9 W.fits w' ∧ ((LiesS w1.heap.size w2.heap.size w' pa W.pats ∧ Lies [] w1.heap.size w2.heap.size w' fa (fitsV W.fits) ∧ Lies [] w5.heap.size w6.heap.size w' ga (gapsV (LooseM W)) ∧ FB d7 W.fits w' ∧ LiesS mid3 w10.heap.size w' pa3 W.pats) ∧ w10.heap.size ≤ w'.heap.size) | _ => False, fun ls => match ls with | [_, .int _ ii] => (W.pats.length - ii).toNat | _ => 0, ?_, ?_⟩
  · intro w12 hb12 hk12
    have y12 := hb12.size
    have z12 := hk12.size; have o12 := hk12.own
    simp only [List.mem_cons, List.not_mem_nil, or_false, forall_eq_or_imp, forall_eq] at o12
    have LP_12 := LP_10.ko hk12 (allc (by omega) (allc (by omega) (allc (by omega) (allc (by omega) all0))))
    have LF_12 := LF_10.ko hk12 (allc (by omega) (allc (by omega) (allc (by omega) (allc (by omega) all0))))
    have LV4_12 := LV4_10.ko hk12 (allc (by omega) (allc (by omega) (allc (by omega) (allc (by omega) all0))))
    have LU4_12 := LU4_10.ko hk12 (allc (by omega) (allc (by omega) (allc (by omega) (allc (by omega) all0))))
    have LG_12 := LG_10.ko hk12 (allc (by omega) (allc (by omega) (allc (by omega) (allc (by omega) all0))))
    have PD_12 := PD_10.ko hk12 (allc (by omega) (allc (by omega) (allc (by omega) (allc (by omega) all0))))
    have L7_12 := L7_10.ko hk12 (allc (by omega) (allc (by omega) (allc (by omega) (allc (by omega) all0))))
    have L8_12 := L8_10.ko hk12 (allc (by omega) (allc (by omega) (allc (by omega) (allc (by omega) all0))))
    have QF_12 := QF_10.ko hk12 (allc (by omega) (allc (by omega) (allc (by omega) (allc (by omega) all0))))
    exact ⟨⟨by omega, by omega⟩, ⟨xs0, by rw [hxs0]; exact Wid.refl W, PD_12⟩, QF_12, ⟨⟨LP_12, LF_12, LG_12, L7_12, L8_12⟩, by omega⟩⟩
  rintro t1 x2 w13 hb13 ⟨hx2, ⟨xs, hWid, PD⟩, QF, ⟨⟨LP, LF, LG, L7, L8⟩, zH⟩⟩
  have y13 := hb13.size
  refine ⟨?_, ?_⟩
  · intro h1
    try simp only [Bool.not_eq_true', Bool.not_eq_false', decide_eq_true_eq, decide_eq_false_iff_not] at h1
    refine ⟨(by first | omega | rfl | exact ind_cell0 hI (by omega) | exact ind_cell1 hI (by omega) | (simp only [List.length_cons]; omega) | (simp only; omega)), (by first | omega | rfl | exact ind_cell0 hI (by omega) | exact ind_cell1 hI (by omega) | (simp only [List.length_cons]; omega) | (simp only; omega)), (by first | omega | rfl | exact ind_cell0 hI (by omega) | exact ind_cell1 hI (by omega) | (simp only [List.length_cons]; omega) | (simp only; omega)), ?_, ?_⟩
    · intro h2
      try simp only [Bool.not_eq_true', Bool.not_eq_false', decide_eq_true_eq, decide_eq_false_iff_not] at h2
      obtain ⟨d, cc, s, r, hx, hpe⟩ := pd_elem hW hWid (show x2.toNat < W.pats.length by omega)
      have hwn := hWid.n
      have hI := PD.el _ (List.mem_of_getElem? hx)
      have hdr := PD.r d (List.mem_map.2 ⟨_, List.mem_of_getElem? hx, rfl⟩)
      have hsp : (500 ≤ s.1 ∧ s.1 ≤ 755) ∧ s.1 ≤ s.2 ∧ s.2 ≤ s.1 + 11 := by have := okP_span (okP_get hW.p (i := x2) (by omega)) (i := 0) (by rw [hpe]; simp); rw [hpe] at this; exact this
      refine load_pd (by rw [← hwn, List.length_map]) hx PD (by omega) fun m26 m27 hm1 => ?_
      refine ⟨(by first | omega | rfl | exact ind_cell0 hI (by omega) | exact ind_cell1 hI (by omega) | (simp only [List.length_cons]; omega) | (simp only; omega)), ?_⟩
      refine ⟨_, _, rfl, (by first | omega | rfl | exact ind_cell0 hI (by omega) | exact ind_cell1 hI (by omega) | (simp only [List.length_cons]; omega) | (simp only; omega)), ?_⟩
      refine ⟨_, (by first | omega | rfl | exact ind_cell0 hI (by omega) | exact ind_cell1 hI (by omega) | (simp only [List.length_cons]; omega) | (simp only; omega)), (by first | omega | rfl | exact ind_cell0 hI (by omega) | exact ind_cell1 hI (by omega) | (simp only [List.length_cons]; omega) | (simp only; omega)), (by first | omega | rfl | exact ind_cell0 hI (by omega) | exact ind_cell1 hI (by omega) | (simp only [List.length_cons]; omega) | (simp only; omega)), ?_⟩
      refine ⟨_, (by first | omega | rfl | exact ind_cell0 hI (by omega) | exact ind_cell1 hI (by omega) | (simp only [List.length_cons]; omega) | (simp only; omega)), (by first | omega | rfl | exact ind_cell0 hI (by omega) | exact ind_cell1 hI (by omega) | (simp only [List.length_cons]; omega) | (simp only; omega)), ?_⟩
      intro w14 hb14 hk14
      have y14 := hb14.size
      have z14 := hk14.size; have o14 := hk14.own
      simp only [List.mem_cons, List.not_mem_nil, or_false, forall_eq_or_imp, forall_eq] at o14
      have LP_14 := LP.kio hk14 (allc (by omega) (allc (by omega) (allc (by omega) (allc (by omega) all0)))) ⟨(0, w13.heap.size), by simp, by simp only; omega, by simp only; omega⟩
      have LF_14 := LF.kio hk14 (allc (by omega) (allc (by omega) (allc (by omega) (allc (by omega) all0)))) ⟨(0, w13.heap.size), by simp, by simp only; omega, by simp only; omega⟩
      have LG_14 := LG.kio hk14 (allc (by omega) (allc (by omega) (allc (by omega) (allc (by omega) all0)))) ⟨(0, w13.heap.size), by simp, by simp only; omega, by simp only; omega⟩
      have PD_14 := PD.kio hk14 (allc (by omega) (allc (by omega) (allc (by omega) (allc (by omega) all0)))) ⟨(0, w13.heap.size), by simp, by simp only; omega, by simp only; omega⟩
      have L7_14 := L7.kio hk14 (allc (by omega) (allc (by omega) (allc (by omega) (allc (by omega) all0))))
      have L8_14 := L8.kio hk14 (allc (by omega) (allc (by omega) (allc (by omega) (allc (by omega) all0)))) ⟨(0, w13.heap.size), by simp, by simp only; omega, by simp only; omega⟩
      have QF_14 := QF.kio hk14 (allc (by omega) (allc (by omega) (allc (by omega) (allc (by omega) all0))))
      refine ind_store0 (by omega) (PD_14.el _ (List.mem_of_getElem? hx)) fun w15 hI15 c15 => ?_
      have PD_15 := PD_14.put hx c15 hI15
      have z15 := c15.size
      have kx15 : KeepX true w.heap.size [m25, m24, m7, m1] (fun _ => False) w14 w15 := c15.own (fun x hx => ⟨hk14.own x hx, fun h => by simp only [List.mem_cons, List.not_mem_nil, or_false] at h hx; omega⟩) (by simp) (fun _ => ⟨hb14.size, fun x hx => by simp only [List.mem_singleton] at hx; omega⟩)
      have LP_15 := LP_14.out c15 (allc (by omega) all0)
      have LF_15 := LF_14.out c15 (allc (by omega) all0)
      have LG_15 := LG_14.out c15 (allc (by omega) all0)
      have L7_15 := L7_14.out c15 (allc (by omega) all0)
      have L8_15 := L8_14.out c15 (allc (by omega) all0)
      have QF_15 := QF_14.out c15 (allc (by omega) all0)
      refine ⟨kx15, (by first | omega | rfl | exact ind_cell0 hI (by omega) | exact ind_cell1 hI (by omega) | (simp only [List.length_cons]; omega) | (simp only; omega)), ?_⟩
      intro w16 hb16 hk16
      have y16 := hb16.size
      have z16 := hk16.size; have o16 := hk16.own
      simp only [List.mem_cons, List.not_mem_nil, or_false, forall_eq_or_imp, forall_eq] at o16
      have LP_16 := LP_15.kio hk16 (allc (by omega) (allc (by omega) (allc (by omega) (allc (by omega) all0)))) ⟨(0, w15.heap.size), by simp, by simp only; omega, by simp only; omega⟩
      have LF_16 := LF_15.kio hk16 (allc (by omega) (allc (by omega) (allc (by omega) (allc (by omega) all0)))) ⟨(0, w15.heap.size), by simp, by simp only; omega, by simp only; omega⟩
      have LG_16 := LG_15.kio hk16 (allc (by omega) (allc (by omega) (allc (by omega) (allc (by omega) all0)))) ⟨(0, w15.heap.size), by simp, by simp only; omega, by simp only; omega⟩
      have PD_16 := PD_15.kio hk16 (allc (by omega) (allc (by omega) (allc (by omega) (allc (by omega) all0)))) ⟨(0, w15.heap.size), by simp, by simp only; omega, by simp only; omega⟩
      have L7_16 := L7_15.kio hk16 (allc (by omega) (allc (by omega) (allc (by omega) (allc (by omega) all0))))
      have L8_16 := L8_15.kio hk16 (allc (by omega) (allc (by omega) (allc (by omega) (allc (by omega) all0)))) ⟨(0, w15.heap.size), by simp, by simp only; omega, by simp only; omega⟩
      have QF_16 := QF_15.kio hk16 (allc (by omega) (allc (by omega) (allc (by omega) (allc (by omega) all0))))
      have hx2s : (xs.set x2.toNat (d, cc, (s.1 - 1, s.2) :: r))[x2.toNat]? = some (d, cc, (s.1 - 1, s.2) :: r) := by rw [List.getElem?_set]; simp [(List.getElem?_eq_some_iff.1 hx).1]
      refine ind_store1 (by omega) (PD_16.el _ (List.mem_of_getElem? hx2s)) fun w17 hI17 c17 => ?_
      have PD_17 := PD_16.put hx2s c17 hI17
      have hWid2 : Wid W (List.map (·.2.2) ((xs.set x2.toNat (d, cc, (s.1 - 1, s.2) :: r)).set x2.toNat (d, cc, (s.1 - 1, s.2 + 2) :: r))) (x2 + 1).toNat := by rw [show (x2 + 1).toNat = x2.toNat + 1 by omega, List.set_set, List.map_set]; have := hWid.put (by rw [hWid.n]; omega); rw [hpe] at this; exact this
      have z17 := c17.size
      have kx17 : KeepX true w.heap.size [m25, m24, m7, m1] (fun _ => False) w16 w17 := c17.own (fun x hx => ⟨hk16.own x hx, fun h => by simp only [List.mem_cons, List.not_mem_nil, or_false] at h hx; omega⟩) (by simp) (fun _ => ⟨hb16.size, fun x hx => by simp only [List.mem_singleton] at hx; omega⟩)
      have LP_17 := LP_16.out c17 (allc (by omega) all0)
      have LF_17 := LF_16.out c17 (allc (by omega) all0)
      have LG_17 := LG_16.out c17 (allc (by omega) all0)
      have L7_17 := L7_16.out c17 (allc (by omega) all0)
      have L8_17 := L8_16.out c17 (allc (by omega) all0)
      have QF_17 := QF_16.out c17 (allc (by omega) all0)
      refine ⟨kx17, ?_⟩
      intro w18 hb18 hk18
      have y18 := hb18.size
      have z18 := hk18.size; have o18 := hk18.own
      simp only [List.mem_cons, List.not_mem_nil, or_false, forall_eq_or_imp, forall_eq] at o18
      have LP_18 := LP_17.kio hk18 (allc (by omega) (allc (by omega) (allc (by omega) (allc (by omega) all0)))) ⟨(0, w17.heap.size), by simp, by simp only; omega, by simp only; omega⟩
      have LF_18 := LF_17.kio hk18 (allc (by omega) (allc (by omega) (allc (by omega) (allc (by omega) all0)))) ⟨(0, w17.heap.size), by simp, by simp only; omega, by simp only; omega⟩
      have LG_18 := LG_17.kio hk18 (allc (by omega) (allc (by omega) (allc (by omega) (allc (by omega) all0)))) ⟨(0, w17.heap.size), by simp, by simp only; omega, by simp only; omega⟩
      have PD_18 := PD_17.kio hk18 (allc (by omega) (allc (by omega) (allc (by omega) (allc (by omega) all0)))) ⟨(0, w17.heap.size), by simp, by simp only; omega, by simp only; omega⟩
      have L7_18 := L7_17.kio hk18 (allc (by omega) (allc (by omega) (allc (by omega) (allc (by omega) all0))))
      have L8_18 := L8_17.kio hk18 (allc (by omega) (allc (by omega) (allc (by omega) (allc (by omega) all0)))) ⟨(0, w17.heap.size), by simp, by simp only; omega, by simp only; omega⟩
      have QF_18 := QF_17.kio hk18 (allc (by omega) (allc (by omega) (allc (by omega) (allc (by omega) all0))))
      refine (works_v (hWid2.ok hW) hWid2.n rfl PD_18.lies.cells L7_18.cells).mono fun e19 w19 he => ?_
      obtain ⟨pa19, pc19, fa19, fc19, rfl, hd19, LV19_19, LU19_19⟩ := he
      have hb19 := hb18.trans (hd19.mono hb18.size)
      have z19 := hd19.size
      have LP_19 := LP_18.below hd19
      have LF_19 := LF_18.below hd19
      have LG_19 := LG_18.below hd19
      have PD_19 := PD_18.below hd19
      have L7_19 := L7_18.below hd19
      have L8_19 := L8_18.below hd19
      have QF_19 := QF_18.below hd19
      refine ⟨_, _, _, _, _, _, rfl, .all hd19, ?_⟩
      intro w20 hb20 hk20
      have y20 := hb20.size
      have z20 := hk20.size; have o20 := hk20.own
      simp only [List.mem_cons, List.not_mem_nil, or_false, forall_eq_or_imp, forall_eq] at o20
      have LP_20 := LP_19.kio hk20 (allc (by omega) (allc (by omega) (allc (by omega) (allc (by omega) all0)))) ⟨(0, w19.heap.size), by simp, by simp only; omega, by simp only; omega⟩
      have LF_20 := LF_19.kio hk20 (allc (by omega) (allc (by omega) (allc (by omega) (allc (by omega) all0)))) ⟨(0, w19.heap.size), by simp, by simp only; omega, by simp only; omega⟩
      have LG_20 := LG_19.kio hk20 (allc (by omega) (allc (by omega) (allc (by omega) (allc (by omega) all0)))) ⟨(0, w19.heap.size), by simp, by simp only; omega, by simp only; omega⟩
      have PD_20 := PD_19.kio hk20 (allc (by omega) (allc (by omega) (allc (by omega) (allc (by omega) all0)))) ⟨(0, w19.heap.size), by simp, by simp only; omega, by simp only; omega⟩
      have L7_20 := L7_19.kio hk20 (allc (by omega) (allc (by omega) (allc (by omega) (allc (by omega) all0))))
      have L8_20 := L8_19.kio hk20 (allc (by omega) (allc (by omega) (allc (by omega) (allc (by omega) all0)))) ⟨(0, w19.heap.size), by simp, by simp only; omega, by simp only; omega⟩
      have QF_20 := QF_19.kio hk20 (allc (by omega) (allc (by omega) (allc (by omega) (allc (by omega) all0))))
      have LV19_20 := LV19_19.kio hk20 (allc (by omega) (allc (by omega) (allc (by omega) (allc (by omega) all0)))) ⟨(0, w19.heap.size), by simp, by simp only; omega, by simp only; omega⟩
      have LU19_20 := LU19_19.kio hk20 (allc (by omega) (allc (by omega) (allc (by omega) (allc (by omega) all0)))) ⟨(0, w19.heap.size), by simp, by simp only; omega, by simp only; omega⟩
      refine (piece_p LP_20.cells hW (by omega) (hc.keep hb20) hl (by omega)).mono fun e21 w21 he => ?_
      obtain ⟨a21, c21, rfl, hd21, LX21_21⟩ := he
      have hb21 := hb20.trans (hd21.mono hb20.size)
      have z21 := hd21.size
      have LP_21 := LP_20.below hd21
      have LF_21 := LF_20.below hd21
      have LG_21 := LG_20.below hd21
      have PD_21 := PD_20.below hd21
      have L7_21 := L7_20.below hd21
      have L8_21 := L8_20.below hd21
      have QF_21 := QF_20.below hd21
      have LV19_21 := LV19_20.below hd21
      have LU19_21 := LU19_20.below hd21
      refine ⟨_, _, _, _, rfl, .all hd21, ?_⟩
      intro w22 hb22 hk22
      have y22 := hb22.size
      have z22 := hk22.size; have o22 := hk22.own
      simp only [List.mem_cons, List.not_mem_nil, or_false, forall_eq_or_imp, forall_eq] at o22
      have LP_22 := LP_21.kio hk22 (allc (by omega) (allc (by omega) (allc (by omega) (allc (by omega) all0)))) ⟨(0, w21.heap.size), by simp, by simp only; omega, by simp only; omega⟩
      have LF_22 := LF_21.kio hk22 (allc (by omega) (allc (by omega) (allc (by omega) (allc (by omega) all0)))) ⟨(0, w21.heap.size), by simp, by simp only; omega, by simp only; omega⟩
      have LG_22 := LG_21.kio hk22 (allc (by omega) (allc (by omega) (allc (by omega) (allc (by omega) all0)))) ⟨(0, w21.heap.size), by simp, by simp only; omega, by simp only; omega⟩
      have PD_22 := PD_21.kio hk22 (allc (by omega) (allc (by omega) (allc (by omega) (allc (by omega) all0)))) ⟨(0, w21.heap.size), by simp, by simp only; omega, by simp only; omega⟩
      have L7_22 := L7_21.kio hk22 (allc (by omega) (allc (by omega) (allc (by omega) (allc (by omega) all0))))
      have L8_22 := L8_21.kio hk22 (allc (by omega) (allc (by omega) (allc (by omega) (allc (by omega) all0)))) ⟨(0, w21.heap.size), by simp, by simp only; omega, by simp only; omega⟩
      have QF_22 := QF_21.kio hk22 (allc (by omega) (allc (by omega) (allc (by omega) (allc (by omega) all0))))
      have LV19_22 := LV19_21.kio hk22 (allc (by omega) (allc (by omega) (allc (by omega) (allc (by omega) all0)))) ⟨(0, w21.heap.size), by simp, by simp only; omega, by simp only; omega⟩
      have LU19_22 := LU19_21.kio hk22 (allc (by omega) (allc (by omega) (allc (by omega) (allc (by omega) all0)))) ⟨(0, w21.heap.size), by simp, by simp only; omega, by simp only; omega⟩
      have LX21_22 := LX21_21.kio hk22 (allc (by omega) (allc (by omega) (allc (by omega) (allc (by omega) all0)))) ⟨(0, w21.heap.size), by simp, by simp only; omega, by simp only; omega⟩
      refine Pure.calls (good_v hW hWid2 hWid2.n rfl _ LX21_22.cells LV19_22.cells LU19_22.cells (byP_good hW hl (by omega))) fun w23 hd23 => ?_
      have hb23 := hb22.trans (hd23.mono hb22.size)
      have z23 := hd23.size
      have LP_23 := LP_22.below hd23
      have LF_23 := LF_22.below hd23
      have LG_23 := LG_22.below hd23
      have PD_23 := PD_22.below hd23
      have L7_23 := L7_22.below hd23
      have L8_23 := L8_22.below hd23
      have QF_23 := QF_22.below hd23
      have LV19_23 := LV19_22.below hd23
      have LU19_23 := LU19_22.below hd23
      have LX21_23 := LX21_22.below hd23
      refine ⟨_, _, rfl, .all hd23, ?_, ?_⟩
      · intro h3 w24 hb24 hk24
        try simp only [Bool.not_eq_true', Bool.not_eq_false', decide_eq_true_eq, decide_eq_false_iff_not] at h3
        have y24 := hb24.size
        have z24 := hk24.size; have o24 := hk24.own
        simp only [List.mem_cons, List.not_mem_nil, or_false, forall_eq_or_imp, forall_eq] at o24
        have LP_24 := LP_23.ko hk24 (allc (by omega) (allc (by omega) (allc (by omega) (allc (by omega) all0))))
        have LF_24 := LF_23.ko hk24 (allc (by omega) (allc (by omega) (allc (by omega) (allc (by omega) all0))))
        have LG_24 := LG_23.ko hk24 (allc (by omega) (allc (by omega) (allc (by omega) (allc (by omega) all0))))
        have PD_24 := PD_23.ko hk24 (allc (by omega) (allc (by omega) (allc (by omega) (allc (by omega) all0))))
        have L7_24 := L7_23.ko hk24 (allc (by omega) (allc (by omega) (allc (by omega) (allc (by omega) all0))))
        have L8_24 := L8_23.ko hk24 (allc (by omega) (allc (by omega) (allc (by omega) (allc (by omega) all0))))
        have QF_24 := QF_23.ko hk24 (allc (by omega) (allc (by omega) (allc (by omega) (allc (by omega) all0))))
        have LV19_24 := LV19_23.ko hk24 (allc (by omega) (allc (by omega) (allc (by omega) (allc (by omega) all0))))
        have LU19_24 := LU19_23.ko hk24 (allc (by omega) (allc (by omega) (allc (by omega) (allc (by omega) all0))))
        have LX21_24 := LX21_23.ko hk24 (allc (by omega) (allc (by omega) (allc (by omega) (allc (by omega) all0))))
        exact ⟨by first | rfl | contradiction | (exfalso; omega) | simp_all, hb24⟩
      · intro h4
        try simp only [] at h4
        refine ⟨?_, ?_⟩
        · intro h5 w25 hb25 hk25
          try simp only [Bool.not_eq_true'] at h5
          have y25 := hb25.size
          have z25 := hk25.size; have o25 := hk25.own
          simp only [List.mem_cons, List.not_mem_nil, or_false, forall_eq_or_imp, forall_eq] at o25
          have LP_25 := LP_23.ko hk25 (allc (by omega) (allc (by omega) (allc (by omega) (allc (by omega) all0))))
          have LF_25 := LF_23.ko hk25 (allc (by omega) (allc (by omega) (allc (by omega) (allc (by omega) all0))))
          have LG_25 := LG_23.ko hk25 (allc (by omega) (allc (by omega) (allc (by omega) (allc (by omega) all0))))
          have PD_25 := PD_23.ko hk25 (allc (by omega) (allc (by omega) (allc (by omega) (allc (by omega) all0))))
          have L7_25 := L7_23.ko hk25 (allc (by omega) (allc (by omega) (allc (by omega) (allc (by omega) all0))))
          have L8_25 := L8_23.ko hk25 (allc (by omega) (allc (by omega) (allc (by omega) (allc (by omega) all0))))
          have QF_25 := QF_23.ko hk25 (allc (by omega) (allc (by omega) (allc (by omega) (allc (by omega) all0))))
          have LV19_25 := LV19_23.ko hk25 (allc (by omega) (allc (by omega) (allc (by omega) (allc (by omega) all0))))
          have LU19_25 := LU19_23.ko hk25 (allc (by omega) (allc (by omega) (allc (by omega) (allc (by omega) all0))))
          have LX21_25 := LX21_23.ko hk25 (allc (by omega) (allc (by omega) (allc (by omega) (allc (by omega) all0))))
          exact ⟨by first | rfl | contradiction | (exfalso; omega) | simp_all, hb25⟩
        · intro h6
          try simp only [Bool.not_eq_false'] at h6
          refine ⟨(by first | omega | rfl | exact ind_cell0 hI (by omega) | exact ind_cell1 hI (by omega) | (simp only [List.length_cons]; omega) | (simp only; omega)), ?_⟩
          intro w26 hb26 hk26
          have y26 := hb26.size
          have z26 := hk26.size; have o26 := hk26.own
          simp only [List.mem_cons, List.not_mem_nil, or_false, forall_eq_or_imp, forall_eq] at o26
          have LP_26 := LP_23.ko hk26 (allc (by omega) (allc (by omega) (allc (by omega) (allc (by omega) all0))))
          have LF_26 := LF_23.ko hk26 (allc (by omega) (allc (by omega) (allc (by omega) (allc (by omega) all0))))
          have LG_26 := LG_23.ko hk26 (allc (by omega) (allc (by omega) (allc (by omega) (allc (by omega) all0))))
          have PD_26 := PD_23.ko hk26 (allc (by omega) (allc (by omega) (allc (by omega) (allc (by omega) all0))))
          have L7_26 := L7_23.ko hk26 (allc (by omega) (allc (by omega) (allc (by omega) (allc (by omega) all0))))
          have L8_26 := L8_23.ko hk26 (allc (by omega) (allc (by omega) (allc (by omega) (allc (by omega) all0))))
          have QF_26 := QF_23.ko hk26 (allc (by omega) (allc (by omega) (allc (by omega) (allc (by omega) all0))))
          have LV19_26 := LV19_23.ko hk26 (allc (by omega) (allc (by omega) (allc (by omega) (allc (by omega) all0))))
          have LU19_26 := LU19_23.ko hk26 (allc (by omega) (allc (by omega) (allc (by omega) (allc (by omega) all0))))
          have LX21_26 := LX21_23.ko hk26 (allc (by omega) (allc (by omega) (allc (by omega) (allc (by omega) all0))))
          refine ⟨?_, (by first | omega | rfl | exact ind_cell0 hI (by omega) | exact ind_cell1 hI (by omega) | (simp only []; omega) | (simp only; omega))⟩
          exact ⟨⟨by omega, by omega⟩, ⟨_, hWid2, PD_26⟩, QF_26, ⟨⟨LP_26, LF_26, LG_26, L7_26, L8_26⟩, by omega⟩⟩
    · intro h7 w27 hb27 hk27
      try simp only [Bool.not_eq_true', Bool.not_eq_false', decide_eq_true_eq, decide_eq_false_iff_not] at h7
      have y27 := hb27.size
      have z27 := hk27.size; have o27 := hk27.own
      simp only [List.mem_cons, List.not_mem_nil, or_false, forall_eq_or_imp, forall_eq] at o27
      have LP_27 := LP.kio hk27 (allc (by omega) (allc (by omega) (allc (by omega) (allc (by omega) all0)))) ⟨(0, w13.heap.size), by simp, by simp only; omega, by simp only; omega⟩
      have LF_27 := LF.kio hk27 (allc (by omega) (allc (by omega) (allc (by omega) (allc (by omega) all0)))) ⟨(0, w13.heap.size), by simp, by simp only; omega, by simp only; omega⟩
      have LG_27 := LG.kio hk27 (allc (by omega) (allc (by omega) (allc (by omega) (allc (by omega) all0)))) ⟨(0, w13.heap.size), by simp, by simp only; omega, by simp only; omega⟩
      have PD_27 := PD.kio hk27 (allc (by omega) (allc (by omega) (allc (by omega) (allc (by omega) all0)))) ⟨(0, w13.heap.size), by simp, by simp only; omega, by simp only; omega⟩
      have L7_27 := L7.kio hk27 (allc (by omega) (allc (by omega) (allc (by omega) (allc (by omega) all0))))
      have L8_27 := L8.kio hk27 (allc (by omega) (allc (by omega) (allc (by omega) (allc (by omega) all0)))) ⟨(0, w13.heap.size), by simp, by simp only; omega, by simp only; omega⟩
      have QF_27 := QF.kio hk27 (allc (by omega) (allc (by omega) (allc (by omega) (allc (by omega) all0))))
      refine (works_v (hWid.ok hW) hWid.n rfl PD_27.lies.cells L7_27.cells).mono fun e28 w28 he => ?_
      obtain ⟨pa28, pc28, fa28, fc28, rfl, hd28, LV28_28, LU28_28⟩ := he
      have hb28 := hb27.trans (hd28.mono hb27.size)
      have z28 := hd28.size
      have LP_28 := LP_27.below hd28
      have LF_28 := LF_27.below hd28
      have LG_28 := LG_27.below hd28
      have PD_28 := PD_27.below hd28
      have L7_28 := L7_27.below hd28
      have L8_28 := L8_27.below hd28
      have QF_28 := QF_27.below hd28
      refine ⟨_, _, _, _, _, _, rfl, .all hd28, ?_⟩
      intro w29 hb29 hk29
      have y29 := hb29.size
      have z29 := hk29.size; have o29 := hk29.own
      simp only [List.mem_cons, List.not_mem_nil, or_false, forall_eq_or_imp, forall_eq] at o29
      have LP_29 := LP_28.kio hk29 (allc (by omega) (allc (by omega) (allc (by omega) (allc (by omega) all0)))) ⟨(0, w28.heap.size), by simp, by simp only; omega, by simp only; omega⟩
      have LF_29 := LF_28.kio hk29 (allc (by omega) (allc (by omega) (allc (by omega) (allc (by omega) all0)))) ⟨(0, w28.heap.size), by simp, by simp only; omega, by simp only; omega⟩
      have LG_29 := LG_28.kio hk29 (allc (by omega) (allc (by omega) (allc (by omega) (allc (by omega) all0)))) ⟨(0, w28.heap.size), by simp, by simp only; omega, by simp only; omega⟩
      have PD_29 := PD_28.kio hk29 (allc (by omega) (allc (by omega) (allc (by omega) (allc (by omega) all0)))) ⟨(0, w28.heap.size), by simp, by simp only; omega, by simp only; omega⟩
      have L7_29 := L7_28.kio hk29 (allc (by omega) (allc (by omega) (allc (by omega) (allc (by omega) all0))))
      have L8_29 := L8_28.kio hk29 (allc (by omega) (allc (by omega) (allc (by omega) (allc (by omega) all0)))) ⟨(0, w28.heap.size), by simp, by simp only; omega, by simp only; omega⟩
      have QF_29 := QF_28.kio hk29 (allc (by omega) (allc (by omega) (allc (by omega) (allc (by omega) all0))))
      have LV28_29 := LV28_28.kio hk29 (allc (by omega) (allc (by omega) (allc (by omega) (allc (by omega) all0)))) ⟨(0, w28.heap.size), by simp, by simp only; omega, by simp only; omega⟩
      have LU28_29 := LU28_28.kio hk29 (allc (by omega) (allc (by omega) (allc (by omega) (allc (by omega) all0)))) ⟨(0, w28.heap.size), by simp, by simp only; omega, by simp only; omega⟩
      refine (piece_p LP_29.cells hW (by omega) (hc.keep hb29) hl (by omega)).mono fun e30 w30 he => ?_
      obtain ⟨a30, c30, rfl, hd30, LX30_30⟩ := he
      have hb30 := hb29.trans (hd30.mono hb29.size)
      have z30 := hd30.size
      have LP_30 := LP_29.below hd30
      have LF_30 := LF_29.below hd30
      have LG_30 := LG_29.below hd30
      have PD_30 := PD_29.below hd30
      have L7_30 := L7_29.below hd30
      have L8_30 := L8_29.below hd30
      have QF_30 := QF_29.below hd30
      have LV28_30 := LV28_29.below hd30
      have LU28_30 := LU28_29.below hd30
      refine ⟨_, _, _, _, rfl, .all hd30, ?_⟩
      intro w31 hb31 hk31
      have y31 := hb31.size
      have z31 := hk31.size; have o31 := hk31.own
      simp only [List.mem_cons, List.not_mem_nil, or_false, forall_eq_or_imp, forall_eq] at o31
      have LP_31 := LP_30.kio hk31 (allc (by omega) (allc (by omega) (allc (by omega) (allc (by omega) all0)))) ⟨(0, w30.heap.size), by simp, by simp only; omega, by simp only; omega⟩
      have LF_31 := LF_30.kio hk31 (allc (by omega) (allc (by omega) (allc (by omega) (allc (by omega) all0)))) ⟨(0, w30.heap.size), by simp, by simp only; omega, by simp only; omega⟩
      have LG_31 := LG_30.kio hk31 (allc (by omega) (allc (by omega) (allc (by omega) (allc (by omega) all0)))) ⟨(0, w30.heap.size), by simp, by simp only; omega, by simp only; omega⟩
      have PD_31 := PD_30.kio hk31 (allc (by omega) (allc (by omega) (allc (by omega) (allc (by omega) all0)))) ⟨(0, w30.heap.size), by simp, by simp only; omega, by simp only; omega⟩
      have L7_31 := L7_30.kio hk31 (allc (by omega) (allc (by omega) (allc (by omega) (allc (by omega) all0))))
      have L8_31 := L8_30.kio hk31 (allc (by omega) (allc (by omega) (allc (by omega) (allc (by omega) all0)))) ⟨(0, w30.heap.size), by simp, by simp only; omega, by simp only; omega⟩
      have QF_31 := QF_30.kio hk31 (allc (by omega) (allc (by omega) (allc (by omega) (allc (by omega) all0))))
      have LV28_31 := LV28_30.kio hk31 (allc (by omega) (allc (by omega) (allc (by omega) (allc (by omega) all0)))) ⟨(0, w30.heap.size), by simp, by simp only; omega, by simp only; omega⟩
      have LU28_31 := LU28_30.kio hk31 (allc (by omega) (allc (by omega) (allc (by omega) (allc (by omega) all0)))) ⟨(0, w30.heap.size), by simp, by simp only; omega, by simp only; omega⟩
      have LX30_31 := LX30_30.kio hk31 (allc (by omega) (allc (by omega) (allc (by omega) (allc (by omega) all0)))) ⟨(0, w30.heap.size), by simp, by simp only; omega, by simp only; omega⟩
      refine Pure.calls (good_v hW hWid hWid.n rfl _ LX30_31.cells LV28_31.cells LU28_31.cells (byP_good hW hl (by omega))) fun w32 hd32 => ?_
      have hb32 := hb31.trans (hd32.mono hb31.size)
      have z32 := hd32.size
      have LP_32 := LP_31.below hd32
      have LF_32 := LF_31.below hd32
      have LG_32 := LG_31.below hd32
      have PD_32 := PD_31.below hd32
      have L7_32 := L7_31.below hd32
      have L8_32 := L8_31.below hd32
      have QF_32 := QF_31.below hd32
      have LV28_32 := LV28_31.below hd32
      have LU28_32 := LU28_31.below hd32
      have LX30_32 := LX30_31.below hd32
      refine ⟨_, _, rfl, .all hd32, ?_, ?_⟩
      · intro h8 w33 hb33 hk33
        try simp only [Bool.not_eq_true', Bool.not_eq_false', decide_eq_true_eq, decide_eq_false_iff_not] at h8
        have y33 := hb33.size
        have z33 := hk33.size; have o33 := hk33.own
        simp only [List.mem_cons, List.not_mem_nil, or_false, forall_eq_or_imp, forall_eq] at o33
        have LP_33 := LP_32.ko hk33 (allc (by omega) (allc (by omega) (allc (by omega) (allc (by omega) all0))))
        have LF_33 := LF_32.ko hk33 (allc (by omega) (allc (by omega) (allc (by omega) (allc (by omega) all0))))
        have LG_33 := LG_32.ko hk33 (allc (by omega) (allc (by omega) (allc (by omega) (allc (by omega) all0))))
        have PD_33 := PD_32.ko hk33 (allc (by omega) (allc (by omega) (allc (by omega) (allc (by omega) all0))))
        have L7_33 := L7_32.ko hk33 (allc (by omega) (allc (by omega) (allc (by omega) (allc (by omega) all0))))
        have L8_33 := L8_32.ko hk33 (allc (by omega) (allc (by omega) (allc (by omega) (allc (by omega) all0))))
        have QF_33 := QF_32.ko hk33 (allc (by omega) (allc (by omega) (allc (by omega) (allc (by omega) all0))))
        have LV28_33 := LV28_32.ko hk33 (allc (by omega) (allc (by omega) (allc (by omega) (allc (by omega) all0))))
        have LU28_33 := LU28_32.ko hk33 (allc (by omega) (allc (by omega) (allc (by omega) (allc (by omega) all0))))
        have LX30_33 := LX30_32.ko hk33 (allc (by omega) (allc (by omega) (allc (by omega) (allc (by omega) all0))))
        exact ⟨by first | rfl | contradiction | (exfalso; omega) | simp_all, hb33⟩
      · intro h9
        try simp only [] at h9
        refine ⟨?_, ?_⟩
        · intro h10 w34 hb34 hk34
          try simp only [Bool.not_eq_true'] at h10
          have y34 := hb34.size
          have z34 := hk34.size; have o34 := hk34.own
          simp only [List.mem_cons, List.not_mem_nil, or_false, forall_eq_or_imp, forall_eq] at o34
          have LP_34 := LP_32.ko hk34 (allc (by omega) (allc (by omega) (allc (by omega) (allc (by omega) all0))))
          have LF_34 := LF_32.ko hk34 (allc (by omega) (allc (by omega) (allc (by omega) (allc (by omega) all0))))
          have LG_34 := LG_32.ko hk34 (allc (by omega) (allc (by omega) (allc (by omega) (allc (by omega) all0))))
          have PD_34 := PD_32.ko hk34 (allc (by omega) (allc (by omega) (allc (by omega) (allc (by omega) all0))))
          have L7_34 := L7_32.ko hk34 (allc (by omega) (allc (by omega) (allc (by omega) (allc (by omega) all0))))
          have L8_34 := L8_32.ko hk34 (allc (by omega) (allc (by omega) (allc (by omega) (allc (by omega) all0))))
          have QF_34 := QF_32.ko hk34 (allc (by omega) (allc (by omega) (allc (by omega) (allc (by omega) all0))))
          have LV28_34 := LV28_32.ko hk34 (allc (by omega) (allc (by omega) (allc (by omega) (allc (by omega) all0))))
          have LU28_34 := LU28_32.ko hk34 (allc (by omega) (allc (by omega) (allc (by omega) (allc (by omega) all0))))
          have LX30_34 := LX30_32.ko hk34 (allc (by omega) (allc (by omega) (allc (by omega) (allc (by omega) all0))))
          exact ⟨by first | rfl | contradiction | (exfalso; omega) | simp_all, hb34⟩
        · intro h11
          try simp only [Bool.not_eq_false'] at h11
          refine ⟨(by first | omega | rfl | exact ind_cell0 hI (by omega) | exact ind_cell1 hI (by omega) | (simp only [List.length_cons]; omega) | (simp only; omega)), ?_⟩
          intro w35 hb35 hk35
          have y35 := hb35.size
          have z35 := hk35.size; have o35 := hk35.own
          simp only [List.mem_cons, List.not_mem_nil, or_false, forall_eq_or_imp, forall_eq] at o35
          have LP_35 := LP_32.ko hk35 (allc (by omega) (allc (by omega) (allc (by omega) (allc (by omega) all0))))
          have LF_35 := LF_32.ko hk35 (allc (by omega) (allc (by omega) (allc (by omega) (allc (by omega) all0))))
          have LG_35 := LG_32.ko hk35 (allc (by omega) (allc (by omega) (allc (by omega) (allc (by omega) all0))))
          have PD_35 := PD_32.ko hk35 (allc (by omega) (allc (by omega) (allc (by omega) (allc (by omega) all0))))
          have L7_35 := L7_32.ko hk35 (allc (by omega) (allc (by omega) (allc (by omega) (allc (by omega) all0))))
          have L8_35 := L8_32.ko hk35 (allc (by omega) (allc (by omega) (allc (by omega) (allc (by omega) all0))))
          have QF_35 := QF_32.ko hk35 (allc (by omega) (allc (by omega) (allc (by omega) (allc (by omega) all0))))
          have LV28_35 := LV28_32.ko hk35 (allc (by omega) (allc (by omega) (allc (by omega) (allc (by omega) all0))))
          have LU28_35 := LU28_32.ko hk35 (allc (by omega) (allc (by omega) (allc (by omega) (allc (by omega) all0))))
          have LX30_35 := LX30_32.ko hk35 (allc (by omega) (allc (by omega) (allc (by omega) (allc (by omega) all0))))
          refine ⟨?_, (by first | omega | rfl | exact ind_cell0 hI (by omega) | exact ind_cell1 hI (by omega) | (simp only []; omega) | (simp only; omega))⟩
          exact ⟨⟨by omega, by omega⟩, ⟨xs, by rw [show (x2 + 1).toNat = x2.toNat + 1 by omega]; exact hWid.skip, PD_35⟩, QF_35, ⟨⟨LP_35, LF_35, LG_35, L7_35, L8_35⟩, by omega⟩⟩
  · intro h12
    try simp only [Bool.not_eq_true', Bool.not_eq_false', decide_eq_true_eq, decide_eq_false_iff_not] at h12
    have hav := tmod_bd (a := which) (b := 3) (by omega) (by omega)
    have hqv := tdiv3 hwh
    have hbv := tmod_bd (a := which.tdiv 3) (b := 3) (by omega) (by omega)
    have hOV := hWid.ok hW
    have hwn := hWid.n
    rw [List.length_map] at hwn
    refine ⟨fun ls w' => match ls with | [.int _ ii] => (0 ≤ ii ∧ ii ≤ W.fits.length) ∧ (∃ fs, WidF W fs (which.tmod 3) ((which.tdiv 3).tmod 3) ii.toNat ∧ FB d9 fs w') ∧ PatsD mid w8.heap.size w' pa2 xs ∧ ((LiesS w1.heap.size w2.heap.size w' pa W.pats ∧ Lies [] w1.heap.size w2.heap.size w' fa (fitsV W.fits) ∧ Lies [] w5.heap.size w6.heap.size w' ga (gapsV (LooseM W)) ∧ FB d7 W.fits w' ∧ LiesS mid3 w10.heap.size w' pa3 W.pats) ∧ w10.heap.size ≤ w'.heap.size) | _ => False, fun ls => match ls with | [.int _ ii] => (W.fits.length - ii).toNat | _ => 0, ?_, ?_⟩
    · intro w37 hb37 hk37
      have y37 := hb37.size
      have z37 := hk37.size; have o37 := hk37.own
      simp only [List.mem_cons, List.not_mem_nil, or_false, forall_eq_or_imp, forall_eq] at o37
      have LP_37 := LP.ko hk37 (allc (by omega) (allc (by omega) (allc (by omega) (allc (by omega) all0))))
      have LF_37 := LF.ko hk37 (allc (by omega) (allc (by omega) (allc (by omega) (allc (by omega) all0))))
      have LG_37 := LG.ko hk37 (allc (by omega) (allc (by omega) (allc (by omega) (allc (by omega) all0))))
      have PD_37 := PD.ko hk37 (allc (by omega) (allc (by omega) (allc (by omega) (allc (by omega) all0))))
      have L7_37 := L7.ko hk37 (allc (by omega) (allc (by omega) (allc (by omega) (allc (by omega) all0))))
      have L8_37 := L8.ko hk37 (allc (by omega) (allc (by omega) (allc (by omega) (allc (by omega) all0))))
      have QF_37 := QF.ko hk37 (allc (by omega) (allc (by omega) (allc (by omega) (allc (by omega) all0))))
      exact ⟨⟨by omega, by omega⟩, ⟨W.fits, WidF.refl W _ _, QF_37⟩, PD_37, ⟨⟨LP_37, LF_37, LG_37, L7_37, L8_37⟩, by omega⟩⟩
    rintro x9 w38 hb38 ⟨hx9, ⟨fs, hWF, QF⟩, PD, ⟨⟨LP, LF, LG, L7, L8⟩, zH⟩⟩
    have y38 := hb38.size
    have hfn := hWF.n
    have hfe := hWF.e x9.toNat (Nat.le_refl _)
    refine ⟨?_, ?_⟩
    · intro h13
      try simp only [Bool.not_eq_true', Bool.not_eq_false', decide_eq_true_eq, decide_eq_false_iff_not] at h13
      refine fb_load1 (by first | exact hfn | (rw [List.length_set]; exact hfn)) QF (by omega) fun m52 m53 hm2 => ?_
      have hfo := (fit_ok hW (i := x9) (by omega)).g
      rw [← hfe] at hfo
      refine ⟨(by first | omega | rfl | exact ind_cell0 hI (by omega) | exact ind_cell1 hI (by omega) | (simp only [List.length_cons]; omega) | (simp only; omega)), (by first | omega | rfl | exact ind_cell0 hI (by omega) | exact ind_cell1 hI (by omega) | (simp only [List.length_cons]; omega) | (simp only; omega)), (by first | omega | rfl | exact ind_cell0 hI (by omega) | exact ind_cell1 hI (by omega) | (simp only [List.length_cons]; omega) | (simp only; omega)), (by first | omega | rfl | exact ind_cell0 hI (by omega) | exact ind_cell1 hI (by omega) | (simp only [List.length_cons]; omega) | (simp only; omega)), ?_⟩
      refine ⟨_, _, rfl, (by first | omega | rfl | exact ind_cell0 hI (by omega) | exact ind_cell1 hI (by omega) | (simp only [List.length_cons]; omega) | (simp only; omega)), ?_⟩
      intro w39 hb39 hk39
      have y39 := hb39.size
      have z39 := hk39.size; have o39 := hk39.own
      simp only [List.mem_cons, List.not_mem_nil, or_false, forall_eq_or_imp, forall_eq] at o39
      have LP_39 := LP.ko hk39 (allc (by omega) (allc (by omega) (allc (by omega) (allc (by omega) all0))))
      have LF_39 := LF.ko hk39 (allc (by omega) (allc (by omega) (allc (by omega) (allc (by omega) all0))))
      have LG_39 := LG.ko hk39 (allc (by omega) (allc (by omega) (allc (by omega) (allc (by omega) all0))))
      have PD_39 := PD.ko hk39 (allc (by omega) (allc (by omega) (allc (by omega) (allc (by omega) all0))))
      have L7_39 := L7.ko hk39 (allc (by omega) (allc (by omega) (allc (by omega) (allc (by omega) all0))))
      have L8_39 := L8.ko hk39 (allc (by omega) (allc (by omega) (allc (by omega) (allc (by omega) all0))))
      have QF_39 := QF.ko hk39 (allc (by omega) (allc (by omega) (allc (by omega) (allc (by omega) all0))))
      refine fb_store1 QF_39 (by omega) fun w40 QF_40 c40 => ?_
      have z40 := c40.size
      have kx40 : KeepX true w.heap.size [m25, m24, m7, m1] (fun _ => False) w39 w40 := c40.own (fun x hx => ⟨hk39.own x hx, fun h => by simp only [List.mem_cons, List.not_mem_nil, or_false] at h hx; omega⟩) (by simp) (fun _ => ⟨hb39.size, fun x hx => by simp only [List.mem_singleton] at hx; omega⟩)
      have LP_40 := LP_39.out c40 (allc (by omega) all0)
      have LF_40 := LF_39.out c40 (allc (by omega) all0)
      have LG_40 := LG_39.out c40 (allc (by omega) all0)
      have PD_40 := PD_39.out c40 (allc (by omega) all0)
      have L7_40 := L7_39.out c40 (allc (by omega) all0)
      have L8_40 := L8_39.out c40 (allc (by omega) all0)
      refine ⟨kx40, ?_⟩
      refine fb_load0 (by first | exact hfn | (rw [List.length_set]; exact hfn)) QF_40 (by omega) fun m57 m58 hm3 => ?_
      have hg2 : ((fs.set x9.toNat (⟨(fs.getD x9.toNat fit00).hole, (fs.getD x9.toNat fit00).hs, (fs.getD x9.toNat fit00).shaft, (fs.getD x9.toNat fit00).ss, ((fs.getD x9.toNat fit00).gap.1, (fs.getD x9.toNat fit00).gap.2 + which.tmod 3)⟩ : Fit)).getD x9.toNat fit00).gap.1 = (fs.getD x9.toNat fit00).gap.1 := by rw [set_getD (by omega), if_pos rfl]
      refine ⟨(by first | omega | rfl | exact ind_cell0 hI (by omega) | exact ind_cell1 hI (by omega) | (simp only [List.length_cons]; omega) | (simp only; omega)), (by first | omega | rfl | exact ind_cell0 hI (by omega) | exact ind_cell1 hI (by omega) | (simp only [List.length_cons]; omega) | (simp only; omega)), (by first | omega | rfl | exact ind_cell0 hI (by omega) | exact ind_cell1 hI (by omega) | (simp only [List.length_cons]; omega) | (simp only; omega)), (by first | omega | rfl | exact ind_cell0 hI (by omega) | exact ind_cell1 hI (by omega) | (simp only [List.length_cons]; omega) | (simp only; omega)), (by first | omega | rfl | exact ind_cell0 hI (by omega) | exact ind_cell1 hI (by omega) | (simp only [List.length_cons]; omega) | (simp only; omega)), ?_⟩
      refine ⟨_, _, rfl, (by first | omega | rfl | exact ind_cell0 hI (by omega) | exact ind_cell1 hI (by omega) | (simp only [List.length_cons]; omega) | (simp only; omega)), ?_⟩
      intro w41 hb41 hk41
      have y41 := hb41.size
      have z41 := hk41.size; have o41 := hk41.own
      simp only [List.mem_cons, List.not_mem_nil, or_false, forall_eq_or_imp, forall_eq] at o41
      have LP_41 := LP_40.ko hk41 (allc (by omega) (allc (by omega) (allc (by omega) (allc (by omega) all0))))
      have LF_41 := LF_40.ko hk41 (allc (by omega) (allc (by omega) (allc (by omega) (allc (by omega) all0))))
      have LG_41 := LG_40.ko hk41 (allc (by omega) (allc (by omega) (allc (by omega) (allc (by omega) all0))))
      have PD_41 := PD_40.ko hk41 (allc (by omega) (allc (by omega) (allc (by omega) (allc (by omega) all0))))
      have L7_41 := L7_40.ko hk41 (allc (by omega) (allc (by omega) (allc (by omega) (allc (by omega) all0))))
      have L8_41 := L8_40.ko hk41 (allc (by omega) (allc (by omega) (allc (by omega) (allc (by omega) all0))))
      have QF_41 := QF_40.ko hk41 (allc (by omega) (allc (by omega) (allc (by omega) (allc (by omega) all0))))
      have hWF2 := hWF.put2 (k := x9.toNat) (by omega)
      rw [show x9.toNat + 1 = (x9 + 1).toNat by omega] at hWF2
      refine fb_store0 QF_41 (by rw [List.length_set]; omega) fun w42 QF_42 c42 => ?_
      have z42 := c42.size
      have kx42 : KeepX true w.heap.size [m25, m24, m7, m1] (fun _ => False) w41 w42 := c42.own (fun x hx => ⟨hk41.own x hx, fun h => by simp only [List.mem_cons, List.not_mem_nil, or_false] at h hx; omega⟩) (by simp) (fun _ => ⟨hb41.size, fun x hx => by simp only [List.mem_singleton] at hx; omega⟩)
      have LP_42 := LP_41.out c42 (allc (by omega) all0)
      have LF_42 := LF_41.out c42 (allc (by omega) all0)
      have LG_42 := LG_41.out c42 (allc (by omega) all0)
      have PD_42 := PD_41.out c42 (allc (by omega) all0)
      have L7_42 := L7_41.out c42 (allc (by omega) all0)
      have L8_42 := L8_41.out c42 (allc (by omega) all0)
      refine ⟨kx42, (by first | omega | rfl | exact ind_cell0 hI (by omega) | exact ind_cell1 hI (by omega) | (simp only [List.length_cons]; omega) | (simp only; omega)), ?_⟩
      intro w43 hb43 hk43
      have y43 := hb43.size
      have z43 := hk43.size; have o43 := hk43.own
      simp only [List.mem_cons, List.not_mem_nil, or_false, forall_eq_or_imp, forall_eq] at o43
      have LP_43 := LP_42.ko hk43 (allc (by omega) (allc (by omega) (allc (by omega) (allc (by omega) all0))))
      have LF_43 := LF_42.ko hk43 (allc (by omega) (allc (by omega) (allc (by omega) (allc (by omega) all0))))
      have LG_43 := LG_42.ko hk43 (allc (by omega) (allc (by omega) (allc (by omega) (allc (by omega) all0))))
      have PD_43 := PD_42.ko hk43 (allc (by omega) (allc (by omega) (allc (by omega) (allc (by omega) all0))))
      have L7_43 := L7_42.ko hk43 (allc (by omega) (allc (by omega) (allc (by omega) (allc (by omega) all0))))
      have L8_43 := L8_42.ko hk43 (allc (by omega) (allc (by omega) (allc (by omega) (allc (by omega) all0))))
      have QF_43 := QF_42.ko hk43 (allc (by omega) (allc (by omega) (allc (by omega) (allc (by omega) all0))))
      refine ⟨?_, (by first | omega | rfl | exact ind_cell0 hI (by omega) | exact ind_cell1 hI (by omega) | (simp only []; omega) | (simp only; omega))⟩
      exact ⟨⟨by omega, by omega⟩, ⟨_, hWF2, QF_43⟩, PD_43, ⟨⟨LP_43, LF_43, LG_43, L7_43, L8_43⟩, by omega⟩⟩
    · intro h14 w44 hb44 hk44
      try simp only [Bool.not_eq_true', Bool.not_eq_false', decide_eq_true_eq, decide_eq_false_iff_not] at h14
      have y44 := hb44.size
      have z44 := hk44.size; have o44 := hk44.own
      simp only [List.mem_cons, List.not_mem_nil, or_false, forall_eq_or_imp, forall_eq] at o44
      have LP_44 := LP.ko hk44 (allc (by omega) (allc (by omega) (allc (by omega) (allc (by omega) all0))))
      have LF_44 := LF.ko hk44 (allc (by omega) (allc (by omega) (allc (by omega) (allc (by omega) all0))))
      have LG_44 := LG.ko hk44 (allc (by omega) (allc (by omega) (allc (by omega) (allc (by omega) all0))))
      have PD_44 := PD.ko hk44 (allc (by omega) (allc (by omega) (allc (by omega) (allc (by omega) all0))))
      have L7_44 := L7.ko hk44 (allc (by omega) (allc (by omega) (allc (by omega) (allc (by omega) all0))))
      have L8_44 := L8.ko hk44 (allc (by omega) (allc (by omega) (allc (by omega) (allc (by omega) all0))))
      have QF_44 := QF.ko hk44 (allc (by omega) (allc (by omega) (allc (by omega) (allc (by omega) all0))))
      refine (loose_v (V := (⟨xs.map (·.2.2), W.fits⟩ : Wk)) hOV hWid.n rfl PD_44.lies.cells L7_44.cells).mono fun e45 w45 he => ?_
      obtain ⟨gb, gcb, rfl, hd45, LB_45⟩ := he
      have hb45 := hb44.trans (hd45.mono hb44.size)
      have z45 := hd45.size
      have hWF3 : WidF W fs (which.tmod 3) ((which.tdiv 3).tmod 3) W.fits.length := by rw [show W.fits.length = x9.toNat by omega]; exact hWF
      have hOV3 := hWF3.ok hW (by omega) (by omega)
      have LP_45 := LP_44.below hd45
      have LF_45 := LF_44.below hd45
      have LG_45 := LG_44.below hd45
      have PD_45 := PD_44.below hd45
      have L7_45 := L7_44.below hd45
      have L8_45 := L8_44.below hd45
      have QF_45 := QF_44.below hd45
      refine ⟨_, _, _, _, rfl, .all hd45, ?_⟩
      intro w46 hb46 hk46
      have y46 := hb46.size
      have z46 := hk46.size; have o46 := hk46.own
      simp only [List.mem_cons, List.not_mem_nil, or_false, forall_eq_or_imp, forall_eq] at o46
      have LP_46 := LP_45.ko hk46 (allc (by omega) (allc (by omega) (allc (by omega) (allc (by omega) all0))))
      have LF_46 := LF_45.ko hk46 (allc (by omega) (allc (by omega) (allc (by omega) (allc (by omega) all0))))
      have LG_46 := LG_45.ko hk46 (allc (by omega) (allc (by omega) (allc (by omega) (allc (by omega) all0))))
      have PD_46 := PD_45.ko hk46 (allc (by omega) (allc (by omega) (allc (by omega) (allc (by omega) all0))))
      have L7_46 := L7_45.ko hk46 (allc (by omega) (allc (by omega) (allc (by omega) (allc (by omega) all0))))
      have L8_46 := L8_45.ko hk46 (allc (by omega) (allc (by omega) (allc (by omega) (allc (by omega) all0))))
      have QF_46 := QF_45.ko hk46 (allc (by omega) (allc (by omega) (allc (by omega) (allc (by omega) all0))))
      have LB_46 := LB_45.ko hk46 (allc (by omega) (allc (by omega) (allc (by omega) (allc (by omega) all0))))
      refine (loose_v (V := (⟨W.pats, fs⟩ : Wk)) hOV3 rfl hWF.n L8_46.cells QF_46.cells).mono fun e47 w47 he => ?_
      obtain ⟨gc3, gcc, rfl, hd47, LC_47⟩ := he
      have hb47 := hb46.trans (hd47.mono hb46.size)
      have z47 := hd47.size
      have hl1 := looseM_len hW
      have hl2 := looseM_lenV hOV
      have hl3 := looseM_lenV hOV3
      have LP_47 := LP_46.below hd47
      have LF_47 := LF_46.below hd47
      have LG_47 := LG_46.below hd47
      have PD_47 := PD_46.below hd47
      have L7_47 := L7_46.below hd47
      have L8_47 := L8_46.below hd47
      have QF_47 := QF_46.below hd47
      have LB_47 := LB_46.below hd47
      refine ⟨_, _, _, _, rfl, .all hd47, ?_, ?_⟩
      · intro h15 w48 hb48 hk48
        try simp only [Bool.not_eq_true', Bool.not_eq_false', decide_eq_true_eq, decide_eq_false_iff_not] at h15
        have y48 := hb48.size
        have z48 := hk48.size; have o48 := hk48.own
        simp only [List.mem_cons, List.not_mem_nil, or_false, forall_eq_or_imp, forall_eq] at o48
        have LP_48 := LP_47.ko hk48 (allc (by omega) (allc (by omega) (allc (by omega) (allc (by omega) all0))))
        have LF_48 := LF_47.ko hk48 (allc (by omega) (allc (by omega) (allc (by omega) (allc (by omega) all0))))
        have LG_48 := LG_47.ko hk48 (allc (by omega) (allc (by omega) (allc (by omega) (allc (by omega) all0))))
        have PD_48 := PD_47.ko hk48 (allc (by omega) (allc (by omega) (allc (by omega) (allc (by omega) all0))))
        have L7_48 := L7_47.ko hk48 (allc (by omega) (allc (by omega) (allc (by omega) (allc (by omega) all0))))
        have L8_48 := L8_47.ko hk48 (allc (by omega) (allc (by omega) (allc (by omega) (allc (by omega) all0))))
        have QF_48 := QF_47.ko hk48 (allc (by omega) (allc (by omega) (allc (by omega) (allc (by omega) all0))))
        have LB_48 := LB_47.ko hk48 (allc (by omega) (allc (by omega) (allc (by omega) (allc (by omega) all0))))
        have LC_48 := LC_47.ko hk48 (allc (by omega) (allc (by omega) (allc (by omega) (allc (by omega) all0))))
        exact ⟨by first | rfl | contradiction | (exfalso; omega) | simp_all, hb48⟩
      · intro h16
        try simp only [] at h16
        refine ⟨?_, ?_⟩
        · intro h17 w49 hb49 hk49
          try simp only [Bool.not_eq_true', Bool.not_eq_false', decide_eq_true_eq, decide_eq_false_iff_not] at h17
          have y49 := hb49.size
          have z49 := hk49.size; have o49 := hk49.own
          simp only [List.mem_cons, List.not_mem_nil, or_false, forall_eq_or_imp, forall_eq] at o49
          have LP_49 := LP_47.ko hk49 (allc (by omega) (allc (by omega) (allc (by omega) (allc (by omega) all0))))
          have LF_49 := LF_47.ko hk49 (allc (by omega) (allc (by omega) (allc (by omega) (allc (by omega) all0))))
          have LG_49 := LG_47.ko hk49 (allc (by omega) (allc (by omega) (allc (by omega) (allc (by omega) all0))))
          have PD_49 := PD_47.ko hk49 (allc (by omega) (allc (by omega) (allc (by omega) (allc (by omega) all0))))
          have L7_49 := L7_47.ko hk49 (allc (by omega) (allc (by omega) (allc (by omega) (allc (by omega) all0))))
          have L8_49 := L8_47.ko hk49 (allc (by omega) (allc (by omega) (allc (by omega) (allc (by omega) all0))))
          have QF_49 := QF_47.ko hk49 (allc (by omega) (allc (by omega) (allc (by omega) (allc (by omega) all0))))
          have LB_49 := LB_47.ko hk49 (allc (by omega) (allc (by omega) (allc (by omega) (allc (by omega) all0))))
          have LC_49 := LC_47.ko hk49 (allc (by omega) (allc (by omega) (allc (by omega) (allc (by omega) all0))))
          exact ⟨by first | rfl | contradiction | (exfalso; omega) | simp_all, hb49⟩
        · intro h18
          try simp only [] at h18
          refine ⟨?_, ?_⟩
          · intro h19 w50 hb50 hk50
            try simp only [Bool.not_eq_true', Bool.not_eq_false', decide_eq_true_eq, decide_eq_false_iff_not] at h19
            have y50 := hb50.size
            have z50 := hk50.size; have o50 := hk50.own
            simp only [List.mem_cons, List.not_mem_nil, or_false, forall_eq_or_imp, forall_eq] at o50
            have LP_50 := LP_47.ko hk50 (allc (by omega) (allc (by omega) (allc (by omega) (allc (by omega) all0))))
            have LF_50 := LF_47.ko hk50 (allc (by omega) (allc (by omega) (allc (by omega) (allc (by omega) all0))))
            have LG_50 := LG_47.ko hk50 (allc (by omega) (allc (by omega) (allc (by omega) (allc (by omega) all0))))
            have PD_50 := PD_47.ko hk50 (allc (by omega) (allc (by omega) (allc (by omega) (allc (by omega) all0))))
            have L7_50 := L7_47.ko hk50 (allc (by omega) (allc (by omega) (allc (by omega) (allc (by omega) all0))))
            have L8_50 := L8_47.ko hk50 (allc (by omega) (allc (by omega) (allc (by omega) (allc (by omega) all0))))
            have QF_50 := QF_47.ko hk50 (allc (by omega) (allc (by omega) (allc (by omega) (allc (by omega) all0))))
            have LB_50 := LB_47.ko hk50 (allc (by omega) (allc (by omega) (allc (by omega) (allc (by omega) all0))))
            have LC_50 := LC_47.ko hk50 (allc (by omega) (allc (by omega) (allc (by omega) (allc (by omega) all0))))
            exact ⟨by first | rfl | contradiction | (exfalso; omega) | simp_all, hb50⟩
          · intro h20 w51 hb51 hk51
            try simp only [] at h20
            have y51 := hb51.size
            have z51 := hk51.size; have o51 := hk51.own
            simp only [List.mem_cons, List.not_mem_nil, or_false, forall_eq_or_imp, forall_eq] at o51
            have LP_51 := LP_47.ko hk51 (allc (by omega) (allc (by omega) (allc (by omega) (allc (by omega) all0))))
            have LF_51 := LF_47.ko hk51 (allc (by omega) (allc (by omega) (allc (by omega) (allc (by omega) all0))))
            have LG_51 := LG_47.ko hk51 (allc (by omega) (allc (by omega) (allc (by omega) (allc (by omega) all0))))
            have PD_51 := PD_47.ko hk51 (allc (by omega) (allc (by omega) (allc (by omega) (allc (by omega) all0))))
            have L7_51 := L7_47.ko hk51 (allc (by omega) (allc (by omega) (allc (by omega) (allc (by omega) all0))))
            have L8_51 := L8_47.ko hk51 (allc (by omega) (allc (by omega) (allc (by omega) (allc (by omega) all0))))
            have QF_51 := QF_47.ko hk51 (allc (by omega) (allc (by omega) (allc (by omega) (allc (by omega) all0))))
            have LB_51 := LB_47.ko hk51 (allc (by omega) (allc (by omega) (allc (by omega) (allc (by omega) all0))))
            have LC_51 := LC_47.ko hk51 (allc (by omega) (allc (by omega) (allc (by omega) (allc (by omega) all0))))
            refine map_mk fun w52 hd52 MA_52 => ?_
            have hb52 := hb51.trans (hd52.mono hb51.size)
            have z52 := hd52.size
            have LP_52 := LP_51.below hd52
            have LF_52 := LF_51.below hd52
            have LG_52 := LG_51.below hd52
            have PD_52 := PD_51.below hd52
            have L7_52 := L7_51.below hd52
            have L8_52 := L8_51.below hd52
            have QF_52 := QF_51.below hd52
            have LB_52 := LB_51.below hd52
            have LC_52 := LC_51.below hd52
            have lMA := MA_52.h.lt
            refine ⟨_, rfl, .all hd52, ?_⟩
            intro w53 hb53 hk53
            have y53 := hb53.size
            have z53 := hk53.size; have o53 := hk53.own
            simp only [List.mem_cons, List.not_mem_nil, or_false, forall_eq_or_imp, forall_eq] at o53
            have LP_53 := LP_52.ko hk53 (allc (by omega) (allc (by omega) (allc (by omega) (allc (by omega) all0))))
            have LF_53 := LF_52.ko hk53 (allc (by omega) (allc (by omega) (allc (by omega) (allc (by omega) all0))))
            have LG_53 := LG_52.ko hk53 (allc (by omega) (allc (by omega) (allc (by omega) (allc (by omega) all0))))
            have PD_53 := PD_52.ko hk53 (allc (by omega) (allc (by omega) (allc (by omega) (allc (by omega) all0))))
            have L7_53 := L7_52.ko hk53 (allc (by omega) (allc (by omega) (allc (by omega) (allc (by omega) all0))))
            have L8_53 := L8_52.ko hk53 (allc (by omega) (allc (by omega) (allc (by omega) (allc (by omega) all0))))
            have QF_53 := QF_52.ko hk53 (allc (by omega) (allc (by omega) (allc (by omega) (allc (by omega) all0))))
            have LB_53 := LB_52.ko hk53 (allc (by omega) (allc (by omega) (allc (by omega) (allc (by omega) all0))))
            have LC_53 := LC_52.ko hk53 (allc (by omega) (allc (by omega) (allc (by omega) (allc (by omega) all0))))
            have MA_53 := MA_52.ko hk53 (allc (by omega) (allc (by omega) (allc (by omega) (allc (by omega) all0))))
            refine map_mk fun w54 hd54 MB_54 => ?_
            have hb54 := hb53.trans (hd54.mono hb53.size)
            have z54 := hd54.size
            have LP_54 := LP_53.below hd54
            have LF_54 := LF_53.below hd54
            have LG_54 := LG_53.below hd54
            have PD_54 := PD_53.below hd54
            have L7_54 := L7_53.below hd54
            have L8_54 := L8_53.below hd54
            have QF_54 := QF_53.below hd54
            have LB_54 := LB_53.below hd54
            have LC_54 := LC_53.below hd54
            have MA_54 := MA_53.below hd54
            have lMB := MB_54.h.lt
            refine ⟨_, rfl, .all hd54, ?_⟩
            intro m72 g_m72
            refine ⟨fun ls w' => match ls with | [.int _ ii] => (0 ≤ ii ∧ ii ≤ (LooseM W).length) ∧ MapAt w51.heap.size (looseF W ii.toNat) w' ∧ MapAt w53.heap.size [] w' ∧ ((Lies [] w5.heap.size w6.heap.size w' ga (gapsV (LooseM W)) ∧ Lies [] w44.heap.size w45.heap.size w' gb (gapsV (LooseM (⟨xs.map (·.2.2), W.fits⟩ : Wk))) ∧ Lies [] w46.heap.size w47.heap.size w' gc3 (gapsV (LooseM (⟨W.pats, fs⟩ : Wk)))) ∧ w53.heap.size < w'.heap.size) | _ => False, fun ls => match ls with | [.int _ ii] => ((LooseM W).length - ii).toNat | _ => 0, ?_, ?_⟩
            · intro w56 hb56 hk56
              have y56 := hb56.size
              have z56 := hk56.size; have o56 := hk56.own
              simp only [List.mem_cons, List.not_mem_nil, or_false, forall_eq_or_imp, forall_eq] at o56
              have LP_56 := LP_54.ko hk56 (allc (by omega) (allc (by omega) (allc (by omega) (allc (by omega) (allc (by omega) all0)))))
              have LF_56 := LF_54.ko hk56 (allc (by omega) (allc (by omega) (allc (by omega) (allc (by omega) (allc (by omega) all0)))))
              have LG_56 := LG_54.ko hk56 (allc (by omega) (allc (by omega) (allc (by omega) (allc (by omega) (allc (by omega) all0)))))
              have PD_56 := PD_54.ko hk56 (allc (by omega) (allc (by omega) (allc (by omega) (allc (by omega) (allc (by omega) all0)))))
              have L7_56 := L7_54.ko hk56 (allc (by omega) (allc (by omega) (allc (by omega) (allc (by omega) (allc (by omega) all0)))))
              have L8_56 := L8_54.ko hk56 (allc (by omega) (allc (by omega) (allc (by omega) (allc (by omega) (allc (by omega) all0)))))
              have QF_56 := QF_54.ko hk56 (allc (by omega) (allc (by omega) (allc (by omega) (allc (by omega) (allc (by omega) all0)))))
              have LB_56 := LB_54.ko hk56 (allc (by omega) (allc (by omega) (allc (by omega) (allc (by omega) (allc (by omega) all0)))))
              have LC_56 := LC_54.ko hk56 (allc (by omega) (allc (by omega) (allc (by omega) (allc (by omega) (allc (by omega) all0)))))
              have MA_56 := MA_54.ko hk56 (allc (by omega) (allc (by omega) (allc (by omega) (allc (by omega) (allc (by omega) all0)))))
              have MB_56 := MB_54.ko hk56 (allc (by omega) (allc (by omega) (allc (by omega) (allc (by omega) (allc (by omega) all0)))))
              exact ⟨⟨by omega, by omega⟩, MA_56, MB_56, ⟨⟨LG_56, LB_56, LC_56⟩, by omega⟩⟩
            rintro x14 w57 hb57 ⟨hx14, MA, MB, ⟨⟨LG, LB, LC⟩, zH⟩⟩
            have y57 := hb57.size
            refine ⟨?_, ?_⟩
            · intro h21
              try simp only [Bool.not_eq_true', Bool.not_eq_false', decide_eq_true_eq, decide_eq_false_iff_not] at h21
              refine load_gapL_0 LG (by omega) fun m73 m74 hm4 => ?_
              refine ⟨(by first | omega | rfl | exact ind_cell0 hI (by omega) | exact ind_cell1 hI (by omega) | (simp only [List.length_cons]; omega) | (simp only; omega)), ?_⟩
              intro w58 hb58 hk58
              have y58 := hb58.size
              have z58 := hk58.size; have o58 := hk58.own
              simp only [List.mem_cons, List.not_mem_nil, or_false, forall_eq_or_imp, forall_eq] at o58
              have LG_58 := LG.kio hk58 (allc (by omega) (allc (by omega) (allc (by omega) (allc (by omega) (allc (by omega) all0))))) ⟨(0, w57.heap.size), by simp, by simp only; omega, by simp only; omega⟩
              have LB_58 := LB.kio hk58 (allc (by omega) (allc (by omega) (allc (by omega) (allc (by omega) (allc (by omega) all0))))) ⟨(0, w57.heap.size), by simp, by simp only; omega, by simp only; omega⟩
              have LC_58 := LC.kio hk58 (allc (by omega) (allc (by omega) (allc (by omega) (allc (by omega) (allc (by omega) all0))))) ⟨(0, w57.heap.size), by simp, by simp only; omega, by simp only; omega⟩
              have MA_58 := MA.kio hk58 (allc (by omega) (allc (by omega) (allc (by omega) (allc (by omega) (allc (by omega) all0)))))
              have MB_58 := MB.kio hk58 (allc (by omega) (allc (by omega) (allc (by omega) (allc (by omega) (allc (by omega) all0)))))
              refine map_add MA_58 (looseF_newV hW.ok (by omega)) fun w59 MA_59 c59 => ?_
              have z59 := c59.size
              have kx59 : KeepX true w.heap.size [m72, m25, m24, m7, m1] (fun _ => False) w58 w59 := c59.own (fun x hx => ⟨hk58.own x hx, fun h => by simp only [List.mem_cons, List.not_mem_nil, or_false] at h hx; omega⟩) (by simp) (fun _ => ⟨hb58.size, fun x hx => by simp only [List.mem_singleton] at hx; omega⟩)
              have LG_59 := LG_58.out c59 (allc (by omega) all0)
              have LB_59 := LB_58.out c59 (allc (by omega) all0)
              have LC_59 := LC_58.out c59 (allc (by omega) all0)
              have MB_59 := MB_58.out c59 (allc (by omega) all0)
              refine ⟨kx59, (by first | omega | rfl | exact ind_cell0 hI (by omega) | exact ind_cell1 hI (by omega) | (simp only [List.length_cons]; omega) | (simp only; omega)), ?_⟩
              intro w60 hb60 hk60
              have y60 := hb60.size
              have z60 := hk60.size; have o60 := hk60.own
              simp only [List.mem_cons, List.not_mem_nil, or_false, forall_eq_or_imp, forall_eq] at o60
              have LG_60 := LG_59.ko hk60 (allc (by omega) (allc (by omega) (allc (by omega) (allc (by omega) (allc (by omega) all0)))))
              have LB_60 := LB_59.ko hk60 (allc (by omega) (allc (by omega) (allc (by omega) (allc (by omega) (allc (by omega) all0)))))
              have LC_60 := LC_59.ko hk60 (allc (by omega) (allc (by omega) (allc (by omega) (allc (by omega) (allc (by omega) all0)))))
              have MA_60 := MA_59.ko hk60 (allc (by omega) (allc (by omega) (allc (by omega) (allc (by omega) (allc (by omega) all0)))))
              have MB_60 := MB_59.ko hk60 (allc (by omega) (allc (by omega) (allc (by omega) (allc (by omega) (allc (by omega) all0)))))
              refine ⟨?_, (by first | omega | rfl | exact ind_cell0 hI (by omega) | exact ind_cell1 hI (by omega) | (simp only []; omega) | (simp only; omega))⟩
              exact ⟨⟨by omega, by omega⟩, by rw [show (x14 + 1).toNat = x14.toNat + 1 by omega, looseF_succ (by omega)]; exact MA_60, MB_60, ⟨⟨LG_60, LB_60, LC_60⟩, by omega⟩⟩
            · intro h22
              try simp only [Bool.not_eq_true', Bool.not_eq_false', decide_eq_true_eq, decide_eq_false_iff_not] at h22
              refine ⟨fun ls w' => match ls with | [.int _ ii] => (0 ≤ ii ∧ ii ≤ (LooseM (⟨xs.map (·.2.2), W.fits⟩ : Wk)).length) ∧ MapAt w51.heap.size ((LooseM W).map (·.fit)) w' ∧ MapAt w53.heap.size (looseF (⟨xs.map (·.2.2), W.fits⟩ : Wk) ii.toNat) w' ∧ ((Lies [] w5.heap.size w6.heap.size w' ga (gapsV (LooseM W)) ∧ Lies [] w44.heap.size w45.heap.size w' gb (gapsV (LooseM (⟨xs.map (·.2.2), W.fits⟩ : Wk))) ∧ Lies [] w46.heap.size w47.heap.size w' gc3 (gapsV (LooseM (⟨W.pats, fs⟩ : Wk)))) ∧ w53.heap.size < w'.heap.size) | _ => False, fun ls => match ls with | [.int _ ii] => ((LooseM (⟨xs.map (·.2.2), W.fits⟩ : Wk)).length - ii).toNat | _ => 0, ?_, ?_⟩
              · intro w62 hb62 hk62
                have y62 := hb62.size
                have z62 := hk62.size; have o62 := hk62.own
                simp only [List.mem_cons, List.not_mem_nil, or_false, forall_eq_or_imp, forall_eq] at o62
                have LG_62 := LG.ko hk62 (allc (by omega) (allc (by omega) (allc (by omega) (allc (by omega) (allc (by omega) all0)))))
                have LB_62 := LB.ko hk62 (allc (by omega) (allc (by omega) (allc (by omega) (allc (by omega) (allc (by omega) all0)))))
                have LC_62 := LC.ko hk62 (allc (by omega) (allc (by omega) (allc (by omega) (allc (by omega) (allc (by omega) all0)))))
                have MA_62 := MA.ko hk62 (allc (by omega) (allc (by omega) (allc (by omega) (allc (by omega) (allc (by omega) all0)))))
                have MB_62 := MB.ko hk62 (allc (by omega) (allc (by omega) (allc (by omega) (allc (by omega) (allc (by omega) all0)))))
                exact ⟨⟨by omega, by omega⟩, by rw [← looseF_all, show (LooseM W).length = x14.toNat by omega]; exact MA_62, MB_62, ⟨⟨LG_62, LB_62, LC_62⟩, by omega⟩⟩
              rintro x16 w63 hb63 ⟨hx16, MA, MB, ⟨⟨LG, LB, LC⟩, zH⟩⟩
              have y63 := hb63.size
              refine ⟨?_, ?_⟩
              · intro h23
                try simp only [Bool.not_eq_true', Bool.not_eq_false', decide_eq_true_eq, decide_eq_false_iff_not] at h23
                refine load_gapL_0 LB (by omega) fun m76 m77 hm5 => ?_
                refine ⟨(by first | omega | rfl | exact ind_cell0 hI (by omega) | exact ind_cell1 hI (by omega) | (simp only [List.length_cons]; omega) | (simp only; omega)), ?_⟩
                intro w64 hb64 hk64
                have y64 := hb64.size
                have z64 := hk64.size; have o64 := hk64.own
                simp only [List.mem_cons, List.not_mem_nil, or_false, forall_eq_or_imp, forall_eq] at o64
                have LG_64 := LG.kio hk64 (allc (by omega) (allc (by omega) (allc (by omega) (allc (by omega) (allc (by omega) all0))))) ⟨(0, w63.heap.size), by simp, by simp only; omega, by simp only; omega⟩
                have LB_64 := LB.kio hk64 (allc (by omega) (allc (by omega) (allc (by omega) (allc (by omega) (allc (by omega) all0))))) ⟨(0, w63.heap.size), by simp, by simp only; omega, by simp only; omega⟩
                have LC_64 := LC.kio hk64 (allc (by omega) (allc (by omega) (allc (by omega) (allc (by omega) (allc (by omega) all0))))) ⟨(0, w63.heap.size), by simp, by simp only; omega, by simp only; omega⟩
                have MA_64 := MA.kio hk64 (allc (by omega) (allc (by omega) (allc (by omega) (allc (by omega) (allc (by omega) all0)))))
                have MB_64 := MB.kio hk64 (allc (by omega) (allc (by omega) (allc (by omega) (allc (by omega) (allc (by omega) all0)))))
                refine map_add MB_64 (looseF_newV hOV (by omega)) fun w65 MB_65 c65 => ?_
                have z65 := c65.size
                have kx65 : KeepX true w.heap.size [m72, m25, m24, m7, m1] (fun _ => False) w64 w65 := c65.own (fun x hx => ⟨hk64.own x hx, fun h => by simp only [List.mem_cons, List.not_mem_nil, or_false] at h hx; omega⟩) (by simp) (fun _ => ⟨hb64.size, fun x hx => by simp only [List.mem_singleton] at hx; omega⟩)
                have LG_65 := LG_64.out c65 (allc (by omega) all0)
                have LB_65 := LB_64.out c65 (allc (by omega) all0)
                have LC_65 := LC_64.out c65 (allc (by omega) all0)
                have MA_65 := MA_64.out c65 (allc (by omega) all0)
                refine ⟨kx65, (by first | omega | rfl | exact ind_cell0 hI (by omega) | exact ind_cell1 hI (by omega) | (simp only [List.length_cons]; omega) | (simp only; omega)), ?_⟩
                intro w66 hb66 hk66
                have y66 := hb66.size
                have z66 := hk66.size; have o66 := hk66.own
                simp only [List.mem_cons, List.not_mem_nil, or_false, forall_eq_or_imp, forall_eq] at o66
                have LG_66 := LG_65.ko hk66 (allc (by omega) (allc (by omega) (allc (by omega) (allc (by omega) (allc (by omega) all0)))))
                have LB_66 := LB_65.ko hk66 (allc (by omega) (allc (by omega) (allc (by omega) (allc (by omega) (allc (by omega) all0)))))
                have LC_66 := LC_65.ko hk66 (allc (by omega) (allc (by omega) (allc (by omega) (allc (by omega) (allc (by omega) all0)))))
                have MA_66 := MA_65.ko hk66 (allc (by omega) (allc (by omega) (allc (by omega) (allc (by omega) (allc (by omega) all0)))))
                have MB_66 := MB_65.ko hk66 (allc (by omega) (allc (by omega) (allc (by omega) (allc (by omega) (allc (by omega) all0)))))
                refine ⟨?_, (by first | omega | rfl | exact ind_cell0 hI (by omega) | exact ind_cell1 hI (by omega) | (simp only []; omega) | (simp only; omega))⟩
                exact ⟨⟨by omega, by omega⟩, MA_66, by rw [show (x16 + 1).toNat = x16.toNat + 1 by omega, looseF_succ (by omega)]; exact MB_66, ⟨⟨LG_66, LB_66, LC_66⟩, by omega⟩⟩
              · intro h24
                try simp only [Bool.not_eq_true', Bool.not_eq_false', decide_eq_true_eq, decide_eq_false_iff_not] at h24
                refine ⟨fun ls w' => match ls with | [.bool _, .int _ ii] => (0 ≤ ii ∧ ii ≤ (LooseM W).length) ∧ MapAt w51.heap.size ((LooseM W).map (·.fit)) w' ∧ MapAt w53.heap.size ((LooseM (⟨xs.map (·.2.2), W.fits⟩ : Wk)).map (·.fit)) w' ∧ ((Lies [] w5.heap.size w6.heap.size w' ga (gapsV (LooseM W)) ∧ Lies [] w44.heap.size w45.heap.size w' gb (gapsV (LooseM (⟨xs.map (·.2.2), W.fits⟩ : Wk))) ∧ Lies [] w46.heap.size w47.heap.size w' gc3 (gapsV (LooseM (⟨W.pats, fs⟩ : Wk)))) ∧ w53.heap.size < w'.heap.size) | _ => False, fun ls => match ls with | [_, .int _ ii] => ((LooseM W).length - ii).toNat | _ => 0, ?_, ?_⟩
                · intro w68 hb68 hk68
                  have y68 := hb68.size
                  have z68 := hk68.size; have o68 := hk68.own
                  simp only [List.mem_cons, List.not_mem_nil, or_false, forall_eq_or_imp, forall_eq] at o68
                  have LG_68 := LG.ko hk68 (allc (by omega) (allc (by omega) (allc (by omega) (allc (by omega) (allc (by omega) all0)))))
                  have LB_68 := LB.ko hk68 (allc (by omega) (allc (by omega) (allc (by omega) (allc (by omega) (allc (by omega) all0)))))
                  have LC_68 := LC.ko hk68 (allc (by omega) (allc (by omega) (allc (by omega) (allc (by omega) (allc (by omega) all0)))))
                  have MA_68 := MA.ko hk68 (allc (by omega) (allc (by omega) (allc (by omega) (allc (by omega) (allc (by omega) all0)))))
                  have MB_68 := MB.ko hk68 (allc (by omega) (allc (by omega) (allc (by omega) (allc (by omega) (allc (by omega) all0)))))
                  exact ⟨⟨by omega, by omega⟩, MA_68, by rw [← looseF_all, show (LooseM (⟨xs.map (·.2.2), W.fits⟩ : Wk)).length = x16.toNat by omega]; exact MB_68, ⟨⟨LG_68, LB_68, LC_68⟩, by omega⟩⟩
                rintro t4 x18 w69 hb69 ⟨hx18, MA, MB, ⟨⟨LG, LB, LC⟩, zH⟩⟩
                have y69 := hb69.size
                refine ⟨?_, ?_⟩
                · intro h25
                  try simp only [Bool.not_eq_true', Bool.not_eq_false', decide_eq_true_eq, decide_eq_false_iff_not] at h25
                  refine load_gapL_0 LG (by omega) fun m79 m80 hm6 => ?_
                  have hin := loose_wide hW hWid (looseF_mem (k := x18.toNat) (by omega))
                  refine ⟨(by first | omega | rfl | exact ind_cell0 hI (by omega) | exact ind_cell1 hI (by omega) | (simp only [List.length_cons]; omega) | (simp only; omega)), ?_⟩
                  intro w70 hb70 hk70
                  have y70 := hb70.size
                  have z70 := hk70.size; have o70 := hk70.own
                  simp only [List.mem_cons, List.not_mem_nil, or_false, forall_eq_or_imp, forall_eq] at o70
                  have LG_70 := LG.kio hk70 (allc (by omega) (allc (by omega) (allc (by omega) (allc (by omega) (allc (by omega) all0))))) ⟨(0, w69.heap.size), by simp, by simp only; omega, by simp only; omega⟩
                  have LB_70 := LB.kio hk70 (allc (by omega) (allc (by omega) (allc (by omega) (allc (by omega) (allc (by omega) all0))))) ⟨(0, w69.heap.size), by simp, by simp only; omega, by simp only; omega⟩
                  have LC_70 := LC.kio hk70 (allc (by omega) (allc (by omega) (allc (by omega) (allc (by omega) (allc (by omega) all0))))) ⟨(0, w69.heap.size), by simp, by simp only; omega, by simp only; omega⟩
                  have MA_70 := MA.kio hk70 (allc (by omega) (allc (by omega) (allc (by omega) (allc (by omega) (allc (by omega) all0)))))
                  have MB_70 := MB.kio hk70 (allc (by omega) (allc (by omega) (allc (by omega) (allc (by omega) (allc (by omega) all0)))))
                  refine map_has MB_70 ?_
                  refine ⟨_, rfl, .all (.refl _ _), ?_, ?_⟩
                  · intro h26 w72 hb72 hk72
                    try simp only [Bool.not_eq_true', decide_eq_false_iff_not] at h26
                    have y72 := hb72.size
                    have z72 := hk72.size; have o72 := hk72.own
                    simp only [List.mem_cons, List.not_mem_nil, or_false, forall_eq_or_imp, forall_eq] at o72
                    have LG_72 := LG_70.ko hk72 (allc (by omega) (allc (by omega) (allc (by omega) (allc (by omega) (allc (by omega) all0)))))
                    have LB_72 := LB_70.ko hk72 (allc (by omega) (allc (by omega) (allc (by omega) (allc (by omega) (allc (by omega) all0)))))
                    have LC_72 := LC_70.ko hk72 (allc (by omega) (allc (by omega) (allc (by omega) (allc (by omega) (allc (by omega) all0)))))
                    have MA_72 := MA_70.ko hk72 (allc (by omega) (allc (by omega) (allc (by omega) (allc (by omega) (allc (by omega) all0)))))
                    have MB_72 := MB_70.ko hk72 (allc (by omega) (allc (by omega) (allc (by omega) (allc (by omega) (allc (by omega) all0)))))
                    exact ⟨by first | rfl | contradiction | (exfalso; omega) | simp_all, hb72⟩
                  · intro h27
                    try simp only [Bool.not_eq_false', decide_eq_true_eq] at h27
                    refine ⟨(by first | omega | rfl | exact ind_cell0 hI (by omega) | exact ind_cell1 hI (by omega) | (simp only [List.length_cons]; omega) | (simp only; omega)), ?_⟩
                    intro w73 hb73 hk73
                    have y73 := hb73.size
                    have z73 := hk73.size; have o73 := hk73.own
                    simp only [List.mem_cons, List.not_mem_nil, or_false, forall_eq_or_imp, forall_eq] at o73
                    have LG_73 := LG_70.ko hk73 (allc (by omega) (allc (by omega) (allc (by omega) (allc (by omega) (allc (by omega) all0)))))
                    have LB_73 := LB_70.ko hk73 (allc (by omega) (allc (by omega) (allc (by omega) (allc (by omega) (allc (by omega) all0)))))
                    have LC_73 := LC_70.ko hk73 (allc (by omega) (allc (by omega) (allc (by omega) (allc (by omega) (allc (by omega) all0)))))
                    have MA_73 := MA_70.ko hk73 (allc (by omega) (allc (by omega) (allc (by omega) (allc (by omega) (allc (by omega) all0)))))
                    have MB_73 := MB_70.ko hk73 (allc (by omega) (allc (by omega) (allc (by omega) (allc (by omega) (allc (by omega) all0)))))
                    refine ⟨?_, (by first | omega | rfl | exact ind_cell0 hI (by omega) | exact ind_cell1 hI (by omega) | (simp only []; omega) | (simp only; omega))⟩
                    exact ⟨⟨by omega, by omega⟩, MA_73, MB_73, ⟨⟨LG_73, LB_73, LC_73⟩, by omega⟩⟩
                · intro h28
                  try simp only [Bool.not_eq_true', Bool.not_eq_false', decide_eq_true_eq, decide_eq_false_iff_not] at h28
                  refine ⟨fun ls w' => match ls with | [.bool _, .int _ ii] => (0 ≤ ii ∧ ii ≤ (LooseM (⟨W.pats, fs⟩ : Wk)).length) ∧ MapAt w51.heap.size ((LooseM W).map (·.fit)) w' ∧ ((Lies [] w5.heap.size w6.heap.size w' ga (gapsV (LooseM W)) ∧ Lies [] w44.heap.size w45.heap.size w' gb (gapsV (LooseM (⟨xs.map (·.2.2), W.fits⟩ : Wk))) ∧ Lies [] w46.heap.size w47.heap.size w' gc3 (gapsV (LooseM (⟨W.pats, fs⟩ : Wk)))) ∧ w53.heap.size < w'.heap.size) | _ => False, fun ls => match ls with | [_, .int _ ii] => ((LooseM (⟨W.pats, fs⟩ : Wk)).length - ii).toNat | _ => 0, ?_, ?_⟩
                  · intro w75 hb75 hk75
                    have y75 := hb75.size
                    have z75 := hk75.size; have o75 := hk75.own
                    simp only [List.mem_cons, List.not_mem_nil, or_false, forall_eq_or_imp, forall_eq] at o75
                    have LG_75 := LG.ko hk75 (allc (by omega) (allc (by omega) (allc (by omega) (allc (by omega) (allc (by omega) all0)))))
                    have LB_75 := LB.ko hk75 (allc (by omega) (allc (by omega) (allc (by omega) (allc (by omega) (allc (by omega) all0)))))
                    have LC_75 := LC.ko hk75 (allc (by omega) (allc (by omega) (allc (by omega) (allc (by omega) (allc (by omega) all0)))))
                    have MA_75 := MA.ko hk75 (allc (by omega) (allc (by omega) (allc (by omega) (allc (by omega) (allc (by omega) all0)))))
                    have MB_75 := MB.ko hk75 (allc (by omega) (allc (by omega) (allc (by omega) (allc (by omega) (allc (by omega) all0)))))
                    exact ⟨⟨by omega, by omega⟩, MA_75, ⟨⟨LG_75, LB_75, LC_75⟩, by omega⟩⟩
                  rintro t6 x20 w76 hb76 ⟨hx20, MA, ⟨⟨LG, LB, LC⟩, zH⟩⟩
                  have y76 := hb76.size
                  refine ⟨?_, ?_⟩
                  · intro h29
                    try simp only [Bool.not_eq_true', Bool.not_eq_false', decide_eq_true_eq, decide_eq_false_iff_not] at h29
                    refine load_gapL_0 LC (by omega) fun m82 m83 hm7 => ?_
                    have hin := loose_gap hW hWF3 (by omega) (by omega) (looseF_mem (k := x20.toNat) (by omega))
                    refine ⟨(by first | omega | rfl | exact ind_cell0 hI (by omega) | exact ind_cell1 hI (by omega) | (simp only [List.length_cons]; omega) | (simp only; omega)), ?_⟩
                    intro w77 hb77 hk77
                    have y77 := hb77.size
                    have z77 := hk77.size; have o77 := hk77.own
                    simp only [List.mem_cons, List.not_mem_nil, or_false, forall_eq_or_imp, forall_eq] at o77
                    have LG_77 := LG.kio hk77 (allc (by omega) (allc (by omega) (allc (by omega) (allc (by omega) (allc (by omega) all0))))) ⟨(0, w76.heap.size), by simp, by simp only; omega, by simp only; omega⟩
                    have LB_77 := LB.kio hk77 (allc (by omega) (allc (by omega) (allc (by omega) (allc (by omega) (allc (by omega) all0))))) ⟨(0, w76.heap.size), by simp, by simp only; omega, by simp only; omega⟩
                    have LC_77 := LC.kio hk77 (allc (by omega) (allc (by omega) (allc (by omega) (allc (by omega) (allc (by omega) all0))))) ⟨(0, w76.heap.size), by simp, by simp only; omega, by simp only; omega⟩
                    have MA_77 := MA.kio hk77 (allc (by omega) (allc (by omega) (allc (by omega) (allc (by omega) (allc (by omega) all0)))))
                    refine map_has MA_77 ?_
                    refine ⟨_, rfl, .all (.refl _ _), ?_, ?_⟩
                    · intro h30 w79 hb79 hk79
                      try simp only [Bool.not_eq_true', decide_eq_false_iff_not] at h30
                      have y79 := hb79.size
                      have z79 := hk79.size; have o79 := hk79.own
                      simp only [List.mem_cons, List.not_mem_nil, or_false, forall_eq_or_imp, forall_eq] at o79
                      have LG_79 := LG_77.ko hk79 (allc (by omega) (allc (by omega) (allc (by omega) (allc (by omega) (allc (by omega) all0)))))
                      have LB_79 := LB_77.ko hk79 (allc (by omega) (allc (by omega) (allc (by omega) (allc (by omega) (allc (by omega) all0)))))
                      have LC_79 := LC_77.ko hk79 (allc (by omega) (allc (by omega) (allc (by omega) (allc (by omega) (allc (by omega) all0)))))
                      have MA_79 := MA_77.ko hk79 (allc (by omega) (allc (by omega) (allc (by omega) (allc (by omega) (allc (by omega) all0)))))
                      exact ⟨by first | rfl | contradiction | (exfalso; omega) | simp_all, hb79⟩
                    · intro h31
                      try simp only [Bool.not_eq_false', decide_eq_true_eq] at h31
                      refine ⟨(by first | omega | rfl | exact ind_cell0 hI (by omega) | exact ind_cell1 hI (by omega) | (simp only [List.length_cons]; omega) | (simp only; omega)), ?_⟩
                      intro w80 hb80 hk80
                      have y80 := hb80.size
                      have z80 := hk80.size; have o80 := hk80.own
                      simp only [List.mem_cons, List.not_mem_nil, or_false, forall_eq_or_imp, forall_eq] at o80
                      have LG_80 := LG_77.ko hk80 (allc (by omega) (allc (by omega) (allc (by omega) (allc (by omega) (allc (by omega) all0)))))
                      have LB_80 := LB_77.ko hk80 (allc (by omega) (allc (by omega) (allc (by omega) (allc (by omega) (allc (by omega) all0)))))
                      have LC_80 := LC_77.ko hk80 (allc (by omega) (allc (by omega) (allc (by omega) (allc (by omega) (allc (by omega) all0)))))
                      have MA_80 := MA_77.ko hk80 (allc (by omega) (allc (by omega) (allc (by omega) (allc (by omega) (allc (by omega) all0)))))
                      refine ⟨?_, (by first | omega | rfl | exact ind_cell0 hI (by omega) | exact ind_cell1 hI (by omega) | (simp only []; omega) | (simp only; omega))⟩
                      exact ⟨⟨by omega, by omega⟩, MA_80, ⟨⟨LG_80, LB_80, LC_80⟩, by omega⟩⟩
                  · intro h32 w81 hb81 hk81
                    try simp only [Bool.not_eq_true', Bool.not_eq_false', decide_eq_true_eq, decide_eq_false_iff_not] at h32
                    have y81 := hb81.size
                    have z81 := hk81.size; have o81 := hk81.own
                    simp only [List.mem_cons, List.not_mem_nil, or_false, forall_eq_or_imp, forall_eq] at o81
                    have LG_81 := LG.ko hk81 (allc (by omega) (allc (by omega) (allc (by omega) (allc (by omega) (allc (by omega) all0)))))
                    have LB_81 := LB.ko hk81 (allc (by omega) (allc (by omega) (allc (by omega) (allc (by omega) (allc (by omega) all0)))))
                    have LC_81 := LC.ko hk81 (allc (by omega) (allc (by omega) (allc (by omega) (allc (by omega) (allc (by omega) all0)))))
                    have MA_81 := MA.ko hk81 (allc (by omega) (allc (by omega) (allc (by omega) (allc (by omega) (allc (by omega) all0)))))
                    refine Pure.calls (known_any) fun w82 hd82 => ?_
                    have hb82 := hb81.trans (hd82.mono hb81.size)
                    have z82 := hd82.size
                    have LG_82 := LG_81.below hd82
                    have LB_82 := LB_81.below hd82
                    have LC_82 := LC_81.below hd82
                    have MA_82 := MA_81.below hd82
                    refine ⟨_, rfl, .all hd82, ?_⟩
                    intro w83 hb83 hk83
                    have y83 := hb83.size
                    have z83 := hk83.size; have o83 := hk83.own
                    simp only [List.mem_cons, List.not_mem_nil, or_false, forall_eq_or_imp, forall_eq] at o83
                    have LG_83 := LG_82.ko hk83 (allc (by omega) (allc (by omega) (allc (by omega) (allc (by omega) (allc (by omega) all0)))))
                    have LB_83 := LB_82.ko hk83 (allc (by omega) (allc (by omega) (allc (by omega) (allc (by omega) (allc (by omega) all0)))))
                    have LC_83 := LC_82.ko hk83 (allc (by omega) (allc (by omega) (allc (by omega) (allc (by omega) (allc (by omega) all0)))))
                    have MA_83 := MA_82.ko hk83 (allc (by omega) (allc (by omega) (allc (by omega) (allc (by omega) (allc (by omega) all0)))))
                    exact ⟨by first | rfl | contradiction | (exfalso; omega) | simp_all, hb83⟩
end Go.Proofs.R12
end
