/- Part 5: own lemmas, and the conditions of the functions. -/
import Derived.Test.YtjljemboankbeaaProg
import Derived.Shelf.SortM.Plain
import Derived.Shelf.SortM.SortNone
import Derived.Ground.SlgmProg
import Derived.Sort.OwnSortedInts
import Derived.Test.YtjljemboankbeaaP04
section
/- Contracts: spares. -/
namespace Go.Proofs.R12
open Go.Vc Go.RowKit Go.Proofs
theorem slice_nil {x y : Operand} {q : Addr} {n c : Nat} {w : World} {R : Value → World → Prop} (h : R (.bool false) w) : RunsTo Try.prog ((eqGuard .eql 38 x y (.slice (some q) n c) (.slice none 0 0)) >>= fun _ => binOp .eql 38 (.slice (some q) n c) (.slice none 0 0)) w R := by
  exact ⟨.bool false, w, by kernel_rfl, h⟩
theorem clone_l {l : List Int} {q : Addr} {c : Nat} {w : World} (hc : Cells w (some q) (ints l)) (hl : l.length ≤ 1000) : Calls Try.prog 75 #[.slice (some q) l.length c] w fun e w' => ∃ a' c', e = .returned (.slice a' l.length c') ∧ Below w.heap.size w w' ∧ RowE 3 1 w.heap.size [] a' l.length c' (ints l) w' := by
  refine vc75 _ _ _ w _ fun w1 hb1 hk1 => slice_nil ⟨false, rfl, .all (.refl _ _), fun h => (by cases h), fun _ m2 h2 w4 hb4 hk4 hc4 => ?_⟩
  refine append_copyE (P := Try.prog) (e := 3) (size := 1) (bytes := 8) (by kernel_rfl) (by omega) (hc.keep hb4) (by simp [ints]) (by omega) (by omega) (fun a' c' w2 hb2 R0 => ⟨a', _, c', rfl, .all hb2, fun w3 hb3 hk3 => ?_⟩)
  have own4 := hk4.own
  have R1 := R0.own own4
  have R2 := R1.chg (Chg.kept hk3) (fun _ h => h)
  refine ⟨a', c', rfl, hb3, ?_⟩
  rcases R2 with h | h
  · exact .inl h
  · exact .inr ((h.less (by simp)).base hb4.size)
theorem cells_tail {w : World} {a : Option Addr} {c : Nat} {l : List Int} (h : Cells w a (ints l)) (hn : 0 < l.length) (hc : l.length ≤ c) : ∃ q, subA a c 1 1 = some q ∧ Cells w (some q) (ints (l.drop 1)) := by
  obtain ⟨b, o, rfl, _⟩ := h 0 _ (ints_get (getElem_of_lt hn))
  unfold subA
  by_cases h1 : c = 1
  · rw [if_pos h1]
    refine ⟨_, rfl, ?_⟩
    rw [List.drop_eq_nil_of_le (by omega)]
    exact Cells.nil
  · rw [if_neg h1]
    refine ⟨⟨b, o + 1, none⟩, by simp [add_spot], fun i v hi => ⟨b, o + 1, rfl, ?_⟩⟩
    have hi' : (ints l)[i + 1]? = some v := by
      have : ints (l.drop 1) = (ints l).drop 1 := by simp [ints]
      rw [this, List.getElem?_drop] at hi
      rw [Nat.add_comm]; exact hi
    have := h.at hi'
    exact cell_at' this (by omega)
theorem clone_tail {orders : List Int} {oa : Option Addr} {oc : Nat} {w : World} (ho : Cells w oa (ints orders)) (hn : 0 < orders.length) (hcap : orders.length ≤ oc) (hol : orders.length ≤ 60) : Calls Try.prog 75 #[.slice (subA oa oc (Int.toNat 1) 1) (orders.length - Int.toNat 1) (oc - Int.toNat 1)] w fun e w' => ∃ a' c', e = .returned (.slice a' (orders.length - Int.toNat 1) c') ∧ Below w.heap.size w w' ∧ RowE 3 1 w.heap.size [] a' (orders.length - Int.toNat 1) c' (ints (orders.drop 1)) w' := by
  obtain ⟨q, e, hq⟩ := cells_tail ho hn hcap
  have hlen : (orders.drop 1).length = orders.length - Int.toNat 1 := by rw [List.length_drop]; rfl
  have := clone_l (c := oc - Int.toNat 1) hq (by rw [List.length_drop]; omega)
  rw [hlen] at this
  have e' : subA oa oc (Int.toNat 1) 1 = some q := e
  rw [e']; exact this
def nexts (orders : List Int) : List Int := orders.drop 1 ++ [201]
def bought (lf : Int) (l : List Con) (orders : List Int) : Nat → Int
  | 0 => 0
  | k + 1 => sumB lf l ((nexts orders).getD k 0) l.length
def outL (lf : Int) (l : List Con) (orders : List Int) (k : Nat) : List Int := (List.range k).map fun i => sumB lf l ((nexts orders).getD i 0) l.length - bought lf l orders i
theorem outL_succ (lf : Int) (l : List Con) (orders : List Int) (k : Nat) : outL lf l orders (k + 1) = outL lf l orders k ++ [sumB lf l ((nexts orders).getD k 0) l.length - bought lf l orders k] := by
  unfold outL; rw [List.range_succ, List.map_append]; rfl
theorem ints_append (l m : List Int) : ints (l ++ m) = ints l ++ ints m := by simp [ints]
def SparesM (lf : Sp) (l : List Con) (orders : List Int) : List Int × Int :=
  if ¬ okS lf 1 200 then ([], 3) else if 50 < l.length ∨ 50 < orders.length then ([], 5) else if ¬ ∀ x ∈ l, okCon x then ([], 2) else if ¬ okOrd orders then ([], 4) else
  if 0 < sumB lf.1 l (orders.getD 0 0) l.length then ([], 9) else (outL lf.1 l orders orders.length, 0)
section
variable {lf : Sp} {l : List Con} {orders : List Int}
theorem SparesM_a (h : ¬ okS lf 1 200) : SparesM lf l orders = ([], 3) := by unfold SparesM; rw [if_pos h]
theorem SparesM_b (h : okS lf 1 200) (h2 : 50 < l.length ∨ 50 < orders.length) : SparesM lf l orders = ([], 5) := by unfold SparesM; rw [if_neg (not_not.2 h), if_pos h2]
theorem SparesM_c (h : okS lf 1 200) (h2 : l.length ≤ 50 ∧ orders.length ≤ 50) (h3 : ¬ ∀ x ∈ l, okCon x) : SparesM lf l orders = ([], 2) := by unfold SparesM; rw [if_neg (not_not.2 h), if_neg (by omega), if_pos h3]
theorem SparesM_d (h : okS lf 1 200) (h2 : l.length ≤ 50 ∧ orders.length ≤ 50) (h3 : ∀ x ∈ l, okCon x) (h4 : ¬ okOrd orders) : SparesM lf l orders = ([], 4) := by unfold SparesM; rw [if_neg (not_not.2 h), if_neg (by omega), if_neg (not_not.2 h3), if_pos h4]
theorem SparesM_e (h : okS lf 1 200) (h2 : l.length ≤ 50 ∧ orders.length ≤ 50) (h3 : ∀ x ∈ l, okCon x) (h4 : okOrd orders) (h5 : 0 < sumB lf.1 l (orders.getD 0 0) l.length) : SparesM lf l orders = ([], 9) := by unfold SparesM; rw [if_neg (not_not.2 h), if_neg (by omega), if_neg (not_not.2 h3), if_neg (not_not.2 h4), if_pos h5]
theorem SparesM_f (h : okS lf 1 200) (h2 : l.length ≤ 50 ∧ orders.length ≤ 50) (h3 : ∀ x ∈ l, okCon x) (h4 : okOrd orders) (h5 : sumB lf.1 l (orders.getD 0 0) l.length ≤ 0) : SparesM lf l orders = (outL lf.1 l orders orders.length, 0) := by unfold SparesM; rw [if_neg (not_not.2 h), if_neg (by omega), if_neg (not_not.2 h3), if_neg (not_not.2 h4), if_neg (by omega)]
theorem ord_bd (h : okOrd orders) : 0 ≤ orders.getD 0 0 ∧ orders.getD 0 0 ≤ 1000 := by
  have := (all_getD (d := 0)).1 h.2.2 0 h.2.1
  omega
theorem nexts_bd (h : okOrd orders) (i : Nat) : 0 ≤ (nexts orders).getD i 0 ∧ (nexts orders).getD i 0 ≤ 1000 := by
  rcases getD_mem (l := nexts orders) (i := i) (d := 0) with e | e
  · rw [e]; omega
  · unfold nexts at e
    rcases List.mem_append.1 e with e | e
    · have := h.2.2 _ (List.mem_of_mem_drop e); unfold nexts; omega
    · have : (nexts orders).getD i 0 = 201 := by unfold nexts; simpa using e
      omega
theorem bought_bd (hc : ∀ x ∈ l, okCon x) (h1 : 1 ≤ lf.1) (h : okOrd orders) (k : Nat) : 0 ≤ bought lf.1 l orders k ∧ bought lf.1 l orders k ≤ 2000000 * l.length := by
  cases k with
  | zero => simp [bought]; omega
  | succ k => exact sumB_bd hc h1 (nexts_bd h k) l.length (Nat.le_refl _)
theorem outL_len (k : Nat) : (outL lf.1 l orders k).length = k := by unfold outL; simp
theorem nexts_len (h : 0 < orders.length) : (nexts orders).length = orders.length := by unfold nexts; simp; omega
end

set_option maxRecDepth 100000 in
set_option maxHeartbeats 1000000 in
theorem spares_l {w : World} (lf : Sp) {l : List Con} {orders : List Int} {la oa : Option Addr} {lc oc : Nat} (hc : Cells w la (consV l)) (ho : Cells w oa (ints orders)) (hl : l.length ≤ 60) (hol : orders.length ≤ 60) (hcap : orders.length ≤ oc) : Calls Try.prog 38 #[spv lf, .slice la l.length lc, .slice oa orders.length oc] w (fun e w' => ∃ a' c', e = .returned (.tuple #[.slice a' (SparesM lf l orders).1.length c', I (SparesM lf l orders).2]) ∧ Below w.heap.size w w' ∧ Lies [] w.heap.size w'.heap.size w' a' (ints (SparesM lf l orders).1)) := by
  refine vc38 _ _ _ _ _ _ _ _ w _ ?_
  intro m1 g_m1 m2 g_m2 w1 hb1 hk1
  have y1 := hb1.size
  have z1 := hk1.size; have o1 := hk1.own
  simp only [List.mem_cons, List.not_mem_nil, or_false, forall_eq_or_imp, forall_eq] at o1
  refine Pure.calls (isSpan_any lf _ _ _) fun w2 hd2 => ?_
  have hb2 := hb1.trans (hd2.mono hb1.size)
  refine ⟨_, rfl, .all hd2, ?_, ?_⟩
  · intro h1 w3 hb3 hk3
    try simp only [Bool.not_eq_true', decide_eq_false_iff_not] at h1
    have y3 := hb3.size
    have z3 := hk3.size; have o3 := hk3.own
    simp only [List.mem_cons, List.not_mem_nil, or_false, forall_eq_or_imp, forall_eq] at o3
    exact ⟨none, 0, by rw [SparesM_a (by assumption)]; rfl, hb3, by rw [SparesM_a (by assumption)]; exact lies_nil⟩
  · intro hL
    try simp only [Bool.not_eq_false', decide_eq_true_eq] at hL
    refine ⟨?_, ?_⟩
    · intro h3
      try simp only [Bool.not_eq_true', Bool.not_eq_false', decide_eq_true_eq, decide_eq_false_iff_not] at h3
      refine ⟨?_, (fun hx => absurd hx (by omega))⟩
      intro h4 w4 hb4 hk4
      try simp only [Bool.not_eq_true', Bool.not_eq_false', decide_eq_true_eq, decide_eq_false_iff_not] at h4
      have y4 := hb4.size
      have z4 := hk4.size; have o4 := hk4.own
      simp only [List.mem_cons, List.not_mem_nil, or_false, forall_eq_or_imp, forall_eq] at o4
      exact ⟨none, 0, by rw [SparesM_b hL (.inl (by omega))]; rfl, hb4, by rw [SparesM_b hL (.inl (by omega))]; exact lies_nil⟩
    · intro h5
      try simp only [Bool.not_eq_true', Bool.not_eq_false', decide_eq_true_eq, decide_eq_false_iff_not] at h5
      refine ⟨?_, ?_⟩
      · intro h6 w27 hb27 hk27
        try simp only [Bool.not_eq_true', Bool.not_eq_false', decide_eq_true_eq, decide_eq_false_iff_not] at h6
        have y27 := hb27.size
        have z27 := hk27.size; have o27 := hk27.own
        simp only [List.mem_cons, List.not_mem_nil, or_false, forall_eq_or_imp, forall_eq] at o27
        exact ⟨none, 0, by rw [SparesM_b hL (.inr (by omega))]; rfl, hb27, by rw [SparesM_b hL (.inr (by omega))]; exact lies_nil⟩
      · intro h7 w28 hb28 hk28
        try simp only [Bool.not_eq_true', Bool.not_eq_false', decide_eq_true_eq, decide_eq_false_iff_not] at h7
        have y28 := hb28.size
        have z28 := hk28.size; have o28 := hk28.own
        simp only [List.mem_cons, List.not_mem_nil, or_false, forall_eq_or_imp, forall_eq] at o28
        refine Pure.calls (by have := contains_con (fi := []) (fc := []) (c := lc) (p := fun x => !decide (okCon x)) (hc.keep hb28) (by omega) ⟨callOk_run (by rfl), fun x hx w4 _ => noCon_any x⟩; rw [any_not] at this; exact this) fun w29 hd29 => ?_
        have hb29 := hb28.trans (hd29.mono hb28.size)
        refine ⟨_, rfl, .all hd29, ?_, ?_⟩
        · intro h8 w30 hb30 hk30
          try simp only [Bool.not_eq_true', decide_eq_false_iff_not] at h8
          have y30 := hb30.size
          have z30 := hk30.size; have o30 := hk30.own
          simp only [List.mem_cons, List.not_mem_nil, or_false, forall_eq_or_imp, forall_eq] at o30
          exact ⟨none, 0, by rw [SparesM_c hL (by omega) (by assumption)]; rfl, hb30, by rw [SparesM_c hL (by omega) (by assumption)]; exact lies_nil⟩
        · intro hcons w31 hb31 hk31
          try simp only [Bool.not_eq_false', decide_eq_true_eq] at hcons
          have y31 := hb31.size
          have z31 := hk31.size; have o31 := hk31.own
          simp only [List.mem_cons, List.not_mem_nil, or_false, forall_eq_or_imp, forall_eq] at o31
          refine Pure.calls (areOrders_any (c := oc) (ho.keep hb31) (by omega)) fun w32 hd32 => ?_
          have hb32 := hb31.trans (hd32.mono hb31.size)
          refine ⟨_, rfl, .all hd32, ?_, ?_⟩
          · intro h10 w33 hb33 hk33
            try simp only [Bool.not_eq_true', decide_eq_false_iff_not] at h10
            have y33 := hb33.size
            have z33 := hk33.size; have o33 := hk33.own
            simp only [List.mem_cons, List.not_mem_nil, or_false, forall_eq_or_imp, forall_eq] at o33
            exact ⟨none, 0, by rw [SparesM_d hL (by omega) hcons (by assumption)]; rfl, hb33, by rw [SparesM_d hL (by omega) hcons (by assumption)]; exact lies_nil⟩
          · intro hord
            try simp only [Bool.not_eq_false', decide_eq_true_eq] at hord
            refine load_int ho hb32 (by have := hord.2.1; omega) fun m33 m34 hm1 => ?_
            have hop := hord.2.1
            have hlf : 1 ≤ lf.1 ∧ lf.1 ≤ 200 := by have := hL; unfold okS at this; omega
            refine ⟨(by first | omega | (simp only; omega)), ?_⟩
            intro w34 hb34 hk34 hc34_m2 hc34_m1
            have y34 := hb34.size
            have z34 := hk34.size; have o34 := hk34.own
            simp only [List.mem_cons, List.not_mem_nil, or_false, forall_eq_or_imp, forall_eq] at o34
            refine Pure.calls (before_any lf (orders.getD 0 0) hlf (ord_bd hord) (hc.keep hb34) hcons hl (cell_obj (vs := [.slice la l.length lc]) hc34_m2 rfl) (cell_obj (vs := [I lf.1, I lf.2]) hc34_m1 rfl)) fun w35 hd35 => ?_
            have hb35 := hb34.trans (hd35.mono hb34.size)
            refine ⟨_, rfl, .all hd35, ?_, ?_⟩
            · intro h12 w36 hb36 hk36
              try simp only [Bool.not_eq_true', Bool.not_eq_false', decide_eq_true_eq, decide_eq_false_iff_not] at h12
              have y36 := hb36.size
              have z36 := hk36.size; have o36 := hk36.own
              simp only [List.mem_cons, List.not_mem_nil, or_false, forall_eq_or_imp, forall_eq] at o36
              exact ⟨none, 0, by rw [SparesM_e hL (by omega) hcons hord (by assumption)]; rfl, hb36, by rw [SparesM_e hL (by omega) hcons hord (by assumption)]; exact lies_nil⟩
            · intro h13
              try simp only [Bool.not_eq_true', Bool.not_eq_false', decide_eq_true_eq, decide_eq_false_iff_not] at h13
              refine ⟨(by first | omega | (simp only; omega)), ?_⟩
              intro w37 hb37 hk37
              have y37 := hb37.size
              have z37 := hk37.size; have o37 := hk37.own
              simp only [List.mem_cons, List.not_mem_nil, or_false, forall_eq_or_imp, forall_eq] at o37
              refine (clone_tail (ho.keep hb37) (by omega) hcap hol).mono fun e38 w38 he => ?_
              obtain ⟨aC, cC, rfl, hd38, RQ⟩ := he
              have hb38 := hb37.trans (hd38.mono hb37.size)
              have z38 := hd38.size
              have RC_38 := RQ.own hk37.own
              refine ⟨_, _, _, rfl, .all hd38, ?_⟩
              intro m41 g_m41 w39 hb39 hk39 hc39_m41
              have y39 := hb39.size
              have z39 := hk39.size; have o39 := hk39.own
              simp only [List.mem_cons, List.not_mem_nil, or_false, forall_eq_or_imp, forall_eq] at o39
              have RC_39 := (RC_38.grow (ms := [m41]) (allc g_m41 all0)).chg (Chg.kept hk39) (fun _ h => h)
              refine append_rowE (P := Try.prog) (bytes := 8) (by kernel_rfl) (by omega) RC_39 (m := 1) (news := [_]) (Cells.obj (vs := [_]) hc39_m41) rfl (List.forall_mem_cons.2 ⟨rfl, by simp⟩) (by omega) (by omega) (by have := hb39.size; omega) hk39.own (by omega) fun aR40 cR40 w40 RC_40r S40 cS40 hS40 => ?_
              have RC_40 : RowE _ _ _ _ _ _ _ _ _ := .inr RC_40r
              have z40 := cS40.size
              have kx40 : KeepX true w.heap.size [m41, m2, m1] (fun _ => False) w39 w40 := cS40.own (fun x hx => ⟨hk39.own x hx, fun h => (hS40 x h).2 hx⟩) (by simp) (fun _ => ⟨hb39.size, fun x hx => by have := (hS40 x hx).1; omega⟩)
              refine ⟨_, _, _, rfl, kx40, ?_⟩
              obtain ⟨g, ⟨gl, gh, gn⟩, AA⟩ := RC_40.lone (by simp)
              simp only [List.mem_append, List.mem_cons, List.not_mem_nil, or_false, not_or] at gn
              have hnx : orders.length - Int.toNat 1 + 1 = (nexts orders).length := by rw [nexts_len (by omega)]; have : Int.toNat 1 = 1 := rfl; omega
              rw [hnx]
              have hnl := nexts_len (orders := orders) (by omega)
              have AA_40 : Lies [] g (g + 1) w40 aR40 (ints (nexts orders)) := by rw [nexts, ints_append]; exact AA
              refine ⟨fun ls w' => match ls with | [.sl a n c, .int _ u, .int _ ii] => (0 ≤ ii ∧ ii ≤ orders.length) ∧ n = (outL lf.1 l orders ii.toNat).length ∧ u = bought lf.1 l orders ii.toNat ∧ w40.heap.size ≤ w'.heap.size ∧ RowE 3 1 w40.heap.size [m41, m2, m1] a n c (ints (outL lf.1 l orders ii.toNat)) w' ∧ Lies [] g (g + 1) w' aR40 (ints (nexts orders)) | _ => False, fun ls => match ls with | [_, _, .int _ ii] => (orders.length - ii).toNat | _ => 0, ?_, ?_⟩
              · intro w42 hb42 hk42
                have y42 := hb42.size
                have z42 := hk42.size; have o42 := hk42.own
                simp only [List.mem_cons, List.not_mem_nil, or_false, forall_eq_or_imp, forall_eq] at o42
                have AA_42 := AA_40.ko hk42 (allc (by omega) (allc (by omega) (allc (by omega) all0)))
                exact ⟨⟨by omega, by omega⟩, rfl, rfl, by omega, .inr Row.nil, AA_42⟩
              rintro a7 m46 m47 x9 x10 w43 hb43 ⟨⟨x0, xl⟩, hn, rfl, zz, RR, AA⟩
              have y43 := hb43.size
              refine ⟨?_, ?_⟩
              · intro h14
                try simp only [Bool.not_eq_true', Bool.not_eq_false', decide_eq_true_eq, decide_eq_false_iff_not] at h14
                refine load_intL AA (by omega) fun m48 m49 hm2 => ?_
                have hb1 := sumB_bd hcons hlf.1 (nexts_bd hord x10.toNat) l.length (Nat.le_refl _)
                have hb2 := bought_bd hcons hlf.1 hord x10.toNat
                have hlo := outL_len (lf := lf) (l := l) (orders := orders) x10.toNat
                refine ⟨(by first | omega | (simp only; omega)), ?_⟩
                intro w44 hb44 hk44 hc44_m2 hc44_m1
                have y44 := hb44.size
                have z44 := hk44.size; have o44 := hk44.own
                simp only [List.mem_cons, List.not_mem_nil, or_false, forall_eq_or_imp, forall_eq] at o44
                have AA_44 := AA.ko hk44 (allc (by omega) (allc (by omega) (allc (by omega) all0)))
                have RR_44 := RR.chg (Chg.kept hk44) (fun _ h => h)
                refine Pure.calls (before_any lf ((nexts orders).getD x10.toNat 0) hlf (nexts_bd hord _) (hc.keep hb44) hcons hl (cell_obj (vs := [.slice la l.length lc]) hc44_m2 rfl) (cell_obj (vs := [I lf.1, I lf.2]) hc44_m1 rfl)) fun w45 hd45 => ?_
                have hb45 := hb44.trans (hd45.mono hb44.size)
                have z45 := hd45.size
                have AA_45 := AA_44.below hd45
                have RR_45 := RR_44.below hd45
                refine ⟨_, rfl, .all hd45, (by first | omega | (simp only; omega)), ?_⟩
                intro m53 g_m53 w46 hb46 hk46 hc46_m53
                have y46 := hb46.size
                have z46 := hk46.size; have o46 := hk46.own
                simp only [List.mem_cons, List.not_mem_nil, or_false, forall_eq_or_imp, forall_eq] at o46
                have AA_46 := AA_45.ko hk46 (allc (by omega) (allc (by omega) (allc (by omega) (allc (by omega) all0))))
                have RR_46 := (RR_45.grow (ms := [m53]) (allc g_m53 all0)).chg (Chg.kept hk46) (fun _ h => h)
                refine append_rowE (P := Try.prog) (bytes := 8) (by kernel_rfl) (by omega) RR_46 (m := 1) (news := [_]) (Cells.obj (vs := [_]) hc46_m53) rfl (List.forall_mem_cons.2 ⟨rfl, by simp⟩) (by omega) (by omega) (by have := hb46.size; omega) hk46.own (by omega) fun aR47 cR47 w47 RR_47r S47 cS47 hS47 => ?_
                have RR_47 : RowE _ _ _ _ _ _ _ _ _ := .inr RR_47r
                have z47 := cS47.size
                have kx47 : KeepX true w.heap.size [m53, m41, m2, m1] (fun _ => False) w46 w47 := cS47.own (fun x hx => ⟨hk46.own x hx, fun h => (hS47 x h).2 hx⟩) (by simp) (fun _ => ⟨hb46.size, fun x hx => by have := (hS47 x hx).1; omega⟩)
                have AA_47 := AA_46.out cS47 (fun x hx => by have := (hS47 x hx).1; omega)
                refine ⟨_, _, _, rfl, kx47, (by first | omega | (simp only; omega)), ?_⟩
                intro w48 hb48 hk48
                have y48 := hb48.size
                have z48 := hk48.size; have o48 := hk48.own
                simp only [List.mem_cons, List.not_mem_nil, or_false, forall_eq_or_imp, forall_eq] at o48
                have AA_48 := AA_47.ko hk48 (allc (by omega) (allc (by omega) (allc (by omega) (allc (by omega) all0))))
                have RR_48 := RR_47.chg (Chg.kept hk48) (fun _ h => h)
                refine ⟨?_, (by first | omega | (simp only; omega))⟩
                exact ⟨⟨by omega, by omega⟩, by rw [show (x10 + 1).toNat = x10.toNat + 1 by omega, outL_succ, List.length_append, hn]; rfl, by rw [show (x10 + 1).toNat = x10.toNat + 1 by omega]; rfl, by omega, by rw [show (x10 + 1).toNat = x10.toNat + 1 by omega, outL_succ, ints_append]; exact RR_48.less (by simp), AA_48⟩
              · intro h15 w49 hb49 hk49
                try simp only [Bool.not_eq_true', Bool.not_eq_false', decide_eq_true_eq, decide_eq_false_iff_not] at h15
                have y49 := hb49.size
                have z49 := hk49.size; have o49 := hk49.own
                simp only [List.mem_cons, List.not_mem_nil, or_false, forall_eq_or_imp, forall_eq] at o49
                have AA_49 := AA.ko hk49 (allc (by omega) (allc (by omega) (allc (by omega) all0)))
                have RR_49 := RR.chg (Chg.kept hk49) (fun _ h => h)
                have hk : x10.toNat = orders.length := by omega
                rw [hk] at hn RR_49
                exact ⟨a7, m47, by rw [SparesM_f hL (by omega) hcons hord (by omega), hn], hb49, by rw [SparesM_f hL (by omega) hcons hord (by omega)]; exact (Lies.new RR_49.cells RR_49.new (by simp)).to (by omega) (by omega)⟩
end Go.Proofs.R12
end
section
/- Contracts: spares, the reference. -/
namespace Go.Proofs.R12
open Go.Vc Go.RowKit Go.Proofs
end Go.Proofs.R12
end
section
/- The conditions of the functions, printed by program; each is what the generator reckons (kernel_rfl). -/
namespace Go.Proofs
open Go.Vc
set_option maxRecDepth 100000 in
set_option maxHeartbeats 2000000 in
theorem vc111 (dataa : Option Addr) (datan : Nat) (datac : Nat) (a : Int) (b : Int) (cmpf : Nat) (cmpi : List Value) (cmpc : List Value) (w : World) (R : Ending → World → Prop) (h
    : (-9223372036854775808 ≤ a + 1 ∧ a + (1 : Int) ≤ 9223372036854775807) ∧ ∃ (F1 : List Lf → World → Prop), ∃ (F2 : List Lf → Nat), (∀ (w2 : World), Kept [] w w2 → F1 [Lf.int
    IntKind.i64 (a + 1)] w2) ∧ ∀ (x1 : Int) (w3 : World), F1 [Lf.int IntKind.i64 x1] w3 → (x1 < b → ∃ (F3 : List Lf → World → Prop), ∃ (F4 : List Lf → Nat), (∀ (w5 : World), Kept
    [] w3 w5 → F3 [Lf.int IntKind.i64 x1] w5) ∧ ∀ (x2 : Int) (w6 : World), F3 [Lf.int IntKind.i64 x2] w6 → (a < x2 → ∃ (m1 : Nat), ∃ (m2 : Nat), dataa = some
    { block := m1, off := m2 } ∧ (0 ≤ x2 ∧ x2 < (↑datan : Int)) ∧ ∃ (x3 : Int), w6.cell? { block := m1, off := m2 + x2.toNat * 1 } = some (Value.int IntKind.i64 x3) ∧
    (-9223372036854775808 ≤ x2 - 1 ∧ x2 - (1 : Int) ≤ 9223372036854775807) ∧ ∃ (m3 : Nat), ∃ (m4 : Nat), dataa = some { block := m3, off := m4 } ∧ (0 ≤ x2 - 1 ∧ x2 - 1 < (↑datan :
    Int)) ∧ ∃ (x4 : Int), w6.cell? { block := m3, off := m4 + (x2 - 1).toNat * 1 } = some (Value.int IntKind.i64 x4) ∧ Callable Try.prog cmpf ∧ ∀ (w7 : World), KeptIn [(0,
    w6.heap.size)] [] w6 w7 → Calls Try.prog cmpf (cmpi ++ [Value.int IntKind.i64 x3, Value.int IntKind.i64 x4] ++ cmpc).toArray w7 fun (e1 : Ending) (w8 : World) => ∃ (x5 : Int),
    e1 = Ending.returned (Value.int IntKind.i64 x5) ∧ KeepX false w.heap.size [] (fun _ => False) w7 w8 ∧ (x5 < 0 → (-9223372036854775808 ≤ x2 - 1 ∧ x2 - (1 : Int) ≤
    9223372036854775807) ∧ ∃ (m6 : Nat), ∃ (m7 : Nat), dataa = some { block := m6, off := m7 } ∧ (0 ≤ x2 - 1 ∧ x2 - 1 < (↑datan : Int)) ∧ ∃ (x6 : Int), w8.cell?
    { block := m6, off := m7 + (x2 - 1).toNat * 1 } = some (Value.int IntKind.i64 x6) ∧ ∃ (m8 : Nat), ∃ (m9 : Nat), dataa = some { block := m8, off := m9 } ∧ (0 ≤ x2 ∧ x2 < (↑datan
    : Int)) ∧ ∃ (x7 : Int), w8.cell? { block := m8, off := m9 + x2.toNat * 1 } = some (Value.int IntKind.i64 x7) ∧ ∃ (m10 : Nat), ∃ (m11 : Nat), dataa = some
    { block := m10, off := m11 } ∧ (0 ≤ x2 ∧ x2 < (↑datan : Int)) ∧ ∀ (w9 : World), KeptIn [(0, w8.heap.size)] [] w8 w9 → RunsTo Try.prog ((Instr.storeAt 3 (Value.pointer (some
    { block := m10, off := m11 + x2.toNat * 1 })) (Value.int IntKind.i64 x6)) >>= fun _ => pure (Value.tuple #[])) w9 fun (v1 : Value) (w10 : World) => KeepX false w.heap.size []
    (fun _ => False) w9 w10 ∧ (-9223372036854775808 ≤ x2 - 1 ∧ x2 - (1 : Int) ≤ 9223372036854775807) ∧ ∃ (m13 : Nat), ∃ (m14 : Nat), dataa = some { block := m13, off := m14 } ∧ (0
    ≤ x2 - 1 ∧ x2 - 1 < (↑datan : Int)) ∧ ∀ (w11 : World), KeptIn [(0, w10.heap.size)] [] w10 w11 → RunsTo Try.prog ((Instr.storeAt 3 (Value.pointer (some
    { block := m13, off := m14 + (x2 - 1).toNat * 1 })) (Value.int IntKind.i64 x7)) >>= fun _ => pure (Value.tuple #[])) w11 fun (v2 : Value) (w12 : World) => KeepX false
    w.heap.size [] (fun _ => False) w11 w12 ∧ (-9223372036854775808 ≤ x2 - 1 ∧ x2 - (1 : Int) ≤ 9223372036854775807) ∧ ∀ (w13 : World), Kept [] w12 w13 → F3 [Lf.int IntKind.i64 (x2
    - 1)] w13 ∧ F4 [Lf.int IntKind.i64 (x2 - 1)] < F4 [Lf.int IntKind.i64 x2]) ∧ (0 ≤ x5 → (-9223372036854775808 ≤ x1 + 1 ∧ x1 + (1 : Int) ≤ 9223372036854775807) ∧ ∀ (w14 : World),
    Kept [] w8 w14 → F1 [Lf.int IntKind.i64 (x1 + 1)] w14 ∧ F2 [Lf.int IntKind.i64 (x1 + 1)] < F2 [Lf.int IntKind.i64 x1])) ∧ (x2 ≤ a → (-9223372036854775808 ≤ x1 + 1 ∧ x1 + (1 :
    Int) ≤ 9223372036854775807) ∧ ∀ (w15 : World), Kept [] w6 w15 → F1 [Lf.int IntKind.i64 (x1 + 1)] w15 ∧ F2 [Lf.int IntKind.i64 (x1 + 1)] < F2 [Lf.int IntKind.i64 x1])) ∧ (b ≤ x1
    → ∀ (w16 : World), Kept [] w3 w16 → R (Ending.returned (Value.tuple #[])) w16)) : Calls Try.prog 111 #[Value.slice dataa datan datac, Value.int IntKind.i64 a, Value.int
    IntKind.i64 b, Value.func (Fn.func cmpf) cmpi.toArray cmpc.toArray] w R := calls_of_vc (pure := false) (wrapAt := []) (muts := []) (esc := []) (args := [SV.pv (PV.one (Lf.sl
    dataa datan datac)), SV.pv (PV.one (Lf.int IntKind.i64 a)), SV.pv (PV.one (Lf.int IntKind.i64 b)), SV.pv (PV.one (Lf.fv cmpf cmpi cmpc))]) (vs := [Value.slice dataa datan
    datac, Value.int IntKind.i64 a, Value.int IntKind.i64 b, Value.func (Fn.func cmpf) cmpi.toArray cmpc.toArray]) Try.func111 rfl rfl rfl (Eq.mp (by kernel_rfl) h) 
set_option maxRecDepth 100000 in
set_option maxHeartbeats 2000000 in
theorem vc98 (dataa : Option Addr) (datan : Nat) (datac : Nat) (n : Int) (cmpf : Nat) (cmpi : List Value) (cmpc : List Value) (w : World) (R : Ending → World → Prop) (h : ∃ (F1 :
    List Lf → World → Prop), ∃ (F2 : List Lf → Nat), (∀ (w2 : World), Kept [] w w2 → F1 [Lf.int IntKind.i64 0, Lf.int IntKind.i64 20] w2) ∧ ∀ (x1 x2 : Int) (w3 : World), F1 [Lf.int
    IntKind.i64 x1, Lf.int IntKind.i64 x2] w3 → (x2 ≤ n → ∀ (w4 : World), Kept [] w3 w4 → Calls Try.prog 111 #[Value.slice dataa datan datac, Value.int IntKind.i64 x1, Value.int
    IntKind.i64 x2, Value.func (Fn.func cmpf) cmpi.toArray cmpc.toArray] w4 fun (e1 : Ending) (w5 : World) => e1 = Ending.returned (Value.tuple #[]) ∧ KeepX false w.heap.size []
    (fun _ => False) w4 w5 ∧ (-9223372036854775808 ≤ x2 + 20 ∧ x2 + (20 : Int) ≤ 9223372036854775807) ∧ ∀ (w6 : World), Kept [] w5 w6 → F1 [Lf.int IntKind.i64 x2, Lf.int
    IntKind.i64 (x2 + 20)] w6 ∧ F2 [Lf.int IntKind.i64 x2, Lf.int IntKind.i64 (x2 + 20)] < F2 [Lf.int IntKind.i64 x1, Lf.int IntKind.i64 x2]) ∧ (n < x2 → ∀ (w7 : World), Kept [] w3
    w7 → Calls Try.prog 111 #[Value.slice dataa datan datac, Value.int IntKind.i64 x1, Value.int IntKind.i64 n, Value.func (Fn.func cmpf) cmpi.toArray cmpc.toArray] w7 fun (e2 :
    Ending) (w8 : World) => e2 = Ending.returned (Value.tuple #[]) ∧ KeepX false w.heap.size [] (fun _ => False) w7 w8 ∧ ∃ (F3 : List Lf → World → Prop), ∃ (F4 : List Lf → Nat), (∀
    (w10 : World), Kept [] w8 w10 → F3 [Lf.int IntKind.i64 20, Lf.int IntKind.i64 x1, Lf.int IntKind.i64 x2] w10) ∧ ∀ (x3 x4 x5 : Int) (w11 : World), F3 [Lf.int IntKind.i64 x3,
    Lf.int IntKind.i64 x4, Lf.int IntKind.i64 x5] w11 → (x3 < n → ((-9223372036854775808 : Int) ≤ 2 * x3 ∧ 2 * x3 ≤ 9223372036854775807) ∧ ∃ (F5 : List Lf → World → Prop), ∃ (F6 :
    List Lf → Nat), (∀ (w13 : World), Kept [] w11 w13 → F5 [Lf.int IntKind.i64 0, Lf.int IntKind.i64 (2 * x3)] w13) ∧ ∀ (x6 x7 : Int) (w14 : World), F5 [Lf.int IntKind.i64 x6,
    Lf.int IntKind.i64 x7] w14 → (x7 ≤ n → (-9223372036854775808 ≤ x6 + x3 ∧ x6 + x3 ≤ 9223372036854775807) ∧ ∀ (w15 : World), Kept [] w14 w15 → Calls Try.prog 112 #[Value.slice
    dataa datan datac, Value.int IntKind.i64 x6, Value.int IntKind.i64 (x6 + x3), Value.int IntKind.i64 x7, Value.func (Fn.func cmpf) cmpi.toArray cmpc.toArray] w15 fun (e3 :
    Ending) (w16 : World) => e3 = Ending.returned (Value.tuple #[]) ∧ KeepX false w.heap.size [] (fun _ => False) w15 w16 ∧ ((-9223372036854775808 : Int) ≤ 2 * x3 ∧ 2 * x3 ≤
    9223372036854775807) ∧ (-9223372036854775808 ≤ x7 + 2 * x3 ∧ x7 + 2 * x3 ≤ 9223372036854775807) ∧ ∀ (w17 : World), Kept [] w16 w17 → F5 [Lf.int IntKind.i64 x7, Lf.int
    IntKind.i64 (x7 + 2 * x3)] w17 ∧ F6 [Lf.int IntKind.i64 x7, Lf.int IntKind.i64 (x7 + 2 * x3)] < F6 [Lf.int IntKind.i64 x6, Lf.int IntKind.i64 x7]) ∧ (n < x7 →
    (-9223372036854775808 ≤ x6 + x3 ∧ x6 + x3 ≤ 9223372036854775807) ∧ (x6 + x3 < n → ∀ (w18 : World), Kept [] w14 w18 → Calls Try.prog 112 #[Value.slice dataa datan datac,
    Value.int IntKind.i64 x6, Value.int IntKind.i64 (x6 + x3), Value.int IntKind.i64 n, Value.func (Fn.func cmpf) cmpi.toArray cmpc.toArray] w18 fun (e4 : Ending) (w19 : World) =>
    e4 = Ending.returned (Value.tuple #[]) ∧ KeepX false w.heap.size [] (fun _ => False) w18 w19 ∧ (-9223372036854775808 ≤ x3 * 2 ∧ x3 * (2 : Int) ≤ 9223372036854775807) ∧ ∀ (w20 :
    World), Kept [] w19 w20 → F3 [Lf.int IntKind.i64 (x3 * 2), Lf.int IntKind.i64 x6, Lf.int IntKind.i64 x7] w20 ∧ F4 [Lf.int IntKind.i64 (x3 * 2), Lf.int IntKind.i64 x6, Lf.int
    IntKind.i64 x7] < F4 [Lf.int IntKind.i64 x3, Lf.int IntKind.i64 x4, Lf.int IntKind.i64 x5]) ∧ (n ≤ x6 + x3 → (-9223372036854775808 ≤ x3 * 2 ∧ x3 * (2 : Int) ≤
    9223372036854775807) ∧ ∀ (w21 : World), Kept [] w14 w21 → F3 [Lf.int IntKind.i64 (x3 * 2), Lf.int IntKind.i64 x6, Lf.int IntKind.i64 x7] w21 ∧ F4 [Lf.int IntKind.i64 (x3 * 2),
    Lf.int IntKind.i64 x6, Lf.int IntKind.i64 x7] < F4 [Lf.int IntKind.i64 x3, Lf.int IntKind.i64 x4, Lf.int IntKind.i64 x5]))) ∧ (n ≤ x3 → ∀ (w22 : World), Kept [] w11 w22 → R
    (Ending.returned (Value.tuple #[])) w22))) : Calls Try.prog 98 #[Value.slice dataa datan datac, Value.int IntKind.i64 n, Value.func (Fn.func cmpf) cmpi.toArray cmpc.toArray] w
    R := calls_of_vc (pure := false) (wrapAt := []) (muts := []) (esc := []) (args := [SV.pv (PV.one (Lf.sl dataa datan datac)), SV.pv (PV.one (Lf.int IntKind.i64 n)), SV.pv
    (PV.one (Lf.fv cmpf cmpi cmpc))]) (vs := [Value.slice dataa datan datac, Value.int IntKind.i64 n, Value.func (Fn.func cmpf) cmpi.toArray cmpc.toArray]) Try.func98 rfl rfl rfl
    (Eq.mp (by kernel_rfl) h) 
set_option maxRecDepth 100000 in
set_option maxHeartbeats 2000000 in
theorem vc90 (xa : Option Addr) (xn : Nat) (xc : Nat) (cmpf : Nat) (cmpi : List Value) (cmpc : List Value) (w : World) (R : Ending → World → Prop) (h : ∀ (w1 : World), Kept [] w w1
    → Calls Try.prog 98 #[Value.slice xa xn xc, Value.int IntKind.i64 (↑xn : Int), Value.func (Fn.func cmpf) cmpi.toArray cmpc.toArray] w1 fun (e1 : Ending) (w2 : World) => e1 =
    Ending.returned (Value.tuple #[]) ∧ KeepX false w.heap.size [] (fun _ => False) w1 w2 ∧ ∀ (w3 : World), Kept [] w2 w3 → R (Ending.returned (Value.tuple #[])) w3) : Calls
    Try.prog 90 #[Value.slice xa xn xc, Value.func (Fn.func cmpf) cmpi.toArray cmpc.toArray] w R := calls_of_vc (pure := false) (wrapAt := []) (muts := []) (esc := []) (args :=
    [SV.pv (PV.one (Lf.sl xa xn xc)), SV.pv (PV.one (Lf.fv cmpf cmpi cmpc))]) (vs := [Value.slice xa xn xc, Value.func (Fn.func cmpf) cmpi.toArray cmpc.toArray]) Try.func90 rfl rfl
    rfl (Eq.mp (by kernel_rfl) h) 
set_option maxRecDepth 100000 in
set_option maxHeartbeats 2000000 in
theorem vc91 (a : Int) (b : Int) (cap0b : Nat) (w : World) (R : Ending → World → Prop) (h : ∃ (a1 : Option Addr), ∃ (m1 : Nat), ∃ (m2 : Nat), w.cell? { block := cap0b, off := 0 } =
    some (Value.slice a1 m1 m2) ∧ ∃ (m3 : Nat), ∃ (m4 : Nat), a1 = some { block := m3, off := m4 } ∧ (0 ≤ a ∧ a < (↑m1 : Int)) ∧ ∃ (x1 : Int), w.cell?
    { block := m3, off := m4 + a.toNat * 1 } = some (Value.int IntKind.i64 x1) ∧ ∃ (a2 : Option Addr), ∃ (m5 : Nat), ∃ (m6 : Nat), w.cell? { block := cap0b, off := 0 } = some
    (Value.slice a2 m5 m6) ∧ ∃ (m7 : Nat), ∃ (m8 : Nat), a2 = some { block := m7, off := m8 } ∧ (0 ≤ b ∧ b < (↑m5 : Int)) ∧ ∃ (x2 : Int), w.cell?
    { block := m7, off := m8 + b.toNat * 1 } = some (Value.int IntKind.i64 x2) ∧ ∀ (w1 : World), RowKit.Below w.heap.size w w1 → KeptIn [(0, w.heap.size)] [] w w1 → Calls Try.prog
    92 #[Value.int IntKind.i64 x1, Value.int IntKind.i64 x2] w1 fun (e1 : Ending) (w2 : World) => ∃ (x3 : Int), e1 = Ending.returned (Value.int IntKind.i64 x3) ∧ KeepX true
    w.heap.size [] (fun _ => False) w1 w2 ∧ ∀ (w3 : World), RowKit.Below w.heap.size w w3 → Kept [] w2 w3 → R (Ending.returned (Value.int IntKind.i64 x3)) w3) : Calls Try.prog 91
    #[Value.int IntKind.i64 a, Value.int IntKind.i64 b, Value.pointer (some { block := cap0b, off := 0 })] w R := calls_of_vc (pure := true) (wrapAt := []) (muts := []) (esc := [])
    (args := [SV.pv (PV.one (Lf.int IntKind.i64 a)), SV.pv (PV.one (Lf.int IntKind.i64 b)), SV.pv (PV.one (Lf.ptr cap0b 0))]) (vs := [Value.int IntKind.i64 a, Value.int IntKind.i64
    b, Value.pointer (some { block := cap0b, off := 0 })]) Try.func91 rfl rfl rfl (Eq.mp (by kernel_rfl) h) 
set_option maxRecDepth 100000 in
set_option maxHeartbeats 2000000 in
theorem vc92 (x : Int) (y : Int) (w : World) (R : Ending → World → Prop) (h : ∀ (w1 : World), RowKit.Below w.heap.size w w1 → Kept [] w w1 → Calls Try.prog 99 #[Value.int
    IntKind.i64 x] w1 fun (e1 : Ending) (w2 : World) => ∃ (t1 : Bool), e1 = Ending.returned (Value.bool t1) ∧ KeepX true w.heap.size [] (fun _ => False) w1 w2 ∧ ∀ (w3 : World),
    RowKit.Below w.heap.size w w3 → Kept [] w2 w3 → Calls Try.prog 99 #[Value.int IntKind.i64 y] w3 fun (e2 : Ending) (w4 : World) => ∃ (t2 : Bool), e2 = Ending.returned
    (Value.bool t2) ∧ KeepX true w.heap.size [] (fun _ => False) w3 w4 ∧ (t1 = true → (t2 = true → ∀ (w5 : World), RowKit.Below w.heap.size w w5 → Kept [] w4 w5 → R
    (Ending.returned (Value.int IntKind.i64 0)) w5) ∧ (t2 = false → ∀ (w6 : World), RowKit.Below w.heap.size w w6 → Kept [] w4 w6 → R (Ending.returned (Value.int IntKind.i64 (-1)))
    w6)) ∧ (t1 = false → (t2 = true → ∀ (w7 : World), RowKit.Below w.heap.size w w7 → Kept [] w4 w7 → R (Ending.returned (Value.int IntKind.i64 1)) w7) ∧ (t2 = false → (x < y → ∀
    (w8 : World), RowKit.Below w.heap.size w w8 → Kept [] w4 w8 → R (Ending.returned (Value.int IntKind.i64 (-1))) w8) ∧ (y ≤ x → (y < x → ∀ (w9 : World), RowKit.Below w.heap.size
    w w9 → Kept [] w4 w9 → R (Ending.returned (Value.int IntKind.i64 1)) w9) ∧ (x ≤ y → ∀ (w10 : World), RowKit.Below w.heap.size w w10 → Kept [] w4 w10 → R (Ending.returned
    (Value.int IntKind.i64 0)) w10))))) : Calls Try.prog 92 #[Value.int IntKind.i64 x, Value.int IntKind.i64 y] w R := calls_of_vc (pure := true) (wrapAt := []) (muts := []) (esc
    := []) (args := [SV.pv (PV.one (Lf.int IntKind.i64 x)), SV.pv (PV.one (Lf.int IntKind.i64 y))]) (vs := [Value.int IntKind.i64 x, Value.int IntKind.i64 y]) Try.func92 rfl rfl
    rfl (Eq.mp (by kernel_rfl) h) 
set_option maxRecDepth 100000 in
set_option maxHeartbeats 2000000 in
theorem vc99 (x : Int) (w : World) (R : Ending → World → Prop) (h : ∀ (w1 : World), RowKit.Below w.heap.size w w1 → Kept [] w w1 → R (Ending.returned (Value.bool (x != x))) w1) :
    Calls Try.prog 99 #[Value.int IntKind.i64 x] w R := calls_of_vc (pure := true) (wrapAt := []) (muts := []) (esc := []) (args := [SV.pv (PV.one (Lf.int IntKind.i64 x))]) (vs :=
    [Value.int IntKind.i64 x]) Try.func99 rfl rfl rfl (Eq.mp (by kernel_rfl) h) 
set_option maxRecDepth 100000 in
set_option maxHeartbeats 2000000 in
theorem vc84 (la : Option Addr) (ln : Nat) (lc : Nat) (w : World) (R : Ending → World → Prop) (h : ∀ (m1 : Nat), w.heap.size ≤ m1 → ∃ (F1 : List Lf → World → Prop), ∃ (F2 : List Lf
    → Nat), (∀ (w2 : World), RowKit.Below w.heap.size w w2 → Kept [m1] w w2 → F1 [Lf.sl none 0 0, Lf.int IntKind.i64 0] w2) ∧ ∀ (a1 : Option Addr) (m2 m3 : Nat) (x1 : Int) (w3 :
    World), RowKit.Below w.heap.size w w3 → F1 [Lf.sl a1 m2 m3, Lf.int IntKind.i64 x1] w3 → (x1 < (↑ln : Int) → ∀ (m4 : Nat), w3.heap.size ≤ m4 → ∀ (w4 : World), RowKit.Below
    w.heap.size w w4 → Kept [m4, m1] w3 w4 → w4.heap[m4]? = some (Obj.cells #[Value.int IntKind.i64 x1] 3) → RunsTo Try.prog (Builtin.append_ #[38, 38] 38 #[Value.slice a1 m2 m3,
    Value.slice (some { block := m4, off := 0 }) 1 1]) w4 fun (v1 : Value) (w5 : World) => ∃ (a2 : Option Addr), ∃ (m6 : Nat), ∃ (m7 : Nat), v1 = Value.slice a2 m6 m7 ∧ KeepX true
    w.heap.size [m4, m1] (fun _ => False) w4 w5 ∧ (-9223372036854775808 ≤ x1 + 1 ∧ x1 + (1 : Int) ≤ 9223372036854775807) ∧ ∀ (w6 : World), RowKit.Below w.heap.size w w6 → Kept [m4,
    m1] w5 w6 → F1 [Lf.sl a2 m6 m7, Lf.int IntKind.i64 (x1 + 1)] w6 ∧ F2 [Lf.sl a2 m6 m7, Lf.int IntKind.i64 (x1 + 1)] < F2 [Lf.sl a1 m2 m3, Lf.int IntKind.i64 x1]) ∧ ((↑ln : Int)
    ≤ x1 → ∀ (w7 : World), RowKit.Below w.heap.size w w7 → Kept [m1] w3 w7 → w7.heap[m1]? = some (Obj.cells #[Value.slice la ln lc] 38) → Calls Try.prog 90 #[Value.slice a1 m2 m3,
    Value.func (Fn.func 91) #[] #[Value.pointer (some { block := m1, off := 0 })]] w7 fun (e1 : Ending) (w8 : World) => e1 = Ending.returned (Value.tuple #[]) ∧ KeepX true
    w.heap.size [m1] (fun _ => False) w7 w8 ∧ ∀ (w9 : World), RowKit.Below w.heap.size w w9 → Kept [m1] w8 w9 → R (Ending.returned (Value.slice a1 m2 m3)) w9)) : Calls Try.prog 84
    #[Value.slice la ln lc] w R := calls_of_vc (pure := true) (wrapAt := []) (muts := []) (esc := []) (args := [SV.pv (PV.one (Lf.sl la ln lc))]) (vs := [Value.slice la ln lc])
    Try.func84 rfl rfl rfl (Eq.mp (by kernel_rfl) h) 
end Go.Proofs
end
section
/- Sorting numbers by a key, stable. -/
namespace Go.Proofs.R12
open Go.Vc Go.RowKit Go.Proofs

def lexLt (key : Int → Int) (x y : Int) : Prop := key x < key y ∨ (key x = key y ∧ x < y)
def Sorted (key : Int → Int) (s : List Int) : Prop := s.Pairwise (lexLt key)
theorem ins_sorted {key : Int → Int} {p1 p2 : List Int} {x : Int} (hs : Sorted key (p1 ++ p2)) (h2 : ∀ y ∈ p2, key x < key y) (hl : ∀ y, p1.getLast? = some y → key y ≤ key x) (hlt : ∀ z ∈ p1, z < x) : Sorted key (p1 ++ x :: p2) := by
  unfold Sorted at *
  rw [List.pairwise_append] at hs ⊢
  obtain ⟨s1, s2, s3⟩ := hs
  refine ⟨s1, List.pairwise_cons.2 ⟨fun y hy => .inl (h2 y hy), s2⟩, fun z hz y hy => ?_⟩
  rcases List.mem_cons.1 hy with rfl | hy
  · have hk : key z ≤ key y := by
      rcases List.eq_nil_or_concat p1 with rfl | ⟨q, u, rfl⟩
      · simp at hz
      · have hu := hl u (by simp)
        rcases List.mem_append.1 (by simpa using hz : z ∈ q ++ [u]) with h | h
        · have := (List.pairwise_append.1 (by simpa using s1 : List.Pairwise (lexLt key) (q ++ [u]))).2.2 z h u (by simp)
          unfold lexLt at this; omega
        · have : z = u := by simpa using h
          rw [this]; exact hu
    have := hlt z hz
    unfold lexLt; omega
  · exact s3 z hz y hy
/-- What a comparison answers, as long as only block g changes. -/
def CmpOk (f : Nat) (fi fc : List Value) (key : Int → Int) (S : Int → Prop) (g : Nat) (w0 : World) : Prop :=
  Callable Try.prog f ∧ ∀ w, Chg [g] w0 w → ∀ x y, S x → S y → Calls Try.prog f (fi ++ [I x, I y] ++ fc).toArray w fun e w' => ∃ r, e = .returned (I r) ∧ Below w.heap.size w w' ∧ (r < 0 ↔ key x < key y)
theorem CmpOk.chg {f : Nat} {fi fc : List Value} {key : Int → Int} {S : Int → Prop} {g : Nat} {w0 w1 : World} (h : CmpOk f fi fc key S g w0) (hc : Chg [g] w0 w1) : CmpOk f fi fc key S g w1 := ⟨h.1, fun w hw => h.2 w (hc.trans hw)⟩
theorem swap_sets (A B : List Int) (x y : Int) : ((A ++ y :: x :: B).set (A.length + 1) y).set A.length x = A ++ x :: y :: B := by
  rw [List.set_append_right _ _ (by omega), List.set_append_right _ _ (by omega)]
  simp
theorem getD_mid (A B : List Int) (x d : Int) : (A ++ x :: B).getD A.length d = x := by simp
theorem getD_prev (A B : List Int) (x y d : Int) : (A ++ y :: x :: B).getD A.length d = y := by simp
def A1 (g : Nat) : Option Addr := some ⟨g, 0, none⟩
section
variable {B n c g : Nat} {ns : List Nat} {l : List Int} {w : World}
theorem row_load (h : Row 3 1 B ns (some ⟨g, 0, none⟩) n c (ints l) w) {i : Int} (hi : 0 ≤ i ∧ i < l.length) {x : Int} (hx : l.getD i.toNat 0 = x) : w.cell? ⟨g, 0 + i.toNat * 1, none⟩ = some (I x) := by
  have hi' : i.toNat < l.length := by omega
  have := h.cells.at (ints_get (getElem_of_lt hi'))
  rw [← hx, List.getD_eq_getElem?_getD, getElem_of_lt hi']
  exact cell_at' this (by omega)
theorem row_store (h : Row 3 1 B ns (some ⟨g, 0, none⟩) n c (ints l) w) {i : Int} (hi : 0 ≤ i ∧ i < n) {x : Int} {R : Value → World → Prop}
    (hR : ∀ w', Row 3 1 B ns (some ⟨g, 0, none⟩) n c (ints (l.set i.toNat x)) w' → Chg [g] w w' → R (.tuple #[]) w') : RunsTo Try.prog ((Instr.storeAt 3 (.pointer (some ⟨g, 0 + i.toNat * 1, none⟩)) (I x)) >>= fun _ => pure (Value.tuple #[])) w R := by
  rw [show 0 + i.toNat * 1 = i.toNat by omega]
  exact row_set (P := Try.prog) (t := 3) (by kernel_rfl) (by kernel_rfl) h (by omega) (v := I x) trivial fun w' h1 h2 => hR w' (by simpa [ints, List.map_set] using h1) h2
theorem keep_false {S : List Nat} {w w' : World} {B : Nat} (h : Chg S w w') : KeepX false B [] (fun _ => False) w w' := h.own (by simp) (by simp) (fun h => by cases h)
theorem kept0 {w w' : World} (h : Kept [] w w') : Chg [g] w w' := (Chg.kept h).mono (by simp)
theorem keptin0 {w w' : World} {rs : List (Nat × Nat)} (h : KeptIn ((0, w.heap.size) :: rs) [] w w') : Chg [g] w w' := (KeptIn.chg h).mono (by simp)
end

set_option maxHeartbeats 1000000 in
theorem isort_l {f : Nat} {fi fc : List Value} {key : Int → Int} {B n c g : Nat} {ns : List Nat} {l : List Int} {w : World} {a b : Nat} (hR : Row 3 1 B ns (some ⟨g, 0, none⟩) n c (ints l) w) (hg : g ∉ ns) (hab : a ≤ b) (hbn : b ≤ n) (hn : n ≤ 100000)
    (hinc : ∀ j k, a ≤ j → j < k → k < b → l.getD j 0 < l.getD k 0) (hf : CmpOk f fi fc key (· ∈ l) g w) :
    Calls Try.prog 111 #[.slice (some ⟨g, 0, none⟩) n c, I a, I b, .func (.func f) fi.toArray fc.toArray] w fun e w' => e = .returned (.tuple #[]) ∧ Chg [g] w w' ∧ ∃ s, Row 3 1 B ns (some ⟨g, 0, none⟩) n c (ints (l.take a ++ s ++ l.drop b)) w' ∧ s.Perm ((l.drop a).take (b - a)) ∧ Sorted key s := by
  have hlen : l.length = n := by have := hR.len; simp [ints] at this; omega
  by_cases hlt : a < b
  rotate_left
  · have : a = b := by omega
    subst this
    refine vc111 _ _ _ _ _ _ _ _ w _ ⟨by omega, fun ls w' => match ls with | [.int _ i] => i = (a : Int) + 1 ∧ Chg [g] w w' ∧ Row 3 1 B ns (some ⟨g, 0, none⟩) n c (ints l) w' | _ => False, fun _ => 0, fun w2 hk => ⟨rfl, kept0 hk, hR.chg (Chg.kept hk) (by simp)⟩, ?_⟩
    rintro x1 w3 ⟨rfl, hc, R3⟩
    refine ⟨fun h => by omega, fun _ w16 hk => ⟨rfl, hc.trans (kept0 hk), [], by simpa using R3.chg (Chg.kept hk) (by simp), by simp, List.Pairwise.nil⟩⟩
  refine vc111 _ _ _ _ _ _ _ _ w _ ⟨by omega, fun ls w' => match ls with | [.int _ i] => ((a : Int) + 1 ≤ i ∧ i ≤ b) ∧ Chg [g] w w' ∧ ∃ p, Row 3 1 B ns (some ⟨g, 0, none⟩) n c (ints (l.take a ++ p ++ l.drop i.toNat)) w' ∧ p.Perm ((l.drop a).take (i.toNat - a)) ∧ Sorted key p | _ => False, fun ls => match ls with | [.int _ i] => (b - i).toNat | _ => 0, fun w2 hk => ?_, ?_⟩
  · refine ⟨⟨by omega, by omega⟩, kept0 hk, [l.getD a 0], ?_, ?_, by simp [Sorted]⟩
    · have : l.take a ++ [l.getD a 0] ++ l.drop ((a : Int) + 1).toNat = l := by
        rw [show ((a : Int) + 1).toNat = a + 1 by omega, ← take_getD (by omega), List.take_append_drop]
      rw [this]; exact hR.chg (Chg.kept hk) (by simp)
    · rw [show ((a : Int) + 1).toNat - a = 0 + 1 by omega, take_getD (d := 0) (by rw [List.length_drop]; omega)]
      simp [List.getD_eq_getElem?_getD]
  rintro x1 w3 ⟨⟨i1, i2⟩, hc3, p, R3, hp, hs⟩
  have hpl : p.length = x1.toNat - a := by rw [hp.length_eq, List.length_take, List.length_drop]; omega
  refine ⟨fun hi => ?_, fun hge w16 hk => ⟨rfl, hc3.trans (kept0 hk), p, by rw [show b = x1.toNat by omega]; exact R3.chg (Chg.kept hk) (by simp), by rw [show b = x1.toNat by omega]; exact hp, hs⟩⟩
  -- one element more
  have hdrop : l.drop x1.toNat = l.getD x1.toNat 0 :: l.drop (x1.toNat + 1) := by
    rw [List.drop_eq_getElem_cons (by omega), List.getD_eq_getElem?_getD, getElem_of_lt (by omega)]; rfl
  have hxm : l.getD x1.toNat 0 ∈ l := by rcases getD_mem (l := l) (i := x1.toNat) (d := 0) with e | e; (rw [List.getD_eq_getElem?_getD, getElem_of_lt (by omega)]; exact List.getElem_mem _); exact e
  have hpm : ∀ z ∈ p, z ∈ l ∧ z < l.getD x1.toNat 0 := fun z hz => by
    have hz' := hp.subset hz
    obtain ⟨k, hk, rfl⟩ := List.mem_iff_getElem.1 hz'
    have hk' : k < x1.toNat - a := by rw [List.length_take] at hk; omega
    have e : ((l.drop a).take (x1.toNat - a))[k] = l.getD (a + k) 0 := by
      rw [List.getElem_take, List.getElem_drop, List.getD_eq_getElem?_getD, getElem_of_lt (by omega)]; rfl
    rw [e]
    refine ⟨?_, hinc _ _ (by omega) (by omega) (by omega)⟩
    rw [List.getD_eq_getElem?_getD, getElem_of_lt (by omega)]; exact List.getElem_mem _
  generalize hx : l.getD x1.toNat 0 = x at *
  refine ⟨fun ls w' => match ls with | [.int _ j] => Chg [g] w w' ∧ ∃ p1 p2, p1 ++ p2 = p ∧ j = (a : Int) + p1.length ∧ Row 3 1 B ns (some ⟨g, 0, none⟩) n c (ints ((l.take a ++ p1) ++ x :: (p2 ++ l.drop (x1.toNat + 1)))) w' ∧ ∀ y ∈ p2, key x < key y | _ => False, fun ls => match ls with | [.int _ j] => j.toNat | _ => 0, fun w5 hk => ⟨hc3.trans (kept0 hk), p, [], by simp, by omega, ?_, by simp⟩, ?_⟩
  · rw [hdrop] at R3
    exact R3.chg (Chg.kept hk) (by simp)
  have done : ∀ {p1 p2 : List Int} {w6 w' : World}, Chg [g] w w6 → Kept [] w6 w' → p1 ++ p2 = p → Row 3 1 B ns (some ⟨g, 0, none⟩) n c (ints ((l.take a ++ p1) ++ x :: (p2 ++ l.drop (x1.toNat + 1)))) w6 → (∀ y ∈ p2, key x < key y) → (∀ y, p1.getLast? = some y → key y ≤ key x) →
      ((a : Int) + 1 ≤ x1 + 1 ∧ x1 + 1 ≤ b) ∧ Chg [g] w w' ∧ ∃ p, Row 3 1 B ns (some ⟨g, 0, none⟩) n c (ints (l.take a ++ p ++ l.drop (x1 + 1).toNat)) w' ∧ p.Perm ((l.drop a).take ((x1 + 1).toNat - a)) ∧ Sorted key p := fun {p1 p2 w6 w'} hc hk hpp R h2 hla => by
    refine ⟨⟨by omega, by omega⟩, hc.trans (kept0 hk), p1 ++ x :: p2, ?_, ?_, ins_sorted (by rw [hpp]; exact hs) h2 hla fun z hz => (hpm z (by rw [← hpp]; exact List.mem_append_left _ hz)).2⟩
    · rw [show (x1 + 1).toNat = x1.toNat + 1 by omega]
      have := R.chg (Chg.kept hk) (by simp)
      simpa [List.append_assoc] using this
    · rw [show (x1 + 1).toNat - a = (x1.toNat - a) + 1 by omega, take_getD (d := 0) (by rw [List.length_drop]; omega)]
      have e : (l.drop a).getD (x1.toNat - a) 0 = x := by rw [← hx, List.getD_eq_getElem?_getD, List.getElem?_drop, List.getD_eq_getElem?_getD, show a + (x1.toNat - a) = x1.toNat by omega]
      rw [e]
      have h1 : (p1 ++ x :: p2).Perm (x :: (p1 ++ p2)) := List.perm_middle
      rw [hpp] at h1
      exact h1.trans ((List.perm_append_comm (l₁ := [x]) (l₂ := p)).trans (hp.append_right [x]))
  have hta : (l.take a).length = a := by rw [List.length_take]; omega
  rintro x2 w6 ⟨hc6, p1, p2, hpp, rfl, R6, h2⟩
  have hlp : p1.length + p2.length = x1.toNat - a := by rw [← hpl, ← hpp, List.length_append]
  refine ⟨fun hj => ?_, fun hj => ⟨by omega, fun w15 hk => ⟨done hc6 hk hpp R6 h2 fun y hy => ?_, ?_⟩⟩⟩
  rotate_left
  · have : p1 = [] := List.length_eq_zero_iff.1 (by omega)
    rw [this] at hy; simp at hy
  · show ((b : Int) - (x1 + 1)).toNat < ((b : Int) - x1).toNat
    omega
  rcases List.eq_nil_or_concat p1 with rfl | ⟨q, y, hq⟩
  · simp at hj
  have hq : p1 = q ++ [y] := by simpa using hq
  subst hq
  have hql : (q ++ [y]).length = q.length + 1 := by simp
  have hL : ((l.take a ++ (q ++ [y])) ++ x :: (p2 ++ l.drop (x1.toNat + 1))) = (l.take a ++ q) ++ y :: x :: (p2 ++ l.drop (x1.toNat + 1)) := by simp
  have hAl : (l.take a ++ q).length = a + q.length := by rw [List.length_append, hta]
  have hLl : ((l.take a ++ q) ++ y :: x :: (p2 ++ l.drop (x1.toNat + 1))).length = n := by
    have := R6.len; rw [hL] at this; simpa [ints] using this
  rw [hL] at R6
  have gx : ((l.take a ++ q) ++ y :: x :: (p2 ++ l.drop (x1.toNat + 1))).getD ((a : Int) + (q ++ [y]).length).toNat 0 = x := by
    have := getD_mid ((l.take a ++ q) ++ [y]) (p2 ++ l.drop (x1.toNat + 1)) x 0
    rw [List.length_append, hAl] at this
    rw [hql, show ((a : Int) + ((q.length + 1 : Nat) : Int)).toNat = a + q.length + [y].length by simp; omega]
    simpa [List.append_assoc] using this
  have gy : ((l.take a ++ q) ++ y :: x :: (p2 ++ l.drop (x1.toNat + 1))).getD ((a : Int) + (q ++ [y]).length - 1).toNat 0 = y := by
    have := getD_prev (l.take a ++ q) (p2 ++ l.drop (x1.toNat + 1)) x y 0
    rw [hAl] at this
    rw [hql, show ((a : Int) + ((q.length + 1 : Nat) : Int) - 1).toNat = a + q.length by omega]
    exact this
  have hyp : y ∈ p := by rw [← hpp]; simp
  refine ⟨g, 0, rfl, ⟨by omega, by omega⟩, x, row_load R6 (by omega) gx, by omega, g, 0, rfl, ⟨by omega, by omega⟩, y, row_load R6 (by omega) gy, hf.1, fun w7 hk7 => ?_⟩
  have hc7 := hc6.trans (keptin0 (g := g) hk7)
  refine (hf.2 w7 hc7 x y hxm (hpm y hyp).1).mono fun e w8 he => ?_
  obtain ⟨r, rfl, hb8, hr⟩ := he
  have hc8 := hc7.trans (Chg.of_below (S := [g]) hb8)
  have R8 := (R6.chg (KeptIn.chg hk7) (by simp)).below hb8
  refine ⟨r, rfl, .all hb8, fun hneg => ⟨by omega, g, 0, rfl, ⟨by omega, by omega⟩, y, row_load R8 (by omega) gy, g, 0, rfl, ⟨by omega, by omega⟩, x, row_load R8 (by omega) gx, g, 0, rfl, ⟨by omega, by omega⟩, fun w9 hk9 => ?_⟩, fun hpos => ⟨by omega, fun w14 hk => ⟨done hc8 hk hpp (by rw [hL]; exact R8) h2 fun y' hy' => ?_, ?_⟩⟩⟩
  rotate_left
  · have : y' = y := by simpa using hy'.symm
    rw [this]
    have : ¬ key x < key y := fun h => by have := hr.2 h; omega
    omega
  · show ((b : Int) - (x1 + 1)).toNat < ((b : Int) - x1).toNat
    omega
  refine row_store (R8.chg (KeptIn.chg hk9) (by simp)) (by omega) fun w10 R10 c10 => ⟨keep_false c10, by omega, g, 0, rfl, ⟨by omega, by omega⟩, fun w11 hk11 => ?_⟩
  refine row_store (R10.chg (KeptIn.chg hk11) (by simp)) (by omega) fun w12 R12 c12 => ⟨keep_false c12, by omega, fun w13 hk13 => ⟨⟨?_, q, y :: p2, ?_, by omega, ?_, ?_⟩, ?_⟩⟩
  · exact (((hc8.trans (keptin0 hk9)).trans c10).trans (keptin0 hk11)).trans (c12.trans (kept0 hk13))
  · rw [← hpp]; simp
  · have := R12.chg (Chg.kept hk13) (by simp)
    have es := swap_sets (l.take a ++ q) (p2 ++ l.drop (x1.toNat + 1)) x y
    rw [hAl] at es
    rw [show ((a : Int) + (q ++ [y]).length).toNat = a + q.length + 1 by rw [hql]; omega, show ((a : Int) + (q ++ [y]).length - 1).toNat = a + q.length by rw [hql]; omega, es] at this
    simpa using this
  · intro z hz
    rcases List.mem_cons.1 hz with rfl | hz
    · exact hr.1 hneg
    · exact h2 z hz
  · show ((a : Int) + (q ++ [y]).length - 1).toNat < ((a : Int) + (q ++ [y]).length).toNat
    rw [hql]; omega
end Go.Proofs.R12
end
section
/- The merging of two sorted parts of a row (plain). -/
namespace Go.Proofs.R12
open Go.Vc Go.RowKit Go.Proofs
section
variable {key : Int → Int}
theorem merge_halves {X1 X2 Y1 Y2 Z1 Z2 : List Int} (hX : Sorted key (X1 ++ X2)) (hY : Sorted key (Y1 ++ Y2)) (hsep : ∀ x ∈ X1 ++ X2, ∀ y ∈ Y1 ++ Y2, x < y)
    (c1 : ∀ x ∈ X1, ∀ y ∈ Y2, key x ≤ key y) (c2 : ∀ y ∈ Y1, ∀ x ∈ X2, key y < key x)
    (h1 : Z1.Perm (X1 ++ Y1)) (s1 : Sorted key Z1) (h2 : Z2.Perm (X2 ++ Y2)) (s2 : Sorted key Z2) : Sorted key (Z1 ++ Z2) ∧ (Z1 ++ Z2).Perm ((X1 ++ X2) ++ (Y1 ++ Y2)) := by
  constructor
  · unfold Sorted at *
    rw [List.pairwise_append] at hX hY ⊢
    refine ⟨s1, s2, fun u hu v hv => ?_⟩
    have hu := h1.subset hu
    have hv := h2.subset hv
    rcases List.mem_append.1 hu with hu | hu <;> rcases List.mem_append.1 hv with hv | hv
    · exact hX.2.2 u hu v hv
    · have g1 := c1 u hu v hv
      have g2 := hsep u (List.mem_append_left _ hu) v (List.mem_append_right _ hv)
      unfold lexLt; omega
    · exact .inl (c2 u hu v hv)
    · exact hY.2.2 u hu v hv
  · refine (h1.append h2).trans ?_
    rw [List.append_assoc, List.append_assoc]
    refine List.Perm.append_left _ ?_
    rw [← List.append_assoc, ← List.append_assoc]
    exact List.perm_append_comm.append_right _
theorem sorted_mono {l : List Int} (h : Sorted key l) {i j : Nat} (hij : i ≤ j) (hj : j < l.length) : key (l.getD i 0) ≤ key (l.getD j 0) := by
  by_cases e : i = j
  · subst e; exact Int.le_refl _
  · have := List.pairwise_iff_getElem.1 h i j (by omega) hj (by omega)
    rw [List.getD_eq_getElem?_getD, List.getD_eq_getElem?_getD, getElem_of_lt hj, getElem_of_lt (show i < l.length by omega)]
    unfold lexLt at this
    simp only [Option.getD_some]; omega
/-- Four parts of a row. -/
theorem get_X {A X R : List Int} {i : Nat} (h1 : A.length ≤ i) (h2 : i < A.length + X.length) : (A ++ (X ++ R)).getD i 0 = X.getD (i - A.length) 0 := by
  rw [List.getD_eq_getElem?_getD, List.getD_eq_getElem?_getD, List.getElem?_append_right h1, List.getElem?_append_left (by omega)]
theorem mem_idx {l : List Int} {x : Int} (h : x ∈ l) : ∃ i, i < l.length ∧ l.getD i 0 = x := by
  obtain ⟨i, hi, e⟩ := List.mem_iff_getElem.1 h
  exact ⟨i, hi, by rw [List.getD_eq_getElem?_getD, getElem_of_lt hi]; exact e⟩
/-- A row where it was found that the first part of X is not greater than the last one of Y, and the last part of X is greater than the first one of Y. -/
theorem cut_parts {A X Y C : List Int} {p q : Nat} (hX : Sorted key X) (hY : Sorted key Y) (hp : p ≤ X.length) (hq : q ≤ Y.length)
    (e1 : 0 < p → q < Y.length → key (X.getD (p - 1) 0) ≤ key (Y.getD q 0)) (e2 : p < X.length → 0 < q → key (Y.getD (q - 1) 0) < key (X.getD p 0)) :
    (∀ x ∈ X.take p, ∀ y ∈ Y.drop q, key x ≤ key y) ∧ (∀ y ∈ Y.take q, ∀ x ∈ X.drop p, key y < key x) := by
  constructor
  · intro x hx y hy
    obtain ⟨i, hi, rfl⟩ := mem_idx hx
    obtain ⟨j, hj, rfl⟩ := mem_idx hy
    rw [List.length_take] at hi
    rw [List.length_drop] at hj
    have g1 : (X.take p).getD i 0 = X.getD i 0 := by rw [List.getD_eq_getElem?_getD, List.getD_eq_getElem?_getD, List.getElem?_take, if_pos (by omega)]
    have g2 : (Y.drop q).getD j 0 = Y.getD (q + j) 0 := by rw [List.getD_eq_getElem?_getD, List.getD_eq_getElem?_getD, List.getElem?_drop]
    rw [g1, g2]
    have a1 := sorted_mono hX (i := i) (j := p - 1) (by omega) (by omega)
    have a2 := sorted_mono hY (i := q) (j := q + j) (by omega) (by omega)
    have := e1 (by omega) (by omega)
    omega
  · intro y hy x hx
    obtain ⟨i, hi, rfl⟩ := mem_idx hx
    obtain ⟨j, hj, rfl⟩ := mem_idx hy
    rw [List.length_drop] at hi
    rw [List.length_take] at hj
    have g1 : (X.drop p).getD i 0 = X.getD (p + i) 0 := by rw [List.getD_eq_getElem?_getD, List.getD_eq_getElem?_getD, List.getElem?_drop]
    have g2 : (Y.take q).getD j 0 = Y.getD j 0 := by rw [List.getD_eq_getElem?_getD, List.getD_eq_getElem?_getD, List.getElem?_take, if_pos (by omega)]
    rw [g1, g2]
    have a1 := sorted_mono hX (i := p) (j := p + i) (by omega) (by omega)
    have a2 := sorted_mono hY (i := j) (j := q - 1) (by omega) (by omega)
    have := e2 (by omega) (by omega)
    omega
end
end Go.Proofs.R12
end
section
/- The conditions of the functions, printed by program; each is what the generator reckons (kernel_rfl). -/
namespace Go.Proofs
open Go.Vc
set_option maxRecDepth 100000 in
set_option maxHeartbeats 2000000 in
theorem vc112 (dataa : Option Addr) (datan : Nat) (datac : Nat) (a : Int) (m : Int) (b : Int) (cmpf : Nat) (cmpi : List Value) (cmpc : List Value) (w : World) (R : Ending → World →
    Prop) (h : (-9223372036854775808 ≤ m - a ∧ m - a ≤ 9223372036854775807) ∧ (m - a = 1 → ∃ (F1 : List Lf → World → Prop), ∃ (F2 : List Lf → Nat), (∀ (w2 : World), Kept [] w w2 →
    F1 [Lf.int IntKind.i64 m, Lf.int IntKind.i64 b] w2) ∧ ∀ (x1 x2 : Int) (w3 : World), F1 [Lf.int IntKind.i64 x1, Lf.int IntKind.i64 x2] w3 → (x1 < x2 → (-9223372036854775808 ≤ x1
    + x2 ∧ x1 + x2 ≤ 9223372036854775807) ∧ (0 ≤ x1 + x2 ∧ x1 + x2 ≤ 18446744073709551615) ∧ (0 : Int) ≤ 1 ∧ (-9223372036854775808 ≤ (x1 + x2).fdiv (2 ^ min (Int.toNat 1)
    IntKind.u64.bits) ∧ (x1 + x2).fdiv (2 ^ min (Int.toNat 1) IntKind.u64.bits) ≤ 9223372036854775807) ∧ ∃ (m1 : Nat), ∃ (m2 : Nat), dataa = some { block := m1, off := m2 } ∧ (0 ≤
    (x1 + x2).fdiv (2 ^ min (Int.toNat 1) IntKind.u64.bits) ∧ (x1 + x2).fdiv (2 ^ min (Int.toNat 1) IntKind.u64.bits) < (↑datan : Int)) ∧ ∃ (x3 : Int), w3.cell?
    { block := m1, off := m2 + ((x1 + x2).fdiv (2 ^ min (Int.toNat 1) IntKind.u64.bits)).toNat * 1 } = some (Value.int IntKind.i64 x3) ∧ ∃ (m3 : Nat), ∃ (m4 : Nat), dataa = some
    { block := m3, off := m4 } ∧ (0 ≤ a ∧ a < (↑datan : Int)) ∧ ∃ (x4 : Int), w3.cell? { block := m3, off := m4 + a.toNat * 1 } = some (Value.int IntKind.i64 x4) ∧ Callable
    Try.prog cmpf ∧ ∀ (w4 : World), KeptIn [(0, w3.heap.size)] [] w3 w4 → Calls Try.prog cmpf (cmpi ++ [Value.int IntKind.i64 x3, Value.int IntKind.i64 x4] ++ cmpc).toArray w4 fun
    (e1 : Ending) (w5 : World) => ∃ (x5 : Int), e1 = Ending.returned (Value.int IntKind.i64 x5) ∧ KeepX false w.heap.size [] (fun _ => False) w4 w5 ∧ (x5 < 0 →
    (-9223372036854775808 ≤ (x1 + x2).fdiv (2 ^ min (Int.toNat 1) IntKind.u64.bits) + 1 ∧ (x1 + x2).fdiv (2 ^ min (Int.toNat 1) IntKind.u64.bits) + (1 : Int) ≤ 9223372036854775807)
    ∧ ∀ (w6 : World), Kept [] w5 w6 → F1 [Lf.int IntKind.i64 ((x1 + x2).fdiv (2 ^ min (Int.toNat 1) IntKind.u64.bits) + 1), Lf.int IntKind.i64 x2] w6 ∧ F2 [Lf.int IntKind.i64 ((x1
    + x2).fdiv (2 ^ min (Int.toNat 1) IntKind.u64.bits) + 1), Lf.int IntKind.i64 x2] < F2 [Lf.int IntKind.i64 x1, Lf.int IntKind.i64 x2]) ∧ (0 ≤ x5 → ∀ (w7 : World), Kept [] w5 w7
    → F1 [Lf.int IntKind.i64 x1, Lf.int IntKind.i64 ((x1 + x2).fdiv (2 ^ min (Int.toNat 1) IntKind.u64.bits))] w7 ∧ F2 [Lf.int IntKind.i64 x1, Lf.int IntKind.i64 ((x1 + x2).fdiv (2
    ^ min (Int.toNat 1) IntKind.u64.bits))] < F2 [Lf.int IntKind.i64 x1, Lf.int IntKind.i64 x2])) ∧ (x2 ≤ x1 → ∃ (F3 : List Lf → World → Prop), ∃ (F4 : List Lf → Nat), (∀ (w9 :
    World), Kept [] w3 w9 → F3 [Lf.int IntKind.i64 a] w9) ∧ ∀ (x6 : Int) (w10 : World), F3 [Lf.int IntKind.i64 x6] w10 → (-9223372036854775808 ≤ x1 - 1 ∧ x1 - (1 : Int) ≤
    9223372036854775807) ∧ (x6 < x1 - 1 → (-9223372036854775808 ≤ x6 + 1 ∧ x6 + (1 : Int) ≤ 9223372036854775807) ∧ ∃ (m6 : Nat), ∃ (m7 : Nat), dataa = some
    { block := m6, off := m7 } ∧ (0 ≤ x6 + 1 ∧ x6 + 1 < (↑datan : Int)) ∧ ∃ (x7 : Int), w10.cell? { block := m6, off := m7 + (x6 + 1).toNat * 1 } = some (Value.int IntKind.i64 x7)
    ∧ ∃ (m8 : Nat), ∃ (m9 : Nat), dataa = some { block := m8, off := m9 } ∧ (0 ≤ x6 ∧ x6 < (↑datan : Int)) ∧ ∃ (x8 : Int), w10.cell? { block := m8, off := m9 + x6.toNat * 1 } =
    some (Value.int IntKind.i64 x8) ∧ ∃ (m10 : Nat), ∃ (m11 : Nat), dataa = some { block := m10, off := m11 } ∧ (0 ≤ x6 ∧ x6 < (↑datan : Int)) ∧ ∀ (w11 : World), KeptIn [(0,
    w10.heap.size)] [] w10 w11 → RunsTo Try.prog ((Instr.storeAt 3 (Value.pointer (some { block := m10, off := m11 + x6.toNat * 1 })) (Value.int IntKind.i64 x7)) >>= fun _ => pure
    (Value.tuple #[])) w11 fun (v1 : Value) (w12 : World) => KeepX false w.heap.size [] (fun _ => False) w11 w12 ∧ (-9223372036854775808 ≤ x6 + 1 ∧ x6 + (1 : Int) ≤
    9223372036854775807) ∧ ∃ (m13 : Nat), ∃ (m14 : Nat), dataa = some { block := m13, off := m14 } ∧ (0 ≤ x6 + 1 ∧ x6 + 1 < (↑datan : Int)) ∧ ∀ (w13 : World), KeptIn [(0,
    w12.heap.size)] [] w12 w13 → RunsTo Try.prog ((Instr.storeAt 3 (Value.pointer (some { block := m13, off := m14 + (x6 + 1).toNat * 1 })) (Value.int IntKind.i64 x8)) >>= fun _ =>
    pure (Value.tuple #[])) w13 fun (v2 : Value) (w14 : World) => KeepX false w.heap.size [] (fun _ => False) w13 w14 ∧ (-9223372036854775808 ≤ x6 + 1 ∧ x6 + (1 : Int) ≤
    9223372036854775807) ∧ ∀ (w15 : World), Kept [] w14 w15 → F3 [Lf.int IntKind.i64 (x6 + 1)] w15 ∧ F4 [Lf.int IntKind.i64 (x6 + 1)] < F4 [Lf.int IntKind.i64 x6]) ∧ (x1 - 1 ≤ x6 →
    ∀ (w16 : World), Kept [] w10 w16 → R (Ending.returned (Value.tuple #[])) w16))) ∧ (m - a ≠ 1 → (-9223372036854775808 ≤ b - m ∧ b - m ≤ 9223372036854775807) ∧ (b - m = 1 → ∃ (F5
    : List Lf → World → Prop), ∃ (F6 : List Lf → Nat), (∀ (w18 : World), Kept [] w w18 → F5 [Lf.int IntKind.i64 a, Lf.int IntKind.i64 m] w18) ∧ ∀ (x9 x10 : Int) (w19 : World), F5
    [Lf.int IntKind.i64 x9, Lf.int IntKind.i64 x10] w19 → (x9 < x10 → (-9223372036854775808 ≤ x9 + x10 ∧ x9 + x10 ≤ 9223372036854775807) ∧ (0 ≤ x9 + x10 ∧ x9 + x10 ≤
    18446744073709551615) ∧ (0 : Int) ≤ 1 ∧ (-9223372036854775808 ≤ (x9 + x10).fdiv (2 ^ min (Int.toNat 1) IntKind.u64.bits) ∧ (x9 + x10).fdiv (2 ^ min (Int.toNat 1)
    IntKind.u64.bits) ≤ 9223372036854775807) ∧ ∃ (m16 : Nat), ∃ (m17 : Nat), dataa = some { block := m16, off := m17 } ∧ (0 ≤ m ∧ m < (↑datan : Int)) ∧ ∃ (x11 : Int), w19.cell?
    { block := m16, off := m17 + m.toNat * 1 } = some (Value.int IntKind.i64 x11) ∧ ∃ (m18 : Nat), ∃ (m19 : Nat), dataa = some { block := m18, off := m19 } ∧ (0 ≤ (x9 + x10).fdiv
    (2 ^ min (Int.toNat 1) IntKind.u64.bits) ∧ (x9 + x10).fdiv (2 ^ min (Int.toNat 1) IntKind.u64.bits) < (↑datan : Int)) ∧ ∃ (x12 : Int), w19.cell?
    { block := m18, off := m19 + ((x9 + x10).fdiv (2 ^ min (Int.toNat 1) IntKind.u64.bits)).toNat * 1 } = some (Value.int IntKind.i64 x12) ∧ Callable Try.prog cmpf ∧ ∀ (w20 :
    World), KeptIn [(0, w19.heap.size)] [] w19 w20 → Calls Try.prog cmpf (cmpi ++ [Value.int IntKind.i64 x11, Value.int IntKind.i64 x12] ++ cmpc).toArray w20 fun (e2 : Ending) (w21
    : World) => ∃ (x13 : Int), e2 = Ending.returned (Value.int IntKind.i64 x13) ∧ KeepX false w.heap.size [] (fun _ => False) w20 w21 ∧ (0 ≤ x13 → (-9223372036854775808 ≤ (x9 +
    x10).fdiv (2 ^ min (Int.toNat 1) IntKind.u64.bits) + 1 ∧ (x9 + x10).fdiv (2 ^ min (Int.toNat 1) IntKind.u64.bits) + (1 : Int) ≤ 9223372036854775807) ∧ ∀ (w22 : World), Kept []
    w21 w22 → F5 [Lf.int IntKind.i64 ((x9 + x10).fdiv (2 ^ min (Int.toNat 1) IntKind.u64.bits) + 1), Lf.int IntKind.i64 x10] w22 ∧ F6 [Lf.int IntKind.i64 ((x9 + x10).fdiv (2 ^ min
    (Int.toNat 1) IntKind.u64.bits) + 1), Lf.int IntKind.i64 x10] < F6 [Lf.int IntKind.i64 x9, Lf.int IntKind.i64 x10]) ∧ (x13 < 0 → ∀ (w23 : World), Kept [] w21 w23 → F5 [Lf.int
    IntKind.i64 x9, Lf.int IntKind.i64 ((x9 + x10).fdiv (2 ^ min (Int.toNat 1) IntKind.u64.bits))] w23 ∧ F6 [Lf.int IntKind.i64 x9, Lf.int IntKind.i64 ((x9 + x10).fdiv (2 ^ min
    (Int.toNat 1) IntKind.u64.bits))] < F6 [Lf.int IntKind.i64 x9, Lf.int IntKind.i64 x10])) ∧ (x10 ≤ x9 → ∃ (F7 : List Lf → World → Prop), ∃ (F8 : List Lf → Nat), (∀ (w25 :
    World), Kept [] w19 w25 → F7 [Lf.int IntKind.i64 m] w25) ∧ ∀ (x14 : Int) (w26 : World), F7 [Lf.int IntKind.i64 x14] w26 → (x9 < x14 → (-9223372036854775808 ≤ x14 - 1 ∧ x14 - (1
    : Int) ≤ 9223372036854775807) ∧ ∃ (m21 : Nat), ∃ (m22 : Nat), dataa = some { block := m21, off := m22 } ∧ (0 ≤ x14 - 1 ∧ x14 - 1 < (↑datan : Int)) ∧ ∃ (x15 : Int), w26.cell?
    { block := m21, off := m22 + (x14 - 1).toNat * 1 } = some (Value.int IntKind.i64 x15) ∧ ∃ (m23 : Nat), ∃ (m24 : Nat), dataa = some { block := m23, off := m24 } ∧ (0 ≤ x14 ∧ x14
    < (↑datan : Int)) ∧ ∃ (x16 : Int), w26.cell? { block := m23, off := m24 + x14.toNat * 1 } = some (Value.int IntKind.i64 x16) ∧ ∃ (m25 : Nat), ∃ (m26 : Nat), dataa = some
    { block := m25, off := m26 } ∧ (0 ≤ x14 ∧ x14 < (↑datan : Int)) ∧ ∀ (w27 : World), KeptIn [(0, w26.heap.size)] [] w26 w27 → RunsTo Try.prog ((Instr.storeAt 3 (Value.pointer
    (some { block := m25, off := m26 + x14.toNat * 1 })) (Value.int IntKind.i64 x15)) >>= fun _ => pure (Value.tuple #[])) w27 fun (v3 : Value) (w28 : World) => KeepX false
    w.heap.size [] (fun _ => False) w27 w28 ∧ (-9223372036854775808 ≤ x14 - 1 ∧ x14 - (1 : Int) ≤ 9223372036854775807) ∧ ∃ (m28 : Nat), ∃ (m29 : Nat), dataa = some
    { block := m28, off := m29 } ∧ (0 ≤ x14 - 1 ∧ x14 - 1 < (↑datan : Int)) ∧ ∀ (w29 : World), KeptIn [(0, w28.heap.size)] [] w28 w29 → RunsTo Try.prog ((Instr.storeAt 3
    (Value.pointer (some { block := m28, off := m29 + (x14 - 1).toNat * 1 })) (Value.int IntKind.i64 x16)) >>= fun _ => pure (Value.tuple #[])) w29 fun (v4 : Value) (w30 : World)
    => KeepX false w.heap.size [] (fun _ => False) w29 w30 ∧ (-9223372036854775808 ≤ x14 - 1 ∧ x14 - (1 : Int) ≤ 9223372036854775807) ∧ ∀ (w31 : World), Kept [] w30 w31 → F7
    [Lf.int IntKind.i64 (x14 - 1)] w31 ∧ F8 [Lf.int IntKind.i64 (x14 - 1)] < F8 [Lf.int IntKind.i64 x14]) ∧ (x14 ≤ x9 → ∀ (w32 : World), Kept [] w26 w32 → R (Ending.returned
    (Value.tuple #[])) w32))) ∧ (b - m ≠ 1 → (-9223372036854775808 ≤ a + b ∧ a + b ≤ 9223372036854775807) ∧ (0 ≤ a + b ∧ a + b ≤ 18446744073709551615) ∧ (0 : Int) ≤ 1 ∧
    (-9223372036854775808 ≤ (a + b).fdiv (2 ^ min (Int.toNat 1) IntKind.u64.bits) ∧ (a + b).fdiv (2 ^ min (Int.toNat 1) IntKind.u64.bits) ≤ 9223372036854775807) ∧
    (-9223372036854775808 ≤ (a + b).fdiv (2 ^ min (Int.toNat 1) IntKind.u64.bits) + m ∧ (a + b).fdiv (2 ^ min (Int.toNat 1) IntKind.u64.bits) + m ≤ 9223372036854775807) ∧ ∃ (F9 :
    List Lf → World → Prop), (((a + b).fdiv (2 ^ min (Int.toNat 1) IntKind.u64.bits) < m → (-9223372036854775808 ≤ (a + b).fdiv (2 ^ min (Int.toNat 1) IntKind.u64.bits) + m - b ∧
    (a + b).fdiv (2 ^ min (Int.toNat 1) IntKind.u64.bits) + m - b ≤ 9223372036854775807) ∧ ∀ (w34 : World), Kept [] w w34 → F9 [Lf.int IntKind.i64 ((a + b).fdiv (2 ^ min (Int.toNat
    1) IntKind.u64.bits) + m - b), Lf.int IntKind.i64 ((a + b).fdiv (2 ^ min (Int.toNat 1) IntKind.u64.bits))] w34) ∧ (m ≤ (a + b).fdiv (2 ^ min (Int.toNat 1) IntKind.u64.bits) → ∀
    (w35 : World), Kept [] w w35 → F9 [Lf.int IntKind.i64 a, Lf.int IntKind.i64 m] w35)) ∧ ∀ (x17 x18 : Int) (w36 : World), F9 [Lf.int IntKind.i64 x17, Lf.int IntKind.i64 x18] w36
    → (-9223372036854775808 ≤ (a + b).fdiv (2 ^ min (Int.toNat 1) IntKind.u64.bits) + m - 1 ∧ (a + b).fdiv (2 ^ min (Int.toNat 1) IntKind.u64.bits) + m - (1 : Int) ≤
    9223372036854775807) ∧ ∃ (F10 : List Lf → World → Prop), ∃ (F11 : List Lf → Nat), (∀ (w38 : World), Kept [] w36 w38 → F10 [Lf.int IntKind.i64 x17, Lf.int IntKind.i64 x18] w38)
    ∧ ∀ (x19 x20 : Int) (w39 : World), F10 [Lf.int IntKind.i64 x19, Lf.int IntKind.i64 x20] w39 → (x19 < x20 → (-9223372036854775808 ≤ x19 + x20 ∧ x19 + x20 ≤ 9223372036854775807)
    ∧ (0 ≤ x19 + x20 ∧ x19 + x20 ≤ 18446744073709551615) ∧ (0 : Int) ≤ 1 ∧ (-9223372036854775808 ≤ (x19 + x20).fdiv (2 ^ min (Int.toNat 1) IntKind.u64.bits) ∧ (x19 + x20).fdiv (2 ^
    min (Int.toNat 1) IntKind.u64.bits) ≤ 9223372036854775807) ∧ (-9223372036854775808 ≤ (a + b).fdiv (2 ^ min (Int.toNat 1) IntKind.u64.bits) + m - 1 - (x19 + x20).fdiv (2 ^ min
    (Int.toNat 1) IntKind.u64.bits) ∧ (a + b).fdiv (2 ^ min (Int.toNat 1) IntKind.u64.bits) + m - 1 - (x19 + x20).fdiv (2 ^ min (Int.toNat 1) IntKind.u64.bits) ≤
    9223372036854775807) ∧ ∃ (m31 : Nat), ∃ (m32 : Nat), dataa = some { block := m31, off := m32 } ∧ (0 ≤ (a + b).fdiv (2 ^ min (Int.toNat 1) IntKind.u64.bits) + m - 1 - (x19 +
    x20).fdiv (2 ^ min (Int.toNat 1) IntKind.u64.bits) ∧ (a + b).fdiv (2 ^ min (Int.toNat 1) IntKind.u64.bits) + m - 1 - (x19 + x20).fdiv (2 ^ min (Int.toNat 1) IntKind.u64.bits) <
    (↑datan : Int)) ∧ ∃ (x21 : Int), w39.cell?
    { block := m31, off := m32 + ((a + b).fdiv (2 ^ min (Int.toNat 1) IntKind.u64.bits) + m - 1 - (x19 + x20).fdiv (2 ^ min (Int.toNat 1) IntKind.u64.bits)).toNat * 1 } = some
    (Value.int IntKind.i64 x21) ∧ ∃ (m33 : Nat), ∃ (m34 : Nat), dataa = some { block := m33, off := m34 } ∧ (0 ≤ (x19 + x20).fdiv (2 ^ min (Int.toNat 1) IntKind.u64.bits) ∧ (x19 +
    x20).fdiv (2 ^ min (Int.toNat 1) IntKind.u64.bits) < (↑datan : Int)) ∧ ∃ (x22 : Int), w39.cell?
    { block := m33, off := m34 + ((x19 + x20).fdiv (2 ^ min (Int.toNat 1) IntKind.u64.bits)).toNat * 1 } = some (Value.int IntKind.i64 x22) ∧ Callable Try.prog cmpf ∧ ∀ (w40 :
    World), KeptIn [(0, w39.heap.size)] [] w39 w40 → Calls Try.prog cmpf (cmpi ++ [Value.int IntKind.i64 x21, Value.int IntKind.i64 x22] ++ cmpc).toArray w40 fun (e3 : Ending) (w41
    : World) => ∃ (x23 : Int), e3 = Ending.returned (Value.int IntKind.i64 x23) ∧ KeepX false w.heap.size [] (fun _ => False) w40 w41 ∧ (0 ≤ x23 → (-9223372036854775808 ≤ (x19 +
    x20).fdiv (2 ^ min (Int.toNat 1) IntKind.u64.bits) + 1 ∧ (x19 + x20).fdiv (2 ^ min (Int.toNat 1) IntKind.u64.bits) + (1 : Int) ≤ 9223372036854775807) ∧ ∀ (w42 : World), Kept []
    w41 w42 → F10 [Lf.int IntKind.i64 ((x19 + x20).fdiv (2 ^ min (Int.toNat 1) IntKind.u64.bits) + 1), Lf.int IntKind.i64 x20] w42 ∧ F11 [Lf.int IntKind.i64 ((x19 + x20).fdiv (2 ^
    min (Int.toNat 1) IntKind.u64.bits) + 1), Lf.int IntKind.i64 x20] < F11 [Lf.int IntKind.i64 x19, Lf.int IntKind.i64 x20]) ∧ (x23 < 0 → ∀ (w43 : World), Kept [] w41 w43 → F10
    [Lf.int IntKind.i64 x19, Lf.int IntKind.i64 ((x19 + x20).fdiv (2 ^ min (Int.toNat 1) IntKind.u64.bits))] w43 ∧ F11 [Lf.int IntKind.i64 x19, Lf.int IntKind.i64 ((x19 + x20).fdiv
    (2 ^ min (Int.toNat 1) IntKind.u64.bits))] < F11 [Lf.int IntKind.i64 x19, Lf.int IntKind.i64 x20])) ∧ (x20 ≤ x19 → (-9223372036854775808 ≤ (a + b).fdiv (2 ^ min (Int.toNat 1)
    IntKind.u64.bits) + m - x19 ∧ (a + b).fdiv (2 ^ min (Int.toNat 1) IntKind.u64.bits) + m - x19 ≤ 9223372036854775807) ∧ ∃ (F12 : List Lf → World → Prop), ((x19 < m → ∀ (w45 :
    World), Kept [] w39 w45 → F12 [Lf.bool (decide (m < (a + b).fdiv (2 ^ min (Int.toNat 1) IntKind.u64.bits) + m - x19))] w45) ∧ (m ≤ x19 → ∀ (w46 : World), Kept [] w39 w46 → F12
    [Lf.bool false] w46)) ∧ ∀ (t1 : Bool) (w47 : World), F12 [Lf.bool t1] w47 → ∃ (F13 : List Lf → World → Prop), ((t1 = true → ∀ (w49 : World), Kept [] w47 w49 → Calls Try.prog
    118 #[Value.slice dataa datan datac, Value.int IntKind.i64 x19, Value.int IntKind.i64 m, Value.int IntKind.i64 ((a + b).fdiv (2 ^ min (Int.toNat 1) IntKind.u64.bits) + m -
    x19), Value.func (Fn.func cmpf) cmpi.toArray cmpc.toArray] w49 fun (e4 : Ending) (w50 : World) => e4 = Ending.returned (Value.tuple #[]) ∧ KeepX false w.heap.size [] (fun _ =>
    False) w49 w50 ∧ ∀ (w51 : World), Kept [] w50 w51 → F13 [] w51) ∧ (t1 = false → ∀ (w52 : World), Kept [] w47 w52 → F13 [] w52)) ∧ ∀ (w53 : World), F13 [] w53 → ∃ (F14 : List Lf
    → World → Prop), ((a < x19 → ∀ (w55 : World), Kept [] w53 w55 → F14 [Lf.bool (decide (x19 < (a + b).fdiv (2 ^ min (Int.toNat 1) IntKind.u64.bits)))] w55) ∧ (x19 ≤ a → ∀ (w56 :
    World), Kept [] w53 w56 → F14 [Lf.bool false] w56)) ∧ ∀ (t2 : Bool) (w57 : World), F14 [Lf.bool t2] w57 → ∃ (F15 : List Lf → World → Prop), ((t2 = true → ∀ (w59 : World), Kept
    [] w57 w59 → Calls Try.prog 112 #[Value.slice dataa datan datac, Value.int IntKind.i64 a, Value.int IntKind.i64 x19, Value.int IntKind.i64 ((a + b).fdiv (2 ^ min (Int.toNat 1)
    IntKind.u64.bits)), Value.func (Fn.func cmpf) cmpi.toArray cmpc.toArray] w59 fun (e5 : Ending) (w60 : World) => e5 = Ending.returned (Value.tuple #[]) ∧ KeepX false w.heap.size
    [] (fun _ => False) w59 w60 ∧ ∀ (w61 : World), Kept [] w60 w61 → F15 [] w61) ∧ (t2 = false → ∀ (w62 : World), Kept [] w57 w62 → F15 [] w62)) ∧ ∀ (w63 : World), F15 [] w63 → ∃
    (F16 : List Lf → World → Prop), (((a + b).fdiv (2 ^ min (Int.toNat 1) IntKind.u64.bits) < (a + b).fdiv (2 ^ min (Int.toNat 1) IntKind.u64.bits) + m - x19 → ∀ (w65 : World),
    Kept [] w63 w65 → F16 [Lf.bool (decide ((a + b).fdiv (2 ^ min (Int.toNat 1) IntKind.u64.bits) + m - x19 < b))] w65) ∧ ((a + b).fdiv (2 ^ min (Int.toNat 1) IntKind.u64.bits) + m
    - x19 ≤ (a + b).fdiv (2 ^ min (Int.toNat 1) IntKind.u64.bits) → ∀ (w66 : World), Kept [] w63 w66 → F16 [Lf.bool false] w66)) ∧ ∀ (t3 : Bool) (w67 : World), F16 [Lf.bool t3] w67
    → (t3 = true → ∀ (w68 : World), Kept [] w67 w68 → Calls Try.prog 112 #[Value.slice dataa datan datac, Value.int IntKind.i64 ((a + b).fdiv (2 ^ min (Int.toNat 1)
    IntKind.u64.bits)), Value.int IntKind.i64 ((a + b).fdiv (2 ^ min (Int.toNat 1) IntKind.u64.bits) + m - x19), Value.int IntKind.i64 b, Value.func (Fn.func cmpf) cmpi.toArray
    cmpc.toArray] w68 fun (e6 : Ending) (w69 : World) => e6 = Ending.returned (Value.tuple #[]) ∧ KeepX false w.heap.size [] (fun _ => False) w68 w69 ∧ ∀ (w70 : World), Kept [] w69
    w70 → R (Ending.returned (Value.tuple #[])) w70) ∧ (t3 = false → ∀ (w71 : World), Kept [] w67 w71 → R (Ending.returned (Value.tuple #[])) w71))))) : Calls Try.prog 112
    #[Value.slice dataa datan datac, Value.int IntKind.i64 a, Value.int IntKind.i64 m, Value.int IntKind.i64 b, Value.func (Fn.func cmpf) cmpi.toArray cmpc.toArray] w R :=
    calls_of_vcj (pure := false) (wrapAt := []) (muts := []) (esc := []) (joins := [(140, [(20, 3), (21, 3)]), (2000039, [(185, 4)]), (185, []), (2000041, [(199, 4)]), (199, []),
    (2000043, [(213, 4)])]) (args := [SV.pv (PV.one (Lf.sl dataa datan datac)), SV.pv (PV.one (Lf.int IntKind.i64 a)), SV.pv (PV.one (Lf.int IntKind.i64 m)), SV.pv (PV.one (Lf.int
    IntKind.i64 b)), SV.pv (PV.one (Lf.fv cmpf cmpi cmpc))]) (vs := [Value.slice dataa datan datac, Value.int IntKind.i64 a, Value.int IntKind.i64 m, Value.int IntKind.i64 b,
    Value.func (Fn.func cmpf) cmpi.toArray cmpc.toArray]) Try.func112 rfl rfl rfl (Eq.mp (by kernel_rfl) h) 
set_option maxRecDepth 100000 in
set_option maxHeartbeats 2000000 in
theorem vc118 (dataa : Option Addr) (datan : Nat) (datac : Nat) (a : Int) (m : Int) (b : Int) (cmpf : Nat) (cmpi : List Value) (cmpc : List Value) (w : World) (R : Ending → World →
    Prop) (h : (-9223372036854775808 ≤ m - a ∧ m - a ≤ 9223372036854775807) ∧ (-9223372036854775808 ≤ b - m ∧ b - m ≤ 9223372036854775807) ∧ ∃ (F1 : List Lf → World → Prop), ∃ (F2
    : List Lf → Nat), (∀ (w2 : World), Kept [] w w2 → F1 [Lf.int IntKind.i64 (m - a), Lf.int IntKind.i64 (b - m)] w2) ∧ ∀ (x1 x2 : Int) (w3 : World), F1 [Lf.int IntKind.i64 x1,
    Lf.int IntKind.i64 x2] w3 → (x1 ≠ x2 → (x2 < x1 → (-9223372036854775808 ≤ m - x1 ∧ m - x1 ≤ 9223372036854775807) ∧ ∀ (w4 : World), Kept [] w3 w4 → Calls Try.prog 120
    #[Value.slice dataa datan datac, Value.int IntKind.i64 (m - x1), Value.int IntKind.i64 m, Value.int IntKind.i64 x2, Value.func (Fn.func cmpf) cmpi.toArray cmpc.toArray] w4 fun
    (e1 : Ending) (w5 : World) => e1 = Ending.returned (Value.tuple #[]) ∧ KeepX false w.heap.size [] (fun _ => False) w4 w5 ∧ (-9223372036854775808 ≤ x1 - x2 ∧ x1 - x2 ≤
    9223372036854775807) ∧ ∀ (w6 : World), Kept [] w5 w6 → F1 [Lf.int IntKind.i64 (x1 - x2), Lf.int IntKind.i64 x2] w6 ∧ F2 [Lf.int IntKind.i64 (x1 - x2), Lf.int IntKind.i64 x2] <
    F2 [Lf.int IntKind.i64 x1, Lf.int IntKind.i64 x2]) ∧ (x1 ≤ x2 → (-9223372036854775808 ≤ m - x1 ∧ m - x1 ≤ 9223372036854775807) ∧ (-9223372036854775808 ≤ m + x2 ∧ m + x2 ≤
    9223372036854775807) ∧ (-9223372036854775808 ≤ m + x2 - x1 ∧ m + x2 - x1 ≤ 9223372036854775807) ∧ ∀ (w7 : World), Kept [] w3 w7 → Calls Try.prog 120 #[Value.slice dataa datan
    datac, Value.int IntKind.i64 (m - x1), Value.int IntKind.i64 (m + x2 - x1), Value.int IntKind.i64 x1, Value.func (Fn.func cmpf) cmpi.toArray cmpc.toArray] w7 fun (e2 : Ending)
    (w8 : World) => e2 = Ending.returned (Value.tuple #[]) ∧ KeepX false w.heap.size [] (fun _ => False) w7 w8 ∧ (-9223372036854775808 ≤ x2 - x1 ∧ x2 - x1 ≤ 9223372036854775807) ∧
    ∀ (w9 : World), Kept [] w8 w9 → F1 [Lf.int IntKind.i64 x1, Lf.int IntKind.i64 (x2 - x1)] w9 ∧ F2 [Lf.int IntKind.i64 x1, Lf.int IntKind.i64 (x2 - x1)] < F2 [Lf.int IntKind.i64
    x1, Lf.int IntKind.i64 x2])) ∧ (x1 = x2 → (-9223372036854775808 ≤ m - x1 ∧ m - x1 ≤ 9223372036854775807) ∧ ∀ (w10 : World), Kept [] w3 w10 → Calls Try.prog 120 #[Value.slice
    dataa datan datac, Value.int IntKind.i64 (m - x1), Value.int IntKind.i64 m, Value.int IntKind.i64 x1, Value.func (Fn.func cmpf) cmpi.toArray cmpc.toArray] w10 fun (e3 : Ending)
    (w11 : World) => e3 = Ending.returned (Value.tuple #[]) ∧ KeepX false w.heap.size [] (fun _ => False) w10 w11 ∧ ∀ (w12 : World), Kept [] w11 w12 → R (Ending.returned
    (Value.tuple #[])) w12)) : Calls Try.prog 118 #[Value.slice dataa datan datac, Value.int IntKind.i64 a, Value.int IntKind.i64 m, Value.int IntKind.i64 b, Value.func (Fn.func
    cmpf) cmpi.toArray cmpc.toArray] w R := calls_of_vc (pure := false) (wrapAt := []) (muts := []) (esc := []) (args := [SV.pv (PV.one (Lf.sl dataa datan datac)), SV.pv (PV.one
    (Lf.int IntKind.i64 a)), SV.pv (PV.one (Lf.int IntKind.i64 m)), SV.pv (PV.one (Lf.int IntKind.i64 b)), SV.pv (PV.one (Lf.fv cmpf cmpi cmpc))]) (vs := [Value.slice dataa datan
    datac, Value.int IntKind.i64 a, Value.int IntKind.i64 m, Value.int IntKind.i64 b, Value.func (Fn.func cmpf) cmpi.toArray cmpc.toArray]) Try.func118 rfl rfl rfl (Eq.mp (by
    kernel_rfl) h) 
set_option maxRecDepth 100000 in
set_option maxHeartbeats 2000000 in
theorem vc120 (dataa : Option Addr) (datan : Nat) (datac : Nat) (a : Int) (b : Int) (n : Int) (cmpf : Nat) (cmpi : List Value) (cmpc : List Value) (w : World) (R : Ending → World →
    Prop) (h : ∃ (F1 : List Lf → World → Prop), ∃ (F2 : List Lf → Nat), (∀ (w2 : World), Kept [] w w2 → F1 [Lf.int IntKind.i64 0] w2) ∧ ∀ (x1 : Int) (w3 : World), F1 [Lf.int
    IntKind.i64 x1] w3 → (x1 < n → (-9223372036854775808 ≤ a + x1 ∧ a + x1 ≤ 9223372036854775807) ∧ (-9223372036854775808 ≤ b + x1 ∧ b + x1 ≤ 9223372036854775807) ∧ ∃ (m1 : Nat), ∃
    (m2 : Nat), dataa = some { block := m1, off := m2 } ∧ (0 ≤ b + x1 ∧ b + x1 < (↑datan : Int)) ∧ ∃ (x2 : Int), w3.cell? { block := m1, off := m2 + (b + x1).toNat * 1 } = some
    (Value.int IntKind.i64 x2) ∧ (-9223372036854775808 ≤ a + x1 ∧ a + x1 ≤ 9223372036854775807) ∧ ∃ (m3 : Nat), ∃ (m4 : Nat), dataa = some { block := m3, off := m4 } ∧ (0 ≤ a + x1
    ∧ a + x1 < (↑datan : Int)) ∧ ∃ (x3 : Int), w3.cell? { block := m3, off := m4 + (a + x1).toNat * 1 } = some (Value.int IntKind.i64 x3) ∧ ∃ (m5 : Nat), ∃ (m6 : Nat), dataa = some
    { block := m5, off := m6 } ∧ (0 ≤ a + x1 ∧ a + x1 < (↑datan : Int)) ∧ ∀ (w4 : World), KeptIn [(0, w3.heap.size)] [] w3 w4 → RunsTo Try.prog ((Instr.storeAt 3 (Value.pointer
    (some { block := m5, off := m6 + (a + x1).toNat * 1 })) (Value.int IntKind.i64 x2)) >>= fun _ => pure (Value.tuple #[])) w4 fun (v1 : Value) (w5 : World) => KeepX false
    w.heap.size [] (fun _ => False) w4 w5 ∧ (-9223372036854775808 ≤ b + x1 ∧ b + x1 ≤ 9223372036854775807) ∧ ∃ (m8 : Nat), ∃ (m9 : Nat), dataa = some { block := m8, off := m9 } ∧
    (0 ≤ b + x1 ∧ b + x1 < (↑datan : Int)) ∧ ∀ (w6 : World), KeptIn [(0, w5.heap.size)] [] w5 w6 → RunsTo Try.prog ((Instr.storeAt 3 (Value.pointer (some
    { block := m8, off := m9 + (b + x1).toNat * 1 })) (Value.int IntKind.i64 x3)) >>= fun _ => pure (Value.tuple #[])) w6 fun (v2 : Value) (w7 : World) => KeepX false w.heap.size
    [] (fun _ => False) w6 w7 ∧ (-9223372036854775808 ≤ x1 + 1 ∧ x1 + (1 : Int) ≤ 9223372036854775807) ∧ ∀ (w8 : World), Kept [] w7 w8 → F1 [Lf.int IntKind.i64 (x1 + 1)] w8 ∧ F2
    [Lf.int IntKind.i64 (x1 + 1)] < F2 [Lf.int IntKind.i64 x1]) ∧ (n ≤ x1 → ∀ (w9 : World), Kept [] w3 w9 → R (Ending.returned (Value.tuple #[])) w9)) : Calls Try.prog 120
    #[Value.slice dataa datan datac, Value.int IntKind.i64 a, Value.int IntKind.i64 b, Value.int IntKind.i64 n, Value.func (Fn.func cmpf) cmpi.toArray cmpc.toArray] w R :=
    calls_of_vc (pure := false) (wrapAt := []) (muts := []) (esc := []) (args := [SV.pv (PV.one (Lf.sl dataa datan datac)), SV.pv (PV.one (Lf.int IntKind.i64 a)), SV.pv (PV.one
    (Lf.int IntKind.i64 b)), SV.pv (PV.one (Lf.int IntKind.i64 n)), SV.pv (PV.one (Lf.fv cmpf cmpi cmpc))]) (vs := [Value.slice dataa datan datac, Value.int IntKind.i64 a,
    Value.int IntKind.i64 b, Value.int IntKind.i64 n, Value.func (Fn.func cmpf) cmpi.toArray cmpc.toArray]) Try.func120 rfl rfl rfl (Eq.mp (by kernel_rfl) h) 
end Go.Proofs
end
section
/- The library's stable sort: parts of a row are swapped, and turned. -/
namespace Go.Proofs.R12
open Go.Vc Go.RowKit Go.Proofs

theorem getD_eq {L A B : List Int} {x d : Int} {i : Nat} (h : L = A ++ x :: B) (hi : i = A.length) : L.getD i d = x := by subst h; subst hi; simp
theorem set_eq {L A B : List Int} {x y : Int} {i : Nat} (h : L = A ++ x :: B) (hi : i = A.length) : L.set i y = A ++ y :: B := by
  subst h; subst hi; rw [List.set_append_right _ _ (Nat.le_refl _)]; simp
section
variable {B n c g : Nat} {ns : List Nat} {w : World} {f : Nat} {fi fc : List Value}

set_option maxHeartbeats 1000000 in
theorem swap_l {P U M V Q : List Int} (hR : Row 3 1 B ns (some ⟨g, 0, none⟩) n c (ints (P ++ (U ++ (M ++ (V ++ Q))))) w) (hg : g ∉ ns) (hn : n ≤ 100000) (hUV : V.length = U.length) {a b k : Int} (ha : a = P.length) (hb : b = P.length + U.length + M.length) (hk : k = U.length) :
    Calls Try.prog 120 #[.slice (some ⟨g, 0, none⟩) n c, I a, I b, I k, .func (.func f) fi.toArray fc.toArray] w fun e w' => e = .returned (.tuple #[]) ∧ Chg [g] w w' ∧ Row 3 1 B ns (some ⟨g, 0, none⟩) n c (ints (P ++ (V ++ (M ++ (U ++ Q))))) w' := by
  subst ha hb hk
  have hlen : P.length + (U.length + (M.length + (V.length + Q.length))) = n := by have := hR.len; simpa [ints] using this
  refine vc120 _ _ _ _ _ _ _ _ _ w _ ⟨fun ls w' => match ls with | [.int _ k] => (0 ≤ k ∧ k ≤ U.length) ∧ Chg [g] w w' ∧ ∃ U1 U2 V1 V2, U = U1 ++ U2 ∧ V = V1 ++ V2 ∧ k = U1.length ∧ V1.length = U1.length ∧ Row 3 1 B ns (some ⟨g, 0, none⟩) n c (ints (P ++ ((V1 ++ U2) ++ (M ++ ((U1 ++ V2) ++ Q))))) w' | _ => False, fun ls => match ls with | [.int _ k] => (U.length - k).toNat | _ => 0, fun w2 hk => ?_, ?_⟩
  · refine ⟨⟨Int.le_refl _, by omega⟩, kept0 hk, [], U, [], V, by simp, by simp, by simp, by simp, ?_⟩
    simpa using hR.chg (Chg.kept hk) (by simp)
  rintro x1 w3 ⟨⟨k1, k2⟩, hc3, U1, U2, V1, V2, rfl, rfl, rfl, hl, R3⟩
  simp only [List.length_append] at hlen hUV k2
  refine ⟨fun hlt => ?_, fun hge w9 hk9 => ⟨rfl, hc3.trans (kept0 hk9), ?_⟩⟩
  rotate_left
  · simp only [List.length_append] at hge
    have e1 : U2 = [] := List.length_eq_zero_iff.1 (by omega)
    have e2 : V2 = [] := List.length_eq_zero_iff.1 (by omega)
    subst e1 e2
    simpa using R3.chg (Chg.kept hk9) (by simp)
  simp only [List.length_append] at hlt ⊢
  rcases U2 with _ | ⟨u, U2⟩
  · simp at hlt
  rcases V2 with _ | ⟨v, V2⟩
  · simp at hUV; omega
  simp only [List.length_cons] at hlen hUV k2 hlt
  have ev : P ++ ((V1 ++ u :: U2) ++ (M ++ ((U1 ++ v :: V2) ++ Q))) = (P ++ (V1 ++ (u :: (U2 ++ (M ++ U1))))) ++ v :: (V2 ++ Q) := by simp
  have eu : P ++ ((V1 ++ u :: U2) ++ (M ++ ((U1 ++ v :: V2) ++ Q))) = (P ++ V1) ++ u :: (U2 ++ (M ++ ((U1 ++ v :: V2) ++ Q))) := by simp
  have e2 : (P ++ V1) ++ v :: (U2 ++ (M ++ ((U1 ++ v :: V2) ++ Q))) = (P ++ (V1 ++ (v :: (U2 ++ (M ++ U1))))) ++ v :: (V2 ++ Q) := by simp
  have li : ∀ z : Int, (P ++ (V1 ++ (z :: (U2 ++ (M ++ U1))))).length = P.length + (U1.length + (U2.length + 1)) + M.length + U1.length := fun z => by simp; omega
  have lj : (P ++ V1).length = P.length + U1.length := by simp; omega
  simp only [List.length_cons]
  generalize hi : (P.length : Int) + ((U1.length + (U2.length + 1) : Nat) : Int) + M.length + U1.length = i
  generalize hj : (P.length : Int) + U1.length = j
  have hi' : i.toNat = P.length + (U1.length + (U2.length + 1)) + M.length + U1.length := by omega
  have hj' : j.toNat = P.length + U1.length := by omega
  refine ⟨by omega, by omega, g, 0, rfl, ⟨by omega, by omega⟩, v, row_load R3 (by have := R3.len; simp [ints] at this; simp; omega) (getD_eq ev (by rw [li]; exact hi')), by omega, g, 0, rfl, ⟨by omega, by omega⟩, u, row_load R3 (by simp; omega) (getD_eq eu (by rw [lj]; exact hj')), g, 0, rfl, ⟨by omega, by omega⟩, fun w4 hk4 => ?_⟩
  refine row_store (R3.chg (KeptIn.chg hk4) (by simp)) (by omega) fun w5 R5 c5 => ⟨keep_false c5, by omega, g, 0, rfl, ⟨by omega, by omega⟩, fun w6 hk6 => ?_⟩
  rw [set_eq eu (by rw [lj]; exact hj'), e2] at R5
  refine row_store (R5.chg (KeptIn.chg hk6) (by simp)) (by omega) fun w7 R7 c7 => ⟨keep_false c7, by omega, fun w8 hk8 => ⟨⟨⟨by omega, by omega⟩, ?_, U1 ++ [u], U2, V1 ++ [v], V2, by simp, by simp, by simp, by simp [hl], ?_⟩, ?_⟩⟩
  · exact (((hc3.trans (keptin0 hk4)).trans c5).trans (keptin0 hk6)).trans (c7.trans (kept0 hk8))
  · rw [set_eq rfl (by rw [li]; exact hi')] at R7
    have := R7.chg (Chg.kept hk8) (by simp)
    simpa using this
  · show (((U1.length + (U2.length + 1) : Nat) : Int) - (U1.length + 1)).toNat < (((U1.length + (U2.length + 1) : Nat) : Int) - U1.length).toNat
    omega

set_option maxHeartbeats 1000000 in
theorem rotate_l {A X Y C : List Int} (hR : Row 3 1 B ns (some ⟨g, 0, none⟩) n c (ints (A ++ (X ++ (Y ++ C)))) w) (hg : g ∉ ns) (hn : n ≤ 100000) (hX : 0 < X.length) (hY : 0 < Y.length) {a m b : Int} (ha : a = A.length) (hm : m = A.length + X.length) (hb : b = A.length + X.length + Y.length) :
    Calls Try.prog 118 #[.slice (some ⟨g, 0, none⟩) n c, I a, I m, I b, .func (.func f) fi.toArray fc.toArray] w fun e w' => e = .returned (.tuple #[]) ∧ Chg [g] w w' ∧ Row 3 1 B ns (some ⟨g, 0, none⟩) n c (ints (A ++ (Y ++ (X ++ C)))) w' := by
  subst ha hm hb
  have hlen : A.length + (X.length + (Y.length + C.length)) = n := by have := hR.len; simpa [ints] using this
  refine vc118 _ _ _ _ _ _ _ _ _ w _ ⟨by omega, by omega, fun ls w' => match ls with | [.int _ i, .int _ j] => Chg [g] w w' ∧ ∃ P U V Q, i = U.length ∧ j = V.length ∧ 0 < U.length ∧ 0 < V.length ∧ P.length + U.length = A.length + X.length ∧ P.length + (U.length + (V.length + Q.length)) = n ∧ P ++ (V ++ (U ++ Q)) = A ++ (Y ++ (X ++ C)) ∧ Row 3 1 B ns (some ⟨g, 0, none⟩) n c (ints (P ++ (U ++ (V ++ Q)))) w' | _ => False, fun ls => match ls with | [.int _ i, .int _ j] => (i + j).toNat | _ => 0, fun w2 hk => ?_, ?_⟩
  · exact ⟨kept0 hk, A, X, Y, C, by omega, by omega, hX, hY, rfl, hlen, rfl, hR.chg (Chg.kept hk) (by simp)⟩
  rintro x1 x2 w3 ⟨hc3, P, U, V, Q, rfl, rfl, hU, hV, hp, hl, hT, R3⟩
  refine ⟨fun hne => ⟨fun hlt => ⟨by omega, fun w4 hk4 => ?_⟩, fun hle => ⟨by omega, by omega, by omega, fun w7 hk7 => ?_⟩⟩, fun heq => ⟨by omega, fun w10 hk10 => ?_⟩⟩
  · -- U is longer
    have hU2 : U = U.take V.length ++ U.drop V.length := (List.take_append_drop _ _).symm
    generalize hu1 : U.take V.length = U1 at hU2
    generalize hu2 : U.drop V.length = U2 at hU2
    have l1 : U1.length = V.length := by rw [← hu1, List.length_take]; omega
    clear hu1 hu2
    subst hU2
    simp only [List.length_append] at *
    refine (swap_l (P := P) (U := U1) (M := U2) (V := V) (Q := Q) (by simpa using R3.chg (Chg.kept hk4) (by simp)) hg hn l1.symm (by omega) (by omega) (by omega)).mono fun e w5 he => ?_
    obtain ⟨rfl, c5, R5⟩ := he
    refine ⟨rfl, keep_false c5, by omega, fun w6 hk6 => ⟨⟨(hc3.trans (kept0 hk4)).trans (c5.trans (kept0 hk6)), P ++ V, U2, U1, Q, by omega, by omega, by omega, by omega, by simp; omega, by simp; omega, by rw [← hT]; simp, by simpa using R5.chg (Chg.kept hk6) (by simp)⟩, ?_⟩⟩
    show (((U1.length + U2.length : Nat) : Int) - V.length + V.length).toNat < (((U1.length + U2.length : Nat) : Int) + V.length).toNat
    omega
  · have hlt : (U.length : Int) < V.length := by omega
    have hV2 : V = V.take (V.length - U.length) ++ V.drop (V.length - U.length) := (List.take_append_drop _ _).symm
    generalize hu1 : V.take (V.length - U.length) = V1 at hV2
    generalize hu2 : V.drop (V.length - U.length) = V2 at hV2
    have l1 : V1.length = V.length - U.length := by rw [← hu1, List.length_take]; omega
    clear hu1 hu2
    subst hV2
    simp only [List.length_append] at *
    refine (swap_l (P := P) (U := U) (M := V1) (V := V2) (Q := Q) (by simpa using R3.chg (Chg.kept hk7) (by simp)) hg hn (by omega) (by omega) (by omega) (by omega)).mono fun e w8 he => ?_
    obtain ⟨rfl, c8, R8⟩ := he
    refine ⟨rfl, keep_false c8, by omega, fun w9 hk9 => ⟨⟨(hc3.trans (kept0 hk7)).trans (c8.trans (kept0 hk9)), P, V2, V1, U ++ Q, by omega, by omega, by omega, by omega, by omega, by simp; omega, by rw [← hT]; simp, by simpa using R8.chg (Chg.kept hk9) (by simp)⟩, ?_⟩⟩
    show ((U.length : Int) + (((V1.length + V2.length : Nat) : Int) - U.length)).toNat < ((U.length : Int) + ((V1.length + V2.length : Nat) : Int)).toNat
    omega
  · refine (swap_l (P := P) (U := U) (M := []) (V := V) (Q := Q) (by simpa using R3.chg (Chg.kept hk10) (by simp)) hg hn (by omega) (by omega) (by simp; omega) (by omega)).mono fun e w11 he => ?_
    obtain ⟨rfl, c11, R11⟩ := he
    refine ⟨rfl, keep_false c11, fun w12 hk12 => ⟨rfl, (hc3.trans (kept0 hk10)).trans (c11.trans (kept0 hk12)), ?_⟩⟩
    rw [← hT]
    simpa using R11.chg (Chg.kept hk12) (by simp)
end
end Go.Proofs.R12
end
section
/- The library's stable sort: two sorted parts of a row are merged in place. -/
namespace Go.Proofs.R12
open Go.Vc Go.RowKit Go.Proofs

theorem half_eq (s : Int) : s.fdiv (2 ^ min (Int.toNat 1) IntKind.u64.bits) = s / 2 := by
  rw [show (2 : Int) ^ min (Int.toNat 1) IntKind.u64.bits = 2 by decide, Int.fdiv_eq_ediv_of_nonneg _ (by decide)]

section
variable {B n c g : Nat} {ns : List Nat} {f : Nat} {fi fc : List Value} {key : Int → Int} {S : Int → Prop}

theorem cmp_call {w0 w : World} (hf : CmpOk f fi fc key S g w0) (hc : Chg [g] w0 w) {x y : Int} (hx : S x) (hy : S y) {R : Ending → World → Prop} (h : ∀ r w', Below w.heap.size w w' → (r < 0 ↔ key x < key y) → R (.returned (I r)) w') :
    Calls Try.prog f (fi ++ [I x, I y] ++ fc).toArray w R := (hf.2 w hc x y hx hy).mono fun e w' he => by
  obtain ⟨r, rfl, hb, hr⟩ := he
  exact h r w' hb hr

def MergeTo (B n c g : Nat) (ns : List Nat) (key : Int → Int) (A X Y C : List Int) (w : World) (e : Ending) (w' : World) : Prop :=
  e = .returned (.tuple #[]) ∧ Chg [g] w w' ∧ ∃ Z, Z.Perm (X ++ Y) ∧ Sorted key Z ∧ Row 3 1 B ns (some ⟨g, 0, none⟩) n c (ints (A ++ (Z ++ C))) w'

/-- What a cut of two sorted parts gives. -/
theorem cut_all {X Y : List Int} {p q : Nat} (hX : Sorted key X) (hY : Sorted key Y) (hsep : ∀ x ∈ X, ∀ y ∈ Y, x < y) (hp : p ≤ X.length) (hq : q ≤ Y.length)
    (e1 : 0 < p → q < Y.length → key (X.getD (p - 1) 0) ≤ key (Y.getD q 0)) (e2 : p < X.length → 0 < q → key (Y.getD (q - 1) 0) < key (X.getD p 0)) :
    (Sorted key (X.take p) ∧ Sorted key (Y.take q) ∧ (∀ x ∈ X.take p, ∀ y ∈ Y.take q, x < y)) ∧ (Sorted key (X.drop p) ∧ Sorted key (Y.drop q) ∧ (∀ x ∈ X.drop p, ∀ y ∈ Y.drop q, x < y)) ∧
    ∀ Z1 Z2, Z1.Perm (X.take p ++ Y.take q) → Sorted key Z1 → Z2.Perm (X.drop p ++ Y.drop q) → Sorted key Z2 → Sorted key (Z1 ++ Z2) ∧ (Z1 ++ Z2).Perm (X ++ Y) := by
  obtain ⟨c1, c2⟩ := cut_parts (A := []) (C := []) hX hY hp hq e1 e2
  refine ⟨⟨hX.sublist (List.take_sublist _ _), hY.sublist (List.take_sublist _ _), fun x hx y hy => hsep x (List.mem_of_mem_take hx) y (List.mem_of_mem_take hy)⟩, ⟨hX.sublist (List.drop_sublist _ _), hY.sublist (List.drop_sublist _ _), fun x hx y hy => hsep x (List.mem_of_mem_drop hx) y (List.mem_of_mem_drop hy)⟩, fun Z1 Z2 p1 s1 p2 s2 => ?_⟩
  have := merge_halves (X1 := X.take p) (X2 := X.drop p) (Y1 := Y.take q) (Y2 := Y.drop q) (by rw [List.take_append_drop]; exact hX) (by rw [List.take_append_drop]; exact hY) (by rw [List.take_append_drop, List.take_append_drop]; exact hsep) c1 c2 p1 s1 p2 s2
  rw [List.take_append_drop, List.take_append_drop] at this
  exact this

theorem get_Y {A X Y C : List Int} {i : Nat} (h1 : A.length + X.length ≤ i) (h2 : i < A.length + X.length + Y.length) : (A ++ (X ++ (Y ++ C))).getD i 0 = Y.getD (i - (A.length + X.length)) 0 := by
  rw [← List.append_assoc, get_X (by simpa using h1) (by simpa using h2), List.length_append]
theorem getD_mem' {L : List Int} {i : Nat} (h : i < L.length) : L.getD i 0 ∈ L := by
  rw [List.getD_eq_getElem?_getD, getElem_of_lt h]; exact List.getElem_mem _

set_option maxHeartbeats 2000000 in
theorem sym_l : ∀ (N : Nat) {A X Y C : List Int} {w : World}, X.length + Y.length ≤ N → Row 3 1 B ns (some ⟨g, 0, none⟩) n c (ints (A ++ (X ++ (Y ++ C)))) w → g ∉ ns → n ≤ 100000 → 0 < X.length → 0 < Y.length →
    Sorted key X → Sorted key Y → (∀ x ∈ X, ∀ y ∈ Y, x < y) → (∀ x ∈ X, S x) → (∀ y ∈ Y, S y) → CmpOk f fi fc key S g w → ∀ {a m b : Int}, a = A.length → m = A.length + X.length → b = A.length + X.length + Y.length →
    Calls Try.prog 112 #[.slice (some ⟨g, 0, none⟩) n c, I a, I m, I b, .func (.func f) fi.toArray fc.toArray] w (MergeTo B n c g ns key A X Y C w)
  | 0, A, X, Y, C, w, hN, hR, hg, hn, hX0, hY0, hX, hY, hsep, hSX, hSY, hf, a, m, b, ha, hm, hb => by omega
  | N + 1, A, X, Y, C, w, hN, hR, hg, hn, hX0, hY0, hX, hY, hsep, hSX, hSY, hf, a, m, b, ha, hm, hb => by
    have hlen : A.length + (X.length + (Y.length + C.length)) = n := by have := hR.len; simpa [ints] using this
    have gX : ∀ i : Int, a ≤ i → i < m → (A ++ (X ++ (Y ++ C))).getD i.toNat 0 = X.getD (i.toNat - A.length) 0 := fun i h1 h2 => get_X (by omega) (by omega)
    have gY : ∀ i : Int, m ≤ i → i < b → (A ++ (X ++ (Y ++ C))).getD i.toNat 0 = Y.getD (i.toNat - (A.length + X.length)) 0 := fun i h1 h2 => get_Y (by omega) (by omega)
    have sX : ∀ i : Int, a ≤ i → i < m → S ((A ++ (X ++ (Y ++ C))).getD i.toNat 0) := fun i h1 h2 => by rw [gX i h1 h2]; exact hSX _ (getD_mem' (by omega))
    have sY : ∀ i : Int, m ≤ i → i < b → S ((A ++ (X ++ (Y ++ C))).getD i.toNat 0) := fun i h1 h2 => by rw [gY i h1 h2]; exact hSY _ (getD_mem' (by omega))
    have hLl : ((A ++ (X ++ (Y ++ C))).length : Int) = n := by simp; omega
    refine vc112 _ _ _ _ _ _ _ _ _ w _ ?_
    simp only [half_eq]
    refine ⟨by omega, fun h1 => ?_, fun h1 => ⟨by omega, fun h2 => ?_, fun h2 => ?_⟩⟩
    · -- one element ahead
      refine ⟨fun ls w' => match ls with | [.int _ i, .int _ j] => (m ≤ i ∧ i ≤ j ∧ j ≤ b) ∧ (m < i → key ((A ++ (X ++ (Y ++ C))).getD (i - 1).toNat 0) < key ((A ++ (X ++ (Y ++ C))).getD a.toNat 0)) ∧ (j < b → key ((A ++ (X ++ (Y ++ C))).getD a.toNat 0) ≤ key ((A ++ (X ++ (Y ++ C))).getD j.toNat 0)) ∧ Chg [g] w w' ∧ Row 3 1 B ns (some ⟨g, 0, none⟩) n c (ints (A ++ (X ++ (Y ++ C)))) w' | _ => False, fun ls => match ls with | [.int _ i, .int _ j] => (j - i).toNat | _ => 0, fun w2 hk => ⟨⟨by omega, by omega, by omega⟩, fun h => by omega, fun h => by omega, kept0 hk, hR.chg (Chg.kept hk) (by simp)⟩, ?_⟩
      rintro x1 x2 w3 ⟨⟨i1, i2, i3⟩, lo, hi, hc3, R3⟩
      refine ⟨fun hlt => ?_, fun hge => ?_⟩
      · have hh1 : x1 ≤ (x1 + x2) / 2 := by omega
        have hh2 : (x1 + x2) / 2 < x2 := by omega
        generalize (x1 + x2) / 2 = h at *
        refine ⟨by omega, by omega, by omega, by omega, g, 0, rfl, ⟨by omega, by omega⟩, _, row_load R3 (by omega) rfl, g, 0, rfl, ⟨by omega, by omega⟩, _, row_load R3 (by omega) rfl, hf.1, fun w4 hk4 => ?_⟩
        refine cmp_call hf (hc3.trans (keptin0 hk4)) (sY h (by omega) (by omega)) (sX a (by omega) (by omega)) fun r w5 hb5 hr => ⟨r, rfl, .all hb5, fun hneg => ⟨by omega, fun w6 hk6 => ⟨⟨⟨by omega, by omega, by omega⟩, fun _ => ?_, hi, ?_, ?_⟩, ?_⟩⟩, fun hpos w7 hk7 => ⟨⟨⟨by omega, by omega, by omega⟩, lo, fun _ => ?_, ?_, ?_⟩, ?_⟩⟩
        · rw [show h + 1 - 1 = h by omega]; exact hr.1 hneg
        · exact ((hc3.trans (keptin0 hk4)).trans (Chg.of_below (S := [g]) hb5)).trans (kept0 hk6)
        · exact ((R3.chg (KeptIn.chg hk4) (by simp)).below hb5).chg (Chg.kept hk6) (by simp)
        · show (x2 - (h + 1)).toNat < (x2 - x1).toNat; omega
        · have : ¬ key ((A ++ (X ++ (Y ++ C))).getD h.toNat 0) < key ((A ++ (X ++ (Y ++ C))).getD a.toNat 0) := fun q => by have := hr.2 q; omega
          omega
        · exact ((hc3.trans (keptin0 hk4)).trans (Chg.of_below (S := [g]) hb5)).trans (kept0 hk7)
        · exact ((R3.chg (KeptIn.chg hk4) (by simp)).below hb5).chg (Chg.kept hk7) (by simp)
        · show (h - x1).toNat < (x2 - x1).toNat; omega
      · have e12 : x2 = x1 := by omega
        subst e12
        obtain ⟨x, rfl⟩ : ∃ x, X = [x] := List.length_eq_one_iff.1 (by omega)
        have q1 : x2.toNat - (A.length + [x].length) ≤ Y.length := by simp at *; omega
        have hxx : (A ++ ([x] ++ (Y ++ C))).getD a.toNat 0 = x := by rw [gX a (by omega) (by omega), show a.toNat - A.length = 0 by omega]; rfl
        rw [hxx] at lo hi
        have CA := cut_all (p := 0) (q := x2.toNat - (A.length + [x].length)) hX hY hsep (by simp) q1 (fun h => by omega) (fun _ h => by
          have := lo (by simp at *; omega)
          rw [gY (x2 - 1) (by simp at *; omega) (by omega), show (x2 - 1).toNat - (A.length + [x].length) = x2.toNat - (A.length + [x].length) - 1 by omega] at this
          exact this)
        have CB := cut_parts (A := []) (C := []) (p := 1) (q := x2.toNat - (A.length + [x].length)) hX hY (by simp) q1 (fun _ h => by
          have := hi (by simp at *; omega)
          rw [gY x2 (by simp at *; omega) (by simp at *; omega)] at this
          exact this) (fun h => by simp at h)
        generalize hq : x2.toNat - (A.length + [x].length) = q at *
        have hY12 : Y = Y.take q ++ Y.drop q := (List.take_append_drop _ _).symm
        have lq : (Y.take q).length = q := by rw [List.length_take]; omega
        generalize Y.take q = Y1 at *
        generalize Y.drop q = Y2 at *
        subst hY12
        obtain ⟨⟨_, sY1, _⟩, ⟨_, sY2, sp⟩, CA⟩ := CA
        have fin : Sorted key (Y1 ++ ([x] ++ Y2)) ∧ (Y1 ++ ([x] ++ Y2)).Perm ([x] ++ (Y1 ++ Y2)) := CA Y1 ([x] ++ Y2) (by simp) sY1 (by simp) (by
          refine List.pairwise_cons.2 ⟨fun y hy => ?_, sY2⟩
          have h1 := CB.1 x (by simp) y hy
          have h2 := hsep x (by simp) y (List.mem_append_right _ hy)
          unfold lexLt; omega)
        have hx1 : x2 = A.length + 1 + q := by simp at hq; simp at i1 hm; omega
        refine ⟨fun ls w' => match ls with | [.int _ k] => Chg [g] w w' ∧ ∃ Ya Yb, Y1 = Ya ++ Yb ∧ k = A.length + Ya.length ∧ Row 3 1 B ns (some ⟨g, 0, none⟩) n c (ints (A ++ (Ya ++ x :: (Yb ++ (Y2 ++ C))))) w' | _ => False, fun ls => match ls with | [.int _ k] => (A.length + q - k).toNat | _ => 0, fun w9 hk9 => ⟨hc3.trans (kept0 hk9), [], Y1, rfl, by simpa using ha, by simpa using R3.chg (Chg.kept hk9) (by simp)⟩, ?_⟩
        rintro k w10 ⟨hc10, Ya, Yb, rfl, rfl, R10⟩
        simp only [List.length_append] at lq hlen
        refine ⟨by omega, fun hlt => ?_, fun hge w16 hk16 => ⟨rfl, hc10.trans (kept0 hk16), _, fin.2, fin.1, ?_⟩⟩
        rotate_left
        · have : Yb = [] := List.length_eq_zero_iff.1 (by omega)
          subst this
          simpa using R10.chg (Chg.kept hk16) (by simp)
        rcases Yb with _ | ⟨y, Yb⟩
        · simp at lq; omega
        simp only [List.length_cons] at lq hlen
        have e1 : A ++ (Ya ++ x :: ((y :: Yb) ++ (Y2 ++ C))) = (A ++ Ya) ++ x :: (y :: (Yb ++ (Y2 ++ C))) := by simp
        have e2 : A ++ (Ya ++ x :: ((y :: Yb) ++ (Y2 ++ C))) = (A ++ (Ya ++ [x])) ++ y :: (Yb ++ (Y2 ++ C)) := by simp
        have e3 : (A ++ Ya) ++ y :: (y :: (Yb ++ (Y2 ++ C))) = (A ++ (Ya ++ [y])) ++ y :: (Yb ++ (Y2 ++ C)) := by simp
        have l1 : (A ++ Ya).length = A.length + Ya.length := by simp
        have l2 : ∀ z : Int, (A ++ (Ya ++ [z])).length = A.length + Ya.length + 1 := fun z => by simp; omega
        have hL : ((A ++ (Ya ++ x :: ((y :: Yb) ++ (Y2 ++ C)))).length : Int) = n := by simp at hlen ⊢; omega
        refine ⟨by omega, g, 0, rfl, ⟨by omega, by omega⟩, y, row_load R10 (by omega) (getD_eq e2 (by rw [l2]; omega)), g, 0, rfl, ⟨by omega, by omega⟩, x, row_load R10 (by omega) (getD_eq e1 (by rw [l1]; omega)), g, 0, rfl, ⟨by omega, by omega⟩, fun w11 hk11 => ?_⟩
        refine row_store (R10.chg (KeptIn.chg hk11) (by simp)) (by omega) fun w12 R12 c12 => ⟨keep_false c12, by omega, g, 0, rfl, ⟨by omega, by omega⟩, fun w13 hk13 => ?_⟩
        rw [set_eq e1 (by rw [l1]; omega), e3] at R12
        refine row_store (R12.chg (KeptIn.chg hk13) (by simp)) (by omega) fun w14 R14 c14 => ⟨keep_false c14, by omega, fun w15 hk15 => ⟨⟨?_, Ya ++ [y], Yb, by simp, by simp; omega, ?_⟩, ?_⟩⟩
        · exact (((hc10.trans (keptin0 hk11)).trans c12).trans (keptin0 hk13)).trans (c14.trans (kept0 hk15))
        · rw [set_eq rfl (by rw [l2]; omega)] at R14
          simpa using R14.chg (Chg.kept hk15) (by simp)
        · show ((A.length : Int) + q - (A.length + Ya.length + 1)).toNat < ((A.length : Int) + q - (A.length + Ya.length)).toNat
          omega
    · -- one element behind
      refine ⟨fun ls w' => match ls with | [.int _ i, .int _ j] => (a ≤ i ∧ i ≤ j ∧ j ≤ m) ∧ (a < i → key ((A ++ (X ++ (Y ++ C))).getD (i - 1).toNat 0) ≤ key ((A ++ (X ++ (Y ++ C))).getD m.toNat 0)) ∧ (j < m → key ((A ++ (X ++ (Y ++ C))).getD m.toNat 0) < key ((A ++ (X ++ (Y ++ C))).getD j.toNat 0)) ∧ Chg [g] w w' ∧ Row 3 1 B ns (some ⟨g, 0, none⟩) n c (ints (A ++ (X ++ (Y ++ C)))) w' | _ => False, fun ls => match ls with | [.int _ i, .int _ j] => (j - i).toNat | _ => 0, fun w2 hk => ⟨⟨by omega, by omega, by omega⟩, fun h => by omega, fun h => by omega, kept0 hk, hR.chg (Chg.kept hk) (by simp)⟩, ?_⟩
      rintro x1 x2 w3 ⟨⟨i1, i2, i3⟩, lo, hi, hc3, R3⟩
      refine ⟨fun hlt => ?_, fun hge => ?_⟩
      · have hh1 : x1 ≤ (x1 + x2) / 2 := by omega
        have hh2 : (x1 + x2) / 2 < x2 := by omega
        have hh3 : -9223372036854775808 ≤ x1 + x2 ∧ x1 + x2 ≤ 9223372036854775807 := by omega
        have hh4 : 0 ≤ x1 + x2 ∧ x1 + x2 ≤ 18446744073709551615 := by omega
        generalize (x1 + x2) / 2 = h at *
        refine ⟨hh3, hh4, by decide, by omega, g, 0, rfl, ⟨by omega, by omega⟩, _, row_load R3 (by omega) rfl, g, 0, rfl, ⟨by omega, by omega⟩, _, row_load R3 (by omega) rfl, hf.1, fun w4 hk4 => ?_⟩
        refine cmp_call hf (hc3.trans (keptin0 hk4)) (sY m (by omega) (by omega)) (sX h (by omega) (by omega)) fun r w5 hb5 hr => ⟨r, rfl, .all hb5, fun hpos => ⟨by omega, fun w6 hk6 => ⟨⟨⟨by omega, by omega, by omega⟩, fun _ => ?_, hi, ?_, ?_⟩, ?_⟩⟩, fun hneg w7 hk7 => ⟨⟨⟨by omega, by omega, by omega⟩, lo, fun _ => hr.1 hneg, ?_, ?_⟩, ?_⟩⟩
        · rw [show h + 1 - 1 = h by omega]
          have : ¬ key ((A ++ (X ++ (Y ++ C))).getD m.toNat 0) < key ((A ++ (X ++ (Y ++ C))).getD h.toNat 0) := fun q => by have := hr.2 q; omega
          omega
        · exact ((hc3.trans (keptin0 hk4)).trans (Chg.of_below (S := [g]) hb5)).trans (kept0 hk6)
        · exact ((R3.chg (KeptIn.chg hk4) (by simp)).below hb5).chg (Chg.kept hk6) (by simp)
        · show (x2 - (h + 1)).toNat < (x2 - x1).toNat; omega
        · exact ((hc3.trans (keptin0 hk4)).trans (Chg.of_below (S := [g]) hb5)).trans (kept0 hk7)
        · exact ((R3.chg (KeptIn.chg hk4) (by simp)).below hb5).chg (Chg.kept hk7) (by simp)
        · show (h - x1).toNat < (x2 - x1).toNat; omega
      · have e12 : x2 = x1 := by omega
        subst e12
        obtain ⟨y, rfl⟩ : ∃ y, Y = [y] := List.length_eq_one_iff.1 (by omega)
        have hyy : (A ++ (X ++ ([y] ++ C))).getD m.toNat 0 = y := by rw [gY m (by omega) (by simp at hb; omega), show m.toNat - (A.length + X.length) = 0 by omega]; rfl
        rw [hyy] at lo hi
        have p1 : x2.toNat - A.length ≤ X.length := by omega
        have CA := cut_all (p := x2.toNat - A.length) (q := 1) hX hY hsep p1 (by simp) (fun _ h => by simp at h) (fun h _ => by
          have := hi (by omega)
          rw [gX x2 (by omega) (by omega)] at this
          exact this)
        have CB := cut_parts (A := []) (C := []) (p := x2.toNat - A.length) (q := 0) hX hY p1 (by simp) (fun h _ => by
          have := lo (by omega)
          rw [gX (x2 - 1) (by omega) (by omega), show (x2 - 1).toNat - A.length = x2.toNat - A.length - 1 by omega] at this
          exact this) (fun _ h => by omega)
        generalize hp : x2.toNat - A.length = p at *
        have hX12 : X = X.take p ++ X.drop p := (List.take_append_drop _ _).symm
        have lp : (X.take p).length = p := by rw [List.length_take]; omega
        generalize X.take p = X1 at *
        generalize X.drop p = X2 at *
        subst hX12
        simp only [List.length_append] at lp hlen hm hb
        obtain ⟨⟨sX1, _, _⟩, ⟨sX2, _, _⟩, CA⟩ := CA
        have fin : Sorted key ((X1 ++ [y]) ++ X2) ∧ ((X1 ++ [y]) ++ X2).Perm ((X1 ++ X2) ++ [y]) := CA (X1 ++ [y]) X2 (by simp) (by
          refine List.pairwise_append.2 ⟨sX1, List.pairwise_singleton _ _, fun x hx z hz => ?_⟩
          have hz : z = y := by simpa using hz
          subst hz
          have h1 := CB.1 x hx z (by simp)
          have h2 := hsep x (List.mem_append_left _ hx) z (by simp)
          unfold lexLt; omega) (by simp) sX2
        refine ⟨fun ls w' => match ls with | [.int _ k] => Chg [g] w w' ∧ ∃ Xa Xb, X2 = Xa ++ Xb ∧ k = A.length + X1.length + Xa.length ∧ Row 3 1 B ns (some ⟨g, 0, none⟩) n c (ints (A ++ (X1 ++ (Xa ++ y :: (Xb ++ C))))) w' | _ => False, fun ls => match ls with | [.int _ k] => k.toNat | _ => 0, fun w9 hk9 => ⟨hc3.trans (kept0 hk9), X2, [], by simp, by omega, by simpa using R3.chg (Chg.kept hk9) (by simp)⟩, ?_⟩
        rintro k w10 ⟨hc10, Xa, Xb, rfl, rfl, R10⟩
        simp only [List.length_append] at hlen hm hb
        refine ⟨fun hlt => ?_, fun hge w16 hk16 => ⟨rfl, hc10.trans (kept0 hk16), _, fin.2, fin.1, ?_⟩⟩
        rotate_left
        · have : Xa = [] := List.length_eq_zero_iff.1 (by omega)
          subst this
          simpa using R10.chg (Chg.kept hk16) (by simp)
        rcases List.eq_nil_or_concat Xa with rfl | ⟨Xc, z, hz⟩
        · simp at hlt; omega
        have hz : Xa = Xc ++ [z] := by simpa using hz
        subst hz
        simp only [List.length_append, List.length_cons, List.length_nil] at hlen hm hb ⊢
        have e1 : A ++ (X1 ++ ((Xc ++ [z]) ++ y :: (Xb ++ C))) = (A ++ (X1 ++ Xc)) ++ z :: (y :: (Xb ++ C)) := by simp
        have e2 : A ++ (X1 ++ ((Xc ++ [z]) ++ y :: (Xb ++ C))) = (A ++ (X1 ++ (Xc ++ [z]))) ++ y :: (Xb ++ C) := by simp
        have e3 : (A ++ (X1 ++ (Xc ++ [z]))) ++ z :: (Xb ++ C) = (A ++ (X1 ++ Xc)) ++ z :: (z :: (Xb ++ C)) := by simp
        have l1 : (A ++ (X1 ++ Xc)).length = A.length + X1.length + Xc.length := by simp; omega
        have l2 : (A ++ (X1 ++ (Xc ++ [z]))).length = A.length + X1.length + Xc.length + 1 := by simp; omega
        have hL : ((A ++ (X1 ++ ((Xc ++ [z]) ++ y :: (Xb ++ C)))).length : Int) = n := by simp at hlen ⊢; omega
        refine ⟨by omega, g, 0, rfl, ⟨by omega, by omega⟩, z, row_load R10 (by omega) (getD_eq e1 (by rw [l1]; omega)), g, 0, rfl, ⟨by omega, by omega⟩, y, row_load R10 (by omega) (getD_eq e2 (by rw [l2]; omega)), g, 0, rfl, ⟨by omega, by omega⟩, fun w11 hk11 => ?_⟩
        refine row_store (R10.chg (KeptIn.chg hk11) (by simp)) (by omega) fun w12 R12 c12 => ⟨keep_false c12, by omega, g, 0, rfl, ⟨by omega, by omega⟩, fun w13 hk13 => ?_⟩
        rw [set_eq e2 (by rw [l2]; omega), e3] at R12
        refine row_store (R12.chg (KeptIn.chg hk13) (by simp)) (by omega) fun w14 R14 c14 => ⟨keep_false c14, by omega, fun w15 hk15 => ⟨⟨?_, Xc, z :: Xb, by simp, by omega, ?_⟩, ?_⟩⟩
        · exact (((hc10.trans (keptin0 hk11)).trans c12).trans (keptin0 hk13)).trans (c14.trans (kept0 hk15))
        · rw [set_eq rfl (by rw [l1]; omega)] at R14
          simpa using R14.chg (Chg.kept hk15) (by simp)
        · show ((A.length : Int) + X1.length + ((Xc.length + (0 + 1) : Nat) : Int) - 1).toNat < ((A.length : Int) + X1.length + ((Xc.length + (0 + 1) : Nat) : Int)).toNat
          omega
    · -- two halves
      have hm1 : 2 * ((a + b) / 2) ≤ a + b := by omega
      have hm2 : a + b ≤ 2 * ((a + b) / 2) + 1 := by omega
      have hm3 : -9223372036854775808 ≤ a + b ∧ a + b ≤ 9223372036854775807 := by omega
      have hm4 : 0 ≤ a + b ∧ a + b ≤ 18446744073709551615 := by omega
      generalize (a + b) / 2 = mid at *
      refine ⟨hm3, hm4, by decide, by omega, by omega, fun ls w' => match ls with | [.int _ lo, .int _ hi] => ((mid < m ∧ lo = mid + m - b ∧ hi = mid) ∨ (m ≤ mid ∧ lo = a ∧ hi = m)) ∧ Chg [g] w w' ∧ Row 3 1 B ns (some ⟨g, 0, none⟩) n c (ints (A ++ (X ++ (Y ++ C)))) w' | _ => False, ⟨fun h => ⟨by omega, fun w34 hk => ⟨.inl ⟨h, rfl, rfl⟩, kept0 hk, hR.chg (Chg.kept hk) (by simp)⟩⟩, fun h w35 hk => ⟨.inr ⟨h, rfl, rfl⟩, kept0 hk, hR.chg (Chg.kept hk) (by simp)⟩⟩, ?_⟩
      rintro lo hi w36 ⟨hlh, hc36, R36⟩
      have b1 : a ≤ lo ∧ lo ≤ hi ∧ hi ≤ m ∧ hi ≤ mid ∧ mid + m - lo ≤ b ∧ (lo = mid + m - b ∨ lo = a) ∧ (hi = mid ∨ hi = m) := by omega
      clear hlh
      obtain ⟨b1, b2, b3, b4, b5, b6, b7⟩ := b1
      refine ⟨by omega, fun ls w' => match ls with | [.int _ s, .int _ r] => (lo ≤ s ∧ s ≤ r ∧ r ≤ hi) ∧ (lo < s → key ((A ++ (X ++ (Y ++ C))).getD (s - 1).toNat 0) ≤ key ((A ++ (X ++ (Y ++ C))).getD (mid + m - s).toNat 0)) ∧ (r < hi → key ((A ++ (X ++ (Y ++ C))).getD (mid + m - 1 - r).toNat 0) < key ((A ++ (X ++ (Y ++ C))).getD r.toNat 0)) ∧ Chg [g] w w' ∧ Row 3 1 B ns (some ⟨g, 0, none⟩) n c (ints (A ++ (X ++ (Y ++ C)))) w' | _ => False, fun ls => match ls with | [.int _ s, .int _ r] => (r - s).toNat | _ => 0, fun w38 hk => ⟨⟨by omega, by omega, by omega⟩, fun h => by omega, fun h => by omega, hc36.trans (kept0 hk), R36.chg (Chg.kept hk) (by simp)⟩, ?_⟩
      rintro s r w39 ⟨⟨s1, s2, s3⟩, hlo, hhi, hc39, R39⟩
      refine ⟨fun hlt => ?_, fun hge => ⟨by omega, ?_⟩⟩
      · have hh1 : s ≤ (s + r) / 2 := by omega
        have hh2 : (s + r) / 2 < r := by omega
        have hh3 : -9223372036854775808 ≤ s + r ∧ s + r ≤ 9223372036854775807 := by omega
        have hh4 : 0 ≤ s + r ∧ s + r ≤ 18446744073709551615 := by omega
        generalize (s + r) / 2 = h at *
        refine ⟨hh3, hh4, by decide, by omega, by omega, g, 0, rfl, ⟨by omega, by omega⟩, _, row_load R39 (by omega) rfl, g, 0, rfl, ⟨by omega, by omega⟩, _, row_load R39 (by omega) rfl, hf.1, fun w40 hk40 => ?_⟩
        refine cmp_call hf (hc39.trans (keptin0 hk40)) (sY (mid + m - 1 - h) (by omega) (by omega)) (sX h (by omega) (by omega)) fun r' w41 hb41 hr => ⟨r', rfl, .all hb41, fun hpos => ⟨by omega, fun w42 hk42 => ⟨⟨⟨by omega, by omega, by omega⟩, fun _ => ?_, hhi, ?_, ?_⟩, ?_⟩⟩, fun hneg w43 hk43 => ⟨⟨⟨by omega, by omega, by omega⟩, hlo, fun _ => hr.1 hneg, ?_, ?_⟩, ?_⟩⟩
        · rw [show h + 1 - 1 = h by omega, show mid + m - (h + 1) = mid + m - 1 - h by omega]
          have : ¬ key ((A ++ (X ++ (Y ++ C))).getD (mid + m - 1 - h).toNat 0) < key ((A ++ (X ++ (Y ++ C))).getD h.toNat 0) := fun q => by have := hr.2 q; omega
          omega
        · exact ((hc39.trans (keptin0 hk40)).trans (Chg.of_below (S := [g]) hb41)).trans (kept0 hk42)
        · exact ((R39.chg (KeptIn.chg hk40) (by simp)).below hb41).chg (Chg.kept hk42) (by simp)
        · show (r - (h + 1)).toNat < (r - s).toNat; omega
        · exact ((hc39.trans (keptin0 hk40)).trans (Chg.of_below (S := [g]) hb41)).trans (kept0 hk43)
        · exact ((R39.chg (KeptIn.chg hk40) (by simp)).below hb41).chg (Chg.kept hk43) (by simp)
        · show (h - s).toNat < (r - s).toNat; omega
      have e12 : r = s := by omega
      subst e12
      have p1 : r.toNat - A.length ≤ X.length := by omega
      have q1 : (mid - r).toNat ≤ Y.length := by omega
      have CA := cut_all (p := r.toNat - A.length) (q := (mid - r).toNat) hX hY hsep p1 q1 (fun h h' => by
        have := hlo (by omega)
        rw [gX (r - 1) (by omega) (by omega), gY (mid + m - r) (by omega) (by omega), show (r - 1).toNat - A.length = r.toNat - A.length - 1 by omega, show (mid + m - r).toNat - (A.length + X.length) = (mid - r).toNat by omega] at this
        exact this) (fun h h' => by
        have := hhi (by omega)
        rw [gX r (by omega) (by omega), gY (mid + m - 1 - r) (by omega) (by omega), show (mid + m - 1 - r).toNat - (A.length + X.length) = (mid - r).toNat - 1 by omega] at this
        exact this)
      have lp : (X.take (r.toNat - A.length)).length = r.toNat - A.length := by rw [List.length_take]; omega
      have lq : (Y.take (mid - r).toNat).length = (mid - r).toNat := by rw [List.length_take]; omega
      have hX12 : X = X.take (r.toNat - A.length) ++ X.drop (r.toNat - A.length) := (List.take_append_drop _ _).symm
      have hY12 : Y = Y.take (mid - r).toNat ++ Y.drop (mid - r).toNat := (List.take_append_drop _ _).symm
      clear hlo hhi gX gY sX sY
      generalize X.take (r.toNat - A.length) = X1 at *
      generalize X.drop (r.toNat - A.length) = X2 at *
      generalize Y.take (mid - r).toNat = Y1 at *
      generalize Y.drop (mid - r).toNat = Y2 at *
      subst hX12 hY12
      simp only [List.length_append] at hlen hm hb hN hX0 hY0 p1 q1
      obtain ⟨⟨sX1, sY1, sp1⟩, ⟨sX2, sY2, sp2⟩, CA⟩ := CA
      clear hLl
      refine ⟨fun ls w' => match ls with | [.bool t] => t = decide (r < m ∧ m < mid + m - r) ∧ Chg [g] w w' ∧ Row 3 1 B ns (some ⟨g, 0, none⟩) n c (ints (A ++ ((X1 ++ X2) ++ ((Y1 ++ Y2) ++ C)))) w' | _ => False, ⟨fun h w45 hk => ⟨by simp [h], hc39.trans (kept0 hk), R39.chg (Chg.kept hk) (by simp)⟩, fun h w46 hk => ⟨by simp [show ¬ r < m by omega], hc39.trans (kept0 hk), R39.chg (Chg.kept hk) (by simp)⟩⟩, ?_⟩
      rintro t1 w47 ⟨ht1, hc47, R47⟩
      refine ⟨fun ls w' => match ls with | [] => Chg [g] w w' ∧ Row 3 1 B ns (some ⟨g, 0, none⟩) n c (ints (A ++ ((X1 ++ Y1) ++ ((X2 ++ Y2) ++ C)))) w' | _ => False, ⟨fun h w49 hk => ?_, fun h w52 hk => ⟨hc47.trans (kept0 hk), ?_⟩⟩, ?_⟩
      · rw [ht1] at h
        have h := of_decide_eq_true h
        refine (rotate_l (A := A ++ X1) (X := X2) (Y := Y1) (C := Y2 ++ C) (by simpa using R47.chg (Chg.kept hk) (by simp)) hg hn (by omega) (by omega) (by simp; omega) (by simp; omega) (by simp; omega)).mono fun e w50 he => ?_
        obtain ⟨rfl, c50, R50⟩ := he
        exact ⟨rfl, keep_false c50, fun w51 hk51 => ⟨(hc47.trans (kept0 hk)).trans (c50.trans (kept0 hk51)), by simpa using R50.chg (Chg.kept hk51) (by simp)⟩⟩
      · rw [ht1] at h
        have h := of_decide_eq_false h
        have h : X2.length = 0 ∨ Y1.length = 0 := by omega
        rcases h with h | h
        · have : X2 = [] := List.length_eq_zero_iff.1 h
          subst this
          simpa using R47.chg (Chg.kept hk) (by simp)
        · have : Y1 = [] := List.length_eq_zero_iff.1 h
          subst this
          simpa using R47.chg (Chg.kept hk) (by simp)
      rintro w53 ⟨hc53, R53⟩
      refine ⟨fun ls w' => match ls with | [.bool t] => t = decide (a < r ∧ r < mid) ∧ Chg [g] w w' ∧ Row 3 1 B ns (some ⟨g, 0, none⟩) n c (ints (A ++ ((X1 ++ Y1) ++ ((X2 ++ Y2) ++ C)))) w' | _ => False, ⟨fun h w45 hk => ⟨by simp [h], hc53.trans (kept0 hk), R53.chg (Chg.kept hk) (by simp)⟩, fun h w46 hk => ⟨by simp [show ¬ a < r by omega], hc53.trans (kept0 hk), R53.chg (Chg.kept hk) (by simp)⟩⟩, ?_⟩
      rintro t2 w57 ⟨ht2, hc57, R57⟩
      refine ⟨fun ls w' => match ls with | [] => Chg [g] w w' ∧ ∃ Z1, Z1.Perm (X1 ++ Y1) ∧ Sorted key Z1 ∧ Row 3 1 B ns (some ⟨g, 0, none⟩) n c (ints (A ++ (Z1 ++ ((X2 ++ Y2) ++ C)))) w' | _ => False, ⟨fun h w59 hk => ?_, fun h w62 hk => ⟨hc57.trans (kept0 hk), X1 ++ Y1, .refl _, ?_, R57.chg (Chg.kept hk) (by simp)⟩⟩, ?_⟩
      · rw [ht2] at h
        have h := of_decide_eq_true h
        refine (sym_l N (A := A) (X := X1) (Y := Y1) (C := (X2 ++ Y2) ++ C) (w := w59) (by omega) (by simpa using R57.chg (Chg.kept hk) (by simp)) hg hn (by omega) (by omega) sX1 sY1 sp1 (fun x hx => hSX x (List.mem_append_left _ hx)) (fun x hx => hSY x (List.mem_append_left _ hx)) (hf.chg (hc57.trans (kept0 hk))) ha (by omega) (by omega)).mono fun e w60 he => ?_
        obtain ⟨rfl, c60, Z1, hz1, hz2, R60⟩ := he
        exact ⟨rfl, keep_false c60, fun w61 hk61 => ⟨(hc57.trans (kept0 hk)).trans (c60.trans (kept0 hk61)), Z1, hz1, hz2, R60.chg (Chg.kept hk61) (by simp)⟩⟩
      · rw [ht2] at h
        have h := of_decide_eq_false h
        have h : X1.length = 0 ∨ Y1.length = 0 := by omega
        rcases h with h | h
        · have : X1 = [] := List.length_eq_zero_iff.1 h
          subst this
          simpa using sY1
        · have : Y1 = [] := List.length_eq_zero_iff.1 h
          subst this
          simpa using sX1
      rintro w63 ⟨hc63, Z1, hz1, hz2, R63⟩
      have lz : Z1.length = X1.length + Y1.length := by rw [hz1.length_eq, List.length_append]
      refine ⟨fun ls w' => match ls with | [.bool t] => t = decide (mid < mid + m - r ∧ mid + m - r < b) ∧ Chg [g] w w' ∧ Row 3 1 B ns (some ⟨g, 0, none⟩) n c (ints (A ++ (Z1 ++ ((X2 ++ Y2) ++ C)))) w' | _ => False, ⟨fun h w45 hk => ⟨by simp [h], hc63.trans (kept0 hk), R63.chg (Chg.kept hk) (by simp)⟩, fun h w46 hk => ⟨by simp [show ¬ mid < mid + m - r by omega], hc63.trans (kept0 hk), R63.chg (Chg.kept hk) (by simp)⟩⟩, ?_⟩
      rintro t3 w67 ⟨ht3, hc67, R67⟩
      refine ⟨fun h w68 hk => ?_, fun h w71 hk => ?_⟩
      · rw [ht3] at h
        have h := of_decide_eq_true h
        refine (sym_l N (A := A ++ Z1) (X := X2) (Y := Y2) (C := C) (w := w68) (by omega) (by simpa using R67.chg (Chg.kept hk) (by simp)) hg hn (by omega) (by omega) sX2 sY2 sp2 (fun x hx => hSX x (List.mem_append_right _ hx)) (fun x hx => hSY x (List.mem_append_right _ hx)) (hf.chg (hc67.trans (kept0 hk))) (by simp; omega) (by simp; omega) (by simp; omega)).mono fun e w69 he => ?_
        obtain ⟨rfl, c69, Z2, hy1, hy2, R69⟩ := he
        have fin := CA Z1 Z2 hz1 hz2 hy1 hy2
        exact ⟨rfl, keep_false c69, fun w70 hk70 => ⟨rfl, (hc67.trans (kept0 hk)).trans (c69.trans (kept0 hk70)), _, fin.2, fin.1, by simpa using R69.chg (Chg.kept hk70) (by simp)⟩⟩
      · rw [ht3] at h
        have h := of_decide_eq_false h
        have h : X2.length = 0 ∨ Y2.length = 0 := by omega
        have s2 : Sorted key (X2 ++ Y2) := by
          rcases h with h | h
          · have : X2 = [] := List.length_eq_zero_iff.1 h
            subst this
            simpa using sY2
          · have : Y2 = [] := List.length_eq_zero_iff.1 h
            subst this
            simpa using sX2
        have fin := CA Z1 (X2 ++ Y2) hz1 hz2 (.refl _) s2
        exact ⟨rfl, hc67.trans (kept0 hk), _, fin.2, fin.1, by simpa using R67.chg (Chg.kept hk) (by simp)⟩
end
end Go.Proofs.R12
end
section
/- The library's stable sort: blocks are sorted, then merged. -/
namespace Go.Proofs.R12
open Go.Vc Go.RowKit Go.Proofs
section
variable {key : Int → Int} {s : Nat}
/-- Full blocks, each one sorted. -/
inductive Fu (key : Int → Int) (s : Nat) : List Int → List Int → Prop
  | nil : Fu key s [] []
  | snoc {D D0 X X0 : List Int} : Fu key s D D0 → X.length = s → X.Perm X0 → Sorted key X → Fu key s (D ++ X) (D0 ++ X0)
/-- Blocks, each one sorted, of which the last one may be shorter. -/
inductive Bl (key : Int → Int) (s : Nat) : List Int → List Int → Prop
  | last {X X0 : List Int} : X.length ≤ s → X.Perm X0 → Sorted key X → Bl key s X X0
  | cons {X X0 R R0 : List Int} : X.length = s → X.Perm X0 → Sorted key X → Bl key s R R0 → Bl key s (X ++ R) (X0 ++ R0)
theorem Fu.bl {D D0 : List Int} (h : Fu key s D D0) : ∀ {R R0 : List Int}, Bl key s R R0 → Bl key s (D ++ R) (D0 ++ R0) := by
  induction h with
  | nil => intro R R0 hb; exact hb
  | snoc hD hl hp hs ih => intro R R0 hb; rw [List.append_assoc, List.append_assoc]; exact ih (.cons hl hp hs hb)
theorem Fu.perm {D D0 : List Int} (h : Fu key s D D0) : D.Perm D0 := by
  induction h with
  | nil => exact .refl _
  | snoc hD hl hp hs ih => exact ih.append hp
theorem Bl.perm {D D0 : List Int} (h : Bl key s D D0) : D.Perm D0 := by
  induction h with
  | last _ hp _ => exact hp
  | cons hl hp hs hb ih => exact hp.append ih
theorem Bl.short {R R0 : List Int} (h : Bl key s R R0) (hl : R.length ≤ s) : R.Perm R0 ∧ Sorted key R := by
  refine ⟨h.perm, ?_⟩
  cases h with
  | last _ hp hs => exact hs
  | @cons X X0 R R0 hX hp hs hb =>
    have : R = [] := List.length_eq_zero_iff.1 (by rw [List.length_append] at hl; omega)
    subst this; simpa using hs
theorem Bl.two {R R0 : List Int} (h : Bl key s R R0) (h0 : 0 < s) (hl : 2 * s ≤ R.length) : ∃ X Y R1 X0 Y0 R10, R = X ++ (Y ++ R1) ∧ R0 = X0 ++ (Y0 ++ R10) ∧ X.length = s ∧ Y.length = s ∧ X.Perm X0 ∧ Y.Perm Y0 ∧ Sorted key X ∧ Sorted key Y ∧ Bl key s R1 R10 := by
  cases h with
  | last h1 hp hs => omega
  | @cons X X0 R R0 hX hp hs hb =>
    rw [List.length_append] at hl
    cases hb with
    | last h1 hp1 hs1 => exact ⟨X, R, [], X0, R0, [], by simp, by simp, hX, by omega, hp, hp1, hs, hs1, .last (by simp) (.refl _) (by simp [Sorted])⟩
    | @cons Y Y0 R1 R10 hY hp1 hs1 hb1 => exact ⟨X, Y, R1, X0, Y0, R10, rfl, rfl, hX, hY, hp, hp1, hs, hs1, hb1⟩
theorem Bl.rest {R R0 : List Int} (h : Bl key s R R0) (h1 : s < R.length) (h2 : R.length < 2 * s) : ∃ X Y X0 Y0, R = X ++ Y ∧ R0 = X0 ++ Y0 ∧ X.length = s ∧ 0 < Y.length ∧ Y.length ≤ s ∧ X.Perm X0 ∧ Y.Perm Y0 ∧ Sorted key X ∧ Sorted key Y := by
  cases h with
  | last h1 hp hs => omega
  | @cons X X0 R R0 hX hp hs hb =>
    rw [List.length_append] at h1 h2
    have := hb.short (by omega)
    exact ⟨X, R, X0, R0, rfl, rfl, hX, by omega, by omega, hp, this.1, hs, this.2⟩
theorem sep_of {D X Y R l : List Int} (h : l.Pairwise (· < ·)) (e : l = D ++ (X ++ (Y ++ R))) : (∀ x ∈ X, ∀ y ∈ Y, x < y) := by
  subst e
  have h1 := (List.pairwise_append.1 h).2.1
  exact fun x hx y hy => (List.pairwise_append.1 h1).2.2 x hx y (List.mem_append_left _ hy)
end
section
variable {B n c g : Nat} {ns : List Nat} {f : Nat} {fi fc : List Value} {key : Int → Int} {S : Int → Prop}

theorem isort_p {D X R : List Int} {w : World} (hR : Row 3 1 B ns (some ⟨g, 0, none⟩) n c (ints (D ++ (X ++ R))) w) (hg : g ∉ ns) (hn : n ≤ 100000) (hinc : X.Pairwise (· < ·)) (hS : ∀ x ∈ D ++ (X ++ R), S x) (hf : CmpOk f fi fc key S g w) {a b : Int} (ha : a = D.length) (hb : b = D.length + X.length) :
    Calls Try.prog 111 #[.slice (some ⟨g, 0, none⟩) n c, I a, I b, .func (.func f) fi.toArray fc.toArray] w fun e w' => e = .returned (.tuple #[]) ∧ Chg [g] w w' ∧ ∃ s, s.Perm X ∧ Sorted key s ∧ Row 3 1 B ns (some ⟨g, 0, none⟩) n c (ints (D ++ (s ++ R))) w' := by
  have hlen : D.length + (X.length + R.length) = n := by have := hR.len; simpa [ints] using this
  have ea : a = ((D.length : Nat) : Int) := ha
  have eb : b = ((D.length + X.length : Nat) : Int) := by omega
  rw [ea, eb]
  refine (isort_l (a := D.length) (b := D.length + X.length) hR hg (by omega) (by omega) hn (fun j k h1 h2 h3 => ?_) ⟨hf.1, fun w hw x y hx hy => hf.2 w hw x y (hS x hx) (hS y hy)⟩).mono fun e w' he => ?_
  · rw [get_X h1 (by omega), get_X (by omega) (by omega)]
    have := List.pairwise_iff_getElem.1 hinc (j - D.length) (k - D.length) (by omega) (by omega) (by omega)
    rw [List.getD_eq_getElem?_getD, List.getD_eq_getElem?_getD, getElem_of_lt (by omega), getElem_of_lt (by omega)]
    exact this
  · obtain ⟨h1, h2, s, h3, h4, h5⟩ := he
    refine ⟨h1, h2, s, ?_, h5, ?_⟩
    · simpa using h4
    · have e1 : (D ++ (X ++ R)).take D.length = D := by simp
      have e2 : (D ++ (X ++ R)).drop (D.length + X.length) = R := by rw [← List.drop_drop]; simp
      rw [e1, e2, List.append_assoc] at h3
      exact h3

set_option maxHeartbeats 2000000 in
theorem stable_l {l : List Int} {w : World} (hR : Row 3 1 B ns (some ⟨g, 0, none⟩) n c (ints l) w) (hg : g ∉ ns) (hn : n ≤ 100000)
    (hinc : l.Pairwise (· < ·)) (hf : CmpOk f fi fc key (· ∈ l) g w) :
    Calls Try.prog 98 #[.slice (some ⟨g, 0, none⟩) n c, I n, .func (.func f) fi.toArray fc.toArray] w fun e w' => e = .returned (.tuple #[]) ∧ Chg [g] w w' ∧ ∃ s, Row 3 1 B ns (some ⟨g, 0, none⟩) n c (ints s) w' ∧ s.Perm l ∧ Sorted key s := by
  have hlen : l.length = n := by have := hR.len; simp [ints] at this; omega
  refine vc98 _ _ _ _ _ _ _ w _ ⟨fun ls w' => match ls with | [.int _ x, .int _ y] => y = x + 20 ∧ Chg [g] w w' ∧ ∃ D D0 R, Fu key 20 D D0 ∧ l = D0 ++ R ∧ x = D.length ∧ Row 3 1 B ns (some ⟨g, 0, none⟩) n c (ints (D ++ R)) w' | _ => False, fun ls => match ls with | [_, .int _ y] => ((n : Int) + 20 - y).toNat | _ => 0, fun w2 hk => ⟨rfl, kept0 hk, [], [], l, .nil, rfl, rfl, hR.chg (Chg.kept hk) (by simp)⟩, ?_⟩
  rintro x1 x2 w3 ⟨rfl, hc3, D, D0, R, hD, hl, rfl, R3⟩
  have hDl : D.length = D0.length := hD.perm.length_eq
  have hll : D0.length + R.length = n := by rw [← hlen, hl, List.length_append]
  refine ⟨fun hle w4 hk4 => ?_, fun hgt w7 hk7 => ?_⟩
  · have hc4 := hc3.trans (kept0 hk4)
    have hR12 : R = R.take 20 ++ R.drop 20 := (List.take_append_drop _ _).symm
    have lX : (R.take 20).length = 20 := by rw [List.length_take]; omega
    generalize R.take 20 = X at *
    generalize R.drop 20 = R' at *
    subst hR12
    rw [List.length_append] at hll
    refine (isort_p (D := D) (X := X) (R := R') (S := (· ∈ l)) (R3.chg (Chg.kept hk4) (by simp)) hg hn ?_ (fun x hx => ?_) (hf.chg hc4) rfl (by omega)).mono fun e w5 he => ?_
    · rw [hl] at hinc
      exact (List.pairwise_append.1 (List.pairwise_append.1 hinc).2.1).1
    · rw [hl]
      rcases List.mem_append.1 hx with h | h
      · exact List.mem_append_left _ (hD.perm.subset h)
      · exact List.mem_append_right _ h
    obtain ⟨rfl, c5, s, hs1, hs2, R5⟩ := he
    refine ⟨rfl, keep_false c5, by omega, fun w6 hk6 => ⟨⟨rfl, hc4.trans (c5.trans (kept0 hk6)), D ++ s, D0 ++ X, R', hD.snoc (by rw [hs1.length_eq]; exact lX) hs1 hs2, by rw [hl]; simp, ?_, by simpa using R5.chg (Chg.kept hk6) (by simp)⟩, ?_⟩⟩
    · rw [List.length_append, hs1.length_eq, lX]; omega
    · show ((n : Int) + 20 - (D.length + 20 + 20)).toNat < ((n : Int) + 20 - (D.length + 20)).toNat
      omega
  have hc7 := hc3.trans (kept0 hk7)
  refine (isort_p (D := D) (X := R) (R := []) (S := (· ∈ l)) (by simpa using R3.chg (Chg.kept hk7) (by simp)) hg hn ?_ (fun x hx => ?_) (hf.chg hc7) rfl (by omega)).mono fun e w8 he => ?_
  · rw [hl] at hinc
    exact (List.pairwise_append.1 hinc).2.1
  · rw [hl]
    rcases List.mem_append.1 hx with h | h
    · exact List.mem_append_left _ (hD.perm.subset h)
    · exact List.mem_append_right _ (by simpa using h)
  obtain ⟨rfl, c8, s, hs1, hs2, R8⟩ := he
  have hc8 := hc7.trans c8
  refine ⟨rfl, keep_false c8, fun ls w' => match ls with | [.int _ z, _, _] => ∃ bs : Nat, z = bs ∧ 0 < bs ∧ ∃ L, Bl key bs L l ∧ Chg [g] w w' ∧ Row 3 1 B ns (some ⟨g, 0, none⟩) n c (ints L) w' | _ => False, fun ls => match ls with | [.int _ z, _, _] => ((n : Int) - z).toNat | _ => 0, fun w10 hk => ⟨20, rfl, by decide, D ++ s, ?_, hc8.trans (kept0 hk), by simpa using R8.chg (Chg.kept hk) (by simp)⟩, ?_⟩
  · rw [hl]
    exact hD.bl (.last (by rw [hs1.length_eq]; omega) hs1 hs2)
  rintro z y1 y2 w11 ⟨bs, rfl, h0, L, hB, hc11, R11⟩
  refine ⟨fun hlt => ⟨by omega, ?_⟩, fun hge w22 hk => ⟨rfl, hc11.trans (kept0 hk), L, R11.chg (Chg.kept hk) (by simp), hB.perm, (hB.short (by rw [hB.perm.length_eq]; omega)).2⟩⟩
  refine ⟨fun ls w' => match ls with | [.int _ x, .int _ y] => y = x + 2 * bs ∧ ∃ D D0 R R0, Fu key (2 * bs) D D0 ∧ Bl key bs R R0 ∧ l = D0 ++ R0 ∧ x = D.length ∧ Chg [g] w w' ∧ Row 3 1 B ns (some ⟨g, 0, none⟩) n c (ints (D ++ R)) w' | _ => False, fun ls => match ls with | [_, .int _ y] => ((n : Int) + 2 * bs - y).toNat | _ => 0, fun w13 hk => ⟨by omega, [], [], L, l, .nil, hB, rfl, rfl, hc11.trans (kept0 hk), R11.chg (Chg.kept hk) (by simp)⟩, ?_⟩
  clear hD hs1 hs2 R8 R3 hB R11 R hl hll hDl
  rintro x6 x7 w14 ⟨rfl, D, D0, R, R0, hD, hB, hl, rfl, hc14, R14⟩
  have hDl : D.length = D0.length := hD.perm.length_eq
  have hRl : R.length = R0.length := hB.perm.length_eq
  have hll : D0.length + R0.length = n := by rw [← hlen, hl, List.length_append]
  refine ⟨fun hle => ⟨by omega, fun w15 hk => ?_⟩, fun hgt => ⟨by omega, fun hlt2 w18 hk => ?_, fun hge2 => ⟨by omega, fun w21 hk => ⟨⟨2 * bs, by omega, by omega, D ++ R, ?_, hc14.trans (kept0 hk), R14.chg (Chg.kept hk) (by simp)⟩, ?_⟩⟩⟩⟩
  · obtain ⟨X, Y, R1, X0, Y0, R10, rfl, rfl, lX, lY, pX, pY, sX, sY, hB1⟩ := hB.two h0 (by omega)
    refine (sym_l (S := (· ∈ l)) (X.length + Y.length) (A := D) (X := X) (Y := Y) (C := R1) (w := w15) (Nat.le_refl _) (R14.chg (Chg.kept hk) (by simp)) hg hn (by omega) (by omega) sX sY (fun x hx y hy => sep_of hinc hl x (pX.subset hx) y (pY.subset hy)) (fun x hx => ?_) (fun y hy => ?_) (hf.chg (hc14.trans (kept0 hk))) rfl (by omega) (by omega)).mono fun e w16 he => ?_
    · rw [hl]; exact List.mem_append_right _ (List.mem_append_left _ (pX.subset hx))
    · rw [hl]; exact List.mem_append_right _ (List.mem_append_right _ (List.mem_append_left _ (pY.subset hy)))
    obtain ⟨rfl, c16, Z, hz1, hz2, R16⟩ := he
    have lZ : Z.length = 2 * bs := by rw [hz1.length_eq, List.length_append]; omega
    refine ⟨rfl, keep_false c16, by omega, by omega, fun w17 hk17 => ⟨⟨by omega, D ++ Z, D0 ++ (X0 ++ Y0), R1, R10, hD.snoc lZ (hz1.trans (pX.append pY)) hz2, hB1, by rw [hl]; simp, ?_, (hc14.trans (kept0 hk)).trans (c16.trans (kept0 hk17)), by simpa using R16.chg (Chg.kept hk17) (by simp)⟩, ?_⟩⟩
    · rw [List.length_append, lZ]; omega
    · show ((n : Int) + 2 * bs - (D.length + 2 * bs + 2 * bs)).toNat < ((n : Int) + 2 * bs - (D.length + 2 * bs)).toNat
      omega
  · obtain ⟨X, Y, X0, Y0, rfl, rfl, lX, lY, lY', pX, pY, sX, sY⟩ := hB.rest (by omega) (by omega)
    simp only [List.length_append] at hRl hll
    refine (sym_l (S := (· ∈ l)) (X.length + Y.length) (A := D) (X := X) (Y := Y) (C := []) (w := w18) (Nat.le_refl _) (by simpa using R14.chg (Chg.kept hk) (by simp)) hg hn (by omega) (by omega) sX sY (fun x hx y hy => sep_of (D := D0) (X := X0) (Y := Y0) (R := []) hinc (by rw [hl]; simp) x (pX.subset hx) y (pY.subset hy)) (fun x hx => ?_) (fun y hy => ?_) (hf.chg (hc14.trans (kept0 hk))) rfl (by omega) (by omega)).mono fun e w16 he => ?_
    · rw [hl]; exact List.mem_append_right _ (List.mem_append_left _ (pX.subset hx))
    · rw [hl]; exact List.mem_append_right _ (List.mem_append_right _ (pY.subset hy))
    obtain ⟨rfl, c16, Z, hz1, hz2, R16⟩ := he
    refine ⟨rfl, keep_false c16, by omega, fun w20 hk20 => ⟨⟨2 * bs, by omega, by omega, D ++ Z, ?_, (hc14.trans (kept0 hk)).trans (c16.trans (kept0 hk20)), by simpa using R16.chg (Chg.kept hk20) (by simp)⟩, ?_⟩⟩
    · rw [hl]
      exact hD.bl (.last (by rw [hz1.length_eq, List.length_append]; omega) (hz1.trans (pX.append pY)) hz2)
    · show ((n : Int) - bs * 2).toNat < ((n : Int) - bs).toNat
      omega
  · rw [hl]
    have := hB.short (by omega)
    exact hD.bl (.last (by omega) this.1 this.2)
  · show ((n : Int) - bs * 2).toNat < ((n : Int) - bs).toNat
    omega

theorem stableFunc_l {l : List Int} {w : World} (hR : Row 3 1 B ns (some ⟨g, 0, none⟩) n c (ints l) w) (hg : g ∉ ns) (hn : n ≤ 100000)
    (hinc : l.Pairwise (· < ·)) (hf : CmpOk f fi fc key (· ∈ l) g w) :
    Calls Try.prog 90 #[.slice (some ⟨g, 0, none⟩) n c, .func (.func f) fi.toArray fc.toArray] w fun e w' => e = .returned (.tuple #[]) ∧ Chg [g] w w' ∧ ∃ s, Row 3 1 B ns (some ⟨g, 0, none⟩) n c (ints s) w' ∧ s.Perm l ∧ Sorted key s := by
  refine vc90 _ _ _ _ _ _ w _ fun w1 hk1 => ?_
  refine (stable_l (hR.chg (Chg.kept hk1) (by simp)) hg hn hinc (hf.chg (kept0 hk1))).mono fun e w2 he => ?_
  obtain ⟨rfl, hc2, s, R2, hp, hs⟩ := he
  exact ⟨rfl, keep_false hc2, fun w3 hk3 => ⟨rfl, (kept0 hk1).trans (hc2.trans (kept0 hk3)), s, R2.chg (Chg.kept hk3) (by simp), hp, hs⟩⟩
end
end Go.Proofs.R12
end
section
/- The library's stable sort (see R12Sb). -/
namespace Go.Proofs.R12
open Go.Vc Go.RowKit Go.Proofs
end Go.Proofs.R12
end
section
/- The numbers of sizes, the smallest first. -/
namespace Go.Proofs.R12
open Go.Vc Go.RowKit Go.Proofs
def cmpI (x y : Int) : Int := if x < y then -1 else if y < x then 1 else 0
theorem cmpI_neg {x y : Int} : cmpI x y < 0 ↔ x < y := by unfold cmpI; split <;> (try split) <;> omega
def idxs (n : Nat) : List Int := (List.range n).map Int.ofNat
theorem idxs_succ (n : Nat) : idxs (n + 1) = idxs n ++ [(n : Int)] := by unfold idxs; rw [List.range_succ, List.map_append]; rfl
theorem idxs_mem {n : Nat} {x : Int} (h : x ∈ idxs n) : 0 ≤ x ∧ x < n := by
  unfold idxs at h
  obtain ⟨k, hk, rfl⟩ := List.mem_map.1 h
  have := List.mem_range.1 hk
  exact ⟨Int.natCast_nonneg k, by simpa using this⟩
def insK (key : Int → Int) (x : Int) : List Int → List Int
  | [] => [x]
  | y :: r => if key x < key y ∨ (key x = key y ∧ x < y) then x :: y :: r else y :: insK key x r
def sortK (key : Int → Int) : List Int → List Int
  | [] => []
  | x :: r => insK key x (sortK key r)
theorem insK_perm (key : Int → Int) (x : Int) : ∀ l, (insK key x l).Perm (x :: l)
  | [] => .refl _
  | y :: r => by
    unfold insK
    split
    · exact .refl _
    · exact ((insK_perm key x r).cons y).trans (List.Perm.swap x y r)
theorem sortK_perm (key : Int → Int) : ∀ l, (sortK key l).Perm l
  | [] => .refl _
  | x :: r => (insK_perm key x _).trans ((sortK_perm key r).cons x)
theorem lexLt_trans {key : Int → Int} {x y z : Int} (h : lexLt key x y) (k : lexLt key y z) : lexLt key x z := by unfold lexLt at *; omega
theorem insK_sorted {key : Int → Int} {x : Int} : ∀ {l : List Int}, Sorted key l → x ∉ l → Sorted key (insK key x l)
  | [], _, _ => by simp [insK, Sorted]
  | y :: r, h, hx => by
    unfold insK
    have h' := List.pairwise_cons.1 h
    split
    · rename_i hc
      refine List.pairwise_cons.2 ⟨fun z hz => ?_, h⟩
      rcases List.mem_cons.1 hz with rfl | hz
      · exact hc
      · exact lexLt_trans hc (h'.1 z hz)
    · rename_i hc
      refine List.pairwise_cons.2 ⟨fun z hz => ?_, insK_sorted h'.2 (fun hm => hx (List.mem_cons_of_mem _ hm))⟩
      rcases List.mem_cons.1 ((insK_perm key x r).subset hz) with rfl | hz
      · have : z ≠ y := fun e => hx (by rw [e]; exact List.mem_cons_self)
        unfold lexLt; omega
      · exact h'.1 z hz
theorem sortK_sorted {key : Int → Int} : ∀ {l : List Int}, l.Nodup → Sorted key (sortK key l)
  | [], _ => List.Pairwise.nil
  | x :: r, h => by
    have h' := List.nodup_cons.1 h
    exact insK_sorted (sortK_sorted h'.2) fun hm => h'.1 ((sortK_perm key r).subset hm)
/-- The numbers of the elements, by size; of equals the first one first. -/
def sortIdx (l : List Int) : List Int := sortK (fun x => l.getD x.toNat 0) (idxs l.length)
theorem idxs_nodup (n : Nat) : (idxs n).Nodup := by
  unfold idxs
  rw [List.nodup_iff_pairwise_ne, List.pairwise_map]
  exact (List.nodup_iff_pairwise_ne.1 List.nodup_range).imp fun h e => h (Int.ofNat.inj e)
theorem sortIdx_eq {l s : List Int} (hp : s.Perm (idxs l.length)) (hs : Sorted (fun x => l.getD x.toNat 0) s) : s = sortIdx l :=
  List.Perm.eq_of_pairwise (fun a b _ _ h k => by unfold lexLt at h k; omega) hs (sortK_sorted (idxs_nodup _)) (hp.trans (sortK_perm _ _).symm)
theorem sortIdx_perm (l : List Int) : (sortIdx l).Perm (idxs l.length) := sortK_perm _ _
theorem sortIdx_sorted (l : List Int) : Sorted (fun x => l.getD x.toNat 0) (sortIdx l) := sortK_sorted (idxs_nodup _)
theorem sortIdx_len (l : List Int) : (sortIdx l).length = l.length := by rw [(sortIdx_perm l).length_eq]; simp [idxs]
theorem sortIdx_mem {l : List Int} {x : Int} (h : x ∈ sortIdx l) : 0 ≤ x ∧ x < l.length := idxs_mem ((sortIdx_perm l).subset h)
theorem stable0 {f : Nat} {fi fc : List Value} {a : Option Addr} {c : Nat} {w : World} : Calls Try.prog 90 #[.slice a 0 c, .func (.func f) fi.toArray fc.toArray] w (Pure w (.tuple #[])) := by
  have i0 : ∀ {w : World}, Calls Try.prog 111 #[.slice a 0 c, I 0, I 0, .func (.func f) fi.toArray fc.toArray] w (fun e w' => e = .returned (.tuple #[]) ∧ Chg [] w w') := fun {w} => by
    refine vc111 _ _ _ _ _ _ _ _ w _ ⟨by omega, fun ls w' => match ls with | [.int _ i] => i = 1 ∧ Chg [] w w' | _ => False, fun _ => 0, fun w2 hk => ⟨rfl, Chg.kept hk⟩, ?_⟩
    rintro x1 w3 ⟨rfl, hc⟩
    exact ⟨fun h => by omega, fun _ w16 hk => ⟨rfl, hc.trans (Chg.kept hk)⟩⟩
  have i1 : ∀ {w : World}, Calls Try.prog 98 #[.slice a 0 c, I 0, .func (.func f) fi.toArray fc.toArray] w (fun e w' => e = .returned (.tuple #[]) ∧ Chg [] w w') := fun {w} => by
    refine vc98 _ _ _ _ _ _ _ w _ ⟨fun ls w' => match ls with | [.int _ x, .int _ y] => x = 0 ∧ y = 20 ∧ Chg [] w w' | _ => False, fun _ => 0, fun w2 hk => ⟨rfl, rfl, Chg.kept hk⟩, ?_⟩
    rintro x1 x2 w3 ⟨rfl, rfl, hc⟩
    refine ⟨fun h => by omega, fun _ w7 hk7 => i0.mono fun e w8 he => ?_⟩
    obtain ⟨rfl, hc8⟩ := he
    refine ⟨rfl, hc8.own (by simp) (by simp) (fun h => by cases h), fun ls w' => match ls with | [.int _ z, _, _] => z = 20 ∧ Chg [] w w' | _ => False, fun _ => 0, fun w10 hk => ⟨rfl, (hc.trans (Chg.kept hk7)).trans (hc8.trans (Chg.kept hk))⟩, ?_⟩
    rintro z1 z2 z3 w11 ⟨rfl, hc11⟩
    exact ⟨fun h => by omega, fun _ w22 hk => ⟨rfl, hc11.trans (Chg.kept hk)⟩⟩
  refine vc90 _ _ _ _ _ _ w _ fun w1 hk1 => i1.mono fun e w2 he => ?_
  obtain ⟨rfl, hc2⟩ := he
  refine ⟨rfl, hc2.own (by simp) (by simp) (fun h => by cases h), fun w3 hk3 => ⟨rfl, ?_⟩⟩
  have h := (Chg.kept hk1).trans (hc2.trans (Chg.kept hk3))
  exact ⟨h.os, h.tape, h.output, h.size, fun k hk => h.keep k hk (by simp)⟩

theorem isNaN_any {w : World} (x : Int) : Calls Try.prog 99 #[I x] w (Pure w (.bool false)) := by
  refine vc99 _ w _ ?_
  intro w1 hb1 hk1
  exact ⟨by congr 2; simp, hb1⟩

theorem compare_any {w : World} (x y : Int) : Calls Try.prog 92 #[I x, I y] w (Pure w (I (cmpI x y))) := by
  refine vc92 _ _ w _ ?_
  intro w1 hb1 hk1
  refine Pure.calls (isNaN_any _) fun w2 hd2 => ?_
  have hb2 := hb1.trans (hd2.mono hb1.size)
  refine ⟨_, rfl, .all hd2, ?_⟩
  intro w3 hb3 hk3
  refine Pure.calls (isNaN_any _) fun w4 hd4 => ?_
  have hb4 := hb3.trans (hd4.mono hb3.size)
  refine ⟨_, rfl, .all hd4, ?_, ?_⟩
  · intro h1
    try simp only [Bool.not_eq_true', Bool.not_eq_false', decide_eq_true_eq, decide_eq_false_iff_not] at h1
    refine ⟨?_, ?_⟩
    · intro h2 w5 hb5 hk5
      try simp only [Bool.not_eq_true', Bool.not_eq_false', decide_eq_true_eq, decide_eq_false_iff_not] at h2
      exfalso; first | omega | (simp_all; done)
    · intro h3 w6 hb6 hk6
      try simp only [] at h3
      exfalso; first | omega | (simp_all; done)
  · intro h4
    try simp only [] at h4
    refine ⟨?_, ?_⟩
    · intro h5 w7 hb7 hk7
      try simp only [Bool.not_eq_true', Bool.not_eq_false', decide_eq_true_eq, decide_eq_false_iff_not] at h5
      exfalso; first | omega | (simp_all; done)
    · intro h6
      try simp only [] at h6
      refine ⟨?_, ?_⟩
      · intro h7 w8 hb8 hk8
        try simp only [Bool.not_eq_true', Bool.not_eq_false', decide_eq_true_eq, decide_eq_false_iff_not] at h7
        exact ⟨by unfold cmpI; congr 2; rw [if_pos (by assumption)], hb8⟩
      · intro h8
        try simp only [Bool.not_eq_true', Bool.not_eq_false', decide_eq_true_eq, decide_eq_false_iff_not] at h8
        refine ⟨?_, ?_⟩
        · intro h9 w9 hb9 hk9
          try simp only [Bool.not_eq_true', Bool.not_eq_false', decide_eq_true_eq, decide_eq_false_iff_not] at h9
          exact ⟨by unfold cmpI; congr 2; rw [if_neg (by omega), if_pos (by assumption)], hb9⟩
        · intro h10 w10 hb10 hk10
          try simp only [Bool.not_eq_true', Bool.not_eq_false', decide_eq_true_eq, decide_eq_false_iff_not] at h10
          exact ⟨by unfold cmpI; congr 2; rw [if_neg (by omega), if_neg (by omega)], hb10⟩

theorem bySize1_any {w : World} {l : List Int} {la : Option Addr} {lc : Nat} {a b : Int} {m : Nat} (ha : 0 ≤ a ∧ a < l.length) (hb : 0 ≤ b ∧ b < l.length) (hc : Cells w la (ints l)) (q0 : w.cell? ⟨m, 0, none⟩ = some (.slice la l.length lc)) : Calls Try.prog 91 #[I a, I b, .pointer (some ⟨m, 0, none⟩)] w (Pure w (I (cmpI (l.getD a.toNat 0) (l.getD b.toNat 0)))) := by
  refine vc91 _ _ _ w _ ?_
  refine ⟨_, _, _, cell_at' (q0) (by omega), ?_⟩
  refine load_int hc (.refl _ _) (by omega) fun m3 m4 hm1 => ?_
  refine ⟨_, _, _, cell_at' (q0) (by omega), ?_⟩
  refine load_int hc (.refl _ _) (by omega) fun m7 m8 hm2 => ?_
  intro w1 hb1 hk1
  refine Pure.calls (compare_any _ _) fun w2 hd2 => ?_
  have hb2 := hb1.trans (hd2.mono hb1.size)
  refine ⟨_, rfl, .all hd2, ?_⟩
  intro w3 hb3 hk3
  exact ⟨by rfl, hb3⟩

set_option maxRecDepth 100000 in
theorem bySize_l {w : World} {l : List Int} {la : Option Addr} {lc : Nat} (hc : Cells w la (ints l)) (hl : l.length ≤ 200) : Calls Try.prog 84 #[.slice la l.length lc] w (fun e w' => ∃ a' c', e = .returned (.slice a' l.length c') ∧ l.length ≤ c' ∧ Below w.heap.size w w' ∧ Lies [] w.heap.size w'.heap.size w' a' (ints (sortIdx l))) := by
  refine vc84 _ _ _ w _ ?_
  intro m1 g_m1
  refine ⟨fun ls w' => match ls with | [.sl a n c, .int _ ii] => (0 ≤ ii ∧ ii ≤ l.length) ∧ n = ii.toNat ∧ RowE 3 1 w.heap.size [m1] a n c (ints (idxs ii.toNat)) w' | _ => False, fun ls => match ls with | [_, .int _ ii] => (l.length - ii).toNat | _ => 0, ?_, ?_⟩
  · intro w2 hb2 hk2
    have y2 := hb2.size
    have z2 := hk2.size; have o2 := hk2.own
    simp only [List.mem_cons, List.not_mem_nil, or_false, forall_eq] at o2
    exact ⟨⟨by omega, by omega⟩, rfl, .inr Row.nil⟩
  rintro a1 m2 m3 x1 w3 hb3 ⟨⟨x0, xl⟩, rfl, RR⟩
  have y3 := hb3.size
  refine ⟨?_, ?_⟩
  · intro h1 m4 g_m4 w4 hb4 hk4 hc4_m4
    try simp only [Bool.not_eq_true', Bool.not_eq_false', decide_eq_true_eq, decide_eq_false_iff_not] at h1
    have y4 := hb4.size
    have z4 := hk4.size; have o4 := hk4.own
    simp only [List.mem_cons, List.not_mem_nil, or_false, forall_eq_or_imp, forall_eq] at o4
    have RR_4 := (RR.grow (ms := [m4]) (allc g_m4 all0)).chg (Chg.kept hk4) (fun _ h => h)
    refine append_rowE (P := Try.prog) (bytes := 8) (by kernel_rfl) (by omega) RR_4 (m := 1) (news := [_]) (Cells.obj (vs := [_]) hc4_m4) rfl (List.forall_mem_cons.2 ⟨rfl, by simp⟩) (by omega) (by omega) (by have := hb4.size; omega) hk4.own (by omega) fun aR5 cR5 w5 RR_5r S5 cS5 hS5 => ?_
    have RR_5 : RowE _ _ _ _ _ _ _ _ _ := .inr RR_5r
    have z5 := cS5.size
    have kx5 : KeepX true w.heap.size [m4, m1] (fun _ => False) w4 w5 := cS5.own (fun x hx => ⟨hk4.own x hx, fun h => (hS5 x h).2 hx⟩) (by simp) (fun _ => ⟨hb4.size, fun x hx => by have := (hS5 x hx).1; omega⟩)
    refine ⟨_, _, _, rfl, kx5, (by first | omega | (simp only; omega)), ?_⟩
    intro w6 hb6 hk6
    have y6 := hb6.size
    have z6 := hk6.size; have o6 := hk6.own
    simp only [List.mem_cons, List.not_mem_nil, or_false, forall_eq_or_imp, forall_eq] at o6
    have RR_6 := RR_5.chg (Chg.kept hk6) (fun _ h => h)
    refine ⟨?_, (by first | omega | (simp only; omega))⟩
    exact ⟨⟨by omega, by omega⟩, by omega, by rw [show (x1 + 1).toNat = x1.toNat + 1 by omega, idxs_succ, ints_append, Int.toNat_of_nonneg x0]; exact RR_6.less (by simp)⟩
  · intro h2 w7 hb7 hk7 hc7_m1
    try simp only [Bool.not_eq_true', Bool.not_eq_false', decide_eq_true_eq, decide_eq_false_iff_not] at h2
    have y7 := hb7.size
    have z7 := hk7.size; have o7 := hk7.own
    simp only [List.mem_cons, List.not_mem_nil, or_false, forall_eq] at o7
    have RR_7 := RR.chg (Chg.kept hk7) (fun _ h => h)
    have hk : x1.toNat = l.length := by omega
    rw [hk] at RR_7 ⊢
    by_cases h0 : l.length = 0
    · have hl0 : l = [] := List.length_eq_zero_iff.1 h0
      subst hl0
      refine Pure.calls (stable0 (a := a1) (c := m3)) fun w8 hd8 => ⟨rfl, .all hd8, fun w9 hb9 _ => ⟨a1, m3, rfl, Nat.zero_le _, hb9, lies_nil⟩⟩
    · rcases RR_7 with ⟨_, hz, _⟩ | R7
      · exact absurd hz h0
      obtain ⟨g, rfl, R7⟩ := (RowZ.at (.inr R7) h0 : _)
      have hg1 : g ≠ m1 := fun h => R7.ns g 0 rfl (by simp [h])
      have hgl := R7.lt g 0 rfl
      have hm1 : m1 < w7.heap.size := hk7.own m1 (by simp)
      refine (stableFunc_l (fi := []) (f := 91) (fc := [.pointer (some ⟨m1, 0, none⟩)]) (key := fun x => l.getD x.toNat 0) R7 (by simpa using hg1) (by omega) (by unfold idxs; rw [List.pairwise_map]; exact List.pairwise_lt_range.imp fun h => by simpa using h) ⟨callOk_run (by rfl), fun wj hj x y hx hy => ?_⟩).mono fun e w8 he => ?_
      · have bx := idxs_mem hx
        have bY := idxs_mem hy
        refine Pure.calls (bySize1_any (l := l) (la := la) (lc := lc) (by omega) (by omega) (fun i v hi => ?_) (hj.cell (by simpa using hg1.symm) (cell_obj (vs := [.slice la l.length lc]) hc7_m1 rfl))) fun wk hk => ⟨_, rfl, hk, cmpI_neg⟩
        obtain ⟨b, o, e, hcell⟩ := hc i v hi
        have := cell_lt hcell
        exact ⟨b, o, e, hj.cell (by simp; omega) (cell_keep hb7 hcell)⟩
      obtain ⟨rfl, c8, s, R8, hp, hs⟩ := he
      have hss := sortIdx_eq hp hs
      subst hss
      refine ⟨rfl, c8.own (fun x hx => ⟨hk7.own x hx, by simp at hx; simp [hx]; exact hg1.symm⟩) (by simp) (fun _ => ⟨y7, fun x hx => by simp at hx; rw [hx]; exact hgl.1⟩), fun w9 hb9 hk9 => ?_⟩
      have R9 := R8.chg (Chg.kept hk9) (fun _ h => h)
      refine ⟨_, _, rfl, row_cap R9, hb9, fun i v hi => ?_⟩
      obtain ⟨b, o, e, hcell⟩ := R9.cells i v hi
      exact ⟨b, o, e, ⟨by simp, (R9.lt b o e).1, (R9.lt b o e).2⟩, hcell⟩
end Go.Proofs.R12
end
section
/- The conditions of the functions, printed by program; each is what the generator reckons (kernel_rfl). -/
namespace Go.Proofs
open Go.Vc
set_option maxRecDepth 100000 in
set_option maxHeartbeats 2000000 in
theorem vc62 (p0w0a : Option Addr) (p0w0n : Nat) (p0w0c : Nat) (p0w1a : Option Addr) (p0w1n : Nat) (p0w1c : Nat) (n : Int) (holesa : Option Addr) (holesn : Nat) (holesc : Nat)
    (shaftsa : Option Addr) (shaftsn : Nat) (shaftsc : Nat) (w : World) (R : Ending → World → Prop) (h : ∀ (m1 : Nat), w.heap.size ≤ m1 → ∀ (w1 : World), RowKit.Below w.heap.size w
    w1 → Kept [m1] w w1 → Calls Try.prog 16 #[Value.agg #[Value.slice p0w0a p0w0n p0w0c, Value.slice p0w1a p0w1n p0w1c]] w1 fun (e1 : Ending) (w2 : World) => ∃ (x1 : Int), e1 =
    Ending.returned (Value.int IntKind.i64 x1) ∧ KeepX true w.heap.size [m1] (fun _ => False) w1 w2 ∧ (x1 ≠ 0 → ∀ (w3 : World), RowKit.Below w.heap.size w w3 → Kept [m1] w2 w3 → R
    (Ending.returned (Value.tuple #[Value.pointer none, Value.int IntKind.i64 2])) w3) ∧ (x1 = 0 → (-9223372036854775808 ≤ (↑p0w1n : Int) - 1 ∧ (↑p0w1n : Int) - (1 : Int) ≤
    9223372036854775807) ∧ ∀ (m3 : Nat), w2.heap.size ≤ m3 → ∀ (w4 : World), RowKit.Below w.heap.size w w4 → Kept [m3, m1] w2 w4 → w4.heap[m3]? = some (Obj.cells #[Value.int
    IntKind.i64 n] 3) → Calls Try.prog 50 #[Value.int IntKind.i64 0, Value.int IntKind.i64 ((↑p0w1n : Int) - 1), Value.slice (some { block := m3, off := 0 }) 1 1] w4 fun (e2 :
    Ending) (w5 : World) => ∃ (t1 : Bool), e2 = Ending.returned (Value.bool t1) ∧ KeepX true w.heap.size [m3, m1] (fun _ => False) w4 w5 ∧ ((!t1) = true → ∀ (w6 : World),
    RowKit.Below w.heap.size w w6 → Kept [m3, m1] w5 w6 → R (Ending.returned (Value.tuple #[Value.pointer none, Value.int IntKind.i64 7])) w6) ∧ ((!t1) = false → ∃ (F1 : List Lf →
    World → Prop), ((200 < (↑holesn : Int) → ∀ (w8 : World), RowKit.Below w.heap.size w w8 → Kept [m3, m1] w5 w8 → F1 [Lf.bool (decide (200 < (↑holesn : Int)))] w8) ∧ ((↑holesn :
    Int) ≤ 200 → ∀ (w9 : World), RowKit.Below w.heap.size w w9 → Kept [m3, m1] w5 w9 → F1 [Lf.bool (decide (200 < (↑shaftsn : Int)))] w9)) ∧ ∀ (t2 : Bool) (w10 : World),
    RowKit.Below w.heap.size w w10 → F1 [Lf.bool t2] w10 → ∃ (F2 : List Lf → World → Prop), ((t2 = true → ∀ (w12 : World), RowKit.Below w.heap.size w w12 → Kept [m3, m1] w10 w12 →
    R (Ending.returned (Value.tuple #[Value.pointer none, Value.int IntKind.i64 5])) w12) ∧ (t2 = false → ∀ (w13 : World), RowKit.Below w.heap.size w w13 → Kept [m3, m1] w10 w13 →
    Calls Try.prog 50 #[Value.int IntKind.i64 0, Value.int IntKind.i64 1000000, Value.slice holesa holesn holesc] w13 fun (e3 : Ending) (w14 : World) => ∃ (t3 : Bool), e3 =
    Ending.returned (Value.bool t3) ∧ KeepX true w.heap.size [m3, m1] (fun _ => False) w13 w14 ∧ ∃ (F3 : List Lf → World → Prop), (((!t3) = true → ∀ (w16 : World), RowKit.Below
    w.heap.size w w16 → Kept [m3, m1] w14 w16 → F3 [Lf.bool !t3] w16) ∧ ((!t3) = false → ∀ (w17 : World), RowKit.Below w.heap.size w w17 → Kept [m3, m1] w14 w17 → Calls Try.prog 50
    #[Value.int IntKind.i64 0, Value.int IntKind.i64 1000000, Value.slice shaftsa shaftsn shaftsc] w17 fun (e4 : Ending) (w18 : World) => ∃ (t4 : Bool), e4 = Ending.returned
    (Value.bool t4) ∧ KeepX true w.heap.size [m3, m1] (fun _ => False) w17 w18 ∧ ∀ (w19 : World), RowKit.Below w.heap.size w w19 → Kept [m3, m1] w18 w19 → F3 [Lf.bool !t4] w19)) ∧
    ∀ (t5 : Bool) (w20 : World), RowKit.Below w.heap.size w w20 → F3 [Lf.bool t5] w20 → ∃ (F4 : List Lf → World → Prop), ((t5 = true → ∀ (w22 : World), RowKit.Below w.heap.size w
    w22 → Kept [m3, m1] w20 w22 → R (Ending.returned (Value.tuple #[Value.pointer none, Value.int IntKind.i64 3])) w22) ∧ (t5 = false → ∀ (w23 : World), RowKit.Below w.heap.size w
    w23 → Kept [m3, m1] w20 w23 → F4 [] w23)) ∧ ∀ (w24 : World), RowKit.Below w.heap.size w w24 → F4 [] w24 → ∀ (w25 : World), RowKit.Below w.heap.size w w25 → Kept [m3, m1] w24
    w25 → F2 [] w25)) ∧ ∀ (w26 : World), RowKit.Below w.heap.size w w26 → F2 [] w26 → ∃ (m12 : Nat), ∃ (m13 : Nat), p0w1a = some { block := m12, off := m13 } ∧ (0 ≤ n ∧ n < (↑p0w1n
    : Int)) ∧ ∃ (x4 : Int), ∃ (x5 : Int), ∃ (x6 : Int), ∃ (x7 : Int), ∃ (x8 : Int), ∃ (x9 : Int), w26.cell? { block := m12, off := m13 + n.toNat * 6 } = some (Value.int IntKind.i64
    x4) ∧ w26.cell? { block := m12, off := m13 + n.toNat * 6 + 1 } = some (Value.int IntKind.i64 x5) ∧ w26.cell? { block := m12, off := m13 + n.toNat * 6 + 1 + 1 } = some
    (Value.int IntKind.i64 x6) ∧ w26.cell? { block := m12, off := m13 + n.toNat * 6 + 1 + 1 + 1 } = some (Value.int IntKind.i64 x7) ∧ w26.cell?
    { block := m12, off := m13 + n.toNat * 6 + 1 + 1 + 1 + 1 } = some (Value.int IntKind.i64 x8) ∧ w26.cell? { block := m12, off := m13 + n.toNat * 6 + 1 + 1 + 1 + 1 + 1 } = some
    (Value.int IntKind.i64 x9) ∧ (m12 < w.heap.size ∨ m12 ≠ m3 ∧ m12 ≠ m1) ∧ ∀ (w27 : World), RowKit.Below w.heap.size w w27 → Kept [m3, m1] w26 w27 → RunsTo Try.prog
    (Instr.makeMap 129 none) w27 fun (v1 : Value) (w28 : World) => ∃ (m14 : Nat), v1 = Value.map (some m14) ∧ KeepX true w.heap.size [m3, m1] (fun _ => False) w27 w28 ∧ ∀ (w29 :
    World), RowKit.Below w.heap.size w w29 → Kept [m3, m1] w28 w29 → RunsTo Try.prog (Instr.makeMap 129 none) w29 fun (v2 : Value) (w30 : World) => ∃ (m16 : Nat), v2 = Value.map
    (some m16) ∧ KeepX true w.heap.size [m3, m1] (fun _ => False) w29 w30 ∧ ∀ (m18 : Nat), w30.heap.size ≤ m18 → ∀ (w31 : World), RowKit.Below w.heap.size w w31 → Kept [m18, m3,
    m1] w30 w31 → w31.heap[m18]? = some (Obj.cells #[Value.int IntKind.i64 x4, Value.int IntKind.i64 x5, Value.int IntKind.i64 x6, Value.int IntKind.i64 x7, Value.int IntKind.i64
    x8, Value.int IntKind.i64 x9, Value.slice holesa holesn holesc, Value.slice shaftsa shaftsn shaftsc, Value.map (some m14), Value.map (some m16)] 131) → R (Ending.returned
    (Value.tuple #[Value.pointer (some { block := m18, off := 0 }), Value.int IntKind.i64 0])) w31))) : Calls Try.prog 62 #[Value.agg #[Value.slice p0w0a p0w0n p0w0c, Value.slice
    p0w1a p0w1n p0w1c], Value.int IntKind.i64 n, Value.slice holesa holesn holesc, Value.slice shaftsa shaftsn shaftsc] w R := calls_of_vcj (pure := true) (wrapAt := []) (muts :=
    []) (esc := []) (joins := [(23, [(23, 4)]), (23, [(8, 125), (9, 29)]), (30, [(30, 4)]), (30, [(8, 125), (9, 29)])]) (args := [SV.pv (PV.agg [Lf.sl p0w0a p0w0n p0w0c, Lf.sl
    p0w1a p0w1n p0w1c]), SV.pv (PV.one (Lf.int IntKind.i64 n)), SV.pv (PV.one (Lf.sl holesa holesn holesc)), SV.pv (PV.one (Lf.sl shaftsa shaftsn shaftsc))]) (vs := [Value.agg
    #[Value.slice p0w0a p0w0n p0w0c, Value.slice p0w1a p0w1n p0w1c], Value.int IntKind.i64 n, Value.slice holesa holesn holesc, Value.slice shaftsa shaftsn shaftsc]) Try.func62 rfl
    rfl rfl (Eq.mp (by kernel_rfl) h) 
set_option maxRecDepth 100000 in
set_option maxHeartbeats 2000000 in
theorem vc63 (bb : Nat) (bo : Nat) (w : World) (R : Ending → World → Prop) (h : ∃ (a1 : Option Addr), ∃ (m1 : Nat), ∃ (m2 : Nat), w.cell? { block := bb, off := bo + 6 } = some
    (Value.slice a1 m1 m2) ∧ ∀ (w1 : World), Kept [] w w1 → Calls Try.prog 84 #[Value.slice a1 m1 m2] w1 fun (e1 : Ending) (w2 : World) => ∃ (a2 : Option Addr), ∃ (m3 : Nat), ∃ (m4
    : Nat), e1 = Ending.returned (Value.slice a2 m3 m4) ∧ KeepX false w.heap.size [] (fun _ => False) w1 w2 ∧ ∃ (a3 : Option Addr), ∃ (m6 : Nat), ∃ (m7 : Nat), w2.cell?
    { block := bb, off := bo + 7 } = some (Value.slice a3 m6 m7) ∧ ∀ (w3 : World), Kept [] w2 w3 → Calls Try.prog 84 #[Value.slice a3 m6 m7] w3 fun (e2 : Ending) (w4 : World) => ∃
    (a4 : Option Addr), ∃ (m8 : Nat), ∃ (m9 : Nat), e2 = Ending.returned (Value.slice a4 m8 m9) ∧ KeepX false w.heap.size [] (fun _ => False) w3 w4 ∧ ∃ (F1 : List Lf → World →
    Prop), ∃ (F2 : List Lf → Nat), (∀ (w6 : World), Kept [] w4 w6 → F1 [Lf.sl a2 m3 m4, Lf.int IntKind.i64 0] w6) ∧ ∀ (a5 : Option Addr) (m11 m12 : Nat) (x1 : Int) (w7 : World), F1
    [Lf.sl a5 m11 m12, Lf.int IntKind.i64 x1] w7 → (x1 < (↑m8 : Int) → ∃ (m13 : Nat), ∃ (m14 : Nat), a4 = some { block := m13, off := m14 } ∧ (0 ≤ x1 ∧ x1 < (↑m8 : Int)) ∧ ∃ (x2 :
    Int), w7.cell? { block := m13, off := m14 + x1.toNat * 1 } = some (Value.int IntKind.i64 x2) ∧ ∃ (F3 : List Lf → World → Prop), ∃ (F4 : List Lf → Nat), (∀ (w9 : World), Kept []
    w7 w9 → F3 [Lf.sl a5 m11 m12] w9) ∧ ∀ (a6 : Option Addr) (m15 m16 : Nat) (w10 : World), F3 [Lf.sl a6 m15 m16] w10 → ∃ (F5 : List Lf → World → Prop), ((0 < (↑m15 : Int) → ∃ (a7
    : Option Addr), ∃ (m17 : Nat), ∃ (m18 : Nat), w10.cell? { block := bb, off := bo + 6 } = some (Value.slice a7 m17 m18) ∧ ∃ (m19 : Nat), ∃ (m20 : Nat), a6 = some
    { block := m19, off := m20 } ∧ ((0 : Int) ≤ 0 ∧ 0 < (↑m15 : Int)) ∧ ∃ (x3 : Int), w10.cell? { block := m19, off := m20 + Int.toNat 0 * 1 } = some (Value.int IntKind.i64 x3) ∧ ∃
    (m21 : Nat), ∃ (m22 : Nat), a7 = some { block := m21, off := m22 } ∧ (0 ≤ x3 ∧ x3 < (↑m17 : Int)) ∧ ∃ (x4 : Int), w10.cell? { block := m21, off := m22 + x3.toNat * 1 } = some
    (Value.int IntKind.i64 x4) ∧ ∃ (a8 : Option Addr), ∃ (m23 : Nat), ∃ (m24 : Nat), w10.cell? { block := bb, off := bo + 7 } = some (Value.slice a8 m23 m24) ∧ ∃ (m25 : Nat), ∃
    (m26 : Nat), a8 = some { block := m25, off := m26 } ∧ (0 ≤ x2 ∧ x2 < (↑m23 : Int)) ∧ ∃ (x5 : Int), w10.cell? { block := m25, off := m26 + x2.toNat * 1 } = some (Value.int
    IntKind.i64 x5) ∧ (-9223372036854775808 ≤ x4 - x5 ∧ x4 - x5 ≤ 9223372036854775807) ∧ ∃ (x6 : Int), w10.cell? { block := bb, off := bo + 0 + 0 + 4 + 0 } = some (Value.int
    IntKind.i64 x6) ∧ ∀ (w12 : World), Kept [] w10 w12 → F5 [Lf.bool (decide (x4 - x5 < x6))] w12) ∧ ((↑m15 : Int) ≤ 0 → ∀ (w13 : World), Kept [] w10 w13 → F5 [Lf.bool false] w13))
    ∧ ∀ (t1 : Bool) (w14 : World), F5 [Lf.bool t1] w14 → (t1 = true → ((0 : Int) ≤ 1 ∧ 1 ≤ (↑m15 : Int)) ∧ ∀ (w15 : World), Kept [] w14 w15 → F3 [Lf.sl (subA a6 m16 (Int.toNat 1)
    1) (m15 - Int.toNat 1) (m16 - Int.toNat 1)] w15 ∧ F4 [Lf.sl (subA a6 m16 (Int.toNat 1) 1) (m15 - Int.toNat 1) (m16 - Int.toNat 1)] < F4 [Lf.sl a6 m15 m16]) ∧ (t1 = false → ∃
    (F6 : List Lf → World → Prop), ((0 < (↑m15 : Int) → ∃ (x8 : Int), ∃ (x9 : Int), ∃ (x10 : Int), ∃ (x11 : Int), ∃ (x12 : Int), ∃ (x13 : Int), w14.cell?
    { block := bb, off := bo + 0 } = some (Value.int IntKind.i64 x8) ∧ w14.cell? { block := bb, off := bo + 0 + 1 } = some (Value.int IntKind.i64 x9) ∧ w14.cell?
    { block := bb, off := bo + 0 + 1 + 1 } = some (Value.int IntKind.i64 x10) ∧ w14.cell? { block := bb, off := bo + 0 + 1 + 1 + 1 } = some (Value.int IntKind.i64 x11) ∧ w14.cell?
    { block := bb, off := bo + 0 + 1 + 1 + 1 + 1 } = some (Value.int IntKind.i64 x12) ∧ w14.cell? { block := bb, off := bo + 0 + 1 + 1 + 1 + 1 + 1 } = some (Value.int IntKind.i64
    x13) ∧ ∃ (a9 : Option Addr), ∃ (m29 : Nat), ∃ (m30 : Nat), w14.cell? { block := bb, off := bo + 6 } = some (Value.slice a9 m29 m30) ∧ ∃ (m31 : Nat), ∃ (m32 : Nat), a6 = some
    { block := m31, off := m32 } ∧ ((0 : Int) ≤ 0 ∧ 0 < (↑m15 : Int)) ∧ ∃ (x14 : Int), w14.cell? { block := m31, off := m32 + Int.toNat 0 * 1 } = some (Value.int IntKind.i64 x14) ∧
    ∃ (m33 : Nat), ∃ (m34 : Nat), a9 = some { block := m33, off := m34 } ∧ (0 ≤ x14 ∧ x14 < (↑m29 : Int)) ∧ ∃ (x15 : Int), w14.cell? { block := m33, off := m34 + x14.toNat * 1 } =
    some (Value.int IntKind.i64 x15) ∧ ∃ (a10 : Option Addr), ∃ (m35 : Nat), ∃ (m36 : Nat), w14.cell? { block := bb, off := bo + 7 } = some (Value.slice a10 m35 m36) ∧ ∃ (m37 :
    Nat), ∃ (m38 : Nat), a10 = some { block := m37, off := m38 } ∧ (0 ≤ x2 ∧ x2 < (↑m35 : Int)) ∧ ∃ (x16 : Int), w14.cell? { block := m37, off := m38 + x2.toNat * 1 } = some
    (Value.int IntKind.i64 x16) ∧ ∀ (w17 : World), KeptIn [(0, w14.heap.size)] [] w14 w17 → Calls Try.prog 83 #[Value.agg #[Value.int IntKind.i64 x8, Value.int IntKind.i64 x9,
    Value.int IntKind.i64 x10, Value.int IntKind.i64 x11, Value.int IntKind.i64 x12, Value.int IntKind.i64 x13], Value.int IntKind.i64 x15, Value.int IntKind.i64 x16] w17 fun (e3 :
    Ending) (w18 : World) => ∃ (t2 : Bool), e3 = Ending.returned (Value.bool t2) ∧ KeepX false w.heap.size [] (fun _ => False) w17 w18 ∧ ∀ (w19 : World), Kept [] w18 w19 → F6
    [Lf.bool t2] w19) ∧ ((↑m15 : Int) ≤ 0 → ∀ (w20 : World), Kept [] w14 w20 → F6 [Lf.bool false] w20)) ∧ ∀ (t3 : Bool) (w21 : World), F6 [Lf.bool t3] w21 → (t3 = true → ∃ (m40 :
    Nat), w21.cell? { block := bb, off := bo + 8 } = some (Value.map (some m40)) ∧ ∃ (m41 : Nat), w21.cell? { block := bb, off := bo + 9 } = some (Value.map (some m41)) ∧ ∃ (m42 :
    Nat), ∃ (m43 : Nat), a6 = some { block := m42, off := m43 } ∧ ((0 : Int) ≤ 0 ∧ 0 < (↑m15 : Int)) ∧ ∃ (x17 : Int), w21.cell? { block := m42, off := m43 + Int.toNat 0 * 1 } =
    some (Value.int IntKind.i64 x17) ∧ ∀ (w22 : World), KeptIn [(0, w21.heap.size)] [] w21 w22 → RunsTo Try.prog (Instr.mapEntry 129 (Value.map (some m40)) (Value.int IntKind.i64
    x2)) w22 fun (v1 : Value) (w23 : World) => ∃ (x18 : Int), ∃ (x19 : Int), v1 = Value.tuple #[Value.int IntKind.i64 x18, Value.int IntKind.i64 x19] ∧ (KeepX false w.heap.size []
    (fun (m44 : Nat) => False ∨ w21.heap.size ≤ m44 ∧ m44 < w22.heap.size) w22 w23 ∧ ∀ (m45 : Nat), (∃ (y7 : Array Value), ∃ (m46 : Nat), ∃ (y8 : Nat × Nat), w22.heap[m45]? = some
    (Obj.cells y7 m46 y8)) → w23.heap[m45]? = w22.heap[m45]?) ∧ ∃ (m50 : Nat), ∃ (m51 : Nat), a6 = some { block := m50, off := m51 } ∧ ((0 : Int) ≤ 0 ∧ 0 < (↑m15 : Int)) ∧ ∃ (x20 :
    Int), w21.cell? { block := m50, off := m51 + Int.toNat 0 * 1 } = some (Value.int IntKind.i64 x20) ∧ ∀ (w24 : World), KeptIn [(0, w21.heap.size), (w22.heap.size, w23.heap.size)]
    [] w23 w24 → RunsTo Try.prog ((Instr.entryStore 129 (Value.map (some m40)) (Value.int IntKind.i64 x19) (Value.int IntKind.i64 x20)) >>= fun _ => pure (Value.tuple #[])) w24 fun
    (v2 : Value) (w25 : World) => KeepX false w.heap.size [] (fun _ => False) w24 w25 ∧ ∀ (w26 : World), KeptIn [(0, w25.heap.size)] [] w25 w26 → RunsTo Try.prog (Instr.mapEntry
    129 (Value.map (some m41)) (Value.int IntKind.i64 x17)) w26 fun (v3 : Value) (w27 : World) => ∃ (x21 : Int), ∃ (x22 : Int), v3 = Value.tuple #[Value.int IntKind.i64 x21,
    Value.int IntKind.i64 x22] ∧ KeepX false w.heap.size [] (fun _ => False) w26 w27 ∧ ∀ (w28 : World), KeptIn [(0, w27.heap.size)] [] w27 w28 → RunsTo Try.prog ((Instr.entryStore
    129 (Value.map (some m41)) (Value.int IntKind.i64 x22) (Value.int IntKind.i64 x2)) >>= fun _ => pure (Value.tuple #[])) w28 fun (v4 : Value) (w29 : World) => KeepX false
    w.heap.size [] (fun _ => False) w28 w29 ∧ ((0 : Int) ≤ 1 ∧ 1 ≤ (↑m15 : Int)) ∧ (-9223372036854775808 ≤ x1 + 1 ∧ x1 + (1 : Int) ≤ 9223372036854775807) ∧ ∀ (w30 : World), Kept []
    w29 w30 → F1 [Lf.sl (subA a6 m16 (Int.toNat 1) 1) (m15 - Int.toNat 1) (m16 - Int.toNat 1), Lf.int IntKind.i64 (x1 + 1)] w30 ∧ F2 [Lf.sl (subA a6 m16 (Int.toNat 1) 1) (m15 -
    Int.toNat 1) (m16 - Int.toNat 1), Lf.int IntKind.i64 (x1 + 1)] < F2 [Lf.sl a5 m11 m12, Lf.int IntKind.i64 x1]) ∧ (t3 = false → (-9223372036854775808 ≤ x1 + 1 ∧ x1 + (1 : Int) ≤
    9223372036854775807) ∧ ∀ (w31 : World), Kept [] w21 w31 → F1 [Lf.sl a6 m15 m16, Lf.int IntKind.i64 (x1 + 1)] w31 ∧ F2 [Lf.sl a6 m15 m16, Lf.int IntKind.i64 (x1 + 1)] < F2
    [Lf.sl a5 m11 m12, Lf.int IntKind.i64 x1]))) ∧ ((↑m8 : Int) ≤ x1 → ∀ (w32 : World), Kept [] w7 w32 → R (Ending.returned (Value.tuple #[])) w32)) : Calls Try.prog 63
    #[Value.pointer (some { block := bb, off := bo })] w R := calls_of_vcj (pure := false) (wrapAt := []) (muts := []) (esc := []) (joins := [(2000004, [(49, 4)]), (2000006, [(77,
    4)]), (5000000, [])]) (args := [SV.pv (PV.one (Lf.ptr bb bo))]) (vs := [Value.pointer (some { block := bb, off := bo })]) Try.func63 rfl rfl rfl (Eq.mp (by kernel_rfl) h) 
set_option maxRecDepth 100000 in
set_option maxHeartbeats 2000000 in
theorem vc30 (p0w0a : Option Addr) (p0w0n : Nat) (p0w0c : Nat) (p0w1a : Option Addr) (p0w1n : Nat) (p0w1c : Nat) (fit : Int) (holesa : Option Addr) (holesn : Nat) (holesc : Nat)
    (shaftsa : Option Addr) (shaftsn : Nat) (shaftsc : Nat) (w : World) (R : Ending → World → Prop) (h : ∀ (m1 : Nat), w.heap.size ≤ m1 → ∀ (w1 : World), RowKit.Below w.heap.size w
    w1 → Kept [m1] w w1 → Calls Try.prog 62 #[Value.agg #[Value.slice p0w0a p0w0n p0w0c, Value.slice p0w1a p0w1n p0w1c], Value.int IntKind.i64 fit, Value.slice holesa holesn
    holesc, Value.slice shaftsa shaftsn shaftsc] w1 fun (e1 : Ending) (w2 : World) => ∃ (a1 : Option Addr), ∃ (x1 : Int), e1 = Ending.returned (Value.tuple #[Value.pointer a1,
    Value.int IntKind.i64 x1]) ∧ KeepX true w.heap.size [m1] (fun _ => False) w1 w2 ∧ (x1 ≠ 0 → ∀ (w3 : World), RowKit.Below w.heap.size w w3 → Kept [m1] w2 w3 → R (Ending.returned
    (Value.tuple #[Value.slice none 0 0, Value.int IntKind.i64 x1])) w3) ∧ (x1 = 0 → ∀ (w4 : World), RowKit.Below w.heap.size w w4 → Kept [m1] w2 w4 → Calls Try.prog 63
    #[Value.pointer a1] w4 fun (e2 : Ending) (w5 : World) => e2 = Ending.returned (Value.tuple #[]) ∧ KeepX true w.heap.size [m1] (fun _ => False) w4 w5 ∧ ∃ (F1 : List Lf → World →
    Prop), ∃ (F2 : List Lf → Nat), (∀ (w7 : World), RowKit.Below w.heap.size w w7 → Kept [m1] w5 w7 → F1 [Lf.sl none 0 0, Lf.int IntKind.i64 0] w7) ∧ ∀ (a2 : Option Addr) (m4 m5 :
    Nat) (x2 : Int) (w8 : World), RowKit.Below w.heap.size w w8 → F1 [Lf.sl a2 m4 m5, Lf.int IntKind.i64 x2] w8 → (x2 < (↑shaftsn : Int) → ∃ (m6 : Nat), ∃ (m7 : Nat), a1 = some
    { block := m6, off := m7 } ∧ True ∧ ∃ (m8 : Nat), w8.cell? { block := m6, off := m7 + 8 } = some (Value.map (some m8)) ∧ (m6 < w.heap.size ∨ m6 ≠ m1) ∧ ∀ (w9 : World),
    RowKit.Below w.heap.size w w9 → Kept [m1] w8 w9 → RunsTo Try.prog (Instr.lookup 129 (Value.map (some m8)) (Value.int IntKind.i64 x2) true) w9 fun (v1 : Value) (w10 : World) =>
    ∃ (x3 : Int), ∃ (t1 : Bool), v1 = Value.tuple #[Value.int IntKind.i64 x3, Value.bool t1] ∧ KeepX true w.heap.size [m1] (fun _ => False) w9 w10 ∧ (t1 = true → ∀ (m10 : Nat),
    w10.heap.size ≤ m10 → ∀ (w11 : World), RowKit.Below w.heap.size w w11 → Kept [m10, m1] w10 w11 → w11.heap[m10]? = some (Obj.cells #[Value.int IntKind.i64 x2, Value.int
    IntKind.i64 x3] 68) → RunsTo Try.prog (Builtin.append_ #[58, 58] 58 #[Value.slice a2 m4 m5, Value.slice (some { block := m10, off := 0 }) 1 1]) w11 fun (v2 : Value) (w12 :
    World) => ∃ (a3 : Option Addr), ∃ (m12 : Nat), ∃ (m13 : Nat), v2 = Value.slice a3 m12 m13 ∧ KeepX true w.heap.size [m10, m1] (fun _ => False) w11 w12 ∧ (-9223372036854775808 ≤
    x2 + 1 ∧ x2 + (1 : Int) ≤ 9223372036854775807) ∧ ∀ (w13 : World), RowKit.Below w.heap.size w w13 → Kept [m10, m1] w12 w13 → F1 [Lf.sl a3 m12 m13, Lf.int IntKind.i64 (x2 + 1)]
    w13 ∧ F2 [Lf.sl a3 m12 m13, Lf.int IntKind.i64 (x2 + 1)] < F2 [Lf.sl a2 m4 m5, Lf.int IntKind.i64 x2]) ∧ (t1 = false → (-9223372036854775808 ≤ x2 + 1 ∧ x2 + (1 : Int) ≤
    9223372036854775807) ∧ ∀ (w14 : World), RowKit.Below w.heap.size w w14 → Kept [m1] w10 w14 → F1 [Lf.sl a2 m4 m5, Lf.int IntKind.i64 (x2 + 1)] w14 ∧ F2 [Lf.sl a2 m4 m5, Lf.int
    IntKind.i64 (x2 + 1)] < F2 [Lf.sl a2 m4 m5, Lf.int IntKind.i64 x2])) ∧ ((↑shaftsn : Int) ≤ x2 → ∀ (w15 : World), RowKit.Below w.heap.size w w15 → Kept [m1] w8 w15 → R
    (Ending.returned (Value.tuple #[Value.slice a2 m4 m5, Value.int IntKind.i64 0])) w15))) : Calls Try.prog 30 #[Value.agg #[Value.slice p0w0a p0w0n p0w0c, Value.slice p0w1a p0w1n
    p0w1c], Value.int IntKind.i64 fit, Value.slice holesa holesn holesc, Value.slice shaftsa shaftsn shaftsc] w R := calls_of_vc (pure := true) (wrapAt := []) (muts := []) (esc :=
    []) (args := [SV.pv (PV.agg [Lf.sl p0w0a p0w0n p0w0c, Lf.sl p0w1a p0w1n p0w1c]), SV.pv (PV.one (Lf.int IntKind.i64 fit)), SV.pv (PV.one (Lf.sl holesa holesn holesc)), SV.pv
    (PV.one (Lf.sl shaftsa shaftsn shaftsc))]) (vs := [Value.agg #[Value.slice p0w0a p0w0n p0w0c, Value.slice p0w1a p0w1n p0w1c], Value.int IntKind.i64 fit, Value.slice holesa
    holesn holesc, Value.slice shaftsa shaftsn shaftsc]) Try.func30 rfl rfl rfl (Eq.mp (by kernel_rfl) h) 
set_option maxRecDepth 100000 in
set_option maxHeartbeats 2000000 in
theorem vc31 (p0w0a : Option Addr) (p0w0n : Nat) (p0w0c : Nat) (p0w1a : Option Addr) (p0w1n : Nat) (p0w1c : Nat) (fit : Int) (holesa : Option Addr) (holesn : Nat) (holesc : Nat)
    (shaftsa : Option Addr) (shaftsn : Nat) (shaftsc : Nat) (w : World) (R : Ending → World → Prop) (h : ∀ (m1 : Nat), w.heap.size ≤ m1 → ∀ (w1 : World), RowKit.Below w.heap.size w
    w1 → Kept [m1] w w1 → Calls Try.prog 62 #[Value.agg #[Value.slice p0w0a p0w0n p0w0c, Value.slice p0w1a p0w1n p0w1c], Value.int IntKind.i64 fit, Value.slice holesa holesn
    holesc, Value.slice shaftsa shaftsn shaftsc] w1 fun (e1 : Ending) (w2 : World) => ∃ (a1 : Option Addr), ∃ (x1 : Int), e1 = Ending.returned (Value.tuple #[Value.pointer a1,
    Value.int IntKind.i64 x1]) ∧ KeepX true w.heap.size [m1] (fun _ => False) w1 w2 ∧ (x1 ≠ 0 → ∀ (w3 : World), RowKit.Below w.heap.size w w3 → Kept [m1] w2 w3 → R (Ending.returned
    (Value.tuple #[Value.slice none 0 0, Value.slice none 0 0, Value.int IntKind.i64 x1])) w3) ∧ (x1 = 0 → ∀ (w4 : World), RowKit.Below w.heap.size w w4 → Kept [m1] w2 w4 → Calls
    Try.prog 63 #[Value.pointer a1] w4 fun (e2 : Ending) (w5 : World) => e2 = Ending.returned (Value.tuple #[]) ∧ KeepX true w.heap.size [m1] (fun _ => False) w4 w5 ∧ ∀ (w6 :
    World), RowKit.Below w.heap.size w w6 → Kept [m1] w5 w6 → Calls Try.prog 64 #[Value.pointer a1] w6 fun (e3 : Ending) (w7 : World) => ∃ (m4 : Nat), ∃ (m5 : Nat), e3 =
    Ending.returned (Value.tuple #[Value.map (some m4), Value.map (some m5)]) ∧ KeepX true w.heap.size [m1] (fun _ => False) w6 w7 ∧ ∀ (w8 : World), RowKit.Below w.heap.size w w8 →
    Kept [m1] w7 w8 → Calls Try.prog 65 #[Value.map (some m4)] w8 fun (e4 : Ending) (w9 : World) => ∃ (a2 : Option Addr), ∃ (m7 : Nat), ∃ (m8 : Nat), e4 = Ending.returned
    (Value.slice a2 m7 m8) ∧ KeepX true w.heap.size [m1] (fun _ => False) w8 w9 ∧ ∀ (w10 : World), RowKit.Below w.heap.size w w10 → Kept [m1] w9 w10 → Calls Try.prog 65 #[Value.map
    (some m5)] w10 fun (e5 : Ending) (w11 : World) => ∃ (a3 : Option Addr), ∃ (m10 : Nat), ∃ (m11 : Nat), e5 = Ending.returned (Value.slice a3 m10 m11) ∧ KeepX true w.heap.size
    [m1] (fun _ => False) w10 w11 ∧ ∀ (w12 : World), RowKit.Below w.heap.size w w12 → Kept [m1] w11 w12 → R (Ending.returned (Value.tuple #[Value.slice a2 m7 m8, Value.slice a3 m10
    m11, Value.int IntKind.i64 0])) w12)) : Calls Try.prog 31 #[Value.agg #[Value.slice p0w0a p0w0n p0w0c, Value.slice p0w1a p0w1n p0w1c], Value.int IntKind.i64 fit, Value.slice
    holesa holesn holesc, Value.slice shaftsa shaftsn shaftsc] w R := calls_of_vc (pure := true) (wrapAt := []) (muts := []) (esc := []) (args := [SV.pv (PV.agg [Lf.sl p0w0a p0w0n
    p0w0c, Lf.sl p0w1a p0w1n p0w1c]), SV.pv (PV.one (Lf.int IntKind.i64 fit)), SV.pv (PV.one (Lf.sl holesa holesn holesc)), SV.pv (PV.one (Lf.sl shaftsa shaftsn shaftsc))]) (vs :=
    [Value.agg #[Value.slice p0w0a p0w0n p0w0c, Value.slice p0w1a p0w1n p0w1c], Value.int IntKind.i64 fit, Value.slice holesa holesn holesc, Value.slice shaftsa shaftsn shaftsc])
    Try.func31 rfl rfl rfl (Eq.mp (by kernel_rfl) h) 
end Go.Proofs
end
section
/- Pairs: what box.pair does. -/
namespace Go.Proofs.R12
open Go.Vc Go.RowKit Go.Proofs

theorem u3 : Try.prog.underlying 3 = some (.int .i64) := by kernel_rfl
theorem keyI_chk (b : Bool) (k : Int) (w : World) : (Instr.checkKey b 10000 3 (I k)).run Try.prog w = .ok () w := by cases b <;> kernel_rfl
theorem keyI : KeyNow Try.prog 3 I := ⟨⟨_, u3, fun k k' => by simp [Instr.sameNow]; rfl⟩, keyI_chk⟩

/-- Cells stay where a map is changed. -/
theorem cells_map {w w' : World} {a : Option Addr} {vs : List Value} (h : Cells w a vs) {K : Type} {enc : K → Value} {tm : Nat} {m : List (K × Value)} (hm : MapC w tm enc m) (hc : Chg [tm] w w') : Cells w' a vs := fun i v hi => by
  obtain ⟨b, o, e, hcell⟩ := h i v hi
  refine ⟨b, o, e, hc.cell (fun hb => ?_) hcell⟩
  simp only [List.mem_singleton] at hb
  subst hb
  obtain ⟨es, clock, h1, _⟩ := hm
  unfold World.cell? at hcell
  simp [h1] at hcell
theorem cells_chg {w w' : World} {a : Option Addr} {vs : List Value} (h : Cells w a vs) (hc : Chg [] w w') : Cells w' a vs := fun i v hi => by
  obtain ⟨b, o, e, hcell⟩ := h i v hi
  exact ⟨b, o, e, hc.cell (by simp) hcell⟩

def smallQ (f : Fit) (H S : List Int) (s h : Int) : Bool := decide (H.getD h.toNat 0 - S.getD s.toNat 0 < f.gap.1)
def pstep (f : Fit) (H S : List Int) (st : List Int × List (Int × Int)) (s : Int) : List Int × List (Int × Int) :=
  match st.1.dropWhile (smallQ f H S s) with
  | [] => ([], st.2)
  | h :: t => if isF f (H.getD h.toNat 0) (S.getD s.toNat 0) then (t, st.2 ++ [(s, h)]) else (h :: t, st.2)
def pairSt (f : Fit) (H S : List Int) (n : Nat) : List Int × List (Int × Int) := ((sortIdx S).take n).foldl (pstep f H S) (sortIdx H, [])
/-- The pairs (shaft, hole) in the order in which they are made. -/
def pairK (f : Fit) (H S : List Int) : List (Int × Int) := (pairSt f H S S.length).2

theorem pairSt_succ {f : Fit} {H S : List Int} {n : Nat} (h : n < S.length) : pairSt f H S (n + 1) = pstep f H S (pairSt f H S n) ((sortIdx S).getD n 0) := by
  have hl : n < (sortIdx S).length := by rw [sortIdx_len]; exact h
  unfold pairSt
  rw [List.take_succ_eq_append_getElem hl, List.foldl_append]
  simp [List.getD_eq_getElem?_getD, hl]
theorem pstep_suf {f : Fit} {H S : List Int} {st : List Int × List (Int × Int)} {s : Int} : (pstep f H S st s).1 <:+ st.1 := by
  unfold pstep
  have h := List.dropWhile_suffix (l := st.1) (smallQ f H S s)
  split
  · exact List.nil_suffix
  · rename_i a t e
    rw [e] at h
    split
    · exact (List.suffix_cons a t).trans h
    · exact h
/-- Holes that are left have no shaft, shafts that come have no hole. -/
theorem pairSt_inv {f : Fit} {H S : List Int} : ∀ {n : Nat}, n ≤ S.length → (pairSt f H S n).1 <:+ sortIdx H ∧ (∀ p ∈ (pairSt f H S n).2, p.1 ∈ (sortIdx S).take n ∧ p.2 ∈ sortIdx H ∧ p.2 ∉ (pairSt f H S n).1)
  | 0, _ => by simp [pairSt]
  | n + 1, h => by
    obtain ⟨h1, h2⟩ := pairSt_inv (f := f) (H := H) (S := S) (n := n) (by omega)
    have hl : n < (sortIdx S).length := by rw [sortIdx_len]; omega
    have hnd : (sortIdx H).Nodup := (sortIdx_perm H).nodup_iff.2 (idxs_nodup _)
    rw [pairSt_succ (by omega)]
    have hs := pstep_suf (f := f) (H := H) (S := S) (st := pairSt f H S n) (s := (sortIdx S).getD n 0)
    refine ⟨hs.trans h1, ?_⟩
    have htk : (sortIdx S).take (n + 1) = (sortIdx S).take n ++ [(sortIdx S).getD n 0] := by
      rw [List.take_succ_eq_append_getElem hl]; simp [List.getD_eq_getElem?_getD, hl]
    have old : ∀ p ∈ (pairSt f H S n).2, p.1 ∈ (sortIdx S).take (n + 1) ∧ p.2 ∈ sortIdx H ∧ p.2 ∉ (pstep f H S (pairSt f H S n) ((sortIdx S).getD n 0)).1 := fun p hp => by
      obtain ⟨g1, g2, g3⟩ := h2 p hp
      exact ⟨by rw [htk]; exact List.mem_append_left _ g1, g2, fun hm => g3 (hs.subset hm)⟩
    intro p hp
    have hd := List.dropWhile_suffix (l := (pairSt f H S n).1) (smallQ f H S ((sortIdx S).getD n 0))
    have hsuf := hd.trans h1
    unfold pstep at hp
    split at hp
    · exact old p hp
    · rename_i a t e
      split at hp
      · rename_i hF
        rcases List.mem_append.1 hp with hp | hp
        · exact old p hp
        · simp only [List.mem_singleton] at hp
          subst hp
          refine ⟨by rw [htk]; simp, hsuf.subset (by rw [e]; exact List.mem_cons_self), ?_⟩
          unfold pstep
          simp only [e, hF, if_true]
          have := (hnd.sublist hsuf.sublist)
          rw [e] at this
          exact (List.nodup_cons.1 this).1
      · exact old p hp

def getsV (ps : List (Int × Int)) : List (Int × Value) := ps.map fun p => (p.1, I p.2)
def takenV (ps : List (Int × Int)) : List (Int × Value) := ps.map fun p => (p.2, I p.1)
theorem look_none {ps : List (Int × Value)} {k : Int} (h : ∀ p ∈ ps, p.1 ≠ k) : ps.lookup k = none := by
  induction ps with
  | nil => rfl
  | cons p r ih =>
    obtain ⟨a, b⟩ := p
    have h1 := h (a, b) List.mem_cons_self
    simp only at h1
    simp only [List.lookup]
    have : (k == a) = false := by simpa using fun e => h1 e.symm
    rw [this]
    exact ih fun p hp => h p (List.mem_cons_of_mem _ hp)

/-- A box in memory. -/
def boxV (f : Fit) (aH : Option Addr) (nH cH : Nat) (aS : Option Addr) (nS cS : Nat) (mg mt : Nat) : List Value := f.cells ++ [.slice aH nH cH, .slice aS nS cS, .map (some mg), .map (some mt)]
structure BoxIs (w : World) (bb : Nat) (f : Fit) (H S : List Int) (aH : Option Addr) (cH : Nat) (aS : Option Addr) (cS : Nat) (mg mt : Nat) (ps : List (Int × Int)) : Prop where
  cells : Cells w (some ⟨bb, 0, none⟩) (boxV f aH H.length cH aS S.length cS mg mt)
  h : Cells w aH (ints H)
  s : Cells w aS (ints S)
  g : MapC w mg I (getsV ps)
  t : MapC w mt I (takenV ps)
  ne : mg ≠ mt
section
variable {w w' : World} {bb : Nat} {f : Fit} {H S : List Int} {aH : Option Addr} {cH : Nat} {aS : Option Addr} {cS : Nat} {mg mt : Nat} {ps : List (Int × Int)}
theorem BoxIs.chg (h : BoxIs w bb f H S aH cH aS cS mg mt ps) (hc : Chg [] w w') : BoxIs w' bb f H S aH cH aS cS mg mt ps :=
  ⟨cells_chg h.cells hc, cells_chg h.h hc, cells_chg h.s hc, h.g.chg hc (by simp), h.t.chg hc (by simp), h.ne⟩
theorem BoxIs.at (h : BoxIs w bb f H S aH cH aS cS mg mt ps) {i : Nat} {v : Value} (hv : (boxV f aH H.length cH aS S.length cS mg mt)[i]? = some v) : w.cell? ⟨bb, i, none⟩ = some v := by
  have := h.cells.at hv; rwa [Nat.zero_add] at this
end

theorem load_n {w : World} {a : Option Addr} {l : List Int} {i : Int} {n : Nat} {X : Nat → Nat → Int → Prop} (h : Cells w a (ints l)) (hn : l.length = n) (hi0 : 0 ≤ i ∧ i < (n : Int)) (k : ∀ m o, X m o (l.getD i.toNat 0)) :
    ∃ m o, a = some ⟨m, o, none⟩ ∧ (0 ≤ i ∧ i < (n : Int)) ∧ ∃ x0 : Int, w.cell? ⟨m, o + i.toNat * 1, none⟩ = some (I x0) ∧ X m o x0 := by
  subst hn
  exact load_int h (.refl _ _) hi0 fun m o _ => k m o
theorem chg_of_in {w w' : World} {rs : List (Nat × Nat)} (h : KeptIn ((0, w.heap.size) :: rs) [] w w') : Chg [] w w' := h.chg
/-- A map that is changed in a drawn region. -/
theorem map_keepM {K : Type} {enc : K → Value} {tm base : Nat} {m : List (K × Value)} {gh : Nat → Prop} {w w' : World} (hm : MapC w tm enc m) (hc : Chg [tm] w w') (hg : ∀ b, gh b → b < w.heap.size ∧ b ≠ tm) :
    KeepX false base [] gh w w' ∧ CellsKept w w' :=
  ⟨hc.own (by simp) (fun b hb => ⟨(hg b hb).1, by simpa using (hg b hb).2⟩) (fun h => by cases h), fun b hb => hc.keep b hb.lt fun h => by
    simp only [List.mem_singleton] at h
    subst h
    obtain ⟨es, clock, h1, _⟩ := hm
    obtain ⟨c, T, r, h2⟩ := hb
    rw [h1] at h2; cases h2⟩
def headQ (q : Int → Bool) : List Int → Bool
  | [] => false
  | h :: _ => q h
theorem drop_head {q : Int → Bool} {l : List Int} (h : headQ q l = false) : l.dropWhile q = l := by
  cases l with
  | nil => rfl
  | cons a t => simp only [headQ] at h; simp [List.dropWhile, h]
set_option maxRecDepth 100000 in
set_option maxHeartbeats 1000000 in
theorem pair_l {w : World} {bb : Nat} {f : Fit} {H S : List Int} {aH : Option Addr} {cH : Nat} {aS : Option Addr} {cS : Nat} {mg mt : Nat} (B : BoxIs w bb f H S aH cH aS cS mg mt []) (hH : ∀ x ∈ H, 0 ≤ x ∧ x ≤ 1000000) (hS : ∀ x ∈ S, 0 ≤ x ∧ x ≤ 1000000)
    (lH : H.length ≤ 200) (lS : S.length ≤ 200) : Calls Try.prog 63 #[.pointer (some ⟨bb, 0, none⟩)] w fun e w' => e = .returned (.tuple #[]) ∧ Chg [mg, mt] w w' ∧ BoxIs w' bb f H S aH cH aS cS mg mt (pairK f H S) := by
  have bH : ∀ i : Nat, 0 ≤ H.getD i 0 ∧ H.getD i 0 ≤ 1000000 := fun i => by
    rw [List.getD_eq_getElem?_getD]
    cases h : H[i]? with
    | none => simp
    | some v => exact hH v (List.mem_of_getElem? h)
  have bS : ∀ i : Nat, 0 ≤ S.getD i 0 ∧ S.getD i 0 ≤ 1000000 := fun i => by
    rw [List.getD_eq_getElem?_getD]
    cases h : S[i]? with
    | none => simp
    | some v => exact hS v (List.mem_of_getElem? h)
  refine vc63 _ _ w _ ⟨_, _, _, cell_at' (B.at (i := 6) rfl) (by omega), fun w1 hk1 => ?_⟩
  have B1 := B.chg (Chg.kept hk1)
  refine (bySize_l B1.h lH).mono fun e1 w2 he => ?_
  obtain ⟨aR, cR, rfl, hcR, hb2, LR⟩ := he
  have B2 := B1.chg (Chg.of_below hb2)
  refine ⟨_, _, _, rfl, .all hb2, _, _, _, cell_at' (B2.at (i := 7) rfl) (by omega), fun w3 hk3 => ?_⟩
  have B3 := B2.chg (Chg.kept hk3)
  refine (bySize_l B3.s lS).mono fun e2 w4 he => ?_
  obtain ⟨aO, cO, rfl, hcO, hb4, LO⟩ := he
  have B4 := B3.chg (Chg.of_below hb4)
  have c14 : Chg [] w w4 := (Chg.kept hk1).trans ((Chg.of_below hb2).trans ((Chg.kept hk3).trans (Chg.of_below hb4)))
  have CR4 := cells_chg (cells_chg LR.cells (Chg.kept hk3)) (Chg.of_below hb4)
  refine ⟨_, _, _, rfl, .all hb4, fun ls w' => match ls with | [.sl a n c, .int _ ii] => (0 ≤ ii ∧ ii ≤ S.length) ∧ (pairSt f H S ii.toNat).1.length = n ∧ n ≤ c ∧ Cells w' a (ints (pairSt f H S ii.toNat).1) ∧ Cells w' aO (ints (sortIdx S)) ∧ BoxIs w' bb f H S aH cH aS cS mg mt (pairSt f H S ii.toNat).2 ∧ Chg [mg, mt] w w' | _ => False,
    fun ls => match ls with | [_, .int _ ii] => (S.length - ii).toNat | _ => 0, fun w6 hk6 => ⟨⟨by omega, by omega⟩, sortIdx_len H, hcR, cells_chg CR4 (Chg.kept hk6), cells_chg LO.cells (Chg.kept hk6), B4.chg (Chg.kept hk6), (c14.trans (Chg.kept hk6)).mono (by simp)⟩, ?_⟩
  rintro a5 m11 m12 x1 w7 ⟨⟨x0, xl⟩, hn7, hc7, CR7, CO7, B7, G7⟩
  refine ⟨fun hlt => ?_, fun hge w32 hk => ?_⟩
  rotate_left
  · have : x1.toNat = S.length := by omega
    rw [this] at B7
    exact ⟨rfl, G7.trans ((Chg.kept hk).mono (by simp)), B7.chg (Chg.kept hk)⟩
  have hx1 : x1.toNat < S.length := by omega
  obtain ⟨iv1, iv2⟩ := pairSt_inv (f := f) (H := H) (S := S) (n := x1.toNat) (by omega)
  have hsm : (sortIdx S).getD x1.toNat 0 ∈ sortIdx S := by
    have hl : x1.toNat < (sortIdx S).length := by rw [sortIdx_len]; exact hx1
    simp [List.getD_eq_getElem?_getD, hl]
  have hps := pairSt_succ (f := f) (H := H) (S := S) hx1
  refine load_n CO7 (sortIdx_len S) ⟨x0, by omega⟩ fun m13 m14 => ?_
  have hs := sortIdx_mem hsm
  have hsn : ∀ p ∈ (pairSt f H S x1.toNat).2, p.1 ≠ (sortIdx S).getD x1.toNat 0 := fun p hp e => by
    have h1 := (iv2 p hp).1
    rw [e] at h1
    have hl : x1.toNat < (sortIdx S).length := by rw [sortIdx_len]; exact hx1
    have hnd : (sortIdx S).Nodup := (sortIdx_perm S).nodup_iff.2 (idxs_nodup _)
    obtain ⟨k, hk, he⟩ := List.getElem_of_mem h1
    simp only [List.length_take] at hk
    rw [List.getElem_take] at he
    simp only [List.getD_eq_getElem?_getD, hl, List.getElem?_eq_getElem, Option.getD_some] at he
    have := (List.getElem_inj hnd).1 he
    omega
  generalize (sortIdx S).getD x1.toNat 0 = s at hps hs hsn hsm ⊢
  generalize hst : pairSt f H S x1.toNat = st at *
  obtain ⟨rest, ps⟩ := st
  simp only at hn7 CR7 B7 iv1 iv2 hsn
  refine ⟨fun ls w' => match ls with | [.sl a n c] => ∃ r : List Int, r.length = n ∧ n ≤ c ∧ r.dropWhile (smallQ f H S s) = rest.dropWhile (smallQ f H S s) ∧ r <:+ rest ∧ Cells w' a (ints r) ∧ Chg [] w7 w' | _ => False, fun ls => match ls with | [.sl _ n _] => n | _ => 0, fun w9 hk9 => ⟨rest, hn7, hc7, rfl, List.suffix_refl _, cells_chg CR7 (Chg.kept hk9), Chg.kept hk9⟩, ?_⟩
  rintro a6 m15 m16 w10 ⟨r, rfl, hc10, hdw, hsuf, CR10, g10⟩
  have B10 := B7.chg g10
  have hr : ∀ x ∈ r, 0 ≤ x ∧ x < H.length := fun x hx => sortIdx_mem (iv1.subset (hsuf.subset hx))
  have h0 : 0 < r.length → 0 ≤ r.getD 0 0 ∧ r.getD 0 0 < H.length := fun h => hr _ (by cases r with | nil => simp at h | cons a t => simp)
  refine ⟨fun ls w' => match ls with | [.bool t] => t = headQ (smallQ f H S s) r ∧ Chg [] w10 w' | _ => False, ⟨fun hp => ?_, fun hp w13 hk => ?_⟩, ?_⟩
  · have hp' : 0 < r.length := by omega
    refine ⟨_, _, _, cell_at' (B10.at (i := 6) rfl) (by omega), ?_⟩
    refine load_n CR10 rfl ⟨by omega, hp⟩ fun m19 m20 => ?_
    refine load_n B10.h rfl (h0 hp') fun m21 m22 => ?_
    refine ⟨_, _, _, cell_at' (B10.at (i := 7) rfl) (by omega), ?_⟩
    refine load_n B10.s rfl hs fun m25 m26 => ?_
    have q1 := bH (r.getD 0 0).toNat
    have q2 := bS s.toNat
    refine ⟨⟨by simp only [Int.toNat_zero]; omega, by simp only [Int.toNat_zero]; omega⟩, _, cell_at' (B10.at (i := 4) rfl) (by omega), fun w12 hk => ⟨?_, Chg.kept hk⟩⟩
    cases r with
    | nil => simp at hp'
    | cons a t => rfl
  · have : r = [] := List.length_eq_zero_iff.1 (by omega)
    subst this
    exact ⟨rfl, Chg.kept hk⟩
  rintro t1 w14 ⟨rfl, g14⟩
  have B14 := B10.chg g14
  have CR14 := cells_chg CR10 g14
  refine ⟨fun ht => ?_, fun ht => ?_⟩
  · cases r with
    | nil => simp [headQ] at ht
    | cons a t =>
      obtain ⟨q, hq, Cq⟩ := cells_tail CR14 (by simp) hc10
      refine ⟨⟨by omega, by simp; omega⟩, fun w15 hk => ⟨⟨t, by simp, by omega, ?_, (List.suffix_cons a t).trans hsuf, ?_, g10.trans (g14.trans (Chg.kept hk))⟩, by simp⟩⟩
      · rw [← hdw]; simp only [headQ] at ht; simp [List.dropWhile, ht]
      · rw [show Int.toNat 1 = 1 from rfl, hq]; exact cells_chg Cq (Chg.kept hk)
  have hdr := drop_head ht
  rw [hdr] at hdw
  refine ⟨fun ls w' => match ls with | [.bool t] => t = headQ (fun h => decide (isF f (H.getD h.toNat 0) (S.getD s.toNat 0))) r ∧ Chg [] w14 w' | _ => False, ⟨fun hp => ?_, fun hp w20 hk => ?_⟩, ?_⟩
  · have hp' : 0 < r.length := by omega
    refine ⟨_, _, _, _, _, _, cell_at' (B14.at (i := 0) rfl) (by omega), cell_at' (B14.at (i := 1) rfl) (by omega), cell_at' (B14.at (i := 2) rfl) (by omega), cell_at' (B14.at (i := 3) rfl) (by omega), cell_at' (B14.at (i := 4) rfl) (by omega), cell_at' (B14.at (i := 5) rfl) (by omega), ?_⟩
    refine ⟨_, _, _, cell_at' (B14.at (i := 6) rfl) (by omega), ?_⟩
    refine load_n CR14 rfl ⟨by omega, hp⟩ fun m31 m32 => ?_
    refine load_n B14.h rfl (h0 hp') fun m33 m34 => ?_
    refine ⟨_, _, _, cell_at' (B14.at (i := 7) rfl) (by omega), ?_⟩
    refine load_n B14.s rfl hs fun m37 m38 => ?_
    intro w17 hk17
    have q1 := bH (r.getD 0 0).toNat
    have q2 := bS s.toNat
    refine Pure.calls (is_any f _ _ (by simp only [Int.toNat_zero]; omega) (by omega)) fun w18 hd => ⟨_, rfl, .all hd, fun w19 hk => ⟨?_, (chg_of_in hk17).trans ((Chg.of_below hd).trans (Chg.kept hk))⟩⟩
    cases r with
    | nil => simp at hp'
    | cons a t => rfl
  · have : r = [] := List.length_eq_zero_iff.1 (by omega)
    subst this
    exact ⟨rfl, Chg.kept hk⟩
  rintro t3 w21 ⟨rfl, g21⟩
  have B21 := B14.chg g21
  have CR21 := cells_chg CR14 g21
  have g7 : Chg [] w7 w21 := g10.trans (g14.trans g21)
  have CO21 := cells_chg CO7 g7
  refine ⟨fun ht3 => ?_, fun ht3 => ⟨⟨by omega, by omega⟩, fun w31 hk => ⟨?_, by simp only; omega⟩⟩⟩
  rotate_left
  · have e1 : pairSt f H S (x1 + 1).toNat = (r, ps) := by
      rw [show (x1 + 1).toNat = x1.toNat + 1 by omega, hps]
      unfold pstep
      rw [← hdw]
      cases r with
      | nil => rfl
      | cons a t =>
        simp only [headQ, decide_eq_false_iff_not] at ht3
        exact if_neg ht3
    simp only [e1]
    exact ⟨⟨by omega, by omega⟩, (by first | rfl | trivial), hc10, cells_chg CR21 (Chg.kept hk), cells_chg CO21 (Chg.kept hk), B21.chg (Chg.kept hk), G7.trans ((g7.trans (Chg.kept hk)).mono (by simp))⟩
  obtain ⟨a, t, rfl⟩ : ∃ a t, r = a :: t := by
    cases r with
    | nil => cases ht3
    | cons a t => exact ⟨a, t, rfl⟩
  replace ht3 : isF f (H.getD a.toNat 0) (S.getD s.toNat 0) := of_decide_eq_true ht3
  have hgb : mg < w21.heap.size := B21.g.lt
  have htb : mt < w21.heap.size := B21.t.lt
  have ham : a ∈ rest := hsuf.subset List.mem_cons_self
  have hlen : (0 : Int) < ((a :: t).length : Int) := by simp only [List.length_cons]; omega
  refine ⟨_, cell_at' (B21.at (i := 8) rfl) (by omega), _, cell_at' (B21.at (i := 9) rfl) (by omega), ?_⟩
  refine load_n CR21 rfl ⟨by omega, hlen⟩ fun m42 m43 => ?_
  intro w22 hk22
  have c22 := chg_of_in hk22
  have B22 := B21.chg c22
  refine entry_new keyI (P := Try.prog) (mt := 129) (vt := 3) (by kernel_rfl) B22.g s (z := I 0) (by kernel_rfl) (look_none fun p hp => ?_) fun w23 clock M23 c23 => ?_
  · obtain ⟨p', h1, rfl⟩ := List.mem_map.1 hp; exact hsn p' h1
  refine ⟨_, _, rfl, map_keepM B22.g c23 (fun b hb => by
    rcases hb with h | h
    · exact h.elim
    · exact ⟨h.2, by omega⟩), ?_⟩
  refine load_n CR21 rfl ⟨by omega, hlen⟩ fun m50 m51 => ?_
  intro w24 hk24
  have s22 := c22.size
  have s23 := c23.size
  have l24 : ∀ k, k < w21.heap.size → w24.heap[k]? = w23.heap[k]? := fun k hk => hk24.block k (by omega) (by simp) ⟨_, List.mem_cons_self, Nat.zero_le _, hk⟩
  have M24 : MapP w24 mg I (getsV ps) s clock := by
    obtain ⟨es, z, h1, h2, h3⟩ := M23
    exact ⟨es, z, by rw [l24 mg hgb]; exact h1, h2, h3⟩
  have c24 : Chg [mg] w21 w24 := ⟨hk24.os.trans (c23.os.trans c22.os), hk24.tape.trans (c23.tape.trans c22.tape), hk24.output.trans (c23.output.trans c22.output), Nat.le_trans s22 (Nat.le_trans s23 hk24.size), fun k hk hn => (l24 k hk).trans ((c23.keep k (by omega) hn).trans (c22.keep k hk (by simp)))⟩
  refine entry_store M24 fun w25 M25 c25 => ?_
  have g25 : Chg [mg] w21 w25 := c24.trans c25
  refine ⟨c25.own (by simp) (by simp) (fun h => by cases h), fun w26 hk26 => ?_⟩
  have c26 := chg_of_in hk26
  have T26 : MapC w26 mt I (takenV ps) := (B21.t.chg g25 (by simpa using B21.ne.symm)).chg c26 (by simp)
  refine entry_new keyI (P := Try.prog) (mt := 129) (vt := 3) (by kernel_rfl) T26 a (z := I 0) (by kernel_rfl) (look_none fun p hp => ?_) fun w27 clock2 M27 c27 => ?_
  · obtain ⟨p', h1, rfl⟩ := List.mem_map.1 hp
    exact fun e => (iv2 p' h1).2.2 (by simp only at e; rw [e]; exact ham)
  refine ⟨_, _, rfl, c27.own (by simp) (by simp) (fun h => by cases h), fun w28 hk28 => ?_⟩
  refine entry_store (M27.chg (chg_of_in hk28) (by simp)) fun w29 M29 c29 => ?_
  refine ⟨c29.own (by simp) (by simp) (fun h => by cases h), ⟨by omega, by omega⟩, ⟨by omega, by omega⟩, fun w30 hk30 => ⟨?_, by simp only; omega⟩⟩
  have h29 : Chg [mt] w26 w29 := c27.trans (((chg_of_in hk28).mono (by simp)).trans c29)
  have mv : ∀ {q : Option Addr} {vs : List Value}, Cells w21 q vs → Cells w30 q vs := fun C => cells_chg (cells_map (cells_chg (cells_map C B21.g g25) c26) T26 h29) (Chg.kept hk30)
  have e1 : pairSt f H S (x1 + 1).toNat = (t, ps ++ [(s, a)]) := by
    rw [show (x1 + 1).toNat = x1.toNat + 1 by omega, hps]
    unfold pstep
    rw [← hdw]
    exact if_pos ht3
  obtain ⟨q, hq, Cq⟩ := cells_tail CR21 (by simp) hc10
  simp only [e1]
  refine ⟨⟨by omega, by omega⟩, by simp, by omega, by rw [show Int.toNat 1 = 1 from rfl, hq]; exact mv Cq, mv CO21, ⟨mv B21.cells, mv B21.h, mv B21.s, ?_, ?_, B21.ne⟩, G7.trans ((g7.mono (by simp)).trans ((g25.mono (by simp)).trans ((c26.mono (by simp)).trans ((h29.mono (by simp)).trans ((Chg.kept hk30).mono (by simp))))))⟩
  · have := ((M25.chg c26 (by simp)).chg h29 (by simpa using B21.ne)).chg (Chg.kept hk30) (by simp)
    simpa [getsV] using this
  · have := M29.chg (Chg.kept hk30) (by simp)
    simpa [takenV] using this
end Go.Proofs.R12
end
section
/- A new box; Pair. -/
namespace Go.Proofs.R12
open Go.Vc Go.RowKit Go.Proofs

abbrev fit0 : Fit := ⟨0, 0, 0, 0, (0, 0)⟩
def okSz (l : List Int) : Prop := ∀ x ∈ l, 0 ≤ x ∧ x ≤ 1000000
instance (l : List Int) : Decidable (okSz l) := by unfold okSz; exact inferInstance
def boxE (W : Wk) (n : Int) (H S : List Int) : Int :=
  if ¬ OkW W then 2 else if ¬ (0 ≤ n ∧ n < W.fits.length) then 7 else if 200 < H.length ∨ 200 < S.length then 5 else if ¬ (okSz H ∧ okSz S) then 3 else 0
theorem all_sz {l : List Int} : (l.all fun n => decide (0 ≤ n ∧ n ≤ 1000000)) = decide (okSz l) := by
  rw [Bool.eq_iff_iff, List.all_eq_true, decide_eq_true_eq]
  exact ⟨fun h x hx => of_decide_eq_true (h x hx), fun h x hx => decide_eq_true (h x hx)⟩
theorem mkMap {w : World} {t : TypeId} {K : Type} {enc : K → Value} {R : Value → World → Prop} (h : ∀ w', Below w.heap.size w w' → MapC w' w.heap.size enc [] → R (.map (some w.heap.size)) w') : RunsTo Try.prog (Instr.makeMap t none) w R :=
  ⟨_, _, run_makeMap t w, h _ ((Below.refl _ _).alloc (Nat.le_refl _) _) ⟨#[], 0, by show (w.heap.push _)[w.heap.size]? = _; simp, rfl, by simp⟩⟩

set_option maxRecDepth 100000 in
theorem newBox_l {w : World} {W : Wk} {pa fa : Option Addr} {pc fc : Nat} {n : Int} {H S : List Int} {aH aS : Option Addr} {cH cS : Nat} (hp : CellsS w pa W.pats) (hf : Cells w fa (fitsV W.fits)) (hS : Small W) (hh : Cells w aH (ints H)) (hs : Cells w aS (ints S)) (lH : H.length ≤ 1000) (lS : S.length ≤ 1000) :
    Calls Try.prog 62 #[W.v pa pc fa fc, I n, .slice aH H.length cH, .slice aS S.length cS] w fun e w' => ∃ a, e = .returned (.tuple #[.pointer a, I (boxE W n H S)]) ∧ Below w.heap.size w w' ∧
      (boxE W n H S ≠ 0 → a = none) ∧ (boxE W n H S = 0 → ∃ mb mg mt, a = some ⟨mb, 0, none⟩ ∧ (w.heap.size ≤ mb ∧ w.heap.size ≤ mg ∧ w.heap.size ≤ mt) ∧ BoxIs w' mb (W.fits.getD n.toNat fit0) H S aH cH aS cS mg mt []) := by
  have hm := hS.m
  refine vc62 _ _ _ _ _ _ _ _ _ _ _ _ _ w _ fun m1 g1 w1 hb1 hk1 => ?_
  refine Pure.calls (check_any (hp.keep hb1) (hf.keep hb1) hS) fun w2 hd2 => ⟨_, rfl, .all hd2, fun h1 w3 hb3 _ => ?_, fun h1 => ?_⟩
  · have : ¬ OkW W := checkE_ne.1 h1
    have e : boxE W n H S = 2 := by unfold boxE; rw [if_pos this]
    rw [e]
    exact ⟨none, rfl, hb3, fun _ => rfl, fun h => by cases h⟩
  have hok : OkW W := checkE_ok.1 h1
  have hb2 := hb1.trans (hd2.mono hb1.size)
  refine ⟨by omega, fun m3 g3 w4 hb4 hk4 hc4 => ?_⟩
  have k4 : Kept [m3, m1] w2 w4 := hk4
  refine Pure.calls (in1_any hc4) fun w5 hd5 => ⟨_, rfl, .all hd5, fun h2 w6 hb6 _ => ?_, fun h2 => ?_⟩
  · have : ¬ (0 ≤ n ∧ n < W.fits.length) := by
      intro hh
      simp only [Bool.not_eq_true', decide_eq_false_iff_not] at h2
      omega
    have e : boxE W n H S = 7 := by unfold boxE; rw [if_neg (by simpa using hok), if_pos this]
    rw [e]
    exact ⟨none, rfl, hb6, fun _ => rfl, fun h => by cases h⟩
  have hn : 0 ≤ n ∧ n < W.fits.length := by
    simp only [Bool.not_eq_false', decide_eq_true_eq] at h2
    omega
  refine ⟨fun ls _ => match ls with | [.bool t] => t = decide (200 < H.length ∨ 200 < S.length) | _ => False, ⟨fun h w8 _ _ => ?_, fun h w9 _ _ => ?_⟩, ?_⟩
  · show _ = _
    rw [decide_eq_true h, decide_eq_true (Or.inl (by omega))]
  · show _ = _
    rw [Bool.eq_iff_iff, decide_eq_true_eq, decide_eq_true_eq]; omega
  rintro t2 w10 hb10 rfl
  have ko : ∀ {x : World}, Below w.heap.size w x → x.heap.size = x.heap.size := fun _ => rfl
  refine ⟨fun ls _ => match ls with | [] => boxE W n H S = 0 | _ => False, ⟨fun h w12 hb12 _ => ?_, fun h w13 hb13 _ => ?_⟩, ?_⟩
  · have e : boxE W n H S = 5 := by unfold boxE; rw [if_neg (by simpa using hok), if_neg (by simpa using hn), if_pos (of_decide_eq_true h)]
    rw [e]
    exact ⟨none, rfl, hb12, fun _ => rfl, fun h => by cases h⟩
  · have hl := of_decide_eq_false h
    have e : ¬ (okSz H ∧ okSz S) ↔ boxE W n H S = 3 := by unfold boxE; rw [if_neg (by simpa using hok), if_neg (by simpa using hn), if_neg hl]; split <;> simp_all
    have e0 : (okSz H ∧ okSz S) → boxE W n H S = 0 := fun hz => by unfold boxE; rw [if_neg (by simpa using hok), if_neg (by simpa using hn), if_neg hl, if_neg (by simpa using hz)]
    refine Pure.calls (within_any (hh.keep hb13) (by omega)) fun w14 hd14 => ⟨_, rfl, .all hd14, fun ls _ => match ls with | [.bool t] => t = decide (¬ (okSz H ∧ okSz S)) | _ => False, ⟨fun h w16 _ _ => ?_, fun h w17 hb17 _ => ?_⟩, ?_⟩
    · rw [all_sz] at h ⊢
      show _ = _
      rw [Bool.eq_iff_iff, decide_eq_true_eq]
      simp only [Bool.not_eq_true', decide_eq_false_iff_not] at h ⊢
      exact ⟨fun _ hz => h hz.1, fun _ => h⟩
    · rw [all_sz] at h
      simp only [Bool.not_eq_false', decide_eq_true_eq] at h
      refine Pure.calls (within_any (hs.keep hb17) (by omega)) fun w18 hd18 => ⟨_, rfl, .all hd18, fun w19 _ _ => ?_⟩
      rw [all_sz]
      show _ = _
      rw [Bool.eq_iff_iff, decide_eq_true_eq]
      simp only [Bool.not_eq_true', decide_eq_false_iff_not]
      exact ⟨fun hz hy => hz hy.2, fun hz hy => hz ⟨h, hy⟩⟩
    · rintro t5 w20 hb20 rfl
      refine ⟨fun ls _ => match ls with | [] => boxE W n H S = 0 | _ => False, ⟨fun h w22 hb22 _ => ?_, fun h w23 _ _ => ?_⟩, fun w24 _ h w25 _ _ => h⟩
      · rw [e.1 (of_decide_eq_true h)]
        exact ⟨none, rfl, hb22, fun _ => rfl, fun h => by cases h⟩
      · exact e0 (Classical.not_not.1 (of_decide_eq_false h))
  · rintro w26 hb26 he0
    refine load_fit hf hb26 hn fun m12 m13 hm12 => ?_
    refine ⟨Or.inl hm12, fun w27 hb27 hk27 => mkMap (K := Int) (enc := I) fun w28 hd28 mg28 => ⟨_, rfl, .all hd28, fun w29 hb29 hk29 => mkMap (K := Int) (enc := I) fun w30 hd30 mt30 => ⟨_, rfl, .all hd30, fun m18 g18 w31 hb31 hk31 hc31 => ?_⟩⟩⟩
    have o1 := hk27.own m3 (by simp)
    have o2 := hk27.own m1 (by simp)
    have l1 := mg28.lt
    have l2 := mt30.lt
    have z1 := hk29.size
    have z2 := hb27.size
    have z3 := hb29.size
    have z4 := hd30.size
    have z5 := hb4.size
    have z6 := hd2.size
    have z7 := hb1.size
    refine ⟨some ⟨m18, 0, none⟩, by rw [he0], hb31, fun h => absurd he0 h, fun _ => ⟨m18, w27.heap.size, w29.heap.size, rfl, ⟨by omega, by omega, by omega⟩, Cells.obj (vs := boxV _ aH H.length cH aS S.length cS _ _) hc31, hh.keep hb31, hs.keep hb31, ?_, ?_, by omega⟩⟩
    · refine ((mg28.chg (Chg.kept hk29) ?_).chg (Chg.of_below (S := []) hd30) (by simp)).chg (Chg.kept hk31) ?_
      · simp only [List.mem_cons, List.not_mem_nil, or_false, not_or]; omega
      · simp only [List.mem_cons, List.not_mem_nil, or_false, not_or]; omega
    · refine mt30.chg (Chg.kept hk31) ?_
      simp only [List.mem_cons, List.not_mem_nil, or_false, not_or]
      have o3 := hk29.own m3 (by simp)
      have o4 := hk29.own m1 (by simp)
      omega
end Go.Proofs.R12
end
section
/- Pair. -/
namespace Go.Proofs.R12
open Go.Vc Go.RowKit Go.Proofs

theorem cells_ne {w w' : World} {b0 o0 : Nat} {vs : List Value} {S : List Nat} (h : Cells w (some ⟨b0, o0, none⟩) vs) (hc : Chg S w w') (hb : b0 ∉ S) : Cells w' (some ⟨b0, o0, none⟩) vs := fun i v hi => by
  obtain ⟨b, o, e, hcell⟩ := h i v hi
  simp only [Option.some.injEq, Addr.mk.injEq, and_true] at e
  obtain ⟨rfl, rfl⟩ := e
  exact ⟨_, _, rfl, hc.cell hb hcell⟩
theorem gets_look {ps : List (Int × Int)} {s : Int} : (getsV ps).lookup s = (ps.lookup s).map I := by
  induction ps with
  | nil => rfl
  | cons p r ih =>
    obtain ⟨a, b⟩ := p
    simp only [getsV, List.map_cons, List.lookup] at ih ⊢
    cases s == a <;> simp [ih]
/-- The pairs by shaft. -/
def pairsL (ps : List (Int × Int)) (n : Nat) : List (Int × Int) := (idxs n).filterMap fun s => (ps.lookup s).map fun h => (s, h)
def pairsV (l : List (Int × Int)) : List Value := l.flatMap fun p => [I p.1, I p.2]
theorem pairsL_succ (ps : List (Int × Int)) (n : Nat) : pairsL ps (n + 1) = pairsL ps n ++ (match ps.lookup (n : Int) with | some h => [((n : Int), h)] | none => []) := by
  unfold pairsL
  rw [idxs_succ, List.filterMap_append]
  cases h : ps.lookup (n : Int) <;> simp [h]
theorem pairsL_len (ps : List (Int × Int)) (n : Nat) : (pairsL ps n).length ≤ n := by
  unfold pairsL
  exact Nat.le_trans (List.length_filterMap_le _ _) (by simp [idxs])
def fitOf (W : Wk) (n : Int) : Fit := W.fits.getD n.toNat fit0
def pairM (W : Wk) (n : Int) (H S : List Int) : List (Int × Int) := if boxE W n H S = 0 then pairsL (pairK (fitOf W n) H S) S.length else []
theorem boxE_ok {W : Wk} {n : Int} {H S : List Int} (h : boxE W n H S = 0) : OkW W ∧ (0 ≤ n ∧ n < W.fits.length) ∧ (H.length ≤ 200 ∧ S.length ≤ 200) ∧ okSz H ∧ okSz S := by
  unfold boxE at h
  split at h
  · cases h
  split at h
  · cases h
  split at h
  · cases h
  split at h
  · cases h
  simp_all

theorem rowE_lies {e : TypeId} {size B : Nat} {ns : List Nat} {a : Option Addr} {n c : Nat} {xs : List Value} {w : World} {lo : Nat} (h : RowE e size B ns a n c xs w) (hl : lo ≤ B) : Lies [] lo w.heap.size w a xs := by
  rcases h with ⟨_, _, _, rfl⟩ | R
  · exact fun i v hi => by simp at hi
  · intro i v hi
    obtain ⟨b, o, e, hc⟩ := R.cells i v hi
    exact ⟨b, o, e, ⟨by simp, Nat.le_trans hl (R.lt b o e).1, (R.lt b o e).2⟩, hc⟩
set_option maxRecDepth 100000 in
theorem Pair_l {w : World} {W : Wk} {pa fa : Option Addr} {pc fc : Nat} {n : Int} {H S : List Int} {aH aS : Option Addr} {cH cS : Nat} (hp : CellsS w pa W.pats) (hf : Cells w fa (fitsV W.fits)) (hS : Small W) (hh : Cells w aH (ints H)) (hs : Cells w aS (ints S)) (lH : H.length ≤ 1000) (lS : S.length ≤ 1000)
    (hl : boxE W n H S = 0 → H.length ≤ 200 ∧ S.length ≤ 200) :
    Calls Try.prog 30 #[W.v pa pc fa fc, I n, .slice aH H.length cH, .slice aS S.length cS] w fun e w' => ∃ a c, e = .returned (.tuple #[.slice a (pairM W n H S).length c, I (boxE W n H S)]) ∧ Below w.heap.size w w' ∧ Lies [] w.heap.size w'.heap.size w' a (pairsV (pairM W n H S)) := by
  refine vc30 _ _ _ _ _ _ _ _ _ _ _ _ _ w _ fun m1 g1 w1 hb1 hk1 => ?_
  refine (newBox_l (hp.keep hb1) (hf.keep hb1) hS (hh.keep hb1) (hs.keep hb1) lH lS (n := n)).mono fun e1 w2 he => ?_
  obtain ⟨a, rfl, hb2, hE, hO⟩ := he
  refine ⟨_, _, rfl, .all hb2, fun h1 w3 hb3 _ => ?_, fun h1 w4 hb4 hk4 => ?_⟩
  · have : pairM W n H S = [] := if_neg h1
    rw [this]
    exact ⟨none, 0, rfl, hb3, fun i v hi => by simp [pairsV] at hi⟩
  obtain ⟨mb, mg, mt, rfl, ⟨q1, q2, q3⟩, BX⟩ := hO h1
  obtain ⟨_, hn, _, zH, zS⟩ := boxE_ok h1
  obtain ⟨l1, l2⟩ := hl h1
  have hM : pairM W n H S = pairsL (pairK (fitOf W n) H S) S.length := if_pos h1
  have o1 := hk1.own m1 (by simp)
  have c4 := Chg.kept hk4
  have nm : ∀ x, w1.heap.size ≤ x → x ∉ [m1] := fun x hx => by simp only [List.mem_singleton]; omega
  have BX4 : BoxIs w4 mb (fitOf W n) H S aH cH aS cS mg mt [] := ⟨cells_ne BX.cells c4 (nm _ q1), hh.keep hb4, hs.keep hb4, BX.g.chg c4 (nm _ q2), BX.t.chg c4 (nm _ q3), BX.ne⟩
  refine (pair_l BX4 zH zS l1 l2).mono fun e2 w5 he => ?_
  obtain ⟨rfl, c5, BX5⟩ := he
  have z1 := hb1.size
  have z4 := hb4.size
  have z5 := c5.size
  have lg := BX5.g.lt
  have lb := cell_lt (BX5.at (i := 8) rfl)
  refine ⟨rfl, c5.own (fun x hx => ⟨hk4.own x hx, fun h => ?_⟩) (by simp) (fun _ => ⟨hb4.size, fun x hx => ?_⟩), ?_⟩
  · simp only [List.mem_cons, List.not_mem_nil, or_false] at hx h; omega
  · simp only [List.mem_cons, List.not_mem_nil, or_false] at hx; omega
  generalize hps : pairK (fitOf W n) H S = ps at *
  refine ⟨fun ls w' => match ls with | [.sl a k c, .int _ ii] => (0 ≤ ii ∧ ii ≤ S.length) ∧ k = (pairsL ps ii.toNat).length ∧ RowE 68 2 w5.heap.size [m1] a k c (pairsV (pairsL ps ii.toNat)) w' ∧ LowK w5.heap.size [m1] w5 w' ∧ w5.heap.size ≤ w'.heap.size | _ => False, fun ls => match ls with | [_, .int _ ii] => (S.length - ii).toNat | _ => 0, fun w7 hb7 hk7 => ?_, ?_⟩
  · exact ⟨⟨by omega, by omega⟩, rfl, .inr Row.nil, (Chg.kept hk7).low (Nat.le_refl _), hk7.size⟩
  rintro a2 m4 m5 x2 w8 hb8 ⟨⟨x0, xl⟩, rfl, RR, lk, z8⟩
  have hpl := pairsL_len ps x2.toNat
  refine ⟨fun hlt => ?_, fun hge w15 hb15 hk15 => ?_⟩
  · have hcell : w8.cell? ⟨mb, 0 + 8, none⟩ = some (.map (some mg)) := by
      have := BX5.at (i := 8) (v := .map (some mg)) rfl
      rw [Nat.zero_add]
      unfold World.cell? at this ⊢
      simp only [lk mb lb (nm _ q1)]; exact this
    refine ⟨mb, 0, rfl, trivial, mg, hcell, .inr (by omega), fun w9 hb9 hk9 => ?_⟩
    have G9 : MapC w9 mg I (getsV ps) := by
      obtain ⟨es, clock, h1, h2, h3⟩ := BX5.g
      exact ⟨es, clock, by rw [hk9.block mg (by omega) (nm _ q2), lk mg lg (nm _ q2)]; exact h1, h2, h3⟩
    refine lookup_ok keyI (P := Try.prog) (mt := 129) (vt := 3) (by kernel_rfl) G9 x2 (z := I 0) (by kernel_rfl) ?_
    rw [gets_look]
    have z9 := hk9.size
    refine ⟨((ps.lookup x2).getD 0), (ps.lookup x2).isSome, by cases ps.lookup x2 <;> rfl, .all (.refl _ _), fun ht m10 g10 w11 hb11 hk11 hc11 => ?_, fun ht => ⟨⟨by omega, by omega⟩, fun w14 hb14 hk14 => ⟨?_, by simp only; omega⟩⟩⟩
    · obtain ⟨h, hh⟩ := Option.isSome_iff_exists.1 ht
      rw [hh] at hc11
      have R9 := RR.chg (Chg.kept hk9) (fun _ h => h)
      have R11 := (R9.grow (ms := [m10]) (allc g10 all0)).chg (Chg.kept hk11) (fun _ h => h)
      have z11 := hk11.size
      refine append_rowE (P := Try.prog) (bytes := 16) (by kernel_rfl) (by omega) R11 (m := 1) (news := [I x2, I h]) (Cells.obj (vs := [I x2, I h]) hc11) rfl (List.forall_mem_cons.2 ⟨rfl, List.forall_mem_cons.2 ⟨rfl, by simp⟩⟩) (by omega) (by omega) (by omega) hk11.own (by omega) fun a3 c3 w12 R12 S12 cS12 hS12 => ?_
      refine ⟨_, _, _, rfl, cS12.own (fun x hx => ⟨hk11.own x hx, fun h => (hS12 x h).2 hx⟩) (by simp) (fun _ => ⟨hb11.size, fun x hx => by have := (hS12 x hx).1; omega⟩), ⟨by omega, by omega⟩, fun w13 hb13 hk13 => ⟨?_, by simp only; omega⟩⟩
      have e1 : pairsL ps (x2 + 1).toNat = pairsL ps x2.toNat ++ [(x2, h)] := by
        rw [show (x2 + 1).toNat = x2.toNat + 1 by omega, pairsL_succ, Int.toNat_of_nonneg x0, hh]
      have R13 := R12.chg (Chg.kept hk13) (fun _ h => h)
      have z12 := cS12.size
      have z13 := hk13.size
      simp only [e1]
      refine ⟨⟨by omega, by omega⟩, by simp, ?_, fun k hk hn => ?_, by omega⟩
      · have : pairsV (pairsL ps x2.toNat ++ [(x2, h)]) = pairsV (pairsL ps x2.toNat) ++ [I x2, I h] := by simp [pairsV]
        rw [this]
        exact .inr (R13.less (by simp))
      · simp only [List.mem_singleton] at hn
        have k10 : k ≠ m10 := by omega
        rw [hk13.block k (by omega) (by simp; exact ⟨k10, hn⟩), cS12.keep k (by omega) (fun h => by have := (hS12 k h).1; omega), hk11.block k (by omega) (by simp; exact ⟨k10, hn⟩), hk9.block k (by omega) (by simpa using hn)]
        exact lk k hk (by simpa using hn)
    · have e1 : pairsL ps (x2 + 1).toNat = pairsL ps x2.toNat := by
        rw [show (x2 + 1).toNat = x2.toNat + 1 by omega, pairsL_succ, Int.toNat_of_nonneg x0]
        cases h : ps.lookup x2 with
        | none => simp
        | some v => rw [h] at ht; cases ht
      have z14 := hk14.size
      simp only [e1]
      refine ⟨⟨by omega, by omega⟩, trivial, (RR.chg (Chg.kept hk9) (fun _ h => h)).chg (Chg.kept hk14) (fun _ h => h), fun k hk hn => ?_, by omega⟩
      rw [hk14.block k (by omega) hn, hk9.block k (by omega) hn]
      exact lk k hk hn
  · have e : x2.toNat = S.length := by omega
    rw [e] at RR
    rw [hM, h1]
    have R15 := RR.chg (Chg.kept hk15) (fun _ h => h)
    exact ⟨_, _, by rw [e], hb15, rowE_lies R15 (by omega)⟩
end Go.Proofs.R12
end
section
/- The conditions of the functions, printed by program; each is what the generator reckons (kernel_rfl). -/
namespace Go.Proofs
open Go.Vc
set_option maxRecDepth 100000 in
set_option maxHeartbeats 2000000 in
theorem vc64 (bb : Nat) (bo : Nat) (w : World) (R : Ending → World → Prop) (h : ∀ (w1 : World), RowKit.Below w.heap.size w w1 → Kept [] w w1 → RunsTo Try.prog (Instr.makeMap 87
    none) w1 fun (v1 : Value) (w2 : World) => ∃ (m1 : Nat), v1 = Value.map (some m1) ∧ KeepX true w.heap.size [] (fun _ => False) w1 w2 ∧ ∀ (w3 : World), RowKit.Below w.heap.size w
    w3 → Kept [] w2 w3 → RunsTo Try.prog (Instr.makeMap 87 none) w3 fun (v2 : Value) (w4 : World) => ∃ (m3 : Nat), v2 = Value.map (some m3) ∧ KeepX true w.heap.size [] (fun _ =>
    False) w3 w4 ∧ ∃ (a1 : Option Addr), ∃ (m5 : Nat), ∃ (m6 : Nat), w4.cell? { block := bb, off := bo + 7 } = some (Value.slice a1 m5 m6) ∧ ∃ (F1 : Nat → List Lf → World → Prop),
    (∀ (w6 : World), RowKit.Below w.heap.size w w6 → Kept [] w4 w6 → ∃ (m8 : Nat), F1 m8 [Lf.sl none 0 0, Lf.int IntKind.i64 0] w6) ∧ ∀ (m9 : Nat) (a2 : Option Addr) (m10 m11 :
    Nat) (x1 : Int) (w7 : World), RowKit.Below w.heap.size w w7 → F1 m9 [Lf.sl a2 m10 m11, Lf.int IntKind.i64 x1] w7 → (x1 < (↑m5 : Int) → ∃ (m12 : Nat), w7.cell?
    { block := bb, off := bo + 8 } = some (Value.map (some m12)) ∧ ∀ (w8 : World), RowKit.Below w.heap.size w w8 → Kept [] w7 w8 → RunsTo Try.prog (Instr.lookup 129 (Value.map
    (some m12)) (Value.int IntKind.i64 x1) true) w8 fun (v3 : Value) (w9 : World) => ∃ (x2 : Int), ∃ (t1 : Bool), v3 = Value.tuple #[Value.int IntKind.i64 x2, Value.bool t1] ∧
    KeepX true w.heap.size [] (fun _ => False) w8 w9 ∧ ((!t1) = true → ∀ (m14 : Nat), w9.heap.size ≤ m14 → ∀ (w10 : World), RowKit.Below w.heap.size w w10 → Kept [m14] w9 w10 →
    w10.heap[m14]? = some (Obj.cells #[Value.int IntKind.i64 x1] 3) → RunsTo Try.prog (Builtin.append_ #[38, 38] 38 #[Value.slice a2 m10 m11, Value.slice (some
    { block := m14, off := 0 }) 1 1]) w10 fun (v4 : Value) (w11 : World) => ∃ (a3 : Option Addr), ∃ (m16 : Nat), ∃ (m17 : Nat), v4 = Value.slice a3 m16 m17 ∧ KeepX true w.heap.size
    [m14] (fun _ => False) w10 w11 ∧ (-9223372036854775808 ≤ x1 + 1 ∧ x1 + (1 : Int) ≤ 9223372036854775807) ∧ ∀ (w12 : World), RowKit.Below w.heap.size w w12 → Kept [m14] w11 w12 →
    ∃ (m19 : Nat), m19 < m9 ∧ F1 m19 [Lf.sl a3 m16 m17, Lf.int IntKind.i64 (x1 + 1)] w12) ∧ ((!t1) = false → (-9223372036854775808 ≤ x1 + 1 ∧ x1 + (1 : Int) ≤ 9223372036854775807)
    ∧ ∀ (w13 : World), RowKit.Below w.heap.size w w13 → Kept [] w9 w13 → ∃ (m20 : Nat), m20 < m9 ∧ F1 m20 [Lf.sl a2 m10 m11, Lf.int IntKind.i64 (x1 + 1)] w13)) ∧ ((↑m5 : Int) ≤ x1
    → ∃ (F2 : Nat → List Lf → World → Prop), (∀ (w15 : World), RowKit.Below w.heap.size w w15 → Kept [] w7 w15 → ∃ (m22 : Nat), F2 m22 [Lf.sl a2 m10 m11] w15) ∧ ∀ (m23 : Nat) (a4 :
    Option Addr) (m24 m25 : Nat) (w16 : World), RowKit.Below w.heap.size w w16 → F2 m23 [Lf.sl a4 m24 m25] w16 → (0 < (↑m24 : Int) → ∃ (m26 : Nat), ∃ (m27 : Nat), a4 = some
    { block := m26, off := m27 } ∧ ((0 : Int) ≤ 0 ∧ 0 < (↑m24 : Int)) ∧ ∃ (x3 : Int), w16.cell? { block := m26, off := m27 + Int.toNat 0 * 1 } = some (Value.int IntKind.i64 x3) ∧
    ((0 : Int) ≤ 1 ∧ 1 ≤ (↑m24 : Int)) ∧ ∀ (w17 : World), RowKit.Below w.heap.size w w17 → Kept [] w16 w17 → RunsTo Try.prog ((Instr.mapUpdate 87 (Value.map (some m1)) (Value.int
    IntKind.i64 x3) (Value.bool true)) >>= fun _ => pure (Value.tuple #[])) w17 fun (v5 : Value) (w18 : World) => KeepX true w.heap.size [] (fun _ => False) w17 w18 ∧ ∃ (a5 :
    Option Addr), ∃ (m29 : Nat), ∃ (m30 : Nat), w18.cell? { block := bb, off := bo + 6 } = some (Value.slice a5 m29 m30) ∧ ∃ (F3 : Nat → List Lf → World → Prop), (∀ (w20 : World),
    RowKit.Below w.heap.size w w20 → Kept [] w18 w20 → ∃ (m32 : Nat), F3 m32 [Lf.sl (subA a4 m25 (Int.toNat 1) 1) (m24 - Int.toNat 1) (m25 - Int.toNat 1), Lf.int IntKind.i64 0]
    w20) ∧ ∀ (m33 : Nat) (a6 : Option Addr) (m34 m35 : Nat) (x4 : Int) (w21 : World), RowKit.Below w.heap.size w w21 → F3 m33 [Lf.sl a6 m34 m35, Lf.int IntKind.i64 x4] w21 → (x4 <
    (↑m29 : Int) → ∃ (m36 : Nat), ∃ (m37 : Nat), a5 = some { block := m36, off := m37 } ∧ (0 ≤ x4 ∧ x4 < (↑m29 : Int)) ∧ ∃ (x5 : Int), w21.cell?
    { block := m36, off := m37 + x4.toNat * 1 } = some (Value.int IntKind.i64 x5) ∧ ∃ (F4 : List Lf → World → Prop), (∀ (w23 : World), RowKit.Below w.heap.size w w23 → KeptIn [(0,
    w21.heap.size)] [] w21 w23 → RunsTo Try.prog (Instr.lookup 87 (Value.map (some m3)) (Value.int IntKind.i64 x4) false) w23 fun (v6 : Value) (w24 : World) => ∃ (t2 : Bool), v6 =
    Value.bool t2 ∧ KeepX true w.heap.size [] (fun _ => False) w23 w24 ∧ (t2 = true → ∀ (w25 : World), RowKit.Below w.heap.size w w25 → Kept [] w24 w25 → F4 [Lf.bool true] w25) ∧
    (t2 = false → ∃ (x6 : Int), ∃ (x7 : Int), ∃ (x8 : Int), ∃ (x9 : Int), ∃ (x10 : Int), ∃ (x11 : Int), w24.cell? { block := bb, off := bo + 0 } = some (Value.int IntKind.i64 x6) ∧
    w24.cell? { block := bb, off := bo + 0 + 1 } = some (Value.int IntKind.i64 x7) ∧ w24.cell? { block := bb, off := bo + 0 + 1 + 1 } = some (Value.int IntKind.i64 x8) ∧ w24.cell?
    { block := bb, off := bo + 0 + 1 + 1 + 1 } = some (Value.int IntKind.i64 x9) ∧ w24.cell? { block := bb, off := bo + 0 + 1 + 1 + 1 + 1 } = some (Value.int IntKind.i64 x10) ∧
    w24.cell? { block := bb, off := bo + 0 + 1 + 1 + 1 + 1 + 1 } = some (Value.int IntKind.i64 x11) ∧ ∃ (a7 : Option Addr), ∃ (m39 : Nat), ∃ (m40 : Nat), w24.cell?
    { block := bb, off := bo + 7 } = some (Value.slice a7 m39 m40) ∧ ∃ (m41 : Nat), ∃ (m42 : Nat), a7 = some { block := m41, off := m42 } ∧ (0 ≤ x3 ∧ x3 < (↑m39 : Int)) ∧ ∃ (x12 :
    Int), w24.cell? { block := m41, off := m42 + x3.toNat * 1 } = some (Value.int IntKind.i64 x12) ∧ ∀ (w26 : World), RowKit.Below w.heap.size w w26 → KeptIn [(0, w24.heap.size)]
    [] w24 w26 → Calls Try.prog 83 #[Value.agg #[Value.int IntKind.i64 x6, Value.int IntKind.i64 x7, Value.int IntKind.i64 x8, Value.int IntKind.i64 x9, Value.int IntKind.i64 x10,
    Value.int IntKind.i64 x11], Value.int IntKind.i64 x5, Value.int IntKind.i64 x12] w26 fun (e1 : Ending) (w27 : World) => ∃ (t3 : Bool), e1 = Ending.returned (Value.bool t3) ∧
    KeepX true w.heap.size [] (fun _ => False) w26 w27 ∧ ∀ (w28 : World), RowKit.Below w.heap.size w w28 → Kept [] w27 w28 → F4 [Lf.bool !t3] w28)) ∧ ∀ (t4 : Bool) (w29 : World),
    RowKit.Below w.heap.size w w29 → F4 [Lf.bool t4] w29 → (t4 = true → (-9223372036854775808 ≤ x4 + 1 ∧ x4 + (1 : Int) ≤ 9223372036854775807) ∧ ∀ (w30 : World), RowKit.Below
    w.heap.size w w30 → Kept [] w29 w30 → ∃ (m44 : Nat), m44 < m33 ∧ F3 m44 [Lf.sl a6 m34 m35, Lf.int IntKind.i64 (x4 + 1)] w30) ∧ (t4 = false → ∀ (w31 : World), RowKit.Below
    w.heap.size w w31 → Kept [] w29 w31 → RunsTo Try.prog ((Instr.mapUpdate 87 (Value.map (some m3)) (Value.int IntKind.i64 x4) (Value.bool true)) >>= fun _ => pure (Value.tuple
    #[])) w31 fun (v7 : Value) (w32 : World) => KeepX true w.heap.size [] (fun _ => False) w31 w32 ∧ ∃ (m46 : Nat), w32.cell? { block := bb, off := bo + 9 } = some (Value.map (some
    m46)) ∧ ∀ (w33 : World), RowKit.Below w.heap.size w w33 → Kept [] w32 w33 → RunsTo Try.prog (Instr.lookup 129 (Value.map (some m46)) (Value.int IntKind.i64 x4) true) w33 fun
    (v8 : Value) (w34 : World) => ∃ (x13 : Int), ∃ (t5 : Bool), v8 = Value.tuple #[Value.int IntKind.i64 x13, Value.bool t5] ∧ KeepX true w.heap.size [] (fun _ => False) w33 w34 ∧
    (t5 = true → ∀ (m48 : Nat), w34.heap.size ≤ m48 → ∀ (w35 : World), RowKit.Below w.heap.size w w35 → Kept [m48] w34 w35 → w35.heap[m48]? = some (Obj.cells #[Value.int
    IntKind.i64 x13] 3) → RunsTo Try.prog (Builtin.append_ #[38, 38] 38 #[Value.slice a6 m34 m35, Value.slice (some { block := m48, off := 0 }) 1 1]) w35 fun (v9 : Value) (w36 :
    World) => ∃ (a8 : Option Addr), ∃ (m50 : Nat), ∃ (m51 : Nat), v9 = Value.slice a8 m50 m51 ∧ KeepX true w.heap.size [m48] (fun _ => False) w35 w36 ∧ (-9223372036854775808 ≤ x4 +
    1 ∧ x4 + (1 : Int) ≤ 9223372036854775807) ∧ ∀ (w37 : World), RowKit.Below w.heap.size w w37 → Kept [m48] w36 w37 → ∃ (m53 : Nat), m53 < m33 ∧ F3 m53 [Lf.sl a8 m50 m51, Lf.int
    IntKind.i64 (x4 + 1)] w37) ∧ (t5 = false → (-9223372036854775808 ≤ x4 + 1 ∧ x4 + (1 : Int) ≤ 9223372036854775807) ∧ ∀ (w38 : World), RowKit.Below w.heap.size w w38 → Kept []
    w34 w38 → ∃ (m54 : Nat), m54 < m33 ∧ F3 m54 [Lf.sl a6 m34 m35, Lf.int IntKind.i64 (x4 + 1)] w38))) ∧ ((↑m29 : Int) ≤ x4 → ∀ (w39 : World), RowKit.Below w.heap.size w w39 → Kept
    [] w21 w39 → ∃ (m55 : Nat), m55 < m23 ∧ F2 m55 [Lf.sl a6 m34 m35] w39)) ∧ ((↑m24 : Int) ≤ 0 → ∀ (w40 : World), RowKit.Below w.heap.size w w40 → Kept [] w16 w40 → R
    (Ending.returned (Value.tuple #[Value.map (some m1), Value.map (some m3)])) w40))) : Calls Try.prog 64 #[Value.pointer (some { block := bb, off := bo })] w R := calls_of_vcj
    (pure := true) (wrapAt := []) (muts := []) (esc := []) (joins := [(2000017, [(77, 4)]), (4000000, [])]) (args := [SV.pv (PV.one (Lf.ptr bb bo))]) (vs := [Value.pointer (some
    { block := bb, off := bo })]) Try.func64 rfl rfl rfl (Eq.mp (by kernel_rfl) h) 
set_option maxRecDepth 100000 in
set_option maxHeartbeats 2000000 in
theorem vc65 (p0set : Nat) (w : World) (R : Ending → World → Prop) (h : ∀ (w1 : World), RowKit.Below w.heap.size w w1 → Kept [] w w1 → RunsTo Try.prog (Instr.range 87 (Value.map
    (some p0set))) w1 fun (v1 : Value) (w2 : World) => ∃ (v2 : Value), v1 = v2 ∧ KeepX true w.heap.size [] (fun _ => False) w1 w2 ∧ ∃ (F1 : Nat → List Lf → World → Prop), (∀ (w4 :
    World), RowKit.Below w.heap.size w w4 → Kept [] w2 w4 → ∃ (m3 : Nat), F1 m3 [Lf.sl none 0 0] w4) ∧ ∀ (m4 : Nat) (a1 : Option Addr) (m5 m6 : Nat) (w5 : World), RowKit.Below
    w.heap.size w w5 → F1 m4 [Lf.sl a1 m5 m6] w5 → ∀ (w6 : World), RowKit.Below w.heap.size w w6 → Kept [] w5 w6 → RunsTo Try.prog (Instr.next v2 false 0) w6 fun (v3 : Value) (w7 :
    World) => (∃ (v4 : Value), ∃ (v5 : Value), v3 = Value.tuple #[Value.bool true, v4, v5] ∧ KeepX true w.heap.size [] (fun _ => False) w6 w7 ∧ ∀ (w8 : World), RowKit.Below
    w.heap.size w w8 → Kept [] w7 w8 → RunsTo Try.prog (Instr.entry v2) w8 fun (v6 : Value) (w9 : World) => ∃ (x1 : Int), ∃ (t1 : Bool), v6 = Value.tuple #[Value.int IntKind.i64
    x1, Value.bool t1] ∧ KeepX true w.heap.size [] (fun _ => False) w8 w9 ∧ ∀ (m9 : Nat), w9.heap.size ≤ m9 → ∀ (w10 : World), RowKit.Below w.heap.size w w10 → Kept [m9] w9 w10 →
    w10.heap[m9]? = some (Obj.cells #[Value.int IntKind.i64 x1] 3) → RunsTo Try.prog (Builtin.append_ #[38, 38] 38 #[Value.slice a1 m5 m6, Value.slice (some
    { block := m9, off := 0 }) 1 1]) w10 fun (v7 : Value) (w11 : World) => ∃ (a2 : Option Addr), ∃ (m11 : Nat), ∃ (m12 : Nat), v7 = Value.slice a2 m11 m12 ∧ KeepX true w.heap.size
    [m9] (fun _ => False) w10 w11 ∧ ∀ (w12 : World), RowKit.Below w.heap.size w w12 → Kept [m9] w11 w12 → ∃ (m14 : Nat), m14 < m4 ∧ F1 m14 [Lf.sl a2 m11 m12] w12) ∨ v3 =
    Value.tuple #[Value.bool false] ∧ KeepX true w.heap.size [] (fun _ => False) w6 w7 ∧ ∀ (w13 : World), RowKit.Below w.heap.size w w13 → Kept [] w7 w13 → Calls Try.prog 85
    #[Value.slice a1 m5 m6] w13 fun (e1 : Ending) (w14 : World) => e1 = Ending.returned (Value.tuple #[]) ∧ KeepX true w.heap.size [] (fun _ => False) w13 w14 ∧ ∀ (w15 : World),
    RowKit.Below w.heap.size w w15 → Kept [] w14 w15 → R (Ending.returned (Value.slice a1 m5 m6)) w15) : Calls Try.prog 65 #[Value.map (some p0set)] w R := calls_of_vc (pure :=
    true) (wrapAt := []) (muts := []) (esc := [9000030004]) (args := [SV.pv (PV.one (Lf.map p0set))]) (vs := [Value.map (some p0set)]) Try.func65 rfl rfl rfl (Eq.mp (by kernel_rfl)
    h) 
end Go.Proofs
end
section
/- The library's sort of integers; a set, sorted. -/
namespace Go.Proofs
open Go.Shelf
def R12.sort85_ren : Go.Shelf.Ren := ⟨fun | 5 => 85 | 8 => 94 | 7 => 93 | 19 => 109 | 20 => 110 | 10 => 100 | 11 => 101 | 12 => 102 | 13 => 103 | 14 => 104 | 15 => 105 | 16 => 106 | 17 => 107 | 18 => 108 | 30 => 113 | 31 => 114 | 32 => 115 | 33 => 116 | 34 => 117 | 35 => 99 | 40 => 119 | n => n, fun | 23 => 38 | 25 => 3 | 3 => 3 | 32 => 102 | 22 => 38 | 0 => 0 | 44 => 176 | 46 => 178 | 4 => 4 | 36 => 170 | 35 => 169 | 41 => 128 | 5 => 5 | 9 => 9 | 53 => 181 | 57 => 185 | 63 => 187 | 64 => 188 | n => n, fun | n => n⟩
theorem R12.sort85 : Go.Proofs.SlLaysM.n5 Try.prog R12.sort85_ren := {
  mixed := by kernel_rfl
  f5 := ⟨Try.f85.name, by decide, Try.func85.trans (congrArg some (by kernel_rfl))⟩
  f7 := ⟨Try.f93.name, by decide, Try.func93.trans (congrArg some (by kernel_rfl))⟩
  f8 := Try.func94.trans (congrArg some (by kernel_rfl))
  f10 := ⟨Try.f100.name, by decide, Try.func100.trans (congrArg some (by kernel_rfl))⟩
  f11 := ⟨Try.f101.name, by decide, Try.func101.trans (congrArg some (by kernel_rfl))⟩
  f12 := ⟨Try.f102.name, by decide, Try.func102.trans (congrArg some (by kernel_rfl))⟩
  f13 := ⟨Try.f103.name, by decide, Try.func103.trans (congrArg some (by kernel_rfl))⟩
  f14 := ⟨Try.f104.name, by decide, Try.func104.trans (congrArg some (by kernel_rfl))⟩
  f15 := ⟨Try.f105.name, by decide, Try.func105.trans (congrArg some (by kernel_rfl))⟩
  f16 := ⟨Try.f106.name, by decide, Try.func106.trans (congrArg some (by kernel_rfl))⟩
  f17 := ⟨Try.f107.name, by decide, Try.func107.trans (congrArg some (by kernel_rfl))⟩
  f18 := ⟨Try.f108.name, by decide, Try.func108.trans (congrArg some (by kernel_rfl))⟩
  f19 := Try.func109.trans (congrArg some (by kernel_rfl))
  f20 := Try.func110.trans (congrArg some (by kernel_rfl))
  f30 := ⟨Try.f113.name, by decide, Try.func113.trans (congrArg some (by kernel_rfl))⟩
  f31 := Try.func114.trans (congrArg some (by kernel_rfl))
  f32 := Try.func115.trans (congrArg some (by kernel_rfl))
  f33 := ⟨Try.f116.name, by decide, Try.func116.trans (congrArg some (by kernel_rfl))⟩
  f34 := ⟨Try.f117.name, by decide, Try.func117.trans (congrArg some (by kernel_rfl))⟩
  f35 := ⟨Try.f99.name, by decide, Try.func99.trans (congrArg some (by kernel_rfl))⟩
  f40 := ⟨Try.f119.name, by decide, Try.func119.trans (congrArg some (by kernel_rfl))⟩
  t0 := Try.underlying0
  a0 := Try.isAgg0
  z0 := Try.sizeOf0
  v0 := Try.zeroValue0
  t3 := Try.underlying3
  a3 := Try.isAgg3
  z3 := Try.sizeOf3
  v3 := Try.zeroValue3
  t4 := Try.underlying4
  a4 := Try.isAgg4
  z4 := Try.sizeOf4
  v4 := Try.zeroValue4
  t5 := Try.underlying5
  a5 := Try.isAgg5
  z5 := Try.sizeOf5
  v5 := Try.zeroValue5
  t9 := Try.underlying9
  a9 := Try.isAgg9
  z9 := Try.sizeOf9
  v9 := Try.zeroValue9
  t22 := Try.underlying38
  a22 := Try.isAgg38
  z22 := Try.sizeOf38
  v22 := Try.zeroValue38
  t23 := Try.underlying38
  a23 := Try.isAgg38
  z23 := Try.sizeOf38
  v23 := Try.zeroValue38
  t25 := Try.underlying3
  a25 := Try.isAgg3
  z25 := Try.sizeOf3
  v25 := Try.zeroValue3
  t32 := Try.underlying102
  a32 := Try.isAgg102
  z32 := Try.sizeOf102
  v32 := Try.zeroValue102
  t35 := Try.underlying169
  a35 := Try.isAgg169
  z35 := Try.sizeOf169
  v35 := Try.zeroValue169
  t36 := Try.underlying170
  a36 := Try.isAgg170
  z36 := Try.sizeOf170
  v36 := Try.zeroValue170
  t41 := Try.underlying128
  a41 := Try.isAgg128
  z41 := Try.sizeOf128
  v41 := Try.zeroValue128
  t44 := Try.underlying176
  a44 := Try.isAgg176
  z44 := Try.sizeOf176
  v44 := Try.zeroValue176
  t46 := Try.underlying178
  a46 := Try.isAgg178
  z46 := Try.sizeOf178
  v46 := Try.zeroValue178
  t53 := Try.underlying181
  a53 := Try.isAgg181
  z53 := Try.sizeOf181
  v53 := Try.zeroValue181
  t57 := Try.underlying185
  a57 := Try.isAgg185
  z57 := Try.sizeOf185
  v57 := Try.zeroValue185
  t63 := Try.underlying187
  a63 := Try.isAgg187
  z63 := Try.sizeOf187
  v63 := Try.zeroValue187
  t64 := Try.underlying188
  a64 := Try.isAgg188
  z64 := Try.sizeOf188
  v64 := Try.zeroValue188 }
namespace R12
open Go.Vc Go.RowKit

def srt (l : List Int) : List Int := l.mergeSort fun x y => decide (x ≤ y)
theorem srt_perm (l : List Int) : (srt l).Perm l := List.mergeSort_perm _ _
theorem srt_len (l : List Int) : (srt l).length = l.length := (srt_perm l).length_eq
theorem srt_sorted (l : List Int) : (srt l).Pairwise (· ≤ ·) := by
  have := List.pairwise_mergeSort (le := fun x y : Int => decide (x ≤ y)) (fun a b c h k => by simp only [decide_eq_true_eq] at *; omega) (fun a b => by simp only [Bool.or_eq_true, decide_eq_true_eq]; omega) l
  exact this.imp fun h => of_decide_eq_true h
theorem sort_l {B g n c : Nat} {ns : List Nat} {l : List Int} {w : World} (hR : Row 3 1 B ns (some ⟨g, 0, none⟩) n c (ints l) w) (hn1 : n ≤ 1000) : Calls Try.prog 85 #[.slice (some ⟨g, 0, none⟩) n c] w fun e w' =>
    e = .returned (.tuple #[]) ∧ Chg [g] w w' ∧ Row 3 1 B ns (some ⟨g, 0, none⟩) n c (ints (srt l)) w' := by
  have hl : l.length = n := by have := hR.own.1; simpa [ints] using this
  rcases hR.own.2 with ⟨h0, _⟩ | ⟨g', cap', cur, hv, hg, hb, hn, hcap, hsz, ht⟩
  · cases h0
  cases hv
  have hgl := (Array.getElem?_eq_some_iff.1 hb).1
  have ht' : cur.toList.take l.length = l.map (Value.int .i64) := by rw [hl]; simpa [ints] using ht
  have := AnyM.slices_Sort_int R12.sort85 g 0 c l w (holds_of_blockI hb ht') hgl (by omega)
  rw [hl] at this
  refine this.mono fun e w' he => ?_
  obtain ⟨rfl, k, os, rfl⟩ := he
  refine ⟨rfl, ⟨rfl, rfl, rfl, by simp, fun j hj hne => ?_⟩, ?_, hR.ns⟩
  · rw [Sort.heap_grow_old _ _ (by simpa using hj)]
    have : g ≠ j := fun e => hne (by simp [e])
    simp [Sort.putRow, Sort.mapBlock, Sort.ahead, Array.getElem?_modify, this]
  · have := ownsRow_sortedI (w := w) (base := B) (g := g) (cap := c) (n := k) (e := 3) (os := os) (cur := cur) (ss := l) (ts := srt l) (srt_len l) hg hb (by omega) hcap (by simpa using hsz)
    rw [hl] at this
    exact this
theorem sort_none {p : Option Addr} {c : Nat} {w : World} : Calls Try.prog 85 #[.slice p 0 c] w fun e w' => e = .returned (.tuple #[]) ∧ w' = w := AnyM.slices_Sort_int_none R12.sort85 p c w

theorem nodup_len : ∀ {l k : List Int}, l.Nodup → (∀ x ∈ l, x ∈ k) → l.length ≤ k.length
  | [], _, _, _ => Nat.zero_le _
  | a :: l, k, h, hs => by
    have h' := List.nodup_cons.1 h
    have h1 := nodup_len (l := l) (k := k.erase a) h'.2 (fun x hx => (List.mem_erase_of_ne (fun e => h'.1 (by rw [← e]; exact hx))).2 (hs x (List.mem_cons_of_mem _ hx)))
    rw [List.length_erase_of_mem (hs a List.mem_cons_self)] at h1
    have := List.length_pos_of_mem (hs a List.mem_cons_self)
    simp only [List.length_cons]; omega
def setV (ks : List Int) : List (Int × Value) := ks.map fun k => (k, .bool true)
set_option maxRecDepth 100000 in
theorem sorted_l {w : World} {tm : Nat} {ks : List Int} (hm : MapC w tm I (setV ks)) (hnd : ks.Nodup) (hl : ks.length ≤ 1000) : Calls Try.prog 65 #[.map (some tm)] w fun e w' => ∃ a c, e = .returned (.slice a ks.length c) ∧ Below w.heap.size w w' ∧ Lies [] w.heap.size w'.heap.size w' a (ints (srt ks)) := by
  refine vc65 _ w _ fun w1 hb1 hk1 => ?_
  obtain ⟨es, clock, MB⟩ := (hm.below hb1).toB
  have hnk : ((setV ks).map (·.1)).Nodup := by
    have : (setV ks).map (·.1) = ks := by simp [setV, Function.comp_def]
    rw [this]; exact hnd
  have z1 := hb1.size
  have lt := hm.lt
  refine range_map (t := 87) (kt := 3) (vt := 4) (by kernel_rfl) MB fun w2 hb2 I2 => ⟨_, rfl, .all hb2, fun n ls w' => match ls with | [.sl a k c] => ∃ seen sn, n + seen.length = ks.length ∧ seen.Nodup ∧ (∀ x ∈ seen, x ∈ ks) ∧ k = seen.length ∧ RowE 3 1 w2.heap.size [] a k c (ints seen.reverse) w' ∧ IterB w' w1.heap.size tm I (setV ks) seen es clock sn ∧ w2.heap.size ≤ w'.heap.size | _ => False, fun w4 hb4 hk4 => ⟨ks.length, [], #[], rfl, List.nodup_nil, by simp, rfl, .inr Row.nil, I2.chg (Chg.kept hk4) (by simp) (by simp), hk4.size⟩, ?_⟩
  have li := I2.lt
  rintro n a1 m5 m6 w5 hb5 ⟨seen, sn, hn, sd, sk, rfl, RR, II, z5⟩ w6 hb6 hk6
  have z56 := hk6.size
  have R6 := RR.chg (Chg.kept hk6) (fun _ h => h)
  have I6 := II.chg (Chg.kept hk6) (by simp) (by simp)
  have z6 := hb6.size
  have l6 := I6.lt
  refine next_map I6 hnk (fun k v w7 sn' hmem hns c7 E7 => .inl ?_) (fun hall => .inr ?_)
  · obtain ⟨k', hk', he⟩ := List.mem_map.1 hmem
    simp only [Prod.mk.injEq] at he
    obtain ⟨rfl, rfl⟩ := he
    refine ⟨_, _, rfl, c7.own (by simp) (by simp) (fun _ => ⟨z6, fun x hx => by simp only [List.mem_singleton] at hx; omega⟩), fun w8 hb8 hk8 => entry_map (k := k') (v := .bool true) (enc := I) ⟨E7.iter.chg (Chg.kept hk8) (by simp) (by simp), E7.last⟩ ?_⟩
    refine ⟨k', true, rfl, .all (.refl _ _), fun m9 g9 w10 hb10 hk10 hc10 => ?_⟩
    have R7 : RowE 3 1 w2.heap.size [] a1 seen.length m6 (ints seen.reverse) w7 := R6.imp id fun R => R.chgOld c7 fun x hx => by simp only [List.mem_singleton] at hx; omega
    have I8 := E7.iter.chg (Chg.kept hk8) (by simp) (by simp)
    have R8 := R7.chg (Chg.kept hk8) (fun _ h => h)
    have I10 := I8.chg (Chg.kept hk10) (by simp; have := I8.map.lt; omega) (by simp; have := I8.lt; omega)
    have R10 := (R8.grow (ms := [m9]) (allc g9 all0)).chg (Chg.kept hk10) (fun _ h => h)
    have z7 := c7.size
    have z2 := hb2.size
    have z8 := hk8.size
    have z10 := hk10.size
    have hlen : (k' :: seen).length ≤ ks.length := nodup_len (List.nodup_cons.2 ⟨hns, sd⟩) (fun x hx => by
      rcases List.mem_cons.1 hx with rfl | hx
      · exact hk'
      · exact sk x hx)
    simp only [List.length_cons] at hlen
    refine append_rowE (P := Try.prog) (bytes := 8) (by kernel_rfl) (by omega) R10 (m := 1) (news := [I k']) (Cells.obj (vs := [I k']) hc10) rfl (List.forall_mem_cons.2 ⟨rfl, by simp⟩) (by omega) (by omega) (by omega) hk10.own (by omega) fun a2 c2 w11 R11 S11 cS11 hS11 => ?_
    refine ⟨_, _, _, rfl, cS11.own (fun x hx => ⟨hk10.own x hx, fun h => (hS11 x h).2 hx⟩) (by simp) (fun _ => ⟨hb10.size, fun x hx => by have := (hS11 x hx).1; omega⟩), fun w12 hb12 hk12 => ⟨n - 1, by omega, k' :: seen, sn', by simp only [List.length_cons]; omega, List.nodup_cons.2 ⟨hns, sd⟩, fun x hx => ?_, by simp, ?_, ?_, by have := cS11.size; have := hk12.size; omega⟩⟩
    · rcases List.mem_cons.1 hx with rfl | hx
      · exact hk'
      · exact sk x hx
    · have : ints (k' :: seen).reverse = ints seen.reverse ++ [I k'] := by simp [ints]
      rw [this]
      exact .inr ((R11.chg (Chg.kept hk12) (fun _ h => h)).less (by simp))
    · have z2 := hb2.size
      refine (I10.chg cS11 (fun h => ?_) (fun h => ?_)).chg (Chg.kept hk12) ?_ ?_
      · have := (hS11 _ h).1; omega
      · have := (hS11 _ h).1; omega
      · simp only [List.mem_singleton]; omega
      · simp only [List.mem_singleton]; omega
  · refine ⟨rfl, .all (.refl _ _), fun w13 hb13 hk13 => ?_⟩
    have hp : seen.reverse.Perm ks := (List.reverse_perm _).trans ((List.perm_ext_iff_of_nodup sd hnd).2 fun x => ⟨sk x, fun hx => hall (x, .bool true) (List.mem_map.2 ⟨x, hx, rfl⟩)⟩)
    have hlen : seen.length = ks.length := by rw [← List.length_reverse]; exact hp.length_eq
    have hs : srt seen.reverse = srt ks := List.Perm.eq_of_pairwise (fun a b _ _ h k => by omega) (srt_sorted _) (srt_sorted _) ((srt_perm _).trans (hp.trans (srt_perm _).symm))
    have R13 := R6.chg (Chg.kept hk13) (fun _ h => h)
    by_cases h0 : seen.length = 0
    · have : ks = [] := List.length_eq_zero_iff.1 (by omega)
      subst this
      have : seen = [] := List.length_eq_zero_iff.1 h0
      subst this
      refine sort_none.mono fun e w14 he => ?_
      obtain ⟨rfl, rfl⟩ := he
      exact ⟨rfl, .all (.refl _ _), fun w15 hb15 hk15 => ⟨_, _, rfl, hb15, fun i v hi => by simp [srt, ints] at hi⟩⟩
    · rcases R13 with ⟨_, hz, _⟩ | R13
      · exact absurd hz h0
      obtain ⟨g, rfl, R13⟩ := (RowZ.at (.inr R13) h0 : _)
      have hg := R13.lt g 0 rfl
      refine (sort_l R13 (by omega)).mono fun e w14 he => ?_
      obtain ⟨rfl, c14, R14⟩ := he
      have z2 := hb2.size
      refine ⟨rfl, c14.own (by simp) (by simp) (fun _ => ⟨hb13.size, fun x hx => by simp only [List.mem_singleton] at hx; omega⟩), fun w15 hb15 hk15 => ?_⟩
      have R15 := R14.chg (Chg.kept hk15) (fun _ h => h)
      rw [hs] at R15
      exact ⟨_, _, by rw [hlen], hb15, rowE_lies (.inr R15) (by omega)⟩
end R12
end Go.Proofs
end
