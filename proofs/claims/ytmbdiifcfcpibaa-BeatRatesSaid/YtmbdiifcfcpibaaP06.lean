/- Part 6: own lemmas, and the conditions of the functions. -/
import Derived.Test.YtmbdiifcfcpibaaProg
import Derived.Test.YtmbdiifcfcpibaaP05
section
/- Plain: what is known is never narrower than what is true; ends are reached. -/
namespace Go.Proofs.R03
open Go.Vc Go.RowKit Go.Proofs

/-- A span within another one. -/
def Sub (s t : Sp) : Prop := t.1 ≤ s.1 ∧ s.1 ≤ s.2 ∧ s.2 ≤ t.2
def pick : Bool → Sp → Int
  | true, s => s.1
  | false, s => s.2
theorem pick_or (b : Bool) (s : Sp) : pick b s = s.1 ∨ pick b s = s.2 := by cases b <;> simp [pick]
theorem lin_bd {a b x y : Int} (h : a ≤ x ∧ x ≤ b) : min (a * y) (b * y) ≤ x * y ∧ x * y ≤ max (a * y) (b * y) := by
  rcases Int.le_total 0 y with hy | hy
  · have h1 := Int.mul_le_mul_of_nonneg_right h.1 hy
    have h2 := Int.mul_le_mul_of_nonneg_right h.2 hy
    omega
  · have h1 := Int.mul_le_mul_of_nonpos_right h.1 hy
    have h2 := Int.mul_le_mul_of_nonpos_right h.2 hy
    omega
theorem by_mem {s t : Sp} {x y : Int} (hx : s.1 ≤ x ∧ x ≤ s.2) (hy : t.1 ≤ y ∧ y ≤ t.2) : (byS s t).1 ≤ x * y ∧ x * y ≤ (byS s t).2 := by
  have h1 := lin_bd (y := y) hx
  have h2 := lin_bd (y := s.1) hy
  have h3 := lin_bd (y := s.2) hy
  rw [Int.mul_comm y, Int.mul_comm t.1, Int.mul_comm t.2] at h2 h3
  unfold byS
  simp only
  omega
theorem by_end (b : Bool) (s t : Sp) : ∃ i j : Bool, pick b (byS s t) = pick i s * pick j t := by
  have h : pick b (byS s t) = s.1 * t.1 ∨ pick b (byS s t) = s.1 * t.2 ∨ pick b (byS s t) = s.2 * t.1 ∨ pick b (byS s t) = s.2 * t.2 := by
    cases b <;> unfold pick byS <;> simp only <;> omega
  rcases h with h | h | h | h
  · exact ⟨true, true, h⟩
  · exact ⟨true, false, h⟩
  · exact ⟨false, true, h⟩
  · exact ⟨false, false, h⟩
theorem by_le (s t : Sp) : (byS s t).1 ≤ (byS s t).2 := by unfold byS; simp only; omega
theorem pick_in {s : Sp} (h : s.1 ≤ s.2) (b : Bool) : s.1 ≤ pick b s ∧ pick b s ≤ s.2 := by cases b <;> simp only [pick] <;> omega
theorem Sub.refl {s : Sp} (h : s.1 ≤ s.2) : Sub s s := ⟨Int.le_refl _, h, Int.le_refl _⟩
theorem Sub.one {s : Sp} {x : Int} (h : s.1 ≤ x ∧ x ≤ s.2) : Sub (x, x) s := ⟨h.1, Int.le_refl _, h.2⟩
theorem Sub.trans {s t u : Sp} (h : Sub s t) (k : Sub t u) : Sub s u := by unfold Sub at *; omega
theorem Sub.ok {s t : Sp} (h : Sub s t) : s.1 ≤ s.2 := h.2.1
theorem Sub.ok' {s t : Sp} (h : Sub s t) : t.1 ≤ t.2 := by unfold Sub at h; omega
theorem Sub.plus {s s' t t' : Sp} (h : Sub s s') (k : Sub t t') : Sub (plusS s t) (plusS s' t') := by unfold Sub plusS at *; simp only; omega
theorem Sub.by {s s' t t' : Sp} (h : Sub s s') (k : Sub t t') : Sub (byS s t) (byS s' t') := by
  have hi : ∀ {b : Bool} {s s' : Sp}, Sub s s' → s'.1 ≤ pick b s ∧ pick b s ≤ s'.2 := fun {b} {s} {s'} h => by
    have := pick_in h.ok b
    unfold Sub at h; omega
  obtain ⟨i, j, e1⟩ := by_end true s t
  obtain ⟨i2, j2, e2⟩ := by_end false s t
  have h1 := by_mem (hi (b := i) h) (hi (b := j) k)
  have h2 := by_mem (hi (b := i2) h) (hi (b := j2) k)
  rw [← e1] at h1
  rw [← e2] at h2
  exact ⟨h1.1, by_le s t, h2.2⟩
theorem Sub.less {s s' t t' : Sp} (h : Sub s s') (k : Sub t t') : Sub (lessS s t) (lessS s' t') := by
  rw [less_eq k.ok, less_eq k.ok']
  unfold Sub at *; simp only; omega
theorem Sub.sq {s t : Sp} (h : Sub s t) (h0 : 0 ≤ t.1) : Sub (sqS s) (sqS t) := by
  unfold Sub at *
  refine ⟨Int.mul_le_mul h.1 h.1 h0 (by omega), Int.mul_le_mul h.2.1 h.2.1 (by omega) (by omega), Int.mul_le_mul h.2.2 h.2.2 (by omega) (by omega)⟩

/-- Less is known of the one than of the other. -/
structure KInc (k q : Kn) : Prop where
  base : k.c.base = q.c.base
  rods : k.c.rods.map lenF = q.c.rods.map lenF
  len : k.grow.length = q.grow.length
  each : ∀ (i : Nat) (s t : Sp), k.all[i]? = some s → q.all[i]? = some t → Sub s t
  arc : 0 ≤ q.arc.1

theorem KInc.hi {k q : Kn} (h : KInc k q) {j : Nat} {s t : Sp} (hs : [k.air, k.drive, k.heat, k.press, k.arc, k.force][j]? = some s) (ht : [q.air, q.drive, q.heat, q.press, q.arc, q.force][j]? = some t) : Sub s t :=
  h.each (k.grow.length + j) s t (by rw [all_hi']; exact hs) (by rw [h.len, all_hi']; exact ht)
theorem KInc.lo {k q : Kn} (h : KInc k q) {i : Nat} {s t : Sp} (hs : k.grow[i]? = some s) (ht : q.grow[i]? = some t) : Sub s t := by
  have hi := (List.getElem?_eq_some_iff.1 hs).1
  exact h.each i s t (by rw [all_lo' hi]; exact hs) (by rw [all_lo' (by rw [← h.len]; exact hi)]; exact ht)
theorem lenC_of {l m : List Rod} (h : l.map lenF = m.map lenF) : lenC l = lenC m := by
  rw [lenC_F, lenC_F]; unfold sumF; rw [h]
theorem sum_inc {l m : List Rod} {g e : List Sp} (h : l.map lenF = m.map lenF) (hl : g.length = e.length) (hg : ∀ (i : Nat) (s t : Sp), g[i]? = some s → e[i]? = some t → Sub s t) : ∀ n, Sub (sumN l g n) (sumN m e n)
  | 0 => ⟨Int.le_refl _, Int.le_refl _, Int.le_refl _⟩
  | n + 1 => by
    have ih := sum_inc h hl hg n
    unfold sumN
    refine ih.plus ?_
    have hx : (l.map lenF)[n]? = (m.map lenF)[n]? := by rw [h]
    rw [List.getElem?_map, List.getElem?_map] at hx
    have z : Sub (0, 0) (0, 0) := ⟨Int.le_refl _, Int.le_refl _, Int.le_refl _⟩
    cases h1 : l[n]? with
    | none =>
      rw [h1] at hx
      cases h2 : m[n]? with
      | none => exact z
      | some r => rw [h2] at hx; cases hx
    | some r =>
      rw [h1] at hx
      cases h2 : m[n]? with
      | none => rw [h2] at hx; cases hx
      | some r' =>
        rw [h2] at hx
        simp only [Option.map_some, Option.some.injEq, lenF] at hx
        cases h3 : g[n]? with
        | none =>
          cases h4 : e[n]? with
          | none => exact z
          | some t => have g1 := List.getElem?_eq_none_iff.1 h3; have g2 := (List.getElem?_eq_some_iff.1 h4).1; omega
        | some s =>
          cases h4 : e[n]? with
          | none => have g1 := List.getElem?_eq_none_iff.1 h4; have g2 := (List.getElem?_eq_some_iff.1 h3).1; omega
          | some t =>
            dsimp only
            rw [hx]
            exact (hg n s t h3 h4).by (Sub.refl (Int.le_refl _))
theorem rate_inc {k q : Kn} (h : KInc k q) : Sub (rateK k) (rateK q) := by
  have e := lenC_of h.rods
  have hn : k.c.rods.length = q.c.rods.length := by have := congrArg List.length h.rods; simpa using this
  unfold rateK baseK heatK arcK sumK
  rw [e, h.base, hn]
  have one : ∀ x : Int, Sub (x, x) (x, x) := fun x => Sub.refl (Int.le_refl _)
  exact ((((one _).plus ((h.hi (j := 0) rfl rfl).by (h.hi (j := 3) rfl rfl))).plus ((h.hi (j := 1) rfl rfl).by (h.hi (j := 5) rfl rfl))).by (one _) |>.less (((sum_inc h.rods h.len (fun i s t => h.lo) _).by (h.hi (j := 2) rfl rfl)).by (one _))).less (((h.hi (j := 4) rfl rfl).sq h.arc).by (one _))

/-- All spans are valid. -/
structure KVal (k : Kn) : Prop where
  ok : ∀ (i : Nat) (s : Sp), k.all[i]? = some s → s.1 ≤ s.2
  arc : 0 ≤ k.arc.1
  len : 0 ≤ lenC k.c.rods
  grown : k.grow.length = k.c.rods.length
theorem KVal.hi {k : Kn} (h : KVal k) {j : Nat} {s : Sp} (hs : [k.air, k.drive, k.heat, k.press, k.arc, k.force][j]? = some s) : s.1 ≤ s.2 := h.ok (k.grow.length + j) s (by rw [all_hi']; exact hs)
theorem exact_inc {k : Kn} {t : Tr} (hv : KVal k) (h : InK t k) : KInc (exactK k.c t) k := by
  refine ⟨rfl, rfl, by simp [exactK, h.len], fun i s u hs hu => ?_, hv.arc⟩
  obtain ⟨hl, ha⟩ := inK_all.1 h
  have e : (exactK k.c t).all = (vals t).map fun x => (x, x) := by simp [Kn.all, exactK, vals]
  rw [e, List.getElem?_map] at hs
  cases hx : (vals t)[i]? with
  | none => rw [hx] at hs; cases hs
  | some x =>
    rw [hx] at hs
    simp only [Option.map_some, Option.some.injEq] at hs
    rw [← hs]
    exact Sub.one (ha i x u hx hu)
/-- THE CONE. -/
theorem rate_mem {k : Kn} {t : Tr} (hv : KVal k) (h : InK t k) : (rateK k).1 ≤ partsR k.c t ∧ partsR k.c t ≤ (rateK k).2 := by
  have := rate_inc (exact_inc hv h)
  rw [rate_exact] at this
  unfold Sub at this; simp only at this; omega

/-- Each value is an end of its span. -/
structure Corner (t : Tr) (k : Kn) : Prop where
  len : t.grow.length = k.grow.length
  at_ : ∀ (i : Nat) (x : Int) (s : Sp), (vals t)[i]? = some x → k.all[i]? = some s → x = s.1 ∨ x = s.2
theorem Corner.inK {t : Tr} {k : Kn} (hv : KVal k) (h : Corner t k) : InK t k := inK_all.2 ⟨h.len, fun i x s hx hs => by
  have := h.at_ i x s hx hs
  have := hv.ok i s hs
  omega⟩
theorem by_scale {s : Sp} {P : Int} (h : s.1 ≤ s.2) (hP : 0 ≤ P) : byS s (P, P) = (s.1 * P, s.2 * P) := by
  have := Int.mul_le_mul_of_nonneg_right h hP
  unfold byS; simp only [Prod.mk.injEq]; omega
theorem pick_plus (b : Bool) (s t : Sp) : pick b (plusS s t) = pick b s + pick b t := by cases b <;> rfl
theorem pick_less (b : Bool) {s t : Sp} (h : t.1 ≤ t.2) : pick b (lessS s t) = pick b s - pick (!b) t := by rw [less_eq h]; cases b <;> rfl
theorem pick_scale (b : Bool) {s : Sp} {P : Int} (h : s.1 ≤ s.2) (hP : 0 ≤ P) : pick b (byS s (P, P)) = pick b s * P := by rw [by_scale h hP]; cases b <;> rfl
theorem pick_sq (b : Bool) (s : Sp) : pick b (sqS s) = pick b s * pick b s := by cases b <;> rfl
theorem sumT_app (l : List Rod) (g : List Int) (x : Int) : ∀ n, n ≤ g.length → sumT l (g ++ [x]) n = sumT l g n
  | 0, _ => rfl
  | n + 1, h => by
    unfold sumT
    rw [sumT_app l g x n (by omega), List.getElem?_append_left (by omega)]
theorem sum_end (b : Bool) {l : List Rod} {e : List Sp} (hl : e.length = l.length) : ∀ n, n ≤ e.length → ∃ g : List Int, g.length = n ∧ (∀ (i : Nat) (x : Int) (s : Sp), g[i]? = some x → e[i]? = some s → x = s.1 ∨ x = s.2) ∧ sumT l g n = pick b (sumN l e n)
  | 0, _ => ⟨[], rfl, fun i x s h => by simp at h, by cases b <;> rfl⟩
  | n + 1, h => by
    obtain ⟨g, h1, h2, h3⟩ := sum_end b hl n (by omega)
    have hn : n < l.length := by omega
    have hne : n < e.length := by omega
    obtain ⟨i, j, e1⟩ := by_end b e[n] (lenF l[n], lenF l[n])
    refine ⟨g ++ [pick i e[n]], by simp [h1], fun m x s hx hs => ?_, ?_⟩
    · by_cases hm : m < g.length
      · rw [List.getElem?_append_left hm] at hx
        exact h2 m x s hx hs
      · have hm' : m < n + 1 := by have := (List.getElem?_eq_some_iff.1 hx).1; simpa [h1] using this
        have : m = n := by omega
        subst this
        rw [List.getElem?_append_right (by omega), h1, Nat.sub_self] at hx
        simp only [List.getElem?_cons_zero, Option.some.injEq] at hx
        rw [getElem_of_lt hne, Option.some.injEq] at hs
        rw [← hx, ← hs]
        exact pick_or i _
    · unfold sumT sumN
      rw [sumT_app l g _ n (by omega), h3, pick_plus, getElem_of_lt hn, getElem_of_lt hne, List.getElem?_append_right (by omega), h1, Nat.sub_self]
      simp only [List.getElem?_cons_zero]
      have e2 : pick b (byS e[n] (sgn l[n] * l[n].len, sgn l[n] * l[n].len)) = pick i e[n] * (sgn l[n] * l[n].len) := by
        have : pick j (lenF l[n], lenF l[n]) = sgn l[n] * l[n].len := by cases j <;> rfl
        have e1' : pick b (byS e[n] (sgn l[n] * l[n].len, sgn l[n] * l[n].len)) = pick i e[n] * pick j (lenF l[n], lenF l[n]) := e1
        rw [e1', this]
      rw [e2, Int.mul_comm (pick i e[n]), Int.mul_assoc]
theorem sumN_le {l : List Rod} {e : List Sp} : ∀ n, (sumN l e n).1 ≤ (sumN l e n).2
  | 0 => Int.le_refl _
  | n + 1 => by
    have ih := sumN_le (l := l) (e := e) n
    unfold sumN
    cases l[n]? with
    | none => unfold plusS; simp only; omega
    | some r =>
      cases e[n]? with
      | none => unfold plusS; simp only; omega
      | some s => have := by_le s (sgn r * r.len, sgn r * r.len); unfold plusS; simp only; omega
theorem parts_eq (c : Clk) (t : Tr) : (c.base + t.air * t.press + t.drive * t.force) * (10000 * lenC c.rods) - sumT c.rods t.grow c.rods.length * t.heat * 432 - t.arc * t.arc * (4570 * lenC c.rods) = partsR c t := by
  unfold partsR
  rw [Int.mul_comm (c.base + t.air * t.press + t.drive * t.force), Int.mul_comm (sumT c.rods t.grow c.rods.length * t.heat) 432, ← Int.mul_assoc 432, Int.mul_comm (t.arc * t.arc), ← Int.mul_assoc (4570 * lenC c.rods)]
/-- Each end of the rate is the rate of a truth of ends. -/
theorem rate_end (b : Bool) {k : Kn} (hv : KVal k) : ∃ t, Corner t k ∧ partsR k.c t = pick b (rateK k) := by
  obtain ⟨i1, i2, e1⟩ := by_end b k.air k.press
  obtain ⟨i3, i4, e2⟩ := by_end b k.drive k.force
  obtain ⟨i5, i6, e3⟩ := by_end (!b) (sumK k) k.heat
  obtain ⟨g, g1, g2, g3⟩ := sum_end i5 hv.grown k.grow.length (Nat.le_refl _)
  refine ⟨⟨g, pick i1 k.air, pick i3 k.drive, pick i6 k.heat, pick i2 k.press, pick (!b) k.arc, pick i4 k.force⟩, ⟨g1, fun i x s hx hs => ?_⟩, ?_⟩
  · by_cases hi : i < g.length
    · rw [vals_lo hi] at hx
      rw [all_lo' (by omega)] at hs
      exact g2 i x s hx hs
    · obtain ⟨j, rfl⟩ : ∃ j, i = g.length + j := ⟨i - g.length, by omega⟩
      have hx' := (vals_hi ⟨g, pick i1 k.air, pick i3 k.drive, pick i6 k.heat, pick i2 k.press, pick (!b) k.arc, pick i4 k.force⟩ j).symm.trans hx
      rw [g1, all_hi'] at hs
      match j, hx', hs with
      | 0, hx, hs => cases hx; cases hs; exact pick_or _ _
      | 1, hx, hs => cases hx; cases hs; exact pick_or _ _
      | 2, hx, hs => cases hx; cases hs; exact pick_or _ _
      | 3, hx, hs => cases hx; cases hs; exact pick_or _ _
      | 4, hx, hs => cases hx; cases hs; exact pick_or _ _
      | 5, hx, hs => cases hx; cases hs; exact pick_or _ _
      | n + 6, hx, hs => simp at hx
  · rw [← parts_eq]
    unfold rateK
    have hL := hv.len
    have hsum : (sumK k).1 ≤ (sumK k).2 := sumN_le _
    have ha : (sqS k.arc).1 ≤ (sqS k.arc).2 := ((Sub.refl (hv.hi (j := 4) rfl)).sq hv.arc).ok
    have hX : (plusS (plusS (k.c.base, k.c.base) (byS k.air k.press)) (byS k.drive k.force)).1 ≤ (plusS (plusS (k.c.base, k.c.base) (byS k.air k.press)) (byS k.drive k.force)).2 := by
      have := by_le k.air k.press; have := by_le k.drive k.force
      unfold plusS; simp only; omega
    rw [pick_less b (by unfold arcK; exact by_le _ _), pick_less b (by unfold heatK; exact by_le _ _)]
    unfold baseK heatK arcK
    rw [pick_scale b hX (by omega), pick_scale (!b) (by_le _ _) (by decide), pick_scale (!b) ha (by omega), pick_plus, pick_plus, e1, e2, e3, pick_sq]
    have hg : sumT k.c.rods g k.c.rods.length = pick i5 (sumK k) := by
      unfold sumK
      rw [← hv.grown]; exact g3
    rw [hg]
    have : pick b (k.c.base, k.c.base) = k.c.base := by cases b <;> rfl
    rw [this]
end Go.Proofs.R03
end
section
/- Plain: the truths of Ends reach the ends of the rate; rounding; fractions. -/
namespace Go.Proofs.R03
open Go.Vc Go.RowKit Go.Proofs

theorem all_cases {k : Kn} {i : Nat} {s : Sp} (h : k.all[i]? = some s) {P : Sp → Prop} (hl : ∀ x ∈ k.grow, P x) (h0 : P k.air) (h1 : P k.drive) (h2 : P k.heat) (h3 : P k.press) (h4 : P k.arc) (h5 : P k.force) : P s := by
  by_cases hi : i < k.grow.length
  · rw [all_lo' hi] at h
    exact hl _ (List.mem_of_getElem? h)
  · obtain ⟨j, rfl⟩ : ∃ j, i = k.grow.length + j := ⟨i - k.grow.length, by omega⟩
    rw [all_hi'] at h
    match j, h with
    | 0, h => cases h; exact h0
    | 1, h => cases h; exact h1
    | 2, h => cases h; exact h2
    | 3, h => cases h; exact h3
    | 4, h => cases h; exact h4
    | 5, h => cases h; exact h5
    | n + 6, h => simp at h
theorem newK_val {c : Clk} {b : Bn} (hk : check c = 0) (hb : OkB b) : KVal (newK c b) := by
  obtain ⟨hl8, hrn, hrod, hlen, hbase, hair, hdr⟩ := check_len hk
  obtain ⟨b1, b2, b3, b4⟩ := hb
  refine ⟨fun i s hs => all_cases hs (P := fun s => s.1 ≤ s.2) (fun x hx => ?_) hair.2.1 ?_ b1.2.1 b2.2.1 b3.2.1 b4.2.1, b3.1, by show 0 ≤ lenC c.rods; omega, newK_len c b⟩
  · obtain ⟨r, hr, rfl⟩ := List.mem_map.1 hx
    exact (hrod r hr).2.2.1
  · show c.drive.1 ≤ c.drive.2
    unfold driveOk at hdr; simp only [okS] at hdr; omega

theorem put_put {k : Kn} {j : Nat} (hj : j < k.grow.length + 6) (s u : Sp) : (k.put j s).put j u = k.put j u := by
  have h1 := put_c k j s
  have h2 := put_c (k.put j s) j u
  have h3 := put_c k j u
  refine Kn.ext (by rw [h2.1, h1.1, h3.1]) (by rw [h2.2, h1.2, h3.2]) ?_
  rw [all_put _ (by rw [h1.2]; exact hj), all_put _ hj, all_put _ hj, List.set_set]
theorem all_lt {k : Kn} {j : Nat} {s : Sp} (hs : k.all[j]? = some s) : j < k.grow.length + 6 := by
  have := (List.getElem?_eq_some_iff.1 hs).1; rwa [all_len] at this
theorem put_at {k : Kn} {j : Nat} {s : Sp} (hs : k.all[j]? = some s) (u : Sp) {i : Nat} {v : Sp} (hv : (k.put j u).all[i]? = some v) : (i = j ∧ v = u) ∨ (i ≠ j ∧ k.all[i]? = some v) := by
  rw [all_put _ (all_lt hs)] at hv
  by_cases h : j = i
  · subst h
    rw [List.getElem?_set_self (by rw [all_len]; exact all_lt hs)] at hv
    exact .inl ⟨rfl, (Option.some.inj hv).symm⟩
  · rw [List.getElem?_set_ne h] at hv
    exact .inr ⟨fun e => h e.symm, hv⟩
theorem arc_at (k : Kn) : k.all[k.grow.length + 4]? = some k.arc := by rw [all_hi']; rfl
theorem put_inc {k : Kn} (hv : KVal k) {j : Nat} {s : Sp} (hs : k.all[j]? = some s) {x : Int} (hx : s.1 ≤ x ∧ x ≤ s.2) : KInc (k.put j (x, x)) k ∧ KVal (k.put j (x, x)) := by
  have hc := put_c k j (x, x)
  refine ⟨⟨by rw [hc.1], by rw [hc.1], hc.2, fun i u v hu ht => ?_, hv.arc⟩, ⟨fun i u hu => ?_, ?_, by rw [hc.1]; exact hv.len, by rw [hc.1, hc.2]; exact hv.grown⟩⟩
  · rcases put_at hs _ hu with ⟨rfl, rfl⟩ | ⟨_, h⟩
    · rw [hs] at ht
      cases ht
      exact Sub.one hx
    · rw [h] at ht
      cases ht
      exact Sub.refl (hv.ok i _ h)
  · rcases put_at hs _ hu with ⟨rfl, rfl⟩ | ⟨_, h⟩
    · exact Int.le_refl _
    · exact hv.ok i _ h
  · have h4 := arc_at (k.put j (x, x))
    rw [hc.2] at h4
    rcases put_at hs _ h4 with ⟨e, h⟩ | ⟨_, h⟩
    · rw [h]
      rw [← e, arc_at] at hs
      cases hs
      have := hv.arc
      show 0 ≤ x; omega
    · rw [arc_at] at h
      rw [← Option.some.inj h]; exact hv.arc
theorem put_goal (b : Bool) {k : Kn} (hv : KVal k) {j : Nat} {s : Sp} (hs : k.all[j]? = some s) : pick b (rateK (k.put j (s.1, s.1))) = pick b (rateK k) ∨ pick b (rateK (k.put j (s.2, s.2))) = pick b (rateK k) := by
  obtain ⟨t, ht, e⟩ := rate_end b hv
  have hle := hv.ok j s hs
  have hj := all_lt hs
  have hvl : j < (vals t).length := by rw [vals_len, ht.len]; exact hj
  have hin := inK_all.1 (ht.inK hv)
  have key : ∀ x, s.1 ≤ x ∧ x ≤ s.2 → (vals t)[j]? = some x → pick b (rateK (k.put j (x, x))) = pick b (rateK k) := fun x hx hxt => by
    obtain ⟨h1, h2⟩ := put_inc hv hs hx
    have hc := put_c k j (x, x)
    have h3 : InK t (k.put j (x, x)) := inK_all.2 ⟨by rw [hc.2]; exact hin.1, fun i y u hy hu => by
      rcases put_at hs _ hu with ⟨rfl, rfl⟩ | ⟨_, h⟩
      · rw [hxt] at hy; cases hy; exact ⟨Int.le_refl _, Int.le_refl _⟩
      · exact hin.2 i y u hy h⟩
    have h4 := rate_mem h2 h3
    have h5 := rate_inc h1
    rw [hc.1, e] at h4
    unfold Sub at h5
    cases b <;> simp only [pick] at h4 ⊢ <;> omega
  rcases ht.at_ j _ s (getElem_of_lt hvl) hs with h | h
  · exact .inl (key s.1 ⟨Int.le_refl _, hle⟩ (by rw [← h]; exact getElem_of_lt hvl))
  · exact .inr (key s.2 ⟨hle, Int.le_refl _⟩ (by rw [← h]; exact getElem_of_lt hvl))

/-- The rounds of end: what is true of them. -/
structure EndI (k : Kn) (b : Bool) (p : Kn) (j : Nat) : Prop where
  c : p.c = k.c
  len : p.grow.length = k.grow.length
  sub : ∀ (i : Nat) (s t : Sp), p.all[i]? = some s → k.all[i]? = some t → Sub s t
  val : KVal p
  pts : ∀ (i : Nat) (s : Sp), i < j → p.all[i]? = some s → s.1 = s.2
  goal : pick b (rateK p) = pick b (rateK k)
theorem EndI.next {k p : Kn} {b : Bool} {j : Nat} (h : EndI k b p j) {s : Sp} (hs : p.all[j]? = some s) {x : Int} (hx : s.1 ≤ x ∧ x ≤ s.2) (hg : pick b (rateK (p.put j (x, x))) = pick b (rateK p)) : EndI k b (p.put j (x, x)) (j + 1) := by
  obtain ⟨h1, h2⟩ := put_inc h.val hs hx
  have hc := put_c p j (x, x)
  refine ⟨hc.1.trans h.c, hc.2.trans h.len, fun i u v hu hv => ?_, h2, fun i u hi hu => ?_, hg.trans h.goal⟩
  · have hi : i < p.all.length := by rw [all_len, h.len]; have := all_lt hv; omega
    exact (h1.each i u _ hu (getElem_of_lt hi)).trans (h.sub i _ v (getElem_of_lt hi) hv)
  · rcases put_at hs _ hu with ⟨rfl, rfl⟩ | ⟨hne, hu⟩
    · rfl
    · exact h.pts i u (by omega) hu
theorem endN_inv (b : Bool) {k : Kn} (hv : KVal k) : ∀ j, j ≤ k.grow.length + 6 → EndI k b (endN (pick b) (pick b (rateK k)) k j) j
  | 0, _ => ⟨rfl, rfl, fun i s t hs ht => by rw [show endN (pick b) (pick b (rateK k)) k 0 = k from rfl, ht] at hs; cases hs; exact Sub.refl (hv.ok i _ ht), hv, fun i s h => by omega, rfl⟩
  | j + 1, hj => by
    have h := endN_inv b hv j (by omega)
    unfold endN
    generalize endN (pick b) (pick b (rateK k)) k j = p at *
    have hjp : j < p.all.length := by rw [all_len, h.len]; omega
    have hs := getElem_of_lt hjp
    dsimp only
    rw [hs]
    simp only [Option.getD_some]
    have hle := h.val.ok j _ hs
    split
    · rename_i hg
      exact h.next hs ⟨Int.le_refl _, hle⟩ (hg.trans h.goal.symm)
    · rename_i hg
      rw [put_put (all_lt hs)]
      refine h.next hs ⟨hle, Int.le_refl _⟩ ?_
      rcases put_goal b h.val hs with g | g
      · exact absurd (g.trans h.goal) hg
      · exact g
theorem point_all {p : Kn} (h : ∀ (i : Nat) (s : Sp), p.all[i]? = some s → s.1 = s.2) : p = exactK p.c (truthK p) := by
  refine Kn.ext rfl (by simp [exactK, truthK]) ?_
  have e : (exactK p.c (truthK p)).all = p.all.map fun s => (s.1, s.1) := by simp [Kn.all, exactK, truthK]
  rw [e]
  refine (List.map_id _).symm.trans (List.map_congr_left fun s hs => ?_)
  obtain ⟨i, hi, rfl⟩ := List.mem_iff_getElem.1 hs
  have := h i _ (getElem_of_lt hi)
  generalize p.all[i] = s at this
  obtain ⟨x, y⟩ := s
  simp only at this
  subst this; rfl
theorem ends_spec (b : Bool) {k : Kn} (hv : KVal k) : InK (truthK (endK (pick b) k)) k ∧ partsR k.c (truthK (endK (pick b) k)) = pick b (rateK k) := by
  have h := endN_inv b hv (k.grow.length + 6) (Nat.le_refl _)
  have hp : endK (pick b) k = exactK (endK (pick b) k).c (truthK (endK (pick b) k)) := point_all fun i s hs => h.pts i s (by have := all_lt hs; have := h.len; unfold endK at *; omega) hs
  have hc : (endK (pick b) k).c = k.c := h.c
  constructor
  · refine inK_all.2 ⟨by show ((endK (pick b) k).grow.map (·.1)).length = _; rw [List.length_map]; exact h.len, fun i x s hx hs => ?_⟩
    have e : vals (truthK (endK (pick b) k)) = (endK (pick b) k).all.map (·.1) := by simp [vals, truthK, Kn.all]
    rw [e, List.getElem?_map] at hx
    cases hu : (endK (pick b) k).all[i]? with
    | none => rw [hu] at hx; cases hx
    | some u =>
      rw [hu] at hx
      simp only [Option.map_some, Option.some.injEq] at hx
      have := h.sub i u s hu hs
      unfold Sub at this; omega
  · rw [← h.goal]
    show _ = pick b (rateK (endK (pick b) k))
    have e := congrArg rateK hp
    rw [rate_exact, hc] at e
    rw [e]
    cases b <;> rfl

end Go.Proofs.R03
end
section
/- The conditions of the functions, printed by program; each is what the generator reckons (kernel_rfl). -/
namespace Go.Proofs
open Go.Vc
end Go.Proofs
end
section
/- BeatCone. -/
namespace Go.Proofs.R03
open Go.Vc Go.RowKit Go.Proofs

theorem copied_l (c : Clk) {a : Option Addr} {n : Nat} {w : World} (hc : Cells w a (rods c.rods)) (hn : c.rods.length ≤ 100000) : Calls Try.prog 13 #[c.v a n] w fun e w' => ∃ a' n', e = .returned (c.v a' n') ∧ Below w.heap.size w w' ∧ Lies [] w.heap.size w'.heap.size w' a' (rods c.rods) :=
  (copied_any c hc hn).mono fun _ _ ⟨a', n', h1, h2, h3⟩ => ⟨a', n', h1, h2, Lies.row h3⟩
def TrL (t : Tr) (w : World) (e : Ending) (w' : World) : Prop := ∃ a n, e = .returned (t.v a n) ∧ Below w.heap.size w w' ∧ Lies [] w.heap.size w'.heap.size w' a (ints t.grow)
abbrev Z64 (x : Int) : Prop := -1000000000000000000 ≤ x ∧ x ≤ 1000000000000000000
structure ConeOk (S r x y : Sp) : Prop where
  r2 : 1 ≤ r.2
  x2 : 1 ≤ x.2
  y2 : 1 ≤ y.2
  bS : Z64 S.1 ∧ Z64 S.2
  br : Z64 (S.1 * r.2) ∧ Z64 (S.2 * r.2)
  bx : Z64 (S.1 * x.2) ∧ Z64 ((S.1 + 1) * x.2)
  b_y : Z64 (S.2 * y.2) ∧ Z64 ((S.2 - 1) * y.2)
  r_in : S.1 * r.2 ≤ r.1 ∧ r.1 ≤ S.2 * r.2
  xy : x.2 = y.2 → x.1 ≤ y.1
  x_in : S.1 * x.2 ≤ x.1 ∧ x.1 < (S.1 + 1) * x.2
  y_in : y.1 ≤ S.2 * y.2 ∧ (S.2 - 1) * y.2 < y.1
end Go.Proofs.R03
end
section
/- BeatCone. -/
namespace Go.Proofs.R03
open Go.Vc Go.RowKit Go.Proofs

def lowT (c : Clk) (b : Bn) : Tr := truthK (endK (pick true) (newK c b))
def highT (c : Clk) (b : Bn) : Tr := truthK (endK (pick false) (newK c b))
theorem ends_l (c : Clk) (b : Bn) {ra : Option Addr} {rc : Nat} {w : World} (hc : Cells w ra (rods c.rods)) : Calls Try.prog 23 #[c.v ra rc, b.v] w fun e w' => ∃ a1 d1 a2 d2, e = .returned (.tuple #[(endsR c b).1.v a1 d1, (endsR c b).2.1.v a2 d2, I (endsR c b).2.2]) ∧ Below w.heap.size w w' ∧ Lies [] w.heap.size w'.heap.size w' a1 (ints (endsR c b).1.grow) ∧ Lies [] w.heap.size w'.heap.size w' a2 (ints (endsR c b).2.1.grow) :=
  (ends_any c b hc).mono fun _ _ ⟨a1, d1, a2, d2, h1, h2, h3, h4⟩ => ⟨a1, d1, a2, d2, h1, h2, Lies.row h3, Lies.row h4⟩
theorem endsR_eq {c : Clk} {b : Bn} (h : openErr c b = 0) : endsR c b = (lowT c b, highT c b, 0) := by unfold endsR; rw [if_pos h]; rfl
theorem rateR_eq {c : Clk} {b : Bn} (h : openErr c b = 0) : rateR c b = (roundS (10000 * lenC c.rods) (rateK (newK c b)), 0) := by unfold rateR; rw [if_pos h]
theorem open_ok {c : Clk} {b : Bn} (hk : check c = 0) (hb : OkB b) : openErr c b = 0 := by unfold openErr; rw [if_pos hk, if_pos hb]
end Go.Proofs.R03
end
section
/- Plain: changes; a nut; narrower bounds. -/
namespace Go.Proofs.R03
open Go.Vc Go.RowKit Go.Proofs

/-- What is less than nothing. -/
def negS (s : Sp) : Sp := (-s.2, -s.1)
/-- A nut. -/
def turnC (c : Clk) (k : Int) : Clk := { c with base := c.base + k }
end Go.Proofs.R03
end
section
/- The conditions of the functions, printed by program; each is what the generator reckons (kernel_rfl). -/
namespace Go.Proofs
open Go.Vc
end Go.Proofs
end
section
/- BeatApart. -/
namespace Go.Proofs.R03
open Go.Vc Go.RowKit Go.Proofs

structure ApartOk (S U x y : Sp) (n : Int) : Prop where
  x2 : 1 ≤ x.2
  y2 : 1 ≤ y.2
  u1 : U.1 = 0 - S.2
  u2 : U.2 = 0 - S.1
  bS : Z64 S.1 ∧ Z64 S.2
  mx : n.tmod x.2 = 0
  my : n.tmod y.2 = 0
  dx : Z64 (n.tdiv x.2)
  dy : Z64 (n.tdiv y.2)
  vx : Z64 (x.1 * n.tdiv x.2)
  vy : Z64 (y.1 * n.tdiv y.2)
  sn : Z64 (S.1 * n) ∧ Z64 (S.2 * n)
  lo : S.1 * n ≤ y.1 * n.tdiv y.2 - x.1 * n.tdiv x.2
  hi : y.1 * n.tdiv y.2 - x.1 * n.tdiv x.2 ≤ S.2 * n
def backT (x y : Tr) : Tr := ⟨x.grow, x.air, x.drive, y.heat, y.press, y.arc, y.force⟩
end Go.Proofs.R03
end
section
/- BeatMoves. -/
namespace Go.Proofs.R03
open Go.Vc Go.RowKit Go.Proofs

def stillB (b : Bn) : Bn := { b with force := (0, 0) }
structure MovesOk (S V Z r : Sp) (kind turn : Int) : Prop where
  bS : Z64 S.1 ∧ Z64 S.2
  v : V.1 ≤ 0 ∧ 0 ≤ V.2
  br : Z64 r.1 ∧ Z64 r.2 ∧ Z64 (turn * r.2)
  z : kind = 3 → Z.1 = S.1 ∧ Z.2 = S.2
end Go.Proofs.R03
end
section
/- BeatSteady: plain, and a rod's length that is stored. -/
namespace Go.Proofs.R03
open Go.Vc Go.RowKit Go.Proofs

/-- A block that can be written, and what it holds at first. -/
structure WRow (T : TypeId) (b : Nat) (vs : List Value) (w : World) : Prop where
  obj : ∃ cs, w.heap[b]? = some (.cells cs T (0, 0))
  cells : Cells w (some ⟨b, 0, none⟩) vs
def hotB : Bn := ⟨(-100, 100), (0, 0), (0, 0), (0, 0)⟩
end Go.Proofs.R03
end
section
/- BeatSteady. -/
namespace Go.Proofs.R03
open Go.Vc Go.RowKit Go.Proofs

/-- A clock with a rod of another length, as it lies there. -/
def Clk.vl (c : Clk) (a : Option Addr) (k n : Nat) : Value := .agg #[I c.kind, I c.base, .slice a k n, I c.air.1, I c.air.2, I c.drive.1, I c.drive.2]
end Go.Proofs.R03
end
section
/- BeatNarrows: plain, and a rod's growing that is stored. -/
namespace Go.Proofs.R03
open Go.Vc Go.RowKit Go.Proofs

def growR (r : Rod) (s : Sp) : Rod := ⟨r.len, s.1, s.2, r.up⟩
/-- Rods that grow less widely: the first j of them. -/
def narL (l : List Rod) (g : List Int) : Nat → List Rod
  | 0 => l
  | j + 1 => (narL l g j).set j (growR (l.getD j ⟨0, 0, 0, false⟩) (narrowS ((l.getD j ⟨0, 0, 0, false⟩).lo, (l.getD j ⟨0, 0, 0, false⟩).hi) (g.getD j 0)))
def narC (c : Clk) (t : Tr) : Clk := ⟨c.kind, c.base, narL c.rods t.grow c.rods.length, narrowS c.air t.air, narrowS c.drive t.drive⟩
def narB (b : Bn) (t : Tr) : Bn := ⟨narrowS b.heat t.heat, narrowS b.press t.press, narrowS b.arc t.arc, narrowS b.force t.force⟩
end Go.Proofs.R03
end
section
/- BeatNarrows. -/
namespace Go.Proofs.R03
open Go.Vc Go.RowKit Go.Proofs

def Clk.vn (c : Clk) (t : Tr) (a : Option Addr) (k n : Nat) : Value := .agg #[I c.kind, I c.base, .slice a k n, I (narrowS c.air t.air).1, I (narrowS c.air t.air).2, I (narrowS c.drive t.drive).1, I (narrowS c.drive t.drive).2]
end Go.Proofs.R03
end
section
/- The conditions of the functions, printed by program; each is what the generator reckons (kernel_rfl). -/
namespace Go.Proofs
open Go.Vc
set_option maxRecDepth 100000 in
set_option maxHeartbeats 2000000 in
theorem vc61 (c0 : Int) (c1 : Int) (c2a : Option Addr) (c2n : Nat) (c2c : Nat) (c3 : Int) (c4 : Int) (c5 : Int) (c6 : Int) (b0 : Int) (b1 : Int) (b2 : Int) (b3 : Int) (b4 : Int)
    (b5 : Int) (b6 : Int) (b7 : Int) (w : World) (R : Ending → World → Prop) (h : ∀ (m1 : Nat), w.heap.size ≤ m1 → ∀ (m2 : Nat), w.heap.size ≤ m2 → ∀ (m3 : Nat), w.heap.size ≤ m3 →
    ∃ (F1 : List Lf → World → Prop), ∃ (F2 : List Lf → Nat), (∀ (w2 : World), RowKit.Below w.heap.size w w2 → Kept [m3, m2, m1] w w2 → w2.heap[m3]? = some (Obj.cells #[] 30) → F1
    [Lf.sl (some { block := m3, off := 0 }) 0 0, Lf.int IntKind.i64 0] w2) ∧ ∀ (a1 : Option Addr) (m5 m6 : Nat) (x1 : Int) (w3 : World), RowKit.Below w.heap.size w w3 → F1 [Lf.sl
    a1 m5 m6, Lf.int IntKind.i64 x1] w3 → (-9223372036854775808 ≤ (↑c2n : Int) + 6 ∧ (↑c2n : Int) + (6 : Int) ≤ 9223372036854775807) ∧ (0 ≤ (↑c2n : Int) + 6 ∧ (↑c2n : Int) + (6 :
    Int) ≤ 18446744073709551615) ∧ 0 ≤ (↑c2n : Int) + 6 ∧ (x1 < IntKind.i64.wrap (1 * 2 ^ min ((↑c2n : Int) + 6).toNat IntKind.i64.bits) → ∀ (m7 : Nat), w3.heap.size ≤ m7 → ∃ (F3 :
    List Lf → World → Prop), ∃ (F4 : List Lf → Nat), (∀ (w5 : World), RowKit.Below w.heap.size w w5 → Kept [m7, m2, m1] w3 w5 → w5.heap[m7]? = some (Obj.cells #[] 3) → F3 [Lf.sl
    (some { block := m7, off := 0 }) 0 0, Lf.int IntKind.i64 0] w5) ∧ ∀ (a2 : Option Addr) (m9 m10 : Nat) (x2 : Int) (w6 : World), RowKit.Below w.heap.size w w6 → F3 [Lf.sl a2 m9
    m10, Lf.int IntKind.i64 x2] w6 → (-9223372036854775808 ≤ (↑c2n : Int) + 6 ∧ (↑c2n : Int) + (6 : Int) ≤ 9223372036854775807) ∧ (x2 < (↑c2n : Int) + 6 → ∀ (m11 : Nat),
    w6.heap.size ≤ m11 → ∃ (F5 : List Lf → World → Prop), ((x2 < (↑c2n : Int) → ∃ (m12 : Nat), ∃ (m13 : Nat), c2a = some { block := m12, off := m13 } ∧ (0 ≤ x2 ∧ x2 < (↑c2n : Int))
    ∧ ∃ (x3 : Int), ∃ (x4 : Int), w6.cell? { block := m12, off := m13 + x2.toNat * 4 + 1 } = some (Value.int IntKind.i64 x3) ∧ w6.cell?
    { block := m12, off := m13 + x2.toNat * 4 + 1 + 1 } = some (Value.int IntKind.i64 x4) ∧ (m12 < w.heap.size ∨ m12 ≠ m11 ∧ m12 ≠ m2 ∧ m12 ≠ m1) ∧ ∀ (w8 : World), RowKit.Below
    w.heap.size w w8 → Kept [m11, m2, m1] w6 w8 → w8.heap[m1]? = some (Obj.cells #[Value.int IntKind.i64 c0, Value.int IntKind.i64 c1, Value.slice c2a c2n c2c, Value.int
    IntKind.i64 c3, Value.int IntKind.i64 c4, Value.int IntKind.i64 c5, Value.int IntKind.i64 c6] 27) → F5 [Lf.int IntKind.i64 x3, Lf.int IntKind.i64 x4] w8) ∧ ((↑c2n : Int) ≤ x2 →
    (x2 = (↑c2n : Int) → ∀ (w9 : World), RowKit.Below w.heap.size w w9 → Kept [m11, m2, m1] w6 w9 → w9.heap[m1]? = some (Obj.cells #[Value.int IntKind.i64 c0, Value.int IntKind.i64
    c1, Value.slice c2a c2n c2c, Value.int IntKind.i64 c3, Value.int IntKind.i64 c4, Value.int IntKind.i64 c5, Value.int IntKind.i64 c6] 27) → F5 [Lf.int IntKind.i64 c3, Lf.int
    IntKind.i64 c4] w9) ∧ (x2 ≠ (↑c2n : Int) → (-9223372036854775808 ≤ (↑c2n : Int) + 1 ∧ (↑c2n : Int) + (1 : Int) ≤ 9223372036854775807) ∧ (x2 = (↑c2n : Int) + 1 → ∀ (w10 :
    World), RowKit.Below w.heap.size w w10 → Kept [m11, m2, m1] w6 w10 → w10.heap[m1]? = some (Obj.cells #[Value.int IntKind.i64 c0, Value.int IntKind.i64 c1, Value.slice c2a c2n
    c2c, Value.int IntKind.i64 c3, Value.int IntKind.i64 c4, Value.int IntKind.i64 c5, Value.int IntKind.i64 c6] 27) → F5 [Lf.int IntKind.i64 c5, Lf.int IntKind.i64 c6] w10) ∧ (x2
    ≠ (↑c2n : Int) + 1 → (-9223372036854775808 ≤ (↑c2n : Int) + 2 ∧ (↑c2n : Int) + (2 : Int) ≤ 9223372036854775807) ∧ (x2 = (↑c2n : Int) + 2 → ∀ (w11 : World), RowKit.Below
    w.heap.size w w11 → Kept [m11, m2, m1] w6 w11 → w11.heap[m2]? = some (Obj.cells #[Value.int IntKind.i64 b0, Value.int IntKind.i64 b1, Value.int IntKind.i64 b2, Value.int
    IntKind.i64 b3, Value.int IntKind.i64 b4, Value.int IntKind.i64 b5, Value.int IntKind.i64 b6, Value.int IntKind.i64 b7] 45) → F5 [Lf.int IntKind.i64 b0, Lf.int IntKind.i64 b1]
    w11) ∧ (x2 ≠ (↑c2n : Int) + 2 → (-9223372036854775808 ≤ (↑c2n : Int) + 3 ∧ (↑c2n : Int) + (3 : Int) ≤ 9223372036854775807) ∧ (x2 = (↑c2n : Int) + 3 → ∀ (w12 : World),
    RowKit.Below w.heap.size w w12 → Kept [m11, m2, m1] w6 w12 → w12.heap[m2]? = some (Obj.cells #[Value.int IntKind.i64 b0, Value.int IntKind.i64 b1, Value.int IntKind.i64 b2,
    Value.int IntKind.i64 b3, Value.int IntKind.i64 b4, Value.int IntKind.i64 b5, Value.int IntKind.i64 b6, Value.int IntKind.i64 b7] 45) → F5 [Lf.int IntKind.i64 b2, Lf.int
    IntKind.i64 b3] w12) ∧ (x2 ≠ (↑c2n : Int) + 3 → (-9223372036854775808 ≤ (↑c2n : Int) + 4 ∧ (↑c2n : Int) + (4 : Int) ≤ 9223372036854775807) ∧ (x2 = (↑c2n : Int) + 4 → ∀ (w13 :
    World), RowKit.Below w.heap.size w w13 → Kept [m11, m2, m1] w6 w13 → w13.heap[m2]? = some (Obj.cells #[Value.int IntKind.i64 b0, Value.int IntKind.i64 b1, Value.int IntKind.i64
    b2, Value.int IntKind.i64 b3, Value.int IntKind.i64 b4, Value.int IntKind.i64 b5, Value.int IntKind.i64 b6, Value.int IntKind.i64 b7] 45) → F5 [Lf.int IntKind.i64 b4, Lf.int
    IntKind.i64 b5] w13) ∧ (x2 ≠ (↑c2n : Int) + 4 → ∀ (w14 : World), RowKit.Below w.heap.size w w14 → Kept [m11, m2, m1] w6 w14 → F5 [Lf.int IntKind.i64 b6, Lf.int IntKind.i64 b7]
    w14))))))) ∧ ∀ (x5 x6 : Int) (w15 : World), RowKit.Below w.heap.size w w15 → F5 [Lf.int IntKind.i64 x5, Lf.int IntKind.i64 x6] w15 → (-9223372036854775808 ≤ (↑c2n : Int) + 5 ∧
    (↑c2n : Int) + (5 : Int) ≤ 9223372036854775807) ∧ (-9223372036854775808 ≤ (↑c2n : Int) + 5 - x2 ∧ (↑c2n : Int) + 5 - x2 ≤ 9223372036854775807) ∧ (0 ≤ (↑c2n : Int) + 5 - x2 ∧
    (↑c2n : Int) + 5 - x2 ≤ 18446744073709551615) ∧ 0 ≤ (↑c2n : Int) + 5 - x2 ∧ ∃ (F6 : List Lf → World → Prop), ((IntKind.i64.wrap (↑(BitVec.ofInt IntKind.i64.bits (x1.fdiv (2 ^
    min ((↑c2n : Int) + 5 - x2).toNat IntKind.i64.bits)) &&& BitVec.ofInt IntKind.i64.bits 1).toNat : Int) = 1 → ∀ (w17 : World), RowKit.Below w.heap.size w w17 → Kept [m11, m2,
    m1] w15 w17 → w17.heap[m11]? = some (Obj.cells #[Value.int IntKind.i64 x5, Value.int IntKind.i64 x6] 25) → F6 [Lf.int IntKind.i64 x6, Lf.int IntKind.i64 x5, Lf.int IntKind.i64
    x6] w17) ∧ (IntKind.i64.wrap (↑(BitVec.ofInt IntKind.i64.bits (x1.fdiv (2 ^ min ((↑c2n : Int) + 5 - x2).toNat IntKind.i64.bits)) &&& BitVec.ofInt IntKind.i64.bits 1).toNat :
    Int) ≠ 1 → ∀ (w18 : World), RowKit.Below w.heap.size w w18 → Kept [m11, m2, m1] w15 w18 → F6 [Lf.int IntKind.i64 x5, Lf.int IntKind.i64 x5, Lf.int IntKind.i64 x6] w18)) ∧ ∀ (x7
    x8 x9 : Int) (w19 : World), RowKit.Below w.heap.size w w19 → F6 [Lf.int IntKind.i64 x7, Lf.int IntKind.i64 x8, Lf.int IntKind.i64 x9] w19 → ∀ (m21 : Nat), w19.heap.size ≤ m21 →
    ∀ (w20 : World), RowKit.Below w.heap.size w w20 → Kept [m21, m11, m2, m1] w19 w20 → w20.heap[m21]? = some (Obj.cells #[Value.int IntKind.i64 x7] 3) → RunsTo Try.prog
    (Builtin.append_ #[28, 28] 28 #[Value.slice a2 m9 m10, Value.slice (some { block := m21, off := 0 }) 1 1]) w20 fun (v1 : Value) (w21 : World) => ∃ (a3 : Option Addr), ∃ (m23 :
    Nat), ∃ (m24 : Nat), v1 = Value.slice a3 m23 m24 ∧ KeepX true w.heap.size [m21, m11, m2, m1] (fun _ => False) w20 w21 ∧ (-9223372036854775808 ≤ x2 + 1 ∧ x2 + (1 : Int) ≤
    9223372036854775807) ∧ ∀ (w22 : World), RowKit.Below w.heap.size w w22 → Kept [m21, m11, m2, m1] w21 w22 → F3 [Lf.sl a3 m23 m24, Lf.int IntKind.i64 (x2 + 1)] w22 ∧ F4 [Lf.sl a3
    m23 m24, Lf.int IntKind.i64 (x2 + 1)] < F4 [Lf.sl a2 m9 m10, Lf.int IntKind.i64 x2]) ∧ ((↑c2n : Int) + 6 ≤ x2 → (((0 : Int) ≤ 0 ∧ 0 ≤ (↑c2n : Int)) ∧ (↑c2n : Int) ≤ (↑m10 :
    Int)) ∧ ∃ (m26 : Nat), ∃ (m27 : Nat), a2 = some { block := m26, off := m27 } ∧ (0 ≤ (↑c2n : Int) ∧ (↑c2n : Int) < (↑m9 : Int)) ∧ ∃ (x10 : Int), w6.cell?
    { block := m26, off := m27 + (↑c2n : Int).toNat * 1 } = some (Value.int IntKind.i64 x10) ∧ (m26 < w.heap.size ∨ m26 ≠ m2 ∧ m26 ≠ m1) ∧ (-9223372036854775808 ≤ (↑c2n : Int) + 1
    ∧ (↑c2n : Int) + (1 : Int) ≤ 9223372036854775807) ∧ ∃ (m28 : Nat), ∃ (m29 : Nat), a2 = some { block := m28, off := m29 } ∧ (0 ≤ (↑c2n : Int) + 1 ∧ (↑c2n : Int) + 1 < (↑m9 :
    Int)) ∧ ∃ (x11 : Int), w6.cell? { block := m28, off := m29 + ((↑c2n : Int) + 1).toNat * 1 } = some (Value.int IntKind.i64 x11) ∧ (m28 < w.heap.size ∨ m28 ≠ m2 ∧ m28 ≠ m1) ∧
    (-9223372036854775808 ≤ (↑c2n : Int) + 2 ∧ (↑c2n : Int) + (2 : Int) ≤ 9223372036854775807) ∧ ∃ (m30 : Nat), ∃ (m31 : Nat), a2 = some { block := m30, off := m31 } ∧ (0 ≤ (↑c2n :
    Int) + 2 ∧ (↑c2n : Int) + 2 < (↑m9 : Int)) ∧ ∃ (x12 : Int), w6.cell? { block := m30, off := m31 + ((↑c2n : Int) + 2).toNat * 1 } = some (Value.int IntKind.i64 x12) ∧ (m30 <
    w.heap.size ∨ m30 ≠ m2 ∧ m30 ≠ m1) ∧ (-9223372036854775808 ≤ (↑c2n : Int) + 3 ∧ (↑c2n : Int) + (3 : Int) ≤ 9223372036854775807) ∧ ∃ (m32 : Nat), ∃ (m33 : Nat), a2 = some
    { block := m32, off := m33 } ∧ (0 ≤ (↑c2n : Int) + 3 ∧ (↑c2n : Int) + 3 < (↑m9 : Int)) ∧ ∃ (x13 : Int), w6.cell? { block := m32, off := m33 + ((↑c2n : Int) + 3).toNat * 1 } =
    some (Value.int IntKind.i64 x13) ∧ (m32 < w.heap.size ∨ m32 ≠ m2 ∧ m32 ≠ m1) ∧ (-9223372036854775808 ≤ (↑c2n : Int) + 4 ∧ (↑c2n : Int) + (4 : Int) ≤ 9223372036854775807) ∧ ∃
    (m34 : Nat), ∃ (m35 : Nat), a2 = some { block := m34, off := m35 } ∧ (0 ≤ (↑c2n : Int) + 4 ∧ (↑c2n : Int) + 4 < (↑m9 : Int)) ∧ ∃ (x14 : Int), w6.cell?
    { block := m34, off := m35 + ((↑c2n : Int) + 4).toNat * 1 } = some (Value.int IntKind.i64 x14) ∧ (m34 < w.heap.size ∨ m34 ≠ m2 ∧ m34 ≠ m1) ∧ (-9223372036854775808 ≤ (↑c2n :
    Int) + 5 ∧ (↑c2n : Int) + (5 : Int) ≤ 9223372036854775807) ∧ ∃ (m36 : Nat), ∃ (m37 : Nat), a2 = some { block := m36, off := m37 } ∧ (0 ≤ (↑c2n : Int) + 5 ∧ (↑c2n : Int) + 5 <
    (↑m9 : Int)) ∧ ∃ (x15 : Int), w6.cell? { block := m36, off := m37 + ((↑c2n : Int) + 5).toNat * 1 } = some (Value.int IntKind.i64 x15) ∧ (m36 < w.heap.size ∨ m36 ≠ m2 ∧ m36 ≠
    m1) ∧ ∀ (m38 : Nat), w6.heap.size ≤ m38 → ∀ (w23 : World), RowKit.Below w.heap.size w w23 → KeptIn [(0, w6.heap.size)] [m38, m2, m1] w6 w23 → w23.heap[m38]? = some (Obj.cells
    #[Value.slice (subA a2 m10 (Int.toNat 0) 1) ((↑c2n : Int).toNat - Int.toNat 0) (m10 - Int.toNat 0), Value.int IntKind.i64 x10, Value.int IntKind.i64 x11, Value.int IntKind.i64
    x12, Value.int IntKind.i64 x13, Value.int IntKind.i64 x14, Value.int IntKind.i64 x15] 30) → RunsTo Try.prog (Builtin.append_ #[111, 111] 111 #[Value.slice a1 m5 m6, Value.slice
    (some { block := m38, off := 0 }) 1 1]) w23 fun (v2 : Value) (w24 : World) => ∃ (a4 : Option Addr), ∃ (m40 : Nat), ∃ (m41 : Nat), v2 = Value.slice a4 m40 m41 ∧ KeepX true
    w.heap.size [m38, m2, m1] (fun _ => False) w23 w24 ∧ (-9223372036854775808 ≤ x1 + 1 ∧ x1 + (1 : Int) ≤ 9223372036854775807) ∧ ∀ (w25 : World), RowKit.Below w.heap.size w w25 →
    Kept [m38, m2, m1] w24 w25 → F1 [Lf.sl a4 m40 m41, Lf.int IntKind.i64 (x1 + 1)] w25 ∧ F2 [Lf.sl a4 m40 m41, Lf.int IntKind.i64 (x1 + 1)] < F2 [Lf.sl a1 m5 m6, Lf.int
    IntKind.i64 x1])) ∧ (IntKind.i64.wrap (1 * 2 ^ min ((↑c2n : Int) + 6).toNat IntKind.i64.bits) ≤ x1 → ∀ (w26 : World), RowKit.Below w.heap.size w w26 → Kept [m2, m1] w3 w26 → R
    (Ending.returned (Value.slice a1 m5 m6)) w26)) : Calls Try.prog 61 #[Value.agg #[Value.int IntKind.i64 c0, Value.int IntKind.i64 c1, Value.slice c2a c2n c2c, Value.int
    IntKind.i64 c3, Value.int IntKind.i64 c4, Value.int IntKind.i64 c5, Value.int IntKind.i64 c6], Value.agg #[Value.int IntKind.i64 b0, Value.int IntKind.i64 b1, Value.int
    IntKind.i64 b2, Value.int IntKind.i64 b3, Value.int IntKind.i64 b4, Value.int IntKind.i64 b5, Value.int IntKind.i64 b6, Value.int IntKind.i64 b7]] w R := calls_of_vcj (pure :=
    true) (wrapAt := []) (muts := [10]) (esc := []) (joins := [(1000004, []), (87, [(11, 3)])]) (args := [SV.pv (PV.agg [Lf.int IntKind.i64 c0, Lf.int IntKind.i64 c1, Lf.sl c2a c2n
    c2c, Lf.int IntKind.i64 c3, Lf.int IntKind.i64 c4, Lf.int IntKind.i64 c5, Lf.int IntKind.i64 c6]), SV.pv (PV.agg [Lf.int IntKind.i64 b0, Lf.int IntKind.i64 b1, Lf.int
    IntKind.i64 b2, Lf.int IntKind.i64 b3, Lf.int IntKind.i64 b4, Lf.int IntKind.i64 b5, Lf.int IntKind.i64 b6, Lf.int IntKind.i64 b7])]) (vs := [Value.agg #[Value.int IntKind.i64
    c0, Value.int IntKind.i64 c1, Value.slice c2a c2n c2c, Value.int IntKind.i64 c3, Value.int IntKind.i64 c4, Value.int IntKind.i64 c5, Value.int IntKind.i64 c6], Value.agg
    #[Value.int IntKind.i64 b0, Value.int IntKind.i64 b1, Value.int IntKind.i64 b2, Value.int IntKind.i64 b3, Value.int IntKind.i64 b4, Value.int IntKind.i64 b5, Value.int
    IntKind.i64 b6, Value.int IntKind.i64 b7]]) Try.func61 rfl rfl rfl (Eq.mp (by kernel_rfl) h) 
set_option maxRecDepth 100000 in
set_option maxHeartbeats 2000000 in
theorem vc26 (c0 : Int) (c1 : Int) (c2a : Option Addr) (c2n : Nat) (c2c : Nat) (c3 : Int) (c4 : Int) (c5 : Int) (c6 : Int) (b0 : Int) (b1 : Int) (b2 : Int) (b3 : Int) (b4 : Int)
    (b5 : Int) (b6 : Int) (b7 : Int) (w : World) (R : Ending → World → Prop) (h : ∀ (m1 : Nat), w.heap.size ≤ m1 → ∀ (m2 : Nat), w.heap.size ≤ m2 → ∀ (m3 : Nat), w.heap.size ≤ m3 →
    ∀ (m4 : Nat), w.heap.size ≤ m4 → ∀ (w1 : World), RowKit.Below w.heap.size w w1 → Kept [m4, m3, m2, m1] w w1 → Calls Try.prog 61 #[Value.agg #[Value.int IntKind.i64 c0,
    Value.int IntKind.i64 c1, Value.slice c2a c2n c2c, Value.int IntKind.i64 c3, Value.int IntKind.i64 c4, Value.int IntKind.i64 c5, Value.int IntKind.i64 c6], Value.agg
    #[Value.int IntKind.i64 b0, Value.int IntKind.i64 b1, Value.int IntKind.i64 b2, Value.int IntKind.i64 b3, Value.int IntKind.i64 b4, Value.int IntKind.i64 b5, Value.int
    IntKind.i64 b6, Value.int IntKind.i64 b7]] w1 fun (e1 : Ending) (w2 : World) => ∃ (a1 : Option Addr), ∃ (m5 : Nat), ∃ (m6 : Nat), e1 = Ending.returned (Value.slice a1 m5 m6) ∧
    KeepX true w.heap.size [m4, m3, m2, m1] (fun _ => False) w1 w2 ∧ ∃ (m8 : Nat), ∃ (m9 : Nat), a1 = some { block := m8, off := m9 } ∧ ((0 : Int) ≤ 0 ∧ 0 < (↑m5 : Int)) ∧ ∃ (a2 :
    Option Addr), ∃ (m10 : Nat), ∃ (m11 : Nat), ∃ (x1 : Int), ∃ (x2 : Int), ∃ (x3 : Int), ∃ (x4 : Int), ∃ (x5 : Int), ∃ (x6 : Int), w2.cell?
    { block := m8, off := m9 + Int.toNat 0 * 7 } = some (Value.slice a2 m10 m11) ∧ w2.cell? { block := m8, off := m9 + Int.toNat 0 * 7 + 1 } = some (Value.int IntKind.i64 x1) ∧
    w2.cell? { block := m8, off := m9 + Int.toNat 0 * 7 + 1 + 1 } = some (Value.int IntKind.i64 x2) ∧ w2.cell? { block := m8, off := m9 + Int.toNat 0 * 7 + 1 + 1 + 1 } = some
    (Value.int IntKind.i64 x3) ∧ w2.cell? { block := m8, off := m9 + Int.toNat 0 * 7 + 1 + 1 + 1 + 1 } = some (Value.int IntKind.i64 x4) ∧ w2.cell?
    { block := m8, off := m9 + Int.toNat 0 * 7 + 1 + 1 + 1 + 1 + 1 } = some (Value.int IntKind.i64 x5) ∧ w2.cell?
    { block := m8, off := m9 + Int.toNat 0 * 7 + 1 + 1 + 1 + 1 + 1 + 1 } = some (Value.int IntKind.i64 x6) ∧ (m8 < w.heap.size ∨ m8 ≠ m4 ∧ m8 ≠ m3 ∧ m8 ≠ m2 ∧ m8 ≠ m1) ∧ ∀ (m12 :
    Nat), w2.heap.size ≤ m12 → ∀ (m13 : Nat), w2.heap.size ≤ m13 → (∀ (y1 : Addr), a1 = some y1 → y1.block < w.heap.size ∨ y1.block ≠ m12) ∧ ∃ (m14 : Nat), ∃ (m15 : Nat), a1 = some
    { block := m14, off := m15 } ∧ ((0 : Int) ≤ 0 ∧ 0 < (↑m5 : Int)) ∧ ∃ (a3 : Option Addr), ∃ (m16 : Nat), ∃ (m17 : Nat), ∃ (x7 : Int), ∃ (x8 : Int), ∃ (x9 : Int), ∃ (x10 : Int),
    ∃ (x11 : Int), ∃ (x12 : Int), w2.cell? { block := m14, off := m15 + Int.toNat 0 * 7 } = some (Value.slice a3 m16 m17) ∧ w2.cell?
    { block := m14, off := m15 + Int.toNat 0 * 7 + 1 } = some (Value.int IntKind.i64 x7) ∧ w2.cell? { block := m14, off := m15 + Int.toNat 0 * 7 + 1 + 1 } = some (Value.int
    IntKind.i64 x8) ∧ w2.cell? { block := m14, off := m15 + Int.toNat 0 * 7 + 1 + 1 + 1 } = some (Value.int IntKind.i64 x9) ∧ w2.cell?
    { block := m14, off := m15 + Int.toNat 0 * 7 + 1 + 1 + 1 + 1 } = some (Value.int IntKind.i64 x10) ∧ w2.cell? { block := m14, off := m15 + Int.toNat 0 * 7 + 1 + 1 + 1 + 1 + 1 }
    = some (Value.int IntKind.i64 x11) ∧ w2.cell? { block := m14, off := m15 + Int.toNat 0 * 7 + 1 + 1 + 1 + 1 + 1 + 1 } = some (Value.int IntKind.i64 x12) ∧ (m14 < w.heap.size ∨
    m14 ≠ m13 ∧ m14 ≠ m12 ∧ m14 ≠ m4 ∧ m14 ≠ m3 ∧ m14 ≠ m2 ∧ m14 ≠ m1) ∧ ∃ (F1 : List Lf → World → Prop), ∃ (F2 : List Lf → Nat), (∀ (w4 : World), RowKit.Below w.heap.size w w4 →
    Kept [m13, m12, m4, m3, m2, m1] w2 w4 → F1 [Lf.int IntKind.i64 1, Lf.sl a2 m10 m11, Lf.int IntKind.i64 x1, Lf.int IntKind.i64 x2, Lf.int IntKind.i64 x3, Lf.int IntKind.i64 x4,
    Lf.int IntKind.i64 x5, Lf.int IntKind.i64 x6, Lf.sl a3 m16 m17, Lf.int IntKind.i64 x7, Lf.int IntKind.i64 x8, Lf.int IntKind.i64 x9, Lf.int IntKind.i64 x10, Lf.int IntKind.i64
    x11, Lf.int IntKind.i64 x12] w4) ∧ ∀ (x13 : Int) (a4 : Option Addr) (m18 m19 : Nat) (x14 x15 x16 x17 x18 x19 : Int) (a5 : Option Addr) (m20 m21 : Nat) (x20 x21 x22 x23 x24 x25
    : Int) (w5 : World), RowKit.Below w.heap.size w w5 → F1 [Lf.int IntKind.i64 x13, Lf.sl a4 m18 m19, Lf.int IntKind.i64 x14, Lf.int IntKind.i64 x15, Lf.int IntKind.i64 x16,
    Lf.int IntKind.i64 x17, Lf.int IntKind.i64 x18, Lf.int IntKind.i64 x19, Lf.sl a5 m20 m21, Lf.int IntKind.i64 x20, Lf.int IntKind.i64 x21, Lf.int IntKind.i64 x22, Lf.int
    IntKind.i64 x23, Lf.int IntKind.i64 x24, Lf.int IntKind.i64 x25] w5 → (x13 < (↑m5 : Int) → ∃ (m22 : Nat), ∃ (m23 : Nat), a1 = some { block := m22, off := m23 } ∧ (0 ≤ x13 ∧ x13
    < (↑m5 : Int)) ∧ ∃ (a6 : Option Addr), ∃ (m24 : Nat), ∃ (m25 : Nat), ∃ (x26 : Int), ∃ (x27 : Int), ∃ (x28 : Int), ∃ (x29 : Int), ∃ (x30 : Int), ∃ (x31 : Int), w5.cell?
    { block := m22, off := m23 + x13.toNat * 7 } = some (Value.slice a6 m24 m25) ∧ w5.cell? { block := m22, off := m23 + x13.toNat * 7 + 1 } = some (Value.int IntKind.i64 x26) ∧
    w5.cell? { block := m22, off := m23 + x13.toNat * 7 + 1 + 1 } = some (Value.int IntKind.i64 x27) ∧ w5.cell? { block := m22, off := m23 + x13.toNat * 7 + 1 + 1 + 1 } = some
    (Value.int IntKind.i64 x28) ∧ w5.cell? { block := m22, off := m23 + x13.toNat * 7 + 1 + 1 + 1 + 1 } = some (Value.int IntKind.i64 x29) ∧ w5.cell?
    { block := m22, off := m23 + x13.toNat * 7 + 1 + 1 + 1 + 1 + 1 } = some (Value.int IntKind.i64 x30) ∧ w5.cell?
    { block := m22, off := m23 + x13.toNat * 7 + 1 + 1 + 1 + 1 + 1 + 1 } = some (Value.int IntKind.i64 x31) ∧ (m22 < w.heap.size ∨ m22 ≠ m13 ∧ m22 ≠ m12 ∧ m22 ≠ m4 ∧ m22 ≠ m3 ∧ m22
    ≠ m2 ∧ m22 ≠ m1) ∧ ∀ (w6 : World), RowKit.Below w.heap.size w w6 → KeptIn [(0, w5.heap.size)] [m13, m12, m4, m3, m2, m1] w5 w6 → Calls Try.prog 20 #[Value.agg #[Value.int
    IntKind.i64 c0, Value.int IntKind.i64 c1, Value.slice c2a c2n c2c, Value.int IntKind.i64 c3, Value.int IntKind.i64 c4, Value.int IntKind.i64 c5, Value.int IntKind.i64 c6],
    Value.agg #[Value.slice a6 m24 m25, Value.int IntKind.i64 x26, Value.int IntKind.i64 x27, Value.int IntKind.i64 x28, Value.int IntKind.i64 x29, Value.int IntKind.i64 x30,
    Value.int IntKind.i64 x31]] w6 fun (e2 : Ending) (w7 : World) => ∃ (x32 : Int), e2 = Ending.returned (Value.int IntKind.i64 x32) ∧ KeepX true w.heap.size [m13, m12, m4, m3, m2,
    m1] (fun _ => False) w6 w7 ∧ ∀ (w8 : World), RowKit.Below w.heap.size w w8 → Kept [m13, m12, m4, m3, m2, m1] w7 w8 → Calls Try.prog 20 #[Value.agg #[Value.int IntKind.i64 c0,
    Value.int IntKind.i64 c1, Value.slice c2a c2n c2c, Value.int IntKind.i64 c3, Value.int IntKind.i64 c4, Value.int IntKind.i64 c5, Value.int IntKind.i64 c6], Value.agg
    #[Value.slice a4 m18 m19, Value.int IntKind.i64 x14, Value.int IntKind.i64 x15, Value.int IntKind.i64 x16, Value.int IntKind.i64 x17, Value.int IntKind.i64 x18, Value.int
    IntKind.i64 x19]] w8 fun (e3 : Ending) (w9 : World) => ∃ (x33 : Int), e3 = Ending.returned (Value.int IntKind.i64 x33) ∧ KeepX true w.heap.size [m13, m12, m4, m3, m2, m1] (fun
    _ => False) w8 w9 ∧ (x32 < x33 → ∃ (m28 : Nat), ∃ (m29 : Nat), a1 = some { block := m28, off := m29 } ∧ (0 ≤ x13 ∧ x13 < (↑m5 : Int)) ∧ ∃ (a7 : Option Addr), ∃ (m30 : Nat), ∃
    (m31 : Nat), ∃ (x34 : Int), ∃ (x35 : Int), ∃ (x36 : Int), ∃ (x37 : Int), ∃ (x38 : Int), ∃ (x39 : Int), w9.cell? { block := m28, off := m29 + x13.toNat * 7 } = some (Value.slice
    a7 m30 m31) ∧ w9.cell? { block := m28, off := m29 + x13.toNat * 7 + 1 } = some (Value.int IntKind.i64 x34) ∧ w9.cell? { block := m28, off := m29 + x13.toNat * 7 + 1 + 1 } =
    some (Value.int IntKind.i64 x35) ∧ w9.cell? { block := m28, off := m29 + x13.toNat * 7 + 1 + 1 + 1 } = some (Value.int IntKind.i64 x36) ∧ w9.cell?
    { block := m28, off := m29 + x13.toNat * 7 + 1 + 1 + 1 + 1 } = some (Value.int IntKind.i64 x37) ∧ w9.cell? { block := m28, off := m29 + x13.toNat * 7 + 1 + 1 + 1 + 1 + 1 } =
    some (Value.int IntKind.i64 x38) ∧ w9.cell? { block := m28, off := m29 + x13.toNat * 7 + 1 + 1 + 1 + 1 + 1 + 1 } = some (Value.int IntKind.i64 x39) ∧ (m28 < w.heap.size ∨ m28 ≠
    m13 ∧ m28 ≠ m12 ∧ m28 ≠ m4 ∧ m28 ≠ m3 ∧ m28 ≠ m2 ∧ m28 ≠ m1) ∧ (-9223372036854775808 ≤ x13 + 1 ∧ x13 + (1 : Int) ≤ 9223372036854775807) ∧ ∀ (w10 : World), RowKit.Below
    w.heap.size w w10 → Kept [m13, m12, m4, m3, m2, m1] w9 w10 → F1 [Lf.int IntKind.i64 (x13 + 1), Lf.sl a7 m30 m31, Lf.int IntKind.i64 x34, Lf.int IntKind.i64 x35, Lf.int
    IntKind.i64 x36, Lf.int IntKind.i64 x37, Lf.int IntKind.i64 x38, Lf.int IntKind.i64 x39, Lf.sl a5 m20 m21, Lf.int IntKind.i64 x20, Lf.int IntKind.i64 x21, Lf.int IntKind.i64
    x22, Lf.int IntKind.i64 x23, Lf.int IntKind.i64 x24, Lf.int IntKind.i64 x25] w10 ∧ F2 [Lf.int IntKind.i64 (x13 + 1), Lf.sl a7 m30 m31, Lf.int IntKind.i64 x34, Lf.int
    IntKind.i64 x35, Lf.int IntKind.i64 x36, Lf.int IntKind.i64 x37, Lf.int IntKind.i64 x38, Lf.int IntKind.i64 x39, Lf.sl a5 m20 m21, Lf.int IntKind.i64 x20, Lf.int IntKind.i64
    x21, Lf.int IntKind.i64 x22, Lf.int IntKind.i64 x23, Lf.int IntKind.i64 x24, Lf.int IntKind.i64 x25] < F2 [Lf.int IntKind.i64 x13, Lf.sl a4 m18 m19, Lf.int IntKind.i64 x14,
    Lf.int IntKind.i64 x15, Lf.int IntKind.i64 x16, Lf.int IntKind.i64 x17, Lf.int IntKind.i64 x18, Lf.int IntKind.i64 x19, Lf.sl a5 m20 m21, Lf.int IntKind.i64 x20, Lf.int
    IntKind.i64 x21, Lf.int IntKind.i64 x22, Lf.int IntKind.i64 x23, Lf.int IntKind.i64 x24, Lf.int IntKind.i64 x25]) ∧ (x33 ≤ x32 → ∀ (w11 : World), RowKit.Below w.heap.size w w11
    → Kept [m13, m12, m4, m3, m2, m1] w9 w11 → Calls Try.prog 20 #[Value.agg #[Value.int IntKind.i64 c0, Value.int IntKind.i64 c1, Value.slice c2a c2n c2c, Value.int IntKind.i64
    c3, Value.int IntKind.i64 c4, Value.int IntKind.i64 c5, Value.int IntKind.i64 c6], Value.agg #[Value.slice a5 m20 m21, Value.int IntKind.i64 x20, Value.int IntKind.i64 x21,
    Value.int IntKind.i64 x22, Value.int IntKind.i64 x23, Value.int IntKind.i64 x24, Value.int IntKind.i64 x25]] w11 fun (e4 : Ending) (w12 : World) => ∃ (x40 : Int), e4 =
    Ending.returned (Value.int IntKind.i64 x40) ∧ KeepX true w.heap.size [m13, m12, m4, m3, m2, m1] (fun _ => False) w11 w12 ∧ (x40 < x32 → ∃ (m33 : Nat), ∃ (m34 : Nat), a1 = some
    { block := m33, off := m34 } ∧ (0 ≤ x13 ∧ x13 < (↑m5 : Int)) ∧ ∃ (a8 : Option Addr), ∃ (m35 : Nat), ∃ (m36 : Nat), ∃ (x41 : Int), ∃ (x42 : Int), ∃ (x43 : Int), ∃ (x44 : Int), ∃
    (x45 : Int), ∃ (x46 : Int), w12.cell? { block := m33, off := m34 + x13.toNat * 7 } = some (Value.slice a8 m35 m36) ∧ w12.cell? { block := m33, off := m34 + x13.toNat * 7 + 1 }
    = some (Value.int IntKind.i64 x41) ∧ w12.cell? { block := m33, off := m34 + x13.toNat * 7 + 1 + 1 } = some (Value.int IntKind.i64 x42) ∧ w12.cell?
    { block := m33, off := m34 + x13.toNat * 7 + 1 + 1 + 1 } = some (Value.int IntKind.i64 x43) ∧ w12.cell? { block := m33, off := m34 + x13.toNat * 7 + 1 + 1 + 1 + 1 } = some
    (Value.int IntKind.i64 x44) ∧ w12.cell? { block := m33, off := m34 + x13.toNat * 7 + 1 + 1 + 1 + 1 + 1 } = some (Value.int IntKind.i64 x45) ∧ w12.cell?
    { block := m33, off := m34 + x13.toNat * 7 + 1 + 1 + 1 + 1 + 1 + 1 } = some (Value.int IntKind.i64 x46) ∧ (m33 < w.heap.size ∨ m33 ≠ m13 ∧ m33 ≠ m12 ∧ m33 ≠ m4 ∧ m33 ≠ m3 ∧ m33
    ≠ m2 ∧ m33 ≠ m1) ∧ (-9223372036854775808 ≤ x13 + 1 ∧ x13 + (1 : Int) ≤ 9223372036854775807) ∧ ∀ (w13 : World), RowKit.Below w.heap.size w w13 → Kept [m13, m12, m4, m3, m2, m1]
    w12 w13 → F1 [Lf.int IntKind.i64 (x13 + 1), Lf.sl a4 m18 m19, Lf.int IntKind.i64 x14, Lf.int IntKind.i64 x15, Lf.int IntKind.i64 x16, Lf.int IntKind.i64 x17, Lf.int IntKind.i64
    x18, Lf.int IntKind.i64 x19, Lf.sl a8 m35 m36, Lf.int IntKind.i64 x41, Lf.int IntKind.i64 x42, Lf.int IntKind.i64 x43, Lf.int IntKind.i64 x44, Lf.int IntKind.i64 x45, Lf.int
    IntKind.i64 x46] w13 ∧ F2 [Lf.int IntKind.i64 (x13 + 1), Lf.sl a4 m18 m19, Lf.int IntKind.i64 x14, Lf.int IntKind.i64 x15, Lf.int IntKind.i64 x16, Lf.int IntKind.i64 x17,
    Lf.int IntKind.i64 x18, Lf.int IntKind.i64 x19, Lf.sl a8 m35 m36, Lf.int IntKind.i64 x41, Lf.int IntKind.i64 x42, Lf.int IntKind.i64 x43, Lf.int IntKind.i64 x44, Lf.int
    IntKind.i64 x45, Lf.int IntKind.i64 x46] < F2 [Lf.int IntKind.i64 x13, Lf.sl a4 m18 m19, Lf.int IntKind.i64 x14, Lf.int IntKind.i64 x15, Lf.int IntKind.i64 x16, Lf.int
    IntKind.i64 x17, Lf.int IntKind.i64 x18, Lf.int IntKind.i64 x19, Lf.sl a5 m20 m21, Lf.int IntKind.i64 x20, Lf.int IntKind.i64 x21, Lf.int IntKind.i64 x22, Lf.int IntKind.i64
    x23, Lf.int IntKind.i64 x24, Lf.int IntKind.i64 x25]) ∧ (x32 ≤ x40 → (-9223372036854775808 ≤ x13 + 1 ∧ x13 + (1 : Int) ≤ 9223372036854775807) ∧ ∀ (w14 : World), RowKit.Below
    w.heap.size w w14 → Kept [m13, m12, m4, m3, m2, m1] w12 w14 → F1 [Lf.int IntKind.i64 (x13 + 1), Lf.sl a4 m18 m19, Lf.int IntKind.i64 x14, Lf.int IntKind.i64 x15, Lf.int
    IntKind.i64 x16, Lf.int IntKind.i64 x17, Lf.int IntKind.i64 x18, Lf.int IntKind.i64 x19, Lf.sl a5 m20 m21, Lf.int IntKind.i64 x20, Lf.int IntKind.i64 x21, Lf.int IntKind.i64
    x22, Lf.int IntKind.i64 x23, Lf.int IntKind.i64 x24, Lf.int IntKind.i64 x25] w14 ∧ F2 [Lf.int IntKind.i64 (x13 + 1), Lf.sl a4 m18 m19, Lf.int IntKind.i64 x14, Lf.int
    IntKind.i64 x15, Lf.int IntKind.i64 x16, Lf.int IntKind.i64 x17, Lf.int IntKind.i64 x18, Lf.int IntKind.i64 x19, Lf.sl a5 m20 m21, Lf.int IntKind.i64 x20, Lf.int IntKind.i64
    x21, Lf.int IntKind.i64 x22, Lf.int IntKind.i64 x23, Lf.int IntKind.i64 x24, Lf.int IntKind.i64 x25] < F2 [Lf.int IntKind.i64 x13, Lf.sl a4 m18 m19, Lf.int IntKind.i64 x14,
    Lf.int IntKind.i64 x15, Lf.int IntKind.i64 x16, Lf.int IntKind.i64 x17, Lf.int IntKind.i64 x18, Lf.int IntKind.i64 x19, Lf.sl a5 m20 m21, Lf.int IntKind.i64 x20, Lf.int
    IntKind.i64 x21, Lf.int IntKind.i64 x22, Lf.int IntKind.i64 x23, Lf.int IntKind.i64 x24, Lf.int IntKind.i64 x25]))) ∧ ((↑m5 : Int) ≤ x13 → ∀ (w15 : World), RowKit.Below
    w.heap.size w w15 → Kept [m13, m12, m4, m3, m2, m1] w5 w15 → R (Ending.returned (Value.tuple #[Value.agg #[Value.slice a4 m18 m19, Value.int IntKind.i64 x14, Value.int
    IntKind.i64 x15, Value.int IntKind.i64 x16, Value.int IntKind.i64 x17, Value.int IntKind.i64 x18, Value.int IntKind.i64 x19], Value.agg #[Value.slice a5 m20 m21, Value.int
    IntKind.i64 x20, Value.int IntKind.i64 x21, Value.int IntKind.i64 x22, Value.int IntKind.i64 x23, Value.int IntKind.i64 x24, Value.int IntKind.i64 x25]])) w15)) : Calls
    Try.prog 26 #[Value.agg #[Value.int IntKind.i64 c0, Value.int IntKind.i64 c1, Value.slice c2a c2n c2c, Value.int IntKind.i64 c3, Value.int IntKind.i64 c4, Value.int IntKind.i64
    c5, Value.int IntKind.i64 c6], Value.agg #[Value.int IntKind.i64 b0, Value.int IntKind.i64 b1, Value.int IntKind.i64 b2, Value.int IntKind.i64 b3, Value.int IntKind.i64 b4,
    Value.int IntKind.i64 b5, Value.int IntKind.i64 b6, Value.int IntKind.i64 b7]] w R := calls_of_vc (pure := true) (wrapAt := []) (muts := [7, 8]) (esc := []) (args := [SV.pv
    (PV.agg [Lf.int IntKind.i64 c0, Lf.int IntKind.i64 c1, Lf.sl c2a c2n c2c, Lf.int IntKind.i64 c3, Lf.int IntKind.i64 c4, Lf.int IntKind.i64 c5, Lf.int IntKind.i64 c6]), SV.pv
    (PV.agg [Lf.int IntKind.i64 b0, Lf.int IntKind.i64 b1, Lf.int IntKind.i64 b2, Lf.int IntKind.i64 b3, Lf.int IntKind.i64 b4, Lf.int IntKind.i64 b5, Lf.int IntKind.i64 b6, Lf.int
    IntKind.i64 b7])]) (vs := [Value.agg #[Value.int IntKind.i64 c0, Value.int IntKind.i64 c1, Value.slice c2a c2n c2c, Value.int IntKind.i64 c3, Value.int IntKind.i64 c4,
    Value.int IntKind.i64 c5, Value.int IntKind.i64 c6], Value.agg #[Value.int IntKind.i64 b0, Value.int IntKind.i64 b1, Value.int IntKind.i64 b2, Value.int IntKind.i64 b3,
    Value.int IntKind.i64 b4, Value.int IntKind.i64 b5, Value.int IntKind.i64 b6, Value.int IntKind.i64 b7]]) Try.func26 rfl rfl rfl (Eq.mp (by kernel_rfl) h) 
set_option maxRecDepth 100000 in
set_option maxHeartbeats 2000000 in
theorem vc25 (a0a : Option Addr) (a0n : Nat) (a0c : Nat) (a1 : Int) (a2 : Int) (a3 : Int) (a4 : Int) (a5 : Int) (a6 : Int) (b0a : Option Addr) (b0n : Nat) (b0c : Nat) (b1 : Int)
    (b2 : Int) (b3 : Int) (b4 : Int) (b5 : Int) (b6 : Int) (w : World) (R : Ending → World → Prop) (h : ∀ (m1 : Nat), w.heap.size ≤ m1 → ∀ (m2 : Nat), w.heap.size ≤ m2 → ((↑a0n :
    Int) ≠ (↑b0n : Int) → ∀ (w1 : World), RowKit.Below w.heap.size w w1 → Kept [m2, m1] w w1 → R (Ending.returned (Value.bool false)) w1) ∧ ((↑a0n : Int) = (↑b0n : Int) → ∃ (F1 :
    List Lf → World → Prop), ∃ (F2 : List Lf → Nat), (∀ (w3 : World), RowKit.Below w.heap.size w w3 → Kept [m2, m1] w w3 → F1 [Lf.bool false, Lf.int IntKind.i64 0] w3) ∧ ∀ (t1 :
    Bool) (x1 : Int) (w4 : World), RowKit.Below w.heap.size w w4 → F1 [Lf.bool t1, Lf.int IntKind.i64 x1] w4 → (x1 < (↑a0n : Int) → ∃ (m3 : Nat), ∃ (m4 : Nat), a0a = some
    { block := m3, off := m4 } ∧ (0 ≤ x1 ∧ x1 < (↑a0n : Int)) ∧ ∃ (x2 : Int), w4.cell? { block := m3, off := m4 + x1.toNat * 1 } = some (Value.int IntKind.i64 x2) ∧ (m3 <
    w.heap.size ∨ m3 ≠ m2 ∧ m3 ≠ m1) ∧ ∃ (m5 : Nat), ∃ (m6 : Nat), b0a = some { block := m5, off := m6 } ∧ (0 ≤ x1 ∧ x1 < (↑b0n : Int)) ∧ ∃ (x3 : Int), w4.cell?
    { block := m5, off := m6 + x1.toNat * 1 } = some (Value.int IntKind.i64 x3) ∧ (m5 < w.heap.size ∨ m5 ≠ m2 ∧ m5 ≠ m1) ∧ (x2 ≠ x3 → ∀ (w5 : World), RowKit.Below w.heap.size w w5
    → Kept [m2, m1] w4 w5 → R (Ending.returned (Value.bool false)) w5) ∧ (x2 = x3 → (-9223372036854775808 ≤ x1 + 1 ∧ x1 + (1 : Int) ≤ 9223372036854775807) ∧ ∀ (w6 : World),
    RowKit.Below w.heap.size w w6 → Kept [m2, m1] w4 w6 → F1 [Lf.bool t1, Lf.int IntKind.i64 (x1 + 1)] w6 ∧ F2 [Lf.bool t1, Lf.int IntKind.i64 (x1 + 1)] < F2 [Lf.bool t1, Lf.int
    IntKind.i64 x1])) ∧ ((↑a0n : Int) ≤ x1 → (a1 = b1 → (a2 = b2 → (a3 = b3 → (a4 = b4 → (a5 = b5 → ∀ (w7 : World), RowKit.Below w.heap.size w w7 → Kept [m2, m1] w4 w7 → R
    (Ending.returned (Value.bool (a6 == b6))) w7) ∧ (a5 ≠ b5 → ∀ (w8 : World), RowKit.Below w.heap.size w w8 → Kept [m2, m1] w4 w8 → R (Ending.returned (Value.bool false)) w8)) ∧
    (a4 ≠ b4 → ∀ (w9 : World), RowKit.Below w.heap.size w w9 → Kept [m2, m1] w4 w9 → R (Ending.returned (Value.bool false)) w9)) ∧ (a3 ≠ b3 → ∀ (w10 : World), RowKit.Below
    w.heap.size w w10 → Kept [m2, m1] w4 w10 → R (Ending.returned (Value.bool false)) w10)) ∧ (a2 ≠ b2 → ∀ (w11 : World), RowKit.Below w.heap.size w w11 → Kept [m2, m1] w4 w11 → R
    (Ending.returned (Value.bool false)) w11)) ∧ (a1 ≠ b1 → ∀ (w12 : World), RowKit.Below w.heap.size w w12 → Kept [m2, m1] w4 w12 → R (Ending.returned (Value.bool false)) w12))))
    : Calls Try.prog 25 #[Value.agg #[Value.slice a0a a0n a0c, Value.int IntKind.i64 a1, Value.int IntKind.i64 a2, Value.int IntKind.i64 a3, Value.int IntKind.i64 a4, Value.int
    IntKind.i64 a5, Value.int IntKind.i64 a6], Value.agg #[Value.slice b0a b0n b0c, Value.int IntKind.i64 b1, Value.int IntKind.i64 b2, Value.int IntKind.i64 b3, Value.int
    IntKind.i64 b4, Value.int IntKind.i64 b5, Value.int IntKind.i64 b6]] w R := calls_of_vc (pure := true) (wrapAt := []) (muts := []) (esc := []) (args := [SV.pv (PV.agg [Lf.sl
    a0a a0n a0c, Lf.int IntKind.i64 a1, Lf.int IntKind.i64 a2, Lf.int IntKind.i64 a3, Lf.int IntKind.i64 a4, Lf.int IntKind.i64 a5, Lf.int IntKind.i64 a6]), SV.pv (PV.agg [Lf.sl
    b0a b0n b0c, Lf.int IntKind.i64 b1, Lf.int IntKind.i64 b2, Lf.int IntKind.i64 b3, Lf.int IntKind.i64 b4, Lf.int IntKind.i64 b5, Lf.int IntKind.i64 b6])]) (vs := [Value.agg
    #[Value.slice a0a a0n a0c, Value.int IntKind.i64 a1, Value.int IntKind.i64 a2, Value.int IntKind.i64 a3, Value.int IntKind.i64 a4, Value.int IntKind.i64 a5, Value.int
    IntKind.i64 a6], Value.agg #[Value.slice b0a b0n b0c, Value.int IntKind.i64 b1, Value.int IntKind.i64 b2, Value.int IntKind.i64 b3, Value.int IntKind.i64 b4, Value.int
    IntKind.i64 b5, Value.int IntKind.i64 b6]]) Try.func25 rfl rfl rfl (Eq.mp (by kernel_rfl) h) 
end Go.Proofs
end
section
/- The reference's Corners: what it returns, in memory. -/
namespace Go.Proofs.R03
open Go.Vc Go.RowKit Go.Proofs

/-- The value of a truth of ends: the k-th truth, the i-th value. -/
def cv (l : List Sp) (k i : Nat) : Int := if k / 2 ^ (l.length - 1 - i) % 2 = 1 then (l.getD i (0, 0)).2 else (l.getD i (0, 0)).1
def cvs (l : List Sp) (k j : Nat) : List Int := (List.range j).map (cv l k)
theorem cvs_len (l : List Sp) (k j : Nat) : (cvs l k j).length = j := by simp [cvs]
theorem cvs_step (l : List Sp) (k j : Nat) : cvs l k (j + 1) = cvs l k j ++ [cv l k j] := by simp [cvs, List.range_succ]
theorem cvs_at {l : List Sp} {k j i : Nat} (h : i < j) : (cvs l k j)[i]? = some (cv l k i) := by simp [cvs, h]
def trOf (n : Nat) (v : List Int) : Tr := ⟨v.take n, v.getD n 0, v.getD (n + 1) 0, v.getD (n + 2) 0, v.getD (n + 3) 0, v.getD (n + 4) 0, v.getD (n + 5) 0⟩
def cornerT (c : Clk) (b : Bn) (k : Nat) : Tr := trOf c.rods.length (cvs (newK c b).all k (c.rods.length + 6))

theorem pow_wrap {n : Nat} (h : n ≤ 8) : IntKind.i64.wrap (1 * 2 ^ min ((n : Int) + 6).toNat IntKind.i64.bits) = ((2 ^ (n + 6) : Nat) : Int) := by
  have : n = 0 ∨ n = 1 ∨ n = 2 ∨ n = 3 ∨ n = 4 ∨ n = 5 ∨ n = 6 ∨ n = 7 ∨ n = 8 := by omega
  rcases this with rfl | rfl | rfl | rfl | rfl | rfl | rfl | rfl | rfl <;> decide
theorem bit_wrap {x : Int} {e : Int} (h0 : 0 ≤ x ∧ x ≤ 1000000) (he : 0 ≤ e ∧ e ≤ 60) : IntKind.i64.wrap (↑(BitVec.ofInt IntKind.i64.bits (x.fdiv (2 ^ min e.toNat IntKind.i64.bits)) &&& BitVec.ofInt IntKind.i64.bits 1).toNat : Int) = ((x.toNat / 2 ^ e.toNat % 2 : Nat) : Int) := by
  obtain ⟨q, rfl⟩ : ∃ q : Nat, x = q := ⟨x.toNat, by omega⟩
  have hb : IntKind.i64.bits = 64 := rfl
  rw [hb, show min e.toNat 64 = e.toNat by omega, Int.fdiv_eq_ediv_of_nonneg _ (Int.le_of_lt (Int.pow_pos (by decide)))]
  have e1 : (q : Int) / 2 ^ e.toNat = ((q / 2 ^ e.toNat : Nat) : Int) := by rw [Int.natCast_ediv, Int.natCast_pow]; rfl
  rw [e1, Int.toNat_natCast]
  have hq : q / 2 ^ e.toNat ≤ 1000000 := Nat.le_trans (Nat.div_le_self _ _) (by omega)
  generalize q / 2 ^ e.toNat = p at *
  have e2 : (BitVec.ofInt 64 (p : Int) &&& BitVec.ofInt 64 1).toNat = p % 2 := by
    rw [BitVec.toNat_and, BitVec.ofInt_natCast, BitVec.toNat_ofNat]
    have : (BitVec.ofInt 64 1).toNat = 1 := by decide
    rw [this, Nat.mod_eq_of_lt (by omega), Nat.and_one_is_mod]
  rw [e2]
  have : p % 2 = 0 ∨ p % 2 = 1 := by omega
  rcases this with h | h <;> rw [h] <;> rfl

/-- A truth, and where its growing lies. -/
structure TE where
  t : Tr
  g : Nat
  c : Nat
def teC (e : TE) : List Value := [.slice (some ⟨e.g, 0, none⟩) e.t.grow.length e.c, I e.t.air, I e.t.drive, I e.t.heat, I e.t.press, I e.t.arc, I e.t.force]
def tes (l : List TE) : List Value := l.flatMap teC
theorem tes_app (l m : List TE) : tes (l ++ m) = tes l ++ tes m := by simp [tes]
theorem tes_len (l : List TE) : (tes l).length = l.length * 7 := by
  induction l with
  | nil => rfl
  | cons s l ih => rw [show s :: l = [s] ++ l from rfl, tes_app, List.length_append, ih]; simp [tes, teC]; omega
/-- Truths in a row: their growing in other blocks. -/
structure OutI (lo hi : Nat) (ns : List Nat) (es : List TE) (a : Option Addr) (n c : Nat) (w : World) : Prop where
  n_eq : n = es.length
  row : ((∃ b0, a = some ⟨b0, 0, none⟩) ∧ es = [] ∧ c = 0) ∨ (Row 30 7 lo (es.map (·.g) ++ ns) a n c (tes es) w ∧ ∀ b o, a = some ⟨b, o, none⟩ → b < hi)
  each : ∀ e ∈ es, (lo ≤ e.g ∧ e.g < hi) ∧ e.g ∉ ns ∧ Cells w (some ⟨e.g, 0, none⟩) (ints e.t.grow)
theorem OutI.chg {lo hi : Nat} {ns : List Nat} {es : List TE} {a : Option Addr} {n c : Nat} {w w' : World} {S : List Nat} (h : OutI lo hi ns es a n c w) (hc : Chg S w w') (hs : ∀ x ∈ S, x ∈ ns ∨ hi ≤ x) : OutI lo hi ns es a n c w' := by
  refine ⟨h.n_eq, ?_, fun e he => ?_⟩
  · rcases h.row with g | ⟨g, k⟩
    · exact .inl g
    · refine .inr ⟨g.of fun b o e => hc.keep b (g.lt b o e).2 fun hm => ?_, k⟩
      rcases hs b hm with h1 | h1
      · exact g.ns b o e (List.mem_append_right _ h1)
      · have := k b o e; omega
  · obtain ⟨h1, h2, h3⟩ := h.each e he
    refine ⟨h1, h2, fun i v hv => ?_⟩
    obtain ⟨b, o, e', hcell⟩ := h3 i v hv
    cases e'
    exact ⟨e.g, 0, rfl, hc.cell (fun hm => by rcases hs _ hm with h4 | h4; exact h2 h4; omega) hcell⟩

theorem all_getD_lo {c : Clk} {b : Bn} {i : Nat} (h : i < c.rods.length) : (newK c b).all.getD i (0, 0) = (c.rods[i].lo, c.rods[i].hi) := by
  have : (newK c b).all[i]? = some (c.rods[i].lo, c.rods[i].hi) := by rw [all_lo' (by rw [newK_len]; exact h)]; simp [newK, h]
  rw [List.getD, this]; rfl
theorem all_getD_hi {c : Clk} {b : Bn} (j : Nat) : (newK c b).all.getD (c.rods.length + j) (0, 0) = [c.air, c.drive, b.heat, b.press, b.arc, b.force].getD j (0, 0) := by
  have := all_hi' (newK c b) j
  rw [newK_len] at this
  rw [List.getD, this]; rfl
theorem newK_all_len (c : Clk) (b : Bn) : (newK c b).all.length = c.rods.length + 6 := by rw [all_len, newK_len]

def CornersPost (c : Clk) (b : Bn) (w : World) (e : Ending) (w' : World) : Prop :=
  ∃ a n es, e = .returned (.slice a es.length n) ∧ Below w.heap.size w w' ∧ es.map (·.t) = (List.range (2 ^ (c.rods.length + 6))).map (cornerT c b) ∧ OutI w.heap.size w'.heap.size [] es a es.length n w'

set_option maxHeartbeats 4000000 in
theorem corners_any (c : Clk) (b : Bn) {ra : Option Addr} {rc : Nat} {w : World} (hc : Cells w ra (rods c.rods)) (h8 : c.rods.length ≤ 8) : Calls Try.prog 61 #[c.v ra rc, b.v] w (CornersPost c b w) := by
  have hpow := pow_wrap h8
  have hp14 : 2 ^ (c.rods.length + 6) ≤ 16384 := Nat.pow_le_pow_right (n := 2) (by decide) (show c.rods.length + 6 ≤ 14 by omega)
  unfold CornersPost
  generalize 2 ^ (c.rods.length + 6) = N at *
  refine vc61 _ _ _ _ _ _ _ _ _ _ _ _ _ _ _ _ _ w _ fun m1 h1 m2 h2 m3 h3 => ?_
  refine ⟨fun ls w' => match ls with | [.sl a n g, .int _ x] => 0 ≤ x ∧ x ≤ (N : Int) ∧ (∀ y ∈ [m2, m1], y < w'.heap.size) ∧ ∃ es, es.map (·.t) = (List.range x.toNat).map (cornerT c b) ∧ OutI w.heap.size w'.heap.size [m2, m1] es a n g w' | _ => False,
    fun ls => match ls with | [_, .int _ x] => ((N : Int) - x).toNat | _ => 0, fun w2 hb2 hk2 hc2 => ⟨by omega, by omega, fun y hy => hk2.own y (by simp at hy ⊢; omega), [], rfl, ⟨rfl, .inl ⟨⟨m3, rfl⟩, rfl, rfl⟩, by simp⟩⟩, ?_⟩
  rintro a n g x w3 hb3 ⟨x0, xl, ho3, es, hes, hO⟩
  have hz3 := hb3.size
  have hx6 : x ≤ 16384 := by omega
  refine ⟨by omega, by omega, by omega, ?_⟩
  rw [hpow]
  refine ⟨fun hx => fun m7 h7 => ?_, fun hx w26 hb26 hk26 => ?_⟩
  · refine ⟨fun ls w' => match ls with | [.sl v n' g', .int _ i] => 0 ≤ i ∧ i ≤ c.rods.length + 6 ∧ n' = i.toNat ∧ w3.heap.size ≤ w'.heap.size ∧ (∀ y ∈ [m2, m1], y < w'.heap.size) ∧ RowE 3 1 w3.heap.size [m2, m1] v n' g' (ints (cvs (newK c b).all x.toNat i.toNat)) w' ∧ OutI w.heap.size w3.heap.size [m2, m1] es a n g w' | _ => False,
      fun ls => match ls with | [_, .int _ i] => ((c.rods.length : Int) + 6 - i).toNat | _ => 0, fun w5 hb5 hk5 hc5 => ⟨by omega, by omega, rfl, hk5.size, fun y hy => hk5.own y (by simp at hy ⊢; omega), RowE.lit, hO.chg (Chg.kept hk5) (fun y hy => by simp at hy ⊢; omega)⟩, ?_⟩
    rintro v n' g' i w6 hb6 ⟨i0, il, rfl, z6, ho6, hV, hO6⟩
    have hal := newK_all_len c b
    refine ⟨by omega, fun hi m11 h11 => ?_, fun hi => ?_⟩
    · refine ⟨fun ls w' => match ls with | [.int _ p, .int _ q] => (p, q) = (newK c b).all.getD i.toNat (0, 0) ∧ w3.heap.size ≤ w'.heap.size ∧ (∀ y ∈ [m11, m2, m1], y < w'.heap.size) ∧ RowE 3 1 w3.heap.size [m11, m2, m1] v i.toNat g' (ints (cvs (newK c b).all x.toNat i.toNat)) w' ∧ OutI w.heap.size w3.heap.size [m2, m1] es a n g w' | _ => False, ?_, ?_⟩
      · have fin : ∀ {w8 : World} {p q : Int}, (p, q) = (newK c b).all.getD i.toNat (0, 0) → Kept [m11, m2, m1] w6 w8 → (p, q) = (newK c b).all.getD i.toNat (0, 0) ∧ w3.heap.size ≤ w8.heap.size ∧ (∀ y ∈ [m11, m2, m1], y < w8.heap.size) ∧ RowE 3 1 w3.heap.size [m11, m2, m1] v i.toNat g' (ints (cvs (newK c b).all x.toNat i.toNat)) w8 ∧ OutI w.heap.size w3.heap.size [m2, m1] es a n g w8 := fun hp hk =>
          ⟨hp, Nat.le_trans z6 hk.size, hk.own, (hV.grow (ms := [m11]) (by simp; omega)).chg (Chg.kept hk) fun _ h => h, hO6.chg (Chg.kept hk) fun y hy => by simp at hy ⊢; omega⟩
        have hj : ∀ j : Nat, i = (c.rods.length : Int) + j → (newK c b).all.getD i.toNat (0, 0) = [c.air, c.drive, b.heat, b.press, b.arc, b.force].getD j (0, 0) := fun j h => by
          rw [show i.toNat = c.rods.length + j by omega, all_getD_hi]
        refine ⟨fun hin => ?_, fun hin => ⟨fun h w9 _ hk9 _ => fin (hj 0 (by omega)).symm hk9, fun h => ⟨by omega, fun h w10 _ hk10 _ => fin (hj 1 (by omega)).symm hk10, fun h => ⟨by omega, fun h w11 _ hk11 _ => fin (hj 2 (by omega)).symm hk11, fun h => ⟨by omega, fun h w12 _ hk12 _ => fin (hj 3 (by omega)).symm hk12, fun h => ⟨by omega, fun h w13 _ hk13 _ => fin (hj 4 (by omega)).symm hk13, fun h w14 _ hk14 => fin (hj 5 (by omega)).symm hk14⟩⟩⟩⟩⟩⟩
        have hix : i.toNat < c.rods.length := by omega
        obtain ⟨b1, o1, e1, hlt, c1, c2, c3, c4⟩ := rods_at hc (getElem_of_lt hix)
        exact ⟨b1, o1, e1, ⟨i0, hin⟩, _, _, cell_keep hb6 c2, cell_keep hb6 c3, .inl hlt, fun w8 _ hk8 _ => fin (all_getD_lo hix).symm hk8⟩
      rintro p q w15 hb15 ⟨hpq, z15, ho15, hV15, hO15⟩
      refine ⟨by omega, by omega, by omega, by omega, ?_⟩
      rw [bit_wrap ⟨x0, by omega⟩ (e := (c.rods.length : Int) + 5 - i) (by omega)]
      have hexp : ((c.rods.length : Int) + 5 - i).toNat = (newK c b).all.length - 1 - i.toNat := by rw [hal]; omega
      rw [hexp]
      have hcv : cv (newK c b).all x.toNat i.toNat = if x.toNat / 2 ^ ((newK c b).all.length - 1 - i.toNat) % 2 = 1 then q else p := by
        unfold cv; rw [← hpq]
      refine ⟨fun ls w' => match ls with | [.int _ y, _, _] => y = cv (newK c b).all x.toNat i.toNat ∧ w3.heap.size ≤ w'.heap.size ∧ (∀ y ∈ [m11, m2, m1], y < w'.heap.size) ∧ RowE 3 1 w3.heap.size [m11, m2, m1] v i.toNat g' (ints (cvs (newK c b).all x.toNat i.toNat)) w' ∧ OutI w.heap.size w3.heap.size [m2, m1] es a n g w' | _ => False, ⟨fun hbit w17 _ hk17 _ => ⟨?_, Nat.le_trans z15 hk17.size, hk17.own, hV15.chg (Chg.kept hk17) fun _ h => h, ?_⟩, fun hbit w18 _ hk18 => ⟨?_, Nat.le_trans z15 hk18.size, hk18.own, hV15.chg (Chg.kept hk18) fun _ h => h, ?_⟩⟩, ?_⟩
      · rw [hcv, if_pos (by omega)]
      · exact hO15.chg (Chg.kept hk17) fun y hy => by simp at hy ⊢; omega
      · rw [hcv, if_neg (by omega)]
      · exact hO15.chg (Chg.kept hk18) fun y hy => by simp at hy ⊢; omega
      rintro y p' q' w19 hb19 ⟨rfl, z19, ho19, hV19, hO19⟩
      intro m21 h21 w20 hb20 hk20 hc20
      have R20 := (hV19.grow (ms := [m21]) (by simp; omega)).chg (Chg.kept hk20) fun _ h => h
      have O20 := hO19.chg (Chg.kept hk20) (fun y hy => by simp at hy ⊢; omega)
      have z20 := hk20.size
      refine append_rowE (P := Try.prog) (bytes := 8) (by kernel_rfl) (by omega) R20 (m := 1) (news := ints [cv (newK c b).all x.toNat i.toNat]) (Cells.obj (vs := [I _]) hc20) rfl (by simp [ints] <;> rfl) (by omega) (by omega) (by omega) hk20.own (by omega) fun a2 c2 w21 R21 S cS hS => ?_
      have O21 := O20.chg cS (fun y hy => .inr (hS y hy).1)
      have z21 := cS.size
      refine ⟨a2, _, c2, rfl, cS.own (fun b hb => ⟨hk20.own b hb, fun hh => (hS b hh).2 hb⟩) (by simp) (fun _ => ⟨hb20.size, fun b hb => by have := (hS b hb).1; omega⟩), by omega, fun w22 hb22 hk22 => ⟨⟨by omega, by omega, by omega, by have := hk22.size; omega, fun y hy => hk22.own y (by simp at hy ⊢; omega), ?_, ?_⟩, ?_⟩⟩
      · have R22 := (R21.chg (Chg.kept hk22) fun b hb => hb).less (ns' := [m2, m1]) (by simp)
        rw [show (i + 1).toNat = i.toNat + 1 by omega, cvs_step, ints_app]
        exact .inr R22
      · exact O21.chg (Chg.kept hk22) (fun y hy => by simp at hy ⊢; omega)
      · show ((c.rods.length : Int) + 6 - (i + 1)).toNat < ((c.rods.length : Int) + 6 - i).toNat
        omega
    · have hi' : i.toNat = c.rods.length + 6 := by omega
      have hV' := hV
      rw [hi'] at hV'
      obtain ⟨gv, rfl⟩ := hV'.plain (by omega) (by omega)
      have hR : Row 3 1 w3.heap.size [m2, m1] (some ⟨gv, 0, none⟩) (c.rods.length + 6) g' (ints (cvs (newK c b).all x.toNat (c.rods.length + 6))) w6 := by
        rcases hV' with ⟨_, h, _⟩ | h
        · omega
        · exact h
      have hcap : c.rods.length + 6 ≤ g' := by
        rcases hR.own.2 with ⟨h, _⟩ | ⟨_, _, _, he, _, _, h2, _⟩
        · cases h
        · cases he; exact h2
      have hgv := hR.lt gv 0 rfl
      have hgn := hR.ns gv 0 rfl
      have hg : ∀ j, j < 6 → w6.cell? ⟨gv, 0 + (c.rods.length + j), none⟩ = some (I (cv (newK c b).all x.toNat (c.rods.length + j))) := fun j hj => hR.cells.at (ints_get (cvs_at (by omega)))
      have hne : gv ≠ m2 ∧ gv ≠ m1 := by simpa using hgn
      rw [hi']
      refine ⟨by omega, gv, 0, rfl, by omega, _, cell_at' (hg 0 (by omega)) (by omega), .inr hne, by omega, gv, 0, rfl, by omega, _, cell_at' (hg 1 (by omega)) (by omega), .inr hne, by omega, gv, 0, rfl, by omega, _, cell_at' (hg 2 (by omega)) (by omega), .inr hne, by omega, gv, 0, rfl, by omega, _, cell_at' (hg 3 (by omega)) (by omega), .inr hne, by omega, gv, 0, rfl, by omega, _, cell_at' (hg 4 (by omega)) (by omega), .inr hne, by omega, gv, 0, rfl, by omega, _, cell_at' (hg 5 (by omega)) (by omega), .inr hne, fun m38 h38 w23 hb23 hk23 hc23 => ?_⟩
      have e1 : subA (some (⟨gv, 0, none⟩ : Addr)) g' (Int.toNat 0) 1 = some ⟨gv, 0, none⟩ := by
        unfold subA
        rw [if_neg (by show ¬ g' = 0; omega)]
        simp [Addr.add]
      have e2 : ((c.rods.length : Int)).toNat - Int.toNat 0 = c.rods.length := by omega
      have e3 : g' - Int.toNat 0 = g' := by omega
      rw [e1, e2, e3] at hc23
      have hg23 : Cells w23 (some ⟨gv, 0, none⟩) (ints (cvs (newK c b).all x.toNat (c.rods.length + 6))) := fun j u hu => by
        obtain ⟨b', o', e', hcell⟩ := hR.cells j u hu
        cases e'
        exact ⟨gv, 0, rfl, hk23.chg.cell (fun hm => by simp at hm; omega) hcell⟩
      have O23 := hO6.chg hk23.chg (fun y hy => by simp at hy ⊢; omega)
      have hal2 := cvs_len (newK c b).all x.toNat (c.rods.length + 6)
      have htk : (cornerT c b x.toNat).grow.length = c.rods.length := by
        show ((cvs (newK c b).all x.toNat (c.rods.length + 6)).take c.rods.length).length = _
        rw [List.length_take, hal2]; omega
      have hat : ∀ j, j < 6 → (cvs (newK c b).all x.toNat (c.rods.length + 6)).getD (c.rods.length + j) 0 = cv (newK c b).all x.toNat (c.rods.length + j) := fun j hj => by
        rw [List.getD, cvs_at (by omega)]; rfl
      obtain ⟨E, hE⟩ : ∃ E : TE, E = ⟨cornerT c b x.toNat, gv, g'⟩ := ⟨_, rfl⟩
      have hEC : teC E = [.slice (some ⟨gv, 0, none⟩) c.rods.length g', I (cv (newK c b).all x.toNat (c.rods.length + 0)), I (cv (newK c b).all x.toNat (c.rods.length + 1)), I (cv (newK c b).all x.toNat (c.rods.length + 2)), I (cv (newK c b).all x.toNat (c.rods.length + 3)), I (cv (newK c b).all x.toNat (c.rods.length + 4)), I (cv (newK c b).all x.toNat (c.rods.length + 5))] := by
        rw [hE]
        unfold teC
        simp only [htk]
        unfold cornerT trOf
        simp only
        rw [show c.rods.length = c.rods.length + 0 from rfl, hat 0 (by omega)]
        simp only [Nat.add_zero]
        rw [hat 1 (by omega), hat 2 (by omega), hat 3 (by omega), hat 4 (by omega), hat 5 (by omega)]
      have hgrowE : Cells w23 (some ⟨gv, 0, none⟩) (ints E.t.grow) := by
        rw [hE]
        show Cells w23 _ (ints ((cvs (newK c b).all x.toNat (c.rods.length + 6)).take c.rods.length))
        intro j u hu
        refine hg23 j u ?_
        unfold ints at hu ⊢
        rw [List.map_take, List.getElem?_take] at hu
        split at hu
        · exact hu
        · cases hu
      have hns : ∀ y ∈ gv :: m38 :: (es.map (·.g) ++ [m2, m1]), y < w23.heap.size := fun y hy => by
        have z23 := hk23.size
        rcases List.mem_cons.1 hy with rfl | hy
        · omega
        · rcases List.mem_cons.1 hy with rfl | hy
          · exact hk23.own _ (by simp)
          · rcases List.mem_append.1 hy with hy | hy
            · obtain ⟨e, he, rfl⟩ := List.mem_map.1 hy
              have := (hO6.each e he).1; omega
            · exact hk23.own y (by simp at hy ⊢; omega)
      have hrowE : RowE 30 7 w.heap.size (gv :: m38 :: (es.map (·.g) ++ [m2, m1])) a n g (tes es) w23 := by
        rcases O23.row with ⟨⟨b0, rfl⟩, he, rfl⟩ | ⟨hr, hh⟩
        · have hn0 := hO6.n_eq
          subst he
          simp at hn0
          subst hn0
          exact RowE.lit
        · refine .inr ⟨hr.own, fun b o e hm => ?_⟩
          have hb1 := hh b o e
          rcases List.mem_cons.1 hm with rfl | hm
          · omega
          · rcases List.mem_cons.1 hm with rfl | hm
            · omega
            · exact hr.ns b o e hm
      have hc38 : Cells w23 (some ⟨m38, 0, none⟩) (tes [E]) := by
        have := Cells.obj (vs := teC E) (by rw [hEC]; exact hc23)
        simpa [tes] using this
      have hnN : n = es.length := hO6.n_eq
      have hesl : es.length = x.toNat := by have := congrArg List.length hes; simpa using this
      refine append_rowE (P := Try.prog) (bytes := 72) (by kernel_rfl) (by omega) hrowE (m := 1) (news := tes [E]) hc38 (by rw [tes_len]; rfl) (fun u hu => by
        have hu' : u ∈ teC E := by simpa [tes] using hu
        rw [hEC] at hu'
        simp only [List.mem_cons, List.not_mem_nil, or_false] at hu'
        rcases hu' with rfl | rfl | rfl | rfl | rfl | rfl | rfl <;> rfl) (by omega) (by omega) hb23.size hns (by omega) fun a2 c2 w24 R24 S cS hS => ?_
      have z23 := hk23.size; have z24 := cS.size
      refine ⟨a2, _, c2, rfl, cS.own (fun b hb => ⟨hk23.own b hb, fun hh => (hS b hh).2 (by simp at hb ⊢; omega)⟩) (by simp) (fun _ => ⟨hb23.size, fun b hb => (hS b hb).1⟩), by omega, fun w25 hb25 hk25 => ⟨⟨by omega, by omega, fun y hy => hk25.own y (by simp at hy ⊢; omega), es ++ [E], ?_, ?_⟩, ?_⟩⟩
      · rw [show (x + 1).toNat = x.toNat + 1 by omega, List.range_succ, List.map_append, List.map_append, hes, hE]; rfl
      · have R25 := R24.chg (Chg.kept hk25) (fun y hy => by simp at hy ⊢; omega)
        have z25 := hk25.size
        refine ⟨by simp; omega, .inr ⟨?_, fun b o e => by have := (R24.lt b o e).2; omega⟩, fun e he => ?_⟩
        · rw [tes_app]
          refine R25.less fun y hy => ?_
          rcases List.mem_append.1 hy with hy | hy
          · rw [List.map_append] at hy
            rcases List.mem_append.1 hy with hy | hy
            · exact List.mem_cons_of_mem _ (List.mem_cons_of_mem _ (List.mem_append_left _ hy))
            · rw [hE] at hy
              simp at hy
              rw [hy]; exact List.mem_cons_self
          · exact List.mem_cons_of_mem _ (List.mem_cons_of_mem _ (List.mem_append_right _ hy))
        · have keep : ∀ {u : Nat} {l : List Int}, u < w23.heap.size → u ∉ S → u ∉ [m38, m2, m1] → Cells w23 (some ⟨u, 0, none⟩) (ints l) → Cells w25 (some ⟨u, 0, none⟩) (ints l) := fun {u} {l} h1 h2 h3 h4 j v hv => by
            obtain ⟨b', o', e', hcell⟩ := h4 j v hv
            cases e'
            exact ⟨u, 0, rfl, (Chg.kept hk25).cell h3 (cS.cell h2 hcell)⟩
          rcases List.mem_append.1 he with he | he
          · obtain ⟨k1, k2, k3⟩ := O23.each e he
            refine ⟨⟨k1.1, by omega⟩, k2, keep (by omega) (fun hm => (hS _ hm).2 (List.mem_cons_of_mem _ (List.mem_cons_of_mem _ (List.mem_append_left _ (List.mem_map.2 ⟨e, he, rfl⟩))))) (fun hm => ?_) k3⟩
            simp at hm k2
            omega
          · rw [List.mem_singleton.1 he]
            have hEg : E.g = gv := by rw [hE]
            rw [hEg]
            exact ⟨⟨by omega, by omega⟩, by simpa using hne, keep (by omega) (fun hm => (hS _ hm).2 List.mem_cons_self) (by simp; omega) hgrowE⟩
      · show ((N : Int) - (x + 1)).toNat < ((N : Int) - x).toNat
        omega
  · have hxN : x.toNat = N := by omega
    have O26 := hO.chg (Chg.kept hk26) (fun y hy => .inl hy)
    rw [hxN] at hes
    have hn := hO.n_eq
    have z26 := hk26.size
    refine ⟨a, g, es, by rw [hn], hb26, hes, ?_⟩
    subst hn
    refine ⟨rfl, ?_, fun e he => ?_⟩
    · rcases O26.row with h | ⟨h, k⟩
      · exact .inl h
      · exact .inr ⟨h.less (fun y hy => by rw [List.append_nil] at hy; exact List.mem_append_left _ hy), fun b o e => by have := k b o e; omega⟩
    · obtain ⟨k1, k2, k3⟩ := O26.each e he
      exact ⟨⟨k1.1, by omega⟩, by simp, k3⟩
end Go.Proofs.R03
end
section
/- The reference's Ends. -/
namespace Go.Proofs.R03
open Go.Vc Go.RowKit Go.Proofs

theorem OutI.out {lo hi : Nat} {ns : List Nat} {es : List TE} {a : Option Addr} {n c : Nat} {w w' : World} {S : List Nat} (h : OutI lo hi ns es a n c w) (hc : Chg S w w') (hs : ∀ x ∈ S, x < lo ∨ hi ≤ x) : OutI lo hi ns es a n c w' := by
  refine ⟨h.n_eq, ?_, fun e he => ?_⟩
  · rcases h.row with g | ⟨g, k⟩
    · exact .inl g
    · refine .inr ⟨g.of fun b o e => hc.keep b (g.lt b o e).2 fun hm => ?_, k⟩
      have := hs b hm; have := k b o e; have := (g.lt b o e).1; omega
  · obtain ⟨h1, h2, h3⟩ := h.each e he
    refine ⟨h1, h2, fun i v hv => ?_⟩
    obtain ⟨b, o, e', hcell⟩ := h3 i v hv
    cases e'
    exact ⟨e.g, 0, rfl, hc.cell (fun hm => by have := hs _ hm; omega) hcell⟩
theorem tes_get {l : List TE} {i : Nat} {x : TE} (h : l[i]? = some x) (j : Nat) (hj : j < 7) : (tes l)[i * 7 + j]? = (teC x)[j]? := flat_get (k := 7) (fun _ => rfl) h hj
theorem OutI.at {lo hi : Nat} {ns : List Nat} {es : List TE} {a : Option Addr} {n c : Nat} {w : World} (h : OutI lo hi ns es a n c w) {i : Nat} {x : TE} (hx : es[i]? = some x) : ∃ b, a = some ⟨b, 0, none⟩ ∧ (lo ≤ b ∧ b < hi) ∧ (w.cell? ⟨b, 0 + i * 7, none⟩ = some (.slice (some ⟨x.g, 0, none⟩) x.t.grow.length x.c) ∧ w.cell? ⟨b, 0 + i * 7 + 1, none⟩ = some (I x.t.air) ∧ w.cell? ⟨b, 0 + i * 7 + 1 + 1, none⟩ = some (I x.t.drive) ∧ w.cell? ⟨b, 0 + i * 7 + 1 + 1 + 1, none⟩ = some (I x.t.heat) ∧ w.cell? ⟨b, 0 + i * 7 + 1 + 1 + 1 + 1, none⟩ = some (I x.t.press) ∧ w.cell? ⟨b, 0 + i * 7 + 1 + 1 + 1 + 1 + 1, none⟩ = some (I x.t.arc) ∧ w.cell? ⟨b, 0 + i * 7 + 1 + 1 + 1 + 1 + 1 + 1, none⟩ = some (I x.t.force)) := by
  rcases h.row with ⟨_, rfl, _⟩ | ⟨g, k⟩
  · simp at hx
  · have hc := g.cells
    rcases g.own.2 with ⟨e1, e2⟩ | ⟨b, cap, cur, he, _⟩
    · exfalso
      have := h.n_eq
      have := (List.getElem?_eq_some_iff.1 hx).1
      omega
    · cases he
      refine ⟨b, rfl, ⟨(g.lt b 0 rfl).1, k b 0 rfl⟩, hc.at (tes_get hx 0 (by decide)), hc.at (tes_get hx 1 (by decide)), hc.at (tes_get hx 2 (by decide)), hc.at (tes_get hx 3 (by decide)), hc.at (tes_get hx 4 (by decide)), hc.at (tes_get hx 5 (by decide)), hc.at (tes_get hx 6 (by decide))⟩

theorem vals_trOf {n : Nat} {v : List Int} (h : v.length = n + 6) : vals (trOf n v) = v := by
  have hl : (trOf n v).grow.length = n := by show (v.take n).length = n; rw [List.length_take]; omega
  refine List.ext_getElem? fun i => ?_
  by_cases hi : i < n
  · rw [vals_lo (by rw [hl]; exact hi)]
    show (v.take n)[i]? = _
    rw [List.getElem?_take_of_lt hi]
  · obtain ⟨j, rfl⟩ : ∃ j, i = n + j := ⟨i - n, by omega⟩
    have e := vals_hi (trOf n v) j
    rw [hl] at e
    rw [e]
    have hg : ∀ k, k < 6 → v[n + k]? = some (v.getD (n + k) 0) := fun k hk => by rw [List.getD, getElem_of_lt (l := v) (i := n + k) (by omega)]; rfl
    match j with
    | 0 => exact (hg 0 (by decide)).symm
    | 1 => exact (hg 1 (by decide)).symm
    | 2 => exact (hg 2 (by decide)).symm
    | 3 => exact (hg 3 (by decide)).symm
    | 4 => exact (hg 4 (by decide)).symm
    | 5 => exact (hg 5 (by decide)).symm
    | k + 6 => rw [List.getElem?_eq_none (l := v) (by omega)]; rfl
theorem cornerT_vals (c : Clk) (b : Bn) (k : Nat) : vals (cornerT c b k) = cvs (newK c b).all k (c.rods.length + 6) := vals_trOf (cvs_len _ _ _)
theorem cornerT_len (c : Clk) (b : Bn) (k : Nat) : (cornerT c b k).grow.length = c.rods.length := by
  show ((cvs _ _ _).take c.rods.length).length = _
  rw [List.length_take, cvs_len]; omega
theorem cornerT_corner (c : Clk) (b : Bn) (k : Nat) : Corner (cornerT c b k) (newK c b) := by
  refine ⟨by rw [cornerT_len, newK_len], fun i x s hx hs => ?_⟩
  rw [cornerT_vals] at hx
  have hi : i < c.rods.length + 6 := by have := (List.getElem?_eq_some_iff.1 hx).1; rwa [cvs_len] at this
  rw [cvs_at hi, Option.some.injEq] at hx
  rw [← hx]
  unfold cv
  rw [List.getD, hs]
  simp only [Option.getD_some]
  split
  · exact .inr rfl
  · exact .inl rfl

/-- The first one of the least, and of the greatest, of the first values. -/
def lowN (P : Nat → Int) : Nat → Nat
  | 0 => 0
  | i + 1 => if P (i + 1) < P (lowN P i) then i + 1 else lowN P i
def highN (P : Nat → Int) : Nat → Nat
  | 0 => 0
  | i + 1 => if P (highN P i) < P (i + 1) then i + 1 else highN P i
theorem lowN_le (P : Nat → Int) : ∀ i, lowN P i ≤ i ∧ (∀ j, j ≤ i → P (lowN P i) ≤ P j) ∧ ∀ j, j < lowN P i → P (lowN P i) < P j
  | 0 => ⟨Nat.le_refl _, fun j hj => by rw [show j = 0 by omega]; exact Int.le_refl _, fun j hj => by simp [lowN] at hj⟩
  | i + 1 => by
    obtain ⟨h1, h2, h3⟩ := lowN_le P i
    unfold lowN
    split
    · rename_i h
      refine ⟨Nat.le_refl _, fun j hj => ?_, fun j hj => ?_⟩
      · by_cases e : j = i + 1
        · rw [e]; exact Int.le_refl _
        · have := h2 j (by omega); omega
      · have := h2 j (by omega); omega
    · rename_i h
      refine ⟨by omega, fun j hj => ?_, h3⟩
      by_cases e : j = i + 1
      · rw [e]; omega
      · exact h2 j (by omega)
theorem highN_le (P : Nat → Int) : ∀ i, highN P i ≤ i ∧ (∀ j, j ≤ i → P j ≤ P (highN P i)) ∧ ∀ j, j < highN P i → P j < P (highN P i)
  | 0 => ⟨Nat.le_refl _, fun j hj => by rw [show j = 0 by omega]; exact Int.le_refl _, fun j hj => by simp [highN] at hj⟩
  | i + 1 => by
    obtain ⟨h1, h2, h3⟩ := highN_le P i
    unfold highN
    split
    · rename_i h
      refine ⟨Nat.le_refl _, fun j hj => ?_, fun j hj => ?_⟩
      · by_cases e : j = i + 1
        · rw [e]; exact Int.le_refl _
        · have := h2 j (by omega); omega
      · have := h2 j (by omega); omega
    · rename_i h
      refine ⟨by omega, fun j hj => ?_, h3⟩
      by_cases e : j = i + 1
      · rw [e]; omega
      · exact h2 j (by omega)

def cornerP (c : Clk) (b : Bn) (k : Nat) : Int := partsR c (cornerT c b k)
def lastK (c : Clk) : Nat := 2 ^ (c.rods.length + 6) - 1
def RendsPost (c : Clk) (b : Bn) (w : World) (e : Ending) (w' : World) : Prop :=
  ∃ a1 d1 a2 d2, e = .returned (.tuple #[(cornerT c b (lowN (cornerP c b) (lastK c))).v a1 d1, (cornerT c b (highN (cornerP c b) (lastK c))).v a2 d2]) ∧ Below w.heap.size w w' ∧
    Lies [] w.heap.size w'.heap.size w' a1 (ints (cornerT c b (lowN (cornerP c b) (lastK c))).grow) ∧ Lies [] w.heap.size w'.heap.size w' a2 (ints (cornerT c b (highN (cornerP c b) (lastK c))).grow)

set_option maxHeartbeats 4000000 in
theorem rends26_any {c : Clk} {b : Bn} (hk : check c = 0) (hb : OkB b) {ra : Option Addr} {rc : Nat} {w : World} (hc : Cells w ra (rods c.rods)) : Calls Try.prog 26 #[c.v ra rc, b.v] w (RendsPost c b w) := by
  have h8 := (check_len hk).1
  have hv := newK_val hk hb
  have hok := newK_ok (open_ok hk hb)
  have hin : ∀ k, InK (cornerT c b k) (newK c b) := fun k => (cornerT_corner c b k).inK hv
  have hoke : ∀ k, OkK (exactK c (cornerT c b k)) := fun k => exactK_ok hok (hin k)
  have hpos : 1 ≤ 2 ^ (c.rods.length + 6) := Nat.one_le_two_pow
  have hp14 : 2 ^ (c.rods.length + 6) ≤ 16384 := Nat.pow_le_pow_right (n := 2) (by decide) (show c.rods.length + 6 ≤ 14 by omega)
  refine vc26 _ _ _ _ _ _ _ _ _ _ _ _ _ _ _ _ _ w _ fun m1 h1 m2 h2 m3 h3 m4 h4 w1 hb1 hk1 => ?_
  have z1 := hk1.size
  have o1 := hk1.own
  refine (corners_any c b (hc.keep hb1) h8).mono fun e w2 he => ?_
  unfold RendsPost lastK
  unfold CornersPost at he
  generalize 2 ^ (c.rods.length + 6) = N at *
  obtain ⟨a, g, es, rfl, hb2, hes, O2⟩ := he
  have z2 := hb2.size
  have hesl : es.length = N := by have := congrArg List.length hes; simpa using this
  have hest : ∀ k : Nat, k < N → ∃ x, es[k]? = some x ∧ x.t = cornerT c b k := fun k hk => by
    have hke : k < es.length := by omega
    refine ⟨es[k], getElem_of_lt hke, ?_⟩
    have := congrArg (fun l => l[k]?) hes
    simp only [List.getElem?_map, getElem_of_lt hke, List.getElem?_range hk, Option.map_some, Option.some.injEq] at this
    exact this
  obtain ⟨x0, hx0, ht0⟩ := hest 0 (by omega)
  obtain ⟨ob, rfl, hob, k1, k2, k3, k4, k5, k6, k7⟩ := O2.at hx0
  have ne4 : ob ≠ m4 ∧ ob ≠ m3 ∧ ob ≠ m2 ∧ ob ≠ m1 := by
    have a1 := o1 m1 (by simp); have a2 := o1 m2 (by simp); have a3 := o1 m3 (by simp); have a4 := o1 m4 (by simp)
    omega
  refine ⟨_, _, _, rfl, .all hb2, ob, 0, rfl, ⟨by omega, by omega⟩, _, _, _, _, _, _, _, _, _, k1, k2, k3, k4, k5, k6, k7, .inr ne4, fun m12 h12 m13 h13 => ⟨fun y hy => by cases hy; exact .inr (by show ob ≠ m12; omega), ob, 0, rfl, ⟨by omega, by omega⟩, _, _, _, _, _, _, _, _, _, k1, k2, k3, k4, k5, k6, k7, .inr ⟨by omega, by omega, ne4⟩, ?_⟩⟩
  have hs : ∀ x ∈ [m13, m12, m4, m3, m2, m1], x < w1.heap.size ∨ w2.heap.size ≤ x := allc (.inr h13) (allc (.inr h12) (fun y hy => .inl (o1 y hy)))
  have nOb : ob ≠ m13 ∧ ob ≠ m12 ∧ ob ≠ m4 ∧ ob ≠ m3 ∧ ob ≠ m2 ∧ ob ≠ m1 := ⟨by omega, by omega, ne4⟩
  refine ⟨fun ls w' => match ls with | [.int _ i, .sl la ln lc, .int _ p1, .int _ p2, .int _ p3, .int _ p4, .int _ p5, .int _ p6, .sl ha hn hc, .int _ q1, .int _ q2, .int _ q3, .int _ q4, .int _ q5, .int _ q6] => 1 ≤ i ∧ i ≤ N ∧ OutI w1.heap.size w2.heap.size [] es (some ⟨ob, 0, none⟩) es.length g w' ∧ (∃ el, es[lowN (cornerP c b) (i.toNat - 1)]? = some el ∧ la = some ⟨el.g, 0, none⟩ ∧ ln = el.t.grow.length ∧ lc = el.c ∧ p1 = el.t.air ∧ p2 = el.t.drive ∧ p3 = el.t.heat ∧ p4 = el.t.press ∧ p5 = el.t.arc ∧ p6 = el.t.force) ∧ (∃ eh, es[highN (cornerP c b) (i.toNat - 1)]? = some eh ∧ ha = some ⟨eh.g, 0, none⟩ ∧ hn = eh.t.grow.length ∧ hc = eh.c ∧ q1 = eh.t.air ∧ q2 = eh.t.drive ∧ q3 = eh.t.heat ∧ q4 = eh.t.press ∧ q5 = eh.t.arc ∧ q6 = eh.t.force) | _ => False,
    fun ls => match ls with | .int _ i :: _ => ((N : Int) - i).toNat | _ => 0, fun w4 hb4 hk4 => ⟨by omega, by omega, O2.out (Chg.kept hk4) hs, ⟨x0, hx0, rfl, rfl, rfl, rfl, rfl, rfl, rfl, rfl, rfl⟩, ⟨x0, hx0, rfl, rfl, rfl, rfl, rfl, rfl, rfl, rfl, rfl⟩⟩, ?_⟩
  rintro i la ln lc p1 p2 p3 p4 p5 p6 ha hn hc' q1 q2 q3 q4 q5 q6 w5 hb5 ⟨i1, iN, O5, ⟨el, hel, rfl, rfl, rfl, rfl, rfl, rfl, rfl, rfl, rfl⟩, ⟨eh, heh, rfl, rfl, rfl, rfl, rfl, rfl, rfl, rfl, rfl⟩⟩
  have hlN := lowN_le (cornerP c b) (i.toNat - 1)
  have hhN := highN_le (cornerP c b) (i.toNat - 1)
  have hte : ∀ {k : Nat} {x : TE}, es[k]? = some x → x.t = cornerT c b k := fun {k} {x} hx => by
    have hk' := (List.getElem?_eq_some_iff.1 hx).1
    obtain ⟨y, hy, ht⟩ := hest k (by omega)
    rw [hx] at hy; cases hy; exact ht
  have hpe : ∀ {k : Nat} {x : TE}, es[k]? = some x → partsR c x.t = cornerP c b k := fun hx => by rw [hte hx]; rfl
  have hoe : ∀ {k : Nat} {x : TE}, es[k]? = some x → OkK (exactK c x.t) := fun hx => by rw [hte hx]; exact hoke _
  have hg : ∀ {k : Nat} {x : TE} {w' : World}, es[k]? = some x → OutI w1.heap.size w2.heap.size [] es (some ⟨ob, 0, none⟩) es.length g w' → Cells w' (some ⟨x.g, 0, none⟩) (ints x.t.grow) := fun hx h => (h.each _ (List.mem_of_getElem? hx)).2.2
  have ez : ∀ (j : Nat), ob = ob := fun _ => rfl
  refine ⟨fun hi => ?_, fun hi w15 hb15 hk15 => ?_⟩
  · obtain ⟨xi, hxi, hti⟩ := hest i.toNat (by omega)
    obtain ⟨ob', eob, _, d1, d2, d3, d4, d5, d6, d7⟩ := O5.at hxi
    cases eob
    refine ⟨ob, 0, rfl, ⟨by omega, by omega⟩, _, _, _, _, _, _, _, _, _, d1, d2, d3, d4, d5, d6, d7, .inr nOb, fun w6 hb6 hk6 => ?_⟩
    have O6 := O5.out hk6.chg hs
    refine Pure.calls (rparts_any c xi.t (hc.keep hb6) (hg hxi O6) (hoe hxi)) fun w7 hb7 => ⟨_, rfl, .all hb7, fun w8 hb8 hk8 => ?_⟩
    have O8 := (O6.out (Chg.of_below hb7 (S := [])) (by simp)).out (Chg.kept hk8) hs
    refine Pure.calls (rparts_any c el.t (hc.keep hb8) (hg hel O8) (hoe hel)) fun w9 hb9 => ⟨_, rfl, .all hb9, ?_⟩
    have O9 := O8.out (Chg.of_below hb9 (S := [])) (by simp)
    rw [hpe hxi, hpe hel]
    have hi1 : (i + 1).toNat - 1 = (i.toNat - 1) + 1 := by omega
    have hi2 : i.toNat - 1 + 1 = i.toNat := by omega
    have hL1 : cornerP c b i.toNat < cornerP c b (lowN (cornerP c b) (i.toNat - 1)) → lowN (cornerP c b) ((i + 1).toNat - 1) = i.toNat := fun h => by
      rw [hi1, lowN, hi2, if_pos h]
    have hL2 : ¬cornerP c b i.toNat < cornerP c b (lowN (cornerP c b) (i.toNat - 1)) → lowN (cornerP c b) ((i + 1).toNat - 1) = lowN (cornerP c b) (i.toNat - 1) := fun h => by
      rw [hi1, lowN, hi2, if_neg h]
    have hH1 : cornerP c b (highN (cornerP c b) (i.toNat - 1)) < cornerP c b i.toNat → highN (cornerP c b) ((i + 1).toNat - 1) = i.toNat := fun h => by
      rw [hi1, highN, hi2, if_pos h]
    have hH2 : ¬cornerP c b (highN (cornerP c b) (i.toNat - 1)) < cornerP c b i.toNat → highN (cornerP c b) ((i + 1).toNat - 1) = highN (cornerP c b) (i.toNat - 1) := fun h => by
      rw [hi1, highN, hi2, if_neg h]
    have hdec : ((N : Int) - (i + 1)).toNat < ((N : Int) - i).toNat := by omega
    obtain ⟨ob', eob, _, f1, f2, f3, f4, f5, f6, f7⟩ := O9.at hxi
    cases eob
    refine ⟨fun hlt => ⟨ob, 0, rfl, ⟨by omega, by omega⟩, _, _, _, _, _, _, _, _, _, f1, f2, f3, f4, f5, f6, f7, .inr nOb, by omega, fun w10 hb10 hk10 => ⟨⟨by omega, by omega, O9.out (Chg.kept hk10) hs, ⟨xi, by rw [hL1 hlt]; exact hxi, rfl, rfl, rfl, rfl, rfl, rfl, rfl, rfl, rfl⟩, ⟨eh, by rw [hH2 (by have := hlN.2.1 _ hhN.1; omega)]; exact heh, rfl, rfl, rfl, rfl, rfl, rfl, rfl, rfl, rfl⟩⟩, hdec⟩⟩, fun hge w11 hb11 hk11 => ?_⟩
    have O11 := O9.out (Chg.kept hk11) hs
    refine Pure.calls (rparts_any c eh.t (hc.keep hb11) (hg heh O11) (hoe heh)) fun w12 hb12 => ⟨_, rfl, .all hb12, ?_⟩
    have O12 := O11.out (Chg.of_below hb12 (S := [])) (by simp)
    rw [hpe heh]
    obtain ⟨ob', eob, _, g1, g2, g3, g4, g5, g6, g7⟩ := O12.at hxi
    cases eob
    refine ⟨fun hlt => ⟨ob, 0, rfl, ⟨by omega, by omega⟩, _, _, _, _, _, _, _, _, _, g1, g2, g3, g4, g5, g6, g7, .inr nOb, by omega, fun w13 hb13 hk13 => ⟨⟨by omega, by omega, O12.out (Chg.kept hk13) hs, ⟨el, by rw [hL2 (by omega)]; exact hel, rfl, rfl, rfl, rfl, rfl, rfl, rfl, rfl, rfl⟩, ⟨xi, by rw [hH1 hlt]; exact hxi, rfl, rfl, rfl, rfl, rfl, rfl, rfl, rfl, rfl⟩⟩, hdec⟩⟩, fun hle => ⟨by omega, fun w14 hb14 hk14 => ⟨⟨by omega, by omega, O12.out (Chg.kept hk14) hs, ⟨el, by rw [hL2 (by omega)]; exact hel, rfl, rfl, rfl, rfl, rfl, rfl, rfl, rfl, rfl⟩, ⟨eh, by rw [hH2 (by omega)]; exact heh, rfl, rfl, rfl, rfl, rfl, rfl, rfl, rfl, rfl⟩⟩, hdec⟩⟩⟩
  · have hiN : i.toNat - 1 = N - 1 := by omega
    rw [hiN] at hel heh
    have O15 := O5.out (Chg.kept hk15) hs
    have z15 := hk15.size
    have hli : ∀ {k : Nat} {x : TE}, es[k]? = some x → Lies [] w.heap.size w15.heap.size w15 (some ⟨x.g, 0, none⟩) (ints x.t.grow) := fun {k} {x} hx i v hv => by
      obtain ⟨⟨h1, h2⟩, _, h3⟩ := O15.each x (List.mem_of_getElem? hx)
      obtain ⟨b', o', e', hcell⟩ := h3 i v hv
      cases e'
      exact ⟨x.g, 0, rfl, ⟨by simp, by omega, cell_lt hcell⟩, hcell⟩
    have t1 := hte hel
    have t2 := hte heh
    have l1 := hli hel
    have l2 := hli heh
    rw [t1] at l1 ⊢
    rw [t2] at l2 ⊢
    exact ⟨_, el.c, _, eh.c, rfl, hb15, l1, l2⟩
end Go.Proofs.R03
end
section
/- Plain: the first one of the least truths of ends is that of Ends. -/
namespace Go.Proofs.R03
open Go.Vc Go.RowKit Go.Proofs

/-- Bits, the greatest first. -/
def ofBits (f : Nat → Bool) : Nat → Nat
  | 0 => 0
  | i + 1 => 2 * ofBits f i + (f i).toNat
theorem ofBits_lt (f : Nat → Bool) : ∀ n, ofBits f n < 2 ^ n
  | 0 => by show 0 < 1; omega
  | n + 1 => by
    have := ofBits_lt f n
    have hb : (f n).toNat ≤ 1 := Bool.toNat_le (f n)
    unfold ofBits
    rw [Nat.pow_succ]; omega
theorem ofBits_div (f : Nat → Bool) : ∀ (d j : Nat), ofBits f (j + d) / 2 ^ d = ofBits f j
  | 0, j => by simp
  | d + 1, j => by
    rw [show j + (d + 1) = (j + d) + 1 by omega, ofBits, Nat.pow_succ, Nat.mul_comm (2 ^ d) 2, ← Nat.div_div_eq_div_mul]
    have hb : (f (j + d)).toNat ≤ 1 := Bool.toNat_le _
    rw [show (2 * ofBits f (j + d) + (f (j + d)).toNat) / 2 = ofBits f (j + d) by omega]
    exact ofBits_div f d j
theorem ofBits_bit (f : Nat → Bool) {n i : Nat} (h : i < n) : ofBits f n / 2 ^ (n - 1 - i) % 2 = (f i).toNat := by
  have e := ofBits_div f (n - 1 - i) (i + 1)
  rw [show i + 1 + (n - 1 - i) = n by omega] at e
  rw [e, ofBits]
  have hb : (f i).toNat ≤ 1 := Bool.toNat_le _
  omega
def bitK (n k i : Nat) : Bool := decide (k / 2 ^ (n - 1 - i) % 2 = 1)
theorem ofBits_of {n k : Nat} (hk : k < 2 ^ n) (f : Nat → Bool) : ∀ j, j ≤ n → (∀ i, i < j → f i = bitK n k i) → ofBits f j = k / 2 ^ (n - j)
  | 0, _, _ => by rw [Nat.sub_zero, Nat.div_eq_of_lt hk]; rfl
  | j + 1, hj, h => by
    have ih := ofBits_of hk f j (by omega) fun i hi => h i (by omega)
    rw [ofBits, ih, h j (by omega)]
    have e : n - j = (n - (j + 1)) + 1 := by omega
    rw [e, Nat.pow_succ, ← Nat.div_div_eq_div_mul]
    unfold bitK
    rw [show n - 1 - j = n - (j + 1) by omega]
    generalize k / 2 ^ (n - (j + 1)) = q
    by_cases hq : q % 2 = 1
    · rw [decide_eq_true hq]; show 2 * (q / 2) + 1 = q; omega
    · rw [decide_eq_false hq]; show 2 * (q / 2) + 0 = q; omega
theorem ofBits_less {n k : Nat} (hk : k < 2 ^ n) (f : Nat → Bool) {j : Nat} (hj : j < n) (h : ∀ i, i < j → f i = bitK n k i) (h0 : f j = false) (h1 : bitK n k j = true) : ofBits f n < k := by
  have e1 := ofBits_of hk f j (by omega) h
  have e2 := ofBits_div f (n - 1 - j) (j + 1)
  rw [show j + 1 + (n - 1 - j) = n by omega, ofBits, h0, e1] at e2
  unfold bitK at h1
  have h1 := of_decide_eq_true h1
  have e : n - j = (n - 1 - j) + 1 := by omega
  rw [e, Nat.pow_succ, ← Nat.div_div_eq_div_mul] at e2
  simp only [Bool.toNat_false, Nat.add_zero] at e2
  have : ofBits f n / 2 ^ (n - 1 - j) < k / 2 ^ (n - 1 - j) := by omega
  exact Nat.lt_of_div_lt_div this

theorem cv_bit (l : List Sp) (k i : Nat) : cv l k i = if bitK l.length k i then (l.getD i (0, 0)).2 else (l.getD i (0, 0)).1 := by
  unfold cv bitK; simp
theorem cv_of (l : List Sp) (f : Nat → Bool) {i : Nat} (h : i < l.length) : cv l (ofBits f l.length) i = if f i then (l.getD i (0, 0)).2 else (l.getD i (0, 0)).1 := by
  unfold cv
  rw [ofBits_bit f h]
  cases f i <;> simp
theorem vals_inj {t u : Tr} (h : vals t = vals u) : t = u := by
  obtain ⟨g, a1, a2, a3, a4, a5, a6⟩ := t
  obtain ⟨g', b1, b2, b3, b4, b5, b6⟩ := u
  unfold vals at h
  have hl := congrArg List.length h
  simp at hl
  obtain ⟨h1, h2⟩ := List.append_inj h hl
  simp only [List.cons.injEq] at h2
  obtain ⟨rfl, rfl, rfl, rfl, rfl, rfl, _⟩ := h2
  simp only at h1
  subst h1; rfl

/-- A first best truth: no truth of ends is beyond it, and those with smaller numbers do not reach it. -/
theorem greedy {c : Clk} {b : Bn} (sd : Bool) (hv : KVal (newK c b)) {k0 : Nat} (hk0 : k0 < 2 ^ (newK c b).all.length) (hgoal : cornerP c b k0 = pick sd (rateK (newK c b))) (hfirst : ∀ j, j < k0 → cornerP c b j ≠ pick sd (rateK (newK c b))) :
    ∀ j, j ≤ (newK c b).all.length → ∀ i s, (endN (pick sd) (pick sd (rateK (newK c b))) (newK c b) j).all[i]? = some s → (i < j → s = (cv (newK c b).all k0 i, cv (newK c b).all k0 i)) ∧ (j ≤ i → (newK c b).all[i]? = some s)
  | 0, _, i, s, h => ⟨fun h => by omega, fun _ => h⟩
  | j + 1, hj, i, s, h => by
    have ih := greedy sd hv hk0 hgoal hfirst j (by omega)
    have hE := endN_inv sd hv j (by rw [← all_len]; omega)
    have hal : (newK c b).all.length = c.rods.length + 6 := newK_all_len c b
    unfold endN at h
    generalize hp : endN (pick sd) (pick sd (rateK (newK c b))) (newK c b) j = p at *
    have hpl : p.all.length = (newK c b).all.length := by rw [all_len, all_len, hE.len]
    have hjp : j < p.all.length := by omega
    have hsj := getElem_of_lt hjp
    have hLj : (newK c b).all[j]? = some p.all[j] := (ih j _ hsj).2 (Nat.le_refl _)
    have hgd : (newK c b).all.getD j (0, 0) = p.all[j] := by rw [List.getD, hLj]; rfl
    generalize hsq : p.all[j] = sj at *
    have hle : sj.1 ≤ sj.2 := hE.val.ok j sj hsj
    dsimp only at h
    rw [hsj] at h
    simp only [Option.getD_some] at h
    have hjlt := all_lt hsj
    -- the value that is chosen
    obtain ⟨x, hx, hxv⟩ : ∃ x, (p.put j (x, x)).all[i]? = some s ∧ x = cv (newK c b).all k0 j := by
      have hcvj := cv_bit (newK c b).all k0 j
      rw [hgd] at hcvj
      split at h
      · rename_i hg
        refine ⟨sj.1, h, ?_⟩
        by_cases hb : bitK (newK c b).all.length k0 j = true
        · rw [hcvj, if_pos hb]
          by_cases heq : sj.1 = sj.2
          · exact heq
          exfalso
          obtain ⟨h1, h2⟩ := put_inc hE.val hsj (x := sj.1) ⟨Int.le_refl _, hle⟩
          obtain ⟨t, ht, e⟩ := rate_end sd h2
          have hc := put_c p j (sj.1, sj.1)
          rw [hc.1, hE.c, hg] at e
          have htl : (vals t).length = (newK c b).all.length := by rw [vals_len, ht.len, hc.2, hE.len, ← all_len]
          obtain ⟨f, hf1, hf2, hf3⟩ : ∃ f : Nat → Bool, (∀ i, i < j → f i = bitK (newK c b).all.length k0 i) ∧ f j = false ∧ ∀ i, ¬i < j → i ≠ j → f i = decide ((vals t).getD i 0 = ((newK c b).all.getD i (0, 0)).2) :=
            ⟨fun i => if i < j then bitK (newK c b).all.length k0 i else if i = j then false else decide ((vals t).getD i 0 = ((newK c b).all.getD i (0, 0)).2), fun i h => if_pos h, by simp, fun i h1 h2 => by simp only; rw [if_neg h1, if_neg h2]⟩
          have hval : ∀ i, i < (newK c b).all.length → (vals t)[i]? = some (cv (newK c b).all (ofBits f (newK c b).all.length) i) := fun i hi => by
            have hiv : i < (vals t).length := by omega
            have hip : i < (p.put j (sj.1, sj.1)).all.length := by rw [all_len, hc.2, ← all_len]; omega
            have hta := ht.at_ i _ _ (getElem_of_lt hiv) (getElem_of_lt hip)
            rw [getElem_of_lt hiv, Option.some.injEq, cv_of _ f hi]
            rcases put_at hsj (sj.1, sj.1) (getElem_of_lt hip) with ⟨e1, e2⟩ | ⟨e1, e2⟩
            · rw [e2] at hta
              subst e1
              rw [hf2, hgd]
              simp only [Bool.false_eq_true, if_false] at hta ⊢
              rcases hta with h | h <;> exact h
            · by_cases hij : i < j
              · have := (ih i _ e2).1 hij
                rw [this] at hta
                rw [hf1 i hij, ← cv_bit]
                rcases hta with h | h <;> exact h
              · rw [hf3 i hij e1]
                have hLi := (ih i _ e2).2 (by omega)
                have hgi : (newK c b).all.getD i (0, 0) = (p.put j (sj.1, sj.1)).all[i] := by rw [List.getD, hLi]; rfl
                rw [hgi]
                have hvg : (vals t).getD i 0 = (vals t)[i] := by rw [List.getD, getElem_of_lt hiv]; rfl
                rw [hvg]
                by_cases hd : (vals t)[i] = (p.put j (sj.1, sj.1)).all[i].2
                · rw [decide_eq_true hd, if_pos rfl]; exact hd
                · rw [decide_eq_false hd]
                  simp only [Bool.false_eq_true, if_false]
                  rcases hta with h | h
                  · exact h
                  · exact absurd h hd
          have hteq : t = cornerT c b (ofBits f (newK c b).all.length) := vals_inj (by
            rw [cornerT_vals]
            refine List.ext_getElem? fun i => ?_
            by_cases hi : i < (newK c b).all.length
            · rw [hval i hi, cvs_at (by omega)]
            · rw [List.getElem?_eq_none (by omega), List.getElem?_eq_none (by rw [cvs_len]; omega)])
          have hless := ofBits_less hk0 f (j := j) (by omega) hf1 hf2 hb
          refine hfirst _ hless ?_
          unfold cornerP
          rw [← hteq]; exact e
        · rw [hcvj, if_neg hb]
      · rename_i hg
        rw [put_put hjlt] at h
        refine ⟨sj.2, h, ?_⟩
        by_cases hb : bitK (newK c b).all.length k0 j = true
        · rw [hcvj, if_pos hb]
        · exfalso
          have hcv1 : cv (newK c b).all k0 j = sj.1 := by rw [hcvj, if_neg hb]
          obtain ⟨h1, h2⟩ := put_inc hE.val hsj (x := sj.1) ⟨Int.le_refl _, hle⟩
          have hc := put_c p j (sj.1, sj.1)
          have hin : InK (cornerT c b k0) (p.put j (sj.1, sj.1)) := inK_all.2 ⟨by rw [hc.2, hE.len]; exact (cornerT_corner c b k0).len, fun i y u hy hu => by
            have hil := all_lt hu
            rw [hc.2, hE.len, ← all_len] at hil
            rw [cornerT_vals, cvs_at (by omega), Option.some.injEq] at hy
            rcases put_at hsj _ hu with ⟨rfl, rfl⟩ | ⟨e1, e2⟩
            · rw [← hy, hcv1]; exact ⟨Int.le_refl _, Int.le_refl _⟩
            · by_cases hij : i < j
              · have := (ih i u e2).1 hij
                rw [this, ← hy]; exact ⟨Int.le_refl _, Int.le_refl _⟩
              · have hLi := (ih i u e2).2 (by omega)
                have := ((cornerT_corner c b k0).inK hv)
                exact (inK_all.1 this).2 i y u (by rw [cornerT_vals, cvs_at (by omega), hy]) hLi⟩
          have hm := rate_mem h2 hin
          have hr := rate_inc h1
          rw [hc.1, hE.c] at hm
          have hP : partsR c (cornerT c b k0) = pick sd (rateK (newK c b)) := hgoal
          have hcc : (newK c b).c = c := rfl
          rw [hcc, hP] at hm
          have hG := hE.goal
          unfold Sub at hr
          apply hg
          cases sd <;> simp only [pick] at * <;> omega
    subst hxv
    rcases put_at hsj _ hx with ⟨rfl, rfl⟩ | ⟨hne, hx⟩
    · exact ⟨fun _ => rfl, fun h => by omega⟩
    · exact ⟨fun h => (ih i s hx).1 (by omega), fun h => (ih i s hx).2 (by omega)⟩
theorem greedy_eq {c : Clk} {b : Bn} (sd : Bool) (hv : KVal (newK c b)) {k0 : Nat} (hk0 : k0 < 2 ^ (newK c b).all.length) (hgoal : cornerP c b k0 = pick sd (rateK (newK c b))) (hfirst : ∀ j, j < k0 → cornerP c b j ≠ pick sd (rateK (newK c b))) : cornerT c b k0 = truthK (endK (pick sd) (newK c b)) := by
  have h := greedy sd hv hk0 hgoal hfirst (newK c b).all.length (Nat.le_refl _)
  have hE := endN_inv sd hv _ (Nat.le_of_eq (all_len (newK c b)))
  refine vals_inj ?_
  rw [cornerT_vals]
  have e : vals (truthK (endK (pick sd) (newK c b))) = (endK (pick sd) (newK c b)).all.map (·.1) := by simp [vals, truthK, Kn.all]
  rw [e]
  have hend : endK (pick sd) (newK c b) = endN (pick sd) (pick sd (rateK (newK c b))) (newK c b) (newK c b).all.length := by unfold endK; rw [all_len]
  rw [hend]
  have hal := newK_all_len c b
  have hpl : (endN (pick sd) (pick sd (rateK (newK c b))) (newK c b) (newK c b).all.length).all.length = (newK c b).all.length := by rw [all_len, hE.len, ← all_len]
  refine List.ext_getElem? fun i => ?_
  by_cases hi : i < (newK c b).all.length
  · rw [cvs_at (by omega), List.getElem?_map, getElem_of_lt (by omega)]
    have := (h i _ (getElem_of_lt (by omega))).1 hi
    rw [this]; rfl
  · rw [List.getElem?_eq_none (by rw [cvs_len]; omega), List.getElem?_eq_none (by rw [List.length_map]; omega)]

theorem corner_any_of {c : Clk} {b : Bn} {t : Tr} (h : Corner t (newK c b)) : ∃ k, k < 2 ^ (newK c b).all.length ∧ t = cornerT c b k := by
  have hal := newK_all_len c b
  have htl : (vals t).length = (newK c b).all.length := by rw [vals_len, h.len, ← all_len]
  obtain ⟨f, hf⟩ : ∃ f : Nat → Bool, f = fun i => decide ((vals t).getD i 0 = ((newK c b).all.getD i (0, 0)).2) := ⟨_, rfl⟩
  refine ⟨ofBits f (newK c b).all.length, ofBits_lt f _, vals_inj ?_⟩
  rw [cornerT_vals]
  refine List.ext_getElem? fun i => ?_
  by_cases hi : i < (newK c b).all.length
  · have hiv : i < (vals t).length := by omega
    have hta := h.at_ i _ _ (getElem_of_lt hiv) (getElem_of_lt hi)
    have hfi : f i = decide ((vals t).getD i 0 = ((newK c b).all.getD i (0, 0)).2) := by rw [hf]
    rw [getElem_of_lt hiv, cvs_at (by omega), cv_of _ f hi, hfi, Option.some.injEq]
    have hgi : (newK c b).all.getD i (0, 0) = (newK c b).all[i] := by rw [List.getD, getElem_of_lt hi]; rfl
    have hvg : (vals t).getD i 0 = (vals t)[i] := by rw [List.getD, getElem_of_lt hiv]; rfl
    rw [hgi, hvg]
    by_cases hd : (vals t)[i] = (newK c b).all[i].2
    · rw [decide_eq_true hd, if_pos rfl]; exact hd
    · rw [decide_eq_false hd]
      simp only [Bool.false_eq_true, if_false]
      rcases hta with h | h
      · exact h
      · exact absurd h hd
  · rw [List.getElem?_eq_none (by omega), List.getElem?_eq_none (by rw [cvs_len]; omega)]
theorem rends_eq {c : Clk} {b : Bn} (hk : check c = 0) (hb : OkB b) : cornerT c b (lowN (cornerP c b) (lastK c)) = lowT c b ∧ cornerT c b (highN (cornerP c b) (lastK c)) = highT c b := by
  have hv := newK_val hk hb
  have hal := newK_all_len c b
  have hpos : 1 ≤ 2 ^ (c.rods.length + 6) := Nat.one_le_two_pow
  have hmem : ∀ k, (rateK (newK c b)).1 ≤ cornerP c b k ∧ cornerP c b k ≤ (rateK (newK c b)).2 := fun k => rate_mem hv ((cornerT_corner c b k).inK hv)
  obtain ⟨l1, l2, l3⟩ := lowN_le (cornerP c b) (lastK c)
  obtain ⟨g1, g2, g3⟩ := highN_le (cornerP c b) (lastK c)
  have hlast : lastK c = 2 ^ (newK c b).all.length - 1 := by unfold lastK; rw [hal]
  rw [← hal] at hpos
  constructor
  · obtain ⟨t, ht, e⟩ := rate_end true hv
    obtain ⟨k, hk', rfl⟩ := corner_any_of ht
    have e : cornerP c b k = (rateK (newK c b)).1 := e
    have h1 := l2 k (by omega)
    have h2 := (hmem (lowN (cornerP c b) (lastK c))).1
    exact greedy_eq true hv (by omega) (by simp only [pick]; omega) fun j hj => by have := l3 j hj; simp only [pick]; omega
  · obtain ⟨t, ht, e⟩ := rate_end false hv
    obtain ⟨k, hk', rfl⟩ := corner_any_of ht
    have e : cornerP c b k = (rateK (newK c b)).2 := e
    have h1 := g2 k (by omega)
    have h2 := (hmem (highN (cornerP c b) (lastK c))).2
    exact greedy_eq false hv (by omega) (by simp only [pick]; omega) fun j hj => by have := g3 j hj; simp only [pick]; omega
end Go.Proofs.R03
end
section
/- The conditions of the functions, printed by program; each is what the generator reckons (kernel_rfl). -/
namespace Go.Proofs
open Go.Vc
set_option maxRecDepth 100000 in
set_option maxHeartbeats 2000000 in
theorem vc4 (c0 : Int) (c1 : Int) (c2a : Option Addr) (c2n : Nat) (c2c : Nat) (c3 : Int) (c4 : Int) (c5 : Int) (c6 : Int) (b0 : Int) (b1 : Int) (b2 : Int) (b3 : Int) (b4 : Int) (b5
    : Int) (b6 : Int) (b7 : Int) (w : World) (R : Ending → World → Prop) (h : ∀ (m1 : Nat), w.heap.size ≤ m1 → ∀ (m2 : Nat), w.heap.size ≤ m2 → ∃ (F1 : List Lf → World → Prop), ((4
    < (↑c2n : Int) → ((↑c2n : Int) ≤ 8 → ∀ (w2 : World), RowKit.Below w.heap.size w w2 → Kept [m2, m1] w w2 → w2.heap[m1]? = some (Obj.cells #[Value.int IntKind.i64 c0, Value.int
    IntKind.i64 c1, Value.slice c2a c2n c2c, Value.int IntKind.i64 c3, Value.int IntKind.i64 c4, Value.int IntKind.i64 c5, Value.int IntKind.i64 c6] 27) → w2.heap[m1]? = some
    (Obj.cells #[Value.int IntKind.i64 c0, Value.int IntKind.i64 c1, Value.slice c2a c2n c2c, Value.int IntKind.i64 c3, Value.int IntKind.i64 c4, Value.int IntKind.i64 c5,
    Value.int IntKind.i64 c6] 27) → F1 [Lf.bool true] w2) ∧ (8 < (↑c2n : Int) → ∀ (w3 : World), RowKit.Below w.heap.size w w3 → Kept [m2, m1] w w3 → w3.heap[m1]? = some (Obj.cells
    #[Value.int IntKind.i64 c0, Value.int IntKind.i64 c1, Value.slice c2a c2n c2c, Value.int IntKind.i64 c3, Value.int IntKind.i64 c4, Value.int IntKind.i64 c5, Value.int
    IntKind.i64 c6] 27) → w3.heap[m1]? = some (Obj.cells #[Value.int IntKind.i64 c0, Value.int IntKind.i64 c1, Value.slice c2a c2n c2c, Value.int IntKind.i64 c3, Value.int
    IntKind.i64 c4, Value.int IntKind.i64 c5, Value.int IntKind.i64 c6] 27) → w3.heap[m1]? = some (Obj.cells #[Value.int IntKind.i64 c0, Value.int IntKind.i64 c1, Value.slice c2a
    c2n c2c, Value.int IntKind.i64 c3, Value.int IntKind.i64 c4, Value.int IntKind.i64 c5, Value.int IntKind.i64 c6] 27) → F1 [Lf.bool (decide (12 < (↑c2n : Int)))] w3)) ∧ ((↑c2n :
    Int) ≤ 4 → ∀ (w4 : World), RowKit.Below w.heap.size w w4 → Kept [m2, m1] w w4 → w4.heap[m1]? = some (Obj.cells #[Value.int IntKind.i64 c0, Value.int IntKind.i64 c1, Value.slice
    c2a c2n c2c, Value.int IntKind.i64 c3, Value.int IntKind.i64 c4, Value.int IntKind.i64 c5, Value.int IntKind.i64 c6] 27) → w4.heap[m1]? = some (Obj.cells #[Value.int
    IntKind.i64 c0, Value.int IntKind.i64 c1, Value.slice c2a c2n c2c, Value.int IntKind.i64 c3, Value.int IntKind.i64 c4, Value.int IntKind.i64 c5, Value.int IntKind.i64 c6] 27) →
    F1 [Lf.bool (decide (12 < (↑c2n : Int)))] w4)) ∧ ∀ (t1 : Bool) (w5 : World), RowKit.Below w.heap.size w w5 → F1 [Lf.bool t1] w5 → (t1 = true → ∀ (w6 : World), RowKit.Below
    w.heap.size w w6 → Kept [m2, m1] w5 w6 → Calls Try.prog 12 #[] w6 fun (e1 : Ending) (w7 : World) => ∃ (t2 : Bool), e1 = Ending.returned (Value.bool t2) ∧ KeepX true w.heap.size
    [m2, m1] (fun _ => False) w6 w7 ∧ ∀ (w8 : World), RowKit.Below w.heap.size w w8 → Kept [m2, m1] w7 w8 → R (Ending.returned (Value.bool t2)) w8) ∧ (t1 = false → ∀ (w9 : World),
    RowKit.Below w.heap.size w w9 → Kept [m2, m1] w5 w9 → Calls Try.prog 13 #[Value.agg #[Value.int IntKind.i64 c0, Value.int IntKind.i64 c1, Value.slice c2a c2n c2c, Value.int
    IntKind.i64 c3, Value.int IntKind.i64 c4, Value.int IntKind.i64 c5, Value.int IntKind.i64 c6]] w9 fun (e2 : Ending) (w10 : World) => ∃ (x3 : Int), ∃ (x4 : Int), ∃ (a1 : Option
    Addr), ∃ (m15 : Nat), ∃ (m16 : Nat), ∃ (x5 : Int), ∃ (x6 : Int), ∃ (x7 : Int), ∃ (x8 : Int), e2 = Ending.returned (Value.agg #[Value.int IntKind.i64 x3, Value.int IntKind.i64
    x4, Value.slice a1 m15 m16, Value.int IntKind.i64 x5, Value.int IntKind.i64 x6, Value.int IntKind.i64 x7, Value.int IntKind.i64 x8]) ∧ KeepX true w.heap.size [m2, m1] (fun _ =>
    False) w9 w10 ∧ ∀ (m18 : Nat), w10.heap.size ≤ m18 → ∀ (w11 : World), RowKit.Below w.heap.size w w11 → Kept [m18, m2, m1] w10 w11 → Calls Try.prog 22 #[Value.agg #[Value.int
    IntKind.i64 x3, Value.int IntKind.i64 x4, Value.slice a1 m15 m16, Value.int IntKind.i64 x5, Value.int IntKind.i64 x6, Value.int IntKind.i64 x7, Value.int IntKind.i64 x8],
    Value.agg #[Value.int IntKind.i64 b0, Value.int IntKind.i64 b1, Value.int IntKind.i64 b2, Value.int IntKind.i64 b3, Value.int IntKind.i64 b4, Value.int IntKind.i64 b5,
    Value.int IntKind.i64 b6, Value.int IntKind.i64 b7]] w11 fun (e3 : Ending) (w12 : World) => ∃ (x9 : Int), ∃ (x10 : Int), ∃ (x11 : Int), e3 = Ending.returned (Value.tuple
    #[Value.agg #[Value.int IntKind.i64 x9, Value.int IntKind.i64 x10], Value.int IntKind.i64 x11]) ∧ KeepX true w.heap.size [m18, m2, m1] (fun _ => False) w11 w12 ∧ ∀ (m20 : Nat),
    w12.heap.size ≤ m20 → ∀ (w13 : World), RowKit.Below w.heap.size w w13 → Kept [m20, m18, m2, m1] w12 w13 → Calls Try.prog 23 #[Value.agg #[Value.int IntKind.i64 x3, Value.int
    IntKind.i64 x4, Value.slice a1 m15 m16, Value.int IntKind.i64 x5, Value.int IntKind.i64 x6, Value.int IntKind.i64 x7, Value.int IntKind.i64 x8], Value.agg #[Value.int
    IntKind.i64 b0, Value.int IntKind.i64 b1, Value.int IntKind.i64 b2, Value.int IntKind.i64 b3, Value.int IntKind.i64 b4, Value.int IntKind.i64 b5, Value.int IntKind.i64 b6,
    Value.int IntKind.i64 b7]] w13 fun (e4 : Ending) (w14 : World) => ∃ (a2 : Option Addr), ∃ (m21 : Nat), ∃ (m22 : Nat), ∃ (x12 : Int), ∃ (x13 : Int), ∃ (x14 : Int), ∃ (x15 :
    Int), ∃ (x16 : Int), ∃ (x17 : Int), ∃ (a3 : Option Addr), ∃ (m23 : Nat), ∃ (m24 : Nat), ∃ (x18 : Int), ∃ (x19 : Int), ∃ (x20 : Int), ∃ (x21 : Int), ∃ (x22 : Int), ∃ (x23 :
    Int), ∃ (x24 : Int), e4 = Ending.returned (Value.tuple #[Value.agg #[Value.slice a2 m21 m22, Value.int IntKind.i64 x12, Value.int IntKind.i64 x13, Value.int IntKind.i64 x14,
    Value.int IntKind.i64 x15, Value.int IntKind.i64 x16, Value.int IntKind.i64 x17], Value.agg #[Value.slice a3 m23 m24, Value.int IntKind.i64 x18, Value.int IntKind.i64 x19,
    Value.int IntKind.i64 x20, Value.int IntKind.i64 x21, Value.int IntKind.i64 x22, Value.int IntKind.i64 x23], Value.int IntKind.i64 x24]) ∧ KeepX true w.heap.size [m20, m18, m2,
    m1] (fun _ => False) w13 w14 ∧ ∀ (m26 : Nat), w14.heap.size ≤ m26 → ∀ (m27 : Nat), w14.heap.size ≤ m27 → ∀ (w15 : World), RowKit.Below w.heap.size w w15 → Kept [m27, m26, m20,
    m18, m2, m1] w14 w15 → Calls Try.prog 15 #[Value.agg #[Value.int IntKind.i64 c0, Value.int IntKind.i64 c1, Value.slice c2a c2n c2c, Value.int IntKind.i64 c3, Value.int
    IntKind.i64 c4, Value.int IntKind.i64 c5, Value.int IntKind.i64 c6]] w15 fun (e5 : Ending) (w16 : World) => ∃ (x25 : Int), e5 = Ending.returned (Value.int IntKind.i64 x25) ∧
    KeepX true w.heap.size [m27, m26, m20, m18, m2, m1] (fun _ => False) w15 w16 ∧ ∃ (F2 : List Lf → World → Prop), ((x25 = 0 → ∀ (w18 : World), RowKit.Below w.heap.size w w18 →
    Kept [m27, m26, m20, m18, m2, m1] w16 w18 → Calls Try.prog 24 #[Value.agg #[Value.int IntKind.i64 b0, Value.int IntKind.i64 b1, Value.int IntKind.i64 b2, Value.int IntKind.i64
    b3, Value.int IntKind.i64 b4, Value.int IntKind.i64 b5, Value.int IntKind.i64 b6, Value.int IntKind.i64 b7]] w18 fun (e6 : Ending) (w19 : World) => ∃ (t3 : Bool), e6 =
    Ending.returned (Value.bool t3) ∧ KeepX true w.heap.size [m27, m26, m20, m18, m2, m1] (fun _ => False) w18 w19 ∧ ∀ (w20 : World), RowKit.Below w.heap.size w w20 → Kept [m27,
    m26, m20, m18, m2, m1] w19 w20 → F2 [Lf.bool !t3] w20) ∧ (x25 ≠ 0 → ∀ (w21 : World), RowKit.Below w.heap.size w w21 → Kept [m27, m26, m20, m18, m2, m1] w16 w21 → F2 [Lf.bool
    false] w21)) ∧ ∀ (t4 : Bool) (w22 : World), RowKit.Below w.heap.size w w22 → F2 [Lf.bool t4] w22 → ∃ (F3 : List Lf → World → Prop), ((t4 = true → ∀ (w24 : World), RowKit.Below
    w.heap.size w w24 → Kept [m27, m26, m20, m18, m2, m1] w22 w24 → F3 [Lf.int IntKind.i64 2] w24) ∧ (t4 = false → ∀ (w25 : World), RowKit.Below w.heap.size w w25 → Kept [m27, m26,
    m20, m18, m2, m1] w22 w25 → F3 [Lf.int IntKind.i64 x25] w25)) ∧ ∀ (x26 : Int) (w26 : World), RowKit.Below w.heap.size w w26 → F3 [Lf.int IntKind.i64 x26] w26 → ∀ (w27 : World),
    RowKit.Below w.heap.size w w27 → Kept [m27, m26, m20, m18, m2, m1] w26 w27 → Calls Try.prog 16 #[Value.agg #[Value.int IntKind.i64 x3, Value.int IntKind.i64 x4, Value.slice a1
    m15 m16, Value.int IntKind.i64 x5, Value.int IntKind.i64 x6, Value.int IntKind.i64 x7, Value.int IntKind.i64 x8], Value.agg #[Value.int IntKind.i64 c0, Value.int IntKind.i64
    c1, Value.slice c2a c2n c2c, Value.int IntKind.i64 c3, Value.int IntKind.i64 c4, Value.int IntKind.i64 c5, Value.int IntKind.i64 c6]] w27 fun (e7 : Ending) (w28 : World) => ∃
    (t5 : Bool), e7 = Ending.returned (Value.bool t5) ∧ KeepX true w.heap.size [m27, m26, m20, m18, m2, m1] (fun _ => False) w27 w28 ∧ ((!t5) = true → ∀ (w29 : World), RowKit.Below
    w.heap.size w w29 → Kept [m27, m26, m20, m18, m2, m1] w28 w29 → R (Ending.returned (Value.bool false)) w29) ∧ ((!t5) = false → (x26 ≠ 0 → ∃ (F4 : List Lf → World → Prop), ((x11
    = x26 → (x24 = x26 → ∀ (w31 : World), RowKit.Below w.heap.size w w31 → Kept [m27, m26, m20, m18, m2, m1] w28 w31 → RunsTo Try.prog ((eqGuard BinOp.eql 25 (Operand.tmp 71)
    (Operand.tmp 72) (Value.agg #[Value.int IntKind.i64 x9, Value.int IntKind.i64 x10]) (Value.agg #[Value.int IntKind.i64 0, Value.int IntKind.i64 0])) >>= fun _ => binOp
    BinOp.eql 25 (Value.agg #[Value.int IntKind.i64 x9, Value.int IntKind.i64 x10]) (Value.agg #[Value.int IntKind.i64 0, Value.int IntKind.i64 0])) w31 fun (v1 : Value) (w32 :
    World) => ∃ (t6 : Bool), v1 = Value.bool t6 ∧ KeepX true w.heap.size [m27, m26, m20, m18, m2, m1] (fun _ => False) w31 w32 ∧ (t6 = true → ∀ (w33 : World), RowKit.Below
    w.heap.size w w33 → Kept [m27, m26, m20, m18, m2, m1] w32 w33 → Calls Try.prog 25 #[Value.agg #[Value.slice a2 m21 m22, Value.int IntKind.i64 x12, Value.int IntKind.i64 x13,
    Value.int IntKind.i64 x14, Value.int IntKind.i64 x15, Value.int IntKind.i64 x16, Value.int IntKind.i64 x17], Value.agg #[Value.slice none 0 0, Value.int IntKind.i64 0,
    Value.int IntKind.i64 0, Value.int IntKind.i64 0, Value.int IntKind.i64 0, Value.int IntKind.i64 0, Value.int IntKind.i64 0]] w33 fun (e8 : Ending) (w34 : World) => ∃ (t7 :
    Bool), e8 = Ending.returned (Value.bool t7) ∧ KeepX true w.heap.size [m27, m26, m20, m18, m2, m1] (fun _ => False) w33 w34 ∧ (t7 = true → ∀ (w35 : World), RowKit.Below
    w.heap.size w w35 → Kept [m27, m26, m20, m18, m2, m1] w34 w35 → Calls Try.prog 25 #[Value.agg #[Value.slice a3 m23 m24, Value.int IntKind.i64 x18, Value.int IntKind.i64 x19,
    Value.int IntKind.i64 x20, Value.int IntKind.i64 x21, Value.int IntKind.i64 x22, Value.int IntKind.i64 x23], Value.agg #[Value.slice none 0 0, Value.int IntKind.i64 0,
    Value.int IntKind.i64 0, Value.int IntKind.i64 0, Value.int IntKind.i64 0, Value.int IntKind.i64 0, Value.int IntKind.i64 0]] w35 fun (e9 : Ending) (w36 : World) => ∃ (t8 :
    Bool), e9 = Ending.returned (Value.bool t8) ∧ KeepX true w.heap.size [m27, m26, m20, m18, m2, m1] (fun _ => False) w35 w36 ∧ (t8 = true → ∀ (w37 : World), RowKit.Below
    w.heap.size w w37 → Kept [m27, m26, m20, m18, m2, m1] w36 w37 → Calls Try.prog 12 #[] w37 fun (e10 : Ending) (w38 : World) => ∃ (t9 : Bool), e10 = Ending.returned (Value.bool
    t9) ∧ KeepX true w.heap.size [m27, m26, m20, m18, m2, m1] (fun _ => False) w37 w38 ∧ ∀ (w39 : World), RowKit.Below w.heap.size w w39 → Kept [m27, m26, m20, m18, m2, m1] w38 w39
    → F4 [Lf.bool t9] w39) ∧ (t8 = false → ∀ (w40 : World), RowKit.Below w.heap.size w w40 → Kept [m27, m26, m20, m18, m2, m1] w36 w40 → F4 [Lf.bool false] w40)) ∧ (t7 = false → ∀
    (w41 : World), RowKit.Below w.heap.size w w41 → Kept [m27, m26, m20, m18, m2, m1] w34 w41 → F4 [Lf.bool false] w41)) ∧ (t6 = false → ∀ (w42 : World), RowKit.Below w.heap.size w
    w42 → Kept [m27, m26, m20, m18, m2, m1] w32 w42 → F4 [Lf.bool false] w42)) ∧ (x24 ≠ x26 → ∀ (w43 : World), RowKit.Below w.heap.size w w43 → Kept [m27, m26, m20, m18, m2, m1]
    w28 w43 → F4 [Lf.bool false] w43)) ∧ (x11 ≠ x26 → ∀ (w44 : World), RowKit.Below w.heap.size w w44 → Kept [m27, m26, m20, m18, m2, m1] w28 w44 → F4 [Lf.bool false] w44)) ∧ ∀
    (t10 : Bool) (w45 : World), RowKit.Below w.heap.size w w45 → F4 [Lf.bool t10] w45 → ∀ (w46 : World), RowKit.Below w.heap.size w w46 → Kept [m27, m26, m20, m18, m2, m1] w45 w46
    → R (Ending.returned (Value.bool t10)) w46) ∧ (x26 = 0 → ∀ (w47 : World), RowKit.Below w.heap.size w w47 → Kept [m27, m26, m20, m18, m2, m1] w28 w47 → Calls Try.prog 26
    #[Value.agg #[Value.int IntKind.i64 c0, Value.int IntKind.i64 c1, Value.slice c2a c2n c2c, Value.int IntKind.i64 c3, Value.int IntKind.i64 c4, Value.int IntKind.i64 c5,
    Value.int IntKind.i64 c6], Value.agg #[Value.int IntKind.i64 b0, Value.int IntKind.i64 b1, Value.int IntKind.i64 b2, Value.int IntKind.i64 b3, Value.int IntKind.i64 b4,
    Value.int IntKind.i64 b5, Value.int IntKind.i64 b6, Value.int IntKind.i64 b7]] w47 fun (e11 : Ending) (w48 : World) => ∃ (a4 : Option Addr), ∃ (m35 : Nat), ∃ (m36 : Nat), ∃
    (x27 : Int), ∃ (x28 : Int), ∃ (x29 : Int), ∃ (x30 : Int), ∃ (x31 : Int), ∃ (x32 : Int), ∃ (a5 : Option Addr), ∃ (m37 : Nat), ∃ (m38 : Nat), ∃ (x33 : Int), ∃ (x34 : Int), ∃ (x35
    : Int), ∃ (x36 : Int), ∃ (x37 : Int), ∃ (x38 : Int), e11 = Ending.returned (Value.tuple #[Value.agg #[Value.slice a4 m35 m36, Value.int IntKind.i64 x27, Value.int IntKind.i64
    x28, Value.int IntKind.i64 x29, Value.int IntKind.i64 x30, Value.int IntKind.i64 x31, Value.int IntKind.i64 x32], Value.agg #[Value.slice a5 m37 m38, Value.int IntKind.i64 x33,
    Value.int IntKind.i64 x34, Value.int IntKind.i64 x35, Value.int IntKind.i64 x36, Value.int IntKind.i64 x37, Value.int IntKind.i64 x38]]) ∧ KeepX true w.heap.size [m27, m26,
    m20, m18, m2, m1] (fun _ => False) w47 w48 ∧ ∀ (m40 : Nat), w48.heap.size ≤ m40 → ∀ (m41 : Nat), w48.heap.size ≤ m41 → ∀ (w49 : World), RowKit.Below w.heap.size w w49 → Kept
    [m41, m40, m27, m26, m20, m18, m2, m1] w48 w49 → Calls Try.prog 21 #[Value.agg #[Value.int IntKind.i64 c0, Value.int IntKind.i64 c1, Value.slice c2a c2n c2c, Value.int
    IntKind.i64 c3, Value.int IntKind.i64 c4, Value.int IntKind.i64 c5, Value.int IntKind.i64 c6]] w49 fun (e12 : Ending) (w50 : World) => ∃ (x39 : Int), e12 = Ending.returned
    (Value.int IntKind.i64 x39) ∧ KeepX true w.heap.size [m41, m40, m27, m26, m20, m18, m2, m1] (fun _ => False) w49 w50 ∧ ((-9223372036854775808 : Int) ≤ 10000 * x39 ∧ 10000 * x39
    ≤ 9223372036854775807) ∧ (x11 = 0 → (x24 = 0 → ∀ (w51 : World), RowKit.Below w.heap.size w w51 → KeptIn [(0, w50.heap.size)] [m41, m40, m27, m26, m20, m18, m2, m1] w50 w51 →
    Calls Try.prog 20 #[Value.agg #[Value.int IntKind.i64 c0, Value.int IntKind.i64 c1, Value.slice c2a c2n c2c, Value.int IntKind.i64 c3, Value.int IntKind.i64 c4, Value.int
    IntKind.i64 c5, Value.int IntKind.i64 c6], Value.agg #[Value.slice a4 m35 m36, Value.int IntKind.i64 x27, Value.int IntKind.i64 x28, Value.int IntKind.i64 x29, Value.int
    IntKind.i64 x30, Value.int IntKind.i64 x31, Value.int IntKind.i64 x32]] w51 fun (e13 : Ending) (w52 : World) => ∃ (x40 : Int), e13 = Ending.returned (Value.int IntKind.i64 x40)
    ∧ KeepX true w.heap.size [m41, m40, m27, m26, m20, m18, m2, m1] (fun _ => False) w51 w52 ∧ ∀ (w53 : World), RowKit.Below w.heap.size w w53 → KeptIn [(0, w52.heap.size)] [m41,
    m40, m27, m26, m20, m18, m2, m1] w52 w53 → Calls Try.prog 27 #[Value.int IntKind.i64 x40, Value.int IntKind.i64 (10000 * x39)] w53 fun (e14 : Ending) (w54 : World) => ∃ (x41 :
    Int), e14 = Ending.returned (Value.int IntKind.i64 x41) ∧ KeepX true w.heap.size [m41, m40, m27, m26, m20, m18, m2, m1] (fun _ => False) w53 w54 ∧ ∀ (w55 : World), RowKit.Below
    w.heap.size w w55 → KeptIn [(0, w54.heap.size)] [m41, m40, m27, m26, m20, m18, m2, m1] w54 w55 → Calls Try.prog 20 #[Value.agg #[Value.int IntKind.i64 c0, Value.int IntKind.i64
    c1, Value.slice c2a c2n c2c, Value.int IntKind.i64 c3, Value.int IntKind.i64 c4, Value.int IntKind.i64 c5, Value.int IntKind.i64 c6], Value.agg #[Value.slice a5 m37 m38,
    Value.int IntKind.i64 x33, Value.int IntKind.i64 x34, Value.int IntKind.i64 x35, Value.int IntKind.i64 x36, Value.int IntKind.i64 x37, Value.int IntKind.i64 x38]] w55 fun (e15
    : Ending) (w56 : World) => ∃ (x42 : Int), e15 = Ending.returned (Value.int IntKind.i64 x42) ∧ KeepX true w.heap.size [m41, m40, m27, m26, m20, m18, m2, m1] (fun _ => False) w55
    w56 ∧ ∀ (w57 : World), RowKit.Below w.heap.size w w57 → KeptIn [(0, w56.heap.size)] [m41, m40, m27, m26, m20, m18, m2, m1] w56 w57 → Calls Try.prog 28 #[Value.int IntKind.i64
    x42, Value.int IntKind.i64 (10000 * x39)] w57 fun (e16 : Ending) (w58 : World) => ∃ (x43 : Int), e16 = Ending.returned (Value.int IntKind.i64 x43) ∧ KeepX true w.heap.size
    [m41, m40, m27, m26, m20, m18, m2, m1] (fun _ => False) w57 w58 ∧ ∀ (w59 : World), RowKit.Below w.heap.size w w59 → KeptIn [(0, w58.heap.size)] [m41, m40, m27, m26, m20, m18,
    m2, m1] w58 w59 → RunsTo Try.prog ((eqGuard BinOp.eql 25 (Operand.tmp 104) (Operand.tmp 115) (Value.agg #[Value.int IntKind.i64 x9, Value.int IntKind.i64 x10]) (Value.agg
    #[Value.int IntKind.i64 x41, Value.int IntKind.i64 x43])) >>= fun _ => binOp BinOp.eql 25 (Value.agg #[Value.int IntKind.i64 x9, Value.int IntKind.i64 x10]) (Value.agg
    #[Value.int IntKind.i64 x41, Value.int IntKind.i64 x43])) w59 fun (v2 : Value) (w60 : World) => ∃ (t11 : Bool), v2 = Value.bool t11 ∧ KeepX true w.heap.size [m41, m40, m27,
    m26, m20, m18, m2, m1] (fun _ => False) w59 w60 ∧ (t11 = true → ∀ (w61 : World), RowKit.Below w.heap.size w w61 → KeptIn [(0, w60.heap.size)] [m41, m40, m27, m26, m20, m18, m2,
    m1] w60 w61 → Calls Try.prog 25 #[Value.agg #[Value.slice a2 m21 m22, Value.int IntKind.i64 x12, Value.int IntKind.i64 x13, Value.int IntKind.i64 x14, Value.int IntKind.i64
    x15, Value.int IntKind.i64 x16, Value.int IntKind.i64 x17], Value.agg #[Value.slice a4 m35 m36, Value.int IntKind.i64 x27, Value.int IntKind.i64 x28, Value.int IntKind.i64 x29,
    Value.int IntKind.i64 x30, Value.int IntKind.i64 x31, Value.int IntKind.i64 x32]] w61 fun (e17 : Ending) (w62 : World) => ∃ (t12 : Bool), e17 = Ending.returned (Value.bool t12)
    ∧ KeepX true w.heap.size [m41, m40, m27, m26, m20, m18, m2, m1] (fun _ => False) w61 w62 ∧ (t12 = true → ∀ (w63 : World), RowKit.Below w.heap.size w w63 → KeptIn [(0,
    w62.heap.size)] [m41, m40, m27, m26, m20, m18, m2, m1] w62 w63 → Calls Try.prog 25 #[Value.agg #[Value.slice a3 m23 m24, Value.int IntKind.i64 x18, Value.int IntKind.i64 x19,
    Value.int IntKind.i64 x20, Value.int IntKind.i64 x21, Value.int IntKind.i64 x22, Value.int IntKind.i64 x23], Value.agg #[Value.slice a5 m37 m38, Value.int IntKind.i64 x33,
    Value.int IntKind.i64 x34, Value.int IntKind.i64 x35, Value.int IntKind.i64 x36, Value.int IntKind.i64 x37, Value.int IntKind.i64 x38]] w63 fun (e18 : Ending) (w64 : World) =>
    ∃ (t13 : Bool), e18 = Ending.returned (Value.bool t13) ∧ KeepX true w.heap.size [m41, m40, m27, m26, m20, m18, m2, m1] (fun _ => False) w63 w64 ∧ (t13 = true → ∀ (w65 : World),
    RowKit.Below w.heap.size w w65 → KeptIn [(0, w64.heap.size)] [m41, m40, m27, m26, m20, m18, m2, m1] w64 w65 → Calls Try.prog 12 #[] w65 fun (e19 : Ending) (w66 : World) => ∃
    (t14 : Bool), e19 = Ending.returned (Value.bool t14) ∧ KeepX true w.heap.size [m41, m40, m27, m26, m20, m18, m2, m1] (fun _ => False) w65 w66 ∧ ∀ (w67 : World), RowKit.Below
    w.heap.size w w67 → Kept [m41, m40, m27, m26, m20, m18, m2, m1] w66 w67 → R (Ending.returned (Value.bool t14)) w67) ∧ (t13 = false → ∀ (w68 : World), RowKit.Below w.heap.size w
    w68 → Kept [m41, m40, m27, m26, m20, m18, m2, m1] w64 w68 → R (Ending.returned (Value.bool false)) w68)) ∧ (t12 = false → ∀ (w69 : World), RowKit.Below w.heap.size w w69 → Kept
    [m41, m40, m27, m26, m20, m18, m2, m1] w62 w69 → R (Ending.returned (Value.bool false)) w69)) ∧ (t11 = false → ∀ (w70 : World), RowKit.Below w.heap.size w w70 → Kept [m41, m40,
    m27, m26, m20, m18, m2, m1] w60 w70 → R (Ending.returned (Value.bool false)) w70)) ∧ (x24 ≠ 0 → ∀ (w71 : World), RowKit.Below w.heap.size w w71 → Kept [m41, m40, m27, m26, m20,
    m18, m2, m1] w50 w71 → R (Ending.returned (Value.bool false)) w71)) ∧ (x11 ≠ 0 → ∀ (w72 : World), RowKit.Below w.heap.size w w72 → Kept [m41, m40, m27, m26, m20, m18, m2, m1]
    w50 w72 → R (Ending.returned (Value.bool false)) w72))))) : Calls Try.prog 4 #[Value.agg #[Value.int IntKind.i64 c0, Value.int IntKind.i64 c1, Value.slice c2a c2n c2c,
    Value.int IntKind.i64 c3, Value.int IntKind.i64 c4, Value.int IntKind.i64 c5, Value.int IntKind.i64 c6], Value.agg #[Value.int IntKind.i64 b0, Value.int IntKind.i64 b1,
    Value.int IntKind.i64 b2, Value.int IntKind.i64 b3, Value.int IntKind.i64 b4, Value.int IntKind.i64 b5, Value.int IntKind.i64 b6, Value.int IntKind.i64 b7]] w R := calls_of_vcj
    (pure := true) (wrapAt := []) (muts := []) (esc := []) (joins := [(2000001, [(30, 4)]), (2000007, [(55, 4)]), (55, [(11, 35)]), (2000012, [(4, 4)])]) (args := [SV.pv (PV.agg
    [Lf.int IntKind.i64 c0, Lf.int IntKind.i64 c1, Lf.sl c2a c2n c2c, Lf.int IntKind.i64 c3, Lf.int IntKind.i64 c4, Lf.int IntKind.i64 c5, Lf.int IntKind.i64 c6]), SV.pv (PV.agg
    [Lf.int IntKind.i64 b0, Lf.int IntKind.i64 b1, Lf.int IntKind.i64 b2, Lf.int IntKind.i64 b3, Lf.int IntKind.i64 b4, Lf.int IntKind.i64 b5, Lf.int IntKind.i64 b6, Lf.int
    IntKind.i64 b7])]) (vs := [Value.agg #[Value.int IntKind.i64 c0, Value.int IntKind.i64 c1, Value.slice c2a c2n c2c, Value.int IntKind.i64 c3, Value.int IntKind.i64 c4,
    Value.int IntKind.i64 c5, Value.int IntKind.i64 c6], Value.agg #[Value.int IntKind.i64 b0, Value.int IntKind.i64 b1, Value.int IntKind.i64 b2, Value.int IntKind.i64 b3,
    Value.int IntKind.i64 b4, Value.int IntKind.i64 b5, Value.int IntKind.i64 b6, Value.int IntKind.i64 b7]]) Try.func4 rfl rfl rfl (Eq.mp (by kernel_rfl) h) 
end Go.Proofs
end
section
/- BeatRates. -/
namespace Go.Proofs.R03
open Go.Vc Go.RowKit Go.Proofs

theorem rsame_any (t u : Tr) {ta ua : Option Addr} {tc uc : Nat} {w : World} (ht : Cells w ta (ints t.grow)) (hu : Cells w ua (ints u.grow)) (hl : t.grow.length ≤ 100000) : Calls Try.prog 25 #[t.v ta tc, u.v ua uc] w (Pure w (.bool (decide (t = u)))) := by
  have no : t ≠ u → decide (t = u) = false := fun h => decide_eq_false h
  refine vc25 _ _ _ _ _ _ _ _ _ _ _ _ _ _ _ _ _ _ w _ fun m1 h1 m2 h2 => ⟨fun h w1 hb1 _ => ⟨by rw [no fun e => h (by rw [e])], hb1⟩, fun hlen => ?_⟩
  refine ⟨fun ls _ => match ls with | [_, .int _ i] => 0 ≤ i ∧ i ≤ t.grow.length ∧ ∀ j : Nat, j < i.toNat → t.grow[j]? = u.grow[j]? | _ => False, fun ls => match ls with | [_, .int _ i] => (t.grow.length - i).toNat | _ => 0, fun w2 hb _ => ⟨by omega, by omega, fun j hj => by omega⟩, ?_⟩
  rintro _ i w4 hb4 ⟨i0, il, hok⟩
  refine ⟨fun hi => ?_, fun hi => ?_⟩
  · have hit : i.toNat < t.grow.length := by omega
    have hiu : i.toNat < u.grow.length := by omega
    obtain ⟨b1, o1, rfl, d1⟩ := ht i.toNat _ (ints_get (getElem_of_lt hit))
    obtain ⟨b2, o2, rfl, d2⟩ := hu i.toNat _ (ints_get (getElem_of_lt hiu))
    refine ⟨b1, o1, rfl, ⟨i0, hi⟩, _, cell_at' (cell_keep hb4 d1) (by omega), .inl (cell_lt d1), b2, o2, rfl, ⟨i0, by omega⟩, _, cell_at' (cell_keep hb4 d2) (by omega), .inl (cell_lt d2), fun hne w5 hb5 _ => ⟨by rw [no fun e => by subst e; exact hne rfl], hb5⟩, fun he => ⟨by omega, fun w6 hb6 _ => ⟨⟨by omega, by omega, fun j hj => ?_⟩, ?_⟩⟩⟩
    · by_cases e : j < i.toNat
      · exact hok j e
      · have : j = i.toNat := by omega
        subst this
        rw [getElem_of_lt hit, getElem_of_lt hiu, he]
    · show ((t.grow.length : Int) - (i + 1)).toNat < ((t.grow.length : Int) - i).toNat
      omega
  · have hg : t.grow = u.grow := List.ext_getElem? fun j => by
      by_cases hj : j < i.toNat
      · exact hok j hj
      · rw [List.getElem?_eq_none (by omega), List.getElem?_eq_none (by omega)]
    refine ⟨fun e1 => ⟨fun e2 => ⟨fun e3 => ⟨fun e4 => ⟨fun e5 w7 hb7 _ => ⟨?_, hb7⟩, fun h w8 hb8 _ => ⟨by rw [no fun e => h (by rw [e])], hb8⟩⟩, fun h w8 hb8 _ => ⟨by rw [no fun e => h (by rw [e])], hb8⟩⟩, fun h w8 hb8 _ => ⟨by rw [no fun e => h (by rw [e])], hb8⟩⟩, fun h w8 hb8 _ => ⟨by rw [no fun e => h (by rw [e])], hb8⟩⟩, fun h w8 hb8 _ => ⟨by rw [no fun e => h (by rw [e])], hb8⟩⟩
    obtain ⟨g, a1, a2, a3, a4, a5, a6⟩ := t
    obtain ⟨g', b1, b2, b3, b4, b5, b6⟩ := u
    simp only at hg e1 e2 e3 e4 e5
    subst hg; subst e1; subst e2; subst e3; subst e4; subst e5
    congr 2
    rw [Bool.eq_iff_iff]
    simp

theorem ends_cases (c : Clk) (b : Bn) : ∃ S tl th, rateR c b = (S, openErr c b) ∧ endsR c b = (tl, th, openErr c b) ∧ (openErr c b ≠ 0 → S = (0, 0) ∧ tl = nilT ∧ th = nilT) ∧ (openErr c b = 0 → S = roundS (10000 * lenC c.rods) (rateK (newK c b)) ∧ tl = lowT c b ∧ th = highT c b) := by
  by_cases h : openErr c b = 0
  · exact ⟨_, _, _, by rw [rateR_eq h, h], by rw [endsR_eq h, h], fun g => absurd h g, fun _ => ⟨rfl, rfl, rfl⟩⟩
  · refine ⟨(0, 0), nilT, nilT, by unfold rateR; rw [if_neg h], by unfold endsR; rw [if_neg h], fun _ => ⟨rfl, rfl, rfl⟩, fun g => absurd g h⟩

set_option maxRecDepth 100000 in
set_option maxHeartbeats 4000000 in
theorem rates_any (c : Clk) (b : Bn) {ra : Option Addr} {rc : Nat} {w : World} (hc : Cells w ra (rods c.rods)) : Calls Try.prog 4 #[c.v ra rc, b.v] w (Pure w (.bool true)) := by
  obtain ⟨S, tl, th, eR, eE, hbad, hgood⟩ := ends_cases c b
  refine vc4 _ _ _ _ _ _ _ _ _ _ _ _ _ _ _ _ _ w _ fun m1 h1 m2 h2 => ?_
  refine ⟨fun ls _ => match ls with | [.bool t] => t = false → c.rods.length ≤ 4 ∨ (8 < c.rods.length ∧ c.rods.length ≤ 12) | _ => False, ⟨fun g1 => ⟨fun g2 w2 _ _ _ _ h => (by cases h), fun g2 w3 _ _ _ _ _ h => .inr ⟨by omega, by simp at h; omega⟩⟩, fun g1 w4 _ _ _ _ h => .inl (by omega)⟩, ?_⟩
  rintro t1 w5 hb5 hF
  refine ⟨fun _ w6 hb6 _ => Pure.calls (known_any w6) fun w7 hb7 => ⟨true, rfl, .all hb7, fun w8 hb8 _ => ⟨rfl, hb8⟩⟩, fun hf w9 hb9 hk9 => ?_⟩
  have hn := hF hf
  have o9 := hk9.own
  refine (copied_l c (hc.keep hb9) (by omega)).mono fun e w10 he => ?_
  obtain ⟨aC, nC, rfl, hb10, C10⟩ := he
  have z10 := hb10.size
  refine ⟨_, _, _, _, _, _, _, _, _, rfl, .all hb10, fun m18 h18 w11 hb11 hk11 => ?_⟩
  have z11 := hk11.size
  have o11 := hk11.own
  have C11 := Lies.ko C10 hk11 (allc (.inr h18) (fun y hy => .inl (o9 y hy)))
  have hcr := rateOf_any c b (rc := nC) C11.cells
  rw [eR] at hcr
  refine Pure.calls hcr fun w12 hb12 => ⟨_, _, _, rfl, .all hb12, fun m20 h20 w13 hb13 hk13 => ?_⟩
  have z12 := hb12.size; have z13 := hk13.size
  have o13 := hk13.own
  have C13 := Lies.ko (C11.below hb12) hk13 (allc (.inr (by omega)) (allc (.inr h18) (fun y hy => .inl (o9 y hy))))
  have hce := ends_l c b (rc := nC) C13.cells
  rw [eE] at hce
  refine hce.mono fun e w14 he => ?_
  obtain ⟨aE, nE, aF, nF, rfl, hb14, E14, F14⟩ := he
  have z14 := hb14.size
  refine ⟨_, _, _, _, _, _, _, _, _, _, _, _, _, _, _, _, _, _, _, rfl, .all hb14, fun m26 h26 m27 h27 w15 hb15 hk15 => ?_⟩
  have sC : ∀ x ∈ [m27, m26, m20, m18, m2, m1], x < w9.heap.size ∨ w10.heap.size ≤ x := allc (.inr (by omega)) (allc (.inr (by omega)) (allc (.inr (by omega)) (allc (.inr h18) (fun y hy => .inl (o9 y hy)))))
  have sE : ∀ x ∈ [m27, m26, m20, m18, m2, m1], x < w13.heap.size ∨ w14.heap.size ≤ x := allc (.inr h27) (allc (.inr h26) (fun y hy => .inl (o13 y hy)))
  obtain ⟨D, hD⟩ : ∃ D : World → Prop, D = fun u => w14.heap.size ≤ u.heap.size ∧ Lies [] w9.heap.size w10.heap.size u aC (rods c.rods) ∧ Lies [] w13.heap.size w14.heap.size u aE (ints tl.grow) ∧ Lies [] w13.heap.size w14.heap.size u aF (ints th.grow) := ⟨_, rfl⟩
  have Dk : ∀ {u v : World}, D u → Kept [m27, m26, m20, m18, m2, m1] u v → D v := fun {u v} h hk => by
    rw [hD] at h ⊢
    exact ⟨Nat.le_trans h.1 hk.size, Lies.ko h.2.1 hk sC, Lies.ko h.2.2.1 hk sE, Lies.ko h.2.2.2 hk sE⟩
  have Db : ∀ {u v : World}, D u → Below u.heap.size u v → D v := fun {u v} h hk => by
    rw [hD] at h ⊢
    exact ⟨Nat.le_trans h.1 hk.size, h.2.1.below hk, h.2.2.1.below hk, h.2.2.2.below hk⟩
  have D14 : D w14 := by rw [hD]; exact ⟨Nat.le_refl _, C13.below hb14, E14, F14⟩
  have D15 := Dk D14 hk15
  refine Pure.calls (rcheck_any c (hc.keep hb15)) fun w16 hb16 => ⟨_, rfl, .all hb16, ?_⟩
  have D16 := Db D15 hb16
  refine ⟨fun ls u => match ls with | [.bool t] => t = (decide (check c = 0) && !decide (OkB b)) ∧ D u | _ => False, ⟨fun h0 w18 hb18 hk18 => ?_, fun h0 w21 hb21 hk21 => ⟨by rw [decide_eq_false h0]; rfl, Dk D16 hk21⟩⟩, ?_⟩
  · exact Pure.calls (rbounds_any b w18) fun w19 hb19 => ⟨_, rfl, .all hb19, fun w20 hb20 hk20 => ⟨by rw [decide_eq_true h0]; rfl, Dk (Db (Dk D16 hk18) hb19) hk20⟩⟩
  rintro t4 w22 hb22 ⟨rfl, D22⟩
  refine ⟨fun ls u => match ls with | [.int _ x] => x = openErr c b ∧ D u | _ => False, ⟨fun h w24 hb24 hk24 => ⟨?_, Dk D22 hk24⟩, fun h w25 hb25 hk25 => ⟨?_, Dk D22 hk25⟩⟩, ?_⟩
  · simp only [Bool.and_eq_true, decide_eq_true_eq, Bool.not_eq_true', decide_eq_false_iff_not] at h
    unfold openErr; rw [if_pos h.1, if_neg h.2]
  · unfold openErr
    by_cases h0 : check c = 0
    · rw [if_pos h0]
      rw [decide_eq_true h0] at h
      simp only [Bool.true_and, Bool.not_eq_false', decide_eq_true_eq] at h
      rw [if_pos h, h0]
    · rw [if_neg h0]
  rintro x26 w26 hb26 ⟨rfl, D26⟩ w27 hb27 hk27
  have D27 := Dk D26 hk27
  have C27 : Lies [] w9.heap.size w10.heap.size w27 aC (rods c.rods) := by rw [hD] at D27; exact D27.2.1
  refine Pure.calls (same_any c c C27.cells (hc.keep hb27) (by omega)) fun w28 hb28 => ⟨_, rfl, .all hb28, fun h => absurd h (by simp), fun _ => ?_⟩
  have D28 := Db D27 hb28
  refine ⟨fun hne => ?_, fun h0 => ?_⟩
  · obtain ⟨rfl, rfl, rfl⟩ := hbad hne
    refine ⟨fun ls _ => match ls with | [.bool t] => t = true | _ => False, ⟨fun _ => ⟨fun _ w31 hb31 hk31 => ?_, fun h => absurd rfl h⟩, fun h => absurd rfl h⟩, ?_⟩
    · refine eql_span ⟨_, rfl, .all (.refl _ _), fun _ w33 hb33 hk33 => ?_, fun h => absurd h (by simp)⟩
      refine Pure.calls (rsame_any nilT nilT (ta := aE) (tc := nE) (ua := none) (uc := 0) Cells.nil Cells.nil (by decide)) fun w34 hb34 => ⟨_, rfl, .all hb34, fun _ w35 hb35 hk35 => ?_, fun h => absurd h (by simp)⟩
      refine Pure.calls (rsame_any nilT nilT (ta := aF) (tc := nF) (ua := none) (uc := 0) Cells.nil Cells.nil (by decide)) fun w36 hb36 => ⟨_, rfl, .all hb36, fun _ w37 hb37 hk37 => ?_, fun h => absurd h (by simp)⟩
      exact Pure.calls (known_any w37) fun w38 hb38 => ⟨true, rfl, .all hb38, fun w39 _ _ => rfl⟩
    · rintro t w45 hb45 rfl w46 hb46 _
      exact ⟨rfl, hb46⟩
  · obtain ⟨rfl, rfl, rfl⟩ := hgood h0
    have hck : check c = 0 := by
      unfold openErr at h0
      split at h0
      · assumption
      · rename_i h; exact absurd h0 h
    have hbk : OkB b := by
      unfold openErr at h0
      rw [if_pos hck] at h0
      split at h0
      · assumption
      · omega
    have hv := newK_val hck hbk
    have hok := newK_ok h0
    have hbd := rateK_bd hok
    simp only [Bd] at hbd
    have hlen : 100 ≤ lenC c.rods ∧ lenC c.rods ≤ 100000 := hok.len
    have inL : InK (lowT c b) (newK c b) := (ends_spec true hv).1
    have inH : InK (highT c b) (newK c b) := (ends_spec false hv).1
    have pL : partsR c (lowT c b) = (rateK (newK c b)).1 := (ends_spec true hv).2
    have pH : partsR c (highT c b) = (rateK (newK c b)).2 := (ends_spec false hv).2
    have okL : OkK (exactK c (lowT c b)) := exactK_ok hok inL
    have okH : OkK (exactK c (highT c b)) := exactK_ok hok inH
    obtain ⟨eL, eH⟩ := rends_eq hck hbk
    have hglL : (lowT c b).grow.length ≤ 100000 := by rw [inL.len, newK_len]; omega
    have hglH : (highT c b).grow.length ≤ 100000 := by rw [inH.len, newK_len]; omega
    intro w47 hb47 hk47
    have D47 := Dk D28 hk47
    refine (rends26_any hck hbk (hc.keep hb47)).mono fun e w48 he => ?_
    unfold RendsPost at he
    rw [eL, eH] at he
    obtain ⟨aG, nG, aH, nH, rfl, hb48, G48, H48⟩ := he
    have z48 := hb48.size
    have D48 := Db D47 hb48
    have o47 := hk47.own
    refine ⟨_, _, _, _, _, _, _, _, _, _, _, _, _, _, _, _, _, _, rfl, .all hb48, fun m40 h40 m41 h41 w49 hb49 hk49 => ?_⟩
    rw [hD] at D48
    obtain ⟨z14', _, E48, F48⟩ := D48
    have sE8 : ∀ x ∈ [m41, m40, m27, m26, m20, m18, m2, m1], x < w13.heap.size ∨ w14.heap.size ≤ x := allc (.inr (by omega)) (allc (.inr (by omega)) sE)
    have sG8 : ∀ x ∈ [m41, m40, m27, m26, m20, m18, m2, m1], x < w47.heap.size ∨ w48.heap.size ≤ x := allc (.inr h41) (allc (.inr h40) (fun y hy => .inl (o47 y hy)))
    obtain ⟨Q, hQ⟩ : ∃ Q : World → Prop, Q = fun u => Lies [] w13.heap.size w14.heap.size u aE (ints (lowT c b).grow) ∧ Lies [] w13.heap.size w14.heap.size u aF (ints (highT c b).grow) ∧ Lies [] w47.heap.size w48.heap.size u aG (ints (lowT c b).grow) ∧ Lies [] w47.heap.size w48.heap.size u aH (ints (highT c b).grow) := ⟨_, rfl⟩
    have Qc : ∀ {u v : World}, Q u → Chg [m41, m40, m27, m26, m20, m18, m2, m1] u v → Q v := fun {u v} h hk => by
      rw [hQ] at h ⊢
      exact ⟨h.1.out hk sE8, h.2.1.out hk sE8, h.2.2.1.out hk sG8, h.2.2.2.out hk sG8⟩
    have Qb : ∀ {u v : World}, Q u → Below u.heap.size u v → Q v := fun {u v} h hk => by
      rw [hQ] at h ⊢
      exact ⟨h.1.below hk, h.2.1.below hk, h.2.2.1.below hk, h.2.2.2.below hk⟩
    have Q48 : Q w48 := by rw [hQ]; exact ⟨E48, F48, G48, H48⟩
    have Q49 := Qc Q48 (Chg.kept hk49)
    have cE : ∀ {u : World}, Q u → Cells u aE (ints (lowT c b).grow) := fun {u} h => by rw [hQ] at h; exact h.1.cells
    have cF : ∀ {u : World}, Q u → Cells u aF (ints (highT c b).grow) := fun {u} h => by rw [hQ] at h; exact h.2.1.cells
    have cG : ∀ {u : World}, Q u → Cells u aG (ints (lowT c b).grow) := fun {u} h => by rw [hQ] at h; exact h.2.2.1.cells
    have cH : ∀ {u : World}, Q u → Cells u aH (ints (highT c b).grow) := fun {u} h => by rw [hQ] at h; exact h.2.2.2.cells
    clear hQ hD
    refine Pure.calls (rlength_any c (hc.keep hb49) (by omega) hok.lens) fun w50 hb50 => ⟨_, rfl, .all hb50, by omega, fun _ => ⟨fun _ w51 hb51 hk51 => ?_, fun h => absurd h0 h⟩, fun h => absurd h0 h⟩
    have Q51 := Qc (Qb Q49 hb50) hk51.chg
    refine Pure.calls (rparts_any c (lowT c b) (hc.keep hb51) (cG Q51) okL) fun w52 hb52 => ⟨_, rfl, .all hb52, fun w53 hb53 hk53 => ?_⟩
    have Q53 := Qc (Qb Q51 hb52) hk53.chg
    refine Pure.calls (rdown_any (a := partsR c (lowT c b)) (b := 10000 * lenC c.rods) (by omega) (by rw [pL]; omega) w53) fun w54 hb54 => ⟨_, rfl, .all hb54, fun w55 hb55 hk55 => ?_⟩
    have Q55 := Qc (Qb Q53 hb54) hk55.chg
    refine Pure.calls (rparts_any c (highT c b) (hc.keep hb55) (cH Q55) okH) fun w56 hb56 => ⟨_, rfl, .all hb56, fun w57 hb57 hk57 => ?_⟩
    have Q57 := Qc (Qb Q55 hb56) hk57.chg
    refine Pure.calls (rup_any (a := partsR c (highT c b)) (b := 10000 * lenC c.rods) (by omega) (by rw [pH]; omega) w57) fun w58 hb58 => ⟨_, rfl, .all hb58, fun w59 hb59 hk59 => ?_⟩
    have Q59 := Qc (Qb Q57 hb58) hk59.chg
    rw [pL, pH]
    refine eql_span ⟨_, rfl, .all (.refl _ _), fun _ w61 hb61 hk61 => ?_, fun h => absurd h (by rw [Bool.not_eq_false, decide_eq_true_iff]; rfl)⟩
    have Q61 := Qc Q59 hk61.chg
    refine Pure.calls (rsame_any (lowT c b) (lowT c b) (cE Q61) (cG Q61) hglL) fun w62 hb62 => ⟨_, rfl, .all hb62, fun _ w63 hb63 hk63 => ?_, fun h => absurd h (by simp)⟩
    have Q63 := Qc (Qb Q61 hb62) hk63.chg
    refine Pure.calls (rsame_any (highT c b) (highT c b) (cF Q63) (cH Q63) hglH) fun w64 hb64 => ⟨_, rfl, .all hb64, fun _ w65 hb65 hk65 => ?_, fun h => absurd h (by simp)⟩
    exact Pure.calls (known_any w65) fun w66 hb66 => ⟨true, rfl, .all hb66, fun w67 hb67 _ => ⟨rfl, hb67⟩⟩
end Go.Proofs.R03
end
