/- Part 8: own lemmas, and the conditions of the functions. -/
import Derived.Test.YtedlnndkamgknaaGreatProg
import Derived.Test.YtedlnndkamgknaaGreatP07
section
/- An hour of a clock that is followed; its beginning. -/
namespace Go.Proofs.RT
open Go.Vc Go.RowKit Go.Proofs Go.Lib
section
variable {bs : List Nat} {db sb : Nat} {line e : Int} {ha va : Option Addr} {hc vc : Nat} {L : List Int} {p : Pt} {h : Int} {st : Bool} {w w' : World}
theorem DayC.cell (H : DayC bs db sb line e ha va hc vc L p h st w) (j : Nat) (v : Value) (hv : ([I line, .slice ha 24 hc, .slice va L.length vc, .slice (some ⟨sb, 0, none⟩) (L.length + 1) (L.length + 1), I h, .bool st] : List Value)[j]? = some v) : w.cell? ⟨db, j, none⟩ = some v := cell_obj (vs := [_, _, _, _, _, _]) H.d hv
theorem allD (H : DayC bs db sb line e ha va hc vc L p h st w) (hn : L.length ≤ 10) : Calls Tryz.prog 39 #[.pointer (some ⟨db, 0, none⟩)] w (PostSet (hotL (L.length + 1) p).flatten w) := by
  refine vc39 _ _ w _ ⟨_, _, _, H.cell 3 _ rfl, fun w1 hb1 _ => ?_⟩
  obtain ⟨S, hS1, hS2⟩ := (H.data (Data.of_below hb1)).s.sets
  have := orD (sc := L.length + 1) hS1 hS2 (hot_le _ _) (by rw [hot_len]; omega)
  rw [hot_len] at this
  refine this.mono fun en w2 he => ?_
  obtain ⟨a2, n2, c2, rfl, hb2, h2⟩ := he
  exact ⟨_, _, _, rfl, .all hb2, fun w3 hb3 hk3 => ⟨_, _, _, rfl, hb3, (h2.out (Chg.kept hk3) (by simp)).to hb1.size hk3.size⟩⟩
def stopB (u : Int) (i : Nat) (p : Pt) : Bool := match p with | some (j, x) => decide (j < i ∧ x < u) | none => false
theorem cellP_ne {j i : Nat} {x : Int} (h : j ≠ i) : cellP (some (j, x)) i = [] := by simp [cellP, h]
theorem cellP_self {i : Nat} {x : Int} : cellP (some (i, x)) i = [x] := by simp [cellP]
theorem useP_ne {u : Int} {j i : Nat} {x : Int} (h : j ≠ i) : cellP (useP u (some (j, x))) i = [] := by
  unfold useP
  simp only
  split
  · exact cellP_ne h
  · rfl
theorem useP_self {u : Int} {i : Nat} {x : Int} : cellP (useP u (some (i, x))) i = [x].filterMap (usedF u) := by
  unfold useP usedF
  simp only
  split
  · rename_i h; rw [cellP_self]; simp [h]
  · rename_i h; simp [cellP, h]
theorem stop_step {u : Int} {i : Nat} : stopB u (i + 1) p = (stopB u i p || (cellP (usePi u i p) i).any fun x => decide (x < u)) := by
  cases p with
  | none => rfl
  | some q =>
    obtain ⟨j, x⟩ := q
    simp only [stopB, usePi]
    by_cases h1 : j < i
    · rw [if_pos h1, useP_ne (by omega)]
      have e1 : (j < i + 1 ∧ x < u) ↔ (j < i ∧ x < u) := by omega
      simp [e1]
    · rw [if_neg h1]
      by_cases h2 : j = i
      · subst h2; rw [cellP_self]; simp
      · rw [cellP_ne h2]
        have e1 : ¬ (j < i + 1 ∧ x < u) := by omega
        have e2 : ¬ (j < i ∧ x < u) := by omega
        simp only [decide_eq_false e1, decide_eq_false e2]; rfl
theorem use_hot {u : Int} {i k : Nat} (hi : i < k) : (hotL k (usePi u i p)).set i ((cellP (usePi u i p) i).filterMap (usedF u)) = hotL k (usePi u (i + 1) p) := by
  refine hot_ext (by simp [hot_len]) fun j hj => ?_
  have hj' : j < k := by simpa [hot_len] using hj
  cases p with
  | none =>
    by_cases h1 : j = i
    · subst h1; rw [List.getElem_set_self]; rfl
    · rw [List.getElem_set_ne (by omega), hot_get]; rfl
  | some q =>
    obtain ⟨m, x⟩ := q
    simp only [usePi]
    by_cases h1 : j = i
    · subst h1
      rw [List.getElem_set_self]
      by_cases h2 : m < j
      · rw [if_pos h2, if_pos (show m < j + 1 by omega), useP_ne (by omega)]; rfl
      · rw [if_neg h2]
        by_cases h3 : m = j
        · subst h3; rw [if_pos (show m < m + 1 by omega), cellP_self, useP_self]
        · rw [if_neg (show ¬ m < j + 1 by omega), cellP_ne h3]; rfl
    · rw [List.getElem_set_ne (by omega), hot_get]
      by_cases h2 : m < i
      · rw [if_pos h2, if_pos (show m < i + 1 by omega)]
      · rw [if_neg h2]
        by_cases h3 : m = i
        · subst h3; rw [if_pos (show m < m + 1 by omega), cellP_ne (by omega), useP_ne (by omega)]
        · rw [if_neg (show ¬ m < i + 1 by omega)]
theorem usePi_zero {u : Int} : usePi u 0 p = p := by cases p <;> rfl
theorem usePi_ok {u : Int} {i : Nat} (hu : 0 ≤ u) (hp : PtOk p) : PtOk (usePi u i p) := fun j x hx => by
  cases p with
  | none => cases hx
  | some q =>
    obtain ⟨m, y⟩ := q
    have := hp m y rfl
    simp only [usePi] at hx
    split at hx
    · unfold useP at hx
      simp only at hx
      split at hx
      · cases hx; omega
      · cases hx
    · cases hx; exact this
set_option maxRecDepth 100000 in
set_option maxHeartbeats 1000000 in
theorem nextD (H : DayC bs db sb line e ha va hc vc L p h st w) (hp : PtOk p) (hl : 0 ≤ line ∧ line ≤ 3000) (hn : L.length ≤ 10) (he : 0 ≤ e ∧ e ≤ 3000) (hh : 0 ≤ h ∧ h ≤ 10000) (hbs0 : ∀ x ∈ bs, x < w.heap.size) :
    Calls Tryz.prog 38 #[.pointer (some ⟨db, 0, none⟩)] w fun en w' => en = .returned (.bool (stopB e (L.length + 1) p)) ∧ Chg [db, sb] w w' ∧ ∃ st', DayC bs db sb line e ha va hc vc L (visN L line (h + 1) L.length (usePi e (L.length + 1) p)) (h + 1) st' w' ∧ PtOk (visN L line (h + 1) L.length (usePi e (L.length + 1) p)) := by
  have ne := H.ne
  have md := H.md; have ms := H.ms
  have dl := H.dl; have sl := H.sl
  refine vc38 _ _ w _ ⟨_, _, _, _, _, _, _, H.cell 0 _ rfl, H.cell 1 _ rfl, H.cell 2 _ rfl, h, H.cell 4 _ rfl, fun w1 hk1 => ?_⟩
  have C1 : Chg [] w w1 := (Chg.refl [] w).kin hk1 (Nat.le_refl _) (by simp)
  have H1 := H.data (Data.of_chg C1 (by simp))
  have hU := use_any (L := line) (va := va) (vn := L.length) (vc := vc) (c := hc) H1.hs.cells (by simp) hh.1
  rw [List.length_replicate] at hU
  refine Pure.calls hU fun w2 hb2 => ?_
  have hE : (List.replicate 24 (e, e)).getD (h % 24).toNat (0, 0) = (e, e) := by
    rw [List.getD_eq_getElem?_getD, List.getElem?_replicate, if_pos (by omega)]; rfl
  rw [hE]
  have s1 := C1.size; have s2 := hb2.size
  have C2 := C1.bel hb2
  have H2 := H.data (Data.of_chg C2 (by simp))
  refine ⟨e, e, rfl, hb2, fun m5 g5 g5' => ⟨_, _, _, H2.cell 3 _ rfl, by omega, ?_⟩⟩
  have M2 : DayC (m5 :: bs) db sb line e ha va hc vc L p h st w2 := (H.more (bs' := m5 :: bs) (by simp only [List.forall_mem_cons]; exact ⟨.inr (by omega), fun x hx => .inl hx⟩) (by simp [md]) (by simp [ms])).data (Data.of_chg C2 (by simp))
  refine ⟨fun ls w' => match ls with | [.bool t, .int _ i] => (0 ≤ i ∧ i ≤ (L.length + 1 : Nat)) ∧ t = stopB e i.toNat p ∧ DayC (m5 :: bs) db sb line e ha va hc vc L (usePi e i.toNat p) h st w' ∧ Chg [sb] w w' ∧ m5 < w'.heap.size | _ => False, fun ls => match ls with | [_, .int _ i] => (((L.length + 1 : Nat) : Int) - i).toNat | _ => 0,
    fun w4 hk4 => ⟨by omega, by cases p <;> rfl, ?_, (C2.mono (by simp) : Chg [sb] w w2).kpt hk4 (by simp; omega), hk4.own m5 (by simp)⟩, ?_⟩
  · rw [show (0 : Int).toNat = 0 from rfl, usePi_zero]
    exact M2.dataT (Data.of_chg (Chg.kept hk4) (T := [m5]) (by simp)) (by simp; omega)
  rintro t i w5 ⟨hi, ht, H5, C5, o5⟩
  have z5 := C5.size
  refine ⟨fun hlt => ?_, fun hge => ?_⟩
  · have hi' : i.toNat < L.length + 1 := by omega
    have hlen : ∀ q, (hotL (L.length + 1) q).length = L.length + 1 := fun q => hot_len _ _
    obtain ⟨s, hcs, A5⟩ := H5.s.at (i := i.toNat) (by rw [hlen]; exact hi')
    rw [hot_get] at A5
    have P5 := usePi_ok (i := i.toNat) he.1 hp
    have eN : (i + 1).toNat = i.toNat + 1 := by omega
    have hbs : ∀ x ∈ bs, x < w5.heap.size := fun x hx => by have := hbs0 x hx; omega
    refine ⟨sb, 0, rfl, by omega, _, _, _, hcs, by omega, fun hT w6 hk6 => ?_, fun hF w11 hk11 => ?_⟩
    · have C6 : Chg [m5] w5 w6 := Chg.kin (Chg.refl [m5] w5) hk6 (Nat.le_refl _) (by simp)
      have A6 := A5.data (Data.of_chg C6 (by simp))
      refine (usedDr A6.toL (cell_le _ _) (P5.cell _) he).mono fun en w7 hen => ?_
      obtain ⟨a7, n7, c7, rfl, hb7, G7⟩ := hen
      have s6 := hk6.size; have s7 := hb7.size
      refine ⟨_, _, _, rfl, hb7, _, _, _, H5.cell 3 _ rfl, by omega, sb, 0, rfl, by omega, fun w8 hk8 => ?_⟩
      have s8 := hk8.size
      have C8 : Chg [m5] w5 w8 := (C6.bel hb7).kin hk8 (Nat.le_refl _) (by simp)
      have G8 : SetL ((cellP (usePi e i.toNat p) i.toNat).filterMap (usedF e)) w6.heap.size w7.heap.size w8 a7 n7 c7 := ⟨G7.n, fun j v hv => by
        obtain ⟨b, o, e, ⟨q1, q2, q3⟩, hcl⟩ := G7.lies j v hv
        refine ⟨b, o, e, ⟨q1, q2, q3⟩, ?_⟩
        have := hk8.block b (by omega) (by simp; omega) ⟨(w6.heap.size, w7.heap.size), by simp, q2, q3⟩
        unfold World.cell? at hcl ⊢
        simp only [this]; exact hcl, G7.nil⟩
      have H8 := H5.dataT (Data.of_chg C8 (T := [m5]) (by simp)) (by simp; omega)
      refine H8.s.store (by simp [ms]) (i := i.toNat) (by rw [hlen]; exact hi') (G8.toA (by simp only [List.forall_mem_cons]; exact ⟨.inl (by omega), fun x hx => .inl (by have := hbs x hx; omega)⟩)) fun w9 S9 C9 => ?_
      have s9 := C9.size
      refine ⟨C9.own (fun y hy => ⟨hk8.own y hy, by simp at hy ⊢; omega⟩) (by simp) (fun hf => by cases hf), by omega, fun w10 hk10 => ⟨⟨by omega, ?_, ?_, ?_, hk10.own m5 (by simp)⟩, ?_⟩⟩
      · rw [eN, stop_step, ← ht, hT]; rfl
      · have H9 := H8.put S9 (by rw [use_hot hi']) C9
        rw [eN]
        exact H9.dataT (Data.of_chg (Chg.kept hk10) (T := [m5]) (by simp)) (by simp; omega)
      · exact ((C5.more C8 (by simp; omega)).trans C9).kpt hk10 (by simp; omega)
      · show (((L.length + 1 : Nat) : Int) - (i + 1)).toNat < (((L.length + 1 : Nat) : Int) - i).toNat
        omega
    · have C11 : Chg [m5] w5 w11 := Chg.kept hk11
      have A11 := A5.data (Data.of_chg C11 (by simp))
      refine Pure.calls (stopsD (u := e) A11.toL (cell_le _ _)) fun w12 hb12 => ⟨_, rfl, .all hb12, fun w13 hk13 => ?_⟩
      have C12 := C11.bel hb12
      have s11 := hk11.size; have s12 := hb12.size; have s13 := hk13.size
      have C13 : Chg [m5] w5 w13 := C12.kin hk13 (by omega) (by simp)
      have A13 := A5.data (Data.of_chg C13 (by simp))
      refine (usedDr A13.toL (cell_le _ _) (P5.cell _) he).mono fun en w14 hen => ?_
      obtain ⟨a7, n7, c7, rfl, hb14, G7⟩ := hen
      have s14 := hb14.size
      have H12 := H5.dataT (Data.of_chg C12 (T := [m5]) (by simp)) (by simp; omega)
      refine ⟨_, _, _, rfl, hb14, _, _, _, H12.cell 3 _ rfl, by omega, sb, 0, rfl, by omega, fun w15 hk15 => ?_⟩
      have s15 := hk15.size
      have C15 : Chg [m5] w5 w15 := (C13.bel hb14).kin hk15 (by omega) (by simp)
      have G8 : SetL ((cellP (usePi e i.toNat p) i.toNat).filterMap (usedF e)) w13.heap.size w14.heap.size w15 a7 n7 c7 := ⟨G7.n, fun j v hv => by
        obtain ⟨b, o, e, ⟨q1, q2, q3⟩, hcl⟩ := G7.lies j v hv
        refine ⟨b, o, e, ⟨q1, q2, q3⟩, ?_⟩
        have := hk15.block b (by omega) (by simp; omega) ⟨(w13.heap.size, w14.heap.size), by simp, q2, q3⟩
        unfold World.cell? at hcl ⊢
        simp only [this]; exact hcl, G7.nil⟩
      have H15 := H5.dataT (Data.of_chg C15 (T := [m5]) (by simp)) (by simp; omega)
      refine H15.s.store (by simp [ms]) (i := i.toNat) (by rw [hlen]; exact hi') (G8.toA (by simp only [List.forall_mem_cons]; exact ⟨.inl (by omega), fun x hx => .inl (by have := hbs x hx; omega)⟩)) fun w16 S16 C16 => ?_
      have s16 := C16.size
      refine ⟨C16.own (fun y hy => ⟨hk15.own y hy, by simp at hy ⊢; omega⟩) (by simp) (fun hf => by cases hf), by omega, fun w17 hk17 => ⟨⟨by omega, ?_, ?_, ?_, hk17.own m5 (by simp)⟩, ?_⟩⟩
      · rw [eN, stop_step, ← ht, hF]; rfl
      · have H16 := H15.put S16 (by rw [use_hot hi']) C16
        rw [eN]
        exact H16.dataT (Data.of_chg (Chg.kept hk17) (T := [m5]) (by simp)) (by simp; omega)
      · exact ((C5.more C15 (by simp; omega)).trans C16).kpt hk17 (by simp; omega)
      · show (((L.length + 1 : Nat) : Int) - (i + 1)).toNat < (((L.length + 1 : Nat) : Int) - i).toNat
        omega
  have e5 : i.toNat = L.length + 1 := by omega
  rw [e5] at H5 ht
  have P5 := usePi_ok (i := L.length + 1) he.1 hp
  generalize usePi e (L.length + 1) p = q at H5 P5
  refine ⟨h, H5.cell 4 _ rfl, by omega, by omega, fun w18 hk18 => ?_⟩
  have H18 := H5.dataT (Data.of_chg (Chg.kept hk18) (T := [m5]) (by simp)) (by simp; omega)
  have C18 : Chg [db, sb] w w18 := (C5.mono (by simp) : Chg [db, sb] w w5).kpt hk18 (by simp; omega)
  have s18 := hk18.size
  have st1 := fun R => obj_store (P := Tryz.prog) (t := 3) (off := 4) (cs := [I line, .slice ha 24 hc, .slice va L.length vc, .slice (some ⟨sb, 0, none⟩) (L.length + 1) (L.length + 1), I h, .bool st]) (vs := [I (h + 1)]) (v := I (h + 1)) H18.d (by kernel_rfl) (by kernel_rfl) (by simp) rfl (by simp; trivial) (R := R)
  refine st1 _ fun w19 d19 C19 => ?_
  have s19 := C19.size
  have D19 : Data [db] w18 w19 := Data.of_chg C19 (by simp)
  have H19 : DayC (m5 :: bs) db sb line e ha va hc vc L q (h + 1) st w19 := ⟨d19, H18.s.data (Data.of_chg C19 (T := [db]) (by simp)) (by simp [md]; omega), ((D19.mono (by simp [md])).lies H18.hs).to (Nat.le_refl _) s19, ((D19.mono (by simp [md])).lies H18.vs).to (Nat.le_refl _) s19, ne, by simp [md], by simp [ms]⟩
  refine ⟨C19.own (fun y hy => ⟨hk18.own y hy, by simp at hy ⊢; omega⟩) (by simp) (fun hf => by cases hf), fun w20 hk20 => ?_⟩
  have H20 := H19.dataT (Data.of_chg (Chg.kept hk20) (T := [m5]) (by simp)) (by simp; omega)
  have C20 : Chg [db, sb] w w20 := (C18.more C19 (by simp)).kpt hk20 (by simp; omega)
  have s20 := hk20.size
  refine (visitD_any H20 P5 hl hn (by simp only [List.forall_mem_cons]; exact ⟨hk20.own m5 (by simp), fun x hx => by have := hbs0 x hx; omega⟩)).mono fun en w21 hen => ?_
  obtain ⟨rfl, C21, H21, P21⟩ := hen
  have s21 := C21.size
  refine ⟨rfl, C21.own (fun y hy => ⟨hk20.own y hy, by simp at hy ⊢; omega⟩) (by simp) (fun hf => by cases hf), st, H21.cell 5 _ rfl, by omega, fun hst w22 hk22 => ?_, fun hst w25 hk25 => ?_⟩
  · have H22 := H21.dataT (Data.of_chg (Chg.kept hk22) (T := [m5]) (by simp)) (by simp; omega)
    have st2 := fun R => obj_store (P := Tryz.prog) (t := 4) (off := 5) (cs := [I line, .slice ha 24 hc, .slice va L.length vc, .slice (some ⟨sb, 0, none⟩) (L.length + 1) (L.length + 1), I (h + 1), .bool st]) (vs := [.bool true]) (v := .bool true) H22.d (by kernel_rfl) (by kernel_rfl) (by simp) rfl (by simp; trivial) (R := R)
    refine st2 _ fun w23 d23 C23 => ?_
    have s22 := hk22.size; have s23 := C23.size
    have D23 : Data [db] w22 w23 := Data.of_chg C23 (by simp)
    have H23 : DayC (m5 :: bs) db sb line e ha va hc vc L (visN L line (h + 1) L.length q) (h + 1) true w23 := ⟨d23, H22.s.data (Data.of_chg C23 (T := [db]) (by simp)) (by simp [md]; omega), ((D23.mono (by simp [md])).lies H22.hs).to (Nat.le_refl _) s23, ((D23.mono (by simp [md])).lies H22.vs).to (Nat.le_refl _) s23, ne, by simp [md], by simp [ms]⟩
    refine ⟨C23.own (fun y hy => ⟨hk22.own y hy, by simp at hy ⊢; omega⟩) (by simp) (fun hf => by cases hf), fun w24 hk24 => ⟨by rw [ht], ?_, true, ?_, P21⟩⟩
    · exact ((((C20.more C21 (by simp)).kpt hk22 (by simp; omega)).more C23 (by simp)).kpt hk24 (by simp; omega))
    · exact (H23.dataT (Data.of_chg (Chg.kept hk24) (T := [m5]) (by simp)) (by simp; omega)).more (fun x hx => .inl (by simp [hx])) md ms
  · have H22 := H21.dataT (Data.of_chg (Chg.kept hk25) (T := [m5]) (by simp)) (by simp; omega)
    have st2 := fun R => obj_store (P := Tryz.prog) (t := 4) (off := 5) (cs := [I line, .slice ha 24 hc, .slice va L.length vc, .slice (some ⟨sb, 0, none⟩) (L.length + 1) (L.length + 1), I (h + 1), .bool st]) (vs := [.bool t]) (v := .bool t) H22.d (by kernel_rfl) (by kernel_rfl) (by simp) rfl (by simp; trivial) (R := R)
    refine st2 _ fun w23 d23 C23 => ?_
    have s22 := hk25.size; have s23 := C23.size
    have D23 : Data [db] w25 w23 := Data.of_chg C23 (by simp)
    have H23 : DayC (m5 :: bs) db sb line e ha va hc vc L (visN L line (h + 1) L.length q) (h + 1) t w23 := ⟨d23, H22.s.data (Data.of_chg C23 (T := [db]) (by simp)) (by simp [md]; omega), ((D23.mono (by simp [md])).lies H22.hs).to (Nat.le_refl _) s23, ((D23.mono (by simp [md])).lies H22.vs).to (Nat.le_refl _) s23, ne, by simp [md], by simp [ms]⟩
    refine ⟨C23.own (fun y hy => ⟨hk25.own y hy, by simp at hy ⊢; omega⟩) (by simp) (fun hf => by cases hf), fun w24 hk24 => ⟨by rw [ht], ?_, t, ?_, P21⟩⟩
    · exact ((((C20.more C21 (by simp)).kpt hk25 (by simp; omega)).more C23 (by simp)).kpt hk24 (by simp; omega))
    · exact (H23.dataT (Data.of_chg (Chg.kept hk24) (T := [m5]) (by simp)) (by simp; omega)).more (fun x hx => .inl (by simp [hx])) md ms
end
end Go.Proofs.RT
end
section
/- The clock before its first hour. -/
namespace Go.Proofs.RT
open Go.Vc Go.RowKit Go.Proofs Go.Lib
section
variable {w : World}
theorem mk_state {n : Int} {R : Value → World → Prop} (h0 : 0 ≤ n) (h1 : n ≤ 1000000) (hR : ∀ w', Below w.heap.size w w' → w'.heap[w.heap.size]? = some (.cells ((List.replicate n.toNat (none, 0, 0)).map slV).toArray 122 (0, 0)) → R (.slice (some ⟨w.heap.size, 0, none⟩) n.toNat n.toNat) w') : RunsTo Tryz.prog (Instr.makeSlice 189 (I n) (I n)) w R := by
  obtain ⟨i, hi⟩ : ∃ i, Tryz.prog.info? 122 = some i := Option.isSome_iff_exists.1 (by kernel_rfl)
  have hz : (Tryz.prog.info? 122).map (fun i => (i.zero, i.size, i.bytes)) = some (some (.slice none 0 0), 1, 24) := by kernel_rfl
  rw [hi] at hz
  simp only [Option.map_some, Option.some.injEq, Prod.mk.injEq] at hz
  have hr := run_make (P := Tryz.prog) w 189 122 i (.slice none 0 0) (by kernel_rfl) hi hz.1 .i64 .i64 n n h0 (Int.le_refl _) (by rw [hz.2.2]; omega) (by omega)
  refine ⟨_, _, hr, hR _ ?_ ?_⟩
  · exact (Below.refl _ _).alloc (Nat.le_refl _) _
  · rw [hz.2.1]
    have e : madeCells (Value.slice none 0 0).cells (n.toNat * 1) = ((List.replicate n.toNat (none, 0, 0)).map slV).toArray := by
      apply Array.ext
      · simp [madeCells]
      · intro j h1 h2
        simp [madeCells, Value.cells, Nat.mod_one]
    rw [e]
    exact World.alloc_heap_new w _
theorem visN_none (L : List Int) (line h : Int) : ∀ i, visN L line h i none = none
  | 0 => rfl
  | i + 1 => by show visP L line h i (visN L line h i none) = none; rw [visN_none L line h i]; rfl
theorem visN_stay {L : List Int} {line h : Int} {j : Nat} {x : Int} (hj : j < L.length → h < 24 * L.getD j 0) : ∀ i, i ≤ L.length → visN L line h i (some (j, x)) = some (j, x)
  | 0, _ => rfl
  | i + 1, hi => by
    show visP L line h i (visN L line h i (some (j, x))) = _
    rw [visN_stay hj i (by omega)]
    unfold visP
    simp only
    by_cases e : j = i
    · subst e
      have := hj (by omega)
      rw [if_pos rfl, if_neg (by omega), if_neg (by omega)]
    · rw [if_neg e]
theorem visN_before {L : List Int} {line h : Int} {j : Nat} {x : Int} : ∀ i, i ≤ j → visN L line h i (some (j, x)) = some (j, x)
  | 0, _ => rfl
  | i + 1, hi => by
    show visP L line h i (visN L line h i (some (j, x))) = _
    rw [visN_before i (by omega)]
    unfold visP
    simp only
    rw [if_neg (by omega)]
theorem visN_move {L : List Int} {line h : Int} {j : Nat} {x : Int} (hh : h = 24 * L.getD j 0) (hj : j + 1 < L.length → h < 24 * L.getD (j + 1) 0) : ∀ i, j < i → i ≤ L.length → visN L line h i (some (j, x)) = some (j + 1, min line (x + line))
  | 0, hi, _ => by omega
  | i + 1, hi, hl => by
    show visP L line h i (visN L line h i (some (j, x))) = _
    by_cases e : j = i
    · subst e
      rw [visN_before j (Nat.le_refl _)]
      unfold visP
      simp only
      rw [if_pos trivial, if_pos hh]
    · rw [visN_move hh hj i (by omega) (by omega)]
      unfold visP
      simp only
      by_cases e2 : j + 1 = i
      · subst e2
        have := hj (by omega)
        rw [if_pos rfl, if_neg (by omega), if_neg (by omega)]
      · rw [if_neg e2]
/-- A clock that is followed, before its first hour. -/
def PostDay (bs : List Nat) (line e : Int) (ha va : Option Addr) (hc vc : Nat) (L : List Int) (start : Int) (w : World) (v : Option Addr → Value) (en : Ending) (w' : World) : Prop :=
  ∃ db sb, en = .returned (v (some ⟨db, 0, none⟩)) ∧ Below w.heap.size w w' ∧ w.heap.size ≤ db ∧ w.heap.size ≤ sb ∧ DayC (db :: sb :: bs) db sb line e ha va hc vc L (some (0, start)) 0 false w'
set_option maxRecDepth 100000 in
theorem followD {bs : List Nat} {line e start : Int} {ha va la : Option Addr} {hc vc lc : Nat} {L : List Int} (hh : Lies bs 0 w.heap.size w ha (spansV (List.replicate 24 (e, e)))) (hv : Lies bs 0 w.heap.size w va ((L.map (visV line)).flatMap vsC)) (hs : SetA bs [start] w la 1 lc) (hbs : ∀ x ∈ bs, x < w.heap.size) (hst : 0 ≤ start ∧ start ≤ 3000) (hl : 0 ≤ line ∧ line ≤ 3000) (hn : L.length ≤ 10) (hL : ∀ D ∈ L, 1 ≤ D) :
    Calls Tryz.prog 80 #[clkV line ha 24 hc va L.length vc, .slice la 1 lc] w (PostDay bs line e ha va hc vc L start w .pointer) := by
  refine vc80 _ _ _ _ _ _ _ _ _ _ w _ fun m1 g1 => ⟨by omega, fun w1 hb1 hk1 => ?_⟩
  have s1 := hb1.size
  refine mk_state (by omega) (by omega) fun w2 hb2 hc2 => ?_
  have s2 := hb2.size
  have o1 := hk1.own m1 (by simp)
  have sl2 := lt_of_some hc2
  obtain ⟨sb, hsb⟩ : ∃ sb, sb = w1.heap.size := ⟨_, rfl⟩
  rw [← hsb] at hc2 sl2 ⊢
  rw [show ((L.length : Int) + 1).toNat = L.length + 1 by omega] at hc2 ⊢
  refine ⟨_, _, _, rfl, .all hb2, fun m5 g5 => ⟨sb, 0, rfl, by omega, fun w3 hb3 hk3 => ?_⟩⟩
  have z2 := hb1.trans (hb2.mono s1)
  have hz : StateAt (m5 :: m1 :: sb :: bs) sb (hotL (L.length + 1) none) w2 := ⟨_, hc2, by rw [List.length_replicate, hot_len], fun i hi => ⟨(none, 0, 0), by rw [List.getElem?_replicate, if_pos (by rw [hot_len] at hi; exact hi)], by rw [hot_get]; exact SetA.empty⟩⟩
  have hz3 := hz.data (Data.of_chg (Chg.kept hk3) (T := [m5, m1]) (by simp)) (by simp; omega)
  have mB : ∀ {a : Option Addr} {vs : List Value} {W : World}, Lies bs 0 w.heap.size w a vs → Below w.heap.size w W → Lies (m5 :: m1 :: sb :: bs) 0 W.heap.size W a vs := fun {a vs W} h hb => by
    have h1 := h.moreB (bs' := m5 :: m1 :: sb :: bs) (by simp only [List.forall_mem_cons]; exact ⟨.inr (by omega), .inr (by omega), .inr (by omega), fun x hx => .inl hx⟩)
    exact ((Data.of_below hb).lies h1).to (Nat.le_refl _) hb.size
  have hA : SetA (m5 :: m1 :: sb :: bs) [start] w3 la 1 lc := ⟨rfl, mB hs.lies hb3, hs.nil⟩
  have hst' := fun R => hz3.store (R := R) (by simp) (i := 0) (by rw [hot_len]; omega) hA
  refine hst' _ fun w4 S4 C4 => ?_
  have s3 := hk3.size; have s4 := C4.size
  have hO : (hotL (L.length + 1) none).set 0 [start] = hotL (L.length + 1) (some (0, start)) := by
    refine hot_ext (by simp [hot_len]) fun j hj => ?_
    by_cases e : j = 0
    · subst e; rw [List.getElem_set_self]; rfl
    · rw [List.getElem_set_ne (by omega), hot_get, cellP_ne (by omega)]; rfl
  rw [hO] at S4
  refine ⟨C4.own (fun y hy => ⟨hk3.own y hy, by simp at hy ⊢; omega⟩) (by simp) (fun _ => ⟨hb3.size, by simp; omega⟩), fun w5 hb5 hk5 hc5 => ?_⟩
  have o5 := hk5.own m5 (by simp)
  have s5 := hk5.size
  have S5 := S4.data (Data.of_chg (Chg.kept hk5) (T := [m5, m1]) (by simp)) (by simp; omega)
  have H5 : DayC (m5 :: m1 :: sb :: bs) m5 sb line e ha va hc vc L (some (0, start)) 0 false w5 := ⟨hc5, S5, mB hh hb5, mB hv hb5, by omega, by simp, by simp⟩
  have P5 : PtOk (some (0, start)) := fun j x hx => by cases hx; omega
  refine (visitD_any H5 P5 hl hn (by simp only [List.forall_mem_cons]; exact ⟨by omega, hk5.own m1 (by simp), by omega, fun x hx => by have := hbs x hx; have := hb5.size; omega⟩)).mono fun en w6 hen => ?_
  obtain ⟨rfl, C6, H6, P6⟩ := hen
  rw [visN_stay (fun hj => by
    rw [List.getD_eq_getElem?_getD, getElem_of_lt hj]
    have := hL _ (List.getElem_mem hj)
    simp only [Option.getD_some]; omega) _ (Nat.le_refl _)] at H6
  refine ⟨rfl, C6.own (fun y hy => ⟨hk5.own y hy, by simp at hy ⊢; omega⟩) (by simp) (fun _ => ⟨hb5.size, by simp; omega⟩), fun w7 hb7 hk7 hc7 => ⟨m5, sb, rfl, hb7, by omega, by omega, ?_⟩⟩
  have S7 := H6.s.data (Data.of_chg (Chg.kept hk7) (T := [m5, m1]) (by simp)) (by simp; omega)
  refine ⟨hc7, S7.more (by simp only [List.forall_mem_cons]; exact ⟨.inl (by simp), .inl (by simp), fun x hx => .inl (by simp [hx])⟩), (mB hh hb7).moreB (by simp only [List.forall_mem_cons]; exact ⟨.inl (by simp), .inl (by simp), fun x hx => .inl (by simp [hx])⟩), (mB hv hb7).moreB (by simp only [List.forall_mem_cons]; exact ⟨.inl (by simp), .inl (by simp), fun x hx => .inl (by simp [hx])⟩), by omega, by simp, by simp⟩
end
end Go.Proofs.RT
end
section
/- Stops of a weight that just goes. -/
namespace Go.Proofs.RT
open Go.Vc Go.RowKit Go.Proofs Go.Lib
section
variable {w : World}
theorem visits_ok {line : Int} {L : List Int} (hl : 0 ≤ line ∧ line ≤ 3000) (hn : L.length ≤ 10) (hL : ∀ D ∈ L, 1 ≤ D ∧ D ≤ 80) (hp : L.Pairwise (· < ·)) : VisitsOk (L.map (visV line)) where
  n := by rw [List.length_map]; exact hn
  a := fun v hv => by
    obtain ⟨D, hD, rfl⟩ := List.mem_map.1 hv
    have := hL D hD
    unfold spanB
    exact ⟨decide_eq_true (by simp only; omega), decide_eq_true (by simp only; omega)⟩
  o := by
    rw [List.pairwise_map]
    exact hp.imp fun {x y} h => by simp only; omega
theorem hours_ok {e : Int} (he : 0 ≤ e ∧ e ≤ 3000) : HoursOk (List.replicate 24 (e, e)) where
  n := by simp
  s := fun s hs => by
    rw [List.eq_of_mem_replicate hs]
    unfold spanB
    exact decide_eq_true (by simp only; omega)
set_option maxRecDepth 100000 in
theorem beginD {line e start hour : Int} {ha va : Option Addr} {hc vc : Nat} {L : List Int} {bs : List Nat} (hh : Lies bs 0 w.heap.size w ha (spansV (List.replicate 24 (e, e)))) (hv : Lies bs 0 w.heap.size w va ((L.map (visV line)).flatMap vsC)) (hbs : ∀ x ∈ bs, x < w.heap.size) (hst : 0 ≤ start ∧ start ≤ line) (hl : 1 ≤ line ∧ line ≤ 3000) (he : 0 ≤ e ∧ e ≤ 3000) (hn : L.length ≤ 10) (hL : ∀ D ∈ L, 1 ≤ D ∧ D ≤ 80) (hp : L.Pairwise (· < ·)) (hr : 0 ≤ hour ∧ hour ≤ 2000) :
    Calls Tryz.prog 36 #[.agg #[I line, .slice ha 24 hc], I start, .slice va L.length vc, I hour] w (PostDay bs line e ha va hc vc L start w fun p => .tuple #[.pointer p, I 0]) := by
  refine vc36 _ _ _ _ _ _ _ _ _ w _ fun m1 g1 w1 hb1 hk1 => ?_
  have hN := newClock_ok (c := hc) (vc := vc) hl (hh.cells.keep hb1) (hours_ok he) (hv.cells.keep hb1) (visits_ok (by omega) hn hL hp)
  rw [List.length_replicate, List.length_map] at hN
  refine Pure.calls hN fun w2 hd2 => ⟨_, _, _, _, _, _, _, _, rfl, .all hd2, fun m7 g7 => ⟨fun h => absurd rfl h, fun _ m8 g8 w4 hb4 hk4 hc4 => ?_⟩⟩
  refine Pure.calls (inD_any hc4) fun w5 hd5 => ⟨_, rfl, .all hd5, fun h => ?_, fun _ m13 g13 w12 hb12 hk12 hc12 => ?_⟩
  · rw [decide_eq_true hst] at h; cases h
  refine Pure.calls (inD_any hc12) fun w13 hd13 => ⟨_, rfl, .all hd13, fun h => ?_, fun _ w15 hb15 hk15 m16 w16 e16 f16 w17 hb17 hk17 => ?_⟩
  · rw [decide_eq_true hr] at h; cases h
  have s1 := hb1.size; have s2 := hd2.size; have s4 := hk4.size; have s5 := hd5.size; have s12 := hk12.size; have s13 := hd13.size; have s15 := hk15.size; have s17 := hk17.size
  have q16 : w16.heap.size = w15.heap.size + 1 := by rw [f16, alloc_size]
  have h16 : w16.heap[m16]? = some (.cells #[I start, I start] 47 (0, 0)) := by rw [f16, e16]; exact World.alloc_heap_new w15 _
  have ow := hk15.own
  have o13 := ow m13 (by simp); have o8 := ow m8 (by simp); have o7 := ow m7 (by simp); have o1 := ow m1 (by simp)
  have h17 : w17.heap[m16]? = some (.cells #[I start, I start] 47 (0, 0)) := by rw [hk17.block m16 (by omega) (by simp; omega)]; exact h16
  have ge : ∀ x ∈ [m13, m8, m7, m1], w.heap.size ≤ x := by simp; omega
  have mB : ∀ {a : Option Addr} {vs : List Value}, Lies bs 0 w.heap.size w a vs → Lies (m13 :: m8 :: m7 :: m1 :: bs) 0 w17.heap.size w17 a vs := fun {a vs} h => by
    have h1 := h.moreB (bs' := m13 :: m8 :: m7 :: m1 :: bs) (by simp only [List.forall_mem_cons]; exact ⟨.inr (by omega), .inr (by omega), .inr (by omega), .inr (by omega), fun x hx => .inl hx⟩)
    exact ((Data.of_below hb17).lies h1).to (Nat.le_refl _) hb17.size
  have hs : SetA (m13 :: m8 :: m7 :: m1 :: bs) [start] w17 (some ⟨m16, 0, none⟩) 1 1 := ⟨rfl, fun j v hj => by
    obtain ⟨b, o, e, hc⟩ := Cells.obj (vs := [I start, I start]) h17 j v hj
    cases e
    exact ⟨m16, 0, rfl, ⟨by simp only [List.mem_cons]; rintro (h | h | h | h | h) <;> first | omega | (have := hbs _ h; omega), Nat.zero_le _, cell_lt hc⟩, hc⟩, fun h => by cases h⟩
  refine (followD (mB hh) (mB hv) hs (by simp only [List.forall_mem_cons]; exact ⟨hk17.own m13 (by simp), hk17.own m8 (by simp), hk17.own m7 (by simp), hk17.own m1 (by simp), fun x hx => by have := hbs x hx; have := hb17.size; omega⟩) (by omega) (by omega) hn (fun D hD => (hL D hD).1)).mono fun en w18 he => ?_
  obtain ⟨db, sb, rfl, hb18, g1, g2, H18⟩ := he
  refine ⟨_, rfl, .all hb18, fun w19 hb19 hk19 => ⟨db, sb, rfl, hb19, by omega, by omega, ?_⟩⟩
  have o13 := hk17.own m13 (by simp); have o8 := hk17.own m8 (by simp); have o7 := hk17.own m7 (by simp); have o1 := hk17.own m1 (by simp)
  exact (H18.dataT (Data.of_chg (Chg.kept hk19) (T := [m13, m8, m7, m1]) (by simp)) (by simp; omega)).more (by simp only [List.forall_mem_cons]; exact ⟨.inl (by simp), .inl (by simp), fun x hx => .inl (by simp [hx])⟩) (by simp) (by simp)
/-- What the hours of a clock are ranged over with. -/
theorem hoursD {db : Nat} {till : Int} : Calls Tryz.prog 37 #[.pointer (some ⟨db, 0, none⟩), I till] w fun en w' => ∃ c1 c2, en = .returned (.func (.func 81) #[] #[.pointer (some ⟨c1, 0, none⟩), .pointer (some ⟨c2, 0, none⟩)]) ∧ Below w.heap.size w w' ∧ (w.heap.size ≤ c1 ∧ w.heap.size ≤ c2) ∧ w'.cell? ⟨c1, 0, none⟩ = some (.pointer (some ⟨db, 0, none⟩)) ∧ w'.cell? ⟨c2, 0, none⟩ = some (I till) :=
  vc37 _ _ _ w _ fun m1 g1 m2 g2 w1 hb1 hk1 hc1 hc2 => ⟨m1, m2, rfl, hb1, ⟨g1, g2⟩, cell_obj (vs := [_]) hc1 rfl, cell_obj (vs := [_]) hc2 rfl⟩
/-- How things stand after so many hours. -/
inductive PlainAt (n e : Int) (L : List Int) (R : Int × Int) (k : Int) : Pt → Prop where
  | on (j : Nat) (c : Int) (h : DropAt n L R k j c) : PlainAt n e L R k (some (j, e * (24 * c - k)))
  | off (c : Int) (h : R = finF 80 c) (hk : k = 24 * c + 1) : PlainAt n e L R k none
def hoursN (R : Int × Int) : Nat := if R.1 = 0 then (24 * R.2 + 1).toNat else 1921
theorem stopsF_le {n : Int} : ∀ (ds : List Int) (c : Int), (∀ d ∈ ds, c ≤ d + n) → ds.Pairwise (· < ·) → (stopsF n 80 c ds).1 = 0 → c ≤ (stopsF n 80 c ds).2 := fun ds => by
  have fin : ∀ c : Int, (finF 80 c).1 = 0 → c ≤ (finF 80 c).2 := fun c h => by
    rcases fin_or c with ⟨_, e⟩ | ⟨_, e⟩
    · rw [e] at h; simp at h
    · rw [e]; exact Int.le_refl _
  induction ds with
  | nil => exact fun c _ _ h => fin c h
  | cons d ds ih =>
    intro c hc hp h
    rw [stopsF_cons] at h ⊢
    split at h
    · rename_i h1; rw [if_pos h1]; exact fin c h
    · rename_i h1
      rw [if_neg h1]
      split at h
      · rename_i h2; rw [if_pos h2]; exact fin c h
      · rename_i h2
        rw [if_neg h2]
        have hp1 := List.pairwise_cons.1 hp
        have := ih (d + n) (fun d' hd' => by have := hp1.1 d' hd'; omega) hp1.2 h
        have := hc d List.mem_cons_self
        omega
theorem DropAt.le {n : Int} {L : List Int} {R : Int × Int} {h : Int} {j : Nat} {c : Int} (H : DropAt n L R h j c) (hp : L.Pairwise (· < ·)) (hR : R.1 = 0) : c ≤ R.2 := by
  have hr := H.res
  rw [← hr] at hR ⊢
  refine stopsF_le _ _ (fun d hd => ?_) (hp.sublist (List.drop_sublist _ _)) hR
  obtain ⟨i, hi, rfl⟩ := List.mem_iff_getElem.1 hd
  have h1 := H.next (j + i) (by omega) _ (by rw [← List.getElem?_drop]; exact getElem_of_lt hi)
  have := H.cn
  omega
theorem hoursN_le {R : Int × Int} (h : R.1 = 0 → R.2 ≤ 80) : hoursN R ≤ 1921 := by
  unfold hoursN
  split
  · rename_i h0; have := h h0; omega
  · exact Nat.le_refl _
theorem hoursN_fin {c : Int} (h0 : 0 ≤ c) (h : c ≤ 80) : hoursN (finF 80 c) = (24 * c + 1).toNat := by
  unfold hoursN
  rw [finF_ge h]; rfl
theorem on_end {n : Int} {L : List Int} {R : Int × Int} {k : Nat} {j : Nat} {c : Int} (H : DropAt n L R k j c) (hp : L.Pairwise (· < ·)) (hk : k = hoursN R) : k = 1921 := by
  unfold hoursN at hk
  split at hk
  · rename_i h0
    have := H.le hp h0
    have := H.hc
    have := H.h0
    omega
  · exact hk
theorem off_end {R : Int × Int} {k : Nat} {c : Int} (h : R = finF 80 c) (hk : (k : Int) = 24 * c + 1) (hle : k ≤ 1921) : c ≤ 80 ∧ k = hoursN R ∧ R.1 = 0 ∧ R.2 = c := by
  have hc : c ≤ 80 := by omega
  subst h
  rw [hoursN_fin (by omega) hc, finF_ge hc]
  exact ⟨hc, by omega, rfl, rfl⟩
end
end Go.Proofs.RT
end
section
/- The hours in which a weight that just goes can stop. -/
namespace Go.Proofs.RT
open Go.Vc Go.RowKit Go.Proofs Go.Lib
theorem plain_step {n e line : Int} {L : List Int} {R : Int × Int} {k : Int} {j : Nat} {c : Int} (H : DropAt n L R k j c) (he : 1 ≤ e) (hn : 1 ≤ n) (hline : line = 24 * n * e) (hp : L.Pairwise (· < ·)) (hL : ∀ D ∈ L, D ≤ 80) :
    (stopB e (L.length + 1) (some (j, e * (24 * c - k))) = decide (k = 24 * c)) ∧ (k = 24 * c → visN L line (k + 1) L.length (usePi e (L.length + 1) (some (j, e * (24 * c - k)))) = none ∧ R = finF 80 c) ∧
    (k ≠ 24 * c → ∃ j' c', visN L line (k + 1) L.length (usePi e (L.length + 1) (some (j, e * (24 * c - k)))) = some (j', e * (24 * c' - (k + 1))) ∧ DropAt n L R (k + 1) j' c') := by
  have hj := H.jl
  have hc := H.hc
  have hx : e * (24 * c - k) < e ↔ k = 24 * c := by
    constructor
    · intro h
      by_cases e1 : k = 24 * c
      · exact e1
      · have : e * 1 ≤ e * (24 * c - k) := Int.mul_le_mul_of_nonneg_left (by omega) (by omega)
        omega
    · intro h
      rw [show 24 * c - k = 0 by omega, Int.mul_zero]; omega
  have hu : usePi e (L.length + 1) (some (j, e * (24 * c - k))) = if e ≤ e * (24 * c - k) then some (j, e * (24 * c - k) - e) else none := by
    show (if j < L.length + 1 then useP e (some (j, e * (24 * c - k))) else _) = _
    rw [if_pos (by omega)]; rfl
  refine ⟨?_, fun h => ?_, fun h => ?_⟩
  · show decide (j < L.length + 1 ∧ e * (24 * c - k) < e) = _
    rw [Bool.eq_iff_iff, decide_eq_true_iff, decide_eq_true_iff, hx]
    exact ⟨fun h => h.2, fun h => ⟨by omega, h⟩⟩
  · rw [hu, if_neg (by have := hx.2 h; omega), visN_none]
    exact ⟨rfl, (H.stop (by omega)).2⟩
  · have hge : e ≤ e * (24 * c - k) := by
      have : ¬ e * (24 * c - k) < e := fun h1 => h (hx.1 h1)
      omega
    rw [hu, if_pos hge]
    have e1 : e * (24 * c - k) - e = e * (24 * c - (k + 1)) := by
      rw [show 24 * c - (k + 1) = (24 * c - k) - 1 by omega, Int.mul_sub e (24 * c - k) 1, Int.mul_one]
    rw [e1]
    by_cases hv : j < L.length ∧ k + 1 = 24 * L.getD j 0
    · obtain ⟨hjl, hv⟩ := hv
      have hg : L.getD j 0 = L[j] := by rw [List.getD_eq_getElem?_getD, getElem_of_lt hjl]; rfl
      have hD : L[j]? = some L[j] := getElem_of_lt hjl
      have h80 := hL _ (List.getElem_mem hjl)
      rw [hg] at hv
      refine ⟨j + 1, L[j] + n, ?_, H.wind (by omega) hD hv hp h80 hn⟩
      rw [visN_move (by rw [hg]; exact hv) (fun hj1 => ?_) _ hjl (Nat.le_refl _)]
      · have h0 : 0 ≤ e * (24 * c - (k + 1)) := Int.mul_nonneg (by omega) (by omega)
        rw [show min line (e * (24 * c - (k + 1)) + line) = line by omega, hv, hline]
        congr 2
        rw [show 24 * (L[j] + n) - 24 * L[j] = 24 * n by omega, Int.mul_comm]
      · have h2 := List.pairwise_iff_getElem.1 hp j (j + 1) hjl hj1 (by omega)
        rw [List.getD_eq_getElem?_getD, getElem_of_lt hj1]
        simp only [Option.getD_some]
        omega
    · refine ⟨j, c, ?_, H.pass (by omega) (fun D hD => ?_) hp⟩
      · rw [visN_stay (fun hjl => ?_) _ (Nat.le_refl _)]
        have hg : L.getD j 0 = L[j] := by rw [List.getD_eq_getElem?_getD, getElem_of_lt hjl]; rfl
        have := H.next j (Nat.le_refl _) _ (getElem_of_lt hjl)
        have h3 : ¬ k + 1 = 24 * L.getD j 0 := fun h => hv ⟨hjl, h⟩
        rw [hg] at h3 ⊢
        omega
      · obtain ⟨hjl, hDe⟩ := List.getElem?_eq_some_iff.1 hD
        have hg : L.getD j 0 = D := by rw [List.getD_eq_getElem?_getD, hD]; rfl
        have := H.next j (Nat.le_refl _) _ hD
        have h3 : ¬ k + 1 = 24 * L.getD j 0 := fun h => hv ⟨hjl, h⟩
        rw [hg] at h3
        omega
theorem stopsF_80 {n : Int} : ∀ (ds : List Int) (c : Int), (stopsF n 80 c ds).1 = 0 → (stopsF n 80 c ds).2 ≤ 80 := fun ds => by
  have fin : ∀ c : Int, (finF 80 c).1 = 0 → (finF 80 c).2 ≤ 80 := fun c h => by
    rcases fin_or c with ⟨_, e⟩ | ⟨h1, e⟩
    · rw [e] at h; simp at h
    · rw [e]; exact h1
  induction ds with
  | nil => exact fun c h => fin c h
  | cons d ds ih =>
    intro c h
    rw [stopsF_cons] at h ⊢
    split at h
    · rename_i h1; rw [if_pos h1]; exact fin c h
    · rename_i h1
      rw [if_neg h1]
      split at h
      · rename_i h2; rw [if_pos h2]; exact fin c h
      · rename_i h2
        rw [if_neg h2]
        exact ih _ h
theorem DropAt.le80 {n : Int} {L : List Int} {R : Int × Int} {h : Int} {j : Nat} {c : Int} (H : DropAt n L R h j c) (hR : R.1 = 0) : R.2 ≤ 80 := by
  have hr := H.res
  rw [← hr] at hR ⊢
  exact stopsF_80 _ _ hR
/-- A day with all that it reads, between two hours. -/
structure HourInv (bs : List Nat) (db sb c1 c2 : Nat) (line n e : Int) (ha va : Option Addr) (hc vc : Nat) (L : List Int) (R : Int × Int) (k : Nat) (w : World) : Prop where
  p1 : w.cell? ⟨c1, 0, none⟩ = some (.pointer (some ⟨db, 0, none⟩))
  p2 : w.cell? ⟨c2, 0, none⟩ = some (I 1921)
  le : k ≤ 1921
  ex : ∃ st p, DayC bs db sb line e ha va hc vc L p k st w ∧ PtOk p ∧ PlainAt n e L R k p
section
variable {bs : List Nat} {db sb c1 c2 : Nat} {line n e : Int} {ha va : Option Addr} {hc vc : Nat} {L : List Int} {R : Int × Int} {k : Nat} {w w' : World}
theorem HourInv.data {T : List Nat} (h : HourInv bs db sb c1 c2 line n e ha va hc vc L R k w) (hd : Data T w w') (hT : ∀ x ∈ T, x ∈ bs ∧ x ≠ sb ∧ x ≠ db) (h1 : c1 ∉ T) (h2 : c2 ∉ T) : HourInv bs db sb c1 c2 line n e ha va hc vc L R k w' := by
  obtain ⟨st, p, q1, q2, q3⟩ := h.ex
  exact ⟨hd.cell h1 h.p1, hd.cell h2 h.p2, h.le, st, p, q1.dataT hd hT, q2, q3⟩
set_option maxRecDepth 100000 in
theorem hours_iter (hn : L.length ≤ 10) (hp : L.Pairwise (· < ·)) : IterK Tryz.prog 81 [] [.pointer (some ⟨c1, 0, none⟩), .pointer (some ⟨c2, 0, none⟩)] (hoursN R) (fun k x _ => x = [I k]) (HourInv bs db sb c1 c2 line n e ha va hc vc L R) := by
  intro l J Jx W hJ hJx hInv hY h0
  have kept0 : ∀ {rs : List (Nat × Nat)} {w w' : World}, KeptIn ((0, w.heap.size) :: rs) [] w w' → Below w.heap.size w w' := fun hk => ⟨hk.os, hk.tape, hk.output, hk.size, fun k h => hk.block k h (by simp) ⟨_, List.mem_cons_self, Nat.zero_le _, h⟩⟩
  refine vc81 _ _ _ W _ ⟨fun m _ w' => ∃ G k, m = hoursN R - k ∧ k ≤ hoursN R ∧ (∀ b, G b → W.heap.size ≤ b ∧ b < w'.heap.size) ∧ J G k w', fun w2 hk => ⟨_, _, 0, rfl, Nat.zero_le _, fun b hb => hb.elim, hJ _ _ _ _ _ h0 (CalmFrom.of_below (below_kept0 hk)) (fun _ h => h) fun _ h => .inl h⟩, ?_⟩
  rintro m w3 ⟨G, k, rfl, hkN, hG, hj⟩
  have moveJ : ∀ {w w' : World}, J G k w → Below w.heap.size w w' → J G k w' := fun h hb => hJ _ _ _ _ _ h (CalmFrom.of_below hb) (fun _ h => h) fun _ h => .inl h
  have I3 := hInv _ _ _ hj
  obtain ⟨st, p, D3, P3, A3⟩ := I3.ex
  refine ⟨_, I3.p1, db, 0, rfl, trivial, k, cell_at' (D3.cell 4 _ rfl) (by simp), 1921, I3.p2, fun hlt => ?_, fun hge w11 hk11 => ?_⟩
  rotate_left
  · have hb := below_kept0 hk11
    refine ⟨⟨_, rfl⟩, G, .inl ?_⟩
    have : k = hoursN R := by
      have h1 : k = 1921 := by have := I3.le; omega
      rw [h1]
      cases A3 with
      | on j c h =>
        have h1' := h.hc
        unfold hoursN
        split
        · rename_i h0
          have := h.le hp h0
          have := h.le80 h0
          unfold hoursN at hkN
          rw [if_pos h0] at hkN
          omega
        · rfl
      | off c h hk => have := (off_end h hk I3.le).2.1; omega
    rw [← this]
    exact moveJ hj hb
  refine ⟨_, I3.p1, fun w4 hk4 => ?_⟩
  have hb4 := kept0 hk4
  refine (allD (D3.data (Data.of_below hb4)) hn).mono fun en w5 hen => ?_
  obtain ⟨a5, n5, c5, rfl, hb5, h5⟩ := hen
  have hb35 : Below w3.heap.size w3 w5 := hb4.trans (hb5.mono hb4.size)
  have D5 := D3.data (Data.of_below hb35)
  have I5 : HourInv bs db sb c1 c2 line n e ha va hc vc L R k w5 := I3.data (T := []) (Data.of_below hb35) (by simp) (by simp) (by simp)
  have hn5 := h5.n
  rw [hot_flat] at hn5
  refine ⟨_, _, _, rfl, .all hb5, fun hpos => ?_, fun hz w10 hk10 => ?_⟩
  · refine ⟨_, I5.p1, db, 0, rfl, trivial, k, cell_at' (D5.cell 4 _ rfl) (by simp), fun w6 hk6 => ⟨l, rfl, ?_⟩⟩
    have hb6 := kept0 hk6
    have hb36 : Below w3.heap.size w3 w6 := hb35.trans (hb6.mono hb35.size)
    have s36 := hb36.size
    have hkl : k < hoursN R := by
      cases A3 with
      | on j c h =>
        by_cases hk : k = hoursN R
        · have := on_end h hp hk; omega
        · omega
      | off c h hk => simp at hn5; omega
    refine yield_mono (hY _ _ [I k] _ (moveJ hj hb36) (fun b hb => by have := hG b hb; omega) hkl rfl) fun en w7 hen => ?_
    obtain ⟨t, rfl, hrk, hT, hF⟩ := hen
    have s7 := hrk.size
    refine ⟨t, rfl, .own hrk.os hrk.tape hrk.output hrk.size (by simp) (by simp) (by simp), fun h w8 hk8 => ⟨hoursN R - (k + 1), by omega, G, k + 1, rfl, hkl, fun b hb => by have := hG b hb; have := hk8.size; omega, ?_⟩, fun h w9 hk9 => ⟨⟨_, rfl⟩, G, .inr ⟨k + 1, ?_⟩⟩⟩
    · exact hJ _ _ _ _ _ (hT h) (CalmFrom.of_below (below_kept0 hk8)) (fun _ h => h) fun _ h => .inl h
    · exact hJx _ _ _ _ _ (hF h) (CalmFrom.of_below (below_kept0 hk9)) (fun _ h => h) fun _ h => .inl h
  · refine ⟨⟨_, rfl⟩, G, .inl ?_⟩
    have : k = hoursN R := by
      cases A3 with
      | on j c h =>
        have := h.jl
        simp only [if_pos (show j < L.length + 1 by omega)] at hn5
        simp at hn5; omega
      | off c h hk => exact (off_end h hk I3.le).2.1
    rw [← this]
    have hb10 := below_kept0 hk10
    exact moveJ hj (hb35.trans (hb10.mono hb35.size))
def stopHour (R : Int × Int) : Int := if R.1 = 0 then 24 * R.2 else 1921
set_option maxRecDepth 100000 in
set_option maxHeartbeats 1000000 in
theorem StopsD (hh : Cells w ha (spansV (List.replicate 24 (e, e)))) (hv : Cells w va ((L.map (visV line)).flatMap vsC)) (hn1 : 1 ≤ n) (he : 1 ≤ e ∧ e ≤ 3000) (hline : line = 24 * n * e) (hl : 1 ≤ line ∧ line ≤ 3000) (hn : L.length ≤ 10) (hL : ∀ D ∈ L, 1 ≤ D ∧ D ≤ 80) (hp : L.Pairwise (· < ·)) :
    Calls Tryz.prog 13 #[.agg #[I line, .slice ha 24 hc], I line, .slice va L.length vc, I 1921] w (Pure w (.tuple #[.agg #[I (stopHour (stopsF n 80 n L)), I (stopHour (stopsF n 80 n L))], I 0])) := by
  refine vc13 _ _ _ _ _ _ _ _ _ w _ fun m1 g1 m2 g2 w1 hb1 hk1 => ?_
  have s1 := hk1.size
  have o1 := hk1.own m1 (by simp); have o2 := hk1.own m2 (by simp)
  have ge : ∀ x ∈ [m2, m1], w.heap.size ≤ x := by simp; omega
  refine (beginD (bs := [m2, m1]) ((Lies.arg hh hb1 ge).to (Nat.le_refl _) hb1.size) ((Lies.arg hv hb1 ge).to (Nat.le_refl _) hb1.size) (fun x hx => hk1.own x hx) (start := line) (by omega) hl (by omega) hn hL hp (by omega)).mono fun en w2 hen => ?_
  obtain ⟨db, sb, rfl, hb2, gd, gs, D2⟩ := hen
  have s2 := hb2.size
  have d2 := D2.dl; have sl2 := D2.sl
  have z1 := hb1.size
  refine ⟨_, _, rfl, .all hb2, fun m4 g4 => ⟨fun h => absurd rfl h, fun _ w4 hb4 hk4 => ?_⟩⟩
  refine hoursD.mono fun en w5 hen => ?_
  obtain ⟨c1, c2, rfl, hb5, ⟨gc1, gc2⟩, p1, p2⟩ := hen
  have s4 := hk4.size; have s5 := hb5.size
  have o4 := hk4.own m4 (by simp)
  have B : DayC [m4, db, sb, m2, m1] db sb line e ha va hc vc L (some (0, line)) 0 false w5 :=
    ((D2.more (bs' := [m4, db, sb, m2, m1]) (by simp; omega) (by simp) (by simp)).dataT (Data.of_chg (Chg.kept hk4) (T := [m4, m2, m1]) (by simp)) (by simp; omega)).data (Data.of_below hb5)
  generalize hR : stopsF n 80 n L = R
  have ex0 : e * (24 * n - 0) = line := by rw [hline, Int.sub_zero, Int.mul_comm]
  have A0 : PlainAt n e L R 0 (some (0, line)) := by
    have := PlainAt.on (n := n) (e := e) (L := L) (R := R) (k := 0) 0 n (by rw [← hR]; exact DropAt.start hn1 fun D hD => (hL D hD).1)
    rw [ex0] at this; exact this
  have I5 : HourInv [m4, db, sb, m2, m1] db sb c1 c2 line n e ha va hc vc L R 0 w5 := ⟨p1, p2, Nat.zero_le _, false, _, B, fun j x hx => by cases hx; omega, A0⟩
  have own : ∀ {W W' : World} {k : Nat}, HourInv [m4, db, sb, m2, m1] db sb c1 c2 line n e ha va hc vc L R k W → Kept [m4, m2, m1] W W' → HourInv [m4, db, sb, m2, m1] db sb c1 c2 line n e ha va hc vc L R k W' := fun h hk =>
    h.data (Data.of_chg (Chg.kept hk) (T := [m4, m2, m1]) (by simp)) (by simp; omega) (by simp; omega) (by simp; omega)
  have calm : ∀ {W W' : World} {k B : Nat}, HourInv [m4, db, sb, m2, m1] db sb c1 c2 line n e ha va hc vc L R k W → CalmFrom B W W' → HourInv [m4, db, sb, m2, m1] db sb c1 c2 line n e ha va hc vc L R k W' := fun h hc =>
    h.data (T := []) (Data.of_calm hc) (by simp) (by simp) (by simp)
  have below : ∀ {W W' : World} {k : Nat}, HourInv [m4, db, sb, m2, m1] db sb c1 c2 line n e ha va hc vc L R k W → Below W.heap.size W W' → HourInv [m4, db, sb, m2, m1] db sb c1 c2 line n e ha va hc vc L R k W' := fun h hb =>
    h.data (T := []) (Data.of_below hb) (by simp) (by simp) (by simp)
  refine ⟨_, rfl, .all hb5, [.pointer (some ⟨c1, 0, none⟩), .pointer (some ⟨c2, 0, none⟩)], rfl, hoursN R, _, fun G ls k W => match ls with | [.int _ x2, .int _ x3] => (¬ G db ∧ ¬ G sb) ∧ k ≤ hoursN R ∧ w5.heap.size ≤ W.heap.size ∧ HourInv [m4, db, sb, m2, m1] db sb c1 c2 line n e ha va hc vc L R k W ∧ (x2 = 1921 ∧ x3 = 1921 ∧ (k < hoursN R ∨ R.1 ≠ 0) ∨ x2 = (k : Int) - 1 ∧ x3 = (k : Int) - 1 ∧ k = hoursN R ∧ R.1 = 0) | _ => False, _, hours_iter (bs := [m4, db, sb, m2, m1]) (db := db) (sb := sb) (line := line) (n := n) (e := e) (ha := ha) (va := va) (hc := hc) (vc := vc) hn hp, fun w9 hb9 hk9 _ => ⟨⟨id, id⟩, Nat.zero_le _, hk9.size, own I5 hk9, .inl ⟨rfl, rfl, ?_⟩⟩, ?_⟩
  · by_cases h0 : R.1 = 0
    · left
      have := (DropAt.start hn1 fun D hD => (hL D hD).1 : DropAt n L (stopsF n 80 n L) 0 0 n).le hp (by rw [hR]; exact h0)
      rw [hR] at this
      unfold hoursN
      rw [if_pos h0]; omega
    · exact .inr h0
  rintro x2 x3 k G G' w10 w11 ⟨⟨nd, ns⟩, hkN, z10, I10, hval⟩ hcalm hG1 hG2 hG3 hb11
  have nd' : ¬ G' db := fun h => by
    rcases hG2 db h with h | h
    · exact nd h
    · omega
  have ns' : ¬ G' sb := fun h => by
    rcases hG2 sb h with h | h
    · exact ns h
    · omega
  have I11 := calm I10 hcalm
  have z11 : w5.heap.size ≤ w11.heap.size := by have := hcalm.size; omega
  refine ⟨I11, fun y hkl hy => ⟨k, hy, fun _ w12 w13 hb13 hk13 w14 hc14 w15 w16 hb16 hk16 => ?_⟩, fun hk w26 hb26 hk26 w27 hc27 => ⟨?_, ?_⟩⟩
  · obtain ⟨rfl, rfl, hor⟩ : x2 = 1921 ∧ x3 = 1921 ∧ (k < hoursN R ∨ R.1 ≠ 0) := by
      rcases hval with h | h
      · exact h
      · omega
    have I16 := own (calm (own I11 hk13) hc14) hk16
    have z16 : w11.heap.size ≤ w16.heap.size := by have := hk13.size; have := hc14.size; have := hk16.size; omega
    obtain ⟨st, p, D16, P16, A16⟩ := I16.ex
    cases A16 with
    | off c h hk => have := (off_end h hk I16.le).2.1; omega
    | on j c hd =>
      obtain ⟨t1, t2, t3⟩ := plain_step hd he.1 hn1 hline hp fun D hD => (hL D hD).2
      have hk0 := hd.h0
      have hN1 : hoursN R ≤ 1921 := hoursN_le fun h0 => hd.le80 h0
      refine (nextD D16 P16 (by omega) hn (by omega) (by omega) (by simp; have := hk16.own m4 (by simp); omega)).mono fun en w17 hen => ?_
      obtain ⟨rfl, C17, st', D17, P17⟩ := hen
      have s17 := C17.size
      have kx : KeepX true w.heap.size [m4, m2, m1] G' w16 w17 := C17.own (fun y hy => ⟨hk16.own y hy, by simp at hy ⊢; omega⟩) (fun b hb => ⟨by have := hG3 b hb; omega, by simp; exact ⟨fun e => nd' (e ▸ hb), fun e => ns' (e ▸ hb)⟩⟩) (fun _ => ⟨hb16.size, by simp; omega⟩)
      have J17 : ∀ p', visN L line ((k : Int) + 1) L.length (usePi e (L.length + 1) (some (j, e * (24 * c - (k : Int))))) = p' → PlainAt n e L R ((k : Int) + 1) p' → HourInv [m4, db, sb, m2, m1] db sb c1 c2 line n e ha va hc vc L R (k + 1) w17 := fun p' hp' hA => by
        have hd17 : Data [db, sb] w16 w17 := Data.of_chg C17 (by simp)
        refine ⟨hd17.cell (by simp; omega) I16.p1, hd17.cell (by simp; omega) I16.p2, by omega, st', _, ?_, P17, ?_⟩
        · rw [show ((k + 1 : Nat) : Int) = (k : Int) + 1 by omega]; exact D17
        · rw [show ((k + 1 : Nat) : Int) = (k : Int) + 1 by omega, hp']; exact hA
      by_cases hc24 : (k : Int) = 24 * c
      · obtain ⟨e1, e2⟩ := t2 hc24
        have J := J17 _ e1 (.off c e2 (by omega))
        have hoff := off_end (k := k + 1) e2 (by omega) (by omega)
        rw [t1, decide_eq_true hc24]
        refine ⟨true, rfl, kx, fun _ w18 hb18 hk18 => ?_, fun h => (nomatch h)⟩
        have J18 := own J hk18
        have D18 := D17.dataT (Data.of_chg (Chg.kept hk18) (T := [m4, m2, m1]) (by simp)) (by simp; omega)
        rw [e1] at D18
        refine (allD D18 hn).mono fun en w19 hen => ?_
        obtain ⟨a, m, c', rfl, hb19, h19⟩ := hen
        have hn19 := h19.n
        rw [hot_flat] at hn19
        have hn19 : m = 0 := hn19
        refine ⟨_, _, _, rfl, .all hb19, fun _ w20 hb20 hk20 => ?_, fun h => absurd (by rw [hn19]; rfl) h⟩
        have s18 := hk18.size; have s19 := hb19.size; have s20 := hk20.size
        exact ⟨⟨nd', ns'⟩, by omega, by omega, own (below J18 hb19) hk20, .inr ⟨by omega, by omega, hoff.2.1, hoff.2.2.1⟩⟩
      · obtain ⟨j', c', e1, e2⟩ := t3 hc24
        have J := J17 _ e1 (.on j' c' e2)
        rw [t1, decide_eq_false hc24]
        refine ⟨false, rfl, kx, fun h => (nomatch h), fun _ w22 hb22 hk22 => ?_⟩
        have J22 := own J hk22
        have D22 := D17.dataT (Data.of_chg (Chg.kept hk22) (T := [m4, m2, m1]) (by simp)) (by simp; omega)
        rw [e1] at D22
        refine (allD D22 hn).mono fun en w23 hen => ?_
        obtain ⟨a, m, c'', rfl, hb23, h23⟩ := hen
        have hn23 := h23.n
        have hjl := e2.jl
        rw [hot_flat] at hn23
        simp only [if_pos (show j' < L.length + 1 by omega)] at hn23
        have hn23 : m = 1 := hn23
        refine ⟨_, _, _, rfl, .all hb23, fun h => by omega, fun _ w25 hb25 hk25 => ?_⟩
        have s22 := hk22.size; have s23 := hb23.size; have s25 := hk25.size
        refine ⟨⟨nd', ns'⟩, by omega, by omega, own (below J22 hb23) hk25, .inl ⟨rfl, rfl, ?_⟩⟩
        by_cases h0 : R.1 = 0
        · left
          have h1 := e2.le hp h0
          have h2 := e2.hc
          unfold hoursN
          rw [if_pos h0]; omega
        · exact .inr h0
  · rw [show (hoursN R) = k from hk.symm] at hval
    unfold stopHour
    rcases hval with ⟨rfl, rfl, h⟩ | ⟨rfl, rfl, _, h⟩
    · have h0 : R.1 ≠ 0 := by
        rcases h with h | h
        · omega
        · exact h
      rw [if_neg h0]
    · rw [if_pos h]
      unfold hoursN at hk
      rw [if_pos h] at hk
      have : 0 ≤ 24 * R.2 := by
        have h1 := (DropAt.start hn1 fun D hD => (hL D hD).1 : DropAt n L (stopsF n 80 n L) 0 0 n).le hp (by rw [hR]; exact h)
        rw [hR] at h1; omega
      rw [show (k : Int) - 1 = 24 * R.2 by omega]
  · exact hb26.trans (calm_below hc27 hb26.size)
end
end Go.Proofs.RT
end
section
/- The example of drop: pubHours, Goes, pubDrop. -/
namespace Go.Proofs.RT
open Go.Vc Go.RowKit Go.Proofs
section
variable {w : World}
/-- The hour in which a clock stops that is not wound. -/
def goesF (f : Int → Int) : Nat → Int → Int → Int
  | 0, _, h => h
  | k + 1, left, h => if f h ≤ left then goesF f k (left - f h) (h + 1) else h
theorem goes_any {L left h0 : Int} {a va : Option Addr} {c vn vc f : Nat} {fi fc : List Value} {H : List Sp} {sel : Sp → Int} (hc : Cells w a (spansV H)) (hn : H.length = 24) (hs : ∀ s ∈ H, 0 ≤ sel s) (hl : 0 ≤ left ∧ left ≤ 3000) (hh : 0 ≤ h0 ∧ h0 ≤ 2000)
    (hf : Callable Tryz.prog f ∧ ∀ (s : Sp) w, Calls Tryz.prog f (fi ++ [spv s] ++ fc).toArray w (Pure w (I (sel s)))) :
    Calls Tryz.prog 88 #[clkV L a H.length c va vn vc, I left, I h0, .func (.func f) fi.toArray fc.toArray] w (Pure w (I (goesF (fun h => sel (H.getD (h % 24).toNat (0, 0))) (2000 - h0).toNat left h0))) := by
  generalize hF : (fun h : Int => sel (H.getD (h % 24).toNat (0, 0))) = F
  have hF' : ∀ h, F h = sel (H.getD (h % 24).toNat (0, 0)) := fun h => by rw [← hF]
  have hpos : ∀ h, 0 ≤ F h := fun h => by
    rw [hF', List.getD_eq_getElem?_getD, getElem_of_lt (show (h % 24).toNat < H.length by omega)]
    exact hs _ (List.getElem_mem _)
  refine vc88 _ _ _ _ _ _ _ _ _ _ _ _ w _ fun m1 g1 => ⟨fun ls _ => match ls with | [.int _ x, .int _ y] => (0 ≤ x ∧ x ≤ 3000) ∧ (0 ≤ y ∧ y ≤ 2000) ∧ goesF F (2000 - y).toNat x y = goesF F (2000 - h0).toNat left h0 | _ => False, fun ls => match ls with | [_, .int _ y] => (2000 - y).toNat | _ => 0, fun w2 _ _ => ⟨hl, hh, rfl⟩, ?_⟩
  rintro x y w3 hb3 ⟨hx, hy, hE⟩
  refine ⟨fun hlt w4 hb4 _ => ?_, fun hge w14 hb14 _ => ⟨?_, hb14⟩⟩
  rotate_left
  · rw [show (2000 - y).toNat = 0 by omega] at hE
    rw [← hE]; rfl
  have step : goesF F (2000 - y).toNat x y = if F y ≤ x then goesF F (2000 - (y + 1)).toNat (x - F y) (y + 1) else y := by
    rw [show (2000 - y).toNat = (2000 - (y + 1)).toNat + 1 by omega]; rfl
  refine Pure.calls (use_any (hc.keep hb4) hn hy.1) fun w5 hd5 => ⟨_, _, rfl, .all hd5, hf.1, fun w6 hb6 _ => ?_⟩
  refine Pure.calls (hf.2 _ w6) fun w7 hd7 => ⟨_, rfl, .all hd7, fun hle w8 hb8 _ => ?_, fun hgt w13 hb13 _ => ⟨?_, hb13⟩⟩
  rotate_left
  · rw [step, if_neg (by rw [hF']; omega)] at hE
    rw [← hE]
  rw [← hF'] at hle
  rw [step, if_pos hle] at hE
  refine Pure.calls (use_any (hc.keep hb8) hn hy.1) fun w9 hd9 => ⟨_, _, rfl, .all hd9, hf.1, fun w10 hb10 _ => ?_⟩
  have hp := hpos y
  refine Pure.calls (hf.2 _ w10) fun w11 hd11 => ⟨_, rfl, .all hd11, by rw [← hF']; omega, by omega, fun w12 hb12 _ => ⟨⟨by rw [← hF']; omega, by omega, by rw [← hF']; exact hE⟩, ?_⟩⟩
  show (2000 - (y + 1)).toNat < (2000 - y).toNat
  omega
set_option maxRecDepth 100000 in
theorem GoesD {L start h0 : Int} {a : Option Addr} {c : Nat} {H : List Sp} (hc : Cells w a (spansV H)) (hH : HoursOk H) (hL : 1 ≤ L ∧ L ≤ 3000) (hl : 0 ≤ start ∧ start ≤ L) (hh : 0 ≤ h0 ∧ h0 ≤ 2000) :
    Calls Tryz.prog 40 #[.agg #[I L, .slice a H.length c], I start, I h0] w (Pure w (.tuple #[.agg #[I (goesF (fun h => (H.getD (h % 24).toNat (0, 0)).2) (2000 - h0).toNat start h0), I (goesF (fun h => (H.getD (h % 24).toNat (0, 0)).1) (2000 - h0).toNat start h0)], I 0])) := by
  have hs : ∀ s ∈ H, 0 ≤ s.1 ∧ 0 ≤ s.2 := fun s h => by
    have := hH.s s h
    unfold spanB at this
    rw [decide_eq_true_iff] at this
    omega
  refine vc40 _ _ _ _ _ _ w _ fun m1 g1 m2 g2 w1 hb1 _ => ?_
  refine Pure.calls (CheckD_ok hL (hc.keep hb1) hH) fun w2 hd2 => ⟨_, rfl, .all hd2, fun h => absurd rfl h, fun _ m4 g4 w4 hb4 _ hc4 => ?_⟩
  refine Pure.calls (inD_any hc4) fun w5 hd5 => ⟨_, rfl, .all hd5, fun h => ?_, fun _ m10 g10 w12 hb12 _ hc12 => ?_⟩
  · rw [decide_eq_true hl] at h; cases h
  refine Pure.calls (inD_any hc12) fun w13 hd13 => ⟨_, rfl, .all hd13, fun h => ?_, fun _ m13 g13 w15 hb15 _ => ?_⟩
  · rw [decide_eq_true hh] at h; cases h
  refine Pure.calls (goes_any (fi := []) (fc := []) (sel := fun s => s.2) (hc.keep hb15) hH.n (fun s h => (hs s h).2) (by omega) hh ⟨callOk_run (by rfl), fun s W => high_any s W⟩) fun w16 hd16 => ⟨_, rfl, .all hd16, fun w17 hb17 _ => ?_⟩
  refine Pure.calls (goes_any (fi := []) (fc := []) (sel := fun s => s.1) (hc.keep hb17) hH.n (fun s h => (hs s h).1) (by omega) hh ⟨callOk_run (by rfl), fun s W => low_any s W⟩) fun w18 hd18 => ⟨_, rfl, .all hd18, fun w19 hb19 _ => ⟨rfl, hb19⟩⟩
theorem spans_rep (s : Sp) (n : Nat) : spansV (List.replicate (n + 1) s) = spansV (List.replicate n s) ++ [I s.1, I s.2] := by
  rw [List.replicate_succ', spansV, List.flatMap_append]; rfl
set_option maxRecDepth 100000 in
theorem pubHours_any (s : Sp) : Calls Tryz.prog 14 #[spv s] w fun e w' => ∃ a c, e = .returned (.slice a 24 c) ∧ Below w.heap.size w w' ∧ Row 47 2 w.heap.size [] a 24 c (spansV (List.replicate 24 s)) w' := by
  refine vc14 _ _ w _ fun m1 g1 m2 g2 => ⟨fun ls w' => match ls with | [.sl a n c, .int _ x] => (0 ≤ x ∧ x ≤ 24) ∧ n = x.toNat ∧ RowE 47 2 w.heap.size [m1] a n c (spansV (List.replicate x.toNat s)) w' | _ => False, fun ls => match ls with | [_, .int _ x] => (24 - x).toNat | _ => 0, fun w2 hb2 hk2 _ => ⟨by omega, rfl, .inl ⟨⟨m2, rfl⟩, rfl, rfl, rfl⟩⟩, ?_⟩
  rintro a n c x w3 hb3 ⟨hx, rfl, R3⟩
  refine ⟨fun hlt m6 g6 w4 hb4 hk4 hc4 => ?_, fun hge w7 hb7 hk7 => ?_⟩
  · have R4 := (R3.grow (ms := [m6]) (by simp; omega)).chg (Chg.kept hk4) (by simp)
    refine append_rowE (P := Tryz.prog) (bytes := 16) (by kernel_rfl) (by omega) R4 (m := 1) (news := [_, _]) (Cells.obj (vs := [_, _]) hc4) rfl (List.forall_mem_cons.2 ⟨rfl, List.forall_mem_cons.2 ⟨rfl, by simp⟩⟩) (by omega) (by omega) hb4.size (fun y hy => hk4.own y (by simpa using hy)) (by omega) fun a5 c5 w5 R5 S C5 hS => ?_
    refine ⟨_, _, _, rfl, C5.own (fun y hy => ⟨hk4.own y hy, fun h => (hS y h).2 (by simpa using hy)⟩) (by simp) (fun _ => ⟨hb4.size, fun s hs => (hS s hs).1⟩), by omega, fun w6 hb6 hk6 => ⟨⟨by omega, by omega, ?_⟩, ?_⟩⟩
    · rw [show (x + 1).toNat = x.toNat + 1 by omega, spans_rep]
      exact (RowE.chg (.inr R5) (Chg.kept hk6) (by simp)).less (by simp)
    · show (24 - (x + 1)).toNat < (24 - x).toNat
      omega
  · have e : x.toNat = 24 := by omega
    rw [e] at R3 ⊢
    have R7 := R3.chg (Chg.kept hk7) (by simp)
    rcases R7 with ⟨_, h, _⟩ | R7
    · omega
    · exact ⟨a, c, rfl, hb7, R7.less (by simp)⟩
def exH : List Sp := (2, 3) :: List.replicate 23 (2, 2)
theorem exH_ok : HoursOk exH := ⟨rfl, by decide⟩
theorem exH_high : goesF (fun h => (exH.getD (h % 24).toNat (0, 0)).2) (2000 - 0 : Int).toNat 10 0 = 4 := by decide +kernel
theorem exH_low : goesF (fun h => (exH.getD (h % 24).toNat (0, 0)).1) (2000 - 0 : Int).toNat 10 0 = 5 := by decide +kernel
set_option maxRecDepth 100000 in
theorem pubDrop_any : Calls Tryz.prog 15 #[] w (Pure w (.bool true)) := by
  refine vc15 w _ fun w1 hb1 _ => ?_
  refine Pure.calls (pubSpan_any 2 2 w1) fun w2 hd2 => ⟨_, _, rfl, .all hd2, fun w3 hb3 _ => ?_⟩
  refine (pubHours_any (2, 2)).mono fun e w4 he => ?_
  obtain ⟨a, c, rfl, hb4, R4⟩ := he
  rcases R4.own.2 with ⟨_, h0⟩ | ⟨g, cap, cur, hv, hB, hg, h2, h3, h4, h5⟩
  · omega
  simp only [Value.slice.injEq] at hv
  obtain ⟨rfl, _, rfl⟩ := hv
  have s3 := hb3.size
  refine ⟨_, _, _, rfl, .all hb4, fun m5 g5 => ⟨g, 0, rfl, by decide, fun w5 hb5 hk5 => ?_⟩⟩
  have hgl := lt_of_some hg
  have hg5 : w5.heap[g]? = some (.cells cur 47 (0, 0)) := by rw [hk5.block g hgl (by simp; omega)]; exact hg
  have hcur : cur.toList = [I 2, I 2] ++ (spansV (List.replicate 23 (2, 2)) ++ cur.toList.drop 48) := by
    have e : cur.toList = cur.toList.take (24 * 2) ++ cur.toList.drop 48 := (List.take_append_drop 48 _).symm
    rw [h5] at e
    rw [e]
    rfl
  have hg5' : w5.heap[g]? = some (.cells cur.toList.toArray 47 (0, 0)) := by rw [hg5]
  have hlen : 2 ≤ cur.toList.length := by rw [hcur]; simp
  have o5 := hk5.own m5 (by simp)
  have st := fun R => obj_store (P := Tryz.prog) (t := 3) (off := 0 + Int.toNat 0 * 2 + 1) (cs := cur.toList) (vs := [I 3]) (v := I 3) hg5' (by kernel_rfl) (by kernel_rfl) (by simp at hlen ⊢; omega) rfl (by simp; trivial) (R := R)
  refine st _ fun w6 hh6 C6 => ?_
  have hC6 : Cells w6 (some ⟨g, 0, none⟩) (spansV exH) := by
    have e : cur.toList.take (0 + Int.toNat 0 * 2 + 1) ++ [I 3] ++ cur.toList.drop (0 + Int.toNat 0 * 2 + 1 + [I 3].length) = spansV exH ++ cur.toList.drop 48 := by
      have : ∀ l : List Value, l = [I 2, I 2] ++ (spansV (List.replicate 23 (2, 2)) ++ cur.toList.drop 48) → l.take (0 + Int.toNat 0 * 2 + 1) ++ [I 3] ++ l.drop (0 + Int.toNat 0 * 2 + 1 + [I 3].length) = spansV exH ++ cur.toList.drop 48 := fun l hl => by
        rw [hl]; rfl
      exact this _ hcur
    rw [e] at hh6
    intro i v hi
    refine ⟨g, 0, rfl, ?_⟩
    have := cell_obj (vs := spansV exH ++ cur.toList.drop 48) hh6 (i := i) (v := v) (by rw [List.getElem?_append_left (List.getElem?_eq_some_iff.1 hi).1]; exact hi)
    exact cell_at' this (by omega)
  refine ⟨C6.own (fun y hy => ⟨hk5.own y hy, by simp at hy ⊢; omega⟩) (by simp) (fun _ => ⟨hb5.size, by simp; omega⟩), fun w7 hb7 hk7 => ?_⟩
  have hC7 : Cells w7 (some ⟨g, 0, none⟩) (spansV exH) := fun i v hi => by
    obtain ⟨b, o, e, hc⟩ := hC6 i v hi
    cases e
    exact ⟨g, 0, rfl, (Chg.kept hk7).cell (by simp; omega) hc⟩
  have hG := GoesD (start := 10) (h0 := 0) (L := 100) (c := c) hC7 exH_ok (by decide) (by decide) (by decide)
  rw [exH_high, exH_low] at hG
  refine Pure.calls hG fun w8 hd8 => ⟨_, _, _, rfl, .all hd8, fun m10 g10 => ⟨fun _ w9 hb9 _ => ?_, fun h => absurd rfl h⟩⟩
  refine Pure.calls (pubSpan_any 4 5 w9) fun w10 hd10 => ⟨_, _, rfl, .all hd10, fun w11 hb11 _ => eql_span ⟨_, rfl, .all (.refl _ _), fun w13 hb13 _ => ⟨rfl, hb13⟩⟩⟩
end
end Go.Proofs.RT
end
section
/- The winding days of the example. -/
namespace Go.Proofs.RT
open Go.Vc Go.RowKit Go.Proofs
structure DaysGood (ds : List Dy) : Prop where
  p : (ds.map (·.1)).Pairwise (· < ·)
  b : ∀ D ∈ ds.map (·.1), 1 ≤ D ∧ D ≤ 80
  n : ds.length ≤ 10
section
variable {w : World}
set_option maxRecDepth 100000 in
theorem pubWound_any {by' : List Int} {ba : Option Addr} {bc : Nat} (hb : Cells w ba (u8s by')) (hr : ∀ g ∈ by', 0 ≤ g ∧ g ≤ 255) (hlen : (by'.length : Int) ≤ 9223372036854775807) :
    Calls Tryz.prog 11 #[.slice ba by'.length bc, I 10, I 80] w fun e w' => ∃ ds a c, e = .returned (.slice a ds.length c) ∧ Below w.heap.size w w' ∧ DaysR w.heap.size [] ds a ds.length c w' ∧ DaysGood ds := by
  refine vc11 _ _ _ _ _ w _ fun m1 g1 => ⟨fun ls w' => match ls with | [.sl a n c, .int _ x1, .int _ x2] => ∃ ds, DaysR w.heap.size [] ds a n c w' ∧ DaysGood ds ∧ (∀ D ∈ ds.map (·.1), D ≤ x1) ∧ (0 ≤ x1 ∧ x1 ≤ 80) ∧ 0 ≤ x2 ∧ x2 ≤ by'.length | _ => False, fun ls => match ls with | [_, _, .int _ x2] => ((by'.length : Int) - x2).toNat | _ => 0, fun w2 hb2 hk2 _ => ⟨[], ⟨rfl, .inl ⟨rfl, ⟨m1, rfl⟩, rfl⟩, by simp⟩, ⟨by simp, by simp, by simp⟩, by simp, by omega, by omega, by omega⟩, ?_⟩
  rintro a n c x1 x2 w3 hb3 ⟨ds, D3, G3, hle, hx1, hx2⟩
  have fin : ∀ w4, Below w.heap.size w w4 → Kept [] w3 w4 → ∃ ds a' c', Ending.returned (.slice a n c) = .returned (.slice a' ds.length c') ∧ Below w.heap.size w w4 ∧ DaysR w.heap.size [] ds a' ds.length c' w4 ∧ DaysGood ds := fun w4 hb4 hk4 => by
    obtain rfl := D3.len
    exact ⟨ds, a, c, rfl, hb4, D3.same (fun b hu => hk4.block b (D3.lt hu).1 (by simp)) (fun b hu => (D3.lt hu).2), G3⟩
  refine ⟨fun hlt => ⟨fun hn => ?_, fun hge w10 hb10 hk10 => fin w10 hb10 hk10⟩, fun hge w11 hb11 hk11 => fin w11 hb11 hk11⟩
  have hi : x2.toNat < by'.length := by omega
  obtain ⟨b, o, rfl, hc⟩ := hb x2.toNat _ (by rw [u8s, List.getElem?_map, getElem_of_lt hi]; rfl)
  have hg := hr _ (List.getElem_mem hi)
  generalize by'[x2.toNat] = g at hc hg
  have hm9 : g.tmod 9 = g % 9 := Int.tmod_eq_emod_of_nonneg hg.1
  have hlen0 := D3.len
  refine ⟨b, o, rfl, by omega, g, cell_at' (cell_keep hb3 hc) (by omega), by omega, by omega, by omega, by omega, fun _ w4 hb4 hk4 => fin w4 hb4 hk4, fun hle80 w5 hb5 hk5 m7 w6 e6 f6 m8 g8 w7 hb7 hk7 hc7 => ?_⟩
  have s5 := hk5.size; have s7 := hk7.size
  have q6 : w6.heap.size = w5.heap.size + 1 := by rw [f6, alloc_size]
  have h6 : w6.heap[m7]? = some (.cells #[I 0] 3 (0, 0)) := by rw [f6, e6]; exact World.alloc_heap_new w5 _
  have hb6 : Below w5.heap.size w5 w6 := by rw [f6]; exact (Below.refl _ w5).alloc (Nat.le_refl _) _
  have h7 : w7.heap[m7]? = some (.cells #[I 0] 3 (0, 0)) := by rw [hk7.block m7 (by omega) (by simp; omega)]; exact h6
  have D7 : DaysR w.heap.size [m8] ds a n c w7 := D3.same (fun b hu => by
    have h := D3.lt hu
    rw [hk7.block b (by omega) (by simp; omega), hb6.block b (by omega), hk5.block b h.1 (by simp)]) fun b hu => by have := (D3.lt hu).1; simp; omega
  refine appDay D7 hb7.size (by have := G3.n; omega) (E := fun _ => False) (fun _ _ h => h) (fun _ h => h.elim) (fun y hy => hk7.own y hy) hc7 h7 (by simp; omega) (fun h => h) fun a8 c8 w8 D8 _ _ S C8 hS => ?_
  refine ⟨_, _, _, rfl, C8.own (fun y hy => ⟨hk7.own y hy, fun h => (hS y h).2 hy⟩) (by simp) (fun _ => ⟨hb7.size, fun s hs => (hS s hs).1⟩), by omega, fun w9 hb9 hk9 => ⟨⟨_, D8.same (fun b hu => hk9.block b (D8.lt hu).1 (D8.lt hu).2) (by simp), ?_, ?_, by omega, by omega, by omega⟩, ?_⟩⟩
  · refine ⟨?_, fun D hD => ?_, by simp; omega⟩
    · rw [List.map_append, List.pairwise_append]
      exact ⟨G3.p, by simp, fun x hx y hy => by
        have := hle x hx
        have hy : y = x1 + (1 + g.tmod 9) := by simpa using hy
        omega⟩
    · rw [List.map_append] at hD
      rcases List.mem_append.1 hD with h | h
      · exact G3.b D h
      · have h : D = x1 + (1 + g.tmod 9) := by simpa using h
        omega
  · intro D hD
    rw [List.map_append] at hD
    rcases List.mem_append.1 hD with h | h
    · have := hle D h; omega
    · have h : D = x1 + (1 + g.tmod 9) := by simpa using h
      omega
  · show ((by'.length : Int) - (x2 + 1)).toNat < ((by'.length : Int) - x2).toNat
    omega
end
end Go.Proofs.RT
end
section
/- The conditions of the functions, printed by program; each is what the generator reckons (kernel_rfl). -/
namespace Go.Proofs
open Go.Vc
set_option maxRecDepth 100000 in
set_option maxHeartbeats 2000000 in
theorem vc4 (goes : Int) (use : Int) (p2bya : Option Addr) (p2byn : Nat) (p2byc : Nat) (w : World) (R : Ending → World → Prop) (h : (-9223372036854775808 ≤ goes ∧ goes ≤
    9223372036854775807) ∧ (30 : Int) ≠ 0 ∧ ((-9223372036854775808 : Int) ≤ 1 + goes.tmod 30 ∧ 1 + goes.tmod (30 : Int) ≤ 9223372036854775807) ∧ (-9223372036854775808 ≤ use ∧ use ≤
    9223372036854775807) ∧ (4 : Int) ≠ 0 ∧ ((-9223372036854775808 : Int) ≤ 1 + use.tmod 4 ∧ 1 + use.tmod (4 : Int) ≤ 9223372036854775807) ∧ ((-9223372036854775808 : Int) ≤ 24 * (1
    + goes.tmod 30) ∧ 24 * (1 + goes.tmod 30) ≤ 9223372036854775807) ∧ ((-9223372036854775808 : Int) ≤ 24 * (1 + goes.tmod 30) * (1 + use.tmod 4) ∧ 24 * (1 + goes.tmod 30) * (1 +
    use.tmod 4) ≤ 9223372036854775807) ∧ ∀ (w1 : World), RowKit.Below w.heap.size w w1 → Kept [] w w1 → Calls Tryz.prog 11 #[Value.slice p2bya p2byn p2byc, Value.int IntKind.i64
    10, Value.int IntKind.i64 80] w1 fun (e1 : Ending) (w2 : World) => ∃ (a1 : Option Addr), ∃ (m1 : Nat), ∃ (m2 : Nat), e1 = Ending.returned (Value.slice a1 m1 m2) ∧ KeepX true
    w.heap.size [] (fun _ => False) w1 w2 ∧ ∀ (m4 : Nat), w2.heap.size ≤ m4 → ∀ (w3 : World), RowKit.Below w.heap.size w w3 → Kept [m4] w2 w3 → w3.heap[m4]? = some (Obj.cells
    #[Value.int IntKind.i64 (1 + goes.tmod 30)] 3) → Calls Tryz.prog 8 #[Value.slice (some { block := m4, off := 0 }) 1 1] w3 fun (e2 : Ending) (w4 : World) => ∃ (a2 : Option
    Addr), ∃ (m6 : Nat), ∃ (m7 : Nat), ∃ (a3 : Option Addr), ∃ (m8 : Nat), ∃ (m9 : Nat), ∃ (a4 : Option Addr), ∃ (m10 : Nat), ∃ (m11 : Nat), ∃ (x1 : Int), ∃ (x2 : Int), e2 =
    Ending.returned (Value.agg #[Value.slice a2 m6 m7, Value.slice a3 m8 m9, Value.slice a4 m10 m11, Value.int IntKind.i64 x1, Value.int IntKind.i64 x2]) ∧ KeepX true w.heap.size
    [m4] (fun _ => False) w3 w4 ∧ ∀ (m13 : Nat), w4.heap.size ≤ m13 → ∀ (w5 : World), RowKit.Below w.heap.size w w5 → Kept [m13, m4] w4 w5 → w5.heap[m13]? = some (Obj.cells #[] 34)
    → RunsTo Tryz.prog (Builtin.append_ #[28, 28] 28 #[Value.slice (some { block := m13, off := 0 }) 0 0, Value.slice a1 m1 m2]) w5 fun (v1 : Value) (w6 : World) => ∃ (a5 : Option
    Addr), ∃ (m15 : Nat), ∃ (m16 : Nat), v1 = Value.slice a5 m15 m16 ∧ KeepX true w.heap.size [m13, m4] (fun _ => False) w5 w6 ∧ ∀ (w7 : World), RowKit.Below w.heap.size w w7 →
    Kept [m13, m4] w6 w7 → Calls Tryz.prog 7 #[Value.agg #[Value.slice a2 m6 m7, Value.slice a3 m8 m9, Value.slice a4 m10 m11, Value.int IntKind.i64 x1, Value.int IntKind.i64 x2],
    Value.slice a5 m15 m16, Value.int IntKind.i64 80] w7 fun (e3 : Ending) (w8 : World) => ∃ (x3 : Int), ∃ (x4 : Int), ∃ (x5 : Int), e3 = Ending.returned (Value.tuple #[Value.int
    IntKind.i64 x3, Value.int IntKind.i64 x4, Value.int IntKind.i64 x5]) ∧ KeepX true w.heap.size [m13, m4] (fun _ => False) w7 w8 ∧ ∀ (m19 : Nat), w8.heap.size ≤ m19 → ∃ (F1 :
    List Lf → World → Prop), ∃ (F2 : List Lf → Nat), (∀ (w10 : World), RowKit.Below w.heap.size w w10 → Kept [m19, m13, m4] w8 w10 → w10.heap[m19]? = some (Obj.cells #[] 50) → F1
    [Lf.sl (some { block := m19, off := 0 }) 0 0, Lf.int IntKind.i64 0] w10) ∧ ∀ (a6 : Option Addr) (m21 m22 : Nat) (x6 : Int) (w11 : World), RowKit.Below w.heap.size w w11 → F1
    [Lf.sl a6 m21 m22, Lf.int IntKind.i64 x6] w11 → (x6 < (↑m1 : Int) → ∃ (m23 : Nat), ∃ (m24 : Nat), a1 = some { block := m23, off := m24 } ∧ (0 ≤ x6 ∧ x6 < (↑m1 : Int)) ∧ ∃ (x7 :
    Int), w11.cell? { block := m23, off := m24 + x6.toNat * 2 + 0 } = some (Value.int IntKind.i64 x7) ∧ (m23 < w.heap.size ∨ m23 ≠ m13 ∧ m23 ≠ m4) ∧ ((-9223372036854775808 : Int) ≤
    24 * x7 ∧ 24 * x7 ≤ 9223372036854775807) ∧ ∃ (m25 : Nat), ∃ (m26 : Nat), a1 = some { block := m25, off := m26 } ∧ (0 ≤ x6 ∧ x6 < (↑m1 : Int)) ∧ ∃ (x8 : Int), w11.cell?
    { block := m25, off := m26 + x6.toNat * 2 + 0 } = some (Value.int IntKind.i64 x8) ∧ (m25 < w.heap.size ∨ m25 ≠ m13 ∧ m25 ≠ m4) ∧ ((-9223372036854775808 : Int) ≤ 24 * x8 ∧ 24 *
    x8 ≤ 9223372036854775807) ∧ ∀ (w12 : World), RowKit.Below w.heap.size w w12 → KeptIn [(0, w11.heap.size)] [m13, m4] w11 w12 → Calls Tryz.prog 12 #[Value.int IntKind.i64 (24 *
    x7), Value.int IntKind.i64 (24 * x8)] w12 fun (e4 : Ending) (w13 : World) => ∃ (x9 : Int), ∃ (x10 : Int), e4 = Ending.returned (Value.agg #[Value.int IntKind.i64 x9, Value.int
    IntKind.i64 x10]) ∧ KeepX true w.heap.size [m13, m4] (fun _ => False) w12 w13 ∧ ∀ (w14 : World), RowKit.Below w.heap.size w w14 → KeptIn [(0, w13.heap.size)] [m13, m4] w13 w14
    → Calls Tryz.prog 12 #[Value.int IntKind.i64 (24 * (1 + goes.tmod 30) * (1 + use.tmod 4)), Value.int IntKind.i64 (24 * (1 + goes.tmod 30) * (1 + use.tmod 4))] w14 fun (e5 :
    Ending) (w15 : World) => ∃ (x11 : Int), ∃ (x12 : Int), e5 = Ending.returned (Value.agg #[Value.int IntKind.i64 x11, Value.int IntKind.i64 x12]) ∧ KeepX true w.heap.size [m13,
    m4] (fun _ => False) w14 w15 ∧ ∀ (m29 : Nat), w15.heap.size ≤ m29 → ∀ (w16 : World), RowKit.Below w.heap.size w w16 → KeptIn [(0, w15.heap.size)] [m29, m13, m4] w15 w16 →
    w16.heap[m29]? = some (Obj.cells #[Value.int IntKind.i64 x9, Value.int IntKind.i64 x10, Value.int IntKind.i64 x11, Value.int IntKind.i64 x12] 50) → RunsTo Tryz.prog
    (Builtin.append_ #[45, 45] 45 #[Value.slice a6 m21 m22, Value.slice (some { block := m29, off := 0 }) 1 1]) w16 fun (v2 : Value) (w17 : World) => ∃ (a7 : Option Addr), ∃ (m31 :
    Nat), ∃ (m32 : Nat), v2 = Value.slice a7 m31 m32 ∧ KeepX true w.heap.size [m29, m13, m4] (fun _ => False) w16 w17 ∧ (-9223372036854775808 ≤ x6 + 1 ∧ x6 + (1 : Int) ≤
    9223372036854775807) ∧ ∀ (w18 : World), RowKit.Below w.heap.size w w18 → Kept [m29, m13, m4] w17 w18 → F1 [Lf.sl a7 m31 m32, Lf.int IntKind.i64 (x6 + 1)] w18 ∧ F2 [Lf.sl a7 m31
    m32, Lf.int IntKind.i64 (x6 + 1)] < F2 [Lf.sl a6 m21 m22, Lf.int IntKind.i64 x6]) ∧ ((↑m1 : Int) ≤ x6 → ∀ (w19 : World), RowKit.Below w.heap.size w w19 → Kept [m13, m4] w11 w19
    → Calls Tryz.prog 12 #[Value.int IntKind.i64 (1 + use.tmod 4), Value.int IntKind.i64 (1 + use.tmod 4)] w19 fun (e6 : Ending) (w20 : World) => ∃ (x13 : Int), ∃ (x14 : Int), e6 =
    Ending.returned (Value.agg #[Value.int IntKind.i64 x13, Value.int IntKind.i64 x14]) ∧ KeepX true w.heap.size [m13, m4] (fun _ => False) w19 w20 ∧ ∀ (w21 : World), RowKit.Below
    w.heap.size w w21 → Kept [m13, m4] w20 w21 → Calls Tryz.prog 14 #[Value.agg #[Value.int IntKind.i64 x13, Value.int IntKind.i64 x14]] w21 fun (e7 : Ending) (w22 : World) => ∃
    (a8 : Option Addr), ∃ (m35 : Nat), ∃ (m36 : Nat), e7 = Ending.returned (Value.slice a8 m35 m36) ∧ KeepX true w.heap.size [m13, m4] (fun _ => False) w21 w22 ∧ ∀ (w23 : World),
    RowKit.Below w.heap.size w w23 → Kept [m13, m4] w22 w23 → Calls Tryz.prog 13 #[Value.agg #[Value.int IntKind.i64 (24 * (1 + goes.tmod 30) * (1 + use.tmod 4)), Value.slice a8
    m35 m36], Value.int IntKind.i64 (24 * (1 + goes.tmod 30) * (1 + use.tmod 4)), Value.slice a6 m21 m22, Value.int IntKind.i64 1921] w23 fun (e8 : Ending) (w24 : World) => ∃ (x15
    : Int), ∃ (x16 : Int), ∃ (x17 : Int), e8 = Ending.returned (Value.tuple #[Value.agg #[Value.int IntKind.i64 x15, Value.int IntKind.i64 x16], Value.int IntKind.i64 x17]) ∧ KeepX
    true w.heap.size [m13, m4] (fun _ => False) w23 w24 ∧ ∀ (m39 : Nat), w24.heap.size ≤ m39 → ∃ (F3 : List Lf → World → Prop), ((x5 ≠ 0 → ∀ (w26 : World), RowKit.Below w.heap.size
    w w26 → Kept [m13, m4, m39] w24 w26 → F3 [Lf.bool true] w26) ∧ (x5 = 0 → (x17 ≠ 0 → ∀ (w27 : World), RowKit.Below w.heap.size w w27 → Kept [m13, m4, m39] w24 w27 → F3 [Lf.bool
    true] w27) ∧ (x17 = 0 → ∀ (w28 : World), RowKit.Below w.heap.size w w28 → Kept [m13, m4, m39] w24 w28 → w28.heap[m39]? = some (Obj.cells #[Value.int IntKind.i64 x15, Value.int
    IntKind.i64 x16] 47) → w28.heap[m39]? = some (Obj.cells #[Value.int IntKind.i64 x15, Value.int IntKind.i64 x16] 47) → F3 [Lf.bool (x15 != x16)] w28))) ∧ ∀ (t1 : Bool) (w29 :
    World), RowKit.Below w.heap.size w w29 → F3 [Lf.bool t1] w29 → (t1 = true → ∀ (w30 : World), RowKit.Below w.heap.size w w30 → Kept [m13, m4, m39] w29 w30 → R (Ending.returned
    (Value.bool false)) w30) ∧ (t1 = false → (x3 < 0 → ∃ (F4 : List Lf → World → Prop), ((x15 = 1921 → (x4 = 0 → ∀ (w32 : World), RowKit.Below w.heap.size w w32 → Kept [m13, m4,
    m39] w29 w32 → Calls Tryz.prog 15 #[] w32 fun (e9 : Ending) (w33 : World) => ∃ (t2 : Bool), e9 = Ending.returned (Value.bool t2) ∧ KeepX true w.heap.size [m13, m4, m39] (fun _
    => False) w32 w33 ∧ (t2 = true → ∀ (w34 : World), RowKit.Below w.heap.size w w34 → Kept [m13, m4, m39] w33 w34 → Calls Tryz.prog 10 #[] w34 fun (e10 : Ending) (w35 : World) =>
    ∃ (t3 : Bool), e10 = Ending.returned (Value.bool t3) ∧ KeepX true w.heap.size [m13, m4, m39] (fun _ => False) w34 w35 ∧ ∀ (w36 : World), RowKit.Below w.heap.size w w36 → Kept
    [m13, m4, m39] w35 w36 → w36.heap[m39]? = some (Obj.cells #[Value.int IntKind.i64 x15, Value.int IntKind.i64 x16] 47) → F4 [Lf.bool t3] w36) ∧ (t2 = false → ∀ (w37 : World),
    RowKit.Below w.heap.size w w37 → Kept [m13, m4, m39] w33 w37 → w37.heap[m39]? = some (Obj.cells #[Value.int IntKind.i64 x15, Value.int IntKind.i64 x16] 47) → F4 [Lf.bool false]
    w37)) ∧ (x4 ≠ 0 → ∀ (w38 : World), RowKit.Below w.heap.size w w38 → Kept [m13, m4, m39] w29 w38 → w38.heap[m39]? = some (Obj.cells #[Value.int IntKind.i64 x15, Value.int
    IntKind.i64 x16] 47) → F4 [Lf.bool false] w38)) ∧ (x15 ≠ 1921 → ∀ (w39 : World), RowKit.Below w.heap.size w w39 → Kept [m13, m4, m39] w29 w39 → w39.heap[m39]? = some (Obj.cells
    #[Value.int IntKind.i64 x15, Value.int IntKind.i64 x16] 47) → F4 [Lf.bool false] w39)) ∧ ∀ (t4 : Bool) (w40 : World), RowKit.Below w.heap.size w w40 → F4 [Lf.bool t4] w40 → ∀
    (w41 : World), RowKit.Below w.heap.size w w41 → Kept [m13, m4, m39] w40 w41 → R (Ending.returned (Value.bool t4)) w41) ∧ (0 ≤ x3 → ∃ (F5 : List Lf → World → Prop), ((x3 = 0 →
    ((-9223372036854775808 : Int) ≤ 24 * x4 ∧ 24 * x4 ≤ 9223372036854775807) ∧ (x15 = 24 * x4 → ∀ (w43 : World), RowKit.Below w.heap.size w w43 → Kept [m13, m4, m39] w29 w43 →
    Calls Tryz.prog 15 #[] w43 fun (e11 : Ending) (w44 : World) => ∃ (t5 : Bool), e11 = Ending.returned (Value.bool t5) ∧ KeepX true w.heap.size [m13, m4, m39] (fun _ => False) w43
    w44 ∧ (t5 = true → ∀ (w45 : World), RowKit.Below w.heap.size w w45 → Kept [m13, m4, m39] w44 w45 → Calls Tryz.prog 10 #[] w45 fun (e12 : Ending) (w46 : World) => ∃ (t6 : Bool),
    e12 = Ending.returned (Value.bool t6) ∧ KeepX true w.heap.size [m13, m4, m39] (fun _ => False) w45 w46 ∧ ∀ (w47 : World), RowKit.Below w.heap.size w w47 → Kept [m13, m4, m39]
    w46 w47 → w47.heap[m39]? = some (Obj.cells #[Value.int IntKind.i64 x15, Value.int IntKind.i64 x16] 47) → F5 [Lf.bool t6] w47) ∧ (t5 = false → ∀ (w48 : World), RowKit.Below
    w.heap.size w w48 → Kept [m13, m4, m39] w44 w48 → w48.heap[m39]? = some (Obj.cells #[Value.int IntKind.i64 x15, Value.int IntKind.i64 x16] 47) → F5 [Lf.bool false] w48)) ∧ (x15
    ≠ 24 * x4 → ∀ (w49 : World), RowKit.Below w.heap.size w w49 → Kept [m13, m4, m39] w29 w49 → w49.heap[m39]? = some (Obj.cells #[Value.int IntKind.i64 x15, Value.int IntKind.i64
    x16] 47) → F5 [Lf.bool false] w49)) ∧ (x3 ≠ 0 → ∀ (w50 : World), RowKit.Below w.heap.size w w50 → Kept [m13, m4, m39] w29 w50 → F5 [Lf.bool false] w50)) ∧ ∀ (t7 : Bool) (w51 :
    World), RowKit.Below w.heap.size w w51 → F5 [Lf.bool t7] w51 → ∀ (w52 : World), RowKit.Below w.heap.size w w52 → Kept [m13, m4, m39] w51 w52 → R (Ending.returned (Value.bool
    t7)) w52)))) : Calls Tryz.prog 4 #[Value.int IntKind.u8 goes, Value.int IntKind.u8 use, Value.slice p2bya p2byn p2byc] w R := calls_of_vcj (pure := true) (wrapAt := []) (muts
    := []) (esc := []) (joins := [(2000011, [(94, 4)]), (2000014, [(6, 4)]), (2000015, [(6, 4)])]) (args := [SV.pv (PV.one (Lf.int IntKind.u8 goes)), SV.pv (PV.one (Lf.int
    IntKind.u8 use)), SV.pv (PV.one (Lf.sl p2bya p2byn p2byc))]) (vs := [Value.int IntKind.u8 goes, Value.int IntKind.u8 use, Value.slice p2bya p2byn p2byc]) Tryz.func4 rfl rfl rfl
    (Eq.mp (by kernel_rfl) h) 
end Go.Proofs
end
section
/- Days and hours: the law, walked. -/
namespace Go.Proofs.RT
open Go.Vc Go.RowKit Go.Proofs Go.Lib
theorem stopsF_shape (g till : Int) : ∀ (ds : List Int) (c : Int), ∃ c', stopsF g till c ds = finF till c' := fun ds => by
  induction ds with
  | nil => exact fun c => ⟨c, rfl⟩
  | cons d ds ih =>
    intro c
    rw [stopsF_cons]
    split
    · exact ⟨c, rfl⟩
    · split
      · exact ⟨c, rfl⟩
      · exact ih _
section
variable {w : World}
theorem app_none28 {m b c : Nat} {R : Value → World → Prop} (h : R (.slice (some ⟨m, 0, none⟩) 0 0) w) : RunsTo Tryz.prog (Builtin.append_ #[28, 28] 28 #[.slice (some ⟨m, 0, none⟩) 0 0, .slice (some ⟨b, 0, none⟩) 0 c]) w R := by
  obtain ⟨ht, i, z, hi, hz, hs, hby, hzs⟩ := elemB_spec (P := Tryz.prog) (t := 28) (e := 34) (size := 2) (bytes := 32) (by kernel_rfl)
  refine ⟨_, w, ?_, h⟩
  simp [Builtin.append_, run_underlying ht, sizeOf, typeInfo, hi, Builtin.lenOf, Builtin.firstCells, storeCells, loadCells, loadCellsFrom]
/-- A copy of the days. -/
theorem copyDays {B : Nat} {own : List Nat} {ds : List Dy} {a : Option Addr} {c m : Nat} {W : World} (D : DaysR B own ds a ds.length c W) (hn : ds.length ≤ 1000) {R : Value → World → Prop}
    (hR : ∀ a' c' W', Below W.heap.size W W' → DaysIn ds a' W' → (∀ b o, a' = some ⟨b, o, none⟩ → ds = [] ∨ W.heap.size ≤ b) → R (.slice a' ds.length c') W') :
    RunsTo Tryz.prog (Builtin.append_ #[28, 28] 28 #[.slice (some ⟨m, 0, none⟩) 0 0, .slice a ds.length c]) W R := by
  by_cases h0 : ds = []
  · subst h0
    rcases D.row with ⟨_, ⟨b0, rfl⟩, rfl⟩ | ⟨h, _⟩
    · refine app_none28 (hR _ _ _ (.refl _ _) ⟨fun i v hv => by simp at hv, by simp⟩ fun _ _ _ => .inl rfl)
    · exact absurd rfl h
  · have R0 := D.isRow h0
    obtain ⟨b, o, rfl, _⟩ := R0.cells 0 _ (by
      show (ds.flatMap dayC)[0]? = some ((ds.flatMap dayC)[0]'(by
        have := R0.len
        have h1 : 0 < ds.length := List.length_pos_iff.2 h0
        rw [this]; omega))
      exact getElem_of_lt _)
    have hpos : 0 < ds.length := List.length_pos_iff.2 h0
    refine append_rowE (P := Tryz.prog) (e := 34) (size := 2) (B := W.heap.size) (ns := []) (xs := []) (bytes := 32) (by kernel_rfl) (by omega) RowE.lit (m := ds.length) R0.cells (by rw [R0.len]) (fun u hu => by
      obtain ⟨d, _, hd⟩ := List.mem_flatMap.1 hu
      simp only [dayC, List.mem_cons, List.not_mem_nil, or_false] at hd
      rcases hd with rfl | rfl <;> rfl) (by omega) (by omega) (Nat.le_refl _) (by simp) hpos fun a' c' W' R' S C' hS => ?_
    rw [Nat.zero_add, List.nil_append] at *
    have hb : Below W.heap.size W W' := ⟨C'.os, C'.tape, C'.output, C'.size, fun k hk => C'.keep k hk fun hm => by have := (hS k hm).1; omega⟩
    refine hR _ _ _ hb ⟨R'.cells, fun d hd => ?_⟩ fun b o e => .inr (R'.lt b o e).1
    exact (D.days.t d hd).keep hb
set_option maxRecDepth 100000 in
set_option maxHeartbeats 4000000 in
theorem TopRoundDrop_any {g u : Int} {by' : List Int} {ba : Option Addr} {bc : Nat} (hb : Cells w ba (u8s by')) (hr : ∀ g ∈ by', 0 ≤ g ∧ g ≤ 255) (hlen : (by'.length : Int) ≤ 9223372036854775807) (hg : 0 ≤ g ∧ g ≤ 255) (hu : 0 ≤ u ∧ u ≤ 255) :
    Calls Tryz.prog 4 #[.int .u8 g, .int .u8 u, .slice ba by'.length bc] w (Pure w (.bool true)) := by
  have hg30 : g.tmod 30 = g % 30 := Int.tmod_eq_emod_of_nonneg hg.1
  have hu4 : u.tmod 4 = u % 4 := Int.tmod_eq_emod_of_nonneg hu.1
  refine vc4 _ _ _ _ _ w _ ?_
  obtain ⟨n, hn⟩ : ∃ n, n = 1 + g.tmod 30 := ⟨_, rfl⟩
  obtain ⟨e, he⟩ : ∃ e, e = 1 + u.tmod 4 := ⟨_, rfl⟩
  obtain ⟨line, hline⟩ : ∃ l, l = 24 * n * e := ⟨_, rfl⟩
  have hnb : 1 ≤ n ∧ n ≤ 30 := by omega
  have heb : 1 ≤ e ∧ e ≤ 4 := by omega
  have hlb : 1 ≤ line ∧ line ≤ 2880 := by
    rw [hline]
    have h1 : 24 * 1 * e ≤ 24 * n * e := Int.mul_le_mul_of_nonneg_right (by omega) (by omega)
    have h2 : 24 * n * e ≤ 24 * 30 * e := Int.mul_le_mul_of_nonneg_right (by omega) (by omega)
    omega
  rw [← hn, ← he, ← hline]
  refine ⟨by omega, by omega, by omega, by omega, by omega, by omega, by omega, by omega, fun w1 hb1 _ => ?_⟩
  refine (pubWound_any (hb.keep hb1) hr hlen).mono fun en w2 hen => ?_
  obtain ⟨ds, a1, c1, rfl, hb2, D2, G⟩ := hen
  have hdn := G.n
  have s1 := hb1.size; have s2 := hb2.size
  refine ⟨_, _, _, rfl, .all hb2, fun m4 g4 w3 hb3 hk3 hc3 => ?_⟩
  have s3 := hk3.size
  have o3 := hk3.own m4 (by simp)
  refine (pubGoing_one (g := n) (Cells.obj (vs := [I n]) hc3)).mono fun en w4 hen => ?_
  obtain ⟨ra, rc, wa, wc, va, vc, S, rfl, hb4, hR4⟩ := hen
  have s4 := hb4.size
  refine ⟨_, _, _, _, _, _, _, _, _, _, _, rfl, .all hb4, fun m13 g13 w5 hb5 hk5 hc5 => ?_⟩
  have s5 := hk5.size
  have o5 := hk5.own m13 (by simp)
  have D5 : DaysR w1.heap.size [m13, m4] ds a1 ds.length c1 w5 := D2.same (fun b hu => by
    have h := (D2.lt hu).1
    rw [hk5.block b (by omega) (by simp; omega), hb4.block b (by omega), hk3.block b (by omega) (by simp; omega)]) fun b hu => by have := (D2.lt hu).1; simp; omega
  refine copyDays D5 (by omega) fun a5 c5 w6 hb6 I6 ha5 => ?_
  have s6 := hb6.size
  refine ⟨_, _, _, rfl, .all hb6, fun w7 hb7 hk7 => ?_⟩
  have s7 := hk7.size
  have D7 : DaysR w1.heap.size [m13, m4] ds a1 ds.length c1 w7 := D5.same (fun b hu => by
    have h := D5.lt hu
    rw [hk7.block b (by omega) h.2, hb6.block b h.1]) fun b hu => (D5.lt hu).2
  have I7 : DaysIn ds a5 w7 := by
    refine ⟨fun i v hv => ?_, fun d hd => ?_⟩
    · obtain ⟨b, o, e, hc⟩ := I6.d i v hv
      refine ⟨b, o, e, (Chg.kept hk7).cell ?_ hc⟩
      rcases ha5 b o e with h | h
      · subst h; simp at hv
      · simp; omega
    · obtain ⟨b, e, h1, h2⟩ := D7.t d hd
      rw [e]; exact Cells.obj (vs := [I 0]) h2
  have hR7 : RuIn (oneR n) ra wa va S w7 := hR4 w7 fun k h1 h2 => by
    rw [hk7.block k (by omega) (by simp; omega), hb6.block k (by omega), hk5.block k h2 (by simp; omega)]
  obtain ⟨L, hL⟩ : ∃ L, L = ds.map (·.1) := ⟨_, rfl⟩
  have hLl : L.length = ds.length := by rw [hL, List.length_map]
  have hLp : L.Pairwise (· < ·) := by rw [hL]; exact G.p
  have hLb : ∀ D ∈ L, 1 ≤ D ∧ D ≤ 80 := by rw [hL]; exact G.b
  refine Pure.calls (Stops_one (t := Tg n) hR7 (oneR_ok (by omega)) I7 (daysOk_of hL.symm (hLp.imp fun {x y} h => by omega) (fun x hx => by have := hLb x hx; omega) (by omega)) (by omega) rfl) fun w8 hd8 => ⟨_, _, _, rfl, .all hd8, fun m19 g19 => ?_⟩
  have s8 := hd8.size
  show ∃ F1 : List Lf → World → Prop, _
  rw [← hL]
  generalize hRR : stopsF n 80 n L = R
  have mv : ∀ {W : World} {b : Nat}, usedD a1 ds b → LowK w8.heap.size [m13, m4] w8 W → W.heap[b]? = w7.heap[b]? := fun {W b} hu hk => by
    have h := D7.lt hu
    rw [hk b (by omega) h.2, hd8.block b h.1]
  have DW : ∀ {W : World}, LowK w8.heap.size [m13, m4] w8 W → DaysR w1.heap.size [m13, m4] ds a1 ds.length c1 W := fun hk => D7.same (fun b hu => mv hu hk) fun b hu => (D7.lt hu).2
  refine ⟨fun ls W => match ls with | [.sl a6 n6 c6, .int _ x] => (0 ≤ x ∧ x ≤ ds.length) ∧ n6 = x.toNat ∧ RowE 50 4 w8.heap.size [m13, m4] a6 n6 c6 (((L.take x.toNat).map (visV line)).flatMap vsC) W ∧ LowK w8.heap.size [m13, m4] w8 W ∧ w8.heap.size ≤ W.heap.size | _ => False, fun ls => match ls with | [_, .int _ x] => ((ds.length : Int) - x).toNat | _ => 0,
    fun w10 hb10 hk10 _ => ⟨by omega, rfl, .inl ⟨⟨m19, rfl⟩, rfl, rfl, rfl⟩, fun b h1 h2 => hk10.block b h1 (by simp at h2 ⊢; omega), hk10.size⟩, ?_⟩
  rintro a6 n6 c6 x w11 hb11 ⟨hx, rfl, R11, K11, z11⟩
  have s11 := hb11.size
  have D11 := DW K11
  refine ⟨fun hlt => ?_, fun hge w19 hb19 hk19 => ?_⟩
  · have hi : x.toNat < ds.length := by omega
    obtain ⟨b, o, ha, hb0, hv⟩ := flat_at (k := 2) (f := dayC) (fun _ => rfl) (by omega) D11.days.d hi
    have hD : ds[x.toNat].1 = L[x.toNat]'(by omega) := by simp [hL]
    have hDb := hLb _ (List.getElem_mem (show x.toNat < L.length by omega))
    have hc0 := hv 0 _ rfl
    rw [hD] at hc0
    generalize hDD : L[x.toNat]'(by omega) = D at hc0 hDb
    have hu : usedD a1 ds b := .inl ⟨by intro h; rw [h] at hi; simp at hi, o, ha⟩
    have hav := (D11.lt hu).2
    have hav' : b ≠ m13 ∧ b ≠ m4 := by simp at hav; omega
    refine ⟨b, o, ha, by omega, D, cell_at' hc0 (by omega), .inr hav', by omega, b, o, ha, by omega, D, cell_at' hc0 (by omega), .inr hav', by omega, fun w12 hb12 hk12 => ?_⟩
    refine Pure.calls (pubSpan_any _ _ w12) fun w13 hd13 => ⟨_, _, rfl, .all hd13, fun w14 hb14 hk14 => ?_⟩
    refine Pure.calls (pubSpan_any _ _ w14) fun w15 hd15 => ⟨_, _, rfl, .all hd15, fun m29 g29 w16 hb16 hk16 hc16 => ?_⟩
    have k12 := hk12.size; have k13 := hd13.size; have k14 := hk14.size; have k15 := hd15.size; have k16 := hk16.size
    have C16 : Chg [m13, m4] w11 w16 := ((((Chg.refl [m13, m4] w11).kin hk12 (Nat.le_refl _) (by simp)).bel hd13).kin hk14 (by omega) (by simp)).bel hd15 |>.kin hk16 (by omega) (by simp; omega)
    have R16 := (R11.grow (ms := [m29]) (by simp; omega)).chg C16 (by simp)
    refine append_rowE (P := Tryz.prog) (bytes := 32) (by kernel_rfl) (by omega) R16 (m := 1) (news := [_, _, _, _]) (Cells.obj (vs := [_, _, _, _]) hc16) rfl (by simp; trivial) (by omega) (by omega) (by omega) (fun y hy => hk16.own y (by simpa using hy)) (by omega) fun a17 c17 w17 R17 T C17 hT => ?_
    have k17 := C17.size
    refine ⟨_, _, _, rfl, C17.own (fun y hy => ⟨hk16.own y hy, fun h => (hT y h).2 (by simpa using hy)⟩) (by simp) (fun _ => ⟨hb16.size, fun s hs => by have := (hT s hs).1; have := hb1.size; omega⟩), by omega, fun w18 hb18 hk18 => ⟨⟨by omega, by omega, ?_, ?_, by have := hk18.size; omega⟩, ?_⟩⟩
    · rw [show (x + 1).toNat = x.toNat + 1 by omega, List.take_add_one, getElem_of_lt (show x.toNat < L.length by omega), hDD]
      simp only [Option.toList, List.map_append, List.flatMap_append]
      exact (RowE.chg (.inr R17) (Chg.kept hk18) (by simp)).less (by simp)
    · intro b h1 h2
      have h2' : b ≠ m13 ∧ b ≠ m4 := by simp at h2; omega
      rw [hk18.block b (by omega) (by simp; omega), C17.keep b (by omega) (fun hm => by have := (hT b hm).1; omega), C16.keep b (by omega) (by simp; omega)]
      exact K11 b h1 h2
    · show ((ds.length : Int) - (x + 1)).toNat < ((ds.length : Int) - x).toNat
      omega
  have ex : x.toNat = ds.length := by omega
  rw [ex, show L.take ds.length = L from List.take_of_length_le (by omega)] at R11
  rw [ex]
  refine Pure.calls (pubSpan_any e e w19) fun w20 hd20 => ⟨_, _, rfl, .all hd20, fun w21 hb21 hk21 => ?_⟩
  refine (pubHours_any (e, e)).mono fun en w22 hen => ?_
  obtain ⟨a8, c8, rfl, hb22, R22⟩ := hen
  refine ⟨_, _, _, rfl, .all hb22, fun w23 hb23 hk23 => ?_⟩
  have k19 := hk19.size; have k20 := hd20.size; have k21 := hk21.size; have k22 := hb22.size; have k23 := hk23.size
  have hH : Cells w23 a8 (spansV (List.replicate 24 (e, e))) := (R22.of fun b o ha => hk23.block b (R22.lt b o ha).2 (by have := (R22.lt b o ha).1; have := hk19.own m13 (by simp); have := hk19.own m4 (by simp); simp; omega)).cells
  have C23 : Chg [m13, m4] w11 w23 := (((((Chg.refl [m13, m4] w11).kpt hk19 (by simp)).bel hd20).kpt hk21 (by simp)).bel hb22).kpt hk23 (by simp)
  have hV : Cells w23 a6 ((L.map (visV line)).flatMap vsC) := (R11.chg C23 (by simp)).cells
  have hstop := StopsD (hc := c8) (vc := c6) hH hV hnb.1 (by omega) hline (by omega) (by omega) hLb hLp
  rw [hLl, hRR] at hstop
  refine Pure.calls hstop fun w24 hd24 => ⟨_, _, _, rfl, .all hd24, fun m39 g39 => ?_⟩
  obtain ⟨c', hcs⟩ := stopsF_shape n 80 L n
  rw [hRR] at hcs
  refine ⟨fun ls _ => match ls with | [.bool t] => t = false | _ => False, ⟨fun h => absurd rfl h, fun _ => ⟨fun h => absurd rfl h, fun _ w28 hb28 _ _ _ => by show (_ != _) = false; simp⟩⟩, ?_⟩
  rintro t1 w29 hb29 rfl
  refine ⟨fun h => (nomatch h), fun _ => ⟨fun hneg => ⟨fun ls _ => match ls with | [.bool t] => t = true | _ => False, ⟨fun h21 => ⟨fun h0 w32 hb32 _ => ?_, fun h0 => ?_⟩, fun h21 => ?_⟩, ?_⟩, fun hpos => ⟨fun ls _ => match ls with | [.bool t] => t = true | _ => False, ⟨fun h0 => ⟨?_, fun h21 w43 hb43 _ => ?_, fun h21 => ?_⟩, fun h0 => ?_⟩, ?_⟩⟩⟩
  · refine Pure.calls pubDrop_any fun w33 hd33 => ⟨_, rfl, .all hd33, fun _ w34 hb34 _ => ?_, fun h => (nomatch h)⟩
    exact Pure.calls pubRound_any fun w35 hd35 => ⟨_, rfl, .all hd35, fun _ _ _ _ => rfl⟩
  · rcases fin_or c' with ⟨_, e1⟩ | ⟨_, e1⟩
    · rw [hcs, e1] at h0; exact absurd rfl h0
    · rw [hcs, e1] at hneg; simp at hneg
  · rcases fin_or c' with ⟨_, e1⟩ | ⟨_, e1⟩
    · rw [hcs, e1] at h21; exact absurd rfl h21
    · rw [hcs, e1] at hneg; simp at hneg
  · rintro t4 w40 hb40 rfl w41 hb41 _
    exact ⟨rfl, hb41⟩
  · rcases fin_or c' with ⟨_, e1⟩ | ⟨h1, e1⟩
    · rw [hcs, e1] at h0; simp at h0
    · have := stopsF_80 (n := n) L n (by rw [hRR]; exact h0)
      rw [hRR] at this
      have h2 : R.2 = c' := by rw [hcs, e1]
      have h3 := (DropAt.start hnb.1 fun D hD => (hLb D hD).1 : DropAt n L (stopsF n 80 n L) 0 0 n).le hLp (by rw [hRR]; exact h0)
      rw [hRR] at h3
      omega
  · refine Pure.calls pubDrop_any fun w33 hd33 => ⟨_, rfl, .all hd33, fun _ w34 hb34 _ => ?_, fun h => (nomatch h)⟩
    exact Pure.calls pubRound_any fun w35 hd35 => ⟨_, rfl, .all hd35, fun _ _ _ _ => rfl⟩
  · unfold stopHour at h21
    rw [if_pos h0] at h21
    exact absurd rfl h21
  · rcases fin_or c' with ⟨_, e1⟩ | ⟨_, e1⟩
    · rw [hcs, e1] at hpos; simp at hpos
    · rw [hcs, e1] at h0; exact absurd rfl h0
  · rintro t7 w51 hb51 rfl w52 hb52 _
    exact ⟨rfl, hb52⟩
end
end Go.Proofs.RT
end
section
/- The laws' arguments, opened: bytes. -/
namespace Go.Proofs.RT
open Go.Vc Go.RowKit Go.Proofs
theorem leaves_u8 : leaves Tryz.prog 5 5 = some [.int .u8] := by kernel_rfl
theorem agg_u8 : isAggB Tryz.prog 5 = false := by kernel_rfl
section
variable {w : World} {H : Type} {enc : TypeId × Value → H} {base b0 : Nat} {held : Bool} {spare : Nat → Bool} {reach : Reach}
set_option maxRecDepth 100000 in
theorem open_u8 {v : Value} {d : DataW H} {ps : List MemPlace} (hv : Value.okWide Tryz.prog w reach b0 5 v) (hd : DataW.Trod enc Tryz.prog w base spare held 5 v d ps) : ∃ x, v = .int .u8 x ∧ (0 ≤ x ∧ x ≤ 255) := by
  obtain ⟨x, rfl, hx⟩ := (Go.Vc.open_one agg_u8 leaves_u8 hv hd).int'
  exact ⟨x, rfl, by simpa [rng, IntKind.min, IntKind.max] using hx⟩
end
end Go.Proofs.RT
end
