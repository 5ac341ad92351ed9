/- Part 6: own lemmas, and the conditions of the functions. -/
import Derived.Test.YtjljemboankbeaaProg
import Derived.Test.YtjljemboankbeaaRows
import Derived.Laws.MakeOwn
import Derived.Test.YtjljemboankbeaaP05
section
/- Short shafts. -/
namespace Go.Proofs.R12
open Go.Vc Go.RowKit Go.Proofs

def fitsX (f : Fit) (H S : List Int) (s h : Int) : Prop := isF f (H.getD h.toNat 0) (S.getD s.toNat 0)
instance (f : Fit) (H S : List Int) (s h : Int) : Decidable (fitsX f H S s h) := by unfold fitsX; exact inferInstance
/-- Shafts without a hole, or with one that fits a short shaft. -/
inductive Short (f : Fit) (H S : List Int) (ps : List (Int × Int)) : Int → Prop
  | free {s : Int} : 0 ≤ s → s < S.length → ps.lookup s = none → Short f H S ps s
  | next {s h s' : Int} : Short f H S ps s → 0 ≤ h → h < H.length → fitsX f H S s h → (s', h) ∈ ps → Short f H S ps s'
def FitS (f : Fit) (H S : List Int) (ps : List (Int × Int)) (h : Int) : Prop := (0 ≤ h ∧ h < H.length) ∧ ∃ s, Short f H S ps s ∧ fitsX f H S s h
structure PsOk (ps : List (Int × Int)) (n m : Nat) : Prop where
  nf : (ps.map (·.1)).Nodup
  ns : (ps.map (·.2)).Nodup
  r : ∀ p ∈ ps, (0 ≤ p.1 ∧ p.1 < n) ∧ (0 ≤ p.2 ∧ p.2 < m)
theorem look_mem {V : Type} {k : Int} {v : V} : ∀ {m : List (Int × V)}, m.lookup k = some v → (k, v) ∈ m
  | (a, b) :: r, h => by
    simp only [List.lookup] at h
    cases e : k == a <;> rw [e] at h
    · exact List.mem_cons_of_mem _ (look_mem h)
    · obtain rfl := Option.some.inj h
      have : k = a := by simpa using e
      subst this; exact List.mem_cons_self
theorem look_mem_none {V : Type} {k : Int} : ∀ {m : List (Int × V)}, m.lookup k = none → ∀ p ∈ m, p.1 ≠ k
  | (a, b) :: r, h, p, hp => by
    simp only [List.lookup] at h
    cases e : k == a <;> rw [e] at h
    · rcases List.mem_cons.1 hp with rfl | hp
      · simpa using fun x => (by simpa using e : ¬ k = a) x.symm
      · exact look_mem_none h p hp
    · cases h
theorem setV_look {Z : List Int} {x : Int} : (setV Z).lookup x = if x ∈ Z then some (.bool true) else none := by
  induction Z with
  | nil => rfl
  | cons a r ih =>
    simp only [setV, List.map_cons, List.lookup] at ih ⊢
    by_cases h : x = a
    · subst h; simp
    · have : (x == a) = false := by simpa using h
      rw [this]; simp only [ih, List.mem_cons, h, false_or]
section
variable {f : Fit} {H S : List Int} {ps : List (Int × Int)}
theorem Short.in (hp : PsOk ps S.length H.length) {s : Int} (h : Short f H S ps s) : 0 ≤ s ∧ s < S.length := by
  cases h with
  | free h1 h2 _ => exact ⟨h1, h2⟩
  | next _ _ _ _ h => exact (hp.r _ h).1
structure SInv (f : Fit) (H S : List Int) (ps : List (Int × Int)) (T A Z : List Int) : Prop where
  s : ∀ x ∈ A ++ T, Short f H S ps x
  z : ∀ h ∈ Z, FitS f H S ps h
  nd : (A ++ T).Nodup
  zn : Z.Nodup
  fr : ∀ s : Int, 0 ≤ s → s < S.length → ps.lookup s = none → s ∈ A ++ T
  tk : ∀ p ∈ ps, p.2 ∈ Z → p.1 ∈ A ++ T
  nt : ∀ p ∈ ps, p.1 ∈ A ++ T → p.2 ∈ Z
def Closed1 (f : Fit) (H S : List Int) (Z : List Int) (k : Int) (s : Int) : Prop := ∀ h : Int, 0 ≤ h → h < k → fitsX f H S s h → h ∈ Z
theorem SInv.start (_ : PsOk ps S.length H.length) : SInv f H S ps ((idxs S.length).filter fun s => (ps.lookup s).isNone) [] [] where
  s := fun x hx => by
    simp only [List.nil_append, List.mem_filter, Option.isNone_iff_eq_none] at hx
    exact .free (idxs_mem hx.1).1 (idxs_mem hx.1).2 hx.2
  z := fun h hh => by simp at hh
  nd := (idxs_nodup _).sublist List.filter_sublist
  zn := List.nodup_nil
  fr := fun s h1 h2 h3 => by
    simp only [List.nil_append, List.mem_filter, Option.isNone_iff_eq_none]
    refine ⟨?_, h3⟩
    unfold idxs
    exact List.mem_map.2 ⟨s.toNat, List.mem_range.2 (by omega), by simp; omega⟩
  tk := fun p _ h => by simp at h
  nt := fun p hp h => by
    simp only [List.nil_append, List.mem_filter, Option.isNone_iff_eq_none] at h
    exact absurd rfl (look_mem_none h.2 p hp)
theorem SInv.move {T A Z : List Int} {s : Int} (h : SInv f H S ps (s :: T) A Z) : SInv f H S ps T (A ++ [s]) Z := by
  have e : A ++ [s] ++ T = A ++ s :: T := by simp
  exact ⟨by rw [e]; exact h.s, h.z, by rw [e]; exact h.nd, h.zn, by rw [e]; exact h.fr, by rw [e]; exact h.tk, by rw [e]; exact h.nt⟩
/-- A hole that fits, without a shaft. -/
theorem SInv.hole {T A Z : List Int} {s h : Int} (I : SInv f H S ps T A Z) (hs : s ∈ A) (h0 : 0 ≤ h ∧ h < H.length) (hf : fitsX f H S s h) (hz : h ∉ Z) (hn : ∀ p ∈ ps, p.2 ≠ h) : SInv f H S ps T A (Z ++ [h]) where
  s := I.s
  z := fun x hx => by
    rcases List.mem_append.1 hx with hx | hx
    · exact I.z x hx
    · simp only [List.mem_singleton] at hx; subst hx
      exact ⟨h0, s, I.s s (List.mem_append_left _ hs), hf⟩
  nd := I.nd
  zn := List.nodup_append.2 ⟨I.zn, by simp, fun a ha b hb e' => by simp only [List.mem_singleton] at hb; subst hb; subst e'; exact hz ha⟩
  fr := I.fr
  tk := fun p hp hx => by
    rcases List.mem_append.1 hx with hx | hx
    · exact I.tk p hp hx
    · simp only [List.mem_singleton] at hx; exact absurd hx (hn p hp)
  nt := fun p hp hx => List.mem_append_left _ (I.nt p hp hx)
/-- With one. -/
theorem SInv.taken (hp : PsOk ps S.length H.length) {T A Z : List Int} {s h s' : Int} (I : SInv f H S ps T A Z) (hs : s ∈ A) (h0 : 0 ≤ h ∧ h < H.length) (hf : fitsX f H S s h) (hz : h ∉ Z) (hn : (s', h) ∈ ps) : SInv f H S ps (T ++ [s']) A (Z ++ [h]) := by
  have hno : s' ∉ A ++ T := fun hm => hz (I.nt _ hn hm)
  have e : A ++ (T ++ [s']) = A ++ T ++ [s'] := by simp
  have huniq : ∀ p ∈ ps, p.2 = h → p.1 = s' := fun p hp' he => by
    obtain ⟨i, hi, rfl⟩ := List.getElem_of_mem hp'
    obtain ⟨j, hj, he'⟩ := List.getElem_of_mem hn
    have := (List.getElem_inj (i := i) (j := j) (h₀ := by simpa using hi) (h₁ := by simpa using hj) hp.ns).1 (by simp only [List.getElem_map]; rw [he, he'])
    subst this
    rw [he']
  have huniq2 : ∀ p ∈ ps, p.1 = s' → p.2 = h := fun p hp' he => by
    obtain ⟨i, hi, rfl⟩ := List.getElem_of_mem hp'
    obtain ⟨j, hj, he'⟩ := List.getElem_of_mem hn
    have := (List.getElem_inj (i := i) (j := j) (h₀ := by simpa using hi) (h₁ := by simpa using hj) hp.nf).1 (by simp only [List.getElem_map]; rw [he, he'])
    subst this
    rw [he']
  refine ⟨fun x hx => ?_, fun x hx => ?_, ?_, ?_, fun x a b c => ?_, fun p hp' hx => ?_, fun p hp' hx => ?_⟩
  · rw [e] at hx
    rcases List.mem_append.1 hx with hx | hx
    · exact I.s x hx
    · simp only [List.mem_singleton] at hx; subst hx
      exact .next (I.s s (List.mem_append_left _ hs)) h0.1 h0.2 hf hn
  · rcases List.mem_append.1 hx with hx | hx
    · exact I.z x hx
    · simp only [List.mem_singleton] at hx; subst hx
      exact ⟨h0, s, I.s s (List.mem_append_left _ hs), hf⟩
  · rw [e]
    exact List.nodup_append.2 ⟨I.nd, by simp, fun a ha b hb e' => by simp only [List.mem_singleton] at hb; subst hb; subst e'; exact hno ha⟩
  · exact List.nodup_append.2 ⟨I.zn, by simp, fun a ha b hb e' => by simp only [List.mem_singleton] at hb; subst hb; subst e'; exact hz ha⟩
  · rw [e]; exact List.mem_append_left _ (I.fr x a b c)
  · rw [e]
    rcases List.mem_append.1 hx with hx | hx
    · exact List.mem_append_left _ (I.tk p hp' hx)
    · simp only [List.mem_singleton] at hx
      exact List.mem_append_right _ (by simp [huniq p hp' hx])
  · rw [e] at hx
    rcases List.mem_append.1 hx with hx | hx
    · exact List.mem_append_left _ (I.nt p hp' hx)
    · simp only [List.mem_singleton] at hx
      exact List.mem_append_right _ (by simp [huniq2 p hp' hx])
theorem SInv.done {A Z : List Int} (I : SInv f H S ps [] A Z) (hc : ∀ a ∈ A, Closed1 f H S Z H.length a) : (∀ s, s ∈ A ↔ Short f H S ps s) ∧ ∀ h, h ∈ Z ↔ FitS f H S ps h := by
  have key : ∀ s, Short f H S ps s → s ∈ A := fun s hs => by
    induction hs with
    | free h1 h2 h3 => simpa using I.fr _ h1 h2 h3
    | next _ h1 h2 h3 h4 ih => simpa using I.tk _ h4 (hc _ ih _ h1 h2 h3)
  refine ⟨fun s => ⟨fun h => I.s s (by simpa using h), key s⟩, fun h => ⟨I.z h, fun ⟨⟨h1, h2⟩, s, h3, h4⟩ => hc s (key s h3) h h1 h2 h4⟩⟩
theorem SInv.len (hp : PsOk ps S.length H.length) {T A Z : List Int} (I : SInv f H S ps T A Z) : (A ++ T).length ≤ S.length ∧ Z.length ≤ H.length := by
  have hin : ∀ {n : Nat} {x : Int}, 0 ≤ x → x < n → x ∈ idxs n := fun {n x} h1 h2 => by
    unfold idxs
    exact List.mem_map.2 ⟨x.toNat, List.mem_range.2 (by omega), by simp; omega⟩
  have l : ∀ n, (idxs n).length = n := fun n => by simp [idxs]
  have a := nodup_len I.nd (k := idxs S.length) fun x hx => hin ((I.s x hx).in hp).1 ((I.s x hx).in hp).2
  have b := nodup_len I.zn (k := idxs H.length) fun x hx => hin (I.z x hx).1.1 (I.z x hx).1.2
  rw [l] at a b
  exact ⟨a, b⟩
end

theorem taken_some {ps : List (Int × Int)} {h : Int} {v : Value} (hl : (takenV ps).lookup h = some v) : ∃ s', v = I s' ∧ (s', h) ∈ ps := by
  obtain ⟨p, hp, he⟩ := List.mem_map.1 (look_mem hl)
  simp only [Prod.mk.injEq] at he
  obtain ⟨rfl, rfl⟩ := he
  exact ⟨p.1, rfl, hp⟩
theorem taken_none {ps : List (Int × Int)} {h : Int} (hl : (takenV ps).lookup h = none) : ∀ p ∈ ps, p.2 ≠ h := fun p hp =>
  look_mem_none hl (p.2, I p.1) (List.mem_map.2 ⟨p, hp, rfl⟩)
theorem below_of_chg {w w' : World} {S : List Nat} {B : Nat} (c : Chg S w w') (hB : B ≤ w.heap.size) (hs : ∀ x ∈ S, B ≤ x) : Below B w w' := ⟨c.os, c.tape, c.output, c.size, fun k hk => c.keep k (by omega) fun h => by have := hs k h; omega⟩
theorem setV_add (Z : List Int) (x : Int) : setV Z ++ [(x, .bool true)] = setV (Z ++ [x]) := by simp [setV]

set_option maxRecDepth 100000 in
set_option maxHeartbeats 2000000 in
theorem short_l {w : World} {bb : Nat} {f : Fit} {H S : List Int} {aH : Option Addr} {cH : Nat} {aS : Option Addr} {cS : Nat} {mg mt : Nat} {ps : List (Int × Int)} (B : BoxIs w bb f H S aH cH aS cS mg mt ps) (hp : PsOk ps S.length H.length) (zH : okSz H) (zS : okSz S) (lH : H.length ≤ 1000) (lS : S.length ≤ 1000) :
    Calls Try.prog 64 #[.pointer (some ⟨bb, 0, none⟩)] w fun e w' => Below w.heap.size w w' ∧ ∃ ma mz A Z, e = .returned (.tuple #[.map (some ma), .map (some mz)]) ∧ (w.heap.size ≤ ma ∧ w.heap.size ≤ mz) ∧ MapC w' ma I (setV A) ∧ MapC w' mz I (setV Z) ∧ (A.Nodup ∧ A.length ≤ S.length) ∧ (Z.Nodup ∧ Z.length ≤ H.length) ∧ (∀ s, s ∈ A ↔ Short f H S ps s) ∧ ∀ h, h ∈ Z ↔ FitS f H S ps h := by
  have BX : ∀ {w' : World}, Below w.heap.size w w' → BoxIs w' bb f H S aH cH aS cS mg mt ps := fun h => B.chg (Chg.of_below h)
  have bH : ∀ i : Nat, 0 ≤ H.getD i 0 ∧ H.getD i 0 ≤ 1000000 := fun i => by
    rw [List.getD_eq_getElem?_getD]
    cases h : H[i]? with
    | none => simp
    | some v => exact zH v (List.mem_of_getElem? h)
  have bS : ∀ i : Nat, 0 ≤ S.getD i 0 ∧ S.getD i 0 ≤ 1000000 := fun i => by
    rw [List.getD_eq_getElem?_getD]
    cases h : S[i]? with
    | none => simp
    | some v => exact zS v (List.mem_of_getElem? h)
  refine vc64 _ _ w _ fun w1 hb1 hk1 => mkMap (K := Int) (enc := I) fun w2 hd2 ma2 => ⟨_, rfl, .all hd2, fun w3 hb3 hk3 => mkMap (K := Int) (enc := I) fun w4 hd4 mz4 => ⟨_, rfl, .all hd4, ?_⟩⟩
  have z1 := hb1.size
  have z2 := hd2.size
  have z3 := hk3.size
  have z4 := hd4.size
  have la2 := ma2.lt
  have lz4 := mz4.lt
  have hb4 : Below w.heap.size w w4 := hb3.trans (hd4.mono hb3.size)
  have ma4 : MapC w4 w1.heap.size I [] := (ma2.chg (Chg.kept hk3) (by simp)).below hd4
  have hma := z1
  have hmz : w.heap.size ≤ w3.heap.size := by omega
  generalize w1.heap.size = ma at *
  generalize w3.heap.size = mz at *
  have hne : ma ≠ mz := by omega
  refine ⟨_, _, _, cell_at' ((BX hb4).at (i := 7) rfl) (by omega), ?_⟩
  refine ⟨fun n ls w' => match ls with | [.sl a k c, .int _ ii] => (0 ≤ ii ∧ n + ii = S.length) ∧ QRow 3 w4.heap.size [] a k c (ints ((idxs ii.toNat).filter fun s => (ps.lookup s).isNone)) w' ∧ MapC w' ma I [] ∧ MapC w' mz I [] ∧ w4.heap.size ≤ w'.heap.size | _ => False, fun w6 hb6 hk6 => ⟨S.length, ⟨by omega, by omega⟩, QRow.nil, ma4.chg (Chg.kept hk6) (by simp), mz4.chg (Chg.kept hk6) (by simp), hk6.size⟩, ?_⟩
  rintro n a2 k2 c2 x1 w7 hb7 ⟨⟨x0, hn⟩, Q7, A7, Z7, y7⟩
  have hlen : ((idxs x1.toNat).filter fun s => (ps.lookup s).isNone).length ≤ x1.toNat := Nat.le_trans (List.length_filter_le _ _) (by simp [idxs])
  have k7 := Q7.len.1
  simp only [ints, List.length_map] at k7
  refine ⟨fun hlt => ?_, fun hge => ?_⟩
  · refine ⟨mg, cell_at' ((BX hb7).at (i := 8) rfl) (by omega), fun w8 hb8 hk8 => ?_⟩
    refine lookup_ok keyI (P := Try.prog) (mt := 129) (vt := 3) (by kernel_rfl) (BX hb8).g x1 (z := I 0) (by kernel_rfl) ?_
    rw [gets_look]
    have y8 := hk8.size
    refine ⟨((ps.lookup x1).getD 0), (ps.lookup x1).isSome, by cases ps.lookup x1 <;> rfl, .all (.refl _ _), fun ht m10 g10 w10 hb10 hk10 hc10 => ?_, fun ht => ⟨⟨by omega, by omega⟩, fun w13 hb13 hk13 => ⟨n - 1, by omega, ⟨by omega, by omega⟩, ?_, (A7.chg (Chg.kept hk8) (by simp)).chg (Chg.kept hk13) (by simp), (Z7.chg (Chg.kept hk8) (by simp)).chg (Chg.kept hk13) (by simp), by have := hk13.size; omega⟩⟩⟩
    · have y10 := hk10.size
      have Q10 := ((Q7.chg (Chg.kept hk8) (by simp)).grow (ms := [m10]) (allc g10 all0)).chg (Chg.kept hk10) (fun x hx => .inl (by simpa using hx))
      refine append_q (P := Try.prog) (bytes := 8) (by kernel_rfl) Q10 (Cells.obj (vs := [I x1]) hc10) trivial rfl (by omega) (by omega) (by omega) (by simpa using hk10.own) fun a3 c3 w11 Q11 S11 cS11 hS11 => ?_
      have y11 := cS11.size
      refine ⟨_, _, _, rfl, cS11.own (fun x hx => ⟨hk10.own x hx, fun h => (hS11 x h).2 (by simpa using hx)⟩) (by simp) (fun _ => ⟨hb10.size, fun x hx => by have := (hS11 x hx).1; omega⟩), ⟨by omega, by omega⟩, fun w12 hb12 hk12 => ⟨n - 1, by omega, ⟨by omega, by omega⟩, ?_, ?_, ?_, by have := hk12.size; omega⟩⟩
      · have e1 : (idxs (x1 + 1).toNat).filter (fun s => (ps.lookup s).isNone) = (idxs x1.toNat).filter (fun s => (ps.lookup s).isNone) ++ [x1] := by
          rw [show (x1 + 1).toNat = x1.toNat + 1 by omega, idxs_succ, List.filter_append, Int.toNat_of_nonneg x0]
          congr 1
          cases h : ps.lookup x1 with
          | none => simp [h]
          | some v => rw [h] at ht; cases ht
        rw [e1, ints_append]
        exact (Q11.chg (Chg.kept hk12) (fun x hx => .inl (by simpa using hx))).less (by simp)
      · refine (((A7.chg (Chg.kept hk8) (by simp)).chg (Chg.kept hk10) (by simp; omega)).chg cS11 (fun h => by have := (hS11 _ h).1; omega)).chg (Chg.kept hk12) (by simp; omega)
      · refine (((Z7.chg (Chg.kept hk8) (by simp)).chg (Chg.kept hk10) (by simp; omega)).chg cS11 (fun h => by have := (hS11 _ h).1; omega)).chg (Chg.kept hk12) (by simp; omega)
    · have e1 : (idxs (x1 + 1).toNat).filter (fun s => (ps.lookup s).isNone) = (idxs x1.toNat).filter (fun s => (ps.lookup s).isNone) := by
        rw [show (x1 + 1).toNat = x1.toNat + 1 by omega, idxs_succ, List.filter_append, Int.toNat_of_nonneg x0]
        cases h : ps.lookup x1 with
        | none => rw [h] at ht; cases ht
        | some v => simp [h]
      rw [e1]
      exact (Q7.chg (Chg.kept hk8) (by simp)).chg (Chg.kept hk13) (by simp)
  have e7 : x1.toNat = S.length := by omega
  rw [e7] at Q7
  refine ⟨fun n ls w' => match ls with | [.sl a k c] => ∃ T A Z, n + A.length = S.length ∧ SInv f H S ps T A Z ∧ (∀ a ∈ A, Closed1 f H S Z H.length a) ∧ QRow 3 w4.heap.size [] a k c (ints T) w' ∧ MapC w' ma I (setV A) ∧ MapC w' mz I (setV Z) ∧ w4.heap.size ≤ w'.heap.size | _ => False, fun w15 hb15 hk15 => ⟨S.length, _, [], [], rfl, SInv.start hp, by simp, Q7.chg (Chg.kept hk15) (by simp), A7.chg (Chg.kept hk15) (by simp), Z7.chg (Chg.kept hk15) (by simp), by have := hk15.size; omega⟩, ?_⟩
  rintro n4 a4 k4 c4 w16 hb16 ⟨T, A, Z, hn4, I16, C16, Q16, A16, Z16, y16⟩
  have k16 := Q16.len
  simp only [ints, List.length_map] at k16
  refine ⟨fun hpos => ?_, fun h0 w40 hb40 hk40 => ?_⟩
  rotate_left
  · have : T = [] := List.length_eq_zero_iff.1 (by omega)
    subst this
    have hl := I16.len hp
    simp only [List.append_nil] at hl
    have hd := I16.done C16
    have hnd := I16.nd
    rw [List.append_nil] at hnd
    exact ⟨hb40, ma, mz, A, Z, rfl, ⟨hma, hmz⟩, A16.chg (Chg.kept hk40) (by simp), Z16.chg (Chg.kept hk40) (by simp), ⟨hnd, hl.1⟩, ⟨I16.zn, hl.2⟩, hd.1, hd.2⟩
  obtain ⟨s, T', rfl⟩ : ∃ s T', T = s :: T' := by
    cases T with
    | nil => simp at k16; omega
    | cons s T' => exact ⟨s, T', rfl⟩
  have hs := (I16.s s (by simp)).in hp
  have hsA : s ∉ A := fun hm => by
    have := List.nodup_append.1 I16.nd
    exact this.2.2 s hm s List.mem_cons_self rfl
  refine load_n Q16.cells k16.1 ⟨by omega, hpos⟩ fun m26 m27 => ?_
  rw [show (s :: T').getD (Int.toNat 0) 0 = s from rfl]
  refine ⟨⟨by omega, by omega⟩, fun w17 hb17 hk17 => ?_⟩
  have y17 := hk17.size
  refine update_new keyI (P := Try.prog) (mt := 87) (vt := 4) (by kernel_rfl) (A16.chg (Chg.kept hk17) (by simp)) s (.bool true) (by rw [setV_look, if_neg hsA]) fun w18 A18 c18 => ?_
  rw [setV_add] at A18
  have z17 := hb17.size
  have d18 := below_of_chg (B := w.heap.size) c18 z17 (by simp; omega)
  have hb18 := hb17.trans d18
  refine ⟨c18.own (by simp) (by simp) (fun _ => ⟨z17, by simp; omega⟩), _, _, _, cell_at' ((BX hb18).at (i := 6) rfl) (by omega), ?_⟩
  have hl16 := (I16.move).len hp
  simp only [List.length_append, List.length_singleton] at hl16
  refine ⟨fun n ls w' => match ls with | [.sl a k c, .int _ ii] => ∃ T Z, (0 ≤ ii ∧ n + ii = H.length) ∧ SInv f H S ps T (A ++ [s]) Z ∧ (∀ a ∈ A, Closed1 f H S Z H.length a) ∧ Closed1 f H S Z ii s ∧ QRow 3 w4.heap.size [] a k c (ints T) w' ∧ MapC w' ma I (setV (A ++ [s])) ∧ MapC w' mz I (setV Z) ∧ w4.heap.size ≤ w'.heap.size | _ => False, fun w20 hb20 hk20 => ?_, ?_⟩
  · have Q18 := ((Q16.chg (Chg.kept hk17) (by simp)).chg c18 (fun x hx => .inr (by simp only [List.mem_singleton] at hx; omega))).chg (Chg.kept hk20) (by simp)
    exact ⟨H.length, T', Z, ⟨by omega, by omega⟩, I16.move, C16, fun h h1 h2 => by omega, QRow.pop Q18, A18.chg (Chg.kept hk20) (by simp), ((Z16.chg (Chg.kept hk17) (by simp)).chg c18 (by simp; omega)).chg (Chg.kept hk20) (by simp), by have := hk20.size; have := c18.size; omega⟩
  rintro n6 a6 k6 c6 x4 w21 hb21 ⟨T6, Z6, ⟨x40, hn6⟩, I6, C6, D6, Q6, A6, Zm6, y6⟩
  have z21 := hb21.size
  refine ⟨fun hlt => ?_, fun hge w39 hb39 hk39 => ⟨n4 - 1, by omega, T6, A ++ [s], Z6, by simp; omega, I6, fun a ha => ?_, Q6.chg (Chg.kept hk39) (by simp), A6.chg (Chg.kept hk39) (by simp), Zm6.chg (Chg.kept hk39) (by simp), by have := hk39.size; omega⟩⟩
  rotate_left
  · rcases List.mem_append.1 ha with ha | ha
    · exact C6 a ha
    · simp only [List.mem_singleton] at ha
      subst ha
      exact fun h h1 h2 => D6 h h1 (by omega)
  refine load_n (BX hb21).h rfl ⟨x40, hlt⟩ fun m36 m37 => ?_
  refine ⟨fun ls w' => match ls with | [.bool t] => (t = true ↔ x4 ∈ Z6 ∨ ¬ fitsX f H S s x4) ∧ Chg [] w21 w' | _ => False, fun w23 hb23 hk23 => ?_, ?_⟩
  · have g23 := chg_of_in hk23
    refine lookup_plain keyI (P := Try.prog) (mt := 87) (vt := 4) (by kernel_rfl) (Zm6.chg g23 (by simp)) x4 (z := .bool false) (by kernel_rfl) ?_
    rw [setV_look]
    refine ⟨decide (x4 ∈ Z6), by by_cases h : x4 ∈ Z6 <;> simp [h], .all (.refl _ _), fun h w25 hb25 hk25 => ⟨?_, g23.trans (Chg.kept hk25)⟩, fun h => ?_⟩
    · simp [of_decide_eq_true h]
    · have hz := of_decide_eq_false h
      have B24 := BX hb23
      refine ⟨_, _, _, _, _, _, cell_at' (B24.at (i := 0) rfl) (by omega), cell_at' (B24.at (i := 1) rfl) (by omega), cell_at' (B24.at (i := 2) rfl) (by omega), cell_at' (B24.at (i := 3) rfl) (by omega), cell_at' (B24.at (i := 4) rfl) (by omega), cell_at' (B24.at (i := 5) rfl) (by omega), ?_⟩
      refine ⟨_, _, _, cell_at' (B24.at (i := 7) rfl) (by omega), ?_⟩
      refine load_n B24.s rfl hs fun m41 m42 => ?_
      intro w26 hb26 hk26
      have q1 := bH x4.toNat
      have q2 := bS s.toNat
      refine Pure.calls (is_any f _ _ (by omega) (by omega)) fun w27 hd27 => ⟨_, rfl, .all hd27, fun w28 hb28 hk28 => ⟨?_, g23.trans ((chg_of_in hk26).trans ((Chg.of_below hd27).trans (Chg.kept hk28)))⟩⟩
      unfold fitsX
      simp [hz]
  rintro t4 w29 hb29 ⟨ht4, g29⟩
  refine ⟨fun ht => ⟨⟨by omega, by omega⟩, fun w30 hb30 hk30 => ?_⟩, fun ht w31 hb31 hk31 => ?_⟩
  · have g30 := g29.trans (Chg.kept hk30)
    refine ⟨n6 - 1, by omega, T6, Z6, ⟨by omega, by omega⟩, I6, C6, fun h h1 h2 h3 => ?_, Q6.chg g30 (by simp), A6.chg g30 (by simp), Zm6.chg g30 (by simp), by have := g30.size; omega⟩
    by_cases he : h = x4
    · subst he
      exact (ht4.1 ht).resolve_right fun hn => hn h3
    · exact D6 h h1 (by omega) h3
  have hzf : x4 ∉ Z6 ∧ fitsX f H S s x4 := by
    rw [ht] at ht4
    simp only [Bool.false_eq_true, false_iff, not_or, Classical.not_not] at ht4
    exact ht4
  have g31 := g29.trans (Chg.kept hk31)
  have y31 := g31.size
  refine update_new keyI (P := Try.prog) (mt := 87) (vt := 4) (by kernel_rfl) (Zm6.chg g31 (by simp)) x4 (.bool true) (by rw [setV_look, if_neg hzf.1]) fun w32 Z32 c32 => ?_
  rw [setV_add] at Z32
  have z31 := hb31.size
  have hb32 := hb31.trans (below_of_chg (B := w.heap.size) c32 z31 (by simp; omega))
  refine ⟨c32.own (by simp) (by simp) (fun _ => ⟨z31, by simp; omega⟩), mt, cell_at' ((BX hb32).at (i := 9) rfl) (by omega), fun w33 hb33 hk33 => ?_⟩
  refine lookup_ok keyI (P := Try.prog) (mt := 129) (vt := 3) (by kernel_rfl) (BX hb33).t x4 (z := I 0) (by kernel_rfl) ?_
  have Q33 := ((Q6.chg g31 (by simp)).chg c32 (fun x hx => .inr (by simp only [List.mem_singleton] at hx; omega))).chg (Chg.kept hk33) (by simp)
  have A33 := ((A6.chg g31 (by simp)).chg c32 (by simp; omega)).chg (Chg.kept hk33) (by simp)
  have Z33 := Z32.chg (Chg.kept hk33) (by simp)
  have y33 : w4.heap.size ≤ w33.heap.size := by have := c32.size; have := hk33.size; omega
  have hCl : ∀ a ∈ A, Closed1 f H S (Z6 ++ [x4]) H.length a := fun a ha h h1 h2 h3 => List.mem_append_left _ (C6 a ha h h1 h2 h3)
  have hDl : Closed1 f H S (Z6 ++ [x4]) (x4 + 1) s := fun h h1 h2 h3 => by
    by_cases he : h = x4
    · subst he; simp
    · exact List.mem_append_left _ (D6 h h1 (by omega) h3)
  have hmem : s ∈ A ++ [s] := by simp
  cases hl : (takenV ps).lookup x4 with
  | none =>
    refine ⟨0, false, rfl, .all (.refl _ _), fun h => (by cases h), fun _ => ⟨⟨by omega, by omega⟩, fun w38 hb38 hk38 => ?_⟩⟩
    exact ⟨n6 - 1, by omega, T6, Z6 ++ [x4], ⟨by omega, by omega⟩, I6.hole hmem ⟨x40, hlt⟩ hzf.2 hzf.1 (taken_none hl), hCl, hDl, Q33.chg (Chg.kept hk38) (by simp), A33.chg (Chg.kept hk38) (by simp), Z33.chg (Chg.kept hk38) (by simp), by have := hk38.size; omega⟩
  | some v =>
    obtain ⟨s', rfl, hps⟩ := taken_some hl
    refine ⟨s', true, rfl, .all (.refl _ _), fun _ m48 g48 w35 hb35 hk35 hc35 => ?_, fun h => (by cases h)⟩
    have y35 := hk35.size
    have I7 := I6.taken hp hmem ⟨x40, hlt⟩ hzf.2 hzf.1 hps
    have hl7 := (I7.len hp).1
    simp only [List.length_append, List.length_singleton] at hl7
    have k6' := Q6.len.1
    simp only [ints, List.length_map] at k6'
    have Q35 := (Q33.grow (ms := [m48]) (allc g48 all0)).chg (Chg.kept hk35) (fun x hx => .inl (by simpa using hx))
    refine append_q (P := Try.prog) (bytes := 8) (by kernel_rfl) Q35 (Cells.obj (vs := [I s']) hc35) trivial rfl (by omega) (by omega) (by omega) (by simpa using hk35.own) fun a8 c8 w36 Q36 S36 cS36 hS36 => ?_
    have y36 := cS36.size
    refine ⟨_, _, _, rfl, cS36.own (fun x hx => ⟨hk35.own x hx, fun h => (hS36 x h).2 (by simpa using hx)⟩) (by simp) (fun _ => ⟨hb35.size, fun x hx => by have := (hS36 x hx).1; omega⟩), ⟨by omega, by omega⟩, fun w37 hb37 hk37 => ⟨n6 - 1, by omega, T6 ++ [s'], Z6 ++ [x4], ⟨by omega, by omega⟩, I7, hCl, hDl, ?_, ?_, ?_, by have := hk37.size; omega⟩⟩
    · rw [ints_append]
      exact (Q36.chg (Chg.kept hk37) (fun x hx => .inl (by simpa using hx))).less (by simp)
    · exact ((A33.chg (Chg.kept hk35) (by simp; omega)).chg cS36 (fun h => by have := (hS36 _ h).1; omega)).chg (Chg.kept hk37) (by simp; omega)
    · exact ((Z33.chg (Chg.kept hk35) (by simp; omega)).chg cS36 (fun h => by have := (hS36 _ h).1; omega)).chg (Chg.kept hk37) (by simp; omega)
end Go.Proofs.R12
end
section
/- Lack. -/
namespace Go.Proofs.R12
open Go.Vc Go.RowKit Go.Proofs

theorem pairSt_nd {f : Fit} {H S : List Int} : ∀ {n : Nat}, n ≤ S.length → (((pairSt f H S n).2.map (·.1)).Nodup ∧ ((pairSt f H S n).2.map (·.2)).Nodup)
  | 0, _ => by simp [pairSt]
  | n + 1, h => by
    obtain ⟨h1, h2⟩ := pairSt_nd (f := f) (H := H) (S := S) (n := n) (by omega)
    obtain ⟨i1, i2⟩ := pairSt_inv (f := f) (H := H) (S := S) (n := n) (by omega)
    have hl : n < (sortIdx S).length := by rw [sortIdx_len]; omega
    rw [pairSt_succ (by omega)]
    have hd := List.dropWhile_suffix (l := (pairSt f H S n).1) (smallQ f H S ((sortIdx S).getD n 0))
    have hns : ∀ p ∈ (pairSt f H S n).2, p.1 ≠ (sortIdx S).getD n 0 := fun p hp e => by
      have h1 := (i2 p hp).1
      rw [e] at h1
      have hnd : (sortIdx S).Nodup := (sortIdx_perm S).nodup_iff.2 (idxs_nodup _)
      obtain ⟨k, hk, he⟩ := List.getElem_of_mem h1
      simp only [List.length_take] at hk
      rw [List.getElem_take] at he
      simp only [List.getD_eq_getElem?_getD, hl, List.getElem?_eq_getElem, Option.getD_some] at he
      have := (List.getElem_inj hnd).1 he
      omega
    unfold pstep
    split
    · exact ⟨h1, h2⟩
    · rename_i a t e
      have ha : a ∈ (pairSt f H S n).1 := hd.subset (by rw [e]; exact List.mem_cons_self)
      split
      · simp only [List.map_append, List.map_cons, List.map_nil]
        refine ⟨List.nodup_append.2 ⟨h1, by simp, fun x hx y hy e' => ?_⟩, List.nodup_append.2 ⟨h2, by simp, fun x hx y hy e' => ?_⟩⟩
        · obtain ⟨p, hp, rfl⟩ := List.mem_map.1 hx
          simp only [List.mem_singleton] at hy
          exact hns p hp (e'.trans hy)
        · obtain ⟨p, hp, rfl⟩ := List.mem_map.1 hx
          simp only [List.mem_singleton] at hy
          exact (i2 p hp).2.2 (by rw [e', hy]; exact ha)
      · exact ⟨h1, h2⟩
theorem pairK_ok (f : Fit) (H S : List Int) : PsOk (pairK f H S) S.length H.length where
  nf := (pairSt_nd (Nat.le_refl _)).1
  ns := (pairSt_nd (Nat.le_refl _)).2
  r := fun p hp => by
    obtain ⟨h1, h2, _⟩ := (pairSt_inv (f := f) (H := H) (S := S) (Nat.le_refl _)).2 p hp
    exact ⟨sortIdx_mem (List.mem_of_mem_take h1), sortIdx_mem h2⟩
open Classical in
noncomputable def shortL (f : Fit) (H S : List Int) : List Int := (idxs S.length).filter fun s => decide (Short f H S (pairK f H S) s)
open Classical in
noncomputable def fitL (f : Fit) (H S : List Int) : List Int := (idxs H.length).filter fun h => decide (FitS f H S (pairK f H S) h)
theorem idxs_sorted (n : Nat) : (idxs n).Pairwise (· < ·) := by
  unfold idxs
  rw [List.pairwise_map]
  exact List.pairwise_lt_range.imp fun h => by simpa using h
theorem idxs_in {n : Nat} {x : Int} (h1 : 0 ≤ x) (h2 : x < n) : x ∈ idxs n := by
  unfold idxs
  exact List.mem_map.2 ⟨x.toNat, List.mem_range.2 (by omega), by simp; omega⟩
/-- A list that holds just these numbers, sorted. -/
theorem srt_filter {n : Nat} {p : Int → Prop} [DecidablePred p] {A : List Int} (hnd : A.Nodup) (h : ∀ x, x ∈ A ↔ p x) (hp : ∀ x, p x → 0 ≤ x ∧ x < n) : srt A = (idxs n).filter fun x => decide (p x) := by
  refine List.Perm.eq_of_pairwise (le := (· ≤ ·)) (fun a b _ _ h k => by omega) (srt_sorted A) (((idxs_sorted n).sublist List.filter_sublist).imp fun h => by omega) ((srt_perm A).trans ((List.perm_ext_iff_of_nodup hnd ((idxs_nodup n).sublist List.filter_sublist)).2 fun x => ?_))
  simp only [List.mem_filter, decide_eq_true_eq, h]
  exact ⟨fun hx => ⟨idxs_in (hp x hx).1 (hp x hx).2, hx⟩, fun hx => hx.2⟩
noncomputable def lackM (W : Wk) (n : Int) (H S : List Int) : List Int × List Int := if boxE W n H S = 0 then (shortL (fitOf W n) H S, fitL (fitOf W n) H S) else ([], [])

set_option maxRecDepth 100000 in
theorem Lack_l {w : World} {W : Wk} {pa fa : Option Addr} {pc fc : Nat} {n : Int} {H S : List Int} {aH aS : Option Addr} {cH cS : Nat} (hp : CellsS w pa W.pats) (hf : Cells w fa (fitsV W.fits)) (hS : Small W) (hh : Cells w aH (ints H)) (hs : Cells w aS (ints S)) (lH : H.length ≤ 1000) (lS : S.length ≤ 1000)
    (hl : boxE W n H S = 0 → H.length ≤ 200 ∧ S.length ≤ 200) :
    Calls Try.prog 31 #[W.v pa pc fa fc, I n, .slice aH H.length cH, .slice aS S.length cS] w fun e w' => ∃ a c a' c', e = .returned (.tuple #[.slice a (lackM W n H S).1.length c, .slice a' (lackM W n H S).2.length c', I (boxE W n H S)]) ∧ Below w.heap.size w w' ∧ Lies [] w.heap.size w'.heap.size w' a (ints (lackM W n H S).1) ∧ Lies [] w.heap.size w'.heap.size w' a' (ints (lackM W n H S).2) := by
  refine vc31 _ _ _ _ _ _ _ _ _ _ _ _ _ w _ fun m1 g1 w1 hb1 hk1 => ?_
  refine (newBox_l (hp.keep hb1) (hf.keep hb1) hS (hh.keep hb1) (hs.keep hb1) lH lS (n := n)).mono fun e1 w2 he => ?_
  obtain ⟨a, rfl, hb2, hE, hO⟩ := he
  refine ⟨_, _, rfl, .all hb2, fun h1 w3 hb3 _ => ?_, fun h1 w4 hb4 hk4 => ?_⟩
  · have : lackM W n H S = ([], []) := if_neg h1
    rw [this]
    exact ⟨none, 0, none, 0, rfl, hb3, fun i v hi => by simp [ints] at hi, fun i v hi => by simp [ints] at hi⟩
  obtain ⟨mb, mg, mt, rfl, ⟨q1, q2, q3⟩, BX⟩ := hO h1
  obtain ⟨_, hn, _, zH, zS⟩ := boxE_ok h1
  obtain ⟨l1, l2⟩ := hl h1
  have hM : lackM W n H S = (shortL (fitOf W n) H S, fitL (fitOf W n) H S) := if_pos h1
  have o1 := hk1.own m1 (by simp)
  have c4 := Chg.kept hk4
  have nm : ∀ x, w1.heap.size ≤ x → x ∉ [m1] := fun x hx => by simp only [List.mem_singleton]; omega
  have BX4 : BoxIs w4 mb (fitOf W n) H S aH cH aS cS mg mt [] := ⟨cells_ne BX.cells c4 (nm _ q1), hh.keep hb4, hs.keep hb4, BX.g.chg c4 (nm _ q2), BX.t.chg c4 (nm _ q3), BX.ne⟩
  refine (pair_l BX4 zH zS l1 l2).mono fun e2 w5 he => ?_
  obtain ⟨rfl, c5, BX5⟩ := he
  have z1 := hb1.size
  have z2 := hb2.size
  have z4 := hb4.size
  have z5 := c5.size
  have z24 := hk4.size
  refine ⟨rfl, c5.own (fun x hx => ⟨hk4.own x hx, fun h => ?_⟩) (by simp) (fun _ => ⟨hb4.size, fun x hx => ?_⟩), fun w6 hb6 hk6 => ?_⟩
  · simp only [List.mem_cons, List.not_mem_nil, or_false] at hx h; omega
  · simp only [List.mem_cons, List.not_mem_nil, or_false] at hx; omega
  have c6 := Chg.kept hk6
  have z6 := hk6.size
  have BX6 : BoxIs w6 mb (fitOf W n) H S aH cH aS cS mg mt (pairK (fitOf W n) H S) := ⟨cells_ne BX5.cells c6 (nm _ q1), hh.keep hb6, hs.keep hb6, BX5.g.chg c6 (nm _ q2), BX5.t.chg c6 (nm _ q3), BX5.ne⟩
  refine (short_l BX6 (pairK_ok _ _ _) zH zS lH lS).mono fun e3 w7 he => ?_
  obtain ⟨hb7, ma, mz, A, Z, rfl, ⟨r1, r2⟩, A7, Z7, ⟨ndA, lA⟩, ⟨ndZ, lZ⟩, hA, hZ⟩ := he
  refine ⟨ma, mz, rfl, .all hb7, fun w8 hb8 hk8 => ?_⟩
  have z7 := hb7.size
  have A8 := A7.chg (Chg.kept hk8) (nm _ (by omega))
  have Z8 := Z7.chg (Chg.kept hk8) (nm _ (by omega))
  refine (sorted_l A8 ndA (by omega)).mono fun e4 w9 he => ?_
  obtain ⟨a4, c4', rfl, hb9, L9⟩ := he
  refine ⟨_, _, _, rfl, .all hb9, fun w10 hb10 hk10 => ?_⟩
  have z8 := hk8.size
  have Z10 := (Z8.below hb9).chg (Chg.kept hk10) (nm _ (by omega))
  have L10 := L9.out (Chg.kept hk10) (fun x hx => by simp only [List.mem_singleton] at hx; omega)
  refine (sorted_l Z10 ndZ (by omega)).mono fun e5 w11 he => ?_
  obtain ⟨a5, c5', rfl, hb11, L11⟩ := he
  refine ⟨_, _, _, rfl, .all hb11, fun w12 hb12 hk12 => ?_⟩
  have z9 := hb9.size
  have z10 := hk10.size
  have z11 := hb11.size
  have z12 := hk12.size
  have L12 := (L10.out (Chg.of_below (S := []) hb11) (by simp)).out (Chg.kept hk12) (fun x hx => by simp only [List.mem_singleton] at hx; omega)
  have L12' := L11.out (Chg.kept hk12) (fun x hx => by simp only [List.mem_singleton] at hx; omega)
  have eA : srt A = shortL (fitOf W n) H S := by
    classical
    unfold shortL
    rw [srt_filter (n := S.length) ndA hA fun x hx => hx.in (pairK_ok _ _ _)]
  have eZ : srt Z = fitL (fitOf W n) H S := by
    classical
    unfold fitL
    rw [srt_filter (n := H.length) ndZ hZ fun x hx => hx.1]
  rw [eA] at L12
  rw [eZ] at L12'
  have nA : A.length = (shortL (fitOf W n) H S).length := by rw [← eA, srt_len]
  have nZ : Z.length = (fitL (fitOf W n) H S).length := by rw [← eZ, srt_len]
  rw [hM, h1, nA, nZ]
  exact ⟨_, _, _, _, rfl, hb12, L12.to (by omega) (by omega), L12'.to (by omega) (by omega)⟩
end Go.Proofs.R12
end
section
/- The conditions of the functions, printed by program; each is what the generator reckons (kernel_rfl). -/
namespace Go.Proofs
open Go.Vc
set_option maxRecDepth 100000 in
set_option maxHeartbeats 2000000 in
theorem vc68 (p0w0a : Option Addr) (p0w0n : Nat) (p0w0c : Nat) (p0w1a : Option Addr) (p0w1n : Nat) (p0w1c : Nat) (x0 : Int) (x1a : Option Addr) (x1n : Nat) (x1c : Nat) (clock :
    Nat) (w : World) (R : Ending → World → Prop) (h : ∀ (m1 : Nat), w.heap.size ≤ m1 → ∀ (m2 : Nat), w.heap.size ≤ m2 → ∀ (m3 : Nat), w.heap.size ≤ m3 → ∀ (m4 : Nat), w.heap.size ≤
    m4 → ∀ (w1 : World), RowKit.Below w.heap.size w w1 → Kept [m4, m3, m2, m1] w w1 → Calls Try.prog 86 #[Value.agg #[Value.slice p0w0a p0w0n p0w0c, Value.slice p0w1a p0w1n p0w1c],
    Value.int IntKind.i64 x0] w1 fun (e1 : Ending) (w2 : World) => ∃ (v1 : Value), e1 = Ending.returned v1 ∧ KeepX true w.heap.size [m4, m3, m2, m1] (fun _ => False) w1 w2 ∧ ∃ (y1
    : List Value), v1 = Value.func (Fn.func 95) #[] y1.toArray ∧ ∃ (m6 : Nat), ∃ (F1 : Nat → List Value → World → Prop), ∃ (F3 : (Nat → Prop) → List Lf → Nat → World → Prop), ∃ (F4
    : World → Prop), IterY Try.prog 95 [] y1 m6 F1 F4 ∧ (∀ (w6 : World), RowKit.Below w.heap.size w w6 → Kept [m4, m3, m2, m1] w2 w6 → w6.heap[m4]? = some (Obj.cells #[Value.bool
    false] 4) → F3 (fun _ => False) [Lf.bool false] 0 w6) ∧ ∀ (t1 : Bool) (m12 : Nat) (F5 F6 : Nat → Prop) (w7 w8 : World), F3 F5 [Lf.bool t1] m12 w7 → CalmFrom w.heap.size w7 w8 →
    (∀ (m15 : Nat), F5 m15 → F6 m15) → (∀ (m16 : Nat), F6 m16 → F5 m16 ∨ w7.heap.size ≤ m16) → (∀ (m17 : Nat), F6 m17 → w.heap.size ≤ m17 ∧ m17 < w8.heap.size) → RowKit.Below
    w.heap.size w w8 → F4 w8 ∧ (∀ (y5 : List Value), m12 < m6 → F1 m12 y5 w8 → ∃ (x1 : Int), ∃ (v2 : Value), y5 = [Value.int IntKind.i64 x1, v2] ∧ ∀ (m18 : Nat) (w9 w10 : World),
    RowKit.Below w.heap.size w w10 → Kept [m4, m3, m2, m1] w8 w10 → ∀ (w11 : World), CalmFrom w.heap.size w10 w11 → ∀ (w12 w13 : World), RowKit.Below w.heap.size w w13 → Kept [m4,
    m3, m2, m1] w11 w13 → RunsTo Try.prog (Instr.lookup 138 (Value.map (some clock)) (Value.int IntKind.i64 x1) true) w13 fun (v3 : Value) (w14 : World) => ∃ (x2 : Int), ∃ (a1 :
    Option Addr), ∃ (m19 : Nat), ∃ (m20 : Nat), ∃ (t2 : Bool), v3 = Value.tuple #[Value.agg #[Value.int IntKind.i64 x2, Value.slice a1 m19 m20], Value.bool t2] ∧ KeepX true
    w.heap.size [m4, m3, m2, m1] F6 w13 w14 ∧ ∀ (m21 : Nat), w14.heap.size ≤ m21 → (t2 = true → ∃ (m22 : Nat), ∃ (y6 : List Value), ∃ (y7 : List Value), v2 = Value.func (Fn.func
    m22) y6.toArray y7.toArray ∧ Callable Try.prog m22 ∧ ∀ (w15 : World), RowKit.Below w.heap.size w w15 → Kept [m21, m4, m3, m2, m1] w14 w15 → Calls Try.prog m22 (y6 ++ [Value.agg
    #[Value.int IntKind.i64 x0, Value.slice x1a x1n x1c], Value.agg #[Value.int IntKind.i64 x2, Value.slice a1 m19 m20]] ++ y7).toArray w15 fun (e2 : Ending) (w16 : World) => ∃ (t3
    : Bool), e2 = Ending.returned (Value.bool t3) ∧ KeepX true w.heap.size [m21, m4, m3, m2, m1] F6 w15 w16 ∧ ((!t3) = true → ∀ (w17 : World), RowKit.Below w.heap.size w w17 → Kept
    [m21, m4, m3, m2, m1] w16 w17 → ∀ (F7 : Nat → Prop) (w18 : World), CalmFrom w.heap.size w17 w18 → (∀ (m24 : Nat), F6 m24 → F7 m24) → ∀ (w19 : World), RowKit.Below w.heap.size w
    w19 → Kept [m21, m4, m3, m2, m1] w18 w19 → ∀ (w20 : World), CalmFrom w.heap.size w19 w20 → R (Ending.returned (Value.bool false)) w20) ∧ ((!t3) = false → ∀ (w21 : World),
    RowKit.Below w.heap.size w w21 → Kept [m21, m4, m3, m2, m1] w16 w21 → F3 F6 [Lf.bool t1] (m12 + 1) w21)) ∧ (t2 = false → ∀ (w22 : World), RowKit.Below w.heap.size w w22 → Kept
    [m21, m4, m3, m2, m1] w14 w22 → F3 F6 [Lf.bool t1] (m12 + 1) w22)) ∧ (m12 = m6 → ∀ (w23 : World), RowKit.Below w.heap.size w w23 → Kept [m4, m3, m2, m1] w8 w23 → ∀ (w24 :
    World), CalmFrom w.heap.size w23 w24 → R (Ending.returned (Value.bool true)) w24)) : Calls Try.prog 68 #[Value.agg #[Value.slice p0w0a p0w0n p0w0c, Value.slice p0w1a p0w1n
    p0w1c], Value.agg #[Value.int IntKind.i64 x0, Value.slice x1a x1n x1c], Value.map (some clock)] w R := calls_of_vcj (pure := true) (wrapAt := []) (muts := [6]) (esc := [])
    (joins := [(6000095, []), (7000028, [])]) (args := [SV.pv (PV.agg [Lf.sl p0w0a p0w0n p0w0c, Lf.sl p0w1a p0w1n p0w1c]), SV.pv (PV.agg [Lf.int IntKind.i64 x0, Lf.sl x1a x1n
    x1c]), SV.pv (PV.one (Lf.map clock))]) (vs := [Value.agg #[Value.slice p0w0a p0w0n p0w0c, Value.slice p0w1a p0w1n p0w1c], Value.agg #[Value.int IntKind.i64 x0, Value.slice x1a
    x1n x1c], Value.map (some clock)]) Try.func68 rfl rfl rfl (Eq.mp (by kernel_rfl) h) 
set_option maxRecDepth 100000 in
set_option maxHeartbeats 2000000 in
theorem vc86 (p0w0a : Option Addr) (p0w0n : Nat) (p0w0c : Nat) (p0w1a : Option Addr) (p0w1n : Nat) (p0w1c : Nat) (pattern : Int) (w : World) (R : Ending → World → Prop) (h : ∀ (m1
    : Nat), w.heap.size ≤ m1 → ∀ (m2 : Nat), w.heap.size ≤ m2 → ∀ (w1 : World), RowKit.Below w.heap.size w w1 → Kept [m2, m1] w w1 → w1.heap[m1]? = some (Obj.cells #[Value.slice
    p0w0a p0w0n p0w0c, Value.slice p0w1a p0w1n p0w1c] 108) → w1.heap[m2]? = some (Obj.cells #[Value.int IntKind.i64 pattern] 3) → R (Ending.returned (Value.func (Fn.func 95) #[]
    #[Value.pointer (some { block := m1, off := 0 }), Value.pointer (some { block := m2, off := 0 })])) w1) : Calls Try.prog 86 #[Value.agg #[Value.slice p0w0a p0w0n p0w0c,
    Value.slice p0w1a p0w1n p0w1c], Value.int IntKind.i64 pattern] w R := calls_of_vc (pure := true) (wrapAt := []) (muts := []) (esc := []) (args := [SV.pv (PV.agg [Lf.sl p0w0a
    p0w0n p0w0c, Lf.sl p0w1a p0w1n p0w1c]), SV.pv (PV.one (Lf.int IntKind.i64 pattern))]) (vs := [Value.agg #[Value.slice p0w0a p0w0n p0w0c, Value.slice p0w1a p0w1n p0w1c],
    Value.int IntKind.i64 pattern]) Try.func86 rfl rfl rfl (Eq.mp (by kernel_rfl) h) 
set_option maxRecDepth 100000 in
set_option maxHeartbeats 2000000 in
theorem vc95 (yield : Value) (cap0b : Nat) (cap1b : Nat) (w : World) (R : Ending → World → Prop) (h : ∃ (a1 : Option Addr), ∃ (m1 : Nat), ∃ (m2 : Nat), w.cell?
    { block := cap0b, off := 0 + 0 + 1 } = some (Value.slice a1 m1 m2) ∧ ∃ (F1 : List Lf → World → Prop), ∃ (F2 : List Lf → Nat), (∀ (w2 : World), Kept [] w w2 → F1 [Lf.int
    IntKind.i64 0] w2) ∧ ∀ (x1 : Int) (w3 : World), F1 [Lf.int IntKind.i64 x1] w3 → (x1 < (↑m1 : Int) → ∃ (m3 : Nat), ∃ (m4 : Nat), a1 = some { block := m3, off := m4 } ∧ (0 ≤ x1 ∧
    x1 < (↑m1 : Int)) ∧ ∃ (x2 : Int), ∃ (x3 : Int), ∃ (x4 : Int), ∃ (x5 : Int), ∃ (x6 : Int), ∃ (x7 : Int), w3.cell? { block := m3, off := m4 + x1.toNat * 6 } = some (Value.int
    IntKind.i64 x2) ∧ w3.cell? { block := m3, off := m4 + x1.toNat * 6 + 1 } = some (Value.int IntKind.i64 x3) ∧ w3.cell? { block := m3, off := m4 + x1.toNat * 6 + 1 + 1 } = some
    (Value.int IntKind.i64 x4) ∧ w3.cell? { block := m3, off := m4 + x1.toNat * 6 + 1 + 1 + 1 } = some (Value.int IntKind.i64 x5) ∧ w3.cell?
    { block := m3, off := m4 + x1.toNat * 6 + 1 + 1 + 1 + 1 } = some (Value.int IntKind.i64 x6) ∧ w3.cell? { block := m3, off := m4 + x1.toNat * 6 + 1 + 1 + 1 + 1 + 1 } = some
    (Value.int IntKind.i64 x7) ∧ ∀ (w4 : World), Kept [] w3 w4 → ∀ (m5 : Nat) (w5 : World), m5 = w4.heap.size → w5 = w4.alloc (Obj.cells #[Value.int IntKind.i64 0, Value.int
    IntKind.i64 0, Value.int IntKind.i64 0, Value.int IntKind.i64 0, Value.int IntKind.i64 0, Value.int IntKind.i64 0] 67) → ∀ (w6 : World), Kept [] w5 w6 → RunsTo Try.prog
    ((Instr.storeAt 67 (Value.pointer (some { block := m5, off := 0 })) (Value.agg #[Value.int IntKind.i64 x2, Value.int IntKind.i64 x3, Value.int IntKind.i64 x4, Value.int
    IntKind.i64 x5, Value.int IntKind.i64 x6, Value.int IntKind.i64 x7])) >>= fun _ => pure (Value.tuple #[])) w6 fun (v1 : Value) (w7 : World) => KeepX false w.heap.size [] (fun _
    => False) w6 w7 ∧ ∃ (x8 : Int), w7.cell? { block := cap1b, off := 0 } = some (Value.int IntKind.i64 x8) ∧ ∃ (x9 : Int), w7.cell? { block := m5, off := 0 + 0 } = some (Value.int
    IntKind.i64 x9) ∧ (x8 = x9 → ∃ (x10 : Int), w7.cell? { block := m5, off := 0 + 2 } = some (Value.int IntKind.i64 x10) ∧ ∀ (w8 : World), Kept [] w7 w8 → ∃ (m7 : Nat), yield =
    Value.func (Fn.yield m7) #[] #[] ∧ YieldAt { fn := fun (m8 : Nat) => True, alive := false } 0 Try.prog m7 #[Value.int IntKind.i64 x10, Value.func (Fn.func 96) #[]
    #[Value.pointer (some { block := m5, off := 0 })]] w8 fun (e1 : Ending) (w9 : World) => ∃ (t1 : Bool), e1 = Ending.returned (Value.bool t1) ∧ KeepX false w.heap.size [] (fun _
    => False) w8 w9 ∧ ((!t1) = true → ∀ (w10 : World), Kept [] w9 w10 → R (Ending.returned (Value.tuple #[])) w10) ∧ ((!t1) = false → (-9223372036854775808 ≤ x1 + 1 ∧ x1 + (1 :
    Int) ≤ 9223372036854775807) ∧ ∀ (w11 : World), Kept [] w9 w11 → F1 [Lf.int IntKind.i64 (x1 + 1)] w11 ∧ F2 [Lf.int IntKind.i64 (x1 + 1)] < F2 [Lf.int IntKind.i64 x1])) ∧ (x8 ≠
    x9 → ∃ (x11 : Int), w7.cell? { block := m5, off := 0 + 2 } = some (Value.int IntKind.i64 x11) ∧ (x8 = x11 → ∃ (x12 : Int), w7.cell? { block := m5, off := 0 + 0 } = some
    (Value.int IntKind.i64 x12) ∧ ∀ (w12 : World), Kept [] w7 w12 → ∃ (m10 : Nat), yield = Value.func (Fn.yield m10) #[] #[] ∧ YieldAt
    { fn := fun (m11 : Nat) => True, alive := false } 0 Try.prog m10 #[Value.int IntKind.i64 x12, Value.func (Fn.func 97) #[] #[Value.pointer (some { block := m5, off := 0 })]] w12
    fun (e2 : Ending) (w13 : World) => ∃ (t2 : Bool), e2 = Ending.returned (Value.bool t2) ∧ KeepX false w.heap.size [] (fun _ => False) w12 w13 ∧ ((!t2) = true → ∀ (w14 : World),
    Kept [] w13 w14 → R (Ending.returned (Value.tuple #[])) w14) ∧ ((!t2) = false → (-9223372036854775808 ≤ x1 + 1 ∧ x1 + (1 : Int) ≤ 9223372036854775807) ∧ ∀ (w15 : World), Kept
    [] w13 w15 → F1 [Lf.int IntKind.i64 (x1 + 1)] w15 ∧ F2 [Lf.int IntKind.i64 (x1 + 1)] < F2 [Lf.int IntKind.i64 x1])) ∧ (x8 ≠ x11 → (-9223372036854775808 ≤ x1 + 1 ∧ x1 + (1 :
    Int) ≤ 9223372036854775807) ∧ ∀ (w16 : World), Kept [] w7 w16 → F1 [Lf.int IntKind.i64 (x1 + 1)] w16 ∧ F2 [Lf.int IntKind.i64 (x1 + 1)] < F2 [Lf.int IntKind.i64 x1]))) ∧ ((↑m1
    : Int) ≤ x1 → ∀ (w17 : World), Kept [] w3 w17 → R (Ending.returned (Value.tuple #[])) w17)) : Calls Try.prog 95 #[yield, Value.pointer (some { block := cap0b, off := 0 }),
    Value.pointer (some { block := cap1b, off := 0 })] w R := calls_of_vc (pure := false) (wrapAt := []) (muts := []) (esc := [5]) (args := [SV.pv (PV.one (Lf.val yield)), SV.pv
    (PV.one (Lf.ptr cap0b 0)), SV.pv (PV.one (Lf.ptr cap1b 0))]) (vs := [yield, Value.pointer (some { block := cap0b, off := 0 }), Value.pointer (some
    { block := cap1b, off := 0 })]) Try.func95 rfl rfl rfl (Eq.mp (by kernel_rfl) h) 
set_option maxRecDepth 100000 in
set_option maxHeartbeats 2000000 in
theorem vc96 (x0 : Int) (x1a : Option Addr) (x1n : Nat) (x1c : Nat) (mate0 : Int) (mate1a : Option Addr) (mate1n : Nat) (mate1c : Nat) (cap0b : Nat) (w : World) (R : Ending → World
    → Prop) (h : ∀ (m1 : Nat), w.heap.size ≤ m1 → ∀ (m2 : Nat), w.heap.size ≤ m2 → ∃ (x1 : Int), ∃ (x2 : Int), ∃ (x3 : Int), ∃ (x4 : Int), ∃ (x5 : Int), ∃ (x6 : Int), w.cell?
    { block := cap0b, off := 0 } = some (Value.int IntKind.i64 x1) ∧ w.cell? { block := cap0b, off := 0 + 1 } = some (Value.int IntKind.i64 x2) ∧ w.cell?
    { block := cap0b, off := 0 + 1 + 1 } = some (Value.int IntKind.i64 x3) ∧ w.cell? { block := cap0b, off := 0 + 1 + 1 + 1 } = some (Value.int IntKind.i64 x4) ∧ w.cell?
    { block := cap0b, off := 0 + 1 + 1 + 1 + 1 } = some (Value.int IntKind.i64 x5) ∧ w.cell? { block := cap0b, off := 0 + 1 + 1 + 1 + 1 + 1 } = some (Value.int IntKind.i64 x6) ∧
    (cap0b < w.heap.size ∨ cap0b ≠ m2 ∧ cap0b ≠ m1) ∧ ∃ (x7 : Int), w.cell? { block := cap0b, off := 0 + 1 } = some (Value.int IntKind.i64 x7) ∧ (cap0b < w.heap.size ∨ cap0b ≠ m2 ∧
    cap0b ≠ m1) ∧ ∃ (m3 : Nat), ∃ (m4 : Nat), x1a = some { block := m3, off := m4 } ∧ (0 ≤ x7 ∧ x7 < (↑x1n : Int)) ∧ ∃ (x8 : Int), w.cell? { block := m3, off := m4 + x7.toNat * 1 }
    = some (Value.int IntKind.i64 x8) ∧ (m3 < w.heap.size ∨ m3 ≠ m2 ∧ m3 ≠ m1) ∧ ∃ (x9 : Int), w.cell? { block := cap0b, off := 0 + 3 } = some (Value.int IntKind.i64 x9) ∧ (cap0b <
    w.heap.size ∨ cap0b ≠ m2 ∧ cap0b ≠ m1) ∧ ∃ (m5 : Nat), ∃ (m6 : Nat), mate1a = some { block := m5, off := m6 } ∧ (0 ≤ x9 ∧ x9 < (↑mate1n : Int)) ∧ ∃ (x10 : Int), w.cell?
    { block := m5, off := m6 + x9.toNat * 1 } = some (Value.int IntKind.i64 x10) ∧ (m5 < w.heap.size ∨ m5 ≠ m2 ∧ m5 ≠ m1) ∧ ∀ (w1 : World), RowKit.Below w.heap.size w w1 → KeptIn
    [(0, w.heap.size)] [m2, m1] w w1 → Calls Try.prog 83 #[Value.agg #[Value.int IntKind.i64 x1, Value.int IntKind.i64 x2, Value.int IntKind.i64 x3, Value.int IntKind.i64 x4,
    Value.int IntKind.i64 x5, Value.int IntKind.i64 x6], Value.int IntKind.i64 x8, Value.int IntKind.i64 x10] w1 fun (e1 : Ending) (w2 : World) => ∃ (t1 : Bool), e1 =
    Ending.returned (Value.bool t1) ∧ KeepX true w.heap.size [m2, m1] (fun _ => False) w1 w2 ∧ ∀ (w3 : World), RowKit.Below w.heap.size w w3 → Kept [m2, m1] w2 w3 → R
    (Ending.returned (Value.bool t1)) w3) : Calls Try.prog 96 #[Value.agg #[Value.int IntKind.i64 x0, Value.slice x1a x1n x1c], Value.agg #[Value.int IntKind.i64 mate0, Value.slice
    mate1a mate1n mate1c], Value.pointer (some { block := cap0b, off := 0 })] w R := calls_of_vc (pure := true) (wrapAt := []) (muts := []) (esc := []) (args := [SV.pv (PV.agg
    [Lf.int IntKind.i64 x0, Lf.sl x1a x1n x1c]), SV.pv (PV.agg [Lf.int IntKind.i64 mate0, Lf.sl mate1a mate1n mate1c]), SV.pv (PV.one (Lf.ptr cap0b 0))]) (vs := [Value.agg
    #[Value.int IntKind.i64 x0, Value.slice x1a x1n x1c], Value.agg #[Value.int IntKind.i64 mate0, Value.slice mate1a mate1n mate1c], Value.pointer (some
    { block := cap0b, off := 0 })]) Try.func96 rfl rfl rfl (Eq.mp (by kernel_rfl) h) 
set_option maxRecDepth 100000 in
set_option maxHeartbeats 2000000 in
theorem vc97 (x0 : Int) (x1a : Option Addr) (x1n : Nat) (x1c : Nat) (mate0 : Int) (mate1a : Option Addr) (mate1n : Nat) (mate1c : Nat) (cap0b : Nat) (w : World) (R : Ending → World
    → Prop) (h : ∀ (m1 : Nat), w.heap.size ≤ m1 → ∀ (m2 : Nat), w.heap.size ≤ m2 → ∃ (x1 : Int), ∃ (x2 : Int), ∃ (x3 : Int), ∃ (x4 : Int), ∃ (x5 : Int), ∃ (x6 : Int), w.cell?
    { block := cap0b, off := 0 } = some (Value.int IntKind.i64 x1) ∧ w.cell? { block := cap0b, off := 0 + 1 } = some (Value.int IntKind.i64 x2) ∧ w.cell?
    { block := cap0b, off := 0 + 1 + 1 } = some (Value.int IntKind.i64 x3) ∧ w.cell? { block := cap0b, off := 0 + 1 + 1 + 1 } = some (Value.int IntKind.i64 x4) ∧ w.cell?
    { block := cap0b, off := 0 + 1 + 1 + 1 + 1 } = some (Value.int IntKind.i64 x5) ∧ w.cell? { block := cap0b, off := 0 + 1 + 1 + 1 + 1 + 1 } = some (Value.int IntKind.i64 x6) ∧
    (cap0b < w.heap.size ∨ cap0b ≠ m2 ∧ cap0b ≠ m1) ∧ ∃ (x7 : Int), w.cell? { block := cap0b, off := 0 + 1 } = some (Value.int IntKind.i64 x7) ∧ (cap0b < w.heap.size ∨ cap0b ≠ m2 ∧
    cap0b ≠ m1) ∧ ∃ (m3 : Nat), ∃ (m4 : Nat), mate1a = some { block := m3, off := m4 } ∧ (0 ≤ x7 ∧ x7 < (↑mate1n : Int)) ∧ ∃ (x8 : Int), w.cell?
    { block := m3, off := m4 + x7.toNat * 1 } = some (Value.int IntKind.i64 x8) ∧ (m3 < w.heap.size ∨ m3 ≠ m2 ∧ m3 ≠ m1) ∧ ∃ (x9 : Int), w.cell? { block := cap0b, off := 0 + 3 } =
    some (Value.int IntKind.i64 x9) ∧ (cap0b < w.heap.size ∨ cap0b ≠ m2 ∧ cap0b ≠ m1) ∧ ∃ (m5 : Nat), ∃ (m6 : Nat), x1a = some { block := m5, off := m6 } ∧ (0 ≤ x9 ∧ x9 < (↑x1n :
    Int)) ∧ ∃ (x10 : Int), w.cell? { block := m5, off := m6 + x9.toNat * 1 } = some (Value.int IntKind.i64 x10) ∧ (m5 < w.heap.size ∨ m5 ≠ m2 ∧ m5 ≠ m1) ∧ ∀ (w1 : World),
    RowKit.Below w.heap.size w w1 → KeptIn [(0, w.heap.size)] [m2, m1] w w1 → Calls Try.prog 83 #[Value.agg #[Value.int IntKind.i64 x1, Value.int IntKind.i64 x2, Value.int
    IntKind.i64 x3, Value.int IntKind.i64 x4, Value.int IntKind.i64 x5, Value.int IntKind.i64 x6], Value.int IntKind.i64 x8, Value.int IntKind.i64 x10] w1 fun (e1 : Ending) (w2 :
    World) => ∃ (t1 : Bool), e1 = Ending.returned (Value.bool t1) ∧ KeepX true w.heap.size [m2, m1] (fun _ => False) w1 w2 ∧ ∀ (w3 : World), RowKit.Below w.heap.size w w3 → Kept
    [m2, m1] w2 w3 → R (Ending.returned (Value.bool t1)) w3) : Calls Try.prog 97 #[Value.agg #[Value.int IntKind.i64 x0, Value.slice x1a x1n x1c], Value.agg #[Value.int IntKind.i64
    mate0, Value.slice mate1a mate1n mate1c], Value.pointer (some { block := cap0b, off := 0 })] w R := calls_of_vc (pure := true) (wrapAt := []) (muts := []) (esc := []) (args :=
    [SV.pv (PV.agg [Lf.int IntKind.i64 x0, Lf.sl x1a x1n x1c]), SV.pv (PV.agg [Lf.int IntKind.i64 mate0, Lf.sl mate1a mate1n mate1c]), SV.pv (PV.one (Lf.ptr cap0b 0))]) (vs :=
    [Value.agg #[Value.int IntKind.i64 x0, Value.slice x1a x1n x1c], Value.agg #[Value.int IntKind.i64 mate0, Value.slice mate1a mate1n mate1c], Value.pointer (some
    { block := cap0b, off := 0 })]) Try.func97 rfl rfl rfl (Eq.mp (by kernel_rfl) h) 
set_option maxRecDepth 100000 in
set_option maxHeartbeats 2000000 in
theorem vc36 (p0w0a : Option Addr) (p0w0n : Nat) (p0w0c : Nat) (p0w1a : Option Addr) (p0w1n : Nat) (p0w1c : Nat) (clocka : Option Addr) (clockn : Nat) (clockc : Nat) (pattern :
    Int) (storea : Option Addr) (storen : Nat) (storec : Nat) (w : World) (R : Ending → World → Prop) (h : ∀ (m1 : Nat), w.heap.size ≤ m1 → ∀ (m2 : Nat), w.heap.size ≤ m2 → ∀ (w1 :
    World), RowKit.Below w.heap.size w w1 → Kept [m2, m1] w w1 → Calls Try.prog 16 #[Value.agg #[Value.slice p0w0a p0w0n p0w0c, Value.slice p0w1a p0w1n p0w1c]] w1 fun (e1 : Ending)
    (w2 : World) => ∃ (x1 : Int), e1 = Ending.returned (Value.int IntKind.i64 x1) ∧ KeepX true w.heap.size [m2, m1] (fun _ => False) w1 w2 ∧ (x1 ≠ 0 → ∀ (w3 : World), RowKit.Below
    w.heap.size w w3 → Kept [m2, m1] w2 w3 → R (Ending.returned (Value.tuple #[Value.slice none 0 0, Value.int IntKind.i64 2])) w3) ∧ (x1 = 0 → (-9223372036854775808 ≤ (↑p0w0n :
    Int) - 1 ∧ (↑p0w0n : Int) - (1 : Int) ≤ 9223372036854775807) ∧ ∀ (m4 : Nat), w2.heap.size ≤ m4 → ∀ (w4 : World), RowKit.Below w.heap.size w w4 → Kept [m4, m2, m1] w2 w4 →
    w4.heap[m4]? = some (Obj.cells #[Value.int IntKind.i64 pattern] 3) → Calls Try.prog 50 #[Value.int IntKind.i64 0, Value.int IntKind.i64 ((↑p0w0n : Int) - 1), Value.slice (some
    { block := m4, off := 0 }) 1 1] w4 fun (e2 : Ending) (w5 : World) => ∃ (t1 : Bool), e2 = Ending.returned (Value.bool t1) ∧ KeepX true w.heap.size [m4, m2, m1] (fun _ => False)
    w4 w5 ∧ ((!t1) = true → ∀ (w6 : World), RowKit.Below w.heap.size w w6 → Kept [m4, m2, m1] w5 w6 → R (Ending.returned (Value.tuple #[Value.slice none 0 0, Value.int IntKind.i64
    7])) w6) ∧ ((!t1) = false → (20 < (↑clockn : Int) → (20 < (↑clockn : Int) → ∀ (w7 : World), RowKit.Below w.heap.size w w7 → Kept [m4, m2, m1] w5 w7 → R (Ending.returned
    (Value.tuple #[Value.slice none 0 0, Value.int IntKind.i64 5])) w7) ∧ ((↑clockn : Int) ≤ 20 → ∀ (w8 : World), RowKit.Below w.heap.size w w8 → Kept [m4, m2, m1] w5 w8 → RunsTo
    Try.prog (Instr.makeMap 138 none) w8 fun (v1 : Value) (w9 : World) => ∃ (m7 : Nat), v1 = Value.map (some m7) ∧ KeepX true w.heap.size [m4, m2, m1] (fun _ => False) w8 w9 ∧ ∃
    (F1 : List Lf → World → Prop), ∃ (F2 : List Lf → Nat), (∀ (w11 : World), RowKit.Below w.heap.size w w11 → Kept [m4, m2, m1] w9 w11 → F1 [Lf.sl none 0 0, Lf.int IntKind.i64 0,
    Lf.int IntKind.i64 0] w11) ∧ ∀ (a1 : Option Addr) (m9 m10 : Nat) (x2 x3 : Int) (w12 : World), RowKit.Below w.heap.size w w12 → F1 [Lf.sl a1 m9 m10, Lf.int IntKind.i64 x2,
    Lf.int IntKind.i64 x3] w12 → (x3 < (↑clockn : Int) → ∃ (m11 : Nat), ∃ (m12 : Nat), clocka = some { block := m11, off := m12 } ∧ (0 ≤ x3 ∧ x3 < (↑clockn : Int)) ∧ ∃ (x4 : Int),
    ∃ (a2 : Option Addr), ∃ (m13 : Nat), ∃ (m14 : Nat), w12.cell? { block := m11, off := m12 + x3.toNat * 2 } = some (Value.int IntKind.i64 x4) ∧ w12.cell?
    { block := m11, off := m12 + x3.toNat * 2 + 1 } = some (Value.slice a2 m13 m14) ∧ (m11 < w.heap.size ∨ m11 ≠ m4 ∧ m11 ≠ m2 ∧ m11 ≠ m1) ∧ ∀ (m15 : Nat), w12.heap.size ≤ m15 → ∀
    (w13 : World), RowKit.Below w.heap.size w w13 → Kept [m4, m15, m2, m1] w12 w13 → Calls Try.prog 58 #[Value.agg #[Value.slice p0w0a p0w0n p0w0c, Value.slice p0w1a p0w1n p0w1c],
    Value.agg #[Value.int IntKind.i64 x4, Value.slice a2 m13 m14]] w13 fun (e3 : Ending) (w14 : World) => ∃ (x5 : Int), e3 = Ending.returned (Value.int IntKind.i64 x5) ∧ KeepX true
    w.heap.size [m4, m15, m2, m1] (fun _ => False) w13 w14 ∧ (x5 ≠ 0 → ∀ (w15 : World), RowKit.Below w.heap.size w w15 → Kept [m4, m15, m2, m1] w14 w15 → R (Ending.returned
    (Value.tuple #[Value.slice none 0 0, Value.int IntKind.i64 x5])) w15) ∧ (x5 = 0 → ∀ (w16 : World), RowKit.Below w.heap.size w w16 → Kept [m4, m15, m2, m1] w14 w16 → RunsTo
    Try.prog (Instr.lookup 138 (Value.map (some m7)) (Value.int IntKind.i64 x4) true) w16 fun (v2 : Value) (w17 : World) => ∃ (x6 : Int), ∃ (a3 : Option Addr), ∃ (m17 : Nat), ∃
    (m18 : Nat), ∃ (t2 : Bool), v2 = Value.tuple #[Value.agg #[Value.int IntKind.i64 x6, Value.slice a3 m17 m18], Value.bool t2] ∧ KeepX true w.heap.size [m4, m15, m2, m1] (fun _
    => False) w16 w17 ∧ ∀ (m20 : Nat), w17.heap.size ≤ m20 → (t2 = true → ∀ (w18 : World), RowKit.Below w.heap.size w w18 → Kept [m4, m20, m15, m2, m1] w17 w18 → R (Ending.returned
    (Value.tuple #[Value.slice none 0 0, Value.int IntKind.i64 6])) w18) ∧ (t2 = false → ∀ (w19 : World), RowKit.Below w.heap.size w w19 → Kept [m4, m20, m15, m2, m1] w17 w19 →
    RunsTo Try.prog ((Instr.mapUpdate 138 (Value.map (some m7)) (Value.int IntKind.i64 x4) (Value.agg #[Value.int IntKind.i64 x4, Value.slice a2 m13 m14])) >>= fun _ => pure
    (Value.tuple #[])) w19 fun (v3 : Value) (w20 : World) => KeepX true w.heap.size [m4, m20, m15, m2, m1] (fun _ => False) w19 w20 ∧ (-9223372036854775808 ≤ x3 + 1 ∧ x3 + (1 :
    Int) ≤ 9223372036854775807) ∧ ∀ (w21 : World), RowKit.Below w.heap.size w w21 → Kept [m4, m20, m15, m2, m1] w20 w21 → F1 [Lf.sl a1 m9 m10, Lf.int IntKind.i64 x2, Lf.int
    IntKind.i64 (x3 + 1)] w21 ∧ F2 [Lf.sl a1 m9 m10, Lf.int IntKind.i64 x2, Lf.int IntKind.i64 (x3 + 1)] < F2 [Lf.sl a1 m9 m10, Lf.int IntKind.i64 x2, Lf.int IntKind.i64 x3]))) ∧
    ((↑clockn : Int) ≤ x3 → ∃ (F3 : List Lf → World → Prop), ∃ (F4 : List Lf → Nat), (∀ (w23 : World), RowKit.Below w.heap.size w w23 → Kept [m4, m2, m1] w12 w23 → F3 [Lf.sl a1 m9
    m10, Lf.int IntKind.i64 x2, Lf.int IntKind.i64 0] w23) ∧ ∀ (a4 : Option Addr) (m22 m23 : Nat) (x7 x8 : Int) (w24 : World), RowKit.Below w.heap.size w w24 → F3 [Lf.sl a4 m22
    m23, Lf.int IntKind.i64 x7, Lf.int IntKind.i64 x8] w24 → (x8 < (↑storen : Int) → ∃ (m24 : Nat), ∃ (m25 : Nat), storea = some { block := m24, off := m25 } ∧ (0 ≤ x8 ∧ x8 <
    (↑storen : Int)) ∧ ∃ (x9 : Int), ∃ (a5 : Option Addr), ∃ (m26 : Nat), ∃ (m27 : Nat), w24.cell? { block := m24, off := m25 + x8.toNat * 2 } = some (Value.int IntKind.i64 x9) ∧
    w24.cell? { block := m24, off := m25 + x8.toNat * 2 + 1 } = some (Value.slice a5 m26 m27) ∧ (m24 < w.heap.size ∨ m24 ≠ m4 ∧ m24 ≠ m2 ∧ m24 ≠ m1) ∧ ∀ (m28 : Nat), w24.heap.size
    ≤ m28 → ∀ (w25 : World), RowKit.Below w.heap.size w w25 → Kept [m4, m28, m2, m1] w24 w25 → Calls Try.prog 58 #[Value.agg #[Value.slice p0w0a p0w0n p0w0c, Value.slice p0w1a
    p0w1n p0w1c], Value.agg #[Value.int IntKind.i64 x9, Value.slice a5 m26 m27]] w25 fun (e4 : Ending) (w26 : World) => ∃ (x10 : Int), e4 = Ending.returned (Value.int IntKind.i64
    x10) ∧ KeepX true w.heap.size [m4, m28, m2, m1] (fun _ => False) w25 w26 ∧ (x10 ≠ 0 → ∀ (w27 : World), RowKit.Below w.heap.size w w27 → Kept [m4, m28, m2, m1] w26 w27 → R
    (Ending.returned (Value.tuple #[Value.slice none 0 0, Value.int IntKind.i64 x10])) w27) ∧ (x10 = 0 → (x9 = pattern → ∀ (w28 : World), RowKit.Below w.heap.size w w28 → Kept [m4,
    m28, m2, m1] w26 w28 → Calls Try.prog 59 #[Value.agg #[Value.slice p0w0a p0w0n p0w0c, Value.slice p0w1a p0w1n p0w1c], Value.agg #[Value.int IntKind.i64 x9, Value.slice a5 m26
    m27]] w28 fun (e5 : Ending) (w29 : World) => ∃ (t3 : Bool), e5 = Ending.returned (Value.bool t3) ∧ KeepX true w.heap.size [m4, m28, m2, m1] (fun _ => False) w28 w29 ∧ (t3 =
    true → ∀ (w30 : World), RowKit.Below w.heap.size w w30 → Kept [m4, m28, m2, m1] w29 w30 → Calls Try.prog 68 #[Value.agg #[Value.slice p0w0a p0w0n p0w0c, Value.slice p0w1a p0w1n
    p0w1c], Value.agg #[Value.int IntKind.i64 x9, Value.slice a5 m26 m27], Value.map (some m7)] w30 fun (e6 : Ending) (w31 : World) => ∃ (t4 : Bool), e6 = Ending.returned
    (Value.bool t4) ∧ KeepX true w.heap.size [m4, m28, m2, m1] (fun _ => False) w30 w31 ∧ (t4 = true → ∀ (m32 : Nat), w31.heap.size ≤ m32 → ∀ (w32 : World), RowKit.Below
    w.heap.size w w32 → Kept [m32, m4, m28, m2, m1] w31 w32 → w32.heap[m32]? = some (Obj.cells #[Value.int IntKind.i64 x8] 3) → RunsTo Try.prog (Builtin.append_ #[38, 38] 38
    #[Value.slice a4 m22 m23, Value.slice (some { block := m32, off := 0 }) 1 1]) w32 fun (v4 : Value) (w33 : World) => ∃ (a6 : Option Addr), ∃ (m34 : Nat), ∃ (m35 : Nat), v4 =
    Value.slice a6 m34 m35 ∧ KeepX true w.heap.size [m32, m4, m28, m2, m1] (fun _ => False) w32 w33 ∧ (-9223372036854775808 ≤ x8 + 1 ∧ x8 + (1 : Int) ≤ 9223372036854775807) ∧ ∀
    (w34 : World), RowKit.Below w.heap.size w w34 → Kept [m32, m4, m28, m2, m1] w33 w34 → F3 [Lf.sl a6 m34 m35, Lf.int IntKind.i64 x7, Lf.int IntKind.i64 (x8 + 1)] w34 ∧ F4 [Lf.sl
    a6 m34 m35, Lf.int IntKind.i64 x7, Lf.int IntKind.i64 (x8 + 1)] < F4 [Lf.sl a4 m22 m23, Lf.int IntKind.i64 x7, Lf.int IntKind.i64 x8]) ∧ (t4 = false → (-9223372036854775808 ≤
    x8 + 1 ∧ x8 + (1 : Int) ≤ 9223372036854775807) ∧ ∀ (w35 : World), RowKit.Below w.heap.size w w35 → Kept [m4, m28, m2, m1] w31 w35 → F3 [Lf.sl a4 m22 m23, Lf.int IntKind.i64 x7,
    Lf.int IntKind.i64 (x8 + 1)] w35 ∧ F4 [Lf.sl a4 m22 m23, Lf.int IntKind.i64 x7, Lf.int IntKind.i64 (x8 + 1)] < F4 [Lf.sl a4 m22 m23, Lf.int IntKind.i64 x7, Lf.int IntKind.i64
    x8])) ∧ (t3 = false → (-9223372036854775808 ≤ x8 + 1 ∧ x8 + (1 : Int) ≤ 9223372036854775807) ∧ ∀ (w36 : World), RowKit.Below w.heap.size w w36 → Kept [m4, m28, m2, m1] w29 w36
    → F3 [Lf.sl a4 m22 m23, Lf.int IntKind.i64 x7, Lf.int IntKind.i64 (x8 + 1)] w36 ∧ F4 [Lf.sl a4 m22 m23, Lf.int IntKind.i64 x7, Lf.int IntKind.i64 (x8 + 1)] < F4 [Lf.sl a4 m22
    m23, Lf.int IntKind.i64 x7, Lf.int IntKind.i64 x8])) ∧ (x9 ≠ pattern → (-9223372036854775808 ≤ x8 + 1 ∧ x8 + (1 : Int) ≤ 9223372036854775807) ∧ ∀ (w37 : World), RowKit.Below
    w.heap.size w w37 → Kept [m4, m28, m2, m1] w26 w37 → F3 [Lf.sl a4 m22 m23, Lf.int IntKind.i64 x7, Lf.int IntKind.i64 (x8 + 1)] w37 ∧ F4 [Lf.sl a4 m22 m23, Lf.int IntKind.i64
    x7, Lf.int IntKind.i64 (x8 + 1)] < F4 [Lf.sl a4 m22 m23, Lf.int IntKind.i64 x7, Lf.int IntKind.i64 x8]))) ∧ ((↑storen : Int) ≤ x8 → ∀ (w38 : World), RowKit.Below w.heap.size w
    w38 → Kept [m4, m2, m1] w24 w38 → R (Ending.returned (Value.tuple #[Value.slice a4 m22 m23, Value.int IntKind.i64 0])) w38)))) ∧ ((↑clockn : Int) ≤ 20 → (200 < (↑storen : Int)
    → ∀ (w39 : World), RowKit.Below w.heap.size w w39 → Kept [m4, m2, m1] w5 w39 → R (Ending.returned (Value.tuple #[Value.slice none 0 0, Value.int IntKind.i64 5])) w39) ∧
    ((↑storen : Int) ≤ 200 → ∀ (w40 : World), RowKit.Below w.heap.size w w40 → Kept [m4, m2, m1] w5 w40 → RunsTo Try.prog (Instr.makeMap 138 none) w40 fun (v5 : Value) (w41 :
    World) => ∃ (m37 : Nat), v5 = Value.map (some m37) ∧ KeepX true w.heap.size [m4, m2, m1] (fun _ => False) w40 w41 ∧ ∃ (F5 : List Lf → World → Prop), ∃ (F6 : List Lf → Nat), (∀
    (w43 : World), RowKit.Below w.heap.size w w43 → Kept [m4, m2, m1] w41 w43 → F5 [Lf.sl none 0 0, Lf.int IntKind.i64 0, Lf.int IntKind.i64 0] w43) ∧ ∀ (a7 : Option Addr) (m39 m40
    : Nat) (x11 x12 : Int) (w44 : World), RowKit.Below w.heap.size w w44 → F5 [Lf.sl a7 m39 m40, Lf.int IntKind.i64 x11, Lf.int IntKind.i64 x12] w44 → (x12 < (↑clockn : Int) → ∃
    (m41 : Nat), ∃ (m42 : Nat), clocka = some { block := m41, off := m42 } ∧ (0 ≤ x12 ∧ x12 < (↑clockn : Int)) ∧ ∃ (x13 : Int), ∃ (a8 : Option Addr), ∃ (m43 : Nat), ∃ (m44 : Nat),
    w44.cell? { block := m41, off := m42 + x12.toNat * 2 } = some (Value.int IntKind.i64 x13) ∧ w44.cell? { block := m41, off := m42 + x12.toNat * 2 + 1 } = some (Value.slice a8
    m43 m44) ∧ (m41 < w.heap.size ∨ m41 ≠ m4 ∧ m41 ≠ m2 ∧ m41 ≠ m1) ∧ ∀ (m45 : Nat), w44.heap.size ≤ m45 → ∀ (w45 : World), RowKit.Below w.heap.size w w45 → Kept [m4, m45, m2, m1]
    w44 w45 → Calls Try.prog 58 #[Value.agg #[Value.slice p0w0a p0w0n p0w0c, Value.slice p0w1a p0w1n p0w1c], Value.agg #[Value.int IntKind.i64 x13, Value.slice a8 m43 m44]] w45 fun
    (e7 : Ending) (w46 : World) => ∃ (x14 : Int), e7 = Ending.returned (Value.int IntKind.i64 x14) ∧ KeepX true w.heap.size [m4, m45, m2, m1] (fun _ => False) w45 w46 ∧ (x14 ≠ 0 →
    ∀ (w47 : World), RowKit.Below w.heap.size w w47 → Kept [m4, m45, m2, m1] w46 w47 → R (Ending.returned (Value.tuple #[Value.slice none 0 0, Value.int IntKind.i64 x14])) w47) ∧
    (x14 = 0 → ∀ (w48 : World), RowKit.Below w.heap.size w w48 → Kept [m4, m45, m2, m1] w46 w48 → RunsTo Try.prog (Instr.lookup 138 (Value.map (some m37)) (Value.int IntKind.i64
    x13) true) w48 fun (v6 : Value) (w49 : World) => ∃ (x15 : Int), ∃ (a9 : Option Addr), ∃ (m47 : Nat), ∃ (m48 : Nat), ∃ (t5 : Bool), v6 = Value.tuple #[Value.agg #[Value.int
    IntKind.i64 x15, Value.slice a9 m47 m48], Value.bool t5] ∧ KeepX true w.heap.size [m4, m45, m2, m1] (fun _ => False) w48 w49 ∧ ∀ (m50 : Nat), w49.heap.size ≤ m50 → (t5 = true →
    ∀ (w50 : World), RowKit.Below w.heap.size w w50 → Kept [m4, m50, m45, m2, m1] w49 w50 → R (Ending.returned (Value.tuple #[Value.slice none 0 0, Value.int IntKind.i64 6])) w50)
    ∧ (t5 = false → ∀ (w51 : World), RowKit.Below w.heap.size w w51 → Kept [m4, m50, m45, m2, m1] w49 w51 → RunsTo Try.prog ((Instr.mapUpdate 138 (Value.map (some m37)) (Value.int
    IntKind.i64 x13) (Value.agg #[Value.int IntKind.i64 x13, Value.slice a8 m43 m44])) >>= fun _ => pure (Value.tuple #[])) w51 fun (v7 : Value) (w52 : World) => KeepX true
    w.heap.size [m4, m50, m45, m2, m1] (fun _ => False) w51 w52 ∧ (-9223372036854775808 ≤ x12 + 1 ∧ x12 + (1 : Int) ≤ 9223372036854775807) ∧ ∀ (w53 : World), RowKit.Below
    w.heap.size w w53 → Kept [m4, m50, m45, m2, m1] w52 w53 → F5 [Lf.sl a7 m39 m40, Lf.int IntKind.i64 x11, Lf.int IntKind.i64 (x12 + 1)] w53 ∧ F6 [Lf.sl a7 m39 m40, Lf.int
    IntKind.i64 x11, Lf.int IntKind.i64 (x12 + 1)] < F6 [Lf.sl a7 m39 m40, Lf.int IntKind.i64 x11, Lf.int IntKind.i64 x12]))) ∧ ((↑clockn : Int) ≤ x12 → ∃ (F7 : List Lf → World →
    Prop), ∃ (F8 : List Lf → Nat), (∀ (w55 : World), RowKit.Below w.heap.size w w55 → Kept [m4, m2, m1] w44 w55 → F7 [Lf.sl a7 m39 m40, Lf.int IntKind.i64 x11, Lf.int IntKind.i64
    0] w55) ∧ ∀ (a10 : Option Addr) (m52 m53 : Nat) (x16 x17 : Int) (w56 : World), RowKit.Below w.heap.size w w56 → F7 [Lf.sl a10 m52 m53, Lf.int IntKind.i64 x16, Lf.int
    IntKind.i64 x17] w56 → (x17 < (↑storen : Int) → ∃ (m54 : Nat), ∃ (m55 : Nat), storea = some { block := m54, off := m55 } ∧ (0 ≤ x17 ∧ x17 < (↑storen : Int)) ∧ ∃ (x18 : Int), ∃
    (a11 : Option Addr), ∃ (m56 : Nat), ∃ (m57 : Nat), w56.cell? { block := m54, off := m55 + x17.toNat * 2 } = some (Value.int IntKind.i64 x18) ∧ w56.cell?
    { block := m54, off := m55 + x17.toNat * 2 + 1 } = some (Value.slice a11 m56 m57) ∧ (m54 < w.heap.size ∨ m54 ≠ m4 ∧ m54 ≠ m2 ∧ m54 ≠ m1) ∧ ∀ (m58 : Nat), w56.heap.size ≤ m58 →
    ∀ (w57 : World), RowKit.Below w.heap.size w w57 → Kept [m4, m58, m2, m1] w56 w57 → Calls Try.prog 58 #[Value.agg #[Value.slice p0w0a p0w0n p0w0c, Value.slice p0w1a p0w1n
    p0w1c], Value.agg #[Value.int IntKind.i64 x18, Value.slice a11 m56 m57]] w57 fun (e8 : Ending) (w58 : World) => ∃ (x19 : Int), e8 = Ending.returned (Value.int IntKind.i64 x19)
    ∧ KeepX true w.heap.size [m4, m58, m2, m1] (fun _ => False) w57 w58 ∧ (x19 ≠ 0 → ∀ (w59 : World), RowKit.Below w.heap.size w w59 → Kept [m4, m58, m2, m1] w58 w59 → R
    (Ending.returned (Value.tuple #[Value.slice none 0 0, Value.int IntKind.i64 x19])) w59) ∧ (x19 = 0 → (x18 = pattern → ∀ (w60 : World), RowKit.Below w.heap.size w w60 → Kept
    [m4, m58, m2, m1] w58 w60 → Calls Try.prog 59 #[Value.agg #[Value.slice p0w0a p0w0n p0w0c, Value.slice p0w1a p0w1n p0w1c], Value.agg #[Value.int IntKind.i64 x18, Value.slice
    a11 m56 m57]] w60 fun (e9 : Ending) (w61 : World) => ∃ (t6 : Bool), e9 = Ending.returned (Value.bool t6) ∧ KeepX true w.heap.size [m4, m58, m2, m1] (fun _ => False) w60 w61 ∧
    (t6 = true → ∀ (w62 : World), RowKit.Below w.heap.size w w62 → Kept [m4, m58, m2, m1] w61 w62 → Calls Try.prog 68 #[Value.agg #[Value.slice p0w0a p0w0n p0w0c, Value.slice p0w1a
    p0w1n p0w1c], Value.agg #[Value.int IntKind.i64 x18, Value.slice a11 m56 m57], Value.map (some m37)] w62 fun (e10 : Ending) (w63 : World) => ∃ (t7 : Bool), e10 =
    Ending.returned (Value.bool t7) ∧ KeepX true w.heap.size [m4, m58, m2, m1] (fun _ => False) w62 w63 ∧ (t7 = true → ∀ (m62 : Nat), w63.heap.size ≤ m62 → ∀ (w64 : World),
    RowKit.Below w.heap.size w w64 → Kept [m62, m4, m58, m2, m1] w63 w64 → w64.heap[m62]? = some (Obj.cells #[Value.int IntKind.i64 x17] 3) → RunsTo Try.prog (Builtin.append_ #[38,
    38] 38 #[Value.slice a10 m52 m53, Value.slice (some { block := m62, off := 0 }) 1 1]) w64 fun (v8 : Value) (w65 : World) => ∃ (a12 : Option Addr), ∃ (m64 : Nat), ∃ (m65 : Nat),
    v8 = Value.slice a12 m64 m65 ∧ KeepX true w.heap.size [m62, m4, m58, m2, m1] (fun _ => False) w64 w65 ∧ (-9223372036854775808 ≤ x17 + 1 ∧ x17 + (1 : Int) ≤ 9223372036854775807)
    ∧ ∀ (w66 : World), RowKit.Below w.heap.size w w66 → Kept [m62, m4, m58, m2, m1] w65 w66 → F7 [Lf.sl a12 m64 m65, Lf.int IntKind.i64 x16, Lf.int IntKind.i64 (x17 + 1)] w66 ∧ F8
    [Lf.sl a12 m64 m65, Lf.int IntKind.i64 x16, Lf.int IntKind.i64 (x17 + 1)] < F8 [Lf.sl a10 m52 m53, Lf.int IntKind.i64 x16, Lf.int IntKind.i64 x17]) ∧ (t7 = false →
    (-9223372036854775808 ≤ x17 + 1 ∧ x17 + (1 : Int) ≤ 9223372036854775807) ∧ ∀ (w67 : World), RowKit.Below w.heap.size w w67 → Kept [m4, m58, m2, m1] w63 w67 → F7 [Lf.sl a10 m52
    m53, Lf.int IntKind.i64 x16, Lf.int IntKind.i64 (x17 + 1)] w67 ∧ F8 [Lf.sl a10 m52 m53, Lf.int IntKind.i64 x16, Lf.int IntKind.i64 (x17 + 1)] < F8 [Lf.sl a10 m52 m53, Lf.int
    IntKind.i64 x16, Lf.int IntKind.i64 x17])) ∧ (t6 = false → (-9223372036854775808 ≤ x17 + 1 ∧ x17 + (1 : Int) ≤ 9223372036854775807) ∧ ∀ (w68 : World), RowKit.Below w.heap.size
    w w68 → Kept [m4, m58, m2, m1] w61 w68 → F7 [Lf.sl a10 m52 m53, Lf.int IntKind.i64 x16, Lf.int IntKind.i64 (x17 + 1)] w68 ∧ F8 [Lf.sl a10 m52 m53, Lf.int IntKind.i64 x16,
    Lf.int IntKind.i64 (x17 + 1)] < F8 [Lf.sl a10 m52 m53, Lf.int IntKind.i64 x16, Lf.int IntKind.i64 x17])) ∧ (x18 ≠ pattern → (-9223372036854775808 ≤ x17 + 1 ∧ x17 + (1 : Int) ≤
    9223372036854775807) ∧ ∀ (w69 : World), RowKit.Below w.heap.size w w69 → Kept [m4, m58, m2, m1] w58 w69 → F7 [Lf.sl a10 m52 m53, Lf.int IntKind.i64 x16, Lf.int IntKind.i64 (x17
    + 1)] w69 ∧ F8 [Lf.sl a10 m52 m53, Lf.int IntKind.i64 x16, Lf.int IntKind.i64 (x17 + 1)] < F8 [Lf.sl a10 m52 m53, Lf.int IntKind.i64 x16, Lf.int IntKind.i64 x17]))) ∧ ((↑storen
    : Int) ≤ x17 → ∀ (w70 : World), RowKit.Below w.heap.size w w70 → Kept [m4, m2, m1] w56 w70 → R (Ending.returned (Value.tuple #[Value.slice a10 m52 m53, Value.int IntKind.i64
    0])) w70))))))) : Calls Try.prog 36 #[Value.agg #[Value.slice p0w0a p0w0n p0w0c, Value.slice p0w1a p0w1n p0w1c], Value.slice clocka clockn clockc, Value.int IntKind.i64
    pattern, Value.slice storea storen storec] w R := calls_of_vc (pure := true) (wrapAt := []) (muts := []) (esc := []) (args := [SV.pv (PV.agg [Lf.sl p0w0a p0w0n p0w0c, Lf.sl
    p0w1a p0w1n p0w1c]), SV.pv (PV.one (Lf.sl clocka clockn clockc)), SV.pv (PV.one (Lf.int IntKind.i64 pattern)), SV.pv (PV.one (Lf.sl storea storen storec))]) (vs := [Value.agg
    #[Value.slice p0w0a p0w0n p0w0c, Value.slice p0w1a p0w1n p0w1c], Value.slice clocka clockn clockc, Value.int IntKind.i64 pattern, Value.slice storea storen storec]) Try.func36
    rfl rfl rfl (Eq.mp (by kernel_rfl) h) 
end Go.Proofs
end
section
/- The mates of a pattern: the iterator, and its functions. -/
namespace Go.Proofs.R12
open Go.Vc Go.RowKit Go.Proofs

theorem below_kept0 {w w' : World} (h : Kept [] w w') : Below w.heap.size w w' := ⟨h.os, h.tape, h.output, h.size, fun k hk => h.block k hk (by simp)⟩
theorem calm_of_below {B : Nat} {w w' : World} (h : Below w.heap.size w w') : CalmFrom B w w' := ⟨h.os, h.tape, h.output, h.size, fun k o hk _ => (h.block k (lt_of_some hk)).trans hk⟩
theorem yield_mono {P : Program} {l : Nat} {args : Array Value} {w : World} {R S : Ending → World → Prop} (h : YieldAt Fence.wide 0 P l args w R) (hs : ∀ e w', R e w' → S e w') : YieldAt Fence.wide 0 P l args w S := by
  obtain ⟨fn, tmps, assign, body, hy, hR⟩ := h
  exact ⟨fn, tmps, assign, body, hy, hR.mono hs⟩

/-- The other pattern, the fit, and whether x is the hole. -/
def mate1 (p : Int) (f : Fit) : Option (Int × Fit × Bool) := if p = f.hole then some (f.shaft, f, true) else if p = f.shaft then some (f.hole, f, false) else none
def mateL (l : List Fit) (p : Int) : List (Int × Fit × Bool) := l.filterMap (mate1 p)
theorem mateL_step {l : List Fit} {p : Int} {x : Nat} (h : x < l.length) : mateL (l.take (x + 1)) p = mateL (l.take x) p ++ (mate1 p (l.getD x fit0)).toList := by
  unfold mateL
  rw [List.take_succ_eq_append_getElem h, List.filterMap_append]
  have : l.getD x fit0 = l[x] := by simp [List.getD_eq_getElem?_getD, h]
  rw [this]
  cases hm : mate1 p l[x] <;> simp [hm]
theorem mateL_get {l : List Fit} {p : Int} {x : Nat} (h : x < l.length) {m : Int × Fit × Bool} (hm : mate1 p (l.getD x fit0) = some m) : (mateL l p)[(mateL (l.take x) p).length]? = some m := by
  have e : mateL l p = mateL (l.take (x + 1)) p ++ mateL (l.drop (x + 1)) p := by
    unfold mateL
    rw [← List.filterMap_append, List.take_append_drop]
  rw [e, mateL_step h, hm]
  simp
def mateV (m : Int × Fit × Bool) (b : Nat) : List Value := [I m.1, .func (.func (if m.2.2 then 96 else 97)) #[] #[.pointer (some ⟨b, 0, none⟩)]]
def MateY (cb : Nat) (l : List Fit) (p : Int) (k : Nat) (x : List Value) (w : World) : Prop := ∃ m b, (mateL l p)[k]? = some m ∧ x = mateV m b ∧ cb < b ∧ w.heap[b]? = some (.cells m.2.1.cells.toArray 67 (0, 0))
structure MateInv (cb pb : Nat) (l : List Fit) (fa : Option Addr) (fc : Nat) (p : Int) (w : World) : Prop where
  c : w.cell? ⟨cb, 1, none⟩ = some (.slice fa l.length fc)
  f : Cells w fa (fitsV l)
  p : w.cell? ⟨pb, 0, none⟩ = some (I p)

set_option maxRecDepth 100000 in
theorem mates_iter {cb pb : Nat} {l : List Fit} {fa : Option Addr} {fc : Nat} {p : Int} (hl : l.length ≤ 1000) : IterY Try.prog 95 [] [.pointer (some ⟨cb, 0, none⟩), .pointer (some ⟨pb, 0, none⟩)] (mateL l p).length (MateY cb l p) (MateInv cb pb l fa fc p) := by
  intro y J Jx W hJ hJx hInv hY h0
  have mvJ : ∀ {G k w w'}, J G k w → Kept [] w w' → J G k w' := fun h hk => hJ _ _ _ _ _ h (calm_of_below (below_kept0 hk)) (fun _ h => h) fun _ h => .inl h
  have mvX : ∀ {G k w w'}, Jx G k w → Kept [] w w' → Jx G k w' := fun h hk => hJx _ _ _ _ _ h (calm_of_below (below_kept0 hk)) (fun _ h => h) fun _ h => .inl h
  have kx : ∀ {G : Nat → Prop} {w w' : World}, RoundKeeps G w w' → KeepX false W.heap.size [] (fun _ => False) w w' := fun h => .own h.os h.tape h.output h.size (by simp) (by simp) (by simp)
  refine vc95 _ _ _ W _ ⟨_, _, _, cell_at' (hInv _ _ _ h0).c (by omega),
    fun ls w' => match ls with | [.int _ x] => (0 ≤ x ∧ x ≤ l.length) ∧ W.heap.size ≤ w'.heap.size ∧ ∃ G : Nat → Prop, (∀ b, G b → W.heap.size ≤ b ∧ b < w'.heap.size) ∧ J G (mateL (l.take x.toNat) p).length w' | _ => False, fun ls => match ls with | [.int _ x] => (l.length - x).toNat | _ => 0,
    fun w2 hk => ⟨⟨by omega, by omega⟩, hk.size, fun _ => False, fun b h => h.elim, mvJ h0 hk⟩, ?_⟩
  rintro x1 w3 ⟨⟨x0, xl⟩, z3, G, hG, hj⟩
  refine ⟨fun hlt => ?_, fun hge w17 hk17 => ⟨⟨_, rfl⟩, G, .inl ?_⟩⟩
  rotate_left
  · have := mvJ hj hk17
    rwa [show x1.toNat = l.length by omega, List.take_length] at this
  have hx : x1.toNat < l.length := by omega
  refine load_fit (hInv _ _ _ hj).f (.refl _ _) ⟨x0, hlt⟩ fun m3 m4 _ => ?_
  generalize hf : l.getD x1.toNat ⟨0, 0, 0, 0, (0, 0)⟩ = f
  have hst : (mateL (l.take (x1 + 1).toNat) p) = mateL (l.take x1.toNat) p ++ (mate1 p f).toList := by
    rw [show (x1 + 1).toNat = x1.toNat + 1 by omega, mateL_step hx, ← hf]
  intro w4 hk4 m5 w5 h5 hw5 w6 hk6
  have z4 := hk4.size
  have z5 : w5.heap.size = w4.heap.size + 1 := by rw [hw5]; show (w4.heap.push _).size = _; exact Array.size_push _
  have z6 := hk6.size
  have d5 : Below w4.heap.size w4 w5 := by rw [hw5]; exact (Below.refl _ _).alloc (Nat.le_refl _) _
  have c6 : w6.heap[m5]? = some (.cells [I 0, I 0, I 0, I 0, I 0, I 0].toArray 67 (0, 0)) := by
    rw [hk6.block m5 (by omega) (by simp), hw5, h5]
    show (w4.heap.push _)[w4.heap.size]? = _
    simp
  refine obj_store (P := Try.prog) (t := 67) (vs := [I f.hole, I f.hs, I f.shaft, I f.ss, I f.gap.1, I f.gap.2]) c6 (by kernel_rfl) (by kernel_rfl) (by simp) rfl (fun u hu => by simp at hu; rcases hu with rfl | rfl | rfl | rfl | rfl | rfl <;> trivial) fun w7 c7 g7 => ?_
  have z7 := g7.size
  have d7 : Below w3.heap.size w3 w7 := ((below_kept0 hk4).trans (d5.mono z4)).trans (((below_kept0 hk6).mono (by omega)).trans (below_of_chg g7 (by omega) (by simp; omega)))
  have hj7 : J (fun b => G b ∨ b = m5) (mateL (l.take x1.toNat) p).length w7 := hJ _ _ _ _ _ hj (calm_of_below d7) (fun _ h => .inl h) fun b hb => by
    rcases hb with hb | rfl
    · exact .inl hb
    · exact .inr ⟨by omega, by omega⟩
  have hG7 : ∀ b, (G b ∨ b = m5) → W.heap.size ≤ b ∧ b < w7.heap.size := fun b hb => by
    rcases hb with hb | rfl
    · have := hG b hb; omega
    · omega
  have I7 := hInv _ _ _ hj7
  have c7' : ∀ {w8 : World}, Kept [] w7 w8 → w8.heap[m5]? = some (.cells f.cells.toArray 67 (0, 0)) := fun hk => by
    rw [hk.block m5 (by omega) (by simp)]; exact c7
  have c7a : ∀ {i : Nat} {v : Value}, f.cells[i]? = some v → w7.cell? ⟨m5, i, none⟩ = some v := fun h => cell_obj (vs := f.cells) c7 h
  have yld : ∀ {m : Int × Fit × Bool} {w8 : World}, mate1 p f = some m → m.2.1 = f → Kept [] w7 w8 → YieldAt Fence.wide 0 Try.prog y (mateV m m5).toArray w8 fun e w9 => ∃ t : Bool, e = .returned (.bool t) ∧ KeepX false W.heap.size [] (fun _ => False) w8 w9 ∧ w8.heap.size ≤ w9.heap.size ∧ (t = true → J (fun b => G b ∨ b = m5) ((mateL (l.take x1.toNat) p).length + 1) w9) ∧ (t = false → Jx (fun b => G b ∨ b = m5) ((mateL (l.take x1.toNat) p).length + 1) w9) := fun {m w8} hm hmf hk8 => by
    have hget := mateL_get hx (p := p) (m := m) (by rw [show l.getD x1.toNat fit0 = f from hf]; exact hm)
    refine yield_mono (hY _ _ (mateV m m5) _ (mvJ hj7 hk8) (fun b hb => by have := hG7 b hb; have := hk8.size; omega) (List.getElem?_eq_some_iff.1 hget).1 ⟨m, m5, hget, rfl, by have := cell_lt (hInv _ _ _ h0).c; omega, by rw [hmf]; exact c7' hk8⟩) fun e w9 he => ?_
    obtain ⟨t, rfl, hrk, hT, hF⟩ := he
    exact ⟨t, rfl, kx hrk, hrk.size, hT, hF⟩
  refine ⟨g7.own (by simp) (by simp) (fun h => by cases h), p, I7.p, f.hole, c7a (i := 0) rfl, fun he => ?_, fun hne => ?_⟩
  · have hm : mate1 p f = some (f.shaft, f, true) := by unfold mate1; rw [if_pos he]
    refine ⟨f.shaft, c7a (i := 2) rfl, fun w8 hk8 => ⟨y, rfl, yield_mono (yld hm rfl hk8) fun e w9 h9 => ?_⟩⟩
    obtain ⟨t, rfl, k9, s9, hT, hF⟩ := h9
    refine ⟨t, rfl, k9, fun h w10 hk10 => ⟨⟨_, rfl⟩, _, .inr ⟨_, mvX (hF (by simpa using h)) hk10⟩⟩, fun h => ⟨⟨by omega, by omega⟩, fun w11 hk11 => ⟨⟨⟨by omega, by omega⟩, by have := hk8.size; have := hk11.size; omega, _, fun b hb => by have := hG7 b hb; have := hk8.size; have := hk11.size; omega, ?_⟩, by simp only; omega⟩⟩⟩
    rw [hst, hm]
    simpa using mvJ (hT (by simpa using h)) hk11
  · refine ⟨f.shaft, c7a (i := 2) rfl, fun he => ?_, fun hne2 => ⟨⟨by omega, by omega⟩, fun w16 hk16 => ⟨⟨⟨by omega, by omega⟩, by have := hk16.size; omega, _, fun b hb => by have := hG7 b hb; have := hk16.size; omega, ?_⟩, by simp only; omega⟩⟩⟩
    · have hm : mate1 p f = some (f.hole, f, false) := by unfold mate1; rw [if_neg hne, if_pos he]
      refine ⟨f.hole, c7a (i := 0) rfl, fun w12 hk12 => ⟨y, rfl, yield_mono (yld hm rfl hk12) fun e w13 h13 => ?_⟩⟩
      obtain ⟨t, rfl, k13, s13, hT, hF⟩ := h13
      refine ⟨t, rfl, k13, fun h w14 hk14 => ⟨⟨_, rfl⟩, _, .inr ⟨_, mvX (hF (by simpa using h)) hk14⟩⟩, fun h => ⟨⟨by omega, by omega⟩, fun w15 hk15 => ⟨⟨⟨by omega, by omega⟩, by have := hk12.size; have := hk15.size; omega, _, fun b hb => by have := hG7 b hb; have := hk12.size; have := hk15.size; omega, ?_⟩, by simp only; omega⟩⟩⟩
      rw [hst, hm]
      simpa using mvJ (hT (by simpa using h)) hk15
    · have hm : mate1 p f = none := by unfold mate1; rw [if_neg hne, if_neg hne2]
      rw [hst, hm]
      simpa using mvJ hj7 hk16
end Go.Proofs.R12
end
section
/- Whether a piece goes into a clock. -/
namespace Go.Proofs.R12
open Go.Vc Go.RowKit Go.Proofs

def fitsQ (b : Bool) (f : Fit) (x q : List Int) : Prop := if b then isF f (x.getD f.hs.toNat 0) (q.getD f.ss.toNat 0) else isF f (q.getD f.hs.toNat 0) (x.getD f.ss.toNat 0)
instance (b : Bool) (f : Fit) (x q : List Int) : Decidable (fitsQ b f x q) := by unfold fitsQ; exact inferInstance
theorem sz_get {l : List Int} (h : ∀ x ∈ l, 0 ≤ x ∧ x ≤ 1000000) (i : Nat) : 0 ≤ l.getD i 0 ∧ l.getD i 0 ≤ 1000000 := by
  rw [List.getD_eq_getElem?_getD]
  cases e : l[i]? with
  | none => simp
  | some v => exact h v (List.mem_of_getElem? e)
/-- What a piece must have for a fit. -/
def inFit (b : Bool) (f : Fit) (x q : List Int) : Prop := if b then (0 ≤ f.hs ∧ f.hs < x.length) ∧ 0 ≤ f.ss ∧ f.ss < q.length else (0 ≤ f.hs ∧ f.hs < q.length) ∧ 0 ≤ f.ss ∧ f.ss < x.length

theorem load_o {w : World} {a : Option Addr} {l : List Int} {i : Int} {n : Nat} {X : Nat → Nat → Int → Prop} (h : Cells w a (ints l)) (hn : l.length = n) (hi0 : 0 ≤ i ∧ i < (n : Int)) (k : ∀ m o, m < w.heap.size → X m o (l.getD i.toNat 0)) :
    ∃ m o, a = some ⟨m, o, none⟩ ∧ (0 ≤ i ∧ i < (n : Int)) ∧ ∃ x0 : Int, w.cell? ⟨m, o + i.toNat * 1, none⟩ = some (I x0) ∧ X m o x0 := by
  subst hn
  exact load_int h (.refl _ _) hi0 k
set_option maxRecDepth 100000 in
theorem fits_any {w : World} {b : Bool} {f : Fit} {x q : List Int} {x0 q0 : Int} {xa qa : Option Addr} {xc qc cb : Nat} (hc : w.heap[cb]? = some (.cells f.cells.toArray 67 (0, 0))) (hx : Cells w xa (ints x)) (hq : Cells w qa (ints q)) (sx : ∀ s ∈ x, 0 ≤ s ∧ s ≤ 1000000) (sq : ∀ s ∈ q, 0 ≤ s ∧ s ≤ 1000000) (hi : inFit b f x q) :
    Calls Try.prog (if b then 96 else 97) #[.agg #[I x0, .slice xa x.length xc], .agg #[I q0, .slice qa q.length qc], .pointer (some ⟨cb, 0, none⟩)] w (Pure w (.bool (decide (fitsQ b f x q)))) := by
  have ca : ∀ {i : Nat} {v : Value}, f.cells[i]? = some v → w.cell? ⟨cb, i, none⟩ = some v := fun h => cell_obj (vs := f.cells) hc h
  have hlt := lt_of_some hc
  have bx := sz_get sx
  have bq := sz_get sq
  cases b with
  | true =>
    simp only [inFit, if_true] at hi
    refine vc96 _ _ _ _ _ _ _ _ _ w _ fun m1 g1 m2 g2 => ⟨_, _, _, _, _, _, cell_at' (ca (i := 0) rfl) (by omega), cell_at' (ca (i := 1) rfl) (by omega), cell_at' (ca (i := 2) rfl) (by omega), cell_at' (ca (i := 3) rfl) (by omega), cell_at' (ca (i := 4) rfl) (by omega), cell_at' (ca (i := 5) rfl) (by omega), .inl hlt, _, cell_at' (ca (i := 1) rfl) (by omega), .inl hlt, ?_⟩
    refine load_o hx rfl hi.1 fun m3 o3 h3 => ⟨.inl h3, _, cell_at' (ca (i := 3) rfl) (by omega), .inl hlt, ?_⟩
    refine load_o hq rfl hi.2 fun m5 o5 h5 => ⟨.inl h5, fun w1 hb1 hk1 => ?_⟩
    have := bx f.hs.toNat
    have := bq f.ss.toNat
    exact Pure.calls (is_any f _ _ (by omega) (by omega)) fun w2 hd => ⟨_, rfl, .all hd, fun w3 hb3 hk3 => ⟨by simp [fitsQ], hb3⟩⟩
  | false =>
    simp only [inFit, Bool.false_eq_true, if_false] at hi
    refine vc97 _ _ _ _ _ _ _ _ _ w _ fun m1 g1 m2 g2 => ⟨_, _, _, _, _, _, cell_at' (ca (i := 0) rfl) (by omega), cell_at' (ca (i := 1) rfl) (by omega), cell_at' (ca (i := 2) rfl) (by omega), cell_at' (ca (i := 3) rfl) (by omega), cell_at' (ca (i := 4) rfl) (by omega), cell_at' (ca (i := 5) rfl) (by omega), .inl hlt, _, cell_at' (ca (i := 1) rfl) (by omega), .inl hlt, ?_⟩
    refine load_o hq rfl hi.1 fun m3 o3 h3 => ⟨.inl h3, _, cell_at' (ca (i := 3) rfl) (by omega), .inl hlt, ?_⟩
    refine load_o hx rfl hi.2 fun m5 o5 h5 => ⟨.inl h5, fun w1 hb1 hk1 => ?_⟩
    have := bq f.hs.toNat
    have := bx f.ss.toNat
    exact Pure.calls (is_any f _ _ (by omega) (by omega)) fun w2 hd => ⟨_, rfl, .all hd, fun w3 hb3 hk3 => ⟨by simp [fitsQ], hb3⟩⟩

theorem mates_l {w : World} {W : Wk} {pa fa : Option Addr} {pc fc : Nat} {p : Int} : Calls Try.prog 86 #[W.v pa pc fa fc, I p] w fun e w' => Below w.heap.size w w' ∧ ∃ cb pb, e = .returned (.func (.func 95) #[] #[.pointer (some ⟨cb, 0, none⟩), .pointer (some ⟨pb, 0, none⟩)]) ∧ (w.heap.size ≤ cb ∧ w.heap.size ≤ pb) ∧ w'.heap[cb]? = some (.cells #[.slice pa W.pats.length pc, .slice fa W.fits.length fc] 108 (0, 0)) ∧ w'.heap[pb]? = some (.cells #[I p] 3 (0, 0)) :=
  vc86 _ _ _ _ _ _ _ w _ fun m1 g1 m2 g2 w1 hb1 hk1 h1 h2 => ⟨hb1, m1, m2, rfl, ⟨g1, g2⟩, h1, h2⟩

/-- A piece of a clock, as it lies there. -/
structure CP where
  p : Piece
  a : Option Addr
  c : Nat
def CP.v (q : CP) : Value := .agg #[I q.p.pat, .slice q.a q.p.sizes.length q.c]
def clockV (C : List CP) : List (Int × Value) := C.map fun q => (q.p.pat, q.v)
def lookC (C : List CP) (o : Int) : Option CP := C.find? fun q => o == q.p.pat
theorem clock_look (C : List CP) (o : Int) : (clockV C).lookup o = (lookC C o).map CP.v := by
  induction C with
  | nil => rfl
  | cons q r ih =>
    simp only [clockV, lookC, List.map_cons, List.lookup, List.find?] at ih ⊢
    cases o == q.p.pat
    · exact ih
    · rfl
def goesC (W : Wk) (x : Piece) (C : List CP) : Bool := (mateL W.fits x.pat).all fun m => match lookC C m.1 with | none => true | some q => decide (fitsQ m.2.2 m.2.1 x.sizes q.p.sizes)
theorem mate_mem {l : List Fit} {p : Int} {k : Nat} {m : Int × Fit × Bool} (h : (mateL l p)[k]? = some m) : m.2.1 ∈ l ∧ ((m.2.2 = true ∧ p = m.2.1.hole ∧ m.1 = m.2.1.shaft) ∨ (m.2.2 = false ∧ p = m.2.1.shaft ∧ m.1 = m.2.1.hole)) := by
  obtain ⟨f, hf, he⟩ := List.mem_filterMap.1 (List.mem_of_getElem? h)
  unfold mate1 at he
  split at he
  · obtain rfl := Option.some.inj he; exact ⟨hf, .inl ⟨rfl, by assumption, rfl⟩⟩
  · split at he
    · obtain rfl := Option.some.inj he; exact ⟨hf, .inr ⟨rfl, by assumption, rfl⟩⟩
    · cases he

set_option maxRecDepth 100000 in
theorem goes_any {w : World} {W : Wk} {x : Piece} {C : List CP} {pa fa xa : Option Addr} {pc fc xc tm : Nat} (hf : Cells w fa (fitsV W.fits)) (hW : OkW W) (hx : Cells w xa (ints x.sizes)) (ex : pieceErr W x = 0) (hm : MapC w tm I (clockV C)) (hC : ∀ q ∈ C, pieceErr W q.p = 0 ∧ Cells w q.a (ints q.p.sizes)) :
    Calls Try.prog 68 #[W.v pa pc fa fc, .agg #[I x.pat, .slice xa x.sizes.length xc], .map (some tm)] w (Pure w (.bool (goesC W x C))) := by
  obtain ⟨bxp, lx, sx⟩ := pieceErr_ok ex
  refine vc68 _ _ _ _ _ _ _ _ _ _ _ w _ fun m1 g1 m2 g2 m3 g3 m4 g4 w1 hb1 hk1 => mates_l.mono fun e1 w2 he => ?_
  obtain ⟨hb2, cb, pb, rfl, ⟨hcb, hpb⟩, hc2, hp2⟩ := he
  have hns : ∀ b, w1.heap.size ≤ b → b ∉ [m4, m3, m2, m1] := fun b hb hm => by
    have := hk1.own b hm
    omega
  have inv : ∀ {w' : World}, Below w.heap.size w w' → w'.heap[cb]? = some (.cells #[.slice pa W.pats.length pc, .slice fa W.fits.length fc] 108 (0, 0)) → w'.heap[pb]? = some (.cells #[I x.pat] 3 (0, 0)) → MateInv cb pb W.fits fa fc x.pat w' := fun hb h1 h2 =>
    ⟨cell_obj (vs := [.slice pa W.pats.length pc, .slice fa W.fits.length fc]) h1 rfl, hf.keep hb, cell_obj (vs := [I x.pat]) h2 rfl⟩
  let okM : Int × Fit × Bool → Bool := fun m => match lookC C m.1 with | none => true | some q => decide (fitsQ m.2.2 m.2.1 x.sizes q.p.sizes)
  refine ⟨_, rfl, .all hb2, _, rfl, (mateL W.fits x.pat).length, MateY cb W.fits x.pat, fun _ _ k w' => (∀ j m, j < k → (mateL W.fits x.pat)[j]? = some m → okM m = true) ∧ w'.heap[cb]? = some (.cells #[.slice pa W.pats.length pc, .slice fa W.fits.length fc] 108 (0, 0)) ∧ w'.heap[pb]? = some (.cells #[I x.pat] 3 (0, 0)), MateInv cb pb W.fits fa fc x.pat, mates_iter (Nat.le_trans hW.2.2.1 (by omega)), fun w6 hb6 hk6 hc6 => ?_, ?_⟩
  · exact ⟨fun j m h => by omega, (hk6.block cb (lt_of_some hc2) (hns cb hcb)).trans hc2, (hk6.block pb (lt_of_some hp2) (hns pb hpb)).trans hp2⟩
  rintro t1 k F5 F6 w7 w8 ⟨hok, hc7, hp7⟩ hcalm _ _ _ hb8
  have hc8 := hcalm.keep _ _ hc7 (.inl rfl)
  have hp8 := hcalm.keep _ _ hp7 (.inl rfl)
  refine ⟨inv hb8 hc8 hp8, fun y5 hk hY => ?_, fun hk w23 hb23 hk23 w24 hcalm24 => ?_⟩
  rotate_left
  · have hall : goesC W x C = true := by
      unfold goesC
      rw [List.all_eq_true]
      intro m hm
      obtain ⟨j, hj, he⟩ := List.getElem_of_mem hm
      exact hok j m (by omega) (by rw [List.getElem?_eq_getElem hj, he])
    rw [hall]
    exact ⟨rfl, hb23.trans (hcalm24.below hb23.size)⟩
  obtain ⟨m, b, hget, rfl, hlt, hcell⟩ := hY
  refine ⟨m.1, _, rfl, fun _ w9 w10 hb10 hk10 w11 hcalm11 w12 w13 hb13 hk13 => ?_⟩
  have mv : ∀ {b : Nat} {cs : Array Value} {T : TypeId}, w1.heap.size ≤ b → w8.heap[b]? = some (.cells cs T (0, 0)) → w13.heap[b]? = some (.cells cs T (0, 0)) := fun {b cs T} hb h => by
    have h10 := (hk10.block b (lt_of_some h) (hns b hb)).trans h
    have h11 := hcalm11.keep _ _ h10 (.inl rfl)
    exact (hk13.block b (lt_of_some h11) (hns b hb)).trans h11
  have hc13 := mv hcb hc8
  have hp13 := mv hpb hp8
  have hb13' := mv (by omega) hcell
  obtain ⟨hmf, hmm⟩ := mate_mem hget
  have okf := hW.2.2.2 _ hmf
  refine lookup_ok keyI (P := Try.prog) (mt := 138) (vt := 40) (by kernel_rfl) (hm.below hb13) m.1 (z := .agg #[I 0, .slice none 0 0]) (by kernel_rfl) ?_
  rw [clock_look]
  have stop : ∀ {w' : World}, okM m = false → Below w.heap.size w w' → Pure w (.bool (goesC W x C)) (.returned (.bool false)) w' := fun h hb => by
    have : goesC W x C = false := by
      unfold goesC
      rw [List.all_eq_false]
      exact ⟨m, List.mem_of_getElem? hget, by simpa using h⟩
    rw [this]; exact ⟨rfl, hb⟩
  have next : ∀ {w' : World}, okM m = true → (∀ (b : Nat) (o : Obj), w1.heap.size ≤ b → w13.heap[b]? = some o → w'.heap[b]? = some o) → (∀ j m, j < k + 1 → (mateL W.fits x.pat)[j]? = some m → okM m = true) ∧ w'.heap[cb]? = some (.cells #[.slice pa W.pats.length pc, .slice fa W.fits.length fc] 108 (0, 0)) ∧ w'.heap[pb]? = some (.cells #[I x.pat] 3 (0, 0)) := fun {w'} h mv2 => by
    refine ⟨fun j m' hj hm' => ?_, mv2 _ _ hcb hc13, mv2 _ _ hpb hp13⟩
    by_cases he : j = k
    · subst he; rw [hget] at hm'; obtain rfl := Option.some.inj hm'; exact h
    · exact hok j m' (by omega) hm'
  have out : ∀ {m21 : Nat}, w13.heap.size ≤ m21 → ∀ {b : Nat} {u : World} {o : Obj}, w13.heap[b]? = some o → u.heap.size = u.heap.size → w1.heap.size ≤ b → b ∉ [m21, m4, m3, m2, m1] := fun {m21} h {b u o} ho _ hb hm => by
    rcases List.mem_cons.1 hm with h' | h'
    · have := lt_of_some ho; omega
    · exact hns b hb h'
  cases hl : lookC C m.1 with
  | none =>
    refine ⟨0, none, 0, 0, false, rfl, .all (.refl _ _), fun m21 g21 => ⟨fun h => (by cases h), fun _ w22 hb22 hk22 => ?_⟩⟩
    exact next (by simp only [okM, hl]) fun b o hb ho => (hk22.block b (lt_of_some ho) (out g21 (u := w13) ho rfl hb)).trans ho
  | some q =>
    have hq := hC q (List.mem_of_find?_eq_some hl)
    obtain ⟨bqp, lq, sq⟩ := pieceErr_ok hq.1
    have hqp : m.1 = q.p.pat := by have := List.find?_some hl; simpa using this
    refine ⟨q.p.pat, q.a, q.p.sizes.length, q.c, true, rfl, .all (.refl _ _), fun m21 g21 => ⟨fun _ => ⟨if m.2.2 then 96 else 97, [], [.pointer (some ⟨b, 0, none⟩)], rfl, by cases m.2.2 <;> exact callOk_run (by rfl), fun w15 hb15 hk15 => ?_⟩, fun h => (by cases h)⟩⟩
    have hnb : b ∉ [m21, m4, m3, m2, m1] := fun hm => by
      rcases List.mem_cons.1 hm with h | h
      · have := lt_of_some hb13'; omega
      · exact hns b (by omega) h
    have hcell15 := (hk15.block b (lt_of_some hb13') hnb).trans hb13'
    have hin : inFit m.2.2 m.2.1 x.sizes q.p.sizes := by
      obtain ⟨_, ⟨_, o1, o2⟩, ⟨_, o3, o4⟩, _⟩ := okf
      unfold inFit
      rcases hmm with ⟨h1, h2, h3⟩ | ⟨h1, h2, h3⟩
      · rw [h1, if_pos rfl, lx, lq, h2, ← hqp, h3]; exact ⟨⟨o1, o2⟩, o3, o4⟩
      · rw [h1, if_neg (by simp), lx, lq, h2, ← hqp, h3]; exact ⟨⟨o1, o2⟩, o3, o4⟩
    refine Pure.calls (fits_any (b := m.2.2) (f := m.2.1) (x0 := x.pat) (q0 := q.p.pat) (xc := xc) (qc := q.c) hcell15 (hx.keep hb15) (hq.2.keep hb15) sx sq hin) fun w16 hd16 => ⟨_, rfl, .all hd16, fun ht w17 hb17 hk17 F7 w18 hcalm18 _ w19 hb19 hk19 w20 hcalm20 => ?_, fun ht w21 hb21 hk21 => ?_⟩
    · exact stop (by simp only [okM, hl]; simpa using ht) (hb19.trans (hcalm20.below hb19.size))
    · refine next (by simp only [okM, hl]; simpa using ht) fun b o hb ho => ?_
      have h15 := (hk15.block b (lt_of_some ho) (out g21 (u := w13) ho rfl hb)).trans ho
      have h16 := (hd16.block b (lt_of_some h15)).trans h15
      exact (hk21.block b (lt_of_some h16) (out g21 (u := w13) ho rfl hb)).trans h16
end Go.Proofs.R12
end
section
/- Choose. -/
namespace Go.Proofs.R12
open Go.Vc Go.RowKit Go.Proofs

abbrev piece0 : Piece := ⟨0, []⟩
def lookP (C : List Piece) (o : Int) : Option Piece := C.find? fun q => o == q.pat
def goesP (W : Wk) (x : Piece) (C : List Piece) : Bool := (mateL W.fits x.pat).all fun m => match lookP C m.1 with | none => true | some q => decide (fitsQ m.2.2 m.2.1 x.sizes q.sizes)
theorem look_cp (L : List CP) (o : Int) : lookP (L.map CP.p) o = (lookC L o).map CP.p := by
  unfold lookP lookC
  rw [List.find?_map]; rfl
theorem goesC_eq (W : Wk) (x : Piece) (L : List CP) : goesC W x L = goesP W x (L.map CP.p) := by
  unfold goesC goesP
  congr 1
  funext m
  rw [look_cp]
  cases lookC L m.1 <;> rfl
def clockErr (W : Wk) : List Piece → List Int → Int
  | [], _ => 0
  | q :: r, seen => if pieceErr W q ≠ 0 then pieceErr W q else if q.pat ∈ seen then 6 else clockErr W r (seen ++ [q.pat])
def storeErr (W : Wk) : List Piece → Int
  | [] => 0
  | q :: r => if pieceErr W q ≠ 0 then pieceErr W q else storeErr W r
def fitsIn (W : Wk) (p : Int) (C : List Piece) (x : Piece) : Bool := decide (x.pat = p) && (decide (goodM W x) && goesP W x C)
def chosen (W : Wk) (p : Int) (C St : List Piece) (j : Nat) : List Int := (idxs j).filter fun i => fitsIn W p C (St.getD i.toNat piece0)
def chooseM (W : Wk) (p : Int) (C St : List Piece) : List Int × Int :=
  if ¬ OkW W then ([], 2) else if ¬ (0 ≤ p ∧ p < W.pats.length) then ([], 7) else if 20 < C.length ∨ 200 < St.length then ([], 5) else if clockErr W C [] ≠ 0 then ([], clockErr W C []) else if storeErr W St ≠ 0 then ([], storeErr W St) else (chosen W p C St St.length, 0)
theorem chosen_succ (W : Wk) (p : Int) (C St : List Piece) (j : Nat) : chosen W p C St (j + 1) = chosen W p C St j ++ (if fitsIn W p C (St.getD j piece0) then [(j : Int)] else []) := by
  unfold chosen
  rw [idxs_succ, List.filter_append]
  congr 1
  simp [List.filter]
  cases fitsIn W p C (St[j]?.getD piece0) <;> simp
theorem chosen_len (W : Wk) (p : Int) (C St : List Piece) (j : Nat) : (chosen W p C St j).length ≤ j := Nat.le_trans (List.length_filter_le _ _) (by simp [idxs])
theorem drop_get {l : List Piece} {i : Nat} (h : i < l.length) : l.drop i = l.getD i piece0 :: l.drop (i + 1) := by
  rw [List.drop_eq_getElem_cons h]; simp [List.getD_eq_getElem?_getD, h]
theorem take_get {l : List Piece} {i : Nat} (h : i < l.length) : l.take (i + 1) = l.take i ++ [l.getD i piece0] := by
  rw [List.take_succ_eq_append_getElem h]; simp [List.getD_eq_getElem?_getD, h]
theorem clockV_keys (L : List CP) (k : Int) : (clockV L).lookup k = none ↔ k ∉ (L.map CP.p).map (·.pat) := by
  induction L with
  | nil => simp [clockV]
  | cons q r ih =>
    simp only [clockV, List.map_cons, List.lookup, List.mem_cons, not_or] at ih ⊢
    by_cases h : k = q.p.pat
    · subst h; simp
    · have : (k == q.p.pat) = false := by simpa using h
      rw [this]; simp only [h, not_false_iff, true_and]; exact ih
theorem clockV_add (L : List CP) (q : CP) : clockV L ++ [(q.p.pat, q.v)] = clockV (L ++ [q]) := by simp [clockV]

def PureL (w : World) (res : List Int × Int) (e : Ending) (w' : World) : Prop := ∃ a c, e = .returned (.tuple #[.slice a res.1.length c, I res.2]) ∧ Below w.heap.size w w' ∧ Lies [] w.heap.size w'.heap.size w' a (ints res.1)
theorem pureL_err {w w' : World} {res : List Int × Int} {x : Int} (h : res = ([], x)) (hb : Below w.heap.size w w') : PureL w res (.returned (.tuple #[.slice none 0 0, I x])) w' := by
  subst h
  exact ⟨none, 0, rfl, hb, fun i v hi => by simp [ints] at hi⟩

set_option maxRecDepth 100000 in
set_option maxHeartbeats 1000000 in
theorem Choose_l {w : World} {W : Wk} {pa fa ca sa : Option Addr} {pc fc cc sc : Nat} {p : Int} {C St : List Piece} (hp : CellsS w pa W.pats) (hf : Cells w fa (fitsV W.fits)) (hS : Small W) (hC : CellsP w ca C) (hT : CellsP w sa St) (lC : C.length ≤ 1000) (lT : St.length ≤ 1000) (xC : ∀ x ∈ C, x.sizes.length ≤ 17592186044000) (xT : ∀ x ∈ St, x.sizes.length ≤ 17592186044000) :
    Calls Try.prog 36 #[W.v pa pc fa fc, .slice ca C.length cc, I p, .slice sa St.length sc] w (PureL w (chooseM W p C St)) := by
  have hn := hS.n
  refine vc36 _ _ _ _ _ _ _ _ _ _ _ _ _ w _ fun m1 g1 m2 g2 w1 hb1 hk1 => ?_
  refine Pure.calls (check_any (hp.keep hb1) (hf.keep hb1) hS) fun w2 hd2 => ⟨_, rfl, .all hd2, fun h1 w3 hb3 _ => ?_, fun h1 => ?_⟩
  · exact pureL_err (by unfold chooseM; rw [if_pos (checkE_ne.1 h1)]) hb3
  have hok : OkW W := checkE_ok.1 h1
  have hb2 := hb1.trans (hd2.mono hb1.size)
  refine ⟨by omega, fun m4 g4 w4 hb4 hk4 hc4 => ?_⟩
  refine Pure.calls (in1_any hc4) fun w5 hd5 => ⟨_, rfl, .all hd5, fun h2 w6 hb6 _ => ?_, fun h2 => ?_⟩
  · refine pureL_err ?_ hb6
    simp only [Bool.not_eq_true', decide_eq_false_iff_not] at h2
    unfold chooseM; rw [if_neg (by simpa using hok), if_pos (by omega)]
  have hpn : 0 ≤ p ∧ p < W.pats.length := by
    simp only [Bool.not_eq_false', decide_eq_true_eq] at h2
    omega
  have e5 : (20 < C.length ∨ 200 < St.length) → chooseM W p C St = ([], 5) := fun h => by unfold chooseM; rw [if_neg (by simpa using hok), if_neg (by simpa using hpn), if_pos h]
  refine ⟨fun h20 => ⟨fun _ w7 hb7 _ => pureL_err (e5 (.inl (by omega))) hb7, fun h => by exfalso; omega⟩, fun h20 => ⟨fun h200 w9 hb9 _ => pureL_err (e5 (.inr (by omega))) hb9, fun h200 => ?_⟩⟩
  have hM : chooseM W p C St = if clockErr W C [] ≠ 0 then ([], clockErr W C []) else if storeErr W St ≠ 0 then ([], storeErr W St) else (chosen W p C St St.length, 0) := by
    unfold chooseM; rw [if_neg (by simpa using hok), if_neg (by simpa using hpn), if_neg (by omega)]
  intro w10 hb10 hk10
  have o1 := hk10.own m1 (by simp)
  have o2 := hk10.own m2 (by simp)
  have o4 := hk10.own m4 (by simp)
  have z10 := hb10.size
  refine mkMap (K := Int) (enc := I) fun w11 hd11 M11 => ⟨_, rfl, .all hd11, ?_⟩
  have l11 := M11.lt
  generalize w10.heap.size = tm at *
  have nt : tm ∉ [m4, m2, m1] := by simp only [List.mem_cons, List.not_mem_nil, or_false]; omega
  have gd : ∀ {l : List Piece} {i : Nat}, (∀ x ∈ l, x.sizes.length ≤ 17592186044000) → i < l.length → (l.getD i piece0).sizes.length ≤ 17592186044000 := fun {l i} h hi => h _ (by simp [List.getD_eq_getElem?_getD, hi])
  refine ⟨fun ls w' => match ls with | [.sl a n c, .int _ _, .int _ ii] => (0 ≤ ii ∧ ii ≤ C.length) ∧ (∃ L : List CP, L.map CP.p = C.take ii.toNat ∧ (∀ q ∈ L, pieceErr W q.p = 0 ∧ Cells w q.a (ints q.p.sizes)) ∧ MapC w' tm I (clockV L)) ∧ clockErr W C [] = clockErr W (C.drop ii.toNat) ((C.take ii.toNat).map (·.pat)) ∧ (a = none ∧ n = 0 ∧ c = 0) | _ => False,
    fun ls => match ls with | [_, _, .int _ ii] => (C.length - ii).toNat | _ => 0, fun w43 hb43 hk43 => ⟨⟨by omega, by omega⟩, ⟨[], rfl, by simp, M11.chg (Chg.kept hk43) nt⟩, rfl, rfl, rfl, rfl⟩, ?_⟩
  rintro a7 n7 c7 x11 x12 w44 hb44 ⟨⟨x0, xl⟩, ⟨L, hL, hLq, M44⟩, hE, rfl, rfl, rfl⟩
  have l44 := M44.lt
  refine ⟨fun hlt => ?_, fun hge => ?_⟩
  · have hi : x12.toNat < C.length := by omega
    refine load_piece hC hb44 ⟨x0, hlt⟩ fun m41 m42 hm a8 c8 hcell => ⟨.inl hm, fun m45 g45 w45 hb45 hk45 => ?_⟩
    have hq1 := gd xC hi
    have htk := take_get hi
    rw [drop_get hi] at hE
    generalize C.getD x12.toNat ⟨0, []⟩ = q at *
    have e1 : (x12 + 1).toNat = x12.toNat + 1 := by omega
    refine Pure.calls (pcheck_any q (hcell.keep hb45) hq1 (hp.keep hb45) hS) fun w46 hd46 => ⟨_, rfl, .all hd46, fun hx w47 hb47 _ => ?_, fun hx w48 hb48 hk48 => ?_⟩
    · have : clockErr W C [] = pieceErr W q := by rw [hE]; unfold clockErr; rw [if_pos hx]
      exact pureL_err (by rw [hM, this, if_pos hx]) hb47
    have nt5 : tm ∉ [m4, m45, m2, m1] := by simp only [List.mem_cons, List.not_mem_nil, or_false]; omega
    have M48 := ((M44.chg (Chg.kept hk45) nt5).below hd46).chg (Chg.kept hk48) nt5
    refine lookup_ok keyI (P := Try.prog) (mt := 138) (vt := 40) (by kernel_rfl) M48 q.pat (z := .agg #[I 0, .slice none 0 0]) (by kernel_rfl) ?_
    have hkeys := clockV_keys L q.pat
    rw [hL] at hkeys
    have hcl := clock_look L q.pat
    cases hl : lookC L q.pat with
    | some q' =>
      rw [hcl, hl]
      refine ⟨q'.p.pat, q'.a, q'.p.sizes.length, q'.c, true, rfl, .all (.refl _ _), fun m50 g50 => ⟨fun _ w50 hb50 _ => ?_, fun h => (by cases h)⟩⟩
      have hin : q.pat ∈ (C.take x12.toNat).map (·.pat) := Classical.byContradiction fun h => by
        have := hkeys.2 h
        rw [hcl, hl] at this
        cases this
      have : clockErr W C [] = 6 := by rw [hE]; unfold clockErr; rw [if_neg (by simpa using hx), if_pos hin]
      exact pureL_err (by rw [hM, this, if_pos (by omega)]) hb50
    | none =>
      rw [hcl, hl]
      have hln : (clockV L).lookup q.pat = none := by rw [hcl, hl]; rfl
      refine ⟨0, none, 0, 0, false, rfl, .all (.refl _ _), fun m50 g50 => ⟨fun h => (by cases h), fun _ w51 hb51 hk51 => ?_⟩⟩
      have nt6 : tm ∉ [m4, m50, m45, m2, m1] := by have := M48.lt; simp only [List.mem_cons, List.not_mem_nil, or_false]; omega
      have M51 := M48.chg (Chg.kept hk51) nt6
      refine update_new keyI (P := Try.prog) (mt := 138) (vt := 40) (by kernel_rfl) M51 q.pat (.agg #[I q.pat, .slice a8 q.sizes.length c8]) hln fun w52 M52 c52 => ?_
      refine ⟨c52.own (fun x hx => ⟨hk51.own x hx, fun h => nt6 (by simp only [List.mem_singleton] at h; subst h; exact hx)⟩) (by simp) (fun _ => ⟨hb51.size, fun x hx => by simp only [List.mem_singleton] at hx; omega⟩), ⟨by omega, by omega⟩, fun w53 hb53 hk53 => ⟨⟨⟨by omega, by omega⟩, ⟨L ++ [⟨q, a8, c8⟩], ?_, fun q' hq' => ?_, ?_⟩, ?_, rfl, rfl, rfl⟩, by simp only; omega⟩⟩
      · rw [e1, htk, List.map_append, hL]; rfl
      · rcases List.mem_append.1 hq' with hq' | hq'
        · exact hLq q' hq'
        · simp only [List.mem_singleton] at hq'
          subst hq'
          exact ⟨hx, hcell⟩
      · rw [← clockV_add]
        exact M52.chg (Chg.kept hk53) nt6
      · have hni := hkeys.1 hln
        rw [hE, e1, htk, List.map_append]
        show clockErr W (q :: C.drop (x12.toNat + 1)) ((C.take x12.toNat).map (·.pat)) = _
        rw [clockErr, if_neg (by simpa using hx), if_neg hni]
        rfl
  · have e12 : x12.toNat = C.length := by omega
    rw [e12, List.drop_length] at hE
    rw [e12, List.take_length] at hL
    have hE0 : clockErr W C [] = 0 := hE
    have hM2 : chooseM W p C St = if storeErr W St ≠ 0 then ([], storeErr W St) else (chosen W p C St St.length, 0) := by rw [hM, if_neg (by simpa using hE0)]
    refine ⟨fun ls w' => match ls with | [.sl a n c, .int _ _, .int _ jj] => (0 ≤ jj ∧ jj ≤ St.length) ∧ n = (chosen W p C St jj.toNat).length ∧ RowE 3 1 w44.heap.size [m4, m2, m1] a n c (ints (chosen W p C St jj.toNat)) w' ∧ MapC w' tm I (clockV L) ∧ storeErr W St = storeErr W (St.drop jj.toNat) ∧ w44.heap.size ≤ w'.heap.size | _ => False,
      fun ls => match ls with | [_, _, .int _ jj] => (St.length - jj).toNat | _ => 0, fun w55 hb55 hk55 => ⟨⟨by omega, by omega⟩, rfl, .inr Row.nil, M44.chg (Chg.kept hk55) nt, rfl, hk55.size⟩, ?_⟩
    rintro a10 n10 c10 x16 x17 w56 hb56 ⟨⟨y0, yl⟩, rfl, RR, M56, hSE, z56⟩
    have hcl := chosen_len W p C St x17.toNat
    have z44 := hb44.size
    refine ⟨fun hlt => ?_, fun hge w70 hb70 hk70 => ?_⟩
    rotate_left
    · have ej : x17.toNat = St.length := by omega
      rw [ej, List.drop_length] at hSE
      rw [ej] at RR ⊢
      have hSE0 : storeErr W St = 0 := hSE
      have hfin : chooseM W p C St = (chosen W p C St St.length, 0) := by rw [hM2, if_neg (by simpa using hSE0)]
      have R70 := RR.chg (Chg.kept hk70) (fun _ h => h)
      unfold PureL
      rw [hfin]
      exact ⟨_, _, rfl, hb70, rowE_lies R70 z44⟩
    have hj : x17.toNat < St.length := by omega
    refine load_piece hT hb56 ⟨y0, hlt⟩ fun m54 m55 hm a11 c11 hcell => ⟨.inl hm, fun m58 g58 w57 hb57 hk57 => ?_⟩
    have hq1 := gd xT hj
    have hch := chosen_succ W p C St x17.toNat
    rw [drop_get hj] at hSE
    generalize St.getD x17.toNat ⟨0, []⟩ = q at *
    have e1 : (x17 + 1).toNat = x17.toNat + 1 := by omega
    refine Pure.calls (pcheck_any q (hcell.keep hb57) hq1 (hp.keep hb57) hS) fun w58 hd58 => ⟨_, rfl, .all hd58, fun hx w59 hb59 _ => ?_, fun hx => ?_⟩
    · have : storeErr W St = pieceErr W q := by rw [hSE]; unfold storeErr; rw [if_pos hx]
      exact pureL_err (by rw [hM2, this, if_pos hx]) hb59
    have hSE' : storeErr W St = storeErr W (St.drop (x17 + 1).toNat) := by
      rw [hSE, e1]
      show storeErr W (q :: St.drop (x17.toNat + 1)) = _
      rw [storeErr, if_neg (by simpa using hx)]
    obtain ⟨bq, lq, _⟩ := pieceErr_ok hx
    have l56 := M56.lt
    have nt5 : tm ∉ [m4, m58, m2, m1] := by simp only [List.mem_cons, List.not_mem_nil, or_false]; omega
    have sub : ∀ x ∈ [m4, m58, m2, m1], x ∈ [m58] ++ [m4, m2, m1] := fun x hx => by simp only [List.mem_cons, List.mem_append, List.not_mem_nil, or_false] at hx ⊢; omega
    have R57 := (RR.grow (ms := [m58]) (allc g58 all0)).chg (Chg.kept hk57) sub
    have M57 := M56.chg (Chg.kept hk57) nt5
    have R58 := R57.chg (Chg.of_below (S := []) hd58) (by simp)
    have M58 := M57.below hd58
    have z57 := hk57.size
    have z58 := hd58.size
    have next : ∀ {w' : World}, fitsIn W p C q = false → RowE 3 1 w44.heap.size ([m58] ++ [m4, m2, m1]) a10 (chosen W p C St x17.toNat).length c10 (ints (chosen W p C St x17.toNat)) w' → MapC w' tm I (clockV L) → w44.heap.size ≤ w'.heap.size →
        ((0 ≤ x17 + 1 ∧ x17 + 1 ≤ St.length) ∧ (chosen W p C St x17.toNat).length = (chosen W p C St (x17 + 1).toNat).length ∧ RowE 3 1 w44.heap.size [m4, m2, m1] a10 (chosen W p C St x17.toNat).length c10 (ints (chosen W p C St (x17 + 1).toNat)) w' ∧ MapC w' tm I (clockV L) ∧ storeErr W St = storeErr W (St.drop (x17 + 1).toNat) ∧ w44.heap.size ≤ w'.heap.size) := fun {w'} hF hR hMm hz => by
      have : chosen W p C St (x17 + 1).toNat = chosen W p C St x17.toNat := by rw [e1, hch, hF]; simp
      rw [this]
      exact ⟨⟨by omega, by omega⟩, rfl, hR.less (by simp), hMm, hSE', hz⟩
    refine ⟨fun hpat w60 hb60 hk60 => ?_, fun hpat => ⟨⟨by omega, by omega⟩, fun w69 hb69 hk69 => ⟨next (by unfold fitsIn; rw [decide_eq_false hpat]; rfl) (R58.chg (Chg.kept hk69) sub) (M58.chg (Chg.kept hk69) nt5) (by have := hk69.size; omega), by simp only; omega⟩⟩⟩
    have R60 := R58.chg (Chg.kept hk60) sub
    have M60 := M58.chg (Chg.kept hk60) nt5
    have z60 := hk60.size
    refine Pure.calls (isGood_any q (hcell.keep hb60) hq1 (hp.keep hb60) hS bq lq) fun w61 hd61 => ⟨_, rfl, .all hd61, fun hg w62 hb62 hk62 => ?_, fun hg => ⟨⟨by omega, by omega⟩, fun w68 hb68 hk68 => ⟨next (by unfold fitsIn; rw [hg]; simp) ((R60.chg (Chg.of_below (S := []) hd61) (by simp)).chg (Chg.kept hk68) sub) ((M60.below hd61).chg (Chg.kept hk68) nt5) (by have := hk68.size; have := hd61.size; omega), by simp only; omega⟩⟩⟩
    have R62 := (R60.chg (Chg.of_below (S := []) hd61) (by simp)).chg (Chg.kept hk62) sub
    have M62 := (M60.below hd61).chg (Chg.kept hk62) nt5
    have z61 := hd61.size
    have z62 := hk62.size
    have hgo := goesC_eq W q L
    rw [hL] at hgo
    refine Pure.calls (goes_any (hf.keep hb62) hok (hcell.keep hb62) hx M62 (fun q' hq' => ⟨(hLq q' hq').1, (hLq q' hq').2.keep hb62⟩)) fun w63 hd63 => ⟨_, rfl, .all hd63, fun ht m62 g62 w64 hb64 hk64 hc64 => ?_, fun ht => ⟨⟨by omega, by omega⟩, fun w67 hb67 hk67 => ⟨next (by unfold fitsIn; rw [← hgo, ht]; simp) ((R62.chg (Chg.of_below (S := []) hd63) (by simp)).chg (Chg.kept hk67) sub) ((M62.below hd63).chg (Chg.kept hk67) nt5) (by have := hk67.size; have := hd63.size; omega), by simp only; omega⟩⟩⟩
    have z63 := hd63.size
    have z64 := hk64.size
    have sub2 : ∀ x ∈ [m62, m4, m58, m2, m1], x ∈ [m62] ++ ([m58] ++ [m4, m2, m1]) := fun x hx => by simp only [List.mem_cons, List.mem_append, List.not_mem_nil, or_false] at hx ⊢; omega
    have sub3 : ∀ x ∈ [m62] ++ ([m58] ++ [m4, m2, m1]), x ∈ [m62, m4, m58, m2, m1] := fun x hx => by simp only [List.mem_cons, List.mem_append, List.not_mem_nil, or_false] at hx ⊢; omega
    have R64 := ((R62.chg (Chg.of_below (S := []) hd63) (by simp)).grow (ms := [m62]) (allc g62 all0)).chg (Chg.kept hk64) sub2
    have M63 := M62.below hd63
    have l63 := M63.lt
    have nt6 : tm ∉ [m62, m4, m58, m2, m1] := by simp only [List.mem_cons, List.not_mem_nil, or_false]; omega
    have M64 := M63.chg (Chg.kept hk64) nt6
    have hF : fitsIn W p C q = true := by
      unfold fitsIn
      rw [← hgo, ht, decide_eq_true hpat, hg]; rfl
    have e2 : chosen W p C St (x17 + 1).toNat = chosen W p C St x17.toNat ++ [x17] := by
      rw [e1, hch, hF, if_pos rfl, Int.toNat_of_nonneg y0]
    refine append_rowE (P := Try.prog) (bytes := 8) (by kernel_rfl) (by omega) R64 (m := 1) (news := [I x17]) (Cells.obj (vs := [I x17]) hc64) rfl (List.forall_mem_cons.2 ⟨rfl, by simp⟩) (by omega) (by omega) (by omega) (fun x hx => hk64.own x (sub3 x hx)) (by omega) fun a12 c12 w65 R65 S65 cS65 hS65 => ?_
    have z65 := cS65.size
    refine ⟨_, _, _, rfl, cS65.own (fun x hx => ⟨hk64.own x hx, fun h => (hS65 x h).2 (sub2 x hx)⟩) (by simp) (fun _ => ⟨hb64.size, fun x hx => by have := (hS65 x hx).1; omega⟩), ⟨by omega, by omega⟩, fun w66 hb66 hk66 => ⟨⟨⟨by omega, by omega⟩, by rw [e2]; simp, ?_, ?_, hSE', by have := hk66.size; omega⟩, by simp only; omega⟩⟩
    · rw [e2, ints_append]
      exact .inr ((R65.chg (Chg.kept hk66) sub2).less (by simp))
    · exact (M64.chg cS65 (fun h => by have := (hS65 _ h).1; omega)).chg (Chg.kept hk66) nt6
end Go.Proofs.R12
end
section
/- The conditions of the functions, printed by program; each is what the generator reckons (kernel_rfl). -/
namespace Go.Proofs
open Go.Vc
set_option maxRecDepth 100000 in
set_option maxHeartbeats 2000000 in
theorem vc45  (w : World) (R : Ending → World → Prop) (h : ∀ (m1 : Nat), w.heap.size ≤ m1 → ∀ (w1 : World), RowKit.Below w.heap.size w w1 → Kept [m1] w w1 → Calls Try.prog 42
    #[Value.int IntKind.i64 1000, Value.int IntKind.i64 1010] w1 fun (e1 : Ending) (w2 : World) => ∃ (x1 : Int), ∃ (x2 : Int), e1 = Ending.returned (Value.agg #[Value.int
    IntKind.i64 x1, Value.int IntKind.i64 x2]) ∧ KeepX true w.heap.size [m1] (fun _ => False) w1 w2 ∧ ∀ (m3 : Nat), w2.heap.size ≤ m3 → ∀ (w3 : World), RowKit.Below w.heap.size w
    w3 → Kept [m3, m1] w2 w3 → Calls Try.prog 42 #[Value.int IntKind.i64 990, Value.int IntKind.i64 998] w3 fun (e2 : Ending) (w4 : World) => ∃ (x3 : Int), ∃ (x4 : Int), e2 =
    Ending.returned (Value.agg #[Value.int IntKind.i64 x3, Value.int IntKind.i64 x4]) ∧ KeepX true w.heap.size [m3, m1] (fun _ => False) w3 w4 ∧ ∀ (m5 : Nat), w4.heap.size ≤ m5 → ∀
    (m6 : Nat), w4.heap.size ≤ m6 → ∀ (w5 : World), RowKit.Below w.heap.size w w5 → Kept [m6, m5, m3, m1] w4 w5 → Calls Try.prog 42 #[Value.int IntKind.i64 2, Value.int IntKind.i64
    15] w5 fun (e3 : Ending) (w6 : World) => ∃ (x5 : Int), ∃ (x6 : Int), e3 = Ending.returned (Value.agg #[Value.int IntKind.i64 x5, Value.int IntKind.i64 x6]) ∧ KeepX true
    w.heap.size [m6, m5, m3, m1] (fun _ => False) w5 w6 ∧ ∀ (m8 : Nat), w6.heap.size ≤ m8 → ∀ (w7 : World), RowKit.Below w.heap.size w w7 → Kept [m8, m6, m5, m3, m1] w6 w7 →
    w7.heap[m6]? = some (Obj.cells #[Value.slice (some { block := m3, off := 0 }) 1 1, Value.slice (some { block := m5, off := 0 }) 1 1] 89) → w7.heap[m8]? = some (Obj.cells
    #[Value.int IntKind.i64 0, Value.int IntKind.i64 0, Value.int IntKind.i64 1, Value.int IntKind.i64 0, Value.int IntKind.i64 x5, Value.int IntKind.i64 x6] 67) → w7.heap[m3]? =
    some (Obj.cells #[Value.int IntKind.i64 x1, Value.int IntKind.i64 x2] 42) → w7.heap[m5]? = some (Obj.cells #[Value.int IntKind.i64 x3, Value.int IntKind.i64 x4] 42) → R
    (Ending.returned (Value.agg #[Value.slice (some { block := m6, off := 0 }) 2 2, Value.slice (some { block := m8, off := 0 }) 1 1])) w7) : Calls Try.prog 45 #[] w R :=
    calls_of_vc (pure := true) (wrapAt := []) (muts := []) (esc := []) (args := []) (vs := []) Try.func45 rfl rfl rfl (Eq.mp (by kernel_rfl) h) 
set_option maxRecDepth 100000 in
set_option maxHeartbeats 2000000 in
theorem vc14  (w : World) (R : Ending → World → Prop) (h : ∀ (w1 : World), RowKit.Below w.heap.size w w1 → Kept [] w w1 → Calls Try.prog 45 #[] w1 fun (e1 : Ending) (w2 : World) =>
    ∃ (a1 : Option Addr), ∃ (m1 : Nat), ∃ (m2 : Nat), ∃ (a2 : Option Addr), ∃ (m3 : Nat), ∃ (m4 : Nat), e1 = Ending.returned (Value.agg #[Value.slice a1 m1 m2, Value.slice a2 m3
    m4]) ∧ KeepX true w.heap.size [] (fun _ => False) w1 w2 ∧ ∀ (w3 : World), RowKit.Below w.heap.size w w3 → Kept [] w2 w3 → Calls Try.prog 17 #[Value.agg #[Value.slice a1 m1 m2,
    Value.slice a2 m3 m4]] w3 fun (e2 : Ending) (w4 : World) => ∃ (a3 : Option Addr), ∃ (m6 : Nat), ∃ (m7 : Nat), ∃ (x1 : Int), e2 = Ending.returned (Value.tuple #[Value.slice a3
    m6 m7, Value.int IntKind.i64 x1]) ∧ KeepX true w.heap.size [] (fun _ => False) w3 w4 ∧ ∀ (w5 : World), RowKit.Below w.heap.size w w5 → Kept [] w4 w5 → Calls Try.prog 45 #[] w5
    fun (e3 : Ending) (w6 : World) => ∃ (a4 : Option Addr), ∃ (m9 : Nat), ∃ (m10 : Nat), ∃ (a5 : Option Addr), ∃ (m11 : Nat), ∃ (m12 : Nat), e3 = Ending.returned (Value.agg
    #[Value.slice a4 m9 m10, Value.slice a5 m11 m12]) ∧ KeepX true w.heap.size [] (fun _ => False) w5 w6 ∧ ∀ (w7 : World), RowKit.Below w.heap.size w w7 → Kept [] w6 w7 → Calls
    Try.prog 42 #[Value.int IntKind.i64 (-2), Value.int IntKind.i64 1] w7 fun (e4 : Ending) (w8 : World) => ∃ (x2 : Int), ∃ (x3 : Int), e4 = Ending.returned (Value.agg #[Value.int
    IntKind.i64 x2, Value.int IntKind.i64 x3]) ∧ KeepX true w.heap.size [] (fun _ => False) w7 w8 ∧ ∀ (w9 : World), RowKit.Below w.heap.size w w9 → Kept [] w8 w9 → Calls Try.prog
    24 #[Value.agg #[Value.slice a4 m9 m10, Value.slice a5 m11 m12], Value.int IntKind.i64 0, Value.int IntKind.i64 0, Value.agg #[Value.int IntKind.i64 x2, Value.int IntKind.i64
    x3]] w9 fun (e5 : Ending) (w10 : World) => ∃ (x4 : Int), ∃ (x5 : Int), ∃ (x6 : Int), ∃ (x7 : Int), ∃ (x8 : Int), e5 = Ending.returned (Value.tuple #[Value.agg #[Value.int
    IntKind.i64 x4, Value.int IntKind.i64 x5], Value.agg #[Value.int IntKind.i64 x6, Value.int IntKind.i64 x7], Value.int IntKind.i64 x8]) ∧ KeepX true w.heap.size [] (fun _ =>
    False) w9 w10 ∧ ∀ (m16 : Nat), w10.heap.size ≤ m16 → ∀ (m17 : Nat), w10.heap.size ≤ m17 → ∀ (w11 : World), RowKit.Below w.heap.size w w11 → Kept [m17, m16] w10 w11 → Calls
    Try.prog 45 #[] w11 fun (e6 : Ending) (w12 : World) => ∃ (a6 : Option Addr), ∃ (m18 : Nat), ∃ (m19 : Nat), ∃ (a7 : Option Addr), ∃ (m20 : Nat), ∃ (m21 : Nat), e6 =
    Ending.returned (Value.agg #[Value.slice a6 m18 m19, Value.slice a7 m20 m21]) ∧ KeepX true w.heap.size [m17, m16] (fun _ => False) w11 w12 ∧ ∀ (m23 : Nat), w12.heap.size ≤ m23
    → ∀ (m24 : Nat), w12.heap.size ≤ m24 → ∀ (w13 : World), RowKit.Below w.heap.size w w13 → Kept [m24, m23, m17, m16] w12 w13 → w13.heap[m23]? = some (Obj.cells #[Value.int
    IntKind.i64 1000, Value.int IntKind.i64 1012, Value.int IntKind.i64 1001] 3) → w13.heap[m24]? = some (Obj.cells #[Value.int IntKind.i64 999, Value.int IntKind.i64 995,
    Value.int IntKind.i64 1003] 3) → Calls Try.prog 30 #[Value.agg #[Value.slice a6 m18 m19, Value.slice a7 m20 m21], Value.int IntKind.i64 0, Value.slice (some
    { block := m23, off := 0 }) 3 3, Value.slice (some { block := m24, off := 0 }) 3 3] w13 fun (e7 : Ending) (w14 : World) => ∃ (a8 : Option Addr), ∃ (m27 : Nat), ∃ (m28 : Nat), ∃
    (x9 : Int), e7 = Ending.returned (Value.tuple #[Value.slice a8 m27 m28, Value.int IntKind.i64 x9]) ∧ KeepX true w.heap.size [m24, m23, m17, m16] (fun _ => False) w13 w14 ∧ ∀
    (w15 : World), RowKit.Below w.heap.size w w15 → Kept [m24, m23, m17, m16] w14 w15 → Calls Try.prog 45 #[] w15 fun (e8 : Ending) (w16 : World) => ∃ (a9 : Option Addr), ∃ (m30 :
    Nat), ∃ (m31 : Nat), ∃ (a10 : Option Addr), ∃ (m32 : Nat), ∃ (m33 : Nat), e8 = Ending.returned (Value.agg #[Value.slice a9 m30 m31, Value.slice a10 m32 m33]) ∧ KeepX true
    w.heap.size [m24, m23, m17, m16] (fun _ => False) w15 w16 ∧ ∀ (m35 : Nat), w16.heap.size ≤ m35 → ∀ (m36 : Nat), w16.heap.size ≤ m36 → ∀ (w17 : World), RowKit.Below w.heap.size
    w w17 → Kept [m36, m35, m24, m23, m17, m16] w16 w17 → w17.heap[m35]? = some (Obj.cells #[Value.int IntKind.i64 1000, Value.int IntKind.i64 1030, Value.int IntKind.i64 1001] 3)
    → w17.heap[m36]? = some (Obj.cells #[Value.int IntKind.i64 995, Value.int IntKind.i64 996, Value.int IntKind.i64 997] 3) → Calls Try.prog 31 #[Value.agg #[Value.slice a9 m30
    m31, Value.slice a10 m32 m33], Value.int IntKind.i64 0, Value.slice (some { block := m35, off := 0 }) 3 3, Value.slice (some { block := m36, off := 0 }) 3 3] w17 fun (e9 :
    Ending) (w18 : World) => ∃ (a11 : Option Addr), ∃ (m39 : Nat), ∃ (m40 : Nat), ∃ (a12 : Option Addr), ∃ (m41 : Nat), ∃ (m42 : Nat), ∃ (x10 : Int), e9 = Ending.returned
    (Value.tuple #[Value.slice a11 m39 m40, Value.slice a12 m41 m42, Value.int IntKind.i64 x10]) ∧ KeepX true w.heap.size [m36, m35, m24, m23, m17, m16] (fun _ => False) w17 w18 ∧
    ∀ (w19 : World), RowKit.Below w.heap.size w w19 → Kept [m36, m35, m24, m23, m17, m16] w18 w19 → Calls Try.prog 45 #[] w19 fun (e10 : Ending) (w20 : World) => ∃ (a13 : Option
    Addr), ∃ (m44 : Nat), ∃ (m45 : Nat), ∃ (a14 : Option Addr), ∃ (m46 : Nat), ∃ (m47 : Nat), e10 = Ending.returned (Value.agg #[Value.slice a13 m44 m45, Value.slice a14 m46 m47])
    ∧ KeepX true w.heap.size [m36, m35, m24, m23, m17, m16] (fun _ => False) w19 w20 ∧ ∀ (m49 : Nat), w20.heap.size ≤ m49 → ∀ (m50 : Nat), w20.heap.size ≤ m50 → ∀ (m51 : Nat),
    w20.heap.size ≤ m51 → ∀ (m52 : Nat), w20.heap.size ≤ m52 → ∀ (m53 : Nat), w20.heap.size ≤ m53 → ∀ (m54 : Nat), w20.heap.size ≤ m54 → ∀ (w21 : World), RowKit.Below w.heap.size w
    w21 → Kept [m54, m53, m52, m51, m50, m49, m36, m35, m24, m23, m17, m16] w20 w21 → w21.heap[m50]? = some (Obj.cells #[Value.int IntKind.i64 0, Value.slice (some
    { block := m49, off := 0 }) 1 1] 40) → w21.heap[m54]? = some (Obj.cells #[Value.int IntKind.i64 1, Value.slice (some { block := m51, off := 0 }) 1 1, Value.int IntKind.i64 1,
    Value.slice (some { block := m52, off := 0 }) 1 1, Value.int IntKind.i64 1, Value.slice (some { block := m53, off := 0 }) 1 1] 40) → w21.heap[m49]? = some (Obj.cells
    #[Value.int IntKind.i64 1010] 3) → w21.heap[m51]? = some (Obj.cells #[Value.int IntKind.i64 990] 3) → w21.heap[m52]? = some (Obj.cells #[Value.int IntKind.i64 996] 3) →
    w21.heap[m53]? = some (Obj.cells #[Value.int IntKind.i64 999] 3) → Calls Try.prog 36 #[Value.agg #[Value.slice a13 m44 m45, Value.slice a14 m46 m47], Value.slice (some
    { block := m50, off := 0 }) 1 1, Value.int IntKind.i64 1, Value.slice (some { block := m54, off := 0 }) 3 3] w21 fun (e11 : Ending) (w22 : World) => ∃ (a15 : Option Addr), ∃
    (m61 : Nat), ∃ (m62 : Nat), ∃ (x11 : Int), e11 = Ending.returned (Value.tuple #[Value.slice a15 m61 m62, Value.int IntKind.i64 x11]) ∧ KeepX true w.heap.size [m54, m53, m52,
    m51, m50, m49, m36, m35, m24, m23, m17, m16] (fun _ => False) w21 w22 ∧ ∀ (w23 : World), RowKit.Below w.heap.size w w23 → Kept [m54, m53, m52, m51, m50, m49, m36, m35, m24,
    m23, m17, m16] w22 w23 → Calls Try.prog 42 #[Value.int IntKind.i64 5, Value.int IntKind.i64 9] w23 fun (e12 : Ending) (w24 : World) => ∃ (x12 : Int), ∃ (x13 : Int), e12 =
    Ending.returned (Value.agg #[Value.int IntKind.i64 x12, Value.int IntKind.i64 x13]) ∧ KeepX true w.heap.size [m54, m53, m52, m51, m50, m49, m36, m35, m24, m23, m17, m16] (fun _
    => False) w23 w24 ∧ ∀ (m65 : Nat), w24.heap.size ≤ m65 → ∀ (m66 : Nat), w24.heap.size ≤ m66 → ∀ (w25 : World), RowKit.Below w.heap.size w w25 → Kept [m66, m65, m54, m53, m52,
    m51, m50, m49, m36, m35, m24, m23, m17, m16] w24 w25 → w25.heap[m65]? = some (Obj.cells #[Value.int IntKind.i64 10, Value.int IntKind.i64 0, Value.int IntKind.i64 20] 80) →
    w25.heap[m66]? = some (Obj.cells #[Value.int IntKind.i64 3, Value.int IntKind.i64 12] 3) → Calls Try.prog 38 #[Value.agg #[Value.int IntKind.i64 x12, Value.int IntKind.i64
    x13], Value.slice (some { block := m65, off := 0 }) 1 1, Value.slice (some { block := m66, off := 0 }) 2 2] w25 fun (e13 : Ending) (w26 : World) => ∃ (a16 : Option Addr), ∃
    (m69 : Nat), ∃ (m70 : Nat), ∃ (x14 : Int), e13 = Ending.returned (Value.tuple #[Value.slice a16 m69 m70, Value.int IntKind.i64 x14]) ∧ KeepX true w.heap.size [m66, m65, m54,
    m53, m52, m51, m50, m49, m36, m35, m24, m23, m17, m16] (fun _ => False) w25 w26 ∧ ∀ (w27 : World), RowKit.Below w.heap.size w w27 → Kept [m66, m65, m54, m53, m52, m51, m50,
    m49, m36, m35, m24, m23, m17, m16] w26 w27 → Calls Try.prog 45 #[] w27 fun (e14 : Ending) (w28 : World) => ∃ (a17 : Option Addr), ∃ (m72 : Nat), ∃ (m73 : Nat), ∃ (a18 : Option
    Addr), ∃ (m74 : Nat), ∃ (m75 : Nat), e14 = Ending.returned (Value.agg #[Value.slice a17 m72 m73, Value.slice a18 m74 m75]) ∧ KeepX true w.heap.size [m66, m65, m54, m53, m52,
    m51, m50, m49, m36, m35, m24, m23, m17, m16] (fun _ => False) w27 w28 ∧ ∀ (m77 : Nat), w28.heap.size ≤ m77 → ∀ (w29 : World), RowKit.Below w.heap.size w w29 → Kept [m77, m66,
    m65, m54, m53, m52, m51, m50, m49, m36, m35, m24, m23, m17, m16] w28 w29 → w29.heap[m77]? = some (Obj.cells #[Value.int IntKind.i64 998] 3) → Calls Try.prog 23 #[Value.agg
    #[Value.slice a17 m72 m73, Value.slice a18 m74 m75], Value.agg #[Value.int IntKind.i64 1, Value.slice (some { block := m77, off := 0 }) 1 1]] w29 fun (e15 : Ending) (w30 :
    World) => ∃ (t1 : Bool), ∃ (x15 : Int), e15 = Ending.returned (Value.tuple #[Value.bool t1, Value.int IntKind.i64 x15]) ∧ KeepX true w.heap.size [m77, m66, m65, m54, m53, m52,
    m51, m50, m49, m36, m35, m24, m23, m17, m16] (fun _ => False) w29 w30 ∧ ∃ (F1 : List Lf → World → Prop), ((x1 ≠ 0 → ∀ (w32 : World), RowKit.Below w.heap.size w w32 → Kept [m77,
    m66, m65, m54, m53, m52, m51, m50, m49, m36, m35, m24, m23, m17, m16] w30 w32 → F1 [Lf.bool true] w32) ∧ (x1 = 0 → (x8 ≠ 0 → ∀ (w33 : World), RowKit.Below w.heap.size w w33 →
    Kept [m77, m66, m65, m54, m53, m52, m51, m50, m49, m36, m35, m24, m23, m17, m16] w30 w33 → F1 [Lf.bool true] w33) ∧ (x8 = 0 → (x9 ≠ 0 → ∀ (w34 : World), RowKit.Below
    w.heap.size w w34 → Kept [m77, m66, m65, m54, m53, m52, m51, m50, m49, m36, m35, m24, m23, m17, m16] w30 w34 → F1 [Lf.bool true] w34) ∧ (x9 = 0 → (x10 ≠ 0 → ∀ (w35 : World),
    RowKit.Below w.heap.size w w35 → Kept [m77, m66, m65, m54, m53, m52, m51, m50, m49, m36, m35, m24, m23, m17, m16] w30 w35 → F1 [Lf.bool true] w35) ∧ (x10 = 0 → (x11 ≠ 0 → ∀
    (w36 : World), RowKit.Below w.heap.size w w36 → Kept [m77, m66, m65, m54, m53, m52, m51, m50, m49, m36, m35, m24, m23, m17, m16] w30 w36 → F1 [Lf.bool true] w36) ∧ (x11 = 0 →
    (x14 ≠ 0 → ∀ (w37 : World), RowKit.Below w.heap.size w w37 → Kept [m77, m66, m65, m54, m53, m52, m51, m50, m49, m36, m35, m24, m23, m17, m16] w30 w37 → F1 [Lf.bool true] w37) ∧
    (x14 = 0 → (x15 ≠ 0 → ∀ (w38 : World), RowKit.Below w.heap.size w w38 → Kept [m77, m66, m65, m54, m53, m52, m51, m50, m49, m36, m35, m24, m23, m17, m16] w30 w38 → F1 [Lf.bool
    true] w38) ∧ (x15 = 0 → ((↑m6 : Int) ≠ 1 → ∀ (w39 : World), RowKit.Below w.heap.size w w39 → Kept [m77, m66, m65, m54, m53, m52, m51, m50, m49, m36, m35, m24, m23, m17, m16]
    w30 w39 → F1 [Lf.bool true] w39) ∧ ((↑m6 : Int) = 1 → ((↑m27 : Int) ≠ 3 → ∀ (w40 : World), RowKit.Below w.heap.size w w40 → Kept [m77, m66, m65, m54, m53, m52, m51, m50, m49,
    m36, m35, m24, m23, m17, m16] w30 w40 → F1 [Lf.bool true] w40) ∧ ((↑m27 : Int) = 3 → ((↑m39 : Int) ≠ 3 → ∀ (w41 : World), RowKit.Below w.heap.size w w41 → Kept [m77, m66, m65,
    m54, m53, m52, m51, m50, m49, m36, m35, m24, m23, m17, m16] w30 w41 → F1 [Lf.bool true] w41) ∧ ((↑m39 : Int) = 3 → ((↑m41 : Int) ≠ 2 → ∀ (w42 : World), RowKit.Below w.heap.size
    w w42 → Kept [m77, m66, m65, m54, m53, m52, m51, m50, m49, m36, m35, m24, m23, m17, m16] w30 w42 → F1 [Lf.bool true] w42) ∧ ((↑m41 : Int) = 2 → ((↑m61 : Int) ≠ 1 → ∀ (w43 :
    World), RowKit.Below w.heap.size w w43 → Kept [m77, m66, m65, m54, m53, m52, m51, m50, m49, m36, m35, m24, m23, m17, m16] w30 w43 → F1 [Lf.bool true] w43) ∧ ((↑m61 : Int) = 1 →
    ∀ (w44 : World), RowKit.Below w.heap.size w w44 → Kept [m77, m66, m65, m54, m53, m52, m51, m50, m49, m36, m35, m24, m23, m17, m16] w30 w44 → F1 [Lf.bool ((↑m69 : Int) != 2)]
    w44))))))))))))) ∧ ∀ (t2 : Bool) (w45 : World), RowKit.Below w.heap.size w w45 → F1 [Lf.bool t2] w45 → (t2 = true → ∀ (w46 : World), RowKit.Below w.heap.size w w46 → Kept [m77,
    m66, m65, m54, m53, m52, m51, m50, m49, m36, m35, m24, m23, m17, m16] w45 w46 → R (Ending.returned (Value.bool false)) w46) ∧ (t2 = false → ∃ (m80 : Nat), ∃ (m81 : Nat), a3 =
    some { block := m80, off := m81 } ∧ ((0 : Int) ≤ 0 ∧ 0 < (↑m6 : Int)) ∧ ∃ (x16 : Int), ∃ (x17 : Int), ∃ (x18 : Int), w45.cell? { block := m80, off := m81 + Int.toNat 0 * 3 } =
    some (Value.int IntKind.i64 x16) ∧ w45.cell? { block := m80, off := m81 + Int.toNat 0 * 3 + 1 } = some (Value.int IntKind.i64 x17) ∧ w45.cell?
    { block := m80, off := m81 + Int.toNat 0 * 3 + 1 + 1 } = some (Value.int IntKind.i64 x18) ∧ (m80 < w.heap.size ∨ m80 ≠ m77 ∧ m80 ≠ m66 ∧ m80 ≠ m65 ∧ m80 ≠ m54 ∧ m80 ≠ m53 ∧ m80
    ≠ m52 ∧ m80 ≠ m51 ∧ m80 ≠ m50 ∧ m80 ≠ m49 ∧ m80 ≠ m36 ∧ m80 ≠ m35 ∧ m80 ≠ m24 ∧ m80 ≠ m23 ∧ m80 ≠ m17 ∧ m80 ≠ m16) ∧ ∀ (w47 : World), RowKit.Below w.heap.size w w47 → KeptIn
    [(0, w45.heap.size)] [m77, m66, m65, m54, m53, m52, m51, m50, m49, m36, m35, m24, m23, m17, m16] w45 w47 → RunsTo Try.prog ((eqGuard BinOp.eql 37 (Operand.tmp 132) (Operand.tmp
    133) (Value.agg #[Value.int IntKind.i64 x16, Value.int IntKind.i64 x17, Value.int IntKind.i64 x18]) (Value.agg #[Value.int IntKind.i64 0, Value.int IntKind.i64 1006, Value.int
    IntKind.i64 990])) >>= fun _ => binOp BinOp.eql 37 (Value.agg #[Value.int IntKind.i64 x16, Value.int IntKind.i64 x17, Value.int IntKind.i64 x18]) (Value.agg #[Value.int
    IntKind.i64 0, Value.int IntKind.i64 1006, Value.int IntKind.i64 990])) w47 fun (v1 : Value) (w48 : World) => ∃ (t3 : Bool), v1 = Value.bool t3 ∧ KeepX true w.heap.size [m77,
    m66, m65, m54, m53, m52, m51, m50, m49, m36, m35, m24, m23, m17, m16] (fun _ => False) w47 w48 ∧ (t3 = true → ∀ (w49 : World), RowKit.Below w.heap.size w w49 → KeptIn [(0,
    w48.heap.size)] [m77, m66, m65, m54, m53, m52, m51, m50, m49, m36, m35, m24, m23, m17, m16] w48 w49 → Calls Try.prog 42 #[Value.int IntKind.i64 1001, Value.int IntKind.i64
    1008] w49 fun (e16 : Ending) (w50 : World) => ∃ (x19 : Int), ∃ (x20 : Int), e16 = Ending.returned (Value.agg #[Value.int IntKind.i64 x19, Value.int IntKind.i64 x20]) ∧ KeepX
    true w.heap.size [m77, m66, m65, m54, m53, m52, m51, m50, m49, m36, m35, m24, m23, m17, m16] (fun _ => False) w49 w50 ∧ ∀ (w51 : World), RowKit.Below w.heap.size w w51 → KeptIn
    [(0, w50.heap.size)] [m77, m66, m65, m54, m53, m52, m51, m50, m49, m36, m35, m24, m23, m17, m16] w50 w51 → RunsTo Try.prog ((eqGuard BinOp.eql 42 (Operand.tmp 136) (Operand.tmp
    137) (Value.agg #[Value.int IntKind.i64 x4, Value.int IntKind.i64 x5]) (Value.agg #[Value.int IntKind.i64 x19, Value.int IntKind.i64 x20])) >>= fun _ => binOp BinOp.eql 42
    (Value.agg #[Value.int IntKind.i64 x4, Value.int IntKind.i64 x5]) (Value.agg #[Value.int IntKind.i64 x19, Value.int IntKind.i64 x20])) w51 fun (v2 : Value) (w52 : World) => ∃
    (t4 : Bool), v2 = Value.bool t4 ∧ KeepX true w.heap.size [m77, m66, m65, m54, m53, m52, m51, m50, m49, m36, m35, m24, m23, m17, m16] (fun _ => False) w51 w52 ∧ (t4 = true → ∀
    (w53 : World), RowKit.Below w.heap.size w w53 → KeptIn [(0, w52.heap.size)] [m77, m66, m65, m54, m53, m52, m51, m50, m49, m36, m35, m24, m23, m17, m16] w52 w53 → Calls Try.prog
    42 #[Value.int IntKind.i64 998, Value.int IntKind.i64 1011] w53 fun (e17 : Ending) (w54 : World) => ∃ (x21 : Int), ∃ (x22 : Int), e17 = Ending.returned (Value.agg #[Value.int
    IntKind.i64 x21, Value.int IntKind.i64 x22]) ∧ KeepX true w.heap.size [m77, m66, m65, m54, m53, m52, m51, m50, m49, m36, m35, m24, m23, m17, m16] (fun _ => False) w53 w54 ∧ ∀
    (w55 : World), RowKit.Below w.heap.size w w55 → KeptIn [(0, w54.heap.size)] [m77, m66, m65, m54, m53, m52, m51, m50, m49, m36, m35, m24, m23, m17, m16] w54 w55 → RunsTo
    Try.prog ((eqGuard BinOp.eql 42 (Operand.tmp 141) (Operand.tmp 142) (Value.agg #[Value.int IntKind.i64 x6, Value.int IntKind.i64 x7]) (Value.agg #[Value.int IntKind.i64 x21,
    Value.int IntKind.i64 x22])) >>= fun _ => binOp BinOp.eql 42 (Value.agg #[Value.int IntKind.i64 x6, Value.int IntKind.i64 x7]) (Value.agg #[Value.int IntKind.i64 x21, Value.int
    IntKind.i64 x22])) w55 fun (v3 : Value) (w56 : World) => ∃ (t5 : Bool), v3 = Value.bool t5 ∧ KeepX true w.heap.size [m77, m66, m65, m54, m53, m52, m51, m50, m49, m36, m35, m24,
    m23, m17, m16] (fun _ => False) w55 w56 ∧ (t5 = true → ∃ (m87 : Nat), ∃ (m88 : Nat), a8 = some { block := m87, off := m88 } ∧ ((0 : Int) ≤ 0 ∧ 0 < (↑m27 : Int)) ∧ ∃ (x23 :
    Int), ∃ (x24 : Int), w56.cell? { block := m87, off := m88 + Int.toNat 0 * 2 } = some (Value.int IntKind.i64 x23) ∧ w56.cell? { block := m87, off := m88 + Int.toNat 0 * 2 + 1 }
    = some (Value.int IntKind.i64 x24) ∧ (m87 < w.heap.size ∨ m87 ≠ m77 ∧ m87 ≠ m66 ∧ m87 ≠ m65 ∧ m87 ≠ m54 ∧ m87 ≠ m53 ∧ m87 ≠ m52 ∧ m87 ≠ m51 ∧ m87 ≠ m50 ∧ m87 ≠ m49 ∧ m87 ≠ m36
    ∧ m87 ≠ m35 ∧ m87 ≠ m24 ∧ m87 ≠ m23 ∧ m87 ≠ m17 ∧ m87 ≠ m16) ∧ ∀ (w57 : World), RowKit.Below w.heap.size w w57 → KeptIn [(0, w56.heap.size)] [m77, m66, m65, m54, m53, m52, m51,
    m50, m49, m36, m35, m24, m23, m17, m16] w56 w57 → RunsTo Try.prog ((eqGuard BinOp.eql 68 (Operand.tmp 148) (Operand.tmp 149) (Value.agg #[Value.int IntKind.i64 x23, Value.int
    IntKind.i64 x24]) (Value.agg #[Value.int IntKind.i64 0, Value.int IntKind.i64 2])) >>= fun _ => binOp BinOp.eql 68 (Value.agg #[Value.int IntKind.i64 x23, Value.int IntKind.i64
    x24]) (Value.agg #[Value.int IntKind.i64 0, Value.int IntKind.i64 2])) w57 fun (v4 : Value) (w58 : World) => ∃ (t6 : Bool), v4 = Value.bool t6 ∧ KeepX true w.heap.size [m77,
    m66, m65, m54, m53, m52, m51, m50, m49, m36, m35, m24, m23, m17, m16] (fun _ => False) w57 w58 ∧ (t6 = true → ∃ (m90 : Nat), ∃ (m91 : Nat), a8 = some
    { block := m90, off := m91 } ∧ ((0 : Int) ≤ 2 ∧ 2 < (↑m27 : Int)) ∧ ∃ (x25 : Int), ∃ (x26 : Int), w58.cell? { block := m90, off := m91 + Int.toNat 2 * 2 } = some (Value.int
    IntKind.i64 x25) ∧ w58.cell? { block := m90, off := m91 + Int.toNat 2 * 2 + 1 } = some (Value.int IntKind.i64 x26) ∧ (m90 < w.heap.size ∨ m90 ≠ m77 ∧ m90 ≠ m66 ∧ m90 ≠ m65 ∧
    m90 ≠ m54 ∧ m90 ≠ m53 ∧ m90 ≠ m52 ∧ m90 ≠ m51 ∧ m90 ≠ m50 ∧ m90 ≠ m49 ∧ m90 ≠ m36 ∧ m90 ≠ m35 ∧ m90 ≠ m24 ∧ m90 ≠ m23 ∧ m90 ≠ m17 ∧ m90 ≠ m16) ∧ ∀ (w59 : World), RowKit.Below
    w.heap.size w w59 → KeptIn [(0, w58.heap.size)] [m77, m66, m65, m54, m53, m52, m51, m50, m49, m36, m35, m24, m23, m17, m16] w58 w59 → RunsTo Try.prog ((eqGuard BinOp.eql 68
    (Operand.tmp 155) (Operand.tmp 156) (Value.agg #[Value.int IntKind.i64 x25, Value.int IntKind.i64 x26]) (Value.agg #[Value.int IntKind.i64 2, Value.int IntKind.i64 1])) >>= fun
    _ => binOp BinOp.eql 68 (Value.agg #[Value.int IntKind.i64 x25, Value.int IntKind.i64 x26]) (Value.agg #[Value.int IntKind.i64 2, Value.int IntKind.i64 1])) w59 fun (v5 :
    Value) (w60 : World) => ∃ (t7 : Bool), v5 = Value.bool t7 ∧ KeepX true w.heap.size [m77, m66, m65, m54, m53, m52, m51, m50, m49, m36, m35, m24, m23, m17, m16] (fun _ => False)
    w59 w60 ∧ (t7 = true → ∃ (m93 : Nat), ∃ (m94 : Nat), a12 = some { block := m93, off := m94 } ∧ ((0 : Int) ≤ 1 ∧ 1 < (↑m41 : Int)) ∧ ∃ (x27 : Int), w60.cell?
    { block := m93, off := m94 + Int.toNat 1 * 1 } = some (Value.int IntKind.i64 x27) ∧ (m93 < w.heap.size ∨ m93 ≠ m77 ∧ m93 ≠ m66 ∧ m93 ≠ m65 ∧ m93 ≠ m54 ∧ m93 ≠ m53 ∧ m93 ≠ m52 ∧
    m93 ≠ m51 ∧ m93 ≠ m50 ∧ m93 ≠ m49 ∧ m93 ≠ m36 ∧ m93 ≠ m35 ∧ m93 ≠ m24 ∧ m93 ≠ m23 ∧ m93 ≠ m17 ∧ m93 ≠ m16) ∧ (x27 = 2 → ∃ (m95 : Nat), ∃ (m96 : Nat), a15 = some
    { block := m95, off := m96 } ∧ ((0 : Int) ≤ 0 ∧ 0 < (↑m61 : Int)) ∧ ∃ (x28 : Int), w60.cell? { block := m95, off := m96 + Int.toNat 0 * 1 } = some (Value.int IntKind.i64 x28) ∧
    (m95 < w.heap.size ∨ m95 ≠ m77 ∧ m95 ≠ m66 ∧ m95 ≠ m65 ∧ m95 ≠ m54 ∧ m95 ≠ m53 ∧ m95 ≠ m52 ∧ m95 ≠ m51 ∧ m95 ≠ m50 ∧ m95 ≠ m49 ∧ m95 ≠ m36 ∧ m95 ≠ m35 ∧ m95 ≠ m24 ∧ m95 ≠ m23 ∧
    m95 ≠ m17 ∧ m95 ≠ m16) ∧ (x28 = 1 → ∃ (m97 : Nat), ∃ (m98 : Nat), a16 = some { block := m97, off := m98 } ∧ ((0 : Int) ≤ 0 ∧ 0 < (↑m69 : Int)) ∧ ∃ (x29 : Int), w60.cell?
    { block := m97, off := m98 + Int.toNat 0 * 1 } = some (Value.int IntKind.i64 x29) ∧ (m97 < w.heap.size ∨ m97 ≠ m77 ∧ m97 ≠ m66 ∧ m97 ≠ m65 ∧ m97 ≠ m54 ∧ m97 ≠ m53 ∧ m97 ≠ m52 ∧
    m97 ≠ m51 ∧ m97 ≠ m50 ∧ m97 ≠ m49 ∧ m97 ≠ m36 ∧ m97 ≠ m35 ∧ m97 ≠ m24 ∧ m97 ≠ m23 ∧ m97 ≠ m17 ∧ m97 ≠ m16) ∧ (x29 = 20 → ∃ (m99 : Nat), ∃ (m100 : Nat), a16 = some
    { block := m99, off := m100 } ∧ ((0 : Int) ≤ 1 ∧ 1 < (↑m69 : Int)) ∧ ∃ (x30 : Int), w60.cell? { block := m99, off := m100 + Int.toNat 1 * 1 } = some (Value.int IntKind.i64 x30)
    ∧ (m99 < w.heap.size ∨ m99 ≠ m77 ∧ m99 ≠ m66 ∧ m99 ≠ m65 ∧ m99 ≠ m54 ∧ m99 ≠ m53 ∧ m99 ≠ m52 ∧ m99 ≠ m51 ∧ m99 ≠ m50 ∧ m99 ≠ m49 ∧ m99 ≠ m36 ∧ m99 ≠ m35 ∧ m99 ≠ m24 ∧ m99 ≠ m23
    ∧ m99 ≠ m17 ∧ m99 ≠ m16) ∧ (x30 = 10 → ∀ (w61 : World), RowKit.Below w.heap.size w w61 → Kept [m77, m66, m65, m54, m53, m52, m51, m50, m49, m36, m35, m24, m23, m17, m16] w60
    w61 → R (Ending.returned (Value.bool t1)) w61) ∧ (x30 ≠ 10 → ∀ (w62 : World), RowKit.Below w.heap.size w w62 → Kept [m77, m66, m65, m54, m53, m52, m51, m50, m49, m36, m35, m24,
    m23, m17, m16] w60 w62 → R (Ending.returned (Value.bool false)) w62)) ∧ (x29 ≠ 20 → ∀ (w63 : World), RowKit.Below w.heap.size w w63 → Kept [m77, m66, m65, m54, m53, m52, m51,
    m50, m49, m36, m35, m24, m23, m17, m16] w60 w63 → R (Ending.returned (Value.bool false)) w63)) ∧ (x28 ≠ 1 → ∀ (w64 : World), RowKit.Below w.heap.size w w64 → Kept [m77, m66,
    m65, m54, m53, m52, m51, m50, m49, m36, m35, m24, m23, m17, m16] w60 w64 → R (Ending.returned (Value.bool false)) w64)) ∧ (x27 ≠ 2 → ∀ (w65 : World), RowKit.Below w.heap.size w
    w65 → Kept [m77, m66, m65, m54, m53, m52, m51, m50, m49, m36, m35, m24, m23, m17, m16] w60 w65 → R (Ending.returned (Value.bool false)) w65)) ∧ (t7 = false → ∀ (w66 : World),
    RowKit.Below w.heap.size w w66 → Kept [m77, m66, m65, m54, m53, m52, m51, m50, m49, m36, m35, m24, m23, m17, m16] w60 w66 → R (Ending.returned (Value.bool false)) w66)) ∧ (t6 =
    false → ∀ (w67 : World), RowKit.Below w.heap.size w w67 → Kept [m77, m66, m65, m54, m53, m52, m51, m50, m49, m36, m35, m24, m23, m17, m16] w58 w67 → R (Ending.returned
    (Value.bool false)) w67)) ∧ (t5 = false → ∀ (w68 : World), RowKit.Below w.heap.size w w68 → Kept [m77, m66, m65, m54, m53, m52, m51, m50, m49, m36, m35, m24, m23, m17, m16] w56
    w68 → R (Ending.returned (Value.bool false)) w68)) ∧ (t4 = false → ∀ (w69 : World), RowKit.Below w.heap.size w w69 → Kept [m77, m66, m65, m54, m53, m52, m51, m50, m49, m36,
    m35, m24, m23, m17, m16] w52 w69 → R (Ending.returned (Value.bool false)) w69)) ∧ (t3 = false → ∀ (w70 : World), RowKit.Below w.heap.size w w70 → Kept [m77, m66, m65, m54, m53,
    m52, m51, m50, m49, m36, m35, m24, m23, m17, m16] w48 w70 → R (Ending.returned (Value.bool false)) w70))) : Calls Try.prog 14 #[] w R := calls_of_vcj (pure := true) (wrapAt :=
    []) (muts := []) (esc := []) (joins := [(2000008, [(129, 4)])]) (args := []) (vs := []) Try.func14 rfl rfl rfl (Eq.mp (by kernel_rfl) h) 
end Go.Proofs
end
section
/- The example of the laws. -/
namespace Go.Proofs.R12
open Go.Vc Go.RowKit Go.Proofs

def oneW : Wk := ⟨[[(1000, 1010)], [(990, 998)]], [⟨0, 0, 1, 0, (2, 15)⟩]⟩
theorem oneW_ok : OkW oneW := by decide +kernel
theorem oneW_small : Small oneW := ⟨by decide, by decide, by decide⟩

set_option maxRecDepth 100000 in
theorem one_l {w : World} : Calls Try.prog 45 #[] w fun e w' => ∃ pa pc fa fc, e = .returned (oneW.v pa pc fa fc) ∧ Below w.heap.size w w' ∧ LiesS w.heap.size w'.heap.size w' pa oneW.pats ∧ Lies [] w.heap.size w'.heap.size w' fa (fitsV oneW.fits) := by
  refine vc45 w _ fun m1 g1 w1 hb1 hk1 => Pure.calls (span_any _ _) fun w2 hd2 => ⟨_, _, rfl, .all hd2, fun m3 g3 w3 hb3 hk3 => Pure.calls (span_any _ _) fun w4 hd4 => ⟨_, _, rfl, .all hd4, fun m5 g5 m6 g6 w5 hb5 hk5 => Pure.calls (span_any _ _) fun w6 hd6 => ⟨_, _, rfl, .all hd6, fun m8 g8 w7 hb7 hk7 h6 h8 h3 h5 => ?_⟩⟩⟩
  have z2 := hb1.size
  have z3 := hb3.size
  have z4 := hb5.size
  have y2 := hd2.size
  have y4 := hd4.size
  have y6 := hd6.size
  have l3 := lt_of_some h3
  have l5 := lt_of_some h5
  have l6 := lt_of_some h6
  have l8 := lt_of_some h8
  have lies : ∀ {b : Nat} {vs : List Value}, w.heap.size ≤ b → b < w7.heap.size → Cells w7 (some ⟨b, 0, none⟩) vs → Lies [] w.heap.size w7.heap.size w7 (some ⟨b, 0, none⟩) vs := fun {b vs} h1 h2 hc i v hi => by
    obtain ⟨b', o', e, hcell⟩ := hc i v hi
    simp only [Option.some.injEq, Addr.mk.injEq, and_true] at e
    obtain ⟨rfl, rfl⟩ := e
    exact ⟨_, _, rfl, ⟨by simp, h1, h2⟩, hcell⟩
  refine ⟨some ⟨m6, 0, none⟩, 2, some ⟨m8, 0, none⟩, 1, rfl, hb7, fun i p hi => ?_, ?_⟩
  · match i, hi with
    | 0, hi =>
      obtain rfl := Option.some.inj hi
      exact ⟨m6, 0, some ⟨m3, 0, none⟩, 1, rfl, ⟨by omega, l6⟩, cell_obj (vs := [.slice (some ⟨m3, 0, none⟩) 1 1, .slice (some ⟨m5, 0, none⟩) 1 1]) h6 rfl, lies (by omega) l3 (Cells.obj (vs := spansV [(1000, 1010)]) h3)⟩
    | 1, hi =>
      obtain rfl := Option.some.inj hi
      exact ⟨m6, 0, some ⟨m5, 0, none⟩, 1, rfl, ⟨by omega, l6⟩, cell_obj (vs := [.slice (some ⟨m3, 0, none⟩) 1 1, .slice (some ⟨m5, 0, none⟩) 1 1]) h6 rfl, lies (by omega) l5 (Cells.obj (vs := spansV [(990, 998)]) h5)⟩
    | j + 2, hi => simp [oneW] at hi
  · exact lies (by omega) l8 (Cells.obj (vs := fitsV oneW.fits) h8)
end Go.Proofs.R12
end
section
/- What the example's calls return. -/
namespace Go.Proofs.R12
open Go.Vc Go.RowKit Go.Proofs

def kH : List Int := [1000, 1012, 1001]
def kS : List Int := [999, 995, 1003]
def lH : List Int := [1000, 1030, 1001]
def lS : List Int := [995, 996, 997]
theorem ex_gauge : gaugeM oneW 0 0 (-2, 1) = ((1001, 1008), (998, 1011), 0) := by decide +kernel
theorem ex_loose : LooseM oneW = [⟨0, 1006, 990⟩] := by decide +kernel
theorem ex_spares : SparesM (5, 9) [⟨10, 0, 20⟩] [3, 12] = ([20, 10], 0) := by decide +kernel
theorem ex_good : GoodM oneW ⟨1, [998]⟩ = (true, 0) := by decide +kernel
theorem ex_box : boxE oneW 0 kH kS = 0 := by decide +kernel
theorem ex_box2 : boxE oneW 0 lH lS = 0 := by decide +kernel
theorem ex_pair : pairM oneW 0 kH kS = [(0, 2), (1, 0), (2, 1)] := by decide +kernel
theorem ex_choose : chooseM oneW 1 [⟨0, [1010]⟩] [⟨1, [990]⟩, ⟨1, [996]⟩, ⟨1, [999]⟩] = ([1], 0) := by decide +kernel
theorem ex_pairK : pairK (fitOf oneW 0) lH lS = [(0, 0), (1, 2)] := by decide +kernel
theorem ex_lack : lackM oneW 0 lH lS = ([0, 1, 2], [0, 2]) := by
  have hp := ex_pairK
  have s2 : Short (fitOf oneW 0) lH lS [(0, 0), (1, 2)] 2 := .free (by decide) (by decide) (by decide)
  have s0 : Short (fitOf oneW 0) lH lS [(0, 0), (1, 2)] 0 := .next (h := 0) s2 (by decide) (by decide) (by decide +kernel) (by decide)
  have s1 : Short (fitOf oneW 0) lH lS [(0, 0), (1, 2)] 1 := .next (h := 2) s2 (by decide) (by decide) (by decide +kernel) (by decide)
  have f0 : FitS (fitOf oneW 0) lH lS [(0, 0), (1, 2)] 0 := ⟨by decide, 2, s2, by decide +kernel⟩
  have f2 : FitS (fitOf oneW 0) lH lS [(0, 0), (1, 2)] 2 := ⟨by decide, 2, s2, by decide +kernel⟩
  have ok : PsOk [(0, 0), (1, 2)] lS.length lH.length := by rw [← hp]; exact pairK_ok _ _ _
  have f1 : ¬ FitS (fitOf oneW 0) lH lS [(0, 0), (1, 2)] 1 := fun ⟨_, s, h1, h2⟩ => by
    obtain ⟨a, b⟩ := h1.in ok
    have : s = 0 ∨ s = 1 ∨ s = 2 := by simp only [lS, List.length_cons, List.length_nil] at b; omega
    rcases this with rfl | rfl | rfl <;> revert h2 <;> decide +kernel
  unfold lackM
  rw [if_pos ex_box2]
  unfold shortL fitL
  rw [hp]
  have i3 : idxs lS.length = [0, 1, 2] := rfl
  have i3' : idxs lH.length = [0, 1, 2] := rfl
  rw [i3, i3']
  simp [List.filter, s0, s1, s2, f0, f1, f2]
end Go.Proofs.R12
end
section
/- The example of the laws, checked. -/
namespace Go.Proofs.R12
open Go.Vc Go.RowKit Go.Proofs
theorem liesS_chg {lo hi : Nat} {w w' : World} {a : Option Addr} {ps : List (List Sp)} {S : List Nat} (h : LiesS lo hi w a ps) (hc : Chg S w w') (hs : ∀ x ∈ S, x < lo ∨ hi ≤ x) : CellsS w' a ps := fun i p hi => by
  obtain ⟨b, o, a', c, e, hb, h1, h2⟩ := h i p hi
  exact ⟨b, o, a', c, e, hc.cell (fun hm => by have := hs b hm; omega) h1, (h2.out hc hs).cells⟩
set_option maxRecDepth 100000 in
set_option maxHeartbeats 2000000 in
theorem known_any {w : World} : Calls Try.prog 14 #[] w (Pure w (.bool true)) := by
  refine vc14 w _ ?_
  intro w1 hb1 hk1
  have z1 := hk1.size
  have x1 := hb1.size
  have o1 := hk1.own
  simp only [List.not_mem_nil, false_implies, implies_true] at o1
  refine one_l.mono fun e1 w2 he => ?_
  obtain ⟨pa2, pc2, fa2, fc2, rfl, hd2, P2, F2⟩ := he
  have y2 := hd2.size
  refine ⟨_, _, _, _, _, _, rfl, .all hd2, ?_⟩
  intro w3 hb3 hk3
  have z3 := hk3.size
  have x3 := hb3.size
  have o3 := hk3.own
  simp only [List.not_mem_nil, false_implies, implies_true] at o3
  have PC3 : CellsS w3 pa2 oneW.pats := liesS_chg P2 (Chg.kept hk3) (by simp)
  have FC3 : Cells w3 fa2 (fitsV oneW.fits) := (F2.out (Chg.kept hk3) (by simp)).cells
  refine (Loose_l PC3 FC3 oneW_small).mono fun e2 w4 he => ?_
  rw [ex_loose, show checkE oneW = 0 from checkE_ok.2 oneW_ok] at he
  obtain ⟨aL, cL, rfl, hd4, D4⟩ := he
  have y4 := hd4.size
  refine ⟨_, _, _, _, rfl, .all hd4, ?_⟩
  intro w5 hb5 hk5
  have z5 := hk5.size
  have x5 := hb5.size
  have o5 := hk5.own
  simp only [List.not_mem_nil, false_implies, implies_true] at o5
  refine one_l.mono fun e3 w6 he => ?_
  obtain ⟨pa6, pc6, fa6, fc6, rfl, hd6, P6, F6⟩ := he
  have y6 := hd6.size
  refine ⟨_, _, _, _, _, _, rfl, .all hd6, ?_⟩
  intro w7 hb7 hk7
  have z7 := hk7.size
  have x7 := hb7.size
  have o7 := hk7.own
  simp only [List.not_mem_nil, false_implies, implies_true] at o7
  refine Pure.calls (span_any _ _) fun w8 hd8 => ⟨_, _, rfl, .all hd8, ?_⟩
  have y8 := hd8.size
  intro w9 hb9 hk9
  have z9 := hk9.size
  have x9 := hb9.size
  have o9 := hk9.own
  simp only [List.not_mem_nil, false_implies, implies_true] at o9
  have PC9 : CellsS w9 pa6 oneW.pats := liesS_chg P6 (((Chg.kept hk7).trans (Chg.of_below hd8)).trans (Chg.kept hk9)) (by simp)
  have FC9 : Cells w9 fa6 (fitsV oneW.fits) := (F6.out (((Chg.kept hk7).trans (Chg.of_below hd8)).trans (Chg.kept hk9)) (by simp)).cells
  refine Pure.calls (gauge_any 0 0 (-2, 1) PC9 FC9 oneW_small) fun w10 hd10 => ?_
  have y10 := hd10.size
  rw [ex_gauge]
  refine ⟨_, _, _, _, _, rfl, .all hd10, ?_⟩
  intro m16 g_m16
  intro m17 g_m17
  intro w11 hb11 hk11
  have z11 := hk11.size
  have x11 := hb11.size
  have o11 := hk11.own
  simp only [List.mem_cons, List.not_mem_nil, or_false, forall_eq_or_imp, forall_eq] at o11
  refine one_l.mono fun e6 w12 he => ?_
  obtain ⟨pa12, pc12, fa12, fc12, rfl, hd12, P12, F12⟩ := he
  have y12 := hd12.size
  refine ⟨_, _, _, _, _, _, rfl, .all hd12, ?_⟩
  intro m23 g_m23
  intro m24 g_m24
  intro w13 hb13 hk13 hc_m23 hc_m24
  have z13 := hk13.size
  have x13 := hb13.size
  have o13 := hk13.own
  simp only [List.mem_cons, List.not_mem_nil, or_false, forall_eq_or_imp, forall_eq] at o13
  have PC13 : CellsS w13 pa12 oneW.pats := liesS_chg P12 (Chg.kept hk13) (by simp only [List.mem_cons, List.not_mem_nil, or_false, forall_eq_or_imp, forall_eq]; omega)
  have FC13 : Cells w13 fa12 (fitsV oneW.fits) := (F12.out (Chg.kept hk13) (by simp only [List.mem_cons, List.not_mem_nil, or_false, forall_eq_or_imp, forall_eq]; omega)).cells
  refine (Pair_l (n := 0) (H := kH) (S := kS) PC13 FC13 oneW_small (Cells.obj (vs := ints kH) hc_m23) (Cells.obj (vs := ints kS) hc_m24) (by decide) (by decide) (fun _ => by decide)).mono fun e7 w14 he => ?_
  rw [ex_pair, ex_box] at he
  obtain ⟨aP, cP, rfl, hd14, D14⟩ := he
  have y14 := hd14.size
  refine ⟨_, _, _, _, rfl, .all hd14, ?_⟩
  intro w15 hb15 hk15
  have z15 := hk15.size
  have x15 := hb15.size
  have o15 := hk15.own
  simp only [List.mem_cons, List.not_mem_nil, or_false, forall_eq_or_imp, forall_eq] at o15
  refine one_l.mono fun e8 w16 he => ?_
  obtain ⟨pa16, pc16, fa16, fc16, rfl, hd16, P16, F16⟩ := he
  have y16 := hd16.size
  refine ⟨_, _, _, _, _, _, rfl, .all hd16, ?_⟩
  intro m35 g_m35
  intro m36 g_m36
  intro w17 hb17 hk17 hc_m35 hc_m36
  have z17 := hk17.size
  have x17 := hb17.size
  have o17 := hk17.own
  simp only [List.mem_cons, List.not_mem_nil, or_false, forall_eq_or_imp, forall_eq] at o17
  have PC17 : CellsS w17 pa16 oneW.pats := liesS_chg P16 (Chg.kept hk17) (by simp only [List.mem_cons, List.not_mem_nil, or_false, forall_eq_or_imp, forall_eq]; omega)
  have FC17 : Cells w17 fa16 (fitsV oneW.fits) := (F16.out (Chg.kept hk17) (by simp only [List.mem_cons, List.not_mem_nil, or_false, forall_eq_or_imp, forall_eq]; omega)).cells
  refine (Lack_l (n := 0) (H := lH) (S := lS) PC17 FC17 oneW_small (Cells.obj (vs := ints lH) hc_m35) (Cells.obj (vs := ints lS) hc_m36) (by decide) (by decide) (fun _ => by decide)).mono fun e9 w18 he => ?_
  rw [ex_lack, ex_box2] at he
  obtain ⟨aF, cF, aA, cA, rfl, hd18, D18, E18⟩ := he
  have y18 := hd18.size
  refine ⟨_, _, _, _, _, _, _, rfl, .all hd18, ?_⟩
  intro w19 hb19 hk19
  have z19 := hk19.size
  have x19 := hb19.size
  have o19 := hk19.own
  simp only [List.mem_cons, List.not_mem_nil, or_false, forall_eq_or_imp, forall_eq] at o19
  refine one_l.mono fun e10 w20 he => ?_
  obtain ⟨pa20, pc20, fa20, fc20, rfl, hd20, P20, F20⟩ := he
  have y20 := hd20.size
  refine ⟨_, _, _, _, _, _, rfl, .all hd20, ?_⟩
  intro m49 g_m49
  intro m50 g_m50
  intro m51 g_m51
  intro m52 g_m52
  intro m53 g_m53
  intro m54 g_m54
  intro w21 hb21 hk21 hc_m50 hc_m54 hc_m49 hc_m51 hc_m52 hc_m53
  have z21 := hk21.size
  have x21 := hb21.size
  have o21 := hk21.own
  simp only [List.mem_cons, List.not_mem_nil, or_false, forall_eq_or_imp, forall_eq] at o21
  have PC21 : CellsS w21 pa20 oneW.pats := liesS_chg P20 (Chg.kept hk21) (by simp only [List.mem_cons, List.not_mem_nil, or_false, forall_eq_or_imp, forall_eq]; omega)
  have FC21 : Cells w21 fa20 (fitsV oneW.fits) := (F20.out (Chg.kept hk21) (by simp only [List.mem_cons, List.not_mem_nil, or_false, forall_eq_or_imp, forall_eq]; omega)).cells
  have KC : CellsP w21 (some ⟨m50, 0, none⟩) [⟨0, [1010]⟩] := fun i p hi => by
    match i, hi with
    | 0, hi =>
      obtain rfl := Option.some.inj hi
      exact ⟨m50, 0, some ⟨m49, 0, none⟩, 1, rfl, cell_obj (vs := [I 0, .slice (some ⟨m49, 0, none⟩) 1 1]) hc_m50 rfl, cell_obj (vs := [I 0, .slice (some ⟨m49, 0, none⟩) 1 1]) hc_m50 rfl, Cells.obj (vs := ints [1010]) hc_m49⟩
    | j + 1, hi => simp at hi
  have KT : CellsP w21 (some ⟨m54, 0, none⟩) [⟨1, [990]⟩, ⟨1, [996]⟩, ⟨1, [999]⟩] := fun i p hi => by
    match i, hi with
    | 0, hi =>
      obtain rfl := Option.some.inj hi
      exact ⟨m54, 0, some ⟨m51, 0, none⟩, 1, rfl, cell_obj (vs := [I 1, .slice (some ⟨m51, 0, none⟩) 1 1, I 1, .slice (some ⟨m52, 0, none⟩) 1 1, I 1, .slice (some ⟨m53, 0, none⟩) 1 1]) hc_m54 rfl, cell_obj (vs := [I 1, .slice (some ⟨m51, 0, none⟩) 1 1, I 1, .slice (some ⟨m52, 0, none⟩) 1 1, I 1, .slice (some ⟨m53, 0, none⟩) 1 1]) hc_m54 rfl, Cells.obj (vs := ints [990]) hc_m51⟩
    | 1, hi =>
      obtain rfl := Option.some.inj hi
      exact ⟨m54, 0, some ⟨m52, 0, none⟩, 1, rfl, cell_obj (vs := [I 1, .slice (some ⟨m51, 0, none⟩) 1 1, I 1, .slice (some ⟨m52, 0, none⟩) 1 1, I 1, .slice (some ⟨m53, 0, none⟩) 1 1]) hc_m54 rfl, cell_obj (vs := [I 1, .slice (some ⟨m51, 0, none⟩) 1 1, I 1, .slice (some ⟨m52, 0, none⟩) 1 1, I 1, .slice (some ⟨m53, 0, none⟩) 1 1]) hc_m54 rfl, Cells.obj (vs := ints [996]) hc_m52⟩
    | 2, hi =>
      obtain rfl := Option.some.inj hi
      exact ⟨m54, 0, some ⟨m53, 0, none⟩, 1, rfl, cell_obj (vs := [I 1, .slice (some ⟨m51, 0, none⟩) 1 1, I 1, .slice (some ⟨m52, 0, none⟩) 1 1, I 1, .slice (some ⟨m53, 0, none⟩) 1 1]) hc_m54 rfl, cell_obj (vs := [I 1, .slice (some ⟨m51, 0, none⟩) 1 1, I 1, .slice (some ⟨m52, 0, none⟩) 1 1, I 1, .slice (some ⟨m53, 0, none⟩) 1 1]) hc_m54 rfl, Cells.obj (vs := ints [999]) hc_m53⟩
    | j + 3, hi => simp at hi
  refine (Choose_l (p := 1) (C := [⟨0, [1010]⟩]) (St := [⟨1, [990]⟩, ⟨1, [996]⟩, ⟨1, [999]⟩]) PC21 FC21 oneW_small KC KT (by decide) (by decide) (by decide) (by decide)).mono fun e11 w22 he => ?_
  unfold PureL at he
  rw [ex_choose] at he
  obtain ⟨aC, cC, rfl, hd22, D22⟩ := he
  have y22 := hd22.size
  refine ⟨_, _, _, _, rfl, .all hd22, ?_⟩
  intro w23 hb23 hk23
  have z23 := hk23.size
  have x23 := hb23.size
  have o23 := hk23.own
  simp only [List.mem_cons, List.not_mem_nil, or_false, forall_eq_or_imp, forall_eq] at o23
  refine Pure.calls (span_any _ _) fun w24 hd24 => ⟨_, _, rfl, .all hd24, ?_⟩
  have y24 := hd24.size
  intro m65 g_m65
  intro m66 g_m66
  intro w25 hb25 hk25 hc_m65 hc_m66
  have z25 := hk25.size
  have x25 := hb25.size
  have o25 := hk25.own
  simp only [List.mem_cons, List.not_mem_nil, or_false, forall_eq_or_imp, forall_eq] at o25
  refine (spares_l (5, 9) (l := [⟨10, 0, 20⟩]) (orders := [3, 12]) (Cells.obj (vs := consV [⟨10, 0, 20⟩]) hc_m65) (Cells.obj (vs := ints [3, 12]) hc_m66) (by decide) (by decide) (by decide)).mono fun e13 w26 he => ?_
  rw [ex_spares] at he
  obtain ⟨aS, cS, rfl, hd26, D26⟩ := he
  have y26 := hd26.size
  refine ⟨_, _, _, _, rfl, .all hd26, ?_⟩
  intro w27 hb27 hk27
  have z27 := hk27.size
  have x27 := hb27.size
  have o27 := hk27.own
  simp only [List.mem_cons, List.not_mem_nil, or_false, forall_eq_or_imp, forall_eq] at o27
  refine one_l.mono fun e14 w28 he => ?_
  obtain ⟨pa28, pc28, fa28, fc28, rfl, hd28, P28, F28⟩ := he
  have y28 := hd28.size
  refine ⟨_, _, _, _, _, _, rfl, .all hd28, ?_⟩
  intro m77 g_m77
  intro w29 hb29 hk29 hc_m77
  have z29 := hk29.size
  have x29 := hb29.size
  have o29 := hk29.own
  simp only [List.mem_cons, List.not_mem_nil, or_false, forall_eq_or_imp, forall_eq] at o29
  have PC29 : CellsS w29 pa28 oneW.pats := liesS_chg P28 (Chg.kept hk29) (by simp only [List.mem_cons, List.not_mem_nil, or_false, forall_eq_or_imp, forall_eq]; omega)
  have FC29 : Cells w29 fa28 (fitsV oneW.fits) := (F28.out (Chg.kept hk29) (by simp only [List.mem_cons, List.not_mem_nil, or_false, forall_eq_or_imp, forall_eq]; omega)).cells
  refine Pure.calls (Good_any ⟨1, [998]⟩ (Cells.obj (vs := ints [998]) hc_m77) (by decide) PC29 FC29 oneW_small) fun w30 hd30 => ?_
  have y30 := hd30.size
  rw [ex_good]
  refine ⟨_, _, rfl, .all hd30, ?_⟩
  have hs : ∀ {own : List Nat} {u v : World}, Kept own u v → (∀ x ∈ own, x ∈ [m77, m66, m65, m54, m53, m52, m51, m50, m49, m36, m35, m24, m23, m17, m16]) → Chg [m77, m66, m65, m54, m53, m52, m51, m50, m49, m36, m35, m24, m23, m17, m16] u v := fun hk h => (Chg.kept hk).mono fun x hx => .inl (h x hx)
  have hbl : ∀ {u v : World}, Below u.heap.size u v → Chg [m77, m66, m65, m54, m53, m52, m51, m50, m49, m36, m35, m24, m23, m17, m16] u v := fun h => Chg.of_below h
  have C4_14 : Chg [m77, m66, m65, m54, m53, m52, m51, m50, m49, m36, m35, m24, m23, m17, m16] w4 w14 := ((hs hk5 (by simp)).trans ((hbl hd6).trans ((hs hk7 (by simp)).trans ((hbl hd8).trans ((hs hk9 (by simp)).trans ((hbl hd10).trans ((hs hk11 (by simp)).trans ((hbl hd12).trans ((hs hk13 (by simp)).trans (hbl hd14))))))))))
  have C14_18 : Chg [m77, m66, m65, m54, m53, m52, m51, m50, m49, m36, m35, m24, m23, m17, m16] w14 w18 := ((hs hk15 (by simp)).trans ((hbl hd16).trans ((hs hk17 (by simp)).trans (hbl hd18))))
  have C18_22 : Chg [m77, m66, m65, m54, m53, m52, m51, m50, m49, m36, m35, m24, m23, m17, m16] w18 w22 := ((hs hk19 (by simp)).trans ((hbl hd20).trans ((hs hk21 (by simp)).trans (hbl hd22))))
  have C22_26 : Chg [m77, m66, m65, m54, m53, m52, m51, m50, m49, m36, m35, m24, m23, m17, m16] w22 w26 := ((hs hk23 (by simp)).trans ((hbl hd24).trans ((hs hk25 (by simp)).trans (hbl hd26))))
  have C26_30 : Chg [m77, m66, m65, m54, m53, m52, m51, m50, m49, m36, m35, m24, m23, m17, m16] w26 w30 := ((hs hk27 (by simp)).trans ((hbl hd28).trans ((hs hk29 (by simp)).trans (hbl hd30))))
  have D30 := D26.out C26_30 (by simp only [List.mem_cons, List.not_mem_nil, or_false, forall_eq_or_imp, forall_eq]; omega)
  have DC30 := (D22.out C22_26 (by simp only [List.mem_cons, List.not_mem_nil, or_false, forall_eq_or_imp, forall_eq]; omega)).out C26_30 (by simp only [List.mem_cons, List.not_mem_nil, or_false, forall_eq_or_imp, forall_eq]; omega)
  have DA30 := ((E18.out C18_22 (by simp only [List.mem_cons, List.not_mem_nil, or_false, forall_eq_or_imp, forall_eq]; omega)).out C22_26 (by simp only [List.mem_cons, List.not_mem_nil, or_false, forall_eq_or_imp, forall_eq]; omega)).out C26_30 (by simp only [List.mem_cons, List.not_mem_nil, or_false, forall_eq_or_imp, forall_eq]; omega)
  have DP30 := (((D14.out C14_18 (by simp only [List.mem_cons, List.not_mem_nil, or_false, forall_eq_or_imp, forall_eq]; omega)).out C18_22 (by simp only [List.mem_cons, List.not_mem_nil, or_false, forall_eq_or_imp, forall_eq]; omega)).out C22_26 (by simp only [List.mem_cons, List.not_mem_nil, or_false, forall_eq_or_imp, forall_eq]; omega)).out C26_30 (by simp only [List.mem_cons, List.not_mem_nil, or_false, forall_eq_or_imp, forall_eq]; omega)
  have DL30 := ((((D4.out C4_14 (by simp only [List.mem_cons, List.not_mem_nil, or_false, forall_eq_or_imp, forall_eq]; omega)).out C14_18 (by simp only [List.mem_cons, List.not_mem_nil, or_false, forall_eq_or_imp, forall_eq]; omega)).out C18_22 (by simp only [List.mem_cons, List.not_mem_nil, or_false, forall_eq_or_imp, forall_eq]; omega)).out C22_26 (by simp only [List.mem_cons, List.not_mem_nil, or_false, forall_eq_or_imp, forall_eq]; omega)).out C26_30 (by simp only [List.mem_cons, List.not_mem_nil, or_false, forall_eq_or_imp, forall_eq]; omega)
  refine ⟨fun ls w' => match ls with | [.bool t] => t = false ∧ Chg [m77, m66, m65, m54, m53, m52, m51, m50, m49, m36, m35, m24, m23, m17, m16] w30 w' | _ => False, ⟨fun h => absurd rfl h, fun _ => ⟨fun h => absurd rfl h, fun _ => ⟨fun h => absurd rfl h, fun _ => ⟨fun h => absurd rfl h, fun _ => ⟨fun h => absurd rfl h, fun _ => ⟨fun h => absurd rfl h, fun _ => ⟨fun h => absurd rfl h, fun _ => ⟨fun h => absurd rfl h, fun _ => ⟨fun h => absurd rfl h, fun _ => ⟨fun h => absurd rfl h, fun _ => ⟨fun h => absurd rfl h, fun _ => ⟨fun h => absurd rfl h, fun _ => fun w44 hb44 hk44 => ⟨rfl, hs hk44 (fun _ h => h)⟩⟩⟩⟩⟩⟩⟩⟩⟩⟩⟩⟩⟩, ?_⟩
  rintro t2 w45 hb45 ⟨rfl, c45⟩
  refine ⟨fun h => (by cases h), fun _ => ?_⟩
  have z45 := c45.size
  have D45 := D30.out c45 (by simp only [List.mem_cons, List.not_mem_nil, or_false, forall_eq_or_imp, forall_eq]; omega)
  have DC45 := DC30.out c45 (by simp only [List.mem_cons, List.not_mem_nil, or_false, forall_eq_or_imp, forall_eq]; omega)
  have DA45 := DA30.out c45 (by simp only [List.mem_cons, List.not_mem_nil, or_false, forall_eq_or_imp, forall_eq]; omega)
  have DP45 := DP30.out c45 (by simp only [List.mem_cons, List.not_mem_nil, or_false, forall_eq_or_imp, forall_eq]; omega)
  have DL45 := DL30.out c45 (by simp only [List.mem_cons, List.not_mem_nil, or_false, forall_eq_or_imp, forall_eq]; omega)
  obtain ⟨b1, p1, rfl, ⟨_, l1, h1⟩, q1⟩ := DL45 0 _ rfl
  refine ⟨b1, p1, rfl, ⟨by omega, by decide⟩, 0, 1006, 990, cell_at' q1 (by simp), cell_at' (DL45.at (i := 1) rfl).2 (by simp), cell_at' (DL45.at (i := 2) rfl).2 (by simp), .inr ⟨by omega, by omega, by omega, by omega, by omega, by omega, by omega, by omega, by omega, by omega, by omega, by omega, by omega, by omega, by omega⟩, fun w47 hb47 hk47 => eqlr_gap ⟨true, rfl, .all (.refl _ _), fun _ => ?_, fun h => (by cases h)⟩⟩
  intro w49 hb49 hk49
  refine Pure.calls (span_any _ _) fun w50 hd50 => ⟨_, _, rfl, .all hd50, fun w51 hb51 hk51 => eqlr_span ⟨true, rfl, .all (.refl _ _), fun _ => ?_, fun h => (by cases h)⟩⟩
  intro w53 hb53 hk53
  refine Pure.calls (span_any _ _) fun w54 hd54 => ⟨_, _, rfl, .all hd54, fun w55 hb55 hk55 => eqlr_span ⟨true, rfl, .all (.refl _ _), fun _ => ?_, fun h => (by cases h)⟩⟩
  have c55 : Chg [m77, m66, m65, m54, m53, m52, m51, m50, m49, m36, m35, m24, m23, m17, m16] w45 w55 := hk47.chg.trans (hk49.chg.trans ((hbl hd50).trans (hk51.chg.trans (hk53.chg.trans ((hbl hd54).trans hk55.chg)))))
  have D55 := D45.out c55 (by simp only [List.mem_cons, List.not_mem_nil, or_false, forall_eq_or_imp, forall_eq]; omega)
  have DC55 := DC45.out c55 (by simp only [List.mem_cons, List.not_mem_nil, or_false, forall_eq_or_imp, forall_eq]; omega)
  have DA55 := DA45.out c55 (by simp only [List.mem_cons, List.not_mem_nil, or_false, forall_eq_or_imp, forall_eq]; omega)
  have DP55 := DP45.out c55 (by simp only [List.mem_cons, List.not_mem_nil, or_false, forall_eq_or_imp, forall_eq]; omega)
  obtain ⟨b2, p2, rfl, ⟨_, l2, h2⟩, q2⟩ := DP55 0 _ rfl
  refine ⟨b2, p2, rfl, ⟨by omega, by decide⟩, 0, 2, cell_at' q2 (by simp), cell_at' (DP55.at (i := 1) rfl).2 (by simp), .inr ⟨by omega, by omega, by omega, by omega, by omega, by omega, by omega, by omega, by omega, by omega, by omega, by omega, by omega, by omega, by omega⟩, fun w57 hb57 hk57 => ⟨.bool true, w57, by kernel_rfl, true, rfl, .all (.refl _ _), fun _ => ?_, fun h => (by cases h)⟩⟩
  have DP57 := DP55.out hk57.chg (by simp only [List.mem_cons, List.not_mem_nil, or_false, forall_eq_or_imp, forall_eq]; omega)
  refine ⟨b2, p2, rfl, ⟨by omega, by decide⟩, 2, 1, cell_at' (DP57.at (i := 4) rfl).2 (by simp), cell_at' (DP57.at (i := 5) rfl).2 (by simp), .inr ⟨by omega, by omega, by omega, by omega, by omega, by omega, by omega, by omega, by omega, by omega, by omega, by omega, by omega, by omega, by omega⟩, fun w59 hb59 hk59 => ⟨.bool true, w59, by kernel_rfl, true, rfl, .all (.refl _ _), fun _ => ?_, fun h => (by cases h)⟩⟩
  have D59 := (D55.out hk57.chg (by simp only [List.mem_cons, List.not_mem_nil, or_false, forall_eq_or_imp, forall_eq]; omega)).out hk59.chg (by simp only [List.mem_cons, List.not_mem_nil, or_false, forall_eq_or_imp, forall_eq]; omega)
  have DC59 := (DC55.out hk57.chg (by simp only [List.mem_cons, List.not_mem_nil, or_false, forall_eq_or_imp, forall_eq]; omega)).out hk59.chg (by simp only [List.mem_cons, List.not_mem_nil, or_false, forall_eq_or_imp, forall_eq]; omega)
  have DA59 := (DA55.out hk57.chg (by simp only [List.mem_cons, List.not_mem_nil, or_false, forall_eq_or_imp, forall_eq]; omega)).out hk59.chg (by simp only [List.mem_cons, List.not_mem_nil, or_false, forall_eq_or_imp, forall_eq]; omega)
  obtain ⟨b3, p3, rfl, ⟨_, l3, h3⟩, q3⟩ := DA59 0 _ rfl
  obtain ⟨b4, p4, rfl, ⟨_, l4, h4⟩, q4⟩ := DC59 0 _ rfl
  obtain ⟨b5, p5, rfl, ⟨_, l5, h5⟩, q5⟩ := D59 0 _ rfl
  refine ⟨b3, p3, rfl, ⟨by omega, by decide⟩, 2, cell_at' (DA59.at (i := 1) rfl).2 (by simp), .inr ⟨by omega, by omega, by omega, by omega, by omega, by omega, by omega, by omega, by omega, by omega, by omega, by omega, by omega, by omega, by omega⟩, fun _ => ?_, fun h => absurd rfl h⟩
  refine ⟨b4, p4, rfl, ⟨by omega, by decide⟩, 1, cell_at' q4 (by simp), .inr ⟨by omega, by omega, by omega, by omega, by omega, by omega, by omega, by omega, by omega, by omega, by omega, by omega, by omega, by omega, by omega⟩, fun _ => ?_, fun h => absurd rfl h⟩
  refine ⟨b5, p5, rfl, ⟨by omega, by decide⟩, 20, cell_at' q5 (by simp), .inr ⟨by omega, by omega, by omega, by omega, by omega, by omega, by omega, by omega, by omega, by omega, by omega, by omega, by omega, by omega, by omega⟩, fun _ => ?_, fun h => absurd rfl h⟩
  refine ⟨b5, p5, rfl, ⟨by omega, by decide⟩, 10, cell_at' (D59.at (i := 1) rfl).2 (by simp), .inr ⟨by omega, by omega, by omega, by omega, by omega, by omega, by omega, by omega, by omega, by omega, by omega, by omega, by omega, by omega, by omega⟩, fun _ w61 hb61 _ => ⟨rfl, hb61⟩, fun h => absurd rfl h⟩
end Go.Proofs.R12
end
section
/- The conditions of the functions, printed by program; each is what the generator reckons (kernel_rfl). -/
namespace Go.Proofs
open Go.Vc
end Go.Proofs
end
section
/- The law PartSpares, walked. -/
namespace Go.Proofs.R12
open Go.Vc Go.RowKit Go.Proofs
end Go.Proofs.R12
end
section
/- The laws' arguments, opened. -/
namespace Go.Proofs.R12
open Go.Vc Go.RowKit Go.Proofs

theorem Try.own : ownKnob Try.prog.godebug = none := by kernel_rfl
theorem Try.laidOut : laidOutB Try.prog = true := by kernel_rfl
abbrev Li : Leaf := .int .i64
def In64 (x : Int) : Prop := rng .i64 x
section
variable {w : World}
theorem take_int {ls : List Leaf} {cs : List Value} (h : LeavesAre w (Li :: ls) cs) : ∃ x r, cs = I x :: r ∧ In64 x ∧ LeavesAre w ls r := by
  obtain ⟨v, r, rfl, h1, h2⟩ := h.cons'
  obtain ⟨x, rfl, hx⟩ := h1.int'
  exact ⟨x, r, rfl, hx, h2⟩
theorem ints_flat (l : List Int) : (l.flatMap fun x => [I x]) = ints l := by
  induction l with
  | nil => rfl
  | cons b l ih => rw [List.flatMap_cons, ih]; rfl
theorem take_ints {v : Value} (h : LeafIs w (.sl [Li]) v) : ∃ a c, ∃ l : List Int, v = .slice a l.length c ∧ l.length ≤ maxLen ∧ Cells w a (ints l) := by
  obtain ⟨a, c, l, rfl, h1, h2, h3, _⟩ := h.sl' (fun b : Int => [I b]) (fun _ => True) fun x hx => by
    obtain ⟨x0, r, rfl, g0, hx⟩ := take_int hx
    rw [hx.nil']
    exact ⟨x0, rfl, trivial⟩
  refine ⟨a, c, l, rfl, Nat.le_trans h1 h2, ?_⟩
  rw [← ints_flat]
  exact h3
end
section
variable {w : World} {H : Type} {enc : TypeId × Value → H} {base b0 : Nat} {held : Bool} {spare : Nat → Bool} {reach : Reach}
end
end Go.Proofs.R12
end
section
/- The laws PartLooses and PartGauges, walked. -/
namespace Go.Proofs.R12
open Go.Vc Go.RowKit Go.Proofs
theorem kio_cell {lo hi b o : Nat} {w w' : World} {rs : List (Nat × Nat)} {bs : List Nat} {v : Value} (hk : KeptIn rs bs w w') (hs : ∀ x ∈ bs, x < lo ∨ hi ≤ x) (hin : ∃ r ∈ rs, r.1 ≤ lo ∧ hi ≤ r.2) (hb : lo ≤ b ∧ b < hi) (hc : w.cell? ⟨b, o, none⟩ = some v) : w'.cell? ⟨b, o, none⟩ = some v := by
  obtain ⟨r, hr1, hr2, hr3⟩ := hin
  have := hk.block b (cell_lt hc) (fun hm => by have := hs b hm; omega) ⟨r, hr1, by omega, by omega⟩
  unfold World.cell? at hc ⊢
  simp only [this]; exact hc
theorem LiesS.kio {lo hi : Nat} {w w' : World} {a : Option Addr} {ps : List (List Sp)} {rs : List (Nat × Nat)} {bs : List Nat} (h : LiesS lo hi w a ps) (hk : KeptIn rs bs w w') (hs : ∀ x ∈ bs, x < lo ∨ hi ≤ x) (hin : ∃ r ∈ rs, r.1 ≤ lo ∧ hi ≤ r.2) : LiesS lo hi w' a ps := fun i p hi => by
  obtain ⟨b, o, a', c, e, hb, h1, h2⟩ := h i p hi
  exact ⟨b, o, a', c, e, hb, kio_cell hk hs hin hb h1, h2.kio hk hs hin⟩
theorem lim_small {W : Wk} (h : ¬¬ Lim W) : Small W := by
  have h := Decidable.not_not.1 h
  exact ⟨by have := h.1; omega, by have := h.2.1; omega, fun p hp => by have := h.2.2 p hp; omega⟩
end Go.Proofs.R12
end
section
/- The laws' arguments, opened: works, pieces. -/
namespace Go.Proofs.R12
open Go.Vc Go.RowKit Go.Proofs
theorem leaves_works : leaves Try.prog 7 25 = some [.sl [.sl [Li, Li]], .sl [Li, Li, Li, Li, Li, Li]] := by kernel_rfl
theorem agg_works : isAggB Try.prog 25 = true := by kernel_rfl
theorem leaves_box : leaves Try.prog 5 56 = some [Li, .sl [Li], .sl [Li]] := by kernel_rfl
theorem agg_box : isAggB Try.prog 56 = true := by kernel_rfl
section
variable {w : World}
theorem flat_map1 {α : Type} {f : α → Value} (l : List α) : (l.flatMap fun y => [f y]) = l.map f := by
  induction l with
  | nil => rfl
  | cons a l ih => rw [List.flatMap_cons, ih]; rfl
theorem flat_one {α : Type} {f : α → Value} {l : List α} {i : Nat} {x : α} (h : l[i]? = some x) : (l.flatMap fun y => [f y])[i]? = some (f x) := by
  rw [flat_map1, List.getElem?_map, h]; rfl
theorem take_pats {v : Value} (h : LeafIs w (.sl [.sl [Li, Li]]) v) : ∃ a c, ∃ ps : List (List Sp), v = .slice a ps.length c ∧ ps.length ≤ maxLen ∧ CellsS w a ps := by
  obtain ⟨a, c, l, rfl, h1, h2, h3, h4⟩ := h.sl' (fun x : (Option Addr × Nat) × List Sp => [.slice x.1.1 x.2.length x.1.2]) (fun x => Cells w x.1.1 (spansV x.2)) fun x hx => by
    obtain ⟨v, r, rfl, g1, hx⟩ := hx.cons'
    rw [hx.nil']
    obtain ⟨a, c, l, rfl, k1, k2, k3, _⟩ := g1.sl' (fun s : Sp => [I s.1, I s.2]) (fun _ => True) fun x hx => by
      obtain ⟨x0, _, rfl, g0, hx⟩ := take_int hx
      obtain ⟨x1, _, rfl, g1, hx⟩ := take_int hx
      rw [hx.nil']
      exact ⟨(x0, x1), rfl, trivial⟩
    exact ⟨((a, c), l), rfl, k3⟩
  refine ⟨a, c, l.map (·.2), by rw [List.length_map], by rw [List.length_map]; omega, fun i p hi => ?_⟩
  rw [List.getElem?_map] at hi
  obtain ⟨x, hx, rfl⟩ := Option.map_eq_some_iff.1 hi
  obtain ⟨b, o, e, hc⟩ := h3 i _ (flat_one hx)
  exact ⟨b, o, _, _, e, hc, h4 x (List.mem_of_getElem? hx)⟩
theorem take_fits {v : Value} (h : LeafIs w (.sl [Li, Li, Li, Li, Li, Li]) v) : ∃ a c, ∃ l : List Fit, v = .slice a l.length c ∧ l.length ≤ maxLen ∧ Cells w a (fitsV l) := by
  obtain ⟨a, c, l, rfl, h1, h2, h3, _⟩ := h.sl' (fun f : Fit => f.cells) (fun _ => True) fun x hx => by
    obtain ⟨x0, _, rfl, g0, hx⟩ := take_int hx
    obtain ⟨x1, _, rfl, g1, hx⟩ := take_int hx
    obtain ⟨x2, _, rfl, g2, hx⟩ := take_int hx
    obtain ⟨x3, _, rfl, g3, hx⟩ := take_int hx
    obtain ⟨x4, _, rfl, g4, hx⟩ := take_int hx
    obtain ⟨x5, _, rfl, g5, hx⟩ := take_int hx
    rw [hx.nil']
    exact ⟨⟨x0, x1, x2, x3, (x4, x5)⟩, rfl, trivial⟩
  exact ⟨a, c, l, rfl, Nat.le_trans h1 h2, h3⟩
end
section
variable {w : World} {H : Type} {enc : TypeId × Value → H} {base b0 : Nat} {held : Bool} {spare : Nat → Bool} {reach : Reach}
set_option maxRecDepth 100000 in
theorem open_works {v : Value} {d : DataW H} {ps : List MemPlace} (hv : Value.okWide Try.prog w reach b0 25 v) (hd : DataW.Trod enc Try.prog w base spare held 25 v d ps) : ∃ W : Wk, ∃ pa pc fa fc, v = W.v pa pc fa fc ∧ CellsS w pa W.pats ∧ Cells w fa (fitsV W.fits) := by
  obtain ⟨cs, rfl, h⟩ := open_agg agg_works leaves_works hv hd
  obtain ⟨v0, r, rfl, h1, h⟩ := h.cons'
  obtain ⟨v1, r, rfl, h2, h⟩ := h.cons'
  rw [h.nil']
  obtain ⟨pa, pc, ps, rfl, _, hp⟩ := take_pats h1
  obtain ⟨fa, fc, fs, rfl, _, hf⟩ := take_fits h2
  exact ⟨⟨ps, fs⟩, pa, pc, fa, fc, rfl, hp, hf⟩
set_option maxRecDepth 100000 in
theorem open_box {v : Value} {d : DataW H} {ps : List MemPlace} (hv : Value.okWide Try.prog w reach b0 56 v) (hd : DataW.Trod enc Try.prog w base spare held 56 v d ps) : ∃ x : Int, ∃ Hs Ss : List Int, ∃ a c a' c', v = .agg #[I x, .slice a Hs.length c, .slice a' Ss.length c'] ∧ Hs.length ≤ maxLen ∧ Ss.length ≤ maxLen ∧ Cells w a (ints Hs) ∧ Cells w a' (ints Ss) := by
  obtain ⟨cs, rfl, h⟩ := open_agg agg_box leaves_box hv hd
  obtain ⟨x0, _, rfl, g0, h⟩ := take_int h
  obtain ⟨v1, r, rfl, h1, h⟩ := h.cons'
  obtain ⟨v2, r, rfl, h2, h⟩ := h.cons'
  rw [h.nil']
  obtain ⟨a, c, l, rfl, k1, hc⟩ := take_ints h1
  obtain ⟨a', c', l', rfl, k2, hc'⟩ := take_ints h2
  exact ⟨x0, l, l', a, c, a', c', rfl, k1, k2, hc, hc'⟩
end
end Go.Proofs.R12
end
section
/- The plain law of pairs: the smallest hole that fits the next shaft. -/
namespace Go.Proofs.R12
open Go.Vc Go.RowKit Go.Proofs
/-- The least number below n, by a key, that has a property. -/
def Least (p : Int → Prop) (key : Int → Int) (n x : Int) : Prop := (0 ≤ x ∧ x < n) ∧ p x ∧ ∀ y, 0 ≤ y → y < n → p y → y = x ∨ lexLt key x y
def Best (p : Int → Prop) (key : Int → Int) (n x : Int) : Prop := (x = -1 ∧ ∀ y, 0 ≤ y → y < n → ¬ p y) ∨ Least p key n x
section
variable {p : Int → Prop} {key : Int → Int} {n x : Int}
theorem Best.start : Best p key 0 (-1) := .inl ⟨rfl, fun y h1 h2 => by omega⟩
theorem Best.neg (h : Best p key n x) (hx : x < 0) : x = -1 ∧ ∀ y, 0 ≤ y → y < n → ¬ p y := by
  rcases h with h | ⟨⟨h1, h2⟩, _⟩
  · exact h
  · omega
theorem Best.pos (h : Best p key n x) (hx : 0 ≤ x) : Least p key n x := by
  rcases h with ⟨rfl, _⟩ | h
  · omega
  · exact h
theorem Best.skip (h : Best p key n x) (hp : ¬ p n) : Best p key (n + 1) x := by
  rcases h with ⟨h1, h2⟩ | ⟨⟨h1, h2⟩, h3, h4⟩
  · refine .inl ⟨h1, fun y g1 g2 => ?_⟩
    by_cases e : y = n
    · subst e; exact hp
    · exact h2 y g1 (by omega)
  · refine .inr ⟨⟨h1, by omega⟩, h3, fun y g1 g2 g3 => ?_⟩
    by_cases e : y = n
    · subst e; exact absurd g3 hp
    · exact h4 y g1 (by omega) g3
theorem Best.first (h : Best p key n x) (hn : 0 ≤ n) (hx : x < 0) (hp : p n) : Best p key (n + 1) n := by
  obtain ⟨h1, h2⟩ := h.neg hx
  refine .inr ⟨⟨hn, by omega⟩, hp, fun y g1 g2 g3 => ?_⟩
  by_cases e : y = n
  · exact .inl e
  · exact absurd g3 (h2 y g1 (by omega))
theorem Best.less (h : Best p key n x) (hn : 0 ≤ n) (hx : 0 ≤ x) (hp : p n) (hk : key n < key x) : Best p key (n + 1) n := by
  obtain ⟨h1, h2, h3⟩ := h.pos hx
  refine .inr ⟨⟨hn, by omega⟩, hp, fun y g1 g2 g3 => ?_⟩
  by_cases e : y = n
  · exact .inl e
  · rcases h3 y g1 (by omega) g3 with rfl | h
    · exact .inr (.inl hk)
    · unfold lexLt at h ⊢; omega
theorem Best.more (h : Best p key n x) (hx : 0 ≤ x) (hk : key x ≤ key n) : Best p key (n + 1) x := by
  obtain ⟨h1, h2, h3⟩ := h.pos hx
  refine .inr ⟨⟨h1.1, by omega⟩, h2, fun y g1 g2 g3 => ?_⟩
  by_cases e : y = n
  · subst e; right; unfold lexLt; omega
  · exact h3 y g1 (by omega) g3
end
section
variable {f : Fit} {H S : List Int}
theorem sortIdx_in {l : List Int} {x : Int} (h1 : 0 ≤ x) (h2 : x < l.length) : x ∈ sortIdx l := (sortIdx_perm l).symm.subset (idxs_in h1 h2)
theorem sortIdx_nd (l : List Int) : (sortIdx l).Nodup := (sortIdx_perm l).nodup_iff.2 (idxs_nodup _)
theorem take_succ_getD {l : List Int} {k : Nat} (h : k < l.length) : l.take (k + 1) = l.take k ++ [l.getD k 0] := by
  rw [List.take_succ_eq_append_getElem h, List.getD_eq_getElem?_getD, getElem_of_lt h]; rfl
theorem split_at {l : List Int} {k : Nat} (h : k < l.length) : l = l.take k ++ l.getD k 0 :: l.drop (k + 1) := by
  rw [List.getD_eq_getElem?_getD, getElem_of_lt h]
  show l = l.take k ++ l[k] :: l.drop (k + 1)
  rw [← List.drop_eq_getElem_cons h, List.take_append_drop]
/-- The least shaft that is left is the next one in order. -/
theorem next_shaft {k : Nat} {x : Int} (hk : k < S.length) (h : Best (fun s => s ∉ (sortIdx S).take k) (fun s => S.getD s.toNat 0) S.length x) : x = (sortIdx S).getD k 0 := by
  have hl : k < (sortIdx S).length := by rw [sortIdx_len]; exact hk
  have hsp := split_at hl
  have hnd := sortIdx_nd S
  have hso := sortIdx_sorted S
  have hm : (sortIdx S).getD k 0 ∈ sortIdx S := by rw [List.getD_eq_getElem?_getD, getElem_of_lt hl]; exact List.getElem_mem _
  have hr := sortIdx_mem hm
  generalize (sortIdx S).getD k 0 = z at *
  have hmem : ∀ y : Int, 0 ≤ y → y < S.length → y ∈ sortIdx S := fun y h1 h2 => sortIdx_in h1 h2
  generalize (sortIdx S).take k = A at *
  generalize (sortIdx S).drop (k + 1) = C at *
  generalize sortIdx S = L at *
  subst hsp
  have hzA : z ∉ A := fun hz => by
    have := (List.nodup_append.1 hnd).2.2 z hz z List.mem_cons_self
    exact this rfl
  rcases h with ⟨rfl, h2⟩ | ⟨h1, h2, h3⟩
  · exact absurd hzA (h2 z hr.1 hr.2)
  · rcases h3 z hr.1 hr.2 hzA with e | hlt
    · exact e.symm
    · have hx := hmem x h1.1 h1.2
      rcases List.mem_append.1 hx with hx | hx
      · exact absurd hx h2
      · rcases List.mem_cons.1 hx with e | hx
        · exact e
        · have := (List.pairwise_cons.1 (List.pairwise_append.1 hso).2.1).1 x hx
          unfold lexLt at this hlt
          omega
/-- Holes that are left out are too small for all shafts to come. -/
def Out (f : Fit) (H S : List Int) (k : Nat) : Prop := ∀ h ∈ sortIdx H, h ∉ (pairSt f H S k).1 → h ∉ (pairSt f H S k).2.map (·.2) → ∀ s ∈ (sortIdx S).drop k, H.getD h.toNat 0 - S.getD s.toNat 0 < f.gap.1
theorem mem_split_drop {q : Int → Bool} {l : List Int} {x : Int} (h : x ∈ l) : x ∈ l.dropWhile q ∨ q x = true := by
  rw [← List.takeWhile_append_dropWhile (p := q) (l := l)] at h
  rcases List.mem_append.1 h with h | h
  · right
    exact List.all_eq_true.1 List.all_takeWhile x h
  · exact .inl h
theorem drop_getD {l : List Int} {k : Nat} (h : k < l.length) : l.drop k = l.getD k 0 :: l.drop (k + 1) := by
  rw [List.getD_eq_getElem?_getD, getElem_of_lt h]
  exact List.drop_eq_getElem_cons h
theorem out_mono {k : Nat} (hk : k < S.length) {s : Int} (hs : s ∈ (sortIdx S).drop k) : S.getD ((sortIdx S).getD k 0).toNat 0 ≤ S.getD s.toNat 0 := by
  have hl : k < (sortIdx S).length := by rw [sortIdx_len]; exact hk
  have hd := drop_getD hl
  have hso := (sortIdx_sorted S).sublist (List.drop_sublist k _)
  rw [hd] at hs hso
  rcases List.mem_cons.1 hs with e | hs
  · rw [e]; omega
  · have := (List.pairwise_cons.1 hso).1 s hs
    simp only [lexLt] at this
    omega
theorem pairSt_out : ∀ {k : Nat}, k ≤ S.length → Out f H S k
  | 0, _ => by
    intro h hh h1
    simp [pairSt] at h1
    exact absurd hh h1
  | k + 1, hk => by
    have ih := pairSt_out (k := k) (by omega)
    have hl : k < (sortIdx S).length := by rw [sortIdx_len]; omega
    intro h hh h1 h2 s hs
    have hs' : s ∈ (sortIdx S).drop k := by rw [drop_getD hl]; exact List.mem_cons_of_mem _ hs
    have hge := out_mono (by omega) hs'
    rw [pairSt_succ (by omega)] at h1 h2
    unfold pstep at h1 h2
    by_cases hq : h ∈ (pairSt f H S k).1
    · rcases mem_split_drop (q := smallQ f H S ((sortIdx S).getD k 0)) hq with hd | hsm
      · split at h1
        · rename_i e; rw [e] at hd; simp at hd
        · rename_i a t e
          rw [e] at hd
          split at h1
          · rename_i hF
            simp only [e, hF, if_true] at h2
            rcases List.mem_cons.1 hd with rfl | hd
            · exact absurd (by simp) h2
            · exact absurd hd h1
          · exact absurd hd h1
      · unfold smallQ at hsm
        have := of_decide_eq_true hsm
        omega
    · refine ih h hh hq (fun hm => h2 ?_) s hs'
      split
      · exact hm
      · split
        · rw [List.map_append]; exact List.mem_append_left _ hm
        · exact hm
/-- The hole that the next shaft gets. -/
theorem next_hole {k : Nat} {x : Int} (hk : k < S.length) (h : Best (fun h => h ∉ (pairSt f H S k).2.map (·.2) ∧ isF f (H.getD h.toNat 0) (S.getD ((sortIdx S).getD k 0).toNat 0)) (fun h => H.getD h.toNat 0) H.length x) :
    (pairSt f H S (k + 1)).2 = if x < 0 then (pairSt f H S k).2 else (pairSt f H S k).2 ++ [((sortIdx S).getD k 0, x)] := by
  have hl : k < (sortIdx S).length := by rw [sortIdx_len]; exact hk
  obtain ⟨i1, i2⟩ := pairSt_inv (f := f) (H := H) (S := S) (n := k) (by omega)
  have ho := pairSt_out (f := f) (H := H) (S := S) (k := k) (by omega)
  rw [pairSt_succ (by omega)]
  have hsm : (sortIdx S).getD k 0 ∈ (sortIdx S).drop k := by rw [drop_getD hl]; exact List.mem_cons_self
  have hoS := fun h hh h1 h2 => ho h hh h1 h2 _ hsm
  generalize (sortIdx S).getD k 0 = s at *
  have hso : Sorted (fun h => H.getD h.toNat 0) ((pairSt f H S k).1.dropWhile (smallQ f H S s)) := ((sortIdx_sorted H).sublist i1.sublist).sublist (List.dropWhile_suffix _).sublist
  have hdm : ∀ y ∈ (pairSt f H S k).1.dropWhile (smallQ f H S s), y ∈ (pairSt f H S k).1 := fun y hy => (List.dropWhile_suffix _).subset hy
  have hfree : ∀ y ∈ (pairSt f H S k).1, y ∉ (pairSt f H S k).2.map (·.2) := fun y hy hm => by
    obtain ⟨p, hp, e⟩ := List.mem_map.1 hm
    exact (i2 p hp).2.2 (by rw [e]; exact hy)
  -- a free hole that fits stands in what is left
  have hleft : ∀ y : Int, 0 ≤ y → y < H.length → y ∉ (pairSt f H S k).2.map (·.2) → isF f (H.getD y.toNat 0) (S.getD s.toNat 0) → y ∈ (pairSt f H S k).1.dropWhile (smallQ f H S s) := fun y h1 h2 h3 h4 => by
    unfold isF at h4
    by_cases hq : y ∈ (pairSt f H S k).1
    · rcases mem_split_drop (q := smallQ f H S s) hq with hd | hsm
      · exact hd
      · unfold smallQ at hsm
        have := of_decide_eq_true hsm
        omega
    · have := hoS y (sortIdx_in h1 h2) hq h3
      omega
  have hrng : ∀ y ∈ (pairSt f H S k).1, 0 ≤ y ∧ y < H.length := fun y hy => sortIdx_mem (i1.subset hy)
  unfold pstep
  cases hd : (pairSt f H S k).1.dropWhile (smallQ f H S s) with
  | nil =>
    rcases h with ⟨rfl, _⟩ | ⟨h1, ⟨h2, h3⟩, _⟩
    · simp
    · have := hleft x h1.1 h1.2 h2 h3
      rw [hd] at this; cases this
  | cons a t =>
    rw [hd] at hso hdm hleft
    have ha := hdm a List.mem_cons_self
    have hra := hrng a ha
    have hasm : ¬ H.getD a.toNat 0 - S.getD s.toNat 0 < f.gap.1 := by
      have := List.head?_dropWhile_not (smallQ f H S s) (pairSt f H S k).1
      rw [hd] at this
      simp [smallQ] at this
      simp only [List.getD_eq_getElem?_getD]
      omega
    simp only
    by_cases hF : isF f (H.getD a.toNat 0) (S.getD s.toNat 0)
    · rw [if_pos hF]
      rcases h with ⟨rfl, h2⟩ | ⟨h1, ⟨h2, h3⟩, h4⟩
      · exact absurd ⟨hfree a ha, hF⟩ (h2 a hra.1 hra.2)
      · rw [if_neg (by omega)]
        have hx := hleft x h1.1 h1.2 h2 h3
        have : x = a := by
          rcases List.mem_cons.1 hx with e | hx
          · exact e
          · rcases h4 a hra.1 hra.2 ⟨hfree a ha, hF⟩ with e | hlt
            · exact e.symm
            · have := (List.pairwise_cons.1 hso).1 x hx
              simp only [lexLt] at this hlt
              omega
        rw [this]
    · rw [if_neg hF]
      rcases h with ⟨rfl, h2⟩ | ⟨h1, ⟨h2, h3⟩, h4⟩
      · simp
      · exfalso
        have hx := hleft x h1.1 h1.2 h2 h3
        rcases List.mem_cons.1 hx with e | hx
        · rw [e] at h3; exact hF h3
        · have := (List.pairwise_cons.1 hso).1 x hx
          simp only [lexLt] at this
          unfold isF at h3 hF
          omega
/-- What each shaft gets, or -1. -/
def getsOf (ps : List (Int × Int)) (n : Nat) : List Int := (idxs n).map fun s => (ps.lookup s).getD (-1)
theorem getsOf_len (ps : List (Int × Int)) (n : Nat) : (getsOf ps n).length = n := by simp [getsOf, idxs]
theorem getsOf_at {ps : List (Int × Int)} {n : Nat} {s : Int} (h0 : 0 ≤ s) (h1 : s < n) : (getsOf ps n).getD s.toNat 0 = (ps.lookup s).getD (-1) := by
  unfold getsOf idxs
  rw [List.map_map, List.getD_eq_getElem?_getD, List.getElem?_map, List.getElem?_range (by omega)]
  simp only [Option.map_some, Option.getD_some, Function.comp, Int.ofNat_eq_natCast]
  rw [show ((s.toNat : Nat) : Int) = s by omega]
theorem look_app {ps : List (Int × Int)} {s t h : Int} (hs : ∀ p ∈ ps, p.1 ≠ s) : (ps ++ [(s, h)]).lookup t = if t = s then some h else ps.lookup t := by
  induction ps with
  | nil =>
    by_cases e : t = s
    · subst e; simp
    · have : (t == s) = false := by simpa using e
      simp [this, e]
  | cons p r ih =>
    obtain ⟨a, b⟩ := p
    have ha := hs (a, b) List.mem_cons_self
    simp only at ha
    have ih := ih fun p hp => hs p (List.mem_cons_of_mem _ hp)
    simp only [List.cons_append, List.lookup]
    by_cases e : t = a
    · subst e
      simp [ha]
    · have : (t == a) = false := by simpa using e
      rw [this]
      exact ih
theorem getsOf_app {ps : List (Int × Int)} {n : Nat} {s h : Int} (hs : ∀ p ∈ ps, p.1 ≠ s) (h0 : 0 ≤ s) (h1 : s < n) : getsOf (ps ++ [(s, h)]) n = (getsOf ps n).set s.toNat h := by
  refine List.ext_getElem (by simp [getsOf_len]) fun i g1 g2 => ?_
  rw [getsOf_len] at g1
  rw [List.getElem_set]
  simp only [getsOf, idxs, List.map_map, List.getElem_map, List.getElem_range, Function.comp, Int.ofNat_eq_natCast]
  rw [look_app hs]
  by_cases e : s.toNat = i
  · rw [if_pos e, if_pos (by omega)]; rfl
  · rw [if_neg e, if_neg (by omega)]
end
end Go.Proofs.R12
end
section
/- Enough spares: the plain law. -/
namespace Go.Proofs.R12
open Go.Vc Go.RowKit Go.Proofs

/-- Replacements of one clock before a year. -/
def qT (lo frm Y : Int) : Int := max 0 ((Y - 1 - frm).tdiv lo)
/-- What was used before a year. -/
def cum (U : List Int) (Y : Int) : Int := (U.take Y.toNat).sum
/-- Contracts as the law makes them. -/
structure ConOk (lo : Int) (x : Con) : Prop where
  c : 0 ≤ x.clocks ∧ x.clocks ≤ 5
  f : lo ≤ x.frm ∧ x.frm ≤ x.to
  t : x.to ≤ 200
section
variable {lo : Int} {l : List Con} (hl : 1 ≤ lo) (hc : ∀ x ∈ l, ConOk lo x)
include hl hc
end
/-- Orders as the law makes them. -/
structure OrdOk (lo : Int) (o : List Int) : Prop where
  n : 0 < o.length ∧ o.length ≤ 6
  inc : ∀ j : Nat, j < o.length → 0 < j → o.getD (j - 1) 0 < o.getD j 0
  bd : ∀ y ∈ o, 0 ≤ y ∧ y ≤ 200
  fst : o.getD 0 0 < 2 * lo
def nextO (o : List Int) (j : Nat) : Int := (nexts o).getD j 0
section
variable {lo hi : Int} {l : List Con} {o : List Int}
/-- What one truth uses: no more than is said, and just as much if all lives are short. -/
structure Uses (tr : Int) (U : List Int) (B : Int → Int) : Prop where
  n : U.length = 201
  p : ∀ x ∈ U, 0 ≤ x
  le : ∀ Y, 0 ≤ Y → Y ≤ 201 → cum U Y ≤ B Y
  eq : tr = 1 → ∀ Y, 0 ≤ Y → Y ≤ 201 → cum U Y = B Y
/-- A clock's k replacements: the last one in year y. -/
structure Clock (tr lo frm to k y : Int) : Prop where
  kn : 0 ≤ k
  yl : frm + k * lo ≤ y
  ye : tr = 1 → y = frm + k * lo
  yt : k = 0 ∨ y < to
def kq (lo frm k Y : Int) : Int := min k (qT lo frm Y)
/-- The office's stock at the beginning of a year. -/
structure Stock (lo : Int) (l : List Con) (o : List Int) (tr : Int) (U Lm : List Int) (st ord y : Int) : Prop where
  ob : 0 ≤ ord ∧ ord ≤ o.length
  past : ∀ j : Nat, (j : Int) < ord → o.getD j 0 < y
  next : ord < o.length → y ≤ o.getD ord.toNat 0
  se : st = bought lo l o ord.toNat - cum U y
  ln : Lm.length = o.length
  lm : ∀ j : Nat, j < o.length → nextO o j ≤ y → Lm.getD j 0 = bought lo l o (j + 1) - cum U (nextO o j)
/-- .. and after its orders. -/
structure Stock2 (lo : Int) (l : List Con) (o : List Int) (U Lm : List Int) (st ord y : Int) : Prop where
  ob : 0 ≤ ord ∧ ord ≤ o.length
  past : ∀ j : Nat, (j : Int) < ord → o.getD j 0 ≤ y
  next : ord < o.length → y < o.getD ord.toNat 0
  se : st = bought lo l o ord.toNat - cum U y
  ln : Lm.length = o.length
  lm : ∀ j : Nat, j < o.length → nextO o j ≤ y → Lm.getD j 0 = bought lo l o (j + 1) - cum U (nextO o j)
end
end Go.Proofs.R12
end
section
/- The conditions of the functions, printed by program; each is what the generator reckons (kernel_rfl). -/
namespace Go.Proofs
open Go.Vc
end Go.Proofs
end
section
/- The law PartEnough, walked. -/
namespace Go.Proofs.R12
open Go.Vc Go.RowKit Go.Proofs
def u8s (l : List Int) : List Value := l.map (Value.int .u8)
def byteM (l : List Int) (i : Int) : Int := if l.length = 0 then 0 else l.getD (i.tmod l.length).toNat 0
def tripsV (l : List (Int × Int × Int)) : List Value := l.flatMap fun t => [.int .u8 t.1, .int .u8 t.2.1, .int .u8 t.2.2]
/-- Since a world: nothing but some blocks of what was there has turned. -/
structure SinceL (T : List Nat) (u w : World) : Prop where
  h : Chg T u w
section
variable {T : List Nat} {u w w' : World}
end
/-- Integers in a block of their own. -/
structure IntsAt (b n : Nat) (l : List Int) (w : World) : Prop where
  h : w.heap[b]? = some (.cells (ints l).toArray 3 (0, 0))
  len : l.length = n
section
variable {b n : Nat} {l : List Int} {w w' : World}
end
/-- The orders that are made so far. -/
structure OrdI (lo : Int) (o : List Int) (ii yr : Int) : Prop where
  n : (o.length : Int) ≤ ii
  e : ii = 0 → o.length = 0
  inc : ∀ j : Nat, j < o.length → 0 < j → o.getD (j - 1) 0 < o.getD j 0
  bd : ∀ y ∈ o, 0 ≤ y ∧ y ≤ yr
  yr : 0 ≤ yr ∧ yr ≤ 30 + 20 * ii
  fst : 0 < ii → 0 < o.length ∧ o.getD 0 0 < 2 * lo
abbrev Held11 (B b9 B2 b20 b44 b45 : Nat) (a1 a3 a8 : Option Addr) (l : List Con) (o n : List Int) (w : World) : Prop := (Lies [] B b9 w a1 (consV l) ∧ Lies [] B2 b20 w a3 (ints o) ∧ Lies [] b44 b45 w a8 (ints n)) ∧ b45 ≤ w.heap.size
end Go.Proofs.R12
end
section
/- Truth values in a block of their own. -/
namespace Go.Proofs.R12
open Go.Vc Go.RowKit Go.Proofs
def bools (l : List Bool) : List Value := l.map Value.bool
structure BoolsAt (b n : Nat) (l : List Bool) (w : World) : Prop where
  h : w.heap[b]? = some (.cells (bools l).toArray 4 (0, 0))
  len : l.length = n
section
variable {b n : Nat} {l : List Bool} {w w' : World}
theorem BoolsAt.lt (h : BoolsAt b n l w) : b < w.heap.size := lt_of_some h.h
theorem BoolsAt.out {S : List Nat} (h : BoolsAt b n l w) (hc : Chg S w w') (hs : b ∉ S) : BoolsAt b n l w' := ⟨by rw [hc.keep b h.lt hs]; exact h.h, h.len⟩
theorem BoolsAt.same (h : BoolsAt b n l w) (e : w'.heap[b]? = w.heap[b]?) : BoolsAt b n l w' := ⟨by rw [e]; exact h.h, h.len⟩
theorem load_bl {i : Int} {X : Nat → Nat → Bool → Prop} (h : BoolsAt b n l w) (hi0 : 0 ≤ i ∧ i < (n : Int)) (k : ∀ o, X b o (l.getD i.toNat false)) : ∃ m o, (some ⟨b, 0, none⟩ : Option Addr) = some ⟨m, o, none⟩ ∧ (0 ≤ i ∧ i < (n : Int)) ∧ ∃ x : Bool, w.cell? ⟨m, o + i.toNat * 1, none⟩ = some (.bool x) ∧ X m o x := by
  have hi : i.toNat < l.length := by have := h.len; omega
  have hv : (bools l)[i.toNat]? = some (.bool (l.getD i.toNat false)) := by
    unfold bools; rw [List.getElem?_map, getElem_of_lt hi, List.getD_eq_getElem?_getD, getElem_of_lt hi]; rfl
  exact ⟨b, 0, rfl, hi0, _, cell_at' (cell_obj h.h hv) (by omega), k 0⟩
theorem store_bl {i : Int} {x : Bool} {R : Value → World → Prop} (h : BoolsAt b n l w) (hi : 0 ≤ i ∧ i < (n : Int)) (hR : ∀ w', BoolsAt b n (l.set i.toNat x) w' → Chg [b] w w' → R (.tuple #[]) w') : RunsTo Try.prog ((Instr.storeAt 4 (.pointer (some ⟨b, 0 + i.toNat * 1, none⟩)) (.bool x)) >>= fun _ => pure (Value.tuple #[])) w R := by
  have hl := h.len
  refine obj_store (cs := bools l) (vs := [.bool x]) h.h (by kernel_rfl) (by kernel_rfl) (by simp [bools]; omega) rfl (by simp; trivial) fun w' hh hc => hR w' ⟨?_, by rw [List.length_set]; exact hl⟩ hc
  rw [hh]
  congr 3
  unfold bools
  rw [show 0 + i.toNat * 1 = i.toNat by omega]
  apply List.ext_getElem?
  intro j
  rw [List.getElem?_map, List.getElem?_set]
  have hlen : ((l.map Value.bool).take i.toNat).length = i.toNat := by simp; omega
  by_cases hj : j < i.toNat
  · rw [if_neg (by omega), List.append_assoc, List.getElem?_append_left (by rw [hlen]; exact hj), List.getElem?_take, if_pos hj, List.getElem?_map]
  · by_cases he : i.toNat = j
    · rw [if_pos he, if_pos (by omega), List.append_assoc, List.getElem?_append_right (by rw [hlen]; omega), hlen, he]; simp
    · rw [if_neg he, List.getElem?_append_right (by rw [List.length_append, hlen]; simp; omega), List.length_append, hlen, List.getElem?_drop, List.getElem?_map]
      congr 2; simp; omega
theorem mk_bools {n : Int} {R : Value → World → Prop} (h0 : 0 ≤ n) (h1 : n ≤ 1000000) (hR : ∀ w', Below w.heap.size w w' → BoolsAt w.heap.size n.toNat (List.replicate n.toNat false) w' → R (.slice (some ⟨w.heap.size, 0, none⟩) n.toNat n.toNat) w') : RunsTo Try.prog (Instr.makeSlice 135 (I n) (I n)) w R := by
  obtain ⟨i, hi⟩ : ∃ i, Try.prog.info? 4 = some i := Option.isSome_iff_exists.1 (by kernel_rfl)
  have hz : (Try.prog.info? 4).map (fun i => (i.zero, i.size, i.bytes)) = some (some (.bool false), 1, 1) := by kernel_rfl
  rw [hi] at hz
  simp only [Option.map_some, Option.some.injEq, Prod.mk.injEq] at hz
  have hr := run_make (P := Try.prog) w 135 4 i (.bool false) (by kernel_rfl) hi hz.1 .i64 .i64 n n h0 (Int.le_refl _) (by rw [hz.2.2]; omega) (by omega)
  refine ⟨_, _, hr, hR _ ?_ ⟨?_, by simp⟩⟩
  · exact (Below.refl _ _).alloc (Nat.le_refl _) _
  · rw [hz.2.1]
    have e : madeCells (Value.bool false).cells (n.toNat * 1) = (bools (List.replicate n.toNat false)).toArray := by
      apply Array.ext
      · simp [madeCells, bools]
      · intro j h1 h2
        simp [madeCells, bools, Value.cells, Nat.mod_one]
    rw [e]
    show (w.heap.push _)[w.heap.size]? = _
    rw [Array.getElem?_push_size]
end
/-- A row of truth values by number. -/
def mapB (p : Int → Bool) (n : Nat) : List Bool := (idxs n).map p
theorem mapB_len (p : Int → Bool) (n : Nat) : (mapB p n).length = n := by simp [mapB, idxs]
theorem mapB_get {p : Int → Bool} {n i : Nat} (h : i < n) : (mapB p n)[i]'(by rw [mapB_len]; exact h) = p i := by simp [mapB, idxs]
theorem mapB_at {p : Int → Bool} {n : Nat} {i : Int} (h0 : 0 ≤ i) (h1 : i < n) : (mapB p n).getD i.toNat false = p i := by
  rw [List.getD_eq_getElem?_getD, getElem_of_lt (by rw [mapB_len]; omega), Option.getD_some]
  have := mapB_get (p := p) (n := n) (i := i.toNat) (by omega)
  rw [show ((i.toNat : Nat) : Int) = i by omega] at this
  exact this
theorem mapB_congr {p q : Int → Bool} {n : Nat} (h : ∀ i : Int, 0 ≤ i → i < n → p i = q i) : mapB p n = mapB q n := by
  unfold mapB
  refine List.map_congr_left fun x hx => ?_
  have := idxs_mem hx
  exact h x this.1 this.2
theorem mapB_set {p q : Int → Bool} {n : Nat} {i : Int} {b : Bool} (h0 : 0 ≤ i) (h1 : i < n) (he : q i = b) (h : ∀ j : Int, 0 ≤ j → j < n → j ≠ i → q j = p j) : (mapB p n).set i.toNat b = mapB q n := by
  refine List.ext_getElem (by simp [mapB_len]) fun j g1 g2 => ?_
  rw [List.length_set, mapB_len] at g1
  rw [List.getElem_set, mapB_get (p := q) g1]
  by_cases e : i.toNat = j
  · rw [if_pos e, ← he]; congr 1; omega
  · rw [if_neg e, mapB_get (p := p) g1]
    exact (h j (by omega) (by omega) (by omega)).symm
theorem mapB_rep {p : Int → Bool} {n : Nat} {b : Bool} (h : ∀ i : Int, 0 ≤ i → i < n → p i = b) : List.replicate n b = mapB p n := by
  refine List.ext_getElem (by simp [mapB_len]) fun j g1 g2 => ?_
  rw [List.length_replicate] at g1
  rw [List.getElem_replicate, mapB_get g1]
  exact (h j (by omega) (by omega)).symm
end Go.Proofs.R12
end
