/- Part 7: own lemmas, and the conditions of the functions. -/
import Derived.Test.YtmbdiifcfcpibaaP06
section
/- BeatCone. -/
namespace Go.Proofs.R03
open Go.Vc Go.RowKit Go.Proofs

theorem copied_l (c : Clk) {a : Option Addr} {n : Nat} {w : World} (hc : Cells w a (rods c.rods)) (hn : c.rods.length ≤ 100000) : Calls Try.prog 13 #[c.v a n] w fun e w' => ∃ a' n', e = .returned (c.v a' n') ∧ Below w.heap.size w w' ∧ Lies [] w.heap.size w'.heap.size w' a' (rods c.rods) :=
  (copied_any c hc hn).mono fun _ _ ⟨a', n', h1, h2, h3⟩ => ⟨a', n', h1, h2, Lies.row h3⟩
theorem clock_l (m : Made) {ra : Option Addr} {rc : Nat} {w : World} (hc : Cells w ra (mrods m.rods)) (hm : OkMade m) : Calls Try.prog 33 #[m.v ra rc] w fun e w' => ∃ a' n', e = .returned ((clockC m).v a' n') ∧ Below w.heap.size w w' ∧ Lies [] w.heap.size w'.heap.size w' a' (rods (clockC m).rods) :=
  (clock_any m hc hm).mono fun _ _ ⟨a', n', h1, h2, h3⟩ => ⟨a', n', h1, h2, Lies.row h3⟩
def TrL (t : Tr) (w : World) (e : Ending) (w' : World) : Prop := ∃ a n, e = .returned (t.v a n) ∧ Below w.heap.size w w' ∧ Lies [] w.heap.size w'.heap.size w' a (ints t.grow)
theorem truthOf_l (c : Clk) (b : Bn) {by_ : List Int} {ra ba : Option Addr} {rc bc : Nat} {w : World} (hc : Cells w ra (rods c.rods)) (hB : Cells w ba (bytes8 by_)) (h8 : ∀ x ∈ by_, B8 x) (hk : check c = 0) (hb : OkB b) :
    Calls Try.prog 35 #[c.v ra rc, b.v, .slice ba by_.length bc] w (TrL (truthOf c b by_) w) :=
  (truthOf_any c b hc hB h8 hk hb).mono fun _ _ ⟨a', n', h1, h2, h3⟩ => ⟨a', n', h1, h2, Lies.row h3⟩

theorem clockL_rods {l : List MRod} (hl : ∀ r ∈ l, okM r) : (∀ r ∈ (clockL l).2, (1 ≤ r.len ∧ r.len ≤ 9000) ∧ 0 ≤ r.lo ∧ r.lo ≤ r.hi ∧ r.hi ≤ 5865) ∧ 9000 ≤ lenC (clockL l).2 + (8000 - (clockL l).1) ∧ lenC (clockL l).2 ≤ 9000 + 4000 * (l.length : Int) := by
  have app : ∀ (a b : List Rod), lenC (a ++ b) = lenC a + lenC b := fun a b => by simp [lenC]
  have h : ∀ (l : List MRod) (st : Int × List Rod) (k : Int), (∀ r ∈ l, okM r) → (∀ r ∈ st.2, (1 ≤ r.len ∧ r.len ≤ 9000) ∧ 0 ≤ r.lo ∧ r.lo ≤ r.hi ∧ r.hi ≤ 5865) → 9000 ≤ lenC st.2 + (8000 - st.1) → lenC st.2 ≤ k →
      (∀ r ∈ (l.foldl stepM st).2, (1 ≤ r.len ∧ r.len ≤ 9000) ∧ 0 ≤ r.lo ∧ r.lo ≤ r.hi ∧ r.hi ≤ 5865) ∧ 9000 ≤ lenC (l.foldl stepM st).2 + (8000 - (l.foldl stepM st).1) ∧ lenC (l.foldl stepM st).2 ≤ k + 4000 * (l.length : Int) := fun l => by
    induction l with
    | nil => intro st k _ h1 h2 h3; exact ⟨h1, h2, by simpa using h3⟩
    | cons x l ih =>
      intro st k hx h1 h2 h3
      rw [List.foldl_cons]
      obtain ⟨x1, x2, x3⟩ := hx x List.mem_cons_self
      have hm := tmod_rng x1.1 (b := 4000) (by decide)
      have e : lenC (stepM st x).2 = lenC st.2 + (if (x.up && decide (1 + x.len.tmod 4000 ≤ st.1)) = true then -1 else 1) * (1 + x.len.tmod 4000) := by
        show lenC (st.2 ++ _) = _
        rw [app]
        simp [lenC, sgn]
      have e1 : (stepM st x).1 = if (x.up && decide (1 + x.len.tmod 4000 ≤ st.1)) = true then st.1 - (1 + x.len.tmod 4000) else st.1 := rfl
      have := ih (stepM st x) (k + 4000) (fun r hr => hx r (List.mem_cons_of_mem _ hr)) (fun r hr => ?_) ?_ ?_
      · refine ⟨this.1, this.2.1, ?_⟩
        have := this.2.2
        simp only [List.length_cons]; omega
      · rcases List.mem_append.1 hr with hr | hr
        · exact h1 r hr
        · rw [List.mem_singleton.1 hr]
          simp only; omega
      · rw [e, e1]
        split <;> omega
      · rw [e]
        split <;> omega
  have := h l (8000, [⟨9000, 1100, 1150, false⟩]) 9000 hl (by intro r hr; rw [List.mem_singleton.1 hr]; decide) (by decide) (by decide)
  exact this
theorem clockC_ok {m : Made} (hm : OkMade m) : check (clockC m) = 0 := by
  obtain ⟨h1, h2, h3⟩ := clockL_rods (l := m.rods.take 3) fun r hr => hm.rods r (List.mem_of_mem_take hr)
  have h4 := clockL_left (l := m.rods.take 3) fun r hr => hm.rods r (List.mem_of_mem_take hr)
  have h5 := clockL_len (m.rods.take 3)
  have q1 := tmod_rng hm.kind.1 (b := 3) (by decide)
  have q2 := tmod_rng hm.b0.1 (b := 100) (by decide)
  have q3 := tmod_rng hm.b1.1 (b := 50) (by decide)
  have r0 := hm.base; have r3 := hm.b2; have r4 := hm.b3
  have hl : (m.rods.take 3).length ≤ 3 := List.length_take_le _ _
  have hlen : (clockC m).rods.length = (clockL (m.rods.take 3)).2.length := rfl
  unfold check
  rw [if_neg (by rw [hlen]; omega), if_pos]
  refine ⟨fun h => ?_, fun r hr => ?_, ?_, ?_, ?_, ?_⟩
  · have := congrArg List.length h
    rw [hlen, h5] at this
    simp at this
  · have := h1 r hr
    show (1 ≤ r.len ∧ r.len ≤ 100000) ∧ 0 ≤ r.lo ∧ r.lo ≤ r.hi ∧ r.hi ≤ 40000; omega
  · show 100 ≤ lenC (clockL (m.rods.take 3)).2 ∧ lenC (clockL (m.rods.take 3)).2 ≤ 100000
    omega
  · show -1000000 ≤ m.base ∧ m.base ≤ 1000000
    omega
  · simp only [okS, clockC]; omega
  · unfold driveOk
    simp only [okS, clockC]
    by_cases k3 : 1 + m.kind.tmod 3 = 3
    · rw [if_pos k3]; simp only; omega
    · rw [if_neg k3]
      by_cases k1 : 1 + m.kind.tmod 3 = 1
      · rw [if_pos k1]; simp only; omega
      · rw [if_neg k1]; simp only; omega
theorem clockC_few (m : Made) : (clockC m).rods.length ≤ 4 := by
  show (clockL (m.rods.take 3)).2.length ≤ 4
  rw [clockL_len, List.length_take]; omega

theorem truthOf_in {c : Clk} {b : Bn} {by_ : List Int} (h8 : ∀ x ∈ by_, B8 x) (hk : check c = 0) (hb : OkB b) : InK (truthOf c b by_) (newK c b) := by
  obtain ⟨hl8, hrn, hrod, hlen, hbase, hair, hdr⟩ := check_len hk
  obtain ⟨b1, b2, b3, b4⟩ := hb
  have hdr' : c.drive.1 ≤ c.drive.2 := by unfold driveOk at hdr; simp only [okS] at hdr; omega
  have at_ := fun (i : Int) => byteAt_ok h8 i
  refine ⟨by simp [truthOf, newK], fun i x s hx hs => ?_, insideS_in hair.2.1 (at_ 0), insideS_in hdr' (at_ 1), insideS_in b1.2.1 (at_ 2), insideS_in b2.2.1 (at_ 3), insideS_in b3.2.1 (at_ 4), insideS_in b4.2.1 (at_ 5)⟩
  have hi : i < c.rods.length := by have := (List.getElem?_eq_some_iff.1 hx).1; simpa [truthOf] using this
  simp only [newK, List.getElem?_map, getElem_of_lt hi, Option.map_some, Option.some.injEq] at hs
  simp only [truthOf, List.getElem?_map, List.getElem?_range hi, Option.map_some, Option.some.injEq, List.getD, getElem_of_lt hi, Option.getD_some] at hx
  rw [← hx, ← hs]
  exact insideS_in (s := (_, _)) (hrod _ (List.getElem_mem hi)).2.2.1 (at_ _)

theorem bd_of_mul {a g A : Int} (hg : 0 < g) (h : -A ≤ a * g ∧ a * g ≤ A) : -A ≤ a ∧ a ≤ A := by
  rcases Int.le_total 0 a with ha | ha
  · have := Int.mul_le_mul_of_nonneg_left (show (1 : Int) ≤ g by omega) ha
    have := Int.mul_nonneg ha (show 0 ≤ g by omega)
    omega
  · have := Int.mul_le_mul_of_nonpos_left ha (show (1 : Int) ≤ g by omega)
    have : a * g ≤ 0 := Int.mul_nonpos_of_nonpos_of_nonneg ha (by omega)
    omega
abbrev Z64 (x : Int) : Prop := -1000000000000000000 ≤ x ∧ x ≤ 1000000000000000000
structure ConeOk (S r x y : Sp) : Prop where
  r2 : 1 ≤ r.2
  x2 : 1 ≤ x.2
  y2 : 1 ≤ y.2
  bS : Z64 S.1 ∧ Z64 S.2
  br : Z64 (S.1 * r.2) ∧ Z64 (S.2 * r.2)
  bx : Z64 (S.1 * x.2) ∧ Z64 ((S.1 + 1) * x.2)
  b_y : Z64 (S.2 * y.2) ∧ Z64 ((S.2 - 1) * y.2)
  r_in : S.1 * r.2 ≤ r.1 ∧ r.1 ≤ S.2 * r.2
  xy : x.2 = y.2 → x.1 ≤ y.1
  x_in : S.1 * x.2 ≤ x.1 ∧ x.1 < (S.1 + 1) * x.2
  y_in : y.1 ≤ S.2 * y.2 ∧ (S.2 - 1) * y.2 < y.1
theorem cone_ok {A B p n : Int} (hn : 0 < n ∧ n ≤ 1000000000) (hA : -30000000000000000 ≤ A ∧ A ≤ p) (hB : p ≤ B ∧ B ≤ 30000000000000000) : ConeOk (roundS n (A, B)) (lowest p n) (lowest A n) (lowest B n) := by
  obtain ⟨⟨s1, s2⟩, s3, s4⟩ := round_spec hn.1 (A, B)
  obtain ⟨g, hg, r1, r2, r3⟩ := lowest_spec (n := p) hn.1
  obtain ⟨e, he, x1, x2, x3⟩ := lowest_spec (n := A) hn.1
  obtain ⟨f, hf, y1, y2, y3⟩ := lowest_spec (n := B) hn.1
  generalize roundS n (A, B) = S at *
  generalize lowest p n = r at *
  generalize lowest A n = x at *
  generalize lowest B n = y at *
  simp only at s1 s2 s3 s4
  have m1 : (S.1 + 1) * n = S.1 * n + n := by rw [Int.add_mul, Int.one_mul]
  have m2 : (S.2 - 1) * n = S.2 * n - n := by rw [Int.sub_mul, Int.one_mul]
  have z : ∀ {k d : Int}, 0 < k → n = d * k → ∀ {s : Int}, -50000000000000000 ≤ s * n ∧ s * n ≤ 50000000000000000 → -50000000000000000 ≤ s * d ∧ s * d ≤ 50000000000000000 := fun {k d} hk hd {s} h => by
    rw [hd, ← Int.mul_assoc] at h
    exact bd_of_mul hk h
  have le1 : ∀ {k d a q s : Int}, 0 < k → n = d * k → a = q * k → s * n ≤ a → s * d ≤ q := fun {k d a q s} hk hd ha h => by
    rw [hd, ha, ← Int.mul_assoc] at h
    exact (mul_mono hk).1 h
  have le2 : ∀ {k d a q s : Int}, 0 < k → n = d * k → a = q * k → a ≤ s * n → q ≤ s * d := fun {k d a q s} hk hd ha h => by
    rw [hd, ha, ← Int.mul_assoc] at h
    exact (mul_mono hk).1 h
  have lt1 : ∀ {k d a q s : Int}, 0 < k → n = d * k → a = q * k → s * n < a → s * d < q := fun {k d a q s} hk hd ha h => by
    rw [hd, ha, ← Int.mul_assoc] at h
    exact (mul_mono' hk).1 h
  have lt2 : ∀ {k d a q s : Int}, 0 < k → n = d * k → a = q * k → a < s * n → q < s * d := fun {k d a q s} hk hd ha h => by
    rw [hd, ha, ← Int.mul_assoc] at h
    exact (mul_mono' hk).1 h
  have b1 := bd_of_mul (a := S.1) (A := 50000000000000000) hn.1 (by omega)
  have b2 := bd_of_mul (a := S.2) (A := 50000000000000000) hn.1 (by omega)
  have z1 := z hg r2 (s := S.1) (by omega)
  have z2 := z hg r2 (s := S.2) (by omega)
  have z3 := z he x2 (s := S.1) (by omega)
  have z4 := z he x2 (s := S.1 + 1) (by omega)
  have z5 := z hf y2 (s := S.2) (by omega)
  have z6 := z hf y2 (s := S.2 - 1) (by omega)
  refine ⟨r3, x3, y3, ⟨by omega, by omega⟩, ⟨by omega, by omega⟩, ⟨by omega, by omega⟩, ⟨by omega, by omega⟩, ⟨le1 hg r2 r1 (by omega), le2 hg r2 r1 (by omega)⟩, fun h => ?_, ⟨le1 he x2 x1 s1, lt2 he x2 x1 s2⟩, ⟨le2 hf y2 y1 s3, lt1 hf y2 y1 s4⟩⟩
  have hef : e = f := by
    have : y.2 * e = y.2 * f := by rw [← y2, ← h, ← x2]
    exact Int.eq_of_mul_eq_mul_left (by omega) this
  have : x.1 * e ≤ y.1 * e := by rw [← x1, hef, ← y1]; omega
  exact (mul_mono he).1 this
end Go.Proofs.R03
end
section
/- BeatCone. -/
namespace Go.Proofs.R03
open Go.Vc Go.RowKit Go.Proofs

def lowT (c : Clk) (b : Bn) : Tr := truthK (endK (pick true) (newK c b))
def highT (c : Clk) (b : Bn) : Tr := truthK (endK (pick false) (newK c b))
theorem ends_l (c : Clk) (b : Bn) {ra : Option Addr} {rc : Nat} {w : World} (hc : Cells w ra (rods c.rods)) : Calls Try.prog 23 #[c.v ra rc, b.v] w fun e w' => ∃ a1 d1 a2 d2, e = .returned (.tuple #[(endsR c b).1.v a1 d1, (endsR c b).2.1.v a2 d2, I (endsR c b).2.2]) ∧ Below w.heap.size w w' ∧ Lies [] w.heap.size w'.heap.size w' a1 (ints (endsR c b).1.grow) ∧ Lies [] w.heap.size w'.heap.size w' a2 (ints (endsR c b).2.1.grow) :=
  (ends_any c b hc).mono fun _ _ ⟨a1, d1, a2, d2, h1, h2, h3, h4⟩ => ⟨a1, d1, a2, d2, h1, h2, Lies.row h3, Lies.row h4⟩
theorem endsR_eq {c : Clk} {b : Bn} (h : openErr c b = 0) : endsR c b = (lowT c b, highT c b, 0) := by unfold endsR; rw [if_pos h]; rfl
theorem rateR_eq {c : Clk} {b : Bn} (h : openErr c b = 0) : rateR c b = (roundS (10000 * lenC c.rods) (rateK (newK c b)), 0) := by unfold rateR; rw [if_pos h]
theorem open_ok {c : Clk} {b : Bn} (hk : check c = 0) (hb : OkB b) : openErr c b = 0 := by unfold openErr; rw [if_pos hk, if_pos hb]
theorem cone_law {c : Clk} {b : Bn} {t : Tr} (hk : check c = 0) (hb : OkB b) (ht : InK t (newK c b)) : ConeOk (roundS (10000 * lenC c.rods) (rateK (newK c b))) (lowest (partsR c t) (10000 * lenC c.rods)) (lowest (partsR c (lowT c b)) (10000 * lenC c.rods)) (lowest (partsR c (highT c b)) (10000 * lenC c.rods)) := by
  have hv := newK_val hk hb
  have hok := newK_ok (open_ok hk hb)
  have hbd := rateK_bd hok
  have hlen := hok.len
  have hm := rate_mem hv ht
  have e1 : partsR c (lowT c b) = (rateK (newK c b)).1 := (ends_spec true hv).2
  have e2 : partsR c (highT c b) = (rateK (newK c b)).2 := (ends_spec false hv).2
  rw [e1, e2]
  simp only [Bd] at hbd
  have hl : 100 ≤ lenC c.rods ∧ lenC c.rods ≤ 100000 := hlen
  have := cone_ok (A := (rateK (newK c b)).1) (B := (rateK (newK c b)).2) (p := partsR c t) (n := 10000 * lenC c.rods) (by omega) ⟨by omega, hm.1⟩ ⟨hm.2, by omega⟩
  exact this
theorem rate_ok {c : Clk} {b : Bn} (h : openErr c b = 0) {ra : Option Addr} {rc : Nat} {w : World} (hc : Cells w ra (rods c.rods)) : Calls Try.prog 22 #[c.v ra rc, b.v] w (Pure w (.tuple #[spv (roundS (10000 * lenC c.rods) (rateK (newK c b))), I 0])) := by
  have := rateOf_any c b (rc := rc) hc
  rw [rateR_eq h] at this; exact this
theorem ends_ok {c : Clk} {b : Bn} (h : openErr c b = 0) {ra : Option Addr} {rc : Nat} {w : World} (hc : Cells w ra (rods c.rods)) : Calls Try.prog 23 #[c.v ra rc, b.v] w fun e w' => ∃ a1 d1 a2 d2, e = .returned (.tuple #[(lowT c b).v a1 d1, (highT c b).v a2 d2, I 0]) ∧ Below w.heap.size w w' ∧ Lies [] w.heap.size w'.heap.size w' a1 (ints (lowT c b).grow) ∧ Lies [] w.heap.size w'.heap.size w' a2 (ints (highT c b).grow) := by
  have := ends_l c b (rc := rc) hc
  rw [endsR_eq h] at this; exact this
theorem exact_ok {c : Clk} {b : Bn} {t : Tr} (hk : check c = 0) (hb : OkB b) (ht : InK t (newK c b)) {ra ta : Option Addr} {rc tc : Nat} {w : World} (hc : Cells w ra (rods c.rods)) (hg : Cells w ta (ints t.grow)) : Calls Try.prog 14 #[c.v ra rc, t.v ta tc] w (Pure w (.tuple #[spv (lowest (partsR c t) (10000 * lenC c.rods)), I 0])) := by
  have := exact_any c t (rc := rc) (tc := tc) hc hg
  rw [exactR_eq hk hb ht] at this; exact this
theorem check_ok {c : Clk} (h : check c = 0) {ra : Option Addr} {rc : Nat} {w : World} (hc : Cells w ra (rods c.rods)) : Calls Try.prog 17 #[c.v ra rc] w (Pure w (I 0)) := by
  have := check_any c (n := rc) hc
  rw [h] at this; exact this

set_option maxRecDepth 100000 in
set_option maxHeartbeats 8000000 in
theorem cone_any {m : Made} {x : Wx} {by_ : List Int} (hm : OkMade m) (hx : OkWx x) (h8 : ∀ y ∈ by_, B8 y) {ra ba : Option Addr} {rc bc : Nat} {w : World} (hc : Cells w ra (mrods m.rods)) (hB : Cells w ba (bytes8 by_)) :
    Calls Try.prog 7 #[m.v ra rc, x.v, .slice ba by_.length bc] w (Pure w (.bool true)) := by
  have hck := clockC_ok hm
  have hbk := boundsW_ok hx
  have hfew := clockC_few m
  have hop := open_ok hck hbk
  have hv := newK_val hck hbk
  have hT := truthOf_in h8 hck hbk
  have inL : InK (lowT (clockC m) (boundsW x)) (newK (clockC m) (boundsW x)) := (ends_spec true hv).1
  have inH : InK (highT (clockC m) (boundsW x)) (newK (clockC m) (boundsW x)) := (ends_spec false hv).1
  have hcone := cone_law hck hbk hT
  have LR : ∀ {a : Option Addr} {n : Nat} {w : World}, Cells w a (rods (clockC m).rods) → Calls Try.prog 22 #[(clockC m).v a n, (boundsW x).v] w (Pure w (.tuple #[spv (roundS (10000 * lenC (clockC m).rods) (rateK (newK (clockC m) (boundsW x)))), I 0])) := fun h => rate_ok hop h
  have L0 : ∀ {a a2 : Option Addr} {n n2 : Nat} {w : World}, Cells w a (rods (clockC m).rods) → Cells w a2 (ints (truthOf (clockC m) (boundsW x) by_).grow) → Calls Try.prog 14 #[(clockC m).v a n, (truthOf (clockC m) (boundsW x) by_).v a2 n2] w (Pure w (.tuple #[spv (lowest (partsR (clockC m) (truthOf (clockC m) (boundsW x) by_)) (10000 * lenC (clockC m).rods)), I 0])) := fun h k => exact_ok hck hbk hT h k
  have L1 : ∀ {a a2 : Option Addr} {n n2 : Nat} {w : World}, Cells w a (rods (clockC m).rods) → Cells w a2 (ints (lowT (clockC m) (boundsW x)).grow) → Calls Try.prog 14 #[(clockC m).v a n, (lowT (clockC m) (boundsW x)).v a2 n2] w (Pure w (.tuple #[spv (lowest (partsR (clockC m) (lowT (clockC m) (boundsW x))) (10000 * lenC (clockC m).rods)), I 0])) := fun h k => exact_ok hck hbk inL h k
  have L2 : ∀ {a a2 : Option Addr} {n n2 : Nat} {w : World}, Cells w a (rods (clockC m).rods) → Cells w a2 (ints (highT (clockC m) (boundsW x)).grow) → Calls Try.prog 14 #[(clockC m).v a n, (highT (clockC m) (boundsW x)).v a2 n2] w (Pure w (.tuple #[spv (lowest (partsR (clockC m) (highT (clockC m) (boundsW x))) (10000 * lenC (clockC m).rods)), I 0])) := fun h k => exact_ok hck hbk inH h k
  generalize roundS (10000 * lenC (clockC m).rods) (rateK (newK (clockC m) (boundsW x))) = S at *
  generalize lowest (partsR (clockC m) (truthOf (clockC m) (boundsW x) by_)) (10000 * lenC (clockC m).rods) = q at *
  generalize lowest (partsR (clockC m) (lowT (clockC m) (boundsW x))) (10000 * lenC (clockC m).rods) = y at *
  generalize lowest (partsR (clockC m) (highT (clockC m) (boundsW x))) (10000 * lenC (clockC m).rods) = u at *
  obtain ⟨S1, S2⟩ := S
  obtain ⟨r1, r2⟩ := q
  obtain ⟨y1, y2⟩ := y
  obtain ⟨u1, u2⟩ := u
  simp only [spv] at LR L0 L1 L2
  obtain ⟨q1, q2, q3, ⟨q4, q5⟩, ⟨q6, q7⟩, ⟨q8, q9⟩, ⟨q10, q11⟩, ⟨q12, q13⟩, q14, ⟨q15, q16⟩, ⟨q17, q18⟩⟩ := hcone
  simp only at q1 q2 q3 q4 q5 q6 q7 q8 q9 q10 q11 q12 q13 q14 q15 q16 q17 q18
  refine vc7 _ _ _ _ _ _ _ _ _ _ _ _ _ _ _ _ _ _ _ _ w _ ?_
  intro m1_1 g_m1_1 m2_1 g_m2_1 w1 hb1 hk1
  have z1 := hk1.size; have o1 := hk1.own
  simp only [List.mem_cons, List.not_mem_nil, or_false, forall_eq_or_imp, forall_eq] at o1
  refine (clock_l m (hc.keep hb1) hm).mono fun e w2 he => ?_
  obtain ⟨a1, n1, rfl, hb2, L⟩ := he
  have z2 := hb2.size
  refine ⟨_, _, _, _, _, _, _, _, _, rfl, hb2, ?_⟩
  intro w3 hb3 hk3
  have z3 := hk3.size; have o3 := hk3.own
  simp only [List.mem_cons, List.not_mem_nil, or_false, forall_eq_or_imp, forall_eq] at o3
  have L_3 := Lies.kio L hk3 (allc (.inl (by omega)) (allc (.inl (by omega)) all0)) ⟨(w1.heap.size, w2.heap.size), by simp, by simp only; omega, by simp only; omega⟩
  refine Pure.calls (boundsW_any hx w3) fun w4 hb4 => ?_
  have z4 := hb4.size
  have L_4 := L_3.below hb4
  refine ⟨_, _, _, _, _, _, _, _, rfl, hb4, ?_⟩
  intro m5 g_m5 d0_m5 d1_m5 m6 g_m6 d0_m6 d1_m6 w5 hb5 hk5
  have z5 := hk5.size; have o5 := hk5.own
  simp only [List.mem_cons, List.not_mem_nil, or_false, forall_eq_or_imp, forall_eq] at o5
  have L_5 := Lies.kio L_4 hk5 (allc d1_m6 (allc d1_m5 (allc (.inl (by omega)) (allc (.inl (by omega)) all0)))) ⟨(0, w4.heap.size), by simp, by simp only; omega, by simp only; omega⟩
  refine (copied_l (clockC m) L_5.cells (by omega)).mono fun e w6 he => ?_
  obtain ⟨c5, n5, rfl, hb6, C5⟩ := he
  have z6 := hb6.size
  have L_6 := L_5.below hb6
  refine ⟨_, _, _, _, _, _, _, _, _, rfl, hb6, ?_⟩
  intro w7 hb7 hk7
  have z7 := hk7.size; have o7 := hk7.own
  simp only [List.mem_cons, List.not_mem_nil, or_false, forall_eq_or_imp, forall_eq] at o7
  have L_7 := Lies.kio L_6 hk7 (allc d1_m6 (allc d1_m5 (allc (.inl (by omega)) (allc (.inl (by omega)) all0)))) ⟨(0, w4.heap.size), by simp, by simp only; omega, by simp only; omega⟩
  have C5_7 := Lies.kio C5 hk7 (allc (.inl (by omega)) (allc (.inl (by omega)) (allc (.inl (by omega)) (allc (.inl (by omega)) all0)))) ⟨(w5.heap.size, w6.heap.size), by simp, by simp only; omega, by simp only; omega⟩
  refine Pure.calls (LR C5_7.cells) fun w8 hb8 => ?_
  have z8 := hb8.size
  have L_8 := L_7.below hb8
  refine ⟨_, _, _, rfl, hb8, ?_⟩
  intro m9 g_m9 d0_m9 d1_m9 w9 hb9 hk9
  have z9 := hk9.size; have o9 := hk9.own
  simp only [List.mem_cons, List.not_mem_nil, or_false, forall_eq_or_imp, forall_eq] at o9
  have L_9 := Lies.kio L_8 hk9 (allc (.inr (by omega)) (allc d1_m6 (allc d1_m5 (allc (.inl (by omega)) (allc (.inl (by omega)) all0))))) ⟨(0, w8.heap.size), by simp, by simp only; omega, by simp only; omega⟩
  refine (copied_l (clockC m) L_9.cells (by omega)).mono fun e w10 he => ?_
  obtain ⟨c9, n9, rfl, hb10, C9⟩ := he
  have z10 := hb10.size
  have L_10 := L_9.below hb10
  refine ⟨_, _, _, _, _, _, _, _, _, rfl, hb10, ?_⟩
  intro w11 hb11 hk11
  have z11 := hk11.size; have o11 := hk11.own
  simp only [List.mem_cons, List.not_mem_nil, or_false, forall_eq_or_imp, forall_eq] at o11
  have L_11 := Lies.kio L_10 hk11 (allc (.inr (by omega)) (allc d1_m6 (allc d1_m5 (allc (.inl (by omega)) (allc (.inl (by omega)) all0))))) ⟨(0, w8.heap.size), by simp, by simp only; omega, by simp only; omega⟩
  have C9_11 := Lies.kio C9 hk11 (allc (.inl (by omega)) (allc (.inl (by omega)) (allc (.inl (by omega)) (allc (.inl (by omega)) (allc (.inl (by omega)) all0))))) ⟨(w9.heap.size, w10.heap.size), by simp, by simp only; omega, by simp only; omega⟩
  refine (ends_ok hop C9_11.cells).mono fun e w12 he => ?_
  obtain ⟨e1, i1, e2, i2, rfl, hb12, E, F⟩ := he
  have z12 := hb12.size
  have L_12 := L_11.below hb12
  refine ⟨_, _, _, _, _, _, _, _, _, _, _, _, _, _, _, _, _, _, _, rfl, hb12, ?_⟩
  intro m16 g_m16 d0_m16 d1_m16 m17 g_m17 d0_m17 d1_m17 w13 hb13 hk13
  have z13 := hk13.size; have o13 := hk13.own
  simp only [List.mem_cons, List.not_mem_nil, or_false, forall_eq_or_imp, forall_eq] at o13
  have L_13 := Lies.kio L_12 hk13 (allc (.inr (by omega)) (allc (.inr (by omega)) (allc (.inr (by omega)) (allc d1_m6 (allc d1_m5 (allc (.inl (by omega)) (allc (.inl (by omega)) all0))))))) ⟨(0, w12.heap.size), by simp, by simp only; omega, by simp only; omega⟩
  have E_13 := Lies.kio E hk13 (allc d0_m17 (allc d0_m16 (allc (.inl (by omega)) (allc (.inl (by omega)) (allc (.inl (by omega)) (allc (.inl (by omega)) (allc (.inl (by omega)) all0))))))) ⟨(0, w12.heap.size), by simp, by simp only; omega, by simp only; omega⟩
  have F_13 := Lies.kio F hk13 (allc d0_m17 (allc d0_m16 (allc (.inl (by omega)) (allc (.inl (by omega)) (allc (.inl (by omega)) (allc (.inl (by omega)) (allc (.inl (by omega)) all0))))))) ⟨(0, w12.heap.size), by simp, by simp only; omega, by simp only; omega⟩
  refine (copied_l (clockC m) L_13.cells (by omega)).mono fun e w14 he => ?_
  obtain ⟨c13, n13, rfl, hb14, C13⟩ := he
  have z14 := hb14.size
  have L_14 := L_13.below hb14
  have E_14 := E_13.below hb14
  have F_14 := F_13.below hb14
  refine ⟨_, _, _, _, _, _, _, _, _, rfl, hb14, ?_⟩
  intro w15 hb15 hk15
  have z15 := hk15.size; have o15 := hk15.own
  simp only [List.mem_cons, List.not_mem_nil, or_false, forall_eq_or_imp, forall_eq] at o15
  have L_15 := Lies.kio L_14 hk15 (allc (.inr (by omega)) (allc (.inr (by omega)) (allc (.inr (by omega)) (allc d1_m6 (allc d1_m5 (allc (.inl (by omega)) (allc (.inl (by omega)) all0))))))) ⟨(0, w12.heap.size), by simp, by simp only; omega, by simp only; omega⟩
  have E_15 := Lies.kio E_14 hk15 (allc d0_m17 (allc d0_m16 (allc (.inl (by omega)) (allc (.inl (by omega)) (allc (.inl (by omega)) (allc (.inl (by omega)) (allc (.inl (by omega)) all0))))))) ⟨(0, w12.heap.size), by simp, by simp only; omega, by simp only; omega⟩
  have F_15 := Lies.kio F_14 hk15 (allc d0_m17 (allc d0_m16 (allc (.inl (by omega)) (allc (.inl (by omega)) (allc (.inl (by omega)) (allc (.inl (by omega)) (allc (.inl (by omega)) all0))))))) ⟨(0, w12.heap.size), by simp, by simp only; omega, by simp only; omega⟩
  have C13_15 := Lies.kio C13 hk15 (allc (.inl (by omega)) (allc (.inl (by omega)) (allc (.inl (by omega)) (allc (.inl (by omega)) (allc (.inl (by omega)) (allc (.inl (by omega)) (allc (.inl (by omega)) all0))))))) ⟨(w13.heap.size, w14.heap.size), by simp, by simp only; omega, by simp only; omega⟩
  refine (truthOf_l (clockC m) (boundsW x) L_15.cells (hB.keep hb15) h8 hck hbk).mono fun e w16 he => ?_
  obtain ⟨ta, tn, rfl, hb16, T⟩ := he
  have z16 := hb16.size
  have L_16 := L_15.below hb16
  have E_16 := E_15.below hb16
  have F_16 := F_15.below hb16
  have C13_16 := C13_15.below hb16
  refine ⟨_, _, _, _, _, _, _, _, _, rfl, hb16, ?_⟩
  intro w17 hb17 hk17
  have z17 := hk17.size; have o17 := hk17.own
  simp only [List.mem_cons, List.not_mem_nil, or_false, forall_eq_or_imp, forall_eq] at o17
  have L_17 := Lies.kio L_16 hk17 (allc (.inr (by omega)) (allc (.inr (by omega)) (allc (.inr (by omega)) (allc d1_m6 (allc d1_m5 (allc (.inl (by omega)) (allc (.inl (by omega)) all0))))))) ⟨(0, w12.heap.size), by simp, by simp only; omega, by simp only; omega⟩
  have E_17 := Lies.kio E_16 hk17 (allc d0_m17 (allc d0_m16 (allc (.inl (by omega)) (allc (.inl (by omega)) (allc (.inl (by omega)) (allc (.inl (by omega)) (allc (.inl (by omega)) all0))))))) ⟨(0, w12.heap.size), by simp, by simp only; omega, by simp only; omega⟩
  have F_17 := Lies.kio F_16 hk17 (allc d0_m17 (allc d0_m16 (allc (.inl (by omega)) (allc (.inl (by omega)) (allc (.inl (by omega)) (allc (.inl (by omega)) (allc (.inl (by omega)) all0))))))) ⟨(0, w12.heap.size), by simp, by simp only; omega, by simp only; omega⟩
  have C13_17 := Lies.kio C13_16 hk17 (allc (.inl (by omega)) (allc (.inl (by omega)) (allc (.inl (by omega)) (allc (.inl (by omega)) (allc (.inl (by omega)) (allc (.inl (by omega)) (allc (.inl (by omega)) all0))))))) ⟨(w13.heap.size, w14.heap.size), by simp, by simp only; omega, by simp only; omega⟩
  have T_17 := Lies.kio T hk17 (allc (.inl (by omega)) (allc (.inl (by omega)) (allc (.inl (by omega)) (allc (.inl (by omega)) (allc (.inl (by omega)) (allc (.inl (by omega)) (allc (.inl (by omega)) all0))))))) ⟨(w15.heap.size, w16.heap.size), by simp, by simp only; omega, by simp only; omega⟩
  refine Pure.calls (L0 C13_17.cells T_17.cells) fun w18 hb18 => ?_
  have z18 := hb18.size
  have L_18 := L_17.below hb18
  have E_18 := E_17.below hb18
  have F_18 := F_17.below hb18
  refine ⟨_, _, _, rfl, hb18, ?_⟩
  intro m22 g_m22 d0_m22 d1_m22 d2_m22 w19 hb19 hk19
  have z19 := hk19.size; have o19 := hk19.own
  simp only [List.mem_cons, List.not_mem_nil, or_false, forall_eq_or_imp, forall_eq] at o19
  have L_19 := Lies.kio L_18 hk19 (allc (.inr (by omega)) (allc (.inr (by omega)) (allc (.inr (by omega)) (allc (.inr (by omega)) (allc d1_m6 (allc d1_m5 (allc (.inl (by omega)) (allc (.inl (by omega)) all0)))))))) ⟨(0, w18.heap.size), by simp, by simp only; omega, by simp only; omega⟩
  have E_19 := Lies.kio E_18 hk19 (allc (.inr (by omega)) (allc d0_m17 (allc d0_m16 (allc (.inl (by omega)) (allc (.inl (by omega)) (allc (.inl (by omega)) (allc (.inl (by omega)) (allc (.inl (by omega)) all0)))))))) ⟨(0, w18.heap.size), by simp, by simp only; omega, by simp only; omega⟩
  have F_19 := Lies.kio F_18 hk19 (allc (.inr (by omega)) (allc d0_m17 (allc d0_m16 (allc (.inl (by omega)) (allc (.inl (by omega)) (allc (.inl (by omega)) (allc (.inl (by omega)) (allc (.inl (by omega)) all0)))))))) ⟨(0, w18.heap.size), by simp, by simp only; omega, by simp only; omega⟩
  refine (copied_l (clockC m) L_19.cells (by omega)).mono fun e w20 he => ?_
  obtain ⟨c19, n19, rfl, hb20, C19⟩ := he
  have z20 := hb20.size
  have L_20 := L_19.below hb20
  have E_20 := E_19.below hb20
  have F_20 := F_19.below hb20
  refine ⟨_, _, _, _, _, _, _, _, _, rfl, hb20, ?_⟩
  intro w21 hb21 hk21
  have z21 := hk21.size; have o21 := hk21.own
  simp only [List.mem_cons, List.not_mem_nil, or_false, forall_eq_or_imp, forall_eq] at o21
  have L_21 := Lies.kio L_20 hk21 (allc (.inr (by omega)) (allc (.inr (by omega)) (allc (.inr (by omega)) (allc (.inr (by omega)) (allc d1_m6 (allc d1_m5 (allc (.inl (by omega)) (allc (.inl (by omega)) all0)))))))) ⟨(0, w18.heap.size), by simp, by simp only; omega, by simp only; omega⟩
  have E_21 := Lies.kio E_20 hk21 (allc (.inr (by omega)) (allc d0_m17 (allc d0_m16 (allc (.inl (by omega)) (allc (.inl (by omega)) (allc (.inl (by omega)) (allc (.inl (by omega)) (allc (.inl (by omega)) all0)))))))) ⟨(0, w18.heap.size), by simp, by simp only; omega, by simp only; omega⟩
  have F_21 := Lies.kio F_20 hk21 (allc (.inr (by omega)) (allc d0_m17 (allc d0_m16 (allc (.inl (by omega)) (allc (.inl (by omega)) (allc (.inl (by omega)) (allc (.inl (by omega)) (allc (.inl (by omega)) all0)))))))) ⟨(0, w18.heap.size), by simp, by simp only; omega, by simp only; omega⟩
  have C19_21 := Lies.kio C19 hk21 (allc (.inl (by omega)) (allc (.inl (by omega)) (allc (.inl (by omega)) (allc (.inl (by omega)) (allc (.inl (by omega)) (allc (.inl (by omega)) (allc (.inl (by omega)) (allc (.inl (by omega)) all0)))))))) ⟨(w19.heap.size, w20.heap.size), by simp, by simp only; omega, by simp only; omega⟩
  refine Pure.calls (L1 C19_21.cells E_21.cells) fun w22 hb22 => ?_
  have z22 := hb22.size
  have L_22 := L_21.below hb22
  have E_22 := E_21.below hb22
  have F_22 := F_21.below hb22
  refine ⟨_, _, _, rfl, hb22, ?_⟩
  intro m25 g_m25 d0_m25 d1_m25 w23 hb23 hk23
  have z23 := hk23.size; have o23 := hk23.own
  simp only [List.mem_cons, List.not_mem_nil, or_false, forall_eq_or_imp, forall_eq] at o23
  have L_23 := Lies.kio L_22 hk23 (allc (.inr (by omega)) (allc (.inr (by omega)) (allc (.inr (by omega)) (allc (.inr (by omega)) (allc (.inr (by omega)) (allc d1_m6 (allc d1_m5 (allc (.inl (by omega)) (allc (.inl (by omega)) all0))))))))) ⟨(0, w22.heap.size), by simp, by simp only; omega, by simp only; omega⟩
  have E_23 := Lies.kio E_22 hk23 (allc (.inr (by omega)) (allc (.inr (by omega)) (allc d0_m17 (allc d0_m16 (allc (.inl (by omega)) (allc (.inl (by omega)) (allc (.inl (by omega)) (allc (.inl (by omega)) (allc (.inl (by omega)) all0))))))))) ⟨(0, w22.heap.size), by simp, by simp only; omega, by simp only; omega⟩
  have F_23 := Lies.kio F_22 hk23 (allc (.inr (by omega)) (allc (.inr (by omega)) (allc d0_m17 (allc d0_m16 (allc (.inl (by omega)) (allc (.inl (by omega)) (allc (.inl (by omega)) (allc (.inl (by omega)) (allc (.inl (by omega)) all0))))))))) ⟨(0, w22.heap.size), by simp, by simp only; omega, by simp only; omega⟩
  refine (copied_l (clockC m) L_23.cells (by omega)).mono fun e w24 he => ?_
  obtain ⟨c23, n23, rfl, hb24, C23⟩ := he
  have z24 := hb24.size
  have L_24 := L_23.below hb24
  have E_24 := E_23.below hb24
  have F_24 := F_23.below hb24
  refine ⟨_, _, _, _, _, _, _, _, _, rfl, hb24, ?_⟩
  intro w25 hb25 hk25
  have z25 := hk25.size; have o25 := hk25.own
  simp only [List.mem_cons, List.not_mem_nil, or_false, forall_eq_or_imp, forall_eq] at o25
  have L_25 := Lies.kio L_24 hk25 (allc (.inr (by omega)) (allc (.inr (by omega)) (allc (.inr (by omega)) (allc (.inr (by omega)) (allc (.inr (by omega)) (allc d1_m6 (allc d1_m5 (allc (.inl (by omega)) (allc (.inl (by omega)) all0))))))))) ⟨(0, w22.heap.size), by simp, by simp only; omega, by simp only; omega⟩
  have E_25 := Lies.kio E_24 hk25 (allc (.inr (by omega)) (allc (.inr (by omega)) (allc d0_m17 (allc d0_m16 (allc (.inl (by omega)) (allc (.inl (by omega)) (allc (.inl (by omega)) (allc (.inl (by omega)) (allc (.inl (by omega)) all0))))))))) ⟨(0, w22.heap.size), by simp, by simp only; omega, by simp only; omega⟩
  have F_25 := Lies.kio F_24 hk25 (allc (.inr (by omega)) (allc (.inr (by omega)) (allc d0_m17 (allc d0_m16 (allc (.inl (by omega)) (allc (.inl (by omega)) (allc (.inl (by omega)) (allc (.inl (by omega)) (allc (.inl (by omega)) all0))))))))) ⟨(0, w22.heap.size), by simp, by simp only; omega, by simp only; omega⟩
  have C23_25 := Lies.kio C23 hk25 (allc (.inl (by omega)) (allc (.inl (by omega)) (allc (.inl (by omega)) (allc (.inl (by omega)) (allc (.inl (by omega)) (allc (.inl (by omega)) (allc (.inl (by omega)) (allc (.inl (by omega)) (allc (.inl (by omega)) all0))))))))) ⟨(w23.heap.size, w24.heap.size), by simp, by simp only; omega, by simp only; omega⟩
  refine Pure.calls (L2 C23_25.cells F_25.cells) fun w26 hb26 => ?_
  have z26 := hb26.size
  have L_26 := L_25.below hb26
  have E_26 := E_25.below hb26
  have F_26 := F_25.below hb26
  refine ⟨_, _, _, rfl, hb26, ?_⟩
  intro m28 g_m28 d0_m28 d1_m28 w27 hb27 hk27
  have z27 := hk27.size; have o27 := hk27.own
  simp only [List.mem_cons, List.not_mem_nil, or_false, forall_eq_or_imp, forall_eq] at o27
  have L_27 := Lies.ko L_26 hk27 (allc (.inr (by omega)) (allc (.inr (by omega)) (allc (.inr (by omega)) (allc (.inr (by omega)) (allc (.inr (by omega)) (allc (.inr (by omega)) (allc d1_m6 (allc d1_m5 (allc (.inl (by omega)) (allc (.inl (by omega)) all0))))))))))
  have E_27 := Lies.ko E_26 hk27 (allc (.inr (by omega)) (allc (.inr (by omega)) (allc (.inr (by omega)) (allc d0_m17 (allc d0_m16 (allc (.inl (by omega)) (allc (.inl (by omega)) (allc (.inl (by omega)) (allc (.inl (by omega)) (allc (.inl (by omega)) all0))))))))))
  have F_27 := Lies.ko F_26 hk27 (allc (.inr (by omega)) (allc (.inr (by omega)) (allc (.inr (by omega)) (allc d0_m17 (allc d0_m16 (allc (.inl (by omega)) (allc (.inl (by omega)) (allc (.inl (by omega)) (allc (.inl (by omega)) (allc (.inl (by omega)) all0))))))))))
  refine (copied_l (clockC m) L_27.cells (by omega)).mono fun e w28 he => ?_
  obtain ⟨c27, n27, rfl, hb28, C27⟩ := he
  have z28 := hb28.size
  have L_28 := L_27.below hb28
  have E_28 := E_27.below hb28
  have F_28 := F_27.below hb28
  refine ⟨_, _, _, _, _, _, _, _, _, rfl, .all hb28, ?_⟩
  intro w29 hb29 hk29
  have z29 := hk29.size; have o29 := hk29.own
  simp only [List.mem_cons, List.not_mem_nil, or_false, forall_eq_or_imp, forall_eq] at o29
  have L_29 := Lies.ko L_28 hk29 (allc (.inr (by omega)) (allc (.inr (by omega)) (allc (.inr (by omega)) (allc (.inr (by omega)) (allc (.inr (by omega)) (allc (.inr (by omega)) (allc d1_m6 (allc d1_m5 (allc (.inl (by omega)) (allc (.inl (by omega)) all0))))))))))
  have E_29 := Lies.ko E_28 hk29 (allc (.inr (by omega)) (allc (.inr (by omega)) (allc (.inr (by omega)) (allc d0_m17 (allc d0_m16 (allc (.inl (by omega)) (allc (.inl (by omega)) (allc (.inl (by omega)) (allc (.inl (by omega)) (allc (.inl (by omega)) all0))))))))))
  have F_29 := Lies.ko F_28 hk29 (allc (.inr (by omega)) (allc (.inr (by omega)) (allc (.inr (by omega)) (allc d0_m17 (allc d0_m16 (allc (.inl (by omega)) (allc (.inl (by omega)) (allc (.inl (by omega)) (allc (.inl (by omega)) (allc (.inl (by omega)) all0))))))))))
  have C27_29 := Lies.ko C27 hk29 (allc (.inl (by omega)) (allc (.inl (by omega)) (allc (.inl (by omega)) (allc (.inl (by omega)) (allc (.inl (by omega)) (allc (.inl (by omega)) (allc (.inl (by omega)) (allc (.inl (by omega)) (allc (.inl (by omega)) (allc (.inl (by omega)) all0))))))))))
  refine Pure.calls (check_ok hck C27_29.cells) fun w30 hb30 => ?_
  have z30 := hb30.size
  have L_30 := L_29.below hb30
  have E_30 := E_29.below hb30
  have F_30 := F_29.below hb30
  refine ⟨_, rfl, .all hb30, (fun h => absurd h (by first | omega | decide)), ?_⟩
  intro k173
  refine ⟨(fun h => absurd h (by first | omega | decide)), ?_⟩
  intro k175
  refine ⟨(fun h => absurd h (by first | omega | decide)), ?_⟩
  intro k177
  refine ⟨(fun h => absurd h (by first | omega | decide)), ?_⟩
  intro k179
  refine ⟨(fun h => absurd h (by first | omega | decide)), ?_⟩
  intro k181
  refine ⟨(fun h => absurd h (by first | omega | decide)), ?_⟩
  intro k183 w37 hb37 hk37
  have z37 := hk37.size; have o37 := hk37.own
  simp only [List.mem_cons, List.not_mem_nil, or_false, forall_eq_or_imp, forall_eq] at o37
  have L_37 := Lies.ko L_30 hk37 (allc (.inr (by omega)) (allc (.inr (by omega)) (allc (.inr (by omega)) (allc (.inr (by omega)) (allc (.inr (by omega)) (allc (.inr (by omega)) (allc d1_m6 (allc d1_m5 (allc (.inl (by omega)) (allc (.inl (by omega)) all0))))))))))
  have E_37 := Lies.ko E_30 hk37 (allc (.inr (by omega)) (allc (.inr (by omega)) (allc (.inr (by omega)) (allc d0_m17 (allc d0_m16 (allc (.inl (by omega)) (allc (.inl (by omega)) (allc (.inl (by omega)) (allc (.inl (by omega)) (allc (.inl (by omega)) all0))))))))))
  have F_37 := Lies.ko F_30 hk37 (allc (.inr (by omega)) (allc (.inr (by omega)) (allc (.inr (by omega)) (allc d0_m17 (allc d0_m16 (allc (.inl (by omega)) (allc (.inl (by omega)) (allc (.inl (by omega)) (allc (.inl (by omega)) (allc (.inl (by omega)) all0))))))))))
  refine Pure.calls (inTruth_any inL L_37.cells E_37.cells (by omega)) fun w38 hb38 => ?_
  have z38 := hb38.size
  have L_38 := L_37.below hb38
  have F_38 := F_37.below hb38
  refine ⟨_, rfl, .all hb38, (fun h => absurd h (by first | omega | decide)), ?_⟩
  intro k194 w40 hb40 hk40
  have z40 := hk40.size; have o40 := hk40.own
  simp only [List.mem_cons, List.not_mem_nil, or_false, forall_eq_or_imp, forall_eq] at o40
  have L_40 := Lies.ko L_38 hk40 (allc (.inr (by omega)) (allc (.inr (by omega)) (allc (.inr (by omega)) (allc (.inr (by omega)) (allc (.inr (by omega)) (allc (.inr (by omega)) (allc d1_m6 (allc d1_m5 (allc (.inl (by omega)) (allc (.inl (by omega)) all0))))))))))
  have F_40 := Lies.ko F_38 hk40 (allc (.inr (by omega)) (allc (.inr (by omega)) (allc (.inr (by omega)) (allc d0_m17 (allc d0_m16 (allc (.inl (by omega)) (allc (.inl (by omega)) (allc (.inl (by omega)) (allc (.inl (by omega)) (allc (.inl (by omega)) all0))))))))))
  refine Pure.calls (inTruth_any inH L_40.cells F_40.cells (by omega)) fun w41 hb41 => ?_
  have z41 := hb41.size
  refine ⟨_, rfl, .all hb41, (fun h => absurd h (by first | omega | decide)), ?_⟩
  intro k202
  refine ⟨(fun h => absurd h (by first | omega | decide)), ?_⟩
  intro k204
  refine ⟨(fun h => absurd h (by first | omega | decide)), ?_⟩
  intro k206
  refine ⟨(fun h => absurd h (by first | omega | decide)), ?_⟩
  intro k208
  refine ⟨(by omega), (fun h => absurd h (by first | omega | decide)), ?_⟩
  intro k210
  refine ⟨(by omega), (fun h => absurd h (by first | omega | decide)), ?_⟩
  intro k212
  refine ⟨?_, ?_⟩
  · intro k214
    refine ⟨(fun h => absurd h (by exact fun e => by have := q14 e; clear q14; omega)), ?_⟩
    intro k216
    refine ⟨(by omega), ?_, (fun h => absurd h (by first | omega | decide))⟩
    intro k218
    refine ⟨(by omega), (by omega), ?_, (fun h => absurd h (by first | omega | decide))⟩
    intro k220
    refine ⟨(by omega), ?_, (fun h => absurd h (by first | omega | decide))⟩
    intro k222
    refine ⟨(by omega), (by omega), ?_, (fun h => absurd h (by first | omega | decide))⟩
    intro k224 w49 hb49 hk49
    have z49 := hk49.size; have o49 := hk49.own
    simp only [List.mem_cons, List.not_mem_nil, or_false, forall_eq_or_imp, forall_eq] at o49
    refine Pure.calls (known_any w49) fun w50 hb50 => ?_
    have z50 := hb50.size
    refine ⟨_, rfl, .all hb50, ?_⟩
    intro w51 hb51 hk51
    have z51 := hk51.size; have o51 := hk51.own
    simp only [List.mem_cons, List.not_mem_nil, or_false, forall_eq_or_imp, forall_eq] at o51
    exact ⟨rfl, hb51⟩
  · intro k234
    refine ⟨(by omega), ?_, (fun h => absurd h (by first | omega | decide))⟩
    intro k236
    refine ⟨(by omega), (by omega), ?_, (fun h => absurd h (by first | omega | decide))⟩
    intro k238
    refine ⟨(by omega), ?_, (fun h => absurd h (by first | omega | decide))⟩
    intro k240
    refine ⟨(by omega), (by omega), ?_, (fun h => absurd h (by first | omega | decide))⟩
    intro k242 w56 hb56 hk56
    have z56 := hk56.size; have o56 := hk56.own
    simp only [List.mem_cons, List.not_mem_nil, or_false, forall_eq_or_imp, forall_eq] at o56
    refine Pure.calls (known_any w56) fun w57 hb57 => ?_
    have z57 := hb57.size
    refine ⟨_, rfl, .all hb57, ?_⟩
    intro w58 hb58 hk58
    have z58 := hk58.size; have o58 := hk58.own
    simp only [List.mem_cons, List.not_mem_nil, or_false, forall_eq_or_imp, forall_eq] at o58
    exact ⟨rfl, hb58⟩
end Go.Proofs.R03
end
