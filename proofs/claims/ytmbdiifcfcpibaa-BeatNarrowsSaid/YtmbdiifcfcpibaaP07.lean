/- Part 7: own lemmas, and the conditions of the functions. -/
import Derived.Test.YtmbdiifcfcpibaaProg
import Derived.Test.YtmbdiifcfcpibaaP06
section
/- BeatCone. -/
namespace Go.Proofs.R03
open Go.Vc Go.RowKit Go.Proofs

theorem copied_l (c : Clk) {a : Option Addr} {n : Nat} {w : World} (hc : Cells w a (rods c.rods)) (hn : c.rods.length ≤ 100000) : Calls Try.prog 13 #[c.v a n] w fun e w' => ∃ a' n', e = .returned (c.v a' n') ∧ Below w.heap.size w w' ∧ Lies [] w.heap.size w'.heap.size w' a' (rods c.rods) :=
  (copied_any c hc hn).mono fun _ _ ⟨a', n', h1, h2, h3⟩ => ⟨a', n', h1, h2, Lies.row h3⟩
theorem clock_l (m : Made) {ra : Option Addr} {rc : Nat} {w : World} (hc : Cells w ra (mrods m.rods)) (hm : OkMade m) : Calls Try.prog 33 #[m.v ra rc] w fun e w' => ∃ a' n', e = .returned ((clockC m).v a' n') ∧ Below w.heap.size w w' ∧ Lies [] w.heap.size w'.heap.size w' a' (rods (clockC m).rods) :=
  (clock_any m hc hm).mono fun _ _ ⟨a', n', h1, h2, h3⟩ => ⟨a', n', h1, h2, Lies.row h3⟩
def TrL (t : Tr) (w : World) (e : Ending) (w' : World) : Prop := ∃ a n, e = .returned (t.v a n) ∧ Below w.heap.size w w' ∧ Lies [] w.heap.size w'.heap.size w' a (ints t.grow)
theorem truthOf_l (c : Clk) (b : Bn) {by_ : List Int} {ra ba : Option Addr} {rc bc : Nat} {w : World} (hc : Cells w ra (rods c.rods)) (hB : Cells w ba (bytes8 by_)) (h8 : ∀ x ∈ by_, B8 x) (hk : check c = 0) (hb : OkB b) :
    Calls Try.prog 35 #[c.v ra rc, b.v, .slice ba by_.length bc] w (TrL (truthOf c b by_) w) :=
  (truthOf_any c b hc hB h8 hk hb).mono fun _ _ ⟨a', n', h1, h2, h3⟩ => ⟨a', n', h1, h2, Lies.row h3⟩

theorem clockL_rods {l : List MRod} (hl : ∀ r ∈ l, okM r) : (∀ r ∈ (clockL l).2, (1 ≤ r.len ∧ r.len ≤ 9000) ∧ 0 ≤ r.lo ∧ r.lo ≤ r.hi ∧ r.hi ≤ 5865) ∧ 9000 ≤ lenC (clockL l).2 + (8000 - (clockL l).1) ∧ lenC (clockL l).2 ≤ 9000 + 4000 * (l.length : Int) := by
  have app : ∀ (a b : List Rod), lenC (a ++ b) = lenC a + lenC b := fun a b => by simp [lenC]
  have h : ∀ (l : List MRod) (st : Int × List Rod) (k : Int), (∀ r ∈ l, okM r) → (∀ r ∈ st.2, (1 ≤ r.len ∧ r.len ≤ 9000) ∧ 0 ≤ r.lo ∧ r.lo ≤ r.hi ∧ r.hi ≤ 5865) → 9000 ≤ lenC st.2 + (8000 - st.1) → lenC st.2 ≤ k →
      (∀ r ∈ (l.foldl stepM st).2, (1 ≤ r.len ∧ r.len ≤ 9000) ∧ 0 ≤ r.lo ∧ r.lo ≤ r.hi ∧ r.hi ≤ 5865) ∧ 9000 ≤ lenC (l.foldl stepM st).2 + (8000 - (l.foldl stepM st).1) ∧ lenC (l.foldl stepM st).2 ≤ k + 4000 * (l.length : Int) := fun l => by
    induction l with
    | nil => intro st k _ h1 h2 h3; exact ⟨h1, h2, by simpa using h3⟩
    | cons x l ih =>
      intro st k hx h1 h2 h3
      rw [List.foldl_cons]
      obtain ⟨x1, x2, x3⟩ := hx x List.mem_cons_self
      have hm := tmod_rng x1.1 (b := 4000) (by decide)
      have e : lenC (stepM st x).2 = lenC st.2 + (if (x.up && decide (1 + x.len.tmod 4000 ≤ st.1)) = true then -1 else 1) * (1 + x.len.tmod 4000) := by
        show lenC (st.2 ++ _) = _
        rw [app]
        simp [lenC, sgn]
      have e1 : (stepM st x).1 = if (x.up && decide (1 + x.len.tmod 4000 ≤ st.1)) = true then st.1 - (1 + x.len.tmod 4000) else st.1 := rfl
      have := ih (stepM st x) (k + 4000) (fun r hr => hx r (List.mem_cons_of_mem _ hr)) (fun r hr => ?_) ?_ ?_
      · refine ⟨this.1, this.2.1, ?_⟩
        have := this.2.2
        simp only [List.length_cons]; omega
      · rcases List.mem_append.1 hr with hr | hr
        · exact h1 r hr
        · rw [List.mem_singleton.1 hr]
          simp only; omega
      · rw [e, e1]
        split <;> omega
      · rw [e]
        split <;> omega
  have := h l (8000, [⟨9000, 1100, 1150, false⟩]) 9000 hl (by intro r hr; rw [List.mem_singleton.1 hr]; decide) (by decide) (by decide)
  exact this
theorem clockC_ok {m : Made} (hm : OkMade m) : check (clockC m) = 0 := by
  obtain ⟨h1, h2, h3⟩ := clockL_rods (l := m.rods.take 3) fun r hr => hm.rods r (List.mem_of_mem_take hr)
  have h4 := clockL_left (l := m.rods.take 3) fun r hr => hm.rods r (List.mem_of_mem_take hr)
  have h5 := clockL_len (m.rods.take 3)
  have q1 := tmod_rng hm.kind.1 (b := 3) (by decide)
  have q2 := tmod_rng hm.b0.1 (b := 100) (by decide)
  have q3 := tmod_rng hm.b1.1 (b := 50) (by decide)
  have r0 := hm.base; have r3 := hm.b2; have r4 := hm.b3
  have hl : (m.rods.take 3).length ≤ 3 := List.length_take_le _ _
  have hlen : (clockC m).rods.length = (clockL (m.rods.take 3)).2.length := rfl
  unfold check
  rw [if_neg (by rw [hlen]; omega), if_pos]
  refine ⟨fun h => ?_, fun r hr => ?_, ?_, ?_, ?_, ?_⟩
  · have := congrArg List.length h
    rw [hlen, h5] at this
    simp at this
  · have := h1 r hr
    show (1 ≤ r.len ∧ r.len ≤ 100000) ∧ 0 ≤ r.lo ∧ r.lo ≤ r.hi ∧ r.hi ≤ 40000; omega
  · show 100 ≤ lenC (clockL (m.rods.take 3)).2 ∧ lenC (clockL (m.rods.take 3)).2 ≤ 100000
    omega
  · show -1000000 ≤ m.base ∧ m.base ≤ 1000000
    omega
  · simp only [okS, clockC]; omega
  · unfold driveOk
    simp only [okS, clockC]
    by_cases k3 : 1 + m.kind.tmod 3 = 3
    · rw [if_pos k3]; simp only; omega
    · rw [if_neg k3]
      by_cases k1 : 1 + m.kind.tmod 3 = 1
      · rw [if_pos k1]; simp only; omega
      · rw [if_neg k1]; simp only; omega
theorem clockC_few (m : Made) : (clockC m).rods.length ≤ 4 := by
  show (clockL (m.rods.take 3)).2.length ≤ 4
  rw [clockL_len, List.length_take]; omega

theorem truthOf_in {c : Clk} {b : Bn} {by_ : List Int} (h8 : ∀ x ∈ by_, B8 x) (hk : check c = 0) (hb : OkB b) : InK (truthOf c b by_) (newK c b) := by
  obtain ⟨hl8, hrn, hrod, hlen, hbase, hair, hdr⟩ := check_len hk
  obtain ⟨b1, b2, b3, b4⟩ := hb
  have hdr' : c.drive.1 ≤ c.drive.2 := by unfold driveOk at hdr; simp only [okS] at hdr; omega
  have at_ := fun (i : Int) => byteAt_ok h8 i
  refine ⟨by simp [truthOf, newK], fun i x s hx hs => ?_, insideS_in hair.2.1 (at_ 0), insideS_in hdr' (at_ 1), insideS_in b1.2.1 (at_ 2), insideS_in b2.2.1 (at_ 3), insideS_in b3.2.1 (at_ 4), insideS_in b4.2.1 (at_ 5)⟩
  have hi : i < c.rods.length := by have := (List.getElem?_eq_some_iff.1 hx).1; simpa [truthOf] using this
  simp only [newK, List.getElem?_map, getElem_of_lt hi, Option.map_some, Option.some.injEq] at hs
  simp only [truthOf, List.getElem?_map, List.getElem?_range hi, Option.map_some, Option.some.injEq, List.getD, getElem_of_lt hi, Option.getD_some] at hx
  rw [← hx, ← hs]
  exact insideS_in (s := (_, _)) (hrod _ (List.getElem_mem hi)).2.2.1 (at_ _)

theorem bd_of_mul {a g A : Int} (hg : 0 < g) (h : -A ≤ a * g ∧ a * g ≤ A) : -A ≤ a ∧ a ≤ A := by
  rcases Int.le_total 0 a with ha | ha
  · have := Int.mul_le_mul_of_nonneg_left (show (1 : Int) ≤ g by omega) ha
    have := Int.mul_nonneg ha (show 0 ≤ g by omega)
    omega
  · have := Int.mul_le_mul_of_nonpos_left ha (show (1 : Int) ≤ g by omega)
    have : a * g ≤ 0 := Int.mul_nonpos_of_nonpos_of_nonneg ha (by omega)
    omega
abbrev Z64 (x : Int) : Prop := -1000000000000000000 ≤ x ∧ x ≤ 1000000000000000000
structure ConeOk (S r x y : Sp) : Prop where
  r2 : 1 ≤ r.2
  x2 : 1 ≤ x.2
  y2 : 1 ≤ y.2
  bS : Z64 S.1 ∧ Z64 S.2
  br : Z64 (S.1 * r.2) ∧ Z64 (S.2 * r.2)
  bx : Z64 (S.1 * x.2) ∧ Z64 ((S.1 + 1) * x.2)
  b_y : Z64 (S.2 * y.2) ∧ Z64 ((S.2 - 1) * y.2)
  r_in : S.1 * r.2 ≤ r.1 ∧ r.1 ≤ S.2 * r.2
  xy : x.2 = y.2 → x.1 ≤ y.1
  x_in : S.1 * x.2 ≤ x.1 ∧ x.1 < (S.1 + 1) * x.2
  y_in : y.1 ≤ S.2 * y.2 ∧ (S.2 - 1) * y.2 < y.1
theorem cone_ok {A B p n : Int} (hn : 0 < n ∧ n ≤ 1000000000) (hA : -30000000000000000 ≤ A ∧ A ≤ p) (hB : p ≤ B ∧ B ≤ 30000000000000000) : ConeOk (roundS n (A, B)) (lowest p n) (lowest A n) (lowest B n) := by
  obtain ⟨⟨s1, s2⟩, s3, s4⟩ := round_spec hn.1 (A, B)
  obtain ⟨g, hg, r1, r2, r3⟩ := lowest_spec (n := p) hn.1
  obtain ⟨e, he, x1, x2, x3⟩ := lowest_spec (n := A) hn.1
  obtain ⟨f, hf, y1, y2, y3⟩ := lowest_spec (n := B) hn.1
  generalize roundS n (A, B) = S at *
  generalize lowest p n = r at *
  generalize lowest A n = x at *
  generalize lowest B n = y at *
  simp only at s1 s2 s3 s4
  have m1 : (S.1 + 1) * n = S.1 * n + n := by rw [Int.add_mul, Int.one_mul]
  have m2 : (S.2 - 1) * n = S.2 * n - n := by rw [Int.sub_mul, Int.one_mul]
  have z : ∀ {k d : Int}, 0 < k → n = d * k → ∀ {s : Int}, -50000000000000000 ≤ s * n ∧ s * n ≤ 50000000000000000 → -50000000000000000 ≤ s * d ∧ s * d ≤ 50000000000000000 := fun {k d} hk hd {s} h => by
    rw [hd, ← Int.mul_assoc] at h
    exact bd_of_mul hk h
  have le1 : ∀ {k d a q s : Int}, 0 < k → n = d * k → a = q * k → s * n ≤ a → s * d ≤ q := fun {k d a q s} hk hd ha h => by
    rw [hd, ha, ← Int.mul_assoc] at h
    exact (mul_mono hk).1 h
  have le2 : ∀ {k d a q s : Int}, 0 < k → n = d * k → a = q * k → a ≤ s * n → q ≤ s * d := fun {k d a q s} hk hd ha h => by
    rw [hd, ha, ← Int.mul_assoc] at h
    exact (mul_mono hk).1 h
  have lt1 : ∀ {k d a q s : Int}, 0 < k → n = d * k → a = q * k → s * n < a → s * d < q := fun {k d a q s} hk hd ha h => by
    rw [hd, ha, ← Int.mul_assoc] at h
    exact (mul_mono' hk).1 h
  have lt2 : ∀ {k d a q s : Int}, 0 < k → n = d * k → a = q * k → a < s * n → q < s * d := fun {k d a q s} hk hd ha h => by
    rw [hd, ha, ← Int.mul_assoc] at h
    exact (mul_mono' hk).1 h
  have b1 := bd_of_mul (a := S.1) (A := 50000000000000000) hn.1 (by omega)
  have b2 := bd_of_mul (a := S.2) (A := 50000000000000000) hn.1 (by omega)
  have z1 := z hg r2 (s := S.1) (by omega)
  have z2 := z hg r2 (s := S.2) (by omega)
  have z3 := z he x2 (s := S.1) (by omega)
  have z4 := z he x2 (s := S.1 + 1) (by omega)
  have z5 := z hf y2 (s := S.2) (by omega)
  have z6 := z hf y2 (s := S.2 - 1) (by omega)
  refine ⟨r3, x3, y3, ⟨by omega, by omega⟩, ⟨by omega, by omega⟩, ⟨by omega, by omega⟩, ⟨by omega, by omega⟩, ⟨le1 hg r2 r1 (by omega), le2 hg r2 r1 (by omega)⟩, fun h => ?_, ⟨le1 he x2 x1 s1, lt2 he x2 x1 s2⟩, ⟨le2 hf y2 y1 s3, lt1 hf y2 y1 s4⟩⟩
  have hef : e = f := by
    have : y.2 * e = y.2 * f := by rw [← y2, ← h, ← x2]
    exact Int.eq_of_mul_eq_mul_left (by omega) this
  have : x.1 * e ≤ y.1 * e := by rw [← x1, hef, ← y1]; omega
  exact (mul_mono he).1 this
end Go.Proofs.R03
end
section
/- BeatCone. -/
namespace Go.Proofs.R03
open Go.Vc Go.RowKit Go.Proofs

def lowT (c : Clk) (b : Bn) : Tr := truthK (endK (pick true) (newK c b))
def highT (c : Clk) (b : Bn) : Tr := truthK (endK (pick false) (newK c b))
theorem ends_l (c : Clk) (b : Bn) {ra : Option Addr} {rc : Nat} {w : World} (hc : Cells w ra (rods c.rods)) : Calls Try.prog 23 #[c.v ra rc, b.v] w fun e w' => ∃ a1 d1 a2 d2, e = .returned (.tuple #[(endsR c b).1.v a1 d1, (endsR c b).2.1.v a2 d2, I (endsR c b).2.2]) ∧ Below w.heap.size w w' ∧ Lies [] w.heap.size w'.heap.size w' a1 (ints (endsR c b).1.grow) ∧ Lies [] w.heap.size w'.heap.size w' a2 (ints (endsR c b).2.1.grow) :=
  (ends_any c b hc).mono fun _ _ ⟨a1, d1, a2, d2, h1, h2, h3, h4⟩ => ⟨a1, d1, a2, d2, h1, h2, Lies.row h3, Lies.row h4⟩
theorem endsR_eq {c : Clk} {b : Bn} (h : openErr c b = 0) : endsR c b = (lowT c b, highT c b, 0) := by unfold endsR; rw [if_pos h]; rfl
theorem rateR_eq {c : Clk} {b : Bn} (h : openErr c b = 0) : rateR c b = (roundS (10000 * lenC c.rods) (rateK (newK c b)), 0) := by unfold rateR; rw [if_pos h]
theorem open_ok {c : Clk} {b : Bn} (hk : check c = 0) (hb : OkB b) : openErr c b = 0 := by unfold openErr; rw [if_pos hk, if_pos hb]
theorem cone_law {c : Clk} {b : Bn} {t : Tr} (hk : check c = 0) (hb : OkB b) (ht : InK t (newK c b)) : ConeOk (roundS (10000 * lenC c.rods) (rateK (newK c b))) (lowest (partsR c t) (10000 * lenC c.rods)) (lowest (partsR c (lowT c b)) (10000 * lenC c.rods)) (lowest (partsR c (highT c b)) (10000 * lenC c.rods)) := by
  have hv := newK_val hk hb
  have hok := newK_ok (open_ok hk hb)
  have hbd := rateK_bd hok
  have hlen := hok.len
  have hm := rate_mem hv ht
  have e1 : partsR c (lowT c b) = (rateK (newK c b)).1 := (ends_spec true hv).2
  have e2 : partsR c (highT c b) = (rateK (newK c b)).2 := (ends_spec false hv).2
  rw [e1, e2]
  simp only [Bd] at hbd
  have hl : 100 ≤ lenC c.rods ∧ lenC c.rods ≤ 100000 := hlen
  have := cone_ok (A := (rateK (newK c b)).1) (B := (rateK (newK c b)).2) (p := partsR c t) (n := 10000 * lenC c.rods) (by omega) ⟨by omega, hm.1⟩ ⟨hm.2, by omega⟩
  exact this
theorem rate_ok {c : Clk} {b : Bn} (h : openErr c b = 0) {ra : Option Addr} {rc : Nat} {w : World} (hc : Cells w ra (rods c.rods)) : Calls Try.prog 22 #[c.v ra rc, b.v] w (Pure w (.tuple #[spv (roundS (10000 * lenC c.rods) (rateK (newK c b))), I 0])) := by
  have := rateOf_any c b (rc := rc) hc
  rw [rateR_eq h] at this; exact this
theorem ends_ok {c : Clk} {b : Bn} (h : openErr c b = 0) {ra : Option Addr} {rc : Nat} {w : World} (hc : Cells w ra (rods c.rods)) : Calls Try.prog 23 #[c.v ra rc, b.v] w fun e w' => ∃ a1 d1 a2 d2, e = .returned (.tuple #[(lowT c b).v a1 d1, (highT c b).v a2 d2, I 0]) ∧ Below w.heap.size w w' ∧ Lies [] w.heap.size w'.heap.size w' a1 (ints (lowT c b).grow) ∧ Lies [] w.heap.size w'.heap.size w' a2 (ints (highT c b).grow) := by
  have := ends_l c b (rc := rc) hc
  rw [endsR_eq h] at this; exact this
theorem exact_ok {c : Clk} {b : Bn} {t : Tr} (hk : check c = 0) (hb : OkB b) (ht : InK t (newK c b)) {ra ta : Option Addr} {rc tc : Nat} {w : World} (hc : Cells w ra (rods c.rods)) (hg : Cells w ta (ints t.grow)) : Calls Try.prog 14 #[c.v ra rc, t.v ta tc] w (Pure w (.tuple #[spv (lowest (partsR c t) (10000 * lenC c.rods)), I 0])) := by
  have := exact_any c t (rc := rc) (tc := tc) hc hg
  rw [exactR_eq hk hb ht] at this; exact this
theorem check_ok {c : Clk} (h : check c = 0) {ra : Option Addr} {rc : Nat} {w : World} (hc : Cells w ra (rods c.rods)) : Calls Try.prog 17 #[c.v ra rc] w (Pure w (I 0)) := by
  have := check_any c (n := rc) hc
  rw [h] at this; exact this

set_option maxRecDepth 100000 in
set_option maxHeartbeats 8000000 in
theorem cone_any {m : Made} {x : Wx} {by_ : List Int} (hm : OkMade m) (hx : OkWx x) (h8 : ∀ y ∈ by_, B8 y) {ra ba : Option Addr} {rc bc : Nat} {w : World} (hc : Cells w ra (mrods m.rods)) (hB : Cells w ba (bytes8 by_)) :
    Calls Try.prog 7 #[m.v ra rc, x.v, .slice ba by_.length bc] w (Pure w (.bool true)) := by
  have hck := clockC_ok hm
  have hbk := boundsW_ok hx
  have hfew := clockC_few m
  have hop := open_ok hck hbk
  have hv := newK_val hck hbk
  have hT := truthOf_in h8 hck hbk
  have inL : InK (lowT (clockC m) (boundsW x)) (newK (clockC m) (boundsW x)) := (ends_spec true hv).1
  have inH : InK (highT (clockC m) (boundsW x)) (newK (clockC m) (boundsW x)) := (ends_spec false hv).1
  have hcone := cone_law hck hbk hT
  have LR : ∀ {a : Option Addr} {n : Nat} {w : World}, Cells w a (rods (clockC m).rods) → Calls Try.prog 22 #[(clockC m).v a n, (boundsW x).v] w (Pure w (.tuple #[spv (roundS (10000 * lenC (clockC m).rods) (rateK (newK (clockC m) (boundsW x)))), I 0])) := fun h => rate_ok hop h
  have L0 : ∀ {a a2 : Option Addr} {n n2 : Nat} {w : World}, Cells w a (rods (clockC m).rods) → Cells w a2 (ints (truthOf (clockC m) (boundsW x) by_).grow) → Calls Try.prog 14 #[(clockC m).v a n, (truthOf (clockC m) (boundsW x) by_).v a2 n2] w (Pure w (.tuple #[spv (lowest (partsR (clockC m) (truthOf (clockC m) (boundsW x) by_)) (10000 * lenC (clockC m).rods)), I 0])) := fun h k => exact_ok hck hbk hT h k
  have L1 : ∀ {a a2 : Option Addr} {n n2 : Nat} {w : World}, Cells w a (rods (clockC m).rods) → Cells w a2 (ints (lowT (clockC m) (boundsW x)).grow) → Calls Try.prog 14 #[(clockC m).v a n, (lowT (clockC m) (boundsW x)).v a2 n2] w (Pure w (.tuple #[spv (lowest (partsR (clockC m) (lowT (clockC m) (boundsW x))) (10000 * lenC (clockC m).rods)), I 0])) := fun h k => exact_ok hck hbk inL h k
  have L2 : ∀ {a a2 : Option Addr} {n n2 : Nat} {w : World}, Cells w a (rods (clockC m).rods) → Cells w a2 (ints (highT (clockC m) (boundsW x)).grow) → Calls Try.prog 14 #[(clockC m).v a n, (highT (clockC m) (boundsW x)).v a2 n2] w (Pure w (.tuple #[spv (lowest (partsR (clockC m) (highT (clockC m) (boundsW x))) (10000 * lenC (clockC m).rods)), I 0])) := fun h k => exact_ok hck hbk inH h k
  generalize roundS (10000 * lenC (clockC m).rods) (rateK (newK (clockC m) (boundsW x))) = S at *
  generalize lowest (partsR (clockC m) (truthOf (clockC m) (boundsW x) by_)) (10000 * lenC (clockC m).rods) = q at *
  generalize lowest (partsR (clockC m) (lowT (clockC m) (boundsW x))) (10000 * lenC (clockC m).rods) = y at *
  generalize lowest (partsR (clockC m) (highT (clockC m) (boundsW x))) (10000 * lenC (clockC m).rods) = u at *
  obtain ⟨S1, S2⟩ := S
  obtain ⟨r1, r2⟩ := q
  obtain ⟨y1, y2⟩ := y
  obtain ⟨u1, u2⟩ := u
  simp only [spv] at LR L0 L1 L2
  obtain ⟨q1, q2, q3, ⟨q4, q5⟩, ⟨q6, q7⟩, ⟨q8, q9⟩, ⟨q10, q11⟩, ⟨q12, q13⟩, q14, ⟨q15, q16⟩, ⟨q17, q18⟩⟩ := hcone
  simp only at q1 q2 q3 q4 q5 q6 q7 q8 q9 q10 q11 q12 q13 q14 q15 q16 q17 q18
  refine vc7 _ _ _ _ _ _ _ _ _ _ _ _ _ _ _ _ _ _ _ _ w _ ?_
  intro m1_1 g_m1_1 m2_1 g_m2_1 w1 hb1 hk1
  have z1 := hk1.size; have o1 := hk1.own
  simp only [List.mem_cons, List.not_mem_nil, or_false, forall_eq_or_imp, forall_eq] at o1
  refine (clock_l m (hc.keep hb1) hm).mono fun e w2 he => ?_
  obtain ⟨a1, n1, rfl, hb2, L⟩ := he
  have z2 := hb2.size
  refine ⟨_, _, _, _, _, _, _, _, _, rfl, hb2, ?_⟩
  intro w3 hb3 hk3
  have z3 := hk3.size; have o3 := hk3.own
  simp only [List.mem_cons, List.not_mem_nil, or_false, forall_eq_or_imp, forall_eq] at o3
  have L_3 := Lies.kio L hk3 (allc (.inl (by omega)) (allc (.inl (by omega)) all0)) ⟨(w1.heap.size, w2.heap.size), by simp, by simp only; omega, by simp only; omega⟩
  refine Pure.calls (boundsW_any hx w3) fun w4 hb4 => ?_
  have z4 := hb4.size
  have L_4 := L_3.below hb4
  refine ⟨_, _, _, _, _, _, _, _, rfl, hb4, ?_⟩
  intro m5 g_m5 d0_m5 d1_m5 m6 g_m6 d0_m6 d1_m6 w5 hb5 hk5
  have z5 := hk5.size; have o5 := hk5.own
  simp only [List.mem_cons, List.not_mem_nil, or_false, forall_eq_or_imp, forall_eq] at o5
  have L_5 := Lies.kio L_4 hk5 (allc d1_m6 (allc d1_m5 (allc (.inl (by omega)) (allc (.inl (by omega)) all0)))) ⟨(0, w4.heap.size), by simp, by simp only; omega, by simp only; omega⟩
  refine (copied_l (clockC m) L_5.cells (by omega)).mono fun e w6 he => ?_
  obtain ⟨c5, n5, rfl, hb6, C5⟩ := he
  have z6 := hb6.size
  have L_6 := L_5.below hb6
  refine ⟨_, _, _, _, _, _, _, _, _, rfl, hb6, ?_⟩
  intro w7 hb7 hk7
  have z7 := hk7.size; have o7 := hk7.own
  simp only [List.mem_cons, List.not_mem_nil, or_false, forall_eq_or_imp, forall_eq] at o7
  have L_7 := Lies.kio L_6 hk7 (allc d1_m6 (allc d1_m5 (allc (.inl (by omega)) (allc (.inl (by omega)) all0)))) ⟨(0, w4.heap.size), by simp, by simp only; omega, by simp only; omega⟩
  have C5_7 := Lies.kio C5 hk7 (allc (.inl (by omega)) (allc (.inl (by omega)) (allc (.inl (by omega)) (allc (.inl (by omega)) all0)))) ⟨(w5.heap.size, w6.heap.size), by simp, by simp only; omega, by simp only; omega⟩
  refine Pure.calls (LR C5_7.cells) fun w8 hb8 => ?_
  have z8 := hb8.size
  have L_8 := L_7.below hb8
  refine ⟨_, _, _, rfl, hb8, ?_⟩
  intro m9 g_m9 d0_m9 d1_m9 w9 hb9 hk9
  have z9 := hk9.size; have o9 := hk9.own
  simp only [List.mem_cons, List.not_mem_nil, or_false, forall_eq_or_imp, forall_eq] at o9
  have L_9 := Lies.kio L_8 hk9 (allc (.inr (by omega)) (allc d1_m6 (allc d1_m5 (allc (.inl (by omega)) (allc (.inl (by omega)) all0))))) ⟨(0, w8.heap.size), by simp, by simp only; omega, by simp only; omega⟩
  refine (copied_l (clockC m) L_9.cells (by omega)).mono fun e w10 he => ?_
  obtain ⟨c9, n9, rfl, hb10, C9⟩ := he
  have z10 := hb10.size
  have L_10 := L_9.below hb10
  refine ⟨_, _, _, _, _, _, _, _, _, rfl, hb10, ?_⟩
  intro w11 hb11 hk11
  have z11 := hk11.size; have o11 := hk11.own
  simp only [List.mem_cons, List.not_mem_nil, or_false, forall_eq_or_imp, forall_eq] at o11
  have L_11 := Lies.kio L_10 hk11 (allc (.inr (by omega)) (allc d1_m6 (allc d1_m5 (allc (.inl (by omega)) (allc (.inl (by omega)) all0))))) ⟨(0, w8.heap.size), by simp, by simp only; omega, by simp only; omega⟩
  have C9_11 := Lies.kio C9 hk11 (allc (.inl (by omega)) (allc (.inl (by omega)) (allc (.inl (by omega)) (allc (.inl (by omega)) (allc (.inl (by omega)) all0))))) ⟨(w9.heap.size, w10.heap.size), by simp, by simp only; omega, by simp only; omega⟩
  refine (ends_ok hop C9_11.cells).mono fun e w12 he => ?_
  obtain ⟨e1, i1, e2, i2, rfl, hb12, E, F⟩ := he
  have z12 := hb12.size
  have L_12 := L_11.below hb12
  refine ⟨_, _, _, _, _, _, _, _, _, _, _, _, _, _, _, _, _, _, _, rfl, hb12, ?_⟩
  intro m16 g_m16 d0_m16 d1_m16 m17 g_m17 d0_m17 d1_m17 w13 hb13 hk13
  have z13 := hk13.size; have o13 := hk13.own
  simp only [List.mem_cons, List.not_mem_nil, or_false, forall_eq_or_imp, forall_eq] at o13
  have L_13 := Lies.kio L_12 hk13 (allc (.inr (by omega)) (allc (.inr (by omega)) (allc (.inr (by omega)) (allc d1_m6 (allc d1_m5 (allc (.inl (by omega)) (allc (.inl (by omega)) all0))))))) ⟨(0, w12.heap.size), by simp, by simp only; omega, by simp only; omega⟩
  have E_13 := Lies.kio E hk13 (allc d0_m17 (allc d0_m16 (allc (.inl (by omega)) (allc (.inl (by omega)) (allc (.inl (by omega)) (allc (.inl (by omega)) (allc (.inl (by omega)) all0))))))) ⟨(0, w12.heap.size), by simp, by simp only; omega, by simp only; omega⟩
  have F_13 := Lies.kio F hk13 (allc d0_m17 (allc d0_m16 (allc (.inl (by omega)) (allc (.inl (by omega)) (allc (.inl (by omega)) (allc (.inl (by omega)) (allc (.inl (by omega)) all0))))))) ⟨(0, w12.heap.size), by simp, by simp only; omega, by simp only; omega⟩
  refine (copied_l (clockC m) L_13.cells (by omega)).mono fun e w14 he => ?_
  obtain ⟨c13, n13, rfl, hb14, C13⟩ := he
  have z14 := hb14.size
  have L_14 := L_13.below hb14
  have E_14 := E_13.below hb14
  have F_14 := F_13.below hb14
  refine ⟨_, _, _, _, _, _, _, _, _, rfl, hb14, ?_⟩
  intro w15 hb15 hk15
  have z15 := hk15.size; have o15 := hk15.own
  simp only [List.mem_cons, List.not_mem_nil, or_false, forall_eq_or_imp, forall_eq] at o15
  have L_15 := Lies.kio L_14 hk15 (allc (.inr (by omega)) (allc (.inr (by omega)) (allc (.inr (by omega)) (allc d1_m6 (allc d1_m5 (allc (.inl (by omega)) (allc (.inl (by omega)) all0))))))) ⟨(0, w12.heap.size), by simp, by simp only; omega, by simp only; omega⟩
  have E_15 := Lies.kio E_14 hk15 (allc d0_m17 (allc d0_m16 (allc (.inl (by omega)) (allc (.inl (by omega)) (allc (.inl (by omega)) (allc (.inl (by omega)) (allc (.inl (by omega)) all0))))))) ⟨(0, w12.heap.size), by simp, by simp only; omega, by simp only; omega⟩
  have F_15 := Lies.kio F_14 hk15 (allc d0_m17 (allc d0_m16 (allc (.inl (by omega)) (allc (.inl (by omega)) (allc (.inl (by omega)) (allc (.inl (by omega)) (allc (.inl (by omega)) all0))))))) ⟨(0, w12.heap.size), by simp, by simp only; omega, by simp only; omega⟩
  have C13_15 := Lies.kio C13 hk15 (allc (.inl (by omega)) (allc (.inl (by omega)) (allc (.inl (by omega)) (allc (.inl (by omega)) (allc (.inl (by omega)) (allc (.inl (by omega)) (allc (.inl (by omega)) all0))))))) ⟨(w13.heap.size, w14.heap.size), by simp, by simp only; omega, by simp only; omega⟩
  refine (truthOf_l (clockC m) (boundsW x) L_15.cells (hB.keep hb15) h8 hck hbk).mono fun e w16 he => ?_
  obtain ⟨ta, tn, rfl, hb16, T⟩ := he
  have z16 := hb16.size
  have L_16 := L_15.below hb16
  have E_16 := E_15.below hb16
  have F_16 := F_15.below hb16
  have C13_16 := C13_15.below hb16
  refine ⟨_, _, _, _, _, _, _, _, _, rfl, hb16, ?_⟩
  intro w17 hb17 hk17
  have z17 := hk17.size; have o17 := hk17.own
  simp only [List.mem_cons, List.not_mem_nil, or_false, forall_eq_or_imp, forall_eq] at o17
  have L_17 := Lies.kio L_16 hk17 (allc (.inr (by omega)) (allc (.inr (by omega)) (allc (.inr (by omega)) (allc d1_m6 (allc d1_m5 (allc (.inl (by omega)) (allc (.inl (by omega)) all0))))))) ⟨(0, w12.heap.size), by simp, by simp only; omega, by simp only; omega⟩
  have E_17 := Lies.kio E_16 hk17 (allc d0_m17 (allc d0_m16 (allc (.inl (by omega)) (allc (.inl (by omega)) (allc (.inl (by omega)) (allc (.inl (by omega)) (allc (.inl (by omega)) all0))))))) ⟨(0, w12.heap.size), by simp, by simp only; omega, by simp only; omega⟩
  have F_17 := Lies.kio F_16 hk17 (allc d0_m17 (allc d0_m16 (allc (.inl (by omega)) (allc (.inl (by omega)) (allc (.inl (by omega)) (allc (.inl (by omega)) (allc (.inl (by omega)) all0))))))) ⟨(0, w12.heap.size), by simp, by simp only; omega, by simp only; omega⟩
  have C13_17 := Lies.kio C13_16 hk17 (allc (.inl (by omega)) (allc (.inl (by omega)) (allc (.inl (by omega)) (allc (.inl (by omega)) (allc (.inl (by omega)) (allc (.inl (by omega)) (allc (.inl (by omega)) all0))))))) ⟨(w13.heap.size, w14.heap.size), by simp, by simp only; omega, by simp only; omega⟩
  have T_17 := Lies.kio T hk17 (allc (.inl (by omega)) (allc (.inl (by omega)) (allc (.inl (by omega)) (allc (.inl (by omega)) (allc (.inl (by omega)) (allc (.inl (by omega)) (allc (.inl (by omega)) all0))))))) ⟨(w15.heap.size, w16.heap.size), by simp, by simp only; omega, by simp only; omega⟩
  refine Pure.calls (L0 C13_17.cells T_17.cells) fun w18 hb18 => ?_
  have z18 := hb18.size
  have L_18 := L_17.below hb18
  have E_18 := E_17.below hb18
  have F_18 := F_17.below hb18
  refine ⟨_, _, _, rfl, hb18, ?_⟩
  intro m22 g_m22 d0_m22 d1_m22 d2_m22 w19 hb19 hk19
  have z19 := hk19.size; have o19 := hk19.own
  simp only [List.mem_cons, List.not_mem_nil, or_false, forall_eq_or_imp, forall_eq] at o19
  have L_19 := Lies.kio L_18 hk19 (allc (.inr (by omega)) (allc (.inr (by omega)) (allc (.inr (by omega)) (allc (.inr (by omega)) (allc d1_m6 (allc d1_m5 (allc (.inl (by omega)) (allc (.inl (by omega)) all0)))))))) ⟨(0, w18.heap.size), by simp, by simp only; omega, by simp only; omega⟩
  have E_19 := Lies.kio E_18 hk19 (allc (.inr (by omega)) (allc d0_m17 (allc d0_m16 (allc (.inl (by omega)) (allc (.inl (by omega)) (allc (.inl (by omega)) (allc (.inl (by omega)) (allc (.inl (by omega)) all0)))))))) ⟨(0, w18.heap.size), by simp, by simp only; omega, by simp only; omega⟩
  have F_19 := Lies.kio F_18 hk19 (allc (.inr (by omega)) (allc d0_m17 (allc d0_m16 (allc (.inl (by omega)) (allc (.inl (by omega)) (allc (.inl (by omega)) (allc (.inl (by omega)) (allc (.inl (by omega)) all0)))))))) ⟨(0, w18.heap.size), by simp, by simp only; omega, by simp only; omega⟩
  refine (copied_l (clockC m) L_19.cells (by omega)).mono fun e w20 he => ?_
  obtain ⟨c19, n19, rfl, hb20, C19⟩ := he
  have z20 := hb20.size
  have L_20 := L_19.below hb20
  have E_20 := E_19.below hb20
  have F_20 := F_19.below hb20
  refine ⟨_, _, _, _, _, _, _, _, _, rfl, hb20, ?_⟩
  intro w21 hb21 hk21
  have z21 := hk21.size; have o21 := hk21.own
  simp only [List.mem_cons, List.not_mem_nil, or_false, forall_eq_or_imp, forall_eq] at o21
  have L_21 := Lies.kio L_20 hk21 (allc (.inr (by omega)) (allc (.inr (by omega)) (allc (.inr (by omega)) (allc (.inr (by omega)) (allc d1_m6 (allc d1_m5 (allc (.inl (by omega)) (allc (.inl (by omega)) all0)))))))) ⟨(0, w18.heap.size), by simp, by simp only; omega, by simp only; omega⟩
  have E_21 := Lies.kio E_20 hk21 (allc (.inr (by omega)) (allc d0_m17 (allc d0_m16 (allc (.inl (by omega)) (allc (.inl (by omega)) (allc (.inl (by omega)) (allc (.inl (by omega)) (allc (.inl (by omega)) all0)))))))) ⟨(0, w18.heap.size), by simp, by simp only; omega, by simp only; omega⟩
  have F_21 := Lies.kio F_20 hk21 (allc (.inr (by omega)) (allc d0_m17 (allc d0_m16 (allc (.inl (by omega)) (allc (.inl (by omega)) (allc (.inl (by omega)) (allc (.inl (by omega)) (allc (.inl (by omega)) all0)))))))) ⟨(0, w18.heap.size), by simp, by simp only; omega, by simp only; omega⟩
  have C19_21 := Lies.kio C19 hk21 (allc (.inl (by omega)) (allc (.inl (by omega)) (allc (.inl (by omega)) (allc (.inl (by omega)) (allc (.inl (by omega)) (allc (.inl (by omega)) (allc (.inl (by omega)) (allc (.inl (by omega)) all0)))))))) ⟨(w19.heap.size, w20.heap.size), by simp, by simp only; omega, by simp only; omega⟩
  refine Pure.calls (L1 C19_21.cells E_21.cells) fun w22 hb22 => ?_
  have z22 := hb22.size
  have L_22 := L_21.below hb22
  have E_22 := E_21.below hb22
  have F_22 := F_21.below hb22
  refine ⟨_, _, _, rfl, hb22, ?_⟩
  intro m25 g_m25 d0_m25 d1_m25 w23 hb23 hk23
  have z23 := hk23.size; have o23 := hk23.own
  simp only [List.mem_cons, List.not_mem_nil, or_false, forall_eq_or_imp, forall_eq] at o23
  have L_23 := Lies.kio L_22 hk23 (allc (.inr (by omega)) (allc (.inr (by omega)) (allc (.inr (by omega)) (allc (.inr (by omega)) (allc (.inr (by omega)) (allc d1_m6 (allc d1_m5 (allc (.inl (by omega)) (allc (.inl (by omega)) all0))))))))) ⟨(0, w22.heap.size), by simp, by simp only; omega, by simp only; omega⟩
  have E_23 := Lies.kio E_22 hk23 (allc (.inr (by omega)) (allc (.inr (by omega)) (allc d0_m17 (allc d0_m16 (allc (.inl (by omega)) (allc (.inl (by omega)) (allc (.inl (by omega)) (allc (.inl (by omega)) (allc (.inl (by omega)) all0))))))))) ⟨(0, w22.heap.size), by simp, by simp only; omega, by simp only; omega⟩
  have F_23 := Lies.kio F_22 hk23 (allc (.inr (by omega)) (allc (.inr (by omega)) (allc d0_m17 (allc d0_m16 (allc (.inl (by omega)) (allc (.inl (by omega)) (allc (.inl (by omega)) (allc (.inl (by omega)) (allc (.inl (by omega)) all0))))))))) ⟨(0, w22.heap.size), by simp, by simp only; omega, by simp only; omega⟩
  refine (copied_l (clockC m) L_23.cells (by omega)).mono fun e w24 he => ?_
  obtain ⟨c23, n23, rfl, hb24, C23⟩ := he
  have z24 := hb24.size
  have L_24 := L_23.below hb24
  have E_24 := E_23.below hb24
  have F_24 := F_23.below hb24
  refine ⟨_, _, _, _, _, _, _, _, _, rfl, hb24, ?_⟩
  intro w25 hb25 hk25
  have z25 := hk25.size; have o25 := hk25.own
  simp only [List.mem_cons, List.not_mem_nil, or_false, forall_eq_or_imp, forall_eq] at o25
  have L_25 := Lies.kio L_24 hk25 (allc (.inr (by omega)) (allc (.inr (by omega)) (allc (.inr (by omega)) (allc (.inr (by omega)) (allc (.inr (by omega)) (allc d1_m6 (allc d1_m5 (allc (.inl (by omega)) (allc (.inl (by omega)) all0))))))))) ⟨(0, w22.heap.size), by simp, by simp only; omega, by simp only; omega⟩
  have E_25 := Lies.kio E_24 hk25 (allc (.inr (by omega)) (allc (.inr (by omega)) (allc d0_m17 (allc d0_m16 (allc (.inl (by omega)) (allc (.inl (by omega)) (allc (.inl (by omega)) (allc (.inl (by omega)) (allc (.inl (by omega)) all0))))))))) ⟨(0, w22.heap.size), by simp, by simp only; omega, by simp only; omega⟩
  have F_25 := Lies.kio F_24 hk25 (allc (.inr (by omega)) (allc (.inr (by omega)) (allc d0_m17 (allc d0_m16 (allc (.inl (by omega)) (allc (.inl (by omega)) (allc (.inl (by omega)) (allc (.inl (by omega)) (allc (.inl (by omega)) all0))))))))) ⟨(0, w22.heap.size), by simp, by simp only; omega, by simp only; omega⟩
  have C23_25 := Lies.kio C23 hk25 (allc (.inl (by omega)) (allc (.inl (by omega)) (allc (.inl (by omega)) (allc (.inl (by omega)) (allc (.inl (by omega)) (allc (.inl (by omega)) (allc (.inl (by omega)) (allc (.inl (by omega)) (allc (.inl (by omega)) all0))))))))) ⟨(w23.heap.size, w24.heap.size), by simp, by simp only; omega, by simp only; omega⟩
  refine Pure.calls (L2 C23_25.cells F_25.cells) fun w26 hb26 => ?_
  have z26 := hb26.size
  have L_26 := L_25.below hb26
  have E_26 := E_25.below hb26
  have F_26 := F_25.below hb26
  refine ⟨_, _, _, rfl, hb26, ?_⟩
  intro m28 g_m28 d0_m28 d1_m28 w27 hb27 hk27
  have z27 := hk27.size; have o27 := hk27.own
  simp only [List.mem_cons, List.not_mem_nil, or_false, forall_eq_or_imp, forall_eq] at o27
  have L_27 := Lies.ko L_26 hk27 (allc (.inr (by omega)) (allc (.inr (by omega)) (allc (.inr (by omega)) (allc (.inr (by omega)) (allc (.inr (by omega)) (allc (.inr (by omega)) (allc d1_m6 (allc d1_m5 (allc (.inl (by omega)) (allc (.inl (by omega)) all0))))))))))
  have E_27 := Lies.ko E_26 hk27 (allc (.inr (by omega)) (allc (.inr (by omega)) (allc (.inr (by omega)) (allc d0_m17 (allc d0_m16 (allc (.inl (by omega)) (allc (.inl (by omega)) (allc (.inl (by omega)) (allc (.inl (by omega)) (allc (.inl (by omega)) all0))))))))))
  have F_27 := Lies.ko F_26 hk27 (allc (.inr (by omega)) (allc (.inr (by omega)) (allc (.inr (by omega)) (allc d0_m17 (allc d0_m16 (allc (.inl (by omega)) (allc (.inl (by omega)) (allc (.inl (by omega)) (allc (.inl (by omega)) (allc (.inl (by omega)) all0))))))))))
  refine (copied_l (clockC m) L_27.cells (by omega)).mono fun e w28 he => ?_
  obtain ⟨c27, n27, rfl, hb28, C27⟩ := he
  have z28 := hb28.size
  have L_28 := L_27.below hb28
  have E_28 := E_27.below hb28
  have F_28 := F_27.below hb28
  refine ⟨_, _, _, _, _, _, _, _, _, rfl, .all hb28, ?_⟩
  intro w29 hb29 hk29
  have z29 := hk29.size; have o29 := hk29.own
  simp only [List.mem_cons, List.not_mem_nil, or_false, forall_eq_or_imp, forall_eq] at o29
  have L_29 := Lies.ko L_28 hk29 (allc (.inr (by omega)) (allc (.inr (by omega)) (allc (.inr (by omega)) (allc (.inr (by omega)) (allc (.inr (by omega)) (allc (.inr (by omega)) (allc d1_m6 (allc d1_m5 (allc (.inl (by omega)) (allc (.inl (by omega)) all0))))))))))
  have E_29 := Lies.ko E_28 hk29 (allc (.inr (by omega)) (allc (.inr (by omega)) (allc (.inr (by omega)) (allc d0_m17 (allc d0_m16 (allc (.inl (by omega)) (allc (.inl (by omega)) (allc (.inl (by omega)) (allc (.inl (by omega)) (allc (.inl (by omega)) all0))))))))))
  have F_29 := Lies.ko F_28 hk29 (allc (.inr (by omega)) (allc (.inr (by omega)) (allc (.inr (by omega)) (allc d0_m17 (allc d0_m16 (allc (.inl (by omega)) (allc (.inl (by omega)) (allc (.inl (by omega)) (allc (.inl (by omega)) (allc (.inl (by omega)) all0))))))))))
  have C27_29 := Lies.ko C27 hk29 (allc (.inl (by omega)) (allc (.inl (by omega)) (allc (.inl (by omega)) (allc (.inl (by omega)) (allc (.inl (by omega)) (allc (.inl (by omega)) (allc (.inl (by omega)) (allc (.inl (by omega)) (allc (.inl (by omega)) (allc (.inl (by omega)) all0))))))))))
  refine Pure.calls (check_ok hck C27_29.cells) fun w30 hb30 => ?_
  have z30 := hb30.size
  have L_30 := L_29.below hb30
  have E_30 := E_29.below hb30
  have F_30 := F_29.below hb30
  refine ⟨_, rfl, .all hb30, (fun h => absurd h (by first | omega | decide)), ?_⟩
  intro k173
  refine ⟨(fun h => absurd h (by first | omega | decide)), ?_⟩
  intro k175
  refine ⟨(fun h => absurd h (by first | omega | decide)), ?_⟩
  intro k177
  refine ⟨(fun h => absurd h (by first | omega | decide)), ?_⟩
  intro k179
  refine ⟨(fun h => absurd h (by first | omega | decide)), ?_⟩
  intro k181
  refine ⟨(fun h => absurd h (by first | omega | decide)), ?_⟩
  intro k183 w37 hb37 hk37
  have z37 := hk37.size; have o37 := hk37.own
  simp only [List.mem_cons, List.not_mem_nil, or_false, forall_eq_or_imp, forall_eq] at o37
  have L_37 := Lies.ko L_30 hk37 (allc (.inr (by omega)) (allc (.inr (by omega)) (allc (.inr (by omega)) (allc (.inr (by omega)) (allc (.inr (by omega)) (allc (.inr (by omega)) (allc d1_m6 (allc d1_m5 (allc (.inl (by omega)) (allc (.inl (by omega)) all0))))))))))
  have E_37 := Lies.ko E_30 hk37 (allc (.inr (by omega)) (allc (.inr (by omega)) (allc (.inr (by omega)) (allc d0_m17 (allc d0_m16 (allc (.inl (by omega)) (allc (.inl (by omega)) (allc (.inl (by omega)) (allc (.inl (by omega)) (allc (.inl (by omega)) all0))))))))))
  have F_37 := Lies.ko F_30 hk37 (allc (.inr (by omega)) (allc (.inr (by omega)) (allc (.inr (by omega)) (allc d0_m17 (allc d0_m16 (allc (.inl (by omega)) (allc (.inl (by omega)) (allc (.inl (by omega)) (allc (.inl (by omega)) (allc (.inl (by omega)) all0))))))))))
  refine Pure.calls (inTruth_any inL L_37.cells E_37.cells (by omega)) fun w38 hb38 => ?_
  have z38 := hb38.size
  have L_38 := L_37.below hb38
  have F_38 := F_37.below hb38
  refine ⟨_, rfl, .all hb38, (fun h => absurd h (by first | omega | decide)), ?_⟩
  intro k194 w40 hb40 hk40
  have z40 := hk40.size; have o40 := hk40.own
  simp only [List.mem_cons, List.not_mem_nil, or_false, forall_eq_or_imp, forall_eq] at o40
  have L_40 := Lies.ko L_38 hk40 (allc (.inr (by omega)) (allc (.inr (by omega)) (allc (.inr (by omega)) (allc (.inr (by omega)) (allc (.inr (by omega)) (allc (.inr (by omega)) (allc d1_m6 (allc d1_m5 (allc (.inl (by omega)) (allc (.inl (by omega)) all0))))))))))
  have F_40 := Lies.ko F_38 hk40 (allc (.inr (by omega)) (allc (.inr (by omega)) (allc (.inr (by omega)) (allc d0_m17 (allc d0_m16 (allc (.inl (by omega)) (allc (.inl (by omega)) (allc (.inl (by omega)) (allc (.inl (by omega)) (allc (.inl (by omega)) all0))))))))))
  refine Pure.calls (inTruth_any inH L_40.cells F_40.cells (by omega)) fun w41 hb41 => ?_
  have z41 := hb41.size
  refine ⟨_, rfl, .all hb41, (fun h => absurd h (by first | omega | decide)), ?_⟩
  intro k202
  refine ⟨(fun h => absurd h (by first | omega | decide)), ?_⟩
  intro k204
  refine ⟨(fun h => absurd h (by first | omega | decide)), ?_⟩
  intro k206
  refine ⟨(fun h => absurd h (by first | omega | decide)), ?_⟩
  intro k208
  refine ⟨(by omega), (fun h => absurd h (by first | omega | decide)), ?_⟩
  intro k210
  refine ⟨(by omega), (fun h => absurd h (by first | omega | decide)), ?_⟩
  intro k212
  refine ⟨?_, ?_⟩
  · intro k214
    refine ⟨(fun h => absurd h (by exact fun e => by have := q14 e; clear q14; omega)), ?_⟩
    intro k216
    refine ⟨(by omega), ?_, (fun h => absurd h (by first | omega | decide))⟩
    intro k218
    refine ⟨(by omega), (by omega), ?_, (fun h => absurd h (by first | omega | decide))⟩
    intro k220
    refine ⟨(by omega), ?_, (fun h => absurd h (by first | omega | decide))⟩
    intro k222
    refine ⟨(by omega), (by omega), ?_, (fun h => absurd h (by first | omega | decide))⟩
    intro k224 w49 hb49 hk49
    have z49 := hk49.size; have o49 := hk49.own
    simp only [List.mem_cons, List.not_mem_nil, or_false, forall_eq_or_imp, forall_eq] at o49
    refine Pure.calls (known_any w49) fun w50 hb50 => ?_
    have z50 := hb50.size
    refine ⟨_, rfl, .all hb50, ?_⟩
    intro w51 hb51 hk51
    have z51 := hk51.size; have o51 := hk51.own
    simp only [List.mem_cons, List.not_mem_nil, or_false, forall_eq_or_imp, forall_eq] at o51
    exact ⟨rfl, hb51⟩
  · intro k234
    refine ⟨(by omega), ?_, (fun h => absurd h (by first | omega | decide))⟩
    intro k236
    refine ⟨(by omega), (by omega), ?_, (fun h => absurd h (by first | omega | decide))⟩
    intro k238
    refine ⟨(by omega), ?_, (fun h => absurd h (by first | omega | decide))⟩
    intro k240
    refine ⟨(by omega), (by omega), ?_, (fun h => absurd h (by first | omega | decide))⟩
    intro k242 w56 hb56 hk56
    have z56 := hk56.size; have o56 := hk56.own
    simp only [List.mem_cons, List.not_mem_nil, or_false, forall_eq_or_imp, forall_eq] at o56
    refine Pure.calls (known_any w56) fun w57 hb57 => ?_
    have z57 := hb57.size
    refine ⟨_, rfl, .all hb57, ?_⟩
    intro w58 hb58 hk58
    have z58 := hk58.size; have o58 := hk58.own
    simp only [List.mem_cons, List.not_mem_nil, or_false, forall_eq_or_imp, forall_eq] at o58
    exact ⟨rfl, hb58⟩
end Go.Proofs.R03
end
section
/- Plain: changes; a nut; narrower bounds. -/
namespace Go.Proofs.R03
open Go.Vc Go.RowKit Go.Proofs

theorem one_sub (x : Int) : Sub (x, x) (x, x) := Sub.refl (Int.le_refl _)
theorem sq_one (a : Int) : sqS (a, a) = (a * a, a * a) := rfl
/-- THE CHANGE: between two truths with the same growing, air and drive. -/
theorem chg_mem {c : Clk} {b t : Bn} {x y : Tr} (hk : check c = 0) (hb : OkB b) (ht : OkB t) (hx : InK x (newK c b)) (hy : InK y (newK c t)) (hg : y.grow = x.grow) (ha : y.air = x.air) (hd : y.drive = x.drive) :
    Sub (partsR c y - partsR c x, partsR c y - partsR c x) (chgS c b t) := by
  have hvb := newK_val hk hb
  have hvt := newK_val hk ht
  have hS : Sub (sumT c.rods x.grow c.rods.length, sumT c.rods x.grow c.rods.length) (sumK (newK c b)) := by
    have hi := exact_inc hvb hx
    have h1 := sum_inc hi.rods hi.len (fun i s t => hi.lo) (newK c b).c.rods.length
    have e : sumN (exactK (newK c b).c x).c.rods (exactK (newK c b).c x).grow (newK c b).c.rods.length = (sumT c.rods x.grow c.rods.length, sumT c.rods x.grow c.rods.length) := point_sum c.rods x.grow c.rods.length
    rw [e] at h1; exact h1
  have dh := (Sub.one hy.heat).less (Sub.one hx.heat)
  have dp := (Sub.one hy.press).less (Sub.one hx.press)
  have df := (Sub.one hy.force).less (Sub.one hx.force)
  have h := ((((((one_sub 0).plus ((Sub.one hx.air).by dp)).plus ((Sub.one hx.drive).by df)).by (one_sub (10000 * lenC c.rods))).less ((hS.by dh).by (one_sub 432))).less (((Sub.one hy.arc).sq hvt.arc).by (one_sub (4570 * lenC c.rods)))).plus (((Sub.one hx.arc).sq hvb.arc).by (one_sub (4570 * lenC c.rods)))
  simp only [point_by, point_plus, point_less, sq_one] at h
  have e : ((0 + x.air * (y.press - x.press) + x.drive * (y.force - x.force)) * (10000 * lenC c.rods) - sumT c.rods x.grow c.rods.length * (y.heat - x.heat) * 432 - y.arc * y.arc * (4570 * lenC c.rods) + x.arc * x.arc * (4570 * lenC c.rods)) = partsR c y - partsR c x := by
    rw [← parts_eq, ← parts_eq, hg, ha, hd]
    grind
  rw [e] at h
  exact h

/-- What is less than nothing. -/
def negS (s : Sp) : Sp := (-s.2, -s.1)
theorem neg_by (s t : Sp) : byS s (negS t) = negS (byS s t) := by
  unfold byS negS
  simp only [Int.mul_neg, Prod.mk.injEq]
  omega
theorem neg_by' (s t : Sp) : byS (negS s) t = negS (byS s t) := by
  unfold byS negS
  simp only [Int.neg_mul, Prod.mk.injEq]
  omega
theorem neg_plus (s t : Sp) : plusS (negS s) (negS t) = negS (plusS s t) := by unfold plusS negS; simp only [Prod.mk.injEq]; omega
theorem neg_ok {s : Sp} (h : s.1 ≤ s.2) : (negS s).1 ≤ (negS s).2 := by unfold negS; simp only; omega
theorem neg_less {s t : Sp} (h : s.1 ≤ s.2) (k : t.1 ≤ t.2) : lessS s t = negS (lessS t s) := by
  rw [less_eq h, less_eq k]; unfold negS; simp only [Prod.mk.injEq]; omega
theorem neg_less' {s t : Sp} (k : t.1 ≤ t.2) : lessS (negS s) (negS t) = negS (lessS s t) := by
  rw [less_eq k, less_eq (neg_ok k)]; unfold negS; simp only [Prod.mk.injEq]; omega
theorem neg_round (n : Int) (s : Sp) : roundS n (negS s) = negS (roundS n s) := by
  unfold roundS negS
  simp only [Int.neg_neg]
theorem okB_le {b : Bn} (h : OkB b) : b.heat.1 ≤ b.heat.2 ∧ b.press.1 ≤ b.press.2 ∧ b.arc.1 ≤ b.arc.2 ∧ b.force.1 ≤ b.force.2 ∧ 0 ≤ b.arc.1 := by
  obtain ⟨b1, b2, b3, b4⟩ := h
  exact ⟨b1.2.1, b2.2.1, b3.2.1, b4.2.1, b3.1⟩
theorem chg_back {c : Clk} {b t : Bn} (hb : OkB b) (ht : OkB t) : chgS c t b = negS (chgS c b t) := by
  obtain ⟨b1, b2, b3, b4, b0⟩ := okB_le hb
  obtain ⟨t1, t2, t3, t4, t0⟩ := okB_le ht
  have h0 : ((0 : Int), (0 : Int)) = negS (0, 0) := rfl
  unfold chgS rateK baseK heatK arcK
  have e1 : sumK (chgK c t b) = sumK (chgK c b t) := rfl
  show plusS (lessS (lessS (byS (plusS (plusS (0, 0) (byS c.air (lessS b.press t.press))) (byS c.drive (lessS b.force t.force))) (10000 * lenC c.rods, 10000 * lenC c.rods)) (byS (byS (sumK (chgK c t b)) (lessS b.heat t.heat)) (432, 432))) (byS (sqS b.arc) (4570 * lenC c.rods, 4570 * lenC c.rods))) (byS (sqS t.arc) (4570 * lenC c.rods, 4570 * lenC c.rods)) =
    negS (plusS (lessS (lessS (byS (plusS (plusS (0, 0) (byS c.air (lessS t.press b.press))) (byS c.drive (lessS t.force b.force))) (10000 * lenC c.rods, 10000 * lenC c.rods)) (byS (byS (sumK (chgK c b t)) (lessS t.heat b.heat)) (432, 432))) (byS (sqS t.arc) (4570 * lenC c.rods, 4570 * lenC c.rods))) (byS (sqS b.arc) (4570 * lenC c.rods, 4570 * lenC c.rods)))
  rw [e1, neg_less b2 t2, neg_less b4 t4, neg_less b1 t1, neg_by, neg_by, neg_by]
  conv => lhs; rw [h0]
  rw [neg_plus, neg_plus, neg_by', neg_by', neg_less' (by_le _ _)]
  rw [less_eq (by_le _ _), less_eq (by_le _ _), less_eq (by_le _ _)]
  unfold negS plusS
  simp only [Prod.mk.injEq]
  omega

/-- A nut. -/
def turnC (c : Clk) (k : Int) : Clk := { c with base := c.base + k }
theorem turn_check {c : Clk} {k : Int} (h : check c = 0) (hb : -1000000 ≤ c.base + k ∧ c.base + k ≤ 1000000) : check (turnC c k) = 0 := by
  obtain ⟨h1, h2, h3, h4, h5, h6, h7⟩ := check_len h
  unfold check
  rw [if_neg (by show ¬8 < c.rods.length; omega), if_pos]
  exact ⟨h2, h3, h4, hb, h6, h7⟩
theorem turn_parts (c : Clk) (k : Int) (t : Tr) : partsR (turnC c k) t = partsR c t + k * (10000 * lenC c.rods) := by
  rw [← parts_eq, ← parts_eq]
  show (c.base + k + t.air * t.press + t.drive * t.force) * (10000 * lenC c.rods) - sumT c.rods t.grow c.rods.length * t.heat * 432 - t.arc * t.arc * (4570 * lenC c.rods) = _
  grind
theorem turn_in {c : Clk} {k : Int} {b : Bn} {t : Tr} (h : InK t (newK c b)) : InK t (newK (turnC c k) b) := ⟨h.len, h.grow, h.air, h.drive, h.heat, h.press, h.arc, h.force⟩
theorem turn_rate {c : Clk} {k : Int} {b : Bn} (hl : 0 ≤ lenC c.rods) : rateK (newK (turnC c k) b) = plusS (rateK (newK c b)) (k * (10000 * lenC c.rods), k * (10000 * lenC c.rods)) := by
  have e1 : heatK (newK (turnC c k) b) = heatK (newK c b) := rfl
  have e2 : arcK (newK (turnC c k) b) = arcK (newK c b) := rfl
  have e3 : baseK (newK (turnC c k) b) = plusS (baseK (newK c b)) (k * (10000 * lenC c.rods), k * (10000 * lenC c.rods)) := by
    unfold baseK
    show byS (plusS (plusS (c.base + k, c.base + k) (byS c.air b.press)) (byS c.drive b.force)) (10000 * lenC c.rods, 10000 * lenC c.rods) = plusS (byS (plusS (plusS (c.base, c.base) (byS c.air b.press)) (byS c.drive b.force)) (10000 * lenC c.rods, 10000 * lenC c.rods)) _
    have g1 := by_le c.air b.press
    have g2 := by_le c.drive b.force
    generalize byS c.air b.press = u at *
    generalize byS c.drive b.force = v at *
    rw [by_scale (by unfold plusS; simp only; omega) (by omega), by_scale (by unfold plusS; simp only; omega) (by omega)]
    unfold plusS
    simp only [Prod.mk.injEq]
    constructor <;> grind
  unfold rateK
  rw [e1, e2, e3, less_eq (t := heatK _) (by unfold heatK; exact by_le _ _), less_eq (t := heatK _) (by unfold heatK; exact by_le _ _), less_eq (t := arcK _) (by unfold arcK; exact by_le _ _), less_eq (t := arcK _) (by unfold arcK; exact by_le _ _)]
  unfold plusS
  simp only [Prod.mk.injEq]
  omega
theorem round_turn {n : Int} (hn : 0 < n) (s : Sp) (k : Int) : roundS n (plusS s (k * n, k * n)) = plusS (roundS n s) (k, k) := by
  unfold roundS plusS
  simp only [Prod.mk.injEq]
  constructor
  · exact Int.add_mul_ediv_right _ _ (by omega)
  · rw [show -(s.2 + k * n) = -s.2 + (-k) * n by rw [Int.neg_mul]; omega, Int.add_mul_ediv_right _ _ (by omega)]
    omega
theorem lowest_turn {p n : Int} (hn : 0 < n) (k : Int) : (lowest (p + k * n) n).2 = (lowest p n).2 ∧ (lowest (p + k * n) n).1 = (lowest p n).1 + k * (lowest p n).2 := by
  have hm : ∀ q : Int, Int.gcd (max q (0 - q)) n = Int.gcd q n := fun q => by
    rcases Int.le_total 0 q with h | h
    · rw [show max q (0 - q) = q by omega]
    · rw [show max q (0 - q) = -q by omega]; unfold Int.gcd; rw [Int.natAbs_neg]
  have hg : Int.gcd (p + k * n) n = Int.gcd p n := Int.gcd_add_mul_right_left n p k
  have hpos : (0 : Int) < (Int.gcd p n : Nat) := by have := Int.gcd_pos_of_ne_zero_right p (b := n) (by omega); omega
  have h1 : ((Int.gcd p n : Nat) : Int) ∣ p := Int.gcd_dvd_left ..
  have h2 : ((Int.gcd p n : Nat) : Int) ∣ n := Int.gcd_dvd_right ..
  have h3 : ((Int.gcd p n : Nat) : Int) ∣ p + k * n := by rw [← hg]; exact Int.gcd_dvd_left ..
  have e1 := Int.tdiv_mul_cancel h1
  have e2 := Int.tdiv_mul_cancel h2
  have e3 := Int.tdiv_mul_cancel h3
  unfold lowest
  rw [hm, hm, hg]
  refine ⟨rfl, ?_⟩
  simp only
  generalize ((Int.gcd p n : Nat) : Int) = g at *
  have : (p + k * n).tdiv g * g = (p.tdiv g + k * n.tdiv g) * g := by rw [e3, Int.add_mul, e1, Int.mul_assoc, e2]
  exact Int.eq_of_mul_eq_mul_right (by omega) this

theorem change_ok {c : Clk} {b t : Bn} (hb : openErr c b = 0) (ht : openErr c t = 0) {ra : Option Addr} {rc : Nat} {w : World} (hc : Cells w ra (rods c.rods)) : Calls Try.prog 29 #[c.v ra rc, b.v, t.v] w (Pure w (.tuple #[spv (roundS (10000 * lenC c.rods) (chgS c b t)), I 0])) := by
  have := change_any c b t (rc := rc) hc
  have e : changeR c b t = (roundS (10000 * lenC c.rods) (chgS c b t), 0) := by
    unfold changeR chgErr
    rw [if_pos hb, if_pos ht]
  rw [e] at this; exact this
end Go.Proofs.R03
end
section
/- The conditions of the functions, printed by program; each is what the generator reckons (kernel_rfl). -/
namespace Go.Proofs
open Go.Vc
set_option maxRecDepth 100000 in
set_option maxHeartbeats 2000000 in
theorem vc10 (m0a : Option Addr) (m0n : Nat) (m0c : Nat) (m1 : Int) (m2 : Int) (m3 : Int) (m4 : Int) (m5 : Int) (m6 : Int) (p1w0 : Int) (p1w1 : Int) (p1w2 : Int) (p1w3 : Int) (p1w4
    : Int) (p1w5 : Int) (p1w6 : Int) (p1w7 : Int) (p1w8 : Int) (p1w9 : Int) (p1w10 : Int) (p1w11 : Int) (p1w12 : Int) (p1w13 : Int) (p1w14 : Int) (p1w15 : Int) (p2by0a : Option
    Addr) (p2by0n : Nat) (p2by0c : Nat) (p2by1a : Option Addr) (p2by1n : Nat) (p2by1c : Nat) (w : World) (R : Ending → World → Prop) (h : ∀ (m1_1 : Nat), w.heap.size ≤ m1_1 → ∀
    (m2_1 : Nat), w.heap.size ≤ m2_1 → ∀ (m3_1 : Nat), w.heap.size ≤ m3_1 → ∀ (w1 : World), RowKit.Below w.heap.size w w1 → KeptIn [(0, w.heap.size)] [m3_1, m2_1, m1_1] w w1 →
    Calls Try.prog 33 #[Value.agg #[Value.slice m0a m0n m0c, Value.int IntKind.u8 m1, Value.int IntKind.i16 m2, Value.int IntKind.u8 m3, Value.int IntKind.u8 m4, Value.int
    IntKind.u8 m5, Value.int IntKind.u8 m6]] w1 fun (e1 : Ending) (w2 : World) => ∃ (x1 : Int), ∃ (x2 : Int), ∃ (a1 : Option Addr), ∃ (m4 : Nat), ∃ (m5 : Nat), ∃ (x3 : Int), ∃ (x4
    : Int), ∃ (x5 : Int), ∃ (x6 : Int), e1 = Ending.returned (Value.agg #[Value.int IntKind.i64 x1, Value.int IntKind.i64 x2, Value.slice a1 m4 m5, Value.int IntKind.i64 x3,
    Value.int IntKind.i64 x4, Value.int IntKind.i64 x5, Value.int IntKind.i64 x6]) ∧ RowKit.Below w1.heap.size w1 w2 ∧ ∀ (w3 : World), RowKit.Below w.heap.size w w3 → KeptIn [(0,
    w.heap.size), (w1.heap.size, w2.heap.size)] [m3_1, m2_1, m1_1] w2 w3 → Calls Try.prog 34 #[Value.agg #[Value.int IntKind.u8 p1w0, Value.int IntKind.u8 p1w1, Value.int
    IntKind.u8 p1w2, Value.int IntKind.u8 p1w3, Value.int IntKind.u8 p1w4, Value.int IntKind.u8 p1w5, Value.int IntKind.u8 p1w6, Value.int IntKind.u8 p1w7]] w3 fun (e2 : Ending)
    (w4 : World) => ∃ (x7 : Int), ∃ (x8 : Int), ∃ (x9 : Int), ∃ (x10 : Int), ∃ (x11 : Int), ∃ (x12 : Int), ∃ (x13 : Int), ∃ (x14 : Int), e2 = Ending.returned (Value.agg #[Value.int
    IntKind.i64 x7, Value.int IntKind.i64 x8, Value.int IntKind.i64 x9, Value.int IntKind.i64 x10, Value.int IntKind.i64 x11, Value.int IntKind.i64 x12, Value.int IntKind.i64 x13,
    Value.int IntKind.i64 x14]) ∧ RowKit.Below w3.heap.size w3 w4 ∧ ∀ (w5 : World), RowKit.Below w.heap.size w w5 → KeptIn [(0, w.heap.size), (w3.heap.size, w4.heap.size),
    (w1.heap.size, w2.heap.size)] [m3_1, m2_1, m1_1] w4 w5 → Calls Try.prog 34 #[Value.agg #[Value.int IntKind.u8 p1w8, Value.int IntKind.u8 p1w9, Value.int IntKind.u8 p1w10,
    Value.int IntKind.u8 p1w11, Value.int IntKind.u8 p1w12, Value.int IntKind.u8 p1w13, Value.int IntKind.u8 p1w14, Value.int IntKind.u8 p1w15]] w5 fun (e3 : Ending) (w6 : World)
    => ∃ (x15 : Int), ∃ (x16 : Int), ∃ (x17 : Int), ∃ (x18 : Int), ∃ (x19 : Int), ∃ (x20 : Int), ∃ (x21 : Int), ∃ (x22 : Int), e3 = Ending.returned (Value.agg #[Value.int
    IntKind.i64 x15, Value.int IntKind.i64 x16, Value.int IntKind.i64 x17, Value.int IntKind.i64 x18, Value.int IntKind.i64 x19, Value.int IntKind.i64 x20, Value.int IntKind.i64
    x21, Value.int IntKind.i64 x22]) ∧ RowKit.Below w5.heap.size w5 w6 ∧ ∀ (m6 : Nat), w.heap.size ≤ m6 → m6 < w5.heap.size ∨ w6.heap.size ≤ m6 → m6 < w3.heap.size ∨ w4.heap.size ≤
    m6 → m6 < w1.heap.size ∨ w2.heap.size ≤ m6 → ∀ (m7 : Nat), w.heap.size ≤ m7 → m7 < w5.heap.size ∨ w6.heap.size ≤ m7 → m7 < w3.heap.size ∨ w4.heap.size ≤ m7 → m7 < w1.heap.size
    ∨ w2.heap.size ≤ m7 → ∀ (m8 : Nat), w.heap.size ≤ m8 → m8 < w5.heap.size ∨ w6.heap.size ≤ m8 → m8 < w3.heap.size ∨ w4.heap.size ≤ m8 → m8 < w1.heap.size ∨ w2.heap.size ≤ m8 → ∀
    (w7 : World), RowKit.Below w.heap.size w w7 → KeptIn [(0, w6.heap.size)] [m8, m7, m6, m3_1, m2_1, m1_1] w6 w7 → Calls Try.prog 35 #[Value.agg #[Value.int IntKind.i64 x1,
    Value.int IntKind.i64 x2, Value.slice a1 m4 m5, Value.int IntKind.i64 x3, Value.int IntKind.i64 x4, Value.int IntKind.i64 x5, Value.int IntKind.i64 x6], Value.agg #[Value.int
    IntKind.i64 x7, Value.int IntKind.i64 x8, Value.int IntKind.i64 x9, Value.int IntKind.i64 x10, Value.int IntKind.i64 x11, Value.int IntKind.i64 x12, Value.int IntKind.i64 x13,
    Value.int IntKind.i64 x14], Value.slice p2by0a p2by0n p2by0c] w7 fun (e4 : Ending) (w8 : World) => ∃ (a2 : Option Addr), ∃ (m9 : Nat), ∃ (m10 : Nat), ∃ (x23 : Int), ∃ (x24 :
    Int), ∃ (x25 : Int), ∃ (x26 : Int), ∃ (x27 : Int), ∃ (x28 : Int), e4 = Ending.returned (Value.agg #[Value.slice a2 m9 m10, Value.int IntKind.i64 x23, Value.int IntKind.i64 x24,
    Value.int IntKind.i64 x25, Value.int IntKind.i64 x26, Value.int IntKind.i64 x27, Value.int IntKind.i64 x28]) ∧ RowKit.Below w7.heap.size w7 w8 ∧ ∀ (w9 : World), RowKit.Below
    w.heap.size w w9 → KeptIn [(0, w6.heap.size), (w7.heap.size, w8.heap.size)] [m8, m7, m6, m3_1, m2_1, m1_1] w8 w9 → Calls Try.prog 35 #[Value.agg #[Value.int IntKind.i64 x1,
    Value.int IntKind.i64 x2, Value.slice a1 m4 m5, Value.int IntKind.i64 x3, Value.int IntKind.i64 x4, Value.int IntKind.i64 x5, Value.int IntKind.i64 x6], Value.agg #[Value.int
    IntKind.i64 x15, Value.int IntKind.i64 x16, Value.int IntKind.i64 x17, Value.int IntKind.i64 x18, Value.int IntKind.i64 x19, Value.int IntKind.i64 x20, Value.int IntKind.i64
    x21, Value.int IntKind.i64 x22], Value.slice p2by1a p2by1n p2by1c] w9 fun (e5 : Ending) (w10 : World) => ∃ (a3 : Option Addr), ∃ (m11 : Nat), ∃ (m12 : Nat), ∃ (x29 : Int), ∃
    (x30 : Int), ∃ (x31 : Int), ∃ (x32 : Int), ∃ (x33 : Int), ∃ (x34 : Int), e5 = Ending.returned (Value.agg #[Value.slice a3 m11 m12, Value.int IntKind.i64 x29, Value.int
    IntKind.i64 x30, Value.int IntKind.i64 x31, Value.int IntKind.i64 x32, Value.int IntKind.i64 x33, Value.int IntKind.i64 x34]) ∧ RowKit.Below w9.heap.size w9 w10 ∧ ∀ (m13 :
    Nat), w6.heap.size ≤ m13 → m13 < w9.heap.size ∨ w10.heap.size ≤ m13 → m13 < w7.heap.size ∨ w8.heap.size ≤ m13 → ∀ (m14 : Nat), w6.heap.size ≤ m14 → m14 < w9.heap.size ∨
    w10.heap.size ≤ m14 → m14 < w7.heap.size ∨ w8.heap.size ≤ m14 → ∀ (w11 : World), RowKit.Below w.heap.size w w11 → KeptIn [(0, w10.heap.size)] [m14, m13, m8, m7, m6, m3_1, m2_1,
    m1_1] w10 w11 → Calls Try.prog 13 #[Value.agg #[Value.int IntKind.i64 x1, Value.int IntKind.i64 x2, Value.slice a1 m4 m5, Value.int IntKind.i64 x3, Value.int IntKind.i64 x4,
    Value.int IntKind.i64 x5, Value.int IntKind.i64 x6]] w11 fun (e6 : Ending) (w12 : World) => ∃ (x35 : Int), ∃ (x36 : Int), ∃ (a4 : Option Addr), ∃ (m15 : Nat), ∃ (m16 : Nat), ∃
    (x37 : Int), ∃ (x38 : Int), ∃ (x39 : Int), ∃ (x40 : Int), e6 = Ending.returned (Value.agg #[Value.int IntKind.i64 x35, Value.int IntKind.i64 x36, Value.slice a4 m15 m16,
    Value.int IntKind.i64 x37, Value.int IntKind.i64 x38, Value.int IntKind.i64 x39, Value.int IntKind.i64 x40]) ∧ RowKit.Below w11.heap.size w11 w12 ∧ ∀ (w13 : World),
    RowKit.Below w.heap.size w w13 → KeptIn [(0, w10.heap.size), (w11.heap.size, w12.heap.size)] [m14, m13, m8, m7, m6, m3_1, m2_1, m1_1] w12 w13 → Calls Try.prog 14 #[Value.agg
    #[Value.int IntKind.i64 x35, Value.int IntKind.i64 x36, Value.slice a4 m15 m16, Value.int IntKind.i64 x37, Value.int IntKind.i64 x38, Value.int IntKind.i64 x39, Value.int
    IntKind.i64 x40], Value.agg #[Value.slice a2 m9 m10, Value.int IntKind.i64 x23, Value.int IntKind.i64 x24, Value.int IntKind.i64 x25, Value.int IntKind.i64 x26, Value.int
    IntKind.i64 x27, Value.int IntKind.i64 x28]] w13 fun (e7 : Ending) (w14 : World) => ∃ (x41 : Int), ∃ (x42 : Int), ∃ (x43 : Int), e7 = Ending.returned (Value.tuple #[Value.agg
    #[Value.int IntKind.i64 x41, Value.int IntKind.i64 x42], Value.int IntKind.i64 x43]) ∧ RowKit.Below w13.heap.size w13 w14 ∧ ∀ (m17 : Nat), w10.heap.size ≤ m17 → m17 <
    w13.heap.size ∨ w14.heap.size ≤ m17 → m17 < w11.heap.size ∨ w12.heap.size ≤ m17 → ∀ (w15 : World), RowKit.Below w.heap.size w w15 → KeptIn [(0, w14.heap.size)] [m17, m14, m13,
    m8, m7, m6, m3_1, m2_1, m1_1] w14 w15 → Calls Try.prog 13 #[Value.agg #[Value.int IntKind.i64 x1, Value.int IntKind.i64 x2, Value.slice a1 m4 m5, Value.int IntKind.i64 x3,
    Value.int IntKind.i64 x4, Value.int IntKind.i64 x5, Value.int IntKind.i64 x6]] w15 fun (e8 : Ending) (w16 : World) => ∃ (x44 : Int), ∃ (x45 : Int), ∃ (a5 : Option Addr), ∃ (m18
    : Nat), ∃ (m19 : Nat), ∃ (x46 : Int), ∃ (x47 : Int), ∃ (x48 : Int), ∃ (x49 : Int), e8 = Ending.returned (Value.agg #[Value.int IntKind.i64 x44, Value.int IntKind.i64 x45,
    Value.slice a5 m18 m19, Value.int IntKind.i64 x46, Value.int IntKind.i64 x47, Value.int IntKind.i64 x48, Value.int IntKind.i64 x49]) ∧ RowKit.Below w15.heap.size w15 w16 ∧ ∀
    (w17 : World), RowKit.Below w.heap.size w w17 → KeptIn [(0, w14.heap.size), (w15.heap.size, w16.heap.size)] [m17, m14, m13, m8, m7, m6, m3_1, m2_1, m1_1] w16 w17 → Calls
    Try.prog 14 #[Value.agg #[Value.int IntKind.i64 x44, Value.int IntKind.i64 x45, Value.slice a5 m18 m19, Value.int IntKind.i64 x46, Value.int IntKind.i64 x47, Value.int
    IntKind.i64 x48, Value.int IntKind.i64 x49], Value.agg #[Value.slice a2 m9 m10, Value.int IntKind.i64 x23, Value.int IntKind.i64 x24, Value.int IntKind.i64 x31, Value.int
    IntKind.i64 x32, Value.int IntKind.i64 x33, Value.int IntKind.i64 x34]] w17 fun (e9 : Ending) (w18 : World) => ∃ (x50 : Int), ∃ (x51 : Int), ∃ (x52 : Int), e9 = Ending.returned
    (Value.tuple #[Value.agg #[Value.int IntKind.i64 x50, Value.int IntKind.i64 x51], Value.int IntKind.i64 x52]) ∧ RowKit.Below w17.heap.size w17 w18 ∧ ∀ (m20 : Nat),
    w14.heap.size ≤ m20 → m20 < w17.heap.size ∨ w18.heap.size ≤ m20 → m20 < w15.heap.size ∨ w16.heap.size ≤ m20 → ∀ (w19 : World), RowKit.Below w.heap.size w w19 → KeptIn [(0,
    w18.heap.size)] [m20, m17, m14, m13, m8, m7, m6, m3_1, m2_1, m1_1] w18 w19 → Calls Try.prog 13 #[Value.agg #[Value.int IntKind.i64 x1, Value.int IntKind.i64 x2, Value.slice a1
    m4 m5, Value.int IntKind.i64 x3, Value.int IntKind.i64 x4, Value.int IntKind.i64 x5, Value.int IntKind.i64 x6]] w19 fun (e10 : Ending) (w20 : World) => ∃ (x53 : Int), ∃ (x54 :
    Int), ∃ (a6 : Option Addr), ∃ (m21 : Nat), ∃ (m22 : Nat), ∃ (x55 : Int), ∃ (x56 : Int), ∃ (x57 : Int), ∃ (x58 : Int), e10 = Ending.returned (Value.agg #[Value.int IntKind.i64
    x53, Value.int IntKind.i64 x54, Value.slice a6 m21 m22, Value.int IntKind.i64 x55, Value.int IntKind.i64 x56, Value.int IntKind.i64 x57, Value.int IntKind.i64 x58]) ∧
    RowKit.Below w19.heap.size w19 w20 ∧ ∀ (w21 : World), RowKit.Below w.heap.size w w21 → KeptIn [(0, w18.heap.size), (w19.heap.size, w20.heap.size)] [m20, m17, m14, m13, m8, m7,
    m6, m3_1, m2_1, m1_1] w20 w21 → Calls Try.prog 29 #[Value.agg #[Value.int IntKind.i64 x53, Value.int IntKind.i64 x54, Value.slice a6 m21 m22, Value.int IntKind.i64 x55,
    Value.int IntKind.i64 x56, Value.int IntKind.i64 x57, Value.int IntKind.i64 x58], Value.agg #[Value.int IntKind.i64 x7, Value.int IntKind.i64 x8, Value.int IntKind.i64 x9,
    Value.int IntKind.i64 x10, Value.int IntKind.i64 x11, Value.int IntKind.i64 x12, Value.int IntKind.i64 x13, Value.int IntKind.i64 x14], Value.agg #[Value.int IntKind.i64 x15,
    Value.int IntKind.i64 x16, Value.int IntKind.i64 x17, Value.int IntKind.i64 x18, Value.int IntKind.i64 x19, Value.int IntKind.i64 x20, Value.int IntKind.i64 x21, Value.int
    IntKind.i64 x22]] w21 fun (e11 : Ending) (w22 : World) => ∃ (x59 : Int), ∃ (x60 : Int), ∃ (x61 : Int), e11 = Ending.returned (Value.tuple #[Value.agg #[Value.int IntKind.i64
    x59, Value.int IntKind.i64 x60], Value.int IntKind.i64 x61]) ∧ RowKit.Below w21.heap.size w21 w22 ∧ ∀ (m23 : Nat), w18.heap.size ≤ m23 → m23 < w21.heap.size ∨ w22.heap.size ≤
    m23 → m23 < w19.heap.size ∨ w20.heap.size ≤ m23 → ∀ (w23 : World), RowKit.Below w.heap.size w w23 → KeptIn [(0, w22.heap.size)] [m23, m20, m17, m14, m13, m8, m7, m6, m3_1,
    m2_1, m1_1] w22 w23 → Calls Try.prog 13 #[Value.agg #[Value.int IntKind.i64 x1, Value.int IntKind.i64 x2, Value.slice a1 m4 m5, Value.int IntKind.i64 x3, Value.int IntKind.i64
    x4, Value.int IntKind.i64 x5, Value.int IntKind.i64 x6]] w23 fun (e12 : Ending) (w24 : World) => ∃ (x62 : Int), ∃ (x63 : Int), ∃ (a7 : Option Addr), ∃ (m24 : Nat), ∃ (m25 :
    Nat), ∃ (x64 : Int), ∃ (x65 : Int), ∃ (x66 : Int), ∃ (x67 : Int), e12 = Ending.returned (Value.agg #[Value.int IntKind.i64 x62, Value.int IntKind.i64 x63, Value.slice a7 m24
    m25, Value.int IntKind.i64 x64, Value.int IntKind.i64 x65, Value.int IntKind.i64 x66, Value.int IntKind.i64 x67]) ∧ RowKit.Below w23.heap.size w23 w24 ∧ ∀ (w25 : World),
    RowKit.Below w.heap.size w w25 → KeptIn [(0, w22.heap.size), (w23.heap.size, w24.heap.size)] [m23, m20, m17, m14, m13, m8, m7, m6, m3_1, m2_1, m1_1] w24 w25 → Calls Try.prog 29
    #[Value.agg #[Value.int IntKind.i64 x62, Value.int IntKind.i64 x63, Value.slice a7 m24 m25, Value.int IntKind.i64 x64, Value.int IntKind.i64 x65, Value.int IntKind.i64 x66,
    Value.int IntKind.i64 x67], Value.agg #[Value.int IntKind.i64 x15, Value.int IntKind.i64 x16, Value.int IntKind.i64 x17, Value.int IntKind.i64 x18, Value.int IntKind.i64 x19,
    Value.int IntKind.i64 x20, Value.int IntKind.i64 x21, Value.int IntKind.i64 x22], Value.agg #[Value.int IntKind.i64 x7, Value.int IntKind.i64 x8, Value.int IntKind.i64 x9,
    Value.int IntKind.i64 x10, Value.int IntKind.i64 x11, Value.int IntKind.i64 x12, Value.int IntKind.i64 x13, Value.int IntKind.i64 x14]] w25 fun (e13 : Ending) (w26 : World) =>
    ∃ (x68 : Int), ∃ (x69 : Int), ∃ (x70 : Int), e13 = Ending.returned (Value.tuple #[Value.agg #[Value.int IntKind.i64 x68, Value.int IntKind.i64 x69], Value.int IntKind.i64 x70])
    ∧ RowKit.Below w25.heap.size w25 w26 ∧ ∀ (m26 : Nat), w22.heap.size ≤ m26 → m26 < w25.heap.size ∨ w26.heap.size ≤ m26 → m26 < w23.heap.size ∨ w24.heap.size ≤ m26 → (x43 ≠ 0 → ∀
    (w27 : World), RowKit.Below w.heap.size w w27 → Kept [m26, m23, m20, m17, m14, m13, m8, m7, m6, m3_1, m2_1, m1_1] w26 w27 → R (Ending.returned (Value.bool false)) w27) ∧ (x43 =
    0 → (x52 ≠ 0 → ∀ (w28 : World), RowKit.Below w.heap.size w w28 → Kept [m26, m23, m20, m17, m14, m13, m8, m7, m6, m3_1, m2_1, m1_1] w26 w28 → R (Ending.returned (Value.bool
    false)) w28) ∧ (x52 = 0 → (x61 ≠ 0 → ∀ (w29 : World), RowKit.Below w.heap.size w w29 → Kept [m26, m23, m20, m17, m14, m13, m8, m7, m6, m3_1, m2_1, m1_1] w26 w29 → R
    (Ending.returned (Value.bool false)) w29) ∧ (x61 = 0 → (x70 ≠ 0 → ∀ (w30 : World), RowKit.Below w.heap.size w w30 → Kept [m26, m23, m20, m17, m14, m13, m8, m7, m6, m3_1, m2_1,
    m1_1] w26 w30 → R (Ending.returned (Value.bool false)) w30) ∧ (x70 = 0 → (x42 < 1 → ∀ (w31 : World), RowKit.Below w.heap.size w w31 → Kept [m26, m23, m20, m17, m14, m13, m8,
    m7, m6, m3_1, m2_1, m1_1] w26 w31 → R (Ending.returned (Value.bool false)) w31) ∧ (1 ≤ x42 → (x51 < 1 → ∀ (w32 : World), RowKit.Below w.heap.size w w32 → Kept [m26, m23, m20,
    m17, m14, m13, m8, m7, m6, m3_1, m2_1, m1_1] w26 w32 → R (Ending.returned (Value.bool false)) w32) ∧ (1 ≤ x51 → ((-9223372036854775808 : Int) ≤ 0 - x60 ∧ 0 - x60 ≤
    9223372036854775807) ∧ (x68 ≠ 0 - x60 → ∀ (w33 : World), RowKit.Below w.heap.size w w33 → Kept [m26, m23, m20, m17, m14, m13, m8, m7, m6, m3_1, m2_1, m1_1] w26 w33 → R
    (Ending.returned (Value.bool false)) w33) ∧ (x68 = 0 - x60 → ((-9223372036854775808 : Int) ≤ 0 - x59 ∧ 0 - x59 ≤ 9223372036854775807) ∧ (x69 ≠ 0 - x59 → ∀ (w34 : World),
    RowKit.Below w.heap.size w w34 → Kept [m26, m23, m20, m17, m14, m13, m8, m7, m6, m3_1, m2_1, m1_1] w26 w34 → R (Ending.returned (Value.bool false)) w34) ∧ (x69 = 0 - x59 → ∃
    (F1 : List Lf → World → Prop), ∃ (F2 : List Lf → Nat), (∀ (w36 : World), RowKit.Below w.heap.size w w36 → Kept [m26, m23, m20, m17, m14, m13, m8, m7, m6, m3_1, m2_1, m1_1] w26
    w36 → F1 [Lf.int IntKind.i64 0, Lf.int IntKind.i64 0] w36) ∧ ∀ (x71 x72 : Int) (w37 : World), RowKit.Below w.heap.size w w37 → F1 [Lf.int IntKind.i64 x71, Lf.int IntKind.i64
    x72] w37 → (x72 < (↑m4 : Int) → ∃ (m27 : Nat), ∃ (m28 : Nat), a1 = some { block := m27, off := m28 } ∧ (0 ≤ x72 ∧ x72 < (↑m4 : Int)) ∧ ∃ (t1 : Bool), w37.cell?
    { block := m27, off := m28 + x72.toNat * 4 + 3 } = some (Value.bool t1) ∧ (m27 < w.heap.size ∨ m27 ≠ m26 ∧ m27 ≠ m23 ∧ m27 ≠ m20 ∧ m27 ≠ m17 ∧ m27 ≠ m14 ∧ m27 ≠ m13 ∧ m27 ≠ m8
    ∧ m27 ≠ m7 ∧ m27 ≠ m6 ∧ m27 ≠ m3_1 ∧ m27 ≠ m2_1 ∧ m27 ≠ m1_1) ∧ (t1 = true → ∃ (m29 : Nat), ∃ (m30 : Nat), a1 = some { block := m29, off := m30 } ∧ (0 ≤ x72 ∧ x72 < (↑m4 :
    Int)) ∧ ∃ (x73 : Int), w37.cell? { block := m29, off := m30 + x72.toNat * 4 + 0 } = some (Value.int IntKind.i64 x73) ∧ (m29 < w.heap.size ∨ m29 ≠ m26 ∧ m29 ≠ m23 ∧ m29 ≠ m20 ∧
    m29 ≠ m17 ∧ m29 ≠ m14 ∧ m29 ≠ m13 ∧ m29 ≠ m8 ∧ m29 ≠ m7 ∧ m29 ≠ m6 ∧ m29 ≠ m3_1 ∧ m29 ≠ m2_1 ∧ m29 ≠ m1_1) ∧ (-9223372036854775808 ≤ x71 - x73 ∧ x71 - x73 ≤
    9223372036854775807) ∧ (-9223372036854775808 ≤ x72 + 1 ∧ x72 + (1 : Int) ≤ 9223372036854775807) ∧ ∀ (w38 : World), RowKit.Below w.heap.size w w38 → Kept [m26, m23, m20, m17,
    m14, m13, m8, m7, m6, m3_1, m2_1, m1_1] w37 w38 → F1 [Lf.int IntKind.i64 (x71 - x73), Lf.int IntKind.i64 (x72 + 1)] w38 ∧ F2 [Lf.int IntKind.i64 (x71 - x73), Lf.int IntKind.i64
    (x72 + 1)] < F2 [Lf.int IntKind.i64 x71, Lf.int IntKind.i64 x72]) ∧ (t1 = false → ∃ (m31 : Nat), ∃ (m32 : Nat), a1 = some { block := m31, off := m32 } ∧ (0 ≤ x72 ∧ x72 < (↑m4 :
    Int)) ∧ ∃ (x74 : Int), w37.cell? { block := m31, off := m32 + x72.toNat * 4 + 0 } = some (Value.int IntKind.i64 x74) ∧ (m31 < w.heap.size ∨ m31 ≠ m26 ∧ m31 ≠ m23 ∧ m31 ≠ m20 ∧
    m31 ≠ m17 ∧ m31 ≠ m14 ∧ m31 ≠ m13 ∧ m31 ≠ m8 ∧ m31 ≠ m7 ∧ m31 ≠ m6 ∧ m31 ≠ m3_1 ∧ m31 ≠ m2_1 ∧ m31 ≠ m1_1) ∧ (-9223372036854775808 ≤ x71 + x74 ∧ x71 + x74 ≤
    9223372036854775807) ∧ (-9223372036854775808 ≤ x72 + 1 ∧ x72 + (1 : Int) ≤ 9223372036854775807) ∧ ∀ (w39 : World), RowKit.Below w.heap.size w w39 → Kept [m26, m23, m20, m17,
    m14, m13, m8, m7, m6, m3_1, m2_1, m1_1] w37 w39 → F1 [Lf.int IntKind.i64 (x71 + x74), Lf.int IntKind.i64 (x72 + 1)] w39 ∧ F2 [Lf.int IntKind.i64 (x71 + x74), Lf.int IntKind.i64
    (x72 + 1)] < F2 [Lf.int IntKind.i64 x71, Lf.int IntKind.i64 x72])) ∧ ((↑m4 : Int) ≤ x72 → ((-9223372036854775808 : Int) ≤ 10000 * x71 ∧ 10000 * x71 ≤ 9223372036854775807) ∧ x42
    ≠ 0 ∧ ((10000 * x71).tmod x42 ≠ 0 → ∀ (w40 : World), RowKit.Below w.heap.size w w40 → Kept [m26, m23, m20, m17, m14, m13, m8, m7, m6, m3_1, m2_1, m1_1] w37 w40 → R
    (Ending.returned (Value.bool false)) w40) ∧ ((10000 * x71).tmod x42 = 0 → x51 ≠ 0 ∧ ((10000 * x71).tmod x51 ≠ 0 → ∀ (w41 : World), RowKit.Below w.heap.size w w41 → Kept [m26,
    m23, m20, m17, m14, m13, m8, m7, m6, m3_1, m2_1, m1_1] w37 w41 → R (Ending.returned (Value.bool false)) w41) ∧ ((10000 * x71).tmod x51 = 0 → (x51 ≠ 0 ∧ -9223372036854775808 ≤
    (10000 * x71).tdiv x51 ∧ (10000 * x71).tdiv x51 ≤ 9223372036854775807) ∧ (-9223372036854775808 ≤ x50 * (10000 * x71).tdiv x51 ∧ x50 * (10000 * x71).tdiv x51 ≤
    9223372036854775807) ∧ (x42 ≠ 0 ∧ -9223372036854775808 ≤ (10000 * x71).tdiv x42 ∧ (10000 * x71).tdiv x42 ≤ 9223372036854775807) ∧ (-9223372036854775808 ≤ x41 * (10000 *
    x71).tdiv x42 ∧ x41 * (10000 * x71).tdiv x42 ≤ 9223372036854775807) ∧ (-9223372036854775808 ≤ x50 * (10000 * x71).tdiv x51 - x41 * (10000 * x71).tdiv x42 ∧ x50 * (10000 *
    x71).tdiv x51 - x41 * (10000 * x71).tdiv x42 ≤ 9223372036854775807) ∧ (-9223372036854775808 ≤ x59 * (10000 * x71) ∧ x59 * (10000 * x71) ≤ 9223372036854775807) ∧ (x59 * (10000 *
    x71) ≤ x50 * (10000 * x71).tdiv x51 - x41 * (10000 * x71).tdiv x42 → (-9223372036854775808 ≤ x60 * (10000 * x71) ∧ x60 * (10000 * x71) ≤ 9223372036854775807) ∧ (x50 * (10000 *
    x71).tdiv x51 - x41 * (10000 * x71).tdiv x42 ≤ x60 * (10000 * x71) → ∀ (w42 : World), RowKit.Below w.heap.size w w42 → Kept [m26, m23, m20, m17, m14, m13, m8, m7, m6, m3_1,
    m2_1, m1_1] w37 w42 → Calls Try.prog 12 #[] w42 fun (e14 : Ending) (w43 : World) => ∃ (t2 : Bool), e14 = Ending.returned (Value.bool t2) ∧ KeepX true w.heap.size [m26, m23,
    m20, m17, m14, m13, m8, m7, m6, m3_1, m2_1, m1_1] (fun _ => False) w42 w43 ∧ ∀ (w44 : World), RowKit.Below w.heap.size w w44 → Kept [m26, m23, m20, m17, m14, m13, m8, m7, m6,
    m3_1, m2_1, m1_1] w43 w44 → R (Ending.returned (Value.bool t2)) w44) ∧ (x60 * (10000 * x71) < x50 * (10000 * x71).tdiv x51 - x41 * (10000 * x71).tdiv x42 → ∀ (w45 : World),
    RowKit.Below w.heap.size w w45 → Kept [m26, m23, m20, m17, m14, m13, m8, m7, m6, m3_1, m2_1, m1_1] w37 w45 → R (Ending.returned (Value.bool false)) w45)) ∧ (x50 * (10000 *
    x71).tdiv x51 - x41 * (10000 * x71).tdiv x42 < x59 * (10000 * x71) → ∀ (w46 : World), RowKit.Below w.heap.size w w46 → Kept [m26, m23, m20, m17, m14, m13, m8, m7, m6, m3_1,
    m2_1, m1_1] w37 w46 → R (Ending.returned (Value.bool false)) w46))))))))))))) : Calls Try.prog 10 #[Value.agg #[Value.slice m0a m0n m0c, Value.int IntKind.u8 m1, Value.int
    IntKind.i16 m2, Value.int IntKind.u8 m3, Value.int IntKind.u8 m4, Value.int IntKind.u8 m5, Value.int IntKind.u8 m6], Value.agg #[Value.int IntKind.u8 p1w0, Value.int IntKind.u8
    p1w1, Value.int IntKind.u8 p1w2, Value.int IntKind.u8 p1w3, Value.int IntKind.u8 p1w4, Value.int IntKind.u8 p1w5, Value.int IntKind.u8 p1w6, Value.int IntKind.u8 p1w7,
    Value.int IntKind.u8 p1w8, Value.int IntKind.u8 p1w9, Value.int IntKind.u8 p1w10, Value.int IntKind.u8 p1w11, Value.int IntKind.u8 p1w12, Value.int IntKind.u8 p1w13, Value.int
    IntKind.u8 p1w14, Value.int IntKind.u8 p1w15], Value.agg #[Value.slice p2by0a p2by0n p2by0c, Value.slice p2by1a p2by1n p2by1c]] w R := calls_of_vc (pure := true) (wrapAt := [])
    (muts := []) (esc := []) (args := [SV.pv (PV.agg [Lf.sl m0a m0n m0c, Lf.int IntKind.u8 m1, Lf.int IntKind.i16 m2, Lf.int IntKind.u8 m3, Lf.int IntKind.u8 m4, Lf.int IntKind.u8
    m5, Lf.int IntKind.u8 m6]), SV.pv (PV.agg [Lf.int IntKind.u8 p1w0, Lf.int IntKind.u8 p1w1, Lf.int IntKind.u8 p1w2, Lf.int IntKind.u8 p1w3, Lf.int IntKind.u8 p1w4, Lf.int
    IntKind.u8 p1w5, Lf.int IntKind.u8 p1w6, Lf.int IntKind.u8 p1w7, Lf.int IntKind.u8 p1w8, Lf.int IntKind.u8 p1w9, Lf.int IntKind.u8 p1w10, Lf.int IntKind.u8 p1w11, Lf.int
    IntKind.u8 p1w12, Lf.int IntKind.u8 p1w13, Lf.int IntKind.u8 p1w14, Lf.int IntKind.u8 p1w15]), SV.pv (PV.agg [Lf.sl p2by0a p2by0n p2by0c, Lf.sl p2by1a p2by1n p2by1c])]) (vs :=
    [Value.agg #[Value.slice m0a m0n m0c, Value.int IntKind.u8 m1, Value.int IntKind.i16 m2, Value.int IntKind.u8 m3, Value.int IntKind.u8 m4, Value.int IntKind.u8 m5, Value.int
    IntKind.u8 m6], Value.agg #[Value.int IntKind.u8 p1w0, Value.int IntKind.u8 p1w1, Value.int IntKind.u8 p1w2, Value.int IntKind.u8 p1w3, Value.int IntKind.u8 p1w4, Value.int
    IntKind.u8 p1w5, Value.int IntKind.u8 p1w6, Value.int IntKind.u8 p1w7, Value.int IntKind.u8 p1w8, Value.int IntKind.u8 p1w9, Value.int IntKind.u8 p1w10, Value.int IntKind.u8
    p1w11, Value.int IntKind.u8 p1w12, Value.int IntKind.u8 p1w13, Value.int IntKind.u8 p1w14, Value.int IntKind.u8 p1w15], Value.agg #[Value.slice p2by0a p2by0n p2by0c,
    Value.slice p2by1a p2by1n p2by1c]]) Try.func10 rfl rfl rfl (Eq.mp (by kernel_rfl) h) 
set_option maxRecDepth 100000 in
set_option maxHeartbeats 2000000 in
theorem vc11 (m0a : Option Addr) (m0n : Nat) (m0c : Nat) (m1 : Int) (m2 : Int) (m3 : Int) (m4 : Int) (m5 : Int) (m6 : Int) (rod : Int) (other : Int) (w : World) (R : Ending → World
    → Prop) (h : ∀ (m1_1 : Nat), w.heap.size ≤ m1_1 → ∀ (w1 : World), RowKit.Below w.heap.size w w1 → Kept [m1_1] w w1 → Calls Try.prog 33 #[Value.agg #[Value.slice m0a m0n m0c,
    Value.int IntKind.u8 m1, Value.int IntKind.i16 m2, Value.int IntKind.u8 m3, Value.int IntKind.u8 m4, Value.int IntKind.u8 m5, Value.int IntKind.u8 m6]] w1 fun (e1 : Ending) (w2
    : World) => ∃ (x1 : Int), ∃ (x2 : Int), ∃ (a1 : Option Addr), ∃ (m2 : Nat), ∃ (m3 : Nat), ∃ (x3 : Int), ∃ (x4 : Int), ∃ (x5 : Int), ∃ (x6 : Int), e1 = Ending.returned
    (Value.agg #[Value.int IntKind.i64 x1, Value.int IntKind.i64 x2, Value.slice a1 m2 m3, Value.int IntKind.i64 x3, Value.int IntKind.i64 x4, Value.int IntKind.i64 x5, Value.int
    IntKind.i64 x6]) ∧ KeepX true w.heap.size [m1_1] (fun _ => False) w1 w2 ∧ ∀ (m5 : Nat), w2.heap.size ≤ m5 → (-9223372036854775808 ≤ rod ∧ rod ≤ 9223372036854775807) ∧ (↑m2 :
    Int) ≠ 0 ∧ ∀ (w3 : World), RowKit.Below w.heap.size w w3 → Kept [m5, m1_1] w2 w3 → Calls Try.prog 13 #[Value.agg #[Value.int IntKind.i64 x1, Value.int IntKind.i64 x2,
    Value.slice a1 m2 m3, Value.int IntKind.i64 x3, Value.int IntKind.i64 x4, Value.int IntKind.i64 x5, Value.int IntKind.i64 x6]] w3 fun (e2 : Ending) (w4 : World) => ∃ (x7 :
    Int), ∃ (x8 : Int), ∃ (a2 : Option Addr), ∃ (m6 : Nat), ∃ (m7 : Nat), ∃ (x9 : Int), ∃ (x10 : Int), ∃ (x11 : Int), ∃ (x12 : Int), e2 = Ending.returned (Value.agg #[Value.int
    IntKind.i64 x7, Value.int IntKind.i64 x8, Value.slice a2 m6 m7, Value.int IntKind.i64 x9, Value.int IntKind.i64 x10, Value.int IntKind.i64 x11, Value.int IntKind.i64 x12]) ∧
    KeepX true w.heap.size [m5, m1_1] (fun _ => False) w3 w4 ∧ ∀ (w5 : World), RowKit.Below w.heap.size w w5 → Kept [m5, m1_1] w4 w5 → Calls Try.prog 31 #[Value.agg #[Value.int
    IntKind.i64 x7, Value.int IntKind.i64 x8, Value.slice a2 m6 m7, Value.int IntKind.i64 x9, Value.int IntKind.i64 x10, Value.int IntKind.i64 x11, Value.int IntKind.i64 x12],
    Value.int IntKind.i64 (rod.tmod (↑m2 : Int))] w5 fun (e3 : Ending) (w6 : World) => ∃ (x13 : Int), ∃ (x14 : Int), ∃ (x15 : Int), e3 = Ending.returned (Value.tuple #[Value.int
    IntKind.i64 x13, Value.int IntKind.i64 x14, Value.int IntKind.i64 x15]) ∧ KeepX true w.heap.size [m5, m1_1] (fun _ => False) w5 w6 ∧ (x15 ≠ 0 → ∀ (w7 : World), RowKit.Below
    w.heap.size w w7 → Kept [m5, m1_1] w6 w7 → R (Ending.returned (Value.bool false)) w7) ∧ (x15 = 0 → (x13 < 1 → ∀ (w8 : World), RowKit.Below w.heap.size w w8 → Kept [m5, m1_1] w6
    w8 → R (Ending.returned (Value.bool false)) w8) ∧ (1 ≤ x13 → (100000 < x13 → ∀ (w9 : World), RowKit.Below w.heap.size w w9 → Kept [m5, m1_1] w6 w9 → R (Ending.returned
    (Value.bool false)) w9) ∧ (x13 ≤ 100000 → (x14 < 0 → ∀ (w10 : World), RowKit.Below w.heap.size w w10 → Kept [m5, m1_1] w6 w10 → R (Ending.returned (Value.bool false)) w10) ∧ (0
    ≤ x14 → ∀ (w11 : World), RowKit.Below w.heap.size w w11 → Kept [m5, m1_1] w6 w11 → Calls Try.prog 13 #[Value.agg #[Value.int IntKind.i64 x1, Value.int IntKind.i64 x2,
    Value.slice a1 m2 m3, Value.int IntKind.i64 x3, Value.int IntKind.i64 x4, Value.int IntKind.i64 x5, Value.int IntKind.i64 x6]] w11 fun (e4 : Ending) (w12 : World) => ∃ (x16 :
    Int), ∃ (x17 : Int), ∃ (a3 : Option Addr), ∃ (m10 : Nat), ∃ (m11 : Nat), ∃ (x18 : Int), ∃ (x19 : Int), ∃ (x20 : Int), ∃ (x21 : Int), e4 = Ending.returned (Value.agg #[Value.int
    IntKind.i64 x16, Value.int IntKind.i64 x17, Value.slice a3 m10 m11, Value.int IntKind.i64 x18, Value.int IntKind.i64 x19, Value.int IntKind.i64 x20, Value.int IntKind.i64 x21])
    ∧ KeepX true w.heap.size [m5, m1_1] (fun _ => False) w11 w12 ∧ ∀ (m13 : Nat), w12.heap.size ≤ m13 → ∃ (m14 : Nat), ∃ (m15 : Nat), a3 = some { block := m14, off := m15 } ∧ (0 ≤
    rod.tmod (↑m2 : Int) ∧ rod.tmod (↑m2 : Int) < (↑m10 : Int)) ∧ ∀ (w13 : World), RowKit.Below w.heap.size w w13 → Kept [m13, m5, m1_1] w12 w13 → RunsTo Try.prog ((Instr.storeAt 3
    (Value.pointer (some { block := m14, off := m15 + (rod.tmod (↑m2 : Int)).toNat * 4 + 0 })) (Value.int IntKind.i64 x13)) >>= fun _ => pure (Value.tuple #[])) w13 fun (v1 :
    Value) (w14 : World) => KeepX true w.heap.size [m13, m5, m1_1] (fun _ => False) w13 w14 ∧ ∀ (w15 : World), RowKit.Below w.heap.size w w15 → Kept [m13, m5, m1_1] w14 w15 → Calls
    Try.prog 38 #[Value.agg #[Value.int IntKind.i64 x16, Value.int IntKind.i64 x17, Value.slice a3 m10 m11, Value.int IntKind.i64 x18, Value.int IntKind.i64 x19, Value.int
    IntKind.i64 x20, Value.int IntKind.i64 x21]] w15 fun (e5 : Ending) (w16 : World) => ∃ (x22 : Int), ∃ (x23 : Int), e5 = Ending.returned (Value.tuple #[Value.int IntKind.i64 x22,
    Value.int IntKind.i64 x23]) ∧ KeepX true w.heap.size [m13, m5, m1_1] (fun _ => False) w15 w16 ∧ ∀ (w17 : World), RowKit.Below w.heap.size w w17 → Kept [m13, m5, m1_1] w16 w17 →
    Calls Try.prog 13 #[Value.agg #[Value.int IntKind.i64 x16, Value.int IntKind.i64 x17, Value.slice a3 m10 m11, Value.int IntKind.i64 x18, Value.int IntKind.i64 x19, Value.int
    IntKind.i64 x20, Value.int IntKind.i64 x21]] w17 fun (e6 : Ending) (w18 : World) => ∃ (x24 : Int), ∃ (x25 : Int), ∃ (a4 : Option Addr), ∃ (m18 : Nat), ∃ (m19 : Nat), ∃ (x26 :
    Int), ∃ (x27 : Int), ∃ (x28 : Int), ∃ (x29 : Int), e6 = Ending.returned (Value.agg #[Value.int IntKind.i64 x24, Value.int IntKind.i64 x25, Value.slice a4 m18 m19, Value.int
    IntKind.i64 x26, Value.int IntKind.i64 x27, Value.int IntKind.i64 x28, Value.int IntKind.i64 x29]) ∧ KeepX true w.heap.size [m13, m5, m1_1] (fun _ => False) w17 w18 ∧ ∀ (w19 :
    World), RowKit.Below w.heap.size w w19 → Kept [m13, m5, m1_1] w18 w19 → Calls Try.prog 17 #[Value.agg #[Value.int IntKind.i64 x24, Value.int IntKind.i64 x25, Value.slice a4 m18
    m19, Value.int IntKind.i64 x26, Value.int IntKind.i64 x27, Value.int IntKind.i64 x28, Value.int IntKind.i64 x29]] w19 fun (e7 : Ending) (w20 : World) => ∃ (x30 : Int), e7 =
    Ending.returned (Value.int IntKind.i64 x30) ∧ KeepX true w.heap.size [m13, m5, m1_1] (fun _ => False) w19 w20 ∧ (x30 ≠ 0 → ∀ (w21 : World), RowKit.Below w.heap.size w w21 →
    Kept [m13, m5, m1_1] w20 w21 → R (Ending.returned (Value.bool false)) w21) ∧ (x30 = 0 → (x22 ≠ x14 → ∀ (w22 : World), RowKit.Below w.heap.size w w22 → Kept [m13, m5, m1_1] w20
    w22 → R (Ending.returned (Value.bool false)) w22) ∧ (x22 = x14 → ∀ (w23 : World), RowKit.Below w.heap.size w w23 → Kept [m13, m5, m1_1] w20 w23 → Calls Try.prog 13 #[Value.agg
    #[Value.int IntKind.i64 x1, Value.int IntKind.i64 x2, Value.slice a1 m2 m3, Value.int IntKind.i64 x3, Value.int IntKind.i64 x4, Value.int IntKind.i64 x5, Value.int IntKind.i64
    x6]] w23 fun (e8 : Ending) (w24 : World) => ∃ (x31 : Int), ∃ (x32 : Int), ∃ (a5 : Option Addr), ∃ (m22 : Nat), ∃ (m23 : Nat), ∃ (x33 : Int), ∃ (x34 : Int), ∃ (x35 : Int), ∃
    (x36 : Int), e8 = Ending.returned (Value.agg #[Value.int IntKind.i64 x31, Value.int IntKind.i64 x32, Value.slice a5 m22 m23, Value.int IntKind.i64 x33, Value.int IntKind.i64
    x34, Value.int IntKind.i64 x35, Value.int IntKind.i64 x36]) ∧ KeepX true w.heap.size [m13, m5, m1_1] (fun _ => False) w23 w24 ∧ ∀ (m25 : Nat), w24.heap.size ≤ m25 →
    (-9223372036854775808 ≤ x13 - 1 ∧ x13 - (1 : Int) ≤ 9223372036854775807) ∧ (-9223372036854775808 ≤ x13 + 1 ∧ x13 + (1 : Int) ≤ 9223372036854775807) ∧ (-9223372036854775808 ≤
    other ∧ other ≤ 9223372036854775807) ∧ ((-9223372036854775808 : Int) ≤ 1 + other ∧ 1 + other ≤ 9223372036854775807) ∧ ∃ (m26 : Nat), ∃ (m27 : Nat), a1 = some
    { block := m26, off := m27 } ∧ (0 ≤ rod.tmod (↑m2 : Int) ∧ rod.tmod (↑m2 : Int) < (↑m2 : Int)) ∧ ∃ (x37 : Int), w24.cell?
    { block := m26, off := m27 + (rod.tmod (↑m2 : Int)).toNat * 4 + 0 } = some (Value.int IntKind.i64 x37) ∧ (m26 < w.heap.size ∨ m26 ≠ m25 ∧ m26 ≠ m13 ∧ m26 ≠ m5 ∧ m26 ≠ m1_1) ∧ ∃
    (F1 : List Lf → World → Prop), ∃ (F2 : List Lf → Nat), (∀ (w26 : World), RowKit.Below w.heap.size w w26 → Kept [m25, m13, m5, m1_1] w24 w26 → F1 [Lf.bool false, Lf.int
    IntKind.i64 0] w26) ∧ ∀ (t1 : Bool) (x38 : Int) (w27 : World), RowKit.Below w.heap.size w w27 → F1 [Lf.bool t1, Lf.int IntKind.i64 x38] w27 → (x38 < 4 → (0 ≤ x38 ∧ x38 < (↑4 :
    Int)) ∧ ∃ (m28 : Nat), ∃ (m29 : Nat), a5 = some { block := m28, off := m29 } ∧ (0 ≤ rod.tmod (↑m2 : Int) ∧ rod.tmod (↑m2 : Int) < (↑m22 : Int)) ∧ ∀ (w28 : World), RowKit.Below
    w.heap.size w w28 → Kept [m25, m13, m5, m1_1] w27 w28 → RunsTo Try.prog ((Instr.storeAt 3 (Value.pointer (some
    { block := m28, off := m29 + (rod.tmod (↑m2 : Int)).toNat * 4 + 0 })) (Value.int IntKind.i64 (nthI [x13 - 1, x13 + 1, 1 + other, x37] x38))) >>= fun _ => pure (Value.tuple
    #[])) w28 fun (v2 : Value) (w29 : World) => KeepX true w.heap.size [m25, m13, m5, m1_1] (fun _ => False) w28 w29 ∧ ∀ (w30 : World), RowKit.Below w.heap.size w w30 → Kept [m25,
    m13, m5, m1_1] w29 w30 → Calls Try.prog 38 #[Value.agg #[Value.int IntKind.i64 x31, Value.int IntKind.i64 x32, Value.slice a5 m22 m23, Value.int IntKind.i64 x33, Value.int
    IntKind.i64 x34, Value.int IntKind.i64 x35, Value.int IntKind.i64 x36]] w30 fun (e9 : Ending) (w31 : World) => ∃ (x39 : Int), ∃ (x40 : Int), e9 = Ending.returned (Value.tuple
    #[Value.int IntKind.i64 x39, Value.int IntKind.i64 x40]) ∧ KeepX true w.heap.size [m25, m13, m5, m1_1] (fun _ => False) w30 w31 ∧ ∀ (w32 : World), RowKit.Below w.heap.size w
    w32 → Kept [m25, m13, m5, m1_1] w31 w32 → Calls Try.prog 13 #[Value.agg #[Value.int IntKind.i64 x31, Value.int IntKind.i64 x32, Value.slice a5 m22 m23, Value.int IntKind.i64
    x33, Value.int IntKind.i64 x34, Value.int IntKind.i64 x35, Value.int IntKind.i64 x36]] w32 fun (e10 : Ending) (w33 : World) => ∃ (x41 : Int), ∃ (x42 : Int), ∃ (a6 : Option
    Addr), ∃ (m32 : Nat), ∃ (m33 : Nat), ∃ (x43 : Int), ∃ (x44 : Int), ∃ (x45 : Int), ∃ (x46 : Int), e10 = Ending.returned (Value.agg #[Value.int IntKind.i64 x41, Value.int
    IntKind.i64 x42, Value.slice a6 m32 m33, Value.int IntKind.i64 x43, Value.int IntKind.i64 x44, Value.int IntKind.i64 x45, Value.int IntKind.i64 x46]) ∧ KeepX true w.heap.size
    [m25, m13, m5, m1_1] (fun _ => False) w32 w33 ∧ ∀ (w34 : World), RowKit.Below w.heap.size w w34 → Kept [m25, m13, m5, m1_1] w33 w34 → Calls Try.prog 17 #[Value.agg #[Value.int
    IntKind.i64 x41, Value.int IntKind.i64 x42, Value.slice a6 m32 m33, Value.int IntKind.i64 x43, Value.int IntKind.i64 x44, Value.int IntKind.i64 x45, Value.int IntKind.i64 x46]]
    w34 fun (e11 : Ending) (w35 : World) => ∃ (x47 : Int), e11 = Ending.returned (Value.int IntKind.i64 x47) ∧ KeepX true w.heap.size [m25, m13, m5, m1_1] (fun _ => False) w34 w35
    ∧ (x47 = 0 → (x39 < x14 → ∀ (w36 : World), RowKit.Below w.heap.size w w36 → Kept [m25, m13, m5, m1_1] w35 w36 → R (Ending.returned (Value.bool false)) w36) ∧ (x14 ≤ x39 → (x39
    = x14 → (nthI [x13 - 1, x13 + 1, 1 + other, x37] x38 < x13 → ∀ (w37 : World), RowKit.Below w.heap.size w w37 → Kept [m25, m13, m5, m1_1] w35 w37 → R (Ending.returned
    (Value.bool false)) w37) ∧ (x13 ≤ nthI [x13 - 1, x13 + 1, 1 + other, x37] x38 → (-9223372036854775808 ≤ x38 + 1 ∧ x38 + (1 : Int) ≤ 9223372036854775807) ∧ ∀ (w38 : World),
    RowKit.Below w.heap.size w w38 → Kept [m25, m13, m5, m1_1] w35 w38 → F1 [Lf.bool t1, Lf.int IntKind.i64 (x38 + 1)] w38 ∧ F2 [Lf.bool t1, Lf.int IntKind.i64 (x38 + 1)] < F2
    [Lf.bool t1, Lf.int IntKind.i64 x38])) ∧ (x39 ≠ x14 → (-9223372036854775808 ≤ x38 + 1 ∧ x38 + (1 : Int) ≤ 9223372036854775807) ∧ ∀ (w39 : World), RowKit.Below w.heap.size w w39
    → Kept [m25, m13, m5, m1_1] w35 w39 → F1 [Lf.bool t1, Lf.int IntKind.i64 (x38 + 1)] w39 ∧ F2 [Lf.bool t1, Lf.int IntKind.i64 (x38 + 1)] < F2 [Lf.bool t1, Lf.int IntKind.i64
    x38]))) ∧ (x47 ≠ 0 → (-9223372036854775808 ≤ x38 + 1 ∧ x38 + (1 : Int) ≤ 9223372036854775807) ∧ ∀ (w40 : World), RowKit.Below w.heap.size w w40 → Kept [m25, m13, m5, m1_1] w35
    w40 → F1 [Lf.bool t1, Lf.int IntKind.i64 (x38 + 1)] w40 ∧ F2 [Lf.bool t1, Lf.int IntKind.i64 (x38 + 1)] < F2 [Lf.bool t1, Lf.int IntKind.i64 x38])) ∧ (4 ≤ x38 → ∀ (w41 :
    World), RowKit.Below w.heap.size w w41 → Kept [m25, m13, m5, m1_1] w27 w41 → Calls Try.prog 13 #[Value.agg #[Value.int IntKind.i64 x16, Value.int IntKind.i64 x17, Value.slice
    a3 m10 m11, Value.int IntKind.i64 x18, Value.int IntKind.i64 x19, Value.int IntKind.i64 x20, Value.int IntKind.i64 x21]] w41 fun (e12 : Ending) (w42 : World) => ∃ (x48 : Int),
    ∃ (x49 : Int), ∃ (a7 : Option Addr), ∃ (m36 : Nat), ∃ (m37 : Nat), ∃ (x50 : Int), ∃ (x51 : Int), ∃ (x52 : Int), ∃ (x53 : Int), e12 = Ending.returned (Value.agg #[Value.int
    IntKind.i64 x48, Value.int IntKind.i64 x49, Value.slice a7 m36 m37, Value.int IntKind.i64 x50, Value.int IntKind.i64 x51, Value.int IntKind.i64 x52, Value.int IntKind.i64 x53])
    ∧ KeepX true w.heap.size [m25, m13, m5, m1_1] (fun _ => False) w41 w42 ∧ ∀ (w43 : World), RowKit.Below w.heap.size w w43 → Kept [m25, m13, m5, m1_1] w42 w43 → Calls Try.prog 22
    #[Value.agg #[Value.int IntKind.i64 x48, Value.int IntKind.i64 x49, Value.slice a7 m36 m37, Value.int IntKind.i64 x50, Value.int IntKind.i64 x51, Value.int IntKind.i64 x52,
    Value.int IntKind.i64 x53], Value.agg #[Value.int IntKind.i64 (-100), Value.int IntKind.i64 100, Value.int IntKind.i64 0, Value.int IntKind.i64 0, Value.int IntKind.i64 0,
    Value.int IntKind.i64 0, Value.int IntKind.i64 0, Value.int IntKind.i64 0]] w43 fun (e13 : Ending) (w44 : World) => ∃ (x54 : Int), ∃ (x55 : Int), ∃ (x56 : Int), e13 =
    Ending.returned (Value.tuple #[Value.agg #[Value.int IntKind.i64 x54, Value.int IntKind.i64 x55], Value.int IntKind.i64 x56]) ∧ KeepX true w.heap.size [m25, m13, m5, m1_1] (fun
    _ => False) w43 w44 ∧ ∀ (m40 : Nat), w44.heap.size ≤ m40 → ((-9223372036854775808 : Int) ≤ 43200 * x14 ∧ 43200 * x14 ≤ 9223372036854775807) ∧ ((-9223372036854775808 : Int) ≤
    10000 * x23 ∧ 10000 * x23 ≤ 9223372036854775807) ∧ ((-9223372036854775808 : Int) ≤ 43200 * x14 + 10000 * x23 ∧ 43200 * x14 + 10000 * x23 ≤ 9223372036854775807) ∧
    ((-9223372036854775808 : Int) ≤ 43200 * x14 + 10000 * x23 - 1 ∧ 43200 * x14 + 10000 * x23 - (1 : Int) ≤ 9223372036854775807) ∧ ((-9223372036854775808 : Int) ≤ 10000 * x23 ∧
    10000 * x23 ≤ 9223372036854775807) ∧ (10000 * x23 ≠ 0 ∧ -9223372036854775808 ≤ (43200 * x14 + 10000 * x23 - 1).tdiv (10000 * x23) ∧ (43200 * x14 + 10000 * x23 - 1).tdiv (10000
    * x23) ≤ 9223372036854775807) ∧ (x56 = 0 → (-9223372036854775808 ≤ x2 - (43200 * x14 + 10000 * x23 - 1).tdiv (10000 * x23) ∧ x2 - (43200 * x14 + 10000 * x23 - 1).tdiv (10000 *
    x23) ≤ 9223372036854775807) ∧ (-9223372036854775808 ≤ x2 + (43200 * x14 + 10000 * x23 - 1).tdiv (10000 * x23) ∧ x2 + (43200 * x14 + 10000 * x23 - 1).tdiv (10000 * x23) ≤
    9223372036854775807) ∧ ∀ (w45 : World), RowKit.Below w.heap.size w w45 → Kept [m40, m25, m13, m5, m1_1] w44 w45 → RunsTo Try.prog ((eqGuard BinOp.eql 25 (Operand.tmp 148)
    (Operand.tmp 157) (Value.agg #[Value.int IntKind.i64 x54, Value.int IntKind.i64 x55]) (Value.agg #[Value.int IntKind.i64 (x2 - (43200 * x14 + 10000 * x23 - 1).tdiv (10000 *
    x23)), Value.int IntKind.i64 (x2 + (43200 * x14 + 10000 * x23 - 1).tdiv (10000 * x23))])) >>= fun _ => binOp BinOp.eql 25 (Value.agg #[Value.int IntKind.i64 x54, Value.int
    IntKind.i64 x55]) (Value.agg #[Value.int IntKind.i64 (x2 - (43200 * x14 + 10000 * x23 - 1).tdiv (10000 * x23)), Value.int IntKind.i64 (x2 + (43200 * x14 + 10000 * x23 - 1).tdiv
    (10000 * x23))])) w45 fun (v3 : Value) (w46 : World) => ∃ (t2 : Bool), v3 = Value.bool t2 ∧ KeepX true w.heap.size [m40, m25, m13, m5, m1_1] (fun _ => False) w45 w46 ∧ (t2 =
    true → ∀ (w47 : World), RowKit.Below w.heap.size w w47 → Kept [m40, m25, m13, m5, m1_1] w46 w47 → Calls Try.prog 12 #[] w47 fun (e14 : Ending) (w48 : World) => ∃ (t3 : Bool),
    e14 = Ending.returned (Value.bool t3) ∧ KeepX true w.heap.size [m40, m25, m13, m5, m1_1] (fun _ => False) w47 w48 ∧ ∀ (w49 : World), RowKit.Below w.heap.size w w49 → Kept [m40,
    m25, m13, m5, m1_1] w48 w49 → R (Ending.returned (Value.bool t3)) w49) ∧ (t2 = false → ∀ (w50 : World), RowKit.Below w.heap.size w w50 → Kept [m40, m25, m13, m5, m1_1] w46 w50
    → R (Ending.returned (Value.bool false)) w50)) ∧ (x56 ≠ 0 → ∀ (w51 : World), RowKit.Below w.heap.size w w51 → Kept [m40, m25, m13, m5, m1_1] w44 w51 → R (Ending.returned
    (Value.bool false)) w51))))))))) : Calls Try.prog 11 #[Value.agg #[Value.slice m0a m0n m0c, Value.int IntKind.u8 m1, Value.int IntKind.i16 m2, Value.int IntKind.u8 m3,
    Value.int IntKind.u8 m4, Value.int IntKind.u8 m5, Value.int IntKind.u8 m6], Value.int IntKind.u8 rod, Value.int IntKind.u16 other] w R := calls_of_vc (pure := true) (wrapAt :=
    []) (muts := []) (esc := []) (args := [SV.pv (PV.agg [Lf.sl m0a m0n m0c, Lf.int IntKind.u8 m1, Lf.int IntKind.i16 m2, Lf.int IntKind.u8 m3, Lf.int IntKind.u8 m4, Lf.int
    IntKind.u8 m5, Lf.int IntKind.u8 m6]), SV.pv (PV.one (Lf.int IntKind.u8 rod)), SV.pv (PV.one (Lf.int IntKind.u16 other))]) (vs := [Value.agg #[Value.slice m0a m0n m0c,
    Value.int IntKind.u8 m1, Value.int IntKind.i16 m2, Value.int IntKind.u8 m3, Value.int IntKind.u8 m4, Value.int IntKind.u8 m5, Value.int IntKind.u8 m6], Value.int IntKind.u8
    rod, Value.int IntKind.u16 other]) Try.func11 rfl rfl rfl (Eq.mp (by kernel_rfl) h) 
end Go.Proofs
end
section
/- BeatApart. -/
namespace Go.Proofs.R03
open Go.Vc Go.RowKit Go.Proofs

structure ApartOk (S U x y : Sp) (n : Int) : Prop where
  x2 : 1 ≤ x.2
  y2 : 1 ≤ y.2
  u1 : U.1 = 0 - S.2
  u2 : U.2 = 0 - S.1
  bS : Z64 S.1 ∧ Z64 S.2
  mx : n.tmod x.2 = 0
  my : n.tmod y.2 = 0
  dx : Z64 (n.tdiv x.2)
  dy : Z64 (n.tdiv y.2)
  vx : Z64 (x.1 * n.tdiv x.2)
  vy : Z64 (y.1 * n.tdiv y.2)
  sn : Z64 (S.1 * n) ∧ Z64 (S.2 * n)
  lo : S.1 * n ≤ y.1 * n.tdiv y.2 - x.1 * n.tdiv x.2
  hi : y.1 * n.tdiv y.2 - x.1 * n.tdiv x.2 ≤ S.2 * n
theorem apart_ok {p q n : Int} {s : Sp} (hn : 0 < n ∧ n ≤ 1000000000) (hs : -50000000000000000 ≤ s.1 ∧ s.2 ≤ 50000000000000000) (hp : -50000000000000000 ≤ p ∧ p ≤ 50000000000000000) (hq : -50000000000000000 ≤ q ∧ q ≤ 50000000000000000) (h : s.1 ≤ q - p ∧ q - p ≤ s.2) : ApartOk (roundS n s) (roundS n (negS s)) (lowest p n) (lowest q n) n := by
  obtain ⟨⟨s1, s2⟩, s3, s4⟩ := round_spec hn.1 s
  obtain ⟨g, hg, r1, r2, r3⟩ := lowest_spec (n := p) hn.1
  obtain ⟨e, he, x1, x2, x3⟩ := lowest_spec (n := q) hn.1
  have hneg := neg_round n s
  have m1 : ((roundS n s).1 + 1) * n = (roundS n s).1 * n + n := by rw [Int.add_mul, Int.one_mul]
  have m2 : ((roundS n s).2 - 1) * n = (roundS n s).2 * n - n := by rw [Int.sub_mul, Int.one_mul]
  have b1 := bd_of_mul (a := (roundS n s).1) (A := 500000000000000000) hn.1 (by omega)
  have b2 := bd_of_mul (a := (roundS n s).2) (A := 500000000000000000) hn.1 (by omega)
  rw [hneg]
  have d1 : n.tdiv (lowest p n).2 = g := by
    conv => lhs; lhs; rw [r2]
    exact Int.mul_tdiv_cancel_left _ (by omega)
  have d2 : n.tdiv (lowest q n).2 = e := by
    conv => lhs; lhs; rw [x2]
    exact Int.mul_tdiv_cancel_left _ (by omega)
  have t1 : n.tmod (lowest p n).2 = 0 := Int.tmod_eq_zero_of_dvd ⟨g, r2⟩
  have t2 : n.tmod (lowest q n).2 = 0 := Int.tmod_eq_zero_of_dvd ⟨e, x2⟩
  have g1 : g ≤ n := by
    have := Int.mul_le_mul_of_nonneg_right r3 (show 0 ≤ g by omega)
    omega
  have g2 : e ≤ n := by
    have := Int.mul_le_mul_of_nonneg_right x3 (show 0 ≤ e by omega)
    omega
  refine ⟨r3, x3, by unfold negS; simp only; omega, by unfold negS; simp only; omega, ⟨by omega, by omega⟩, t1, t2, by rw [d1]; omega, by rw [d2]; omega, by rw [d1, ← r1]; omega, by rw [d2, ← x1]; omega, ⟨by omega, by omega⟩, ?_, ?_⟩
  · rw [d1, d2, ← r1, ← x1]; omega
  · rw [d1, d2, ← r1, ← x1]; omega
def backT (x y : Tr) : Tr := ⟨x.grow, x.air, x.drive, y.heat, y.press, y.arc, y.force⟩
theorem back_in {c : Clk} {b t : Bn} {x y : Tr} (hx : InK x (newK c b)) (hy : InK y (newK c t)) : InK (backT x y) (newK c t) := ⟨hx.len, hx.grow, hx.air, hx.drive, hy.heat, hy.press, hy.arc, hy.force⟩
theorem parts_in {c : Clk} {b : Bn} {t : Tr} (hk : check c = 0) (hb : OkB b) (ht : InK t (newK c b)) : -30000000000000000 ≤ partsR c t ∧ partsR c t ≤ 30000000000000000 := by
  have hbd := rateK_bd (newK_ok (open_ok hk hb))
  have hm := rate_mem (newK_val hk hb) ht
  simp only [Bd] at hbd
  have e : (newK c b).c = c := rfl
  rw [e] at hm
  omega
theorem apart_law {c : Clk} {b t : Bn} {x y : Tr} (hk : check c = 0) (hb : OkB b) (ht : OkB t) (hx : InK x (newK c b)) (hy : InK y (newK c t)) :
    ApartOk (roundS (10000 * lenC c.rods) (chgS c b t)) (roundS (10000 * lenC c.rods) (chgS c t b)) (lowest (partsR c x) (10000 * lenC c.rods)) (lowest (partsR c (backT x y)) (10000 * lenC c.rods)) (10000 * lenC c.rods) := by
  have hok := newK_ok (open_ok hk hb)
  have hlen : 100 ≤ lenC c.rods ∧ lenC c.rods ≤ 100000 := hok.len
  have hbd := bd_plus (rateK_bd (chgK_ok (open_ok hk hb) (open_ok hk ht))) (bd_by (bd_sq hok.arc) (len_bd hok 4570 (by decide)))
  have hbd : Bd (chgS c b t) (30000000000000000 + 600 * 600 * (4570 * 100000)) := hbd
  have hm := chg_mem hk hb ht hx (back_in hx hy) rfl rfl rfl
  have p1 := parts_in hk hb hx
  have p2 := parts_in hk ht (back_in hx hy)
  rw [chg_back hb ht]
  simp only [Bd] at hbd
  unfold Sub at hm
  exact apart_ok (by omega) (by omega) (by omega) (by omega) (by simp only at hm; omega)

theorem len_small {l : List Rod} (h : l.length ≤ 8) (hr : ∀ r ∈ l, 1 ≤ r.len ∧ r.len ≤ 100000) (k : Nat) : -800000 ≤ lenC (l.take k) ∧ lenC (l.take k) ≤ 800000 := by
  have := len_bound (l := l.take k) fun r h => hr r (List.mem_of_mem_take h)
  rw [List.length_take] at this
  omega
set_option maxRecDepth 100000 in
set_option maxHeartbeats 8000000 in
theorem apart_any {m : Made} {x y : Wx} {l1 l2 : List Int} (hm : OkMade m) (hx : OkWx x) (hy : OkWx y) (h8 : ∀ y ∈ l1, B8 y) (h9 : ∀ y ∈ l2, B8 y) {ra ba da : Option Addr} {rc bc dc : Nat} {w : World} (hc : Cells w ra (mrods m.rods)) (hB : Cells w ba (bytes8 l1)) (hD : Cells w da (bytes8 l2)) :
    Calls Try.prog 10 #[m.v ra rc, .agg #[U8 x.f0, U8 x.f1, U8 x.f2, U8 x.f3, U8 x.w0, U8 x.w1, U8 x.w2, U8 x.w3, U8 y.f0, U8 y.f1, U8 y.f2, U8 y.f3, U8 y.w0, U8 y.w1, U8 y.w2, U8 y.w3], .agg #[.slice ba l1.length bc, .slice da l2.length dc]] w (Pure w (.bool true)) := by
  have hck := clockC_ok hm
  have hbk := boundsW_ok hx
  have hbt := boundsW_ok hy
  have hfew := clockC_few m
  have hop := open_ok hck hbk
  have hop2 := open_ok hck hbt
  have hT := truthOf_in h8 hck hbk
  have hT2 := truthOf_in h9 hck hbt
  have hlens := (newK_ok hop).lens
  have hlen : 100 ≤ lenC (clockC m).rods ∧ lenC (clockC m).rods ≤ 100000 := (newK_ok hop).len
  have hlens : ∀ r ∈ (clockC m).rods, 1 ≤ r.len ∧ r.len ≤ 100000 := hlens
  have hap := apart_law hck hbk hbt hT hT2
  have LC0 : ∀ {a : Option Addr} {n : Nat} {w : World}, Cells w a (rods (clockC m).rods) → Calls Try.prog 29 #[(clockC m).v a n, (boundsW x).v, (boundsW y).v] w (Pure w (.tuple #[spv (roundS (10000 * lenC (clockC m).rods) (chgS (clockC m) (boundsW x) (boundsW y))), I 0])) := fun h => change_ok hop hop2 h
  have LC1 : ∀ {a : Option Addr} {n : Nat} {w : World}, Cells w a (rods (clockC m).rods) → Calls Try.prog 29 #[(clockC m).v a n, (boundsW y).v, (boundsW x).v] w (Pure w (.tuple #[spv (roundS (10000 * lenC (clockC m).rods) (chgS (clockC m) (boundsW y) (boundsW x))), I 0])) := fun h => change_ok hop2 hop h
  have L0 : ∀ {a a2 : Option Addr} {n n2 : Nat} {w : World}, Cells w a (rods (clockC m).rods) → Cells w a2 (ints (truthOf (clockC m) (boundsW x) l1).grow) → Calls Try.prog 14 #[(clockC m).v a n, (truthOf (clockC m) (boundsW x) l1).v a2 n2] w (Pure w (.tuple #[spv (lowest (partsR (clockC m) (truthOf (clockC m) (boundsW x) l1)) (10000 * lenC (clockC m).rods)), I 0])) := fun h k => exact_ok hck hbk hT h k
  have L1 : ∀ {a a2 : Option Addr} {n n2 : Nat} {w : World}, Cells w a (rods (clockC m).rods) → Cells w a2 (ints (truthOf (clockC m) (boundsW x) l1).grow) → Calls Try.prog 14 #[(clockC m).v a n, (backT (truthOf (clockC m) (boundsW x) l1) (truthOf (clockC m) (boundsW y) l2)).v a2 n2] w (Pure w (.tuple #[spv (lowest (partsR (clockC m) (backT (truthOf (clockC m) (boundsW x) l1) (truthOf (clockC m) (boundsW y) l2))) (10000 * lenC (clockC m).rods)), I 0])) := fun h k => exact_ok (t := (backT (truthOf (clockC m) (boundsW x) l1) (truthOf (clockC m) (boundsW y) l2))) hck hbt (back_in hT hT2) h k
  generalize roundS (10000 * lenC (clockC m).rods) (chgS (clockC m) (boundsW x) (boundsW y)) = S at *
  generalize roundS (10000 * lenC (clockC m).rods) (chgS (clockC m) (boundsW y) (boundsW x)) = U at *
  generalize lowest (partsR (clockC m) (truthOf (clockC m) (boundsW x) l1)) (10000 * lenC (clockC m).rods) = q at *
  generalize lowest (partsR (clockC m) (backT (truthOf (clockC m) (boundsW x) l1) (truthOf (clockC m) (boundsW y) l2))) (10000 * lenC (clockC m).rods) = z at *
  obtain ⟨S1, S2⟩ := S
  obtain ⟨U1, U2⟩ := U
  obtain ⟨r1, r2⟩ := q
  obtain ⟨z1', z2'⟩ := z
  simp only [spv] at LC0 LC1 L0 L1
  obtain ⟨q1, q2, q3, q4, ⟨q5, q6⟩, q7, q8, q9, q10, q11, q12, ⟨q13, q14⟩, q15, q16⟩ := hap
  simp only at q1 q2 q3 q4 q5 q6 q7 q8 q9 q10 q11 q12 q13 q14 q15 q16
  refine vc10 _ _ _ _ _ _ _ _ _ _ _ _ _ _ _ _ _ _ _ _ _ _ _ _ _ _ _ _ _ _ _ w _ ?_
  intro m1_1 g_m1_1 m2_1 g_m2_1 m3_1 g_m3_1 w1 hb1 hk1
  have z1 := hk1.size; have o1 := hk1.own
  simp only [List.mem_cons, List.not_mem_nil, or_false, forall_eq_or_imp, forall_eq] at o1
  refine (clock_l m (hc.keep hb1) hm).mono fun e w2 he => ?_
  obtain ⟨a1, n1, rfl, hb2, L⟩ := he
  have z2 := hb2.size
  refine ⟨_, _, _, _, _, _, _, _, _, rfl, hb2, ?_⟩
  intro w3 hb3 hk3
  have z3 := hk3.size; have o3 := hk3.own
  simp only [List.mem_cons, List.not_mem_nil, or_false, forall_eq_or_imp, forall_eq] at o3
  have L_3 := Lies.kio L hk3 (allc (.inl (by omega)) (allc (.inl (by omega)) (allc (.inl (by omega)) all0))) ⟨(w1.heap.size, w2.heap.size), by simp, by simp only; omega, by simp only; omega⟩
  refine Pure.calls (boundsW_any hx w3) fun w4 hb4 => ?_
  have z4 := hb4.size
  have L_4 := L_3.below hb4
  refine ⟨_, _, _, _, _, _, _, _, rfl, hb4, ?_⟩
  intro w5 hb5 hk5
  have z5 := hk5.size; have o5 := hk5.own
  simp only [List.mem_cons, List.not_mem_nil, or_false, forall_eq_or_imp, forall_eq] at o5
  have L_5 := Lies.kio L_4 hk5 (allc (.inl (by omega)) (allc (.inl (by omega)) (allc (.inl (by omega)) all0))) ⟨(w1.heap.size, w2.heap.size), by simp, by simp only; omega, by simp only; omega⟩
  refine Pure.calls (boundsW_any hy w5) fun w6 hb6 => ?_
  have z6 := hb6.size
  have L_6 := L_5.below hb6
  refine ⟨_, _, _, _, _, _, _, _, rfl, hb6, ?_⟩
  intro m6 g_m6 d0_m6 d1_m6 d2_m6 m7 g_m7 d0_m7 d1_m7 d2_m7 m8 g_m8 d0_m8 d1_m8 d2_m8 w7 hb7 hk7
  have z7 := hk7.size; have o7 := hk7.own
  simp only [List.mem_cons, List.not_mem_nil, or_false, forall_eq_or_imp, forall_eq] at o7
  have L_7 := Lies.kio L_6 hk7 (allc d2_m8 (allc d2_m7 (allc d2_m6 (allc (.inl (by omega)) (allc (.inl (by omega)) (allc (.inl (by omega)) all0)))))) ⟨(0, w6.heap.size), by simp, by simp only; omega, by simp only; omega⟩
  refine (truthOf_l (clockC m) (boundsW x) L_7.cells (hB.keep hb7) h8 hck hbk).mono fun e w8 he => ?_
  obtain ⟨ta0, tn0, rfl, hb8, T0⟩ := he
  have z8 := hb8.size
  have L_8 := L_7.below hb8
  refine ⟨_, _, _, _, _, _, _, _, _, rfl, hb8, ?_⟩
  intro w9 hb9 hk9
  have z9 := hk9.size; have o9 := hk9.own
  simp only [List.mem_cons, List.not_mem_nil, or_false, forall_eq_or_imp, forall_eq] at o9
  have L_9 := Lies.kio L_8 hk9 (allc d2_m8 (allc d2_m7 (allc d2_m6 (allc (.inl (by omega)) (allc (.inl (by omega)) (allc (.inl (by omega)) all0)))))) ⟨(0, w6.heap.size), by simp, by simp only; omega, by simp only; omega⟩
  have T0_9 := Lies.kio T0 hk9 (allc (.inl (by omega)) (allc (.inl (by omega)) (allc (.inl (by omega)) (allc (.inl (by omega)) (allc (.inl (by omega)) (allc (.inl (by omega)) all0)))))) ⟨(w7.heap.size, w8.heap.size), by simp, by simp only; omega, by simp only; omega⟩
  refine (truthOf_l (clockC m) (boundsW y) L_9.cells (hD.keep hb9) h9 hck hbt).mono fun e w10 he => ?_
  obtain ⟨ta1, tn1, rfl, hb10, T1⟩ := he
  have z10 := hb10.size
  have L_10 := L_9.below hb10
  have T0_10 := T0_9.below hb10
  refine ⟨_, _, _, _, _, _, _, _, _, rfl, hb10, ?_⟩
  intro m13 g_m13 d0_m13 d1_m13 m14 g_m14 d0_m14 d1_m14 w11 hb11 hk11
  have z11 := hk11.size; have o11 := hk11.own
  simp only [List.mem_cons, List.not_mem_nil, or_false, forall_eq_or_imp, forall_eq] at o11
  have L_11 := Lies.kio L_10 hk11 (allc (.inr (by omega)) (allc (.inr (by omega)) (allc d2_m8 (allc d2_m7 (allc d2_m6 (allc (.inl (by omega)) (allc (.inl (by omega)) (allc (.inl (by omega)) all0)))))))) ⟨(0, w10.heap.size), by simp, by simp only; omega, by simp only; omega⟩
  have T0_11 := Lies.kio T0_10 hk11 (allc d1_m14 (allc d1_m13 (allc (.inl (by omega)) (allc (.inl (by omega)) (allc (.inl (by omega)) (allc (.inl (by omega)) (allc (.inl (by omega)) (allc (.inl (by omega)) all0)))))))) ⟨(0, w10.heap.size), by simp, by simp only; omega, by simp only; omega⟩
  refine (copied_l (clockC m) L_11.cells (by omega)).mono fun e w12 he => ?_
  obtain ⟨c11, n11, rfl, hb12, C11⟩ := he
  have z12 := hb12.size
  have L_12 := L_11.below hb12
  have T0_12 := T0_11.below hb12
  refine ⟨_, _, _, _, _, _, _, _, _, rfl, hb12, ?_⟩
  intro w13 hb13 hk13
  have z13 := hk13.size; have o13 := hk13.own
  simp only [List.mem_cons, List.not_mem_nil, or_false, forall_eq_or_imp, forall_eq] at o13
  have L_13 := Lies.kio L_12 hk13 (allc (.inr (by omega)) (allc (.inr (by omega)) (allc d2_m8 (allc d2_m7 (allc d2_m6 (allc (.inl (by omega)) (allc (.inl (by omega)) (allc (.inl (by omega)) all0)))))))) ⟨(0, w10.heap.size), by simp, by simp only; omega, by simp only; omega⟩
  have T0_13 := Lies.kio T0_12 hk13 (allc d1_m14 (allc d1_m13 (allc (.inl (by omega)) (allc (.inl (by omega)) (allc (.inl (by omega)) (allc (.inl (by omega)) (allc (.inl (by omega)) (allc (.inl (by omega)) all0)))))))) ⟨(0, w10.heap.size), by simp, by simp only; omega, by simp only; omega⟩
  have C11_13 := Lies.kio C11 hk13 (allc (.inl (by omega)) (allc (.inl (by omega)) (allc (.inl (by omega)) (allc (.inl (by omega)) (allc (.inl (by omega)) (allc (.inl (by omega)) (allc (.inl (by omega)) (allc (.inl (by omega)) all0)))))))) ⟨(w11.heap.size, w12.heap.size), by simp, by simp only; omega, by simp only; omega⟩
  refine Pure.calls (L0 C11_13.cells T0_13.cells) fun w14 hb14 => ?_
  have z14 := hb14.size
  have L_14 := L_13.below hb14
  have T0_14 := T0_13.below hb14
  refine ⟨_, _, _, rfl, hb14, ?_⟩
  intro m17 g_m17 d0_m17 d1_m17 w15 hb15 hk15
  have z15 := hk15.size; have o15 := hk15.own
  simp only [List.mem_cons, List.not_mem_nil, or_false, forall_eq_or_imp, forall_eq] at o15
  have L_15 := Lies.kio L_14 hk15 (allc (.inr (by omega)) (allc (.inr (by omega)) (allc (.inr (by omega)) (allc d2_m8 (allc d2_m7 (allc d2_m6 (allc (.inl (by omega)) (allc (.inl (by omega)) (allc (.inl (by omega)) all0))))))))) ⟨(0, w14.heap.size), by simp, by simp only; omega, by simp only; omega⟩
  have T0_15 := Lies.kio T0_14 hk15 (allc (.inr (by omega)) (allc d1_m14 (allc d1_m13 (allc (.inl (by omega)) (allc (.inl (by omega)) (allc (.inl (by omega)) (allc (.inl (by omega)) (allc (.inl (by omega)) (allc (.inl (by omega)) all0))))))))) ⟨(0, w14.heap.size), by simp, by simp only; omega, by simp only; omega⟩
  refine (copied_l (clockC m) L_15.cells (by omega)).mono fun e w16 he => ?_
  obtain ⟨c15, n15, rfl, hb16, C15⟩ := he
  have z16 := hb16.size
  have L_16 := L_15.below hb16
  have T0_16 := T0_15.below hb16
  refine ⟨_, _, _, _, _, _, _, _, _, rfl, hb16, ?_⟩
  intro w17 hb17 hk17
  have z17 := hk17.size; have o17 := hk17.own
  simp only [List.mem_cons, List.not_mem_nil, or_false, forall_eq_or_imp, forall_eq] at o17
  have L_17 := Lies.kio L_16 hk17 (allc (.inr (by omega)) (allc (.inr (by omega)) (allc (.inr (by omega)) (allc d2_m8 (allc d2_m7 (allc d2_m6 (allc (.inl (by omega)) (allc (.inl (by omega)) (allc (.inl (by omega)) all0))))))))) ⟨(0, w14.heap.size), by simp, by simp only; omega, by simp only; omega⟩
  have T0_17 := Lies.kio T0_16 hk17 (allc (.inr (by omega)) (allc d1_m14 (allc d1_m13 (allc (.inl (by omega)) (allc (.inl (by omega)) (allc (.inl (by omega)) (allc (.inl (by omega)) (allc (.inl (by omega)) (allc (.inl (by omega)) all0))))))))) ⟨(0, w14.heap.size), by simp, by simp only; omega, by simp only; omega⟩
  have C15_17 := Lies.kio C15 hk17 (allc (.inl (by omega)) (allc (.inl (by omega)) (allc (.inl (by omega)) (allc (.inl (by omega)) (allc (.inl (by omega)) (allc (.inl (by omega)) (allc (.inl (by omega)) (allc (.inl (by omega)) (allc (.inl (by omega)) all0))))))))) ⟨(w15.heap.size, w16.heap.size), by simp, by simp only; omega, by simp only; omega⟩
  refine Pure.calls (L1 C15_17.cells T0_17.cells) fun w18 hb18 => ?_
  have z18 := hb18.size
  have L_18 := L_17.below hb18
  refine ⟨_, _, _, rfl, hb18, ?_⟩
  intro m20 g_m20 d0_m20 d1_m20 w19 hb19 hk19
  have z19 := hk19.size; have o19 := hk19.own
  simp only [List.mem_cons, List.not_mem_nil, or_false, forall_eq_or_imp, forall_eq] at o19
  have L_19 := Lies.kio L_18 hk19 (allc (.inr (by omega)) (allc (.inr (by omega)) (allc (.inr (by omega)) (allc (.inr (by omega)) (allc d2_m8 (allc d2_m7 (allc d2_m6 (allc (.inl (by omega)) (allc (.inl (by omega)) (allc (.inl (by omega)) all0)))))))))) ⟨(0, w18.heap.size), by simp, by simp only; omega, by simp only; omega⟩
  refine (copied_l (clockC m) L_19.cells (by omega)).mono fun e w20 he => ?_
  obtain ⟨c19, n19, rfl, hb20, C19⟩ := he
  have z20 := hb20.size
  have L_20 := L_19.below hb20
  refine ⟨_, _, _, _, _, _, _, _, _, rfl, hb20, ?_⟩
  intro w21 hb21 hk21
  have z21 := hk21.size; have o21 := hk21.own
  simp only [List.mem_cons, List.not_mem_nil, or_false, forall_eq_or_imp, forall_eq] at o21
  have L_21 := Lies.kio L_20 hk21 (allc (.inr (by omega)) (allc (.inr (by omega)) (allc (.inr (by omega)) (allc (.inr (by omega)) (allc d2_m8 (allc d2_m7 (allc d2_m6 (allc (.inl (by omega)) (allc (.inl (by omega)) (allc (.inl (by omega)) all0)))))))))) ⟨(0, w18.heap.size), by simp, by simp only; omega, by simp only; omega⟩
  have C19_21 := Lies.kio C19 hk21 (allc (.inl (by omega)) (allc (.inl (by omega)) (allc (.inl (by omega)) (allc (.inl (by omega)) (allc (.inl (by omega)) (allc (.inl (by omega)) (allc (.inl (by omega)) (allc (.inl (by omega)) (allc (.inl (by omega)) (allc (.inl (by omega)) all0)))))))))) ⟨(w19.heap.size, w20.heap.size), by simp, by simp only; omega, by simp only; omega⟩
  refine Pure.calls (LC0 C19_21.cells) fun w22 hb22 => ?_
  have z22 := hb22.size
  have L_22 := L_21.below hb22
  refine ⟨_, _, _, rfl, hb22, ?_⟩
  intro m23 g_m23 d0_m23 d1_m23 w23 hb23 hk23
  have z23 := hk23.size; have o23 := hk23.own
  simp only [List.mem_cons, List.not_mem_nil, or_false, forall_eq_or_imp, forall_eq] at o23
  have L_23 := Lies.kio L_22 hk23 (allc (.inr (by omega)) (allc (.inr (by omega)) (allc (.inr (by omega)) (allc (.inr (by omega)) (allc (.inr (by omega)) (allc d2_m8 (allc d2_m7 (allc d2_m6 (allc (.inl (by omega)) (allc (.inl (by omega)) (allc (.inl (by omega)) all0))))))))))) ⟨(0, w22.heap.size), by simp, by simp only; omega, by simp only; omega⟩
  refine (copied_l (clockC m) L_23.cells (by omega)).mono fun e w24 he => ?_
  obtain ⟨c23, n23, rfl, hb24, C23⟩ := he
  have z24 := hb24.size
  have L_24 := L_23.below hb24
  refine ⟨_, _, _, _, _, _, _, _, _, rfl, hb24, ?_⟩
  intro w25 hb25 hk25
  have z25 := hk25.size; have o25 := hk25.own
  simp only [List.mem_cons, List.not_mem_nil, or_false, forall_eq_or_imp, forall_eq] at o25
  have L_25 := Lies.kio L_24 hk25 (allc (.inr (by omega)) (allc (.inr (by omega)) (allc (.inr (by omega)) (allc (.inr (by omega)) (allc (.inr (by omega)) (allc d2_m8 (allc d2_m7 (allc d2_m6 (allc (.inl (by omega)) (allc (.inl (by omega)) (allc (.inl (by omega)) all0))))))))))) ⟨(0, w22.heap.size), by simp, by simp only; omega, by simp only; omega⟩
  have C23_25 := Lies.kio C23 hk25 (allc (.inl (by omega)) (allc (.inl (by omega)) (allc (.inl (by omega)) (allc (.inl (by omega)) (allc (.inl (by omega)) (allc (.inl (by omega)) (allc (.inl (by omega)) (allc (.inl (by omega)) (allc (.inl (by omega)) (allc (.inl (by omega)) (allc (.inl (by omega)) all0))))))))))) ⟨(w23.heap.size, w24.heap.size), by simp, by simp only; omega, by simp only; omega⟩
  refine Pure.calls (LC1 C23_25.cells) fun w26 hb26 => ?_
  have z26 := hb26.size
  have L_26 := L_25.below hb26
  refine ⟨_, _, _, rfl, hb26, ?_⟩
  intro m26 g_m26 d0_m26 d1_m26
  refine ⟨(fun h => absurd h (by first | omega | decide)), ?_⟩
  intro k125
  refine ⟨(fun h => absurd h (by first | omega | decide)), ?_⟩
  intro k127
  refine ⟨(fun h => absurd h (by first | omega | decide)), ?_⟩
  intro k129
  refine ⟨(fun h => absurd h (by first | omega | decide)), ?_⟩
  intro k131
  refine ⟨(fun h => absurd h (by first | omega | decide)), ?_⟩
  intro k133
  refine ⟨(fun h => absurd h (by first | omega | decide)), ?_⟩
  intro k135
  refine ⟨(by omega), (fun h => absurd h (by first | omega | decide)), ?_⟩
  intro k137
  refine ⟨(by omega), (fun h => absurd h (by first | omega | decide)), ?_⟩
  intro k139
  have sd_L : ∀ x ∈ [m26, m23, m20, m17, m14, m13, m8, m7, m6, m3_1, m2_1, m1_1], x < w1.heap.size ∨ w2.heap.size ≤ x := allc (.inr (by omega)) (allc (.inr (by omega)) (allc (.inr (by omega)) (allc (.inr (by omega)) (allc (.inr (by omega)) (allc (.inr (by omega)) (allc d2_m8 (allc d2_m7 (allc d2_m6 (allc (.inl (by omega)) (allc (.inl (by omega)) (allc (.inl (by omega)) all0)))))))))))
  refine ⟨fun ls w' => match ls with | [.int _ l, .int _ i] => 0 ≤ i ∧ i ≤ (clockC m).rods.length ∧ l = lenC ((clockC m).rods.take i.toNat) ∧ Lies [] w1.heap.size w2.heap.size w' a1 (rods (clockC m).rods) | _ => False, fun ls => match ls with | [_, .int _ i] => ((clockC m).rods.length - i).toNat | _ => 0, ?_, ?_⟩
  · intro w36 hb36 hk36
    have z36 := hk36.size; have o36 := hk36.own
    simp only [List.mem_cons, List.not_mem_nil, or_false, forall_eq_or_imp, forall_eq] at o36
    have L_36 := Lies.ko L_26 hk36 (allc (.inr (by omega)) (allc (.inr (by omega)) (allc (.inr (by omega)) (allc (.inr (by omega)) (allc (.inr (by omega)) (allc (.inr (by omega)) (allc d2_m8 (allc d2_m7 (allc d2_m6 (allc (.inl (by omega)) (allc (.inl (by omega)) (allc (.inl (by omega)) all0))))))))))))
    exact ⟨by omega, by omega, rfl, L_36⟩
  clear d0_m6 d1_m6 d2_m6 d0_m7 d1_m7 d2_m7 d0_m8 d1_m8 d2_m8 d0_m13 d1_m13 d0_m14 d1_m14 d0_m17 d1_m17 d0_m20 d1_m20 d0_m23 d1_m23 d0_m26 d1_m26
  rintro l i w37 hb37 ⟨i0, il, rfl, L_37⟩
  have klb := len_small (by omega) hlens i.toNat
  refine ⟨?_, ?_⟩
  · intro hi
    have hix : i.toNat < (clockC m).rods.length := by omega
    obtain ⟨q1, q2, q3, q4⟩ := rods_get (getElem_of_lt hix)
    obtain ⟨b1, o1, e1, nb, hd1⟩ := Lies.get L_37 sd_L q1
    obtain ⟨b4, o4, e4, nb4, hd4⟩ := Lies.get L_37 sd_L q4
    have hr := hlens _ (List.getElem_mem hix)
    have hst := len_take (clockC m).rods hix
    generalize (clockC m).rods[i.toNat] = r at *
    simp only [List.mem_cons, List.not_mem_nil, or_false, not_or] at nb nb4
    refine ⟨b4, o4, e4, ⟨i0, hi⟩, _, cell_at' hd4 (by omega), .inr nb4, fun hu => ⟨b1, o1, e1, ⟨i0, hi⟩, _, cell_at' hd1 (by omega), .inr nb, by omega, by omega, fun w38 hb38 hk38 => ⟨⟨by omega, by omega, ?_, Lies.ko L_37 hk38 sd_L⟩, ?_⟩⟩, fun hu => ⟨b1, o1, e1, ⟨i0, hi⟩, _, cell_at' hd1 (by omega), .inr nb, by omega, by omega, fun w39 hb39 hk39 => ⟨⟨by omega, by omega, ?_, Lies.ko L_37 hk39 sd_L⟩, ?_⟩⟩⟩
    · clear nb nb4; rw [show (i + 1).toNat = i.toNat + 1 by omega, hst, sgn, if_pos hu]; omega
    · clear nb nb4; show (((clockC m).rods.length : Int) - (i + 1)).toNat < (((clockC m).rods.length : Int) - i).toNat
      omega
    · clear nb nb4; rw [show (i + 1).toNat = i.toNat + 1 by omega, hst, sgn, if_neg (by rw [hu]; decide)]; omega
    · clear nb nb4; show (((clockC m).rods.length : Int) - (i + 1)).toNat < (((clockC m).rods.length : Int) - i).toNat
      omega
  · intro hexit
    have hi' : i.toNat = (clockC m).rods.length := by omega
    rw [hi', List.take_length]
    clear klb
    refine ⟨(by omega), (by omega), (fun h => absurd h (by first | omega | decide)), ?_⟩
    intro k172
    refine ⟨(by omega), (fun h => absurd h (by first | omega | decide)), ?_⟩
    intro k174
    refine ⟨(by omega), (by omega), (by omega), (by omega), (by omega), (by omega), ?_, (fun h => absurd h (by first | omega | decide))⟩
    intro k176
    refine ⟨(by omega), ?_, (fun h => absurd h (by first | omega | decide))⟩
    intro k178 w42 hb42 hk42
    have z42 := hk42.size; have o42 := hk42.own
    simp only [List.mem_cons, List.not_mem_nil, or_false, forall_eq_or_imp, forall_eq] at o42
    refine Pure.calls (known_any w42) fun w43 hb43 => ?_
    have z43 := hb43.size
    refine ⟨_, rfl, .all hb43, ?_⟩
    intro w44 hb44 hk44
    have z44 := hk44.size; have o44 := hk44.own
    simp only [List.mem_cons, List.not_mem_nil, or_false, forall_eq_or_imp, forall_eq] at o44
    exact ⟨rfl, hb44⟩
end Go.Proofs.R03
end
section
/- BeatMoves. -/
namespace Go.Proofs.R03
open Go.Vc Go.RowKit Go.Proofs

def stillB (b : Bn) : Bn := { b with force := (0, 0) }
theorem still_ok {b : Bn} (h : OkB b) : OkB (stillB b) := ⟨h.1, h.2.1, h.2.2.1, by show -100 ≤ (0 : Int) ∧ (0 : Int) ≤ 0 ∧ (0 : Int) ≤ 100; decide⟩
structure MovesOk (S V Z r : Sp) (kind turn : Int) : Prop where
  bS : Z64 S.1 ∧ Z64 S.2
  v : V.1 ≤ 0 ∧ 0 ≤ V.2
  br : Z64 r.1 ∧ Z64 r.2 ∧ Z64 (turn * r.2)
  z : kind = 3 → Z.1 = S.1 ∧ Z.2 = S.2
theorem moves_law {c : Clk} {b : Bn} {t : Tr} {turn : Int} (hk : check c = 0) (hb : OkB b) (ht : InK t (newK c b)) (hturn : -32768 ≤ turn ∧ turn ≤ 32767) :
    MovesOk (roundS (10000 * lenC c.rods) (rateK (newK c b))) (roundS (10000 * lenC c.rods) (chgS c b b)) (roundS (10000 * lenC c.rods) (rateK (newK c (stillB b)))) (lowest (partsR c t) (10000 * lenC c.rods)) c.kind turn := by
  have hok := newK_ok (open_ok hk hb)
  have hlen : 100 ≤ lenC c.rods ∧ lenC c.rods ≤ 100000 := hok.len
  have hbd := rateK_bd hok
  have hn : 0 < 10000 * lenC c.rods := by omega
  obtain ⟨⟨s1, s2⟩, s3, s4⟩ := round_spec hn (rateK (newK c b))
  have hm := chg_mem hk hb hb ht ht rfl rfl rfl
  obtain ⟨⟨v1, v2⟩, v3, v4⟩ := round_spec hn (chgS c b b)
  have hp := parts_in hk hb ht
  obtain ⟨g, hg, r1, r2, r3⟩ := lowest_spec (n := partsR c t) hn
  have m1 : ((roundS (10000 * lenC c.rods) (rateK (newK c b))).1 + 1) * (10000 * lenC c.rods) = (roundS (10000 * lenC c.rods) (rateK (newK c b))).1 * (10000 * lenC c.rods) + (10000 * lenC c.rods) := by rw [Int.add_mul, Int.one_mul]
  have m2 : ((roundS (10000 * lenC c.rods) (rateK (newK c b))).2 - 1) * (10000 * lenC c.rods) = (roundS (10000 * lenC c.rods) (rateK (newK c b))).2 * (10000 * lenC c.rods) - (10000 * lenC c.rods) := by rw [Int.sub_mul, Int.one_mul]
  simp only [Bd] at hbd
  have b1 := bd_of_mul (a := (roundS (10000 * lenC c.rods) (rateK (newK c b))).1) (A := 500000000000000000) hn (by omega)
  have b2 := bd_of_mul (a := (roundS (10000 * lenC c.rods) (rateK (newK c b))).2) (A := 500000000000000000) hn (by omega)
  have b3 := bd_of_mul (a := (lowest (partsR c t) (10000 * lenC c.rods)).1) (A := 500000000000000000) hg (by omega)
  have b4 := bd_of_mul (a := (lowest (partsR c t) (10000 * lenC c.rods)).2) (A := 1000000000) hg (by omega)
  have b5 := mul_bd (a := turn) (b := (lowest (partsR c t) (10000 * lenC c.rods)).2) (A := 32768) (B := 1000000000) (by omega) b4
  unfold Sub at hm
  simp only at hm
  refine ⟨⟨by omega, by omega⟩, ⟨?_, ?_⟩, ⟨by omega, by omega, by omega⟩, fun h => ?_⟩
  · have : (roundS (10000 * lenC c.rods) (chgS c b b)).1 * (10000 * lenC c.rods) ≤ 0 * (10000 * lenC c.rods) := by omega
    exact (mul_mono hn).1 this
  · have : 0 * (10000 * lenC c.rods) ≤ (roundS (10000 * lenC c.rods) (chgS c b b)).2 * (10000 * lenC c.rods) := by omega
    exact (mul_mono hn).1 this
  · obtain ⟨_, _, _, _, _, _, hdr⟩ := check_len hk
    have hd : c.drive = (0, 0) := by
      rcases hdr with h1 | h1 | h1
      · omega
      · omega
      · simp only [okS] at h1; exact Prod.ext (by omega) (by omega)
    have z : ∀ f : Sp, byS (0, 0) f = (0, 0) := fun f => by unfold byS; simp
    have e : rateK (newK c (stillB b)) = rateK (newK c b) := by
      unfold rateK baseK
      have e1 : (newK c (stillB b)).drive = (0, 0) := hd
      have e2 : (newK c b).drive = (0, 0) := hd
      rw [e1, e2, z, z]; rfl
    rw [e]; exact ⟨rfl, rfl⟩

set_option maxRecDepth 100000 in
set_option maxHeartbeats 8000000 in
theorem moves_any {m : Made} {x : Wx} {l : List Int} {turn : Int} (hm : OkMade m) (hx : OkWx x) (hturn : -32768 ≤ turn ∧ turn ≤ 32767) (h8 : ∀ y ∈ l, B8 y) {ra ba : Option Addr} {rc bc : Nat} {w : World} (hc : Cells w ra (mrods m.rods)) (hB : Cells w ba (bytes8 l)) :
    Calls Try.prog 9 #[.agg #[.slice ra m.rods.length rc, U8 m.kind, .int .i16 m.base, U8 m.b0, U8 m.b1, U8 m.b2, U8 m.b3, U8 x.f0, U8 x.f1, U8 x.f2, U8 x.f3, U8 x.w0, U8 x.w1, U8 x.w2, U8 x.w3, .slice ba l.length bc, .int .i16 turn]] w (Pure w (.bool true)) := by
  have hck := clockC_ok hm
  have hbk := boundsW_ok hx
  have hfew := clockC_few m
  have hbase := hm.base
  have hbase2 : (clockC m).base = m.base := rfl
  have hck2 : check (turnC (clockC m) turn) = 0 := turn_check hck (by omega)
  have hfew2 : (turnC (clockC m) turn).rods.length ≤ 100000 := Nat.le_trans hfew (by decide)
  have hop := open_ok hck hbk
  have hop2 := open_ok hck2 hbk
  have hop3 := open_ok hck (still_ok hbk)
  have hT := truthOf_in h8 hck hbk
  have hT2 := truthOf_in h8 hck2 hbk
  have hlen : 100 ≤ lenC (clockC m).rods ∧ lenC (clockC m).rods ≤ 100000 := (newK_ok hop).len
  have hmv := moves_law hck hbk hT hturn
  have LR0 : ∀ {a : Option Addr} {n : Nat} {w : World}, Cells w a (rods (clockC m).rods) → Calls Try.prog 22 #[(clockC m).v a n, (boundsW x).v] w (Pure w (.tuple #[spv (roundS (10000 * lenC (clockC m).rods) (rateK (newK (clockC m) (boundsW x)))), I 0])) := fun h => rate_ok hop h
  have LR1 : ∀ {a : Option Addr} {n : Nat} {w : World}, Cells w a (rods (clockC m).rods) → Calls Try.prog 22 #[(turnC (clockC m) turn).v a n, (boundsW x).v] w (Pure w (.tuple #[spv (plusS (roundS (10000 * lenC (clockC m).rods) (rateK (newK (clockC m) (boundsW x)))) (turn, turn)), I 0])) := fun {a} {n} {w} h => by
    have := rate_ok hop2 (c := turnC (clockC m) turn) (rc := n) h
    have e : roundS (10000 * lenC (turnC (clockC m) turn).rods) (rateK (newK (turnC (clockC m) turn) (boundsW x))) = plusS (roundS (10000 * lenC (clockC m).rods) (rateK (newK (clockC m) (boundsW x)))) (turn, turn) := by
      rw [turn_rate (by omega)]
      exact round_turn (n := 10000 * lenC (clockC m).rods) (by omega) _ _
    rw [e] at this; exact this
  have LR2 : ∀ {a : Option Addr} {n : Nat} {w : World}, Cells w a (rods (clockC m).rods) → Calls Try.prog 22 #[(clockC m).v a n, (stillB (boundsW x)).v] w (Pure w (.tuple #[spv (roundS (10000 * lenC (clockC m).rods) (rateK (newK (clockC m) (stillB (boundsW x))))), I 0])) := fun h => rate_ok hop3 h
  have LC0 : ∀ {a : Option Addr} {n : Nat} {w : World}, Cells w a (rods (clockC m).rods) → Calls Try.prog 29 #[(clockC m).v a n, (boundsW x).v, (boundsW x).v] w (Pure w (.tuple #[spv (roundS (10000 * lenC (clockC m).rods) (chgS (clockC m) (boundsW x) (boundsW x))), I 0])) := fun h => change_ok hop hop h
  have LC1 : ∀ {a : Option Addr} {n : Nat} {w : World}, Cells w a (rods (clockC m).rods) → Calls Try.prog 29 #[(turnC (clockC m) turn).v a n, (boundsW x).v, (boundsW x).v] w (Pure w (.tuple #[spv (roundS (10000 * lenC (clockC m).rods) (chgS (clockC m) (boundsW x) (boundsW x))), I 0])) := fun h => change_ok hop2 hop2 (c := turnC (clockC m) turn) h
  have L0 : ∀ {a a2 : Option Addr} {n n2 : Nat} {w : World}, Cells w a (rods (clockC m).rods) → Cells w a2 (ints (truthOf (clockC m) (boundsW x) l).grow) → Calls Try.prog 14 #[(clockC m).v a n, (truthOf (clockC m) (boundsW x) l).v a2 n2] w (Pure w (.tuple #[spv (lowest (partsR (clockC m) (truthOf (clockC m) (boundsW x) l)) (10000 * lenC (clockC m).rods)), I 0])) := fun h k => exact_ok hck hbk hT h k
  have L1 : ∀ {a a2 : Option Addr} {n n2 : Nat} {w : World}, Cells w a (rods (clockC m).rods) → Cells w a2 (ints (truthOf (clockC m) (boundsW x) l).grow) → Calls Try.prog 14 #[(turnC (clockC m) turn).v a n, (truthOf (turnC (clockC m) turn) (boundsW x) l).v a2 n2] w (Pure w (.tuple #[.agg #[I ((lowest (partsR (clockC m) (truthOf (clockC m) (boundsW x) l)) (10000 * lenC (clockC m).rods)).1 + turn * (lowest (partsR (clockC m) (truthOf (clockC m) (boundsW x) l)) (10000 * lenC (clockC m).rods)).2), I (lowest (partsR (clockC m) (truthOf (clockC m) (boundsW x) l)) (10000 * lenC (clockC m).rods)).2], I 0])) := fun {a} {a2} {n} {n2} {w} h k => by
    have := exact_ok (rc := n) (tc := n2) hck2 hbk hT2 (c := turnC (clockC m) turn) h k
    rw [turn_parts] at this
    have e := lowest_turn (p := partsR (clockC m) (truthOf (turnC (clockC m) turn) (boundsW x) l)) (n := 10000 * lenC (clockC m).rods) (by omega) turn
    have e3 : truthOf (turnC (clockC m) turn) (boundsW x) l = truthOf (clockC m) (boundsW x) l := rfl
    have e4 : lenC (turnC (clockC m) turn).rods = lenC (clockC m).rods := rfl
    rw [e3] at e
    rw [e4, e3] at this
    rw [e3]
    simp only [spv] at this
    rw [e.1, e.2] at this
    exact this
  generalize roundS (10000 * lenC (clockC m).rods) (rateK (newK (clockC m) (boundsW x))) = S at *
  generalize roundS (10000 * lenC (clockC m).rods) (chgS (clockC m) (boundsW x) (boundsW x)) = V at *
  generalize roundS (10000 * lenC (clockC m).rods) (rateK (newK (clockC m) (stillB (boundsW x)))) = Z at *
  generalize lowest (partsR (clockC m) (truthOf (clockC m) (boundsW x) l)) (10000 * lenC (clockC m).rods) = q at *
  obtain ⟨S1, S2⟩ := S
  obtain ⟨V1, V2⟩ := V
  obtain ⟨Z1, Z2⟩ := Z
  obtain ⟨r1, r2⟩ := q
  simp only [spv, plusS] at LR0 LR1 LR2 LC0 LC1 L0 L1
  obtain ⟨⟨q1, q2⟩, ⟨q3, q4⟩, ⟨q5, q6, q7⟩, q8⟩ := hmv
  simp only at q1 q2 q3 q4 q5 q6 q7 q8
  refine vc9 _ _ _ _ _ _ _ _ _ _ _ _ _ _ _ _ _ _ _ _ _ w _ ?_
  intro m1 g_m1 w1 hb1 hk1
  have z1 := hk1.size; have o1 := hk1.own
  simp only [List.mem_cons, List.not_mem_nil, or_false, forall_eq_or_imp, forall_eq] at o1
  refine (clock_l m (hc.keep hb1) hm).mono fun e w2 he => ?_
  obtain ⟨a1, n1, rfl, hb2, L⟩ := he
  have z2 := hb2.size
  refine ⟨_, _, _, _, _, _, _, _, _, rfl, hb2, ?_⟩
  intro w3 hb3 hk3
  have z3 := hk3.size; have o3 := hk3.own
  simp only [List.mem_cons, List.not_mem_nil, or_false, forall_eq_or_imp, forall_eq] at o3
  have L_3 := Lies.kio L hk3 (allc (.inl (by omega)) all0) ⟨(w1.heap.size, w2.heap.size), by simp, by simp only; omega, by simp only; omega⟩
  refine Pure.calls (boundsW_any hx w3) fun w4 hb4 => ?_
  have z4 := hb4.size
  have L_4 := L_3.below hb4
  refine ⟨_, _, _, _, _, _, _, _, rfl, hb4, ?_⟩
  intro m4 g_m4 d0_m4 d1_m4 m5 g_m5 d0_m5 d1_m5 w5 hb5 hk5
  have z5 := hk5.size; have o5 := hk5.own
  simp only [List.mem_cons, List.not_mem_nil, or_false, forall_eq_or_imp, forall_eq] at o5
  have L_5 := Lies.ko L_4 hk5 (allc d1_m5 (allc d1_m4 (allc (.inl (by omega)) all0)))
  refine (copied_l (clockC m) L_5.cells (by omega)).mono fun e w6 he => ?_
  obtain ⟨c5, n5, rfl, hb6, C5⟩ := he
  have z6 := hb6.size
  have L_6 := L_5.below hb6
  refine ⟨_, _, _, _, _, _, _, _, _, rfl, .all hb6, ?_⟩
  intro m9 g_m9
  refine ⟨(by omega), (by omega), ?_⟩
  intro w7 hb7 hk7
  have z7 := hk7.size; have o7 := hk7.own
  simp only [List.mem_cons, List.not_mem_nil, or_false, forall_eq_or_imp, forall_eq] at o7
  have L_7 := Lies.kio L_6 hk7 (allc (.inr (by omega)) (allc d1_m5 (allc d1_m4 (allc (.inl (by omega)) all0)))) ⟨(0, w6.heap.size), by simp, by simp only; omega, by simp only; omega⟩
  have C5_7 := Lies.kio C5 hk7 (allc (.inr (by omega)) (allc (.inl (by omega)) (allc (.inl (by omega)) (allc (.inl (by omega)) all0)))) ⟨(0, w6.heap.size), by simp, by simp only; omega, by simp only; omega⟩
  refine (copied_l (clockC m) L_7.cells (by omega)).mono fun e w8 he => ?_
  obtain ⟨c7, n7, rfl, hb8, C7⟩ := he
  have z8 := hb8.size
  have L_8 := L_7.below hb8
  have C5_8 := C5_7.below hb8
  refine ⟨_, _, _, _, _, _, _, _, _, rfl, hb8, ?_⟩
  intro w9 hb9 hk9
  have z9 := hk9.size; have o9 := hk9.own
  simp only [List.mem_cons, List.not_mem_nil, or_false, forall_eq_or_imp, forall_eq] at o9
  have L_9 := Lies.kio L_8 hk9 (allc (.inr (by omega)) (allc d1_m5 (allc d1_m4 (allc (.inl (by omega)) all0)))) ⟨(0, w6.heap.size), by simp, by simp only; omega, by simp only; omega⟩
  have C5_9 := Lies.kio C5_8 hk9 (allc (.inr (by omega)) (allc (.inl (by omega)) (allc (.inl (by omega)) (allc (.inl (by omega)) all0)))) ⟨(0, w6.heap.size), by simp, by simp only; omega, by simp only; omega⟩
  have C7_9 := Lies.kio C7 hk9 (allc (.inl (by omega)) (allc (.inl (by omega)) (allc (.inl (by omega)) (allc (.inl (by omega)) all0)))) ⟨(w7.heap.size, w8.heap.size), by simp, by simp only; omega, by simp only; omega⟩
  refine Pure.calls (LR0 C7_9.cells) fun w10 hb10 => ?_
  have z10 := hb10.size
  have L_10 := L_9.below hb10
  have C5_10 := C5_9.below hb10
  refine ⟨_, _, _, rfl, hb10, ?_⟩
  intro m12 g_m12 d0_m12 d1_m12 w11 hb11 hk11
  have z11 := hk11.size; have o11 := hk11.own
  simp only [List.mem_cons, List.not_mem_nil, or_false, forall_eq_or_imp, forall_eq] at o11
  have L_11 := Lies.kio L_10 hk11 (allc (.inr (by omega)) (allc (.inr (by omega)) (allc d1_m5 (allc d1_m4 (allc (.inl (by omega)) all0))))) ⟨(0, w10.heap.size), by simp, by simp only; omega, by simp only; omega⟩
  have C5_11 := Lies.kio C5_10 hk11 (allc (.inr (by omega)) (allc (.inr (by omega)) (allc (.inl (by omega)) (allc (.inl (by omega)) (allc (.inl (by omega)) all0))))) ⟨(0, w10.heap.size), by simp, by simp only; omega, by simp only; omega⟩
  refine (copied_l (turnC (clockC m) turn) C5_11.cells hfew2).mono fun e w12 he => ?_
  obtain ⟨c11, n11, rfl, hb12, C11⟩ := he
  have z12 := hb12.size
  have L_12 := L_11.below hb12
  have C5_12 := C5_11.below hb12
  refine ⟨_, _, _, _, _, _, _, _, _, rfl, hb12, ?_⟩
  intro w13 hb13 hk13
  have z13 := hk13.size; have o13 := hk13.own
  simp only [List.mem_cons, List.not_mem_nil, or_false, forall_eq_or_imp, forall_eq] at o13
  have L_13 := Lies.kio L_12 hk13 (allc (.inr (by omega)) (allc (.inr (by omega)) (allc d1_m5 (allc d1_m4 (allc (.inl (by omega)) all0))))) ⟨(0, w10.heap.size), by simp, by simp only; omega, by simp only; omega⟩
  have C5_13 := Lies.kio C5_12 hk13 (allc (.inr (by omega)) (allc (.inr (by omega)) (allc (.inl (by omega)) (allc (.inl (by omega)) (allc (.inl (by omega)) all0))))) ⟨(0, w10.heap.size), by simp, by simp only; omega, by simp only; omega⟩
  have C11_13 := Lies.kio C11 hk13 (allc (.inl (by omega)) (allc (.inl (by omega)) (allc (.inl (by omega)) (allc (.inl (by omega)) (allc (.inl (by omega)) all0))))) ⟨(w11.heap.size, w12.heap.size), by simp, by simp only; omega, by simp only; omega⟩
  refine Pure.calls (LR1 C11_13.cells) fun w14 hb14 => ?_
  have z14 := hb14.size
  have L_14 := L_13.below hb14
  have C5_14 := C5_13.below hb14
  refine ⟨_, _, _, rfl, hb14, ?_⟩
  intro m15 g_m15 d0_m15 d1_m15 w15 hb15 hk15
  have z15 := hk15.size; have o15 := hk15.own
  simp only [List.mem_cons, List.not_mem_nil, or_false, forall_eq_or_imp, forall_eq] at o15
  have L_15 := Lies.kio L_14 hk15 (allc (.inr (by omega)) (allc (.inr (by omega)) (allc (.inr (by omega)) (allc d1_m5 (allc d1_m4 (allc (.inl (by omega)) all0)))))) ⟨(0, w14.heap.size), by simp, by simp only; omega, by simp only; omega⟩
  have C5_15 := Lies.kio C5_14 hk15 (allc (.inr (by omega)) (allc (.inr (by omega)) (allc (.inr (by omega)) (allc (.inl (by omega)) (allc (.inl (by omega)) (allc (.inl (by omega)) all0)))))) ⟨(0, w14.heap.size), by simp, by simp only; omega, by simp only; omega⟩
  refine (copied_l (clockC m) L_15.cells (by omega)).mono fun e w16 he => ?_
  obtain ⟨c15, n15, rfl, hb16, C15⟩ := he
  have z16 := hb16.size
  have L_16 := L_15.below hb16
  have C5_16 := C5_15.below hb16
  refine ⟨_, _, _, _, _, _, _, _, _, rfl, hb16, ?_⟩
  intro w17 hb17 hk17
  have z17 := hk17.size; have o17 := hk17.own
  simp only [List.mem_cons, List.not_mem_nil, or_false, forall_eq_or_imp, forall_eq] at o17
  have L_17 := Lies.kio L_16 hk17 (allc (.inr (by omega)) (allc (.inr (by omega)) (allc (.inr (by omega)) (allc d1_m5 (allc d1_m4 (allc (.inl (by omega)) all0)))))) ⟨(0, w14.heap.size), by simp, by simp only; omega, by simp only; omega⟩
  have C5_17 := Lies.kio C5_16 hk17 (allc (.inr (by omega)) (allc (.inr (by omega)) (allc (.inr (by omega)) (allc (.inl (by omega)) (allc (.inl (by omega)) (allc (.inl (by omega)) all0)))))) ⟨(0, w14.heap.size), by simp, by simp only; omega, by simp only; omega⟩
  have C15_17 := Lies.kio C15 hk17 (allc (.inl (by omega)) (allc (.inl (by omega)) (allc (.inl (by omega)) (allc (.inl (by omega)) (allc (.inl (by omega)) (allc (.inl (by omega)) all0)))))) ⟨(w15.heap.size, w16.heap.size), by simp, by simp only; omega, by simp only; omega⟩
  refine Pure.calls (LC0 C15_17.cells) fun w18 hb18 => ?_
  have z18 := hb18.size
  have L_18 := L_17.below hb18
  have C5_18 := C5_17.below hb18
  refine ⟨_, _, _, rfl, hb18, ?_⟩
  intro m18 g_m18 d0_m18 d1_m18 w19 hb19 hk19
  have z19 := hk19.size; have o19 := hk19.own
  simp only [List.mem_cons, List.not_mem_nil, or_false, forall_eq_or_imp, forall_eq] at o19
  have L_19 := Lies.kio L_18 hk19 (allc (.inr (by omega)) (allc (.inr (by omega)) (allc (.inr (by omega)) (allc (.inr (by omega)) (allc d1_m5 (allc d1_m4 (allc (.inl (by omega)) all0))))))) ⟨(0, w18.heap.size), by simp, by simp only; omega, by simp only; omega⟩
  have C5_19 := Lies.kio C5_18 hk19 (allc (.inr (by omega)) (allc (.inr (by omega)) (allc (.inr (by omega)) (allc (.inr (by omega)) (allc (.inl (by omega)) (allc (.inl (by omega)) (allc (.inl (by omega)) all0))))))) ⟨(0, w18.heap.size), by simp, by simp only; omega, by simp only; omega⟩
  refine (copied_l (turnC (clockC m) turn) C5_19.cells hfew2).mono fun e w20 he => ?_
  obtain ⟨c19, n19, rfl, hb20, C19⟩ := he
  have z20 := hb20.size
  have L_20 := L_19.below hb20
  have C5_20 := C5_19.below hb20
  refine ⟨_, _, _, _, _, _, _, _, _, rfl, hb20, ?_⟩
  intro w21 hb21 hk21
  have z21 := hk21.size; have o21 := hk21.own
  simp only [List.mem_cons, List.not_mem_nil, or_false, forall_eq_or_imp, forall_eq] at o21
  have L_21 := Lies.kio L_20 hk21 (allc (.inr (by omega)) (allc (.inr (by omega)) (allc (.inr (by omega)) (allc (.inr (by omega)) (allc d1_m5 (allc d1_m4 (allc (.inl (by omega)) all0))))))) ⟨(0, w18.heap.size), by simp, by simp only; omega, by simp only; omega⟩
  have C5_21 := Lies.kio C5_20 hk21 (allc (.inr (by omega)) (allc (.inr (by omega)) (allc (.inr (by omega)) (allc (.inr (by omega)) (allc (.inl (by omega)) (allc (.inl (by omega)) (allc (.inl (by omega)) all0))))))) ⟨(0, w18.heap.size), by simp, by simp only; omega, by simp only; omega⟩
  have C19_21 := Lies.kio C19 hk21 (allc (.inl (by omega)) (allc (.inl (by omega)) (allc (.inl (by omega)) (allc (.inl (by omega)) (allc (.inl (by omega)) (allc (.inl (by omega)) (allc (.inl (by omega)) all0))))))) ⟨(w19.heap.size, w20.heap.size), by simp, by simp only; omega, by simp only; omega⟩
  refine Pure.calls (LC1 C19_21.cells) fun w22 hb22 => ?_
  have z22 := hb22.size
  have L_22 := L_21.below hb22
  have C5_22 := C5_21.below hb22
  refine ⟨_, _, _, rfl, hb22, ?_⟩
  intro m21 g_m21 d0_m21 d1_m21 w23 hb23 hk23
  have z23 := hk23.size; have o23 := hk23.own
  simp only [List.mem_cons, List.not_mem_nil, or_false, forall_eq_or_imp, forall_eq] at o23
  have L_23 := Lies.kio L_22 hk23 (allc (.inr (by omega)) (allc (.inr (by omega)) (allc (.inr (by omega)) (allc (.inr (by omega)) (allc (.inr (by omega)) (allc d1_m5 (allc d1_m4 (allc (.inl (by omega)) all0)))))))) ⟨(0, w22.heap.size), by simp, by simp only; omega, by simp only; omega⟩
  have C5_23 := Lies.kio C5_22 hk23 (allc (.inr (by omega)) (allc (.inr (by omega)) (allc (.inr (by omega)) (allc (.inr (by omega)) (allc (.inr (by omega)) (allc (.inl (by omega)) (allc (.inl (by omega)) (allc (.inl (by omega)) all0)))))))) ⟨(0, w22.heap.size), by simp, by simp only; omega, by simp only; omega⟩
  refine (copied_l (clockC m) L_23.cells (by omega)).mono fun e w24 he => ?_
  obtain ⟨c23, n23, rfl, hb24, C23⟩ := he
  have z24 := hb24.size
  have L_24 := L_23.below hb24
  have C5_24 := C5_23.below hb24
  refine ⟨_, _, _, _, _, _, _, _, _, rfl, hb24, ?_⟩
  intro w25 hb25 hk25
  have z25 := hk25.size; have o25 := hk25.own
  simp only [List.mem_cons, List.not_mem_nil, or_false, forall_eq_or_imp, forall_eq] at o25
  have L_25 := Lies.kio L_24 hk25 (allc (.inr (by omega)) (allc (.inr (by omega)) (allc (.inr (by omega)) (allc (.inr (by omega)) (allc (.inr (by omega)) (allc d1_m5 (allc d1_m4 (allc (.inl (by omega)) all0)))))))) ⟨(0, w22.heap.size), by simp, by simp only; omega, by simp only; omega⟩
  have C5_25 := Lies.kio C5_24 hk25 (allc (.inr (by omega)) (allc (.inr (by omega)) (allc (.inr (by omega)) (allc (.inr (by omega)) (allc (.inr (by omega)) (allc (.inl (by omega)) (allc (.inl (by omega)) (allc (.inl (by omega)) all0)))))))) ⟨(0, w22.heap.size), by simp, by simp only; omega, by simp only; omega⟩
  have C23_25 := Lies.kio C23 hk25 (allc (.inl (by omega)) (allc (.inl (by omega)) (allc (.inl (by omega)) (allc (.inl (by omega)) (allc (.inl (by omega)) (allc (.inl (by omega)) (allc (.inl (by omega)) (allc (.inl (by omega)) all0)))))))) ⟨(w23.heap.size, w24.heap.size), by simp, by simp only; omega, by simp only; omega⟩
  refine (truthOf_l (clockC m) (boundsW x) L_25.cells (hB.keep hb25) h8 hck hbk).mono fun e w26 he => ?_
  obtain ⟨ta0, tn0, rfl, hb26, T0⟩ := he
  have z26 := hb26.size
  have L_26 := L_25.below hb26
  have C5_26 := C5_25.below hb26
  have C23_26 := C23_25.below hb26
  refine ⟨_, _, _, _, _, _, _, _, _, rfl, hb26, ?_⟩
  intro w27 hb27 hk27
  have z27 := hk27.size; have o27 := hk27.own
  simp only [List.mem_cons, List.not_mem_nil, or_false, forall_eq_or_imp, forall_eq] at o27
  have L_27 := Lies.kio L_26 hk27 (allc (.inr (by omega)) (allc (.inr (by omega)) (allc (.inr (by omega)) (allc (.inr (by omega)) (allc (.inr (by omega)) (allc d1_m5 (allc d1_m4 (allc (.inl (by omega)) all0)))))))) ⟨(0, w22.heap.size), by simp, by simp only; omega, by simp only; omega⟩
  have C5_27 := Lies.kio C5_26 hk27 (allc (.inr (by omega)) (allc (.inr (by omega)) (allc (.inr (by omega)) (allc (.inr (by omega)) (allc (.inr (by omega)) (allc (.inl (by omega)) (allc (.inl (by omega)) (allc (.inl (by omega)) all0)))))))) ⟨(0, w22.heap.size), by simp, by simp only; omega, by simp only; omega⟩
  have C23_27 := Lies.kio C23_26 hk27 (allc (.inl (by omega)) (allc (.inl (by omega)) (allc (.inl (by omega)) (allc (.inl (by omega)) (allc (.inl (by omega)) (allc (.inl (by omega)) (allc (.inl (by omega)) (allc (.inl (by omega)) all0)))))))) ⟨(w23.heap.size, w24.heap.size), by simp, by simp only; omega, by simp only; omega⟩
  have T0_27 := Lies.kio T0 hk27 (allc (.inl (by omega)) (allc (.inl (by omega)) (allc (.inl (by omega)) (allc (.inl (by omega)) (allc (.inl (by omega)) (allc (.inl (by omega)) (allc (.inl (by omega)) (allc (.inl (by omega)) all0)))))))) ⟨(w25.heap.size, w26.heap.size), by simp, by simp only; omega, by simp only; omega⟩
  refine Pure.calls (L0 C23_27.cells T0_27.cells) fun w28 hb28 => ?_
  have z28 := hb28.size
  have L_28 := L_27.below hb28
  have C5_28 := C5_27.below hb28
  refine ⟨_, _, _, rfl, hb28, ?_⟩
  intro m26 g_m26 d0_m26 d1_m26 d2_m26 w29 hb29 hk29
  have z29 := hk29.size; have o29 := hk29.own
  simp only [List.mem_cons, List.not_mem_nil, or_false, forall_eq_or_imp, forall_eq] at o29
  have L_29 := Lies.kio L_28 hk29 (allc (.inr (by omega)) (allc (.inr (by omega)) (allc (.inr (by omega)) (allc (.inr (by omega)) (allc (.inr (by omega)) (allc (.inr (by omega)) (allc d1_m5 (allc d1_m4 (allc (.inl (by omega)) all0))))))))) ⟨(0, w28.heap.size), by simp, by simp only; omega, by simp only; omega⟩
  have C5_29 := Lies.kio C5_28 hk29 (allc (.inr (by omega)) (allc (.inr (by omega)) (allc (.inr (by omega)) (allc (.inr (by omega)) (allc (.inr (by omega)) (allc (.inr (by omega)) (allc (.inl (by omega)) (allc (.inl (by omega)) (allc (.inl (by omega)) all0))))))))) ⟨(0, w28.heap.size), by simp, by simp only; omega, by simp only; omega⟩
  refine (copied_l (turnC (clockC m) turn) C5_29.cells hfew2).mono fun e w30 he => ?_
  obtain ⟨c29, n29, rfl, hb30, C29⟩ := he
  have z30 := hb30.size
  have L_30 := L_29.below hb30
  have C5_30 := C5_29.below hb30
  refine ⟨_, _, _, _, _, _, _, _, _, rfl, hb30, ?_⟩
  intro w31 hb31 hk31
  have z31 := hk31.size; have o31 := hk31.own
  simp only [List.mem_cons, List.not_mem_nil, or_false, forall_eq_or_imp, forall_eq] at o31
  have L_31 := Lies.kio L_30 hk31 (allc (.inr (by omega)) (allc (.inr (by omega)) (allc (.inr (by omega)) (allc (.inr (by omega)) (allc (.inr (by omega)) (allc (.inr (by omega)) (allc d1_m5 (allc d1_m4 (allc (.inl (by omega)) all0))))))))) ⟨(0, w28.heap.size), by simp, by simp only; omega, by simp only; omega⟩
  have C5_31 := Lies.kio C5_30 hk31 (allc (.inr (by omega)) (allc (.inr (by omega)) (allc (.inr (by omega)) (allc (.inr (by omega)) (allc (.inr (by omega)) (allc (.inr (by omega)) (allc (.inl (by omega)) (allc (.inl (by omega)) (allc (.inl (by omega)) all0))))))))) ⟨(0, w28.heap.size), by simp, by simp only; omega, by simp only; omega⟩
  have C29_31 := Lies.kio C29 hk31 (allc (.inl (by omega)) (allc (.inl (by omega)) (allc (.inl (by omega)) (allc (.inl (by omega)) (allc (.inl (by omega)) (allc (.inl (by omega)) (allc (.inl (by omega)) (allc (.inl (by omega)) (allc (.inl (by omega)) all0))))))))) ⟨(w29.heap.size, w30.heap.size), by simp, by simp only; omega, by simp only; omega⟩
  refine (truthOf_l (turnC (clockC m) turn) (boundsW x) C5_31.cells (hB.keep hb31) h8 hck2 hbk).mono fun e w32 he => ?_
  obtain ⟨ta1, tn1, rfl, hb32, T1⟩ := he
  have z32 := hb32.size
  have L_32 := L_31.below hb32
  have C29_32 := C29_31.below hb32
  refine ⟨_, _, _, _, _, _, _, _, _, rfl, hb32, ?_⟩
  intro w33 hb33 hk33
  have z33 := hk33.size; have o33 := hk33.own
  simp only [List.mem_cons, List.not_mem_nil, or_false, forall_eq_or_imp, forall_eq] at o33
  have L_33 := Lies.kio L_32 hk33 (allc (.inr (by omega)) (allc (.inr (by omega)) (allc (.inr (by omega)) (allc (.inr (by omega)) (allc (.inr (by omega)) (allc (.inr (by omega)) (allc d1_m5 (allc d1_m4 (allc (.inl (by omega)) all0))))))))) ⟨(0, w28.heap.size), by simp, by simp only; omega, by simp only; omega⟩
  have C29_33 := Lies.kio C29_32 hk33 (allc (.inl (by omega)) (allc (.inl (by omega)) (allc (.inl (by omega)) (allc (.inl (by omega)) (allc (.inl (by omega)) (allc (.inl (by omega)) (allc (.inl (by omega)) (allc (.inl (by omega)) (allc (.inl (by omega)) all0))))))))) ⟨(w29.heap.size, w30.heap.size), by simp, by simp only; omega, by simp only; omega⟩
  have T1_33 := Lies.kio T1 hk33 (allc (.inl (by omega)) (allc (.inl (by omega)) (allc (.inl (by omega)) (allc (.inl (by omega)) (allc (.inl (by omega)) (allc (.inl (by omega)) (allc (.inl (by omega)) (allc (.inl (by omega)) (allc (.inl (by omega)) all0))))))))) ⟨(w31.heap.size, w32.heap.size), by simp, by simp only; omega, by simp only; omega⟩
  refine Pure.calls (L1 C29_33.cells T1_33.cells) fun w34 hb34 => ?_
  have z34 := hb34.size
  have L_34 := L_33.below hb34
  refine ⟨_, _, _, rfl, hb34, ?_⟩
  intro m31 g_m31 d0_m31 d1_m31 d2_m31
  refine ⟨(fun h => absurd h (by first | omega | decide | simp)), ?_⟩
  intro k186
  refine ⟨(fun h => absurd h (by first | omega | decide | simp)), ?_⟩
  intro k188
  refine ⟨(fun h => absurd h (by first | omega | decide | simp)), ?_⟩
  intro k190
  refine ⟨(fun h => absurd h (by first | omega | decide | simp)), ?_⟩
  intro k192
  refine ⟨(fun h => absurd h (by first | omega | decide | simp)), ?_⟩
  intro k194
  refine ⟨(fun h => absurd h (by first | omega | decide | simp)), ?_⟩
  intro k196
  refine ⟨(by omega), (by omega), (fun h => absurd h (by exact fun h => h rfl)), ?_⟩
  intro k198
  refine ⟨(by omega), (by omega), (fun h => absurd h (by exact fun h => h rfl)), ?_⟩
  intro k200 w43 hb43 hk43
  have z43 := hk43.size; have o43 := hk43.own
  simp only [List.mem_cons, List.not_mem_nil, or_false, forall_eq_or_imp, forall_eq] at o43
  have L_43 := Lies.ko L_34 hk43 (allc (.inr (by omega)) (allc (.inr (by omega)) (allc (.inr (by omega)) (allc (.inr (by omega)) (allc (.inr (by omega)) (allc (.inr (by omega)) (allc (.inr (by omega)) (allc d1_m5 (allc d1_m4 (allc (.inl (by omega)) all0))))))))))
  refine neq_span ?_
  refine ⟨_, rfl, .all (.refl _ _), (fun h => absurd h (by simp)), ?_⟩
  intro k206
  refine ⟨(fun h => absurd h (by first | omega | decide | simp)), ?_⟩
  intro k208
  refine ⟨(fun h => absurd h (by first | omega | decide | simp)), ?_⟩
  intro k210
  refine ⟨(fun h => absurd h (by exact fun h => h rfl)), ?_⟩
  intro k212
  refine ⟨(by omega), (by omega), (by omega), (fun h => absurd h (by exact fun h => h rfl)), ?_⟩
  intro k214 m33 g_m33 w50 hb50 hk50
  have z50 := hk50.size; have o50 := hk50.own
  simp only [List.mem_cons, List.not_mem_nil, or_false, forall_eq_or_imp, forall_eq] at o50
  have L_50 := Lies.kio L_43 hk50 (allc (.inr (by omega)) (allc (.inr (by omega)) (allc (.inr (by omega)) (allc (.inr (by omega)) (allc (.inr (by omega)) (allc (.inr (by omega)) (allc (.inr (by omega)) (allc (.inr (by omega)) (allc d1_m5 (allc d1_m4 (allc (.inl (by omega)) all0))))))))))) ⟨(0, w43.heap.size), by simp, by simp only; omega, by simp only; omega⟩
  refine (copied_l (clockC m) L_50.cells (by omega)).mono fun e w51 he => ?_
  obtain ⟨c50, n50, rfl, hb51, C50⟩ := he
  have z51 := hb51.size
  refine ⟨_, _, _, _, _, _, _, _, _, rfl, hb51, ?_⟩
  intro w52 hb52 hk52
  have z52 := hk52.size; have o52 := hk52.own
  simp only [List.mem_cons, List.not_mem_nil, or_false, forall_eq_or_imp, forall_eq] at o52
  have C50_52 := Lies.kio C50 hk52 (allc (.inl (by omega)) (allc (.inl (by omega)) (allc (.inl (by omega)) (allc (.inl (by omega)) (allc (.inl (by omega)) (allc (.inl (by omega)) (allc (.inl (by omega)) (allc (.inl (by omega)) (allc (.inl (by omega)) (allc (.inl (by omega)) (allc (.inl (by omega)) all0))))))))))) ⟨(w50.heap.size, w51.heap.size), by simp, by simp only; omega, by simp only; omega⟩
  refine Pure.calls (LR2 C50_52.cells) fun w53 hb53 => ?_
  have z53 := hb53.size
  refine ⟨_, _, _, rfl, hb53, ?_⟩
  intro m36 g_m36 d0_m36 d1_m36
  refine ⟨?_, (fun h => absurd h (by first | omega | decide | simp))⟩
  intro k231
  refine ⟨?_, ?_⟩
  · intro k233 w54 hb54 hk54
    have z54 := hk54.size; have o54 := hk54.own
    simp only [List.mem_cons, List.not_mem_nil, or_false, forall_eq_or_imp, forall_eq] at o54
    refine Pure.calls (known_any w54) fun w55 hb55 => ?_
    have z55 := hb55.size
    refine ⟨_, rfl, .all hb55, ?_⟩
    intro w56 hb56 hk56
    have z56 := hk56.size; have o56 := hk56.own
    simp only [List.mem_cons, List.not_mem_nil, or_false, forall_eq_or_imp, forall_eq] at o56
    exact ⟨rfl, hb56⟩
  · intro k243 w57 hb57 hk57
    have z57 := hk57.size; have o57 := hk57.own
    simp only [List.mem_cons, List.not_mem_nil, or_false, forall_eq_or_imp, forall_eq] at o57
    refine eql_span ?_
    refine ⟨_, rfl, .all (.refl _ _), ?_, (fun h => absurd h (by obtain ⟨e1, e2⟩ := q8 (by assumption); rw [e1, e2]; simp))⟩
    intro k248 w59 hb59 hk59
    have z59 := hk59.size; have o59 := hk59.own
    simp only [List.mem_cons, List.not_mem_nil, or_false, forall_eq_or_imp, forall_eq] at o59
    refine Pure.calls (known_any w59) fun w60 hb60 => ?_
    have z60 := hb60.size
    refine ⟨_, rfl, .all hb60, ?_⟩
    intro w61 hb61 hk61
    have z61 := hk61.size; have o61 := hk61.own
    simp only [List.mem_cons, List.not_mem_nil, or_false, forall_eq_or_imp, forall_eq] at o61
    exact ⟨rfl, hb61⟩
end Go.Proofs.R03
end
section
/- BeatSteady: plain, and a rod's length that is stored. -/
namespace Go.Proofs.R03
open Go.Vc Go.RowKit Go.Proofs

/-- A block that can be written, and what it holds at first. -/
structure WRow (T : TypeId) (b : Nat) (vs : List Value) (w : World) : Prop where
  obj : ∃ cs, w.heap[b]? = some (.cells cs T (0, 0))
  cells : Cells w (some ⟨b, 0, none⟩) vs
theorem WRow.lt {T : TypeId} {b : Nat} {vs : List Value} {w : World} (h : WRow T b vs w) : b < w.heap.size := by
  obtain ⟨cs, hcs⟩ := h.obj; exact lt_of_some hcs
theorem WRow.chg {T : TypeId} {b : Nat} {vs : List Value} {w w' : World} {S : List Nat} (h : WRow T b vs w) (hc : Chg S w w') (hb : b ∉ S) : WRow T b vs w' := by
  refine ⟨?_, fun i v hv => ?_⟩
  · obtain ⟨cs, hcs⟩ := h.obj; exact ⟨cs, (hc.keep b (lt_of_some hcs) hb).trans hcs⟩
  · obtain ⟨b', o, e, hcell⟩ := h.cells i v hv
    cases e
    exact ⟨b, 0, rfl, hc.cell hb hcell⟩
theorem WRow.below {T : TypeId} {b : Nat} {vs : List Value} {w w' : World} (h : WRow T b vs w) (hb : Below w.heap.size w w') : WRow T b vs w' := h.chg (S := []) (Chg.of_below hb) (by simp)
theorem WRow.row {e : TypeId} {size B : Nat} {a : Option Addr} {n c : Nat} {xs : List Value} {w : World} (h : RowZ e size B [] a n c xs w) (h0 : n ≠ 0) : ∃ g, a = some ⟨g, 0, none⟩ ∧ B ≤ g ∧ WRow e g xs w := by
  obtain ⟨g, rfl, R⟩ := h.at h0
  exact ⟨g, rfl, (R.lt g 0 rfl).1, R.type rfl, R.cells⟩
theorem copied_w (c : Clk) {a : Option Addr} {n : Nat} {w : World} (hc : Cells w a (rods c.rods)) (hn : c.rods.length ≤ 100000) (h0 : c.rods.length ≠ 0) : Calls Try.prog 13 #[c.v a n] w fun e w' => ∃ g n', e = .returned (c.v (some ⟨g, 0, none⟩) n') ∧ Below w.heap.size w w' ∧ w.heap.size ≤ g ∧ WRow 80 g (rods c.rods) w' :=
  (copied_any c hc hn).mono fun _ _ ⟨a', n', h1, h2, h3⟩ => by
    obtain ⟨g, rfl, h4, h5⟩ := WRow.row h3 h0
    exact ⟨g, n', h1, h2, h4, h5⟩
theorem store_len {c : Clk} {b : Nat} {w : World} (h : WRow 80 b (rods c.rods) w) {i : Nat} (hi : i < c.rods.length) (n : Int) {j : Nat} (hj : j = i * 4) {R : Value → World → Prop} (hR : ∀ w', WRow 80 b (rods (cutL c i n)) w' → Chg [b] w w' → R (.tuple #[]) w') :
    RunsTo Try.prog ((Instr.storeAt 3 (.pointer (some ⟨b, j, none⟩)) (I n)) >>= fun _ => pure (Value.tuple #[])) w R := by
  obtain ⟨cs, hcs⟩ := h.obj
  obtain ⟨cs, rfl⟩ : ∃ l : List Value, cs = l.toArray := ⟨cs.toList, by simp⟩
  have hlen : i * 4 < cs.length := by
    have h0 : (rods c.rods)[i * 4]? = some (I c.rods[i].len) := (rods_get (getElem_of_lt hi)).1
    have := h.cells.at h0
    rw [Nat.zero_add] at this
    have h1 : cs[i * 4]? = some (I c.rods[i].len) := by simpa [World.cell?, hcs] using this
    exact (List.getElem?_eq_some_iff.1 h1).1
  subst hj
  refine obj_store (cs := cs) (vs := [I n]) hcs (by kernel_rfl) (by kernel_rfl) (by show i * 4 + 1 ≤ _; omega) rfl (by simp <;> exact trivial) fun w4 hh4 c4 => ?_
  have hc4 := cells_store hcs hh4 hlen h.cells
  rw [← rods_cut c hi n] at hc4
  exact hR w4 ⟨⟨_, hh4⟩, hc4⟩ c4

theorem cut_cut (c : Clk) (i : Nat) (n k : Int) (hi : i < c.rods.length) : cutL (cutC c i n) i k = cutL c i k := by
  unfold cutL cutC rodAt
  simp only [List.set_set, cutL, rodAt]
  rw [List.getElem?_set_self hi]
  simp
theorem cut_self {c : Clk} {i : Nat} (hi : i < c.rods.length) : cutL c i c.rods[i].len = c.rods := by
  unfold cutL rodAt
  rw [getElem_of_lt hi]
  exact List.set_getElem_self hi
theorem cut_mem {c : Clk} {i : Nat} {n : Int} {r : Rod} (hr : r ∈ cutL c i n) (hi : i < c.rods.length) : r ∈ c.rods ∨ r = ⟨n, c.rods[i].lo, c.rods[i].hi, c.rods[i].up⟩ := by
  unfold cutL rodAt at hr
  rw [getElem_of_lt hi] at hr
  exact List.mem_or_eq_of_mem_set hr
theorem check_cut {c : Clk} (hk : check c = 0) {i : Nat} (hi : i < c.rods.length) (n : Int) : check (cutC c i n) = 0 ↔ (1 ≤ n ∧ n ≤ 100000) ∧ LenOk (cutL c i n) := by
  obtain ⟨h1, h2, h3, h4, h5, h6, h7⟩ := check_len hk
  have hl := cutL_len c i n
  have hmem : (⟨n, c.rods[i].lo, c.rods[i].hi, c.rods[i].up⟩ : Rod) ∈ cutL c i n := by
    unfold cutL rodAt
    rw [getElem_of_lt hi]
    exact List.mem_set hi _
  constructor
  · intro h
    obtain ⟨g1, g2, g3, g4, _⟩ := check_len h
    exact ⟨(g3 _ hmem).1, g4⟩
  · rintro ⟨g1, g2⟩
    unfold check
    rw [if_neg (by show ¬8 < (cutL c i n).length; omega), if_pos]
    refine ⟨fun e => ?_, fun r hr => ?_, g2, h5, h6, h7⟩
    · have := congrArg List.length e
      rw [show (cutC c i n).rods.length = c.rods.length from hl] at this
      simp at this; exact h2 this
    · rcases cut_mem hr hi with hr | rfl
      · exact h3 r hr
      · exact ⟨g1, (h3 _ (List.getElem_mem hi)).2⟩
theorem check_two {c : Clk} (h : check c ≠ 0) (hl : c.rods.length ≤ 8) : check c = 2 := by
  unfold check at *
  rw [if_neg (by omega)] at *
  split <;> simp_all

def hotB : Bn := ⟨(-100, 100), (0, 0), (0, 0), (0, 0)⟩
theorem hotB_ok : OkB hotB := by unfold OkB hotB okS; decide
theorem zero_by (s : Sp) : byS s (0, 0) = (0, 0) := by unfold byS; simp
theorem eff_nonneg {c : Clk} (hk : check c = 0) {i : Nat} (hi : i < c.rods.length) {n : Int} (hn : 0 ≤ n) : 0 ≤ effC c i n := by
  rw [effC_L hk hi hn]
  have h1 := cut_spans hk hi hn
  have h2 : (sumK (newK (cutC c i n) zeroB)).1 ≤ (sumK (newK (cutC c i n) zeroB)).2 := sumN_le _
  rw [sumK_new (c := cutC c i n) (b := zeroB) h1] at h2
  have h2 : sumF loC (cutL c i n) ≤ sumF hiC (cutL c i n) := h2
  unfold effL; omega
theorem hot_rate {c : Clk} {E : Int} (hk : check c = 0) (hE : effL c.rods = E) : rateK (newK c hotB) = (c.base * (10000 * lenC c.rods) - 43200 * E, c.base * (10000 * lenC c.rods) + 43200 * E) := by
  obtain ⟨h1, h2, h3, h4, h5, h6, h7⟩ := check_len hk
  have hs := sumK_new (c := c) (b := hotB) fun r hr => ⟨(h3 r hr).2.2.1, by have := (h3 r hr).1; omega⟩
  have hle : (sumK (newK c hotB)).1 ≤ (sumK (newK c hotB)).2 := sumN_le _
  rw [hs] at hle
  simp only at hle
  have e1 : baseK (newK c hotB) = (c.base * (10000 * lenC c.rods), c.base * (10000 * lenC c.rods)) := by
    unfold baseK
    show byS (plusS (plusS (c.base, c.base) (byS c.air (0, 0))) (byS c.drive (0, 0))) (10000 * lenC c.rods, 10000 * lenC c.rods) = _
    rw [zero_by, zero_by, point_plus, point_plus, point_by]
    simp only [Int.add_zero]
  have e2 : arcK (newK c hotB) = (0, 0) := by
    unfold arcK
    show byS (sqS (0, 0)) (4570 * lenC c.rods, 4570 * lenC c.rods) = _
    rw [sq_one, point_by]; simp
  have e3 : heatK (newK c hotB) = (-(43200 * E), 43200 * E) := by
    unfold heatK
    rw [hs]
    show byS (byS (sumF loC c.rods, sumF hiC c.rods) (-100, 100)) (432, 432) = _
    unfold effL at hE
    unfold byS
    simp only [Prod.mk.injEq]
    omega
  unfold rateK
  rw [e1, e2, e3]
  have hE0 : 0 ≤ E := by unfold effL at hE; omega
  rw [less_eq (s := (_, _)) (t := (-(43200 * E), 43200 * E)) (by simp only; omega), less_eq (by simp)]
  simp only [Prod.mk.injEq]
  omega
theorem hot_round {c : Clk} {E : Int} (hk : check c = 0) (hE : effL c.rods = E) (hE0 : 0 ≤ E) : roundS (10000 * lenC c.rods) (rateK (newK c hotB)) = (c.base - (43200 * E + 10000 * lenC c.rods - 1).tdiv (10000 * lenC c.rods), c.base + (43200 * E + 10000 * lenC c.rods - 1).tdiv (10000 * lenC c.rods)) := by
  obtain ⟨h1, h2, h3, h4, h5, h6, h7⟩ := check_len hk
  rw [hot_rate hk hE]
  generalize hn : 10000 * lenC c.rods = n
  have hn0 : 0 < n := by omega
  rw [Int.tdiv_eq_ediv_of_nonneg (by omega)]
  have key : -(43200 * E) / n = -((43200 * E + n - 1) / n) := by
    refine ediv_of ?_ ?_ hn0
    · have := (floor_spec hn0 (43200 * E + n - 1)).2
      rw [Int.add_mul, Int.one_mul, Int.mul_comm _ n] at this
      rw [Int.mul_neg]; omega
    · have := (floor_spec hn0 (43200 * E + n - 1)).1
      rw [Int.mul_comm _ n] at this
      rw [Int.mul_neg]; omega
  unfold roundS
  simp only [Prod.mk.injEq]
  constructor
  · rw [show c.base * n - 43200 * E = -(43200 * E) + c.base * n by omega, Int.add_mul_ediv_right _ _ (by omega), key]; omega
  · rw [show -(c.base * n + 43200 * E) = -(43200 * E) + (-c.base) * n by rw [Int.neg_mul]; omega, Int.add_mul_ediv_right _ _ (by omega), key]; omega
end Go.Proofs.R03
end
section
/- BeatSteady. -/
namespace Go.Proofs.R03
open Go.Vc Go.RowKit Go.Proofs

theorem nth4 {a b c d : Int} {x : Int} (h : 0 ≤ x ∧ x < 4) : nthI [a, b, c, d] x = a ∨ nthI [a, b, c, d] x = b ∨ nthI [a, b, c, d] x = c ∨ nthI [a, b, c, d] x = d := by
  have : x = 0 ∨ x = 1 ∨ x = 2 ∨ x = 3 := by omega
  rcases this with rfl | rfl | rfl | rfl
  · exact .inl rfl
  · exact .inr (.inl rfl)
  · exact .inr (.inr (.inl rfl))
  · exact .inr (.inr (.inr rfl))
/-- A clock with a rod of another length, as it lies there. -/
def Clk.vl (c : Clk) (a : Option Addr) (k n : Nat) : Value := .agg #[I c.kind, I c.base, .slice a k n, I c.air.1, I c.air.2, I c.drive.1, I c.drive.2]
theorem cut_v (c : Clk) (i : Nat) (n : Int) (a : Option Addr) (k : Nat) : c.vl a c.rods.length k = (cutC c i n).v a k := by
  unfold Clk.v Clk.vl
  rw [show (cutC c i n).rods.length = c.rods.length from cutL_len c i n]; rfl
theorem copied_cut (c : Clk) (i : Nat) (n : Int) {a : Option Addr} {k : Nat} {w : World} (hc : Cells w a (rods (cutL c i n))) (hn : c.rods.length ≤ 100000) : Calls Try.prog 13 #[c.vl a c.rods.length k] w fun e w' => ∃ a' n', e = .returned ((cutC c i n).v a' n') ∧ Below w.heap.size w w' ∧ Lies [] w.heap.size w'.heap.size w' a' (rods (cutL c i n)) := by
  rw [cut_v c i n]
  exact copied_l (cutC c i n) hc (by show (cutL c i n).length ≤ _; rw [cutL_len]; exact hn)
theorem eff_cut_any {c : Clk} (hk : check c = 0) {i : Nat} (hi : i < c.rods.length) {n : Int} (hn : 0 ≤ n ∧ n ≤ 200000) {a : Option Addr} {rc : Nat} {w : World} (hc : Cells w a (rods (cutL c i n))) :
    Calls Try.prog 38 #[c.vl a c.rods.length rc] w (Pure w (.tuple #[I (effC c i n), I (lenC (cutL c i n))])) := by
  rw [cut_v c i n]
  obtain ⟨h1, h2, h3, h4, h5, h6, h7⟩ := check_len hk
  have := effect2_any (cutC c i n) (rc := rc) hc (by show (cutL c i n).length ≤ 8; rw [cutL_len]; exact h1) fun r hr => by
    rcases cut_mem hr hi with hr | rfl
    · have := h3 r hr
      exact ⟨by omega, by omega, by omega⟩
    · have := (h3 _ (List.getElem_mem hi)).2
      simp only [okS] at this
      exact ⟨hn, by simp only; omega, by simp only; omega⟩
  rw [effC_L hk hi hn.1]
  exact this

set_option maxRecDepth 100000 in
set_option maxHeartbeats 8000000 in
theorem steady_any {m : Made} {rod other : Int} (hm : OkMade m) (hr8 : B8 rod) (ho : 0 ≤ other ∧ other ≤ 65535) {ra : Option Addr} {rc : Nat} {w : World} (hc : Cells w ra (mrods m.rods)) :
    Calls Try.prog 11 #[m.v ra rc, U8 rod, .int .u16 other] w (Pure w (.bool true)) := by
  have hck := clockC_ok hm
  have hfew := clockC_few m
  obtain ⟨hl8, hrn, hrod, hlen, hbase, hair, hdr⟩ := check_len hck
  have hpos : 0 < (clockC m).rods.length := by
    rcases Nat.eq_zero_or_pos (clockC m).rods.length with h | h
    · exact absurd (List.length_eq_zero_iff.1 h) hrn
    · exact h
  have hmod := tmod_rng hr8.1 (b := ((clockC m).rods.length : Int)) (by omega)
  refine vc11 _ _ _ _ _ _ _ _ _ _ _ w _ fun m1 h1 w1 hb1 hk1 => ?_
  have z1 := hk1.size
  have o1 : m1 < w1.heap.size := hk1.own m1 (by simp)
  refine (clock_l m (hc.keep hb1) hm).mono fun e w2 he => ?_
  obtain ⟨a1, n1, rfl, hb2, L2⟩ := he
  have z2 := hb2.size
  refine ⟨_, _, _, _, _, _, _, _, _, rfl, .all hb2, fun m5 h5 => ⟨by omega, by omega, fun w3 hb3 hk3 => ?_⟩⟩
  generalize hkk : rod.tmod ((clockC m).rods.length : Int) = k at *
  obtain ⟨i, rfl⟩ : ∃ i : Nat, k = i := ⟨k.toNat, by omega⟩
  have hi : i < (clockC m).rods.length := by omega
  have z3 := hk3.size
  have o3 : m5 < w3.heap.size := hk3.own m5 (by simp)
  have sA : ∀ x ∈ [m5, m1], x < w1.heap.size ∨ w2.heap.size ≤ x := allc (.inr h5) (allc (.inl o1) all0)
  have L3 := Lies.ko L2 hk3 sA
  refine (copied_l (clockC m) L3.cells (by omega)).mono fun e w4 he => ?_
  obtain ⟨a2, n2, rfl, hb4, C4⟩ := he
  have z4 := hb4.size
  refine ⟨_, _, _, _, _, _, _, _, _, rfl, .all hb4, fun w5 hb5 hk5 => ?_⟩
  have z5 := hk5.size
  have C5 := Lies.ko C4 hk5 (allc (.inl o3) (allc (.inl (by omega)) all0))
  have L5 := Lies.ko (L3.below hb4) hk5 sA
  refine (balance_any (clockC m) i C5.cells).mono fun e w6 he => ?_
  obtain ⟨n, worst, err, rfl, hb6, hbal⟩ := he
  have z6 := hb6.size
  have L6 := L5.below hb6
  unfold BalOk at hbal
  rw [if_neg (by simp [hck]), if_pos (by omega)] at hbal
  obtain ⟨hS, rfl, rfl⟩ := hbal
  rw [Int.toNat_natCast] at hS
  simp only [Int.toNat_natCast]
  have hn := hS.bd
  have hnn := eff_nonneg hck hi (n := n) (by omega)
  refine ⟨_, _, _, rfl, .all hb6, fun h => absurd rfl h, fun _ => ⟨fun h => by omega, fun _ => ⟨fun h => by omega, fun _ => ⟨fun h => by omega, fun _ w11 hb11 hk11 => ?_⟩⟩⟩⟩
  have z11 := hk11.size
  have L11 := Lies.ko L6 hk11 sA
  refine (copied_w (clockC m) L11.cells (by omega) (by omega)).mono fun e w12 he => ?_
  obtain ⟨g, n3, rfl, hb12, hg, G12⟩ := he
  have z12 := hb12.size
  have L12 := L11.below hb12
  have hglt := G12.lt
  refine ⟨_, _, _, _, _, _, _, _, _, rfl, .all hb12, fun m13 h13 => ⟨g, 0, rfl, ⟨by omega, by omega⟩, fun w13 hb13 hk13 => ?_⟩⟩
  have z13 := hk13.size
  have o13 : m13 < w13.heap.size := hk13.own m13 (by simp)
  have sB : ∀ x ∈ [m13, m5, m1], x < w1.heap.size ∨ w2.heap.size ≤ x := allc (.inr (by omega)) sA
  have nG : g ∉ [m13, m5, m1] := by simp; omega
  have G13 := G12.chg (Chg.kept hk13) nG
  have L13 := Lies.ko L12 hk13 sB
  refine store_len (c := clockC m) G13 hi n (by omega) fun w14 G14 c14 => ?_
  have z14 := c14.size
  have L14 := L13.out c14 (fun x hx => by rw [List.mem_singleton.1 hx]; omega)
  refine ⟨c14.own (fun x hx => ⟨hk13.own x hx, fun h => by rw [List.mem_singleton.1 h] at hx; exact nG hx⟩) (by simp) (fun _ => ⟨hb13.size, fun x hx => by rw [List.mem_singleton.1 hx]; omega⟩), fun w15 hb15 hk15 => ?_⟩
  have z15 := hk15.size
  have G15 := G14.chg (Chg.kept hk15) nG
  have L15 := Lies.ko L14 hk15 sB
  refine Pure.calls (eff_cut_any hck hi (n := n) (by omega) G15.cells) fun w16 hb16 => ⟨_, _, rfl, .all hb16, fun w17 hb17 hk17 => ?_⟩
  have z16 := hb16.size; have z17 := hk17.size
  have G17 := (G15.below hb16).chg (Chg.kept hk17) nG
  have L17 := Lies.ko (L15.below hb16) hk17 sB
  refine (copied_cut (clockC m) i n G17.cells (by omega)).mono fun e w18 he => ?_
  obtain ⟨a4, n4, rfl, hb18, C18⟩ := he
  have z18 := hb18.size
  refine ⟨_, _, _, _, _, _, _, _, _, rfl, .all hb18, fun w19 hb19 hk19 => ?_⟩
  have z19 := hk19.size
  have C19 := Lies.ko C18 hk19 (allc (.inl (by omega)) (allc (.inl (by omega)) (allc (.inl (by omega)) all0)))
  have G19 := (G17.below hb18).chg (Chg.kept hk19) nG
  have L19 := Lies.ko (L17.below hb18) hk19 sB
  have hckn : check (cutC (clockC m) i n) = 0 := (check_cut hck hi n).2 ⟨hn, hS.ok⟩
  refine Pure.calls (check_ok hckn C19.cells) fun w20 hb20 => ⟨_, rfl, .all hb20, fun h => absurd rfl h, fun _ => ⟨fun h => absurd rfl h, fun _ w23 hb23 hk23 => ?_⟩⟩
  have z20 := hb20.size; have z23 := hk23.size
  have G23 := (G19.below hb20).chg (Chg.kept hk23) nG
  have L23 := Lies.ko (L19.below hb20) hk23 sB
  refine (copied_w (clockC m) L23.cells (by omega) (by omega)).mono fun e w24 he => ?_
  obtain ⟨d, n5, rfl, hb24, hd, D24⟩ := he
  have z24 := hb24.size
  have L24 := L23.below hb24
  have G24 := G23.below hb24
  have hdlt := D24.lt
  have hglt2 := G23.lt
  refine ⟨_, _, _, _, _, _, _, _, _, rfl, .all hb24, fun m25 h25 => ⟨by omega, by omega, by omega, by omega, ?_⟩⟩
  have sC : ∀ x ∈ [m25, m13, m5, m1], x < w1.heap.size ∨ w2.heap.size ≤ x := allc (.inr (by omega)) sB
  obtain ⟨q1, _⟩ := rods_get (getElem_of_lt hi)
  obtain ⟨b6, o6, e6, nb6, hcell6⟩ := Lies.get L24 sC q1
  simp only [List.mem_cons, List.not_mem_nil, or_false, not_or] at nb6
  refine ⟨b6, o6, e6, ⟨by omega, by omega⟩, _, cell_at' hcell6 (by omega), .inr nb6, ?_⟩
  clear nb6
  have nG2 : g ∉ [m25, m13, m5, m1] := by simp; omega
  have nD : d ∉ [m25, m13, m5, m1] := by simp; omega
  have hrl := (hrod _ (List.getElem_mem hi)).1
  generalize hold : (clockC m).rods[i].len = old at *
  have hDinit : rods (clockC m).rods = rods (cutL (clockC m) i old) := by rw [← hold, cut_self hi]
  refine ⟨fun ls w' => match ls with | [_, .int _ x] => 0 ≤ x ∧ x ≤ 4 ∧ (∃ l, WRow 80 d (rods (cutL (clockC m) i l)) w') ∧ WRow 80 g (rods (cutL (clockC m) i n)) w' | _ => False,
    fun ls => match ls with | [_, .int _ x] => (4 - x).toNat | _ => 0, fun w26 hb26 hk26 => ⟨by omega, by omega, ⟨old, by rw [← hDinit]; exact D24.chg (Chg.kept hk26) nD⟩, G24.chg (Chg.kept hk26) nG2⟩, ?_⟩
  rintro _ x w27 hb27 ⟨x0, x4, ⟨l0, D27⟩, G27⟩
  refine ⟨fun hx => ⟨⟨x0, hx⟩, d, 0, rfl, ⟨by omega, by omega⟩, fun w28 hb28 hk28 => ?_⟩, fun hx w41 hb41 hk41 => ?_⟩
  · have z28 := hk28.size
    have hd27 := D27.lt
    have D28 := D27.chg (Chg.kept hk28) nD
    have G28 := G27.chg (Chg.kept hk28) nG2
    have hnth := nth4 (a := n - 1) (b := n + 1) (c := 1 + other) (d := old) ⟨x0, hx⟩
    have htry : 0 ≤ nthI [n - 1, n + 1, 1 + other, old] x ∧ nthI [n - 1, n + 1, 1 + other, old] x ≤ 200000 := by omega
    generalize nthI [n - 1, n + 1, 1 + other, old] x = t at *
    clear hnth
    have hcl0 : i < (cutC (clockC m) i l0).rods.length := by show i < (cutL (clockC m) i l0).length; rw [cutL_len]; exact hi
    have hne : g ≠ d := by omega
    refine store_len (c := cutC (clockC m) i l0) D28 hcl0 t (by omega) fun w29 D29 c29 => ?_
    rw [cut_cut _ _ _ _ hi] at D29
    have z29 := c29.size
    have G29 := G28.chg c29 (by simpa using hne)
    refine ⟨c29.own (fun x hx => ⟨hk28.own x hx, fun h => by rw [List.mem_singleton.1 h] at hx; exact nD hx⟩) (by simp) (fun _ => ⟨hb28.size, fun x hx => by rw [List.mem_singleton.1 hx]; omega⟩), fun w30 hb30 hk30 => ?_⟩
    have z30 := hk30.size
    have D30 := D29.chg (Chg.kept hk30) nD
    have G30 := G29.chg (Chg.kept hk30) nG2
    refine Pure.calls (eff_cut_any hck hi (n := t) (by omega) D30.cells) fun w31 hb31 => ⟨_, _, rfl, .all hb31, fun w32 hb32 hk32 => ?_⟩
    have z31 := hb31.size; have z32 := hk32.size
    have D32 := (D30.below hb31).chg (Chg.kept hk32) nD
    have G32 := (G30.below hb31).chg (Chg.kept hk32) nG2
    refine (copied_cut (clockC m) i t D32.cells (by omega)).mono fun e w33 he => ?_
    obtain ⟨a6, n6, rfl, hb33, C33⟩ := he
    have z33 := hb33.size
    refine ⟨_, _, _, _, _, _, _, _, _, rfl, .all hb33, fun w34 hb34 hk34 => ?_⟩
    have z34 := hk34.size
    have o32 := hk32.own
    have C34 := Lies.ko C33 hk34 (fun y hy => .inl (o32 y hy))
    have D34 := (D32.below hb33).chg (Chg.kept hk34) nD
    have G34 := (G32.below hb33).chg (Chg.kept hk34) nG2
    have step : ∀ {w35 w' : World}, Below w34.heap.size w34 w35 → Kept [m25, m13, m5, m1] w35 w' → (0 ≤ x + 1 ∧ x + 1 ≤ 4 ∧ (∃ l, WRow 80 d (rods (cutL (clockC m) i l)) w') ∧ WRow 80 g (rods (cutL (clockC m) i n)) w') ∧ (4 - (x + 1)).toNat < (4 - x).toNat := fun h1 h2 =>
      ⟨⟨by omega, by omega, ⟨t, (D34.below h1).chg (Chg.kept h2) nD⟩, (G34.below h1).chg (Chg.kept h2) nG2⟩, by omega⟩
    refine Pure.calls (check_any (cutC (clockC m) i t) C34.cells) fun w35 hb35 => ⟨_, rfl, .all hb35, fun h0 => ?_, fun h0 => ⟨by omega, fun w40 hb40 hk40 => step hb35 hk40⟩⟩
    obtain ⟨g1, g2⟩ := (check_cut hck hi t).1 h0
    have hbest := bal_first hck hi hS g1 g2
    have heq : t = n → effC (clockC m) i t = effC (clockC m) i n := fun e => by rw [e]
    refine ⟨fun h => by omega, fun _ => ⟨fun he => ⟨fun h => by omega, fun _ => ⟨by omega, fun w38 hb38 hk38 => step hb35 hk38⟩⟩, fun _ => ⟨by omega, fun w39 hb39 hk39 => step hb35 hk39⟩⟩⟩
  · have z41 := hk41.size
    have G41 := G27.chg (Chg.kept hk41) nG2
    refine (copied_cut (clockC m) i n G41.cells (by omega)).mono fun e w42 he => ?_
    obtain ⟨a7, n7, rfl, hb42, C42⟩ := he
    have o41 := hk41.own
    refine ⟨_, _, _, _, _, _, _, _, _, rfl, .all hb42, fun w43 hb43 hk43 => ?_⟩
    have C43 := Lies.ko C42 hk43 (fun y hy => .inl (o41 y hy))
    have hE : effL (cutC (clockC m) i n).rods = effC (clockC m) i n := (effC_L hck hi (by omega)).symm
    have hcall := rate_ok (open_ok hckn hotB_ok) C43.cells (rc := n7)
    rw [hot_round hckn hE hnn] at hcall
    have hE2 := effC_bd hck hi hn hS.ok
    have hl2 := hS.ok
    have hbs : (cutC (clockC m) i n).base = (clockC m).base := rfl
    have hls : lenC (cutC (clockC m) i n).rods = lenC (cutL (clockC m) i n) := rfl
    rw [hbs, hls] at hcall
    have hdiv : 0 ≤ (43200 * effC (clockC m) i n + 10000 * lenC (cutL (clockC m) i n) - 1).tdiv (10000 * lenC (cutL (clockC m) i n)) ∧ (43200 * effC (clockC m) i n + 10000 * lenC (cutL (clockC m) i n) - 1).tdiv (10000 * lenC (cutL (clockC m) i n)) ≤ 2000000000000000 := tdiv_rng (by omega) (by omega)
    refine Pure.calls hcall fun w44 hb44 => ⟨_, _, _, rfl, .all hb44, fun m40 h40 => ⟨by omega, by omega, by omega, by omega, by omega, ⟨by omega, by omega, by omega⟩, fun _ => ⟨by omega, by omega, fun w45 hb45 hk45 => ?_⟩, fun h => absurd rfl h⟩⟩
    refine eql_span ⟨_, rfl, .all (.refl _ _), fun _ w47 hb47 hk47 => Pure.calls (known_any w47) fun w48 hb48 => ⟨_, rfl, .all hb48, fun w49 hb49 _ => ⟨rfl, hb49⟩⟩, fun h => absurd h (by simp)⟩
end Go.Proofs.R03
end
section
/- BeatNarrows: plain, and a rod's growing that is stored. -/
namespace Go.Proofs.R03
open Go.Vc Go.RowKit Go.Proofs

theorem cells_store2 {w w' : World} {b : Nat} {cs : List Value} {T : TypeId} {xs : List Value} {off : Nat} {u v : Value} (h : w.heap[b]? = some (.cells cs.toArray T (0, 0))) (h' : w'.heap[b]? = some (.cells (cs.take off ++ [u, v] ++ cs.drop (off + 2)).toArray T (0, 0))) (ho : off + 1 < cs.length) (hc : Cells w (some ⟨b, 0, none⟩) xs) : Cells w' (some ⟨b, 0, none⟩) ((xs.set off u).set (off + 1) v) := fun i z hi => by
  have e : cs.take off ++ [u, v] ++ cs.drop (off + 2) = (cs.set off u).set (off + 1) v := by
    refine List.ext_getElem? fun j => ?_
    rw [List.getElem?_set, List.getElem?_set]
    by_cases h1 : j < off
    · rw [List.getElem?_append_left (by simp; omega), List.getElem?_append_left (by simp; omega), List.getElem?_take_of_lt h1, if_neg (by omega), if_neg (by omega)]
    · by_cases h2 : j = off
      · subst h2
        rw [List.getElem?_append_left (by simp; omega), List.getElem?_append_right (by simp; omega), show (cs.take j).length = j by simp; omega, Nat.sub_self, if_neg (by omega), if_pos rfl, if_pos (by omega)]
        rfl
      · by_cases h3 : j = off + 1
        · subst h3
          rw [List.getElem?_append_left (by simp; omega), List.getElem?_append_right (by simp; omega), show (cs.take off).length = off by simp; omega, show off + 1 - off = 1 by omega, if_pos rfl, if_pos (by rw [List.length_set]; omega)]
          rfl
        · rw [List.getElem?_append_right (by simp; omega), List.getElem?_drop, if_neg (by omega), if_neg (by omega)]
          congr 1; simp; omega
  rw [e] at h'
  refine ⟨b, 0, rfl, ?_⟩
  rw [Nat.zero_add]
  rw [List.getElem?_set] at hi
  by_cases h1 : off + 1 = i
  · subst h1
    rw [if_pos rfl] at hi
    split at hi
    · cases hi
      exact cell_obj h' (by rw [List.getElem?_set_self (by rw [List.length_set]; exact ho)])
    · cases hi
  · rw [if_neg h1, List.getElem?_set] at hi
    by_cases h2 : off = i
    · subst h2
      rw [if_pos rfl] at hi
      split at hi
      · cases hi
        exact cell_obj h' (by rw [List.getElem?_set_ne (by omega), List.getElem?_set_self (by omega)])
      · cases hi
    · rw [if_neg h2] at hi
      have := hc.at hi
      rw [Nat.zero_add] at this
      refine cell_obj h' ?_
      rw [List.getElem?_set_ne h1, List.getElem?_set_ne h2]
      unfold World.cell? at this
      simpa [h] using this

def growR (r : Rod) (s : Sp) : Rod := ⟨r.len, s.1, s.2, r.up⟩
theorem rods_grow {l : List Rod} {i : Nat} (hi : i < l.length) (s : Sp) : rods (l.set i (growR l[i] s)) = ((rods l).set (i * 4 + 1) (I s.1)).set (i * 4 + 1 + 1) (I s.2) := by
  induction l generalizing i with
  | nil => simp at hi
  | cons r l ih =>
    have ec : ∀ (r : Rod) (m : List Rod), rods (r :: m) = rodC r ++ rods m := fun r m => by simp [rods]
    cases i with
    | zero => rfl
    | succ i =>
      have := ih (i := i) (by simpa using hi)
      simp only [List.getElem_cons_succ] at this ⊢
      have hl : (rodC r).length = 4 := rfl
      rw [List.set_cons_succ, ec, ec, this]
      rw [List.set_append_right _ _ (by omega), List.set_append_right _ _ (by omega)]
      rw [show (i + 1) * 4 + 1 - (rodC r).length = i * 4 + 1 by omega, show (i + 1) * 4 + 1 + 1 - (rodC r).length = i * 4 + 1 + 1 by omega]
theorem store_grow {l : List Rod} {b : Nat} {w : World} (h : WRow 80 b (rods l) w) {i : Nat} (hi : i < l.length) (s : Sp) {j : Nat} (hj : j = i * 4 + 1) {R : Value → World → Prop} (hR : ∀ w', WRow 80 b (rods (l.set i (growR l[i] s))) w' → Chg [b] w w' → R (.tuple #[]) w') :
    RunsTo Try.prog ((Instr.storeAt 25 (.pointer (some ⟨b, j, none⟩)) (spv s)) >>= fun _ => pure (Value.tuple #[])) w R := by
  obtain ⟨cs, hcs⟩ := h.obj
  obtain ⟨cs, rfl⟩ : ∃ l : List Value, cs = l.toArray := ⟨cs.toList, by simp⟩
  have hlen : i * 4 + 2 < cs.length := by
    have h0 : (rods l)[i * 4 + 2]? = some (I l[i].hi) := (rods_get (getElem_of_lt hi)).2.2.1
    have := h.cells.at h0
    rw [Nat.zero_add] at this
    have h1 : cs[i * 4 + 2]? = some (I l[i].hi) := by simpa [World.cell?, hcs] using this
    exact (List.getElem?_eq_some_iff.1 h1).1
  subst hj
  refine obj_store (cs := cs) (vs := [I s.1, I s.2]) hcs (by kernel_rfl) (by kernel_rfl) (by show i * 4 + 1 + 2 ≤ _; omega) rfl (by simp <;> exact ⟨trivial, trivial⟩) fun w4 hh4 c4 => ?_
  have hc4 := cells_store2 hcs hh4 (by omega) h.cells
  rw [← rods_grow hi s] at hc4
  exact hR w4 ⟨⟨_, hh4⟩, hc4⟩ c4
theorem WRow.lies {T : TypeId} {b lo hi : Nat} {vs : List Value} {w : World} (h : WRow T b vs w) (h1 : lo ≤ b) (h2 : b < hi) : Lies [] lo hi w (some ⟨b, 0, none⟩) vs := fun i v hv => by
  obtain ⟨b', o, e, hc⟩ := h.cells i v hv
  cases e
  exact ⟨b, 0, rfl, ⟨by simp, h1, h2⟩, hc⟩

/-- Rods that grow less widely: the first j of them. -/
def narL (l : List Rod) (g : List Int) : Nat → List Rod
  | 0 => l
  | j + 1 => (narL l g j).set j (growR (l.getD j ⟨0, 0, 0, false⟩) (narrowS ((l.getD j ⟨0, 0, 0, false⟩).lo, (l.getD j ⟨0, 0, 0, false⟩).hi) (g.getD j 0)))
theorem narL_len (l : List Rod) (g : List Int) : ∀ j, (narL l g j).length = l.length
  | 0 => rfl
  | j + 1 => by unfold narL; rw [List.length_set, narL_len l g j]
theorem narL_at (l : List Rod) (g : List Int) : ∀ (j : Nat) {i : Nat}, i < l.length → j ≤ l.length → (narL l g j)[i]? = some (if i < j then growR (l.getD i ⟨0, 0, 0, false⟩) (narrowS ((l.getD i ⟨0, 0, 0, false⟩).lo, (l.getD i ⟨0, 0, 0, false⟩).hi) (g.getD i 0)) else l.getD i ⟨0, 0, 0, false⟩)
  | 0, i, hi, _ => by simp [narL, List.getD, hi]
  | j + 1, i, hi, hj => by
    unfold narL
    by_cases h : j = i
    · subst h
      rw [List.getElem?_set_self (by rw [narL_len]; exact hi), if_pos (by omega)]
    · rw [List.getElem?_set_ne h, narL_at l g j hi (by omega)]
      by_cases h2 : i < j
      · rw [if_pos h2, if_pos (by omega)]
      · rw [if_neg h2, if_neg (by omega)]
theorem narL_step {l : List Rod} {g : List Int} {j : Nat} (hj : j < l.length) (hg : j < g.length) (hl : j < (narL l g j).length) : (narL l g j)[j].lo = l[j].lo ∧ (narL l g j)[j].hi = l[j].hi ∧ (narL l g j).set j (growR (narL l g j)[j] (narrowS (l[j].lo, l[j].hi) g[j])) = narL l g (j + 1) := by
  have h := narL_at l g j hj (by omega)
  rw [getElem_of_lt hl, Option.some.injEq, if_neg (by omega)] at h
  rw [h]
  refine ⟨by simp [List.getD, hj], by simp [List.getD, hj], ?_⟩
  rw [show narL l g (j + 1) = (narL l g j).set j (growR (l.getD j ⟨0, 0, 0, false⟩) (narrowS ((l.getD j ⟨0, 0, 0, false⟩).lo, (l.getD j ⟨0, 0, 0, false⟩).hi) (g.getD j 0))) from rfl]
  simp [List.getD, hj, hg]
def narC (c : Clk) (t : Tr) : Clk := ⟨c.kind, c.base, narL c.rods t.grow c.rods.length, narrowS c.air t.air, narrowS c.drive t.drive⟩
def narB (b : Bn) (t : Tr) : Bn := ⟨narrowS b.heat t.heat, narrowS b.press t.press, narrowS b.arc t.arc, narrowS b.force t.force⟩
theorem narS_sub {s : Sp} {x : Int} (h : s.1 ≤ x ∧ x ≤ s.2) : Sub (narrowS s x) s := by
  have := narrowS_in h
  unfold Sub; omega
theorem narB_ok {b : Bn} {t : Tr} {c : Clk} (hb : OkB b) (h : InK t (newK c b)) : OkB (narB b t) := by
  obtain ⟨b1, b2, b3, b4⟩ := hb
  have h1 := narrowS_in h.heat; have h2 := narrowS_in h.press; have h3 := narrowS_in h.arc; have h4 := narrowS_in h.force
  simp only [okS, newK] at *
  unfold narB OkB
  simp only [okS]
  omega
theorem narL_each {c : Clk} {b : Bn} {t : Tr} (h : InK t (newK c b)) {i : Nat} (hi : i < c.rods.length) : ∃ x, t.grow[i]? = some x ∧ (narL c.rods t.grow c.rods.length)[i]? = some (growR c.rods[i] (narrowS (c.rods[i].lo, c.rods[i].hi) x)) ∧ c.rods[i].lo ≤ x ∧ x ≤ c.rods[i].hi := by
  have hg : i < t.grow.length := by rw [h.len, newK_len]; exact hi
  refine ⟨t.grow[i], getElem_of_lt hg, ?_, ?_⟩
  · rw [narL_at _ _ _ hi (Nat.le_refl _), if_pos hi]; simp [List.getD, hi, hg]
  · exact h.grow i _ (c.rods[i].lo, c.rods[i].hi) (getElem_of_lt hg) (by simp [newK, getElem_of_lt hi])
theorem nar_rods {c : Clk} {b : Bn} {t : Tr} (h : InK t (newK c b)) : (narC c t).rods.map lenF = c.rods.map lenF := by
  refine List.ext_getElem? fun i => ?_
  rw [List.getElem?_map, List.getElem?_map]
  by_cases hi : i < c.rods.length
  · obtain ⟨x, _, h2, _⟩ := narL_each h hi
    show Option.map lenF ((narL c.rods t.grow c.rods.length)[i]?) = _
    rw [h2, getElem_of_lt hi]; rfl
  · rw [List.getElem?_eq_none (by show (narL _ _ _).length ≤ i; rw [narL_len]; omega), List.getElem?_eq_none (by omega)]
theorem narC_ok {c : Clk} {b : Bn} {t : Tr} (hk : check c = 0) (h : InK t (newK c b)) : check (narC c t) = 0 := by
  obtain ⟨h1, h2, h3, h4, h5, h6, h7⟩ := check_len hk
  have hl : (narC c t).rods.length = c.rods.length := narL_len _ _ _
  have ha := narrowS_in h.air
  have hd := narrowS_in h.drive
  simp only [newK] at ha hd
  unfold check
  rw [if_neg (by omega), if_pos]
  refine ⟨fun e => ?_, fun r hr => ?_, ?_, h5, ?_, ?_⟩
  · have := congrArg List.length e
    rw [hl] at this; simp at this; exact h2 this
  · obtain ⟨i, hi, rfl⟩ := List.mem_iff_getElem.1 hr
    obtain ⟨x, _, g2, g3⟩ := narL_each h (i := i) (by omega)
    have : (narC c t).rods[i] = growR c.rods[i] (narrowS (c.rods[i].lo, c.rods[i].hi) x) := by
      have e := getElem_of_lt hi
      rw [show (narC c t).rods[i]? = _ from g2] at e
      exact (Option.some.inj e).symm
    rw [this]
    have g4 := h3 _ (List.getElem_mem (show i < c.rods.length by omega))
    have g5 := narrowS_in (s := (c.rods[i].lo, c.rods[i].hi)) g3
    simp only at g5
    refine ⟨g4.1, ?_⟩
    show 0 ≤ (narrowS (c.rods[i].lo, c.rods[i].hi) x).1 ∧ (narrowS (c.rods[i].lo, c.rods[i].hi) x).1 ≤ (narrowS (c.rods[i].lo, c.rods[i].hi) x).2 ∧ (narrowS (c.rods[i].lo, c.rods[i].hi) x).2 ≤ 40000
    omega
  · rw [lenC_of (nar_rods h)]; exact h4
  · simp only [okS, narC] at h6 ⊢; omega
  · unfold driveOk at h7 ⊢
    simp only [okS, narC] at h7 ⊢
    omega
theorem KInc.of {k q : Kn} (h1 : k.c.base = q.c.base) (h2 : k.c.rods.map lenF = q.c.rods.map lenF) (h3 : k.grow.length = q.grow.length) (hg : ∀ (i : Nat) (s t : Sp), k.grow[i]? = some s → q.grow[i]? = some t → Sub s t) (ha : Sub k.air q.air) (hd : Sub k.drive q.drive) (hh : Sub k.heat q.heat) (hp : Sub k.press q.press) (hr : Sub k.arc q.arc) (hf : Sub k.force q.force) (h0 : 0 ≤ q.arc.1) : KInc k q := by
  refine ⟨h1, h2, h3, fun i s t hs ht => ?_, h0⟩
  by_cases hi : i < k.grow.length
  · rw [all_lo' hi] at hs
    rw [all_lo' (by omega)] at ht
    exact hg i s t hs ht
  · obtain ⟨j, rfl⟩ : ∃ j, i = k.grow.length + j := ⟨i - k.grow.length, by omega⟩
    rw [all_hi'] at hs
    rw [h3, all_hi'] at ht
    match j, hs, ht with
    | 0, hs, ht => cases hs; cases ht; exact ha
    | 1, hs, ht => cases hs; cases ht; exact hd
    | 2, hs, ht => cases hs; cases ht; exact hh
    | 3, hs, ht => cases hs; cases ht; exact hp
    | 4, hs, ht => cases hs; cases ht; exact hr
    | 5, hs, ht => cases hs; cases ht; exact hf
    | n + 6, hs, ht => simp at hs
theorem nar_grow {c : Clk} {b : Bn} {t : Tr} (h : InK t (newK c b)) (i : Nat) (s u : Sp) (hs : ((narC c t).rods.map fun r => (r.lo, r.hi))[i]? = some s) (hu : (c.rods.map fun r => (r.lo, r.hi))[i]? = some u) : Sub s u := by
  have hi : i < c.rods.length := by have := (List.getElem?_eq_some_iff.1 hu).1; simpa using this
  obtain ⟨x, _, g2, g3⟩ := narL_each h hi
  rw [List.getElem?_map, show (narC c t).rods[i]? = _ from g2] at hs
  rw [List.getElem?_map, getElem_of_lt hi] at hu
  simp only [Option.map_some, Option.some.injEq] at hs hu
  rw [← hs, ← hu]
  exact narS_sub (s := (c.rods[i].lo, c.rods[i].hi)) g3
theorem nar_rate {c : Clk} {b : Bn} {t : Tr} (hb : OkB b) (h : InK t (newK c b)) : Sub (rateK (newK (narC c t) (narB b t))) (rateK (newK c b)) :=
  rate_inc (KInc.of rfl (nar_rods h) (by rw [newK_len, newK_len]; exact narL_len _ _ _) (nar_grow h) (narS_sub h.air) (narS_sub h.drive) (narS_sub h.heat) (narS_sub h.press) (narS_sub h.arc) (narS_sub h.force) (okB_le hb).2.2.2.2)
theorem nar_chg {c : Clk} {b : Bn} {t : Tr} (hb : OkB b) (h : InK t (newK c b)) : Sub (chgS (narC c t) zeroB (narB b t)) (chgS c zeroB b) := by
  have hl : lenC (narC c t).rods = lenC c.rods := lenC_of (nar_rods h)
  have z : Sub ((0, 0) : Sp) (0, 0) := one_sub 0
  unfold chgS
  rw [hl]
  refine Sub.plus (rate_inc (KInc.of rfl (nar_rods h) ?_ (nar_grow h) (narS_sub h.air) (narS_sub h.drive) ((narS_sub h.heat).less z) ((narS_sub h.press).less z) (narS_sub h.arc) ((narS_sub h.force).less z) (okB_le hb).2.2.2.2)) ((one_sub (0 * 0)).by (one_sub _))
  show ((narC c t).rods.map fun r => (r.lo, r.hi)).length = (c.rods.map fun r => (r.lo, r.hi)).length
  rw [List.length_map, List.length_map]
  exact narL_len _ _ _
end Go.Proofs.R03
end
section
/- BeatNarrows. -/
namespace Go.Proofs.R03
open Go.Vc Go.RowKit Go.Proofs

def Clk.vn (c : Clk) (t : Tr) (a : Option Addr) (k n : Nat) : Value := .agg #[I c.kind, I c.base, .slice a k n, I (narrowS c.air t.air).1, I (narrowS c.air t.air).2, I (narrowS c.drive t.drive).1, I (narrowS c.drive t.drive).2]
theorem nar_v (c : Clk) (t : Tr) (a : Option Addr) (k : Nat) : c.vn t a c.rods.length k = (narC c t).v a k := by
  unfold Clk.v Clk.vn
  rw [show (narC c t).rods.length = c.rods.length from narL_len _ _ _]; rfl
theorem copied_n {c : Clk} {t : Tr} {a : Option Addr} {k : Nat} {w : World} (hc : Cells w a (rods (narL c.rods t.grow c.rods.length))) (hn : (narC c t).rods.length ≤ 100000) : Calls Try.prog 13 #[c.vn t a c.rods.length k] w fun e w' => ∃ a' n', e = .returned ((narC c t).v a' n') ∧ Below w.heap.size w w' ∧ Lies [] w.heap.size w'.heap.size w' a' (rods (narC c t).rods) := by
  rw [nar_v c t]
  exact copied_l (narC c t) hc hn

set_option maxRecDepth 100000 in
set_option maxHeartbeats 8000000 in
theorem narrows_any {m : Made} {x : Wx} {l : List Int} (hm : OkMade m) (hx : OkWx x) (h8 : ∀ y ∈ l, B8 y) {ra ba : Option Addr} {rc bc : Nat} {w : World} (hc : Cells w ra (mrods m.rods)) (hB : Cells w ba (bytes8 l)) :
    Calls Try.prog 8 #[m.v ra rc, x.v, .slice ba l.length bc] w (Pure w (.bool true)) := by
  have hck := clockC_ok hm
  have hbk := boundsW_ok hx
  have hfew := clockC_few m
  have hT := truthOf_in h8 hck hbk
  have hTl : (truthOf (clockC m) (boundsW x) l).grow.length = (clockC m).rods.length := by simp [truthOf]
  have hck2 := narC_ok hck hT
  have hbk2 := narB_ok hbk hT
  have hfew2 : (narC (clockC m) (truthOf (clockC m) (boundsW x) l)).rods.length ≤ 100000 := by rw [show (narC (clockC m) (truthOf (clockC m) (boundsW x) l)).rods.length = (clockC m).rods.length from narL_len _ _ _]; omega
  have hop := open_ok hck hbk
  have hop2 := open_ok hck2 hbk2
  have hopz := open_ok hck okB_zero
  have hopz2 := open_ok hck2 okB_zero
  have hl0 : 0 < (clockC m).rods.length := List.length_pos_iff.2 (check_len hck).2.1
  obtain ⟨_, _, hrod, hlen, _, hair, hdr⟩ := check_len hck
  have hdr' : -1000 ≤ (clockC m).drive.1 ∧ (clockC m).drive.1 ≤ (clockC m).drive.2 ∧ (clockC m).drive.2 ≤ 1000 := by unfold driveOk at hdr; simp only [okS] at hdr; omega
  clear hdr
  obtain ⟨b1, b2, b3, b4⟩ := hbk
  have hbk : OkB (boundsW x) := ⟨b1, b2, b3, b4⟩
  simp only [okS] at hair b1 b2 b3 b4
  have t1 := hT.air; have t2 := hT.drive; have t3 := hT.heat; have t4 := hT.press; have t5 := hT.arc; have t6 := hT.force
  simp only [newK] at t1 t2 t3 t4 t5 t6
  have hn : 0 < 10000 * lenC (clockC m).rods := by omega
  have hll : lenC (narC (clockC m) (truthOf (clockC m) (boundsW x) l)).rods = lenC (clockC m).rods := lenC_of (nar_rods hT)
  have s1 := round_sub hn (nar_rate hbk hT)
  have s2 := round_sub hn (nar_chg hbk hT)
  have LR0 : ∀ {a : Option Addr} {n : Nat} {w : World}, Cells w a (rods (clockC m).rods) → Calls Try.prog 22 #[(clockC m).v a n, (boundsW x).v] w (Pure w (.tuple #[spv (roundS (10000 * lenC (clockC m).rods) (rateK (newK (clockC m) (boundsW x)))), I 0])) := fun h => rate_ok hop h
  have LR1 : ∀ {a : Option Addr} {n : Nat} {w : World}, Cells w a (rods (narC (clockC m) (truthOf (clockC m) (boundsW x) l)).rods) → Calls Try.prog 22 #[(narC (clockC m) (truthOf (clockC m) (boundsW x) l)).v a n, (narB (boundsW x) (truthOf (clockC m) (boundsW x) l)).v] w (Pure w (.tuple #[spv (roundS (10000 * lenC (clockC m).rods) (rateK (newK (narC (clockC m) (truthOf (clockC m) (boundsW x) l)) (narB (boundsW x) (truthOf (clockC m) (boundsW x) l))))), I 0])) := fun {a} {n} {w} h => by
    have := rate_ok hop2 (rc := n) h
    rw [hll] at this; exact this
  have LC0 : ∀ {a : Option Addr} {n : Nat} {w : World}, Cells w a (rods (clockC m).rods) → Calls Try.prog 29 #[(clockC m).v a n, zeroB.v, (boundsW x).v] w (Pure w (.tuple #[spv (roundS (10000 * lenC (clockC m).rods) (chgS (clockC m) zeroB (boundsW x))), I 0])) := fun h => change_ok hopz hop h
  have LC1 : ∀ {a : Option Addr} {n : Nat} {w : World}, Cells w a (rods (narC (clockC m) (truthOf (clockC m) (boundsW x) l)).rods) → Calls Try.prog 29 #[(narC (clockC m) (truthOf (clockC m) (boundsW x) l)).v a n, zeroB.v, (narB (boundsW x) (truthOf (clockC m) (boundsW x) l)).v] w (Pure w (.tuple #[spv (roundS (10000 * lenC (clockC m).rods) (chgS (narC (clockC m) (truthOf (clockC m) (boundsW x) l)) zeroB (narB (boundsW x) (truthOf (clockC m) (boundsW x) l)))), I 0])) := fun {a} {n} {w} h => by
    have := change_ok hopz2 hop2 (rc := n) h
    rw [hll] at this; exact this
  unfold Sub at s1 s2
  generalize roundS (10000 * lenC (clockC m).rods) (rateK (newK (clockC m) (boundsW x))) = S at *
  generalize roundS (10000 * lenC (clockC m).rods) (rateK (newK (narC (clockC m) (truthOf (clockC m) (boundsW x) l)) (narB (boundsW x) (truthOf (clockC m) (boundsW x) l)))) = U at *
  generalize roundS (10000 * lenC (clockC m).rods) (chgS (clockC m) zeroB (boundsW x)) = V at *
  generalize roundS (10000 * lenC (clockC m).rods) (chgS (narC (clockC m) (truthOf (clockC m) (boundsW x) l)) zeroB (narB (boundsW x) (truthOf (clockC m) (boundsW x) l))) = Z at *
  obtain ⟨S1, S2⟩ := S
  obtain ⟨U1, U2⟩ := U
  obtain ⟨V1, V2⟩ := V
  obtain ⟨Z1, Z2⟩ := Z
  simp only [spv] at LR0 LR1 LC0 LC1
  simp only at s1 s2
  refine vc8 _ _ _ _ _ _ _ _ _ _ _ _ _ _ _ _ _ _ _ _ w _ ?_
  intro m1_1 g_m1_1 m2_1 g_m2_1 w1 hb1 hk1
  have z1 := hk1.size; have o1 := hk1.own
  simp only [List.mem_cons, List.not_mem_nil, or_false, forall_eq_or_imp, forall_eq] at o1
  refine (clock_l m (hc.keep hb1) hm).mono fun e w2 he => ?_
  obtain ⟨a1, n1, rfl, hb2, L⟩ := he
  have z2 := hb2.size
  refine ⟨_, _, _, _, _, _, _, _, _, rfl, hb2, ?_⟩
  intro w3 hb3 hk3
  have z3 := hk3.size; have o3 := hk3.own
  simp only [List.mem_cons, List.not_mem_nil, or_false, forall_eq_or_imp, forall_eq] at o3
  have L_3 := Lies.kio L hk3 (allc (.inl (by omega)) (allc (.inl (by omega)) all0)) ⟨(w1.heap.size, w2.heap.size), by simp, by simp only; omega, by simp only; omega⟩
  refine Pure.calls (boundsW_any hx w3) fun w4 hb4 => ?_
  have z4 := hb4.size
  have L_4 := L_3.below hb4
  refine ⟨_, _, _, _, _, _, _, _, rfl, hb4, ?_⟩
  intro m5 g_m5 d0_m5 d1_m5 m6 g_m6 d0_m6 d1_m6 w5 hb5 hk5
  have z5 := hk5.size; have o5 := hk5.own
  simp only [List.mem_cons, List.not_mem_nil, or_false, forall_eq_or_imp, forall_eq] at o5
  have L_5 := Lies.ko L_4 hk5 (allc d1_m6 (allc d1_m5 (allc (.inl (by omega)) (allc (.inl (by omega)) all0))))
  refine (truthOf_l (clockC m) (boundsW x) L_5.cells (hB.keep hb5) h8 hck hbk).mono fun e w6 he => ?_
  obtain ⟨ta, tn, rfl, hb6, T⟩ := he
  have z6 := hb6.size
  have L_6 := L_5.below hb6
  refine ⟨_, _, _, _, _, _, _, _, _, rfl, .all hb6, ?_⟩
  intro m10 g_m10 w7 hb7 hk7
  have z7 := hk7.size; have o7 := hk7.own
  simp only [List.mem_cons, List.not_mem_nil, or_false, forall_eq_or_imp, forall_eq] at o7
  have L_7 := Lies.ko L_6 hk7 (allc (.inr (by omega)) (allc d1_m6 (allc d1_m5 (allc (.inl (by omega)) (allc (.inl (by omega)) all0)))))
  have T_7 := Lies.ko T hk7 (allc (.inr (by omega)) (allc (.inl (by omega)) (allc (.inl (by omega)) (allc (.inl (by omega)) (allc (.inl (by omega)) all0)))))
  refine (copied_w (clockC m) L_7.cells (by omega) (by omega)).mono fun e w8 he => ?_
  obtain ⟨g, n3, rfl, hb8, hg, G8⟩ := he
  have z8 := hb8.size
  have L_8 := L_7.below hb8
  have T_8 := T_7.below hb8
  refine ⟨_, _, _, _, _, _, _, _, _, rfl, .all hb8, ?_⟩
  intro m14 g_m14
  have sd_L : ∀ x ∈ [m14, m10, m6, m5, m2_1, m1_1], x < w1.heap.size ∨ w2.heap.size ≤ x := allc (.inr (by omega)) (allc (.inr (by omega)) (allc d1_m6 (allc d1_m5 (allc (.inl (by omega)) (allc (.inl (by omega)) all0)))))
  have sd_T : ∀ x ∈ [m14, m10, m6, m5, m2_1, m1_1], x < w5.heap.size ∨ w6.heap.size ≤ x := allc (.inr (by omega)) (allc (.inr (by omega)) (allc (.inl (by omega)) (allc (.inl (by omega)) (allc (.inl (by omega)) (allc (.inl (by omega)) all0)))))
  have hglt := G8.lt
  have nG : g ∉ [m14, m10, m6, m5, m2_1, m1_1] := by simp only [List.mem_cons, List.not_mem_nil, or_false, not_or]; exact ⟨by omega, by omega, by omega, by omega, by omega, by omega⟩
  refine ⟨fun ls w' => match ls with | [.int _ i] => 0 ≤ i ∧ i ≤ (clockC m).rods.length ∧ w8.heap.size ≤ w'.heap.size ∧ WRow 80 g (rods (narL (clockC m).rods (truthOf (clockC m) (boundsW x) l).grow i.toNat)) w' ∧ Lies [] w1.heap.size w2.heap.size w' a1 (rods (clockC m).rods) ∧ Lies [] w5.heap.size w6.heap.size w' ta (ints (truthOf (clockC m) (boundsW x) l).grow) | _ => False, fun ls => match ls with | [.int _ i] => ((clockC m).rods.length - i).toNat | _ => 0, ?_, ?_⟩
  · intro w10 hb10 hk10
    exact ⟨by omega, by omega, hk10.size, G8.chg (Chg.kept hk10) nG, Lies.ko L_8 hk10 sd_L, Lies.ko T_8 hk10 sd_T⟩
  rintro i w11 hb11 ⟨i0, il, z11, G11, L_11, T_11⟩
  refine ⟨?_, ?_⟩
  · intro hi
    have hix : i.toNat < (clockC m).rods.length := by omega
    have hig : i.toNat < (truthOf (clockC m) (boundsW x) l).grow.length := by rw [hTl]; exact hix
    have hnl : i.toNat < (narL (clockC m).rods (truthOf (clockC m) (boundsW x) l).grow i.toNat).length := by rw [narL_len]; exact hix
    obtain ⟨n1', n2', n3'⟩ := narL_step hix hig hnl
    obtain ⟨_, r2, r3, _⟩ := rods_get (getElem_of_lt hnl)
    rw [n1'] at r2
    rw [n2'] at r3
    have e2 := G11.cells.at r2
    have e3 := G11.cells.at r3
    obtain ⟨b2, o2, eb2, nb2, hcell⟩ := Lies.get T_11 sd_T (ints_get (getElem_of_lt hig))
    have hin := hT.grow i.toNat _ ((clockC m).rods[i.toNat].lo, (clockC m).rods[i.toNat].hi) (getElem_of_lt hig) (by simp [newK, getElem_of_lt hix])
    have hrr := (hrod _ (List.getElem_mem hix)).2
    simp only [okS] at hrr hin
    have nG' := nG
    simp only [List.mem_cons, List.not_mem_nil, or_false, not_or] at nG' nb2
    refine ⟨g, 0, rfl, ⟨i0, by omega⟩, _, _, cell_at' e2 (by omega), cell_at' e3 (by omega), .inr nG', b2, o2, eb2, ⟨i0, by omega⟩, _, cell_at' hcell (by omega), .inr nb2, fun w12 hb12 hk12 => ?_⟩
    clear nG' nb2
    refine Pure.calls (narrow_any (s := ((clockC m).rods[i.toNat].lo, (clockC m).rods[i.toNat].hi)) (by simp only; omega) (by omega) w12) fun w13 hb13 => ⟨_, _, rfl, .all hb13, g, 0, rfl, ⟨i0, by omega⟩, fun w14 hb14 hk14 => ?_⟩
    have z12 := hk12.size; have z13 := hb13.size; have z14 := hk14.size
    have G14 := ((G11.chg hk12.chg nG).below hb13).chg hk14.chg nG
    have L_14 := ((L_11.out hk12.chg sd_L).below hb13).out hk14.chg sd_L
    have T_14 := ((T_11.out hk12.chg sd_T).below hb13).out hk14.chg sd_T
    refine store_grow G14 hnl (narrowS ((clockC m).rods[i.toNat].lo, (clockC m).rods[i.toNat].hi) (truthOf (clockC m) (boundsW x) l).grow[i.toNat]) (by omega) fun w15 G15 c15 => ?_
    rw [n3'] at G15
    have z15 := c15.size
    refine ⟨c15.own (fun x hx => ⟨hk14.own x hx, fun h => by rw [List.mem_singleton.1 h] at hx; exact nG hx⟩) (by simp) (fun _ => ⟨hb14.size, fun x hx => by rw [List.mem_singleton.1 hx]; omega⟩), by omega, fun w16 hb16 hk16 => ⟨⟨by omega, by omega, by have := hk16.size; omega, ?_, Lies.ko (L_14.out c15 (fun x hx => by rw [List.mem_singleton.1 hx]; exact .inr (by omega))) hk16 sd_L, Lies.ko (T_14.out c15 (fun x hx => by rw [List.mem_singleton.1 hx]; exact .inr (by omega))) hk16 sd_T⟩, ?_⟩⟩
    · rw [show (i + 1).toNat = i.toNat + 1 by omega]; exact G15.chg (Chg.kept hk16) nG
    · show (((clockC m).rods.length : Int) - (i + 1)).toNat < (((clockC m).rods.length : Int) - i).toNat
      omega
  · intro hexit
    have hi' : i.toNat = (clockC m).rods.length := by omega
    rw [hi'] at G11
    have D3 := G11.lies (lo := w7.heap.size) (hi := w8.heap.size) hg hglt
    intro w17 hb17 hk17
    have z17 := hk17.size; have o17 := hk17.own
    simp only [List.mem_cons, List.not_mem_nil, or_false, forall_eq_or_imp, forall_eq] at o17
    have L_17 := Lies.kio L_11 hk17 (allc (.inr (by omega)) (allc (.inr (by omega)) (allc d1_m6 (allc d1_m5 (allc (.inl (by omega)) (allc (.inl (by omega)) all0)))))) ⟨(0, w11.heap.size), by simp, by simp only; omega, by simp only; omega⟩
    have D3_17 := Lies.kio D3 hk17 (allc (.inr (by omega)) (allc (.inl (by omega)) (allc (.inl (by omega)) (allc (.inl (by omega)) (allc (.inl (by omega)) (allc (.inl (by omega)) all0)))))) ⟨(0, w11.heap.size), by simp, by simp only; omega, by simp only; omega⟩
    refine Pure.calls ((narrow_any (s := (clockC m).air) (by omega) (by omega) w17)) fun w18 hb18 => ?_
    have z18 := hb18.size
    have L_18 := L_17.below hb18
    have D3_18 := D3_17.below hb18
    refine ⟨_, _, rfl, .all hb18, ?_⟩
    intro w19 hb19 hk19
    have z19 := hk19.size; have o19 := hk19.own
    simp only [List.mem_cons, List.not_mem_nil, or_false, forall_eq_or_imp, forall_eq] at o19
    have L_19 := Lies.kio L_18 hk19 (allc (.inr (by omega)) (allc (.inr (by omega)) (allc d1_m6 (allc d1_m5 (allc (.inl (by omega)) (allc (.inl (by omega)) all0)))))) ⟨(0, w18.heap.size), by simp, by simp only; omega, by simp only; omega⟩
    have D3_19 := Lies.kio D3_18 hk19 (allc (.inr (by omega)) (allc (.inl (by omega)) (allc (.inl (by omega)) (allc (.inl (by omega)) (allc (.inl (by omega)) (allc (.inl (by omega)) all0)))))) ⟨(0, w18.heap.size), by simp, by simp only; omega, by simp only; omega⟩
    refine Pure.calls ((narrow_any (s := (clockC m).drive) (by omega) (by omega) w19)) fun w20 hb20 => ?_
    have z20 := hb20.size
    have L_20 := L_19.below hb20
    have D3_20 := D3_19.below hb20
    refine ⟨_, _, rfl, .all hb20, ?_⟩
    intro w21 hb21 hk21
    have z21 := hk21.size; have o21 := hk21.own
    simp only [List.mem_cons, List.not_mem_nil, or_false, forall_eq_or_imp, forall_eq] at o21
    have L_21 := Lies.kio L_20 hk21 (allc (.inr (by omega)) (allc (.inr (by omega)) (allc d1_m6 (allc d1_m5 (allc (.inl (by omega)) (allc (.inl (by omega)) all0)))))) ⟨(0, w20.heap.size), by simp, by simp only; omega, by simp only; omega⟩
    have D3_21 := Lies.kio D3_20 hk21 (allc (.inr (by omega)) (allc (.inl (by omega)) (allc (.inl (by omega)) (allc (.inl (by omega)) (allc (.inl (by omega)) (allc (.inl (by omega)) all0)))))) ⟨(0, w20.heap.size), by simp, by simp only; omega, by simp only; omega⟩
    refine Pure.calls ((narrow_any (s := (boundsW x).heat) (by omega) (by omega) w21)) fun w22 hb22 => ?_
    have z22 := hb22.size
    have L_22 := L_21.below hb22
    have D3_22 := D3_21.below hb22
    refine ⟨_, _, rfl, hb22, ?_⟩
    intro w23 hb23 hk23
    have z23 := hk23.size; have o23 := hk23.own
    simp only [List.mem_cons, List.not_mem_nil, or_false, forall_eq_or_imp, forall_eq] at o23
    have L_23 := Lies.kio L_22 hk23 (allc (.inr (by omega)) (allc (.inr (by omega)) (allc d1_m6 (allc d1_m5 (allc (.inl (by omega)) (allc (.inl (by omega)) all0)))))) ⟨(0, w20.heap.size), by simp, by simp only; omega, by simp only; omega⟩
    have D3_23 := Lies.kio D3_22 hk23 (allc (.inr (by omega)) (allc (.inl (by omega)) (allc (.inl (by omega)) (allc (.inl (by omega)) (allc (.inl (by omega)) (allc (.inl (by omega)) all0)))))) ⟨(0, w20.heap.size), by simp, by simp only; omega, by simp only; omega⟩
    refine Pure.calls ((narrow_any (s := (boundsW x).press) (by omega) (by omega) w23)) fun w24 hb24 => ?_
    have z24 := hb24.size
    have L_24 := L_23.below hb24
    have D3_24 := D3_23.below hb24
    refine ⟨_, _, rfl, hb24, ?_⟩
    intro w25 hb25 hk25
    have z25 := hk25.size; have o25 := hk25.own
    simp only [List.mem_cons, List.not_mem_nil, or_false, forall_eq_or_imp, forall_eq] at o25
    have L_25 := Lies.kio L_24 hk25 (allc (.inr (by omega)) (allc (.inr (by omega)) (allc d1_m6 (allc d1_m5 (allc (.inl (by omega)) (allc (.inl (by omega)) all0)))))) ⟨(0, w20.heap.size), by simp, by simp only; omega, by simp only; omega⟩
    have D3_25 := Lies.kio D3_24 hk25 (allc (.inr (by omega)) (allc (.inl (by omega)) (allc (.inl (by omega)) (allc (.inl (by omega)) (allc (.inl (by omega)) (allc (.inl (by omega)) all0)))))) ⟨(0, w20.heap.size), by simp, by simp only; omega, by simp only; omega⟩
    refine Pure.calls ((narrow_any (s := (boundsW x).arc) (by omega) (by omega) w25)) fun w26 hb26 => ?_
    have z26 := hb26.size
    have L_26 := L_25.below hb26
    have D3_26 := D3_25.below hb26
    refine ⟨_, _, rfl, hb26, ?_⟩
    intro w27 hb27 hk27
    have z27 := hk27.size; have o27 := hk27.own
    simp only [List.mem_cons, List.not_mem_nil, or_false, forall_eq_or_imp, forall_eq] at o27
    have L_27 := Lies.kio L_26 hk27 (allc (.inr (by omega)) (allc (.inr (by omega)) (allc d1_m6 (allc d1_m5 (allc (.inl (by omega)) (allc (.inl (by omega)) all0)))))) ⟨(0, w20.heap.size), by simp, by simp only; omega, by simp only; omega⟩
    have D3_27 := Lies.kio D3_26 hk27 (allc (.inr (by omega)) (allc (.inl (by omega)) (allc (.inl (by omega)) (allc (.inl (by omega)) (allc (.inl (by omega)) (allc (.inl (by omega)) all0)))))) ⟨(0, w20.heap.size), by simp, by simp only; omega, by simp only; omega⟩
    refine Pure.calls ((narrow_any (s := (boundsW x).force) (by omega) (by omega) w27)) fun w28 hb28 => ?_
    have z28 := hb28.size
    have L_28 := L_27.below hb28
    have D3_28 := D3_27.below hb28
    refine ⟨_, _, rfl, hb28, ?_⟩
    intro m25 g_m25 d0_m25 d1_m25 d2_m25 d3_m25 w29 hb29 hk29
    have z29 := hk29.size; have o29 := hk29.own
    simp only [List.mem_cons, List.not_mem_nil, or_false, forall_eq_or_imp, forall_eq] at o29
    have L_29 := Lies.kio L_28 hk29 (allc (.inr (by omega)) (allc (.inr (by omega)) (allc (.inr (by omega)) (allc d1_m6 (allc d1_m5 (allc (.inl (by omega)) (allc (.inl (by omega)) all0))))))) ⟨(0, w28.heap.size), by simp, by simp only; omega, by simp only; omega⟩
    have D3_29 := Lies.kio D3_28 hk29 (allc (.inr (by omega)) (allc (.inr (by omega)) (allc (.inl (by omega)) (allc (.inl (by omega)) (allc (.inl (by omega)) (allc (.inl (by omega)) (allc (.inl (by omega)) all0))))))) ⟨(0, w28.heap.size), by simp, by simp only; omega, by simp only; omega⟩
    refine (copied_l (clockC m) L_29.cells (by omega)).mono fun e w30 he => ?_
    obtain ⟨c29, n29, rfl, hb30, C29⟩ := he
    have z30 := hb30.size
    have L_30 := L_29.below hb30
    have D3_30 := D3_29.below hb30
    refine ⟨_, _, _, _, _, _, _, _, _, rfl, hb30, ?_⟩
    intro w31 hb31 hk31
    have z31 := hk31.size; have o31 := hk31.own
    simp only [List.mem_cons, List.not_mem_nil, or_false, forall_eq_or_imp, forall_eq] at o31
    have L_31 := Lies.kio L_30 hk31 (allc (.inr (by omega)) (allc (.inr (by omega)) (allc (.inr (by omega)) (allc d1_m6 (allc d1_m5 (allc (.inl (by omega)) (allc (.inl (by omega)) all0))))))) ⟨(0, w28.heap.size), by simp, by simp only; omega, by simp only; omega⟩
    have D3_31 := Lies.kio D3_30 hk31 (allc (.inr (by omega)) (allc (.inr (by omega)) (allc (.inl (by omega)) (allc (.inl (by omega)) (allc (.inl (by omega)) (allc (.inl (by omega)) (allc (.inl (by omega)) all0))))))) ⟨(0, w28.heap.size), by simp, by simp only; omega, by simp only; omega⟩
    have C29_31 := Lies.kio C29 hk31 (allc (.inl (by omega)) (allc (.inl (by omega)) (allc (.inl (by omega)) (allc (.inl (by omega)) (allc (.inl (by omega)) (allc (.inl (by omega)) (allc (.inl (by omega)) all0))))))) ⟨(w29.heap.size, w30.heap.size), by simp, by simp only; omega, by simp only; omega⟩
    refine Pure.calls (LR0 C29_31.cells) fun w32 hb32 => ?_
    have z32 := hb32.size
    have L_32 := L_31.below hb32
    have D3_32 := D3_31.below hb32
    refine ⟨_, _, _, rfl, hb32, ?_⟩
    intro m28 g_m28 d0_m28 d1_m28 w33 hb33 hk33
    have z33 := hk33.size; have o33 := hk33.own
    simp only [List.mem_cons, List.not_mem_nil, or_false, forall_eq_or_imp, forall_eq] at o33
    have L_33 := Lies.kio L_32 hk33 (allc (.inr (by omega)) (allc (.inr (by omega)) (allc (.inr (by omega)) (allc (.inr (by omega)) (allc d1_m6 (allc d1_m5 (allc (.inl (by omega)) (allc (.inl (by omega)) all0)))))))) ⟨(0, w32.heap.size), by simp, by simp only; omega, by simp only; omega⟩
    have D3_33 := Lies.kio D3_32 hk33 (allc (.inr (by omega)) (allc (.inr (by omega)) (allc (.inr (by omega)) (allc (.inl (by omega)) (allc (.inl (by omega)) (allc (.inl (by omega)) (allc (.inl (by omega)) (allc (.inl (by omega)) all0)))))))) ⟨(0, w32.heap.size), by simp, by simp only; omega, by simp only; omega⟩
    refine (copied_n D3_33.cells hfew2).mono fun e w34 he => ?_
    obtain ⟨c33, n33, rfl, hb34, C33⟩ := he
    have z34 := hb34.size
    have L_34 := L_33.below hb34
    have D3_34 := D3_33.below hb34
    refine ⟨_, _, _, _, _, _, _, _, _, rfl, hb34, ?_⟩
    intro w35 hb35 hk35
    have z35 := hk35.size; have o35 := hk35.own
    simp only [List.mem_cons, List.not_mem_nil, or_false, forall_eq_or_imp, forall_eq] at o35
    have L_35 := Lies.kio L_34 hk35 (allc (.inr (by omega)) (allc (.inr (by omega)) (allc (.inr (by omega)) (allc (.inr (by omega)) (allc d1_m6 (allc d1_m5 (allc (.inl (by omega)) (allc (.inl (by omega)) all0)))))))) ⟨(0, w32.heap.size), by simp, by simp only; omega, by simp only; omega⟩
    have D3_35 := Lies.kio D3_34 hk35 (allc (.inr (by omega)) (allc (.inr (by omega)) (allc (.inr (by omega)) (allc (.inl (by omega)) (allc (.inl (by omega)) (allc (.inl (by omega)) (allc (.inl (by omega)) (allc (.inl (by omega)) all0)))))))) ⟨(0, w32.heap.size), by simp, by simp only; omega, by simp only; omega⟩
    have C33_35 := Lies.kio C33 hk35 (allc (.inl (by omega)) (allc (.inl (by omega)) (allc (.inl (by omega)) (allc (.inl (by omega)) (allc (.inl (by omega)) (allc (.inl (by omega)) (allc (.inl (by omega)) (allc (.inl (by omega)) all0)))))))) ⟨(w33.heap.size, w34.heap.size), by simp, by simp only; omega, by simp only; omega⟩
    refine Pure.calls (LR1 C33_35.cells) fun w36 hb36 => ?_
    have z36 := hb36.size
    have L_36 := L_35.below hb36
    have D3_36 := D3_35.below hb36
    refine ⟨_, _, _, rfl, hb36, ?_⟩
    intro m31 g_m31 d0_m31 d1_m31 w37 hb37 hk37
    have z37 := hk37.size; have o37 := hk37.own
    simp only [List.mem_cons, List.not_mem_nil, or_false, forall_eq_or_imp, forall_eq] at o37
    have L_37 := Lies.kio L_36 hk37 (allc (.inr (by omega)) (allc (.inr (by omega)) (allc (.inr (by omega)) (allc (.inr (by omega)) (allc (.inr (by omega)) (allc d1_m6 (allc d1_m5 (allc (.inl (by omega)) (allc (.inl (by omega)) all0))))))))) ⟨(0, w36.heap.size), by simp, by simp only; omega, by simp only; omega⟩
    have D3_37 := Lies.kio D3_36 hk37 (allc (.inr (by omega)) (allc (.inr (by omega)) (allc (.inr (by omega)) (allc (.inr (by omega)) (allc (.inl (by omega)) (allc (.inl (by omega)) (allc (.inl (by omega)) (allc (.inl (by omega)) (allc (.inl (by omega)) all0))))))))) ⟨(0, w36.heap.size), by simp, by simp only; omega, by simp only; omega⟩
    refine (copied_l (clockC m) L_37.cells (by omega)).mono fun e w38 he => ?_
    obtain ⟨c37, n37, rfl, hb38, C37⟩ := he
    have z38 := hb38.size
    have D3_38 := D3_37.below hb38
    refine ⟨_, _, _, _, _, _, _, _, _, rfl, hb38, ?_⟩
    intro w39 hb39 hk39
    have z39 := hk39.size; have o39 := hk39.own
    simp only [List.mem_cons, List.not_mem_nil, or_false, forall_eq_or_imp, forall_eq] at o39
    have D3_39 := Lies.kio D3_38 hk39 (allc (.inr (by omega)) (allc (.inr (by omega)) (allc (.inr (by omega)) (allc (.inr (by omega)) (allc (.inl (by omega)) (allc (.inl (by omega)) (allc (.inl (by omega)) (allc (.inl (by omega)) (allc (.inl (by omega)) all0))))))))) ⟨(0, w36.heap.size), by simp, by simp only; omega, by simp only; omega⟩
    have C37_39 := Lies.kio C37 hk39 (allc (.inl (by omega)) (allc (.inl (by omega)) (allc (.inl (by omega)) (allc (.inl (by omega)) (allc (.inl (by omega)) (allc (.inl (by omega)) (allc (.inl (by omega)) (allc (.inl (by omega)) (allc (.inl (by omega)) all0))))))))) ⟨(w37.heap.size, w38.heap.size), by simp, by simp only; omega, by simp only; omega⟩
    refine Pure.calls (LC0 C37_39.cells) fun w40 hb40 => ?_
    have z40 := hb40.size
    have D3_40 := D3_39.below hb40
    refine ⟨_, _, _, rfl, hb40, ?_⟩
    intro m34 g_m34 d0_m34 d1_m34 w41 hb41 hk41
    have z41 := hk41.size; have o41 := hk41.own
    simp only [List.mem_cons, List.not_mem_nil, or_false, forall_eq_or_imp, forall_eq] at o41
    have D3_41 := Lies.kio D3_40 hk41 (allc (.inr (by omega)) (allc (.inr (by omega)) (allc (.inr (by omega)) (allc (.inr (by omega)) (allc (.inr (by omega)) (allc (.inl (by omega)) (allc (.inl (by omega)) (allc (.inl (by omega)) (allc (.inl (by omega)) (allc (.inl (by omega)) all0)))))))))) ⟨(0, w40.heap.size), by simp, by simp only; omega, by simp only; omega⟩
    refine (copied_n D3_41.cells hfew2).mono fun e w42 he => ?_
    obtain ⟨c41, n41, rfl, hb42, C41⟩ := he
    have z42 := hb42.size
    refine ⟨_, _, _, _, _, _, _, _, _, rfl, hb42, ?_⟩
    intro w43 hb43 hk43
    have z43 := hk43.size; have o43 := hk43.own
    simp only [List.mem_cons, List.not_mem_nil, or_false, forall_eq_or_imp, forall_eq] at o43
    have C41_43 := Lies.kio C41 hk43 (allc (.inl (by omega)) (allc (.inl (by omega)) (allc (.inl (by omega)) (allc (.inl (by omega)) (allc (.inl (by omega)) (allc (.inl (by omega)) (allc (.inl (by omega)) (allc (.inl (by omega)) (allc (.inl (by omega)) (allc (.inl (by omega)) all0)))))))))) ⟨(w41.heap.size, w42.heap.size), by simp, by simp only; omega, by simp only; omega⟩
    refine Pure.calls (LC1 C41_43.cells) fun w44 hb44 => ?_
    have z44 := hb44.size
    refine ⟨_, _, _, rfl, hb44, ?_⟩
    intro m37 g_m37 d0_m37 d1_m37
    refine ⟨?_, (fun h => absurd h (by first | omega | decide))⟩
    intro k220
    refine ⟨?_, (fun h => absurd h (by first | omega | decide))⟩
    intro k222
    refine ⟨?_, (fun h => absurd h (by first | omega | decide))⟩
    intro k224
    refine ⟨?_, (fun h => absurd h (by first | omega | decide))⟩
    intro k226
    refine ⟨?_, (fun h => absurd h (by first | omega | decide))⟩
    intro k228
    refine ⟨?_, (fun h => absurd h (by first | omega | decide))⟩
    intro k230
    refine ⟨?_, (fun h => absurd h (by first | omega | decide))⟩
    intro k232
    refine ⟨?_, (fun h => absurd h (by first | omega | decide))⟩
    intro k234
    refine ⟨?_, (fun h => absurd h (by first | omega | decide))⟩
    intro k236 w45 hb45 hk45
    have z45 := hk45.size; have o45 := hk45.own
    simp only [List.mem_cons, List.not_mem_nil, or_false, forall_eq_or_imp, forall_eq] at o45
    refine Pure.calls (known_any w45) fun w46 hb46 => ?_
    have z46 := hb46.size
    refine ⟨_, rfl, .all hb46, ?_⟩
    intro w47 hb47 hk47
    have z47 := hk47.size; have o47 := hk47.own
    simp only [List.mem_cons, List.not_mem_nil, or_false, forall_eq_or_imp, forall_eq] at o47
    exact ⟨rfl, hb47⟩
end Go.Proofs.R03
end
