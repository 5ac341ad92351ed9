/- Part 7: own lemmas, and the conditions of the functions. -/
import Derived.Test.YtjljemboankbeaaProg
import Derived.Test.YtjljemboankbeaaP06
section
/- Patterns whose rows lie in blocks of their own, and can be written. -/
namespace Go.Proofs.R12
open Go.Vc Go.RowKit Go.Proofs
/-- A block that begins with these sizes. -/
def InD (d : Nat) (p : List Sp) (w : World) : Prop := ∃ cs : List Value, w.heap[d]? = some (.cells cs.toArray 42 (0, 0)) ∧ spansV p <+: cs
theorem InD.lt {d : Nat} {p : List Sp} {w : World} (h : InD d p w) : d < w.heap.size := by
  obtain ⟨cs, h, _⟩ := h; exact lt_of_some h
theorem InD.chg {d : Nat} {p : List Sp} {w w' : World} {S : List Nat} (h : InD d p w) (hc : Chg S w w') (hd : d ∉ S) : InD d p w' := by
  have hl := h.lt
  obtain ⟨cs, h, hp⟩ := h
  exact ⟨cs, by rw [hc.keep d hl hd]; exact h, hp⟩
theorem InD.cells {d : Nat} {p : List Sp} {w : World} (h : InD d p w) : Cells w (some ⟨d, 0, none⟩) (spansV p) := fun i v hi => by
  obtain ⟨cs, h, r, rfl⟩ := h
  refine ⟨d, 0, rfl, ?_⟩
  rw [Nat.zero_add]
  refine cell_obj (vs := spansV p ++ r) h ?_
  rw [List.getElem?_append_left (List.getElem?_eq_some_iff.1 hi).1]; exact hi
theorem InD.of {w : World} {a : Option Addr} {n c B : Nat} {p : List Sp} (hn : 0 < n) (h : n = 0 ∨ Row 42 2 B [] a n c (spansV p) w) : ∃ d, a = some ⟨d, 0, none⟩ ∧ (B ≤ d ∧ d < w.heap.size) ∧ InD d p w := by
  have h := h.resolve_left (by omega)
  rcases h.own.2 with ⟨he, h0⟩ | ⟨g, cap, cur, he, _, hg, _, _, _, ht⟩
  · omega
  · simp only [Value.slice.injEq] at he
    have hl := h.lt g 0 (by rw [he.1])
    refine ⟨g, he.1, hl, cur.toList, by simpa using hg, ?_⟩
    rw [← ht]; exact List.take_prefix _ _
abbrev DEl := Nat × Nat × List Sp
def dVals (xs : List DEl) : List Value := xs.map fun x => .slice (some ⟨x.1, 0, none⟩) x.2.2.length x.2.1
structure DRow (B : Nat) (own : List Nat) (a : Option Addr) (n c : Nat) (xs : List DEl) (qs : List (Nat × List Sp)) (w : World) : Prop where
  len : n = xs.length
  nd : (xs.map (·.1) ++ qs.map (·.1)).Nodup
  r : ∀ d ∈ xs.map (·.1) ++ qs.map (·.1), B ≤ d ∧ d < w.heap.size ∧ d ∉ own
  row : RowE 89 1 B (own ++ (xs.map (·.1) ++ qs.map (·.1))) a n c (dVals xs) w
  el : ∀ x ∈ xs, InD x.1 x.2.2 w
  q : ∀ x ∈ qs, InD x.1 x.2 w
section
variable {B n c : Nat} {own : List Nat} {a : Option Addr} {xs : List DEl} {qs : List (Nat × List Sp)} {w w' : World}
theorem DRow.of (h : RowE 89 1 B own a 0 c [] w) : DRow B own a 0 c [] [] w := ⟨rfl, by simp, by simp, by simpa [dVals] using h, by simp, by simp⟩
theorem DRow.chg {S : List Nat} (h : DRow B own a n c xs qs w) (hc : Chg S w w') (hs : ∀ x ∈ S, x ∈ own) : DRow B own a n c xs qs w' :=
  ⟨h.len, h.nd, fun d hd => ⟨(h.r d hd).1, Nat.lt_of_lt_of_le (h.r d hd).2.1 hc.size, (h.r d hd).2.2⟩, h.row.chg hc fun x hx => List.mem_append_left _ (hs x hx),
   fun x hx => (h.el x hx).chg hc fun hm => (h.r x.1 (List.mem_append_left _ (List.mem_map.2 ⟨x, hx, rfl⟩))).2.2 (hs _ hm), fun x hx => (h.q x hx).chg hc fun hm => (h.r x.1 (List.mem_append_right _ (List.mem_map.2 ⟨x, hx, rfl⟩))).2.2 (hs _ hm)⟩
theorem DRow.grow (h : DRow B own a n c xs qs w) {ms : List Nat} (hm : ∀ m ∈ ms, w.heap.size ≤ m) : DRow B (ms ++ own) a n c xs qs w :=
  ⟨h.len, h.nd, fun d hd => ⟨(h.r d hd).1, (h.r d hd).2.1, fun hx => by
    rcases List.mem_append.1 hx with hx | hx
    · have := hm d hx; have := (h.r d hd).2.1; omega
    · exact (h.r d hd).2.2 hx⟩, by rw [List.append_assoc]; exact h.row.grow hm, h.el, h.q⟩
theorem DRow.less {own' : List Nat} (h : DRow B own a n c xs qs w) (ho : ∀ x ∈ own', x ∈ own) : DRow B own' a n c xs qs w :=
  ⟨h.len, h.nd, fun d hd => ⟨(h.r d hd).1, (h.r d hd).2.1, fun hx => (h.r d hd).2.2 (ho d hx)⟩, h.row.less fun x hx => by
    rcases List.mem_append.1 hx with hx | hx
    · exact List.mem_append_left _ (ho x hx)
    · exact List.mem_append_right _ hx, h.el, h.q⟩
theorem DRow.sub (h : DRow B own a n c xs [] w) (hb : Below w.heap.size w w') {d : Nat} {p : List Sp} (hd : w.heap.size ≤ d ∧ d < w'.heap.size) (hp : InD d p w') (hB : B ≤ w.heap.size) (ho : ∀ y ∈ own, y < w.heap.size) : DRow B own a n c xs [(d, p)] w' := by
  have hc : Chg [] w w' := Chg.of_below hb
  have hr := h.r; have hnd := h.nd
  simp only [List.map_nil, List.append_nil] at hr hnd
  have hrow := ((h.row.grow (ms := [d]) (fun m hm => by rw [List.mem_singleton.1 hm]; exact hd.1)).below hb)
  refine ⟨h.len, ?_, fun x hx => ?_, hrow.less fun x hx => ?_, fun x hx => (h.el x hx).chg hc (by simp), fun x hx => ?_⟩
  · refine List.nodup_append.2 ⟨hnd, by simp, fun x hx y hy => ?_⟩
    simp only [List.map_cons, List.map_nil, List.mem_singleton] at hy
    have := (hr x hx).2.1; omega
  · rcases List.mem_append.1 hx with hx | hx
    · exact ⟨(hr x hx).1, Nat.lt_of_lt_of_le (hr x hx).2.1 hb.size, (hr x hx).2.2⟩
    · simp only [List.map_cons, List.map_nil, List.mem_singleton] at hx
      subst hx
      exact ⟨by omega, hd.2, fun hm => by have := ho _ hm; omega⟩
  · simp only [List.mem_append, List.map_cons, List.map_nil, List.mem_cons, List.not_mem_nil, or_false, List.append_nil] at hx ⊢
    rcases hx with hx | hx | hx
    · exact .inr (.inl hx)
    · exact .inr (.inr hx)
    · exact .inl hx
  · rw [List.mem_singleton.1 hx]; exact hp
theorem DRow.append {d : Nat} {p : List Sp} {b o cc k : Nat} (h : DRow B own a n c xs [(d, p)] w) (hc : Cells w (some ⟨b, o, none⟩) [.slice (some ⟨d, 0, none⟩) p.length k]) (hn1 : n + 1 ≤ 140737488355328) (hn : (n + 1) * 24 ≤ 140737488355328) (hB : B ≤ w.heap.size) (ho : ∀ y ∈ own, y < w.heap.size) {R : Value → World → Prop}
    (hR : ∀ a2 c2 w', DRow B own a2 (n + 1) c2 (xs ++ [(d, k, p)]) [] w' → ∀ S, Chg S w w' → (∀ s ∈ S, B ≤ s ∧ s ∉ own) → R (.slice a2 (n + 1) c2) w') :
    RunsTo Try.prog (Builtin.append_ #[22, 22] 22 #[.slice a n c, .slice (some ⟨b, o, none⟩) 1 cc]) w R := by
  refine append_rowE (P := Try.prog) (bytes := 24) (by kernel_rfl) (by omega) h.row (m := 1) (news := [.slice (some ⟨d, 0, none⟩) p.length k]) hc rfl (List.forall_mem_cons.2 ⟨rfl, by simp⟩) hn1 hn hB (fun y hy => by
    rcases List.mem_append.1 hy with hy | hy
    · exact ho y hy
    · exact (h.r y hy).2.1) (by omega) fun a2 c2 w' hrow S cS hS => ?_
  have hN : ∀ x, x ∈ (xs.map (·.1) ++ [(d, p)].map (·.1)) → x ∉ S := fun x hx hm => (hS x hm).2 (List.mem_append_right _ hx)
  have e : (xs ++ [(d, k, p)]).map (·.1) ++ ([] : List (Nat × List Sp)).map (·.1) = xs.map (·.1) ++ [(d, p)].map (·.1) := by simp
  refine hR a2 c2 w' ⟨by rw [List.length_append, ← h.len]; rfl, by rw [e]; exact h.nd, fun x hx => ?_, ?_, fun x hx => ?_, by simp⟩ S cS fun s hs => ⟨(hS s hs).1, fun hm => (hS s hs).2 (List.mem_append_left _ hm)⟩
  · rw [e] at hx
    exact ⟨(h.r x hx).1, Nat.lt_of_lt_of_le (h.r x hx).2.1 cS.size, (h.r x hx).2.2⟩
  · rw [e]
    right; simpa [dVals] using hrow
  · rcases List.mem_append.1 hx with hx | hx
    · exact (h.el x hx).chg cS (hN _ (List.mem_append_left _ (List.mem_map.2 ⟨x, hx, rfl⟩)))
    · rw [List.mem_singleton.1 hx]
      exact (h.q (d, p) (by simp)).chg cS (hN _ (by simp))
end
end Go.Proofs.R12
end
section
/- The copy of works, with rows that can be written. -/
namespace Go.Proofs.R12
open Go.Vc Go.RowKit Go.Proofs
structure PatsD (lo hi : Nat) (w : World) (a : Option Addr) (xs : List DEl) : Prop where
  blk : xs ≠ [] → ∀ b o, a = some ⟨b, o, none⟩ → (lo ≤ b ∧ b < hi) ∧ b ∉ xs.map (·.1)
  c : Cells w a (dVals xs)
  nd : (xs.map (·.1)).Nodup
  r : ∀ d ∈ xs.map (·.1), lo ≤ d ∧ d < hi
  el : ∀ x ∈ xs, InD x.1 x.2.2 w
theorem DRow.patsD {B n c lo : Nat} {own : List Nat} {a : Option Addr} {xs : List DEl} {w : World} (h : DRow B own a n c xs [] w) (hB : lo ≤ B) : PatsD lo w.heap.size w a xs := by
  have hr := h.r; have hnd := h.nd; have hrow := h.row
  simp only [List.map_nil, List.append_nil] at hr hnd hrow
  by_cases h0 : xs = []
  · subst h0
    exact ⟨fun h => absurd rfl h, Cells.nil, by simp, by simp, by simp⟩
  · have hrow := hrow.resolve_left fun hh => h0 (by have := hh.2.2.2; simpa [dVals] using this)
    exact ⟨fun _ b o e => ⟨by have := hrow.lt b o e; omega, fun hm => hrow.ns b o e (List.mem_append_right _ hm)⟩, hrow.cells, hnd, fun d hd => by have := hr d hd; omega, h.el⟩
def FitsD (lo hi : Nat) (w : World) (a : Option Addr) (fs : List Fit) : Prop := ∃ d, a = some ⟨d, 0, none⟩ ∧ (lo ≤ d ∧ d < hi) ∧ ∃ cs : List Value, w.heap[d]? = some (.cells cs.toArray 67 (0, 0)) ∧ fitsV fs <+: cs
section
variable {lo hi : Nat} {w w' : World} {a : Option Addr} {fs : List Fit}
theorem FitsD.out {S : List Nat} (h : FitsD lo hi w a fs) (hc : Chg S w w') (hs : ∀ x ∈ S, x < lo ∨ hi ≤ x) : FitsD lo hi w' a fs := by
  obtain ⟨d, e, hd, cs, h1, h2⟩ := h
  exact ⟨d, e, hd, cs, by rw [hc.keep d (lt_of_some h1) fun hm => by have := hs d hm; omega]; exact h1, h2⟩
theorem FitsD.ko {bs : List Nat} (h : FitsD lo hi w a fs) (hk : Kept bs w w') (hs : ∀ x ∈ bs, x < lo ∨ hi ≤ x) : FitsD lo hi w' a fs := h.out (Chg.kept hk) hs
theorem FitsD.below (h : FitsD lo hi w a fs) (hb : Below w.heap.size w w') : FitsD lo hi w' a fs := h.out (S := []) (Chg.of_below hb) (by simp)
theorem FitsD.to {lo' hi' : Nat} (h : FitsD lo hi w a fs) (h1 : lo' ≤ lo) (h2 : hi ≤ hi') : FitsD lo' hi' w a fs := by
  obtain ⟨d, e, hd, r⟩ := h
  exact ⟨d, e, ⟨by omega, by omega⟩, r⟩
theorem FitsD.of {n c B : Nat} (hn : 0 < n) (h : n = 0 ∨ Row 67 6 B [] a n c (fitsV fs) w) : FitsD B w.heap.size w a fs := by
  have h := h.resolve_left (by omega)
  rcases h.own.2 with ⟨he, h0⟩ | ⟨g, cap, cur, he, _, hg, _, _, _, ht⟩
  · omega
  · simp only [Value.slice.injEq] at he
    have hl := h.lt g 0 (by rw [he.1])
    exact ⟨g, he.1, hl, cur.toList, by simpa using hg, by rw [← ht]; exact List.take_prefix _ _⟩
end
theorem FitsD.kio {lo hi : Nat} {w w' : World} {a : Option Addr} {fs : List Fit} {rs : List (Nat × Nat)} {bs : List Nat} (h : FitsD lo hi w a fs) (hk : KeptIn rs bs w w') (hs : ∀ x ∈ bs, x < lo ∨ hi ≤ x) (hin : ∃ r ∈ rs, r.1 ≤ lo ∧ hi ≤ r.2) : FitsD lo hi w' a fs := by
  obtain ⟨d, e, hd, cs, h1, h2⟩ := h
  obtain ⟨r, hr, hr1, hr2⟩ := hin
  exact ⟨d, e, hd, cs, by rw [hk.block d (lt_of_some h1) (fun hm => by have := hs d hm; omega) ⟨r, hr, by omega, by omega⟩]; exact h1, h2⟩
set_option maxRecDepth 100000 in
theorem works_d {w : World} {W : Wk} {pa fa : Option Addr} {pc fc : Nat} (hp : CellsS w pa W.pats) (hf : Cells w fa (fitsV W.fits)) (hW : ShopW W) : Calls Try.prog 15 #[W.v pa pc fa fc] w (fun e w' => ∃ pa' pc' fa' fc' xs mid, e = .returned (W.v pa' pc' fa' fc') ∧ Below w.heap.size w w' ∧ (xs.map (·.2.2) = W.pats ∧ (w.heap.size ≤ mid ∧ mid ≤ w'.heap.size) ∧ PatsD mid w'.heap.size w' pa' xs) ∧ FitsD w.heap.size mid w' fa' W.fits) := by
  have hS := hW.small
  have hm := hS.m; have hn := hS.n
  refine vc15 _ _ _ _ _ _ w _ ?_
  intro m1 g_m1 m2 g_m2 m3 g_m3 w1 hb1 hk1 hc1_m3
  have y1 := hb1.size
  have z1 := hk1.size; have o1 := hk1.own
  simp only [List.mem_cons, List.not_mem_nil, or_false, forall_eq_or_imp, forall_eq] at o1
  refine append_copy (P := Try.prog) (e := 67) (bytes := 48) (size := 6) (by kernel_rfl) (by omega) (hf.keep hb1) (fitsV_len _) (by omega) (by omega) fun aC2 cC2 w2 hd2 hC2 nC2 xC2 rC2 => ?_
  have hb2 := hb1.trans (hd2.mono hb1.size)
  have z2 := hd2.size
  have hWm := hW.m
  have C2_2 : FitsD w1.heap.size w2.heap.size w2 aC2 W.fits := FitsD.of (by omega) rC2
  refine ⟨_, _, _, rfl, .all hd2, ?_⟩
  intro m8 g_m8
  refine ⟨fun ls w' => match ls with | [.int _ ii, .sl a n c, .sl a3 n3 c3] => (0 ≤ ii ∧ ii ≤ W.pats.length) ∧ n3 = W.fits.length ∧ w2.heap.size ≤ w'.heap.size ∧ (∃ xs, xs.map (·.2.2) = W.pats.take ii.toNat ∧ DRow w2.heap.size [m3, m8, m2, m1] a n c xs [] w') ∧ FitsD w1.heap.size w2.heap.size w' a3 W.fits | _ => False, fun ls => match ls with | [.int _ ii, _, _] => (W.pats.length - ii).toNat | _ => 0, ?_, ?_⟩
  · intro w4 hb4 hk4
    have y4 := hb4.size
    have z4 := hk4.size; have o4 := hk4.own
    simp only [List.mem_cons, List.not_mem_nil, or_false, forall_eq_or_imp, forall_eq] at o4
    have C2_4 := C2_2.ko hk4 (allc (.inl (by omega)) (allc (.inr (by omega)) (allc (.inl (by omega)) (allc (.inl (by omega)) all0))))
    exact ⟨⟨by omega, by omega⟩, rfl, by omega, ⟨[], rfl, DRow.of (.inr Row.nil)⟩, C2_4⟩
  rintro x1 a2 m9 m10 a3 m11 m12 w5 hb5 ⟨⟨x0, xl⟩, rfl, zz, ⟨xs, hxs, RR⟩, FF⟩
  have y5 := hb5.size
  have hRn := RR.len
  have hxl := congrArg List.length hxs
  rw [List.length_map, List.length_take] at hxl
  refine ⟨?_, ?_⟩
  · intro h1 m13 g_m13
    try simp only [Bool.not_eq_true', Bool.not_eq_false', decide_eq_true_eq, decide_eq_false_iff_not] at h1
    refine load_pat hp hb5 (by omega) fun m14 m15 hm1 a4 m17 hs1 => ?_
    have hpl : (W.pats.getD x1.toNat []).length ≤ 1000 := hS.pat x1
    refine ⟨(by first | omega | (simp only; omega)), ?_⟩
    intro w6 hb6 hk6 hc6_m13
    have y6 := hb6.size
    have z6 := hk6.size; have o6 := hk6.own
    simp only [List.mem_cons, List.not_mem_nil, or_false, forall_eq_or_imp, forall_eq] at o6
    have FF_6 := FF.kio hk6 (allc (.inr (by omega)) (allc (.inl (by omega)) (allc (.inr (by omega)) (allc (.inl (by omega)) (allc (.inl (by omega)) all0))))) ⟨(0, w5.heap.size), by simp, by simp only; omega, by simp only; omega⟩
    have RR_6 := (RR.grow (ms := [m13]) (allc g_m13 all0)).chg (KeptIn.chg hk6) (fun _ h => h)
    refine append_copy (P := Try.prog) (e := 42) (bytes := 16) (size := 2) (by kernel_rfl) (by omega) (hs1.keep hb6) (spansV_len _) (by omega) (by omega) fun aC7 cC7 w7 hd7 hC7 nC7 xC7 rC7 => ?_
    have hb7 := hb6.trans (hd7.mono hb6.size)
    have z7 := hd7.size
    have FF_7 := FF_6.below hd7
    have C7_7 : Lies [] w6.heap.size w7.heap.size w7 aC7 _ := Lies.new hC7 nC7 (by simp)
    have hpk := (okP_get hW.p (i := x1) (by omega)).1
    obtain ⟨d7, rfl, hd7r, hIn7⟩ := InD.of (by omega) rC7
    have RR_7 := RR_6.sub hd7 hd7r hIn7 (by omega) hk6.own
    refine ⟨_, _, _, rfl, .all hd7, ?_⟩
    intro m22 g_m22 w8 hb8 hk8 hc8_m22
    have y8 := hb8.size
    have z8 := hk8.size; have o8 := hk8.own
    simp only [List.mem_cons, List.not_mem_nil, or_false, forall_eq_or_imp, forall_eq] at o8
    have FF_8 := FF_7.kio hk8 (allc (.inr (by omega)) (allc (.inr (by omega)) (allc (.inl (by omega)) (allc (.inr (by omega)) (allc (.inl (by omega)) (allc (.inl (by omega)) all0)))))) ⟨(0, w7.heap.size), by simp, by simp only; omega, by simp only; omega⟩
    have C7_8 := C7_7.kio hk8 (allc (.inr (by omega)) (allc (.inl (by omega)) (allc (.inl (by omega)) (allc (.inl (by omega)) (allc (.inl (by omega)) (allc (.inl (by omega)) all0)))))) ⟨(0, w7.heap.size), by simp, by simp only; omega, by simp only; omega⟩
    have RR_8 := (RR_7.grow (ms := [m22]) (allc g_m22 all0)).chg (KeptIn.chg hk8) (fun _ h => h)
    refine DRow.append (k := cC7) RR_8 (Cells.obj (vs := [.slice _ _ _]) hc8_m22) (by omega) (by omega) (by omega) hk8.own fun aR9 cR9 w9 RR_9 S9 cS9 hS9 => ?_
    have z9 := cS9.size
    have kx9 : KeepX true w.heap.size [m22, m13, m3, m8, m2, m1] (fun _ => False) w8 w9 := cS9.own (fun x hx => ⟨hk8.own x hx, fun h => (hS9 x h).2 hx⟩) (by simp) (fun _ => ⟨hb8.size, fun x hx => by have := (hS9 x hx).1; omega⟩)
    have FF_9 := FF_8.out cS9 (fun x hx => by have := (hS9 x hx).1; omega)
    refine ⟨_, _, _, rfl, kx9, (by first | omega | (simp only; omega)), ?_⟩
    intro w10 hb10 hk10
    have y10 := hb10.size
    have z10 := hk10.size; have o10 := hk10.own
    simp only [List.mem_cons, List.not_mem_nil, or_false, forall_eq_or_imp, forall_eq] at o10
    have FF_10 := FF_9.ko hk10 (allc (.inr (by omega)) (allc (.inr (by omega)) (allc (.inl (by omega)) (allc (.inr (by omega)) (allc (.inl (by omega)) (allc (.inl (by omega)) all0))))))
    have RR_10 := RR_9.chg (Chg.kept hk10) (fun _ h => h)
    refine ⟨?_, (by first | omega | (simp only; omega))⟩
    exact ⟨⟨by omega, by omega⟩, rfl, by omega, ⟨_, by rw [show (x1 + 1).toNat = x1.toNat + 1 by omega, take_getD (d := []) (by omega), List.map_append, hxs]; rfl, RR_10.less (by simp)⟩, FF_10⟩
  · intro h2 w11 hb11 hk11
    try simp only [Bool.not_eq_true', Bool.not_eq_false', decide_eq_true_eq, decide_eq_false_iff_not] at h2
    have y11 := hb11.size
    have z11 := hk11.size; have o11 := hk11.own
    simp only [List.mem_cons, List.not_mem_nil, or_false, forall_eq_or_imp, forall_eq] at o11
    have FF_11 := FF.ko hk11 (allc (.inl (by omega)) (allc (.inr (by omega)) (allc (.inl (by omega)) (allc (.inl (by omega)) all0))))
    have RR_11 := RR.chg (Chg.kept hk11) (fun _ h => h)
    have hk : x1.toNat = W.pats.length := by omega
    rw [hk, List.take_length] at hxs
    exact ⟨a2, m10, a3, m12, xs, w2.heap.size, by rw [RR_11.len, show xs.length = W.pats.length by rw [← hxs, List.length_map]], hb11, ⟨hxs, ⟨by omega, by omega⟩, RR_11.patsD (Nat.le_refl _)⟩, FF_11.to (by omega) (Nat.le_refl _)⟩

end Go.Proofs.R12
end
section
/- The conditions of the functions, printed by program; each is what the generator reckons (kernel_rfl). -/
namespace Go.Proofs
open Go.Vc
end Go.Proofs
end
section
/- A good piece out of bytes. -/
namespace Go.Proofs.R12
open Go.Vc Go.RowKit Go.Proofs
/-- The size that the bytes say. -/
def bySize (s : Sp) (b : Int) : Int := s.1 + b.tmod (s.2 - s.1 + 1)
def byPiece (p : List Sp) (l : List Int) (k : Int) (n : Nat) : List Int := (List.range n).map fun i => bySize (p.getD i (0, 0)) (byteM l (k + i))
theorem byPiece_len {p : List Sp} {l : List Int} {k : Int} {n : Nat} : (byPiece p l k n).length = n := by simp [byPiece]
end Go.Proofs.R12
end
section
/- The law PartAll, without the program. -/
namespace Go.Proofs.R12
open Go.Vc Go.RowKit Go.Proofs
structure GoodP (W : Wk) (x : Piece) : Prop where
  r : 0 ≤ x.pat ∧ x.pat < W.pats.length
  n : x.sizes.length = (W.pat x.pat).length
  g : ∀ j : Nat, j < x.sizes.length → ((W.pat x.pat).getD j (0, 0)).1 ≤ x.sizes.getD j 0 ∧ x.sizes.getD j 0 ≤ ((W.pat x.pat).getD j (0, 0)).2
def byP (W : Wk) (l : List Int) (i k : Int) : Piece := ⟨i, byPiece (W.pats.getD i.toNat []) l k (W.pats.getD i.toNat []).length⟩
section
variable {W : Wk}
abbrev fitHS (W : Wk) (f : Fit) : Sp := (W.pats.getD f.hole.toNat []).getD f.hs.toNat (0, 0)
abbrev fitSS (W : Wk) (f : Fit) : Sp := (W.pats.getD f.shaft.toNat []).getD f.ss.toNat (0, 0)
abbrev fit00 : Fit := ⟨0, 0, 0, 0, (0, 0)⟩
structure LInv (W : Wk) (k : Nat) (L : List Gap) : Prop where
  inc : L.Pairwise fun a b => a.fit < b.fit
  r : ∀ g ∈ L, (0 ≤ g.fit ∧ g.fit < k) ∧ badF W (W.fits.getD g.fit.toNat fit00) = (g.hole, g.shaft, true)
  all : ∀ i : Nat, i < k → (badF W (W.fits.getD i fit00)).2.2 = true → ∃ g ∈ L, g.fit = i
theorem fit_ok (hW : ShopW W) {i : Int} (hi : 0 ≤ i ∧ i < W.fits.length) : OkF W.pats (W.fits.getD i.toNat fit00) := (all_getD (d := fit00)).1 hW.f i.toNat (by omega)
abbrev gap0 : Gap := ⟨0, 0, 0⟩
def looseF (W : Wk) (k : Nat) : List Int := ((LooseM W).take k).map (·.fit)
end
end Go.Proofs.R12
end
section
/- The law PartWider, without the program. -/
namespace Go.Proofs.R12
open Go.Vc Go.RowKit Go.Proofs
/-- The first size, with a wider tolerance. -/
def widen : List Sp → List Sp
  | [] => []
  | s :: r => (s.1 - 1, s.2 + 2) :: r
/-- Patterns, some of them with a wider first size: those from k on are as they were. -/
structure Wid (W : Wk) (ps : List (List Sp)) (k : Nat) : Prop where
  n : ps.length = W.pats.length
  w : ∀ j, j < ps.length → ps.getD j [] = W.pats.getD j [] ∨ ps.getD j [] = widen (W.pats.getD j [])
  e : ∀ j, k ≤ j → ps.getD j [] = W.pats.getD j []
section
variable {W : Wk} {ps : List (List Sp)} {k : Nat}
theorem set_getD {α : Type} {l : List α} {i j : Nat} {x d : α} (hi : i < l.length) : (l.set i x).getD j d = if i = j then x else l.getD j d := by
  rw [List.getD_eq_getElem?_getD, List.getD_eq_getElem?_getD, List.getElem?_set]
  split
  · rename_i h; subst h; simp
  · rfl
/-- Fits with wider gaps: those from k on are as they were. -/
structure WidF (W : Wk) (fs : List Fit) (a b : Int) (k : Nat) : Prop where
  n : fs.length = W.fits.length
  w : ∀ j, j < k → fs.getD j fit00 = ⟨(W.fits.getD j fit00).hole, (W.fits.getD j fit00).hs, (W.fits.getD j fit00).shaft, (W.fits.getD j fit00).ss, ((W.fits.getD j fit00).gap.1 - b, (W.fits.getD j fit00).gap.2 + a)⟩
  e : ∀ j, k ≤ j → fs.getD j fit00 = W.fits.getD j fit00
end
end Go.Proofs.R12
end
section
/- Loads from, and stores to, the rows of a copy of works. -/
namespace Go.Proofs.R12
open Go.Vc Go.RowKit Go.Proofs
section
variable {lo hi : Nat} {w w' : World} {a : Option Addr} {xs : List DEl}
theorem dVals_get {i : Nat} {v : Value} (h : (dVals xs)[i]? = some v) : xs ≠ [] := by
  intro e; subst e; simp [dVals] at h
theorem PatsD.lies (h : PatsD lo hi w a xs) : LiesS lo hi w a (xs.map (·.2.2)) := fun i p hp => by
  rw [List.getElem?_map] at hp
  cases hx : xs[i]? with
  | none => rw [hx] at hp; simp at hp
  | some x =>
    rw [hx] at hp
    simp only [Option.map_some, Option.some.injEq] at hp
    subst hp
    have hm : x ∈ xs := List.mem_of_getElem? hx
    have hv : (dVals xs)[i]? = some (.slice (some ⟨x.1, 0, none⟩) x.2.2.length x.2.1) := by unfold dVals; rw [List.getElem?_map, hx]; rfl
    obtain ⟨b, o, e, hcell⟩ := h.c i _ hv
    have hr := h.r x.1 (List.mem_map.2 ⟨x, hm, rfl⟩)
    refine ⟨b, o, _, _, e, (h.blk (dVals_get hv) b o e).1, hcell, fun j v hj => ?_⟩
    obtain ⟨b', o', e', hc'⟩ := (h.el x hm).cells j v hj
    simp only [Option.some.injEq, Addr.mk.injEq, and_true] at e'
    obtain ⟨rfl, rfl⟩ := e'
    exact ⟨_, _, rfl, ⟨by simp, hr⟩, hc'⟩
end
end Go.Proofs.R12
end
section
/- Fits in a block that is written. -/
namespace Go.Proofs.R12
open Go.Vc Go.RowKit Go.Proofs
structure FB (d : Nat) (fs : List Fit) (w : World) : Prop where
  h : ∃ cs : List Value, w.heap[d]? = some (.cells cs.toArray 67 (0, 0)) ∧ fitsV fs <+: cs
section
variable {d : Nat} {fs : List Fit} {w w' : World}
theorem FB.lt (h : FB d fs w) : d < w.heap.size := by
  obtain ⟨cs, h, _⟩ := h.h; exact lt_of_some h
theorem FB.out {S : List Nat} (h : FB d fs w) (hc : Chg S w w') (hs : ∀ x ∈ S, x < d ∨ d + 1 ≤ x) : FB d fs w' := by
  have hl := h.lt
  obtain ⟨cs, h1, h2⟩ := h.h
  exact ⟨cs, by rw [hc.keep d hl fun hm => by have := hs d hm; omega]; exact h1, h2⟩
theorem FB.ko {bs : List Nat} (h : FB d fs w) (hk : Kept bs w w') (hs : ∀ x ∈ bs, x < d ∨ d + 1 ≤ x) : FB d fs w' := h.out (Chg.kept hk) hs
theorem FB.kio {bs : List Nat} {rs : List (Nat × Nat)} (h : FB d fs w) (hk : KeptIn ((0, w.heap.size) :: rs) bs w w') (hs : ∀ x ∈ bs, x < d ∨ d + 1 ≤ x) : FB d fs w' := h.out hk.chg hs
theorem FB.below (h : FB d fs w) (hb : Below w.heap.size w w') : FB d fs w' := h.out (S := []) (Chg.of_below hb) (by simp)
theorem FB.cells (h : FB d fs w) : Cells w (some ⟨d, 0, none⟩) (fitsV fs) := fun i v hi => by
  obtain ⟨cs, h, r, rfl⟩ := h.h
  refine ⟨d, 0, rfl, ?_⟩
  rw [Nat.zero_add]
  refine cell_obj (vs := fitsV fs ++ r) h ?_
  rw [List.getElem?_append_left (List.getElem?_eq_some_iff.1 hi).1]; exact hi
theorem FitsD.fb {lo hi : Nat} {a : Option Addr} (h : FitsD lo hi w a fs) : ∃ d, a = some ⟨d, 0, none⟩ ∧ (lo ≤ d ∧ d < hi) ∧ FB d fs w := by
  obtain ⟨d, e, hd, r⟩ := h
  exact ⟨d, e, hd, ⟨r⟩⟩
theorem fits_split {i : Nat} (hi : i < fs.length) (f : Fit) : fitsV (fs.set i f) = fitsV (fs.take i) ++ (f.cells ++ fitsV (fs.drop (i + 1))) := by
  rw [List.set_eq_take_append_cons_drop, if_pos hi]
  simp [fitsV]
theorem fits_same {i : Nat} (hi : i < fs.length) : fitsV fs = fitsV (fs.take i) ++ ((fs.getD i fit00).cells ++ fitsV (fs.drop (i + 1))) := by
  have h := fits_split hi (fs.getD i fit00)
  rw [← h]
  congr 1
  apply List.ext_getElem?
  intro j
  rw [List.getElem?_set]
  split
  · rename_i e; subst e; simp [hi]
  · rfl
end
end Go.Proofs.R12
end
section
/- The conditions of the functions, printed by program; each is what the generator reckons (kernel_rfl). -/
namespace Go.Proofs
open Go.Vc
end Go.Proofs
end
section
/- The law PartSure, walked. -/
namespace Go.Proofs.R12
open Go.Vc Go.RowKit Go.Proofs
end Go.Proofs.R12
end
section
/- Loads, maps and contracts for the walk of PartAll. -/
namespace Go.Proofs.R12
open Go.Vc Go.RowKit Go.Proofs
section
variable {w : World} {lo hi : Nat} {a : Option Addr} {i : Int}
end
section
variable {w : World} {lo hi n : Nat} {a : Option Addr} {i : Int}
end
/-- A set of integers in a block. -/
structure MapAt (m : Nat) (Z : List Int) (w : World) : Prop where
  h : MapC w m I (setV Z)
section
variable {m : Nat} {Z : List Int} {w w' : World}
theorem MapAt.out {S : List Nat} (h : MapAt m Z w) (hc : Chg S w w') (hs : ∀ x ∈ S, x < m ∨ m + 1 ≤ x) : MapAt m Z w' := ⟨h.h.chg hc fun hm => by have := hs m hm; omega⟩
theorem MapAt.ko {bs : List Nat} (h : MapAt m Z w) (hk : Kept bs w w') (hs : ∀ x ∈ bs, x < m ∨ m + 1 ≤ x) : MapAt m Z w' := h.out (Chg.kept hk) hs
theorem MapAt.kio {bs : List Nat} {rs : List (Nat × Nat)} (h : MapAt m Z w) (hk : KeptIn ((0, w.heap.size) :: rs) bs w w') (hs : ∀ x ∈ bs, x < m ∨ m + 1 ≤ x) : MapAt m Z w' := h.out hk.chg hs
theorem MapAt.below (h : MapAt m Z w) (hb : Below w.heap.size w w') : MapAt m Z w' := ⟨h.h.below hb⟩
theorem map_mk {R : Value → World → Prop} (hR : ∀ w', Below w.heap.size w w' → MapAt w.heap.size [] w' → R (.map (some w.heap.size)) w') : RunsTo Try.prog (Instr.makeMap 87 none) w R := mkMap (K := Int) (enc := I) fun w' hd h => hR w' hd ⟨h⟩
theorem map_add {x : Int} {R : Value → World → Prop} (h : MapAt m Z w) (hx : x ∉ Z) (hR : ∀ w', MapAt m (Z ++ [x]) w' → Chg [m] w w' → R (.tuple #[]) w') : RunsTo Try.prog ((Instr.mapUpdate 87 (.map (some m)) (I x) (.bool true)) >>= fun _ => pure (Value.tuple #[])) w R :=
  update_new keyI (P := Try.prog) (mt := 87) (vt := 4) (by kernel_rfl) h.h x (.bool true) (by rw [setV_look, if_neg hx]) fun w' h2 c => hR w' ⟨by rw [setV_add] at h2; exact h2⟩ c
theorem map_has {x : Int} {R : Value → World → Prop} (h : MapAt m Z w) (hR : R (.bool (decide (x ∈ Z))) w) : RunsTo Try.prog (Instr.lookup 87 (.map (some m)) (I x) false) w R := by
  refine lookup_plain keyI (P := Try.prog) (mt := 87) (vt := 4) (by kernel_rfl) h.h x (z := .bool false) (by kernel_rfl) ?_
  rw [setV_look]
  by_cases e : x ∈ Z
  · rw [if_pos e]; rw [decide_eq_true e] at hR; exact hR
  · rw [if_neg e]; rw [decide_eq_false e] at hR; exact hR
end
section
variable {w : World} {W : Wk} {pa fa : Option Addr} {pc fc : Nat}
end
/-- All pieces of a clock. -/
def allP (W : Wk) (l : List Int) (k : Nat) : List Piece := (List.range k).map fun i : Nat => byP W l i (3 * i)
abbrev Held8 (l1 l2 l5 l6 : Nat) (a1 a2 a5 : Option Addr) (W : Wk) (w : World) : Prop := (LiesS l1 l2 w a1 W.pats ∧ Lies [] l1 l2 w a2 (fitsV W.fits) ∧ Lies [] l5 l6 w a5 (gapsV (LooseM W))) ∧ l6 ≤ w.heap.size
end Go.Proofs.R12
end
section
/- The rest for the walk of PartWider. -/
namespace Go.Proofs.R12
open Go.Vc Go.RowKit Go.Proofs
theorem okW_small {V : Wk} (h : OkW V) : Small V := ⟨by have := h.1; omega, by have := h.2.2.1; omega, fun p hp => by have := (h.2.1 p hp).1; omega⟩
end Go.Proofs.R12
end
section
/- What the walk of PartNoMore needs. -/
namespace Go.Proofs.R12
open Go.Vc Go.RowKit Go.Proofs
def Sz (l : List Int) : Prop := l.length ≤ 20 ∧ ∀ x ∈ l, 0 ≤ x ∧ x ≤ 1000
theorem Sz.get {l : List Int} (h : Sz l) (i : Nat) : 0 ≤ l.getD i 0 ∧ l.getD i 0 ≤ 1000 := by
  rcases getD_mem (l := l) (i := i) (d := 0) with e | e
  · rw [e]; omega
  · exact h.2 _ e
theorem box_c {w : World} {W : Wk} {F : Fit} {pa fa ha sa : Option Addr} {pc fc hc sc n m : Nat} {H S : List Int} (hp : CellsS w pa W.pats) (hW : ShopW W) (hn : W.pats.length = n) (hm : W.fits.length = m) (hf : OkF W.pats F) (hH : Cells w ha (u8s H)) (hS : Cells w sa (u8s S)) (hlH : ∀ x ∈ H, 0 ≤ x ∧ x ≤ 255) (hlS : ∀ x ∈ S, 0 ≤ x ∧ x ≤ 255) : Calls Try.prog 43 #[.agg #[I F.hole, I F.hs, I F.shaft, I F.ss, I F.gap.1, I F.gap.2], .agg #[.slice pa n pc, .slice fa m fc], .slice ha H.length hc, .slice sa S.length sc] w fun e w' => ∃ a c a' c', ∃ A T : List Int, e = .returned (.tuple #[.slice a A.length c, .slice a' T.length c']) ∧ Below w.heap.size w w' ∧ Sz A ∧ Sz T ∧ Lies [] w.heap.size w'.heap.size w' a (ints A) ∧ Lies [] w.heap.size w'.heap.size w' a' (ints T) := by
  subst hn hm
  have hh := hf.h; have hs := hf.s
  refine (box_l hp hW (f4 := F.gap.1) (f5 := F.gap.2) hf hH hS hlH hlS).mono fun e w' he => ?_
  obtain ⟨a, c, a', c', rfl, hb, h1, h2⟩ := he
  exact ⟨a, c, a', c', _, _, rfl, hb, ⟨boxL_len, boxL_sz hlH (okP_span (okP_get hW.p hh.1) hh.2)⟩, ⟨boxL_len, boxL_sz hlS (okP_span (okP_get hW.p hs.1) hs.2)⟩, h1, h2⟩
theorem boxE_c {V : Wk} {A T : List Int} (hV : OkW V) (h0 : 0 < V.fits.length) (hA : Sz A) (hT : Sz T) : boxE V 0 A T = 0 := by
  have h1 := hA.1; have h2 := hT.1
  unfold boxE
  rw [if_neg (not_not_intro hV), if_neg (by omega), if_neg (by omega), if_neg (not_not_intro ⟨fun x hx => by have := hA.2 x hx; omega, fun x hx => by have := hT.2 x hx; omega⟩)]
def PairsOf (F : Fit) (A T : List Int) (P : List (Int × Int)) : Prop := P = pairsL (pairK F A T) T.length
theorem pair_c {w : World} {V : Wk} {F : Fit} {pa fa aH aS : Option Addr} {pc fc cH cS n m : Nat} {A T : List Int} (hV : OkW V) (hF : fitOf V 0 = F) (hn : V.pats.length = n) (hm : V.fits.length = m) (h0 : 0 < V.fits.length) (hp : CellsS w pa V.pats) (hf : Cells w fa (fitsV V.fits)) (hh : Cells w aH (ints A)) (hs : Cells w aS (ints T)) (hA : Sz A) (hT : Sz T) : Calls Try.prog 30 #[.agg #[.slice pa n pc, .slice fa m fc], I 0, .slice aH A.length cH, .slice aS T.length cS] w fun e w' => ∃ a c P, e = .returned (.tuple #[.slice a P.length c, I 0]) ∧ Below w.heap.size w w' ∧ PairsOf F A T P ∧ Lies [] w.heap.size w'.heap.size w' a (pairsV P) := by
  subst hn hm hF
  have hb := boxE_c hV h0 hA hT
  have h := Pair_l (pc := pc) (fc := fc) (cH := cH) (cS := cS) (n := 0) hp hf (okW_small hV) hh hs (by have := hA.1; omega) (by have := hT.1; omega) (fun _ => ⟨hA.1, hT.1⟩)
  unfold pairM at h
  rw [hb, if_pos rfl] at h
  refine h.mono fun e w' he => ?_
  obtain ⟨a, c, rfl, g1, g2⟩ := he
  exact ⟨a, c, _, rfl, g1, rfl, g2⟩
theorem lack_c {w : World} {V : Wk} {F : Fit} {pa fa aH aS : Option Addr} {pc fc cH cS n m : Nat} {A T : List Int} (hV : OkW V) (hF : fitOf V 0 = F) (hn : V.pats.length = n) (hm : V.fits.length = m) (h0 : 0 < V.fits.length) (hp : CellsS w pa V.pats) (hf : Cells w fa (fitsV V.fits)) (hh : Cells w aH (ints A)) (hs : Cells w aS (ints T)) (hA : Sz A) (hT : Sz T) : Calls Try.prog 31 #[.agg #[.slice pa n pc, .slice fa m fc], I 0, .slice aH A.length cH, .slice aS T.length cS] w fun e w' => ∃ a c a' c' fw al, e = .returned (.tuple #[.slice a fw.length c, .slice a' al.length c', I 0]) ∧ Below w.heap.size w w' ∧ fw = shortL F A T ∧ al = fitL F A T ∧ Lies [] w.heap.size w'.heap.size w' a (ints fw) ∧ Lies [] w.heap.size w'.heap.size w' a' (ints al) := by
  subst hn hm hF
  have hb := boxE_c hV h0 hA hT
  have h := Lack_l (pc := pc) (fc := fc) (cH := cH) (cS := cS) (n := 0) hp hf (okW_small hV) hh hs (by have := hA.1; omega) (by have := hT.1; omega) (fun _ => ⟨hA.1, hT.1⟩)
  unfold lackM at h
  rw [hb, if_pos rfl] at h
  refine h.mono fun e w' he => ?_
  obtain ⟨a, c, a', c', rfl, g1, g2, g3⟩ := he
  exact ⟨a, c, a', c', _, _, rfl, g1, rfl, rfl, g2, g3⟩
abbrev pr0 : Int × Int := (0, 0)
structure PrAt (F : Fit) (A T : List Int) (P : List (Int × Int)) (i : Int) (p : Int × Int) : Prop where
  s : 0 ≤ p.1 ∧ p.1 < T.length
  h : 0 ≤ p.2 ∧ p.2 < A.length
  g : F.gap.1 ≤ A.getD p.2.toNat 0 - T.getD p.1.toNat 0 ∧ A.getD p.2.toNat 0 - T.getD p.1.toNat 0 ≤ F.gap.2
  n1 : p.1 ∉ (P.take i.toNat).map (·.1)
  n2 : p.2 ∉ (P.take i.toNat).map (·.2)
  o : 0 < i → (P.getD (i - 1).toNat pr0).1 < p.1
theorem getD_el {α : Type} {l : List α} {i : Nat} {d : α} (h : i < l.length) : l.getD i d = l[i] := by rw [List.getD_eq_getElem?_getD, getElem_of_lt h]; rfl
theorem pr_at {F : Fit} {A T : List Int} {P : List (Int × Int)} (hP : PairsOf F A T P) {i : Int} (hi : 0 ≤ i ∧ i < P.length) : PrAt F A T P i (P.getD i.toNat pr0) := by
  have hk := pairK_ok F A T
  have hil : i.toNat < P.length := by omega
  have hm : P.getD i.toNat pr0 ∈ P := by rw [getD_el hil]; exact List.getElem_mem hil
  have hmk : P.getD i.toNat pr0 ∈ pairK F A T := by
    rw [hP] at hm ⊢; exact (pairsL_mem hk).1 hm
  have hr := hk.r _ hmk
  have hf := pair_fits hmk
  have hpw := pairsL_pw (pairK F A T) T.length
  have hnd := pairsL_nd hk
  rw [← hP] at hpw hnd
  refine ⟨hr.1, hr.2, hf, fun hx => ?_, fun hx => ?_, fun h0 => ?_⟩
  · obtain ⟨q, hq, e⟩ := List.mem_map.1 hx
    obtain ⟨j, hj, rfl⟩ := List.mem_iff_getElem.1 hq
    rw [List.length_take] at hj
    rw [List.getElem_take] at e
    have := List.pairwise_iff_getElem.1 hpw j i.toNat (by omega) hil (by omega)
    rw [getD_el hil] at e
    omega
  · obtain ⟨q, hq, e⟩ := List.mem_map.1 hx
    obtain ⟨j, hj, rfl⟩ := List.mem_iff_getElem.1 hq
    rw [List.length_take] at hj
    rw [List.getElem_take] at e
    rw [List.nodup_iff_pairwise_ne, List.pairwise_map] at hnd
    have := List.pairwise_iff_getElem.1 hnd j i.toNat (by omega) hil (by omega)
    rw [getD_el hil] at e
    exact this e
  · have := List.pairwise_iff_getElem.1 hpw (i - 1).toNat i.toNat (by omega) hil (by omega)
    rw [getD_el hil, getD_el (by omega)]
    exact this
structure UpAt (l : List Int) (n : Nat) (i x : Int) : Prop where
  r : 0 ≤ x ∧ x < n
  nn : x ∉ l.take i.toNat
  o : 0 < i → l.getD (i - 1).toNat 0 < x
theorem up_at {l : List Int} {n : Nat} (hpw : l.Pairwise (· < ·)) (hr : ∀ x ∈ l, 0 ≤ x ∧ x < n) {i : Int} (hi : 0 ≤ i ∧ i < l.length) : UpAt l n i (l.getD i.toNat 0) := by
  have hil : i.toNat < l.length := by omega
  refine ⟨hr _ (by rw [getD_el hil]; exact List.getElem_mem hil), fun hx => ?_, fun h0 => ?_⟩
  · obtain ⟨j, hj, e⟩ := List.mem_iff_getElem.1 hx
    rw [List.length_take] at hj
    rw [List.getElem_take, getD_el hil] at e
    have := List.pairwise_iff_getElem.1 hpw j i.toNat (by omega) hil (by omega)
    omega
  · have := List.pairwise_iff_getElem.1 hpw (i - 1).toNat i.toNat (by omega) hil (by omega)
    rw [getD_el hil, getD_el (by omega)]
    exact this
theorem few_at {F : Fit} {A T fw : List Int} (h : fw = shortL F A T) {i : Int} (hi : 0 ≤ i ∧ i < fw.length) : UpAt fw T.length i (fw.getD i.toNat 0) :=
  up_at (by rw [h]; exact short_pw) (fun x hx => by rw [h] at hx; exact (short_mem.1 hx).in (pairK_ok F A T)) hi
theorem all_at {F : Fit} {A T al : List Int} (h : al = fitL F A T) {i : Int} (hi : 0 ≤ i ∧ i < al.length) : UpAt al A.length i (al.getD i.toNat 0) :=
  up_at (by rw [h]; exact fit_pw) (fun x hx => by rw [h] at hx; exact (fit_mem.1 hx).1) hi
/-- A hole that fits a short shaft is among all. -/
theorem fits_all {F : Fit} {A T fw al : List Int} (h1 : fw = shortL F A T) (h2 : al = fitL F A T) {i h : Int} (hi : 0 ≤ i ∧ i < fw.length) (hh : 0 ≤ h ∧ h < A.length) (g : F.gap.1 ≤ A.getD h.toNat 0 - T.getD (fw.getD i.toNat 0).toNat 0 ∧ A.getD h.toNat 0 - T.getD (fw.getD i.toNat 0).toNat 0 ≤ F.gap.2) : h ∈ al := by
  rw [h2]
  refine fit_mem.2 ⟨hh, fw.getD i.toNat 0, ?_, g⟩
  rw [← short_mem, ← h1, getD_el (by omega)]
  exact List.getElem_mem _
/-- Each shaft is in a pair, or short. -/
theorem shaft_or {F : Fit} {A T fw : List Int} {P : List (Int × Int)} (hP : PairsOf F A T P) (h1 : fw = shortL F A T) {s : Int} (hs : 0 ≤ s ∧ s < T.length) (hn : s ∉ P.map (·.1)) : s ∈ fw := by
  rw [h1]
  refine short_mem.2 (.free hs.1 hs.2 ?_)
  cases hl : (pairK F A T).lookup s with
  | none => rfl
  | some y =>
    have := (pairsL_mem (pairK_ok F A T)).2 (look_mem hl)
    rw [← hP] at this
    exact absurd (List.mem_map.2 ⟨_, this, rfl⟩) hn
theorem count_c {F : Fit} {A T fw al : List Int} {P : List (Int × Int)} (hP : PairsOf F A T P) (h1 : fw = shortL F A T) (h2 : al = fitL F A T) : fw.length + P.length = T.length + al.length := by
  have := short_count (f := F) (H := A) (S := T)
  rw [hP, pairsL_length (pairK_ok F A T), h1, h2]; exact this
theorem wider_c {F G : Fit} {A T : List Int} {P Q : List (Int × Int)} (hP : PairsOf F A T P) (hQ : PairsOf G A T Q) (g1 : G.gap.1 ≤ F.gap.1) (g2 : F.gap.2 ≤ G.gap.2) : P.length ≤ Q.length := by
  rw [hP, hQ, pairsL_length (pairK_ok F A T), pairsL_length (pairK_ok G A T)]
  exact wider_pairs g1 g2
theorem pairs_len {F : Fit} {A T : List Int} {P : List (Int × Int)} (hP : PairsOf F A T P) (hT : Sz T) : P.length ≤ 20 := by
  have := pairsL_len (pairK F A T) T.length
  have := hT.1
  rw [hP]; omega
theorem few_len {F : Fit} {A T fw : List Int} (h : fw = shortL F A T) (hT : Sz T) : fw.length ≤ 20 := by
  have h1 := nodup_len (k := idxs T.length) (l := fw) (by rw [h]; exact pw_nodup short_pw) fun x hx => by
    rw [h] at hx
    have := (short_mem.1 hx).in (pairK_ok F A T)
    exact idxs_in this.1 this.2
  have h2 : (idxs T.length).length = T.length := by simp [idxs]
  have := hT.1
  omega
theorem all_len {F : Fit} {A T al : List Int} (h : al = fitL F A T) (hA : Sz A) : al.length ≤ 20 := by
  have h1 := nodup_len (k := idxs A.length) (l := al) (by rw [h]; exact pw_nodup fit_pw) fun x hx => by
    rw [h] at hx
    have := (fit_mem.1 hx).1
    exact idxs_in this.1 this.2
  have h2 : (idxs A.length).length = A.length := by simp [idxs]
  have := hA.1
  omega
theorem pairsV_get {l : List (Int × Int)} {i : Nat} (h : i < l.length) : (pairsV l)[i * 2 + 0]? = some (I (l.getD i pr0).1) ∧ (pairsV l)[i * 2 + 1]? = some (I (l.getD i pr0).2) := by
  rw [getD_el h]
  exact ⟨flat_get (k := 2) (f := fun p : Int × Int => [I p.1, I p.2]) (fun _ => rfl) (getElem_of_lt h) (by omega), flat_get (k := 2) (f := fun p : Int × Int => [I p.1, I p.2]) (fun _ => rfl) (getElem_of_lt h) (by omega)⟩
theorem load_pr0 {w : World} {a : Option Addr} {l : List (Int × Int)} {i : Int} {lo hi : Nat} {X : Nat → Nat → Int → Prop} (h : Lies [] lo hi w a (pairsV l)) (hi0 : 0 ≤ i ∧ i < (l.length : Int)) (k : ∀ m o, lo ≤ m ∧ m < hi → X m o (l.getD i.toNat pr0).1) : ∃ m o, a = some ⟨m, o, none⟩ ∧ (0 ≤ i ∧ i < (l.length : Int)) ∧ ((0 : Int) ≤ 0 ∧ (0 : Int) < ((2 : Nat) : Int)) ∧ ∃ x : Int, w.cell? ⟨m, o + i.toNat * 2 + Int.toNat 0 * 1, none⟩ = some (I x) ∧ X m o x := by
  obtain ⟨b, o, e, ⟨_, q⟩, hc⟩ := h _ _ (pairsV_get (l := l) (i := i.toNat) (by omega)).1
  exact ⟨b, o, e, hi0, by omega, _, cell_at' hc (by simp <;> omega), k b o q⟩
theorem load_pr1 {w : World} {a : Option Addr} {l : List (Int × Int)} {i : Int} {lo hi : Nat} {X : Nat → Nat → Int → Prop} (h : Lies [] lo hi w a (pairsV l)) (hi0 : 0 ≤ i ∧ i < (l.length : Int)) (k : ∀ m o, lo ≤ m ∧ m < hi → X m o (l.getD i.toNat pr0).2) : ∃ m o, a = some ⟨m, o, none⟩ ∧ (0 ≤ i ∧ i < (l.length : Int)) ∧ ((0 : Int) ≤ 1 ∧ (1 : Int) < ((2 : Nat) : Int)) ∧ ∃ x : Int, w.cell? ⟨m, o + i.toNat * 2 + Int.toNat 1 * 1, none⟩ = some (I x) ∧ X m o x := by
  obtain ⟨b, o, e, ⟨_, q⟩, hc⟩ := h _ _ (pairsV_get (l := l) (i := i.toNat) (by omega)).2
  exact ⟨b, o, e, hi0, by omega, _, cell_at' hc (by simp <;> omega), k b o q⟩
end Go.Proofs.R12
end
section
/- The law PartNoMore, walked. -/
namespace Go.Proofs.R12
open Go.Vc Go.RowKit Go.Proofs
theorem fb_storeG {d : Nat} {fs : List Fit} {w : World} {i : Int} {v u : Int} {R : Value → World → Prop} (h : FB d fs w) (hi : 0 ≤ i ∧ i < (fs.length : Int)) (hR : ∀ w', FB d (fs.set i.toNat ⟨(fs.getD i.toNat fit00).hole, (fs.getD i.toNat fit00).hs, (fs.getD i.toNat fit00).shaft, (fs.getD i.toNat fit00).ss, (v, u)⟩) w' → Chg [d] w w' → R (.tuple #[]) w') : RunsTo Try.prog ((Instr.storeAt 42 (.pointer (some ⟨d, 0 + i.toNat * 6 + 4, none⟩)) (.agg #[I v, I u])) >>= fun _ => pure (Value.tuple #[])) w R := by
  have hil : i.toNat < fs.length := by omega
  obtain ⟨cs, h1, q, rfl⟩ := h.h
  have hl : (fitsV (fs.take i.toNat)).length = i.toNat * 6 := by rw [fitsV_len, List.length_take]; omega
  have hs := fits_same hil
  generalize hA : fitsV (fs.take i.toNat) = A at hl hs
  generalize hB : fitsV (fs.drop (i.toNat + 1)) = B at hs
  generalize hf : fs.getD i.toNat fit00 = f at *
  refine obj_store (cs := fitsV fs ++ q) (vs := [I v, I u]) h1 (by kernel_rfl) (by kernel_rfl) (by rw [hs]; simp [Fit.cells, hl]; omega) rfl (by simp; trivial) fun w' hh hc => hR w' ⟨_, hh, ?_⟩ hc
  rw [fits_split hil, hA, hB, hs]
  have e : 0 + i.toNat * 6 + 4 = A.length + 4 := by omega
  rw [e]
  refine ⟨q, ?_⟩
  simp [Fit.cells, List.take_append, List.drop_append, List.take_of_length_le (Nat.le_add_right A.length 4), List.drop_eq_nil_of_le (Nat.le_add_right A.length 6), show A.length + 4 + 2 - A.length = 6 by omega]
/-- The works with a wider gap. -/
def wideW (W : Wk) (F : Fit) : Wk := ⟨W.pats, W.fits.set 0 ⟨F.hole, F.hs, F.shaft, F.ss, (F.gap.1 - 2, F.gap.2 + 3)⟩⟩
theorem wideW_ok {W : Wk} {F : Fit} (hW : ShopW W) (h0 : 0 < W.fits.length) (hF : OkF W.pats F) : OkW (wideW W F) := by
  have hO := hW.ok
  refine ⟨hO.1, hO.2.1, by show (W.fits.set 0 _).length ≤ 40; rw [List.length_set]; exact hO.2.2.1, (all_getD (d := fit00)).2 fun j hj => ?_⟩
  have hj' : j < W.fits.length := by have := hj; unfold wideW at this; simpa using this
  show okFit (wideW W F) ((W.fits.set 0 _).getD j fit00)
  rw [set_getD h0]
  split
  · have g := hF.g
    refine ⟨hF.ne, ⟨hF.h.1, hF.h.2⟩, ⟨hF.s.1, hF.s.2⟩, ?_⟩
    unfold okS; simp only; omega
  · exact hO.2.2.2 _ (by rw [getD_el hj']; exact List.getElem_mem hj')
theorem wideW_fit {W : Wk} {F : Fit} (h0 : 0 < W.fits.length) : fitOf (wideW W F) 0 = ⟨F.hole, F.hs, F.shaft, F.ss, (F.gap.1 - 2, F.gap.2 + 3)⟩ := by
  show (W.fits.set 0 _).getD 0 fit00 = _
  rw [set_getD h0, if_pos rfl]
theorem wide_fits {W : Wk} {F : Fit} (hF : F = W.fits.getD 0 fit00) : (wideW W F).fits = W.fits.set 0 ⟨(W.fits.getD 0 fit00).hole, (W.fits.getD 0 fit00).hs, (W.fits.getD 0 fit00).shaft, (W.fits.getD 0 fit00).ss, (F.gap.1 - 2, F.gap.2 + 3)⟩ := by
  rw [← hF]; rfl
theorem take_all {α : Type} {l : List α} {n : Nat} (h : n = l.length) : l.take n = l := by rw [h, List.take_length]
theorem take_fst {P : List (Int × Int)} {k : Nat} (h : k < P.length) : (P.take (k + 1)).map (·.1) = (P.take k).map (·.1) ++ [(P.getD k pr0).1] := by
  rw [List.take_succ_eq_append_getElem h, List.map_append, getD_el h]; rfl
theorem take_snd {P : List (Int × Int)} {k : Nat} (h : k < P.length) : (P.take (k + 1)).map (·.2) = (P.take k).map (·.2) ++ [(P.getD k pr0).2] := by
  rw [List.take_succ_eq_append_getElem h, List.map_append, getD_el h]; rfl
theorem take_intN {l : List Int} {k : Nat} (h : k < l.length) : l.take (k + 1) = l.take k ++ [l.getD k 0] := by
  rw [List.take_succ_eq_append_getElem h, getD_el h]
set_option maxRecDepth 100000 in
set_option maxHeartbeats 8000000 in
theorem law10 {w : World} {T U : List (Int × Int × Int × Int)} {l0 l1 : List Int} {x0a x1a holesa shaftsa : Option Addr} {x0c x1c holesc shaftsc : Nat} (hT0 : Cells w x0a (quadsV T)) (hU0 : Cells w x1a (quadsV U)) (hT0q : ∀ t ∈ T, ByteQ t) (hU0q : ∀ t ∈ U, ByteQ t) (hc0 : Cells w holesa (u8s l0)) (hc1 : Cells w shaftsa (u8s l1)) (hl0 : ∀ x ∈ l0, 0 ≤ x ∧ x ≤ 255) (hl1 : ∀ x ∈ l1, 0 ≤ x ∧ x ≤ 255) : Calls Try.prog 10 #[.agg #[.slice x0a T.length x0c, .slice x1a U.length x1c], .slice holesa l0.length holesc, .slice shaftsa l1.length shaftsc] w (Pure w (.bool true)) := by
  refine vc10 _ _ _ _ _ _ _ _ _ _ _ _ w _ ?_
  intro m1 g_m1 w1 hb1 hk1
  have y1 := hb1.size
  have z1 := hk1.size; have o1 := hk1.own
  simp only [List.mem_cons, List.not_mem_nil, or_false, forall_eq] at o1
  refine (shop_l (hT0.keep hb1) (hU0.keep hb1) hT0q hU0q).mono fun e2 w2 he => ?_
  obtain ⟨W, pa, fa, pc, fc, rfl, hd2, hW, LP_2, LF_2⟩ := he
  have hb2 := hb1.trans (hd2.mono hb1.size)
  have z2 := hd2.size
  have hWn := hW.n
  have hWm := hW.m
  have hWf : 0 < W.fits.length := by omega
  refine ⟨_, _, _, _, _, _, rfl, .all hd2, ?_⟩
  intro m7 g_m7
  refine load_fitL LF_2 (by omega) fun m8 m9 hm1 => ?_
  obtain ⟨F, hF⟩ : ∃ F : Fit, F = W.fits.getD (Int.toNat 0) ⟨0, 0, 0, 0, (0, 0)⟩ := ⟨_, rfl⟩
  rw [← hF]
  have hFo : OkF W.pats F := by rw [hF]; exact fit_ok hW (i := 0) (by omega)
  have hFg := hFo.g
  refine ⟨(by first | omega | (simp only; omega)), ?_⟩
  intro m10 g_m10 w3 hb3 hk3
  have y3 := hb3.size
  have z3 := hk3.size; have o3 := hk3.own
  simp only [List.mem_cons, List.not_mem_nil, or_false, forall_eq_or_imp, forall_eq] at o3
  have LP_3 := LP_2.ko hk3 (allc (by omega) (allc (by omega) (allc (by omega) all0)))
  have LF_3 := LF_2.ko hk3 (allc (by omega) (allc (by omega) (allc (by omega) all0)))
  refine (box_c LP_3.cells hW rfl rfl hFo (hc0.keep hb3) (hc1.keep hb3) hl0 hl1).mono fun e4 w4 he => ?_
  obtain ⟨ha, hac, ta, tac, A, T, rfl, hd4, hA, hT, LA_4, LT_4⟩ := he
  have hb4 := hb3.trans (hd4.mono hb3.size)
  have z4 := hd4.size
  have hAl := hA.1
  have hTl := hT.1
  have LP_4 := LP_3.below hd4
  have LF_4 := LF_3.below hd4
  refine ⟨_, _, _, _, _, _, rfl, .all hd4, ?_⟩
  intro w5 hb5 hk5
  have y5 := hb5.size
  have z5 := hk5.size; have o5 := hk5.own
  simp only [List.mem_cons, List.not_mem_nil, or_false, forall_eq_or_imp, forall_eq] at o5
  have LP_5 := LP_4.ko hk5 (allc (by omega) (allc (by omega) (allc (by omega) all0)))
  have LF_5 := LF_4.ko hk5 (allc (by omega) (allc (by omega) (allc (by omega) all0)))
  have LA_5 := LA_4.ko hk5 (allc (by omega) (allc (by omega) (allc (by omega) all0)))
  have LT_5 := LT_4.ko hk5 (allc (by omega) (allc (by omega) (allc (by omega) all0)))
  refine (works_l LP_5.cells LF_5.cells hW.small).mono fun e6 w6 he => ?_
  obtain ⟨pa1, pc1, fa1, fc1, rfl, hd6, LV6_6, LU6_6⟩ := he
  have hb6 := hb5.trans (hd6.mono hb5.size)
  have z6 := hd6.size
  have LP_6 := LP_5.below hd6
  have LF_6 := LF_5.below hd6
  have LA_6 := LA_5.below hd6
  have LT_6 := LT_5.below hd6
  refine ⟨_, _, _, _, _, _, rfl, .all hd6, ?_⟩
  intro w7 hb7 hk7
  have y7 := hb7.size
  have z7 := hk7.size; have o7 := hk7.own
  simp only [List.mem_cons, List.not_mem_nil, or_false, forall_eq_or_imp, forall_eq] at o7
  have LP_7 := LP_6.ko hk7 (allc (by omega) (allc (by omega) (allc (by omega) all0)))
  have LF_7 := LF_6.ko hk7 (allc (by omega) (allc (by omega) (allc (by omega) all0)))
  have LA_7 := LA_6.ko hk7 (allc (by omega) (allc (by omega) (allc (by omega) all0)))
  have LT_7 := LT_6.ko hk7 (allc (by omega) (allc (by omega) (allc (by omega) all0)))
  have LV6_7 := LV6_6.ko hk7 (allc (by omega) (allc (by omega) (allc (by omega) all0)))
  have LU6_7 := LU6_6.ko hk7 (allc (by omega) (allc (by omega) (allc (by omega) all0)))
  refine (ints_l LA_7.cells (by omega)).mono fun e8 w8 he => ?_
  obtain ⟨a8, c8, rfl, hd8, LI8_8⟩ := he
  have hb8 := hb7.trans (hd8.mono hb7.size)
  have z8 := hd8.size
  have LP_8 := LP_7.below hd8
  have LF_8 := LF_7.below hd8
  have LA_8 := LA_7.below hd8
  have LT_8 := LT_7.below hd8
  have LV6_8 := LV6_7.below hd8
  have LU6_8 := LU6_7.below hd8
  refine ⟨_, _, _, rfl, .all hd8, ?_⟩
  intro w9 hb9 hk9
  have y9 := hb9.size
  have z9 := hk9.size; have o9 := hk9.own
  simp only [List.mem_cons, List.not_mem_nil, or_false, forall_eq_or_imp, forall_eq] at o9
  have LP_9 := LP_8.ko hk9 (allc (by omega) (allc (by omega) (allc (by omega) all0)))
  have LF_9 := LF_8.ko hk9 (allc (by omega) (allc (by omega) (allc (by omega) all0)))
  have LA_9 := LA_8.ko hk9 (allc (by omega) (allc (by omega) (allc (by omega) all0)))
  have LT_9 := LT_8.ko hk9 (allc (by omega) (allc (by omega) (allc (by omega) all0)))
  have LV6_9 := LV6_8.ko hk9 (allc (by omega) (allc (by omega) (allc (by omega) all0)))
  have LU6_9 := LU6_8.ko hk9 (allc (by omega) (allc (by omega) (allc (by omega) all0)))
  have LI8_9 := LI8_8.ko hk9 (allc (by omega) (allc (by omega) (allc (by omega) all0)))
  refine (ints_l LT_9.cells (by omega)).mono fun e10 w10 he => ?_
  obtain ⟨a10, c10, rfl, hd10, LI10_10⟩ := he
  have hb10 := hb9.trans (hd10.mono hb9.size)
  have z10 := hd10.size
  have LP_10 := LP_9.below hd10
  have LF_10 := LF_9.below hd10
  have LA_10 := LA_9.below hd10
  have LT_10 := LT_9.below hd10
  have LV6_10 := LV6_9.below hd10
  have LU6_10 := LU6_9.below hd10
  have LI8_10 := LI8_9.below hd10
  refine ⟨_, _, _, rfl, .all hd10, ?_⟩
  intro w11 hb11 hk11
  have y11 := hb11.size
  have z11 := hk11.size; have o11 := hk11.own
  simp only [List.mem_cons, List.not_mem_nil, or_false, forall_eq_or_imp, forall_eq] at o11
  have LP_11 := LP_10.ko hk11 (allc (by omega) (allc (by omega) (allc (by omega) all0)))
  have LF_11 := LF_10.ko hk11 (allc (by omega) (allc (by omega) (allc (by omega) all0)))
  have LA_11 := LA_10.ko hk11 (allc (by omega) (allc (by omega) (allc (by omega) all0)))
  have LT_11 := LT_10.ko hk11 (allc (by omega) (allc (by omega) (allc (by omega) all0)))
  have LV6_11 := LV6_10.ko hk11 (allc (by omega) (allc (by omega) (allc (by omega) all0)))
  have LU6_11 := LU6_10.ko hk11 (allc (by omega) (allc (by omega) (allc (by omega) all0)))
  have LI8_11 := LI8_10.ko hk11 (allc (by omega) (allc (by omega) (allc (by omega) all0)))
  have LI10_11 := LI10_10.ko hk11 (allc (by omega) (allc (by omega) (allc (by omega) all0)))
  refine (pair_c hW.ok hF.symm rfl rfl hWf LV6_11.cells LU6_11.cells LI8_11.cells LI10_11.cells hA hT).mono fun e12 w12 he => ?_
  obtain ⟨qa, qc, P, rfl, hd12, hP, LQ_12⟩ := he
  have hb12 := hb11.trans (hd12.mono hb11.size)
  have z12 := hd12.size
  have LP_12 := LP_11.below hd12
  have LF_12 := LF_11.below hd12
  have LA_12 := LA_11.below hd12
  have LT_12 := LT_11.below hd12
  have LV6_12 := LV6_11.below hd12
  have LU6_12 := LU6_11.below hd12
  have LI8_12 := LI8_11.below hd12
  have LI10_12 := LI10_11.below hd12
  refine ⟨_, _, _, _, rfl, .all hd12, ?_⟩
  intro w13 hb13 hk13
  have y13 := hb13.size
  have z13 := hk13.size; have o13 := hk13.own
  simp only [List.mem_cons, List.not_mem_nil, or_false, forall_eq_or_imp, forall_eq] at o13
  have LP_13 := LP_12.ko hk13 (allc (by omega) (allc (by omega) (allc (by omega) all0)))
  have LF_13 := LF_12.ko hk13 (allc (by omega) (allc (by omega) (allc (by omega) all0)))
  have LA_13 := LA_12.ko hk13 (allc (by omega) (allc (by omega) (allc (by omega) all0)))
  have LT_13 := LT_12.ko hk13 (allc (by omega) (allc (by omega) (allc (by omega) all0)))
  have LV6_13 := LV6_12.ko hk13 (allc (by omega) (allc (by omega) (allc (by omega) all0)))
  have LU6_13 := LU6_12.ko hk13 (allc (by omega) (allc (by omega) (allc (by omega) all0)))
  have LI8_13 := LI8_12.ko hk13 (allc (by omega) (allc (by omega) (allc (by omega) all0)))
  have LI10_13 := LI10_12.ko hk13 (allc (by omega) (allc (by omega) (allc (by omega) all0)))
  have LQ_13 := LQ_12.ko hk13 (allc (by omega) (allc (by omega) (allc (by omega) all0)))
  refine (works_l LP_13.cells LF_13.cells hW.small).mono fun e14 w14 he => ?_
  obtain ⟨pa2, pc2, fa2, fc2, rfl, hd14, LV14_14, LU14_14⟩ := he
  have hb14 := hb13.trans (hd14.mono hb13.size)
  have z14 := hd14.size
  have LP_14 := LP_13.below hd14
  have LF_14 := LF_13.below hd14
  have LA_14 := LA_13.below hd14
  have LT_14 := LT_13.below hd14
  have LV6_14 := LV6_13.below hd14
  have LU6_14 := LU6_13.below hd14
  have LI8_14 := LI8_13.below hd14
  have LI10_14 := LI10_13.below hd14
  have LQ_14 := LQ_13.below hd14
  refine ⟨_, _, _, _, _, _, rfl, .all hd14, ?_⟩
  intro w15 hb15 hk15
  have y15 := hb15.size
  have z15 := hk15.size; have o15 := hk15.own
  simp only [List.mem_cons, List.not_mem_nil, or_false, forall_eq_or_imp, forall_eq] at o15
  have LP_15 := LP_14.ko hk15 (allc (by omega) (allc (by omega) (allc (by omega) all0)))
  have LF_15 := LF_14.ko hk15 (allc (by omega) (allc (by omega) (allc (by omega) all0)))
  have LA_15 := LA_14.ko hk15 (allc (by omega) (allc (by omega) (allc (by omega) all0)))
  have LT_15 := LT_14.ko hk15 (allc (by omega) (allc (by omega) (allc (by omega) all0)))
  have LV6_15 := LV6_14.ko hk15 (allc (by omega) (allc (by omega) (allc (by omega) all0)))
  have LU6_15 := LU6_14.ko hk15 (allc (by omega) (allc (by omega) (allc (by omega) all0)))
  have LI8_15 := LI8_14.ko hk15 (allc (by omega) (allc (by omega) (allc (by omega) all0)))
  have LI10_15 := LI10_14.ko hk15 (allc (by omega) (allc (by omega) (allc (by omega) all0)))
  have LQ_15 := LQ_14.ko hk15 (allc (by omega) (allc (by omega) (allc (by omega) all0)))
  have LV14_15 := LV14_14.ko hk15 (allc (by omega) (allc (by omega) (allc (by omega) all0)))
  have LU14_15 := LU14_14.ko hk15 (allc (by omega) (allc (by omega) (allc (by omega) all0)))
  refine (ints_l LA_15.cells (by omega)).mono fun e16 w16 he => ?_
  obtain ⟨a16, c16, rfl, hd16, LI16_16⟩ := he
  have hb16 := hb15.trans (hd16.mono hb15.size)
  have z16 := hd16.size
  have LP_16 := LP_15.below hd16
  have LF_16 := LF_15.below hd16
  have LA_16 := LA_15.below hd16
  have LT_16 := LT_15.below hd16
  have LV6_16 := LV6_15.below hd16
  have LU6_16 := LU6_15.below hd16
  have LI8_16 := LI8_15.below hd16
  have LI10_16 := LI10_15.below hd16
  have LQ_16 := LQ_15.below hd16
  have LV14_16 := LV14_15.below hd16
  have LU14_16 := LU14_15.below hd16
  refine ⟨_, _, _, rfl, .all hd16, ?_⟩
  intro w17 hb17 hk17
  have y17 := hb17.size
  have z17 := hk17.size; have o17 := hk17.own
  simp only [List.mem_cons, List.not_mem_nil, or_false, forall_eq_or_imp, forall_eq] at o17
  have LP_17 := LP_16.ko hk17 (allc (by omega) (allc (by omega) (allc (by omega) all0)))
  have LF_17 := LF_16.ko hk17 (allc (by omega) (allc (by omega) (allc (by omega) all0)))
  have LA_17 := LA_16.ko hk17 (allc (by omega) (allc (by omega) (allc (by omega) all0)))
  have LT_17 := LT_16.ko hk17 (allc (by omega) (allc (by omega) (allc (by omega) all0)))
  have LV6_17 := LV6_16.ko hk17 (allc (by omega) (allc (by omega) (allc (by omega) all0)))
  have LU6_17 := LU6_16.ko hk17 (allc (by omega) (allc (by omega) (allc (by omega) all0)))
  have LI8_17 := LI8_16.ko hk17 (allc (by omega) (allc (by omega) (allc (by omega) all0)))
  have LI10_17 := LI10_16.ko hk17 (allc (by omega) (allc (by omega) (allc (by omega) all0)))
  have LQ_17 := LQ_16.ko hk17 (allc (by omega) (allc (by omega) (allc (by omega) all0)))
  have LV14_17 := LV14_16.ko hk17 (allc (by omega) (allc (by omega) (allc (by omega) all0)))
  have LU14_17 := LU14_16.ko hk17 (allc (by omega) (allc (by omega) (allc (by omega) all0)))
  have LI16_17 := LI16_16.ko hk17 (allc (by omega) (allc (by omega) (allc (by omega) all0)))
  refine (ints_l LT_17.cells (by omega)).mono fun e18 w18 he => ?_
  obtain ⟨a18, c18, rfl, hd18, LI18_18⟩ := he
  have hb18 := hb17.trans (hd18.mono hb17.size)
  have z18 := hd18.size
  have LP_18 := LP_17.below hd18
  have LF_18 := LF_17.below hd18
  have LA_18 := LA_17.below hd18
  have LT_18 := LT_17.below hd18
  have LV6_18 := LV6_17.below hd18
  have LU6_18 := LU6_17.below hd18
  have LI8_18 := LI8_17.below hd18
  have LI10_18 := LI10_17.below hd18
  have LQ_18 := LQ_17.below hd18
  have LV14_18 := LV14_17.below hd18
  have LU14_18 := LU14_17.below hd18
  have LI16_18 := LI16_17.below hd18
  refine ⟨_, _, _, rfl, .all hd18, ?_⟩
  intro w19 hb19 hk19
  have y19 := hb19.size
  have z19 := hk19.size; have o19 := hk19.own
  simp only [List.mem_cons, List.not_mem_nil, or_false, forall_eq_or_imp, forall_eq] at o19
  have LP_19 := LP_18.ko hk19 (allc (by omega) (allc (by omega) (allc (by omega) all0)))
  have LF_19 := LF_18.ko hk19 (allc (by omega) (allc (by omega) (allc (by omega) all0)))
  have LA_19 := LA_18.ko hk19 (allc (by omega) (allc (by omega) (allc (by omega) all0)))
  have LT_19 := LT_18.ko hk19 (allc (by omega) (allc (by omega) (allc (by omega) all0)))
  have LV6_19 := LV6_18.ko hk19 (allc (by omega) (allc (by omega) (allc (by omega) all0)))
  have LU6_19 := LU6_18.ko hk19 (allc (by omega) (allc (by omega) (allc (by omega) all0)))
  have LI8_19 := LI8_18.ko hk19 (allc (by omega) (allc (by omega) (allc (by omega) all0)))
  have LI10_19 := LI10_18.ko hk19 (allc (by omega) (allc (by omega) (allc (by omega) all0)))
  have LQ_19 := LQ_18.ko hk19 (allc (by omega) (allc (by omega) (allc (by omega) all0)))
  have LV14_19 := LV14_18.ko hk19 (allc (by omega) (allc (by omega) (allc (by omega) all0)))
  have LU14_19 := LU14_18.ko hk19 (allc (by omega) (allc (by omega) (allc (by omega) all0)))
  have LI16_19 := LI16_18.ko hk19 (allc (by omega) (allc (by omega) (allc (by omega) all0)))
  have LI18_19 := LI18_18.ko hk19 (allc (by omega) (allc (by omega) (allc (by omega) all0)))
  refine (lack_c hW.ok hF.symm rfl rfl hWf LV14_19.cells LU14_19.cells LI16_19.cells LI18_19.cells hA hT).mono fun e20 w20 he => ?_
  obtain ⟨wa, wc, la, lc, fw, al, rfl, hd20, hfw, hal, LW_20, LL_20⟩ := he
  have hb20 := hb19.trans (hd20.mono hb19.size)
  have z20 := hd20.size
  have hPl := pairs_len hP hT
  have hfl := few_len hfw hT
  have hll := all_len hal hA
  have hcc := count_c hP hfw hal
  have LP_20 := LP_19.below hd20
  have LF_20 := LF_19.below hd20
  have LA_20 := LA_19.below hd20
  have LT_20 := LT_19.below hd20
  have LV6_20 := LV6_19.below hd20
  have LU6_20 := LU6_19.below hd20
  have LI8_20 := LI8_19.below hd20
  have LI10_20 := LI10_19.below hd20
  have LQ_20 := LQ_19.below hd20
  have LV14_20 := LV14_19.below hd20
  have LU14_20 := LU14_19.below hd20
  have LI16_20 := LI16_19.below hd20
  have LI18_20 := LI18_19.below hd20
  refine ⟨_, _, _, _, _, _, _, rfl, .all hd20, ?_, ?_⟩
  · intro h1 w21 hb21 hk21
    try simp only [Bool.not_eq_true', Bool.not_eq_false', decide_eq_true_eq, decide_eq_false_iff_not] at h1
    have y21 := hb21.size
    have z21 := hk21.size; have o21 := hk21.own
    simp only [List.mem_cons, List.not_mem_nil, or_false, forall_eq_or_imp, forall_eq] at o21
    have LP_21 := LP_20.ko hk21 (allc (by omega) (allc (by omega) (allc (by omega) all0)))
    have LF_21 := LF_20.ko hk21 (allc (by omega) (allc (by omega) (allc (by omega) all0)))
    have LA_21 := LA_20.ko hk21 (allc (by omega) (allc (by omega) (allc (by omega) all0)))
    have LT_21 := LT_20.ko hk21 (allc (by omega) (allc (by omega) (allc (by omega) all0)))
    have LV6_21 := LV6_20.ko hk21 (allc (by omega) (allc (by omega) (allc (by omega) all0)))
    have LU6_21 := LU6_20.ko hk21 (allc (by omega) (allc (by omega) (allc (by omega) all0)))
    have LI8_21 := LI8_20.ko hk21 (allc (by omega) (allc (by omega) (allc (by omega) all0)))
    have LI10_21 := LI10_20.ko hk21 (allc (by omega) (allc (by omega) (allc (by omega) all0)))
    have LQ_21 := LQ_20.ko hk21 (allc (by omega) (allc (by omega) (allc (by omega) all0)))
    have LV14_21 := LV14_20.ko hk21 (allc (by omega) (allc (by omega) (allc (by omega) all0)))
    have LU14_21 := LU14_20.ko hk21 (allc (by omega) (allc (by omega) (allc (by omega) all0)))
    have LI16_21 := LI16_20.ko hk21 (allc (by omega) (allc (by omega) (allc (by omega) all0)))
    have LI18_21 := LI18_20.ko hk21 (allc (by omega) (allc (by omega) (allc (by omega) all0)))
    have LW_21 := LW_20.ko hk21 (allc (by omega) (allc (by omega) (allc (by omega) all0)))
    have LL_21 := LL_20.ko hk21 (allc (by omega) (allc (by omega) (allc (by omega) all0)))
    exact ⟨by first | rfl | contradiction | (exfalso; omega) | (exfalso; grind), hb21⟩
  · intro h2
    try simp only [] at h2
    refine ⟨?_, ?_⟩
    · intro h3 w22 hb22 hk22
      try simp only [Bool.not_eq_true', Bool.not_eq_false', decide_eq_true_eq, decide_eq_false_iff_not] at h3
      have y22 := hb22.size
      have z22 := hk22.size; have o22 := hk22.own
      simp only [List.mem_cons, List.not_mem_nil, or_false, forall_eq_or_imp, forall_eq] at o22
      have LP_22 := LP_20.ko hk22 (allc (by omega) (allc (by omega) (allc (by omega) all0)))
      have LF_22 := LF_20.ko hk22 (allc (by omega) (allc (by omega) (allc (by omega) all0)))
      have LA_22 := LA_20.ko hk22 (allc (by omega) (allc (by omega) (allc (by omega) all0)))
      have LT_22 := LT_20.ko hk22 (allc (by omega) (allc (by omega) (allc (by omega) all0)))
      have LV6_22 := LV6_20.ko hk22 (allc (by omega) (allc (by omega) (allc (by omega) all0)))
      have LU6_22 := LU6_20.ko hk22 (allc (by omega) (allc (by omega) (allc (by omega) all0)))
      have LI8_22 := LI8_20.ko hk22 (allc (by omega) (allc (by omega) (allc (by omega) all0)))
      have LI10_22 := LI10_20.ko hk22 (allc (by omega) (allc (by omega) (allc (by omega) all0)))
      have LQ_22 := LQ_20.ko hk22 (allc (by omega) (allc (by omega) (allc (by omega) all0)))
      have LV14_22 := LV14_20.ko hk22 (allc (by omega) (allc (by omega) (allc (by omega) all0)))
      have LU14_22 := LU14_20.ko hk22 (allc (by omega) (allc (by omega) (allc (by omega) all0)))
      have LI16_22 := LI16_20.ko hk22 (allc (by omega) (allc (by omega) (allc (by omega) all0)))
      have LI18_22 := LI18_20.ko hk22 (allc (by omega) (allc (by omega) (allc (by omega) all0)))
      have LW_22 := LW_20.ko hk22 (allc (by omega) (allc (by omega) (allc (by omega) all0)))
      have LL_22 := LL_20.ko hk22 (allc (by omega) (allc (by omega) (allc (by omega) all0)))
      exact ⟨by first | rfl | contradiction | (exfalso; omega) | (exfalso; grind), hb22⟩
    · intro h4 w23 hb23 hk23
      try simp only [] at h4
      have y23 := hb23.size
      have z23 := hk23.size; have o23 := hk23.own
      simp only [List.mem_cons, List.not_mem_nil, or_false, forall_eq_or_imp, forall_eq] at o23
      have LP_23 := LP_20.ko hk23 (allc (by omega) (allc (by omega) (allc (by omega) all0)))
      have LF_23 := LF_20.ko hk23 (allc (by omega) (allc (by omega) (allc (by omega) all0)))
      have LA_23 := LA_20.ko hk23 (allc (by omega) (allc (by omega) (allc (by omega) all0)))
      have LT_23 := LT_20.ko hk23 (allc (by omega) (allc (by omega) (allc (by omega) all0)))
      have LV6_23 := LV6_20.ko hk23 (allc (by omega) (allc (by omega) (allc (by omega) all0)))
      have LU6_23 := LU6_20.ko hk23 (allc (by omega) (allc (by omega) (allc (by omega) all0)))
      have LI8_23 := LI8_20.ko hk23 (allc (by omega) (allc (by omega) (allc (by omega) all0)))
      have LI10_23 := LI10_20.ko hk23 (allc (by omega) (allc (by omega) (allc (by omega) all0)))
      have LQ_23 := LQ_20.ko hk23 (allc (by omega) (allc (by omega) (allc (by omega) all0)))
      have LV14_23 := LV14_20.ko hk23 (allc (by omega) (allc (by omega) (allc (by omega) all0)))
      have LU14_23 := LU14_20.ko hk23 (allc (by omega) (allc (by omega) (allc (by omega) all0)))
      have LI16_23 := LI16_20.ko hk23 (allc (by omega) (allc (by omega) (allc (by omega) all0)))
      have LI18_23 := LI18_20.ko hk23 (allc (by omega) (allc (by omega) (allc (by omega) all0)))
      have LW_23 := LW_20.ko hk23 (allc (by omega) (allc (by omega) (allc (by omega) all0)))
      have LL_23 := LL_20.ko hk23 (allc (by omega) (allc (by omega) (allc (by omega) all0)))
      refine map_mk fun w24 hd24 MA_24 => ?_
      have hb24 := hb23.trans (hd24.mono hb23.size)
      have z24 := hd24.size
      have LP_24 := LP_23.below hd24
      have LF_24 := LF_23.below hd24
      have LA_24 := LA_23.below hd24
      have LT_24 := LT_23.below hd24
      have LV6_24 := LV6_23.below hd24
      have LU6_24 := LU6_23.below hd24
      have LI8_24 := LI8_23.below hd24
      have LI10_24 := LI10_23.below hd24
      have LQ_24 := LQ_23.below hd24
      have LV14_24 := LV14_23.below hd24
      have LU14_24 := LU14_23.below hd24
      have LI16_24 := LI16_23.below hd24
      have LI18_24 := LI18_23.below hd24
      have LW_24 := LW_23.below hd24
      have LL_24 := LL_23.below hd24
      have lMA := MA_24.h.lt
      refine ⟨_, rfl, .all hd24, ?_⟩
      intro w25 hb25 hk25
      have y25 := hb25.size
      have z25 := hk25.size; have o25 := hk25.own
      simp only [List.mem_cons, List.not_mem_nil, or_false, forall_eq_or_imp, forall_eq] at o25
      have LP_25 := LP_24.ko hk25 (allc (by omega) (allc (by omega) (allc (by omega) all0)))
      have LF_25 := LF_24.ko hk25 (allc (by omega) (allc (by omega) (allc (by omega) all0)))
      have LA_25 := LA_24.ko hk25 (allc (by omega) (allc (by omega) (allc (by omega) all0)))
      have LT_25 := LT_24.ko hk25 (allc (by omega) (allc (by omega) (allc (by omega) all0)))
      have LV6_25 := LV6_24.ko hk25 (allc (by omega) (allc (by omega) (allc (by omega) all0)))
      have LU6_25 := LU6_24.ko hk25 (allc (by omega) (allc (by omega) (allc (by omega) all0)))
      have LI8_25 := LI8_24.ko hk25 (allc (by omega) (allc (by omega) (allc (by omega) all0)))
      have LI10_25 := LI10_24.ko hk25 (allc (by omega) (allc (by omega) (allc (by omega) all0)))
      have LQ_25 := LQ_24.ko hk25 (allc (by omega) (allc (by omega) (allc (by omega) all0)))
      have LV14_25 := LV14_24.ko hk25 (allc (by omega) (allc (by omega) (allc (by omega) all0)))
      have LU14_25 := LU14_24.ko hk25 (allc (by omega) (allc (by omega) (allc (by omega) all0)))
      have LI16_25 := LI16_24.ko hk25 (allc (by omega) (allc (by omega) (allc (by omega) all0)))
      have LI18_25 := LI18_24.ko hk25 (allc (by omega) (allc (by omega) (allc (by omega) all0)))
      have LW_25 := LW_24.ko hk25 (allc (by omega) (allc (by omega) (allc (by omega) all0)))
      have LL_25 := LL_24.ko hk25 (allc (by omega) (allc (by omega) (allc (by omega) all0)))
      have MA_25 := MA_24.ko hk25 (allc (by omega) (allc (by omega) (allc (by omega) all0)))
      refine map_mk fun w26 hd26 MB_26 => ?_
      have hb26 := hb25.trans (hd26.mono hb25.size)
      have z26 := hd26.size
      have LP_26 := LP_25.below hd26
      have LF_26 := LF_25.below hd26
      have LA_26 := LA_25.below hd26
      have LT_26 := LT_25.below hd26
      have LV6_26 := LV6_25.below hd26
      have LU6_26 := LU6_25.below hd26
      have LI8_26 := LI8_25.below hd26
      have LI10_26 := LI10_25.below hd26
      have LQ_26 := LQ_25.below hd26
      have LV14_26 := LV14_25.below hd26
      have LU14_26 := LU14_25.below hd26
      have LI16_26 := LI16_25.below hd26
      have LI18_26 := LI18_25.below hd26
      have LW_26 := LW_25.below hd26
      have LL_26 := LL_25.below hd26
      have MA_26 := MA_25.below hd26
      have lMB := MB_26.h.lt
      refine ⟨_, rfl, .all hd26, ?_⟩
      refine ⟨fun ls w' => match ls with | [.bool _, .int _ ii] => (0 ≤ ii ∧ ii ≤ P.length) ∧ w25.heap.size < w'.heap.size ∧ MapAt w23.heap.size ((P.take ii.toNat).map (·.2)) w' ∧ MapAt w25.heap.size ((P.take ii.toNat).map (·.1)) w' ∧ ((LiesS w1.heap.size w2.heap.size w' pa W.pats ∧ Lies [] w1.heap.size w2.heap.size w' fa (fitsV W.fits) ∧ Lies [] w3.heap.size w4.heap.size w' ha (ints A) ∧ Lies [] w3.heap.size w4.heap.size w' ta (ints T) ∧ Lies [] w11.heap.size w12.heap.size w' qa (pairsV P) ∧ Lies [] w19.heap.size w20.heap.size w' wa (ints fw) ∧ Lies [] w19.heap.size w20.heap.size w' la (ints al)) ∧ w20.heap.size ≤ w'.heap.size) | _ => False, fun ls => match ls with | [_, .int _ ii] => (P.length - ii).toNat | _ => 0, ?_, ?_⟩
      · intro w28 hb28 hk28
        have y28 := hb28.size
        have z28 := hk28.size; have o28 := hk28.own
        simp only [List.mem_cons, List.not_mem_nil, or_false, forall_eq_or_imp, forall_eq] at o28
        have LP_28 := LP_26.ko hk28 (allc (by omega) (allc (by omega) (allc (by omega) all0)))
        have LF_28 := LF_26.ko hk28 (allc (by omega) (allc (by omega) (allc (by omega) all0)))
        have LA_28 := LA_26.ko hk28 (allc (by omega) (allc (by omega) (allc (by omega) all0)))
        have LT_28 := LT_26.ko hk28 (allc (by omega) (allc (by omega) (allc (by omega) all0)))
        have LV6_28 := LV6_26.ko hk28 (allc (by omega) (allc (by omega) (allc (by omega) all0)))
        have LU6_28 := LU6_26.ko hk28 (allc (by omega) (allc (by omega) (allc (by omega) all0)))
        have LI8_28 := LI8_26.ko hk28 (allc (by omega) (allc (by omega) (allc (by omega) all0)))
        have LI10_28 := LI10_26.ko hk28 (allc (by omega) (allc (by omega) (allc (by omega) all0)))
        have LQ_28 := LQ_26.ko hk28 (allc (by omega) (allc (by omega) (allc (by omega) all0)))
        have LV14_28 := LV14_26.ko hk28 (allc (by omega) (allc (by omega) (allc (by omega) all0)))
        have LU14_28 := LU14_26.ko hk28 (allc (by omega) (allc (by omega) (allc (by omega) all0)))
        have LI16_28 := LI16_26.ko hk28 (allc (by omega) (allc (by omega) (allc (by omega) all0)))
        have LI18_28 := LI18_26.ko hk28 (allc (by omega) (allc (by omega) (allc (by omega) all0)))
        have LW_28 := LW_26.ko hk28 (allc (by omega) (allc (by omega) (allc (by omega) all0)))
        have LL_28 := LL_26.ko hk28 (allc (by omega) (allc (by omega) (allc (by omega) all0)))
        have MA_28 := MA_26.ko hk28 (allc (by omega) (allc (by omega) (allc (by omega) all0)))
        have MB_28 := MB_26.ko hk28 (allc (by omega) (allc (by omega) (allc (by omega) all0)))
        exact ⟨⟨by omega, by omega⟩, by omega, MA_28, MB_28, ⟨⟨LP_28, LF_28, LA_28, LT_28, LQ_28, LW_28, LL_28⟩, by omega⟩⟩
      rintro t1 x9 w29 hb29 ⟨hx9, lB, MA, MB, ⟨⟨LP, LF, LA, LT, LQ, LW, LL⟩, zH⟩⟩
      have y29 := hb29.size
      refine ⟨?_, ?_⟩
      · intro h5
        try simp only [Bool.not_eq_true', Bool.not_eq_false', decide_eq_true_eq, decide_eq_false_iff_not] at h5
        refine load_pr0 LQ (by omega) fun m50 m51 hm2 => ?_
        refine ⟨(by first | omega | (simp only; omega)), ?_⟩
        refine load_pr1 LQ (by omega) fun m52 m53 hm3 => ?_
        have hq := pr_at hP (i := x9) (by omega)
        have hq1 := hq.s
        have hq2 := hq.h
        have hq3 := hq.g
        have hq4 := hq.n1
        have hq5 := hq.n2
        have hq6 := hq.o
        have qa := hA.get (P.getD x9.toNat pr0).2.toNat
        have qt := hT.get (P.getD x9.toNat pr0).1.toNat
        refine ⟨(by first | omega | (simp only; omega)), ?_, ?_⟩
        · intro h6 w30 hb30 hk30
          try simp only [Bool.not_eq_true', Bool.not_eq_false', decide_eq_true_eq, decide_eq_false_iff_not] at h6
          have y30 := hb30.size
          have z30 := hk30.size; have o30 := hk30.own
          simp only [List.mem_cons, List.not_mem_nil, or_false, forall_eq_or_imp, forall_eq] at o30
          have LP_30 := LP.ko hk30 (allc (by omega) (allc (by omega) (allc (by omega) all0)))
          have LF_30 := LF.ko hk30 (allc (by omega) (allc (by omega) (allc (by omega) all0)))
          have LA_30 := LA.ko hk30 (allc (by omega) (allc (by omega) (allc (by omega) all0)))
          have LT_30 := LT.ko hk30 (allc (by omega) (allc (by omega) (allc (by omega) all0)))
          have LQ_30 := LQ.ko hk30 (allc (by omega) (allc (by omega) (allc (by omega) all0)))
          have LW_30 := LW.ko hk30 (allc (by omega) (allc (by omega) (allc (by omega) all0)))
          have LL_30 := LL.ko hk30 (allc (by omega) (allc (by omega) (allc (by omega) all0)))
          have MA_30 := MA.ko hk30 (allc (by omega) (allc (by omega) (allc (by omega) all0)))
          have MB_30 := MB.ko hk30 (allc (by omega) (allc (by omega) (allc (by omega) all0)))
          exact ⟨by first | rfl | contradiction | (exfalso; omega) | (exfalso; grind), hb30⟩
        · intro h7
          try simp only [Bool.not_eq_true', Bool.not_eq_false', decide_eq_true_eq, decide_eq_false_iff_not] at h7
          refine ⟨?_, ?_⟩
          · intro h8 w31 hb31 hk31
            try simp only [Bool.not_eq_true', Bool.not_eq_false', decide_eq_true_eq, decide_eq_false_iff_not] at h8
            have y31 := hb31.size
            have z31 := hk31.size; have o31 := hk31.own
            simp only [List.mem_cons, List.not_mem_nil, or_false, forall_eq_or_imp, forall_eq] at o31
            have LP_31 := LP.ko hk31 (allc (by omega) (allc (by omega) (allc (by omega) all0)))
            have LF_31 := LF.ko hk31 (allc (by omega) (allc (by omega) (allc (by omega) all0)))
            have LA_31 := LA.ko hk31 (allc (by omega) (allc (by omega) (allc (by omega) all0)))
            have LT_31 := LT.ko hk31 (allc (by omega) (allc (by omega) (allc (by omega) all0)))
            have LQ_31 := LQ.ko hk31 (allc (by omega) (allc (by omega) (allc (by omega) all0)))
            have LW_31 := LW.ko hk31 (allc (by omega) (allc (by omega) (allc (by omega) all0)))
            have LL_31 := LL.ko hk31 (allc (by omega) (allc (by omega) (allc (by omega) all0)))
            have MA_31 := MA.ko hk31 (allc (by omega) (allc (by omega) (allc (by omega) all0)))
            have MB_31 := MB.ko hk31 (allc (by omega) (allc (by omega) (allc (by omega) all0)))
            exact ⟨by first | rfl | contradiction | (exfalso; omega) | (exfalso; grind), hb31⟩
          · intro h9
            try simp only [Bool.not_eq_true', Bool.not_eq_false', decide_eq_true_eq, decide_eq_false_iff_not] at h9
            refine ⟨?_, ?_⟩
            · intro h10 w32 hb32 hk32
              try simp only [Bool.not_eq_true', Bool.not_eq_false', decide_eq_true_eq, decide_eq_false_iff_not] at h10
              have y32 := hb32.size
              have z32 := hk32.size; have o32 := hk32.own
              simp only [List.mem_cons, List.not_mem_nil, or_false, forall_eq_or_imp, forall_eq] at o32
              have LP_32 := LP.ko hk32 (allc (by omega) (allc (by omega) (allc (by omega) all0)))
              have LF_32 := LF.ko hk32 (allc (by omega) (allc (by omega) (allc (by omega) all0)))
              have LA_32 := LA.ko hk32 (allc (by omega) (allc (by omega) (allc (by omega) all0)))
              have LT_32 := LT.ko hk32 (allc (by omega) (allc (by omega) (allc (by omega) all0)))
              have LQ_32 := LQ.ko hk32 (allc (by omega) (allc (by omega) (allc (by omega) all0)))
              have LW_32 := LW.ko hk32 (allc (by omega) (allc (by omega) (allc (by omega) all0)))
              have LL_32 := LL.ko hk32 (allc (by omega) (allc (by omega) (allc (by omega) all0)))
              have MA_32 := MA.ko hk32 (allc (by omega) (allc (by omega) (allc (by omega) all0)))
              have MB_32 := MB.ko hk32 (allc (by omega) (allc (by omega) (allc (by omega) all0)))
              exact ⟨by first | rfl | contradiction | (exfalso; omega) | (exfalso; grind), hb32⟩
            · intro h11
              try simp only [Bool.not_eq_true', Bool.not_eq_false', decide_eq_true_eq, decide_eq_false_iff_not] at h11
              refine ⟨?_, ?_⟩
              · intro h12 w33 hb33 hk33
                try simp only [Bool.not_eq_true', Bool.not_eq_false', decide_eq_true_eq, decide_eq_false_iff_not] at h12
                have y33 := hb33.size
                have z33 := hk33.size; have o33 := hk33.own
                simp only [List.mem_cons, List.not_mem_nil, or_false, forall_eq_or_imp, forall_eq] at o33
                have LP_33 := LP.ko hk33 (allc (by omega) (allc (by omega) (allc (by omega) all0)))
                have LF_33 := LF.ko hk33 (allc (by omega) (allc (by omega) (allc (by omega) all0)))
                have LA_33 := LA.ko hk33 (allc (by omega) (allc (by omega) (allc (by omega) all0)))
                have LT_33 := LT.ko hk33 (allc (by omega) (allc (by omega) (allc (by omega) all0)))
                have LQ_33 := LQ.ko hk33 (allc (by omega) (allc (by omega) (allc (by omega) all0)))
                have LW_33 := LW.ko hk33 (allc (by omega) (allc (by omega) (allc (by omega) all0)))
                have LL_33 := LL.ko hk33 (allc (by omega) (allc (by omega) (allc (by omega) all0)))
                have MA_33 := MA.ko hk33 (allc (by omega) (allc (by omega) (allc (by omega) all0)))
                have MB_33 := MB.ko hk33 (allc (by omega) (allc (by omega) (allc (by omega) all0)))
                exact ⟨by first | rfl | contradiction | (exfalso; omega) | (exfalso; grind), hb33⟩
              · intro h13 w34 hb34 hk34
                try simp only [Bool.not_eq_true', Bool.not_eq_false', decide_eq_true_eq, decide_eq_false_iff_not] at h13
                have y34 := hb34.size
                have z34 := hk34.size; have o34 := hk34.own
                simp only [List.mem_cons, List.not_mem_nil, or_false, forall_eq_or_imp, forall_eq] at o34
                have LP_34 := LP.kio hk34 (allc (by omega) (allc (by omega) (allc (by omega) all0))) ⟨(0, w29.heap.size), by simp, by simp only; omega, by simp only; omega⟩
                have LF_34 := LF.kio hk34 (allc (by omega) (allc (by omega) (allc (by omega) all0))) ⟨(0, w29.heap.size), by simp, by simp only; omega, by simp only; omega⟩
                have LA_34 := LA.kio hk34 (allc (by omega) (allc (by omega) (allc (by omega) all0))) ⟨(0, w29.heap.size), by simp, by simp only; omega, by simp only; omega⟩
                have LT_34 := LT.kio hk34 (allc (by omega) (allc (by omega) (allc (by omega) all0))) ⟨(0, w29.heap.size), by simp, by simp only; omega, by simp only; omega⟩
                have LQ_34 := LQ.kio hk34 (allc (by omega) (allc (by omega) (allc (by omega) all0))) ⟨(0, w29.heap.size), by simp, by simp only; omega, by simp only; omega⟩
                have LW_34 := LW.kio hk34 (allc (by omega) (allc (by omega) (allc (by omega) all0))) ⟨(0, w29.heap.size), by simp, by simp only; omega, by simp only; omega⟩
                have LL_34 := LL.kio hk34 (allc (by omega) (allc (by omega) (allc (by omega) all0))) ⟨(0, w29.heap.size), by simp, by simp only; omega, by simp only; omega⟩
                have MA_34 := MA.kio hk34 (allc (by omega) (allc (by omega) (allc (by omega) all0)))
                have MB_34 := MB.kio hk34 (allc (by omega) (allc (by omega) (allc (by omega) all0)))
                refine map_has MA_34 ?_
                refine ⟨_, rfl, .all (.refl _ _), ?_, ?_⟩
                · intro h14 w36 hb36 hk36
                  try simp only [decide_eq_true_eq] at h14
                  have y36 := hb36.size
                  have z36 := hk36.size; have o36 := hk36.own
                  simp only [List.mem_cons, List.not_mem_nil, or_false, forall_eq_or_imp, forall_eq] at o36
                  have LP_36 := LP_34.ko hk36 (allc (by omega) (allc (by omega) (allc (by omega) all0)))
                  have LF_36 := LF_34.ko hk36 (allc (by omega) (allc (by omega) (allc (by omega) all0)))
                  have LA_36 := LA_34.ko hk36 (allc (by omega) (allc (by omega) (allc (by omega) all0)))
                  have LT_36 := LT_34.ko hk36 (allc (by omega) (allc (by omega) (allc (by omega) all0)))
                  have LQ_36 := LQ_34.ko hk36 (allc (by omega) (allc (by omega) (allc (by omega) all0)))
                  have LW_36 := LW_34.ko hk36 (allc (by omega) (allc (by omega) (allc (by omega) all0)))
                  have LL_36 := LL_34.ko hk36 (allc (by omega) (allc (by omega) (allc (by omega) all0)))
                  have MA_36 := MA_34.ko hk36 (allc (by omega) (allc (by omega) (allc (by omega) all0)))
                  have MB_36 := MB_34.ko hk36 (allc (by omega) (allc (by omega) (allc (by omega) all0)))
                  exact ⟨by first | rfl | contradiction | (exfalso; omega) | (exfalso; grind), hb36⟩
                · intro h15 w37 hb37 hk37
                  try simp only [decide_eq_false_iff_not] at h15
                  have y37 := hb37.size
                  have z37 := hk37.size; have o37 := hk37.own
                  simp only [List.mem_cons, List.not_mem_nil, or_false, forall_eq_or_imp, forall_eq] at o37
                  have LP_37 := LP_34.kio hk37 (allc (by omega) (allc (by omega) (allc (by omega) all0))) ⟨(0, w34.heap.size), by simp, by simp only; omega, by simp only; omega⟩
                  have LF_37 := LF_34.kio hk37 (allc (by omega) (allc (by omega) (allc (by omega) all0))) ⟨(0, w34.heap.size), by simp, by simp only; omega, by simp only; omega⟩
                  have LA_37 := LA_34.kio hk37 (allc (by omega) (allc (by omega) (allc (by omega) all0))) ⟨(0, w34.heap.size), by simp, by simp only; omega, by simp only; omega⟩
                  have LT_37 := LT_34.kio hk37 (allc (by omega) (allc (by omega) (allc (by omega) all0))) ⟨(0, w34.heap.size), by simp, by simp only; omega, by simp only; omega⟩
                  have LQ_37 := LQ_34.kio hk37 (allc (by omega) (allc (by omega) (allc (by omega) all0))) ⟨(0, w34.heap.size), by simp, by simp only; omega, by simp only; omega⟩
                  have LW_37 := LW_34.kio hk37 (allc (by omega) (allc (by omega) (allc (by omega) all0))) ⟨(0, w34.heap.size), by simp, by simp only; omega, by simp only; omega⟩
                  have LL_37 := LL_34.kio hk37 (allc (by omega) (allc (by omega) (allc (by omega) all0))) ⟨(0, w34.heap.size), by simp, by simp only; omega, by simp only; omega⟩
                  have MA_37 := MA_34.kio hk37 (allc (by omega) (allc (by omega) (allc (by omega) all0)))
                  have MB_37 := MB_34.kio hk37 (allc (by omega) (allc (by omega) (allc (by omega) all0)))
                  refine map_has MB_37 ?_
                  refine ⟨_, rfl, .all (.refl _ _), ?_, ?_⟩
                  · intro h16 w39 hb39 hk39
                    try simp only [decide_eq_true_eq] at h16
                    have y39 := hb39.size
                    have z39 := hk39.size; have o39 := hk39.own
                    simp only [List.mem_cons, List.not_mem_nil, or_false, forall_eq_or_imp, forall_eq] at o39
                    have LP_39 := LP_37.ko hk39 (allc (by omega) (allc (by omega) (allc (by omega) all0)))
                    have LF_39 := LF_37.ko hk39 (allc (by omega) (allc (by omega) (allc (by omega) all0)))
                    have LA_39 := LA_37.ko hk39 (allc (by omega) (allc (by omega) (allc (by omega) all0)))
                    have LT_39 := LT_37.ko hk39 (allc (by omega) (allc (by omega) (allc (by omega) all0)))
                    have LQ_39 := LQ_37.ko hk39 (allc (by omega) (allc (by omega) (allc (by omega) all0)))
                    have LW_39 := LW_37.ko hk39 (allc (by omega) (allc (by omega) (allc (by omega) all0)))
                    have LL_39 := LL_37.ko hk39 (allc (by omega) (allc (by omega) (allc (by omega) all0)))
                    have MA_39 := MA_37.ko hk39 (allc (by omega) (allc (by omega) (allc (by omega) all0)))
                    have MB_39 := MB_37.ko hk39 (allc (by omega) (allc (by omega) (allc (by omega) all0)))
                    exact ⟨by first | rfl | contradiction | (exfalso; omega) | (exfalso; grind), hb39⟩
                  · intro h17
                    try simp only [decide_eq_false_iff_not] at h17
                    refine ⟨?_, ?_⟩
                    · intro h18
                      try simp only [Bool.not_eq_true', Bool.not_eq_false', decide_eq_true_eq, decide_eq_false_iff_not] at h18
                      refine ⟨(by first | omega | (simp only; omega)), ?_⟩
                      refine load_pr0 LQ_37 (by omega) fun m56 m57 hm4 => ?_
                      refine ⟨(by first | omega | (simp only; omega)), ?_, ?_⟩
                      · intro h19 w40 hb40 hk40
                        try simp only [Bool.not_eq_true', Bool.not_eq_false', decide_eq_true_eq, decide_eq_false_iff_not] at h19
                        have y40 := hb40.size
                        have z40 := hk40.size; have o40 := hk40.own
                        simp only [List.mem_cons, List.not_mem_nil, or_false, forall_eq_or_imp, forall_eq] at o40
                        have LP_40 := LP_37.ko hk40 (allc (by omega) (allc (by omega) (allc (by omega) all0)))
                        have LF_40 := LF_37.ko hk40 (allc (by omega) (allc (by omega) (allc (by omega) all0)))
                        have LA_40 := LA_37.ko hk40 (allc (by omega) (allc (by omega) (allc (by omega) all0)))
                        have LT_40 := LT_37.ko hk40 (allc (by omega) (allc (by omega) (allc (by omega) all0)))
                        have LQ_40 := LQ_37.ko hk40 (allc (by omega) (allc (by omega) (allc (by omega) all0)))
                        have LW_40 := LW_37.ko hk40 (allc (by omega) (allc (by omega) (allc (by omega) all0)))
                        have LL_40 := LL_37.ko hk40 (allc (by omega) (allc (by omega) (allc (by omega) all0)))
                        have MA_40 := MA_37.ko hk40 (allc (by omega) (allc (by omega) (allc (by omega) all0)))
                        have MB_40 := MB_37.ko hk40 (allc (by omega) (allc (by omega) (allc (by omega) all0)))
                        exact ⟨by first | rfl | contradiction | (exfalso; omega) | (exfalso; grind), hb40⟩
                      · intro h20
                        try simp only [Bool.not_eq_true', Bool.not_eq_false', decide_eq_true_eq, decide_eq_false_iff_not] at h20
                        refine load_intL LA_37 (by omega) fun m58 m59 hm5 => ?_
                        refine ⟨(by first | omega | (simp only; omega)), ?_⟩
                        refine load_intL LT_37 (by omega) fun m60 m61 hm6 => ?_
                        refine ⟨(by first | omega | (simp only; omega)), (by first | omega | (simp only; omega)), ?_, ?_⟩
                        · intro h21 w41 hb41 hk41
                          try simp only [Bool.not_eq_true', Bool.not_eq_false', decide_eq_true_eq, decide_eq_false_iff_not] at h21
                          have y41 := hb41.size
                          have z41 := hk41.size; have o41 := hk41.own
                          simp only [List.mem_cons, List.not_mem_nil, or_false, forall_eq_or_imp, forall_eq] at o41
                          have LP_41 := LP_37.ko hk41 (allc (by omega) (allc (by omega) (allc (by omega) all0)))
                          have LF_41 := LF_37.ko hk41 (allc (by omega) (allc (by omega) (allc (by omega) all0)))
                          have LA_41 := LA_37.ko hk41 (allc (by omega) (allc (by omega) (allc (by omega) all0)))
                          have LT_41 := LT_37.ko hk41 (allc (by omega) (allc (by omega) (allc (by omega) all0)))
                          have LQ_41 := LQ_37.ko hk41 (allc (by omega) (allc (by omega) (allc (by omega) all0)))
                          have LW_41 := LW_37.ko hk41 (allc (by omega) (allc (by omega) (allc (by omega) all0)))
                          have LL_41 := LL_37.ko hk41 (allc (by omega) (allc (by omega) (allc (by omega) all0)))
                          have MA_41 := MA_37.ko hk41 (allc (by omega) (allc (by omega) (allc (by omega) all0)))
                          have MB_41 := MB_37.ko hk41 (allc (by omega) (allc (by omega) (allc (by omega) all0)))
                          exact ⟨by first | rfl | contradiction | (exfalso; omega) | (exfalso; grind), hb41⟩
                        · intro h22
                          try simp only [Bool.not_eq_true', Bool.not_eq_false', decide_eq_true_eq, decide_eq_false_iff_not] at h22
                          refine load_intL LA_37 (by omega) fun m62 m63 hm7 => ?_
                          refine ⟨(by first | omega | (simp only; omega)), ?_⟩
                          refine load_intL LT_37 (by omega) fun m64 m65 hm8 => ?_
                          refine ⟨(by first | omega | (simp only; omega)), (by first | omega | (simp only; omega)), ?_, ?_⟩
                          · intro h23 w42 hb42 hk42
                            try simp only [Bool.not_eq_true', Bool.not_eq_false', decide_eq_true_eq, decide_eq_false_iff_not] at h23
                            have y42 := hb42.size
                            have z42 := hk42.size; have o42 := hk42.own
                            simp only [List.mem_cons, List.not_mem_nil, or_false, forall_eq_or_imp, forall_eq] at o42
                            have LP_42 := LP_37.ko hk42 (allc (by omega) (allc (by omega) (allc (by omega) all0)))
                            have LF_42 := LF_37.ko hk42 (allc (by omega) (allc (by omega) (allc (by omega) all0)))
                            have LA_42 := LA_37.ko hk42 (allc (by omega) (allc (by omega) (allc (by omega) all0)))
                            have LT_42 := LT_37.ko hk42 (allc (by omega) (allc (by omega) (allc (by omega) all0)))
                            have LQ_42 := LQ_37.ko hk42 (allc (by omega) (allc (by omega) (allc (by omega) all0)))
                            have LW_42 := LW_37.ko hk42 (allc (by omega) (allc (by omega) (allc (by omega) all0)))
                            have LL_42 := LL_37.ko hk42 (allc (by omega) (allc (by omega) (allc (by omega) all0)))
                            have MA_42 := MA_37.ko hk42 (allc (by omega) (allc (by omega) (allc (by omega) all0)))
                            have MB_42 := MB_37.ko hk42 (allc (by omega) (allc (by omega) (allc (by omega) all0)))
                            exact ⟨by first | rfl | contradiction | (exfalso; omega) | (exfalso; grind), hb42⟩
                          · intro h24 w43 hb43 hk43
                            try simp only [Bool.not_eq_true', Bool.not_eq_false', decide_eq_true_eq, decide_eq_false_iff_not] at h24
                            have y43 := hb43.size
                            have z43 := hk43.size; have o43 := hk43.own
                            simp only [List.mem_cons, List.not_mem_nil, or_false, forall_eq_or_imp, forall_eq] at o43
                            have LP_43 := LP_37.ko hk43 (allc (by omega) (allc (by omega) (allc (by omega) all0)))
                            have LF_43 := LF_37.ko hk43 (allc (by omega) (allc (by omega) (allc (by omega) all0)))
                            have LA_43 := LA_37.ko hk43 (allc (by omega) (allc (by omega) (allc (by omega) all0)))
                            have LT_43 := LT_37.ko hk43 (allc (by omega) (allc (by omega) (allc (by omega) all0)))
                            have LQ_43 := LQ_37.ko hk43 (allc (by omega) (allc (by omega) (allc (by omega) all0)))
                            have LW_43 := LW_37.ko hk43 (allc (by omega) (allc (by omega) (allc (by omega) all0)))
                            have LL_43 := LL_37.ko hk43 (allc (by omega) (allc (by omega) (allc (by omega) all0)))
                            have MA_43 := MA_37.ko hk43 (allc (by omega) (allc (by omega) (allc (by omega) all0)))
                            have MB_43 := MB_37.ko hk43 (allc (by omega) (allc (by omega) (allc (by omega) all0)))
                            refine map_add MA_43 hq.n2 fun w44 MA_44 c44 => ?_
                            have z44 := c44.size
                            have kx44 : KeepX true w.heap.size [m10, m7, m1] (fun _ => False) w43 w44 := c44.own (fun x hx => ⟨hk43.own x hx, fun h => by simp only [List.mem_cons, List.not_mem_nil, or_false] at h hx; omega⟩) (by simp) (fun _ => ⟨hb43.size, fun x hx => by simp only [List.mem_singleton] at hx; omega⟩)
                            have LP_44 := LP_43.out c44 (allc (by omega) all0)
                            have LF_44 := LF_43.out c44 (allc (by omega) all0)
                            have LA_44 := LA_43.out c44 (allc (by omega) all0)
                            have LT_44 := LT_43.out c44 (allc (by omega) all0)
                            have LQ_44 := LQ_43.out c44 (allc (by omega) all0)
                            have LW_44 := LW_43.out c44 (allc (by omega) all0)
                            have LL_44 := LL_43.out c44 (allc (by omega) all0)
                            have MB_44 := MB_43.out c44 (allc (by omega) all0)
                            refine ⟨kx44, ?_⟩
                            intro w45 hb45 hk45
                            have y45 := hb45.size
                            have z45 := hk45.size; have o45 := hk45.own
                            simp only [List.mem_cons, List.not_mem_nil, or_false, forall_eq_or_imp, forall_eq] at o45
                            have LP_45 := LP_44.ko hk45 (allc (by omega) (allc (by omega) (allc (by omega) all0)))
                            have LF_45 := LF_44.ko hk45 (allc (by omega) (allc (by omega) (allc (by omega) all0)))
                            have LA_45 := LA_44.ko hk45 (allc (by omega) (allc (by omega) (allc (by omega) all0)))
                            have LT_45 := LT_44.ko hk45 (allc (by omega) (allc (by omega) (allc (by omega) all0)))
                            have LQ_45 := LQ_44.ko hk45 (allc (by omega) (allc (by omega) (allc (by omega) all0)))
                            have LW_45 := LW_44.ko hk45 (allc (by omega) (allc (by omega) (allc (by omega) all0)))
                            have LL_45 := LL_44.ko hk45 (allc (by omega) (allc (by omega) (allc (by omega) all0)))
                            have MA_45 := MA_44.ko hk45 (allc (by omega) (allc (by omega) (allc (by omega) all0)))
                            have MB_45 := MB_44.ko hk45 (allc (by omega) (allc (by omega) (allc (by omega) all0)))
                            refine map_add MB_45 hq.n1 fun w46 MB_46 c46 => ?_
                            have z46 := c46.size
                            have kx46 : KeepX true w.heap.size [m10, m7, m1] (fun _ => False) w45 w46 := c46.own (fun x hx => ⟨hk45.own x hx, fun h => by simp only [List.mem_cons, List.not_mem_nil, or_false] at h hx; omega⟩) (by simp) (fun _ => ⟨hb45.size, fun x hx => by simp only [List.mem_singleton] at hx; omega⟩)
                            have LP_46 := LP_45.out c46 (allc (by omega) all0)
                            have LF_46 := LF_45.out c46 (allc (by omega) all0)
                            have LA_46 := LA_45.out c46 (allc (by omega) all0)
                            have LT_46 := LT_45.out c46 (allc (by omega) all0)
                            have LQ_46 := LQ_45.out c46 (allc (by omega) all0)
                            have LW_46 := LW_45.out c46 (allc (by omega) all0)
                            have LL_46 := LL_45.out c46 (allc (by omega) all0)
                            have MA_46 := MA_45.out c46 (allc (by omega) all0)
                            refine ⟨kx46, (by first | omega | (simp only; omega)), ?_⟩
                            intro w47 hb47 hk47
                            have y47 := hb47.size
                            have z47 := hk47.size; have o47 := hk47.own
                            simp only [List.mem_cons, List.not_mem_nil, or_false, forall_eq_or_imp, forall_eq] at o47
                            have LP_47 := LP_46.ko hk47 (allc (by omega) (allc (by omega) (allc (by omega) all0)))
                            have LF_47 := LF_46.ko hk47 (allc (by omega) (allc (by omega) (allc (by omega) all0)))
                            have LA_47 := LA_46.ko hk47 (allc (by omega) (allc (by omega) (allc (by omega) all0)))
                            have LT_47 := LT_46.ko hk47 (allc (by omega) (allc (by omega) (allc (by omega) all0)))
                            have LQ_47 := LQ_46.ko hk47 (allc (by omega) (allc (by omega) (allc (by omega) all0)))
                            have LW_47 := LW_46.ko hk47 (allc (by omega) (allc (by omega) (allc (by omega) all0)))
                            have LL_47 := LL_46.ko hk47 (allc (by omega) (allc (by omega) (allc (by omega) all0)))
                            have MA_47 := MA_46.ko hk47 (allc (by omega) (allc (by omega) (allc (by omega) all0)))
                            have MB_47 := MB_46.ko hk47 (allc (by omega) (allc (by omega) (allc (by omega) all0)))
                            refine ⟨?_, (by first | omega | (simp only; omega))⟩
                            exact ⟨⟨by omega, by omega⟩, by omega, by rw [show (x9 + 1).toNat = x9.toNat + 1 by omega, take_snd (by omega)]; exact MA_47, by rw [show (x9 + 1).toNat = x9.toNat + 1 by omega, take_fst (by omega)]; exact MB_47, ⟨⟨LP_47, LF_47, LA_47, LT_47, LQ_47, LW_47, LL_47⟩, by omega⟩⟩
                    · intro h25
                      try simp only [Bool.not_eq_true', Bool.not_eq_false', decide_eq_true_eq, decide_eq_false_iff_not] at h25
                      refine load_intL LA_37 (by omega) fun m68 m69 hm9 => ?_
                      refine ⟨(by first | omega | (simp only; omega)), ?_⟩
                      refine load_intL LT_37 (by omega) fun m70 m71 hm10 => ?_
                      refine ⟨(by first | omega | (simp only; omega)), (by first | omega | (simp only; omega)), ?_, ?_⟩
                      · intro h26 w48 hb48 hk48
                        try simp only [Bool.not_eq_true', Bool.not_eq_false', decide_eq_true_eq, decide_eq_false_iff_not] at h26
                        have y48 := hb48.size
                        have z48 := hk48.size; have o48 := hk48.own
                        simp only [List.mem_cons, List.not_mem_nil, or_false, forall_eq_or_imp, forall_eq] at o48
                        have LP_48 := LP_37.ko hk48 (allc (by omega) (allc (by omega) (allc (by omega) all0)))
                        have LF_48 := LF_37.ko hk48 (allc (by omega) (allc (by omega) (allc (by omega) all0)))
                        have LA_48 := LA_37.ko hk48 (allc (by omega) (allc (by omega) (allc (by omega) all0)))
                        have LT_48 := LT_37.ko hk48 (allc (by omega) (allc (by omega) (allc (by omega) all0)))
                        have LQ_48 := LQ_37.ko hk48 (allc (by omega) (allc (by omega) (allc (by omega) all0)))
                        have LW_48 := LW_37.ko hk48 (allc (by omega) (allc (by omega) (allc (by omega) all0)))
                        have LL_48 := LL_37.ko hk48 (allc (by omega) (allc (by omega) (allc (by omega) all0)))
                        have MA_48 := MA_37.ko hk48 (allc (by omega) (allc (by omega) (allc (by omega) all0)))
                        have MB_48 := MB_37.ko hk48 (allc (by omega) (allc (by omega) (allc (by omega) all0)))
                        exact ⟨by first | rfl | contradiction | (exfalso; omega) | (exfalso; grind), hb48⟩
                      · intro h27
                        try simp only [Bool.not_eq_true', Bool.not_eq_false', decide_eq_true_eq, decide_eq_false_iff_not] at h27
                        refine load_intL LA_37 (by omega) fun m72 m73 hm11 => ?_
                        refine ⟨(by first | omega | (simp only; omega)), ?_⟩
                        refine load_intL LT_37 (by omega) fun m74 m75 hm12 => ?_
                        refine ⟨(by first | omega | (simp only; omega)), (by first | omega | (simp only; omega)), ?_, ?_⟩
                        · intro h28 w49 hb49 hk49
                          try simp only [Bool.not_eq_true', Bool.not_eq_false', decide_eq_true_eq, decide_eq_false_iff_not] at h28
                          have y49 := hb49.size
                          have z49 := hk49.size; have o49 := hk49.own
                          simp only [List.mem_cons, List.not_mem_nil, or_false, forall_eq_or_imp, forall_eq] at o49
                          have LP_49 := LP_37.ko hk49 (allc (by omega) (allc (by omega) (allc (by omega) all0)))
                          have LF_49 := LF_37.ko hk49 (allc (by omega) (allc (by omega) (allc (by omega) all0)))
                          have LA_49 := LA_37.ko hk49 (allc (by omega) (allc (by omega) (allc (by omega) all0)))
                          have LT_49 := LT_37.ko hk49 (allc (by omega) (allc (by omega) (allc (by omega) all0)))
                          have LQ_49 := LQ_37.ko hk49 (allc (by omega) (allc (by omega) (allc (by omega) all0)))
                          have LW_49 := LW_37.ko hk49 (allc (by omega) (allc (by omega) (allc (by omega) all0)))
                          have LL_49 := LL_37.ko hk49 (allc (by omega) (allc (by omega) (allc (by omega) all0)))
                          have MA_49 := MA_37.ko hk49 (allc (by omega) (allc (by omega) (allc (by omega) all0)))
                          have MB_49 := MB_37.ko hk49 (allc (by omega) (allc (by omega) (allc (by omega) all0)))
                          exact ⟨by first | rfl | contradiction | (exfalso; omega) | (exfalso; grind), hb49⟩
                        · intro h29 w50 hb50 hk50
                          try simp only [Bool.not_eq_true', Bool.not_eq_false', decide_eq_true_eq, decide_eq_false_iff_not] at h29
                          have y50 := hb50.size
                          have z50 := hk50.size; have o50 := hk50.own
                          simp only [List.mem_cons, List.not_mem_nil, or_false, forall_eq_or_imp, forall_eq] at o50
                          have LP_50 := LP_37.ko hk50 (allc (by omega) (allc (by omega) (allc (by omega) all0)))
                          have LF_50 := LF_37.ko hk50 (allc (by omega) (allc (by omega) (allc (by omega) all0)))
                          have LA_50 := LA_37.ko hk50 (allc (by omega) (allc (by omega) (allc (by omega) all0)))
                          have LT_50 := LT_37.ko hk50 (allc (by omega) (allc (by omega) (allc (by omega) all0)))
                          have LQ_50 := LQ_37.ko hk50 (allc (by omega) (allc (by omega) (allc (by omega) all0)))
                          have LW_50 := LW_37.ko hk50 (allc (by omega) (allc (by omega) (allc (by omega) all0)))
                          have LL_50 := LL_37.ko hk50 (allc (by omega) (allc (by omega) (allc (by omega) all0)))
                          have MA_50 := MA_37.ko hk50 (allc (by omega) (allc (by omega) (allc (by omega) all0)))
                          have MB_50 := MB_37.ko hk50 (allc (by omega) (allc (by omega) (allc (by omega) all0)))
                          refine map_add MA_50 hq.n2 fun w51 MA_51 c51 => ?_
                          have z51 := c51.size
                          have kx51 : KeepX true w.heap.size [m10, m7, m1] (fun _ => False) w50 w51 := c51.own (fun x hx => ⟨hk50.own x hx, fun h => by simp only [List.mem_cons, List.not_mem_nil, or_false] at h hx; omega⟩) (by simp) (fun _ => ⟨hb50.size, fun x hx => by simp only [List.mem_singleton] at hx; omega⟩)
                          have LP_51 := LP_50.out c51 (allc (by omega) all0)
                          have LF_51 := LF_50.out c51 (allc (by omega) all0)
                          have LA_51 := LA_50.out c51 (allc (by omega) all0)
                          have LT_51 := LT_50.out c51 (allc (by omega) all0)
                          have LQ_51 := LQ_50.out c51 (allc (by omega) all0)
                          have LW_51 := LW_50.out c51 (allc (by omega) all0)
                          have LL_51 := LL_50.out c51 (allc (by omega) all0)
                          have MB_51 := MB_50.out c51 (allc (by omega) all0)
                          refine ⟨kx51, ?_⟩
                          intro w52 hb52 hk52
                          have y52 := hb52.size
                          have z52 := hk52.size; have o52 := hk52.own
                          simp only [List.mem_cons, List.not_mem_nil, or_false, forall_eq_or_imp, forall_eq] at o52
                          have LP_52 := LP_51.ko hk52 (allc (by omega) (allc (by omega) (allc (by omega) all0)))
                          have LF_52 := LF_51.ko hk52 (allc (by omega) (allc (by omega) (allc (by omega) all0)))
                          have LA_52 := LA_51.ko hk52 (allc (by omega) (allc (by omega) (allc (by omega) all0)))
                          have LT_52 := LT_51.ko hk52 (allc (by omega) (allc (by omega) (allc (by omega) all0)))
                          have LQ_52 := LQ_51.ko hk52 (allc (by omega) (allc (by omega) (allc (by omega) all0)))
                          have LW_52 := LW_51.ko hk52 (allc (by omega) (allc (by omega) (allc (by omega) all0)))
                          have LL_52 := LL_51.ko hk52 (allc (by omega) (allc (by omega) (allc (by omega) all0)))
                          have MA_52 := MA_51.ko hk52 (allc (by omega) (allc (by omega) (allc (by omega) all0)))
                          have MB_52 := MB_51.ko hk52 (allc (by omega) (allc (by omega) (allc (by omega) all0)))
                          refine map_add MB_52 hq.n1 fun w53 MB_53 c53 => ?_
                          have z53 := c53.size
                          have kx53 : KeepX true w.heap.size [m10, m7, m1] (fun _ => False) w52 w53 := c53.own (fun x hx => ⟨hk52.own x hx, fun h => by simp only [List.mem_cons, List.not_mem_nil, or_false] at h hx; omega⟩) (by simp) (fun _ => ⟨hb52.size, fun x hx => by simp only [List.mem_singleton] at hx; omega⟩)
                          have LP_53 := LP_52.out c53 (allc (by omega) all0)
                          have LF_53 := LF_52.out c53 (allc (by omega) all0)
                          have LA_53 := LA_52.out c53 (allc (by omega) all0)
                          have LT_53 := LT_52.out c53 (allc (by omega) all0)
                          have LQ_53 := LQ_52.out c53 (allc (by omega) all0)
                          have LW_53 := LW_52.out c53 (allc (by omega) all0)
                          have LL_53 := LL_52.out c53 (allc (by omega) all0)
                          have MA_53 := MA_52.out c53 (allc (by omega) all0)
                          refine ⟨kx53, (by first | omega | (simp only; omega)), ?_⟩
                          intro w54 hb54 hk54
                          have y54 := hb54.size
                          have z54 := hk54.size; have o54 := hk54.own
                          simp only [List.mem_cons, List.not_mem_nil, or_false, forall_eq_or_imp, forall_eq] at o54
                          have LP_54 := LP_53.ko hk54 (allc (by omega) (allc (by omega) (allc (by omega) all0)))
                          have LF_54 := LF_53.ko hk54 (allc (by omega) (allc (by omega) (allc (by omega) all0)))
                          have LA_54 := LA_53.ko hk54 (allc (by omega) (allc (by omega) (allc (by omega) all0)))
                          have LT_54 := LT_53.ko hk54 (allc (by omega) (allc (by omega) (allc (by omega) all0)))
                          have LQ_54 := LQ_53.ko hk54 (allc (by omega) (allc (by omega) (allc (by omega) all0)))
                          have LW_54 := LW_53.ko hk54 (allc (by omega) (allc (by omega) (allc (by omega) all0)))
                          have LL_54 := LL_53.ko hk54 (allc (by omega) (allc (by omega) (allc (by omega) all0)))
                          have MA_54 := MA_53.ko hk54 (allc (by omega) (allc (by omega) (allc (by omega) all0)))
                          have MB_54 := MB_53.ko hk54 (allc (by omega) (allc (by omega) (allc (by omega) all0)))
                          refine ⟨?_, (by first | omega | (simp only; omega))⟩
                          exact ⟨⟨by omega, by omega⟩, by omega, by rw [show (x9 + 1).toNat = x9.toNat + 1 by omega, take_snd (by omega)]; exact MA_54, by rw [show (x9 + 1).toNat = x9.toNat + 1 by omega, take_fst (by omega)]; exact MB_54, ⟨⟨LP_54, LF_54, LA_54, LT_54, LQ_54, LW_54, LL_54⟩, by omega⟩⟩
      · intro h30 w55 hb55 hk55
        try simp only [Bool.not_eq_true', Bool.not_eq_false', decide_eq_true_eq, decide_eq_false_iff_not] at h30
        have y55 := hb55.size
        have z55 := hk55.size; have o55 := hk55.own
        simp only [List.mem_cons, List.not_mem_nil, or_false, forall_eq_or_imp, forall_eq] at o55
        have LP_55 := LP.ko hk55 (allc (by omega) (allc (by omega) (allc (by omega) all0)))
        have LF_55 := LF.ko hk55 (allc (by omega) (allc (by omega) (allc (by omega) all0)))
        have LA_55 := LA.ko hk55 (allc (by omega) (allc (by omega) (allc (by omega) all0)))
        have LT_55 := LT.ko hk55 (allc (by omega) (allc (by omega) (allc (by omega) all0)))
        have LQ_55 := LQ.ko hk55 (allc (by omega) (allc (by omega) (allc (by omega) all0)))
        have LW_55 := LW.ko hk55 (allc (by omega) (allc (by omega) (allc (by omega) all0)))
        have LL_55 := LL.ko hk55 (allc (by omega) (allc (by omega) (allc (by omega) all0)))
        have MA_55 := MA.ko hk55 (allc (by omega) (allc (by omega) (allc (by omega) all0)))
        have MB_55 := MB.ko hk55 (allc (by omega) (allc (by omega) (allc (by omega) all0)))
        refine map_mk fun w56 hd56 MC_56 => ?_
        have hb56 := hb55.trans (hd56.mono hb55.size)
        have z56 := hd56.size
        have LP_56 := LP_55.below hd56
        have LF_56 := LF_55.below hd56
        have LA_56 := LA_55.below hd56
        have LT_56 := LT_55.below hd56
        have LQ_56 := LQ_55.below hd56
        have LW_56 := LW_55.below hd56
        have LL_56 := LL_55.below hd56
        have MA_56 := MA_55.below hd56
        have MB_56 := MB_55.below hd56
        have lMC := MC_56.h.lt
        refine ⟨_, rfl, .all hd56, ?_⟩
        intro w57 hb57 hk57
        have y57 := hb57.size
        have z57 := hk57.size; have o57 := hk57.own
        simp only [List.mem_cons, List.not_mem_nil, or_false, forall_eq_or_imp, forall_eq] at o57
        have LP_57 := LP_56.ko hk57 (allc (by omega) (allc (by omega) (allc (by omega) all0)))
        have LF_57 := LF_56.ko hk57 (allc (by omega) (allc (by omega) (allc (by omega) all0)))
        have LA_57 := LA_56.ko hk57 (allc (by omega) (allc (by omega) (allc (by omega) all0)))
        have LT_57 := LT_56.ko hk57 (allc (by omega) (allc (by omega) (allc (by omega) all0)))
        have LQ_57 := LQ_56.ko hk57 (allc (by omega) (allc (by omega) (allc (by omega) all0)))
        have LW_57 := LW_56.ko hk57 (allc (by omega) (allc (by omega) (allc (by omega) all0)))
        have LL_57 := LL_56.ko hk57 (allc (by omega) (allc (by omega) (allc (by omega) all0)))
        have MA_57 := MA_56.ko hk57 (allc (by omega) (allc (by omega) (allc (by omega) all0)))
        have MB_57 := MB_56.ko hk57 (allc (by omega) (allc (by omega) (allc (by omega) all0)))
        have MC_57 := MC_56.ko hk57 (allc (by omega) (allc (by omega) (allc (by omega) all0)))
        refine map_mk fun w58 hd58 MD_58 => ?_
        have hb58 := hb57.trans (hd58.mono hb57.size)
        have z58 := hd58.size
        have LP_58 := LP_57.below hd58
        have LF_58 := LF_57.below hd58
        have LA_58 := LA_57.below hd58
        have LT_58 := LT_57.below hd58
        have LQ_58 := LQ_57.below hd58
        have LW_58 := LW_57.below hd58
        have LL_58 := LL_57.below hd58
        have MA_58 := MA_57.below hd58
        have MB_58 := MB_57.below hd58
        have MC_58 := MC_57.below hd58
        have lMD := MD_58.h.lt
        refine ⟨_, rfl, .all hd58, ?_⟩
        refine ⟨fun ls w' => match ls with | [.bool _, .int _ ii] => (0 ≤ ii ∧ ii ≤ al.length) ∧ w57.heap.size < w'.heap.size ∧ MapAt w25.heap.size (P.map (·.1)) w' ∧ MapAt w55.heap.size (al.take ii.toNat) w' ∧ MapAt w57.heap.size [] w' ∧ ((LiesS w1.heap.size w2.heap.size w' pa W.pats ∧ Lies [] w1.heap.size w2.heap.size w' fa (fitsV W.fits) ∧ Lies [] w3.heap.size w4.heap.size w' ha (ints A) ∧ Lies [] w3.heap.size w4.heap.size w' ta (ints T) ∧ Lies [] w11.heap.size w12.heap.size w' qa (pairsV P) ∧ Lies [] w19.heap.size w20.heap.size w' wa (ints fw) ∧ Lies [] w19.heap.size w20.heap.size w' la (ints al)) ∧ w20.heap.size ≤ w'.heap.size) | _ => False, fun ls => match ls with | [_, .int _ ii] => (al.length - ii).toNat | _ => 0, ?_, ?_⟩
        · intro w60 hb60 hk60
          have y60 := hb60.size
          have z60 := hk60.size; have o60 := hk60.own
          simp only [List.mem_cons, List.not_mem_nil, or_false, forall_eq_or_imp, forall_eq] at o60
          have LP_60 := LP_58.ko hk60 (allc (by omega) (allc (by omega) (allc (by omega) all0)))
          have LF_60 := LF_58.ko hk60 (allc (by omega) (allc (by omega) (allc (by omega) all0)))
          have LA_60 := LA_58.ko hk60 (allc (by omega) (allc (by omega) (allc (by omega) all0)))
          have LT_60 := LT_58.ko hk60 (allc (by omega) (allc (by omega) (allc (by omega) all0)))
          have LQ_60 := LQ_58.ko hk60 (allc (by omega) (allc (by omega) (allc (by omega) all0)))
          have LW_60 := LW_58.ko hk60 (allc (by omega) (allc (by omega) (allc (by omega) all0)))
          have LL_60 := LL_58.ko hk60 (allc (by omega) (allc (by omega) (allc (by omega) all0)))
          have MA_60 := MA_58.ko hk60 (allc (by omega) (allc (by omega) (allc (by omega) all0)))
          have MB_60 := MB_58.ko hk60 (allc (by omega) (allc (by omega) (allc (by omega) all0)))
          have MC_60 := MC_58.ko hk60 (allc (by omega) (allc (by omega) (allc (by omega) all0)))
          have MD_60 := MD_58.ko hk60 (allc (by omega) (allc (by omega) (allc (by omega) all0)))
          exact ⟨⟨by omega, by omega⟩, by omega, (by have e : P.take x9.toNat = P := take_all (by omega); (rw [← e]; exact MB_60)), MC_60, MD_60, ⟨⟨LP_60, LF_60, LA_60, LT_60, LQ_60, LW_60, LL_60⟩, by omega⟩⟩
        rintro t4 x21 w61 hb61 ⟨hx21, lD, MB, MC, MD, ⟨⟨LP, LF, LA, LT, LQ, LW, LL⟩, zH⟩⟩
        have y61 := hb61.size
        refine ⟨?_, ?_⟩
        · intro h31
          try simp only [Bool.not_eq_true', Bool.not_eq_false', decide_eq_true_eq, decide_eq_false_iff_not] at h31
          refine load_intL LL (by omega) fun m82 m83 hm13 => ?_
          have hq := all_at hal (i := x21) (by omega)
          have hq1 := hq.r
          have hq6 := hq.o
          refine ⟨(by first | omega | (simp only; omega)), ?_, ?_⟩
          · intro h32 w62 hb62 hk62
            try simp only [Bool.not_eq_true', Bool.not_eq_false', decide_eq_true_eq, decide_eq_false_iff_not] at h32
            have y62 := hb62.size
            have z62 := hk62.size; have o62 := hk62.own
            simp only [List.mem_cons, List.not_mem_nil, or_false, forall_eq_or_imp, forall_eq] at o62
            have LP_62 := LP.ko hk62 (allc (by omega) (allc (by omega) (allc (by omega) all0)))
            have LF_62 := LF.ko hk62 (allc (by omega) (allc (by omega) (allc (by omega) all0)))
            have LA_62 := LA.ko hk62 (allc (by omega) (allc (by omega) (allc (by omega) all0)))
            have LT_62 := LT.ko hk62 (allc (by omega) (allc (by omega) (allc (by omega) all0)))
            have LQ_62 := LQ.ko hk62 (allc (by omega) (allc (by omega) (allc (by omega) all0)))
            have LW_62 := LW.ko hk62 (allc (by omega) (allc (by omega) (allc (by omega) all0)))
            have LL_62 := LL.ko hk62 (allc (by omega) (allc (by omega) (allc (by omega) all0)))
            have MB_62 := MB.ko hk62 (allc (by omega) (allc (by omega) (allc (by omega) all0)))
            have MC_62 := MC.ko hk62 (allc (by omega) (allc (by omega) (allc (by omega) all0)))
            have MD_62 := MD.ko hk62 (allc (by omega) (allc (by omega) (allc (by omega) all0)))
            exact ⟨by first | rfl | contradiction | (exfalso; omega) | (exfalso; grind), hb62⟩
          · intro h33
            try simp only [Bool.not_eq_true', Bool.not_eq_false', decide_eq_true_eq, decide_eq_false_iff_not] at h33
            refine load_intL LL (by omega) fun m84 m85 hm14 => ?_
            refine ⟨(by first | omega | (simp only; omega)), ?_, ?_⟩
            · intro h34 w63 hb63 hk63
              try simp only [Bool.not_eq_true', Bool.not_eq_false', decide_eq_true_eq, decide_eq_false_iff_not] at h34
              have y63 := hb63.size
              have z63 := hk63.size; have o63 := hk63.own
              simp only [List.mem_cons, List.not_mem_nil, or_false, forall_eq_or_imp, forall_eq] at o63
              have LP_63 := LP.ko hk63 (allc (by omega) (allc (by omega) (allc (by omega) all0)))
              have LF_63 := LF.ko hk63 (allc (by omega) (allc (by omega) (allc (by omega) all0)))
              have LA_63 := LA.ko hk63 (allc (by omega) (allc (by omega) (allc (by omega) all0)))
              have LT_63 := LT.ko hk63 (allc (by omega) (allc (by omega) (allc (by omega) all0)))
              have LQ_63 := LQ.ko hk63 (allc (by omega) (allc (by omega) (allc (by omega) all0)))
              have LW_63 := LW.ko hk63 (allc (by omega) (allc (by omega) (allc (by omega) all0)))
              have LL_63 := LL.ko hk63 (allc (by omega) (allc (by omega) (allc (by omega) all0)))
              have MB_63 := MB.ko hk63 (allc (by omega) (allc (by omega) (allc (by omega) all0)))
              have MC_63 := MC.ko hk63 (allc (by omega) (allc (by omega) (allc (by omega) all0)))
              have MD_63 := MD.ko hk63 (allc (by omega) (allc (by omega) (allc (by omega) all0)))
              exact ⟨by first | rfl | contradiction | (exfalso; omega) | (exfalso; grind), hb63⟩
            · intro h35
              try simp only [Bool.not_eq_true', Bool.not_eq_false', decide_eq_true_eq, decide_eq_false_iff_not] at h35
              refine ⟨?_, ?_⟩
              · intro h36
                try simp only [Bool.not_eq_true', Bool.not_eq_false', decide_eq_true_eq, decide_eq_false_iff_not] at h36
                refine load_intL LL (by omega) fun m86 m87 hm15 => ?_
                refine ⟨(by first | omega | (simp only; omega)), (by first | omega | (simp only; omega)), ?_⟩
                refine load_intL LL (by omega) fun m88 m89 hm16 => ?_
                refine ⟨(by first | omega | (simp only; omega)), ?_, ?_⟩
                · intro h37 w64 hb64 hk64
                  try simp only [Bool.not_eq_true', Bool.not_eq_false', decide_eq_true_eq, decide_eq_false_iff_not] at h37
                  have y64 := hb64.size
                  have z64 := hk64.size; have o64 := hk64.own
                  simp only [List.mem_cons, List.not_mem_nil, or_false, forall_eq_or_imp, forall_eq] at o64
                  have LP_64 := LP.ko hk64 (allc (by omega) (allc (by omega) (allc (by omega) all0)))
                  have LF_64 := LF.ko hk64 (allc (by omega) (allc (by omega) (allc (by omega) all0)))
                  have LA_64 := LA.ko hk64 (allc (by omega) (allc (by omega) (allc (by omega) all0)))
                  have LT_64 := LT.ko hk64 (allc (by omega) (allc (by omega) (allc (by omega) all0)))
                  have LQ_64 := LQ.ko hk64 (allc (by omega) (allc (by omega) (allc (by omega) all0)))
                  have LW_64 := LW.ko hk64 (allc (by omega) (allc (by omega) (allc (by omega) all0)))
                  have LL_64 := LL.ko hk64 (allc (by omega) (allc (by omega) (allc (by omega) all0)))
                  have MB_64 := MB.ko hk64 (allc (by omega) (allc (by omega) (allc (by omega) all0)))
                  have MC_64 := MC.ko hk64 (allc (by omega) (allc (by omega) (allc (by omega) all0)))
                  have MD_64 := MD.ko hk64 (allc (by omega) (allc (by omega) (allc (by omega) all0)))
                  exact ⟨by first | rfl | contradiction | (exfalso; omega) | (exfalso; grind), hb64⟩
                · intro h38
                  try simp only [Bool.not_eq_true', Bool.not_eq_false', decide_eq_true_eq, decide_eq_false_iff_not] at h38
                  refine load_intL LL (by omega) fun m90 m91 hm17 => ?_
                  refine ⟨(by first | omega | (simp only; omega)), ?_⟩
                  intro w65 hb65 hk65
                  have y65 := hb65.size
                  have z65 := hk65.size; have o65 := hk65.own
                  simp only [List.mem_cons, List.not_mem_nil, or_false, forall_eq_or_imp, forall_eq] at o65
                  have LP_65 := LP.ko hk65 (allc (by omega) (allc (by omega) (allc (by omega) all0)))
                  have LF_65 := LF.ko hk65 (allc (by omega) (allc (by omega) (allc (by omega) all0)))
                  have LA_65 := LA.ko hk65 (allc (by omega) (allc (by omega) (allc (by omega) all0)))
                  have LT_65 := LT.ko hk65 (allc (by omega) (allc (by omega) (allc (by omega) all0)))
                  have LQ_65 := LQ.ko hk65 (allc (by omega) (allc (by omega) (allc (by omega) all0)))
                  have LW_65 := LW.ko hk65 (allc (by omega) (allc (by omega) (allc (by omega) all0)))
                  have LL_65 := LL.ko hk65 (allc (by omega) (allc (by omega) (allc (by omega) all0)))
                  have MB_65 := MB.ko hk65 (allc (by omega) (allc (by omega) (allc (by omega) all0)))
                  have MC_65 := MC.ko hk65 (allc (by omega) (allc (by omega) (allc (by omega) all0)))
                  have MD_65 := MD.ko hk65 (allc (by omega) (allc (by omega) (allc (by omega) all0)))
                  refine map_add MC_65 hq.nn fun w66 MC_66 c66 => ?_
                  have z66 := c66.size
                  have kx66 : KeepX true w.heap.size [m10, m7, m1] (fun _ => False) w65 w66 := c66.own (fun x hx => ⟨hk65.own x hx, fun h => by simp only [List.mem_cons, List.not_mem_nil, or_false] at h hx; omega⟩) (by simp) (fun _ => ⟨hb65.size, fun x hx => by simp only [List.mem_singleton] at hx; omega⟩)
                  have LP_66 := LP_65.out c66 (allc (by omega) all0)
                  have LF_66 := LF_65.out c66 (allc (by omega) all0)
                  have LA_66 := LA_65.out c66 (allc (by omega) all0)
                  have LT_66 := LT_65.out c66 (allc (by omega) all0)
                  have LQ_66 := LQ_65.out c66 (allc (by omega) all0)
                  have LW_66 := LW_65.out c66 (allc (by omega) all0)
                  have LL_66 := LL_65.out c66 (allc (by omega) all0)
                  have MB_66 := MB_65.out c66 (allc (by omega) all0)
                  have MD_66 := MD_65.out c66 (allc (by omega) all0)
                  refine ⟨kx66, (by first | omega | (simp only; omega)), ?_⟩
                  intro w67 hb67 hk67
                  have y67 := hb67.size
                  have z67 := hk67.size; have o67 := hk67.own
                  simp only [List.mem_cons, List.not_mem_nil, or_false, forall_eq_or_imp, forall_eq] at o67
                  have LP_67 := LP_66.ko hk67 (allc (by omega) (allc (by omega) (allc (by omega) all0)))
                  have LF_67 := LF_66.ko hk67 (allc (by omega) (allc (by omega) (allc (by omega) all0)))
                  have LA_67 := LA_66.ko hk67 (allc (by omega) (allc (by omega) (allc (by omega) all0)))
                  have LT_67 := LT_66.ko hk67 (allc (by omega) (allc (by omega) (allc (by omega) all0)))
                  have LQ_67 := LQ_66.ko hk67 (allc (by omega) (allc (by omega) (allc (by omega) all0)))
                  have LW_67 := LW_66.ko hk67 (allc (by omega) (allc (by omega) (allc (by omega) all0)))
                  have LL_67 := LL_66.ko hk67 (allc (by omega) (allc (by omega) (allc (by omega) all0)))
                  have MB_67 := MB_66.ko hk67 (allc (by omega) (allc (by omega) (allc (by omega) all0)))
                  have MC_67 := MC_66.ko hk67 (allc (by omega) (allc (by omega) (allc (by omega) all0)))
                  have MD_67 := MD_66.ko hk67 (allc (by omega) (allc (by omega) (allc (by omega) all0)))
                  refine ⟨?_, (by first | omega | (simp only; omega))⟩
                  exact ⟨⟨by omega, by omega⟩, by omega, MB_67, by rw [show (x21 + 1).toNat = x21.toNat + 1 by omega, take_intN (by omega)]; exact MC_67, MD_67, ⟨⟨LP_67, LF_67, LA_67, LT_67, LQ_67, LW_67, LL_67⟩, by omega⟩⟩
              · intro h39
                try simp only [Bool.not_eq_true', Bool.not_eq_false', decide_eq_true_eq, decide_eq_false_iff_not] at h39
                refine load_intL LL (by omega) fun m93 m94 hm18 => ?_
                refine ⟨(by first | omega | (simp only; omega)), ?_⟩
                intro w68 hb68 hk68
                have y68 := hb68.size
                have z68 := hk68.size; have o68 := hk68.own
                simp only [List.mem_cons, List.not_mem_nil, or_false, forall_eq_or_imp, forall_eq] at o68
                have LP_68 := LP.ko hk68 (allc (by omega) (allc (by omega) (allc (by omega) all0)))
                have LF_68 := LF.ko hk68 (allc (by omega) (allc (by omega) (allc (by omega) all0)))
                have LA_68 := LA.ko hk68 (allc (by omega) (allc (by omega) (allc (by omega) all0)))
                have LT_68 := LT.ko hk68 (allc (by omega) (allc (by omega) (allc (by omega) all0)))
                have LQ_68 := LQ.ko hk68 (allc (by omega) (allc (by omega) (allc (by omega) all0)))
                have LW_68 := LW.ko hk68 (allc (by omega) (allc (by omega) (allc (by omega) all0)))
                have LL_68 := LL.ko hk68 (allc (by omega) (allc (by omega) (allc (by omega) all0)))
                have MB_68 := MB.ko hk68 (allc (by omega) (allc (by omega) (allc (by omega) all0)))
                have MC_68 := MC.ko hk68 (allc (by omega) (allc (by omega) (allc (by omega) all0)))
                have MD_68 := MD.ko hk68 (allc (by omega) (allc (by omega) (allc (by omega) all0)))
                refine map_add MC_68 hq.nn fun w69 MC_69 c69 => ?_
                have z69 := c69.size
                have kx69 : KeepX true w.heap.size [m10, m7, m1] (fun _ => False) w68 w69 := c69.own (fun x hx => ⟨hk68.own x hx, fun h => by simp only [List.mem_cons, List.not_mem_nil, or_false] at h hx; omega⟩) (by simp) (fun _ => ⟨hb68.size, fun x hx => by simp only [List.mem_singleton] at hx; omega⟩)
                have LP_69 := LP_68.out c69 (allc (by omega) all0)
                have LF_69 := LF_68.out c69 (allc (by omega) all0)
                have LA_69 := LA_68.out c69 (allc (by omega) all0)
                have LT_69 := LT_68.out c69 (allc (by omega) all0)
                have LQ_69 := LQ_68.out c69 (allc (by omega) all0)
                have LW_69 := LW_68.out c69 (allc (by omega) all0)
                have LL_69 := LL_68.out c69 (allc (by omega) all0)
                have MB_69 := MB_68.out c69 (allc (by omega) all0)
                have MD_69 := MD_68.out c69 (allc (by omega) all0)
                refine ⟨kx69, (by first | omega | (simp only; omega)), ?_⟩
                intro w70 hb70 hk70
                have y70 := hb70.size
                have z70 := hk70.size; have o70 := hk70.own
                simp only [List.mem_cons, List.not_mem_nil, or_false, forall_eq_or_imp, forall_eq] at o70
                have LP_70 := LP_69.ko hk70 (allc (by omega) (allc (by omega) (allc (by omega) all0)))
                have LF_70 := LF_69.ko hk70 (allc (by omega) (allc (by omega) (allc (by omega) all0)))
                have LA_70 := LA_69.ko hk70 (allc (by omega) (allc (by omega) (allc (by omega) all0)))
                have LT_70 := LT_69.ko hk70 (allc (by omega) (allc (by omega) (allc (by omega) all0)))
                have LQ_70 := LQ_69.ko hk70 (allc (by omega) (allc (by omega) (allc (by omega) all0)))
                have LW_70 := LW_69.ko hk70 (allc (by omega) (allc (by omega) (allc (by omega) all0)))
                have LL_70 := LL_69.ko hk70 (allc (by omega) (allc (by omega) (allc (by omega) all0)))
                have MB_70 := MB_69.ko hk70 (allc (by omega) (allc (by omega) (allc (by omega) all0)))
                have MC_70 := MC_69.ko hk70 (allc (by omega) (allc (by omega) (allc (by omega) all0)))
                have MD_70 := MD_69.ko hk70 (allc (by omega) (allc (by omega) (allc (by omega) all0)))
                refine ⟨?_, (by first | omega | (simp only; omega))⟩
                exact ⟨⟨by omega, by omega⟩, by omega, MB_70, by rw [show (x21 + 1).toNat = x21.toNat + 1 by omega, take_intN (by omega)]; exact MC_70, MD_70, ⟨⟨LP_70, LF_70, LA_70, LT_70, LQ_70, LW_70, LL_70⟩, by omega⟩⟩
        · intro h40
          try simp only [Bool.not_eq_true', Bool.not_eq_false', decide_eq_true_eq, decide_eq_false_iff_not] at h40
          refine ⟨fun ls w' => match ls with | [.bool _, .int _ ii] => (0 ≤ ii ∧ ii ≤ fw.length) ∧ w57.heap.size < w'.heap.size ∧ MapAt w25.heap.size (P.map (·.1)) w' ∧ MapAt w55.heap.size al w' ∧ MapAt w57.heap.size (fw.take ii.toNat) w' ∧ ((LiesS w1.heap.size w2.heap.size w' pa W.pats ∧ Lies [] w1.heap.size w2.heap.size w' fa (fitsV W.fits) ∧ Lies [] w3.heap.size w4.heap.size w' ha (ints A) ∧ Lies [] w3.heap.size w4.heap.size w' ta (ints T) ∧ Lies [] w11.heap.size w12.heap.size w' qa (pairsV P) ∧ Lies [] w19.heap.size w20.heap.size w' wa (ints fw) ∧ Lies [] w19.heap.size w20.heap.size w' la (ints al)) ∧ w20.heap.size ≤ w'.heap.size) | _ => False, fun ls => match ls with | [_, .int _ ii] => (fw.length - ii).toNat | _ => 0, ?_, ?_⟩
          · intro w72 hb72 hk72
            have y72 := hb72.size
            have z72 := hk72.size; have o72 := hk72.own
            simp only [List.mem_cons, List.not_mem_nil, or_false, forall_eq_or_imp, forall_eq] at o72
            have LP_72 := LP.ko hk72 (allc (by omega) (allc (by omega) (allc (by omega) all0)))
            have LF_72 := LF.ko hk72 (allc (by omega) (allc (by omega) (allc (by omega) all0)))
            have LA_72 := LA.ko hk72 (allc (by omega) (allc (by omega) (allc (by omega) all0)))
            have LT_72 := LT.ko hk72 (allc (by omega) (allc (by omega) (allc (by omega) all0)))
            have LQ_72 := LQ.ko hk72 (allc (by omega) (allc (by omega) (allc (by omega) all0)))
            have LW_72 := LW.ko hk72 (allc (by omega) (allc (by omega) (allc (by omega) all0)))
            have LL_72 := LL.ko hk72 (allc (by omega) (allc (by omega) (allc (by omega) all0)))
            have MB_72 := MB.ko hk72 (allc (by omega) (allc (by omega) (allc (by omega) all0)))
            have MC_72 := MC.ko hk72 (allc (by omega) (allc (by omega) (allc (by omega) all0)))
            have MD_72 := MD.ko hk72 (allc (by omega) (allc (by omega) (allc (by omega) all0)))
            exact ⟨⟨by omega, by omega⟩, by omega, MB_72, (by have e : al.take x21.toNat = al := take_all (by omega); (rw [← e]; exact MC_72)), MD_72, ⟨⟨LP_72, LF_72, LA_72, LT_72, LQ_72, LW_72, LL_72⟩, by omega⟩⟩
          rintro t5 x28 w73 hb73 ⟨hx28, lD, MB, MC, MD, ⟨⟨LP, LF, LA, LT, LQ, LW, LL⟩, zH⟩⟩
          have y73 := hb73.size
          refine ⟨?_, ?_⟩
          · intro h41
            try simp only [Bool.not_eq_true', Bool.not_eq_false', decide_eq_true_eq, decide_eq_false_iff_not] at h41
            refine load_intL LW (by omega) fun m96 m97 hm19 => ?_
            have hq := few_at hfw (i := x28) (by omega)
            have hq1 := hq.r
            have hq6 := hq.o
            refine ⟨(by first | omega | (simp only; omega)), ?_, ?_⟩
            · intro h42 w74 hb74 hk74
              try simp only [Bool.not_eq_true', Bool.not_eq_false', decide_eq_true_eq, decide_eq_false_iff_not] at h42
              have y74 := hb74.size
              have z74 := hk74.size; have o74 := hk74.own
              simp only [List.mem_cons, List.not_mem_nil, or_false, forall_eq_or_imp, forall_eq] at o74
              have LP_74 := LP.ko hk74 (allc (by omega) (allc (by omega) (allc (by omega) all0)))
              have LF_74 := LF.ko hk74 (allc (by omega) (allc (by omega) (allc (by omega) all0)))
              have LA_74 := LA.ko hk74 (allc (by omega) (allc (by omega) (allc (by omega) all0)))
              have LT_74 := LT.ko hk74 (allc (by omega) (allc (by omega) (allc (by omega) all0)))
              have LQ_74 := LQ.ko hk74 (allc (by omega) (allc (by omega) (allc (by omega) all0)))
              have LW_74 := LW.ko hk74 (allc (by omega) (allc (by omega) (allc (by omega) all0)))
              have LL_74 := LL.ko hk74 (allc (by omega) (allc (by omega) (allc (by omega) all0)))
              have MB_74 := MB.ko hk74 (allc (by omega) (allc (by omega) (allc (by omega) all0)))
              have MC_74 := MC.ko hk74 (allc (by omega) (allc (by omega) (allc (by omega) all0)))
              have MD_74 := MD.ko hk74 (allc (by omega) (allc (by omega) (allc (by omega) all0)))
              exact ⟨by first | rfl | contradiction | (exfalso; omega) | (exfalso; grind), hb74⟩
            · intro h43
              try simp only [Bool.not_eq_true', Bool.not_eq_false', decide_eq_true_eq, decide_eq_false_iff_not] at h43
              refine load_intL LW (by omega) fun m98 m99 hm20 => ?_
              refine ⟨(by first | omega | (simp only; omega)), ?_, ?_⟩
              · intro h44 w75 hb75 hk75
                try simp only [Bool.not_eq_true', Bool.not_eq_false', decide_eq_true_eq, decide_eq_false_iff_not] at h44
                have y75 := hb75.size
                have z75 := hk75.size; have o75 := hk75.own
                simp only [List.mem_cons, List.not_mem_nil, or_false, forall_eq_or_imp, forall_eq] at o75
                have LP_75 := LP.ko hk75 (allc (by omega) (allc (by omega) (allc (by omega) all0)))
                have LF_75 := LF.ko hk75 (allc (by omega) (allc (by omega) (allc (by omega) all0)))
                have LA_75 := LA.ko hk75 (allc (by omega) (allc (by omega) (allc (by omega) all0)))
                have LT_75 := LT.ko hk75 (allc (by omega) (allc (by omega) (allc (by omega) all0)))
                have LQ_75 := LQ.ko hk75 (allc (by omega) (allc (by omega) (allc (by omega) all0)))
                have LW_75 := LW.ko hk75 (allc (by omega) (allc (by omega) (allc (by omega) all0)))
                have LL_75 := LL.ko hk75 (allc (by omega) (allc (by omega) (allc (by omega) all0)))
                have MB_75 := MB.ko hk75 (allc (by omega) (allc (by omega) (allc (by omega) all0)))
                have MC_75 := MC.ko hk75 (allc (by omega) (allc (by omega) (allc (by omega) all0)))
                have MD_75 := MD.ko hk75 (allc (by omega) (allc (by omega) (allc (by omega) all0)))
                exact ⟨by first | rfl | contradiction | (exfalso; omega) | (exfalso; grind), hb75⟩
              · intro h45
                try simp only [Bool.not_eq_true', Bool.not_eq_false', decide_eq_true_eq, decide_eq_false_iff_not] at h45
                refine ⟨?_, ?_⟩
                · intro h46
                  try simp only [Bool.not_eq_true', Bool.not_eq_false', decide_eq_true_eq, decide_eq_false_iff_not] at h46
                  refine load_intL LW (by omega) fun m100 m101 hm21 => ?_
                  refine ⟨(by first | omega | (simp only; omega)), (by first | omega | (simp only; omega)), ?_⟩
                  refine load_intL LW (by omega) fun m102 m103 hm22 => ?_
                  refine ⟨(by first | omega | (simp only; omega)), ?_, ?_⟩
                  · intro h47 w76 hb76 hk76
                    try simp only [Bool.not_eq_true', Bool.not_eq_false', decide_eq_true_eq, decide_eq_false_iff_not] at h47
                    have y76 := hb76.size
                    have z76 := hk76.size; have o76 := hk76.own
                    simp only [List.mem_cons, List.not_mem_nil, or_false, forall_eq_or_imp, forall_eq] at o76
                    have LP_76 := LP.ko hk76 (allc (by omega) (allc (by omega) (allc (by omega) all0)))
                    have LF_76 := LF.ko hk76 (allc (by omega) (allc (by omega) (allc (by omega) all0)))
                    have LA_76 := LA.ko hk76 (allc (by omega) (allc (by omega) (allc (by omega) all0)))
                    have LT_76 := LT.ko hk76 (allc (by omega) (allc (by omega) (allc (by omega) all0)))
                    have LQ_76 := LQ.ko hk76 (allc (by omega) (allc (by omega) (allc (by omega) all0)))
                    have LW_76 := LW.ko hk76 (allc (by omega) (allc (by omega) (allc (by omega) all0)))
                    have LL_76 := LL.ko hk76 (allc (by omega) (allc (by omega) (allc (by omega) all0)))
                    have MB_76 := MB.ko hk76 (allc (by omega) (allc (by omega) (allc (by omega) all0)))
                    have MC_76 := MC.ko hk76 (allc (by omega) (allc (by omega) (allc (by omega) all0)))
                    have MD_76 := MD.ko hk76 (allc (by omega) (allc (by omega) (allc (by omega) all0)))
                    exact ⟨by first | rfl | contradiction | (exfalso; omega) | (exfalso; grind), hb76⟩
                  · intro h48
                    try simp only [Bool.not_eq_true', Bool.not_eq_false', decide_eq_true_eq, decide_eq_false_iff_not] at h48
                    refine load_intL LW (by omega) fun m104 m105 hm23 => ?_
                    refine ⟨(by first | omega | (simp only; omega)), ?_⟩
                    intro w77 hb77 hk77
                    have y77 := hb77.size
                    have z77 := hk77.size; have o77 := hk77.own
                    simp only [List.mem_cons, List.not_mem_nil, or_false, forall_eq_or_imp, forall_eq] at o77
                    have LP_77 := LP.ko hk77 (allc (by omega) (allc (by omega) (allc (by omega) all0)))
                    have LF_77 := LF.ko hk77 (allc (by omega) (allc (by omega) (allc (by omega) all0)))
                    have LA_77 := LA.ko hk77 (allc (by omega) (allc (by omega) (allc (by omega) all0)))
                    have LT_77 := LT.ko hk77 (allc (by omega) (allc (by omega) (allc (by omega) all0)))
                    have LQ_77 := LQ.ko hk77 (allc (by omega) (allc (by omega) (allc (by omega) all0)))
                    have LW_77 := LW.ko hk77 (allc (by omega) (allc (by omega) (allc (by omega) all0)))
                    have LL_77 := LL.ko hk77 (allc (by omega) (allc (by omega) (allc (by omega) all0)))
                    have MB_77 := MB.ko hk77 (allc (by omega) (allc (by omega) (allc (by omega) all0)))
                    have MC_77 := MC.ko hk77 (allc (by omega) (allc (by omega) (allc (by omega) all0)))
                    have MD_77 := MD.ko hk77 (allc (by omega) (allc (by omega) (allc (by omega) all0)))
                    refine map_add MD_77 hq.nn fun w78 MD_78 c78 => ?_
                    have z78 := c78.size
                    have kx78 : KeepX true w.heap.size [m10, m7, m1] (fun _ => False) w77 w78 := c78.own (fun x hx => ⟨hk77.own x hx, fun h => by simp only [List.mem_cons, List.not_mem_nil, or_false] at h hx; omega⟩) (by simp) (fun _ => ⟨hb77.size, fun x hx => by simp only [List.mem_singleton] at hx; omega⟩)
                    have LP_78 := LP_77.out c78 (allc (by omega) all0)
                    have LF_78 := LF_77.out c78 (allc (by omega) all0)
                    have LA_78 := LA_77.out c78 (allc (by omega) all0)
                    have LT_78 := LT_77.out c78 (allc (by omega) all0)
                    have LQ_78 := LQ_77.out c78 (allc (by omega) all0)
                    have LW_78 := LW_77.out c78 (allc (by omega) all0)
                    have LL_78 := LL_77.out c78 (allc (by omega) all0)
                    have MB_78 := MB_77.out c78 (allc (by omega) all0)
                    have MC_78 := MC_77.out c78 (allc (by omega) all0)
                    refine ⟨kx78, ?_⟩
                    refine ⟨fun ls w' => match ls with | [.bool _, .int _ ii] => (0 ≤ ii ∧ ii ≤ A.length) ∧ w57.heap.size < w'.heap.size ∧ MapAt w25.heap.size (P.map (·.1)) w' ∧ MapAt w55.heap.size al w' ∧ MapAt w57.heap.size (fw.take (x28 + 1).toNat) w' ∧ ((LiesS w1.heap.size w2.heap.size w' pa W.pats ∧ Lies [] w1.heap.size w2.heap.size w' fa (fitsV W.fits) ∧ Lies [] w3.heap.size w4.heap.size w' ha (ints A) ∧ Lies [] w3.heap.size w4.heap.size w' ta (ints T) ∧ Lies [] w11.heap.size w12.heap.size w' qa (pairsV P) ∧ Lies [] w19.heap.size w20.heap.size w' wa (ints fw) ∧ Lies [] w19.heap.size w20.heap.size w' la (ints al)) ∧ w20.heap.size ≤ w'.heap.size) | _ => False, fun ls => match ls with | [_, .int _ ii] => (A.length - ii).toNat | _ => 0, ?_, ?_⟩
                    · intro w80 hb80 hk80
                      have y80 := hb80.size
                      have z80 := hk80.size; have o80 := hk80.own
                      simp only [List.mem_cons, List.not_mem_nil, or_false, forall_eq_or_imp, forall_eq] at o80
                      have LP_80 := LP_78.ko hk80 (allc (by omega) (allc (by omega) (allc (by omega) all0)))
                      have LF_80 := LF_78.ko hk80 (allc (by omega) (allc (by omega) (allc (by omega) all0)))
                      have LA_80 := LA_78.ko hk80 (allc (by omega) (allc (by omega) (allc (by omega) all0)))
                      have LT_80 := LT_78.ko hk80 (allc (by omega) (allc (by omega) (allc (by omega) all0)))
                      have LQ_80 := LQ_78.ko hk80 (allc (by omega) (allc (by omega) (allc (by omega) all0)))
                      have LW_80 := LW_78.ko hk80 (allc (by omega) (allc (by omega) (allc (by omega) all0)))
                      have LL_80 := LL_78.ko hk80 (allc (by omega) (allc (by omega) (allc (by omega) all0)))
                      have MB_80 := MB_78.ko hk80 (allc (by omega) (allc (by omega) (allc (by omega) all0)))
                      have MC_80 := MC_78.ko hk80 (allc (by omega) (allc (by omega) (allc (by omega) all0)))
                      have MD_80 := MD_78.ko hk80 (allc (by omega) (allc (by omega) (allc (by omega) all0)))
                      exact ⟨⟨by omega, by omega⟩, by omega, MB_80, MC_80, by rw [show (x28 + 1).toNat = x28.toNat + 1 by omega, take_intN (by omega)]; exact MD_80, ⟨⟨LP_80, LF_80, LA_80, LT_80, LQ_80, LW_80, LL_80⟩, by omega⟩⟩
                    rintro t6 x34 w81 hb81 ⟨hx34, lD, MB, MC, MD, ⟨⟨LP, LF, LA, LT, LQ, LW, LL⟩, zH⟩⟩
                    have y81 := hb81.size
                    have qA := hA.get x34.toNat
                    have qT := hT.get (fw.getD x28.toNat 0).toNat
                    have qf : x34 < (A.length : Int) → F.gap.1 ≤ A.getD x34.toNat 0 - T.getD (fw.getD x28.toNat 0).toNat 0 → A.getD x34.toNat 0 - T.getD (fw.getD x28.toNat 0).toNat 0 ≤ F.gap.2 → x34 ∈ al := fun g0 g1 g2 => fits_all hfw hal (i := x28) (by omega) (by omega) ⟨g1, g2⟩
                    refine ⟨?_, ?_⟩
                    · intro h49
                      try simp only [Bool.not_eq_true', Bool.not_eq_false', decide_eq_true_eq, decide_eq_false_iff_not] at h49
                      refine load_intL LA (by omega) fun m107 m108 hm24 => ?_
                      refine ⟨(by first | omega | (simp only; omega)), ?_⟩
                      refine load_intL LW (by omega) fun m109 m110 hm25 => ?_
                      refine ⟨(by first | omega | (simp only; omega)), ?_⟩
                      refine load_intL LT (by omega) fun m111 m112 hm26 => ?_
                      refine ⟨(by first | omega | (simp only; omega)), (by first | omega | (simp only; omega)), ?_, ?_⟩
                      · intro h50
                        try simp only [Bool.not_eq_true', Bool.not_eq_false', decide_eq_true_eq, decide_eq_false_iff_not] at h50
                        refine ⟨?_, ?_⟩
                        · intro h51 w82 hb82 hk82
                          try simp only [Bool.not_eq_true', Bool.not_eq_false', decide_eq_true_eq, decide_eq_false_iff_not] at h51
                          have y82 := hb82.size
                          have z82 := hk82.size; have o82 := hk82.own
                          simp only [List.mem_cons, List.not_mem_nil, or_false, forall_eq_or_imp, forall_eq] at o82
                          have LP_82 := LP.ko hk82 (allc (by omega) (allc (by omega) (allc (by omega) all0)))
                          have LF_82 := LF.ko hk82 (allc (by omega) (allc (by omega) (allc (by omega) all0)))
                          have LA_82 := LA.ko hk82 (allc (by omega) (allc (by omega) (allc (by omega) all0)))
                          have LT_82 := LT.ko hk82 (allc (by omega) (allc (by omega) (allc (by omega) all0)))
                          have LQ_82 := LQ.ko hk82 (allc (by omega) (allc (by omega) (allc (by omega) all0)))
                          have LW_82 := LW.ko hk82 (allc (by omega) (allc (by omega) (allc (by omega) all0)))
                          have LL_82 := LL.ko hk82 (allc (by omega) (allc (by omega) (allc (by omega) all0)))
                          have MB_82 := MB.ko hk82 (allc (by omega) (allc (by omega) (allc (by omega) all0)))
                          have MC_82 := MC.ko hk82 (allc (by omega) (allc (by omega) (allc (by omega) all0)))
                          have MD_82 := MD.ko hk82 (allc (by omega) (allc (by omega) (allc (by omega) all0)))
                          refine map_has MC_82 ?_
                          refine ⟨_, rfl, .all (.refl _ _), ?_, ?_⟩
                          · intro h52 w84 hb84 hk84
                            try simp only [Bool.not_eq_true', decide_eq_false_iff_not] at h52
                            have y84 := hb84.size
                            have z84 := hk84.size; have o84 := hk84.own
                            simp only [List.mem_cons, List.not_mem_nil, or_false, forall_eq_or_imp, forall_eq] at o84
                            have LP_84 := LP_82.ko hk84 (allc (by omega) (allc (by omega) (allc (by omega) all0)))
                            have LF_84 := LF_82.ko hk84 (allc (by omega) (allc (by omega) (allc (by omega) all0)))
                            have LA_84 := LA_82.ko hk84 (allc (by omega) (allc (by omega) (allc (by omega) all0)))
                            have LT_84 := LT_82.ko hk84 (allc (by omega) (allc (by omega) (allc (by omega) all0)))
                            have LQ_84 := LQ_82.ko hk84 (allc (by omega) (allc (by omega) (allc (by omega) all0)))
                            have LW_84 := LW_82.ko hk84 (allc (by omega) (allc (by omega) (allc (by omega) all0)))
                            have LL_84 := LL_82.ko hk84 (allc (by omega) (allc (by omega) (allc (by omega) all0)))
                            have MB_84 := MB_82.ko hk84 (allc (by omega) (allc (by omega) (allc (by omega) all0)))
                            have MC_84 := MC_82.ko hk84 (allc (by omega) (allc (by omega) (allc (by omega) all0)))
                            have MD_84 := MD_82.ko hk84 (allc (by omega) (allc (by omega) (allc (by omega) all0)))
                            exact ⟨by first | rfl | contradiction | (exfalso; omega) | (exfalso; grind), hb84⟩
                          · intro h53
                            try simp only [Bool.not_eq_false', decide_eq_true_eq] at h53
                            refine ⟨(by first | omega | (simp only; omega)), ?_⟩
                            intro w85 hb85 hk85
                            have y85 := hb85.size
                            have z85 := hk85.size; have o85 := hk85.own
                            simp only [List.mem_cons, List.not_mem_nil, or_false, forall_eq_or_imp, forall_eq] at o85
                            have LP_85 := LP_82.ko hk85 (allc (by omega) (allc (by omega) (allc (by omega) all0)))
                            have LF_85 := LF_82.ko hk85 (allc (by omega) (allc (by omega) (allc (by omega) all0)))
                            have LA_85 := LA_82.ko hk85 (allc (by omega) (allc (by omega) (allc (by omega) all0)))
                            have LT_85 := LT_82.ko hk85 (allc (by omega) (allc (by omega) (allc (by omega) all0)))
                            have LQ_85 := LQ_82.ko hk85 (allc (by omega) (allc (by omega) (allc (by omega) all0)))
                            have LW_85 := LW_82.ko hk85 (allc (by omega) (allc (by omega) (allc (by omega) all0)))
                            have LL_85 := LL_82.ko hk85 (allc (by omega) (allc (by omega) (allc (by omega) all0)))
                            have MB_85 := MB_82.ko hk85 (allc (by omega) (allc (by omega) (allc (by omega) all0)))
                            have MC_85 := MC_82.ko hk85 (allc (by omega) (allc (by omega) (allc (by omega) all0)))
                            have MD_85 := MD_82.ko hk85 (allc (by omega) (allc (by omega) (allc (by omega) all0)))
                            refine ⟨?_, (by first | omega | (simp only; omega))⟩
                            exact ⟨⟨by omega, by omega⟩, by omega, MB_85, MC_85, MD_85, ⟨⟨LP_85, LF_85, LA_85, LT_85, LQ_85, LW_85, LL_85⟩, by omega⟩⟩
                        · intro h54
                          try simp only [Bool.not_eq_true', Bool.not_eq_false', decide_eq_true_eq, decide_eq_false_iff_not] at h54
                          refine ⟨(by first | omega | (simp only; omega)), ?_⟩
                          intro w86 hb86 hk86
                          have y86 := hb86.size
                          have z86 := hk86.size; have o86 := hk86.own
                          simp only [List.mem_cons, List.not_mem_nil, or_false, forall_eq_or_imp, forall_eq] at o86
                          have LP_86 := LP.ko hk86 (allc (by omega) (allc (by omega) (allc (by omega) all0)))
                          have LF_86 := LF.ko hk86 (allc (by omega) (allc (by omega) (allc (by omega) all0)))
                          have LA_86 := LA.ko hk86 (allc (by omega) (allc (by omega) (allc (by omega) all0)))
                          have LT_86 := LT.ko hk86 (allc (by omega) (allc (by omega) (allc (by omega) all0)))
                          have LQ_86 := LQ.ko hk86 (allc (by omega) (allc (by omega) (allc (by omega) all0)))
                          have LW_86 := LW.ko hk86 (allc (by omega) (allc (by omega) (allc (by omega) all0)))
                          have LL_86 := LL.ko hk86 (allc (by omega) (allc (by omega) (allc (by omega) all0)))
                          have MB_86 := MB.ko hk86 (allc (by omega) (allc (by omega) (allc (by omega) all0)))
                          have MC_86 := MC.ko hk86 (allc (by omega) (allc (by omega) (allc (by omega) all0)))
                          have MD_86 := MD.ko hk86 (allc (by omega) (allc (by omega) (allc (by omega) all0)))
                          refine ⟨?_, (by first | omega | (simp only; omega))⟩
                          exact ⟨⟨by omega, by omega⟩, by omega, MB_86, MC_86, MD_86, ⟨⟨LP_86, LF_86, LA_86, LT_86, LQ_86, LW_86, LL_86⟩, by omega⟩⟩
                      · intro h55
                        try simp only [Bool.not_eq_true', Bool.not_eq_false', decide_eq_true_eq, decide_eq_false_iff_not] at h55
                        refine ⟨(by first | omega | (simp only; omega)), ?_⟩
                        intro w87 hb87 hk87
                        have y87 := hb87.size
                        have z87 := hk87.size; have o87 := hk87.own
                        simp only [List.mem_cons, List.not_mem_nil, or_false, forall_eq_or_imp, forall_eq] at o87
                        have LP_87 := LP.ko hk87 (allc (by omega) (allc (by omega) (allc (by omega) all0)))
                        have LF_87 := LF.ko hk87 (allc (by omega) (allc (by omega) (allc (by omega) all0)))
                        have LA_87 := LA.ko hk87 (allc (by omega) (allc (by omega) (allc (by omega) all0)))
                        have LT_87 := LT.ko hk87 (allc (by omega) (allc (by omega) (allc (by omega) all0)))
                        have LQ_87 := LQ.ko hk87 (allc (by omega) (allc (by omega) (allc (by omega) all0)))
                        have LW_87 := LW.ko hk87 (allc (by omega) (allc (by omega) (allc (by omega) all0)))
                        have LL_87 := LL.ko hk87 (allc (by omega) (allc (by omega) (allc (by omega) all0)))
                        have MB_87 := MB.ko hk87 (allc (by omega) (allc (by omega) (allc (by omega) all0)))
                        have MC_87 := MC.ko hk87 (allc (by omega) (allc (by omega) (allc (by omega) all0)))
                        have MD_87 := MD.ko hk87 (allc (by omega) (allc (by omega) (allc (by omega) all0)))
                        refine ⟨?_, (by first | omega | (simp only; omega))⟩
                        exact ⟨⟨by omega, by omega⟩, by omega, MB_87, MC_87, MD_87, ⟨⟨LP_87, LF_87, LA_87, LT_87, LQ_87, LW_87, LL_87⟩, by omega⟩⟩
                    · intro h56
                      try simp only [Bool.not_eq_true', Bool.not_eq_false', decide_eq_true_eq, decide_eq_false_iff_not] at h56
                      refine ⟨(by first | omega | (simp only; omega)), ?_⟩
                      intro w88 hb88 hk88
                      have y88 := hb88.size
                      have z88 := hk88.size; have o88 := hk88.own
                      simp only [List.mem_cons, List.not_mem_nil, or_false, forall_eq_or_imp, forall_eq] at o88
                      have LP_88 := LP.ko hk88 (allc (by omega) (allc (by omega) (allc (by omega) all0)))
                      have LF_88 := LF.ko hk88 (allc (by omega) (allc (by omega) (allc (by omega) all0)))
                      have LA_88 := LA.ko hk88 (allc (by omega) (allc (by omega) (allc (by omega) all0)))
                      have LT_88 := LT.ko hk88 (allc (by omega) (allc (by omega) (allc (by omega) all0)))
                      have LQ_88 := LQ.ko hk88 (allc (by omega) (allc (by omega) (allc (by omega) all0)))
                      have LW_88 := LW.ko hk88 (allc (by omega) (allc (by omega) (allc (by omega) all0)))
                      have LL_88 := LL.ko hk88 (allc (by omega) (allc (by omega) (allc (by omega) all0)))
                      have MB_88 := MB.ko hk88 (allc (by omega) (allc (by omega) (allc (by omega) all0)))
                      have MC_88 := MC.ko hk88 (allc (by omega) (allc (by omega) (allc (by omega) all0)))
                      have MD_88 := MD.ko hk88 (allc (by omega) (allc (by omega) (allc (by omega) all0)))
                      refine ⟨?_, (by first | omega | (simp only; omega))⟩
                      exact ⟨⟨by omega, by omega⟩, by omega, MB_88, MC_88, MD_88, ⟨⟨LP_88, LF_88, LA_88, LT_88, LQ_88, LW_88, LL_88⟩, by omega⟩⟩
                · intro h57
                  try simp only [Bool.not_eq_true', Bool.not_eq_false', decide_eq_true_eq, decide_eq_false_iff_not] at h57
                  refine load_intL LW (by omega) fun m114 m115 hm27 => ?_
                  refine ⟨(by first | omega | (simp only; omega)), ?_⟩
                  intro w89 hb89 hk89
                  have y89 := hb89.size
                  have z89 := hk89.size; have o89 := hk89.own
                  simp only [List.mem_cons, List.not_mem_nil, or_false, forall_eq_or_imp, forall_eq] at o89
                  have LP_89 := LP.ko hk89 (allc (by omega) (allc (by omega) (allc (by omega) all0)))
                  have LF_89 := LF.ko hk89 (allc (by omega) (allc (by omega) (allc (by omega) all0)))
                  have LA_89 := LA.ko hk89 (allc (by omega) (allc (by omega) (allc (by omega) all0)))
                  have LT_89 := LT.ko hk89 (allc (by omega) (allc (by omega) (allc (by omega) all0)))
                  have LQ_89 := LQ.ko hk89 (allc (by omega) (allc (by omega) (allc (by omega) all0)))
                  have LW_89 := LW.ko hk89 (allc (by omega) (allc (by omega) (allc (by omega) all0)))
                  have LL_89 := LL.ko hk89 (allc (by omega) (allc (by omega) (allc (by omega) all0)))
                  have MB_89 := MB.ko hk89 (allc (by omega) (allc (by omega) (allc (by omega) all0)))
                  have MC_89 := MC.ko hk89 (allc (by omega) (allc (by omega) (allc (by omega) all0)))
                  have MD_89 := MD.ko hk89 (allc (by omega) (allc (by omega) (allc (by omega) all0)))
                  refine map_add MD_89 hq.nn fun w90 MD_90 c90 => ?_
                  have z90 := c90.size
                  have kx90 : KeepX true w.heap.size [m10, m7, m1] (fun _ => False) w89 w90 := c90.own (fun x hx => ⟨hk89.own x hx, fun h => by simp only [List.mem_cons, List.not_mem_nil, or_false] at h hx; omega⟩) (by simp) (fun _ => ⟨hb89.size, fun x hx => by simp only [List.mem_singleton] at hx; omega⟩)
                  have LP_90 := LP_89.out c90 (allc (by omega) all0)
                  have LF_90 := LF_89.out c90 (allc (by omega) all0)
                  have LA_90 := LA_89.out c90 (allc (by omega) all0)
                  have LT_90 := LT_89.out c90 (allc (by omega) all0)
                  have LQ_90 := LQ_89.out c90 (allc (by omega) all0)
                  have LW_90 := LW_89.out c90 (allc (by omega) all0)
                  have LL_90 := LL_89.out c90 (allc (by omega) all0)
                  have MB_90 := MB_89.out c90 (allc (by omega) all0)
                  have MC_90 := MC_89.out c90 (allc (by omega) all0)
                  refine ⟨kx90, ?_⟩
                  refine ⟨fun ls w' => match ls with | [.bool _, .int _ ii] => (0 ≤ ii ∧ ii ≤ A.length) ∧ w57.heap.size < w'.heap.size ∧ MapAt w25.heap.size (P.map (·.1)) w' ∧ MapAt w55.heap.size al w' ∧ MapAt w57.heap.size (fw.take (x28 + 1).toNat) w' ∧ ((LiesS w1.heap.size w2.heap.size w' pa W.pats ∧ Lies [] w1.heap.size w2.heap.size w' fa (fitsV W.fits) ∧ Lies [] w3.heap.size w4.heap.size w' ha (ints A) ∧ Lies [] w3.heap.size w4.heap.size w' ta (ints T) ∧ Lies [] w11.heap.size w12.heap.size w' qa (pairsV P) ∧ Lies [] w19.heap.size w20.heap.size w' wa (ints fw) ∧ Lies [] w19.heap.size w20.heap.size w' la (ints al)) ∧ w20.heap.size ≤ w'.heap.size) | _ => False, fun ls => match ls with | [_, .int _ ii] => (A.length - ii).toNat | _ => 0, ?_, ?_⟩
                  · intro w92 hb92 hk92
                    have y92 := hb92.size
                    have z92 := hk92.size; have o92 := hk92.own
                    simp only [List.mem_cons, List.not_mem_nil, or_false, forall_eq_or_imp, forall_eq] at o92
                    have LP_92 := LP_90.ko hk92 (allc (by omega) (allc (by omega) (allc (by omega) all0)))
                    have LF_92 := LF_90.ko hk92 (allc (by omega) (allc (by omega) (allc (by omega) all0)))
                    have LA_92 := LA_90.ko hk92 (allc (by omega) (allc (by omega) (allc (by omega) all0)))
                    have LT_92 := LT_90.ko hk92 (allc (by omega) (allc (by omega) (allc (by omega) all0)))
                    have LQ_92 := LQ_90.ko hk92 (allc (by omega) (allc (by omega) (allc (by omega) all0)))
                    have LW_92 := LW_90.ko hk92 (allc (by omega) (allc (by omega) (allc (by omega) all0)))
                    have LL_92 := LL_90.ko hk92 (allc (by omega) (allc (by omega) (allc (by omega) all0)))
                    have MB_92 := MB_90.ko hk92 (allc (by omega) (allc (by omega) (allc (by omega) all0)))
                    have MC_92 := MC_90.ko hk92 (allc (by omega) (allc (by omega) (allc (by omega) all0)))
                    have MD_92 := MD_90.ko hk92 (allc (by omega) (allc (by omega) (allc (by omega) all0)))
                    exact ⟨⟨by omega, by omega⟩, by omega, MB_92, MC_92, by rw [show (x28 + 1).toNat = x28.toNat + 1 by omega, take_intN (by omega)]; exact MD_92, ⟨⟨LP_92, LF_92, LA_92, LT_92, LQ_92, LW_92, LL_92⟩, by omega⟩⟩
                  rintro t8 x39 w93 hb93 ⟨hx39, lD, MB, MC, MD, ⟨⟨LP, LF, LA, LT, LQ, LW, LL⟩, zH⟩⟩
                  have y93 := hb93.size
                  have qA := hA.get x39.toNat
                  have qT := hT.get (fw.getD x28.toNat 0).toNat
                  have qf : x39 < (A.length : Int) → F.gap.1 ≤ A.getD x39.toNat 0 - T.getD (fw.getD x28.toNat 0).toNat 0 → A.getD x39.toNat 0 - T.getD (fw.getD x28.toNat 0).toNat 0 ≤ F.gap.2 → x39 ∈ al := fun g0 g1 g2 => fits_all hfw hal (i := x28) (by omega) (by omega) ⟨g1, g2⟩
                  refine ⟨?_, ?_⟩
                  · intro h58
                    try simp only [Bool.not_eq_true', Bool.not_eq_false', decide_eq_true_eq, decide_eq_false_iff_not] at h58
                    refine load_intL LA (by omega) fun m117 m118 hm28 => ?_
                    refine ⟨(by first | omega | (simp only; omega)), ?_⟩
                    refine load_intL LW (by omega) fun m119 m120 hm29 => ?_
                    refine ⟨(by first | omega | (simp only; omega)), ?_⟩
                    refine load_intL LT (by omega) fun m121 m122 hm30 => ?_
                    refine ⟨(by first | omega | (simp only; omega)), (by first | omega | (simp only; omega)), ?_, ?_⟩
                    · intro h59
                      try simp only [Bool.not_eq_true', Bool.not_eq_false', decide_eq_true_eq, decide_eq_false_iff_not] at h59
                      refine ⟨?_, ?_⟩
                      · intro h60 w94 hb94 hk94
                        try simp only [Bool.not_eq_true', Bool.not_eq_false', decide_eq_true_eq, decide_eq_false_iff_not] at h60
                        have y94 := hb94.size
                        have z94 := hk94.size; have o94 := hk94.own
                        simp only [List.mem_cons, List.not_mem_nil, or_false, forall_eq_or_imp, forall_eq] at o94
                        have LP_94 := LP.ko hk94 (allc (by omega) (allc (by omega) (allc (by omega) all0)))
                        have LF_94 := LF.ko hk94 (allc (by omega) (allc (by omega) (allc (by omega) all0)))
                        have LA_94 := LA.ko hk94 (allc (by omega) (allc (by omega) (allc (by omega) all0)))
                        have LT_94 := LT.ko hk94 (allc (by omega) (allc (by omega) (allc (by omega) all0)))
                        have LQ_94 := LQ.ko hk94 (allc (by omega) (allc (by omega) (allc (by omega) all0)))
                        have LW_94 := LW.ko hk94 (allc (by omega) (allc (by omega) (allc (by omega) all0)))
                        have LL_94 := LL.ko hk94 (allc (by omega) (allc (by omega) (allc (by omega) all0)))
                        have MB_94 := MB.ko hk94 (allc (by omega) (allc (by omega) (allc (by omega) all0)))
                        have MC_94 := MC.ko hk94 (allc (by omega) (allc (by omega) (allc (by omega) all0)))
                        have MD_94 := MD.ko hk94 (allc (by omega) (allc (by omega) (allc (by omega) all0)))
                        refine map_has MC_94 ?_
                        refine ⟨_, rfl, .all (.refl _ _), ?_, ?_⟩
                        · intro h61 w96 hb96 hk96
                          try simp only [Bool.not_eq_true', decide_eq_false_iff_not] at h61
                          have y96 := hb96.size
                          have z96 := hk96.size; have o96 := hk96.own
                          simp only [List.mem_cons, List.not_mem_nil, or_false, forall_eq_or_imp, forall_eq] at o96
                          have LP_96 := LP_94.ko hk96 (allc (by omega) (allc (by omega) (allc (by omega) all0)))
                          have LF_96 := LF_94.ko hk96 (allc (by omega) (allc (by omega) (allc (by omega) all0)))
                          have LA_96 := LA_94.ko hk96 (allc (by omega) (allc (by omega) (allc (by omega) all0)))
                          have LT_96 := LT_94.ko hk96 (allc (by omega) (allc (by omega) (allc (by omega) all0)))
                          have LQ_96 := LQ_94.ko hk96 (allc (by omega) (allc (by omega) (allc (by omega) all0)))
                          have LW_96 := LW_94.ko hk96 (allc (by omega) (allc (by omega) (allc (by omega) all0)))
                          have LL_96 := LL_94.ko hk96 (allc (by omega) (allc (by omega) (allc (by omega) all0)))
                          have MB_96 := MB_94.ko hk96 (allc (by omega) (allc (by omega) (allc (by omega) all0)))
                          have MC_96 := MC_94.ko hk96 (allc (by omega) (allc (by omega) (allc (by omega) all0)))
                          have MD_96 := MD_94.ko hk96 (allc (by omega) (allc (by omega) (allc (by omega) all0)))
                          exact ⟨by first | rfl | contradiction | (exfalso; omega) | (exfalso; grind), hb96⟩
                        · intro h62
                          try simp only [Bool.not_eq_false', decide_eq_true_eq] at h62
                          refine ⟨(by first | omega | (simp only; omega)), ?_⟩
                          intro w97 hb97 hk97
                          have y97 := hb97.size
                          have z97 := hk97.size; have o97 := hk97.own
                          simp only [List.mem_cons, List.not_mem_nil, or_false, forall_eq_or_imp, forall_eq] at o97
                          have LP_97 := LP_94.ko hk97 (allc (by omega) (allc (by omega) (allc (by omega) all0)))
                          have LF_97 := LF_94.ko hk97 (allc (by omega) (allc (by omega) (allc (by omega) all0)))
                          have LA_97 := LA_94.ko hk97 (allc (by omega) (allc (by omega) (allc (by omega) all0)))
                          have LT_97 := LT_94.ko hk97 (allc (by omega) (allc (by omega) (allc (by omega) all0)))
                          have LQ_97 := LQ_94.ko hk97 (allc (by omega) (allc (by omega) (allc (by omega) all0)))
                          have LW_97 := LW_94.ko hk97 (allc (by omega) (allc (by omega) (allc (by omega) all0)))
                          have LL_97 := LL_94.ko hk97 (allc (by omega) (allc (by omega) (allc (by omega) all0)))
                          have MB_97 := MB_94.ko hk97 (allc (by omega) (allc (by omega) (allc (by omega) all0)))
                          have MC_97 := MC_94.ko hk97 (allc (by omega) (allc (by omega) (allc (by omega) all0)))
                          have MD_97 := MD_94.ko hk97 (allc (by omega) (allc (by omega) (allc (by omega) all0)))
                          refine ⟨?_, (by first | omega | (simp only; omega))⟩
                          exact ⟨⟨by omega, by omega⟩, by omega, MB_97, MC_97, MD_97, ⟨⟨LP_97, LF_97, LA_97, LT_97, LQ_97, LW_97, LL_97⟩, by omega⟩⟩
                      · intro h63
                        try simp only [Bool.not_eq_true', Bool.not_eq_false', decide_eq_true_eq, decide_eq_false_iff_not] at h63
                        refine ⟨(by first | omega | (simp only; omega)), ?_⟩
                        intro w98 hb98 hk98
                        have y98 := hb98.size
                        have z98 := hk98.size; have o98 := hk98.own
                        simp only [List.mem_cons, List.not_mem_nil, or_false, forall_eq_or_imp, forall_eq] at o98
                        have LP_98 := LP.ko hk98 (allc (by omega) (allc (by omega) (allc (by omega) all0)))
                        have LF_98 := LF.ko hk98 (allc (by omega) (allc (by omega) (allc (by omega) all0)))
                        have LA_98 := LA.ko hk98 (allc (by omega) (allc (by omega) (allc (by omega) all0)))
                        have LT_98 := LT.ko hk98 (allc (by omega) (allc (by omega) (allc (by omega) all0)))
                        have LQ_98 := LQ.ko hk98 (allc (by omega) (allc (by omega) (allc (by omega) all0)))
                        have LW_98 := LW.ko hk98 (allc (by omega) (allc (by omega) (allc (by omega) all0)))
                        have LL_98 := LL.ko hk98 (allc (by omega) (allc (by omega) (allc (by omega) all0)))
                        have MB_98 := MB.ko hk98 (allc (by omega) (allc (by omega) (allc (by omega) all0)))
                        have MC_98 := MC.ko hk98 (allc (by omega) (allc (by omega) (allc (by omega) all0)))
                        have MD_98 := MD.ko hk98 (allc (by omega) (allc (by omega) (allc (by omega) all0)))
                        refine ⟨?_, (by first | omega | (simp only; omega))⟩
                        exact ⟨⟨by omega, by omega⟩, by omega, MB_98, MC_98, MD_98, ⟨⟨LP_98, LF_98, LA_98, LT_98, LQ_98, LW_98, LL_98⟩, by omega⟩⟩
                    · intro h64
                      try simp only [Bool.not_eq_true', Bool.not_eq_false', decide_eq_true_eq, decide_eq_false_iff_not] at h64
                      refine ⟨(by first | omega | (simp only; omega)), ?_⟩
                      intro w99 hb99 hk99
                      have y99 := hb99.size
                      have z99 := hk99.size; have o99 := hk99.own
                      simp only [List.mem_cons, List.not_mem_nil, or_false, forall_eq_or_imp, forall_eq] at o99
                      have LP_99 := LP.ko hk99 (allc (by omega) (allc (by omega) (allc (by omega) all0)))
                      have LF_99 := LF.ko hk99 (allc (by omega) (allc (by omega) (allc (by omega) all0)))
                      have LA_99 := LA.ko hk99 (allc (by omega) (allc (by omega) (allc (by omega) all0)))
                      have LT_99 := LT.ko hk99 (allc (by omega) (allc (by omega) (allc (by omega) all0)))
                      have LQ_99 := LQ.ko hk99 (allc (by omega) (allc (by omega) (allc (by omega) all0)))
                      have LW_99 := LW.ko hk99 (allc (by omega) (allc (by omega) (allc (by omega) all0)))
                      have LL_99 := LL.ko hk99 (allc (by omega) (allc (by omega) (allc (by omega) all0)))
                      have MB_99 := MB.ko hk99 (allc (by omega) (allc (by omega) (allc (by omega) all0)))
                      have MC_99 := MC.ko hk99 (allc (by omega) (allc (by omega) (allc (by omega) all0)))
                      have MD_99 := MD.ko hk99 (allc (by omega) (allc (by omega) (allc (by omega) all0)))
                      refine ⟨?_, (by first | omega | (simp only; omega))⟩
                      exact ⟨⟨by omega, by omega⟩, by omega, MB_99, MC_99, MD_99, ⟨⟨LP_99, LF_99, LA_99, LT_99, LQ_99, LW_99, LL_99⟩, by omega⟩⟩
                  · intro h65
                    try simp only [Bool.not_eq_true', Bool.not_eq_false', decide_eq_true_eq, decide_eq_false_iff_not] at h65
                    refine ⟨(by first | omega | (simp only; omega)), ?_⟩
                    intro w100 hb100 hk100
                    have y100 := hb100.size
                    have z100 := hk100.size; have o100 := hk100.own
                    simp only [List.mem_cons, List.not_mem_nil, or_false, forall_eq_or_imp, forall_eq] at o100
                    have LP_100 := LP.ko hk100 (allc (by omega) (allc (by omega) (allc (by omega) all0)))
                    have LF_100 := LF.ko hk100 (allc (by omega) (allc (by omega) (allc (by omega) all0)))
                    have LA_100 := LA.ko hk100 (allc (by omega) (allc (by omega) (allc (by omega) all0)))
                    have LT_100 := LT.ko hk100 (allc (by omega) (allc (by omega) (allc (by omega) all0)))
                    have LQ_100 := LQ.ko hk100 (allc (by omega) (allc (by omega) (allc (by omega) all0)))
                    have LW_100 := LW.ko hk100 (allc (by omega) (allc (by omega) (allc (by omega) all0)))
                    have LL_100 := LL.ko hk100 (allc (by omega) (allc (by omega) (allc (by omega) all0)))
                    have MB_100 := MB.ko hk100 (allc (by omega) (allc (by omega) (allc (by omega) all0)))
                    have MC_100 := MC.ko hk100 (allc (by omega) (allc (by omega) (allc (by omega) all0)))
                    have MD_100 := MD.ko hk100 (allc (by omega) (allc (by omega) (allc (by omega) all0)))
                    refine ⟨?_, (by first | omega | (simp only; omega))⟩
                    exact ⟨⟨by omega, by omega⟩, by omega, MB_100, MC_100, MD_100, ⟨⟨LP_100, LF_100, LA_100, LT_100, LQ_100, LW_100, LL_100⟩, by omega⟩⟩
          · intro h66
            try simp only [Bool.not_eq_true', Bool.not_eq_false', decide_eq_true_eq, decide_eq_false_iff_not] at h66
            refine ⟨fun ls w' => match ls with | [.bool _, .int _ ii] => (0 ≤ ii ∧ ii ≤ T.length) ∧ w57.heap.size < w'.heap.size ∧ MapAt w25.heap.size (P.map (·.1)) w' ∧ MapAt w57.heap.size fw w' ∧ ((LiesS w1.heap.size w2.heap.size w' pa W.pats ∧ Lies [] w1.heap.size w2.heap.size w' fa (fitsV W.fits) ∧ Lies [] w3.heap.size w4.heap.size w' ha (ints A) ∧ Lies [] w3.heap.size w4.heap.size w' ta (ints T) ∧ Lies [] w11.heap.size w12.heap.size w' qa (pairsV P) ∧ Lies [] w19.heap.size w20.heap.size w' wa (ints fw) ∧ Lies [] w19.heap.size w20.heap.size w' la (ints al)) ∧ w20.heap.size ≤ w'.heap.size) | _ => False, fun ls => match ls with | [_, .int _ ii] => (T.length - ii).toNat | _ => 0, ?_, ?_⟩
            · intro w102 hb102 hk102
              have y102 := hb102.size
              have z102 := hk102.size; have o102 := hk102.own
              simp only [List.mem_cons, List.not_mem_nil, or_false, forall_eq_or_imp, forall_eq] at o102
              have LP_102 := LP.ko hk102 (allc (by omega) (allc (by omega) (allc (by omega) all0)))
              have LF_102 := LF.ko hk102 (allc (by omega) (allc (by omega) (allc (by omega) all0)))
              have LA_102 := LA.ko hk102 (allc (by omega) (allc (by omega) (allc (by omega) all0)))
              have LT_102 := LT.ko hk102 (allc (by omega) (allc (by omega) (allc (by omega) all0)))
              have LQ_102 := LQ.ko hk102 (allc (by omega) (allc (by omega) (allc (by omega) all0)))
              have LW_102 := LW.ko hk102 (allc (by omega) (allc (by omega) (allc (by omega) all0)))
              have LL_102 := LL.ko hk102 (allc (by omega) (allc (by omega) (allc (by omega) all0)))
              have MB_102 := MB.ko hk102 (allc (by omega) (allc (by omega) (allc (by omega) all0)))
              have MC_102 := MC.ko hk102 (allc (by omega) (allc (by omega) (allc (by omega) all0)))
              have MD_102 := MD.ko hk102 (allc (by omega) (allc (by omega) (allc (by omega) all0)))
              exact ⟨⟨by omega, by omega⟩, by omega, MB_102, (by have e : fw.take x28.toNat = fw := take_all (by omega); (rw [← e]; exact MD_102)), ⟨⟨LP_102, LF_102, LA_102, LT_102, LQ_102, LW_102, LL_102⟩, by omega⟩⟩
            rintro t10 x43 w103 hb103 ⟨hx43, lD, MB, MD, ⟨⟨LP, LF, LA, LT, LQ, LW, LL⟩, zH⟩⟩
            have y103 := hb103.size
            have qs : x43 < (T.length : Int) → x43 ∉ P.map (·.1) → x43 ∈ fw := fun g0 g1 => shaft_or hP hfw (by omega) g1
            refine ⟨?_, ?_⟩
            · intro h67 w104 hb104 hk104
              try simp only [Bool.not_eq_true', Bool.not_eq_false', decide_eq_true_eq, decide_eq_false_iff_not] at h67
              have y104 := hb104.size
              have z104 := hk104.size; have o104 := hk104.own
              simp only [List.mem_cons, List.not_mem_nil, or_false, forall_eq_or_imp, forall_eq] at o104
              have LP_104 := LP.ko hk104 (allc (by omega) (allc (by omega) (allc (by omega) all0)))
              have LF_104 := LF.ko hk104 (allc (by omega) (allc (by omega) (allc (by omega) all0)))
              have LA_104 := LA.ko hk104 (allc (by omega) (allc (by omega) (allc (by omega) all0)))
              have LT_104 := LT.ko hk104 (allc (by omega) (allc (by omega) (allc (by omega) all0)))
              have LQ_104 := LQ.ko hk104 (allc (by omega) (allc (by omega) (allc (by omega) all0)))
              have LW_104 := LW.ko hk104 (allc (by omega) (allc (by omega) (allc (by omega) all0)))
              have LL_104 := LL.ko hk104 (allc (by omega) (allc (by omega) (allc (by omega) all0)))
              have MB_104 := MB.ko hk104 (allc (by omega) (allc (by omega) (allc (by omega) all0)))
              have MD_104 := MD.ko hk104 (allc (by omega) (allc (by omega) (allc (by omega) all0)))
              refine map_has MB_104 ?_
              refine ⟨_, rfl, .all (.refl _ _), ?_, ?_⟩
              · intro h68 w106 hb106 hk106
                try simp only [Bool.not_eq_true', decide_eq_false_iff_not] at h68
                have y106 := hb106.size
                have z106 := hk106.size; have o106 := hk106.own
                simp only [List.mem_cons, List.not_mem_nil, or_false, forall_eq_or_imp, forall_eq] at o106
                have LP_106 := LP_104.ko hk106 (allc (by omega) (allc (by omega) (allc (by omega) all0)))
                have LF_106 := LF_104.ko hk106 (allc (by omega) (allc (by omega) (allc (by omega) all0)))
                have LA_106 := LA_104.ko hk106 (allc (by omega) (allc (by omega) (allc (by omega) all0)))
                have LT_106 := LT_104.ko hk106 (allc (by omega) (allc (by omega) (allc (by omega) all0)))
                have LQ_106 := LQ_104.ko hk106 (allc (by omega) (allc (by omega) (allc (by omega) all0)))
                have LW_106 := LW_104.ko hk106 (allc (by omega) (allc (by omega) (allc (by omega) all0)))
                have LL_106 := LL_104.ko hk106 (allc (by omega) (allc (by omega) (allc (by omega) all0)))
                have MB_106 := MB_104.ko hk106 (allc (by omega) (allc (by omega) (allc (by omega) all0)))
                have MD_106 := MD_104.ko hk106 (allc (by omega) (allc (by omega) (allc (by omega) all0)))
                refine map_has MD_106 ?_
                refine ⟨_, rfl, .all (.refl _ _), ?_, ?_⟩
                · intro h69 w108 hb108 hk108
                  try simp only [Bool.not_eq_true', decide_eq_false_iff_not] at h69
                  have y108 := hb108.size
                  have z108 := hk108.size; have o108 := hk108.own
                  simp only [List.mem_cons, List.not_mem_nil, or_false, forall_eq_or_imp, forall_eq] at o108
                  have LP_108 := LP_106.ko hk108 (allc (by omega) (allc (by omega) (allc (by omega) all0)))
                  have LF_108 := LF_106.ko hk108 (allc (by omega) (allc (by omega) (allc (by omega) all0)))
                  have LA_108 := LA_106.ko hk108 (allc (by omega) (allc (by omega) (allc (by omega) all0)))
                  have LT_108 := LT_106.ko hk108 (allc (by omega) (allc (by omega) (allc (by omega) all0)))
                  have LQ_108 := LQ_106.ko hk108 (allc (by omega) (allc (by omega) (allc (by omega) all0)))
                  have LW_108 := LW_106.ko hk108 (allc (by omega) (allc (by omega) (allc (by omega) all0)))
                  have LL_108 := LL_106.ko hk108 (allc (by omega) (allc (by omega) (allc (by omega) all0)))
                  have MB_108 := MB_106.ko hk108 (allc (by omega) (allc (by omega) (allc (by omega) all0)))
                  have MD_108 := MD_106.ko hk108 (allc (by omega) (allc (by omega) (allc (by omega) all0)))
                  exact ⟨by first | rfl | contradiction | (exfalso; omega) | (exfalso; grind), hb108⟩
                · intro h70
                  try simp only [Bool.not_eq_false', decide_eq_true_eq] at h70
                  refine ⟨(by first | omega | (simp only; omega)), ?_⟩
                  intro w109 hb109 hk109
                  have y109 := hb109.size
                  have z109 := hk109.size; have o109 := hk109.own
                  simp only [List.mem_cons, List.not_mem_nil, or_false, forall_eq_or_imp, forall_eq] at o109
                  have LP_109 := LP_106.ko hk109 (allc (by omega) (allc (by omega) (allc (by omega) all0)))
                  have LF_109 := LF_106.ko hk109 (allc (by omega) (allc (by omega) (allc (by omega) all0)))
                  have LA_109 := LA_106.ko hk109 (allc (by omega) (allc (by omega) (allc (by omega) all0)))
                  have LT_109 := LT_106.ko hk109 (allc (by omega) (allc (by omega) (allc (by omega) all0)))
                  have LQ_109 := LQ_106.ko hk109 (allc (by omega) (allc (by omega) (allc (by omega) all0)))
                  have LW_109 := LW_106.ko hk109 (allc (by omega) (allc (by omega) (allc (by omega) all0)))
                  have LL_109 := LL_106.ko hk109 (allc (by omega) (allc (by omega) (allc (by omega) all0)))
                  have MB_109 := MB_106.ko hk109 (allc (by omega) (allc (by omega) (allc (by omega) all0)))
                  have MD_109 := MD_106.ko hk109 (allc (by omega) (allc (by omega) (allc (by omega) all0)))
                  refine ⟨?_, (by first | omega | (simp only; omega))⟩
                  exact ⟨⟨by omega, by omega⟩, by omega, MB_109, MD_109, ⟨⟨LP_109, LF_109, LA_109, LT_109, LQ_109, LW_109, LL_109⟩, by omega⟩⟩
              · intro h71
                try simp only [Bool.not_eq_false', decide_eq_true_eq] at h71
                refine ⟨(by first | omega | (simp only; omega)), ?_⟩
                intro w110 hb110 hk110
                have y110 := hb110.size
                have z110 := hk110.size; have o110 := hk110.own
                simp only [List.mem_cons, List.not_mem_nil, or_false, forall_eq_or_imp, forall_eq] at o110
                have LP_110 := LP_104.ko hk110 (allc (by omega) (allc (by omega) (allc (by omega) all0)))
                have LF_110 := LF_104.ko hk110 (allc (by omega) (allc (by omega) (allc (by omega) all0)))
                have LA_110 := LA_104.ko hk110 (allc (by omega) (allc (by omega) (allc (by omega) all0)))
                have LT_110 := LT_104.ko hk110 (allc (by omega) (allc (by omega) (allc (by omega) all0)))
                have LQ_110 := LQ_104.ko hk110 (allc (by omega) (allc (by omega) (allc (by omega) all0)))
                have LW_110 := LW_104.ko hk110 (allc (by omega) (allc (by omega) (allc (by omega) all0)))
                have LL_110 := LL_104.ko hk110 (allc (by omega) (allc (by omega) (allc (by omega) all0)))
                have MB_110 := MB_104.ko hk110 (allc (by omega) (allc (by omega) (allc (by omega) all0)))
                have MD_110 := MD_104.ko hk110 (allc (by omega) (allc (by omega) (allc (by omega) all0)))
                refine ⟨?_, (by first | omega | (simp only; omega))⟩
                exact ⟨⟨by omega, by omega⟩, by omega, MB_110, MD_110, ⟨⟨LP_110, LF_110, LA_110, LT_110, LQ_110, LW_110, LL_110⟩, by omega⟩⟩
            · intro h72
              try simp only [Bool.not_eq_true', Bool.not_eq_false', decide_eq_true_eq, decide_eq_false_iff_not] at h72
              refine ⟨(by first | omega | (simp only; omega)), (by first | omega | (simp only; omega)), ?_, ?_⟩
              · intro h73 w111 hb111 hk111
                try simp only [Bool.not_eq_true', Bool.not_eq_false', decide_eq_true_eq, decide_eq_false_iff_not] at h73
                have y111 := hb111.size
                have z111 := hk111.size; have o111 := hk111.own
                simp only [List.mem_cons, List.not_mem_nil, or_false, forall_eq_or_imp, forall_eq] at o111
                have LP_111 := LP.ko hk111 (allc (by omega) (allc (by omega) (allc (by omega) all0)))
                have LF_111 := LF.ko hk111 (allc (by omega) (allc (by omega) (allc (by omega) all0)))
                have LA_111 := LA.ko hk111 (allc (by omega) (allc (by omega) (allc (by omega) all0)))
                have LT_111 := LT.ko hk111 (allc (by omega) (allc (by omega) (allc (by omega) all0)))
                have LQ_111 := LQ.ko hk111 (allc (by omega) (allc (by omega) (allc (by omega) all0)))
                have LW_111 := LW.ko hk111 (allc (by omega) (allc (by omega) (allc (by omega) all0)))
                have LL_111 := LL.ko hk111 (allc (by omega) (allc (by omega) (allc (by omega) all0)))
                have MB_111 := MB.ko hk111 (allc (by omega) (allc (by omega) (allc (by omega) all0)))
                have MD_111 := MD.ko hk111 (allc (by omega) (allc (by omega) (allc (by omega) all0)))
                exact ⟨by first | rfl | contradiction | (exfalso; omega) | (exfalso; grind), hb111⟩
              · intro h74 w112 hb112 hk112
                try simp only [Bool.not_eq_true', Bool.not_eq_false', decide_eq_true_eq, decide_eq_false_iff_not] at h74
                have y112 := hb112.size
                have z112 := hk112.size; have o112 := hk112.own
                simp only [List.mem_cons, List.not_mem_nil, or_false, forall_eq_or_imp, forall_eq] at o112
                have LP_112 := LP.ko hk112 (allc (by omega) (allc (by omega) (allc (by omega) all0)))
                have LF_112 := LF.ko hk112 (allc (by omega) (allc (by omega) (allc (by omega) all0)))
                have LA_112 := LA.ko hk112 (allc (by omega) (allc (by omega) (allc (by omega) all0)))
                have LT_112 := LT.ko hk112 (allc (by omega) (allc (by omega) (allc (by omega) all0)))
                have LQ_112 := LQ.ko hk112 (allc (by omega) (allc (by omega) (allc (by omega) all0)))
                have LW_112 := LW.ko hk112 (allc (by omega) (allc (by omega) (allc (by omega) all0)))
                have LL_112 := LL.ko hk112 (allc (by omega) (allc (by omega) (allc (by omega) all0)))
                have MB_112 := MB.ko hk112 (allc (by omega) (allc (by omega) (allc (by omega) all0)))
                have MD_112 := MD.ko hk112 (allc (by omega) (allc (by omega) (allc (by omega) all0)))
                refine (works_d LP_112.cells LF_112.cells hW).mono fun e113 w113 he => ?_
                obtain ⟨pa3, pc3, fa3, fc3, xs3, mid3, rfl, hd113, ⟨hxs3, hmid3, PD3⟩, F9d⟩ := he
                have hb113 := hb112.trans (hd113.mono hb112.size)
                have z113 := hd113.size
                have L8_113 := PD3.lies
                rw [hxs3] at L8_113
                obtain ⟨d9, rfl, hd9, FB_113⟩ := F9d.fb
                have LP_113 := LP_112.below hd113
                have LF_113 := LF_112.below hd113
                have LA_113 := LA_112.below hd113
                have LT_113 := LT_112.below hd113
                have LQ_113 := LQ_112.below hd113
                have LW_113 := LW_112.below hd113
                have LL_113 := LL_112.below hd113
                have MB_113 := MB_112.below hd113
                have MD_113 := MD_112.below hd113
                refine ⟨_, _, _, _, _, _, rfl, .all hd113, ?_⟩
                intro m131 g_m131
                refine ⟨(by first | omega | (simp only; omega)), (by first | omega | (simp only; omega)), ?_⟩
                intro w114 hb114 hk114
                have y114 := hb114.size
                have z114 := hk114.size; have o114 := hk114.own
                simp only [List.mem_cons, List.not_mem_nil, or_false, forall_eq_or_imp, forall_eq] at o114
                have LP_114 := LP_113.kio hk114 (allc (by omega) (allc (by omega) (allc (by omega) (allc (by omega) all0)))) ⟨(0, w113.heap.size), by simp, by simp only; omega, by simp only; omega⟩
                have LF_114 := LF_113.kio hk114 (allc (by omega) (allc (by omega) (allc (by omega) (allc (by omega) all0)))) ⟨(0, w113.heap.size), by simp, by simp only; omega, by simp only; omega⟩
                have LA_114 := LA_113.kio hk114 (allc (by omega) (allc (by omega) (allc (by omega) (allc (by omega) all0)))) ⟨(0, w113.heap.size), by simp, by simp only; omega, by simp only; omega⟩
                have LT_114 := LT_113.kio hk114 (allc (by omega) (allc (by omega) (allc (by omega) (allc (by omega) all0)))) ⟨(0, w113.heap.size), by simp, by simp only; omega, by simp only; omega⟩
                have LQ_114 := LQ_113.kio hk114 (allc (by omega) (allc (by omega) (allc (by omega) (allc (by omega) all0)))) ⟨(0, w113.heap.size), by simp, by simp only; omega, by simp only; omega⟩
                have LW_114 := LW_113.kio hk114 (allc (by omega) (allc (by omega) (allc (by omega) (allc (by omega) all0)))) ⟨(0, w113.heap.size), by simp, by simp only; omega, by simp only; omega⟩
                have LL_114 := LL_113.kio hk114 (allc (by omega) (allc (by omega) (allc (by omega) (allc (by omega) all0)))) ⟨(0, w113.heap.size), by simp, by simp only; omega, by simp only; omega⟩
                have MB_114 := MB_113.kio hk114 (allc (by omega) (allc (by omega) (allc (by omega) (allc (by omega) all0))))
                have MD_114 := MD_113.kio hk114 (allc (by omega) (allc (by omega) (allc (by omega) (allc (by omega) all0))))
                have L8_114 := L8_113.kio hk114 (allc (by omega) (allc (by omega) (allc (by omega) (allc (by omega) all0)))) ⟨(0, w113.heap.size), by simp, by simp only; omega, by simp only; omega⟩
                have FB_114 := FB_113.kio hk114 (allc (by omega) (allc (by omega) (allc (by omega) (allc (by omega) all0))))
                refine Pure.calls (span_any2 _ _) fun w115 hd115 => ?_
                have hb115 := hb114.trans (hd115.mono hb114.size)
                have z115 := hd115.size
                have LP_115 := LP_114.below hd115
                have LF_115 := LF_114.below hd115
                have LA_115 := LA_114.below hd115
                have LT_115 := LT_114.below hd115
                have LQ_115 := LQ_114.below hd115
                have LW_115 := LW_114.below hd115
                have LL_115 := LL_114.below hd115
                have MB_115 := MB_114.below hd115
                have MD_115 := MD_114.below hd115
                have L8_115 := L8_114.below hd115
                have FB_115 := FB_114.below hd115
                refine ⟨_, _, rfl, .all hd115, ?_⟩
                refine ⟨_, _, rfl, (by first | omega | (simp only; omega)), ?_⟩
                intro w116 hb116 hk116
                have y116 := hb116.size
                have z116 := hk116.size; have o116 := hk116.own
                simp only [List.mem_cons, List.not_mem_nil, or_false, forall_eq_or_imp, forall_eq] at o116
                have LP_116 := LP_115.kio hk116 (allc (by omega) (allc (by omega) (allc (by omega) (allc (by omega) all0)))) ⟨(0, w115.heap.size), by simp, by simp only; omega, by simp only; omega⟩
                have LF_116 := LF_115.kio hk116 (allc (by omega) (allc (by omega) (allc (by omega) (allc (by omega) all0)))) ⟨(0, w115.heap.size), by simp, by simp only; omega, by simp only; omega⟩
                have LA_116 := LA_115.kio hk116 (allc (by omega) (allc (by omega) (allc (by omega) (allc (by omega) all0)))) ⟨(0, w115.heap.size), by simp, by simp only; omega, by simp only; omega⟩
                have LT_116 := LT_115.kio hk116 (allc (by omega) (allc (by omega) (allc (by omega) (allc (by omega) all0)))) ⟨(0, w115.heap.size), by simp, by simp only; omega, by simp only; omega⟩
                have LQ_116 := LQ_115.kio hk116 (allc (by omega) (allc (by omega) (allc (by omega) (allc (by omega) all0)))) ⟨(0, w115.heap.size), by simp, by simp only; omega, by simp only; omega⟩
                have LW_116 := LW_115.kio hk116 (allc (by omega) (allc (by omega) (allc (by omega) (allc (by omega) all0)))) ⟨(0, w115.heap.size), by simp, by simp only; omega, by simp only; omega⟩
                have LL_116 := LL_115.kio hk116 (allc (by omega) (allc (by omega) (allc (by omega) (allc (by omega) all0)))) ⟨(0, w115.heap.size), by simp, by simp only; omega, by simp only; omega⟩
                have MB_116 := MB_115.kio hk116 (allc (by omega) (allc (by omega) (allc (by omega) (allc (by omega) all0))))
                have MD_116 := MD_115.kio hk116 (allc (by omega) (allc (by omega) (allc (by omega) (allc (by omega) all0))))
                have L8_116 := L8_115.kio hk116 (allc (by omega) (allc (by omega) (allc (by omega) (allc (by omega) all0)))) ⟨(0, w115.heap.size), by simp, by simp only; omega, by simp only; omega⟩
                have FB_116 := FB_115.kio hk116 (allc (by omega) (allc (by omega) (allc (by omega) (allc (by omega) all0))))
                refine fb_storeG (i := 0) FB_116 (by omega) fun w117 FB_117 c117 => ?_
                have z117 := c117.size
                have kx117 : KeepX true w.heap.size [m131, m10, m7, m1] (fun _ => False) w116 w117 := c117.own (fun x hx => ⟨hk116.own x hx, fun h => by simp only [List.mem_cons, List.not_mem_nil, or_false] at h hx; omega⟩) (by simp) (fun _ => ⟨hb116.size, fun x hx => by simp only [List.mem_singleton] at hx; omega⟩)
                have LP_117 := LP_116.out c117 (allc (by omega) all0)
                have LF_117 := LF_116.out c117 (allc (by omega) all0)
                have LA_117 := LA_116.out c117 (allc (by omega) all0)
                have LT_117 := LT_116.out c117 (allc (by omega) all0)
                have LQ_117 := LQ_116.out c117 (allc (by omega) all0)
                have LW_117 := LW_116.out c117 (allc (by omega) all0)
                have LL_117 := LL_116.out c117 (allc (by omega) all0)
                have MB_117 := MB_116.out c117 (allc (by omega) all0)
                have MD_117 := MD_116.out c117 (allc (by omega) all0)
                have L8_117 := L8_116.out c117 (allc (by omega) all0)
                refine ⟨kx117, ?_⟩
                intro w118 hb118 hk118
                have y118 := hb118.size
                have z118 := hk118.size; have o118 := hk118.own
                simp only [List.mem_cons, List.not_mem_nil, or_false, forall_eq_or_imp, forall_eq] at o118
                have LP_118 := LP_117.ko hk118 (allc (by omega) (allc (by omega) (allc (by omega) (allc (by omega) all0))))
                have LF_118 := LF_117.ko hk118 (allc (by omega) (allc (by omega) (allc (by omega) (allc (by omega) all0))))
                have LA_118 := LA_117.ko hk118 (allc (by omega) (allc (by omega) (allc (by omega) (allc (by omega) all0))))
                have LT_118 := LT_117.ko hk118 (allc (by omega) (allc (by omega) (allc (by omega) (allc (by omega) all0))))
                have LQ_118 := LQ_117.ko hk118 (allc (by omega) (allc (by omega) (allc (by omega) (allc (by omega) all0))))
                have LW_118 := LW_117.ko hk118 (allc (by omega) (allc (by omega) (allc (by omega) (allc (by omega) all0))))
                have LL_118 := LL_117.ko hk118 (allc (by omega) (allc (by omega) (allc (by omega) (allc (by omega) all0))))
                have MB_118 := MB_117.ko hk118 (allc (by omega) (allc (by omega) (allc (by omega) (allc (by omega) all0))))
                have MD_118 := MD_117.ko hk118 (allc (by omega) (allc (by omega) (allc (by omega) (allc (by omega) all0))))
                have L8_118 := L8_117.ko hk118 (allc (by omega) (allc (by omega) (allc (by omega) (allc (by omega) all0))))
                have FB_118 := FB_117.ko hk118 (allc (by omega) (allc (by omega) (allc (by omega) (allc (by omega) all0))))
                refine (pair_c (V := wideW W F) (wideW_ok hW hWf hFo) (wideW_fit hWf) (by show W.pats.length = _; first | rfl | omega) (by show (W.fits.set 0 _).length = _; rw [List.length_set]) (by show 0 < (W.fits.set 0 _).length; rw [List.length_set]; exact hWf) L8_118.cells (by rw [wide_fits hF]; exact FB_118.cells) LA_118.cells LT_118.cells hA hT).mono fun e119 w119 he => ?_
                obtain ⟨qa2, qc2, Q, rfl, hd119, hQ, LQ2_119⟩ := he
                have hb119 := hb118.trans (hd119.mono hb118.size)
                have z119 := hd119.size
                have hPQ := wider_c hP hQ (by simp only; omega) (by simp only; omega)
                have LP_119 := LP_118.below hd119
                have LF_119 := LF_118.below hd119
                have LA_119 := LA_118.below hd119
                have LT_119 := LT_118.below hd119
                have LQ_119 := LQ_118.below hd119
                have LW_119 := LW_118.below hd119
                have LL_119 := LL_118.below hd119
                have MB_119 := MB_118.below hd119
                have MD_119 := MD_118.below hd119
                have L8_119 := L8_118.below hd119
                have FB_119 := FB_118.below hd119
                refine ⟨_, _, _, _, rfl, .all hd119, ?_, ?_⟩
                · intro h75
                  try simp only [] at h75
                  refine ⟨?_, ?_⟩
                  · intro h76 w120 hb120 hk120
                    try simp only [Bool.not_eq_true', Bool.not_eq_false', decide_eq_true_eq, decide_eq_false_iff_not] at h76
                    have y120 := hb120.size
                    have z120 := hk120.size; have o120 := hk120.own
                    simp only [List.mem_cons, List.not_mem_nil, or_false, forall_eq_or_imp, forall_eq] at o120
                    have LP_120 := LP_119.ko hk120 (allc (by omega) (allc (by omega) (allc (by omega) (allc (by omega) all0))))
                    have LF_120 := LF_119.ko hk120 (allc (by omega) (allc (by omega) (allc (by omega) (allc (by omega) all0))))
                    have LA_120 := LA_119.ko hk120 (allc (by omega) (allc (by omega) (allc (by omega) (allc (by omega) all0))))
                    have LT_120 := LT_119.ko hk120 (allc (by omega) (allc (by omega) (allc (by omega) (allc (by omega) all0))))
                    have LQ_120 := LQ_119.ko hk120 (allc (by omega) (allc (by omega) (allc (by omega) (allc (by omega) all0))))
                    have LW_120 := LW_119.ko hk120 (allc (by omega) (allc (by omega) (allc (by omega) (allc (by omega) all0))))
                    have LL_120 := LL_119.ko hk120 (allc (by omega) (allc (by omega) (allc (by omega) (allc (by omega) all0))))
                    have MB_120 := MB_119.ko hk120 (allc (by omega) (allc (by omega) (allc (by omega) (allc (by omega) all0))))
                    have MD_120 := MD_119.ko hk120 (allc (by omega) (allc (by omega) (allc (by omega) (allc (by omega) all0))))
                    have L8_120 := L8_119.ko hk120 (allc (by omega) (allc (by omega) (allc (by omega) (allc (by omega) all0))))
                    have FB_120 := FB_119.ko hk120 (allc (by omega) (allc (by omega) (allc (by omega) (allc (by omega) all0))))
                    have LQ2_120 := LQ2_119.ko hk120 (allc (by omega) (allc (by omega) (allc (by omega) (allc (by omega) all0))))
                    refine Pure.calls (known_any) fun w121 hd121 => ?_
                    have hb121 := hb120.trans (hd121.mono hb120.size)
                    have z121 := hd121.size
                    have LP_121 := LP_120.below hd121
                    have LF_121 := LF_120.below hd121
                    have LA_121 := LA_120.below hd121
                    have LT_121 := LT_120.below hd121
                    have LQ_121 := LQ_120.below hd121
                    have LW_121 := LW_120.below hd121
                    have LL_121 := LL_120.below hd121
                    have MB_121 := MB_120.below hd121
                    have MD_121 := MD_120.below hd121
                    have L8_121 := L8_120.below hd121
                    have FB_121 := FB_120.below hd121
                    have LQ2_121 := LQ2_120.below hd121
                    refine ⟨_, rfl, .all hd121, ?_⟩
                    intro w122 hb122 hk122
                    have y122 := hb122.size
                    have z122 := hk122.size; have o122 := hk122.own
                    simp only [List.mem_cons, List.not_mem_nil, or_false, forall_eq_or_imp, forall_eq] at o122
                    have LP_122 := LP_121.ko hk122 (allc (by omega) (allc (by omega) (allc (by omega) (allc (by omega) all0))))
                    have LF_122 := LF_121.ko hk122 (allc (by omega) (allc (by omega) (allc (by omega) (allc (by omega) all0))))
                    have LA_122 := LA_121.ko hk122 (allc (by omega) (allc (by omega) (allc (by omega) (allc (by omega) all0))))
                    have LT_122 := LT_121.ko hk122 (allc (by omega) (allc (by omega) (allc (by omega) (allc (by omega) all0))))
                    have LQ_122 := LQ_121.ko hk122 (allc (by omega) (allc (by omega) (allc (by omega) (allc (by omega) all0))))
                    have LW_122 := LW_121.ko hk122 (allc (by omega) (allc (by omega) (allc (by omega) (allc (by omega) all0))))
                    have LL_122 := LL_121.ko hk122 (allc (by omega) (allc (by omega) (allc (by omega) (allc (by omega) all0))))
                    have MB_122 := MB_121.ko hk122 (allc (by omega) (allc (by omega) (allc (by omega) (allc (by omega) all0))))
                    have MD_122 := MD_121.ko hk122 (allc (by omega) (allc (by omega) (allc (by omega) (allc (by omega) all0))))
                    have L8_122 := L8_121.ko hk122 (allc (by omega) (allc (by omega) (allc (by omega) (allc (by omega) all0))))
                    have FB_122 := FB_121.ko hk122 (allc (by omega) (allc (by omega) (allc (by omega) (allc (by omega) all0))))
                    have LQ2_122 := LQ2_121.ko hk122 (allc (by omega) (allc (by omega) (allc (by omega) (allc (by omega) all0))))
                    exact ⟨by first | rfl | contradiction | (exfalso; omega) | (exfalso; grind), hb122⟩
                  · intro h77 w123 hb123 hk123
                    try simp only [Bool.not_eq_true', Bool.not_eq_false', decide_eq_true_eq, decide_eq_false_iff_not] at h77
                    have y123 := hb123.size
                    have z123 := hk123.size; have o123 := hk123.own
                    simp only [List.mem_cons, List.not_mem_nil, or_false, forall_eq_or_imp, forall_eq] at o123
                    have LP_123 := LP_119.ko hk123 (allc (by omega) (allc (by omega) (allc (by omega) (allc (by omega) all0))))
                    have LF_123 := LF_119.ko hk123 (allc (by omega) (allc (by omega) (allc (by omega) (allc (by omega) all0))))
                    have LA_123 := LA_119.ko hk123 (allc (by omega) (allc (by omega) (allc (by omega) (allc (by omega) all0))))
                    have LT_123 := LT_119.ko hk123 (allc (by omega) (allc (by omega) (allc (by omega) (allc (by omega) all0))))
                    have LQ_123 := LQ_119.ko hk123 (allc (by omega) (allc (by omega) (allc (by omega) (allc (by omega) all0))))
                    have LW_123 := LW_119.ko hk123 (allc (by omega) (allc (by omega) (allc (by omega) (allc (by omega) all0))))
                    have LL_123 := LL_119.ko hk123 (allc (by omega) (allc (by omega) (allc (by omega) (allc (by omega) all0))))
                    have MB_123 := MB_119.ko hk123 (allc (by omega) (allc (by omega) (allc (by omega) (allc (by omega) all0))))
                    have MD_123 := MD_119.ko hk123 (allc (by omega) (allc (by omega) (allc (by omega) (allc (by omega) all0))))
                    have L8_123 := L8_119.ko hk123 (allc (by omega) (allc (by omega) (allc (by omega) (allc (by omega) all0))))
                    have FB_123 := FB_119.ko hk123 (allc (by omega) (allc (by omega) (allc (by omega) (allc (by omega) all0))))
                    have LQ2_123 := LQ2_119.ko hk123 (allc (by omega) (allc (by omega) (allc (by omega) (allc (by omega) all0))))
                    exact ⟨by first | rfl | contradiction | (exfalso; omega) | (exfalso; grind), hb123⟩
                · intro h78 w124 hb124 hk124
                  try simp only [Bool.not_eq_true', Bool.not_eq_false', decide_eq_true_eq, decide_eq_false_iff_not] at h78
                  have y124 := hb124.size
                  have z124 := hk124.size; have o124 := hk124.own
                  simp only [List.mem_cons, List.not_mem_nil, or_false, forall_eq_or_imp, forall_eq] at o124
                  have LP_124 := LP_119.ko hk124 (allc (by omega) (allc (by omega) (allc (by omega) (allc (by omega) all0))))
                  have LF_124 := LF_119.ko hk124 (allc (by omega) (allc (by omega) (allc (by omega) (allc (by omega) all0))))
                  have LA_124 := LA_119.ko hk124 (allc (by omega) (allc (by omega) (allc (by omega) (allc (by omega) all0))))
                  have LT_124 := LT_119.ko hk124 (allc (by omega) (allc (by omega) (allc (by omega) (allc (by omega) all0))))
                  have LQ_124 := LQ_119.ko hk124 (allc (by omega) (allc (by omega) (allc (by omega) (allc (by omega) all0))))
                  have LW_124 := LW_119.ko hk124 (allc (by omega) (allc (by omega) (allc (by omega) (allc (by omega) all0))))
                  have LL_124 := LL_119.ko hk124 (allc (by omega) (allc (by omega) (allc (by omega) (allc (by omega) all0))))
                  have MB_124 := MB_119.ko hk124 (allc (by omega) (allc (by omega) (allc (by omega) (allc (by omega) all0))))
                  have MD_124 := MD_119.ko hk124 (allc (by omega) (allc (by omega) (allc (by omega) (allc (by omega) all0))))
                  have L8_124 := L8_119.ko hk124 (allc (by omega) (allc (by omega) (allc (by omega) (allc (by omega) all0))))
                  have FB_124 := FB_119.ko hk124 (allc (by omega) (allc (by omega) (allc (by omega) (allc (by omega) all0))))
                  have LQ2_124 := LQ2_119.ko hk124 (allc (by omega) (allc (by omega) (allc (by omega) (allc (by omega) all0))))
                  exact ⟨by first | rfl | contradiction | (exfalso; omega) | (exfalso; grind), hb124⟩
end Go.Proofs.R12
end
