/- Part 3: own lemmas, and the conditions of the functions. -/
import Derived.Laws.OwnMore
import Derived.Test.YtmbdiifcfcpibaaP02
section
/- Rows that a function builds by append. -/
namespace Go.Vc
open Go.RowKit

structure Row (e : TypeId) (size B : Nat) (ns : List Nat) (a : Option Addr) (n c : Nat) (xs : List Value) (w : World) : Prop where
  own : w.ownsRow B e size (.slice a n c) n xs
  ns : ∀ b o, a = some ⟨b, o, none⟩ → b ∉ ns

def elemB (P : Program) (t e : TypeId) (size bytes : Nat) : Bool :=
  (match P.underlying t with
   | some (.slice e') => e' == e
   | _ => false) && (match P.info? e with
   | some i => i.size == size && (i.bytes == bytes && (match i.zero with
     | some z => z.cells.size == size
     | none => false))
   | none => false)

theorem elemB_spec {P : Program} {t e : TypeId} {size bytes : Nat} (h : elemB P t e size bytes = true) : P.underlying t = some (.slice e) ∧ ∃ i z, P.info? e = some i ∧ i.zero = some z ∧ i.size = size ∧ i.bytes = bytes ∧ z.cells.size = size := by
  unfold elemB at h
  simp only [Bool.and_eq_true] at h
  obtain ⟨h1, h2⟩ := h
  constructor
  · split at h1
    · rename_i e' he; rw [he]; simp at h1; rw [h1]
    · cases h1
  · split at h2
    · rename_i i hi
      simp only [Bool.and_eq_true, beq_iff_eq] at h2
      obtain ⟨g1, g2, g3⟩ := h2
      split at g3
      · rename_i z hz; exact ⟨i, z, hi, hz, g1, g2, by simpa using g3⟩
      · cases g3
    · cases h2

section
variable {e : TypeId} {size B : Nat} {ns : List Nat} {a : Option Addr} {n c : Nat} {xs : List Value} {w w' : World}
theorem Row.nil : Row e size B ns none 0 0 [] w := ⟨w.ownsRow_nil B e size, fun _ _ h => by cases h⟩
theorem Row.lt (h : Row e size B ns a n c xs w) : ∀ b o, a = some ⟨b, o, none⟩ → B ≤ b ∧ b < w.heap.size := fun b o ha => h.own.lt b (by rw [ha]; rfl)
theorem Row.cells (h : Row e size B ns a n c xs w) : Cells w a xs := fun i v hi => by
  rcases h.own.2 with ⟨he, hn⟩ | ⟨g, cap, cur, he, _, hg, _, _, _, ht⟩
  · have := h.own.1
    rw [hn, Nat.zero_mul] at this
    rw [List.length_eq_zero_iff.1 this] at hi
    simp at hi
  · simp only [Value.slice.injEq] at he
    obtain ⟨rfl, _⟩ := he
    refine ⟨g, 0, rfl, ?_⟩
    have := h.own.cells (g := g) rfl i v hi
    have hadd : (⟨g, 0, none⟩ : Addr).add i = ⟨g, 0 + i, none⟩ := by unfold Addr.add; split <;> simp_all
    rw [hadd] at this; exact this
theorem Row.len (h : Row e size B ns a n c xs w) : xs.length = n * size := h.own.1
theorem Row.of (h : Row e size B ns a n c xs w) (hb : ∀ b o, a = some ⟨b, o, none⟩ → w'.heap[b]? = w.heap[b]?) : Row e size B ns a n c xs w' := by
  refine ⟨⟨h.own.1, ?_⟩, h.ns⟩
  rcases h.own.2 with hn | ⟨g, cap, cur, he, h1, hg, rest⟩
  · exact .inl hn
  · have : a = some ⟨g, 0, none⟩ := by simp only [Value.slice.injEq] at he; exact he.1
    exact .inr ⟨g, cap, cur, he, h1, (hb g 0 this).trans hg, rest⟩
theorem Row.chg {S : List Nat} (h : Row e size B ns a n c xs w) (hc : Chg S w w') (hs : ∀ x ∈ S, x ∈ ns) : Row e size B ns a n c xs w' :=
  h.of fun b o ha => hc.keep b (h.lt b o ha).2 fun hm => h.ns b o ha (hs b hm)
theorem Row.below (h : Row e size B ns a n c xs w) (hb : Below w.heap.size w w') : Row e size B ns a n c xs w' := h.of fun b o ha => hb.block b (h.lt b o ha).2
theorem Row.calm {B' : Nat} (h : Row e size B ns a n c xs w) (hc : CalmFrom B' w w') : Row e size B ns a n c xs w' := by
  refine ⟨⟨h.own.1, ?_⟩, h.ns⟩
  rcases h.own.2 with hn | ⟨g, cap, cur, he, h1, hg, rest⟩
  · exact .inl hn
  · exact .inr ⟨g, cap, cur, he, h1, hc.keep _ _ hg (.inl rfl), rest⟩
theorem Row.grow (h : Row e size B ns a n c xs w) {ms : List Nat} (hm : ∀ m ∈ ms, w.heap.size ≤ m) : Row e size B (ms ++ ns) a n c xs w := ⟨h.own, fun b o ha hb => by
  rcases List.mem_append.1 hb with hb | hb
  · have := hm b hb; have := (h.lt b o ha).2; omega
  · exact h.ns b o ha hb⟩
theorem Row.less {ns' : List Nat} (h : Row e size B ns a n c xs w) (hn : ∀ x ∈ ns', x ∈ ns) : Row e size B ns' a n c xs w := ⟨h.own, fun b o ha hb => h.ns b o ha (hn b hb)⟩
theorem Row.base {B' : Nat} (h : Row e size B ns a n c xs w) (hB : B' ≤ B) : Row e size B' ns a n c xs w := by
  refine ⟨⟨h.own.1, ?_⟩, h.ns⟩
  rcases h.own.2 with hn | ⟨g, cap, cur, he, h1, rest⟩
  · exact .inl hn
  · exact .inr ⟨g, cap, cur, he, by omega, rest⟩

theorem maxLen_big : 140737488355328 ≤ maxLen := by decide

theorem append_row {P : Program} {t ty : TypeId} {bytes : Nat} (hE : elemB P t e size bytes = true) (hsz : 0 < size) (h : Row e size B ns a n c xs w) {b o m cc : Nat} {news : List Value} (hc : Cells w (some ⟨b, o, none⟩) news)
    (hl : news.length = m * size) (h1 : ∀ u ∈ news, u.oneCell' = true) (hn1 : n + m ≤ 140737488355328) (hn : (n + m) * bytes ≤ 140737488355328) (hB : B ≤ w.heap.size) (hns : ∀ x ∈ ns, x < w.heap.size) {R : Value → World → Prop}
    (hR : ∀ a' c' w', Row e size B ns a' (n + m) c' (xs ++ news) w' → ∀ S, Chg S w w' → (∀ s ∈ S, B ≤ s ∧ s ∉ ns) → R (.slice a' (n + m) c') w') :
    RunsTo P (Builtin.append_ #[t, t] ty #[.slice a n c, .slice (some ⟨b, o, none⟩) m cc]) w R := by
  obtain ⟨ht, i, z, hi, hz, hs, hby, hzs⟩ := elemB_spec hE
  have hadd : ∀ j, (⟨b, o, none⟩ : Addr).add j = ⟨b, o + j, none⟩ := fun j => by unfold Addr.add; split <;> simp_all
  have hm63 : n + m ≤ maxLen := Nat.le_trans hn1 maxLen_big
  have hcells : ∀ j u, news[j]? = some u → w.cell? ((⟨b, o, none⟩ : Addr).add j) = some u := fun j u hu => by rw [hadd]; exact hc.at hu
  -- what the run gives
  have fin : ∀ B', B ≤ B' → ∀ v' w', (Builtin.append_ #[t, t] ty #[.slice a n c, .slice (some ⟨b, o, none⟩) m cc]).run P w = .ok v' w' → w'.ownsRow B' e size v' (n + m) (xs ++ news) → w.grownBy w' (Value.slice a n c).ownBlock →
      (∀ g, v'.ownBlock = some g → g ∉ ns) → RunsTo P (Builtin.append_ #[t, t] ty #[.slice a n c, .slice (some ⟨b, o, none⟩) m cc]) w R := by
    intro B' hBB v' w' hr ho hg hblk
    have hv : ∃ a' c', v' = .slice a' (n + m) c' ∧ ∀ b o, a' = some ⟨b, o, none⟩ → b ∉ ns := by
      rcases ho.2 with ⟨rfl, h0⟩ | ⟨g, cap, cur, rfl, _⟩
      · exact ⟨none, 0, by rw [h0], fun _ _ h => by cases h⟩
      · exact ⟨_, _, rfl, fun b o he => by
          simp only [Option.some.injEq, Addr.mk.injEq, and_true] at he
          obtain ⟨rfl, _⟩ := he
          exact hblk _ rfl⟩
    obtain ⟨a', c', rfl, hns'⟩ := hv
    have hrow : Row e size B ns a' (n + m) c' (xs ++ news) w' := Row.base (B := B') ⟨ho, hns'⟩ hBB
    cases a with
    | none => exact ⟨_, w', hr, hR a' c' w' hrow [] ⟨hg.os, hg.tape, hg.output, hg.size, fun k hk _ => hg.block k hk (by simp [Value.ownBlock])⟩ (by simp)⟩
    | some ad =>
      refine ⟨_, w', hr, hR a' c' w' hrow [ad.block] ⟨hg.os, hg.tape, hg.output, hg.size, fun k hk hn => hg.block k hk fun e => hn ?_⟩ fun s hs => ?_⟩
      · simp only [Value.ownBlock, Option.some.injEq] at e; simp [e]
      · simp only [List.mem_singleton] at hs
        subst hs
        refine ⟨(h.own.lt ad.block rfl).1, ?_⟩
        rcases h.own.2 with ⟨he, _⟩ | ⟨g', cap, cur, he, _⟩
        · cases he
        · simp only [Value.slice.injEq, Option.some.injEq] at he
          exact h.ns ad.block 0 (by rw [he.1])
  rcases h.own.2 with ⟨he, h0⟩ | ⟨g, cap, cur, he, _⟩
  · simp only [Value.slice.injEq] at he
    obtain ⟨rfl, rfl, rfl⟩ := he
    have hxs : xs = [] := by
      have := h.own.1
      rw [Nat.zero_mul] at this
      exact List.length_eq_zero_iff.1 this
    subst hxs
    obtain ⟨v', w', hr, ho, hg, _⟩ := run_append_own (P := P) w w.heap.size t ty e i z size bytes ht hi hz hs hby hzs hsz _ 0 [] (w.ownsRow_nil _ e size) ⟨b, o, none⟩ m cc news hl hcells h1 hm63 hn (Nat.le_refl _)
    exact fin _ hB v' w' hr ho hg fun g hg' hm' => by
      have := (ho.lt g hg').1; have := hns g hm'; omega
  · simp only [Value.slice.injEq] at he
    obtain ⟨rfl, _, rfl⟩ := he
    obtain ⟨v', w', hr, ho, hg, _⟩ := run_append_own (P := P) w B t ty e i z size bytes ht hi hz hs hby hzs hsz _ n xs h.own ⟨b, o, none⟩ m cc news hl hcells h1 hm63 hn hB
    refine fin B (Nat.le_refl _) v' w' hr ho hg fun g' hg' hm' => ?_
    by_cases hroom : n + m ≤ c
    · obtain ⟨w2, hr2, _⟩ := run_append_fits (P := P) w B t ty e i size ht hi hs g n c xs h.own ⟨b, o, none⟩ m cc news hl hcells h1 hroom
      rw [hr2] at hr
      injection hr with hr1
      subst hr1
      simp only [Value.ownBlock, Option.some.injEq] at hg'
      exact h.ns g 0 rfl (hg' ▸ hm')
    · have hr2 := run_append_grow (P := P) w t ty e i z ht hi hz ⟨g, 0, none⟩ n c xs (by rw [hs]; exact h.own.1) (h.own.cells (g := g) rfl) ⟨b, o, none⟩ m cc news (by rw [hs]; exact hl) hcells (by omega) (by omega) (growslice_fits (by omega) (by rw [hby]; exact hn))
      rw [hr2] at hr
      injection hr with hr1
      subst hr1
      simp only [Value.ownBlock, Option.some.injEq] at hg'
      have := hns g' hm'
      omega

theorem alloc_below {w : World} {o : Obj} : Below w.heap.size w (w.drew.alloc o) := ⟨rfl, rfl, rfl, by show w.heap.size ≤ (w.heap.push o).size; simp, fun k hk => heap_alloc_old w.drew o (r := k) hk⟩

/-- A copy by append to an empty slice. -/
theorem append_copy {P : Program} {t ty : TypeId} {bytes : Nat} (hE : elemB P t e size bytes = true) (hsz : 0 < size) {b0 c n : Nat} {a : Option Addr} {news : List Value} (hc : Cells w a news)
    (hl : news.length = n * size) (hn1 : n ≤ 140737488355328) (hn : n * bytes ≤ 140737488355328) {R : Value → World → Prop}
    (hR : ∀ a' c' w', Below w.heap.size w w' → Cells w' a' news → (news = [] ∨ ∀ b o, a' = some ⟨b, o, none⟩ → w.heap.size ≤ b) → (∃ b o, a' = some ⟨b, o, none⟩) → (n = 0 ∨ Row e size w.heap.size [] a' n c' news w') → R (.slice a' n c') w') :
    RunsTo P (Builtin.append_ #[t, t] ty #[.slice (some ⟨b0, 0, none⟩) 0 0, .slice a n c]) w R := by
  obtain ⟨ht, i, z, hi, hz, hs, hby, hzs⟩ := elemB_spec hE
  by_cases h0 : n = 0
  · subst h0
    have hnil : news = [] := List.length_eq_zero_iff.1 (by rw [hl, Nat.zero_mul])
    subst hnil
    refine ⟨.slice (some ⟨b0, 0, none⟩) 0 0, w, ?_, hR _ _ w (.refl _ _) (Cells.nil) (.inl rfl) ⟨_, _, rfl⟩ (.inl rfl)⟩
    cases a with
    | none => simp [Builtin.append_, run_underlying ht, sizeOf, typeInfo, hi, Builtin.lenOf, run_firstCells_none, storeCells]
    | some ad =>
      have hf := run_firstCells_some (P := P) w i.size 0 ad 0 c [] (by simp) (by simp)
      simp [Builtin.append_, run_underlying ht, sizeOf, typeInfo, hi, Builtin.lenOf, hf, storeCells]
  · have hpos : 0 < news.length := by rw [hl]; exact Nat.mul_pos (by omega) hsz
    obtain ⟨b, o, rfl, _⟩ := hc 0 _ (List.getElem?_eq_getElem hpos)
    have hadd : ∀ j, (⟨b, o, none⟩ : Addr).add j = ⟨b, o + j, none⟩ := fun j => by unfold Addr.add; split <;> simp_all
    have hr := run_append_grow (P := P) w t ty e i z ht hi hz ⟨b0, 0, none⟩ 0 0 [] (by simp) (by simp) ⟨b, o, none⟩ n c news (by rw [hs]; exact hl) (fun j u hu => by rw [hadd]; exact hc.at hu) (by omega) (by omega)
      (growslice_fits (by omega) (by rw [Nat.zero_add, hby]; exact hn))
    simp only [Nat.zero_add] at hr
    refine ⟨_, _, hr, hR _ _ _ alloc_below (fun j v hj => ⟨w.heap.size, 0, rfl, ?_⟩) (.inr fun b o e => by simp only [Option.some.injEq, Addr.mk.injEq, and_true] at e; omega) ⟨_, _, rfl⟩ (.inr ⟨⟨hl, .inr ⟨w.heap.size, _, _, rfl, Nat.le_refl _, heap_alloc_new w.drew _, grownCap_ge w n 0 e, grownCap_le_maxLen w n 0 e (Nat.le_trans hn1 maxLen_big), ?_, ?_⟩⟩, by simp⟩)⟩
    rotate_left
    · have hge := grownCap_ge w n 0 e
      simp only [Array.size_append, List.size_toArray, size_zeroCells, hzs, hl, List.length_nil, Nat.zero_add, ← Nat.add_mul]
      congr 1
      omega
    · rw [← hl]
      simp only [Array.toList_append, List.nil_append]
      exact List.take_left
    have hlt := (List.getElem?_eq_some_iff.1 hj).1
    have hh : (w.drew.alloc (.cells (([] : List Value).toArray ++ news.toArray ++ Builtin.zeroCells z.cells (grownCap w n 0 e - n)) e)).heap[w.heap.size]? = some (.cells (([] : List Value).toArray ++ news.toArray ++ Builtin.zeroCells z.cells (grownCap w n 0 e - n)) e (0, 0)) := heap_alloc_new w.drew _
    unfold World.cell?
    simp only [hh, Nat.zero_add]
    rw [Array.getElem?_append_left (by simpa using hlt), Array.getElem?_append_right (by simp)]
    simpa using hj

end

/-- A row that began as an empty literal. -/
def RowE (e : TypeId) (size B : Nat) (ns : List Nat) (a : Option Addr) (n c : Nat) (xs : List Value) (w : World) : Prop :=
  ((∃ b0, a = some ⟨b0, 0, none⟩) ∧ n = 0 ∧ c = 0 ∧ xs = []) ∨ Row e size B ns a n c xs w
section
variable {e : TypeId} {size B : Nat} {ns : List Nat} {a : Option Addr} {n c : Nat} {xs : List Value} {w w' : World}
theorem RowE.lit {b0 : Nat} : RowE e size B ns (some ⟨b0, 0, none⟩) 0 0 [] w := .inl ⟨⟨b0, rfl⟩, rfl, rfl, rfl⟩
theorem RowE.chg {S : List Nat} (h : RowE e size B ns a n c xs w) (hc : Chg S w w') (hs : ∀ x ∈ S, x ∈ ns) : RowE e size B ns a n c xs w' := h.imp id fun h => h.chg hc hs
theorem RowE.below (h : RowE e size B ns a n c xs w) (hb : Below w.heap.size w w') : RowE e size B ns a n c xs w' := h.imp id fun h => h.below hb
theorem RowE.cells (h : RowE e size B ns a n c xs w) : Cells w a xs := by
  rcases h with ⟨_, _, _, rfl⟩ | h
  · exact Cells.nil
  · exact h.cells
theorem append_rowE {P : Program} {t ty : TypeId} {bytes : Nat} (hE : elemB P t e size bytes = true) (hsz : 0 < size) (h : RowE e size B ns a n c xs w) {b o m cc : Nat} {news : List Value} (hc : Cells w (some ⟨b, o, none⟩) news)
    (hl : news.length = m * size) (h1 : ∀ u ∈ news, u.oneCell' = true) (hn1 : n + m ≤ 140737488355328) (hn : (n + m) * bytes ≤ 140737488355328) (hB : B ≤ w.heap.size) (hns : ∀ x ∈ ns, x < w.heap.size) (hm : 0 < m) {R : Value → World → Prop}
    (hR : ∀ a' c' w', Row e size B ns a' (n + m) c' (xs ++ news) w' → ∀ S, Chg S w w' → (∀ s ∈ S, B ≤ s ∧ s ∉ ns) → R (.slice a' (n + m) c') w') :
    RunsTo P (Builtin.append_ #[t, t] ty #[.slice a n c, .slice (some ⟨b, o, none⟩) m cc]) w R := by
  rcases h with ⟨⟨b0, rfl⟩, rfl, rfl, rfl⟩ | h
  · refine append_copy hE hsz hc hl (by omega) (by rw [Nat.zero_add] at hn; exact hn) fun a' c' w' hb _ _ _ hrow => ?_
    rcases hrow with h0 | hrow
    · omega
    · have hrow' : Row e size B ns a' m c' news w' := Row.base (B := w.heap.size) ⟨hrow.own, fun b o ha hmem => by have := hns b hmem; have := (hrow.lt b o ha).1; omega⟩ hB
      have := hR a' c' w' (by rw [Nat.zero_add, List.nil_append]; exact hrow') [] (Chg.of_below hb) (by simp)
      rw [Nat.zero_add] at this
      exact this
  · exact append_row hE hsz h hc hl h1 hn1 hn hB hns hR
end
end Go.Vc
end
section
/- Where slices lie: in none of the call's own variables, and between which blocks. -/
namespace Go.Vc
open Go.RowKit

/-- What a slice holds; its block is none of bs, and lies from lo on, below hi. -/
def Lies (bs : List Nat) (lo hi : Nat) (w : World) (a : Option Addr) (vs : List Value) : Prop :=
  ∀ i v, vs[i]? = some v → ∃ b o, a = some ⟨b, o, none⟩ ∧ (b ∉ bs ∧ lo ≤ b ∧ b < hi) ∧ w.cell? ⟨b, o + i, none⟩ = some v
/-- The blocks below n, but for bs, are as they were. -/
def LowK (n : Nat) (bs : List Nat) (w w' : World) : Prop := ∀ k, k < n → k ∉ bs → w'.heap[k]? = w.heap[k]?

theorem KeptIn.chg {w w' : World} {rs : List (Nat × Nat)} {bs : List Nat} (hk : KeptIn ((0, w.heap.size) :: rs) bs w w') : Chg bs w w' :=
  ⟨hk.os, hk.tape, hk.output, hk.size, fun k h hn => hk.block k h hn ⟨_, List.mem_cons_self, Nat.zero_le _, h⟩⟩
theorem KeptIn.low {n : Nat} {w w' : World} {rs : List (Nat × Nat)} {bs : List Nat} (hk : KeptIn ((0, n) :: rs) bs w w') (hn : n ≤ w.heap.size) : LowK n bs w w' :=
  fun k h hb => hk.block k (by omega) hb ⟨_, List.mem_cons_self, Nat.zero_le _, h⟩
theorem Chg.low {w w' : World} {bs : List Nat} (h : Chg bs w w') {n : Nat} (hn : n ≤ w.heap.size) : LowK n bs w w' := fun k hk hb => h.keep k (by omega) hb
theorem LowK.trans {n : Nat} {bs : List Nat} {a b c : World} (h : LowK n bs a b) (k : LowK n bs b c) : LowK n bs a c := fun i hi hb => (k i hi hb).trans (h i hi hb)
theorem LowK.of_below {n : Nat} {bs : List Nat} {w w' : World} (h : Below w.heap.size w w') (hn : n ≤ w.heap.size) : LowK n bs w w' := fun k hk _ => h.block k (by omega)

theorem cell_at' {w : World} {b k : Nat} {v : Value} (h : w.cell? ⟨b, k, none⟩ = some v) {j : Nat} (hj : j = k) : w.cell? ⟨b, j, none⟩ = some v := by rw [hj]; exact h
/-- What was there when the function began is not written. -/
theorem Chg.cells_old {u w w' : World} {S : List Nat} {a : Option Addr} {vs : List Value} (hc : Chg S w w') (hs : ∀ x ∈ S, u.heap.size ≤ x) (_ : Cells w a vs) (h0 : Cells u a vs) (hb : Below u.heap.size u w) : Cells w' a vs := fun i v hi => by
  obtain ⟨b, o, e, hcell⟩ := h0 i v hi
  exact ⟨b, o, e, hc.cell (fun hm => by have := hs b hm; have := cell_lt hcell; omega) (cell_keep hb hcell)⟩

section
variable {bs : List Nat} {lo hi n : Nat} {w w' : World} {a : Option Addr} {vs : List Value}
theorem Lies.cells (h : Lies bs lo hi w a vs) : Cells w a vs := fun i v hi => by obtain ⟨b, o, e, _, hc⟩ := h i v hi; exact ⟨b, o, e, hc⟩
theorem Lies.new (h : Cells w a vs) (hn : vs = [] ∨ ∀ b o, a = some ⟨b, o, none⟩ → n ≤ b) (hb : ∀ x ∈ bs, x < n) : Lies bs n w.heap.size w a vs := fun i v hi => by
  obtain ⟨b, o, e, hc⟩ := h i v hi
  rcases hn with rfl | hn
  · simp at hi
  · have := hn b o e
    exact ⟨b, o, e, ⟨fun hm => by have := hb b hm; omega, this, cell_lt hc⟩, hc⟩
theorem Lies.chg (h : Lies bs lo hi w a vs) (hc : Chg bs w w') : Lies bs lo hi w' a vs := fun i v hv => by
  obtain ⟨b, o, e, hb, hv⟩ := h i v hv; exact ⟨b, o, e, hb, hc.cell hb.1 hv⟩
theorem Lies.kept (h : Lies bs lo hi w a vs) (hc : Kept bs w w') : Lies bs lo hi w' a vs := h.chg (Chg.kept hc)
theorem Lies.below (h : Lies bs lo hi w a vs) (hb : Below w.heap.size w w') : Lies bs lo hi w' a vs := h.chg (Chg.of_below hb)
theorem Lies.to {lo' hi' : Nat} (h : Lies bs lo hi w a vs) (h1 : lo' ≤ lo) (h2 : hi ≤ hi') : Lies bs lo' hi' w a vs := fun i v hv => by
  obtain ⟨b, o, e, ⟨g1, g2, g3⟩, hc⟩ := h i v hv
  exact ⟨b, o, e, ⟨g1, by omega, by omega⟩, hc⟩
theorem Lies.push (h : Lies bs lo hi w a vs) {m : Nat} (hm : m < lo ∨ hi ≤ m) : Lies (m :: bs) lo hi w a vs := fun i v hv => by
  obtain ⟨b, o, e, ⟨g1, g2, g3⟩, hc⟩ := h i v hv
  exact ⟨b, o, e, ⟨fun hx => by
    rcases List.mem_cons.1 hx with rfl | hx
    · omega
    · exact g1 hx, g2, g3⟩, hc⟩
theorem Lies.sub {cs : List Nat} (h : Lies bs lo hi w a vs) (hs : ∀ x ∈ cs, x ∈ bs) : Lies cs lo hi w a vs := fun i v hv => by
  obtain ⟨b, o, e, ⟨g1, g2, g3⟩, hc⟩ := h i v hv
  exact ⟨b, o, e, ⟨fun hx => g1 (hs b hx), g2, g3⟩, hc⟩
theorem Lies.out (h : Lies bs lo hi w a vs) {S : List Nat} (hc : Chg S w w') (hs : ∀ x ∈ S, x < lo ∨ hi ≤ x) : Lies bs lo hi w' a vs := fun i v hv => by
  obtain ⟨b, o, e, ⟨g1, g2, g3⟩, hcc⟩ := h i v hv
  exact ⟨b, o, e, ⟨g1, g2, g3⟩, hc.cell (fun hm => by have := hs b hm; omega) hcc⟩
/-- What was there when the function began. -/
theorem Lies.arg {u : World} (h : Cells u a vs) (hb : Below u.heap.size u w) (hs : ∀ x ∈ bs, u.heap.size ≤ x) : Lies bs 0 u.heap.size w a vs := fun i v hv => by
  obtain ⟨b, o, e, hc⟩ := h i v hv
  exact ⟨b, o, e, ⟨fun hx => by have := hs b hx; have := cell_lt hc; omega, Nat.zero_le _, cell_lt hc⟩, cell_keep hb hc⟩
end
end Go.Vc
end
section
/- Rows that are written. -/
namespace Go.Vc
open Go.RowKit

/-- A row, or nothing. -/
def RowZ (e : TypeId) (size B : Nat) (ns : List Nat) (a : Option Addr) (n c : Nat) (xs : List Value) (w : World) : Prop := (n = 0 ∧ xs = []) ∨ Row e size B ns a n c xs w
section
variable {e : TypeId} {size B : Nat} {ns : List Nat} {a : Option Addr} {n c : Nat} {xs : List Value} {w w' : World}
theorem RowZ.cells (h : RowZ e size B ns a n c xs w) : Cells w a xs := by
  rcases h with ⟨_, rfl⟩ | h
  · exact Cells.nil
  · exact h.cells
theorem RowZ.of (h : RowZ e size B ns a n c xs w) (hb : ∀ b o, a = some ⟨b, o, none⟩ → B ≤ b → b < w.heap.size → b ∉ ns → w'.heap[b]? = w.heap[b]?) : RowZ e size B ns a n c xs w' :=
  h.imp id fun h => h.of fun b o e => hb b o e (h.lt b o e).1 (h.lt b o e).2 (h.ns b o e)
theorem RowZ.below (h : RowZ e size B ns a n c xs w) (hb : Below w.heap.size w w') : RowZ e size B ns a n c xs w' := h.imp id fun h => h.below hb
theorem RowZ.in (h : RowZ e size B ns a n c xs w) (h0 : n ≠ 0) : ∀ b o, a = some ⟨b, o, none⟩ → B ≤ b ∧ b < w.heap.size := by
  rcases h with ⟨h, _⟩ | h
  · exact absurd h h0
  · exact h.lt
theorem RowZ.at (h : RowZ e size B ns a n c xs w) (h0 : n ≠ 0) : ∃ g, a = some ⟨g, 0, none⟩ ∧ Row e size B ns (some ⟨g, 0, none⟩) n c xs w := by
  rcases h with ⟨h, _⟩ | h
  · exact absurd h h0
  · rcases h.own.2 with ⟨_, h1⟩ | ⟨g, cap, cur, he, _⟩
    · exact absurd h1 h0
    · simp only [Value.slice.injEq] at he
      obtain ⟨rfl, _⟩ := he
      exact ⟨g, rfl, h⟩
theorem RowZ.lies (h : RowZ e size B ns a n c xs w) {lo hi : Nat} (hh : n ≠ 0 → ∀ b o, a = some ⟨b, o, none⟩ → lo ≤ b ∧ b < hi) : Lies ns lo hi w a xs := by
  rcases h with ⟨_, rfl⟩ | h
  · exact fun i v hi => by simp at hi
  · intro i v hi
    have h0 : n ≠ 0 := fun h0 => by
      have : xs = [] := List.length_eq_zero_iff.1 (by rw [h.len, h0, Nat.zero_mul])
      rw [this] at hi; simp at hi
    obtain ⟨b, o, e, hc⟩ := h.cells i v hi
    exact ⟨b, o, e, ⟨h.ns b o e, (hh h0 b o e).1, (hh h0 b o e).2⟩, hc⟩

/-- A row's block has the type of its elements. -/
theorem Row.type (h : Row e size B ns a n c xs w) {b o : Nat} (ha : a = some ⟨b, o, none⟩) : ∃ cs, w.heap[b]? = some (.cells cs e (0, 0)) := by
  rcases h.own.2 with ⟨he, _⟩ | ⟨g, cap, cur, he, _, hg, _⟩
  · rw [ha] at he; cases he
  · rw [ha] at he
    simp only [Value.slice.injEq, Option.some.injEq, Addr.mk.injEq, and_true] at he
    rw [he.1.1]; exact ⟨cur, hg⟩
/-- What lies in a block of another type may be written. -/
theorem RowZ.other (h : RowZ e size B ns a n c xs w) {S : List Nat} (hc : Chg S w w') (hs : ∀ x ∈ S, ∀ cs, w.heap[x]? ≠ some (.cells cs e (0, 0))) : RowZ e size B ns a n c xs w' := by
  rcases h with h | h
  · exact .inl h
  · refine .inr (h.of fun b o ha => hc.keep b (h.lt b o ha).2 fun hm => ?_)
    obtain ⟨cs, hcs⟩ := h.type ha
    exact hs b hm cs hcs

/-- One element of a row is written. -/
theorem row_put {P : Program} {t : TypeId} (hT : P.cellsOf t = size) (hh : hasT P t = true) {b i : Nat} (h : Row e size B ns (some ⟨b, 0, none⟩) n c xs w) (hi : i < n) {v : Value} {vs : List Value} (hv : v.cells = vs.toArray) (hl : vs.length = size) (h1 : ∀ u ∈ vs, OneV u) {R : Value → World → Prop}
    (hR : ∀ w', Row e size B ns (some ⟨b, 0, none⟩) n c (xs.take (i * size) ++ vs ++ xs.drop (i * size + size)) w' → Chg [b] w w' → R (.tuple #[]) w') : RunsTo P ((Instr.storeAt t (.pointer (some ⟨b, i * size, none⟩)) v) >>= fun _ => pure (Value.tuple #[])) w R := by
  rcases h.own.2 with ⟨he, _⟩ | ⟨g, cap, cur, he, hB, hg, h2, h3, h4, h5⟩
  · cases he
  simp only [Value.slice.injEq, Option.some.injEq, Addr.mk.injEq, and_true, true_and] at he
  obtain ⟨rfl, rfl⟩ := he
  obtain ⟨dd, hd⟩ := hasT_spec hh
  have hle : i * size + size ≤ n * size := by
    rw [← Nat.succ_mul]; exact Nat.mul_le_mul_right _ hi
  have hcap : n * size ≤ cur.size := by rw [h4]; exact Nat.mul_le_mul_right _ h2
  obtain ⟨w', hr, S⟩ := run_storeCells (P := P) vs 0 (i * size) w _ hg (by omega) (by simpa using h1)
  refine ⟨.tuple #[], w', ?_, hR w' ?_ ⟨S.os, S.tape, S.output, Nat.le_of_eq S.size.symm, fun j _ hj => S.other j (by simpa using hj)⟩⟩
  · simp only [Instr.storeAt, Instr.sureAddr, storeVar, Sem.run_bind, Sem.run_pure, cellsOf_run hd, Result.andThen_ok, hv, hT]
    simp [hr, hl, Sem.run_bind, Sem.run_pure]
  · obtain ⟨cs', q1, q2, q3⟩ := S.here _ hg
    have hxl := h.own.1
    have hxs : xs = cur.toList.take (n * size) := h5.symm
    have hcl : cur.toList.length = cur.size := by simp
    refine ⟨⟨by simp; omega, .inr ⟨b, c, cs', rfl, hB, q1, h2, h3, by rw [q2]; exact h4, ?_⟩⟩, h.ns⟩
    apply List.ext_getElem?
    intro j
    have hq := q3 j
    rw [List.getElem?_take]
    by_cases hj : j < n * size
    · rw [if_pos hj, Array.getElem?_toList, hq]
      by_cases hj1 : j < i * size
      · rw [if_neg (by omega), List.append_assoc, List.getElem?_append_left (by simp; omega), List.getElem?_take, if_pos hj1, hxs, List.getElem?_take, if_pos hj, Array.getElem?_toList]
      · by_cases hj2 : j < i * size + size
        · rw [if_pos (by omega), List.append_assoc, List.getElem?_append_right (by simp; omega), List.getElem?_append_left (by simp; omega)]
          simp only [List.length_take]
          rw [show min (i * size) xs.length = i * size by omega]
          simp
        · rw [if_neg (by omega), List.getElem?_append_right (by simp; omega), List.getElem?_drop]
          simp only [List.length_append, List.length_take]
          rw [show i * size + size + (j - (min (i * size) xs.length + vs.length)) = j by omega, hxs, List.getElem?_take, if_pos hj, Array.getElem?_toList]
    · rw [if_neg hj]
      symm
      rw [List.getElem?_eq_none_iff]
      simp; omega
end

/-- Some cells of an object are written. -/
theorem obj_store {P : Program} {t T : TypeId} {w : World} {b off : Nat} {cs vs : List Value} (h : w.heap[b]? = some (.cells cs.toArray T (0, 0))) (hT : P.cellsOf t = vs.length) (hh : hasT P t = true) (ho : off + vs.length ≤ cs.length) {v : Value} (hv : v.cells = vs.toArray) (h1 : ∀ u ∈ vs, OneV u) {R : Value → World → Prop}
    (hR : ∀ w', w'.heap[b]? = some (.cells (cs.take off ++ vs ++ cs.drop (off + vs.length)).toArray T (0, 0)) → Chg [b] w w' → R (.tuple #[]) w') : RunsTo P ((Instr.storeAt t (.pointer (some ⟨b, off, none⟩)) v) >>= fun _ => pure (Value.tuple #[])) w R := by
  obtain ⟨dd, hd⟩ := hasT_spec hh
  obtain ⟨w', hr, S⟩ := run_storeCells (P := P) vs 0 off w _ h (by simp; omega) (by simpa using h1)
  refine ⟨.tuple #[], w', ?_, hR w' ?_ ⟨S.os, S.tape, S.output, Nat.le_of_eq S.size.symm, fun j _ hj => S.other j (by simpa using hj)⟩⟩
  · simp only [Instr.storeAt, Instr.sureAddr, storeVar, Sem.run_bind, Sem.run_pure, cellsOf_run hd, Result.andThen_ok, hv, hT]
    simp [hr, Sem.run_bind, Sem.run_pure]
  · obtain ⟨cs', q1, q2, q3⟩ := S.here _ h
    rw [q1]
    congr 2
    apply Array.ext'
    apply List.ext_getElem?
    intro j
    rw [Array.getElem?_toList, q3 j]
    by_cases hj1 : j < off
    · rw [if_neg (by omega), List.append_assoc, List.getElem?_append_left (by simp; omega), List.getElem?_take, if_pos hj1]; simp
    · by_cases hj2 : j < off + vs.length
      · rw [if_pos (by omega), List.append_assoc, List.getElem?_append_right (by simp; omega), List.getElem?_append_left (by simp; omega)]
        simp only [List.length_take]
        rw [show min off cs.length = off by omega]; simp
      · rw [if_neg (by omega), List.getElem?_append_right (by simp; omega), List.getElem?_drop]
        simp only [List.length_append, List.length_take]
        rw [show off + vs.length + (j - (min off cs.length + vs.length)) = j by omega]; simp
end Go.Vc
end
section
/- What lies in memory, carried along a walk. -/
namespace Go.Vc
open Go.RowKit

theorem all0 {p : Nat → Prop} : ∀ x ∈ ([] : List Nat), p x := fun _ h => by simp at h
theorem Lies.kio {lo hi : Nat} {w w' : World} {a : Option Addr} {vs : List Value} {rs : List (Nat × Nat)} {bs : List Nat} (h : Lies [] lo hi w a vs) (hk : KeptIn rs bs w w') (hs : ∀ x ∈ bs, x < lo ∨ hi ≤ x) (hin : ∃ r ∈ rs, r.1 ≤ lo ∧ hi ≤ r.2) : Lies [] lo hi w' a vs := fun i v hv => by
  obtain ⟨b, o, e, ⟨h1, h2, h3⟩, hc⟩ := h i v hv
  refine ⟨b, o, e, ⟨h1, h2, h3⟩, ?_⟩
  obtain ⟨r, hr1, hr2, hr3⟩ := hin
  have := hk.block b (cell_lt hc) (fun hm => by have := hs b hm; omega) ⟨r, hr1, by omega, by omega⟩
  unfold World.cell? at hc ⊢
  simp only [this]; exact hc
theorem Lies.row {e : TypeId} {size B : Nat} {a : Option Addr} {n c : Nat} {xs : List Value} {w : World} (h : RowZ e size B [] a n c xs w) : Lies [] B w.heap.size w a xs := h.lies fun h0 b o e => h.in h0 b o e
theorem Lies.get {lo hi : Nat} {w : World} {a : Option Addr} {vs : List Value} {bs : List Nat} (h : Lies [] lo hi w a vs) (sd : ∀ x ∈ bs, x < lo ∨ hi ≤ x) {i : Nat} {v : Value} (hv : vs[i]? = some v) : ∃ b o, a = some ⟨b, o, none⟩ ∧ b ∉ bs ∧ w.cell? ⟨b, o + i, none⟩ = some v := by
  obtain ⟨b, o, e, ⟨_, h2, h3⟩, hc⟩ := h i v hv
  exact ⟨b, o, e, fun hm => by have := sd b hm; omega, hc⟩
end Go.Vc
end
