/- Part 5: own lemmas, and the conditions of the functions. -/
import Derived.Test.YtonlamhfncoklaaProg
import Derived.Test.YtonlamhfncoklaaRows
import Derived.Test.YtonlamhfncoklaaP04
section
/- How far claims reach: the lists in memory. -/
namespace Go.Proofs.R07
open Go.Vc Go.RowKit Go.Proofs

structure Cl where
  st : St
  visits : Int
  turns : Int
  weight : Int

def sub (u h : Nat) : Bool := (u &&& h) == u
def andNotA (x y : Int) : Int := IntKind.i64.wrap (↑(BitVec.ofInt IntKind.i64.bits x &&& ~~~BitVec.ofInt IntKind.i64.bits y).toNat : Int)
theorem andNot_all : ∀ u h : Fin 8, (andNotA (u.val : Int) (h.val : Int) == 0) = sub u.val h.val := by decide +kernel
theorem andNot_iff {u h : Nat} (hu : u < 8) (hh : h < 8) : andNotA u h = 0 ↔ sub u h = true := by
  rw [← andNot_all ⟨u, hu⟩ ⟨h, hh⟩]; simp

def upd (c : Cl) (k : Int × Int) (u : Nat) (x t : Int) : Int := if c.visits ≤ k.1 ∧ sub u (setOf c.st.used) = true ∧ c.st.lo = x then max t c.st.hi else t
def reachB (l : List Cl) (k : Int × Int) (x : Int) : Int := l.foldl (fun t c => upd c k k.2.toNat x t) (x - 1)
def preMax (g : Int → Int) : Nat → Int
  | 0 => g (-300)
  | n + 1 => max (g (-300 + ((n + 1 : Nat) : Int))) (preMax g n)
def reachV (l : List Cl) (k : Int × Int) (x : Int) : Int := preMax (reachB l k) (x + 300).toNat

def ListL (w : World) (lb : Nat) (l : List Int) : Prop := w.heap[lb]? = some (.cells (ints l).toArray 128 (0, 0))
theorem ListL.cell {w : World} {tb : Nat} {l : List Int} (h : ListL w tb l) {i : Nat} {x : Int} (hx : l[i]? = some x) : w.cell? ⟨tb, i, none⟩ = some (I x) := cell_obj h (ints_get hx)
theorem store_list {w : World} {tb k : Nat} {l : List Int} {x : Int} (h : ListL w tb l) (hk : k < l.length) {R : Value → World → Prop}
    (hR : ∀ w', ListL w' tb (l.set k x) → Chg [tb] w w' → R (.tuple #[]) w') : RunsTo Try.prog ((Instr.storeAt 3 (.pointer (some ⟨tb, k, none⟩)) (I x)) >>= fun _ => pure (Value.tuple #[])) w R := by
  obtain ⟨w', hr, S⟩ := run_storeCells (P := Try.prog) [I x] 0 k w _ h (by simp [ints]; omega) (by simp [OneV])
  refine ⟨.tuple #[], w', ?_, hR w' ?_ ⟨S.os, S.tape, S.output, Nat.le_of_eq S.size.symm, fun j _ hj => S.other j (by simpa using hj)⟩⟩
  · have h3 : (sizeOf 3).run Try.prog w = .ok 1 w := by kernel_rfl
    simp only [Instr.storeAt, Instr.sureAddr, storeVar, Sem.run_bind, Sem.run_pure, h3, Result.andThen_ok, Value.cells]
    simp [hr]
  · obtain ⟨cs', h1, h2, h3⟩ := S.here _ h
    unfold ListL
    rw [h1]
    congr 2
    apply Array.ext_getElem?
    intro i
    rw [h3 i]
    simp only [ints, List.getElem?_toArray, List.getElem?_map, List.length_singleton, List.getElem?_set]
    by_cases hi : k = i
    · subst hi; simp [hk]
    · rw [if_neg (by omega), if_neg hi]

/-- A list that holds a function of the rates. -/
def LAt (w : World) (lb : Nat) (g : Int → Int) : Prop := ∃ l, ListL w lb l ∧ l.length = 601 ∧ StOf l g
theorem LAt.lt {w : World} {lb : Nat} {g : Int → Int} (h : LAt w lb g) : lb < w.heap.size := by obtain ⟨l, h, _⟩ := h; exact lt_of_some h
theorem LAt.of {w w' : World} {lb : Nat} {g : Int → Int} (h : LAt w lb g) (hb : w'.heap[lb]? = w.heap[lb]?) : LAt w' lb g := by obtain ⟨l, h, h2⟩ := h; exact ⟨l, hb.trans h, h2⟩
theorem LAt.cell {w : World} {lb : Nat} {g : Int → Int} (h : LAt w lb g) {x : Int} (h1 : -300 ≤ x) (h2 : x ≤ 300) : w.cell? ⟨lb, (x + 300).toNat, none⟩ = some (I (g x)) := by
  obtain ⟨l, h, _, h3⟩ := h; exact h.cell (h3 x h1 h2)
/-- One rate gets another value. -/
theorem LAt.store {w : World} {lb : Nat} {g : Int → Int} (h : LAt w lb g) {x y : Int} (h1 : -300 ≤ x) (h2 : x ≤ 300) {R : Value → World → Prop}
    (hR : ∀ w', LAt w' lb (fun z => if z = x then y else g z) → Chg [lb] w w' → R (.tuple #[]) w') : RunsTo Try.prog ((Instr.storeAt 3 (.pointer (some ⟨lb, (x + 300).toNat, none⟩)) (I y)) >>= fun _ => pure (Value.tuple #[])) w R := by
  obtain ⟨l, hl, hn, hs⟩ := h
  refine store_list hl (by omega) fun w' hl' hc => hR w' ⟨_, hl', by simpa using hn, fun z hz1 hz2 => ?_⟩ hc
  by_cases hz : z = x
  · subst hz; rw [List.getElem?_set_self (by omega)]; simp
  · rw [List.getElem?_set_ne (by omega), hs z hz1 hz2]; simp [hz]

/-- The map of the lists. -/
structure MInv (w : World) (tm : Nat) (m : List ((Int × Int) × Value)) (es : Array MapEntry) (clock : Nat) (ns : List Nat) (B : Nat) (g : Int × Int → Int → Int) : Prop where
  map : MapB w tm encL m es clock
  nk : (m.map (·.1)).Nodup
  nv : (m.map (·.2)).Nodup
  val : ∀ k v, (k, v) ∈ m → ∃ lb, v = .pointer (some ⟨lb, 0, none⟩) ∧ B ≤ lb ∧ lb ∉ ns ∧ LAt w lb (g k)
  tmn : tm ∉ ns
  tmB : B ≤ tm

section
variable {w w' : World} {tm : Nat} {m : List ((Int × Int) × Value)} {es : Array MapEntry} {clock : Nat} {ns : List Nat} {B : Nat} {g : Int × Int → Int → Int}
theorem MInv.lat_ne (h : MInv w tm m es clock ns B g) {lb : Nat} {f : Int → Int} (hl : LAt w lb f) : lb ≠ tm := fun e => by
  obtain ⟨l, hl, _⟩ := hl
  unfold ListL at hl
  rw [e, h.map.at_] at hl; cases hl
theorem MInv.keepIn (h : MInv w tm m es clock ns B g) (hk : ∀ k, k < w.heap.size → k ∉ ns → w'.heap[k]? = w.heap[k]?) : MInv w' tm m es clock ns B g :=
  ⟨h.map.keep (hk _ h.map.lt h.tmn), h.nk, h.nv, fun k v hv => by
    obtain ⟨lb, e1, e2, e3, e4⟩ := h.val k v hv
    exact ⟨lb, e1, e2, e3, e4.of (hk _ e4.lt e3)⟩, h.tmn, h.tmB⟩
theorem MInv.chg {S : List Nat} (h : MInv w tm m es clock ns B g) (hc : Chg S w w') (hs : ∀ x ∈ S, x ∈ ns) : MInv w' tm m es clock ns B g := h.keepIn fun k hk hn => hc.keep k hk fun hm => hn (hs k hm)
theorem MInv.below (h : MInv w tm m es clock ns B g) (hb : Below w.heap.size w w') : MInv w' tm m es clock ns B g := h.keepIn fun k hk _ => hb.block k hk
theorem MInv.more {ns' : List Nat} (h : MInv w tm m es clock ns B g) (hn : ∀ n ∈ ns', n ∈ ns ∨ w.heap.size ≤ n) : MInv w tm m es clock ns' B g := by
  have ok : ∀ {b}, b ∉ ns → b < w.heap.size → b ∉ ns' := fun h1 h2 hm => by rcases hn _ hm with h | h; exact h1 h; omega
  exact ⟨h.map, h.nk, h.nv, fun k v hv => by
    obtain ⟨lb, e1, e2, e3, e4⟩ := h.val k v hv
    exact ⟨lb, e1, e2, ok e3 e4.lt, e4⟩, ok h.tmn h.map.lt, h.tmB⟩
theorem MInv.grow (h : MInv w tm m es clock ns B g) {ms : List Nat} (hm : ∀ n ∈ ms, w.heap.size ≤ n) : MInv w tm m es clock (ms ++ ns) B g := h.more fun n hn => by
  rcases List.mem_append.1 hn with hn | hn
  · exact .inr (hm n hn)
  · exact .inl hn
theorem MInv.drop {ms : List Nat} (h : MInv w tm m es clock (ms ++ ns) B g) : MInv w tm m es clock ns B g := h.more fun n hn => .inl (List.mem_append_right _ hn)
theorem MInv.congr {g' : Int × Int → Int → Int} (h : MInv w tm m es clock ns B g) (hg : ∀ k v, (k, v) ∈ m → ∀ x, -300 ≤ x → x ≤ 300 → g' k x = g k x) : MInv w tm m es clock ns B g' :=
  ⟨h.map, h.nk, h.nv, fun k v hv => by
    obtain ⟨lb, e1, e2, e3, l, e4, e5, e6⟩ := h.val k v hv
    exact ⟨lb, e1, e2, e3, l, e4, e5, fun x h1 h2 => by rw [e6 x h1 h2, hg k v hv x h1 h2]⟩, h.tmn, h.tmB⟩

theorem nodup_snd {l : List ((Int × Int) × Value)} (h : (l.map (·.2)).Nodup) {k k' : Int × Int} {v : Value} (h1 : (k, v) ∈ l) (h2 : (k', v) ∈ l) : k = k' := by
  induction l with
  | nil => simp at h1
  | cons x l ih =>
    simp only [List.map_cons, List.nodup_cons] at h
    rcases List.mem_cons.1 h1 with h3 | h3
    · subst h3
      rcases List.mem_cons.1 h2 with h4 | h4
      · rw [Prod.mk.injEq] at h4; exact h4.1.symm
      · exact (h.1 (List.mem_map.2 ⟨_, h4, rfl⟩)).elim
    · rcases List.mem_cons.1 h2 with h4 | h4
      · subst h4
        exact (h.1 (List.mem_map.2 ⟨_, h3, rfl⟩)).elim
      · exact ih h.2 h3 h4
theorem nodup_fst {l : List ((Int × Int) × Value)} (h : (l.map (·.1)).Nodup) {k : Int × Int} {v v' : Value} (h1 : (k, v) ∈ l) (h2 : (k, v') ∈ l) : v = v' := by
  induction l with
  | nil => simp at h1
  | cons x l ih =>
    simp only [List.map_cons, List.nodup_cons] at h
    rcases List.mem_cons.1 h1 with h3 | h3
    · subst h3
      rcases List.mem_cons.1 h2 with h4 | h4
      · rw [Prod.mk.injEq] at h4; exact h4.2.symm
      · exact (h.1 (List.mem_map.2 ⟨_, h4, rfl⟩)).elim
    · rcases List.mem_cons.1 h2 with h4 | h4
      · subst h4
        exact (h.1 (List.mem_map.2 ⟨_, h3, rfl⟩)).elim
      · exact ih h.2 h3 h4

/-- One list is changed. -/
theorem MInv.set (h : MInv w tm m es clock ns B g) {k : Int × Int} {lb : Nat} (hk : (k, .pointer (some ⟨lb, 0, none⟩)) ∈ m) (hc : Chg [lb] w w') {f : Int → Int} (hl : LAt w' lb f) : MInv w' tm m es clock ns B fun k' => if k' = k then f else g k' := by
  obtain ⟨lb', e1, e2, e3, e4⟩ := h.val k _ hk
  simp only [Value.pointer.injEq, Option.some.injEq, Addr.mk.injEq, and_true] at e1
  subst e1
  refine ⟨h.map.keep (hc.keep _ h.map.lt (by simpa using fun e => h.lat_ne e4 e.symm)), h.nk, h.nv, fun k' v hv => ?_, h.tmn, h.tmB⟩
  by_cases hkk : k' = k
  · subst hkk
    rw [if_pos rfl]
    obtain rfl := nodup_fst h.nk hk hv
    exact ⟨_, rfl, e2, e3, hl⟩
  · rw [if_neg hkk]
    obtain ⟨lb2, f1, f2, f3, f4⟩ := h.val k' v hv
    refine ⟨lb2, f1, f2, f3, f4.of (hc.keep _ f4.lt fun hm => hkk ?_)⟩
    rw [List.mem_singleton.1 hm] at f1
    subst f1
    exact nodup_snd h.nv hv hk

theorem lookup_none' {K : Type} [DecidableEq K] {m : List (K × Value)} {k : K} (h : k ∉ m.map (·.1)) : m.lookup k = none := by
  rw [List.lookup_eq_none_iff]
  intro x hx
  have hne : k ≠ x.1 := fun e => h (List.mem_map.2 ⟨x, hx, e.symm⟩)
  simpa using hne
theorem look_none {k : Int × Int} (h : k ∉ m.map (·.1)) : look m k = none := lookup_none' h
theorem lookup_some' {K : Type} [DecidableEq K] {k : K} {v : Value} : ∀ {m : List (K × Value)}, (m.map (·.1)).Nodup → (k, v) ∈ m → m.lookup k = some v
  | [], _, h => by simp at h
  | (k0, v0) :: l, hn, h => by
    simp only [List.map_cons, List.nodup_cons] at hn
    rcases List.mem_cons.1 h with h | h
    · rw [Prod.mk.injEq] at h; obtain ⟨rfl, rfl⟩ := h; simp [List.lookup]
    · have hne : k ≠ k0 := fun e => hn.1 (List.mem_map.2 ⟨_, h, e⟩)
      have : (k == k0) = false := by simpa using hne
      simp only [List.lookup, this]
      exact lookup_some' hn.2 h
theorem look_some {k : Int × Int} {v : Value} (hn : (m.map (·.1)).Nodup) (h : (k, v) ∈ m) : look m k = some v := lookup_some' hn h

/-- A list is laid into the map. -/
theorem MInv.add (h : MInv w tm m es clock ns B g) {k : Int × Int} {lb : Nat} (hk : k ∉ m.map (·.1)) (hl : LAt w lb (g k)) (hB : B ≤ lb) (hns : lb ∉ ns) (hnew : ∀ k' v', (k', v') ∈ m → v' ≠ .pointer (some ⟨lb, 0, none⟩)) {R : Value → World → Prop}
    (hR : ∀ w' es', MInv w' tm (m ++ [(k, .pointer (some ⟨lb, 0, none⟩))]) es' (clock + 1) ns B g → Chg [tm] w w' → R (.tuple #[]) w') :
    RunsTo Try.prog ((Instr.mapUpdate 112 (.map (some tm)) (.agg #[I k.1, I k.2]) (.pointer (some ⟨lb, 0, none⟩))) >>= fun _ => pure (Value.tuple #[])) w R := by
  have := MapB.update (P := Try.prog) (mt := 112) (vt := 142) keyL (by kernel_rfl) h.map k (.pointer (some ⟨lb, 0, none⟩)) (look_none hk) (R := R) fun w' es' hm hc _ => hR w' es' ⟨hm, ?_, ?_, fun k' v' hv => ?_, h.tmn, h.tmB⟩ hc
  · exact this
  · rw [List.map_append, List.nodup_append]
    exact ⟨h.nk, by simp, fun x hx y hy e => by simp at hy; subst hy; exact hk (e ▸ hx)⟩
  · rw [List.map_append, List.nodup_append]
    refine ⟨h.nv, by simp, fun x hx y hy e => ?_⟩
    simp at hy
    obtain ⟨z, hz, rfl⟩ := List.mem_map.1 hx
    exact hnew z.1 z.2 hz (e.trans hy)
  · rcases List.mem_append.1 hv with hv | hv
    · obtain ⟨lb2, f1, f2, f3, f4⟩ := h.val k' v' hv
      exact ⟨lb2, f1, f2, f3, f4.of (hc.keep _ f4.lt (by simpa using h.lat_ne f4))⟩
    · simp only [List.mem_singleton, Prod.mk.injEq] at hv
      obtain ⟨rfl, rfl⟩ := hv
      exact ⟨lb, rfl, hB, hns, hl.of (hc.keep _ hl.lt (by simpa using h.lat_ne hl))⟩
end
end Go.Proofs.R07
end
section
/- The conditions of the functions, printed by program; each is what the generator reckons (kernel_rfl). -/
namespace Go.Proofs
open Go.Vc
set_option maxRecDepth 100000 in
set_option maxHeartbeats 2000000 in
theorem vc57 (sb : Nat) (so : Nat) (claimsa : Option Addr) (claimsn : Nat) (claimsc : Nat) (w : World) (R : Ending → World → Prop) (h : ∀ (w1 : World), RowKit.Below w.heap.size w
    w1 → Kept [] w w1 → RunsTo Try.prog (Instr.makeMap 112 none) w1 fun (v1 : Value) (w2 : World) => ∃ (m1 : Nat), v1 = Value.map (some m1) ∧ KeepX true w.heap.size [] (fun _ =>
    False) w1 w2 ∧ ∃ (F1 : List Lf → World → Prop), ∃ (F2 : List Lf → Nat), (∀ (w3 : World), RowKit.Below w.heap.size w w3 → Kept [] w2 w3 → F1 [Lf.int IntKind.i64 0] w3) ∧ ∀ (x1 :
    Int) (w4 : World), RowKit.Below w.heap.size w w4 → F1 [Lf.int IntKind.i64 x1] w4 → (x1 < 7 → ∃ (a1 : Option Addr), ∃ (m2 : Nat), ∃ (m3 : Nat), w4.cell?
    { block := sb, off := so + 0 + 5 } = some (Value.slice a1 m2 m3) ∧ 0 ≤ (↑m2 : Int) ∧ ∃ (F3 : List Lf → World → Prop), ∃ (F4 : List Lf → Nat), (∀ (w5 : World), RowKit.Below
    w.heap.size w w5 → Kept [] w4 w5 → F3 [Lf.int IntKind.i64 0] w5) ∧ ∀ (x2 : Int) (w6 : World), RowKit.Below w.heap.size w w6 → F3 [Lf.int IntKind.i64 x2] w6 → (x2 <
    IntKind.i64.wrap (1 * 2 ^ min (↑m2 : Int).toNat IntKind.i64.bits) → ∀ (w7 : World), RowKit.Below w.heap.size w w7 → Kept [] w6 w7 → ∀ (m4 : Nat) (w8 : World), m4 = w7.heap.size
    → w8 = w7.alloc (Obj.cells (List.replicate 601 (Value.int IntKind.i64 0)).toArray 128) → ∃ (F5 : List Lf → World → Prop), ∃ (F6 : List Lf → Nat), (∀ (w9 : World), RowKit.Below
    w.heap.size w w9 → Kept [] w8 w9 → F5 [Lf.int IntKind.i64 0] w9) ∧ ∀ (x3 : Int) (w10 : World), RowKit.Below w.heap.size w w10 → F5 [Lf.int IntKind.i64 x3] w10 → (x3 < 601 →
    (-9223372036854775808 ≤ x3 - 300 ∧ x3 - 300 ≤ 9223372036854775807) ∧ (-9223372036854775808 ≤ x3 - 300 - 1 ∧ x3 - 300 - 1 ≤ 9223372036854775807) ∧ (0 ≤ x3 ∧ x3 < (↑601 : Int)) ∧
    ∀ (w11 : World), RowKit.Below w.heap.size w w11 → Kept [] w10 w11 → RunsTo Try.prog ((Instr.storeAt 3 (Value.pointer (some { block := m4, off := 0 + x3.toNat * 1 })) (Value.int
    IntKind.i64 (x3 - 300 - 1))) >>= fun _ => pure (Value.tuple #[])) w11 fun (v2 : Value) (w12 : World) => KeepX true w.heap.size [] (fun _ => False) w11 w12 ∧
    (-9223372036854775808 ≤ x3 + 1 ∧ x3 + 1 ≤ 9223372036854775807) ∧ ∀ (w13 : World), RowKit.Below w.heap.size w w13 → Kept [] w12 w13 → F5 [Lf.int IntKind.i64 (x3 + 1)] w13 ∧ F6
    [Lf.int IntKind.i64 (x3 + 1)] < F6 [Lf.int IntKind.i64 x3]) ∧ (601 ≤ x3 → ∀ (w14 : World), RowKit.Below w.heap.size w w14 → Kept [] w10 w14 → RunsTo Try.prog ((Instr.mapUpdate
    112 (Value.map (some m1)) (Value.agg #[Value.int IntKind.i64 x1, Value.int IntKind.i64 x2]) (Value.pointer (some { block := m4, off := 0 }))) >>= fun _ => pure (Value.tuple
    #[])) w14 fun (v3 : Value) (w15 : World) => KeepX true w.heap.size [] (fun _ => False) w14 w15 ∧ (-9223372036854775808 ≤ x2 + 1 ∧ x2 + 1 ≤ 9223372036854775807) ∧ ∀ (w16 :
    World), RowKit.Below w.heap.size w w16 → Kept [] w15 w16 → F3 [Lf.int IntKind.i64 (x2 + 1)] w16 ∧ F4 [Lf.int IntKind.i64 (x2 + 1)] < F4 [Lf.int IntKind.i64 x2])) ∧
    (IntKind.i64.wrap (1 * 2 ^ min (↑m2 : Int).toNat IntKind.i64.bits) ≤ x2 → (-9223372036854775808 ≤ x1 + 1 ∧ x1 + 1 ≤ 9223372036854775807) ∧ ∀ (w17 : World), RowKit.Below
    w.heap.size w w17 → Kept [] w6 w17 → F1 [Lf.int IntKind.i64 (x1 + 1)] w17 ∧ F2 [Lf.int IntKind.i64 (x1 + 1)] < F2 [Lf.int IntKind.i64 x1])) ∧ (7 ≤ x1 → ∃ (F7 : List Lf → World
    → Prop), ∃ (F8 : List Lf → Nat), (∀ (w18 : World), RowKit.Below w.heap.size w w18 → Kept [] w4 w18 → F7 [Lf.int IntKind.i64 0] w18) ∧ ∀ (x4 : Int) (w19 : World), RowKit.Below
    w.heap.size w w19 → F7 [Lf.int IntKind.i64 x4] w19 → (x4 < (↑claimsn : Int) → ∃ (m5 : Nat), ∃ (m6 : Nat), claimsa = some { block := m5, off := m6 } ∧ (0 ≤ x4 ∧ x4 < (↑claimsn :
    Int)) ∧ ∃ (x5 : Int), ∃ (x6 : Int), ∃ (a2 : Option Addr), ∃ (m7 : Nat), ∃ (m8 : Nat), ∃ (x7 : Int), ∃ (x8 : Int), ∃ (x9 : Int), w19.cell?
    { block := m5, off := m6 + x4.toNat * 6 } = some (Value.int IntKind.i64 x5) ∧ w19.cell? { block := m5, off := m6 + x4.toNat * 6 + 1 } = some (Value.int IntKind.i64 x6) ∧
    w19.cell? { block := m5, off := m6 + x4.toNat * 6 + 1 + 1 } = some (Value.slice a2 m7 m8) ∧ w19.cell? { block := m5, off := m6 + x4.toNat * 6 + 1 + 1 + 1 } = some (Value.int
    IntKind.i64 x7) ∧ w19.cell? { block := m5, off := m6 + x4.toNat * 6 + 1 + 1 + 1 + 1 } = some (Value.int IntKind.i64 x8) ∧ w19.cell?
    { block := m5, off := m6 + x4.toNat * 6 + 1 + 1 + 1 + 1 + 1 } = some (Value.int IntKind.i64 x9) ∧ ∀ (m9 : Nat), w19.heap.size ≤ m9 → ∀ (w20 : World), RowKit.Below w.heap.size w
    w20 → Kept [m9] w19 w20 → Calls Try.prog 47 #[Value.slice a2 m7 m8] w20 fun (e1 : Ending) (w21 : World) => ∃ (x10 : Int), e1 = Ending.returned (Value.int IntKind.i64 x10) ∧
    KeepX true w.heap.size [m9] (fun _ => False) w20 w21 ∧ ∀ (w22 : World), RowKit.Below w.heap.size w w22 → Kept [m9] w21 w22 → RunsTo Try.prog (Instr.range 112 (Value.map (some
    m1))) w22 fun (v4 : Value) (w23 : World) => ∃ (v5 : Value), v4 = v5 ∧ KeepX true w.heap.size [m9] (fun _ => False) w22 w23 ∧ ∃ (F9 : Nat → List Lf → World → Prop), (∀ (w24 :
    World), RowKit.Below w.heap.size w w24 → Kept [m9] w23 w24 → ∃ (m10 : Nat), F9 m10 [] w24) ∧ ∀ (m11 : Nat) (w25 : World), RowKit.Below w.heap.size w w25 → F9 m11 [] w25 → ∀
    (w26 : World), RowKit.Below w.heap.size w w26 → Kept [m9] w25 w26 → RunsTo Try.prog (Instr.next v5 false 0) w26 fun (v6 : Value) (w27 : World) => (∃ (v7 : Value), ∃ (v8 :
    Value), v6 = Value.tuple #[Value.bool true, v7, v8] ∧ KeepX true w.heap.size [m9] (fun _ => False) w26 w27 ∧ ∀ (w28 : World), RowKit.Below w.heap.size w w28 → Kept [m9] w27 w28
    → RunsTo Try.prog (Instr.entry v5) w28 fun (v9 : Value) (w29 : World) => ∃ (x11 : Int), ∃ (x12 : Int), ∃ (a3 : Option Addr), v9 = Value.tuple #[Value.agg #[Value.int
    IntKind.i64 x11, Value.int IntKind.i64 x12], Value.pointer a3] ∧ KeepX true w.heap.size [m9] (fun _ => False) w28 w29 ∧ ∀ (m12 : Nat), w29.heap.size ≤ m12 → (x7 ≤ x11 →
    (IntKind.i64.wrap (↑(BitVec.ofInt IntKind.i64.bits x12 &&& ~~~BitVec.ofInt IntKind.i64.bits x10).toNat : Int) = 0 → ∀ (w30 : World), RowKit.Below w.heap.size w w30 → Kept [m12,
    m9] w29 w30 → Calls Try.prog 68 #[Value.pointer a3, Value.int IntKind.i64 x5] w30 fun (e2 : Ending) (w31 : World) => ∃ (a4 : Option Addr), e2 = Ending.returned (Value.pointer
    a4) ∧ KeepX true w.heap.size [m12, m9] (fun _ => False) w30 w31 ∧ ∃ (m13 : Nat), ∃ (m14 : Nat), a4 = some { block := m13, off := m14 } ∧ True ∧ ∃ (x13 : Int), w31.cell?
    { block := m13, off := m14 } = some (Value.int IntKind.i64 x13) ∧ (m13 < w.heap.size ∨ m13 ≠ m12 ∧ m13 ≠ m9) ∧ ∃ (m15 : Nat), ∃ (m16 : Nat), a4 = some
    { block := m15, off := m16 } ∧ True ∧ ∀ (w32 : World), RowKit.Below w.heap.size w w32 → KeptIn [(0, w31.heap.size)] [m12, m9] w31 w32 → RunsTo Try.prog ((Instr.storeAt 3
    (Value.pointer (some { block := m15, off := m16 })) (Value.int IntKind.i64 (max x13 x6))) >>= fun _ => pure (Value.tuple #[])) w32 fun (v10 : Value) (w33 : World) => KeepX true
    w.heap.size [m12, m9] (fun _ => False) w32 w33 ∧ ∀ (w34 : World), RowKit.Below w.heap.size w w34 → Kept [m12, m9] w33 w34 → ∃ (m17 : Nat), m17 < m11 ∧ F9 m17 [] w34) ∧
    (IntKind.i64.wrap (↑(BitVec.ofInt IntKind.i64.bits x12 &&& ~~~BitVec.ofInt IntKind.i64.bits x10).toNat : Int) ≠ 0 → ∀ (w35 : World), RowKit.Below w.heap.size w w35 → Kept [m12,
    m9] w29 w35 → ∃ (m18 : Nat), m18 < m11 ∧ F9 m18 [] w35)) ∧ (x11 < x7 → ∀ (w36 : World), RowKit.Below w.heap.size w w36 → Kept [m12, m9] w29 w36 → ∃ (m19 : Nat), m19 < m11 ∧ F9
    m19 [] w36)) ∨ v6 = Value.tuple #[Value.bool false] ∧ KeepX true w.heap.size [m9] (fun _ => False) w26 w27 ∧ (-9223372036854775808 ≤ x4 + 1 ∧ x4 + 1 ≤ 9223372036854775807) ∧ ∀
    (w37 : World), RowKit.Below w.heap.size w w37 → Kept [m9] w27 w37 → F7 [Lf.int IntKind.i64 (x4 + 1)] w37 ∧ F8 [Lf.int IntKind.i64 (x4 + 1)] < F8 [Lf.int IntKind.i64 x4]) ∧
    ((↑claimsn : Int) ≤ x4 → ∀ (w38 : World), RowKit.Below w.heap.size w w38 → Kept [] w19 w38 → RunsTo Try.prog (Instr.range 112 (Value.map (some m1))) w38 fun (v11 : Value) (w39
    : World) => ∃ (v12 : Value), v11 = v12 ∧ KeepX true w.heap.size [] (fun _ => False) w38 w39 ∧ ∃ (F10 : Nat → List Lf → World → Prop), (∀ (w40 : World), RowKit.Below w.heap.size
    w w40 → Kept [] w39 w40 → ∃ (m20 : Nat), F10 m20 [] w40) ∧ ∀ (m21 : Nat) (w41 : World), RowKit.Below w.heap.size w w41 → F10 m21 [] w41 → ∀ (w42 : World), RowKit.Below
    w.heap.size w w42 → Kept [] w41 w42 → RunsTo Try.prog (Instr.next v12 false 0) w42 fun (v13 : Value) (w43 : World) => (∃ (v14 : Value), ∃ (v15 : Value), v13 = Value.tuple
    #[Value.bool true, v14, v15] ∧ KeepX true w.heap.size [] (fun _ => False) w42 w43 ∧ ∀ (w44 : World), RowKit.Below w.heap.size w w44 → Kept [] w43 w44 → RunsTo Try.prog
    (Instr.entry v12) w44 fun (v16 : Value) (w45 : World) => ∃ (x14 : Int), ∃ (x15 : Int), ∃ (a5 : Option Addr), v16 = Value.tuple #[Value.agg #[Value.int IntKind.i64 x14,
    Value.int IntKind.i64 x15], Value.pointer a5] ∧ KeepX true w.heap.size [] (fun _ => False) w44 w45 ∧ ∃ (F11 : List Lf → World → Prop), ∃ (F12 : List Lf → Nat), (∀ (w46 :
    World), RowKit.Below w.heap.size w w46 → Kept [] w45 w46 → F11 [Lf.int IntKind.i64 0] w46) ∧ ∀ (x16 : Int) (w47 : World), RowKit.Below w.heap.size w w47 → F11 [Lf.int
    IntKind.i64 x16] w47 → (x16 < 600 → (-9223372036854775808 ≤ x16 + 1 ∧ x16 + 1 ≤ 9223372036854775807) ∧ (-9223372036854775808 ≤ x16 + 1 ∧ x16 + 1 ≤ 9223372036854775807) ∧ ∃ (m22
    : Nat), ∃ (m23 : Nat), a5 = some { block := m22, off := m23 } ∧ True ∧ (0 ≤ x16 + 1 ∧ x16 + 1 < (↑601 : Int)) ∧ ∃ (x17 : Int), w47.cell?
    { block := m22, off := m23 + (x16 + 1).toNat * 1 } = some (Value.int IntKind.i64 x17) ∧ ∃ (m24 : Nat), ∃ (m25 : Nat), a5 = some { block := m24, off := m25 } ∧ True ∧ (0 ≤ x16 ∧
    x16 < (↑601 : Int)) ∧ ∃ (x18 : Int), w47.cell? { block := m24, off := m25 + x16.toNat * 1 } = some (Value.int IntKind.i64 x18) ∧ ∃ (m26 : Nat), ∃ (m27 : Nat), a5 = some
    { block := m26, off := m27 } ∧ True ∧ (0 ≤ x16 + 1 ∧ x16 + 1 < (↑601 : Int)) ∧ ∀ (w48 : World), RowKit.Below w.heap.size w w48 → KeptIn [(0, w47.heap.size)] [] w47 w48 → RunsTo
    Try.prog ((Instr.storeAt 3 (Value.pointer (some { block := m26, off := m27 + (x16 + 1).toNat * 1 })) (Value.int IntKind.i64 (max x17 x18))) >>= fun _ => pure (Value.tuple #[]))
    w48 fun (v17 : Value) (w49 : World) => KeepX true w.heap.size [] (fun _ => False) w48 w49 ∧ (-9223372036854775808 ≤ x16 + 1 ∧ x16 + 1 ≤ 9223372036854775807) ∧ ∀ (w50 : World),
    RowKit.Below w.heap.size w w50 → Kept [] w49 w50 → F11 [Lf.int IntKind.i64 (x16 + 1)] w50 ∧ F12 [Lf.int IntKind.i64 (x16 + 1)] < F12 [Lf.int IntKind.i64 x16]) ∧ (600 ≤ x16 → ∀
    (w51 : World), RowKit.Below w.heap.size w w51 → Kept [] w47 w51 → ∃ (m28 : Nat), m28 < m21 ∧ F10 m28 [] w51)) ∨ v13 = Value.tuple #[Value.bool false] ∧ KeepX true w.heap.size
    [] (fun _ => False) w42 w43 ∧ ∀ (w52 : World), RowKit.Below w.heap.size w w52 → Kept [] w43 w52 → R (Ending.returned (Value.map (some m1))) w52))) : Calls Try.prog 57
    #[Value.pointer (some { block := sb, off := so }), Value.slice claimsa claimsn claimsc] w R := calls_of_vc (pure := true) (wrapAt := []) (muts := []) (esc := [34, 68001030142,
    104001030142]) (args := [SV.pv (PV.one (Lf.ptr sb so)), SV.pv (PV.one (Lf.sl claimsa claimsn claimsc))]) (vs := [Value.pointer (some { block := sb, off := so }), Value.slice
    claimsa claimsn claimsc]) Try.func57 rfl rfl rfl (Eq.mp (by kernel_rfl) h) 
set_option maxRecDepth 100000 in
set_option maxHeartbeats 2000000 in
theorem vc58 (sb : Nat) (so : Nat) (r : Nat) (c0 : Int) (c1 : Int) (c2a : Option Addr) (c2n : Nat) (c2c : Nat) (c3 : Int) (c4 : Int) (c5 : Int) (w : World) (R : Ending → World →
    Prop) (h : ∀ (m1 : Nat), w.heap.size ≤ m1 → (c3 = 0 → ∀ (w1 : World), RowKit.Below w.heap.size w w1 → KeptIn [(0, w.heap.size)] [m1] w w1 → RunsTo Try.prog ((eqGuard BinOp.eql
    36 (Operand.tmp 15) (Operand.tmp 16) (Value.agg #[Value.int IntKind.i64 c4, Value.int IntKind.i64 c5]) (Value.agg #[Value.int IntKind.i64 0, Value.int IntKind.i64 (-1)])) >>=
    fun _ => binOp BinOp.eql 36 (Value.agg #[Value.int IntKind.i64 c4, Value.int IntKind.i64 c5]) (Value.agg #[Value.int IntKind.i64 0, Value.int IntKind.i64 (-1)])) w1 fun (v1 :
    Value) (w2 : World) => ∃ (t1 : Bool), v1 = Value.bool t1 ∧ KeepX true w.heap.size [m1] (fun _ => False) w1 w2 ∧ (t1 = true → ∀ (w3 : World), RowKit.Below w.heap.size w w3 →
    KeptIn [(0, w2.heap.size)] [m1] w2 w3 → Calls Try.prog 72 #[Value.pointer (some { block := sb, off := so }), Value.int IntKind.i64 c0] w3 fun (e1 : Ending) (w4 : World) => ∃
    (x1 : Int), e1 = Ending.returned (Value.int IntKind.i64 x1) ∧ KeepX true w.heap.size [m1] (fun _ => False) w3 w4 ∧ ∀ (w5 : World), RowKit.Below w.heap.size w w5 → Kept [m1] w4
    w5 → R (Ending.returned (Value.bool (decide (c1 ≤ x1)))) w5) ∧ (t1 = false → ∀ (w6 : World), RowKit.Below w.heap.size w w6 → Kept [m1] w2 w6 → R (Ending.returned (Value.bool
    false)) w6)) ∧ (c3 ≠ 0 → ∀ (w7 : World), RowKit.Below w.heap.size w w7 → KeptIn [(0, w.heap.size)] [m1] w w7 → Calls Try.prog 47 #[Value.slice c2a c2n c2c] w7 fun (e2 : Ending)
    (w8 : World) => ∃ (x2 : Int), e2 = Ending.returned (Value.int IntKind.i64 x2) ∧ RowKit.Below w7.heap.size w7 w8 ∧ ∀ (w9 : World), RowKit.Below w.heap.size w w9 → KeptIn [(0,
    w.heap.size), (w7.heap.size, w8.heap.size)] [m1] w8 w9 → Calls Try.prog 46 #[Value.pointer (some { block := sb, off := so }), Value.agg #[Value.int IntKind.i64 c0, Value.int
    IntKind.i64 c1], Value.int IntKind.i64 x2, Value.agg #[Value.int IntKind.i64 c4, Value.int IntKind.i64 c5]] w9 fun (e3 : Ending) (w10 : World) => ∃ (x3 : Int), ∃ (x4 : Int), ∃
    (x5 : Int), ∃ (t2 : Bool), e3 = Ending.returned (Value.tuple #[Value.agg #[Value.int IntKind.i64 x3, Value.int IntKind.i64 x4, Value.int IntKind.i64 x5], Value.bool t2]) ∧
    RowKit.Below w9.heap.size w9 w10 ∧ ∀ (m2 : Nat), w.heap.size ≤ m2 → m2 < w9.heap.size ∨ w10.heap.size ≤ m2 → m2 < w7.heap.size ∨ w8.heap.size ≤ m2 → ((!t2) = true → ∀ (w11 :
    World), RowKit.Below w.heap.size w w11 → Kept [m2, m1] w10 w11 → R (Ending.returned (Value.bool false)) w11) ∧ ((!t2) = false → (-9223372036854775808 ≤ c3 - 1 ∧ c3 - 1 ≤
    9223372036854775807) ∧ ∀ (w12 : World), RowKit.Below w.heap.size w w12 → Kept [m2, m1] w10 w12 → RunsTo Try.prog (Instr.lookup 112 (Value.map (some r)) (Value.agg #[Value.int
    IntKind.i64 (c3 - 1), Value.int IntKind.i64 x5]) false) w12 fun (v2 : Value) (w13 : World) => ∃ (a1 : Option Addr), v2 = Value.pointer a1 ∧ KeepX true w.heap.size [m2, m1] (fun
    _ => False) w12 w13 ∧ ∃ (F1 : List Lf → World → Prop), ∃ (F2 : List Lf → Nat), (∀ (w14 : World), RowKit.Below w.heap.size w w14 → Kept [m2, m1] w13 w14 → F1 [Lf.bool false,
    Lf.int IntKind.i64 x3] w14) ∧ ∀ (t3 : Bool) (x6 : Int) (w15 : World), RowKit.Below w.heap.size w w15 → F1 [Lf.bool t3, Lf.int IntKind.i64 x6] w15 → ∀ (w16 : World),
    RowKit.Below w.heap.size w w16 → KeptIn [(0, w15.heap.size)] [m2, m1] w15 w16 → Calls Try.prog 73 #[Value.pointer (some { block := sb, off := so })] w16 fun (e4 : Ending) (w17
    : World) => ∃ (x7 : Int), e4 = Ending.returned (Value.int IntKind.i64 x7) ∧ KeepX true w.heap.size [m2, m1] (fun _ => False) w16 w17 ∧ (-9223372036854775808 ≤ x4 - x7 ∧ x4 - x7
    ≤ 9223372036854775807) ∧ (x6 ≤ max x3 (x4 - x7) → ∀ (w18 : World), RowKit.Below w.heap.size w w18 → KeptIn [(0, w17.heap.size)] [m2, m1] w17 w18 → Calls Try.prog 68
    #[Value.pointer a1, Value.int IntKind.i64 x6] w18 fun (e5 : Ending) (w19 : World) => ∃ (a2 : Option Addr), e5 = Ending.returned (Value.pointer a2) ∧ KeepX true w.heap.size [m2,
    m1] (fun _ => False) w18 w19 ∧ ∀ (w20 : World), RowKit.Below w.heap.size w w20 → KeptIn [(0, w19.heap.size)] [m2, m1] w19 w20 → Calls Try.prog 73 #[Value.pointer (some
    { block := sb, off := so })] w20 fun (e6 : Ending) (w21 : World) => ∃ (x8 : Int), e6 = Ending.returned (Value.int IntKind.i64 x8) ∧ RowKit.Below w20.heap.size w20 w21 ∧ ∃ (m3 :
    Nat), ∃ (m4 : Nat), a2 = some { block := m3, off := m4 } ∧ True ∧ ∃ (x9 : Int), w19.cell? { block := m3, off := m4 } = some (Value.int IntKind.i64 x9) ∧ (m3 < w.heap.size ∨ m3
    ≠ m2 ∧ m3 ≠ m1) ∧ (-9223372036854775808 ≤ x6 + x8 ∧ x6 + x8 ≤ 9223372036854775807) ∧ (x9 < min x4 (x6 + x8) → ∀ (w22 : World), RowKit.Below w.heap.size w w22 → Kept [m2, m1]
    w21 w22 → R (Ending.returned (Value.bool false)) w22) ∧ (min x4 (x6 + x8) ≤ x9 → (-9223372036854775808 ≤ x6 + 1 ∧ x6 + 1 ≤ 9223372036854775807) ∧ ∀ (w23 : World), RowKit.Below
    w.heap.size w w23 → Kept [m2, m1] w21 w23 → F1 [Lf.bool t3, Lf.int IntKind.i64 (x6 + 1)] w23 ∧ F2 [Lf.bool t3, Lf.int IntKind.i64 (x6 + 1)] < F2 [Lf.bool t3, Lf.int IntKind.i64
    x6])) ∧ (max x3 (x4 - x7) < x6 → ∀ (w24 : World), RowKit.Below w.heap.size w w24 → Kept [m2, m1] w17 w24 → R (Ending.returned (Value.bool true)) w24)))) : Calls Try.prog 58
    #[Value.pointer (some { block := sb, off := so }), Value.map (some r), Value.agg #[Value.int IntKind.i64 c0, Value.int IntKind.i64 c1, Value.slice c2a c2n c2c, Value.int
    IntKind.i64 c3, Value.int IntKind.i64 c4, Value.int IntKind.i64 c5]] w R := calls_of_vc (pure := true) (wrapAt := []) (muts := []) (esc := []) (args := [SV.pv (PV.one (Lf.ptr
    sb so)), SV.pv (PV.one (Lf.map r)), SV.pv (PV.agg [Lf.int IntKind.i64 c0, Lf.int IntKind.i64 c1, Lf.sl c2a c2n c2c, Lf.int IntKind.i64 c3, Lf.int IntKind.i64 c4, Lf.int
    IntKind.i64 c5])]) (vs := [Value.pointer (some { block := sb, off := so }), Value.map (some r), Value.agg #[Value.int IntKind.i64 c0, Value.int IntKind.i64 c1, Value.slice c2a
    c2n c2c, Value.int IntKind.i64 c3, Value.int IntKind.i64 c4, Value.int IntKind.i64 c5]]) Try.func58 rfl rfl rfl (Eq.mp (by kernel_rfl) h) 
set_option maxRecDepth 100000 in
set_option maxHeartbeats 2000000 in
theorem vc28 (r0 : Int) (r1 : Int) (r2 : Int) (r3 : Int) (r4 : Int) (r5a : Option Addr) (r5n : Nat) (r5c : Nat) (la : Option Addr) (ln : Nat) (lc : Nat) (w : World) (R : Ending →
    World → Prop) (h : ∀ (m1 : Nat), w.heap.size ≤ m1 → ∀ (w1 : World), RowKit.Below w.heap.size w w1 → Kept [m1] w w1 → Calls Try.prog 55 #[Value.agg #[Value.int IntKind.i64 r0,
    Value.int IntKind.i64 r1, Value.int IntKind.i64 r2, Value.int IntKind.i64 r3, Value.int IntKind.i64 r4, Value.slice r5a r5n r5c]] w1 fun (e1 : Ending) (w2 : World) => ∃ (a1 :
    Option Addr), ∃ (x1 : Int), e1 = Ending.returned (Value.tuple #[Value.pointer a1, Value.int IntKind.i64 x1]) ∧ KeepX true w.heap.size [m1] (fun _ => False) w1 w2 ∧ (x1 ≠ 0 → ∀
    (w3 : World), RowKit.Below w.heap.size w w3 → Kept [m1] w2 w3 → R (Ending.returned (Value.tuple #[Value.int IntKind.i64 0, Value.int IntKind.i64 x1])) w3) ∧ (x1 = 0 → (30000 <
    (↑ln : Int) → ∀ (w4 : World), RowKit.Below w.heap.size w w4 → Kept [m1] w2 w4 → R (Ending.returned (Value.tuple #[Value.int IntKind.i64 0, Value.int IntKind.i64 5])) w4) ∧
    ((↑ln : Int) ≤ 30000 → ∃ (F1 : List Lf → World → Prop), ∃ (F2 : List Lf → Nat), (∀ (w5 : World), RowKit.Below w.heap.size w w5 → Kept [m1] w2 w5 → F1 [Lf.int IntKind.i64 0,
    Lf.int IntKind.i64 x1, Lf.int IntKind.i64 0] w5) ∧ ∀ (x2 x3 x4 : Int) (w6 : World), RowKit.Below w.heap.size w w6 → F1 [Lf.int IntKind.i64 x2, Lf.int IntKind.i64 x3, Lf.int
    IntKind.i64 x4] w6 → (x4 < (↑ln : Int) → ∃ (m2 : Nat), ∃ (m3 : Nat), la = some { block := m2, off := m3 } ∧ (0 ≤ x4 ∧ x4 < (↑ln : Int)) ∧ ∃ (x5 : Int), ∃ (x6 : Int), ∃ (a2 :
    Option Addr), ∃ (m4 : Nat), ∃ (m5 : Nat), ∃ (x7 : Int), ∃ (x8 : Int), ∃ (x9 : Int), w6.cell? { block := m2, off := m3 + x4.toNat * 6 } = some (Value.int IntKind.i64 x5) ∧
    w6.cell? { block := m2, off := m3 + x4.toNat * 6 + 1 } = some (Value.int IntKind.i64 x6) ∧ w6.cell? { block := m2, off := m3 + x4.toNat * 6 + 1 + 1 } = some (Value.slice a2 m4
    m5) ∧ w6.cell? { block := m2, off := m3 + x4.toNat * 6 + 1 + 1 + 1 } = some (Value.int IntKind.i64 x7) ∧ w6.cell? { block := m2, off := m3 + x4.toNat * 6 + 1 + 1 + 1 + 1 } =
    some (Value.int IntKind.i64 x8) ∧ w6.cell? { block := m2, off := m3 + x4.toNat * 6 + 1 + 1 + 1 + 1 + 1 } = some (Value.int IntKind.i64 x9) ∧ (m2 < w.heap.size ∨ m2 ≠ m1) ∧ ∀
    (m6 : Nat), w6.heap.size ≤ m6 → ∀ (w7 : World), RowKit.Below w.heap.size w w7 → Kept [m6, m1] w6 w7 → Calls Try.prog 56 #[Value.pointer a1, Value.agg #[Value.int IntKind.i64
    x5, Value.int IntKind.i64 x6, Value.slice a2 m4 m5]] w7 fun (e2 : Ending) (w8 : World) => ∃ (t1 : Bool), e2 = Ending.returned (Value.bool t1) ∧ KeepX true w.heap.size [m6, m1]
    (fun _ => False) w7 w8 ∧ ((!t1) = true → ∀ (w9 : World), RowKit.Below w.heap.size w w9 → Kept [m6, m1] w8 w9 → R (Ending.returned (Value.tuple #[Value.int IntKind.i64 0,
    Value.int IntKind.i64 2])) w9) ∧ ((!t1) = false → ∀ (m7 : Nat), w8.heap.size ≤ m7 → ∀ (w10 : World), RowKit.Below w.heap.size w w10 → Kept [m7, m6, m1] w8 w10 → w10.heap[m7]? =
    some (Obj.cells #[Value.int IntKind.i64 x7] 3) → Calls Try.prog 41 #[Value.int IntKind.i64 0, Value.int IntKind.i64 6, Value.slice (some { block := m7, off := 0 }) 1 1] w10 fun
    (e3 : Ending) (w11 : World) => ∃ (t2 : Bool), e3 = Ending.returned (Value.bool t2) ∧ KeepX true w.heap.size [m7, m6, m1] (fun _ => False) w10 w11 ∧ ((!t2) = true → ∀ (w12 :
    World), RowKit.Below w.heap.size w w12 → Kept [m7, m6, m1] w11 w12 → R (Ending.returned (Value.tuple #[Value.int IntKind.i64 0, Value.int IntKind.i64 2])) w12) ∧ ((!t2) = false
    → (-9223372036854775808 ≤ x4 + 1 ∧ x4 + 1 ≤ 9223372036854775807) ∧ ∀ (w13 : World), RowKit.Below w.heap.size w w13 → Kept [m7, m6, m1] w11 w13 → F1 [Lf.int IntKind.i64 x2,
    Lf.int IntKind.i64 x3, Lf.int IntKind.i64 (x4 + 1)] w13 ∧ F2 [Lf.int IntKind.i64 x2, Lf.int IntKind.i64 x3, Lf.int IntKind.i64 (x4 + 1)] < F2 [Lf.int IntKind.i64 x2, Lf.int
    IntKind.i64 x3, Lf.int IntKind.i64 x4]))) ∧ ((↑ln : Int) ≤ x4 → ∀ (w14 : World), RowKit.Below w.heap.size w w14 → Kept [m1] w6 w14 → Calls Try.prog 57 #[Value.pointer a1,
    Value.slice la ln lc] w14 fun (e4 : Ending) (w15 : World) => ∃ (m8 : Nat), e4 = Ending.returned (Value.map (some m8)) ∧ KeepX true w.heap.size [m1] (fun _ => False) w14 w15 ∧ ∃
    (F3 : List Lf → World → Prop), ∃ (F4 : List Lf → Nat), (∀ (w16 : World), RowKit.Below w.heap.size w w16 → Kept [m1] w15 w16 → F3 [Lf.int IntKind.i64 x2, Lf.int IntKind.i64 x3,
    Lf.int IntKind.i64 0] w16) ∧ ∀ (x10 x11 x12 : Int) (w17 : World), RowKit.Below w.heap.size w w17 → F3 [Lf.int IntKind.i64 x10, Lf.int IntKind.i64 x11, Lf.int IntKind.i64 x12]
    w17 → (x12 < (↑ln : Int) → ∃ (m9 : Nat), ∃ (m10 : Nat), la = some { block := m9, off := m10 } ∧ (0 ≤ x12 ∧ x12 < (↑ln : Int)) ∧ ∃ (x13 : Int), ∃ (x14 : Int), ∃ (a3 : Option
    Addr), ∃ (m11 : Nat), ∃ (m12 : Nat), ∃ (x15 : Int), ∃ (x16 : Int), ∃ (x17 : Int), w17.cell? { block := m9, off := m10 + x12.toNat * 6 } = some (Value.int IntKind.i64 x13) ∧
    w17.cell? { block := m9, off := m10 + x12.toNat * 6 + 1 } = some (Value.int IntKind.i64 x14) ∧ w17.cell? { block := m9, off := m10 + x12.toNat * 6 + 1 + 1 } = some (Value.slice
    a3 m11 m12) ∧ w17.cell? { block := m9, off := m10 + x12.toNat * 6 + 1 + 1 + 1 } = some (Value.int IntKind.i64 x15) ∧ w17.cell?
    { block := m9, off := m10 + x12.toNat * 6 + 1 + 1 + 1 + 1 } = some (Value.int IntKind.i64 x16) ∧ w17.cell? { block := m9, off := m10 + x12.toNat * 6 + 1 + 1 + 1 + 1 + 1 } =
    some (Value.int IntKind.i64 x17) ∧ (m9 < w.heap.size ∨ m9 ≠ m1) ∧ ∀ (m13 : Nat), w17.heap.size ≤ m13 → ∀ (w18 : World), RowKit.Below w.heap.size w w18 → Kept [m13, m1] w17 w18
    → Calls Try.prog 58 #[Value.pointer a1, Value.map (some m8), Value.agg #[Value.int IntKind.i64 x13, Value.int IntKind.i64 x14, Value.slice a3 m11 m12, Value.int IntKind.i64
    x15, Value.int IntKind.i64 x16, Value.int IntKind.i64 x17]] w18 fun (e5 : Ending) (w19 : World) => ∃ (t3 : Bool), e5 = Ending.returned (Value.bool t3) ∧ KeepX true w.heap.size
    [m13, m1] (fun _ => False) w18 w19 ∧ ((!t3) = true → ∀ (w20 : World), RowKit.Below w.heap.size w w20 → Kept [m13, m1] w19 w20 → R (Ending.returned (Value.tuple #[Value.int
    IntKind.i64 x12, Value.int IntKind.i64 0])) w20) ∧ ((!t3) = false → (-9223372036854775808 ≤ x12 + 1 ∧ x12 + 1 ≤ 9223372036854775807) ∧ ∀ (w21 : World), RowKit.Below w.heap.size
    w w21 → Kept [m13, m1] w19 w21 → F3 [Lf.int IntKind.i64 x10, Lf.int IntKind.i64 x11, Lf.int IntKind.i64 (x12 + 1)] w21 ∧ F4 [Lf.int IntKind.i64 x10, Lf.int IntKind.i64 x11,
    Lf.int IntKind.i64 (x12 + 1)] < F4 [Lf.int IntKind.i64 x10, Lf.int IntKind.i64 x11, Lf.int IntKind.i64 x12])) ∧ ((↑ln : Int) ≤ x12 → ∀ (w22 : World), RowKit.Below w.heap.size w
    w22 → Kept [m1] w17 w22 → R (Ending.returned (Value.tuple #[Value.int IntKind.i64 (-1), Value.int IntKind.i64 0])) w22))))) : Calls Try.prog 28 #[Value.agg #[Value.int
    IntKind.i64 r0, Value.int IntKind.i64 r1, Value.int IntKind.i64 r2, Value.int IntKind.i64 r3, Value.int IntKind.i64 r4, Value.slice r5a r5n r5c], Value.slice la ln lc] w R :=
    calls_of_vc (pure := true) (wrapAt := []) (muts := []) (esc := []) (args := [SV.pv (PV.agg [Lf.int IntKind.i64 r0, Lf.int IntKind.i64 r1, Lf.int IntKind.i64 r2, Lf.int
    IntKind.i64 r3, Lf.int IntKind.i64 r4, Lf.sl r5a r5n r5c]), SV.pv (PV.one (Lf.sl la ln lc))]) (vs := [Value.agg #[Value.int IntKind.i64 r0, Value.int IntKind.i64 r1, Value.int
    IntKind.i64 r2, Value.int IntKind.i64 r3, Value.int IntKind.i64 r4, Value.slice r5a r5n r5c], Value.slice la ln lc]) Try.func28 rfl rfl rfl (Eq.mp (by kernel_rfl) h) 
end Go.Proofs
end
section
/- newReach. -/
namespace Go.Proofs.R07
open Go.Vc Go.RowKit Go.Proofs

abbrev ClM := Cl × Option Addr × Nat
def clV (x : ClM) : List Value := [I x.1.st.lo, I x.1.st.hi, .slice x.2.1 x.1.st.used.length x.2.2, I x.1.visits, I x.1.turns, I x.1.weight]
/-- Claims in memory. -/
structure ClsAt (w : World) (la : Option Addr) (l : List ClM) : Prop where
  row : Cells w la (l.flatMap clV)
  used : ∀ x ∈ l, Cells w x.2.1 (bools x.1.st.used)
theorem ClsAt.keep {w w' : World} {la : Option Addr} {l : List ClM} (h : ClsAt w la l) (hb : Below w.heap.size w w') : ClsAt w' la l := ⟨h.row.keep hb, fun x hx => (h.used x hx).keep hb⟩
theorem cl_get {l : List ClM} {i : Nat} {x : ClM} (h : l[i]? = some x) {j : Nat} {v : Value} (hv : (clV x)[j]? = some v) (hj : j < 6) : (l.flatMap clV)[i * 6 + j]? = some v := by
  rw [flat_get (k := 6) (fun _ => rfl) h hj, hv]

def okCl (r : Rules) (c : Cl) : Prop := okSt r c.st = true ∧ 0 ≤ c.visits ∧ c.visits ≤ 6
def two (r : Rules) : Nat := 2 ^ r.ws.length
theorem two_le {r : Rules} (hr : Good r) : two r ≤ 8 := by
  have := hr.1
  unfold two
  have h : r.ws.length = 0 ∨ r.ws.length = 1 ∨ r.ws.length = 2 ∨ r.ws.length = 3 := by omega
  rcases h with h | h | h | h <;> rw [h] <;> decide
theorem two_wrap {r : Rules} (hr : Good r) : IntKind.i64.wrap (1 * 2 ^ min ((r.ws.length : Nat) : Int).toNat IntKind.i64.bits) = (two r : Int) := by
  have := hr.1
  unfold two
  have h : r.ws.length = 0 ∨ r.ws.length = 1 ∨ r.ws.length = 2 ∨ r.ws.length = 3 := by omega
  rcases h with h | h | h | h <;> rw [h] <;> decide +kernel

def Keyed (N v u : Int) (k : Int × Int) : Prop := 0 ≤ k.1 ∧ 0 ≤ k.2 ∧ k.2 < N ∧ (k.1 < v ∨ k.1 = v ∧ k.2 < u)

/-- The map of lists, with these keys. -/
def RMap (w : World) (tm : Nat) (ns : List Nat) (B : Nat) (P : Int × Int → Prop) (g : Int × Int → Int → Int) : Prop := ∃ m es clock, MInv w tm m es clock ns B g ∧ ∀ k, k ∈ m.map (·.1) ↔ P k

theorem okCl_facts {r : Rules} (hr : Good r) {c : Cl} (h : okCl r c) : okSp (c.st.lo, c.st.hi) ∧ c.st.used.length ≤ 3 := by
  obtain ⟨h, _⟩ := h
  unfold okSt at h
  simp only [Bool.and_eq_true, beq_iff_eq] at h
  have h1 := h.1
  simp [isSpan, within] at h1
  have := hr.1
  exact ⟨by unfold okSp; simp only; omega, by omega⟩

def leftN (m : List ((Int × Int) × Value)) (seen : List (Int × Int)) : Nat := (m.filter fun x => decide (x.1 ∉ seen)).length
theorem leftN_lt {m : List ((Int × Int) × Value)} {seen : List (Int × Int)} {k : Int × Int} {v : Value} (h : (k, v) ∈ m) (hk : k ∉ seen) : leftN m (k :: seen) < leftN m seen := by
  unfold leftN
  induction m with
  | nil => simp at h
  | cons x m ih =>
    have mono : ∀ l : List ((Int × Int) × Value), (l.filter fun x => decide (x.1 ∉ k :: seen)).length ≤ (l.filter fun x => decide (x.1 ∉ seen)).length := fun l => by
      induction l with
      | nil => simp
      | cons y l ih =>
        simp only [List.filter_cons, List.mem_cons, not_or]
        by_cases h1 : y.1 ∈ seen
        · simp [h1]; simpa using ih
        · by_cases h2 : y.1 = k
          · simp [h2, hk]; have := ih; simp only [List.mem_cons, not_or] at this; simp at this; omega
          · simp [h1, h2]; simpa using ih
    rcases List.mem_cons.1 h with h | h
    · subst h
      have := mono m
      simp only [List.filter_cons, hk]
      simp
      simp at this
      omega
    · have := ih h
      simp only [List.filter_cons, List.mem_cons, not_or] at this ⊢
      by_cases h1 : x.1 ∈ seen
      · simp [h1]; simpa using this
      · by_cases h2 : x.1 = k
        · simp [h2, hk]; simp at this; omega
        · simp [h1, h2]; simpa using this

/-- The maxima of a beginning. -/
def pref (g : Int → Int) (j : Int) (x : Int) : Int := if x + 300 ≤ j then preMax g (x + 300).toNat else g x

def ReachPost (r : Rules) (l : List ClM) (w : World) (e : Ending) (w' : World) : Prop :=
  ∃ tm, e = .returned (.map (some tm)) ∧ Below w.heap.size w w' ∧ RMap w' tm [] w.heap.size (Keyed (two r) 7 0) (reachV (l.map (·.1)))

set_option maxHeartbeats 4000000 in
theorem reach_any {r : Rules} (hr : Good r) {a : Option Addr} {c sb tm0 : Nat} {w : World} (h : ShopAt r a c sb tm0 w) {la : Option Addr} {lc : Nat} {l : List ClM} (hl : ClsAt w la l) (hlen : l.length ≤ 30000) (hok : ∀ x ∈ l, okCl r x.1) :
    Calls Try.prog 57 #[.pointer (some ⟨sb, 0, none⟩), .slice la l.length lc] w (ReachPost r l w) := by
  have h8 := two_le hr
  refine vc57 _ _ _ _ _ w _ fun w1 hb1 hk1 => ?_
  have hB : ∀ {w' : World}, Below w.heap.size w w' → w.heap.size ≤ w'.heap.size := fun h => h.size
  refine ⟨_, _, run_mkmap, w1.heap.size, rfl, .all ((Below.refl _ _).alloc (Nat.le_refl _) _), ?_⟩
  generalize htm : w1.heap.size = tm
  have hb1s := hb1.size
  have M2 : MInv (w1.alloc (.map #[] 0)) tm [] #[] 0 [] w.heap.size (fun _ x => x - 1) := ⟨⟨by rw [← htm]; exact alloc_here, rfl, by simp, by simp⟩, by simp, by simp, by simp, by simp, by omega⟩
  refine ⟨fun ls w' => match ls with | [.int _ v] => 0 ≤ v ∧ v ≤ 7 ∧ RMap w' tm [] w.heap.size (Keyed (two r) v 0) (fun _ x => x - 1) | _ => False, fun ls => match ls with | [.int _ v] => (7 - v).toNat | _ => 0, fun w3 hb3 hk3 => ⟨by omega, by omega, [], #[], 0, M2.below (kept_nil hk3), fun k => by simp [Keyed]; omega⟩, ?_⟩
  rintro v w4 hb4 ⟨hv0, hv7, m4', es4, cl4, M4, K4⟩
  refine ⟨fun hv => ?_, fun hv => ?_⟩
  · refine ⟨_, _, _, (h.keep hb4).cell (i := 5) rfl, by omega, ?_⟩
    rw [two_wrap hr]
    refine ⟨fun ls w' => match ls with | [.int _ u] => 0 ≤ u ∧ u ≤ two r ∧ RMap w' tm [] w.heap.size (Keyed (two r) v u) (fun _ x => x - 1) | _ => False, fun ls => match ls with | [.int _ u] => ((two r : Int) - u).toNat | _ => 0, fun w5 hb5 hk5 => ⟨by omega, by omega, m4', es4, cl4, M4.below (kept_nil hk5), K4⟩, ?_⟩
    rintro u w6 hb6 ⟨hu0, huN, m6, es6, cl6, M6, K6⟩
    refine ⟨fun hu w7 hb7 hk7 m4 w8 hm4 hw8 => ?_, fun hu => ⟨by omega, fun w17 hb17 hk17 => ⟨⟨by omega, by omega, m6, es6, cl6, M6.below (kept_nil hk17), fun k => ?_⟩, ?_⟩⟩⟩
    · have M7 := M6.below (kept_nil hk7)
      have hb78 : Below w7.heap.size w7 w8 := by rw [hw8]; exact (Below.refl _ _).alloc (Nat.le_refl _) _
      have M8 := ((M7.grow (ms := [m4]) (by simp; omega))).below hb78
      have L8 : ListL w8 m4 (List.replicate 601 0) := by
        unfold ListL; rw [hw8, hm4, alloc_here]
        unfold ints; rw [List.map_replicate]
      have hb7s := hb7.size
      have hnew : ∀ k' v', (k', v') ∈ m6 → v' ≠ .pointer (some ⟨m4, 0, none⟩) := fun k' v' hv' e => by
        obtain ⟨lb, e1, _, _, e4⟩ := M7.val k' v' hv'
        rw [e1] at e
        simp only [Value.pointer.injEq, Option.some.injEq, Addr.mk.injEq, and_true] at e
        have := e4.lt
        omega
      refine ⟨fun ls w' => match ls with | [.int _ x] => 0 ≤ x ∧ x ≤ 601 ∧ MInv w' tm m6 es6 cl6 ([m4] ++ []) w.heap.size (fun _ x => x - 1) ∧ ∃ L, ListL w' m4 L ∧ L.length = 601 ∧ ∀ i : Nat, (i : Int) < x → L[i]? = some ((i : Int) - 300 - 1) | _ => False, fun ls => match ls with | [.int _ x] => (601 - x).toNat | _ => 0,
        fun w9 hb9 hk9 => ⟨by omega, by omega, M8.below (kept_nil hk9), _, heap_keep (kept_nil hk9) L8, List.length_replicate, fun i hi => by omega⟩, ?_⟩
      rintro x w10 hb10 ⟨hx0, hx1, M10, L, hL, hLn, hLs⟩
      refine ⟨fun hx => ⟨by omega, by omega, ⟨hx0, by show x < 601; omega⟩, fun w11 hb11 hk11 => ?_⟩, fun hx w14 hb14 hk14 => ?_⟩
      · rw [show 0 + x.toNat * 1 = x.toNat by omega]
        refine store_list (heap_keep (kept_nil hk11) hL : ListL w11 m4 L) (by omega) fun w12 hL12 c12 => ?_
        refine ⟨c12.own (by simp) (by simp) fun _ => ⟨hb11.size, by simp; omega⟩, by omega, fun w13 hb13 hk13 => ⟨⟨by omega, by omega, ((M10.below (kept_nil hk11)).chg c12 (by simp)).below (kept_nil hk13), _, heap_keep (kept_nil hk13) hL12, by simpa using hLn, fun i hi => ?_⟩, ?_⟩⟩
        · by_cases hix : i = x.toNat
          · subst hix; rw [List.getElem?_set_self (by omega)]; congr 1; omega
          · rw [List.getElem?_set_ne (by omega)]; exact hLs i (by omega)
        · show (601 - (x + 1)).toNat < (601 - x).toNat
          omega
      · have hL14 : LAt w14 m4 (fun x => x - 1) := ⟨L, heap_keep (kept_nil hk14) hL, hLn, fun y hy1 hy2 => by rw [hLs (y + 300).toNat (by omega)]; congr 1; show _ = y - 1; omega⟩
        refine ((M10.below (kept_nil hk14)).drop).add (k := (v, u)) (lb := m4) (fun hm => ?_) hL14 (by omega) (by simp) hnew fun w15 es' M15 c15 => ?_
        · have := (K6 _).1 hm
          unfold Keyed at this; simp only at this; omega
        · refine ⟨c15.own (by simp) (by simp) fun _ => ⟨hb14.size, by simpa using M6.tmB⟩, by omega, fun w16 hb16 hk16 => ⟨⟨by omega, by omega, _, _, _, M15.below (kept_nil hk16), fun k => ?_⟩, ?_⟩⟩
          · obtain ⟨k1, k2⟩ := k
            rw [List.map_append, List.mem_append, K6]
            simp only [List.map_cons, List.map_nil, List.mem_singleton, Keyed, Prod.mk.injEq]
            omega
          · show ((two r : Int) - (u + 1)).toNat < ((two r : Int) - u).toNat
            omega
    · obtain ⟨k1, k2⟩ := k
      rw [K6]
      simp only [Keyed]
      omega
    · show (7 - (v + 1)).toNat < (7 - v).toNat
      omega
  · obtain rfl : v = 7 := by omega
    have hl3 := hr.1
    -- the claims, one after another
    refine ⟨fun ls w' => match ls with | [.int _ x] => 0 ≤ x ∧ x ≤ l.length ∧ RMap w' tm [] w.heap.size (Keyed (two r) 7 0) (reachB ((l.take x.toNat).map (·.1))) | _ => False, fun ls => match ls with | [.int _ x] => ((l.length : Int) - x).toNat | _ => 0,
      fun w18 hb18 hk18 => ⟨by omega, by omega, m4', es4, cl4, (M4.below (kept_nil hk18)).congr (fun _ _ _ _ _ _ => rfl), K4⟩, ?_⟩
    rintro x w19 hb19 ⟨hx0, hxl, m, es, clock, M19, K⟩
    have hkey : ∀ k v, (k, v) ∈ m → 0 ≤ k.1 ∧ k.1 < 7 ∧ 0 ≤ k.2 ∧ k.2 < two r := fun k v hv => by
      have := (K k).1 (List.mem_map.2 ⟨_, hv, rfl⟩)
      unfold Keyed at this; omega
    refine ⟨fun hx => ?_, fun hx w38 hb38 hk38 => ?_⟩
    · have hi : x.toNat < l.length := by omega
      have hli := getElem_of_lt hi
      obtain ⟨b, o, rfl, g0⟩ := hl.row _ _ (cl_get hli (j := 0) rfl (by omega))
      have gj : ∀ {j : Nat} {v : Value}, (clV l[x.toNat])[j]? = some v → j < 6 → w19.cell? ⟨b, o + (x.toNat * 6 + j), none⟩ = some v := fun hv hj => cell_keep hb19 (hl.row.at (cl_get hli hv hj))
      have hmem : l[x.toNat] ∈ l := List.getElem_mem hi
      generalize hcl : l[x.toNat] = cl at *
      obtain ⟨hsp, hul⟩ := okCl_facts hr (hok cl hmem)
      obtain ⟨hsp1, hsp2, hsp3⟩ := hsp
      simp only at hsp1 hsp2 hsp3
      refine ⟨b, o, rfl, ⟨hx0, hx⟩, cl.1.st.lo, cl.1.st.hi, cl.2.1, cl.1.st.used.length, cl.2.2, cl.1.visits, cl.1.turns, cl.1.weight, cell_at (gj (j := 0) rfl (by omega)) (by omega), cell_at (gj (j := 1) rfl (by omega)) (by omega), cell_at (gj (j := 2) rfl (by omega)) (by omega),
        cell_at (gj (j := 3) rfl (by omega)) (by omega), cell_at (gj (j := 4) rfl (by omega)) (by omega), cell_at (gj (j := 5) rfl (by omega)) (by omega), fun m9 h9 w20 hb20 hk20 => ?_⟩
      have s19 := hb19.size
      have M20 := (M19.grow (ms := [m9]) (by simpa using h9)).chg (Chg.kept hk20) (by simp)
      refine Pure.calls (newSet_any ((hl.used cl hmem).keep hb20) hul) fun w21 hb21 => ⟨_, rfl, .all hb21, fun w22 hb22 hk22 => ?_⟩
      have M22 := (M20.below hb21).chg (Chg.kept hk22) (by simp)
      have hu8 : setOf cl.1.st.used < 8 := setOf_lt hul
      refine range_map (P := Try.prog) (t := 112) (kt := 103) (vt := 142) (by kernel_rfl) M22.map fun w23 hb23 I23 => ⟨_, rfl, .all hb23, ?_⟩
      generalize hit : w22.heap.size = it at I23 ⊢
      have s22 := hb22.size
      have M23 : MInv w23 tm m es clock ([it] ++ ([m9] ++ [])) w.heap.size (reachB ((l.take x.toNat).map (·.1))) := (M22.grow (ms := [it]) (by simp; omega)).below (hit ▸ hb23)
      have hm9 : m9 < it := by have := hk22.own m9 (by simp); omega
      obtain ⟨g, hg⟩ : ∃ g, g = reachB ((l.take x.toNat).map (·.1)) := ⟨_, rfl⟩
      rw [← hg] at M23
      refine ⟨fun n ls w' => ∃ seen sn, n = leftN m seen ∧ IterB w' it tm encL m seen es clock sn ∧ MInv w' tm m es clock ([it] ++ ([m9] ++ [])) w.heap.size (fun k z => if k ∈ seen then upd cl.1 k k.2.toNat z (g k z) else g k z),
        fun w24 hb24 hk24 => ⟨_, [], #[], rfl, I23.chg (Chg.kept hk24) (by simp; have := M23.tmn; simp at this; omega) (by simp; omega), (M23.chg (Chg.kept hk24) (by simp)).congr (fun k v hv z _ _ => by simp)⟩, ?_⟩
      rintro n w25 hb25 ⟨seen, sn, rfl, I25, M25⟩ w26 hb26 hk26
      have htm9 : tm ∉ [m9] := by have := M23.tmn; simp at this ⊢; omega
      have hit9 : it ∉ [m9] := by simp; omega
      have I26 := I25.chg (Chg.kept hk26) htm9 hit9
      have M26 := M25.chg (Chg.kept hk26) (by simp)
      refine next_map (P := Try.prog) I26 M26.nk (fun k v w27 sn' hkv hks c27 E27 => .inl ?_) (fun hall => .inr ?_)
      · obtain ⟨lb, rfl, hlb1, hlb2, hlb3⟩ := M26.val k v hkv
        have M27 := M26.chg c27 (by simp)
        refine ⟨_, _, rfl, c27.own (by simp; have := hk26.own m9 (by simp); omega) (by simp) (fun _ => ⟨hb26.size, by simp; omega⟩), fun w28 hb28 hk28 => ?_⟩
        have I28 := E27.iter.chg (Chg.kept hk28) htm9 hit9
        have E28 : IterE w28 it tm encL m (k :: seen) es clock sn' k (.pointer (some ⟨lb, 0, none⟩)) := ⟨I28, E27.last⟩
        have M28 := M27.chg (Chg.kept hk28) (by simp)
        obtain ⟨hk1, hk2, hk3, hk4⟩ := hkey k _ hkv
        refine entry_map (P := Try.prog) E28 ⟨_, _, _, rfl, .all (.refl _ _), fun m10 h10 => ?_⟩
        have hku : k.2 = (k.2.toNat : Int) := by omega
        -- a step without a change
        have stay : ∀ {w'}, Kept [m10, m9] w28 w' → (∀ z, upd cl.1 k k.2.toNat z (g k z) = g k z) → ∃ n' : Nat, n' < leftN m seen ∧ ∃ seen sn, n' = leftN m seen ∧ IterB w' it tm encL m seen es clock sn ∧ MInv w' tm m es clock ([it] ++ ([m9] ++ [])) w.heap.size (fun k z => if k ∈ seen then upd cl.1 k k.2.toNat z (g k z) else g k z) := fun {w'} hk hst => by
          refine ⟨_, leftN_lt hkv hks, k :: seen, sn', rfl, I28.chg (Chg.kept hk) ?_ ?_, ((M28.grow (ms := [m10]) (by simpa using h10)).chg (Chg.kept hk) (by simp)).drop.congr fun k' v' hv' z _ _ => ?_⟩
          · have := M28.map.lt; have := htm9; simp at this ⊢; omega
          · have := I28.lt; simp; omega
          · by_cases hkk : k' = k
            · subst hkk; simp [hks, hst]
            · simp [hkk]
        refine ⟨fun hv => ⟨fun hs w30 hb30 hk30 => ?_, fun hs w35 hb35 hk35 => stay hk35 fun z => ?_⟩, fun hv w36 hb36 hk36 => stay hk36 fun z => ?_⟩
        · have hsub : sub k.2.toNat (setOf cl.1.st.used) = true := by
            refine (andNot_iff (by omega) hu8).1 ?_
            rw [← hku]; exact hs
          refine Pure.calls (at_any hsp1 (by omega) w30) fun w31 hb31 => ⟨_, rfl, .all hb31, lb, _, rfl, trivial, ?_⟩
          have htm10 : tm ∉ [m10, m9] := by have := M28.map.lt; have := htm9; simp at this ⊢; omega
          have hit10 : it ∉ [m10, m9] := by have := I28.lt; simp; omega
          have M31 := ((M28.grow (ms := [m10]) (by simpa using h10)).chg (Chg.kept hk30) (by simp)).below hb31
          have I31 := I28.chg ((Chg.kept hk30).trans (.of_below hb31)) htm10 hit10
          obtain ⟨lb', q1, q2, q3, L31⟩ := M31.val k _ hkv
          simp only [Value.pointer.injEq, Option.some.injEq, Addr.mk.injEq, and_true] at q1
          subst q1
          have c31 := L31.cell hsp1 (by omega)
          simp only [hks, if_false] at c31
          refine ⟨g k cl.1.st.lo, cell_at c31 (by omega), .inr (by simp at q3; omega), lb, _, rfl, trivial, fun w32 hb32 hk32 => ?_⟩
          have M32 := M31.chg (chg_in hk32) (by simp)
          have I32 := I31.chg (chg_in hk32) htm10 hit10
          obtain ⟨lb', q1', q2', q3', L32⟩ := M32.val k _ hkv
          simp only [Value.pointer.injEq, Option.some.injEq, Addr.mk.injEq, and_true] at q1'
          subst q1'
          rw [Nat.zero_add]
          refine L32.store hsp1 (by omega) fun w33 L33 c33 => ?_
          have M33 := M32.set hkv c33 L33
          have htb : tm ∉ [lb] := by simpa using fun e => M32.lat_ne L32 e.symm
          have hib : it ∉ [lb] := by simp at q3 ⊢; omega
          have I33 := I32.chg c33 htb hib
          refine ⟨c33.own (fun b hb => ⟨hk32.own b hb, by simp at hb q3 ⊢; omega⟩) (by simp) (fun _ => ⟨hb32.size, by simpa using q2⟩), fun w34 hb34 hk34 => ?_⟩
          refine ⟨_, leftN_lt hkv hks, k :: seen, sn', rfl, I33.chg (Chg.kept hk34) htm10 hit10, ((M33.chg (Chg.kept hk34) (by simp)).drop (ms := [m10])).congr fun k' v' hv' z _ _ => ?_⟩
          by_cases hkk : k' = k
          · subst hkk
            simp only [List.mem_cons, true_or, if_true, hks, if_false]
            unfold upd
            by_cases hz : z = cl.1.st.lo
            · subst hz; simp [hv, hsub]
            · have hz' : ¬ cl.1.st.lo = z := fun e => hz e.symm
              simp [hz, hz']
          · simp [hkk]
        · have hsub : ¬ sub k.2.toNat (setOf cl.1.st.used) = true := fun hh => hs (by
            have := (andNot_iff (u := k.2.toNat) (by omega) hu8).2 hh
            rw [← hku] at this; exact this)
          unfold upd; simp [hsub]
        · unfold upd; rw [if_neg (by omega)]
      · refine ⟨rfl, .all (.refl _ _), by omega, fun w37 hb37 hk37 => ⟨⟨by omega, by omega, m, es, clock, ((M26.chg (Chg.kept hk37) (by simp)).drop (ms := [it])).drop.congr fun k v hv z _ _ => ?_, K⟩, ?_⟩⟩
        · rw [show (x + 1).toNat = x.toNat + 1 by omega, List.take_add_one, hli]
          simp only [Option.toList_some, List.map_append, List.map_cons, List.map_nil, hall _ hv, if_true]
          unfold reachB
          rw [List.foldl_append, hg]
          rfl
        · show ((l.length : Int) - (x + 1)).toNat < ((l.length : Int) - x).toNat
          omega
    · obtain rfl : x = l.length := by omega
      have htk : (l.take (l.length : Int).toNat) = l := by rw [Int.toNat_natCast, List.take_length]
      rw [htk] at M19
      have s19 := hb19.size
      have s38 := hb38.size
      have M38 := M19.below (kept_nil hk38)
      refine range_map (P := Try.prog) (t := 112) (kt := 103) (vt := 142) (by kernel_rfl) M38.map fun w39 hb39 I39 => ⟨_, rfl, .all hb39, ?_⟩
      generalize hit : w38.heap.size = it at I39 ⊢
      obtain ⟨g, hg⟩ : ∃ g, g = reachB (l.map (·.1)) := ⟨_, rfl⟩
      rw [← hg] at M38
      have M39 : MInv w39 tm m es clock ([it] ++ []) w.heap.size g := (M38.grow (ms := [it]) (by simp; omega)).below (hit ▸ hb39)
      refine ⟨fun n ls w' => ∃ seen sn, n = leftN m seen ∧ IterB w' it tm encL m seen es clock sn ∧ MInv w' tm m es clock ([it] ++ []) w.heap.size (fun k => if k ∈ seen then pref (g k) 600 else g k),
        fun w40 hb40 hk40 => ⟨_, [], #[], rfl, I39.chg (Chg.of_below (S := []) (kept_nil hk40)) (by simp) (by simp), (M39.below (kept_nil hk40)).congr (fun k v hv z _ _ => by simp)⟩, ?_⟩
      rintro n w41 hb41 ⟨seen, sn, rfl, I41, M41⟩ w42 hb42 hk42
      have I42 := I41.chg (Chg.of_below (S := []) (kept_nil hk42)) (by simp) (by simp)
      have M42 := M41.below (kept_nil hk42)
      refine next_map (P := Try.prog) I42 M42.nk (fun k v w43 sn' hkv hks c43 E43 => .inl ?_) (fun hall => .inr ?_)
      · obtain ⟨lb, rfl, hlb1, hlb2, hlb3⟩ := M42.val k v hkv
        have M43 := M42.chg c43 (by simp)
        refine ⟨_, _, rfl, c43.own (by simp) (by simp) (fun _ => ⟨hb42.size, by simp; omega⟩), fun w44 hb44 hk44 => ?_⟩
        have E44 : IterE w44 it tm encL m (k :: seen) es clock sn' k (.pointer (some ⟨lb, 0, none⟩)) := ⟨E43.iter.chg (Chg.of_below (S := []) (kept_nil hk44)) (by simp) (by simp), E43.last⟩
        have M44 := M43.below (kept_nil hk44)
        have hib : it ∉ [lb] := by simp at hlb2 ⊢; omega
        have htb : tm ∉ [lb] := by simpa using fun e => M42.lat_ne hlb3 e.symm
        refine entry_map (P := Try.prog) E44 ⟨_, _, _, rfl, .all (.refl _ _), ?_⟩
        have upto : ∀ {w' : World} {j : Int}, MInv w' tm m es clock ([it] ++ []) w.heap.size (fun k' => if k' = k then pref (g k) j else if k' ∈ seen then pref (g k') 600 else g k') → LAt w' lb (pref (g k) j) := fun hm => by
          obtain ⟨lb', q1, q2, q3, L⟩ := hm.val k _ hkv
          simp only [Value.pointer.injEq, Option.some.injEq, Addr.mk.injEq, and_true] at q1
          subst q1
          simpa using L
        refine ⟨fun ls w' => match ls with | [.int _ j] => 0 ≤ j ∧ j ≤ 600 ∧ IterB w' it tm encL m (k :: seen) es clock sn' ∧ MInv w' tm m es clock ([it] ++ []) w.heap.size (fun k' => if k' = k then pref (g k) j else if k' ∈ seen then pref (g k') 600 else g k') | _ => False, fun ls => match ls with | [.int _ j] => (600 - j).toNat | _ => 0,
          fun w46 hb46 hk46 => ⟨by omega, by omega, E44.iter.chg (Chg.of_below (S := []) (kept_nil hk46)) (by simp) (by simp), (M44.below (kept_nil hk46)).congr fun k' v' hv' z hz1 hz2 => ?_⟩, ?_⟩
        · by_cases hkk : k' = k
          · subst hkk
            simp only [if_true, hks, if_false]
            unfold pref
            split
            · obtain rfl : z = -300 := by omega
              rfl
            · rfl
          · simp [hkk]
        rintro j w47 hb47 ⟨hj0, hj6, I47, M47⟩
        have L47 := upto M47
        refine ⟨fun hj => ⟨by omega, by omega, lb, 0, rfl, trivial, ⟨by omega, by show j + 1 < 601; omega⟩, pref (g k) j (j + 1 - 300), cell_at (L47.cell (x := j + 1 - 300) (by omega) (by omega)) (by omega), lb, 0, rfl, trivial, ⟨hj0, by show j < 601; omega⟩, pref (g k) j (j - 300), cell_at (L47.cell (x := j - 300) (by omega) (by omega)) (by omega), lb, 0, rfl, trivial, ⟨by omega, by show j + 1 < 601; omega⟩, fun w48 hb48 hk48 => ?_⟩, fun hj w51 hb51 hk51 => ?_⟩
        · have c48 := chg_in hk48
          have M48 := M47.chg c48 (by simp)
          have I48 := I47.chg c48 (by simp) (by simp)
          have L48 := upto M48
          rw [show 0 + (j + 1).toNat * 1 = ((j + 1 - 300) + 300).toNat by omega]
          refine L48.store (x := j + 1 - 300) (by omega) (by omega) fun w49 L49 c49 => ?_
          have M49 := M48.set hkv c49 L49
          refine ⟨c49.own (by simp) (by simp) (fun _ => ⟨hb48.size, by simpa using hlb1⟩), by omega, fun w50 hb50 hk50 => ⟨⟨by omega, by omega, (I48.chg c49 htb hib).chg (Chg.of_below (S := []) (kept_nil hk50)) (by simp) (by simp), (M49.below (kept_nil hk50)).congr fun k' v' hv' z hz1 hz2 => ?_⟩, ?_⟩⟩
          · by_cases hkk : k' = k
            · subst hkk
              simp only [if_true]
              unfold pref
              by_cases hz : z = j + 1 - 300
              · subst hz
                rw [if_pos (by omega), if_pos rfl, if_neg (by omega), if_pos (by omega)]
                rw [show (j + 1 - 300 + 300).toNat = (j - 300 + 300).toNat + 1 by omega, preMax]
                rw [show -300 + (((j - 300 + 300).toNat + 1 : Nat) : Int) = j + 1 - 300 by omega]
              · rw [if_neg hz]
                by_cases hzj : z + 300 ≤ j
                · rw [if_pos hzj, if_pos (by omega)]
                · rw [if_neg hzj, if_neg (by omega)]
            · simp [hkk]
          · show (600 - (j + 1)).toNat < (600 - j).toNat
            omega
        · obtain rfl : j = 600 := by omega
          refine ⟨_, leftN_lt hkv hks, k :: seen, sn', rfl, I47.chg (Chg.of_below (S := []) (kept_nil hk51)) (by simp) (by simp), (M47.below (kept_nil hk51)).congr fun k' v' hv' z _ _ => ?_⟩
          by_cases hkk : k' = k
          · subst hkk; simp
          · simp [hkk]
      · refine ⟨rfl, .all (.refl _ _), fun w52 hb52 hk52 => ⟨tm, rfl, hb52, m, es, clock, (((M42.below (kept_nil hk52)).drop (ms := [it])).congr fun k v hv z hz1 hz2 => ?_), K⟩⟩
        simp only [hall _ hv, if_true]
        unfold pref reachV
        rw [if_pos (by omega), hg]
end Go.Proofs.R07
end
section
/- Equality of pairs; whether a claim follows. -/
namespace Go.Proofs.R07
open Go.Vc Go.RowKit Go.Proofs

theorem eq_act (a b c d : Int) (w : World) : (Op.equal 36 (.agg #[I a, I b]) (.agg #[I c, I d])).run Try.prog w = .ok (decide ((a, b) = (c, d))) w := by
  have hS : Try.prog.underlying 36 = some (.struct (Try.prog.fieldsOf 36)) := by kernel_rfl
  show (Op.equalIn (9999 + 1) 36 _ _).run _ _ = _
  have hp : Try.prog.stoodInHeld 36 = false := by kernel_rfl
  rw [run_equalIn_agg w 9999 36 _ _ hS hp]
  simp only [Program.fieldsOf, Try.underlying36]
  have p1 : ∀ (x y : Int), (part 3 #[I x, I y] 0).run Try.prog w = .ok (I x) w := fun _ _ => by kernel_rfl
  have p2 : ∀ (x y : Int), (part 3 #[I x, I y] 1).run Try.prog w = .ok (I y) w := fun _ _ => by kernel_rfl
  have u3 : Try.prog.underlying 3 = some (.int .i64) := by kernel_rfl
  have q1 : ∀ x y : Int, (Op.equalIn 9999 3 (I x) (I y)).run Try.prog w = .ok (x == y) w := fun x y => run_equalIn_int w 9998 3 _ _ _ _ u3
  by_cases h1 : a = c <;> by_cases h2 : b = d <;> simp [Op.eqFields, p1, p2, q1, h1, h2, Sem.run_bind, Sem.run_pure]
theorem guard_act (op : BinOp) (x y : Operand) (a b c d : Int) (w : World) : (eqGuard op 36 x y (.agg #[I a, I b]) (.agg #[I c, I d])).run Try.prog w = .ok () w := by
  cases op <;> kernel_rfl
theorem eql_act {x y : Operand} {a b c d : Int} {w : World} {R : Value → World → Prop} (h : R (.bool (decide ((a, b) = (c, d)))) w) : RunsTo Try.prog ((eqGuard .eql 36 x y (.agg #[I a, I b]) (.agg #[I c, I d])) >>= fun _ => binOp .eql 36 (.agg #[I a, I b]) (.agg #[I c, I d])) w R := by
  refine ⟨_, w, ?_, h⟩
  simp only [Sem.run_bind, guard_act, Result.andThen_ok, binOp, eq_act, Sem.run_pure]
theorem eq_span (a b c d : Int) (w : World) : (Op.equal 23 (.agg #[I a, I b]) (.agg #[I c, I d])).run Try.prog w = .ok (decide ((a, b) = (c, d))) w := by
  have hS : Try.prog.underlying 23 = some (.struct (Try.prog.fieldsOf 23)) := by kernel_rfl
  show (Op.equalIn (9999 + 1) 23 _ _).run _ _ = _
  have hp : Try.prog.stoodInHeld 23 = false := by kernel_rfl
  rw [run_equalIn_agg w 9999 23 _ _ hS hp]
  simp only [Program.fieldsOf, Try.underlying23]
  have p1 : ∀ (x y : Int), (part 3 #[I x, I y] 0).run Try.prog w = .ok (I x) w := fun _ _ => by kernel_rfl
  have p2 : ∀ (x y : Int), (part 3 #[I x, I y] 1).run Try.prog w = .ok (I y) w := fun _ _ => by kernel_rfl
  have u3 : Try.prog.underlying 3 = some (.int .i64) := by kernel_rfl
  have q1 : ∀ x y : Int, (Op.equalIn 9999 3 (I x) (I y)).run Try.prog w = .ok (x == y) w := fun x y => run_equalIn_int w 9998 3 _ _ _ _ u3
  by_cases h1 : a = c <;> by_cases h2 : b = d <;> simp [Op.eqFields, p1, p2, q1, h1, h2, Sem.run_bind, Sem.run_pure]
theorem guard_span (op : BinOp) (x y : Operand) (a b c d : Int) (w : World) : (eqGuard op 23 x y (.agg #[I a, I b]) (.agg #[I c, I d])).run Try.prog w = .ok () w := by
  cases op <;> kernel_rfl
theorem neq_span {x y : Operand} {a b c d : Int} {w : World} {R : Value → World → Prop} (h : R (.bool (!decide ((a, b) = (c, d)))) w) : RunsTo Try.prog ((eqGuard .neq 23 x y (.agg #[I a, I b]) (.agg #[I c, I d])) >>= fun _ => binOp .neq 23 (.agg #[I a, I b]) (.agg #[I c, I d])) w R := by
  refine ⟨_, w, ?_, h⟩
  simp only [Sem.run_bind, guard_span, Result.andThen_ok, binOp, eq_span, Sem.run_pure]

/-- Whether a claim follows from claims that reach so far. -/
def followsR (r : Rules) (l : List Cl) (c : Cl) : Bool :=
  if c.visits = 0 then decide ((c.turns, c.weight) = (0, -1)) && decide (c.st.hi ≤ goodTo r c.st.lo)
  else match move r (c.st.lo, c.st.hi) (setOf c.st.used) (c.turns, c.weight) with
    | none => false
    | some (m, u) => (List.range (max m.1 (m.2 - 2 * r.err) - m.1 + 1).toNat).all fun i => decide (min m.2 (m.1 + i + 2 * r.err) ≤ reachV l (c.visits - 1, (u : Int)) (m.1 + i))

theorem RMap.below {w w' : World} {tm : Nat} {ns : List Nat} {B : Nat} {P : Int × Int → Prop} {g : Int × Int → Int → Int} (h : RMap w tm ns B P g) (hb : Below w.heap.size w w') : RMap w' tm ns B P g := by
  obtain ⟨m, es, cl, h1, h2⟩ := h; exact ⟨m, es, cl, h1.below hb, h2⟩
theorem RMap.chg {w w' : World} {tm : Nat} {ns S : List Nat} {B : Nat} {P : Int × Int → Prop} {g : Int × Int → Int → Int} (h : RMap w tm ns B P g) (hc : Chg S w w') (hs : ∀ x ∈ S, x ∈ ns) : RMap w' tm ns B P g := by
  obtain ⟨m, es, cl, h1, h2⟩ := h; exact ⟨m, es, cl, h1.chg hc hs, h2⟩
theorem RMap.grow {w : World} {tm : Nat} {ns ms : List Nat} {B : Nat} {P : Int × Int → Prop} {g : Int × Int → Int → Int} (h : RMap w tm ns B P g) (hm : ∀ n ∈ ms, w.heap.size ≤ n) : RMap w tm (ms ++ ns) B P g := by
  obtain ⟨m, es, cl, h1, h2⟩ := h; exact ⟨m, es, cl, h1.grow hm, h2⟩
theorem RMap.drop {w : World} {tm : Nat} {ns ms : List Nat} {B : Nat} {P : Int × Int → Prop} {g : Int × Int → Int → Int} (h : RMap w tm (ms ++ ns) B P g) : RMap w tm ns B P g := by
  obtain ⟨m, es, cl, h1, h2⟩ := h; exact ⟨m, es, cl, h1.drop, h2⟩

theorem move_used {r : Rules} (hr : Good r) {s : Sp} {u : Nat} (hu : u < two r) {x : Int × Int} {p : Sp} {u' : Nat} (h : move r s u x = some (p, u')) : u' < two r := by
  unfold move at h
  split at h
  · cases h
  · rename_i q hq
    split at h
    · simp only [Option.some.injEq, Prod.mk.injEq] at h
      obtain ⟨_, rfl⟩ := h
      split
      · exact hu
      · rename_i hy
        unfold shift at hq
        rw [if_neg hy] at hq
        split at hq
        · rename_i hh
          unfold put two at *
          have hlt : x.2.toNat < r.ws.length := by omega
          exact Nat.or_lt_two_pow hu (Nat.pow_lt_pow_right (by omega) hlt)
        · cases hq
    · cases h
theorem setTo_two {l : List Bool} : ∀ {n : Nat}, setTo l n < 2 ^ n
  | 0 => by simp [setTo]
  | n + 1 => by
    have ih := setTo_two (l := l) (n := n)
    have h2 : 2 ^ n < 2 ^ (n + 1) := Nat.pow_lt_pow_right (by omega) (by omega)
    simp only [setTo]
    split
    · exact Nat.or_lt_two_pow (by omega) h2
    · omega

set_option maxHeartbeats 1000000 in
theorem follows_any {r : Rules} (hr : Good r) {a : Option Addr} {cc sb tm0 tm B : Nat} {w : World} (h : ShopAt r a cc sb tm0 w) (hc : Cells w a (spans r.ws)) {l : List Cl} (hm : RMap w tm [] B (Keyed (two r) 7 0) (reachV l)) {c : Cl} (hok : okCl r c) {ua : Option Addr} {uc : Nat} (hu : Cells w ua (bools c.st.used)) :
    Calls Try.prog 58 #[.pointer (some ⟨sb, 0, none⟩), .map (some tm), .agg #[I c.st.lo, I c.st.hi, .slice ua c.st.used.length uc, I c.visits, I c.turns, I c.weight]] w (Pure w (.bool (followsR r l c))) := by
  obtain ⟨⟨hs1, hs2, hs3⟩, hul⟩ := okCl_facts hr hok
  obtain ⟨hok1, hv0, hv6⟩ := hok
  simp only at hs1 hs2 hs3
  have herr := hr.2.2.1
  refine vc58 _ _ _ _ _ _ _ _ _ _ _ w _ fun m1 h1 => ⟨fun hz w1 hb1 hk1 => ?_, fun hz w7 hb7 hk7 => ?_⟩
  · refine eql_act ⟨_, rfl, .all (.refl _ _), fun ht w3 hb3 hk3 => ?_, fun hf w6 hb6 hk6 => ⟨?_, hb6⟩⟩
    · refine Pure.calls (good_any hr (h.keep hb3) hs1 (by omega)) fun w4 hb4 => ⟨_, rfl, .all hb4, fun w5 hb5 hk5 => ⟨?_, hb5⟩⟩
      unfold followsR; rw [if_pos hz, ht, Bool.true_and]
    · unfold followsR; rw [if_pos hz, hf, Bool.false_and]
  · have hu8 : setOf c.st.used < 8 := setOf_lt hul
    refine Pure.calls (newSet_any (hu.keep hb7) hul) fun w8 hb8 => ⟨_, rfl, by first | exact hb8 | exact .all hb8, fun w9 hb9 hk9 => ?_⟩
    refine MovePost.calls (move_any hr hu8 (h.keep hb9) (hc.keep hb9) (c.st.lo, c.st.hi) ⟨by simp only; omega, by simp only; omega, by simp only; omega, by simp only; omega⟩ (c.turns, c.weight)) fun lo hi u' w10 hb10 hp => ⟨_, _, _, _, rfl, by first | exact hb10 | exact .all hb10, fun m2 h2 h2b h2c => ⟨fun hf w11 hb11 hk11 => ⟨?_, hb11⟩, fun hf => ⟨by omega, fun w12 hb12 hk12 => ?_⟩⟩⟩
    · unfold followsR; rw [if_neg hz]
      cases hmv : move r (c.st.lo, c.st.hi) (setOf c.st.used) (c.turns, c.weight)
      · rfl
      · rw [hmv] at hf; cases hf
    cases hmv : move r (c.st.lo, c.st.hi) (setOf c.st.used) (c.turns, c.weight) with
    | none => rw [hmv] at hf; cases hf
    | some q =>
    obtain ⟨q, mu⟩ := q
    obtain ⟨rfl, hq⟩ := hp _ hmv
    simp only at hq
    subst hq
    obtain ⟨hmu, hq1, hq2, hq3⟩ := move_facts hr hu8 hmv
    simp only at hq1 hq2 hq3
    have hmu2 : mu < two r := by
      refine move_used hr ?_ hmv
      unfold okSt at hok1
      simp only [Bool.and_eq_true, beq_iff_eq] at hok1
      unfold setOf two; rw [← hok1.2]; exact setTo_two
    have hval : followsR r l c = (List.range (max lo (hi - 2 * r.err) - lo + 1).toNat).all fun i => decide (min hi (lo + i + 2 * r.err) ≤ reachV l (c.visits - 1, (mu : Int)) (lo + i)) := by
      unfold followsR; rw [if_neg hz, hmv]
    obtain ⟨m, es, cl, hM, hK⟩ := hm
    have hin : (c.visits - 1, (mu : Int)) ∈ m.map (·.1) := (hK _).2 (by unfold Keyed; simp only; omega)
    obtain ⟨⟨k, v⟩, hkv, hke⟩ := List.mem_map.1 hin
    simp only at hke
    subst hke
    have M12 := hM.below hb12
    obtain ⟨lb, rfl, _, _, L12⟩ := M12.val _ _ hkv
    have hz0 : (zeroValue 142).run Try.prog w12 = .ok (.pointer none) w12 := by kernel_rfl
    have hlk : (Instr.lookup 112 (.map (some tm)) (.agg #[I (c.visits - 1), I mu]) false).run Try.prog w12 = .ok ((look m (c.visits - 1, (mu : Int))).getD (.pointer none)) w12 := (run_lookup_map (P := Try.prog) keyL (mt := 112) (vt := 142) (by kernel_rfl) M12.map.mapIs (c.visits - 1, (mu : Int)) hz0).2
    rw [look_some hM.nk hkv] at hlk
    have hlbw : lb < w.heap.size := by
      obtain ⟨lb', q1, _, _, L⟩ := hM.val _ _ hkv
      simp only [Value.pointer.injEq, Option.some.injEq, Addr.mk.injEq, and_true] at q1
      rw [q1]; exact L.lt
    have LW : ∀ {w'}, Below w.heap.size w w' → LAt w' lb (reachV l (c.visits - 1, (mu : Int))) := fun hb => by
      obtain ⟨lb', q1, _, _, L⟩ := (hM.below hb).val _ _ hkv
      simp only [Value.pointer.injEq, Option.some.injEq, Addr.mk.injEq, and_true] at q1
      rw [q1]; exact L
    refine ⟨_, w12, hlk, _, rfl, .all (.refl _ _), fun ls w' => match ls with | [_, .int _ x] => lo ≤ x ∧ x ≤ max lo (hi - 2 * r.err) + 1 ∧ ∀ i : Nat, lo + i < x → min hi (lo + i + 2 * r.err) ≤ reachV l (c.visits - 1, (mu : Int)) (lo + i) | _ => False, fun ls => match ls with | [_, .int _ x] => (max lo (hi - 2 * r.err) + 1 - x).toNat | _ => 0,
      fun w14 hb14 hk14 => ⟨by omega, by omega, fun i hi => by omega⟩, ?_⟩
    rintro t x w15 hb15 ⟨hx0, hx1, hxs⟩ w16 hb16 hk16
    refine Pure.calls (window_any hr (h.keep hb16)) fun w17 hb17 => ⟨_, rfl, .all hb17, by omega, fun hle w18 hb18 hk18 => ?_, fun hgt w24 hb24 hk24 => ⟨?_, hb24⟩⟩
    · refine Pure.calls (at_any (by omega) (by omega) w18) fun w19 hb19 => ⟨_, rfl, .all hb19, fun w20 hb20 hk20 => ?_⟩
      refine Pure.calls (window_any hr (h.keep hb20)) fun w21 hb21 => ⟨_, rfl, by first | exact hb21 | exact .all hb21, lb, _, rfl, trivial, reachV l (c.visits - 1, (mu : Int)) x, ?_, .inl hlbw, by omega, fun hlt w22 hb22 hk22 => ⟨?_, hb22⟩, fun hge => ⟨by omega, fun w23 hb23 hk23 => ⟨⟨by omega, by omega, fun i hi => ?_⟩, ?_⟩⟩⟩
      · exact cell_at ((LW (hb18.trans (hb19.mono hb18.size))).cell (by omega) (by omega)) (by omega)
      · rw [hval]
        refine congrArg Value.bool ?_ |> congrArg Ending.returned
        symm
        rw [Bool.eq_false_iff]
        intro hall
        rw [List.all_eq_true] at hall
        have := hall (x - lo).toNat (by simp; omega)
        simp only [decide_eq_true_eq] at this
        rw [show lo + ((x - lo).toNat : Int) = x by omega] at this
        omega
      · by_cases hix : lo + i < x
        · exact hxs i hix
        · rw [show lo + (i : Int) = x by omega]; exact hge
      · show (max lo (hi - 2 * r.err) + 1 - (x + 1)).toNat < (max lo (hi - 2 * r.err) + 1 - x).toNat
        omega
    · rw [hval]
      refine congrArg Value.bool ?_ |> congrArg Ending.returned
      symm
      rw [List.all_eq_true]
      intro i hi
      simp only [decide_eq_true_eq]
      exact hxs i (by simp at hi; omega)
end Go.Proofs.R07
end
section
/- Proves. -/
namespace Go.Proofs.R07
open Go.Vc Go.RowKit Go.Proofs

def okClB (r : Rules) (c : Cl) : Bool := okSt r c.st && (decide (0 ≤ c.visits) && decide (c.visits ≤ 6))
theorem okClB_iff {r : Rules} {c : Cl} : okClB r c = true ↔ okCl r c := by simp [okClB, okCl]
def firstNot (r : Rules) (l : List Cl) : Int :=
  match l.findIdx? (fun c => !followsR r l c) with
  | some i => i
  | none => -1
def provesR (r : Rules) (l : List Cl) : Int × Int :=
  if check r ≠ 0 then (0, check r) else if 30000 < l.length then (0, 5) else if l.all (okClB r) = false then (0, 2) else (firstNot r l, 0)

theorem ShopAt.kept {r : Rules} {a : Option Addr} {c sb tm : Nat} {w w' : World} {bs : List Nat} (h : ShopAt r a c sb tm w) (hk : Kept bs w w') (hs : sb ∉ bs) : ShopAt r a c sb tm w' := (hk.block sb h.lt hs).trans h

set_option maxHeartbeats 2000000 in
theorem proves_any (r : Rules) {a : Option Addr} {c : Nat} {w : World} (hc : Cells w a (spans r.ws)) {la : Option Addr} {lc : Nat} {l : List ClM} (hl : ClsAt w la l) (hsm : (l.length : Int) ≤ 9223372036854775807) :
    Calls Try.prog 28 #[r.v a c, .slice la l.length lc] w (Pure w (.tuple #[I (provesR r (l.map (·.1))).1, I (provesR r (l.map (·.1))).2])) := by
  have hlm : (l.map (·.1)).length = l.length := List.length_map _
  refine vc28 _ _ _ _ _ _ _ _ _ _ _ w _ fun m1 h1 w1 hb1 hk1 => ?_
  refine (open_any r (c := c) (hc.keep hb1)).mono fun e w2 he => ?_
  obtain ⟨sb, tm, rfl, hb2, ho⟩ := he
  have o1 := hk1.own m1 (by simp)
  have s1 := hb1.size
  have g1 := ho.hsb
  have hS2 : ShopAt r a c sb tm w2 := ho.shop
  have hsm1 : sb ∉ [m1] := by simp; omega
  refine ⟨_, _, rfl, .all hb2, fun he w3 hb3 _ => ⟨by unfold provesR; rw [if_pos he], hb3⟩, fun he => ⟨fun hn w4 hb4 _ => ⟨?_, hb4⟩, fun hn => ?_⟩⟩
  · unfold provesR; rw [if_neg (by omega), if_pos (by rw [hlm]; omega)]
  have hr := good_of he
  have cellsAt : ∀ {w' : World} {x : Int}, Below w.heap.size w w' → 0 ≤ x → x < l.length → ∃ b o, la = some ⟨b, o, none⟩ ∧ ∃ cl, l[x.toNat]? = some cl ∧ cl ∈ l ∧ b < w.heap.size ∧ ∀ {j : Nat} {v : Value} {k : Nat}, (clV cl)[j]? = some v → j < 6 → k = o + (x.toNat * 6 + j) → w'.cell? ⟨b, k, none⟩ = some v := fun {w' x} hb hx0 hx => by
    have hi : x.toNat < l.length := by omega
    have hli := getElem_of_lt hi
    obtain ⟨b, o, rfl, g0⟩ := hl.row _ _ (cl_get hli (j := 0) rfl (by omega))
    exact ⟨b, o, rfl, _, hli, List.getElem_mem hi, cell_lt g0, fun hv hj hk => cell_at (cell_keep hb (hl.row.at (cl_get hli hv hj))) hk⟩
  have bad : ∀ {cl : ClM}, cl ∈ l → okClB r cl.1 = false → provesR r (l.map (·.1)) = (0, 2) := fun {cl} hm hb => by
    unfold provesR; rw [if_neg (by omega), if_neg (by rw [hlm]; omega), if_pos]
    rw [Bool.eq_false_iff]
    intro hall
    rw [List.all_eq_true] at hall
    rw [hall _ (List.mem_map.2 ⟨_, hm, rfl⟩)] at hb; cases hb
  refine ⟨fun ls w' => match ls with | [_, _, .int _ x] => 0 ≤ x ∧ x ≤ l.length ∧ ShopAt r a c sb tm w' ∧ m1 < w'.heap.size ∧ ∀ (j : Nat) cl, (j : Int) < x → l[j]? = some cl → okClB r cl.1 = true | _ => False, fun ls => match ls with | [_, _, .int _ x] => ((l.length : Int) - x).toNat | _ => 0,
    fun w5 hb5 hk5 => ⟨by omega, by omega, hS2.kept hk5 hsm1, hk5.own _ (by simp), fun j cl hj => by omega⟩, ?_⟩
  rintro x2 x3 x w6 hb6 ⟨hx0, hxl, S6, O6, hyes⟩
  have s6 := hb6.size
  refine ⟨fun hx => ?_, fun hx w14 hb14 hk14 => ?_⟩
  · obtain ⟨b, o, rfl, cl, hcl, hmem, hbw, gj⟩ := cellsAt hb6 hx0 hx
    refine ⟨b, o, rfl, ⟨hx0, hx⟩, cl.1.st.lo, cl.1.st.hi, cl.2.1, cl.1.st.used.length, cl.2.2, cl.1.visits, cl.1.turns, cl.1.weight, gj (j := 0) rfl (by omega) (by omega), gj (j := 1) rfl (by omega) (by omega), gj (j := 2) rfl (by omega) (by omega), gj (j := 3) rfl (by omega) (by omega), gj (j := 4) rfl (by omega) (by omega), gj (j := 5) rfl (by omega) (by omega), .inl hbw, fun m6 h6 w7 hb7 hk7 => ?_⟩
    have hs6 : sb ∉ [m6, m1] := by have := S6.lt; simp at hsm1 ⊢; omega
    have S7 := S6.kept hk7 hs6
    refine Pure.calls (isState_any S7 cl.1.st cl.2.1 cl.2.2) fun w8 hb8 => ⟨_, rfl, .all hb8, fun hf w9 hb9 _ => ⟨?_, hb9⟩, fun ht m7 h7 w10 hb10 hk10 hc10 => ?_⟩
    · rw [bad hmem (by unfold okClB; have : okSt r cl.1.st = false := by simpa using hf
                       rw [this]; rfl)]
    have S8 := S7.keep hb8
    have hs7 : sb ∉ [m7, m6, m1] := by have := S8.lt; simp at hs6 ⊢; omega
    have S10 := S8.kept hk10 hs7
    refine Pure.calls (one_in hc10) fun w11 hb11 => ⟨_, rfl, .all hb11, fun hf w12 hb12 _ => ⟨?_, hb12⟩, fun ht2 => ⟨by omega, fun w13 hb13 hk13 => ⟨⟨by omega, by omega, (S10.keep hb11).kept hk13 hs7, hk13.own _ (by simp), fun j cl' hj hj' => ?_⟩, ?_⟩⟩⟩
    · have hw := within_one 0 6 cl.1.visits
      rw [bad hmem (by
        unfold okClB
        rw [Bool.eq_false_iff]
        intro hh
        simp only [Bool.and_eq_true, decide_eq_true_eq] at hh
        rw [hw.2 hh.2] at hf; cases hf)]
    · by_cases hjx : (j : Int) < x
      · exact hyes j cl' hjx hj'
      · have : j = x.toNat := by omega
        subst this
        rw [hcl] at hj'
        obtain rfl := Option.some.inj hj'
        have hw := (within_one 0 6 cl.1.visits).1 (by simpa using ht2)
        have h1 : okSt r cl.1.st = true := by simpa using ht
        simp [okClB, h1, hw]
    · show ((l.length : Int) - (x + 1)).toNat < ((l.length : Int) - x).toNat
      omega
  · have hall : ∀ cl ∈ l, okCl r cl.1 := fun cl hm => by
      obtain ⟨j, hj, rfl⟩ := List.mem_iff_getElem.1 hm
      exact okClB_iff.1 (hyes j _ (by omega) (getElem_of_lt hj))
    have S14 := S6.kept hk14 hsm1
    have s14 := hb14.size
    refine (reach_any hr S14 (hl.keep hb14) (lc := lc) (by omega) hall).mono fun e w15 he15 => ?_
    obtain ⟨rm, rfl, hb15, hR⟩ := he15
    have hpv : provesR r (l.map (·.1)) = (firstNot r (l.map (·.1)), 0) := by
      unfold provesR; rw [if_neg (by omega), if_neg (by rw [hlm]; omega), if_neg]
      rw [Bool.not_eq_false, List.all_eq_true]
      intro cl hcl
      obtain ⟨z, hz, rfl⟩ := List.mem_map.1 hcl
      exact okClB_iff.2 (hall z hz)
    have hR1 : ∀ {w'}, Kept [m1] w15 w' → RMap w' rm [] w14.heap.size (Keyed (two r) 7 0) (reachV (l.map (·.1))) := fun hk => by
      have o14 := hk14.own m1 (by simp)
      obtain ⟨m, es, cl, hM, hK⟩ := hR
      have hM1 : MInv w15 rm m es cl [m1] w14.heap.size (reachV (l.map (·.1))) := ⟨hM.map, hM.nk, hM.nv, fun k v hv => by
        obtain ⟨lb, e1, e2, e3, e4⟩ := hM.val k v hv
        exact ⟨lb, e1, e2, by simp; omega, e4⟩, by have := hM.tmB; simp; omega, hM.tmB⟩
      exact ⟨m, es, cl, (hM1.chg (Chg.kept hk) (by simp)).drop (ms := [m1]), hK⟩
    refine ⟨_, rfl, .all hb15, fun ls w' => match ls with | [_, _, .int _ x] => 0 ≤ x ∧ x ≤ l.length ∧ ShopAt r a c sb tm w' ∧ RMap w' rm ([m1] ++ []) w14.heap.size (Keyed (two r) 7 0) (reachV (l.map (·.1))) ∧ ∀ (j : Nat) cl, (j : Int) < x → l[j]? = some cl → followsR r (l.map (·.1)) cl.1 = true | _ => False, fun ls => match ls with | [_, _, .int _ x] => ((l.length : Int) - x).toNat | _ => 0,
      fun w16 hb16 hk16 => ⟨by omega, by omega, (S14.keep hb15).kept hk16 hsm1, ?_, fun j cl hj => by omega⟩, ?_⟩
    · have o14 := hk14.own m1 (by simp)
      obtain ⟨m, es, cl, hM, hK⟩ := hR1 hk16
      exact ⟨m, es, cl, ⟨hM.map, hM.nk, hM.nv, fun k v hv => by
        obtain ⟨lb, e1, e2, e3, e4⟩ := hM.val k v hv
        exact ⟨lb, e1, e2, by simp; omega, e4⟩, by have := hM.tmB; simp; omega, hM.tmB⟩, hK⟩
    rintro y2 y3 y w17 hb17 ⟨hy0, hyl, S17, R17, hyes2⟩
    have s17 := hb17.size
    refine ⟨fun hy => ?_, fun hy w22 hb22 hk22 => ⟨?_, hb22⟩⟩
    · obtain ⟨b, o, rfl, cl, hcl, hmem, hbw, gj⟩ := cellsAt hb17 hy0 hy
      refine ⟨b, o, rfl, ⟨hy0, hy⟩, cl.1.st.lo, cl.1.st.hi, cl.2.1, cl.1.st.used.length, cl.2.2, cl.1.visits, cl.1.turns, cl.1.weight, gj (j := 0) rfl (by omega) (by omega), gj (j := 1) rfl (by omega) (by omega), gj (j := 2) rfl (by omega) (by omega), gj (j := 3) rfl (by omega) (by omega), gj (j := 4) rfl (by omega) (by omega), gj (j := 5) rfl (by omega) (by omega), .inl hbw, fun m13 h13 w18 hb18 hk18 => ?_⟩
      have hs13 : sb ∉ [m13, m1] := by have := S17.lt; simp at hsm1 ⊢; omega
      have S18 := S17.kept hk18 hs13
      have R18 := (R17.grow (ms := [m13]) (by simpa using h13)).chg (Chg.kept hk18) (by simp)
      refine Pure.calls (follows_any hr S18 (hc.keep hb18) (R18.drop (ms := [m13]).drop (ms := [m1])) (hall cl hmem) ((hl.used cl hmem).keep hb18)) fun w19 hb19 => ⟨_, rfl, .all hb19, fun hf w20 hb20 _ => ⟨?_, hb20⟩, fun ht => ⟨by omega, fun w21 hb21 hk21 => ⟨⟨by omega, by omega, (S18.keep hb19).kept hk21 hs13, ((R18.below hb19).chg (Chg.kept hk21) (by simp)).drop (ms := [m13]), fun j cl' hj hj' => ?_⟩, ?_⟩⟩⟩
      · rw [hpv]
        have : firstNot r (l.map (·.1)) = y := by
          unfold firstNot
          have hfi : (l.map (·.1)).findIdx? (fun c => !followsR r (l.map (·.1)) c) = some y.toNat := by
            rw [List.findIdx?_eq_some_iff_getElem]
            have hyn : y.toNat < (l.map (·.1)).length := by rw [hlm]; omega
            refine ⟨hyn, ?_, fun j hj => ?_⟩
            · obtain ⟨hlt, hcl'⟩ := List.getElem?_eq_some_iff.1 hcl
              simp only [List.getElem_map, hcl']; exact hf
            · have hjl : j < l.length := by omega
              simp only [List.getElem_map]
              rw [hyes2 j _ (by omega) (getElem_of_lt hjl)]; simp
          rw [hfi]; simp only; omega
        rw [this]
      · by_cases hjx : (j : Int) < y
        · exact hyes2 j cl' hjx hj'
        · have : j = y.toNat := by omega
          subst this
          rw [hcl] at hj'
          obtain rfl := Option.some.inj hj'
          simpa using ht
      · show ((l.length : Int) - (y + 1)).toNat < ((l.length : Int) - y).toNat
        omega
    · rw [hpv]
      have : firstNot r (l.map (·.1)) = -1 := by
        unfold firstNot
        have hfi : (l.map (·.1)).findIdx? (fun c => !followsR r (l.map (·.1)) c) = none := by
          rw [List.findIdx?_eq_none_iff]
          intro cl hcl
          obtain ⟨z, hz, rfl⟩ := List.mem_map.1 hcl
          obtain ⟨j, hj, rfl⟩ := List.mem_iff_getElem.1 hz
          rw [hyes2 j _ (by omega) (getElem_of_lt hj)]; rfl
        rw [hfi]
      rw [this]
end Go.Proofs.R07
end
section
/- The conditions of the functions, printed by program; each is what the generator reckons (kernel_rfl). -/
namespace Go.Proofs
open Go.Vc
set_option maxRecDepth 100000 in
set_option maxHeartbeats 2000000 in
theorem vc19 (a0 : Int) (a1 : Int) (a2a : Option Addr) (a2n : Nat) (a2c : Nat) (b0 : Int) (b1 : Int) (b2a : Option Addr) (b2n : Nat) (b2c : Nat) (w : World) (R : Ending → World →
    Prop) (h : ∀ (m1 : Nat), w.heap.size ≤ m1 → ∀ (m2 : Nat), w.heap.size ≤ m2 → ∀ (w1 : World), RowKit.Below w.heap.size w w1 → Kept [m2, m1] w w1 → RunsTo Try.prog ((eqGuard
    BinOp.neq 23 (Operand.tmp 7) (Operand.tmp 9) (Value.agg #[Value.int IntKind.i64 a0, Value.int IntKind.i64 a1]) (Value.agg #[Value.int IntKind.i64 b0, Value.int IntKind.i64
    b1])) >>= fun _ => binOp BinOp.neq 23 (Value.agg #[Value.int IntKind.i64 a0, Value.int IntKind.i64 a1]) (Value.agg #[Value.int IntKind.i64 b0, Value.int IntKind.i64 b1])) w1
    fun (v1 : Value) (w2 : World) => ∃ (t1 : Bool), v1 = Value.bool t1 ∧ KeepX true w.heap.size [m2, m1] (fun _ => False) w1 w2 ∧ (t1 = true → ∀ (w3 : World), RowKit.Below
    w.heap.size w w3 → Kept [m2, m1] w2 w3 → R (Ending.returned (Value.bool false)) w3) ∧ (t1 = false → ((↑a2n : Int) ≠ (↑b2n : Int) → ∀ (w4 : World), RowKit.Below w.heap.size w w4
    → Kept [m2, m1] w2 w4 → R (Ending.returned (Value.bool false)) w4) ∧ ((↑a2n : Int) = (↑b2n : Int) → ∃ (F1 : List Lf → World → Prop), ∃ (F2 : List Lf → Nat), (∀ (w5 : World),
    RowKit.Below w.heap.size w w5 → Kept [m2, m1] w2 w5 → F1 [Lf.bool false, Lf.int IntKind.i64 0] w5) ∧ ∀ (t2 : Bool) (x1 : Int) (w6 : World), RowKit.Below w.heap.size w w6 → F1
    [Lf.bool t2, Lf.int IntKind.i64 x1] w6 → (x1 < (↑a2n : Int) → ∃ (m3 : Nat), ∃ (m4 : Nat), a2a = some { block := m3, off := m4 } ∧ (0 ≤ x1 ∧ x1 < (↑a2n : Int)) ∧ ∃ (t3 : Bool),
    w6.cell? { block := m3, off := m4 + x1.toNat * 1 } = some (Value.bool t3) ∧ (m3 < w.heap.size ∨ m3 ≠ m2 ∧ m3 ≠ m1) ∧ ∃ (m5 : Nat), ∃ (m6 : Nat), b2a = some
    { block := m5, off := m6 } ∧ (0 ≤ x1 ∧ x1 < (↑b2n : Int)) ∧ ∃ (t4 : Bool), w6.cell? { block := m5, off := m6 + x1.toNat * 1 } = some (Value.bool t4) ∧ (m5 < w.heap.size ∨ m5 ≠
    m2 ∧ m5 ≠ m1) ∧ ((!t3 == t4) = true → ∀ (w7 : World), RowKit.Below w.heap.size w w7 → Kept [m2, m1] w6 w7 → R (Ending.returned (Value.bool false)) w7) ∧ ((!t3 == t4) = false →
    (-9223372036854775808 ≤ x1 + 1 ∧ x1 + 1 ≤ 9223372036854775807) ∧ ∀ (w8 : World), RowKit.Below w.heap.size w w8 → Kept [m2, m1] w6 w8 → F1 [Lf.bool t2, Lf.int IntKind.i64 (x1 +
    1)] w8 ∧ F2 [Lf.bool t2, Lf.int IntKind.i64 (x1 + 1)] < F2 [Lf.bool t2, Lf.int IntKind.i64 x1])) ∧ ((↑a2n : Int) ≤ x1 → ∀ (w9 : World), RowKit.Below w.heap.size w w9 → Kept
    [m2, m1] w6 w9 → R (Ending.returned (Value.bool true)) w9)))) : Calls Try.prog 19 #[Value.agg #[Value.int IntKind.i64 a0, Value.int IntKind.i64 a1, Value.slice a2a a2n a2c],
    Value.agg #[Value.int IntKind.i64 b0, Value.int IntKind.i64 b1, Value.slice b2a b2n b2c]] w R := calls_of_vc (pure := true) (wrapAt := []) (muts := []) (esc := []) (args :=
    [SV.pv (PV.agg [Lf.int IntKind.i64 a0, Lf.int IntKind.i64 a1, Lf.sl a2a a2n a2c]), SV.pv (PV.agg [Lf.int IntKind.i64 b0, Lf.int IntKind.i64 b1, Lf.sl b2a b2n b2c])]) (vs :=
    [Value.agg #[Value.int IntKind.i64 a0, Value.int IntKind.i64 a1, Value.slice a2a a2n a2c], Value.agg #[Value.int IntKind.i64 b0, Value.int IntKind.i64 b1, Value.slice b2a b2n
    b2c]]) Try.func19 rfl rfl rfl (Eq.mp (by kernel_rfl) h) 
end Go.Proofs
end
section
/- The laws' own helpers; the reference's check. -/
namespace Go.Proofs.R07
open Go.Vc Go.RowKit Go.Proofs

def PlainA (a : Option Addr) : Prop := a = none ∨ ∃ b o, a = some ⟨b, o, none⟩

theorem spans_len (l : List Sp) : (spans l).length = l.length * 2 := by
  induction l with
  | nil => rfl
  | cons x l ih => simp only [spans, List.flatMap_cons, List.length_append, List.length_cons, List.length_nil] at ih ⊢; omega

/-- A slice that is new (or there is nothing in it): its block is none of those that were there. -/
def NewV (w : World) (vs : List Value) (a : Option Addr) : Prop := vs = [] ∨ ∀ b o, a = some ⟨b, o, none⟩ → w.heap.size ≤ b
theorem NewV.to {w w' : World} {vs : List Value} {a : Option Addr} (h : NewV w' vs a) (hs : w.heap.size ≤ w'.heap.size) : NewV w vs a := by
  rcases h with h | h
  · exact .inl h
  · exact .inr fun b o e => Nat.le_trans hs (h b o e)
/-- What a slice holds stays, if what changes was there before it was made, or is made after it. -/
theorem cells_pass {u w w' : World} {a : Option Addr} {vs : List Value} {bs : List Nat} (h : Cells w a vs) (hk : Kept bs w w') (hn : NewV u vs a) (hb : ∀ x ∈ bs, x < u.heap.size ∨ w.heap.size ≤ x) : Cells w' a vs := fun i v hi => by
  obtain ⟨b, o, e, hc⟩ := h i v hi
  refine ⟨b, o, e, Go.Vc.cell_kept hk (fun hm => ?_) hc⟩
  rcases hn with rfl | hn
  · simp at hi
  · have := hn b o e; have := hb b hm; have := cell_lt hc; omega

def RulesPost (r : Rules) (w : World) (e : Ending) (w' : World) : Prop := ∃ a c, e = .returned (r.v a c) ∧ Below w.heap.size w w' ∧ Cells w' a (spans r.ws) ∧ PlainA a ∧ NewV w (spans r.ws) a
def StPost (s : St) (w : World) (e : Ending) (w' : World) : Prop := ∃ a c, e = .returned (s.v a c) ∧ Below w.heap.size w w' ∧ Cells w' a (bools s.used) ∧ PlainA a ∧ NewV w (bools s.used) a

theorem cells_new {w w' : World} {a : Option Addr} {vs : List Value} {bs : List Nat} {n : Nat} (h : Cells w a vs) (hk : Kept bs w w') (hn : vs = [] ∨ ∀ b o, a = some ⟨b, o, none⟩ → n ≤ b) (hb : ∀ b ∈ bs, b < n) : Cells w' a vs := fun i v hi => by
  obtain ⟨b, o, e, hc⟩ := h i v hi
  refine ⟨b, o, e, Go.Vc.cell_kept hk (fun hm => ?_) hc⟩
  rcases hn with rfl | hn
  · simp at hi
  · have := hn b o e; have := hb b hm; omega

theorem copied_any (r : Rules) {a : Option Addr} {c : Nat} {w : World} (hc : Cells w a (spans r.ws)) (hn : r.ws.length ≤ 100000) : Calls Try.prog 13 #[r.v a c] w (RulesPost r w) := by
  refine vc13 _ _ _ _ _ _ _ _ w _ fun m1 h1 m2 h2 m3 h3 w1 hb1 hk1 hc1 => ?_
  refine append_copy (P := Try.prog) (e := 23) (size := 2) (bytes := 16) (by kernel_rfl) (by omega) (hc.keep hb1) (spans_len r.ws) (by omega) (by omega) (fun a' c' w2 hb2 hcells hnew hpl _ => ⟨a', _, c', rfl, .all hb2, fun w3 hb3 hk3 => ?_⟩)
  exact ⟨a', c', rfl, hb3, cells_new hcells hk3 hnew hk1.own, .inr hpl, NewV.to hnew hb1.size⟩
theorem state_any (s : St) {a : Option Addr} {c : Nat} {w : World} (hc : Cells w a (bools s.used)) (hn : s.used.length ≤ 100000) : Calls Try.prog 14 #[s.v a c] w (StPost s w) := by
  refine vc14 _ _ _ _ _ w _ fun m1 h1 m2 h2 m3 h3 w1 hb1 hk1 hc1 => ?_
  refine append_copy (P := Try.prog) (e := 4) (size := 1) (bytes := 1) (by kernel_rfl) (by omega) (hc.keep hb1) (by simp [bools]) (by omega) (by omega) (fun a' c' w2 hb2 hcells hnew hpl _ => ⟨a', _, c', rfl, .all hb2, fun w3 hb3 hk3 => ?_⟩)
  exact ⟨a', c', rfl, hb3, cells_new hcells hk3 hnew hk1.own, .inr hpl, NewV.to hnew hb1.size⟩

def longR (r : Rules) (s : St) : Bool := decide (10 < r.ws.length) || decide (10 < s.used.length)
theorem isSpan_iff (s : Sp) (a b : Int) : isSpan s a b = true ↔ a ≤ s.1 ∧ s.1 ≤ s.2 ∧ s.2 ≤ b := by
  simp [isSpan, within]; omega
instance : DecidableEq St := fun a b => by
  cases a; cases b; simp only [St.mk.injEq]; infer_instance

theorem same_any (x y : St) {a b : Option Addr} {c d : Nat} {w : World} (ha : Cells w a (bools x.used)) (hb : Cells w b (bools y.used)) (hn : (x.used.length : Int) ≤ 9223372036854775807) : Calls Try.prog 19 #[x.v a c, y.v b d] w (Pure w (.bool (decide (x = y)))) := by
  obtain ⟨x1, x2, xu⟩ := x
  obtain ⟨y1, y2, yu⟩ := y
  simp only at ha hb hn
  refine vc19 _ _ _ _ _ _ _ _ _ _ w _ fun m1 h1 m2 h2 w1 hb1 hk1 => ?_
  refine neq_span ⟨_, rfl, .all (.refl _ _), fun ht w3 hb3 _ => ⟨?_, hb3⟩, fun hf => ⟨fun hne w4 hb4 _ => ⟨?_, hb4⟩, fun heq => ?_⟩⟩
  · have : ¬ (x1 = y1 ∧ x2 = y2) := by simp at ht; omega
    simp only [St.mk.injEq]
    congr 2
    symm
    rw [decide_eq_false_iff_not]
    exact fun h => this ⟨h.1, h.2.1⟩
  · simp only [St.mk.injEq]
    congr 2
    symm
    rw [decide_eq_false_iff_not]
    exact fun h => hne (by rw [h.2.2])
  · have h12 : x1 = y1 ∧ x2 = y2 := by simpa using hf
    obtain ⟨rfl, rfl⟩ := h12
    have hlen : xu.length = yu.length := by simp only at heq; omega
    refine ⟨fun ls _ => match ls with | [_, .int _ i] => 0 ≤ i ∧ i ≤ xu.length ∧ ∀ j : Nat, (j : Int) < i → xu[j]? = yu[j]? | _ => False, fun ls => match ls with | [_, .int _ i] => ((xu.length : Int) - i).toNat | _ => 0, fun w5 hb5 _ => ⟨by omega, by omega, fun j hj => by omega⟩, ?_⟩
    rintro t i w6 hb6 ⟨hi0, hil, hij⟩
    refine ⟨fun hi => ?_, fun hi w9 hb9 _ => ⟨?_, hb9⟩⟩
    · have hix : i.toNat < xu.length := by simp only at hi; omega
      have hiy : i.toNat < yu.length := by omega
      obtain ⟨p, q, rfl, c1⟩ := ha i.toNat _ (bools_get (getElem_of_lt hix))
      obtain ⟨p', q', rfl, c2⟩ := hb i.toNat _ (bools_get (getElem_of_lt hiy))
      refine ⟨p, q, rfl, ⟨hi0, hi⟩, xu[i.toNat], cell_at (cell_keep hb6 c1) (by omega), .inl (cell_lt c1), p', q', rfl, ⟨hi0, by show i < (yu.length : Int); omega⟩, yu[i.toNat], cell_at (cell_keep hb6 c2) (by omega), .inl (cell_lt c2), fun hd w7 hb7 _ => ⟨?_, hb7⟩, fun hd => ⟨by omega, fun w8 hb8 _ => ⟨⟨by omega, by omega, fun j hj => ?_⟩, ?_⟩⟩⟩
      · simp only [St.mk.injEq, true_and]
        congr 2
        symm
        rw [decide_eq_false_iff_not]
        intro h
        subst h
        simp at hd
      · by_cases hji : (j : Int) < i
        · exact hij j hji
        · have : j = i.toNat := by omega
          subst this
          rw [getElem_of_lt hix, getElem_of_lt hiy]
          congr 1
          revert hd
          cases xu[i.toNat] <;> cases yu[i.toNat] <;> simp
      · show ((xu.length : Int) - (i + 1)).toNat < ((xu.length : Int) - i).toNat
        omega
    · simp only [St.mk.injEq, true_and]
      congr 2
      symm
      rw [decide_eq_true_iff]
      simp only at hi
      apply List.ext_getElem?
      intro j
      by_cases hj : j < xu.length
      · exact hij j (by omega)
      · rw [List.getElem?_eq_none (by omega), List.getElem?_eq_none (by omega)]

instance : DecidableEq Rules := fun a b => by
  cases a; cases b; simp only [Rules.mk.injEq]; infer_instance

end Go.Proofs.R07
end
section
/- The reference's image. -/
namespace Go.Proofs.R07
open Go.Vc Go.RowKit Go.Proofs

theorem has_setTo {l : List Bool} {i : Nat} : ∀ {n : Nat}, has (setTo l n) i = (decide (i < n) && (l[i]? == some true))
  | 0 => by simp [setTo, has]
  | n + 1 => by
    have ih := has_setTo (l := l) (i := i) (n := n)
    unfold has at ih ⊢
    simp only [setTo]
    split
    · rename_i h
      unfold put
      rw [Nat.testBit_or, ih, Nat.testBit_two_pow]
      by_cases hi : i = n
      · subst hi; simp [h]
      · have h1 : ¬ n = i := fun e => hi e.symm
        by_cases h2 : i < n
        · simp [h2, h1, show i < n + 1 by omega]
        · simp [h2, h1, show ¬ i < n + 1 by omega]
    · rename_i h
      rw [ih]
      by_cases hi : i = n
      · subst hi; simp at h ⊢; exact h
      · by_cases h2 : i < n
        · simp [h2, show i < n + 1 by omega]
        · simp [h2, show ¬ i < n + 1 by omega]
theorem has_setOf {l : List Bool} {i : Nat} (h : i < l.length) : has (setOf l) i = l[i] := by
  unfold setOf; rw [has_setTo]; simp [h]

def ImgPost (r : Rules) (s : St) (a : Int × Int) (w : World) (e : Ending) (w' : World) : Prop :=
  ∃ lo hi, e = .returned (.tuple #[.agg #[I lo, I hi], .bool (move r (s.lo, s.hi) (setOf s.used) a).isSome]) ∧ Below w.heap.size w w' ∧ (∀ p, move r (s.lo, s.hi) (setOf s.used) a = some p → p.1 = (lo, hi)) ∧ -1300 ≤ lo ∧ lo ≤ 1300 ∧ -1300 ≤ hi ∧ hi ≤ 1300

end Go.Proofs.R07
end
section
/- The reference's next state. -/
namespace Go.Proofs.R07
open Go.Vc Go.RowKit Go.Proofs

def nextR (r : Rules) (s : St) (y : Int) (img : Sp) (seen : Int) : St :=
  ⟨max img.1 (seen - r.err), min img.2 (seen + r.err), if 0 ≤ y then s.used.set y.toNat true else s.used⟩
def NextPost (st : St) (w : World) (e : Ending) (w' : World) : Prop := ∃ a c, e = .returned (.tuple #[st.v a c, .bool (decide (st.lo ≤ st.hi))]) ∧ Below w.heap.size w w' ∧ Cells w' a (bools st.used) ∧ PlainA a ∧ NewV w (bools st.used) a

end Go.Proofs.R07
end
section
/- The plain law: what the tables say is what the document asks. -/
namespace Go.Proofs.R07

/-- Some visits are enough, as the document says it. -/
def Enough (r : Rules) : Nat → Nat → Sp → Prop
  | 0, _, s => -r.limit ≤ s.1 ∧ s.2 ≤ r.limit
  | v + 1, u, s => (-r.limit ≤ s.1 ∧ s.2 ≤ r.limit) ∨ ∃ a ∈ acts r, ∃ img u', move r s u a = some (img, u') ∧ ∀ seen : Int, img.1 - r.err ≤ seen → seen ≤ img.2 + r.err →
      max img.1 (seen - r.err) ≤ min img.2 (seen + r.err) → Enough r v u' (max img.1 (seen - r.err), min img.2 (seen + r.err))

/-- What is enough for a span is so for a narrower one. -/
def Mono (st : Int → Int) : Prop := ∀ a a' b : Int, -300 ≤ a → a ≤ a' → a' ≤ b → b ≤ 300 → b ≤ st a → b ≤ st a'

theorem img_mono {e : Int} (he : 0 ≤ e) {st : Int → Int} (hm : Mono st) : ∀ (n : Nat) (a a' b : Int), (300 - a).toNat = n → -300 ≤ a → a ≤ a' → a' ≤ b → b ≤ 300 → b ≤ imgOf e st a → b ≤ imgOf e st a'
  | n, a, a', b, hn, h1, h2, h3, h4, h => by
    have top : b ≤ st a' → b ≤ a' + e ∨ ¬ a' + e ≤ st a' → b ≤ imgOf e st a' := fun hb hc => by
      by_cases hx : a' < 300
      · rw [imgOf_step hx]
        split
        · rcases hc with hc | hc
          · omega
          · contradiction
        · exact hb
      · obtain rfl : a' = 300 := by omega
        rw [imgOf_top]
        split
        · omega
        · exact hb
    by_cases hx : a < 300
    · rw [imgOf_step hx] at h
      split at h
      · rename_i hs
        rcases Int.le_total b (a + e) with hb | hb
        · exact top (hm a a' b h1 h2 h3 h4 (by omega)) (.inl (by omega))
        · by_cases haa : a' = a
          · subst haa; rw [imgOf_step hx, if_pos hs]; exact h
          · by_cases hbb : b ≤ imgOf e st (a + 1)
            · exact img_mono he hm (n - 1) (a + 1) a' b (by omega) (by omega) (by omega) h3 h4 hbb
            · have : b = a + e := by omega
              exact top (hm a a' b h1 h2 h3 h4 (by omega)) (.inl (by omega))
      · have hb := hm a a' b h1 h2 h3 h4 h
        exact top hb (.inl (by omega))
    · have : a' = a := by omega
      rw [this]; exact h
termination_by n => n
decreasing_by omega

/-- What an image can be after any sight. -/
theorem img_iff {e : Int} (he : 0 ≤ e) {st : Int → Int} (hm : Mono st) : ∀ (n : Nat) (a b : Int), (300 - a).toNat = n → -300 ≤ a → a ≤ b → b ≤ 300 → (b ≤ imgOf e st a ↔ ∀ s : Int, a ≤ s → s ≤ b → min b (s + e) ≤ st s)
  | n, a, b, hn, h1, h2, h3 => by
    by_cases hx : a < 300
    · rw [imgOf_step hx]
      by_cases hs : a + e ≤ st a
      · rw [if_pos hs]
        constructor
        · intro h s hs1 hs2
          by_cases hb : b ≤ a + e
          · exact Int.le_trans (Int.min_le_left _ _) (hm a s b h1 hs1 hs2 h3 (by omega))
          · by_cases hsa : s = a
            · subst hsa; omega
            · exact (img_iff he hm (n - 1) (a + 1) b (by omega) (by omega) (by omega) h3).1 (by omega) s (by omega) hs2
        · intro h
          by_cases hb : b ≤ a + e
          · omega
          · have := (img_iff he hm (n - 1) (a + 1) b (by omega) (by omega) (by omega) h3).2 fun s hs1 hs2 => h s (by omega) hs2
            omega
      · rw [if_neg hs]
        constructor
        · intro h s hs1 hs2
          exact Int.le_trans (Int.min_le_left _ _) (hm a s b h1 hs1 hs2 h3 h)
        · intro h
          have := h a (by omega) h2
          omega
    · obtain rfl : a = 300 := by omega
      obtain rfl : b = 300 := by omega
      rw [imgOf_top]
      constructor
      · intro h s hs1 hs2
        obtain rfl : s = 300 := by omega
        split at h <;> omega
      · intro h
        have := h 300 (by omega) (by omega)
        split <;> omega
termination_by n => n
decreasing_by all_goals omega

theorem fold_iff {r : Rules} {u : Nat} {im : Nat → Int → Int} {x b : Int} : ∀ {l : List (Int × Int)} {t : Int}, (b ≤ l.foldl (fun t a => addTo r u im a x t) t ↔ b ≤ t ∨ ∃ a ∈ l, ∃ p, shift r u a = some p ∧ (-300 ≤ x + p.1 ∧ x + p.1 ≤ 300) ∧ b ≤ min (im (if a.2 = -1 then u else put u a.2.toNat) (x + p.1) - p.2) 300)
  | [], t => by simp
  | a :: l, t => by
    rw [List.foldl_cons, fold_iff]
    have h1 : b ≤ addTo r u im a x t ↔ b ≤ t ∨ ∃ p, shift r u a = some p ∧ (-300 ≤ x + p.1 ∧ x + p.1 ≤ 300) ∧ b ≤ min (im (if a.2 = -1 then u else put u a.2.toNat) (x + p.1) - p.2) 300 := by
      unfold addTo
      cases hs : shift r u a with
      | none => simp
      | some p =>
        simp only [Option.some.injEq, exists_eq_left']
        split
        · rename_i hh
          constructor
          · intro h
            by_cases hb : b ≤ t
            · exact .inl hb
            · exact .inr ⟨hh, by omega⟩
          · rintro (h | ⟨_, h⟩) <;> omega
        · rename_i hh
          constructor
          · exact .inl
          · rintro (h | ⟨h, _⟩)
            · exact h
            · exact absurd h hh
    rw [h1]
    constructor
    · rintro ((h | ⟨p, h⟩) | ⟨a', ha, p, h⟩)
      · exact .inl h
      · exact .inr ⟨a, List.mem_cons_self, p, h⟩
      · exact .inr ⟨a', List.mem_cons_of_mem _ ha, p, h⟩
    · rintro (h | ⟨a', ha, p, h⟩)
      · exact .inl (.inl h)
      · rcases List.mem_cons.1 ha with rfl | ha
        · exact .inl (.inr ⟨p, h⟩)
        · exact .inr ⟨a', ha, p, h⟩

theorem goodTo_mono (r : Rules) : Mono (goodTo r) := fun a a' b h1 h2 h3 h4 h => by
  unfold goodTo at h ⊢
  split at h <;> split <;> omega

theorem state_mono {r : Rules} (hr : Good r) : ∀ (v u : Nat), Mono (stateV r v u)
  | 0, u => goodTo_mono r
  | v + 1, u => fun a a' b h1 h2 h3 h4 h => by
    rw [stateV_succ, fold_iff] at h ⊢
    have herr := hr.2.2.1
    rcases h with h | ⟨act, ha, p, hp, hin, h⟩
    · exact .inl (goodTo_mono r a a' b h1 h2 h3 h4 h)
    · right
      have hbd := shift_bound hr hp
      have him := imageV_bound hr (v := v) (u := if act.2 = -1 then u else put u act.2.toNat) hin.1 hin.2
      refine ⟨act, ha, p, hp, ⟨by omega, by omega⟩, ?_⟩
      have := img_mono (e := 2 * r.err) (by omega) (state_mono hr v (if act.2 = -1 then u else put u act.2.toNat)) _ (a + p.1) (a' + p.1) (b + p.2) rfl hin.1 (by omega) (by omega) (by omega) (show b + p.2 ≤ imageV r v _ (a + p.1) by omega)
      unfold imageV
      omega

theorem enough_iff {r : Rules} (hr : Good r) : ∀ (v u : Nat) (s : Sp), okSp s → (Enough r v u s ↔ s.2 ≤ stateV r v u s.1)
  | 0, u, (a, b), hs => by
    obtain ⟨h1, h2, h3⟩ := hs
    simp only at h1 h2 h3
    simp only [Enough, stateV]
    unfold goodTo
    split <;> constructor <;> intro h <;> omega
  | v + 1, u, (a, b), hs => by
    obtain ⟨h1, h2, h3⟩ := hs
    simp only at h1 h2 h3
    have herr := hr.2.2.1
    rw [stateV_succ, fold_iff]
    simp only [Enough]
    have hg : (-r.limit ≤ a ∧ b ≤ r.limit) ↔ b ≤ goodTo r a := by
      unfold goodTo
      split <;> constructor <;> intro h <;> omega
    rw [hg]
    have key : ∀ act, (∃ img u', move r (a, b) u act = some (img, u') ∧ ∀ seen : Int, img.1 - r.err ≤ seen → seen ≤ img.2 + r.err → max img.1 (seen - r.err) ≤ min img.2 (seen + r.err) → Enough r v u' (max img.1 (seen - r.err), min img.2 (seen + r.err))) ↔
        ∃ p, shift r u act = some p ∧ (-300 ≤ a + p.1 ∧ a + p.1 ≤ 300) ∧ b ≤ min (imageV r v (if act.2 = -1 then u else put u act.2.toNat) (a + p.1) - p.2) 300 := by
      intro act
      unfold move
      cases hsh : shift r u act with
      | none => simp
      | some p =>
        have hbd := shift_bound hr hsh
        simp only [Option.some.injEq, exists_eq_left']
        generalize (if act.2 = -1 then u else put u act.2.toNat) = u'
        have hsp := isSpan_iff (a + p.1, b + p.2) (-300) 300
        simp only at hsp
        have hmono := state_mono hr v u'
        by_cases hok : isSpan (a + p.1, b + p.2) (-300) 300 = true
        · obtain ⟨k1, k2, k3⟩ := hsp.1 hok
          rw [if_pos hok]
          simp only [Option.some.injEq, Prod.mk.injEq]
          have hi := img_iff (e := 2 * r.err) (by omega) hmono _ (a + p.1) (b + p.2) rfl k1 k2 k3
          constructor
          · rintro ⟨img, u2, ⟨rfl, rfl⟩, h⟩
            refine ⟨⟨k1, by omega⟩, ?_⟩
            have : b + p.2 ≤ imageV r v u' (a + p.1) := hi.2 fun s hs1 hs2 => by
              have he := h (s + r.err) (by simp only; omega) (by simp only; omega) (by simp only; omega)
              simp only at he
              rw [show max (a + p.1) (s + r.err - r.err) = s by omega, show min (b + p.2) (s + r.err + r.err) = min (b + p.2) (s + 2 * r.err) by omega] at he
              exact (enough_iff hr v u' _ ⟨by simp only; omega, by simp only; omega, by simp only; omega⟩).1 he
            omega
          · rintro ⟨_, hb⟩
            refine ⟨_, _, ⟨rfl, rfl⟩, fun seen q1 q2 q3 => ?_⟩
            simp only at q1 q2 q3 ⊢
            have hb' := hi.1 (show b + p.2 ≤ imageV r v u' (a + p.1) by omega)
            refine (enough_iff hr v u' _ ⟨by simp only; omega, q3, by simp only; omega⟩).2 ?_
            simp only
            have := hb' (max (a + p.1) (seen - r.err)) (by omega) (by omega)
            omega
        · rw [if_neg hok]
          constructor
          · rintro ⟨_, _, h, _⟩; cases h
          · rintro ⟨hin, hb⟩
            exfalso
            apply hok
            have him := imageV_bound hr (v := v) (u := u') hin.1 hin.2
            exact hsp.2 ⟨hin.1, by omega, by omega⟩
    simp only [key]
end Go.Proofs.R07
end
section
/- The document's answer, as a program of lists. -/
namespace Go.Proofs.R07

theorem image_enough {r : Rules} (hr : Good r) (v u : Nat) {img : Sp} (hi : okSp img) : img.2 ≤ imageV r v u img.1 ↔ ∀ seen : Int, img.1 - r.err ≤ seen → seen ≤ img.2 + r.err → max img.1 (seen - r.err) ≤ min img.2 (seen + r.err) → Enough r v u (max img.1 (seen - r.err), min img.2 (seen + r.err)) := by
  obtain ⟨a, b⟩ := img
  obtain ⟨k1, k2, k3⟩ := hi
  simp only at k1 k2 k3
  have herr := hr.2.2.1
  have hi := img_iff (e := 2 * r.err) (by omega) (state_mono hr v u) _ a b rfl k1 k2 k3
  constructor
  · intro hb seen q1 q2 q3
    simp only at q1 q2 q3 hb ⊢
    have hb' := hi.1 hb
    refine (enough_iff hr v u _ ⟨by simp only; omega, q3, by simp only; omega⟩).2 ?_
    simp only
    have := hb' (max a (seen - r.err)) (by omega) (by omega)
    omega
  · intro h
    refine hi.2 fun s hs1 hs2 => ?_
    have he := h (s + r.err) (by simp only; omega) (by simp only; omega) (by simp only; omega)
    simp only at he
    rw [show max a (s + r.err - r.err) = s by omega, show min b (s + r.err + r.err) = min b (s + 2 * r.err) by omega] at he
    exact (enough_iff hr v u _ ⟨by simp only; omega, by simp only; omega, by simp only; omega⟩).1 he

def nextSp (r : Rules) (img : Sp) (seen : Int) : Sp := (max img.1 (seen - r.err), min img.2 (seen + r.err))
def seenAll (r : Rules) (img : Sp) (f : Sp → Bool) : Bool := (List.range (img.2 - img.1 + 2 * r.err + 1).toNat).all fun i => !decide ((nextSp r img (img.1 - r.err + i)).1 ≤ (nextSp r img (img.1 - r.err + i)).2) || f (nextSp r img (img.1 - r.err + i))
theorem seenAll_iff {r : Rules} {img : Sp} {f : Sp → Bool} : seenAll r img f = true ↔ ∀ seen : Int, img.1 - r.err ≤ seen → seen ≤ img.2 + r.err → max img.1 (seen - r.err) ≤ min img.2 (seen + r.err) → f (max img.1 (seen - r.err), min img.2 (seen + r.err)) = true := by
  unfold seenAll nextSp
  rw [List.all_eq_true]
  constructor
  · intro h seen q1 q2 q3
    have := h (seen - (img.1 - r.err)).toNat (by simp; omega)
    rw [show img.1 - r.err + ((seen - (img.1 - r.err)).toNat : Int) = seen by omega] at this
    simp only [q3, decide_true, Bool.not_true, Bool.false_or] at this
    exact this
  · intro h i hi
    simp at hi
    by_cases hc : max img.1 (img.1 - r.err + i - r.err) ≤ min img.2 (img.1 - r.err + i + r.err)
    · rw [h _ (by omega) (by omega) hc, Bool.or_true]
    · simp only [hc, decide_false, Bool.not_false, Bool.true_or]

def enoughB (r : Rules) : Nat → Nat → Sp → Bool
  | 0, _, s => decide (-r.limit ≤ s.1) && decide (s.2 ≤ r.limit)
  | v + 1, u, s => (decide (-r.limit ≤ s.1) && decide (s.2 ≤ r.limit)) || (acts r).any fun a => match move r s u a with
    | none => false
    | some (img, u') => seenAll r img (enoughB r v u')
def doesB (r : Rules) (v u : Nat) (s : Sp) (a : Int × Int) : Bool :=
  match move r s u a with
  | none => false
  | some (img, u') => seenAll r img (enoughB r v u')

theorem enoughB_iff {r : Rules} : ∀ {v u : Nat} {s : Sp}, enoughB r v u s = true ↔ Enough r v u s
  | 0, u, s => by simp [enoughB, Enough]
  | v + 1, u, s => by
    simp only [enoughB, Enough, Bool.or_eq_true, Bool.and_eq_true, decide_eq_true_eq, List.any_eq_true]
    refine or_congr Iff.rfl (exists_congr fun a => and_congr Iff.rfl ?_)
    cases hm : move r s u a with
    | none => simp
    | some q =>
      obtain ⟨img, u'⟩ := q
      simp only [Option.some.injEq, Prod.mk.injEq]
      rw [seenAll_iff]
      constructor
      · intro h
        exact ⟨img, u', ⟨rfl, rfl⟩, fun seen q1 q2 q3 => enoughB_iff.1 (h seen q1 q2 q3)⟩
      · rintro ⟨_, _, ⟨rfl, rfl⟩, h⟩ seen q1 q2 q3
        exact enoughB_iff.2 (h seen q1 q2 q3)

theorem okAct_eq {r : Rules} (hr : Good r) {v u : Nat} (hu : u < 8) {s : Sp} {a : Int × Int} : okAct r v u s a = doesB r v u s a := by
  unfold okAct doesB
  cases hm : move r s u a with
  | none => rfl
  | some q =>
    obtain ⟨img, u'⟩ := q
    simp only
    rw [Bool.eq_iff_iff, decide_eq_true_iff, image_enough hr v u' (move_facts hr hu hm).2, seenAll_iff]
    exact forall_congr' fun seen => imp_congr Iff.rfl (imp_congr Iff.rfl (imp_congr Iff.rfl enoughB_iff.symm))

theorem few_eq {r : Rules} (hr : Good r) {u : Nat} {s : Sp} (hs : okSp s) : few r u s = (List.range 7).find? fun n => enoughB r n u s := by
  unfold few
  congr 1
  funext n
  rw [Bool.eq_iff_iff, decide_eq_true_iff, enoughB_iff, enough_iff hr n u s hs]
theorem firstAct_eq {r : Rules} (hr : Good r) {v u : Nat} (hu : u < 8) {s : Sp} : firstAct r v u s = (acts r).find? (doesB r v u s) := by
  unfold firstAct
  congr 1
  funext a
  exact okAct_eq hr hu

/- What the document's examples say. -/
def oneR : Rules := ⟨5, 1, 8, 10, 3, [(4, 6)]⟩
theorem one_good : Good oneR := by unfold Good OkR oneR; decide
theorem ex_few : (List.range 7).find? (fun n => enoughB oneR n 0 (8, 18)) = some 2 := by decide +kernel
theorem ex_act : (acts oneR).find? (doesB oneR 1 0 (8, 18)) = some (-2, -1) := by decide +kernel
end Go.Proofs.R07
end
section
/- The example that no visits are enough for. -/
namespace Go.Proofs.R07

theorem one_acts : acts oneR = [(-3, -1), (-2, -1), (-1, -1), (0, -1), (1, -1), (2, -1), (3, -1), (0, 0)] := by decide +kernel

theorem none_step {v : Nat} (ih : ∀ j : Int, -30 ≤ j → j ≤ 29 → ¬ Enough oneR v 1 (4 + 10 * j, 6 + 10 * j)) (j : Int) (h1 : -30 ≤ j) (h2 : j ≤ 29) : ¬ Enough oneR (v + 1) 1 (4 + 10 * j, 6 + 10 * j) := by
  intro h
  simp only [Enough] at h
  rcases h with h | ⟨a, ha, img, u', hm, hs⟩
  · have e1 : oneR.limit = 5 := rfl
    rw [e1] at h
    omega
  · have turn : ∀ k : Int, -3 ≤ k → k ≤ 3 → a = (k, -1) → False := fun k k1 k2 hk => by
      subst hk
      unfold move at hm
      have hsh : shift oneR 1 (k, -1) = some (min (k * 8) (k * 10), max (k * 8) (k * 10)) := by
        unfold shift
        rw [if_pos rfl, if_pos (by show -3 ≤ k ∧ k ≤ 3; omega)]
        rfl
      rw [hsh] at hm
      simp only at hm
      split at hm
      · rename_i hok
        have hb := (isSpan_iff _ _ _).1 hok
        simp only at hb
        simp only [if_true, Option.some.injEq, Prod.mk.injEq] at hm
        obtain ⟨rfl, rfl⟩ := hm
        have herr : oneR.err = 1 := rfl
        simp only [herr] at hs
        have := hs (5 + 10 * (j + k)) (by omega) (by omega) (by omega)
        rw [show max (4 + 10 * j + min (k * 8) (k * 10)) (5 + 10 * (j + k) - 1) = 4 + 10 * (j + k) by omega, show min (6 + 10 * j + max (k * 8) (k * 10)) (5 + 10 * (j + k) + 1) = 6 + 10 * (j + k) by omega] at this
        exact ih (j + k) (by omega) (by omega) this
      · cases hm
    rw [one_acts] at ha
    simp only [List.mem_cons, List.not_mem_nil, or_false] at ha
    rcases ha with rfl | rfl | rfl | rfl | rfl | rfl | rfl | rfl
    · exact turn _ (by omega) (by omega) rfl
    · exact turn _ (by omega) (by omega) rfl
    · exact turn _ (by omega) (by omega) rfl
    · exact turn _ (by omega) (by omega) rfl
    · exact turn _ (by omega) (by omega) rfl
    · exact turn _ (by omega) (by omega) rfl
    · exact turn _ (by omega) (by omega) rfl
    · unfold move at hm
      have : shift oneR 1 (0, 0) = none := by decide +kernel
      rw [this] at hm
      cases hm

theorem none_all : ∀ (v : Nat) (j : Int), -30 ≤ j → j ≤ 29 → ¬ Enough oneR v 1 (4 + 10 * j, 6 + 10 * j)
  | 0, j, h1, h2 => by
    intro h
    simp only [Enough] at h
    have e1 : oneR.limit = 5 := rfl
    rw [e1] at h
    omega
  | v + 1, j, h1, h2 => none_step (none_all v) j h1 h2

theorem ex_few1 : few oneR 1 (8, 18) = none := by
  refine few_none fun k _ => ?_
  refine Int.not_le.1 fun h => ?_
  have hm := state_mono one_good k 1 8 14 18 (by omega) (by omega) (by omega) (by omega) h
  have := (enough_iff one_good k 1 (14, 16) ⟨by decide, by decide, by decide⟩).2 (show (16 : Int) ≤ stateV oneR k 1 14 by omega)
  exact none_all k 1 (by omega) (by omega) this
theorem ex_few0 : few oneR 0 (8, 18) = some 2 := by
  rw [few_eq one_good (show okSp (8, 18) from ⟨by decide, by decide, by decide⟩)]; exact ex_few
end Go.Proofs.R07
end
section
/- The conditions of the functions, printed by program; each is what the generator reckons (kernel_rfl). -/
namespace Go.Proofs
open Go.Vc
set_option maxRecDepth 100000 in
set_option maxHeartbeats 2000000 in
theorem vc38  (w : World) (R : Ending → World → Prop) (h : ∀ (m1 : Nat), w.heap.size ≤ m1 → ∀ (m2 : Nat), w.heap.size ≤ m2 → ∀ (w1 : World), RowKit.Below w.heap.size w w1 → Kept
    [m2, m1] w w1 → w1.heap[m2]? = some (Obj.cells #[Value.int IntKind.i64 4, Value.int IntKind.i64 6] 23) → R (Ending.returned (Value.agg #[Value.int IntKind.i64 5, Value.int
    IntKind.i64 1, Value.int IntKind.i64 8, Value.int IntKind.i64 10, Value.int IntKind.i64 3, Value.slice (some { block := m2, off := 0 }) 1 1])) w1) : Calls Try.prog 38 #[] w R
    := calls_of_vc (pure := true) (wrapAt := []) (muts := []) (esc := []) (args := []) (vs := []) Try.func38 rfl rfl rfl (Eq.mp (by kernel_rfl) h) 
set_option maxRecDepth 100000 in
set_option maxHeartbeats 2000000 in
theorem vc39 (low : Int) (high : Int) (used : Bool) (w : World) (R : Ending → World → Prop) (h : ∀ (m1 : Nat), w.heap.size ≤ m1 → ∀ (m2 : Nat), w.heap.size ≤ m2 → ∀ (w1 : World),
    RowKit.Below w.heap.size w w1 → Kept [m2, m1] w w1 → w1.heap[m2]? = some (Obj.cells #[Value.bool used] 4) → R (Ending.returned (Value.agg #[Value.int IntKind.i64 low, Value.int
    IntKind.i64 high, Value.slice (some { block := m2, off := 0 }) 1 1])) w1) : Calls Try.prog 39 #[Value.int IntKind.i64 low, Value.int IntKind.i64 high, Value.bool used] w R :=
    calls_of_vc (pure := true) (wrapAt := []) (muts := []) (esc := []) (args := [SV.pv (PV.one (Lf.int IntKind.i64 low)), SV.pv (PV.one (Lf.int IntKind.i64 high)), SV.pv (PV.one
    (Lf.bool used))]) (vs := [Value.int IntKind.i64 low, Value.int IntKind.i64 high, Value.bool used]) Try.func39 rfl rfl rfl (Eq.mp (by kernel_rfl) h) 
set_option maxRecDepth 100000 in
set_option maxHeartbeats 2000000 in
theorem vc40 (low : Int) (high : Int) (visits : Int) (turns : Int) (w : World) (R : Ending → World → Prop) (h : ∀ (m1 : Nat), w.heap.size ≤ m1 → ∀ (w1 : World), RowKit.Below
    w.heap.size w w1 → Kept [m1] w w1 → Calls Try.prog 39 #[Value.int IntKind.i64 low, Value.int IntKind.i64 high, Value.bool false] w1 fun (e1 : Ending) (w2 : World) => ∃ (x1 :
    Int), ∃ (x2 : Int), ∃ (a1 : Option Addr), ∃ (m2 : Nat), ∃ (m3 : Nat), e1 = Ending.returned (Value.agg #[Value.int IntKind.i64 x1, Value.int IntKind.i64 x2, Value.slice a1 m2
    m3]) ∧ KeepX true w.heap.size [m1] (fun _ => False) w1 w2 ∧ ∀ (w3 : World), RowKit.Below w.heap.size w w3 → Kept [m1] w2 w3 → R (Ending.returned (Value.agg #[Value.int
    IntKind.i64 x1, Value.int IntKind.i64 x2, Value.slice a1 m2 m3, Value.int IntKind.i64 visits, Value.int IntKind.i64 turns, Value.int IntKind.i64 (-1)])) w3) : Calls Try.prog 40
    #[Value.int IntKind.i64 low, Value.int IntKind.i64 high, Value.int IntKind.i64 visits, Value.int IntKind.i64 turns] w R := calls_of_vc (pure := true) (wrapAt := []) (muts :=
    []) (esc := []) (args := [SV.pv (PV.one (Lf.int IntKind.i64 low)), SV.pv (PV.one (Lf.int IntKind.i64 high)), SV.pv (PV.one (Lf.int IntKind.i64 visits)), SV.pv (PV.one (Lf.int
    IntKind.i64 turns))]) (vs := [Value.int IntKind.i64 low, Value.int IntKind.i64 high, Value.int IntKind.i64 visits, Value.int IntKind.i64 turns]) Try.func40 rfl rfl rfl (Eq.mp
    (by kernel_rfl) h) 
end Go.Proofs
end
section
/- The conditions of the functions, printed by program; each is what the generator reckons (kernel_rfl). -/
namespace Go.Proofs
open Go.Vc
set_option maxRecDepth 100000 in
set_option maxHeartbeats 2000000 in
theorem vc12  (w : World) (R : Ending → World → Prop) (h : ∀ (w1 : World), RowKit.Below w.heap.size w w1 → Kept [] w w1 → Calls Try.prog 38 #[] w1 fun (e1 : Ending) (w2 : World) =>
    ∃ (x1 : Int), ∃ (x2 : Int), ∃ (x3 : Int), ∃ (x4 : Int), ∃ (x5 : Int), ∃ (a1 : Option Addr), ∃ (m1 : Nat), ∃ (m2 : Nat), e1 = Ending.returned (Value.agg #[Value.int IntKind.i64
    x1, Value.int IntKind.i64 x2, Value.int IntKind.i64 x3, Value.int IntKind.i64 x4, Value.int IntKind.i64 x5, Value.slice a1 m1 m2]) ∧ KeepX true w.heap.size [] (fun _ => False)
    w1 w2 ∧ ∀ (w3 : World), RowKit.Below w.heap.size w w3 → Kept [] w2 w3 → Calls Try.prog 39 #[Value.int IntKind.i64 8, Value.int IntKind.i64 18, Value.bool false] w3 fun (e2 :
    Ending) (w4 : World) => ∃ (x6 : Int), ∃ (x7 : Int), ∃ (a2 : Option Addr), ∃ (m3 : Nat), ∃ (m4 : Nat), e2 = Ending.returned (Value.agg #[Value.int IntKind.i64 x6, Value.int
    IntKind.i64 x7, Value.slice a2 m3 m4]) ∧ KeepX true w.heap.size [] (fun _ => False) w3 w4 ∧ ∀ (w5 : World), RowKit.Below w.heap.size w w5 → Kept [] w4 w5 → Calls Try.prog 24
    #[Value.agg #[Value.int IntKind.i64 x1, Value.int IntKind.i64 x2, Value.int IntKind.i64 x3, Value.int IntKind.i64 x4, Value.int IntKind.i64 x5, Value.slice a1 m1 m2], Value.agg
    #[Value.int IntKind.i64 x6, Value.int IntKind.i64 x7, Value.slice a2 m3 m4]] w5 fun (e3 : Ending) (w6 : World) => ∃ (x8 : Int), ∃ (x9 : Int), e3 = Ending.returned (Value.tuple
    #[Value.int IntKind.i64 x8, Value.int IntKind.i64 x9]) ∧ KeepX true w.heap.size [] (fun _ => False) w5 w6 ∧ ∀ (w7 : World), RowKit.Below w.heap.size w w7 → Kept [] w6 w7 →
    Calls Try.prog 38 #[] w7 fun (e4 : Ending) (w8 : World) => ∃ (x10 : Int), ∃ (x11 : Int), ∃ (x12 : Int), ∃ (x13 : Int), ∃ (x14 : Int), ∃ (a3 : Option Addr), ∃ (m5 : Nat), ∃ (m6
    : Nat), e4 = Ending.returned (Value.agg #[Value.int IntKind.i64 x10, Value.int IntKind.i64 x11, Value.int IntKind.i64 x12, Value.int IntKind.i64 x13, Value.int IntKind.i64 x14,
    Value.slice a3 m5 m6]) ∧ KeepX true w.heap.size [] (fun _ => False) w7 w8 ∧ ∀ (w9 : World), RowKit.Below w.heap.size w w9 → Kept [] w8 w9 → Calls Try.prog 39 #[Value.int
    IntKind.i64 8, Value.int IntKind.i64 18, Value.bool false] w9 fun (e5 : Ending) (w10 : World) => ∃ (x15 : Int), ∃ (x16 : Int), ∃ (a4 : Option Addr), ∃ (m7 : Nat), ∃ (m8 : Nat),
    e5 = Ending.returned (Value.agg #[Value.int IntKind.i64 x15, Value.int IntKind.i64 x16, Value.slice a4 m7 m8]) ∧ KeepX true w.heap.size [] (fun _ => False) w9 w10 ∧ ∀ (w11 :
    World), RowKit.Below w.heap.size w w11 → Kept [] w10 w11 → Calls Try.prog 25 #[Value.agg #[Value.int IntKind.i64 x10, Value.int IntKind.i64 x11, Value.int IntKind.i64 x12,
    Value.int IntKind.i64 x13, Value.int IntKind.i64 x14, Value.slice a3 m5 m6], Value.agg #[Value.int IntKind.i64 x15, Value.int IntKind.i64 x16, Value.slice a4 m7 m8]] w11 fun
    (e6 : Ending) (w12 : World) => ∃ (x17 : Int), ∃ (x18 : Int), ∃ (x19 : Int), e6 = Ending.returned (Value.tuple #[Value.agg #[Value.int IntKind.i64 x17, Value.int IntKind.i64
    x18], Value.int IntKind.i64 x19]) ∧ KeepX true w.heap.size [] (fun _ => False) w11 w12 ∧ ∀ (m9 : Nat), w12.heap.size ≤ m9 → ∀ (w13 : World), RowKit.Below w.heap.size w w13 →
    Kept [m9] w12 w13 → Calls Try.prog 38 #[] w13 fun (e7 : Ending) (w14 : World) => ∃ (x20 : Int), ∃ (x21 : Int), ∃ (x22 : Int), ∃ (x23 : Int), ∃ (x24 : Int), ∃ (a5 : Option
    Addr), ∃ (m10 : Nat), ∃ (m11 : Nat), e7 = Ending.returned (Value.agg #[Value.int IntKind.i64 x20, Value.int IntKind.i64 x21, Value.int IntKind.i64 x22, Value.int IntKind.i64
    x23, Value.int IntKind.i64 x24, Value.slice a5 m10 m11]) ∧ KeepX true w.heap.size [m9] (fun _ => False) w13 w14 ∧ ∀ (w15 : World), RowKit.Below w.heap.size w w15 → Kept [m9]
    w14 w15 → Calls Try.prog 39 #[Value.int IntKind.i64 (-6), Value.int IntKind.i64 (-4), Value.bool false] w15 fun (e8 : Ending) (w16 : World) => ∃ (x25 : Int), ∃ (x26 : Int), ∃
    (a6 : Option Addr), ∃ (m12 : Nat), ∃ (m13 : Nat), e8 = Ending.returned (Value.agg #[Value.int IntKind.i64 x25, Value.int IntKind.i64 x26, Value.slice a6 m12 m13]) ∧ KeepX true
    w.heap.size [m9] (fun _ => False) w15 w16 ∧ ∀ (w17 : World), RowKit.Below w.heap.size w w17 → Kept [m9] w16 w17 → Calls Try.prog 25 #[Value.agg #[Value.int IntKind.i64 x20,
    Value.int IntKind.i64 x21, Value.int IntKind.i64 x22, Value.int IntKind.i64 x23, Value.int IntKind.i64 x24, Value.slice a5 m10 m11], Value.agg #[Value.int IntKind.i64 x25,
    Value.int IntKind.i64 x26, Value.slice a6 m12 m13]] w17 fun (e9 : Ending) (w18 : World) => ∃ (x27 : Int), ∃ (x28 : Int), ∃ (x29 : Int), e9 = Ending.returned (Value.tuple
    #[Value.agg #[Value.int IntKind.i64 x27, Value.int IntKind.i64 x28], Value.int IntKind.i64 x29]) ∧ KeepX true w.heap.size [m9] (fun _ => False) w17 w18 ∧ ∀ (m14 : Nat),
    w18.heap.size ≤ m14 → ∀ (w19 : World), RowKit.Below w.heap.size w w19 → Kept [m14, m9] w18 w19 → Calls Try.prog 38 #[] w19 fun (e10 : Ending) (w20 : World) => ∃ (x30 : Int), ∃
    (x31 : Int), ∃ (x32 : Int), ∃ (x33 : Int), ∃ (x34 : Int), ∃ (a7 : Option Addr), ∃ (m15 : Nat), ∃ (m16 : Nat), e10 = Ending.returned (Value.agg #[Value.int IntKind.i64 x30,
    Value.int IntKind.i64 x31, Value.int IntKind.i64 x32, Value.int IntKind.i64 x33, Value.int IntKind.i64 x34, Value.slice a7 m15 m16]) ∧ KeepX true w.heap.size [m14, m9] (fun _
    => False) w19 w20 ∧ ∀ (w21 : World), RowKit.Below w.heap.size w w21 → Kept [m14, m9] w20 w21 → Calls Try.prog 39 #[Value.int IntKind.i64 8, Value.int IntKind.i64 18, Value.bool
    true] w21 fun (e11 : Ending) (w22 : World) => ∃ (x35 : Int), ∃ (x36 : Int), ∃ (a8 : Option Addr), ∃ (m17 : Nat), ∃ (m18 : Nat), e11 = Ending.returned (Value.agg #[Value.int
    IntKind.i64 x35, Value.int IntKind.i64 x36, Value.slice a8 m17 m18]) ∧ KeepX true w.heap.size [m14, m9] (fun _ => False) w21 w22 ∧ ∀ (w23 : World), RowKit.Below w.heap.size w
    w23 → Kept [m14, m9] w22 w23 → Calls Try.prog 24 #[Value.agg #[Value.int IntKind.i64 x30, Value.int IntKind.i64 x31, Value.int IntKind.i64 x32, Value.int IntKind.i64 x33,
    Value.int IntKind.i64 x34, Value.slice a7 m15 m16], Value.agg #[Value.int IntKind.i64 x35, Value.int IntKind.i64 x36, Value.slice a8 m17 m18]] w23 fun (e12 : Ending) (w24 :
    World) => ∃ (x37 : Int), ∃ (x38 : Int), e12 = Ending.returned (Value.tuple #[Value.int IntKind.i64 x37, Value.int IntKind.i64 x38]) ∧ KeepX true w.heap.size [m14, m9] (fun _ =>
    False) w23 w24 ∧ ∀ (w25 : World), RowKit.Below w.heap.size w w25 → Kept [m14, m9] w24 w25 → Calls Try.prog 38 #[] w25 fun (e13 : Ending) (w26 : World) => ∃ (x39 : Int), ∃ (x40
    : Int), ∃ (x41 : Int), ∃ (x42 : Int), ∃ (x43 : Int), ∃ (a9 : Option Addr), ∃ (m19 : Nat), ∃ (m20 : Nat), e13 = Ending.returned (Value.agg #[Value.int IntKind.i64 x39, Value.int
    IntKind.i64 x40, Value.int IntKind.i64 x41, Value.int IntKind.i64 x42, Value.int IntKind.i64 x43, Value.slice a9 m19 m20]) ∧ KeepX true w.heap.size [m14, m9] (fun _ => False)
    w25 w26 ∧ ∀ (w27 : World), RowKit.Below w.heap.size w w27 → Kept [m14, m9] w26 w27 → Calls Try.prog 39 #[Value.int IntKind.i64 8, Value.int IntKind.i64 18, Value.bool false]
    w27 fun (e14 : Ending) (w28 : World) => ∃ (x44 : Int), ∃ (x45 : Int), ∃ (a10 : Option Addr), ∃ (m21 : Nat), ∃ (m22 : Nat), e14 = Ending.returned (Value.agg #[Value.int
    IntKind.i64 x44, Value.int IntKind.i64 x45, Value.slice a10 m21 m22]) ∧ KeepX true w.heap.size [m14, m9] (fun _ => False) w27 w28 ∧ ∀ (w29 : World), RowKit.Below w.heap.size w
    w29 → Kept [m14, m9] w28 w29 → Calls Try.prog 16 #[Value.agg #[Value.int IntKind.i64 x39, Value.int IntKind.i64 x40, Value.int IntKind.i64 x41, Value.int IntKind.i64 x42,
    Value.int IntKind.i64 x43, Value.slice a9 m19 m20], Value.agg #[Value.int IntKind.i64 x44, Value.int IntKind.i64 x45, Value.slice a10 m21 m22], Value.agg #[Value.int
    IntKind.i64 (-2), Value.int IntKind.i64 (-1)], Value.int IntKind.i64 3] w29 fun (e15 : Ending) (w30 : World) => ∃ (x46 : Int), ∃ (x47 : Int), ∃ (a11 : Option Addr), ∃ (m23 :
    Nat), ∃ (m24 : Nat), ∃ (x48 : Int), e15 = Ending.returned (Value.tuple #[Value.agg #[Value.int IntKind.i64 x46, Value.int IntKind.i64 x47, Value.slice a11 m23 m24], Value.int
    IntKind.i64 x48]) ∧ KeepX true w.heap.size [m14, m9] (fun _ => False) w29 w30 ∧ ∀ (m25 : Nat), w30.heap.size ≤ m25 → ∀ (w31 : World), RowKit.Below w.heap.size w w31 → Kept
    [m25, m14, m9] w30 w31 → Calls Try.prog 38 #[] w31 fun (e16 : Ending) (w32 : World) => ∃ (x49 : Int), ∃ (x50 : Int), ∃ (x51 : Int), ∃ (x52 : Int), ∃ (x53 : Int), ∃ (a12 :
    Option Addr), ∃ (m26 : Nat), ∃ (m27 : Nat), e16 = Ending.returned (Value.agg #[Value.int IntKind.i64 x49, Value.int IntKind.i64 x50, Value.int IntKind.i64 x51, Value.int
    IntKind.i64 x52, Value.int IntKind.i64 x53, Value.slice a12 m26 m27]) ∧ KeepX true w.heap.size [m25, m14, m9] (fun _ => False) w31 w32 ∧ ∀ (w33 : World), RowKit.Below
    w.heap.size w w33 → Kept [m25, m14, m9] w32 w33 → Calls Try.prog 40 #[Value.int IntKind.i64 8, Value.int IntKind.i64 10, Value.int IntKind.i64 1, Value.int IntKind.i64 (-1)]
    w33 fun (e17 : Ending) (w34 : World) => ∃ (x54 : Int), ∃ (x55 : Int), ∃ (a13 : Option Addr), ∃ (m28 : Nat), ∃ (m29 : Nat), ∃ (x56 : Int), ∃ (x57 : Int), ∃ (x58 : Int), e17 =
    Ending.returned (Value.agg #[Value.int IntKind.i64 x54, Value.int IntKind.i64 x55, Value.slice a13 m28 m29, Value.int IntKind.i64 x56, Value.int IntKind.i64 x57, Value.int
    IntKind.i64 x58]) ∧ KeepX true w.heap.size [m25, m14, m9] (fun _ => False) w33 w34 ∧ ∀ (w35 : World), RowKit.Below w.heap.size w w35 → Kept [m25, m14, m9] w34 w35 → Calls
    Try.prog 40 #[Value.int IntKind.i64 (-2), Value.int IntKind.i64 0, Value.int IntKind.i64 0, Value.int IntKind.i64 0] w35 fun (e18 : Ending) (w36 : World) => ∃ (x59 : Int), ∃
    (x60 : Int), ∃ (a14 : Option Addr), ∃ (m30 : Nat), ∃ (m31 : Nat), ∃ (x61 : Int), ∃ (x62 : Int), ∃ (x63 : Int), e18 = Ending.returned (Value.agg #[Value.int IntKind.i64 x59,
    Value.int IntKind.i64 x60, Value.slice a14 m30 m31, Value.int IntKind.i64 x61, Value.int IntKind.i64 x62, Value.int IntKind.i64 x63]) ∧ KeepX true w.heap.size [m25, m14, m9]
    (fun _ => False) w35 w36 ∧ ∀ (w37 : World), RowKit.Below w.heap.size w w37 → Kept [m25, m14, m9] w36 w37 → Calls Try.prog 40 #[Value.int IntKind.i64 0, Value.int IntKind.i64 2,
    Value.int IntKind.i64 0, Value.int IntKind.i64 0] w37 fun (e19 : Ending) (w38 : World) => ∃ (x64 : Int), ∃ (x65 : Int), ∃ (a15 : Option Addr), ∃ (m32 : Nat), ∃ (m33 : Nat), ∃
    (x66 : Int), ∃ (x67 : Int), ∃ (x68 : Int), e19 = Ending.returned (Value.agg #[Value.int IntKind.i64 x64, Value.int IntKind.i64 x65, Value.slice a15 m32 m33, Value.int
    IntKind.i64 x66, Value.int IntKind.i64 x67, Value.int IntKind.i64 x68]) ∧ KeepX true w.heap.size [m25, m14, m9] (fun _ => False) w37 w38 ∧ ∀ (m34 : Nat), w38.heap.size ≤ m34 →
    ∀ (w39 : World), RowKit.Below w.heap.size w w39 → Kept [m34, m25, m14, m9] w38 w39 → w39.heap[m34]? = some (Obj.cells #[Value.int IntKind.i64 x54, Value.int IntKind.i64 x55,
    Value.slice a13 m28 m29, Value.int IntKind.i64 x56, Value.int IntKind.i64 x57, Value.int IntKind.i64 x58, Value.int IntKind.i64 x59, Value.int IntKind.i64 x60, Value.slice a14
    m30 m31, Value.int IntKind.i64 x61, Value.int IntKind.i64 x62, Value.int IntKind.i64 x63, Value.int IntKind.i64 x64, Value.int IntKind.i64 x65, Value.slice a15 m32 m33,
    Value.int IntKind.i64 x66, Value.int IntKind.i64 x67, Value.int IntKind.i64 x68] 56) → Calls Try.prog 28 #[Value.agg #[Value.int IntKind.i64 x49, Value.int IntKind.i64 x50,
    Value.int IntKind.i64 x51, Value.int IntKind.i64 x52, Value.int IntKind.i64 x53, Value.slice a12 m26 m27], Value.slice (some { block := m34, off := 0 }) 3 3] w39 fun (e20 :
    Ending) (w40 : World) => ∃ (x69 : Int), ∃ (x70 : Int), e20 = Ending.returned (Value.tuple #[Value.int IntKind.i64 x69, Value.int IntKind.i64 x70]) ∧ KeepX true w.heap.size
    [m34, m25, m14, m9] (fun _ => False) w39 w40 ∧ ∀ (w41 : World), RowKit.Below w.heap.size w w41 → Kept [m34, m25, m14, m9] w40 w41 → Calls Try.prog 38 #[] w41 fun (e21 : Ending)
    (w42 : World) => ∃ (x71 : Int), ∃ (x72 : Int), ∃ (x73 : Int), ∃ (x74 : Int), ∃ (x75 : Int), ∃ (a16 : Option Addr), ∃ (m35 : Nat), ∃ (m36 : Nat), e21 = Ending.returned
    (Value.agg #[Value.int IntKind.i64 x71, Value.int IntKind.i64 x72, Value.int IntKind.i64 x73, Value.int IntKind.i64 x74, Value.int IntKind.i64 x75, Value.slice a16 m35 m36]) ∧
    KeepX true w.heap.size [m34, m25, m14, m9] (fun _ => False) w41 w42 ∧ ∀ (w43 : World), RowKit.Below w.heap.size w w43 → Kept [m34, m25, m14, m9] w42 w43 → Calls Try.prog 40
    #[Value.int IntKind.i64 8, Value.int IntKind.i64 10, Value.int IntKind.i64 1, Value.int IntKind.i64 (-1)] w43 fun (e22 : Ending) (w44 : World) => ∃ (x76 : Int), ∃ (x77 : Int),
    ∃ (a17 : Option Addr), ∃ (m37 : Nat), ∃ (m38 : Nat), ∃ (x78 : Int), ∃ (x79 : Int), ∃ (x80 : Int), e22 = Ending.returned (Value.agg #[Value.int IntKind.i64 x76, Value.int
    IntKind.i64 x77, Value.slice a17 m37 m38, Value.int IntKind.i64 x78, Value.int IntKind.i64 x79, Value.int IntKind.i64 x80]) ∧ KeepX true w.heap.size [m34, m25, m14, m9] (fun _
    => False) w43 w44 ∧ ∀ (w45 : World), RowKit.Below w.heap.size w w45 → Kept [m34, m25, m14, m9] w44 w45 → Calls Try.prog 40 #[Value.int IntKind.i64 (-2), Value.int IntKind.i64
    0, Value.int IntKind.i64 0, Value.int IntKind.i64 0] w45 fun (e23 : Ending) (w46 : World) => ∃ (x81 : Int), ∃ (x82 : Int), ∃ (a18 : Option Addr), ∃ (m39 : Nat), ∃ (m40 : Nat),
    ∃ (x83 : Int), ∃ (x84 : Int), ∃ (x85 : Int), e23 = Ending.returned (Value.agg #[Value.int IntKind.i64 x81, Value.int IntKind.i64 x82, Value.slice a18 m39 m40, Value.int
    IntKind.i64 x83, Value.int IntKind.i64 x84, Value.int IntKind.i64 x85]) ∧ KeepX true w.heap.size [m34, m25, m14, m9] (fun _ => False) w45 w46 ∧ ∀ (w47 : World), RowKit.Below
    w.heap.size w w47 → Kept [m34, m25, m14, m9] w46 w47 → Calls Try.prog 40 #[Value.int IntKind.i64 0, Value.int IntKind.i64 2, Value.int IntKind.i64 0, Value.int IntKind.i64 0]
    w47 fun (e24 : Ending) (w48 : World) => ∃ (x86 : Int), ∃ (x87 : Int), ∃ (a19 : Option Addr), ∃ (m41 : Nat), ∃ (m42 : Nat), ∃ (x88 : Int), ∃ (x89 : Int), ∃ (x90 : Int), e24 =
    Ending.returned (Value.agg #[Value.int IntKind.i64 x86, Value.int IntKind.i64 x87, Value.slice a19 m41 m42, Value.int IntKind.i64 x88, Value.int IntKind.i64 x89, Value.int
    IntKind.i64 x90]) ∧ KeepX true w.heap.size [m34, m25, m14, m9] (fun _ => False) w47 w48 ∧ ∀ (w49 : World), RowKit.Below w.heap.size w w49 → Kept [m34, m25, m14, m9] w48 w49 →
    Calls Try.prog 40 #[Value.int IntKind.i64 (-1), Value.int IntKind.i64 1, Value.int IntKind.i64 0, Value.int IntKind.i64 0] w49 fun (e25 : Ending) (w50 : World) => ∃ (x91 :
    Int), ∃ (x92 : Int), ∃ (a20 : Option Addr), ∃ (m43 : Nat), ∃ (m44 : Nat), ∃ (x93 : Int), ∃ (x94 : Int), ∃ (x95 : Int), e25 = Ending.returned (Value.agg #[Value.int IntKind.i64
    x91, Value.int IntKind.i64 x92, Value.slice a20 m43 m44, Value.int IntKind.i64 x93, Value.int IntKind.i64 x94, Value.int IntKind.i64 x95]) ∧ KeepX true w.heap.size [m34, m25,
    m14, m9] (fun _ => False) w49 w50 ∧ ∀ (m45 : Nat), w50.heap.size ≤ m45 → ∀ (w51 : World), RowKit.Below w.heap.size w w51 → Kept [m45, m34, m25, m14, m9] w50 w51 →
    w51.heap[m45]? = some (Obj.cells #[Value.int IntKind.i64 x76, Value.int IntKind.i64 x77, Value.slice a17 m37 m38, Value.int IntKind.i64 x78, Value.int IntKind.i64 x79,
    Value.int IntKind.i64 x80, Value.int IntKind.i64 x81, Value.int IntKind.i64 x82, Value.slice a18 m39 m40, Value.int IntKind.i64 x83, Value.int IntKind.i64 x84, Value.int
    IntKind.i64 x85, Value.int IntKind.i64 x86, Value.int IntKind.i64 x87, Value.slice a19 m41 m42, Value.int IntKind.i64 x88, Value.int IntKind.i64 x89, Value.int IntKind.i64 x90,
    Value.int IntKind.i64 x91, Value.int IntKind.i64 x92, Value.slice a20 m43 m44, Value.int IntKind.i64 x93, Value.int IntKind.i64 x94, Value.int IntKind.i64 x95] 56) → Calls
    Try.prog 28 #[Value.agg #[Value.int IntKind.i64 x71, Value.int IntKind.i64 x72, Value.int IntKind.i64 x73, Value.int IntKind.i64 x74, Value.int IntKind.i64 x75, Value.slice a16
    m35 m36], Value.slice (some { block := m45, off := 0 }) 4 4] w51 fun (e26 : Ending) (w52 : World) => ∃ (x96 : Int), ∃ (x97 : Int), e26 = Ending.returned (Value.tuple
    #[Value.int IntKind.i64 x96, Value.int IntKind.i64 x97]) ∧ KeepX true w.heap.size [m45, m34, m25, m14, m9] (fun _ => False) w51 w52 ∧ (x9 ≠ 0 → ∀ (w53 : World), RowKit.Below
    w.heap.size w w53 → Kept [m45, m34, m25, m14, m9] w52 w53 → R (Ending.returned (Value.bool false)) w53) ∧ (x9 = 0 → (x19 ≠ 0 → ∀ (w54 : World), RowKit.Below w.heap.size w w54 →
    Kept [m45, m34, m25, m14, m9] w52 w54 → R (Ending.returned (Value.bool false)) w54) ∧ (x19 = 0 → (x29 ≠ 0 → ∀ (w55 : World), RowKit.Below w.heap.size w w55 → Kept [m45, m34,
    m25, m14, m9] w52 w55 → R (Ending.returned (Value.bool false)) w55) ∧ (x29 = 0 → (x38 ≠ 7 → ∀ (w56 : World), RowKit.Below w.heap.size w w56 → Kept [m45, m34, m25, m14, m9] w52
    w56 → R (Ending.returned (Value.bool false)) w56) ∧ (x38 = 7 → (x48 ≠ 0 → ∀ (w57 : World), RowKit.Below w.heap.size w w57 → Kept [m45, m34, m25, m14, m9] w52 w57 → R
    (Ending.returned (Value.bool false)) w57) ∧ (x48 = 0 → (x70 ≠ 0 → ∀ (w58 : World), RowKit.Below w.heap.size w w58 → Kept [m45, m34, m25, m14, m9] w52 w58 → R (Ending.returned
    (Value.bool false)) w58) ∧ (x70 = 0 → (x97 ≠ 0 → ∀ (w59 : World), RowKit.Below w.heap.size w w59 → Kept [m45, m34, m25, m14, m9] w52 w59 → R (Ending.returned (Value.bool
    false)) w59) ∧ (x97 = 0 → (x8 = 2 → ∀ (w60 : World), RowKit.Below w.heap.size w w60 → KeptIn [(0, w52.heap.size)] [m45, m34, m25, m14, m9] w52 w60 → RunsTo Try.prog ((eqGuard
    BinOp.eql 36 (Operand.tmp 94) (Operand.tmp 95) (Value.agg #[Value.int IntKind.i64 x17, Value.int IntKind.i64 x18]) (Value.agg #[Value.int IntKind.i64 (-2), Value.int
    IntKind.i64 (-1)])) >>= fun _ => binOp BinOp.eql 36 (Value.agg #[Value.int IntKind.i64 x17, Value.int IntKind.i64 x18]) (Value.agg #[Value.int IntKind.i64 (-2), Value.int
    IntKind.i64 (-1)])) w60 fun (v1 : Value) (w61 : World) => ∃ (t1 : Bool), v1 = Value.bool t1 ∧ KeepX true w.heap.size [m45, m34, m25, m14, m9] (fun _ => False) w60 w61 ∧ (t1 =
    true → ∀ (w62 : World), RowKit.Below w.heap.size w w62 → KeptIn [(0, w61.heap.size)] [m45, m34, m25, m14, m9] w61 w62 → RunsTo Try.prog ((eqGuard BinOp.eql 36 (Operand.tmp 99)
    (Operand.tmp 100) (Value.agg #[Value.int IntKind.i64 x27, Value.int IntKind.i64 x28]) (Value.agg #[Value.int IntKind.i64 0, Value.int IntKind.i64 0])) >>= fun _ => binOp
    BinOp.eql 36 (Value.agg #[Value.int IntKind.i64 x27, Value.int IntKind.i64 x28]) (Value.agg #[Value.int IntKind.i64 0, Value.int IntKind.i64 0])) w62 fun (v2 : Value) (w63 :
    World) => ∃ (t2 : Bool), v2 = Value.bool t2 ∧ KeepX true w.heap.size [m45, m34, m25, m14, m9] (fun _ => False) w62 w63 ∧ (t2 = true → ∀ (w64 : World), RowKit.Below w.heap.size
    w w64 → KeptIn [(0, w63.heap.size)] [m45, m34, m25, m14, m9] w63 w64 → Calls Try.prog 39 #[Value.int IntKind.i64 2, Value.int IntKind.i64 2, Value.bool false] w64 fun (e27 :
    Ending) (w65 : World) => ∃ (x98 : Int), ∃ (x99 : Int), ∃ (a21 : Option Addr), ∃ (m46 : Nat), ∃ (m47 : Nat), e27 = Ending.returned (Value.agg #[Value.int IntKind.i64 x98,
    Value.int IntKind.i64 x99, Value.slice a21 m46 m47]) ∧ KeepX true w.heap.size [m45, m34, m25, m14, m9] (fun _ => False) w64 w65 ∧ ∀ (w66 : World), RowKit.Below w.heap.size w
    w66 → KeptIn [(0, w65.heap.size)] [m45, m34, m25, m14, m9] w65 w66 → Calls Try.prog 19 #[Value.agg #[Value.int IntKind.i64 x46, Value.int IntKind.i64 x47, Value.slice a11 m23
    m24], Value.agg #[Value.int IntKind.i64 x98, Value.int IntKind.i64 x99, Value.slice a21 m46 m47]] w66 fun (e28 : Ending) (w67 : World) => ∃ (t3 : Bool), e28 = Ending.returned
    (Value.bool t3) ∧ KeepX true w.heap.size [m45, m34, m25, m14, m9] (fun _ => False) w66 w67 ∧ (t3 = true → (x69 = 0 → ∀ (w68 : World), RowKit.Below w.heap.size w w68 → Kept
    [m45, m34, m25, m14, m9] w67 w68 → R (Ending.returned (Value.bool (x96 == -1))) w68) ∧ (x69 ≠ 0 → ∀ (w69 : World), RowKit.Below w.heap.size w w69 → Kept [m45, m34, m25, m14,
    m9] w67 w69 → R (Ending.returned (Value.bool false)) w69)) ∧ (t3 = false → ∀ (w70 : World), RowKit.Below w.heap.size w w70 → Kept [m45, m34, m25, m14, m9] w67 w70 → R
    (Ending.returned (Value.bool false)) w70)) ∧ (t2 = false → ∀ (w71 : World), RowKit.Below w.heap.size w w71 → Kept [m45, m34, m25, m14, m9] w63 w71 → R (Ending.returned
    (Value.bool false)) w71)) ∧ (t1 = false → ∀ (w72 : World), RowKit.Below w.heap.size w w72 → Kept [m45, m34, m25, m14, m9] w61 w72 → R (Ending.returned (Value.bool false)) w72))
    ∧ (x8 ≠ 2 → ∀ (w73 : World), RowKit.Below w.heap.size w w73 → Kept [m45, m34, m25, m14, m9] w52 w73 → R (Ending.returned (Value.bool false)) w73))))))))) : Calls Try.prog 12
    #[] w R := calls_of_vc (pure := true) (wrapAt := []) (muts := []) (esc := []) (args := []) (vs := []) Try.func12 rfl rfl rfl (Eq.mp (by kernel_rfl) h) 
end Go.Proofs
end
section
/- The documents' examples: values, and their calls. -/
namespace Go.Proofs.R07
open Go.Vc Go.RowKit Go.Proofs

def ClV (c : Cl) (a : Option Addr) (n : Nat) : Value := .agg #[I c.st.lo, I c.st.hi, .slice a c.st.used.length n, I c.visits, I c.turns, I c.weight]

theorem one_any (w : World) : Calls Try.prog 38 #[] w fun e w' => ∃ a c, e = .returned (oneR.v a c) ∧ Below w.heap.size w w' ∧ Cells w' a (spans oneR.ws) ∧ NewV w (spans oneR.ws) a := by
  refine vc38 w _ fun m1 h1 m2 h2 w1 hb1 hk1 hc1 => ⟨some ⟨m2, 0, none⟩, 1, rfl, hb1, Cells.obj (vs := [I 4, I 6]) hc1, .inr fun b o e => ?_⟩
  simp only [Option.some.injEq, Addr.mk.injEq, and_true] at e
  omega
theorem from_any (lo hi : Int) (u : Bool) (w : World) : Calls Try.prog 39 #[I lo, I hi, .bool u] w fun e w' => ∃ a c, e = .returned (St.v ⟨lo, hi, [u]⟩ a c) ∧ Below w.heap.size w w' ∧ Cells w' a (bools [u]) ∧ NewV w (bools [u]) a := by
  refine vc39 _ _ _ w _ fun m1 h1 m2 h2 w1 hb1 hk1 hc1 => ⟨some ⟨m2, 0, none⟩, 1, rfl, hb1, Cells.obj (vs := [.bool u]) hc1, .inr fun b o e => ?_⟩
  simp only [Option.some.injEq, Addr.mk.injEq, and_true] at e
  omega
def exCl (lo hi v t : Int) : Cl := ⟨⟨lo, hi, [false]⟩, v, t, -1⟩
theorem claim_any (lo hi v t : Int) (w : World) : Calls Try.prog 40 #[I lo, I hi, I v, I t] w fun e w' => ∃ a c, e = .returned (ClV (exCl lo hi v t) a c) ∧ Below w.heap.size w w' ∧ Cells w' a (bools [false]) ∧ NewV w (bools [false]) a := by
  refine vc40 _ _ _ _ w _ fun m1 h1 w1 hb1 hk1 => (from_any lo hi false w1).mono fun e w2 he => ?_
  obtain ⟨a, c, rfl, b2, A2, N2⟩ := he
  refine ⟨_, _, a, _, c, rfl, .all b2, fun w3 hb3 hk3 => ⟨a, c, rfl, hb3, cells_pass A2 hk3 N2 fun x hx => .inl (hk1.own x hx), N2.to hb1.size⟩⟩

theorem ex_start1 : startErr oneR ⟨8, 18, [false]⟩ = 0 := by decide +kernel
theorem ex_start2 : startErr oneR ⟨-6, -4, [false]⟩ = 0 := by decide +kernel
theorem ex_start3 : startErr oneR ⟨8, 18, [true]⟩ = 0 := by decide +kernel
theorem ex_f1 : fewestR oneR ⟨8, 18, [false]⟩ = (2, 0) := by
  have h : few oneR (setOf (St.mk 8 18 [false]).used) ((St.mk 8 18 [false]).lo, (St.mk 8 18 [false]).hi) = some 2 := ex_few0
  unfold fewestR; rw [if_neg (by rw [ex_start1]; decide), h]; rfl
theorem ex_f2 : fewestR oneR ⟨8, 18, [true]⟩ = (0, 7) := by
  have h : few oneR (setOf (St.mk 8 18 [true]).used) ((St.mk 8 18 [true]).lo, (St.mk 8 18 [true]).hi) = none := ex_few1
  unfold fewestR; rw [if_neg (by rw [ex_start3]; decide), h]
theorem ex_a1 : actR oneR ⟨8, 18, [false]⟩ = ((-2, -1), 0) := by
  have h : few oneR (setOf (St.mk 8 18 [false]).used) ((St.mk 8 18 [false]).lo, (St.mk 8 18 [false]).hi) = some (1 + 1) := ex_few0
  have h2 : firstAct oneR 1 (setOf (St.mk 8 18 [false]).used) ((St.mk 8 18 [false]).lo, (St.mk 8 18 [false]).hi) = some (-2, -1) := (firstAct_eq one_good (show 0 < 8 by omega)).trans ex_act
  unfold actR; rw [if_neg (by rw [ex_start1]; decide), h]
  simp only
  rw [h2]; rfl
theorem ex_few2 : (List.range 7).find? (fun n => enoughB oneR n 0 (-6, -4)) = some 1 := by decide +kernel
theorem ex_act2 : (acts oneR).find? (doesB oneR 0 0 (-6, -4)) = some (0, 0) := by decide +kernel
theorem ex_a2 : actR oneR ⟨-6, -4, [false]⟩ = ((0, 0), 0) := by
  have h0 : few oneR 0 (-6, -4) = some 1 := by rw [few_eq one_good (show okSp (-6, -4) from ⟨by decide, by decide, by decide⟩)]; exact ex_few2
  have h : few oneR (setOf (St.mk (-6) (-4) [false]).used) ((St.mk (-6) (-4) [false]).lo, (St.mk (-6) (-4) [false]).hi) = some (0 + 1) := h0
  have h2 : firstAct oneR 0 (setOf (St.mk (-6) (-4) [false]).used) ((St.mk (-6) (-4) [false]).lo, (St.mk (-6) (-4) [false]).hi) = some (0, 0) := (firstAct_eq one_good (show 0 < 8 by omega)).trans ex_act2
  unfold actR; rw [if_neg (by rw [ex_start2]; decide), h]
  simp only
  rw [h2]; rfl
theorem ex_after : afterR oneR ⟨8, 18, [false]⟩ (-2, -1) 3 = (⟨2, 2, [false]⟩, 0) := by kernel_rfl
theorem ex_p1 : provesR oneR [exCl 8 10 1 (-1), exCl (-2) 0 0 0, exCl 0 2 0 0] = (0, 0) := by decide +kernel
theorem ex_p2 : provesR oneR [exCl 8 10 1 (-1), exCl (-2) 0 0 0, exCl 0 2 0 0, exCl (-1) 1 0 0] = (-1, 0) := by decide +kernel
end Go.Proofs.R07
end
section
/- The documents' examples, called. -/
namespace Go.Proofs.R07
open Go.Vc Go.RowKit Go.Proofs

/-- What a slice holds, in none of some blocks. -/
def Held (bs : List Nat) (w : World) (a : Option Addr) (vs : List Value) : Prop := ∀ i v, vs[i]? = some v → ∃ b o, a = some ⟨b, o, none⟩ ∧ b ∉ bs ∧ w.cell? ⟨b, o + i, none⟩ = some v
section
variable {bs : List Nat} {w w' u : World} {a : Option Addr} {vs : List Value}
theorem Held.cells (h : Held bs w a vs) : Cells w a vs := fun i v hi => by obtain ⟨b, o, e, _, hc⟩ := h i v hi; exact ⟨b, o, e, hc⟩
theorem Held.new (h : Cells w a vs) (hn : NewV u vs a) (hb : ∀ x ∈ bs, x < u.heap.size) : Held bs w a vs := fun i v hi => by
  obtain ⟨b, o, e, hc⟩ := h i v hi
  refine ⟨b, o, e, fun hm => ?_, hc⟩
  rcases hn with rfl | hn
  · simp at hi
  · have := hn b o e; have := hb b hm; omega
theorem Held.chg (h : Held bs w a vs) (hc : Chg bs w w') : Held bs w' a vs := fun i v hi => by
  obtain ⟨b, o, e, hb, hv⟩ := h i v hi; exact ⟨b, o, e, hb, hc.cell hb hv⟩
theorem Held.kept (h : Held bs w a vs) (hc : Kept bs w w') : Held bs w' a vs := h.chg (Chg.kept hc)
theorem Held.below (h : Held bs w a vs) (hb : Below w.heap.size w w') : Held bs w' a vs := h.chg (Chg.of_below hb)
theorem Held.push (h : Held bs w a vs) {m : Nat} (hm : w.heap.size ≤ m) : Held (m :: bs) w a vs := fun i v hi => by
  obtain ⟨b, o, e, hb, hv⟩ := h i v hi
  exact ⟨b, o, e, fun hx => by
    rcases List.mem_cons.1 hx with rfl | hx
    · have := cell_lt hv; omega
    · exact hb hx, hv⟩
end
theorem ClsAt.of {w : World} {l : List ClM} (h : ∀ x ∈ l, Cells w x.2.1 (bools x.1.st.used)) {b : Nat} {T : TypeId} (hr : w.heap[b]? = some (.cells (l.flatMap clV).toArray T (0, 0))) : ClsAt w (some ⟨b, 0, none⟩) l := ⟨Cells.obj hr, h⟩

set_option maxRecDepth 100000 in
set_option maxHeartbeats 4000000 in
theorem known_any (w : World) : Calls Try.prog 12 #[] w (Pure w (.bool true)) := by
  refine vc12 w _ fun w1 B1 k1 => ?_
  refine (one_any w1).mono fun e w2 he => ?_
  obtain ⟨a1, c1, rfl, b2, A2, N2⟩ := he
  refine ⟨_, _, _, _, _, a1, _, c1, rfl, .all b2, fun w3 B3 k3 => ?_⟩
  have A3 := (Held.new A2 N2 k1.own).kept k3
  refine (from_any 8 18 false w3).mono fun e w4 he => ?_
  obtain ⟨a3, c3, rfl, b4, D4, M4⟩ := he
  refine ⟨_, _, a3, _, c3, rfl, .all b4, fun w5 B5 k5 => ?_⟩
  have A5 := (A3.below b4).kept k5
  have D5 := (Held.new D4 M4 k3.own).kept k5
  refine Pure.calls (fewest_any oneR ⟨8, 18, [false]⟩ A5.cells D5.cells) fun w6 b6 => ?_
  rw [ex_f1]
  refine ⟨_, _, rfl, .all b6, fun w7 B7 k7 => ?_⟩
  refine (one_any w7).mono fun e w8 he => ?_
  obtain ⟨a7, c7, rfl, b8, A8, N8⟩ := he
  refine ⟨_, _, _, _, _, a7, _, c7, rfl, .all b8, fun w9 B9 k9 => ?_⟩
  have A9 := (Held.new A8 N8 k7.own).kept k9
  refine (from_any 8 18 false w9).mono fun e w10 he => ?_
  obtain ⟨a9, c9, rfl, b10, D10, M10⟩ := he
  refine ⟨_, _, a9, _, c9, rfl, .all b10, fun w11 B11 k11 => ?_⟩
  have A11 := (A9.below b10).kept k11
  have D11 := (Held.new D10 M10 k9.own).kept k11
  refine Pure.calls (actOf_any oneR ⟨8, 18, [false]⟩ A11.cells D11.cells) fun w12 b12 => ?_
  rw [ex_a1]
  refine ⟨_, _, _, rfl, .all b12, fun m9 h9 w13 B13 k13 => ?_⟩
  refine (one_any w13).mono fun e w14 he => ?_
  obtain ⟨a13, c13, rfl, b14, A14, N14⟩ := he
  refine ⟨_, _, _, _, _, a13, _, c13, rfl, .all b14, fun w15 B15 k15 => ?_⟩
  have A15 := (Held.new A14 N14 k13.own).kept k15
  refine (from_any (-6) (-4) false w15).mono fun e w16 he => ?_
  obtain ⟨a15, c15, rfl, b16, D16, M16⟩ := he
  refine ⟨_, _, a15, _, c15, rfl, .all b16, fun w17 B17 k17 => ?_⟩
  have A17 := (A15.below b16).kept k17
  have D17 := (Held.new D16 M16 k15.own).kept k17
  refine Pure.calls (actOf_any oneR ⟨-6, -4, [false]⟩ A17.cells D17.cells) fun w18 b18 => ?_
  rw [ex_a2]
  refine ⟨_, _, _, rfl, .all b18, fun m14 h14 w19 B19 k19 => ?_⟩
  refine (one_any w19).mono fun e w20 he => ?_
  obtain ⟨a19, c19, rfl, b20, A20, N20⟩ := he
  refine ⟨_, _, _, _, _, a19, _, c19, rfl, .all b20, fun w21 B21 k21 => ?_⟩
  have A21 := (Held.new A20 N20 k19.own).kept k21
  refine (from_any 8 18 true w21).mono fun e w22 he => ?_
  obtain ⟨a21, c21, rfl, b22, D22, M22⟩ := he
  refine ⟨_, _, a21, _, c21, rfl, .all b22, fun w23 B23 k23 => ?_⟩
  have A23 := (A21.below b22).kept k23
  have D23 := (Held.new D22 M22 k21.own).kept k23
  refine Pure.calls (fewest_any oneR ⟨8, 18, [true]⟩ A23.cells D23.cells) fun w24 b24 => ?_
  rw [ex_f2]
  refine ⟨_, _, rfl, .all b24, fun w25 B25 k25 => ?_⟩
  refine (one_any w25).mono fun e w26 he => ?_
  obtain ⟨a25, c25, rfl, b26, A26, N26⟩ := he
  refine ⟨_, _, _, _, _, a25, _, c25, rfl, .all b26, fun w27 B27 k27 => ?_⟩
  have A27 := (Held.new A26 N26 k25.own).kept k27
  refine (from_any 8 18 false w27).mono fun e w28 he => ?_
  obtain ⟨a27, c27, rfl, b28, D28, M28⟩ := he
  refine ⟨_, _, a27, _, c27, rfl, .all b28, fun w29 B29 k29 => ?_⟩
  have A29 := (A27.below b28).kept k29
  have D29 := (Held.new D28 M28 k27.own).kept k29
  refine (after_any oneR ⟨8, 18, [false]⟩ A29.cells D29.cells (-2, -1) 3).mono fun e w30 he => ?_
  rw [ex_after] at he
  obtain ⟨aF, cF, rfl, b30, F30', NF⟩ := he
  have F30 : Held [m14, m9] w30 aF (bools [false]) := Held.new F30' (.inr NF) k29.own
  refine ⟨_, _, aF, _, cF, _, rfl, .all b30, fun m25 h25 w31 B31 k31 => ?_⟩
  have F31 := (F30.push h25).kept k31
  refine (one_any w31).mono fun e w32 he => ?_
  obtain ⟨a31, c31, rfl, b32, A32, N32⟩ := he
  refine ⟨_, _, _, _, _, a31, _, c31, rfl, .all b32, fun w33 B33 k33 => ?_⟩
  have F33 := (F31.below b32).kept k33
  have A33 := (Held.new A32 N32 k31.own).kept k33
  refine (claim_any 8 10 1 (-1) w33).mono fun e w34 he => ?_
  obtain ⟨a33, c33, rfl, b34, G34, P34⟩ := he
  refine ⟨_, _, a33, _, c33, _, _, _, rfl, .all b34, fun w35 B35 k35 => ?_⟩
  have F35 := (F33.below b34).kept k35
  have A35 := (A33.below b34).kept k35
  have G35 := (Held.new G34 P34 k33.own).kept k35
  refine (claim_any (-2) 0 0 0 w35).mono fun e w36 he => ?_
  obtain ⟨a35, c35, rfl, b36, H36, Q36⟩ := he
  refine ⟨_, _, a35, _, c35, _, _, _, rfl, .all b36, fun w37 B37 k37 => ?_⟩
  have F37 := (F35.below b36).kept k37
  have A37 := (A35.below b36).kept k37
  have G37 := (G35.below b36).kept k37
  have H37 := (Held.new H36 Q36 k35.own).kept k37
  refine (claim_any 0 2 0 0 w37).mono fun e w38 he => ?_
  obtain ⟨a37, c37, rfl, b38, J38, S38⟩ := he
  refine ⟨_, _, a37, _, c37, _, _, _, rfl, .all b38, fun m34 h34 w39 B39 k39 o39 => ?_⟩
  have F39 := ((F37.below b38).push h34).kept k39
  have A39 := ((A37.below b38).push h34).kept k39
  have G39 := ((G37.below b38).push h34).kept k39
  have H39 := ((H37.below b38).push h34).kept k39
  have J39 := ((Held.new J38 S38 k37.own).push h34).kept k39
  refine Pure.calls (proves_any oneR (c := c31) A39.cells (la := some ⟨m34, 0, none⟩) (lc := 3) (l := [(exCl 8 10 1 (-1), a33, c33), (exCl (-2) 0 0 0, a35, c35), (exCl 0 2 0 0, a37, c37)]) (ClsAt.of (fun x hx => by
    simp only [List.mem_cons, List.not_mem_nil, or_false] at hx
    rcases hx with rfl | rfl | rfl
    · exact G39.cells
    · exact H39.cells
    · exact J39.cells) o39) (by simp)) fun w40 b40 => ?_
  rw [show List.map (fun x : ClM => x.1) [(exCl 8 10 1 (-1), a33, c33), (exCl (-2) 0 0 0, a35, c35), (exCl 0 2 0 0, a37, c37)] = [exCl 8 10 1 (-1), exCl (-2) 0 0 0, exCl 0 2 0 0] from rfl, ex_p1]
  refine ⟨_, _, rfl, .all b40, fun w41 B41 k41 => ?_⟩
  have F41 := (F39.below b40).kept k41
  refine (one_any w41).mono fun e w42 he => ?_
  obtain ⟨a41, c41, rfl, b42, A42, N42⟩ := he
  refine ⟨_, _, _, _, _, a41, _, c41, rfl, .all b42, fun w43 B43 k43 => ?_⟩
  have F43 := (F41.below b42).kept k43
  have A43 := (Held.new A42 N42 k41.own).kept k43
  refine (claim_any 8 10 1 (-1) w43).mono fun e w44 he => ?_
  obtain ⟨a43, c43, rfl, b44, G44, P44⟩ := he
  refine ⟨_, _, a43, _, c43, _, _, _, rfl, .all b44, fun w45 B45 k45 => ?_⟩
  have F45 := (F43.below b44).kept k45
  have A45 := (A43.below b44).kept k45
  have G45 := (Held.new G44 P44 k43.own).kept k45
  refine (claim_any (-2) 0 0 0 w45).mono fun e w46 he => ?_
  obtain ⟨a45, c45, rfl, b46, H46, Q46⟩ := he
  refine ⟨_, _, a45, _, c45, _, _, _, rfl, .all b46, fun w47 B47 k47 => ?_⟩
  have F47 := (F45.below b46).kept k47
  have A47 := (A45.below b46).kept k47
  have G47 := (G45.below b46).kept k47
  have H47 := (Held.new H46 Q46 k45.own).kept k47
  refine (claim_any 0 2 0 0 w47).mono fun e w48 he => ?_
  obtain ⟨a47, c47, rfl, b48, J48, S48⟩ := he
  refine ⟨_, _, a47, _, c47, _, _, _, rfl, .all b48, fun w49 B49 k49 => ?_⟩
  have F49 := (F47.below b48).kept k49
  have A49 := (A47.below b48).kept k49
  have G49 := (G47.below b48).kept k49
  have H49 := (H47.below b48).kept k49
  have J49 := (Held.new J48 S48 k47.own).kept k49
  refine (claim_any (-1) 1 0 0 w49).mono fun e w50 he => ?_
  obtain ⟨a49, c49, rfl, b50, L50, T50⟩ := he
  refine ⟨_, _, a49, _, c49, _, _, _, rfl, .all b50, fun m45 h45 w51 B51 k51 o51 => ?_⟩
  have F51 := ((F49.below b50).push h45).kept k51
  have A51 := ((A49.below b50).push h45).kept k51
  have G51 := ((G49.below b50).push h45).kept k51
  have H51 := ((H49.below b50).push h45).kept k51
  have J51 := ((J49.below b50).push h45).kept k51
  have L51 := ((Held.new L50 T50 k49.own).push h45).kept k51
  refine Pure.calls (proves_any oneR (c := c41) A51.cells (la := some ⟨m45, 0, none⟩) (lc := 4) (l := [(exCl 8 10 1 (-1), a43, c43), (exCl (-2) 0 0 0, a45, c45), (exCl 0 2 0 0, a47, c47), (exCl (-1) 1 0 0, a49, c49)]) (ClsAt.of (fun x hx => by
    simp only [List.mem_cons, List.not_mem_nil, or_false] at hx
    rcases hx with rfl | rfl | rfl | rfl
    · exact G51.cells
    · exact H51.cells
    · exact J51.cells
    · exact L51.cells) o51) (by simp)) fun w52 b52 => ?_
  rw [show List.map (fun x : ClM => x.1) [(exCl 8 10 1 (-1), a43, c43), (exCl (-2) 0 0 0, a45, c45), (exCl 0 2 0 0, a47, c47), (exCl (-1) 1 0 0, a49, c49)] = [exCl 8 10 1 (-1), exCl (-2) 0 0 0, exCl 0 2 0 0, exCl (-1) 1 0 0] from rfl, ex_p2]
  have F52 := F51.below b52
  refine ⟨_, _, rfl, .all b52, fun h => absurd rfl h, fun _ => ⟨fun h => absurd rfl h, fun _ => ⟨fun h => absurd rfl h, fun _ => ⟨fun h => absurd rfl h, fun _ => ⟨fun h => absurd rfl h, fun _ => ⟨fun h => absurd rfl h, fun _ => ⟨fun h => absurd rfl h, fun _ => ⟨fun _ w60 B60 k60 => ?_, fun h => absurd rfl h⟩⟩⟩⟩⟩⟩⟩⟩
  refine eql_act ⟨_, rfl, .all (.refl _ _), fun _ w62 B62 k62 => eql_act ⟨_, rfl, .all (.refl _ _), fun _ w64 B64 k64 => ?_, fun h => absurd h (by decide)⟩, fun h => absurd h (by decide)⟩
  have F64 := ((F52.chg (chg_in k60)).chg (chg_in k62)).chg (chg_in k64)
  refine (from_any 2 2 false w64).mono fun e w65 he => ?_
  obtain ⟨a64, c64, rfl, b65, E65, U65⟩ := he
  refine ⟨_, _, a64, _, c64, rfl, .all b65, fun w66 B66 k66 => ?_⟩
  have F66 := (F64.below b65).chg (chg_in k66)
  refine Pure.calls (same_any ⟨2, 2, [false]⟩ ⟨2, 2, [false]⟩ F66.cells ((Held.new E65 U65 k64.own).chg (chg_in k66)).cells (by decide)) fun w67 b67 => ⟨_, rfl, .all b67, fun _ => ⟨fun _ w68 B68 k68 => ⟨rfl, B68⟩, fun h => absurd rfl h⟩, fun h => ?_⟩
  simp at h
end Go.Proofs.R07
end
section
/- RateAfters: the walk. -/
namespace Go.Proofs.R07
open Go.Vc Go.RowKit Go.Proofs

/-- In which blocks a slice may lie. -/
def Rng (lo hi : Nat) (vs : List Value) (a : Option Addr) : Prop := vs = [] ∨ ∀ b o, a = some ⟨b, o, none⟩ → lo ≤ b ∧ b < hi
section
variable {bs : List Nat} {w w' u : World} {a : Option Addr} {vs : List Value} {lo hi : Nat}
theorem Rng.of (h : Cells w a vs) (hn : NewV u vs a) : Rng u.heap.size w.heap.size vs a := by
  rcases hn with hn | hn
  · exact .inl hn
  · by_cases h0 : vs = []
    · exact .inl h0
    · refine .inr fun b o e => ⟨hn b o e, ?_⟩
      obtain ⟨b', o', e', hc⟩ := h 0 _ (List.getElem?_eq_getElem (List.length_pos_iff.2 h0))
      rw [e] at e'
      simp only [Option.some.injEq, Addr.mk.injEq, and_true] at e'
      rw [e'.1]; exact cell_lt hc
theorem Rng.cells (hr : Rng lo hi vs a) (h : Cells w a vs) (hk : Chg bs w w') (hb : ∀ x ∈ bs, x < lo ∨ hi ≤ x) : Cells w' a vs := fun i v hi => by
  obtain ⟨b, o, e, hc⟩ := h i v hi
  refine ⟨b, o, e, hk.cell (fun hm => ?_) hc⟩
  rcases hr with rfl | hr
  · simp at hi
  · have := hr b o e; have := hb b hm; omega
theorem Rng.kin (hr : Rng lo hi vs a) (h : Cells w a vs) {rs : List (Nat × Nat)} (hk : KeptIn rs bs w w') (hb : ∀ x ∈ bs, x < lo ∨ hi ≤ x) (hin : ∃ r ∈ rs, r.1 ≤ lo ∧ hi ≤ r.2) : Cells w' a vs := fun i v hi => by
  obtain ⟨b, o, e, hc⟩ := h i v hi
  refine ⟨b, o, e, ?_⟩
  rcases hr with rfl | hr
  · simp at hi
  · have h1 := hr b o e
    obtain ⟨r, hr1, hr2, hr3⟩ := hin
    have := hk.block b (cell_lt hc) (fun hm => by have := hb b hm; omega) ⟨r, hr1, by omega, by omega⟩
    unfold World.cell? at hc ⊢
    simp only [this]; exact hc
end

theorem has_put {u i j : Nat} : has (put u i) j = (has u j || decide (i = j)) := by
  unfold has put
  rw [Nat.testBit_or, Nat.testBit_two_pow]
end Go.Proofs.R07
end
section
/- The laws' arguments, opened. -/
namespace Go.Proofs.R07
open Go.Vc Go.RowKit Go.Proofs

theorem Try.own : ownKnob Try.prog.godebug = none := by kernel_rfl
theorem Try.laidOut : laidOutB Try.prog = true := by kernel_rfl

abbrev Li : Leaf := .int .i64
def In64 (x : Int) : Prop := rng .i64 x
section
variable {w : World}
def Rules64 (r : Rules) : Prop := In64 r.limit ∧ In64 r.err ∧ In64 r.tlo ∧ In64 r.thi ∧ In64 r.turns ∧ (∀ s ∈ r.ws, In64 s.1 ∧ In64 s.2) ∧ r.ws.length ≤ maxLen
def St64 (s : St) : Prop := In64 s.lo ∧ In64 s.hi ∧ s.used.length ≤ maxLen
variable {H : Type} {enc : TypeId × Value → H} {base b0 : Nat} {held : Bool} {spare : Nat → Bool} {reach : Reach}
end
end Go.Proofs.R07
end
section
/- The conditions of the functions, printed by program; each is what the generator reckons (kernel_rfl). -/
namespace Go.Proofs
open Go.Vc
end Go.Proofs
end
section
/- The reference's search: what is known already, keys, acts. -/
namespace Go.Proofs.R07
open Go.Vc Go.RowKit Go.Proofs

abbrev K4 := Int × Int × Int × Int
def encK (k : K4) : Value := .agg #[I k.1, I k.2.1, I k.2.2.1, I k.2.2.2]
def actW (a : Int × Int) : List Value := [I a.1, I a.2]
def ActsPost (r : Rules) (w : World) (e : Ending) (w' : World) : Prop := ∃ a c, e = .returned (.slice a (acts r).length c) ∧ Below w.heap.size w w' ∧ Cells w' a ((acts r).flatMap actW) ∧ NewV w ((acts r).flatMap actW) a

end Go.Proofs.R07
end
section
/- The reference's search: Does and Enough. -/
namespace Go.Proofs.R07
open Go.Vc Go.RowKit Go.Proofs

def look4 (m : List (K4 × Value)) (k : K4) : Option Value := @List.lookup _ _ instBEqOfDecidableEq k m
def MemoOk (r : Rules) (m : List (K4 × Value)) : Prop := ∀ (k : K4) v, look4 m k = some v → v = .bool (enoughB r k.2.2.2.toNat k.2.2.1.toNat (k.1, k.2.1))
/-- What is known behind a call: more, and nothing new above a number of visits. -/
structure Memo (r : Rules) (dm : Nat) (v : Nat) (m : List (K4 × Value)) (w0 w : World) : Prop where
  chg : Chg [dm] w0 w
  ex : ∃ m', MapIs w dm encK m' ∧ MemoOk r m' ∧ ∀ k : K4, (v : Int) < k.2.2.2 → look4 m' k = look4 m k

section
variable {r : Rules} {dm v : Nat} {m : List (K4 × Value)} {w0 w w' : World} {S : List Nat} {a : Option Addr} {vs : List Value}
end

def EnPost (r : Rules) (dm v : Nat) (m : List (K4 × Value)) (t : Bool) (w : World) (e : Ending) (w' : World) : Prop := e = .returned (.bool t) ∧ Memo r dm v m w w'

/-- What Enough does at so many visits. -/
def EnoughC (r : Rules) (v : Nat) : Prop := ∀ (dm : Nat) (s : St) (a b : Option Addr) (c d : Nat) (w : World) (m : List (K4 × Value)), okSp (s.lo, s.hi) → s.used.length = r.ws.length → Cells w a (spans r.ws) → Cells w b (bools s.used) → MapIs w dm encK m → MemoOk r m →
  Calls Try.prog 52 #[r.v a c, s.v b d, I (v : Nat), .map (some dm)] w (EnPost r dm v m (enoughB r v (setOf s.used) (s.lo, s.hi)) w)
def DoesC (r : Rules) (v : Nat) : Prop := ∀ (dm : Nat) (s : St) (a b : Option Addr) (c d : Nat) (w : World) (m : List (K4 × Value)) (x y : Int), okSp (s.lo, s.hi) → s.used.length = r.ws.length → Cells w a (spans r.ws) → Cells w b (bools s.used) → MapIs w dm encK m → MemoOk r m →
  Calls Try.prog 54 #[r.v a c, s.v b d, .agg #[I x, I y], I ((v + 1 : Nat) : Int), .map (some dm)] w (EnPost r dm v m (doesB r v (setOf s.used) (s.lo, s.hi) (x, y)) w)

end Go.Proofs.R07
end
section
/- The reference's search: Enough, and Fewest. -/
namespace Go.Proofs.R07
open Go.Vc Go.RowKit Go.Proofs

/-- The same, with one key not yet there. -/
def Mem2 (r : Rules) (dm v : Nat) (m : List (K4 × Value)) (key : K4) (w0 w : World) : Prop :=
  Chg [dm] w0 w ∧ ∃ m', MapIs w dm encK m' ∧ MemoOk r m' ∧ (∀ k : K4, ((v + 1 : Nat) : Int) < k.2.2.2 → look4 m' k = look4 m k) ∧ look4 m' key = none
end Go.Proofs.R07
end
section
/- The reference's Fewest. -/
namespace Go.Proofs.R07
open Go.Vc Go.RowKit Go.Proofs

def refFewR (r : Rules) (s : St) (most : Nat) : Int × (Int × Int) × Bool :=
  match (List.range (most + 1)).find? fun n => enoughB r n (setOf s.used) (s.lo, s.hi) with
  | none => (0, (0, 0), false)
  | some 0 => (0, (0, -1), true)
  | some (k + 1) => ((k + 1 : Nat), ((acts r).find? (doesB r k (setOf s.used) (s.lo, s.hi))).getD (0, -1), true)

end Go.Proofs.R07
end
section
/- The conditions of the functions, printed by program; each is what the generator reckons (kernel_rfl). -/
namespace Go.Proofs
open Go.Vc
end Go.Proofs
end
section
/- RateFewest: the walk. -/
namespace Go.Proofs.R07
open Go.Vc Go.RowKit Go.Proofs

theorem known_tail {bs : List Nat} {w w' : World} : Calls Try.prog 12 #[] w' fun e1 w1 => ∃ t : Bool, e1 = .returned (.bool t) ∧ KeepX true w.heap.size bs (fun _ => False) w' w1 ∧
    ∀ w2 : World, Below w.heap.size w w2 → Kept bs w1 w2 → Pure w (.bool true) (.returned (.bool t)) w2 :=
  Pure.calls (known_any w') fun w1 hb1 => ⟨_, rfl, .all hb1, fun w2 hb2 _ => ⟨rfl, hb2⟩⟩

end Go.Proofs.R07
end
section
/- The conditions of the functions, printed by program; each is what the generator reckons (kernel_rfl). -/
namespace Go.Proofs
open Go.Vc
set_option maxRecDepth 100000 in
set_option maxHeartbeats 2000000 in
theorem vc31 (s0 : Int) (s1 : Int) (s2 : Int) (s3 : Int) (s4 : Int) (s5a : Option Addr) (s5n : Nat) (s5c : Nat) (w : World) (R : Ending → World → Prop) (h : ∀ (m1 : Nat),
    w.heap.size ≤ m1 → ∀ (m2 : Nat), w.heap.size ≤ m2 → (-9223372036854775808 ≤ s0 ∧ s0 ≤ 9223372036854775807) ∧ (20 : Int) ≠ 0 ∧ (-9223372036854775808 ≤ s1 ∧ s1 ≤
    9223372036854775807) ∧ (5 : Int) ≠ 0 ∧ (-9223372036854775808 ≤ s2 ∧ s2 ≤ 9223372036854775807) ∧ (30 : Int) ≠ 0 ∧ ((-9223372036854775808 : Int) ≤ 1 + s2.tmod 30 ∧ 1 + s2.tmod
    (30 : Int) ≤ 9223372036854775807) ∧ (-9223372036854775808 ≤ s4 ∧ s4 ≤ 9223372036854775807) ∧ (5 : Int) ≠ 0 ∧ ∀ (m3 : Nat), w.heap.size ≤ m3 → (-9223372036854775808 ≤ s3 ∧ s3 ≤
    9223372036854775807) ∧ (10 : Int) ≠ 0 ∧ ((-9223372036854775808 : Int) ≤ 1 + s2.tmod 30 + s3.tmod 10 ∧ 1 + s2.tmod 30 + s3.tmod (10 : Int) ≤ 9223372036854775807) ∧ ∃ (F1 : List
    Lf → World → Prop), ∃ (F2 : List Lf → Nat), (∀ (w2 : World), RowKit.Below w.heap.size w w2 → Kept [m3, m2, m1] w w2 → F1 [Lf.int IntKind.i64 0, Lf.int IntKind.i64 (s0.tmod 20),
    Lf.int IntKind.i64 (s1.tmod 5), Lf.int IntKind.i64 (1 + s2.tmod 30), Lf.int IntKind.i64 (1 + s2.tmod 30 + s3.tmod 10), Lf.int IntKind.i64 (s4.tmod 5), Lf.sl none 0 0] w2) ∧ ∀
    (x1 x2 x3 x4 x5 x6 : Int) (a1 : Option Addr) (m4 m5 : Nat) (w3 : World), RowKit.Below w.heap.size w w3 → F1 [Lf.int IntKind.i64 x1, Lf.int IntKind.i64 x2, Lf.int IntKind.i64
    x3, Lf.int IntKind.i64 x4, Lf.int IntKind.i64 x5, Lf.int IntKind.i64 x6, Lf.sl a1 m4 m5] w3 → (x1 < (↑s5n : Int) → (x1 < 2 → ∃ (m6 : Nat), ∃ (m7 : Nat), s5a = some
    { block := m6, off := m7 } ∧ (0 ≤ x1 ∧ x1 < (↑s5n : Int)) ∧ ((0 : Int) ≤ 0 ∧ 0 < (↑2 : Int)) ∧ ∃ (x7 : Int), w3.cell?
    { block := m6, off := m7 + x1.toNat * 2 + Int.toNat 0 * 1 } = some (Value.int IntKind.u8 x7) ∧ (m6 < w.heap.size ∨ m6 ≠ m3 ∧ m6 ≠ m2 ∧ m6 ≠ m1) ∧ (-9223372036854775808 ≤ x7 ∧
    x7 ≤ 9223372036854775807) ∧ (20 : Int) ≠ 0 ∧ ((-9223372036854775808 : Int) ≤ 1 + x7.tmod 20 ∧ 1 + x7.tmod (20 : Int) ≤ 9223372036854775807) ∧ ∃ (m8 : Nat), ∃ (m9 : Nat), s5a =
    some { block := m8, off := m9 } ∧ (0 ≤ x1 ∧ x1 < (↑s5n : Int)) ∧ ((0 : Int) ≤ 1 ∧ 1 < (↑2 : Int)) ∧ ∃ (x8 : Int), w3.cell?
    { block := m8, off := m9 + x1.toNat * 2 + Int.toNat 1 * 1 } = some (Value.int IntKind.u8 x8) ∧ (m8 < w.heap.size ∨ m8 ≠ m3 ∧ m8 ≠ m2 ∧ m8 ≠ m1) ∧ (-9223372036854775808 ≤ x8 ∧
    x8 ≤ 9223372036854775807) ∧ (6 : Int) ≠ 0 ∧ ((-9223372036854775808 : Int) ≤ 1 + x7.tmod 20 + x8.tmod 6 ∧ 1 + x7.tmod 20 + x8.tmod (6 : Int) ≤ 9223372036854775807) ∧ ∀ (m10 :
    Nat), w3.heap.size ≤ m10 → ∀ (w4 : World), RowKit.Below w.heap.size w w4 → KeptIn [(0, w3.heap.size)] [m10, m3, m2, m1] w3 w4 → w4.heap[m10]? = some (Obj.cells #[Value.int
    IntKind.i64 (1 + x7.tmod 20), Value.int IntKind.i64 (1 + x7.tmod 20 + x8.tmod 6)] 23) → RunsTo Try.prog (Builtin.append_ #[24, 24] 24 #[Value.slice a1 m4 m5, Value.slice (some
    { block := m10, off := 0 }) 1 1]) w4 fun (v1 : Value) (w5 : World) => ∃ (a2 : Option Addr), ∃ (m12 : Nat), ∃ (m13 : Nat), v1 = Value.slice a2 m12 m13 ∧ KeepX true w.heap.size
    [m10, m3, m2, m1] (fun (m14 : Nat) => False) w4 w5 ∧ (-9223372036854775808 ≤ x1 + 1 ∧ x1 + (1 : Int) ≤ 9223372036854775807) ∧ ∀ (w6 : World), RowKit.Below w.heap.size w w6 →
    Kept [m10, m3, m2, m1] w5 w6 → F1 [Lf.int IntKind.i64 (x1 + 1), Lf.int IntKind.i64 x2, Lf.int IntKind.i64 x3, Lf.int IntKind.i64 x4, Lf.int IntKind.i64 x5, Lf.int IntKind.i64
    x6, Lf.sl a2 m12 m13] w6 ∧ F2 [Lf.int IntKind.i64 (x1 + 1), Lf.int IntKind.i64 x2, Lf.int IntKind.i64 x3, Lf.int IntKind.i64 x4, Lf.int IntKind.i64 x5, Lf.int IntKind.i64 x6,
    Lf.sl a2 m12 m13] < F2 [Lf.int IntKind.i64 x1, Lf.int IntKind.i64 x2, Lf.int IntKind.i64 x3, Lf.int IntKind.i64 x4, Lf.int IntKind.i64 x5, Lf.int IntKind.i64 x6, Lf.sl a1 m4
    m5]) ∧ (2 ≤ x1 → ∀ (w7 : World), RowKit.Below w.heap.size w w7 → Kept [m3, m2, m1] w3 w7 → R (Ending.returned (Value.agg #[Value.int IntKind.i64 x2, Value.int IntKind.i64 x3,
    Value.int IntKind.i64 x4, Value.int IntKind.i64 x5, Value.int IntKind.i64 x6, Value.slice a1 m4 m5])) w7)) ∧ ((↑s5n : Int) ≤ x1 → ∀ (w8 : World), RowKit.Below w.heap.size w w8
    → Kept [m3, m2, m1] w3 w8 → R (Ending.returned (Value.agg #[Value.int IntKind.i64 x2, Value.int IntKind.i64 x3, Value.int IntKind.i64 x4, Value.int IntKind.i64 x5, Value.int
    IntKind.i64 x6, Value.slice a1 m4 m5])) w8)) : Calls Try.prog 31 #[Value.agg #[Value.int IntKind.u8 s0, Value.int IntKind.u8 s1, Value.int IntKind.u8 s2, Value.int IntKind.u8
    s3, Value.int IntKind.u8 s4, Value.slice s5a s5n s5c]] w R := calls_of_vc (pure := true) (wrapAt := []) (muts := [3]) (esc := []) (args := [SV.pv (PV.agg [Lf.int IntKind.u8 s0,
    Lf.int IntKind.u8 s1, Lf.int IntKind.u8 s2, Lf.int IntKind.u8 s3, Lf.int IntKind.u8 s4, Lf.sl s5a s5n s5c])]) (vs := [Value.agg #[Value.int IntKind.u8 s0, Value.int IntKind.u8
    s1, Value.int IntKind.u8 s2, Value.int IntKind.u8 s3, Value.int IntKind.u8 s4, Value.slice s5a s5n s5c]]) Try.func31 rfl rfl rfl (Eq.mp (by kernel_rfl) h) 
set_option maxRecDepth 100000 in
set_option maxHeartbeats 2000000 in
theorem vc32 (r0 : Int) (r1 : Int) (r2 : Int) (r3 : Int) (r4 : Int) (r5a : Option Addr) (r5n : Nat) (r5c : Nat) (p1by0 : Int) (p1by1 : Int) (p1by2 : Int) (w : World) (R : Ending →
    World → Prop) (h : ∀ (m1 : Nat), w.heap.size ≤ m1 → ∀ (m2 : Nat), w.heap.size ≤ m2 → ∀ (m3 : Nat), w.heap.size ≤ m3 → (-9223372036854775808 ≤ p1by0 ∧ p1by0 ≤
    9223372036854775807) ∧ (-9223372036854775808 ≤ p1by0 - 128 ∧ p1by0 - (128 : Int) ≤ 9223372036854775807) ∧ ∀ (m4 : Nat), w.heap.size ≤ m4 → (-9223372036854775808 ≤ p1by1 ∧ p1by1
    ≤ 9223372036854775807) ∧ (30 : Int) ≠ 0 ∧ (-9223372036854775808 ≤ p1by0 - 128 + p1by1.tmod 30 ∧ p1by0 - 128 + p1by1.tmod (30 : Int) ≤ 9223372036854775807) ∧ ∃ (F1 : List Lf →
    World → Prop), ∃ (F2 : List Lf → Nat), (∀ (w2 : World), RowKit.Below w.heap.size w w2 → Kept [m4, m3, m2, m1] w w2 → F1 [Lf.int IntKind.i64 0, Lf.int IntKind.i64 (p1by0 - 128),
    Lf.int IntKind.i64 (p1by0 - 128 + p1by1.tmod 30), Lf.sl none 0 0] w2) ∧ ∀ (x1 x2 x3 : Int) (a1 : Option Addr) (m5 m6 : Nat) (w3 : World), RowKit.Below w.heap.size w w3 → F1
    [Lf.int IntKind.i64 x1, Lf.int IntKind.i64 x2, Lf.int IntKind.i64 x3, Lf.sl a1 m5 m6] w3 → (x1 < (↑r5n : Int) → (0 ≤ x1 ∧ x1 ≤ 18446744073709551615) ∧ 0 ≤ x1 ∧ ∀ (m7 : Nat),
    w3.heap.size ≤ m7 → ∀ (w4 : World), RowKit.Below w.heap.size w w4 → Kept [m7, m4, m3, m2, m1] w3 w4 → w4.heap[m7]? = some (Obj.cells #[Value.bool (IntKind.u8.wrap
    (↑(BitVec.ofInt IntKind.u8.bits (p1by2.fdiv (2 ^ min x1.toNat IntKind.u8.bits)) &&& BitVec.ofInt IntKind.u8.bits 1).toNat : Int) == 1)] 4) → RunsTo Try.prog (Builtin.append_
    #[27, 27] 27 #[Value.slice a1 m5 m6, Value.slice (some { block := m7, off := 0 }) 1 1]) w4 fun (v1 : Value) (w5 : World) => ∃ (a2 : Option Addr), ∃ (m9 : Nat), ∃ (m10 : Nat),
    v1 = Value.slice a2 m9 m10 ∧ KeepX true w.heap.size [m7, m4, m3, m2, m1] (fun (m11 : Nat) => False) w4 w5 ∧ (-9223372036854775808 ≤ x1 + 1 ∧ x1 + (1 : Int) ≤
    9223372036854775807) ∧ ∀ (w6 : World), RowKit.Below w.heap.size w w6 → Kept [m7, m4, m3, m2, m1] w5 w6 → F1 [Lf.int IntKind.i64 (x1 + 1), Lf.int IntKind.i64 x2, Lf.int
    IntKind.i64 x3, Lf.sl a2 m9 m10] w6 ∧ F2 [Lf.int IntKind.i64 (x1 + 1), Lf.int IntKind.i64 x2, Lf.int IntKind.i64 x3, Lf.sl a2 m9 m10] < F2 [Lf.int IntKind.i64 x1, Lf.int
    IntKind.i64 x2, Lf.int IntKind.i64 x3, Lf.sl a1 m5 m6]) ∧ ((↑r5n : Int) ≤ x1 → ∀ (w7 : World), RowKit.Below w.heap.size w w7 → Kept [m4, m3, m2, m1] w3 w7 → R (Ending.returned
    (Value.agg #[Value.int IntKind.i64 x2, Value.int IntKind.i64 x3, Value.slice a1 m5 m6])) w7)) : Calls Try.prog 32 #[Value.agg #[Value.int IntKind.i64 r0, Value.int IntKind.i64
    r1, Value.int IntKind.i64 r2, Value.int IntKind.i64 r3, Value.int IntKind.i64 r4, Value.slice r5a r5n r5c], Value.agg #[Value.int IntKind.u8 p1by0, Value.int IntKind.u8 p1by1,
    Value.int IntKind.u8 p1by2]] w R := calls_of_vc (pure := true) (wrapAt := []) (muts := [5]) (esc := []) (args := [SV.pv (PV.agg [Lf.int IntKind.i64 r0, Lf.int IntKind.i64 r1,
    Lf.int IntKind.i64 r2, Lf.int IntKind.i64 r3, Lf.int IntKind.i64 r4, Lf.sl r5a r5n r5c]), SV.pv (PV.agg [Lf.int IntKind.u8 p1by0, Lf.int IntKind.u8 p1by1, Lf.int IntKind.u8
    p1by2])]) (vs := [Value.agg #[Value.int IntKind.i64 r0, Value.int IntKind.i64 r1, Value.int IntKind.i64 r2, Value.int IntKind.i64 r3, Value.int IntKind.i64 r4, Value.slice r5a
    r5n r5c], Value.agg #[Value.int IntKind.u8 p1by0, Value.int IntKind.u8 p1by1, Value.int IntKind.u8 p1by2]]) Try.func32 rfl rfl rfl (Eq.mp (by kernel_rfl) h) 
end Go.Proofs
end
section
/- Rules and states by small numbers. -/
namespace Go.Proofs.R07
open Go.Vc Go.RowKit Go.Proofs

abbrev J (n : Int) : Value := .int .u8 n
def U8 (x : Int) : Prop := 0 ≤ x ∧ x ≤ 255
def bytes (l : List Int) : List Value := l.map J
theorem bytes_get {l : List Int} {i : Nat} {x : Int} (h : l[i]? = some x) : (bytes l)[i]? = some (J x) := by simp [bytes, h]
def pairs8 (l : List Sp) : List Value := l.flatMap fun s => [J s.1, J s.2]
theorem pairs8_get {l : List Sp} {i : Nat} {x : Sp} (h : l[i]? = some x) : (pairs8 l)[i * 2]? = some (J x.1) ∧ (pairs8 l)[i * 2 + 1]? = some (J x.2) :=
  ⟨flat_get (k := 2) (j := 0) (fun _ => rfl) h (by omega), flat_get (k := 2) (j := 1) (fun _ => rfl) h (by omega)⟩
def mkW (p : Sp) : Sp := (1 + p.1 % 20, 1 + p.1 % 20 + p.2 % 6)
def mkR (x0 x1 x2 x3 x4 : Int) (l : List Sp) : Rules := ⟨x0 % 20, x1 % 5, 1 + x2 % 30, 1 + x2 % 30 + x3 % 10, x4 % 5, (l.take 2).map mkW⟩

theorem mkR_good (x0 x1 x2 x3 x4 : Int) (l : List Sp) : Good (mkR x0 x1 x2 x3 x4 l) := by
  refine ⟨?_, ⟨by show 0 ≤ x0 % 20 ∧ x0 % 20 ≤ 300; omega, by show 0 ≤ x1 % 5 ∧ x1 % 5 ≤ 50; omega, by show 1 ≤ 1 + x2 % 30 ∧ 1 + x2 % 30 ≤ 1 + x2 % 30 + x3 % 10 ∧ 1 + x2 % 30 + x3 % 10 ≤ 100; omega, by show 0 ≤ x4 % 5 ∧ x4 % 5 ≤ 10; omega, fun s hs => ?_⟩⟩
  · simp [mkR]; omega
  · obtain ⟨p, _, rfl⟩ := List.mem_map.1 hs
    simp only [mkW]; omega

theorem spans_one (s : Sp) : spans [s] = [I s.1, I s.2] := rfl
theorem spans_app (l m : List Sp) : spans (l ++ m) = spans l ++ spans m := by simp [spans]

set_option maxHeartbeats 1000000 in
theorem rules_any {x0 x1 x2 x3 x4 : Int} (h0 : U8 x0) (h1 : U8 x1) (h2 : U8 x2) (h3 : U8 x3) (h4 : U8 x4) {l : List Sp} (hl : ∀ p ∈ l, U8 p.1 ∧ U8 p.2) {a : Option Addr} {c : Nat} {w : World} (hc : Cells w a (pairs8 l)) :
    Calls Try.prog 31 #[.agg #[J x0, J x1, J x2, J x3, J x4, .slice a l.length c]] w (RulesPost (mkR x0 x1 x2 x3 x4 l) w) := by
  unfold U8 at h0 h1 h2 h3 h4
  have e0 : x0.tmod 20 = x0 % 20 := Int.tmod_eq_emod_of_nonneg h0.1
  have e1 : x1.tmod 5 = x1 % 5 := Int.tmod_eq_emod_of_nonneg h1.1
  have e2 : x2.tmod 30 = x2 % 30 := Int.tmod_eq_emod_of_nonneg h2.1
  have e3 : x3.tmod 10 = x3 % 10 := Int.tmod_eq_emod_of_nonneg h3.1
  have e4 : x4.tmod 5 = x4 % 5 := Int.tmod_eq_emod_of_nonneg h4.1
  refine vc31 _ _ _ _ _ _ _ _ w _ fun m1 g1 m2 g2 => ?_
  rw [e0, e1, e2, e3, e4]
  refine ⟨by omega, by decide, by omega, by decide, by omega, by decide, by omega, by omega, by decide, fun m3 g3 => ⟨by omega, by decide, by omega, ?_⟩⟩
  refine ⟨fun ls w' => match ls with | [.int _ i, .int _ y0, .int _ y1, .int _ y2, .int _ y3, .int _ y4, .sl a' n c'] => 0 ≤ i ∧ i ≤ l.length ∧ i ≤ 2 ∧ y0 = x0 % 20 ∧ y1 = x1 % 5 ∧ y2 = 1 + x2 % 30 ∧ y3 = 1 + x2 % 30 + x3 % 10 ∧ y4 = x4 % 5 ∧ n = i.toNat ∧ Row 23 2 w.heap.size [m3, m2, m1] a' n c' (spans ((l.take i.toNat).map mkW)) w' ∧ (∀ b ∈ [m3, m2, m1], b < w'.heap.size) | _ => False,
    fun ls => match ls with | .int _ i :: _ => (2 - i).toNat | _ => 0, fun w2 hb2 hk2 => ⟨by omega, by omega, by omega, rfl, rfl, rfl, rfl, rfl, rfl, Row.nil, hk2.own⟩, ?_⟩
  rintro i y0 y1 y2 y3 y4 a1 n1 c1 w3 hb3 ⟨i0, il, i2, rfl, rfl, rfl, rfl, rfl, rfl, hrow, ho⟩
  have fin : ∀ w7, Below w.heap.size w w7 → Kept [m3, m2, m1] w3 w7 → (l.take i.toNat).map mkW = (mkR x0 x1 x2 x3 x4 l).ws →
      RulesPost (mkR x0 x1 x2 x3 x4 l) w (.returned (.agg #[I (x0 % 20), I (x1 % 5), I (1 + x2 % 30), I (1 + x2 % 30 + x3 % 10), I (x4 % 5), .slice a1 i.toNat c1])) w7 := fun w7 hb7 hk7 hw => by
    have R7 := hrow.chg (Chg.kept hk7) fun b hb => hb
    have hn : i.toNat = (mkR x0 x1 x2 x3 x4 l).ws.length := by rw [← hw]; simp; omega
    rw [hw] at R7
    refine ⟨a1, c1, ?_, hb7, R7.cells, ?_, ?_⟩
    · rw [hn]; rfl
    · cases a1 with
      | none => exact .inl rfl
      | some ad =>
        rcases R7.own.2 with ⟨he, _⟩ | ⟨g, cap, cur, he, _⟩
        · cases he
        · simp only [Value.slice.injEq] at he; exact .inr ⟨g, 0, he.1⟩
    · exact .inr fun b o e => (R7.lt b o e).1
  refine ⟨fun hi => ⟨fun hi2 => ?_, fun hi2 w7 hb7 hk7 => fin w7 hb7 hk7 ?_⟩, fun hi w8 hb8 hk8 => fin w8 hb8 hk8 ?_⟩
  · have hix : i.toNat < l.length := by omega
    obtain ⟨p, hp⟩ : ∃ p, l[i.toNat]? = some p := ⟨_, getElem_of_lt hix⟩
    obtain ⟨q1, q2⟩ := pairs8_get hp
    obtain ⟨b1, o1, rfl, c1'⟩ := hc _ _ q1
    obtain ⟨_, _, he, c2'⟩ := hc _ _ q2
    cases he
    obtain ⟨u1, u2⟩ := hl p (List.mem_of_getElem? hp)
    unfold U8 at u1 u2
    have f1 : p.1.tmod 20 = p.1 % 20 := Int.tmod_eq_emod_of_nonneg u1.1
    have f2 : p.2.tmod 6 = p.2 % 6 := Int.tmod_eq_emod_of_nonneg u2.1
    refine ⟨b1, o1, rfl, by omega, by decide, p.1, cell_at (cell_below hb3 (cell_lt c1') c1') (by simp <;> omega), .inl (cell_lt c1'), by omega, by decide, by omega, b1, o1, rfl, by omega, by decide, p.2, cell_at (cell_below hb3 (cell_lt c2') c2') (by simp <;> omega), .inl (cell_lt c2'), by omega, by decide, by omega, fun m10 h10 w4 hb4 hk4 hc4 => ?_⟩
    rw [f1, f2] at hc4
    have R4 := (hrow.grow (ms := [m10]) (by simpa using h10)).chg (chg_in hk4) fun b hb => hb
    refine append_row (P := Try.prog) (bytes := 16) (by kernel_rfl) (by omega) R4 (m := 1) (news := spans [mkW p]) (Cells.obj (vs := [I _, I _]) hc4) rfl (by simp [spans_one] <;> exact ⟨rfl, rfl⟩) (by omega) (by omega) hb4.size hk4.own fun a2 c2 w5 R5 S cS hS => ?_
    refine ⟨a2, _, c2, rfl, cS.own (fun b hb => ⟨hk4.own b hb, fun hh => (hS b hh).2 hb⟩) (by simp) (fun _ => ⟨hb4.size, fun b hb => (hS b hb).1⟩), by omega, fun w6 hb6 hk6 => ⟨⟨by omega, by omega, by omega, rfl, rfl, rfl, rfl, rfl, by omega, ?_, fun b hb => hk6.own b (List.mem_cons_of_mem _ hb)⟩, ?_⟩⟩
    · have R6 := (R5.chg (Chg.kept hk6) fun b hb => hb).drop (ms := [m10])
      rw [show (i + 1).toNat = i.toNat + 1 by omega, List.take_add_one, hp, List.map_append, spans_app]
      exact R6
    · show (2 - (i + 1)).toNat < (2 - i).toNat
      omega
  · show _ = (l.take 2).map mkW
    rw [show i.toNat = 2 by omega]
  · show _ = (l.take 2).map mkW
    rw [show i.toNat = l.length by omega, List.take_of_length_le (Nat.le_refl _), List.take_of_length_le (by omega)]

/-- Which weights are used, by a small number. -/
def bitU (x i : Int) : Bool := IntKind.u8.wrap (↑(BitVec.ofInt IntKind.u8.bits (x.fdiv (2 ^ min i.toNat IntKind.u8.bits)) &&& BitVec.ofInt IntKind.u8.bits 1).toNat : Int) == 1
def mkS (x0 x1 x2 : Int) (n : Nat) : St := ⟨x0 - 128, x0 - 128 + x1 % 30, (List.range n).map fun i => bitU x2 (i : Nat)⟩
theorem bools_app (l m : List Bool) : bools (l ++ m) = bools l ++ bools m := by simp [bools]

set_option maxHeartbeats 1000000 in
theorem begin_any (r : Rules) (hn : r.ws.length ≤ 1000) {x0 x1 x2 : Int} (h0 : U8 x0) (h1 : U8 x1) {a : Option Addr} {c : Nat} {w : World} :
    Calls Try.prog 32 #[r.v a c, .agg #[J x0, J x1, J x2]] w (StPost (mkS x0 x1 x2 r.ws.length) w) := by
  unfold U8 at h0 h1
  have e1 : x1.tmod 30 = x1 % 30 := Int.tmod_eq_emod_of_nonneg h1.1
  refine vc32 _ _ _ _ _ _ _ _ _ _ _ w _ fun m1 g1 m2 g2 m3 g3 => ?_
  rw [e1]
  refine ⟨by omega, by omega, fun m4 g4 => ⟨by omega, by decide, by omega, ?_⟩⟩
  refine ⟨fun ls w' => match ls with | [.int _ i, .int _ y0, .int _ y1, .sl a' n c'] => 0 ≤ i ∧ i ≤ r.ws.length ∧ y0 = x0 - 128 ∧ y1 = x0 - 128 + x1 % 30 ∧ n = i.toNat ∧ Row 4 1 w.heap.size [m4, m3, m2, m1] a' n c' (bools ((List.range i.toNat).map fun i => bitU x2 (i : Nat))) w' ∧ (∀ b ∈ [m4, m3, m2, m1], b < w'.heap.size) | _ => False,
    fun ls => match ls with | .int _ i :: _ => (r.ws.length - i).toNat | _ => 0, fun w2 hb2 hk2 => ⟨by omega, by omega, rfl, rfl, rfl, Row.nil, hk2.own⟩, ?_⟩
  rintro i y0 y1 a1 n1 c1 w3 hb3 ⟨i0, il, rfl, rfl, rfl, hrow, ho⟩
  refine ⟨fun hi => ⟨by omega, i0, fun m7 h7 w4 hb4 hk4 hc4 => ?_⟩, fun hi w7 hb7 hk7 => ?_⟩
  · have R4 := (hrow.grow (ms := [m7]) (by simpa using h7)).chg (Chg.kept hk4) fun b hb => hb
    refine append_row (P := Try.prog) (bytes := 1) (by kernel_rfl) (by omega) R4 (m := 1) (news := bools [bitU x2 i]) (Cells.obj (vs := [.bool _]) hc4) rfl (by simp [bools] <;> rfl) (by omega) (by omega) hb4.size hk4.own fun a2 c2 w5 R5 S cS hS => ?_
    refine ⟨a2, _, c2, rfl, cS.own (fun b hb => ⟨hk4.own b hb, fun hh => (hS b hh).2 hb⟩) (by simp) (fun _ => ⟨hb4.size, fun b hb => (hS b hb).1⟩), by omega, fun w6 hb6 hk6 => ⟨⟨by omega, by omega, rfl, rfl, by omega, ?_, fun b hb => hk6.own b (List.mem_cons_of_mem _ hb)⟩, ?_⟩⟩
    · have R6 := (R5.chg (Chg.kept hk6) fun b hb => hb).drop (ms := [m7])
      rw [show (i + 1).toNat = i.toNat + 1 by omega, List.range_succ, List.map_append, bools_app]
      simp only [List.map_cons, List.map_nil]
      rw [show ((i.toNat : Nat) : Int) = i by omega]
      exact R6
    · show ((r.ws.length : Int) - (i + 1)).toNat < ((r.ws.length : Int) - i).toNat
      omega
  · have R7 := hrow.chg (Chg.kept hk7) fun b hb => hb
    have hi' : i.toNat = r.ws.length := by omega
    rw [hi'] at R7 ⊢
    refine ⟨a1, c1, ?_, hb7, R7.cells, ?_, ?_⟩
    · simp [St.v, mkS]
    · cases a1 with
      | none => exact .inl rfl
      | some ad =>
        rcases R7.own.2 with ⟨he, _⟩ | ⟨g, cap, cur, he, _⟩
        · cases he
        · simp only [Value.slice.injEq] at he; exact .inr ⟨g, 0, he.1⟩
    · exact .inr fun b o e => (R7.lt b o e).1

def inside (lo hi n : Int) : Int := lo + n * (hi - lo) / 255
def byteAt (l : List Int) (i : Nat) : Int := if l.length = 0 then 0 else (l[i % l.length]?).getD 0
theorem byteOf_any {l : List Int} (h : ∀ x ∈ l, U8 x) {i : Int} (hi : 0 ≤ i) (hi2 : i ≤ 1000000) {a : Option Addr} {c : Nat} {w : World} (hc : Cells w a (bytes l)) : Calls Try.prog 34 #[.slice a l.length c, I i] w (Pure w (I (byteAt l i.toNat))) := by
  refine vc34 _ _ _ _ w _ ⟨fun h0 w1 hb _ => ⟨?_, hb⟩, fun h0 => ⟨h0, ?_⟩⟩
  · unfold byteAt; rw [if_pos (by omega)]
  · have e : i.tmod (l.length : Int) = ((i.toNat % l.length : Nat) : Int) := by rw [Int.tmod_eq_emod_of_nonneg hi, Int.natCast_emod, Int.toNat_of_nonneg hi]
    have hlt : i.toNat % l.length < l.length := Nat.mod_lt _ (by omega)
    obtain ⟨b, o, rfl, c1⟩ := hc _ _ (bytes_get (getElem_of_lt hlt))
    have hu := h _ (List.getElem_mem hlt)
    rw [e]
    refine ⟨b, o, rfl, by omega, _, cell_at c1 (by rw [Int.toNat_natCast, Nat.mul_one]), by unfold U8 at hu; omega, fun w2 hb _ => ⟨?_, hb⟩⟩
    unfold byteAt
    rw [if_neg (by omega), getElem_of_lt hlt]; rfl
end Go.Proofs.R07
end
section
/- Small numbers, opened. -/
namespace Go.Proofs.R07
open Go.Vc Go.RowKit Go.Proofs

abbrev L8 : Leaf := .int .u8
theorem leaves_shop : leaves Try.prog 5 64 = some [L8, L8, L8, L8, L8, .sl [L8, L8]] := by kernel_rfl
theorem leaves_b3 : leaves Try.prog 5 65 = some [L8, L8, L8] := by kernel_rfl
theorem leaves_bs : leaves Try.prog 5 66 = some [.sl [L8]] := by kernel_rfl
theorem agg_shop : isAggB Try.prog 64 = true := by kernel_rfl
theorem agg_b3 : isAggB Try.prog 65 = true := by kernel_rfl
theorem agg_bs : isAggB Try.prog 66 = false := by kernel_rfl
section
variable {w : World}
theorem take_u8 {ls : List Leaf} {cs : List Value} (h : LeavesAre w (L8 :: ls) cs) : ∃ x r, cs = J x :: r ∧ U8 x ∧ LeavesAre w ls r := by
  obtain ⟨v, r, rfl, h1, h2⟩ := h.cons'
  obtain ⟨x, rfl, hx⟩ := h1.int'
  exact ⟨x, r, rfl, hx, h2⟩
theorem take_pairs8 {v : Value} (h : LeafIs w (.sl [L8, L8]) v) : ∃ a c, ∃ l : List Sp, v = .slice a l.length c ∧ Cells w a (pairs8 l) ∧ ∀ s ∈ l, U8 s.1 ∧ U8 s.2 := by
  obtain ⟨a, c, l, rfl, h1, h2, h3, h4⟩ := h.sl' (fun s : Sp => [J s.1, J s.2]) (fun s => U8 s.1 ∧ U8 s.2) fun x hx => by
    obtain ⟨p, r, rfl, up, h⟩ := take_u8 hx
    obtain ⟨q, r, rfl, uq, h⟩ := take_u8 h
    rw [h.nil']
    exact ⟨(p, q), rfl, up, uq⟩
  exact ⟨a, c, l, rfl, h3, h4⟩
theorem bytes_flat (l : List Int) : (l.flatMap fun b => [J b]) = bytes l := by
  induction l with
  | nil => rfl
  | cons b l ih => rw [List.flatMap_cons, ih]; rfl
theorem take_bytes {v : Value} (h : LeafIs w (.sl [L8]) v) : ∃ a c, ∃ l : List Int, v = .slice a l.length c ∧ Cells w a (bytes l) ∧ ∀ x ∈ l, U8 x := by
  obtain ⟨a, c, l, rfl, h1, h2, h3, h4⟩ := h.sl' (fun b : Int => [J b]) U8 fun x hx => by
    obtain ⟨p, r, rfl, up, h⟩ := take_u8 hx
    rw [h.nil']
    exact ⟨p, rfl, up⟩
  rw [bytes_flat] at h3
  exact ⟨a, c, l, rfl, h3, h4⟩
variable {H : Type} {enc : TypeId × Value → H} {base b0 : Nat} {held : Bool} {spare : Nat → Bool} {reach : Reach}
set_option maxRecDepth 100000 in
theorem open_shop {v : Value} {d : DataW H} {ps : List MemPlace} (hv : Value.okWide Try.prog w reach b0 64 v) (hd : DataW.Trod enc Try.prog w base spare held 64 v d ps) :
    ∃ (x0 x1 x2 x3 x4 : Int) (a : Option Addr) (c : Nat) (l : List Sp), v = .agg #[J x0, J x1, J x2, J x3, J x4, .slice a l.length c] ∧ U8 x0 ∧ U8 x1 ∧ U8 x2 ∧ U8 x3 ∧ U8 x4 ∧ Cells w a (pairs8 l) ∧ ∀ s ∈ l, U8 s.1 ∧ U8 s.2 := by
  obtain ⟨cs, rfl, h⟩ := open_agg agg_shop leaves_shop hv hd
  obtain ⟨x0, _, rfl, h0, h⟩ := take_u8 h
  obtain ⟨x1, _, rfl, h1, h⟩ := take_u8 h
  obtain ⟨x2, _, rfl, h2, h⟩ := take_u8 h
  obtain ⟨x3, _, rfl, h3, h⟩ := take_u8 h
  obtain ⟨x4, _, rfl, h4, h⟩ := take_u8 h
  obtain ⟨v, rest, rfl, h5, h6⟩ := h.cons'
  obtain ⟨a, c, l, rfl, g1, g2⟩ := take_pairs8 h5
  rw [h6.nil']
  exact ⟨x0, x1, x2, x3, x4, a, c, l, rfl, h0, h1, h2, h3, h4, g1, g2⟩
set_option maxRecDepth 100000 in
theorem open_b3 {v : Value} {d : DataW H} {ps : List MemPlace} (hv : Value.okWide Try.prog w reach b0 65 v) (hd : DataW.Trod enc Try.prog w base spare held 65 v d ps) :
    ∃ x y z : Int, v = .agg #[J x, J y, J z] ∧ U8 x ∧ U8 y ∧ U8 z := by
  obtain ⟨cs, rfl, h⟩ := open_agg agg_b3 leaves_b3 hv hd
  obtain ⟨x, _, rfl, hx, h⟩ := take_u8 h
  obtain ⟨y, _, rfl, hy, h⟩ := take_u8 h
  obtain ⟨z, _, rfl, hz, h⟩ := take_u8 h
  rw [h.nil']
  exact ⟨x, y, z, rfl, hx, hy, hz⟩
set_option maxRecDepth 100000 in
theorem open_bytes {v : Value} {d : DataW H} {ps : List MemPlace} (hv : Value.okWide Try.prog w reach b0 66 v) (hd : DataW.Trod enc Try.prog w base spare held 66 v d ps) :
    ∃ a c, ∃ l : List Int, v = .slice a l.length c ∧ Cells w a (bytes l) ∧ ∀ x ∈ l, U8 x := take_bytes (open_one agg_bs leaves_bs hv hd)
end
end Go.Proofs.R07
end
section
/- Lemmas for the laws without the reference. -/
namespace Go.Proofs.R07
open Go.Vc Go.RowKit Go.Proofs

theorem check_good {r : Rules} (hr : Good r) : check r = 0 := by
  unfold check; rw [if_neg (by have := hr.1; omega), if_pos hr.2]
theorem start_ok {r : Rules} (hr : Good r) {s : St} (hs : okSp (s.lo, s.hi)) (hl : s.used.length = r.ws.length) : startErr r s = 0 := by
  have h2 : okSt r s = true := by
    unfold okSt
    rw [Bool.and_eq_true, beq_iff_eq]
    exact ⟨(isSpan_iff (s.lo, s.hi) (-300) 300).2 hs, hl⟩
  unfold startErr
  rw [if_pos (check_good hr), if_pos h2]

theorem fewestR_some {r : Rules} {s : St} {n : Nat} (h : startErr r s = 0) (hf : few r (setOf s.used) (s.lo, s.hi) = some n) : fewestR r s = (((n : Nat) : Int), 0) := by
  unfold fewestR; rw [if_neg (by omega), hf]
theorem few_le {r : Rules} (hr : Good r) {n u : Nat} (hn : n < 7) {s : Sp} (hs : okSp s) (h : Enough r n u s) : ∃ k, k ≤ n ∧ few r u s = some k := by
  rw [few_eq hr hs]
  cases hf : (List.range 7).find? fun n => enoughB r n u s with
  | none =>
    rw [List.find?_eq_none] at hf
    exact absurd (enoughB_iff.2 h) (hf n (List.mem_range.2 hn))
  | some k =>
    refine ⟨k, Nat.le_of_not_lt fun hlt => ?_, rfl⟩
    rw [List.find?_range_eq_some] at hf
    have := hf.2.2 n hlt
    rw [enoughB_iff.2 h] at this
    simp at this
theorem few_enough {r : Rules} (hr : Good r) {n u : Nat} {s : Sp} (hs : okSp s) (h : few r u s = some n) : Enough r n u s ∧ n < 7 ∧ ∀ k, k < n → ¬ Enough r k u s := by
  rw [few_eq hr hs, List.find?_range_eq_some] at h
  exact ⟨enoughB_iff.1 h.1, List.mem_range.1 h.2.1, fun k hk he => by have := h.2.2 k hk; rw [enoughB_iff.2 he] at this; simp at this⟩
theorem act_of_few {r : Rules} (hr : Good r) {n u : Nat} (hu : u < 8) {s : Sp} (hs : okSp s) (h : few r u s = some (n + 1)) : ∃ a img u', firstAct r n u s = some a ∧ move r s u a = some (img, u') ∧
    ∀ seen : Int, img.1 - r.err ≤ seen → seen ≤ img.2 + r.err → max img.1 (seen - r.err) ≤ min img.2 (seen + r.err) → Enough r n u' (max img.1 (seen - r.err), min img.2 (seen + r.err)) := by
  obtain ⟨he, _, hno⟩ := few_enough hr hs h
  have h0 := hno 0 (by omega)
  simp only [Enough] at he h0
  rcases he with he | ⟨a, ha, img, u', hm, hall⟩
  · exact absurd he h0
  · have hd : doesB r n u s a = true := by
      unfold doesB; rw [hm]; simp only
      exact seenAll_iff.2 fun seen q1 q2 q3 => enoughB_iff.2 (hall seen q1 q2 q3)
    cases hf : firstAct r n u s with
    | none =>
      rw [firstAct_eq hr hu, List.find?_eq_none] at hf
      exact absurd hd (hf a ha)
    | some b =>
      have hb : doesB r n u s b = true := by
        rw [firstAct_eq hr hu] at hf
        exact List.find?_some hf
      unfold doesB at hb
      split at hb
      · cases hb
      · rename_i img2 u2 hm2
        exact ⟨b, img2, u2, rfl, hm2, fun seen q1 q2 q3 => enoughB_iff.1 (seenAll_iff.1 hb seen q1 q2 q3)⟩

theorem mkS_ok (x0 x1 x2 : Int) (n : Nat) (h0 : U8 x0) : okSp ((mkS x0 x1 x2 n).lo, (mkS x0 x1 x2 n).hi) := by
  unfold U8 at h0
  show -300 ≤ x0 - 128 ∧ x0 - 128 ≤ x0 - 128 + x1 % 30 ∧ x0 - 128 + x1 % 30 ≤ 300
  omega
theorem mkS_len (x0 x1 x2 : Int) (n : Nat) : (mkS x0 x1 x2 n).used.length = n := by simp [mkS]

end Go.Proofs.R07
end
section
/- RateEnough: the walk. -/
namespace Go.Proofs.R07
open Go.Vc Go.RowKit Go.Proofs

/-- What holds between two visits. -/
structure Visit (r : Rules) (bs : List Nat) (a1 : Option Addr) (s : St) (n t k : Int) (a : Option Addr) (w : World) : Prop where
  sp : okSp (s.lo, s.hi)
  len : s.used.length = r.ws.length
  few : ∃ n' : Nat, n = n' ∧ few r (setOf s.used) (s.lo, s.hi) = some n' ∧ 0 ≤ k ∧ k + n' ≤ 6
  truth : s.lo ≤ t ∧ t ≤ s.hi
  own : ∀ x ∈ bs, x < w.heap.size
  rules : Lies bs 0 w.heap.size w a1 (spans r.ws)
  used : Lies bs 0 w.heap.size w a (bools s.used)

end Go.Proofs.R07
end
section
/- The conditions of the functions, printed by program; each is what the generator reckons (kernel_rfl). -/
namespace Go.Proofs
open Go.Vc
end Go.Proofs
end
section
/- RateNoFewer: the walk. -/
namespace Go.Proofs.R07
open Go.Vc Go.RowKit Go.Proofs

theorem enough_more {r : Rules} : ∀ {v v' u : Nat} {s : Sp}, v ≤ v' → Enough r v u s → Enough r v' u s
  | 0, 0, _, _, _, h => h
  | 0, v' + 1, _, _, _, h => .inl h
  | v + 1, 0, _, _, hv, _ => by omega
  | v + 1, v' + 1, _, _, hv, h => h.imp id fun ⟨a, ha, img, u', hm, hall⟩ => ⟨a, ha, img, u', hm, fun seen q1 q2 q3 => enough_more (by omega) (hall seen q1 q2 q3)⟩

/-- Rules and a state in memory, besides the call's own variables. -/
structure Base (r : Rules) (s : St) (bs : List Nat) (a1 a2 : Option Addr) (w : World) : Prop where
  own : ∀ x ∈ bs, x < w.heap.size
  rules : Lies bs 0 w.heap.size w a1 (spans r.ws)
  used : Lies bs 0 w.heap.size w a2 (bools s.used)
section
variable {r : Rules} {s : St} {bs : List Nat} {a1 a2 : Option Addr} {w w' : World}
end

/-- An act that there is, allowed or not. -/
def ValidAct (r : Rules) (x : Int × Int) : Prop := (x.2 = -1 ∧ -r.turns ≤ x.1 ∧ x.1 ≤ r.turns) ∨ (x.1 = 0 ∧ 0 ≤ x.2 ∧ x.2 < r.ws.length)
def effR (r : Rules) (x : Int × Int) : Sp := if x.2 = -1 then (min (x.1 * r.tlo) (x.1 * r.thi), max (x.1 * r.tlo) (x.1 * r.thi)) else (r.ws[x.2.toNat]?).getD (0, 0)
def usedAt (s : St) (y : Int) : Bool := decide (0 ≤ y) && (s.used[y.toNat]?).getD false
/-- Is an act that there is allowed? -/
def allowedB (r : Rules) (s : St) (x : Int × Int) : Bool := decide (-300 ≤ (effR r x).1 + s.lo) && (decide ((effR r x).2 + s.hi ≤ 300) && !usedAt s x.2)
/-- How many visits are needed; 7 if there are not enough. -/
def need (r : Rules) (s : St) : Nat := (few r (setOf s.used) (s.lo, s.hi)).getD 7
end Go.Proofs.R07
end
section
/- RateNoFewer: the walk. -/
namespace Go.Proofs.R07
open Go.Vc Go.RowKit Go.Proofs

/-- What is known between two sights. -/
structure Sights (r : Rules) (s : St) (x : Int × Int) (most seen : Int) : Prop where
  lo : (effR r x).1 + s.lo - r.err ≤ seen
  hi : seen ≤ (effR r x).2 + s.hi + r.err + 1
  bound : 0 ≤ most ∧ most ≤ 7
  no : allowedB r s x = false → seen = (effR r x).1 + s.lo - r.err
  all : allowedB r s x = true → ∀ seen' : Int, (effR r x).1 + s.lo - r.err ≤ seen' → seen' < seen → (need r (nextR r s x.2 ((effR r x).1 + s.lo, (effR r x).2 + s.hi) seen') : Int) ≤ most

end Go.Proofs.R07
end
section
/- The conditions of the functions, printed by program; each is what the generator reckons (kernel_rfl). -/
namespace Go.Proofs
open Go.Vc
end Go.Proofs
end
section
/- RateNarrows: lemmas. -/
namespace Go.Proofs.R07
open Go.Vc Go.RowKit Go.Proofs

/-- Rules and a state that are known better. -/
structure Nar (r q : Rules) (u u' : Nat) (s t : Sp) : Prop where
  limit : r.limit ≤ q.limit
  err : q.err ≤ r.err
  turn : r.tlo ≤ q.tlo ∧ q.thi ≤ r.thi
  turns : q.turns = r.turns
  len : q.ws.length = r.ws.length
  ws : ∀ i (h : i < r.ws.length) (h' : i < q.ws.length), (r.ws[i]).1 ≤ (q.ws[i]).1 ∧ (q.ws[i]).2 ≤ (r.ws[i]).2
  used : ∀ i, i < r.ws.length → has u' i = true → has u i = true
  span : s.1 ≤ t.1 ∧ t.2 ≤ s.2

theorem mul_in {a x y z : Int} (h1 : x ≤ y) (h2 : y ≤ z) : min (a * x) (a * z) ≤ a * y ∧ a * y ≤ max (a * x) (a * z) := by
  rcases Int.le_total 0 a with h | h
  · have g1 := Int.mul_le_mul_of_nonneg_left h1 h
    have g2 := Int.mul_le_mul_of_nonneg_left h2 h
    omega
  · have g1 := Int.mul_le_mul_of_nonpos_left h h1
    have g2 := Int.mul_le_mul_of_nonpos_left h h2
    omega

theorem shift_nar {r q : Rules} (hq : Good q) {u u' : Nat} {s t : Sp} (N : Nar r q u u' s t) {a : Int × Int} {p : Sp} (h : shift r u a = some p) : ∃ p', shift q u' a = some p' ∧ p.1 ≤ p'.1 ∧ p'.2 ≤ p.2 := by
  have hqt := hq.2.2.2.1
  have ht := N.turn
  unfold shift at h ⊢
  by_cases hy : a.2 = -1
  · rw [if_pos hy] at h ⊢
    rw [N.turns]
    split at h
    · simp only [Option.some.injEq] at h
      subst h
      rename_i hh
      rw [if_pos hh]
      have g1 := mul_in (a := a.1) (x := r.tlo) (y := q.tlo) (z := r.thi) (by omega) (by omega)
      have g2 := mul_in (a := a.1) (x := r.tlo) (y := q.thi) (z := r.thi) (by omega) (by omega)
      refine ⟨_, rfl, ?_, ?_⟩
      · show min (a.1 * r.tlo) (a.1 * r.thi) ≤ min (a.1 * q.tlo) (a.1 * q.thi)
        omega
      · show max (a.1 * q.tlo) (a.1 * q.thi) ≤ max (a.1 * r.tlo) (a.1 * r.thi)
        omega
    · cases h
  · rw [if_neg hy] at h ⊢
    split at h
    · rename_i hh
      obtain ⟨h0, h1, h2, h3⟩ := hh
      have hi : a.2.toNat < r.ws.length := by omega
      have hi' : a.2.toNat < q.ws.length := by have := N.len; omega
      have hf : has u' a.2.toNat = false := by
        cases hb : has u' a.2.toNat with
        | false => rfl
        | true => rw [N.used _ hi hb] at h2; cases h2
      rw [if_pos ⟨h0, by rw [N.len]; exact h1, hf, h3⟩, getElem_of_lt hi']
      rw [getElem_of_lt hi] at h
      simp only [Option.some.injEq] at h
      subst h
      exact ⟨_, rfl, N.ws _ hi hi'⟩
    · cases h

theorem acts_nar {r q : Rules} (h1 : q.turns = r.turns) (h2 : q.ws.length = r.ws.length) : acts q = acts r := by unfold acts; rw [h1, h2]

theorem move_nar {r q : Rules} (hr : Good r) (hq : Good q) {u u' : Nat} (hu' : u' < 8) {s t : Sp} (ht : okSp t) (N : Nar r q u u' s t) {a : Int × Int} {img : Sp} {v : Nat} (h : move r s u a = some (img, v)) :
    ∃ img' v', move q t u' a = some (img', v') ∧ Nar r q v v' img img' := by
  unfold move at h
  split at h
  · cases h
  · rename_i p hp
    obtain ⟨p', hp', g1, g2⟩ := shift_nar hq N hp
    have hb' := shift_bound hq hp'
    split at h
    · rename_i hok
      simp only [Option.some.injEq, Prod.mk.injEq] at h
      obtain ⟨rfl, rfl⟩ := h
      have hsp := (isSpan_iff _ _ _).1 hok
      simp only at hsp
      obtain ⟨t1, t2, t3⟩ := ht
      have hs := N.span
      have hok' : isSpan (t.1 + p'.1, t.2 + p'.2) (-300) 300 = true := (isSpan_iff _ _ _).2 (by simp only; omega)
      refine ⟨(t.1 + p'.1, t.2 + p'.2), _, by unfold move; rw [hp']; simp only; rw [if_pos hok'], ⟨N.limit, N.err, N.turn, N.turns, N.len, N.ws, fun i hi hh => ?_, by simp only; omega⟩⟩
      by_cases hy : a.2 = -1
      · rw [if_pos hy] at hh ⊢
        exact N.used i hi hh
      · rw [if_neg hy] at hh ⊢
        rw [has_put] at hh ⊢
        rw [Bool.or_eq_true] at hh ⊢
        exact hh.imp (N.used i hi) id
    · cases h

theorem enough_nar {r q : Rules} (hr : Good r) (hq : Good q) : ∀ {v u u' : Nat} {s t : Sp}, u < 8 → u' < 8 → okSp t → Nar r q u u' s t → Enough r v u s → Enough q v u' t
  | 0, _, _, s, t, _, _, _, N, h => by
    have := N.limit
    have := N.span
    simp only [Enough] at h ⊢
    omega
  | v + 1, u, u', s, t, hu, hu', ht, N, h => by
    have hl := N.limit
    have hsp := N.span
    have he := N.err
    have hqe := hq.2.2.1
    simp only [Enough] at h ⊢
    rcases h with h | ⟨a, ha, img, u1, hm, hall⟩
    · left; omega
    · right
      obtain ⟨img', u1', hm', N'⟩ := move_nar hr hq hu' ht N hm
      rw [acts_nar N.turns N.len]
      have f1 := move_facts hr hu hm
      have f2 := move_facts hq hu' hm'
      have hsp' := N'.span
      refine ⟨a, ha, img', u1', hm', fun seen q1 q2 q3 => ?_⟩
      obtain ⟨k1, k2, k3⟩ := f2.2
      refine enough_nar hr hq (s := (max img.1 (seen - r.err), min img.2 (seen + r.err))) f1.1 f2.1 ?_ ⟨N'.limit, N'.err, N'.turn, N'.turns, N'.len, N'.ws, N'.used, ?_⟩ (hall seen (by omega) (by omega) (by omega))
      · show -300 ≤ max _ _ ∧ max img'.1 (seen - q.err) ≤ min img'.2 (seen + q.err) ∧ min _ _ ≤ 300
        omega
      · show max img.1 (seen - r.err) ≤ max img'.1 (seen - q.err) ∧ min img'.2 (seen + q.err) ≤ min img.2 (seen + r.err)
        omega

/-- A span around one of its integers. -/
def narrowR (s : Sp) (n : Int) : Sp := ((s.1 + (s.1 + n * (s.2 - s.1) / 255)) / 2, (s.2 + (s.1 + n * (s.2 - s.1) / 255) + 1) / 2)
/-- The weights that are used, some of them struck. -/
def strike (x : Int) (k : Nat) (l : List Bool) : List Bool := l.mapIdx fun i b => if i < k then b && bitU x (i : Nat) else b
/-- The weights, some of them narrower. -/
def thin (f : Nat → Int) (k : Nat) (l : List Sp) : List Sp := l.mapIdx fun i p => if i < k then narrowR p (f i) else p
theorem thin_len (f : Nat → Int) (k : Nat) (l : List Sp) : (thin f k l).length = l.length := by simp [thin]
end Go.Proofs.R07
end
section
/- The conditions of the functions, printed by program; each is what the generator reckons (kernel_rfl). -/
namespace Go.Proofs
open Go.Vc
set_option maxRecDepth 100000 in
set_option maxHeartbeats 2000000 in
theorem vc27 (la : Option Addr) (ln : Nat) (lc : Nat) (w : World) (R : Ending → World → Prop) (h : ∀ (m1 : Nat), w.heap.size ≤ m1 → ∃ (F1 : List Lf → World → Prop), ∃ (F2 : List Lf
    → Nat), (∀ (w1 : World), RowKit.Below w.heap.size w w1 → Kept [m1] w w1 → w1.heap[m1]? = some (Obj.cells #[] 56) → F1 [Lf.sl (some { block := m1, off := 0 }) 0 0, Lf.int
    IntKind.i64 0] w1) ∧ ∀ (a1 : Option Addr) (m2 m3 : Nat) (x1 : Int) (w2 : World), RowKit.Below w.heap.size w w2 → F1 [Lf.sl a1 m2 m3, Lf.int IntKind.i64 x1] w2 → (x1 < (↑ln :
    Int) → ∃ (m4 : Nat), ∃ (m5 : Nat), la = some { block := m4, off := m5 } ∧ (0 ≤ x1 ∧ x1 < (↑ln : Int)) ∧ ∃ (x2 : Int), ∃ (x3 : Int), ∃ (a2 : Option Addr), ∃ (m6 : Nat), ∃ (m7 :
    Nat), w2.cell? { block := m4, off := m5 + x1.toNat * 6 + 0 } = some (Value.int IntKind.i64 x2) ∧ w2.cell? { block := m4, off := m5 + x1.toNat * 6 + 0 + 1 } = some (Value.int
    IntKind.i64 x3) ∧ w2.cell? { block := m4, off := m5 + x1.toNat * 6 + 0 + 1 + 1 } = some (Value.slice a2 m6 m7) ∧ ∀ (w3 : World), RowKit.Below w.heap.size w w3 → KeptIn [(0,
    w2.heap.size)] [] w2 w3 → Calls Try.prog 14 #[Value.agg #[Value.int IntKind.i64 x2, Value.int IntKind.i64 x3, Value.slice a2 m6 m7]] w3 fun (e1 : Ending) (w4 : World) => ∃ (x4
    : Int), ∃ (x5 : Int), ∃ (a3 : Option Addr), ∃ (m8 : Nat), ∃ (m9 : Nat), e1 = Ending.returned (Value.agg #[Value.int IntKind.i64 x4, Value.int IntKind.i64 x5, Value.slice a3 m8
    m9]) ∧ RowKit.Below w3.heap.size w3 w4 ∧ ∃ (m10 : Nat), ∃ (m11 : Nat), la = some { block := m10, off := m11 } ∧ (0 ≤ x1 ∧ x1 < (↑ln : Int)) ∧ ∃ (x6 : Int), w2.cell?
    { block := m10, off := m11 + x1.toNat * 6 + 3 } = some (Value.int IntKind.i64 x6) ∧ ∃ (m12 : Nat), ∃ (m13 : Nat), la = some { block := m12, off := m13 } ∧ (0 ≤ x1 ∧ x1 < (↑ln :
    Int)) ∧ ∃ (x7 : Int), ∃ (x8 : Int), w2.cell? { block := m12, off := m13 + x1.toNat * 6 + 4 } = some (Value.int IntKind.i64 x7) ∧ w2.cell?
    { block := m12, off := m13 + x1.toNat * 6 + 4 + 1 } = some (Value.int IntKind.i64 x8) ∧ ∀ (m14 : Nat), w2.heap.size ≤ m14 → m14 < w3.heap.size ∨ w4.heap.size ≤ m14 → ∀ (w5 :
    World), RowKit.Below w.heap.size w w5 → KeptIn [(0, w2.heap.size), (w3.heap.size, w4.heap.size)] [m14] w4 w5 → w5.heap[m14]? = some (Obj.cells #[Value.int IntKind.i64 x4,
    Value.int IntKind.i64 x5, Value.slice a3 m8 m9, Value.int IntKind.i64 x6, Value.int IntKind.i64 x7, Value.int IntKind.i64 x8] 56) → RunsTo Try.prog (Builtin.append_ #[54, 54]
    54 #[Value.slice a1 m2 m3, Value.slice (some { block := m14, off := 0 }) 1 1]) w5 fun (v1 : Value) (w6 : World) => ∃ (a4 : Option Addr), ∃ (m15 : Nat), ∃ (m16 : Nat), v1 =
    Value.slice a4 m15 m16 ∧ KeepX true w.heap.size [m14] (fun _ => False) w5 w6 ∧ (-9223372036854775808 ≤ x1 + 1 ∧ x1 + 1 ≤ 9223372036854775807) ∧ ∀ (w7 : World), RowKit.Below
    w.heap.size w w7 → Kept [m14] w6 w7 → F1 [Lf.sl a4 m15 m16, Lf.int IntKind.i64 (x1 + 1)] w7 ∧ F2 [Lf.sl a4 m15 m16, Lf.int IntKind.i64 (x1 + 1)] < F2 [Lf.sl a1 m2 m3, Lf.int
    IntKind.i64 x1]) ∧ ((↑ln : Int) ≤ x1 → ∀ (w8 : World), RowKit.Below w.heap.size w w8 → Kept [] w2 w8 → R (Ending.returned (Value.slice a1 m2 m3)) w8)) : Calls Try.prog 27
    #[Value.slice la ln lc] w R := calls_of_vc (pure := true) (wrapAt := []) (muts := []) (esc := []) (args := [SV.pv (PV.one (Lf.sl la ln lc))]) (vs := [Value.slice la ln lc])
    Try.func27 rfl rfl rfl (Eq.mp (by kernel_rfl) h) 
end Go.Proofs
end
section
/- The laws' copies of claims. -/
namespace Go.Proofs.R07
open Go.Vc Go.RowKit Go.Proofs

/-- The blocks of the claims' weights. -/
def ubs (l : List ClM) : List Nat := l.filterMap fun x => if x.1.st.used = [] then none else x.2.1.map Addr.block
theorem mem_ubs {l : List ClM} {n : Nat} : n ∈ ubs l ↔ ∃ x ∈ l, x.1.st.used ≠ [] ∧ ∃ ad, x.2.1 = some ad ∧ ad.block = n := by
  unfold ubs
  rw [List.mem_filterMap]
  refine exists_congr fun x => and_congr Iff.rfl ?_
  by_cases h : x.1.st.used = []
  · simp [h]
  · simp [h]
theorem bools_nil {l : List Bool} : bools l = [] ↔ l = [] := by simp [bools]

theorem chg_sub {bs cs : List Nat} {w w' : World} (h : Chg bs w w') (hs : ∀ x ∈ bs, x ∈ cs) : Chg cs w w' := h.mono fun x hx => .inl (hs x hx)
/-- Each claim's weights. -/
def UsedAt (lo : Nat) (w : World) (l : List ClM) : Prop := ∀ x ∈ l, Cells w x.2.1 (bools x.1.st.used) ∧ Rng lo w.heap.size (bools x.1.st.used) x.2.1
theorem cells_out {w w' : World} {a : Option Addr} {vs : List Value} {S : List Nat} (h : Cells w a vs) (hc : Chg S w w') (hs : ∀ b o, a = some ⟨b, o, none⟩ → vs ≠ [] → b ∉ S) : Cells w' a vs := fun i v hi => by
  obtain ⟨b, o, e, hcl⟩ := h i v hi
  exact ⟨b, o, e, hc.cell (hs b o e (fun h => by rw [h] at hi; simp at hi)) hcl⟩
theorem Rng.up {lo hi hi' : Nat} {vs : List Value} {a : Option Addr} (h : Rng lo hi vs a) (hh : hi ≤ hi') : Rng lo hi' vs a := h.imp id fun h b o e => ⟨(h b o e).1, by have := (h b o e).2; omega⟩
theorem Rng.down {lo lo' hi : Nat} {vs : List Value} {a : Option Addr} (h : Rng lo hi vs a) (hh : lo' ≤ lo) : Rng lo' hi vs a := h.imp id fun h b o e => ⟨by have := (h b o e).1; omega, (h b o e).2⟩
theorem UsedAt.chg {lo : Nat} {w w' : World} {l : List ClM} {S : List Nat} (h : UsedAt lo w l) (hc : Chg S w w') (hs : ∀ n ∈ ubs l, n ∉ S) : UsedAt lo w' l := fun x hx =>
  ⟨cells_out (h x hx).1 hc fun b o e hne => hs b (mem_ubs.2 ⟨x, hx, fun h => hne (bools_nil.2 h), _, e, rfl⟩), (h x hx).2.up hc.size⟩
theorem UsedAt.ub {lo : Nat} {w : World} {l : List ClM} (h : UsedAt lo w l) {n : Nat} (hn : n ∈ ubs l) : lo ≤ n ∧ n < w.heap.size := by
  obtain ⟨x, hx, hne, ⟨b, o, sp⟩, e, rfl⟩ := mem_ubs.1 hn
  have hne' : bools x.1.st.used ≠ [] := fun h => hne (bools_nil.1 h)
  obtain ⟨b', o', e', _⟩ := (h x hx).1 0 _ (List.getElem?_eq_getElem (List.length_pos_iff.2 hne'))
  rw [e] at e'
  simp only [Option.some.injEq, Addr.mk.injEq] at e'
  obtain ⟨rfl, rfl, rfl⟩ := e'
  rcases (h x hx).2 with h0 | h0
  · exact absurd h0 hne'
  · exact h0 b o e

def ClsPost (l : List ClM) (w : World) (e : Ending) (w' : World) : Prop := ∃ a c, ∃ l' : List ClM, e = .returned (.slice a l.length c) ∧ Below w.heap.size w w' ∧ l'.map (·.1) = l.map (·.1) ∧
  Cells w' a (l'.flatMap clV) ∧ Rng w.heap.size w'.heap.size (l'.flatMap clV) a ∧ UsedAt w.heap.size w' l'

theorem ClsPost.at {l' : List ClM} {w : World} {a : Option Addr} {lo : Nat} (h1 : Cells w a (l'.flatMap clV)) (h2 : UsedAt lo w l') : ClsAt w a l' := ⟨h1, fun x hx => (h2 x hx).1⟩

/-- The same, with the row that was built. -/
def ClsPost2 (l : List ClM) (w : World) (e : Ending) (w' : World) : Prop := ∃ a c, ∃ l' : List ClM, e = .returned (.slice a l.length c) ∧ Below w.heap.size w w' ∧ l'.map (·.1) = l.map (·.1) ∧
  RowE 56 6 w.heap.size (ubs l') a l.length c (l'.flatMap clV) w' ∧ UsedAt w.heap.size w' l'

set_option maxHeartbeats 2000000 in
theorem claims2_any {l : List ClM} {la : Option Addr} {lc : Nat} {w : World} (hl : ClsAt w la l) (hn : l.length ≤ 100000) (hu : ∀ x ∈ l, x.1.st.used.length ≤ 100000) : Calls Try.prog 27 #[.slice la l.length lc] w (ClsPost2 l w) := by
  refine vc27 _ _ _ w _ fun m1 h1 => ?_
  refine ⟨fun ls w' => match ls with | [.sl a' n c', .int _ x] => 0 ≤ x ∧ x ≤ l.length ∧ n = x.toNat ∧ ∃ l' : List ClM, l'.map (·.1) = (l.take x.toNat).map (·.1) ∧ RowE 56 6 w.heap.size (ubs l') a' n c' (l'.flatMap clV) w' ∧ UsedAt w.heap.size w' l' | _ => False,
    fun ls => match ls with | [_, .int _ x] => ((l.length : Int) - x).toNat | _ => 0, fun w1 hb hk _ => ⟨by omega, by omega, rfl, [], rfl, RowE.lit, fun x hx => by simp at hx⟩, ?_⟩
  rintro a1 n1 c1 x w2 hb2 ⟨h0, hx, rfl, l', hl', hrow, hused⟩
  refine ⟨fun hlt => ?_, fun hge w8 hb8 hk8 => ?_⟩
  · have hix : x.toNat < l.length := by omega
    have hget := getElem_of_lt hix
    generalize l[x.toNat] = cl at hget
    have hmem : cl ∈ l := List.mem_of_getElem? hget
    obtain ⟨p, q, rfl, d0⟩ := hl.row _ _ (cl_get hget (j := 0) (v := I cl.1.st.lo) rfl (by omega))
    have d1 := Cells.at hl.row (cl_get hget (j := 1) (v := I cl.1.st.hi) rfl (by omega))
    have d2 := Cells.at hl.row (cl_get hget (j := 2) (v := .slice cl.2.1 cl.1.st.used.length cl.2.2) rfl (by omega))
    have d3 := Cells.at hl.row (cl_get hget (j := 3) (v := I cl.1.visits) rfl (by omega))
    have d4 := Cells.at hl.row (cl_get hget (j := 4) (v := I cl.1.turns) rfl (by omega))
    have d5 := Cells.at hl.row (cl_get hget (j := 5) (v := I cl.1.weight) rfl (by omega))
    refine ⟨p, q, rfl, ⟨h0, hlt⟩, _, _, _, _, _, cell_at (cell_keep hb2 d0) (by omega), cell_at (cell_keep hb2 d1) (by omega), cell_at (cell_keep hb2 d2) (by omega), fun w3 hb3 hk3 => ?_⟩
    refine (state_any cl.1.st ((hl.used cl hmem).keep hb3) (hu cl hmem)).mono fun e w4 he => ?_
    obtain ⟨a3, c3, rfl, hb4, D4, _, N4⟩ := he
    have R4 := Rng.of D4 N4
    refine ⟨_, _, a3, _, c3, rfl, hb4, p, q, rfl, ⟨h0, hlt⟩, _, cell_at (cell_keep hb2 d3) (by omega), p, q, rfl, ⟨h0, hlt⟩, _, _, cell_at (cell_keep hb2 d4) (by omega), cell_at (cell_keep hb2 d5) (by omega), fun m14 g1 g2 w5 hb5 hk5 hc5 => ?_⟩
    have z3 := hk3.size
    have z4 := hb4.size
    have z5 := hk5.size
    have C5 : Chg [m14] w2 w5 := chg_in' (chg_sub (chg_in hk3) (by simp)) hb4 hk5
    have D5 := R4.kin D4 hk5 (by simp; omega) ⟨(w3.heap.size, w4.heap.size), by simp, Nat.le_refl _, Nat.le_refl _⟩
    have o14 := hk5.own m14 (by simp)
    let l2 : List ClM := l' ++ [(cl.1, a3, c3)]
    have U5' := hused.chg C5 (by
      intro n hn
      have := (hused.ub hn).2
      simp; omega)
    have U5 : UsedAt w.heap.size w5 l2 := fun y hy => by
      rcases List.mem_append.1 hy with hy | hy
      · exact U5' y hy
      · rw [List.mem_singleton.1 hy]
        exact ⟨D5, (R4.down (by have := hb3.size; omega)).up z5⟩
    have hub : ∀ n ∈ ubs l2, n ∈ ubs l' ∨ w2.heap.size ≤ n := fun n hn => by
      obtain ⟨y, hy, hne, ad, e, rfl⟩ := mem_ubs.1 hn
      rcases List.mem_append.1 hy with hy | hy
      · exact .inl (mem_ubs.2 ⟨y, hy, hne, ad, e, rfl⟩)
      · rw [List.mem_singleton.1 hy] at hne e
        right
        have hne' : bools cl.1.st.used ≠ [] := fun h => hne (bools_nil.1 h)
        obtain ⟨b', o', e', _⟩ := D5 0 _ (List.getElem?_eq_getElem (List.length_pos_iff.2 hne'))
        simp only at e
        rw [e] at e'
        obtain rfl := Option.some.inj e'
        rcases R4 with h | h
        · exact absurd h hne'
        · have := (h b' o' e).1
          simp only; omega
    have R2 : RowE 56 6 w.heap.size ([m14] ++ ubs l2) a1 x.toNat c1 (l'.flatMap clV) w2 := by
      have := hrow.grow (ms := m14 :: (ubs l2).filter fun n => decide (w2.heap.size ≤ n)) (by
        intro m hm
        rcases List.mem_cons.1 hm with rfl | hm
        · exact g1
        · simpa using (List.mem_filter.1 hm).2)
      refine this.less fun n hn => ?_
      rcases List.mem_append.1 hn with hn | hn
      · rw [List.mem_singleton.1 hn]; simp
      · rcases hub n hn with h | h
        · exact List.mem_append_right _ h
        · exact List.mem_append_left _ (List.mem_cons_of_mem _ (List.mem_filter.2 ⟨hn, by simpa using h⟩))
    have R5 := R2.chg C5 (by simp)
    refine append_rowE (P := Try.prog) (bytes := 64) (by kernel_rfl) (by omega) R5 (m := 1) (news := clV (cl.1, a3, c3)) (Cells.obj (vs := clV (cl.1, a3, c3)) hc5) rfl (by simp [clV]; exact ⟨rfl, rfl, rfl, rfl, rfl, rfl⟩) (by omega) (by omega) hb5.size (by
      intro n hn
      rcases List.mem_append.1 hn with hn | hn
      · rw [List.mem_singleton.1 hn]; exact o14
      · exact (U5.ub hn).2) (by omega) fun a4 c4 w6 R6 S cS hS => ?_
    have U6 := U5.chg cS fun n hn hh => (hS n hh).2 (List.mem_append_right _ hn)
    refine ⟨a4, _, c4, rfl, cS.own (fun b hb => ⟨hk5.own b hb, fun hh => (hS b hh).2 (List.mem_append_left _ hb)⟩) (by simp) (fun _ => ⟨hb5.size, fun b hb => (hS b hb).1⟩), by omega, fun w7 hb7 hk7 => ⟨⟨by omega, by omega, by omega, l2, ?_, ?_, U6.chg (Chg.kept hk7) ?_⟩, ?_⟩⟩
    · rw [show (x + 1).toNat = x.toNat + 1 by omega, List.take_add_one, List.map_append, List.map_append, hl', hget]; rfl
    · have := ((R6.chg (Chg.kept hk7) (by simp)).drop (ms := [m14]))
      rw [show l2.flatMap clV = l'.flatMap clV ++ clV (cl.1, a3, c3) by simp [l2, List.flatMap_append]]
      exact .inr this
    · intro n hn
      rcases hub n hn with h | h
      · have := (hused.ub h).2; simp; omega
      · obtain ⟨y, hy, hne, ad, e, rfl⟩ := mem_ubs.1 hn
        rcases List.mem_append.1 hy with hy | hy
        · have := (hused.ub (mem_ubs.2 ⟨y, hy, hne, ad, e, rfl⟩)).2; omega
        · rw [List.mem_singleton.1 hy] at hne e
          have hne' : bools cl.1.st.used ≠ [] := fun h => hne (bools_nil.1 h)
          obtain ⟨b', o', e', _⟩ := D5 0 _ (List.getElem?_eq_getElem (List.length_pos_iff.2 hne'))
          simp only at e
          rw [e] at e'
          obtain rfl := Option.some.inj e'
          rcases R4 with h | h
          · exact absurd h hne'
          · have := h b' o' e
            simp; omega
    · show ((l.length : Int) - (x + 1)).toNat < ((l.length : Int) - x).toNat
      omega
  · obtain rfl : x = l.length := by omega
    have R8 := hrow.chg (Chg.kept hk8) (by simp)
    have U8 := hused.chg (Chg.kept hk8) (by simp)
    exact ⟨a1, c1, l', by simp, hb8, by simpa using hl', R8, U8⟩
theorem claims_any {l : List ClM} {la : Option Addr} {lc : Nat} {w : World} (hl : ClsAt w la l) (hn : l.length ≤ 100000) (hu : ∀ x ∈ l, x.1.st.used.length ≤ 100000) : Calls Try.prog 27 #[.slice la l.length lc] w (ClsPost l w) := by
  refine (claims2_any hl hn hu).mono fun e w' he => ?_
  obtain ⟨a1, c1, l', rfl, hb8, hl', R8, U8⟩ := he
  refine ⟨a1, c1, l', rfl, hb8, hl', R8.cells, ?_, U8⟩
  exact Rng.of R8.cells (by rcases R8.new with h | h; exact .inl h; exact .inr h)
end Go.Proofs.R07
end
section
/- The reference's proofs: Covers, Follows, Proves, Claims. -/
namespace Go.Proofs.R07
open Go.Vc Go.RowKit Go.Proofs

def coversR (c : Cl) (s : St) : Bool := decide (c.st.lo ≤ s.lo) && (decide (s.hi ≤ c.st.hi) && sub (setOf s.used) (setOf c.st.used))
/-- A claim covers what remains. -/
def coversSp (c : Cl) (u : Nat) (sp : Sp) : Bool := decide (c.st.lo ≤ sp.1) && (decide (sp.2 ≤ c.st.hi) && sub u (setOf c.st.used))
def refFollows (r : Rules) (l : List Cl) (c : Cl) : Bool :=
  if c.visits = 0 then decide ((c.turns, c.weight) = (0, -1)) && (decide (-r.limit ≤ c.st.lo) && decide (c.st.hi ≤ r.limit))
  else match move r (c.st.lo, c.st.hi) (setOf c.st.used) (c.turns, c.weight) with
    | none => false
    | some (m, u) => seenAll r m fun sp => l.any fun x => decide (x.visits < c.visits) && coversSp x u sp

end Go.Proofs.R07
end
section
/- What the program's proofs and the reference's say: the same. -/
namespace Go.Proofs.R07
open Go.Vc Go.RowKit Go.Proofs

theorem upd_le {c : Cl} {k : Int × Int} {u : Nat} {x t b : Int} : b ≤ upd c k u x t ↔ b ≤ t ∨ ((c.visits ≤ k.1 ∧ sub u (setOf c.st.used) = true ∧ c.st.lo = x) ∧ b ≤ c.st.hi) := by
  unfold upd
  split
  · rename_i h
    constructor
    · intro hb
      by_cases hbt : b ≤ t
      · exact .inl hbt
      · exact .inr ⟨h, by omega⟩
    · rintro (h | ⟨_, h⟩) <;> omega
  · rename_i h
    exact ⟨.inl, fun hh => hh.elim id fun hh => absurd hh.1 h⟩
theorem fold_upd_le {k : Int × Int} {u : Nat} {x b : Int} : ∀ {l : List Cl} {t : Int}, b ≤ l.foldl (fun t c => upd c k u x t) t ↔ b ≤ t ∨ ∃ c ∈ l, (c.visits ≤ k.1 ∧ sub u (setOf c.st.used) = true ∧ c.st.lo = x) ∧ b ≤ c.st.hi
  | [], t => by simp
  | c :: l, t => by
    rw [List.foldl_cons, fold_upd_le, upd_le, or_assoc]
    simp
theorem preMax_le {g : Int → Int} {b : Int} : ∀ {n : Nat}, b ≤ preMax g n ↔ ∃ i : Nat, i ≤ n ∧ b ≤ g (-300 + (i : Int))
  | 0 => by
    unfold preMax
    constructor
    · intro h; exact ⟨0, Nat.le_refl _, by simpa using h⟩
    · rintro ⟨i, hi, h⟩
      obtain rfl : i = 0 := by omega
      simpa using h
  | n + 1 => by
    unfold preMax
    rw [show (b ≤ max (g (-300 + ((n + 1 : Nat) : Int))) (preMax g n)) ↔ (b ≤ g (-300 + ((n + 1 : Nat) : Int)) ∨ b ≤ preMax g n) by omega, preMax_le]
    constructor
    · rintro (h | ⟨i, hi, h⟩)
      · exact ⟨n + 1, Nat.le_refl _, h⟩
      · exact ⟨i, by omega, h⟩
    · rintro ⟨i, hi, h⟩
      by_cases e : i = n + 1
      · subst e; exact .inl h
      · exact .inr ⟨i, by omega, h⟩
theorem reachV_le {l : List Cl} {v : Int} {u : Nat} {x b : Int} (h1 : -300 ≤ x) (hb : x ≤ b) (hlo : ∀ c ∈ l, -300 ≤ c.st.lo) :
    b ≤ reachV l (v, (u : Int)) x ↔ ∃ c ∈ l, c.visits ≤ v ∧ sub u (setOf c.st.used) = true ∧ c.st.lo ≤ x ∧ b ≤ c.st.hi := by
  unfold reachV
  rw [preMax_le]
  constructor
  · rintro ⟨i, hi, h⟩
    unfold reachB at h
    rw [fold_upd_le] at h
    rcases h with h | ⟨c, hc, ⟨g1, g2, g3⟩, g4⟩
    · omega
    · exact ⟨c, hc, g1, by simpa using g2, by omega, g4⟩
  · rintro ⟨c, hc, g1, g2, g3, g4⟩
    have := hlo c hc
    refine ⟨(c.st.lo + 300).toNat, by omega, ?_⟩
    unfold reachB
    rw [fold_upd_le]
    exact .inr ⟨c, hc, ⟨g1, by simpa using g2, by omega⟩, g4⟩

theorem seen_windows {e : Int} (he : 0 ≤ e) {lo hi : Int} (hlh : lo ≤ hi) {Q : Int → Int → Prop} (hQ : ∀ a b a' b', a ≤ a' → b' ≤ b → Q a b → Q a' b') :
    (∀ seen : Int, lo - e ≤ seen → seen ≤ hi + e → max lo (seen - e) ≤ min hi (seen + e) → Q (max lo (seen - e)) (min hi (seen + e))) ↔
    ∀ f : Int, lo ≤ f → f ≤ max lo (hi - 2 * e) → Q f (min hi (f + 2 * e)) := by
  constructor
  · intro h f h1 h2
    have := h (f + e) (by omega) (by omega) (by omega)
    rwa [show max lo (f + e - e) = f by omega, show min hi (f + e + e) = min hi (f + 2 * e) by congr 1; omega] at this
  · intro h seen h1 h2 h3
    by_cases hc : max lo (seen - e) ≤ max lo (hi - 2 * e)
    · exact hQ _ _ _ _ (Int.le_refl _) (by omega) (h _ (by omega) hc)
    · exact hQ _ _ _ _ (by omega) (by omega) (h (max lo (hi - 2 * e)) (by omega) (by omega))

end Go.Proofs.R07
end
section
/- Claims that prove: what holds of a list that is made as the program makes it (plain). -/
namespace Go.Proofs.R07
open Go.Vc Go.RowKit Go.Proofs

/-- A claim's key: a span, and the weights that are used. -/
abbrev Key := Sp × Nat
def usedL (r : Rules) (u : Nat) : List Bool := (List.range r.ws.length).map (has u)
theorem usedL_len (r : Rules) (u : Nat) : (usedL r u).length = r.ws.length := by simp [usedL]
def clOf (r : Rules) (k : Key) (v : Int) (a : Int × Int) : Cl := ⟨⟨k.1.1, k.1.2, usedL r k.2⟩, v, a.1, a.2⟩
theorem used_all : ∀ n : Fin 4, ∀ u : Fin 8, u.val < 2 ^ n.val → setOf ((List.range n.val).map (has u.val)) = u.val := by decide +kernel
theorem setOf_usedL {r : Rules} (hr : Good r) {u : Nat} (hu : u < two r) : setOf (usedL r u) = u := by
  have h := hr.1
  have h8 := two_le hr
  exact used_all ⟨r.ws.length, by omega⟩ ⟨u, by omega⟩ hu
theorem usedL_setOf {r : Rules} {l : List Bool} (h : l.length = r.ws.length) : usedL r (setOf l) = l := by
  apply List.ext_getElem
  · rw [usedL_len, h]
  · intro i h1 h2
    simp only [usedL, List.getElem_map, List.getElem_range]
    exact has_setOf h2

/-- What a claim needs, said of the claims there are. -/
def Sat (r : Rules) (M : List Cl) (c : Cl) : Prop :=
  (c.visits = 0 ∧ (c.turns, c.weight) = (0, -1) ∧ c.st.hi ≤ goodTo r c.st.lo) ∨
  (c.visits ≠ 0 ∧ ∃ m u, move r (c.st.lo, c.st.hi) (setOf c.st.used) (c.turns, c.weight) = some (m, u) ∧ ∀ f : Int, m.1 ≤ f → f ≤ max m.1 (m.2 - 2 * r.err) → ∃ c' ∈ M, c'.visits ≤ c.visits - 1 ∧ sub u (setOf c'.st.used) = true ∧ c'.st.lo ≤ f ∧ min m.2 (f + 2 * r.err) ≤ c'.st.hi)
theorem Sat.mono {r : Rules} {M M' : List Cl} {c : Cl} (h : Sat r M c) (hM : ∀ x ∈ M, x ∈ M') : Sat r M' c := by
  rcases h with h | ⟨h0, m, u, h1, h2⟩
  · exact .inl h
  · exact .inr ⟨h0, m, u, h1, fun f a b => let ⟨x, hx, q⟩ := h2 f a b; ⟨x, hM x hx, q⟩⟩
theorem sat_iff {r : Rules} (hr : Good r) {l : List Cl} (hok : ∀ c ∈ l, okCl r c) {c : Cl} (hc : okCl r c) : followsR r l c = true ↔ Sat r l c := by
  have hlo : ∀ x ∈ l, -300 ≤ x.st.lo := fun x hx => (okCl_facts hr (hok x hx)).1.1
  obtain ⟨hsp, hul⟩ := okCl_facts hr hc
  have herr := hr.2.2.1
  unfold followsR Sat
  split
  · rename_i h0
    simp [h0]
  · rename_i h0
    cases hm : move r (c.st.lo, c.st.hi) (setOf c.st.used) (c.turns, c.weight) with
    | none => simp [h0]
    | some q =>
      obtain ⟨⟨lo, hi⟩, u⟩ := q
      obtain ⟨_, p1, p2, p3⟩ := move_facts hr (setOf_lt hul) hm
      simp only at p1 p2 p3
      simp only [h0, false_and, false_or, ne_eq, not_false_eq_true, true_and, Option.some.injEq, Prod.mk.injEq, List.all_eq_true, decide_eq_true_eq]
      constructor
      · intro h
        refine ⟨(lo, hi), u, ⟨rfl, rfl⟩, fun f h1 h2 => ?_⟩
        simp only at h1 h2 ⊢
        have := h (f - lo).toNat (List.mem_range.2 (by omega))
        rw [reachV_le (by omega) (by omega) hlo, show lo + ((f - lo).toNat : Int) = f by omega] at this
        exact this
      · rintro ⟨⟨a, b⟩, u', ⟨⟨rfl, rfl⟩, rfl⟩, h⟩ i hi'
        have hi2 := List.mem_range.1 hi'
        rw [reachV_le (by omega) (by omega) hlo]
        exact h (lo + i) (by simp only; omega) (by simp only; omega)

theorem acts_mem {r : Rules} {u : Nat} {a : Int × Int} {p : Sp} (h : shift r u a = some p) : a ∈ acts r := by
  obtain ⟨t, w⟩ := a
  unfold shift at h
  split at h
  · rename_i hw
    simp only at hw
    subst hw
    split at h
    · rename_i ht
      simp only at ht
      have := acts_turn (r := r) (x := t + r.turns) (by omega) (by omega)
      rw [show t + r.turns - r.turns = t by omega] at this
      exact List.mem_of_getElem? this
    · cases h
  · split at h
    · rename_i hh
      obtain ⟨h1, h2, _, h4⟩ := hh
      simp only at h1 h2 h4
      have := acts_weight (r := r) (x := w) h1 h2
      rw [h4]
      exact List.mem_of_getElem? this
    · cases h
theorem move_mem {r : Rules} {s : Sp} {u : Nat} {a : Int × Int} {q : Sp × Nat} (h : move r s u a = some q) : a ∈ acts r := by
  unfold move at h
  cases hs : shift r u a with
  | none => rw [hs] at h; cases h
  | some p => exact acts_mem hs
theorem sub_all : ∀ u h : Fin 8, sub u.val h.val = true → ∀ i : Fin 3, has u.val i.val = true → has h.val i.val = true := by decide +kernel
theorem Nar.wide {r : Rules} (hr : Good r) {u h : Nat} (hu : u < 8) (hh : h < 8) (hs : sub u h = true) {s t : Sp} (hst : s.1 ≤ t.1 ∧ t.2 ≤ s.2) : Nar r r h u s t :=
  ⟨Int.le_refl _, Int.le_refl _, ⟨Int.le_refl _, Int.le_refl _⟩, rfl, rfl, fun _ _ _ => ⟨Int.le_refl _, Int.le_refl _⟩, fun i hi hb => sub_all ⟨u, hu⟩ ⟨h, hh⟩ hs ⟨i, by have := hr.1; omega⟩ hb, hst⟩

/-- Soundness: in a list of which each claim follows, each claim is enough. -/
theorem sat_sound {r : Rules} (hr : Good r) {l : List Cl} (hok : ∀ c ∈ l, okCl r c) (hs : ∀ c ∈ l, Sat r l c) : ∀ (n : Nat) (c : Cl), c ∈ l → c.visits ≤ n → Enough r n (setOf c.st.used) (c.st.lo, c.st.hi) := by
  intro n
  induction n with
  | zero =>
    intro c hc hv
    obtain ⟨hsp, hul⟩ := okCl_facts hr (hok c hc)
    have := (hok c hc).2.1
    rw [enough_iff hr _ _ _ hsp]
    rcases hs c hc with ⟨_, _, h⟩ | ⟨h, _⟩
    · exact h
    · exact absurd (by omega) h
  | succ n ih =>
    intro c hc hv
    obtain ⟨hsp, hul⟩ := okCl_facts hr (hok c hc)
    have herr := hr.2.2.1
    rcases hs c hc with ⟨h, _, hg⟩ | ⟨hv0, m, u, hm, h⟩
    · refine enough_more (v := 0) (Nat.zero_le _) ?_
      rw [enough_iff hr _ _ _ hsp]; exact hg
    · obtain ⟨hu8, p1, p2, p3⟩ := move_facts hr (setOf_lt hul) hm
      refine Or.inr ⟨_, move_mem hm, m, u, hm, ?_⟩
      have hQ := (seen_windows (e := r.err) herr.1 p2 (Q := fun a b => ∃ x ∈ l, x.visits ≤ c.visits - 1 ∧ sub u (setOf x.st.used) = true ∧ x.st.lo ≤ a ∧ b ≤ x.st.hi) fun a b a' b' h1 h2 ⟨x, hx, g1, g2, g3, g4⟩ => ⟨x, hx, g1, g2, by omega, by omega⟩).2 h
      intro seen s1 s2 s3
      obtain ⟨x, hx, g1, g2, g3, g4⟩ := hQ seen s1 s2 s3
      obtain ⟨_, hxl⟩ := okCl_facts hr (hok x hx)
      exact enough_nar hr hr (setOf_lt hxl) hu8 ⟨by show -300 ≤ max m.1 (seen - r.err); omega, s3, by show min m.2 (seen + r.err) ≤ 300; omega⟩ (Nar.wide hr hu8 (setOf_lt hxl) g2 ⟨g3, g4⟩) (ih x hx (by omega))
end Go.Proofs.R07
end
section
/- What the making of claims keeps (plain). -/
namespace Go.Proofs.R07
open Go.Vc Go.RowKit Go.Proofs

def IsCl (r : Rules) (k : Key) (m : Nat) (c : Cl) : Prop := ∃ a, c = clOf r k m a
def GoodKey (r : Rules) (k : Key) : Prop := okSp k.1 ∧ k.2 < two r
def LoopKey (r : Rules) (k : Key) : Prop := ∃ v, v < 6 ∧ k.1.2 = stateV r v k.2 k.1.1

theorem clOf_ok {r : Rules} {k : Key} {m : Nat} {a : Int × Int} (hk : GoodKey r k) (hm : m < 7) : okCl r (clOf r k m a) := by
  obtain ⟨⟨h1, h2, h3⟩, _⟩ := hk
  refine ⟨?_, by simp only [clOf]; omega, by simp only [clOf]; omega⟩
  simp only [okSt, clOf, usedL_len, beq_self_eq_true, Bool.and_true]
  exact (isSpan_iff _ _ _).2 ⟨h1, h2, h3⟩

/-- How keys and claims grow. -/
structure Grown (r : Rules) (n : Nat) (K : List Key) (L : List Cl) (K2 : List Key) (L2 : List Cl) : Prop where
  nod : (K ++ K2).Nodup
  len : L2.length = K2.length
  keys : ∀ k ∈ K2, GoodKey r k ∧ ∃ m, few r k.2 k.1 = some m ∧ m ≤ n ∧ ∃ c ∈ L2, IsCl r k m c
  ok : ∀ c ∈ L2, okCl r c ∧ Sat r (L ++ L2) c
theorem Grown.nil {r : Rules} {n : Nat} {K : List Key} {L : List Cl} (h : K.Nodup) : Grown r n K L [] [] := ⟨by simpa using h, rfl, by simp, by simp⟩
theorem Grown.trans {r : Rules} {n m : Nat} {K K2 K3 : List Key} {L L2 L3 : List Cl} (h1 : Grown r n K L K2 L2) (h2 : Grown r m (K ++ K2) (L ++ L2) K3 L3) (hm : m ≤ n) : Grown r n K L (K2 ++ K3) (L2 ++ L3) := by
  refine ⟨by rw [← List.append_assoc]; exact h2.nod, by rw [List.length_append, List.length_append, h1.len, h2.len], fun k hk => ?_, fun c hc => ?_⟩
  · rcases List.mem_append.1 hk with hk | hk
    · obtain ⟨g, j, e1, e2, c, hc, e3⟩ := h1.keys k hk
      exact ⟨g, j, e1, e2, c, List.mem_append_left _ hc, e3⟩
    · obtain ⟨g, j, e1, e2, c, hc, e3⟩ := h2.keys k hk
      exact ⟨g, j, e1, by omega, c, List.mem_append_right _ hc, e3⟩
  · rcases List.mem_append.1 hc with hc | hc
    · obtain ⟨g1, g2⟩ := h1.ok c hc
      exact ⟨g1, g2.mono fun x hx => by rw [← List.append_assoc]; exact List.mem_append_left _ hx⟩
    · obtain ⟨g1, g2⟩ := h2.ok c hc
      exact ⟨g1, g2.mono fun x hx => by rw [← List.append_assoc]; exact hx⟩

/-- All keys there are, and claims for those that need no more visits. -/
def Known (r : Rules) (n : Nat) (K : List Key) (L : List Cl) : Prop := ∀ k ∈ K, ∀ m, few r k.2 k.1 = some m → m ≤ n → ∃ c ∈ L, IsCl r k m c

/-- What is left behind when a key was added. -/
def Added (r : Rules) (n : Nat) (k : Key) (K : List Key) (L : List Cl) (K2 : List Key) (L2 : List Cl) : Prop :=
  Grown r n K L K2 L2 ∧ (∃ c ∈ L ++ L2, IsCl r k n c) ∧ (∀ k' ∈ K2, k' = k ∨ LoopKey r k') ∧ (k ∉ K → ∃ c, L2.head? = some c ∧ IsCl r k n c)

/-- What claims cover, up to a rate. -/
def Cov (r : Rules) (n : Nat) (img : Sp) (u : Nat) (M : List Cl) (f : Int) : Prop := ∀ g : Int, img.1 ≤ g → g < f → g ≤ max img.1 (img.2 - 2 * r.err) → ∃ c ∈ M, c.visits ≤ n ∧ sub u (setOf c.st.used) = true ∧ c.st.lo ≤ g ∧ min img.2 (g + 2 * r.err) ≤ c.st.hi
theorem Cov.mono {r : Rules} {n : Nat} {img : Sp} {u : Nat} {M M' : List Cl} {f : Int} (h : Cov r n img u M f) (hM : ∀ x ∈ M, x ∈ M') : Cov r n img u M' f := fun g a b c => let ⟨x, hx, q⟩ := h g a b c; ⟨x, hM x hx, q⟩
theorem sub_self {u : Nat} : sub u u = true := by simp [sub]
theorem Cov.step {r : Rules} (hr : Good r) {n : Nat} {img : Sp} {u : Nat} (hu : u < two r) {M : List Cl} {f to : Int} (h : Cov r n img u M f) {c : Cl} (hc : c ∈ M) {m : Nat} (hm : m ≤ n) (hcl : IsCl r ((f, to), u) m c) (hto : min img.2 (f + 2 * r.err) ≤ to) :
    Cov r n img u M (max f (to - 2 * r.err) + 1) ∧ (img.2 ≤ to → ∀ f', Cov r n img u M f') := by
  obtain ⟨a, rfl⟩ := hcl
  have hs : sub u (setOf (clOf r ((f, to), u) m a).st.used) = true := by
    show sub u (setOf (usedL r u)) = true
    rw [setOf_usedL hr hu]; exact sub_self
  have herr := hr.2.2.1
  constructor
  · intro g h1 h2 h3
    by_cases hg : g < f
    · exact h g h1 hg h3
    · refine ⟨_, hc, by simp only [clOf]; omega, hs, by simp only [clOf]; omega, ?_⟩
      simp only [clOf]
      by_cases e : g = f
      · subst e; exact hto
      · omega
  · intro hall f' g h1 h2 h3
    by_cases hg : g < f
    · exact h g h1 hg h3
    · exact ⟨_, hc, by simp only [clOf]; omega, hs, by simp only [clOf]; omega, by simp only [clOf]; omega⟩

/-- The windows of the image of the first act. -/
theorem act_windows {r : Rules} (hr : Good r) {n u : Nat} (hu : u < 8) {s : Sp} (hs : okSp s) (h : few r u s = some (n + 1)) : ∃ a img u', firstAct r n u s = some a ∧ move r s u a = some (img, u') ∧ okSp img ∧
    ∀ f : Int, img.1 ≤ f → f ≤ max img.1 (img.2 - 2 * r.err) → min img.2 (f + 2 * r.err) ≤ stateV r n u' f := by
  obtain ⟨a, img, u', h1, h2, h3⟩ := act_of_few hr hu hs h
  obtain ⟨_, p1, p2, p3⟩ := move_facts hr hu h2
  have herr := hr.2.2.1
  refine ⟨a, img, u', h1, h2, ⟨p1, p2, p3⟩, fun f q1 q2 => ?_⟩
  have hw := h3 (min (f + r.err) (img.2 + r.err)) (by omega) (by omega) (by omega)
  by_cases hc : f + 2 * r.err ≤ img.2
  · rw [show max img.1 (min (f + r.err) (img.2 + r.err) - r.err) = f by omega, show min img.2 (min (f + r.err) (img.2 + r.err) + r.err) = min img.2 (f + 2 * r.err) by omega] at hw
    exact (enough_iff hr _ _ _ ⟨by show -300 ≤ f; omega, by show f ≤ min img.2 (f + 2 * r.err); omega, by show min img.2 (f + 2 * r.err) ≤ 300; omega⟩).1 hw
  · rw [show max img.1 (min (f + r.err) (img.2 + r.err) - r.err) = f by omega, show min img.2 (min (f + r.err) (img.2 + r.err) + r.err) = min img.2 (f + 2 * r.err) by omega] at hw
    exact (enough_iff hr _ _ _ ⟨by show -300 ≤ f; omega, by show f ≤ min img.2 (f + 2 * r.err); omega, by show min img.2 (f + 2 * r.err) ≤ 300; omega⟩).1 hw

/-- A key whose claim says no visit. -/
theorem added_zero {r : Rules} {k : Key} {K : List Key} {L : List Cl} (hK : K.Nodup) (hn : k ∉ K) (hk : GoodKey r k) (h0 : few r k.2 k.1 = some 0) (hg : k.1.2 ≤ goodTo r k.1.1) : Added r 0 k K L [k] [clOf r k (0 : Nat) (0, -1)] := by
  refine ⟨⟨?_, rfl, fun k' hk' => ?_, fun c hc => ?_⟩, ⟨_, List.mem_append_right _ (List.mem_singleton_self _), _, rfl⟩, fun k' hk' => .inl (List.mem_singleton.1 hk'), fun _ => ⟨_, rfl, _, rfl⟩⟩
  · rw [List.nodup_append]
    exact ⟨hK, by simp, fun x hx y hy e => hn (by rw [List.mem_singleton] at hy; rw [← hy, ← e]; exact hx)⟩
  · rw [List.mem_singleton] at hk'; subst hk'
    exact ⟨hk, 0, h0, Nat.le_refl _, _, List.mem_singleton_self _, _, rfl⟩
  · rw [List.mem_singleton] at hc; subst hc
    exact ⟨clOf_ok hk (by omega), .inl ⟨rfl, rfl, hg⟩⟩

/-- A key whose claim needs others: these were made behind it. -/
theorem added_more {r : Rules} (hr : Good r) {k : Key} {n : Nat} {K K3 : List Key} {L L3 : List Cl} (hn : k ∉ K) (hk : GoodKey r k) (h0 : few r k.2 k.1 = some (n + 1)) {a : Int × Int} {img : Sp} {u : Nat} (hm : move r k.1 k.2 a = some (img, u))
    (hG : Grown r n (K ++ [k]) (L ++ [clOf r k (n + 1 : Nat) a]) K3 L3) (hl : ∀ k' ∈ K3, LoopKey r k') (hc : ∀ f, Cov r n img u ((L ++ [clOf r k (n + 1 : Nat) a]) ++ L3) f) : Added r (n + 1) k K L (k :: K3) (clOf r k (n + 1 : Nat) a :: L3) := by
  have h7 := few_lt h0
  refine ⟨⟨?_, ?_, fun k' hk' => ?_, fun c hc' => ?_⟩, ⟨_, List.mem_append_right _ List.mem_cons_self, _, rfl⟩, fun k' hk' => ?_, fun _ => ⟨_, rfl, _, rfl⟩⟩
  · have := hG.nod
    rw [List.append_assoc] at this
    exact this
  · simp [hG.len]
  · rcases List.mem_cons.1 hk' with rfl | hk'
    · exact ⟨hk, n + 1, h0, Nat.le_refl _, _, List.mem_cons_self, _, rfl⟩
    · obtain ⟨g, j, e1, e2, c, hc, e3⟩ := hG.keys k' hk'
      exact ⟨g, j, e1, by omega, c, List.mem_cons_of_mem _ hc, e3⟩
  · rcases List.mem_cons.1 hc' with rfl | hc'
    · refine ⟨clOf_ok hk h7, .inr ⟨by simp only [clOf]; omega, img, u, ?_, fun f f1 f2 => ?_⟩⟩
      · simp only [clOf, setOf_usedL hr hk.2]
        exact hm
      · obtain ⟨x, hx, q1, q2, q3, q4⟩ := hc (f + 1) f f1 (by omega) f2
        exact ⟨x, by simpa using hx, by simp only [clOf]; omega, q2, q3, q4⟩
    · obtain ⟨g1, g2⟩ := hG.ok c hc'
      exact ⟨g1, g2.mono fun x hx => by simpa using hx⟩
  · rcases List.mem_cons.1 hk' with rfl | hk'
    · exact .inl rfl
    · exact .inr (hl k' hk')
theorem nodup_le {α : Type} [DecidableEq α] : ∀ {l m : List α}, l.Nodup → (∀ x ∈ l, x ∈ m) → l.length ≤ m.length
  | [], m, _, _ => by simp
  | x :: l, m, h, hs => by
    have h1 := List.nodup_cons.1 h
    have hx := hs x List.mem_cons_self
    have := nodup_le (m := m.erase x) h1.2 fun y hy => (List.mem_erase_of_ne (fun e => h1.1 (by rw [← e]; exact hy))).2 (hs y (List.mem_cons_of_mem _ hy))
    rw [List.length_erase_of_mem hx] at this
    have := List.length_pos_of_mem hx
    simp only [List.length_cons]; omega
def allKeys (r : Rules) (k : Key) : List Key := k :: (List.range 6).flatMap fun v => (List.range 8).flatMap fun u => (List.range 601).map fun (i : Nat) => (((i : Int) - 300, stateV r v u ((i : Int) - 300)), u)
theorem allKeys_len (r : Rules) (k : Key) : (allKeys r k).length = 28849 := by
  simp only [allKeys, List.length_cons, List.length_flatMap, List.length_map, List.length_range, List.map_const', List.sum_replicate_nat]
/-- There are not too many claims. -/
theorem added_few {r : Rules} (hr : Good r) {n : Nat} {k : Key} {K2 : List Key} {L2 : List Cl} (h : Added r n k [] [] K2 L2) : L2.length ≤ 30000 := by
  obtain ⟨G, _, hl, _⟩ := h
  rw [G.len]
  have := nodup_le (m := allKeys r k) (by simpa using G.nod) fun x hx => by
    rcases hl x hx with rfl | ⟨v, hv, e⟩
    · exact List.mem_cons_self
    · obtain ⟨⟨⟨g1, g2, g3⟩, gu⟩, _⟩ := G.keys x hx
      have := two_le hr
      refine List.mem_cons_of_mem _ (List.mem_flatMap.2 ⟨v, List.mem_range.2 hv, List.mem_flatMap.2 ⟨x.2, List.mem_range.2 (by omega), List.mem_map.2 ⟨(x.1.1 + 300).toNat, List.mem_range.2 (by omega), ?_⟩⟩⟩)
      rw [show ((x.1.1 + 300).toNat : Int) - 300 = x.1.1 by omega, ← e]
  rw [allKeys_len] at this
  omega
end Go.Proofs.R07
end
