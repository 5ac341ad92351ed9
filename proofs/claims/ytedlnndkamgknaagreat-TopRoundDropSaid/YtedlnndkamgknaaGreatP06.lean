/- Part 6: own lemmas, and the conditions of the functions. -/
import Derived.Test.YtedlnndkamgknaaGreatProg
import Derived.Test.YtedlnndkamgknaaGreatP05
section
/- Lists that are in order stay as they are. -/
namespace Go.Proofs.RT
open Go.Vc Go.RowKit Go.Proofs
theorem below_kept0 {w w' : World} (h : Kept [] w w') : Below w.heap.size w w' := ⟨h.os, h.tape, h.output, h.size, fun k hk => h.block k hk (by simp)⟩
def Done (w : World) (e : Ending) (w' : World) : Prop := e = .returned (.tuple #[]) ∧ Below w.heap.size w w'
def Some1 (w : World) (e : Ending) (w' : World) : Prop := ∃ r : Int, e = .returned (I r) ∧ Below w.heap.size w w'
set_option maxRecDepth 100000 in
theorem len_small {x : Int} (hx : x = 0 ∨ x = 1 ∨ x = 8) (w : World) : Calls Tryz.prog 107 #[.int .u64 x] w (Some1 w) := by
  refine vc107 _ w _ fun w1 hb1 _ => ?_
  have : Calls Tryz.prog 177 #[.int .u64 x] w1 (Some1 w1) := by
    refine vc177 _ w1 _ ⟨fun h => by omega, fun _ => ⟨fun h => by omega, fun _ => ⟨fun h => by omega, fun _ => ?_⟩⟩⟩
    rcases hx with rfl | rfl | rfl
    · exact ⟨by omega, fun w4 hb4 hk4 => ⟨.int .u8 0, w4, by kernel_rfl, 0, rfl, .all (.refl _ _), by omega, by omega, fun w6 hb6 _ => ⟨_, rfl, hb6⟩⟩⟩
    · exact ⟨by omega, fun w4 hb4 hk4 => ⟨.int .u8 1, w4, by kernel_rfl, 1, rfl, .all (.refl _ _), by omega, by omega, fun w6 hb6 _ => ⟨_, rfl, hb6⟩⟩⟩
    · exact ⟨by omega, fun w4 hb4 hk4 => ⟨.int .u8 4, w4, by kernel_rfl, 4, rfl, .all (.refl _ _), by omega, by omega, fun w6 hb6 _ => ⟨_, rfl, hb6⟩⟩⟩
  refine this.mono fun e w2 he => ?_
  obtain ⟨r, rfl, hb2⟩ := he
  exact ⟨_, rfl, .all hb2, fun w3 hb3 _ => ⟨_, rfl, hb3⟩⟩
theorem isnan_any (x : Int) (w : World) : Calls Tryz.prog 166 #[I x] w (Pure w (.bool false)) := vc166 _ w _ fun w1 hb1 _ => ⟨by simp, hb1⟩
theorem less_any (x y : Int) (w : World) : Calls Tryz.prog 173 #[I x, I y] w (Pure w (.bool (decide (x < y)))) :=
  vc173 _ _ w _ fun w1 hb1 _ => Pure.calls (isnan_any x w1) fun w2 hd2 => ⟨_, rfl, .all hd2, fun h => (by cases h), fun _ w7 hb7 _ => ⟨rfl, hb7⟩⟩
def Asc (l : List Int) : Prop := ∀ i, i + 1 < l.length → l.getD i 0 < l.getD (i + 1) 0
theorem isort_asc {w : World} {l : List Int} {a : Option Addr} {c : Nat} (hc : Cells w a (ints l)) (hl : l.length ≤ 12) (ha : Asc l) : Calls Tryz.prog 167 #[.slice a l.length c, I 0, I l.length] w (Done w) := by
  refine vc167 _ _ _ _ _ w _ ⟨by omega, fun ls w' => match ls with | [.int _ i] => (1 ≤ i) ∧ Below w.heap.size w w' | _ => False, fun ls => match ls with | [.int _ i] => (l.length - i).toNat | _ => 0, fun w2 hk => ⟨by omega, below_kept0 hk⟩, ?_⟩
  rintro x1 w3 ⟨i0, hb3⟩
  refine ⟨fun hlt => ?_, fun hge w16 hk => ⟨rfl, hb3.trans ((below_kept0 hk).mono hb3.size)⟩⟩
  refine ⟨fun ls w' => match ls with | [.int _ j] => j = x1 ∧ Below w.heap.size w w' | _ => False, fun ls => match ls with | [.int _ j] => j.toNat | _ => 0, fun w5 hk => ⟨rfl, hb3.trans ((below_kept0 hk).mono hb3.size)⟩, ?_⟩
  rintro x2 w6 ⟨rfl, hb6⟩
  refine ⟨fun _ => ?_, fun h => by omega⟩
  refine load_int hc hb6 (by omega) fun m1 m2 hm => ⟨by omega, ?_⟩
  refine load_int hc hb6 (by omega) fun m3 m4 hm => fun w7 hk7 => ?_
  have hb7 : Below w6.heap.size w6 w7 := ⟨hk7.os, hk7.tape, hk7.output, hk7.size, fun k hk => hk7.block k hk (by simp) ⟨_, List.mem_cons_self, by simp; exact hk⟩⟩
  have hlt2 := ha (x2.toNat - 1) (by omega)
  refine Pure.calls (less_any _ _ w7) fun w8 hd8 => ⟨_, rfl, .all hd8, fun h => ?_, fun _ => ⟨by omega, fun w14 hk14 => ⟨⟨by omega, ?_⟩, ?_⟩⟩⟩
  · exfalso
    have := of_decide_eq_true h
    rw [show x2.toNat - 1 + 1 = x2.toNat by omega, show (x2 - 1).toNat = x2.toNat - 1 by omega] at *
    omega
  · have h1 := hb6.trans (hb7.mono hb6.size)
    have h2 := h1.trans (hd8.mono h1.size)
    exact h2.trans ((below_kept0 hk14).mono h2.size)
  · show (l.length - (x2 + 1)).toNat < (l.length - x2).toNat
    omega
theorem pdq_asc {w : World} {l : List Int} {a : Option Addr} {c : Nat} {lim : Int} (hc : Cells w a (ints l)) (hl : l.length ≤ 12) (ha : Asc l) : Calls Tryz.prog 106 #[.slice a l.length c, I 0, I l.length, I lim] w (Done w) := by
  refine vc106 _ _ _ _ _ _ w _ ⟨fun ls w' => match ls with | [.int _ x, .int _ y, _, _, _] => x = 0 ∧ y = l.length ∧ Below w.heap.size w w' | _ => False, fun _ => 0, fun w2 hk => ⟨rfl, rfl, below_kept0 hk⟩, ?_⟩
  rintro x1 x2 x3 t1 t2 w3 ⟨rfl, rfl, hb3⟩
  refine ⟨by omega, fun _ w4 hk4 => ?_, fun h => by omega⟩
  have hb4 := hb3.trans ((below_kept0 hk4).mono hb3.size)
  refine (isort_asc (hc.keep hb4) hl ha).mono fun e w5 he => ?_
  obtain ⟨rfl, hb5⟩ := he
  exact ⟨rfl, .all hb5, fun w6 hk6 => ⟨rfl, by have h := hb4.trans (hb5.mono hb4.size); exact h.trans ((below_kept0 hk6).mono h.size)⟩⟩
theorem sort_asc {w : World} {l : List Int} {a : Option Addr} {c : Nat} (hc : Cells w a (ints l)) (hl : l.length = 0 ∨ l.length = 1 ∨ l.length = 8) (ha : Asc l) : Calls Tryz.prog 52 #[.slice a l.length c] w (Done w) := by
  refine vc52 _ _ _ w _ ⟨by omega, fun w1 hk1 => ?_⟩
  have hb1 := below_kept0 hk1
  refine (len_small (x := (l.length : Int)) (by omega) w1).mono fun e w2 he => ?_
  obtain ⟨r, rfl, hb2⟩ := he
  have h2 := hb1.trans (hb2.mono hb1.size)
  refine ⟨_, rfl, .all hb2, fun w3 hk3 => ?_⟩
  have h3 := h2.trans ((below_kept0 hk3).mono h2.size)
  refine (pdq_asc (hc.keep h3) (by omega) ha).mono fun e w4 he => ?_
  obtain ⟨rfl, hb4⟩ := he
  exact ⟨rfl, .all hb4, fun w5 hk5 => ⟨rfl, by have h := h3.trans (hb4.mono h3.size); exact h.trans ((below_kept0 hk5).mono h.size)⟩⟩
theorem compact_asc {w : World} {l : List Int} {a : Option Addr} {c : Nat} (hc : Cells w a (ints l)) (hl : l.length ≤ 1000) (ha : Asc l) : Calls Tryz.prog 69 #[.slice a l.length c] w (Pure w (.slice a l.length c)) := by
  refine vc69 _ _ _ w _ ⟨fun _ w1 hb1 _ => ⟨rfl, hb1⟩, fun _ => ?_⟩
  refine ⟨fun ls w' => match ls with | [.sl _ _ _, .int _ i] => 1 ≤ i | _ => False, fun ls => match ls with | [_, .int _ i] => (l.length - i).toNat | _ => 0, fun w3 hb3 hk3 => by show (1 : Int) ≤ 1; omega, ?_⟩
  rintro a1 m1 m2 x1 w4 hb4 i0
  have i0 : 1 ≤ x1 := i0
  refine ⟨fun hlt => ?_, fun _ w13 hb13 _ => ⟨rfl, hb13⟩⟩
  have hlt2 := ha (x1.toNat - 1) (by omega)
  refine load_int hc hb4 (by omega) fun m3 m4 hm => ⟨by omega, ?_⟩
  refine load_int hc hb4 (by omega) fun m5 m6 hm => ⟨fun h => ?_, fun _ => ⟨by omega, fun w12 hb12 hk12 => ⟨by show 1 ≤ x1 + 1; omega, ?_⟩⟩⟩
  · exfalso
    rw [show x1.toNat - 1 + 1 = x1.toNat by omega] at hlt2
    rw [show (x1 - 1).toNat = x1.toNat - 1 by omega] at h
    omega
  · show (l.length - (x1 + 1)).toNat < (l.length - x1).toNat
    omega
end Go.Proofs.RT
end
section
/- Spans that are joined: at most one. -/
namespace Go.Proofs.RT
open Go.Vc Go.RowKit Go.Proofs
section
variable {w : World} {a : Option Addr} {n c f : Nat} {fi fc : List Value}
theorem isortS_one (hn : n ≤ 1) : Calls Tryz.prog 220 #[.slice a n c, I 0, I n, .func (.func f) fi.toArray fc.toArray] w (Done w) := by
  refine vc220 _ _ _ _ _ _ _ _ w _ ⟨by omega, fun ls w' => match ls with | [.int _ i] => i = 1 ∧ Below w.heap.size w w' | _ => False, fun _ => 0, fun w2 hk => ⟨rfl, below_kept0 hk⟩, ?_⟩
  rintro x1 w3 ⟨rfl, hb3⟩
  exact ⟨fun h => by omega, fun _ w16 hk => ⟨rfl, hb3.trans ((below_kept0 hk).mono hb3.size)⟩⟩
theorem pdqS_one (hn : n ≤ 1) {lim : Int} : Calls Tryz.prog 197 #[.slice a n c, I 0, I n, I lim, .func (.func f) fi.toArray fc.toArray] w (Done w) := by
  refine vc197 _ _ _ _ _ _ _ _ _ w _ ⟨fun ls w' => match ls with | [.int _ x, .int _ y, _, _, _] => x = 0 ∧ y = n | _ => False, fun _ => 0, fun w2 hb2 hk => ⟨rfl, rfl⟩, ?_⟩
  rintro x1 x2 x3 t1 t2 w3 hb3 ⟨rfl, rfl⟩
  refine ⟨by omega, fun _ w4 hb4 hk4 => ?_, fun h => by omega⟩
  refine (isortS_one hn).mono fun e w5 he => ?_
  obtain ⟨rfl, hb5⟩ := he
  exact ⟨rfl, .all hb5, fun w6 hb6 hk6 => ⟨rfl, hb6⟩⟩
end
theorem rowE_lies {e : TypeId} {size B : Nat} {ns : List Nat} {a : Option Addr} {n c : Nat} {xs : List Value} {w : World} {lo : Nat} (h : RowE e size B ns a n c xs w) (hl : lo ≤ B) : Lies [] lo w.heap.size w a xs := by
  rcases h with ⟨_, _, _, rfl⟩ | R
  · exact fun i v hi => by simp at hi
  · intro i v hi
    obtain ⟨b, o, e, hc⟩ := R.cells i v hi
    exact ⟨b, o, e, ⟨by simp, Nat.le_trans hl (R.lt b o e).1, (R.lt b o e).2⟩, hc⟩
end Go.Proofs.RT
end
section
/- What a minute's instants are: a row that grows while eras are ranged over. -/
namespace Go.Proofs.RT
open Go.Vc Go.RowKit Go.Proofs
/-- A row in a block of its own that is none of some. -/
structure RowG (e : TypeId) (size B : Nat) (G : Nat → Prop) (a : Option Addr) (n c : Nat) (xs : List Value) (w : World) : Prop where
  row : Row e size B [] a n c xs w
  av : ∀ b o, a = some ⟨b, o, none⟩ → ¬ G b
section
variable {e : TypeId} {size B : Nat} {G G' : Nat → Prop} {a : Option Addr} {n c : Nat} {xs : List Value} {w w' : World}
theorem RowG.nil : RowG e size B G none 0 0 [] w := ⟨Row.nil, fun _ _ h => by cases h⟩
theorem RowG.mono (h : RowG e size B G a n c xs w) (hg : ∀ b, G' b → G b ∨ w.heap.size ≤ b) : RowG e size B G' a n c xs w := ⟨h.row, fun b o ha hb => by
  rcases hg b hb with h1 | h1
  · exact h.av b o ha h1
  · have := (h.row.lt b o ha).2; omega⟩
theorem RowG.kept {bs : List Nat} (h : RowG e size B G a n c xs w) (hk : Kept bs w w') (hb : ∀ b ∈ bs, G b ∨ w.heap.size ≤ b) : RowG e size B G a n c xs w' := ⟨h.row.of fun b o ha => hk.block b (h.row.lt b o ha).2 fun hm => by
  rcases hb b hm with h1 | h1
  · exact h.av b o ha h1
  · have := (h.row.lt b o ha).2; omega, h.av⟩
theorem RowG.below (h : RowG e size B G a n c xs w) (hk : Below w.heap.size w w') : RowG e size B G a n c xs w' := ⟨h.row.below hk, h.av⟩
theorem RowG.calmF {B' : Nat} (h : RowG e size B G a n c xs w) (hk : CalmFrom B' w w') : RowG e size B G a n c xs w' := ⟨h.row.calm hk, h.av⟩
theorem RowG.append {P : Program} {t ty : TypeId} {bytes : Nat} (hE : elemB P t e size bytes = true) (hsz : 0 < size) (h : RowG e size B G a n c xs w) {b o m cc : Nat} {news : List Value} (hc : Cells w (some ⟨b, o, none⟩) news)
    (hl : news.length = m * size) (h1 : ∀ u ∈ news, u.oneCell' = true) (hn1 : n + m ≤ 140737488355328) (hn : (n + m) * bytes ≤ 140737488355328) (hB : B ≤ w.heap.size) (hG : ∀ b, G b → b < w.heap.size) {R : Value → World → Prop}
    (hR : ∀ a' c' w', RowG e size B G a' (n + m) c' (xs ++ news) w' → ∀ S, Chg S w w' → (∀ s ∈ S, B ≤ s ∧ ¬ G s) → R (.slice a' (n + m) c') w') :
    RunsTo P (Builtin.append_ #[t, t] ty #[.slice a n c, .slice (some ⟨b, o, none⟩) m cc]) w R := by
  classical
  have hrow : Row e size B ((List.range w.heap.size).filter fun b => decide (G b)) a n c xs w := ⟨h.row.own, fun b o ha hm => by
    have := List.mem_filter.1 hm
    exact h.av b o ha (of_decide_eq_true this.2)⟩
  refine append_row hE hsz hrow hc hl h1 hn1 hn hB (fun x hx => List.mem_range.1 (List.mem_filter.1 hx).1) fun a' c' w' hr S hS hs => ?_
  exact hR a' c' w' ⟨hr.less (by simp), fun b o ha hb => hr.ns b o ha (List.mem_filter.2 ⟨List.mem_range.2 (hG b hb), decide_eq_true hb⟩)⟩ S hS fun s hs' => ⟨(hs s hs').1, fun hg => (hs s hs').2 (List.mem_filter.2 ⟨List.mem_range.2 (hG s hg), decide_eq_true hg⟩)⟩
end
def hit (m : Int) (x : Era) : Bool := decide ((minutesI x).1 ≤ m ∧ m ≤ (minutesI x).2)
def meansM (z : Zn) (m : Int) (k : Nat) : List Sp := (((erasL z).take k).filter (hit m)).map (instantsI · m)
def meansL (z : Zn) (m : Int) : List Sp := ((erasL z).filter (hit m)).map (instantsI · m)
end Go.Proofs.RT
end
section
/- Odd, of the example's town. -/
namespace Go.Proofs.RT
open Go.Vc Go.RowKit Go.Proofs
abbrev exZ : Zn := (-300, [(36000, 0)])
theorem row_le {e : TypeId} {size B : Nat} {ns : List Nat} {a : Option Addr} {n c : Nat} {xs : List Value} {w : World} (h : Row e size B ns a n c xs w) : n ≤ c := by
  rcases h.own.2 with ⟨hv, h0⟩ | ⟨g, cap, cur, hv, _, _, hle, _⟩
  · omega
  · cases hv; exact hle
def endsM (k : Nat) : List Int := ((erasL exZ).take k).flatMap fun x => [(minutesI x).1, (minutesI x).1 + 1, (minutesI x).2, (minutesI x).2 + 1]
abbrev endsL : List Int := [-5, -4, 594, 595, 600, 601, 52596000, 52596001]
end Go.Proofs.RT
end
section
/- The conditions of the functions, printed by program; each is what the generator reckons (kernel_rfl). -/
namespace Go.Proofs
open Go.Vc
set_option maxRecDepth 100000 in
set_option maxHeartbeats 2000000 in
theorem vc12 (low : Int) (high : Int) (w : World) (R : Ending → World → Prop) (h : ∀ (m1 : Nat), w.heap.size ≤ m1 → ∀ (w1 : World), RowKit.Below w.heap.size w w1 → Kept [m1] w w1 →
    R (Ending.returned (Value.agg #[Value.int IntKind.i64 low, Value.int IntKind.i64 high])) w1) : Calls Tryz.prog 12 #[Value.int IntKind.i64 low, Value.int IntKind.i64 high] w R
    := calls_of_vc (pure := true) (wrapAt := []) (muts := []) (esc := []) (args := [SV.pv (PV.one (Lf.int IntKind.i64 low)), SV.pv (PV.one (Lf.int IntKind.i64 high))]) (vs :=
    [Value.int IntKind.i64 low, Value.int IntKind.i64 high]) Tryz.func12 rfl rfl rfl (Eq.mp (by kernel_rfl) h) 
set_option maxRecDepth 100000 in
set_option maxHeartbeats 2000000 in
theorem vc34  (w : World) (R : Ending → World → Prop) (h : ∀ (m1 : Nat), w.heap.size ≤ m1 → ∀ (m2 : Nat), w.heap.size ≤ m2 → ∀ (m3 : Nat), w.heap.size ≤ m3 → ∀ (m4 : Nat),
    w.heap.size ≤ m4 → ∀ (m5 : Nat), w.heap.size ≤ m5 → ∀ (m6 : Nat), w.heap.size ≤ m6 → ∀ (m7 : Nat), w.heap.size ≤ m7 → ∀ (w1 : World), RowKit.Below w.heap.size w w1 → Kept [m7,
    m6, m5, m4, m3, m2, m1] w w1 → w1.heap[m2]? = some (Obj.cells #[Value.int IntKind.i64 10, Value.int IntKind.i64 20, Value.int IntKind.u16 1, Value.int IntKind.i64 5, Value.int
    IntKind.i64 8, Value.int IntKind.i64 5, Value.int IntKind.i64 15, Value.int IntKind.u16 2, Value.int IntKind.i64 3, Value.int IntKind.i64 2] 105) → w1.heap[m6]? = some
    (Obj.cells #[Value.slice (some { block := m3, off := 0 }) 3 3, Value.slice (some { block := m4, off := 0 }) 3 3, Value.slice (some { block := m5, off := 0 }) 3 3] 32) →
    w1.heap[m7]? = some (Obj.cells #[Value.int IntKind.u16 3, Value.int IntKind.i64 10, Value.int IntKind.i64 200, Value.int IntKind.i64 100, Value.int IntKind.u16 2, Value.int
    IntKind.i64 3, Value.int IntKind.i64 100, Value.int IntKind.i64 45] 103) → w1.heap[m3]? = some (Obj.cells #[Value.int IntKind.i64 0, Value.int IntKind.i64 30, Value.int
    IntKind.i64 10] 3) → w1.heap[m4]? = some (Obj.cells #[Value.int IntKind.i64 30, Value.int IntKind.i64 0, Value.int IntKind.i64 25] 3) → w1.heap[m5]? = some (Obj.cells
    #[Value.int IntKind.i64 10, Value.int IntKind.i64 25, Value.int IntKind.i64 0] 3) → R (Ending.returned (Value.agg #[Value.slice (some { block := m2, off := 0 }) 2 2,
    Value.slice (some { block := m6, off := 0 }) 3 3, Value.slice (some { block := m7, off := 0 }) 2 2, Value.int IntKind.i64 15, Value.int IntKind.i64 2])) w1) : Calls Tryz.prog
    34 #[] w R := calls_of_vc (pure := true) (wrapAt := []) (muts := []) (esc := []) (args := []) (vs := []) Tryz.func34 rfl rfl rfl (Eq.mp (by kernel_rfl) h) 
set_option maxRecDepth 100000 in
set_option maxHeartbeats 2000000 in
theorem vc188 (sa : Option Addr) (sn : Nat) (sc : Nat) (ff : Nat) (fi : List Value) (fc : List Value) (w : World) (R : Ending → World → Prop) (h : ∀ (w1 : World), RowKit.Below
    w.heap.size w w1 → Kept [] w w1 → Calls Tryz.prog 218 #[Value.slice sa sn sc, Value.func (Fn.func ff) fi.toArray fc.toArray] w1 fun (e1 : Ending) (w2 : World) => ∃ (x1 : Int),
    e1 = Ending.returned (Value.int IntKind.i64 x1) ∧ KeepX true w.heap.size [] (fun _ => False) w1 w2 ∧ ∀ (w3 : World), RowKit.Below w.heap.size w w3 → Kept [] w2 w3 → R
    (Ending.returned (Value.bool (decide (0 ≤ x1)))) w3) : Calls Tryz.prog 188 #[Value.slice sa sn sc, Value.func (Fn.func ff) fi.toArray fc.toArray] w R := calls_of_vc (pure :=
    true) (wrapAt := []) (muts := []) (esc := []) (args := [SV.pv (PV.one (Lf.sl sa sn sc)), SV.pv (PV.one (Lf.fv ff fi fc))]) (vs := [Value.slice sa sn sc, Value.func (Fn.func ff)
    fi.toArray fc.toArray]) Tryz.func188 rfl rfl rfl (Eq.mp (by kernel_rfl) h) 
set_option maxRecDepth 100000 in
set_option maxHeartbeats 2000000 in
theorem vc218 (sa : Option Addr) (sn : Nat) (sc : Nat) (ff : Nat) (fi : List Value) (fc : List Value) (w : World) (R : Ending → World → Prop) (h : ∃ (F1 : List Lf → World → Prop),
    ∃ (F2 : List Lf → Nat), (∀ (w2 : World), RowKit.Below w.heap.size w w2 → Kept [] w w2 → F1 [Lf.int IntKind.i64 0, Lf.int IntKind.i64 0] w2) ∧ ∀ (x1 x2 : Int) (w3 : World),
    RowKit.Below w.heap.size w w3 → F1 [Lf.int IntKind.i64 x1, Lf.int IntKind.i64 x2] w3 → (x2 < (↑sn : Int) → ∃ (m1 : Nat), ∃ (m2 : Nat), sa = some { block := m1, off := m2 } ∧ (0
    ≤ x2 ∧ x2 < (↑sn : Int)) ∧ ∃ (a1 : Option Addr), ∃ (m3 : Nat), ∃ (m4 : Nat), w3.cell? { block := m1, off := m2 + x2.toNat * 1 } = some (Value.slice a1 m3 m4) ∧ Callable
    Tryz.prog ff ∧ ∀ (w4 : World), RowKit.Below w.heap.size w w4 → Kept [] w3 w4 → Calls Tryz.prog ff (fi ++ [Value.slice a1 m3 m4] ++ fc).toArray w4 fun (e1 : Ending) (w5 : World)
    => ∃ (t1 : Bool), e1 = Ending.returned (Value.bool t1) ∧ KeepX true w.heap.size [] (fun _ => False) w4 w5 ∧ (t1 = true → ∀ (w6 : World), RowKit.Below w.heap.size w w6 → Kept []
    w5 w6 → R (Ending.returned (Value.int IntKind.i64 x2)) w6) ∧ (t1 = false → (-9223372036854775808 ≤ x2 + 1 ∧ x2 + (1 : Int) ≤ 9223372036854775807) ∧ ∀ (w7 : World), RowKit.Below
    w.heap.size w w7 → Kept [] w5 w7 → F1 [Lf.int IntKind.i64 x1, Lf.int IntKind.i64 (x2 + 1)] w7 ∧ F2 [Lf.int IntKind.i64 x1, Lf.int IntKind.i64 (x2 + 1)] < F2 [Lf.int IntKind.i64
    x1, Lf.int IntKind.i64 x2])) ∧ ((↑sn : Int) ≤ x2 → ∀ (w8 : World), RowKit.Below w.heap.size w w8 → Kept [] w3 w8 → R (Ending.returned (Value.int IntKind.i64 (-1))) w8)) : Calls
    Tryz.prog 218 #[Value.slice sa sn sc, Value.func (Fn.func ff) fi.toArray fc.toArray] w R := calls_of_vc (pure := true) (wrapAt := []) (muts := []) (esc := []) (args := [SV.pv
    (PV.one (Lf.sl sa sn sc)), SV.pv (PV.one (Lf.fv ff fi fc))]) (vs := [Value.slice sa sn sc, Value.func (Fn.func ff) fi.toArray fc.toArray]) Tryz.func218 rfl rfl rfl (Eq.mp (by
    kernel_rfl) h) 
set_option maxRecDepth 100000 in
set_option maxHeartbeats 2000000 in
theorem vc189 (rowa : Option Addr) (rown : Nat) (rowc : Nat) (cap0b : Nat) (w : World) (R : Ending → World → Prop) (h : ∃ (x1 : Int), w.cell? { block := cap0b, off := 0 } = some
    (Value.int IntKind.i64 x1) ∧ ∀ (w1 : World), RowKit.Below w.heap.size w w1 → Kept [] w w1 → R (Ending.returned (Value.bool ((↑rown : Int) != x1))) w1) : Calls Tryz.prog 189
    #[Value.slice rowa rown rowc, Value.pointer (some { block := cap0b, off := 0 })] w R := calls_of_vc (pure := true) (wrapAt := []) (muts := []) (esc := []) (args := [SV.pv
    (PV.one (Lf.sl rowa rown rowc)), SV.pv (PV.one (Lf.ptr cap0b 0))]) (vs := [Value.slice rowa rown rowc, Value.pointer (some { block := cap0b, off := 0 })]) Tryz.func189 rfl rfl
    rfl (Eq.mp (by kernel_rfl) h) 
set_option maxRecDepth 100000 in
set_option maxHeartbeats 2000000 in
theorem vc120 (r0a : Option Addr) (r0n : Nat) (r0c : Nat) (r1a : Option Addr) (r1n : Nat) (r1c : Nat) (r2a : Option Addr) (r2n : Nat) (r2c : Nat) (r3 : Int) (r4 : Int) (w : World)
    (R : Ending → World → Prop) (h : ∀ (m1 : Nat), w.heap.size ≤ m1 → (-9223372036854775808 ≤ (↑r0n : Int) + 1 ∧ (↑r0n : Int) + (1 : Int) ≤ 9223372036854775807) ∧ ∀ (m2 : Nat),
    w.heap.size ≤ m2 → ((↑r1n : Int) = (↑r0n : Int) + 1 → ∀ (w1 : World), RowKit.Below w.heap.size w w1 → Kept [m2, m1] w w1 → w1.heap[m2]? = some (Obj.cells #[Value.int
    IntKind.i64 ((↑r0n : Int) + 1)] 3) → Calls Tryz.prog 188 #[Value.slice r1a r1n r1c, Value.func (Fn.func 189) #[] #[Value.pointer (some { block := m2, off := 0 })]] w1 fun (e1 :
    Ending) (w2 : World) => ∃ (t1 : Bool), e1 = Ending.returned (Value.bool t1) ∧ KeepX true w.heap.size [m2, m1] (fun _ => False) w1 w2 ∧ ∀ (w3 : World), RowKit.Below w.heap.size
    w w3 → Kept [m2, m1] w2 w3 → R (Ending.returned (Value.bool !t1)) w3) ∧ ((↑r1n : Int) ≠ (↑r0n : Int) + 1 → ∀ (w4 : World), RowKit.Below w.heap.size w w4 → Kept [m2, m1] w w4 →
    R (Ending.returned (Value.bool false)) w4)) : Calls Tryz.prog 120 #[Value.agg #[Value.slice r0a r0n r0c, Value.slice r1a r1n r1c, Value.slice r2a r2n r2c, Value.int IntKind.i64
    r3, Value.int IntKind.i64 r4]] w R := calls_of_vc (pure := true) (wrapAt := []) (muts := []) (esc := []) (args := [SV.pv (PV.agg [Lf.sl r0a r0n r0c, Lf.sl r1a r1n r1c, Lf.sl
    r2a r2n r2c, Lf.int IntKind.i64 r3, Lf.int IntKind.i64 r4])]) (vs := [Value.agg #[Value.slice r0a r0n r0c, Value.slice r1a r1n r1c, Value.slice r2a r2n r2c, Value.int
    IntKind.i64 r3, Value.int IntKind.i64 r4]]) Tryz.func120 rfl rfl rfl (Eq.mp (by kernel_rfl) h) 
set_option maxRecDepth 100000 in
set_option maxHeartbeats 2000000 in
theorem vc124 (t0 : Int) (t1 : Int) (t2 : Int) (t3 : Int) (t4 : Int) (w : World) (R : Ending → World → Prop) (h : ∀ (m1 : Nat), w.heap.size ≤ m1 → ∀ (m2 : Nat), w.heap.size ≤ m2 →
    ∀ (w1 : World), RowKit.Below w.heap.size w w1 → Kept [m2, m1] w w1 → w1.heap[m2]? = some (Obj.cells #[Value.int IntKind.i64 t0, Value.int IntKind.i64 t1] 3) → Calls Tryz.prog
    121 #[Value.int IntKind.i64 0, Value.int IntKind.i64 120, Value.slice (some { block := m2, off := 0 }) 2 2] w1 fun (e1 : Ending) (w2 : World) => ∃ (t1 : Bool), e1 =
    Ending.returned (Value.bool t1) ∧ KeepX true w.heap.size [m2, m1] (fun _ => False) w1 w2 ∧ (t1 = true → ∀ (m5 : Nat), w2.heap.size ≤ m5 → ∀ (w3 : World), RowKit.Below
    w.heap.size w w3 → Kept [m5, m2, m1] w2 w3 → w3.heap[m5]? = some (Obj.cells #[Value.int IntKind.i64 t3] 3) → Calls Tryz.prog 121 #[Value.int IntKind.i64 0, Value.int
    IntKind.i64 1000, Value.slice (some { block := m5, off := 0 }) 1 1] w3 fun (e2 : Ending) (w4 : World) => ∃ (t2 : Bool), e2 = Ending.returned (Value.bool t2) ∧ KeepX true
    w.heap.size [m5, m2, m1] (fun _ => False) w3 w4 ∧ (t2 = true → ∀ (m8 : Nat), w4.heap.size ≤ m8 → ∀ (w5 : World), RowKit.Below w.heap.size w w5 → Kept [m8, m5, m2, m1] w4 w5 →
    w5.heap[m8]? = some (Obj.cells #[Value.int IntKind.i64 t4] 3) → Calls Tryz.prog 121 #[Value.int IntKind.i64 1, Value.int IntKind.i64 30, Value.slice (some
    { block := m8, off := 0 }) 1 1] w5 fun (e3 : Ending) (w6 : World) => ∃ (t3 : Bool), e3 = Ending.returned (Value.bool t3) ∧ KeepX true w.heap.size [m8, m5, m2, m1] (fun _ =>
    False) w5 w6 ∧ ∀ (w7 : World), RowKit.Below w.heap.size w w7 → Kept [m8, m5, m2, m1] w6 w7 → R (Ending.returned (Value.bool t3)) w7) ∧ (t2 = false → ∀ (w8 : World),
    RowKit.Below w.heap.size w w8 → Kept [m5, m2, m1] w4 w8 → R (Ending.returned (Value.bool false)) w8)) ∧ (t1 = false → ∀ (w9 : World), RowKit.Below w.heap.size w w9 → Kept [m2,
    m1] w2 w9 → R (Ending.returned (Value.bool false)) w9)) : Calls Tryz.prog 124 #[Value.agg #[Value.int IntKind.i64 t0, Value.int IntKind.i64 t1, Value.int IntKind.u16 t2,
    Value.int IntKind.i64 t3, Value.int IntKind.i64 t4]] w R := calls_of_vc (pure := true) (wrapAt := []) (muts := []) (esc := []) (args := [SV.pv (PV.agg [Lf.int IntKind.i64 t0,
    Lf.int IntKind.i64 t1, Lf.int IntKind.u16 t2, Lf.int IntKind.i64 t3, Lf.int IntKind.i64 t4])]) (vs := [Value.agg #[Value.int IntKind.i64 t0, Value.int IntKind.i64 t1, Value.int
    IntKind.u16 t2, Value.int IntKind.i64 t3, Value.int IntKind.i64 t4]]) Tryz.func124 rfl rfl rfl (Eq.mp (by kernel_rfl) h) 
set_option maxRecDepth 100000 in
set_option maxHeartbeats 2000000 in
theorem vc127 (p0w0 : Int) (p0w1 : Int) (p0w2 : Int) (p0w3 : Int) (w : World) (R : Ending → World → Prop) (h : ∀ (m1 : Nat), w.heap.size ≤ m1 → ∀ (m2 : Nat), w.heap.size ≤ m2 → ∀
    (w1 : World), RowKit.Below w.heap.size w w1 → Kept [m2, m1] w w1 → w1.heap[m2]? = some (Obj.cells #[Value.int IntKind.i64 p0w1] 3) → Calls Tryz.prog 121 #[Value.int IntKind.i64
    0, Value.int IntKind.i64 8000, Value.slice (some { block := m2, off := 0 }) 1 1] w1 fun (e1 : Ending) (w2 : World) => ∃ (t1 : Bool), e1 = Ending.returned (Value.bool t1) ∧
    KeepX true w.heap.size [m2, m1] (fun _ => False) w1 w2 ∧ (t1 = true → ∀ (m5 : Nat), w2.heap.size ≤ m5 → ∀ (w3 : World), RowKit.Below w.heap.size w w3 → Kept [m5, m2, m1] w2 w3
    → w3.heap[m5]? = some (Obj.cells #[Value.int IntKind.i64 p0w2, Value.int IntKind.i64 p0w3] 3) → Calls Tryz.prog 121 #[Value.int IntKind.i64 1, Value.int IntKind.i64 1440,
    Value.slice (some { block := m5, off := 0 }) 2 2] w3 fun (e2 : Ending) (w4 : World) => ∃ (t2 : Bool), e2 = Ending.returned (Value.bool t2) ∧ KeepX true w.heap.size [m5, m2, m1]
    (fun _ => False) w3 w4 ∧ ∀ (w5 : World), RowKit.Below w.heap.size w w5 → Kept [m5, m2, m1] w4 w5 → R (Ending.returned (Value.bool t2)) w5) ∧ (t1 = false → ∀ (w6 : World),
    RowKit.Below w.heap.size w w6 → Kept [m2, m1] w2 w6 → R (Ending.returned (Value.bool false)) w6)) : Calls Tryz.prog 127 #[Value.agg #[Value.int IntKind.u16 p0w0, Value.int
    IntKind.i64 p0w1, Value.int IntKind.i64 p0w2, Value.int IntKind.i64 p0w3]] w R := calls_of_vc (pure := true) (wrapAt := []) (muts := []) (esc := []) (args := [SV.pv (PV.agg
    [Lf.int IntKind.u16 p0w0, Lf.int IntKind.i64 p0w1, Lf.int IntKind.i64 p0w2, Lf.int IntKind.i64 p0w3])]) (vs := [Value.agg #[Value.int IntKind.u16 p0w0, Value.int IntKind.i64
    p0w1, Value.int IntKind.i64 p0w2, Value.int IntKind.i64 p0w3]]) Tryz.func127 rfl rfl rfl (Eq.mp (by kernel_rfl) h) 
set_option maxRecDepth 100000 in
set_option maxHeartbeats 2000000 in
theorem vc122 (sa : Option Addr) (sn : Nat) (sc : Nat) (ff : Nat) (fi : List Value) (fc : List Value) (w : World) (R : Ending → World → Prop) (h : ∀ (w1 : World), RowKit.Below
    w.heap.size w w1 → Kept [] w w1 → Calls Tryz.prog 191 #[Value.slice sa sn sc, Value.func (Fn.func ff) fi.toArray fc.toArray] w1 fun (e1 : Ending) (w2 : World) => ∃ (x1 : Int),
    e1 = Ending.returned (Value.int IntKind.i64 x1) ∧ KeepX true w.heap.size [] (fun _ => False) w1 w2 ∧ ∀ (w3 : World), RowKit.Below w.heap.size w w3 → Kept [] w2 w3 → R
    (Ending.returned (Value.bool (decide (0 ≤ x1)))) w3) : Calls Tryz.prog 122 #[Value.slice sa sn sc, Value.func (Fn.func ff) fi.toArray fc.toArray] w R := calls_of_vc (pure :=
    true) (wrapAt := []) (muts := []) (esc := []) (args := [SV.pv (PV.one (Lf.sl sa sn sc)), SV.pv (PV.one (Lf.fv ff fi fc))]) (vs := [Value.slice sa sn sc, Value.func (Fn.func ff)
    fi.toArray fc.toArray]) Tryz.func122 rfl rfl rfl (Eq.mp (by kernel_rfl) h) 
set_option maxRecDepth 100000 in
set_option maxHeartbeats 2000000 in
theorem vc191 (sa : Option Addr) (sn : Nat) (sc : Nat) (ff : Nat) (fi : List Value) (fc : List Value) (w : World) (R : Ending → World → Prop) (h : ∃ (F1 : List Lf → World → Prop),
    ∃ (F2 : List Lf → Nat), (∀ (w2 : World), RowKit.Below w.heap.size w w2 → Kept [] w w2 → F1 [Lf.int IntKind.i64 0, Lf.int IntKind.i64 0] w2) ∧ ∀ (x1 x2 : Int) (w3 : World),
    RowKit.Below w.heap.size w w3 → F1 [Lf.int IntKind.i64 x1, Lf.int IntKind.i64 x2] w3 → (x2 < (↑sn : Int) → ∃ (m1 : Nat), ∃ (m2 : Nat), sa = some { block := m1, off := m2 } ∧ (0
    ≤ x2 ∧ x2 < (↑sn : Int)) ∧ ∃ (x3 : Int), ∃ (x4 : Int), ∃ (x5 : Int), ∃ (x6 : Int), ∃ (x7 : Int), w3.cell? { block := m1, off := m2 + x2.toNat * 5 } = some (Value.int
    IntKind.i64 x3) ∧ w3.cell? { block := m1, off := m2 + x2.toNat * 5 + 1 } = some (Value.int IntKind.i64 x4) ∧ w3.cell? { block := m1, off := m2 + x2.toNat * 5 + 1 + 1 } = some
    (Value.int IntKind.u16 x5) ∧ w3.cell? { block := m1, off := m2 + x2.toNat * 5 + 1 + 1 + 1 } = some (Value.int IntKind.i64 x6) ∧ w3.cell?
    { block := m1, off := m2 + x2.toNat * 5 + 1 + 1 + 1 + 1 } = some (Value.int IntKind.i64 x7) ∧ Callable Tryz.prog ff ∧ ∀ (w4 : World), RowKit.Below w.heap.size w w4 → Kept [] w3
    w4 → Calls Tryz.prog ff (fi ++ [Value.agg #[Value.int IntKind.i64 x3, Value.int IntKind.i64 x4, Value.int IntKind.u16 x5, Value.int IntKind.i64 x6, Value.int IntKind.i64 x7]]
    ++ fc).toArray w4 fun (e1 : Ending) (w5 : World) => ∃ (t1 : Bool), e1 = Ending.returned (Value.bool t1) ∧ KeepX true w.heap.size [] (fun _ => False) w4 w5 ∧ (t1 = true → ∀ (w6
    : World), RowKit.Below w.heap.size w w6 → Kept [] w5 w6 → R (Ending.returned (Value.int IntKind.i64 x2)) w6) ∧ (t1 = false → (-9223372036854775808 ≤ x2 + 1 ∧ x2 + (1 : Int) ≤
    9223372036854775807) ∧ ∀ (w7 : World), RowKit.Below w.heap.size w w7 → Kept [] w5 w7 → F1 [Lf.int IntKind.i64 x1, Lf.int IntKind.i64 (x2 + 1)] w7 ∧ F2 [Lf.int IntKind.i64 x1,
    Lf.int IntKind.i64 (x2 + 1)] < F2 [Lf.int IntKind.i64 x1, Lf.int IntKind.i64 x2])) ∧ ((↑sn : Int) ≤ x2 → ∀ (w8 : World), RowKit.Below w.heap.size w w8 → Kept [] w3 w8 → R
    (Ending.returned (Value.int IntKind.i64 (-1))) w8)) : Calls Tryz.prog 191 #[Value.slice sa sn sc, Value.func (Fn.func ff) fi.toArray fc.toArray] w R := calls_of_vc (pure :=
    true) (wrapAt := []) (muts := []) (esc := []) (args := [SV.pv (PV.one (Lf.sl sa sn sc)), SV.pv (PV.one (Lf.fv ff fi fc))]) (vs := [Value.slice sa sn sc, Value.func (Fn.func ff)
    fi.toArray fc.toArray]) Tryz.func191 rfl rfl rfl (Eq.mp (by kernel_rfl) h) 
set_option maxRecDepth 100000 in
set_option maxHeartbeats 2000000 in
theorem vc192 (x0 : Int) (x1 : Int) (x2 : Int) (x3 : Int) (x4 : Int) (cap0b : Nat) (w : World) (R : Ending → World → Prop) (h : ∀ (m1 : Nat), w.heap.size ≤ m1 → ∃ (v1 : Value),
    w.cell? { block := cap0b, off := 0 } = some v1 ∧ (cap0b < w.heap.size ∨ cap0b ≠ m1) ∧ ∃ (m2 : Nat), ∃ (y1 : List Value), ∃ (y2 : List Value), v1 = Value.func (Fn.func m2)
    y1.toArray y2.toArray ∧ Callable Tryz.prog m2 ∧ ∀ (w1 : World), RowKit.Below w.heap.size w w1 → Kept [m1] w w1 → Calls Tryz.prog m2 (y1 ++ [Value.agg #[Value.int IntKind.i64
    x0, Value.int IntKind.i64 x1, Value.int IntKind.u16 x2, Value.int IntKind.i64 x3, Value.int IntKind.i64 x4]] ++ y2).toArray w1 fun (e1 : Ending) (w2 : World) => ∃ (t1 : Bool),
    e1 = Ending.returned (Value.bool t1) ∧ KeepX true w.heap.size [m1] (fun _ => False) w1 w2 ∧ ∀ (w3 : World), RowKit.Below w.heap.size w w3 → Kept [m1] w2 w3 → R (Ending.returned
    (Value.bool !t1)) w3) : Calls Tryz.prog 192 #[Value.agg #[Value.int IntKind.i64 x0, Value.int IntKind.i64 x1, Value.int IntKind.u16 x2, Value.int IntKind.i64 x3, Value.int
    IntKind.i64 x4], Value.pointer (some { block := cap0b, off := 0 })] w R := calls_of_vcj (pure := true) (wrapAt := []) (muts := []) (esc := []) (joins := [(7000006, [])]) (args
    := [SV.pv (PV.agg [Lf.int IntKind.i64 x0, Lf.int IntKind.i64 x1, Lf.int IntKind.u16 x2, Lf.int IntKind.i64 x3, Lf.int IntKind.i64 x4]), SV.pv (PV.one (Lf.ptr cap0b 0))]) (vs :=
    [Value.agg #[Value.int IntKind.i64 x0, Value.int IntKind.i64 x1, Value.int IntKind.u16 x2, Value.int IntKind.i64 x3, Value.int IntKind.i64 x4], Value.pointer (some
    { block := cap0b, off := 0 })]) Tryz.func192 rfl rfl rfl (Eq.mp (by kernel_rfl) h) 
set_option maxRecDepth 100000 in
set_option maxHeartbeats 2000000 in
theorem vc123 (isf : Nat) (isi : List Value) (isc : List Value) (w : World) (R : Ending → World → Prop) (h : ∀ (m1 : Nat), w.heap.size ≤ m1 → ∀ (w1 : World), RowKit.Below
    w.heap.size w w1 → Kept [m1] w w1 → w1.heap[m1]? = some (Obj.cells #[Value.func (Fn.func isf) isi.toArray isc.toArray] 240) → R (Ending.returned (Value.func (Fn.func 192) #[]
    #[Value.pointer (some { block := m1, off := 0 })])) w1) : Calls Tryz.prog 123 #[Value.func (Fn.func isf) isi.toArray isc.toArray] w R := calls_of_vc (pure := true) (wrapAt :=
    []) (muts := []) (esc := []) (args := [SV.pv (PV.one (Lf.fv isf isi isc))]) (vs := [Value.func (Fn.func isf) isi.toArray isc.toArray]) Tryz.func123 rfl rfl rfl (Eq.mp (by
    kernel_rfl) h) 
set_option maxRecDepth 100000 in
set_option maxHeartbeats 2000000 in
theorem vc126 (isf : Nat) (isi : List Value) (isc : List Value) (w : World) (R : Ending → World → Prop) (h : ∀ (m1 : Nat), w.heap.size ≤ m1 → ∀ (w1 : World), RowKit.Below
    w.heap.size w w1 → Kept [m1] w w1 → w1.heap[m1]? = some (Obj.cells #[Value.func (Fn.func isf) isi.toArray isc.toArray] 243) → R (Ending.returned (Value.func (Fn.func 194) #[]
    #[Value.pointer (some { block := m1, off := 0 })])) w1) : Calls Tryz.prog 126 #[Value.func (Fn.func isf) isi.toArray isc.toArray] w R := calls_of_vc (pure := true) (wrapAt :=
    []) (muts := []) (esc := []) (args := [SV.pv (PV.one (Lf.fv isf isi isc))]) (vs := [Value.func (Fn.func isf) isi.toArray isc.toArray]) Tryz.func126 rfl rfl rfl (Eq.mp (by
    kernel_rfl) h) 
set_option maxRecDepth 100000 in
set_option maxHeartbeats 2000000 in
theorem vc125 (sa : Option Addr) (sn : Nat) (sc : Nat) (ff : Nat) (fi : List Value) (fc : List Value) (w : World) (R : Ending → World → Prop) (h : ∀ (w1 : World), RowKit.Below
    w.heap.size w w1 → Kept [] w w1 → Calls Tryz.prog 193 #[Value.slice sa sn sc, Value.func (Fn.func ff) fi.toArray fc.toArray] w1 fun (e1 : Ending) (w2 : World) => ∃ (x1 : Int),
    e1 = Ending.returned (Value.int IntKind.i64 x1) ∧ KeepX true w.heap.size [] (fun _ => False) w1 w2 ∧ ∀ (w3 : World), RowKit.Below w.heap.size w w3 → Kept [] w2 w3 → R
    (Ending.returned (Value.bool (decide (0 ≤ x1)))) w3) : Calls Tryz.prog 125 #[Value.slice sa sn sc, Value.func (Fn.func ff) fi.toArray fc.toArray] w R := calls_of_vc (pure :=
    true) (wrapAt := []) (muts := []) (esc := []) (args := [SV.pv (PV.one (Lf.sl sa sn sc)), SV.pv (PV.one (Lf.fv ff fi fc))]) (vs := [Value.slice sa sn sc, Value.func (Fn.func ff)
    fi.toArray fc.toArray]) Tryz.func125 rfl rfl rfl (Eq.mp (by kernel_rfl) h) 
set_option maxRecDepth 100000 in
set_option maxHeartbeats 2000000 in
theorem vc193 (sa : Option Addr) (sn : Nat) (sc : Nat) (ff : Nat) (fi : List Value) (fc : List Value) (w : World) (R : Ending → World → Prop) (h : ∃ (F1 : List Lf → World → Prop),
    ∃ (F2 : List Lf → Nat), (∀ (w2 : World), RowKit.Below w.heap.size w w2 → Kept [] w w2 → F1 [Lf.int IntKind.i64 0, Lf.int IntKind.i64 0] w2) ∧ ∀ (x1 x2 : Int) (w3 : World),
    RowKit.Below w.heap.size w w3 → F1 [Lf.int IntKind.i64 x1, Lf.int IntKind.i64 x2] w3 → (x2 < (↑sn : Int) → ∃ (m1 : Nat), ∃ (m2 : Nat), sa = some { block := m1, off := m2 } ∧ (0
    ≤ x2 ∧ x2 < (↑sn : Int)) ∧ ∃ (x3 : Int), ∃ (x4 : Int), ∃ (x5 : Int), ∃ (x6 : Int), w3.cell? { block := m1, off := m2 + x2.toNat * 4 } = some (Value.int IntKind.u16 x3) ∧
    w3.cell? { block := m1, off := m2 + x2.toNat * 4 + 1 } = some (Value.int IntKind.i64 x4) ∧ w3.cell? { block := m1, off := m2 + x2.toNat * 4 + 1 + 1 } = some (Value.int
    IntKind.i64 x5) ∧ w3.cell? { block := m1, off := m2 + x2.toNat * 4 + 1 + 1 + 1 } = some (Value.int IntKind.i64 x6) ∧ Callable Tryz.prog ff ∧ ∀ (w4 : World), RowKit.Below
    w.heap.size w w4 → Kept [] w3 w4 → Calls Tryz.prog ff (fi ++ [Value.agg #[Value.int IntKind.u16 x3, Value.int IntKind.i64 x4, Value.int IntKind.i64 x5, Value.int IntKind.i64
    x6]] ++ fc).toArray w4 fun (e1 : Ending) (w5 : World) => ∃ (t1 : Bool), e1 = Ending.returned (Value.bool t1) ∧ KeepX true w.heap.size [] (fun _ => False) w4 w5 ∧ (t1 = true → ∀
    (w6 : World), RowKit.Below w.heap.size w w6 → Kept [] w5 w6 → R (Ending.returned (Value.int IntKind.i64 x2)) w6) ∧ (t1 = false → (-9223372036854775808 ≤ x2 + 1 ∧ x2 + (1 : Int)
    ≤ 9223372036854775807) ∧ ∀ (w7 : World), RowKit.Below w.heap.size w w7 → Kept [] w5 w7 → F1 [Lf.int IntKind.i64 x1, Lf.int IntKind.i64 (x2 + 1)] w7 ∧ F2 [Lf.int IntKind.i64 x1,
    Lf.int IntKind.i64 (x2 + 1)] < F2 [Lf.int IntKind.i64 x1, Lf.int IntKind.i64 x2])) ∧ ((↑sn : Int) ≤ x2 → ∀ (w8 : World), RowKit.Below w.heap.size w w8 → Kept [] w3 w8 → R
    (Ending.returned (Value.int IntKind.i64 (-1))) w8)) : Calls Tryz.prog 193 #[Value.slice sa sn sc, Value.func (Fn.func ff) fi.toArray fc.toArray] w R := calls_of_vc (pure :=
    true) (wrapAt := []) (muts := []) (esc := []) (args := [SV.pv (PV.one (Lf.sl sa sn sc)), SV.pv (PV.one (Lf.fv ff fi fc))]) (vs := [Value.slice sa sn sc, Value.func (Fn.func ff)
    fi.toArray fc.toArray]) Tryz.func193 rfl rfl rfl (Eq.mp (by kernel_rfl) h) 
set_option maxRecDepth 100000 in
set_option maxHeartbeats 2000000 in
theorem vc194 (x0 : Int) (x1 : Int) (x2 : Int) (x3 : Int) (cap0b : Nat) (w : World) (R : Ending → World → Prop) (h : ∀ (m1 : Nat), w.heap.size ≤ m1 → ∃ (v1 : Value), w.cell?
    { block := cap0b, off := 0 } = some v1 ∧ (cap0b < w.heap.size ∨ cap0b ≠ m1) ∧ ∃ (m2 : Nat), ∃ (y1 : List Value), ∃ (y2 : List Value), v1 = Value.func (Fn.func m2) y1.toArray
    y2.toArray ∧ Callable Tryz.prog m2 ∧ ∀ (w1 : World), RowKit.Below w.heap.size w w1 → Kept [m1] w w1 → Calls Tryz.prog m2 (y1 ++ [Value.agg #[Value.int IntKind.u16 x0, Value.int
    IntKind.i64 x1, Value.int IntKind.i64 x2, Value.int IntKind.i64 x3]] ++ y2).toArray w1 fun (e1 : Ending) (w2 : World) => ∃ (t1 : Bool), e1 = Ending.returned (Value.bool t1) ∧
    KeepX true w.heap.size [m1] (fun _ => False) w1 w2 ∧ ∀ (w3 : World), RowKit.Below w.heap.size w w3 → Kept [m1] w2 w3 → R (Ending.returned (Value.bool !t1)) w3) : Calls
    Tryz.prog 194 #[Value.agg #[Value.int IntKind.u16 x0, Value.int IntKind.i64 x1, Value.int IntKind.i64 x2, Value.int IntKind.i64 x3], Value.pointer (some
    { block := cap0b, off := 0 })] w R := calls_of_vcj (pure := true) (wrapAt := []) (muts := []) (esc := []) (joins := [(7000006, [])]) (args := [SV.pv (PV.agg [Lf.int IntKind.u16
    x0, Lf.int IntKind.i64 x1, Lf.int IntKind.i64 x2, Lf.int IntKind.i64 x3]), SV.pv (PV.one (Lf.ptr cap0b 0))]) (vs := [Value.agg #[Value.int IntKind.u16 x0, Value.int IntKind.i64
    x1, Value.int IntKind.i64 x2, Value.int IntKind.i64 x3], Value.pointer (some { block := cap0b, off := 0 })]) Tryz.func194 rfl rfl rfl (Eq.mp (by kernel_rfl) h) 
set_option maxRecDepth 100000 in
set_option maxHeartbeats 2000000 in
theorem vc65 (n : Int) (w : World) (R : Ending → World → Prop) (h : ∀ (m1 : Nat), w.heap.size ≤ m1 → ∀ (w1 : World), RowKit.Below w.heap.size w w1 → Kept [m1] w w1 → w1.heap[m1]? =
    some (Obj.cells #[Value.int IntKind.i64 n] 3) → Calls Tryz.prog 121 #[Value.int IntKind.i64 0, Value.int IntKind.i64 36524, Value.slice (some { block := m1, off := 0 }) 1 1] w1
    fun (e1 : Ending) (w2 : World) => ∃ (t1 : Bool), e1 = Ending.returned (Value.bool t1) ∧ KeepX true w.heap.size [m1] (fun _ => False) w1 w2 ∧ ∀ (w3 : World), RowKit.Below
    w.heap.size w w3 → Kept [m1] w2 w3 → R (Ending.returned (Value.bool t1)) w3) : Calls Tryz.prog 65 #[Value.int IntKind.i64 n] w R := calls_of_vc (pure := true) (wrapAt := [])
    (muts := []) (esc := []) (args := [SV.pv (PV.one (Lf.int IntKind.i64 n))]) (vs := [Value.int IntKind.i64 n]) Tryz.func65 rfl rfl rfl (Eq.mp (by kernel_rfl) h) 
set_option maxRecDepth 100000 in
set_option maxHeartbeats 2000000 in
theorem vc129 (sa : Option Addr) (sn : Nat) (sc : Nat) (w : World) (R : Ending → World → Prop) (h : ∀ (m1 : Nat), w.heap.size ≤ m1 → ∀ (w1 : World), RowKit.Below w.heap.size w w1 →
    Kept [m1] w w1 → w1.heap[m1]? = some (Obj.cells #[Value.slice sa sn sc] 32) → R (Ending.returned (Value.func (Fn.func 196) #[] #[Value.pointer (some
    { block := m1, off := 0 })])) w1) : Calls Tryz.prog 129 #[Value.slice sa sn sc] w R := calls_of_vc (pure := true) (wrapAt := []) (muts := []) (esc := []) (args := [SV.pv
    (PV.one (Lf.sl sa sn sc))]) (vs := [Value.slice sa sn sc]) Tryz.func129 rfl rfl rfl (Eq.mp (by kernel_rfl) h) 
set_option maxRecDepth 100000 in
set_option maxHeartbeats 2000000 in
theorem vc196 (yield : Value) (cap0b : Nat) (w : World) (R : Ending → World → Prop) (h : ∃ (a1 : Option Addr), ∃ (m1 : Nat), ∃ (m2 : Nat), w.cell? { block := cap0b, off := 0 } =
    some (Value.slice a1 m1 m2) ∧ ∃ (F1 : List Lf → World → Prop), ∃ (F2 : List Lf → Nat), (∀ (w2 : World), Kept [] w w2 → F1 [Lf.int IntKind.i64 0] w2) ∧ ∀ (x1 : Int) (w3 :
    World), F1 [Lf.int IntKind.i64 x1] w3 → (x1 < (↑m1 : Int) → ∃ (m3 : Nat), ∃ (m4 : Nat), a1 = some { block := m3, off := m4 } ∧ (0 ≤ x1 ∧ x1 < (↑m1 : Int)) ∧ ∃ (x2 : Int),
    w3.cell? { block := m3, off := m4 + x1.toNat * 1 } = some (Value.int IntKind.i64 x2) ∧ ∀ (w4 : World), Kept [] w3 w4 → ∃ (m5 : Nat), yield = Value.func (Fn.yield m5) #[] #[] ∧
    YieldAt { fn := fun (m6 : Nat) => True, alive := false } 0 Tryz.prog m5 #[Value.int IntKind.i64 x2] w4 fun (e1 : Ending) (w5 : World) => ∃ (t1 : Bool), e1 = Ending.returned
    (Value.bool t1) ∧ KeepX false w.heap.size [] (fun _ => False) w4 w5 ∧ ((!t1) = true → ∀ (w6 : World), Kept [] w5 w6 → R (Ending.returned (Value.tuple #[])) w6) ∧ ((!t1) = false
    → (-9223372036854775808 ≤ x1 + 1 ∧ x1 + (1 : Int) ≤ 9223372036854775807) ∧ ∀ (w7 : World), Kept [] w5 w7 → F1 [Lf.int IntKind.i64 (x1 + 1)] w7 ∧ F2 [Lf.int IntKind.i64 (x1 +
    1)] < F2 [Lf.int IntKind.i64 x1])) ∧ ((↑m1 : Int) ≤ x1 → ∀ (w8 : World), Kept [] w3 w8 → R (Ending.returned (Value.tuple #[])) w8)) : Calls Tryz.prog 196 #[yield, Value.pointer
    (some { block := cap0b, off := 0 })] w R := calls_of_vc (pure := false) (wrapAt := []) (muts := []) (esc := []) (args := [SV.pv (PV.one (Lf.val yield)), SV.pv (PV.one (Lf.ptr
    cap0b 0))]) (vs := [yield, Value.pointer (some { block := cap0b, off := 0 })]) Tryz.func196 rfl rfl rfl (Eq.mp (by kernel_rfl) h) 
set_option maxRecDepth 100000 in
set_option maxHeartbeats 2000000 in
theorem vc219 (sa : Option Addr) (sn : Nat) (sc : Nat) (seq : Value) (w : World) (R : Ending → World → Prop) (h : ∀ (m1 : Nat), w.heap.size ≤ m1 → ∃ (y1 : List Value), seq =
    Value.func (Fn.func 196) #[] y1.toArray ∧ ∃ (m2 : Nat), ∃ (F1 : Nat → List Value → World → Prop), ∃ (F3 : (Nat → Prop) → List Lf → Nat → World → Prop), ∃ (F4 : World → Prop),
    IterY Tryz.prog 196 [] y1 m2 F1 F4 ∧ (∀ (w4 : World), RowKit.Below w.heap.size w w4 → Kept [m1] w w4 → w4.heap[m1]? = some (Obj.cells #[Value.slice sa sn sc] 32) → F3 (fun _ =>
    False) [Lf.sl sa sn sc] 0 w4) ∧ ∀ (a1 : Option Addr) (m8 m9 m10 : Nat) (F5 F6 : Nat → Prop) (w5 w6 : World), F3 F5 [Lf.sl a1 m8 m9] m10 w5 → CalmFrom w.heap.size w5 w6 → (∀
    (m13 : Nat), F5 m13 → F6 m13) → (∀ (m14 : Nat), F6 m14 → F5 m14 ∨ w5.heap.size ≤ m14) → (∀ (m15 : Nat), F6 m15 → w.heap.size ≤ m15 ∧ m15 < w6.heap.size) → RowKit.Below
    w.heap.size w w6 → F4 w6 ∧ (∀ (y5 : List Value), m10 < m2 → F1 m10 y5 w6 → ∃ (x1 : Int), y5 = [Value.int IntKind.i64 x1] ∧ ∀ (m16 : Nat) (w7 w8 : World), RowKit.Below
    w.heap.size w w8 → Kept [m1] w6 w8 → ∀ (w9 : World), CalmFrom w.heap.size w8 w9 → ∀ (w10 : World) (m17 : Nat), w9.heap.size ≤ m17 → ∀ (w11 : World), RowKit.Below w.heap.size w
    w11 → Kept [m17, m1] w9 w11 → w11.heap[m17]? = some (Obj.cells #[Value.int IntKind.i64 x1] 3) → RunsTo Tryz.prog (Builtin.append_ #[32, 32] 32 #[Value.slice a1 m8 m9,
    Value.slice (some { block := m17, off := 0 }) 1 1]) w11 fun (v1 : Value) (w12 : World) => ∃ (a2 : Option Addr), ∃ (m19 : Nat), ∃ (m20 : Nat), v1 = Value.slice a2 m19 m20 ∧
    KeepX true w.heap.size [m17, m1] F6 w11 w12 ∧ ∀ (w13 : World), RowKit.Below w.heap.size w w13 → Kept [m17, m1] w12 w13 → F3 F6 [Lf.sl a2 m19 m20] (m10 + 1) w13) ∧ (m10 = m2 → ∀
    (w14 : World), RowKit.Below w.heap.size w w14 → Kept [m1] w6 w14 → ∀ (w15 : World), CalmFrom w.heap.size w14 w15 → R (Ending.returned (Value.slice a1 m8 m9)) w15)) : Calls
    Tryz.prog 219 #[Value.slice sa sn sc, seq] w R := calls_of_vcj (pure := true) (wrapAt := []) (muts := [2]) (esc := []) (joins := [(6000196, [])]) (args := [SV.pv (PV.one (Lf.sl
    sa sn sc)), SV.pv (PV.one (Lf.val seq))]) (vs := [Value.slice sa sn sc, seq]) Tryz.func219 rfl rfl rfl (Eq.mp (by kernel_rfl) h) 
set_option maxRecDepth 100000 in
set_option maxHeartbeats 2000000 in
theorem vc195 (seqf : Nat) (seqi : List Value) (seqc : List Value) (w : World) (R : Ending → World → Prop) (h : ∀ (w1 : World), RowKit.Below w.heap.size w w1 → Kept [] w w1 → Calls
    Tryz.prog 219 #[Value.slice none 0 0, Value.func (Fn.func seqf) seqi.toArray seqc.toArray] w1 fun (e1 : Ending) (w2 : World) => ∃ (a1 : Option Addr), ∃ (m1 : Nat), ∃ (m2 :
    Nat), e1 = Ending.returned (Value.slice a1 m1 m2) ∧ KeepX true w.heap.size [] (fun _ => False) w1 w2 ∧ ∀ (w3 : World), RowKit.Below w.heap.size w w3 → Kept [] w2 w3 → R
    (Ending.returned (Value.slice a1 m1 m2)) w3) : Calls Tryz.prog 195 #[Value.func (Fn.func seqf) seqi.toArray seqc.toArray] w R := calls_of_vc (pure := true) (wrapAt := []) (muts
    := []) (esc := []) (args := [SV.pv (PV.one (Lf.fv seqf seqi seqc))]) (vs := [Value.func (Fn.func seqf) seqi.toArray seqc.toArray]) Tryz.func195 rfl rfl rfl (Eq.mp (by
    kernel_rfl) h) 
set_option maxRecDepth 100000 in
set_option maxHeartbeats 2000000 in
theorem vc128 (seqf : Nat) (seqi : List Value) (seqc : List Value) (w : World) (R : Ending → World → Prop) (h : ∀ (w1 : World), RowKit.Below w.heap.size w w1 → Kept [] w w1 → Calls
    Tryz.prog 195 #[Value.func (Fn.func seqf) seqi.toArray seqc.toArray] w1 fun (e1 : Ending) (w2 : World) => ∃ (a1 : Option Addr), ∃ (m1 : Nat), ∃ (m2 : Nat), e1 = Ending.returned
    (Value.slice a1 m1 m2) ∧ KeepX true w.heap.size [] (fun _ => False) w1 w2 ∧ ∀ (w3 : World), RowKit.Below w.heap.size w w3 → Kept [] w2 w3 → Calls Tryz.prog 52 #[Value.slice a1
    m1 m2] w3 fun (e2 : Ending) (w4 : World) => e2 = Ending.returned (Value.tuple #[]) ∧ KeepX true w.heap.size [] (fun _ => False) w3 w4 ∧ ∀ (w5 : World), RowKit.Below w.heap.size
    w w5 → Kept [] w4 w5 → R (Ending.returned (Value.slice a1 m1 m2)) w5) : Calls Tryz.prog 128 #[Value.func (Fn.func seqf) seqi.toArray seqc.toArray] w R := calls_of_vc (pure :=
    true) (wrapAt := []) (muts := []) (esc := []) (args := [SV.pv (PV.one (Lf.fv seqf seqi seqc))]) (vs := [Value.func (Fn.func seqf) seqi.toArray seqc.toArray]) Tryz.func128 rfl
    rfl rfl (Eq.mp (by kernel_rfl) h) 
set_option maxRecDepth 100000 in
set_option maxHeartbeats 2000000 in
theorem vc64 (r0a : Option Addr) (r0n : Nat) (r0c : Nat) (r1a : Option Addr) (r1n : Nat) (r1c : Nat) (r2a : Option Addr) (r2n : Nat) (r2c : Nat) (r3 : Int) (r4 : Int) (daysa :
    Option Addr) (daysn : Nat) (daysc : Nat) (w : World) (R : Ending → World → Prop) (h : ∀ (m1 : Nat), w.heap.size ≤ m1 → (400 < (↑daysn : Int) → ∀ (w1 : World), RowKit.Below
    w.heap.size w w1 → Kept [m1] w w1 → R (Ending.returned (Value.int IntKind.i64 5)) w1) ∧ ((↑daysn : Int) ≤ 400 → ∃ (F1 : List Lf → World → Prop), ∃ (F2 : List Lf → Nat), (∀ (w3
    : World), RowKit.Below w.heap.size w w3 → Kept [m1] w w3 → F1 [Lf.int IntKind.i64 0, Lf.int IntKind.i64 0, Lf.int IntKind.i64 0] w3) ∧ ∀ (x1 x2 x3 : Int) (w4 : World),
    RowKit.Below w.heap.size w w4 → F1 [Lf.int IntKind.i64 x1, Lf.int IntKind.i64 x2, Lf.int IntKind.i64 x3] w4 → (x3 < (↑daysn : Int) → ∃ (m2 : Nat), ∃ (m3 : Nat), daysa = some
    { block := m2, off := m3 } ∧ (0 ≤ x3 ∧ x3 < (↑daysn : Int)) ∧ ∃ (x4 : Int), ∃ (a1 : Option Addr), ∃ (m4 : Nat), ∃ (m5 : Nat), w4.cell? { block := m2, off := m3 + x3.toNat * 2 }
    = some (Value.int IntKind.i64 x4) ∧ w4.cell? { block := m2, off := m3 + x3.toNat * 2 + 1 } = some (Value.slice a1 m4 m5) ∧ (m2 < w.heap.size ∨ m2 ≠ m1) ∧ ∀ (m6 : Nat),
    w4.heap.size ≤ m6 → (-9223372036854775808 ≤ x2 + 1 ∧ x2 + (1 : Int) ≤ 9223372036854775807) ∧ ∀ (m7 : Nat), w4.heap.size ≤ m7 → ∀ (w5 : World), RowKit.Below w.heap.size w w5 →
    Kept [m7, m6, m1] w4 w5 → w5.heap[m7]? = some (Obj.cells #[Value.int IntKind.i64 x4] 3) → Calls Tryz.prog 121 #[Value.int IntKind.i64 (x2 + 1), Value.int IntKind.i64 36524,
    Value.slice (some { block := m7, off := 0 }) 1 1] w5 fun (e1 : Ending) (w6 : World) => ∃ (t1 : Bool), e1 = Ending.returned (Value.bool t1) ∧ KeepX true w.heap.size [m7, m6, m1]
    (fun _ => False) w5 w6 ∧ ((!t1) = true → ∀ (w7 : World), RowKit.Below w.heap.size w w7 → Kept [m7, m6, m1] w6 w7 → R (Ending.returned (Value.int IntKind.i64 2)) w7) ∧ ((!t1) =
    false → (-9223372036854775808 ≤ (↑r0n : Int) - 1 ∧ (↑r0n : Int) - (1 : Int) ≤ 9223372036854775807) ∧ ∀ (w8 : World), RowKit.Below w.heap.size w w8 → Kept [m7, m6, m1] w6 w8 →
    Calls Tryz.prog 121 #[Value.int IntKind.i64 0, Value.int IntKind.i64 ((↑r0n : Int) - 1), Value.slice a1 m4 m5] w8 fun (e2 : Ending) (w9 : World) => ∃ (t2 : Bool), e2 =
    Ending.returned (Value.bool t2) ∧ KeepX true w.heap.size [m7, m6, m1] (fun _ => False) w8 w9 ∧ ((!t2) = true → ∀ (w10 : World), RowKit.Below w.heap.size w w10 → Kept [m7, m6,
    m1] w9 w10 → R (Ending.returned (Value.int IntKind.i64 2)) w10) ∧ ((!t2) = false → ∀ (w11 : World), RowKit.Below w.heap.size w w11 → Kept [m7, m6, m1] w9 w11 → Calls Tryz.prog
    129 #[Value.slice a1 m4 m5] w11 fun (e3 : Ending) (w12 : World) => ∃ (v1 : Value), e3 = Ending.returned v1 ∧ KeepX true w.heap.size [m7, m6, m1] (fun _ => False) w11 w12 ∧ ∀
    (w13 : World), RowKit.Below w.heap.size w w13 → Kept [m7, m6, m1] w12 w13 → Calls Tryz.prog 128 #[v1] w13 fun (e4 : Ending) (w14 : World) => ∃ (a2 : Option Addr), ∃ (m12 :
    Nat), ∃ (m13 : Nat), e4 = Ending.returned (Value.slice a2 m12 m13) ∧ KeepX true w.heap.size [m7, m6, m1] (fun _ => False) w13 w14 ∧ ∀ (w15 : World), RowKit.Below w.heap.size w
    w15 → KeptIn [(0, w14.heap.size)] [m7, m6, m1] w14 w15 → Calls Tryz.prog 69 #[Value.slice a2 m12 m13] w15 fun (e5 : Ending) (w16 : World) => ∃ (a3 : Option Addr), ∃ (m15 :
    Nat), ∃ (m16 : Nat), e5 = Ending.returned (Value.slice a3 m15 m16) ∧ KeepX true w.heap.size [m7, m6, m1] (fun _ => False) w15 w16 ∧ ((↑m15 : Int) < (↑m4 : Int) → ∀ (w17 :
    World), RowKit.Below w.heap.size w w17 → Kept [m7, m6, m1] w16 w17 → R (Ending.returned (Value.int IntKind.i64 2)) w17) ∧ ((↑m4 : Int) ≤ (↑m15 : Int) → (-9223372036854775808 ≤
    x3 + 1 ∧ x3 + (1 : Int) ≤ 9223372036854775807) ∧ ∀ (w18 : World), RowKit.Below w.heap.size w w18 → Kept [m7, m6, m1] w16 w18 → F1 [Lf.int IntKind.i64 x1, Lf.int IntKind.i64 x4,
    Lf.int IntKind.i64 (x3 + 1)] w18 ∧ F2 [Lf.int IntKind.i64 x1, Lf.int IntKind.i64 x4, Lf.int IntKind.i64 (x3 + 1)] < F2 [Lf.int IntKind.i64 x1, Lf.int IntKind.i64 x2, Lf.int
    IntKind.i64 x3])))) ∧ ((↑daysn : Int) ≤ x3 → ∀ (w19 : World), RowKit.Below w.heap.size w w19 → Kept [m1] w4 w19 → R (Ending.returned (Value.int IntKind.i64 0)) w19))) : Calls
    Tryz.prog 64 #[Value.agg #[Value.slice r0a r0n r0c, Value.slice r1a r1n r1c, Value.slice r2a r2n r2c, Value.int IntKind.i64 r3, Value.int IntKind.i64 r4], Value.slice daysa
    daysn daysc] w R := calls_of_vc (pure := true) (wrapAt := []) (muts := []) (esc := []) (args := [SV.pv (PV.agg [Lf.sl r0a r0n r0c, Lf.sl r1a r1n r1c, Lf.sl r2a r2n r2c, Lf.int
    IntKind.i64 r3, Lf.int IntKind.i64 r4]), SV.pv (PV.one (Lf.sl daysa daysn daysc))]) (vs := [Value.agg #[Value.slice r0a r0n r0c, Value.slice r1a r1n r1c, Value.slice r2a r2n
    r2c, Value.int IntKind.i64 r3, Value.int IntKind.i64 r4], Value.slice daysa daysn daysc]) Tryz.func64 rfl rfl rfl (Eq.mp (by kernel_rfl) h) 
set_option maxRecDepth 100000 in
set_option maxHeartbeats 2000000 in
theorem vc66 (xa : Option Addr) (xn : Nat) (xc : Nat) (w : World) (R : Ending → World → Prop) (h : ((↑xn : Int) < 1 → ∀ (w1 : World), RowKit.Below w.heap.size w w1 → Kept [] w w1 →
    RunsTo Tryz.prog (Instr.makeInterface 9 (Value.string { data := #[115, 108, 105, 99, 101, 115, 46, 77, 105, 110, 58, 32, 101, 109, 112, 116, 121, 32, 108, 105, 115, 116] })) w1
    fun (v1 : Value) (w2 : World) => ∃ (v2 : Value), v1 = v2 ∧ KeepX true w.heap.size [] (fun _ => False) w1 w2 ∧ Unsup "an operation that is not plain") ∧ (1 ≤ (↑xn : Int) → ∃ (m2
    : Nat), ∃ (m3 : Nat), xa = some { block := m2, off := m3 } ∧ ((0 : Int) ≤ 0 ∧ 0 < (↑xn : Int)) ∧ ∃ (x1 : Int), w.cell? { block := m2, off := m3 + Int.toNat 0 * 1 } = some
    (Value.int IntKind.i64 x1) ∧ ∃ (F1 : List Lf → World → Prop), ∃ (F2 : List Lf → Nat), (∀ (w4 : World), RowKit.Below w.heap.size w w4 → Kept [] w w4 → F1 [Lf.int IntKind.i64 x1,
    Lf.int IntKind.i64 1] w4) ∧ ∀ (x2 x3 : Int) (w5 : World), RowKit.Below w.heap.size w w5 → F1 [Lf.int IntKind.i64 x2, Lf.int IntKind.i64 x3] w5 → (x3 < (↑xn : Int) → ∃ (m4 :
    Nat), ∃ (m5 : Nat), xa = some { block := m4, off := m5 } ∧ (0 ≤ x3 ∧ x3 < (↑xn : Int)) ∧ ∃ (x4 : Int), w5.cell? { block := m4, off := m5 + x3.toNat * 1 } = some (Value.int
    IntKind.i64 x4) ∧ (-9223372036854775808 ≤ x3 + 1 ∧ x3 + (1 : Int) ≤ 9223372036854775807) ∧ ∀ (w6 : World), RowKit.Below w.heap.size w w6 → Kept [] w5 w6 → F1 [Lf.int
    IntKind.i64 (min x2 x4), Lf.int IntKind.i64 (x3 + 1)] w6 ∧ F2 [Lf.int IntKind.i64 (min x2 x4), Lf.int IntKind.i64 (x3 + 1)] < F2 [Lf.int IntKind.i64 x2, Lf.int IntKind.i64 x3])
    ∧ ((↑xn : Int) ≤ x3 → ∀ (w7 : World), RowKit.Below w.heap.size w w7 → Kept [] w5 w7 → R (Ending.returned (Value.int IntKind.i64 x2)) w7))) : Calls Tryz.prog 66 #[Value.slice xa
    xn xc] w R := calls_of_vc (pure := true) (wrapAt := []) (muts := []) (esc := []) (args := [SV.pv (PV.one (Lf.sl xa xn xc))]) (vs := [Value.slice xa xn xc]) Tryz.func66 rfl rfl
    rfl (Eq.mp (by kernel_rfl) h) 
set_option maxRecDepth 100000 in
set_option maxHeartbeats 2000000 in
theorem vc67 (sa : Option Addr) (sn : Nat) (sc : Nat) (v : Int) (w : World) (R : Ending → World → Prop) (h : ∃ (F1 : List Lf → World → Prop), ∃ (F2 : List Lf → Nat), (∀ (w2 :
    World), RowKit.Below w.heap.size w w2 → Kept [] w w2 → F1 [Lf.int IntKind.i64 0, Lf.int IntKind.i64 0] w2) ∧ ∀ (x1 x2 : Int) (w3 : World), RowKit.Below w.heap.size w w3 → F1
    [Lf.int IntKind.i64 x1, Lf.int IntKind.i64 x2] w3 → (x2 < (↑sn : Int) → ∃ (m1 : Nat), ∃ (m2 : Nat), sa = some { block := m1, off := m2 } ∧ (0 ≤ x2 ∧ x2 < (↑sn : Int)) ∧ ∃ (x3 :
    Int), w3.cell? { block := m1, off := m2 + x2.toNat * 1 } = some (Value.int IntKind.i64 x3) ∧ (v = x3 → ∀ (w4 : World), RowKit.Below w.heap.size w w4 → Kept [] w3 w4 → R
    (Ending.returned (Value.int IntKind.i64 x2)) w4) ∧ (v ≠ x3 → (-9223372036854775808 ≤ x2 + 1 ∧ x2 + (1 : Int) ≤ 9223372036854775807) ∧ ∀ (w5 : World), RowKit.Below w.heap.size w
    w5 → Kept [] w3 w5 → F1 [Lf.int IntKind.i64 x1, Lf.int IntKind.i64 (x2 + 1)] w5 ∧ F2 [Lf.int IntKind.i64 x1, Lf.int IntKind.i64 (x2 + 1)] < F2 [Lf.int IntKind.i64 x1, Lf.int
    IntKind.i64 x2])) ∧ ((↑sn : Int) ≤ x2 → ∀ (w6 : World), RowKit.Below w.heap.size w w6 → Kept [] w3 w6 → R (Ending.returned (Value.int IntKind.i64 (-1))) w6)) : Calls Tryz.prog
    67 #[Value.slice sa sn sc, Value.int IntKind.i64 v] w R := calls_of_vc (pure := true) (wrapAt := []) (muts := []) (esc := []) (args := [SV.pv (PV.one (Lf.sl sa sn sc)), SV.pv
    (PV.one (Lf.int IntKind.i64 v))]) (vs := [Value.slice sa sn sc, Value.int IntKind.i64 v]) Tryz.func67 rfl rfl rfl (Eq.mp (by kernel_rfl) h) 
set_option maxRecDepth 100000 in
set_option maxHeartbeats 2000000 in
theorem vc30 (ca : Option Addr) (cn : Nat) (cc : Nat) (w : World) (R : Ending → World → Prop) (h : ∀ (w1 : World), RowKit.Below w.heap.size w w1 → Kept [] w w1 → Calls Tryz.prog 66
    #[Value.slice ca cn cc] w1 fun (e1 : Ending) (w2 : World) => ∃ (x1 : Int), e1 = Ending.returned (Value.int IntKind.i64 x1) ∧ KeepX true w.heap.size [] (fun _ => False) w1 w2 ∧
    ∀ (w3 : World), RowKit.Below w.heap.size w w3 → Kept [] w2 w3 → Calls Tryz.prog 67 #[Value.slice ca cn cc, Value.int IntKind.i64 x1] w3 fun (e2 : Ending) (w4 : World) => ∃ (x2
    : Int), e2 = Ending.returned (Value.int IntKind.i64 x2) ∧ KeepX true w.heap.size [] (fun _ => False) w3 w4 ∧ ∀ (w5 : World), RowKit.Below w.heap.size w w5 → Kept [] w4 w5 → R
    (Ending.returned (Value.tuple #[Value.int IntKind.i64 x2, Value.int IntKind.i64 x1])) w5) : Calls Tryz.prog 30 #[Value.slice ca cn cc] w R := calls_of_vc (pure := true) (wrapAt
    := []) (muts := []) (esc := []) (args := [SV.pv (PV.one (Lf.sl ca cn cc))]) (vs := [Value.slice ca cn cc]) Tryz.func30 rfl rfl rfl (Eq.mp (by kernel_rfl) h) 
set_option maxRecDepth 100000 in
set_option maxHeartbeats 2000000 in
theorem vc7 (r0a : Option Addr) (r0n : Nat) (r0c : Nat) (r1a : Option Addr) (r1n : Nat) (r1c : Nat) (r2a : Option Addr) (r2n : Nat) (r2c : Nat) (r3 : Int) (r4 : Int) (daysa :
    Option Addr) (daysn : Nat) (daysc : Nat) (till : Int) (w : World) (R : Ending → World → Prop) (h : ∀ (m1 : Nat), w.heap.size ≤ m1 → ∀ (w1 : World), RowKit.Below w.heap.size w
    w1 → Kept [m1] w w1 → Calls Tryz.prog 29 #[Value.agg #[Value.slice r0a r0n r0c, Value.slice r1a r1n r1c, Value.slice r2a r2n r2c, Value.int IntKind.i64 r3, Value.int
    IntKind.i64 r4], Value.slice daysa daysn daysc, Value.int IntKind.i64 till] w1 fun (e1 : Ending) (w2 : World) => ∃ (a1 : Option Addr), ∃ (m2 : Nat), ∃ (m3 : Nat), ∃ (x1 : Int),
    e1 = Ending.returned (Value.tuple #[Value.slice a1 m2 m3, Value.int IntKind.i64 x1]) ∧ KeepX true w.heap.size [m1] (fun _ => False) w1 w2 ∧ (x1 ≠ 0 → ∀ (w3 : World),
    RowKit.Below w.heap.size w w3 → Kept [m1] w2 w3 → R (Ending.returned (Value.tuple #[Value.int IntKind.i64 0, Value.int IntKind.i64 0, Value.int IntKind.i64 x1])) w3) ∧ (x1 = 0
    → ∃ (F1 : List Lf → World → Prop), ∃ (F2 : List Lf → Nat), (∀ (w5 : World), RowKit.Below w.heap.size w w5 → Kept [m1] w2 w5 → F1 [Lf.int IntKind.i64 0, Lf.int IntKind.i64 0,
    Lf.int IntKind.i64 x1, Lf.int IntKind.i64 0] w5) ∧ ∀ (x2 x3 x4 x5 : Int) (w6 : World), RowKit.Below w.heap.size w w6 → F1 [Lf.int IntKind.i64 x2, Lf.int IntKind.i64 x3, Lf.int
    IntKind.i64 x4, Lf.int IntKind.i64 x5] w6 → (x5 < (↑daysn : Int) → ∃ (m5 : Nat), ∃ (m6 : Nat), daysa = some { block := m5, off := m6 } ∧ (0 ≤ x5 ∧ x5 < (↑daysn : Int)) ∧ ∃ (x6
    : Int), ∃ (a2 : Option Addr), ∃ (m7 : Nat), ∃ (m8 : Nat), w6.cell? { block := m5, off := m6 + x5.toNat * 2 } = some (Value.int IntKind.i64 x6) ∧ w6.cell?
    { block := m5, off := m6 + x5.toNat * 2 + 1 } = some (Value.slice a2 m7 m8) ∧ (m5 < w.heap.size ∨ m5 ≠ m1) ∧ ∀ (m9 : Nat), w6.heap.size ≤ m9 → ∀ (w7 : World), RowKit.Below
    w.heap.size w w7 → Kept [m9, m1] w6 w7 → Calls Tryz.prog 30 #[Value.slice a1 m2 m3] w7 fun (e2 : Ending) (w8 : World) => ∃ (x7 : Int), ∃ (x8 : Int), e2 = Ending.returned
    (Value.tuple #[Value.int IntKind.i64 x7, Value.int IntKind.i64 x8]) ∧ KeepX true w.heap.size [m9, m1] (fun _ => False) w7 w8 ∧ (x8 < x6 → ∀ (w9 : World), RowKit.Below
    w.heap.size w w9 → Kept [m9, m1] w8 w9 → Calls Tryz.prog 30 #[Value.slice a1 m2 m3] w9 fun (e3 : Ending) (w10 : World) => ∃ (x9 : Int), ∃ (x10 : Int), e3 = Ending.returned
    (Value.tuple #[Value.int IntKind.i64 x9, Value.int IntKind.i64 x10]) ∧ KeepX true w.heap.size [m9, m1] (fun _ => False) w9 w10 ∧ (till < x10 → ∀ (w11 : World), RowKit.Below
    w.heap.size w w11 → Kept [m9, m1] w10 w11 → R (Ending.returned (Value.tuple #[Value.int IntKind.i64 (-1), Value.int IntKind.i64 0, Value.int IntKind.i64 0])) w11) ∧ (x10 ≤ till
    → ∀ (w12 : World), RowKit.Below w.heap.size w w12 → Kept [m9, m1] w10 w12 → R (Ending.returned (Value.tuple #[Value.int IntKind.i64 x9, Value.int IntKind.i64 x10, Value.int
    IntKind.i64 0])) w12)) ∧ (x6 ≤ x8 → (till < x6 → ∀ (w13 : World), RowKit.Below w.heap.size w w13 → Kept [m9, m1] w8 w13 → Calls Tryz.prog 30 #[Value.slice a1 m2 m3] w13 fun (e4
    : Ending) (w14 : World) => ∃ (x11 : Int), ∃ (x12 : Int), e4 = Ending.returned (Value.tuple #[Value.int IntKind.i64 x11, Value.int IntKind.i64 x12]) ∧ KeepX true w.heap.size
    [m9, m1] (fun _ => False) w13 w14 ∧ (till < x12 → ∀ (w15 : World), RowKit.Below w.heap.size w w15 → Kept [m9, m1] w14 w15 → R (Ending.returned (Value.tuple #[Value.int
    IntKind.i64 (-1), Value.int IntKind.i64 0, Value.int IntKind.i64 0])) w15) ∧ (x12 ≤ till → ∀ (w16 : World), RowKit.Below w.heap.size w w16 → Kept [m9, m1] w14 w16 → R
    (Ending.returned (Value.tuple #[Value.int IntKind.i64 x11, Value.int IntKind.i64 x12, Value.int IntKind.i64 0])) w16)) ∧ (x6 ≤ till → ∀ (w17 : World), RowKit.Below w.heap.size
    w w17 → Kept [m9, m1] w8 w17 → Calls Tryz.prog 31 #[Value.slice a1 m2 m3, Value.agg #[Value.slice r0a r0n r0c, Value.slice r1a r1n r1c, Value.slice r2a r2n r2c, Value.int
    IntKind.i64 r3, Value.int IntKind.i64 r4], Value.agg #[Value.int IntKind.i64 x6, Value.slice a2 m7 m8]] w17 fun (e5 : Ending) (w18 : World) => e5 = Ending.returned (Value.tuple
    #[]) ∧ KeepX true w.heap.size [m9, m1] (fun _ => False) w17 w18 ∧ ∀ (w19 : World), RowKit.Below w.heap.size w w19 → Kept [m9, m1] w18 w19 → Calls Tryz.prog 30 #[Value.slice a1
    m2 m3] w19 fun (e6 : Ending) (w20 : World) => ∃ (x13 : Int), ∃ (x14 : Int), e6 = Ending.returned (Value.tuple #[Value.int IntKind.i64 x13, Value.int IntKind.i64 x14]) ∧ KeepX
    true w.heap.size [m9, m1] (fun _ => False) w19 w20 ∧ (x14 ≤ x6 → ∀ (w21 : World), RowKit.Below w.heap.size w w21 → Kept [m9, m1] w20 w21 → R (Ending.returned (Value.tuple
    #[Value.int IntKind.i64 x13, Value.int IntKind.i64 x14, Value.int IntKind.i64 0])) w21) ∧ (x6 < x14 → (-9223372036854775808 ≤ x5 + 1 ∧ x5 + (1 : Int) ≤ 9223372036854775807) ∧ ∀
    (w22 : World), RowKit.Below w.heap.size w w22 → Kept [m9, m1] w20 w22 → F1 [Lf.int IntKind.i64 x2, Lf.int IntKind.i64 x3, Lf.int IntKind.i64 x4, Lf.int IntKind.i64 (x5 + 1)]
    w22 ∧ F2 [Lf.int IntKind.i64 x2, Lf.int IntKind.i64 x3, Lf.int IntKind.i64 x4, Lf.int IntKind.i64 (x5 + 1)] < F2 [Lf.int IntKind.i64 x2, Lf.int IntKind.i64 x3, Lf.int
    IntKind.i64 x4, Lf.int IntKind.i64 x5])))) ∧ ((↑daysn : Int) ≤ x5 → ∀ (w23 : World), RowKit.Below w.heap.size w w23 → Kept [m1] w6 w23 → Calls Tryz.prog 30 #[Value.slice a1 m2
    m3] w23 fun (e7 : Ending) (w24 : World) => ∃ (x15 : Int), ∃ (x16 : Int), e7 = Ending.returned (Value.tuple #[Value.int IntKind.i64 x15, Value.int IntKind.i64 x16]) ∧ KeepX true
    w.heap.size [m1] (fun _ => False) w23 w24 ∧ (till < x16 → ∀ (w25 : World), RowKit.Below w.heap.size w w25 → Kept [m1] w24 w25 → R (Ending.returned (Value.tuple #[Value.int
    IntKind.i64 (-1), Value.int IntKind.i64 0, Value.int IntKind.i64 0])) w25) ∧ (x16 ≤ till → ∀ (w26 : World), RowKit.Below w.heap.size w w26 → Kept [m1] w24 w26 → R
    (Ending.returned (Value.tuple #[Value.int IntKind.i64 x15, Value.int IntKind.i64 x16, Value.int IntKind.i64 0])) w26)))) : Calls Tryz.prog 7 #[Value.agg #[Value.slice r0a r0n
    r0c, Value.slice r1a r1n r1c, Value.slice r2a r2n r2c, Value.int IntKind.i64 r3, Value.int IntKind.i64 r4], Value.slice daysa daysn daysc, Value.int IntKind.i64 till] w R :=
    calls_of_vc (pure := true) (wrapAt := []) (muts := []) (esc := []) (args := [SV.pv (PV.agg [Lf.sl r0a r0n r0c, Lf.sl r1a r1n r1c, Lf.sl r2a r2n r2c, Lf.int IntKind.i64 r3,
    Lf.int IntKind.i64 r4]), SV.pv (PV.one (Lf.sl daysa daysn daysc)), SV.pv (PV.one (Lf.int IntKind.i64 till))]) (vs := [Value.agg #[Value.slice r0a r0n r0c, Value.slice r1a r1n
    r1c, Value.slice r2a r2n r2c, Value.int IntKind.i64 r3, Value.int IntKind.i64 r4], Value.slice daysa daysn daysc, Value.int IntKind.i64 till]) Tryz.func7 rfl rfl rfl (Eq.mp (by
    kernel_rfl) h) 
end Go.Proofs
end
section
/- The conditions of the functions, printed by program; each is what the generator reckons (kernel_rfl). -/
namespace Go.Proofs
open Go.Vc
set_option maxRecDepth 100000 in
set_option maxHeartbeats 2000000 in
theorem vc63 (r0a : Option Addr) (r0n : Nat) (r0c : Nat) (r1a : Option Addr) (r1n : Nat) (r1c : Nat) (r2a : Option Addr) (r2n : Nat) (r2c : Nat) (r3 : Int) (r4 : Int) (w : World)
    (R : Ending → World → Prop) (h : ∀ (m1 : Nat), w.heap.size ≤ m1 → (8 < (↑r0n : Int) → (8 < (↑r0n : Int) → ∀ (w1 : World), RowKit.Below w.heap.size w w1 → Kept [m1] w w1 → R
    (Ending.returned (Value.int IntKind.i64 5)) w1) ∧ ((↑r0n : Int) ≤ 8 → ∀ (w2 : World), RowKit.Below w.heap.size w w2 → Kept [m1] w w2 → Calls Tryz.prog 120 #[Value.agg
    #[Value.slice r0a r0n r0c, Value.slice r1a r1n r1c, Value.slice r2a r2n r2c, Value.int IntKind.i64 r3, Value.int IntKind.i64 r4]] w2 fun (e1 : Ending) (w3 : World) => ∃ (t1 :
    Bool), e1 = Ending.returned (Value.bool t1) ∧ KeepX true w.heap.size [m1] (fun _ => False) w2 w3 ∧ ((!t1) = true → ∀ (w4 : World), RowKit.Below w.heap.size w w4 → Kept [m1] w3
    w4 → R (Ending.returned (Value.int IntKind.i64 4)) w4) ∧ ((!t1) = false → ∃ (F1 : List Lf → World → Prop), ∃ (F2 : List Lf → Nat), (∀ (w6 : World), RowKit.Below w.heap.size w
    w6 → Kept [m1] w3 w6 → F1 [Lf.int IntKind.i64 0, Lf.int IntKind.i64 0] w6) ∧ ∀ (x1 x2 : Int) (w7 : World), RowKit.Below w.heap.size w w7 → F1 [Lf.int IntKind.i64 x1, Lf.int
    IntKind.i64 x2] w7 → (x2 < (↑r1n : Int) → ∃ (m3 : Nat), ∃ (m4 : Nat), r1a = some { block := m3, off := m4 } ∧ (0 ≤ x2 ∧ x2 < (↑r1n : Int)) ∧ ∃ (a1 : Option Addr), ∃ (m5 : Nat),
    ∃ (m6 : Nat), w7.cell? { block := m3, off := m4 + x2.toNat * 1 } = some (Value.slice a1 m5 m6) ∧ (m3 < w.heap.size ∨ m3 ≠ m1) ∧ ∀ (w8 : World), RowKit.Below w.heap.size w w8 →
    Kept [m1] w7 w8 → Calls Tryz.prog 121 #[Value.int IntKind.i64 0, Value.int IntKind.i64 1440, Value.slice a1 m5 m6] w8 fun (e2 : Ending) (w9 : World) => ∃ (t2 : Bool), e2 =
    Ending.returned (Value.bool t2) ∧ KeepX true w.heap.size [m1] (fun _ => False) w8 w9 ∧ ((!t2) = true → ∀ (w10 : World), RowKit.Below w.heap.size w w10 → Kept [m1] w9 w10 → R
    (Ending.returned (Value.int IntKind.i64 2)) w10) ∧ ((!t2) = false → ∃ (m8 : Nat), ∃ (m9 : Nat), a1 = some { block := m8, off := m9 } ∧ (0 ≤ x2 ∧ x2 < (↑m5 : Int)) ∧ ∃ (x3 :
    Int), w9.cell? { block := m8, off := m9 + x2.toNat * 1 } = some (Value.int IntKind.i64 x3) ∧ (m8 < w.heap.size ∨ m8 ≠ m1) ∧ (x3 ≠ 0 → ∀ (w11 : World), RowKit.Below w.heap.size
    w w11 → Kept [m1] w9 w11 → R (Ending.returned (Value.int IntKind.i64 2)) w11) ∧ (x3 = 0 → (-9223372036854775808 ≤ x2 + 1 ∧ x2 + (1 : Int) ≤ 9223372036854775807) ∧ ∀ (w12 :
    World), RowKit.Below w.heap.size w w12 → Kept [m1] w9 w12 → F1 [Lf.int IntKind.i64 x1, Lf.int IntKind.i64 (x2 + 1)] w12 ∧ F2 [Lf.int IntKind.i64 x1, Lf.int IntKind.i64 (x2 +
    1)] < F2 [Lf.int IntKind.i64 x1, Lf.int IntKind.i64 x2]))) ∧ ((↑r1n : Int) ≤ x2 → ((↑r0n : Int) = 0 → ∀ (w13 : World), RowKit.Below w.heap.size w w13 → Kept [m1] w7 w13 → R
    (Ending.returned (Value.int IntKind.i64 2)) w13) ∧ ((↑r0n : Int) ≠ 0 → ∀ (w14 : World), RowKit.Below w.heap.size w w14 → KeptIn [(0, w7.heap.size)] [m1] w7 w14 → Calls
    Tryz.prog 123 #[Value.func (Fn.func 124) #[] #[]] w14 fun (e3 : Ending) (w15 : World) => ∃ (v1 : Value), e3 = Ending.returned v1 ∧ KeepX true w.heap.size [m1] (fun _ => False)
    w14 w15 ∧ ∀ (w16 : World), RowKit.Below w.heap.size w w16 → KeptIn [(0, w15.heap.size)] [m1] w15 w16 → Calls Tryz.prog 122 #[Value.slice r0a r0n r0c, v1] w16 fun (e4 : Ending)
    (w17 : World) => ∃ (t3 : Bool), e4 = Ending.returned (Value.bool t3) ∧ KeepX true w.heap.size [m1] (fun _ => False) w16 w17 ∧ (t3 = true → ∀ (w18 : World), RowKit.Below
    w.heap.size w w18 → Kept [m1] w17 w18 → R (Ending.returned (Value.int IntKind.i64 2)) w18) ∧ (t3 = false → ((↑r2n : Int) = 0 → ∀ (w19 : World), RowKit.Below w.heap.size w w19 →
    Kept [m1] w17 w19 → R (Ending.returned (Value.int IntKind.i64 2)) w19) ∧ ((↑r2n : Int) ≠ 0 → ∀ (w20 : World), RowKit.Below w.heap.size w w20 → KeptIn [(0, w17.heap.size)] [m1]
    w17 w20 → Calls Tryz.prog 126 #[Value.func (Fn.func 127) #[] #[]] w20 fun (e5 : Ending) (w21 : World) => ∃ (v2 : Value), e5 = Ending.returned v2 ∧ KeepX true w.heap.size [m1]
    (fun _ => False) w20 w21 ∧ ∀ (w22 : World), RowKit.Below w.heap.size w w22 → KeptIn [(0, w21.heap.size)] [m1] w21 w22 → Calls Tryz.prog 125 #[Value.slice r2a r2n r2c, v2] w22
    fun (e6 : Ending) (w23 : World) => ∃ (t4 : Bool), e6 = Ending.returned (Value.bool t4) ∧ KeepX true w.heap.size [m1] (fun _ => False) w22 w23 ∧ (t4 = true → ∀ (w24 : World),
    RowKit.Below w.heap.size w w24 → Kept [m1] w23 w24 → R (Ending.returned (Value.int IntKind.i64 2)) w24) ∧ (t4 = false → ∀ (m14 : Nat), w23.heap.size ≤ m14 → ∀ (w25 : World),
    RowKit.Below w.heap.size w w25 → KeptIn [(0, w23.heap.size)] [m14, m1] w23 w25 → w25.heap[m14]? = some (Obj.cells #[Value.int IntKind.i64 r3] 3) → Calls Tryz.prog 121
    #[Value.int IntKind.i64 1, Value.int IntKind.i64 1440, Value.slice (some { block := m14, off := 0 }) 1 1] w25 fun (e7 : Ending) (w26 : World) => ∃ (t5 : Bool), e7 =
    Ending.returned (Value.bool t5) ∧ KeepX true w.heap.size [m14, m1] (fun _ => False) w25 w26 ∧ ((!t5) = true → ∀ (w27 : World), RowKit.Below w.heap.size w w27 → Kept [m14, m1]
    w26 w27 → R (Ending.returned (Value.int IntKind.i64 2)) w27) ∧ ((!t5) = false → ∀ (m17 : Nat), w26.heap.size ≤ m17 → ∀ (w28 : World), RowKit.Below w.heap.size w w28 → KeptIn
    [(0, w26.heap.size)] [m17, m14, m1] w26 w28 → w28.heap[m17]? = some (Obj.cells #[Value.int IntKind.i64 r4] 3) → Calls Tryz.prog 121 #[Value.int IntKind.i64 0, Value.int
    IntKind.i64 1000, Value.slice (some { block := m17, off := 0 }) 1 1] w28 fun (e8 : Ending) (w29 : World) => ∃ (t6 : Bool), e8 = Ending.returned (Value.bool t6) ∧ KeepX true
    w.heap.size [m17, m14, m1] (fun _ => False) w28 w29 ∧ ((!t6) = true → ∀ (w30 : World), RowKit.Below w.heap.size w w30 → Kept [m17, m14, m1] w29 w30 → R (Ending.returned
    (Value.int IntKind.i64 2)) w30) ∧ ((!t6) = false → ∀ (w31 : World), RowKit.Below w.heap.size w w31 → Kept [m17, m14, m1] w29 w31 → R (Ending.returned (Value.int IntKind.i64 0))
    w31)))))))))) ∧ ((↑r0n : Int) ≤ 8 → (4 < (↑r2n : Int) → ∀ (w32 : World), RowKit.Below w.heap.size w w32 → Kept [m1] w w32 → R (Ending.returned (Value.int IntKind.i64 5)) w32) ∧
    ((↑r2n : Int) ≤ 4 → ∀ (w33 : World), RowKit.Below w.heap.size w w33 → Kept [m1] w w33 → Calls Tryz.prog 120 #[Value.agg #[Value.slice r0a r0n r0c, Value.slice r1a r1n r1c,
    Value.slice r2a r2n r2c, Value.int IntKind.i64 r3, Value.int IntKind.i64 r4]] w33 fun (e9 : Ending) (w34 : World) => ∃ (t7 : Bool), e9 = Ending.returned (Value.bool t7) ∧ KeepX
    true w.heap.size [m1] (fun _ => False) w33 w34 ∧ ((!t7) = true → ∀ (w35 : World), RowKit.Below w.heap.size w w35 → Kept [m1] w34 w35 → R (Ending.returned (Value.int IntKind.i64
    4)) w35) ∧ ((!t7) = false → ∃ (F3 : List Lf → World → Prop), ∃ (F4 : List Lf → Nat), (∀ (w37 : World), RowKit.Below w.heap.size w w37 → Kept [m1] w34 w37 → F3 [Lf.int
    IntKind.i64 0, Lf.int IntKind.i64 0] w37) ∧ ∀ (x4 x5 : Int) (w38 : World), RowKit.Below w.heap.size w w38 → F3 [Lf.int IntKind.i64 x4, Lf.int IntKind.i64 x5] w38 → (x5 < (↑r1n
    : Int) → ∃ (m21 : Nat), ∃ (m22 : Nat), r1a = some { block := m21, off := m22 } ∧ (0 ≤ x5 ∧ x5 < (↑r1n : Int)) ∧ ∃ (a2 : Option Addr), ∃ (m23 : Nat), ∃ (m24 : Nat), w38.cell?
    { block := m21, off := m22 + x5.toNat * 1 } = some (Value.slice a2 m23 m24) ∧ (m21 < w.heap.size ∨ m21 ≠ m1) ∧ ∀ (w39 : World), RowKit.Below w.heap.size w w39 → Kept [m1] w38
    w39 → Calls Tryz.prog 121 #[Value.int IntKind.i64 0, Value.int IntKind.i64 1440, Value.slice a2 m23 m24] w39 fun (e10 : Ending) (w40 : World) => ∃ (t8 : Bool), e10 =
    Ending.returned (Value.bool t8) ∧ KeepX true w.heap.size [m1] (fun _ => False) w39 w40 ∧ ((!t8) = true → ∀ (w41 : World), RowKit.Below w.heap.size w w41 → Kept [m1] w40 w41 → R
    (Ending.returned (Value.int IntKind.i64 2)) w41) ∧ ((!t8) = false → ∃ (m26 : Nat), ∃ (m27 : Nat), a2 = some { block := m26, off := m27 } ∧ (0 ≤ x5 ∧ x5 < (↑m23 : Int)) ∧ ∃ (x6
    : Int), w40.cell? { block := m26, off := m27 + x5.toNat * 1 } = some (Value.int IntKind.i64 x6) ∧ (m26 < w.heap.size ∨ m26 ≠ m1) ∧ (x6 ≠ 0 → ∀ (w42 : World), RowKit.Below
    w.heap.size w w42 → Kept [m1] w40 w42 → R (Ending.returned (Value.int IntKind.i64 2)) w42) ∧ (x6 = 0 → (-9223372036854775808 ≤ x5 + 1 ∧ x5 + (1 : Int) ≤ 9223372036854775807) ∧
    ∀ (w43 : World), RowKit.Below w.heap.size w w43 → Kept [m1] w40 w43 → F3 [Lf.int IntKind.i64 x4, Lf.int IntKind.i64 (x5 + 1)] w43 ∧ F4 [Lf.int IntKind.i64 x4, Lf.int
    IntKind.i64 (x5 + 1)] < F4 [Lf.int IntKind.i64 x4, Lf.int IntKind.i64 x5]))) ∧ ((↑r1n : Int) ≤ x5 → ((↑r0n : Int) = 0 → ∀ (w44 : World), RowKit.Below w.heap.size w w44 → Kept
    [m1] w38 w44 → R (Ending.returned (Value.int IntKind.i64 2)) w44) ∧ ((↑r0n : Int) ≠ 0 → ∀ (w45 : World), RowKit.Below w.heap.size w w45 → KeptIn [(0, w38.heap.size)] [m1] w38
    w45 → Calls Tryz.prog 123 #[Value.func (Fn.func 124) #[] #[]] w45 fun (e11 : Ending) (w46 : World) => ∃ (v3 : Value), e11 = Ending.returned v3 ∧ KeepX true w.heap.size [m1]
    (fun _ => False) w45 w46 ∧ ∀ (w47 : World), RowKit.Below w.heap.size w w47 → KeptIn [(0, w46.heap.size)] [m1] w46 w47 → Calls Tryz.prog 122 #[Value.slice r0a r0n r0c, v3] w47
    fun (e12 : Ending) (w48 : World) => ∃ (t9 : Bool), e12 = Ending.returned (Value.bool t9) ∧ KeepX true w.heap.size [m1] (fun _ => False) w47 w48 ∧ (t9 = true → ∀ (w49 : World),
    RowKit.Below w.heap.size w w49 → Kept [m1] w48 w49 → R (Ending.returned (Value.int IntKind.i64 2)) w49) ∧ (t9 = false → ((↑r2n : Int) = 0 → ∀ (w50 : World), RowKit.Below
    w.heap.size w w50 → Kept [m1] w48 w50 → R (Ending.returned (Value.int IntKind.i64 2)) w50) ∧ ((↑r2n : Int) ≠ 0 → ∀ (w51 : World), RowKit.Below w.heap.size w w51 → KeptIn [(0,
    w48.heap.size)] [m1] w48 w51 → Calls Tryz.prog 126 #[Value.func (Fn.func 127) #[] #[]] w51 fun (e13 : Ending) (w52 : World) => ∃ (v4 : Value), e13 = Ending.returned v4 ∧ KeepX
    true w.heap.size [m1] (fun _ => False) w51 w52 ∧ ∀ (w53 : World), RowKit.Below w.heap.size w w53 → KeptIn [(0, w52.heap.size)] [m1] w52 w53 → Calls Tryz.prog 125 #[Value.slice
    r2a r2n r2c, v4] w53 fun (e14 : Ending) (w54 : World) => ∃ (t10 : Bool), e14 = Ending.returned (Value.bool t10) ∧ KeepX true w.heap.size [m1] (fun _ => False) w53 w54 ∧ (t10 =
    true → ∀ (w55 : World), RowKit.Below w.heap.size w w55 → Kept [m1] w54 w55 → R (Ending.returned (Value.int IntKind.i64 2)) w55) ∧ (t10 = false → ∀ (m32 : Nat), w54.heap.size ≤
    m32 → ∀ (w56 : World), RowKit.Below w.heap.size w w56 → KeptIn [(0, w54.heap.size)] [m32, m1] w54 w56 → w56.heap[m32]? = some (Obj.cells #[Value.int IntKind.i64 r3] 3) → Calls
    Tryz.prog 121 #[Value.int IntKind.i64 1, Value.int IntKind.i64 1440, Value.slice (some { block := m32, off := 0 }) 1 1] w56 fun (e15 : Ending) (w57 : World) => ∃ (t11 : Bool),
    e15 = Ending.returned (Value.bool t11) ∧ KeepX true w.heap.size [m32, m1] (fun _ => False) w56 w57 ∧ ((!t11) = true → ∀ (w58 : World), RowKit.Below w.heap.size w w58 → Kept
    [m32, m1] w57 w58 → R (Ending.returned (Value.int IntKind.i64 2)) w58) ∧ ((!t11) = false → ∀ (m35 : Nat), w57.heap.size ≤ m35 → ∀ (w59 : World), RowKit.Below w.heap.size w w59
    → KeptIn [(0, w57.heap.size)] [m35, m32, m1] w57 w59 → w59.heap[m35]? = some (Obj.cells #[Value.int IntKind.i64 r4] 3) → Calls Tryz.prog 121 #[Value.int IntKind.i64 0,
    Value.int IntKind.i64 1000, Value.slice (some { block := m35, off := 0 }) 1 1] w59 fun (e16 : Ending) (w60 : World) => ∃ (t12 : Bool), e16 = Ending.returned (Value.bool t12) ∧
    KeepX true w.heap.size [m35, m32, m1] (fun _ => False) w59 w60 ∧ ((!t12) = true → ∀ (w61 : World), RowKit.Below w.heap.size w w61 → Kept [m35, m32, m1] w60 w61 → R
    (Ending.returned (Value.int IntKind.i64 2)) w61) ∧ ((!t12) = false → ∀ (w62 : World), RowKit.Below w.heap.size w w62 → Kept [m35, m32, m1] w60 w62 → R (Ending.returned
    (Value.int IntKind.i64 0)) w62))))))))))) : Calls Tryz.prog 63 #[Value.agg #[Value.slice r0a r0n r0c, Value.slice r1a r1n r1c, Value.slice r2a r2n r2c, Value.int IntKind.i64
    r3, Value.int IntKind.i64 r4]] w R := calls_of_vc (pure := true) (wrapAt := []) (muts := []) (esc := []) (args := [SV.pv (PV.agg [Lf.sl r0a r0n r0c, Lf.sl r1a r1n r1c, Lf.sl
    r2a r2n r2c, Lf.int IntKind.i64 r3, Lf.int IntKind.i64 r4])]) (vs := [Value.agg #[Value.slice r0a r0n r0c, Value.slice r1a r1n r1c, Value.slice r2a r2n r2c, Value.int
    IntKind.i64 r3, Value.int IntKind.i64 r4]]) Tryz.func63 rfl rfl rfl (Eq.mp (by kernel_rfl) h) 
set_option maxRecDepth 100000 in
set_option maxHeartbeats 2000000 in
theorem vc29 (r0a : Option Addr) (r0n : Nat) (r0c : Nat) (r1a : Option Addr) (r1n : Nat) (r1c : Nat) (r2a : Option Addr) (r2n : Nat) (r2c : Nat) (r3 : Int) (r4 : Int) (daysa :
    Option Addr) (daysn : Nat) (daysc : Nat) (day : Int) (w : World) (R : Ending → World → Prop) (h : ∀ (m1 : Nat), w.heap.size ≤ m1 → ∀ (w1 : World), RowKit.Below w.heap.size w w1
    → Kept [m1] w w1 → Calls Tryz.prog 63 #[Value.agg #[Value.slice r0a r0n r0c, Value.slice r1a r1n r1c, Value.slice r2a r2n r2c, Value.int IntKind.i64 r3, Value.int IntKind.i64
    r4]] w1 fun (e1 : Ending) (w2 : World) => ∃ (x1 : Int), e1 = Ending.returned (Value.int IntKind.i64 x1) ∧ KeepX true w.heap.size [m1] (fun _ => False) w1 w2 ∧ (x1 = 0 → ∀ (w3 :
    World), RowKit.Below w.heap.size w w3 → Kept [m1] w2 w3 → Calls Tryz.prog 64 #[Value.agg #[Value.slice r0a r0n r0c, Value.slice r1a r1n r1c, Value.slice r2a r2n r2c, Value.int
    IntKind.i64 r3, Value.int IntKind.i64 r4], Value.slice daysa daysn daysc] w3 fun (e2 : Ending) (w4 : World) => ∃ (x2 : Int), e2 = Ending.returned (Value.int IntKind.i64 x2) ∧
    KeepX true w.heap.size [m1] (fun _ => False) w3 w4 ∧ (x2 = 0 → ∀ (w5 : World), RowKit.Below w.heap.size w w5 → Kept [m1] w4 w5 → Calls Tryz.prog 65 #[Value.int IntKind.i64 day]
    w5 fun (e3 : Ending) (w6 : World) => ∃ (t1 : Bool), e3 = Ending.returned (Value.bool t1) ∧ KeepX true w.heap.size [m1] (fun _ => False) w5 w6 ∧ ((!t1) = true → ((3 : Int) ≠ 0 →
    ∀ (w7 : World), RowKit.Below w.heap.size w w7 → Kept [m1] w6 w7 → R (Ending.returned (Value.tuple #[Value.slice none 0 0, Value.int IntKind.i64 3])) w7) ∧ ((3 : Int) = 0 → ∃
    (F1 : List Lf → World → Prop), ∃ (F2 : List Lf → Nat), (∀ (w9 : World), RowKit.Below w.heap.size w w9 → Kept [m1] w6 w9 → F1 [Lf.sl none 0 0, Lf.int IntKind.i64 0] w9) ∧ ∀ (a1
    : Option Addr) (m5 m6 : Nat) (x3 : Int) (w10 : World), RowKit.Below w.heap.size w w10 → F1 [Lf.sl a1 m5 m6, Lf.int IntKind.i64 x3] w10 → (x3 < (↑r0n : Int) → ∃ (m7 : Nat), ∃
    (m8 : Nat), r0a = some { block := m7, off := m8 } ∧ (0 ≤ x3 ∧ x3 < (↑r0n : Int)) ∧ ∃ (x4 : Int), ∃ (x5 : Int), ∃ (x6 : Int), ∃ (x7 : Int), ∃ (x8 : Int), w10.cell?
    { block := m7, off := m8 + x3.toNat * 5 } = some (Value.int IntKind.i64 x4) ∧ w10.cell? { block := m7, off := m8 + x3.toNat * 5 + 1 } = some (Value.int IntKind.i64 x5) ∧
    w10.cell? { block := m7, off := m8 + x3.toNat * 5 + 1 + 1 } = some (Value.int IntKind.u16 x6) ∧ w10.cell? { block := m7, off := m8 + x3.toNat * 5 + 1 + 1 + 1 } = some
    (Value.int IntKind.i64 x7) ∧ w10.cell? { block := m7, off := m8 + x3.toNat * 5 + 1 + 1 + 1 + 1 } = some (Value.int IntKind.i64 x8) ∧ (m7 < w.heap.size ∨ m7 ≠ m1) ∧ ∀ (m9 :
    Nat), w10.heap.size ≤ m9 → ∀ (m10 : Nat), w10.heap.size ≤ m10 → ∀ (w11 : World), RowKit.Below w.heap.size w w11 → Kept [m10, m9, m1] w10 w11 → w11.heap[m10]? = some (Obj.cells
    #[Value.int IntKind.i64 x8] 3) → RunsTo Tryz.prog (Builtin.append_ #[95, 95] 95 #[Value.slice a1 m5 m6, Value.slice (some { block := m10, off := 0 }) 1 1]) w11 fun (v1 : Value)
    (w12 : World) => ∃ (a2 : Option Addr), ∃ (m12 : Nat), ∃ (m13 : Nat), v1 = Value.slice a2 m12 m13 ∧ KeepX true w.heap.size [m10, m9, m1] (fun _ => False) w11 w12 ∧
    (-9223372036854775808 ≤ x3 + 1 ∧ x3 + (1 : Int) ≤ 9223372036854775807) ∧ ∀ (w13 : World), RowKit.Below w.heap.size w w13 → Kept [m10, m9, m1] w12 w13 → F1 [Lf.sl a2 m12 m13,
    Lf.int IntKind.i64 (x3 + 1)] w13 ∧ F2 [Lf.sl a2 m12 m13, Lf.int IntKind.i64 (x3 + 1)] < F2 [Lf.sl a1 m5 m6, Lf.int IntKind.i64 x3]) ∧ ((↑r0n : Int) ≤ x3 → ∀ (w14 : World),
    RowKit.Below w.heap.size w w14 → Kept [m1] w10 w14 → R (Ending.returned (Value.tuple #[Value.slice a1 m5 m6, Value.int IntKind.i64 0])) w14))) ∧ ((!t1) = false → (x2 ≠ 0 → ∀
    (w15 : World), RowKit.Below w.heap.size w w15 → Kept [m1] w6 w15 → R (Ending.returned (Value.tuple #[Value.slice none 0 0, Value.int IntKind.i64 x2])) w15) ∧ (x2 = 0 → ∃ (F3 :
    List Lf → World → Prop), ∃ (F4 : List Lf → Nat), (∀ (w17 : World), RowKit.Below w.heap.size w w17 → Kept [m1] w6 w17 → F3 [Lf.sl none 0 0, Lf.int IntKind.i64 0] w17) ∧ ∀ (a3 :
    Option Addr) (m15 m16 : Nat) (x9 : Int) (w18 : World), RowKit.Below w.heap.size w w18 → F3 [Lf.sl a3 m15 m16, Lf.int IntKind.i64 x9] w18 → (x9 < (↑r0n : Int) → ∃ (m17 : Nat), ∃
    (m18 : Nat), r0a = some { block := m17, off := m18 } ∧ (0 ≤ x9 ∧ x9 < (↑r0n : Int)) ∧ ∃ (x10 : Int), ∃ (x11 : Int), ∃ (x12 : Int), ∃ (x13 : Int), ∃ (x14 : Int), w18.cell?
    { block := m17, off := m18 + x9.toNat * 5 } = some (Value.int IntKind.i64 x10) ∧ w18.cell? { block := m17, off := m18 + x9.toNat * 5 + 1 } = some (Value.int IntKind.i64 x11) ∧
    w18.cell? { block := m17, off := m18 + x9.toNat * 5 + 1 + 1 } = some (Value.int IntKind.u16 x12) ∧ w18.cell? { block := m17, off := m18 + x9.toNat * 5 + 1 + 1 + 1 } = some
    (Value.int IntKind.i64 x13) ∧ w18.cell? { block := m17, off := m18 + x9.toNat * 5 + 1 + 1 + 1 + 1 } = some (Value.int IntKind.i64 x14) ∧ (m17 < w.heap.size ∨ m17 ≠ m1) ∧ ∀ (m19
    : Nat), w18.heap.size ≤ m19 → ∀ (m20 : Nat), w18.heap.size ≤ m20 → ∀ (w19 : World), RowKit.Below w.heap.size w w19 → Kept [m20, m19, m1] w18 w19 → w19.heap[m20]? = some
    (Obj.cells #[Value.int IntKind.i64 x14] 3) → RunsTo Tryz.prog (Builtin.append_ #[95, 95] 95 #[Value.slice a3 m15 m16, Value.slice (some { block := m20, off := 0 }) 1 1]) w19
    fun (v2 : Value) (w20 : World) => ∃ (a4 : Option Addr), ∃ (m22 : Nat), ∃ (m23 : Nat), v2 = Value.slice a4 m22 m23 ∧ KeepX true w.heap.size [m20, m19, m1] (fun _ => False) w19
    w20 ∧ (-9223372036854775808 ≤ x9 + 1 ∧ x9 + (1 : Int) ≤ 9223372036854775807) ∧ ∀ (w21 : World), RowKit.Below w.heap.size w w21 → Kept [m20, m19, m1] w20 w21 → F3 [Lf.sl a4 m22
    m23, Lf.int IntKind.i64 (x9 + 1)] w21 ∧ F4 [Lf.sl a4 m22 m23, Lf.int IntKind.i64 (x9 + 1)] < F4 [Lf.sl a3 m15 m16, Lf.int IntKind.i64 x9]) ∧ ((↑r0n : Int) ≤ x9 → ∀ (w22 :
    World), RowKit.Below w.heap.size w w22 → Kept [m1] w18 w22 → R (Ending.returned (Value.tuple #[Value.slice a3 m15 m16, Value.int IntKind.i64 0])) w22)))) ∧ (x2 ≠ 0 → (x2 ≠ 0 →
    ∀ (w23 : World), RowKit.Below w.heap.size w w23 → Kept [m1] w4 w23 → R (Ending.returned (Value.tuple #[Value.slice none 0 0, Value.int IntKind.i64 x2])) w23) ∧ (x2 = 0 → ∃ (F5
    : List Lf → World → Prop), ∃ (F6 : List Lf → Nat), (∀ (w25 : World), RowKit.Below w.heap.size w w25 → Kept [m1] w4 w25 → F5 [Lf.sl none 0 0, Lf.int IntKind.i64 0] w25) ∧ ∀ (a5
    : Option Addr) (m25 m26 : Nat) (x15 : Int) (w26 : World), RowKit.Below w.heap.size w w26 → F5 [Lf.sl a5 m25 m26, Lf.int IntKind.i64 x15] w26 → (x15 < (↑r0n : Int) → ∃ (m27 :
    Nat), ∃ (m28 : Nat), r0a = some { block := m27, off := m28 } ∧ (0 ≤ x15 ∧ x15 < (↑r0n : Int)) ∧ ∃ (x16 : Int), ∃ (x17 : Int), ∃ (x18 : Int), ∃ (x19 : Int), ∃ (x20 : Int),
    w26.cell? { block := m27, off := m28 + x15.toNat * 5 } = some (Value.int IntKind.i64 x16) ∧ w26.cell? { block := m27, off := m28 + x15.toNat * 5 + 1 } = some (Value.int
    IntKind.i64 x17) ∧ w26.cell? { block := m27, off := m28 + x15.toNat * 5 + 1 + 1 } = some (Value.int IntKind.u16 x18) ∧ w26.cell?
    { block := m27, off := m28 + x15.toNat * 5 + 1 + 1 + 1 } = some (Value.int IntKind.i64 x19) ∧ w26.cell? { block := m27, off := m28 + x15.toNat * 5 + 1 + 1 + 1 + 1 } = some
    (Value.int IntKind.i64 x20) ∧ (m27 < w.heap.size ∨ m27 ≠ m1) ∧ ∀ (m29 : Nat), w26.heap.size ≤ m29 → ∀ (m30 : Nat), w26.heap.size ≤ m30 → ∀ (w27 : World), RowKit.Below
    w.heap.size w w27 → Kept [m30, m29, m1] w26 w27 → w27.heap[m30]? = some (Obj.cells #[Value.int IntKind.i64 x20] 3) → RunsTo Tryz.prog (Builtin.append_ #[95, 95] 95
    #[Value.slice a5 m25 m26, Value.slice (some { block := m30, off := 0 }) 1 1]) w27 fun (v3 : Value) (w28 : World) => ∃ (a6 : Option Addr), ∃ (m32 : Nat), ∃ (m33 : Nat), v3 =
    Value.slice a6 m32 m33 ∧ KeepX true w.heap.size [m30, m29, m1] (fun _ => False) w27 w28 ∧ (-9223372036854775808 ≤ x15 + 1 ∧ x15 + (1 : Int) ≤ 9223372036854775807) ∧ ∀ (w29 :
    World), RowKit.Below w.heap.size w w29 → Kept [m30, m29, m1] w28 w29 → F5 [Lf.sl a6 m32 m33, Lf.int IntKind.i64 (x15 + 1)] w29 ∧ F6 [Lf.sl a6 m32 m33, Lf.int IntKind.i64 (x15 +
    1)] < F6 [Lf.sl a5 m25 m26, Lf.int IntKind.i64 x15]) ∧ ((↑r0n : Int) ≤ x15 → ∀ (w30 : World), RowKit.Below w.heap.size w w30 → Kept [m1] w26 w30 → R (Ending.returned
    (Value.tuple #[Value.slice a5 m25 m26, Value.int IntKind.i64 0])) w30)))) ∧ (x1 ≠ 0 → (x1 = 0 → ∀ (w31 : World), RowKit.Below w.heap.size w w31 → Kept [m1] w2 w31 → Calls
    Tryz.prog 65 #[Value.int IntKind.i64 day] w31 fun (e4 : Ending) (w32 : World) => ∃ (t2 : Bool), e4 = Ending.returned (Value.bool t2) ∧ KeepX true w.heap.size [m1] (fun _ =>
    False) w31 w32 ∧ ((!t2) = true → ((3 : Int) ≠ 0 → ∀ (w33 : World), RowKit.Below w.heap.size w w33 → Kept [m1] w32 w33 → R (Ending.returned (Value.tuple #[Value.slice none 0 0,
    Value.int IntKind.i64 3])) w33) ∧ ((3 : Int) = 0 → ∃ (F7 : List Lf → World → Prop), ∃ (F8 : List Lf → Nat), (∀ (w35 : World), RowKit.Below w.heap.size w w35 → Kept [m1] w32 w35
    → F7 [Lf.sl none 0 0, Lf.int IntKind.i64 0] w35) ∧ ∀ (a7 : Option Addr) (m36 m37 : Nat) (x21 : Int) (w36 : World), RowKit.Below w.heap.size w w36 → F7 [Lf.sl a7 m36 m37, Lf.int
    IntKind.i64 x21] w36 → (x21 < (↑r0n : Int) → ∃ (m38 : Nat), ∃ (m39 : Nat), r0a = some { block := m38, off := m39 } ∧ (0 ≤ x21 ∧ x21 < (↑r0n : Int)) ∧ ∃ (x22 : Int), ∃ (x23 :
    Int), ∃ (x24 : Int), ∃ (x25 : Int), ∃ (x26 : Int), w36.cell? { block := m38, off := m39 + x21.toNat * 5 } = some (Value.int IntKind.i64 x22) ∧ w36.cell?
    { block := m38, off := m39 + x21.toNat * 5 + 1 } = some (Value.int IntKind.i64 x23) ∧ w36.cell? { block := m38, off := m39 + x21.toNat * 5 + 1 + 1 } = some (Value.int
    IntKind.u16 x24) ∧ w36.cell? { block := m38, off := m39 + x21.toNat * 5 + 1 + 1 + 1 } = some (Value.int IntKind.i64 x25) ∧ w36.cell?
    { block := m38, off := m39 + x21.toNat * 5 + 1 + 1 + 1 + 1 } = some (Value.int IntKind.i64 x26) ∧ (m38 < w.heap.size ∨ m38 ≠ m1) ∧ ∀ (m40 : Nat), w36.heap.size ≤ m40 → ∀ (m41 :
    Nat), w36.heap.size ≤ m41 → ∀ (w37 : World), RowKit.Below w.heap.size w w37 → Kept [m41, m40, m1] w36 w37 → w37.heap[m41]? = some (Obj.cells #[Value.int IntKind.i64 x26] 3) →
    RunsTo Tryz.prog (Builtin.append_ #[95, 95] 95 #[Value.slice a7 m36 m37, Value.slice (some { block := m41, off := 0 }) 1 1]) w37 fun (v4 : Value) (w38 : World) => ∃ (a8 :
    Option Addr), ∃ (m43 : Nat), ∃ (m44 : Nat), v4 = Value.slice a8 m43 m44 ∧ KeepX true w.heap.size [m41, m40, m1] (fun _ => False) w37 w38 ∧ (-9223372036854775808 ≤ x21 + 1 ∧ x21
    + (1 : Int) ≤ 9223372036854775807) ∧ ∀ (w39 : World), RowKit.Below w.heap.size w w39 → Kept [m41, m40, m1] w38 w39 → F7 [Lf.sl a8 m43 m44, Lf.int IntKind.i64 (x21 + 1)] w39 ∧
    F8 [Lf.sl a8 m43 m44, Lf.int IntKind.i64 (x21 + 1)] < F8 [Lf.sl a7 m36 m37, Lf.int IntKind.i64 x21]) ∧ ((↑r0n : Int) ≤ x21 → ∀ (w40 : World), RowKit.Below w.heap.size w w40 →
    Kept [m1] w36 w40 → R (Ending.returned (Value.tuple #[Value.slice a7 m36 m37, Value.int IntKind.i64 0])) w40))) ∧ ((!t2) = false → (x1 ≠ 0 → ∀ (w41 : World), RowKit.Below
    w.heap.size w w41 → Kept [m1] w32 w41 → R (Ending.returned (Value.tuple #[Value.slice none 0 0, Value.int IntKind.i64 x1])) w41) ∧ (x1 = 0 → ∃ (F9 : List Lf → World → Prop), ∃
    (F10 : List Lf → Nat), (∀ (w43 : World), RowKit.Below w.heap.size w w43 → Kept [m1] w32 w43 → F9 [Lf.sl none 0 0, Lf.int IntKind.i64 0] w43) ∧ ∀ (a9 : Option Addr) (m46 m47 :
    Nat) (x27 : Int) (w44 : World), RowKit.Below w.heap.size w w44 → F9 [Lf.sl a9 m46 m47, Lf.int IntKind.i64 x27] w44 → (x27 < (↑r0n : Int) → ∃ (m48 : Nat), ∃ (m49 : Nat), r0a =
    some { block := m48, off := m49 } ∧ (0 ≤ x27 ∧ x27 < (↑r0n : Int)) ∧ ∃ (x28 : Int), ∃ (x29 : Int), ∃ (x30 : Int), ∃ (x31 : Int), ∃ (x32 : Int), w44.cell?
    { block := m48, off := m49 + x27.toNat * 5 } = some (Value.int IntKind.i64 x28) ∧ w44.cell? { block := m48, off := m49 + x27.toNat * 5 + 1 } = some (Value.int IntKind.i64 x29)
    ∧ w44.cell? { block := m48, off := m49 + x27.toNat * 5 + 1 + 1 } = some (Value.int IntKind.u16 x30) ∧ w44.cell? { block := m48, off := m49 + x27.toNat * 5 + 1 + 1 + 1 } = some
    (Value.int IntKind.i64 x31) ∧ w44.cell? { block := m48, off := m49 + x27.toNat * 5 + 1 + 1 + 1 + 1 } = some (Value.int IntKind.i64 x32) ∧ (m48 < w.heap.size ∨ m48 ≠ m1) ∧ ∀
    (m50 : Nat), w44.heap.size ≤ m50 → ∀ (m51 : Nat), w44.heap.size ≤ m51 → ∀ (w45 : World), RowKit.Below w.heap.size w w45 → Kept [m51, m50, m1] w44 w45 → w45.heap[m51]? = some
    (Obj.cells #[Value.int IntKind.i64 x32] 3) → RunsTo Tryz.prog (Builtin.append_ #[95, 95] 95 #[Value.slice a9 m46 m47, Value.slice (some { block := m51, off := 0 }) 1 1]) w45
    fun (v5 : Value) (w46 : World) => ∃ (a10 : Option Addr), ∃ (m53 : Nat), ∃ (m54 : Nat), v5 = Value.slice a10 m53 m54 ∧ KeepX true w.heap.size [m51, m50, m1] (fun _ => False) w45
    w46 ∧ (-9223372036854775808 ≤ x27 + 1 ∧ x27 + (1 : Int) ≤ 9223372036854775807) ∧ ∀ (w47 : World), RowKit.Below w.heap.size w w47 → Kept [m51, m50, m1] w46 w47 → F9 [Lf.sl a10
    m53 m54, Lf.int IntKind.i64 (x27 + 1)] w47 ∧ F10 [Lf.sl a10 m53 m54, Lf.int IntKind.i64 (x27 + 1)] < F10 [Lf.sl a9 m46 m47, Lf.int IntKind.i64 x27]) ∧ ((↑r0n : Int) ≤ x27 → ∀
    (w48 : World), RowKit.Below w.heap.size w w48 → Kept [m1] w44 w48 → R (Ending.returned (Value.tuple #[Value.slice a9 m46 m47, Value.int IntKind.i64 0])) w48)))) ∧ (x1 ≠ 0 → (x1
    ≠ 0 → ∀ (w49 : World), RowKit.Below w.heap.size w w49 → Kept [m1] w2 w49 → R (Ending.returned (Value.tuple #[Value.slice none 0 0, Value.int IntKind.i64 x1])) w49) ∧ (x1 = 0 →
    ∃ (F11 : List Lf → World → Prop), ∃ (F12 : List Lf → Nat), (∀ (w51 : World), RowKit.Below w.heap.size w w51 → Kept [m1] w2 w51 → F11 [Lf.sl none 0 0, Lf.int IntKind.i64 0] w51)
    ∧ ∀ (a11 : Option Addr) (m56 m57 : Nat) (x33 : Int) (w52 : World), RowKit.Below w.heap.size w w52 → F11 [Lf.sl a11 m56 m57, Lf.int IntKind.i64 x33] w52 → (x33 < (↑r0n : Int) →
    ∃ (m58 : Nat), ∃ (m59 : Nat), r0a = some { block := m58, off := m59 } ∧ (0 ≤ x33 ∧ x33 < (↑r0n : Int)) ∧ ∃ (x34 : Int), ∃ (x35 : Int), ∃ (x36 : Int), ∃ (x37 : Int), ∃ (x38 :
    Int), w52.cell? { block := m58, off := m59 + x33.toNat * 5 } = some (Value.int IntKind.i64 x34) ∧ w52.cell? { block := m58, off := m59 + x33.toNat * 5 + 1 } = some (Value.int
    IntKind.i64 x35) ∧ w52.cell? { block := m58, off := m59 + x33.toNat * 5 + 1 + 1 } = some (Value.int IntKind.u16 x36) ∧ w52.cell?
    { block := m58, off := m59 + x33.toNat * 5 + 1 + 1 + 1 } = some (Value.int IntKind.i64 x37) ∧ w52.cell? { block := m58, off := m59 + x33.toNat * 5 + 1 + 1 + 1 + 1 } = some
    (Value.int IntKind.i64 x38) ∧ (m58 < w.heap.size ∨ m58 ≠ m1) ∧ ∀ (m60 : Nat), w52.heap.size ≤ m60 → ∀ (m61 : Nat), w52.heap.size ≤ m61 → ∀ (w53 : World), RowKit.Below
    w.heap.size w w53 → Kept [m61, m60, m1] w52 w53 → w53.heap[m61]? = some (Obj.cells #[Value.int IntKind.i64 x38] 3) → RunsTo Tryz.prog (Builtin.append_ #[95, 95] 95
    #[Value.slice a11 m56 m57, Value.slice (some { block := m61, off := 0 }) 1 1]) w53 fun (v6 : Value) (w54 : World) => ∃ (a12 : Option Addr), ∃ (m63 : Nat), ∃ (m64 : Nat), v6 =
    Value.slice a12 m63 m64 ∧ KeepX true w.heap.size [m61, m60, m1] (fun _ => False) w53 w54 ∧ (-9223372036854775808 ≤ x33 + 1 ∧ x33 + (1 : Int) ≤ 9223372036854775807) ∧ ∀ (w55 :
    World), RowKit.Below w.heap.size w w55 → Kept [m61, m60, m1] w54 w55 → F11 [Lf.sl a12 m63 m64, Lf.int IntKind.i64 (x33 + 1)] w55 ∧ F12 [Lf.sl a12 m63 m64, Lf.int IntKind.i64
    (x33 + 1)] < F12 [Lf.sl a11 m56 m57, Lf.int IntKind.i64 x33]) ∧ ((↑r0n : Int) ≤ x33 → ∀ (w56 : World), RowKit.Below w.heap.size w w56 → Kept [m1] w52 w56 → R (Ending.returned
    (Value.tuple #[Value.slice a11 m56 m57, Value.int IntKind.i64 0])) w56))))) : Calls Tryz.prog 29 #[Value.agg #[Value.slice r0a r0n r0c, Value.slice r1a r1n r1c, Value.slice r2a
    r2n r2c, Value.int IntKind.i64 r3, Value.int IntKind.i64 r4], Value.slice daysa daysn daysc, Value.int IntKind.i64 day] w R := calls_of_vc (pure := true) (wrapAt := []) (muts
    := []) (esc := []) (args := [SV.pv (PV.agg [Lf.sl r0a r0n r0c, Lf.sl r1a r1n r1c, Lf.sl r2a r2n r2c, Lf.int IntKind.i64 r3, Lf.int IntKind.i64 r4]), SV.pv (PV.one (Lf.sl daysa
    daysn daysc)), SV.pv (PV.one (Lf.int IntKind.i64 day))]) (vs := [Value.agg #[Value.slice r0a r0n r0c, Value.slice r1a r1n r1c, Value.slice r2a r2n r2c, Value.int IntKind.i64
    r3, Value.int IntKind.i64 r4], Value.slice daysa daysn daysc, Value.int IntKind.i64 day]) Tryz.func29 rfl rfl rfl (Eq.mp (by kernel_rfl) h) 
end Go.Proofs
end
section
/- Rules of a round, and that valid ones are accepted. -/
namespace Go.Proofs.RT
open Go.Vc Go.RowKit Go.Proofs
theorem flat_at {α : Type} {k : Nat} {f : α → List Value} (hf : ∀ x, (f x).length = k) (hk : 0 < k) {l : List α} {w : World} {a : Option Addr} (h : Cells w a (l.flatMap f)) {i : Nat} (hi : i < l.length) :
    ∃ b o, a = some ⟨b, o, none⟩ ∧ b < w.heap.size ∧ ∀ j v, (f l[i])[j]? = some v → w.cell? ⟨b, o + (i * k + j), none⟩ = some v := by
  have g : ∀ j, j < k → (l.flatMap f)[i * k + j]? = (f l[i])[j]? := fun j hj => flat_get hf (getElem_of_lt hi) hj
  have h0 : (f l[i])[0]? = some ((f l[i])[0]'(by rw [hf]; exact hk)) := getElem_of_lt _
  obtain ⟨b, o, e, hc⟩ := h (i * k + 0) _ ((g 0 hk).trans h0)
  refine ⟨b, o, e, cell_lt hc, fun j v hv => ?_⟩
  have hj : j < k := by rw [← hf l[i]]; exact (List.getElem?_eq_some_iff.1 hv).1
  obtain ⟨b', o', e', hc'⟩ := h (i * k + j) v ((g j hj).trans hv)
  rw [e] at e'; cases e'
  exact hc'
theorem kin_keptC {w w' : World} {rs : List (Nat × Nat)} {bs : List Nat} (hk : KeptIn ((0, w.heap.size) :: rs) bs w w') : Chg bs w w' := hk.chg
abbrev Tw := Int × Int × Int × Int × Int
abbrev Wn := Int × Int × Int × Int
abbrev twC (t : Tw) : List Value := [I t.1, I t.2.1, .int .u16 t.2.2.1, I t.2.2.2.1, I t.2.2.2.2]
abbrev wnC (v : Wn) : List Value := [.int .u16 v.1, I v.2.1, I v.2.2.1, I v.2.2.2]
abbrev Sl := Option Addr × Nat × Nat
abbrev slV (s : Sl) : Value := .slice s.1 s.2.1 s.2.2
structure Ru where
  T : List Tw
  W : List (List Int)
  V : List Wn
  rest : Int
  wage : Int
abbrev ruV (r : Ru) (ra : Option Addr) (rc : Nat) (wa : Option Addr) (wc : Nat) (va : Option Addr) (vc : Nat) : Value := .agg #[.slice ra r.T.length rc, .slice wa r.W.length wc, .slice va r.V.length vc, I r.rest, I r.wage]
structure RuIn (r : Ru) (ra wa va : Option Addr) (S : List Sl) (w : World) : Prop where
  t : Cells w ra (r.T.flatMap twC)
  v : Cells w va (r.V.flatMap wnC)
  n : S.length = r.W.length
  s : Cells w wa (S.map slV)
  row : ∀ i (h : i < S.length) (h' : i < r.W.length), S[i].2.1 = r.W[i].length ∧ Cells w S[i].1 (ints r.W[i])
theorem RuIn.keep {r : Ru} {ra wa va : Option Addr} {S : List Sl} {w w' : World} (h : RuIn r ra wa va S w) (hb : Below w.heap.size w w') : RuIn r ra wa va S w' :=
  ⟨h.t.keep hb, h.v.keep hb, h.n, h.s.keep hb, fun i hi hi' => ⟨(h.row i hi hi').1, (h.row i hi hi').2.keep hb⟩⟩
structure TwOk (t : Tw) : Prop where
  a : 0 ≤ t.1 ∧ t.1 ≤ 120
  b : 0 ≤ t.2.1 ∧ t.2.1 ≤ 120
  o : 0 ≤ t.2.2.2.1 ∧ t.2.2.2.1 ≤ 1000
  g : 1 ≤ t.2.2.2.2 ∧ t.2.2.2.2 ≤ 30
structure WnOk (v : Wn) : Prop where
  o : 0 ≤ v.2.1 ∧ v.2.1 ≤ 8000
  s : 1 ≤ v.2.2.1 ∧ v.2.2.1 ≤ 1440
  r : 1 ≤ v.2.2.2 ∧ v.2.2.2 ≤ 1440
structure RuOk (r : Ru) : Prop where
  t : 1 ≤ r.T.length ∧ r.T.length ≤ 8
  w : r.W.length = r.T.length + 1
  v : 1 ≤ r.V.length ∧ r.V.length ≤ 4
  row : ∀ i (h : i < r.W.length), r.W[i].length = r.W.length ∧ (∀ x ∈ r.W[i], 0 ≤ x ∧ x ≤ 1440) ∧ r.W[i].getD i 0 = 0
  tw : ∀ t ∈ r.T, TwOk t
  wn : ∀ v ∈ r.V, WnOk v
  rest : 1 ≤ r.rest ∧ r.rest ≤ 1440
  wage : 0 ≤ r.wage ∧ r.wage ≤ 1000
section
variable {w : World}
set_option maxRecDepth 100000 in
theorem in2_any {w : World} {m : Nat} {a b x y : Int} (h : w.heap[m]? = some (.cells #[I x, I y] 3 (0, 0))) : Calls Tryz.prog 121 #[I a, I b, .slice (some ⟨m, 0, none⟩) 2 2] w (Pure w (.bool (decide (a ≤ x ∧ x ≤ b) && decide (a ≤ y ∧ y ≤ b)))) := by
  have := withinR_any (l := [x, y]) (a := a) (b := b) (c := 2) (Cells.obj (vs := [I x, I y]) h) (by simp)
  simpa using this
set_option maxRecDepth 100000 in
theorem isTower_ok (t : Tw) (ht : TwOk t) : Calls Tryz.prog 124 #[.agg (twC t).toArray] w (Pure w (.bool true)) := by
  refine vc124 _ _ _ _ _ w _ fun m1 _ m2 _ w1 hb1 _ hc1 => Pure.calls (in2_any hc1) fun w2 hd2 => ⟨_, rfl, .all hd2, fun _ m5 _ w3 hb3 _ hc3 => Pure.calls (inR_any hc3) fun w4 hd4 => ⟨_, rfl, .all hd4, fun _ m8 _ w5 hb5 _ hc5 => Pure.calls (inR_any hc5) fun w6 hd6 => ⟨_, rfl, .all hd6, fun w7 hb7 _ => ⟨?_, hb7⟩⟩, fun h => ?_⟩, fun h => ?_⟩
  · have := ht.g; simp [this]
  · have := ht.o; simp [this] at h
  · have := ht.a; have := ht.b; simp [ht.a, ht.b] at h
set_option maxRecDepth 100000 in
theorem isWinder_ok (v : Wn) (hv : WnOk v) : Calls Tryz.prog 127 #[.agg (wnC v).toArray] w (Pure w (.bool true)) := by
  refine vc127 _ _ _ _ w _ fun m1 _ m2 _ w1 hb1 _ hc1 => Pure.calls (inR_any hc1) fun w2 hd2 => ⟨_, rfl, .all hd2, fun _ m5 _ w3 hb3 _ hc3 => Pure.calls (in2_any hc3) fun w4 hd4 => ⟨_, rfl, .all hd4, fun w5 hb5 _ => ⟨?_, hb5⟩⟩, fun h => ?_⟩
  · simp [hv.s, hv.r]
  · simp [hv.o] at h
set_option maxRecDepth 100000 in
theorem notTower {b : Nat} (hb : w.cell? ⟨b, 0, none⟩ = some (.func (.func 124) #[] #[])) (t : Tw) (ht : TwOk t) : Calls Tryz.prog 192 #[.agg (twC t).toArray, .pointer (some ⟨b, 0, none⟩)] w (Pure w (.bool false)) :=
  vc192 _ _ _ _ _ _ w _ fun _ _ => ⟨_, hb, .inl (cell_lt hb), 124, [], [], rfl, callOk_run (by rfl), fun w1 _ _ => Pure.calls (isTower_ok t ht) fun w2 hd2 => ⟨_, rfl, .all hd2, fun w3 hb3 _ => ⟨rfl, hb3⟩⟩⟩
set_option maxRecDepth 100000 in
theorem notWinder {b : Nat} (hb : w.cell? ⟨b, 0, none⟩ = some (.func (.func 127) #[] #[])) (v : Wn) (hv : WnOk v) : Calls Tryz.prog 194 #[.agg (wnC v).toArray, .pointer (some ⟨b, 0, none⟩)] w (Pure w (.bool false)) :=
  vc194 _ _ _ _ _ w _ fun _ _ => ⟨_, hb, .inl (cell_lt hb), 127, [], [], rfl, callOk_run (by rfl), fun w1 _ _ => Pure.calls (isWinder_ok v hv) fun w2 hd2 => ⟨_, rfl, .all hd2, fun w3 hb3 _ => ⟨rfl, hb3⟩⟩⟩
set_option maxRecDepth 100000 in
theorem idxT {a : Option Addr} {c b : Nat} {l : List Tw} (hc : Cells w a (l.flatMap twC)) (hl : l.length ≤ 100) (hb : w.cell? ⟨b, 0, none⟩ = some (.func (.func 124) #[] #[])) (ho : ∀ t ∈ l, TwOk t) :
    Calls Tryz.prog 191 #[.slice a l.length c, .func (.func 192) #[] #[.pointer (some ⟨b, 0, none⟩)]] w (Pure w (I (-1))) := by
  refine vc191 _ _ _ _ [] [_] w _ ⟨fun ls _ => match ls with | [_, .int _ x] => 0 ≤ x | _ => False, fun ls => match ls with | [_, .int _ x] => (l.length - x).toNat | _ => 0, fun w1 _ _ => by show (0 : Int) ≤ 0; omega, ?_⟩
  intro x1 x2 w3 hb3 h0
  have h0 : 0 ≤ x2 := h0
  refine ⟨fun hlt => ?_, fun _ w8 hb8 _ => ⟨rfl, hb8⟩⟩
  obtain ⟨b1, o1, rfl, _, hv⟩ := flat_at (k := 5) (fun _ => rfl) (by omega) hc (i := x2.toNat) (by omega)
  refine ⟨b1, o1, rfl, ⟨h0, hlt⟩, _, _, _, _, _, cell_at' (cell_keep hb3 (hv 0 _ rfl)) (by omega), cell_at' (cell_keep hb3 (hv 1 _ rfl)) (by omega), cell_at' (cell_keep hb3 (hv 2 _ rfl)) (by omega), cell_at' (cell_keep hb3 (hv 3 _ rfl)) (by omega), cell_at' (cell_keep hb3 (hv 4 _ rfl)) (by omega), callOk_run (by rfl), fun w4 hb4 _ => ?_⟩
  refine Pure.calls (notTower (cell_keep hb4 hb) _ (ho _ (List.getElem_mem _))) fun w5 hd5 => ⟨_, rfl, .all hd5, fun h => (nomatch h), fun _ => ⟨by omega, fun w7 _ _ => ⟨by show (0 : Int) ≤ x2 + 1; omega, ?_⟩⟩⟩
  show (l.length - (x2 + 1)).toNat < (l.length - x2).toNat
  omega
set_option maxRecDepth 100000 in
theorem idxW {a : Option Addr} {c b : Nat} {l : List Wn} (hc : Cells w a (l.flatMap wnC)) (hl : l.length ≤ 100) (hb : w.cell? ⟨b, 0, none⟩ = some (.func (.func 127) #[] #[])) (ho : ∀ t ∈ l, WnOk t) :
    Calls Tryz.prog 193 #[.slice a l.length c, .func (.func 194) #[] #[.pointer (some ⟨b, 0, none⟩)]] w (Pure w (I (-1))) := by
  refine vc193 _ _ _ _ [] [_] w _ ⟨fun ls _ => match ls with | [_, .int _ x] => 0 ≤ x | _ => False, fun ls => match ls with | [_, .int _ x] => (l.length - x).toNat | _ => 0, fun w1 _ _ => by show (0 : Int) ≤ 0; omega, ?_⟩
  intro x1 x2 w3 hb3 h0
  have h0 : 0 ≤ x2 := h0
  refine ⟨fun hlt => ?_, fun _ w8 hb8 _ => ⟨rfl, hb8⟩⟩
  obtain ⟨b1, o1, rfl, _, hv⟩ := flat_at (k := 4) (fun _ => rfl) (by omega) hc (i := x2.toNat) (by omega)
  refine ⟨b1, o1, rfl, ⟨h0, hlt⟩, _, _, _, _, cell_at' (cell_keep hb3 (hv 0 _ rfl)) (by omega), cell_at' (cell_keep hb3 (hv 1 _ rfl)) (by omega), cell_at' (cell_keep hb3 (hv 2 _ rfl)) (by omega), cell_at' (cell_keep hb3 (hv 3 _ rfl)) (by omega), callOk_run (by rfl), fun w4 hb4 _ => ?_⟩
  refine Pure.calls (notWinder (cell_keep hb4 hb) _ (ho _ (List.getElem_mem _))) fun w5 hd5 => ⟨_, rfl, .all hd5, fun h => (nomatch h), fun _ => ⟨by omega, fun w7 _ _ => ⟨by show (0 : Int) ≤ x2 + 1; omega, ?_⟩⟩⟩
  show (l.length - (x2 + 1)).toNat < (l.length - x2).toNat
  omega
set_option maxRecDepth 100000 in
theorem anyT {a : Option Addr} {c b : Nat} {l : List Tw} (hc : Cells w a (l.flatMap twC)) (hl : l.length ≤ 100) (hb : w.cell? ⟨b, 0, none⟩ = some (.func (.func 124) #[] #[])) (ho : ∀ t ∈ l, TwOk t) :
    Calls Tryz.prog 122 #[.slice a l.length c, .func (.func 192) #[] #[.pointer (some ⟨b, 0, none⟩)]] w (Pure w (.bool false)) :=
  vc122 _ _ _ _ [] [_] w _ fun _ hb1 _ => Pure.calls (idxT (c := c) (hc.keep hb1) hl (cell_keep hb1 hb) ho) fun _ hd2 => ⟨_, rfl, .all hd2, fun w3 hb3 _ => ⟨rfl, hb3⟩⟩
set_option maxRecDepth 100000 in
theorem anyW {a : Option Addr} {c b : Nat} {l : List Wn} (hc : Cells w a (l.flatMap wnC)) (hl : l.length ≤ 100) (hb : w.cell? ⟨b, 0, none⟩ = some (.func (.func 127) #[] #[])) (ho : ∀ t ∈ l, WnOk t) :
    Calls Tryz.prog 125 #[.slice a l.length c, .func (.func 194) #[] #[.pointer (some ⟨b, 0, none⟩)]] w (Pure w (.bool false)) :=
  vc125 _ _ _ _ [] [_] w _ fun _ hb1 _ => Pure.calls (idxW (c := c) (hc.keep hb1) hl (cell_keep hb1 hb) ho) fun _ hd2 => ⟨_, rfl, .all hd2, fun w3 hb3 _ => ⟨rfl, hb3⟩⟩
set_option maxRecDepth 100000 in
theorem idxS {a : Option Addr} {c b n : Nat} {S : List Sl} (hc : Cells w a (S.map slV)) (hl : S.length ≤ 100) (hb : w.cell? ⟨b, 0, none⟩ = some (I n)) (ho : ∀ s ∈ S, s.2.1 = n) :
    Calls Tryz.prog 218 #[.slice a S.length c, .func (.func 189) #[] #[.pointer (some ⟨b, 0, none⟩)]] w (Pure w (I (-1))) := by
  refine vc218 _ _ _ _ [] [_] w _ ⟨fun ls _ => match ls with | [_, .int _ x] => 0 ≤ x | _ => False, fun ls => match ls with | [_, .int _ x] => (S.length - x).toNat | _ => 0, fun w1 _ _ => by show (0 : Int) ≤ 0; omega, ?_⟩
  intro x1 x2 w3 hb3 h0
  have h0 : 0 ≤ x2 := h0
  refine ⟨fun hlt => ?_, fun _ w8 hb8 _ => ⟨rfl, hb8⟩⟩
  have hi : x2.toNat < S.length := by omega
  obtain ⟨b1, o1, rfl, hv⟩ := hc x2.toNat (slV S[x2.toNat]) (by rw [List.getElem?_map, getElem_of_lt hi]; rfl)
  have hn := ho _ (List.getElem_mem hi)
  refine ⟨b1, o1, rfl, ⟨h0, hlt⟩, _, _, _, cell_at' (cell_keep hb3 hv) (by omega), callOk_run (by rfl), fun w4 hb4 _ => ?_⟩
  refine vc189 _ _ _ _ w4 _ ⟨_, cell_keep hb4 hb, fun w5 hb5 _ => ⟨_, rfl, .all hb5, fun h => ?_, fun _ => ⟨by omega, fun w7 _ _ => ⟨by show (0 : Int) ≤ x2 + 1; omega, ?_⟩⟩⟩⟩
  · rw [hn] at h; simp at h
  · show (S.length - (x2 + 1)).toNat < (S.length - x2).toNat
    omega
set_option maxRecDepth 100000 in
theorem areWays_ok {r : Ru} {ra wa va : Option Addr} {S : List Sl} {rc wc vc : Nat} (h : RuIn r ra wa va S w) (hr : RuOk r) : Calls Tryz.prog 120 #[ruV r ra rc wa wc va vc] w (Pure w (.bool true)) := by
  have h1 := hr.t; have h2 := hr.w; have h3 := h.n
  refine vc120 _ _ _ _ _ _ _ _ _ _ _ w _ fun m1 _ => ⟨by omega, fun m2 _ => ⟨fun _ w1 hb1 _ hc1 => ?_, fun h => by omega⟩⟩
  have hS : ∀ s ∈ S, s.2.1 = r.W.length := fun s hs => by
    obtain ⟨i, hi, rfl⟩ := List.getElem_of_mem hs
    rw [(h.row i hi (by omega)).1, (hr.row i (by omega)).1]
  have e : (r.W.length : Int) = r.T.length + 1 := by omega
  rw [← e] at hc1
  have key : Calls Tryz.prog 188 #[.slice wa S.length wc, .func (.func 189) #[] #[.pointer (some ⟨m2, 0, none⟩)]] w1 (Pure w1 (.bool false)) :=
    vc188 _ _ _ _ [] [_] w1 _ fun _ hb2 _ => Pure.calls (idxS (c := wc) ((h.keep hb1).keep hb2).s (by omega) (cell_keep hb2 (cell_obj (vs := [I r.W.length]) hc1 rfl)) hS) fun _ hd2 => ⟨_, rfl, .all hd2, fun w3 hb3 _ => ⟨rfl, hb3⟩⟩
  rw [h3] at key
  exact Pure.calls key fun w2 hd2 => ⟨_, rfl, .all hd2, fun w3 hb3 _ => ⟨rfl, hb3⟩⟩
set_option maxRecDepth 100000 in
theorem Check_ok {r : Ru} {ra wa va : Option Addr} {S : List Sl} {rc wc vc : Nat} (h : RuIn r ra wa va S w) (hr : RuOk r) : Calls Tryz.prog 63 #[ruV r ra rc wa wc va vc] w (Pure w (I 0)) := by
  have h1 := hr.t; have h2 := hr.w; have h3 := h.n; have h4 := hr.v
  refine vc63 _ _ _ _ _ _ _ _ _ _ _ w _ fun m1 _ => ⟨fun h => by omega, fun _ => ⟨fun h => by omega, fun _ w33 hb33 _ => ?_⟩⟩
  refine Pure.calls (areWays_ok (h.keep hb33) hr) fun w34 hd34 => ⟨_, rfl, .all hd34, fun h => (nomatch h), fun _ => ?_⟩
  refine ⟨fun ls _ => match ls with | [_, .int _ x] => 0 ≤ x | _ => False, fun ls => match ls with | [_, .int _ x] => (r.W.length - x).toNat | _ => 0, fun w1 _ _ => by show (0 : Int) ≤ 0; omega, ?_⟩
  intro x4 x5 w38 hb38 h0
  have h0 : 0 ≤ x5 := h0
  have H38 := h.keep hb38
  refine ⟨fun hlt => ?_, fun hge => ⟨fun h => by omega, fun _ w45 hb45 hk45 => ?_⟩⟩
  · have hi : x5.toNat < S.length := by omega
    have hi' : x5.toNat < r.W.length := by omega
    obtain ⟨b1, o1, e1, hv⟩ := H38.s x5.toNat (slV S[x5.toNat]) (by rw [List.getElem?_map, getElem_of_lt hi]; rfl)
    obtain ⟨b0, _, e0, hv0⟩ := h.s x5.toNat (slV S[x5.toNat]) (by rw [List.getElem?_map, getElem_of_lt hi]; rfl)
    have hlow := cell_lt hv0
    obtain ⟨hr1, hr2, hr3⟩ := hr.row x5.toNat hi'
    have hrow := h.row x5.toNat hi hi'
    rw [e1] at e0
    cases e0
    refine ⟨b1, o1, e1, ⟨h0, hlt⟩, _, _, _, cell_at' hv (by omega), .inl hlow, fun w39 hb39 _ => ?_⟩
    have key := withinR_any (a := 0) (b := 1440) (c := S[x5.toNat].2.2) (hrow.2.keep hb39) (by omega)
    rw [← hrow.1] at key
    refine Pure.calls key fun w40 hd40 => ⟨_, rfl, .all hd40, fun h => ?_, fun _ => ?_⟩
    · rw [List.all_eq_true.2 fun x hx => decide_eq_true (hr2 x hx)] at h; cases h
    · obtain ⟨b2, o2, e2, hc2⟩ := hrow.2 x5.toNat _ (ints_get (getElem_of_lt (show x5.toNat < r.W[x5.toNat].length by omega)))
      refine ⟨b2, o2, e2, ⟨h0, by omega⟩, _, cell_at' (cell_keep (hb39.trans (hd40.mono hb39.size)) hc2) (by omega), .inl (cell_lt hc2), fun h => ?_, fun _ => ⟨by omega, fun w43 _ _ => ⟨by show (0 : Int) ≤ x5 + 1; omega, ?_⟩⟩⟩
      · refine absurd ?_ h
        rw [List.getD_eq_getElem?_getD, getElem_of_lt (show x5.toNat < r.W[x5.toNat].length by omega)] at hr3
        exact hr3
      · show (r.W.length - (x5 + 1)).toNat < (r.W.length - x5).toNat
        omega
  · refine vc123 124 [] [] w45 _ fun b1 g1 w46 hb46 hk46 hc46 => ⟨_, rfl, .all hb46, fun w47 hb47 hk47 => ?_⟩
    have c47 : w47.cell? ⟨b1, 0, none⟩ = some (.func (.func 124) #[] #[]) := by
      have c46 : w46.cell? ⟨b1, 0, none⟩ = some (.func (.func 124) #[] #[]) := cell_obj (vs := [_]) hc46 rfl
      have := (kin_keptC hk47).cell (b := b1) (o := 0) (v := .func (.func 124) #[] #[]) ?_ c46
      · exact this
      · have := hb45.size; have o := hk45.own m1 (by simp); simp; omega
    refine Pure.calls (anyT (c := rc) (h.keep hb47).t (by omega) c47 hr.tw) fun w48 hd48 => ⟨_, rfl, .all hd48, fun h => (by cases h), fun _ => ⟨fun h => by omega, fun _ w51 hb51 hk51 => ?_⟩⟩
    refine vc126 127 [] [] w51 _ fun b2 g2 w52 hb52 hk52 hc52 => ⟨_, rfl, .all hb52, fun w53 hb53 hk53 => ?_⟩
    have c53 : w53.cell? ⟨b2, 0, none⟩ = some (.func (.func 127) #[] #[]) := by
      have c52 : w52.cell? ⟨b2, 0, none⟩ = some (.func (.func 127) #[] #[]) := cell_obj (vs := [_]) hc52 rfl
      have := (kin_keptC hk53).cell (b := b2) (o := 0) (v := .func (.func 127) #[] #[]) ?_ c52
      · exact this
      · have o := hk51.own m1 (by simp); simp; omega
    refine Pure.calls (anyW (c := vc) (h.keep hb53).v (by omega) c53 hr.wn) fun w54 hd54 => ⟨_, rfl, .all hd54, fun h => (by cases h), fun _ m32 _ w56 hb56 _ hc56 => ?_⟩
    refine Pure.calls (inR_any hc56) fun w57 hd57 => ⟨_, rfl, .all hd57, fun h => ?_, fun _ m35 _ w59 hb59 _ hc59 => ?_⟩
    · simp [hr.rest] at h
    refine Pure.calls (inR_any hc59) fun w60 hd60 => ⟨_, rfl, .all hd60, fun h => ?_, fun _ w62 hb62 _ => ⟨rfl, hb62⟩⟩
    simp [hr.wage] at h
end
end Go.Proofs.RT
end
section
/- Values, AppendSeq, Sorted; the days of a round. -/
namespace Go.Proofs.RT
open Go.Vc Go.RowKit Go.Proofs
set_option maxRecDepth 100000 in
theorem values_iter {l : List Int} {a : Option Addr} {c b : Nat} (hl : l.length ≤ 100000) : IterY Tryz.prog 196 [] [.pointer (some ⟨b, 0, none⟩)] l.length (fun k x _ => ∃ v, l[k]? = some v ∧ x = [I v]) (fun w => w.cell? ⟨b, 0, none⟩ = some (.slice a l.length c) ∧ Cells w a (ints l)) := by
  intro lb J Jx W hJ hJx hInv hY h0
  obtain ⟨hcell, _⟩ := hInv _ _ _ h0
  have moveJ : ∀ {G : Nat → Prop} {k : Nat} {w w' : World}, J G k w → Kept [] w w' → J G k w' := fun h hk => hJ _ _ _ _ _ h (.of_below (below_kept0 hk)) (fun _ h => h) fun _ h => .inl h
  have moveX : ∀ {G : Nat → Prop} {k : Nat} {w w' : World}, Jx G k w → Kept [] w w' → Jx G k w' := fun h hk => hJx _ _ _ _ _ h (.of_below (below_kept0 hk)) (fun _ h => h) fun _ h => .inl h
  refine vc196 _ _ W _ ⟨_, _, _, hcell, fun ls w' => match ls with | [.int _ x] => (0 ≤ x ∧ x ≤ l.length) ∧ W.heap.size ≤ w'.heap.size ∧ ∃ G : Nat → Prop, (∀ b, G b → W.heap.size ≤ b ∧ b < w'.heap.size) ∧ J G x.toNat w' | _ => False, fun ls => match ls with | [.int _ x] => (l.length - x).toNat | _ => 0, fun w2 hk => ⟨by omega, hk.size, fun _ => False, fun _ h => h.elim, moveJ h0 hk⟩, ?_⟩
  rintro x w3 ⟨hx, s3, G, hG, hj⟩
  refine ⟨fun hlt => ?_, fun hge w8 hk8 => ⟨⟨_, rfl⟩, G, .inl ?_⟩⟩
  · have hi : x.toNat < l.length := by omega
    obtain ⟨b1, o1, e1, hc1⟩ := (hInv _ _ _ hj).2 x.toNat _ (ints_get (getElem_of_lt hi))
    refine ⟨b1, o1, e1, by omega, _, cell_at' hc1 (by omega), fun w4 hk4 => ⟨lb, rfl, yield_mono (hY G x.toNat _ w4 (moveJ hj hk4) (fun b hb => ⟨(hG b hb).1, by have := (hG b hb).2; have := hk4.size; omega⟩) hi ⟨_, getElem_of_lt hi, rfl⟩) ?_⟩⟩
    rintro e w5 ⟨t, rfl, hk, ht, hf⟩
    refine ⟨t, rfl, .own hk.os hk.tape hk.output hk.size (by simp) (by simp) (by simp), fun h w6 hk6 => ⟨⟨_, rfl⟩, G, .inr ⟨_, moveX (hf (by simpa using h)) hk6⟩⟩, fun h => ⟨by omega, fun w7 hk7 => ⟨⟨by omega, by have := hk4.size; have := hk.size; have := hk7.size; omega, G, fun b hb => ⟨(hG b hb).1, by have := (hG b hb).2; have := hk4.size; have := hk.size; have := hk7.size; omega⟩, ?_⟩, ?_⟩⟩⟩
    · have := moveJ (ht (by simpa using h)) hk7
      rw [show (x + 1).toNat = x.toNat + 1 by omega]
      exact this
    · show (l.length - (x + 1)).toNat < (l.length - x).toNat
      omega
  · have e : x.toNat = l.length := by omega
    rw [← e]
    exact moveJ hj hk8
set_option maxRecDepth 100000 in
theorem appendSeq_any {w : World} {l : List Int} {a : Option Addr} {c b : Nat} (hl : l.length ≤ 100000) (hb : w.cell? ⟨b, 0, none⟩ = some (.slice a l.length c)) (hc : Cells w a (ints l)) :
    Calls Tryz.prog 219 #[.slice none 0 0, .func (.func 196) #[] #[.pointer (some ⟨b, 0, none⟩)]] w fun e w' => ∃ a' c', e = .returned (.slice a' l.length c') ∧ Below w.heap.size w w' ∧ RowG 3 1 w.heap.size (fun _ => False) a' l.length c' (ints l) w' := by
  refine vc219 _ _ _ _ w _ fun m1 g1 => ⟨[_], rfl, _, _, fun G ls k w' => match ls with | [.sl a' n' c'] => n' = k ∧ k ≤ l.length ∧ RowG 3 1 w.heap.size (fun b => G b ∨ b = m1) a' n' c' (ints (l.take k)) w' | _ => False, _, values_iter (a := a) (c := c) hl, fun w4 _ _ _ => ⟨rfl, Nat.zero_le _, RowG.nil⟩, ?_⟩
  rintro a1 n1 c1 k G G' w5 w6 ⟨rfl, hkl, R5⟩ hcf hG1 hG2 hG3 hb6
  have R6 : RowG 3 1 w.heap.size (fun b => G' b ∨ b = m1) a1 n1 c1 (ints (l.take n1)) w6 := (R5.mono fun b hb => by
    rcases hb with hb | hb
    · rcases hG2 b hb with h | h
      · exact .inl (.inl h)
      · exact .inr h
    · exact .inl (.inr hb)).calmF hcf
  refine ⟨⟨cell_keep hb6 hb, hc.keep hb6⟩, ?_, fun hk w14 hb14 hk14 w15 hc15 => ?_⟩
  · rintro y hlt ⟨v, hv, rfl⟩
    refine ⟨v, rfl, fun m16 w7 w8 hb8 hk8 w9 hc9 w10 m17 g17 w11 hb11 hk11 hc11 => ?_⟩
    have s8 := hk8.size; have s9 := hc9.size; have s11 := hk11.size
    have R11 : RowG 3 1 w.heap.size (fun b => G' b ∨ b ∈ [m17, m1]) a1 n1 c1 (ints (l.take n1)) w11 := by
      have h0 : RowG 3 1 w.heap.size (fun b => G' b ∨ b ∈ [m17, m1]) a1 n1 c1 (ints (l.take n1)) w9 := ((R6.kept hk8 fun b hb => .inl (.inr (by simpa using hb))).calmF hc9).mono fun b hb => by
        rcases hb with hb | hb
        · exact .inl (.inl hb)
        · rcases List.mem_cons.1 hb with rfl | hb
          · exact .inr g17
          · exact .inl (.inr (by simpa using hb))
      exact h0.kept hk11 fun b hb => .inl (.inr hb)
    have hall : ∀ b, (G' b ∨ b ∈ [m17, m1]) → b < w11.heap.size := fun b hb => by
      rcases hb with hb | hb
      · have := hG3 b hb; omega
      · exact hk11.own b hb
    refine R11.append (P := Tryz.prog) (bytes := 8) (by kernel_rfl) (by omega) (m := 1) (news := [_]) (Cells.obj (vs := [_]) hc11) rfl (List.forall_mem_cons.2 ⟨rfl, by simp⟩) (by omega) (by omega) (by have := hb11.size; omega) hall fun a2 c2 w12 R12 S c12 hS => ?_
    refine ⟨_, _, _, rfl, c12.own (fun b hb => ⟨hall b (.inr hb), fun h => (hS b h).2 (.inr hb)⟩) (fun b hb => ⟨hall b (.inl hb), fun h => (hS b h).2 (.inl hb)⟩) (fun _ => ⟨hb11.size, fun s hs => (hS s hs).1⟩), fun w13 hb13 hk13 => ⟨rfl, by omega, ?_⟩⟩
    have e : ints (l.take (n1 + 1)) = ints (l.take n1) ++ [I v] := by
      rw [List.take_add_one, hv]; simp [ints]
    rw [e]
    exact (R12.kept hk13 fun b hb => .inl (.inr hb)).mono fun b hb => .inl (hb.imp id fun h => by simp [h])
  · subst hk
    rw [List.take_length] at R6
    exact ⟨_, _, rfl, hb14.trans (calm_below hc15 hb14.size), ((R6.kept hk14 fun b hb => .inl (.inr (by simpa using hb))).calmF hc15).mono fun b hb => hb.elim⟩
set_option maxRecDepth 100000 in
theorem sorted_one {w : World} {x : Int} {a : Option Addr} {c b : Nat} (hb : w.cell? ⟨b, 0, none⟩ = some (.slice a 1 c)) (hc : Cells w a [I x]) :
    Calls Tryz.prog 128 #[.func (.func 196) #[] #[.pointer (some ⟨b, 0, none⟩)]] w fun e w' => ∃ a' c', e = .returned (.slice a' 1 c') ∧ Below w.heap.size w w' ∧ Lies [] w.heap.size w'.heap.size w' a' [I x] := by
  refine vc128 196 [] [_] w _ fun w1 hb1 _ => ?_
  refine vc195 196 [] [_] w1 _ fun w2 hb2 _ => ?_
  have h12 := hb1.trans (hb2.mono hb1.size)
  refine (appendSeq_any (l := [x]) (by simp) (cell_keep h12 hb) (hc.keep h12)).mono fun e w3 he => ?_
  obtain ⟨a', c', rfl, hb3, R3⟩ := he
  refine ⟨_, _, _, rfl, .all hb3, fun w4 hb4 hk4 => ⟨_, _, _, rfl, .all hb4, fun w5 hb5 hk5 => ?_⟩⟩
  have R4 := R3.kept hk4 (by simp)
  have R5 := R4.kept hk5 (by simp)
  refine (sort_asc (l := [x]) R5.row.cells (.inr (.inl rfl)) (fun i hi => by simp at hi)).mono fun e w6 he => ?_
  obtain ⟨rfl, hb6⟩ := he
  refine ⟨rfl, .all hb6, fun w7 hb7 hk7 => ⟨_, _, rfl, hb7, (rowE_lies (.inr ((R5.below hb6).kept hk7 (by simp)).row) (Nat.le_refl _)).to (by have := hb1.size; have := hb2.size; omega) (Nat.le_refl _)⟩⟩
end Go.Proofs.RT
end
section
/- Days and clocks of one tower; Stops. -/
namespace Go.Proofs.RT
open Go.Vc Go.RowKit Go.Proofs
abbrev Dy := Int × Option Addr × Nat
abbrev dayC (d : Dy) : List Value := [I d.1, .slice d.2.1 1 d.2.2]
structure DaysIn (ds : List Dy) (a : Option Addr) (w : World) : Prop where
  d : Cells w a (ds.flatMap dayC)
  t : ∀ d ∈ ds, Cells w d.2.1 [I 0]
theorem DaysIn.keep {ds : List Dy} {a : Option Addr} {w w' : World} (h : DaysIn ds a w) (hb : Below w.heap.size w w') : DaysIn ds a w' := ⟨h.d.keep hb, fun d hd => (h.t d hd).keep hb⟩
def prevD (ds : List Dy) (i : Nat) : Int := if i = 0 then 0 else (ds.getD (i - 1) (0, none, 0)).1
structure DaysOk (ds : List Dy) : Prop where
  n : ds.length ≤ 400
  d : ∀ i (h : i < ds.length), prevD ds i + 1 ≤ ds[i].1 ∧ ds[i].1 ≤ 36524
theorem prevD_bd {ds : List Dy} (h : DaysOk ds) : ∀ i, i ≤ ds.length → 0 ≤ prevD ds i ∧ prevD ds i ≤ 36524 := fun i => by
  induction i with
  | zero => intro _; simp [prevD]
  | succ i ih =>
    intro hi
    have h1 := ih (by omega)
    have h2 := h.d i (by omega)
    have e : prevD ds (i + 1) = ds[i].1 := by simp [prevD, List.getD_eq_getElem?_getD, getElem_of_lt (show i < ds.length by omega)]
    rw [e]; omega
theorem prevD_step {ds : List Dy} {i : Nat} (h : i < ds.length) : prevD ds (i + 1) = ds[i].1 := by simp [prevD, List.getD_eq_getElem?_getD, getElem_of_lt h]
section
variable {w : World}
set_option maxRecDepth 100000 in
theorem checkDays_ok {r : Ru} {ra wa va da : Option Addr} {rc wc vc dc : Nat} {ds : List Dy} (hT : 1 ≤ r.T.length ∧ r.T.length ≤ 8) (hd : DaysIn ds da w) (ho : DaysOk ds) : Calls Tryz.prog 64 #[ruV r ra rc wa wc va vc, .slice da ds.length dc] w (Pure w (I 0)) := by
  have hn := ho.n
  refine vc64 _ _ _ _ _ _ _ _ _ _ _ _ _ _ w _ fun m1 _ => ⟨fun h => by omega, fun _ => ⟨fun ls _ => match ls with | [_, .int _ l, .int _ x] => (0 ≤ x ∧ x ≤ ds.length) ∧ l = prevD ds x.toNat | _ => False, fun ls => match ls with | [_, _, .int _ x] => (ds.length - x).toNat | _ => 0, fun w3 _ _ => ⟨by omega, rfl⟩, ?_⟩⟩
  rintro x1 x2 x3 w4 hb4 ⟨hx, rfl⟩
  refine ⟨fun hlt => ?_, fun _ w19 hb19 _ => ⟨rfl, hb19⟩⟩
  have hi : x3.toNat < ds.length := by omega
  obtain ⟨b1, o1, rfl, hb1, hv⟩ := flat_at (k := 2) (fun _ => rfl) (by omega) hd.d hi
  have hp := prevD_bd ho x3.toNat (by omega)
  have hdd := ho.d x3.toNat hi
  have ht := hd.t _ (List.getElem_mem hi)
  refine ⟨b1, o1, rfl, by omega, _, _, _, _, cell_at' (cell_keep hb4 (hv 0 _ rfl)) (by omega), cell_at' (cell_keep hb4 (hv 1 _ rfl)) (by omega), .inl hb1, fun m6 _ => ⟨by omega, fun m7 _ w5 hb5 _ hc5 => ?_⟩⟩
  refine Pure.calls (inR_any hc5) fun w6 hd6 => ⟨_, rfl, .all hd6, fun h => ?_, fun _ => ⟨by omega, fun w8 hb8 _ => ?_⟩⟩
  · rw [decide_eq_true hdd] at h; cases h
  refine Pure.calls (withinR_any (l := [0]) (c := ds[x3.toNat].2.2) (ht.keep hb8) (by simp)) fun w9 hd9 => ⟨_, rfl, .all hd9, fun h => ?_, fun _ w11 hb11 hk11 => ?_⟩
  · simp at h; omega
  refine vc129 _ _ _ w11 _ fun b2 g2 w12 hb12 hk12 hc12 => ⟨_, rfl, .all hb12, fun w13 hb13 hk13 => ?_⟩
  have c13 : w13.cell? ⟨b2, 0, none⟩ = some (.slice ds[x3.toNat].2.1 1 ds[x3.toNat].2.2) := by
    have c12 : w12.cell? ⟨b2, 0, none⟩ = some (.slice ds[x3.toNat].2.1 1 ds[x3.toNat].2.2) := cell_obj (vs := [_]) hc12 rfl
    refine (Chg.kept hk13).cell ?_ c12
    have h1 := hk11.own m1 (by simp); have h2 := hk11.own m6 (by simp); have h3 := hk11.own m7 (by simp)
    simp; omega
  refine (sorted_one c13 (ht.keep hb13)).mono fun e w14 he => ?_
  obtain ⟨a', c', rfl, hb14, C14⟩ := he
  refine ⟨_, _, _, rfl, .all hb14, fun w15 hb15 hk15 => ?_⟩
  have o1 := hk13.own m1 (by simp); have o2 := hk13.own m6 (by simp); have o3 := hk13.own m7 (by simp)
  have C15 : Cells w15 a' (ints [0]) := (C14.out hk15.chg (by simp; omega)).cells
  refine Pure.calls (compact_asc (l := [0]) C15 (by decide) (fun i hi => by simp at hi)) fun w16 hd16 => ⟨_, _, _, rfl, .all hd16, fun h => by simp at h, fun _ => ⟨by omega, fun w18 _ _ => ⟨⟨by omega, ?_⟩, ?_⟩⟩⟩
  · rw [show (x3 + 1).toNat = x3.toNat + 1 by omega, prevD_step hi]
  · show (ds.length - (x3 + 1)).toNat < (ds.length - x3).toNat
    omega
end
end Go.Proofs.RT
end
section
/- The clocks of one tower; Stops. -/
namespace Go.Proofs.RT
open Go.Vc Go.RowKit Go.Proofs
/-- A clock in a block of its own. -/
def ClkIn (b : Nat) (x : Int) (w : World) : Prop := ∃ q, w.heap[b]? = some (.cells (I x :: q).toArray 3 (0, 0))
section
variable {w : World}
theorem ClkIn.lt {b : Nat} {x : Int} (h : ClkIn b x w) : b < w.heap.size := by obtain ⟨q, h⟩ := h; exact lt_of_some h
theorem ClkIn.out {b : Nat} {x : Int} {S : List Nat} {w' : World} (h : ClkIn b x w) (hc : Chg S w w') (hs : b ∉ S) : ClkIn b x w' := by
  have hl := h.lt
  obtain ⟨q, h⟩ := h
  exact ⟨q, by rw [hc.keep b hl hs]; exact h⟩
theorem ClkIn.below {b : Nat} {x : Int} {w' : World} (h : ClkIn b x w) (hb : Below w.heap.size w w') : ClkIn b x w' := h.out (S := []) (Chg.of_below hb) (by simp)
theorem row_clk {B : Nat} {ns : List Nat} {a : Option Addr} {c : Nat} {x : Int} (h : Row 3 1 B ns a 1 c [I x] w) : ∃ b, a = some ⟨b, 0, none⟩ ∧ B ≤ b ∧ b ∉ ns ∧ ClkIn b x w := by
  rcases h.own.2 with ⟨_, h0⟩ | ⟨g, cap, cur, hv, hb, hg, _, _, hs, ht⟩
  · omega
  · cases hv
    refine ⟨g, rfl, hb, h.ns g 0 rfl, cur.toList.drop 1, ?_⟩
    have e : cur.toList = [I x] ++ cur.toList.drop 1 := by
      rw [← ht]
      exact (List.take_append_drop 1 cur.toList).symm
    rw [hg]
    congr 2
    exact Array.ext' e
theorem load_clk {b : Nat} {x : Int} (h : ClkIn b x w) : w.cell? ⟨b, 0, none⟩ = some (I x) := by obtain ⟨q, h⟩ := h; exact cell_obj (vs := I x :: q) h rfl
set_option maxRecDepth 100000 in
theorem first_one {b c : Nat} {x : Int} (h : ClkIn b x w) : Calls Tryz.prog 30 #[.slice (some ⟨b, 0, none⟩) 1 c] w (Pure w (.tuple #[I 0, I x])) := by
  refine vc30 _ _ _ w _ fun w1 hb1 _ => ?_
  have h1 := h.below hb1
  have key : Calls Tryz.prog 66 #[.slice (some ⟨b, 0, none⟩) 1 c] w1 (Pure w1 (I x)) :=
    vc66 _ _ _ w1 _ ⟨fun h => by omega, fun _ => ⟨b, 0, rfl, by decide, x, cell_at' (load_clk h1) (by simp), fun ls _ => match ls with | [.int _ y, .int _ z] => y = x ∧ z = 1 | _ => False, fun _ => 0, fun _ _ _ => ⟨rfl, rfl⟩, by
      rintro x2 x3 w5 hb5 ⟨rfl, rfl⟩
      exact ⟨fun h => by omega, fun _ w7 hb7 _ => ⟨rfl, hb7⟩⟩⟩⟩
  refine Pure.calls key fun w2 hd2 => ⟨_, rfl, .all hd2, fun w3 hb3 _ => ?_⟩
  have h3 := h.below hb3
  have key2 : Calls Tryz.prog 67 #[.slice (some ⟨b, 0, none⟩) 1 c, I x] w3 (Pure w3 (I 0)) :=
    vc67 _ _ _ _ w3 _ ⟨fun ls _ => match ls with | [.int _ _, .int _ z] => z = 0 | _ => False, fun _ => 0, fun _ _ _ => rfl, by
      rintro x1 x2 w4 hb4 hz
      have hz : x2 = 0 := hz
      subst hz
      exact ⟨fun _ => ⟨b, 0, rfl, by decide, x, cell_at' (load_clk (h3.below hb4)) (by simp), fun _ w5 hb5 _ => ⟨rfl, hb5⟩, fun h => absurd rfl h⟩, fun h => by omega⟩⟩
  exact Pure.calls key2 fun w4 hd4 => ⟨_, rfl, .all hd4, fun w5 hb5 _ => ⟨rfl, hb5⟩⟩
set_option maxRecDepth 100000 in
theorem wind_one {r : Ru} {ra wa va : Option Addr} {rc wc vc : Nat} {b c : Nat} {x : Int} {d : Dy} (h : ClkIn b x w) (hr : Cells w ra (r.T.flatMap twC)) {t : Tw} (hT : r.T = [t]) (ht : TwOk t) (hd : 0 ≤ d.1 ∧ d.1 ≤ 36524) (hc : Cells w d.2.1 [I 0]) :
    Calls Tryz.prog 31 #[.slice (some ⟨b, 0, none⟩) 1 c, ruV r ra rc wa wc va vc, .agg (dayC d).toArray] w fun e w' => e = .returned (.tuple #[]) ∧ Chg [b] w w' ∧ ClkIn b (d.1 + t.2.2.2.2) w' := by
  have hl := h.lt
  have hg := ht.g
  refine vc31 _ _ _ _ _ _ _ _ _ _ _ _ _ _ _ _ _ _ w _ fun m1 g1 m2 g2 => ?_
  refine ⟨fun ls w' => match ls with | [.int _ z] => (z = 0 ∧ Chg [m2, m1] w w') ∨ (z = 1 ∧ Chg [m2, m1, b] w w' ∧ ClkIn b (d.1 + t.2.2.2.2) w') | _ => False, fun ls => match ls with | [.int _ z] => (1 - z).toNat | _ => 0, fun w2 hk => .inl ⟨rfl, Chg.kept hk⟩, ?_⟩
  rintro x1 w3 hI
  refine ⟨fun hlt => ?_, fun hge w7 hk7 => ?_⟩
  · rcases hI with ⟨rfl, C3⟩ | ⟨rfl, _⟩
    rotate_left
    · simp at hlt
    have hb3 : Below w.heap.size w w3 := ⟨C3.os, C3.tape, C3.output, C3.size, fun k hk => C3.keep k hk (by simp; omega)⟩
    obtain ⟨b1, o1, e1, hv1⟩ := hc 0 _ rfl
    rw [hT] at hr
    obtain ⟨b2, o2, e2, hb2, hv2⟩ := flat_at (k := 5) (fun _ => rfl) (by omega) hr (i := 0) (by simp)
    refine ⟨b1, o1, e1, by omega, 0, cell_at' (cell_keep hb3 hv1) (by simp), .inl (cell_lt hv1), b2, o2, e2, by rw [hT]; simp, _, cell_at' (cell_keep hb3 (hv2 4 _ rfl)) (by simp), .inl hb2, by show _ ≤ d.1 + t.2.2.2.2 ∧ d.1 + t.2.2.2.2 ≤ _; omega, b, 0, rfl, by decide, fun w4 hk4 => ?_⟩
    have C4 := C3.trans hk4.chg
    have h4 : ClkIn b x w4 := h.out C4 (by simp; omega)
    obtain ⟨q, hq⟩ := h4
    refine obj_store (cs := I x :: q) (vs := [I (d.1 + t.2.2.2.2)]) hq (by kernel_rfl) (by kernel_rfl) (by simp) rfl (by simp; trivial) fun w5 hh5 c5 => ⟨c5.own (fun y hy => ⟨hk4.own y hy, by simp at hy ⊢; omega⟩) (by simp) (by simp), by omega, fun w6 hk6 => ⟨.inr ⟨rfl, ?_, ?_⟩, by decide⟩⟩
    · have a1 : Chg [m2, m1, b] w w4 := C4.mono fun y hy => .inl (by simp at hy ⊢; omega)
      have a2 : Chg [m2, m1, b] w4 w5 := c5.mono fun y hy => .inl (by simp at hy ⊢; omega)
      exact (a1.trans a2).trans ((Chg.kept hk6).mono fun y hy => .inl (by simp at hy ⊢; omega))
    · have h5 : ClkIn b (d.1 + t.2.2.2.2) w5 := ⟨q, by rw [hh5]; simp⟩
      exact h5.out (Chg.kept hk6) (by simp; omega)
  · rcases hI with ⟨rfl, _⟩ | ⟨rfl, C3, h3⟩
    · simp at hge
    refine ⟨rfl, ?_, h3.out (Chg.kept hk7) (by simp; omega)⟩
    exact (C3.trans ((Chg.kept hk7).mono fun y hy => .inl (by simp at hy ⊢; omega))).mono fun y hy => by simp at hy ⊢; omega
set_option maxRecDepth 100000 in
theorem isDay_any (n : Int) : Calls Tryz.prog 65 #[I n] w (Pure w (.bool (decide (0 ≤ n ∧ n ≤ 36524)))) :=
  vc65 _ w _ fun _ _ w1 _ _ hc1 => Pure.calls (inR_any hc1) fun w2 hd2 => ⟨_, rfl, .all hd2, fun w3 hb3 _ => ⟨rfl, hb3⟩⟩
def PostOpen (g : Int) (w : World) (e : Ending) (w' : World) : Prop := ∃ b c, e = .returned (.tuple #[.slice (some ⟨b, 0, none⟩) 1 c, I 0]) ∧ Below w.heap.size w w' ∧ w.heap.size ≤ b ∧ ClkIn b g w'
set_option maxRecDepth 100000 in
theorem open_one {r : Ru} {ra wa va da : Option Addr} {S : List Sl} {rc wc vc dc : Nat} {ds : List Dy} {till : Int} (h : RuIn r ra wa va S w) (hr : RuOk r) (hd : DaysIn ds da w) (ho : DaysOk ds) (ht : 0 ≤ till ∧ till ≤ 36524) {t : Tw} (hT : r.T = [t]) :
    Calls Tryz.prog 29 #[ruV r ra rc wa wc va vc, .slice da ds.length dc, I till] w (PostOpen t.2.2.2.2 w) := by
  refine vc29 _ _ _ _ _ _ _ _ _ _ _ _ _ _ _ w _ fun m1 g1 w1 hb1 hk1 => ?_
  refine Pure.calls (Check_ok (h.keep hb1) hr) fun w2 hd2 => ⟨_, rfl, .all hd2, fun _ w3 hb3 hk3 => ?_, fun h => absurd rfl h⟩
  refine Pure.calls (checkDays_ok hr.t (hd.keep hb3) ho) fun w4 hd4 => ⟨_, rfl, .all hd4, fun _ w5 hb5 hk5 => ?_, fun h => absurd rfl h⟩
  refine Pure.calls (isDay_any till) fun w6 hd6 => ⟨_, rfl, .all hd6, fun h => ?_, fun _ => ⟨fun h => absurd rfl h, fun _ => ?_⟩⟩
  · rw [decide_eq_true ht] at h; cases h
  have hl : r.T.length = 1 := by rw [hT]; rfl
  refine ⟨fun ls w' => match ls with | [.sl a n c, .int _ x] => (x = 0 ∧ a = none ∧ n = 0 ∧ c = 0) ∨ (x = 1 ∧ n = 1 ∧ RowG 3 1 w.heap.size (fun b => b = m1) a 1 c [I t.2.2.2.2] w') | _ => False, fun ls => match ls with | [_, .int _ x] => (1 - x).toNat | _ => 0, fun w17 _ _ => .inl ⟨rfl, rfl, rfl, rfl⟩, ?_⟩
  rintro a3 n3 c3 x9 w18 hb18 hI
  refine ⟨fun hlt => ?_, fun hge w22 hb22 hk22 => ?_⟩
  · rcases hI with ⟨rfl, rfl, rfl, rfl⟩ | ⟨rfl, _⟩
    rotate_left
    · rw [hl] at hlt; simp at hlt
    have ht0 := h.t
    rw [hT] at ht0
    obtain ⟨b2, o2, e2, hb2, hv2⟩ := flat_at (k := 5) (fun _ => rfl) (by omega) ht0 (i := 0) (by simp)
    refine ⟨b2, o2, e2, by rw [hl]; decide, _, _, _, _, _, cell_at' (cell_keep hb18 (hv2 0 _ rfl)) (by simp), cell_at' (cell_keep hb18 (hv2 1 _ rfl)) (by simp), cell_at' (cell_keep hb18 (hv2 2 _ rfl)) (by simp), cell_at' (cell_keep hb18 (hv2 3 _ rfl)) (by simp), cell_at' (cell_keep hb18 (hv2 4 _ rfl)) (by simp), .inl hb2, fun m19 g19 m20 g20 w19 hb19 hk19 hc19 => ?_⟩
    have R19 : RowG 3 1 w.heap.size (fun b => b < w19.heap.size) none 0 0 [] w19 := RowG.nil
    refine R19.append (P := Tryz.prog) (bytes := 8) (by kernel_rfl) (by omega) (m := 1) (news := [_]) (Cells.obj (vs := [_]) hc19) rfl (List.forall_mem_cons.2 ⟨rfl, by simp⟩) (by omega) (by omega) (by have := hb19.size; omega) (fun b hb => hb) fun a2 c2 w20 R20 S c20 hS => ?_
    have hb20 : Below w19.heap.size w19 w20 := ⟨c20.os, c20.tape, c20.output, c20.size, fun k hk => c20.keep k hk fun hm => (hS k hm).2 hk⟩
    refine ⟨_, _, _, rfl, .all hb20, by omega, fun w21 hb21 hk21 => ⟨.inr ⟨rfl, rfl, ?_⟩, by show (1 - ((0 : Int) + 1)).toNat < (1 - (0 : Int)).toNat; decide⟩⟩
    have h0 : RowG 3 1 w.heap.size (fun b => b ∈ [m20, m19, m1]) a2 1 c2 [I t.2.2.2.2] w20 := R20.mono fun b hb => .inl (hk19.own b hb)
    exact (h0.kept hk21 fun b hb => .inl hb).mono fun b hb => .inl (by simp [hb])
  · rcases hI with ⟨rfl, _⟩ | ⟨rfl, rfl, R18⟩
    · rw [hl] at hge; simp at hge
    have R22 := R18.kept hk22 fun b hb => .inl (by simpa using hb)
    obtain ⟨b, rfl, hB, _, hC⟩ := row_clk R22.row
    exact ⟨b, c3, rfl, hb22, hB, hC⟩
def finF (till c : Int) : Int × Int := if till < c then (-1, 0) else (0, c)
def stopsF (g till : Int) : Int → List Int → Int × Int
  | c, [] => finF till c
  | c, d :: ds => if c < d then finF till c else if till < d then finF till c else stopsF g till (d + g) ds
theorem stopsF_nil (g till c : Int) : stopsF g till c [] = finF till c := rfl
theorem stopsF_cons (g till c d : Int) (ds : List Int) : stopsF g till c (d :: ds) = if c < d then finF till c else if till < d then finF till c else stopsF g till (d + g) ds := rfl
set_option maxRecDepth 100000 in
theorem Stops_one {r : Ru} {ra wa va da : Option Addr} {S : List Sl} {rc wc vc dc : Nat} {ds : List Dy} {till : Int} (h : RuIn r ra wa va S w) (hr : RuOk r) (hd : DaysIn ds da w) (ho : DaysOk ds) (ht : 0 ≤ till ∧ till ≤ 36524) {t : Tw} (hT : r.T = [t]) :
    Calls Tryz.prog 7 #[ruV r ra rc wa wc va vc, .slice da ds.length dc, I till] w (Pure w (.tuple #[I (stopsF t.2.2.2.2 till t.2.2.2.2 (ds.map (·.1))).1, I (stopsF t.2.2.2.2 till t.2.2.2.2 (ds.map (·.1))).2, I 0])) := by
  have hn := ho.n
  have htw := hr.tw t (by rw [hT]; simp)
  have hg := htw.g
  refine vc7 _ _ _ _ _ _ _ _ _ _ _ _ _ _ _ w _ fun m1 g1 w1 hb1 hk1 => ?_
  refine (open_one (h.keep hb1) hr (hd.keep hb1) ho ht hT).mono fun e w2 he => ?_
  obtain ⟨b, c, rfl, hb2, hbB, hC2⟩ := he
  have s1 := hb1.size; have s2 := hb2.size; have om1 := hk1.own m1 (by simp)
  refine ⟨_, _, _, _, rfl, .all hb2, fun h => absurd rfl h, fun _ => ?_⟩
  refine ⟨fun ls w' => match ls with | [_, _, _, .int _ x] => (0 ≤ x ∧ x ≤ ds.length) ∧ ∃ cl, ClkIn b cl w' ∧ stopsF t.2.2.2.2 till t.2.2.2.2 (ds.map (·.1)) = stopsF t.2.2.2.2 till cl ((ds.map (·.1)).drop x.toNat) | _ => False, fun ls => match ls with | [_, _, _, .int _ x] => (ds.length - x).toNat | _ => 0, fun w5 _ hk5 => ⟨by omega, _, hC2.out (Chg.kept hk5) (by simp; omega), rfl⟩, ?_⟩
  rintro x2 x3 x4 x5 w6 hb6 ⟨hx, cl, hC6, hst⟩
  have fin : ∀ w', ClkIn b cl w' → Calls Tryz.prog 30 #[.slice (some ⟨b, 0, none⟩) 1 c] w' (Pure w' (.tuple #[I 0, I cl])) := fun w' h => first_one h
  refine ⟨fun hlt => ?_, fun hge w23 hb23 hk23 => ?_⟩
  · have hi : x5.toNat < ds.length := by omega
    obtain ⟨b1, o1, e1, hb1', hv⟩ := flat_at (k := 2) (fun _ => rfl) (by omega) hd.d hi
    have hdd := ho.d x5.toNat hi
    have hp := prevD_bd ho x5.toNat (by omega)
    have e : (ds.map (·.1)).drop x5.toNat = ds[x5.toNat].1 :: (ds.map (·.1)).drop (x5.toNat + 1) := by
      rw [List.drop_eq_getElem_cons (by simpa using hi)]; simp
    rw [e] at hst
    refine ⟨b1, o1, e1, by omega, _, _, _, _, cell_at' (cell_keep hb6 (hv 0 _ rfl)) (by omega), cell_at' (cell_keep hb6 (hv 1 _ rfl)) (by omega), .inl hb1', fun m9 g9 w7 hb7 hk7 => ?_⟩
    have l6 := hC6.lt
    have hC7 := hC6.out (Chg.kept hk7) (by simp; omega)
    refine Pure.calls (fin _ hC7) fun w8 hd8 => ⟨_, _, rfl, .all hd8, fun hc w9 hb9 hk9 => ?_, fun hc => ⟨fun hu w13 hb13 hk13 => ?_, fun hu w17 hb17 hk17 => ?_⟩⟩
    · have hC9 := (hC7.below hd8).out (Chg.kept hk9) (by simp; omega)
      rw [stopsF_cons, if_pos hc] at hst
      refine Pure.calls (fin _ hC9) fun w10 hd10 => ⟨_, _, rfl, .all hd10, fun h1 w11 hb11 _ => ⟨?_, hb11⟩, fun h1 w12 hb12 _ => ⟨?_, hb12⟩⟩
      · rw [hst]; unfold finF; rw [if_pos h1]
      · rw [hst]; unfold finF; rw [if_neg (by omega)]
    · have hC13 := (hC7.below hd8).out (Chg.kept hk13) (by simp; omega)
      rw [stopsF_cons, if_neg (by omega), if_pos hu] at hst
      refine Pure.calls (fin _ hC13) fun w14 hd14 => ⟨_, _, rfl, .all hd14, fun h1 w15 hb15 _ => ⟨?_, hb15⟩, fun h1 w16 hb16 _ => ⟨?_, hb16⟩⟩
      · rw [hst]; unfold finF; rw [if_pos h1]
      · rw [hst]; unfold finF; rw [if_neg (by omega)]
    · have hC17 := (hC7.below hd8).out (Chg.kept hk17) (by simp; omega)
      rw [stopsF_cons, if_neg (by omega), if_neg (by omega)] at hst
      refine (wind_one (r := r) (ra := ra) (wa := wa) (va := va) (rc := rc) (wc := wc) (vc := vc) (c := c) (d := ds[x5.toNat]) hC17 (h.keep hb17).t hT htw (by omega) ((hd.keep hb17).t _ (List.getElem_mem hi))).mono fun e w18 he => ?_
      obtain ⟨rfl, c18, hC18⟩ := he
      have s7 := hk7.size; have s8 := hd8.size; have s17 := hk17.size
      refine ⟨rfl, c18.own (fun y hy => ⟨hk17.own y hy, by simp at hy ⊢; omega⟩) (by simp) (fun _ => ⟨hb17.size, fun s hs => by simp at hs; omega⟩), fun w19 hb19 hk19 => ?_⟩
      have hC19 := hC18.out (Chg.kept hk19) (by simp; omega)
      refine Pure.calls (first_one hC19) fun w20 hd20 => ⟨_, _, rfl, .all hd20, fun h1 => by omega, fun h1 => ⟨by omega, fun w22 hb22 hk22 => ⟨⟨by omega, _, (hC19.below hd20).out (Chg.kept hk22) (by simp; omega), ?_⟩, ?_⟩⟩⟩
      · rw [hst, show (x5 + 1).toNat = x5.toNat + 1 by omega]
      · show (ds.length - (x5 + 1)).toNat < (ds.length - x5).toNat
        omega
  · have e : (ds.map (·.1)).drop x5.toNat = [] := List.drop_eq_nil_of_le (by simp; omega)
    rw [e] at hst
    have l6 := hC6.lt
    have hC23 := hC6.out (Chg.kept hk23) (by simp; omega)
    rw [stopsF_nil] at hst
    refine Pure.calls (fin _ hC23) fun w24 hd24 => ⟨_, _, rfl, .all hd24, fun h1 w25 hb25 _ => ⟨?_, hb25⟩, fun h1 w26 hb26 _ => ⟨?_, hb26⟩⟩
    · rw [hst]; unfold finF; rw [if_pos h1]
    · rw [hst]; unfold finF; rw [if_neg (by omega)]
end
end Go.Proofs.RT
end
section
/- The conditions of the functions, printed by program; each is what the generator reckons (kernel_rfl). -/
namespace Go.Proofs
open Go.Vc
set_option maxRecDepth 100000 in
set_option maxHeartbeats 2000000 in
theorem vc8 (goesa : Option Addr) (goesn : Nat) (goesc : Nat) (w : World) (R : Ending → World → Prop) (h : ∀ (m1 : Nat), w.heap.size ≤ m1 → ∀ (w1 : World), RowKit.Below w.heap.size
    w w1 → Kept [m1] w w1 → ∀ (m2 : Nat) (w2 : World), m2 = w1.heap.size → w2 = w1.alloc (Obj.cells #[Value.int IntKind.u16 0, Value.int IntKind.i64 0, Value.int IntKind.i64 1440,
    Value.int IntKind.i64 1440] 103) → ∀ (w3 : World), RowKit.Below w.heap.size w w3 → Kept [m1] w2 w3 → ∀ (m3 : Nat) (w4 : World), m3 = w3.heap.size → w4 = w3.alloc (Obj.cells
    #[Value.slice none 0 0, Value.slice none 0 0, Value.slice none 0 0, Value.int IntKind.i64 0, Value.int IntKind.i64 0] 40) → ∀ (w5 : World), RowKit.Below w.heap.size w w5 → Kept
    [m1] w4 w5 → RunsTo Tryz.prog ((Instr.storeAt 40 (Value.pointer (some { block := m3, off := 0 })) (Value.agg #[Value.slice none 0 0, Value.slice none 0 0, Value.slice (some
    { block := m2, off := 0 }) 1 1, Value.int IntKind.i64 1, Value.int IntKind.i64 0])) >>= fun _ => pure (Value.tuple #[])) w5 fun (v1 : Value) (w6 : World) => KeepX true
    w.heap.size [m1] (fun _ => False) w5 w6 ∧ ∃ (F1 : List Lf → World → Prop), ∃ (F2 : List Lf → Nat), (∀ (w8 : World), RowKit.Below w.heap.size w w8 → Kept [m1] w6 w8 → F1 [Lf.int
    IntKind.i64 0] w8) ∧ ∀ (x1 : Int) (w9 : World), RowKit.Below w.heap.size w w9 → F1 [Lf.int IntKind.i64 x1] w9 → (x1 ≤ (↑goesn : Int) → (-9223372036854775808 ≤ (↑goesn : Int) +
    1 ∧ (↑goesn : Int) + (1 : Int) ≤ 9223372036854775807) ∧ ∀ (w10 : World), RowKit.Below w.heap.size w w10 → KeptIn [(0, w9.heap.size)] [m1] w9 w10 → RunsTo Tryz.prog
    (Instr.makeSlice 32 (Value.int IntKind.i64 ((↑goesn : Int) + 1)) (Value.int IntKind.i64 ((↑goesn : Int) + 1))) w10 fun (v2 : Value) (w11 : World) => ∃ (a1 : Option Addr), ∃ (m5
    : Nat), ∃ (m6 : Nat), v2 = Value.slice a1 m5 m6 ∧ RowKit.Below w10.heap.size w10 w11 ∧ ∃ (a2 : Option Addr), ∃ (m7 : Nat), ∃ (m8 : Nat), w9.cell? { block := m3, off := 0 + 1 }
    = some (Value.slice a2 m7 m8) ∧ (m3 < w.heap.size ∨ m3 ≠ m1) ∧ ∀ (m9 : Nat), w9.heap.size ≤ m9 → m9 < w10.heap.size ∨ w11.heap.size ≤ m9 → ∀ (w12 : World), RowKit.Below
    w.heap.size w w12 → KeptIn [(0, w9.heap.size), (w10.heap.size, w11.heap.size)] [m9, m1] w11 w12 → w12.heap[m9]? = some (Obj.cells #[Value.slice a1 m5 m6] 32) → RunsTo Tryz.prog
    (Builtin.append_ #[37, 37] 37 #[Value.slice a2 m7 m8, Value.slice (some { block := m9, off := 0 }) 1 1]) w12 fun (v3 : Value) (w13 : World) => ∃ (a3 : Option Addr), ∃ (m11 :
    Nat), ∃ (m12 : Nat), v3 = Value.slice a3 m11 m12 ∧ KeepX true w.heap.size [m9, m1] (fun _ => False) w12 w13 ∧ ∀ (w14 : World), RowKit.Below w.heap.size w w14 → KeptIn [(0,
    w13.heap.size)] [m9, m1] w13 w14 → RunsTo Tryz.prog ((Instr.storeAt 37 (Value.pointer (some { block := m3, off := 0 + 1 })) (Value.slice a3 m11 m12)) >>= fun _ => pure
    (Value.tuple #[])) w14 fun (v4 : Value) (w15 : World) => KeepX true w.heap.size [m9, m1] (fun _ => False) w14 w15 ∧ (x1 < (↑goesn : Int) → ∃ (a4 : Option Addr), ∃ (m15 : Nat),
    ∃ (m16 : Nat), w15.cell? { block := m3, off := 0 + 0 } = some (Value.slice a4 m15 m16) ∧ (m3 < w.heap.size ∨ m3 ≠ m9 ∧ m3 ≠ m1) ∧ ∃ (m17 : Nat), ∃ (m18 : Nat), goesa = some
    { block := m17, off := m18 } ∧ (0 ≤ x1 ∧ x1 < (↑goesn : Int)) ∧ ∃ (x2 : Int), w15.cell? { block := m17, off := m18 + x1.toNat * 1 } = some (Value.int IntKind.i64 x2) ∧ (m17 <
    w.heap.size ∨ m17 ≠ m9 ∧ m17 ≠ m1) ∧ ∀ (m19 : Nat), w15.heap.size ≤ m19 → ∀ (w16 : World), RowKit.Below w.heap.size w w16 → KeptIn [(0, w15.heap.size)] [m19, m9, m1] w15 w16 →
    w16.heap[m19]? = some (Obj.cells #[Value.int IntKind.i64 0, Value.int IntKind.i64 0, Value.int IntKind.u16 0, Value.int IntKind.i64 0, Value.int IntKind.i64 x2] 105) → RunsTo
    Tryz.prog (Builtin.append_ #[36, 36] 36 #[Value.slice a4 m15 m16, Value.slice (some { block := m19, off := 0 }) 1 1]) w16 fun (v5 : Value) (w17 : World) => ∃ (a5 : Option
    Addr), ∃ (m21 : Nat), ∃ (m22 : Nat), v5 = Value.slice a5 m21 m22 ∧ KeepX true w.heap.size [m19, m9, m1] (fun _ => False) w16 w17 ∧ ∀ (w18 : World), RowKit.Below w.heap.size w
    w18 → KeptIn [(0, w17.heap.size)] [m19, m9, m1] w17 w18 → RunsTo Tryz.prog ((Instr.storeAt 36 (Value.pointer (some { block := m3, off := 0 + 0 })) (Value.slice a5 m21 m22)) >>=
    fun _ => pure (Value.tuple #[])) w18 fun (v6 : Value) (w19 : World) => KeepX true w.heap.size [m19, m9, m1] (fun _ => False) w18 w19 ∧ (-9223372036854775808 ≤ x1 + 1 ∧ x1 + (1
    : Int) ≤ 9223372036854775807) ∧ ∀ (w20 : World), RowKit.Below w.heap.size w w20 → Kept [m19, m9, m1] w19 w20 → F1 [Lf.int IntKind.i64 (x1 + 1)] w20 ∧ F2 [Lf.int IntKind.i64 (x1
    + 1)] < F2 [Lf.int IntKind.i64 x1]) ∧ ((↑goesn : Int) ≤ x1 → (-9223372036854775808 ≤ x1 + 1 ∧ x1 + (1 : Int) ≤ 9223372036854775807) ∧ ∀ (w21 : World), RowKit.Below w.heap.size
    w w21 → Kept [m9, m1] w15 w21 → F1 [Lf.int IntKind.i64 (x1 + 1)] w21 ∧ F2 [Lf.int IntKind.i64 (x1 + 1)] < F2 [Lf.int IntKind.i64 x1])) ∧ ((↑goesn : Int) < x1 → ∃ (a6 : Option
    Addr), ∃ (m25 : Nat), ∃ (m26 : Nat), ∃ (a7 : Option Addr), ∃ (m27 : Nat), ∃ (m28 : Nat), ∃ (a8 : Option Addr), ∃ (m29 : Nat), ∃ (m30 : Nat), ∃ (x3 : Int), ∃ (x4 : Int),
    w9.cell? { block := m3, off := 0 } = some (Value.slice a6 m25 m26) ∧ w9.cell? { block := m3, off := 0 + 1 } = some (Value.slice a7 m27 m28) ∧ w9.cell?
    { block := m3, off := 0 + 1 + 1 } = some (Value.slice a8 m29 m30) ∧ w9.cell? { block := m3, off := 0 + 1 + 1 + 1 } = some (Value.int IntKind.i64 x3) ∧ w9.cell?
    { block := m3, off := 0 + 1 + 1 + 1 + 1 } = some (Value.int IntKind.i64 x4) ∧ (m3 < w.heap.size ∨ m3 ≠ m1) ∧ ∀ (w22 : World), RowKit.Below w.heap.size w w22 → Kept [m1] w9 w22
    → R (Ending.returned (Value.agg #[Value.slice a6 m25 m26, Value.slice a7 m27 m28, Value.slice a8 m29 m30, Value.int IntKind.i64 x3, Value.int IntKind.i64 x4])) w22)) : Calls
    Tryz.prog 8 #[Value.slice goesa goesn goesc] w R := calls_of_vc (pure := true) (wrapAt := []) (muts := []) (esc := [3, 6]) (args := [SV.pv (PV.one (Lf.sl goesa goesn goesc))])
    (vs := [Value.slice goesa goesn goesc]) Tryz.func8 rfl rfl rfl (Eq.mp (by kernel_rfl) h) 
end Go.Proofs
end
section
/- The rules of one tower that goes so many days. -/
namespace Go.Proofs.RT
open Go.Vc Go.RowKit Go.Proofs
section
variable {w w' : World}
theorem row_ne {e : TypeId} {size B : Nat} {ns : List Nat} {a : Option Addr} {n c : Nat} {xs : List Value} (R : Row e size B ns a n c xs w) {b : Nat} {cs : Array Value} {t : TypeId} {z : Nat × Nat} (h : w.heap[b]? = some (.cells cs t z)) (ht : t ≠ e) : ∀ o, a ≠ some ⟨b, o, none⟩ := fun o ha => by
  obtain ⟨cs', hc⟩ := R.type ha
  rw [h] at hc
  injection hc with hc
  injection hc with _ h2 _
  exact ht h2
theorem append_same {P : Program} {e t ty : TypeId} {size B bytes : Nat} {a : Option Addr} {n c : Nat} {xs : List Value} (hE : elemB P t e size bytes = true) (hsz : 0 < size) (h : Row e size B [] a n c xs w) {b o m cc : Nat} {news : List Value} (hc : Cells w (some ⟨b, o, none⟩) news)
    (hl : news.length = m * size) (h1 : ∀ u ∈ news, u.oneCell' = true) (hn1 : n + m ≤ 140737488355328) (hn : (n + m) * bytes ≤ 140737488355328) (hB : B ≤ w.heap.size) {R : Value → World → Prop}
    (hR : ∀ a' c' w', Row e size B [] a' (n + m) c' (xs ++ news) w' → (∀ b, b < w.heap.size → (∀ o, a ≠ some ⟨b, o, none⟩) → w'.heap[b]? = w.heap[b]?) → (∀ b o, a' = some ⟨b, o, none⟩ → w.heap.size ≤ b ∨ ∃ o, a = some ⟨b, o, none⟩) → ∀ S, Chg S w w' → (∀ s ∈ S, B ≤ s ∧ (w.heap.size ≤ s ∨ ∃ o, a = some ⟨s, o, none⟩)) → R (.slice a' (n + m) c') w') :
    RunsTo P (Builtin.append_ #[t, t] ty #[.slice a n c, .slice (some ⟨b, o, none⟩) m cc]) w R := by
  classical
  have hG : RowG e size B (fun b => b < w.heap.size ∧ ∀ o, a ≠ some ⟨b, o, none⟩) a n c xs w := ⟨h, fun b o ha hb => hb.2 o ha⟩
  have out : ∀ b, ¬ (b < w.heap.size ∧ ∀ o, a ≠ some ⟨b, o, none⟩) → w.heap.size ≤ b ∨ ∃ o, a = some ⟨b, o, none⟩ := fun b hn => by
    by_cases h1 : b < w.heap.size
    · refine .inr ?_
      by_cases h2 : ∃ o, a = some ⟨b, o, none⟩
      · exact h2
      · exact absurd ⟨h1, fun o ho => h2 ⟨o, ho⟩⟩ hn
    · exact .inl (by omega)
  exact hG.append hE hsz hc hl h1 hn1 hn hB (fun b hb => hb.1) fun a' c' w' hr S hS hs => hR a' c' w' hr.row (fun b hb hn => hS.keep b hb fun hm => (hs b hm).2 ⟨hb, hn⟩) (fun b o ha => out b (hr.av b o ha)) S hS fun s hm => ⟨(hs s hm).1, out s (hs s hm).2⟩
theorem mk_ints {n : Int} {R : Value → World → Prop} (h0 : 0 ≤ n) (h1 : n ≤ 1000000) (hR : ∀ w', Below w.heap.size w w' → w'.heap[w.heap.size]? = some (.cells (ints (List.replicate n.toNat 0)).toArray 3 (0, 0)) → R (.slice (some ⟨w.heap.size, 0, none⟩) n.toNat n.toNat) w') : RunsTo Tryz.prog (Instr.makeSlice 32 (I n) (I n)) w R := by
  obtain ⟨i, hi⟩ : ∃ i, Tryz.prog.info? 3 = some i := Option.isSome_iff_exists.1 (by kernel_rfl)
  have hz : (Tryz.prog.info? 3).map (fun i => (i.zero, i.size, i.bytes)) = some (some (I 0), 1, 8) := by kernel_rfl
  rw [hi] at hz
  simp only [Option.map_some, Option.some.injEq, Prod.mk.injEq] at hz
  have hr := run_make (P := Tryz.prog) w 32 3 i (I 0) (by kernel_rfl) hi hz.1 .i64 .i64 n n h0 (Int.le_refl _) (by rw [hz.2.2]; omega) (by omega)
  refine ⟨_, _, hr, hR _ ?_ ?_⟩
  · exact (Below.refl _ _).alloc (Nat.le_refl _) _
  · rw [hz.2.1]
    have e : madeCells (I 0).cells (n.toNat * 1) = (ints (List.replicate n.toNat 0)).toArray := by
      apply Array.ext
      · simp [madeCells, ints]
      · intro j h1 h2
        simp [madeCells, ints, Value.cells, Nat.mod_one]
    rw [e]
    exact World.alloc_heap_new w _
theorem alloc_size (w : World) (o : Obj) : (w.alloc o).heap.size = w.heap.size + 1 := by
  show (w.heap.push _).size = _
  exact Array.size_push _
abbrev Tg (g : Int) : Tw := (0, 0, 0, 0, g)
/-- A row of ways that lies in memory. -/
def WayIn (m3 : Nat) (s : Sl) (w : World) : Prop := s.2.1 = 2 ∧ ∃ b, s.1 = some ⟨b, 0, none⟩ ∧ m3 < b ∧ w.heap[b]? = some (.cells #[I 0, I 0] 3 (0, 0))
/-- The rules on the way: what the rules' variable holds (vT, vW), and the rows of towers and ways. -/
structure GoX (m2 m3 : Nat) (g : Int) (vT vW : Value) (kT : Nat) (aT : Option Addr) (cT kW : Nat) (aW : Option Addr) (cW : Nat) (S : List Sl) (w : World) : Prop where
  lt : m2 < m3
  h2 : w.heap[m2]? = some (.cells #[.int .u16 0, I 0, I 1440, I 1440] 103 (0, 0))
  h3 : w.heap[m3]? = some (.cells #[vT, vW, .slice (some ⟨m2, 0, none⟩) 1 1, I 1, I 0] 40 (0, 0))
  T : Row 105 5 (m3 + 1) [] aT kT cT ((List.replicate kT (Tg g)).flatMap twC) w
  W : Row 32 1 (m3 + 1) [] aW kW cW (S.map slV) w
  n : S.length = kW
  s : ∀ s ∈ S, WayIn m3 s w
variable {m2 m3 : Nat} {g : Int} {vT vW : Value} {kT kW cT cW : Nat} {aT aW : Option Addr} {S : List Sl}
theorem GoX.same (h : GoX m2 m3 g vT vW kT aT cT kW aW cW S w) (hs : ∀ b, m2 ≤ b → b < w.heap.size → w'.heap[b]? = w.heap[b]?) : GoX m2 m3 g vT vW kT aT cT kW aW cW S w' where
  lt := h.lt
  h2 := by rw [hs m2 (Nat.le_refl _) (lt_of_some h.h2)]; exact h.h2
  h3 := by rw [hs m3 (Nat.le_of_lt h.lt) (lt_of_some h.h3)]; exact h.h3
  T := h.T.of fun b o ha => hs b (by have := (h.T.lt b o ha).1; have := h.lt; omega) (h.T.lt b o ha).2
  W := h.W.of fun b o ha => hs b (by have := (h.W.lt b o ha).1; have := h.lt; omega) (h.W.lt b o ha).2
  n := h.n
  s := fun s hm => by
    obtain ⟨h1, b, h2, h3, h4⟩ := h.s s hm
    exact ⟨h1, b, h2, h3, by rw [hs b (by have := h.lt; omega) (lt_of_some h4)]; exact h4⟩
theorem GoX.kept (h : GoX m2 m3 g vT vW kT aT cT kW aW cW S w) {bs : List Nat} (hk : Chg bs w w') (hb : ∀ y ∈ bs, y < m2 ∨ w.heap.size ≤ y) : GoX m2 m3 g vT vW kT aT cT kW aW cW S w' :=
  h.same fun b h1 h2 => hk.keep b h2 fun hm => by have := hb b hm; omega
theorem GoX.kept2 (h : GoX m2 m3 g vT vW kT aT cT kW aW cW S w) {bs : List Nat} (hk : Chg bs w w') (hb : ∀ y ∈ bs, y < m2 ∨ w.heap.size ≤ y ∨ y ≠ m2 ∧ y ≠ m3 ∧ (∀ o, aT ≠ some ⟨y, o, none⟩) ∧ (∀ o, aW ≠ some ⟨y, o, none⟩) ∧ ∀ s ∈ S, ∀ o, s.1 ≠ some ⟨y, o, none⟩) : GoX m2 m3 g vT vW kT aT cT kW aW cW S w' := by
  have hl := h.lt
  refine ⟨h.lt, ?_, ?_, h.T.of fun b o ha => hk.keep b (h.T.lt b o ha).2 fun hm => ?_, h.W.of fun b o ha => hk.keep b (h.W.lt b o ha).2 fun hm => ?_, h.n, fun x hx => ?_⟩
  · rw [hk.keep m2 (lt_of_some h.h2) fun hm => ?_]
    · exact h.h2
    · have := lt_of_some h.h2
      rcases hb _ hm with h1 | h1 | h1
      · omega
      · omega
      · exact h1.1 rfl
  · rw [hk.keep m3 (lt_of_some h.h3) fun hm => ?_]
    · exact h.h3
    · have := lt_of_some h.h3
      rcases hb _ hm with h1 | h1 | h1
      · omega
      · omega
      · exact h1.2.1 rfl
  · have := h.T.lt b o ha
    rcases hb _ hm with h1 | h1 | h1
    · omega
    · omega
    · exact h1.2.2.1 o ha
  · have := h.W.lt b o ha
    rcases hb _ hm with h1 | h1 | h1
    · omega
    · omega
    · exact h1.2.2.2.1 o ha
  · obtain ⟨h1, b, h2, h3, h4⟩ := h.s x hx
    refine ⟨h1, b, h2, h3, ?_⟩
    rw [hk.keep b (lt_of_some h4) fun hm => ?_]
    · exact h4
    · have := lt_of_some h4
      rcases hb _ hm with h5 | h5 | h5
      · omega
      · omega
      · exact h5.2.2.2.2 x hx 0 h2
theorem GoX.lt3 (h : GoX m2 m3 g vT vW kT aT cT kW aW cW S w) : m3 < w.heap.size := lt_of_some h.h3
theorem GoX.appW (h : GoX m2 m3 g vT vW kT aT cT kW aW cW S w) (hk : kW ≤ 100) {s : Sl} (hs : WayIn m3 s w) {m cc : Nat} (hm : w.heap[m]? = some (.cells #[slV s] 32 (0, 0))) {R : Value → World → Prop}
    (hR : ∀ a' c' w', GoX m2 m3 g vT vW kT aT cT (kW + 1) a' c' (S ++ [s]) w' → (∀ b o, a' = some ⟨b, o, none⟩ → w.heap.size ≤ b ∨ ∃ o, aW = some ⟨b, o, none⟩) → ∀ Z, Chg Z w w' → (∀ z ∈ Z, m3 + 1 ≤ z ∧ (w.heap.size ≤ z ∨ ∃ o, aW = some ⟨z, o, none⟩)) → R (.slice a' (kW + 1) c') w') :
    RunsTo Tryz.prog (Builtin.append_ #[37, 37] 37 #[.slice aW kW cW, .slice (some ⟨m, 0, none⟩) 1 cc]) w R := by
  have hl := h.lt3
  refine append_same (P := Tryz.prog) (bytes := 24) (by kernel_rfl) (by omega) h.W (m := 1) (news := [slV s]) (Cells.obj (vs := [slV s]) hm) rfl (List.forall_mem_cons.2 ⟨rfl, by simp⟩) (by omega) (by omega) (by omega) fun a' c' w' hr same out Z hZ hz => hR a' c' w' ?_ out Z hZ hz
  refine ⟨h.lt, ?_, ?_, ?_, ?_, by simp [h.n], ?_⟩
  · rw [same m2 (lt_of_some h.h2) (row_ne h.W h.h2 (by decide))]; exact h.h2
  · rw [same m3 hl (row_ne h.W h.h3 (by decide))]; exact h.h3
  · refine h.T.of fun b o ha => ?_
    obtain ⟨cs, hcs⟩ := h.T.type ha
    exact same b (h.T.lt b o ha).2 (row_ne h.W hcs (by decide))
  · rw [List.map_append]; exact hr
  · intro x hx
    rcases List.mem_append.1 hx with hx | hx
    · obtain ⟨h1, b, h2, h3, h4⟩ := h.s x hx
      exact ⟨h1, b, h2, h3, by rw [same b (lt_of_some h4) (row_ne h.W h4 (by decide))]; exact h4⟩
    · have : x = s := by simpa using hx
      subst this
      obtain ⟨h1, b, h2, h3, h4⟩ := hs
      exact ⟨h1, b, h2, h3, by rw [same b (lt_of_some h4) (row_ne h.W h4 (by decide))]; exact h4⟩
theorem GoX.appT (h : GoX m2 m3 g vT vW kT aT cT kW aW cW S w) (hk : kT ≤ 100) {m cc : Nat} (hm : w.heap[m]? = some (.cells #[I 0, I 0, .int .u16 0, I 0, I g] 105 (0, 0))) {R : Value → World → Prop}
    (hR : ∀ a' c' w', GoX m2 m3 g vT vW (kT + 1) a' c' kW aW cW S w' → (∀ b o, a' = some ⟨b, o, none⟩ → w.heap.size ≤ b ∨ ∃ o, aT = some ⟨b, o, none⟩) → ∀ Z, Chg Z w w' → (∀ z ∈ Z, m3 + 1 ≤ z ∧ (w.heap.size ≤ z ∨ ∃ o, aT = some ⟨z, o, none⟩)) → R (.slice a' (kT + 1) c') w') :
    RunsTo Tryz.prog (Builtin.append_ #[36, 36] 36 #[.slice aT kT cT, .slice (some ⟨m, 0, none⟩) 1 cc]) w R := by
  have hl := h.lt3
  refine append_same (P := Tryz.prog) (bytes := 40) (by kernel_rfl) (by omega) h.T (m := 1) (news := twC (Tg g)) (Cells.obj (vs := [_, _, _, _, _]) hm) rfl (by intro u hu; simp at hu; rcases hu with rfl | rfl | rfl | rfl <;> rfl) (by omega) (by omega) (by omega) fun a' c' w' hr same out Z hZ hz => hR a' c' w' ?_ out Z hZ hz
  refine ⟨h.lt, ?_, ?_, ?_, ?_, h.n, ?_⟩
  · rw [same m2 (lt_of_some h.h2) (row_ne h.T h.h2 (by decide))]; exact h.h2
  · rw [same m3 hl (row_ne h.T h.h3 (by decide))]; exact h.h3
  · rw [List.replicate_succ', List.flatMap_append]; simpa using hr
  · refine h.W.of fun b o ha => ?_
    obtain ⟨cs, hcs⟩ := h.W.type ha
    exact same b (h.W.lt b o ha).2 (row_ne h.T hcs (by decide))
  · intro x hx
    obtain ⟨h1, b, h2, h3, h4⟩ := h.s x hx
    exact ⟨h1, b, h2, h3, by rw [same b (lt_of_some h4) (row_ne h.T h4 (by decide))]; exact h4⟩
theorem GoX.st (h : GoX m2 m3 g vT vW kT aT cT kW aW cW S w) {vT' vW' : Value} (c : Chg [m3] w w') (hh : w'.heap[m3]? = some (.cells #[vT', vW', .slice (some ⟨m2, 0, none⟩) 1 1, I 1, I 0] 40 (0, 0))) : GoX m2 m3 g vT' vW' kT aT cT kW aW cW S w' := by
  have hl := h.lt
  have K : ∀ b, b < w.heap.size → b ≠ m3 → w'.heap[b]? = w.heap[b]? := fun b h1 h2 => c.keep b h1 (by simpa using h2)
  refine ⟨h.lt, by rw [K m2 (lt_of_some h.h2) (by omega)]; exact h.h2, hh, h.T.of fun b o ha => K b (h.T.lt b o ha).2 (by have := (h.T.lt b o ha).1; omega), h.W.of fun b o ha => K b (h.W.lt b o ha).2 (by have := (h.W.lt b o ha).1; omega), h.n, fun x hx => ?_⟩
  obtain ⟨h1, b, h2, h3, h4⟩ := h.s x hx
  exact ⟨h1, b, h2, h3, by rw [K b (lt_of_some h4) (by omega)]; exact h4⟩
theorem GoX.stW (h : GoX m2 m3 g vT vW kT aT cT kW aW cW S w) {a : Option Addr} {n c : Nat} {R : Value → World → Prop} (hR : ∀ w', GoX m2 m3 g vT (.slice a n c) kT aT cT kW aW cW S w' → Chg [m3] w w' → R (.tuple #[]) w') :
    RunsTo Tryz.prog ((Instr.storeAt 37 (.pointer (some ⟨m3, 0 + 1, none⟩)) (.slice a n c)) >>= fun _ => pure (Value.tuple #[])) w R :=
  obj_store (cs := [vT, vW, .slice (some ⟨m2, 0, none⟩) 1 1, I 1, I 0]) (vs := [.slice a n c]) h.h3 (by kernel_rfl) (by kernel_rfl) (by simp) rfl (by simp; trivial) fun w' hh c => hR w' (h.st c (by rw [hh]; rfl)) c
theorem GoX.stT (h : GoX m2 m3 g vT vW kT aT cT kW aW cW S w) {a : Option Addr} {n c : Nat} {R : Value → World → Prop} (hR : ∀ w', GoX m2 m3 g (.slice a n c) vW kT aT cT kW aW cW S w' → Chg [m3] w w' → R (.tuple #[]) w') :
    RunsTo Tryz.prog ((Instr.storeAt 36 (.pointer (some ⟨m3, 0 + 0, none⟩)) (.slice a n c)) >>= fun _ => pure (Value.tuple #[])) w R :=
  obj_store (cs := [vT, vW, .slice (some ⟨m2, 0, none⟩) 1 1, I 1, I 0]) (vs := [.slice a n c]) h.h3 (by kernel_rfl) (by kernel_rfl) (by simp) rfl (by simp; trivial) fun w' hh c => hR w' (h.st c (by rw [hh]; rfl)) c
abbrev oneR (g : Int) : Ru := ⟨[(0, 0, 0, 0, g)], [[0, 0], [0, 0]], [(0, 0, 1440, 1440)], 1, 0⟩
theorem oneR_ok {g : Int} (hg : 1 ≤ g ∧ g ≤ 30) : RuOk (oneR g) where
  t := by simp
  w := rfl
  v := by simp
  row := fun i hi => by
    have : i = 0 ∨ i = 1 := by simp at hi; omega
    rcases this with rfl | rfl <;> exact ⟨rfl, by simp, rfl⟩
  tw := fun t ht => by
    have : t = (0, 0, 0, 0, g) := by simpa using ht
    subst this
    exact ⟨by show (0 : Int) ≤ 0 ∧ (0 : Int) ≤ 120; omega, by show (0 : Int) ≤ 0 ∧ (0 : Int) ≤ 120; omega, by show (0 : Int) ≤ 0 ∧ (0 : Int) ≤ 1000; omega, hg⟩
  wn := fun t ht => by
    have : t = (0, 0, 1440, 1440) := by simpa using ht
    subst this
    exact ⟨by decide, by decide, by decide⟩
  rest := by show (1 : Int) ≤ 1 ∧ (1 : Int) ≤ 1440; omega
  wage := by show (0 : Int) ≤ 0 ∧ (0 : Int) ≤ 1000; omega
def PostRu (r : Ru) (w : World) (e : Ending) (w' : World) : Prop := ∃ ra rc wa wc va vc S, e = .returned (ruV r ra rc wa wc va vc) ∧ Below w.heap.size w w' ∧ ∀ W : World, (∀ k, w.heap.size ≤ k → k < w'.heap.size → W.heap[k]? = w'.heap[k]?) → RuIn r ra wa va S W
theorem GoX.rules (h : GoX m2 m3 g vT vW 1 aT cT 2 aW cW S w) : RuIn (oneR g) aT aW (some ⟨m2, 0, none⟩) S w where
  t := by simpa using h.T.cells
  v := Cells.obj (vs := [.int .u16 0, I 0, I 1440, I 1440]) h.h2
  n := h.n
  s := h.W.cells
  row := fun i hi hi' => by
    obtain ⟨h1, b, h2, _, h4⟩ := h.s _ (List.getElem_mem hi)
    have e : (oneR g).W[i] = [0, 0] := by
      have : i = 0 ∨ i = 1 := by simp at hi'; omega
      rcases this with rfl | rfl <;> rfl
    rw [e, h1, h2]
    exact ⟨rfl, Cells.obj (vs := [I 0, I 0]) h4⟩
set_option maxRecDepth 100000 in
set_option maxHeartbeats 1000000 in
theorem pubGoing_one {g : Int} {a : Option Addr} {c : Nat} (hc : Cells w a (ints [g])) : Calls Tryz.prog 8 #[.slice a 1 c] w (PostRu (oneR g) w) := by
  refine vc8 _ _ _ w _ fun m1 g1 w1 hb1 hk1 m2 w2 e2 ew2 w3 hb3 hk3 m3 w4 e3 ew4 w5 hb5 hk5 => ?_
  have o1 := hk1.own m1 (by simp)
  have s1 := hb1.size; have s3 := hk3.size; have s5 := hk5.size
  have z2 : w2.heap.size = w1.heap.size + 1 := by rw [ew2, alloc_size]
  have z4 : w4.heap.size = w3.heap.size + 1 := by rw [ew4, alloc_size]
  have h2 : w2.heap[m2]? = some (.cells #[.int .u16 0, I 0, I 1440, I 1440] 103 (0, 0)) := by rw [e2, ew2]; exact World.alloc_heap_new w1 _
  have h23 : w3.heap[m2]? = some (.cells #[.int .u16 0, I 0, I 1440, I 1440] 103 (0, 0)) := by rw [hk3.block m2 (by omega) (by simp; omega)]; exact h2
  have h24 : w4.heap[m2]? = some (.cells #[.int .u16 0, I 0, I 1440, I 1440] 103 (0, 0)) := by rw [ew4, Below.heap_alloc _ _ _ (by omega)]; exact h23
  have h3 : w4.heap[m3]? = some (.cells #[.slice none 0 0, .slice none 0 0, .slice none 0 0, I 0, I 0] 40 (0, 0)) := by rw [e3, ew4]; exact World.alloc_heap_new w3 _
  clear ew2 ew4
  have h25 : w5.heap[m2]? = some (.cells #[.int .u16 0, I 0, I 1440, I 1440] 103 (0, 0)) := by rw [hk5.block m2 (by omega) (by simp; omega)]; exact h24
  have h35 : w5.heap[m3]? = some (.cells #[.slice none 0 0, .slice none 0 0, .slice none 0 0, I 0, I 0] 40 (0, 0)) := by rw [hk5.block m3 (by omega) (by simp; omega)]; exact h3
  refine obj_store (cs := [.slice none 0 0, .slice none 0 0, .slice none 0 0, I 0, I 0]) (vs := [.slice none 0 0, .slice none 0 0, .slice (some ⟨m2, 0, none⟩) 1 1, I 1, I 0]) h35 (by kernel_rfl) (by kernel_rfl) (by simp) rfl (by simp; trivial) fun w6 hh6 c6 => ?_
  have s6 := c6.size
  have H6 : GoX m2 m3 g (.slice none 0 0) (.slice none 0 0) 0 none 0 0 none 0 [] w6 := ⟨by omega, by rw [c6.keep m2 (by omega) (by simp; omega)]; exact h25, by rw [hh6]; rfl, Row.nil, Row.nil, rfl, by simp⟩
  clear hh6 h25 h35 h3 h24 h23 h2
  refine ⟨c6.own (by simp; omega) (by simp) (fun _ => ⟨by omega, by simp; omega⟩), fun ls w' => match ls with | [.int _ x] => (0 ≤ x ∧ x ≤ 2) ∧ ∃ aT cT aW cW S, GoX m2 m3 g (.slice aT (min x.toNat 1) cT) (.slice aW x.toNat cW) (min x.toNat 1) aT cT x.toNat aW cW S w' | _ => False, fun ls => match ls with | [.int _ x] => (2 - x).toNat | _ => 0, fun w8 _ hk8 => ⟨by omega, _, _, _, _, _, H6.kept (Chg.kept hk8) (by simp; omega)⟩, ?_⟩
  rintro x1 w9 hb9 ⟨hx, aT, cT, aW, cW, S, H9⟩
  have l3 := H9.lt3
  refine ⟨fun hlt => ⟨by omega, fun w10 hb10 hk10 => ?_⟩, fun hge => ?_⟩
  rotate_left
  · have e : x1 = 2 := by omega
    subst e
    refine ⟨_, _, _, _, _, _, _, _, _, _, _, cell_obj (vs := [_, _, _, _, _]) H9.h3 rfl, cell_obj (vs := [_, _, _, _, _]) H9.h3 rfl, cell_obj (vs := [_, _, _, _, _]) H9.h3 rfl, cell_obj (vs := [_, _, _, _, _]) H9.h3 rfl, cell_obj (vs := [_, _, _, _, _]) H9.h3 rfl, .inr (by omega), fun w22 hb22 hk22 => ?_⟩
    have H22 := H9.kept (Chg.kept hk22) (by simp; omega)
    exact ⟨aT, cT, aW, cW, _, 1, S, rfl, hb22, fun W hW => (H22.same (w' := W) fun b h1 h2 => hW b (by omega) h2).rules⟩
  have s10 := hk10.size
  have hx1 : x1 ≤ 1 := hlt
  refine mk_ints (by omega) (by omega) fun w11 hb11 hh11 => ⟨_, _, _, rfl, hb11, _, _, _, cell_obj (vs := [_, _, _, _, _]) H9.h3 rfl, .inr (by omega), fun m9 g9 g9' w12 hb12 hk12 hc12 => ?_⟩
  have s11 := hb11.size; have s12 := hk12.size; have l11 := lt_of_some hh11
  have om1 := hk10.own m1 (by simp)
  have om9 := hk12.own m9 (by simp)
  have H12 := H9.same (w' := w12) fun b h1 h2 => by
    have hb1' : b ∉ [m9, m1] := by simp; omega
    rw [hk12.block b (by omega) hb1' ⟨_, List.mem_cons_self, Nat.zero_le _, h2⟩, hb11.block b (by omega), hk10.block b h2 (by simp; omega) ⟨_, List.mem_cons_self, Nat.zero_le _, h2⟩]
  have hN12 : WayIn m3 (some ⟨w10.heap.size, 0, none⟩, 2, 2) w12 := ⟨rfl, _, rfl, by omega, by
    rw [hk12.block w10.heap.size (by omega) (by simp; omega) ⟨_, List.mem_cons_of_mem _ List.mem_cons_self, Nat.le_refl _, by show w10.heap.size < w11.heap.size; omega⟩, hh11]
    rfl⟩
  have ltW : ∀ s o, aW = some ⟨s, o, none⟩ → s < w9.heap.size := fun s o h => (H9.W.lt s o h).2
  have ltT : ∀ s o, aT = some ⟨s, o, none⟩ → s < w9.heap.size := fun s o h => (H9.T.lt s o h).2
  have ltS : ∀ s ∈ S, ∀ y o, s.1 = some ⟨y, o, none⟩ → y < w9.heap.size := fun s hs y o h => by
    obtain ⟨_, b, hb, _, h4⟩ := H9.s s hs
    rw [hb] at h; cases h
    exact lt_of_some h4
  refine H12.appW (by omega) hN12 hc12 fun aW' cW' w13 H13 out13 Z13 c13 hZ13 => ?_
  have s13 := c13.size
  refine ⟨_, _, _, rfl, c13.own (fun y hy => ⟨hk12.own y hy, fun hm => ?_⟩) (by simp) (fun _ => ⟨by omega, fun s hs => by have := (hZ13 s hs).1; omega⟩), fun w14 hb14 hk14 => ?_⟩
  · have h1 := (hZ13 y hm).1
    have o := hk12.own y hy
    have hy' : y = m9 ∨ y = m1 := by simpa using hy
    rcases (hZ13 y hm).2 with h2 | ⟨o', h2⟩
    · omega
    · have := ltW y o' h2; omega
  have s14 := hk14.size
  have avS : ∀ s ∈ S ++ [((some ⟨w10.heap.size, 0, none⟩, 2, 2) : Sl)], ∀ o, s.1 ≠ some ⟨m9, o, none⟩ := fun s hs o e => by
    rcases List.mem_append.1 hs with hs | hs
    · have := ltS s hs m9 o e; omega
    · have hs : s = (some ⟨w10.heap.size, 0, none⟩, 2, 2) := by simpa using hs
      subst hs
      have e : (some ⟨w10.heap.size, 0, none⟩ : Option Addr) = some ⟨m9, o, none⟩ := e
      injection e with e
      injection e with e _
      omega
  have avW : ∀ o, aW' ≠ some ⟨m9, o, none⟩ := fun o e => by
    rcases out13 m9 o e with h | ⟨o', h⟩
    · omega
    · have := ltW m9 o' h; omega
  have avT : ∀ o, aT ≠ some ⟨m9, o, none⟩ := fun o e => by have := ltT m9 o e; omega
  have av9 : ∀ (w : World), ∀ y ∈ [m9, m1], y < m2 ∨ w.heap.size ≤ y ∨ y ≠ m2 ∧ y ≠ m3 ∧ (∀ o, aT ≠ some ⟨y, o, none⟩) ∧ (∀ o, aW' ≠ some ⟨y, o, none⟩) ∧ ∀ s ∈ S ++ [((some ⟨w10.heap.size, 0, none⟩, 2, 2) : Sl)], ∀ o, s.1 ≠ some ⟨y, o, none⟩ := fun w y hy => by
    have hy' : y = m9 ∨ y = m1 := by simpa using hy
    rcases hy' with rfl | rfl
    · exact .inr (.inr ⟨by omega, by omega, avT, avW, avS⟩)
    · exact .inl (by omega)
  have H14 := H13.kept2 hk14.chg (av9 w13)
  refine H14.stW fun w15 H15 c15 => ?_
  have s15 := c15.size
  refine ⟨c15.own (fun y hy => ⟨by have := hk14.own y hy; omega, by simp at hy ⊢; omega⟩) (by simp) (fun _ => ⟨by omega, by simp; omega⟩), fun hlt1 => ?_, fun hge1 => ⟨by omega, fun w21 hb21 hk21 => ?_⟩⟩
  rotate_left
  · have e : x1 = 1 := by omega
    subst e
    have H21 := H15.kept2 (Chg.kept hk21) (av9 w15)
    exact ⟨⟨by omega, _, _, _, _, _, H21⟩, by show (2 - ((1 : Int) + 1)).toNat < (2 - (1 : Int)).toNat; decide⟩
  have e : x1 = 0 := by omega
  subst e
  have l15 := H15.lt3
  have hb15 : Below w.heap.size w w15 := hb14.trans ⟨c15.os, c15.tape, c15.output, c15.size, fun k hk => c15.keep k (by omega) (by simp; omega)⟩
  obtain ⟨b0, o0, e0, hv0⟩ := hc 0 _ rfl
  have hb0 := cell_lt hv0
  refine ⟨_, _, _, cell_obj (vs := [_, _, _, _, _]) H15.h3 rfl, .inr (by omega), b0, o0, e0, by decide, _, cell_at' (cell_keep hb15 hv0) (by simp), .inl hb0, fun m19 g19 w16 hb16 hk16 hc16 => ?_⟩
  have s16 := hk16.size
  have av19 : ∀ (aT aW : Option Addr) (S : List Sl) (w : World), (∀ o, aT ≠ some ⟨m9, o, none⟩) → (∀ o, aW ≠ some ⟨m9, o, none⟩) → (∀ s ∈ S, ∀ o, s.1 ≠ some ⟨m9, o, none⟩) → (∀ o, aT ≠ some ⟨m19, o, none⟩) → (∀ o, aW ≠ some ⟨m19, o, none⟩) → (∀ s ∈ S, ∀ o, s.1 ≠ some ⟨m19, o, none⟩) → ∀ y ∈ [m19, m9, m1], y < m2 ∨ w.heap.size ≤ y ∨ y ≠ m2 ∧ y ≠ m3 ∧ (∀ o, aT ≠ some ⟨y, o, none⟩) ∧ (∀ o, aW ≠ some ⟨y, o, none⟩) ∧ ∀ s ∈ S, ∀ o, s.1 ≠ some ⟨y, o, none⟩ := fun aT aW S w p1 p2 p3 q1 q2 q3 y hy => by
    have hy' : y = m19 ∨ y = m9 ∨ y = m1 := by simpa using hy
    rcases hy' with rfl | rfl | rfl
    · exact .inr (.inr ⟨by omega, by omega, q1, q2, q3⟩)
    · exact .inr (.inr ⟨by omega, by omega, p1, p2, p3⟩)
    · exact .inl (by omega)
  have bvT : ∀ o, aT ≠ some ⟨m19, o, none⟩ := fun o e => by have := ltT m19 o e; omega
  have bvW : ∀ o, aW' ≠ some ⟨m19, o, none⟩ := fun o e => by have := (H15.W.lt m19 o e).2; omega
  have bvS : ∀ s ∈ S ++ [((some ⟨w10.heap.size, 0, none⟩, 2, 2) : Sl)], ∀ o, s.1 ≠ some ⟨m19, o, none⟩ := fun s hs o e => by
    obtain ⟨_, b, hb, _, h4⟩ := H15.s s hs
    rw [hb] at e
    injection e with e
    injection e with e _
    have := lt_of_some h4; omega
  have H16 := H15.kept2 hk16.chg (av19 aT aW' _ w15 avT avW avS bvT bvW bvS)
  refine H16.appT (by omega) hc16 fun aT' cT' w17 H17 out17 Z17 c17 hZ17 => ?_
  have s17 := c17.size
  refine ⟨_, _, _, rfl, c17.own (fun y hy => ⟨hk16.own y hy, fun hm => ?_⟩) (by simp) (fun _ => ⟨by omega, fun s hs => by have := (hZ17 s hs).1; omega⟩), fun w18 hb18 hk18 => ?_⟩
  · have h1 := (hZ17 y hm).1
    have o := hk16.own y hy
    have hy' : y = m19 ∨ y = m9 ∨ y = m1 := by simpa using hy
    rcases (hZ17 y hm).2 with h2 | ⟨o', h2⟩
    · omega
    · have := ltT y o' h2; omega
  have s18 := hk18.size
  have om16 := hk16.own m19 (by simp)
  have cvT : ∀ y, y < w16.heap.size → w9.heap.size ≤ y → ∀ o, aT' ≠ some ⟨y, o, none⟩ := fun y h1 h2 o e => by
    rcases out17 y o e with h | ⟨o', h⟩
    · omega
    · have := ltT y o' h; omega
  have av20 := fun w => av19 aT' aW' (S ++ [((some ⟨w10.heap.size, 0, none⟩, 2, 2) : Sl)]) w (cvT m9 (by omega) (by omega)) avW avS (cvT m19 (by omega) (by omega)) bvW bvS
  have H18 := H17.kept2 hk18.chg (av20 w17)
  refine H18.stT fun w19 H19 c19 => ?_
  refine ⟨c19.own (fun y hy => ⟨by have := hk18.own y hy; omega, by simp at hy ⊢; omega⟩) (by simp) (fun _ => ⟨by omega, by simp; omega⟩), by omega, fun w20 hb20 hk20 => ⟨⟨by omega, _, _, _, _, _, H19.kept2 (Chg.kept hk20) (av20 w19)⟩, by show (2 - ((0 : Int) + 1)).toNat < (2 - (0 : Int)).toNat; decide⟩⟩
end
end Go.Proofs.RT
end
section
/- The conditions of the functions, printed by program; each is what the generator reckons (kernel_rfl). -/
namespace Go.Proofs
open Go.Vc
set_option maxRecDepth 100000 in
set_option maxHeartbeats 2000000 in
theorem vc33 (r0a : Option Addr) (r0n : Nat) (r0c : Nat) (r1a : Option Addr) (r1n : Nat) (r1c : Nat) (r2a : Option Addr) (r2n : Nat) (r2c : Nat) (r3 : Int) (r4 : Int) (t0 : Int)
    (t1a : Option Addr) (t1n : Nat) (t1c : Nat) (w : World) (R : Ending → World → Prop) (h : ∀ (m1 : Nat), w.heap.size ≤ m1 → ∀ (m2 : Nat), w.heap.size ≤ m2 → ∀ (w1 : World),
    RowKit.Below w.heap.size w w1 → Kept [m2, m1] w w1 → Calls Tryz.prog 63 #[Value.agg #[Value.slice r0a r0n r0c, Value.slice r1a r1n r1c, Value.slice r2a r2n r2c, Value.int
    IntKind.i64 r3, Value.int IntKind.i64 r4]] w1 fun (e1 : Ending) (w2 : World) => ∃ (x1 : Int), e1 = Ending.returned (Value.int IntKind.i64 x1) ∧ KeepX true w.heap.size [m2, m1]
    (fun _ => False) w1 w2 ∧ (x1 ≠ 0 → ∀ (w3 : World), RowKit.Below w.heap.size w w3 → Kept [m2, m1] w2 w3 → R (Ending.returned (Value.tuple #[Value.int IntKind.i64 0, Value.int
    IntKind.i64 0, Value.int IntKind.i64 0, Value.int IntKind.i64 x1])) w3) ∧ (x1 = 0 → ∀ (w4 : World), RowKit.Below w.heap.size w w4 → Kept [m2, m1] w2 w4 → Calls Tryz.prog 72
    #[Value.agg #[Value.slice r0a r0n r0c, Value.slice r1a r1n r1c, Value.slice r2a r2n r2c, Value.int IntKind.i64 r3, Value.int IntKind.i64 r4], Value.int IntKind.i64 t0] w4 fun
    (e2 : Ending) (w5 : World) => ∃ (t1 : Bool), e2 = Ending.returned (Value.bool t1) ∧ KeepX true w.heap.size [m2, m1] (fun _ => False) w4 w5 ∧ ((!t1) = true → ∀ (w6 : World),
    RowKit.Below w.heap.size w w6 → Kept [m2, m1] w5 w6 → R (Ending.returned (Value.tuple #[Value.int IntKind.i64 0, Value.int IntKind.i64 0, Value.int IntKind.i64 0, Value.int
    IntKind.i64 7])) w6) ∧ ((!t1) = false → (40 < (↑t1n : Int) → ∀ (w7 : World), RowKit.Below w.heap.size w w7 → Kept [m2, m1] w5 w7 → R (Ending.returned (Value.tuple #[Value.int
    IntKind.i64 0, Value.int IntKind.i64 0, Value.int IntKind.i64 0, Value.int IntKind.i64 5])) w7) ∧ ((↑t1n : Int) ≤ 40 → ∀ (w8 : World), RowKit.Below w.heap.size w w8 → Kept [m2,
    m1] w5 w8 → Calls Tryz.prog 73 #[Value.agg #[Value.slice r0a r0n r0c, Value.slice r1a r1n r1c, Value.slice r2a r2n r2c, Value.int IntKind.i64 r3, Value.int IntKind.i64 r4],
    Value.int IntKind.i64 t0] w8 fun (e3 : Ending) (w9 : World) => ∃ (a1 : Option Addr), ∃ (m5 : Nat), ∃ (m6 : Nat), ∃ (a2 : Option Addr), ∃ (m7 : Nat), ∃ (m8 : Nat), ∃ (a3 :
    Option Addr), ∃ (m9 : Nat), ∃ (m10 : Nat), ∃ (x2 : Int), ∃ (x3 : Int), ∃ (x4 : Int), ∃ (x5 : Int), ∃ (x6 : Int), ∃ (x7 : Int), ∃ (x8 : Int), ∃ (x9 : Int), ∃ (x10 : Int), ∃ (x11
    : Int), ∃ (x12 : Int), e3 = Ending.returned (Value.agg #[Value.slice a1 m5 m6, Value.slice a2 m7 m8, Value.slice a3 m9 m10, Value.int IntKind.i64 x2, Value.int IntKind.i64 x3,
    Value.int IntKind.u16 x4, Value.int IntKind.i64 x5, Value.int IntKind.i64 x6, Value.int IntKind.i64 x7, Value.int IntKind.i64 x8, Value.int IntKind.i64 x9, Value.int
    IntKind.i64 x10, Value.int IntKind.i64 x11, Value.int IntKind.i64 x12]) ∧ KeepX true w.heap.size [m2, m1] (fun _ => False) w8 w9 ∧ ∀ (w10 : World), RowKit.Below w.heap.size w
    w10 → Kept [m2, m1] w9 w10 → ∀ (m12 : Nat) (w11 : World), m12 = w10.heap.size → w11 = w10.alloc (Obj.cells #[Value.slice none 0 0, Value.slice none 0 0, Value.slice none 0 0,
    Value.int IntKind.i64 0, Value.int IntKind.i64 0, Value.int IntKind.u16 0, Value.int IntKind.i64 0, Value.int IntKind.i64 0, Value.int IntKind.i64 0, Value.int IntKind.i64 0,
    Value.int IntKind.i64 0, Value.int IntKind.i64 0, Value.int IntKind.i64 0, Value.int IntKind.i64 0] 173) → ∀ (w12 : World), RowKit.Below w.heap.size w w12 → Kept [m2, m1] w11
    w12 → RunsTo Tryz.prog ((Instr.storeAt 173 (Value.pointer (some { block := m12, off := 0 })) (Value.agg #[Value.slice a1 m5 m6, Value.slice a2 m7 m8, Value.slice a3 m9 m10,
    Value.int IntKind.i64 x2, Value.int IntKind.i64 x3, Value.int IntKind.u16 x4, Value.int IntKind.i64 x5, Value.int IntKind.i64 x6, Value.int IntKind.i64 x7, Value.int
    IntKind.i64 x8, Value.int IntKind.i64 x9, Value.int IntKind.i64 x10, Value.int IntKind.i64 x11, Value.int IntKind.i64 x12])) >>= fun _ => pure (Value.tuple #[])) w12 fun (v1 :
    Value) (w13 : World) => KeepX true w.heap.size [m2, m1] (fun _ => False) w12 w13 ∧ ∃ (F1 : List Lf → World → Prop), ∃ (F2 : List Lf → Nat), (∀ (w15 : World), RowKit.Below
    w.heap.size w w15 → Kept [m2, m1] w13 w15 → F1 [Lf.int IntKind.i64 0, Lf.int IntKind.i64 0, Lf.int IntKind.i64 0, Lf.int IntKind.i64 0, Lf.int IntKind.i64 0] w15) ∧ ∀ (x13 x14
    x15 x16 x17 : Int) (w16 : World), RowKit.Below w.heap.size w w16 → F1 [Lf.int IntKind.i64 x13, Lf.int IntKind.i64 x14, Lf.int IntKind.i64 x15, Lf.int IntKind.i64 x16, Lf.int
    IntKind.i64 x17] w16 → (x17 < (↑t1n : Int) → ∃ (m14 : Nat), ∃ (m15 : Nat), t1a = some { block := m14, off := m15 } ∧ (0 ≤ x17 ∧ x17 < (↑t1n : Int)) ∧ ∃ (x18 : Int), w16.cell?
    { block := m14, off := m15 + x17.toNat * 1 } = some (Value.int IntKind.i64 x18) ∧ (m14 < w.heap.size ∨ m14 ≠ m2 ∧ m14 ≠ m1) ∧ ∀ (w17 : World), RowKit.Below w.heap.size w w17 →
    Kept [m2, m1] w16 w17 → Calls Tryz.prog 74 #[Value.pointer (some { block := m12, off := 0 }), Value.int IntKind.i64 x18] w17 fun (e4 : Ending) (w18 : World) => ∃ (x19 : Int),
    e4 = Ending.returned (Value.int IntKind.i64 x19) ∧ KeepX true w.heap.size [m2, m1] (fun _ => False) w17 w18 ∧ (x19 ≠ 0 → ∀ (w19 : World), RowKit.Below w.heap.size w w19 → Kept
    [m2, m1] w18 w19 → R (Ending.returned (Value.tuple #[Value.int IntKind.i64 0, Value.int IntKind.i64 0, Value.int IntKind.i64 x17, Value.int IntKind.i64 x19])) w19) ∧ (x19 = 0 →
    (-9223372036854775808 ≤ x17 + 1 ∧ x17 + (1 : Int) ≤ 9223372036854775807) ∧ ∀ (w20 : World), RowKit.Below w.heap.size w w20 → Kept [m2, m1] w18 w20 → F1 [Lf.int IntKind.i64 x13,
    Lf.int IntKind.i64 x14, Lf.int IntKind.i64 x15, Lf.int IntKind.i64 x16, Lf.int IntKind.i64 (x17 + 1)] w20 ∧ F2 [Lf.int IntKind.i64 x13, Lf.int IntKind.i64 x14, Lf.int
    IntKind.i64 x15, Lf.int IntKind.i64 x16, Lf.int IntKind.i64 (x17 + 1)] < F2 [Lf.int IntKind.i64 x13, Lf.int IntKind.i64 x14, Lf.int IntKind.i64 x15, Lf.int IntKind.i64 x16,
    Lf.int IntKind.i64 x17])) ∧ ((↑t1n : Int) ≤ x17 → ∀ (w21 : World), RowKit.Below w.heap.size w w21 → Kept [m2, m1] w16 w21 → Calls Tryz.prog 75 #[Value.pointer (some
    { block := m12, off := 0 })] w21 fun (e5 : Ending) (w22 : World) => ∃ (x20 : Int), e5 = Ending.returned (Value.int IntKind.i64 x20) ∧ KeepX true w.heap.size [m2, m1] (fun _ =>
    False) w21 w22 ∧ (x20 ≠ 0 → ∀ (w23 : World), RowKit.Below w.heap.size w w23 → Kept [m2, m1] w22 w23 → R (Ending.returned (Value.tuple #[Value.int IntKind.i64 0, Value.int
    IntKind.i64 0, Value.int IntKind.i64 (↑t1n : Int), Value.int IntKind.i64 x20])) w23) ∧ (x20 = 0 → ∃ (x21 : Int), w22.cell? { block := m12, off := 0 + 13 } = some (Value.int
    IntKind.i64 x21) ∧ (m12 < w.heap.size ∨ m12 ≠ m2 ∧ m12 ≠ m1) ∧ ∃ (x22 : Int), w22.cell? { block := m12, off := 0 + 13 } = some (Value.int IntKind.i64 x22) ∧ (m12 < w.heap.size
    ∨ m12 ≠ m2 ∧ m12 ≠ m1) ∧ (-9223372036854775808 ≤ x22 * r4 ∧ x22 * r4 ≤ 9223372036854775807) ∧ ∀ (w24 : World), RowKit.Below w.heap.size w w24 → Kept [m2, m1] w22 w24 → R
    (Ending.returned (Value.tuple #[Value.int IntKind.i64 x21, Value.int IntKind.i64 (x22 * r4), Value.int IntKind.i64 0, Value.int IntKind.i64 0])) w24)))))) : Calls Tryz.prog 33
    #[Value.agg #[Value.slice r0a r0n r0c, Value.slice r1a r1n r1c, Value.slice r2a r2n r2c, Value.int IntKind.i64 r3, Value.int IntKind.i64 r4], Value.agg #[Value.int IntKind.i64
    t0, Value.slice t1a t1n t1c]] w R := calls_of_vc (pure := true) (wrapAt := []) (muts := []) (esc := [9]) (args := [SV.pv (PV.agg [Lf.sl r0a r0n r0c, Lf.sl r1a r1n r1c, Lf.sl
    r2a r2n r2c, Lf.int IntKind.i64 r3, Lf.int IntKind.i64 r4]), SV.pv (PV.agg [Lf.int IntKind.i64 t0, Lf.sl t1a t1n t1c])]) (vs := [Value.agg #[Value.slice r0a r0n r0c,
    Value.slice r1a r1n r1c, Value.slice r2a r2n r2c, Value.int IntKind.i64 r3, Value.int IntKind.i64 r4], Value.agg #[Value.int IntKind.i64 t0, Value.slice t1a t1n t1c]])
    Tryz.func33 rfl rfl rfl (Eq.mp (by kernel_rfl) h) 
set_option maxRecDepth 100000 in
set_option maxHeartbeats 2000000 in
theorem vc76 (r0a : Option Addr) (r0n : Nat) (r0c : Nat) (r1a : Option Addr) (r1n : Nat) (r1c : Nat) (r2a : Option Addr) (r2n : Nat) (r2c : Nat) (r3 : Int) (r4 : Int) (la : Option
    Addr) (ln : Nat) (lc : Nat) (w : World) (R : Ending → World → Prop) (h : ∀ (m1 : Nat), w.heap.size ≤ m1 → (5 < (↑ln : Int) → ∀ (w1 : World), RowKit.Below w.heap.size w w1 →
    Kept [m1] w w1 → R (Ending.returned (Value.tuple #[Value.int IntKind.i64 0, Value.int IntKind.i64 5])) w1) ∧ ((↑ln : Int) ≤ 5 → (-9223372036854775808 ≤ (↑r0n : Int) - 1 ∧ (↑r0n
    : Int) - (1 : Int) ≤ 9223372036854775807) ∧ ∀ (w2 : World), RowKit.Below w.heap.size w w2 → Kept [m1] w w2 → Calls Tryz.prog 121 #[Value.int IntKind.i64 0, Value.int
    IntKind.i64 ((↑r0n : Int) - 1), Value.slice la ln lc] w2 fun (e1 : Ending) (w3 : World) => ∃ (t1 : Bool), e1 = Ending.returned (Value.bool t1) ∧ KeepX true w.heap.size [m1]
    (fun _ => False) w2 w3 ∧ ((!t1) = true → ∀ (w4 : World), RowKit.Below w.heap.size w w4 → Kept [m1] w3 w4 → R (Ending.returned (Value.tuple #[Value.int IntKind.i64 0, Value.int
    IntKind.i64 2])) w4) ∧ ((!t1) = false → ∃ (F1 : List Lf → World → Prop), ∃ (F2 : List Lf → Nat), (∀ (w6 : World), RowKit.Below w.heap.size w w6 → Kept [m1] w3 w6 → F1 [Lf.int
    IntKind.i64 0, Lf.int IntKind.i64 0, Lf.int IntKind.i64 0] w6) ∧ ∀ (x1 x2 x3 : Int) (w7 : World), RowKit.Below w.heap.size w w7 → F1 [Lf.int IntKind.i64 x1, Lf.int IntKind.i64
    x2, Lf.int IntKind.i64 x3] w7 → (x3 < (↑ln : Int) → ∃ (m3 : Nat), ∃ (m4 : Nat), la = some { block := m3, off := m4 } ∧ (0 ≤ x3 ∧ x3 < (↑ln : Int)) ∧ ∃ (x4 : Int), w7.cell?
    { block := m3, off := m4 + x3.toNat * 1 } = some (Value.int IntKind.i64 x4) ∧ (m3 < w.heap.size ∨ m3 ≠ m1) ∧ ∀ (w8 : World), RowKit.Below w.heap.size w w8 → Kept [m1] w7 w8 →
    Calls Tryz.prog 138 #[Value.int IntKind.i64 x1, Value.int IntKind.i64 x4] w8 fun (e2 : Ending) (w9 : World) => ∃ (t2 : Bool), e2 = Ending.returned (Value.bool t2) ∧ KeepX true
    w.heap.size [m1] (fun _ => False) w8 w9 ∧ (t2 = true → ∀ (w10 : World), RowKit.Below w.heap.size w w10 → Kept [m1] w9 w10 → R (Ending.returned (Value.tuple #[Value.int
    IntKind.i64 0, Value.int IntKind.i64 6])) w10) ∧ (t2 = false → ∀ (w11 : World), RowKit.Below w.heap.size w w11 → Kept [m1] w9 w11 → Calls Tryz.prog 139 #[Value.int IntKind.i64
    x1, Value.int IntKind.i64 x4] w11 fun (e3 : Ending) (w12 : World) => ∃ (x5 : Int), e3 = Ending.returned (Value.int IntKind.i64 x5) ∧ KeepX true w.heap.size [m1] (fun _ =>
    False) w11 w12 ∧ (-9223372036854775808 ≤ x3 + 1 ∧ x3 + (1 : Int) ≤ 9223372036854775807) ∧ ∀ (w13 : World), RowKit.Below w.heap.size w w13 → Kept [m1] w12 w13 → F1 [Lf.int
    IntKind.i64 x5, Lf.int IntKind.i64 x2, Lf.int IntKind.i64 (x3 + 1)] w13 ∧ F2 [Lf.int IntKind.i64 x5, Lf.int IntKind.i64 x2, Lf.int IntKind.i64 (x3 + 1)] < F2 [Lf.int
    IntKind.i64 x1, Lf.int IntKind.i64 x2, Lf.int IntKind.i64 x3])) ∧ ((↑ln : Int) ≤ x3 → ∀ (w14 : World), RowKit.Below w.heap.size w w14 → Kept [m1] w7 w14 → R (Ending.returned
    (Value.tuple #[Value.int IntKind.i64 x1, Value.int IntKind.i64 0])) w14)))) : Calls Tryz.prog 76 #[Value.agg #[Value.slice r0a r0n r0c, Value.slice r1a r1n r1c, Value.slice r2a
    r2n r2c, Value.int IntKind.i64 r3, Value.int IntKind.i64 r4], Value.slice la ln lc] w R := calls_of_vc (pure := true) (wrapAt := []) (muts := []) (esc := []) (args := [SV.pv
    (PV.agg [Lf.sl r0a r0n r0c, Lf.sl r1a r1n r1c, Lf.sl r2a r2n r2c, Lf.int IntKind.i64 r3, Lf.int IntKind.i64 r4]), SV.pv (PV.one (Lf.sl la ln lc))]) (vs := [Value.agg
    #[Value.slice r0a r0n r0c, Value.slice r1a r1n r1c, Value.slice r2a r2n r2c, Value.int IntKind.i64 r3, Value.int IntKind.i64 r4], Value.slice la ln lc]) Tryz.func76 rfl rfl rfl
    (Eq.mp (by kernel_rfl) h) 
set_option maxRecDepth 100000 in
set_option maxHeartbeats 2000000 in
theorem vc140 (sa : Option Addr) (sn : Nat) (sc : Nat) (w : World) (R : Ending → World → Prop) (h : ∀ (w1 : World), RowKit.Below w.heap.size w w1 → Kept [] w w1 → RunsTo Tryz.prog
    ((eqGuard BinOp.eql 32 (Operand.tmp 3) (Operand.const (Value.slice none 0 0)) (Value.slice sa sn sc) (Value.slice none 0 0)) >>= fun _ => binOp BinOp.eql 32 (Value.slice sa sn
    sc) (Value.slice none 0 0)) w1 fun (v1 : Value) (w2 : World) => ∃ (t1 : Bool), v1 = Value.bool t1 ∧ KeepX true w.heap.size [] (fun _ => False) w1 w2 ∧ (t1 = true → ∀ (w3 :
    World), RowKit.Below w.heap.size w w3 → Kept [] w2 w3 → R (Ending.returned (Value.slice none 0 0)) w3) ∧ (t1 = false → ∀ (m2 : Nat), w2.heap.size ≤ m2 → ∀ (w4 : World),
    RowKit.Below w.heap.size w w4 → Kept [m2] w2 w4 → w4.heap[m2]? = some (Obj.cells #[] 3) → RunsTo Tryz.prog (Builtin.append_ #[32, 32] 32 #[Value.slice (some
    { block := m2, off := 0 }) 0 0, Value.slice sa sn sc]) w4 fun (v2 : Value) (w5 : World) => ∃ (a1 : Option Addr), ∃ (m4 : Nat), ∃ (m5 : Nat), v2 = Value.slice a1 m4 m5 ∧ KeepX
    true w.heap.size [m2] (fun _ => False) w4 w5 ∧ ∀ (w6 : World), RowKit.Below w.heap.size w w6 → Kept [m2] w5 w6 → R (Ending.returned (Value.slice a1 m4 m5)) w6)) : Calls
    Tryz.prog 140 #[Value.slice sa sn sc] w R := calls_of_vc (pure := true) (wrapAt := []) (muts := []) (esc := []) (args := [SV.pv (PV.one (Lf.sl sa sn sc))]) (vs := [Value.slice
    sa sn sc]) Tryz.func140 rfl rfl rfl (Eq.mp (by kernel_rfl) h) 
set_option maxRecDepth 100000 in
set_option maxHeartbeats 2000000 in
theorem vc35 (r0a : Option Addr) (r0n : Nat) (r0c : Nat) (r1a : Option Addr) (r1n : Nat) (r1c : Nat) (r2a : Option Addr) (r2n : Nat) (r2c : Nat) (r3 : Int) (r4 : Int) (winder :
    Int) (towersa : Option Addr) (towersn : Nat) (towersc : Nat) (w : World) (R : Ending → World → Prop) (h : ∀ (m1 : Nat), w.heap.size ≤ m1 → ∀ (w1 : World), RowKit.Below
    w.heap.size w w1 → Kept [m1] w w1 → Calls Tryz.prog 63 #[Value.agg #[Value.slice r0a r0n r0c, Value.slice r1a r1n r1c, Value.slice r2a r2n r2c, Value.int IntKind.i64 r3,
    Value.int IntKind.i64 r4]] w1 fun (e1 : Ending) (w2 : World) => ∃ (x1 : Int), e1 = Ending.returned (Value.int IntKind.i64 x1) ∧ KeepX true w.heap.size [m1] (fun _ => False) w1
    w2 ∧ (x1 ≠ 0 → ∀ (w3 : World), RowKit.Below w.heap.size w w3 → Kept [m1] w2 w3 → R (Ending.returned (Value.tuple #[Value.slice none 0 0, Value.int IntKind.i64 0, Value.int
    IntKind.i64 x1])) w3) ∧ (x1 = 0 → ∀ (w4 : World), RowKit.Below w.heap.size w w4 → Kept [m1] w2 w4 → Calls Tryz.prog 72 #[Value.agg #[Value.slice r0a r0n r0c, Value.slice r1a
    r1n r1c, Value.slice r2a r2n r2c, Value.int IntKind.i64 r3, Value.int IntKind.i64 r4], Value.int IntKind.i64 winder] w4 fun (e2 : Ending) (w5 : World) => ∃ (t1 : Bool), e2 =
    Ending.returned (Value.bool t1) ∧ KeepX true w.heap.size [m1] (fun _ => False) w4 w5 ∧ ((!t1) = true → ∀ (w6 : World), RowKit.Below w.heap.size w w6 → Kept [m1] w5 w6 → R
    (Ending.returned (Value.tuple #[Value.slice none 0 0, Value.int IntKind.i64 0, Value.int IntKind.i64 7])) w6) ∧ ((!t1) = false → ∀ (w7 : World), RowKit.Below w.heap.size w w7 →
    Kept [m1] w5 w7 → Calls Tryz.prog 76 #[Value.agg #[Value.slice r0a r0n r0c, Value.slice r1a r1n r1c, Value.slice r2a r2n r2c, Value.int IntKind.i64 r3, Value.int IntKind.i64
    r4], Value.slice towersa towersn towersc] w7 fun (e3 : Ending) (w8 : World) => ∃ (x2 : Int), ∃ (x3 : Int), e3 = Ending.returned (Value.tuple #[Value.int IntKind.i64 x2,
    Value.int IntKind.i64 x3]) ∧ KeepX true w.heap.size [m1] (fun _ => False) w7 w8 ∧ (x3 ≠ 0 → ∀ (w9 : World), RowKit.Below w.heap.size w w9 → Kept [m1] w8 w9 → R (Ending.returned
    (Value.tuple #[Value.slice none 0 0, Value.int IntKind.i64 0, Value.int IntKind.i64 x3])) w9) ∧ (x3 = 0 → ∀ (w10 : World), RowKit.Below w.heap.size w w10 → Kept [m1] w8 w10 → ∀
    (m5 : Nat) (w11 : World), m5 = w10.heap.size → w11 = w10.alloc (Obj.cells #[Value.int IntKind.i64 x2, Value.slice none 0 0, Value.int IntKind.i64 0, Value.bool false] 181) → ∀
    (w12 : World), RowKit.Below w.heap.size w w12 → Kept [m1] w11 w12 → Calls Tryz.prog 73 #[Value.agg #[Value.slice r0a r0n r0c, Value.slice r1a r1n r1c, Value.slice r2a r2n r2c,
    Value.int IntKind.i64 r3, Value.int IntKind.i64 r4], Value.int IntKind.i64 winder] w12 fun (e4 : Ending) (w13 : World) => ∃ (a1 : Option Addr), ∃ (m6 : Nat), ∃ (m7 : Nat), ∃
    (a2 : Option Addr), ∃ (m8 : Nat), ∃ (m9 : Nat), ∃ (a3 : Option Addr), ∃ (m10 : Nat), ∃ (m11 : Nat), ∃ (x4 : Int), ∃ (x5 : Int), ∃ (x6 : Int), ∃ (x7 : Int), ∃ (x8 : Int), ∃ (x9
    : Int), ∃ (x10 : Int), ∃ (x11 : Int), ∃ (x12 : Int), ∃ (x13 : Int), ∃ (x14 : Int), e4 = Ending.returned (Value.agg #[Value.slice a1 m6 m7, Value.slice a2 m8 m9, Value.slice a3
    m10 m11, Value.int IntKind.i64 x4, Value.int IntKind.i64 x5, Value.int IntKind.u16 x6, Value.int IntKind.i64 x7, Value.int IntKind.i64 x8, Value.int IntKind.i64 x9, Value.int
    IntKind.i64 x10, Value.int IntKind.i64 x11, Value.int IntKind.i64 x12, Value.int IntKind.i64 x13, Value.int IntKind.i64 x14]) ∧ KeepX true w.heap.size [m1] (fun _ => False) w12
    w13 ∧ ∀ (w14 : World), RowKit.Below w.heap.size w w14 → Kept [m1] w13 w14 → Calls Tryz.prog 77 #[Value.pointer (some { block := m5, off := 0 }), Value.agg #[Value.slice a1 m6
    m7, Value.slice a2 m8 m9, Value.slice a3 m10 m11, Value.int IntKind.i64 x4, Value.int IntKind.i64 x5, Value.int IntKind.u16 x6, Value.int IntKind.i64 x7, Value.int IntKind.i64
    x8, Value.int IntKind.i64 x9, Value.int IntKind.i64 x10, Value.int IntKind.i64 x11, Value.int IntKind.i64 x12, Value.int IntKind.i64 x13, Value.int IntKind.i64 x14],
    Value.slice none 0 0] w14 fun (e5 : Ending) (w15 : World) => e5 = Ending.returned (Value.tuple #[]) ∧ KeepX true w.heap.size [m1] (fun _ => False) w14 w15 ∧ ∃ (t2 : Bool),
    w15.cell? { block := m5, off := 0 + 3 } = some (Value.bool t2) ∧ (m5 < w.heap.size ∨ m5 ≠ m1) ∧ ((!t2) = true → ∀ (w16 : World), RowKit.Below w.heap.size w w16 → Kept [m1] w15
    w16 → R (Ending.returned (Value.tuple #[Value.slice none 0 0, Value.int IntKind.i64 0, Value.int IntKind.i64 7])) w16) ∧ ((!t2) = false → ∃ (a4 : Option Addr), ∃ (m14 : Nat), ∃
    (m15 : Nat), w15.cell? { block := m5, off := 0 + 1 } = some (Value.slice a4 m14 m15) ∧ (m5 < w.heap.size ∨ m5 ≠ m1) ∧ ∃ (x15 : Int), w15.cell? { block := m5, off := 0 + 2 } =
    some (Value.int IntKind.i64 x15) ∧ (m5 < w.heap.size ∨ m5 ≠ m1) ∧ ∀ (w17 : World), RowKit.Below w.heap.size w w17 → Kept [m1] w15 w17 → R (Ending.returned (Value.tuple
    #[Value.slice a4 m14 m15, Value.int IntKind.i64 x15, Value.int IntKind.i64 0])) w17))))) : Calls Tryz.prog 35 #[Value.agg #[Value.slice r0a r0n r0c, Value.slice r1a r1n r1c,
    Value.slice r2a r2n r2c, Value.int IntKind.i64 r3, Value.int IntKind.i64 r4], Value.int IntKind.i64 winder, Value.slice towersa towersn towersc] w R := calls_of_vc (pure :=
    true) (wrapAt := []) (muts := []) (esc := [34]) (args := [SV.pv (PV.agg [Lf.sl r0a r0n r0c, Lf.sl r1a r1n r1c, Lf.sl r2a r2n r2c, Lf.int IntKind.i64 r3, Lf.int IntKind.i64
    r4]), SV.pv (PV.one (Lf.int IntKind.i64 winder)), SV.pv (PV.one (Lf.sl towersa towersn towersc))]) (vs := [Value.agg #[Value.slice r0a r0n r0c, Value.slice r1a r1n r1c,
    Value.slice r2a r2n r2c, Value.int IntKind.i64 r3, Value.int IntKind.i64 r4], Value.int IntKind.i64 winder, Value.slice towersa towersn towersc]) Tryz.func35 rfl rfl rfl (Eq.mp
    (by kernel_rfl) h) 
set_option maxRecDepth 100000 in
set_option maxHeartbeats 2000000 in
theorem vc10  (w : World) (R : Ending → World → Prop) (h : ∀ (w1 : World), RowKit.Below w.heap.size w w1 → Kept [] w w1 → Calls Tryz.prog 34 #[] w1 fun (e1 : Ending) (w2 : World)
    => ∃ (a1 : Option Addr), ∃ (m1 : Nat), ∃ (m2 : Nat), ∃ (a2 : Option Addr), ∃ (m3 : Nat), ∃ (m4 : Nat), ∃ (a3 : Option Addr), ∃ (m5 : Nat), ∃ (m6 : Nat), ∃ (x1 : Int), ∃ (x2 :
    Int), e1 = Ending.returned (Value.agg #[Value.slice a1 m1 m2, Value.slice a2 m3 m4, Value.slice a3 m5 m6, Value.int IntKind.i64 x1, Value.int IntKind.i64 x2]) ∧ KeepX true
    w.heap.size [] (fun _ => False) w1 w2 ∧ ∀ (m8 : Nat), w2.heap.size ≤ m8 → ∀ (w3 : World), RowKit.Below w.heap.size w w3 → Kept [m8] w2 w3 → w3.heap[m8]? = some (Obj.cells
    #[Value.int IntKind.i64 0, Value.int IntKind.i64 1, Value.int IntKind.i64 (-1)] 3) → Calls Tryz.prog 33 #[Value.agg #[Value.slice a1 m1 m2, Value.slice a2 m3 m4, Value.slice a3
    m5 m6, Value.int IntKind.i64 x1, Value.int IntKind.i64 x2], Value.agg #[Value.int IntKind.i64 0, Value.slice (some { block := m8, off := 0 }) 3 3]] w3 fun (e2 : Ending) (w4 :
    World) => ∃ (x3 : Int), ∃ (x4 : Int), ∃ (x5 : Int), ∃ (x6 : Int), e2 = Ending.returned (Value.tuple #[Value.int IntKind.i64 x3, Value.int IntKind.i64 x4, Value.int IntKind.i64
    x5, Value.int IntKind.i64 x6]) ∧ KeepX true w.heap.size [m8] (fun _ => False) w3 w4 ∧ ∀ (w5 : World), RowKit.Below w.heap.size w w5 → Kept [m8] w4 w5 → Calls Tryz.prog 34 #[]
    w5 fun (e3 : Ending) (w6 : World) => ∃ (a4 : Option Addr), ∃ (m11 : Nat), ∃ (m12 : Nat), ∃ (a5 : Option Addr), ∃ (m13 : Nat), ∃ (m14 : Nat), ∃ (a6 : Option Addr), ∃ (m15 :
    Nat), ∃ (m16 : Nat), ∃ (x7 : Int), ∃ (x8 : Int), e3 = Ending.returned (Value.agg #[Value.slice a4 m11 m12, Value.slice a5 m13 m14, Value.slice a6 m15 m16, Value.int IntKind.i64
    x7, Value.int IntKind.i64 x8]) ∧ KeepX true w.heap.size [m8] (fun _ => False) w5 w6 ∧ ∀ (m18 : Nat), w6.heap.size ≤ m18 → ∀ (w7 : World), RowKit.Below w.heap.size w w7 → Kept
    [m18, m8] w6 w7 → w7.heap[m18]? = some (Obj.cells #[Value.int IntKind.i64 1] 3) → Calls Tryz.prog 35 #[Value.agg #[Value.slice a4 m11 m12, Value.slice a5 m13 m14, Value.slice
    a6 m15 m16, Value.int IntKind.i64 x7, Value.int IntKind.i64 x8], Value.int IntKind.i64 1, Value.slice (some { block := m18, off := 0 }) 1 1] w7 fun (e4 : Ending) (w8 : World)
    => ∃ (a7 : Option Addr), ∃ (m20 : Nat), ∃ (m21 : Nat), ∃ (x9 : Int), ∃ (x10 : Int), e4 = Ending.returned (Value.tuple #[Value.slice a7 m20 m21, Value.int IntKind.i64 x9,
    Value.int IntKind.i64 x10]) ∧ KeepX true w.heap.size [m18, m8] (fun _ => False) w7 w8 ∧ (x6 = 0 → (x10 = 0 → (x3 = 130 → (x4 = 260 → (x9 = 85 → ((↑m20 : Int) = 2 → ∃ (m23 :
    Nat), ∃ (m24 : Nat), a7 = some { block := m23, off := m24 } ∧ ((0 : Int) ≤ 0 ∧ 0 < (↑m20 : Int)) ∧ ∃ (x11 : Int), w8.cell? { block := m23, off := m24 + Int.toNat 0 * 1 } = some
    (Value.int IntKind.i64 x11) ∧ (m23 < w.heap.size ∨ m23 ≠ m18 ∧ m23 ≠ m8) ∧ (x11 = 1 → ∃ (m25 : Nat), ∃ (m26 : Nat), a7 = some { block := m25, off := m26 } ∧ ((0 : Int) ≤ 1 ∧ 1
    < (↑m20 : Int)) ∧ ∃ (x12 : Int), w8.cell? { block := m25, off := m26 + Int.toNat 1 * 1 } = some (Value.int IntKind.i64 x12) ∧ (m25 < w.heap.size ∨ m25 ≠ m18 ∧ m25 ≠ m8) ∧ ∀ (w9
    : World), RowKit.Below w.heap.size w w9 → Kept [m18, m8] w8 w9 → R (Ending.returned (Value.bool (x12 == -1))) w9) ∧ (x11 ≠ 1 → ∀ (w10 : World), RowKit.Below w.heap.size w w10 →
    Kept [m18, m8] w8 w10 → R (Ending.returned (Value.bool false)) w10)) ∧ ((↑m20 : Int) ≠ 2 → ∀ (w11 : World), RowKit.Below w.heap.size w w11 → Kept [m18, m8] w8 w11 → R
    (Ending.returned (Value.bool false)) w11)) ∧ (x9 ≠ 85 → ∀ (w12 : World), RowKit.Below w.heap.size w w12 → Kept [m18, m8] w8 w12 → R (Ending.returned (Value.bool false)) w12)) ∧
    (x4 ≠ 260 → ∀ (w13 : World), RowKit.Below w.heap.size w w13 → Kept [m18, m8] w8 w13 → R (Ending.returned (Value.bool false)) w13)) ∧ (x3 ≠ 130 → ∀ (w14 : World), RowKit.Below
    w.heap.size w w14 → Kept [m18, m8] w8 w14 → R (Ending.returned (Value.bool false)) w14)) ∧ (x10 ≠ 0 → ∀ (w15 : World), RowKit.Below w.heap.size w w15 → Kept [m18, m8] w8 w15 →
    R (Ending.returned (Value.bool false)) w15)) ∧ (x6 ≠ 0 → ∀ (w16 : World), RowKit.Below w.heap.size w w16 → Kept [m18, m8] w8 w16 → R (Ending.returned (Value.bool false)) w16))
    : Calls Tryz.prog 10 #[] w R := calls_of_vc (pure := true) (wrapAt := []) (muts := []) (esc := []) (args := []) (vs := []) Tryz.func10 rfl rfl rfl (Eq.mp (by kernel_rfl) h) 
end Go.Proofs
end
section
/- A winder on his way. -/
namespace Go.Proofs.RT
open Go.Vc Go.RowKit Go.Proofs
structure Adr where
  ra : Option Addr
  rc : Nat
  wa : Option Addr
  wc : Nat
  va : Option Addr
  vc : Nat
structure St where
  place : Int
  wound : Int
  oil : Int
  run : Int
  minutes : Int
deriving DecidableEq
abbrev wkC (r : Ru) (A : Adr) (wn : Wn) (s : St) : List Value := [.slice A.ra r.T.length A.rc, .slice A.wa r.W.length A.wc, .slice A.va r.V.length A.vc, I r.rest, I r.wage, .int .u16 wn.1, I wn.2.1, I wn.2.2.1, I wn.2.2.2, I s.place, I s.wound, I s.oil, I s.run, I s.minutes]
def WkIn (b : Nat) (r : Ru) (A : Adr) (wn : Wn) (s : St) (w : World) : Prop := w.heap[b]? = some (.cells (wkC r A wn s).toArray 173 (0, 0))
def lateF (wn : Wn) (s : St) : Int := if wn.2.2.1 < s.minutes then 110 else 0
def workF (wn : Wn) (s : St) (m : Int) : St × Int := (⟨s.place, s.wound, s.oil, s.run + m, s.minutes + m⟩, if wn.2.2.2 < s.run + m then 111 else lateF wn ⟨s.place, s.wound, s.oil, s.run + m, s.minutes + m⟩)
def restF (r : Ru) (wn : Wn) (s : St) : St × Int := (⟨s.place, s.wound, s.oil, 0, s.minutes + r.rest⟩, lateF wn ⟨s.place, s.wound, s.oil, 0, s.minutes + r.rest⟩)
def hasF (s t : Int) : Bool := IntKind.i64.wrap (↑(BitVec.ofInt IntKind.i64.bits (s.fdiv (2 ^ min t.toNat IntKind.i64.bits)) &&& BitVec.ofInt IntKind.i64.bits 1).toNat : Int) == 1
def withF (s t : Int) : Int := IntKind.i64.wrap (↑(BitVec.ofInt IntKind.i64.bits s ||| BitVec.ofInt IntKind.i64.bits (IntKind.i64.wrap (1 * 2 ^ min t.toNat IntKind.i64.bits))).toNat : Int)
def keysF (a b : Int) : Int := IntKind.u16.wrap (↑(BitVec.ofInt IntKind.u16.bits a &&& ~~~BitVec.ofInt IntKind.u16.bits b).toNat : Int)
def wayF (r : Ru) (p t : Int) : Int := (r.W.getD p.toNat []).getD t.toNat 0
def twF (r : Ru) (t : Int) : Tw := r.T.getD t.toNat (0, 0, 0, 0, 0)
def visitF (r : Ru) (wn : Wn) (s : St) (t : Int) : St × Int :=
  if hasF s.wound t = true then (⟨s.place, s.wound, s.oil + (twF r t).2.2.2.1, s.run, s.minutes⟩, 6)
  else if keysF (twF r t).2.2.1 wn.1 ≠ 0 then (⟨s.place, s.wound, s.oil + (twF r t).2.2.2.1, s.run, s.minutes⟩, 112)
  else if wn.2.1 < s.oil + (twF r t).2.2.2.1 then (⟨s.place, s.wound, s.oil + (twF r t).2.2.2.1, s.run, s.minutes⟩, 113)
  else workF wn ⟨t, withF s.wound t, s.oil + (twF r t).2.2.2.1, s.run, s.minutes⟩ (wayF r s.place t + (twF r t).1 + (twF r t).2.1)
def stepF (r : Ru) (wn : Wn) (s : St) (n : Int) : St × Int := if n = -1 then restF r wn s else if 0 ≤ n ∧ n ≤ (r.T.length : Int) - 1 then visitF r wn s n else (s, 2)
def homeF (r : Ru) (wn : Wn) (s : St) : St × Int := workF wn s (wayF r s.place r.T.length)
structure StB (r : Ru) (s : St) : Prop where
  p : 0 ≤ s.place ∧ s.place ≤ r.T.length
  o : 0 ≤ s.oil ∧ s.oil ≤ 1000000000
  r : 0 ≤ s.run ∧ s.run ≤ 1000000000
  m : 0 ≤ s.minutes ∧ s.minutes ≤ 1000000000
def PostSt (b : Nat) (r : Ru) (A : Adr) (wn : Wn) (x : St × Int) (w : World) (e : Ending) (w' : World) : Prop := e = .returned (I x.2) ∧ Chg [b] w w' ∧ WkIn b r A wn x.1 w'
section
variable {w w' : World} {b : Nat} {r : Ru} {A : Adr} {wn : Wn} {s : St}
theorem WkIn.out {S : List Nat} (h : WkIn b r A wn s w) (hc : Chg S w w') (hs : b ∉ S) : WkIn b r A wn s w' := by
  unfold WkIn at h ⊢
  rw [hc.keep b (lt_of_some h) hs]; exact h
theorem late_any : Calls Tryz.prog 198 #[.agg (wkC r A wn s).toArray] w (Pure w (I (lateF wn s))) := by
  refine vc198 _ _ _ _ _ _ _ _ _ _ _ _ _ _ _ _ _ _ _ _ w _ ?_
  refine fun _ _ => ⟨fun h w1 hb1 _ => ⟨?_, hb1⟩, fun h w1 hb1 _ => ⟨?_, hb1⟩⟩
  · unfold lateF; rw [if_pos h]
  · unfold lateF; rw [if_neg (by omega)]
set_option maxRecDepth 100000 in
theorem work_any (h : WkIn b r A wn s w) (hr : 0 ≤ s.run ∧ s.run ≤ 1000000000) (hmm : 0 ≤ s.minutes ∧ s.minutes ≤ 1000000000) {m : Int} (hm : 0 ≤ m ∧ m ≤ 1000000000) : Calls Tryz.prog 137 #[.pointer (some ⟨b, 0, none⟩), I m] w (PostSt b r A wn (workF wn s m) w) := by
  unfold WkIn at h
  refine vc137 b 0 m w _ ⟨s.run, cell_obj h rfl, by omega, s.minutes, cell_obj h rfl, fun w1 hk1 => ?_⟩
  have h1 : WkIn b r A wn s w1 := WkIn.out h hk1.chg (by simp)
  refine obj_store (cs := wkC r A wn s) (vs := [I (s.run + m)]) h1 (by kernel_rfl) (by kernel_rfl) (by simp) rfl (by simp; trivial) fun w2 hh2 c2 => ⟨c2.own (by simp) (by simp) (by simp), by omega, fun w3 hk3 => ?_⟩
  have h2 : WkIn b r A wn ⟨s.place, s.wound, s.oil, s.run + m, s.minutes⟩ w2 := by unfold WkIn; rw [hh2]; rfl
  have h3 := h2.out hk3.chg (by simp)
  refine obj_store (cs := wkC r A wn ⟨s.place, s.wound, s.oil, s.run + m, s.minutes⟩) (vs := [I (s.minutes + m)]) h3 (by kernel_rfl) (by kernel_rfl) (by simp) rfl (by simp; trivial) fun w4 hh4 c4 => ?_
  have h4 : WkIn b r A wn (workF wn s m).1 w4 := by unfold WkIn; rw [hh4]; rfl
  have hall : Chg [b] w w4 := (((hk1.chg.mono (T := [b]) (by simp)).trans c2).trans (hk3.chg.mono (by simp))).trans c4
  refine ⟨c4.own (by simp) (by simp) (by simp), _, cell_obj h4 rfl, _, cell_obj h4 rfl, fun hlt w5 hk5 => ⟨?_, hall.trans ((Chg.kept hk5).mono (by simp)), h4.out (Chg.kept hk5) (by simp)⟩, fun hge => ?_⟩
  · show _ = Ending.returned (I (workF wn s m).2)
    unfold workF; simp only; rw [if_pos (show wn.2.2.2 < s.run + m from hlt)]
  refine ⟨_, _, _, _, _, _, _, _, _, _, _, _, _, _, _, _, _, _, _, _, cell_obj h4 rfl, cell_obj h4 rfl, cell_obj h4 rfl, cell_obj h4 rfl, cell_obj h4 rfl, cell_obj h4 rfl, cell_obj h4 rfl, cell_obj h4 rfl, cell_obj h4 rfl, cell_obj h4 rfl, cell_obj h4 rfl, cell_obj h4 rfl, cell_obj h4 rfl, cell_obj h4 rfl, fun w6 hk6 => ?_⟩
  refine Pure.calls (late_any (r := r) (A := A) (wn := wn) (s := (workF wn s m).1)) fun w7 hd7 => ⟨_, rfl, .all hd7, fun w8 hk8 => ⟨?_, ?_, ?_⟩⟩
  · show _ = Ending.returned (I (workF wn s m).2)
    unfold workF; simp only; rw [if_neg (Int.not_lt.2 (show s.run + m ≤ wn.2.2.2 from hge))]
  · exact ((hall.trans ((Chg.kept hk6).mono (by simp))).trans (Chg.of_below hd7)).trans ((Chg.kept hk8).mono (by simp))
  · exact ((h4.out (Chg.kept hk6) (by simp)).out (S := []) (Chg.of_below hd7) (by simp)).out (Chg.kept hk8) (by simp)
set_option maxRecDepth 100000 in
theorem rest_any (h : WkIn b r A wn s w) (hs : StB r s) (hr : 0 ≤ r.rest ∧ r.rest ≤ 1000000000) : Calls Tryz.prog 135 #[.pointer (some ⟨b, 0, none⟩)] w (PostSt b r A wn (restF r wn s) w) := by
  obtain ⟨_, _, _, hmm⟩ := hs
  unfold WkIn at h
  refine vc135 b 0 w _ ⟨s.minutes, cell_obj h rfl, r.rest, cell_obj h rfl, fun w1 hk1 => ?_⟩
  have h1 : WkIn b r A wn s w1 := WkIn.out h hk1.chg (by simp)
  refine obj_store (cs := wkC r A wn s) (vs := [I 0]) h1 (by kernel_rfl) (by kernel_rfl) (by simp) rfl (by simp; trivial) fun w2 hh2 c2 => ⟨c2.own (by simp) (by simp) (by simp), by omega, fun w3 hk3 => ?_⟩
  have h2 : WkIn b r A wn ⟨s.place, s.wound, s.oil, 0, s.minutes⟩ w2 := by unfold WkIn; rw [hh2]; rfl
  have h3 := h2.out hk3.chg (by simp)
  refine obj_store (cs := wkC r A wn ⟨s.place, s.wound, s.oil, 0, s.minutes⟩) (vs := [I (s.minutes + r.rest)]) h3 (by kernel_rfl) (by kernel_rfl) (by simp) rfl (by simp; trivial) fun w4 hh4 c4 => ?_
  have h4 : WkIn b r A wn (restF r wn s).1 w4 := by unfold WkIn; rw [hh4]; rfl
  have hall : Chg [b] w w4 := (((hk1.chg.mono (T := [b]) (by simp)).trans c2).trans (hk3.chg.mono (by simp))).trans c4
  refine ⟨c4.own (by simp) (by simp) (by simp), _, _, _, _, _, _, _, _, _, _, _, _, _, _, _, _, _, _, _, _, cell_obj h4 rfl, cell_obj h4 rfl, cell_obj h4 rfl, cell_obj h4 rfl, cell_obj h4 rfl, cell_obj h4 rfl, cell_obj h4 rfl, cell_obj h4 rfl, cell_obj h4 rfl, cell_obj h4 rfl, cell_obj h4 rfl, cell_obj h4 rfl, cell_obj h4 rfl, cell_obj h4 rfl, fun w6 hk6 => ?_⟩
  refine Pure.calls (late_any (r := r) (A := A) (wn := wn) (s := (restF r wn s).1)) fun w7 hd7 => ⟨_, rfl, .all hd7, fun w8 hk8 => ⟨rfl, ?_, ?_⟩⟩
  · exact ((hall.trans ((Chg.kept hk6).mono (by simp))).trans (Chg.of_below hd7)).trans ((Chg.kept hk8).mono (by simp))
  · exact ((h4.out (Chg.kept hk6) (by simp)).out (S := []) (Chg.of_below hd7) (by simp)).out (Chg.kept hk8) (by simp)
theorem has_any {n t : Int} (ht : 0 ≤ t) : Calls Tryz.prog 138 #[I n, I t] w (Pure w (.bool (hasF n t))) := vc138 _ _ w _ ⟨ht, fun _ hb _ => ⟨rfl, hb⟩⟩
theorem with_any {n t : Int} (ht : 0 ≤ t) : Calls Tryz.prog 139 #[I n, I t] w (Pure w (I (withF n t))) := vc139 _ _ w _ ⟨ht, fun _ hb _ => ⟨rfl, hb⟩⟩
theorem works_any {ra wa va : Option Addr} {rc wc vc : Nat} : Calls Tryz.prog 134 #[ruV r ra rc wa wc va vc] w (Pure w (I r.T.length)) := vc134 _ _ _ _ _ _ _ _ _ _ _ w _ fun _ _ w1 hb1 _ => ⟨rfl, hb1⟩
theorem way_cell {ra wa va : Option Addr} {S : List Sl} {w0 w : World} (h : RuIn r ra wa va S w0) (hr : RuOk r) (hb : Below w0.heap.size w0 w) {p t : Int} (hp : 0 ≤ p ∧ p ≤ r.T.length) (ht : 0 ≤ t ∧ t ≤ r.T.length) :
    ∃ b1 o1 s b2 o2, wa = some ⟨b1, o1, none⟩ ∧ b1 < w0.heap.size ∧ b2 < w0.heap.size ∧ w.cell? ⟨b1, o1 + p.toNat * 1, none⟩ = some (slV s) ∧ s.1 = some ⟨b2, o2, none⟩ ∧ t < (s.2.1 : Int) ∧ w.cell? ⟨b2, o2 + t.toNat * 1, none⟩ = some (I (wayF r p t)) ∧ 0 ≤ wayF r p t ∧ wayF r p t ≤ 1440 := by
  have hw := hr.w; have hn := h.n
  have hi : p.toNat < S.length := by omega
  have hi' : p.toNat < r.W.length := by omega
  obtain ⟨b1, o1, e1, hv⟩ := h.s p.toNat (slV S[p.toNat]) (by rw [List.getElem?_map, getElem_of_lt hi]; rfl)
  obtain ⟨hl, hrow⟩ := h.row p.toNat hi hi'
  obtain ⟨hr1, hr2, _⟩ := hr.row p.toNat hi'
  have hj : t.toNat < r.W[p.toNat].length := by omega
  obtain ⟨b2, o2, e2, hv2⟩ := hrow t.toNat _ (ints_get (getElem_of_lt hj))
  have e : wayF r p t = r.W[p.toNat][t.toNat] := by
    unfold wayF
    simp [List.getD_eq_getElem?_getD, getElem_of_lt hi', getElem_of_lt hj]
  refine ⟨b1, o1, S[p.toNat], b2, o2, e1, cell_lt hv, cell_lt hv2, cell_at' (cell_keep hb hv) (by omega), e2, by omega, ?_, ?_⟩
  · rw [e]; exact cell_at' (cell_keep hb hv2) (by omega)
  · rw [e]; exact hr2 _ (List.getElem_mem hj)
set_option maxRecDepth 100000 in
theorem home_any {S : List Sl} {w0 : World} (h : WkIn b r A wn s w) (hs : StB r s) (hR : RuIn r A.ra A.wa A.va S w0) (hO : RuOk r) (hb : Below w0.heap.size w0 w) (hB : w0.heap.size ≤ b) : Calls Tryz.prog 75 #[.pointer (some ⟨b, 0, none⟩)] w (PostSt b r A wn (homeF r wn s) w) := by
  obtain ⟨b1, o1, sl, b2, o2, e1, l1, l2, c1, e2, hlt, c2, hw1, hw2⟩ := way_cell hR hO hb hs.p (t := r.T.length) (by omega)
  have ht := hO.t; have hww := hO.w; have hp := hs.p
  unfold WkIn at h
  have s0 := hb.size
  refine vc75 b 0 w _ ⟨_, _, _, _, _, _, _, _, _, _, _, cell_obj h rfl, cell_obj h rfl, cell_obj h rfl, cell_obj h rfl, cell_obj h rfl, fun w1 hk1 => ?_⟩
  refine Pure.calls works_any fun w2 hd2 => ⟨_, rfl, hd2, _, _, _, cell_obj h rfl, _, cell_obj h rfl, b1, o1, e1, by omega, _, _, _, c1, b2, o2, e2, ⟨by omega, hlt⟩, wayF r s.place r.T.length, cell_keep (w := w1) hd2 (hk1.chg.cell (by simp) c2), fun w3 hk3 => ?_⟩
  have s1 := hk1.size; have s2 := hd2.size; have s3 := hk3.size
  have hb3 : Below w.heap.size w w3 := ⟨hk3.os.trans (hd2.os.trans hk1.os), hk3.tape.trans (hd2.tape.trans hk1.tape), hk3.output.trans (hd2.output.trans hk1.output), by omega, fun k hk => by
    rw [hk3.block k (by omega) (by simp) ⟨_, List.mem_cons_self, Nat.zero_le _, hk⟩, hd2.block k (by omega), hk1.block k hk (by simp) ⟨_, List.mem_cons_self, Nat.zero_le _, hk⟩]⟩
  have h3 : WkIn b r A wn s w3 := WkIn.out (S := []) h (Chg.of_below hb3) (by simp)
  refine (work_any h3 hs.r hs.m (m := wayF r s.place r.T.length) (by omega)).mono fun e w4 he => ?_
  obtain ⟨rfl, c4, h4⟩ := he
  refine ⟨_, rfl, c4.own (by simp) (by simp) (by simp), fun w5 hk5 => ⟨rfl, ?_, h4.out (Chg.kept hk5) (by simp)⟩⟩
  exact ((Chg.of_below hb3).trans c4).trans ((Chg.kept hk5).mono (by simp))
set_option maxRecDepth 100000 in
theorem visit_any {S : List Sl} {w0 : World} {t : Int} (h : WkIn b r A wn s w) (hs : StB r s) (hR : RuIn r A.ra A.wa A.va S w0) (hO : RuOk r) (hb : Below w0.heap.size w0 w) (hB : w0.heap.size ≤ b) (ht : 0 ≤ t ∧ t < r.T.length) : Calls Tryz.prog 136 #[.pointer (some ⟨b, 0, none⟩), I t] w (PostSt b r A wn (visitF r wn s t) w) := by
  have hT := hO.t; have hww := hO.w; have hp := hs.p; have ho := hs.o
  have hl := lt_of_some h
  have s0 := hb.size
  have hi : t.toNat < r.T.length := by omega
  obtain ⟨bt, ot, et, lt, vt⟩ := flat_at (k := 5) (fun _ => rfl) (by omega) hR.t hi
  have etw : r.T[t.toNat] = twF r t := by unfold twF; simp [List.getD_eq_getElem?_getD, getElem_of_lt hi]
  have htw := hO.tw _ (List.getElem_mem hi)
  rw [etw] at htw
  rw [etw] at vt
  have ta := htw.a; have tb := htw.b; have to' := htw.o
  generalize hG : twF r t = T at ta tb to' vt
  refine vc136 b 0 t w _ ⟨_, _, _, cell_obj h rfl, bt, ot, et, by omega, _, _, _, _, _, cell_at' (cell_keep hb (vt 0 _ rfl)) (by omega), cell_at' (cell_keep hb (vt 1 _ rfl)) (by omega), cell_at' (cell_keep hb (vt 2 _ rfl)) (by omega), cell_at' (cell_keep hb (vt 3 _ rfl)) (by omega), cell_at' (cell_keep hb (vt 4 _ rfl)) (by omega), fun m5 g5 => ⟨_, cell_obj h rfl, .inl hl, by show _ ≤ s.oil + T.2.2.2.1 ∧ s.oil + T.2.2.2.1 ≤ _; omega, fun w1 hk1 => ?_⟩⟩
  have h1 : WkIn b r A wn s w1 := WkIn.out h hk1.chg (by simp; omega)
  refine obj_store (cs := wkC r A wn s) (vs := [I (s.oil + T.2.2.2.1)]) h1 (by kernel_rfl) (by kernel_rfl) (by simp) rfl (by simp; trivial) fun w2 hh2 c2 => ?_
  have h2 : WkIn b r A wn ⟨s.place, s.wound, s.oil + T.2.2.2.1, s.run, s.minutes⟩ w2 := by unfold WkIn; rw [hh2]; rfl
  have s1 := hk1.size; have s2 := c2.size
  have k2 : ∀ y ∈ [m5], y < w1.heap.size ∧ y ∉ [b] := fun y hy => ⟨hk1.own y hy, by simp at hy ⊢; omega⟩
  refine ⟨c2.own k2 (by simp) (by simp), _, cell_obj h2 rfl, .inl hl, fun w3 hk3 => ?_⟩
  have all2 : Chg [m5, b] w w2 := (hk1.chg.mono (T := [m5, b]) (by simp)).trans (c2.mono (by simp))
  have all3 : Chg [m5, b] w w3 := all2.trans ((Chg.kept hk3).mono (by simp))
  refine Pure.calls (has_any ht.1) fun w4 hd4 => ⟨_, rfl, .all hd4, fun hh w5 hk5 => ⟨?_, ?_, ?_⟩, fun hh => ?_⟩
  · show _ = Ending.returned (I (visitF r wn s t).2)
    unfold visitF; rw [if_pos hh]
  · exact ((all3.trans (Chg.of_below hd4)).trans ((Chg.kept hk5).mono (by simp))).mono fun y hy => by simp at hy ⊢; omega
  · have := ((h2.out (Chg.kept hk3) (by simp; omega)).out (S := []) (Chg.of_below hd4) (by simp)).out (Chg.kept hk5) (by simp; omega)
    unfold visitF; rw [if_pos hh, hG]; exact this
  have h4 : WkIn b r A wn ⟨s.place, s.wound, s.oil + T.2.2.2.1, s.run, s.minutes⟩ w4 := (h2.out (Chg.kept hk3) (by simp; omega)).out (S := []) (Chg.of_below hd4) (by simp)
  have all4 : Chg [m5, b] w w4 := all3.trans (Chg.of_below hd4)
  have hne : ¬ hasF s.wound t = true := by
    have hh : hasF s.wound t = false := hh
    simp [hh]
  have fin : ∀ w5, Kept [m5] w4 w5 → Chg [b] w w5 ∧ WkIn b r A wn ⟨s.place, s.wound, s.oil + T.2.2.2.1, s.run, s.minutes⟩ w5 := fun w5 hk5 => ⟨(all4.trans ((Chg.kept hk5).mono (by simp))).mono fun y hy => by simp at hy ⊢; omega, h4.out (Chg.kept hk5) (by simp; omega)⟩
  refine ⟨_, cell_obj h4 rfl, .inl hl, fun hk w6 hk6 => ?_, fun hk => ⟨_, cell_obj h4 rfl, .inl hl, _, cell_obj h4 rfl, .inl hl, fun ho w7 hk7 => ?_, fun ho => ?_⟩⟩
  · obtain ⟨f1, f2⟩ := fin w6 hk6
    have hk : keysF (twF r t).2.2.1 wn.1 ≠ 0 := by rw [hG]; exact hk
    refine ⟨?_, f1, ?_⟩
    · show _ = Ending.returned (I (visitF r wn s t).2)
      unfold visitF; rw [if_neg hne, if_pos hk]
    · unfold visitF; rw [if_neg hne, if_pos hk, hG]; exact f2
  · obtain ⟨f1, f2⟩ := fin w7 hk7
    have hk : ¬ keysF (twF r t).2.2.1 wn.1 ≠ 0 := by rw [hG]; exact fun h => h hk
    have ho : wn.2.1 < s.oil + (twF r t).2.2.2.1 := by rw [hG]; exact ho
    refine ⟨?_, f1, ?_⟩
    · show _ = Ending.returned (I (visitF r wn s t).2)
      unfold visitF; rw [if_neg hne, if_neg hk, if_pos ho]
    · unfold visitF; rw [if_neg hne, if_neg hk, if_pos ho, hG]; exact f2
  have hk : ¬ keysF (twF r t).2.2.1 wn.1 ≠ 0 := by rw [hG]; exact fun h => h hk
  have ho : ¬ wn.2.1 < s.oil + (twF r t).2.2.2.1 := by rw [hG]; exact Int.not_lt.2 ho
  have hb4 : Below w0.heap.size w0 w4 := ⟨all4.os.trans hb.os, all4.tape.trans hb.tape, all4.output.trans hb.output, by have := all4.size; omega, fun k hk => by rw [all4.keep k (by omega) (by simp; omega), hb.block k hk]⟩
  obtain ⟨b1, o1, sl, b2, o2, e1, l1, l2, c1, e2, hlt, c2', hw1, hw2⟩ := way_cell hR hO hb4 hs.p (t := t) (by omega)
  refine ⟨_, _, _, cell_obj h4 rfl, .inl hl, _, cell_obj h4 rfl, .inl hl, b1, o1, e1, by show 0 ≤ s.place ∧ s.place < (r.W.length : Int); omega, _, _, _, c1, .inl (by omega), b2, o2, e2, ⟨ht.1, hlt⟩, _, c2', .inl (by omega), _, cell_obj h4 rfl, .inl hl, fun w8 hk8 => ?_⟩
  refine Pure.calls (with_any ht.1) fun w9 hd9 => ⟨_, rfl, .all hd9, fun w10 hk10 => ?_⟩
  have s3 := hk3.size; have s4 := hd4.size; have s8 := hk8.size; have s9 := hd9.size; have s10 := hk10.size
  have h10 : WkIn b r A wn ⟨s.place, s.wound, s.oil + T.2.2.2.1, s.run, s.minutes⟩ w10 := ((h4.out (Chg.kept hk8) (by simp; omega)).out (S := []) (Chg.of_below hd9) (by simp)).out (Chg.kept hk10) (by simp; omega)
  have all10 : Chg [m5, b] w w10 := ((all4.trans ((Chg.kept hk8).mono (by simp))).trans (Chg.of_below hd9)).trans ((Chg.kept hk10).mono (by simp))
  refine obj_store (cs := wkC r A wn ⟨s.place, s.wound, s.oil + T.2.2.2.1, s.run, s.minutes⟩) (vs := [I t]) h10 (by kernel_rfl) (by kernel_rfl) (by simp) rfl (by simp; trivial) fun w11 hh11 c11 => ?_
  have h11 : WkIn b r A wn ⟨t, s.wound, s.oil + T.2.2.2.1, s.run, s.minutes⟩ w11 := by unfold WkIn; rw [hh11]; rfl
  refine ⟨c11.own (fun y hy => ⟨hk10.own y hy, by simp at hy ⊢; omega⟩) (by simp) (by simp), fun w12 hk12 => ?_⟩
  have h12 := h11.out (Chg.kept hk12) (by simp; omega)
  have s11 := c11.size; have s12 := hk12.size
  refine obj_store (cs := wkC r A wn ⟨t, s.wound, s.oil + T.2.2.2.1, s.run, s.minutes⟩) (vs := [I (withF s.wound t)]) h12 (by kernel_rfl) (by kernel_rfl) (by simp) rfl (by simp; trivial) fun w13 hh13 c13 => ?_
  have h13 : WkIn b r A wn ⟨t, withF s.wound t, s.oil + T.2.2.2.1, s.run, s.minutes⟩ w13 := by unfold WkIn; rw [hh13]; rfl
  refine ⟨c13.own (fun y hy => ⟨hk12.own y hy, by simp at hy ⊢; omega⟩) (by simp) (by simp), by omega, by omega, fun w14 hk14 => ?_⟩
  have h14 := h13.out (Chg.kept hk14) (by simp; omega)
  have all14 : Chg [m5, b] w w14 := (((all10.trans (c11.mono (by simp))).trans ((Chg.kept hk12).mono (by simp))).trans (c13.mono (by simp))).trans ((Chg.kept hk14).mono (by simp))
  refine (work_any h14 hs.r hs.m (by omega)).mono fun e w15 he => ?_
  obtain ⟨rfl, c15, h15⟩ := he
  refine ⟨_, rfl, c15.own (fun y hy => ⟨hk14.own y hy, by simp at hy ⊢; omega⟩) (by simp) (by simp), fun w16 hk16 => ⟨?_, ?_, ?_⟩⟩
  · show _ = Ending.returned (I (visitF r wn s t).2)
    unfold visitF; rw [if_neg hne, if_neg hk, if_neg ho, hG]
  · exact ((all14.trans (c15.mono (by simp))).trans ((Chg.kept hk16).mono (by simp))).mono fun y hy => by simp at hy ⊢; omega
  · unfold visitF; rw [if_neg hne, if_neg hk, if_neg ho, hG]; exact h15.out (Chg.kept hk16) (by simp; omega)
set_option maxRecDepth 100000 in
theorem step_any {S : List Sl} {w0 : World} {n : Int} (h : WkIn b r A wn s w) (hs : StB r s) (hR : RuIn r A.ra A.wa A.va S w0) (hO : RuOk r) (hb : Below w0.heap.size w0 w) (hB : w0.heap.size ≤ b) : Calls Tryz.prog 74 #[.pointer (some ⟨b, 0, none⟩), I n] w (PostSt b r A wn (stepF r wn s n) w) := by
  have hT := hO.t
  have hl := lt_of_some h
  have s0 := hb.size
  refine vc74 b 0 n w _ ⟨fun hn w1 hk1 => ?_, fun hn => ⟨_, _, _, cell_obj h rfl, by omega, fun m4 g4 w4 hk4 hc4 => ?_⟩⟩
  · refine (rest_any (h.out (Chg.kept hk1) (by simp)) hs (by have := hO.rest; omega)).mono fun e w2 he => ?_
    obtain ⟨rfl, c2, h2⟩ := he
    refine ⟨_, rfl, c2.own (by simp) (by simp) (by simp), fun w3 hk3 => ⟨?_, ?_, ?_⟩⟩
    · show _ = Ending.returned (I (stepF r wn s n).2)
      unfold stepF; rw [if_pos hn]
    · exact (((Chg.kept hk1).mono (T := [b]) (by simp)).trans c2).trans ((Chg.kept hk3).mono (by simp))
    · unfold stepF; rw [if_pos hn]; exact h2.out (Chg.kept hk3) (by simp)
  have s4 := hk4.size
  have h4 := h.out (Chg.kept hk4) (by simp; omega)
  refine Pure.calls (inR_any hc4) fun w5 hd5 => ⟨_, rfl, .all hd5, fun hh w6 hk6 => ?_, fun hh w7 hk7 => ?_⟩
  · have hh : ¬ (0 ≤ n ∧ n ≤ (r.T.length : Int) - 1) := fun hc => by rw [decide_eq_true hc] at hh; cases hh
    refine ⟨?_, ?_, ?_⟩
    · show _ = Ending.returned (I (stepF r wn s n).2)
      unfold stepF; rw [if_neg hn, if_neg hh]
    · exact ((((Chg.kept hk4).mono (T := [m4, b]) (by simp)).trans (Chg.of_below hd5)).trans ((Chg.kept hk6).mono (by simp))).mono fun y hy => by simp at hy ⊢; omega
    · unfold stepF; rw [if_neg hn, if_neg hh]; exact (h4.out (S := []) (Chg.of_below hd5) (by simp)).out (Chg.kept hk6) (by simp; omega)
  have hh : 0 ≤ n ∧ n ≤ (r.T.length : Int) - 1 := by simpa using hh
  have s5 := hd5.size; have s7 := hk7.size
  have h7 := (h4.out (S := []) (Chg.of_below hd5) (by simp)).out (Chg.kept hk7) (by simp; omega)
  have all7 : Chg [m4] w w7 := ((Chg.kept hk4).trans (Chg.of_below hd5)).trans (Chg.kept hk7)
  have hb7 : Below w0.heap.size w0 w7 := ⟨all7.os.trans hb.os, all7.tape.trans hb.tape, all7.output.trans hb.output, by omega, fun k hk => by rw [all7.keep k (by omega) (by simp; omega), hb.block k hk]⟩
  refine (visit_any h7 hs hR hO hb7 hB (t := n) (by omega)).mono fun e w8 he => ?_
  obtain ⟨rfl, c8, h8⟩ := he
  refine ⟨_, rfl, c8.own (fun y hy => ⟨hk7.own y hy, by simp at hy ⊢; omega⟩) (by simp) (by simp), fun w9 hk9 => ⟨?_, ?_, ?_⟩⟩
  · show _ = Ending.returned (I (stepF r wn s n).2)
    unfold stepF; rw [if_neg hn, if_pos hh]
  · exact (((all7.mono (T := [m4, b]) (by simp)).trans (c8.mono (by simp))).trans ((Chg.kept hk9).mono (by simp))).mono fun y hy => by simp at hy ⊢; omega
  · unfold stepF; rw [if_neg hn, if_pos hh]; exact h8.out (Chg.kept hk9) (by simp; omega)
end
end Go.Proofs.RT
end
section
/- The conditions of the functions, printed by program; each is what the generator reckons (kernel_rfl). -/
namespace Go.Proofs
open Go.Vc
set_option maxRecDepth 100000 in
set_option maxHeartbeats 2000000 in
theorem vc77 (sb : Nat) (so : Nat) (p1w0a : Option Addr) (p1w0n : Nat) (p1w0c : Nat) (p1w1a : Option Addr) (p1w1n : Nat) (p1w1c : Nat) (p1w2a : Option Addr) (p1w2n : Nat) (p1w2c :
    Nat) (p1w3 : Int) (p1w4 : Int) (p1w5 : Int) (p1w6 : Int) (p1w7 : Int) (p1w8 : Int) (p1w9 : Int) (p1w10 : Int) (p1w11 : Int) (p1w12 : Int) (p1w13 : Int) (stepsa : Option Addr)
    (stepsn : Nat) (stepsc : Nat) (w : World) (R : Ending → World → Prop) (h : ∀ (m1 : Nat), w.heap.size ≤ m1 → ∃ (F1 : List Lf → World → Prop), (∃ (t1 : Bool), w.cell?
    { block := sb, off := so + 3 } = some (Value.bool t1) ∧ (sb < w.heap.size ∨ sb ≠ m1) ∧ (t1 = true → ∃ (x1 : Int), w.cell? { block := sb, off := so + 2 } = some (Value.int
    IntKind.i64 x1) ∧ (sb < w.heap.size ∨ sb ≠ m1) ∧ ∀ (w2 : World), Kept [m1] w w2 → w2.heap[m1]? = some (Obj.cells #[Value.slice p1w0a p1w0n p1w0c, Value.slice p1w1a p1w1n p1w1c,
    Value.slice p1w2a p1w2n p1w2c, Value.int IntKind.i64 p1w3, Value.int IntKind.i64 p1w4, Value.int IntKind.u16 p1w5, Value.int IntKind.i64 p1w6, Value.int IntKind.i64 p1w7,
    Value.int IntKind.i64 p1w8, Value.int IntKind.i64 p1w9, Value.int IntKind.i64 p1w10, Value.int IntKind.i64 p1w11, Value.int IntKind.i64 p1w12, Value.int IntKind.i64 p1w13] 173)
    → F1 [Lf.bool (decide (x1 ≤ p1w13))] w2) ∧ (t1 = false → ∀ (w3 : World), Kept [m1] w w3 → F1 [Lf.bool false] w3)) ∧ ∀ (t2 : Bool) (w4 : World), F1 [Lf.bool t2] w4 → (t2 = true
    → ∀ (w5 : World), Kept [m1] w4 w5 → R (Ending.returned (Value.tuple #[])) w5) ∧ (t2 = false → ∃ (x3 : Int), w4.cell? { block := sb, off := so + 0 } = some (Value.int
    IntKind.i64 x3) ∧ (sb < w.heap.size ∨ sb ≠ m1) ∧ ∃ (F2 : List Lf → World → Prop), ((p1w10 = x3 → ∀ (w7 : World), Kept [m1] w4 w7 → ∀ (m5 : Nat) (w8 : World), m5 = w7.heap.size
    → w8 = w7.alloc (Obj.cells #[Value.slice none 0 0, Value.slice none 0 0, Value.slice none 0 0, Value.int IntKind.i64 0, Value.int IntKind.i64 0, Value.int IntKind.u16 0,
    Value.int IntKind.i64 0, Value.int IntKind.i64 0, Value.int IntKind.i64 0, Value.int IntKind.i64 0, Value.int IntKind.i64 0, Value.int IntKind.i64 0, Value.int IntKind.i64 0,
    Value.int IntKind.i64 0] 173) → ∀ (w9 : World), Kept [m1] w8 w9 → RunsTo Tryz.prog ((Instr.storeAt 173 (Value.pointer (some { block := m5, off := 0 })) (Value.agg #[Value.slice
    p1w0a p1w0n p1w0c, Value.slice p1w1a p1w1n p1w1c, Value.slice p1w2a p1w2n p1w2c, Value.int IntKind.i64 p1w3, Value.int IntKind.i64 p1w4, Value.int IntKind.u16 p1w5, Value.int
    IntKind.i64 p1w6, Value.int IntKind.i64 p1w7, Value.int IntKind.i64 p1w8, Value.int IntKind.i64 p1w9, Value.int IntKind.i64 p1w10, Value.int IntKind.i64 p1w11, Value.int
    IntKind.i64 p1w12, Value.int IntKind.i64 p1w13])) >>= fun _ => pure (Value.tuple #[])) w9 fun (v1 : Value) (w10 : World) => KeepX false w.heap.size [m1] (fun _ => False) w9 w10
    ∧ ∀ (w11 : World), KeptIn [(0, w10.heap.size)] [m1] w10 w11 → Calls Tryz.prog 75 #[Value.pointer (some { block := m5, off := 0 })] w11 fun (e1 : Ending) (w12 : World) => ∃ (x4
    : Int), e1 = Ending.returned (Value.int IntKind.i64 x4) ∧ KeepX false w.heap.size [m1] (fun _ => False) w11 w12 ∧ (x4 = 0 → ∃ (t3 : Bool), w12.cell?
    { block := sb, off := so + 3 } = some (Value.bool t3) ∧ (sb < w.heap.size ∨ sb ≠ m1) ∧ ((!t3) = true → ∃ (F3 : List Lf → World → Prop), (∀ (w14 : World), KeptIn [(0,
    w12.heap.size)] [m1] w12 w14 → Calls Tryz.prog 140 #[Value.slice stepsa stepsn stepsc] w14 fun (e2 : Ending) (w15 : World) => ∃ (a1 : Option Addr), ∃ (m8 : Nat), ∃ (m9 : Nat),
    e2 = Ending.returned (Value.slice a1 m8 m9) ∧ RowKit.Below w14.heap.size w14 w15 ∧ ∃ (x5 : Int), w12.cell? { block := m5, off := 0 + 13 } = some (Value.int IntKind.i64 x5) ∧
    (m5 < w.heap.size ∨ m5 ≠ m1) ∧ ∀ (w16 : World), KeptIn [(0, w12.heap.size), (w14.heap.size, w15.heap.size)] [m1] w15 w16 → RunsTo Tryz.prog ((Instr.storeAt 32 (Value.pointer
    (some { block := sb, off := so + 1 })) (Value.slice a1 m8 m9)) >>= fun _ => pure (Value.tuple #[])) w16 fun (v2 : Value) (w17 : World) => KeepX false w.heap.size [m1] (fun _ =>
    False) w16 w17 ∧ ∀ (w18 : World), KeptIn [(0, w17.heap.size)] [m1] w17 w18 → RunsTo Tryz.prog ((Instr.storeAt 3 (Value.pointer (some { block := sb, off := so + 2 })) (Value.int
    IntKind.i64 x5)) >>= fun _ => pure (Value.tuple #[])) w18 fun (v3 : Value) (w19 : World) => KeepX false w.heap.size [m1] (fun _ => False) w18 w19 ∧ ∀ (w20 : World), KeptIn [(0,
    w19.heap.size)] [m1] w19 w20 → RunsTo Tryz.prog ((Instr.storeAt 4 (Value.pointer (some { block := sb, off := so + 3 })) (Value.bool true)) >>= fun _ => pure (Value.tuple #[]))
    w20 fun (v4 : Value) (w21 : World) => KeepX false w.heap.size [m1] (fun _ => False) w20 w21 ∧ ∀ (w22 : World), Kept [m1] w21 w22 → F3 [] w22) ∧ ∀ (w23 : World), F3 [] w23 → ∀
    (w24 : World), Kept [m1] w23 w24 → F2 [] w24) ∧ ((!t3) = false → ∃ (x6 : Int), w12.cell? { block := m5, off := 0 + 13 } = some (Value.int IntKind.i64 x6) ∧ (m5 < w.heap.size ∨
    m5 ≠ m1) ∧ ∃ (x7 : Int), w12.cell? { block := sb, off := so + 2 } = some (Value.int IntKind.i64 x7) ∧ (sb < w.heap.size ∨ sb ≠ m1) ∧ ∃ (F4 : List Lf → World → Prop), ((x6 < x7
    → ∀ (w26 : World), KeptIn [(0, w12.heap.size)] [m1] w12 w26 → Calls Tryz.prog 140 #[Value.slice stepsa stepsn stepsc] w26 fun (e3 : Ending) (w27 : World) => ∃ (a2 : Option
    Addr), ∃ (m13 : Nat), ∃ (m14 : Nat), e3 = Ending.returned (Value.slice a2 m13 m14) ∧ RowKit.Below w26.heap.size w26 w27 ∧ ∃ (x8 : Int), w12.cell? { block := m5, off := 0 + 13 }
    = some (Value.int IntKind.i64 x8) ∧ (m5 < w.heap.size ∨ m5 ≠ m1) ∧ ∀ (w28 : World), KeptIn [(0, w12.heap.size), (w26.heap.size, w27.heap.size)] [m1] w27 w28 → RunsTo Tryz.prog
    ((Instr.storeAt 32 (Value.pointer (some { block := sb, off := so + 1 })) (Value.slice a2 m13 m14)) >>= fun _ => pure (Value.tuple #[])) w28 fun (v5 : Value) (w29 : World) =>
    KeepX false w.heap.size [m1] (fun _ => False) w28 w29 ∧ ∀ (w30 : World), KeptIn [(0, w29.heap.size)] [m1] w29 w30 → RunsTo Tryz.prog ((Instr.storeAt 3 (Value.pointer (some
    { block := sb, off := so + 2 })) (Value.int IntKind.i64 x8)) >>= fun _ => pure (Value.tuple #[])) w30 fun (v6 : Value) (w31 : World) => KeepX false w.heap.size [m1] (fun _ =>
    False) w30 w31 ∧ ∀ (w32 : World), KeptIn [(0, w31.heap.size)] [m1] w31 w32 → RunsTo Tryz.prog ((Instr.storeAt 4 (Value.pointer (some { block := sb, off := so + 3 }))
    (Value.bool true)) >>= fun _ => pure (Value.tuple #[])) w32 fun (v7 : Value) (w33 : World) => KeepX false w.heap.size [m1] (fun _ => False) w32 w33 ∧ ∀ (w34 : World), Kept [m1]
    w33 w34 → F4 [] w34) ∧ (x7 ≤ x6 → ∀ (w35 : World), Kept [m1] w12 w35 → F4 [] w35)) ∧ ∀ (w36 : World), F4 [] w36 → ∀ (w37 : World), Kept [m1] w36 w37 → F2 [] w37)) ∧ (x4 ≠ 0 → ∃
    (F5 : List Lf → World → Prop), (∀ (w39 : World), Kept [m1] w12 w39 → F5 [] w39) ∧ ∀ (w40 : World), F5 [] w40 → ∀ (w41 : World), Kept [m1] w40 w41 → F2 [] w41)) ∧ (p1w10 ≠ x3 →
    ∀ (w42 : World), Kept [m1] w4 w42 → F2 [] w42)) ∧ ∀ (w43 : World), F2 [] w43 → ∃ (F6 : List Lf → World → Prop), ((0 < (↑stepsn : Int) → (-9223372036854775808 ≤ (↑stepsn : Int)
    - 1 ∧ (↑stepsn : Int) - (1 : Int) ≤ 9223372036854775807) ∧ ∃ (m18 : Nat), ∃ (m19 : Nat), stepsa = some { block := m18, off := m19 } ∧ (0 ≤ (↑stepsn : Int) - 1 ∧ (↑stepsn : Int)
    - 1 < (↑stepsn : Int)) ∧ ∃ (x9 : Int), w43.cell? { block := m18, off := m19 + ((↑stepsn : Int) - 1).toNat * 1 } = some (Value.int IntKind.i64 x9) ∧ (m18 < w.heap.size ∨ m18 ≠
    m1) ∧ ∀ (w45 : World), Kept [m1] w43 w45 → F6 [Lf.bool (x9 == -1)] w45) ∧ ((↑stepsn : Int) ≤ 0 → ∀ (w46 : World), Kept [m1] w43 w46 → F6 [Lf.bool false] w46)) ∧ ∀ (t4 : Bool)
    (w47 : World), F6 [Lf.bool t4] w47 → ∃ (F7 : List Lf → World → Prop), ∃ (F8 : List Lf → Nat), (∀ (w49 : World), Kept [m1] w47 w49 → F7 [Lf.int IntKind.i64 (-1)] w49) ∧ ∀ (x10 :
    Int) (w50 : World), F7 [Lf.int IntKind.i64 x10] w50 → (x10 < (↑p1w0n : Int) → ∃ (F9 : List Lf → World → Prop), (∃ (F10 : List Lf → World → Prop), ((x10 = -1 → (t4 = true → ∀
    (w53 : World), Kept [m1] w50 w53 → F10 [Lf.bool true] w53) ∧ (t4 = false → (x10 ≠ -1 → ∃ (x11 : Int), w50.cell? { block := sb, off := so + 0 } = some (Value.int IntKind.i64
    x11) ∧ (sb < w.heap.size ∨ sb ≠ m1) ∧ ∀ (w54 : World), Kept [m1] w50 w54 → Calls Tryz.prog 138 #[Value.int IntKind.i64 x11, Value.int IntKind.i64 x10] w54 fun (e4 : Ending)
    (w55 : World) => ∃ (t5 : Bool), e4 = Ending.returned (Value.bool t5) ∧ KeepX false w.heap.size [m1] (fun _ => False) w54 w55 ∧ ((!t5) = true → ∀ (w56 : World), Kept [m1] w55
    w56 → F10 [Lf.bool true] w56) ∧ ((!t5) = false → ∀ (w57 : World), Kept [m1] w55 w57 → Calls Tryz.prog 138 #[Value.int IntKind.i64 p1w10, Value.int IntKind.i64 x10] w57 fun (e5
    : Ending) (w58 : World) => ∃ (t6 : Bool), e5 = Ending.returned (Value.bool t6) ∧ KeepX false w.heap.size [m1] (fun _ => False) w57 w58 ∧ ∀ (w59 : World), Kept [m1] w58 w59 →
    w59.heap[m1]? = some (Obj.cells #[Value.slice p1w0a p1w0n p1w0c, Value.slice p1w1a p1w1n p1w1c, Value.slice p1w2a p1w2n p1w2c, Value.int IntKind.i64 p1w3, Value.int IntKind.i64
    p1w4, Value.int IntKind.u16 p1w5, Value.int IntKind.i64 p1w6, Value.int IntKind.i64 p1w7, Value.int IntKind.i64 p1w8, Value.int IntKind.i64 p1w9, Value.int IntKind.i64 p1w10,
    Value.int IntKind.i64 p1w11, Value.int IntKind.i64 p1w12, Value.int IntKind.i64 p1w13] 173) → F10 [Lf.bool t6] w59)) ∧ (x10 = -1 → ∀ (w60 : World), Kept [m1] w50 w60 → F10
    [Lf.bool false] w60))) ∧ (x10 ≠ -1 → (x10 ≠ -1 → ∃ (x12 : Int), w50.cell? { block := sb, off := so + 0 } = some (Value.int IntKind.i64 x12) ∧ (sb < w.heap.size ∨ sb ≠ m1) ∧ ∀
    (w61 : World), Kept [m1] w50 w61 → Calls Tryz.prog 138 #[Value.int IntKind.i64 x12, Value.int IntKind.i64 x10] w61 fun (e6 : Ending) (w62 : World) => ∃ (t7 : Bool), e6 =
    Ending.returned (Value.bool t7) ∧ KeepX false w.heap.size [m1] (fun _ => False) w61 w62 ∧ ((!t7) = true → ∀ (w63 : World), Kept [m1] w62 w63 → F10 [Lf.bool true] w63) ∧ ((!t7)
    = false → ∀ (w64 : World), Kept [m1] w62 w64 → Calls Tryz.prog 138 #[Value.int IntKind.i64 p1w10, Value.int IntKind.i64 x10] w64 fun (e7 : Ending) (w65 : World) => ∃ (t8 :
    Bool), e7 = Ending.returned (Value.bool t8) ∧ KeepX false w.heap.size [m1] (fun _ => False) w64 w65 ∧ ∀ (w66 : World), Kept [m1] w65 w66 → w66.heap[m1]? = some (Obj.cells
    #[Value.slice p1w0a p1w0n p1w0c, Value.slice p1w1a p1w1n p1w1c, Value.slice p1w2a p1w2n p1w2c, Value.int IntKind.i64 p1w3, Value.int IntKind.i64 p1w4, Value.int IntKind.u16
    p1w5, Value.int IntKind.i64 p1w6, Value.int IntKind.i64 p1w7, Value.int IntKind.i64 p1w8, Value.int IntKind.i64 p1w9, Value.int IntKind.i64 p1w10, Value.int IntKind.i64 p1w11,
    Value.int IntKind.i64 p1w12, Value.int IntKind.i64 p1w13] 173) → F10 [Lf.bool t8] w66)) ∧ (x10 = -1 → ∀ (w67 : World), Kept [m1] w50 w67 → F10 [Lf.bool false] w67))) ∧ ∀ (t9 :
    Bool) (w68 : World), F10 [Lf.bool t9] w68 → (t9 = true → ∀ (w69 : World), Kept [m1] w68 w69 → F9 [] w69) ∧ (t9 = false → ∀ (w70 : World), Kept [m1] w68 w70 → ∀ (m26 : Nat) (w71
    : World), m26 = w70.heap.size → w71 = w70.alloc (Obj.cells #[Value.slice none 0 0, Value.slice none 0 0, Value.slice none 0 0, Value.int IntKind.i64 0, Value.int IntKind.i64 0,
    Value.int IntKind.u16 0, Value.int IntKind.i64 0, Value.int IntKind.i64 0, Value.int IntKind.i64 0, Value.int IntKind.i64 0, Value.int IntKind.i64 0, Value.int IntKind.i64 0,
    Value.int IntKind.i64 0, Value.int IntKind.i64 0] 173) → ∀ (w72 : World), Kept [m1] w71 w72 → RunsTo Tryz.prog ((Instr.storeAt 173 (Value.pointer (some
    { block := m26, off := 0 })) (Value.agg #[Value.slice p1w0a p1w0n p1w0c, Value.slice p1w1a p1w1n p1w1c, Value.slice p1w2a p1w2n p1w2c, Value.int IntKind.i64 p1w3, Value.int
    IntKind.i64 p1w4, Value.int IntKind.u16 p1w5, Value.int IntKind.i64 p1w6, Value.int IntKind.i64 p1w7, Value.int IntKind.i64 p1w8, Value.int IntKind.i64 p1w9, Value.int
    IntKind.i64 p1w10, Value.int IntKind.i64 p1w11, Value.int IntKind.i64 p1w12, Value.int IntKind.i64 p1w13])) >>= fun _ => pure (Value.tuple #[])) w72 fun (v8 : Value) (w73 :
    World) => KeepX false w.heap.size [m1] (fun _ => False) w72 w73 ∧ ∀ (w74 : World), Kept [m1] w73 w74 → Calls Tryz.prog 74 #[Value.pointer (some { block := m26, off := 0 }),
    Value.int IntKind.i64 x10] w74 fun (e8 : Ending) (w75 : World) => ∃ (x13 : Int), e8 = Ending.returned (Value.int IntKind.i64 x13) ∧ KeepX false w.heap.size [m1] (fun _ =>
    False) w74 w75 ∧ (x13 = 0 → ∀ (w76 : World), KeptIn [(0, w75.heap.size)] [m1] w75 w76 → Calls Tryz.prog 141 #[Value.slice stepsa stepsn stepsc] w76 fun (e9 : Ending) (w77 :
    World) => ∃ (a3 : Option Addr), ∃ (m29 : Nat), ∃ (m30 : Nat), e9 = Ending.returned (Value.slice a3 m29 m30) ∧ RowKit.Below w76.heap.size w76 w77 ∧ ∀ (m31 : Nat), w75.heap.size
    ≤ m31 → m31 < w76.heap.size ∨ w77.heap.size ≤ m31 → ∀ (w78 : World), KeptIn [(0, w75.heap.size), (w76.heap.size, w77.heap.size)] [m31, m1] w77 w78 → w78.heap[m31]? = some
    (Obj.cells #[Value.int IntKind.i64 x10] 3) → RunsTo Tryz.prog (Builtin.append_ #[32, 32] 32 #[Value.slice a3 m29 m30, Value.slice (some { block := m31, off := 0 }) 1 1]) w78
    fun (v9 : Value) (w79 : World) => ∃ (a4 : Option Addr), ∃ (m33 : Nat), ∃ (m34 : Nat), v9 = Value.slice a4 m33 m34 ∧ RowKit.Below w78.heap.size w78 w79 ∧ ∃ (a5 : Option Addr), ∃
    (m35 : Nat), ∃ (m36 : Nat), ∃ (a6 : Option Addr), ∃ (m37 : Nat), ∃ (m38 : Nat), ∃ (a7 : Option Addr), ∃ (m39 : Nat), ∃ (m40 : Nat), ∃ (x14 : Int), ∃ (x15 : Int), ∃ (x16 : Int),
    ∃ (x17 : Int), ∃ (x18 : Int), ∃ (x19 : Int), ∃ (x20 : Int), ∃ (x21 : Int), ∃ (x22 : Int), ∃ (x23 : Int), ∃ (x24 : Int), w75.cell? { block := m26, off := 0 } = some (Value.slice
    a5 m35 m36) ∧ w75.cell? { block := m26, off := 0 + 1 } = some (Value.slice a6 m37 m38) ∧ w75.cell? { block := m26, off := 0 + 1 + 1 } = some (Value.slice a7 m39 m40) ∧
    w75.cell? { block := m26, off := 0 + 1 + 1 + 1 } = some (Value.int IntKind.i64 x14) ∧ w75.cell? { block := m26, off := 0 + 1 + 1 + 1 + 1 } = some (Value.int IntKind.i64 x15) ∧
    w75.cell? { block := m26, off := 0 + 1 + 1 + 1 + 1 + 1 } = some (Value.int IntKind.u16 x16) ∧ w75.cell? { block := m26, off := 0 + 1 + 1 + 1 + 1 + 1 + 1 } = some (Value.int
    IntKind.i64 x17) ∧ w75.cell? { block := m26, off := 0 + 1 + 1 + 1 + 1 + 1 + 1 + 1 } = some (Value.int IntKind.i64 x18) ∧ w75.cell?
    { block := m26, off := 0 + 1 + 1 + 1 + 1 + 1 + 1 + 1 + 1 } = some (Value.int IntKind.i64 x19) ∧ w75.cell? { block := m26, off := 0 + 1 + 1 + 1 + 1 + 1 + 1 + 1 + 1 + 1 } = some
    (Value.int IntKind.i64 x20) ∧ w75.cell? { block := m26, off := 0 + 1 + 1 + 1 + 1 + 1 + 1 + 1 + 1 + 1 + 1 } = some (Value.int IntKind.i64 x21) ∧ w75.cell?
    { block := m26, off := 0 + 1 + 1 + 1 + 1 + 1 + 1 + 1 + 1 + 1 + 1 + 1 } = some (Value.int IntKind.i64 x22) ∧ w75.cell?
    { block := m26, off := 0 + 1 + 1 + 1 + 1 + 1 + 1 + 1 + 1 + 1 + 1 + 1 + 1 } = some (Value.int IntKind.i64 x23) ∧ w75.cell?
    { block := m26, off := 0 + 1 + 1 + 1 + 1 + 1 + 1 + 1 + 1 + 1 + 1 + 1 + 1 + 1 } = some (Value.int IntKind.i64 x24) ∧ (m26 < w.heap.size ∨ m26 ≠ m31 ∧ m26 ≠ m1) ∧ ∀ (w80 :
    World), KeptIn [(0, w75.heap.size), (w78.heap.size, w79.heap.size), (w76.heap.size, w77.heap.size)] [m31, m1] w79 w80 → Calls Tryz.prog 77 #[Value.pointer (some
    { block := sb, off := so }), Value.agg #[Value.slice a5 m35 m36, Value.slice a6 m37 m38, Value.slice a7 m39 m40, Value.int IntKind.i64 x14, Value.int IntKind.i64 x15, Value.int
    IntKind.u16 x16, Value.int IntKind.i64 x17, Value.int IntKind.i64 x18, Value.int IntKind.i64 x19, Value.int IntKind.i64 x20, Value.int IntKind.i64 x21, Value.int IntKind.i64
    x22, Value.int IntKind.i64 x23, Value.int IntKind.i64 x24], Value.slice a4 m33 m34] w80 fun (e10 : Ending) (w81 : World) => e10 = Ending.returned (Value.tuple #[]) ∧ KeepX
    false w.heap.size [m31, m1] (fun _ => False) w80 w81 ∧ ∀ (w82 : World), Kept [m31, m1] w81 w82 → w82.heap[m31]? = some (Obj.cells #[Value.int IntKind.i64 x10] 3) → F9 [] w82) ∧
    (x13 ≠ 0 → ∀ (w83 : World), Kept [m1] w75 w83 → F9 [] w83))) ∧ ∀ (w84 : World), F9 [] w84 → (-9223372036854775808 ≤ x10 + 1 ∧ x10 + (1 : Int) ≤ 9223372036854775807) ∧ ∀ (w85 :
    World), Kept [m1] w84 w85 → F7 [Lf.int IntKind.i64 (x10 + 1)] w85 ∧ F8 [Lf.int IntKind.i64 (x10 + 1)] < F8 [Lf.int IntKind.i64 x10]) ∧ ((↑p1w0n : Int) ≤ x10 → ∀ (w86 : World),
    Kept [m1] w50 w86 → R (Ending.returned (Value.tuple #[])) w86))) : Calls Tryz.prog 77 #[Value.pointer (some { block := sb, off := so }), Value.agg #[Value.slice p1w0a p1w0n
    p1w0c, Value.slice p1w1a p1w1n p1w1c, Value.slice p1w2a p1w2n p1w2c, Value.int IntKind.i64 p1w3, Value.int IntKind.i64 p1w4, Value.int IntKind.u16 p1w5, Value.int IntKind.i64
    p1w6, Value.int IntKind.i64 p1w7, Value.int IntKind.i64 p1w8, Value.int IntKind.i64 p1w9, Value.int IntKind.i64 p1w10, Value.int IntKind.i64 p1w11, Value.int IntKind.i64 p1w12,
    Value.int IntKind.i64 p1w13], Value.slice stepsa stepsn stepsc] w R := calls_of_vcj (pure := false) (wrapAt := []) (muts := []) (esc := [6, 9]) (joins := [(2000001, [(22, 4)]),
    (29, []), (48, []), (2000006, [(7, 4)]), (1000001, []), (2000010, [(105, 4)])]) (args := [SV.pv (PV.one (Lf.ptr sb so)), SV.pv (PV.agg [Lf.sl p1w0a p1w0n p1w0c, Lf.sl p1w1a
    p1w1n p1w1c, Lf.sl p1w2a p1w2n p1w2c, Lf.int IntKind.i64 p1w3, Lf.int IntKind.i64 p1w4, Lf.int IntKind.u16 p1w5, Lf.int IntKind.i64 p1w6, Lf.int IntKind.i64 p1w7, Lf.int
    IntKind.i64 p1w8, Lf.int IntKind.i64 p1w9, Lf.int IntKind.i64 p1w10, Lf.int IntKind.i64 p1w11, Lf.int IntKind.i64 p1w12, Lf.int IntKind.i64 p1w13]), SV.pv (PV.one (Lf.sl stepsa
    stepsn stepsc))]) (vs := [Value.pointer (some { block := sb, off := so }), Value.agg #[Value.slice p1w0a p1w0n p1w0c, Value.slice p1w1a p1w1n p1w1c, Value.slice p1w2a p1w2n
    p1w2c, Value.int IntKind.i64 p1w3, Value.int IntKind.i64 p1w4, Value.int IntKind.u16 p1w5, Value.int IntKind.i64 p1w6, Value.int IntKind.i64 p1w7, Value.int IntKind.i64 p1w8,
    Value.int IntKind.i64 p1w9, Value.int IntKind.i64 p1w10, Value.int IntKind.i64 p1w11, Value.int IntKind.i64 p1w12, Value.int IntKind.i64 p1w13], Value.slice stepsa stepsn
    stepsc]) Tryz.func77 rfl rfl rfl (Eq.mp (by kernel_rfl) h) 
end Go.Proofs
end
