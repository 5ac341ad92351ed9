/- Part 4: own lemmas, and the conditions of the functions. -/
import Derived.Test.YtedlnndkamgknaaGreatProg
import Derived.Test.YtedlnndkamgknaaGreatP03
section
/- The conditions of the functions, printed by program; each is what the generator reckons (kernel_rfl). -/
namespace Go.Proofs
open Go.Vc
set_option maxRecDepth 100000 in
set_option maxHeartbeats 2000000 in
theorem vc119 (sa : Option Addr) (sn : Nat) (sc : Nat) (ff : Nat) (fi : List Value) (fc : List Value) (w : World) (R : Ending → World → Prop) (h : ∃ (F1 : List Lf → World → Prop),
    ∃ (F2 : List Lf → Nat), (∀ (w2 : World), RowKit.Below w.heap.size w w2 → Kept [] w w2 → F1 [Lf.int IntKind.i64 0, Lf.int IntKind.i64 0] w2) ∧ ∀ (x1 x2 : Int) (w3 : World),
    RowKit.Below w.heap.size w w3 → F1 [Lf.int IntKind.i64 x1, Lf.int IntKind.i64 x2] w3 → (x2 < (↑sn : Int) → ∃ (m1 : Nat), ∃ (m2 : Nat), sa = some { block := m1, off := m2 } ∧ (0
    ≤ x2 ∧ x2 < (↑sn : Int)) ∧ ∃ (x3 : Int), w3.cell? { block := m1, off := m2 + x2.toNat * 1 } = some (Value.int IntKind.i64 x3) ∧ Callable Tryz.prog ff ∧ ∀ (w4 : World),
    RowKit.Below w.heap.size w w4 → Kept [] w3 w4 → Calls Tryz.prog ff (fi ++ [Value.int IntKind.i64 x3] ++ fc).toArray w4 fun (e1 : Ending) (w5 : World) => ∃ (t1 : Bool), e1 =
    Ending.returned (Value.bool t1) ∧ KeepX true w.heap.size [] (fun _ => False) w4 w5 ∧ (t1 = true → ∀ (w6 : World), RowKit.Below w.heap.size w w6 → Kept [] w5 w6 → R
    (Ending.returned (Value.int IntKind.i64 x2)) w6) ∧ (t1 = false → (-9223372036854775808 ≤ x2 + 1 ∧ x2 + (1 : Int) ≤ 9223372036854775807) ∧ ∀ (w7 : World), RowKit.Below
    w.heap.size w w7 → Kept [] w5 w7 → F1 [Lf.int IntKind.i64 x1, Lf.int IntKind.i64 (x2 + 1)] w7 ∧ F2 [Lf.int IntKind.i64 x1, Lf.int IntKind.i64 (x2 + 1)] < F2 [Lf.int IntKind.i64
    x1, Lf.int IntKind.i64 x2])) ∧ ((↑sn : Int) ≤ x2 → ∀ (w8 : World), RowKit.Below w.heap.size w w8 → Kept [] w3 w8 → R (Ending.returned (Value.int IntKind.i64 (-1))) w8)) : Calls
    Tryz.prog 119 #[Value.slice sa sn sc, Value.func (Fn.func ff) fi.toArray fc.toArray] w R := calls_of_vc (pure := true) (wrapAt := []) (muts := []) (esc := []) (args := [SV.pv
    (PV.one (Lf.sl sa sn sc)), SV.pv (PV.one (Lf.fv ff fi fc))]) (vs := [Value.slice sa sn sc, Value.func (Fn.func ff) fi.toArray fc.toArray]) Tryz.func119 rfl rfl rfl (Eq.mp (by
    kernel_rfl) h) 
set_option maxRecDepth 100000 in
set_option maxHeartbeats 2000000 in
theorem vc60 (sa : Option Addr) (sn : Nat) (sc : Nat) (ff : Nat) (fi : List Value) (fc : List Value) (w : World) (R : Ending → World → Prop) (h : ∀ (w1 : World), RowKit.Below
    w.heap.size w w1 → Kept [] w w1 → Calls Tryz.prog 119 #[Value.slice sa sn sc, Value.func (Fn.func ff) fi.toArray fc.toArray] w1 fun (e1 : Ending) (w2 : World) => ∃ (x1 : Int),
    e1 = Ending.returned (Value.int IntKind.i64 x1) ∧ KeepX true w.heap.size [] (fun _ => False) w1 w2 ∧ ∀ (w3 : World), RowKit.Below w.heap.size w w3 → Kept [] w2 w3 → R
    (Ending.returned (Value.bool (decide (0 ≤ x1)))) w3) : Calls Tryz.prog 60 #[Value.slice sa sn sc, Value.func (Fn.func ff) fi.toArray fc.toArray] w R := calls_of_vc (pure :=
    true) (wrapAt := []) (muts := []) (esc := []) (args := [SV.pv (PV.one (Lf.sl sa sn sc)), SV.pv (PV.one (Lf.fv ff fi fc))]) (vs := [Value.slice sa sn sc, Value.func (Fn.func ff)
    fi.toArray fc.toArray]) Tryz.func60 rfl rfl rfl (Eq.mp (by kernel_rfl) h) 
set_option maxRecDepth 100000 in
set_option maxHeartbeats 2000000 in
theorem vc190 (n : Int) (cap0b : Nat) (cap1b : Nat) (w : World) (R : Ending → World → Prop) (h : ∃ (x1 : Int), w.cell? { block := cap0b, off := 0 } = some (Value.int IntKind.i64
    x1) ∧ (n < x1 → ∀ (w1 : World), RowKit.Below w.heap.size w w1 → Kept [] w w1 → R (Ending.returned (Value.bool true)) w1) ∧ (x1 ≤ n → ∃ (x2 : Int), w.cell?
    { block := cap1b, off := 0 } = some (Value.int IntKind.i64 x2) ∧ ∀ (w2 : World), RowKit.Below w.heap.size w w2 → Kept [] w w2 → R (Ending.returned (Value.bool (decide (x2 <
    n)))) w2)) : Calls Tryz.prog 190 #[Value.int IntKind.i64 n, Value.pointer (some { block := cap0b, off := 0 }), Value.pointer (some { block := cap1b, off := 0 })] w R :=
    calls_of_vc (pure := true) (wrapAt := []) (muts := []) (esc := []) (args := [SV.pv (PV.one (Lf.int IntKind.i64 n)), SV.pv (PV.one (Lf.ptr cap0b 0)), SV.pv (PV.one (Lf.ptr cap1b
    0))]) (vs := [Value.int IntKind.i64 n, Value.pointer (some { block := cap0b, off := 0 }), Value.pointer (some { block := cap1b, off := 0 })]) Tryz.func190 rfl rfl rfl (Eq.mp
    (by kernel_rfl) h) 
set_option maxRecDepth 100000 in
set_option maxHeartbeats 2000000 in
theorem vc121 (least : Int) (most : Int) (la : Option Addr) (ln : Nat) (lc : Nat) (w : World) (R : Ending → World → Prop) (h : ∀ (m1 : Nat), w.heap.size ≤ m1 → ∀ (m2 : Nat),
    w.heap.size ≤ m2 → ∀ (w1 : World), RowKit.Below w.heap.size w w1 → Kept [m2, m1] w w1 → w1.heap[m1]? = some (Obj.cells #[Value.int IntKind.i64 least] 3) → w1.heap[m2]? = some
    (Obj.cells #[Value.int IntKind.i64 most] 3) → Calls Tryz.prog 60 #[Value.slice la ln lc, Value.func (Fn.func 190) #[] #[Value.pointer (some { block := m1, off := 0 }),
    Value.pointer (some { block := m2, off := 0 })]] w1 fun (e1 : Ending) (w2 : World) => ∃ (t1 : Bool), e1 = Ending.returned (Value.bool t1) ∧ KeepX true w.heap.size [m2, m1] (fun
    _ => False) w1 w2 ∧ ∀ (w3 : World), RowKit.Below w.heap.size w w3 → Kept [m2, m1] w2 w3 → R (Ending.returned (Value.bool !t1)) w3) : Calls Tryz.prog 121 #[Value.int IntKind.i64
    least, Value.int IntKind.i64 most, Value.slice la ln lc] w R := calls_of_vc (pure := true) (wrapAt := []) (muts := []) (esc := []) (args := [SV.pv (PV.one (Lf.int IntKind.i64
    least)), SV.pv (PV.one (Lf.int IntKind.i64 most)), SV.pv (PV.one (Lf.sl la ln lc))]) (vs := [Value.int IntKind.i64 least, Value.int IntKind.i64 most, Value.slice la ln lc])
    Tryz.func121 rfl rfl rfl (Eq.mp (by kernel_rfl) h) 
end Go.Proofs
end
section
/- Contracts of the small functions. -/
namespace Go.Proofs.RT
open Go.Vc Go.RowKit Go.Proofs

abbrev I (n : Int) : Value := .int .i64 n
abbrev Sp := Int × Int
abbrev spv (s : Sp) : Value := .agg #[I s.1, I s.2]
theorem getElem_of_lt {α : Type} {l : List α} {i : Nat} (h : i < l.length) : l[i]? = some l[i] := List.getElem?_eq_getElem h

/-- The place of the first one, or -1. -/
def idxOf {α : Type} (l : List α) (p : α → Bool) : Int := if l.any p then ((l.findIdx p : Nat) : Int) else -1
theorem idxOf_nonneg {α : Type} {l : List α} {p : α → Bool} : 0 ≤ idxOf l p ↔ l.any p = true := by
  unfold idxOf; split <;> simp_all
theorem idxOf_dec {α : Type} {l : List α} {p : α → Bool} : decide (0 ≤ idxOf l p) = l.any p := by
  rw [Bool.eq_iff_iff, decide_eq_true_iff, idxOf_nonneg]
theorem idxOf_hit {α : Type} {l : List α} {p : α → Bool} {i : Nat} (hi : i < l.length) (hno : ∀ j, j < i → ∀ y, l[j]? = some y → p y = false) (hp : p l[i] = true) : idxOf l p = i := by
  have hany : l.any p = true := List.any_eq_true.2 ⟨_, List.getElem_mem hi, hp⟩
  have hfi : l.findIdx p = i := (List.findIdx_eq hi).2 ⟨hp, fun j hj => hno j hj _ (getElem_of_lt (by omega))⟩
  unfold idxOf
  rw [if_pos hany, hfi]
theorem idxOf_miss {α : Type} {l : List α} {p : α → Bool} (hno : ∀ j, j < l.length → ∀ y, l[j]? = some y → p y = false) : idxOf l p = -1 := by
  unfold idxOf
  rw [if_neg]
  intro hany
  obtain ⟨y, hy, hp⟩ := List.any_eq_true.1 hany
  obtain ⟨i, hi, rfl⟩ := List.mem_iff_getElem.1 hy
  rw [hno i hi _ (getElem_of_lt hi)] at hp
  cases hp
theorem no_step {α : Type} {l : List α} {p : α → Bool} {n : Nat} (hn : n < l.length) (hno : ∀ j, j < n → ∀ y, l[j]? = some y → p y = false) (hp : p l[n] = false) : ∀ j, j < n + 1 → ∀ y, l[j]? = some y → p y = false := fun j hj y hy => by
  by_cases e : j < n
  · exact hno j e y hy
  · have : j = n := by omega
    subst this
    rw [getElem_of_lt hn] at hy
    obtain rfl := Option.some.inj hy
    exact hp

/-- A test that a function value makes, of values of a kind. -/
def FnOk {α : Type} (enc : α → Value) (f : Nat) (fi fc : List Value) (p : α → Bool) (l : List α) (B : Nat) (w0 : World) : Prop :=
  Callable Tryz.prog f ∧ ∀ x ∈ l, ∀ w, Below B w0 w → Calls Tryz.prog f (fi ++ [enc x] ++ fc).toArray w (Pure w (.bool (p x)))
theorem FnOk.keep {α : Type} {enc : α → Value} {f : Nat} {fi fc : List Value} {p : α → Bool} {l : List α} {w0 w1 : World} (h : FnOk enc f fi fc p l w0.heap.size w0) (hb : Below w0.heap.size w0 w1) : FnOk enc f fi fc p l w1.heap.size w1 :=
  ⟨h.1, fun x hx w hw => h.2 x hx w (hb.trans (hw.mono hb.size))⟩

def spansV (l : List Sp) : List Value := l.flatMap fun s => [I s.1, I s.2]
theorem index_int {a : Option Addr} {c f : Nat} {fi fc : List Value} {p : Int → Bool} {l : List Int} {w : World} (hc : Cells w a (ints l)) (hl : (l.length : Int) ≤ 9223372036854775807)
    (hf : FnOk I f fi fc p l w.heap.size w) : Calls Tryz.prog 119 #[.slice a l.length c, .func (.func f) fi.toArray fc.toArray] w (Pure w (I (idxOf l p))) := by
  refine vc119 _ _ _ _ _ _ w _ ?_
  refine ⟨fun ls _ => match ls with | [.int _ _, .int _ x] => 0 ≤ x ∧ x ≤ l.length ∧ ∀ i, i < x.toNat → ∀ y, l[i]? = some y → p y = false | _ => False, fun ls => match ls with | [.int _ _, .int _ x] => l.length - x.toNat | _ => 0, fun w1 hb _ => ⟨by omega, by omega, fun i hi => by omega⟩, ?_⟩
  rintro x1 x2 w2 hb2 ⟨h0, hn, hno⟩
  refine ⟨fun hlt => ?_, fun hge w7 hb7 _ => ⟨by rw [idxOf_miss fun j hj => hno j (by omega)], hb7⟩⟩
  have hi : x2.toNat < l.length := by omega
  obtain ⟨b, o, rfl, d0⟩ := hc x2.toNat _ (ints_get (getElem_of_lt hi))
  refine ⟨b, o, rfl, ⟨h0, hlt⟩, _, cell_at' (cell_keep hb2 d0) (by omega), hf.1, fun w3 hb3 _ => Pure.calls (hf.2 _ (List.getElem_mem hi) w3 hb3) fun w4 hb4 => ⟨p l[x2.toNat], rfl, .all hb4, fun ht w5 hb5 _ => ⟨by rw [idxOf_hit hi hno ht, Int.toNat_of_nonneg h0], hb5⟩, fun ht => ⟨by omega, fun w6 hb6 _ => ⟨⟨by omega, by omega, ?_⟩, ?_⟩⟩⟩⟩
  · rw [show (x2 + 1).toNat = x2.toNat + 1 by omega]
    exact no_step hi hno ht
  · show l.length - (x2 + 1).toNat < l.length - x2.toNat
    omega
theorem contains_int {a : Option Addr} {c f : Nat} {fi fc : List Value} {p : Int → Bool} {l : List Int} {w : World} (hc : Cells w a (ints l)) (hl : (l.length : Int) ≤ 9223372036854775807)
    (hf : FnOk I f fi fc p l w.heap.size w) : Calls Tryz.prog 60 #[.slice a l.length c, .func (.func f) fi.toArray fc.toArray] w (Pure w (.bool (l.any p))) :=
  vc60 _ _ _ _ _ _ w _ fun w1 hb1 _ => Pure.calls (index_int (c := c) (hc.keep hb1) hl (hf.keep hb1)) fun w2 hb2 => ⟨_, rfl, .all hb2, fun w3 hb3 _ => ⟨by rw [idxOf_dec], hb3⟩⟩

set_option maxRecDepth 100000 in
theorem withinR_any {a b : Int} {la : Option Addr} {c : Nat} {l : List Int} {w : World} (hc : Cells w la (ints l)) (hl : (l.length : Int) ≤ 9223372036854775807) :
    Calls Tryz.prog 121 #[I a, I b, .slice la l.length c] w (Pure w (.bool (l.all fun n => decide (a ≤ n ∧ n ≤ b)))) := by
  refine vc121 _ _ _ _ _ w _ fun m1 h1 m2 h2 w1 hb1 hk1 hc1 hc2 => ?_
  refine Pure.calls (contains_int (fi := []) (p := fun n => decide (n < a) || decide (b < n)) (hc.keep hb1) hl ⟨callOk_run (by rfl), fun x hx w2 hb2 => ?_⟩) fun w2 hb2 => ⟨_, rfl, .all hb2, fun w3 hb3 _ => ⟨?_, hb3⟩⟩
  · have k1 : w2.cell? ⟨m1, 0, none⟩ = some (I a) := cell_keep hb2 (cell_obj (vs := [I a]) hc1 rfl)
    have k2 : w2.cell? ⟨m2, 0, none⟩ = some (I b) := cell_keep hb2 (cell_obj (vs := [I b]) hc2 rfl)
    refine vc190 _ _ _ w2 _ ⟨a, k1, fun hlt w3 hb3 _ => ⟨?_, hb3⟩, fun hge => ⟨b, k2, fun w3 hb3 _ => ⟨?_, hb3⟩⟩⟩
    · simp [hlt]
    · simp [Int.not_lt.2 hge]
  · congr 2
    rw [Bool.eq_iff_iff]
    simp [List.all_eq_true]
theorem inR_any {w : World} {m : Nat} {a b x : Int} (h : w.heap[m]? = some (.cells #[I x] 3 (0, 0))) : Calls Tryz.prog 121 #[I a, I b, .slice (some ⟨m, 0, none⟩) 1 1] w (Pure w (.bool (decide (a ≤ x ∧ x ≤ b)))) := by
  have := withinR_any (l := [x]) (a := a) (b := b) (c := 1) (Cells.obj (vs := [I x]) h) (by simp)
  simpa using this
theorem load_int {w wj : World} {a : Option Addr} {l : List Int} {i : Int} {X : Nat → Nat → Int → Prop} (h : Cells w a (ints l)) (hb : Below w.heap.size w wj) (hi0 : 0 ≤ i ∧ i < (l.length : Int)) (k : ∀ m o, m < w.heap.size → X m o (l.getD i.toNat 0)) : ∃ m o, a = some ⟨m, o, none⟩ ∧ (0 ≤ i ∧ i < (l.length : Int)) ∧ ∃ x0 : Int, wj.cell? ⟨m, o + i.toNat * 1, none⟩ = some (I x0) ∧ X m o x0 := by
  have hi : i.toNat < l.length := by omega
  have hg : l.getD i.toNat 0 = l[i.toNat] := by simp [List.getD_eq_getElem?_getD, getElem_of_lt hi]
  obtain ⟨b0, o0, e0, d0⟩ := h i.toNat _ (ints_get (getElem_of_lt hi))
  exact ⟨b0, o0, e0, hi0, _, cell_at' (cell_keep hb d0) (by omega), by have := k b0 o0 (cell_lt d0); rw [hg] at this; exact this⟩
def modI (n b : Int) : Int := (n.tmod b + b).tmod b
def downI (n b : Int) : Int := (n - modI n b).tdiv b
/-- An era of a town: its first instant, its last one, its offset. -/
abbrev Era := Int × Int × Int
abbrev eraV (x : Era) : Value := .agg #[I x.1, I x.2.1, I x.2.2]
def okEra (x : Era) : Prop := (0 ≤ x.1 ∧ x.1 ≤ 3155760000) ∧ (-1 ≤ x.2.1 ∧ x.2.1 ≤ 3155760000) ∧ -43200 ≤ x.2.2 ∧ x.2.2 ≤ 43200
def minutesI (x : Era) : Sp := (downI (x.1 + x.2.2) 60, downI (x.2.1 + x.2.2) 60)
def instantsI (x : Era) (m : Int) : Sp := (max x.1 (m * 60 - x.2.2), min x.2.1 (m * 60 - x.2.2 + 60 - 1))
/-- A town: its offset at first, its changes. -/
abbrev Zn := Int × List Sp
abbrev znV (z : Zn) (a : Option Addr) (c : Nat) : Value := .agg #[I z.1, .slice a z.2.length c]
def okOff (n : Int) : Prop := -43200 ≤ n ∧ n ≤ 43200
structure OkZ (z : Zn) : Prop where
  o : okOff z.1
  n : z.2.length ≤ 12
  c : ∀ i, i < z.2.length → ((if i = 0 then 0 else (z.2.getD (i - 1) (0, 0)).1) + 1 ≤ (z.2.getD i (0, 0)).1 ∧ (z.2.getD i (0, 0)).1 ≤ 3155760000) ∧ okOff (z.2.getD i (0, 0)).2
def before (z : Zn) (i : Int) : Int := if i = 0 then 0 else (z.2.getD (i.toNat - 1) (0, 0)).1
end Go.Proofs.RT
end
section
/- Contracts of the functions of zone. -/
namespace Go.Proofs.RT
open Go.Vc Go.RowKit Go.Proofs
end Go.Proofs.RT
end
section
/- The conditions of the functions, printed by program; each is what the generator reckons (kernel_rfl). -/
namespace Go.Proofs
open Go.Vc
set_option maxRecDepth 100000 in
set_option maxHeartbeats 2000000 in
theorem vc138 (s : Int) (tower : Int) (w : World) (R : Ending → World → Prop) (h : 0 ≤ tower ∧ ∀ (w1 : World), RowKit.Below w.heap.size w w1 → Kept [] w w1 → R (Ending.returned
    (Value.bool (IntKind.i64.wrap (↑(BitVec.ofInt IntKind.i64.bits (s.fdiv (2 ^ min tower.toNat IntKind.i64.bits)) &&& BitVec.ofInt IntKind.i64.bits 1).toNat : Int) == 1))) w1) :
    Calls Tryz.prog 138 #[Value.int IntKind.i64 s, Value.int IntKind.i64 tower] w R := calls_of_vc (pure := true) (wrapAt := []) (muts := []) (esc := []) (args := [SV.pv (PV.one
    (Lf.int IntKind.i64 s)), SV.pv (PV.one (Lf.int IntKind.i64 tower))]) (vs := [Value.int IntKind.i64 s, Value.int IntKind.i64 tower]) Tryz.func138 rfl rfl rfl (Eq.mp (by
    kernel_rfl) h) 
set_option maxRecDepth 100000 in
set_option maxHeartbeats 2000000 in
theorem vc139 (s : Int) (tower : Int) (w : World) (R : Ending → World → Prop) (h : 0 ≤ tower ∧ ∀ (w1 : World), RowKit.Below w.heap.size w w1 → Kept [] w w1 → R (Ending.returned
    (Value.int IntKind.i64 (IntKind.i64.wrap (↑(BitVec.ofInt IntKind.i64.bits s ||| BitVec.ofInt IntKind.i64.bits (IntKind.i64.wrap (1 * 2 ^ min tower.toNat
    IntKind.i64.bits))).toNat : Int)))) w1) : Calls Tryz.prog 139 #[Value.int IntKind.i64 s, Value.int IntKind.i64 tower] w R := calls_of_vc (pure := true) (wrapAt := []) (muts :=
    []) (esc := []) (args := [SV.pv (PV.one (Lf.int IntKind.i64 s)), SV.pv (PV.one (Lf.int IntKind.i64 tower))]) (vs := [Value.int IntKind.i64 s, Value.int IntKind.i64 tower])
    Tryz.func139 rfl rfl rfl (Eq.mp (by kernel_rfl) h) 
set_option maxRecDepth 100000 in
set_option maxHeartbeats 2000000 in
theorem vc198 (p0w0a : Option Addr) (p0w0n : Nat) (p0w0c : Nat) (p0w1a : Option Addr) (p0w1n : Nat) (p0w1c : Nat) (p0w2a : Option Addr) (p0w2n : Nat) (p0w2c : Nat) (p0w3 : Int)
    (p0w4 : Int) (p0w5 : Int) (p0w6 : Int) (p0w7 : Int) (p0w8 : Int) (p0w9 : Int) (p0w10 : Int) (p0w11 : Int) (p0w12 : Int) (p0w13 : Int) (w : World) (R : Ending → World → Prop) (h
    : ∀ (m1 : Nat), w.heap.size ≤ m1 → (p0w7 < p0w13 → ∀ (w1 : World), RowKit.Below w.heap.size w w1 → Kept [m1] w w1 → R (Ending.returned (Value.int IntKind.i64 110)) w1) ∧ (p0w13
    ≤ p0w7 → ∀ (w2 : World), RowKit.Below w.heap.size w w2 → Kept [m1] w w2 → R (Ending.returned (Value.int IntKind.i64 0)) w2)) : Calls Tryz.prog 198 #[Value.agg #[Value.slice
    p0w0a p0w0n p0w0c, Value.slice p0w1a p0w1n p0w1c, Value.slice p0w2a p0w2n p0w2c, Value.int IntKind.i64 p0w3, Value.int IntKind.i64 p0w4, Value.int IntKind.u16 p0w5, Value.int
    IntKind.i64 p0w6, Value.int IntKind.i64 p0w7, Value.int IntKind.i64 p0w8, Value.int IntKind.i64 p0w9, Value.int IntKind.i64 p0w10, Value.int IntKind.i64 p0w11, Value.int
    IntKind.i64 p0w12, Value.int IntKind.i64 p0w13]] w R := calls_of_vc (pure := true) (wrapAt := []) (muts := []) (esc := []) (args := [SV.pv (PV.agg [Lf.sl p0w0a p0w0n p0w0c,
    Lf.sl p0w1a p0w1n p0w1c, Lf.sl p0w2a p0w2n p0w2c, Lf.int IntKind.i64 p0w3, Lf.int IntKind.i64 p0w4, Lf.int IntKind.u16 p0w5, Lf.int IntKind.i64 p0w6, Lf.int IntKind.i64 p0w7,
    Lf.int IntKind.i64 p0w8, Lf.int IntKind.i64 p0w9, Lf.int IntKind.i64 p0w10, Lf.int IntKind.i64 p0w11, Lf.int IntKind.i64 p0w12, Lf.int IntKind.i64 p0w13])]) (vs := [Value.agg
    #[Value.slice p0w0a p0w0n p0w0c, Value.slice p0w1a p0w1n p0w1c, Value.slice p0w2a p0w2n p0w2c, Value.int IntKind.i64 p0w3, Value.int IntKind.i64 p0w4, Value.int IntKind.u16
    p0w5, Value.int IntKind.i64 p0w6, Value.int IntKind.i64 p0w7, Value.int IntKind.i64 p0w8, Value.int IntKind.i64 p0w9, Value.int IntKind.i64 p0w10, Value.int IntKind.i64 p0w11,
    Value.int IntKind.i64 p0w12, Value.int IntKind.i64 p0w13]]) Tryz.func198 rfl rfl rfl (Eq.mp (by kernel_rfl) h) 
set_option maxRecDepth 100000 in
set_option maxHeartbeats 2000000 in
theorem vc137 (p0wb : Nat) (p0wo : Nat) (minutes : Int) (w : World) (R : Ending → World → Prop) (h : ∃ (x1 : Int), w.cell? { block := p0wb, off := p0wo + 12 } = some (Value.int
    IntKind.i64 x1) ∧ (-9223372036854775808 ≤ x1 + minutes ∧ x1 + minutes ≤ 9223372036854775807) ∧ ∃ (x2 : Int), w.cell? { block := p0wb, off := p0wo + 13 } = some (Value.int
    IntKind.i64 x2) ∧ ∀ (w1 : World), KeptIn [(0, w.heap.size)] [] w w1 → RunsTo Tryz.prog ((Instr.storeAt 3 (Value.pointer (some { block := p0wb, off := p0wo + 12 })) (Value.int
    IntKind.i64 (x1 + minutes))) >>= fun _ => pure (Value.tuple #[])) w1 fun (v1 : Value) (w2 : World) => KeepX false w.heap.size [] (fun _ => False) w1 w2 ∧ (-9223372036854775808
    ≤ x2 + minutes ∧ x2 + minutes ≤ 9223372036854775807) ∧ ∀ (w3 : World), KeptIn [(0, w2.heap.size)] [] w2 w3 → RunsTo Tryz.prog ((Instr.storeAt 3 (Value.pointer (some
    { block := p0wb, off := p0wo + 13 })) (Value.int IntKind.i64 (x2 + minutes))) >>= fun _ => pure (Value.tuple #[])) w3 fun (v2 : Value) (w4 : World) => KeepX false w.heap.size
    [] (fun _ => False) w3 w4 ∧ ∃ (x3 : Int), w4.cell? { block := p0wb, off := p0wo + 12 } = some (Value.int IntKind.i64 x3) ∧ ∃ (x4 : Int), w4.cell?
    { block := p0wb, off := p0wo + 5 + 3 } = some (Value.int IntKind.i64 x4) ∧ (x4 < x3 → ∀ (w5 : World), Kept [] w4 w5 → R (Ending.returned (Value.int IntKind.i64 111)) w5) ∧ (x3
    ≤ x4 → ∃ (a1 : Option Addr), ∃ (m3 : Nat), ∃ (m4 : Nat), ∃ (a2 : Option Addr), ∃ (m5 : Nat), ∃ (m6 : Nat), ∃ (a3 : Option Addr), ∃ (m7 : Nat), ∃ (m8 : Nat), ∃ (x5 : Int), ∃ (x6
    : Int), ∃ (x7 : Int), ∃ (x8 : Int), ∃ (x9 : Int), ∃ (x10 : Int), ∃ (x11 : Int), ∃ (x12 : Int), ∃ (x13 : Int), ∃ (x14 : Int), ∃ (x15 : Int), w4.cell?
    { block := p0wb, off := p0wo } = some (Value.slice a1 m3 m4) ∧ w4.cell? { block := p0wb, off := p0wo + 1 } = some (Value.slice a2 m5 m6) ∧ w4.cell?
    { block := p0wb, off := p0wo + 1 + 1 } = some (Value.slice a3 m7 m8) ∧ w4.cell? { block := p0wb, off := p0wo + 1 + 1 + 1 } = some (Value.int IntKind.i64 x5) ∧ w4.cell?
    { block := p0wb, off := p0wo + 1 + 1 + 1 + 1 } = some (Value.int IntKind.i64 x6) ∧ w4.cell? { block := p0wb, off := p0wo + 1 + 1 + 1 + 1 + 1 } = some (Value.int IntKind.u16 x7)
    ∧ w4.cell? { block := p0wb, off := p0wo + 1 + 1 + 1 + 1 + 1 + 1 } = some (Value.int IntKind.i64 x8) ∧ w4.cell? { block := p0wb, off := p0wo + 1 + 1 + 1 + 1 + 1 + 1 + 1 } = some
    (Value.int IntKind.i64 x9) ∧ w4.cell? { block := p0wb, off := p0wo + 1 + 1 + 1 + 1 + 1 + 1 + 1 + 1 } = some (Value.int IntKind.i64 x10) ∧ w4.cell?
    { block := p0wb, off := p0wo + 1 + 1 + 1 + 1 + 1 + 1 + 1 + 1 + 1 } = some (Value.int IntKind.i64 x11) ∧ w4.cell?
    { block := p0wb, off := p0wo + 1 + 1 + 1 + 1 + 1 + 1 + 1 + 1 + 1 + 1 } = some (Value.int IntKind.i64 x12) ∧ w4.cell?
    { block := p0wb, off := p0wo + 1 + 1 + 1 + 1 + 1 + 1 + 1 + 1 + 1 + 1 + 1 } = some (Value.int IntKind.i64 x13) ∧ w4.cell?
    { block := p0wb, off := p0wo + 1 + 1 + 1 + 1 + 1 + 1 + 1 + 1 + 1 + 1 + 1 + 1 } = some (Value.int IntKind.i64 x14) ∧ w4.cell?
    { block := p0wb, off := p0wo + 1 + 1 + 1 + 1 + 1 + 1 + 1 + 1 + 1 + 1 + 1 + 1 + 1 } = some (Value.int IntKind.i64 x15) ∧ ∀ (w6 : World), Kept [] w4 w6 → Calls Tryz.prog 198
    #[Value.agg #[Value.slice a1 m3 m4, Value.slice a2 m5 m6, Value.slice a3 m7 m8, Value.int IntKind.i64 x5, Value.int IntKind.i64 x6, Value.int IntKind.u16 x7, Value.int
    IntKind.i64 x8, Value.int IntKind.i64 x9, Value.int IntKind.i64 x10, Value.int IntKind.i64 x11, Value.int IntKind.i64 x12, Value.int IntKind.i64 x13, Value.int IntKind.i64 x14,
    Value.int IntKind.i64 x15]] w6 fun (e1 : Ending) (w7 : World) => ∃ (x16 : Int), e1 = Ending.returned (Value.int IntKind.i64 x16) ∧ KeepX false w.heap.size [] (fun _ => False)
    w6 w7 ∧ ∀ (w8 : World), Kept [] w7 w8 → R (Ending.returned (Value.int IntKind.i64 x16)) w8)) : Calls Tryz.prog 137 #[Value.pointer (some { block := p0wb, off := p0wo }),
    Value.int IntKind.i64 minutes] w R := calls_of_vc (pure := false) (wrapAt := []) (muts := []) (esc := []) (args := [SV.pv (PV.one (Lf.ptr p0wb p0wo)), SV.pv (PV.one (Lf.int
    IntKind.i64 minutes))]) (vs := [Value.pointer (some { block := p0wb, off := p0wo }), Value.int IntKind.i64 minutes]) Tryz.func137 rfl rfl rfl (Eq.mp (by kernel_rfl) h) 
set_option maxRecDepth 100000 in
set_option maxHeartbeats 2000000 in
theorem vc135 (p0wb : Nat) (p0wo : Nat) (w : World) (R : Ending → World → Prop) (h : ∃ (x1 : Int), w.cell? { block := p0wb, off := p0wo + 13 } = some (Value.int IntKind.i64 x1) ∧ ∃
    (x2 : Int), w.cell? { block := p0wb, off := p0wo + 0 + 3 } = some (Value.int IntKind.i64 x2) ∧ ∀ (w1 : World), KeptIn [(0, w.heap.size)] [] w w1 → RunsTo Tryz.prog
    ((Instr.storeAt 3 (Value.pointer (some { block := p0wb, off := p0wo + 12 })) (Value.int IntKind.i64 0)) >>= fun _ => pure (Value.tuple #[])) w1 fun (v1 : Value) (w2 : World) =>
    KeepX false w.heap.size [] (fun _ => False) w1 w2 ∧ (-9223372036854775808 ≤ x1 + x2 ∧ x1 + x2 ≤ 9223372036854775807) ∧ ∀ (w3 : World), KeptIn [(0, w2.heap.size)] [] w2 w3 →
    RunsTo Tryz.prog ((Instr.storeAt 3 (Value.pointer (some { block := p0wb, off := p0wo + 13 })) (Value.int IntKind.i64 (x1 + x2))) >>= fun _ => pure (Value.tuple #[])) w3 fun (v2
    : Value) (w4 : World) => KeepX false w.heap.size [] (fun _ => False) w3 w4 ∧ ∃ (a1 : Option Addr), ∃ (m3 : Nat), ∃ (m4 : Nat), ∃ (a2 : Option Addr), ∃ (m5 : Nat), ∃ (m6 : Nat),
    ∃ (a3 : Option Addr), ∃ (m7 : Nat), ∃ (m8 : Nat), ∃ (x3 : Int), ∃ (x4 : Int), ∃ (x5 : Int), ∃ (x6 : Int), ∃ (x7 : Int), ∃ (x8 : Int), ∃ (x9 : Int), ∃ (x10 : Int), ∃ (x11 :
    Int), ∃ (x12 : Int), ∃ (x13 : Int), w4.cell? { block := p0wb, off := p0wo } = some (Value.slice a1 m3 m4) ∧ w4.cell? { block := p0wb, off := p0wo + 1 } = some (Value.slice a2
    m5 m6) ∧ w4.cell? { block := p0wb, off := p0wo + 1 + 1 } = some (Value.slice a3 m7 m8) ∧ w4.cell? { block := p0wb, off := p0wo + 1 + 1 + 1 } = some (Value.int IntKind.i64 x3) ∧
    w4.cell? { block := p0wb, off := p0wo + 1 + 1 + 1 + 1 } = some (Value.int IntKind.i64 x4) ∧ w4.cell? { block := p0wb, off := p0wo + 1 + 1 + 1 + 1 + 1 } = some (Value.int
    IntKind.u16 x5) ∧ w4.cell? { block := p0wb, off := p0wo + 1 + 1 + 1 + 1 + 1 + 1 } = some (Value.int IntKind.i64 x6) ∧ w4.cell?
    { block := p0wb, off := p0wo + 1 + 1 + 1 + 1 + 1 + 1 + 1 } = some (Value.int IntKind.i64 x7) ∧ w4.cell? { block := p0wb, off := p0wo + 1 + 1 + 1 + 1 + 1 + 1 + 1 + 1 } = some
    (Value.int IntKind.i64 x8) ∧ w4.cell? { block := p0wb, off := p0wo + 1 + 1 + 1 + 1 + 1 + 1 + 1 + 1 + 1 } = some (Value.int IntKind.i64 x9) ∧ w4.cell?
    { block := p0wb, off := p0wo + 1 + 1 + 1 + 1 + 1 + 1 + 1 + 1 + 1 + 1 } = some (Value.int IntKind.i64 x10) ∧ w4.cell?
    { block := p0wb, off := p0wo + 1 + 1 + 1 + 1 + 1 + 1 + 1 + 1 + 1 + 1 + 1 } = some (Value.int IntKind.i64 x11) ∧ w4.cell?
    { block := p0wb, off := p0wo + 1 + 1 + 1 + 1 + 1 + 1 + 1 + 1 + 1 + 1 + 1 + 1 } = some (Value.int IntKind.i64 x12) ∧ w4.cell?
    { block := p0wb, off := p0wo + 1 + 1 + 1 + 1 + 1 + 1 + 1 + 1 + 1 + 1 + 1 + 1 + 1 } = some (Value.int IntKind.i64 x13) ∧ ∀ (w5 : World), Kept [] w4 w5 → Calls Tryz.prog 198
    #[Value.agg #[Value.slice a1 m3 m4, Value.slice a2 m5 m6, Value.slice a3 m7 m8, Value.int IntKind.i64 x3, Value.int IntKind.i64 x4, Value.int IntKind.u16 x5, Value.int
    IntKind.i64 x6, Value.int IntKind.i64 x7, Value.int IntKind.i64 x8, Value.int IntKind.i64 x9, Value.int IntKind.i64 x10, Value.int IntKind.i64 x11, Value.int IntKind.i64 x12,
    Value.int IntKind.i64 x13]] w5 fun (e1 : Ending) (w6 : World) => ∃ (x14 : Int), e1 = Ending.returned (Value.int IntKind.i64 x14) ∧ KeepX false w.heap.size [] (fun _ => False)
    w5 w6 ∧ ∀ (w7 : World), Kept [] w6 w7 → R (Ending.returned (Value.int IntKind.i64 x14)) w7) : Calls Tryz.prog 135 #[Value.pointer (some { block := p0wb, off := p0wo })] w R :=
    calls_of_vc (pure := false) (wrapAt := []) (muts := []) (esc := []) (args := [SV.pv (PV.one (Lf.ptr p0wb p0wo))]) (vs := [Value.pointer (some { block := p0wb, off := p0wo })])
    Tryz.func135 rfl rfl rfl (Eq.mp (by kernel_rfl) h) 
set_option maxRecDepth 100000 in
set_option maxHeartbeats 2000000 in
theorem vc136 (p0wb : Nat) (p0wo : Nat) (tower : Int) (w : World) (R : Ending → World → Prop) (h : ∃ (a1 : Option Addr), ∃ (m1 : Nat), ∃ (m2 : Nat), w.cell?
    { block := p0wb, off := p0wo + 0 + 0 } = some (Value.slice a1 m1 m2) ∧ ∃ (m3 : Nat), ∃ (m4 : Nat), a1 = some { block := m3, off := m4 } ∧ (0 ≤ tower ∧ tower < (↑m1 : Int)) ∧ ∃
    (x1 : Int), ∃ (x2 : Int), ∃ (x3 : Int), ∃ (x4 : Int), ∃ (x5 : Int), w.cell? { block := m3, off := m4 + tower.toNat * 5 } = some (Value.int IntKind.i64 x1) ∧ w.cell?
    { block := m3, off := m4 + tower.toNat * 5 + 1 } = some (Value.int IntKind.i64 x2) ∧ w.cell? { block := m3, off := m4 + tower.toNat * 5 + 1 + 1 } = some (Value.int IntKind.u16
    x3) ∧ w.cell? { block := m3, off := m4 + tower.toNat * 5 + 1 + 1 + 1 } = some (Value.int IntKind.i64 x4) ∧ w.cell? { block := m3, off := m4 + tower.toNat * 5 + 1 + 1 + 1 + 1 }
    = some (Value.int IntKind.i64 x5) ∧ ∀ (m5 : Nat), w.heap.size ≤ m5 → ∃ (x6 : Int), w.cell? { block := p0wb, off := p0wo + 11 } = some (Value.int IntKind.i64 x6) ∧ (p0wb <
    w.heap.size ∨ p0wb ≠ m5) ∧ (-9223372036854775808 ≤ x6 + x4 ∧ x6 + x4 ≤ 9223372036854775807) ∧ ∀ (w1 : World), KeptIn [(0, w.heap.size)] [m5] w w1 → RunsTo Tryz.prog
    ((Instr.storeAt 3 (Value.pointer (some { block := p0wb, off := p0wo + 11 })) (Value.int IntKind.i64 (x6 + x4))) >>= fun _ => pure (Value.tuple #[])) w1 fun (v1 : Value) (w2 :
    World) => KeepX false w.heap.size [m5] (fun _ => False) w1 w2 ∧ ∃ (x7 : Int), w2.cell? { block := p0wb, off := p0wo + 10 } = some (Value.int IntKind.i64 x7) ∧ (p0wb <
    w.heap.size ∨ p0wb ≠ m5) ∧ ∀ (w3 : World), Kept [m5] w2 w3 → Calls Tryz.prog 138 #[Value.int IntKind.i64 x7, Value.int IntKind.i64 tower] w3 fun (e1 : Ending) (w4 : World) => ∃
    (t1 : Bool), e1 = Ending.returned (Value.bool t1) ∧ KeepX false w.heap.size [m5] (fun _ => False) w3 w4 ∧ (t1 = true → ∀ (w5 : World), Kept [m5] w4 w5 → R (Ending.returned
    (Value.int IntKind.i64 6)) w5) ∧ (t1 = false → ∃ (x8 : Int), w4.cell? { block := p0wb, off := p0wo + 5 + 0 } = some (Value.int IntKind.u16 x8) ∧ (p0wb < w.heap.size ∨ p0wb ≠
    m5) ∧ (IntKind.u16.wrap (↑(BitVec.ofInt IntKind.u16.bits x3 &&& ~~~BitVec.ofInt IntKind.u16.bits x8).toNat : Int) ≠ 0 → ∀ (w6 : World), Kept [m5] w4 w6 → R (Ending.returned
    (Value.int IntKind.i64 112)) w6) ∧ (IntKind.u16.wrap (↑(BitVec.ofInt IntKind.u16.bits x3 &&& ~~~BitVec.ofInt IntKind.u16.bits x8).toNat : Int) = 0 → ∃ (x9 : Int), w4.cell?
    { block := p0wb, off := p0wo + 11 } = some (Value.int IntKind.i64 x9) ∧ (p0wb < w.heap.size ∨ p0wb ≠ m5) ∧ ∃ (x10 : Int), w4.cell? { block := p0wb, off := p0wo + 5 + 1 } = some
    (Value.int IntKind.i64 x10) ∧ (p0wb < w.heap.size ∨ p0wb ≠ m5) ∧ (x10 < x9 → ∀ (w7 : World), Kept [m5] w4 w7 → R (Ending.returned (Value.int IntKind.i64 113)) w7) ∧ (x9 ≤ x10 →
    ∃ (a2 : Option Addr), ∃ (m8 : Nat), ∃ (m9 : Nat), w4.cell? { block := p0wb, off := p0wo + 0 + 1 } = some (Value.slice a2 m8 m9) ∧ (p0wb < w.heap.size ∨ p0wb ≠ m5) ∧ ∃ (x11 :
    Int), w4.cell? { block := p0wb, off := p0wo + 9 } = some (Value.int IntKind.i64 x11) ∧ (p0wb < w.heap.size ∨ p0wb ≠ m5) ∧ ∃ (m10 : Nat), ∃ (m11 : Nat), a2 = some
    { block := m10, off := m11 } ∧ (0 ≤ x11 ∧ x11 < (↑m8 : Int)) ∧ ∃ (a3 : Option Addr), ∃ (m12 : Nat), ∃ (m13 : Nat), w4.cell? { block := m10, off := m11 + x11.toNat * 1 } = some
    (Value.slice a3 m12 m13) ∧ (m10 < w.heap.size ∨ m10 ≠ m5) ∧ ∃ (m14 : Nat), ∃ (m15 : Nat), a3 = some { block := m14, off := m15 } ∧ (0 ≤ tower ∧ tower < (↑m12 : Int)) ∧ ∃ (x12 :
    Int), w4.cell? { block := m14, off := m15 + tower.toNat * 1 } = some (Value.int IntKind.i64 x12) ∧ (m14 < w.heap.size ∨ m14 ≠ m5) ∧ ∃ (x13 : Int), w4.cell?
    { block := p0wb, off := p0wo + 10 } = some (Value.int IntKind.i64 x13) ∧ (p0wb < w.heap.size ∨ p0wb ≠ m5) ∧ ∀ (w8 : World), Kept [m5] w4 w8 → Calls Tryz.prog 139 #[Value.int
    IntKind.i64 x13, Value.int IntKind.i64 tower] w8 fun (e2 : Ending) (w9 : World) => ∃ (x14 : Int), e2 = Ending.returned (Value.int IntKind.i64 x14) ∧ KeepX false w.heap.size
    [m5] (fun _ => False) w8 w9 ∧ ∀ (w10 : World), Kept [m5] w9 w10 → RunsTo Tryz.prog ((Instr.storeAt 3 (Value.pointer (some { block := p0wb, off := p0wo + 9 })) (Value.int
    IntKind.i64 tower)) >>= fun _ => pure (Value.tuple #[])) w10 fun (v2 : Value) (w11 : World) => KeepX false w.heap.size [m5] (fun _ => False) w10 w11 ∧ ∀ (w12 : World), Kept
    [m5] w11 w12 → RunsTo Tryz.prog ((Instr.storeAt 171 (Value.pointer (some { block := p0wb, off := p0wo + 10 })) (Value.int IntKind.i64 x14)) >>= fun _ => pure (Value.tuple #[]))
    w12 fun (v3 : Value) (w13 : World) => KeepX false w.heap.size [m5] (fun _ => False) w12 w13 ∧ (-9223372036854775808 ≤ x12 + x1 ∧ x12 + x1 ≤ 9223372036854775807) ∧
    (-9223372036854775808 ≤ x12 + x1 + x2 ∧ x12 + x1 + x2 ≤ 9223372036854775807) ∧ ∀ (w14 : World), Kept [m5] w13 w14 → Calls Tryz.prog 137 #[Value.pointer (some
    { block := p0wb, off := p0wo }), Value.int IntKind.i64 (x12 + x1 + x2)] w14 fun (e3 : Ending) (w15 : World) => ∃ (x15 : Int), e3 = Ending.returned (Value.int IntKind.i64 x15) ∧
    KeepX false w.heap.size [m5] (fun _ => False) w14 w15 ∧ ∀ (w16 : World), Kept [m5] w15 w16 → R (Ending.returned (Value.int IntKind.i64 x15)) w16)))) : Calls Tryz.prog 136
    #[Value.pointer (some { block := p0wb, off := p0wo }), Value.int IntKind.i64 tower] w R := calls_of_vc (pure := false) (wrapAt := []) (muts := []) (esc := []) (args := [SV.pv
    (PV.one (Lf.ptr p0wb p0wo)), SV.pv (PV.one (Lf.int IntKind.i64 tower))]) (vs := [Value.pointer (some { block := p0wb, off := p0wo }), Value.int IntKind.i64 tower]) Tryz.func136
    rfl rfl rfl (Eq.mp (by kernel_rfl) h) 
set_option maxRecDepth 100000 in
set_option maxHeartbeats 2000000 in
theorem vc74 (p0wb : Nat) (p0wo : Nat) (n : Int) (w : World) (R : Ending → World → Prop) (h : (n = -1 → ∀ (w1 : World), Kept [] w w1 → Calls Tryz.prog 135 #[Value.pointer (some
    { block := p0wb, off := p0wo })] w1 fun (e1 : Ending) (w2 : World) => ∃ (x1 : Int), e1 = Ending.returned (Value.int IntKind.i64 x1) ∧ KeepX false w.heap.size [] (fun _ =>
    False) w1 w2 ∧ ∀ (w3 : World), Kept [] w2 w3 → R (Ending.returned (Value.int IntKind.i64 x1)) w3) ∧ (n ≠ -1 → ∃ (a1 : Option Addr), ∃ (m2 : Nat), ∃ (m3 : Nat), w.cell?
    { block := p0wb, off := p0wo + 0 + 0 } = some (Value.slice a1 m2 m3) ∧ (-9223372036854775808 ≤ (↑m2 : Int) - 1 ∧ (↑m2 : Int) - (1 : Int) ≤ 9223372036854775807) ∧ ∀ (m4 : Nat),
    w.heap.size ≤ m4 → ∀ (w4 : World), Kept [m4] w w4 → w4.heap[m4]? = some (Obj.cells #[Value.int IntKind.i64 n] 3) → Calls Tryz.prog 121 #[Value.int IntKind.i64 0, Value.int
    IntKind.i64 ((↑m2 : Int) - 1), Value.slice (some { block := m4, off := 0 }) 1 1] w4 fun (e2 : Ending) (w5 : World) => ∃ (t1 : Bool), e2 = Ending.returned (Value.bool t1) ∧
    KeepX false w.heap.size [m4] (fun _ => False) w4 w5 ∧ ((!t1) = true → ∀ (w6 : World), Kept [m4] w5 w6 → R (Ending.returned (Value.int IntKind.i64 2)) w6) ∧ ((!t1) = false → ∀
    (w7 : World), Kept [m4] w5 w7 → Calls Tryz.prog 136 #[Value.pointer (some { block := p0wb, off := p0wo }), Value.int IntKind.i64 n] w7 fun (e3 : Ending) (w8 : World) => ∃ (x2 :
    Int), e3 = Ending.returned (Value.int IntKind.i64 x2) ∧ KeepX false w.heap.size [m4] (fun _ => False) w7 w8 ∧ ∀ (w9 : World), Kept [m4] w8 w9 → R (Ending.returned (Value.int
    IntKind.i64 x2)) w9))) : Calls Tryz.prog 74 #[Value.pointer (some { block := p0wb, off := p0wo }), Value.int IntKind.i64 n] w R := calls_of_vc (pure := false) (wrapAt := [])
    (muts := []) (esc := []) (args := [SV.pv (PV.one (Lf.ptr p0wb p0wo)), SV.pv (PV.one (Lf.int IntKind.i64 n))]) (vs := [Value.pointer (some { block := p0wb, off := p0wo }),
    Value.int IntKind.i64 n]) Tryz.func74 rfl rfl rfl (Eq.mp (by kernel_rfl) h) 
set_option maxRecDepth 100000 in
set_option maxHeartbeats 2000000 in
theorem vc134 (r0a : Option Addr) (r0n : Nat) (r0c : Nat) (r1a : Option Addr) (r1n : Nat) (r1c : Nat) (r2a : Option Addr) (r2n : Nat) (r2c : Nat) (r3 : Int) (r4 : Int) (w : World)
    (R : Ending → World → Prop) (h : ∀ (m1 : Nat), w.heap.size ≤ m1 → ∀ (w1 : World), RowKit.Below w.heap.size w w1 → Kept [m1] w w1 → R (Ending.returned (Value.int IntKind.i64
    (↑r0n : Int))) w1) : Calls Tryz.prog 134 #[Value.agg #[Value.slice r0a r0n r0c, Value.slice r1a r1n r1c, Value.slice r2a r2n r2c, Value.int IntKind.i64 r3, Value.int
    IntKind.i64 r4]] w R := calls_of_vc (pure := true) (wrapAt := []) (muts := []) (esc := []) (args := [SV.pv (PV.agg [Lf.sl r0a r0n r0c, Lf.sl r1a r1n r1c, Lf.sl r2a r2n r2c,
    Lf.int IntKind.i64 r3, Lf.int IntKind.i64 r4])]) (vs := [Value.agg #[Value.slice r0a r0n r0c, Value.slice r1a r1n r1c, Value.slice r2a r2n r2c, Value.int IntKind.i64 r3,
    Value.int IntKind.i64 r4]]) Tryz.func134 rfl rfl rfl (Eq.mp (by kernel_rfl) h) 
set_option maxRecDepth 100000 in
set_option maxHeartbeats 2000000 in
theorem vc75 (p0wb : Nat) (p0wo : Nat) (w : World) (R : Ending → World → Prop) (h : ∃ (a1 : Option Addr), ∃ (m1 : Nat), ∃ (m2 : Nat), ∃ (a2 : Option Addr), ∃ (m3 : Nat), ∃ (m4 :
    Nat), ∃ (a3 : Option Addr), ∃ (m5 : Nat), ∃ (m6 : Nat), ∃ (x1 : Int), ∃ (x2 : Int), w.cell? { block := p0wb, off := p0wo + 0 } = some (Value.slice a1 m1 m2) ∧ w.cell?
    { block := p0wb, off := p0wo + 0 + 1 } = some (Value.slice a2 m3 m4) ∧ w.cell? { block := p0wb, off := p0wo + 0 + 1 + 1 } = some (Value.slice a3 m5 m6) ∧ w.cell?
    { block := p0wb, off := p0wo + 0 + 1 + 1 + 1 } = some (Value.int IntKind.i64 x1) ∧ w.cell? { block := p0wb, off := p0wo + 0 + 1 + 1 + 1 + 1 } = some (Value.int IntKind.i64 x2)
    ∧ ∀ (w1 : World), KeptIn [(0, w.heap.size)] [] w w1 → Calls Tryz.prog 134 #[Value.agg #[Value.slice a1 m1 m2, Value.slice a2 m3 m4, Value.slice a3 m5 m6, Value.int IntKind.i64
    x1, Value.int IntKind.i64 x2]] w1 fun (e1 : Ending) (w2 : World) => ∃ (x3 : Int), e1 = Ending.returned (Value.int IntKind.i64 x3) ∧ RowKit.Below w1.heap.size w1 w2 ∧ ∃ (a4 :
    Option Addr), ∃ (m7 : Nat), ∃ (m8 : Nat), w.cell? { block := p0wb, off := p0wo + 0 + 1 } = some (Value.slice a4 m7 m8) ∧ ∃ (x4 : Int), w.cell?
    { block := p0wb, off := p0wo + 9 } = some (Value.int IntKind.i64 x4) ∧ ∃ (m9 : Nat), ∃ (m10 : Nat), a4 = some { block := m9, off := m10 } ∧ (0 ≤ x4 ∧ x4 < (↑m7 : Int)) ∧ ∃ (a5
    : Option Addr), ∃ (m11 : Nat), ∃ (m12 : Nat), w.cell? { block := m9, off := m10 + x4.toNat * 1 } = some (Value.slice a5 m11 m12) ∧ ∃ (m13 : Nat), ∃ (m14 : Nat), a5 = some
    { block := m13, off := m14 } ∧ (0 ≤ x3 ∧ x3 < (↑m11 : Int)) ∧ ∃ (x5 : Int), w2.cell? { block := m13, off := m14 + x3.toNat * 1 } = some (Value.int IntKind.i64 x5) ∧ ∀ (w3 :
    World), KeptIn [(0, w.heap.size), (w1.heap.size, w2.heap.size)] [] w2 w3 → Calls Tryz.prog 137 #[Value.pointer (some { block := p0wb, off := p0wo }), Value.int IntKind.i64 x5]
    w3 fun (e2 : Ending) (w4 : World) => ∃ (x6 : Int), e2 = Ending.returned (Value.int IntKind.i64 x6) ∧ KeepX false w.heap.size [] (fun _ => False) w3 w4 ∧ ∀ (w5 : World), Kept []
    w4 w5 → R (Ending.returned (Value.int IntKind.i64 x6)) w5) : Calls Tryz.prog 75 #[Value.pointer (some { block := p0wb, off := p0wo })] w R := calls_of_vc (pure := false)
    (wrapAt := []) (muts := []) (esc := []) (args := [SV.pv (PV.one (Lf.ptr p0wb p0wo))]) (vs := [Value.pointer (some { block := p0wb, off := p0wo })]) Tryz.func75 rfl rfl rfl
    (Eq.mp (by kernel_rfl) h) 
set_option maxRecDepth 100000 in
set_option maxHeartbeats 2000000 in
theorem vc72 (r0a : Option Addr) (r0n : Nat) (r0c : Nat) (r1a : Option Addr) (r1n : Nat) (r1c : Nat) (r2a : Option Addr) (r2n : Nat) (r2c : Nat) (r3 : Int) (r4 : Int) (winder :
    Int) (w : World) (R : Ending → World → Prop) (h : ∀ (m1 : Nat), w.heap.size ≤ m1 → (-9223372036854775808 ≤ (↑r2n : Int) - 1 ∧ (↑r2n : Int) - (1 : Int) ≤ 9223372036854775807) ∧
    ∀ (m2 : Nat), w.heap.size ≤ m2 → ∀ (w1 : World), RowKit.Below w.heap.size w w1 → Kept [m2, m1] w w1 → w1.heap[m2]? = some (Obj.cells #[Value.int IntKind.i64 winder] 3) → Calls
    Tryz.prog 121 #[Value.int IntKind.i64 0, Value.int IntKind.i64 ((↑r2n : Int) - 1), Value.slice (some { block := m2, off := 0 }) 1 1] w1 fun (e1 : Ending) (w2 : World) => ∃ (t1
    : Bool), e1 = Ending.returned (Value.bool t1) ∧ KeepX true w.heap.size [m2, m1] (fun _ => False) w1 w2 ∧ ∀ (w3 : World), RowKit.Below w.heap.size w w3 → Kept [m2, m1] w2 w3 → R
    (Ending.returned (Value.bool t1)) w3) : Calls Tryz.prog 72 #[Value.agg #[Value.slice r0a r0n r0c, Value.slice r1a r1n r1c, Value.slice r2a r2n r2c, Value.int IntKind.i64 r3,
    Value.int IntKind.i64 r4], Value.int IntKind.i64 winder] w R := calls_of_vc (pure := true) (wrapAt := []) (muts := []) (esc := []) (args := [SV.pv (PV.agg [Lf.sl r0a r0n r0c,
    Lf.sl r1a r1n r1c, Lf.sl r2a r2n r2c, Lf.int IntKind.i64 r3, Lf.int IntKind.i64 r4]), SV.pv (PV.one (Lf.int IntKind.i64 winder))]) (vs := [Value.agg #[Value.slice r0a r0n r0c,
    Value.slice r1a r1n r1c, Value.slice r2a r2n r2c, Value.int IntKind.i64 r3, Value.int IntKind.i64 r4], Value.int IntKind.i64 winder]) Tryz.func72 rfl rfl rfl (Eq.mp (by
    kernel_rfl) h) 
set_option maxRecDepth 100000 in
set_option maxHeartbeats 2000000 in
theorem vc73 (r0a : Option Addr) (r0n : Nat) (r0c : Nat) (r1a : Option Addr) (r1n : Nat) (r1c : Nat) (r2a : Option Addr) (r2n : Nat) (r2c : Nat) (r3 : Int) (r4 : Int) (winder :
    Int) (w : World) (R : Ending → World → Prop) (h : ∀ (m1 : Nat), w.heap.size ≤ m1 → ∀ (m2 : Nat), w.heap.size ≤ m2 → ∀ (w1 : World), RowKit.Below w.heap.size w w1 → KeptIn [(0,
    w.heap.size)] [m2, m1] w w1 → Calls Tryz.prog 134 #[Value.agg #[Value.slice r0a r0n r0c, Value.slice r1a r1n r1c, Value.slice r2a r2n r2c, Value.int IntKind.i64 r3, Value.int
    IntKind.i64 r4]] w1 fun (e1 : Ending) (w2 : World) => ∃ (x1 : Int), e1 = Ending.returned (Value.int IntKind.i64 x1) ∧ RowKit.Below w1.heap.size w1 w2 ∧ ∃ (m3 : Nat), ∃ (m4 :
    Nat), r2a = some { block := m3, off := m4 } ∧ (0 ≤ winder ∧ winder < (↑r2n : Int)) ∧ ∃ (x2 : Int), ∃ (x3 : Int), ∃ (x4 : Int), ∃ (x5 : Int), w.cell?
    { block := m3, off := m4 + winder.toNat * 4 } = some (Value.int IntKind.u16 x2) ∧ w.cell? { block := m3, off := m4 + winder.toNat * 4 + 1 } = some (Value.int IntKind.i64 x3) ∧
    w.cell? { block := m3, off := m4 + winder.toNat * 4 + 1 + 1 } = some (Value.int IntKind.i64 x4) ∧ w.cell? { block := m3, off := m4 + winder.toNat * 4 + 1 + 1 + 1 } = some
    (Value.int IntKind.i64 x5) ∧ (m3 < w.heap.size ∨ m3 ≠ m2 ∧ m3 ≠ m1) ∧ ∀ (w3 : World), RowKit.Below w.heap.size w w3 → Kept [m2, m1] w2 w3 → R (Ending.returned (Value.agg
    #[Value.slice r0a r0n r0c, Value.slice r1a r1n r1c, Value.slice r2a r2n r2c, Value.int IntKind.i64 r3, Value.int IntKind.i64 r4, Value.int IntKind.u16 x2, Value.int IntKind.i64
    x3, Value.int IntKind.i64 x4, Value.int IntKind.i64 x5, Value.int IntKind.i64 x1, Value.int IntKind.i64 0, Value.int IntKind.i64 0, Value.int IntKind.i64 0, Value.int
    IntKind.i64 0])) w3) : Calls Tryz.prog 73 #[Value.agg #[Value.slice r0a r0n r0c, Value.slice r1a r1n r1c, Value.slice r2a r2n r2c, Value.int IntKind.i64 r3, Value.int
    IntKind.i64 r4], Value.int IntKind.i64 winder] w R := calls_of_vc (pure := true) (wrapAt := []) (muts := []) (esc := []) (args := [SV.pv (PV.agg [Lf.sl r0a r0n r0c, Lf.sl r1a
    r1n r1c, Lf.sl r2a r2n r2c, Lf.int IntKind.i64 r3, Lf.int IntKind.i64 r4]), SV.pv (PV.one (Lf.int IntKind.i64 winder))]) (vs := [Value.agg #[Value.slice r0a r0n r0c,
    Value.slice r1a r1n r1c, Value.slice r2a r2n r2c, Value.int IntKind.i64 r3, Value.int IntKind.i64 r4], Value.int IntKind.i64 winder]) Tryz.func73 rfl rfl rfl (Eq.mp (by
    kernel_rfl) h) 
set_option maxRecDepth 100000 in
set_option maxHeartbeats 2000000 in
theorem vc31 (ca : Option Addr) (cn : Nat) (cc : Nat) (r0a : Option Addr) (r0n : Nat) (r0c : Nat) (r1a : Option Addr) (r1n : Nat) (r1c : Nat) (r2a : Option Addr) (r2n : Nat) (r2c :
    Nat) (r3 : Int) (r4 : Int) (d0 : Int) (d1a : Option Addr) (d1n : Nat) (d1c : Nat) (w : World) (R : Ending → World → Prop) (h : ∀ (m1 : Nat), w.heap.size ≤ m1 → ∀ (m2 : Nat),
    w.heap.size ≤ m2 → ∃ (F1 : List Lf → World → Prop), ∃ (F2 : List Lf → Nat), (∀ (w2 : World), Kept [m2, m1] w w2 → F1 [Lf.int IntKind.i64 0] w2) ∧ ∀ (x1 : Int) (w3 : World), F1
    [Lf.int IntKind.i64 x1] w3 → (x1 < (↑d1n : Int) → ∃ (m3 : Nat), ∃ (m4 : Nat), d1a = some { block := m3, off := m4 } ∧ (0 ≤ x1 ∧ x1 < (↑d1n : Int)) ∧ ∃ (x2 : Int), w3.cell?
    { block := m3, off := m4 + x1.toNat * 1 } = some (Value.int IntKind.i64 x2) ∧ (m3 < w.heap.size ∨ m3 ≠ m2 ∧ m3 ≠ m1) ∧ ∃ (m5 : Nat), ∃ (m6 : Nat), r0a = some
    { block := m5, off := m6 } ∧ (0 ≤ x2 ∧ x2 < (↑r0n : Int)) ∧ ∃ (x3 : Int), w3.cell? { block := m5, off := m6 + x2.toNat * 5 + 4 } = some (Value.int IntKind.i64 x3) ∧ (m5 <
    w.heap.size ∨ m5 ≠ m2 ∧ m5 ≠ m1) ∧ (-9223372036854775808 ≤ d0 + x3 ∧ d0 + x3 ≤ 9223372036854775807) ∧ ∃ (m7 : Nat), ∃ (m8 : Nat), ca = some { block := m7, off := m8 } ∧ (0 ≤ x2
    ∧ x2 < (↑cn : Int)) ∧ ∀ (w4 : World), KeptIn [(0, w3.heap.size)] [m2, m1] w3 w4 → RunsTo Tryz.prog ((Instr.storeAt 3 (Value.pointer (some
    { block := m7, off := m8 + x2.toNat * 1 })) (Value.int IntKind.i64 (d0 + x3))) >>= fun _ => pure (Value.tuple #[])) w4 fun (v1 : Value) (w5 : World) => KeepX false w.heap.size
    [m2, m1] (fun _ => False) w4 w5 ∧ (-9223372036854775808 ≤ x1 + 1 ∧ x1 + (1 : Int) ≤ 9223372036854775807) ∧ ∀ (w6 : World), Kept [m2, m1] w5 w6 → F1 [Lf.int IntKind.i64 (x1 +
    1)] w6 ∧ F2 [Lf.int IntKind.i64 (x1 + 1)] < F2 [Lf.int IntKind.i64 x1]) ∧ ((↑d1n : Int) ≤ x1 → ∀ (w7 : World), Kept [m2, m1] w3 w7 → R (Ending.returned (Value.tuple #[])) w7))
    : Calls Tryz.prog 31 #[Value.slice ca cn cc, Value.agg #[Value.slice r0a r0n r0c, Value.slice r1a r1n r1c, Value.slice r2a r2n r2c, Value.int IntKind.i64 r3, Value.int
    IntKind.i64 r4], Value.agg #[Value.int IntKind.i64 d0, Value.slice d1a d1n d1c]] w R := calls_of_vc (pure := false) (wrapAt := []) (muts := []) (esc := []) (args := [SV.pv
    (PV.one (Lf.sl ca cn cc)), SV.pv (PV.agg [Lf.sl r0a r0n r0c, Lf.sl r1a r1n r1c, Lf.sl r2a r2n r2c, Lf.int IntKind.i64 r3, Lf.int IntKind.i64 r4]), SV.pv (PV.agg [Lf.int
    IntKind.i64 d0, Lf.sl d1a d1n d1c])]) (vs := [Value.slice ca cn cc, Value.agg #[Value.slice r0a r0n r0c, Value.slice r1a r1n r1c, Value.slice r2a r2n r2c, Value.int IntKind.i64
    r3, Value.int IntKind.i64 r4], Value.agg #[Value.int IntKind.i64 d0, Value.slice d1a d1n d1c]]) Tryz.func31 rfl rfl rfl (Eq.mp (by kernel_rfl) h) 
end Go.Proofs
end
section
/- The conditions of the functions, printed by program; each is what the generator reckons (kernel_rfl). -/
namespace Go.Proofs
open Go.Vc
end Go.Proofs
end
section
/- The eras of a town. -/
namespace Go.Proofs.RT
open Go.Vc Go.RowKit Go.Proofs

theorem yield_mono {P : Program} {l : Nat} {args : Array Value} {w : World} {R S : Ending → World → Prop} (h : YieldAt Fence.wide 0 P l args w R) (hs : ∀ e w', R e w' → S e w') : YieldAt Fence.wide 0 P l args w S := by
  obtain ⟨fn, tmps, assign, body, hy, hR⟩ := h
  exact ⟨fn, tmps, assign, body, hy, hR.mono hs⟩
def offI (z : Zn) (k : Int) : Int := if k = 0 then z.1 else (z.2.getD (k.toNat - 1) (0, 0)).2
def eraAt (z : Zn) (k : Nat) : Era := (before z k, if k < z.2.length then (z.2.getD k (0, 0)).1 - 1 else 3155760000, offI z k)
def erasL (z : Zn) : List Era := (List.range (z.2.length + 1)).map (eraAt z)
end Go.Proofs.RT
end
section
/- The era of an instant; Says. -/
namespace Go.Proofs.RT
open Go.Vc Go.RowKit Go.Proofs
def stepE (n : Int) (out x : Era) : Era := if x.1 ≤ n ∧ n ≤ x.2.1 then x else out
def atM (z : Zn) (n : Int) : Era := (erasL z).foldl (stepE n) (0, 0, 0)
theorem calm_below {B : Nat} {w w' : World} (h : CalmFrom B w w') (hB : B ≤ w.heap.size) : Below B w w' := CalmFrom.below h hB
end Go.Proofs.RT
end
section
/- Says. -/
namespace Go.Proofs.RT
open Go.Vc Go.RowKit Go.Proofs
end Go.Proofs.RT
end
section
/- The conditions of the functions, printed by program; each is what the generator reckons (kernel_rfl). -/
namespace Go.Proofs
open Go.Vc
set_option maxRecDepth 100000 in
set_option maxHeartbeats 2000000 in
theorem vc107 (x : Int) (w : World) (R : Ending → World → Prop) (h : ∀ (w1 : World), RowKit.Below w.heap.size w w1 → Kept [] w w1 → Calls Tryz.prog 177 #[Value.int IntKind.u64 x]
    w1 fun (e1 : Ending) (w2 : World) => ∃ (x1 : Int), e1 = Ending.returned (Value.int IntKind.i64 x1) ∧ KeepX true w.heap.size [] (fun _ => False) w1 w2 ∧ ∀ (w3 : World),
    RowKit.Below w.heap.size w w3 → Kept [] w2 w3 → R (Ending.returned (Value.int IntKind.i64 x1)) w3) : Calls Tryz.prog 107 #[Value.int IntKind.u64 x] w R := calls_of_vc (pure :=
    true) (wrapAt := []) (muts := []) (esc := []) (args := [SV.pv (PV.one (Lf.int IntKind.u64 x))]) (vs := [Value.int IntKind.u64 x]) Tryz.func107 rfl rfl rfl (Eq.mp (by
    kernel_rfl) h) 
set_option maxRecDepth 100000 in
set_option maxHeartbeats 2000000 in
theorem vc177 (x : Int) (w : World) (R : Ending → World → Prop) (h : (4294967296 ≤ x → (0 : Int) ≤ 32 ∧ (65536 ≤ x.fdiv (2 ^ min (Int.toNat 32) IntKind.u64.bits) → (0 : Int) ≤ 16 ∧
    ((-9223372036854775808 : Int) ≤ 32 + 16 ∧ 32 + (16 : Int) ≤ 9223372036854775807) ∧ (256 ≤ (x.fdiv (2 ^ min (Int.toNat 32) IntKind.u64.bits)).fdiv (2 ^ min (Int.toNat 16)
    IntKind.u64.bits) → (0 : Int) ≤ 8 ∧ ((-9223372036854775808 : Int) ≤ 32 + 16 + 8 ∧ 32 + 16 + (8 : Int) ≤ 9223372036854775807) ∧ (0 ≤ ((x.fdiv (2 ^ min (Int.toNat 32)
    IntKind.u64.bits)).fdiv (2 ^ min (Int.toNat 16) IntKind.u64.bits)).fdiv (2 ^ min (Int.toNat 8) IntKind.u64.bits) ∧ ((x.fdiv (2 ^ min (Int.toNat 32) IntKind.u64.bits)).fdiv (2 ^
    min (Int.toNat 16) IntKind.u64.bits)).fdiv (2 ^ min (Int.toNat 8) IntKind.u64.bits) ≤ 255) ∧ ∀ (w1 : World), RowKit.Below w.heap.size w w1 → Kept [] w w1 → RunsTo Tryz.prog
    (Instr.index 9 (Value.string
    { data := (0 :: 1 :: 2 :: 2 :: 3 :: 3 :: 3 :: 3 :: 4 :: 4 :: 4 :: 4 :: 4 :: 4 :: 4 :: 4 :: 5 :: 5 :: 5 :: 5 :: 5 :: 5 :: 5 :: 5 :: 5 :: 5 :: 5 :: 5 :: 5 :: 5 :: 5 :: 5 :: 6 :: 6 :: 6 :: 6 :: 6 :: 6 :: 6 :: 6 :: 6 :: 6 :: 6 :: 6 :: 6 :: 6 :: 6 :: 6 :: 6 :: 6 :: 6 :: 6 :: 6 :: 6 :: 6 :: 6 :: 6 :: 6 :: 6 :: 6 :: 6 :: 6 :: 6 :: 6 :: 7 :: 7 :: 7 :: 7 :: 7 :: 7 :: 7 :: 7 :: 7 :: 7 :: 7 :: 7 :: 7 :: 7 :: 7 :: 7 :: 7 :: 7 :: 7 :: 7 :: 7 :: 7 :: 7 :: 7 :: 7 :: 7 :: 7 :: 7 :: 7 :: 7 :: 7 :: 7 :: 7 :: 7 :: 7 :: 7 :: 7 :: 7 :: 7 :: 7 :: 7 :: 7 :: 7 :: 7 :: 7 :: 7 :: 7 :: 7 :: 7 :: 7 :: 7 :: 7 :: 7 :: 7 :: 7 :: 7 :: 7 :: 7 :: 7 :: 7 :: 7 :: 7 :: 7 :: 7 :: List.replicate 128 8).toArray })
    (Value.int IntKind.u8 (((x.fdiv (2 ^ min (Int.toNat 32) IntKind.u64.bits)).fdiv (2 ^ min (Int.toNat 16) IntKind.u64.bits)).fdiv (2 ^ min (Int.toNat 8) IntKind.u64.bits)))) w1
    fun (v1 : Value) (w2 : World) => ∃ (x1 : Int), v1 = Value.int IntKind.u8 x1 ∧ KeepX true w.heap.size [] (fun _ => False) w1 w2 ∧ (-9223372036854775808 ≤ x1 ∧ x1 ≤
    9223372036854775807) ∧ ((-9223372036854775808 : Int) ≤ 32 + 16 + 8 + x1 ∧ 32 + 16 + 8 + x1 ≤ 9223372036854775807) ∧ ∀ (w3 : World), RowKit.Below w.heap.size w w3 → Kept [] w2
    w3 → R (Ending.returned (Value.int IntKind.i64 (32 + 16 + 8 + x1))) w3) ∧ ((x.fdiv (2 ^ min (Int.toNat 32) IntKind.u64.bits)).fdiv (2 ^ min (Int.toNat 16) IntKind.u64.bits) <
    256 → (0 ≤ (x.fdiv (2 ^ min (Int.toNat 32) IntKind.u64.bits)).fdiv (2 ^ min (Int.toNat 16) IntKind.u64.bits) ∧ (x.fdiv (2 ^ min (Int.toNat 32) IntKind.u64.bits)).fdiv (2 ^ min
    (Int.toNat 16) IntKind.u64.bits) ≤ 255) ∧ ∀ (w4 : World), RowKit.Below w.heap.size w w4 → Kept [] w w4 → RunsTo Tryz.prog (Instr.index 9 (Value.string
    { data := (0 :: 1 :: 2 :: 2 :: 3 :: 3 :: 3 :: 3 :: 4 :: 4 :: 4 :: 4 :: 4 :: 4 :: 4 :: 4 :: 5 :: 5 :: 5 :: 5 :: 5 :: 5 :: 5 :: 5 :: 5 :: 5 :: 5 :: 5 :: 5 :: 5 :: 5 :: 5 :: 6 :: 6 :: 6 :: 6 :: 6 :: 6 :: 6 :: 6 :: 6 :: 6 :: 6 :: 6 :: 6 :: 6 :: 6 :: 6 :: 6 :: 6 :: 6 :: 6 :: 6 :: 6 :: 6 :: 6 :: 6 :: 6 :: 6 :: 6 :: 6 :: 6 :: 6 :: 6 :: 7 :: 7 :: 7 :: 7 :: 7 :: 7 :: 7 :: 7 :: 7 :: 7 :: 7 :: 7 :: 7 :: 7 :: 7 :: 7 :: 7 :: 7 :: 7 :: 7 :: 7 :: 7 :: 7 :: 7 :: 7 :: 7 :: 7 :: 7 :: 7 :: 7 :: 7 :: 7 :: 7 :: 7 :: 7 :: 7 :: 7 :: 7 :: 7 :: 7 :: 7 :: 7 :: 7 :: 7 :: 7 :: 7 :: 7 :: 7 :: 7 :: 7 :: 7 :: 7 :: 7 :: 7 :: 7 :: 7 :: 7 :: 7 :: 7 :: 7 :: 7 :: 7 :: 7 :: 7 :: List.replicate 128 8).toArray })
    (Value.int IntKind.u8 ((x.fdiv (2 ^ min (Int.toNat 32) IntKind.u64.bits)).fdiv (2 ^ min (Int.toNat 16) IntKind.u64.bits)))) w4 fun (v2 : Value) (w5 : World) => ∃ (x2 : Int), v2
    = Value.int IntKind.u8 x2 ∧ KeepX true w.heap.size [] (fun _ => False) w4 w5 ∧ (-9223372036854775808 ≤ x2 ∧ x2 ≤ 9223372036854775807) ∧ ((-9223372036854775808 : Int) ≤ 32 + 16
    + x2 ∧ 32 + 16 + x2 ≤ 9223372036854775807) ∧ ∀ (w6 : World), RowKit.Below w.heap.size w w6 → Kept [] w5 w6 → R (Ending.returned (Value.int IntKind.i64 (32 + 16 + x2))) w6)) ∧
    (x.fdiv (2 ^ min (Int.toNat 32) IntKind.u64.bits) < 65536 → (256 ≤ x.fdiv (2 ^ min (Int.toNat 32) IntKind.u64.bits) → (0 : Int) ≤ 8 ∧ ((-9223372036854775808 : Int) ≤ 32 + 8 ∧
    32 + (8 : Int) ≤ 9223372036854775807) ∧ (0 ≤ (x.fdiv (2 ^ min (Int.toNat 32) IntKind.u64.bits)).fdiv (2 ^ min (Int.toNat 8) IntKind.u64.bits) ∧ (x.fdiv (2 ^ min (Int.toNat 32)
    IntKind.u64.bits)).fdiv (2 ^ min (Int.toNat 8) IntKind.u64.bits) ≤ 255) ∧ ∀ (w7 : World), RowKit.Below w.heap.size w w7 → Kept [] w w7 → RunsTo Tryz.prog (Instr.index 9
    (Value.string
    { data := (0 :: 1 :: 2 :: 2 :: 3 :: 3 :: 3 :: 3 :: 4 :: 4 :: 4 :: 4 :: 4 :: 4 :: 4 :: 4 :: 5 :: 5 :: 5 :: 5 :: 5 :: 5 :: 5 :: 5 :: 5 :: 5 :: 5 :: 5 :: 5 :: 5 :: 5 :: 5 :: 6 :: 6 :: 6 :: 6 :: 6 :: 6 :: 6 :: 6 :: 6 :: 6 :: 6 :: 6 :: 6 :: 6 :: 6 :: 6 :: 6 :: 6 :: 6 :: 6 :: 6 :: 6 :: 6 :: 6 :: 6 :: 6 :: 6 :: 6 :: 6 :: 6 :: 6 :: 6 :: 7 :: 7 :: 7 :: 7 :: 7 :: 7 :: 7 :: 7 :: 7 :: 7 :: 7 :: 7 :: 7 :: 7 :: 7 :: 7 :: 7 :: 7 :: 7 :: 7 :: 7 :: 7 :: 7 :: 7 :: 7 :: 7 :: 7 :: 7 :: 7 :: 7 :: 7 :: 7 :: 7 :: 7 :: 7 :: 7 :: 7 :: 7 :: 7 :: 7 :: 7 :: 7 :: 7 :: 7 :: 7 :: 7 :: 7 :: 7 :: 7 :: 7 :: 7 :: 7 :: 7 :: 7 :: 7 :: 7 :: 7 :: 7 :: 7 :: 7 :: 7 :: 7 :: 7 :: 7 :: List.replicate 128 8).toArray })
    (Value.int IntKind.u8 ((x.fdiv (2 ^ min (Int.toNat 32) IntKind.u64.bits)).fdiv (2 ^ min (Int.toNat 8) IntKind.u64.bits)))) w7 fun (v3 : Value) (w8 : World) => ∃ (x3 : Int), v3
    = Value.int IntKind.u8 x3 ∧ KeepX true w.heap.size [] (fun _ => False) w7 w8 ∧ (-9223372036854775808 ≤ x3 ∧ x3 ≤ 9223372036854775807) ∧ ((-9223372036854775808 : Int) ≤ 32 + 8 +
    x3 ∧ 32 + 8 + x3 ≤ 9223372036854775807) ∧ ∀ (w9 : World), RowKit.Below w.heap.size w w9 → Kept [] w8 w9 → R (Ending.returned (Value.int IntKind.i64 (32 + 8 + x3))) w9) ∧
    (x.fdiv (2 ^ min (Int.toNat 32) IntKind.u64.bits) < 256 → (0 ≤ x.fdiv (2 ^ min (Int.toNat 32) IntKind.u64.bits) ∧ x.fdiv (2 ^ min (Int.toNat 32) IntKind.u64.bits) ≤ 255) ∧ ∀
    (w10 : World), RowKit.Below w.heap.size w w10 → Kept [] w w10 → RunsTo Tryz.prog (Instr.index 9 (Value.string
    { data := (0 :: 1 :: 2 :: 2 :: 3 :: 3 :: 3 :: 3 :: 4 :: 4 :: 4 :: 4 :: 4 :: 4 :: 4 :: 4 :: 5 :: 5 :: 5 :: 5 :: 5 :: 5 :: 5 :: 5 :: 5 :: 5 :: 5 :: 5 :: 5 :: 5 :: 5 :: 5 :: 6 :: 6 :: 6 :: 6 :: 6 :: 6 :: 6 :: 6 :: 6 :: 6 :: 6 :: 6 :: 6 :: 6 :: 6 :: 6 :: 6 :: 6 :: 6 :: 6 :: 6 :: 6 :: 6 :: 6 :: 6 :: 6 :: 6 :: 6 :: 6 :: 6 :: 6 :: 6 :: 7 :: 7 :: 7 :: 7 :: 7 :: 7 :: 7 :: 7 :: 7 :: 7 :: 7 :: 7 :: 7 :: 7 :: 7 :: 7 :: 7 :: 7 :: 7 :: 7 :: 7 :: 7 :: 7 :: 7 :: 7 :: 7 :: 7 :: 7 :: 7 :: 7 :: 7 :: 7 :: 7 :: 7 :: 7 :: 7 :: 7 :: 7 :: 7 :: 7 :: 7 :: 7 :: 7 :: 7 :: 7 :: 7 :: 7 :: 7 :: 7 :: 7 :: 7 :: 7 :: 7 :: 7 :: 7 :: 7 :: 7 :: 7 :: 7 :: 7 :: 7 :: 7 :: 7 :: 7 :: List.replicate 128 8).toArray })
    (Value.int IntKind.u8 (x.fdiv (2 ^ min (Int.toNat 32) IntKind.u64.bits)))) w10 fun (v4 : Value) (w11 : World) => ∃ (x4 : Int), v4 = Value.int IntKind.u8 x4 ∧ KeepX true
    w.heap.size [] (fun _ => False) w10 w11 ∧ (-9223372036854775808 ≤ x4 ∧ x4 ≤ 9223372036854775807) ∧ ((-9223372036854775808 : Int) ≤ 32 + x4 ∧ 32 + x4 ≤ 9223372036854775807) ∧ ∀
    (w12 : World), RowKit.Below w.heap.size w w12 → Kept [] w11 w12 → R (Ending.returned (Value.int IntKind.i64 (32 + x4))) w12))) ∧ (x < 4294967296 → (65536 ≤ x → (0 : Int) ≤ 16 ∧
    ((-9223372036854775808 : Int) ≤ 0 + 16 ∧ 0 + (16 : Int) ≤ 9223372036854775807) ∧ (256 ≤ x.fdiv (2 ^ min (Int.toNat 16) IntKind.u64.bits) → (0 : Int) ≤ 8 ∧
    ((-9223372036854775808 : Int) ≤ 0 + 16 + 8 ∧ 0 + 16 + (8 : Int) ≤ 9223372036854775807) ∧ (0 ≤ (x.fdiv (2 ^ min (Int.toNat 16) IntKind.u64.bits)).fdiv (2 ^ min (Int.toNat 8)
    IntKind.u64.bits) ∧ (x.fdiv (2 ^ min (Int.toNat 16) IntKind.u64.bits)).fdiv (2 ^ min (Int.toNat 8) IntKind.u64.bits) ≤ 255) ∧ ∀ (w13 : World), RowKit.Below w.heap.size w w13 →
    Kept [] w w13 → RunsTo Tryz.prog (Instr.index 9 (Value.string
    { data := (0 :: 1 :: 2 :: 2 :: 3 :: 3 :: 3 :: 3 :: 4 :: 4 :: 4 :: 4 :: 4 :: 4 :: 4 :: 4 :: 5 :: 5 :: 5 :: 5 :: 5 :: 5 :: 5 :: 5 :: 5 :: 5 :: 5 :: 5 :: 5 :: 5 :: 5 :: 5 :: 6 :: 6 :: 6 :: 6 :: 6 :: 6 :: 6 :: 6 :: 6 :: 6 :: 6 :: 6 :: 6 :: 6 :: 6 :: 6 :: 6 :: 6 :: 6 :: 6 :: 6 :: 6 :: 6 :: 6 :: 6 :: 6 :: 6 :: 6 :: 6 :: 6 :: 6 :: 6 :: 7 :: 7 :: 7 :: 7 :: 7 :: 7 :: 7 :: 7 :: 7 :: 7 :: 7 :: 7 :: 7 :: 7 :: 7 :: 7 :: 7 :: 7 :: 7 :: 7 :: 7 :: 7 :: 7 :: 7 :: 7 :: 7 :: 7 :: 7 :: 7 :: 7 :: 7 :: 7 :: 7 :: 7 :: 7 :: 7 :: 7 :: 7 :: 7 :: 7 :: 7 :: 7 :: 7 :: 7 :: 7 :: 7 :: 7 :: 7 :: 7 :: 7 :: 7 :: 7 :: 7 :: 7 :: 7 :: 7 :: 7 :: 7 :: 7 :: 7 :: 7 :: 7 :: 7 :: 7 :: List.replicate 128 8).toArray })
    (Value.int IntKind.u8 ((x.fdiv (2 ^ min (Int.toNat 16) IntKind.u64.bits)).fdiv (2 ^ min (Int.toNat 8) IntKind.u64.bits)))) w13 fun (v5 : Value) (w14 : World) => ∃ (x5 : Int),
    v5 = Value.int IntKind.u8 x5 ∧ KeepX true w.heap.size [] (fun _ => False) w13 w14 ∧ (-9223372036854775808 ≤ x5 ∧ x5 ≤ 9223372036854775807) ∧ ((-9223372036854775808 : Int) ≤ 0 +
    16 + 8 + x5 ∧ 0 + 16 + 8 + x5 ≤ 9223372036854775807) ∧ ∀ (w15 : World), RowKit.Below w.heap.size w w15 → Kept [] w14 w15 → R (Ending.returned (Value.int IntKind.i64 (0 + 16 + 8
    + x5))) w15) ∧ (x.fdiv (2 ^ min (Int.toNat 16) IntKind.u64.bits) < 256 → (0 ≤ x.fdiv (2 ^ min (Int.toNat 16) IntKind.u64.bits) ∧ x.fdiv (2 ^ min (Int.toNat 16)
    IntKind.u64.bits) ≤ 255) ∧ ∀ (w16 : World), RowKit.Below w.heap.size w w16 → Kept [] w w16 → RunsTo Tryz.prog (Instr.index 9 (Value.string
    { data := (0 :: 1 :: 2 :: 2 :: 3 :: 3 :: 3 :: 3 :: 4 :: 4 :: 4 :: 4 :: 4 :: 4 :: 4 :: 4 :: 5 :: 5 :: 5 :: 5 :: 5 :: 5 :: 5 :: 5 :: 5 :: 5 :: 5 :: 5 :: 5 :: 5 :: 5 :: 5 :: 6 :: 6 :: 6 :: 6 :: 6 :: 6 :: 6 :: 6 :: 6 :: 6 :: 6 :: 6 :: 6 :: 6 :: 6 :: 6 :: 6 :: 6 :: 6 :: 6 :: 6 :: 6 :: 6 :: 6 :: 6 :: 6 :: 6 :: 6 :: 6 :: 6 :: 6 :: 6 :: 7 :: 7 :: 7 :: 7 :: 7 :: 7 :: 7 :: 7 :: 7 :: 7 :: 7 :: 7 :: 7 :: 7 :: 7 :: 7 :: 7 :: 7 :: 7 :: 7 :: 7 :: 7 :: 7 :: 7 :: 7 :: 7 :: 7 :: 7 :: 7 :: 7 :: 7 :: 7 :: 7 :: 7 :: 7 :: 7 :: 7 :: 7 :: 7 :: 7 :: 7 :: 7 :: 7 :: 7 :: 7 :: 7 :: 7 :: 7 :: 7 :: 7 :: 7 :: 7 :: 7 :: 7 :: 7 :: 7 :: 7 :: 7 :: 7 :: 7 :: 7 :: 7 :: 7 :: 7 :: List.replicate 128 8).toArray })
    (Value.int IntKind.u8 (x.fdiv (2 ^ min (Int.toNat 16) IntKind.u64.bits)))) w16 fun (v6 : Value) (w17 : World) => ∃ (x6 : Int), v6 = Value.int IntKind.u8 x6 ∧ KeepX true
    w.heap.size [] (fun _ => False) w16 w17 ∧ (-9223372036854775808 ≤ x6 ∧ x6 ≤ 9223372036854775807) ∧ ((-9223372036854775808 : Int) ≤ 0 + 16 + x6 ∧ 0 + 16 + x6 ≤
    9223372036854775807) ∧ ∀ (w18 : World), RowKit.Below w.heap.size w w18 → Kept [] w17 w18 → R (Ending.returned (Value.int IntKind.i64 (0 + 16 + x6))) w18)) ∧ (x < 65536 → (256 ≤
    x → (0 : Int) ≤ 8 ∧ ((-9223372036854775808 : Int) ≤ 0 + 8 ∧ 0 + (8 : Int) ≤ 9223372036854775807) ∧ (0 ≤ x.fdiv (2 ^ min (Int.toNat 8) IntKind.u64.bits) ∧ x.fdiv (2 ^ min
    (Int.toNat 8) IntKind.u64.bits) ≤ 255) ∧ ∀ (w19 : World), RowKit.Below w.heap.size w w19 → Kept [] w w19 → RunsTo Tryz.prog (Instr.index 9 (Value.string
    { data := (0 :: 1 :: 2 :: 2 :: 3 :: 3 :: 3 :: 3 :: 4 :: 4 :: 4 :: 4 :: 4 :: 4 :: 4 :: 4 :: 5 :: 5 :: 5 :: 5 :: 5 :: 5 :: 5 :: 5 :: 5 :: 5 :: 5 :: 5 :: 5 :: 5 :: 5 :: 5 :: 6 :: 6 :: 6 :: 6 :: 6 :: 6 :: 6 :: 6 :: 6 :: 6 :: 6 :: 6 :: 6 :: 6 :: 6 :: 6 :: 6 :: 6 :: 6 :: 6 :: 6 :: 6 :: 6 :: 6 :: 6 :: 6 :: 6 :: 6 :: 6 :: 6 :: 6 :: 6 :: 7 :: 7 :: 7 :: 7 :: 7 :: 7 :: 7 :: 7 :: 7 :: 7 :: 7 :: 7 :: 7 :: 7 :: 7 :: 7 :: 7 :: 7 :: 7 :: 7 :: 7 :: 7 :: 7 :: 7 :: 7 :: 7 :: 7 :: 7 :: 7 :: 7 :: 7 :: 7 :: 7 :: 7 :: 7 :: 7 :: 7 :: 7 :: 7 :: 7 :: 7 :: 7 :: 7 :: 7 :: 7 :: 7 :: 7 :: 7 :: 7 :: 7 :: 7 :: 7 :: 7 :: 7 :: 7 :: 7 :: 7 :: 7 :: 7 :: 7 :: 7 :: 7 :: 7 :: 7 :: List.replicate 128 8).toArray })
    (Value.int IntKind.u8 (x.fdiv (2 ^ min (Int.toNat 8) IntKind.u64.bits)))) w19 fun (v7 : Value) (w20 : World) => ∃ (x7 : Int), v7 = Value.int IntKind.u8 x7 ∧ KeepX true
    w.heap.size [] (fun _ => False) w19 w20 ∧ (-9223372036854775808 ≤ x7 ∧ x7 ≤ 9223372036854775807) ∧ ((-9223372036854775808 : Int) ≤ 0 + 8 + x7 ∧ 0 + 8 + x7 ≤
    9223372036854775807) ∧ ∀ (w21 : World), RowKit.Below w.heap.size w w21 → Kept [] w20 w21 → R (Ending.returned (Value.int IntKind.i64 (0 + 8 + x7))) w21) ∧ (x < 256 → (0 ≤ x ∧ x
    ≤ 255) ∧ ∀ (w22 : World), RowKit.Below w.heap.size w w22 → Kept [] w w22 → RunsTo Tryz.prog (Instr.index 9 (Value.string
    { data := (0 :: 1 :: 2 :: 2 :: 3 :: 3 :: 3 :: 3 :: 4 :: 4 :: 4 :: 4 :: 4 :: 4 :: 4 :: 4 :: 5 :: 5 :: 5 :: 5 :: 5 :: 5 :: 5 :: 5 :: 5 :: 5 :: 5 :: 5 :: 5 :: 5 :: 5 :: 5 :: 6 :: 6 :: 6 :: 6 :: 6 :: 6 :: 6 :: 6 :: 6 :: 6 :: 6 :: 6 :: 6 :: 6 :: 6 :: 6 :: 6 :: 6 :: 6 :: 6 :: 6 :: 6 :: 6 :: 6 :: 6 :: 6 :: 6 :: 6 :: 6 :: 6 :: 6 :: 6 :: 7 :: 7 :: 7 :: 7 :: 7 :: 7 :: 7 :: 7 :: 7 :: 7 :: 7 :: 7 :: 7 :: 7 :: 7 :: 7 :: 7 :: 7 :: 7 :: 7 :: 7 :: 7 :: 7 :: 7 :: 7 :: 7 :: 7 :: 7 :: 7 :: 7 :: 7 :: 7 :: 7 :: 7 :: 7 :: 7 :: 7 :: 7 :: 7 :: 7 :: 7 :: 7 :: 7 :: 7 :: 7 :: 7 :: 7 :: 7 :: 7 :: 7 :: 7 :: 7 :: 7 :: 7 :: 7 :: 7 :: 7 :: 7 :: 7 :: 7 :: 7 :: 7 :: 7 :: 7 :: List.replicate 128 8).toArray })
    (Value.int IntKind.u8 x)) w22 fun (v8 : Value) (w23 : World) => ∃ (x8 : Int), v8 = Value.int IntKind.u8 x8 ∧ KeepX true w.heap.size [] (fun _ => False) w22 w23 ∧
    (-9223372036854775808 ≤ x8 ∧ x8 ≤ 9223372036854775807) ∧ ((-9223372036854775808 : Int) ≤ 0 + x8 ∧ 0 + x8 ≤ 9223372036854775807) ∧ ∀ (w24 : World), RowKit.Below w.heap.size w
    w24 → Kept [] w23 w24 → R (Ending.returned (Value.int IntKind.i64 (0 + x8))) w24)))) : Calls Tryz.prog 177 #[Value.int IntKind.u64 x] w R := calls_of_vc (pure := true) (wrapAt
    := []) (muts := []) (esc := []) (args := [SV.pv (PV.one (Lf.int IntKind.u64 x))]) (vs := [Value.int IntKind.u64 x]) Tryz.func177 rfl rfl rfl (Eq.mp (by kernel_rfl) h) 
set_option maxRecDepth 100000 in
set_option maxHeartbeats 2000000 in
theorem vc167 (dataa : Option Addr) (datan : Nat) (datac : Nat) (a : Int) (b : Int) (w : World) (R : Ending → World → Prop) (h : (-9223372036854775808 ≤ a + 1 ∧ a + (1 : Int) ≤
    9223372036854775807) ∧ ∃ (F1 : List Lf → World → Prop), ∃ (F2 : List Lf → Nat), (∀ (w2 : World), Kept [] w w2 → F1 [Lf.int IntKind.i64 (a + 1)] w2) ∧ ∀ (x1 : Int) (w3 : World),
    F1 [Lf.int IntKind.i64 x1] w3 → (x1 < b → ∃ (F3 : List Lf → World → Prop), ∃ (F4 : List Lf → Nat), (∀ (w5 : World), Kept [] w3 w5 → F3 [Lf.int IntKind.i64 x1] w5) ∧ ∀ (x2 :
    Int) (w6 : World), F3 [Lf.int IntKind.i64 x2] w6 → (a < x2 → ∃ (m1 : Nat), ∃ (m2 : Nat), dataa = some { block := m1, off := m2 } ∧ (0 ≤ x2 ∧ x2 < (↑datan : Int)) ∧ ∃ (x3 :
    Int), w6.cell? { block := m1, off := m2 + x2.toNat * 1 } = some (Value.int IntKind.i64 x3) ∧ (-9223372036854775808 ≤ x2 - 1 ∧ x2 - (1 : Int) ≤ 9223372036854775807) ∧ ∃ (m3 :
    Nat), ∃ (m4 : Nat), dataa = some { block := m3, off := m4 } ∧ (0 ≤ x2 - 1 ∧ x2 - 1 < (↑datan : Int)) ∧ ∃ (x4 : Int), w6.cell? { block := m3, off := m4 + (x2 - 1).toNat * 1 } =
    some (Value.int IntKind.i64 x4) ∧ ∀ (w7 : World), KeptIn [(0, w6.heap.size)] [] w6 w7 → Calls Tryz.prog 173 #[Value.int IntKind.i64 x3, Value.int IntKind.i64 x4] w7 fun (e1 :
    Ending) (w8 : World) => ∃ (t1 : Bool), e1 = Ending.returned (Value.bool t1) ∧ KeepX false w.heap.size [] (fun _ => False) w7 w8 ∧ (t1 = true → (-9223372036854775808 ≤ x2 - 1 ∧
    x2 - (1 : Int) ≤ 9223372036854775807) ∧ ∃ (m6 : Nat), ∃ (m7 : Nat), dataa = some { block := m6, off := m7 } ∧ (0 ≤ x2 - 1 ∧ x2 - 1 < (↑datan : Int)) ∧ ∃ (x5 : Int), w8.cell?
    { block := m6, off := m7 + (x2 - 1).toNat * 1 } = some (Value.int IntKind.i64 x5) ∧ ∃ (m8 : Nat), ∃ (m9 : Nat), dataa = some { block := m8, off := m9 } ∧ (0 ≤ x2 ∧ x2 < (↑datan
    : Int)) ∧ ∃ (x6 : Int), w8.cell? { block := m8, off := m9 + x2.toNat * 1 } = some (Value.int IntKind.i64 x6) ∧ ∃ (m10 : Nat), ∃ (m11 : Nat), dataa = some
    { block := m10, off := m11 } ∧ (0 ≤ x2 ∧ x2 < (↑datan : Int)) ∧ ∀ (w9 : World), KeptIn [(0, w8.heap.size)] [] w8 w9 → RunsTo Tryz.prog ((Instr.storeAt 3 (Value.pointer (some
    { block := m10, off := m11 + x2.toNat * 1 })) (Value.int IntKind.i64 x5)) >>= fun _ => pure (Value.tuple #[])) w9 fun (v1 : Value) (w10 : World) => KeepX false w.heap.size []
    (fun _ => False) w9 w10 ∧ (-9223372036854775808 ≤ x2 - 1 ∧ x2 - (1 : Int) ≤ 9223372036854775807) ∧ ∃ (m13 : Nat), ∃ (m14 : Nat), dataa = some { block := m13, off := m14 } ∧ (0
    ≤ x2 - 1 ∧ x2 - 1 < (↑datan : Int)) ∧ ∀ (w11 : World), KeptIn [(0, w10.heap.size)] [] w10 w11 → RunsTo Tryz.prog ((Instr.storeAt 3 (Value.pointer (some
    { block := m13, off := m14 + (x2 - 1).toNat * 1 })) (Value.int IntKind.i64 x6)) >>= fun _ => pure (Value.tuple #[])) w11 fun (v2 : Value) (w12 : World) => KeepX false
    w.heap.size [] (fun _ => False) w11 w12 ∧ (-9223372036854775808 ≤ x2 - 1 ∧ x2 - (1 : Int) ≤ 9223372036854775807) ∧ ∀ (w13 : World), Kept [] w12 w13 → F3 [Lf.int IntKind.i64 (x2
    - 1)] w13 ∧ F4 [Lf.int IntKind.i64 (x2 - 1)] < F4 [Lf.int IntKind.i64 x2]) ∧ (t1 = false → (-9223372036854775808 ≤ x1 + 1 ∧ x1 + (1 : Int) ≤ 9223372036854775807) ∧ ∀ (w14 :
    World), Kept [] w8 w14 → F1 [Lf.int IntKind.i64 (x1 + 1)] w14 ∧ F2 [Lf.int IntKind.i64 (x1 + 1)] < F2 [Lf.int IntKind.i64 x1])) ∧ (x2 ≤ a → (-9223372036854775808 ≤ x1 + 1 ∧ x1
    + (1 : Int) ≤ 9223372036854775807) ∧ ∀ (w15 : World), Kept [] w6 w15 → F1 [Lf.int IntKind.i64 (x1 + 1)] w15 ∧ F2 [Lf.int IntKind.i64 (x1 + 1)] < F2 [Lf.int IntKind.i64 x1])) ∧
    (b ≤ x1 → ∀ (w16 : World), Kept [] w3 w16 → R (Ending.returned (Value.tuple #[])) w16)) : Calls Tryz.prog 167 #[Value.slice dataa datan datac, Value.int IntKind.i64 a,
    Value.int IntKind.i64 b] w R := calls_of_vc (pure := false) (wrapAt := []) (muts := []) (esc := []) (args := [SV.pv (PV.one (Lf.sl dataa datan datac)), SV.pv (PV.one (Lf.int
    IntKind.i64 a)), SV.pv (PV.one (Lf.int IntKind.i64 b))]) (vs := [Value.slice dataa datan datac, Value.int IntKind.i64 a, Value.int IntKind.i64 b]) Tryz.func167 rfl rfl rfl
    (Eq.mp (by kernel_rfl) h) 
set_option maxRecDepth 100000 in
set_option maxHeartbeats 2000000 in
theorem vc173 (x : Int) (y : Int) (w : World) (R : Ending → World → Prop) (h : ∀ (w1 : World), RowKit.Below w.heap.size w w1 → Kept [] w w1 → Calls Tryz.prog 166 #[Value.int
    IntKind.i64 x] w1 fun (e1 : Ending) (w2 : World) => ∃ (t1 : Bool), e1 = Ending.returned (Value.bool t1) ∧ KeepX true w.heap.size [] (fun _ => False) w1 w2 ∧ (t1 = true → ∀ (w3
    : World), RowKit.Below w.heap.size w w3 → Kept [] w2 w3 → Calls Tryz.prog 166 #[Value.int IntKind.i64 y] w3 fun (e2 : Ending) (w4 : World) => ∃ (t2 : Bool), e2 =
    Ending.returned (Value.bool t2) ∧ KeepX true w.heap.size [] (fun _ => False) w3 w4 ∧ ((!t2) = true → ∀ (w5 : World), RowKit.Below w.heap.size w w5 → Kept [] w4 w5 → R
    (Ending.returned (Value.bool true)) w5) ∧ ((!t2) = false → ∀ (w6 : World), RowKit.Below w.heap.size w w6 → Kept [] w4 w6 → R (Ending.returned (Value.bool (decide (x < y))))
    w6)) ∧ (t1 = false → ∀ (w7 : World), RowKit.Below w.heap.size w w7 → Kept [] w2 w7 → R (Ending.returned (Value.bool (decide (x < y)))) w7)) : Calls Tryz.prog 173 #[Value.int
    IntKind.i64 x, Value.int IntKind.i64 y] w R := calls_of_vc (pure := true) (wrapAt := []) (muts := []) (esc := []) (args := [SV.pv (PV.one (Lf.int IntKind.i64 x)), SV.pv (PV.one
    (Lf.int IntKind.i64 y))]) (vs := [Value.int IntKind.i64 x, Value.int IntKind.i64 y]) Tryz.func173 rfl rfl rfl (Eq.mp (by kernel_rfl) h) 
set_option maxRecDepth 100000 in
set_option maxHeartbeats 2000000 in
theorem vc166 (x : Int) (w : World) (R : Ending → World → Prop) (h : ∀ (w1 : World), RowKit.Below w.heap.size w w1 → Kept [] w w1 → R (Ending.returned (Value.bool (x != x))) w1) :
    Calls Tryz.prog 166 #[Value.int IntKind.i64 x] w R := calls_of_vc (pure := true) (wrapAt := []) (muts := []) (esc := []) (args := [SV.pv (PV.one (Lf.int IntKind.i64 x))]) (vs
    := [Value.int IntKind.i64 x]) Tryz.func166 rfl rfl rfl (Eq.mp (by kernel_rfl) h) 
set_option maxRecDepth 100000 in
set_option maxHeartbeats 2000000 in
theorem vc52 (xa : Option Addr) (xn : Nat) (xc : Nat) (w : World) (R : Ending → World → Prop) (h : (0 ≤ (↑xn : Int) ∧ (↑xn : Int) ≤ 18446744073709551615) ∧ ∀ (w1 : World), Kept []
    w w1 → Calls Tryz.prog 107 #[Value.int IntKind.u64 (↑xn : Int)] w1 fun (e1 : Ending) (w2 : World) => ∃ (x1 : Int), e1 = Ending.returned (Value.int IntKind.i64 x1) ∧ KeepX false
    w.heap.size [] (fun _ => False) w1 w2 ∧ ∀ (w3 : World), Kept [] w2 w3 → Calls Tryz.prog 106 #[Value.slice xa xn xc, Value.int IntKind.i64 0, Value.int IntKind.i64 (↑xn : Int),
    Value.int IntKind.i64 x1] w3 fun (e2 : Ending) (w4 : World) => e2 = Ending.returned (Value.tuple #[]) ∧ KeepX false w.heap.size [] (fun _ => False) w3 w4 ∧ ∀ (w5 : World), Kept
    [] w4 w5 → R (Ending.returned (Value.tuple #[])) w5) : Calls Tryz.prog 52 #[Value.slice xa xn xc] w R := calls_of_vc (pure := false) (wrapAt := []) (muts := []) (esc := [])
    (args := [SV.pv (PV.one (Lf.sl xa xn xc))]) (vs := [Value.slice xa xn xc]) Tryz.func52 rfl rfl rfl (Eq.mp (by kernel_rfl) h) 
set_option maxRecDepth 100000 in
set_option maxHeartbeats 2000000 in
theorem vc69 (sa : Option Addr) (sn : Nat) (sc : Nat) (w : World) (R : Ending → World → Prop) (h : ((↑sn : Int) < 2 → ∀ (w1 : World), RowKit.Below w.heap.size w w1 → Kept [] w w1 →
    R (Ending.returned (Value.slice sa sn sc)) w1) ∧ (2 ≤ (↑sn : Int) → ∃ (F1 : List Lf → World → Prop), ∃ (F2 : List Lf → Nat), (∀ (w3 : World), RowKit.Below w.heap.size w w3 →
    Kept [] w w3 → F1 [Lf.sl none 0 0, Lf.int IntKind.i64 1] w3) ∧ ∀ (a1 : Option Addr) (m1 m2 : Nat) (x1 : Int) (w4 : World), RowKit.Below w.heap.size w w4 → F1 [Lf.sl a1 m1 m2,
    Lf.int IntKind.i64 x1] w4 → (x1 < (↑sn : Int) → ∃ (m3 : Nat), ∃ (m4 : Nat), sa = some { block := m3, off := m4 } ∧ (0 ≤ x1 ∧ x1 < (↑sn : Int)) ∧ ∃ (x2 : Int), w4.cell?
    { block := m3, off := m4 + x1.toNat * 1 } = some (Value.int IntKind.i64 x2) ∧ (-9223372036854775808 ≤ x1 - 1 ∧ x1 - (1 : Int) ≤ 9223372036854775807) ∧ ∃ (m5 : Nat), ∃ (m6 :
    Nat), sa = some { block := m5, off := m6 } ∧ (0 ≤ x1 - 1 ∧ x1 - 1 < (↑sn : Int)) ∧ ∃ (x3 : Int), w4.cell? { block := m5, off := m6 + (x1 - 1).toNat * 1 } = some (Value.int
    IntKind.i64 x3) ∧ (x2 = x3 → (0 ≤ x1 ∧ x1 ≤ (↑sn : Int)) ∧ ∃ (F3 : List Lf → World → Prop), ∃ (F4 : List Lf → Nat), (∀ (w6 : World), RowKit.Below w.heap.size w w6 → Kept [] w4
    w6 → F3 [Lf.int IntKind.i64 x1, Lf.int IntKind.i64 1] w6) ∧ ∀ (x4 x5 : Int) (w7 : World), RowKit.Below w.heap.size w w7 → F3 [Lf.int IntKind.i64 x4, Lf.int IntKind.i64 x5] w7 →
    (x5 < (↑(sn - x1.toNat) : Int) → ∃ (m7 : Nat), ∃ (m8 : Nat), subA sa sc x1.toNat 1 = some { block := m7, off := m8 } ∧ (0 ≤ x5 ∧ x5 < (↑(sn - x1.toNat) : Int)) ∧ ∃ (x6 : Int),
    w7.cell? { block := m7, off := m8 + x5.toNat * 1 } = some (Value.int IntKind.i64 x6) ∧ (-9223372036854775808 ≤ x5 - 1 ∧ x5 - (1 : Int) ≤ 9223372036854775807) ∧ ∃ (m9 : Nat), ∃
    (m10 : Nat), subA sa sc x1.toNat 1 = some { block := m9, off := m10 } ∧ (0 ≤ x5 - 1 ∧ x5 - 1 < (↑(sn - x1.toNat) : Int)) ∧ ∃ (x7 : Int), w7.cell?
    { block := m9, off := m10 + (x5 - 1).toNat * 1 } = some (Value.int IntKind.i64 x7) ∧ (x6 ≠ x7 → ∃ (m11 : Nat), ∃ (m12 : Nat), subA sa sc x1.toNat 1 = some
    { block := m11, off := m12 } ∧ (0 ≤ x5 ∧ x5 < (↑(sn - x1.toNat) : Int)) ∧ ∃ (x8 : Int), w7.cell? { block := m11, off := m12 + x5.toNat * 1 } = some (Value.int IntKind.i64 x8) ∧
    ∃ (m13 : Nat), ∃ (m14 : Nat), sa = some { block := m13, off := m14 } ∧ (0 ≤ x4 ∧ x4 < (↑sn : Int)) ∧ ∀ (w8 : World), RowKit.Below w.heap.size w w8 → Kept [] w7 w8 → RunsTo
    Tryz.prog ((Instr.storeAt 3 (Value.pointer (some { block := m13, off := m14 + x4.toNat * 1 })) (Value.int IntKind.i64 x8)) >>= fun _ => pure (Value.tuple #[])) w8 fun (v1 :
    Value) (w9 : World) => KeepX true w.heap.size [] (fun _ => False) w8 w9 ∧ (-9223372036854775808 ≤ x4 + 1 ∧ x4 + (1 : Int) ≤ 9223372036854775807) ∧ (-9223372036854775808 ≤ x5 +
    1 ∧ x5 + (1 : Int) ≤ 9223372036854775807) ∧ ∀ (w10 : World), RowKit.Below w.heap.size w w10 → Kept [] w9 w10 → F3 [Lf.int IntKind.i64 (x4 + 1), Lf.int IntKind.i64 (x5 + 1)] w10
    ∧ F4 [Lf.int IntKind.i64 (x4 + 1), Lf.int IntKind.i64 (x5 + 1)] < F4 [Lf.int IntKind.i64 x4, Lf.int IntKind.i64 x5]) ∧ (x6 = x7 → (-9223372036854775808 ≤ x5 + 1 ∧ x5 + (1 :
    Int) ≤ 9223372036854775807) ∧ ∀ (w11 : World), RowKit.Below w.heap.size w w11 → Kept [] w7 w11 → F3 [Lf.int IntKind.i64 x4, Lf.int IntKind.i64 (x5 + 1)] w11 ∧ F4 [Lf.int
    IntKind.i64 x4, Lf.int IntKind.i64 (x5 + 1)] < F4 [Lf.int IntKind.i64 x4, Lf.int IntKind.i64 x5])) ∧ ((↑(sn - x1.toNat) : Int) ≤ x5 → (0 ≤ x4 ∧ x4 ≤ (↑sn : Int)) ∧ Unsup "an    operation that is not plain")) ∧ (x2 ≠ x3 → (-9223372036854775808 ≤ x1 + 1 ∧ x1 + (1 : Int) ≤ 9223372036854775807) ∧ ∀ (w12 : World), RowKit.Below w.heap.size w w12 → Kept []
    w4 w12 → F1 [Lf.sl a1 m1 m2, Lf.int IntKind.i64 (x1 + 1)] w12 ∧ F2 [Lf.sl a1 m1 m2, Lf.int IntKind.i64 (x1 + 1)] < F2 [Lf.sl a1 m1 m2, Lf.int IntKind.i64 x1])) ∧ ((↑sn : Int) ≤
    x1 → ∀ (w13 : World), RowKit.Below w.heap.size w w13 → Kept [] w4 w13 → R (Ending.returned (Value.slice sa sn sc)) w13))) : Calls Tryz.prog 69 #[Value.slice sa sn sc] w R :=
    calls_of_vc (pure := true) (wrapAt := []) (muts := []) (esc := []) (args := [SV.pv (PV.one (Lf.sl sa sn sc))]) (vs := [Value.slice sa sn sc]) Tryz.func69 rfl rfl rfl (Eq.mp (by
    kernel_rfl) h) 
set_option maxRecDepth 100000 in
set_option maxHeartbeats 2000000 in
theorem vc220 (dataa : Option Addr) (datan : Nat) (datac : Nat) (a : Int) (b : Int) (cmpf : Nat) (cmpi : List Value) (cmpc : List Value) (w : World) (R : Ending → World → Prop) (h
    : (-9223372036854775808 ≤ a + 1 ∧ a + (1 : Int) ≤ 9223372036854775807) ∧ ∃ (F1 : List Lf → World → Prop), ∃ (F2 : List Lf → Nat), (∀ (w2 : World), Kept [] w w2 → F1 [Lf.int
    IntKind.i64 (a + 1)] w2) ∧ ∀ (x1 : Int) (w3 : World), F1 [Lf.int IntKind.i64 x1] w3 → (x1 < b → ∃ (F3 : List Lf → World → Prop), ∃ (F4 : List Lf → Nat), (∀ (w5 : World), Kept
    [] w3 w5 → F3 [Lf.int IntKind.i64 x1] w5) ∧ ∀ (x2 : Int) (w6 : World), F3 [Lf.int IntKind.i64 x2] w6 → (a < x2 → ∃ (m1 : Nat), ∃ (m2 : Nat), dataa = some
    { block := m1, off := m2 } ∧ (0 ≤ x2 ∧ x2 < (↑datan : Int)) ∧ ∃ (x3 : Int), ∃ (x4 : Int), w6.cell? { block := m1, off := m2 + x2.toNat * 2 } = some (Value.int IntKind.i64 x3) ∧
    w6.cell? { block := m1, off := m2 + x2.toNat * 2 + 1 } = some (Value.int IntKind.i64 x4) ∧ (-9223372036854775808 ≤ x2 - 1 ∧ x2 - (1 : Int) ≤ 9223372036854775807) ∧ ∃ (m3 :
    Nat), ∃ (m4 : Nat), dataa = some { block := m3, off := m4 } ∧ (0 ≤ x2 - 1 ∧ x2 - 1 < (↑datan : Int)) ∧ ∃ (x5 : Int), ∃ (x6 : Int), w6.cell?
    { block := m3, off := m4 + (x2 - 1).toNat * 2 } = some (Value.int IntKind.i64 x5) ∧ w6.cell? { block := m3, off := m4 + (x2 - 1).toNat * 2 + 1 } = some (Value.int IntKind.i64
    x6) ∧ Callable Tryz.prog cmpf ∧ ∀ (w7 : World), KeptIn [(0, w6.heap.size)] [] w6 w7 → Calls Tryz.prog cmpf (cmpi ++ [Value.agg #[Value.int IntKind.i64 x3, Value.int IntKind.i64
    x4], Value.agg #[Value.int IntKind.i64 x5, Value.int IntKind.i64 x6]] ++ cmpc).toArray w7 fun (e1 : Ending) (w8 : World) => ∃ (x7 : Int), e1 = Ending.returned (Value.int
    IntKind.i64 x7) ∧ KeepX false w.heap.size [] (fun _ => False) w7 w8 ∧ (x7 < 0 → (-9223372036854775808 ≤ x2 - 1 ∧ x2 - (1 : Int) ≤ 9223372036854775807) ∧ ∃ (m6 : Nat), ∃ (m7 :
    Nat), dataa = some { block := m6, off := m7 } ∧ (0 ≤ x2 - 1 ∧ x2 - 1 < (↑datan : Int)) ∧ ∃ (x8 : Int), ∃ (x9 : Int), w8.cell? { block := m6, off := m7 + (x2 - 1).toNat * 2 } =
    some (Value.int IntKind.i64 x8) ∧ w8.cell? { block := m6, off := m7 + (x2 - 1).toNat * 2 + 1 } = some (Value.int IntKind.i64 x9) ∧ ∃ (m8 : Nat), ∃ (m9 : Nat), dataa = some
    { block := m8, off := m9 } ∧ (0 ≤ x2 ∧ x2 < (↑datan : Int)) ∧ ∃ (x10 : Int), ∃ (x11 : Int), w8.cell? { block := m8, off := m9 + x2.toNat * 2 } = some (Value.int IntKind.i64
    x10) ∧ w8.cell? { block := m8, off := m9 + x2.toNat * 2 + 1 } = some (Value.int IntKind.i64 x11) ∧ ∃ (m10 : Nat), ∃ (m11 : Nat), dataa = some { block := m10, off := m11 } ∧ (0
    ≤ x2 ∧ x2 < (↑datan : Int)) ∧ ∀ (w9 : World), KeptIn [(0, w8.heap.size)] [] w8 w9 → RunsTo Tryz.prog ((Instr.storeAt 47 (Value.pointer (some
    { block := m10, off := m11 + x2.toNat * 2 })) (Value.agg #[Value.int IntKind.i64 x8, Value.int IntKind.i64 x9])) >>= fun _ => pure (Value.tuple #[])) w9 fun (v1 : Value) (w10 :
    World) => KeepX false w.heap.size [] (fun _ => False) w9 w10 ∧ (-9223372036854775808 ≤ x2 - 1 ∧ x2 - (1 : Int) ≤ 9223372036854775807) ∧ ∃ (m13 : Nat), ∃ (m14 : Nat), dataa =
    some { block := m13, off := m14 } ∧ (0 ≤ x2 - 1 ∧ x2 - 1 < (↑datan : Int)) ∧ ∀ (w11 : World), KeptIn [(0, w10.heap.size)] [] w10 w11 → RunsTo Tryz.prog ((Instr.storeAt 47
    (Value.pointer (some { block := m13, off := m14 + (x2 - 1).toNat * 2 })) (Value.agg #[Value.int IntKind.i64 x10, Value.int IntKind.i64 x11])) >>= fun _ => pure (Value.tuple
    #[])) w11 fun (v2 : Value) (w12 : World) => KeepX false w.heap.size [] (fun _ => False) w11 w12 ∧ (-9223372036854775808 ≤ x2 - 1 ∧ x2 - (1 : Int) ≤ 9223372036854775807) ∧ ∀
    (w13 : World), Kept [] w12 w13 → F3 [Lf.int IntKind.i64 (x2 - 1)] w13 ∧ F4 [Lf.int IntKind.i64 (x2 - 1)] < F4 [Lf.int IntKind.i64 x2]) ∧ (0 ≤ x7 → (-9223372036854775808 ≤ x1 +
    1 ∧ x1 + (1 : Int) ≤ 9223372036854775807) ∧ ∀ (w14 : World), Kept [] w8 w14 → F1 [Lf.int IntKind.i64 (x1 + 1)] w14 ∧ F2 [Lf.int IntKind.i64 (x1 + 1)] < F2 [Lf.int IntKind.i64
    x1])) ∧ (x2 ≤ a → (-9223372036854775808 ≤ x1 + 1 ∧ x1 + (1 : Int) ≤ 9223372036854775807) ∧ ∀ (w15 : World), Kept [] w6 w15 → F1 [Lf.int IntKind.i64 (x1 + 1)] w15 ∧ F2 [Lf.int
    IntKind.i64 (x1 + 1)] < F2 [Lf.int IntKind.i64 x1])) ∧ (b ≤ x1 → ∀ (w16 : World), Kept [] w3 w16 → R (Ending.returned (Value.tuple #[])) w16)) : Calls Tryz.prog 220
    #[Value.slice dataa datan datac, Value.int IntKind.i64 a, Value.int IntKind.i64 b, Value.func (Fn.func cmpf) cmpi.toArray cmpc.toArray] w R := calls_of_vc (pure := false)
    (wrapAt := []) (muts := []) (esc := []) (args := [SV.pv (PV.one (Lf.sl dataa datan datac)), SV.pv (PV.one (Lf.int IntKind.i64 a)), SV.pv (PV.one (Lf.int IntKind.i64 b)), SV.pv
    (PV.one (Lf.fv cmpf cmpi cmpc))]) (vs := [Value.slice dataa datan datac, Value.int IntKind.i64 a, Value.int IntKind.i64 b, Value.func (Fn.func cmpf) cmpi.toArray cmpc.toArray])
    Tryz.func220 rfl rfl rfl (Eq.mp (by kernel_rfl) h) 
end Go.Proofs
end
