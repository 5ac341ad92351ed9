/- Part 4: own lemmas, and the conditions of the functions. -/
import Derived.Test.YtjljemboankbeaaProg
import Derived.Test.YtjljemboankbeaaP03
section
/- The conditions of the functions, printed by program; each is what the generator reckons (kernel_rfl). -/
namespace Go.Proofs
open Go.Vc
set_option maxRecDepth 100000 in
set_option maxHeartbeats 2000000 in
theorem vc81 (sa : Option Addr) (sn : Nat) (sc : Nat) (ff : Nat) (fi : List Value) (fc : List Value) (w : World) (R : Ending → World → Prop) (h : ∃ (F1 : List Lf → World → Prop), ∃
    (F2 : List Lf → Nat), (∀ (w2 : World), RowKit.Below w.heap.size w w2 → Kept [] w w2 → F1 [Lf.int IntKind.i64 0, Lf.int IntKind.i64 0] w2) ∧ ∀ (x1 x2 : Int) (w3 : World),
    RowKit.Below w.heap.size w w3 → F1 [Lf.int IntKind.i64 x1, Lf.int IntKind.i64 x2] w3 → (x2 < (↑sn : Int) → ∃ (m1 : Nat), ∃ (m2 : Nat), sa = some { block := m1, off := m2 } ∧ (0
    ≤ x2 ∧ x2 < (↑sn : Int)) ∧ ∃ (a1 : Option Addr), ∃ (m3 : Nat), ∃ (m4 : Nat), w3.cell? { block := m1, off := m2 + x2.toNat * 1 } = some (Value.slice a1 m3 m4) ∧ Callable
    Try.prog ff ∧ ∀ (w4 : World), RowKit.Below w.heap.size w w4 → Kept [] w3 w4 → Calls Try.prog ff (fi ++ [Value.slice a1 m3 m4] ++ fc).toArray w4 fun (e1 : Ending) (w5 : World)
    => ∃ (t1 : Bool), e1 = Ending.returned (Value.bool t1) ∧ KeepX true w.heap.size [] (fun _ => False) w4 w5 ∧ (t1 = true → ∀ (w6 : World), RowKit.Below w.heap.size w w6 → Kept []
    w5 w6 → R (Ending.returned (Value.int IntKind.i64 x2)) w6) ∧ (t1 = false → (-9223372036854775808 ≤ x2 + 1 ∧ x2 + (1 : Int) ≤ 9223372036854775807) ∧ ∀ (w7 : World), RowKit.Below
    w.heap.size w w7 → Kept [] w5 w7 → F1 [Lf.int IntKind.i64 x1, Lf.int IntKind.i64 (x2 + 1)] w7 ∧ F2 [Lf.int IntKind.i64 x1, Lf.int IntKind.i64 (x2 + 1)] < F2 [Lf.int IntKind.i64
    x1, Lf.int IntKind.i64 x2])) ∧ ((↑sn : Int) ≤ x2 → ∀ (w8 : World), RowKit.Below w.heap.size w w8 → Kept [] w3 w8 → R (Ending.returned (Value.int IntKind.i64 (-1))) w8)) : Calls
    Try.prog 81 #[Value.slice sa sn sc, Value.func (Fn.func ff) fi.toArray fc.toArray] w R := calls_of_vc (pure := true) (wrapAt := []) (muts := []) (esc := []) (args := [SV.pv
    (PV.one (Lf.sl sa sn sc)), SV.pv (PV.one (Lf.fv ff fi fc))]) (vs := [Value.slice sa sn sc, Value.func (Fn.func ff) fi.toArray fc.toArray]) Try.func81 rfl rfl rfl (Eq.mp (by
    kernel_rfl) h) 
set_option maxRecDepth 100000 in
set_option maxHeartbeats 2000000 in
theorem vc82 (sa : Option Addr) (sn : Nat) (sc : Nat) (ff : Nat) (fi : List Value) (fc : List Value) (w : World) (R : Ending → World → Prop) (h : ∃ (F1 : List Lf → World → Prop), ∃
    (F2 : List Lf → Nat), (∀ (w2 : World), RowKit.Below w.heap.size w w2 → Kept [] w w2 → F1 [Lf.int IntKind.i64 0, Lf.int IntKind.i64 0] w2) ∧ ∀ (x1 x2 : Int) (w3 : World),
    RowKit.Below w.heap.size w w3 → F1 [Lf.int IntKind.i64 x1, Lf.int IntKind.i64 x2] w3 → (x2 < (↑sn : Int) → ∃ (m1 : Nat), ∃ (m2 : Nat), sa = some { block := m1, off := m2 } ∧ (0
    ≤ x2 ∧ x2 < (↑sn : Int)) ∧ ∃ (x3 : Int), ∃ (x4 : Int), ∃ (x5 : Int), ∃ (x6 : Int), ∃ (x7 : Int), ∃ (x8 : Int), w3.cell? { block := m1, off := m2 + x2.toNat * 6 } = some
    (Value.int IntKind.i64 x3) ∧ w3.cell? { block := m1, off := m2 + x2.toNat * 6 + 1 } = some (Value.int IntKind.i64 x4) ∧ w3.cell?
    { block := m1, off := m2 + x2.toNat * 6 + 1 + 1 } = some (Value.int IntKind.i64 x5) ∧ w3.cell? { block := m1, off := m2 + x2.toNat * 6 + 1 + 1 + 1 } = some (Value.int
    IntKind.i64 x6) ∧ w3.cell? { block := m1, off := m2 + x2.toNat * 6 + 1 + 1 + 1 + 1 } = some (Value.int IntKind.i64 x7) ∧ w3.cell?
    { block := m1, off := m2 + x2.toNat * 6 + 1 + 1 + 1 + 1 + 1 } = some (Value.int IntKind.i64 x8) ∧ Callable Try.prog ff ∧ ∀ (w4 : World), RowKit.Below w.heap.size w w4 → Kept []
    w3 w4 → Calls Try.prog ff (fi ++ [Value.agg #[Value.int IntKind.i64 x3, Value.int IntKind.i64 x4, Value.int IntKind.i64 x5, Value.int IntKind.i64 x6, Value.int IntKind.i64 x7,
    Value.int IntKind.i64 x8]] ++ fc).toArray w4 fun (e1 : Ending) (w5 : World) => ∃ (t1 : Bool), e1 = Ending.returned (Value.bool t1) ∧ KeepX true w.heap.size [] (fun _ => False)
    w4 w5 ∧ (t1 = true → ∀ (w6 : World), RowKit.Below w.heap.size w w6 → Kept [] w5 w6 → R (Ending.returned (Value.int IntKind.i64 x2)) w6) ∧ (t1 = false → (-9223372036854775808 ≤
    x2 + 1 ∧ x2 + (1 : Int) ≤ 9223372036854775807) ∧ ∀ (w7 : World), RowKit.Below w.heap.size w w7 → Kept [] w5 w7 → F1 [Lf.int IntKind.i64 x1, Lf.int IntKind.i64 (x2 + 1)] w7 ∧ F2
    [Lf.int IntKind.i64 x1, Lf.int IntKind.i64 (x2 + 1)] < F2 [Lf.int IntKind.i64 x1, Lf.int IntKind.i64 x2])) ∧ ((↑sn : Int) ≤ x2 → ∀ (w8 : World), RowKit.Below w.heap.size w w8 →
    Kept [] w3 w8 → R (Ending.returned (Value.int IntKind.i64 (-1))) w8)) : Calls Try.prog 82 #[Value.slice sa sn sc, Value.func (Fn.func ff) fi.toArray fc.toArray] w R :=
    calls_of_vc (pure := true) (wrapAt := []) (muts := []) (esc := []) (args := [SV.pv (PV.one (Lf.sl sa sn sc)), SV.pv (PV.one (Lf.fv ff fi fc))]) (vs := [Value.slice sa sn sc,
    Value.func (Fn.func ff) fi.toArray fc.toArray]) Try.func82 rfl rfl rfl (Eq.mp (by kernel_rfl) h) 
set_option maxRecDepth 100000 in
set_option maxHeartbeats 2000000 in
theorem vc87 (sa : Option Addr) (sn : Nat) (sc : Nat) (ff : Nat) (fi : List Value) (fc : List Value) (w : World) (R : Ending → World → Prop) (h : ∃ (F1 : List Lf → World → Prop), ∃
    (F2 : List Lf → Nat), (∀ (w2 : World), RowKit.Below w.heap.size w w2 → Kept [] w w2 → F1 [Lf.int IntKind.i64 0, Lf.int IntKind.i64 0] w2) ∧ ∀ (x1 x2 : Int) (w3 : World),
    RowKit.Below w.heap.size w w3 → F1 [Lf.int IntKind.i64 x1, Lf.int IntKind.i64 x2] w3 → (x2 < (↑sn : Int) → ∃ (m1 : Nat), ∃ (m2 : Nat), sa = some { block := m1, off := m2 } ∧ (0
    ≤ x2 ∧ x2 < (↑sn : Int)) ∧ ∃ (x3 : Int), ∃ (x4 : Int), ∃ (x5 : Int), w3.cell? { block := m1, off := m2 + x2.toNat * 3 } = some (Value.int IntKind.i64 x3) ∧ w3.cell?
    { block := m1, off := m2 + x2.toNat * 3 + 1 } = some (Value.int IntKind.i64 x4) ∧ w3.cell? { block := m1, off := m2 + x2.toNat * 3 + 1 + 1 } = some (Value.int IntKind.i64 x5) ∧
    Callable Try.prog ff ∧ ∀ (w4 : World), RowKit.Below w.heap.size w w4 → Kept [] w3 w4 → Calls Try.prog ff (fi ++ [Value.agg #[Value.int IntKind.i64 x3, Value.int IntKind.i64 x4,
    Value.int IntKind.i64 x5]] ++ fc).toArray w4 fun (e1 : Ending) (w5 : World) => ∃ (t1 : Bool), e1 = Ending.returned (Value.bool t1) ∧ KeepX true w.heap.size [] (fun _ => False)
    w4 w5 ∧ (t1 = true → ∀ (w6 : World), RowKit.Below w.heap.size w w6 → Kept [] w5 w6 → R (Ending.returned (Value.int IntKind.i64 x2)) w6) ∧ (t1 = false → (-9223372036854775808 ≤
    x2 + 1 ∧ x2 + (1 : Int) ≤ 9223372036854775807) ∧ ∀ (w7 : World), RowKit.Below w.heap.size w w7 → Kept [] w5 w7 → F1 [Lf.int IntKind.i64 x1, Lf.int IntKind.i64 (x2 + 1)] w7 ∧ F2
    [Lf.int IntKind.i64 x1, Lf.int IntKind.i64 (x2 + 1)] < F2 [Lf.int IntKind.i64 x1, Lf.int IntKind.i64 x2])) ∧ ((↑sn : Int) ≤ x2 → ∀ (w8 : World), RowKit.Below w.heap.size w w8 →
    Kept [] w3 w8 → R (Ending.returned (Value.int IntKind.i64 (-1))) w8)) : Calls Try.prog 87 #[Value.slice sa sn sc, Value.func (Fn.func ff) fi.toArray fc.toArray] w R :=
    calls_of_vc (pure := true) (wrapAt := []) (muts := []) (esc := []) (args := [SV.pv (PV.one (Lf.sl sa sn sc)), SV.pv (PV.one (Lf.fv ff fi fc))]) (vs := [Value.slice sa sn sc,
    Value.func (Fn.func ff) fi.toArray fc.toArray]) Try.func87 rfl rfl rfl (Eq.mp (by kernel_rfl) h) 
set_option maxRecDepth 100000 in
set_option maxHeartbeats 2000000 in
theorem vc88 (sa : Option Addr) (sn : Nat) (sc : Nat) (ff : Nat) (fi : List Value) (fc : List Value) (w : World) (R : Ending → World → Prop) (h : ∃ (F1 : List Lf → World → Prop), ∃
    (F2 : List Lf → Nat), (∀ (w2 : World), RowKit.Below w.heap.size w w2 → Kept [] w w2 → F1 [Lf.int IntKind.i64 0, Lf.int IntKind.i64 0] w2) ∧ ∀ (x1 x2 : Int) (w3 : World),
    RowKit.Below w.heap.size w w3 → F1 [Lf.int IntKind.i64 x1, Lf.int IntKind.i64 x2] w3 → (x2 < (↑sn : Int) → ∃ (m1 : Nat), ∃ (m2 : Nat), sa = some { block := m1, off := m2 } ∧ (0
    ≤ x2 ∧ x2 < (↑sn : Int)) ∧ ∃ (x3 : Int), ∃ (x4 : Int), w3.cell? { block := m1, off := m2 + x2.toNat * 2 } = some (Value.int IntKind.i64 x3) ∧ w3.cell?
    { block := m1, off := m2 + x2.toNat * 2 + 1 } = some (Value.int IntKind.i64 x4) ∧ Callable Try.prog ff ∧ ∀ (w4 : World), RowKit.Below w.heap.size w w4 → Kept [] w3 w4 → Calls
    Try.prog ff (fi ++ [Value.agg #[Value.int IntKind.i64 x3, Value.int IntKind.i64 x4]] ++ fc).toArray w4 fun (e1 : Ending) (w5 : World) => ∃ (t1 : Bool), e1 = Ending.returned
    (Value.bool t1) ∧ KeepX true w.heap.size [] (fun _ => False) w4 w5 ∧ (t1 = true → ∀ (w6 : World), RowKit.Below w.heap.size w w6 → Kept [] w5 w6 → R (Ending.returned (Value.int
    IntKind.i64 x2)) w6) ∧ (t1 = false → (-9223372036854775808 ≤ x2 + 1 ∧ x2 + (1 : Int) ≤ 9223372036854775807) ∧ ∀ (w7 : World), RowKit.Below w.heap.size w w7 → Kept [] w5 w7 → F1
    [Lf.int IntKind.i64 x1, Lf.int IntKind.i64 (x2 + 1)] w7 ∧ F2 [Lf.int IntKind.i64 x1, Lf.int IntKind.i64 (x2 + 1)] < F2 [Lf.int IntKind.i64 x1, Lf.int IntKind.i64 x2])) ∧ ((↑sn
    : Int) ≤ x2 → ∀ (w8 : World), RowKit.Below w.heap.size w w8 → Kept [] w3 w8 → R (Ending.returned (Value.int IntKind.i64 (-1))) w8)) : Calls Try.prog 88 #[Value.slice sa sn sc,
    Value.func (Fn.func ff) fi.toArray fc.toArray] w R := calls_of_vc (pure := true) (wrapAt := []) (muts := []) (esc := []) (args := [SV.pv (PV.one (Lf.sl sa sn sc)), SV.pv
    (PV.one (Lf.fv ff fi fc))]) (vs := [Value.slice sa sn sc, Value.func (Fn.func ff) fi.toArray fc.toArray]) Try.func88 rfl rfl rfl (Eq.mp (by kernel_rfl) h) 
set_option maxRecDepth 100000 in
set_option maxHeartbeats 2000000 in
theorem vc89 (sa : Option Addr) (sn : Nat) (sc : Nat) (ff : Nat) (fi : List Value) (fc : List Value) (w : World) (R : Ending → World → Prop) (h : ∃ (F1 : List Lf → World → Prop), ∃
    (F2 : List Lf → Nat), (∀ (w2 : World), RowKit.Below w.heap.size w w2 → Kept [] w w2 → F1 [Lf.int IntKind.i64 0, Lf.int IntKind.i64 0] w2) ∧ ∀ (x1 x2 : Int) (w3 : World),
    RowKit.Below w.heap.size w w3 → F1 [Lf.int IntKind.i64 x1, Lf.int IntKind.i64 x2] w3 → (x2 < (↑sn : Int) → ∃ (m1 : Nat), ∃ (m2 : Nat), sa = some { block := m1, off := m2 } ∧ (0
    ≤ x2 ∧ x2 < (↑sn : Int)) ∧ ∃ (x3 : Int), w3.cell? { block := m1, off := m2 + x2.toNat * 1 } = some (Value.int IntKind.i64 x3) ∧ Callable Try.prog ff ∧ ∀ (w4 : World),
    RowKit.Below w.heap.size w w4 → Kept [] w3 w4 → Calls Try.prog ff (fi ++ [Value.int IntKind.i64 x3] ++ fc).toArray w4 fun (e1 : Ending) (w5 : World) => ∃ (t1 : Bool), e1 =
    Ending.returned (Value.bool t1) ∧ KeepX true w.heap.size [] (fun _ => False) w4 w5 ∧ (t1 = true → ∀ (w6 : World), RowKit.Below w.heap.size w w6 → Kept [] w5 w6 → R
    (Ending.returned (Value.int IntKind.i64 x2)) w6) ∧ (t1 = false → (-9223372036854775808 ≤ x2 + 1 ∧ x2 + (1 : Int) ≤ 9223372036854775807) ∧ ∀ (w7 : World), RowKit.Below
    w.heap.size w w7 → Kept [] w5 w7 → F1 [Lf.int IntKind.i64 x1, Lf.int IntKind.i64 (x2 + 1)] w7 ∧ F2 [Lf.int IntKind.i64 x1, Lf.int IntKind.i64 (x2 + 1)] < F2 [Lf.int IntKind.i64
    x1, Lf.int IntKind.i64 x2])) ∧ ((↑sn : Int) ≤ x2 → ∀ (w8 : World), RowKit.Below w.heap.size w w8 → Kept [] w3 w8 → R (Ending.returned (Value.int IntKind.i64 (-1))) w8)) : Calls
    Try.prog 89 #[Value.slice sa sn sc, Value.func (Fn.func ff) fi.toArray fc.toArray] w R := calls_of_vc (pure := true) (wrapAt := []) (muts := []) (esc := []) (args := [SV.pv
    (PV.one (Lf.sl sa sn sc)), SV.pv (PV.one (Lf.fv ff fi fc))]) (vs := [Value.slice sa sn sc, Value.func (Fn.func ff) fi.toArray fc.toArray]) Try.func89 rfl rfl rfl (Eq.mp (by
    kernel_rfl) h) 
set_option maxRecDepth 100000 in
set_option maxHeartbeats 2000000 in
theorem vc51 (sa : Option Addr) (sn : Nat) (sc : Nat) (ff : Nat) (fi : List Value) (fc : List Value) (w : World) (R : Ending → World → Prop) (h : ∀ (w1 : World), RowKit.Below
    w.heap.size w w1 → Kept [] w w1 → Calls Try.prog 81 #[Value.slice sa sn sc, Value.func (Fn.func ff) fi.toArray fc.toArray] w1 fun (e1 : Ending) (w2 : World) => ∃ (x1 : Int), e1
    = Ending.returned (Value.int IntKind.i64 x1) ∧ KeepX true w.heap.size [] (fun _ => False) w1 w2 ∧ ∀ (w3 : World), RowKit.Below w.heap.size w w3 → Kept [] w2 w3 → R
    (Ending.returned (Value.bool (decide (0 ≤ x1)))) w3) : Calls Try.prog 51 #[Value.slice sa sn sc, Value.func (Fn.func ff) fi.toArray fc.toArray] w R := calls_of_vc (pure :=
    true) (wrapAt := []) (muts := []) (esc := []) (args := [SV.pv (PV.one (Lf.sl sa sn sc)), SV.pv (PV.one (Lf.fv ff fi fc))]) (vs := [Value.slice sa sn sc, Value.func (Fn.func ff)
    fi.toArray fc.toArray]) Try.func51 rfl rfl rfl (Eq.mp (by kernel_rfl) h) 
set_option maxRecDepth 100000 in
set_option maxHeartbeats 2000000 in
theorem vc52 (sa : Option Addr) (sn : Nat) (sc : Nat) (ff : Nat) (fi : List Value) (fc : List Value) (w : World) (R : Ending → World → Prop) (h : ∀ (w1 : World), RowKit.Below
    w.heap.size w w1 → Kept [] w w1 → Calls Try.prog 82 #[Value.slice sa sn sc, Value.func (Fn.func ff) fi.toArray fc.toArray] w1 fun (e1 : Ending) (w2 : World) => ∃ (x1 : Int), e1
    = Ending.returned (Value.int IntKind.i64 x1) ∧ KeepX true w.heap.size [] (fun _ => False) w1 w2 ∧ ∀ (w3 : World), RowKit.Below w.heap.size w w3 → Kept [] w2 w3 → R
    (Ending.returned (Value.bool (decide (0 ≤ x1)))) w3) : Calls Try.prog 52 #[Value.slice sa sn sc, Value.func (Fn.func ff) fi.toArray fc.toArray] w R := calls_of_vc (pure :=
    true) (wrapAt := []) (muts := []) (esc := []) (args := [SV.pv (PV.one (Lf.sl sa sn sc)), SV.pv (PV.one (Lf.fv ff fi fc))]) (vs := [Value.slice sa sn sc, Value.func (Fn.func ff)
    fi.toArray fc.toArray]) Try.func52 rfl rfl rfl (Eq.mp (by kernel_rfl) h) 
set_option maxRecDepth 100000 in
set_option maxHeartbeats 2000000 in
theorem vc69 (sa : Option Addr) (sn : Nat) (sc : Nat) (ff : Nat) (fi : List Value) (fc : List Value) (w : World) (R : Ending → World → Prop) (h : ∀ (w1 : World), RowKit.Below
    w.heap.size w w1 → Kept [] w w1 → Calls Try.prog 87 #[Value.slice sa sn sc, Value.func (Fn.func ff) fi.toArray fc.toArray] w1 fun (e1 : Ending) (w2 : World) => ∃ (x1 : Int), e1
    = Ending.returned (Value.int IntKind.i64 x1) ∧ KeepX true w.heap.size [] (fun _ => False) w1 w2 ∧ ∀ (w3 : World), RowKit.Below w.heap.size w w3 → Kept [] w2 w3 → R
    (Ending.returned (Value.bool (decide (0 ≤ x1)))) w3) : Calls Try.prog 69 #[Value.slice sa sn sc, Value.func (Fn.func ff) fi.toArray fc.toArray] w R := calls_of_vc (pure :=
    true) (wrapAt := []) (muts := []) (esc := []) (args := [SV.pv (PV.one (Lf.sl sa sn sc)), SV.pv (PV.one (Lf.fv ff fi fc))]) (vs := [Value.slice sa sn sc, Value.func (Fn.func ff)
    fi.toArray fc.toArray]) Try.func69 rfl rfl rfl (Eq.mp (by kernel_rfl) h) 
set_option maxRecDepth 100000 in
set_option maxHeartbeats 2000000 in
theorem vc77 (sa : Option Addr) (sn : Nat) (sc : Nat) (ff : Nat) (fi : List Value) (fc : List Value) (w : World) (R : Ending → World → Prop) (h : ∀ (w1 : World), RowKit.Below
    w.heap.size w w1 → Kept [] w w1 → Calls Try.prog 88 #[Value.slice sa sn sc, Value.func (Fn.func ff) fi.toArray fc.toArray] w1 fun (e1 : Ending) (w2 : World) => ∃ (x1 : Int), e1
    = Ending.returned (Value.int IntKind.i64 x1) ∧ KeepX true w.heap.size [] (fun _ => False) w1 w2 ∧ ∀ (w3 : World), RowKit.Below w.heap.size w w3 → Kept [] w2 w3 → R
    (Ending.returned (Value.bool (decide (0 ≤ x1)))) w3) : Calls Try.prog 77 #[Value.slice sa sn sc, Value.func (Fn.func ff) fi.toArray fc.toArray] w R := calls_of_vc (pure :=
    true) (wrapAt := []) (muts := []) (esc := []) (args := [SV.pv (PV.one (Lf.sl sa sn sc)), SV.pv (PV.one (Lf.fv ff fi fc))]) (vs := [Value.slice sa sn sc, Value.func (Fn.func ff)
    fi.toArray fc.toArray]) Try.func77 rfl rfl rfl (Eq.mp (by kernel_rfl) h) 
set_option maxRecDepth 100000 in
set_option maxHeartbeats 2000000 in
theorem vc79 (sa : Option Addr) (sn : Nat) (sc : Nat) (ff : Nat) (fi : List Value) (fc : List Value) (w : World) (R : Ending → World → Prop) (h : ∀ (w1 : World), RowKit.Below
    w.heap.size w w1 → Kept [] w w1 → Calls Try.prog 89 #[Value.slice sa sn sc, Value.func (Fn.func ff) fi.toArray fc.toArray] w1 fun (e1 : Ending) (w2 : World) => ∃ (x1 : Int), e1
    = Ending.returned (Value.int IntKind.i64 x1) ∧ KeepX true w.heap.size [] (fun _ => False) w1 w2 ∧ ∀ (w3 : World), RowKit.Below w.heap.size w w3 → Kept [] w2 w3 → R
    (Ending.returned (Value.bool (decide (0 ≤ x1)))) w3) : Calls Try.prog 79 #[Value.slice sa sn sc, Value.func (Fn.func ff) fi.toArray fc.toArray] w R := calls_of_vc (pure :=
    true) (wrapAt := []) (muts := []) (esc := []) (args := [SV.pv (PV.one (Lf.sl sa sn sc)), SV.pv (PV.one (Lf.fv ff fi fc))]) (vs := [Value.slice sa sn sc, Value.func (Fn.func ff)
    fi.toArray fc.toArray]) Try.func79 rfl rfl rfl (Eq.mp (by kernel_rfl) h) 
set_option maxRecDepth 100000 in
set_option maxHeartbeats 2000000 in
theorem vc80 (n : Int) (cap0b : Nat) (cap1b : Nat) (w : World) (R : Ending → World → Prop) (h : ∃ (x1 : Int), w.cell? { block := cap0b, off := 0 } = some (Value.int IntKind.i64 x1)
    ∧ (n < x1 → ∀ (w1 : World), RowKit.Below w.heap.size w w1 → Kept [] w w1 → R (Ending.returned (Value.bool true)) w1) ∧ (x1 ≤ n → ∃ (x2 : Int), w.cell?
    { block := cap1b, off := 0 } = some (Value.int IntKind.i64 x2) ∧ ∀ (w2 : World), RowKit.Below w.heap.size w w2 → Kept [] w w2 → R (Ending.returned (Value.bool (decide (x2 <
    n)))) w2)) : Calls Try.prog 80 #[Value.int IntKind.i64 n, Value.pointer (some { block := cap0b, off := 0 }), Value.pointer (some { block := cap1b, off := 0 })] w R :=
    calls_of_vc (pure := true) (wrapAt := []) (muts := []) (esc := []) (args := [SV.pv (PV.one (Lf.int IntKind.i64 n)), SV.pv (PV.one (Lf.ptr cap0b 0)), SV.pv (PV.one (Lf.ptr cap1b
    0))]) (vs := [Value.int IntKind.i64 n, Value.pointer (some { block := cap0b, off := 0 }), Value.pointer (some { block := cap1b, off := 0 })]) Try.func80 rfl rfl rfl (Eq.mp (by
    kernel_rfl) h) 
set_option maxRecDepth 100000 in
set_option maxHeartbeats 2000000 in
theorem vc50 (least : Int) (most : Int) (la : Option Addr) (ln : Nat) (lc : Nat) (w : World) (R : Ending → World → Prop) (h : ∀ (m1 : Nat), w.heap.size ≤ m1 → ∀ (m2 : Nat),
    w.heap.size ≤ m2 → ∀ (w1 : World), RowKit.Below w.heap.size w w1 → Kept [m2, m1] w w1 → w1.heap[m1]? = some (Obj.cells #[Value.int IntKind.i64 least] 3) → w1.heap[m2]? = some
    (Obj.cells #[Value.int IntKind.i64 most] 3) → Calls Try.prog 79 #[Value.slice la ln lc, Value.func (Fn.func 80) #[] #[Value.pointer (some { block := m1, off := 0 }),
    Value.pointer (some { block := m2, off := 0 })]] w1 fun (e1 : Ending) (w2 : World) => ∃ (t1 : Bool), e1 = Ending.returned (Value.bool t1) ∧ KeepX true w.heap.size [m2, m1] (fun
    _ => False) w1 w2 ∧ ∀ (w3 : World), RowKit.Below w.heap.size w w3 → Kept [m2, m1] w2 w3 → R (Ending.returned (Value.bool !t1)) w3) : Calls Try.prog 50 #[Value.int IntKind.i64
    least, Value.int IntKind.i64 most, Value.slice la ln lc] w R := calls_of_vc (pure := true) (wrapAt := []) (muts := []) (esc := []) (args := [SV.pv (PV.one (Lf.int IntKind.i64
    least)), SV.pv (PV.one (Lf.int IntKind.i64 most)), SV.pv (PV.one (Lf.sl la ln lc))]) (vs := [Value.int IntKind.i64 least, Value.int IntKind.i64 most, Value.slice la ln lc])
    Try.func50 rfl rfl rfl (Eq.mp (by kernel_rfl) h) 
set_option maxRecDepth 100000 in
set_option maxHeartbeats 2000000 in
theorem vc61 (s0 : Int) (s1 : Int) (least : Int) (most : Int) (w : World) (R : Ending → World → Prop) (h : ∀ (m1 : Nat), w.heap.size ≤ m1 → ∀ (m2 : Nat), w.heap.size ≤ m2 → ∀ (w1 :
    World), RowKit.Below w.heap.size w w1 → Kept [m2, m1] w w1 → w1.heap[m2]? = some (Obj.cells #[Value.int IntKind.i64 s0, Value.int IntKind.i64 s1] 3) → Calls Try.prog 50
    #[Value.int IntKind.i64 least, Value.int IntKind.i64 most, Value.slice (some { block := m2, off := 0 }) 2 2] w1 fun (e1 : Ending) (w2 : World) => ∃ (t1 : Bool), e1 =
    Ending.returned (Value.bool t1) ∧ KeepX true w.heap.size [m2, m1] (fun _ => False) w1 w2 ∧ (t1 = true → ∀ (w3 : World), RowKit.Below w.heap.size w w3 → Kept [m2, m1] w2 w3 → R
    (Ending.returned (Value.bool (decide (s0 ≤ s1)))) w3) ∧ (t1 = false → ∀ (w4 : World), RowKit.Below w.heap.size w w4 → Kept [m2, m1] w2 w4 → R (Ending.returned (Value.bool
    false)) w4)) : Calls Try.prog 61 #[Value.agg #[Value.int IntKind.i64 s0, Value.int IntKind.i64 s1], Value.int IntKind.i64 least, Value.int IntKind.i64 most] w R := calls_of_vc
    (pure := true) (wrapAt := []) (muts := []) (esc := []) (args := [SV.pv (PV.agg [Lf.int IntKind.i64 s0, Lf.int IntKind.i64 s1]), SV.pv (PV.one (Lf.int IntKind.i64 least)), SV.pv
    (PV.one (Lf.int IntKind.i64 most))]) (vs := [Value.agg #[Value.int IntKind.i64 s0, Value.int IntKind.i64 s1], Value.int IntKind.i64 least, Value.int IntKind.i64 most])
    Try.func61 rfl rfl rfl (Eq.mp (by kernel_rfl) h) 
set_option maxRecDepth 100000 in
set_option maxHeartbeats 2000000 in
theorem vc78 (s0 : Int) (s1 : Int) (w : World) (R : Ending → World → Prop) (h : ∀ (m1 : Nat), w.heap.size ≤ m1 → ∀ (w1 : World), RowKit.Below w.heap.size w w1 → Kept [m1] w w1 →
    Calls Try.prog 61 #[Value.agg #[Value.int IntKind.i64 s0, Value.int IntKind.i64 s1], Value.int IntKind.i64 0, Value.int IntKind.i64 1000000] w1 fun (e1 : Ending) (w2 : World)
    => ∃ (t1 : Bool), e1 = Ending.returned (Value.bool t1) ∧ KeepX true w.heap.size [m1] (fun _ => False) w1 w2 ∧ ∀ (w3 : World), RowKit.Below w.heap.size w w3 → Kept [m1] w2 w3 →
    R (Ending.returned (Value.bool !t1)) w3) : Calls Try.prog 78 #[Value.agg #[Value.int IntKind.i64 s0, Value.int IntKind.i64 s1]] w R := calls_of_vc (pure := true) (wrapAt := [])
    (muts := []) (esc := []) (args := [SV.pv (PV.agg [Lf.int IntKind.i64 s0, Lf.int IntKind.i64 s1])]) (vs := [Value.agg #[Value.int IntKind.i64 s0, Value.int IntKind.i64 s1]])
    Try.func78 rfl rfl rfl (Eq.mp (by kernel_rfl) h) 
set_option maxRecDepth 100000 in
set_option maxHeartbeats 2000000 in
theorem vc47 (la : Option Addr) (ln : Nat) (lc : Nat) (w : World) (R : Ending → World → Prop) (h : ∀ (m1 : Nat), w.heap.size ≤ m1 → ∀ (w1 : World), RowKit.Below w.heap.size w w1 →
    Kept [m1] w w1 → w1.heap[m1]? = some (Obj.cells #[Value.int IntKind.i64 (↑ln : Int)] 3) → Calls Try.prog 50 #[Value.int IntKind.i64 1, Value.int IntKind.i64 10, Value.slice
    (some { block := m1, off := 0 }) 1 1] w1 fun (e1 : Ending) (w2 : World) => ∃ (t1 : Bool), e1 = Ending.returned (Value.bool t1) ∧ KeepX true w.heap.size [m1] (fun _ => False) w1
    w2 ∧ (t1 = true → ∀ (w3 : World), RowKit.Below w.heap.size w w3 → Kept [m1] w2 w3 → Calls Try.prog 77 #[Value.slice la ln lc, Value.func (Fn.func 78) #[] #[]] w3 fun (e2 :
    Ending) (w4 : World) => ∃ (t2 : Bool), e2 = Ending.returned (Value.bool t2) ∧ KeepX true w.heap.size [m1] (fun _ => False) w3 w4 ∧ ∀ (w5 : World), RowKit.Below w.heap.size w w5
    → Kept [m1] w4 w5 → R (Ending.returned (Value.bool !t2)) w5) ∧ (t1 = false → ∀ (w6 : World), RowKit.Below w.heap.size w w6 → Kept [m1] w2 w6 → R (Ending.returned (Value.bool
    false)) w6)) : Calls Try.prog 47 #[Value.slice la ln lc] w R := calls_of_vc (pure := true) (wrapAt := []) (muts := []) (esc := []) (args := [SV.pv (PV.one (Lf.sl la ln lc))])
    (vs := [Value.slice la ln lc]) Try.func47 rfl rfl rfl (Eq.mp (by kernel_rfl) h) 
set_option maxRecDepth 100000 in
set_option maxHeartbeats 2000000 in
theorem vc60 (p0w0a : Option Addr) (p0w0n : Nat) (p0w0c : Nat) (p0w1a : Option Addr) (p0w1n : Nat) (p0w1c : Nat) (pattern : Int) (size : Int) (w : World) (R : Ending → World →
    Prop) (h : ∀ (m1 : Nat), w.heap.size ≤ m1 → (-9223372036854775808 ≤ (↑p0w0n : Int) - 1 ∧ (↑p0w0n : Int) - (1 : Int) ≤ 9223372036854775807) ∧ ∀ (m2 : Nat), w.heap.size ≤ m2 → ∀
    (w1 : World), RowKit.Below w.heap.size w w1 → Kept [m2, m1] w w1 → w1.heap[m2]? = some (Obj.cells #[Value.int IntKind.i64 pattern] 3) → Calls Try.prog 50 #[Value.int
    IntKind.i64 0, Value.int IntKind.i64 ((↑p0w0n : Int) - 1), Value.slice (some { block := m2, off := 0 }) 1 1] w1 fun (e1 : Ending) (w2 : World) => ∃ (t1 : Bool), e1 =
    Ending.returned (Value.bool t1) ∧ KeepX true w.heap.size [m2, m1] (fun _ => False) w1 w2 ∧ (t1 = true → ∃ (m5 : Nat), ∃ (m6 : Nat), p0w0a = some { block := m5, off := m6 } ∧ (0
    ≤ pattern ∧ pattern < (↑p0w0n : Int)) ∧ ∃ (a1 : Option Addr), ∃ (m7 : Nat), ∃ (m8 : Nat), w2.cell? { block := m5, off := m6 + pattern.toNat * 1 } = some (Value.slice a1 m7 m8)
    ∧ (m5 < w.heap.size ∨ m5 ≠ m2 ∧ m5 ≠ m1) ∧ (-9223372036854775808 ≤ (↑m7 : Int) - 1 ∧ (↑m7 : Int) - (1 : Int) ≤ 9223372036854775807) ∧ ∀ (m9 : Nat), w2.heap.size ≤ m9 → ∀ (w3 :
    World), RowKit.Below w.heap.size w w3 → Kept [m9, m2, m1] w2 w3 → w3.heap[m9]? = some (Obj.cells #[Value.int IntKind.i64 size] 3) → Calls Try.prog 50 #[Value.int IntKind.i64 0,
    Value.int IntKind.i64 ((↑m7 : Int) - 1), Value.slice (some { block := m9, off := 0 }) 1 1] w3 fun (e2 : Ending) (w4 : World) => ∃ (t2 : Bool), e2 = Ending.returned (Value.bool
    t2) ∧ KeepX true w.heap.size [m9, m2, m1] (fun _ => False) w3 w4 ∧ ∀ (w5 : World), RowKit.Below w.heap.size w w5 → Kept [m9, m2, m1] w4 w5 → R (Ending.returned (Value.bool t2))
    w5) ∧ (t1 = false → ∀ (w6 : World), RowKit.Below w.heap.size w w6 → Kept [m2, m1] w2 w6 → R (Ending.returned (Value.bool false)) w6)) : Calls Try.prog 60 #[Value.agg
    #[Value.slice p0w0a p0w0n p0w0c, Value.slice p0w1a p0w1n p0w1c], Value.int IntKind.i64 pattern, Value.int IntKind.i64 size] w R := calls_of_vc (pure := true) (wrapAt := [])
    (muts := []) (esc := []) (args := [SV.pv (PV.agg [Lf.sl p0w0a p0w0n p0w0c, Lf.sl p0w1a p0w1n p0w1c]), SV.pv (PV.one (Lf.int IntKind.i64 pattern)), SV.pv (PV.one (Lf.int
    IntKind.i64 size))]) (vs := [Value.agg #[Value.slice p0w0a p0w0n p0w0c, Value.slice p0w1a p0w1n p0w1c], Value.int IntKind.i64 pattern, Value.int IntKind.i64 size]) Try.func60
    rfl rfl rfl (Eq.mp (by kernel_rfl) h) 
set_option maxRecDepth 100000 in
set_option maxHeartbeats 2000000 in
theorem vc49 (p0w0a : Option Addr) (p0w0n : Nat) (p0w0c : Nat) (p0w1a : Option Addr) (p0w1n : Nat) (p0w1c : Nat) (f0 : Int) (f1 : Int) (f2 : Int) (f3 : Int) (f4 : Int) (f5 : Int)
    (w : World) (R : Ending → World → Prop) (h : ∀ (m1 : Nat), w.heap.size ≤ m1 → ∀ (m2 : Nat), w.heap.size ≤ m2 → (f0 ≠ f2 → ∀ (w1 : World), RowKit.Below w.heap.size w w1 → Kept
    [m2, m1] w w1 → Calls Try.prog 60 #[Value.agg #[Value.slice p0w0a p0w0n p0w0c, Value.slice p0w1a p0w1n p0w1c], Value.int IntKind.i64 f0, Value.int IntKind.i64 f1] w1 fun (e1 :
    Ending) (w2 : World) => ∃ (t1 : Bool), e1 = Ending.returned (Value.bool t1) ∧ KeepX true w.heap.size [m2, m1] (fun _ => False) w1 w2 ∧ (t1 = true → ∀ (w3 : World), RowKit.Below
    w.heap.size w w3 → Kept [m2, m1] w2 w3 → Calls Try.prog 60 #[Value.agg #[Value.slice p0w0a p0w0n p0w0c, Value.slice p0w1a p0w1n p0w1c], Value.int IntKind.i64 f2, Value.int
    IntKind.i64 f3] w3 fun (e2 : Ending) (w4 : World) => ∃ (t2 : Bool), e2 = Ending.returned (Value.bool t2) ∧ KeepX true w.heap.size [m2, m1] (fun _ => False) w3 w4 ∧ (t2 = true →
    ∀ (w5 : World), RowKit.Below w.heap.size w w5 → Kept [m2, m1] w4 w5 → Calls Try.prog 61 #[Value.agg #[Value.int IntKind.i64 f4, Value.int IntKind.i64 f5], Value.int IntKind.i64
    (-1000000), Value.int IntKind.i64 1000000] w5 fun (e3 : Ending) (w6 : World) => ∃ (t3 : Bool), e3 = Ending.returned (Value.bool t3) ∧ KeepX true w.heap.size [m2, m1] (fun _ =>
    False) w5 w6 ∧ ∀ (w7 : World), RowKit.Below w.heap.size w w7 → Kept [m2, m1] w6 w7 → R (Ending.returned (Value.bool t3)) w7) ∧ (t2 = false → ∀ (w8 : World), RowKit.Below
    w.heap.size w w8 → Kept [m2, m1] w4 w8 → R (Ending.returned (Value.bool false)) w8)) ∧ (t1 = false → ∀ (w9 : World), RowKit.Below w.heap.size w w9 → Kept [m2, m1] w2 w9 → R
    (Ending.returned (Value.bool false)) w9)) ∧ (f0 = f2 → ∀ (w10 : World), RowKit.Below w.heap.size w w10 → Kept [m2, m1] w w10 → R (Ending.returned (Value.bool false)) w10)) :
    Calls Try.prog 49 #[Value.agg #[Value.slice p0w0a p0w0n p0w0c, Value.slice p0w1a p0w1n p0w1c], Value.agg #[Value.int IntKind.i64 f0, Value.int IntKind.i64 f1, Value.int
    IntKind.i64 f2, Value.int IntKind.i64 f3, Value.int IntKind.i64 f4, Value.int IntKind.i64 f5]] w R := calls_of_vc (pure := true) (wrapAt := []) (muts := []) (esc := []) (args
    := [SV.pv (PV.agg [Lf.sl p0w0a p0w0n p0w0c, Lf.sl p0w1a p0w1n p0w1c]), SV.pv (PV.agg [Lf.int IntKind.i64 f0, Lf.int IntKind.i64 f1, Lf.int IntKind.i64 f2, Lf.int IntKind.i64
    f3, Lf.int IntKind.i64 f4, Lf.int IntKind.i64 f5])]) (vs := [Value.agg #[Value.slice p0w0a p0w0n p0w0c, Value.slice p0w1a p0w1n p0w1c], Value.agg #[Value.int IntKind.i64 f0,
    Value.int IntKind.i64 f1, Value.int IntKind.i64 f2, Value.int IntKind.i64 f3, Value.int IntKind.i64 f4, Value.int IntKind.i64 f5]]) Try.func49 rfl rfl rfl (Eq.mp (by
    kernel_rfl) h) 
set_option maxRecDepth 100000 in
set_option maxHeartbeats 2000000 in
theorem vc48 (f0 : Int) (f1 : Int) (f2 : Int) (f3 : Int) (f4 : Int) (f5 : Int) (cap0b : Nat) (w : World) (R : Ending → World → Prop) (h : ∀ (m1 : Nat), w.heap.size ≤ m1 → ∃ (a1 :
    Option Addr), ∃ (m2 : Nat), ∃ (m3 : Nat), ∃ (a2 : Option Addr), ∃ (m4 : Nat), ∃ (m5 : Nat), w.cell? { block := cap0b, off := 0 } = some (Value.slice a1 m2 m3) ∧ w.cell?
    { block := cap0b, off := 0 + 1 } = some (Value.slice a2 m4 m5) ∧ (cap0b < w.heap.size ∨ cap0b ≠ m1) ∧ ∀ (w1 : World), RowKit.Below w.heap.size w w1 → Kept [m1] w w1 → Calls
    Try.prog 49 #[Value.agg #[Value.slice a1 m2 m3, Value.slice a2 m4 m5], Value.agg #[Value.int IntKind.i64 f0, Value.int IntKind.i64 f1, Value.int IntKind.i64 f2, Value.int
    IntKind.i64 f3, Value.int IntKind.i64 f4, Value.int IntKind.i64 f5]] w1 fun (e1 : Ending) (w2 : World) => ∃ (t1 : Bool), e1 = Ending.returned (Value.bool t1) ∧ KeepX true
    w.heap.size [m1] (fun _ => False) w1 w2 ∧ ∀ (w3 : World), RowKit.Below w.heap.size w w3 → Kept [m1] w2 w3 → R (Ending.returned (Value.bool !t1)) w3) : Calls Try.prog 48
    #[Value.agg #[Value.int IntKind.i64 f0, Value.int IntKind.i64 f1, Value.int IntKind.i64 f2, Value.int IntKind.i64 f3, Value.int IntKind.i64 f4, Value.int IntKind.i64 f5],
    Value.pointer (some { block := cap0b, off := 0 })] w R := calls_of_vc (pure := true) (wrapAt := []) (muts := []) (esc := []) (args := [SV.pv (PV.agg [Lf.int IntKind.i64 f0,
    Lf.int IntKind.i64 f1, Lf.int IntKind.i64 f2, Lf.int IntKind.i64 f3, Lf.int IntKind.i64 f4, Lf.int IntKind.i64 f5]), SV.pv (PV.one (Lf.ptr cap0b 0))]) (vs := [Value.agg
    #[Value.int IntKind.i64 f0, Value.int IntKind.i64 f1, Value.int IntKind.i64 f2, Value.int IntKind.i64 f3, Value.int IntKind.i64 f4, Value.int IntKind.i64 f5], Value.pointer
    (some { block := cap0b, off := 0 })]) Try.func48 rfl rfl rfl (Eq.mp (by kernel_rfl) h) 
set_option maxRecDepth 100000 in
set_option maxHeartbeats 2000000 in
theorem vc46 (la : Option Addr) (ln : Nat) (lc : Nat) (w : World) (R : Ending → World → Prop) (h : ∀ (w1 : World), RowKit.Below w.heap.size w w1 → Kept [] w w1 → Calls Try.prog 47
    #[Value.slice la ln lc] w1 fun (e1 : Ending) (w2 : World) => ∃ (t1 : Bool), e1 = Ending.returned (Value.bool t1) ∧ KeepX true w.heap.size [] (fun _ => False) w1 w2 ∧ ∀ (w3 :
    World), RowKit.Below w.heap.size w w3 → Kept [] w2 w3 → R (Ending.returned (Value.bool !t1)) w3) : Calls Try.prog 46 #[Value.slice la ln lc] w R := calls_of_vc (pure := true)
    (wrapAt := []) (muts := []) (esc := []) (args := [SV.pv (PV.one (Lf.sl la ln lc))]) (vs := [Value.slice la ln lc]) Try.func46 rfl rfl rfl (Eq.mp (by kernel_rfl) h) 
set_option maxRecDepth 100000 in
set_option maxHeartbeats 2000000 in
theorem vc16 (p0w0a : Option Addr) (p0w0n : Nat) (p0w0c : Nat) (p0w1a : Option Addr) (p0w1n : Nat) (p0w1c : Nat) (w : World) (R : Ending → World → Prop) (h : ∀ (m1 : Nat),
    w.heap.size ≤ m1 → ∀ (m2 : Nat), w.heap.size ≤ m2 → ∀ (w1 : World), RowKit.Below w.heap.size w w1 → Kept [m2, m1] w w1 → w1.heap[m2]? = some (Obj.cells #[Value.int IntKind.i64
    (↑p0w0n : Int)] 3) → Calls Try.prog 50 #[Value.int IntKind.i64 1, Value.int IntKind.i64 20, Value.slice (some { block := m2, off := 0 }) 1 1] w1 fun (e1 : Ending) (w2 : World)
    => ∃ (t1 : Bool), e1 = Ending.returned (Value.bool t1) ∧ KeepX true w.heap.size [m2, m1] (fun _ => False) w1 w2 ∧ ((!t1) = true → ∀ (w3 : World), RowKit.Below w.heap.size w w3
    → Kept [m2, m1] w2 w3 → R (Ending.returned (Value.int IntKind.i64 2)) w3) ∧ ((!t1) = false → ∀ (w4 : World), RowKit.Below w.heap.size w w4 → Kept [m2, m1] w2 w4 → Calls
    Try.prog 51 #[Value.slice p0w0a p0w0n p0w0c, Value.func (Fn.func 46) #[] #[]] w4 fun (e2 : Ending) (w5 : World) => ∃ (t2 : Bool), e2 = Ending.returned (Value.bool t2) ∧ KeepX
    true w.heap.size [m2, m1] (fun _ => False) w4 w5 ∧ (t2 = true → ∀ (w6 : World), RowKit.Below w.heap.size w w6 → Kept [m2, m1] w5 w6 → R (Ending.returned (Value.int IntKind.i64
    2)) w6) ∧ (t2 = false → (40 < (↑p0w1n : Int) → ∀ (w7 : World), RowKit.Below w.heap.size w w7 → Kept [m2, m1] w5 w7 → R (Ending.returned (Value.int IntKind.i64 2)) w7) ∧
    ((↑p0w1n : Int) ≤ 40 → ∀ (w8 : World), RowKit.Below w.heap.size w w8 → Kept [m2, m1] w5 w8 → w8.heap[m1]? = some (Obj.cells #[Value.slice p0w0a p0w0n p0w0c, Value.slice p0w1a
    p0w1n p0w1c] 25) → Calls Try.prog 52 #[Value.slice p0w1a p0w1n p0w1c, Value.func (Fn.func 48) #[] #[Value.pointer (some { block := m1, off := 0 })]] w8 fun (e3 : Ending) (w9 :
    World) => ∃ (t3 : Bool), e3 = Ending.returned (Value.bool t3) ∧ KeepX true w.heap.size [m2, m1] (fun _ => False) w8 w9 ∧ (t3 = true → ∀ (w10 : World), RowKit.Below w.heap.size
    w w10 → Kept [m2, m1] w9 w10 → R (Ending.returned (Value.int IntKind.i64 2)) w10) ∧ (t3 = false → ∀ (w11 : World), RowKit.Below w.heap.size w w11 → Kept [m2, m1] w9 w11 → R
    (Ending.returned (Value.int IntKind.i64 0)) w11))))) : Calls Try.prog 16 #[Value.agg #[Value.slice p0w0a p0w0n p0w0c, Value.slice p0w1a p0w1n p0w1c]] w R := calls_of_vc (pure
    := true) (wrapAt := []) (muts := []) (esc := []) (args := [SV.pv (PV.agg [Lf.sl p0w0a p0w0n p0w0c, Lf.sl p0w1a p0w1n p0w1c])]) (vs := [Value.agg #[Value.slice p0w0a p0w0n
    p0w0c, Value.slice p0w1a p0w1n p0w1c]]) Try.func16 rfl rfl rfl (Eq.mp (by kernel_rfl) h) 
set_option maxRecDepth 100000 in
set_option maxHeartbeats 2000000 in
theorem vc13 (p0w0a : Option Addr) (p0w0n : Nat) (p0w0c : Nat) (p0w1a : Option Addr) (p0w1n : Nat) (p0w1c : Nat) (w : World) (R : Ending → World → Prop) (h : ∀ (m1 : Nat),
    w.heap.size ≤ m1 → (22 < (↑p0w0n : Int) → ∀ (w1 : World), RowKit.Below w.heap.size w w1 → Kept [m1] w w1 → R (Ending.returned (Value.bool true)) w1) ∧ ((↑p0w0n : Int) ≤ 22 →
    (45 < (↑p0w1n : Int) → ∀ (w2 : World), RowKit.Below w.heap.size w w2 → Kept [m1] w w2 → R (Ending.returned (Value.bool true)) w2) ∧ ((↑p0w1n : Int) ≤ 45 → ∃ (F1 : List Lf →
    World → Prop), ∃ (F2 : List Lf → Nat), (∀ (w4 : World), RowKit.Below w.heap.size w w4 → Kept [m1] w w4 → F1 [Lf.bool false, Lf.int IntKind.i64 0] w4) ∧ ∀ (t1 : Bool) (x1 : Int)
    (w5 : World), RowKit.Below w.heap.size w w5 → F1 [Lf.bool t1, Lf.int IntKind.i64 x1] w5 → (x1 < (↑p0w0n : Int) → ∃ (m2 : Nat), ∃ (m3 : Nat), p0w0a = some
    { block := m2, off := m3 } ∧ (0 ≤ x1 ∧ x1 < (↑p0w0n : Int)) ∧ ∃ (a1 : Option Addr), ∃ (m4 : Nat), ∃ (m5 : Nat), w5.cell? { block := m2, off := m3 + x1.toNat * 1 } = some
    (Value.slice a1 m4 m5) ∧ (m2 < w.heap.size ∨ m2 ≠ m1) ∧ (12 < (↑m4 : Int) → ∀ (w6 : World), RowKit.Below w.heap.size w w6 → Kept [m1] w5 w6 → R (Ending.returned (Value.bool
    true)) w6) ∧ ((↑m4 : Int) ≤ 12 → (-9223372036854775808 ≤ x1 + 1 ∧ x1 + (1 : Int) ≤ 9223372036854775807) ∧ ∀ (w7 : World), RowKit.Below w.heap.size w w7 → Kept [m1] w5 w7 → F1
    [Lf.bool t1, Lf.int IntKind.i64 (x1 + 1)] w7 ∧ F2 [Lf.bool t1, Lf.int IntKind.i64 (x1 + 1)] < F2 [Lf.bool t1, Lf.int IntKind.i64 x1])) ∧ ((↑p0w0n : Int) ≤ x1 → ∀ (w8 : World),
    RowKit.Below w.heap.size w w8 → Kept [m1] w5 w8 → R (Ending.returned (Value.bool false)) w8)))) : Calls Try.prog 13 #[Value.agg #[Value.slice p0w0a p0w0n p0w0c, Value.slice
    p0w1a p0w1n p0w1c]] w R := calls_of_vc (pure := true) (wrapAt := []) (muts := []) (esc := []) (args := [SV.pv (PV.agg [Lf.sl p0w0a p0w0n p0w0c, Lf.sl p0w1a p0w1n p0w1c])]) (vs
    := [Value.agg #[Value.slice p0w0a p0w0n p0w0c, Value.slice p0w1a p0w1n p0w1c]]) Try.func13 rfl rfl rfl (Eq.mp (by kernel_rfl) h) 
set_option maxRecDepth 100000 in
set_option maxHeartbeats 2000000 in
theorem vc54 (n : Int) (least : Int) (most : Int) (w : World) (R : Ending → World → Prop) (h : (least ≤ n → ∀ (w1 : World), RowKit.Below w.heap.size w w1 → Kept [] w w1 → R
    (Ending.returned (Value.bool (decide (n ≤ most)))) w1) ∧ (n < least → ∀ (w2 : World), RowKit.Below w.heap.size w w2 → Kept [] w w2 → R (Ending.returned (Value.bool false)) w2))
    : Calls Try.prog 54 #[Value.int IntKind.i64 n, Value.int IntKind.i64 least, Value.int IntKind.i64 most] w R := calls_of_vc (pure := true) (wrapAt := []) (muts := []) (esc :=
    []) (args := [SV.pv (PV.one (Lf.int IntKind.i64 n)), SV.pv (PV.one (Lf.int IntKind.i64 least)), SV.pv (PV.one (Lf.int IntKind.i64 most))]) (vs := [Value.int IntKind.i64 n,
    Value.int IntKind.i64 least, Value.int IntKind.i64 most]) Try.func54 rfl rfl rfl (Eq.mp (by kernel_rfl) h) 
set_option maxRecDepth 100000 in
set_option maxHeartbeats 2000000 in
theorem vc55 (s0 : Int) (s1 : Int) (least : Int) (most : Int) (w : World) (R : Ending → World → Prop) (h : ∀ (m1 : Nat), w.heap.size ≤ m1 → ∀ (w1 : World), RowKit.Below w.heap.size
    w w1 → Kept [m1] w w1 → Calls Try.prog 54 #[Value.int IntKind.i64 s0, Value.int IntKind.i64 least, Value.int IntKind.i64 s1] w1 fun (e1 : Ending) (w2 : World) => ∃ (t1 : Bool),
    e1 = Ending.returned (Value.bool t1) ∧ KeepX true w.heap.size [m1] (fun _ => False) w1 w2 ∧ (t1 = true → ∀ (w3 : World), RowKit.Below w.heap.size w w3 → Kept [m1] w2 w3 → R
    (Ending.returned (Value.bool (decide (s1 ≤ most)))) w3) ∧ (t1 = false → ∀ (w4 : World), RowKit.Below w.heap.size w w4 → Kept [m1] w2 w4 → R (Ending.returned (Value.bool false))
    w4)) : Calls Try.prog 55 #[Value.agg #[Value.int IntKind.i64 s0, Value.int IntKind.i64 s1], Value.int IntKind.i64 least, Value.int IntKind.i64 most] w R := calls_of_vc (pure :=
    true) (wrapAt := []) (muts := []) (esc := []) (args := [SV.pv (PV.agg [Lf.int IntKind.i64 s0, Lf.int IntKind.i64 s1]), SV.pv (PV.one (Lf.int IntKind.i64 least)), SV.pv (PV.one
    (Lf.int IntKind.i64 most))]) (vs := [Value.agg #[Value.int IntKind.i64 s0, Value.int IntKind.i64 s1], Value.int IntKind.i64 least, Value.int IntKind.i64 most]) Try.func55 rfl
    rfl rfl (Eq.mp (by kernel_rfl) h) 
set_option maxRecDepth 100000 in
set_option maxHeartbeats 2000000 in
theorem vc56 (p0w0a : Option Addr) (p0w0n : Nat) (p0w0c : Nat) (p0w1a : Option Addr) (p0w1n : Nat) (p0w1c : Nat) (pattern : Int) (size : Int) (w : World) (R : Ending → World →
    Prop) (h : ∀ (m1 : Nat), w.heap.size ≤ m1 → (-9223372036854775808 ≤ (↑p0w0n : Int) - 1 ∧ (↑p0w0n : Int) - (1 : Int) ≤ 9223372036854775807) ∧ ∀ (w1 : World), RowKit.Below
    w.heap.size w w1 → Kept [m1] w w1 → Calls Try.prog 54 #[Value.int IntKind.i64 pattern, Value.int IntKind.i64 0, Value.int IntKind.i64 ((↑p0w0n : Int) - 1)] w1 fun (e1 : Ending)
    (w2 : World) => ∃ (t1 : Bool), e1 = Ending.returned (Value.bool t1) ∧ KeepX true w.heap.size [m1] (fun _ => False) w1 w2 ∧ (t1 = true → ∃ (m3 : Nat), ∃ (m4 : Nat), p0w0a = some
    { block := m3, off := m4 } ∧ (0 ≤ pattern ∧ pattern < (↑p0w0n : Int)) ∧ ∃ (a1 : Option Addr), ∃ (m5 : Nat), ∃ (m6 : Nat), w2.cell?
    { block := m3, off := m4 + pattern.toNat * 1 } = some (Value.slice a1 m5 m6) ∧ (m3 < w.heap.size ∨ m3 ≠ m1) ∧ (-9223372036854775808 ≤ (↑m5 : Int) - 1 ∧ (↑m5 : Int) - (1 : Int)
    ≤ 9223372036854775807) ∧ ∀ (w3 : World), RowKit.Below w.heap.size w w3 → Kept [m1] w2 w3 → Calls Try.prog 54 #[Value.int IntKind.i64 size, Value.int IntKind.i64 0, Value.int
    IntKind.i64 ((↑m5 : Int) - 1)] w3 fun (e2 : Ending) (w4 : World) => ∃ (t2 : Bool), e2 = Ending.returned (Value.bool t2) ∧ KeepX true w.heap.size [m1] (fun _ => False) w3 w4 ∧ ∀
    (w5 : World), RowKit.Below w.heap.size w w5 → Kept [m1] w4 w5 → R (Ending.returned (Value.bool t2)) w5) ∧ (t1 = false → ∀ (w6 : World), RowKit.Below w.heap.size w w6 → Kept
    [m1] w2 w6 → R (Ending.returned (Value.bool false)) w6)) : Calls Try.prog 56 #[Value.agg #[Value.slice p0w0a p0w0n p0w0c, Value.slice p0w1a p0w1n p0w1c], Value.int IntKind.i64
    pattern, Value.int IntKind.i64 size] w R := calls_of_vc (pure := true) (wrapAt := []) (muts := []) (esc := []) (args := [SV.pv (PV.agg [Lf.sl p0w0a p0w0n p0w0c, Lf.sl p0w1a
    p0w1n p0w1c]), SV.pv (PV.one (Lf.int IntKind.i64 pattern)), SV.pv (PV.one (Lf.int IntKind.i64 size))]) (vs := [Value.agg #[Value.slice p0w0a p0w0n p0w0c, Value.slice p0w1a
    p0w1n p0w1c], Value.int IntKind.i64 pattern, Value.int IntKind.i64 size]) Try.func56 rfl rfl rfl (Eq.mp (by kernel_rfl) h) 
set_option maxRecDepth 100000 in
set_option maxHeartbeats 2000000 in
theorem vc83 (f0 : Int) (f1 : Int) (f2 : Int) (f3 : Int) (f4 : Int) (f5 : Int) (hole : Int) (shaft : Int) (w : World) (R : Ending → World → Prop) (h : ∀ (m1 : Nat), w.heap.size ≤
    m1 → (-9223372036854775808 ≤ hole - shaft ∧ hole - shaft ≤ 9223372036854775807) ∧ ∀ (m2 : Nat), w.heap.size ≤ m2 → ∀ (w1 : World), RowKit.Below w.heap.size w w1 → Kept [m2, m1]
    w w1 → w1.heap[m2]? = some (Obj.cells #[Value.int IntKind.i64 (hole - shaft)] 3) → Calls Try.prog 50 #[Value.int IntKind.i64 f4, Value.int IntKind.i64 f5, Value.slice (some
    { block := m2, off := 0 }) 1 1] w1 fun (e1 : Ending) (w2 : World) => ∃ (t1 : Bool), e1 = Ending.returned (Value.bool t1) ∧ KeepX true w.heap.size [m2, m1] (fun _ => False) w1
    w2 ∧ ∀ (w3 : World), RowKit.Below w.heap.size w w3 → Kept [m2, m1] w2 w3 → R (Ending.returned (Value.bool t1)) w3) : Calls Try.prog 83 #[Value.agg #[Value.int IntKind.i64 f0,
    Value.int IntKind.i64 f1, Value.int IntKind.i64 f2, Value.int IntKind.i64 f3, Value.int IntKind.i64 f4, Value.int IntKind.i64 f5], Value.int IntKind.i64 hole, Value.int
    IntKind.i64 shaft] w R := calls_of_vc (pure := true) (wrapAt := []) (muts := []) (esc := []) (args := [SV.pv (PV.agg [Lf.int IntKind.i64 f0, Lf.int IntKind.i64 f1, Lf.int
    IntKind.i64 f2, Lf.int IntKind.i64 f3, Lf.int IntKind.i64 f4, Lf.int IntKind.i64 f5]), SV.pv (PV.one (Lf.int IntKind.i64 hole)), SV.pv (PV.one (Lf.int IntKind.i64 shaft))]) (vs
    := [Value.agg #[Value.int IntKind.i64 f0, Value.int IntKind.i64 f1, Value.int IntKind.i64 f2, Value.int IntKind.i64 f3, Value.int IntKind.i64 f4, Value.int IntKind.i64 f5],
    Value.int IntKind.i64 hole, Value.int IntKind.i64 shaft]) Try.func83 rfl rfl rfl (Eq.mp (by kernel_rfl) h) 
set_option maxRecDepth 100000 in
set_option maxHeartbeats 2000000 in
theorem vc58 (p0w0a : Option Addr) (p0w0n : Nat) (p0w0c : Nat) (p0w1a : Option Addr) (p0w1n : Nat) (p0w1c : Nat) (x0 : Int) (x1a : Option Addr) (x1n : Nat) (x1c : Nat) (w : World)
    (R : Ending → World → Prop) (h : ∀ (m1 : Nat), w.heap.size ≤ m1 → ∀ (m2 : Nat), w.heap.size ≤ m2 → (-9223372036854775808 ≤ (↑p0w0n : Int) - 1 ∧ (↑p0w0n : Int) - (1 : Int) ≤
    9223372036854775807) ∧ ∀ (m3 : Nat), w.heap.size ≤ m3 → ∀ (w1 : World), RowKit.Below w.heap.size w w1 → Kept [m3, m2, m1] w w1 → w1.heap[m3]? = some (Obj.cells #[Value.int
    IntKind.i64 x0] 3) → Calls Try.prog 50 #[Value.int IntKind.i64 0, Value.int IntKind.i64 ((↑p0w0n : Int) - 1), Value.slice (some { block := m3, off := 0 }) 1 1] w1 fun (e1 :
    Ending) (w2 : World) => ∃ (t1 : Bool), e1 = Ending.returned (Value.bool t1) ∧ KeepX true w.heap.size [m3, m2, m1] (fun _ => False) w1 w2 ∧ ((!t1) = true → ∀ (w3 : World),
    RowKit.Below w.heap.size w w3 → Kept [m3, m2, m1] w2 w3 → R (Ending.returned (Value.int IntKind.i64 7)) w3) ∧ ((!t1) = false → ∃ (m6 : Nat), ∃ (m7 : Nat), p0w0a = some
    { block := m6, off := m7 } ∧ (0 ≤ x0 ∧ x0 < (↑p0w0n : Int)) ∧ ∃ (a1 : Option Addr), ∃ (m8 : Nat), ∃ (m9 : Nat), w2.cell? { block := m6, off := m7 + x0.toNat * 1 } = some
    (Value.slice a1 m8 m9) ∧ (m6 < w.heap.size ∨ m6 ≠ m3 ∧ m6 ≠ m2 ∧ m6 ≠ m1) ∧ ((↑x1n : Int) ≠ (↑m8 : Int) → ∀ (w4 : World), RowKit.Below w.heap.size w w4 → Kept [m3, m2, m1] w2
    w4 → R (Ending.returned (Value.int IntKind.i64 4)) w4) ∧ ((↑x1n : Int) = (↑m8 : Int) → ∀ (w5 : World), RowKit.Below w.heap.size w w5 → Kept [m3, m2, m1] w2 w5 → Calls Try.prog
    50 #[Value.int IntKind.i64 0, Value.int IntKind.i64 1000000, Value.slice x1a x1n x1c] w5 fun (e2 : Ending) (w6 : World) => ∃ (t2 : Bool), e2 = Ending.returned (Value.bool t2) ∧
    KeepX true w.heap.size [m3, m2, m1] (fun _ => False) w5 w6 ∧ ((!t2) = true → ∀ (w7 : World), RowKit.Below w.heap.size w w7 → Kept [m3, m2, m1] w6 w7 → R (Ending.returned
    (Value.int IntKind.i64 3)) w7) ∧ ((!t2) = false → ∀ (w8 : World), RowKit.Below w.heap.size w w8 → Kept [m3, m2, m1] w6 w8 → R (Ending.returned (Value.int IntKind.i64 0)) w8))))
    : Calls Try.prog 58 #[Value.agg #[Value.slice p0w0a p0w0n p0w0c, Value.slice p0w1a p0w1n p0w1c], Value.agg #[Value.int IntKind.i64 x0, Value.slice x1a x1n x1c]] w R :=
    calls_of_vc (pure := true) (wrapAt := []) (muts := []) (esc := []) (args := [SV.pv (PV.agg [Lf.sl p0w0a p0w0n p0w0c, Lf.sl p0w1a p0w1n p0w1c]), SV.pv (PV.agg [Lf.int
    IntKind.i64 x0, Lf.sl x1a x1n x1c])]) (vs := [Value.agg #[Value.slice p0w0a p0w0n p0w0c, Value.slice p0w1a p0w1n p0w1c], Value.agg #[Value.int IntKind.i64 x0, Value.slice x1a
    x1n x1c]]) Try.func58 rfl rfl rfl (Eq.mp (by kernel_rfl) h) 
set_option maxRecDepth 100000 in
set_option maxHeartbeats 2000000 in
theorem vc59 (p0w0a : Option Addr) (p0w0n : Nat) (p0w0c : Nat) (p0w1a : Option Addr) (p0w1n : Nat) (p0w1c : Nat) (x0 : Int) (x1a : Option Addr) (x1n : Nat) (x1c : Nat) (w : World)
    (R : Ending → World → Prop) (h : ∀ (m1 : Nat), w.heap.size ≤ m1 → ∀ (m2 : Nat), w.heap.size ≤ m2 → ∃ (m3 : Nat), ∃ (m4 : Nat), p0w0a = some { block := m3, off := m4 } ∧ (0 ≤ x0
    ∧ x0 < (↑p0w0n : Int)) ∧ ∃ (a1 : Option Addr), ∃ (m5 : Nat), ∃ (m6 : Nat), w.cell? { block := m3, off := m4 + x0.toNat * 1 } = some (Value.slice a1 m5 m6) ∧ (m3 < w.heap.size ∨
    m3 ≠ m2 ∧ m3 ≠ m1) ∧ ∃ (F1 : List Lf → World → Prop), ∃ (F2 : List Lf → Nat), (∀ (w2 : World), RowKit.Below w.heap.size w w2 → Kept [m2, m1] w w2 → F1 [Lf.bool false, Lf.int
    IntKind.i64 0] w2) ∧ ∀ (t1 : Bool) (x1 : Int) (w3 : World), RowKit.Below w.heap.size w w3 → F1 [Lf.bool t1, Lf.int IntKind.i64 x1] w3 → (x1 < (↑m5 : Int) → ∃ (m7 : Nat), ∃ (m8
    : Nat), a1 = some { block := m7, off := m8 } ∧ (0 ≤ x1 ∧ x1 < (↑m5 : Int)) ∧ ∃ (x2 : Int), ∃ (x3 : Int), w3.cell? { block := m7, off := m8 + x1.toNat * 2 } = some (Value.int
    IntKind.i64 x2) ∧ w3.cell? { block := m7, off := m8 + x1.toNat * 2 + 1 } = some (Value.int IntKind.i64 x3) ∧ (m7 < w.heap.size ∨ m7 ≠ m2 ∧ m7 ≠ m1) ∧ ∀ (m9 : Nat), w3.heap.size
    ≤ m9 → ∃ (m10 : Nat), ∃ (m11 : Nat), x1a = some { block := m10, off := m11 } ∧ (0 ≤ x1 ∧ x1 < (↑x1n : Int)) ∧ ∃ (x4 : Int), w3.cell? { block := m10, off := m11 + x1.toNat * 1 }
    = some (Value.int IntKind.i64 x4) ∧ (m10 < w.heap.size ∨ m10 ≠ m9 ∧ m10 ≠ m2 ∧ m10 ≠ m1) ∧ ∀ (m12 : Nat), w3.heap.size ≤ m12 → ∀ (w4 : World), RowKit.Below w.heap.size w w4 →
    KeptIn [(0, w3.heap.size)] [m12, m9, m2, m1] w3 w4 → w4.heap[m12]? = some (Obj.cells #[Value.int IntKind.i64 x4] 3) → Calls Try.prog 50 #[Value.int IntKind.i64 x2, Value.int
    IntKind.i64 x3, Value.slice (some { block := m12, off := 0 }) 1 1] w4 fun (e1 : Ending) (w5 : World) => ∃ (t2 : Bool), e1 = Ending.returned (Value.bool t2) ∧ KeepX true
    w.heap.size [m12, m9, m2, m1] (fun _ => False) w4 w5 ∧ ((!t2) = true → ∀ (w6 : World), RowKit.Below w.heap.size w w6 → Kept [m12, m9, m2, m1] w5 w6 → R (Ending.returned
    (Value.bool false)) w6) ∧ ((!t2) = false → (-9223372036854775808 ≤ x1 + 1 ∧ x1 + (1 : Int) ≤ 9223372036854775807) ∧ ∀ (w7 : World), RowKit.Below w.heap.size w w7 → Kept [m12,
    m9, m2, m1] w5 w7 → F1 [Lf.bool t1, Lf.int IntKind.i64 (x1 + 1)] w7 ∧ F2 [Lf.bool t1, Lf.int IntKind.i64 (x1 + 1)] < F2 [Lf.bool t1, Lf.int IntKind.i64 x1])) ∧ ((↑m5 : Int) ≤
    x1 → ∀ (w8 : World), RowKit.Below w.heap.size w w8 → Kept [m2, m1] w3 w8 → R (Ending.returned (Value.bool true)) w8)) : Calls Try.prog 59 #[Value.agg #[Value.slice p0w0a p0w0n
    p0w0c, Value.slice p0w1a p0w1n p0w1c], Value.agg #[Value.int IntKind.i64 x0, Value.slice x1a x1n x1c]] w R := calls_of_vc (pure := true) (wrapAt := []) (muts := []) (esc := [])
    (args := [SV.pv (PV.agg [Lf.sl p0w0a p0w0n p0w0c, Lf.sl p0w1a p0w1n p0w1c]), SV.pv (PV.agg [Lf.int IntKind.i64 x0, Lf.sl x1a x1n x1c])]) (vs := [Value.agg #[Value.slice p0w0a
    p0w0n p0w0c, Value.slice p0w1a p0w1n p0w1c], Value.agg #[Value.int IntKind.i64 x0, Value.slice x1a x1n x1c]]) Try.func59 rfl rfl rfl (Eq.mp (by kernel_rfl) h) 
set_option maxRecDepth 100000 in
set_option maxHeartbeats 2000000 in
theorem vc23 (p0w0a : Option Addr) (p0w0n : Nat) (p0w0c : Nat) (p0w1a : Option Addr) (p0w1n : Nat) (p0w1c : Nat) (x0 : Int) (x1a : Option Addr) (x1n : Nat) (x1c : Nat) (w : World)
    (R : Ending → World → Prop) (h : ∀ (m1 : Nat), w.heap.size ≤ m1 → ∀ (m2 : Nat), w.heap.size ≤ m2 → ∀ (w1 : World), RowKit.Below w.heap.size w w1 → Kept [m2, m1] w w1 → Calls
    Try.prog 16 #[Value.agg #[Value.slice p0w0a p0w0n p0w0c, Value.slice p0w1a p0w1n p0w1c]] w1 fun (e1 : Ending) (w2 : World) => ∃ (x1 : Int), e1 = Ending.returned (Value.int
    IntKind.i64 x1) ∧ KeepX true w.heap.size [m2, m1] (fun _ => False) w1 w2 ∧ (x1 ≠ 0 → ∀ (w3 : World), RowKit.Below w.heap.size w w3 → Kept [m2, m1] w2 w3 → R (Ending.returned
    (Value.tuple #[Value.bool false, Value.int IntKind.i64 2])) w3) ∧ (x1 = 0 → ∀ (w4 : World), RowKit.Below w.heap.size w w4 → Kept [m2, m1] w2 w4 → Calls Try.prog 58 #[Value.agg
    #[Value.slice p0w0a p0w0n p0w0c, Value.slice p0w1a p0w1n p0w1c], Value.agg #[Value.int IntKind.i64 x0, Value.slice x1a x1n x1c]] w4 fun (e2 : Ending) (w5 : World) => ∃ (x2 :
    Int), e2 = Ending.returned (Value.int IntKind.i64 x2) ∧ KeepX true w.heap.size [m2, m1] (fun _ => False) w4 w5 ∧ (x2 ≠ 0 → ∀ (w6 : World), RowKit.Below w.heap.size w w6 → Kept
    [m2, m1] w5 w6 → R (Ending.returned (Value.tuple #[Value.bool false, Value.int IntKind.i64 x2])) w6) ∧ (x2 = 0 → ∀ (w7 : World), RowKit.Below w.heap.size w w7 → Kept [m2, m1]
    w5 w7 → Calls Try.prog 59 #[Value.agg #[Value.slice p0w0a p0w0n p0w0c, Value.slice p0w1a p0w1n p0w1c], Value.agg #[Value.int IntKind.i64 x0, Value.slice x1a x1n x1c]] w7 fun
    (e3 : Ending) (w8 : World) => ∃ (t1 : Bool), e3 = Ending.returned (Value.bool t1) ∧ KeepX true w.heap.size [m2, m1] (fun _ => False) w7 w8 ∧ ∀ (w9 : World), RowKit.Below
    w.heap.size w w9 → Kept [m2, m1] w8 w9 → R (Ending.returned (Value.tuple #[Value.bool t1, Value.int IntKind.i64 0])) w9))) : Calls Try.prog 23 #[Value.agg #[Value.slice p0w0a
    p0w0n p0w0c, Value.slice p0w1a p0w1n p0w1c], Value.agg #[Value.int IntKind.i64 x0, Value.slice x1a x1n x1c]] w R := calls_of_vc (pure := true) (wrapAt := []) (muts := []) (esc
    := []) (args := [SV.pv (PV.agg [Lf.sl p0w0a p0w0n p0w0c, Lf.sl p0w1a p0w1n p0w1c]), SV.pv (PV.agg [Lf.int IntKind.i64 x0, Lf.sl x1a x1n x1c])]) (vs := [Value.agg #[Value.slice
    p0w0a p0w0n p0w0c, Value.slice p0w1a p0w1n p0w1c], Value.agg #[Value.int IntKind.i64 x0, Value.slice x1a x1n x1c]]) Try.func23 rfl rfl rfl (Eq.mp (by kernel_rfl) h) 
set_option maxRecDepth 100000 in
set_option maxHeartbeats 2000000 in
theorem vc24 (p0w0a : Option Addr) (p0w0n : Nat) (p0w0c : Nat) (p0w1a : Option Addr) (p0w1n : Nat) (p0w1c : Nat) (pattern : Int) (size : Int) (errors0 : Int) (errors1 : Int) (w :
    World) (R : Ending → World → Prop) (h : ∀ (m1 : Nat), w.heap.size ≤ m1 → ∀ (m2 : Nat), w.heap.size ≤ m2 → ∀ (m3 : Nat), w.heap.size ≤ m3 → ∀ (m4 : Nat), w.heap.size ≤ m4 → ∀
    (w1 : World), RowKit.Below w.heap.size w w1 → Kept [m4, m3, m2, m1] w w1 → Calls Try.prog 16 #[Value.agg #[Value.slice p0w0a p0w0n p0w0c, Value.slice p0w1a p0w1n p0w1c]] w1 fun
    (e1 : Ending) (w2 : World) => ∃ (x1 : Int), e1 = Ending.returned (Value.int IntKind.i64 x1) ∧ KeepX true w.heap.size [m4, m3, m2, m1] (fun _ => False) w1 w2 ∧ (x1 ≠ 0 → ∀ (w3 :
    World), RowKit.Below w.heap.size w w3 → Kept [m4, m3, m2, m1] w2 w3 → R (Ending.returned (Value.tuple #[Value.agg #[Value.int IntKind.i64 0, Value.int IntKind.i64 0], Value.agg
    #[Value.int IntKind.i64 0, Value.int IntKind.i64 0], Value.int IntKind.i64 2])) w3) ∧ (x1 = 0 → ∀ (w4 : World), RowKit.Below w.heap.size w w4 → Kept [m4, m3, m2, m1] w2 w4 →
    Calls Try.prog 60 #[Value.agg #[Value.slice p0w0a p0w0n p0w0c, Value.slice p0w1a p0w1n p0w1c], Value.int IntKind.i64 pattern, Value.int IntKind.i64 size] w4 fun (e2 : Ending)
    (w5 : World) => ∃ (t1 : Bool), e2 = Ending.returned (Value.bool t1) ∧ KeepX true w.heap.size [m4, m3, m2, m1] (fun _ => False) w4 w5 ∧ ((!t1) = true → ∀ (w6 : World),
    RowKit.Below w.heap.size w w6 → Kept [m4, m3, m2, m1] w5 w6 → R (Ending.returned (Value.tuple #[Value.agg #[Value.int IntKind.i64 0, Value.int IntKind.i64 0], Value.agg
    #[Value.int IntKind.i64 0, Value.int IntKind.i64 0], Value.int IntKind.i64 7])) w6) ∧ ((!t1) = false → ∀ (w7 : World), RowKit.Below w.heap.size w w7 → Kept [m4, m3, m2, m1] w5
    w7 → Calls Try.prog 61 #[Value.agg #[Value.int IntKind.i64 errors0, Value.int IntKind.i64 errors1], Value.int IntKind.i64 (-1000), Value.int IntKind.i64 1000] w7 fun (e3 :
    Ending) (w8 : World) => ∃ (t2 : Bool), e3 = Ending.returned (Value.bool t2) ∧ KeepX true w.heap.size [m4, m3, m2, m1] (fun _ => False) w7 w8 ∧ ((!t2) = true → ∀ (w9 : World),
    RowKit.Below w.heap.size w w9 → Kept [m4, m3, m2, m1] w8 w9 → R (Ending.returned (Value.tuple #[Value.agg #[Value.int IntKind.i64 0, Value.int IntKind.i64 0], Value.agg
    #[Value.int IntKind.i64 0, Value.int IntKind.i64 0], Value.int IntKind.i64 3])) w9) ∧ ((!t2) = false → ∃ (m8 : Nat), ∃ (m9 : Nat), p0w0a = some { block := m8, off := m9 } ∧ (0
    ≤ pattern ∧ pattern < (↑p0w0n : Int)) ∧ ∃ (a1 : Option Addr), ∃ (m10 : Nat), ∃ (m11 : Nat), w8.cell? { block := m8, off := m9 + pattern.toNat * 1 } = some (Value.slice a1 m10
    m11) ∧ (m8 < w.heap.size ∨ m8 ≠ m4 ∧ m8 ≠ m3 ∧ m8 ≠ m2 ∧ m8 ≠ m1) ∧ ∃ (m12 : Nat), ∃ (m13 : Nat), a1 = some { block := m12, off := m13 } ∧ (0 ≤ size ∧ size < (↑m10 : Int)) ∧ ∃
    (x2 : Int), ∃ (x3 : Int), w8.cell? { block := m12, off := m13 + size.toNat * 2 } = some (Value.int IntKind.i64 x2) ∧ w8.cell? { block := m12, off := m13 + size.toNat * 2 + 1 }
    = some (Value.int IntKind.i64 x3) ∧ (m12 < w.heap.size ∨ m12 ≠ m4 ∧ m12 ≠ m3 ∧ m12 ≠ m2 ∧ m12 ≠ m1) ∧ ∀ (m14 : Nat), w8.heap.size ≤ m14 → (-9223372036854775808 ≤ x2 + errors1 ∧
    x2 + errors1 ≤ 9223372036854775807) ∧ (-9223372036854775808 ≤ x3 + errors0 ∧ x3 + errors0 ≤ 9223372036854775807) ∧ (x3 + errors0 < x2 + errors1 → ∀ (w10 : World), RowKit.Below
    w.heap.size w w10 → Kept [m14, m4, m3, m2, m1] w8 w10 → R (Ending.returned (Value.tuple #[Value.agg #[Value.int IntKind.i64 0, Value.int IntKind.i64 0], Value.agg #[Value.int
    IntKind.i64 0, Value.int IntKind.i64 0], Value.int IntKind.i64 9])) w10) ∧ (x2 + errors1 ≤ x3 + errors0 → (-9223372036854775808 ≤ x2 + errors1 ∧ x2 + errors1 ≤
    9223372036854775807) ∧ (-9223372036854775808 ≤ x3 + errors0 ∧ x3 + errors0 ≤ 9223372036854775807) ∧ (-9223372036854775808 ≤ x2 + errors0 ∧ x2 + errors0 ≤ 9223372036854775807) ∧
    (-9223372036854775808 ≤ x3 + errors1 ∧ x3 + errors1 ≤ 9223372036854775807) ∧ ∀ (w11 : World), RowKit.Below w.heap.size w w11 → Kept [m14, m4, m3, m2, m1] w8 w11 → R
    (Ending.returned (Value.tuple #[Value.agg #[Value.int IntKind.i64 (x2 + errors1), Value.int IntKind.i64 (x3 + errors0)], Value.agg #[Value.int IntKind.i64 (x2 + errors0),
    Value.int IntKind.i64 (x3 + errors1)], Value.int IntKind.i64 0])) w11))))) : Calls Try.prog 24 #[Value.agg #[Value.slice p0w0a p0w0n p0w0c, Value.slice p0w1a p0w1n p0w1c],
    Value.int IntKind.i64 pattern, Value.int IntKind.i64 size, Value.agg #[Value.int IntKind.i64 errors0, Value.int IntKind.i64 errors1]] w R := calls_of_vc (pure := true) (wrapAt
    := []) (muts := []) (esc := []) (args := [SV.pv (PV.agg [Lf.sl p0w0a p0w0n p0w0c, Lf.sl p0w1a p0w1n p0w1c]), SV.pv (PV.one (Lf.int IntKind.i64 pattern)), SV.pv (PV.one (Lf.int
    IntKind.i64 size)), SV.pv (PV.agg [Lf.int IntKind.i64 errors0, Lf.int IntKind.i64 errors1])]) (vs := [Value.agg #[Value.slice p0w0a p0w0n p0w0c, Value.slice p0w1a p0w1n p0w1c],
    Value.int IntKind.i64 pattern, Value.int IntKind.i64 size, Value.agg #[Value.int IntKind.i64 errors0, Value.int IntKind.i64 errors1]]) Try.func24 rfl rfl rfl (Eq.mp (by
    kernel_rfl) h) 
set_option maxRecDepth 100000 in
set_option maxHeartbeats 2000000 in
theorem vc42 (low : Int) (high : Int) (w : World) (R : Ending → World → Prop) (h : ∀ (m1 : Nat), w.heap.size ≤ m1 → ∀ (w1 : World), RowKit.Below w.heap.size w w1 → Kept [m1] w w1 →
    R (Ending.returned (Value.agg #[Value.int IntKind.i64 low, Value.int IntKind.i64 high])) w1) : Calls Try.prog 42 #[Value.int IntKind.i64 low, Value.int IntKind.i64 high] w R :=
    calls_of_vc (pure := true) (wrapAt := []) (muts := []) (esc := []) (args := [SV.pv (PV.one (Lf.int IntKind.i64 low)), SV.pv (PV.one (Lf.int IntKind.i64 high))]) (vs :=
    [Value.int IntKind.i64 low, Value.int IntKind.i64 high]) Try.func42 rfl rfl rfl (Eq.mp (by kernel_rfl) h) 
set_option maxRecDepth 100000 in
set_option maxHeartbeats 2000000 in
theorem vc53 (f0 : Int) (f1 : Int) (f2 : Int) (f3 : Int) (f4 : Int) (f5 : Int) (holes0 : Int) (holes1 : Int) (shafts0 : Int) (shafts1 : Int) (w : World) (R : Ending → World → Prop)
    (h : ∀ (m1 : Nat), w.heap.size ≤ m1 → ∀ (m2 : Nat), w.heap.size ≤ m2 → ∀ (m3 : Nat), w.heap.size ≤ m3 → (-9223372036854775808 ≤ holes0 - shafts1 ∧ holes0 - shafts1 ≤
    9223372036854775807) ∧ (f4 ≤ holes0 - shafts1 → (-9223372036854775808 ≤ f5 + shafts0 ∧ f5 + shafts0 ≤ 9223372036854775807) ∧ (-9223372036854775808 ≤ f5 + shafts0 + 1 ∧ f5 +
    shafts0 + (1 : Int) ≤ 9223372036854775807) ∧ ∀ (w1 : World), RowKit.Below w.heap.size w w1 → Kept [m3, m2, m1] w w1 → Calls Try.prog 83 #[Value.agg #[Value.int IntKind.i64 f0,
    Value.int IntKind.i64 f1, Value.int IntKind.i64 f2, Value.int IntKind.i64 f3, Value.int IntKind.i64 f4, Value.int IntKind.i64 f5], Value.int IntKind.i64 (max holes0 (f5 +
    shafts0 + 1)), Value.int IntKind.i64 shafts0] w1 fun (e1 : Ending) (w2 : World) => ∃ (t1 : Bool), e1 = Ending.returned (Value.bool t1) ∧ KeepX true w.heap.size [m3, m2, m1]
    (fun _ => False) w1 w2 ∧ (t1 = true → (-9223372036854775808 ≤ max holes0 (f5 + shafts0 + 1) - f4 ∧ max holes0 (f5 + shafts0 + 1) - f4 ≤ 9223372036854775807) ∧
    (-9223372036854775808 ≤ max holes0 (f5 + shafts0 + 1) - f4 + 1 ∧ max holes0 (f5 + shafts0 + 1) - f4 + (1 : Int) ≤ 9223372036854775807) ∧ (max holes0 (f5 + shafts0 + 1) ≤ holes1
    → ∀ (w3 : World), RowKit.Below w.heap.size w w3 → Kept [m3, m2, m1] w2 w3 → R (Ending.returned (Value.tuple #[Value.int IntKind.i64 (max holes0 (f5 + shafts0 + 1)), Value.int
    IntKind.i64 (max holes0 (f5 + shafts0 + 1) - f4 + 1), Value.bool (decide (max holes0 (f5 + shafts0 + 1) - f4 + 1 ≤ shafts1))])) w3) ∧ (holes1 < max holes0 (f5 + shafts0 + 1) →
    ∀ (w4 : World), RowKit.Below w.heap.size w w4 → Kept [m3, m2, m1] w2 w4 → R (Ending.returned (Value.tuple #[Value.int IntKind.i64 (max holes0 (f5 + shafts0 + 1)), Value.int
    IntKind.i64 (max holes0 (f5 + shafts0 + 1) - f4 + 1), Value.bool false])) w4)) ∧ (t1 = false → (max holes0 (f5 + shafts0 + 1) ≤ holes1 → ∀ (w5 : World), RowKit.Below
    w.heap.size w w5 → Kept [m3, m2, m1] w2 w5 → R (Ending.returned (Value.tuple #[Value.int IntKind.i64 (max holes0 (f5 + shafts0 + 1)), Value.int IntKind.i64 shafts0, Value.bool
    (decide (shafts0 ≤ shafts1))])) w5) ∧ (holes1 < max holes0 (f5 + shafts0 + 1) → ∀ (w6 : World), RowKit.Below w.heap.size w w6 → Kept [m3, m2, m1] w2 w6 → R (Ending.returned
    (Value.tuple #[Value.int IntKind.i64 (max holes0 (f5 + shafts0 + 1)), Value.int IntKind.i64 shafts0, Value.bool false])) w6))) ∧ (holes0 - shafts1 < f4 → ∀ (w7 : World),
    RowKit.Below w.heap.size w w7 → Kept [m3, m2, m1] w w7 → Calls Try.prog 83 #[Value.agg #[Value.int IntKind.i64 f0, Value.int IntKind.i64 f1, Value.int IntKind.i64 f2, Value.int
    IntKind.i64 f3, Value.int IntKind.i64 f4, Value.int IntKind.i64 f5], Value.int IntKind.i64 holes0, Value.int IntKind.i64 shafts0] w7 fun (e2 : Ending) (w8 : World) => ∃ (t2 :
    Bool), e2 = Ending.returned (Value.bool t2) ∧ KeepX true w.heap.size [m3, m2, m1] (fun _ => False) w7 w8 ∧ (t2 = true → (-9223372036854775808 ≤ holes0 - f4 ∧ holes0 - f4 ≤
    9223372036854775807) ∧ (-9223372036854775808 ≤ holes0 - f4 + 1 ∧ holes0 - f4 + (1 : Int) ≤ 9223372036854775807) ∧ (holes0 ≤ holes1 → ∀ (w9 : World), RowKit.Below w.heap.size w
    w9 → Kept [m3, m2, m1] w8 w9 → R (Ending.returned (Value.tuple #[Value.int IntKind.i64 holes0, Value.int IntKind.i64 (holes0 - f4 + 1), Value.bool (decide (holes0 - f4 + 1 ≤
    shafts1))])) w9) ∧ (holes1 < holes0 → ∀ (w10 : World), RowKit.Below w.heap.size w w10 → Kept [m3, m2, m1] w8 w10 → R (Ending.returned (Value.tuple #[Value.int IntKind.i64
    holes0, Value.int IntKind.i64 (holes0 - f4 + 1), Value.bool false])) w10)) ∧ (t2 = false → (holes0 ≤ holes1 → ∀ (w11 : World), RowKit.Below w.heap.size w w11 → Kept [m3, m2,
    m1] w8 w11 → R (Ending.returned (Value.tuple #[Value.int IntKind.i64 holes0, Value.int IntKind.i64 shafts0, Value.bool (decide (shafts0 ≤ shafts1))])) w11) ∧ (holes1 < holes0 →
    ∀ (w12 : World), RowKit.Below w.heap.size w w12 → Kept [m3, m2, m1] w8 w12 → R (Ending.returned (Value.tuple #[Value.int IntKind.i64 holes0, Value.int IntKind.i64 shafts0,
    Value.bool false])) w12)))) : Calls Try.prog 53 #[Value.agg #[Value.int IntKind.i64 f0, Value.int IntKind.i64 f1, Value.int IntKind.i64 f2, Value.int IntKind.i64 f3, Value.int
    IntKind.i64 f4, Value.int IntKind.i64 f5], Value.agg #[Value.int IntKind.i64 holes0, Value.int IntKind.i64 holes1], Value.agg #[Value.int IntKind.i64 shafts0, Value.int
    IntKind.i64 shafts1]] w R := calls_of_vc (pure := true) (wrapAt := []) (muts := []) (esc := []) (args := [SV.pv (PV.agg [Lf.int IntKind.i64 f0, Lf.int IntKind.i64 f1, Lf.int
    IntKind.i64 f2, Lf.int IntKind.i64 f3, Lf.int IntKind.i64 f4, Lf.int IntKind.i64 f5]), SV.pv (PV.agg [Lf.int IntKind.i64 holes0, Lf.int IntKind.i64 holes1]), SV.pv (PV.agg
    [Lf.int IntKind.i64 shafts0, Lf.int IntKind.i64 shafts1])]) (vs := [Value.agg #[Value.int IntKind.i64 f0, Value.int IntKind.i64 f1, Value.int IntKind.i64 f2, Value.int
    IntKind.i64 f3, Value.int IntKind.i64 f4, Value.int IntKind.i64 f5], Value.agg #[Value.int IntKind.i64 holes0, Value.int IntKind.i64 holes1], Value.agg #[Value.int IntKind.i64
    shafts0, Value.int IntKind.i64 shafts1]]) Try.func53 rfl rfl rfl (Eq.mp (by kernel_rfl) h) 
set_option maxRecDepth 100000 in
set_option maxHeartbeats 2000000 in
theorem vc17 (p0w0a : Option Addr) (p0w0n : Nat) (p0w0c : Nat) (p0w1a : Option Addr) (p0w1n : Nat) (p0w1c : Nat) (w : World) (R : Ending → World → Prop) (h : ∀ (m1 : Nat),
    w.heap.size ≤ m1 → ∀ (w1 : World), RowKit.Below w.heap.size w w1 → Kept [m1] w w1 → Calls Try.prog 16 #[Value.agg #[Value.slice p0w0a p0w0n p0w0c, Value.slice p0w1a p0w1n
    p0w1c]] w1 fun (e1 : Ending) (w2 : World) => ∃ (x1 : Int), e1 = Ending.returned (Value.int IntKind.i64 x1) ∧ KeepX true w.heap.size [m1] (fun _ => False) w1 w2 ∧ (x1 ≠ 0 → ∀
    (w3 : World), RowKit.Below w.heap.size w w3 → Kept [m1] w2 w3 → R (Ending.returned (Value.tuple #[Value.slice none 0 0, Value.int IntKind.i64 2])) w3) ∧ (x1 = 0 → ∃ (F1 : List
    Lf → World → Prop), ∃ (F2 : List Lf → Nat), (∀ (w5 : World), RowKit.Below w.heap.size w w5 → Kept [m1] w2 w5 → F1 [Lf.sl none 0 0, Lf.int IntKind.i64 0] w5) ∧ ∀ (a1 : Option
    Addr) (m3 m4 : Nat) (x2 : Int) (w6 : World), RowKit.Below w.heap.size w w6 → F1 [Lf.sl a1 m3 m4, Lf.int IntKind.i64 x2] w6 → (x2 < (↑p0w1n : Int) → ∃ (m5 : Nat), ∃ (m6 : Nat),
    p0w1a = some { block := m5, off := m6 } ∧ (0 ≤ x2 ∧ x2 < (↑p0w1n : Int)) ∧ ∃ (x3 : Int), ∃ (x4 : Int), ∃ (x5 : Int), ∃ (x6 : Int), ∃ (x7 : Int), ∃ (x8 : Int), w6.cell?
    { block := m5, off := m6 + x2.toNat * 6 } = some (Value.int IntKind.i64 x3) ∧ w6.cell? { block := m5, off := m6 + x2.toNat * 6 + 1 } = some (Value.int IntKind.i64 x4) ∧
    w6.cell? { block := m5, off := m6 + x2.toNat * 6 + 1 + 1 } = some (Value.int IntKind.i64 x5) ∧ w6.cell? { block := m5, off := m6 + x2.toNat * 6 + 1 + 1 + 1 } = some (Value.int
    IntKind.i64 x6) ∧ w6.cell? { block := m5, off := m6 + x2.toNat * 6 + 1 + 1 + 1 + 1 } = some (Value.int IntKind.i64 x7) ∧ w6.cell?
    { block := m5, off := m6 + x2.toNat * 6 + 1 + 1 + 1 + 1 + 1 } = some (Value.int IntKind.i64 x8) ∧ (m5 < w.heap.size ∨ m5 ≠ m1) ∧ ∀ (m7 : Nat), w6.heap.size ≤ m7 → ∃ (m8 : Nat),
    ∃ (m9 : Nat), p0w0a = some { block := m8, off := m9 } ∧ (0 ≤ x3 ∧ x3 < (↑p0w0n : Int)) ∧ ∃ (a2 : Option Addr), ∃ (m10 : Nat), ∃ (m11 : Nat), w6.cell?
    { block := m8, off := m9 + x3.toNat * 1 } = some (Value.slice a2 m10 m11) ∧ (m8 < w.heap.size ∨ m8 ≠ m7 ∧ m8 ≠ m1) ∧ ∃ (m12 : Nat), ∃ (m13 : Nat), a2 = some
    { block := m12, off := m13 } ∧ (0 ≤ x4 ∧ x4 < (↑m10 : Int)) ∧ ∃ (x9 : Int), ∃ (x10 : Int), w6.cell? { block := m12, off := m13 + x4.toNat * 2 } = some (Value.int IntKind.i64
    x9) ∧ w6.cell? { block := m12, off := m13 + x4.toNat * 2 + 1 } = some (Value.int IntKind.i64 x10) ∧ (m12 < w.heap.size ∨ m12 ≠ m7 ∧ m12 ≠ m1) ∧ ∃ (m14 : Nat), ∃ (m15 : Nat),
    p0w0a = some { block := m14, off := m15 } ∧ (0 ≤ x5 ∧ x5 < (↑p0w0n : Int)) ∧ ∃ (a3 : Option Addr), ∃ (m16 : Nat), ∃ (m17 : Nat), w6.cell?
    { block := m14, off := m15 + x5.toNat * 1 } = some (Value.slice a3 m16 m17) ∧ (m14 < w.heap.size ∨ m14 ≠ m7 ∧ m14 ≠ m1) ∧ ∃ (m18 : Nat), ∃ (m19 : Nat), a3 = some
    { block := m18, off := m19 } ∧ (0 ≤ x6 ∧ x6 < (↑m16 : Int)) ∧ ∃ (x11 : Int), ∃ (x12 : Int), w6.cell? { block := m18, off := m19 + x6.toNat * 2 } = some (Value.int IntKind.i64
    x11) ∧ w6.cell? { block := m18, off := m19 + x6.toNat * 2 + 1 } = some (Value.int IntKind.i64 x12) ∧ (m18 < w.heap.size ∨ m18 ≠ m7 ∧ m18 ≠ m1) ∧ ∀ (w7 : World), RowKit.Below
    w.heap.size w w7 → KeptIn [(0, w6.heap.size)] [m7, m1] w6 w7 → Calls Try.prog 53 #[Value.agg #[Value.int IntKind.i64 x3, Value.int IntKind.i64 x4, Value.int IntKind.i64 x5,
    Value.int IntKind.i64 x6, Value.int IntKind.i64 x7, Value.int IntKind.i64 x8], Value.agg #[Value.int IntKind.i64 x9, Value.int IntKind.i64 x10], Value.agg #[Value.int
    IntKind.i64 x11, Value.int IntKind.i64 x12]] w7 fun (e2 : Ending) (w8 : World) => ∃ (x13 : Int), ∃ (x14 : Int), ∃ (t1 : Bool), e2 = Ending.returned (Value.tuple #[Value.int
    IntKind.i64 x13, Value.int IntKind.i64 x14, Value.bool t1]) ∧ KeepX true w.heap.size [m7, m1] (fun _ => False) w7 w8 ∧ (t1 = true → ∀ (m21 : Nat), w8.heap.size ≤ m21 → ∀ (w9 :
    World), RowKit.Below w.heap.size w w9 → Kept [m21, m7, m1] w8 w9 → w9.heap[m21]? = some (Obj.cells #[Value.int IntKind.i64 x2, Value.int IntKind.i64 x13, Value.int IntKind.i64
    x14] 37) → RunsTo Try.prog (Builtin.append_ #[31, 31] 31 #[Value.slice a1 m3 m4, Value.slice (some { block := m21, off := 0 }) 1 1]) w9 fun (v1 : Value) (w10 : World) => ∃ (a4
    : Option Addr), ∃ (m23 : Nat), ∃ (m24 : Nat), v1 = Value.slice a4 m23 m24 ∧ KeepX true w.heap.size [m21, m7, m1] (fun _ => False) w9 w10 ∧ (-9223372036854775808 ≤ x2 + 1 ∧ x2 +
    (1 : Int) ≤ 9223372036854775807) ∧ ∀ (w11 : World), RowKit.Below w.heap.size w w11 → Kept [m21, m7, m1] w10 w11 → F1 [Lf.sl a4 m23 m24, Lf.int IntKind.i64 (x2 + 1)] w11 ∧ F2
    [Lf.sl a4 m23 m24, Lf.int IntKind.i64 (x2 + 1)] < F2 [Lf.sl a1 m3 m4, Lf.int IntKind.i64 x2]) ∧ (t1 = false → (-9223372036854775808 ≤ x2 + 1 ∧ x2 + (1 : Int) ≤
    9223372036854775807) ∧ ∀ (w12 : World), RowKit.Below w.heap.size w w12 → Kept [m7, m1] w8 w12 → F1 [Lf.sl a1 m3 m4, Lf.int IntKind.i64 (x2 + 1)] w12 ∧ F2 [Lf.sl a1 m3 m4,
    Lf.int IntKind.i64 (x2 + 1)] < F2 [Lf.sl a1 m3 m4, Lf.int IntKind.i64 x2])) ∧ ((↑p0w1n : Int) ≤ x2 → ∀ (w13 : World), RowKit.Below w.heap.size w w13 → Kept [m1] w6 w13 → R
    (Ending.returned (Value.tuple #[Value.slice a1 m3 m4, Value.int IntKind.i64 0])) w13))) : Calls Try.prog 17 #[Value.agg #[Value.slice p0w0a p0w0n p0w0c, Value.slice p0w1a p0w1n
    p0w1c]] w R := calls_of_vc (pure := true) (wrapAt := []) (muts := []) (esc := []) (args := [SV.pv (PV.agg [Lf.sl p0w0a p0w0n p0w0c, Lf.sl p0w1a p0w1n p0w1c])]) (vs :=
    [Value.agg #[Value.slice p0w0a p0w0n p0w0c, Value.slice p0w1a p0w1n p0w1c]]) Try.func17 rfl rfl rfl (Eq.mp (by kernel_rfl) h) 
set_option maxRecDepth 100000 in
set_option maxHeartbeats 2000000 in
theorem vc66 (f0 : Int) (f1 : Int) (f2 : Int) (f3 : Int) (f4 : Int) (f5 : Int) (hole : Int) (shaft : Int) (w : World) (R : Ending → World → Prop) (h : ∀ (m1 : Nat), w.heap.size ≤
    m1 → (-9223372036854775808 ≤ hole - shaft ∧ hole - shaft ≤ 9223372036854775807) ∧ ∀ (w1 : World), RowKit.Below w.heap.size w w1 → Kept [m1] w w1 → Calls Try.prog 54 #[Value.int
    IntKind.i64 (hole - shaft), Value.int IntKind.i64 f4, Value.int IntKind.i64 f5] w1 fun (e1 : Ending) (w2 : World) => ∃ (t1 : Bool), e1 = Ending.returned (Value.bool t1) ∧ KeepX
    true w.heap.size [m1] (fun _ => False) w1 w2 ∧ ∀ (w3 : World), RowKit.Below w.heap.size w w3 → Kept [m1] w2 w3 → R (Ending.returned (Value.bool t1)) w3) : Calls Try.prog 66
    #[Value.agg #[Value.int IntKind.i64 f0, Value.int IntKind.i64 f1, Value.int IntKind.i64 f2, Value.int IntKind.i64 f3, Value.int IntKind.i64 f4, Value.int IntKind.i64 f5],
    Value.int IntKind.i64 hole, Value.int IntKind.i64 shaft] w R := calls_of_vc (pure := true) (wrapAt := []) (muts := []) (esc := []) (args := [SV.pv (PV.agg [Lf.int IntKind.i64
    f0, Lf.int IntKind.i64 f1, Lf.int IntKind.i64 f2, Lf.int IntKind.i64 f3, Lf.int IntKind.i64 f4, Lf.int IntKind.i64 f5]), SV.pv (PV.one (Lf.int IntKind.i64 hole)), SV.pv (PV.one
    (Lf.int IntKind.i64 shaft))]) (vs := [Value.agg #[Value.int IntKind.i64 f0, Value.int IntKind.i64 f1, Value.int IntKind.i64 f2, Value.int IntKind.i64 f3, Value.int IntKind.i64
    f4, Value.int IntKind.i64 f5], Value.int IntKind.i64 hole, Value.int IntKind.i64 shaft]) Try.func66 rfl rfl rfl (Eq.mp (by kernel_rfl) h) 
set_option maxRecDepth 100000 in
set_option maxHeartbeats 2000000 in
theorem vc70 (c0 : Int) (c1 : Int) (c2 : Int) (w : World) (R : Ending → World → Prop) (h : ∀ (m1 : Nat), w.heap.size ≤ m1 → ∀ (w1 : World), RowKit.Below w.heap.size w w1 → Kept
    [m1] w w1 → Calls Try.prog 71 #[Value.agg #[Value.int IntKind.i64 c0, Value.int IntKind.i64 c1, Value.int IntKind.i64 c2]] w1 fun (e1 : Ending) (w2 : World) => ∃ (t1 : Bool),
    e1 = Ending.returned (Value.bool t1) ∧ KeepX true w.heap.size [m1] (fun _ => False) w1 w2 ∧ ∀ (w3 : World), RowKit.Below w.heap.size w w3 → Kept [m1] w2 w3 → R (Ending.returned
    (Value.bool !t1)) w3) : Calls Try.prog 70 #[Value.agg #[Value.int IntKind.i64 c0, Value.int IntKind.i64 c1, Value.int IntKind.i64 c2]] w R := calls_of_vc (pure := true) (wrapAt
    := []) (muts := []) (esc := []) (args := [SV.pv (PV.agg [Lf.int IntKind.i64 c0, Lf.int IntKind.i64 c1, Lf.int IntKind.i64 c2])]) (vs := [Value.agg #[Value.int IntKind.i64 c0,
    Value.int IntKind.i64 c1, Value.int IntKind.i64 c2]]) Try.func70 rfl rfl rfl (Eq.mp (by kernel_rfl) h) 
set_option maxRecDepth 100000 in
set_option maxHeartbeats 2000000 in
theorem vc71 (c0 : Int) (c1 : Int) (c2 : Int) (w : World) (R : Ending → World → Prop) (h : ∀ (m1 : Nat), w.heap.size ≤ m1 → ∀ (m2 : Nat), w.heap.size ≤ m2 → ∀ (w1 : World),
    RowKit.Below w.heap.size w w1 → Kept [m2, m1] w w1 → w1.heap[m2]? = some (Obj.cells #[Value.int IntKind.i64 c0] 3) → Calls Try.prog 50 #[Value.int IntKind.i64 0, Value.int
    IntKind.i64 1000, Value.slice (some { block := m2, off := 0 }) 1 1] w1 fun (e1 : Ending) (w2 : World) => ∃ (t1 : Bool), e1 = Ending.returned (Value.bool t1) ∧ KeepX true
    w.heap.size [m2, m1] (fun _ => False) w1 w2 ∧ (t1 = true → ∀ (m5 : Nat), w2.heap.size ≤ m5 → ∀ (w3 : World), RowKit.Below w.heap.size w w3 → Kept [m5, m2, m1] w2 w3 →
    w3.heap[m5]? = some (Obj.cells #[Value.int IntKind.i64 c1, Value.int IntKind.i64 c2] 3) → Calls Try.prog 50 #[Value.int IntKind.i64 0, Value.int IntKind.i64 200, Value.slice
    (some { block := m5, off := 0 }) 2 2] w3 fun (e2 : Ending) (w4 : World) => ∃ (t2 : Bool), e2 = Ending.returned (Value.bool t2) ∧ KeepX true w.heap.size [m5, m2, m1] (fun _ =>
    False) w3 w4 ∧ (t2 = true → ∀ (w5 : World), RowKit.Below w.heap.size w w5 → Kept [m5, m2, m1] w4 w5 → R (Ending.returned (Value.bool (decide (c1 ≤ c2)))) w5) ∧ (t2 = false → ∀
    (w6 : World), RowKit.Below w.heap.size w w6 → Kept [m5, m2, m1] w4 w6 → R (Ending.returned (Value.bool false)) w6)) ∧ (t1 = false → ∀ (w7 : World), RowKit.Below w.heap.size w
    w7 → Kept [m2, m1] w2 w7 → R (Ending.returned (Value.bool false)) w7)) : Calls Try.prog 71 #[Value.agg #[Value.int IntKind.i64 c0, Value.int IntKind.i64 c1, Value.int
    IntKind.i64 c2]] w R := calls_of_vc (pure := true) (wrapAt := []) (muts := []) (esc := []) (args := [SV.pv (PV.agg [Lf.int IntKind.i64 c0, Lf.int IntKind.i64 c1, Lf.int
    IntKind.i64 c2])]) (vs := [Value.agg #[Value.int IntKind.i64 c0, Value.int IntKind.i64 c1, Value.int IntKind.i64 c2]]) Try.func71 rfl rfl rfl (Eq.mp (by kernel_rfl) h) 
set_option maxRecDepth 100000 in
set_option maxHeartbeats 2000000 in
theorem vc72 (la : Option Addr) (ln : Nat) (lc : Nat) (w : World) (R : Ending → World → Prop) (h : ∃ (F1 : List Lf → World → Prop), ∃ (F2 : List Lf → Nat), (∀ (w2 : World),
    RowKit.Below w.heap.size w w2 → Kept [] w w2 → F1 [Lf.bool false, Lf.int IntKind.i64 0] w2) ∧ ∀ (t1 : Bool) (x1 : Int) (w3 : World), RowKit.Below w.heap.size w w3 → F1 [Lf.bool
    t1, Lf.int IntKind.i64 x1] w3 → (x1 < (↑ln : Int) → ∃ (m1 : Nat), ∃ (m2 : Nat), la = some { block := m1, off := m2 } ∧ (0 ≤ x1 ∧ x1 < (↑ln : Int)) ∧ ∃ (x2 : Int), w3.cell?
    { block := m1, off := m2 + x1.toNat * 1 } = some (Value.int IntKind.i64 x2) ∧ (0 < x1 → (-9223372036854775808 ≤ x1 - 1 ∧ x1 - (1 : Int) ≤ 9223372036854775807) ∧ ∃ (m3 : Nat), ∃
    (m4 : Nat), la = some { block := m3, off := m4 } ∧ (0 ≤ x1 - 1 ∧ x1 - 1 < (↑ln : Int)) ∧ ∃ (x3 : Int), w3.cell? { block := m3, off := m4 + (x1 - 1).toNat * 1 } = some
    (Value.int IntKind.i64 x3) ∧ (x2 ≤ x3 → ∀ (w4 : World), RowKit.Below w.heap.size w w4 → Kept [] w3 w4 → R (Ending.returned (Value.bool false)) w4) ∧ (x3 < x2 →
    (-9223372036854775808 ≤ x1 + 1 ∧ x1 + (1 : Int) ≤ 9223372036854775807) ∧ ∀ (w5 : World), RowKit.Below w.heap.size w w5 → Kept [] w3 w5 → F1 [Lf.bool t1, Lf.int IntKind.i64 (x1
    + 1)] w5 ∧ F2 [Lf.bool t1, Lf.int IntKind.i64 (x1 + 1)] < F2 [Lf.bool t1, Lf.int IntKind.i64 x1])) ∧ (x1 ≤ 0 → (-9223372036854775808 ≤ x1 + 1 ∧ x1 + (1 : Int) ≤
    9223372036854775807) ∧ ∀ (w6 : World), RowKit.Below w.heap.size w w6 → Kept [] w3 w6 → F1 [Lf.bool t1, Lf.int IntKind.i64 (x1 + 1)] w6 ∧ F2 [Lf.bool t1, Lf.int IntKind.i64 (x1
    + 1)] < F2 [Lf.bool t1, Lf.int IntKind.i64 x1])) ∧ ((↑ln : Int) ≤ x1 → (0 < (↑ln : Int) → ∀ (w7 : World), RowKit.Below w.heap.size w w7 → Kept [] w3 w7 → Calls Try.prog 50
    #[Value.int IntKind.i64 0, Value.int IntKind.i64 200, Value.slice la ln lc] w7 fun (e1 : Ending) (w8 : World) => ∃ (t2 : Bool), e1 = Ending.returned (Value.bool t2) ∧ KeepX
    true w.heap.size [] (fun _ => False) w7 w8 ∧ ∀ (w9 : World), RowKit.Below w.heap.size w w9 → Kept [] w8 w9 → R (Ending.returned (Value.bool t2)) w9) ∧ ((↑ln : Int) ≤ 0 → ∀ (w10
    : World), RowKit.Below w.heap.size w w10 → Kept [] w3 w10 → R (Ending.returned (Value.bool false)) w10))) : Calls Try.prog 72 #[Value.slice la ln lc] w R := calls_of_vc (pure
    := true) (wrapAt := []) (muts := []) (esc := []) (args := [SV.pv (PV.one (Lf.sl la ln lc))]) (vs := [Value.slice la ln lc]) Try.func72 rfl rfl rfl (Eq.mp (by kernel_rfl) h) 
set_option maxRecDepth 100000 in
set_option maxHeartbeats 2000000 in
theorem vc74 (c0 : Int) (c1 : Int) (c2 : Int) (year : Int) (life : Int) (w : World) (R : Ending → World → Prop) (h : ∀ (m1 : Nat), w.heap.size ≤ m1 → (-9223372036854775808 ≤ min
    year c2 - 1 ∧ min year c2 - (1 : Int) ≤ 9223372036854775807) ∧ (-9223372036854775808 ≤ min year c2 - 1 - c1 ∧ min year c2 - 1 - c1 ≤ 9223372036854775807) ∧ (life ≠ 0 ∧
    -9223372036854775808 ≤ (min year c2 - 1 - c1).tdiv life ∧ (min year c2 - 1 - c1).tdiv life ≤ 9223372036854775807) ∧ (-9223372036854775808 ≤ c0 * max 0 ((min year c2 - 1 -
    c1).tdiv life) ∧ c0 * max 0 ((min year c2 - 1 - c1).tdiv life) ≤ 9223372036854775807) ∧ ∀ (w1 : World), RowKit.Below w.heap.size w w1 → Kept [m1] w w1 → R (Ending.returned
    (Value.int IntKind.i64 (c0 * max 0 ((min year c2 - 1 - c1).tdiv life)))) w1) : Calls Try.prog 74 #[Value.agg #[Value.int IntKind.i64 c0, Value.int IntKind.i64 c1, Value.int
    IntKind.i64 c2], Value.int IntKind.i64 year, Value.int IntKind.i64 life] w R := calls_of_vc (pure := true) (wrapAt := []) (muts := []) (esc := []) (args := [SV.pv (PV.agg
    [Lf.int IntKind.i64 c0, Lf.int IntKind.i64 c1, Lf.int IntKind.i64 c2]), SV.pv (PV.one (Lf.int IntKind.i64 year)), SV.pv (PV.one (Lf.int IntKind.i64 life))]) (vs := [Value.agg
    #[Value.int IntKind.i64 c0, Value.int IntKind.i64 c1, Value.int IntKind.i64 c2], Value.int IntKind.i64 year, Value.int IntKind.i64 life]) Try.func74 rfl rfl rfl (Eq.mp (by
    kernel_rfl) h) 
set_option maxRecDepth 100000 in
set_option maxHeartbeats 2000000 in
theorem vc29 (la : Option Addr) (ln : Nat) (lc : Nat) (w : World) (R : Ending → World → Prop) (h : ∀ (m1 : Nat), w.heap.size ≤ m1 → ∀ (w1 : World), RowKit.Below w.heap.size w w1 →
    Kept [m1] w w1 → w1.heap[m1]? = some (Obj.cells #[] 3) → RunsTo Try.prog (Builtin.append_ #[38, 38] 38 #[Value.slice (some { block := m1, off := 0 }) 0 0, Value.slice la ln
    lc]) w1 fun (v1 : Value) (w2 : World) => ∃ (a1 : Option Addr), ∃ (m3 : Nat), ∃ (m4 : Nat), v1 = Value.slice a1 m3 m4 ∧ KeepX true w.heap.size [m1] (fun _ => False) w1 w2 ∧ ∀
    (w3 : World), RowKit.Below w.heap.size w w3 → Kept [m1] w2 w3 → R (Ending.returned (Value.slice a1 m3 m4)) w3) : Calls Try.prog 29 #[Value.slice la ln lc] w R := calls_of_vc
    (pure := true) (wrapAt := []) (muts := []) (esc := []) (args := [SV.pv (PV.one (Lf.sl la ln lc))]) (vs := [Value.slice la ln lc]) Try.func29 rfl rfl rfl (Eq.mp (by kernel_rfl)
    h) 
set_option maxRecDepth 100000 in
set_option maxHeartbeats 2000000 in
theorem vc32 (aa : Option Addr) (an : Nat) (ac : Nat) (ba : Option Addr) (bn : Nat) (bc : Nat) (w : World) (R : Ending → World → Prop) (h : ((↑an : Int) ≠ (↑bn : Int) → ∀ (w1 :
    World), RowKit.Below w.heap.size w w1 → Kept [] w w1 → R (Ending.returned (Value.bool false)) w1) ∧ ((↑an : Int) = (↑bn : Int) → ∃ (F1 : List Lf → World → Prop), ∃ (F2 : List
    Lf → Nat), (∀ (w3 : World), RowKit.Below w.heap.size w w3 → Kept [] w w3 → F1 [Lf.bool false, Lf.int IntKind.i64 0] w3) ∧ ∀ (t1 : Bool) (x1 : Int) (w4 : World), RowKit.Below
    w.heap.size w w4 → F1 [Lf.bool t1, Lf.int IntKind.i64 x1] w4 → (x1 < (↑an : Int) → ∃ (m1 : Nat), ∃ (m2 : Nat), aa = some { block := m1, off := m2 } ∧ (0 ≤ x1 ∧ x1 < (↑an :
    Int)) ∧ ∃ (x2 : Int), w4.cell? { block := m1, off := m2 + x1.toNat * 1 } = some (Value.int IntKind.i64 x2) ∧ ∃ (m3 : Nat), ∃ (m4 : Nat), ba = some { block := m3, off := m4 } ∧
    (0 ≤ x1 ∧ x1 < (↑bn : Int)) ∧ ∃ (x3 : Int), w4.cell? { block := m3, off := m4 + x1.toNat * 1 } = some (Value.int IntKind.i64 x3) ∧ (x2 ≠ x3 → ∀ (w5 : World), RowKit.Below
    w.heap.size w w5 → Kept [] w4 w5 → R (Ending.returned (Value.bool false)) w5) ∧ (x2 = x3 → (-9223372036854775808 ≤ x1 + 1 ∧ x1 + (1 : Int) ≤ 9223372036854775807) ∧ ∀ (w6 :
    World), RowKit.Below w.heap.size w w6 → Kept [] w4 w6 → F1 [Lf.bool t1, Lf.int IntKind.i64 (x1 + 1)] w6 ∧ F2 [Lf.bool t1, Lf.int IntKind.i64 (x1 + 1)] < F2 [Lf.bool t1, Lf.int
    IntKind.i64 x1])) ∧ ((↑an : Int) ≤ x1 → ∀ (w7 : World), RowKit.Below w.heap.size w w7 → Kept [] w4 w7 → R (Ending.returned (Value.bool true)) w7))) : Calls Try.prog 32
    #[Value.slice aa an ac, Value.slice ba bn bc] w R := calls_of_vc (pure := true) (wrapAt := []) (muts := []) (esc := []) (args := [SV.pv (PV.one (Lf.sl aa an ac)), SV.pv (PV.one
    (Lf.sl ba bn bc))]) (vs := [Value.slice aa an ac, Value.slice ba bn bc]) Try.func32 rfl rfl rfl (Eq.mp (by kernel_rfl) h) 
set_option maxRecDepth 100000 in
set_option maxHeartbeats 2000000 in
theorem vc19 (p0w0a : Option Addr) (p0w0n : Nat) (p0w0c : Nat) (p0w1a : Option Addr) (p0w1n : Nat) (p0w1c : Nat) (w : World) (R : Ending → World → Prop) (h : ∀ (m1 : Nat),
    w.heap.size ≤ m1 → ∀ (w1 : World), RowKit.Below w.heap.size w w1 → Kept [m1] w w1 → Calls Try.prog 54 #[Value.int IntKind.i64 (↑p0w0n : Int), Value.int IntKind.i64 1, Value.int
    IntKind.i64 20] w1 fun (e1 : Ending) (w2 : World) => ∃ (t1 : Bool), e1 = Ending.returned (Value.bool t1) ∧ KeepX true w.heap.size [m1] (fun _ => False) w1 w2 ∧ ((!t1) = true →
    ∀ (w3 : World), RowKit.Below w.heap.size w w3 → Kept [m1] w2 w3 → R (Ending.returned (Value.bool false)) w3) ∧ ((!t1) = false → (40 < (↑p0w1n : Int) → ∀ (w4 : World),
    RowKit.Below w.heap.size w w4 → Kept [m1] w2 w4 → R (Ending.returned (Value.bool false)) w4) ∧ ((↑p0w1n : Int) ≤ 40 → ∃ (F1 : List Lf → World → Prop), ∃ (F2 : List Lf → Nat),
    (∀ (w6 : World), RowKit.Below w.heap.size w w6 → Kept [m1] w2 w6 → F1 [Lf.bool false, Lf.int IntKind.i64 0] w6) ∧ ∀ (t2 : Bool) (x1 : Int) (w7 : World), RowKit.Below
    w.heap.size w w7 → F1 [Lf.bool t2, Lf.int IntKind.i64 x1] w7 → (x1 < (↑p0w0n : Int) → ∃ (m3 : Nat), ∃ (m4 : Nat), p0w0a = some { block := m3, off := m4 } ∧ (0 ≤ x1 ∧ x1 <
    (↑p0w0n : Int)) ∧ ∃ (a1 : Option Addr), ∃ (m5 : Nat), ∃ (m6 : Nat), w7.cell? { block := m3, off := m4 + x1.toNat * 1 } = some (Value.slice a1 m5 m6) ∧ (m3 < w.heap.size ∨ m3 ≠
    m1) ∧ ∀ (w8 : World), RowKit.Below w.heap.size w w8 → Kept [m1] w7 w8 → Calls Try.prog 54 #[Value.int IntKind.i64 (↑m5 : Int), Value.int IntKind.i64 1, Value.int IntKind.i64
    10] w8 fun (e2 : Ending) (w9 : World) => ∃ (t3 : Bool), e2 = Ending.returned (Value.bool t3) ∧ KeepX true w.heap.size [m1] (fun _ => False) w8 w9 ∧ ((!t3) = true → ∀ (w10 :
    World), RowKit.Below w.heap.size w w10 → Kept [m1] w9 w10 → R (Ending.returned (Value.bool false)) w10) ∧ ((!t3) = false → ∃ (F3 : List Lf → World → Prop), ∃ (F4 : List Lf →
    Nat), (∀ (w12 : World), RowKit.Below w.heap.size w w12 → Kept [m1] w9 w12 → F3 [Lf.bool t2, Lf.int IntKind.i64 0] w12) ∧ ∀ (t4 : Bool) (x2 : Int) (w13 : World), RowKit.Below
    w.heap.size w w13 → F3 [Lf.bool t4, Lf.int IntKind.i64 x2] w13 → ∃ (m8 : Nat), ∃ (m9 : Nat), p0w0a = some { block := m8, off := m9 } ∧ (0 ≤ x1 ∧ x1 < (↑p0w0n : Int)) ∧ ∃ (a2 :
    Option Addr), ∃ (m10 : Nat), ∃ (m11 : Nat), w13.cell? { block := m8, off := m9 + x1.toNat * 1 } = some (Value.slice a2 m10 m11) ∧ (m8 < w.heap.size ∨ m8 ≠ m1) ∧ (x2 < (↑m10 :
    Int) → ∃ (m12 : Nat), ∃ (m13 : Nat), p0w0a = some { block := m12, off := m13 } ∧ (0 ≤ x1 ∧ x1 < (↑p0w0n : Int)) ∧ ∃ (a3 : Option Addr), ∃ (m14 : Nat), ∃ (m15 : Nat), w13.cell?
    { block := m12, off := m13 + x1.toNat * 1 } = some (Value.slice a3 m14 m15) ∧ (m12 < w.heap.size ∨ m12 ≠ m1) ∧ ∃ (m16 : Nat), ∃ (m17 : Nat), a3 = some
    { block := m16, off := m17 } ∧ (0 ≤ x2 ∧ x2 < (↑m14 : Int)) ∧ ∃ (x3 : Int), ∃ (x4 : Int), w13.cell? { block := m16, off := m17 + x2.toNat * 2 } = some (Value.int IntKind.i64
    x3) ∧ w13.cell? { block := m16, off := m17 + x2.toNat * 2 + 1 } = some (Value.int IntKind.i64 x4) ∧ (m16 < w.heap.size ∨ m16 ≠ m1) ∧ ∀ (w14 : World), RowKit.Below w.heap.size w
    w14 → Kept [m1] w13 w14 → Calls Try.prog 55 #[Value.agg #[Value.int IntKind.i64 x3, Value.int IntKind.i64 x4], Value.int IntKind.i64 0, Value.int IntKind.i64 1000000] w14 fun
    (e3 : Ending) (w15 : World) => ∃ (t5 : Bool), e3 = Ending.returned (Value.bool t5) ∧ KeepX true w.heap.size [m1] (fun _ => False) w14 w15 ∧ ((!t5) = true → ∀ (w16 : World),
    RowKit.Below w.heap.size w w16 → Kept [m1] w15 w16 → R (Ending.returned (Value.bool false)) w16) ∧ ((!t5) = false → (-9223372036854775808 ≤ x2 + 1 ∧ x2 + (1 : Int) ≤
    9223372036854775807) ∧ ∀ (w17 : World), RowKit.Below w.heap.size w w17 → Kept [m1] w15 w17 → F3 [Lf.bool t4, Lf.int IntKind.i64 (x2 + 1)] w17 ∧ F4 [Lf.bool t4, Lf.int
    IntKind.i64 (x2 + 1)] < F4 [Lf.bool t4, Lf.int IntKind.i64 x2])) ∧ ((↑m10 : Int) ≤ x2 → (-9223372036854775808 ≤ x1 + 1 ∧ x1 + (1 : Int) ≤ 9223372036854775807) ∧ ∀ (w18 :
    World), RowKit.Below w.heap.size w w18 → Kept [m1] w13 w18 → F1 [Lf.bool t4, Lf.int IntKind.i64 (x1 + 1)] w18 ∧ F2 [Lf.bool t4, Lf.int IntKind.i64 (x1 + 1)] < F2 [Lf.bool t2,
    Lf.int IntKind.i64 x1]))) ∧ ((↑p0w0n : Int) ≤ x1 → ∃ (F5 : List Lf → World → Prop), ∃ (F6 : List Lf → Nat), (∀ (w20 : World), RowKit.Below w.heap.size w w20 → Kept [m1] w7 w20
    → F5 [Lf.bool t2, Lf.int IntKind.i64 0] w20) ∧ ∀ (t6 : Bool) (x5 : Int) (w21 : World), RowKit.Below w.heap.size w w21 → F5 [Lf.bool t6, Lf.int IntKind.i64 x5] w21 → (x5 <
    (↑p0w1n : Int) → ∃ (m19 : Nat), ∃ (m20 : Nat), p0w1a = some { block := m19, off := m20 } ∧ (0 ≤ x5 ∧ x5 < (↑p0w1n : Int)) ∧ ∃ (x6 : Int), ∃ (x7 : Int), ∃ (x8 : Int), ∃ (x9 :
    Int), ∃ (x10 : Int), ∃ (x11 : Int), w21.cell? { block := m19, off := m20 + x5.toNat * 6 } = some (Value.int IntKind.i64 x6) ∧ w21.cell?
    { block := m19, off := m20 + x5.toNat * 6 + 1 } = some (Value.int IntKind.i64 x7) ∧ w21.cell? { block := m19, off := m20 + x5.toNat * 6 + 1 + 1 } = some (Value.int IntKind.i64
    x8) ∧ w21.cell? { block := m19, off := m20 + x5.toNat * 6 + 1 + 1 + 1 } = some (Value.int IntKind.i64 x9) ∧ w21.cell?
    { block := m19, off := m20 + x5.toNat * 6 + 1 + 1 + 1 + 1 } = some (Value.int IntKind.i64 x10) ∧ w21.cell? { block := m19, off := m20 + x5.toNat * 6 + 1 + 1 + 1 + 1 + 1 } =
    some (Value.int IntKind.i64 x11) ∧ (m19 < w.heap.size ∨ m19 ≠ m1) ∧ ∀ (m21 : Nat), w21.heap.size ≤ m21 → (x6 = x8 → ∀ (w22 : World), RowKit.Below w.heap.size w w22 → Kept [m21,
    m1] w21 w22 → R (Ending.returned (Value.bool false)) w22) ∧ (x6 ≠ x8 → ∀ (w23 : World), RowKit.Below w.heap.size w w23 → Kept [m21, m1] w21 w23 → Calls Try.prog 56 #[Value.agg
    #[Value.slice p0w0a p0w0n p0w0c, Value.slice p0w1a p0w1n p0w1c], Value.int IntKind.i64 x6, Value.int IntKind.i64 x7] w23 fun (e4 : Ending) (w24 : World) => ∃ (t7 : Bool), e4 =
    Ending.returned (Value.bool t7) ∧ KeepX true w.heap.size [m21, m1] (fun _ => False) w23 w24 ∧ ((!t7) = true → ∀ (w25 : World), RowKit.Below w.heap.size w w25 → Kept [m21, m1]
    w24 w25 → R (Ending.returned (Value.bool false)) w25) ∧ ((!t7) = false → ∀ (w26 : World), RowKit.Below w.heap.size w w26 → Kept [m21, m1] w24 w26 → Calls Try.prog 56
    #[Value.agg #[Value.slice p0w0a p0w0n p0w0c, Value.slice p0w1a p0w1n p0w1c], Value.int IntKind.i64 x8, Value.int IntKind.i64 x9] w26 fun (e5 : Ending) (w27 : World) => ∃ (t8 :
    Bool), e5 = Ending.returned (Value.bool t8) ∧ KeepX true w.heap.size [m21, m1] (fun _ => False) w26 w27 ∧ ((!t8) = true → ∀ (w28 : World), RowKit.Below w.heap.size w w28 → Kept
    [m21, m1] w27 w28 → R (Ending.returned (Value.bool false)) w28) ∧ ((!t8) = false → ∀ (w29 : World), RowKit.Below w.heap.size w w29 → Kept [m21, m1] w27 w29 → Calls Try.prog 55
    #[Value.agg #[Value.int IntKind.i64 x10, Value.int IntKind.i64 x11], Value.int IntKind.i64 (-1000000), Value.int IntKind.i64 1000000] w29 fun (e6 : Ending) (w30 : World) => ∃
    (t9 : Bool), e6 = Ending.returned (Value.bool t9) ∧ KeepX true w.heap.size [m21, m1] (fun _ => False) w29 w30 ∧ ((!t9) = true → ∀ (w31 : World), RowKit.Below w.heap.size w w31
    → Kept [m21, m1] w30 w31 → R (Ending.returned (Value.bool false)) w31) ∧ ((!t9) = false → (-9223372036854775808 ≤ x5 + 1 ∧ x5 + (1 : Int) ≤ 9223372036854775807) ∧ ∀ (w32 :
    World), RowKit.Below w.heap.size w w32 → Kept [m21, m1] w30 w32 → F5 [Lf.bool t6, Lf.int IntKind.i64 (x5 + 1)] w32 ∧ F6 [Lf.bool t6, Lf.int IntKind.i64 (x5 + 1)] < F6 [Lf.bool
    t6, Lf.int IntKind.i64 x5]))))) ∧ ((↑p0w1n : Int) ≤ x5 → ∀ (w33 : World), RowKit.Below w.heap.size w w33 → Kept [m1] w21 w33 → R (Ending.returned (Value.bool true)) w33))))) :
    Calls Try.prog 19 #[Value.agg #[Value.slice p0w0a p0w0n p0w0c, Value.slice p0w1a p0w1n p0w1c]] w R := calls_of_vc (pure := true) (wrapAt := []) (muts := []) (esc := []) (args
    := [SV.pv (PV.agg [Lf.sl p0w0a p0w0n p0w0c, Lf.sl p0w1a p0w1n p0w1c])]) (vs := [Value.agg #[Value.slice p0w0a p0w0n p0w0c, Value.slice p0w1a p0w1n p0w1c]]) Try.func19 rfl rfl
    rfl (Eq.mp (by kernel_rfl) h) 
end Go.Proofs
end
section
/- Contracts of the small functions of part. -/
namespace Go.Proofs.R12
open Go.Vc Go.RowKit Go.Proofs

abbrev I (n : Int) : Value := .int .i64 n
abbrev Sp := Int × Int
abbrev spv (s : Sp) : Value := .agg #[I s.1, I s.2]
theorem getElem_of_lt {α : Type} {l : List α} {i : Nat} (h : i < l.length) : l[i]? = some l[i] := List.getElem?_eq_getElem h

/-- The place of the first one, or -1. -/
def idxOf {α : Type} (l : List α) (p : α → Bool) : Int := if l.any p then ((l.findIdx p : Nat) : Int) else -1
theorem idxOf_nonneg {α : Type} {l : List α} {p : α → Bool} : 0 ≤ idxOf l p ↔ l.any p = true := by
  unfold idxOf; split <;> simp_all
theorem idxOf_dec {α : Type} {l : List α} {p : α → Bool} : decide (0 ≤ idxOf l p) = l.any p := by
  rw [Bool.eq_iff_iff, decide_eq_true_iff, idxOf_nonneg]
theorem idxOf_hit {α : Type} {l : List α} {p : α → Bool} {i : Nat} (hi : i < l.length) (hno : ∀ j, j < i → ∀ y, l[j]? = some y → p y = false) (hp : p l[i] = true) : idxOf l p = i := by
  have hany : l.any p = true := List.any_eq_true.2 ⟨_, List.getElem_mem hi, hp⟩
  have hfi : l.findIdx p = i := (List.findIdx_eq hi).2 ⟨hp, fun j hj => hno j hj _ (getElem_of_lt (by omega))⟩
  unfold idxOf
  rw [if_pos hany, hfi]
theorem idxOf_miss {α : Type} {l : List α} {p : α → Bool} (hno : ∀ j, j < l.length → ∀ y, l[j]? = some y → p y = false) : idxOf l p = -1 := by
  unfold idxOf
  rw [if_neg]
  intro hany
  obtain ⟨y, hy, hp⟩ := List.any_eq_true.1 hany
  obtain ⟨i, hi, rfl⟩ := List.mem_iff_getElem.1 hy
  rw [hno i hi _ (getElem_of_lt hi)] at hp
  cases hp
theorem no_step {α : Type} {l : List α} {p : α → Bool} {n : Nat} (hn : n < l.length) (hno : ∀ j, j < n → ∀ y, l[j]? = some y → p y = false) (hp : p l[n] = false) : ∀ j, j < n + 1 → ∀ y, l[j]? = some y → p y = false := fun j hj y hy => by
  by_cases e : j < n
  · exact hno j e y hy
  · have : j = n := by omega
    subst this
    rw [getElem_of_lt hn] at hy
    obtain rfl := Option.some.inj hy
    exact hp

/-- A test that a function value makes, of values of a kind. -/
def FnOk {α : Type} (enc : α → Value) (f : Nat) (fi fc : List Value) (p : α → Bool) (l : List α) (B : Nat) (w0 : World) : Prop :=
  Callable Try.prog f ∧ ∀ x ∈ l, ∀ w, Below B w0 w → Calls Try.prog f (fi ++ [enc x] ++ fc).toArray w (Pure w (.bool (p x)))
theorem FnOk.keep {α : Type} {enc : α → Value} {f : Nat} {fi fc : List Value} {p : α → Bool} {l : List α} {w0 w1 : World} (h : FnOk enc f fi fc p l w0.heap.size w0) (hb : Below w0.heap.size w0 w1) : FnOk enc f fi fc p l w1.heap.size w1 :=
  ⟨h.1, fun x hx w hw => h.2 x hx w (hb.trans (hw.mono hb.size))⟩

/-- A fit, its cells. -/
structure Fit where
  hole : Int
  hs : Int
  shaft : Int
  ss : Int
  gap : Sp
  deriving DecidableEq
def Fit.cells (f : Fit) : List Value := [I f.hole, I f.hs, I f.shaft, I f.ss, I f.gap.1, I f.gap.2]
abbrev Fit.v (f : Fit) : Value := .agg #[I f.hole, I f.hs, I f.shaft, I f.ss, I f.gap.1, I f.gap.2]
def fitsV (l : List Fit) : List Value := l.flatMap Fit.cells
theorem fits_get {l : List Fit} {i : Nat} {f : Fit} (h : l[i]? = some f) (j : Nat) (hj : j < 6) : (fitsV l)[i * 6 + j]? = f.cells[j]? := flat_get (k := 6) (fun _ => rfl) h hj
def spansV (l : List Sp) : List Value := l.flatMap fun s => [I s.1, I s.2]
theorem spans_get {l : List Sp} {i : Nat} {s : Sp} (h : l[i]? = some s) (j : Nat) (hj : j < 2) : (spansV l)[i * 2 + j]? = [I s.1, I s.2][j]? := flat_get (k := 2) (f := fun s : Sp => [I s.1, I s.2]) (fun _ => rfl) h hj
structure Con where
  clocks : Int
  frm : Int
  to : Int
  deriving DecidableEq
abbrev Con.v (c : Con) : Value := .agg #[I c.clocks, I c.frm, I c.to]
def consV (l : List Con) : List Value := l.flatMap fun c => [I c.clocks, I c.frm, I c.to]
theorem cons_get {l : List Con} {i : Nat} {s : Con} (h : l[i]? = some s) (j : Nat) (hj : j < 3) : (consV l)[i * 3 + j]? = [I s.clocks, I s.frm, I s.to][j]? := flat_get (k := 3) (f := fun c : Con => [I c.clocks, I c.frm, I c.to]) (fun _ => rfl) h hj

/-- Patterns: a row of rows. -/
def LiesS (lo hi : Nat) (w : World) (a : Option Addr) (ps : List (List Sp)) : Prop :=
  ∀ i p, ps[i]? = some p → ∃ b o a' c, a = some ⟨b, o, none⟩ ∧ (lo ≤ b ∧ b < hi) ∧ w.cell? ⟨b, o + i, none⟩ = some (.slice a' p.length c) ∧ Lies [] lo hi w a' (spansV p)
def CellsS (w : World) (a : Option Addr) (ps : List (List Sp)) : Prop :=
  ∀ i p, ps[i]? = some p → ∃ b o a' c, a = some ⟨b, o, none⟩ ∧ w.cell? ⟨b, o + i, none⟩ = some (.slice a' p.length c) ∧ Cells w a' (spansV p)
theorem LiesS.cells {lo hi : Nat} {w : World} {a : Option Addr} {ps : List (List Sp)} (h : LiesS lo hi w a ps) : CellsS w a ps := fun i p hi => by
  obtain ⟨b, o, a', c, e, _, h1, h2⟩ := h i p hi
  exact ⟨b, o, a', c, e, h1, h2.cells⟩
theorem CellsS.keep {w w' : World} {a : Option Addr} {ps : List (List Sp)} (h : CellsS w a ps) (hb : Below w.heap.size w w') : CellsS w' a ps := fun i p hi => by
  obtain ⟨b, o, a', c, e, h1, h2⟩ := h i p hi
  exact ⟨b, o, a', c, e, cell_keep hb h1, h2.keep hb⟩

def FnOkS (f : Nat) (fi fc : List Value) (p : List Sp → Bool) (l : List (List Sp)) (B : Nat) (w0 : World) : Prop :=
  Callable Try.prog f ∧ ∀ x ∈ l, ∀ w, Below B w0 w → ∀ a c, Cells w a (spansV x) → Calls Try.prog f (fi ++ [Value.slice a x.length c] ++ fc).toArray w (Pure w (.bool (p x)))
theorem FnOkS.keep {f : Nat} {fi fc : List Value} {p : List Sp → Bool} {l : List (List Sp)} {w0 w1 : World} (h : FnOkS f fi fc p l w0.heap.size w0) (hb : Below w0.heap.size w0 w1) : FnOkS f fi fc p l w1.heap.size w1 :=
  ⟨h.1, fun x hx w hw => h.2 x hx w (hb.trans (hw.mono hb.size))⟩

theorem index_int {a : Option Addr} {c f : Nat} {fi fc : List Value} {p : Int → Bool} {l : List Int} {w : World} (hc : Cells w a (ints l)) (hl : (l.length : Int) ≤ 9223372036854775807)
    (hf : FnOk I f fi fc p l w.heap.size w) : Calls Try.prog 89 #[.slice a l.length c, .func (.func f) fi.toArray fc.toArray] w (Pure w (I (idxOf l p))) := by
  refine vc89 _ _ _ _ _ _ w _ ?_
  refine ⟨fun ls _ => match ls with | [.int _ _, .int _ x] => 0 ≤ x ∧ x ≤ l.length ∧ ∀ i, i < x.toNat → ∀ y, l[i]? = some y → p y = false | _ => False, fun ls => match ls with | [.int _ _, .int _ x] => l.length - x.toNat | _ => 0, fun w1 hb _ => ⟨by omega, by omega, fun i hi => by omega⟩, ?_⟩
  rintro x1 x2 w2 hb2 ⟨h0, hn, hno⟩
  refine ⟨fun hlt => ?_, fun hge w7 hb7 _ => ⟨by rw [idxOf_miss fun j hj => hno j (by omega)], hb7⟩⟩
  have hi : x2.toNat < l.length := by omega
  obtain ⟨b, o, rfl, d0⟩ := hc x2.toNat _ (ints_get (getElem_of_lt hi))
  refine ⟨b, o, rfl, ⟨h0, hlt⟩, _, cell_at' (cell_keep hb2 d0) (by omega), hf.1, fun w3 hb3 _ => Pure.calls (hf.2 _ (List.getElem_mem hi) w3 hb3) fun w4 hb4 => ⟨p l[x2.toNat], rfl, .all hb4, fun ht w5 hb5 _ => ⟨by rw [idxOf_hit hi hno ht, Int.toNat_of_nonneg h0], hb5⟩, fun ht => ⟨by omega, fun w6 hb6 _ => ⟨⟨by omega, by omega, ?_⟩, ?_⟩⟩⟩⟩
  · rw [show (x2 + 1).toNat = x2.toNat + 1 by omega]
    exact no_step hi hno ht
  · show l.length - (x2 + 1).toNat < l.length - x2.toNat
    omega
theorem contains_int {a : Option Addr} {c f : Nat} {fi fc : List Value} {p : Int → Bool} {l : List Int} {w : World} (hc : Cells w a (ints l)) (hl : (l.length : Int) ≤ 9223372036854775807)
    (hf : FnOk I f fi fc p l w.heap.size w) : Calls Try.prog 79 #[.slice a l.length c, .func (.func f) fi.toArray fc.toArray] w (Pure w (.bool (l.any p))) :=
  vc79 _ _ _ _ _ _ w _ fun w1 hb1 _ => Pure.calls (index_int (c := c) (hc.keep hb1) hl (hf.keep hb1)) fun w2 hb2 => ⟨_, rfl, .all hb2, fun w3 hb3 _ => ⟨by rw [idxOf_dec], hb3⟩⟩

theorem index_span {a : Option Addr} {c f : Nat} {fi fc : List Value} {p : Sp → Bool} {l : List Sp} {w : World} (hc : Cells w a (spansV l)) (hl : (l.length : Int) ≤ 9223372036854775807)
    (hf : FnOk spv f fi fc p l w.heap.size w) : Calls Try.prog 88 #[.slice a l.length c, .func (.func f) fi.toArray fc.toArray] w (Pure w (I (idxOf l p))) := by
  refine vc88 _ _ _ _ _ _ w _ ?_
  refine ⟨fun ls _ => match ls with | [.int _ _, .int _ x] => 0 ≤ x ∧ x ≤ l.length ∧ ∀ i, i < x.toNat → ∀ y, l[i]? = some y → p y = false | _ => False, fun ls => match ls with | [.int _ _, .int _ x] => l.length - x.toNat | _ => 0, fun w1 hb _ => ⟨by omega, by omega, fun i hi => by omega⟩, ?_⟩
  rintro x1 x2 w2 hb2 ⟨h0, hn, hno⟩
  refine ⟨fun hlt => ?_, fun hge w7 hb7 _ => ⟨by rw [idxOf_miss fun j hj => hno j (by omega)], hb7⟩⟩
  have hi : x2.toNat < l.length := by omega
  obtain ⟨b, o, rfl, d0⟩ := hc (x2.toNat * 2 + 0) _ (spans_get (getElem_of_lt hi) 0 (by omega))
  obtain ⟨b1, o1, e1, d1⟩ := hc (x2.toNat * 2 + 1) _ (spans_get (getElem_of_lt hi) 1 (by omega))
  obtain ⟨rfl, rfl⟩ : b = b1 ∧ o = o1 := by simpa using e1
  refine ⟨b, o, rfl, ⟨h0, hlt⟩, _, _, cell_at' (cell_keep hb2 d0) (by omega), cell_at' (cell_keep hb2 d1) (by omega), hf.1, fun w3 hb3 _ => Pure.calls (hf.2 _ (List.getElem_mem hi) w3 hb3) fun w4 hb4 => ⟨p l[x2.toNat], rfl, .all hb4, fun ht w5 hb5 _ => ⟨by rw [idxOf_hit hi hno ht, Int.toNat_of_nonneg h0], hb5⟩, fun ht => ⟨by omega, fun w6 hb6 _ => ⟨⟨by omega, by omega, ?_⟩, ?_⟩⟩⟩⟩
  · rw [show (x2 + 1).toNat = x2.toNat + 1 by omega]
    exact no_step hi hno ht
  · show l.length - (x2 + 1).toNat < l.length - x2.toNat
    omega
theorem contains_span {a : Option Addr} {c f : Nat} {fi fc : List Value} {p : Sp → Bool} {l : List Sp} {w : World} (hc : Cells w a (spansV l)) (hl : (l.length : Int) ≤ 9223372036854775807)
    (hf : FnOk spv f fi fc p l w.heap.size w) : Calls Try.prog 77 #[.slice a l.length c, .func (.func f) fi.toArray fc.toArray] w (Pure w (.bool (l.any p))) :=
  vc77 _ _ _ _ _ _ w _ fun w1 hb1 _ => Pure.calls (index_span (c := c) (hc.keep hb1) hl (hf.keep hb1)) fun w2 hb2 => ⟨_, rfl, .all hb2, fun w3 hb3 _ => ⟨by rw [idxOf_dec], hb3⟩⟩

theorem index_con {a : Option Addr} {c f : Nat} {fi fc : List Value} {p : Con → Bool} {l : List Con} {w : World} (hc : Cells w a (consV l)) (hl : (l.length : Int) ≤ 9223372036854775807)
    (hf : FnOk Con.v f fi fc p l w.heap.size w) : Calls Try.prog 87 #[.slice a l.length c, .func (.func f) fi.toArray fc.toArray] w (Pure w (I (idxOf l p))) := by
  refine vc87 _ _ _ _ _ _ w _ ?_
  refine ⟨fun ls _ => match ls with | [.int _ _, .int _ x] => 0 ≤ x ∧ x ≤ l.length ∧ ∀ i, i < x.toNat → ∀ y, l[i]? = some y → p y = false | _ => False, fun ls => match ls with | [.int _ _, .int _ x] => l.length - x.toNat | _ => 0, fun w1 hb _ => ⟨by omega, by omega, fun i hi => by omega⟩, ?_⟩
  rintro x1 x2 w2 hb2 ⟨h0, hn, hno⟩
  refine ⟨fun hlt => ?_, fun hge w7 hb7 _ => ⟨by rw [idxOf_miss fun j hj => hno j (by omega)], hb7⟩⟩
  have hi : x2.toNat < l.length := by omega
  obtain ⟨b, o, rfl, d0⟩ := hc (x2.toNat * 3 + 0) _ (cons_get (getElem_of_lt hi) 0 (by omega))
  obtain ⟨b1, o1, e1, d1⟩ := hc (x2.toNat * 3 + 1) _ (cons_get (getElem_of_lt hi) 1 (by omega))
  obtain ⟨rfl, rfl⟩ : b = b1 ∧ o = o1 := by simpa using e1
  obtain ⟨b2, o2, e2, d2⟩ := hc (x2.toNat * 3 + 2) _ (cons_get (getElem_of_lt hi) 2 (by omega))
  obtain ⟨rfl, rfl⟩ : b = b2 ∧ o = o2 := by simpa using e2
  refine ⟨b, o, rfl, ⟨h0, hlt⟩, _, _, _, cell_at' (cell_keep hb2 d0) (by omega), cell_at' (cell_keep hb2 d1) (by omega), cell_at' (cell_keep hb2 d2) (by omega), hf.1, fun w3 hb3 _ => Pure.calls (hf.2 _ (List.getElem_mem hi) w3 hb3) fun w4 hb4 => ⟨p l[x2.toNat], rfl, .all hb4, fun ht w5 hb5 _ => ⟨by rw [idxOf_hit hi hno ht, Int.toNat_of_nonneg h0], hb5⟩, fun ht => ⟨by omega, fun w6 hb6 _ => ⟨⟨by omega, by omega, ?_⟩, ?_⟩⟩⟩⟩
  · rw [show (x2 + 1).toNat = x2.toNat + 1 by omega]
    exact no_step hi hno ht
  · show l.length - (x2 + 1).toNat < l.length - x2.toNat
    omega
theorem contains_con {a : Option Addr} {c f : Nat} {fi fc : List Value} {p : Con → Bool} {l : List Con} {w : World} (hc : Cells w a (consV l)) (hl : (l.length : Int) ≤ 9223372036854775807)
    (hf : FnOk Con.v f fi fc p l w.heap.size w) : Calls Try.prog 69 #[.slice a l.length c, .func (.func f) fi.toArray fc.toArray] w (Pure w (.bool (l.any p))) :=
  vc69 _ _ _ _ _ _ w _ fun w1 hb1 _ => Pure.calls (index_con (c := c) (hc.keep hb1) hl (hf.keep hb1)) fun w2 hb2 => ⟨_, rfl, .all hb2, fun w3 hb3 _ => ⟨by rw [idxOf_dec], hb3⟩⟩

theorem index_fit {a : Option Addr} {c f : Nat} {fi fc : List Value} {p : Fit → Bool} {l : List Fit} {w : World} (hc : Cells w a (fitsV l)) (hl : (l.length : Int) ≤ 9223372036854775807)
    (hf : FnOk Fit.v f fi fc p l w.heap.size w) : Calls Try.prog 82 #[.slice a l.length c, .func (.func f) fi.toArray fc.toArray] w (Pure w (I (idxOf l p))) := by
  refine vc82 _ _ _ _ _ _ w _ ?_
  refine ⟨fun ls _ => match ls with | [.int _ _, .int _ x] => 0 ≤ x ∧ x ≤ l.length ∧ ∀ i, i < x.toNat → ∀ y, l[i]? = some y → p y = false | _ => False, fun ls => match ls with | [.int _ _, .int _ x] => l.length - x.toNat | _ => 0, fun w1 hb _ => ⟨by omega, by omega, fun i hi => by omega⟩, ?_⟩
  rintro x1 x2 w2 hb2 ⟨h0, hn, hno⟩
  refine ⟨fun hlt => ?_, fun hge w7 hb7 _ => ⟨by rw [idxOf_miss fun j hj => hno j (by omega)], hb7⟩⟩
  have hi : x2.toNat < l.length := by omega
  obtain ⟨b, o, rfl, d0⟩ := hc (x2.toNat * 6 + 0) _ (fits_get (getElem_of_lt hi) 0 (by omega))
  obtain ⟨b1, o1, e1, d1⟩ := hc (x2.toNat * 6 + 1) _ (fits_get (getElem_of_lt hi) 1 (by omega))
  obtain ⟨rfl, rfl⟩ : b = b1 ∧ o = o1 := by simpa using e1
  obtain ⟨b2, o2, e2, d2⟩ := hc (x2.toNat * 6 + 2) _ (fits_get (getElem_of_lt hi) 2 (by omega))
  obtain ⟨rfl, rfl⟩ : b = b2 ∧ o = o2 := by simpa using e2
  obtain ⟨b3, o3, e3, d3⟩ := hc (x2.toNat * 6 + 3) _ (fits_get (getElem_of_lt hi) 3 (by omega))
  obtain ⟨rfl, rfl⟩ : b = b3 ∧ o = o3 := by simpa using e3
  obtain ⟨b4, o4, e4, d4⟩ := hc (x2.toNat * 6 + 4) _ (fits_get (getElem_of_lt hi) 4 (by omega))
  obtain ⟨rfl, rfl⟩ : b = b4 ∧ o = o4 := by simpa using e4
  obtain ⟨b5, o5, e5, d5⟩ := hc (x2.toNat * 6 + 5) _ (fits_get (getElem_of_lt hi) 5 (by omega))
  obtain ⟨rfl, rfl⟩ : b = b5 ∧ o = o5 := by simpa using e5
  refine ⟨b, o, rfl, ⟨h0, hlt⟩, _, _, _, _, _, _, cell_at' (cell_keep hb2 d0) (by omega), cell_at' (cell_keep hb2 d1) (by omega), cell_at' (cell_keep hb2 d2) (by omega), cell_at' (cell_keep hb2 d3) (by omega), cell_at' (cell_keep hb2 d4) (by omega), cell_at' (cell_keep hb2 d5) (by omega), hf.1, fun w3 hb3 _ => Pure.calls (hf.2 _ (List.getElem_mem hi) w3 hb3) fun w4 hb4 => ⟨p l[x2.toNat], rfl, .all hb4, fun ht w5 hb5 _ => ⟨by rw [idxOf_hit hi hno ht, Int.toNat_of_nonneg h0], hb5⟩, fun ht => ⟨by omega, fun w6 hb6 _ => ⟨⟨by omega, by omega, ?_⟩, ?_⟩⟩⟩⟩
  · rw [show (x2 + 1).toNat = x2.toNat + 1 by omega]
    exact no_step hi hno ht
  · show l.length - (x2 + 1).toNat < l.length - x2.toNat
    omega
theorem contains_fit {a : Option Addr} {c f : Nat} {fi fc : List Value} {p : Fit → Bool} {l : List Fit} {w : World} (hc : Cells w a (fitsV l)) (hl : (l.length : Int) ≤ 9223372036854775807)
    (hf : FnOk Fit.v f fi fc p l w.heap.size w) : Calls Try.prog 52 #[.slice a l.length c, .func (.func f) fi.toArray fc.toArray] w (Pure w (.bool (l.any p))) :=
  vc52 _ _ _ _ _ _ w _ fun w1 hb1 _ => Pure.calls (index_fit (c := c) (hc.keep hb1) hl (hf.keep hb1)) fun w2 hb2 => ⟨_, rfl, .all hb2, fun w3 hb3 _ => ⟨by rw [idxOf_dec], hb3⟩⟩

theorem index_pat {a : Option Addr} {c f : Nat} {fi fc : List Value} {p : (List Sp) → Bool} {l : List (List Sp)} {w : World} (hc : CellsS w a l) (hl : (l.length : Int) ≤ 9223372036854775807)
    (hf : FnOkS f fi fc p l w.heap.size w) : Calls Try.prog 81 #[.slice a l.length c, .func (.func f) fi.toArray fc.toArray] w (Pure w (I (idxOf l p))) := by
  refine vc81 _ _ _ _ _ _ w _ ?_
  refine ⟨fun ls _ => match ls with | [.int _ _, .int _ x] => 0 ≤ x ∧ x ≤ l.length ∧ ∀ i, i < x.toNat → ∀ y, l[i]? = some y → p y = false | _ => False, fun ls => match ls with | [.int _ _, .int _ x] => l.length - x.toNat | _ => 0, fun w1 hb _ => ⟨by omega, by omega, fun i hi => by omega⟩, ?_⟩
  rintro x1 x2 w2 hb2 ⟨h0, hn, hno⟩
  refine ⟨fun hlt => ?_, fun hge w7 hb7 _ => ⟨by rw [idxOf_miss fun j hj => hno j (by omega)], hb7⟩⟩
  have hi : x2.toNat < l.length := by omega
  obtain ⟨b, o, a', c', rfl, d0, D⟩ := hc x2.toNat _ (getElem_of_lt hi)
  refine ⟨b, o, rfl, ⟨h0, hlt⟩, _, _, _, cell_at' (cell_keep hb2 d0) (by omega), hf.1, fun w3 hb3 _ => Pure.calls (hf.2 _ (List.getElem_mem hi) w3 hb3 _ _ (D.keep hb3)) fun w4 hb4 => ⟨p l[x2.toNat], rfl, .all hb4, fun ht w5 hb5 _ => ⟨by rw [idxOf_hit hi hno ht, Int.toNat_of_nonneg h0], hb5⟩, fun ht => ⟨by omega, fun w6 hb6 _ => ⟨⟨by omega, by omega, ?_⟩, ?_⟩⟩⟩⟩
  · rw [show (x2 + 1).toNat = x2.toNat + 1 by omega]
    exact no_step hi hno ht
  · show l.length - (x2 + 1).toNat < l.length - x2.toNat
    omega
theorem contains_pat {a : Option Addr} {c f : Nat} {fi fc : List Value} {p : (List Sp) → Bool} {l : List (List Sp)} {w : World} (hc : CellsS w a l) (hl : (l.length : Int) ≤ 9223372036854775807)
    (hf : FnOkS f fi fc p l w.heap.size w) : Calls Try.prog 51 #[.slice a l.length c, .func (.func f) fi.toArray fc.toArray] w (Pure w (.bool (l.any p))) :=
  vc51 _ _ _ _ _ _ w _ fun w1 hb1 _ => Pure.calls (index_pat (c := c) (hc.keep hb1) hl (hf.keep hb1)) fun w2 hb2 => ⟨_, rfl, .all hb2, fun w3 hb3 _ => ⟨by rw [idxOf_dec], hb3⟩⟩

set_option maxRecDepth 100000 in
theorem within_any {a b : Int} {la : Option Addr} {c : Nat} {l : List Int} {w : World} (hc : Cells w la (ints l)) (hl : (l.length : Int) ≤ 9223372036854775807) :
    Calls Try.prog 50 #[I a, I b, .slice la l.length c] w (Pure w (.bool (l.all fun n => decide (a ≤ n ∧ n ≤ b)))) := by
  refine vc50 _ _ _ _ _ w _ fun m1 h1 m2 h2 w1 hb1 hk1 hc1 hc2 => ?_
  refine Pure.calls (contains_int (fi := []) (p := fun n => decide (n < a) || decide (b < n)) (hc.keep hb1) hl ⟨callOk_run (by rfl), fun x hx w2 hb2 => ?_⟩) fun w2 hb2 => ⟨_, rfl, .all hb2, fun w3 hb3 _ => ⟨?_, hb3⟩⟩
  · have k1 : w2.cell? ⟨m1, 0, none⟩ = some (I a) := cell_keep hb2 (cell_obj (vs := [I a]) hc1 rfl)
    have k2 : w2.cell? ⟨m2, 0, none⟩ = some (I b) := cell_keep hb2 (cell_obj (vs := [I b]) hc2 rfl)
    refine vc80 _ _ _ w2 _ ⟨a, k1, fun hlt w3 hb3 _ => ⟨?_, hb3⟩, fun hge => ⟨b, k2, fun w3 hb3 _ => ⟨?_, hb3⟩⟩⟩
    · simp [hlt]
    · simp [Int.not_lt.2 hge]
  · congr 2
    rw [Bool.eq_iff_iff]
    simp [List.all_eq_true]
theorem in1_any {w : World} {m : Nat} {a b x : Int} (h : w.heap[m]? = some (.cells #[I x] 3 (0, 0))) : Calls Try.prog 50 #[I a, I b, .slice (some ⟨m, 0, none⟩) 1 1] w (Pure w (.bool (decide (a ≤ x ∧ x ≤ b)))) := by
  have := within_any (l := [x]) (a := a) (b := b) (c := 1) (Cells.obj (vs := [I x]) h) (by simp)
  simpa using this
/-- Is a span valid between two integers? -/
abbrev okS (s : Sp) (a b : Int) : Prop := a ≤ s.1 ∧ s.1 ≤ s.2 ∧ s.2 ≤ b
theorem isSpan_any (s : Sp) (a b : Int) (w : World) : Calls Try.prog 61 #[spv s, I a, I b] w (Pure w (.bool (decide (okS s a b)))) := by
  refine vc61 _ _ _ _ w _ fun m1 h1 m2 h2 w1 hb1 hk1 hc => ?_
  refine Pure.calls (within_any (l := [s.1, s.2]) (Cells.obj (vs := [I s.1, I s.2]) hc) (by simp)) fun w2 hb2 => ⟨_, rfl, .all hb2, fun ht w3 hb3 _ => ⟨?_, hb3⟩, fun ht w4 hb4 _ => ⟨?_, hb4⟩⟩
  · simp at ht
    congr 2
    rw [decide_eq_decide]; unfold okS; omega
  · simp at ht
    congr 1
    rw [eq_comm, Value.bool.injEq, decide_eq_false_iff_not]; unfold okS; omega
theorem not_any_not {α : Type} {l : List α} {P : α → Prop} [DecidablePred P] : (!(l.any fun s => !decide (P s))) = decide (∀ s ∈ l, P s) := by rw [Bool.eq_iff_iff]; simp
def okPat (p : List Sp) : Prop := (1 ≤ p.length ∧ p.length ≤ 10) ∧ ∀ s ∈ p, okS s 0 1000000
instance (p : List Sp) : Decidable (okPat p) := by unfold okPat; exact inferInstance
set_option maxRecDepth 100000 in
theorem isPattern_any {p : List Sp} {a : Option Addr} {c : Nat} {w : World} (hc : Cells w a (spansV p)) (hl : (p.length : Int) ≤ 9223372036854775807) : Calls Try.prog 47 #[.slice a p.length c] w (Pure w (.bool (decide (okPat p)))) := by
  refine vc47 _ _ _ w _ fun m1 h1 w1 hb1 hk1 hc1 => ?_
  refine Pure.calls (in1_any hc1) fun w2 hb2 => ⟨_, rfl, .all hb2, fun ht w3 hb3 _ => ?_, fun ht w6 hb6 _ => ⟨?_, hb6⟩⟩
  · refine Pure.calls (contains_span (fi := []) (fc := []) (p := fun s => !decide (okS s 0 1000000)) (hc.keep hb3) hl ⟨callOk_run (by rfl), fun s hs w4 hb4 => ?_⟩) fun w4 hb4 => ⟨_, rfl, .all hb4, fun w5 hb5 _ => ⟨?_, hb5⟩⟩
    · exact vc78 _ _ w4 _ fun m1 h1 w5 hb5 _ => Pure.calls (isSpan_any s 0 1000000 w5) fun w6 hb6 => ⟨_, rfl, .all hb6, fun w7 hb7 _ => ⟨rfl, hb7⟩⟩
    · have ht : 1 ≤ (p.length : Int) ∧ (p.length : Int) ≤ 10 := of_decide_eq_true ht
      rw [not_any_not]
      congr 2
      rw [decide_eq_decide]; unfold okPat
      exact ⟨fun h => ⟨by omega, h⟩, fun h => h.2⟩
  · have ht : ¬ (1 ≤ (p.length : Int) ∧ (p.length : Int) ≤ 10) := of_decide_eq_false ht
    congr 1
    rw [eq_comm, Value.bool.injEq, decide_eq_false_iff_not]; exact fun h => ht (by have := h.1; omega)
end Go.Proofs.R12
end
section
/- Loads of what the arguments hold. -/
namespace Go.Proofs.R12
open Go.Vc Go.RowKit Go.Proofs

theorem load_int {w wj : World} {a : Option Addr} {l : List Int} {i : Int} {X : Nat → Nat → Int → Prop} (h : Cells w a (ints l)) (hb : Below w.heap.size w wj) (hi0 : 0 ≤ i ∧ i < (l.length : Int)) (k : ∀ m o, m < w.heap.size → X m o (l.getD i.toNat 0)) : ∃ m o, a = some ⟨m, o, none⟩ ∧ (0 ≤ i ∧ i < (l.length : Int)) ∧ ∃ x0 : Int, wj.cell? ⟨m, o + i.toNat * 1, none⟩ = some (I x0) ∧ X m o x0 := by
  have hi : i.toNat < l.length := by omega
  have hg : l.getD i.toNat 0 = l[i.toNat] := by simp [List.getD_eq_getElem?_getD, getElem_of_lt hi]
  obtain ⟨b0, o0, e0, d0⟩ := h i.toNat _ (ints_get (getElem_of_lt hi))
  exact ⟨b0, o0, e0, hi0, _, cell_at' (cell_keep hb d0) (by omega), by have := k b0 o0 (cell_lt d0); rw [hg] at this; exact this⟩
theorem load_intL {w : World} {a : Option Addr} {l : List Int} {i : Int} {lo hi : Nat} {X : Nat → Nat → Int → Prop} (h : Lies [] lo hi w a (ints l)) (hi0 : 0 ≤ i ∧ i < (l.length : Int)) (k : ∀ m o, lo ≤ m ∧ m < hi → X m o (l.getD i.toNat 0)) : ∃ m o, a = some ⟨m, o, none⟩ ∧ (0 ≤ i ∧ i < (l.length : Int)) ∧ ∃ x0 : Int, w.cell? ⟨m, o + i.toNat * 1, none⟩ = some (I x0) ∧ X m o x0 := by
  have hi : i.toNat < l.length := by omega
  have hg : l.getD i.toNat 0 = l[i.toNat] := by simp [List.getD_eq_getElem?_getD, getElem_of_lt hi]
  obtain ⟨b0, o0, e0, ⟨_, q0⟩, d0⟩ := h i.toNat _ (ints_get (getElem_of_lt hi))
  exact ⟨b0, o0, e0, hi0, _, cell_at' d0 (by omega), by have := k b0 o0 q0; rw [hg] at this; exact this⟩
theorem load_span {w wj : World} {a : Option Addr} {l : List Sp} {i : Int} {X : Nat → Nat → Int → Int → Prop} (h : Cells w a (spansV l)) (hb : Below w.heap.size w wj) (hi0 : 0 ≤ i ∧ i < (l.length : Int)) (k : ∀ m o, m < w.heap.size → X m o (l.getD i.toNat (0, 0)).1 (l.getD i.toNat (0, 0)).2) : ∃ m o, a = some ⟨m, o, none⟩ ∧ (0 ≤ i ∧ i < (l.length : Int)) ∧ ∃ x0 x1 : Int, wj.cell? ⟨m, o + i.toNat * 2, none⟩ = some (I x0) ∧ wj.cell? ⟨m, o + i.toNat * 2 + 1, none⟩ = some (I x1) ∧ X m o x0 x1 := by
  have hi : i.toNat < l.length := by omega
  have hg : l.getD i.toNat (0, 0) = l[i.toNat] := by simp [List.getD_eq_getElem?_getD, getElem_of_lt hi]
  obtain ⟨b0, o0, e0, d0⟩ := h (i.toNat * 2 + 0) _ (spans_get (getElem_of_lt hi) 0 (by omega))
  obtain ⟨b1, o1, e1, d1⟩ := h (i.toNat * 2 + 1) _ (spans_get (getElem_of_lt hi) 1 (by omega))
  obtain ⟨rfl, rfl⟩ : b0 = b1 ∧ o0 = o1 := by rw [e0] at e1; simpa using e1
  exact ⟨b0, o0, e0, hi0, _, _, cell_at' (cell_keep hb d0) (by omega), cell_at' (cell_keep hb d1) (by omega), by have := k b0 o0 (cell_lt d0); rw [hg] at this; exact this⟩
theorem load_con {w wj : World} {a : Option Addr} {l : List Con} {i : Int} {X : Nat → Nat → Int → Int → Int → Prop} (h : Cells w a (consV l)) (hb : Below w.heap.size w wj) (hi0 : 0 ≤ i ∧ i < (l.length : Int)) (k : ∀ m o, m < w.heap.size → X m o (l.getD i.toNat ⟨0, 0, 0⟩).clocks (l.getD i.toNat ⟨0, 0, 0⟩).frm (l.getD i.toNat ⟨0, 0, 0⟩).to) : ∃ m o, a = some ⟨m, o, none⟩ ∧ (0 ≤ i ∧ i < (l.length : Int)) ∧ ∃ x0 x1 x2 : Int, wj.cell? ⟨m, o + i.toNat * 3, none⟩ = some (I x0) ∧ wj.cell? ⟨m, o + i.toNat * 3 + 1, none⟩ = some (I x1) ∧ wj.cell? ⟨m, o + i.toNat * 3 + 1 + 1, none⟩ = some (I x2) ∧ X m o x0 x1 x2 := by
  have hi : i.toNat < l.length := by omega
  have hg : l.getD i.toNat ⟨0, 0, 0⟩ = l[i.toNat] := by simp [List.getD_eq_getElem?_getD, getElem_of_lt hi]
  obtain ⟨b0, o0, e0, d0⟩ := h (i.toNat * 3 + 0) _ (cons_get (getElem_of_lt hi) 0 (by omega))
  obtain ⟨b1, o1, e1, d1⟩ := h (i.toNat * 3 + 1) _ (cons_get (getElem_of_lt hi) 1 (by omega))
  obtain ⟨rfl, rfl⟩ : b0 = b1 ∧ o0 = o1 := by rw [e0] at e1; simpa using e1
  obtain ⟨b2, o2, e2, d2⟩ := h (i.toNat * 3 + 2) _ (cons_get (getElem_of_lt hi) 2 (by omega))
  obtain ⟨rfl, rfl⟩ : b0 = b2 ∧ o0 = o2 := by rw [e0] at e2; simpa using e2
  exact ⟨b0, o0, e0, hi0, _, _, _, cell_at' (cell_keep hb d0) (by omega), cell_at' (cell_keep hb d1) (by omega), cell_at' (cell_keep hb d2) (by omega), by have := k b0 o0 (cell_lt d0); rw [hg] at this; exact this⟩
theorem load_fit {w wj : World} {a : Option Addr} {l : List Fit} {i : Int} {X : Nat → Nat → Int → Int → Int → Int → Int → Int → Prop} (h : Cells w a (fitsV l)) (hb : Below w.heap.size w wj) (hi0 : 0 ≤ i ∧ i < (l.length : Int)) (k : ∀ m o, m < w.heap.size → X m o (l.getD i.toNat ⟨0, 0, 0, 0, (0, 0)⟩).hole (l.getD i.toNat ⟨0, 0, 0, 0, (0, 0)⟩).hs (l.getD i.toNat ⟨0, 0, 0, 0, (0, 0)⟩).shaft (l.getD i.toNat ⟨0, 0, 0, 0, (0, 0)⟩).ss (l.getD i.toNat ⟨0, 0, 0, 0, (0, 0)⟩).gap.1 (l.getD i.toNat ⟨0, 0, 0, 0, (0, 0)⟩).gap.2) : ∃ m o, a = some ⟨m, o, none⟩ ∧ (0 ≤ i ∧ i < (l.length : Int)) ∧ ∃ x0 x1 x2 x3 x4 x5 : Int, wj.cell? ⟨m, o + i.toNat * 6, none⟩ = some (I x0) ∧ wj.cell? ⟨m, o + i.toNat * 6 + 1, none⟩ = some (I x1) ∧ wj.cell? ⟨m, o + i.toNat * 6 + 1 + 1, none⟩ = some (I x2) ∧ wj.cell? ⟨m, o + i.toNat * 6 + 1 + 1 + 1, none⟩ = some (I x3) ∧ wj.cell? ⟨m, o + i.toNat * 6 + 1 + 1 + 1 + 1, none⟩ = some (I x4) ∧ wj.cell? ⟨m, o + i.toNat * 6 + 1 + 1 + 1 + 1 + 1, none⟩ = some (I x5) ∧ X m o x0 x1 x2 x3 x4 x5 := by
  have hi : i.toNat < l.length := by omega
  have hg : l.getD i.toNat ⟨0, 0, 0, 0, (0, 0)⟩ = l[i.toNat] := by simp [List.getD_eq_getElem?_getD, getElem_of_lt hi]
  obtain ⟨b0, o0, e0, d0⟩ := h (i.toNat * 6 + 0) _ (fits_get (getElem_of_lt hi) 0 (by omega))
  obtain ⟨b1, o1, e1, d1⟩ := h (i.toNat * 6 + 1) _ (fits_get (getElem_of_lt hi) 1 (by omega))
  obtain ⟨rfl, rfl⟩ : b0 = b1 ∧ o0 = o1 := by rw [e0] at e1; simpa using e1
  obtain ⟨b2, o2, e2, d2⟩ := h (i.toNat * 6 + 2) _ (fits_get (getElem_of_lt hi) 2 (by omega))
  obtain ⟨rfl, rfl⟩ : b0 = b2 ∧ o0 = o2 := by rw [e0] at e2; simpa using e2
  obtain ⟨b3, o3, e3, d3⟩ := h (i.toNat * 6 + 3) _ (fits_get (getElem_of_lt hi) 3 (by omega))
  obtain ⟨rfl, rfl⟩ : b0 = b3 ∧ o0 = o3 := by rw [e0] at e3; simpa using e3
  obtain ⟨b4, o4, e4, d4⟩ := h (i.toNat * 6 + 4) _ (fits_get (getElem_of_lt hi) 4 (by omega))
  obtain ⟨rfl, rfl⟩ : b0 = b4 ∧ o0 = o4 := by rw [e0] at e4; simpa using e4
  obtain ⟨b5, o5, e5, d5⟩ := h (i.toNat * 6 + 5) _ (fits_get (getElem_of_lt hi) 5 (by omega))
  obtain ⟨rfl, rfl⟩ : b0 = b5 ∧ o0 = o5 := by rw [e0] at e5; simpa using e5
  exact ⟨b0, o0, e0, hi0, _, _, _, _, _, _, cell_at' (cell_keep hb d0) (by omega), cell_at' (cell_keep hb d1) (by omega), cell_at' (cell_keep hb d2) (by omega), cell_at' (cell_keep hb d3) (by omega), cell_at' (cell_keep hb d4) (by omega), cell_at' (cell_keep hb d5) (by omega), by have := k b0 o0 (cell_lt d0); rw [hg] at this; exact this⟩
theorem load_pat {w wj : World} {a : Option Addr} {l : List (List Sp)} {i : Int} {X : Nat → Nat → Option Addr → Nat → Nat → Prop} (h : CellsS w a l) (hb : Below w.heap.size w wj) (hi0 : 0 ≤ i ∧ i < (l.length : Int)) (k : ∀ m o, m < w.heap.size → ∀ a1 c1, Cells w a1 (spansV (l.getD i.toNat [])) → X m o a1 (l.getD i.toNat []).length c1) : ∃ m o, a = some ⟨m, o, none⟩ ∧ (0 ≤ i ∧ i < (l.length : Int)) ∧ ∃ a1 n1 c1, wj.cell? ⟨m, o + i.toNat * 1, none⟩ = some (.slice a1 n1 c1) ∧ X m o a1 n1 c1 := by
  have hi : i.toNat < l.length := by omega
  have hg : l.getD i.toNat [] = l[i.toNat] := by simp [List.getD_eq_getElem?_getD, getElem_of_lt hi]
  obtain ⟨b, o, a', c, e, d, D⟩ := h i.toNat _ (getElem_of_lt hi)
  exact ⟨b, o, e, hi0, _, _, _, cell_at' (cell_keep hb d) (by omega), by have := k b o (cell_lt d) a' c (by rw [hg]; exact D); rw [hg] at this; exact this⟩
end Go.Proofs.R12
end
section
/- Works: are they valid? -/
namespace Go.Proofs.R12
open Go.Vc Go.RowKit Go.Proofs

structure Wk where
  pats : List (List Sp)
  fits : List Fit
abbrev Wk.v (W : Wk) (pa : Option Addr) (pc : Nat) (fa : Option Addr) (fc : Nat) : Value := .agg #[.slice pa W.pats.length pc, .slice fa W.fits.length fc]
abbrev Wk.pat (W : Wk) (i : Int) : List Sp := W.pats.getD i.toNat []
structure Small (W : Wk) : Prop where
  n : W.pats.length ≤ 1000
  m : W.fits.length ≤ 1000
  all : ∀ p ∈ W.pats, p.length ≤ 1000
theorem getD_mem {α : Type} {l : List α} {i : Nat} {d : α} : l.getD i d = d ∨ l.getD i d ∈ l := by
  rw [List.getD_eq_getElem?_getD]
  by_cases h : i < l.length
  · right; rw [getElem_of_lt h]; exact List.getElem_mem h
  · left; rw [List.getElem?_eq_none (by omega)]; rfl
theorem Small.pat {W : Wk} (h : Small W) (i : Int) : (W.pat i).length ≤ 1000 := by
  rcases getD_mem (l := W.pats) (i := i.toNat) (d := []) with e | e
  · unfold Wk.pat; rw [e]; simp
  · exact h.all _ e
def okSize (W : Wk) (p s : Int) : Prop := (0 ≤ p ∧ p < W.pats.length) ∧ 0 ≤ s ∧ s < (W.pat p).length
instance (W : Wk) (p s : Int) : Decidable (okSize W p s) := by unfold okSize; exact inferInstance
def okFit (W : Wk) (f : Fit) : Prop := f.hole ≠ f.shaft ∧ okSize W f.hole f.hs ∧ okSize W f.shaft f.ss ∧ okS f.gap (-1000000) 1000000
instance (W : Wk) (f : Fit) : Decidable (okFit W f) := by unfold okFit; exact inferInstance
def OkW (W : Wk) : Prop := (1 ≤ W.pats.length ∧ W.pats.length ≤ 20) ∧ (∀ p ∈ W.pats, okPat p) ∧ W.fits.length ≤ 40 ∧ ∀ f ∈ W.fits, okFit W f
def Lim (W : Wk) : Prop := W.pats.length ≤ 22 ∧ W.fits.length ≤ 45 ∧ ∀ p ∈ W.pats, p.length ≤ 12
instance (W : Wk) : Decidable (Lim W) := by unfold Lim; exact inferInstance
theorem all_getD {α : Type} {l : List α} {d : α} {P : α → Prop} : (∀ x ∈ l, P x) ↔ ∀ j, j < l.length → P (l.getD j d) := by
  constructor
  · intro h j hj
    rw [List.getD_eq_getElem?_getD, getElem_of_lt hj]; exact h _ (List.getElem_mem hj)
  · intro h x hx
    obtain ⟨j, hj, rfl⟩ := List.mem_iff_getElem.1 hx
    have := h j hj
    rw [List.getD_eq_getElem?_getD, getElem_of_lt hj] at this; exact this
theorem all_step {P : Nat → Prop} {x : Int} (h0 : 0 ≤ x) (h : ∀ j : Nat, j < x.toNat → P j) (hx : P x.toNat) : ∀ j : Nat, j < (x + 1).toNat → P j := fun j hj => by
  by_cases e : j < x.toNat
  · exact h j e
  · have : j = x.toNat := by omega
    rw [this]; exact hx
theorem any_not {α : Type} {l : List α} {P : α → Prop} [DecidablePred P] : (l.any fun s => !decide (P s)) = !decide (∀ s ∈ l, P s) := by rw [← not_any_not, Bool.not_not]
instance (W : Wk) : Decidable (OkW W) := by unfold OkW; exact inferInstance
def checkE (W : Wk) : Int := if OkW W then 0 else 2

theorem isSize_any {w : World} {W : Wk} {pa fa : Option Addr} {pc fc : Nat} (p s : Int) (hp : CellsS w pa W.pats) (hS : Small W) : Calls Try.prog 60 #[W.v pa pc fa fc, I p, I s] w (Pure w (.bool (decide (okSize W p s)))) := by
  have hl := hS.n; have hl2 : (W.pats.getD p.toNat []).length ≤ 1000 := hS.pat p
  refine vc60 _ _ _ _ _ _ _ _ w _ ?_
  intro m1 g_m1
  refine ⟨(by first | omega | (simp only; omega)), ?_⟩
  intro m2 g_m2 w1 hb1 hk1 hc1_m2
  refine Pure.calls (in1_any hc1_m2) fun w2 hd2 => ?_
  have hb2 := hb1.trans (hd2.mono hb1.size)
  refine ⟨_, rfl, .all hd2, ?_, ?_⟩
  · intro h1
    try simp only [decide_eq_true_eq] at h1
    refine load_pat hp hb2 (by omega) fun m5 m6 hm1 a1 m8 hs1 => ?_
    refine ⟨(by first | omega | (simp only; omega)), (by first | omega | (simp only; omega)), ?_⟩
    intro m9 g_m9 w3 hb3 hk3 hc3_m9
    refine Pure.calls (in1_any hc3_m9) fun w4 hd4 => ?_
    have hb4 := hb3.trans (hd4.mono hb3.size)
    refine ⟨_, rfl, .all hd4, ?_⟩
    intro w5 hb5 hk5
    exact ⟨by congr 2; rw [Bool.eq_iff_iff]; simp only [decide_eq_true_eq, okSize, Wk.pat]; first | omega | grind, hb5⟩
  · intro h2 w6 hb6 hk6
    try simp only [decide_eq_false_iff_not] at h2
    exact ⟨by congr 2; rw [Bool.eq_iff_iff]; simp only [Bool.false_eq_true, false_iff, okSize, Wk.pat]; first | omega | grind, hb6⟩

theorem isFit_any {w : World} {W : Wk} {pa fa : Option Addr} {pc fc : Nat} (f : Fit) (hp : CellsS w pa W.pats) (hS : Small W) : Calls Try.prog 49 #[W.v pa pc fa fc, f.v] w (Pure w (.bool (decide (okFit W f)))) := by
  refine vc49 _ _ _ _ _ _ _ _ _ _ _ _ w _ ?_
  intro m1 g_m1 m2 g_m2
  refine ⟨?_, ?_⟩
  · intro h1 w1 hb1 hk1
    try simp only [Bool.not_eq_true', Bool.not_eq_false', decide_eq_true_eq, decide_eq_false_iff_not] at h1
    refine Pure.calls (isSize_any _ _ (hp.keep hb1) hS) fun w2 hd2 => ?_
    have hb2 := hb1.trans (hd2.mono hb1.size)
    refine ⟨_, rfl, .all hd2, ?_, ?_⟩
    · intro h2 w3 hb3 hk3
      try simp only [decide_eq_true_eq] at h2
      refine Pure.calls (isSize_any _ _ (hp.keep hb3) hS) fun w4 hd4 => ?_
      have hb4 := hb3.trans (hd4.mono hb3.size)
      refine ⟨_, rfl, .all hd4, ?_, ?_⟩
      · intro h3 w5 hb5 hk5
        try simp only [decide_eq_true_eq] at h3
        refine Pure.calls (isSpan_any f.gap _ _ _) fun w6 hd6 => ?_
        have hb6 := hb5.trans (hd6.mono hb5.size)
        refine ⟨_, rfl, .all hd6, ?_⟩
        intro w7 hb7 hk7
        exact ⟨by congr 2; rw [Bool.eq_iff_iff]; simp only [decide_eq_true_eq, okFit]; first | omega | grind, hb7⟩
      · intro h4 w8 hb8 hk8
        try simp only [decide_eq_false_iff_not] at h4
        exact ⟨by congr 2; rw [Bool.eq_iff_iff]; simp only [Bool.false_eq_true, false_iff, okFit]; first | omega | grind, hb8⟩
    · intro h5 w9 hb9 hk9
      try simp only [decide_eq_false_iff_not] at h5
      exact ⟨by congr 2; rw [Bool.eq_iff_iff]; simp only [Bool.false_eq_true, false_iff, okFit]; first | omega | grind, hb9⟩
  · intro h6 w10 hb10 hk10
    try simp only [Bool.not_eq_true', Bool.not_eq_false', decide_eq_true_eq, decide_eq_false_iff_not] at h6
    exact ⟨by congr 2; rw [Bool.eq_iff_iff]; simp only [Bool.false_eq_true, false_iff, okFit]; first | omega | grind, hb10⟩

theorem rIn_any {w : World} (n a b : Int) : Calls Try.prog 54 #[I n, I a, I b] w (Pure w (.bool (decide (a ≤ n ∧ n ≤ b)))) := by
  refine vc54 _ _ _ w _ ?_
  refine ⟨?_, ?_⟩
  · intro h1 w1 hb1 hk1
    try simp only [Bool.not_eq_true', Bool.not_eq_false', decide_eq_true_eq, decide_eq_false_iff_not] at h1
    exact ⟨by congr 2; rw [Bool.eq_iff_iff]; simp only [decide_eq_true_eq]; first | omega | grind, hb1⟩
  · intro h2 w2 hb2 hk2
    try simp only [Bool.not_eq_true', Bool.not_eq_false', decide_eq_true_eq, decide_eq_false_iff_not] at h2
    exact ⟨by congr 2; rw [Bool.eq_iff_iff]; simp only [decide_eq_true_eq, Bool.false_eq_true, false_iff]; first | omega | grind, hb2⟩

theorem rSpan_any {w : World} (s : Sp) (a b : Int) : Calls Try.prog 55 #[spv s, I a, I b] w (Pure w (.bool (decide (okS s a b)))) := by
  refine vc55 _ _ _ _ w _ ?_
  intro m1 g_m1 w1 hb1 hk1
  refine Pure.calls (rIn_any _ _ _) fun w2 hd2 => ?_
  have hb2 := hb1.trans (hd2.mono hb1.size)
  refine ⟨_, rfl, .all hd2, ?_, ?_⟩
  · intro h1 w3 hb3 hk3
    try simp only [decide_eq_true_eq] at h1
    exact ⟨by congr 2; rw [Bool.eq_iff_iff]; simp only [decide_eq_true_eq, okS]; first | omega | grind, hb3⟩
  · intro h2 w4 hb4 hk4
    try simp only [decide_eq_false_iff_not] at h2
    exact ⟨by congr 2; rw [Bool.eq_iff_iff]; simp only [decide_eq_true_eq, Bool.false_eq_true, false_iff, okS]; first | omega | grind, hb4⟩

theorem rSize_any {w : World} {W : Wk} {pa fa : Option Addr} {pc fc : Nat} (p s : Int) (hp : CellsS w pa W.pats) (hS : Small W) : Calls Try.prog 56 #[W.v pa pc fa fc, I p, I s] w (Pure w (.bool (decide (okSize W p s)))) := by
  have hl := hS.n; have hl2 : (W.pats.getD p.toNat []).length ≤ 1000 := hS.pat p
  refine vc56 _ _ _ _ _ _ _ _ w _ ?_
  intro m1 g_m1
  refine ⟨(by first | omega | (simp only; omega)), ?_⟩
  intro w1 hb1 hk1
  refine Pure.calls (rIn_any _ _ _) fun w2 hd2 => ?_
  have hb2 := hb1.trans (hd2.mono hb1.size)
  refine ⟨_, rfl, .all hd2, ?_, ?_⟩
  · intro h1
    try simp only [decide_eq_true_eq] at h1
    refine load_pat hp hb2 (by omega) fun m3 m4 hm1 a1 m6 hs1 => ⟨.inl hm1, ?_⟩
    refine ⟨(by first | omega | (simp only; omega)), ?_⟩
    intro w3 hb3 hk3
    refine Pure.calls (rIn_any _ _ _) fun w4 hd4 => ?_
    have hb4 := hb3.trans (hd4.mono hb3.size)
    refine ⟨_, rfl, .all hd4, ?_⟩
    intro w5 hb5 hk5
    exact ⟨by congr 2; rw [Bool.eq_iff_iff]; simp only [decide_eq_true_eq, okSize, Wk.pat]; first | omega | grind, hb5⟩
  · intro h2 w6 hb6 hk6
    try simp only [decide_eq_false_iff_not] at h2
    exact ⟨by congr 2; rw [Bool.eq_iff_iff]; simp only [Bool.false_eq_true, false_iff, okSize, Wk.pat]; first | omega | grind, hb6⟩

theorem span_any {w : World} (a b : Int) : Calls Try.prog 42 #[I a, I b] w (Pure w (spv (a, b))) := by
  refine vc42 _ _ w _ ?_
  intro m1 g_m1 w1 hb1 hk1
  exact ⟨by rfl, hb1⟩

theorem chk1_any {w : World} {p : List Sp} {a : Option Addr} {c : Nat} (hc : Cells w a (spansV p)) (hl : p.length ≤ 1000) : Calls Try.prog 46 #[.slice a p.length c] w (Pure w (.bool (!decide (okPat p)))) := by
  refine vc46 _ _ _ w _ ?_
  intro w1 hb1 hk1
  refine Pure.calls (isPattern_any (hc.keep hb1) (by omega)) fun w2 hd2 => ?_
  have hb2 := hb1.trans (hd2.mono hb1.size)
  refine ⟨_, rfl, .all hd2, ?_⟩
  intro w3 hb3 hk3
  exact ⟨by rfl, hb3⟩

theorem chk2_any {w : World} {W : Wk} {pa fa : Option Addr} {pc fc : Nat} (f : Fit) {m : Nat} (hp : CellsS w pa W.pats) (hS : Small W) (h0 : w.cell? ⟨m, 0, none⟩ = some (.slice pa W.pats.length pc)) (h1 : w.cell? ⟨m, 1, none⟩ = some (.slice fa W.fits.length fc)) : Calls Try.prog 48 #[f.v, .pointer (some ⟨m, 0, none⟩)] w (Pure w (.bool (!decide (okFit W f)))) := by
  refine vc48 _ _ _ _ _ _ _ w _ ?_
  intro m1 g_m1
  refine ⟨_, _, _, _, _, _, cell_at' (h0) (by omega), cell_at' (h1) (by omega), .inl (cell_lt h0), ?_⟩
  intro w1 hb1 hk1
  refine Pure.calls (isFit_any f (hp.keep hb1) hS) fun w2 hd2 => ?_
  have hb2 := hb1.trans (hd2.mono hb1.size)
  refine ⟨_, rfl, .all hd2, ?_⟩
  intro w3 hb3 hk3
  exact ⟨by rfl, hb3⟩

set_option maxRecDepth 100000 in
theorem check_any {w : World} {W : Wk} {pa fa : Option Addr} {pc fc : Nat} (hp : CellsS w pa W.pats) (hf : Cells w fa (fitsV W.fits)) (hS : Small W) : Calls Try.prog 16 #[W.v pa pc fa fc] w (Pure w (I (checkE W))) := by
  refine vc16 _ _ _ _ _ _ w _ ?_
  intro m1 g_m1 m2 g_m2 w1 hb1 hk1 hc1_m2
  refine Pure.calls (in1_any hc1_m2) fun w2 hd2 => ?_
  have hb2 := hb1.trans (hd2.mono hb1.size)
  refine ⟨_, rfl, .all hd2, ?_, ?_⟩
  · intro h1 w3 hb3 hk3
    try simp only [Bool.not_eq_true', decide_eq_false_iff_not] at h1
    exact ⟨by congr 2; unfold checkE; (first | rw [if_pos (by unfold OkW; grind)] | rw [if_neg (by unfold OkW; grind)]), hb3⟩
  · intro h2 w4 hb4 hk4
    try simp only [Bool.not_eq_false', decide_eq_true_eq] at h2
    refine Pure.calls (by have := contains_pat (fi := []) (fc := []) (c := pc) (p := fun p => !decide (okPat p)) (hp.keep hb4) (by have := hS.n; omega) ⟨callOk_run (by rfl), fun x hx w4 _ a c hc => chk1_any hc (hS.all x hx)⟩; rw [any_not] at this; exact this) fun w5 hd5 => ?_
    have hb5 := hb4.trans (hd5.mono hb4.size)
    refine ⟨_, rfl, .all hd5, ?_, ?_⟩
    · intro h3 w6 hb6 hk6
      try simp only [Bool.not_eq_true', decide_eq_false_iff_not] at h3
      exact ⟨by congr 2; unfold checkE; (first | rw [if_pos (by unfold OkW; grind)] | rw [if_neg (by unfold OkW; grind)]), hb6⟩
    · intro h4
      try simp only [Bool.not_eq_false', decide_eq_true_eq] at h4
      refine ⟨?_, ?_⟩
      · intro h5 w7 hb7 hk7
        try simp only [Bool.not_eq_true', Bool.not_eq_false', decide_eq_true_eq, decide_eq_false_iff_not] at h5
        exact ⟨by congr 2; unfold checkE; (first | rw [if_pos (by unfold OkW; grind)] | rw [if_neg (by unfold OkW; grind)]), hb7⟩
      · intro h6 w8 hb8 hk8 hc8_m1
        try simp only [Bool.not_eq_true', Bool.not_eq_false', decide_eq_true_eq, decide_eq_false_iff_not] at h6
        refine Pure.calls (by have := contains_fit (fi := []) (c := fc) (fc := [.pointer (some ⟨m1, 0, none⟩)]) (p := fun f => !decide (okFit W f)) (hf.keep hb8) (by have := hS.m; omega) ⟨callOk_run (by rfl), fun f hf w4 hw => chk2_any f (((hp.keep hb8)).keep hw) hS (cell_keep hw (cell_obj (vs := [.slice pa W.pats.length pc, .slice fa W.fits.length fc]) hc8_m1 rfl)) (cell_keep hw (cell_obj (vs := [.slice pa W.pats.length pc, .slice fa W.fits.length fc]) hc8_m1 rfl))⟩; rw [any_not] at this; exact this) fun w9 hd9 => ?_
        have hb9 := hb8.trans (hd9.mono hb8.size)
        refine ⟨_, rfl, .all hd9, ?_, ?_⟩
        · intro h7 w10 hb10 hk10
          try simp only [Bool.not_eq_true', decide_eq_false_iff_not] at h7
          exact ⟨by congr 2; unfold checkE; (first | rw [if_pos (by unfold OkW; grind)] | rw [if_neg (by unfold OkW; grind)]), hb10⟩
        · intro h8 w11 hb11 hk11
          try simp only [Bool.not_eq_false', decide_eq_true_eq] at h8
          exact ⟨by congr 2; unfold checkE; (first | rw [if_pos (by unfold OkW; grind)] | rw [if_neg (by unfold OkW; grind)]), hb11⟩

theorem large_any {w : World} {W : Wk} {pa fa : Option Addr} {pc fc : Nat} (hp : CellsS w pa W.pats) (hf : Cells w fa (fitsV W.fits)) : Calls Try.prog 13 #[W.v pa pc fa fc] w (Pure w (.bool (decide (¬ Lim W)))) := by
  refine vc13 _ _ _ _ _ _ w _ ?_
  intro m1 g_m1
  refine ⟨?_, ?_⟩
  · intro h1 w1 hb1 hk1
    try simp only [Bool.not_eq_true', Bool.not_eq_false', decide_eq_true_eq, decide_eq_false_iff_not] at h1
    exact ⟨by congr 2; rw [Bool.eq_iff_iff]; simp only [decide_eq_true_eq]; unfold Lim; rw [all_getD (d := [])]; first | omega | grind, hb1⟩
  · intro h2
    try simp only [Bool.not_eq_true', Bool.not_eq_false', decide_eq_true_eq, decide_eq_false_iff_not] at h2
    refine ⟨?_, ?_⟩
    · intro h3 w2 hb2 hk2
      try simp only [Bool.not_eq_true', Bool.not_eq_false', decide_eq_true_eq, decide_eq_false_iff_not] at h3
      exact ⟨by congr 2; rw [Bool.eq_iff_iff]; simp only [decide_eq_true_eq]; unfold Lim; rw [all_getD (d := [])]; first | omega | grind, hb2⟩
    · intro h4
      try simp only [Bool.not_eq_true', Bool.not_eq_false', decide_eq_true_eq, decide_eq_false_iff_not] at h4
      refine ⟨fun ls _ => match ls with | [.bool _, .int _ x] => 0 ≤ x ∧ x ≤ W.pats.length ∧ ∀ j : Nat, j < x.toNat → (W.pats.getD j []).length ≤ 12 | _ => False, fun ls => match ls with | [_, .int _ x] => (W.pats.length - x).toNat | _ => 0, ?_, ?_⟩
      · intro w4 hb4 hk4
        exact ⟨by omega, by omega, fun j hj => by omega⟩
      rintro t1 x1 w5 hb5 ⟨x0, xl, hall⟩
      refine ⟨?_, ?_⟩
      · intro h5
        try simp only [Bool.not_eq_true', Bool.not_eq_false', decide_eq_true_eq, decide_eq_false_iff_not] at h5
        refine load_pat hp hb5 (by omega) fun m2 m3 hm1 a1 m5 hs1 => ⟨.inl hm1, ?_⟩
        refine ⟨?_, ?_⟩
        · intro h6 w6 hb6 hk6
          try simp only [Bool.not_eq_true', Bool.not_eq_false', decide_eq_true_eq, decide_eq_false_iff_not] at h6
          exact ⟨by congr 2; rw [Bool.eq_iff_iff]; simp only [decide_eq_true_eq]; unfold Lim; rw [all_getD (d := [])]; first | omega | grind, hb6⟩
        · intro h7
          try simp only [Bool.not_eq_true', Bool.not_eq_false', decide_eq_true_eq, decide_eq_false_iff_not] at h7
          refine ⟨(by first | omega | (simp only; omega)), ?_⟩
          intro w7 hb7 hk7
          refine ⟨?_, (by first | omega | (simp only; omega))⟩
          exact ⟨by omega, by omega, all_step x0 hall (by omega)⟩
      · intro h8 w8 hb8 hk8
        try simp only [Bool.not_eq_true', Bool.not_eq_false', decide_eq_true_eq, decide_eq_false_iff_not] at h8
        exact ⟨by congr 2; rw [Bool.eq_iff_iff]; simp only [decide_eq_true_eq, Bool.false_eq_true]; unfold Lim; rw [all_getD (d := [])]; first | omega | grind, hb8⟩

theorem rWorks_any {w : World} {W : Wk} {pa fa : Option Addr} {pc fc : Nat} (hp : CellsS w pa W.pats) (hf : Cells w fa (fitsV W.fits)) (hS : Small W) : Calls Try.prog 19 #[W.v pa pc fa fc] w (Pure w (.bool (decide (OkW W)))) := by
  have hl := hS.n; have hm := hS.m; have hpl := fun i => hS.pat i
  refine vc19 _ _ _ _ _ _ w _ ?_
  intro m1 g_m1 w1 hb1 hk1
  refine Pure.calls (rIn_any _ _ _) fun w2 hd2 => ?_
  have hb2 := hb1.trans (hd2.mono hb1.size)
  refine ⟨_, rfl, .all hd2, ?_, ?_⟩
  · intro h1 w3 hb3 hk3
    try simp only [Bool.not_eq_true', decide_eq_false_iff_not] at h1
    exact ⟨by congr 2; rw [Bool.eq_iff_iff]; simp only [decide_eq_true_eq, Bool.false_eq_true]; unfold OkW; rw [all_getD (d := []) (l := W.pats), all_getD (d := ⟨0, 0, 0, 0, (0, 0)⟩) (l := W.fits)]; first | omega | grind [okPat, okFit], hb3⟩
  · intro h2
    try simp only [Bool.not_eq_false', decide_eq_true_eq] at h2
    refine ⟨?_, ?_⟩
    · intro h3 w4 hb4 hk4
      try simp only [Bool.not_eq_true', Bool.not_eq_false', decide_eq_true_eq, decide_eq_false_iff_not] at h3
      exact ⟨by congr 2; rw [Bool.eq_iff_iff]; simp only [decide_eq_true_eq, Bool.false_eq_true]; unfold OkW; rw [all_getD (d := []) (l := W.pats), all_getD (d := ⟨0, 0, 0, 0, (0, 0)⟩) (l := W.fits)]; first | omega | grind [okPat, okFit], hb4⟩
    · intro h4
      try simp only [Bool.not_eq_true', Bool.not_eq_false', decide_eq_true_eq, decide_eq_false_iff_not] at h4
      refine ⟨fun ls _ => match ls with | [.bool _, .int _ x] => 0 ≤ x ∧ x ≤ W.pats.length ∧ ∀ j : Nat, j < x.toNat → okPat (W.pats.getD j []) | _ => False, fun ls => match ls with | [_, .int _ x] => (W.pats.length - x).toNat | _ => 0, ?_, ?_⟩
      · intro w6 hb6 hk6
        exact ⟨by omega, by omega, fun j hj => by omega⟩
      rintro t2 x1 w7 hb7 ⟨x0, xl, hall⟩
      refine ⟨?_, ?_⟩
      · intro h5
        try simp only [Bool.not_eq_true', Bool.not_eq_false', decide_eq_true_eq, decide_eq_false_iff_not] at h5
        refine load_pat hp hb7 (by omega) fun m3 m4 hm1 a1 m6 hs1 => ⟨.inl hm1, ?_⟩
        intro w8 hb8 hk8
        refine Pure.calls (rIn_any _ _ _) fun w9 hd9 => ?_
        have hb9 := hb8.trans (hd9.mono hb8.size)
        refine ⟨_, rfl, .all hd9, ?_, ?_⟩
        · intro h6 w10 hb10 hk10
          try simp only [Bool.not_eq_true', decide_eq_false_iff_not] at h6
          exact ⟨by congr 2; rw [Bool.eq_iff_iff]; simp only [decide_eq_true_eq, Bool.false_eq_true]; unfold OkW; rw [all_getD (d := []) (l := W.pats), all_getD (d := ⟨0, 0, 0, 0, (0, 0)⟩) (l := W.fits)]; first | omega | grind [okPat, okFit], hb10⟩
        · intro h7
          try simp only [Bool.not_eq_false', decide_eq_true_eq] at h7
          refine ⟨fun ls _ => match ls with | [.bool _, .int _ x] => 0 ≤ x ∧ x ≤ (W.pats.getD x1.toNat []).length ∧ ∀ j : Nat, j < x.toNat → okS ((W.pats.getD x1.toNat []).getD j (0, 0)) 0 1000000 | _ => False, fun ls => match ls with | [_, .int _ x] => ((W.pats.getD x1.toNat []).length - x).toNat | _ => 0, ?_, ?_⟩
          · intro w12 hb12 hk12
            exact ⟨by omega, by omega, fun j hj => by omega⟩
          rintro t4 x2 w13 hb13 ⟨y0, yl, hall2⟩
          have hpx := hpl x1
          refine load_pat hp hb13 (by omega) fun m8 m9 hm2 a2 m11 hs2 => ⟨.inl hm2, ?_⟩
          refine ⟨?_, ?_⟩
          · intro h8
            try simp only [Bool.not_eq_true', Bool.not_eq_false', decide_eq_true_eq, decide_eq_false_iff_not] at h8
            refine load_pat hp hb13 (by omega) fun m12 m13 hm3 a3 m15 hs3 => ⟨.inl hm3, ?_⟩
            refine load_span hs3 hb13 (by omega) fun m16 m17 hm4 => ⟨.inl hm4, ?_⟩
            intro w14 hb14 hk14
            refine Pure.calls (rSpan_any (_, _) _ _) fun w15 hd15 => ?_
            have hb15 := hb14.trans (hd15.mono hb14.size)
            refine ⟨_, rfl, .all hd15, ?_, ?_⟩
            · intro h9 w16 hb16 hk16
              try simp only [Bool.not_eq_true', decide_eq_false_iff_not] at h9
              exact ⟨by congr 2; rw [Bool.eq_iff_iff]; simp only [decide_eq_true_eq, Bool.false_eq_true]; unfold OkW; rw [all_getD (d := []) (l := W.pats), all_getD (d := ⟨0, 0, 0, 0, (0, 0)⟩) (l := W.fits)]; first | omega | grind [okPat, okFit], hb16⟩
            · intro h10
              try simp only [Bool.not_eq_false', decide_eq_true_eq] at h10
              refine ⟨(by first | omega | (simp only; omega)), ?_⟩
              intro w17 hb17 hk17
              refine ⟨?_, (by first | omega | (simp only; omega))⟩
              exact ⟨by omega, by omega, all_step y0 hall2 (by grind)⟩
          · intro h11
            try simp only [Bool.not_eq_true', Bool.not_eq_false', decide_eq_true_eq, decide_eq_false_iff_not] at h11
            refine ⟨(by first | omega | (simp only; omega)), ?_⟩
            intro w18 hb18 hk18
            refine ⟨?_, (by first | omega | (simp only; omega))⟩
            exact ⟨by omega, by omega, all_step x0 hall ⟨by omega, (all_getD (d := (0, 0))).2 fun j hj => hall2 j (by omega)⟩⟩
      · intro h12
        try simp only [Bool.not_eq_true', Bool.not_eq_false', decide_eq_true_eq, decide_eq_false_iff_not] at h12
        refine ⟨fun ls _ => match ls with | [.bool _, .int _ x] => 0 ≤ x ∧ x ≤ W.fits.length ∧ ∀ j : Nat, j < x.toNat → okFit W (W.fits.getD j ⟨0, 0, 0, 0, (0, 0)⟩) | _ => False, fun ls => match ls with | [_, .int _ x] => (W.fits.length - x).toNat | _ => 0, ?_, ?_⟩
        · intro w20 hb20 hk20
          exact ⟨by omega, by omega, fun j hj => by omega⟩
        rintro t6 x5 w21 hb21 ⟨z0, zl, hall3⟩
        refine ⟨?_, ?_⟩
        · intro h13
          try simp only [Bool.not_eq_true', Bool.not_eq_false', decide_eq_true_eq, decide_eq_false_iff_not] at h13
          refine load_fit hf hb21 (by omega) fun m19 m20 hm5 => ⟨.inl hm5, ?_⟩
          intro m21 g_m21
          refine ⟨?_, ?_⟩
          · intro h14 w22 hb22 hk22
            try simp only [Bool.not_eq_true', Bool.not_eq_false', decide_eq_true_eq, decide_eq_false_iff_not] at h14
            exact ⟨by congr 2; rw [Bool.eq_iff_iff]; simp only [decide_eq_true_eq, Bool.false_eq_true]; unfold OkW; rw [all_getD (d := []) (l := W.pats), all_getD (d := ⟨0, 0, 0, 0, (0, 0)⟩) (l := W.fits)]; first | omega | grind [okPat, okFit], hb22⟩
          · intro h15 w23 hb23 hk23
            try simp only [Bool.not_eq_true', Bool.not_eq_false', decide_eq_true_eq, decide_eq_false_iff_not] at h15
            refine Pure.calls (rSize_any _ _ (hp.keep hb23) hS) fun w24 hd24 => ?_
            have hb24 := hb23.trans (hd24.mono hb23.size)
            refine ⟨_, rfl, .all hd24, ?_, ?_⟩
            · intro h16 w25 hb25 hk25
              try simp only [Bool.not_eq_true', decide_eq_false_iff_not] at h16
              exact ⟨by congr 2; rw [Bool.eq_iff_iff]; simp only [decide_eq_true_eq, Bool.false_eq_true]; unfold OkW; rw [all_getD (d := []) (l := W.pats), all_getD (d := ⟨0, 0, 0, 0, (0, 0)⟩) (l := W.fits)]; first | omega | grind [okPat, okFit], hb25⟩
            · intro h17 w26 hb26 hk26
              try simp only [Bool.not_eq_false', decide_eq_true_eq] at h17
              refine Pure.calls (rSize_any _ _ (hp.keep hb26) hS) fun w27 hd27 => ?_
              have hb27 := hb26.trans (hd27.mono hb26.size)
              refine ⟨_, rfl, .all hd27, ?_, ?_⟩
              · intro h18 w28 hb28 hk28
                try simp only [Bool.not_eq_true', decide_eq_false_iff_not] at h18
                exact ⟨by congr 2; rw [Bool.eq_iff_iff]; simp only [decide_eq_true_eq, Bool.false_eq_true]; unfold OkW; rw [all_getD (d := []) (l := W.pats), all_getD (d := ⟨0, 0, 0, 0, (0, 0)⟩) (l := W.fits)]; first | omega | grind [okPat, okFit], hb28⟩
              · intro h19 w29 hb29 hk29
                try simp only [Bool.not_eq_false', decide_eq_true_eq] at h19
                refine Pure.calls (rSpan_any (_, _) _ _) fun w30 hd30 => ?_
                have hb30 := hb29.trans (hd30.mono hb29.size)
                refine ⟨_, rfl, .all hd30, ?_, ?_⟩
                · intro h20 w31 hb31 hk31
                  try simp only [Bool.not_eq_true', decide_eq_false_iff_not] at h20
                  exact ⟨by congr 2; rw [Bool.eq_iff_iff]; simp only [decide_eq_true_eq, Bool.false_eq_true]; unfold OkW; rw [all_getD (d := []) (l := W.pats), all_getD (d := ⟨0, 0, 0, 0, (0, 0)⟩) (l := W.fits)]; first | omega | grind [okPat, okFit], hb31⟩
                · intro h21
                  try simp only [Bool.not_eq_false', decide_eq_true_eq] at h21
                  refine ⟨(by first | omega | (simp only; omega)), ?_⟩
                  intro w32 hb32 hk32
                  refine ⟨?_, (by first | omega | (simp only; omega))⟩
                  exact ⟨by omega, by omega, all_step z0 hall3 ⟨by assumption, by assumption, by assumption, by assumption⟩⟩
        · intro h22 w33 hb33 hk33
          try simp only [Bool.not_eq_true', Bool.not_eq_false', decide_eq_true_eq, decide_eq_false_iff_not] at h22
          exact ⟨by congr 2; rw [Bool.eq_iff_iff]; simp only [decide_eq_true_eq]; unfold OkW; rw [all_getD (d := []) (l := W.pats), all_getD (d := ⟨0, 0, 0, 0, (0, 0)⟩) (l := W.fits)]; first | omega | grind [okPat, okFit], hb33⟩
end Go.Proofs.R12
end
section
/- Contracts: pieces, gauges, contracts, orders. -/
namespace Go.Proofs.R12
open Go.Vc Go.RowKit Go.Proofs

def isF (f : Fit) (h s : Int) : Prop := f.gap.1 ≤ h - s ∧ h - s ≤ f.gap.2
instance (f : Fit) (h s : Int) : Decidable (isF f h s) := by unfold isF; exact inferInstance
def holeB (f : Fit) (hs ss : Sp) : Int := if f.gap.1 ≤ hs.1 - ss.2 then max hs.1 (f.gap.2 + ss.1 + 1) else hs.1
def badM (f : Fit) (hs ss : Sp) : Int × Int × Bool :=
  let h := holeB f hs ss
  let s := if isF f h ss.1 then h - f.gap.1 + 1 else ss.1
  (h, s, decide (h ≤ hs.2 ∧ s ≤ ss.2))
structure Piece where
  pat : Int
  sizes : List Int
  deriving DecidableEq
theorem all_dec {l : List Int} {a b : Int} : (l.all fun n => decide (a ≤ n ∧ n ≤ b)) = decide (∀ n ∈ l, a ≤ n ∧ n ≤ b) := by
  rw [Bool.eq_iff_iff]; simp [List.all_eq_true]
def pieceErr (W : Wk) (x : Piece) : Int := if ¬ (0 ≤ x.pat ∧ x.pat < W.pats.length) then 7 else if x.sizes.length ≠ (W.pat x.pat).length then 4 else if ∀ s ∈ x.sizes, 0 ≤ s ∧ s ≤ 1000000 then 0 else 3
theorem pieceErr_ok {W : Wk} {x : Piece} (h : pieceErr W x = 0) : (0 ≤ x.pat ∧ x.pat < W.pats.length) ∧ x.sizes.length = (W.pat x.pat).length ∧ ∀ s ∈ x.sizes, 0 ≤ s ∧ s ≤ 1000000 := by
  unfold pieceErr at h
  split at h
  · omega
  · split at h
    · omega
    · split at h
      · rename_i h1 h2 h3; exact ⟨by simpa using h1, by simpa using h2, h3⟩
      · omega
def goodM (W : Wk) (x : Piece) : Prop := ∀ j : Nat, j < x.sizes.length → ((W.pat x.pat).getD j (0, 0)).1 ≤ x.sizes.getD j 0 ∧ x.sizes.getD j 0 ≤ ((W.pat x.pat).getD j (0, 0)).2
instance (W : Wk) (x : Piece) : Decidable (goodM W x) := by unfold goodM; exact inferInstance
def GoodM (W : Wk) (x : Piece) : Bool × Int := if checkE W ≠ 0 then (false, 2) else if pieceErr W x ≠ 0 then (false, pieceErr W x) else (decide (goodM W x), 0)
theorem checkE_ok {W : Wk} : checkE W = 0 ↔ OkW W := by unfold checkE; split <;> simp_all
theorem checkE_ne {W : Wk} : checkE W ≠ 0 ↔ ¬ OkW W := by rw [Ne, checkE_ok]
def gaugeM (W : Wk) (p s : Int) (e : Sp) : Sp × Sp × Int :=
  if ¬ OkW W then ((0, 0), (0, 0), 2) else if ¬ okSize W p s then ((0, 0), (0, 0), 7) else if ¬ okS e (-1000) 1000 then ((0, 0), (0, 0), 3) else
  let t := (W.pats.getD p.toNat []).getD s.toNat (0, 0)
  if t.2 + e.1 < t.1 + e.2 then ((0, 0), (0, 0), 9) else ((t.1 + e.2, t.2 + e.1), (t.1 + e.1, t.2 + e.2), 0)
theorem OkW.pat {W : Wk} {p s : Int} (h : OkW W) (hs : okSize W p s) : okS ((W.pats.getD p.toNat []).getD s.toNat (0, 0)) 0 1000000 := by
  obtain ⟨⟨h1, h2⟩, h3, h4⟩ := hs
  have := (all_getD (d := [])).1 h.2.1 p.toNat (by omega)
  exact (all_getD (d := (0, 0))).1 this.2 s.toNat (by unfold Wk.pat at h4; omega)
theorem not_not {p : Prop} : ¬ ¬ p ↔ p := ⟨fun h => Classical.byContradiction h, fun h g => g h⟩
theorem gaugeM_a {W : Wk} {p s : Int} {e : Sp} (h : ¬ OkW W) : gaugeM W p s e = ((0, 0), (0, 0), 2) := by unfold gaugeM; rw [if_pos h]
theorem gaugeM_b {W : Wk} {p s : Int} {e : Sp} (h : OkW W) (h2 : ¬ okSize W p s) : gaugeM W p s e = ((0, 0), (0, 0), 7) := by unfold gaugeM; rw [if_neg (not_not.2 h), if_pos h2]
theorem gaugeM_c {W : Wk} {p s : Int} {e : Sp} (h : OkW W) (h2 : okSize W p s) (h3 : ¬ okS e (-1000) 1000) : gaugeM W p s e = ((0, 0), (0, 0), 3) := by unfold gaugeM; rw [if_neg (not_not.2 h), if_neg (not_not.2 h2), if_pos h3]
def okCon (x : Con) : Prop := (0 ≤ x.clocks ∧ x.clocks ≤ 1000) ∧ 0 ≤ x.frm ∧ x.frm ≤ x.to ∧ x.to ≤ 200
instance (x : Con) : Decidable (okCon x) := by unfold okCon; exact inferInstance
def mostM (x : Con) (y l : Int) : Int := x.clocks * max 0 ((min y x.to - 1 - x.frm).tdiv l)
theorem most_bd {a l : Int} (hl : 1 ≤ l) : -(a.natAbs : Int) ≤ a.tdiv l ∧ a.tdiv l ≤ a.natAbs := by
  have h1 : (a.tdiv l).natAbs ≤ a.natAbs := by rw [Int.natAbs_tdiv]; exact Nat.div_le_self ..
  omega
theorem most_bd2 {a l : Int} (hl : 1 ≤ l) (ha : -2000 ≤ a ∧ a ≤ 2000) : 0 ≤ max 0 (a.tdiv l) ∧ max 0 (a.tdiv l) ≤ 2000 := by
  have := most_bd (a := a) hl; omega
theorem most_mul {c m : Int} (h : 0 ≤ c ∧ c ≤ 1000) (_ : True) (hm : 0 ≤ m ∧ m ≤ 2000) : 0 ≤ c * m ∧ c * m ≤ 2000000 := by
  refine ⟨Int.mul_nonneg h.1 hm.1, ?_⟩
  have := Int.mul_le_mul h.2 hm.2 hm.1 (by omega)
  omega
def okOrd (l : List Int) : Prop := (∀ j : Nat, j < l.length → (0 < j → l.getD (j - 1) 0 < l.getD j 0)) ∧ 0 < l.length ∧ ∀ n ∈ l, 0 ≤ n ∧ n ≤ 200
instance (l : List Int) : Decidable (okOrd l) := by unfold okOrd; exact inferInstance

theorem is_any {w : World} (f : Fit) (h s : Int) (hh : -10000000 ≤ h ∧ h ≤ 10000000) (hs : -10000000 ≤ s ∧ s ≤ 10000000) : Calls Try.prog 83 #[f.v, I h, I s] w (Pure w (.bool (decide (isF f h s)))) := by
  refine vc83 _ _ _ _ _ _ _ _ w _ ?_
  intro m1 g_m1
  refine ⟨(by first | omega | (simp only; omega)), ?_⟩
  intro m2 g_m2 w1 hb1 hk1 hc1_m2
  refine Pure.calls (in1_any hc1_m2) fun w2 hd2 => ?_
  have hb2 := hb1.trans (hd2.mono hb1.size)
  refine ⟨_, rfl, .all hd2, ?_⟩
  intro w3 hb3 hk3
  exact ⟨by rfl, hb3⟩

theorem rFits_any {w : World} (f : Fit) (h s : Int) (hh : -10000000 ≤ h ∧ h ≤ 10000000) (hs : -10000000 ≤ s ∧ s ≤ 10000000) : Calls Try.prog 66 #[f.v, I h, I s] w (Pure w (.bool (decide (isF f h s)))) := by
  refine vc66 _ _ _ _ _ _ _ _ w _ ?_
  intro m1 g_m1
  refine ⟨(by first | omega | (simp only; omega)), ?_⟩
  intro w1 hb1 hk1
  refine Pure.calls (rIn_any _ _ _) fun w2 hd2 => ?_
  have hb2 := hb1.trans (hd2.mono hb1.size)
  refine ⟨_, rfl, .all hd2, ?_⟩
  intro w3 hb3 hk3
  exact ⟨by rfl, hb3⟩

theorem bad_any {w : World} (f : Fit) (hs ss : Sp) (g : okS f.gap (-1000000) 1000000) (h1 : okS hs 0 1000000) (h2 : okS ss 0 1000000) : Calls Try.prog 53 #[f.v, spv hs, spv ss] w (Pure w (.tuple #[I (badM f hs ss).1, I (badM f hs ss).2.1, .bool (badM f hs ss).2.2])) := by
  unfold okS at g h1 h2
  refine vc53 _ _ _ _ _ _ _ _ _ _ w _ ?_
  intro m1 g_m1 m2 g_m2 m3 g_m3
  refine ⟨(by first | omega | (simp only; omega)), ?_, ?_⟩
  · intro h1
    try simp only [Bool.not_eq_true', Bool.not_eq_false', decide_eq_true_eq, decide_eq_false_iff_not] at h1
    refine ⟨(by first | omega | (simp only; omega)), (by first | omega | (simp only; omega)), ?_⟩
    intro w1 hb1 hk1
    refine Pure.calls (is_any f _ _ (by omega) (by omega)) fun w2 hd2 => ?_
    have hb2 := hb1.trans (hd2.mono hb1.size)
    refine ⟨_, rfl, .all hd2, ?_, ?_⟩
    · intro h2
      try simp only [decide_eq_true_eq] at h2
      refine ⟨(by first | omega | (simp only; omega)), (by first | omega | (simp only; omega)), ?_, ?_⟩
      · intro h3 w3 hb3 hk3
        try simp only [Bool.not_eq_true', Bool.not_eq_false', decide_eq_true_eq, decide_eq_false_iff_not] at h3
        exact ⟨by simp only [badM, holeB]; (repeat' split) <;> first | (exfalso; omega) | contradiction | rfl | (refine congrArg (fun b => Ending.returned (Value.tuple #[_, _, Value.bool b])) ?_; rw [Bool.eq_iff_iff]; simp only [decide_eq_true_eq]; omega), hb3⟩
      · intro h4 w4 hb4 hk4
        try simp only [Bool.not_eq_true', Bool.not_eq_false', decide_eq_true_eq, decide_eq_false_iff_not] at h4
        exact ⟨by simp only [badM, holeB]; (repeat' split) <;> first | (exfalso; omega) | contradiction | rfl | (refine congrArg (fun b => Ending.returned (Value.tuple #[_, _, Value.bool b])) ?_; rw [Bool.eq_iff_iff]; simp only [decide_eq_true_eq, Bool.false_eq_true, false_iff]; omega), hb4⟩
    · intro h5
      try simp only [decide_eq_false_iff_not] at h5
      refine ⟨?_, ?_⟩
      · intro h6 w5 hb5 hk5
        try simp only [Bool.not_eq_true', Bool.not_eq_false', decide_eq_true_eq, decide_eq_false_iff_not] at h6
        exact ⟨by simp only [badM, holeB]; (repeat' split) <;> first | (exfalso; omega) | contradiction | rfl | (refine congrArg (fun b => Ending.returned (Value.tuple #[_, _, Value.bool b])) ?_; rw [Bool.eq_iff_iff]; simp only [decide_eq_true_eq]; omega), hb5⟩
      · intro h7 w6 hb6 hk6
        try simp only [Bool.not_eq_true', Bool.not_eq_false', decide_eq_true_eq, decide_eq_false_iff_not] at h7
        exact ⟨by simp only [badM, holeB]; (repeat' split) <;> first | (exfalso; omega) | contradiction | rfl | (refine congrArg (fun b => Ending.returned (Value.tuple #[_, _, Value.bool b])) ?_; rw [Bool.eq_iff_iff]; simp only [decide_eq_true_eq, Bool.false_eq_true, false_iff]; omega), hb6⟩
  · intro h8 w7 hb7 hk7
    try simp only [Bool.not_eq_true', Bool.not_eq_false', decide_eq_true_eq, decide_eq_false_iff_not] at h8
    refine Pure.calls (is_any f _ _ (by omega) (by omega)) fun w8 hd8 => ?_
    have hb8 := hb7.trans (hd8.mono hb7.size)
    refine ⟨_, rfl, .all hd8, ?_, ?_⟩
    · intro h9
      try simp only [decide_eq_true_eq] at h9
      refine ⟨(by first | omega | (simp only; omega)), (by first | omega | (simp only; omega)), ?_, ?_⟩
      · intro h10 w9 hb9 hk9
        try simp only [Bool.not_eq_true', Bool.not_eq_false', decide_eq_true_eq, decide_eq_false_iff_not] at h10
        exact ⟨by simp only [badM, holeB]; (repeat' split) <;> first | (exfalso; omega) | contradiction | rfl | (refine congrArg (fun b => Ending.returned (Value.tuple #[_, _, Value.bool b])) ?_; rw [Bool.eq_iff_iff]; simp only [decide_eq_true_eq]; omega), hb9⟩
      · intro h11 w10 hb10 hk10
        try simp only [Bool.not_eq_true', Bool.not_eq_false', decide_eq_true_eq, decide_eq_false_iff_not] at h11
        exact ⟨by simp only [badM, holeB]; (repeat' split) <;> first | (exfalso; omega) | contradiction | rfl | (refine congrArg (fun b => Ending.returned (Value.tuple #[_, _, Value.bool b])) ?_; rw [Bool.eq_iff_iff]; simp only [decide_eq_true_eq, Bool.false_eq_true, false_iff]; omega), hb10⟩
    · intro h12
      try simp only [decide_eq_false_iff_not] at h12
      refine ⟨?_, ?_⟩
      · intro h13 w11 hb11 hk11
        try simp only [Bool.not_eq_true', Bool.not_eq_false', decide_eq_true_eq, decide_eq_false_iff_not] at h13
        exact ⟨by simp only [badM, holeB]; (repeat' split) <;> first | (exfalso; omega) | contradiction | rfl | (refine congrArg (fun b => Ending.returned (Value.tuple #[_, _, Value.bool b])) ?_; rw [Bool.eq_iff_iff]; simp only [decide_eq_true_eq]; omega), hb11⟩
      · intro h14 w12 hb12 hk12
        try simp only [Bool.not_eq_true', Bool.not_eq_false', decide_eq_true_eq, decide_eq_false_iff_not] at h14
        exact ⟨by simp only [badM, holeB]; (repeat' split) <;> first | (exfalso; omega) | contradiction | rfl | (refine congrArg (fun b => Ending.returned (Value.tuple #[_, _, Value.bool b])) ?_; rw [Bool.eq_iff_iff]; simp only [decide_eq_true_eq, Bool.false_eq_true, false_iff]; omega), hb12⟩

set_option maxRecDepth 100000 in
theorem pcheck_any {w : World} {W : Wk} {pa fa : Option Addr} {pc fc : Nat} (x : Piece) {sa : Option Addr} {sc : Nat} (hs : Cells w sa (ints x.sizes)) (hx : x.sizes.length ≤ 17592186044000) (hp : CellsS w pa W.pats) (hS : Small W) : Calls Try.prog 58 #[W.v pa pc fa fc, .agg #[I x.pat, .slice sa x.sizes.length sc]] w (Pure w (I (pieceErr W x))) := by
  have hl := hS.n; have hl2 : (W.pats.getD x.pat.toNat []).length ≤ 1000 := hS.pat x.pat
  refine vc58 _ _ _ _ _ _ _ _ _ _ w _ ?_
  intro m1 g_m1 m2 g_m2
  refine ⟨(by first | omega | (simp only; omega)), ?_⟩
  intro m3 g_m3 w1 hb1 hk1 hc1_m3
  refine Pure.calls (in1_any hc1_m3) fun w2 hd2 => ?_
  have hb2 := hb1.trans (hd2.mono hb1.size)
  refine ⟨_, rfl, .all hd2, ?_, ?_⟩
  · intro h1 w3 hb3 hk3
    try simp only [Bool.not_eq_true', decide_eq_false_iff_not] at h1
    exact ⟨by rw [show pieceErr W x = 7 by unfold pieceErr; grind], hb3⟩
  · intro h2
    try simp only [Bool.not_eq_false', decide_eq_true_eq] at h2
    refine load_pat hp hb2 (by omega) fun m6 m7 hm1 a1 m9 hs1 => ?_
    refine ⟨(by first | omega | (simp only; omega)), ?_, ?_⟩
    · intro h3 w4 hb4 hk4
      try simp only [Bool.not_eq_true', Bool.not_eq_false', decide_eq_true_eq, decide_eq_false_iff_not] at h3
      exact ⟨by rw [show pieceErr W x = 4 by unfold pieceErr; grind], hb4⟩
    · intro h4 w5 hb5 hk5
      try simp only [Bool.not_eq_true', Bool.not_eq_false', decide_eq_true_eq, decide_eq_false_iff_not] at h4
      refine Pure.calls (by have := within_any (a := 0) (b := 1000000) (c := sc) (hs.keep hb5) (by omega); rw [all_dec] at this; exact this) fun w6 hd6 => ?_
      have hb6 := hb5.trans (hd6.mono hb5.size)
      refine ⟨_, rfl, .all hd6, ?_, ?_⟩
      · intro h5 w7 hb7 hk7
        try simp only [Bool.not_eq_true', decide_eq_false_iff_not] at h5
        exact ⟨by rw [show pieceErr W x = 3 by unfold pieceErr; grind], hb7⟩
      · intro h6 w8 hb8 hk8
        try simp only [Bool.not_eq_false', decide_eq_true_eq] at h6
        exact ⟨by rw [show pieceErr W x = 0 by unfold pieceErr; grind], hb8⟩

theorem isGood_any {w : World} {W : Wk} {pa fa : Option Addr} {pc fc : Nat} (x : Piece) {sa : Option Addr} {sc : Nat} (hs : Cells w sa (ints x.sizes)) (hx : x.sizes.length ≤ 17592186044000) (hp : CellsS w pa W.pats) (hS : Small W) (hpat : 0 ≤ x.pat ∧ x.pat < W.pats.length) (hlen : x.sizes.length = (W.pat x.pat).length) : Calls Try.prog 59 #[W.v pa pc fa fc, .agg #[I x.pat, .slice sa x.sizes.length sc]] w (Pure w (.bool (decide (goodM W x)))) := by
  have hlen2 : x.sizes.length = (W.pats.getD x.pat.toNat []).length := hlen
  refine vc59 _ _ _ _ _ _ _ _ _ _ w _ ?_
  intro m1 g_m1 m2 g_m2
  refine load_pat hp (.refl _ _) (by omega) fun m3 m4 hm1 a1 m6 hs1 => ?_
  refine ⟨(by first | omega | (simp only; omega)), ?_⟩
  refine ⟨fun ls _ => match ls with | [.bool _, .int _ x1] => 0 ≤ x1 ∧ x1 ≤ x.sizes.length ∧ ∀ j : Nat, j < x1.toNat → ((W.pat x.pat).getD j (0, 0)).1 ≤ x.sizes.getD j 0 ∧ x.sizes.getD j 0 ≤ ((W.pat x.pat).getD j (0, 0)).2 | _ => False, fun ls => match ls with | [_, .int _ ii] => (x.sizes.length - ii).toNat | _ => 0, ?_, ?_⟩
  · intro w2 hb2 hk2
    exact ⟨by omega, by omega, fun j hj => by omega⟩
  rintro t1 x1 w3 hb3 ⟨x0, xl, hall⟩
  refine ⟨?_, ?_⟩
  · intro h1
    try simp only [Bool.not_eq_true', Bool.not_eq_false', decide_eq_true_eq, decide_eq_false_iff_not] at h1
    refine load_span hs1 hb3 (by omega) fun m7 m8 hm2 => ?_
    refine ⟨(by first | omega | (simp only; omega)), ?_⟩
    intro m9 g_m9
    refine load_int hs hb3 (by omega) fun m10 m11 hm3 => ?_
    refine ⟨(by first | omega | (simp only; omega)), ?_⟩
    intro m12 g_m12 w4 hb4 hk4 hc4_m12
    refine Pure.calls (in1_any hc4_m12) fun w5 hd5 => ?_
    have hb5 := hb4.trans (hd5.mono hb4.size)
    refine ⟨_, rfl, .all hd5, ?_, ?_⟩
    · intro h2 w6 hb6 hk6
      try simp only [Bool.not_eq_true', decide_eq_false_iff_not] at h2
      exact ⟨by congr 2; rw [Bool.eq_iff_iff]; simp only [decide_eq_true_eq, Bool.false_eq_true]; unfold goodM; grind, hb6⟩
    · intro h3
      try simp only [Bool.not_eq_false', decide_eq_true_eq] at h3
      refine ⟨(by first | omega | (simp only; omega)), ?_⟩
      intro w7 hb7 hk7
      refine ⟨?_, (by first | omega | (simp only; omega))⟩
      exact ⟨by omega, by omega, all_step x0 hall (by assumption)⟩
  · intro h4 w8 hb8 hk8
    try simp only [Bool.not_eq_true', Bool.not_eq_false', decide_eq_true_eq, decide_eq_false_iff_not] at h4
    exact ⟨by congr 2; rw [Bool.eq_iff_iff]; simp only [decide_eq_true_eq]; unfold goodM; grind, hb8⟩

theorem Good_any {w : World} {W : Wk} {pa fa : Option Addr} {pc fc : Nat} (x : Piece) {sa : Option Addr} {sc : Nat} (hs : Cells w sa (ints x.sizes)) (hx : x.sizes.length ≤ 17592186044000) (hp : CellsS w pa W.pats) (hf : Cells w fa (fitsV W.fits)) (hS : Small W) : Calls Try.prog 23 #[W.v pa pc fa fc, .agg #[I x.pat, .slice sa x.sizes.length sc]] w (Pure w (.tuple #[.bool (GoodM W x).1, I (GoodM W x).2])) := by
  refine vc23 _ _ _ _ _ _ _ _ _ _ w _ ?_
  intro m1 g_m1 m2 g_m2 w1 hb1 hk1
  refine Pure.calls (check_any (hp.keep hb1) (hf.keep hb1) hS) fun w2 hd2 => ?_
  have hb2 := hb1.trans (hd2.mono hb1.size)
  refine ⟨_, rfl, .all hd2, ?_, ?_⟩
  · intro h1 w3 hb3 hk3
    try simp only [Bool.not_eq_true', Bool.not_eq_false', decide_eq_true_eq, decide_eq_false_iff_not] at h1
    exact ⟨by unfold GoodM; simp [*], hb3⟩
  · intro h2 w4 hb4 hk4
    try simp only [Bool.not_eq_true', Bool.not_eq_false', decide_eq_true_eq, decide_eq_false_iff_not] at h2
    refine Pure.calls (pcheck_any x (hs.keep hb4) hx (hp.keep hb4) hS) fun w5 hd5 => ?_
    have hb5 := hb4.trans (hd5.mono hb4.size)
    refine ⟨_, rfl, .all hd5, ?_, ?_⟩
    · intro h3 w6 hb6 hk6
      try simp only [Bool.not_eq_true', Bool.not_eq_false', decide_eq_true_eq, decide_eq_false_iff_not] at h3
      exact ⟨by unfold GoodM; simp [*], hb6⟩
    · intro h4 w7 hb7 hk7
      try simp only [Bool.not_eq_true', Bool.not_eq_false', decide_eq_true_eq, decide_eq_false_iff_not] at h4
      refine Pure.calls (isGood_any x (hs.keep hb7) hx (hp.keep hb7) hS (pieceErr_ok h4).1 (pieceErr_ok h4).2.1) fun w8 hd8 => ?_
      have hb8 := hb7.trans (hd8.mono hb7.size)
      refine ⟨_, rfl, .all hd8, ?_⟩
      intro w9 hb9 hk9
      exact ⟨by unfold GoodM; simp [*], hb9⟩

theorem gauge_any {w : World} {W : Wk} {pa fa : Option Addr} {pc fc : Nat} (p s : Int) (er : Sp) (hp : CellsS w pa W.pats) (hf : Cells w fa (fitsV W.fits)) (hS : Small W) : Calls Try.prog 24 #[W.v pa pc fa fc, I p, I s, spv er] w (Pure w (.tuple #[spv (gaugeM W p s er).1, spv (gaugeM W p s er).2.1, I (gaugeM W p s er).2.2])) := by
  refine vc24 _ _ _ _ _ _ _ _ _ _ w _ ?_
  intro m1 g_m1 m2 g_m2 m3 g_m3 m4 g_m4 w1 hb1 hk1
  refine Pure.calls (check_any (hp.keep hb1) (hf.keep hb1) hS) fun w2 hd2 => ?_
  have hb2 := hb1.trans (hd2.mono hb1.size)
  refine ⟨_, rfl, .all hd2, ?_, ?_⟩
  · intro h1 w3 hb3 hk3
    try simp only [Bool.not_eq_true', Bool.not_eq_false', decide_eq_true_eq, decide_eq_false_iff_not] at h1
    exact ⟨by rw [gaugeM_a (by first | assumption | exact checkE_ne.1 (by assumption))], hb3⟩
  · intro h2 w4 hb4 hk4
    try simp only [Bool.not_eq_true', Bool.not_eq_false', decide_eq_true_eq, decide_eq_false_iff_not] at h2
    refine Pure.calls (isSize_any _ _ (hp.keep hb4) hS) fun w5 hd5 => ?_
    have hb5 := hb4.trans (hd5.mono hb4.size)
    refine ⟨_, rfl, .all hd5, ?_, ?_⟩
    · intro h3 w6 hb6 hk6
      try simp only [Bool.not_eq_true', decide_eq_false_iff_not] at h3
      exact ⟨by rw [gaugeM_b (by first | assumption | exact checkE_ok.1 (by assumption)) (by assumption)], hb6⟩
    · intro h4 w7 hb7 hk7
      try simp only [Bool.not_eq_false', decide_eq_true_eq] at h4
      refine Pure.calls (isSpan_any er _ _ _) fun w8 hd8 => ?_
      have hb8 := hb7.trans (hd8.mono hb7.size)
      refine ⟨_, rfl, .all hd8, ?_, ?_⟩
      · intro h5 w9 hb9 hk9
        try simp only [Bool.not_eq_true', decide_eq_false_iff_not] at h5
        exact ⟨by rw [gaugeM_c (by first | assumption | exact checkE_ok.1 (by assumption)) (by assumption) (by assumption)], hb9⟩
      · intro h6
        try simp only [Bool.not_eq_false', decide_eq_true_eq] at h6
        refine load_pat hp hb8 (by exact (‹okSize W p s› : _).1) fun m8 m9 hm1 a1 m11 hs1 => ?_
        refine ⟨(by first | omega | (simp only; omega)), ?_⟩
        refine load_span hs1 hb8 (by exact (‹okSize W p s› : _).2) fun m12 m13 hm2 => ?_
        have hW : OkW W := by first | assumption | exact checkE_ok.1 (by assumption)
        have hq := OkW.pat hW (p := p) (s := s) (by assumption)
        have he : okS er (-1000) 1000 := by assumption
        have hz : okSize W p s := by assumption
        unfold okS at hq
        refine ⟨(by first | omega | (simp only; omega)), ?_⟩
        intro m14 g_m14
        refine ⟨(by first | omega | (simp only; omega)), (by first | omega | (simp only; omega)), ?_, ?_⟩
        · intro h7 w10 hb10 hk10
          try simp only [Bool.not_eq_true', Bool.not_eq_false', decide_eq_true_eq, decide_eq_false_iff_not] at h7
          exact ⟨by unfold gaugeM; rw [if_neg (by simpa using hW), if_neg (by simpa using hz), if_neg (by simpa using he)]; simp only []; (first | rw [if_pos (by omega)] | rw [if_neg (by omega)]), hb10⟩
        · intro h8
          try simp only [Bool.not_eq_true', Bool.not_eq_false', decide_eq_true_eq, decide_eq_false_iff_not] at h8
          refine ⟨(by first | omega | (simp only; omega)), (by first | omega | (simp only; omega)), (by first | omega | (simp only; omega)), (by first | omega | (simp only; omega)), ?_⟩
          intro w11 hb11 hk11
          exact ⟨by unfold gaugeM; rw [if_neg (by simpa using hW), if_neg (by simpa using hz), if_neg (by simpa using he)]; simp only []; (first | rw [if_pos (by omega)] | rw [if_neg (by omega)]), hb11⟩

theorem isValid_any {w : World} (x : Con) : Calls Try.prog 71 #[x.v] w (Pure w (.bool (decide (okCon x)))) := by
  refine vc71 _ _ _ w _ ?_
  intro m1 g_m1 m2 g_m2 w1 hb1 hk1 hc1_m2
  refine Pure.calls (in1_any hc1_m2) fun w2 hd2 => ?_
  have hb2 := hb1.trans (hd2.mono hb1.size)
  refine ⟨_, rfl, .all hd2, ?_, ?_⟩
  · intro h1 m5 g_m5 w3 hb3 hk3 hc3_m5
    try simp only [decide_eq_true_eq] at h1
    refine Pure.calls (within_any (l := [x.frm, x.to]) (Cells.obj (vs := [I x.frm, I x.to]) hc3_m5) (by simp)) fun w4 hd4 => ?_
    have hb4 := hb3.trans (hd4.mono hb3.size)
    refine ⟨_, rfl, .all hd4, ?_, ?_⟩
    · intro h2 w5 hb5 hk5
      try simp only [Bool.not_eq_true', Bool.not_eq_false', decide_eq_true_eq, decide_eq_false_iff_not] at h2
      exact ⟨by congr 2; rw [Bool.eq_iff_iff]; unfold okCon; simp only [decide_eq_true_eq, List.all_cons, List.all_nil, Bool.and_true, Bool.and_eq_true] at *; grind, hb5⟩
    · intro h3 w6 hb6 hk6
      try simp only [Bool.not_eq_true', Bool.not_eq_false', decide_eq_true_eq, decide_eq_false_iff_not] at h3
      exact ⟨by congr 2; rw [Bool.eq_iff_iff]; unfold okCon; simp only [Bool.false_eq_true, List.all_cons, List.all_nil, Bool.and_true] at *; grind, hb6⟩
  · intro h4 w7 hb7 hk7
    try simp only [decide_eq_false_iff_not] at h4
    exact ⟨by congr 2; rw [Bool.eq_iff_iff]; unfold okCon; simp only [Bool.false_eq_true] at *; grind, hb7⟩

theorem noCon_any {w : World} (x : Con) : Calls Try.prog 70 #[x.v] w (Pure w (.bool (!decide (okCon x)))) := by
  refine vc70 _ _ _ w _ ?_
  intro m1 g_m1 w1 hb1 hk1
  refine Pure.calls (isValid_any x) fun w2 hd2 => ?_
  have hb2 := hb1.trans (hd2.mono hb1.size)
  refine ⟨_, rfl, .all hd2, ?_⟩
  intro w3 hb3 hk3
  exact ⟨by rfl, hb3⟩

theorem most_any {w : World} (x : Con) (y l : Int) (hc : okCon x) (hy : 0 ≤ y ∧ y ≤ 1000) (hl : 1 ≤ l) : Calls Try.prog 74 #[x.v, I y, I l] w (Pure w (I (mostM x y l))) := by
  unfold okCon at hc
  have hq := most_bd (a := min y x.to - 1 - x.frm) hl
  have hq2 := most_mul hc.1 trivial (most_bd2 (a := min y x.to - 1 - x.frm) hl (by omega))
  refine vc74 _ _ _ _ _ w _ ?_
  intro m1 g_m1
  refine ⟨(by first | omega | (simp only; omega)), (by first | omega | (simp only; omega)), (by first | omega | (simp only; omega)), (by first | omega | (simp only; omega)), ?_⟩
  intro w1 hb1 hk1
  exact ⟨by rfl, hb1⟩

set_option maxRecDepth 100000 in
theorem areOrders_any {w : World} {l : List Int} {a : Option Addr} {c : Nat} (hc : Cells w a (ints l)) (hl : l.length ≤ 1000) : Calls Try.prog 72 #[.slice a l.length c] w (Pure w (.bool (decide (okOrd l)))) := by
  refine vc72 _ _ _ w _ ?_
  refine ⟨fun ls _ => match ls with | [.bool _, .int _ x1] => 0 ≤ x1 ∧ x1 ≤ l.length ∧ ∀ j : Nat, j < x1.toNat → (0 < j → l.getD (j - 1) 0 < l.getD j 0) | _ => False, fun ls => match ls with | [_, .int _ ii] => (l.length - ii).toNat | _ => 0, ?_, ?_⟩
  · intro w2 hb2 hk2
    exact ⟨by omega, by omega, fun j hj => by omega⟩
  rintro t1 x1 w3 hb3 ⟨x0, xl, hall⟩
  refine ⟨?_, ?_⟩
  · intro h1
    try simp only [Bool.not_eq_true', Bool.not_eq_false', decide_eq_true_eq, decide_eq_false_iff_not] at h1
    refine load_int hc hb3 (by omega) fun m1 m2 hm1 => ?_
    refine ⟨?_, ?_⟩
    · intro h2
      try simp only [Bool.not_eq_true', Bool.not_eq_false', decide_eq_true_eq, decide_eq_false_iff_not] at h2
      refine ⟨(by first | omega | (simp only; omega)), ?_⟩
      refine load_int hc hb3 (by omega) fun m3 m4 hm2 => ?_
      refine ⟨?_, ?_⟩
      · intro h3 w4 hb4 hk4
        try simp only [Bool.not_eq_true', Bool.not_eq_false', decide_eq_true_eq, decide_eq_false_iff_not] at h3
        exact ⟨by congr 2; rw [eq_comm, decide_eq_false_iff_not]; intro hh; have h9 := hh.1 x1.toNat (by omega) (by omega); rw [show x1.toNat - 1 = (x1 - 1).toNat by omega] at h9; omega, hb4⟩
      · intro h4
        try simp only [Bool.not_eq_true', Bool.not_eq_false', decide_eq_true_eq, decide_eq_false_iff_not] at h4
        refine ⟨(by first | omega | (simp only; omega)), ?_⟩
        intro w5 hb5 hk5
        refine ⟨?_, (by first | omega | (simp only; omega))⟩
        exact ⟨by omega, by omega, all_step x0 hall (fun _ => by rw [show x1.toNat - 1 = (x1 - 1).toNat by omega]; assumption)⟩
    · intro h5
      try simp only [Bool.not_eq_true', Bool.not_eq_false', decide_eq_true_eq, decide_eq_false_iff_not] at h5
      refine ⟨(by first | omega | (simp only; omega)), ?_⟩
      intro w6 hb6 hk6
      refine ⟨?_, (by first | omega | (simp only; omega))⟩
      exact ⟨by omega, by omega, all_step x0 hall (fun hh => by omega)⟩
  · intro h6
    try simp only [Bool.not_eq_true', Bool.not_eq_false', decide_eq_true_eq, decide_eq_false_iff_not] at h6
    refine ⟨?_, ?_⟩
    · intro h7 w7 hb7 hk7
      try simp only [Bool.not_eq_true', Bool.not_eq_false', decide_eq_true_eq, decide_eq_false_iff_not] at h7
      refine Pure.calls (by have := within_any (a := 0) (b := 200) (c := c) (hc.keep hb7) (by omega); rw [all_dec] at this; exact this) fun w8 hd8 => ?_
      have hb8 := hb7.trans (hd8.mono hb7.size)
      refine ⟨_, rfl, .all hd8, ?_⟩
      intro w9 hb9 hk9
      exact ⟨by congr 2; rw [decide_eq_decide]; exact ⟨fun hh => ⟨fun j hj => hall j (by omega), by omega, hh⟩, fun hh => hh.2.2⟩, hb9⟩
    · intro h8 w10 hb10 hk10
      try simp only [Bool.not_eq_true', Bool.not_eq_false', decide_eq_true_eq, decide_eq_false_iff_not] at h8
      exact ⟨by congr 2; rw [eq_comm, decide_eq_false_iff_not]; intro hh; have h9 := hh.2.1; omega, hb10⟩
end Go.Proofs.R12
end
section
/- The conditions of the functions, printed by program; each is what the generator reckons (kernel_rfl). -/
namespace Go.Proofs
open Go.Vc
set_option maxRecDepth 100000 in
set_option maxHeartbeats 2000000 in
theorem vc15 (p0w0a : Option Addr) (p0w0n : Nat) (p0w0c : Nat) (p0w1a : Option Addr) (p0w1n : Nat) (p0w1c : Nat) (w : World) (R : Ending → World → Prop) (h : ∀ (m1 : Nat),
    w.heap.size ≤ m1 → ∀ (m2 : Nat), w.heap.size ≤ m2 → ∀ (m3 : Nat), w.heap.size ≤ m3 → ∀ (w1 : World), RowKit.Below w.heap.size w w1 → Kept [m3, m2, m1] w w1 → w1.heap[m3]? =
    some (Obj.cells #[] 67) → RunsTo Try.prog (Builtin.append_ #[23, 23] 23 #[Value.slice (some { block := m3, off := 0 }) 0 0, Value.slice p0w1a p0w1n p0w1c]) w1 fun (v1 : Value)
    (w2 : World) => ∃ (a1 : Option Addr), ∃ (m5 : Nat), ∃ (m6 : Nat), v1 = Value.slice a1 m5 m6 ∧ KeepX true w.heap.size [m3, m2, m1] (fun _ => False) w1 w2 ∧ ∀ (m8 : Nat),
    w2.heap.size ≤ m8 → ∃ (F1 : List Lf → World → Prop), ∃ (F2 : List Lf → Nat), (∀ (w4 : World), RowKit.Below w.heap.size w w4 → Kept [m3, m8, m2, m1] w2 w4 → F1 [Lf.int
    IntKind.i64 0, Lf.sl none 0 0, Lf.sl a1 m5 m6] w4) ∧ ∀ (x1 : Int) (a2 : Option Addr) (m9 m10 : Nat) (a3 : Option Addr) (m11 m12 : Nat) (w5 : World), RowKit.Below w.heap.size w
    w5 → F1 [Lf.int IntKind.i64 x1, Lf.sl a2 m9 m10, Lf.sl a3 m11 m12] w5 → (x1 < (↑p0w0n : Int) → ∀ (m13 : Nat), w5.heap.size ≤ m13 → ∃ (m14 : Nat), ∃ (m15 : Nat), p0w0a = some
    { block := m14, off := m15 } ∧ (0 ≤ x1 ∧ x1 < (↑p0w0n : Int)) ∧ ∃ (a4 : Option Addr), ∃ (m16 : Nat), ∃ (m17 : Nat), w5.cell? { block := m14, off := m15 + x1.toNat * 1 } = some
    (Value.slice a4 m16 m17) ∧ (m14 < w.heap.size ∨ m14 ≠ m13 ∧ m14 ≠ m3 ∧ m14 ≠ m8 ∧ m14 ≠ m2 ∧ m14 ≠ m1) ∧ ∀ (w6 : World), RowKit.Below w.heap.size w w6 → KeptIn [(0,
    w5.heap.size)] [m13, m3, m8, m2, m1] w5 w6 → w6.heap[m13]? = some (Obj.cells #[] 42) → RunsTo Try.prog (Builtin.append_ #[89, 89] 89 #[Value.slice (some
    { block := m13, off := 0 }) 0 0, Value.slice a4 m16 m17]) w6 fun (v2 : Value) (w7 : World) => ∃ (a5 : Option Addr), ∃ (m19 : Nat), ∃ (m20 : Nat), v2 = Value.slice a5 m19 m20 ∧
    KeepX true w.heap.size [m13, m3, m8, m2, m1] (fun _ => False) w6 w7 ∧ ∀ (m22 : Nat), w7.heap.size ≤ m22 → ∀ (w8 : World), RowKit.Below w.heap.size w w8 → KeptIn [(0,
    w7.heap.size)] [m22, m13, m3, m8, m2, m1] w7 w8 → w8.heap[m22]? = some (Obj.cells #[Value.slice a5 m19 m20] 89) → RunsTo Try.prog (Builtin.append_ #[22, 22] 22 #[Value.slice a2
    m9 m10, Value.slice (some { block := m22, off := 0 }) 1 1]) w8 fun (v3 : Value) (w9 : World) => ∃ (a6 : Option Addr), ∃ (m24 : Nat), ∃ (m25 : Nat), v3 = Value.slice a6 m24 m25
    ∧ KeepX true w.heap.size [m22, m13, m3, m8, m2, m1] (fun _ => False) w8 w9 ∧ (-9223372036854775808 ≤ x1 + 1 ∧ x1 + (1 : Int) ≤ 9223372036854775807) ∧ ∀ (w10 : World),
    RowKit.Below w.heap.size w w10 → Kept [m22, m13, m3, m8, m2, m1] w9 w10 → F1 [Lf.int IntKind.i64 (x1 + 1), Lf.sl a6 m24 m25, Lf.sl a3 m11 m12] w10 ∧ F2 [Lf.int IntKind.i64 (x1
    + 1), Lf.sl a6 m24 m25, Lf.sl a3 m11 m12] < F2 [Lf.int IntKind.i64 x1, Lf.sl a2 m9 m10, Lf.sl a3 m11 m12]) ∧ ((↑p0w0n : Int) ≤ x1 → ∀ (w11 : World), RowKit.Below w.heap.size w
    w11 → Kept [m3, m8, m2, m1] w5 w11 → R (Ending.returned (Value.agg #[Value.slice a2 m9 m10, Value.slice a3 m11 m12])) w11)) : Calls Try.prog 15 #[Value.agg #[Value.slice p0w0a
    p0w0n p0w0c, Value.slice p0w1a p0w1n p0w1c]] w R := calls_of_vc (pure := true) (wrapAt := []) (muts := [3]) (esc := []) (args := [SV.pv (PV.agg [Lf.sl p0w0a p0w0n p0w0c, Lf.sl
    p0w1a p0w1n p0w1c])]) (vs := [Value.agg #[Value.slice p0w0a p0w0n p0w0c, Value.slice p0w1a p0w1n p0w1c]]) Try.func15 rfl rfl rfl (Eq.mp (by kernel_rfl) h) 
set_option maxRecDepth 100000 in
set_option maxHeartbeats 2000000 in
theorem vc75 (sa : Option Addr) (sn : Nat) (sc : Nat) (w : World) (R : Ending → World → Prop) (h : ∀ (w1 : World), RowKit.Below w.heap.size w w1 → Kept [] w w1 → RunsTo Try.prog
    ((eqGuard BinOp.eql 38 (Operand.tmp 3) (Operand.const (Value.slice none 0 0)) (Value.slice sa sn sc) (Value.slice none 0 0)) >>= fun _ => binOp BinOp.eql 38 (Value.slice sa sn
    sc) (Value.slice none 0 0)) w1 fun (v1 : Value) (w2 : World) => ∃ (t1 : Bool), v1 = Value.bool t1 ∧ KeepX true w.heap.size [] (fun _ => False) w1 w2 ∧ (t1 = true → ∀ (w3 :
    World), RowKit.Below w.heap.size w w3 → Kept [] w2 w3 → R (Ending.returned (Value.slice none 0 0)) w3) ∧ (t1 = false → ∀ (m2 : Nat), w2.heap.size ≤ m2 → ∀ (w4 : World),
    RowKit.Below w.heap.size w w4 → Kept [m2] w2 w4 → w4.heap[m2]? = some (Obj.cells #[] 3) → RunsTo Try.prog (Builtin.append_ #[38, 38] 38 #[Value.slice (some
    { block := m2, off := 0 }) 0 0, Value.slice sa sn sc]) w4 fun (v2 : Value) (w5 : World) => ∃ (a1 : Option Addr), ∃ (m4 : Nat), ∃ (m5 : Nat), v2 = Value.slice a1 m4 m5 ∧ KeepX
    true w.heap.size [m2] (fun _ => False) w4 w5 ∧ ∀ (w6 : World), RowKit.Below w.heap.size w w6 → Kept [m2] w5 w6 → R (Ending.returned (Value.slice a1 m4 m5)) w6)) : Calls
    Try.prog 75 #[Value.slice sa sn sc] w R := calls_of_vc (pure := true) (wrapAt := []) (muts := []) (esc := []) (args := [SV.pv (PV.one (Lf.sl sa sn sc))]) (vs := [Value.slice sa
    sn sc]) Try.func75 rfl rfl rfl (Eq.mp (by kernel_rfl) h) 
set_option maxRecDepth 100000 in
set_option maxHeartbeats 2000000 in
theorem vc38 (life0 : Int) (life1 : Int) (la : Option Addr) (ln : Nat) (lc : Nat) (ordersa : Option Addr) (ordersn : Nat) (ordersc : Nat) (w : World) (R : Ending → World → Prop) (h
    : ∀ (m1 : Nat), w.heap.size ≤ m1 → ∀ (m2 : Nat), w.heap.size ≤ m2 → ∀ (w1 : World), RowKit.Below w.heap.size w w1 → Kept [m2, m1] w w1 → Calls Try.prog 61 #[Value.agg
    #[Value.int IntKind.i64 life0, Value.int IntKind.i64 life1], Value.int IntKind.i64 1, Value.int IntKind.i64 200] w1 fun (e1 : Ending) (w2 : World) => ∃ (t1 : Bool), e1 =
    Ending.returned (Value.bool t1) ∧ KeepX true w.heap.size [m2, m1] (fun _ => False) w1 w2 ∧ ((!t1) = true → ∀ (w3 : World), RowKit.Below w.heap.size w w3 → Kept [m2, m1] w2 w3 →
    R (Ending.returned (Value.tuple #[Value.slice none 0 0, Value.int IntKind.i64 3])) w3) ∧ ((!t1) = false → (50 < (↑ln : Int) → (50 < (↑ln : Int) → ∀ (w4 : World), RowKit.Below
    w.heap.size w w4 → Kept [m2, m1] w2 w4 → R (Ending.returned (Value.tuple #[Value.slice none 0 0, Value.int IntKind.i64 5])) w4) ∧ ((↑ln : Int) ≤ 50 → ∀ (w5 : World),
    RowKit.Below w.heap.size w w5 → Kept [m2, m1] w2 w5 → Calls Try.prog 69 #[Value.slice la ln lc, Value.func (Fn.func 70) #[] #[]] w5 fun (e2 : Ending) (w6 : World) => ∃ (t2 :
    Bool), e2 = Ending.returned (Value.bool t2) ∧ KeepX true w.heap.size [m2, m1] (fun _ => False) w5 w6 ∧ (t2 = true → ∀ (w7 : World), RowKit.Below w.heap.size w w7 → Kept [m2,
    m1] w6 w7 → R (Ending.returned (Value.tuple #[Value.slice none 0 0, Value.int IntKind.i64 2])) w7) ∧ (t2 = false → ∀ (w8 : World), RowKit.Below w.heap.size w w8 → Kept [m2, m1]
    w6 w8 → Calls Try.prog 72 #[Value.slice ordersa ordersn ordersc] w8 fun (e3 : Ending) (w9 : World) => ∃ (t3 : Bool), e3 = Ending.returned (Value.bool t3) ∧ KeepX true
    w.heap.size [m2, m1] (fun _ => False) w8 w9 ∧ ((!t3) = true → ∀ (w10 : World), RowKit.Below w.heap.size w w10 → Kept [m2, m1] w9 w10 → R (Ending.returned (Value.tuple
    #[Value.slice none 0 0, Value.int IntKind.i64 4])) w10) ∧ ((!t3) = false → ∃ (m6 : Nat), ∃ (m7 : Nat), ordersa = some { block := m6, off := m7 } ∧ ((0 : Int) ≤ 0 ∧ 0 <
    (↑ordersn : Int)) ∧ ∃ (x1 : Int), w9.cell? { block := m6, off := m7 + Int.toNat 0 * 1 } = some (Value.int IntKind.i64 x1) ∧ (m6 < w.heap.size ∨ m6 ≠ m2 ∧ m6 ≠ m1) ∧ ∀ (w11 :
    World), RowKit.Below w.heap.size w w11 → Kept [m2, m1] w9 w11 → w11.heap[m2]? = some (Obj.cells #[Value.slice la ln lc] 77) → w11.heap[m1]? = some (Obj.cells #[Value.int
    IntKind.i64 life0, Value.int IntKind.i64 life1] 42) → Calls Try.prog 73 #[Value.int IntKind.i64 x1, Value.pointer (some { block := m2, off := 0 }), Value.pointer (some
    { block := m1, off := 0 })] w11 fun (e4 : Ending) (w12 : World) => ∃ (x2 : Int), e4 = Ending.returned (Value.int IntKind.i64 x2) ∧ KeepX true w.heap.size [m2, m1] (fun _ =>
    False) w11 w12 ∧ (0 < x2 → ∀ (w13 : World), RowKit.Below w.heap.size w w13 → Kept [m2, m1] w12 w13 → R (Ending.returned (Value.tuple #[Value.slice none 0 0, Value.int
    IntKind.i64 9])) w13) ∧ (x2 ≤ 0 → ((0 : Int) ≤ 1 ∧ 1 ≤ (↑ordersn : Int)) ∧ ∀ (w14 : World), RowKit.Below w.heap.size w w14 → Kept [m2, m1] w12 w14 → Calls Try.prog 75
    #[Value.slice (subA ordersa ordersc (Int.toNat 1) 1) (ordersn - Int.toNat 1) (ordersc - Int.toNat 1)] w14 fun (e5 : Ending) (w15 : World) => ∃ (a1 : Option Addr), ∃ (m11 :
    Nat), ∃ (m12 : Nat), e5 = Ending.returned (Value.slice a1 m11 m12) ∧ KeepX true w.heap.size [m2, m1] (fun _ => False) w14 w15 ∧ ∀ (m14 : Nat), w15.heap.size ≤ m14 → ∀ (w16 :
    World), RowKit.Below w.heap.size w w16 → Kept [m14, m2, m1] w15 w16 → w16.heap[m14]? = some (Obj.cells #[Value.int IntKind.i64 201] 3) → RunsTo Try.prog (Builtin.append_ #[38,
    38] 38 #[Value.slice a1 m11 m12, Value.slice (some { block := m14, off := 0 }) 1 1]) w16 fun (v1 : Value) (w17 : World) => ∃ (a2 : Option Addr), ∃ (m16 : Nat), ∃ (m17 : Nat),
    v1 = Value.slice a2 m16 m17 ∧ KeepX true w.heap.size [m14, m2, m1] (fun _ => False) w16 w17 ∧ ∃ (F1 : List Lf → World → Prop), ∃ (F2 : List Lf → Nat), (∀ (w19 : World),
    RowKit.Below w.heap.size w w19 → Kept [m14, m2, m1] w17 w19 → F1 [Lf.sl none 0 0, Lf.int IntKind.i64 0, Lf.int IntKind.i64 0] w19) ∧ ∀ (a3 : Option Addr) (m19 m20 : Nat) (x3 x4
    : Int) (w20 : World), RowKit.Below w.heap.size w w20 → F1 [Lf.sl a3 m19 m20, Lf.int IntKind.i64 x3, Lf.int IntKind.i64 x4] w20 → (x4 < (↑m16 : Int) → ∃ (m21 : Nat), ∃ (m22 :
    Nat), a2 = some { block := m21, off := m22 } ∧ (0 ≤ x4 ∧ x4 < (↑m16 : Int)) ∧ ∃ (x5 : Int), w20.cell? { block := m21, off := m22 + x4.toNat * 1 } = some (Value.int IntKind.i64
    x5) ∧ (m21 < w.heap.size ∨ m21 ≠ m14 ∧ m21 ≠ m2 ∧ m21 ≠ m1) ∧ ∀ (w21 : World), RowKit.Below w.heap.size w w21 → Kept [m14, m2, m1] w20 w21 → w21.heap[m2]? = some (Obj.cells
    #[Value.slice la ln lc] 77) → w21.heap[m1]? = some (Obj.cells #[Value.int IntKind.i64 life0, Value.int IntKind.i64 life1] 42) → Calls Try.prog 73 #[Value.int IntKind.i64 x5,
    Value.pointer (some { block := m2, off := 0 }), Value.pointer (some { block := m1, off := 0 })] w21 fun (e6 : Ending) (w22 : World) => ∃ (x6 : Int), e6 = Ending.returned
    (Value.int IntKind.i64 x6) ∧ KeepX true w.heap.size [m14, m2, m1] (fun _ => False) w21 w22 ∧ (-9223372036854775808 ≤ x6 - x3 ∧ x6 - x3 ≤ 9223372036854775807) ∧ ∀ (m26 : Nat),
    w22.heap.size ≤ m26 → ∀ (w23 : World), RowKit.Below w.heap.size w w23 → Kept [m26, m14, m2, m1] w22 w23 → w23.heap[m26]? = some (Obj.cells #[Value.int IntKind.i64 (x6 - x3)] 3)
    → RunsTo Try.prog (Builtin.append_ #[38, 38] 38 #[Value.slice a3 m19 m20, Value.slice (some { block := m26, off := 0 }) 1 1]) w23 fun (v2 : Value) (w24 : World) => ∃ (a4 :
    Option Addr), ∃ (m28 : Nat), ∃ (m29 : Nat), v2 = Value.slice a4 m28 m29 ∧ KeepX true w.heap.size [m26, m14, m2, m1] (fun _ => False) w23 w24 ∧ (-9223372036854775808 ≤ x4 + 1 ∧
    x4 + (1 : Int) ≤ 9223372036854775807) ∧ ∀ (w25 : World), RowKit.Below w.heap.size w w25 → Kept [m26, m14, m2, m1] w24 w25 → F1 [Lf.sl a4 m28 m29, Lf.int IntKind.i64 x6, Lf.int
    IntKind.i64 (x4 + 1)] w25 ∧ F2 [Lf.sl a4 m28 m29, Lf.int IntKind.i64 x6, Lf.int IntKind.i64 (x4 + 1)] < F2 [Lf.sl a3 m19 m20, Lf.int IntKind.i64 x3, Lf.int IntKind.i64 x4]) ∧
    ((↑m16 : Int) ≤ x4 → ∀ (w26 : World), RowKit.Below w.heap.size w w26 → Kept [m14, m2, m1] w20 w26 → R (Ending.returned (Value.tuple #[Value.slice a3 m19 m20, Value.int
    IntKind.i64 0])) w26)))))) ∧ ((↑ln : Int) ≤ 50 → (50 < (↑ordersn : Int) → ∀ (w27 : World), RowKit.Below w.heap.size w w27 → Kept [m2, m1] w2 w27 → R (Ending.returned
    (Value.tuple #[Value.slice none 0 0, Value.int IntKind.i64 5])) w27) ∧ ((↑ordersn : Int) ≤ 50 → ∀ (w28 : World), RowKit.Below w.heap.size w w28 → Kept [m2, m1] w2 w28 → Calls
    Try.prog 69 #[Value.slice la ln lc, Value.func (Fn.func 70) #[] #[]] w28 fun (e7 : Ending) (w29 : World) => ∃ (t4 : Bool), e7 = Ending.returned (Value.bool t4) ∧ KeepX true
    w.heap.size [m2, m1] (fun _ => False) w28 w29 ∧ (t4 = true → ∀ (w30 : World), RowKit.Below w.heap.size w w30 → Kept [m2, m1] w29 w30 → R (Ending.returned (Value.tuple
    #[Value.slice none 0 0, Value.int IntKind.i64 2])) w30) ∧ (t4 = false → ∀ (w31 : World), RowKit.Below w.heap.size w w31 → Kept [m2, m1] w29 w31 → Calls Try.prog 72
    #[Value.slice ordersa ordersn ordersc] w31 fun (e8 : Ending) (w32 : World) => ∃ (t5 : Bool), e8 = Ending.returned (Value.bool t5) ∧ KeepX true w.heap.size [m2, m1] (fun _ =>
    False) w31 w32 ∧ ((!t5) = true → ∀ (w33 : World), RowKit.Below w.heap.size w w33 → Kept [m2, m1] w32 w33 → R (Ending.returned (Value.tuple #[Value.slice none 0 0, Value.int
    IntKind.i64 4])) w33) ∧ ((!t5) = false → ∃ (m33 : Nat), ∃ (m34 : Nat), ordersa = some { block := m33, off := m34 } ∧ ((0 : Int) ≤ 0 ∧ 0 < (↑ordersn : Int)) ∧ ∃ (x7 : Int),
    w32.cell? { block := m33, off := m34 + Int.toNat 0 * 1 } = some (Value.int IntKind.i64 x7) ∧ (m33 < w.heap.size ∨ m33 ≠ m2 ∧ m33 ≠ m1) ∧ ∀ (w34 : World), RowKit.Below
    w.heap.size w w34 → Kept [m2, m1] w32 w34 → w34.heap[m2]? = some (Obj.cells #[Value.slice la ln lc] 77) → w34.heap[m1]? = some (Obj.cells #[Value.int IntKind.i64 life0,
    Value.int IntKind.i64 life1] 42) → Calls Try.prog 73 #[Value.int IntKind.i64 x7, Value.pointer (some { block := m2, off := 0 }), Value.pointer (some { block := m1, off := 0 })]
    w34 fun (e9 : Ending) (w35 : World) => ∃ (x8 : Int), e9 = Ending.returned (Value.int IntKind.i64 x8) ∧ KeepX true w.heap.size [m2, m1] (fun _ => False) w34 w35 ∧ (0 < x8 → ∀
    (w36 : World), RowKit.Below w.heap.size w w36 → Kept [m2, m1] w35 w36 → R (Ending.returned (Value.tuple #[Value.slice none 0 0, Value.int IntKind.i64 9])) w36) ∧ (x8 ≤ 0 → ((0
    : Int) ≤ 1 ∧ 1 ≤ (↑ordersn : Int)) ∧ ∀ (w37 : World), RowKit.Below w.heap.size w w37 → Kept [m2, m1] w35 w37 → Calls Try.prog 75 #[Value.slice (subA ordersa ordersc (Int.toNat
    1) 1) (ordersn - Int.toNat 1) (ordersc - Int.toNat 1)] w37 fun (e10 : Ending) (w38 : World) => ∃ (a5 : Option Addr), ∃ (m38 : Nat), ∃ (m39 : Nat), e10 = Ending.returned
    (Value.slice a5 m38 m39) ∧ KeepX true w.heap.size [m2, m1] (fun _ => False) w37 w38 ∧ ∀ (m41 : Nat), w38.heap.size ≤ m41 → ∀ (w39 : World), RowKit.Below w.heap.size w w39 →
    Kept [m41, m2, m1] w38 w39 → w39.heap[m41]? = some (Obj.cells #[Value.int IntKind.i64 201] 3) → RunsTo Try.prog (Builtin.append_ #[38, 38] 38 #[Value.slice a5 m38 m39,
    Value.slice (some { block := m41, off := 0 }) 1 1]) w39 fun (v3 : Value) (w40 : World) => ∃ (a6 : Option Addr), ∃ (m43 : Nat), ∃ (m44 : Nat), v3 = Value.slice a6 m43 m44 ∧
    KeepX true w.heap.size [m41, m2, m1] (fun _ => False) w39 w40 ∧ ∃ (F3 : List Lf → World → Prop), ∃ (F4 : List Lf → Nat), (∀ (w42 : World), RowKit.Below w.heap.size w w42 → Kept
    [m41, m2, m1] w40 w42 → F3 [Lf.sl none 0 0, Lf.int IntKind.i64 0, Lf.int IntKind.i64 0] w42) ∧ ∀ (a7 : Option Addr) (m46 m47 : Nat) (x9 x10 : Int) (w43 : World), RowKit.Below
    w.heap.size w w43 → F3 [Lf.sl a7 m46 m47, Lf.int IntKind.i64 x9, Lf.int IntKind.i64 x10] w43 → (x10 < (↑m43 : Int) → ∃ (m48 : Nat), ∃ (m49 : Nat), a6 = some
    { block := m48, off := m49 } ∧ (0 ≤ x10 ∧ x10 < (↑m43 : Int)) ∧ ∃ (x11 : Int), w43.cell? { block := m48, off := m49 + x10.toNat * 1 } = some (Value.int IntKind.i64 x11) ∧ (m48
    < w.heap.size ∨ m48 ≠ m41 ∧ m48 ≠ m2 ∧ m48 ≠ m1) ∧ ∀ (w44 : World), RowKit.Below w.heap.size w w44 → Kept [m41, m2, m1] w43 w44 → w44.heap[m2]? = some (Obj.cells #[Value.slice
    la ln lc] 77) → w44.heap[m1]? = some (Obj.cells #[Value.int IntKind.i64 life0, Value.int IntKind.i64 life1] 42) → Calls Try.prog 73 #[Value.int IntKind.i64 x11, Value.pointer
    (some { block := m2, off := 0 }), Value.pointer (some { block := m1, off := 0 })] w44 fun (e11 : Ending) (w45 : World) => ∃ (x12 : Int), e11 = Ending.returned (Value.int
    IntKind.i64 x12) ∧ KeepX true w.heap.size [m41, m2, m1] (fun _ => False) w44 w45 ∧ (-9223372036854775808 ≤ x12 - x9 ∧ x12 - x9 ≤ 9223372036854775807) ∧ ∀ (m53 : Nat),
    w45.heap.size ≤ m53 → ∀ (w46 : World), RowKit.Below w.heap.size w w46 → Kept [m53, m41, m2, m1] w45 w46 → w46.heap[m53]? = some (Obj.cells #[Value.int IntKind.i64 (x12 - x9)]
    3) → RunsTo Try.prog (Builtin.append_ #[38, 38] 38 #[Value.slice a7 m46 m47, Value.slice (some { block := m53, off := 0 }) 1 1]) w46 fun (v4 : Value) (w47 : World) => ∃ (a8 :
    Option Addr), ∃ (m55 : Nat), ∃ (m56 : Nat), v4 = Value.slice a8 m55 m56 ∧ KeepX true w.heap.size [m53, m41, m2, m1] (fun _ => False) w46 w47 ∧ (-9223372036854775808 ≤ x10 + 1 ∧
    x10 + (1 : Int) ≤ 9223372036854775807) ∧ ∀ (w48 : World), RowKit.Below w.heap.size w w48 → Kept [m53, m41, m2, m1] w47 w48 → F3 [Lf.sl a8 m55 m56, Lf.int IntKind.i64 x12,
    Lf.int IntKind.i64 (x10 + 1)] w48 ∧ F4 [Lf.sl a8 m55 m56, Lf.int IntKind.i64 x12, Lf.int IntKind.i64 (x10 + 1)] < F4 [Lf.sl a7 m46 m47, Lf.int IntKind.i64 x9, Lf.int
    IntKind.i64 x10]) ∧ ((↑m43 : Int) ≤ x10 → ∀ (w49 : World), RowKit.Below w.heap.size w w49 → Kept [m41, m2, m1] w43 w49 → R (Ending.returned (Value.tuple #[Value.slice a7 m46
    m47, Value.int IntKind.i64 0])) w49)))))))) : Calls Try.prog 38 #[Value.agg #[Value.int IntKind.i64 life0, Value.int IntKind.i64 life1], Value.slice la ln lc, Value.slice
    ordersa ordersn ordersc] w R := calls_of_vc (pure := true) (wrapAt := []) (muts := []) (esc := []) (args := [SV.pv (PV.agg [Lf.int IntKind.i64 life0, Lf.int IntKind.i64
    life1]), SV.pv (PV.one (Lf.sl la ln lc)), SV.pv (PV.one (Lf.sl ordersa ordersn ordersc))]) (vs := [Value.agg #[Value.int IntKind.i64 life0, Value.int IntKind.i64 life1],
    Value.slice la ln lc, Value.slice ordersa ordersn ordersc]) Try.func38 rfl rfl rfl (Eq.mp (by kernel_rfl) h) 
set_option maxRecDepth 100000 in
set_option maxHeartbeats 2000000 in
theorem vc73 (year : Int) (cap0b : Nat) (cap1b : Nat) (w : World) (R : Ending → World → Prop) (h : ∃ (a1 : Option Addr), ∃ (m1 : Nat), ∃ (m2 : Nat), w.cell?
    { block := cap0b, off := 0 } = some (Value.slice a1 m1 m2) ∧ ∃ (F1 : List Lf → World → Prop), ∃ (F2 : List Lf → Nat), (∀ (w2 : World), RowKit.Below w.heap.size w w2 → Kept [] w
    w2 → F1 [Lf.int IntKind.i64 0, Lf.int IntKind.i64 0] w2) ∧ ∀ (x1 x2 : Int) (w3 : World), RowKit.Below w.heap.size w w3 → F1 [Lf.int IntKind.i64 x1, Lf.int IntKind.i64 x2] w3 →
    (x2 < (↑m1 : Int) → ∃ (m3 : Nat), ∃ (m4 : Nat), a1 = some { block := m3, off := m4 } ∧ (0 ≤ x2 ∧ x2 < (↑m1 : Int)) ∧ ∃ (x3 : Int), ∃ (x4 : Int), ∃ (x5 : Int), w3.cell?
    { block := m3, off := m4 + x2.toNat * 3 } = some (Value.int IntKind.i64 x3) ∧ w3.cell? { block := m3, off := m4 + x2.toNat * 3 + 1 } = some (Value.int IntKind.i64 x4) ∧
    w3.cell? { block := m3, off := m4 + x2.toNat * 3 + 1 + 1 } = some (Value.int IntKind.i64 x5) ∧ ∀ (m5 : Nat), w3.heap.size ≤ m5 → ∃ (x6 : Int), w3.cell?
    { block := cap1b, off := 0 + 0 } = some (Value.int IntKind.i64 x6) ∧ (cap1b < w.heap.size ∨ cap1b ≠ m5) ∧ ∀ (w4 : World), RowKit.Below w.heap.size w w4 → Kept [m5] w3 w4 →
    Calls Try.prog 74 #[Value.agg #[Value.int IntKind.i64 x3, Value.int IntKind.i64 x4, Value.int IntKind.i64 x5], Value.int IntKind.i64 year, Value.int IntKind.i64 x6] w4 fun (e1
    : Ending) (w5 : World) => ∃ (x7 : Int), e1 = Ending.returned (Value.int IntKind.i64 x7) ∧ KeepX true w.heap.size [m5] (fun _ => False) w4 w5 ∧ (-9223372036854775808 ≤ x1 + x7 ∧
    x1 + x7 ≤ 9223372036854775807) ∧ (-9223372036854775808 ≤ x2 + 1 ∧ x2 + (1 : Int) ≤ 9223372036854775807) ∧ ∀ (w6 : World), RowKit.Below w.heap.size w w6 → Kept [m5] w5 w6 → F1
    [Lf.int IntKind.i64 (x1 + x7), Lf.int IntKind.i64 (x2 + 1)] w6 ∧ F2 [Lf.int IntKind.i64 (x1 + x7), Lf.int IntKind.i64 (x2 + 1)] < F2 [Lf.int IntKind.i64 x1, Lf.int IntKind.i64
    x2]) ∧ ((↑m1 : Int) ≤ x2 → ∀ (w7 : World), RowKit.Below w.heap.size w w7 → Kept [] w3 w7 → R (Ending.returned (Value.int IntKind.i64 x1)) w7)) : Calls Try.prog 73 #[Value.int
    IntKind.i64 year, Value.pointer (some { block := cap0b, off := 0 }), Value.pointer (some { block := cap1b, off := 0 })] w R := calls_of_vc (pure := true) (wrapAt := []) (muts
    := []) (esc := []) (args := [SV.pv (PV.one (Lf.int IntKind.i64 year)), SV.pv (PV.one (Lf.ptr cap0b 0)), SV.pv (PV.one (Lf.ptr cap1b 0))]) (vs := [Value.int IntKind.i64 year,
    Value.pointer (some { block := cap0b, off := 0 }), Value.pointer (some { block := cap1b, off := 0 })]) Try.func73 rfl rfl rfl (Eq.mp (by kernel_rfl) h) 
set_option maxRecDepth 100000 in
set_option maxHeartbeats 2000000 in
theorem vc67 (la : Option Addr) (ln : Nat) (lc : Nat) (w : World) (R : Ending → World → Prop) (h : ∀ (m1 : Nat), w.heap.size ≤ m1 → ∃ (F1 : List Lf → World → Prop), ∃ (F2 : List Lf
    → Nat), (∀ (w2 : World), RowKit.Below w.heap.size w w2 → Kept [m1] w w2 → w2.heap[m1]? = some (Obj.cells #[] 3) → F1 [Lf.sl (some { block := m1, off := 0 }) 0 0, Lf.int
    IntKind.i64 0] w2) ∧ ∀ (a1 : Option Addr) (m3 m4 : Nat) (x1 : Int) (w3 : World), RowKit.Below w.heap.size w w3 → F1 [Lf.sl a1 m3 m4, Lf.int IntKind.i64 x1] w3 → (x1 < (↑ln :
    Int) → ∃ (m5 : Nat), ∃ (m6 : Nat), la = some { block := m5, off := m6 } ∧ (0 ≤ x1 ∧ x1 < (↑ln : Int)) ∧ ∃ (t1 : Bool), w3.cell? { block := m5, off := m6 + x1.toNat * 1 } = some
    (Value.bool t1) ∧ (t1 = true → ∀ (m7 : Nat), w3.heap.size ≤ m7 → ∀ (w4 : World), RowKit.Below w.heap.size w w4 → Kept [m7] w3 w4 → w4.heap[m7]? = some (Obj.cells #[Value.int
    IntKind.i64 x1] 3) → RunsTo Try.prog (Builtin.append_ #[38, 38] 38 #[Value.slice a1 m3 m4, Value.slice (some { block := m7, off := 0 }) 1 1]) w4 fun (v1 : Value) (w5 : World)
    => ∃ (a2 : Option Addr), ∃ (m9 : Nat), ∃ (m10 : Nat), v1 = Value.slice a2 m9 m10 ∧ KeepX true w.heap.size [m7] (fun _ => False) w4 w5 ∧ (-9223372036854775808 ≤ x1 + 1 ∧ x1 + (1
    : Int) ≤ 9223372036854775807) ∧ ∀ (w6 : World), RowKit.Below w.heap.size w w6 → Kept [m7] w5 w6 → F1 [Lf.sl a2 m9 m10, Lf.int IntKind.i64 (x1 + 1)] w6 ∧ F2 [Lf.sl a2 m9 m10,
    Lf.int IntKind.i64 (x1 + 1)] < F2 [Lf.sl a1 m3 m4, Lf.int IntKind.i64 x1]) ∧ (t1 = false → (-9223372036854775808 ≤ x1 + 1 ∧ x1 + (1 : Int) ≤ 9223372036854775807) ∧ ∀ (w7 :
    World), RowKit.Below w.heap.size w w7 → Kept [] w3 w7 → F1 [Lf.sl a1 m3 m4, Lf.int IntKind.i64 (x1 + 1)] w7 ∧ F2 [Lf.sl a1 m3 m4, Lf.int IntKind.i64 (x1 + 1)] < F2 [Lf.sl a1 m3
    m4, Lf.int IntKind.i64 x1])) ∧ ((↑ln : Int) ≤ x1 → ∀ (w8 : World), RowKit.Below w.heap.size w w8 → Kept [] w3 w8 → R (Ending.returned (Value.slice a1 m3 m4)) w8)) : Calls
    Try.prog 67 #[Value.slice la ln lc] w R := calls_of_vc (pure := true) (wrapAt := []) (muts := []) (esc := []) (args := [SV.pv (PV.one (Lf.sl la ln lc))]) (vs := [Value.slice la
    ln lc]) Try.func67 rfl rfl rfl (Eq.mp (by kernel_rfl) h) 
set_option maxRecDepth 100000 in
set_option maxHeartbeats 2000000 in
theorem vc33 (p0w0a : Option Addr) (p0w0n : Nat) (p0w0c : Nat) (p0w1a : Option Addr) (p0w1n : Nat) (p0w1c : Nat) (fit : Int) (holesa : Option Addr) (holesn : Nat) (holesc : Nat)
    (shaftsa : Option Addr) (shaftsn : Nat) (shaftsc : Nat) (w : World) (R : Ending → World → Prop) (h : ∀ (m1 : Nat), w.heap.size ≤ m1 → ∀ (w1 : World), RowKit.Below w.heap.size w
    w1 → Kept [m1] w w1 → Calls Try.prog 19 #[Value.agg #[Value.slice p0w0a p0w0n p0w0c, Value.slice p0w1a p0w1n p0w1c]] w1 fun (e1 : Ending) (w2 : World) => ∃ (t1 : Bool), e1 =
    Ending.returned (Value.bool t1) ∧ KeepX true w.heap.size [m1] (fun _ => False) w1 w2 ∧ ((!t1) = true → ∀ (w3 : World), RowKit.Below w.heap.size w w3 → Kept [m1] w2 w3 → R
    (Ending.returned (Value.int IntKind.i64 2)) w3) ∧ ((!t1) = false → (-9223372036854775808 ≤ (↑p0w1n : Int) - 1 ∧ (↑p0w1n : Int) - (1 : Int) ≤ 9223372036854775807) ∧ ∀ (w4 :
    World), RowKit.Below w.heap.size w w4 → Kept [m1] w2 w4 → Calls Try.prog 54 #[Value.int IntKind.i64 fit, Value.int IntKind.i64 0, Value.int IntKind.i64 ((↑p0w1n : Int) - 1)] w4
    fun (e2 : Ending) (w5 : World) => ∃ (t2 : Bool), e2 = Ending.returned (Value.bool t2) ∧ KeepX true w.heap.size [m1] (fun _ => False) w4 w5 ∧ ((!t2) = true → ∀ (w6 : World),
    RowKit.Below w.heap.size w w6 → Kept [m1] w5 w6 → R (Ending.returned (Value.int IntKind.i64 7)) w6) ∧ ((!t2) = false → (200 < (↑holesn : Int) → ∀ (w7 : World), RowKit.Below
    w.heap.size w w7 → Kept [m1] w5 w7 → R (Ending.returned (Value.int IntKind.i64 5)) w7) ∧ ((↑holesn : Int) ≤ 200 → (200 < (↑shaftsn : Int) → ∀ (w8 : World), RowKit.Below
    w.heap.size w w8 → Kept [m1] w5 w8 → R (Ending.returned (Value.int IntKind.i64 5)) w8) ∧ ((↑shaftsn : Int) ≤ 200 → ∃ (F1 : List Lf → World → Prop), ∃ (F2 : List Lf → Nat), (∀
    (w10 : World), RowKit.Below w.heap.size w w10 → Kept [m1] w5 w10 → F1 [Lf.int IntKind.i64 0, Lf.int IntKind.i64 0] w10) ∧ ∀ (x1 x2 : Int) (w11 : World), RowKit.Below
    w.heap.size w w11 → F1 [Lf.int IntKind.i64 x1, Lf.int IntKind.i64 x2] w11 → (x2 < (↑holesn : Int) → ∃ (m4 : Nat), ∃ (m5 : Nat), holesa = some { block := m4, off := m5 } ∧ (0 ≤
    x2 ∧ x2 < (↑holesn : Int)) ∧ ∃ (x3 : Int), w11.cell? { block := m4, off := m5 + x2.toNat * 1 } = some (Value.int IntKind.i64 x3) ∧ (m4 < w.heap.size ∨ m4 ≠ m1) ∧ ∀ (w12 :
    World), RowKit.Below w.heap.size w w12 → Kept [m1] w11 w12 → Calls Try.prog 54 #[Value.int IntKind.i64 x3, Value.int IntKind.i64 0, Value.int IntKind.i64 1000000] w12 fun (e3 :
    Ending) (w13 : World) => ∃ (t3 : Bool), e3 = Ending.returned (Value.bool t3) ∧ KeepX true w.heap.size [m1] (fun _ => False) w12 w13 ∧ ((!t3) = true → ∀ (w14 : World),
    RowKit.Below w.heap.size w w14 → Kept [m1] w13 w14 → R (Ending.returned (Value.int IntKind.i64 3)) w14) ∧ ((!t3) = false → (-9223372036854775808 ≤ x2 + 1 ∧ x2 + (1 : Int) ≤
    9223372036854775807) ∧ ∀ (w15 : World), RowKit.Below w.heap.size w w15 → Kept [m1] w13 w15 → F1 [Lf.int IntKind.i64 x1, Lf.int IntKind.i64 (x2 + 1)] w15 ∧ F2 [Lf.int
    IntKind.i64 x1, Lf.int IntKind.i64 (x2 + 1)] < F2 [Lf.int IntKind.i64 x1, Lf.int IntKind.i64 x2])) ∧ ((↑holesn : Int) ≤ x2 → ∃ (F3 : List Lf → World → Prop), ∃ (F4 : List Lf →
    Nat), (∀ (w17 : World), RowKit.Below w.heap.size w w17 → Kept [m1] w11 w17 → F3 [Lf.int IntKind.i64 x1, Lf.int IntKind.i64 0] w17) ∧ ∀ (x4 x5 : Int) (w18 : World), RowKit.Below
    w.heap.size w w18 → F3 [Lf.int IntKind.i64 x4, Lf.int IntKind.i64 x5] w18 → (x5 < (↑shaftsn : Int) → ∃ (m7 : Nat), ∃ (m8 : Nat), shaftsa = some { block := m7, off := m8 } ∧ (0
    ≤ x5 ∧ x5 < (↑shaftsn : Int)) ∧ ∃ (x6 : Int), w18.cell? { block := m7, off := m8 + x5.toNat * 1 } = some (Value.int IntKind.i64 x6) ∧ (m7 < w.heap.size ∨ m7 ≠ m1) ∧ ∀ (w19 :
    World), RowKit.Below w.heap.size w w19 → Kept [m1] w18 w19 → Calls Try.prog 54 #[Value.int IntKind.i64 x6, Value.int IntKind.i64 0, Value.int IntKind.i64 1000000] w19 fun (e4 :
    Ending) (w20 : World) => ∃ (t4 : Bool), e4 = Ending.returned (Value.bool t4) ∧ KeepX true w.heap.size [m1] (fun _ => False) w19 w20 ∧ ((!t4) = true → ∀ (w21 : World),
    RowKit.Below w.heap.size w w21 → Kept [m1] w20 w21 → R (Ending.returned (Value.int IntKind.i64 3)) w21) ∧ ((!t4) = false → (-9223372036854775808 ≤ x5 + 1 ∧ x5 + (1 : Int) ≤
    9223372036854775807) ∧ ∀ (w22 : World), RowKit.Below w.heap.size w w22 → Kept [m1] w20 w22 → F3 [Lf.int IntKind.i64 x4, Lf.int IntKind.i64 (x5 + 1)] w22 ∧ F4 [Lf.int
    IntKind.i64 x4, Lf.int IntKind.i64 (x5 + 1)] < F4 [Lf.int IntKind.i64 x4, Lf.int IntKind.i64 x5])) ∧ ((↑shaftsn : Int) ≤ x5 → ∀ (w23 : World), RowKit.Below w.heap.size w w23 →
    Kept [m1] w18 w23 → R (Ending.returned (Value.int IntKind.i64 0)) w23))))))) : Calls Try.prog 33 #[Value.agg #[Value.slice p0w0a p0w0n p0w0c, Value.slice p0w1a p0w1n p0w1c],
    Value.int IntKind.i64 fit, Value.slice holesa holesn holesc, Value.slice shaftsa shaftsn shaftsc] w R := calls_of_vc (pure := true) (wrapAt := []) (muts := []) (esc := [])
    (args := [SV.pv (PV.agg [Lf.sl p0w0a p0w0n p0w0c, Lf.sl p0w1a p0w1n p0w1c]), SV.pv (PV.one (Lf.int IntKind.i64 fit)), SV.pv (PV.one (Lf.sl holesa holesn holesc)), SV.pv (PV.one
    (Lf.sl shaftsa shaftsn shaftsc))]) (vs := [Value.agg #[Value.slice p0w0a p0w0n p0w0c, Value.slice p0w1a p0w1n p0w1c], Value.int IntKind.i64 fit, Value.slice holesa holesn
    holesc, Value.slice shaftsa shaftsn shaftsc]) Try.func33 rfl rfl rfl (Eq.mp (by kernel_rfl) h) 
end Go.Proofs
end
section
/- Contracts of functions that make rows. -/
namespace Go.Proofs.R12
open Go.Vc Go.RowKit Go.Proofs
theorem fitsV_len (l : List Fit) : (fitsV l).length = l.length * 6 := by induction l <;> simp_all [fitsV, Fit.cells]; omega
theorem spansV_len (l : List Sp) : (spansV l).length = l.length * 2 := by induction l <;> simp_all [spansV]; omega
structure Gap where
  fit : Int
  hole : Int
  shaft : Int
  deriving DecidableEq
def gapsV (l : List Gap) : List Value := l.flatMap fun g => [I g.fit, I g.hole, I g.shaft]
theorem gapsV_append (l : List Gap) (g : Gap) : gapsV (l ++ [g]) = gapsV l ++ [I g.fit, I g.hole, I g.shaft] := by simp [gapsV]
def badF (W : Wk) (f : Fit) : Int × Int × Bool := badM f ((W.pats.getD f.hole.toNat []).getD f.hs.toNat (0, 0)) ((W.pats.getD f.shaft.toNat []).getD f.ss.toNat (0, 0))
def looseL (W : Wk) (k : Nat) : List Gap := (List.range k).filterMap fun i => if (badF W (W.fits.getD i ⟨0, 0, 0, 0, (0, 0)⟩)).2.2 = true then some ⟨i, (badF W (W.fits.getD i ⟨0, 0, 0, 0, (0, 0)⟩)).1, (badF W (W.fits.getD i ⟨0, 0, 0, 0, (0, 0)⟩)).2.1⟩ else none
theorem loose_hit {W : Wk} {k : Nat} (h : (badF W (W.fits.getD k ⟨0, 0, 0, 0, (0, 0)⟩)).2.2 = true) : looseL W (k + 1) = looseL W k ++ [⟨k, (badF W (W.fits.getD k ⟨0, 0, 0, 0, (0, 0)⟩)).1, (badF W (W.fits.getD k ⟨0, 0, 0, 0, (0, 0)⟩)).2.1⟩] := by
  unfold looseL; rw [List.range_succ, List.filterMap_append]; simp [h, -List.getD_eq_getElem?_getD]
theorem loose_miss {W : Wk} {k : Nat} (h : (badF W (W.fits.getD k ⟨0, 0, 0, 0, (0, 0)⟩)).2.2 = false) : looseL W (k + 1) = looseL W k := by
  unfold looseL; rw [List.range_succ, List.filterMap_append]; simp [h, -List.getD_eq_getElem?_getD]
def LooseM (W : Wk) : List Gap := if OkW W then looseL W W.fits.length else []
theorem checkE_two {W : Wk} (h : ¬ OkW W) : checkE W = 2 := by unfold checkE; rw [if_neg h]
theorem lies_nil {lo hi : Nat} {w : World} {a : Option Addr} : Lies [] lo hi w a [] := fun i v h => by simp at h
theorem OkW.fit {W : Wk} (h : OkW W) {i : Nat} (hi : i < W.fits.length) : okFit W (W.fits.getD i ⟨0, 0, 0, 0, (0, 0)⟩) := (all_getD (d := ⟨0, 0, 0, 0, (0, 0)⟩)).1 h.2.2.2 i hi
def patN : Nest (List Sp) := ⟨89, 1, by decide, fun a c p => [.slice a p.length c], fun _ _ _ => rfl, spansV⟩
def pieceN : Nest Piece := ⟨40, 2, by decide, fun a c x => [I x.pat, .slice a x.sizes.length c], fun _ _ _ => rfl, fun x => ints x.sizes⟩
theorem take_getD {α : Type} {l : List α} {i : Nat} {d : α} (h : i < l.length) : l.take (i + 1) = l.take i ++ [l.getD i d] := by
  rw [List.take_add_one, getElem_of_lt h, List.getD_eq_getElem?_getD, getElem_of_lt h]; rfl
theorem liesS_of {B lo n c : Nat} {own : List Nat} {a : Option Addr} {ps : List (List Sp)} {w : World} (h : NRow patN B own a n c ps [] w) (hB : lo ≤ B) : LiesS lo w.heap.size w a ps := fun i p hi => by
  obtain ⟨b, a', k, _, h2, h3, h4⟩ := h.holds.2 i p hi
  obtain ⟨o, e, hc⟩ := h3 0 (.slice a' p.length k) rfl
  exact ⟨b, o, a', k, e, ⟨by omega, h2.2⟩, cell_at' hc (by show o + i = o + (i * 1 + 0); omega), h4.to hB (Nat.le_refl _)⟩
/-- Pieces: a row of numbers and rows. -/
def LiesP (lo hi : Nat) (w : World) (a : Option Addr) (ps : List Piece) : Prop :=
  ∀ i p, ps[i]? = some p → ∃ b o a' c, a = some ⟨b, o, none⟩ ∧ (lo ≤ b ∧ b < hi) ∧ w.cell? ⟨b, o + i * 2, none⟩ = some (I p.pat) ∧ w.cell? ⟨b, o + (i * 2 + 1), none⟩ = some (.slice a' p.sizes.length c) ∧ Lies [] lo hi w a' (ints p.sizes)
def CellsP (w : World) (a : Option Addr) (ps : List Piece) : Prop :=
  ∀ i p, ps[i]? = some p → ∃ b o a' c, a = some ⟨b, o, none⟩ ∧ w.cell? ⟨b, o + i * 2, none⟩ = some (I p.pat) ∧ w.cell? ⟨b, o + (i * 2 + 1), none⟩ = some (.slice a' p.sizes.length c) ∧ Cells w a' (ints p.sizes)
section
variable {w wj : World} {a : Option Addr} {l : List Piece} {i : Int}
theorem load_piece {X : Nat → Nat → Int → Option Addr → Nat → Nat → Prop} (h : CellsP w a l) (hb : Below w.heap.size w wj) (hi0 : 0 ≤ i ∧ i < (l.length : Int)) (k : ∀ m o, m < w.heap.size → ∀ a1 c1, Cells w a1 (ints (l.getD i.toNat ⟨0, []⟩).sizes) → X m o (l.getD i.toNat ⟨0, []⟩).pat a1 (l.getD i.toNat ⟨0, []⟩).sizes.length c1) : ∃ m o, a = some ⟨m, o, none⟩ ∧ (0 ≤ i ∧ i < (l.length : Int)) ∧ ∃ x a1 n1 c1, wj.cell? ⟨m, o + i.toNat * 2, none⟩ = some (I x) ∧ wj.cell? ⟨m, o + i.toNat * 2 + 1, none⟩ = some (.slice a1 n1 c1) ∧ X m o x a1 n1 c1 := by
  have hi : i.toNat < l.length := by omega
  have hg : l.getD i.toNat ⟨0, []⟩ = l[i.toNat] := by simp [List.getD_eq_getElem?_getD, getElem_of_lt hi]
  obtain ⟨b, o, a', c, e, d0, d1, D⟩ := h i.toNat _ (getElem_of_lt hi)
  exact ⟨b, o, e, hi0, _, _, _, _, cell_at' (cell_keep hb d0) (by omega), cell_at' (cell_keep hb d1) (by omega), by have := k b o (cell_lt d0) a' c (by rw [hg]; exact D); rw [hg] at this; exact this⟩
end
theorem ints_l {w : World} {l : List Int} {a : Option Addr} {c : Nat} (hc : Cells w a (ints l)) (hl : l.length ≤ 17592186044000) : Calls Try.prog 29 #[.slice a l.length c] w (fun e w' => ∃ a' c', e = .returned (.slice a' l.length c') ∧ Below w.heap.size w w' ∧ Lies [] w.heap.size w'.heap.size w' a' (ints l)) := by
  refine vc29 _ _ _ w _ ?_
  intro m1 g_m1 w1 hb1 hk1 hc1_m1
  have y1 := hb1.size
  have z1 := hk1.size; have o1 := hk1.own
  simp only [List.mem_cons, List.not_mem_nil, or_false, forall_eq] at o1
  refine append_copy (P := Try.prog) (e := 3) (bytes := 8) (size := 1) (by kernel_rfl) (by omega) (hc.keep hb1) (by simp [ints]) (by omega) (by omega) fun aC2 cC2 w2 hd2 hC2 nC2 xC2 rC2 => ?_
  have hb2 := hb1.trans (hd2.mono hb1.size)
  have z2 := hd2.size
  have C2_2 : Lies [] w1.heap.size w2.heap.size w2 aC2 _ := Lies.new hC2 nC2 (by simp)
  refine ⟨_, _, _, rfl, .all hd2, ?_⟩
  intro w3 hb3 hk3
  have y3 := hb3.size
  have z3 := hk3.size; have o3 := hk3.own
  simp only [List.mem_cons, List.not_mem_nil, or_false, forall_eq] at o3
  have C2_3 := C2_2.ko hk3 (allc (.inl (by omega)) all0)
  exact ⟨_, _, rfl, hb3, C2_3.to (by omega) (by omega)⟩

set_option maxRecDepth 100000 in
theorem Loose_l {w : World} {W : Wk} {pa fa : Option Addr} {pc fc : Nat} (hp : CellsS w pa W.pats) (hf : Cells w fa (fitsV W.fits)) (hS : Small W) : Calls Try.prog 17 #[W.v pa pc fa fc] w (fun e w' => ∃ a' c', e = .returned (.tuple #[.slice a' (LooseM W).length c', I (checkE W)]) ∧ Below w.heap.size w w' ∧ Lies [] w.heap.size w'.heap.size w' a' (gapsV (LooseM W))) := by
  have hm := hS.m
  refine vc17 _ _ _ _ _ _ w _ ?_
  intro m1 g_m1 w1 hb1 hk1
  have y1 := hb1.size
  have z1 := hk1.size; have o1 := hk1.own
  simp only [List.mem_cons, List.not_mem_nil, or_false, forall_eq] at o1
  refine Pure.calls (check_any (hp.keep hb1) (hf.keep hb1) hS) fun w2 hd2 => ?_
  have hb2 := hb1.trans (hd2.mono hb1.size)
  refine ⟨_, rfl, .all hd2, ?_, ?_⟩
  · intro h1 w3 hb3 hk3
    try simp only [Bool.not_eq_true', Bool.not_eq_false', decide_eq_true_eq, decide_eq_false_iff_not] at h1
    have y3 := hb3.size
    have z3 := hk3.size; have o3 := hk3.own
    simp only [List.mem_cons, List.not_mem_nil, or_false, forall_eq] at o3
    have hce : ¬ OkW W := checkE_ne.1 (by assumption)
    exact ⟨none, 0, by rw [checkE_two hce, LooseM, if_neg hce]; rfl, hb3, by rw [LooseM, if_neg hce]; exact lies_nil⟩
  · intro h2
    try simp only [Bool.not_eq_true', Bool.not_eq_false', decide_eq_true_eq, decide_eq_false_iff_not] at h2
    have hW : OkW W := checkE_ok.1 (by assumption)
    refine ⟨fun ls w' => match ls with | [.sl a n c, .int _ ii] => (0 ≤ ii ∧ ii ≤ W.fits.length) ∧ (n = (looseL W ii.toNat).length ∧ n ≤ ii.toNat) ∧ RowE 37 3 w.heap.size [m1] a n c (gapsV (looseL W ii.toNat)) w' | _ => False, fun ls => match ls with | [_, .int _ ii] => (W.fits.length - ii).toNat | _ => 0, ?_, ?_⟩
    · intro w5 hb5 hk5
      have y5 := hb5.size
      have z5 := hk5.size; have o5 := hk5.own
      simp only [List.mem_cons, List.not_mem_nil, or_false, forall_eq] at o5
      exact ⟨⟨by omega, by omega⟩, ⟨rfl, Nat.zero_le _⟩, .inr Row.nil⟩
    rintro a1 m3 m4 x2 w6 hb6 ⟨⟨x0, xl⟩, ⟨hn, hni⟩, RR⟩
    have y6 := hb6.size
    refine ⟨?_, ?_⟩
    · intro h3
      try simp only [Bool.not_eq_true', Bool.not_eq_false', decide_eq_true_eq, decide_eq_false_iff_not] at h3
      refine load_fit hf hb6 (by omega) fun m5 m6 hm1 => ⟨.inl hm1, ?_⟩
      have hfit := OkW.fit hW (i := x2.toNat) (by omega)
      intro m7 g_m7
      refine load_pat hp hb6 (by exact hfit.2.1.1) fun m8 m9 hm2 a2 m11 hs2 => ?_
      refine ⟨(by first | omega | (simp only; omega)), ?_⟩
      refine load_span hs2 hb6 (by exact hfit.2.1.2) fun m12 m13 hm3 => ?_
      refine ⟨(by first | omega | (simp only; omega)), ?_⟩
      refine load_pat hp hb6 (by exact hfit.2.2.1.1) fun m14 m15 hm4 a3 m17 hs4 => ?_
      refine ⟨(by first | omega | (simp only; omega)), ?_⟩
      refine load_span hs4 hb6 (by exact hfit.2.2.1.2) fun m18 m19 hm5 => ?_
      refine ⟨(by first | omega | (simp only; omega)), ?_⟩
      intro w7 hb7 hk7
      have y7 := hb7.size
      have z7 := hk7.size; have o7 := hk7.own
      simp only [List.mem_cons, List.not_mem_nil, or_false, forall_eq_or_imp, forall_eq] at o7
      have RR_7 := (RR.grow (ms := [m7]) (allc g_m7 all0)).chg (KeptIn.chg hk7) (fun _ h => h)
      refine Pure.calls (bad_any (W.fits.getD x2.toNat ⟨0, 0, 0, 0, (0, 0)⟩) ((W.pats.getD (W.fits.getD x2.toNat ⟨0, 0, 0, 0, (0, 0)⟩).hole.toNat []).getD (W.fits.getD x2.toNat ⟨0, 0, 0, 0, (0, 0)⟩).hs.toNat (0, 0)) ((W.pats.getD (W.fits.getD x2.toNat ⟨0, 0, 0, 0, (0, 0)⟩).shaft.toNat []).getD (W.fits.getD x2.toNat ⟨0, 0, 0, 0, (0, 0)⟩).ss.toNat (0, 0)) hfit.2.2.2 (OkW.pat hW hfit.2.1) (OkW.pat hW hfit.2.2.1)) fun w8 hd8 => ?_
      have hb8 := hb7.trans (hd8.mono hb7.size)
      have RR_8 := RR_7.below hd8
      refine ⟨_, _, _, rfl, .all hd8, ?_, ?_⟩
      · intro h4 m21 g_m21 w9 hb9 hk9 hc9_m21
        try simp only [Bool.not_eq_true', Bool.not_eq_false', decide_eq_true_eq, decide_eq_false_iff_not] at h4
        have y9 := hb9.size
        have z9 := hk9.size; have o9 := hk9.own
        simp only [List.mem_cons, List.not_mem_nil, or_false, forall_eq_or_imp, forall_eq] at o9
        have RR_9 := (RR_8.grow (ms := [m21]) (allc g_m21 all0)).chg (Chg.kept hk9) (fun _ h => h)
        refine append_rowE (P := Try.prog) (bytes := 24) (by kernel_rfl) (by omega) RR_9 (m := 1) (news := [_, _, _]) (Cells.obj (vs := [_, _, _]) hc9_m21) rfl (List.forall_mem_cons.2 ⟨rfl, List.forall_mem_cons.2 ⟨rfl, List.forall_mem_cons.2 ⟨rfl, by simp⟩⟩⟩) (by omega) (by omega) (by have := hb9.size; omega) hk9.own (by omega) fun aR10 cR10 w10 RR_10r S10 cS10 hS10 => ?_
        have RR_10 : RowE _ _ _ _ _ _ _ _ _ := .inr RR_10r
        have z10 := cS10.size
        have kx10 : KeepX true w.heap.size [m21, m7, m1] (fun _ => False) w9 w10 := cS10.own (fun x hx => ⟨hk9.own x hx, fun h => (hS10 x h).2 hx⟩) (by simp) (fun _ => ⟨hb9.size, fun x hx => by have := (hS10 x hx).1; omega⟩)
        refine ⟨_, _, _, rfl, kx10, (by first | omega | (simp only; omega)), ?_⟩
        intro w11 hb11 hk11
        have y11 := hb11.size
        have z11 := hk11.size; have o11 := hk11.own
        simp only [List.mem_cons, List.not_mem_nil, or_false, forall_eq_or_imp, forall_eq] at o11
        have RR_11 := RR_10.chg (Chg.kept hk11) (fun _ h => h)
        refine ⟨?_, (by first | omega | (simp only; omega))⟩
        exact ⟨⟨by omega, by omega⟩, ⟨by rw [show (x2 + 1).toNat = x2.toNat + 1 by omega, loose_hit (by assumption), List.length_append, hn]; rfl, by omega⟩, by rw [show (x2 + 1).toNat = x2.toNat + 1 by omega, loose_hit (by assumption), gapsV_append]; rw [Int.toNat_of_nonneg x0]; exact RR_11.less (by simp)⟩
      · intro h5
        try simp only [Bool.not_eq_true', Bool.not_eq_false', decide_eq_true_eq, decide_eq_false_iff_not] at h5
        refine ⟨(by first | omega | (simp only; omega)), ?_⟩
        intro w12 hb12 hk12
        have y12 := hb12.size
        have z12 := hk12.size; have o12 := hk12.own
        simp only [List.mem_cons, List.not_mem_nil, or_false, forall_eq_or_imp, forall_eq] at o12
        have RR_12 := RR_8.chg (Chg.kept hk12) (fun _ h => h)
        refine ⟨?_, (by first | omega | (simp only; omega))⟩
        exact ⟨⟨by omega, by omega⟩, ⟨by rw [show (x2 + 1).toNat = x2.toNat + 1 by omega, loose_miss (by assumption), hn], by omega⟩, by rw [show (x2 + 1).toNat = x2.toNat + 1 by omega, loose_miss (by assumption)]; exact RR_12.less (by simp)⟩
    · intro h6 w13 hb13 hk13
      try simp only [Bool.not_eq_true', Bool.not_eq_false', decide_eq_true_eq, decide_eq_false_iff_not] at h6
      have y13 := hb13.size
      have z13 := hk13.size; have o13 := hk13.own
      simp only [List.mem_cons, List.not_mem_nil, or_false, forall_eq] at o13
      have RR_13 := RR.chg (Chg.kept hk13) (fun _ h => h)
      have hk : x2.toNat = W.fits.length := by omega
      rw [hk] at hn RR_13
      exact ⟨a1, m4, by rw [hn, checkE_ok.2 hW, LooseM, if_pos hW], hb13, by rw [LooseM, if_pos hW]; exact Lies.new RR_13.cells RR_13.new (by simp)⟩

set_option maxRecDepth 100000 in
theorem works_l {w : World} {W : Wk} {pa fa : Option Addr} {pc fc : Nat} (hp : CellsS w pa W.pats) (hf : Cells w fa (fitsV W.fits)) (hS : Small W) : Calls Try.prog 15 #[W.v pa pc fa fc] w (fun e w' => ∃ pa' pc' fa' fc', e = .returned (W.v pa' pc' fa' fc') ∧ Below w.heap.size w w' ∧ LiesS w.heap.size w'.heap.size w' pa' W.pats ∧ Lies [] w.heap.size w'.heap.size w' fa' (fitsV W.fits)) := by
  have hm := hS.m; have hn := hS.n
  refine vc15 _ _ _ _ _ _ w _ ?_
  intro m1 g_m1 m2 g_m2 m3 g_m3 w1 hb1 hk1 hc1_m3
  have y1 := hb1.size
  have z1 := hk1.size; have o1 := hk1.own
  simp only [List.mem_cons, List.not_mem_nil, or_false, forall_eq_or_imp, forall_eq] at o1
  refine append_copy (P := Try.prog) (e := 67) (bytes := 48) (size := 6) (by kernel_rfl) (by omega) (hf.keep hb1) (fitsV_len _) (by omega) (by omega) fun aC2 cC2 w2 hd2 hC2 nC2 xC2 rC2 => ?_
  have hb2 := hb1.trans (hd2.mono hb1.size)
  have z2 := hd2.size
  have C2_2 : Lies [] w1.heap.size w2.heap.size w2 aC2 _ := Lies.new hC2 nC2 (by simp)
  refine ⟨_, _, _, rfl, .all hd2, ?_⟩
  intro m8 g_m8
  refine ⟨fun ls w' => match ls with | [.int _ ii, .sl a n c, .sl a3 n3 c3] => (0 ≤ ii ∧ ii ≤ W.pats.length) ∧ n3 = W.fits.length ∧ w2.heap.size ≤ w'.heap.size ∧ NRow patN w2.heap.size [m3, m8, m2, m1] a n c (W.pats.take ii.toNat) [] w' ∧ Lies [] w1.heap.size w2.heap.size w' a3 (fitsV W.fits) | _ => False, fun ls => match ls with | [.int _ ii, _, _] => (W.pats.length - ii).toNat | _ => 0, ?_, ?_⟩
  · intro w4 hb4 hk4
    have y4 := hb4.size
    have z4 := hk4.size; have o4 := hk4.own
    simp only [List.mem_cons, List.not_mem_nil, or_false, forall_eq_or_imp, forall_eq] at o4
    have C2_4 := C2_2.ko hk4 (allc (.inl (by omega)) (allc (.inr (by omega)) (allc (.inl (by omega)) (allc (.inl (by omega)) all0))))
    exact ⟨⟨by omega, by omega⟩, rfl, by omega, NRow.of (.inr Row.nil), C2_4⟩
  rintro x1 a2 m9 m10 a3 m11 m12 w5 hb5 ⟨⟨x0, xl⟩, rfl, zz, RR, FF⟩
  have y5 := hb5.size
  have hRn := RR.holds.1
  rw [List.length_take] at hRn
  refine ⟨?_, ?_⟩
  · intro h1 m13 g_m13
    try simp only [Bool.not_eq_true', Bool.not_eq_false', decide_eq_true_eq, decide_eq_false_iff_not] at h1
    refine load_pat hp hb5 (by omega) fun m14 m15 hm1 a4 m17 hs1 => ?_
    have hpl : (W.pats.getD x1.toNat []).length ≤ 1000 := hS.pat x1
    refine ⟨(by first | omega | (simp only; omega)), ?_⟩
    intro w6 hb6 hk6 hc6_m13
    have y6 := hb6.size
    have z6 := hk6.size; have o6 := hk6.own
    simp only [List.mem_cons, List.not_mem_nil, or_false, forall_eq_or_imp, forall_eq] at o6
    have FF_6 := FF.kio hk6 (allc (.inr (by omega)) (allc (.inl (by omega)) (allc (.inr (by omega)) (allc (.inl (by omega)) (allc (.inl (by omega)) all0))))) ⟨(0, w5.heap.size), by simp, by simp only; omega, by simp only; omega⟩
    have RR_6 := (RR.grow (ms := [m13]) (allc g_m13 all0)).chg (KeptIn.chg hk6) (fun _ h => h)
    refine append_copy (P := Try.prog) (e := 42) (bytes := 16) (size := 2) (by kernel_rfl) (by omega) (hs1.keep hb6) (spansV_len _) (by omega) (by omega) fun aC7 cC7 w7 hd7 hC7 nC7 xC7 rC7 => ?_
    have hb7 := hb6.trans (hd7.mono hb6.size)
    have z7 := hd7.size
    have FF_7 := FF_6.below hd7
    have C7_7 : Lies [] w6.heap.size w7.heap.size w7 aC7 _ := Lies.new hC7 nC7 (by simp)
    have RR_7 := RR_6.sub (x := W.pats.getD x1.toNat []) hd7 C7_7 (by omega) hk6.own
    refine ⟨_, _, _, rfl, .all hd7, ?_⟩
    intro m22 g_m22 w8 hb8 hk8 hc8_m22
    have y8 := hb8.size
    have z8 := hk8.size; have o8 := hk8.own
    simp only [List.mem_cons, List.not_mem_nil, or_false, forall_eq_or_imp, forall_eq] at o8
    have FF_8 := FF_7.kio hk8 (allc (.inr (by omega)) (allc (.inr (by omega)) (allc (.inl (by omega)) (allc (.inr (by omega)) (allc (.inl (by omega)) (allc (.inl (by omega)) all0)))))) ⟨(0, w7.heap.size), by simp, by simp only; omega, by simp only; omega⟩
    have C7_8 := C7_7.kio hk8 (allc (.inr (by omega)) (allc (.inl (by omega)) (allc (.inl (by omega)) (allc (.inl (by omega)) (allc (.inl (by omega)) (allc (.inl (by omega)) all0)))))) ⟨(0, w7.heap.size), by simp, by simp only; omega, by simp only; omega⟩
    have RR_8 := (RR_7.grow (ms := [m22]) (allc g_m22 all0)).chg (KeptIn.chg hk8) (fun _ h => h)
    refine NRow.append (P := Try.prog) (bytes := 24) (by kernel_rfl) RR_8 (Cells.obj (vs := [.slice aC7 _ _]) hc8_m22) (List.forall_mem_cons.2 ⟨rfl, by simp⟩) (by omega) (by omega) (by omega) hk8.own fun aR9 cR9 w9 RR_9 S9 cS9 hS9 => ?_
    have z9 := cS9.size
    have kx9 : KeepX true w.heap.size [m22, m13, m3, m8, m2, m1] (fun _ => False) w8 w9 := cS9.own (fun x hx => ⟨hk8.own x hx, fun h => (hS9 x h).2 hx⟩) (by simp) (fun _ => ⟨hb8.size, fun x hx => by have := (hS9 x hx).1; omega⟩)
    have FF_9 := FF_8.out cS9 (fun x hx => by have := (hS9 x hx).1; omega)
    refine ⟨_, _, _, rfl, kx9, (by first | omega | (simp only; omega)), ?_⟩
    intro w10 hb10 hk10
    have y10 := hb10.size
    have z10 := hk10.size; have o10 := hk10.own
    simp only [List.mem_cons, List.not_mem_nil, or_false, forall_eq_or_imp, forall_eq] at o10
    have FF_10 := FF_9.ko hk10 (allc (.inr (by omega)) (allc (.inr (by omega)) (allc (.inl (by omega)) (allc (.inr (by omega)) (allc (.inl (by omega)) (allc (.inl (by omega)) all0))))))
    have RR_10 := RR_9.chg (Chg.kept hk10) (fun _ h => h)
    refine ⟨?_, (by first | omega | (simp only; omega))⟩
    exact ⟨⟨by omega, by omega⟩, rfl, by omega, by rw [show (x1 + 1).toNat = x1.toNat + 1 by omega, take_getD (d := []) (by omega)]; exact RR_10.less (by simp), FF_10⟩
  · intro h2 w11 hb11 hk11
    try simp only [Bool.not_eq_true', Bool.not_eq_false', decide_eq_true_eq, decide_eq_false_iff_not] at h2
    have y11 := hb11.size
    have z11 := hk11.size; have o11 := hk11.own
    simp only [List.mem_cons, List.not_mem_nil, or_false, forall_eq_or_imp, forall_eq] at o11
    have FF_11 := FF.ko hk11 (allc (.inl (by omega)) (allc (.inr (by omega)) (allc (.inl (by omega)) (allc (.inl (by omega)) all0))))
    have RR_11 := RR.chg (Chg.kept hk11) (fun _ h => h)
    have hk : x1.toNat = W.pats.length := by omega
    rw [hk, List.take_length] at RR_11
    have hh := RR_11.holds
    exact ⟨a2, m10, a3, m12, by rw [hh.1], hb11, liesS_of RR_11 (by omega), FF_11.to (by omega) (by omega)⟩

end Go.Proofs.R12
end
section
/- Equality of structs. -/
namespace Go.Proofs.R12
open Go.Vc Go.RowKit Go.Proofs
theorem eqr_span (a0 a1 : Int) (w : World) : (Op.equal 42 (.agg #[I a0, I a1]) (.agg #[I a0, I a1])).run Try.prog w = .ok true w := by
  have hS : Try.prog.underlying 42 = some (.struct (Try.prog.fieldsOf 42)) := by kernel_rfl
  show (Op.equalIn (9999 + 1) 42 _ _).run _ _ = _
  have hp : Try.prog.stoodInHeld 42 = false := by kernel_rfl
  rw [run_equalIn_agg w 9999 42 _ _ hS hp]
  simp only [Program.fieldsOf, Try.underlying42]
  have p0 : (part 3 #[I a0, I a1] 0).run Try.prog w = .ok (I a0) w := by kernel_rfl
  have u0 : Try.prog.underlying 3 = some (.int .i64) := by kernel_rfl
  have q0 : (Op.equalIn 9999 3 (I a0) (I a0)).run Try.prog w = .ok true w := by rw [run_equalIn_int w 9998 3 _ _ _ _ u0]; simp
  have p1 : (part 3 #[I a0, I a1] 1).run Try.prog w = .ok (I a1) w := by kernel_rfl
  have u1 : Try.prog.underlying 3 = some (.int .i64) := by kernel_rfl
  have q1 : (Op.equalIn 9999 3 (I a1) (I a1)).run Try.prog w = .ok true w := by rw [run_equalIn_int w 9998 3 _ _ _ _ u1]; simp
  simp [Op.eqFields, p0, p1, q0, q1, Sem.run_bind, Sem.run_pure]
theorem grd_span (op : BinOp) (x y : Operand) (a0 a1 : Int) (w : World) : (eqGuard op 42 x y (.agg #[I a0, I a1]) (.agg #[I a0, I a1])).run Try.prog w = .ok () w := by cases op <;> kernel_rfl
theorem eqlr_span {x y : Operand} {a0 a1 : Int} {w : World} {R : Value → World → Prop} (h : R (.bool true) w) : RunsTo Try.prog ((eqGuard .eql 42 x y (.agg #[I a0, I a1]) (.agg #[I a0, I a1])) >>= fun _ => binOp .eql 42 (.agg #[I a0, I a1]) (.agg #[I a0, I a1])) w R := by
  refine ⟨_, w, ?_, h⟩
  simp only [Sem.run_bind, grd_span, Result.andThen_ok, binOp, eqr_span, Sem.run_pure]
  try rfl
theorem eqr_span' (a0 a1 : Int) (w : World) : (Op.equalIn 9999 42 (.agg #[I a0, I a1]) (.agg #[I a0, I a1])).run Try.prog w = .ok true w := by
  have hS : Try.prog.underlying 42 = some (.struct (Try.prog.fieldsOf 42)) := by kernel_rfl
  show (Op.equalIn (9998 + 1) 42 _ _).run _ _ = _
  have hp : Try.prog.stoodInHeld 42 = false := by kernel_rfl
  rw [run_equalIn_agg w 9998 42 _ _ hS hp]
  simp only [Program.fieldsOf, Try.underlying42]
  have p0 : (part 3 #[I a0, I a1] 0).run Try.prog w = .ok (I a0) w := by kernel_rfl
  have u0 : Try.prog.underlying 3 = some (.int .i64) := by kernel_rfl
  have q0 : (Op.equalIn 9998 3 (I a0) (I a0)).run Try.prog w = .ok true w := by rw [run_equalIn_int w 9997 3 _ _ _ _ u0]; simp
  have p1 : (part 3 #[I a0, I a1] 1).run Try.prog w = .ok (I a1) w := by kernel_rfl
  have u1 : Try.prog.underlying 3 = some (.int .i64) := by kernel_rfl
  have q1 : (Op.equalIn 9998 3 (I a1) (I a1)).run Try.prog w = .ok true w := by rw [run_equalIn_int w 9997 3 _ _ _ _ u1]; simp
  simp [Op.eqFields, p0, p1, q0, q1, Sem.run_bind, Sem.run_pure]
theorem eqr_fit (a0 a1 a2 a3 a4 a5 : Int) (w : World) : (Op.equal 67 (.agg #[I a0, I a1, I a2, I a3, I a4, I a5]) (.agg #[I a0, I a1, I a2, I a3, I a4, I a5])).run Try.prog w = .ok true w := by
  have hS : Try.prog.underlying 67 = some (.struct (Try.prog.fieldsOf 67)) := by kernel_rfl
  show (Op.equalIn (9999 + 1) 67 _ _).run _ _ = _
  have hp : Try.prog.stoodInHeld 67 = false := by kernel_rfl
  rw [run_equalIn_agg w 9999 67 _ _ hS hp]
  simp only [Program.fieldsOf, Try.underlying67]
  have p0 : (part 3 #[I a0, I a1, I a2, I a3, I a4, I a5] 0).run Try.prog w = .ok (I a0) w := by kernel_rfl
  have u0 : Try.prog.underlying 3 = some (.int .i64) := by kernel_rfl
  have q0 : (Op.equalIn 9999 3 (I a0) (I a0)).run Try.prog w = .ok true w := by rw [run_equalIn_int w 9998 3 _ _ _ _ u0]; simp
  have p1 : (part 3 #[I a0, I a1, I a2, I a3, I a4, I a5] 1).run Try.prog w = .ok (I a1) w := by kernel_rfl
  have u1 : Try.prog.underlying 3 = some (.int .i64) := by kernel_rfl
  have q1 : (Op.equalIn 9999 3 (I a1) (I a1)).run Try.prog w = .ok true w := by rw [run_equalIn_int w 9998 3 _ _ _ _ u1]; simp
  have p2 : (part 3 #[I a0, I a1, I a2, I a3, I a4, I a5] 2).run Try.prog w = .ok (I a2) w := by kernel_rfl
  have u2 : Try.prog.underlying 3 = some (.int .i64) := by kernel_rfl
  have q2 : (Op.equalIn 9999 3 (I a2) (I a2)).run Try.prog w = .ok true w := by rw [run_equalIn_int w 9998 3 _ _ _ _ u2]; simp
  have p3 : (part 3 #[I a0, I a1, I a2, I a3, I a4, I a5] 3).run Try.prog w = .ok (I a3) w := by kernel_rfl
  have u3 : Try.prog.underlying 3 = some (.int .i64) := by kernel_rfl
  have q3 : (Op.equalIn 9999 3 (I a3) (I a3)).run Try.prog w = .ok true w := by rw [run_equalIn_int w 9998 3 _ _ _ _ u3]; simp
  have p4 : (part 42 #[I a0, I a1, I a2, I a3, I a4, I a5] 4).run Try.prog w = .ok (.agg #[I a4, I a5]) w := by kernel_rfl
  have q4 := eqr_span' a4 a5 w
  simp [Op.eqFields, p0, p1, p2, p3, p4, q0, q1, q2, q3, q4, Sem.run_bind, Sem.run_pure]
theorem grd_fit (op : BinOp) (x y : Operand) (a0 a1 a2 a3 a4 a5 : Int) (w : World) : (eqGuard op 67 x y (.agg #[I a0, I a1, I a2, I a3, I a4, I a5]) (.agg #[I a0, I a1, I a2, I a3, I a4, I a5])).run Try.prog w = .ok () w := by cases op <;> kernel_rfl
theorem eqr_gap (a0 a1 a2 : Int) (w : World) : (Op.equal 37 (.agg #[I a0, I a1, I a2]) (.agg #[I a0, I a1, I a2])).run Try.prog w = .ok true w := by
  have hS : Try.prog.underlying 37 = some (.struct (Try.prog.fieldsOf 37)) := by kernel_rfl
  show (Op.equalIn (9999 + 1) 37 _ _).run _ _ = _
  have hp : Try.prog.stoodInHeld 37 = false := by kernel_rfl
  rw [run_equalIn_agg w 9999 37 _ _ hS hp]
  simp only [Program.fieldsOf, Try.underlying37]
  have p0 : (part 3 #[I a0, I a1, I a2] 0).run Try.prog w = .ok (I a0) w := by kernel_rfl
  have u0 : Try.prog.underlying 3 = some (.int .i64) := by kernel_rfl
  have q0 : (Op.equalIn 9999 3 (I a0) (I a0)).run Try.prog w = .ok true w := by rw [run_equalIn_int w 9998 3 _ _ _ _ u0]; simp
  have p1 : (part 3 #[I a0, I a1, I a2] 1).run Try.prog w = .ok (I a1) w := by kernel_rfl
  have u1 : Try.prog.underlying 3 = some (.int .i64) := by kernel_rfl
  have q1 : (Op.equalIn 9999 3 (I a1) (I a1)).run Try.prog w = .ok true w := by rw [run_equalIn_int w 9998 3 _ _ _ _ u1]; simp
  have p2 : (part 3 #[I a0, I a1, I a2] 2).run Try.prog w = .ok (I a2) w := by kernel_rfl
  have u2 : Try.prog.underlying 3 = some (.int .i64) := by kernel_rfl
  have q2 : (Op.equalIn 9999 3 (I a2) (I a2)).run Try.prog w = .ok true w := by rw [run_equalIn_int w 9998 3 _ _ _ _ u2]; simp
  simp [Op.eqFields, p0, p1, p2, q0, q1, q2, Sem.run_bind, Sem.run_pure]
theorem grd_gap (op : BinOp) (x y : Operand) (a0 a1 a2 : Int) (w : World) : (eqGuard op 37 x y (.agg #[I a0, I a1, I a2]) (.agg #[I a0, I a1, I a2])).run Try.prog w = .ok () w := by cases op <;> kernel_rfl
theorem eqlr_gap {x y : Operand} {a0 a1 a2 : Int} {w : World} {R : Value → World → Prop} (h : R (.bool true) w) : RunsTo Try.prog ((eqGuard .eql 37 x y (.agg #[I a0, I a1, I a2]) (.agg #[I a0, I a1, I a2])) >>= fun _ => binOp .eql 37 (.agg #[I a0, I a1, I a2]) (.agg #[I a0, I a1, I a2])) w R := by
  refine ⟨_, w, ?_, h⟩
  simp only [Sem.run_bind, grd_gap, Result.andThen_ok, binOp, eqr_gap, Sem.run_pure]
  try rfl
theorem eqr_con (a0 a1 a2 : Int) (w : World) : (Op.equal 80 (.agg #[I a0, I a1, I a2]) (.agg #[I a0, I a1, I a2])).run Try.prog w = .ok true w := by
  have hS : Try.prog.underlying 80 = some (.struct (Try.prog.fieldsOf 80)) := by kernel_rfl
  show (Op.equalIn (9999 + 1) 80 _ _).run _ _ = _
  have hp : Try.prog.stoodInHeld 80 = false := by kernel_rfl
  rw [run_equalIn_agg w 9999 80 _ _ hS hp]
  simp only [Program.fieldsOf, Try.underlying80]
  have p0 : (part 3 #[I a0, I a1, I a2] 0).run Try.prog w = .ok (I a0) w := by kernel_rfl
  have u0 : Try.prog.underlying 3 = some (.int .i64) := by kernel_rfl
  have q0 : (Op.equalIn 9999 3 (I a0) (I a0)).run Try.prog w = .ok true w := by rw [run_equalIn_int w 9998 3 _ _ _ _ u0]; simp
  have p1 : (part 3 #[I a0, I a1, I a2] 1).run Try.prog w = .ok (I a1) w := by kernel_rfl
  have u1 : Try.prog.underlying 3 = some (.int .i64) := by kernel_rfl
  have q1 : (Op.equalIn 9999 3 (I a1) (I a1)).run Try.prog w = .ok true w := by rw [run_equalIn_int w 9998 3 _ _ _ _ u1]; simp
  have p2 : (part 3 #[I a0, I a1, I a2] 2).run Try.prog w = .ok (I a2) w := by kernel_rfl
  have u2 : Try.prog.underlying 3 = some (.int .i64) := by kernel_rfl
  have q2 : (Op.equalIn 9999 3 (I a2) (I a2)).run Try.prog w = .ok true w := by rw [run_equalIn_int w 9998 3 _ _ _ _ u2]; simp
  simp [Op.eqFields, p0, p1, p2, q0, q1, q2, Sem.run_bind, Sem.run_pure]
theorem grd_con (op : BinOp) (x y : Operand) (a0 a1 a2 : Int) (w : World) : (eqGuard op 80 x y (.agg #[I a0, I a1, I a2]) (.agg #[I a0, I a1, I a2])).run Try.prog w = .ok () w := by cases op <;> kernel_rfl
end Go.Proofs.R12
end
section
/- Contracts: comparisons; the reference's small functions. -/
namespace Go.Proofs.R12
open Go.Vc Go.RowKit Go.Proofs
def Tight (W : Wk) : Prop := ∀ p ∈ W.pats, ∀ s ∈ p, s.2 - s.1 ≤ 100
instance (W : Wk) : Decidable (Tight W) := by unfold Tight; exact inferInstance
def badR (f : Fit) (hs ss : Sp) : Int × Int × Bool := if (badM f hs ss).2.2 then badM f hs ss else (0, 0, false)
section
variable {f : Fit} {hs ss : Sp} (g : -1000000 ≤ f.gap.1 ∧ f.gap.1 ≤ f.gap.2 ∧ f.gap.2 ≤ 1000000) (h1 : 0 ≤ hs.1 ∧ hs.1 ≤ hs.2 ∧ hs.2 ≤ 1000000) (h2 : 0 ≤ ss.1 ∧ ss.1 ≤ ss.2 ∧ ss.2 ≤ 1000000)
include g h1 h2
end

theorem Ints_any {w : World} {l : List Int} {a b : Option Addr} {ac bc : Nat} (ha : Cells w a (ints l)) (hb : Cells w b (ints l)) (hl : l.length ≤ 17592186044000) : Calls Try.prog 32 #[.slice a l.length ac, .slice b l.length bc] w (Pure w (.bool true)) := by
  refine vc32 _ _ _ _ _ _ w _ ?_
  refine ⟨?_, ?_⟩
  · intro h1 w1 hb1 hk1
    try simp only [Bool.not_eq_true', Bool.not_eq_false', decide_eq_true_eq, decide_eq_false_iff_not] at h1
    exact absurd rfl (by assumption)
  · intro h2
    try simp only [] at h2
    refine ⟨fun ls _ => match ls with | [.bool _, .int _ ii] => 0 ≤ ii ∧ ii ≤ l.length | _ => False, fun ls => match ls with | [_, .int _ ii] => (l.length - ii).toNat | _ => 0, ?_, ?_⟩
    · intro w3 hb3 hk3
      exact ⟨by omega, by omega⟩
    rintro t1 x1 w4 hb4 ⟨x1l, x1h⟩
    refine ⟨?_, ?_⟩
    · intro h3
      try simp only [Bool.not_eq_true', Bool.not_eq_false', decide_eq_true_eq, decide_eq_false_iff_not] at h3
      refine load_int ha hb4 (by omega) fun m1 m2 hm1 => ?_
      refine load_int hb hb4 (by omega) fun m3 m4 hm2 => ?_
      refine ⟨?_, ?_⟩
      · intro h4 w5 hb5 hk5
        try simp only [Bool.not_eq_true', Bool.not_eq_false', decide_eq_true_eq, decide_eq_false_iff_not] at h4
        exact absurd rfl (by assumption)
      · intro h5
        try simp only [] at h5
        refine ⟨(by first | omega | (simp only; omega)), ?_⟩
        intro w6 hb6 hk6
        refine ⟨?_, (by first | omega | (simp only; omega))⟩
        exact ⟨by omega, by omega⟩
    · intro h6 w7 hb7 hk7
      try simp only [Bool.not_eq_true', Bool.not_eq_false', decide_eq_true_eq, decide_eq_false_iff_not] at h6
      exact ⟨by rfl, hb7⟩

end Go.Proofs.R12
end
section
/- Contracts: loose fits, replacements. -/
namespace Go.Proofs.R12
open Go.Vc Go.RowKit Go.Proofs
theorem row_cap {e size B : Nat} {ns : List Nat} {a : Option Addr} {n c : Nat} {xs : List Value} {w : World} (h : Row e size B ns a n c xs w) : n ≤ c := by
  rcases h.own.2 with ⟨h1, h2⟩ | ⟨g, cap, cur, h1, _, _, h2, _⟩
  · omega
  · simp only [Value.slice.injEq] at h1
    rw [h1.2.2]; exact h2
/-- Replacements before a year, of the first k contracts. -/
def sumB (lf : Int) (l : List Con) (year : Int) : Nat → Int
  | 0 => 0
  | k + 1 => sumB lf l year k + mostM (l.getD k ⟨0, 0, 0⟩) year lf
theorem sumB_succ (lf : Int) (l : List Con) (year : Int) (k : Nat) : sumB lf l year (k + 1) = sumB lf l year k + mostM (l.getD k ⟨0, 0, 0⟩) year lf := rfl
theorem okCon_get {l : List Con} (h : ∀ x ∈ l, okCon x) {i : Nat} (hi : i < l.length) : okCon (l.getD i ⟨0, 0, 0⟩) := (all_getD (d := ⟨0, 0, 0⟩)).1 h i hi
theorem mostM_bd {x : Con} (h : okCon x) {y l : Int} (hl : 1 ≤ l) (hy : 0 ≤ y ∧ y ≤ 1000) : 0 ≤ mostM x y l ∧ mostM x y l ≤ 2000000 := by
  unfold okCon at h
  exact most_mul h.1 trivial (most_bd2 hl (by omega))
theorem sumB_bd {l : List Con} (h : ∀ x ∈ l, okCon x) {lf year : Int} (h1 : 1 ≤ lf) (hy : 0 ≤ year ∧ year ≤ 1000) : ∀ k, k ≤ l.length → 0 ≤ sumB lf l year k ∧ sumB lf l year k ≤ 2000000 * k
  | 0, _ => by simp [sumB]
  | k + 1, hk => by
    have := sumB_bd h h1 hy k (by omega)
    have := mostM_bd (okCon_get h (i := k) (by omega)) h1 hy
    rw [sumB_succ]; omega
theorem before_any {w : World} (lf : Sp) (year : Int) (g1 : 1 ≤ lf.1 ∧ lf.1 ≤ 200) (hy : 0 ≤ year ∧ year ≤ 1000) {m n : Nat} {l : List Con} {la : Option Addr} {lc : Nat} (hc : Cells w la (consV l)) (hok : ∀ x ∈ l, okCon x) (hl : l.length ≤ 60) (q0 : w.cell? ⟨m, 0, none⟩ = some (.slice la l.length lc)) (q1 : w.cell? ⟨n, 0, none⟩ = some (I lf.1)) : Calls Try.prog 73 #[I year, .pointer (some ⟨m, 0, none⟩), .pointer (some ⟨n, 0, none⟩)] w (Pure w (I (sumB lf.1 l year l.length))) := by
  refine vc73 _ _ _ w _ ?_
  refine ⟨_, _, _, cell_at' (q0) (by omega), ?_⟩
  refine ⟨fun ls _ => match ls with | [.int _ u, .int _ ii] => (0 ≤ ii ∧ ii ≤ l.length) ∧ u = sumB lf.1 l year ii.toNat | _ => False, fun ls => match ls with | [_, .int _ ii] => (l.length - ii).toNat | _ => 0, ?_, ?_⟩
  · intro w2 hb2 hk2
    exact ⟨⟨by omega, by omega⟩, rfl⟩
  rintro x1 x2 w3 hb3 ⟨⟨x0, xl⟩, rfl⟩
  refine ⟨?_, ?_⟩
  · intro h1
    try simp only [Bool.not_eq_true', Bool.not_eq_false', decide_eq_true_eq, decide_eq_false_iff_not] at h1
    refine load_con hc hb3 (by omega) fun m3 m4 hm1 => ?_
    have hcon := okCon_get hok (i := x2.toNat) (by omega)
    have hmb := mostM_bd hcon (y := year) (l := lf.1) g1.1 hy
    have hsb := sumB_bd hok g1.1 hy x2.toNat (by omega)
    intro m5 g_m5
    refine ⟨_, cell_at' (cell_keep hb3 q1) (by omega), .inl (cell_lt q1), ?_⟩
    intro w4 hb4 hk4
    refine Pure.calls (most_any (l.getD x2.toNat ⟨0, 0, 0⟩) year lf.1 hcon hy g1.1) fun w5 hd5 => ?_
    have hb5 := hb4.trans (hd5.mono hb4.size)
    refine ⟨_, rfl, .all hd5, (by first | omega | (simp only; omega)), (by first | omega | (simp only; omega)), ?_⟩
    intro w6 hb6 hk6
    refine ⟨?_, (by first | omega | (simp only; omega))⟩
    exact ⟨⟨by omega, by omega⟩, by rw [show (x2 + 1).toNat = x2.toNat + 1 by omega]; rfl⟩
  · intro h2 w7 hb7 hk7
    try simp only [Bool.not_eq_true', Bool.not_eq_false', decide_eq_true_eq, decide_eq_false_iff_not] at h2
    exact ⟨by rw [show l.length = x2.toNat by omega], hb7⟩

end Go.Proofs.R12
end
