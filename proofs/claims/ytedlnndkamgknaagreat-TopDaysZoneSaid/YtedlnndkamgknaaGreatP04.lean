/- Part 4: own lemmas, and the conditions of the functions. -/
import Derived.Test.YtedlnndkamgknaaGreatProg
import Derived.Test.YtedlnndkamgknaaGreatP03
section
/- The conditions of the functions, printed by program; each is what the generator reckons (kernel_rfl). -/
namespace Go.Proofs
open Go.Vc
set_option maxRecDepth 100000 in
set_option maxHeartbeats 2000000 in
theorem vc119 (sa : Option Addr) (sn : Nat) (sc : Nat) (ff : Nat) (fi : List Value) (fc : List Value) (w : World) (R : Ending → World → Prop) (h : ∃ (F1 : List Lf → World → Prop),
    ∃ (F2 : List Lf → Nat), (∀ (w2 : World), RowKit.Below w.heap.size w w2 → Kept [] w w2 → F1 [Lf.int IntKind.i64 0, Lf.int IntKind.i64 0] w2) ∧ ∀ (x1 x2 : Int) (w3 : World),
    RowKit.Below w.heap.size w w3 → F1 [Lf.int IntKind.i64 x1, Lf.int IntKind.i64 x2] w3 → (x2 < (↑sn : Int) → ∃ (m1 : Nat), ∃ (m2 : Nat), sa = some { block := m1, off := m2 } ∧ (0
    ≤ x2 ∧ x2 < (↑sn : Int)) ∧ ∃ (x3 : Int), w3.cell? { block := m1, off := m2 + x2.toNat * 1 } = some (Value.int IntKind.i64 x3) ∧ Callable Tryz.prog ff ∧ ∀ (w4 : World),
    RowKit.Below w.heap.size w w4 → Kept [] w3 w4 → Calls Tryz.prog ff (fi ++ [Value.int IntKind.i64 x3] ++ fc).toArray w4 fun (e1 : Ending) (w5 : World) => ∃ (t1 : Bool), e1 =
    Ending.returned (Value.bool t1) ∧ KeepX true w.heap.size [] (fun _ => False) w4 w5 ∧ (t1 = true → ∀ (w6 : World), RowKit.Below w.heap.size w w6 → Kept [] w5 w6 → R
    (Ending.returned (Value.int IntKind.i64 x2)) w6) ∧ (t1 = false → (-9223372036854775808 ≤ x2 + 1 ∧ x2 + (1 : Int) ≤ 9223372036854775807) ∧ ∀ (w7 : World), RowKit.Below
    w.heap.size w w7 → Kept [] w5 w7 → F1 [Lf.int IntKind.i64 x1, Lf.int IntKind.i64 (x2 + 1)] w7 ∧ F2 [Lf.int IntKind.i64 x1, Lf.int IntKind.i64 (x2 + 1)] < F2 [Lf.int IntKind.i64
    x1, Lf.int IntKind.i64 x2])) ∧ ((↑sn : Int) ≤ x2 → ∀ (w8 : World), RowKit.Below w.heap.size w w8 → Kept [] w3 w8 → R (Ending.returned (Value.int IntKind.i64 (-1))) w8)) : Calls
    Tryz.prog 119 #[Value.slice sa sn sc, Value.func (Fn.func ff) fi.toArray fc.toArray] w R := calls_of_vc (pure := true) (wrapAt := []) (muts := []) (esc := []) (args := [SV.pv
    (PV.one (Lf.sl sa sn sc)), SV.pv (PV.one (Lf.fv ff fi fc))]) (vs := [Value.slice sa sn sc, Value.func (Fn.func ff) fi.toArray fc.toArray]) Tryz.func119 rfl rfl rfl (Eq.mp (by
    kernel_rfl) h) 
set_option maxRecDepth 100000 in
set_option maxHeartbeats 2000000 in
theorem vc60 (sa : Option Addr) (sn : Nat) (sc : Nat) (ff : Nat) (fi : List Value) (fc : List Value) (w : World) (R : Ending → World → Prop) (h : ∀ (w1 : World), RowKit.Below
    w.heap.size w w1 → Kept [] w w1 → Calls Tryz.prog 119 #[Value.slice sa sn sc, Value.func (Fn.func ff) fi.toArray fc.toArray] w1 fun (e1 : Ending) (w2 : World) => ∃ (x1 : Int),
    e1 = Ending.returned (Value.int IntKind.i64 x1) ∧ KeepX true w.heap.size [] (fun _ => False) w1 w2 ∧ ∀ (w3 : World), RowKit.Below w.heap.size w w3 → Kept [] w2 w3 → R
    (Ending.returned (Value.bool (decide (0 ≤ x1)))) w3) : Calls Tryz.prog 60 #[Value.slice sa sn sc, Value.func (Fn.func ff) fi.toArray fc.toArray] w R := calls_of_vc (pure :=
    true) (wrapAt := []) (muts := []) (esc := []) (args := [SV.pv (PV.one (Lf.sl sa sn sc)), SV.pv (PV.one (Lf.fv ff fi fc))]) (vs := [Value.slice sa sn sc, Value.func (Fn.func ff)
    fi.toArray fc.toArray]) Tryz.func60 rfl rfl rfl (Eq.mp (by kernel_rfl) h) 
set_option maxRecDepth 100000 in
set_option maxHeartbeats 2000000 in
theorem vc61 (n : Int) (cap0b : Nat) (cap1b : Nat) (w : World) (R : Ending → World → Prop) (h : ∃ (x1 : Int), w.cell? { block := cap0b, off := 0 } = some (Value.int IntKind.i64 x1)
    ∧ (n < x1 → ∀ (w1 : World), RowKit.Below w.heap.size w w1 → Kept [] w w1 → R (Ending.returned (Value.bool true)) w1) ∧ (x1 ≤ n → ∃ (x2 : Int), w.cell?
    { block := cap1b, off := 0 } = some (Value.int IntKind.i64 x2) ∧ ∀ (w2 : World), RowKit.Below w.heap.size w w2 → Kept [] w w2 → R (Ending.returned (Value.bool (decide (x2 <
    n)))) w2)) : Calls Tryz.prog 61 #[Value.int IntKind.i64 n, Value.pointer (some { block := cap0b, off := 0 }), Value.pointer (some { block := cap1b, off := 0 })] w R :=
    calls_of_vc (pure := true) (wrapAt := []) (muts := []) (esc := []) (args := [SV.pv (PV.one (Lf.int IntKind.i64 n)), SV.pv (PV.one (Lf.ptr cap0b 0)), SV.pv (PV.one (Lf.ptr cap1b
    0))]) (vs := [Value.int IntKind.i64 n, Value.pointer (some { block := cap0b, off := 0 }), Value.pointer (some { block := cap1b, off := 0 })]) Tryz.func61 rfl rfl rfl (Eq.mp (by
    kernel_rfl) h) 
set_option maxRecDepth 100000 in
set_option maxHeartbeats 2000000 in
theorem vc24 (least : Int) (most : Int) (la : Option Addr) (ln : Nat) (lc : Nat) (w : World) (R : Ending → World → Prop) (h : ∀ (m1 : Nat), w.heap.size ≤ m1 → ∀ (m2 : Nat),
    w.heap.size ≤ m2 → ∀ (w1 : World), RowKit.Below w.heap.size w w1 → Kept [m2, m1] w w1 → w1.heap[m1]? = some (Obj.cells #[Value.int IntKind.i64 least] 3) → w1.heap[m2]? = some
    (Obj.cells #[Value.int IntKind.i64 most] 3) → Calls Tryz.prog 60 #[Value.slice la ln lc, Value.func (Fn.func 61) #[] #[Value.pointer (some { block := m1, off := 0 }),
    Value.pointer (some { block := m2, off := 0 })]] w1 fun (e1 : Ending) (w2 : World) => ∃ (t1 : Bool), e1 = Ending.returned (Value.bool t1) ∧ KeepX true w.heap.size [m2, m1] (fun
    _ => False) w1 w2 ∧ ∀ (w3 : World), RowKit.Below w.heap.size w w3 → Kept [m2, m1] w2 w3 → R (Ending.returned (Value.bool !t1)) w3) : Calls Tryz.prog 24 #[Value.int IntKind.i64
    least, Value.int IntKind.i64 most, Value.slice la ln lc] w R := calls_of_vc (pure := true) (wrapAt := []) (muts := []) (esc := []) (args := [SV.pv (PV.one (Lf.int IntKind.i64
    least)), SV.pv (PV.one (Lf.int IntKind.i64 most)), SV.pv (PV.one (Lf.sl la ln lc))]) (vs := [Value.int IntKind.i64 least, Value.int IntKind.i64 most, Value.slice la ln lc])
    Tryz.func24 rfl rfl rfl (Eq.mp (by kernel_rfl) h) 
set_option maxRecDepth 100000 in
set_option maxHeartbeats 2000000 in
theorem vc59 (n : Int) (w : World) (R : Ending → World → Prop) (h : ∀ (m1 : Nat), w.heap.size ≤ m1 → ∀ (w1 : World), RowKit.Below w.heap.size w w1 → Kept [m1] w w1 → w1.heap[m1]? =
    some (Obj.cells #[Value.int IntKind.i64 n] 3) → Calls Tryz.prog 24 #[Value.int IntKind.i64 (-43200), Value.int IntKind.i64 43200, Value.slice (some { block := m1, off := 0 }) 1
    1] w1 fun (e1 : Ending) (w2 : World) => ∃ (t1 : Bool), e1 = Ending.returned (Value.bool t1) ∧ KeepX true w.heap.size [m1] (fun _ => False) w1 w2 ∧ ∀ (w3 : World), RowKit.Below
    w.heap.size w w3 → Kept [m1] w2 w3 → R (Ending.returned (Value.bool t1)) w3) : Calls Tryz.prog 59 #[Value.int IntKind.i64 n] w R := calls_of_vc (pure := true) (wrapAt := [])
    (muts := []) (esc := []) (args := [SV.pv (PV.one (Lf.int IntKind.i64 n))]) (vs := [Value.int IntKind.i64 n]) Tryz.func59 rfl rfl rfl (Eq.mp (by kernel_rfl) h) 
set_option maxRecDepth 100000 in
set_option maxHeartbeats 2000000 in
theorem vc28 (n : Int) (p1by : Int) (w : World) (R : Ending → World → Prop) (h : p1by ≠ 0 ∧ (-9223372036854775808 ≤ n.tmod p1by + p1by ∧ n.tmod p1by + p1by ≤ 9223372036854775807) ∧
    p1by ≠ 0 ∧ ∀ (w1 : World), RowKit.Below w.heap.size w w1 → Kept [] w w1 → R (Ending.returned (Value.int IntKind.i64 ((n.tmod p1by + p1by).tmod p1by))) w1) : Calls Tryz.prog 28
    #[Value.int IntKind.i64 n, Value.int IntKind.i64 p1by] w R := calls_of_vc (pure := true) (wrapAt := []) (muts := []) (esc := []) (args := [SV.pv (PV.one (Lf.int IntKind.i64
    n)), SV.pv (PV.one (Lf.int IntKind.i64 p1by))]) (vs := [Value.int IntKind.i64 n, Value.int IntKind.i64 p1by]) Tryz.func28 rfl rfl rfl (Eq.mp (by kernel_rfl) h) 
set_option maxRecDepth 100000 in
set_option maxHeartbeats 2000000 in
theorem vc27 (n : Int) (p1by : Int) (w : World) (R : Ending → World → Prop) (h : ∀ (w1 : World), RowKit.Below w.heap.size w w1 → Kept [] w w1 → Calls Tryz.prog 28 #[Value.int
    IntKind.i64 n, Value.int IntKind.i64 p1by] w1 fun (e1 : Ending) (w2 : World) => ∃ (x1 : Int), e1 = Ending.returned (Value.int IntKind.i64 x1) ∧ KeepX true w.heap.size [] (fun _
    => False) w1 w2 ∧ (-9223372036854775808 ≤ n - x1 ∧ n - x1 ≤ 9223372036854775807) ∧ (p1by ≠ 0 ∧ -9223372036854775808 ≤ (n - x1).tdiv p1by ∧ (n - x1).tdiv p1by ≤
    9223372036854775807) ∧ ∀ (w3 : World), RowKit.Below w.heap.size w w3 → Kept [] w2 w3 → R (Ending.returned (Value.int IntKind.i64 ((n - x1).tdiv p1by))) w3) : Calls Tryz.prog 27
    #[Value.int IntKind.i64 n, Value.int IntKind.i64 p1by] w R := calls_of_vc (pure := true) (wrapAt := []) (muts := []) (esc := []) (args := [SV.pv (PV.one (Lf.int IntKind.i64
    n)), SV.pv (PV.one (Lf.int IntKind.i64 p1by))]) (vs := [Value.int IntKind.i64 n, Value.int IntKind.i64 p1by]) Tryz.func27 rfl rfl rfl (Eq.mp (by kernel_rfl) h) 
set_option maxRecDepth 100000 in
set_option maxHeartbeats 2000000 in
theorem vc26 (x0 : Int) (x1 : Int) (x2 : Int) (p1at : Int) (w : World) (R : Ending → World → Prop) (h : ∀ (m1 : Nat), w.heap.size ≤ m1 → (-9223372036854775808 ≤ p1at + x2 ∧ p1at +
    x2 ≤ 9223372036854775807) ∧ ∀ (w1 : World), RowKit.Below w.heap.size w w1 → Kept [m1] w w1 → R (Ending.returned (Value.int IntKind.i64 (p1at + x2))) w1) : Calls Tryz.prog 26
    #[Value.agg #[Value.int IntKind.i64 x0, Value.int IntKind.i64 x1, Value.int IntKind.i64 x2], Value.int IntKind.i64 p1at] w R := calls_of_vc (pure := true) (wrapAt := []) (muts
    := []) (esc := []) (args := [SV.pv (PV.agg [Lf.int IntKind.i64 x0, Lf.int IntKind.i64 x1, Lf.int IntKind.i64 x2]), SV.pv (PV.one (Lf.int IntKind.i64 p1at))]) (vs := [Value.agg
    #[Value.int IntKind.i64 x0, Value.int IntKind.i64 x1, Value.int IntKind.i64 x2], Value.int IntKind.i64 p1at]) Tryz.func26 rfl rfl rfl (Eq.mp (by kernel_rfl) h) 
set_option maxRecDepth 100000 in
set_option maxHeartbeats 2000000 in
theorem vc23 (z0 : Int) (z1a : Option Addr) (z1n : Nat) (z1c : Nat) (w : World) (R : Ending → World → Prop) (h : ∀ (m1 : Nat), w.heap.size ≤ m1 → ∃ (F1 : List Lf → World → Prop), ∃
    (F2 : List Lf → Nat), (∀ (w2 : World), RowKit.Below w.heap.size w w2 → Kept [m1] w w2 → F1 [Lf.int IntKind.i64 0, Lf.int IntKind.i64 0, Lf.int IntKind.i64 0] w2) ∧ ∀ (x1 x2 x3
    : Int) (w3 : World), RowKit.Below w.heap.size w w3 → F1 [Lf.int IntKind.i64 x1, Lf.int IntKind.i64 x2, Lf.int IntKind.i64 x3] w3 → (x3 < (↑z1n : Int) → ∃ (m2 : Nat), ∃ (m3 :
    Nat), z1a = some { block := m2, off := m3 } ∧ (0 ≤ x3 ∧ x3 < (↑z1n : Int)) ∧ ∃ (x4 : Int), ∃ (x5 : Int), w3.cell? { block := m2, off := m3 + x3.toNat * 2 } = some (Value.int
    IntKind.i64 x4) ∧ w3.cell? { block := m2, off := m3 + x3.toNat * 2 + 1 } = some (Value.int IntKind.i64 x5) ∧ (m2 < w.heap.size ∨ m2 ≠ m1) ∧ ∀ (m4 : Nat), w3.heap.size ≤ m4 →
    (-9223372036854775808 ≤ x2 + 1 ∧ x2 + (1 : Int) ≤ 9223372036854775807) ∧ ∀ (m5 : Nat), w3.heap.size ≤ m5 → ∀ (w4 : World), RowKit.Below w.heap.size w w4 → Kept [m5, m4, m1] w3
    w4 → w4.heap[m5]? = some (Obj.cells #[Value.int IntKind.i64 x4] 3) → Calls Tryz.prog 24 #[Value.int IntKind.i64 (x2 + 1), Value.int IntKind.i64 3155760000, Value.slice (some
    { block := m5, off := 0 }) 1 1] w4 fun (e1 : Ending) (w5 : World) => ∃ (t1 : Bool), e1 = Ending.returned (Value.bool t1) ∧ KeepX true w.heap.size [m5, m4, m1] (fun _ => False)
    w4 w5 ∧ ((!t1) = true → ∀ (w6 : World), RowKit.Below w.heap.size w w6 → Kept [m5, m4, m1] w5 w6 → R (Ending.returned (Value.int IntKind.i64 2)) w6) ∧ ((!t1) = false → ∀ (w7 :
    World), RowKit.Below w.heap.size w w7 → Kept [m5, m4, m1] w5 w7 → Calls Tryz.prog 59 #[Value.int IntKind.i64 x5] w7 fun (e2 : Ending) (w8 : World) => ∃ (t2 : Bool), e2 =
    Ending.returned (Value.bool t2) ∧ KeepX true w.heap.size [m5, m4, m1] (fun _ => False) w7 w8 ∧ ((!t2) = true → ∀ (w9 : World), RowKit.Below w.heap.size w w9 → Kept [m5, m4, m1]
    w8 w9 → R (Ending.returned (Value.int IntKind.i64 2)) w9) ∧ ((!t2) = false → (-9223372036854775808 ≤ x3 + 1 ∧ x3 + (1 : Int) ≤ 9223372036854775807) ∧ ∀ (w10 : World),
    RowKit.Below w.heap.size w w10 → Kept [m5, m4, m1] w8 w10 → F1 [Lf.int IntKind.i64 x1, Lf.int IntKind.i64 x4, Lf.int IntKind.i64 (x3 + 1)] w10 ∧ F2 [Lf.int IntKind.i64 x1,
    Lf.int IntKind.i64 x4, Lf.int IntKind.i64 (x3 + 1)] < F2 [Lf.int IntKind.i64 x1, Lf.int IntKind.i64 x2, Lf.int IntKind.i64 x3]))) ∧ ((↑z1n : Int) ≤ x3 → ∀ (w11 : World),
    RowKit.Below w.heap.size w w11 → Kept [m1] w3 w11 → Calls Tryz.prog 59 #[Value.int IntKind.i64 z0] w11 fun (e3 : Ending) (w12 : World) => ∃ (t3 : Bool), e3 = Ending.returned
    (Value.bool t3) ∧ KeepX true w.heap.size [m1] (fun _ => False) w11 w12 ∧ ((!t3) = true → ∀ (w13 : World), RowKit.Below w.heap.size w w13 → Kept [m1] w12 w13 → R
    (Ending.returned (Value.int IntKind.i64 2)) w13) ∧ ((!t3) = false → (12 < (↑z1n : Int) → ∀ (w14 : World), RowKit.Below w.heap.size w w14 → Kept [m1] w12 w14 → R
    (Ending.returned (Value.int IntKind.i64 2)) w14) ∧ ((↑z1n : Int) ≤ 12 → ∀ (w15 : World), RowKit.Below w.heap.size w w15 → Kept [m1] w12 w15 → R (Ending.returned (Value.int
    IntKind.i64 0)) w15)))) : Calls Tryz.prog 23 #[Value.agg #[Value.int IntKind.i64 z0, Value.slice z1a z1n z1c]] w R := calls_of_vc (pure := true) (wrapAt := []) (muts := [])
    (esc := []) (args := [SV.pv (PV.agg [Lf.int IntKind.i64 z0, Lf.sl z1a z1n z1c])]) (vs := [Value.agg #[Value.int IntKind.i64 z0, Value.slice z1a z1n z1c]]) Tryz.func23 rfl rfl
    rfl (Eq.mp (by kernel_rfl) h) 
set_option maxRecDepth 100000 in
set_option maxHeartbeats 2000000 in
theorem vc130 (x0 : Int) (x1 : Int) (x2 : Int) (p1at : Int) (w : World) (R : Ending → World → Prop) (h : ∀ (m1 : Nat), w.heap.size ≤ m1 → ∀ (w1 : World), RowKit.Below w.heap.size w
    w1 → Kept [m1] w w1 → Calls Tryz.prog 26 #[Value.agg #[Value.int IntKind.i64 x0, Value.int IntKind.i64 x1, Value.int IntKind.i64 x2], Value.int IntKind.i64 p1at] w1 fun (e1 :
    Ending) (w2 : World) => ∃ (x1 : Int), e1 = Ending.returned (Value.int IntKind.i64 x1) ∧ KeepX true w.heap.size [m1] (fun _ => False) w1 w2 ∧ ∀ (w3 : World), RowKit.Below
    w.heap.size w w3 → Kept [m1] w2 w3 → Calls Tryz.prog 27 #[Value.int IntKind.i64 x1, Value.int IntKind.i64 60] w3 fun (e2 : Ending) (w4 : World) => ∃ (x2 : Int), e2 =
    Ending.returned (Value.int IntKind.i64 x2) ∧ KeepX true w.heap.size [m1] (fun _ => False) w3 w4 ∧ ∀ (w5 : World), RowKit.Below w.heap.size w w5 → Kept [m1] w4 w5 → R
    (Ending.returned (Value.int IntKind.i64 x2)) w5) : Calls Tryz.prog 130 #[Value.agg #[Value.int IntKind.i64 x0, Value.int IntKind.i64 x1, Value.int IntKind.i64 x2], Value.int
    IntKind.i64 p1at] w R := calls_of_vc (pure := true) (wrapAt := []) (muts := []) (esc := []) (args := [SV.pv (PV.agg [Lf.int IntKind.i64 x0, Lf.int IntKind.i64 x1, Lf.int
    IntKind.i64 x2]), SV.pv (PV.one (Lf.int IntKind.i64 p1at))]) (vs := [Value.agg #[Value.int IntKind.i64 x0, Value.int IntKind.i64 x1, Value.int IntKind.i64 x2], Value.int
    IntKind.i64 p1at]) Tryz.func130 rfl rfl rfl (Eq.mp (by kernel_rfl) h) 
set_option maxRecDepth 100000 in
set_option maxHeartbeats 2000000 in
theorem vc131 (x0 : Int) (x1 : Int) (x2 : Int) (minute : Int) (w : World) (R : Ending → World → Prop) (h : ∀ (m1 : Nat), w.heap.size ≤ m1 → ∀ (m2 : Nat), w.heap.size ≤ m2 →
    (-9223372036854775808 ≤ minute * 60 ∧ minute * (60 : Int) ≤ 9223372036854775807) ∧ (-9223372036854775808 ≤ minute * 60 - x2 ∧ minute * 60 - x2 ≤ 9223372036854775807) ∧
    (-9223372036854775808 ≤ minute * 60 - x2 + 60 ∧ minute * 60 - x2 + (60 : Int) ≤ 9223372036854775807) ∧ (-9223372036854775808 ≤ minute * 60 - x2 + 60 - 1 ∧ minute * 60 - x2 + 60
    - (1 : Int) ≤ 9223372036854775807) ∧ ∀ (w1 : World), RowKit.Below w.heap.size w w1 → Kept [m2, m1] w w1 → R (Ending.returned (Value.agg #[Value.int IntKind.i64 (max x0 (minute
    * 60 - x2)), Value.int IntKind.i64 (min x1 (minute * 60 - x2 + 60 - 1))])) w1) : Calls Tryz.prog 131 #[Value.agg #[Value.int IntKind.i64 x0, Value.int IntKind.i64 x1, Value.int
    IntKind.i64 x2], Value.int IntKind.i64 minute] w R := calls_of_vc (pure := true) (wrapAt := []) (muts := []) (esc := []) (args := [SV.pv (PV.agg [Lf.int IntKind.i64 x0, Lf.int
    IntKind.i64 x1, Lf.int IntKind.i64 x2]), SV.pv (PV.one (Lf.int IntKind.i64 minute))]) (vs := [Value.agg #[Value.int IntKind.i64 x0, Value.int IntKind.i64 x1, Value.int
    IntKind.i64 x2], Value.int IntKind.i64 minute]) Tryz.func131 rfl rfl rfl (Eq.mp (by kernel_rfl) h) 
set_option maxRecDepth 100000 in
set_option maxHeartbeats 2000000 in
theorem vc68 (x0 : Int) (x1 : Int) (x2 : Int) (w : World) (R : Ending → World → Prop) (h : ∀ (m1 : Nat), w.heap.size ≤ m1 → ∀ (m2 : Nat), w.heap.size ≤ m2 → ∀ (w1 : World),
    RowKit.Below w.heap.size w w1 → KeptIn [(0, w.heap.size)] [m2, m1] w w1 → Calls Tryz.prog 130 #[Value.agg #[Value.int IntKind.i64 x0, Value.int IntKind.i64 x1, Value.int
    IntKind.i64 x2], Value.int IntKind.i64 x0] w1 fun (e1 : Ending) (w2 : World) => ∃ (x1_1 : Int), e1 = Ending.returned (Value.int IntKind.i64 x1_1) ∧ KeepX true w.heap.size [m2,
    m1] (fun _ => False) w1 w2 ∧ ∀ (w3 : World), RowKit.Below w.heap.size w w3 → KeptIn [(0, w2.heap.size)] [m2, m1] w2 w3 → Calls Tryz.prog 130 #[Value.agg #[Value.int IntKind.i64
    x0, Value.int IntKind.i64 x1, Value.int IntKind.i64 x2], Value.int IntKind.i64 x1] w3 fun (e2 : Ending) (w4 : World) => ∃ (x2 : Int), e2 = Ending.returned (Value.int
    IntKind.i64 x2) ∧ KeepX true w.heap.size [m2, m1] (fun _ => False) w3 w4 ∧ ∀ (w5 : World), RowKit.Below w.heap.size w w5 → Kept [m2, m1] w4 w5 → R (Ending.returned (Value.agg
    #[Value.int IntKind.i64 x1_1, Value.int IntKind.i64 x2])) w5) : Calls Tryz.prog 68 #[Value.agg #[Value.int IntKind.i64 x0, Value.int IntKind.i64 x1, Value.int IntKind.i64 x2]]
    w R := calls_of_vc (pure := true) (wrapAt := []) (muts := []) (esc := []) (args := [SV.pv (PV.agg [Lf.int IntKind.i64 x0, Lf.int IntKind.i64 x1, Lf.int IntKind.i64 x2])]) (vs
    := [Value.agg #[Value.int IntKind.i64 x0, Value.int IntKind.i64 x1, Value.int IntKind.i64 x2]]) Tryz.func68 rfl rfl rfl (Eq.mp (by kernel_rfl) h) 
set_option maxRecDepth 100000 in
set_option maxHeartbeats 2000000 in
theorem vc6 (z0 : Int) (z1a : Option Addr) (z1n : Nat) (z1c : Nat) (p1at : Int) (w : World) (R : Ending → World → Prop) (h : ∀ (m1 : Nat), w.heap.size ≤ m1 → ∀ (w1 : World),
    RowKit.Below w.heap.size w w1 → Kept [m1] w w1 → Calls Tryz.prog 23 #[Value.agg #[Value.int IntKind.i64 z0, Value.slice z1a z1n z1c]] w1 fun (e1 : Ending) (w2 : World) => ∃ (x1
    : Int), e1 = Ending.returned (Value.int IntKind.i64 x1) ∧ KeepX true w.heap.size [m1] (fun _ => False) w1 w2 ∧ (x1 ≠ 0 → ∀ (w3 : World), RowKit.Below w.heap.size w w3 → Kept
    [m1] w2 w3 → R (Ending.returned (Value.tuple #[Value.int IntKind.i64 0, Value.int IntKind.i64 0, Value.int IntKind.i64 2])) w3) ∧ (x1 = 0 → ∀ (m3 : Nat), w2.heap.size ≤ m3 → ∀
    (w4 : World), RowKit.Below w.heap.size w w4 → Kept [m3, m1] w2 w4 → w4.heap[m3]? = some (Obj.cells #[Value.int IntKind.i64 p1at] 3) → Calls Tryz.prog 24 #[Value.int IntKind.i64
    0, Value.int IntKind.i64 3155760000, Value.slice (some { block := m3, off := 0 }) 1 1] w4 fun (e2 : Ending) (w5 : World) => ∃ (t1 : Bool), e2 = Ending.returned (Value.bool t1)
    ∧ KeepX true w.heap.size [m3, m1] (fun _ => False) w4 w5 ∧ ((!t1) = true → ∀ (w6 : World), RowKit.Below w.heap.size w w6 → Kept [m3, m1] w5 w6 → R (Ending.returned (Value.tuple
    #[Value.int IntKind.i64 0, Value.int IntKind.i64 0, Value.int IntKind.i64 3])) w6) ∧ ((!t1) = false → ∀ (w7 : World), RowKit.Below w.heap.size w w7 → Kept [m3, m1] w5 w7 →
    Calls Tryz.prog 25 #[Value.agg #[Value.int IntKind.i64 z0, Value.slice z1a z1n z1c], Value.int IntKind.i64 p1at] w7 fun (e3 : Ending) (w8 : World) => ∃ (x2 : Int), ∃ (x3 :
    Int), ∃ (x4 : Int), e3 = Ending.returned (Value.agg #[Value.int IntKind.i64 x2, Value.int IntKind.i64 x3, Value.int IntKind.i64 x4]) ∧ KeepX true w.heap.size [m3, m1] (fun _ =>
    False) w7 w8 ∧ ∀ (w9 : World), RowKit.Below w.heap.size w w9 → Kept [m3, m1] w8 w9 → Calls Tryz.prog 26 #[Value.agg #[Value.int IntKind.i64 x2, Value.int IntKind.i64 x3,
    Value.int IntKind.i64 x4], Value.int IntKind.i64 p1at] w9 fun (e4 : Ending) (w10 : World) => ∃ (x5 : Int), e4 = Ending.returned (Value.int IntKind.i64 x5) ∧ KeepX true
    w.heap.size [m3, m1] (fun _ => False) w9 w10 ∧ ∀ (w11 : World), RowKit.Below w.heap.size w w11 → Kept [m3, m1] w10 w11 → Calls Tryz.prog 27 #[Value.int IntKind.i64 x5,
    Value.int IntKind.i64 86400] w11 fun (e5 : Ending) (w12 : World) => ∃ (x6 : Int), e5 = Ending.returned (Value.int IntKind.i64 x6) ∧ KeepX true w.heap.size [m3, m1] (fun _ =>
    False) w11 w12 ∧ ∀ (w13 : World), RowKit.Below w.heap.size w w13 → Kept [m3, m1] w12 w13 → Calls Tryz.prog 28 #[Value.int IntKind.i64 x5, Value.int IntKind.i64 86400] w13 fun
    (e6 : Ending) (w14 : World) => ∃ (x7 : Int), e6 = Ending.returned (Value.int IntKind.i64 x7) ∧ KeepX true w.heap.size [m3, m1] (fun _ => False) w13 w14 ∧ ∀ (w15 : World),
    RowKit.Below w.heap.size w w15 → Kept [m3, m1] w14 w15 → R (Ending.returned (Value.tuple #[Value.int IntKind.i64 x6, Value.int IntKind.i64 x7, Value.int IntKind.i64 0])) w15)))
    : Calls Tryz.prog 6 #[Value.agg #[Value.int IntKind.i64 z0, Value.slice z1a z1n z1c], Value.int IntKind.i64 p1at] w R := calls_of_vc (pure := true) (wrapAt := []) (muts := [])
    (esc := []) (args := [SV.pv (PV.agg [Lf.int IntKind.i64 z0, Lf.sl z1a z1n z1c]), SV.pv (PV.one (Lf.int IntKind.i64 p1at))]) (vs := [Value.agg #[Value.int IntKind.i64 z0,
    Value.slice z1a z1n z1c], Value.int IntKind.i64 p1at]) Tryz.func6 rfl rfl rfl (Eq.mp (by kernel_rfl) h) 
set_option maxRecDepth 100000 in
set_option maxHeartbeats 2000000 in
theorem vc190 (n : Int) (cap0b : Nat) (cap1b : Nat) (w : World) (R : Ending → World → Prop) (h : ∃ (x1 : Int), w.cell? { block := cap0b, off := 0 } = some (Value.int IntKind.i64
    x1) ∧ (n < x1 → ∀ (w1 : World), RowKit.Below w.heap.size w w1 → Kept [] w w1 → R (Ending.returned (Value.bool true)) w1) ∧ (x1 ≤ n → ∃ (x2 : Int), w.cell?
    { block := cap1b, off := 0 } = some (Value.int IntKind.i64 x2) ∧ ∀ (w2 : World), RowKit.Below w.heap.size w w2 → Kept [] w w2 → R (Ending.returned (Value.bool (decide (x2 <
    n)))) w2)) : Calls Tryz.prog 190 #[Value.int IntKind.i64 n, Value.pointer (some { block := cap0b, off := 0 }), Value.pointer (some { block := cap1b, off := 0 })] w R :=
    calls_of_vc (pure := true) (wrapAt := []) (muts := []) (esc := []) (args := [SV.pv (PV.one (Lf.int IntKind.i64 n)), SV.pv (PV.one (Lf.ptr cap0b 0)), SV.pv (PV.one (Lf.ptr cap1b
    0))]) (vs := [Value.int IntKind.i64 n, Value.pointer (some { block := cap0b, off := 0 }), Value.pointer (some { block := cap1b, off := 0 })]) Tryz.func190 rfl rfl rfl (Eq.mp
    (by kernel_rfl) h) 
set_option maxRecDepth 100000 in
set_option maxHeartbeats 2000000 in
theorem vc121 (least : Int) (most : Int) (la : Option Addr) (ln : Nat) (lc : Nat) (w : World) (R : Ending → World → Prop) (h : ∀ (m1 : Nat), w.heap.size ≤ m1 → ∀ (m2 : Nat),
    w.heap.size ≤ m2 → ∀ (w1 : World), RowKit.Below w.heap.size w w1 → Kept [m2, m1] w w1 → w1.heap[m1]? = some (Obj.cells #[Value.int IntKind.i64 least] 3) → w1.heap[m2]? = some
    (Obj.cells #[Value.int IntKind.i64 most] 3) → Calls Tryz.prog 60 #[Value.slice la ln lc, Value.func (Fn.func 190) #[] #[Value.pointer (some { block := m1, off := 0 }),
    Value.pointer (some { block := m2, off := 0 })]] w1 fun (e1 : Ending) (w2 : World) => ∃ (t1 : Bool), e1 = Ending.returned (Value.bool t1) ∧ KeepX true w.heap.size [m2, m1] (fun
    _ => False) w1 w2 ∧ ∀ (w3 : World), RowKit.Below w.heap.size w w3 → Kept [m2, m1] w2 w3 → R (Ending.returned (Value.bool !t1)) w3) : Calls Tryz.prog 121 #[Value.int IntKind.i64
    least, Value.int IntKind.i64 most, Value.slice la ln lc] w R := calls_of_vc (pure := true) (wrapAt := []) (muts := []) (esc := []) (args := [SV.pv (PV.one (Lf.int IntKind.i64
    least)), SV.pv (PV.one (Lf.int IntKind.i64 most)), SV.pv (PV.one (Lf.sl la ln lc))]) (vs := [Value.int IntKind.i64 least, Value.int IntKind.i64 most, Value.slice la ln lc])
    Tryz.func121 rfl rfl rfl (Eq.mp (by kernel_rfl) h) 
end Go.Proofs
end
section
/- Contracts of the small functions. -/
namespace Go.Proofs.RT
open Go.Vc Go.RowKit Go.Proofs

abbrev I (n : Int) : Value := .int .i64 n
abbrev Sp := Int × Int
abbrev spv (s : Sp) : Value := .agg #[I s.1, I s.2]
theorem getElem_of_lt {α : Type} {l : List α} {i : Nat} (h : i < l.length) : l[i]? = some l[i] := List.getElem?_eq_getElem h

/-- The place of the first one, or -1. -/
def idxOf {α : Type} (l : List α) (p : α → Bool) : Int := if l.any p then ((l.findIdx p : Nat) : Int) else -1
theorem idxOf_nonneg {α : Type} {l : List α} {p : α → Bool} : 0 ≤ idxOf l p ↔ l.any p = true := by
  unfold idxOf; split <;> simp_all
theorem idxOf_dec {α : Type} {l : List α} {p : α → Bool} : decide (0 ≤ idxOf l p) = l.any p := by
  rw [Bool.eq_iff_iff, decide_eq_true_iff, idxOf_nonneg]
theorem idxOf_hit {α : Type} {l : List α} {p : α → Bool} {i : Nat} (hi : i < l.length) (hno : ∀ j, j < i → ∀ y, l[j]? = some y → p y = false) (hp : p l[i] = true) : idxOf l p = i := by
  have hany : l.any p = true := List.any_eq_true.2 ⟨_, List.getElem_mem hi, hp⟩
  have hfi : l.findIdx p = i := (List.findIdx_eq hi).2 ⟨hp, fun j hj => hno j hj _ (getElem_of_lt (by omega))⟩
  unfold idxOf
  rw [if_pos hany, hfi]
theorem idxOf_miss {α : Type} {l : List α} {p : α → Bool} (hno : ∀ j, j < l.length → ∀ y, l[j]? = some y → p y = false) : idxOf l p = -1 := by
  unfold idxOf
  rw [if_neg]
  intro hany
  obtain ⟨y, hy, hp⟩ := List.any_eq_true.1 hany
  obtain ⟨i, hi, rfl⟩ := List.mem_iff_getElem.1 hy
  rw [hno i hi _ (getElem_of_lt hi)] at hp
  cases hp
theorem no_step {α : Type} {l : List α} {p : α → Bool} {n : Nat} (hn : n < l.length) (hno : ∀ j, j < n → ∀ y, l[j]? = some y → p y = false) (hp : p l[n] = false) : ∀ j, j < n + 1 → ∀ y, l[j]? = some y → p y = false := fun j hj y hy => by
  by_cases e : j < n
  · exact hno j e y hy
  · have : j = n := by omega
    subst this
    rw [getElem_of_lt hn] at hy
    obtain rfl := Option.some.inj hy
    exact hp

/-- A test that a function value makes, of values of a kind. -/
def FnOk {α : Type} (enc : α → Value) (f : Nat) (fi fc : List Value) (p : α → Bool) (l : List α) (B : Nat) (w0 : World) : Prop :=
  Callable Tryz.prog f ∧ ∀ x ∈ l, ∀ w, Below B w0 w → Calls Tryz.prog f (fi ++ [enc x] ++ fc).toArray w (Pure w (.bool (p x)))
theorem FnOk.keep {α : Type} {enc : α → Value} {f : Nat} {fi fc : List Value} {p : α → Bool} {l : List α} {w0 w1 : World} (h : FnOk enc f fi fc p l w0.heap.size w0) (hb : Below w0.heap.size w0 w1) : FnOk enc f fi fc p l w1.heap.size w1 :=
  ⟨h.1, fun x hx w hw => h.2 x hx w (hb.trans (hw.mono hb.size))⟩

def spansV (l : List Sp) : List Value := l.flatMap fun s => [I s.1, I s.2]
theorem spans_get {l : List Sp} {i : Nat} {s : Sp} (h : l[i]? = some s) (j : Nat) (hj : j < 2) : (spansV l)[i * 2 + j]? = [I s.1, I s.2][j]? := flat_get (k := 2) (f := fun s : Sp => [I s.1, I s.2]) (fun _ => rfl) h hj
theorem index_int {a : Option Addr} {c f : Nat} {fi fc : List Value} {p : Int → Bool} {l : List Int} {w : World} (hc : Cells w a (ints l)) (hl : (l.length : Int) ≤ 9223372036854775807)
    (hf : FnOk I f fi fc p l w.heap.size w) : Calls Tryz.prog 119 #[.slice a l.length c, .func (.func f) fi.toArray fc.toArray] w (Pure w (I (idxOf l p))) := by
  refine vc119 _ _ _ _ _ _ w _ ?_
  refine ⟨fun ls _ => match ls with | [.int _ _, .int _ x] => 0 ≤ x ∧ x ≤ l.length ∧ ∀ i, i < x.toNat → ∀ y, l[i]? = some y → p y = false | _ => False, fun ls => match ls with | [.int _ _, .int _ x] => l.length - x.toNat | _ => 0, fun w1 hb _ => ⟨by omega, by omega, fun i hi => by omega⟩, ?_⟩
  rintro x1 x2 w2 hb2 ⟨h0, hn, hno⟩
  refine ⟨fun hlt => ?_, fun hge w7 hb7 _ => ⟨by rw [idxOf_miss fun j hj => hno j (by omega)], hb7⟩⟩
  have hi : x2.toNat < l.length := by omega
  obtain ⟨b, o, rfl, d0⟩ := hc x2.toNat _ (ints_get (getElem_of_lt hi))
  refine ⟨b, o, rfl, ⟨h0, hlt⟩, _, cell_at' (cell_keep hb2 d0) (by omega), hf.1, fun w3 hb3 _ => Pure.calls (hf.2 _ (List.getElem_mem hi) w3 hb3) fun w4 hb4 => ⟨p l[x2.toNat], rfl, .all hb4, fun ht w5 hb5 _ => ⟨by rw [idxOf_hit hi hno ht, Int.toNat_of_nonneg h0], hb5⟩, fun ht => ⟨by omega, fun w6 hb6 _ => ⟨⟨by omega, by omega, ?_⟩, ?_⟩⟩⟩⟩
  · rw [show (x2 + 1).toNat = x2.toNat + 1 by omega]
    exact no_step hi hno ht
  · show l.length - (x2 + 1).toNat < l.length - x2.toNat
    omega
theorem contains_int {a : Option Addr} {c f : Nat} {fi fc : List Value} {p : Int → Bool} {l : List Int} {w : World} (hc : Cells w a (ints l)) (hl : (l.length : Int) ≤ 9223372036854775807)
    (hf : FnOk I f fi fc p l w.heap.size w) : Calls Tryz.prog 60 #[.slice a l.length c, .func (.func f) fi.toArray fc.toArray] w (Pure w (.bool (l.any p))) :=
  vc60 _ _ _ _ _ _ w _ fun w1 hb1 _ => Pure.calls (index_int (c := c) (hc.keep hb1) hl (hf.keep hb1)) fun w2 hb2 => ⟨_, rfl, .all hb2, fun w3 hb3 _ => ⟨by rw [idxOf_dec], hb3⟩⟩

set_option maxRecDepth 100000 in
theorem within_any {a b : Int} {la : Option Addr} {c : Nat} {l : List Int} {w : World} (hc : Cells w la (ints l)) (hl : (l.length : Int) ≤ 9223372036854775807) :
    Calls Tryz.prog 24 #[I a, I b, .slice la l.length c] w (Pure w (.bool (l.all fun n => decide (a ≤ n ∧ n ≤ b)))) := by
  refine vc24 _ _ _ _ _ w _ fun m1 h1 m2 h2 w1 hb1 hk1 hc1 hc2 => ?_
  refine Pure.calls (contains_int (fi := []) (p := fun n => decide (n < a) || decide (b < n)) (hc.keep hb1) hl ⟨callOk_run (by rfl), fun x hx w2 hb2 => ?_⟩) fun w2 hb2 => ⟨_, rfl, .all hb2, fun w3 hb3 _ => ⟨?_, hb3⟩⟩
  · have k1 : w2.cell? ⟨m1, 0, none⟩ = some (I a) := cell_keep hb2 (cell_obj (vs := [I a]) hc1 rfl)
    have k2 : w2.cell? ⟨m2, 0, none⟩ = some (I b) := cell_keep hb2 (cell_obj (vs := [I b]) hc2 rfl)
    refine vc61 _ _ _ w2 _ ⟨a, k1, fun hlt w3 hb3 _ => ⟨?_, hb3⟩, fun hge => ⟨b, k2, fun w3 hb3 _ => ⟨?_, hb3⟩⟩⟩
    · simp [hlt]
    · simp [Int.not_lt.2 hge]
  · congr 2
    rw [Bool.eq_iff_iff]
    simp [List.all_eq_true]
theorem in1_any {w : World} {m : Nat} {a b x : Int} (h : w.heap[m]? = some (.cells #[I x] 3 (0, 0))) : Calls Tryz.prog 24 #[I a, I b, .slice (some ⟨m, 0, none⟩) 1 1] w (Pure w (.bool (decide (a ≤ x ∧ x ≤ b)))) := by
  have := within_any (l := [x]) (a := a) (b := b) (c := 1) (Cells.obj (vs := [I x]) h) (by simp)
  simpa using this
set_option maxRecDepth 100000 in
theorem withinR_any {a b : Int} {la : Option Addr} {c : Nat} {l : List Int} {w : World} (hc : Cells w la (ints l)) (hl : (l.length : Int) ≤ 9223372036854775807) :
    Calls Tryz.prog 121 #[I a, I b, .slice la l.length c] w (Pure w (.bool (l.all fun n => decide (a ≤ n ∧ n ≤ b)))) := by
  refine vc121 _ _ _ _ _ w _ fun m1 h1 m2 h2 w1 hb1 hk1 hc1 hc2 => ?_
  refine Pure.calls (contains_int (fi := []) (p := fun n => decide (n < a) || decide (b < n)) (hc.keep hb1) hl ⟨callOk_run (by rfl), fun x hx w2 hb2 => ?_⟩) fun w2 hb2 => ⟨_, rfl, .all hb2, fun w3 hb3 _ => ⟨?_, hb3⟩⟩
  · have k1 : w2.cell? ⟨m1, 0, none⟩ = some (I a) := cell_keep hb2 (cell_obj (vs := [I a]) hc1 rfl)
    have k2 : w2.cell? ⟨m2, 0, none⟩ = some (I b) := cell_keep hb2 (cell_obj (vs := [I b]) hc2 rfl)
    refine vc190 _ _ _ w2 _ ⟨a, k1, fun hlt w3 hb3 _ => ⟨?_, hb3⟩, fun hge => ⟨b, k2, fun w3 hb3 _ => ⟨?_, hb3⟩⟩⟩
    · simp [hlt]
    · simp [Int.not_lt.2 hge]
  · congr 2
    rw [Bool.eq_iff_iff]
    simp [List.all_eq_true]
theorem inR_any {w : World} {m : Nat} {a b x : Int} (h : w.heap[m]? = some (.cells #[I x] 3 (0, 0))) : Calls Tryz.prog 121 #[I a, I b, .slice (some ⟨m, 0, none⟩) 1 1] w (Pure w (.bool (decide (a ≤ x ∧ x ≤ b)))) := by
  have := withinR_any (l := [x]) (a := a) (b := b) (c := 1) (Cells.obj (vs := [I x]) h) (by simp)
  simpa using this
theorem load_int {w wj : World} {a : Option Addr} {l : List Int} {i : Int} {X : Nat → Nat → Int → Prop} (h : Cells w a (ints l)) (hb : Below w.heap.size w wj) (hi0 : 0 ≤ i ∧ i < (l.length : Int)) (k : ∀ m o, m < w.heap.size → X m o (l.getD i.toNat 0)) : ∃ m o, a = some ⟨m, o, none⟩ ∧ (0 ≤ i ∧ i < (l.length : Int)) ∧ ∃ x0 : Int, wj.cell? ⟨m, o + i.toNat * 1, none⟩ = some (I x0) ∧ X m o x0 := by
  have hi : i.toNat < l.length := by omega
  have hg : l.getD i.toNat 0 = l[i.toNat] := by simp [List.getD_eq_getElem?_getD, getElem_of_lt hi]
  obtain ⟨b0, o0, e0, d0⟩ := h i.toNat _ (ints_get (getElem_of_lt hi))
  exact ⟨b0, o0, e0, hi0, _, cell_at' (cell_keep hb d0) (by omega), by have := k b0 o0 (cell_lt d0); rw [hg] at this; exact this⟩
theorem load_span {w wj : World} {a : Option Addr} {l : List Sp} {i : Int} {X : Nat → Nat → Int → Int → Prop} (h : Cells w a (spansV l)) (hb : Below w.heap.size w wj) (hi0 : 0 ≤ i ∧ i < (l.length : Int)) (k : ∀ m o, m < w.heap.size → X m o (l.getD i.toNat (0, 0)).1 (l.getD i.toNat (0, 0)).2) : ∃ m o, a = some ⟨m, o, none⟩ ∧ (0 ≤ i ∧ i < (l.length : Int)) ∧ ∃ x0 x1 : Int, wj.cell? ⟨m, o + i.toNat * 2, none⟩ = some (I x0) ∧ wj.cell? ⟨m, o + i.toNat * 2 + 1, none⟩ = some (I x1) ∧ X m o x0 x1 := by
  have hi : i.toNat < l.length := by omega
  have hg : l.getD i.toNat (0, 0) = l[i.toNat] := by simp [List.getD_eq_getElem?_getD, getElem_of_lt hi]
  obtain ⟨b0, o0, e0, d0⟩ := h (i.toNat * 2 + 0) _ (spans_get (getElem_of_lt hi) 0 (by omega))
  obtain ⟨b1, o1, e1, d1⟩ := h (i.toNat * 2 + 1) _ (spans_get (getElem_of_lt hi) 1 (by omega))
  obtain ⟨rfl, rfl⟩ : b0 = b1 ∧ o0 = o1 := by rw [e0] at e1; simpa using e1
  exact ⟨b0, o0, e0, hi0, _, _, cell_at' (cell_keep hb d0) (by omega), cell_at' (cell_keep hb d1) (by omega), by have := k b0 o0 (cell_lt d0); rw [hg] at this; exact this⟩
theorem offset_any (n : Int) (w : World) : Calls Tryz.prog 59 #[I n] w (Pure w (.bool (decide (-43200 ≤ n ∧ n ≤ 43200)))) :=
  vc59 _ w _ fun m1 g1 w1 hb1 hk1 hc => Pure.calls (in1_any hc) fun w2 hb2 => ⟨_, rfl, .all hb2, fun w3 hb3 _ => ⟨rfl, hb3⟩⟩
def modI (n b : Int) : Int := (n.tmod b + b).tmod b
def downI (n b : Int) : Int := (n - modI n b).tdiv b
theorem mod_any (n : Int) (b : Int) (w : World) (hb : 1 ≤ b ∧ b ≤ 1000000) : Calls Tryz.prog 28 #[I n, I b] w (Pure w (I (modI n b))) := by
  have h1 := Int.tmod_lt_of_pos n (show 0 < b by omega)
  have h2 := Int.lt_tmod_of_pos n (show 0 < b by omega)
  exact vc28 _ _ w _ ⟨by omega, by omega, by omega, fun w1 hb1 _ => ⟨rfl, hb1⟩⟩
theorem modI_bd {n b : Int} (hb : 1 ≤ b) : 0 ≤ modI n b ∧ modI n b < b := by
  have h1 := Int.tmod_lt_of_pos n (show 0 < b by omega)
  have h2 := Int.lt_tmod_of_pos n (show 0 < b by omega)
  unfold modI
  exact ⟨Int.tmod_nonneg _ (by omega), Int.tmod_lt_of_pos _ (by omega)⟩
theorem modI_dvd {n b : Int} (hb : 1 ≤ b) : b ∣ n - modI n b := by
  unfold modI
  have e1 : (n.tmod b + b).tmod b = (n.tmod b + b) - b * ((n.tmod b + b).tdiv b) := by have := Int.tmod_add_mul_tdiv (n.tmod b + b) b; omega
  have e2 : n.tmod b = n - b * (n.tdiv b) := by have := Int.tmod_add_mul_tdiv n b; omega
  rw [e1, e2]
  exact ⟨n.tdiv b - 1 + ((n - b * n.tdiv b + b).tdiv b), by rw [Int.mul_add, Int.mul_sub]; omega⟩
theorem modI_eq {n b : Int} (hb : 1 ≤ b) : modI n b = n % b := by
  have h := modI_bd (n := n) hb
  obtain ⟨q, hq⟩ := modI_dvd (n := n) hb
  have : n = modI n b + b * q := by omega
  rw [this, Int.add_mul_emod_self_left, ← this, Int.emod_eq_of_lt h.1 h.2]
theorem downI_eq {n b : Int} (hb : 1 ≤ b) : downI n b = n / b := by
  unfold downI
  rw [modI_eq hb]
  have h1 := Int.emod_add_mul_ediv n b
  rw [show n - n % b = b * (n / b) by omega, Int.mul_tdiv_cancel_left _ (by omega)]
theorem div_bd {n b B : Int} (hb : 1 ≤ b) (hB : 0 ≤ B) (hn : -B ≤ n ∧ n ≤ B) : -B - 1 ≤ n / b ∧ n / b ≤ B := by
  have h1 := Int.emod_add_mul_ediv n b
  have h2 := Int.emod_nonneg n (show b ≠ 0 by omega)
  have h3 := Int.emod_lt_of_pos n (show 0 < b by omega)
  generalize n / b = q at *
  generalize n % b = m at *
  constructor
  · by_cases hq : q + 1 ≤ 0
    · have := Int.mul_le_mul_of_nonpos_right hb hq
      rw [Int.mul_add] at this
      omega
    · omega
  · by_cases hq : 0 ≤ q
    · have := Int.mul_le_mul_of_nonneg_right hb hq
      omega
    · omega
theorem down_any (n : Int) (b : Int) (w : World) (hb : 1 ≤ b ∧ b ≤ 1000000) (hn : -4000000000000 ≤ n ∧ n ≤ 4000000000000) : Calls Tryz.prog 27 #[I n, I b] w (Pure w (I (downI n b))) := by
  have h := modI_bd (n := n) hb.1
  have hd : -9223372036854775808 ≤ downI n b ∧ downI n b ≤ 9223372036854775807 := by
    rw [downI_eq hb.1]
    have := div_bd (B := 4000000000000) hb.1 (by omega) (by omega : -4000000000000 ≤ n ∧ n ≤ 4000000000000)
    omega
  exact vc27 _ _ w _ fun w1 hb1 _ => Pure.calls (mod_any n b w1 hb) fun w2 hb2 => ⟨_, rfl, .all hb2, by omega, ⟨by omega, hd⟩, fun w3 hb3 _ => ⟨rfl, hb3⟩⟩
/-- An era of a town: its first instant, its last one, its offset. -/
abbrev Era := Int × Int × Int
abbrev eraV (x : Era) : Value := .agg #[I x.1, I x.2.1, I x.2.2]
def okEra (x : Era) : Prop := (0 ≤ x.1 ∧ x.1 ≤ 3155760000) ∧ (-1 ≤ x.2.1 ∧ x.2.1 ≤ 3155760000) ∧ -43200 ≤ x.2.2 ∧ x.2.2 ≤ 43200
def minutesI (x : Era) : Sp := (downI (x.1 + x.2.2) 60, downI (x.2.1 + x.2.2) 60)
def instantsI (x : Era) (m : Int) : Sp := (max x.1 (m * 60 - x.2.2), min x.2.1 (m * 60 - x.2.2 + 60 - 1))
/-- A town: its offset at first, its changes. -/
abbrev Zn := Int × List Sp
abbrev znV (z : Zn) (a : Option Addr) (c : Nat) : Value := .agg #[I z.1, .slice a z.2.length c]
def okOff (n : Int) : Prop := -43200 ≤ n ∧ n ≤ 43200
structure OkZ (z : Zn) : Prop where
  o : okOff z.1
  n : z.2.length ≤ 12
  c : ∀ i, i < z.2.length → ((if i = 0 then 0 else (z.2.getD (i - 1) (0, 0)).1) + 1 ≤ (z.2.getD i (0, 0)).1 ∧ (z.2.getD i (0, 0)).1 ≤ 3155760000) ∧ okOff (z.2.getD i (0, 0)).2
def before (z : Zn) (i : Int) : Int := if i = 0 then 0 else (z.2.getD (i.toNat - 1) (0, 0)).1
end Go.Proofs.RT
end
section
/- Contracts of the functions of zone. -/
namespace Go.Proofs.RT
open Go.Vc Go.RowKit Go.Proofs
theorem before_step {z : Zn} (hz : OkZ z) {x : Int} (h : 0 ≤ x ∧ x < z.2.length) : (0 ≤ before z x ∧ before z x + 1 ≤ (z.2.getD x.toNat (0, 0)).1 ∧ (z.2.getD x.toNat (0, 0)).1 ≤ 3155760000) ∧ okOff (z.2.getD x.toNat (0, 0)).2 ∧ before z (x + 1) = (z.2.getD x.toNat (0, 0)).1 := by
  have key : ∀ n : Nat, n < z.2.length → 1 ≤ (z.2.getD n (0, 0)).1 := fun n => by
    induction n with
    | zero => intro hn; have := (hz.c 0 hn).1; simp at this ⊢; omega
    | succ n ih => intro hn; have h1 := (hz.c (n + 1) hn).1; have h2 := ih (by omega); simp at h1 h2 ⊢; omega
  have hc := hz.c x.toNat (by omega)
  have hbf : before z x = if x.toNat = 0 then 0 else (z.2.getD (x.toNat - 1) (0, 0)).1 := by
    unfold before
    by_cases e : x = 0
    · subst e; rfl
    · rw [if_neg e, if_neg (by omega)]
  rw [← hbf] at hc
  have h0 : 0 ≤ before z x := by
    rw [hbf]
    split
    · omega
    · have := key (x.toNat - 1) (by omega); omega
  refine ⟨⟨h0, hc.1.1, hc.1.2⟩, hc.2, ?_⟩
  unfold before
  rw [if_neg (by omega), show (x + 1).toNat - 1 = x.toNat by omega]
theorem says_any {w : World} (x : Era) (n : Int) (hx : okEra x) (hn : -1 ≤ n ∧ n ≤ 3155760000) : Calls Tryz.prog 26 #[eraV x, I n] w (Pure w (I (n + x.2.2))) := by
  obtain ⟨⟨hx0, hx1⟩, ⟨hx2, hx3⟩, hx4, hx5⟩ := hx
  refine vc26 _ _ _ _ w _ ?_
  intro m1 g_m1
  refine ⟨(by first | omega | (simp only; omega)), ?_⟩
  intro w1 hb1 hk1
  exact ⟨by rfl, hb1⟩

theorem minute_any {w : World} (x : Era) (n : Int) (hx : okEra x) (hn : -1 ≤ n ∧ n ≤ 3155760000) : Calls Tryz.prog 130 #[eraV x, I n] w (Pure w (I (downI (n + x.2.2) 60))) := by
  refine vc130 _ _ _ _ w _ ?_
  intro m1 g_m1 w1 hb1 hk1
  refine Pure.calls (says_any x n hx hn) fun w2 hd2 => ?_
  have hb2 := hb1.trans (hd2.mono hb1.size)
  refine ⟨_, rfl, .all hd2, ?_⟩
  intro w3 hb3 hk3
  refine Pure.calls (down_any _ 60 _ (by omega) (by have := hx.2.2; omega)) fun w4 hd4 => ?_
  have hb4 := hb3.trans (hd4.mono hb3.size)
  refine ⟨_, rfl, .all hd4, ?_⟩
  intro w5 hb5 hk5
  exact ⟨by rfl, hb5⟩

theorem minutes_any {w : World} (x : Era) (hx : okEra x) : Calls Tryz.prog 68 #[eraV x] w (Pure w (spv (minutesI x))) := by
  refine vc68 _ _ _ w _ ?_
  intro m1 g_m1 m2 g_m2 w1 hb1 hk1
  refine Pure.calls (minute_any x x.1 hx (by have := hx.1; omega)) fun w2 hd2 => ?_
  have hb2 := hb1.trans (hd2.mono hb1.size)
  refine ⟨_, rfl, .all hd2, ?_⟩
  intro w3 hb3 hk3
  refine Pure.calls (minute_any x x.2.1 hx (by have := hx.2.1; omega)) fun w4 hd4 => ?_
  have hb4 := hb3.trans (hd4.mono hb3.size)
  refine ⟨_, rfl, .all hd4, ?_⟩
  intro w5 hb5 hk5
  exact ⟨by rfl, hb5⟩

theorem instants_any {w : World} (x : Era) (m : Int) (hx : okEra x) (hm : -4000000000000 ≤ m ∧ m ≤ 4000000000000) : Calls Tryz.prog 131 #[eraV x, I m] w (Pure w (spv (instantsI x m))) := by
  obtain ⟨⟨hx0, hx1⟩, ⟨hx2, hx3⟩, hx4, hx5⟩ := hx
  refine vc131 _ _ _ _ w _ ?_
  intro m1 g_m1 m2 g_m2
  refine ⟨(by first | omega | (simp only; omega)), (by first | omega | (simp only; omega)), (by first | omega | (simp only; omega)), (by first | omega | (simp only; omega)), ?_⟩
  intro w1 hb1 hk1
  exact ⟨by rfl, hb1⟩

theorem zcheck_ok {w : World} {z : Zn} {a : Option Addr} {c : Nat} (hc : Cells w a (spansV z.2)) (hz : OkZ z) : Calls Tryz.prog 23 #[znV z a c] w (Pure w (I 0)) := by
  have hzn := hz.n; have hzo := hz.o; unfold okOff at hzo
  refine vc23 _ _ _ _ w _ ?_
  intro m1 g_m1
  refine ⟨fun ls _ => match ls with | [_, .int _ b, .int _ i] => (0 ≤ i ∧ i ≤ z.2.length) ∧ b = before z i | _ => False, fun ls => match ls with | [_, _, .int _ i] => (z.2.length - i).toNat | _ => 0, ?_, ?_⟩
  · intro w2 hb2 hk2
    exact ⟨by omega, rfl⟩
  rintro y1 y2 x3 w3 hb3 ⟨⟨x0, xl⟩, rfl⟩
  refine ⟨?_, ?_⟩
  · intro h1
    try simp only [Bool.not_eq_true', Bool.not_eq_false', decide_eq_true_eq, decide_eq_false_iff_not] at h1
    refine load_span hc hb3 (by omega) fun m2 m3 hm1 => ⟨.inl hm1, ?_⟩
    have hst := before_step hz (x := x3) (by omega)
    have ho2 := hst.2.1; unfold okOff at ho2
    intro m4 g_m4
    refine ⟨(by first | omega | (simp only; omega)), ?_⟩
    intro m5 g_m5 w4 hb4 hk4 hc4_m5
    refine Pure.calls (in1_any hc4_m5) fun w5 hd5 => ?_
    have hb5 := hb4.trans (hd5.mono hb4.size)
    refine ⟨_, rfl, .all hd5, ?_, ?_⟩
    · intro h2 w6 hb6 hk6
      try simp only [Bool.not_eq_true', decide_eq_false_iff_not] at h2
      exact ⟨by first | rfl | omega | (exfalso; simp_all; done) | (exfalso; simp_all; omega), hb6⟩
    · intro h3 w7 hb7 hk7
      try simp only [Bool.not_eq_false', decide_eq_true_eq] at h3
      refine Pure.calls (offset_any _ _) fun w8 hd8 => ?_
      have hb8 := hb7.trans (hd8.mono hb7.size)
      refine ⟨_, rfl, .all hd8, ?_, ?_⟩
      · intro h4 w9 hb9 hk9
        try simp only [Bool.not_eq_true', decide_eq_false_iff_not] at h4
        exact ⟨by first | rfl | omega | (exfalso; simp_all; done) | (exfalso; simp_all; omega), hb9⟩
      · intro h5
        try simp only [Bool.not_eq_false', decide_eq_true_eq] at h5
        refine ⟨(by first | omega | (simp only; omega)), ?_⟩
        intro w10 hb10 hk10
        refine ⟨?_, (by first | omega | (simp only; omega))⟩
        exact ⟨by omega, hst.2.2.symm⟩
  · intro h6 w11 hb11 hk11
    try simp only [Bool.not_eq_true', Bool.not_eq_false', decide_eq_true_eq, decide_eq_false_iff_not] at h6
    refine Pure.calls (offset_any _ _) fun w12 hd12 => ?_
    have hb12 := hb11.trans (hd12.mono hb11.size)
    refine ⟨_, rfl, .all hd12, ?_, ?_⟩
    · intro h7 w13 hb13 hk13
      try simp only [Bool.not_eq_true', decide_eq_false_iff_not] at h7
      exact ⟨by first | rfl | omega | (exfalso; simp_all; done) | (exfalso; simp_all; omega), hb13⟩
    · intro h8
      try simp only [Bool.not_eq_false', decide_eq_true_eq] at h8
      refine ⟨?_, ?_⟩
      · intro h9 w14 hb14 hk14
        try simp only [Bool.not_eq_true', Bool.not_eq_false', decide_eq_true_eq, decide_eq_false_iff_not] at h9
        exact ⟨by first | rfl | omega | (exfalso; simp_all; done) | (exfalso; simp_all; omega), hb14⟩
      · intro h10 w15 hb15 hk15
        try simp only [Bool.not_eq_true', Bool.not_eq_false', decide_eq_true_eq, decide_eq_false_iff_not] at h10
        exact ⟨by first | rfl | omega | (exfalso; simp_all; done) | (exfalso; simp_all; omega), hb15⟩
end Go.Proofs.RT
end
section
/- The conditions of the functions, printed by program; each is what the generator reckons (kernel_rfl). -/
namespace Go.Proofs
open Go.Vc
set_option maxRecDepth 100000 in
set_option maxHeartbeats 2000000 in
theorem vc138 (s : Int) (tower : Int) (w : World) (R : Ending → World → Prop) (h : 0 ≤ tower ∧ ∀ (w1 : World), RowKit.Below w.heap.size w w1 → Kept [] w w1 → R (Ending.returned
    (Value.bool (IntKind.i64.wrap (↑(BitVec.ofInt IntKind.i64.bits (s.fdiv (2 ^ min tower.toNat IntKind.i64.bits)) &&& BitVec.ofInt IntKind.i64.bits 1).toNat : Int) == 1))) w1) :
    Calls Tryz.prog 138 #[Value.int IntKind.i64 s, Value.int IntKind.i64 tower] w R := calls_of_vc (pure := true) (wrapAt := []) (muts := []) (esc := []) (args := [SV.pv (PV.one
    (Lf.int IntKind.i64 s)), SV.pv (PV.one (Lf.int IntKind.i64 tower))]) (vs := [Value.int IntKind.i64 s, Value.int IntKind.i64 tower]) Tryz.func138 rfl rfl rfl (Eq.mp (by
    kernel_rfl) h) 
set_option maxRecDepth 100000 in
set_option maxHeartbeats 2000000 in
theorem vc139 (s : Int) (tower : Int) (w : World) (R : Ending → World → Prop) (h : 0 ≤ tower ∧ ∀ (w1 : World), RowKit.Below w.heap.size w w1 → Kept [] w w1 → R (Ending.returned
    (Value.int IntKind.i64 (IntKind.i64.wrap (↑(BitVec.ofInt IntKind.i64.bits s ||| BitVec.ofInt IntKind.i64.bits (IntKind.i64.wrap (1 * 2 ^ min tower.toNat
    IntKind.i64.bits))).toNat : Int)))) w1) : Calls Tryz.prog 139 #[Value.int IntKind.i64 s, Value.int IntKind.i64 tower] w R := calls_of_vc (pure := true) (wrapAt := []) (muts :=
    []) (esc := []) (args := [SV.pv (PV.one (Lf.int IntKind.i64 s)), SV.pv (PV.one (Lf.int IntKind.i64 tower))]) (vs := [Value.int IntKind.i64 s, Value.int IntKind.i64 tower])
    Tryz.func139 rfl rfl rfl (Eq.mp (by kernel_rfl) h) 
set_option maxRecDepth 100000 in
set_option maxHeartbeats 2000000 in
theorem vc198 (p0w0a : Option Addr) (p0w0n : Nat) (p0w0c : Nat) (p0w1a : Option Addr) (p0w1n : Nat) (p0w1c : Nat) (p0w2a : Option Addr) (p0w2n : Nat) (p0w2c : Nat) (p0w3 : Int)
    (p0w4 : Int) (p0w5 : Int) (p0w6 : Int) (p0w7 : Int) (p0w8 : Int) (p0w9 : Int) (p0w10 : Int) (p0w11 : Int) (p0w12 : Int) (p0w13 : Int) (w : World) (R : Ending → World → Prop) (h
    : ∀ (m1 : Nat), w.heap.size ≤ m1 → (p0w7 < p0w13 → ∀ (w1 : World), RowKit.Below w.heap.size w w1 → Kept [m1] w w1 → R (Ending.returned (Value.int IntKind.i64 110)) w1) ∧ (p0w13
    ≤ p0w7 → ∀ (w2 : World), RowKit.Below w.heap.size w w2 → Kept [m1] w w2 → R (Ending.returned (Value.int IntKind.i64 0)) w2)) : Calls Tryz.prog 198 #[Value.agg #[Value.slice
    p0w0a p0w0n p0w0c, Value.slice p0w1a p0w1n p0w1c, Value.slice p0w2a p0w2n p0w2c, Value.int IntKind.i64 p0w3, Value.int IntKind.i64 p0w4, Value.int IntKind.u16 p0w5, Value.int
    IntKind.i64 p0w6, Value.int IntKind.i64 p0w7, Value.int IntKind.i64 p0w8, Value.int IntKind.i64 p0w9, Value.int IntKind.i64 p0w10, Value.int IntKind.i64 p0w11, Value.int
    IntKind.i64 p0w12, Value.int IntKind.i64 p0w13]] w R := calls_of_vc (pure := true) (wrapAt := []) (muts := []) (esc := []) (args := [SV.pv (PV.agg [Lf.sl p0w0a p0w0n p0w0c,
    Lf.sl p0w1a p0w1n p0w1c, Lf.sl p0w2a p0w2n p0w2c, Lf.int IntKind.i64 p0w3, Lf.int IntKind.i64 p0w4, Lf.int IntKind.u16 p0w5, Lf.int IntKind.i64 p0w6, Lf.int IntKind.i64 p0w7,
    Lf.int IntKind.i64 p0w8, Lf.int IntKind.i64 p0w9, Lf.int IntKind.i64 p0w10, Lf.int IntKind.i64 p0w11, Lf.int IntKind.i64 p0w12, Lf.int IntKind.i64 p0w13])]) (vs := [Value.agg
    #[Value.slice p0w0a p0w0n p0w0c, Value.slice p0w1a p0w1n p0w1c, Value.slice p0w2a p0w2n p0w2c, Value.int IntKind.i64 p0w3, Value.int IntKind.i64 p0w4, Value.int IntKind.u16
    p0w5, Value.int IntKind.i64 p0w6, Value.int IntKind.i64 p0w7, Value.int IntKind.i64 p0w8, Value.int IntKind.i64 p0w9, Value.int IntKind.i64 p0w10, Value.int IntKind.i64 p0w11,
    Value.int IntKind.i64 p0w12, Value.int IntKind.i64 p0w13]]) Tryz.func198 rfl rfl rfl (Eq.mp (by kernel_rfl) h) 
set_option maxRecDepth 100000 in
set_option maxHeartbeats 2000000 in
theorem vc137 (p0wb : Nat) (p0wo : Nat) (minutes : Int) (w : World) (R : Ending → World → Prop) (h : ∃ (x1 : Int), w.cell? { block := p0wb, off := p0wo + 12 } = some (Value.int
    IntKind.i64 x1) ∧ (-9223372036854775808 ≤ x1 + minutes ∧ x1 + minutes ≤ 9223372036854775807) ∧ ∃ (x2 : Int), w.cell? { block := p0wb, off := p0wo + 13 } = some (Value.int
    IntKind.i64 x2) ∧ ∀ (w1 : World), KeptIn [(0, w.heap.size)] [] w w1 → RunsTo Tryz.prog ((Instr.storeAt 3 (Value.pointer (some { block := p0wb, off := p0wo + 12 })) (Value.int
    IntKind.i64 (x1 + minutes))) >>= fun _ => pure (Value.tuple #[])) w1 fun (v1 : Value) (w2 : World) => KeepX false w.heap.size [] (fun _ => False) w1 w2 ∧ (-9223372036854775808
    ≤ x2 + minutes ∧ x2 + minutes ≤ 9223372036854775807) ∧ ∀ (w3 : World), KeptIn [(0, w2.heap.size)] [] w2 w3 → RunsTo Tryz.prog ((Instr.storeAt 3 (Value.pointer (some
    { block := p0wb, off := p0wo + 13 })) (Value.int IntKind.i64 (x2 + minutes))) >>= fun _ => pure (Value.tuple #[])) w3 fun (v2 : Value) (w4 : World) => KeepX false w.heap.size
    [] (fun _ => False) w3 w4 ∧ ∃ (x3 : Int), w4.cell? { block := p0wb, off := p0wo + 12 } = some (Value.int IntKind.i64 x3) ∧ ∃ (x4 : Int), w4.cell?
    { block := p0wb, off := p0wo + 5 + 3 } = some (Value.int IntKind.i64 x4) ∧ (x4 < x3 → ∀ (w5 : World), Kept [] w4 w5 → R (Ending.returned (Value.int IntKind.i64 111)) w5) ∧ (x3
    ≤ x4 → ∃ (a1 : Option Addr), ∃ (m3 : Nat), ∃ (m4 : Nat), ∃ (a2 : Option Addr), ∃ (m5 : Nat), ∃ (m6 : Nat), ∃ (a3 : Option Addr), ∃ (m7 : Nat), ∃ (m8 : Nat), ∃ (x5 : Int), ∃ (x6
    : Int), ∃ (x7 : Int), ∃ (x8 : Int), ∃ (x9 : Int), ∃ (x10 : Int), ∃ (x11 : Int), ∃ (x12 : Int), ∃ (x13 : Int), ∃ (x14 : Int), ∃ (x15 : Int), w4.cell?
    { block := p0wb, off := p0wo } = some (Value.slice a1 m3 m4) ∧ w4.cell? { block := p0wb, off := p0wo + 1 } = some (Value.slice a2 m5 m6) ∧ w4.cell?
    { block := p0wb, off := p0wo + 1 + 1 } = some (Value.slice a3 m7 m8) ∧ w4.cell? { block := p0wb, off := p0wo + 1 + 1 + 1 } = some (Value.int IntKind.i64 x5) ∧ w4.cell?
    { block := p0wb, off := p0wo + 1 + 1 + 1 + 1 } = some (Value.int IntKind.i64 x6) ∧ w4.cell? { block := p0wb, off := p0wo + 1 + 1 + 1 + 1 + 1 } = some (Value.int IntKind.u16 x7)
    ∧ w4.cell? { block := p0wb, off := p0wo + 1 + 1 + 1 + 1 + 1 + 1 } = some (Value.int IntKind.i64 x8) ∧ w4.cell? { block := p0wb, off := p0wo + 1 + 1 + 1 + 1 + 1 + 1 + 1 } = some
    (Value.int IntKind.i64 x9) ∧ w4.cell? { block := p0wb, off := p0wo + 1 + 1 + 1 + 1 + 1 + 1 + 1 + 1 } = some (Value.int IntKind.i64 x10) ∧ w4.cell?
    { block := p0wb, off := p0wo + 1 + 1 + 1 + 1 + 1 + 1 + 1 + 1 + 1 } = some (Value.int IntKind.i64 x11) ∧ w4.cell?
    { block := p0wb, off := p0wo + 1 + 1 + 1 + 1 + 1 + 1 + 1 + 1 + 1 + 1 } = some (Value.int IntKind.i64 x12) ∧ w4.cell?
    { block := p0wb, off := p0wo + 1 + 1 + 1 + 1 + 1 + 1 + 1 + 1 + 1 + 1 + 1 } = some (Value.int IntKind.i64 x13) ∧ w4.cell?
    { block := p0wb, off := p0wo + 1 + 1 + 1 + 1 + 1 + 1 + 1 + 1 + 1 + 1 + 1 + 1 } = some (Value.int IntKind.i64 x14) ∧ w4.cell?
    { block := p0wb, off := p0wo + 1 + 1 + 1 + 1 + 1 + 1 + 1 + 1 + 1 + 1 + 1 + 1 + 1 } = some (Value.int IntKind.i64 x15) ∧ ∀ (w6 : World), Kept [] w4 w6 → Calls Tryz.prog 198
    #[Value.agg #[Value.slice a1 m3 m4, Value.slice a2 m5 m6, Value.slice a3 m7 m8, Value.int IntKind.i64 x5, Value.int IntKind.i64 x6, Value.int IntKind.u16 x7, Value.int
    IntKind.i64 x8, Value.int IntKind.i64 x9, Value.int IntKind.i64 x10, Value.int IntKind.i64 x11, Value.int IntKind.i64 x12, Value.int IntKind.i64 x13, Value.int IntKind.i64 x14,
    Value.int IntKind.i64 x15]] w6 fun (e1 : Ending) (w7 : World) => ∃ (x16 : Int), e1 = Ending.returned (Value.int IntKind.i64 x16) ∧ KeepX false w.heap.size [] (fun _ => False)
    w6 w7 ∧ ∀ (w8 : World), Kept [] w7 w8 → R (Ending.returned (Value.int IntKind.i64 x16)) w8)) : Calls Tryz.prog 137 #[Value.pointer (some { block := p0wb, off := p0wo }),
    Value.int IntKind.i64 minutes] w R := calls_of_vc (pure := false) (wrapAt := []) (muts := []) (esc := []) (args := [SV.pv (PV.one (Lf.ptr p0wb p0wo)), SV.pv (PV.one (Lf.int
    IntKind.i64 minutes))]) (vs := [Value.pointer (some { block := p0wb, off := p0wo }), Value.int IntKind.i64 minutes]) Tryz.func137 rfl rfl rfl (Eq.mp (by kernel_rfl) h) 
set_option maxRecDepth 100000 in
set_option maxHeartbeats 2000000 in
theorem vc135 (p0wb : Nat) (p0wo : Nat) (w : World) (R : Ending → World → Prop) (h : ∃ (x1 : Int), w.cell? { block := p0wb, off := p0wo + 13 } = some (Value.int IntKind.i64 x1) ∧ ∃
    (x2 : Int), w.cell? { block := p0wb, off := p0wo + 0 + 3 } = some (Value.int IntKind.i64 x2) ∧ ∀ (w1 : World), KeptIn [(0, w.heap.size)] [] w w1 → RunsTo Tryz.prog
    ((Instr.storeAt 3 (Value.pointer (some { block := p0wb, off := p0wo + 12 })) (Value.int IntKind.i64 0)) >>= fun _ => pure (Value.tuple #[])) w1 fun (v1 : Value) (w2 : World) =>
    KeepX false w.heap.size [] (fun _ => False) w1 w2 ∧ (-9223372036854775808 ≤ x1 + x2 ∧ x1 + x2 ≤ 9223372036854775807) ∧ ∀ (w3 : World), KeptIn [(0, w2.heap.size)] [] w2 w3 →
    RunsTo Tryz.prog ((Instr.storeAt 3 (Value.pointer (some { block := p0wb, off := p0wo + 13 })) (Value.int IntKind.i64 (x1 + x2))) >>= fun _ => pure (Value.tuple #[])) w3 fun (v2
    : Value) (w4 : World) => KeepX false w.heap.size [] (fun _ => False) w3 w4 ∧ ∃ (a1 : Option Addr), ∃ (m3 : Nat), ∃ (m4 : Nat), ∃ (a2 : Option Addr), ∃ (m5 : Nat), ∃ (m6 : Nat),
    ∃ (a3 : Option Addr), ∃ (m7 : Nat), ∃ (m8 : Nat), ∃ (x3 : Int), ∃ (x4 : Int), ∃ (x5 : Int), ∃ (x6 : Int), ∃ (x7 : Int), ∃ (x8 : Int), ∃ (x9 : Int), ∃ (x10 : Int), ∃ (x11 :
    Int), ∃ (x12 : Int), ∃ (x13 : Int), w4.cell? { block := p0wb, off := p0wo } = some (Value.slice a1 m3 m4) ∧ w4.cell? { block := p0wb, off := p0wo + 1 } = some (Value.slice a2
    m5 m6) ∧ w4.cell? { block := p0wb, off := p0wo + 1 + 1 } = some (Value.slice a3 m7 m8) ∧ w4.cell? { block := p0wb, off := p0wo + 1 + 1 + 1 } = some (Value.int IntKind.i64 x3) ∧
    w4.cell? { block := p0wb, off := p0wo + 1 + 1 + 1 + 1 } = some (Value.int IntKind.i64 x4) ∧ w4.cell? { block := p0wb, off := p0wo + 1 + 1 + 1 + 1 + 1 } = some (Value.int
    IntKind.u16 x5) ∧ w4.cell? { block := p0wb, off := p0wo + 1 + 1 + 1 + 1 + 1 + 1 } = some (Value.int IntKind.i64 x6) ∧ w4.cell?
    { block := p0wb, off := p0wo + 1 + 1 + 1 + 1 + 1 + 1 + 1 } = some (Value.int IntKind.i64 x7) ∧ w4.cell? { block := p0wb, off := p0wo + 1 + 1 + 1 + 1 + 1 + 1 + 1 + 1 } = some
    (Value.int IntKind.i64 x8) ∧ w4.cell? { block := p0wb, off := p0wo + 1 + 1 + 1 + 1 + 1 + 1 + 1 + 1 + 1 } = some (Value.int IntKind.i64 x9) ∧ w4.cell?
    { block := p0wb, off := p0wo + 1 + 1 + 1 + 1 + 1 + 1 + 1 + 1 + 1 + 1 } = some (Value.int IntKind.i64 x10) ∧ w4.cell?
    { block := p0wb, off := p0wo + 1 + 1 + 1 + 1 + 1 + 1 + 1 + 1 + 1 + 1 + 1 } = some (Value.int IntKind.i64 x11) ∧ w4.cell?
    { block := p0wb, off := p0wo + 1 + 1 + 1 + 1 + 1 + 1 + 1 + 1 + 1 + 1 + 1 + 1 } = some (Value.int IntKind.i64 x12) ∧ w4.cell?
    { block := p0wb, off := p0wo + 1 + 1 + 1 + 1 + 1 + 1 + 1 + 1 + 1 + 1 + 1 + 1 + 1 } = some (Value.int IntKind.i64 x13) ∧ ∀ (w5 : World), Kept [] w4 w5 → Calls Tryz.prog 198
    #[Value.agg #[Value.slice a1 m3 m4, Value.slice a2 m5 m6, Value.slice a3 m7 m8, Value.int IntKind.i64 x3, Value.int IntKind.i64 x4, Value.int IntKind.u16 x5, Value.int
    IntKind.i64 x6, Value.int IntKind.i64 x7, Value.int IntKind.i64 x8, Value.int IntKind.i64 x9, Value.int IntKind.i64 x10, Value.int IntKind.i64 x11, Value.int IntKind.i64 x12,
    Value.int IntKind.i64 x13]] w5 fun (e1 : Ending) (w6 : World) => ∃ (x14 : Int), e1 = Ending.returned (Value.int IntKind.i64 x14) ∧ KeepX false w.heap.size [] (fun _ => False)
    w5 w6 ∧ ∀ (w7 : World), Kept [] w6 w7 → R (Ending.returned (Value.int IntKind.i64 x14)) w7) : Calls Tryz.prog 135 #[Value.pointer (some { block := p0wb, off := p0wo })] w R :=
    calls_of_vc (pure := false) (wrapAt := []) (muts := []) (esc := []) (args := [SV.pv (PV.one (Lf.ptr p0wb p0wo))]) (vs := [Value.pointer (some { block := p0wb, off := p0wo })])
    Tryz.func135 rfl rfl rfl (Eq.mp (by kernel_rfl) h) 
set_option maxRecDepth 100000 in
set_option maxHeartbeats 2000000 in
theorem vc136 (p0wb : Nat) (p0wo : Nat) (tower : Int) (w : World) (R : Ending → World → Prop) (h : ∃ (a1 : Option Addr), ∃ (m1 : Nat), ∃ (m2 : Nat), w.cell?
    { block := p0wb, off := p0wo + 0 + 0 } = some (Value.slice a1 m1 m2) ∧ ∃ (m3 : Nat), ∃ (m4 : Nat), a1 = some { block := m3, off := m4 } ∧ (0 ≤ tower ∧ tower < (↑m1 : Int)) ∧ ∃
    (x1 : Int), ∃ (x2 : Int), ∃ (x3 : Int), ∃ (x4 : Int), ∃ (x5 : Int), w.cell? { block := m3, off := m4 + tower.toNat * 5 } = some (Value.int IntKind.i64 x1) ∧ w.cell?
    { block := m3, off := m4 + tower.toNat * 5 + 1 } = some (Value.int IntKind.i64 x2) ∧ w.cell? { block := m3, off := m4 + tower.toNat * 5 + 1 + 1 } = some (Value.int IntKind.u16
    x3) ∧ w.cell? { block := m3, off := m4 + tower.toNat * 5 + 1 + 1 + 1 } = some (Value.int IntKind.i64 x4) ∧ w.cell? { block := m3, off := m4 + tower.toNat * 5 + 1 + 1 + 1 + 1 }
    = some (Value.int IntKind.i64 x5) ∧ ∀ (m5 : Nat), w.heap.size ≤ m5 → ∃ (x6 : Int), w.cell? { block := p0wb, off := p0wo + 11 } = some (Value.int IntKind.i64 x6) ∧ (p0wb <
    w.heap.size ∨ p0wb ≠ m5) ∧ (-9223372036854775808 ≤ x6 + x4 ∧ x6 + x4 ≤ 9223372036854775807) ∧ ∀ (w1 : World), KeptIn [(0, w.heap.size)] [m5] w w1 → RunsTo Tryz.prog
    ((Instr.storeAt 3 (Value.pointer (some { block := p0wb, off := p0wo + 11 })) (Value.int IntKind.i64 (x6 + x4))) >>= fun _ => pure (Value.tuple #[])) w1 fun (v1 : Value) (w2 :
    World) => KeepX false w.heap.size [m5] (fun _ => False) w1 w2 ∧ ∃ (x7 : Int), w2.cell? { block := p0wb, off := p0wo + 10 } = some (Value.int IntKind.i64 x7) ∧ (p0wb <
    w.heap.size ∨ p0wb ≠ m5) ∧ ∀ (w3 : World), Kept [m5] w2 w3 → Calls Tryz.prog 138 #[Value.int IntKind.i64 x7, Value.int IntKind.i64 tower] w3 fun (e1 : Ending) (w4 : World) => ∃
    (t1 : Bool), e1 = Ending.returned (Value.bool t1) ∧ KeepX false w.heap.size [m5] (fun _ => False) w3 w4 ∧ (t1 = true → ∀ (w5 : World), Kept [m5] w4 w5 → R (Ending.returned
    (Value.int IntKind.i64 6)) w5) ∧ (t1 = false → ∃ (x8 : Int), w4.cell? { block := p0wb, off := p0wo + 5 + 0 } = some (Value.int IntKind.u16 x8) ∧ (p0wb < w.heap.size ∨ p0wb ≠
    m5) ∧ (IntKind.u16.wrap (↑(BitVec.ofInt IntKind.u16.bits x3 &&& ~~~BitVec.ofInt IntKind.u16.bits x8).toNat : Int) ≠ 0 → ∀ (w6 : World), Kept [m5] w4 w6 → R (Ending.returned
    (Value.int IntKind.i64 112)) w6) ∧ (IntKind.u16.wrap (↑(BitVec.ofInt IntKind.u16.bits x3 &&& ~~~BitVec.ofInt IntKind.u16.bits x8).toNat : Int) = 0 → ∃ (x9 : Int), w4.cell?
    { block := p0wb, off := p0wo + 11 } = some (Value.int IntKind.i64 x9) ∧ (p0wb < w.heap.size ∨ p0wb ≠ m5) ∧ ∃ (x10 : Int), w4.cell? { block := p0wb, off := p0wo + 5 + 1 } = some
    (Value.int IntKind.i64 x10) ∧ (p0wb < w.heap.size ∨ p0wb ≠ m5) ∧ (x10 < x9 → ∀ (w7 : World), Kept [m5] w4 w7 → R (Ending.returned (Value.int IntKind.i64 113)) w7) ∧ (x9 ≤ x10 →
    ∃ (a2 : Option Addr), ∃ (m8 : Nat), ∃ (m9 : Nat), w4.cell? { block := p0wb, off := p0wo + 0 + 1 } = some (Value.slice a2 m8 m9) ∧ (p0wb < w.heap.size ∨ p0wb ≠ m5) ∧ ∃ (x11 :
    Int), w4.cell? { block := p0wb, off := p0wo + 9 } = some (Value.int IntKind.i64 x11) ∧ (p0wb < w.heap.size ∨ p0wb ≠ m5) ∧ ∃ (m10 : Nat), ∃ (m11 : Nat), a2 = some
    { block := m10, off := m11 } ∧ (0 ≤ x11 ∧ x11 < (↑m8 : Int)) ∧ ∃ (a3 : Option Addr), ∃ (m12 : Nat), ∃ (m13 : Nat), w4.cell? { block := m10, off := m11 + x11.toNat * 1 } = some
    (Value.slice a3 m12 m13) ∧ (m10 < w.heap.size ∨ m10 ≠ m5) ∧ ∃ (m14 : Nat), ∃ (m15 : Nat), a3 = some { block := m14, off := m15 } ∧ (0 ≤ tower ∧ tower < (↑m12 : Int)) ∧ ∃ (x12 :
    Int), w4.cell? { block := m14, off := m15 + tower.toNat * 1 } = some (Value.int IntKind.i64 x12) ∧ (m14 < w.heap.size ∨ m14 ≠ m5) ∧ ∃ (x13 : Int), w4.cell?
    { block := p0wb, off := p0wo + 10 } = some (Value.int IntKind.i64 x13) ∧ (p0wb < w.heap.size ∨ p0wb ≠ m5) ∧ ∀ (w8 : World), Kept [m5] w4 w8 → Calls Tryz.prog 139 #[Value.int
    IntKind.i64 x13, Value.int IntKind.i64 tower] w8 fun (e2 : Ending) (w9 : World) => ∃ (x14 : Int), e2 = Ending.returned (Value.int IntKind.i64 x14) ∧ KeepX false w.heap.size
    [m5] (fun _ => False) w8 w9 ∧ ∀ (w10 : World), Kept [m5] w9 w10 → RunsTo Tryz.prog ((Instr.storeAt 3 (Value.pointer (some { block := p0wb, off := p0wo + 9 })) (Value.int
    IntKind.i64 tower)) >>= fun _ => pure (Value.tuple #[])) w10 fun (v2 : Value) (w11 : World) => KeepX false w.heap.size [m5] (fun _ => False) w10 w11 ∧ ∀ (w12 : World), Kept
    [m5] w11 w12 → RunsTo Tryz.prog ((Instr.storeAt 171 (Value.pointer (some { block := p0wb, off := p0wo + 10 })) (Value.int IntKind.i64 x14)) >>= fun _ => pure (Value.tuple #[]))
    w12 fun (v3 : Value) (w13 : World) => KeepX false w.heap.size [m5] (fun _ => False) w12 w13 ∧ (-9223372036854775808 ≤ x12 + x1 ∧ x12 + x1 ≤ 9223372036854775807) ∧
    (-9223372036854775808 ≤ x12 + x1 + x2 ∧ x12 + x1 + x2 ≤ 9223372036854775807) ∧ ∀ (w14 : World), Kept [m5] w13 w14 → Calls Tryz.prog 137 #[Value.pointer (some
    { block := p0wb, off := p0wo }), Value.int IntKind.i64 (x12 + x1 + x2)] w14 fun (e3 : Ending) (w15 : World) => ∃ (x15 : Int), e3 = Ending.returned (Value.int IntKind.i64 x15) ∧
    KeepX false w.heap.size [m5] (fun _ => False) w14 w15 ∧ ∀ (w16 : World), Kept [m5] w15 w16 → R (Ending.returned (Value.int IntKind.i64 x15)) w16)))) : Calls Tryz.prog 136
    #[Value.pointer (some { block := p0wb, off := p0wo }), Value.int IntKind.i64 tower] w R := calls_of_vc (pure := false) (wrapAt := []) (muts := []) (esc := []) (args := [SV.pv
    (PV.one (Lf.ptr p0wb p0wo)), SV.pv (PV.one (Lf.int IntKind.i64 tower))]) (vs := [Value.pointer (some { block := p0wb, off := p0wo }), Value.int IntKind.i64 tower]) Tryz.func136
    rfl rfl rfl (Eq.mp (by kernel_rfl) h) 
set_option maxRecDepth 100000 in
set_option maxHeartbeats 2000000 in
theorem vc74 (p0wb : Nat) (p0wo : Nat) (n : Int) (w : World) (R : Ending → World → Prop) (h : (n = -1 → ∀ (w1 : World), Kept [] w w1 → Calls Tryz.prog 135 #[Value.pointer (some
    { block := p0wb, off := p0wo })] w1 fun (e1 : Ending) (w2 : World) => ∃ (x1 : Int), e1 = Ending.returned (Value.int IntKind.i64 x1) ∧ KeepX false w.heap.size [] (fun _ =>
    False) w1 w2 ∧ ∀ (w3 : World), Kept [] w2 w3 → R (Ending.returned (Value.int IntKind.i64 x1)) w3) ∧ (n ≠ -1 → ∃ (a1 : Option Addr), ∃ (m2 : Nat), ∃ (m3 : Nat), w.cell?
    { block := p0wb, off := p0wo + 0 + 0 } = some (Value.slice a1 m2 m3) ∧ (-9223372036854775808 ≤ (↑m2 : Int) - 1 ∧ (↑m2 : Int) - (1 : Int) ≤ 9223372036854775807) ∧ ∀ (m4 : Nat),
    w.heap.size ≤ m4 → ∀ (w4 : World), Kept [m4] w w4 → w4.heap[m4]? = some (Obj.cells #[Value.int IntKind.i64 n] 3) → Calls Tryz.prog 121 #[Value.int IntKind.i64 0, Value.int
    IntKind.i64 ((↑m2 : Int) - 1), Value.slice (some { block := m4, off := 0 }) 1 1] w4 fun (e2 : Ending) (w5 : World) => ∃ (t1 : Bool), e2 = Ending.returned (Value.bool t1) ∧
    KeepX false w.heap.size [m4] (fun _ => False) w4 w5 ∧ ((!t1) = true → ∀ (w6 : World), Kept [m4] w5 w6 → R (Ending.returned (Value.int IntKind.i64 2)) w6) ∧ ((!t1) = false → ∀
    (w7 : World), Kept [m4] w5 w7 → Calls Tryz.prog 136 #[Value.pointer (some { block := p0wb, off := p0wo }), Value.int IntKind.i64 n] w7 fun (e3 : Ending) (w8 : World) => ∃ (x2 :
    Int), e3 = Ending.returned (Value.int IntKind.i64 x2) ∧ KeepX false w.heap.size [m4] (fun _ => False) w7 w8 ∧ ∀ (w9 : World), Kept [m4] w8 w9 → R (Ending.returned (Value.int
    IntKind.i64 x2)) w9))) : Calls Tryz.prog 74 #[Value.pointer (some { block := p0wb, off := p0wo }), Value.int IntKind.i64 n] w R := calls_of_vc (pure := false) (wrapAt := [])
    (muts := []) (esc := []) (args := [SV.pv (PV.one (Lf.ptr p0wb p0wo)), SV.pv (PV.one (Lf.int IntKind.i64 n))]) (vs := [Value.pointer (some { block := p0wb, off := p0wo }),
    Value.int IntKind.i64 n]) Tryz.func74 rfl rfl rfl (Eq.mp (by kernel_rfl) h) 
set_option maxRecDepth 100000 in
set_option maxHeartbeats 2000000 in
theorem vc134 (r0a : Option Addr) (r0n : Nat) (r0c : Nat) (r1a : Option Addr) (r1n : Nat) (r1c : Nat) (r2a : Option Addr) (r2n : Nat) (r2c : Nat) (r3 : Int) (r4 : Int) (w : World)
    (R : Ending → World → Prop) (h : ∀ (m1 : Nat), w.heap.size ≤ m1 → ∀ (w1 : World), RowKit.Below w.heap.size w w1 → Kept [m1] w w1 → R (Ending.returned (Value.int IntKind.i64
    (↑r0n : Int))) w1) : Calls Tryz.prog 134 #[Value.agg #[Value.slice r0a r0n r0c, Value.slice r1a r1n r1c, Value.slice r2a r2n r2c, Value.int IntKind.i64 r3, Value.int
    IntKind.i64 r4]] w R := calls_of_vc (pure := true) (wrapAt := []) (muts := []) (esc := []) (args := [SV.pv (PV.agg [Lf.sl r0a r0n r0c, Lf.sl r1a r1n r1c, Lf.sl r2a r2n r2c,
    Lf.int IntKind.i64 r3, Lf.int IntKind.i64 r4])]) (vs := [Value.agg #[Value.slice r0a r0n r0c, Value.slice r1a r1n r1c, Value.slice r2a r2n r2c, Value.int IntKind.i64 r3,
    Value.int IntKind.i64 r4]]) Tryz.func134 rfl rfl rfl (Eq.mp (by kernel_rfl) h) 
set_option maxRecDepth 100000 in
set_option maxHeartbeats 2000000 in
theorem vc75 (p0wb : Nat) (p0wo : Nat) (w : World) (R : Ending → World → Prop) (h : ∃ (a1 : Option Addr), ∃ (m1 : Nat), ∃ (m2 : Nat), ∃ (a2 : Option Addr), ∃ (m3 : Nat), ∃ (m4 :
    Nat), ∃ (a3 : Option Addr), ∃ (m5 : Nat), ∃ (m6 : Nat), ∃ (x1 : Int), ∃ (x2 : Int), w.cell? { block := p0wb, off := p0wo + 0 } = some (Value.slice a1 m1 m2) ∧ w.cell?
    { block := p0wb, off := p0wo + 0 + 1 } = some (Value.slice a2 m3 m4) ∧ w.cell? { block := p0wb, off := p0wo + 0 + 1 + 1 } = some (Value.slice a3 m5 m6) ∧ w.cell?
    { block := p0wb, off := p0wo + 0 + 1 + 1 + 1 } = some (Value.int IntKind.i64 x1) ∧ w.cell? { block := p0wb, off := p0wo + 0 + 1 + 1 + 1 + 1 } = some (Value.int IntKind.i64 x2)
    ∧ ∀ (w1 : World), KeptIn [(0, w.heap.size)] [] w w1 → Calls Tryz.prog 134 #[Value.agg #[Value.slice a1 m1 m2, Value.slice a2 m3 m4, Value.slice a3 m5 m6, Value.int IntKind.i64
    x1, Value.int IntKind.i64 x2]] w1 fun (e1 : Ending) (w2 : World) => ∃ (x3 : Int), e1 = Ending.returned (Value.int IntKind.i64 x3) ∧ RowKit.Below w1.heap.size w1 w2 ∧ ∃ (a4 :
    Option Addr), ∃ (m7 : Nat), ∃ (m8 : Nat), w.cell? { block := p0wb, off := p0wo + 0 + 1 } = some (Value.slice a4 m7 m8) ∧ ∃ (x4 : Int), w.cell?
    { block := p0wb, off := p0wo + 9 } = some (Value.int IntKind.i64 x4) ∧ ∃ (m9 : Nat), ∃ (m10 : Nat), a4 = some { block := m9, off := m10 } ∧ (0 ≤ x4 ∧ x4 < (↑m7 : Int)) ∧ ∃ (a5
    : Option Addr), ∃ (m11 : Nat), ∃ (m12 : Nat), w.cell? { block := m9, off := m10 + x4.toNat * 1 } = some (Value.slice a5 m11 m12) ∧ ∃ (m13 : Nat), ∃ (m14 : Nat), a5 = some
    { block := m13, off := m14 } ∧ (0 ≤ x3 ∧ x3 < (↑m11 : Int)) ∧ ∃ (x5 : Int), w2.cell? { block := m13, off := m14 + x3.toNat * 1 } = some (Value.int IntKind.i64 x5) ∧ ∀ (w3 :
    World), KeptIn [(0, w.heap.size), (w1.heap.size, w2.heap.size)] [] w2 w3 → Calls Tryz.prog 137 #[Value.pointer (some { block := p0wb, off := p0wo }), Value.int IntKind.i64 x5]
    w3 fun (e2 : Ending) (w4 : World) => ∃ (x6 : Int), e2 = Ending.returned (Value.int IntKind.i64 x6) ∧ KeepX false w.heap.size [] (fun _ => False) w3 w4 ∧ ∀ (w5 : World), Kept []
    w4 w5 → R (Ending.returned (Value.int IntKind.i64 x6)) w5) : Calls Tryz.prog 75 #[Value.pointer (some { block := p0wb, off := p0wo })] w R := calls_of_vc (pure := false)
    (wrapAt := []) (muts := []) (esc := []) (args := [SV.pv (PV.one (Lf.ptr p0wb p0wo))]) (vs := [Value.pointer (some { block := p0wb, off := p0wo })]) Tryz.func75 rfl rfl rfl
    (Eq.mp (by kernel_rfl) h) 
set_option maxRecDepth 100000 in
set_option maxHeartbeats 2000000 in
theorem vc72 (r0a : Option Addr) (r0n : Nat) (r0c : Nat) (r1a : Option Addr) (r1n : Nat) (r1c : Nat) (r2a : Option Addr) (r2n : Nat) (r2c : Nat) (r3 : Int) (r4 : Int) (winder :
    Int) (w : World) (R : Ending → World → Prop) (h : ∀ (m1 : Nat), w.heap.size ≤ m1 → (-9223372036854775808 ≤ (↑r2n : Int) - 1 ∧ (↑r2n : Int) - (1 : Int) ≤ 9223372036854775807) ∧
    ∀ (m2 : Nat), w.heap.size ≤ m2 → ∀ (w1 : World), RowKit.Below w.heap.size w w1 → Kept [m2, m1] w w1 → w1.heap[m2]? = some (Obj.cells #[Value.int IntKind.i64 winder] 3) → Calls
    Tryz.prog 121 #[Value.int IntKind.i64 0, Value.int IntKind.i64 ((↑r2n : Int) - 1), Value.slice (some { block := m2, off := 0 }) 1 1] w1 fun (e1 : Ending) (w2 : World) => ∃ (t1
    : Bool), e1 = Ending.returned (Value.bool t1) ∧ KeepX true w.heap.size [m2, m1] (fun _ => False) w1 w2 ∧ ∀ (w3 : World), RowKit.Below w.heap.size w w3 → Kept [m2, m1] w2 w3 → R
    (Ending.returned (Value.bool t1)) w3) : Calls Tryz.prog 72 #[Value.agg #[Value.slice r0a r0n r0c, Value.slice r1a r1n r1c, Value.slice r2a r2n r2c, Value.int IntKind.i64 r3,
    Value.int IntKind.i64 r4], Value.int IntKind.i64 winder] w R := calls_of_vc (pure := true) (wrapAt := []) (muts := []) (esc := []) (args := [SV.pv (PV.agg [Lf.sl r0a r0n r0c,
    Lf.sl r1a r1n r1c, Lf.sl r2a r2n r2c, Lf.int IntKind.i64 r3, Lf.int IntKind.i64 r4]), SV.pv (PV.one (Lf.int IntKind.i64 winder))]) (vs := [Value.agg #[Value.slice r0a r0n r0c,
    Value.slice r1a r1n r1c, Value.slice r2a r2n r2c, Value.int IntKind.i64 r3, Value.int IntKind.i64 r4], Value.int IntKind.i64 winder]) Tryz.func72 rfl rfl rfl (Eq.mp (by
    kernel_rfl) h) 
set_option maxRecDepth 100000 in
set_option maxHeartbeats 2000000 in
theorem vc73 (r0a : Option Addr) (r0n : Nat) (r0c : Nat) (r1a : Option Addr) (r1n : Nat) (r1c : Nat) (r2a : Option Addr) (r2n : Nat) (r2c : Nat) (r3 : Int) (r4 : Int) (winder :
    Int) (w : World) (R : Ending → World → Prop) (h : ∀ (m1 : Nat), w.heap.size ≤ m1 → ∀ (m2 : Nat), w.heap.size ≤ m2 → ∀ (w1 : World), RowKit.Below w.heap.size w w1 → KeptIn [(0,
    w.heap.size)] [m2, m1] w w1 → Calls Tryz.prog 134 #[Value.agg #[Value.slice r0a r0n r0c, Value.slice r1a r1n r1c, Value.slice r2a r2n r2c, Value.int IntKind.i64 r3, Value.int
    IntKind.i64 r4]] w1 fun (e1 : Ending) (w2 : World) => ∃ (x1 : Int), e1 = Ending.returned (Value.int IntKind.i64 x1) ∧ RowKit.Below w1.heap.size w1 w2 ∧ ∃ (m3 : Nat), ∃ (m4 :
    Nat), r2a = some { block := m3, off := m4 } ∧ (0 ≤ winder ∧ winder < (↑r2n : Int)) ∧ ∃ (x2 : Int), ∃ (x3 : Int), ∃ (x4 : Int), ∃ (x5 : Int), w.cell?
    { block := m3, off := m4 + winder.toNat * 4 } = some (Value.int IntKind.u16 x2) ∧ w.cell? { block := m3, off := m4 + winder.toNat * 4 + 1 } = some (Value.int IntKind.i64 x3) ∧
    w.cell? { block := m3, off := m4 + winder.toNat * 4 + 1 + 1 } = some (Value.int IntKind.i64 x4) ∧ w.cell? { block := m3, off := m4 + winder.toNat * 4 + 1 + 1 + 1 } = some
    (Value.int IntKind.i64 x5) ∧ (m3 < w.heap.size ∨ m3 ≠ m2 ∧ m3 ≠ m1) ∧ ∀ (w3 : World), RowKit.Below w.heap.size w w3 → Kept [m2, m1] w2 w3 → R (Ending.returned (Value.agg
    #[Value.slice r0a r0n r0c, Value.slice r1a r1n r1c, Value.slice r2a r2n r2c, Value.int IntKind.i64 r3, Value.int IntKind.i64 r4, Value.int IntKind.u16 x2, Value.int IntKind.i64
    x3, Value.int IntKind.i64 x4, Value.int IntKind.i64 x5, Value.int IntKind.i64 x1, Value.int IntKind.i64 0, Value.int IntKind.i64 0, Value.int IntKind.i64 0, Value.int
    IntKind.i64 0])) w3) : Calls Tryz.prog 73 #[Value.agg #[Value.slice r0a r0n r0c, Value.slice r1a r1n r1c, Value.slice r2a r2n r2c, Value.int IntKind.i64 r3, Value.int
    IntKind.i64 r4], Value.int IntKind.i64 winder] w R := calls_of_vc (pure := true) (wrapAt := []) (muts := []) (esc := []) (args := [SV.pv (PV.agg [Lf.sl r0a r0n r0c, Lf.sl r1a
    r1n r1c, Lf.sl r2a r2n r2c, Lf.int IntKind.i64 r3, Lf.int IntKind.i64 r4]), SV.pv (PV.one (Lf.int IntKind.i64 winder))]) (vs := [Value.agg #[Value.slice r0a r0n r0c,
    Value.slice r1a r1n r1c, Value.slice r2a r2n r2c, Value.int IntKind.i64 r3, Value.int IntKind.i64 r4], Value.int IntKind.i64 winder]) Tryz.func73 rfl rfl rfl (Eq.mp (by
    kernel_rfl) h) 
set_option maxRecDepth 100000 in
set_option maxHeartbeats 2000000 in
theorem vc31 (ca : Option Addr) (cn : Nat) (cc : Nat) (r0a : Option Addr) (r0n : Nat) (r0c : Nat) (r1a : Option Addr) (r1n : Nat) (r1c : Nat) (r2a : Option Addr) (r2n : Nat) (r2c :
    Nat) (r3 : Int) (r4 : Int) (d0 : Int) (d1a : Option Addr) (d1n : Nat) (d1c : Nat) (w : World) (R : Ending → World → Prop) (h : ∀ (m1 : Nat), w.heap.size ≤ m1 → ∀ (m2 : Nat),
    w.heap.size ≤ m2 → ∃ (F1 : List Lf → World → Prop), ∃ (F2 : List Lf → Nat), (∀ (w2 : World), Kept [m2, m1] w w2 → F1 [Lf.int IntKind.i64 0] w2) ∧ ∀ (x1 : Int) (w3 : World), F1
    [Lf.int IntKind.i64 x1] w3 → (x1 < (↑d1n : Int) → ∃ (m3 : Nat), ∃ (m4 : Nat), d1a = some { block := m3, off := m4 } ∧ (0 ≤ x1 ∧ x1 < (↑d1n : Int)) ∧ ∃ (x2 : Int), w3.cell?
    { block := m3, off := m4 + x1.toNat * 1 } = some (Value.int IntKind.i64 x2) ∧ (m3 < w.heap.size ∨ m3 ≠ m2 ∧ m3 ≠ m1) ∧ ∃ (m5 : Nat), ∃ (m6 : Nat), r0a = some
    { block := m5, off := m6 } ∧ (0 ≤ x2 ∧ x2 < (↑r0n : Int)) ∧ ∃ (x3 : Int), w3.cell? { block := m5, off := m6 + x2.toNat * 5 + 4 } = some (Value.int IntKind.i64 x3) ∧ (m5 <
    w.heap.size ∨ m5 ≠ m2 ∧ m5 ≠ m1) ∧ (-9223372036854775808 ≤ d0 + x3 ∧ d0 + x3 ≤ 9223372036854775807) ∧ ∃ (m7 : Nat), ∃ (m8 : Nat), ca = some { block := m7, off := m8 } ∧ (0 ≤ x2
    ∧ x2 < (↑cn : Int)) ∧ ∀ (w4 : World), KeptIn [(0, w3.heap.size)] [m2, m1] w3 w4 → RunsTo Tryz.prog ((Instr.storeAt 3 (Value.pointer (some
    { block := m7, off := m8 + x2.toNat * 1 })) (Value.int IntKind.i64 (d0 + x3))) >>= fun _ => pure (Value.tuple #[])) w4 fun (v1 : Value) (w5 : World) => KeepX false w.heap.size
    [m2, m1] (fun _ => False) w4 w5 ∧ (-9223372036854775808 ≤ x1 + 1 ∧ x1 + (1 : Int) ≤ 9223372036854775807) ∧ ∀ (w6 : World), Kept [m2, m1] w5 w6 → F1 [Lf.int IntKind.i64 (x1 +
    1)] w6 ∧ F2 [Lf.int IntKind.i64 (x1 + 1)] < F2 [Lf.int IntKind.i64 x1]) ∧ ((↑d1n : Int) ≤ x1 → ∀ (w7 : World), Kept [m2, m1] w3 w7 → R (Ending.returned (Value.tuple #[])) w7))
    : Calls Tryz.prog 31 #[Value.slice ca cn cc, Value.agg #[Value.slice r0a r0n r0c, Value.slice r1a r1n r1c, Value.slice r2a r2n r2c, Value.int IntKind.i64 r3, Value.int
    IntKind.i64 r4], Value.agg #[Value.int IntKind.i64 d0, Value.slice d1a d1n d1c]] w R := calls_of_vc (pure := false) (wrapAt := []) (muts := []) (esc := []) (args := [SV.pv
    (PV.one (Lf.sl ca cn cc)), SV.pv (PV.agg [Lf.sl r0a r0n r0c, Lf.sl r1a r1n r1c, Lf.sl r2a r2n r2c, Lf.int IntKind.i64 r3, Lf.int IntKind.i64 r4]), SV.pv (PV.agg [Lf.int
    IntKind.i64 d0, Lf.sl d1a d1n d1c])]) (vs := [Value.slice ca cn cc, Value.agg #[Value.slice r0a r0n r0c, Value.slice r1a r1n r1c, Value.slice r2a r2n r2c, Value.int IntKind.i64
    r3, Value.int IntKind.i64 r4], Value.agg #[Value.int IntKind.i64 d0, Value.slice d1a d1n d1c]]) Tryz.func31 rfl rfl rfl (Eq.mp (by kernel_rfl) h) 
set_option maxRecDepth 100000 in
set_option maxHeartbeats 2000000 in
theorem vc62 (z0 : Int) (z1a : Option Addr) (z1n : Nat) (z1c : Nat) (yield : Value) (w : World) (R : Ending → World → Prop) (h : ∀ (m1 : Nat), w.heap.size ≤ m1 → ∀ (m2 : Nat),
    w.heap.size ≤ m2 → ∃ (F1 : List Lf → World → Prop), ∃ (F2 : List Lf → Nat), (∀ (w2 : World), Kept [m2, m1] w w2 → F1 [Lf.int IntKind.i64 0, Lf.int IntKind.i64 0, Lf.int
    IntKind.i64 0, Lf.int IntKind.i64 z0] w2) ∧ ∀ (x1 x2 x3 x4 : Int) (w3 : World), F1 [Lf.int IntKind.i64 x1, Lf.int IntKind.i64 x2, Lf.int IntKind.i64 x3, Lf.int IntKind.i64 x4]
    w3 → (x1 < (↑z1n : Int) → ∃ (m3 : Nat), ∃ (m4 : Nat), z1a = some { block := m3, off := m4 } ∧ (0 ≤ x1 ∧ x1 < (↑z1n : Int)) ∧ ∃ (x5 : Int), ∃ (x6 : Int), w3.cell?
    { block := m3, off := m4 + x1.toNat * 2 } = some (Value.int IntKind.i64 x5) ∧ w3.cell? { block := m3, off := m4 + x1.toNat * 2 + 1 } = some (Value.int IntKind.i64 x6) ∧ (m3 <
    w.heap.size ∨ m3 ≠ m2 ∧ m3 ≠ m1) ∧ ∀ (m5 : Nat), w3.heap.size ≤ m5 → (-9223372036854775808 ≤ x5 - 1 ∧ x5 - (1 : Int) ≤ 9223372036854775807) ∧ ∀ (w4 : World), Kept [m5, m2, m1]
    w3 w4 → ∃ (m6 : Nat), yield = Value.func (Fn.yield m6) #[] #[] ∧ YieldAt { fn := fun (m7 : Nat) => True, alive := false } 0 Tryz.prog m6 #[Value.agg #[Value.int IntKind.i64 x2,
    Value.int IntKind.i64 (x5 - 1), Value.int IntKind.i64 x4]] w4 fun (e1 : Ending) (w5 : World) => ∃ (t1 : Bool), e1 = Ending.returned (Value.bool t1) ∧ KeepX false w.heap.size
    [m5, m2, m1] (fun _ => False) w4 w5 ∧ ((!t1) = true → ∀ (w6 : World), Kept [m5, m2, m1] w5 w6 → R (Ending.returned (Value.tuple #[])) w6) ∧ ((!t1) = false →
    (-9223372036854775808 ≤ x1 + 1 ∧ x1 + (1 : Int) ≤ 9223372036854775807) ∧ ∀ (w7 : World), Kept [m5, m2, m1] w5 w7 → F1 [Lf.int IntKind.i64 (x1 + 1), Lf.int IntKind.i64 x5,
    Lf.int IntKind.i64 0, Lf.int IntKind.i64 x6] w7 ∧ F2 [Lf.int IntKind.i64 (x1 + 1), Lf.int IntKind.i64 x5, Lf.int IntKind.i64 0, Lf.int IntKind.i64 x6] < F2 [Lf.int IntKind.i64
    x1, Lf.int IntKind.i64 x2, Lf.int IntKind.i64 x3, Lf.int IntKind.i64 x4])) ∧ ((↑z1n : Int) ≤ x1 → ∀ (w8 : World), Kept [m2, m1] w3 w8 → ∃ (m9 : Nat), yield = Value.func
    (Fn.yield m9) #[] #[] ∧ YieldAt { fn := fun (m10 : Nat) => True, alive := false } 0 Tryz.prog m9 #[Value.agg #[Value.int IntKind.i64 x2, Value.int IntKind.i64 3155760000,
    Value.int IntKind.i64 x4]] w8 fun (e2 : Ending) (w9 : World) => ∃ (t2 : Bool), e2 = Ending.returned (Value.bool t2) ∧ KeepX false w.heap.size [m2, m1] (fun _ => False) w8 w9 ∧
    ∀ (w10 : World), Kept [m2, m1] w9 w10 → R (Ending.returned (Value.tuple #[])) w10)) : Calls Tryz.prog 62 #[Value.agg #[Value.int IntKind.i64 z0, Value.slice z1a z1n z1c],
    yield] w R := calls_of_vc (pure := false) (wrapAt := []) (muts := [4]) (esc := []) (args := [SV.pv (PV.agg [Lf.int IntKind.i64 z0, Lf.sl z1a z1n z1c]), SV.pv (PV.one (Lf.val
    yield))]) (vs := [Value.agg #[Value.int IntKind.i64 z0, Value.slice z1a z1n z1c], yield]) Tryz.func62 rfl rfl rfl (Eq.mp (by kernel_rfl) h) 
end Go.Proofs
end
section
/- The conditions of the functions, printed by program; each is what the generator reckons (kernel_rfl). -/
namespace Go.Proofs
open Go.Vc
set_option maxRecDepth 100000 in
set_option maxHeartbeats 2000000 in
theorem vc25 (z0 : Int) (z1a : Option Addr) (z1n : Nat) (z1c : Nat) (instant : Int) (w : World) (R : Ending → World → Prop) (h : ∀ (m1 : Nat), w.heap.size ≤ m1 → ∀ (m2 : Nat),
    w.heap.size ≤ m2 → ∀ (m3 : Nat), w.heap.size ≤ m3 → ∃ (y1 : List (List Value)), ∃ (F2 : (Nat → Prop) → List Lf → Nat → World → Prop), ∃ (F3 : World → Prop), IterX Tryz.prog 62
    [Value.agg #[Value.int IntKind.i64 z0, Value.slice z1a z1n z1c]] [] y1 F3 ∧ (∀ (w3 : World), RowKit.Below w.heap.size w w3 → Kept [m3, m2, m1] w w3 → w3.heap[m3]? = some
    (Obj.cells #[Value.int IntKind.i64 0, Value.int IntKind.i64 0, Value.int IntKind.i64 0] 89) → F2 (fun _ => False) [Lf.int IntKind.i64 0, Lf.int IntKind.i64 0, Lf.int
    IntKind.i64 0] 0 w3) ∧ ∀ (x1 x2 x3 : Int) (m8 : Nat) (F4 F5 : Nat → Prop) (w4 w5 : World), F2 F4 [Lf.int IntKind.i64 x1, Lf.int IntKind.i64 x2, Lf.int IntKind.i64 x3] m8 w4 →
    CalmX F4 w.heap.size w4 w5 → (∀ (m11 : Nat), F4 m11 → F5 m11) → (∀ (m12 : Nat), F5 m12 → F4 m12 ∨ w4.heap.size ≤ m12) → (∀ (m13 : Nat), F5 m13 → w.heap.size ≤ m13 ∧ m13 <
    w5.heap.size) → RowKit.Below w.heap.size w w5 → F3 w5 ∧ (∀ (y4 : List Value), y1[m8]? = some y4 → ∃ (x4 : Int), ∃ (x5 : Int), ∃ (x6 : Int), y4 = [Value.agg #[Value.int
    IntKind.i64 x4, Value.int IntKind.i64 x5, Value.int IntKind.i64 x6]] ∧ ∀ (m15 : Nat) (w6 : World) (m16 : Nat), w5.heap.size ≤ m16 → ∀ (w7 : World), RowKit.Below w.heap.size w
    w7 → Kept [m16, m3, m2, m1] w5 w7 → ∀ (w8 : World), CalmFrom w.heap.size w7 w8 → ∀ (w9 : World) (m17 : Nat), w8.heap.size ≤ m17 → ∀ (w10 : World), RowKit.Below w.heap.size w
    w10 → Kept [m17, m16, m3, m2, m1] w8 w10 → w10.heap[m17]? = some (Obj.cells #[Value.int IntKind.i64 instant] 3) → Calls Tryz.prog 24 #[Value.int IntKind.i64 x4, Value.int
    IntKind.i64 x5, Value.slice (some { block := m17, off := 0 }) 1 1] w10 fun (e1 : Ending) (w11 : World) => ∃ (t1 : Bool), e1 = Ending.returned (Value.bool t1) ∧ KeepX true
    w.heap.size [m17, m16, m3, m2, m1] F5 w10 w11 ∧ (t1 = true → ∀ (w12 : World), RowKit.Below w.heap.size w w12 → Kept [m17, m16, m3, m2, m1] w11 w12 → F2 F5 [Lf.int IntKind.i64
    x4, Lf.int IntKind.i64 x5, Lf.int IntKind.i64 x6] (m8 + 1) w12) ∧ (t1 = false → ∀ (w13 : World), RowKit.Below w.heap.size w w13 → Kept [m17, m16, m3, m2, m1] w11 w13 → F2 F5
    [Lf.int IntKind.i64 x1, Lf.int IntKind.i64 x2, Lf.int IntKind.i64 x3] (m8 + 1) w13)) ∧ (m8 = y1.length → ∀ (w14 : World), RowKit.Below w.heap.size w w14 → Kept [m3, m2, m1] w5
    w14 → ∀ (w15 : World), CalmFrom w.heap.size w14 w15 → R (Ending.returned (Value.agg #[Value.int IntKind.i64 x1, Value.int IntKind.i64 x2, Value.int IntKind.i64 x3])) w15)) :
    Calls Tryz.prog 25 #[Value.agg #[Value.int IntKind.i64 z0, Value.slice z1a z1n z1c], Value.int IntKind.i64 instant] w R := calls_of_vcj (pure := true) (wrapAt := []) (muts :=
    [4]) (esc := []) (joins := [(12000000, [])]) (args := [SV.pv (PV.agg [Lf.int IntKind.i64 z0, Lf.sl z1a z1n z1c]), SV.pv (PV.one (Lf.int IntKind.i64 instant))]) (vs :=
    [Value.agg #[Value.int IntKind.i64 z0, Value.slice z1a z1n z1c], Value.int IntKind.i64 instant]) Tryz.func25 rfl rfl rfl (Eq.mp (by kernel_rfl) h) 
set_option maxRecDepth 100000 in
set_option maxHeartbeats 2000000 in
theorem vc70 (z0 : Int) (z1a : Option Addr) (z1n : Nat) (z1c : Nat) (minute : Int) (w : World) (R : Ending → World → Prop) (h : ∀ (m1 : Nat), w.heap.size ≤ m1 → ∀ (m2 : Nat),
    w.heap.size ≤ m2 → ∀ (m3 : Nat), w.heap.size ≤ m3 → ∃ (y1 : List (List Value)), ∃ (F2 : (Nat → Prop) → List Lf → Nat → World → Prop), ∃ (F3 : World → Prop), IterX Tryz.prog 62
    [Value.agg #[Value.int IntKind.i64 z0, Value.slice z1a z1n z1c]] [] y1 F3 ∧ (∀ (w3 : World), RowKit.Below w.heap.size w w3 → Kept [m3, m2, m1] w w3 → w3.heap[m3]? = some
    (Obj.cells #[Value.slice none 0 0] 167) → F2 (fun _ => False) [Lf.sl none 0 0] 0 w3) ∧ ∀ (a1 : Option Addr) (m8 m9 m10 : Nat) (F4 F5 : Nat → Prop) (w4 w5 : World), F2 F4 [Lf.sl
    a1 m8 m9] m10 w4 → CalmX F4 w.heap.size w4 w5 → (∀ (m13 : Nat), F4 m13 → F5 m13) → (∀ (m14 : Nat), F5 m14 → F4 m14 ∨ w4.heap.size ≤ m14) → (∀ (m15 : Nat), F5 m15 → w.heap.size
    ≤ m15 ∧ m15 < w5.heap.size) → RowKit.Below w.heap.size w w5 → F3 w5 ∧ (∀ (y4 : List Value), y1[m10]? = some y4 → ∃ (x1 : Int), ∃ (x2 : Int), ∃ (x3 : Int), y4 = [Value.agg
    #[Value.int IntKind.i64 x1, Value.int IntKind.i64 x2, Value.int IntKind.i64 x3]] ∧ ∀ (m17 : Nat) (w6 : World) (m18 : Nat), w5.heap.size ≤ m18 → ∀ (w7 : World), RowKit.Below
    w.heap.size w w7 → Kept [m18, m3, m2, m1] w5 w7 → ∀ (w8 : World), CalmFrom w.heap.size w7 w8 → ∀ (w9 w10 : World), RowKit.Below w.heap.size w w10 → Kept [m18, m3, m2, m1] w8
    w10 → Calls Tryz.prog 68 #[Value.agg #[Value.int IntKind.i64 x1, Value.int IntKind.i64 x2, Value.int IntKind.i64 x3]] w10 fun (e1 : Ending) (w11 : World) => ∃ (x4 : Int), ∃ (x5
    : Int), e1 = Ending.returned (Value.agg #[Value.int IntKind.i64 x4, Value.int IntKind.i64 x5]) ∧ KeepX true w.heap.size [m18, m3, m2, m1] F5 w10 w11 ∧ ∀ (m19 : Nat),
    w11.heap.size ≤ m19 → ∀ (m20 : Nat), w11.heap.size ≤ m20 → ∀ (w12 : World), RowKit.Below w.heap.size w w12 → Kept [m20, m19, m18, m3, m2, m1] w11 w12 → w12.heap[m20]? = some
    (Obj.cells #[Value.int IntKind.i64 minute] 3) → Calls Tryz.prog 24 #[Value.int IntKind.i64 x4, Value.int IntKind.i64 x5, Value.slice (some { block := m20, off := 0 }) 1 1] w12
    fun (e2 : Ending) (w13 : World) => ∃ (t1 : Bool), e2 = Ending.returned (Value.bool t1) ∧ KeepX true w.heap.size [m20, m19, m18, m3, m2, m1] F5 w12 w13 ∧ (t1 = true → ∀ (w14 :
    World), RowKit.Below w.heap.size w w14 → KeptIn [(0, w13.heap.size)] [m20, m19, m18, m3, m2, m1] w13 w14 → Calls Tryz.prog 131 #[Value.agg #[Value.int IntKind.i64 x1, Value.int
    IntKind.i64 x2, Value.int IntKind.i64 x3], Value.int IntKind.i64 minute] w14 fun (e3 : Ending) (w15 : World) => ∃ (x6 : Int), ∃ (x7 : Int), e3 = Ending.returned (Value.agg
    #[Value.int IntKind.i64 x6, Value.int IntKind.i64 x7]) ∧ KeepX true w.heap.size [m20, m19, m18, m3, m2, m1] F5 w14 w15 ∧ ∀ (m22 : Nat), w15.heap.size ≤ m22 → ∀ (w16 : World),
    RowKit.Below w.heap.size w w16 → KeptIn [(0, w15.heap.size)] [m22, m20, m19, m18, m3, m2, m1] w15 w16 → w16.heap[m22]? = some (Obj.cells #[Value.int IntKind.i64 x6, Value.int
    IntKind.i64 x7] 47) → RunsTo Tryz.prog (Builtin.append_ #[167, 167] 167 #[Value.slice a1 m8 m9, Value.slice (some { block := m22, off := 0 }) 1 1]) w16 fun (v1 : Value) (w17 :
    World) => ∃ (a2 : Option Addr), ∃ (m24 : Nat), ∃ (m25 : Nat), v1 = Value.slice a2 m24 m25 ∧ KeepX true w.heap.size [m22, m20, m19, m18, m3, m2, m1] F5 w16 w17 ∧ ∀ (w18 :
    World), RowKit.Below w.heap.size w w18 → Kept [m22, m20, m19, m18, m3, m2, m1] w17 w18 → F2 F5 [Lf.sl a2 m24 m25] (m10 + 1) w18) ∧ (t1 = false → ∀ (w19 : World), RowKit.Below
    w.heap.size w w19 → Kept [m20, m19, m18, m3, m2, m1] w13 w19 → F2 F5 [Lf.sl a1 m8 m9] (m10 + 1) w19)) ∧ (m10 = y1.length → ∀ (w20 : World), RowKit.Below w.heap.size w w20 →
    Kept [m3, m2, m1] w5 w20 → Calls Tryz.prog 71 #[Value.slice a1 m8 m9] w20 fun (e4 : Ending) (w21 : World) => ∃ (a3 : Option Addr), ∃ (m26 : Nat), ∃ (m27 : Nat), e4 =
    Ending.returned (Value.slice a3 m26 m27) ∧ KeepX true w.heap.size [m3, m2, m1] F5 w20 w21 ∧ ∀ (w22 : World), RowKit.Below w.heap.size w w22 → Kept [m3, m2, m1] w21 w22 → ∀ (w23
    : World), CalmFrom w.heap.size w22 w23 → R (Ending.returned (Value.slice a3 m26 m27)) w23)) : Calls Tryz.prog 70 #[Value.agg #[Value.int IntKind.i64 z0, Value.slice z1a z1n
    z1c], Value.int IntKind.i64 minute] w R := calls_of_vcj (pure := true) (wrapAt := []) (muts := [4]) (esc := []) (joins := [(12000000, [])]) (args := [SV.pv (PV.agg [Lf.int
    IntKind.i64 z0, Lf.sl z1a z1n z1c]), SV.pv (PV.one (Lf.int IntKind.i64 minute))]) (vs := [Value.agg #[Value.int IntKind.i64 z0, Value.slice z1a z1n z1c], Value.int IntKind.i64
    minute]) Tryz.func70 rfl rfl rfl (Eq.mp (by kernel_rfl) h) 
set_option maxRecDepth 100000 in
set_option maxHeartbeats 2000000 in
theorem vc32 (z0 : Int) (z1a : Option Addr) (z1n : Nat) (z1c : Nat) (w : World) (R : Ending → World → Prop) (h : ∀ (m1 : Nat), w.heap.size ≤ m1 → ∀ (w1 : World), RowKit.Below
    w.heap.size w w1 → Kept [m1] w w1 → Calls Tryz.prog 23 #[Value.agg #[Value.int IntKind.i64 z0, Value.slice z1a z1n z1c]] w1 fun (e1 : Ending) (w2 : World) => ∃ (x1 : Int), e1 =
    Ending.returned (Value.int IntKind.i64 x1) ∧ KeepX true w.heap.size [m1] (fun _ => False) w1 w2 ∧ (x1 ≠ 0 → ∀ (w3 : World), RowKit.Below w.heap.size w w3 → Kept [m1] w2 w3 → R
    (Ending.returned (Value.tuple #[Value.slice none 0 0, Value.slice none 0 0, Value.int IntKind.i64 x1])) w3) ∧ (x1 = 0 → ∀ (m3 : Nat), w2.heap.size ≤ m3 → ∀ (m4 : Nat),
    w2.heap.size ≤ m4 → ∃ (y1 : List (List Value)), ∃ (F2 : (Nat → Prop) → List Lf → Nat → World → Prop), ∃ (F3 : World → Prop), IterX Tryz.prog 62 [Value.agg #[Value.int
    IntKind.i64 z0, Value.slice z1a z1n z1c]] [] y1 F3 ∧ (∀ (w6 : World), RowKit.Below w.heap.size w w6 → Kept [m4, m3, m1] w2 w6 → w6.heap[m4]? = some (Obj.cells #[Value.slice
    none 0 0] 32) → F2 (fun _ => False) [Lf.sl none 0 0] 0 w6) ∧ ∀ (a1 : Option Addr) (m9 m10 m11 : Nat) (F4 F5 : Nat → Prop) (w7 w8 : World), F2 F4 [Lf.sl a1 m9 m10] m11 w7 →
    CalmX F4 w.heap.size w7 w8 → (∀ (m14 : Nat), F4 m14 → F5 m14) → (∀ (m15 : Nat), F5 m15 → F4 m15 ∨ w7.heap.size ≤ m15) → (∀ (m16 : Nat), F5 m16 → w.heap.size ≤ m16 ∧ m16 <
    w8.heap.size) → RowKit.Below w.heap.size w w8 → F3 w8 ∧ (∀ (y4 : List Value), y1[m11]? = some y4 → ∃ (x2 : Int), ∃ (x3 : Int), ∃ (x4 : Int), y4 = [Value.agg #[Value.int
    IntKind.i64 x2, Value.int IntKind.i64 x3, Value.int IntKind.i64 x4]] ∧ ∀ (m18 : Nat) (w9 : World) (m19 : Nat), w8.heap.size ≤ m19 → ∀ (w10 : World), RowKit.Below w.heap.size w
    w10 → Kept [m19, m4, m3, m1] w8 w10 → ∀ (w11 : World), CalmFrom w.heap.size w10 w11 → ∀ (w12 w13 : World), RowKit.Below w.heap.size w w13 → Kept [m19, m4, m3, m1] w11 w13 →
    Calls Tryz.prog 68 #[Value.agg #[Value.int IntKind.i64 x2, Value.int IntKind.i64 x3, Value.int IntKind.i64 x4]] w13 fun (e2 : Ending) (w14 : World) => ∃ (x5 : Int), ∃ (x6 :
    Int), e2 = Ending.returned (Value.agg #[Value.int IntKind.i64 x5, Value.int IntKind.i64 x6]) ∧ KeepX true w.heap.size [m19, m4, m3, m1] F5 w13 w14 ∧ ∀ (m20 : Nat),
    w14.heap.size ≤ m20 → (-9223372036854775808 ≤ x5 + 1 ∧ x5 + (1 : Int) ≤ 9223372036854775807) ∧ (-9223372036854775808 ≤ x6 + 1 ∧ x6 + (1 : Int) ≤ 9223372036854775807) ∧ ∀ (m21 :
    Nat), w14.heap.size ≤ m21 → ∀ (w15 : World), RowKit.Below w.heap.size w w15 → Kept [m21, m20, m19, m4, m3, m1] w14 w15 → w15.heap[m21]? = some (Obj.cells #[Value.int
    IntKind.i64 x5, Value.int IntKind.i64 (x5 + 1), Value.int IntKind.i64 x6, Value.int IntKind.i64 (x6 + 1)] 3) → RunsTo Tryz.prog (Builtin.append_ #[32, 32] 32 #[Value.slice a1
    m9 m10, Value.slice (some { block := m21, off := 0 }) 4 4]) w15 fun (v1 : Value) (w16 : World) => ∃ (a2 : Option Addr), ∃ (m23 : Nat), ∃ (m24 : Nat), v1 = Value.slice a2 m23
    m24 ∧ KeepX true w.heap.size [m21, m20, m19, m4, m3, m1] F5 w15 w16 ∧ ∀ (w17 : World), RowKit.Below w.heap.size w w17 → Kept [m21, m20, m19, m4, m3, m1] w16 w17 → F2 F5 [Lf.sl
    a2 m23 m24] (m11 + 1) w17) ∧ (m11 = y1.length → ∀ (w18 : World), RowKit.Below w.heap.size w w18 → Kept [m4, m3, m1] w8 w18 → Calls Tryz.prog 52 #[Value.slice a1 m9 m10] w18 fun
    (e3 : Ending) (w19 : World) => e3 = Ending.returned (Value.tuple #[]) ∧ KeepX true w.heap.size [m4, m3, m1] F5 w18 w19 ∧ ∀ (w20 : World), RowKit.Below w.heap.size w w20 → Kept
    [m4, m3, m1] w19 w20 → Calls Tryz.prog 69 #[Value.slice a1 m9 m10] w20 fun (e4 : Ending) (w21 : World) => ∃ (a3 : Option Addr), ∃ (m25 : Nat), ∃ (m26 : Nat), e4 =
    Ending.returned (Value.slice a3 m25 m26) ∧ KeepX true w.heap.size [m4, m3, m1] F5 w20 w21 ∧ (-9223372036854775808 ≤ (↑m25 : Int) - 1 ∧ (↑m25 : Int) - (1 : Int) ≤
    9223372036854775807) ∧ (((0 : Int) ≤ 0 ∧ 0 ≤ (↑m25 : Int) - 1) ∧ (↑m25 : Int) - 1 ≤ (↑m26 : Int)) ∧ ∃ (F6 : List Lf → World → Prop), ∃ (F7 : List Lf → Nat), (∀ (w23 : World),
    RowKit.Below w.heap.size w w23 → Kept [m4, m3, m1] w21 w23 → F6 [Lf.sl none 0 0, Lf.sl none 0 0, Lf.int IntKind.i64 0, Lf.sl a3 m25 m26] w23) ∧ ∀ (a4 : Option Addr) (m27 m28 :
    Nat) (a5 : Option Addr) (m29 m30 : Nat) (x7 : Int) (a6 : Option Addr) (m31 m32 : Nat) (F8 : Nat → Prop), (∀ (m34 : Nat), F5 m34 → F8 m34) → ∀ (w24 : World), RowKit.Below
    w.heap.size w w24 → F6 [Lf.sl a4 m27 m28, Lf.sl a5 m29 m30, Lf.int IntKind.i64 x7, Lf.sl a6 m31 m32] w24 → (x7 < (↑(((↑m25 : Int) - 1).toNat - Int.toNat 0) : Int) → ∃ (m35 :
    Nat), ∃ (m36 : Nat), subA a3 m26 (Int.toNat 0) 1 = some { block := m35, off := m36 } ∧ (0 ≤ x7 ∧ x7 < (↑(((↑m25 : Int) - 1).toNat - Int.toNat 0) : Int)) ∧ ∃ (x8 : Int),
    w24.cell? { block := m35, off := m36 + x7.toNat * 1 } = some (Value.int IntKind.i64 x8) ∧ (m35 < w.heap.size ∨ m35 ≠ m4 ∧ m35 ≠ m3 ∧ m35 ≠ m1) ∧ (-9223372036854775808 ≤ x7 + 1
    ∧ x7 + (1 : Int) ≤ 9223372036854775807) ∧ ∃ (m37 : Nat), ∃ (m38 : Nat), a6 = some { block := m37, off := m38 } ∧ (0 ≤ x7 + 1 ∧ x7 + 1 < (↑m31 : Int)) ∧ ∃ (x9 : Int), w24.cell?
    { block := m37, off := m38 + (x7 + 1).toNat * 1 } = some (Value.int IntKind.i64 x9) ∧ (m37 < w.heap.size ∨ m37 ≠ m4 ∧ m37 ≠ m3 ∧ m37 ≠ m1) ∧ (-9223372036854775808 ≤ x9 - 1 ∧ x9
    - (1 : Int) ≤ 9223372036854775807) ∧ ∀ (m39 : Nat), w24.heap.size ≤ m39 → ∀ (w25 : World), RowKit.Below w.heap.size w w25 → Kept [m39, m4, m3, m1] w24 w25 → Calls Tryz.prog 70
    #[Value.agg #[Value.int IntKind.i64 z0, Value.slice z1a z1n z1c], Value.int IntKind.i64 x8] w25 fun (e5 : Ending) (w26 : World) => ∃ (a7 : Option Addr), ∃ (m40 : Nat), ∃ (m41 :
    Nat), e5 = Ending.returned (Value.slice a7 m40 m41) ∧ KeepX true w.heap.size [m39, m4, m3, m1] F8 w25 w26 ∧ (1 < (↑m40 : Int) → ∀ (m42 : Nat), w26.heap.size ≤ m42 → ∀ (w27 :
    World), RowKit.Below w.heap.size w w27 → Kept [m42, m39, m4, m3, m1] w26 w27 → w27.heap[m42]? = some (Obj.cells #[Value.int IntKind.i64 x8, Value.int IntKind.i64 (x9 - 1)] 47)
    → RunsTo Tryz.prog (Builtin.append_ #[167, 167] 167 #[Value.slice a4 m27 m28, Value.slice (some { block := m42, off := 0 }) 1 1]) w27 fun (v2 : Value) (w28 : World) => ∃ (a8 :
    Option Addr), ∃ (m44 : Nat), ∃ (m45 : Nat), v2 = Value.slice a8 m44 m45 ∧ KeepX true w.heap.size [m42, m39, m4, m3, m1] F8 w27 w28 ∧ (-9223372036854775808 ≤ x7 + 1 ∧ x7 + (1 :
    Int) ≤ 9223372036854775807) ∧ ∀ (w29 : World), RowKit.Below w.heap.size w w29 → Kept [m42, m39, m4, m3, m1] w28 w29 → F6 [Lf.sl a8 m44 m45, Lf.sl a5 m29 m30, Lf.int IntKind.i64
    (x7 + 1), Lf.sl a6 m31 m32] w29 ∧ F7 [Lf.sl a8 m44 m45, Lf.sl a5 m29 m30, Lf.int IntKind.i64 (x7 + 1), Lf.sl a6 m31 m32] < F7 [Lf.sl a4 m27 m28, Lf.sl a5 m29 m30, Lf.int
    IntKind.i64 x7, Lf.sl a6 m31 m32]) ∧ ((↑m40 : Int) ≤ 1 → ((↑m40 : Int) = 0 → ∀ (m46 : Nat), w26.heap.size ≤ m46 → ∀ (w30 : World), RowKit.Below w.heap.size w w30 → Kept [m46,
    m39, m4, m3, m1] w26 w30 → w30.heap[m46]? = some (Obj.cells #[Value.int IntKind.i64 x8, Value.int IntKind.i64 (x9 - 1)] 47) → RunsTo Tryz.prog (Builtin.append_ #[167, 167] 167
    #[Value.slice a5 m29 m30, Value.slice (some { block := m46, off := 0 }) 1 1]) w30 fun (v3 : Value) (w31 : World) => ∃ (a9 : Option Addr), ∃ (m48 : Nat), ∃ (m49 : Nat), v3 =
    Value.slice a9 m48 m49 ∧ KeepX true w.heap.size [m46, m39, m4, m3, m1] F8 w30 w31 ∧ (-9223372036854775808 ≤ x7 + 1 ∧ x7 + (1 : Int) ≤ 9223372036854775807) ∧ ∀ (w32 : World),
    RowKit.Below w.heap.size w w32 → Kept [m46, m39, m4, m3, m1] w31 w32 → F6 [Lf.sl a4 m27 m28, Lf.sl a9 m48 m49, Lf.int IntKind.i64 (x7 + 1), Lf.sl a6 m31 m32] w32 ∧ F7 [Lf.sl a4
    m27 m28, Lf.sl a9 m48 m49, Lf.int IntKind.i64 (x7 + 1), Lf.sl a6 m31 m32] < F7 [Lf.sl a4 m27 m28, Lf.sl a5 m29 m30, Lf.int IntKind.i64 x7, Lf.sl a6 m31 m32]) ∧ ((↑m40 : Int) ≠
    0 → (-9223372036854775808 ≤ x7 + 1 ∧ x7 + (1 : Int) ≤ 9223372036854775807) ∧ ∀ (w33 : World), RowKit.Below w.heap.size w w33 → Kept [m39, m4, m3, m1] w26 w33 → F6 [Lf.sl a4 m27
    m28, Lf.sl a5 m29 m30, Lf.int IntKind.i64 (x7 + 1), Lf.sl a6 m31 m32] w33 ∧ F7 [Lf.sl a4 m27 m28, Lf.sl a5 m29 m30, Lf.int IntKind.i64 (x7 + 1), Lf.sl a6 m31 m32] < F7 [Lf.sl
    a4 m27 m28, Lf.sl a5 m29 m30, Lf.int IntKind.i64 x7, Lf.sl a6 m31 m32]))) ∧ ((↑(((↑m25 : Int) - 1).toNat - Int.toNat 0) : Int) ≤ x7 → ∀ (w34 : World), RowKit.Below w.heap.size
    w w34 → Kept [m4, m3, m1] w24 w34 → Calls Tryz.prog 71 #[Value.slice a4 m27 m28] w34 fun (e6 : Ending) (w35 : World) => ∃ (a10 : Option Addr), ∃ (m50 : Nat), ∃ (m51 : Nat), e6
    = Ending.returned (Value.slice a10 m50 m51) ∧ KeepX true w.heap.size [m4, m3, m1] F8 w34 w35 ∧ ∀ (w36 : World), RowKit.Below w.heap.size w w36 → Kept [m4, m3, m1] w35 w36 →
    Calls Tryz.prog 71 #[Value.slice a5 m29 m30] w36 fun (e7 : Ending) (w37 : World) => ∃ (a11 : Option Addr), ∃ (m52 : Nat), ∃ (m53 : Nat), e7 = Ending.returned (Value.slice a11
    m52 m53) ∧ KeepX true w.heap.size [m4, m3, m1] F8 w36 w37 ∧ ∀ (w38 : World), RowKit.Below w.heap.size w w38 → Kept [m4, m3, m1] w37 w38 → ∀ (w39 : World), CalmFrom w.heap.size
    w38 w39 → R (Ending.returned (Value.tuple #[Value.slice a10 m50 m51, Value.slice a11 m52 m53, Value.int IntKind.i64 0])) w39)))) : Calls Tryz.prog 32 #[Value.agg #[Value.int
    IntKind.i64 z0, Value.slice z1a z1n z1c]] w R := calls_of_vcj (pure := true) (wrapAt := []) (muts := [7]) (esc := []) (joins := [(12000000, [])]) (args := [SV.pv (PV.agg
    [Lf.int IntKind.i64 z0, Lf.sl z1a z1n z1c])]) (vs := [Value.agg #[Value.int IntKind.i64 z0, Value.slice z1a z1n z1c]]) Tryz.func32 rfl rfl rfl (Eq.mp (by kernel_rfl) h) 
end Go.Proofs
end
section
/- The eras of a town. -/
namespace Go.Proofs.RT
open Go.Vc Go.RowKit Go.Proofs

theorem yield_mono {P : Program} {l : Nat} {args : Array Value} {w : World} {R S : Ending → World → Prop} (h : YieldAt Fence.wide 0 P l args w R) (hs : ∀ e w', R e w' → S e w') : YieldAt Fence.wide 0 P l args w S := by
  obtain ⟨fn, tmps, assign, body, hy, hR⟩ := h
  exact ⟨fn, tmps, assign, body, hy, hR.mono hs⟩
theorem calm_kept {G : Nat → Prop} {B : Nat} {bs : List Nat} {w w' : World} (h : Kept bs w w') (hG : ∀ b ∈ bs, G b ∨ w.heap.size ≤ b) : CalmX G B w w' :=
  ⟨h.os, h.tape, h.output, h.size, fun k o hk _ hn => by
    rw [h.block k (lt_of_some hk) fun hm => by
      rcases hG k hm with h1 | h1
      · exact hn h1
      · have := lt_of_some hk; omega]
    exact hk⟩
def offI (z : Zn) (k : Int) : Int := if k = 0 then z.1 else (z.2.getD (k.toNat - 1) (0, 0)).2
def eraAt (z : Zn) (k : Nat) : Era := (before z k, if k < z.2.length then (z.2.getD k (0, 0)).1 - 1 else 3155760000, offI z k)
def erasL (z : Zn) : List Era := (List.range (z.2.length + 1)).map (eraAt z)
theorem erasL_get {z : Zn} {k : Nat} (h : k ≤ z.2.length) : ((erasL z).map fun x => [eraV x])[k]? = some [eraV (eraAt z k)] := by
  unfold erasL
  rw [List.map_map, List.getElem?_map, List.getElem?_range (by omega)]
  rfl
theorem era_ok {z : Zn} (hz : OkZ z) {k : Nat} (h : k ≤ z.2.length) : okEra (eraAt z k) := by
  have key : ∀ n : Nat, n ≤ z.2.length → (0 ≤ before z n ∧ before z n ≤ 3155760000) ∧ okOff (offI z n) := fun n hn => by
    cases n with
    | zero => exact ⟨by simp [before], by simpa [offI] using hz.o⟩
    | succ n =>
      have := before_step hz (x := n) (by omega)
      rw [show ((n : Int) + 1) = ((n + 1 : Nat) : Int) by omega] at this
      simp only [Int.toNat_natCast] at this
      refine ⟨by rw [this.2.2]; omega, ?_⟩
      unfold offI
      rw [if_neg (by omega)]
      have e : ((n + 1 : Nat) : Int).toNat - 1 = n := by omega
      rw [e]; exact this.2.1
  have hk := key k h
  refine ⟨hk.1, ?_, hk.2⟩
  unfold eraAt
  simp only
  split
  · rename_i hlt
    have := before_step hz (x := k) (by omega)
    simp only [Int.toNat_natCast] at this
    omega
  · omega

set_option maxRecDepth 100000 in
theorem eras_iter {z : Zn} (hz : OkZ z) {a : Option Addr} {c : Nat} : IterX Tryz.prog 62 [znV z a c] [] ((erasL z).map fun x => [eraV x]) (fun w => Cells w a (spansV z.2)) := by
  intro l J Jx W hJ hJx hInv hY h0
  have hn := hz.n
  have hcW := hInv _ _ _ h0
  refine vc62 _ _ _ _ _ W _ fun m1 g1 m2 g2 => ?_
  refine ⟨fun ls w' => match ls with | [.int _ k, .int _ lo, _, .int _ off] => (0 ≤ k ∧ k ≤ z.2.length) ∧ lo = before z k ∧ off = offI z k ∧ W.heap.size ≤ w'.heap.size ∧ ∃ G : Nat → Prop, (∀ b, G b → W.heap.size ≤ b ∧ b < w'.heap.size) ∧ G m1 ∧ G m2 ∧ J G k.toNat w' | _ => False, fun ls => match ls with | [.int _ k, _, _, _] => (z.2.length - k).toNat | _ => 0, fun w2 hk => ?_, ?_⟩
  · have o1 := hk.own m1 (by simp); have o2 := hk.own m2 (by simp)
    have hb : ∀ b, (b = m1 ∨ b = m2) → W.heap.size ≤ b ∧ b < w2.heap.size := fun b hb => by rcases hb with rfl | rfl <;> omega
    exact ⟨by omega, rfl, rfl, hk.size, fun b => b = m1 ∨ b = m2, hb, .inl rfl, .inr rfl, hJ _ _ _ _ _ h0 (calm_kept hk (by simp; omega)) (fun b hb => hb.elim) fun b h => .inr (hb b h)⟩
  rintro x1 x2 x3 x4 w3 ⟨⟨k0, k1⟩, rfl, rfl, sz3, G, hG, G1, G2, hj⟩
  have moveJ : ∀ {G : Nat → Prop} {k : Nat} {bs : List Nat} {w w' : World}, J G k w → Kept bs w w' → (∀ b ∈ bs, G b) → J G k w' := fun h hk hb => hJ _ _ _ _ _ h (calm_kept hk fun b hb' => .inl (hb b hb')) (fun _ h => h) fun _ h => .inl h
  have moveX : ∀ {G : Nat → Prop} {k : Nat} {bs : List Nat} {w w' : World}, Jx G k w → Kept bs w w' → (∀ b ∈ bs, G b) → Jx G k w' := fun h hk hb => hJx _ _ _ _ _ h (calm_kept hk fun b hb' => .inl (hb b hb')) (fun _ h => h) fun _ h => .inl h
  have kx : ∀ {G : Nat → Prop} {bs : List Nat} {w w' : World}, RoundKeeps G w w' → (∀ b ∈ bs, G b) → KeepX false W.heap.size bs (fun _ => False) w w' := fun h hb => .own h.os h.tape h.output h.size (by simp) (fun b hb' => h.keep b (hb b hb')) (by simp)
  refine ⟨fun hlt => ?_, fun hge w8 hk8 => ⟨l, rfl, ?_⟩⟩
  · have hst := before_step hz (x := x1) (by omega)
    obtain ⟨b0, o0, e0, d0⟩ := hcW (x1.toNat * 2 + 0) _ (spans_get (getElem_of_lt (by omega)) 0 (by omega))
    have hb0 := cell_lt d0
    subst e0
    have hc3 := hInv _ _ _ hj
    have hgd : z.2.getD x1.toNat (0, 0) = z.2[x1.toNat]'(by omega) := by simp [List.getD_eq_getElem?_getD, getElem_of_lt (show x1.toNat < z.2.length by omega)]
    obtain ⟨b1, o1, e1, c0⟩ := hc3 (x1.toNat * 2 + 0) _ (spans_get (getElem_of_lt (by omega)) 0 (by omega))
    obtain ⟨b2, o2, e2, c1⟩ := hc3 (x1.toNat * 2 + 1) _ (spans_get (getElem_of_lt (by omega)) 1 (by omega))
    cases e1
    cases e2
    rw [hgd] at hst
    refine ⟨b0, o0, rfl, by omega, _, _, cell_at' c0 (by omega), cell_at' c1 (by omega), .inl hb0, fun m5 g5 => ⟨by omega, fun w4 hk4 => ⟨l, rfl, ?_⟩⟩⟩
    have s4 := hk4.size
    have o5 := hk4.own m5 (by simp)
    have ek : (x1.toNat : Int) = x1 := by omega
    have ee : (before z x1, (z.2[x1.toNat]'(by omega)).1 - 1, offI z x1) = eraAt z x1.toNat := by
      unfold eraAt
      rw [if_pos (by omega), ek, hgd]
    have hj4 : J (fun b => G b ∨ b = m5) x1.toNat w4 := hJ _ _ _ _ _ hj (calm_kept hk4 (by simp; exact ⟨.inr g5, .inl G2, .inl G1⟩)) (fun _ h => .inl h) fun b hb => by
      rcases hb with hb | rfl
      · exact .inl hb
      · exact .inr ⟨g5, o5⟩
    have own : ∀ b ∈ [m5, m2, m1], G b ∨ b = m5 := by simp [G1, G2]
    have hG5 : ∀ b, (G b ∨ b = m5) → W.heap.size ≤ b ∧ b < w4.heap.size := fun b hb => by
      rcases hb with hb | rfl
      · have := hG b hb; omega
      · omega
    refine yield_mono (hY _ _ [eraV (before z x1, (z.2[x1.toNat]'(by omega)).1 - 1, offI z x1)] _ hj4 hG5 (by rw [ee]; exact erasL_get (by omega))) fun e w5 he => ?_
    obtain ⟨t, rfl, hrk, hT, hF⟩ := he
    have s5 := hrk.size
    refine ⟨t, rfl, kx hrk own, fun h w6 hk6 => ⟨⟨_, rfl⟩, _, .inr ⟨_, moveX (hF (by simpa using h)) hk6 own⟩⟩, fun h => ⟨by omega, fun w7 hk7 => ⟨⟨by omega, hst.2.2.symm, ?_, by have := hk7.size; omega, fun b => G b ∨ b = m5, fun b hb => ?_, .inl G1, .inl G2, ?_⟩, ?_⟩⟩⟩
    · unfold offI
      rw [if_neg (by omega), show (x1 + 1).toNat - 1 = x1.toNat by omega, hgd]
    · have := hk7.size
      rcases hb with hb | rfl
      · have := hG b hb; omega
      · omega
    · rw [show (x1 + 1).toNat = x1.toNat + 1 by omega]
      exact moveJ (hT (by simpa using h)) hk7 own
    · show (z.2.length - (x1 + 1)).toNat < (z.2.length - x1).toNat
      omega
  · have hx1 : x1.toNat = z.2.length := by omega
    have e1 : (before z x1, (3155760000 : Int), offI z x1) = eraAt z z.2.length := by
      unfold eraAt
      rw [if_neg (by omega), show x1 = (z.2.length : Int) by omega]
    have hj8 := moveJ hj hk8 (by simp; exact ⟨G2, G1⟩)
    have s8 := hk8.size
    refine yield_mono (hY _ _ [eraV (before z x1, 3155760000, offI z x1)] _ hj8 (fun b hb => by have := hG b hb; omega) (by rw [hx1, e1]; exact erasL_get (Nat.le_refl _))) fun e w9 he => ?_
    obtain ⟨t, rfl, hrk, hT, hF⟩ := he
    refine ⟨t, rfl, kx hrk (by simp; exact ⟨G2, G1⟩), fun w10 hk10 => ⟨⟨_, rfl⟩, ?_⟩⟩
    cases t with
    | true => exact ⟨G, .inl (by have := moveJ (hT rfl) hk10 (by simp; exact ⟨G2, G1⟩); rw [hx1] at this; simpa [erasL] using this)⟩
    | false => exact ⟨G, .inr ⟨_, moveX (hF rfl) hk10 (by simp; exact ⟨G2, G1⟩)⟩⟩
end Go.Proofs.RT
end
section
/- The era of an instant; Says. -/
namespace Go.Proofs.RT
open Go.Vc Go.RowKit Go.Proofs
def stepE (n : Int) (out x : Era) : Era := if x.1 ≤ n ∧ n ≤ x.2.1 then x else out
def atM (z : Zn) (n : Int) : Era := (erasL z).foldl (stepE n) (0, 0, 0)
theorem erasL_len (z : Zn) : (erasL z).length = z.2.length + 1 := by simp [erasL]
theorem fold_take {α β : Type} {f : β → α → β} {b : β} {l : List α} {k : Nat} (h : k < l.length) : (l.take (k + 1)).foldl f b = f ((l.take k).foldl f b) l[k] := by
  rw [List.take_succ_eq_append_getElem h, List.foldl_append]; rfl
theorem map_get {z : Zn} {k : Nat} {x : List Value} (h : ((erasL z).map fun x => [eraV x])[k]? = some x) : ∃ hk : k < (erasL z).length, x = [eraV ((erasL z)[k])] := by
  rw [List.getElem?_map] at h
  obtain ⟨y, hy, rfl⟩ := Option.map_eq_some_iff.1 h
  obtain ⟨hk, e⟩ := List.getElem?_eq_some_iff.1 hy
  exact ⟨hk, by rw [e]⟩
theorem era_mem {z : Zn} (hz : OkZ z) {k : Nat} (hk : k < (erasL z).length) : okEra (erasL z)[k] := by
  have : (erasL z)[k] = eraAt z k := by simp [erasL]
  rw [this]
  rw [erasL_len] at hk
  exact era_ok hz (by omega)
theorem calm_below {B : Nat} {w w' : World} (h : CalmFrom B w w') (hB : B ≤ w.heap.size) : Below B w w' := CalmFrom.below h hB
set_option maxRecDepth 100000 in
theorem at_any {w : World} {z : Zn} {a : Option Addr} {c : Nat} (hc : Cells w a (spansV z.2)) (hz : OkZ z) (n : Int) : Calls Tryz.prog 25 #[znV z a c, I n] w (Pure w (eraV (atM z n))) := by
  refine vc25 _ _ _ _ _ w _ fun m1 g1 m2 g2 m3 g3 => ?_
  refine ⟨_, fun _ ls k _ => match ls with | [.int _ p, .int _ q, .int _ r] => (p, q, r) = ((erasL z).take k).foldl (stepE n) (0, 0, 0) | _ => False, _, eras_iter hz, fun w3 hb3 hk3 _ => rfl, ?_⟩
  rintro x1 x2 x3 k G G' w4 w5 hI hcx hG1 hG2 hG3 hb5
  refine ⟨hc.keep hb5, fun x hx => ?_, fun hk w14 hb14 hk14 w15 hc15 => ?_⟩
  · obtain ⟨hk, rfl⟩ := map_get hx
    refine ⟨_, _, _, rfl, fun m15 w6 m16 g16 w7 hb7 hk7 w8 hc8 w9 m17 g17 w10 hb10 hk10 hc10 => ?_⟩
    refine Pure.calls (in1_any hc10) fun w11 hd11 => ⟨_, rfl, .all hd11, fun ht w12 hb12 hk12 => ?_, fun ht w13 hb13 hk13 => ?_⟩
    · have := of_decide_eq_true ht
      show (_, _, _) = ((erasL z).take (k + 1)).foldl (stepE n) (0, 0, 0)
      rw [fold_take hk]
      unfold stepE
      rw [if_pos this]
    · have := of_decide_eq_false ht
      show (_, _, _) = ((erasL z).take (k + 1)).foldl (stepE n) (0, 0, 0)
      rw [fold_take hk]
      conv => rhs; unfold stepE
      rw [if_neg this]
      exact hI
  · refine ⟨?_, hb14.trans (calm_below hc15 hb14.size)⟩
    rw [List.length_map] at hk
    subst hk
    have hI : (x1, x2, x3) = ((erasL z).take (erasL z).length).foldl (stepE n) (0, 0, 0) := hI
    rw [List.take_length] at hI
    show Ending.returned (eraV (x1, x2, x3)) = Ending.returned (eraV (atM z n))
    rw [hI]; rfl
end Go.Proofs.RT
end
section
/- Says. -/
namespace Go.Proofs.RT
open Go.Vc Go.RowKit Go.Proofs
theorem fold_ok {n : Int} {l : List Era} (h : ∀ x ∈ l, okEra x) : ∀ {o : Era}, okEra o → okEra (l.foldl (stepE n) o) := by
  induction l with
  | nil => intro o ho; exact ho
  | cons x l ih =>
    intro o ho
    refine ih (fun y hy => h y (List.mem_cons_of_mem _ hy)) ?_
    unfold stepE
    split
    · exact h x List.mem_cons_self
    · exact ho
theorem atM_ok {z : Zn} (hz : OkZ z) (n : Int) : okEra (atM z n) := by
  refine fold_ok (fun x hx => ?_) ⟨by decide, by decide, by decide⟩
  obtain ⟨k, hk, rfl⟩ := List.getElem_of_mem hx
  exact era_mem hz hk
theorem Says_ok {w : World} {z : Zn} {a : Option Addr} {c : Nat} (hc : Cells w a (spansV z.2)) (hz : OkZ z) (n : Int) (hn : 0 ≤ n ∧ n ≤ 3155760000) : Calls Tryz.prog 6 #[znV z a c, I n] w (Pure w (.tuple #[I (downI (n + (atM z n).2.2) 86400), I (modI (n + (atM z n).2.2) 86400), I 0])) := by
  refine vc6 _ _ _ _ _ w _ ?_
  intro m1 g_m1 w1 hb1 hk1
  refine Pure.calls (zcheck_ok (hc.keep hb1) hz) fun w2 hd2 => ?_
  have hb2 := hb1.trans (hd2.mono hb1.size)
  refine ⟨_, rfl, .all hd2, ?_, ?_⟩
  · intro h1 w3 hb3 hk3
    try simp only [Bool.not_eq_true', Bool.not_eq_false', decide_eq_true_eq, decide_eq_false_iff_not] at h1
    exact ⟨by first | rfl | omega | (exfalso; simp_all; done) | (exfalso; simp_all; omega), hb3⟩
  · intro h2 m3 g_m3 w4 hb4 hk4 hc4_m3
    try simp only [] at h2
    refine Pure.calls (in1_any hc4_m3) fun w5 hd5 => ?_
    have hb5 := hb4.trans (hd5.mono hb4.size)
    refine ⟨_, rfl, .all hd5, ?_, ?_⟩
    · intro h3 w6 hb6 hk6
      try simp only [Bool.not_eq_true', decide_eq_false_iff_not] at h3
      exact ⟨by first | rfl | omega | (exfalso; simp_all; done) | (exfalso; simp_all; omega), hb6⟩
    · intro h4 w7 hb7 hk7
      try simp only [Bool.not_eq_false', decide_eq_true_eq] at h4
      refine Pure.calls (at_any (hc.keep hb7) hz n) fun w8 hd8 => ?_
      have hb8 := hb7.trans (hd8.mono hb7.size)
      refine ⟨_, _, _, rfl, .all hd8, ?_⟩
      intro w9 hb9 hk9
      refine Pure.calls (says_any (atM z n) n (atM_ok hz n) (by omega)) fun w10 hd10 => ?_
      have hb10 := hb9.trans (hd10.mono hb9.size)
      refine ⟨_, rfl, .all hd10, ?_⟩
      intro w11 hb11 hk11
      refine Pure.calls (down_any _ 86400 _ (by omega) (by have := (atM_ok hz n).2.2; omega)) fun w12 hd12 => ?_
      have hb12 := hb11.trans (hd12.mono hb11.size)
      refine ⟨_, rfl, .all hd12, ?_⟩
      intro w13 hb13 hk13
      refine Pure.calls (mod_any _ 86400 _ (by omega)) fun w14 hd14 => ?_
      have hb14 := hb13.trans (hd14.mono hb13.size)
      refine ⟨_, rfl, .all hd14, ?_⟩
      intro w15 hb15 hk15
      exact ⟨by first | rfl | omega | (exfalso; simp_all; done) | (exfalso; simp_all; omega), hb15⟩
end Go.Proofs.RT
end
section
/- The conditions of the functions, printed by program; each is what the generator reckons (kernel_rfl). -/
namespace Go.Proofs
open Go.Vc
set_option maxRecDepth 100000 in
set_option maxHeartbeats 2000000 in
theorem vc107 (x : Int) (w : World) (R : Ending → World → Prop) (h : ∀ (w1 : World), RowKit.Below w.heap.size w w1 → Kept [] w w1 → Calls Tryz.prog 177 #[Value.int IntKind.u64 x]
    w1 fun (e1 : Ending) (w2 : World) => ∃ (x1 : Int), e1 = Ending.returned (Value.int IntKind.i64 x1) ∧ KeepX true w.heap.size [] (fun _ => False) w1 w2 ∧ ∀ (w3 : World),
    RowKit.Below w.heap.size w w3 → Kept [] w2 w3 → R (Ending.returned (Value.int IntKind.i64 x1)) w3) : Calls Tryz.prog 107 #[Value.int IntKind.u64 x] w R := calls_of_vc (pure :=
    true) (wrapAt := []) (muts := []) (esc := []) (args := [SV.pv (PV.one (Lf.int IntKind.u64 x))]) (vs := [Value.int IntKind.u64 x]) Tryz.func107 rfl rfl rfl (Eq.mp (by
    kernel_rfl) h) 
set_option maxRecDepth 100000 in
set_option maxHeartbeats 2000000 in
theorem vc177 (x : Int) (w : World) (R : Ending → World → Prop) (h : (4294967296 ≤ x → (0 : Int) ≤ 32 ∧ (65536 ≤ x.fdiv (2 ^ min (Int.toNat 32) IntKind.u64.bits) → (0 : Int) ≤ 16 ∧
    ((-9223372036854775808 : Int) ≤ 32 + 16 ∧ 32 + (16 : Int) ≤ 9223372036854775807) ∧ (256 ≤ (x.fdiv (2 ^ min (Int.toNat 32) IntKind.u64.bits)).fdiv (2 ^ min (Int.toNat 16)
    IntKind.u64.bits) → (0 : Int) ≤ 8 ∧ ((-9223372036854775808 : Int) ≤ 32 + 16 + 8 ∧ 32 + 16 + (8 : Int) ≤ 9223372036854775807) ∧ (0 ≤ ((x.fdiv (2 ^ min (Int.toNat 32)
    IntKind.u64.bits)).fdiv (2 ^ min (Int.toNat 16) IntKind.u64.bits)).fdiv (2 ^ min (Int.toNat 8) IntKind.u64.bits) ∧ ((x.fdiv (2 ^ min (Int.toNat 32) IntKind.u64.bits)).fdiv (2 ^
    min (Int.toNat 16) IntKind.u64.bits)).fdiv (2 ^ min (Int.toNat 8) IntKind.u64.bits) ≤ 255) ∧ ∀ (w1 : World), RowKit.Below w.heap.size w w1 → Kept [] w w1 → RunsTo Tryz.prog
    (Instr.index 9 (Value.string
    { data := (0 :: 1 :: 2 :: 2 :: 3 :: 3 :: 3 :: 3 :: 4 :: 4 :: 4 :: 4 :: 4 :: 4 :: 4 :: 4 :: 5 :: 5 :: 5 :: 5 :: 5 :: 5 :: 5 :: 5 :: 5 :: 5 :: 5 :: 5 :: 5 :: 5 :: 5 :: 5 :: 6 :: 6 :: 6 :: 6 :: 6 :: 6 :: 6 :: 6 :: 6 :: 6 :: 6 :: 6 :: 6 :: 6 :: 6 :: 6 :: 6 :: 6 :: 6 :: 6 :: 6 :: 6 :: 6 :: 6 :: 6 :: 6 :: 6 :: 6 :: 6 :: 6 :: 6 :: 6 :: 7 :: 7 :: 7 :: 7 :: 7 :: 7 :: 7 :: 7 :: 7 :: 7 :: 7 :: 7 :: 7 :: 7 :: 7 :: 7 :: 7 :: 7 :: 7 :: 7 :: 7 :: 7 :: 7 :: 7 :: 7 :: 7 :: 7 :: 7 :: 7 :: 7 :: 7 :: 7 :: 7 :: 7 :: 7 :: 7 :: 7 :: 7 :: 7 :: 7 :: 7 :: 7 :: 7 :: 7 :: 7 :: 7 :: 7 :: 7 :: 7 :: 7 :: 7 :: 7 :: 7 :: 7 :: 7 :: 7 :: 7 :: 7 :: 7 :: 7 :: 7 :: 7 :: 7 :: 7 :: List.replicate 128 8).toArray })
    (Value.int IntKind.u8 (((x.fdiv (2 ^ min (Int.toNat 32) IntKind.u64.bits)).fdiv (2 ^ min (Int.toNat 16) IntKind.u64.bits)).fdiv (2 ^ min (Int.toNat 8) IntKind.u64.bits)))) w1
    fun (v1 : Value) (w2 : World) => ∃ (x1 : Int), v1 = Value.int IntKind.u8 x1 ∧ KeepX true w.heap.size [] (fun _ => False) w1 w2 ∧ (-9223372036854775808 ≤ x1 ∧ x1 ≤
    9223372036854775807) ∧ ((-9223372036854775808 : Int) ≤ 32 + 16 + 8 + x1 ∧ 32 + 16 + 8 + x1 ≤ 9223372036854775807) ∧ ∀ (w3 : World), RowKit.Below w.heap.size w w3 → Kept [] w2
    w3 → R (Ending.returned (Value.int IntKind.i64 (32 + 16 + 8 + x1))) w3) ∧ ((x.fdiv (2 ^ min (Int.toNat 32) IntKind.u64.bits)).fdiv (2 ^ min (Int.toNat 16) IntKind.u64.bits) <
    256 → (0 ≤ (x.fdiv (2 ^ min (Int.toNat 32) IntKind.u64.bits)).fdiv (2 ^ min (Int.toNat 16) IntKind.u64.bits) ∧ (x.fdiv (2 ^ min (Int.toNat 32) IntKind.u64.bits)).fdiv (2 ^ min
    (Int.toNat 16) IntKind.u64.bits) ≤ 255) ∧ ∀ (w4 : World), RowKit.Below w.heap.size w w4 → Kept [] w w4 → RunsTo Tryz.prog (Instr.index 9 (Value.string
    { data := (0 :: 1 :: 2 :: 2 :: 3 :: 3 :: 3 :: 3 :: 4 :: 4 :: 4 :: 4 :: 4 :: 4 :: 4 :: 4 :: 5 :: 5 :: 5 :: 5 :: 5 :: 5 :: 5 :: 5 :: 5 :: 5 :: 5 :: 5 :: 5 :: 5 :: 5 :: 5 :: 6 :: 6 :: 6 :: 6 :: 6 :: 6 :: 6 :: 6 :: 6 :: 6 :: 6 :: 6 :: 6 :: 6 :: 6 :: 6 :: 6 :: 6 :: 6 :: 6 :: 6 :: 6 :: 6 :: 6 :: 6 :: 6 :: 6 :: 6 :: 6 :: 6 :: 6 :: 6 :: 7 :: 7 :: 7 :: 7 :: 7 :: 7 :: 7 :: 7 :: 7 :: 7 :: 7 :: 7 :: 7 :: 7 :: 7 :: 7 :: 7 :: 7 :: 7 :: 7 :: 7 :: 7 :: 7 :: 7 :: 7 :: 7 :: 7 :: 7 :: 7 :: 7 :: 7 :: 7 :: 7 :: 7 :: 7 :: 7 :: 7 :: 7 :: 7 :: 7 :: 7 :: 7 :: 7 :: 7 :: 7 :: 7 :: 7 :: 7 :: 7 :: 7 :: 7 :: 7 :: 7 :: 7 :: 7 :: 7 :: 7 :: 7 :: 7 :: 7 :: 7 :: 7 :: 7 :: 7 :: List.replicate 128 8).toArray })
    (Value.int IntKind.u8 ((x.fdiv (2 ^ min (Int.toNat 32) IntKind.u64.bits)).fdiv (2 ^ min (Int.toNat 16) IntKind.u64.bits)))) w4 fun (v2 : Value) (w5 : World) => ∃ (x2 : Int), v2
    = Value.int IntKind.u8 x2 ∧ KeepX true w.heap.size [] (fun _ => False) w4 w5 ∧ (-9223372036854775808 ≤ x2 ∧ x2 ≤ 9223372036854775807) ∧ ((-9223372036854775808 : Int) ≤ 32 + 16
    + x2 ∧ 32 + 16 + x2 ≤ 9223372036854775807) ∧ ∀ (w6 : World), RowKit.Below w.heap.size w w6 → Kept [] w5 w6 → R (Ending.returned (Value.int IntKind.i64 (32 + 16 + x2))) w6)) ∧
    (x.fdiv (2 ^ min (Int.toNat 32) IntKind.u64.bits) < 65536 → (256 ≤ x.fdiv (2 ^ min (Int.toNat 32) IntKind.u64.bits) → (0 : Int) ≤ 8 ∧ ((-9223372036854775808 : Int) ≤ 32 + 8 ∧
    32 + (8 : Int) ≤ 9223372036854775807) ∧ (0 ≤ (x.fdiv (2 ^ min (Int.toNat 32) IntKind.u64.bits)).fdiv (2 ^ min (Int.toNat 8) IntKind.u64.bits) ∧ (x.fdiv (2 ^ min (Int.toNat 32)
    IntKind.u64.bits)).fdiv (2 ^ min (Int.toNat 8) IntKind.u64.bits) ≤ 255) ∧ ∀ (w7 : World), RowKit.Below w.heap.size w w7 → Kept [] w w7 → RunsTo Tryz.prog (Instr.index 9
    (Value.string
    { data := (0 :: 1 :: 2 :: 2 :: 3 :: 3 :: 3 :: 3 :: 4 :: 4 :: 4 :: 4 :: 4 :: 4 :: 4 :: 4 :: 5 :: 5 :: 5 :: 5 :: 5 :: 5 :: 5 :: 5 :: 5 :: 5 :: 5 :: 5 :: 5 :: 5 :: 5 :: 5 :: 6 :: 6 :: 6 :: 6 :: 6 :: 6 :: 6 :: 6 :: 6 :: 6 :: 6 :: 6 :: 6 :: 6 :: 6 :: 6 :: 6 :: 6 :: 6 :: 6 :: 6 :: 6 :: 6 :: 6 :: 6 :: 6 :: 6 :: 6 :: 6 :: 6 :: 6 :: 6 :: 7 :: 7 :: 7 :: 7 :: 7 :: 7 :: 7 :: 7 :: 7 :: 7 :: 7 :: 7 :: 7 :: 7 :: 7 :: 7 :: 7 :: 7 :: 7 :: 7 :: 7 :: 7 :: 7 :: 7 :: 7 :: 7 :: 7 :: 7 :: 7 :: 7 :: 7 :: 7 :: 7 :: 7 :: 7 :: 7 :: 7 :: 7 :: 7 :: 7 :: 7 :: 7 :: 7 :: 7 :: 7 :: 7 :: 7 :: 7 :: 7 :: 7 :: 7 :: 7 :: 7 :: 7 :: 7 :: 7 :: 7 :: 7 :: 7 :: 7 :: 7 :: 7 :: 7 :: 7 :: List.replicate 128 8).toArray })
    (Value.int IntKind.u8 ((x.fdiv (2 ^ min (Int.toNat 32) IntKind.u64.bits)).fdiv (2 ^ min (Int.toNat 8) IntKind.u64.bits)))) w7 fun (v3 : Value) (w8 : World) => ∃ (x3 : Int), v3
    = Value.int IntKind.u8 x3 ∧ KeepX true w.heap.size [] (fun _ => False) w7 w8 ∧ (-9223372036854775808 ≤ x3 ∧ x3 ≤ 9223372036854775807) ∧ ((-9223372036854775808 : Int) ≤ 32 + 8 +
    x3 ∧ 32 + 8 + x3 ≤ 9223372036854775807) ∧ ∀ (w9 : World), RowKit.Below w.heap.size w w9 → Kept [] w8 w9 → R (Ending.returned (Value.int IntKind.i64 (32 + 8 + x3))) w9) ∧
    (x.fdiv (2 ^ min (Int.toNat 32) IntKind.u64.bits) < 256 → (0 ≤ x.fdiv (2 ^ min (Int.toNat 32) IntKind.u64.bits) ∧ x.fdiv (2 ^ min (Int.toNat 32) IntKind.u64.bits) ≤ 255) ∧ ∀
    (w10 : World), RowKit.Below w.heap.size w w10 → Kept [] w w10 → RunsTo Tryz.prog (Instr.index 9 (Value.string
    { data := (0 :: 1 :: 2 :: 2 :: 3 :: 3 :: 3 :: 3 :: 4 :: 4 :: 4 :: 4 :: 4 :: 4 :: 4 :: 4 :: 5 :: 5 :: 5 :: 5 :: 5 :: 5 :: 5 :: 5 :: 5 :: 5 :: 5 :: 5 :: 5 :: 5 :: 5 :: 5 :: 6 :: 6 :: 6 :: 6 :: 6 :: 6 :: 6 :: 6 :: 6 :: 6 :: 6 :: 6 :: 6 :: 6 :: 6 :: 6 :: 6 :: 6 :: 6 :: 6 :: 6 :: 6 :: 6 :: 6 :: 6 :: 6 :: 6 :: 6 :: 6 :: 6 :: 6 :: 6 :: 7 :: 7 :: 7 :: 7 :: 7 :: 7 :: 7 :: 7 :: 7 :: 7 :: 7 :: 7 :: 7 :: 7 :: 7 :: 7 :: 7 :: 7 :: 7 :: 7 :: 7 :: 7 :: 7 :: 7 :: 7 :: 7 :: 7 :: 7 :: 7 :: 7 :: 7 :: 7 :: 7 :: 7 :: 7 :: 7 :: 7 :: 7 :: 7 :: 7 :: 7 :: 7 :: 7 :: 7 :: 7 :: 7 :: 7 :: 7 :: 7 :: 7 :: 7 :: 7 :: 7 :: 7 :: 7 :: 7 :: 7 :: 7 :: 7 :: 7 :: 7 :: 7 :: 7 :: 7 :: List.replicate 128 8).toArray })
    (Value.int IntKind.u8 (x.fdiv (2 ^ min (Int.toNat 32) IntKind.u64.bits)))) w10 fun (v4 : Value) (w11 : World) => ∃ (x4 : Int), v4 = Value.int IntKind.u8 x4 ∧ KeepX true
    w.heap.size [] (fun _ => False) w10 w11 ∧ (-9223372036854775808 ≤ x4 ∧ x4 ≤ 9223372036854775807) ∧ ((-9223372036854775808 : Int) ≤ 32 + x4 ∧ 32 + x4 ≤ 9223372036854775807) ∧ ∀
    (w12 : World), RowKit.Below w.heap.size w w12 → Kept [] w11 w12 → R (Ending.returned (Value.int IntKind.i64 (32 + x4))) w12))) ∧ (x < 4294967296 → (65536 ≤ x → (0 : Int) ≤ 16 ∧
    ((-9223372036854775808 : Int) ≤ 0 + 16 ∧ 0 + (16 : Int) ≤ 9223372036854775807) ∧ (256 ≤ x.fdiv (2 ^ min (Int.toNat 16) IntKind.u64.bits) → (0 : Int) ≤ 8 ∧
    ((-9223372036854775808 : Int) ≤ 0 + 16 + 8 ∧ 0 + 16 + (8 : Int) ≤ 9223372036854775807) ∧ (0 ≤ (x.fdiv (2 ^ min (Int.toNat 16) IntKind.u64.bits)).fdiv (2 ^ min (Int.toNat 8)
    IntKind.u64.bits) ∧ (x.fdiv (2 ^ min (Int.toNat 16) IntKind.u64.bits)).fdiv (2 ^ min (Int.toNat 8) IntKind.u64.bits) ≤ 255) ∧ ∀ (w13 : World), RowKit.Below w.heap.size w w13 →
    Kept [] w w13 → RunsTo Tryz.prog (Instr.index 9 (Value.string
    { data := (0 :: 1 :: 2 :: 2 :: 3 :: 3 :: 3 :: 3 :: 4 :: 4 :: 4 :: 4 :: 4 :: 4 :: 4 :: 4 :: 5 :: 5 :: 5 :: 5 :: 5 :: 5 :: 5 :: 5 :: 5 :: 5 :: 5 :: 5 :: 5 :: 5 :: 5 :: 5 :: 6 :: 6 :: 6 :: 6 :: 6 :: 6 :: 6 :: 6 :: 6 :: 6 :: 6 :: 6 :: 6 :: 6 :: 6 :: 6 :: 6 :: 6 :: 6 :: 6 :: 6 :: 6 :: 6 :: 6 :: 6 :: 6 :: 6 :: 6 :: 6 :: 6 :: 6 :: 6 :: 7 :: 7 :: 7 :: 7 :: 7 :: 7 :: 7 :: 7 :: 7 :: 7 :: 7 :: 7 :: 7 :: 7 :: 7 :: 7 :: 7 :: 7 :: 7 :: 7 :: 7 :: 7 :: 7 :: 7 :: 7 :: 7 :: 7 :: 7 :: 7 :: 7 :: 7 :: 7 :: 7 :: 7 :: 7 :: 7 :: 7 :: 7 :: 7 :: 7 :: 7 :: 7 :: 7 :: 7 :: 7 :: 7 :: 7 :: 7 :: 7 :: 7 :: 7 :: 7 :: 7 :: 7 :: 7 :: 7 :: 7 :: 7 :: 7 :: 7 :: 7 :: 7 :: 7 :: 7 :: List.replicate 128 8).toArray })
    (Value.int IntKind.u8 ((x.fdiv (2 ^ min (Int.toNat 16) IntKind.u64.bits)).fdiv (2 ^ min (Int.toNat 8) IntKind.u64.bits)))) w13 fun (v5 : Value) (w14 : World) => ∃ (x5 : Int),
    v5 = Value.int IntKind.u8 x5 ∧ KeepX true w.heap.size [] (fun _ => False) w13 w14 ∧ (-9223372036854775808 ≤ x5 ∧ x5 ≤ 9223372036854775807) ∧ ((-9223372036854775808 : Int) ≤ 0 +
    16 + 8 + x5 ∧ 0 + 16 + 8 + x5 ≤ 9223372036854775807) ∧ ∀ (w15 : World), RowKit.Below w.heap.size w w15 → Kept [] w14 w15 → R (Ending.returned (Value.int IntKind.i64 (0 + 16 + 8
    + x5))) w15) ∧ (x.fdiv (2 ^ min (Int.toNat 16) IntKind.u64.bits) < 256 → (0 ≤ x.fdiv (2 ^ min (Int.toNat 16) IntKind.u64.bits) ∧ x.fdiv (2 ^ min (Int.toNat 16)
    IntKind.u64.bits) ≤ 255) ∧ ∀ (w16 : World), RowKit.Below w.heap.size w w16 → Kept [] w w16 → RunsTo Tryz.prog (Instr.index 9 (Value.string
    { data := (0 :: 1 :: 2 :: 2 :: 3 :: 3 :: 3 :: 3 :: 4 :: 4 :: 4 :: 4 :: 4 :: 4 :: 4 :: 4 :: 5 :: 5 :: 5 :: 5 :: 5 :: 5 :: 5 :: 5 :: 5 :: 5 :: 5 :: 5 :: 5 :: 5 :: 5 :: 5 :: 6 :: 6 :: 6 :: 6 :: 6 :: 6 :: 6 :: 6 :: 6 :: 6 :: 6 :: 6 :: 6 :: 6 :: 6 :: 6 :: 6 :: 6 :: 6 :: 6 :: 6 :: 6 :: 6 :: 6 :: 6 :: 6 :: 6 :: 6 :: 6 :: 6 :: 6 :: 6 :: 7 :: 7 :: 7 :: 7 :: 7 :: 7 :: 7 :: 7 :: 7 :: 7 :: 7 :: 7 :: 7 :: 7 :: 7 :: 7 :: 7 :: 7 :: 7 :: 7 :: 7 :: 7 :: 7 :: 7 :: 7 :: 7 :: 7 :: 7 :: 7 :: 7 :: 7 :: 7 :: 7 :: 7 :: 7 :: 7 :: 7 :: 7 :: 7 :: 7 :: 7 :: 7 :: 7 :: 7 :: 7 :: 7 :: 7 :: 7 :: 7 :: 7 :: 7 :: 7 :: 7 :: 7 :: 7 :: 7 :: 7 :: 7 :: 7 :: 7 :: 7 :: 7 :: 7 :: 7 :: List.replicate 128 8).toArray })
    (Value.int IntKind.u8 (x.fdiv (2 ^ min (Int.toNat 16) IntKind.u64.bits)))) w16 fun (v6 : Value) (w17 : World) => ∃ (x6 : Int), v6 = Value.int IntKind.u8 x6 ∧ KeepX true
    w.heap.size [] (fun _ => False) w16 w17 ∧ (-9223372036854775808 ≤ x6 ∧ x6 ≤ 9223372036854775807) ∧ ((-9223372036854775808 : Int) ≤ 0 + 16 + x6 ∧ 0 + 16 + x6 ≤
    9223372036854775807) ∧ ∀ (w18 : World), RowKit.Below w.heap.size w w18 → Kept [] w17 w18 → R (Ending.returned (Value.int IntKind.i64 (0 + 16 + x6))) w18)) ∧ (x < 65536 → (256 ≤
    x → (0 : Int) ≤ 8 ∧ ((-9223372036854775808 : Int) ≤ 0 + 8 ∧ 0 + (8 : Int) ≤ 9223372036854775807) ∧ (0 ≤ x.fdiv (2 ^ min (Int.toNat 8) IntKind.u64.bits) ∧ x.fdiv (2 ^ min
    (Int.toNat 8) IntKind.u64.bits) ≤ 255) ∧ ∀ (w19 : World), RowKit.Below w.heap.size w w19 → Kept [] w w19 → RunsTo Tryz.prog (Instr.index 9 (Value.string
    { data := (0 :: 1 :: 2 :: 2 :: 3 :: 3 :: 3 :: 3 :: 4 :: 4 :: 4 :: 4 :: 4 :: 4 :: 4 :: 4 :: 5 :: 5 :: 5 :: 5 :: 5 :: 5 :: 5 :: 5 :: 5 :: 5 :: 5 :: 5 :: 5 :: 5 :: 5 :: 5 :: 6 :: 6 :: 6 :: 6 :: 6 :: 6 :: 6 :: 6 :: 6 :: 6 :: 6 :: 6 :: 6 :: 6 :: 6 :: 6 :: 6 :: 6 :: 6 :: 6 :: 6 :: 6 :: 6 :: 6 :: 6 :: 6 :: 6 :: 6 :: 6 :: 6 :: 6 :: 6 :: 7 :: 7 :: 7 :: 7 :: 7 :: 7 :: 7 :: 7 :: 7 :: 7 :: 7 :: 7 :: 7 :: 7 :: 7 :: 7 :: 7 :: 7 :: 7 :: 7 :: 7 :: 7 :: 7 :: 7 :: 7 :: 7 :: 7 :: 7 :: 7 :: 7 :: 7 :: 7 :: 7 :: 7 :: 7 :: 7 :: 7 :: 7 :: 7 :: 7 :: 7 :: 7 :: 7 :: 7 :: 7 :: 7 :: 7 :: 7 :: 7 :: 7 :: 7 :: 7 :: 7 :: 7 :: 7 :: 7 :: 7 :: 7 :: 7 :: 7 :: 7 :: 7 :: 7 :: 7 :: List.replicate 128 8).toArray })
    (Value.int IntKind.u8 (x.fdiv (2 ^ min (Int.toNat 8) IntKind.u64.bits)))) w19 fun (v7 : Value) (w20 : World) => ∃ (x7 : Int), v7 = Value.int IntKind.u8 x7 ∧ KeepX true
    w.heap.size [] (fun _ => False) w19 w20 ∧ (-9223372036854775808 ≤ x7 ∧ x7 ≤ 9223372036854775807) ∧ ((-9223372036854775808 : Int) ≤ 0 + 8 + x7 ∧ 0 + 8 + x7 ≤
    9223372036854775807) ∧ ∀ (w21 : World), RowKit.Below w.heap.size w w21 → Kept [] w20 w21 → R (Ending.returned (Value.int IntKind.i64 (0 + 8 + x7))) w21) ∧ (x < 256 → (0 ≤ x ∧ x
    ≤ 255) ∧ ∀ (w22 : World), RowKit.Below w.heap.size w w22 → Kept [] w w22 → RunsTo Tryz.prog (Instr.index 9 (Value.string
    { data := (0 :: 1 :: 2 :: 2 :: 3 :: 3 :: 3 :: 3 :: 4 :: 4 :: 4 :: 4 :: 4 :: 4 :: 4 :: 4 :: 5 :: 5 :: 5 :: 5 :: 5 :: 5 :: 5 :: 5 :: 5 :: 5 :: 5 :: 5 :: 5 :: 5 :: 5 :: 5 :: 6 :: 6 :: 6 :: 6 :: 6 :: 6 :: 6 :: 6 :: 6 :: 6 :: 6 :: 6 :: 6 :: 6 :: 6 :: 6 :: 6 :: 6 :: 6 :: 6 :: 6 :: 6 :: 6 :: 6 :: 6 :: 6 :: 6 :: 6 :: 6 :: 6 :: 6 :: 6 :: 7 :: 7 :: 7 :: 7 :: 7 :: 7 :: 7 :: 7 :: 7 :: 7 :: 7 :: 7 :: 7 :: 7 :: 7 :: 7 :: 7 :: 7 :: 7 :: 7 :: 7 :: 7 :: 7 :: 7 :: 7 :: 7 :: 7 :: 7 :: 7 :: 7 :: 7 :: 7 :: 7 :: 7 :: 7 :: 7 :: 7 :: 7 :: 7 :: 7 :: 7 :: 7 :: 7 :: 7 :: 7 :: 7 :: 7 :: 7 :: 7 :: 7 :: 7 :: 7 :: 7 :: 7 :: 7 :: 7 :: 7 :: 7 :: 7 :: 7 :: 7 :: 7 :: 7 :: 7 :: List.replicate 128 8).toArray })
    (Value.int IntKind.u8 x)) w22 fun (v8 : Value) (w23 : World) => ∃ (x8 : Int), v8 = Value.int IntKind.u8 x8 ∧ KeepX true w.heap.size [] (fun _ => False) w22 w23 ∧
    (-9223372036854775808 ≤ x8 ∧ x8 ≤ 9223372036854775807) ∧ ((-9223372036854775808 : Int) ≤ 0 + x8 ∧ 0 + x8 ≤ 9223372036854775807) ∧ ∀ (w24 : World), RowKit.Below w.heap.size w
    w24 → Kept [] w23 w24 → R (Ending.returned (Value.int IntKind.i64 (0 + x8))) w24)))) : Calls Tryz.prog 177 #[Value.int IntKind.u64 x] w R := calls_of_vc (pure := true) (wrapAt
    := []) (muts := []) (esc := []) (args := [SV.pv (PV.one (Lf.int IntKind.u64 x))]) (vs := [Value.int IntKind.u64 x]) Tryz.func177 rfl rfl rfl (Eq.mp (by kernel_rfl) h) 
set_option maxRecDepth 100000 in
set_option maxHeartbeats 2000000 in
theorem vc167 (dataa : Option Addr) (datan : Nat) (datac : Nat) (a : Int) (b : Int) (w : World) (R : Ending → World → Prop) (h : (-9223372036854775808 ≤ a + 1 ∧ a + (1 : Int) ≤
    9223372036854775807) ∧ ∃ (F1 : List Lf → World → Prop), ∃ (F2 : List Lf → Nat), (∀ (w2 : World), Kept [] w w2 → F1 [Lf.int IntKind.i64 (a + 1)] w2) ∧ ∀ (x1 : Int) (w3 : World),
    F1 [Lf.int IntKind.i64 x1] w3 → (x1 < b → ∃ (F3 : List Lf → World → Prop), ∃ (F4 : List Lf → Nat), (∀ (w5 : World), Kept [] w3 w5 → F3 [Lf.int IntKind.i64 x1] w5) ∧ ∀ (x2 :
    Int) (w6 : World), F3 [Lf.int IntKind.i64 x2] w6 → (a < x2 → ∃ (m1 : Nat), ∃ (m2 : Nat), dataa = some { block := m1, off := m2 } ∧ (0 ≤ x2 ∧ x2 < (↑datan : Int)) ∧ ∃ (x3 :
    Int), w6.cell? { block := m1, off := m2 + x2.toNat * 1 } = some (Value.int IntKind.i64 x3) ∧ (-9223372036854775808 ≤ x2 - 1 ∧ x2 - (1 : Int) ≤ 9223372036854775807) ∧ ∃ (m3 :
    Nat), ∃ (m4 : Nat), dataa = some { block := m3, off := m4 } ∧ (0 ≤ x2 - 1 ∧ x2 - 1 < (↑datan : Int)) ∧ ∃ (x4 : Int), w6.cell? { block := m3, off := m4 + (x2 - 1).toNat * 1 } =
    some (Value.int IntKind.i64 x4) ∧ ∀ (w7 : World), KeptIn [(0, w6.heap.size)] [] w6 w7 → Calls Tryz.prog 173 #[Value.int IntKind.i64 x3, Value.int IntKind.i64 x4] w7 fun (e1 :
    Ending) (w8 : World) => ∃ (t1 : Bool), e1 = Ending.returned (Value.bool t1) ∧ KeepX false w.heap.size [] (fun _ => False) w7 w8 ∧ (t1 = true → (-9223372036854775808 ≤ x2 - 1 ∧
    x2 - (1 : Int) ≤ 9223372036854775807) ∧ ∃ (m6 : Nat), ∃ (m7 : Nat), dataa = some { block := m6, off := m7 } ∧ (0 ≤ x2 - 1 ∧ x2 - 1 < (↑datan : Int)) ∧ ∃ (x5 : Int), w8.cell?
    { block := m6, off := m7 + (x2 - 1).toNat * 1 } = some (Value.int IntKind.i64 x5) ∧ ∃ (m8 : Nat), ∃ (m9 : Nat), dataa = some { block := m8, off := m9 } ∧ (0 ≤ x2 ∧ x2 < (↑datan
    : Int)) ∧ ∃ (x6 : Int), w8.cell? { block := m8, off := m9 + x2.toNat * 1 } = some (Value.int IntKind.i64 x6) ∧ ∃ (m10 : Nat), ∃ (m11 : Nat), dataa = some
    { block := m10, off := m11 } ∧ (0 ≤ x2 ∧ x2 < (↑datan : Int)) ∧ ∀ (w9 : World), KeptIn [(0, w8.heap.size)] [] w8 w9 → RunsTo Tryz.prog ((Instr.storeAt 3 (Value.pointer (some
    { block := m10, off := m11 + x2.toNat * 1 })) (Value.int IntKind.i64 x5)) >>= fun _ => pure (Value.tuple #[])) w9 fun (v1 : Value) (w10 : World) => KeepX false w.heap.size []
    (fun _ => False) w9 w10 ∧ (-9223372036854775808 ≤ x2 - 1 ∧ x2 - (1 : Int) ≤ 9223372036854775807) ∧ ∃ (m13 : Nat), ∃ (m14 : Nat), dataa = some { block := m13, off := m14 } ∧ (0
    ≤ x2 - 1 ∧ x2 - 1 < (↑datan : Int)) ∧ ∀ (w11 : World), KeptIn [(0, w10.heap.size)] [] w10 w11 → RunsTo Tryz.prog ((Instr.storeAt 3 (Value.pointer (some
    { block := m13, off := m14 + (x2 - 1).toNat * 1 })) (Value.int IntKind.i64 x6)) >>= fun _ => pure (Value.tuple #[])) w11 fun (v2 : Value) (w12 : World) => KeepX false
    w.heap.size [] (fun _ => False) w11 w12 ∧ (-9223372036854775808 ≤ x2 - 1 ∧ x2 - (1 : Int) ≤ 9223372036854775807) ∧ ∀ (w13 : World), Kept [] w12 w13 → F3 [Lf.int IntKind.i64 (x2
    - 1)] w13 ∧ F4 [Lf.int IntKind.i64 (x2 - 1)] < F4 [Lf.int IntKind.i64 x2]) ∧ (t1 = false → (-9223372036854775808 ≤ x1 + 1 ∧ x1 + (1 : Int) ≤ 9223372036854775807) ∧ ∀ (w14 :
    World), Kept [] w8 w14 → F1 [Lf.int IntKind.i64 (x1 + 1)] w14 ∧ F2 [Lf.int IntKind.i64 (x1 + 1)] < F2 [Lf.int IntKind.i64 x1])) ∧ (x2 ≤ a → (-9223372036854775808 ≤ x1 + 1 ∧ x1
    + (1 : Int) ≤ 9223372036854775807) ∧ ∀ (w15 : World), Kept [] w6 w15 → F1 [Lf.int IntKind.i64 (x1 + 1)] w15 ∧ F2 [Lf.int IntKind.i64 (x1 + 1)] < F2 [Lf.int IntKind.i64 x1])) ∧
    (b ≤ x1 → ∀ (w16 : World), Kept [] w3 w16 → R (Ending.returned (Value.tuple #[])) w16)) : Calls Tryz.prog 167 #[Value.slice dataa datan datac, Value.int IntKind.i64 a,
    Value.int IntKind.i64 b] w R := calls_of_vc (pure := false) (wrapAt := []) (muts := []) (esc := []) (args := [SV.pv (PV.one (Lf.sl dataa datan datac)), SV.pv (PV.one (Lf.int
    IntKind.i64 a)), SV.pv (PV.one (Lf.int IntKind.i64 b))]) (vs := [Value.slice dataa datan datac, Value.int IntKind.i64 a, Value.int IntKind.i64 b]) Tryz.func167 rfl rfl rfl
    (Eq.mp (by kernel_rfl) h) 
set_option maxRecDepth 100000 in
set_option maxHeartbeats 2000000 in
theorem vc173 (x : Int) (y : Int) (w : World) (R : Ending → World → Prop) (h : ∀ (w1 : World), RowKit.Below w.heap.size w w1 → Kept [] w w1 → Calls Tryz.prog 166 #[Value.int
    IntKind.i64 x] w1 fun (e1 : Ending) (w2 : World) => ∃ (t1 : Bool), e1 = Ending.returned (Value.bool t1) ∧ KeepX true w.heap.size [] (fun _ => False) w1 w2 ∧ (t1 = true → ∀ (w3
    : World), RowKit.Below w.heap.size w w3 → Kept [] w2 w3 → Calls Tryz.prog 166 #[Value.int IntKind.i64 y] w3 fun (e2 : Ending) (w4 : World) => ∃ (t2 : Bool), e2 =
    Ending.returned (Value.bool t2) ∧ KeepX true w.heap.size [] (fun _ => False) w3 w4 ∧ ((!t2) = true → ∀ (w5 : World), RowKit.Below w.heap.size w w5 → Kept [] w4 w5 → R
    (Ending.returned (Value.bool true)) w5) ∧ ((!t2) = false → ∀ (w6 : World), RowKit.Below w.heap.size w w6 → Kept [] w4 w6 → R (Ending.returned (Value.bool (decide (x < y))))
    w6)) ∧ (t1 = false → ∀ (w7 : World), RowKit.Below w.heap.size w w7 → Kept [] w2 w7 → R (Ending.returned (Value.bool (decide (x < y)))) w7)) : Calls Tryz.prog 173 #[Value.int
    IntKind.i64 x, Value.int IntKind.i64 y] w R := calls_of_vc (pure := true) (wrapAt := []) (muts := []) (esc := []) (args := [SV.pv (PV.one (Lf.int IntKind.i64 x)), SV.pv (PV.one
    (Lf.int IntKind.i64 y))]) (vs := [Value.int IntKind.i64 x, Value.int IntKind.i64 y]) Tryz.func173 rfl rfl rfl (Eq.mp (by kernel_rfl) h) 
set_option maxRecDepth 100000 in
set_option maxHeartbeats 2000000 in
theorem vc166 (x : Int) (w : World) (R : Ending → World → Prop) (h : ∀ (w1 : World), RowKit.Below w.heap.size w w1 → Kept [] w w1 → R (Ending.returned (Value.bool (x != x))) w1) :
    Calls Tryz.prog 166 #[Value.int IntKind.i64 x] w R := calls_of_vc (pure := true) (wrapAt := []) (muts := []) (esc := []) (args := [SV.pv (PV.one (Lf.int IntKind.i64 x))]) (vs
    := [Value.int IntKind.i64 x]) Tryz.func166 rfl rfl rfl (Eq.mp (by kernel_rfl) h) 
set_option maxRecDepth 100000 in
set_option maxHeartbeats 2000000 in
theorem vc52 (xa : Option Addr) (xn : Nat) (xc : Nat) (w : World) (R : Ending → World → Prop) (h : (0 ≤ (↑xn : Int) ∧ (↑xn : Int) ≤ 18446744073709551615) ∧ ∀ (w1 : World), Kept []
    w w1 → Calls Tryz.prog 107 #[Value.int IntKind.u64 (↑xn : Int)] w1 fun (e1 : Ending) (w2 : World) => ∃ (x1 : Int), e1 = Ending.returned (Value.int IntKind.i64 x1) ∧ KeepX false
    w.heap.size [] (fun _ => False) w1 w2 ∧ ∀ (w3 : World), Kept [] w2 w3 → Calls Tryz.prog 106 #[Value.slice xa xn xc, Value.int IntKind.i64 0, Value.int IntKind.i64 (↑xn : Int),
    Value.int IntKind.i64 x1] w3 fun (e2 : Ending) (w4 : World) => e2 = Ending.returned (Value.tuple #[]) ∧ KeepX false w.heap.size [] (fun _ => False) w3 w4 ∧ ∀ (w5 : World), Kept
    [] w4 w5 → R (Ending.returned (Value.tuple #[])) w5) : Calls Tryz.prog 52 #[Value.slice xa xn xc] w R := calls_of_vc (pure := false) (wrapAt := []) (muts := []) (esc := [])
    (args := [SV.pv (PV.one (Lf.sl xa xn xc))]) (vs := [Value.slice xa xn xc]) Tryz.func52 rfl rfl rfl (Eq.mp (by kernel_rfl) h) 
set_option maxRecDepth 100000 in
set_option maxHeartbeats 2000000 in
theorem vc69 (sa : Option Addr) (sn : Nat) (sc : Nat) (w : World) (R : Ending → World → Prop) (h : ((↑sn : Int) < 2 → ∀ (w1 : World), RowKit.Below w.heap.size w w1 → Kept [] w w1 →
    R (Ending.returned (Value.slice sa sn sc)) w1) ∧ (2 ≤ (↑sn : Int) → ∃ (F1 : List Lf → World → Prop), ∃ (F2 : List Lf → Nat), (∀ (w3 : World), RowKit.Below w.heap.size w w3 →
    Kept [] w w3 → F1 [Lf.sl none 0 0, Lf.int IntKind.i64 1] w3) ∧ ∀ (a1 : Option Addr) (m1 m2 : Nat) (x1 : Int) (w4 : World), RowKit.Below w.heap.size w w4 → F1 [Lf.sl a1 m1 m2,
    Lf.int IntKind.i64 x1] w4 → (x1 < (↑sn : Int) → ∃ (m3 : Nat), ∃ (m4 : Nat), sa = some { block := m3, off := m4 } ∧ (0 ≤ x1 ∧ x1 < (↑sn : Int)) ∧ ∃ (x2 : Int), w4.cell?
    { block := m3, off := m4 + x1.toNat * 1 } = some (Value.int IntKind.i64 x2) ∧ (-9223372036854775808 ≤ x1 - 1 ∧ x1 - (1 : Int) ≤ 9223372036854775807) ∧ ∃ (m5 : Nat), ∃ (m6 :
    Nat), sa = some { block := m5, off := m6 } ∧ (0 ≤ x1 - 1 ∧ x1 - 1 < (↑sn : Int)) ∧ ∃ (x3 : Int), w4.cell? { block := m5, off := m6 + (x1 - 1).toNat * 1 } = some (Value.int
    IntKind.i64 x3) ∧ (x2 = x3 → (0 ≤ x1 ∧ x1 ≤ (↑sn : Int)) ∧ ∃ (F3 : List Lf → World → Prop), ∃ (F4 : List Lf → Nat), (∀ (w6 : World), RowKit.Below w.heap.size w w6 → Kept [] w4
    w6 → F3 [Lf.int IntKind.i64 x1, Lf.int IntKind.i64 1] w6) ∧ ∀ (x4 x5 : Int) (w7 : World), RowKit.Below w.heap.size w w7 → F3 [Lf.int IntKind.i64 x4, Lf.int IntKind.i64 x5] w7 →
    (x5 < (↑(sn - x1.toNat) : Int) → ∃ (m7 : Nat), ∃ (m8 : Nat), subA sa sc x1.toNat 1 = some { block := m7, off := m8 } ∧ (0 ≤ x5 ∧ x5 < (↑(sn - x1.toNat) : Int)) ∧ ∃ (x6 : Int),
    w7.cell? { block := m7, off := m8 + x5.toNat * 1 } = some (Value.int IntKind.i64 x6) ∧ (-9223372036854775808 ≤ x5 - 1 ∧ x5 - (1 : Int) ≤ 9223372036854775807) ∧ ∃ (m9 : Nat), ∃
    (m10 : Nat), subA sa sc x1.toNat 1 = some { block := m9, off := m10 } ∧ (0 ≤ x5 - 1 ∧ x5 - 1 < (↑(sn - x1.toNat) : Int)) ∧ ∃ (x7 : Int), w7.cell?
    { block := m9, off := m10 + (x5 - 1).toNat * 1 } = some (Value.int IntKind.i64 x7) ∧ (x6 ≠ x7 → ∃ (m11 : Nat), ∃ (m12 : Nat), subA sa sc x1.toNat 1 = some
    { block := m11, off := m12 } ∧ (0 ≤ x5 ∧ x5 < (↑(sn - x1.toNat) : Int)) ∧ ∃ (x8 : Int), w7.cell? { block := m11, off := m12 + x5.toNat * 1 } = some (Value.int IntKind.i64 x8) ∧
    ∃ (m13 : Nat), ∃ (m14 : Nat), sa = some { block := m13, off := m14 } ∧ (0 ≤ x4 ∧ x4 < (↑sn : Int)) ∧ ∀ (w8 : World), RowKit.Below w.heap.size w w8 → Kept [] w7 w8 → RunsTo
    Tryz.prog ((Instr.storeAt 3 (Value.pointer (some { block := m13, off := m14 + x4.toNat * 1 })) (Value.int IntKind.i64 x8)) >>= fun _ => pure (Value.tuple #[])) w8 fun (v1 :
    Value) (w9 : World) => KeepX true w.heap.size [] (fun _ => False) w8 w9 ∧ (-9223372036854775808 ≤ x4 + 1 ∧ x4 + (1 : Int) ≤ 9223372036854775807) ∧ (-9223372036854775808 ≤ x5 +
    1 ∧ x5 + (1 : Int) ≤ 9223372036854775807) ∧ ∀ (w10 : World), RowKit.Below w.heap.size w w10 → Kept [] w9 w10 → F3 [Lf.int IntKind.i64 (x4 + 1), Lf.int IntKind.i64 (x5 + 1)] w10
    ∧ F4 [Lf.int IntKind.i64 (x4 + 1), Lf.int IntKind.i64 (x5 + 1)] < F4 [Lf.int IntKind.i64 x4, Lf.int IntKind.i64 x5]) ∧ (x6 = x7 → (-9223372036854775808 ≤ x5 + 1 ∧ x5 + (1 :
    Int) ≤ 9223372036854775807) ∧ ∀ (w11 : World), RowKit.Below w.heap.size w w11 → Kept [] w7 w11 → F3 [Lf.int IntKind.i64 x4, Lf.int IntKind.i64 (x5 + 1)] w11 ∧ F4 [Lf.int
    IntKind.i64 x4, Lf.int IntKind.i64 (x5 + 1)] < F4 [Lf.int IntKind.i64 x4, Lf.int IntKind.i64 x5])) ∧ ((↑(sn - x1.toNat) : Int) ≤ x5 → (0 ≤ x4 ∧ x4 ≤ (↑sn : Int)) ∧ Unsup "an    operation that is not plain")) ∧ (x2 ≠ x3 → (-9223372036854775808 ≤ x1 + 1 ∧ x1 + (1 : Int) ≤ 9223372036854775807) ∧ ∀ (w12 : World), RowKit.Below w.heap.size w w12 → Kept []
    w4 w12 → F1 [Lf.sl a1 m1 m2, Lf.int IntKind.i64 (x1 + 1)] w12 ∧ F2 [Lf.sl a1 m1 m2, Lf.int IntKind.i64 (x1 + 1)] < F2 [Lf.sl a1 m1 m2, Lf.int IntKind.i64 x1])) ∧ ((↑sn : Int) ≤
    x1 → ∀ (w13 : World), RowKit.Below w.heap.size w w13 → Kept [] w4 w13 → R (Ending.returned (Value.slice sa sn sc)) w13))) : Calls Tryz.prog 69 #[Value.slice sa sn sc] w R :=
    calls_of_vc (pure := true) (wrapAt := []) (muts := []) (esc := []) (args := [SV.pv (PV.one (Lf.sl sa sn sc))]) (vs := [Value.slice sa sn sc]) Tryz.func69 rfl rfl rfl (Eq.mp (by
    kernel_rfl) h) 
set_option maxRecDepth 100000 in
set_option maxHeartbeats 2000000 in
theorem vc220 (dataa : Option Addr) (datan : Nat) (datac : Nat) (a : Int) (b : Int) (cmpf : Nat) (cmpi : List Value) (cmpc : List Value) (w : World) (R : Ending → World → Prop) (h
    : (-9223372036854775808 ≤ a + 1 ∧ a + (1 : Int) ≤ 9223372036854775807) ∧ ∃ (F1 : List Lf → World → Prop), ∃ (F2 : List Lf → Nat), (∀ (w2 : World), Kept [] w w2 → F1 [Lf.int
    IntKind.i64 (a + 1)] w2) ∧ ∀ (x1 : Int) (w3 : World), F1 [Lf.int IntKind.i64 x1] w3 → (x1 < b → ∃ (F3 : List Lf → World → Prop), ∃ (F4 : List Lf → Nat), (∀ (w5 : World), Kept
    [] w3 w5 → F3 [Lf.int IntKind.i64 x1] w5) ∧ ∀ (x2 : Int) (w6 : World), F3 [Lf.int IntKind.i64 x2] w6 → (a < x2 → ∃ (m1 : Nat), ∃ (m2 : Nat), dataa = some
    { block := m1, off := m2 } ∧ (0 ≤ x2 ∧ x2 < (↑datan : Int)) ∧ ∃ (x3 : Int), ∃ (x4 : Int), w6.cell? { block := m1, off := m2 + x2.toNat * 2 } = some (Value.int IntKind.i64 x3) ∧
    w6.cell? { block := m1, off := m2 + x2.toNat * 2 + 1 } = some (Value.int IntKind.i64 x4) ∧ (-9223372036854775808 ≤ x2 - 1 ∧ x2 - (1 : Int) ≤ 9223372036854775807) ∧ ∃ (m3 :
    Nat), ∃ (m4 : Nat), dataa = some { block := m3, off := m4 } ∧ (0 ≤ x2 - 1 ∧ x2 - 1 < (↑datan : Int)) ∧ ∃ (x5 : Int), ∃ (x6 : Int), w6.cell?
    { block := m3, off := m4 + (x2 - 1).toNat * 2 } = some (Value.int IntKind.i64 x5) ∧ w6.cell? { block := m3, off := m4 + (x2 - 1).toNat * 2 + 1 } = some (Value.int IntKind.i64
    x6) ∧ Callable Tryz.prog cmpf ∧ ∀ (w7 : World), KeptIn [(0, w6.heap.size)] [] w6 w7 → Calls Tryz.prog cmpf (cmpi ++ [Value.agg #[Value.int IntKind.i64 x3, Value.int IntKind.i64
    x4], Value.agg #[Value.int IntKind.i64 x5, Value.int IntKind.i64 x6]] ++ cmpc).toArray w7 fun (e1 : Ending) (w8 : World) => ∃ (x7 : Int), e1 = Ending.returned (Value.int
    IntKind.i64 x7) ∧ KeepX false w.heap.size [] (fun _ => False) w7 w8 ∧ (x7 < 0 → (-9223372036854775808 ≤ x2 - 1 ∧ x2 - (1 : Int) ≤ 9223372036854775807) ∧ ∃ (m6 : Nat), ∃ (m7 :
    Nat), dataa = some { block := m6, off := m7 } ∧ (0 ≤ x2 - 1 ∧ x2 - 1 < (↑datan : Int)) ∧ ∃ (x8 : Int), ∃ (x9 : Int), w8.cell? { block := m6, off := m7 + (x2 - 1).toNat * 2 } =
    some (Value.int IntKind.i64 x8) ∧ w8.cell? { block := m6, off := m7 + (x2 - 1).toNat * 2 + 1 } = some (Value.int IntKind.i64 x9) ∧ ∃ (m8 : Nat), ∃ (m9 : Nat), dataa = some
    { block := m8, off := m9 } ∧ (0 ≤ x2 ∧ x2 < (↑datan : Int)) ∧ ∃ (x10 : Int), ∃ (x11 : Int), w8.cell? { block := m8, off := m9 + x2.toNat * 2 } = some (Value.int IntKind.i64
    x10) ∧ w8.cell? { block := m8, off := m9 + x2.toNat * 2 + 1 } = some (Value.int IntKind.i64 x11) ∧ ∃ (m10 : Nat), ∃ (m11 : Nat), dataa = some { block := m10, off := m11 } ∧ (0
    ≤ x2 ∧ x2 < (↑datan : Int)) ∧ ∀ (w9 : World), KeptIn [(0, w8.heap.size)] [] w8 w9 → RunsTo Tryz.prog ((Instr.storeAt 47 (Value.pointer (some
    { block := m10, off := m11 + x2.toNat * 2 })) (Value.agg #[Value.int IntKind.i64 x8, Value.int IntKind.i64 x9])) >>= fun _ => pure (Value.tuple #[])) w9 fun (v1 : Value) (w10 :
    World) => KeepX false w.heap.size [] (fun _ => False) w9 w10 ∧ (-9223372036854775808 ≤ x2 - 1 ∧ x2 - (1 : Int) ≤ 9223372036854775807) ∧ ∃ (m13 : Nat), ∃ (m14 : Nat), dataa =
    some { block := m13, off := m14 } ∧ (0 ≤ x2 - 1 ∧ x2 - 1 < (↑datan : Int)) ∧ ∀ (w11 : World), KeptIn [(0, w10.heap.size)] [] w10 w11 → RunsTo Tryz.prog ((Instr.storeAt 47
    (Value.pointer (some { block := m13, off := m14 + (x2 - 1).toNat * 2 })) (Value.agg #[Value.int IntKind.i64 x10, Value.int IntKind.i64 x11])) >>= fun _ => pure (Value.tuple
    #[])) w11 fun (v2 : Value) (w12 : World) => KeepX false w.heap.size [] (fun _ => False) w11 w12 ∧ (-9223372036854775808 ≤ x2 - 1 ∧ x2 - (1 : Int) ≤ 9223372036854775807) ∧ ∀
    (w13 : World), Kept [] w12 w13 → F3 [Lf.int IntKind.i64 (x2 - 1)] w13 ∧ F4 [Lf.int IntKind.i64 (x2 - 1)] < F4 [Lf.int IntKind.i64 x2]) ∧ (0 ≤ x7 → (-9223372036854775808 ≤ x1 +
    1 ∧ x1 + (1 : Int) ≤ 9223372036854775807) ∧ ∀ (w14 : World), Kept [] w8 w14 → F1 [Lf.int IntKind.i64 (x1 + 1)] w14 ∧ F2 [Lf.int IntKind.i64 (x1 + 1)] < F2 [Lf.int IntKind.i64
    x1])) ∧ (x2 ≤ a → (-9223372036854775808 ≤ x1 + 1 ∧ x1 + (1 : Int) ≤ 9223372036854775807) ∧ ∀ (w15 : World), Kept [] w6 w15 → F1 [Lf.int IntKind.i64 (x1 + 1)] w15 ∧ F2 [Lf.int
    IntKind.i64 (x1 + 1)] < F2 [Lf.int IntKind.i64 x1])) ∧ (b ≤ x1 → ∀ (w16 : World), Kept [] w3 w16 → R (Ending.returned (Value.tuple #[])) w16)) : Calls Tryz.prog 220
    #[Value.slice dataa datan datac, Value.int IntKind.i64 a, Value.int IntKind.i64 b, Value.func (Fn.func cmpf) cmpi.toArray cmpc.toArray] w R := calls_of_vc (pure := false)
    (wrapAt := []) (muts := []) (esc := []) (args := [SV.pv (PV.one (Lf.sl dataa datan datac)), SV.pv (PV.one (Lf.int IntKind.i64 a)), SV.pv (PV.one (Lf.int IntKind.i64 b)), SV.pv
    (PV.one (Lf.fv cmpf cmpi cmpc))]) (vs := [Value.slice dataa datan datac, Value.int IntKind.i64 a, Value.int IntKind.i64 b, Value.func (Fn.func cmpf) cmpi.toArray cmpc.toArray])
    Tryz.func220 rfl rfl rfl (Eq.mp (by kernel_rfl) h) 
set_option maxRecDepth 100000 in
set_option maxHeartbeats 2000000 in
theorem vc132 (xa : Option Addr) (xn : Nat) (xc : Nat) (cmpf : Nat) (cmpi : List Value) (cmpc : List Value) (w : World) (R : Ending → World → Prop) (h : (0 ≤ (↑xn : Int) ∧ (↑xn :
    Int) ≤ 18446744073709551615) ∧ ∀ (w1 : World), Kept [] w w1 → Calls Tryz.prog 107 #[Value.int IntKind.u64 (↑xn : Int)] w1 fun (e1 : Ending) (w2 : World) => ∃ (x1 : Int), e1 =
    Ending.returned (Value.int IntKind.i64 x1) ∧ KeepX false w.heap.size [] (fun _ => False) w1 w2 ∧ ∀ (w3 : World), Kept [] w2 w3 → Calls Tryz.prog 197 #[Value.slice xa xn xc,
    Value.int IntKind.i64 0, Value.int IntKind.i64 (↑xn : Int), Value.int IntKind.i64 x1, Value.func (Fn.func cmpf) cmpi.toArray cmpc.toArray] w3 fun (e2 : Ending) (w4 : World) =>
    e2 = Ending.returned (Value.tuple #[]) ∧ KeepX false w.heap.size [] (fun _ => False) w3 w4 ∧ ∀ (w5 : World), Kept [] w4 w5 → R (Ending.returned (Value.tuple #[])) w5) : Calls
    Tryz.prog 132 #[Value.slice xa xn xc, Value.func (Fn.func cmpf) cmpi.toArray cmpc.toArray] w R := calls_of_vc (pure := false) (wrapAt := []) (muts := []) (esc := []) (args :=
    [SV.pv (PV.one (Lf.sl xa xn xc)), SV.pv (PV.one (Lf.fv cmpf cmpi cmpc))]) (vs := [Value.slice xa xn xc, Value.func (Fn.func cmpf) cmpi.toArray cmpc.toArray]) Tryz.func132 rfl
    rfl rfl (Eq.mp (by kernel_rfl) h) 
set_option maxRecDepth 100000 in
set_option maxHeartbeats 2000000 in
theorem vc71 (la : Option Addr) (ln : Nat) (lc : Nat) (w : World) (R : Ending → World → Prop) (h : ∀ (w1 : World), Kept [] w w1 → Calls Tryz.prog 132 #[Value.slice la ln lc,
    Value.func (Fn.func 133) #[] #[]] w1 fun (e1 : Ending) (w2 : World) => e1 = Ending.returned (Value.tuple #[]) ∧ KeepX false w.heap.size [] (fun _ => False) w1 w2 ∧ ∃ (F1 : List
    Lf → World → Prop), ∃ (F2 : List Lf → Nat), (∀ (w4 : World), Kept [] w2 w4 → F1 [Lf.sl none 0 0, Lf.int IntKind.i64 0] w4) ∧ ∀ (a1 : Option Addr) (m2 m3 : Nat) (x1 : Int) (w5 :
    World), F1 [Lf.sl a1 m2 m3, Lf.int IntKind.i64 x1] w5 → (x1 < (↑ln : Int) → ∃ (m4 : Nat), ∃ (m5 : Nat), la = some { block := m4, off := m5 } ∧ (0 ≤ x1 ∧ x1 < (↑ln : Int)) ∧ ∃
    (x2 : Int), ∃ (x3 : Int), w5.cell? { block := m4, off := m5 + x1.toNat * 2 } = some (Value.int IntKind.i64 x2) ∧ w5.cell? { block := m4, off := m5 + x1.toNat * 2 + 1 } = some
    (Value.int IntKind.i64 x3) ∧ ∀ (m6 : Nat), w5.heap.size ≤ m6 → (-9223372036854775808 ≤ (↑m2 : Int) - 1 ∧ (↑m2 : Int) - (1 : Int) ≤ 9223372036854775807) ∧ (0 ≤ (↑m2 : Int) - 1 →
    ∃ (m7 : Nat), ∃ (m8 : Nat), a1 = some { block := m7, off := m8 } ∧ (0 ≤ (↑m2 : Int) - 1 ∧ (↑m2 : Int) - 1 < (↑m2 : Int)) ∧ ∃ (x4 : Int), w5.cell?
    { block := m7, off := m8 + ((↑m2 : Int) - 1).toNat * 2 + 1 } = some (Value.int IntKind.i64 x4) ∧ (m7 < w.heap.size ∨ m7 ≠ m6) ∧ (-9223372036854775808 ≤ x4 + 1 ∧ x4 + (1 : Int)
    ≤ 9223372036854775807) ∧ (x2 ≤ x4 + 1 → ∃ (m9 : Nat), ∃ (m10 : Nat), a1 = some { block := m9, off := m10 } ∧ (0 ≤ (↑m2 : Int) - 1 ∧ (↑m2 : Int) - 1 < (↑m2 : Int)) ∧ ∃ (x5 :
    Int), w5.cell? { block := m9, off := m10 + ((↑m2 : Int) - 1).toNat * 2 + 1 } = some (Value.int IntKind.i64 x5) ∧ (m9 < w.heap.size ∨ m9 ≠ m6) ∧ ∃ (m11 : Nat), ∃ (m12 : Nat), a1
    = some { block := m11, off := m12 } ∧ (0 ≤ (↑m2 : Int) - 1 ∧ (↑m2 : Int) - 1 < (↑m2 : Int)) ∧ ∀ (w6 : World), KeptIn [(0, w5.heap.size)] [m6] w5 w6 → RunsTo Tryz.prog
    ((Instr.storeAt 3 (Value.pointer (some { block := m11, off := m12 + ((↑m2 : Int) - 1).toNat * 2 + 1 })) (Value.int IntKind.i64 (max x5 x3))) >>= fun _ => pure (Value.tuple
    #[])) w6 fun (v1 : Value) (w7 : World) => KeepX false w.heap.size [m6] (fun _ => False) w6 w7 ∧ (-9223372036854775808 ≤ x1 + 1 ∧ x1 + (1 : Int) ≤ 9223372036854775807) ∧ ∀ (w8 :
    World), Kept [m6] w7 w8 → F1 [Lf.sl a1 m2 m3, Lf.int IntKind.i64 (x1 + 1)] w8 ∧ F2 [Lf.sl a1 m2 m3, Lf.int IntKind.i64 (x1 + 1)] < F2 [Lf.sl a1 m2 m3, Lf.int IntKind.i64 x1]) ∧
    (x4 + 1 < x2 → ∀ (m14 : Nat), w5.heap.size ≤ m14 → ∀ (w9 : World), Kept [m14, m6] w5 w9 → w9.heap[m14]? = some (Obj.cells #[Value.int IntKind.i64 x2, Value.int IntKind.i64 x3]
    47) → RunsTo Tryz.prog (Builtin.append_ #[167, 167] 167 #[Value.slice a1 m2 m3, Value.slice (some { block := m14, off := 0 }) 1 1]) w9 fun (v2 : Value) (w10 : World) => ∃ (a2 :
    Option Addr), ∃ (m16 : Nat), ∃ (m17 : Nat), v2 = Value.slice a2 m16 m17 ∧ KeepX false w.heap.size [m14, m6] (fun _ => False) w9 w10 ∧ (-9223372036854775808 ≤ x1 + 1 ∧ x1 + (1 :
    Int) ≤ 9223372036854775807) ∧ ∀ (w11 : World), Kept [m14, m6] w10 w11 → F1 [Lf.sl a2 m16 m17, Lf.int IntKind.i64 (x1 + 1)] w11 ∧ F2 [Lf.sl a2 m16 m17, Lf.int IntKind.i64 (x1 +
    1)] < F2 [Lf.sl a1 m2 m3, Lf.int IntKind.i64 x1])) ∧ ((↑m2 : Int) - (1 : Int) < 0 → ∀ (m19 : Nat), w5.heap.size ≤ m19 → ∀ (w12 : World), Kept [m19, m6] w5 w12 → w12.heap[m19]?
    = some (Obj.cells #[Value.int IntKind.i64 x2, Value.int IntKind.i64 x3] 47) → RunsTo Tryz.prog (Builtin.append_ #[167, 167] 167 #[Value.slice a1 m2 m3, Value.slice (some
    { block := m19, off := 0 }) 1 1]) w12 fun (v3 : Value) (w13 : World) => ∃ (a3 : Option Addr), ∃ (m21 : Nat), ∃ (m22 : Nat), v3 = Value.slice a3 m21 m22 ∧ KeepX false
    w.heap.size [m19, m6] (fun _ => False) w12 w13 ∧ (-9223372036854775808 ≤ x1 + 1 ∧ x1 + (1 : Int) ≤ 9223372036854775807) ∧ ∀ (w14 : World), Kept [m19, m6] w13 w14 → F1 [Lf.sl a3
    m21 m22, Lf.int IntKind.i64 (x1 + 1)] w14 ∧ F2 [Lf.sl a3 m21 m22, Lf.int IntKind.i64 (x1 + 1)] < F2 [Lf.sl a1 m2 m3, Lf.int IntKind.i64 x1])) ∧ ((↑ln : Int) ≤ x1 → ∀ (w15 :
    World), Kept [] w5 w15 → R (Ending.returned (Value.slice a1 m2 m3)) w15)) : Calls Tryz.prog 71 #[Value.slice la ln lc] w R := calls_of_vc (pure := false) (wrapAt := []) (muts
    := []) (esc := []) (args := [SV.pv (PV.one (Lf.sl la ln lc))]) (vs := [Value.slice la ln lc]) Tryz.func71 rfl rfl rfl (Eq.mp (by kernel_rfl) h) 
end Go.Proofs
end
