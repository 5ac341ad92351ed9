/- Part 4: own lemmas, and the conditions of the functions. -/
import Derived.Test.YtmbdiifcfcpibaaProg
import Derived.Lib.AppendZerosOnto
import Derived.Test.YtmbdiifcfcpibaaP03
section
/- The conditions of the functions, printed by program; each is what the generator reckons (kernel_rfl). -/
namespace Go.Proofs
open Go.Vc
set_option maxRecDepth 100000 in
set_option maxHeartbeats 2000000 in
theorem vc86 (sa : Option Addr) (sn : Nat) (sc : Nat) (ff : Nat) (fi : List Value) (fc : List Value) (w : World) (R : Ending → World → Prop) (h : ∀ (w1 : World), RowKit.Below
    w.heap.size w w1 → Kept [] w w1 → Calls Try.prog 96 #[Value.slice sa sn sc, Value.func (Fn.func ff) fi.toArray fc.toArray] w1 fun (e1 : Ending) (w2 : World) => ∃ (x1 : Int), e1
    = Ending.returned (Value.int IntKind.i64 x1) ∧ KeepX true w.heap.size [] (fun _ => False) w1 w2 ∧ ∀ (w3 : World), RowKit.Below w.heap.size w w3 → Kept [] w2 w3 → R
    (Ending.returned (Value.bool (decide (0 ≤ x1)))) w3) : Calls Try.prog 86 #[Value.slice sa sn sc, Value.func (Fn.func ff) fi.toArray fc.toArray] w R := calls_of_vc (pure :=
    true) (wrapAt := []) (muts := []) (esc := []) (args := [SV.pv (PV.one (Lf.sl sa sn sc)), SV.pv (PV.one (Lf.fv ff fi fc))]) (vs := [Value.slice sa sn sc, Value.func (Fn.func ff)
    fi.toArray fc.toArray]) Try.func86 rfl rfl rfl (Eq.mp (by kernel_rfl) h) 
set_option maxRecDepth 100000 in
set_option maxHeartbeats 2000000 in
theorem vc96 (sa : Option Addr) (sn : Nat) (sc : Nat) (ff : Nat) (fi : List Value) (fc : List Value) (w : World) (R : Ending → World → Prop) (h : ∃ (F1 : List Lf → World → Prop), ∃
    (F2 : List Lf → Nat), (∀ (w2 : World), RowKit.Below w.heap.size w w2 → Kept [] w w2 → F1 [Lf.int IntKind.i64 0, Lf.int IntKind.i64 0] w2) ∧ ∀ (x1 x2 : Int) (w3 : World),
    RowKit.Below w.heap.size w w3 → F1 [Lf.int IntKind.i64 x1, Lf.int IntKind.i64 x2] w3 → (x2 < (↑sn : Int) → ∃ (m1 : Nat), ∃ (m2 : Nat), sa = some { block := m1, off := m2 } ∧ (0
    ≤ x2 ∧ x2 < (↑sn : Int)) ∧ ∃ (x3 : Int), w3.cell? { block := m1, off := m2 + x2.toNat * 1 } = some (Value.int IntKind.i64 x3) ∧ Callable Try.prog ff ∧ ∀ (w4 : World),
    RowKit.Below w.heap.size w w4 → Kept [] w3 w4 → Calls Try.prog ff (fi ++ [Value.int IntKind.i64 x3] ++ fc).toArray w4 fun (e1 : Ending) (w5 : World) => ∃ (t1 : Bool), e1 =
    Ending.returned (Value.bool t1) ∧ KeepX true w.heap.size [] (fun _ => False) w4 w5 ∧ (t1 = true → ∀ (w6 : World), RowKit.Below w.heap.size w w6 → Kept [] w5 w6 → R
    (Ending.returned (Value.int IntKind.i64 x2)) w6) ∧ (t1 = false → (-9223372036854775808 ≤ x2 + 1 ∧ x2 + (1 : Int) ≤ 9223372036854775807) ∧ ∀ (w7 : World), RowKit.Below
    w.heap.size w w7 → Kept [] w5 w7 → F1 [Lf.int IntKind.i64 x1, Lf.int IntKind.i64 (x2 + 1)] w7 ∧ F2 [Lf.int IntKind.i64 x1, Lf.int IntKind.i64 (x2 + 1)] < F2 [Lf.int IntKind.i64
    x1, Lf.int IntKind.i64 x2])) ∧ ((↑sn : Int) ≤ x2 → ∀ (w8 : World), RowKit.Below w.heap.size w w8 → Kept [] w3 w8 → R (Ending.returned (Value.int IntKind.i64 (-1))) w8)) : Calls
    Try.prog 96 #[Value.slice sa sn sc, Value.func (Fn.func ff) fi.toArray fc.toArray] w R := calls_of_vc (pure := true) (wrapAt := []) (muts := []) (esc := []) (args := [SV.pv
    (PV.one (Lf.sl sa sn sc)), SV.pv (PV.one (Lf.fv ff fi fc))]) (vs := [Value.slice sa sn sc, Value.func (Fn.func ff) fi.toArray fc.toArray]) Try.func96 rfl rfl rfl (Eq.mp (by
    kernel_rfl) h) 
set_option maxRecDepth 100000 in
set_option maxHeartbeats 2000000 in
theorem vc87 (n : Int) (cap0b : Nat) (cap1b : Nat) (w : World) (R : Ending → World → Prop) (h : ∃ (x1 : Int), w.cell? { block := cap0b, off := 0 } = some (Value.int IntKind.i64 x1)
    ∧ (n < x1 → ∀ (w1 : World), RowKit.Below w.heap.size w w1 → Kept [] w w1 → R (Ending.returned (Value.bool true)) w1) ∧ (x1 ≤ n → ∃ (x2 : Int), w.cell?
    { block := cap1b, off := 0 } = some (Value.int IntKind.i64 x2) ∧ ∀ (w2 : World), RowKit.Below w.heap.size w w2 → Kept [] w w2 → R (Ending.returned (Value.bool (decide (x2 <
    n)))) w2)) : Calls Try.prog 87 #[Value.int IntKind.i64 n, Value.pointer (some { block := cap0b, off := 0 }), Value.pointer (some { block := cap1b, off := 0 })] w R :=
    calls_of_vc (pure := true) (wrapAt := []) (muts := []) (esc := []) (args := [SV.pv (PV.one (Lf.int IntKind.i64 n)), SV.pv (PV.one (Lf.ptr cap0b 0)), SV.pv (PV.one (Lf.ptr cap1b
    0))]) (vs := [Value.int IntKind.i64 n, Value.pointer (some { block := cap0b, off := 0 }), Value.pointer (some { block := cap1b, off := 0 })]) Try.func87 rfl rfl rfl (Eq.mp (by
    kernel_rfl) h) 
set_option maxRecDepth 100000 in
set_option maxHeartbeats 2000000 in
theorem vc51 (least : Int) (most : Int) (la : Option Addr) (ln : Nat) (lc : Nat) (w : World) (R : Ending → World → Prop) (h : ∀ (m1 : Nat), w.heap.size ≤ m1 → ∀ (m2 : Nat),
    w.heap.size ≤ m2 → ∀ (w1 : World), RowKit.Below w.heap.size w w1 → Kept [m2, m1] w w1 → w1.heap[m1]? = some (Obj.cells #[Value.int IntKind.i64 least] 3) → w1.heap[m2]? = some
    (Obj.cells #[Value.int IntKind.i64 most] 3) → Calls Try.prog 86 #[Value.slice la ln lc, Value.func (Fn.func 87) #[] #[Value.pointer (some { block := m1, off := 0 }),
    Value.pointer (some { block := m2, off := 0 })]] w1 fun (e1 : Ending) (w2 : World) => ∃ (t1 : Bool), e1 = Ending.returned (Value.bool t1) ∧ KeepX true w.heap.size [m2, m1] (fun _ => False) w1 w2 ∧ ∀ (w3 : World), RowKit.Below w.heap.size w w3 → Kept [m2, m1] w2 w3 → R (Ending.returned (Value.bool !t1)) w3) : Calls Try.prog 51 #[Value.int
    IntKind.i64 least, Value.int IntKind.i64 most, Value.slice la ln lc] w R := calls_of_vc (pure := true) (wrapAt := []) (muts := []) (esc := []) (args := [SV.pv (PV.one (Lf.int
    IntKind.i64 least)), SV.pv (PV.one (Lf.int IntKind.i64 most)), SV.pv (PV.one (Lf.sl la ln lc))]) (vs := [Value.int IntKind.i64 least, Value.int IntKind.i64 most, Value.slice la
    ln lc]) Try.func51 rfl rfl rfl (Eq.mp (by kernel_rfl) h) 
set_option maxRecDepth 100000 in
set_option maxHeartbeats 2000000 in
theorem vc52 (s0 : Int) (s1 : Int) (least : Int) (most : Int) (w : World) (R : Ending → World → Prop) (h : ∀ (m1 : Nat), w.heap.size ≤ m1 → (s0 ≤ s1 → ∀ (m2 : Nat), w.heap.size ≤
    m2 → ∀ (w1 : World), RowKit.Below w.heap.size w w1 → Kept [m2, m1] w w1 → w1.heap[m2]? = some (Obj.cells #[Value.int IntKind.i64 s0, Value.int IntKind.i64 s1] 3) → Calls
    Try.prog 51 #[Value.int IntKind.i64 least, Value.int IntKind.i64 most, Value.slice (some { block := m2, off := 0 }) 2 2] w1 fun (e1 : Ending) (w2 : World) => ∃ (t1 : Bool), e1
    = Ending.returned (Value.bool t1) ∧ KeepX true w.heap.size [m2, m1] (fun _ => False) w1 w2 ∧ ∀ (w3 : World), RowKit.Below w.heap.size w w3 → Kept [m2, m1] w2 w3 → R
    (Ending.returned (Value.bool t1)) w3) ∧ (s1 < s0 → ∀ (w4 : World), RowKit.Below w.heap.size w w4 → Kept [m1] w w4 → R (Ending.returned (Value.bool false)) w4)) : Calls Try.prog
    52 #[Value.agg #[Value.int IntKind.i64 s0, Value.int IntKind.i64 s1], Value.int IntKind.i64 least, Value.int IntKind.i64 most] w R := calls_of_vc (pure := true) (wrapAt := [])
    (muts := []) (esc := []) (args := [SV.pv (PV.agg [Lf.int IntKind.i64 s0, Lf.int IntKind.i64 s1]), SV.pv (PV.one (Lf.int IntKind.i64 least)), SV.pv (PV.one (Lf.int IntKind.i64
    most))]) (vs := [Value.agg #[Value.int IntKind.i64 s0, Value.int IntKind.i64 s1], Value.int IntKind.i64 least, Value.int IntKind.i64 most]) Try.func52 rfl rfl rfl (Eq.mp (by
    kernel_rfl) h) 
set_option maxRecDepth 100000 in
set_option maxHeartbeats 2000000 in
theorem vc83 (s0 : Int) (s1 : Int) (n : Int) (w : World) (R : Ending → World → Prop) (h : ∀ (m1 : Nat), w.heap.size ≤ m1 → ∀ (m2 : Nat), w.heap.size ≤ m2 → ∀ (w1 : World),
    RowKit.Below w.heap.size w w1 → Kept [m2, m1] w w1 → w1.heap[m2]? = some (Obj.cells #[Value.int IntKind.i64 n] 3) → Calls Try.prog 51 #[Value.int IntKind.i64 s0, Value.int
    IntKind.i64 s1, Value.slice (some { block := m2, off := 0 }) 1 1] w1 fun (e1 : Ending) (w2 : World) => ∃ (t1 : Bool), e1 = Ending.returned (Value.bool t1) ∧ KeepX true
    w.heap.size [m2, m1] (fun _ => False) w1 w2 ∧ ∀ (w3 : World), RowKit.Below w.heap.size w w3 → Kept [m2, m1] w2 w3 → R (Ending.returned (Value.bool t1)) w3) : Calls
    Try.prog 83 #[Value.agg #[Value.int IntKind.i64 s0, Value.int IntKind.i64 s1], Value.int IntKind.i64 n] w R := calls_of_vc (pure := true) (wrapAt := []) (muts := []) (esc :=
    []) (args := [SV.pv (PV.agg [Lf.int IntKind.i64 s0, Lf.int IntKind.i64 s1]), SV.pv (PV.one (Lf.int IntKind.i64 n))]) (vs := [Value.agg #[Value.int IntKind.i64 s0, Value.int
    IntKind.i64 s1], Value.int IntKind.i64 n]) Try.func83 rfl rfl rfl (Eq.mp (by kernel_rfl) h) 
set_option maxRecDepth 100000 in
set_option maxHeartbeats 2000000 in
theorem vc65 (n : Int) (w : World) (R : Ending → World → Prop) (h : ∀ (m1 : Nat), w.heap.size ≤ m1 → ∀ (w1 : World), RowKit.Below w.heap.size w w1 → Kept [m1] w w1 → R
    (Ending.returned (Value.agg #[Value.int IntKind.i64 n, Value.int IntKind.i64 n])) w1) : Calls Try.prog 65 #[Value.int IntKind.i64 n] w R := calls_of_vc (pure := true) (wrapAt
    := []) (muts := []) (esc := []) (args := [SV.pv (PV.one (Lf.int IntKind.i64 n))]) (vs := [Value.int IntKind.i64 n]) Try.func65 rfl rfl rfl (Eq.mp (by kernel_rfl) h) 
set_option maxRecDepth 100000 in
set_option maxHeartbeats 2000000 in
theorem vc67 (s0 : Int) (s1 : Int) (t0 : Int) (t1 : Int) (w : World) (R : Ending → World → Prop) (h : ∀ (m1 : Nat), w.heap.size ≤ m1 → ∀ (m2 : Nat), w.heap.size ≤ m2 → ∀ (m3 :
    Nat), w.heap.size ≤ m3 → (-9223372036854775808 ≤ s0 + t0 ∧ s0 + t0 ≤ 9223372036854775807) ∧ (-9223372036854775808 ≤ s1 + t1 ∧ s1 + t1 ≤ 9223372036854775807) ∧ ∀ (w1 : World),
    RowKit.Below w.heap.size w w1 → Kept [m3, m2, m1] w w1 → R (Ending.returned (Value.agg #[Value.int IntKind.i64 (s0 + t0), Value.int IntKind.i64 (s1 + t1)])) w1) : Calls
    Try.prog 67 #[Value.agg #[Value.int IntKind.i64 s0, Value.int IntKind.i64 s1], Value.agg #[Value.int IntKind.i64 t0, Value.int IntKind.i64 t1]] w R := calls_of_vc (pure :=
    true) (wrapAt := []) (muts := []) (esc := []) (args := [SV.pv (PV.agg [Lf.int IntKind.i64 s0, Lf.int IntKind.i64 s1]), SV.pv (PV.agg [Lf.int IntKind.i64 t0, Lf.int IntKind.i64
    t1])]) (vs := [Value.agg #[Value.int IntKind.i64 s0, Value.int IntKind.i64 s1], Value.agg #[Value.int IntKind.i64 t0, Value.int IntKind.i64 t1]]) Try.func67 rfl rfl rfl (Eq.mp
    (by kernel_rfl) h) 
set_option maxRecDepth 100000 in
set_option maxHeartbeats 2000000 in
theorem vc62 (s0 : Int) (s1 : Int) (t0 : Int) (t1 : Int) (w : World) (R : Ending → World → Prop) (h : ∀ (m1 : Nat), w.heap.size ≤ m1 → ∀ (m2 : Nat), w.heap.size ≤ m2 → ∀ (m3 :
    Nat), w.heap.size ≤ m3 → ∀ (w1 : World), RowKit.Below w.heap.size w w1 → KeptIn [(0, w.heap.size)] [m3, m2, m1] w w1 → Calls Try.prog 65 #[Value.int IntKind.i64 (-1)] w1 fun
    (e1 : Ending) (w2 : World) => ∃ (x1 : Int), ∃ (x2 : Int), e1 = Ending.returned (Value.agg #[Value.int IntKind.i64 x1, Value.int IntKind.i64 x2]) ∧ KeepX true w.heap.size [m3,
    m2, m1] (fun _ => False) w1 w2 ∧ ∀ (w3 : World), RowKit.Below w.heap.size w w3 → KeptIn [(0, w2.heap.size)] [m3, m2, m1] w2 w3 → Calls Try.prog 64 #[Value.agg
    #[Value.int IntKind.i64 t0, Value.int IntKind.i64 t1], Value.agg #[Value.int IntKind.i64 x1, Value.int IntKind.i64 x2]] w3 fun (e2 : Ending) (w4 : World) => ∃ (x3 : Int), ∃ (x4
    : Int), e2 = Ending.returned (Value.agg #[Value.int IntKind.i64 x3, Value.int IntKind.i64 x4]) ∧ KeepX true w.heap.size [m3, m2, m1] (fun _ => False) w3 w4 ∧ ∀ (w5 :
    World), RowKit.Below w.heap.size w w5 → KeptIn [(0, w4.heap.size)] [m3, m2, m1] w4 w5 → Calls Try.prog 67 #[Value.agg #[Value.int IntKind.i64 s0, Value.int IntKind.i64 s1],
    Value.agg #[Value.int IntKind.i64 x3, Value.int IntKind.i64 x4]] w5 fun (e3 : Ending) (w6 : World) => ∃ (x5 : Int), ∃ (x6 : Int), e3 = Ending.returned (Value.agg #[Value.int
    IntKind.i64 x5, Value.int IntKind.i64 x6]) ∧ KeepX true w.heap.size [m3, m2, m1] (fun _ => False) w5 w6 ∧ ∀ (w7 : World), RowKit.Below w.heap.size w w7 → Kept [m3, m2,
    m1] w6 w7 → R (Ending.returned (Value.agg #[Value.int IntKind.i64 x5, Value.int IntKind.i64 x6])) w7) : Calls Try.prog 62 #[Value.agg #[Value.int IntKind.i64 s0, Value.int
    IntKind.i64 s1], Value.agg #[Value.int IntKind.i64 t0, Value.int IntKind.i64 t1]] w R := calls_of_vc (pure := true) (wrapAt := []) (muts := []) (esc := []) (args := [SV.pv
    (PV.agg [Lf.int IntKind.i64 s0, Lf.int IntKind.i64 s1]), SV.pv (PV.agg [Lf.int IntKind.i64 t0, Lf.int IntKind.i64 t1])]) (vs := [Value.agg #[Value.int IntKind.i64 s0, Value.int
    IntKind.i64 s1], Value.agg #[Value.int IntKind.i64 t0, Value.int IntKind.i64 t1]]) Try.func62 rfl rfl rfl (Eq.mp (by kernel_rfl) h) 
set_option maxRecDepth 100000 in
set_option maxHeartbeats 2000000 in
theorem vc63 (s0 : Int) (s1 : Int) (w : World) (R : Ending → World → Prop) (h : ∀ (m1 : Nat), w.heap.size ≤ m1 → ∀ (m2 : Nat), w.heap.size ≤ m2 → (-9223372036854775808 ≤ s0 * s0 ∧
    s0 * s0 ≤ 9223372036854775807) ∧ (-9223372036854775808 ≤ s1 * s1 ∧ s1 * s1 ≤ 9223372036854775807) ∧ ∀ (w1 : World), RowKit.Below w.heap.size w w1 → Kept [m2, m1] w w1 → R
    (Ending.returned (Value.agg #[Value.int IntKind.i64 (s0 * s0), Value.int IntKind.i64 (s1 * s1)])) w1) : Calls Try.prog 63 #[Value.agg #[Value.int IntKind.i64 s0, Value.int
    IntKind.i64 s1]] w R := calls_of_vc (pure := true) (wrapAt := []) (muts := []) (esc := []) (args := [SV.pv (PV.agg [Lf.int IntKind.i64 s0, Lf.int IntKind.i64 s1])]) (vs :=
    [Value.agg #[Value.int IntKind.i64 s0, Value.int IntKind.i64 s1]]) Try.func63 rfl rfl rfl (Eq.mp (by kernel_rfl) h) 
set_option maxRecDepth 100000 in
set_option maxHeartbeats 2000000 in
theorem vc64 (s0 : Int) (s1 : Int) (t0 : Int) (t1 : Int) (w : World) (R : Ending → World → Prop) (h : ∀ (m1 : Nat), w.heap.size ≤ m1 → ∀ (m2 : Nat), w.heap.size ≤ m2 → ∀ (m3 :
    Nat), w.heap.size ≤ m3 → (-9223372036854775808 ≤ s0 * t0 ∧ s0 * t0 ≤ 9223372036854775807) ∧ (-9223372036854775808 ≤ s0 * t1 ∧ s0 * t1 ≤ 9223372036854775807) ∧
    (-9223372036854775808 ≤ s1 * t0 ∧ s1 * t0 ≤ 9223372036854775807) ∧ (-9223372036854775808 ≤ s1 * t1 ∧ s1 * t1 ≤ 9223372036854775807) ∧ ∀ (m4 : Nat), w.heap.size ≤ m4 → ∀ (w1 :
    World), RowKit.Below w.heap.size w w1 → Kept [m4, m3, m2, m1] w w1 → w1.heap[m4]? = some (Obj.cells #[Value.int IntKind.i64 (s0 * t0), Value.int IntKind.i64 (s0 * t1),
    Value.int IntKind.i64 (s1 * t0), Value.int IntKind.i64 (s1 * t1)] 3) → Calls Try.prog 91 #[Value.slice (some { block := m4, off := 0 }) 4 4] w1 fun (e1 : Ending) (w2 : World)
    => ∃ (x1 : Int), e1 = Ending.returned (Value.int IntKind.i64 x1) ∧ KeepX true w.heap.size [m4, m3, m2, m1] (fun _ => False) w1 w2 ∧ ∀ (w3 : World), RowKit.Below
    w.heap.size w w3 → Kept [m4, m3, m2, m1] w2 w3 → w3.heap[m4]? = some (Obj.cells #[Value.int IntKind.i64 (s0 * t0), Value.int IntKind.i64 (s0 * t1), Value.int IntKind.i64 (s1 *
    t0), Value.int IntKind.i64 (s1 * t1)] 3) → Calls Try.prog 92 #[Value.slice (some { block := m4, off := 0 }) 4 4] w3 fun (e2 : Ending) (w4 : World) => ∃ (x2 : Int), e2 =
    Ending.returned (Value.int IntKind.i64 x2) ∧ KeepX true w.heap.size [m4, m3, m2, m1] (fun _ => False) w3 w4 ∧ ∀ (w5 : World), RowKit.Below w.heap.size w w5 → Kept [m4,
    m3, m2, m1] w4 w5 → R (Ending.returned (Value.agg #[Value.int IntKind.i64 x1, Value.int IntKind.i64 x2])) w5) : Calls Try.prog 64 #[Value.agg #[Value.int IntKind.i64 s0,
    Value.int IntKind.i64 s1], Value.agg #[Value.int IntKind.i64 t0, Value.int IntKind.i64 t1]] w R := calls_of_vc (pure := true) (wrapAt := []) (muts := []) (esc := []) (args :=
    [SV.pv (PV.agg [Lf.int IntKind.i64 s0, Lf.int IntKind.i64 s1]), SV.pv (PV.agg [Lf.int IntKind.i64 t0, Lf.int IntKind.i64 t1])]) (vs := [Value.agg #[Value.int IntKind.i64 s0,
    Value.int IntKind.i64 s1], Value.agg #[Value.int IntKind.i64 t0, Value.int IntKind.i64 t1]]) Try.func64 rfl rfl rfl (Eq.mp (by kernel_rfl) h) 
set_option maxRecDepth 100000 in
set_option maxHeartbeats 2000000 in
theorem vc91 (xa : Option Addr) (xn : Nat) (xc : Nat) (w : World) (R : Ending → World → Prop) (h : ((↑xn : Int) < 1 → ∀ (w1 : World), RowKit.Below w.heap.size w w1 → Kept [] w w1 →
    RunsTo Try.prog (Instr.makeInterface 9 (Value.string { data := #[115, 108, 105, 99, 101, 115, 46, 77, 105, 110, 58, 32, 101, 109, 112, 116, 121, 32, 108, 105, 115, 116] })) w1
    fun (v1 : Value) (w2 : World) => ∃ (v2 : Value), v1 = v2 ∧ KeepX true w.heap.size [] (fun _ => False) w1 w2 ∧ Unsup "an operation that is not plain") ∧ (1 ≤ (↑xn :
    Int) → ∃ (m2 : Nat), ∃ (m3 : Nat), xa = some { block := m2, off := m3 } ∧ ((0 : Int) ≤ 0 ∧ 0 < (↑xn : Int)) ∧ ∃ (x1 : Int), w.cell? { block := m2, off := m3 + Int.toNat 0 * 1 }
    = some (Value.int IntKind.i64 x1) ∧ ∃ (F1 : List Lf → World → Prop), ∃ (F2 : List Lf → Nat), (∀ (w4 : World), RowKit.Below w.heap.size w w4 → Kept [] w w4 → F1 [Lf.int
    IntKind.i64 x1, Lf.int IntKind.i64 1] w4) ∧ ∀ (x2 x3 : Int) (w5 : World), RowKit.Below w.heap.size w w5 → F1 [Lf.int IntKind.i64 x2, Lf.int IntKind.i64 x3] w5 → (x3 < (↑xn :
    Int) → ∃ (m4 : Nat), ∃ (m5 : Nat), xa = some { block := m4, off := m5 } ∧ (0 ≤ x3 ∧ x3 < (↑xn : Int)) ∧ ∃ (x4 : Int), w5.cell? { block := m4, off := m5 + x3.toNat * 1 } = some
    (Value.int IntKind.i64 x4) ∧ (-9223372036854775808 ≤ x3 + 1 ∧ x3 + (1 : Int) ≤ 9223372036854775807) ∧ ∀ (w6 : World), RowKit.Below w.heap.size w w6 → Kept [] w5 w6 → F1 [Lf.int
    IntKind.i64 (min x2 x4), Lf.int IntKind.i64 (x3 + 1)] w6 ∧ F2 [Lf.int IntKind.i64 (min x2 x4), Lf.int IntKind.i64 (x3 + 1)] < F2 [Lf.int IntKind.i64 x2, Lf.int IntKind.i64 x3])
    ∧ ((↑xn : Int) ≤ x3 → ∀ (w7 : World), RowKit.Below w.heap.size w w7 → Kept [] w5 w7 → R (Ending.returned (Value.int IntKind.i64 x2)) w7))) : Calls Try.prog 91 #[Value.slice xa
    xn xc] w R := calls_of_vc (pure := true) (wrapAt := []) (muts := []) (esc := []) (args := [SV.pv (PV.one (Lf.sl xa xn xc))]) (vs := [Value.slice xa xn xc]) Try.func91 rfl rfl
    rfl (Eq.mp (by kernel_rfl) h) 
set_option maxRecDepth 100000 in
set_option maxHeartbeats 2000000 in
theorem vc92 (xa : Option Addr) (xn : Nat) (xc : Nat) (w : World) (R : Ending → World → Prop) (h : ((↑xn : Int) < 1 → ∀ (w1 : World), RowKit.Below w.heap.size w w1 → Kept [] w w1 →
    RunsTo Try.prog (Instr.makeInterface 9 (Value.string { data := #[115, 108, 105, 99, 101, 115, 46, 77, 97, 120, 58, 32, 101, 109, 112, 116, 121, 32, 108, 105, 115, 116] })) w1
    fun (v1 : Value) (w2 : World) => ∃ (v2 : Value), v1 = v2 ∧ KeepX true w.heap.size [] (fun _ => False) w1 w2 ∧ Unsup "an operation that is not plain") ∧ (1 ≤ (↑xn :
    Int) → ∃ (m2 : Nat), ∃ (m3 : Nat), xa = some { block := m2, off := m3 } ∧ ((0 : Int) ≤ 0 ∧ 0 < (↑xn : Int)) ∧ ∃ (x1 : Int), w.cell? { block := m2, off := m3 + Int.toNat 0 * 1 }
    = some (Value.int IntKind.i64 x1) ∧ ∃ (F1 : List Lf → World → Prop), ∃ (F2 : List Lf → Nat), (∀ (w4 : World), RowKit.Below w.heap.size w w4 → Kept [] w w4 → F1 [Lf.int
    IntKind.i64 x1, Lf.int IntKind.i64 1] w4) ∧ ∀ (x2 x3 : Int) (w5 : World), RowKit.Below w.heap.size w w5 → F1 [Lf.int IntKind.i64 x2, Lf.int IntKind.i64 x3] w5 → (x3 < (↑xn :
    Int) → ∃ (m4 : Nat), ∃ (m5 : Nat), xa = some { block := m4, off := m5 } ∧ (0 ≤ x3 ∧ x3 < (↑xn : Int)) ∧ ∃ (x4 : Int), w5.cell? { block := m4, off := m5 + x3.toNat * 1 } = some
    (Value.int IntKind.i64 x4) ∧ (-9223372036854775808 ≤ x3 + 1 ∧ x3 + (1 : Int) ≤ 9223372036854775807) ∧ ∀ (w6 : World), RowKit.Below w.heap.size w w6 → Kept [] w5 w6 → F1 [Lf.int
    IntKind.i64 (max x2 x4), Lf.int IntKind.i64 (x3 + 1)] w6 ∧ F2 [Lf.int IntKind.i64 (max x2 x4), Lf.int IntKind.i64 (x3 + 1)] < F2 [Lf.int IntKind.i64 x2, Lf.int IntKind.i64 x3])
    ∧ ((↑xn : Int) ≤ x3 → ∀ (w7 : World), RowKit.Below w.heap.size w w7 → Kept [] w5 w7 → R (Ending.returned (Value.int IntKind.i64 x2)) w7))) : Calls Try.prog 92 #[Value.slice xa
    xn xc] w R := calls_of_vc (pure := true) (wrapAt := []) (muts := []) (esc := []) (args := [SV.pv (PV.one (Lf.sl xa xn xc))]) (vs := [Value.slice xa xn xc]) Try.func92 rfl rfl
    rfl (Eq.mp (by kernel_rfl) h) 
set_option maxRecDepth 100000 in
set_option maxHeartbeats 2000000 in
theorem vc93 (r0 : Int) (r1 : Int) (r2 : Int) (r3 : Bool) (w : World) (R : Ending → World → Prop) (h : ∀ (m1 : Nat), w.heap.size ≤ m1 → (r3 = true → ∀ (w1 : World), RowKit.Below
    w.heap.size w w1 → Kept [m1] w w1 → R (Ending.returned (Value.int IntKind.i64 (-1))) w1) ∧ (r3 = false → ∀ (w2 : World), RowKit.Below w.heap.size w w2 → Kept [m1] w w2 → R
    (Ending.returned (Value.int IntKind.i64 1)) w2)) : Calls Try.prog 93 #[Value.agg #[Value.int IntKind.i64 r0, Value.int IntKind.i64 r1, Value.int IntKind.i64 r2, Value.bool r3]]
    w R := calls_of_vc (pure := true) (wrapAt := []) (muts := []) (esc := []) (args := [SV.pv (PV.agg [Lf.int IntKind.i64 r0, Lf.int IntKind.i64 r1, Lf.int IntKind.i64 r2, Lf.bool
    r3])]) (vs := [Value.agg #[Value.int IntKind.i64 r0, Value.int IntKind.i64 r1, Value.int IntKind.i64 r2, Value.bool r3]]) Try.func93 rfl rfl rfl (Eq.mp (by kernel_rfl) h) 
set_option maxRecDepth 100000 in
set_option maxHeartbeats 2000000 in
theorem vc66 (c0 : Int) (c1 : Int) (c2a : Option Addr) (c2n : Nat) (c2c : Nat) (c3 : Int) (c4 : Int) (c5 : Int) (c6 : Int) (w : World) (R : Ending → World → Prop) (h : ∀ (m1 :
    Nat), w.heap.size ≤ m1 → ∃ (F1 : List Lf → World → Prop), ∃ (F2 : List Lf → Nat), (∀ (w2 : World), RowKit.Below w.heap.size w w2 → Kept [m1] w w2 → F1 [Lf.int IntKind.i64 0,
    Lf.int IntKind.i64 0] w2) ∧ ∀ (x1 x2 : Int) (w3 : World), RowKit.Below w.heap.size w w3 → F1 [Lf.int IntKind.i64 x1, Lf.int IntKind.i64 x2] w3 → (x2 < (↑c2n : Int) → ∃ (m2 :
    Nat), ∃ (m3 : Nat), c2a = some { block := m2, off := m3 } ∧ (0 ≤ x2 ∧ x2 < (↑c2n : Int)) ∧ ∃ (x3 : Int), ∃ (x4 : Int), ∃ (x5 : Int), ∃ (t1 : Bool), w3.cell?
    { block := m2, off := m3 + x2.toNat * 4 } = some (Value.int IntKind.i64 x3) ∧ w3.cell? { block := m2, off := m3 + x2.toNat * 4 + 1 } = some (Value.int IntKind.i64 x4) ∧
    w3.cell? { block := m2, off := m3 + x2.toNat * 4 + 1 + 1 } = some (Value.int IntKind.i64 x5) ∧ w3.cell? { block := m2, off := m3 + x2.toNat * 4 + 1 + 1 + 1 } = some (Value.bool
    t1) ∧ (m2 < w.heap.size ∨ m2 ≠ m1) ∧ ∀ (m4 : Nat), w3.heap.size ≤ m4 → ∀ (w4 : World), RowKit.Below w.heap.size w w4 → KeptIn [(0, w3.heap.size)] [m4, m1] w3 w4 → Calls
    Try.prog 93 #[Value.agg #[Value.int IntKind.i64 x3, Value.int IntKind.i64 x4, Value.int IntKind.i64 x5, Value.bool t1]] w4 fun (e1 : Ending) (w5 : World) => ∃ (x6 : Int), e1 =
    Ending.returned (Value.int IntKind.i64 x6) ∧ KeepX true w.heap.size [m4, m1] (fun _ => False) w4 w5 ∧ (-9223372036854775808 ≤ x6 * x3 ∧ x6 * x3 ≤ 9223372036854775807)
    ∧ (-9223372036854775808 ≤ x1 + x6 * x3 ∧ x1 + x6 * x3 ≤ 9223372036854775807) ∧ (-9223372036854775808 ≤ x2 + 1 ∧ x2 + (1 : Int) ≤ 9223372036854775807) ∧ ∀ (w6 : World),
    RowKit.Below w.heap.size w w6 → Kept [m4, m1] w5 w6 → F1 [Lf.int IntKind.i64 (x1 + x6 * x3), Lf.int IntKind.i64 (x2 + 1)] w6 ∧ F2 [Lf.int IntKind.i64 (x1 + x6 * x3), Lf.int
    IntKind.i64 (x2 + 1)] < F2 [Lf.int IntKind.i64 x1, Lf.int IntKind.i64 x2]) ∧ ((↑c2n : Int) ≤ x2 → ∀ (w7 : World), RowKit.Below w.heap.size w w7 → Kept [m1] w3 w7 → R
    (Ending.returned (Value.int IntKind.i64 x1)) w7)) : Calls Try.prog 66 #[Value.agg #[Value.int IntKind.i64 c0, Value.int IntKind.i64 c1, Value.slice c2a c2n c2c, Value.int
    IntKind.i64 c3, Value.int IntKind.i64 c4, Value.int IntKind.i64 c5, Value.int IntKind.i64 c6]] w R := calls_of_vc (pure := true) (wrapAt := []) (muts := []) (esc := []) (args
    := [SV.pv (PV.agg [Lf.int IntKind.i64 c0, Lf.int IntKind.i64 c1, Lf.sl c2a c2n c2c, Lf.int IntKind.i64 c3, Lf.int IntKind.i64 c4, Lf.int IntKind.i64 c5, Lf.int IntKind.i64
    c6])]) (vs := [Value.agg #[Value.int IntKind.i64 c0, Value.int IntKind.i64 c1, Value.slice c2a c2n c2c, Value.int IntKind.i64 c3, Value.int IntKind.i64 c4, Value.int
    IntKind.i64 c5, Value.int IntKind.i64 c6]]) Try.func66 rfl rfl rfl (Eq.mp (by kernel_rfl) h) 
set_option maxRecDepth 100000 in
set_option maxHeartbeats 2000000 in
theorem vc47 (sa : Option Addr) (sn : Nat) (sc : Nat) (ff : Nat) (fi : List Value) (fc : List Value) (w : World) (R : Ending → World → Prop) (h : ∀ (w1 : World), RowKit.Below
    w.heap.size w w1 → Kept [] w w1 → Calls Try.prog 85 #[Value.slice sa sn sc, Value.func (Fn.func ff) fi.toArray fc.toArray] w1 fun (e1 : Ending) (w2 : World) => ∃ (x1 : Int), e1
    = Ending.returned (Value.int IntKind.i64 x1) ∧ KeepX true w.heap.size [] (fun _ => False) w1 w2 ∧ ∀ (w3 : World), RowKit.Below w.heap.size w w3 → Kept [] w2 w3 → R
    (Ending.returned (Value.bool (decide (0 ≤ x1)))) w3) : Calls Try.prog 47 #[Value.slice sa sn sc, Value.func (Fn.func ff) fi.toArray fc.toArray] w R := calls_of_vc (pure :=
    true) (wrapAt := []) (muts := []) (esc := []) (args := [SV.pv (PV.one (Lf.sl sa sn sc)), SV.pv (PV.one (Lf.fv ff fi fc))]) (vs := [Value.slice sa sn sc, Value.func (Fn.func ff)
    fi.toArray fc.toArray]) Try.func47 rfl rfl rfl (Eq.mp (by kernel_rfl) h) 
set_option maxRecDepth 100000 in
set_option maxHeartbeats 2000000 in
theorem vc85 (sa : Option Addr) (sn : Nat) (sc : Nat) (ff : Nat) (fi : List Value) (fc : List Value) (w : World) (R : Ending → World → Prop) (h : ∃ (F1 : List Lf → World → Prop), ∃
    (F2 : List Lf → Nat), (∀ (w2 : World), RowKit.Below w.heap.size w w2 → Kept [] w w2 → F1 [Lf.int IntKind.i64 0, Lf.int IntKind.i64 0] w2) ∧ ∀ (x1 x2 : Int) (w3 : World),
    RowKit.Below w.heap.size w w3 → F1 [Lf.int IntKind.i64 x1, Lf.int IntKind.i64 x2] w3 → (x2 < (↑sn : Int) → ∃ (m1 : Nat), ∃ (m2 : Nat), sa = some { block := m1, off := m2 } ∧ (0
    ≤ x2 ∧ x2 < (↑sn : Int)) ∧ ∃ (x3 : Int), ∃ (x4 : Int), ∃ (x5 : Int), ∃ (t1 : Bool), w3.cell? { block := m1, off := m2 + x2.toNat * 4 } = some (Value.int IntKind.i64 x3) ∧
    w3.cell? { block := m1, off := m2 + x2.toNat * 4 + 1 } = some (Value.int IntKind.i64 x4) ∧ w3.cell? { block := m1, off := m2 + x2.toNat * 4 + 1 + 1 } = some (Value.int
    IntKind.i64 x5) ∧ w3.cell? { block := m1, off := m2 + x2.toNat * 4 + 1 + 1 + 1 } = some (Value.bool t1) ∧ Callable Try.prog ff ∧ ∀ (w4 : World), RowKit.Below w.heap.size w w4 →
    Kept [] w3 w4 → Calls Try.prog ff (fi ++ [Value.agg #[Value.int IntKind.i64 x3, Value.int IntKind.i64 x4, Value.int IntKind.i64 x5, Value.bool t1]] ++ fc).toArray w4 fun (e1 :
    Ending) (w5 : World) => ∃ (t2 : Bool), e1 = Ending.returned (Value.bool t2) ∧ KeepX true w.heap.size [] (fun _ => False) w4 w5 ∧ (t2 = true → ∀ (w6 : World),
    RowKit.Below w.heap.size w w6 → Kept [] w5 w6 → R (Ending.returned (Value.int IntKind.i64 x2)) w6) ∧ (t2 = false → (-9223372036854775808 ≤ x2 + 1 ∧ x2 + (1 : Int) ≤
    9223372036854775807) ∧ ∀ (w7 : World), RowKit.Below w.heap.size w w7 → Kept [] w5 w7 → F1 [Lf.int IntKind.i64 x1, Lf.int IntKind.i64 (x2 + 1)] w7 ∧ F2 [Lf.int IntKind.i64 x1,
    Lf.int IntKind.i64 (x2 + 1)] < F2 [Lf.int IntKind.i64 x1, Lf.int IntKind.i64 x2])) ∧ ((↑sn : Int) ≤ x2 → ∀ (w8 : World), RowKit.Below w.heap.size w w8 → Kept [] w3 w8 → R
    (Ending.returned (Value.int IntKind.i64 (-1))) w8)) : Calls Try.prog 85 #[Value.slice sa sn sc, Value.func (Fn.func ff) fi.toArray fc.toArray] w R := calls_of_vc (pure := true)
    (wrapAt := []) (muts := []) (esc := []) (args := [SV.pv (PV.one (Lf.sl sa sn sc)), SV.pv (PV.one (Lf.fv ff fi fc))]) (vs := [Value.slice sa sn sc, Value.func (Fn.func ff)
    fi.toArray fc.toArray]) Try.func85 rfl rfl rfl (Eq.mp (by kernel_rfl) h) 
set_option maxRecDepth 100000 in
set_option maxHeartbeats 2000000 in
theorem vc49 (r0 : Int) (r1 : Int) (r2 : Int) (r3 : Bool) (w : World) (R : Ending → World → Prop) (h : ∀ (m1 : Nat), w.heap.size ≤ m1 → ∀ (m2 : Nat), w.heap.size ≤ m2 → ∀ (w1 :
    World), RowKit.Below w.heap.size w w1 → Kept [m2, m1] w w1 → w1.heap[m2]? = some (Obj.cells #[Value.int IntKind.i64 r0] 3) → Calls Try.prog 51 #[Value.int IntKind.i64 1,
    Value.int IntKind.i64 100000, Value.slice (some { block := m2, off := 0 }) 1 1] w1 fun (e1 : Ending) (w2 : World) => ∃ (t1 : Bool), e1 = Ending.returned (Value.bool t1) ∧ KeepX
    true w.heap.size [m2, m1] (fun _ => False) w1 w2 ∧ (t1 = true → ∀ (w3 : World), RowKit.Below w.heap.size w w3 → Kept [m2, m1] w2 w3 → Calls Try.prog 52 #[Value.agg
    #[Value.int IntKind.i64 r1, Value.int IntKind.i64 r2], Value.int IntKind.i64 0, Value.int IntKind.i64 40000] w3 fun (e2 : Ending) (w4 : World) => ∃ (t2 : Bool), e2 =
    Ending.returned (Value.bool t2) ∧ KeepX true w.heap.size [m2, m1] (fun _ => False) w3 w4 ∧ ∀ (w5 : World), RowKit.Below w.heap.size w w5 → Kept [m2, m1] w4 w5 → R
    (Ending.returned (Value.bool t2)) w5) ∧ (t1 = false → ∀ (w6 : World), RowKit.Below w.heap.size w w6 → Kept [m2, m1] w2 w6 → R (Ending.returned (Value.bool false)) w6)) : Calls
    Try.prog 49 #[Value.agg #[Value.int IntKind.i64 r0, Value.int IntKind.i64 r1, Value.int IntKind.i64 r2, Value.bool r3]] w R := calls_of_vc (pure := true) (wrapAt := []) (muts
    := []) (esc := []) (args := [SV.pv (PV.agg [Lf.int IntKind.i64 r0, Lf.int IntKind.i64 r1, Lf.int IntKind.i64 r2, Lf.bool r3])]) (vs := [Value.agg #[Value.int IntKind.i64 r0,
    Value.int IntKind.i64 r1, Value.int IntKind.i64 r2, Value.bool r3]]) Try.func49 rfl rfl rfl (Eq.mp (by kernel_rfl) h) 
set_option maxRecDepth 100000 in
set_option maxHeartbeats 2000000 in
theorem vc48 (r0 : Int) (r1 : Int) (r2 : Int) (r3 : Bool) (w : World) (R : Ending → World → Prop) (h : ∀ (m1 : Nat), w.heap.size ≤ m1 → ∀ (w1 : World), RowKit.Below w.heap.size w
    w1 → Kept [m1] w w1 → Calls Try.prog 49 #[Value.agg #[Value.int IntKind.i64 r0, Value.int IntKind.i64 r1, Value.int IntKind.i64 r2, Value.bool r3]] w1 fun (e1 : Ending) (w2 :
    World) => ∃ (t1 : Bool), e1 = Ending.returned (Value.bool t1) ∧ KeepX true w.heap.size [m1] (fun _ => False) w1 w2 ∧ ∀ (w3 : World), RowKit.Below w.heap.size w w3 →
    Kept [m1] w2 w3 → R (Ending.returned (Value.bool !t1)) w3) : Calls Try.prog 48 #[Value.agg #[Value.int IntKind.i64 r0, Value.int IntKind.i64 r1, Value.int IntKind.i64 r2,
    Value.bool r3]] w R := calls_of_vc (pure := true) (wrapAt := []) (muts := []) (esc := []) (args := [SV.pv (PV.agg [Lf.int IntKind.i64 r0, Lf.int IntKind.i64 r1, Lf.int
    IntKind.i64 r2, Lf.bool r3])]) (vs := [Value.agg #[Value.int IntKind.i64 r0, Value.int IntKind.i64 r1, Value.int IntKind.i64 r2, Value.bool r3]]) Try.func48 rfl rfl rfl (Eq.mp
    (by kernel_rfl) h) 
set_option maxRecDepth 100000 in
set_option maxHeartbeats 2000000 in
theorem vc50 (c0 : Int) (c1 : Int) (c2a : Option Addr) (c2n : Nat) (c2c : Nat) (c3 : Int) (c4 : Int) (c5 : Int) (c6 : Int) (w : World) (R : Ending → World → Prop) (h : ∀ (m1 :
    Nat), w.heap.size ≤ m1 → ∀ (w1 : World), RowKit.Below w.heap.size w w1 → Kept [m1] w w1 → Calls Try.prog 66 #[Value.agg #[Value.int IntKind.i64 c0, Value.int IntKind.i64 c1,
    Value.slice c2a c2n c2c, Value.int IntKind.i64 c3, Value.int IntKind.i64 c4, Value.int IntKind.i64 c5, Value.int IntKind.i64 c6]] w1 fun (e1 : Ending) (w2 : World) => ∃ (x1 :
    Int), e1 = Ending.returned (Value.int IntKind.i64 x1) ∧ KeepX true w.heap.size [m1] (fun _ => False) w1 w2 ∧ ∀ (m3 : Nat), w2.heap.size ≤ m3 → ∀ (w3 : World),
    RowKit.Below w.heap.size w w3 → Kept [m3, m1] w2 w3 → w3.heap[m3]? = some (Obj.cells #[Value.int IntKind.i64 x1] 3) → Calls Try.prog 51 #[Value.int IntKind.i64 100, Value.int
    IntKind.i64 100000, Value.slice (some { block := m3, off := 0 }) 1 1] w3 fun (e2 : Ending) (w4 : World) => ∃ (t1 : Bool), e2 = Ending.returned (Value.bool t1) ∧ KeepX true
    w.heap.size [m3, m1] (fun _ => False) w3 w4 ∧ ∀ (w5 : World), RowKit.Below w.heap.size w w5 → Kept [m3, m1] w4 w5 → R (Ending.returned (Value.bool t1)) w5) : Calls
    Try.prog 50 #[Value.agg #[Value.int IntKind.i64 c0, Value.int IntKind.i64 c1, Value.slice c2a c2n c2c, Value.int IntKind.i64 c3, Value.int IntKind.i64 c4, Value.int IntKind.i64
    c5, Value.int IntKind.i64 c6]] w R := calls_of_vc (pure := true) (wrapAt := []) (muts := []) (esc := []) (args := [SV.pv (PV.agg [Lf.int IntKind.i64 c0, Lf.int IntKind.i64 c1,
    Lf.sl c2a c2n c2c, Lf.int IntKind.i64 c3, Lf.int IntKind.i64 c4, Lf.int IntKind.i64 c5, Lf.int IntKind.i64 c6])]) (vs := [Value.agg #[Value.int IntKind.i64 c0, Value.int
    IntKind.i64 c1, Value.slice c2a c2n c2c, Value.int IntKind.i64 c3, Value.int IntKind.i64 c4, Value.int IntKind.i64 c5, Value.int IntKind.i64 c6]]) Try.func50 rfl rfl rfl (Eq.mp
    (by kernel_rfl) h) 
set_option maxRecDepth 100000 in
set_option maxHeartbeats 2000000 in
theorem vc53 (kind : Int) (s0 : Int) (s1 : Int) (w : World) (R : Ending → World → Prop) (h : ∀ (m1 : Nat), w.heap.size ≤ m1 → (kind = 1 → ∀ (w1 : World), RowKit.Below w.heap.size w
    w1 → Kept [m1] w w1 → Calls Try.prog 52 #[Value.agg #[Value.int IntKind.i64 s0, Value.int IntKind.i64 s1], Value.int IntKind.i64 (-1000), Value.int IntKind.i64 1000] w1 fun (e1
    : Ending) (w2 : World) => ∃ (t1 : Bool), e1 = Ending.returned (Value.bool t1) ∧ KeepX true w.heap.size [m1] (fun _ => False) w1 w2 ∧ ∀ (w3 : World), RowKit.Below
    w.heap.size w w3 → Kept [m1] w2 w3 → R (Ending.returned (Value.bool t1)) w3) ∧ (kind ≠ 1 → (kind = 2 → ∀ (w4 : World), RowKit.Below w.heap.size w w4 → Kept [m1] w w4 → Calls
    Try.prog 52 #[Value.agg #[Value.int IntKind.i64 s0, Value.int IntKind.i64 s1], Value.int IntKind.i64 0, Value.int IntKind.i64 1000] w4 fun (e2 : Ending) (w5 : World) => ∃ (t2 :
    Bool), e2 = Ending.returned (Value.bool t2) ∧ KeepX true w.heap.size [m1] (fun _ => False) w4 w5 ∧ ∀ (w6 : World), RowKit.Below w.heap.size w w6 → Kept [m1] w5 w6 → R
    (Ending.returned (Value.bool t2)) w6) ∧ (kind ≠ 2 → (kind = 3 → ∀ (w7 : World), RowKit.Below w.heap.size w w7 → Kept [m1] w w7 → Calls Try.prog 52 #[Value.agg #[Value.int
    IntKind.i64 s0, Value.int IntKind.i64 s1], Value.int IntKind.i64 0, Value.int IntKind.i64 0] w7 fun (e3 : Ending) (w8 : World) => ∃ (t3 : Bool), e3 = Ending.returned
    (Value.bool t3) ∧ KeepX true w.heap.size [m1] (fun _ => False) w7 w8 ∧ ∀ (w9 : World), RowKit.Below w.heap.size w w9 → Kept [m1] w8 w9 → R (Ending.returned (Value.bool
    t3)) w9) ∧ (kind ≠ 3 → ∀ (w10 : World), RowKit.Below w.heap.size w w10 → Kept [m1] w w10 → R (Ending.returned (Value.bool false)) w10)))) : Calls Try.prog 53 #[Value.int
    IntKind.i64 kind, Value.agg #[Value.int IntKind.i64 s0, Value.int IntKind.i64 s1]] w R := calls_of_vc (pure := true) (wrapAt := []) (muts := []) (esc := []) (args := [SV.pv
    (PV.one (Lf.int IntKind.i64 kind)), SV.pv (PV.agg [Lf.int IntKind.i64 s0, Lf.int IntKind.i64 s1])]) (vs := [Value.int IntKind.i64 kind, Value.agg #[Value.int IntKind.i64 s0,
    Value.int IntKind.i64 s1]]) Try.func53 rfl rfl rfl (Eq.mp (by kernel_rfl) h) 
set_option maxRecDepth 100000 in
set_option maxHeartbeats 2000000 in
theorem vc17 (c0 : Int) (c1 : Int) (c2a : Option Addr) (c2n : Nat) (c2c : Nat) (c3 : Int) (c4 : Int) (c5 : Int) (c6 : Int) (w : World) (R : Ending → World → Prop) (h : ∀ (m1 :
    Nat), w.heap.size ≤ m1 → (8 < (↑c2n : Int) → ∀ (w1 : World), RowKit.Below w.heap.size w w1 → Kept [m1] w w1 → R (Ending.returned (Value.int IntKind.i64 5)) w1) ∧ ((↑c2n : Int)
    ≤ 8 → ((↑c2n : Int) = 0 → ∀ (w2 : World), RowKit.Below w.heap.size w w2 → Kept [m1] w w2 → R (Ending.returned (Value.int IntKind.i64 2)) w2) ∧ ((↑c2n : Int) ≠ 0 → ∀ (w3 :
    World), RowKit.Below w.heap.size w w3 → Kept [m1] w w3 → Calls Try.prog 47 #[Value.slice c2a c2n c2c, Value.func (Fn.func 48) #[] #[]] w3 fun (e1 : Ending) (w4 : World) => ∃
    (t1 : Bool), e1 = Ending.returned (Value.bool t1) ∧ KeepX true w.heap.size [m1] (fun _ => False) w3 w4 ∧ (t1 = true → ∀ (w5 : World), RowKit.Below w.heap.size w w5 →
    Kept [m1] w4 w5 → R (Ending.returned (Value.int IntKind.i64 2)) w5) ∧ (t1 = false → ∀ (w6 : World), RowKit.Below w.heap.size w w6 → Kept [m1] w4 w6 → Calls Try.prog 50
    #[Value.agg #[Value.int IntKind.i64 c0, Value.int IntKind.i64 c1, Value.slice c2a c2n c2c, Value.int IntKind.i64 c3, Value.int IntKind.i64 c4, Value.int IntKind.i64 c5,
    Value.int IntKind.i64 c6]] w6 fun (e2 : Ending) (w7 : World) => ∃ (t2 : Bool), e2 = Ending.returned (Value.bool t2) ∧ KeepX true w.heap.size [m1] (fun _ => False) w6
    w7 ∧ ((!t2) = true → ∀ (w8 : World), RowKit.Below w.heap.size w w8 → Kept [m1] w7 w8 → R (Ending.returned (Value.int IntKind.i64 2)) w8) ∧ ((!t2) = false → ∀ (m4 : Nat),
    w7.heap.size ≤ m4 → ∀ (w9 : World), RowKit.Below w.heap.size w w9 → Kept [m4, m1] w7 w9 → w9.heap[m4]? = some (Obj.cells #[Value.int IntKind.i64 c1] 3) → Calls Try.prog 51
    #[Value.int IntKind.i64 (-1000000), Value.int IntKind.i64 1000000, Value.slice (some { block := m4, off := 0 }) 1 1] w9 fun (e3 : Ending) (w10 : World) => ∃ (t3 : Bool), e3 =
    Ending.returned (Value.bool t3) ∧ KeepX true w.heap.size [m4, m1] (fun _ => False) w9 w10 ∧ ((!t3) = true → ∀ (w11 : World), RowKit.Below w.heap.size w w11 → Kept [m4,
    m1] w10 w11 → R (Ending.returned (Value.int IntKind.i64 2)) w11) ∧ ((!t3) = false → ∀ (w12 : World), RowKit.Below w.heap.size w w12 → Kept [m4, m1] w10 w12 → Calls Try.prog 52
    #[Value.agg #[Value.int IntKind.i64 c3, Value.int IntKind.i64 c4], Value.int IntKind.i64 (-100), Value.int IntKind.i64 100] w12 fun (e4 : Ending) (w13 : World) => ∃ (t4 :
    Bool), e4 = Ending.returned (Value.bool t4) ∧ KeepX true w.heap.size [m4, m1] (fun _ => False) w12 w13 ∧ ((!t4) = true → ∀ (w14 : World), RowKit.Below w.heap.size w
    w14 → Kept [m4, m1] w13 w14 → R (Ending.returned (Value.int IntKind.i64 2)) w14) ∧ ((!t4) = false → ∀ (w15 : World), RowKit.Below w.heap.size w w15 → Kept [m4, m1] w13 w15 →
    Calls Try.prog 53 #[Value.int IntKind.i64 c0, Value.agg #[Value.int IntKind.i64 c5, Value.int IntKind.i64 c6]] w15 fun (e5 : Ending) (w16 : World) => ∃ (t5 : Bool), e5 =
    Ending.returned (Value.bool t5) ∧ KeepX true w.heap.size [m4, m1] (fun _ => False) w15 w16 ∧ ((!t5) = true → ∀ (w17 : World), RowKit.Below w.heap.size w w17 → Kept
    [m4, m1] w16 w17 → R (Ending.returned (Value.int IntKind.i64 2)) w17) ∧ ((!t5) = false → ∀ (w18 : World), RowKit.Below w.heap.size w w18 → Kept [m4, m1] w16 w18 → R
    (Ending.returned (Value.int IntKind.i64 0)) w18)))))))) : Calls Try.prog 17 #[Value.agg #[Value.int IntKind.i64 c0, Value.int IntKind.i64 c1, Value.slice c2a c2n c2c, Value.int
    IntKind.i64 c3, Value.int IntKind.i64 c4, Value.int IntKind.i64 c5, Value.int IntKind.i64 c6]] w R := calls_of_vc (pure := true) (wrapAt := []) (muts := []) (esc := []) (args
    := [SV.pv (PV.agg [Lf.int IntKind.i64 c0, Lf.int IntKind.i64 c1, Lf.sl c2a c2n c2c, Lf.int IntKind.i64 c3, Lf.int IntKind.i64 c4, Lf.int IntKind.i64 c5, Lf.int IntKind.i64
    c6])]) (vs := [Value.agg #[Value.int IntKind.i64 c0, Value.int IntKind.i64 c1, Value.slice c2a c2n c2c, Value.int IntKind.i64 c3, Value.int IntKind.i64 c4, Value.int
    IntKind.i64 c5, Value.int IntKind.i64 c6]]) Try.func17 rfl rfl rfl (Eq.mp (by kernel_rfl) h) 
set_option maxRecDepth 100000 in
set_option maxHeartbeats 2000000 in
theorem vc80  (w : World) (R : Ending → World → Prop) (h : ∀ (m1 : Nat), w.heap.size ≤ m1 → ∀ (w1 : World), RowKit.Below w.heap.size w w1 → Kept [m1] w w1 → R (Ending.returned
    (Value.agg #[Value.int IntKind.i64 (-1000), Value.int IntKind.i64 1000, Value.int IntKind.i64 (-1000), Value.int IntKind.i64 1000, Value.int IntKind.i64 0, Value.int
    IntKind.i64 600, Value.int IntKind.i64 (-100), Value.int IntKind.i64 100])) w1) : Calls Try.prog 80 #[] w R := calls_of_vc (pure := true) (wrapAt := []) (muts := []) (esc :=
    []) (args := []) (vs := []) Try.func80 rfl rfl rfl (Eq.mp (by kernel_rfl) h) 
set_option maxRecDepth 100000 in
set_option maxHeartbeats 2000000 in
theorem vc98 (s0 : Int) (s1 : Int) (s2 : Int) (s3 : Int) (w : World) (R : Ending → World → Prop) (h : ∀ (m1 : Nat), w.heap.size ≤ m1 → ∀ (w1 : World), RowKit.Below w.heap.size w w1
    → Kept [m1] w w1 → Calls Try.prog 52 #[Value.agg #[Value.int IntKind.i64 s0, Value.int IntKind.i64 s1], Value.int IntKind.i64 s2, Value.int IntKind.i64 s3] w1 fun (e1 : Ending)
    (w2 : World) => ∃ (t1 : Bool), e1 = Ending.returned (Value.bool t1) ∧ KeepX true w.heap.size [m1] (fun _ => False) w1 w2 ∧ ∀ (w3 : World), RowKit.Below w.heap.size w
    w3 → Kept [m1] w2 w3 → R (Ending.returned (Value.bool !t1)) w3) : Calls Try.prog 98 #[Value.agg #[Value.int IntKind.i64 s0, Value.int IntKind.i64 s1, Value.int IntKind.i64 s2,
    Value.int IntKind.i64 s3]] w R := calls_of_vc (pure := true) (wrapAt := []) (muts := []) (esc := []) (args := [SV.pv (PV.agg [Lf.int IntKind.i64 s0, Lf.int IntKind.i64 s1,
    Lf.int IntKind.i64 s2, Lf.int IntKind.i64 s3])]) (vs := [Value.agg #[Value.int IntKind.i64 s0, Value.int IntKind.i64 s1, Value.int IntKind.i64 s2, Value.int IntKind.i64 s3]])
    Try.func98 rfl rfl rfl (Eq.mp (by kernel_rfl) h) 
set_option maxRecDepth 100000 in
set_option maxHeartbeats 2000000 in
theorem vc97 (sa : Option Addr) (sn : Nat) (sc : Nat) (ff : Nat) (fi : List Value) (fc : List Value) (w : World) (R : Ending → World → Prop) (h : ∀ (w1 : World), RowKit.Below
    w.heap.size w w1 → Kept [] w w1 → Calls Try.prog 99 #[Value.slice sa sn sc, Value.func (Fn.func ff) fi.toArray fc.toArray] w1 fun (e1 : Ending) (w2 : World) => ∃ (x1 : Int), e1
    = Ending.returned (Value.int IntKind.i64 x1) ∧ KeepX true w.heap.size [] (fun _ => False) w1 w2 ∧ ∀ (w3 : World), RowKit.Below w.heap.size w w3 → Kept [] w2 w3 → R
    (Ending.returned (Value.bool (decide (0 ≤ x1)))) w3) : Calls Try.prog 97 #[Value.slice sa sn sc, Value.func (Fn.func ff) fi.toArray fc.toArray] w R := calls_of_vc (pure :=
    true) (wrapAt := []) (muts := []) (esc := []) (args := [SV.pv (PV.one (Lf.sl sa sn sc)), SV.pv (PV.one (Lf.fv ff fi fc))]) (vs := [Value.slice sa sn sc, Value.func (Fn.func ff)
    fi.toArray fc.toArray]) Try.func97 rfl rfl rfl (Eq.mp (by kernel_rfl) h) 
set_option maxRecDepth 100000 in
set_option maxHeartbeats 2000000 in
theorem vc99 (sa : Option Addr) (sn : Nat) (sc : Nat) (ff : Nat) (fi : List Value) (fc : List Value) (w : World) (R : Ending → World → Prop) (h : ∃ (F1 : List Lf → World → Prop), ∃
    (F2 : List Lf → Nat), (∀ (w2 : World), RowKit.Below w.heap.size w w2 → Kept [] w w2 → F1 [Lf.int IntKind.i64 0, Lf.int IntKind.i64 0] w2) ∧ ∀ (x1 x2 : Int) (w3 : World),
    RowKit.Below w.heap.size w w3 → F1 [Lf.int IntKind.i64 x1, Lf.int IntKind.i64 x2] w3 → (x2 < (↑sn : Int) → ∃ (m1 : Nat), ∃ (m2 : Nat), sa = some { block := m1, off := m2 } ∧ (0
    ≤ x2 ∧ x2 < (↑sn : Int)) ∧ ∃ (x3 : Int), ∃ (x4 : Int), ∃ (x5 : Int), ∃ (x6 : Int), w3.cell? { block := m1, off := m2 + x2.toNat * 4 } = some (Value.int IntKind.i64 x3) ∧
    w3.cell? { block := m1, off := m2 + x2.toNat * 4 + 1 } = some (Value.int IntKind.i64 x4) ∧ w3.cell? { block := m1, off := m2 + x2.toNat * 4 + 1 + 1 } = some (Value.int
    IntKind.i64 x5) ∧ w3.cell? { block := m1, off := m2 + x2.toNat * 4 + 1 + 1 + 1 } = some (Value.int IntKind.i64 x6) ∧ Callable Try.prog ff ∧ ∀ (w4 : World), RowKit.Below
    w.heap.size w w4 → Kept [] w3 w4 → Calls Try.prog ff (fi ++ [Value.agg #[Value.int IntKind.i64 x3, Value.int IntKind.i64 x4, Value.int IntKind.i64 x5, Value.int IntKind.i64
    x6]] ++ fc).toArray w4 fun (e1 : Ending) (w5 : World) => ∃ (t1 : Bool), e1 = Ending.returned (Value.bool t1) ∧ KeepX true w.heap.size [] (fun _ => False) w4 w5 ∧ (t1 =
    true → ∀ (w6 : World), RowKit.Below w.heap.size w w6 → Kept [] w5 w6 → R (Ending.returned (Value.int IntKind.i64 x2)) w6) ∧ (t1 = false → (-9223372036854775808 ≤ x2 + 1 ∧ x2 +
    (1 : Int) ≤ 9223372036854775807) ∧ ∀ (w7 : World), RowKit.Below w.heap.size w w7 → Kept [] w5 w7 → F1 [Lf.int IntKind.i64 x1, Lf.int IntKind.i64 (x2 + 1)] w7 ∧ F2 [Lf.int
    IntKind.i64 x1, Lf.int IntKind.i64 (x2 + 1)] < F2 [Lf.int IntKind.i64 x1, Lf.int IntKind.i64 x2])) ∧ ((↑sn : Int) ≤ x2 → ∀ (w8 : World), RowKit.Below w.heap.size w w8 → Kept []
    w3 w8 → R (Ending.returned (Value.int IntKind.i64 (-1))) w8)) : Calls Try.prog 99 #[Value.slice sa sn sc, Value.func (Fn.func ff) fi.toArray fc.toArray] w R := calls_of_vc
    (pure := true) (wrapAt := []) (muts := []) (esc := []) (args := [SV.pv (PV.one (Lf.sl sa sn sc)), SV.pv (PV.one (Lf.fv ff fi fc))]) (vs := [Value.slice sa sn sc, Value.func
    (Fn.func ff) fi.toArray fc.toArray]) Try.func99 rfl rfl rfl (Eq.mp (by kernel_rfl) h) 
set_option maxRecDepth 100000 in
set_option maxHeartbeats 2000000 in
theorem vc88 (b0 : Int) (b1 : Int) (b2 : Int) (b3 : Int) (b4 : Int) (b5 : Int) (b6 : Int) (b7 : Int) (w : World) (R : Ending → World → Prop) (h : ∀ (m1 : Nat), w.heap.size ≤ m1 → ∀
    (w1 : World), RowKit.Below w.heap.size w w1 → Kept [m1] w w1 → Calls Try.prog 80 #[] w1 fun (e1 : Ending) (w2 : World) => ∃ (x1 : Int), ∃ (x2 : Int), ∃ (x3 : Int), ∃ (x4 :
    Int), ∃ (x5 : Int), ∃ (x6 : Int), ∃ (x7 : Int), ∃ (x8 : Int), e1 = Ending.returned (Value.agg #[Value.int IntKind.i64 x1, Value.int IntKind.i64 x2, Value.int IntKind.i64 x3,
    Value.int IntKind.i64 x4, Value.int IntKind.i64 x5, Value.int IntKind.i64 x6, Value.int IntKind.i64 x7, Value.int IntKind.i64 x8]) ∧ KeepX true w.heap.size [m1] (fun _ => False) w1 w2 ∧ ∀ (m3 : Nat), w2.heap.size ≤ m3 → ∀ (m4 : Nat), w2.heap.size ≤ m4 → ∀ (w3 : World), RowKit.Below w.heap.size w w3 → Kept [m4, m3, m1] w2 w3 → w3.heap[m4]? =
    some (Obj.cells #[Value.int IntKind.i64 b0, Value.int IntKind.i64 b1, Value.int IntKind.i64 x1, Value.int IntKind.i64 x2, Value.int IntKind.i64 b2, Value.int IntKind.i64 b3,
    Value.int IntKind.i64 x3, Value.int IntKind.i64 x4, Value.int IntKind.i64 b4, Value.int IntKind.i64 b5, Value.int IntKind.i64 x5, Value.int IntKind.i64 x6, Value.int
    IntKind.i64 b6, Value.int IntKind.i64 b7, Value.int IntKind.i64 x7, Value.int IntKind.i64 x8] 148) → Calls Try.prog 97 #[Value.slice (some { block := m4, off := 0 }) 4 4,
    Value.func (Fn.func 98) #[] #[]] w3 fun (e2 : Ending) (w4 : World) => ∃ (t1 : Bool), e2 = Ending.returned (Value.bool t1) ∧ KeepX true w.heap.size [m4, m3, m1] (fun _ => False) w3 w4 ∧ ∀ (w5 : World), RowKit.Below w.heap.size w w5 → Kept [m4, m3, m1] w4 w5 → R (Ending.returned (Value.bool !t1)) w5) : Calls Try.prog 88 #[Value.agg #[Value.int
    IntKind.i64 b0, Value.int IntKind.i64 b1, Value.int IntKind.i64 b2, Value.int IntKind.i64 b3, Value.int IntKind.i64 b4, Value.int IntKind.i64 b5, Value.int IntKind.i64 b6,
    Value.int IntKind.i64 b7]] w R := calls_of_vc (pure := true) (wrapAt := []) (muts := []) (esc := []) (args := [SV.pv (PV.agg [Lf.int IntKind.i64 b0, Lf.int IntKind.i64 b1,
    Lf.int IntKind.i64 b2, Lf.int IntKind.i64 b3, Lf.int IntKind.i64 b4, Lf.int IntKind.i64 b5, Lf.int IntKind.i64 b6, Lf.int IntKind.i64 b7])]) (vs := [Value.agg #[Value.int
    IntKind.i64 b0, Value.int IntKind.i64 b1, Value.int IntKind.i64 b2, Value.int IntKind.i64 b3, Value.int IntKind.i64 b4, Value.int IntKind.i64 b5, Value.int IntKind.i64 b6,
    Value.int IntKind.i64 b7]]) Try.func88 rfl rfl rfl (Eq.mp (by kernel_rfl) h) 
set_option maxRecDepth 100000 in
set_option maxHeartbeats 2000000 in
theorem vc57 (c0 : Int) (c1 : Int) (c2a : Option Addr) (c2n : Nat) (c2c : Nat) (c3 : Int) (c4 : Int) (c5 : Int) (c6 : Int) (b0 : Int) (b1 : Int) (b2 : Int) (b3 : Int) (b4 : Int)
    (b5 : Int) (b6 : Int) (b7 : Int) (w : World) (R : Ending → World → Prop) (h : ∀ (m1 : Nat), w.heap.size ≤ m1 → ∀ (m2 : Nat), w.heap.size ≤ m2 → ∀ (m3 : Nat), w.heap.size ≤ m3 →
    ∃ (F1 : List Lf → World → Prop), ∃ (F2 : List Lf → Nat), (∀ (w2 : World), RowKit.Below w.heap.size w w2 → Kept [m3, m2, m1] w w2 → F1 [Lf.int IntKind.i64 0, Lf.int IntKind.i64
    c0, Lf.int IntKind.i64 c1, Lf.sl c2a c2n c2c, Lf.int IntKind.i64 c3, Lf.int IntKind.i64 c4, Lf.int IntKind.i64 c5, Lf.int IntKind.i64 c6, Lf.sl none 0 0, Lf.int IntKind.i64 c3,
    Lf.int IntKind.i64 c4, Lf.int IntKind.i64 c5, Lf.int IntKind.i64 c6, Lf.int IntKind.i64 b0, Lf.int IntKind.i64 b1, Lf.int IntKind.i64 b2, Lf.int IntKind.i64 b3, Lf.int
    IntKind.i64 b4, Lf.int IntKind.i64 b5, Lf.int IntKind.i64 b6, Lf.int IntKind.i64 b7] w2) ∧ ∀ (x1 x2 x3 : Int) (a1 : Option Addr) (m4 m5 : Nat) (x4 x5 x6 x7 : Int) (a2 : Option
    Addr) (m6 m7 : Nat) (x8 x9 x10 x11 x12 x13 x14 x15 x16 x17 x18 x19 : Int) (w3 : World), RowKit.Below w.heap.size w w3 → F1 [Lf.int IntKind.i64 x1, Lf.int IntKind.i64 x2, Lf.int
    IntKind.i64 x3, Lf.sl a1 m4 m5, Lf.int IntKind.i64 x4, Lf.int IntKind.i64 x5, Lf.int IntKind.i64 x6, Lf.int IntKind.i64 x7, Lf.sl a2 m6 m7, Lf.int IntKind.i64 x8, Lf.int
    IntKind.i64 x9, Lf.int IntKind.i64 x10, Lf.int IntKind.i64 x11, Lf.int IntKind.i64 x12, Lf.int IntKind.i64 x13, Lf.int IntKind.i64 x14, Lf.int IntKind.i64 x15, Lf.int
    IntKind.i64 x16, Lf.int IntKind.i64 x17, Lf.int IntKind.i64 x18, Lf.int IntKind.i64 x19] w3 → (x1 < (↑c2n : Int) → ∃ (m8 : Nat), ∃ (m9 : Nat), c2a = some
    { block := m8, off := m9 } ∧ (0 ≤ x1 ∧ x1 < (↑c2n : Int)) ∧ ∃ (x20 : Int), ∃ (x21 : Int), ∃ (x22 : Int), ∃ (t1 : Bool), w3.cell? { block := m8, off := m9 + x1.toNat * 4 } =
    some (Value.int IntKind.i64 x20) ∧ w3.cell? { block := m8, off := m9 + x1.toNat * 4 + 1 } = some (Value.int IntKind.i64 x21) ∧ w3.cell?
    { block := m8, off := m9 + x1.toNat * 4 + 1 + 1 } = some (Value.int IntKind.i64 x22) ∧ w3.cell? { block := m8, off := m9 + x1.toNat * 4 + 1 + 1 + 1 } = some (Value.bool t1) ∧
    (m8 < w.heap.size ∨ m8 ≠ m3 ∧ m8 ≠ m2 ∧ m8 ≠ m1) ∧ ∀ (m10 : Nat), w3.heap.size ≤ m10 → ∀ (m11 : Nat), w3.heap.size ≤ m11 → ∀ (w4 : World), RowKit.Below w.heap.size w w4 →
    KeptIn [(0, w3.heap.size)] [m11, m3, m10, m2, m1] w3 w4 → w4.heap[m11]? = some (Obj.cells #[Value.int IntKind.i64 x21, Value.int IntKind.i64 x22] 95) → RunsTo Try.prog
    (Builtin.append_ #[114, 114] 114 #[Value.slice a2 m6 m7, Value.slice (some { block := m11, off := 0 }) 1 1]) w4 fun (v1 : Value) (w5 : World) => ∃ (a3 : Option Addr), ∃ (m13 :
    Nat), ∃ (m14 : Nat), v1 = Value.slice a3 m13 m14 ∧ KeepX true w.heap.size [m11, m3, m10, m2, m1] (fun _ => False) w4 w5 ∧ (-9223372036854775808 ≤ x1 + 1 ∧ x1 + (1 :
    Int) ≤ 9223372036854775807) ∧ ∀ (w6 : World), RowKit.Below w.heap.size w w6 → Kept [m11, m3, m10, m2, m1] w5 w6 → F1 [Lf.int IntKind.i64 (x1 + 1), Lf.int IntKind.i64 x2, Lf.int
    IntKind.i64 x3, Lf.sl a1 m4 m5, Lf.int IntKind.i64 x4, Lf.int IntKind.i64 x5, Lf.int IntKind.i64 x6, Lf.int IntKind.i64 x7, Lf.sl a3 m13 m14, Lf.int IntKind.i64 x8, Lf.int
    IntKind.i64 x9, Lf.int IntKind.i64 x10, Lf.int IntKind.i64 x11, Lf.int IntKind.i64 x12, Lf.int IntKind.i64 x13, Lf.int IntKind.i64 x14, Lf.int IntKind.i64 x15, Lf.int
    IntKind.i64 x16, Lf.int IntKind.i64 x17, Lf.int IntKind.i64 x18, Lf.int IntKind.i64 x19] w6 ∧ F2 [Lf.int IntKind.i64 (x1 + 1), Lf.int IntKind.i64 x2, Lf.int IntKind.i64 x3,
    Lf.sl a1 m4 m5, Lf.int IntKind.i64 x4, Lf.int IntKind.i64 x5, Lf.int IntKind.i64 x6, Lf.int IntKind.i64 x7, Lf.sl a3 m13 m14, Lf.int IntKind.i64 x8, Lf.int IntKind.i64 x9,
    Lf.int IntKind.i64 x10, Lf.int IntKind.i64 x11, Lf.int IntKind.i64 x12, Lf.int IntKind.i64 x13, Lf.int IntKind.i64 x14, Lf.int IntKind.i64 x15, Lf.int IntKind.i64 x16, Lf.int
    IntKind.i64 x17, Lf.int IntKind.i64 x18, Lf.int IntKind.i64 x19] < F2 [Lf.int IntKind.i64 x1, Lf.int IntKind.i64 x2, Lf.int IntKind.i64 x3, Lf.sl a1 m4 m5, Lf.int IntKind.i64
    x4, Lf.int IntKind.i64 x5, Lf.int IntKind.i64 x6, Lf.int IntKind.i64 x7, Lf.sl a2 m6 m7, Lf.int IntKind.i64 x8, Lf.int IntKind.i64 x9, Lf.int IntKind.i64 x10, Lf.int
    IntKind.i64 x11, Lf.int IntKind.i64 x12, Lf.int IntKind.i64 x13, Lf.int IntKind.i64 x14, Lf.int IntKind.i64 x15, Lf.int IntKind.i64 x16, Lf.int IntKind.i64 x17, Lf.int
    IntKind.i64 x18, Lf.int IntKind.i64 x19]) ∧ ((↑c2n : Int) ≤ x1 → ∀ (w7 : World), RowKit.Below w.heap.size w w7 → Kept [m3, m2, m1] w3 w7 → w7.heap[m3]? = some (Obj.cells
    #[Value.int IntKind.i64 x2, Value.int IntKind.i64 x3, Value.slice a1 m4 m5, Value.int IntKind.i64 x4, Value.int IntKind.i64 x5, Value.int IntKind.i64 x6, Value.int IntKind.i64
    x7, Value.slice a2 m6 m7, Value.int IntKind.i64 x8, Value.int IntKind.i64 x9, Value.int IntKind.i64 x10, Value.int IntKind.i64 x11, Value.int IntKind.i64 x12, Value.int
    IntKind.i64 x13, Value.int IntKind.i64 x14, Value.int IntKind.i64 x15, Value.int IntKind.i64 x16, Value.int IntKind.i64 x17, Value.int IntKind.i64 x18, Value.int IntKind.i64
    x19] 116) → R (Ending.returned (Value.pointer (some { block := m3, off := 0 }))) w7)) : Calls Try.prog 57 #[Value.agg #[Value.int IntKind.i64 c0, Value.int IntKind.i64 c1,
    Value.slice c2a c2n c2c, Value.int IntKind.i64 c3, Value.int IntKind.i64 c4, Value.int IntKind.i64 c5, Value.int IntKind.i64 c6], Value.agg #[Value.int IntKind.i64 b0,
    Value.int IntKind.i64 b1, Value.int IntKind.i64 b2, Value.int IntKind.i64 b3, Value.int IntKind.i64 b4, Value.int IntKind.i64 b5, Value.int IntKind.i64 b6, Value.int
    IntKind.i64 b7]] w R := calls_of_vc (pure := true) (wrapAt := []) (muts := [29]) (esc := []) (args := [SV.pv (PV.agg [Lf.int IntKind.i64 c0, Lf.int IntKind.i64 c1, Lf.sl c2a
    c2n c2c, Lf.int IntKind.i64 c3, Lf.int IntKind.i64 c4, Lf.int IntKind.i64 c5, Lf.int IntKind.i64 c6]), SV.pv (PV.agg [Lf.int IntKind.i64 b0, Lf.int IntKind.i64 b1, Lf.int
    IntKind.i64 b2, Lf.int IntKind.i64 b3, Lf.int IntKind.i64 b4, Lf.int IntKind.i64 b5, Lf.int IntKind.i64 b6, Lf.int IntKind.i64 b7])]) (vs := [Value.agg #[Value.int IntKind.i64
    c0, Value.int IntKind.i64 c1, Value.slice c2a c2n c2c, Value.int IntKind.i64 c3, Value.int IntKind.i64 c4, Value.int IntKind.i64 c5, Value.int IntKind.i64 c6], Value.agg
    #[Value.int IntKind.i64 b0, Value.int IntKind.i64 b1, Value.int IntKind.i64 b2, Value.int IntKind.i64 b3, Value.int IntKind.i64 b4, Value.int IntKind.i64 b5, Value.int
    IntKind.i64 b6, Value.int IntKind.i64 b7]]) Try.func57 rfl rfl rfl (Eq.mp (by kernel_rfl) h) 
set_option maxRecDepth 100000 in
set_option maxHeartbeats 2000000 in
theorem vc44 (kb : Nat) (ko : Nat) (w : World) (R : Ending → World → Prop) (h : ∀ (m1 : Nat), w.heap.size ≤ m1 → ∃ (x1 : Int), ∃ (x2 : Int), ∃ (a1 : Option Addr), ∃ (m2 : Nat), ∃
    (m3 : Nat), ∃ (x3 : Int), ∃ (x4 : Int), ∃ (x5 : Int), ∃ (x6 : Int), w.cell? { block := kb, off := ko + 0 } = some (Value.int IntKind.i64 x1) ∧ w.cell?
    { block := kb, off := ko + 0 + 1 } = some (Value.int IntKind.i64 x2) ∧ w.cell? { block := kb, off := ko + 0 + 1 + 1 } = some (Value.slice a1 m2 m3) ∧ w.cell?
    { block := kb, off := ko + 0 + 1 + 1 + 1 } = some (Value.int IntKind.i64 x3) ∧ w.cell? { block := kb, off := ko + 0 + 1 + 1 + 1 + 1 } = some (Value.int IntKind.i64 x4) ∧
    w.cell? { block := kb, off := ko + 0 + 1 + 1 + 1 + 1 + 1 } = some (Value.int IntKind.i64 x5) ∧ w.cell? { block := kb, off := ko + 0 + 1 + 1 + 1 + 1 + 1 + 1 } = some (Value.int
    IntKind.i64 x6) ∧ (kb < w.heap.size ∨ kb ≠ m1) ∧ ∀ (w1 : World), RowKit.Below w.heap.size w w1 → Kept [m1] w w1 → Calls Try.prog 66 #[Value.agg #[Value.int IntKind.i64 x1,
    Value.int IntKind.i64 x2, Value.slice a1 m2 m3, Value.int IntKind.i64 x3, Value.int IntKind.i64 x4, Value.int IntKind.i64 x5, Value.int IntKind.i64 x6]] w1 fun (e1 : Ending)
    (w2 : World) => ∃ (x7 : Int), e1 = Ending.returned (Value.int IntKind.i64 x7) ∧ KeepX true w.heap.size [m1] (fun _ => False) w1 w2 ∧ ((-9223372036854775808 : Int) ≤
    10000 * x7 ∧ 10000 * x7 ≤ 9223372036854775807) ∧ ∀ (w3 : World), RowKit.Below w.heap.size w w3 → Kept [m1] w2 w3 → Calls Try.prog 65 #[Value.int IntKind.i64 (10000 * x7)] w3
    fun (e2 : Ending) (w4 : World) => ∃ (x8 : Int), ∃ (x9 : Int), e2 = Ending.returned (Value.agg #[Value.int IntKind.i64 x8, Value.int IntKind.i64 x9]) ∧ KeepX true w.heap.size
    [m1] (fun _ => False) w3 w4 ∧ ∀ (w5 : World), RowKit.Below w.heap.size w w5 → Kept [m1] w4 w5 → R (Ending.returned (Value.agg #[Value.int IntKind.i64 x8, Value.int
    IntKind.i64 x9])) w5) : Calls Try.prog 44 #[Value.pointer (some { block := kb, off := ko })] w R := calls_of_vc (pure := true) (wrapAt := []) (muts := []) (esc := []) (args :=
    [SV.pv (PV.one (Lf.ptr kb ko))]) (vs := [Value.pointer (some { block := kb, off := ko })]) Try.func44 rfl rfl rfl (Eq.mp (by kernel_rfl) h) 
set_option maxRecDepth 100000 in
set_option maxHeartbeats 2000000 in
theorem vc84 (kb : Nat) (ko : Nat) (w : World) (R : Ending → World → Prop) (h : ∀ (m1 : Nat), w.heap.size ≤ m1 → ∃ (a1 : Option Addr), ∃ (m2 : Nat), ∃ (m3 : Nat), w.cell?
    { block := kb, off := ko + 0 + 2 } = some (Value.slice a1 m2 m3) ∧ (kb < w.heap.size ∨ kb ≠ m1) ∧ ∃ (F1 : List Lf → World → Prop), ∃ (F2 : List Lf → Nat), (∀ (w2 : World),
    RowKit.Below w.heap.size w w2 → Kept [m1] w w2 → F1 [Lf.int IntKind.i64 0, Lf.int IntKind.i64 0, Lf.int IntKind.i64 0] w2) ∧ ∀ (x1 x2 x3 : Int) (w3 : World), RowKit.Below
    w.heap.size w w3 → F1 [Lf.int IntKind.i64 x1, Lf.int IntKind.i64 x2, Lf.int IntKind.i64 x3] w3 → (x1 < (↑m2 : Int) → ∃ (m4 : Nat), ∃ (m5 : Nat), a1 = some
    { block := m4, off := m5 } ∧ (0 ≤ x1 ∧ x1 < (↑m2 : Int)) ∧ ∃ (x4 : Int), ∃ (x5 : Int), ∃ (x6 : Int), ∃ (t1 : Bool), w3.cell? { block := m4, off := m5 + x1.toNat * 4 } = some
    (Value.int IntKind.i64 x4) ∧ w3.cell? { block := m4, off := m5 + x1.toNat * 4 + 1 } = some (Value.int IntKind.i64 x5) ∧ w3.cell?
    { block := m4, off := m5 + x1.toNat * 4 + 1 + 1 } = some (Value.int IntKind.i64 x6) ∧ w3.cell? { block := m4, off := m5 + x1.toNat * 4 + 1 + 1 + 1 } = some (Value.bool t1) ∧
    (m4 < w.heap.size ∨ m4 ≠ m1) ∧ ∀ (m6 : Nat), w3.heap.size ≤ m6 → ∀ (w4 : World), RowKit.Below w.heap.size w w4 → KeptIn [(0, w3.heap.size)] [m6, m1] w3 w4 → Calls Try.prog 93
    #[Value.agg #[Value.int IntKind.i64 x4, Value.int IntKind.i64 x5, Value.int IntKind.i64 x6, Value.bool t1]] w4 fun (e1 : Ending) (w5 : World) => ∃ (x7 : Int), e1 =
    Ending.returned (Value.int IntKind.i64 x7) ∧ RowKit.Below w4.heap.size w4 w5 ∧ (-9223372036854775808 ≤ x7 * x4 ∧ x7 * x4 ≤ 9223372036854775807) ∧ ∀ (w6 : World), RowKit.Below
    w.heap.size w w6 → KeptIn [(0, w3.heap.size), (w4.heap.size, w5.heap.size)] [m6, m1] w5 w6 → Calls Try.prog 65 #[Value.int IntKind.i64 (x7 * x4)] w6 fun (e2 : Ending) (w7 :
    World) => ∃ (x8 : Int), ∃ (x9 : Int), e2 = Ending.returned (Value.agg #[Value.int IntKind.i64 x8, Value.int IntKind.i64 x9]) ∧ RowKit.Below w6.heap.size w6 w7 ∧ ∃ (a2 : Option
    Addr), ∃ (m7 : Nat), ∃ (m8 : Nat), w3.cell? { block := kb, off := ko + 7 } = some (Value.slice a2 m7 m8) ∧ (kb < w.heap.size ∨ kb ≠ m6 ∧ kb ≠ m1) ∧ ∃ (m9 : Nat), ∃ (m10 : Nat),
    a2 = some { block := m9, off := m10 } ∧ (0 ≤ x1 ∧ x1 < (↑m7 : Int)) ∧ ∃ (x10 : Int), ∃ (x11 : Int), w3.cell? { block := m9, off := m10 + x1.toNat * 2 } = some (Value.int
    IntKind.i64 x10) ∧ w3.cell? { block := m9, off := m10 + x1.toNat * 2 + 1 } = some (Value.int IntKind.i64 x11) ∧ (m9 < w.heap.size ∨ m9 ≠ m6 ∧ m9 ≠ m1) ∧ ∀ (w8 : World),
    RowKit.Below w.heap.size w w8 → KeptIn [(0, w3.heap.size), (w6.heap.size, w7.heap.size), (w4.heap.size, w5.heap.size)] [m6, m1] w7 w8 → Calls Try.prog 64 #[Value.agg
    #[Value.int IntKind.i64 x10, Value.int IntKind.i64 x11], Value.agg #[Value.int IntKind.i64 x8, Value.int IntKind.i64 x9]] w8 fun (e3 : Ending) (w9 : World) => ∃ (x12 : Int), ∃
    (x13 : Int), e3 = Ending.returned (Value.agg #[Value.int IntKind.i64 x12, Value.int IntKind.i64 x13]) ∧ KeepX true w.heap.size [m6, m1] (fun _ => False) w8 w9 ∧ ∀
    (w10 : World), RowKit.Below w.heap.size w w10 → KeptIn [(0, w9.heap.size)] [m6, m1] w9 w10 → Calls Try.prog 67 #[Value.agg #[Value.int IntKind.i64 x2, Value.int IntKind.i64
    x3], Value.agg #[Value.int IntKind.i64 x12, Value.int IntKind.i64 x13]] w10 fun (e4 : Ending) (w11 : World) => ∃ (x14 : Int), ∃ (x15 : Int), e4 = Ending.returned (Value.agg
    #[Value.int IntKind.i64 x14, Value.int IntKind.i64 x15]) ∧ KeepX true w.heap.size [m6, m1] (fun _ => False) w10 w11 ∧ (-9223372036854775808 ≤ x1 + 1 ∧ x1 + (1 : Int)
    ≤ 9223372036854775807) ∧ ∀ (w12 : World), RowKit.Below w.heap.size w w12 → Kept [m6, m1] w11 w12 → F1 [Lf.int IntKind.i64 (x1 + 1), Lf.int IntKind.i64 x14, Lf.int IntKind.i64
    x15] w12 ∧ F2 [Lf.int IntKind.i64 (x1 + 1), Lf.int IntKind.i64 x14, Lf.int IntKind.i64 x15] < F2 [Lf.int IntKind.i64 x1, Lf.int IntKind.i64 x2, Lf.int IntKind.i64 x3]) ∧ ((↑m2
    : Int) ≤ x1 → ∀ (w13 : World), RowKit.Below w.heap.size w w13 → Kept [m1] w3 w13 → R (Ending.returned (Value.agg #[Value.int IntKind.i64 x2, Value.int IntKind.i64 x3])) w13)) :
    Calls Try.prog 84 #[Value.pointer (some { block := kb, off := ko })] w R := calls_of_vc (pure := true) (wrapAt := []) (muts := [2]) (esc := []) (args := [SV.pv (PV.one (Lf.ptr
    kb ko))]) (vs := [Value.pointer (some { block := kb, off := ko })]) Try.func84 rfl rfl rfl (Eq.mp (by kernel_rfl) h) 
set_option maxRecDepth 100000 in
set_option maxHeartbeats 2000000 in
theorem vc43 (kb : Nat) (ko : Nat) (w : World) (R : Ending → World → Prop) (h : ∀ (m1 : Nat), w.heap.size ≤ m1 → ∃ (x1 : Int), w.cell? { block := kb, off := ko + 0 + 1 } = some
    (Value.int IntKind.i64 x1) ∧ (kb < w.heap.size ∨ kb ≠ m1) ∧ ∀ (w1 : World), RowKit.Below w.heap.size w w1 → KeptIn [(0, w.heap.size)] [m1] w w1 → Calls Try.prog 65 #[Value.int
    IntKind.i64 x1] w1 fun (e1 : Ending) (w2 : World) => ∃ (x2 : Int), ∃ (x3 : Int), e1 = Ending.returned (Value.agg #[Value.int IntKind.i64 x2, Value.int IntKind.i64 x3]) ∧
    RowKit.Below w1.heap.size w1 w2 ∧ ((0 : Int) ≤ 0 ∧ 0 < (↑6 : Int)) ∧ ∃ (x4 : Int), ∃ (x5 : Int), w.cell? { block := kb, off := ko + 8 + Int.toNat 0 * 2 } = some (Value.int
    IntKind.i64 x4) ∧ w.cell? { block := kb, off := ko + 8 + Int.toNat 0 * 2 + 1 } = some (Value.int IntKind.i64 x5) ∧ (kb < w.heap.size ∨ kb ≠ m1) ∧ ((0 : Int) ≤ 3 ∧ 3 < (↑6 :
    Int)) ∧ ∃ (x6 : Int), ∃ (x7 : Int), w.cell? { block := kb, off := ko + 8 + Int.toNat 3 * 2 } = some (Value.int IntKind.i64 x6) ∧ w.cell?
    { block := kb, off := ko + 8 + Int.toNat 3 * 2 + 1 } = some (Value.int IntKind.i64 x7) ∧ (kb < w.heap.size ∨ kb ≠ m1) ∧ ∀ (w3 : World), RowKit.Below w.heap.size w w3 → KeptIn
    [(0, w.heap.size), (w1.heap.size, w2.heap.size)] [m1] w2 w3 → Calls Try.prog 64 #[Value.agg #[Value.int IntKind.i64 x4, Value.int IntKind.i64 x5], Value.agg #[Value.int
    IntKind.i64 x6, Value.int IntKind.i64 x7]] w3 fun (e2 : Ending) (w4 : World) => ∃ (x8 : Int), ∃ (x9 : Int), e2 = Ending.returned (Value.agg #[Value.int IntKind.i64 x8,
    Value.int IntKind.i64 x9]) ∧ RowKit.Below w3.heap.size w3 w4 ∧ ∀ (w5 : World), RowKit.Below w.heap.size w w5 → KeptIn [(0, w.heap.size), (w3.heap.size, w4.heap.size),
    (w1.heap.size, w2.heap.size)] [m1] w4 w5 → Calls Try.prog 67 #[Value.agg #[Value.int IntKind.i64 x2, Value.int IntKind.i64 x3], Value.agg #[Value.int IntKind.i64 x8, Value.int
    IntKind.i64 x9]] w5 fun (e3 : Ending) (w6 : World) => ∃ (x10 : Int), ∃ (x11 : Int), e3 = Ending.returned (Value.agg #[Value.int IntKind.i64 x10, Value.int IntKind.i64 x11]) ∧
    RowKit.Below w5.heap.size w5 w6 ∧ ((0 : Int) ≤ 1 ∧ 1 < (↑6 : Int)) ∧ ∃ (x12 : Int), ∃ (x13 : Int), w.cell? { block := kb, off := ko + 8 + Int.toNat 1 * 2 } = some (Value.int
    IntKind.i64 x12) ∧ w.cell? { block := kb, off := ko + 8 + Int.toNat 1 * 2 + 1 } = some (Value.int IntKind.i64 x13) ∧ (kb < w.heap.size ∨ kb ≠ m1) ∧ ((0 : Int) ≤ 5 ∧ 5 < (↑6 :
    Int)) ∧ ∃ (x14 : Int), ∃ (x15 : Int), w.cell? { block := kb, off := ko + 8 + Int.toNat 5 * 2 } = some (Value.int IntKind.i64 x14) ∧ w.cell?
    { block := kb, off := ko + 8 + Int.toNat 5 * 2 + 1 } = some (Value.int IntKind.i64 x15) ∧ (kb < w.heap.size ∨ kb ≠ m1) ∧ ∀ (w7 : World), RowKit.Below w.heap.size w w7 → KeptIn
    [(0, w.heap.size), (w5.heap.size, w6.heap.size), (w3.heap.size, w4.heap.size), (w1.heap.size, w2.heap.size)] [m1] w6 w7 → Calls Try.prog 64 #[Value.agg #[Value.int IntKind.i64
    x12, Value.int IntKind.i64 x13], Value.agg #[Value.int IntKind.i64 x14, Value.int IntKind.i64 x15]] w7 fun (e4 : Ending) (w8 : World) => ∃ (x16 : Int), ∃ (x17 : Int), e4 =
    Ending.returned (Value.agg #[Value.int IntKind.i64 x16, Value.int IntKind.i64 x17]) ∧ RowKit.Below w7.heap.size w7 w8 ∧ ∀ (w9 : World), RowKit.Below w.heap.size w w9 → KeptIn
    [(0, w.heap.size), (w7.heap.size, w8.heap.size), (w5.heap.size, w6.heap.size), (w3.heap.size, w4.heap.size), (w1.heap.size, w2.heap.size)] [m1] w8 w9 → Calls Try.prog 67
    #[Value.agg #[Value.int IntKind.i64 x10, Value.int IntKind.i64 x11], Value.agg #[Value.int IntKind.i64 x16, Value.int IntKind.i64 x17]] w9 fun (e5 : Ending) (w10 : World) => ∃
    (x18 : Int), ∃ (x19 : Int), e5 = Ending.returned (Value.agg #[Value.int IntKind.i64 x18, Value.int IntKind.i64 x19]) ∧ RowKit.Below w9.heap.size w9 w10 ∧ ∀ (w11 : World),
    RowKit.Below w.heap.size w w11 → KeptIn [(0, w.heap.size), (w9.heap.size, w10.heap.size), (w7.heap.size, w8.heap.size), (w5.heap.size, w6.heap.size), (w3.heap.size,
    w4.heap.size), (w1.heap.size, w2.heap.size)] [m1] w10 w11 → Calls Try.prog 44 #[Value.pointer (some { block := kb, off := ko })] w11 fun (e6 : Ending) (w12 : World) => ∃ (x20 :
    Int), ∃ (x21 : Int), e6 = Ending.returned (Value.agg #[Value.int IntKind.i64 x20, Value.int IntKind.i64 x21]) ∧ RowKit.Below w11.heap.size w11 w12 ∧ ∀ (w13 : World),
    RowKit.Below w.heap.size w w13 → KeptIn [(0, w.heap.size), (w11.heap.size, w12.heap.size), (w9.heap.size, w10.heap.size), (w7.heap.size, w8.heap.size), (w5.heap.size,
    w6.heap.size), (w3.heap.size, w4.heap.size), (w1.heap.size, w2.heap.size)] [m1] w12 w13 → Calls Try.prog 64 #[Value.agg #[Value.int IntKind.i64 x18, Value.int IntKind.i64 x19],
    Value.agg #[Value.int IntKind.i64 x20, Value.int IntKind.i64 x21]] w13 fun (e7 : Ending) (w14 : World) => ∃ (x22 : Int), ∃ (x23 : Int), e7 = Ending.returned (Value.agg
    #[Value.int IntKind.i64 x22, Value.int IntKind.i64 x23]) ∧ RowKit.Below w13.heap.size w13 w14 ∧ ∀ (m2 : Nat), w.heap.size ≤ m2 → m2 < w13.heap.size ∨ w14.heap.size ≤ m2 → m2 <
    w11.heap.size ∨ w12.heap.size ≤ m2 → m2 < w9.heap.size ∨ w10.heap.size ≤ m2 → m2 < w7.heap.size ∨ w8.heap.size ≤ m2 → m2 < w5.heap.size ∨ w6.heap.size ≤ m2 → m2 < w3.heap.size
    ∨ w4.heap.size ≤ m2 → m2 < w1.heap.size ∨ w2.heap.size ≤ m2 → ∀ (w15 : World), RowKit.Below w.heap.size w w15 → KeptIn [(0, w14.heap.size)] [m2, m1] w14 w15 → Calls Try.prog 84
    #[Value.pointer (some { block := kb, off := ko })] w15 fun (e8 : Ending) (w16 : World) => ∃ (x24 : Int), ∃ (x25 : Int), e8 = Ending.returned (Value.agg #[Value.int IntKind.i64
    x24, Value.int IntKind.i64 x25]) ∧ RowKit.Below w15.heap.size w15 w16 ∧ ((0 : Int) ≤ 2 ∧ 2 < (↑6 : Int)) ∧ ∃ (x26 : Int), ∃ (x27 : Int), w14.cell?
    { block := kb, off := ko + 8 + Int.toNat 2 * 2 } = some (Value.int IntKind.i64 x26) ∧ w14.cell? { block := kb, off := ko + 8 + Int.toNat 2 * 2 + 1 } = some (Value.int
    IntKind.i64 x27) ∧ (kb < w.heap.size ∨ kb ≠ m2 ∧ kb ≠ m1) ∧ ∀ (w17 : World), RowKit.Below w.heap.size w w17 → KeptIn [(0, w14.heap.size), (w15.heap.size, w16.heap.size)] [m2,
    m1] w16 w17 → Calls Try.prog 64 #[Value.agg #[Value.int IntKind.i64 x24, Value.int IntKind.i64 x25], Value.agg #[Value.int IntKind.i64 x26, Value.int IntKind.i64 x27]] w17 fun
    (e9 : Ending) (w18 : World) => ∃ (x28 : Int), ∃ (x29 : Int), e9 = Ending.returned (Value.agg #[Value.int IntKind.i64 x28, Value.int IntKind.i64 x29]) ∧ KeepX true w.heap.size
    [m2, m1] (fun _ => False) w17 w18 ∧ ∀ (w19 : World), RowKit.Below w.heap.size w w19 → KeptIn [(0, w18.heap.size)] [m2, m1] w18 w19 → Calls Try.prog 65 #[Value.int
    IntKind.i64 432] w19 fun (e10 : Ending) (w20 : World) => ∃ (x30 : Int), ∃ (x31 : Int), e10 = Ending.returned (Value.agg #[Value.int IntKind.i64 x30, Value.int IntKind.i64 x31])
    ∧ KeepX true w.heap.size [m2, m1] (fun _ => False) w19 w20 ∧ ∀ (w21 : World), RowKit.Below w.heap.size w w21 → KeptIn [(0, w20.heap.size)] [m2, m1] w20 w21 → Calls
    Try.prog 64 #[Value.agg #[Value.int IntKind.i64 x28, Value.int IntKind.i64 x29], Value.agg #[Value.int IntKind.i64 x30, Value.int IntKind.i64 x31]] w21 fun (e11 : Ending) (w22
    : World) => ∃ (x32 : Int), ∃ (x33 : Int), e11 = Ending.returned (Value.agg #[Value.int IntKind.i64 x32, Value.int IntKind.i64 x33]) ∧ KeepX true w.heap.size [m2, m1] (fun _ => False) w21 w22 ∧ ∀ (w23 : World), RowKit.Below w.heap.size w w23 → KeptIn [(0, w22.heap.size)] [m2, m1] w22 w23 → Calls Try.prog 62 #[Value.agg #[Value.int IntKind.i64
    x22, Value.int IntKind.i64 x23], Value.agg #[Value.int IntKind.i64 x32, Value.int IntKind.i64 x33]] w23 fun (e12 : Ending) (w24 : World) => ∃ (x34 : Int), ∃ (x35 : Int), e12 =
    Ending.returned (Value.agg #[Value.int IntKind.i64 x34, Value.int IntKind.i64 x35]) ∧ KeepX true w.heap.size [m2, m1] (fun _ => False) w23 w24 ∧ ((0 : Int) ≤ 4 ∧ 4 <
    (↑6 : Int)) ∧ ∃ (x36 : Int), ∃ (x37 : Int), w24.cell? { block := kb, off := ko + 8 + Int.toNat 4 * 2 } = some (Value.int IntKind.i64 x36) ∧ w24.cell?
    { block := kb, off := ko + 8 + Int.toNat 4 * 2 + 1 } = some (Value.int IntKind.i64 x37) ∧ (kb < w.heap.size ∨ kb ≠ m2 ∧ kb ≠ m1) ∧ ∀ (w25 : World), RowKit.Below w.heap.size w
    w25 → KeptIn [(0, w24.heap.size)] [m2, m1] w24 w25 → Calls Try.prog 63 #[Value.agg #[Value.int IntKind.i64 x36, Value.int IntKind.i64 x37]] w25 fun (e13 : Ending) (w26 : World)
    => ∃ (x38 : Int), ∃ (x39 : Int), e13 = Ending.returned (Value.agg #[Value.int IntKind.i64 x38, Value.int IntKind.i64 x39]) ∧ RowKit.Below w25.heap.size w25 w26 ∧ ∃ (x40 : Int),
    ∃ (x41 : Int), ∃ (a1 : Option Addr), ∃ (m7 : Nat), ∃ (m8 : Nat), ∃ (x42 : Int), ∃ (x43 : Int), ∃ (x44 : Int), ∃ (x45 : Int), w24.cell? { block := kb, off := ko + 0 } = some
    (Value.int IntKind.i64 x40) ∧ w24.cell? { block := kb, off := ko + 0 + 1 } = some (Value.int IntKind.i64 x41) ∧ w24.cell? { block := kb, off := ko + 0 + 1 + 1 } = some
    (Value.slice a1 m7 m8) ∧ w24.cell? { block := kb, off := ko + 0 + 1 + 1 + 1 } = some (Value.int IntKind.i64 x42) ∧ w24.cell? { block := kb, off := ko + 0 + 1 + 1 + 1 + 1 } =
    some (Value.int IntKind.i64 x43) ∧ w24.cell? { block := kb, off := ko + 0 + 1 + 1 + 1 + 1 + 1 } = some (Value.int IntKind.i64 x44) ∧ w24.cell?
    { block := kb, off := ko + 0 + 1 + 1 + 1 + 1 + 1 + 1 } = some (Value.int IntKind.i64 x45) ∧ (kb < w.heap.size ∨ kb ≠ m2 ∧ kb ≠ m1) ∧ ∀ (w27 : World), RowKit.Below w.heap.size w
    w27 → KeptIn [(0, w24.heap.size), (w25.heap.size, w26.heap.size)] [m2, m1] w26 w27 → Calls Try.prog 66 #[Value.agg #[Value.int IntKind.i64 x40, Value.int IntKind.i64 x41,
    Value.slice a1 m7 m8, Value.int IntKind.i64 x42, Value.int IntKind.i64 x43, Value.int IntKind.i64 x44, Value.int IntKind.i64 x45]] w27 fun (e14 : Ending) (w28 : World) => ∃
    (x46 : Int), e14 = Ending.returned (Value.int IntKind.i64 x46) ∧ KeepX true w.heap.size [m2, m1] (fun _ => False) w27 w28 ∧ ((-9223372036854775808 : Int) ≤ 4570 * x46
    ∧ 4570 * x46 ≤ 9223372036854775807) ∧ ∀ (w29 : World), RowKit.Below w.heap.size w w29 → KeptIn [(0, w28.heap.size)] [m2, m1] w28 w29 → Calls Try.prog 65 #[Value.int IntKind.i64
    (4570 * x46)] w29 fun (e15 : Ending) (w30 : World) => ∃ (x47 : Int), ∃ (x48 : Int), e15 = Ending.returned (Value.agg #[Value.int IntKind.i64 x47, Value.int IntKind.i64 x48]) ∧
    KeepX true w.heap.size [m2, m1] (fun _ => False) w29 w30 ∧ ∀ (w31 : World), RowKit.Below w.heap.size w w31 → KeptIn [(0, w30.heap.size)] [m2, m1] w30 w31 → Calls
    Try.prog 64 #[Value.agg #[Value.int IntKind.i64 x38, Value.int IntKind.i64 x39], Value.agg #[Value.int IntKind.i64 x47, Value.int IntKind.i64 x48]] w31 fun (e16 : Ending) (w32
    : World) => ∃ (x49 : Int), ∃ (x50 : Int), e16 = Ending.returned (Value.agg #[Value.int IntKind.i64 x49, Value.int IntKind.i64 x50]) ∧ KeepX true w.heap.size [m2, m1] (fun _ => False) w31 w32 ∧ ∀ (w33 : World), RowKit.Below w.heap.size w w33 → KeptIn [(0, w32.heap.size)] [m2, m1] w32 w33 → Calls Try.prog 62 #[Value.agg #[Value.int
    IntKind.i64 x34, Value.int IntKind.i64 x35], Value.agg #[Value.int IntKind.i64 x49, Value.int IntKind.i64 x50]] w33 fun (e17 : Ending) (w34 : World) => ∃ (x51 : Int), ∃ (x52 :
    Int), e17 = Ending.returned (Value.agg #[Value.int IntKind.i64 x51, Value.int IntKind.i64 x52]) ∧ KeepX true w.heap.size [m2, m1] (fun _ => False) w33 w34 ∧ ∀ (w35 :
    World), RowKit.Below w.heap.size w w35 → Kept [m2, m1] w34 w35 → R (Ending.returned (Value.agg #[Value.int IntKind.i64 x51, Value.int IntKind.i64 x52])) w35) : Calls Try.prog
    43 #[Value.pointer (some { block := kb, off := ko })] w R := calls_of_vc (pure := true) (wrapAt := []) (muts := []) (esc := []) (args := [SV.pv (PV.one (Lf.ptr kb ko))]) (vs :=
    [Value.pointer (some { block := kb, off := ko })]) Try.func43 rfl rfl rfl (Eq.mp (by kernel_rfl) h) 
set_option maxRecDepth 100000 in
set_option maxHeartbeats 2000000 in
theorem vc89 (a : Int) (b : Int) (w : World) (R : Ending → World → Prop) (h : (b ≠ 0 ∧ -9223372036854775808 ≤ a.tdiv b ∧ a.tdiv b ≤ 9223372036854775807) ∧ b ≠ 0 ∧ (a.tmod b < 0 →
    (-9223372036854775808 ≤ a.tdiv b - 1 ∧ a.tdiv b - (1 : Int) ≤ 9223372036854775807) ∧ ∀ (w1 : World), RowKit.Below w.heap.size w w1 → Kept [] w w1 → R (Ending.returned
    (Value.int IntKind.i64 (a.tdiv b - 1))) w1) ∧ (0 ≤ a.tmod b → ∀ (w2 : World), RowKit.Below w.heap.size w w2 → Kept [] w w2 → R (Ending.returned (Value.int IntKind.i64 (a.tdiv
    b))) w2)) : Calls Try.prog 89 #[Value.int IntKind.i64 a, Value.int IntKind.i64 b] w R := calls_of_vc (pure := true) (wrapAt := []) (muts := []) (esc := []) (args := [SV.pv
    (PV.one (Lf.int IntKind.i64 a)), SV.pv (PV.one (Lf.int IntKind.i64 b))]) (vs := [Value.int IntKind.i64 a, Value.int IntKind.i64 b]) Try.func89 rfl rfl rfl (Eq.mp (by
    kernel_rfl) h) 
set_option maxRecDepth 100000 in
set_option maxHeartbeats 2000000 in
theorem vc56 (kb : Nat) (ko : Nat) (s0 : Int) (s1 : Int) (w : World) (R : Ending → World → Prop) (h : ∀ (m1 : Nat), w.heap.size ≤ m1 → ∀ (m2 : Nat), w.heap.size ≤ m2 → ∀ (w1 :
    World), RowKit.Below w.heap.size w w1 → Kept [m2, m1] w w1 → Calls Try.prog 44 #[Value.pointer (some { block := kb, off := ko })] w1 fun (e1 : Ending) (w2 : World) => ∃ (x1 :
    Int), ∃ (x2 : Int), e1 = Ending.returned (Value.agg #[Value.int IntKind.i64 x1, Value.int IntKind.i64 x2]) ∧ KeepX true w.heap.size [m2, m1] (fun _ => False) w1 w2 ∧ ∀
    (w3 : World), RowKit.Below w.heap.size w w3 → KeptIn [(0, w2.heap.size)] [m2, m1] w2 w3 → Calls Try.prog 89 #[Value.int IntKind.i64 s0, Value.int IntKind.i64 x1] w3 fun (e2 :
    Ending) (w4 : World) => ∃ (x3 : Int), e2 = Ending.returned (Value.int IntKind.i64 x3) ∧ KeepX true w.heap.size [m2, m1] (fun _ => False) w3 w4 ∧ ((-9223372036854775808
    : Int) ≤ 0 - s1 ∧ 0 - s1 ≤ 9223372036854775807) ∧ ∀ (w5 : World), RowKit.Below w.heap.size w w5 → KeptIn [(0, w4.heap.size)] [m2, m1] w4 w5 → Calls Try.prog 89 #[Value.int
    IntKind.i64 (0 - s1), Value.int IntKind.i64 x1] w5 fun (e3 : Ending) (w6 : World) => ∃ (x4 : Int), e3 = Ending.returned (Value.int IntKind.i64 x4) ∧ KeepX true w.heap.size [m2,
    m1] (fun _ => False) w5 w6 ∧ ((-9223372036854775808 : Int) ≤ 0 - x4 ∧ 0 - x4 ≤ 9223372036854775807) ∧ ∀ (w7 : World), RowKit.Below w.heap.size w w7 → Kept [m2, m1] w6
    w7 → R (Ending.returned (Value.agg #[Value.int IntKind.i64 x3, Value.int IntKind.i64 (0 - x4)])) w7) : Calls Try.prog 56 #[Value.pointer (some { block := kb, off := ko }),
    Value.agg #[Value.int IntKind.i64 s0, Value.int IntKind.i64 s1]] w R := calls_of_vc (pure := true) (wrapAt := []) (muts := []) (esc := []) (args := [SV.pv (PV.one (Lf.ptr kb
    ko)), SV.pv (PV.agg [Lf.int IntKind.i64 s0, Lf.int IntKind.i64 s1])]) (vs := [Value.pointer (some { block := kb, off := ko }), Value.agg #[Value.int IntKind.i64 s0, Value.int
    IntKind.i64 s1]]) Try.func56 rfl rfl rfl (Eq.mp (by kernel_rfl) h) 
set_option maxRecDepth 100000 in
set_option maxHeartbeats 2000000 in
theorem vc55 (c0 : Int) (c1 : Int) (c2a : Option Addr) (c2n : Nat) (c2c : Nat) (c3 : Int) (c4 : Int) (c5 : Int) (c6 : Int) (b0 : Int) (b1 : Int) (b2 : Int) (b3 : Int) (b4 : Int)
    (b5 : Int) (b6 : Int) (b7 : Int) (w : World) (R : Ending → World → Prop) (h : ∀ (m1 : Nat), w.heap.size ≤ m1 → ∀ (m2 : Nat), w.heap.size ≤ m2 → ∀ (w1 : World), RowKit.Below
    w.heap.size w w1 → Kept [m2, m1] w w1 → Calls Try.prog 17 #[Value.agg #[Value.int IntKind.i64 c0, Value.int IntKind.i64 c1, Value.slice c2a c2n c2c, Value.int IntKind.i64 c3,
    Value.int IntKind.i64 c4, Value.int IntKind.i64 c5, Value.int IntKind.i64 c6]] w1 fun (e1 : Ending) (w2 : World) => ∃ (x1 : Int), e1 = Ending.returned (Value.int IntKind.i64
    x1) ∧ KeepX true w.heap.size [m2, m1] (fun _ => False) w1 w2 ∧ (x1 ≠ 0 → ∀ (w3 : World), RowKit.Below w.heap.size w w3 → Kept [m2, m1] w2 w3 → R (Ending.returned
    (Value.tuple #[Value.pointer none, Value.int IntKind.i64 x1])) w3) ∧ (x1 = 0 → ∀ (w4 : World), RowKit.Below w.heap.size w w4 → Kept [m2, m1] w2 w4 → Calls Try.prog 88
    #[Value.agg #[Value.int IntKind.i64 b0, Value.int IntKind.i64 b1, Value.int IntKind.i64 b2, Value.int IntKind.i64 b3, Value.int IntKind.i64 b4, Value.int IntKind.i64 b5,
    Value.int IntKind.i64 b6, Value.int IntKind.i64 b7]] w4 fun (e2 : Ending) (w5 : World) => ∃ (t1 : Bool), e2 = Ending.returned (Value.bool t1) ∧ KeepX true w.heap.size [m2, m1]
    (fun _ => False) w4 w5 ∧ ((!t1) = true → ∀ (w6 : World), RowKit.Below w.heap.size w w6 → Kept [m2, m1] w5 w6 → R (Ending.returned (Value.tuple #[Value.pointer none,
    Value.int IntKind.i64 2])) w6) ∧ ((!t1) = false → ∀ (w7 : World), RowKit.Below w.heap.size w w7 → Kept [m2, m1] w5 w7 → Calls Try.prog 57 #[Value.agg #[Value.int IntKind.i64
    c0, Value.int IntKind.i64 c1, Value.slice c2a c2n c2c, Value.int IntKind.i64 c3, Value.int IntKind.i64 c4, Value.int IntKind.i64 c5, Value.int IntKind.i64 c6], Value.agg
    #[Value.int IntKind.i64 b0, Value.int IntKind.i64 b1, Value.int IntKind.i64 b2, Value.int IntKind.i64 b3, Value.int IntKind.i64 b4, Value.int IntKind.i64 b5, Value.int
    IntKind.i64 b6, Value.int IntKind.i64 b7]] w7 fun (e3 : Ending) (w8 : World) => ∃ (a1 : Option Addr), e3 = Ending.returned (Value.pointer a1) ∧ KeepX true w.heap.size [m2, m1]
    (fun _ => False) w7 w8 ∧ ∀ (w9 : World), RowKit.Below w.heap.size w w9 → Kept [m2, m1] w8 w9 → R (Ending.returned (Value.tuple #[Value.pointer a1, Value.int
    IntKind.i64 0])) w9))) : Calls Try.prog 55 #[Value.agg #[Value.int IntKind.i64 c0, Value.int IntKind.i64 c1, Value.slice c2a c2n c2c, Value.int IntKind.i64 c3, Value.int
    IntKind.i64 c4, Value.int IntKind.i64 c5, Value.int IntKind.i64 c6], Value.agg #[Value.int IntKind.i64 b0, Value.int IntKind.i64 b1, Value.int IntKind.i64 b2, Value.int
    IntKind.i64 b3, Value.int IntKind.i64 b4, Value.int IntKind.i64 b5, Value.int IntKind.i64 b6, Value.int IntKind.i64 b7]] w R := calls_of_vc (pure := true) (wrapAt := []) (muts
    := []) (esc := []) (args := [SV.pv (PV.agg [Lf.int IntKind.i64 c0, Lf.int IntKind.i64 c1, Lf.sl c2a c2n c2c, Lf.int IntKind.i64 c3, Lf.int IntKind.i64 c4, Lf.int IntKind.i64
    c5, Lf.int IntKind.i64 c6]), SV.pv (PV.agg [Lf.int IntKind.i64 b0, Lf.int IntKind.i64 b1, Lf.int IntKind.i64 b2, Lf.int IntKind.i64 b3, Lf.int IntKind.i64 b4, Lf.int
    IntKind.i64 b5, Lf.int IntKind.i64 b6, Lf.int IntKind.i64 b7])]) (vs := [Value.agg #[Value.int IntKind.i64 c0, Value.int IntKind.i64 c1, Value.slice c2a c2n c2c, Value.int
    IntKind.i64 c3, Value.int IntKind.i64 c4, Value.int IntKind.i64 c5, Value.int IntKind.i64 c6], Value.agg #[Value.int IntKind.i64 b0, Value.int IntKind.i64 b1, Value.int
    IntKind.i64 b2, Value.int IntKind.i64 b3, Value.int IntKind.i64 b4, Value.int IntKind.i64 b5, Value.int IntKind.i64 b6, Value.int IntKind.i64 b7]]) Try.func55 rfl rfl rfl
    (Eq.mp (by kernel_rfl) h) 
set_option maxRecDepth 100000 in
set_option maxHeartbeats 2000000 in
theorem vc22 (c0 : Int) (c1 : Int) (c2a : Option Addr) (c2n : Nat) (c2c : Nat) (c3 : Int) (c4 : Int) (c5 : Int) (c6 : Int) (b0 : Int) (b1 : Int) (b2 : Int) (b3 : Int) (b4 : Int)
    (b5 : Int) (b6 : Int) (b7 : Int) (w : World) (R : Ending → World → Prop) (h : ∀ (m1 : Nat), w.heap.size ≤ m1 → ∀ (m2 : Nat), w.heap.size ≤ m2 → ∀ (m3 : Nat), w.heap.size ≤ m3 →
    ∀ (w1 : World), RowKit.Below w.heap.size w w1 → Kept [m3, m2, m1] w w1 → Calls Try.prog 55 #[Value.agg #[Value.int IntKind.i64 c0, Value.int IntKind.i64 c1, Value.slice c2a c2n
    c2c, Value.int IntKind.i64 c3, Value.int IntKind.i64 c4, Value.int IntKind.i64 c5, Value.int IntKind.i64 c6], Value.agg #[Value.int IntKind.i64 b0, Value.int IntKind.i64 b1,
    Value.int IntKind.i64 b2, Value.int IntKind.i64 b3, Value.int IntKind.i64 b4, Value.int IntKind.i64 b5, Value.int IntKind.i64 b6, Value.int IntKind.i64 b7]] w1 fun (e1 :
    Ending) (w2 : World) => ∃ (a1 : Option Addr), ∃ (x1 : Int), e1 = Ending.returned (Value.tuple #[Value.pointer a1, Value.int IntKind.i64 x1]) ∧ KeepX true w.heap.size [m3, m2,
    m1] (fun _ => False) w1 w2 ∧ (x1 ≠ 0 → ∀ (w3 : World), RowKit.Below w.heap.size w w3 → Kept [m3, m2, m1] w2 w3 → R (Ending.returned (Value.tuple #[Value.agg
    #[Value.int IntKind.i64 0, Value.int IntKind.i64 0], Value.int IntKind.i64 x1])) w3) ∧ (x1 = 0 → ∀ (w4 : World), RowKit.Below w.heap.size w w4 → Kept [m3, m2, m1] w2 w4 → Calls
    Try.prog 43 #[Value.pointer a1] w4 fun (e2 : Ending) (w5 : World) => ∃ (x2 : Int), ∃ (x3 : Int), e2 = Ending.returned (Value.agg #[Value.int IntKind.i64 x2, Value.int
    IntKind.i64 x3]) ∧ KeepX true w.heap.size [m3, m2, m1] (fun _ => False) w4 w5 ∧ ∀ (w6 : World), RowKit.Below w.heap.size w w6 → Kept [m3, m2, m1] w5 w6 → Calls
    Try.prog 56 #[Value.pointer a1, Value.agg #[Value.int IntKind.i64 x2, Value.int IntKind.i64 x3]] w6 fun (e3 : Ending) (w7 : World) => ∃ (x4 : Int), ∃ (x5 : Int), e3 =
    Ending.returned (Value.agg #[Value.int IntKind.i64 x4, Value.int IntKind.i64 x5]) ∧ KeepX true w.heap.size [m3, m2, m1] (fun _ => False) w6 w7 ∧ ∀ (w8 : World),
    RowKit.Below w.heap.size w w8 → Kept [m3, m2, m1] w7 w8 → R (Ending.returned (Value.tuple #[Value.agg #[Value.int IntKind.i64 x4, Value.int IntKind.i64 x5], Value.int
    IntKind.i64 0])) w8)) : Calls Try.prog 22 #[Value.agg #[Value.int IntKind.i64 c0, Value.int IntKind.i64 c1, Value.slice c2a c2n c2c, Value.int IntKind.i64 c3, Value.int
    IntKind.i64 c4, Value.int IntKind.i64 c5, Value.int IntKind.i64 c6], Value.agg #[Value.int IntKind.i64 b0, Value.int IntKind.i64 b1, Value.int IntKind.i64 b2, Value.int
    IntKind.i64 b3, Value.int IntKind.i64 b4, Value.int IntKind.i64 b5, Value.int IntKind.i64 b6, Value.int IntKind.i64 b7]] w R := calls_of_vc (pure := true) (wrapAt := []) (muts
    := []) (esc := []) (args := [SV.pv (PV.agg [Lf.int IntKind.i64 c0, Lf.int IntKind.i64 c1, Lf.sl c2a c2n c2c, Lf.int IntKind.i64 c3, Lf.int IntKind.i64 c4, Lf.int IntKind.i64
    c5, Lf.int IntKind.i64 c6]), SV.pv (PV.agg [Lf.int IntKind.i64 b0, Lf.int IntKind.i64 b1, Lf.int IntKind.i64 b2, Lf.int IntKind.i64 b3, Lf.int IntKind.i64 b4, Lf.int
    IntKind.i64 b5, Lf.int IntKind.i64 b6, Lf.int IntKind.i64 b7])]) (vs := [Value.agg #[Value.int IntKind.i64 c0, Value.int IntKind.i64 c1, Value.slice c2a c2n c2c, Value.int
    IntKind.i64 c3, Value.int IntKind.i64 c4, Value.int IntKind.i64 c5, Value.int IntKind.i64 c6], Value.agg #[Value.int IntKind.i64 b0, Value.int IntKind.i64 b1, Value.int
    IntKind.i64 b2, Value.int IntKind.i64 b3, Value.int IntKind.i64 b4, Value.int IntKind.i64 b5, Value.int IntKind.i64 b6, Value.int IntKind.i64 b7]]) Try.func22 rfl rfl rfl
    (Eq.mp (by kernel_rfl) h) 
end Go.Proofs
end
section
/- Contracts of the small functions of beat. -/
namespace Go.Proofs.R03
open Go.Vc Go.RowKit Go.Proofs

abbrev I (n : Int) : Value := .int .i64 n
abbrev Sp := Int × Int
abbrev spv (s : Sp) : Value := .agg #[I s.1, I s.2]
theorem getElem_of_lt {α : Type} {l : List α} {i : Nat} (h : i < l.length) : l[i]? = some l[i] := List.getElem?_eq_getElem h

/-- The place of the first one, or -1. -/
def idxOf {α : Type} (l : List α) (p : α → Bool) : Int := if l.any p then ((l.findIdx p : Nat) : Int) else -1
theorem idxOf_nonneg {α : Type} {l : List α} {p : α → Bool} : 0 ≤ idxOf l p ↔ l.any p = true := by
  unfold idxOf; split <;> simp_all
theorem idxOf_dec {α : Type} {l : List α} {p : α → Bool} : decide (0 ≤ idxOf l p) = l.any p := by
  rw [Bool.eq_iff_iff, decide_eq_true_iff, idxOf_nonneg]
theorem idxOf_hit {α : Type} {l : List α} {p : α → Bool} {i : Nat} (hi : i < l.length) (hno : ∀ j, j < i → ∀ y, l[j]? = some y → p y = false) (hp : p l[i] = true) : idxOf l p = i := by
  have hany : l.any p = true := List.any_eq_true.2 ⟨_, List.getElem_mem hi, hp⟩
  have hfi : l.findIdx p = i := (List.findIdx_eq hi).2 ⟨hp, fun j hj => hno j hj _ (getElem_of_lt (by omega))⟩
  unfold idxOf
  rw [if_pos hany, hfi]
theorem idxOf_miss {α : Type} {l : List α} {p : α → Bool} (hno : ∀ j, j < l.length → ∀ y, l[j]? = some y → p y = false) : idxOf l p = -1 := by
  unfold idxOf
  rw [if_neg]
  intro hany
  obtain ⟨y, hy, hp⟩ := List.any_eq_true.1 hany
  obtain ⟨i, hi, rfl⟩ := List.mem_iff_getElem.1 hy
  rw [hno i hi _ (getElem_of_lt hi)] at hp
  cases hp
theorem no_step {α : Type} {l : List α} {p : α → Bool} {n : Nat} (hn : n < l.length) (hno : ∀ j, j < n → ∀ y, l[j]? = some y → p y = false) (hp : p l[n] = false) : ∀ j, j < n + 1 → ∀ y, l[j]? = some y → p y = false := fun j hj y hy => by
  by_cases e : j < n
  · exact hno j e y hy
  · have : j = n := by omega
    subst this
    rw [getElem_of_lt hn] at hy
    obtain rfl := Option.some.inj hy
    exact hp

/-- A test that a function value makes, of values of a kind. -/
def FnOk {α : Type} (enc : α → Value) (f : Nat) (fi fc : List Value) (p : α → Bool) (l : List α) (B : Nat) (w0 : World) : Prop :=
  Callable Try.prog f ∧ ∀ x ∈ l, ∀ w, Below B w0 w → Calls Try.prog f (fi ++ [enc x] ++ fc).toArray w (Pure w (.bool (p x)))
theorem FnOk.keep {α : Type} {enc : α → Value} {f : Nat} {fi fc : List Value} {p : α → Bool} {l : List α} {w0 w1 : World} (h : FnOk enc f fi fc p l w0.heap.size w0) (hb : Below w0.heap.size w0 w1) : FnOk enc f fi fc p l w1.heap.size w1 :=
  ⟨h.1, fun x hx w hw => h.2 x hx w (hb.trans (hw.mono hb.size))⟩

theorem index_int {a : Option Addr} {c f : Nat} {fi fc : List Value} {p : Int → Bool} {l : List Int} {w : World} (hc : Cells w a (ints l)) (hl : (l.length : Int) ≤ 9223372036854775807)
    (hf : FnOk I f fi fc p l w.heap.size w) : Calls Try.prog 96 #[.slice a l.length c, .func (.func f) fi.toArray fc.toArray] w (Pure w (I (idxOf l p))) := by
  refine vc96 _ _ _ _ _ _ w _ ?_
  refine ⟨fun ls _ => match ls with | [.int _ _, .int _ x] => 0 ≤ x ∧ x ≤ l.length ∧ ∀ i, i < x.toNat → ∀ y, l[i]? = some y → p y = false | _ => False, fun ls => match ls with | [.int _ _, .int _ x] => l.length - x.toNat | _ => 0, fun w1 hb _ => ⟨by omega, by omega, fun i hi => by omega⟩, ?_⟩
  rintro x1 x2 w2 hb2 ⟨h0, hn, hno⟩
  refine ⟨fun hlt => ?_, fun hge w7 hb7 _ => ⟨by rw [idxOf_miss fun j hj => hno j (by omega)], hb7⟩⟩
  have hi : x2.toNat < l.length := by omega
  obtain ⟨b, o, rfl, hcell⟩ := hc x2.toNat _ (ints_get (getElem_of_lt hi))
  refine ⟨b, o, rfl, ⟨h0, hlt⟩, l[x2.toNat], cell_keep hb2 (by rw [Nat.mul_one]; exact hcell), hf.1, fun w3 hb3 _ => Pure.calls (hf.2 _ (List.getElem_mem hi) w3 hb3) fun w4 hb4 => ⟨p l[x2.toNat], rfl, .all hb4, fun ht w5 hb5 _ => ⟨by rw [idxOf_hit hi hno ht, Int.toNat_of_nonneg h0], hb5⟩, fun ht => ⟨by omega, fun w6 hb6 _ => ⟨⟨by omega, by omega, ?_⟩, ?_⟩⟩⟩⟩
  · rw [show (x2 + 1).toNat = x2.toNat + 1 by omega]
    exact no_step hi hno ht
  · show l.length - (x2 + 1).toNat < l.length - x2.toNat
    omega

theorem contains_int {a : Option Addr} {c f : Nat} {fi fc : List Value} {p : Int → Bool} {l : List Int} {w : World} (hc : Cells w a (ints l)) (hl : (l.length : Int) ≤ 9223372036854775807)
    (hf : FnOk I f fi fc p l w.heap.size w) : Calls Try.prog 86 #[.slice a l.length c, .func (.func f) fi.toArray fc.toArray] w (Pure w (.bool (l.any p))) :=
  vc86 _ _ _ _ _ _ w _ fun w1 hb1 _ => Pure.calls (index_int (c := c) (hc.keep hb1) hl (hf.keep hb1)) fun w2 hb2 => ⟨_, rfl, .all hb2, fun w3 hb3 _ => ⟨by rw [idxOf_dec], hb3⟩⟩

theorem within_any {a b : Int} {la : Option Addr} {c : Nat} {l : List Int} {w : World} (hc : Cells w la (ints l)) (hl : (l.length : Int) ≤ 9223372036854775807) :
    Calls Try.prog 51 #[I a, I b, .slice la l.length c] w (Pure w (.bool (l.all fun n => decide (a ≤ n ∧ n ≤ b)))) := by
  refine vc51 _ _ _ _ _ w _ fun m1 h1 m2 h2 w1 hb1 hk1 hc1 hc2 => ?_
  refine Pure.calls (contains_int (fi := []) (p := fun n => decide (n < a) || decide (b < n)) (hc.keep hb1) hl ⟨callOk_run (by rfl), fun x hx w2 hb2 => ?_⟩) fun w2 hb2 => ⟨_, rfl, .all hb2, fun w3 hb3 _ => ⟨?_, hb3⟩⟩
  · have k1 : w2.cell? ⟨m1, 0, none⟩ = some (I a) := cell_keep hb2 (cell_obj (vs := [I a]) hc1 rfl)
    have k2 : w2.cell? ⟨m2, 0, none⟩ = some (I b) := cell_keep hb2 (cell_obj (vs := [I b]) hc2 rfl)
    refine vc87 _ _ _ w2 _ ⟨a, k1, fun hlt w3 hb3 _ => ⟨?_, hb3⟩, fun hge => ⟨b, k2, fun w3 hb3 _ => ⟨?_, hb3⟩⟩⟩
    · simp [hlt]
    · simp [Int.not_lt.2 hge]
  · congr 2
    rw [Bool.eq_iff_iff]
    simp [List.all_eq_true]

theorem in1_any {w : World} {m : Nat} {a b x : Int} (h : w.heap[m]? = some (.cells #[I x] 3 (0, 0))) : Calls Try.prog 51 #[I a, I b, .slice (some ⟨m, 0, none⟩) 1 1] w (Pure w (.bool (decide (a ≤ x ∧ x ≤ b)))) := by
  have := within_any (l := [x]) (a := a) (b := b) (c := 1) (Cells.obj (vs := [I x]) h) (by simp)
  simpa using this

/-- Is a span valid between two integers? -/
abbrev okS (s : Sp) (a b : Int) : Prop := a ≤ s.1 ∧ s.1 ≤ s.2 ∧ s.2 ≤ b
theorem valid_any (s : Sp) (a b : Int) (w : World) : Calls Try.prog 52 #[spv s, I a, I b] w (Pure w (.bool (decide (okS s a b)))) := by
  refine vc52 _ _ _ _ w _ fun m1 h1 => ⟨fun hle m2 h2 w1 hb1 hk1 hc => ?_, fun hlt w4 hb4 _ => ⟨by rw [decide_eq_false (by omega)], hb4⟩⟩
  refine Pure.calls (within_any (l := [s.1, s.2]) (Cells.obj (vs := [I s.1, I s.2]) hc) (by simp)) fun w2 hb2 => ⟨_, rfl, .all hb2, fun w3 hb3 _ => ⟨?_, hb3⟩⟩
  congr 2
  rw [Bool.eq_iff_iff]
  simp
  omega
theorem has_any (s : Sp) (n : Int) (w : World) : Calls Try.prog 83 #[spv s, I n] w (Pure w (.bool (decide (s.1 ≤ n ∧ n ≤ s.2)))) :=
  vc83 _ _ _ w _ fun m1 h1 m2 h2 w1 hb1 hk1 hc => Pure.calls (in1_any hc) fun w2 hb2 => ⟨_, rfl, .all hb2, fun w3 hb3 _ => ⟨rfl, hb3⟩⟩
theorem one_any (n : Int) (w : World) : Calls Try.prog 65 #[I n] w (Pure w (spv (n, n))) := vc65 _ w _ fun m1 h1 w1 hb _ => ⟨rfl, hb⟩

/-- Neither end is farther from 0. -/
abbrev Bd (s : Sp) (B : Int) : Prop := (-B ≤ s.1 ∧ s.1 ≤ B) ∧ (-B ≤ s.2 ∧ s.2 ≤ B)
theorem mul_bd {a b A B : Int} (h1 : -A ≤ a ∧ a ≤ A) (h2 : -B ≤ b ∧ b ≤ B) : -(A * B) ≤ a * b ∧ a * b ≤ A * B := by
  have hB : 0 ≤ B := by omega
  have hA : 0 ≤ A := by omega
  rcases Int.le_total 0 a with ha | ha
  · have g1 : a * b ≤ a * B := Int.mul_le_mul_of_nonneg_left h2.2 ha
    have g2 : a * (-B) ≤ a * b := Int.mul_le_mul_of_nonneg_left h2.1 ha
    have g3 : a * B ≤ A * B := Int.mul_le_mul_of_nonneg_right h1.2 hB
    rw [Int.mul_neg] at g2
    omega
  · have g1 : a * B ≤ a * b := Int.mul_le_mul_of_nonpos_left ha h2.2
    have g2 : a * b ≤ a * (-B) := Int.mul_le_mul_of_nonpos_left ha h2.1
    have g3 : (-A) * B ≤ a * B := Int.mul_le_mul_of_nonneg_right h1.1 hB
    rw [Int.mul_neg] at g2
    rw [Int.neg_mul] at g3
    omega
def plusS (s t : Sp) : Sp := (s.1 + t.1, s.2 + t.2)
def byS (s t : Sp) : Sp := (min (min (min (s.1 * t.1) (s.1 * t.2)) (s.2 * t.1)) (s.2 * t.2), max (max (max (s.1 * t.1) (s.1 * t.2)) (s.2 * t.1)) (s.2 * t.2))
def lessS (s t : Sp) : Sp := plusS s (byS t (-1, -1))
def sqS (s : Sp) : Sp := (s.1 * s.1, s.2 * s.2)
theorem bd_plus {s t : Sp} {A B : Int} (h1 : Bd s A) (h2 : Bd t B) : Bd (plusS s t) (A + B) := by
  unfold plusS; simp only [Bd] at *; omega
theorem bd_by {s t : Sp} {A B : Int} (h1 : Bd s A) (h2 : Bd t B) : Bd (byS s t) (A * B) := by
  have g1 := mul_bd h1.1 h2.1
  have g2 := mul_bd h1.1 h2.2
  have g3 := mul_bd h1.2 h2.1
  have g4 := mul_bd h1.2 h2.2
  unfold byS; simp only [Bd]
  omega
theorem bd_neg {s : Sp} {A : Int} (h1 : Bd s A) : Bd (byS s (-1, -1)) A := by
  have := bd_by (t := (-1, -1)) (B := 1) h1 (by decide)
  rw [Int.mul_one] at this; exact this
theorem bd_less {s t : Sp} {A B : Int} (h1 : Bd s A) (h2 : Bd t B) : Bd (lessS s t) (A + B) := bd_plus h1 (bd_neg h2)
theorem less_eq {s t : Sp} (h : t.1 ≤ t.2) : lessS s t = (s.1 - t.2, s.2 - t.1) := by
  unfold lessS plusS byS
  simp only [Prod.mk.injEq]
  omega

theorem plus_any {s t : Sp} {A B : Int} (h1 : Bd s A) (h2 : Bd t B) (h : A + B ≤ 9000000000000000000) (w : World) : Calls Try.prog 67 #[spv s, spv t] w (Pure w (spv (plusS s t))) := by
  simp only [Bd] at h1 h2
  exact vc67 _ _ _ _ w _ fun m1 _ m2 _ m3 _ => ⟨by omega, by omega, fun w1 hb _ => ⟨rfl, hb⟩⟩

theorem min4 {x y z u : Int} {w : World} {m : Nat} (h : w.heap[m]? = some (.cells #[I x, I y, I z, I u] 3 (0, 0))) : Calls Try.prog 91 #[.slice (some ⟨m, 0, none⟩) 4 4] w (Pure w (I (min (min (min x y) z) u))) := by
  have hc : Cells w (some ⟨m, 0, none⟩) [I x, I y, I z, I u] := Cells.obj h
  refine vc91 _ _ _ w _ ⟨fun h => absurd h (by decide), fun _ => ⟨m, 0, rfl, by decide, x, hc.at (i := 0) rfl, ?_⟩⟩
  refine ⟨fun ls _ => match ls with | [.int _ q, .int _ i] => (i = 1 ∧ q = x) ∨ (i = 2 ∧ q = min x y) ∨ (i = 3 ∧ q = min (min x y) z) ∨ (i = 4 ∧ q = min (min (min x y) z) u) | _ => False, fun ls => match ls with | [.int _ _, .int _ i] => (4 - i).toNat | _ => 0, fun w3 _ _ => .inl ⟨rfl, rfl⟩, ?_⟩
  rintro q i w5 hb5 (⟨rfl, rfl⟩ | ⟨rfl, rfl⟩ | ⟨rfl, rfl⟩ | ⟨rfl, rfl⟩)
  · exact ⟨fun _ => ⟨m, 0, rfl, by decide, y, cell_keep hb5 (hc.at (i := 1) rfl), by decide, fun w6 hb _ => ⟨.inr (.inl ⟨rfl, rfl⟩), show (2 : Nat) < 3 by decide⟩⟩, fun h => absurd h (by decide)⟩
  · exact ⟨fun _ => ⟨m, 0, rfl, by decide, z, cell_keep hb5 (hc.at (i := 2) rfl), by decide, fun w6 hb _ => ⟨.inr (.inr (.inl ⟨rfl, rfl⟩)), show (1 : Nat) < 2 by decide⟩⟩, fun h => absurd h (by decide)⟩
  · exact ⟨fun _ => ⟨m, 0, rfl, by decide, u, cell_keep hb5 (hc.at (i := 3) rfl), by decide, fun w6 hb _ => ⟨.inr (.inr (.inr ⟨rfl, rfl⟩)), show (0 : Nat) < 1 by decide⟩⟩, fun h => absurd h (by decide)⟩
  · exact ⟨fun h => absurd h (by decide), fun _ w7 hb _ => ⟨rfl, hb⟩⟩
theorem max4 {x y z u : Int} {w : World} {m : Nat} (h : w.heap[m]? = some (.cells #[I x, I y, I z, I u] 3 (0, 0))) : Calls Try.prog 92 #[.slice (some ⟨m, 0, none⟩) 4 4] w (Pure w (I (max (max (max x y) z) u))) := by
  have hc : Cells w (some ⟨m, 0, none⟩) [I x, I y, I z, I u] := Cells.obj h
  refine vc92 _ _ _ w _ ⟨fun h => absurd h (by decide), fun _ => ⟨m, 0, rfl, by decide, x, hc.at (i := 0) rfl, ?_⟩⟩
  refine ⟨fun ls _ => match ls with | [.int _ q, .int _ i] => (i = 1 ∧ q = x) ∨ (i = 2 ∧ q = max x y) ∨ (i = 3 ∧ q = max (max x y) z) ∨ (i = 4 ∧ q = max (max (max x y) z) u) | _ => False, fun ls => match ls with | [.int _ _, .int _ i] => (4 - i).toNat | _ => 0, fun w3 _ _ => .inl ⟨rfl, rfl⟩, ?_⟩
  rintro q i w5 hb5 (⟨rfl, rfl⟩ | ⟨rfl, rfl⟩ | ⟨rfl, rfl⟩ | ⟨rfl, rfl⟩)
  · exact ⟨fun _ => ⟨m, 0, rfl, by decide, y, cell_keep hb5 (hc.at (i := 1) rfl), by decide, fun w6 hb _ => ⟨.inr (.inl ⟨rfl, rfl⟩), show (2 : Nat) < 3 by decide⟩⟩, fun h => absurd h (by decide)⟩
  · exact ⟨fun _ => ⟨m, 0, rfl, by decide, z, cell_keep hb5 (hc.at (i := 2) rfl), by decide, fun w6 hb _ => ⟨.inr (.inr (.inl ⟨rfl, rfl⟩)), show (1 : Nat) < 2 by decide⟩⟩, fun h => absurd h (by decide)⟩
  · exact ⟨fun _ => ⟨m, 0, rfl, by decide, u, cell_keep hb5 (hc.at (i := 3) rfl), by decide, fun w6 hb _ => ⟨.inr (.inr (.inr ⟨rfl, rfl⟩)), show (0 : Nat) < 1 by decide⟩⟩, fun h => absurd h (by decide)⟩
  · exact ⟨fun h => absurd h (by decide), fun _ w7 hb _ => ⟨rfl, hb⟩⟩

theorem by_any {s t : Sp} {A B : Int} (h1 : Bd s A) (h2 : Bd t B) (h : A * B ≤ 9000000000000000000) (w : World) : Calls Try.prog 64 #[spv s, spv t] w (Pure w (spv (byS s t))) := by
  have g1 := mul_bd h1.1 h2.1
  have g2 := mul_bd h1.1 h2.2
  have g3 := mul_bd h1.2 h2.1
  have g4 := mul_bd h1.2 h2.2
  refine vc64 _ _ _ _ w _ fun m1 _ m2 _ m3 _ => ⟨by omega, by omega, by omega, by omega, fun m4 _ w1 hb1 _ hc1 => ?_⟩
  exact Pure.calls (min4 hc1) fun w2 hb2 => ⟨_, rfl, .all hb2, fun w3 hb3 _ hc3 => Pure.calls (max4 hc3) fun w4 hb4 => ⟨_, rfl, .all hb4, fun w5 hb5 _ => ⟨rfl, hb5⟩⟩⟩
theorem less_any {s t : Sp} {A B : Int} (h1 : Bd s A) (h2 : Bd t B) (h : A + B ≤ 9000000000000000000) (w : World) : Calls Try.prog 62 #[spv s, spv t] w (Pure w (spv (lessS s t))) :=
  vc62 _ _ _ _ w _ fun m1 _ m2 _ m3 _ w1 hb1 _ => Pure.calls (one_any (-1) w1) fun w2 hb2 => ⟨_, _, rfl, .all hb2, fun w3 hb3 _ => Pure.calls (by_any (t := (-1, -1)) (B := 1) h2 (by decide) (by simp only [Bd] at h1; omega) w3) fun w4 hb4 => ⟨_, _, rfl, .all hb4, fun w5 hb5 _ =>
    Pure.calls (plus_any h1 (bd_neg h2) h w5) fun w6 hb6 => ⟨_, _, rfl, .all hb6, fun w7 hb7 _ => ⟨rfl, hb7⟩⟩⟩⟩
theorem square_any {s : Sp} {A : Int} (h1 : Bd s A) (h : A * A ≤ 9000000000000000000) (w : World) : Calls Try.prog 63 #[spv s] w (Pure w (spv (sqS s))) := by
  have g1 := mul_bd h1.1 h1.1
  have g2 := mul_bd h1.2 h1.2
  exact vc63 _ _ w _ fun m1 _ m2 _ => ⟨by omega, by omega, fun w1 hb _ => ⟨rfl, hb⟩⟩
end Go.Proofs.R03
end
section
/- Contracts: rods, clocks, bounds, and their errors. -/
namespace Go.Proofs.R03
open Go.Vc Go.RowKit Go.Proofs

structure Rod where
  len : Int
  lo : Int
  hi : Int
  up : Bool
deriving DecidableEq
def rodC (r : Rod) : List Value := [I r.len, I r.lo, I r.hi, .bool r.up]
def rodV (r : Rod) : Value := .agg #[I r.len, I r.lo, I r.hi, .bool r.up]
def rods (l : List Rod) : List Value := l.flatMap rodC
theorem rods_get {l : List Rod} {i : Nat} {x : Rod} (h : l[i]? = some x) : (rods l)[i * 4]? = some (I x.len) ∧ (rods l)[i * 4 + 1]? = some (I x.lo) ∧ (rods l)[i * 4 + 2]? = some (I x.hi) ∧ (rods l)[i * 4 + 3]? = some (.bool x.up) :=
  ⟨flat_get (k := 4) (j := 0) (fun _ => rfl) h (by omega), flat_get (k := 4) (j := 1) (fun _ => rfl) h (by omega), flat_get (k := 4) (j := 2) (fun _ => rfl) h (by omega), flat_get (k := 4) (j := 3) (fun _ => rfl) h (by omega)⟩
theorem rods_at {w : World} {a : Option Addr} {l : List Rod} (hc : Cells w a (rods l)) {i : Nat} {x : Rod} (h : l[i]? = some x) : ∃ b o, a = some ⟨b, o, none⟩ ∧ b < w.heap.size ∧ w.cell? ⟨b, o + i * 4, none⟩ = some (I x.len) ∧ w.cell? ⟨b, o + i * 4 + 1, none⟩ = some (I x.lo) ∧ w.cell? ⟨b, o + i * 4 + 1 + 1, none⟩ = some (I x.hi) ∧ w.cell? ⟨b, o + i * 4 + 1 + 1 + 1, none⟩ = some (.bool x.up) := by
  obtain ⟨g1, g2, g3, g4⟩ := rods_get h
  obtain ⟨b, o, rfl, c1⟩ := hc _ _ g1
  exact ⟨b, o, rfl, cell_lt c1, c1, hc.at g2, hc.at g3, hc.at g4⟩

def sgn (r : Rod) : Int := if r.up then -1 else 1
def lenC (l : List Rod) : Int := (l.map fun r => sgn r * r.len).sum
abbrev okRod (r : Rod) : Prop := (1 ≤ r.len ∧ r.len ≤ 100000) ∧ okS (r.lo, r.hi) 0 40000
abbrev driveOk (k : Int) (s : Sp) : Prop := (k = 1 ∧ okS s (-1000) 1000) ∨ (k = 2 ∧ okS s 0 1000) ∨ (k = 3 ∧ okS s 0 0)
structure Clk where
  kind : Int
  base : Int
  rods : List Rod
  air : Sp
  drive : Sp
deriving DecidableEq
def Clk.v (c : Clk) (a : Option Addr) (n : Nat) : Value := .agg #[I c.kind, I c.base, .slice a c.rods.length n, I c.air.1, I c.air.2, I c.drive.1, I c.drive.2]
abbrev OkC (c : Clk) : Prop := c.rods ≠ [] ∧ (∀ r ∈ c.rods, okRod r) ∧ (100 ≤ lenC c.rods ∧ lenC c.rods ≤ 100000) ∧ (-1000000 ≤ c.base ∧ c.base ≤ 1000000) ∧ okS c.air (-100) 100 ∧ driveOk c.kind c.drive
def check (c : Clk) : Int := if 8 < c.rods.length then 5 else if OkC c then 0 else 2

theorem sign_any (r : Rod) (w : World) : Calls Try.prog 93 #[rodV r] w (Pure w (I (sgn r))) :=
  vc93 _ _ _ _ w _ fun m1 h1 => ⟨fun h w1 hb _ => ⟨by unfold sgn; rw [if_pos h], hb⟩, fun h w2 hb _ => ⟨by unfold sgn; rw [if_neg (by rw [h]; decide)], hb⟩⟩

theorem sgn_mul (r : Rod) {A x : Int} (h : -A ≤ x ∧ x ≤ A) : -A ≤ sgn r * x ∧ sgn r * x ≤ A := by
  unfold sgn; split <;> omega
theorem len_take (l : List Rod) {i : Nat} (h : i < l.length) : lenC (l.take (i + 1)) = lenC (l.take i) + sgn l[i] * l[i].len := by
  unfold lenC
  rw [List.take_add_one, getElem_of_lt h]
  simp only [Option.toList_some, List.map_append, List.map_cons, List.map_nil, List.sum_append, List.sum_cons, List.sum_nil, Int.add_zero]
theorem len_bound {l : List Rod} (h : ∀ r ∈ l, 1 ≤ r.len ∧ r.len ≤ 100000) : -((l.length : Int) * 100000) ≤ lenC l ∧ lenC l ≤ (l.length : Int) * 100000 := by
  induction l with
  | nil => exact ⟨by decide, by decide⟩
  | cons r l ih =>
    have h1 := ih fun r hr => h r (List.mem_cons_of_mem _ hr)
    have h2 := h r List.mem_cons_self
    have h3 := sgn_mul r (A := 100000) (x := r.len) (by omega)
    have : lenC (r :: l) = sgn r * r.len + lenC l := by simp [lenC]
    rw [this]
    simp only [List.length_cons]
    omega

theorem length_any (c : Clk) {a : Option Addr} {n : Nat} {w : World} (hc : Cells w a (rods c.rods)) (hl : c.rods.length ≤ 1000) (hr : ∀ r ∈ c.rods, 1 ≤ r.len ∧ r.len ≤ 100000) : Calls Try.prog 66 #[c.v a n] w (Pure w (I (lenC c.rods))) := by
  refine vc66 _ _ _ _ _ _ _ _ _ w _ fun m1 h1 => ?_
  refine ⟨fun ls _ => match ls with | [.int _ s, .int _ i] => 0 ≤ i ∧ i ≤ c.rods.length ∧ s = lenC (c.rods.take i.toNat) | _ => False, fun ls => match ls with | [_, .int _ i] => (c.rods.length - i).toNat | _ => 0, fun w2 hb _ => ⟨by omega, by omega, rfl⟩, ?_⟩
  rintro s i w3 hb3 ⟨h0, hn, rfl⟩
  refine ⟨fun hi => ?_, fun hi w7 hb7 _ => ⟨by rw [List.take_of_length_le (by omega)], hb7⟩⟩
  have hix : i.toNat < c.rods.length := by omega
  obtain ⟨b, o, rfl, hlt, c1, c2, c3, c4⟩ := rods_at hc (getElem_of_lt hix)
  have hb := len_bound (l := c.rods.take i.toNat) fun r h => hr r (List.mem_of_mem_take h)
  rw [List.length_take] at hb
  have hm := hr _ (List.getElem_mem hix)
  have hs := sgn_mul c.rods[i.toNat] (A := 100000) (x := c.rods[i.toNat].len) (by omega)
  refine ⟨b, o, rfl, ⟨h0, hi⟩, _, _, _, _, cell_keep hb3 c1, cell_keep hb3 c2, cell_keep hb3 c3, cell_keep hb3 c4, .inl hlt, fun m4 h4 w4 hb4 _ => ?_⟩
  refine Pure.calls (sign_any c.rods[i.toNat] w4) fun w5 hb5 => ⟨_, rfl, .all hb5, by omega, by omega, by omega, fun w6 hb6 _ => ⟨⟨by omega, by omega, ?_⟩, ?_⟩⟩
  · rw [show (i + 1).toNat = i.toNat + 1 by omega, len_take _ hix]
  · show ((c.rods.length : Int) - (i + 1)).toNat < ((c.rods.length : Int) - i).toNat
    omega

theorem isRod_any (r : Rod) (w : World) : Calls Try.prog 49 #[rodV r] w (Pure w (.bool (decide (okRod r)))) := by
  refine vc49 _ _ _ _ w _ fun m1 h1 m2 h2 w1 hb1 _ hc1 => ?_
  refine Pure.calls (in1_any hc1) fun w2 hb2 => ⟨_, rfl, .all hb2, fun ht w3 hb3 _ => ?_, fun ht w6 hb6 _ => ⟨?_, hb6⟩⟩
  · simp only [decide_eq_true_eq] at ht
    refine Pure.calls (valid_any (r.lo, r.hi) 0 40000 w3) fun w4 hb4 => ⟨_, rfl, .all hb4, fun w5 hb5 _ => ⟨?_, hb5⟩⟩
    congr 2
    rw [Bool.eq_iff_iff, decide_eq_true_iff, decide_eq_true_iff]
    exact ⟨fun h => ⟨ht, h⟩, fun h => h.2⟩
  · simp only [decide_eq_false_iff_not] at ht
    rw [decide_eq_false fun h => ht h.1]
theorem notRod_any (r : Rod) (w : World) : Calls Try.prog 48 #[rodV r] w (Pure w (.bool (!decide (okRod r)))) :=
  vc48 _ _ _ _ w _ fun m1 h1 w1 hb1 _ => Pure.calls (isRod_any r w1) fun w2 hb2 => ⟨_, rfl, .all hb2, fun w3 hb3 _ => ⟨rfl, hb3⟩⟩

theorem index_rod {a : Option Addr} {c f : Nat} {fi fc : List Value} {p : Rod → Bool} {l : List Rod} {w : World} (hc : Cells w a (rods l)) (hl : (l.length : Int) ≤ 9223372036854775807)
    (hf : FnOk rodV f fi fc p l w.heap.size w) : Calls Try.prog 85 #[.slice a l.length c, .func (.func f) fi.toArray fc.toArray] w (Pure w (I (idxOf l p))) := by
  refine vc85 _ _ _ _ _ _ w _ ?_
  refine ⟨fun ls _ => match ls with | [.int _ _, .int _ x] => 0 ≤ x ∧ x ≤ l.length ∧ ∀ i, i < x.toNat → ∀ y, l[i]? = some y → p y = false | _ => False, fun ls => match ls with | [.int _ _, .int _ x] => l.length - x.toNat | _ => 0, fun w1 hb _ => ⟨by omega, by omega, fun i hi => by omega⟩, ?_⟩
  rintro x1 x2 w2 hb2 ⟨h0, hn, hno⟩
  refine ⟨fun hlt => ?_, fun hge w7 hb7 _ => ⟨by rw [idxOf_miss fun j hj => hno j (by omega)], hb7⟩⟩
  have hi : x2.toNat < l.length := by omega
  obtain ⟨b, o, rfl, _, c1, c2, c3, c4⟩ := rods_at hc (getElem_of_lt hi)
  refine ⟨b, o, rfl, ⟨h0, hlt⟩, _, _, _, _, cell_keep hb2 c1, cell_keep hb2 c2, cell_keep hb2 c3, cell_keep hb2 c4, hf.1, fun w3 hb3 _ => Pure.calls (hf.2 _ (List.getElem_mem hi) w3 hb3) fun w4 hb4 => ⟨p l[x2.toNat], rfl, .all hb4, fun ht w5 hb5 _ => ⟨by rw [idxOf_hit hi hno ht, Int.toNat_of_nonneg h0], hb5⟩, fun ht => ⟨by omega, fun w6 hb6 _ => ⟨⟨by omega, by omega, ?_⟩, ?_⟩⟩⟩⟩
  · rw [show (x2 + 1).toNat = x2.toNat + 1 by omega]
    exact no_step hi hno ht
  · show l.length - (x2 + 1).toNat < l.length - x2.toNat
    omega
theorem contains_rod {a : Option Addr} {c f : Nat} {fi fc : List Value} {p : Rod → Bool} {l : List Rod} {w : World} (hc : Cells w a (rods l)) (hl : (l.length : Int) ≤ 9223372036854775807)
    (hf : FnOk rodV f fi fc p l w.heap.size w) : Calls Try.prog 47 #[.slice a l.length c, .func (.func f) fi.toArray fc.toArray] w (Pure w (.bool (l.any p))) :=
  vc47 _ _ _ _ _ _ w _ fun w1 hb1 _ => Pure.calls (index_rod (c := c) (hc.keep hb1) hl (hf.keep hb1)) fun w2 hb2 => ⟨_, rfl, .all hb2, fun w3 hb3 _ => ⟨by rw [idxOf_dec], hb3⟩⟩

theorem isLength_any (c : Clk) {a : Option Addr} {n : Nat} {w : World} (hc : Cells w a (rods c.rods)) (hl : c.rods.length ≤ 1000) (hr : ∀ r ∈ c.rods, 1 ≤ r.len ∧ r.len ≤ 100000) : Calls Try.prog 50 #[c.v a n] w (Pure w (.bool (decide (100 ≤ lenC c.rods ∧ lenC c.rods ≤ 100000)))) :=
  vc50 _ _ _ _ _ _ _ _ _ w _ fun m1 h1 w1 hb1 _ => Pure.calls (length_any c (hc.keep hb1) hl hr) fun w2 hb2 => ⟨_, rfl, .all hb2, fun m3 h3 w3 hb3 _ hc3 => Pure.calls (in1_any hc3) fun w4 hb4 => ⟨_, rfl, .all hb4, fun w5 hb5 _ => ⟨rfl, hb5⟩⟩⟩
theorem isDrive_any (k : Int) (s : Sp) (w : World) : Calls Try.prog 53 #[I k, spv s] w (Pure w (.bool (decide (driveOk k s)))) := by
  refine vc53 _ _ _ w _ fun m1 h1 => ⟨fun hk w1 hb1 _ => ?_, fun hk => ⟨fun hk2 w4 hb4 _ => ?_, fun hk2 => ⟨fun hk3 w7 hb7 _ => ?_, fun hk3 w10 hb10 _ => ⟨by rw [decide_eq_false (by rintro (h | h | h) <;> omega)], hb10⟩⟩⟩⟩
  · refine Pure.calls (valid_any s (-1000) 1000 w1) fun w2 hb2 => ⟨_, rfl, .all hb2, fun w3 hb3 _ => ⟨?_, hb3⟩⟩
    congr 2; rw [Bool.eq_iff_iff, decide_eq_true_iff, decide_eq_true_iff]; unfold driveOk; omega
  · refine Pure.calls (valid_any s 0 1000 w4) fun w5 hb5 => ⟨_, rfl, .all hb5, fun w6 hb6 _ => ⟨?_, hb6⟩⟩
    congr 2; rw [Bool.eq_iff_iff, decide_eq_true_iff, decide_eq_true_iff]; unfold driveOk; omega
  · refine Pure.calls (valid_any s 0 0 w7) fun w8 hb8 => ⟨_, rfl, .all hb8, fun w9 hb9 _ => ⟨?_, hb9⟩⟩
    congr 2; rw [Bool.eq_iff_iff, decide_eq_true_iff, decide_eq_true_iff]; unfold driveOk; omega

theorem check_any (c : Clk) {a : Option Addr} {n : Nat} {w : World} (hc : Cells w a (rods c.rods)) : Calls Try.prog 17 #[c.v a n] w (Pure w (I (check c))) := by
  have two : ∀ {w' : World}, c.rods.length ≤ 8 → ¬ OkC c → Below w.heap.size w w' → Pure w (I (check c)) (.returned (I 2)) w' := fun h1 h2 hb => ⟨by rw [check, if_neg (by omega), if_neg h2], hb⟩
  refine vc17 _ _ _ _ _ _ _ _ _ w _ fun m1 h1 => ⟨fun hgt w1 hb1 _ => ⟨by rw [check, if_pos (by omega)], hb1⟩, fun hle => ⟨fun h0 w2 hb2 _ => two (by omega) (fun h => h.1 (List.length_eq_zero_iff.1 (by omega))) hb2, fun h0 w3 hb3 _ => ?_⟩⟩
  have hlen : c.rods.length ≤ 8 := by omega
  refine Pure.calls (contains_rod (fi := []) (fc := []) (p := fun r => !decide (okRod r)) (hc.keep hb3) (by omega) ⟨callOk_run (by rfl), fun r _ w' _ => notRod_any r w'⟩) fun w4 hb4 => ⟨_, rfl, .all hb4, fun ht w5 hb5 _ => two hlen (fun h => ?_) hb5, fun ht w6 hb6 _ => ?_⟩
  · obtain ⟨r, hr, hp⟩ := List.any_eq_true.1 ht
    simp only [Bool.not_eq_true', decide_eq_false_iff_not] at hp
    exact hp (h.2.1 r hr)
  have hrod : ∀ r ∈ c.rods, okRod r := fun r hr => by
    have := List.any_eq_false.1 ht r hr
    simpa using this
  refine Pure.calls (isLength_any c (hc.keep hb6) (by omega) fun r hr => (hrod r hr).1) fun w7 hb7 => ⟨_, rfl, .all hb7, fun ht w8 hb8 _ => two hlen (fun h => ?_) hb8, fun ht m4 h4 w9 hb9 _ hc9 => ?_⟩
  · simp only [Bool.not_eq_true', decide_eq_false_iff_not] at ht; exact ht h.2.2.1
  simp only [Bool.not_eq_false', decide_eq_true_eq] at ht
  refine Pure.calls (in1_any hc9) fun w10 hb10 => ⟨_, rfl, .all hb10, fun ht w11 hb11 _ => two hlen (fun h => ?_) hb11, fun ht2 w12 hb12 _ => ?_⟩
  · simp only [Bool.not_eq_true', decide_eq_false_iff_not] at ht; exact ht h.2.2.2.1
  simp only [Bool.not_eq_false', decide_eq_true_eq] at ht2
  refine Pure.calls (valid_any c.air (-100) 100 w12) fun w13 hb13 => ⟨_, rfl, .all hb13, fun ht w14 hb14 _ => two hlen (fun h => ?_) hb14, fun ht3 w15 hb15 _ => ?_⟩
  · simp only [Bool.not_eq_true', decide_eq_false_iff_not] at ht; exact ht h.2.2.2.2.1
  simp only [Bool.not_eq_false', decide_eq_true_eq] at ht3
  refine Pure.calls (isDrive_any c.kind c.drive w15) fun w16 hb16 => ⟨_, rfl, .all hb16, fun ht w17 hb17 _ => two hlen (fun h => ?_) hb17, fun ht4 w18 hb18 _ => ⟨?_, hb18⟩⟩
  · simp only [Bool.not_eq_true', decide_eq_false_iff_not] at ht; exact ht h.2.2.2.2.2
  simp only [Bool.not_eq_false', decide_eq_true_eq] at ht4
  rw [check, if_neg (by omega), if_pos ⟨fun h => h0 (by rw [h]; rfl), hrod, ht, ht2, ht3, ht4⟩]

structure Bn where
  heat : Sp
  press : Sp
  arc : Sp
  force : Sp
deriving DecidableEq
def Bn.v (b : Bn) : Value := .agg #[I b.heat.1, I b.heat.2, I b.press.1, I b.press.2, I b.arc.1, I b.arc.2, I b.force.1, I b.force.2]
abbrev OkB (b : Bn) : Prop := okS b.heat (-1000) 1000 ∧ okS b.press (-1000) 1000 ∧ okS b.arc 0 600 ∧ okS b.force (-100) 100

theorem limits_any (w : World) : Calls Try.prog 80 #[] w (Pure w (Bn.v ⟨(-1000, 1000), (-1000, 1000), (0, 600), (-100, 100)⟩)) := vc80 w _ fun m1 h1 w1 hb _ => ⟨rfl, hb⟩

def quadV (q : Sp × Sp) : Value := .agg #[I q.1.1, I q.1.2, I q.2.1, I q.2.2]
def quads (l : List (Sp × Sp)) : List Value := l.flatMap fun q => [I q.1.1, I q.1.2, I q.2.1, I q.2.2]
theorem notSpan_any (q : Sp × Sp) (w : World) : Calls Try.prog 98 #[quadV q] w (Pure w (.bool (!decide (okS q.1 q.2.1 q.2.2)))) :=
  vc98 _ _ _ _ w _ fun m1 h1 w1 hb1 _ => Pure.calls (valid_any q.1 q.2.1 q.2.2 w1) fun w2 hb2 => ⟨_, rfl, .all hb2, fun w3 hb3 _ => ⟨rfl, hb3⟩⟩
theorem quads_at {w : World} {a : Option Addr} {l : List (Sp × Sp)} (hc : Cells w a (quads l)) {i : Nat} {x : Sp × Sp} (h : l[i]? = some x) : ∃ b o, a = some ⟨b, o, none⟩ ∧ w.cell? ⟨b, o + i * 4, none⟩ = some (I x.1.1) ∧ w.cell? ⟨b, o + i * 4 + 1, none⟩ = some (I x.1.2) ∧ w.cell? ⟨b, o + i * 4 + 2, none⟩ = some (I x.2.1) ∧ w.cell? ⟨b, o + i * 4 + 3, none⟩ = some (I x.2.2) := by
  have g1 : (quads l)[i * 4]? = some (I x.1.1) := flat_get (k := 4) (j := 0) (fun _ => rfl) h (by omega)
  have g2 : (quads l)[i * 4 + 1]? = some (I x.1.2) := flat_get (k := 4) (j := 1) (fun _ => rfl) h (by omega)
  have g3 : (quads l)[i * 4 + 2]? = some (I x.2.1) := flat_get (k := 4) (j := 2) (fun _ => rfl) h (by omega)
  have g4 : (quads l)[i * 4 + 3]? = some (I x.2.2) := flat_get (k := 4) (j := 3) (fun _ => rfl) h (by omega)
  obtain ⟨b, o, rfl, c1⟩ := hc _ _ g1
  exact ⟨b, o, rfl, c1, hc.at g2, hc.at g3, hc.at g4⟩
theorem index_quad {a : Option Addr} {c f : Nat} {fi fc : List Value} {p : Sp × Sp → Bool} {l : List (Sp × Sp)} {w : World} (hc : Cells w a (quads l)) (hl : (l.length : Int) ≤ 9223372036854775807)
    (hf : FnOk quadV f fi fc p l w.heap.size w) : Calls Try.prog 99 #[.slice a l.length c, .func (.func f) fi.toArray fc.toArray] w (Pure w (I (idxOf l p))) := by
  refine vc99 _ _ _ _ _ _ w _ ?_
  refine ⟨fun ls _ => match ls with | [.int _ _, .int _ x] => 0 ≤ x ∧ x ≤ l.length ∧ ∀ i, i < x.toNat → ∀ y, l[i]? = some y → p y = false | _ => False, fun ls => match ls with | [.int _ _, .int _ x] => l.length - x.toNat | _ => 0, fun w1 hb _ => ⟨by omega, by omega, fun i hi => by omega⟩, ?_⟩
  rintro x1 x2 w2 hb2 ⟨h0, hn, hno⟩
  refine ⟨fun hlt => ?_, fun hge w7 hb7 _ => ⟨by rw [idxOf_miss fun j hj => hno j (by omega)], hb7⟩⟩
  have hi : x2.toNat < l.length := by omega
  obtain ⟨b, o, rfl, c1, c2, c3, c4⟩ := quads_at hc (getElem_of_lt hi)
  refine ⟨b, o, rfl, ⟨h0, hlt⟩, _, _, _, _, cell_keep hb2 c1, cell_keep hb2 c2, cell_keep hb2 c3, cell_keep hb2 c4, hf.1, fun w3 hb3 _ => Pure.calls (hf.2 _ (List.getElem_mem hi) w3 hb3) fun w4 hb4 => ⟨p l[x2.toNat], rfl, .all hb4, fun ht w5 hb5 _ => ⟨by rw [idxOf_hit hi hno ht, Int.toNat_of_nonneg h0], hb5⟩, fun ht => ⟨by omega, fun w6 hb6 _ => ⟨⟨by omega, by omega, ?_⟩, ?_⟩⟩⟩⟩
  · rw [show (x2 + 1).toNat = x2.toNat + 1 by omega]
    exact no_step hi hno ht
  · show l.length - (x2 + 1).toNat < l.length - x2.toNat
    omega
set_option maxRecDepth 100000 in
theorem isBounds_any (b : Bn) (w : World) : Calls Try.prog 88 #[b.v] w (Pure w (.bool (decide (OkB b)))) := by
  refine vc88 _ _ _ _ _ _ _ _ w _ fun m1 h1 w1 hb1 _ => Pure.calls (limits_any w1) fun w2 hb2 => ⟨_, _, _, _, _, _, _, _, rfl, .all hb2, fun m3 h3 m4 h4 w3 hb3 _ hc3 => ?_⟩
  obtain ⟨l, hl⟩ : ∃ l : List (Sp × Sp), l = [(b.heat, (-1000, 1000)), (b.press, (-1000, 1000)), (b.arc, (0, 600)), (b.force, (-100, 100))] := ⟨_, rfl⟩
  have hc : Cells w3 (some ⟨m4, 0, none⟩) (quads l) := by rw [hl]; exact Cells.obj hc3
  have hlen : l.length = 4 := by rw [hl]; rfl
  refine vc97 (fi := []) (fc := []) _ _ _ _ w3 _ fun w4 hb4 _ => ?_
  have hidx := index_quad (c := 4) (fi := []) (fc := []) (f := 98) (p := fun q => !decide (okS q.1 q.2.1 q.2.2)) (hc.keep hb4) (by rw [hlen]; omega) ⟨callOk_run (by rfl), fun q _ w' _ => notSpan_any q w'⟩
  rw [hlen] at hidx
  refine Pure.calls hidx fun w5 hb5 => ⟨_, rfl, .all hb5, fun w6 hb6 _ => ⟨_, rfl, .all hb6, fun w7 hb7 _ => ⟨?_, hb7⟩⟩⟩
  rw [idxOf_dec, hl]
  congr 2
  simp only [List.any_cons, List.any_nil, Bool.or_false, Bool.not_or, Bool.not_not]
  rw [Bool.eq_iff_iff]
  simp only [Bool.and_eq_true, decide_eq_true_eq]
end Go.Proofs.R03
end
section
/- Contracts: what is known of a clock, and its rate. -/
namespace Go.Proofs.R03
open Go.Vc Go.RowKit Go.Proofs

def spans (l : List Sp) : List Value := l.flatMap fun s => [I s.1, I s.2]
theorem spans_get {l : List Sp} {i : Nat} {x : Sp} (h : l[i]? = some x) : (spans l)[i * 2]? = some (I x.1) ∧ (spans l)[i * 2 + 1]? = some (I x.2) :=
  ⟨flat_get (k := 2) (j := 0) (fun _ => rfl) h (by omega), flat_get (k := 2) (j := 1) (fun _ => rfl) h (by omega)⟩
theorem spans_app (l m : List Sp) : spans (l ++ m) = spans l ++ spans m := by simp [spans]
theorem spans_len (l : List Sp) : (spans l).length = l.length * 2 := by
  induction l with
  | nil => rfl
  | cons s l ih => rw [show s :: l = [s] ++ l from rfl, spans_app, List.length_append, ih]; simp [spans]; omega

structure Kn where
  c : Clk
  grow : List Sp
  air : Sp
  drive : Sp
  heat : Sp
  press : Sp
  arc : Sp
  force : Sp
def knC (k : Kn) (ra : Option Addr) (rc : Nat) (ga : Option Addr) (gc : Nat) : List Value :=
  [I k.c.kind, I k.c.base, .slice ra k.c.rods.length rc, I k.c.air.1, I k.c.air.2, I k.c.drive.1, I k.c.drive.2, .slice ga k.grow.length gc,
    I k.air.1, I k.air.2, I k.drive.1, I k.drive.2, I k.heat.1, I k.heat.2, I k.press.1, I k.press.2, I k.arc.1, I k.arc.2, I k.force.1, I k.force.2]
/-- What is known of a clock, in memory. -/
structure KAt (B : Nat) (k : Kn) (kb : Nat) (ra : Option Addr) (rc : Nat) (ga : Option Addr) (gc : Nat) (w : World) : Prop where
  here : w.heap[kb]? = some (.cells (knC k ra rc ga gc).toArray 116 (0, 0))
  rods : Cells w ra (rods k.c.rods)
  grow : RowZ 95 2 B [] ga k.grow.length gc (spans k.grow) w
section
variable {B : Nat} {k : Kn} {kb : Nat} {ra : Option Addr} {rc : Nat} {ga : Option Addr} {gc : Nat} {w w' : World}
theorem KAt.keep (h : KAt B k kb ra rc ga gc w) (hb : Below w.heap.size w w') : KAt B k kb ra rc ga gc w' :=
  ⟨(hb.block kb (lt_of_some h.here)).trans h.here, h.rods.keep hb, h.grow.below hb⟩
theorem KAt.cell (h : KAt B k kb ra rc ga gc w) {i : Nat} {v : Value} (hv : (knC k ra rc ga gc)[i]? = some v) : w.cell? ⟨kb, i, none⟩ = some v := cell_obj h.here hv
theorem KAt.lt (h : KAt B k kb ra rc ga gc w) : kb < w.heap.size := lt_of_some h.here
end

/-- Integers that are not too great for the formulas. -/
structure OkK (k : Kn) : Prop where
  grown : k.grow.length = k.c.rods.length
  few : k.c.rods.length ≤ 8
  lens : ∀ r ∈ k.c.rods, 1 ≤ r.len ∧ r.len ≤ 100000
  len : 100 ≤ lenC k.c.rods ∧ lenC k.c.rods ≤ 100000
  base : -1000000 ≤ k.c.base ∧ k.c.base ≤ 1000000
  grow : ∀ s ∈ k.grow, Bd s 40000
  air : Bd k.air 100
  drive : Bd k.drive 1000
  heat : Bd k.heat 2000
  press : Bd k.press 2000
  arc : Bd k.arc 600
  force : Bd k.force 200

def newK (c : Clk) (b : Bn) : Kn := ⟨c, c.rods.map fun r => (r.lo, r.hi), c.air, c.drive, b.heat, b.press, b.arc, b.force⟩
def NewPost (c : Clk) (b : Bn) (ra : Option Addr) (rc : Nat) (w : World) (e : Ending) (w' : World) : Prop :=
  ∃ kb ga gc, e = .returned (.pointer (some ⟨kb, 0, none⟩)) ∧ Below w.heap.size w w' ∧ w.heap.size ≤ kb ∧ KAt w.heap.size (newK c b) kb ra rc ga gc w'

set_option maxHeartbeats 1000000 in
theorem newKnown_any (c : Clk) (b : Bn) {ra : Option Addr} {rc : Nat} {w : World} (hc : Cells w ra (rods c.rods)) (hl : c.rods.length ≤ 100000) : Calls Try.prog 57 #[c.v ra rc, b.v] w (NewPost c b ra rc w) := by
  refine vc57 _ _ _ _ _ _ _ _ _ _ _ _ _ _ _ _ _ w _ fun m1 h1 m2 h2 m3 h3 => ?_
  refine ⟨fun ls w' => match ls with | [.int _ i, .int _ q0, .int _ q1, .sl a n n', .int _ q2, .int _ q3, .int _ q4, .int _ q5, .sl g gn gc, .int _ q6, .int _ q7, .int _ q8, .int _ q9, .int _ q10, .int _ q11, .int _ q12, .int _ q13, .int _ q14, .int _ q15, .int _ q16, .int _ q17] => 0 ≤ i ∧ i ≤ c.rods.length ∧ q0 = c.kind ∧ q1 = c.base ∧ a = ra ∧ n = c.rods.length ∧ n' = rc ∧ q2 = c.air.1 ∧ q3 = c.air.2 ∧ q4 = c.drive.1 ∧ q5 = c.drive.2 ∧ gn = i.toNat ∧ q6 = c.air.1 ∧ q7 = c.air.2 ∧ q8 = c.drive.1 ∧ q9 = c.drive.2 ∧ q10 = b.heat.1 ∧ q11 = b.heat.2 ∧ q12 = b.press.1 ∧ q13 = b.press.2 ∧ q14 = b.arc.1 ∧ q15 = b.arc.2 ∧ q16 = b.force.1 ∧ q17 = b.force.2 ∧ Row 95 2 w.heap.size [m3, m2, m1] g gn gc (spans ((c.rods.take i.toNat).map fun r => (r.lo, r.hi))) w' ∧ (∀ b ∈ [m3, m2, m1], b < w'.heap.size) | _ => False,
    fun ls => match ls with | .int _ i :: _ => (c.rods.length - i).toNat | _ => 0, fun w2 hb hk => ⟨by omega, by omega, rfl, rfl, rfl, rfl, rfl, rfl, rfl, rfl, rfl, rfl, rfl, rfl, rfl, rfl, rfl, rfl, rfl, rfl, rfl, rfl, rfl, rfl, Row.nil, hk.own⟩, ?_⟩
  rintro i q0 q1 a n n' q2 q3 q4 q5 g gn gc q6 q7 q8 q9 q10 q11 q12 q13 q14 q15 q16 q17 w3 hb3 ⟨i0, il, rfl, rfl, rfl, rfl, rfl, rfl, rfl, rfl, rfl, rfl, rfl, rfl, rfl, rfl, rfl, rfl, rfl, rfl, rfl, rfl, rfl, rfl, hrow, ho⟩
  refine ⟨fun hi => ?_, fun hi w7 hb7 hk7 hc7 => ?_⟩
  · have hix : i.toNat < c.rods.length := by omega
    obtain ⟨b1, o1, rfl, hlt, c1, c2, c3, c4⟩ := rods_at hc (getElem_of_lt hix)
    refine ⟨b1, o1, rfl, ⟨i0, hi⟩, _, _, _, _, cell_keep hb3 c1, cell_keep hb3 c2, cell_keep hb3 c3, cell_keep hb3 c4, .inl hlt, fun m10 h10 m11 h11 w4 hb4 hk4 hc4 => ?_⟩
    have R4 : Row 95 2 w.heap.size [m11, m3, m10, m2, m1] g i.toNat gc (spans ((c.rods.take i.toNat).map fun r => (r.lo, r.hi))) w4 :=
      ((hrow.grow (ms := [m11, m10]) (by simp <;> omega)).less (ns' := [m11, m3, m10, m2, m1]) (by simp <;> omega)).chg hk4.chg fun b hb => hb
    refine append_row (P := Try.prog) (bytes := 16) (by kernel_rfl) (by omega) R4 (m := 1) (news := spans [(c.rods[i.toNat].lo, c.rods[i.toNat].hi)]) (Cells.obj (vs := [I _, I _]) hc4) rfl (by simp [spans] <;> exact ⟨rfl, rfl⟩) (by omega) (by omega) hb4.size hk4.own fun a2 c2 w5 R5 S cS hS => ?_
    refine ⟨a2, _, c2, rfl, cS.own (fun b hb => ⟨hk4.own b hb, fun hh => (hS b hh).2 hb⟩) (by simp) (fun _ => ⟨hb4.size, fun b hb => (hS b hb).1⟩), by omega, fun w6 hb6 hk6 => ⟨⟨by omega, by omega, rfl, rfl, rfl, rfl, rfl, rfl, rfl, rfl, rfl, by omega, rfl, rfl, rfl, rfl, rfl, rfl, rfl, rfl, rfl, rfl, rfl, rfl, ?_, fun b hb => hk6.own b (by simp at hb ⊢; omega)⟩, ?_⟩⟩
    · have R6 := (R5.chg (Chg.kept hk6) fun b hb => hb).less (ns' := [m3, m2, m1]) (by simp)
      rw [show (i + 1).toNat = i.toNat + 1 by omega, List.take_add_one, getElem_of_lt hix, List.map_append, spans_app]
      exact R6
    · show ((c.rods.length : Int) - (i + 1)).toNat < ((c.rods.length : Int) - i).toNat
      omega
  · have R7 := (hrow.chg (Chg.kept hk7) fun b hb => hb).less (ns' := []) (by simp)
    have hi' : i.toNat = c.rods.length := by omega
    rw [hi', List.take_length] at R7
    rw [hi'] at hc7
    refine ⟨m3, g, gc, rfl, hb7, h3, ⟨?_, hc.keep hb7, ?_⟩⟩
    · rw [hc7]; simp [newK, knC]
    · refine .inr ?_
      simp only [newK, List.length_map]; exact R7

/-- S, of the first rods. -/
def sumN (l : List Rod) (g : List Sp) : Nat → Sp
  | 0 => (0, 0)
  | n + 1 => plusS (sumN l g n) (match l[n]?, g[n]? with | some r, some s => byS s (sgn r * r.len, sgn r * r.len) | _, _ => (0, 0))
def sumK (k : Kn) : Sp := sumN k.c.rods k.grow k.c.rods.length
theorem sumN_bd {l : List Rod} {g : List Sp} (hg : ∀ s ∈ g, Bd s 40000) (hr : ∀ r ∈ l, 1 ≤ r.len ∧ r.len ≤ 100000) : ∀ n : Nat, Bd (sumN l g n) ((n : Int) * 4000000000)
  | 0 => by show Bd (0, 0) _; simp only [Bd]; omega
  | n + 1 => by
    have h1 := sumN_bd hg hr n
    have h2 : Bd (match l[n]?, g[n]? with | some r, some s => byS s (sgn r * r.len, sgn r * r.len) | _, _ => ((0, 0) : Sp)) 4000000000 := by
      split
      · rename_i r s h1 h2
        have hs := hg s (List.mem_of_getElem? h2)
        have hm := hr r (List.mem_of_getElem? h1)
        have := sgn_mul r (A := 100000) (x := r.len) (by omega)
        exact bd_by (A := 40000) (B := 100000) hs ⟨this, this⟩
      · simp only [Bd]; omega
    have := bd_plus h1 h2
    have e : (n : Int) * 4000000000 + 4000000000 = ((n + 1 : Nat) : Int) * 4000000000 := by omega
    rw [e] at this; exact this
theorem sumK_bd {k : Kn} (h : OkK k) : Bd (sumK k) 32000000000 := by
  have := sumN_bd h.grow h.lens k.c.rods.length
  have := h.few
  unfold sumK
  simp only [Bd] at *
  omega

section
variable {B : Nat} {k : Kn} {kb : Nat} {ra : Option Addr} {rc : Nat} {ga : Option Addr} {gc : Nat} {w : World}
theorem parts_any (h : KAt B k kb ra rc ga gc w) (hk : OkK k) : Calls Try.prog 44 #[.pointer (some ⟨kb, 0, none⟩)] w (Pure w (spv (10000 * lenC k.c.rods, 10000 * lenC k.c.rods))) := by
  have hlen := hk.len
  refine vc44 _ _ w _ fun m1 h1 => ⟨_, _, _, _, _, _, _, _, _, h.cell (i := 0) rfl, h.cell (i := 1) rfl, h.cell (i := 2) rfl, h.cell (i := 3) rfl, h.cell (i := 4) rfl, h.cell (i := 5) rfl, h.cell (i := 6) rfl, .inl h.lt, fun w1 hb1 _ => ?_⟩
  exact Pure.calls (length_any k.c (h.rods.keep hb1) (by have := hk.few; omega) hk.lens) fun w2 hb2 => ⟨_, rfl, .all hb2, by omega, fun w3 hb3 _ => Pure.calls (one_any _ w3) fun w4 hb4 => ⟨_, _, rfl, .all hb4, fun w5 hb5 _ => ⟨rfl, hb5⟩⟩⟩

set_option maxHeartbeats 1000000 in
theorem sum_any (h : KAt B k kb ra rc ga gc w) (hk : OkK k) : Calls Try.prog 84 #[.pointer (some ⟨kb, 0, none⟩)] w (Pure w (spv (sumK k))) := by
  have hfew := hk.few
  have hgr := hk.grown
  refine vc84 _ _ w _ fun m1 h1 => ⟨_, _, _, h.cell (i := 2) rfl, .inl h.lt, ?_⟩
  refine ⟨fun ls w' => match ls with | [.int _ i, .int _ x, .int _ y] => 0 ≤ i ∧ i ≤ k.c.rods.length ∧ (x, y) = sumN k.c.rods k.grow i.toNat | _ => False, fun ls => match ls with | .int _ i :: _ => (k.c.rods.length - i).toNat | _ => 0, fun w2 hb _ => ⟨by omega, by omega, rfl⟩, ?_⟩
  rintro i x y w3 hb3 ⟨i0, il, hxy⟩
  have h3 := h.keep hb3
  refine ⟨fun hi => ?_, fun hi w13 hb13 _ => ⟨?_, hb13⟩⟩
  · have hix : i.toNat < k.c.rods.length := by omega
    obtain ⟨b1, o1, e1, hlt, c1, c2, c3, c4⟩ := rods_at h.rods (getElem_of_lt hix)
    have hm := hk.lens _ (List.getElem_mem hix)
    have hs := sgn_mul k.c.rods[i.toNat] (A := 100000) (x := k.c.rods[i.toNat].len) (by omega)
    refine ⟨b1, o1, e1, ⟨i0, hi⟩, _, _, _, _, cell_keep hb3 c1, cell_keep hb3 c2, cell_keep hb3 c3, cell_keep hb3 c4, .inl hlt, fun m6 h6 w4 hb4 _ => ?_⟩
    refine Pure.calls (sign_any k.c.rods[i.toNat] w4) fun w5 hb5 => ⟨_, rfl, hb5, by omega, fun w6 hb6 _ => ?_⟩
    refine Pure.calls (one_any _ w6) fun w7 hb7 => ?_
    have hgx : i.toNat < k.grow.length := by omega
    obtain ⟨g1, g2⟩ := spans_get (getElem_of_lt hgx)
    obtain ⟨b2, o2, e2, d1⟩ := h.grow.cells _ _ g1
    have d2 := (show Cells w (some ⟨b2, o2, none⟩) (spans k.grow) from e2 ▸ h.grow.cells).at g2
    refine ⟨_, _, rfl, hb7, _, _, _, h3.cell (i := 7) rfl, .inl h.lt, b2, o2, e2, ⟨i0, by omega⟩, _, _, cell_keep hb3 d1, cell_keep hb3 d2, .inl (cell_lt d1), fun w8 hb8 _ => ?_⟩
    have hbd := hk.grow _ (List.getElem_mem hgx)
    have hsum := sumN_bd hk.grow hk.lens i.toNat
    rw [← hxy] at hsum
    have hby : Bd (byS k.grow[i.toNat] (sgn k.c.rods[i.toNat] * k.c.rods[i.toNat].len, sgn k.c.rods[i.toNat] * k.c.rods[i.toNat].len)) (40000 * 100000) := bd_by hbd ⟨hs, hs⟩
    refine Pure.calls (by_any (s := k.grow[i.toNat]) (t := (_, _)) hbd ⟨hs, hs⟩ (by omega) w8) fun w9 hb9 => ⟨_, _, rfl, .all hb9, fun w10 hb10 _ => ?_⟩
    refine Pure.calls (plus_any (s := (x, y)) hsum hby (by omega) w10) fun w11 hb11 => ⟨_, _, rfl, .all hb11, by omega, fun w12 hb12 _ => ⟨⟨by omega, by omega, ?_⟩, ?_⟩⟩
    · rw [show (i + 1).toNat = i.toNat + 1 by omega, sumN, ← hxy, getElem_of_lt hix, getElem_of_lt hgx]
    · show ((k.c.rods.length : Int) - (i + 1)).toNat < ((k.c.rods.length : Int) - i).toNat
      omega
  · unfold sumK
    rw [← show i.toNat = k.c.rods.length by omega, ← hxy]

def baseK (k : Kn) : Sp := byS (plusS (plusS (k.c.base, k.c.base) (byS k.air k.press)) (byS k.drive k.force)) (10000 * lenC k.c.rods, 10000 * lenC k.c.rods)
def heatK (k : Kn) : Sp := byS (byS (sumK k) k.heat) (432, 432)
def arcK (k : Kn) : Sp := byS (sqS k.arc) (4570 * lenC k.c.rods, 4570 * lenC k.c.rods)
def rateK (k : Kn) : Sp := lessS (lessS (baseK k) (heatK k)) (arcK k)
theorem bd_sq {s : Sp} {A : Int} (h1 : Bd s A) : Bd (sqS s) (A * A) := ⟨mul_bd h1.1 h1.1, mul_bd h1.2 h1.2⟩
theorem bd_one {x A : Int} (h : -A ≤ x ∧ x ≤ A) : Bd (x, x) A := ⟨h, h⟩
theorem len_bd {k : Kn} (h : OkK k) (n : Int) (h0 : 0 ≤ n) : Bd (n * lenC k.c.rods, n * lenC k.c.rods) (n * 100000) := by
  have := h.len
  have := mul_bd (a := n) (b := lenC k.c.rods) (A := n) (B := 100000) (by omega) (by omega)
  exact ⟨this, this⟩
theorem baseK_bd {k : Kn} (h : OkK k) : Bd (baseK k) ((1000000 + 100 * 2000 + 1000 * 200) * (10000 * 100000)) :=
  bd_by (bd_plus (bd_plus (bd_one h.base) (bd_by h.air h.press)) (bd_by h.drive h.force)) (len_bd h 10000 (by decide))
theorem heatK_bd {k : Kn} (h : OkK k) : Bd (heatK k) (32000000000 * 2000 * 432) := bd_by (bd_by (sumK_bd h) h.heat) (bd_one (by decide))
theorem arcK_bd {k : Kn} (h : OkK k) : Bd (arcK k) (600 * 600 * (4570 * 100000)) := bd_by (bd_sq h.arc) (len_bd h 4570 (by decide))
theorem rateK_bd {k : Kn} (h : OkK k) : Bd (rateK k) 30000000000000000 := by
  have := bd_less (bd_less (baseK_bd h) (heatK_bd h)) (arcK_bd h)
  unfold rateK
  simp only [Bd] at *
  omega

set_option maxHeartbeats 1000000 in
theorem rate_any (h : KAt B k kb ra rc ga gc w) (hk : OkK k) : Calls Try.prog 43 #[.pointer (some ⟨kb, 0, none⟩)] w (Pure w (spv (rateK k))) := by
  have hlen := hk.len
  have lt := h.lt
  refine vc43 _ _ w _ fun m1 h1 => ⟨_, h.cell (i := 1) rfl, .inl lt, fun w1 hb1 _ => ?_⟩
  refine Pure.calls (one_any _ w1) fun w2 hb2 => ⟨_, _, rfl, hb2, by decide, _, _, h.cell (i := 8) rfl, h.cell (i := 9) rfl, .inl lt, by decide, _, _, h.cell (i := 14) rfl, h.cell (i := 15) rfl, .inl lt, fun w3 hb3 _ => ?_⟩
  refine Pure.calls (by_any hk.air hk.press (by decide) w3) fun w4 hb4 => ⟨_, _, rfl, hb4, fun w5 hb5 _ => ?_⟩
  refine Pure.calls (plus_any (bd_one hk.base) (bd_by hk.air hk.press) (by decide) w5) fun w6 hb6 => ⟨_, _, rfl, hb6, by decide, _, _, h.cell (i := 10) rfl, h.cell (i := 11) rfl, .inl lt, by decide, _, _, h.cell (i := 18) rfl, h.cell (i := 19) rfl, .inl lt, fun w7 hb7 _ => ?_⟩
  refine Pure.calls (by_any hk.drive hk.force (by decide) w7) fun w8 hb8 => ⟨_, _, rfl, hb8, fun w9 hb9 _ => ?_⟩
  refine Pure.calls (plus_any (bd_plus (bd_one hk.base) (bd_by hk.air hk.press)) (bd_by hk.drive hk.force) (by decide) w9) fun w10 hb10 => ⟨_, _, rfl, hb10, fun w11 hb11 _ => ?_⟩
  refine Pure.calls (parts_any (h.keep hb11) hk) fun w12 hb12 => ⟨_, _, rfl, hb12, fun w13 hb13 _ => ?_⟩
  refine Pure.calls (by_any (bd_plus (bd_plus (bd_one hk.base) (bd_by hk.air hk.press)) (bd_by hk.drive hk.force)) (len_bd hk 10000 (by decide)) (by decide) w13) fun w14 hb14 => ⟨_, _, rfl, hb14, fun m2 h2 _ _ _ _ _ _ _ w15 hb15 _ => ?_⟩
  have b14 : Below w.heap.size w w14 := hb13.trans (hb14.mono hb13.size)
  have h14 := h.keep b14
  have ne2 : kb < w.heap.size ∨ kb ≠ m2 ∧ kb ≠ m1 := .inl lt
  refine Pure.calls (sum_any (h.keep hb15) hk) fun w16 hb16 => ⟨_, _, rfl, hb16, by decide, _, _, h14.cell (i := 12) rfl, h14.cell (i := 13) rfl, ne2, fun w17 hb17 _ => ?_⟩
  refine Pure.calls (by_any (sumK_bd hk) hk.heat (by decide) w17) fun w18 hb18 => ⟨_, _, rfl, .all hb18, fun w19 hb19 _ => ?_⟩
  refine Pure.calls (one_any 432 w19) fun w20 hb20 => ⟨_, _, rfl, .all hb20, fun w21 hb21 _ => ?_⟩
  refine Pure.calls (by_any (bd_by (sumK_bd hk) hk.heat) (bd_one (A := 432) (by decide)) (by decide) w21) fun w22 hb22 => ⟨_, _, rfl, .all hb22, fun w23 hb23 _ => ?_⟩
  refine Pure.calls (less_any (baseK_bd hk) (heatK_bd hk) (by decide) w23) fun w24 hb24 => ?_
  have b24 : Below w.heap.size w w24 := hb23.trans (hb24.mono hb23.size)
  have h24 := h.keep b24
  refine ⟨_, _, rfl, .all hb24, by decide, _, _, h24.cell (i := 16) rfl, h24.cell (i := 17) rfl, ne2, fun w25 hb25 _ => ?_⟩
  refine Pure.calls (square_any hk.arc (by decide) w25) fun w26 hb26 => ⟨_, _, rfl, hb26, _, _, _, _, _, _, _, _, _, h24.cell (i := 0) rfl, h24.cell (i := 1) rfl, h24.cell (i := 2) rfl, h24.cell (i := 3) rfl, h24.cell (i := 4) rfl, h24.cell (i := 5) rfl, h24.cell (i := 6) rfl, ne2, fun w27 hb27 _ => ?_⟩
  refine Pure.calls (length_any k.c (h.rods.keep hb27) (by have := hk.few; omega) hk.lens) fun w28 hb28 => ⟨_, rfl, .all hb28, by omega, fun w29 hb29 _ => ?_⟩
  refine Pure.calls (one_any _ w29) fun w30 hb30 => ⟨_, _, rfl, .all hb30, fun w31 hb31 _ => ?_⟩
  refine Pure.calls (by_any (bd_sq hk.arc) (len_bd hk 4570 (by decide)) (by decide) w31) fun w32 hb32 => ⟨_, _, rfl, .all hb32, fun w33 hb33 _ => ?_⟩
  exact Pure.calls (less_any (bd_less (baseK_bd hk) (heatK_bd hk)) (arcK_bd hk) (by decide) w33) fun w34 hb34 => ⟨_, _, rfl, .all hb34, fun w35 hb35 _ => ⟨rfl, hb35⟩⟩
end
end Go.Proofs.R03
end
section
/- The conditions of the functions, printed by program; each is what the generator reckons (kernel_rfl). -/
namespace Go.Proofs
open Go.Vc
set_option maxRecDepth 100000 in
set_option maxHeartbeats 2000000 in
theorem vc29 (c0 : Int) (c1 : Int) (c2a : Option Addr) (c2n : Nat) (c2c : Nat) (c3 : Int) (c4 : Int) (c5 : Int) (c6 : Int) (p1from0 : Int) (p1from1 : Int) (p1from2 : Int) (p1from3
    : Int) (p1from4 : Int) (p1from5 : Int) (p1from6 : Int) (p1from7 : Int) (p2to0 : Int) (p2to1 : Int) (p2to2 : Int) (p2to3 : Int) (p2to4 : Int) (p2to5 : Int) (p2to6 : Int) (p2to7
    : Int) (w : World) (R : Ending → World → Prop) (h : ∀ (m1 : Nat), w.heap.size ≤ m1 → ∀ (m2 : Nat), w.heap.size ≤ m2 → ∀ (m3 : Nat), w.heap.size ≤ m3 → ∀ (m4 : Nat), w.heap.size
    ≤ m4 → ∀ (w1 : World), RowKit.Below w.heap.size w w1 → Kept [m4, m3, m2, m1] w w1 → Calls Try.prog 55 #[Value.agg #[Value.int IntKind.i64 c0, Value.int IntKind.i64 c1,
    Value.slice c2a c2n c2c, Value.int IntKind.i64 c3, Value.int IntKind.i64 c4, Value.int IntKind.i64 c5, Value.int IntKind.i64 c6], Value.agg #[Value.int IntKind.i64 p1from0,
    Value.int IntKind.i64 p1from1, Value.int IntKind.i64 p1from2, Value.int IntKind.i64 p1from3, Value.int IntKind.i64 p1from4, Value.int IntKind.i64 p1from5, Value.int IntKind.i64
    p1from6, Value.int IntKind.i64 p1from7]] w1 fun (e1 : Ending) (w2 : World) => ∃ (a1 : Option Addr), ∃ (x1 : Int), e1 = Ending.returned (Value.tuple #[Value.pointer a1,
    Value.int IntKind.i64 x1]) ∧ KeepX true w.heap.size [m4, m3, m2, m1] (fun _ => False) w1 w2 ∧ (x1 = 0 → ∀ (w3 : World), RowKit.Below w.heap.size w w3 → Kept [m4, m3,
    m2, m1] w2 w3 → Calls Try.prog 55 #[Value.agg #[Value.int IntKind.i64 c0, Value.int IntKind.i64 c1, Value.slice c2a c2n c2c, Value.int IntKind.i64 c3, Value.int IntKind.i64 c4,
    Value.int IntKind.i64 c5, Value.int IntKind.i64 c6], Value.agg #[Value.int IntKind.i64 p2to0, Value.int IntKind.i64 p2to1, Value.int IntKind.i64 p2to2, Value.int IntKind.i64
    p2to3, Value.int IntKind.i64 p2to4, Value.int IntKind.i64 p2to5, Value.int IntKind.i64 p2to6, Value.int IntKind.i64 p2to7]] w3 fun (e2 : Ending) (w4 : World) => ∃ (a2 : Option
    Addr), ∃ (x2 : Int), e2 = Ending.returned (Value.tuple #[Value.pointer a2, Value.int IntKind.i64 x2]) ∧ KeepX true w.heap.size [m4, m3, m2, m1] (fun _ => False) w3 w4
    ∧ (x2 ≠ 0 → ∀ (w5 : World), RowKit.Below w.heap.size w w5 → Kept [m4, m3, m2, m1] w4 w5 → R (Ending.returned (Value.tuple #[Value.agg #[Value.int IntKind.i64 0, Value.int
    IntKind.i64 0], Value.int IntKind.i64 x2])) w5) ∧ (x2 = 0 → ∀ (w6 : World), RowKit.Below w.heap.size w w6 → Kept [m4, m3, m2, m1] w4 w6 → Calls Try.prog 57 #[Value.agg
    #[Value.int IntKind.i64 c0, Value.int IntKind.i64 c1, Value.slice c2a c2n c2c, Value.int IntKind.i64 c3, Value.int IntKind.i64 c4, Value.int IntKind.i64 c5, Value.int
    IntKind.i64 c6], Value.agg #[Value.int IntKind.i64 p2to0, Value.int IntKind.i64 p2to1, Value.int IntKind.i64 p2to2, Value.int IntKind.i64 p2to3, Value.int IntKind.i64 p2to4,
    Value.int IntKind.i64 p2to5, Value.int IntKind.i64 p2to6, Value.int IntKind.i64 p2to7]] w6 fun (e3 : Ending) (w7 : World) => ∃ (a3 : Option Addr), e3 = Ending.returned
    (Value.pointer a3) ∧ KeepX true w.heap.size [m4, m3, m2, m1] (fun _ => False) w6 w7 ∧ ∃ (F1 : List Lf → World → Prop), ∃ (F2 : List Lf → Nat), (∀ (w9 : World),
    RowKit.Below w.heap.size w w9 → Kept [m4, m3, m2, m1] w7 w9 → F1 [Lf.int IntKind.i64 0] w9) ∧ ∀ (x3 : Int) (w10 : World), RowKit.Below w.heap.size w w10 → F1 [Lf.int
    IntKind.i64 x3] w10 → (x3 < 6 → ∃ (F3 : List Lf → World → Prop), ((x3 ≠ 0 → (x3 ≠ 1 → ∀ (w12 : World), RowKit.Below w.heap.size w w12 → Kept [m4, m3, m2, m1] w10 w12 → F3
    [Lf.bool (x3 != 4)] w12) ∧ (x3 = 1 → ∀ (w13 : World), RowKit.Below w.heap.size w w13 → Kept [m4, m3, m2, m1] w10 w13 → F3 [Lf.bool false] w13)) ∧ (x3 = 0 → ∀ (w14 : World),
    RowKit.Below w.heap.size w w14 → Kept [m4, m3, m2, m1] w10 w14 → F3 [Lf.bool false] w14)) ∧ ∀ (t1 : Bool) (w15 : World), RowKit.Below w.heap.size w w15 → F3 [Lf.bool t1] w15 →
    ∃ (F4 : List Lf → World → Prop), ((t1 = true → ∃ (m8 : Nat), ∃ (m9 : Nat), a3 = some { block := m8, off := m9 } ∧ True ∧ (0 ≤ x3 ∧ x3 < (↑6 : Int)) ∧ ∃ (x4 : Int), ∃ (x5 :
    Int), w15.cell? { block := m8, off := m9 + 8 + x3.toNat * 2 } = some (Value.int IntKind.i64 x4) ∧ w15.cell? { block := m8, off := m9 + 8 + x3.toNat * 2 + 1 } = some (Value.int
    IntKind.i64 x5) ∧ (m8 < w.heap.size ∨ m8 ≠ m4 ∧ m8 ≠ m3 ∧ m8 ≠ m2 ∧ m8 ≠ m1) ∧ ∃ (m10 : Nat), ∃ (m11 : Nat), a1 = some { block := m10, off := m11 } ∧ True ∧ (0 ≤ x3 ∧ x3 < (↑6
    : Int)) ∧ ∃ (x6 : Int), ∃ (x7 : Int), w15.cell? { block := m10, off := m11 + 8 + x3.toNat * 2 } = some (Value.int IntKind.i64 x6) ∧ w15.cell?
    { block := m10, off := m11 + 8 + x3.toNat * 2 + 1 } = some (Value.int IntKind.i64 x7) ∧ (m10 < w.heap.size ∨ m10 ≠ m4 ∧ m10 ≠ m3 ∧ m10 ≠ m2 ∧ m10 ≠ m1) ∧ ∀ (w17 : World),
    RowKit.Below w.heap.size w w17 → KeptIn [(0, w15.heap.size)] [m4, m3, m2, m1] w15 w17 → Calls Try.prog 62 #[Value.agg #[Value.int IntKind.i64 x4, Value.int IntKind.i64 x5],
    Value.agg #[Value.int IntKind.i64 x6, Value.int IntKind.i64 x7]] w17 fun (e4 : Ending) (w18 : World) => ∃ (x8 : Int), ∃ (x9 : Int), e4 = Ending.returned (Value.agg #[Value.int
    IntKind.i64 x8, Value.int IntKind.i64 x9]) ∧ KeepX true w.heap.size [m4, m3, m2, m1] (fun _ => False) w17 w18 ∧ ∃ (m13 : Nat), ∃ (m14 : Nat), a3 = some
    { block := m13, off := m14 } ∧ True ∧ (0 ≤ x3 ∧ x3 < (↑6 : Int)) ∧ ∀ (w19 : World), RowKit.Below w.heap.size w w19 → KeptIn [(0, w18.heap.size)] [m4, m3, m2, m1] w18 w19 →
    RunsTo Try.prog ((Instr.storeAt 95 (Value.pointer (some { block := m13, off := m14 + 8 + x3.toNat * 2 })) (Value.agg #[Value.int IntKind.i64 x8, Value.int IntKind.i64 x9])) >>=
    fun _ => pure (Value.tuple #[])) w19 fun (v1 : Value) (w20 : World) => KeepX true w.heap.size [m4, m3, m2, m1] (fun _ => False) w19 w20 ∧ ∀ (w21 : World),
    RowKit.Below w.heap.size w w21 → Kept [m4, m3, m2, m1] w20 w21 → F4 [] w21) ∧ (t1 = false → ∀ (w22 : World), RowKit.Below w.heap.size w w22 → Kept [m4, m3, m2, m1] w15 w22 → F4
    [] w22)) ∧ ∀ (w23 : World), RowKit.Below w.heap.size w w23 → F4 [] w23 → (-9223372036854775808 ≤ x3 + 1 ∧ x3 + (1 : Int) ≤ 9223372036854775807) ∧ ∀ (w24 : World), RowKit.Below
    w.heap.size w w24 → Kept [m4, m3, m2, m1] w23 w24 → F1 [Lf.int IntKind.i64 (x3 + 1)] w24 ∧ F2 [Lf.int IntKind.i64 (x3 + 1)] < F2 [Lf.int IntKind.i64 x3]) ∧ (6 ≤ x3 → ∃ (m16 :
    Nat), ∃ (m17 : Nat), a3 = some { block := m16, off := m17 } ∧ True ∧ ∀ (w25 : World), RowKit.Below w.heap.size w w25 → Kept [m4, m3, m2, m1] w10 w25 → RunsTo Try.prog
    ((Instr.storeAt 3 (Value.pointer (some { block := m16, off := m17 + 0 + 1 })) (Value.int IntKind.i64 0)) >>= fun _ => pure (Value.tuple #[])) w25 fun (v2 : Value) (w26 : World)
    => KeepX true w.heap.size [m4, m3, m2, m1] (fun _ => False) w25 w26 ∧ ∃ (m19 : Nat), ∃ (m20 : Nat), a1 = some { block := m19, off := m20 } ∧ True ∧ ((0 : Int) ≤ 4 ∧ 4
    < (↑6 : Int)) ∧ ∃ (x10 : Int), ∃ (x11 : Int), w26.cell? { block := m19, off := m20 + 8 + Int.toNat 4 * 2 } = some (Value.int IntKind.i64 x10) ∧ w26.cell?
    { block := m19, off := m20 + 8 + Int.toNat 4 * 2 + 1 } = some (Value.int IntKind.i64 x11) ∧ (m19 < w.heap.size ∨ m19 ≠ m4 ∧ m19 ≠ m3 ∧ m19 ≠ m2 ∧ m19 ≠ m1) ∧ ∀ (w27 : World),
    RowKit.Below w.heap.size w w27 → KeptIn [(0, w26.heap.size)] [m4, m3, m2, m1] w26 w27 → Calls Try.prog 63 #[Value.agg #[Value.int IntKind.i64 x10, Value.int IntKind.i64 x11]]
    w27 fun (e5 : Ending) (w28 : World) => ∃ (x12 : Int), ∃ (x13 : Int), e5 = Ending.returned (Value.agg #[Value.int IntKind.i64 x12, Value.int IntKind.i64 x13]) ∧ RowKit.Below
    w27.heap.size w27 w28 ∧ ∀ (w29 : World), RowKit.Below w.heap.size w w29 → KeptIn [(0, w26.heap.size), (w27.heap.size, w28.heap.size)] [m4, m3, m2, m1] w28 w29 → Calls Try.prog
    66 #[Value.agg #[Value.int IntKind.i64 c0, Value.int IntKind.i64 c1, Value.slice c2a c2n c2c, Value.int IntKind.i64 c3, Value.int IntKind.i64 c4, Value.int IntKind.i64 c5,
    Value.int IntKind.i64 c6]] w29 fun (e6 : Ending) (w30 : World) => ∃ (x14 : Int), e6 = Ending.returned (Value.int IntKind.i64 x14) ∧ RowKit.Below w29.heap.size w29 w30 ∧
    ((-9223372036854775808 : Int) ≤ 4570 * x14 ∧ 4570 * x14 ≤ 9223372036854775807) ∧ ∀ (w31 : World), RowKit.Below w.heap.size w w31 → KeptIn [(0, w26.heap.size), (w29.heap.size,
    w30.heap.size), (w27.heap.size, w28.heap.size)] [m4, m3, m2, m1] w30 w31 → Calls Try.prog 65 #[Value.int IntKind.i64 (4570 * x14)] w31 fun (e7 : Ending) (w32 : World) => ∃ (x15
    : Int), ∃ (x16 : Int), e7 = Ending.returned (Value.agg #[Value.int IntKind.i64 x15, Value.int IntKind.i64 x16]) ∧ RowKit.Below w31.heap.size w31 w32 ∧ ∀ (w33 : World),
    RowKit.Below w.heap.size w w33 → KeptIn [(0, w26.heap.size), (w31.heap.size, w32.heap.size), (w29.heap.size, w30.heap.size), (w27.heap.size, w28.heap.size)] [m4, m3, m2, m1]
    w32 w33 → Calls Try.prog 64 #[Value.agg #[Value.int IntKind.i64 x12, Value.int IntKind.i64 x13], Value.agg #[Value.int IntKind.i64 x15, Value.int IntKind.i64 x16]] w33 fun (e8
    : Ending) (w34 : World) => ∃ (x17 : Int), ∃ (x18 : Int), e8 = Ending.returned (Value.agg #[Value.int IntKind.i64 x17, Value.int IntKind.i64 x18]) ∧ RowKit.Below w33.heap.size
    w33 w34 ∧ ∀ (m21 : Nat), w26.heap.size ≤ m21 → m21 < w33.heap.size ∨ w34.heap.size ≤ m21 → m21 < w31.heap.size ∨ w32.heap.size ≤ m21 → m21 < w29.heap.size ∨ w30.heap.size ≤ m21
    → m21 < w27.heap.size ∨ w28.heap.size ≤ m21 → ∀ (w35 : World), RowKit.Below w.heap.size w w35 → KeptIn [(0, w34.heap.size)] [m21, m4, m3, m2, m1] w34 w35 → Calls Try.prog 43
    #[Value.pointer a3] w35 fun (e9 : Ending) (w36 : World) => ∃ (x19 : Int), ∃ (x20 : Int), e9 = Ending.returned (Value.agg #[Value.int IntKind.i64 x19, Value.int IntKind.i64
    x20]) ∧ KeepX true w.heap.size [m21, m4, m3, m2, m1] (fun _ => False) w35 w36 ∧ ∀ (w37 : World), RowKit.Below w.heap.size w w37 → KeptIn [(0, w36.heap.size)] [m21,
    m4, m3, m2, m1] w36 w37 → Calls Try.prog 67 #[Value.agg #[Value.int IntKind.i64 x19, Value.int IntKind.i64 x20], Value.agg #[Value.int IntKind.i64 x17, Value.int IntKind.i64
    x18]] w37 fun (e10 : Ending) (w38 : World) => ∃ (x21 : Int), ∃ (x22 : Int), e10 = Ending.returned (Value.agg #[Value.int IntKind.i64 x21, Value.int IntKind.i64 x22]) ∧ KeepX
    true w.heap.size [m21, m4, m3, m2, m1] (fun _ => False) w37 w38 ∧ ∀ (w39 : World), RowKit.Below w.heap.size w w39 → KeptIn [(0, w38.heap.size)] [m21, m4, m3, m2, m1]
    w38 w39 → Calls Try.prog 56 #[Value.pointer a3, Value.agg #[Value.int IntKind.i64 x21, Value.int IntKind.i64 x22]] w39 fun (e11 : Ending) (w40 : World) => ∃ (x23 : Int), ∃ (x24
    : Int), e11 = Ending.returned (Value.agg #[Value.int IntKind.i64 x23, Value.int IntKind.i64 x24]) ∧ KeepX true w.heap.size [m21, m4, m3, m2, m1] (fun _ => False) w39
    w40 ∧ ∀ (w41 : World), RowKit.Below w.heap.size w w41 → Kept [m21, m4, m3, m2, m1] w40 w41 → R (Ending.returned (Value.tuple #[Value.agg #[Value.int IntKind.i64 x23, Value.int
    IntKind.i64 x24], Value.int IntKind.i64 0])) w41))) ∧ (x1 ≠ 0 → (x1 ≠ 0 → ∀ (w42 : World), RowKit.Below w.heap.size w w42 → Kept [m4, m3, m2, m1] w2 w42 → R (Ending.returned
    (Value.tuple #[Value.agg #[Value.int IntKind.i64 0, Value.int IntKind.i64 0], Value.int IntKind.i64 x1])) w42) ∧ (x1 = 0 → ∀ (w43 : World), RowKit.Below w.heap.size w w43 →
    Kept [m4, m3, m2, m1] w2 w43 → Calls Try.prog 57 #[Value.agg #[Value.int IntKind.i64 c0, Value.int IntKind.i64 c1, Value.slice c2a c2n c2c, Value.int IntKind.i64 c3, Value.int
    IntKind.i64 c4, Value.int IntKind.i64 c5, Value.int IntKind.i64 c6], Value.agg #[Value.int IntKind.i64 p2to0, Value.int IntKind.i64 p2to1, Value.int IntKind.i64 p2to2,
    Value.int IntKind.i64 p2to3, Value.int IntKind.i64 p2to4, Value.int IntKind.i64 p2to5, Value.int IntKind.i64 p2to6, Value.int IntKind.i64 p2to7]] w43 fun (e12 : Ending) (w44 :
    World) => ∃ (a4 : Option Addr), e12 = Ending.returned (Value.pointer a4) ∧ KeepX true w.heap.size [m4, m3, m2, m1] (fun _ => False) w43 w44 ∧ ∃ (F5 : List Lf → World
    → Prop), ∃ (F6 : List Lf → Nat), (∀ (w46 : World), RowKit.Below w.heap.size w w46 → Kept [m4, m3, m2, m1] w44 w46 → F5 [Lf.int IntKind.i64 0] w46) ∧ ∀ (x25 : Int) (w47 :
    World), RowKit.Below w.heap.size w w47 → F5 [Lf.int IntKind.i64 x25] w47 → (x25 < 6 → ∃ (F7 : List Lf → World → Prop), ((x25 ≠ 0 → (x25 ≠ 1 → ∀ (w49 : World), RowKit.Below
    w.heap.size w w49 → Kept [m4, m3, m2, m1] w47 w49 → F7 [Lf.bool (x25 != 4)] w49) ∧ (x25 = 1 → ∀ (w50 : World), RowKit.Below w.heap.size w w50 → Kept [m4, m3, m2, m1] w47 w50 →
    F7 [Lf.bool false] w50)) ∧ (x25 = 0 → ∀ (w51 : World), RowKit.Below w.heap.size w w51 → Kept [m4, m3, m2, m1] w47 w51 → F7 [Lf.bool false] w51)) ∧ ∀ (t2 : Bool) (w52 : World),
    RowKit.Below w.heap.size w w52 → F7 [Lf.bool t2] w52 → ∃ (F8 : List Lf → World → Prop), ((t2 = true → ∃ (m26 : Nat), ∃ (m27 : Nat), a4 = some { block := m26, off := m27 } ∧
    True ∧ (0 ≤ x25 ∧ x25 < (↑6 : Int)) ∧ ∃ (x26 : Int), ∃ (x27 : Int), w52.cell? { block := m26, off := m27 + 8 + x25.toNat * 2 } = some (Value.int IntKind.i64 x26) ∧ w52.cell?
    { block := m26, off := m27 + 8 + x25.toNat * 2 + 1 } = some (Value.int IntKind.i64 x27) ∧ (m26 < w.heap.size ∨ m26 ≠ m4 ∧ m26 ≠ m3 ∧ m26 ≠ m2 ∧ m26 ≠ m1) ∧ ∃ (m28 : Nat), ∃
    (m29 : Nat), a1 = some { block := m28, off := m29 } ∧ True ∧ (0 ≤ x25 ∧ x25 < (↑6 : Int)) ∧ ∃ (x28 : Int), ∃ (x29 : Int), w52.cell?
    { block := m28, off := m29 + 8 + x25.toNat * 2 } = some (Value.int IntKind.i64 x28) ∧ w52.cell? { block := m28, off := m29 + 8 + x25.toNat * 2 + 1 } = some (Value.int
    IntKind.i64 x29) ∧ (m28 < w.heap.size ∨ m28 ≠ m4 ∧ m28 ≠ m3 ∧ m28 ≠ m2 ∧ m28 ≠ m1) ∧ ∀ (w54 : World), RowKit.Below w.heap.size w w54 → KeptIn [(0, w52.heap.size)] [m4, m3, m2,
    m1] w52 w54 → Calls Try.prog 62 #[Value.agg #[Value.int IntKind.i64 x26, Value.int IntKind.i64 x27], Value.agg #[Value.int IntKind.i64 x28, Value.int IntKind.i64 x29]] w54 fun
    (e13 : Ending) (w55 : World) => ∃ (x30 : Int), ∃ (x31 : Int), e13 = Ending.returned (Value.agg #[Value.int IntKind.i64 x30, Value.int IntKind.i64 x31]) ∧ KeepX true w.heap.size
    [m4, m3, m2, m1] (fun _ => False) w54 w55 ∧ ∃ (m31 : Nat), ∃ (m32 : Nat), a4 = some { block := m31, off := m32 } ∧ True ∧ (0 ≤ x25 ∧ x25 < (↑6 : Int)) ∧ ∀ (w56 :
    World), RowKit.Below w.heap.size w w56 → KeptIn [(0, w55.heap.size)] [m4, m3, m2, m1] w55 w56 → RunsTo Try.prog ((Instr.storeAt 95 (Value.pointer (some
    { block := m31, off := m32 + 8 + x25.toNat * 2 })) (Value.agg #[Value.int IntKind.i64 x30, Value.int IntKind.i64 x31])) >>= fun _ => pure (Value.tuple #[])) w56 fun (v3 :
    Value) (w57 : World) => KeepX true w.heap.size [m4, m3, m2, m1] (fun _ => False) w56 w57 ∧ ∀ (w58 : World), RowKit.Below w.heap.size w w58 → Kept [m4, m3, m2, m1] w57
    w58 → F8 [] w58) ∧ (t2 = false → ∀ (w59 : World), RowKit.Below w.heap.size w w59 → Kept [m4, m3, m2, m1] w52 w59 → F8 [] w59)) ∧ ∀ (w60 : World), RowKit.Below w.heap.size w w60
    → F8 [] w60 → (-9223372036854775808 ≤ x25 + 1 ∧ x25 + (1 : Int) ≤ 9223372036854775807) ∧ ∀ (w61 : World), RowKit.Below w.heap.size w w61 → Kept [m4, m3, m2, m1] w60 w61 → F5
    [Lf.int IntKind.i64 (x25 + 1)] w61 ∧ F6 [Lf.int IntKind.i64 (x25 + 1)] < F6 [Lf.int IntKind.i64 x25]) ∧ (6 ≤ x25 → ∃ (m34 : Nat), ∃ (m35 : Nat), a4 = some
    { block := m34, off := m35 } ∧ True ∧ ∀ (w62 : World), RowKit.Below w.heap.size w w62 → Kept [m4, m3, m2, m1] w47 w62 → RunsTo Try.prog ((Instr.storeAt 3 (Value.pointer (some
    { block := m34, off := m35 + 0 + 1 })) (Value.int IntKind.i64 0)) >>= fun _ => pure (Value.tuple #[])) w62 fun (v4 : Value) (w63 : World) => KeepX true w.heap.size [m4, m3, m2,
    m1] (fun _ => False) w62 w63 ∧ ∃ (m37 : Nat), ∃ (m38 : Nat), a1 = some { block := m37, off := m38 } ∧ True ∧ ((0 : Int) ≤ 4 ∧ 4 < (↑6 : Int)) ∧ ∃ (x32 : Int), ∃ (x33
    : Int), w63.cell? { block := m37, off := m38 + 8 + Int.toNat 4 * 2 } = some (Value.int IntKind.i64 x32) ∧ w63.cell? { block := m37, off := m38 + 8 + Int.toNat 4 * 2 + 1 } =
    some (Value.int IntKind.i64 x33) ∧ (m37 < w.heap.size ∨ m37 ≠ m4 ∧ m37 ≠ m3 ∧ m37 ≠ m2 ∧ m37 ≠ m1) ∧ ∀ (w64 : World), RowKit.Below w.heap.size w w64 → KeptIn [(0,
    w63.heap.size)] [m4, m3, m2, m1] w63 w64 → Calls Try.prog 63 #[Value.agg #[Value.int IntKind.i64 x32, Value.int IntKind.i64 x33]] w64 fun (e14 : Ending) (w65 : World) => ∃ (x34
    : Int), ∃ (x35 : Int), e14 = Ending.returned (Value.agg #[Value.int IntKind.i64 x34, Value.int IntKind.i64 x35]) ∧ RowKit.Below w64.heap.size w64 w65 ∧ ∀ (w66 : World),
    RowKit.Below w.heap.size w w66 → KeptIn [(0, w63.heap.size), (w64.heap.size, w65.heap.size)] [m4, m3, m2, m1] w65 w66 → Calls Try.prog 66 #[Value.agg #[Value.int IntKind.i64
    c0, Value.int IntKind.i64 c1, Value.slice c2a c2n c2c, Value.int IntKind.i64 c3, Value.int IntKind.i64 c4, Value.int IntKind.i64 c5, Value.int IntKind.i64 c6]] w66 fun (e15 :
    Ending) (w67 : World) => ∃ (x36 : Int), e15 = Ending.returned (Value.int IntKind.i64 x36) ∧ RowKit.Below w66.heap.size w66 w67 ∧ ((-9223372036854775808 : Int) ≤ 4570 * x36 ∧
    4570 * x36 ≤ 9223372036854775807) ∧ ∀ (w68 : World), RowKit.Below w.heap.size w w68 → KeptIn [(0, w63.heap.size), (w66.heap.size, w67.heap.size), (w64.heap.size,
    w65.heap.size)] [m4, m3, m2, m1] w67 w68 → Calls Try.prog 65 #[Value.int IntKind.i64 (4570 * x36)] w68 fun (e16 : Ending) (w69 : World) => ∃ (x37 : Int), ∃ (x38 : Int), e16 =
    Ending.returned (Value.agg #[Value.int IntKind.i64 x37, Value.int IntKind.i64 x38]) ∧ RowKit.Below w68.heap.size w68 w69 ∧ ∀ (w70 : World), RowKit.Below w.heap.size w w70 →
    KeptIn [(0, w63.heap.size), (w68.heap.size, w69.heap.size), (w66.heap.size, w67.heap.size), (w64.heap.size, w65.heap.size)] [m4, m3, m2, m1] w69 w70 → Calls Try.prog 64
    #[Value.agg #[Value.int IntKind.i64 x34, Value.int IntKind.i64 x35], Value.agg #[Value.int IntKind.i64 x37, Value.int IntKind.i64 x38]] w70 fun (e17 : Ending) (w71 : World) =>
    ∃ (x39 : Int), ∃ (x40 : Int), e17 = Ending.returned (Value.agg #[Value.int IntKind.i64 x39, Value.int IntKind.i64 x40]) ∧ RowKit.Below w70.heap.size w70 w71 ∧ ∀ (m39 : Nat),
    w63.heap.size ≤ m39 → m39 < w70.heap.size ∨ w71.heap.size ≤ m39 → m39 < w68.heap.size ∨ w69.heap.size ≤ m39 → m39 < w66.heap.size ∨ w67.heap.size ≤ m39 → m39 < w64.heap.size ∨
    w65.heap.size ≤ m39 → ∀ (w72 : World), RowKit.Below w.heap.size w w72 → KeptIn [(0, w71.heap.size)] [m39, m4, m3, m2, m1] w71 w72 → Calls Try.prog 43 #[Value.pointer a4] w72
    fun (e18 : Ending) (w73 : World) => ∃ (x41 : Int), ∃ (x42 : Int), e18 = Ending.returned (Value.agg #[Value.int IntKind.i64 x41, Value.int IntKind.i64 x42]) ∧ KeepX true
    w.heap.size [m39, m4, m3, m2, m1] (fun _ => False) w72 w73 ∧ ∀ (w74 : World), RowKit.Below w.heap.size w w74 → KeptIn [(0, w73.heap.size)] [m39, m4, m3, m2, m1] w73
    w74 → Calls Try.prog 67 #[Value.agg #[Value.int IntKind.i64 x41, Value.int IntKind.i64 x42], Value.agg #[Value.int IntKind.i64 x39, Value.int IntKind.i64 x40]] w74 fun (e19 :
    Ending) (w75 : World) => ∃ (x43 : Int), ∃ (x44 : Int), e19 = Ending.returned (Value.agg #[Value.int IntKind.i64 x43, Value.int IntKind.i64 x44]) ∧ KeepX true w.heap.size [m39,
    m4, m3, m2, m1] (fun _ => False) w74 w75 ∧ ∀ (w76 : World), RowKit.Below w.heap.size w w76 → KeptIn [(0, w75.heap.size)] [m39, m4, m3, m2, m1] w75 w76 → Calls
    Try.prog 56 #[Value.pointer a4, Value.agg #[Value.int IntKind.i64 x43, Value.int IntKind.i64 x44]] w76 fun (e20 : Ending) (w77 : World) => ∃ (x45 : Int), ∃ (x46 : Int), e20 =
    Ending.returned (Value.agg #[Value.int IntKind.i64 x45, Value.int IntKind.i64 x46]) ∧ KeepX true w.heap.size [m39, m4, m3, m2, m1] (fun _ => False) w76 w77 ∧ ∀ (w78 :
    World), RowKit.Below w.heap.size w w78 → Kept [m39, m4, m3, m2, m1] w77 w78 → R (Ending.returned (Value.tuple #[Value.agg #[Value.int IntKind.i64 x45, Value.int IntKind.i64
    x46], Value.int IntKind.i64 0])) w78)))) : Calls Try.prog 29 #[Value.agg #[Value.int IntKind.i64 c0, Value.int IntKind.i64 c1, Value.slice c2a c2n c2c, Value.int IntKind.i64
    c3, Value.int IntKind.i64 c4, Value.int IntKind.i64 c5, Value.int IntKind.i64 c6], Value.agg #[Value.int IntKind.i64 p1from0, Value.int IntKind.i64 p1from1, Value.int
    IntKind.i64 p1from2, Value.int IntKind.i64 p1from3, Value.int IntKind.i64 p1from4, Value.int IntKind.i64 p1from5, Value.int IntKind.i64 p1from6, Value.int IntKind.i64 p1from7],
    Value.agg #[Value.int IntKind.i64 p2to0, Value.int IntKind.i64 p2to1, Value.int IntKind.i64 p2to2, Value.int IntKind.i64 p2to3, Value.int IntKind.i64 p2to4, Value.int
    IntKind.i64 p2to5, Value.int IntKind.i64 p2to6, Value.int IntKind.i64 p2to7]] w R := calls_of_vcj (pure := true) (wrapAt := []) (muts := []) (esc := []) (joins := [(2000010,
    [(46, 4)]), (46, [])]) (args := [SV.pv (PV.agg [Lf.int IntKind.i64 c0, Lf.int IntKind.i64 c1, Lf.sl c2a c2n c2c, Lf.int IntKind.i64 c3, Lf.int IntKind.i64 c4, Lf.int
    IntKind.i64 c5, Lf.int IntKind.i64 c6]), SV.pv (PV.agg [Lf.int IntKind.i64 p1from0, Lf.int IntKind.i64 p1from1, Lf.int IntKind.i64 p1from2, Lf.int IntKind.i64 p1from3, Lf.int
    IntKind.i64 p1from4, Lf.int IntKind.i64 p1from5, Lf.int IntKind.i64 p1from6, Lf.int IntKind.i64 p1from7]), SV.pv (PV.agg [Lf.int IntKind.i64 p2to0, Lf.int IntKind.i64 p2to1,
    Lf.int IntKind.i64 p2to2, Lf.int IntKind.i64 p2to3, Lf.int IntKind.i64 p2to4, Lf.int IntKind.i64 p2to5, Lf.int IntKind.i64 p2to6, Lf.int IntKind.i64 p2to7])]) (vs := [Value.agg
    #[Value.int IntKind.i64 c0, Value.int IntKind.i64 c1, Value.slice c2a c2n c2c, Value.int IntKind.i64 c3, Value.int IntKind.i64 c4, Value.int IntKind.i64 c5, Value.int
    IntKind.i64 c6], Value.agg #[Value.int IntKind.i64 p1from0, Value.int IntKind.i64 p1from1, Value.int IntKind.i64 p1from2, Value.int IntKind.i64 p1from3, Value.int IntKind.i64
    p1from4, Value.int IntKind.i64 p1from5, Value.int IntKind.i64 p1from6, Value.int IntKind.i64 p1from7], Value.agg #[Value.int IntKind.i64 p2to0, Value.int IntKind.i64 p2to1,
    Value.int IntKind.i64 p2to2, Value.int IntKind.i64 p2to3, Value.int IntKind.i64 p2to4, Value.int IntKind.i64 p2to5, Value.int IntKind.i64 p2to6, Value.int IntKind.i64 p2to7]])
    Try.func29 rfl rfl rfl (Eq.mp (by kernel_rfl) h) 
set_option maxRecDepth 100000 in
set_option maxHeartbeats 2000000 in
theorem vc82 (kb : Nat) (ko : Nat) (yield : Value) (w : World) (R : Ending → World → Prop) (h : ∃ (a1 : Option Addr), ∃ (m1 : Nat), ∃ (m2 : Nat), w.cell?
    { block := kb, off := ko + 7 } = some (Value.slice a1 m1 m2) ∧ ∃ (F1 : List Lf → World → Prop), ∃ (F2 : List Lf → Nat), (∀ (w2 : World), Kept [] w w2 → F1 [Lf.int IntKind.i64
    0] w2) ∧ ∀ (x1 : Int) (w3 : World), F1 [Lf.int IntKind.i64 x1] w3 → (x1 < (↑m1 : Int) → ∃ (a2 : Option Addr), ∃ (m3 : Nat), ∃ (m4 : Nat), w3.cell?
    { block := kb, off := ko + 7 } = some (Value.slice a2 m3 m4) ∧ ∃ (m5 : Nat), ∃ (m6 : Nat), a2 = some { block := m5, off := m6 } ∧ (0 ≤ x1 ∧ x1 < (↑m3 : Int)) ∧ ∀ (w4 : World),
    Kept [] w3 w4 → ∃ (m7 : Nat), yield = Value.func (Fn.yield m7) #[] #[] ∧ YieldAt { fn := fun (m8 : Nat) => True, alive := false } 0 Try.prog m7 #[Value.pointer (some
    { block := m5, off := m6 + x1.toNat * 2 })] w4 fun (e1 : Ending) (w5 : World) => ∃ (t1 : Bool), e1 = Ending.returned (Value.bool t1) ∧ KeepX false w.heap.size [] (fun _ => False) w4 w5 ∧ ((!t1) = true → ∀ (w6 : World), Kept [] w5 w6 → R (Ending.returned (Value.tuple #[])) w6) ∧ ((!t1) = false → (-9223372036854775808 ≤ x1 + 1 ∧ x1 + (1 :
    Int) ≤ 9223372036854775807) ∧ ∀ (w7 : World), Kept [] w5 w7 → F1 [Lf.int IntKind.i64 (x1 + 1)] w7 ∧ F2 [Lf.int IntKind.i64 (x1 + 1)] < F2 [Lf.int IntKind.i64 x1])) ∧ ((↑m1 :
    Int) ≤ x1 → ∃ (F3 : List Lf → World → Prop), ∃ (F4 : List Lf → Nat), (∀ (w9 : World), Kept [] w3 w9 → F3 [Lf.int IntKind.i64 0] w9) ∧ ∀ (x2 : Int) (w10 : World), F3 [Lf.int
    IntKind.i64 x2] w10 → (x2 < 6 → (0 ≤ x2 ∧ x2 < (↑6 : Int)) ∧ ∀ (w11 : World), Kept [] w10 w11 → ∃ (m10 : Nat), yield = Value.func (Fn.yield m10) #[] #[] ∧ YieldAt
    { fn := fun (m11 : Nat) => True, alive := false } 0 Try.prog m10 #[Value.pointer (some { block := kb, off := ko + 8 + x2.toNat * 2 })] w11 fun (e2 : Ending) (w12 : World) => ∃
    (t2 : Bool), e2 = Ending.returned (Value.bool t2) ∧ KeepX false w.heap.size [] (fun _ => False) w11 w12 ∧ ((!t2) = true → ∀ (w13 : World), Kept [] w12 w13 → R
    (Ending.returned (Value.tuple #[])) w13) ∧ ((!t2) = false → (-9223372036854775808 ≤ x2 + 1 ∧ x2 + (1 : Int) ≤ 9223372036854775807) ∧ ∀ (w14 : World), Kept [] w12 w14 → F3
    [Lf.int IntKind.i64 (x2 + 1)] w14 ∧ F4 [Lf.int IntKind.i64 (x2 + 1)] < F4 [Lf.int IntKind.i64 x2])) ∧ (6 ≤ x2 → ∀ (w15 : World), Kept [] w10 w15 → R (Ending.returned
    (Value.tuple #[])) w15))) : Calls Try.prog 82 #[Value.pointer (some { block := kb, off := ko }), yield] w R := calls_of_vc (pure := false) (wrapAt := []) (muts := []) (esc :=
    []) (args := [SV.pv (PV.one (Lf.ptr kb ko)), SV.pv (PV.one (Lf.val yield))]) (vs := [Value.pointer (some { block := kb, off := ko }), yield]) Try.func82 rfl rfl rfl (Eq.mp (by
    kernel_rfl) h) 
end Go.Proofs
end
section
/- Contracts: Rate and Change. -/
namespace Go.Proofs.R03
open Go.Vc Go.RowKit Go.Proofs

theorem ediv_of {a b q : Int} (h0 : b * q ≤ a) (h1 : a < b * q + b) (hb : 0 < b) : a / b = q := by
  apply Int.le_antisymm
  · have : a / b < q + 1 := (Int.ediv_lt_iff_lt_mul hb).2 (by rw [Int.add_mul, Int.one_mul, Int.mul_comm q b]; exact h1)
    omega
  · exact (Int.le_ediv_iff_mul_le hb).2 (by rw [Int.mul_comm]; exact h0)
theorem tdiv_floor {a b : Int} (hb : 0 < b) : (a.tmod b < 0 → a.tdiv b - 1 = a / b) ∧ (0 ≤ a.tmod b → a.tdiv b = a / b) := by
  have h1 := Int.mul_tdiv_add_tmod a b
  have h2 := Int.lt_tmod_of_pos a hb
  have h3 := Int.tmod_lt_of_pos a hb
  refine ⟨fun h => (ediv_of ?_ ?_ hb).symm, fun h => (ediv_of ?_ ?_ hb).symm⟩
  · rw [Int.mul_sub]; omega
  · rw [Int.mul_sub]; omega
  · omega
  · omega
theorem ediv_bd {a b A : Int} (hb : 0 < b) (h : -A ≤ a ∧ a ≤ A) : -A ≤ a / b ∧ a / b ≤ A := by
  have hA : 0 ≤ A := by omega
  constructor
  · refine (Int.le_ediv_iff_mul_le hb).2 ?_
    have : A * 1 ≤ A * b := Int.mul_le_mul_of_nonneg_left (by omega) hA
    rw [Int.neg_mul]; omega
  · have : a / b < A + 1 := (Int.ediv_lt_iff_lt_mul hb).2 (by
      have : A * 1 ≤ A * b := Int.mul_le_mul_of_nonneg_left (by omega) hA
      rw [Int.add_mul]; omega)
    omega
theorem floor_any {a b : Int} (hb : 0 < b) (h : -9000000000000000000 ≤ a ∧ a ≤ 9000000000000000000) (w : World) : Calls Try.prog 89 #[I a, I b] w (Pure w (I (a / b))) := by
  have h1 := tdiv_floor (a := a) hb
  have h2 := ediv_bd hb h
  have hq : -9000000000000000000 ≤ a.tdiv b ∧ a.tdiv b ≤ 9000000000000000001 := by
    rcases Int.lt_or_le (a.tmod b) 0 with h | h
    · have := h1.1 h; omega
    · have := h1.2 h; omega
  exact vc89 _ _ w _ ⟨⟨by omega, by omega, by omega⟩, by omega, fun h => ⟨by omega, fun w1 hb _ => ⟨by rw [h1.1 h], hb⟩⟩, fun h w2 hb _ => ⟨by rw [h1.2 h], hb⟩⟩
/-- A span of parts in milliseconds: outwards. -/
def roundS (n : Int) (s : Sp) : Sp := (s.1 / n, -(-s.2 / n))
section
variable {B : Nat} {k : Kn} {kb : Nat} {ra : Option Addr} {rc : Nat} {ga : Option Addr} {gc : Nat} {w : World}
theorem rounded_any (h : KAt B k kb ra rc ga gc w) (hk : OkK k) {s : Sp} (hs : Bd s 9000000000000000000) : Calls Try.prog 56 #[.pointer (some ⟨kb, 0, none⟩), spv s] w (Pure w (spv (roundS (10000 * lenC k.c.rods) s))) := by
  have hlen := hk.len
  refine vc56 _ _ _ _ w _ fun m1 h1 m2 h2 w1 hb1 _ => ?_
  refine Pure.calls (parts_any (h.keep hb1) hk) fun w2 hb2 => ⟨_, _, rfl, .all hb2, fun w3 hb3 _ => ?_⟩
  have hn : 0 < 10000 * lenC k.c.rods := by omega
  simp only [Bd] at hs
  have := ediv_bd (a := 0 - s.2) (A := 9000000000000000000) hn (by omega)
  refine Pure.calls (floor_any hn hs.1 w3) fun w4 hb4 => ⟨_, rfl, .all hb4, by omega, fun w5 hb5 _ => Pure.calls (floor_any hn (by omega) w5) fun w6 hb6 => ⟨_, rfl, .all hb6, by omega, fun w7 hb7 _ => ⟨?_, hb7⟩⟩⟩
  unfold roundS
  simp only [Int.zero_sub]
end

/-- What is known of a clock, in memory, and in which blocks. -/
structure KIn (lo hi : Nat) (k : Kn) (kb : Nat) (ra : Option Addr) (rc : Nat) (ga : Option Addr) (gc : Nat) (w : World) : Prop where
  at_ : KAt lo k kb ra rc ga gc w
  kbl : lo ≤ kb
  kbh : kb < hi
  gah : k.grow.length ≠ 0 → ∀ b o, ga = some ⟨b, o, none⟩ → b < hi
section
variable {lo hi : Nat} {k : Kn} {kb : Nat} {ra : Option Addr} {rc : Nat} {ga : Option Addr} {gc : Nat} {w w' : World}
theorem KIn.keep (h : KIn lo hi k kb ra rc ga gc w) (hb : Below w.heap.size w w') : KIn lo hi k kb ra rc ga gc w' := ⟨h.at_.keep hb, h.kbl, h.kbh, h.gah⟩
theorem KIn.out (h : KIn lo hi k kb ra rc ga gc w) {S : List Nat} (hc : Chg S w w') (hs : ∀ x ∈ S, x < lo ∨ hi ≤ x) (hr : Cells w' ra (rods k.c.rods)) : KIn lo hi k kb ra rc ga gc w' := by
  refine ⟨⟨(hc.keep kb (lt_of_some h.at_.here) fun hm => by have := hs kb hm; have := h.kbl; have := h.kbh; omega).trans h.at_.here, hr, ?_⟩, h.kbl, h.kbh, h.gah⟩
  by_cases h0 : k.grow.length = 0
  · exact .inl ⟨h0, by rw [List.length_eq_zero_iff.1 h0]; rfl⟩
  · exact h.at_.grow.of fun b o e hl hlt _ => hc.keep b hlt fun hm => by have := hs b hm; have := h.gah h0 b o e; omega

theorem KIn.now (h : KIn lo hi k kb ra rc ga gc w) : KIn lo w.heap.size k kb ra rc ga gc w := ⟨h.at_, h.kbl, lt_of_some h.at_.here, fun h0 b o e => (h.at_.grow.in h0 b o e).2⟩

/-- The six spans that are not of rods. -/
def Kn.get (k : Kn) : Nat → Sp
  | 0 => k.air
  | 1 => k.drive
  | 2 => k.heat
  | 3 => k.press
  | 4 => k.arc
  | _ => k.force
def Kn.set (k : Kn) (i : Nat) (s : Sp) : Kn :=
  match i with
  | 0 => { k with air := s }
  | 1 => { k with drive := s }
  | 2 => { k with heat := s }
  | 3 => { k with press := s }
  | 4 => { k with arc := s }
  | _ => { k with force := s }
theorem knC_get (k : Kn) (ra : Option Addr) (rc : Nat) (ga : Option Addr) (gc : Nat) {i : Nat} (hi : i < 6) : (knC k ra rc ga gc)[8 + i * 2]? = some (I (k.get i).1) ∧ (knC k ra rc ga gc)[8 + i * 2 + 1]? = some (I (k.get i).2) := by
  match i, hi with
  | 0, _ => exact ⟨rfl, rfl⟩
  | 1, _ => exact ⟨rfl, rfl⟩
  | 2, _ => exact ⟨rfl, rfl⟩
  | 3, _ => exact ⟨rfl, rfl⟩
  | 4, _ => exact ⟨rfl, rfl⟩
  | 5, _ => exact ⟨rfl, rfl⟩
theorem knC_set (k : Kn) (ra : Option Addr) (rc : Nat) (ga : Option Addr) (gc : Nat) {i : Nat} (hi : i < 6) (s : Sp) : (knC k ra rc ga gc).take (8 + i * 2) ++ [I s.1, I s.2] ++ (knC k ra rc ga gc).drop (8 + i * 2 + 2) = knC (k.set i s) ra rc ga gc := by
  match i, hi with
  | 0, _ => rfl
  | 1, _ => rfl
  | 2, _ => rfl
  | 3, _ => rfl
  | 4, _ => rfl
  | 5, _ => rfl
theorem set_c (k : Kn) (i : Nat) (s : Sp) : (k.set i s).c = k.c ∧ (k.set i s).grow = k.grow := by
  unfold Kn.set; split <;> exact ⟨rfl, rfl⟩
theorem KIn.store (h : KIn lo hi k kb ra rc ga gc w) {i : Nat} (hi6 : i < 6) (s : Sp) {R : Value → World → Prop} (hR : ∀ w', KIn lo hi (k.set i s) kb ra rc ga gc w' → Chg [kb] w w' → R (.tuple #[]) w') (hr : ∀ w', Chg [kb] w w' → Cells w' ra (rods k.c.rods)) :
    RunsTo Try.prog ((Instr.storeAt 95 (.pointer (some ⟨kb, 8 + i * 2, none⟩)) (spv s)) >>= fun _ => pure (Value.tuple #[])) w R := by
  refine obj_store (cs := knC k ra rc ga gc) (vs := [I s.1, I s.2]) h.at_.here (by kernel_rfl) (by kernel_rfl) (by show 8 + i * 2 + 2 ≤ 20; omega) rfl (by simp <;> exact ⟨trivial, trivial⟩) fun w' hw' hc => hR w' ⟨⟨?_, ?_, ?_⟩, h.kbl, h.kbh, ?_⟩ hc
  · rw [hw', ← knC_set k ra rc ga gc hi6 s]; rfl
  · rw [(set_c k i s).1]; exact hr w' hc
  · rw [(set_c k i s).2]
    refine h.at_.grow.other hc fun x hx cs hcs => ?_
    rw [List.mem_singleton.1 hx, h.at_.here] at hcs
    simp only [Option.some.injEq, Obj.cells.injEq] at hcs
    exact absurd hcs.2.1 (by decide)
  · rw [(set_c k i s).2]; exact h.gah
theorem KIn.base (h : KIn lo hi k kb ra rc ga gc w) (n : Int) {R : Value → World → Prop} (hR : ∀ w', KIn lo hi { k with c := { k.c with base := n } } kb ra rc ga gc w' → Chg [kb] w w' → R (.tuple #[]) w') (hr : ∀ w', Chg [kb] w w' → Cells w' ra (rods k.c.rods)) :
    RunsTo Try.prog ((Instr.storeAt 3 (.pointer (some ⟨kb, 1, none⟩)) (I n)) >>= fun _ => pure (Value.tuple #[])) w R := by
  refine obj_store (cs := knC k ra rc ga gc) (vs := [I n]) h.at_.here (by kernel_rfl) (by kernel_rfl) (by show 1 + 1 ≤ 20; omega) rfl (by simp <;> exact trivial) fun w' hw' hc => hR w' ⟨⟨hw', hr w' hc, ?_⟩, h.kbl, h.kbh, h.gah⟩ hc
  refine h.at_.grow.other hc fun x hx cs hcs => ?_
  rw [List.mem_singleton.1 hx, h.at_.here] at hcs
  simp only [Option.some.injEq, Obj.cells.injEq] at hcs
  exact absurd hcs.2.1 (by decide)
end

theorem newK_in {c : Clk} {b : Bn} {ra : Option Addr} {rc : Nat} {w : World} (hc : Cells w ra (rods c.rods)) (hl : c.rods.length ≤ 100000) : Calls Try.prog 57 #[c.v ra rc, b.v] w fun e w' => ∃ kb ga gc, e = .returned (.pointer (some ⟨kb, 0, none⟩)) ∧ Below w.heap.size w w' ∧ KIn w.heap.size w'.heap.size (newK c b) kb ra rc ga gc w' :=
  (newKnown_any c b hc hl).mono fun e w' he => by
    obtain ⟨kb, ga, gc, rfl, hb, hk, h⟩ := he
    exact ⟨kb, ga, gc, rfl, hb, h, hk, h.lt, fun h0 b o e => (h.grow.in h0 b o e).2⟩

/-- The error of a clock and bounds. -/
def openErr (c : Clk) (b : Bn) : Int := if check c = 0 then (if OkB b then 0 else 2) else check c
def OpenPost (c : Clk) (b : Bn) (ra : Option Addr) (rc : Nat) (w : World) (e : Ending) (w' : World) : Prop :=
  ∃ p, e = .returned (.tuple #[.pointer p, I (openErr c b)]) ∧ Below w.heap.size w w' ∧ (openErr c b = 0 → ∃ kb ga gc, p = some ⟨kb, 0, none⟩ ∧ KIn w.heap.size w'.heap.size (newK c b) kb ra rc ga gc w')
theorem check_len {c : Clk} (h : check c = 0) : c.rods.length ≤ 8 ∧ OkC c := by
  unfold check at h
  split at h
  · omega
  · split at h
    · rename_i h1 h2; exact ⟨by omega, h2⟩
    · omega
theorem open_any (c : Clk) (b : Bn) {ra : Option Addr} {rc : Nat} {w : World} (hc : Cells w ra (rods c.rods)) : Calls Try.prog 55 #[c.v ra rc, b.v] w (OpenPost c b ra rc w) := by
  refine vc55 _ _ _ _ _ _ _ _ _ _ _ _ _ _ _ _ _ w _ fun m1 h1 m2 h2 w1 hb1 hk1 => ?_
  refine Pure.calls (check_any c (hc.keep hb1)) fun w2 hb2 => ⟨_, rfl, .all hb2, fun he w3 hb3 _ => ⟨none, by unfold openErr; rw [if_neg he], hb3, fun h => absurd h (by unfold openErr; rw [if_neg he]; exact he)⟩, fun he w4 hb4 hk4 => ?_⟩
  refine Pure.calls (isBounds_any b w4) fun w5 hb5 => ⟨_, rfl, .all hb5, fun ht w6 hb6 _ => ?_, fun ht w7 hb7 hk7 => ?_⟩
  · simp only [Bool.not_eq_true', decide_eq_false_iff_not] at ht
    have : openErr c b = 2 := by unfold openErr; rw [if_pos he, if_neg ht]
    exact ⟨none, by rw [this], hb6, fun h => by omega⟩
  · simp only [Bool.not_eq_false', decide_eq_true_eq] at ht
    have h0 : openErr c b = 0 := by unfold openErr; rw [if_pos he, if_pos ht]
    refine (newK_in (hc.keep hb7) (by have := (check_len he).1; omega)).mono fun e w8 h => ?_
    obtain ⟨kb, ga, gc, rfl, hb8, K8⟩ := h
    refine ⟨_, rfl, .all hb8, fun w9 hb9 hk9 => ⟨_, by rw [h0], hb9, fun _ => ⟨kb, ga, gc, rfl, ?_⟩⟩⟩
    have z1 := hk1.own
    have z7 : w1.heap.size ≤ w7.heap.size := by have := hb2.size; have := hk4.size; have := hb5.size; have := hk7.size; omega
    have K9 := K8.out (Chg.kept hk9) (fun x hx => by have := z1 x hx; omega) (hc.keep hb9)
    exact ⟨⟨K9.at_.here, K9.at_.rods, K9.at_.grow.imp id fun h => h.base hb7.size⟩, Nat.le_trans hb7.size K9.kbl, Nat.lt_of_lt_of_le K9.kbh hk9.size, fun h0 b o e => Nat.lt_of_lt_of_le (K9.gah h0 b o e) hk9.size⟩

theorem newK_ok {c : Clk} {b : Bn} (h : openErr c b = 0) : OkK (newK c b) := by
  unfold openErr at h
  split at h
  · rename_i hc
    split at h
    · rename_i hb
      obtain ⟨h8, hne, hrod, hlen, hbase, hair, hdr⟩ := check_len hc
      obtain ⟨b1, b2, b3, b4⟩ := hb
      refine ⟨by simp [newK], h8, fun r hr => (hrod r hr).1, hlen, hbase, fun s hs => ?_, ?_, ?_, ?_, ?_, ?_, ?_⟩
      · obtain ⟨r, hr, rfl⟩ := List.mem_map.1 hs
        have := (hrod r hr).2
        simp only [Bd]; omega
      all_goals (simp only [newK, Bd]; omega)
    · omega
  · omega

/-- What Rate returns. -/
def rateR (c : Clk) (b : Bn) : Sp × Int := if openErr c b = 0 then (roundS (10000 * lenC c.rods) (rateK (newK c b)), 0) else ((0, 0), openErr c b)
theorem rateOf_any (c : Clk) (b : Bn) {ra : Option Addr} {rc : Nat} {w : World} (hc : Cells w ra (rods c.rods)) : Calls Try.prog 22 #[c.v ra rc, b.v] w (Pure w (.tuple #[spv (rateR c b).1, I (rateR c b).2])) := by
  refine vc22 _ _ _ _ _ _ _ _ _ _ _ _ _ _ _ _ _ w _ fun m1 h1 m2 h2 m3 h3 w1 hb1 hk1 => ?_
  refine (open_any c b (hc.keep hb1)).mono fun e w2 he => ?_
  obtain ⟨p, rfl, hb2, hp⟩ := he
  refine ⟨_, _, rfl, .all hb2, fun he w3 hb3 _ => ⟨by unfold rateR; rw [if_neg he], hb3⟩, fun he w4 hb4 hk4 => ?_⟩
  obtain ⟨kb, ga, gc, rfl, K2⟩ := hp he
  have hok := newK_ok he
  have K4 := K2.out (Chg.kept hk4) (fun x hx => .inl (hk1.own x hx)) (hc.keep hb4)
  refine Pure.calls (rate_any K4.at_ hok) fun w5 hb5 => ⟨_, _, rfl, .all hb5, fun w6 hb6 hk6 => ?_⟩
  have K6 := (K4.keep hb5).out (Chg.kept hk6) (fun x hx => .inl (hk1.own x hx)) (hc.keep hb6)
  have hbd := rateK_bd hok
  refine Pure.calls (rounded_any K6.at_ hok (s := rateK (newK c b)) (by simp only [Bd] at hbd ⊢; omega)) fun w7 hb7 => ⟨_, _, rfl, .all hb7, fun w8 hb8 _ => ⟨?_, hb8⟩⟩
  unfold rateR
  rw [if_pos he]; rfl
end Go.Proofs.R03
end
section
/- Contracts: Change. -/
namespace Go.Proofs.R03
open Go.Vc Go.RowKit Go.Proofs

/-- What Change reckons with, when some of its spans are differences. -/
def chgN (c : Clk) (b t : Bn) (n : Nat) : Kn :=
  ⟨c, c.rods.map fun r => (r.lo, r.hi), c.air, c.drive, if 2 < n then lessS t.heat b.heat else t.heat, if 3 < n then lessS t.press b.press else t.press, t.arc, if 5 < n then lessS t.force b.force else t.force⟩
theorem chgN_step (c : Clk) (b t : Bn) {i : Nat} (h : i < 6) (h0 : i ≠ 0) (h1 : i ≠ 1) (h4 : i ≠ 4) : (chgN c b t i).set i (lessS ((chgN c b t i).get i) ((newK c b).get i)) = chgN c b t (i + 1) := by
  match i, h with
  | 0, _ => exact absurd rfl h0
  | 1, _ => exact absurd rfl h1
  | 2, _ => rfl
  | 3, _ => rfl
  | 4, _ => exact absurd rfl h4
  | 5, _ => rfl
theorem chgN_skip (c : Clk) (b t : Bn) {i : Nat} (h : i = 0 ∨ i = 1 ∨ i = 4) : chgN c b t i = chgN c b t (i + 1) := by
  rcases h with rfl | rfl | rfl <;> rfl
def chgK (c : Clk) (b t : Bn) : Kn := { chgN c b t 6 with c := { c with base := 0 } }
theorem chgK_ok {c : Clk} {b t : Bn} (h : openErr c b = 0) (h2 : openErr c t = 0) : OkK (chgK c b t) := by
  have k1 := newK_ok h
  have k2 := newK_ok h2
  have e : ∀ {c : Clk} {b : Bn}, openErr c b = 0 → OkB b := fun {c b} h => by
    unfold openErr at h
    split at h
    · split at h
      · assumption
      · omega
    · omega
  obtain ⟨a1, a2, a3, a4⟩ := e h
  obtain ⟨b1, b2, b3, b4⟩ := e h2
  refine ⟨k1.grown, k1.few, k1.lens, k1.len, by show -1000000 ≤ (0 : Int) ∧ (0 : Int) ≤ 1000000; omega, k1.grow, k1.air, k1.drive, ?_, ?_, k2.arc, ?_⟩
  · exact bd_less (A := 1000) (B := 1000) (by simp only [Bd]; omega) (by simp only [Bd]; omega)
  · exact bd_less (A := 1000) (B := 1000) (by simp only [Bd]; omega) (by simp only [Bd]; omega)
  · exact bd_less (A := 100) (B := 100) (by simp only [Bd]; omega) (by simp only [Bd]; omega)
theorem chg_get_bd {c : Clk} {b t : Bn} (h : openErr c b = 0) (h2 : openErr c t = 0) {i : Nat} (hi : i < 6) (h0 : i ≠ 0) (h1 : i ≠ 1) (h4 : i ≠ 4) : Bd ((chgN c b t i).get i) 2000 ∧ Bd ((newK c b).get i) 2000 := by
  have k1 := newK_ok h
  have k2 := newK_ok h2
  have f1 := k1.force
  have f2 := k2.force
  match i, hi with
  | 0, _ => exact absurd rfl h0
  | 1, _ => exact absurd rfl h1
  | 2, _ => exact ⟨k2.heat, k1.heat⟩
  | 3, _ => exact ⟨k2.press, k1.press⟩
  | 4, _ => exact absurd rfl h4
  | 5, _ =>
    show Bd (newK c t).force 2000 ∧ Bd (newK c b).force 2000
    simp only [Bd] at *; omega

def chgErr (c : Clk) (b t : Bn) : Int := if openErr c b = 0 then openErr c t else openErr c b
def chgS (c : Clk) (b t : Bn) : Sp := plusS (rateK (chgK c b t)) (byS (sqS b.arc) (4570 * lenC c.rods, 4570 * lenC c.rods))
def changeR (c : Clk) (b t : Bn) : Sp × Int := if chgErr c b t = 0 then (roundS (10000 * lenC c.rods) (chgS c b t), 0) else ((0, 0), chgErr c b t)

set_option maxHeartbeats 2000000 in
theorem change_any (c : Clk) (b t : Bn) {ra : Option Addr} {rc : Nat} {w : World} (hc : Cells w ra (rods c.rods)) : Calls Try.prog 29 #[c.v ra rc, b.v, t.v] w (Pure w (.tuple #[spv (changeR c b t).1, I (changeR c b t).2])) := by
  refine vc29 _ _ _ _ _ _ _ _ _ _ _ _ _ _ _ _ _ _ _ _ _ _ _ _ _ w _ fun m1 h1 m2 h2 m3 h3 m4 h4 w1 hb1 hk1 => ?_
  have own1 := hk1.own
  refine (open_any c b (hc.keep hb1)).mono fun e w2 he => ?_
  obtain ⟨p, rfl, hb2, hp⟩ := he
  refine ⟨_, _, rfl, .all hb2, fun he w3 hb3 hk3 => ?_, fun he => ⟨fun _ w42 hb42 _ => ⟨by unfold changeR chgErr; rw [if_neg (by rw [if_neg he]; exact he), if_neg he], hb42⟩, fun h => absurd h he⟩⟩
  obtain ⟨kb1, ga1, gc1, rfl, K2⟩ := hp he
  have z2 := hb2.size
  have K3 := K2.out (Chg.kept hk3) (fun x hx => .inl (own1 x hx)) (hc.keep hb3)
  refine (open_any c t (hc.keep hb3)).mono fun e w4 he' => ?_
  obtain ⟨p2, rfl, hb4, _⟩ := he'
  refine ⟨_, _, rfl, .all hb4, fun he2 w5 hb5 _ => ⟨by unfold changeR chgErr; rw [if_neg (by rw [if_pos he]; exact he2), if_pos he], hb5⟩, fun he2 w6 hb6 hk6 => ?_⟩
  have K6 := (K3.keep hb4).out (Chg.kept hk6) (fun x hx => .inl (own1 x hx)) (hc.keep hb6)
  have hok1 := newK_ok he
  have hok2 := newK_ok he2
  have hlen := hok1.len
  have hfew := hok1.few
  refine (newK_in (b := t) (hc.keep hb6) (by have : (newK c b).c.rods.length ≤ 8 := hfew; exact Nat.le_trans this (by omega))).mono fun e w7 he7 => ?_
  obtain ⟨kb3, ga3, gc3, rfl, hb7, T7⟩ := he7
  have K7 := K6.keep hb7
  have z3 := hk3.size
  have z4 := hb4.size
  have z6 := hk6.size
  have z7 := hb7.size
  have nk1 : kb1 ≠ m4 ∧ kb1 ≠ m3 ∧ kb1 ≠ m2 ∧ kb1 ≠ m1 := by
    have := K2.kbl
    have a1 := own1 m1 (by simp); have a2 := own1 m2 (by simp); have a3 := own1 m3 (by simp); have a4 := own1 m4 (by simp)
    omega
  have nk3 : kb3 ≠ m4 ∧ kb3 ≠ m3 ∧ kb3 ≠ m2 ∧ kb3 ≠ m1 := by
    have := T7.kbl
    have a1 := own1 m1 (by simp); have a2 := own1 m2 (by simp); have a3 := own1 m3 (by simp); have a4 := own1 m4 (by simp)
    omega
  have wle : w.heap.size ≤ w1.heap.size := hb1.size
  refine ⟨_, rfl, .all hb7, fun ls w' => match ls with | [.int _ i] => 0 ≤ i ∧ i ≤ 6 ∧ KIn w1.heap.size w2.heap.size (newK c b) kb1 ra rc ga1 gc1 w' ∧ KIn w6.heap.size w7.heap.size (chgN c b t i.toNat) kb3 ra rc ga3 gc3 w' | _ => False, fun ls => match ls with | [.int _ i] => (6 - i).toNat | _ => 0,
    fun w9 hb9 hk9 => ⟨by omega, by omega, K7.out (Chg.kept hk9) (fun x hx => .inl (own1 x hx)) (hc.keep hb9), T7.out (Chg.kept hk9) (fun x hx => .inl (by have := own1 x hx; omega)) (hc.keep hb9)⟩, ?_⟩
  rintro i w10 hb10 ⟨i0, i6, A10, T10⟩
  refine ⟨fun hi => ?_, fun hi => ?_⟩
  · have hin : i.toNat < 6 := by omega
    refine ⟨fun ls w' => match ls with | [.bool q] => q = decide (i ≠ 0 ∧ i ≠ 1 ∧ i ≠ 4) ∧ KIn w1.heap.size w2.heap.size (newK c b) kb1 ra rc ga1 gc1 w' ∧ KIn w6.heap.size w7.heap.size (chgN c b t i.toNat) kb3 ra rc ga3 gc3 w' | _ => False,
      ⟨fun n0 => ⟨fun n1 w12 hb12 hk12 => ⟨by rw [Bool.eq_iff_iff]; simp [n0, n1], A10.out (Chg.kept hk12) (fun x hx => .inl (own1 x hx)) (hc.keep hb12), T10.out (Chg.kept hk12) (fun x hx => .inl (by have := own1 x hx; omega)) (hc.keep hb12)⟩,
        fun n1 w13 hb13 hk13 => ⟨by simp [n1], A10.out (Chg.kept hk13) (fun x hx => .inl (own1 x hx)) (hc.keep hb13), T10.out (Chg.kept hk13) (fun x hx => .inl (by have := own1 x hx; omega)) (hc.keep hb13)⟩⟩,
       fun n0 w14 hb14 hk14 => ⟨by simp [n0], A10.out (Chg.kept hk14) (fun x hx => .inl (own1 x hx)) (hc.keep hb14), T10.out (Chg.kept hk14) (fun x hx => .inl (by have := own1 x hx; omega)) (hc.keep hb14)⟩⟩, ?_⟩
    rintro q w15 hb15 ⟨rfl, A15, T15⟩
    refine ⟨fun ls w' => match ls with | [] => KIn w1.heap.size w2.heap.size (newK c b) kb1 ra rc ga1 gc1 w' ∧ KIn w6.heap.size w7.heap.size (chgN c b t (i.toNat + 1)) kb3 ra rc ga3 gc3 w' | _ => False, ⟨fun hq => ?_, fun hq w22 hb22 hk22 => ⟨A15.out (Chg.kept hk22) (fun x hx => .inl (own1 x hx)) (hc.keep hb22), ?_⟩⟩, ?_⟩
    · simp only [decide_eq_true_eq] at hq
      obtain ⟨n0, n1, n4⟩ := hq
      obtain ⟨g1, g2⟩ := knC_get (chgN c b t i.toNat) ra rc ga3 gc3 hin
      obtain ⟨g3, g4⟩ := knC_get (newK c b) ra rc ga1 gc1 hin
      obtain ⟨d1, d2⟩ := chg_get_bd he he2 hin (by omega) (by omega) (by omega)
      refine ⟨kb3, 0, rfl, trivial, ⟨i0, hi⟩, _, _, cell_at' (T15.at_.cell g1) (by omega), cell_at' (T15.at_.cell g2) (by omega), .inr nk3, kb1, 0, rfl, trivial, ⟨i0, hi⟩, _, _, cell_at' (A15.at_.cell g3) (by omega), cell_at' (A15.at_.cell g4) (by omega), .inr nk1, fun w17 hb17 hk17 => ?_⟩
      refine Pure.calls (less_any d1 d2 (by decide) w17) fun w18 hb18 => ⟨_, _, rfl, .all hb18, kb3, 0, rfl, trivial, ⟨i0, hi⟩, fun w19 hb19 hk19 => ?_⟩
      have C19 := (hk17.chg.trans (Chg.of_below hb18)).trans hk19.chg
      have A19 := A15.out C19 (fun x hx => .inl (own1 x hx)) (hc.keep hb19)
      have T19 := T15.out C19 (fun x hx => .inl (by have := own1 x hx; omega)) (hc.keep hb19)
      rw [show 0 + 8 + i.toNat * 2 = 8 + i.toNat * 2 by omega]
      have hkb := T15.kbl
      have hne : ∀ x ∈ [kb3], w.heap.size ≤ x := by simp; omega
      refine T19.store hin (lessS ((chgN c b t i.toNat).get i.toNat) ((newK c b).get i.toNat)) (fun w20 T20 c20 => ?_) (fun w' hc' => Chg.cells_old hc' hne (hc.keep hb19) hc hb19)
      rw [chgN_step c b t hin (by omega) (by omega) (by omega)] at T20
      have hr20 : Cells w20 ra (rods c.rods) := Chg.cells_old c20 hne (hc.keep hb19) hc hb19
      have A20 := A19.out c20 (fun x hx => .inr (by simp at hx; omega)) hr20
      refine ⟨c20.own (fun x hx => ⟨hk19.own x hx, fun hm => by have := own1 x hx; simp at hm; omega⟩) (by simp) (fun _ => ⟨hb19.size, hne⟩), fun w21 hb21 hk21 => ⟨A20.out (Chg.kept hk21) (fun x hx => .inl (own1 x hx)) (hc.keep hb21), T20.out (Chg.kept hk21) (fun x hx => .inl (by have := own1 x hx; omega)) (hc.keep hb21)⟩⟩
    · simp only [decide_eq_false_iff_not] at hq
      rw [← chgN_skip c b t (by omega)]
      exact T15.out (Chg.kept hk22) (fun x hx => .inl (by have := own1 x hx; omega)) (hc.keep hb22)
    · rintro w23 hb23 ⟨A23, T23⟩
      refine ⟨by omega, fun w24 hb24 hk24 => ⟨⟨by omega, by omega, A23.out (Chg.kept hk24) (fun x hx => .inl (own1 x hx)) (hc.keep hb24), ?_⟩, ?_⟩⟩
      · rw [show (i + 1).toNat = i.toNat + 1 by omega]
        exact T23.out (Chg.kept hk24) (fun x hx => .inl (by have := own1 x hx; omega)) (hc.keep hb24)
      · show (6 - (i + 1)).toNat < (6 - i).toNat
        omega
  · have hi6 : i.toNat = 6 := by omega
    rw [hi6] at T10
    refine ⟨kb3, 0, rfl, trivial, fun w25 hb25 hk25 => ?_⟩
    have A25 := A10.out (Chg.kept hk25) (fun x hx => .inl (own1 x hx)) (hc.keep hb25)
    have T25 := T10.out (Chg.kept hk25) (fun x hx => .inl (by have := own1 x hx; omega)) (hc.keep hb25)
    have hkb := T10.kbl
    have hne : ∀ x ∈ [kb3], w.heap.size ≤ x := by simp; omega
    refine T25.base 0 (fun w26 T26 c26 => ?_) (fun w' hc' => Chg.cells_old hc' hne (hc.keep hb25) hc hb25)
    have hr26 : Cells w26 ra (rods c.rods) := Chg.cells_old c26 hne (hc.keep hb25) hc hb25
    have A26 := A25.out c26 (fun x hx => .inr (by simp at hx; omega)) hr26
    have hokc := chgK_ok he he2
    refine ⟨c26.own (fun x hx => ⟨hk25.own x hx, fun hm => by have := own1 x hx; simp at hm; omega⟩) (by simp) (fun _ => ⟨hb25.size, hne⟩), kb1, 0, rfl, trivial, by decide, _, _, A26.at_.cell (i := 16) rfl, A26.at_.cell (i := 17) rfl, .inr nk1, fun w27 hb27 hk27 => ?_⟩
    have z26 := c26.size
    refine Pure.calls (square_any hok1.arc (by decide) w27) fun w28 hb28 => ⟨_, _, rfl, hb28, fun w29 hb29 hk29 => ?_⟩
    refine Pure.calls (length_any c (hc.keep hb29) (by have : c.rods.length ≤ 8 := hfew; omega) hok1.lens) fun w30 hb30 => ⟨_, rfl, hb30, ?_⟩
    have hlen' : 100 ≤ lenC c.rods ∧ lenC c.rods ≤ 100000 := hlen
    refine ⟨by omega, fun w31 hb31 hk31 => ?_⟩
    refine Pure.calls (one_any _ w31) fun w32 hb32 => ⟨_, _, rfl, hb32, fun w33 hb33 hk33 => ?_⟩
    refine Pure.calls (by_any (bd_sq hok1.arc) (len_bd hok1 4570 (by decide)) (by decide) w33) fun w34 hb34 => ⟨_, _, rfl, hb34, fun m21 j1 j2 j3 j4 j5 w35 hb35 hk35 => ?_⟩
    have s27 := hk27.size
    have s28 := hb28.size
    have s29 := hk29.size
    have s30 := hb30.size
    have s31 := hk31.size
    have s32 := hb32.size
    have s33 := hk33.size
    have s34 := hb34.size
    have L34 : LowK w26.heap.size [m4, m3, m2, m1] w26 w34 := ((((((((hk27.chg.low (Nat.le_refl _)).trans (LowK.of_below hb28 (by omega))).trans (hk29.low (by omega))).trans (LowK.of_below hb30 (by omega))).trans (hk31.low (by omega))).trans (LowK.of_below hb32 (by omega))).trans (hk33.low (by omega))).trans (LowK.of_below hb34 (by omega)))
    have b34 : Below w.heap.size w w34 := hb33.trans (hb34.mono hb33.size)
    have os34 : w34.os = w26.os ∧ w34.tape = w26.tape ∧ w34.output = w26.output := by
      refine ⟨b34.os.trans ?_, b34.tape.trans ?_, b34.output.trans ?_⟩
      · rw [c26.os]; exact hb25.os.symm
      · rw [c26.tape]; exact hb25.tape.symm
      · rw [c26.output]; exact hb25.output.symm
    have C34 : Chg [m4, m3, m2, m1] w26 w34 := ⟨os34.1, os34.2.1, os34.2.2, by omega, fun k hk hn => L34 k hk hn⟩
    have T34 := T26.now.out C34 (fun x hx => .inl (by have := own1 x hx; omega)) (hc.keep b34)
    have T35 := T34.out hk35.chg (fun x hx => by
      rcases List.mem_cons.1 hx with rfl | hx
      · exact .inr (by omega)
      · exact .inl (by have := own1 x hx; omega)) (hc.keep hb35)
    have o35 : ∀ x ∈ [m21, m4, m3, m2, m1], x < w6.heap.size ∨ w26.heap.size ≤ x := fun x hx => by
      rcases List.mem_cons.1 hx with rfl | hx
      · exact .inr (by omega)
      · exact .inl (by have := own1 x hx; omega)
    refine Pure.calls (rate_any T35.at_ hokc) fun w36 hb36 => ⟨_, _, rfl, .all hb36, fun w37 hb37 hk37 => ?_⟩
    have T37 := (T35.keep hb36).out hk37.chg o35 (hc.keep hb37)
    refine Pure.calls (plus_any (rateK_bd hokc) (bd_by (bd_sq hok1.arc) (len_bd hok1 4570 (by decide))) (by decide) w37) fun w38 hb38 => ⟨_, _, rfl, .all hb38, fun w39 hb39 hk39 => ?_⟩
    have T39 := (T37.keep hb38).out hk39.chg o35 (hc.keep hb39)
    have hbd := bd_plus (rateK_bd hokc) (bd_by (bd_sq hok1.arc) (len_bd hok1 4570 (by decide)))
    refine Pure.calls (rounded_any T39.at_ hokc (s := chgS c b t) (by
      have : Bd (chgS c b t) (30000000000000000 + 600 * 600 * (4570 * 100000)) := hbd
      simp only [Bd] at this ⊢; omega)) fun w40 hb40 => ⟨_, _, rfl, .all hb40, fun w41 hb41 _ => ⟨?_, hb41⟩⟩
    have e0 : chgErr c b t = 0 := by unfold chgErr; rw [if_pos he]; exact he2
    unfold changeR
    rw [if_pos e0]; rfl
end Go.Proofs.R03
end
section
/- The conditions of the functions, printed by program; each is what the generator reckons (kernel_rfl). -/
namespace Go.Proofs
open Go.Vc
set_option maxRecDepth 100000 in
set_option maxHeartbeats 2000000 in
theorem vc81 (slicesa : Option Addr) (slicesn : Nat) (slicesc : Nat) (w : World) (R : Ending → World → Prop) (h : ∃ (F1 : List Lf → World → Prop), ∃ (F2 : List Lf → Nat), (∀ (w2 :
    World), RowKit.Below w.heap.size w w2 → Kept [] w w2 → F1 [Lf.int IntKind.i64 0, Lf.int IntKind.i64 0] w2) ∧ ∀ (x1 x2 : Int) (w3 : World), RowKit.Below w.heap.size w w3 → F1
    [Lf.int IntKind.i64 x1, Lf.int IntKind.i64 x2] w3 → (x2 < (↑slicesn : Int) → ∃ (m1 : Nat), ∃ (m2 : Nat), slicesa = some { block := m1, off := m2 } ∧ (0 ≤ x2 ∧ x2 < (↑slicesn :
    Int)) ∧ ∃ (a1 : Option Addr), ∃ (m3 : Nat), ∃ (m4 : Nat), w3.cell? { block := m1, off := m2 + x2.toNat * 1 } = some (Value.slice a1 m3 m4) ∧ (-9223372036854775808 ≤ x1 + (↑m3 :
    Int) ∧ x1 + (↑m3 : Int) ≤ 9223372036854775807) ∧ (x1 + (↑m3 : Int) < 0 → ∀ (w4 : World), RowKit.Below w.heap.size w w4 → Kept [] w3 w4 → RunsTo Try.prog (Instr.makeInterface 9
    (Value.string { data := #[108, 101, 110, 32, 111, 117, 116, 32, 111, 102, 32, 114, 97, 110, 103, 101] })) w4 fun (v1 : Value) (w5 : World) => ∃ (v2 : Value), v1 = v2 ∧ KeepX
    true w.heap.size [] (fun _ => False) w4 w5 ∧ Unsup "an operation that is not plain") ∧ (0 ≤ x1 + (↑m3 : Int) → (-9223372036854775808 ≤ x2 + 1 ∧ x2 + (1 : Int) ≤
    9223372036854775807) ∧ ∀ (w6 : World), RowKit.Below w.heap.size w w6 → Kept [] w3 w6 → F1 [Lf.int IntKind.i64 (x1 + (↑m3 : Int)), Lf.int IntKind.i64 (x2 + 1)] w6 ∧ F2 [Lf.int
    IntKind.i64 (x1 + (↑m3 : Int)), Lf.int IntKind.i64 (x2 + 1)] < F2 [Lf.int IntKind.i64 x1, Lf.int IntKind.i64 x2])) ∧ ((↑slicesn : Int) ≤ x2 → ∀ (w7 : World), RowKit.Below
    w.heap.size w w7 → Kept [] w3 w7 → Calls Try.prog 95 #[Value.slice none 0 0, Value.int IntKind.i64 x1] w7 fun (e1 : Ending) (w8 : World) => ∃ (a2 : Option Addr), ∃ (m6 : Nat),
    ∃ (m7 : Nat), e1 = Ending.returned (Value.slice a2 m6 m7) ∧ KeepX true w.heap.size [] (fun _ => False) w7 w8 ∧ ∃ (F3 : List Lf → World → Prop), ∃ (F4 : List Lf → Nat),
    (∀ (w10 : World), RowKit.Below w.heap.size w w10 → Kept [] w8 w10 → F3 [Lf.sl a2 m6 m7, Lf.int IntKind.i64 0] w10) ∧ ∀ (a3 : Option Addr) (m9 m10 : Nat) (x3 : Int) (w11 :
    World), RowKit.Below w.heap.size w w11 → F3 [Lf.sl a3 m9 m10, Lf.int IntKind.i64 x3] w11 → (x3 < (↑slicesn : Int) → ∃ (m11 : Nat), ∃ (m12 : Nat), slicesa = some
    { block := m11, off := m12 } ∧ (0 ≤ x3 ∧ x3 < (↑slicesn : Int)) ∧ ∃ (a4 : Option Addr), ∃ (m13 : Nat), ∃ (m14 : Nat), w11.cell? { block := m11, off := m12 + x3.toNat * 1 } =
    some (Value.slice a4 m13 m14) ∧ ∀ (w12 : World), RowKit.Below w.heap.size w w12 → Kept [] w11 w12 → RunsTo Try.prog (Builtin.append_ #[28, 28] 28 #[Value.slice a3 m9 m10,
    Value.slice a4 m13 m14]) w12 fun (v3 : Value) (w13 : World) => ∃ (a5 : Option Addr), ∃ (m15 : Nat), ∃ (m16 : Nat), v3 = Value.slice a5 m15 m16 ∧ KeepX true w.heap.size [] (fun _ => False) w12 w13 ∧ (-9223372036854775808 ≤ x3 + 1 ∧ x3 + (1 : Int) ≤ 9223372036854775807) ∧ ∀ (w14 : World), RowKit.Below w.heap.size w w14 → Kept [] w13 w14 → F3
    [Lf.sl a5 m15 m16, Lf.int IntKind.i64 (x3 + 1)] w14 ∧ F4 [Lf.sl a5 m15 m16, Lf.int IntKind.i64 (x3 + 1)] < F4 [Lf.sl a3 m9 m10, Lf.int IntKind.i64 x3]) ∧ ((↑slicesn : Int) ≤ x3
    → ∀ (w15 : World), RowKit.Below w.heap.size w w15 → Kept [] w11 w15 → R (Ending.returned (Value.slice a3 m9 m10)) w15))) : Calls Try.prog 81 #[Value.slice slicesa slicesn
    slicesc] w R := calls_of_vc (pure := true) (wrapAt := []) (muts := []) (esc := []) (args := [SV.pv (PV.one (Lf.sl slicesa slicesn slicesc))]) (vs := [Value.slice slicesa
    slicesn slicesc]) Try.func81 rfl rfl rfl (Eq.mp (by kernel_rfl) h) 
set_option maxRecDepth 100000 in
set_option maxHeartbeats 2000000 in
theorem vc95 (sa : Option Addr) (sn : Nat) (sc : Nat) (n : Int) (w : World) (R : Ending → World → Prop) (h : (n < 0 → ∀ (w1 : World), RowKit.Below w.heap.size w w1 → Kept [] w w1 →
    RunsTo Try.prog (Instr.makeInterface 9 (Value.string { data := #[99, 97, 110, 110, 111, 116, 32, 98, 101, 32, 110, 101, 103, 97, 116, 105, 118, 101] })) w1 fun (v1 : Value) (w2
    : World) => ∃ (v2 : Value), v1 = v2 ∧ KeepX true w.heap.size [] (fun _ => False) w1 w2 ∧ Unsup "an operation that is not plain") ∧ (0 ≤ n → ∀ (w3 : World),
    RowKit.Below w.heap.size w w3 → Kept [] w w3 → RunsTo Try.prog (Builtin.cap_ #[28] 3 #[Value.slice sa sn sc]) w3 fun (v3 : Value) (w4 : World) => ∃ (x1 : Int), v3 = Value.int
    IntKind.i64 x1 ∧ KeepX true w.heap.size [] (fun _ => False) w3 w4 ∧ (-9223372036854775808 ≤ x1 - (↑sn : Int) ∧ x1 - (↑sn : Int) ≤ 9223372036854775807) ∧
    (-9223372036854775808 ≤ n - (x1 - (↑sn : Int)) ∧ n - (x1 - (↑sn : Int)) ≤ 9223372036854775807) ∧ (0 < n - (x1 - (↑sn : Int)) → ∀ (w5 : World), RowKit.Below w.heap.size w w5 →
    Kept [] w4 w5 → RunsTo Try.prog (Builtin.cap_ #[28] 3 #[Value.slice sa sn sc]) w5 fun (v4 : Value) (w6 : World) => ∃ (x2 : Int), v4 = Value.int IntKind.i64 x2 ∧ KeepX true
    w.heap.size [] (fun _ => False) w5 w6 ∧ (((0 : Int) ≤ 0 ∧ 0 ≤ x2) ∧ x2 ≤ (↑sc : Int)) ∧ ∀ (w7 : World), RowKit.Below w.heap.size w w7 → Kept [] w6 w7 → RunsTo Try.prog
    (Builtin.append_ #[28, 3] 28 #[Value.slice (subA sa sc (Int.toNat 0) 1) (x2.toNat - Int.toNat 0) (sc - Int.toNat 0), Value.int IntKind.i64 (n - (x1 - (↑sn : Int)))]) w7 fun (v5
    : Value) (w8 : World) => ∃ (a1 : Option Addr), ∃ (m4 : Nat), ∃ (m5 : Nat), v5 = Value.slice a1 m4 m5 ∧ KeepX true w.heap.size [] (fun _ => False) w7 w8 ∧ (((0 : Int) ≤
    0 ∧ 0 ≤ (↑sn : Int)) ∧ (↑sn : Int) ≤ (↑m5 : Int)) ∧ ∀ (w9 : World), RowKit.Below w.heap.size w w9 → Kept [] w8 w9 → R (Ending.returned (Value.slice (subA a1 m5 (Int.toNat 0) 1)
    ((↑sn : Int).toNat - Int.toNat 0) (m5 - Int.toNat 0))) w9) ∧ (n - (x1 - (↑sn : Int)) ≤ 0 → ∀ (w10 : World), RowKit.Below w.heap.size w w10 → Kept [] w4 w10 → R (Ending.returned
    (Value.slice sa sn sc)) w10))) : Calls Try.prog 95 #[Value.slice sa sn sc, Value.int IntKind.i64 n] w R := calls_of_vc (pure := true) (wrapAt := []) (muts := []) (esc := [])
    (args := [SV.pv (PV.one (Lf.sl sa sn sc)), SV.pv (PV.one (Lf.int IntKind.i64 n))]) (vs := [Value.slice sa sn sc, Value.int IntKind.i64 n]) Try.func95 rfl rfl rfl (Eq.mp (by
    kernel_rfl) h) 
set_option maxRecDepth 100000 in
set_option maxHeartbeats 2000000 in
theorem vc45 (a : Int) (b : Int) (w : World) (R : Ending → World → Prop) (h : ∃ (F1 : List Lf → World → Prop), ∃ (F2 : List Lf → Nat), (∀ (w2 : World), RowKit.Below w.heap.size w
    w2 → Kept [] w w2 → F1 [Lf.int IntKind.i64 a, Lf.int IntKind.i64 b] w2) ∧ ∀ (x1 x2 : Int) (w3 : World), RowKit.Below w.heap.size w w3 → F1 [Lf.int IntKind.i64 x1, Lf.int
    IntKind.i64 x2] w3 → (0 < x2 → x2 ≠ 0 ∧ ∀ (w4 : World), RowKit.Below w.heap.size w w4 → Kept [] w3 w4 → F1 [Lf.int IntKind.i64 x2, Lf.int IntKind.i64 (x1.tmod x2)] w4 ∧ F2
    [Lf.int IntKind.i64 x2, Lf.int IntKind.i64 (x1.tmod x2)] < F2 [Lf.int IntKind.i64 x1, Lf.int IntKind.i64 x2]) ∧ (x2 ≤ 0 → ∀ (w5 : World), RowKit.Below w.heap.size w w5 → Kept
    [] w3 w5 → R (Ending.returned (Value.int IntKind.i64 x1)) w5)) : Calls Try.prog 45 #[Value.int IntKind.i64 a, Value.int IntKind.i64 b] w R := calls_of_vc (pure := true) (wrapAt
    := []) (muts := []) (esc := []) (args := [SV.pv (PV.one (Lf.int IntKind.i64 a)), SV.pv (PV.one (Lf.int IntKind.i64 b))]) (vs := [Value.int IntKind.i64 a, Value.int IntKind.i64
    b]) Try.func45 rfl rfl rfl (Eq.mp (by kernel_rfl) h) 
set_option maxRecDepth 100000 in
set_option maxHeartbeats 2000000 in
theorem vc42 (c0 : Int) (c1 : Int) (c2a : Option Addr) (c2n : Nat) (c2c : Nat) (c3 : Int) (c4 : Int) (c5 : Int) (c6 : Int) (t0a : Option Addr) (t0n : Nat) (t0c : Nat) (t1 : Int)
    (t2 : Int) (t3 : Int) (t4 : Int) (t5 : Int) (t6 : Int) (w : World) (R : Ending → World → Prop) (h : ∀ (m1 : Nat), w.heap.size ≤ m1 → ∀ (m2 : Nat), w.heap.size ≤ m2 → ∀ (m3 :
    Nat), w.heap.size ≤ m3 → ∀ (m4 : Nat), w.heap.size ≤ m4 → ∀ (w1 : World), RowKit.Below w.heap.size w w1 → KeptIn [(0, w.heap.size)] [m4, m3, m2, m1] w w1 → Calls Try.prog 80
    #[] w1 fun (e1 : Ending) (w2 : World) => ∃ (x1 : Int), ∃ (x2 : Int), ∃ (x3 : Int), ∃ (x4 : Int), ∃ (x5 : Int), ∃ (x6 : Int), ∃ (x7 : Int), ∃ (x8 : Int), e1 = Ending.returned
    (Value.agg #[Value.int IntKind.i64 x1, Value.int IntKind.i64 x2, Value.int IntKind.i64 x3, Value.int IntKind.i64 x4, Value.int IntKind.i64 x5, Value.int IntKind.i64 x6,
    Value.int IntKind.i64 x7, Value.int IntKind.i64 x8]) ∧ KeepX true w.heap.size [m4, m3, m2, m1] (fun _ => False) w1 w2 ∧ ∀ (w3 : World), RowKit.Below w.heap.size w w3 →
    KeptIn [(0, w2.heap.size)] [m4, m3, m2, m1] w2 w3 → Calls Try.prog 57 #[Value.agg #[Value.int IntKind.i64 c0, Value.int IntKind.i64 c1, Value.slice c2a c2n c2c, Value.int
    IntKind.i64 c3, Value.int IntKind.i64 c4, Value.int IntKind.i64 c5, Value.int IntKind.i64 c6], Value.agg #[Value.int IntKind.i64 x1, Value.int IntKind.i64 x2, Value.int
    IntKind.i64 x3, Value.int IntKind.i64 x4, Value.int IntKind.i64 x5, Value.int IntKind.i64 x6, Value.int IntKind.i64 x7, Value.int IntKind.i64 x8]] w3 fun (e2 : Ending) (w4 :
    World) => ∃ (a1 : Option Addr), e2 = Ending.returned (Value.pointer a1) ∧ KeepX true w.heap.size [m4, m3, m2, m1] (fun _ => False) w3 w4 ∧ ((↑t0n : Int) ≠ (↑c2n : Int)
    → ∀ (w5 : World), RowKit.Below w.heap.size w w5 → Kept [m4, m3, m2, m1] w4 w5 → R (Ending.returned (Value.tuple #[Value.pointer a1, Value.bool false])) w5) ∧ ((↑t0n : Int) =
    (↑c2n : Int) → ∀ (m7 : Nat), w4.heap.size ≤ m7 → ∀ (m8 : Nat), w4.heap.size ≤ m8 → ∀ (w6 : World), RowKit.Below w.heap.size w w6 → Kept [m8, m7, m4, m3, m2, m1] w4 w6 →
    w6.heap[m8]? = some (Obj.cells #[Value.slice t0a t0n t0c, Value.slice (some { block := m7, off := 0 }) 6 6] 28) → w6.heap[m7]? = some (Obj.cells #[Value.int IntKind.i64 t1,
    Value.int IntKind.i64 t2, Value.int IntKind.i64 t3, Value.int IntKind.i64 t4, Value.int IntKind.i64 t5, Value.int IntKind.i64 t6] 3) → Calls Try.prog 81 #[Value.slice (some
    { block := m8, off := 0 }) 2 2] w6 fun (e3 : Ending) (w7 : World) => ∃ (a2 : Option Addr), ∃ (m11 : Nat), ∃ (m12 : Nat), e3 = Ending.returned (Value.slice a2 m11 m12) ∧ KeepX
    true w.heap.size [m8, m7, m4, m3, m2, m1] (fun _ => False) w6 w7 ∧ ∀ (m14 : Nat), w7.heap.size ≤ m14 → ∃ (y3 : List (List Value)), ∃ (F2 : (Nat → Prop) → List Lf →
    Nat → World → Prop), ∃ (F3 : World → Prop), Iter Try.prog 82 [Value.pointer a1] [] y3 F3 ∧ (∀ (w10 : World), RowKit.Below w.heap.size w w10 → Kept [m8, m7, m14, m4, m3, m2, m1]
    w7 w10 → w10.heap[m3]? = some (Obj.cells #[Value.pointer a1] 91) → w10.heap[m4]? = some (Obj.cells #[Value.bool false] 4) → w10.heap[m14]? = some (Obj.cells #[Value.slice a2
    m11 m12] 28) → F2 (fun _ => False) [Lf.op a1, Lf.bool false, Lf.sl a2 m11 m12] 0 w10) ∧ ∀ (a3 : Option Addr) (t1 : Bool) (a4 : Option Addr) (m21 m22 m23 : Nat) (F4 F5
    : Nat → Prop) (w11 w12 : World), F2 F4 [Lf.op a3, Lf.bool t1, Lf.sl a4 m21 m22] m23 w11 → CalmFrom w.heap.size w11 w12 → (∀ (m26 : Nat), F4 m26 → F5 m26) → (∀ (m27 : Nat), F5
    m27 → F4 m27 ∨ w11.heap.size ≤ m27) → (∀ (m28 : Nat), F5 m28 → w.heap.size ≤ m28 ∧ m28 < w12.heap.size) → RowKit.Below w.heap.size w w12 → F3 w12 ∧ (∀ (y8 : List Value),
    y3[m23]? = some y8 → ∃ (a5 : Option Addr), y8 = [Value.pointer a5] ∧ ∀ (m30 : Nat) (w13 w14 : World), RowKit.Below w.heap.size w w14 → Kept [m8, m7, m14, m4, m3, m2, m1] w12
    w14 → ∀ (w15 : World), CalmFrom w.heap.size w14 w15 → ∀ (w16 : World), ∃ (m31 : Nat), ∃ (m32 : Nat), a5 = some { block := m31, off := m32 } ∧ True ∧ ∃ (x9 : Int), ∃ (x10 :
    Int), w15.cell? { block := m31, off := m32 } = some (Value.int IntKind.i64 x9) ∧ w15.cell? { block := m31, off := m32 + 1 } = some (Value.int IntKind.i64 x10) ∧ (m31 <
    w.heap.size ∨ m31 ≠ m8 ∧ m31 ≠ m7 ∧ m31 ≠ m14 ∧ m31 ≠ m4 ∧ m31 ≠ m3 ∧ m31 ≠ m2 ∧ m31 ≠ m1) ∧ ∃ (m33 : Nat), ∃ (m34 : Nat), a4 = some { block := m33, off := m34 } ∧ ((0 : Int) ≤
    0 ∧ 0 < (↑m21 : Int)) ∧ ∃ (x11 : Int), w15.cell? { block := m33, off := m34 + Int.toNat 0 * 1 } = some (Value.int IntKind.i64 x11) ∧ (m33 < w.heap.size ∨ m33 ≠ m8 ∧ m33 ≠ m7 ∧
    m33 ≠ m14 ∧ m33 ≠ m4 ∧ m33 ≠ m3 ∧ m33 ≠ m2 ∧ m33 ≠ m1) ∧ ∀ (w17 : World), RowKit.Below w.heap.size w w17 → KeptIn [(0, w15.heap.size)] [m8, m7, m14, m4, m3, m2, m1] w15 w17 →
    Calls Try.prog 83 #[Value.agg #[Value.int IntKind.i64 x9, Value.int IntKind.i64 x10], Value.int IntKind.i64 x11] w17 fun (e4 : Ending) (w18 : World) => ∃ (t2 : Bool), e4 =
    Ending.returned (Value.bool t2) ∧ KeepX true w.heap.size [m8, m7, m14, m4, m3, m2, m1] F5 w17 w18 ∧ ((!t2) = true → ∀ (w19 : World), RowKit.Below w.heap.size w w19 → Kept [m8,
    m7, m14, m4, m3, m2, m1] w18 w19 → ∀ (F6 : Nat → Prop) (w20 : World), CalmFrom w.heap.size w19 w20 → (∀ (m36 : Nat), F5 m36 → F6 m36) → ∀ (w21 : World), RowKit.Below
    w.heap.size w w21 → Kept [m8, m7, m14, m4, m3, m2, m1] w20 w21 → ∀ (w22 : World), CalmFrom w.heap.size w21 w22 → R (Ending.returned (Value.tuple #[Value.pointer a3, Value.bool
    false])) w22) ∧ ((!t2) = false → ∃ (m37 : Nat), ∃ (m38 : Nat), a4 = some { block := m37, off := m38 } ∧ ((0 : Int) ≤ 0 ∧ 0 < (↑m21 : Int)) ∧ ∃ (x12 : Int), w18.cell?
    { block := m37, off := m38 + Int.toNat 0 * 1 } = some (Value.int IntKind.i64 x12) ∧ (m37 < w.heap.size ∨ m37 ≠ m8 ∧ m37 ≠ m7 ∧ m37 ≠ m14 ∧ m37 ≠ m4 ∧ m37 ≠ m3 ∧ m37 ≠ m2 ∧ m37
    ≠ m1) ∧ ∀ (w23 : World), RowKit.Below w.heap.size w w23 → KeptIn [(0, w18.heap.size)] [m8, m7, m14, m4, m3, m2, m1] w18 w23 → Calls Try.prog 65 #[Value.int IntKind.i64 x12] w23
    fun (e5 : Ending) (w24 : World) => ∃ (x13 : Int), ∃ (x14 : Int), e5 = Ending.returned (Value.agg #[Value.int IntKind.i64 x13, Value.int IntKind.i64 x14]) ∧ KeepX true
    w.heap.size [m8, m7, m14, m4, m3, m2, m1] F5 w23 w24 ∧ ∃ (m39 : Nat), ∃ (m40 : Nat), a5 = some { block := m39, off := m40 } ∧ True ∧ ∀ (w25 : World), RowKit.Below w.heap.size w
    w25 → KeptIn [(0, w24.heap.size)] [m8, m7, m14, m4, m3, m2, m1] w24 w25 → RunsTo Try.prog ((Instr.storeAt 95 (Value.pointer (some { block := m39, off := m40 })) (Value.agg
    #[Value.int IntKind.i64 x13, Value.int IntKind.i64 x14])) >>= fun _ => pure (Value.tuple #[])) w25 fun (v1 : Value) (w26 : World) => KeepX true w.heap.size [m8, m7, m14, m4,
    m3, m2, m1] F5 w25 w26 ∧ ((0 : Int) ≤ 1 ∧ 1 ≤ (↑m21 : Int)) ∧ ∀ (w27 : World), RowKit.Below w.heap.size w w27 → Kept [m8, m7, m14, m4, m3, m2, m1] w26 w27 → F2 F5 [Lf.op a3,
    Lf.bool t1, Lf.sl (subA a4 m22 (Int.toNat 1) 1) (m21 - Int.toNat 1) (m22 - Int.toNat 1)] (m23 + 1) w27)) ∧ (m23 = y3.length → ∀ (w28 : World), RowKit.Below w.heap.size w w28 →
    Kept [m8, m7, m14, m4, m3, m2, m1] w12 w28 → ∀ (w29 : World), CalmFrom w.heap.size w28 w29 → R (Ending.returned (Value.tuple #[Value.pointer a3, Value.bool true])) w29))) :
    Calls Try.prog 42 #[Value.agg #[Value.int IntKind.i64 c0, Value.int IntKind.i64 c1, Value.slice c2a c2n c2c, Value.int IntKind.i64 c3, Value.int IntKind.i64 c4, Value.int
    IntKind.i64 c5, Value.int IntKind.i64 c6], Value.agg #[Value.slice t0a t0n t0c, Value.int IntKind.i64 t1, Value.int IntKind.i64 t2, Value.int IntKind.i64 t3, Value.int
    IntKind.i64 t4, Value.int IntKind.i64 t5, Value.int IntKind.i64 t6]] w R := calls_of_vc (pure := true) (wrapAt := []) (muts := [4, 5, 6]) (esc := []) (args := [SV.pv (PV.agg
    [Lf.int IntKind.i64 c0, Lf.int IntKind.i64 c1, Lf.sl c2a c2n c2c, Lf.int IntKind.i64 c3, Lf.int IntKind.i64 c4, Lf.int IntKind.i64 c5, Lf.int IntKind.i64 c6]), SV.pv (PV.agg
    [Lf.sl t0a t0n t0c, Lf.int IntKind.i64 t1, Lf.int IntKind.i64 t2, Lf.int IntKind.i64 t3, Lf.int IntKind.i64 t4, Lf.int IntKind.i64 t5, Lf.int IntKind.i64 t6])]) (vs :=
    [Value.agg #[Value.int IntKind.i64 c0, Value.int IntKind.i64 c1, Value.slice c2a c2n c2c, Value.int IntKind.i64 c3, Value.int IntKind.i64 c4, Value.int IntKind.i64 c5,
    Value.int IntKind.i64 c6], Value.agg #[Value.slice t0a t0n t0c, Value.int IntKind.i64 t1, Value.int IntKind.i64 t2, Value.int IntKind.i64 t3, Value.int IntKind.i64 t4,
    Value.int IntKind.i64 t5, Value.int IntKind.i64 t6]]) Try.func42 rfl rfl rfl (Eq.mp (by kernel_rfl) h) 
set_option maxRecDepth 100000 in
set_option maxHeartbeats 2000000 in
theorem vc14 (c0 : Int) (c1 : Int) (c2a : Option Addr) (c2n : Nat) (c2c : Nat) (c3 : Int) (c4 : Int) (c5 : Int) (c6 : Int) (t0a : Option Addr) (t0n : Nat) (t0c : Nat) (t1 : Int)
    (t2 : Int) (t3 : Int) (t4 : Int) (t5 : Int) (t6 : Int) (w : World) (R : Ending → World → Prop) (h : ∀ (m1 : Nat), w.heap.size ≤ m1 → ∀ (m2 : Nat), w.heap.size ≤ m2 → ∀ (m3 :
    Nat), w.heap.size ≤ m3 → ∀ (w1 : World), RowKit.Below w.heap.size w w1 → Kept [m3, m2, m1] w w1 → Calls Try.prog 17 #[Value.agg #[Value.int IntKind.i64 c0, Value.int
    IntKind.i64 c1, Value.slice c2a c2n c2c, Value.int IntKind.i64 c3, Value.int IntKind.i64 c4, Value.int IntKind.i64 c5, Value.int IntKind.i64 c6]] w1 fun (e1 : Ending) (w2 :
    World) => ∃ (x1 : Int), e1 = Ending.returned (Value.int IntKind.i64 x1) ∧ KeepX true w.heap.size [m3, m2, m1] (fun _ => False) w1 w2 ∧ (x1 ≠ 0 → ∀ (w3 : World),
    RowKit.Below w.heap.size w w3 → Kept [m3, m2, m1] w2 w3 → R (Ending.returned (Value.tuple #[Value.agg #[Value.int IntKind.i64 0, Value.int IntKind.i64 0], Value.int IntKind.i64
    x1])) w3) ∧ (x1 = 0 → ∀ (w4 : World), RowKit.Below w.heap.size w w4 → Kept [m3, m2, m1] w2 w4 → Calls Try.prog 42 #[Value.agg #[Value.int IntKind.i64 c0, Value.int IntKind.i64
    c1, Value.slice c2a c2n c2c, Value.int IntKind.i64 c3, Value.int IntKind.i64 c4, Value.int IntKind.i64 c5, Value.int IntKind.i64 c6], Value.agg #[Value.slice t0a t0n t0c,
    Value.int IntKind.i64 t1, Value.int IntKind.i64 t2, Value.int IntKind.i64 t3, Value.int IntKind.i64 t4, Value.int IntKind.i64 t5, Value.int IntKind.i64 t6]] w4 fun (e2 :
    Ending) (w5 : World) => ∃ (a1 : Option Addr), ∃ (t1 : Bool), e2 = Ending.returned (Value.tuple #[Value.pointer a1, Value.bool t1]) ∧ KeepX true w.heap.size [m3, m2, m1] (fun _ => False) w4 w5 ∧ ((!t1) = true → ∀ (w6 : World), RowKit.Below w.heap.size w w6 → Kept [m3, m2, m1] w5 w6 → R (Ending.returned (Value.tuple #[Value.agg #[Value.int
    IntKind.i64 0, Value.int IntKind.i64 0], Value.int IntKind.i64 2])) w6) ∧ ((!t1) = false → ∀ (w7 : World), RowKit.Below w.heap.size w w7 → Kept [m3, m2, m1] w5 w7 → Calls
    Try.prog 43 #[Value.pointer a1] w7 fun (e3 : Ending) (w8 : World) => ∃ (x2 : Int), ∃ (x3 : Int), e3 = Ending.returned (Value.agg #[Value.int IntKind.i64 x2, Value.int
    IntKind.i64 x3]) ∧ KeepX true w.heap.size [m3, m2, m1] (fun _ => False) w7 w8 ∧ ∀ (w9 : World), RowKit.Below w.heap.size w w9 → Kept [m3, m2, m1] w8 w9 → Calls
    Try.prog 44 #[Value.pointer a1] w9 fun (e4 : Ending) (w10 : World) => ∃ (x4 : Int), ∃ (x5 : Int), e4 = Ending.returned (Value.agg #[Value.int IntKind.i64 x4, Value.int
    IntKind.i64 x5]) ∧ KeepX true w.heap.size [m3, m2, m1] (fun _ => False) w9 w10 ∧ ((-9223372036854775808 : Int) ≤ 0 - x2 ∧ 0 - x2 ≤ 9223372036854775807) ∧ ∀ (w11 :
    World), RowKit.Below w.heap.size w w11 → Kept [m3, m2, m1] w10 w11 → Calls Try.prog 45 #[Value.int IntKind.i64 (max x2 (0 - x2)), Value.int IntKind.i64 x4] w11 fun (e5 :
    Ending) (w12 : World) => ∃ (x6 : Int), e5 = Ending.returned (Value.int IntKind.i64 x6) ∧ KeepX true w.heap.size [m3, m2, m1] (fun _ => False) w11 w12 ∧ (x6 ≠ 0 ∧
    -9223372036854775808 ≤ x2.tdiv x6 ∧ x2.tdiv x6 ≤ 9223372036854775807) ∧ (x6 ≠ 0 ∧ -9223372036854775808 ≤ x4.tdiv x6 ∧ x4.tdiv x6 ≤ 9223372036854775807) ∧ ∀ (w13 : World),
    RowKit.Below w.heap.size w w13 → Kept [m3, m2, m1] w12 w13 → R (Ending.returned (Value.tuple #[Value.agg #[Value.int IntKind.i64 (x2.tdiv x6), Value.int IntKind.i64 (x4.tdiv
    x6)], Value.int IntKind.i64 0])) w13))) : Calls Try.prog 14 #[Value.agg #[Value.int IntKind.i64 c0, Value.int IntKind.i64 c1, Value.slice c2a c2n c2c, Value.int IntKind.i64 c3,
    Value.int IntKind.i64 c4, Value.int IntKind.i64 c5, Value.int IntKind.i64 c6], Value.agg #[Value.slice t0a t0n t0c, Value.int IntKind.i64 t1, Value.int IntKind.i64 t2,
    Value.int IntKind.i64 t3, Value.int IntKind.i64 t4, Value.int IntKind.i64 t5, Value.int IntKind.i64 t6]] w R := calls_of_vc (pure := true) (wrapAt := []) (muts := []) (esc :=
    []) (args := [SV.pv (PV.agg [Lf.int IntKind.i64 c0, Lf.int IntKind.i64 c1, Lf.sl c2a c2n c2c, Lf.int IntKind.i64 c3, Lf.int IntKind.i64 c4, Lf.int IntKind.i64 c5, Lf.int
    IntKind.i64 c6]), SV.pv (PV.agg [Lf.sl t0a t0n t0c, Lf.int IntKind.i64 t1, Lf.int IntKind.i64 t2, Lf.int IntKind.i64 t3, Lf.int IntKind.i64 t4, Lf.int IntKind.i64 t5, Lf.int
    IntKind.i64 t6])]) (vs := [Value.agg #[Value.int IntKind.i64 c0, Value.int IntKind.i64 c1, Value.slice c2a c2n c2c, Value.int IntKind.i64 c3, Value.int IntKind.i64 c4,
    Value.int IntKind.i64 c5, Value.int IntKind.i64 c6], Value.agg #[Value.slice t0a t0n t0c, Value.int IntKind.i64 t1, Value.int IntKind.i64 t2, Value.int IntKind.i64 t3,
    Value.int IntKind.i64 t4, Value.int IntKind.i64 t5, Value.int IntKind.i64 t6]]) Try.func14 rfl rfl rfl (Eq.mp (by kernel_rfl) h) 
set_option maxRecDepth 100000 in
set_option maxHeartbeats 2000000 in
theorem vc90 (kb : Nat) (ko : Nat) (w : World) (R : Ending → World → Prop) (h : ∀ (w1 : World), RowKit.Below w.heap.size w w1 → Kept [] w w1 → ∀ (m1 : Nat) (w2 : World), m1 =
    w1.heap.size → w2 = w1.alloc (Obj.cells #[Value.slice none 0 0, Value.int IntKind.i64 0, Value.int IntKind.i64 0, Value.int IntKind.i64 0, Value.int IntKind.i64 0, Value.int
    IntKind.i64 0, Value.int IntKind.i64 0] 30) → ∃ (a1 : Option Addr), ∃ (m2 : Nat), ∃ (m3 : Nat), w2.cell? { block := kb, off := ko + 7 } = some (Value.slice a1 m2 m3) ∧ ∃ (F1 :
    List Lf → World → Prop), ∃ (F2 : List Lf → Nat), (∀ (w4 : World), RowKit.Below w.heap.size w w4 → Kept [] w2 w4 → F1 [Lf.int IntKind.i64 0] w4) ∧ ∀ (x1 : Int) (w5 : World),
    RowKit.Below w.heap.size w w5 → F1 [Lf.int IntKind.i64 x1] w5 → (x1 < (↑m2 : Int) → ∃ (m4 : Nat), ∃ (m5 : Nat), a1 = some { block := m4, off := m5 } ∧ (0 ≤ x1 ∧ x1 < (↑m2 :
    Int)) ∧ ∃ (x2 : Int), ∃ (x3 : Int), w5.cell? { block := m4, off := m5 + x1.toNat * 2 } = some (Value.int IntKind.i64 x2) ∧ w5.cell?
    { block := m4, off := m5 + x1.toNat * 2 + 1 } = some (Value.int IntKind.i64 x3) ∧ ∀ (m6 : Nat), w5.heap.size ≤ m6 → ∃ (a2 : Option Addr), ∃ (m7 : Nat), ∃ (m8 : Nat), w5.cell?
    { block := m1, off := 0 + 0 } = some (Value.slice a2 m7 m8) ∧ (m1 < w.heap.size ∨ m1 ≠ m6) ∧ ∀ (m9 : Nat), w5.heap.size ≤ m9 → ∀ (w6 : World), RowKit.Below w.heap.size w w6 →
    Kept [m9, m6] w5 w6 → w6.heap[m9]? = some (Obj.cells #[Value.int IntKind.i64 x2] 3) → RunsTo Try.prog (Builtin.append_ #[28, 28] 28 #[Value.slice a2 m7 m8, Value.slice (some
    { block := m9, off := 0 }) 1 1]) w6 fun (v1 : Value) (w7 : World) => ∃ (a3 : Option Addr), ∃ (m11 : Nat), ∃ (m12 : Nat), v1 = Value.slice a3 m11 m12 ∧ KeepX true w.heap.size
    [m9, m6] (fun _ => False) w6 w7 ∧ ∀ (w8 : World), RowKit.Below w.heap.size w w8 → Kept [m9, m6] w7 w8 → RunsTo Try.prog ((Instr.storeAt 28 (Value.pointer (some
    { block := m1, off := 0 + 0 })) (Value.slice a3 m11 m12)) >>= fun _ => pure (Value.tuple #[])) w8 fun (v2 : Value) (w9 : World) => KeepX true w.heap.size [m9, m6] (fun _ => False) w8 w9 ∧ (-9223372036854775808 ≤ x1 + 1 ∧ x1 + (1 : Int) ≤ 9223372036854775807) ∧ ∀ (w10 : World), RowKit.Below w.heap.size w w10 → Kept [m9, m6] w9 w10 → F1
    [Lf.int IntKind.i64 (x1 + 1)] w10 ∧ F2 [Lf.int IntKind.i64 (x1 + 1)] < F2 [Lf.int IntKind.i64 x1]) ∧ ((↑m2 : Int) ≤ x1 → ∀ (m15 : Nat), w5.heap.size ≤ m15 → ∃ (F3 : List Lf →
    World → Prop), ∃ (F4 : List Lf → Nat), (∀ (w12 : World), RowKit.Below w.heap.size w w12 → Kept [m15] w5 w12 → F3 [Lf.int IntKind.i64 0] w12) ∧ ∀ (x4 : Int) (w13 : World),
    RowKit.Below w.heap.size w w13 → F3 [Lf.int IntKind.i64 x4] w13 → (x4 < 6 → ∀ (w14 : World), RowKit.Below w.heap.size w w14 → Kept [m15] w13 w14 → RunsTo Try.prog (Instr.index
    153 (Value.agg #[Value.pointer (some { block := m1, off := 0 + 1 }), Value.pointer (some { block := m1, off := 0 + 2 }), Value.pointer (some { block := m1, off := 0 + 3 }),
    Value.pointer (some { block := m1, off := 0 + 4 }), Value.pointer (some { block := m1, off := 0 + 5 }), Value.pointer (some { block := m1, off := 0 + 6 })]) (Value.int
    IntKind.i64 x4)) w14 fun (v3 : Value) (w15 : World) => ∃ (a4 : Option Addr), v3 = Value.pointer a4 ∧ KeepX true w.heap.size [m15] (fun _ => False) w14 w15 ∧ (0 ≤ x4 ∧
    x4 < (↑6 : Int)) ∧ ∃ (x5 : Int), w15.cell? { block := kb, off := ko + 8 + x4.toNat * 2 + 0 + 0 } = some (Value.int IntKind.i64 x5) ∧ (kb < w.heap.size ∨ kb ≠ m15) ∧ ∃ (m17 :
    Nat), ∃ (m18 : Nat), a4 = some { block := m17, off := m18 } ∧ True ∧ ∀ (w16 : World), RowKit.Below w.heap.size w w16 → Kept [m15] w15 w16 → RunsTo Try.prog ((Instr.storeAt 3
    (Value.pointer (some { block := m17, off := m18 })) (Value.int IntKind.i64 x5)) >>= fun _ => pure (Value.tuple #[])) w16 fun (v4 : Value) (w17 : World) => KeepX true
    w.heap.size [m15] (fun _ => False) w16 w17 ∧ (-9223372036854775808 ≤ x4 + 1 ∧ x4 + (1 : Int) ≤ 9223372036854775807) ∧ ∀ (w18 : World), RowKit.Below w.heap.size w w18
    → Kept [m15] w17 w18 → F3 [Lf.int IntKind.i64 (x4 + 1)] w18 ∧ F4 [Lf.int IntKind.i64 (x4 + 1)] < F4 [Lf.int IntKind.i64 x4]) ∧ (6 ≤ x4 → ∃ (a5 : Option Addr), ∃ (m20 : Nat), ∃
    (m21 : Nat), ∃ (x6 : Int), ∃ (x7 : Int), ∃ (x8 : Int), ∃ (x9 : Int), ∃ (x10 : Int), ∃ (x11 : Int), w13.cell? { block := m1, off := 0 } = some (Value.slice a5 m20 m21) ∧
    w13.cell? { block := m1, off := 0 + 1 } = some (Value.int IntKind.i64 x6) ∧ w13.cell? { block := m1, off := 0 + 1 + 1 } = some (Value.int IntKind.i64 x7) ∧ w13.cell?
    { block := m1, off := 0 + 1 + 1 + 1 } = some (Value.int IntKind.i64 x8) ∧ w13.cell? { block := m1, off := 0 + 1 + 1 + 1 + 1 } = some (Value.int IntKind.i64 x9) ∧ w13.cell?
    { block := m1, off := 0 + 1 + 1 + 1 + 1 + 1 } = some (Value.int IntKind.i64 x10) ∧ w13.cell? { block := m1, off := 0 + 1 + 1 + 1 + 1 + 1 + 1 } = some (Value.int IntKind.i64
    x11) ∧ (m1 < w.heap.size ∨ m1 ≠ m15) ∧ ∀ (w19 : World), RowKit.Below w.heap.size w w19 → Kept [m15] w13 w19 → RunsTo Try.prog ((Instr.storeAt 30 (Value.pointer (some
    { block := m1, off := 0 })) (Value.agg #[Value.slice a5 m20 m21, Value.int IntKind.i64 x6, Value.int IntKind.i64 x7, Value.int IntKind.i64 x8, Value.int IntKind.i64 x9,
    Value.int IntKind.i64 x10, Value.int IntKind.i64 x11])) >>= fun _ => pure (Value.tuple #[])) w19 fun (v5 : Value) (w20 : World) => KeepX true w.heap.size [m15] (fun _ => False) w19 w20 ∧ ∀ (w21 : World), RowKit.Below w.heap.size w w21 → Kept [m15] w20 w21 → ∃ (v6 : Value), ResIs Try.prog 30 m1 0 v6 w21 ∧ R (Ending.returned v6) w21))) : Calls
    Try.prog 90 #[Value.pointer (some { block := kb, off := ko })] w R := calls_of_vc (pure := true) (wrapAt := []) (muts := []) (esc := [2]) (args := [SV.pv (PV.one (Lf.ptr kb
    ko))]) (vs := [Value.pointer (some { block := kb, off := ko })]) Try.func90 rfl rfl rfl (Eq.mp (by kernel_rfl) h) 
end Go.Proofs
end
section
/- Contracts: Grow, Concat, gcd, all. -/
namespace Go.Proofs.R03
open Go.Vc Go.RowKit Go.Proofs Go.Lib

theorem run_cap {w : World} {a : Option Addr} {n c : Nat} : (Builtin.cap_ #[28] 3 #[.slice a n c]).run Try.prog w = .ok (I c) w := by
  have h1 : (underlying 28).run Try.prog w = .ok (.slice 3) w := run_underlying (by kernel_rfl) w
  simp [Builtin.cap_, h1, Sem.run_bind, Sem.run_pure, goInt]
theorem calm_below {B : Nat} {w w' : World} (h : Below w.heap.size w w') : CalmFrom B w w' := ⟨h.os, h.tape, h.output, h.size, fun k o hk _ => (h.block k (lt_of_some hk)).trans hk⟩

theorem grow_any {n : Nat} (hn : 0 < n) (hn2 : n ≤ 1000) (w : World) : Calls Try.prog 95 #[.slice none 0 0, I n] w fun e w' => ∃ b c, e = .returned (.slice (some ⟨b, 0, none⟩) 0 c) ∧ Below w.heap.size w w' ∧ Row 3 1 w.heap.size [] (some ⟨b, 0, none⟩) 0 c [] w' := by
  refine vc95 _ _ _ _ w _ ⟨fun h => by omega, fun _ w3 hb3 _ => ⟨_, _, run_cap, _, rfl, .all (.refl _ _), by simp, by simp; omega, fun _ w5 hb5 _ => ?_, fun h => by simp at h; omega⟩⟩
  refine ⟨_, _, run_cap, _, rfl, .all (.refl _ _), by simp, fun w7 hb7 _ => ?_⟩
  obtain ⟨ht, i, z, hi, hz, hs, hby, hzs⟩ := elemB_spec (P := Try.prog) (t := 28) (e := 3) (size := 1) (bytes := 8) (by kernel_rfl)
  have hr := run_append_grow_zeros (P := Try.prog) w7 28 3 28 3 i z .i64 .i64 ht (by kernel_rfl) hi hz none 0 0 [] (by simp [Builtin.firstCells]) n hn (by omega) (by omega) (by omega) (by rw [hby]; omega) (growslice_fits (by omega) (by rw [hby]; omega))
  have e1 : subA none 0 (Int.toNat 0) 1 = none := rfl
  simp only [e1]
  rw [show (n : Int) - (((0 : Nat) : Int) - ((0 : Nat) : Int)) = (n : Int) by omega]
  refine ⟨_, _, hr, _, _, _, rfl, .all alloc_below, by simp, fun w9 hb9 hk9 => ?_⟩
  have hge := grownCap_ge w7 (0 + n) 0 3
  have hh : (w7.drew.alloc (.cells (([] : List Value).toArray ++ Builtin.zeroCells z.cells n ++ Builtin.zeroCells z.cells (grownCap w7 (0 + n) 0 3 - (0 + n))) 3)).heap[w7.heap.size]? = some (.cells (([] : List Value).toArray ++ Builtin.zeroCells z.cells n ++ Builtin.zeroCells z.cells (grownCap w7 (0 + n) 0 3 - (0 + n))) 3 (0, 0)) := heap_alloc_new w7.drew _
  have h9 := (hk9.block w7.heap.size (lt_of_some hh) (by simp)).trans hh
  refine ⟨w7.heap.size, grownCap w7 (0 + n) 0 3, ?_, hb9, ⟨⟨rfl, .inr ⟨w7.heap.size, grownCap w7 (0 + n) 0 3, _, rfl, hb7.size, h9, Nat.zero_le _, grownCap_le_maxLen w7 (0 + n) 0 3 (Nat.le_trans (show 0 + n ≤ 140737488355328 by omega) maxLen_big), ?_, ?_⟩⟩, by simp⟩⟩
  · have e2 : subA (some (⟨w7.heap.size, 0, none⟩ : Addr)) (grownCap w7 (0 + n) 0 3) (Int.toNat 0) 1 = some ⟨w7.heap.size, 0, none⟩ := by
      unfold subA
      rw [if_neg (by show ¬ grownCap w7 (0 + n) 0 3 = 0; omega)]
      simp [Addr.add]
    rw [e2]
    simp
  · simp only [Array.size_append, List.size_toArray, size_zeroCells, hzs, List.length_nil]; omega
  · simp

theorem concat_any {l1 l2 : List Int} (h1 : l1 ≠ []) (h2 : l2 ≠ []) (hn : l1.length + l2.length ≤ 1000) {sa : Option Addr} {sc : Nat} {a1 a2 : Option Addr} {c1 c2 : Nat} {w : World} (hs : Cells w sa [.slice a1 l1.length c1, .slice a2 l2.length c2]) (hc1 : Cells w a1 (ints l1)) (hc2 : Cells w a2 (ints l2)) :
    Calls Try.prog 81 #[.slice sa 2 sc] w fun e w' => ∃ a c, e = .returned (.slice a (l1.length + l2.length) c) ∧ Below w.heap.size w w' ∧ Row 3 1 w.heap.size [] a (l1.length + l2.length) c (ints (l1 ++ l2)) w' := by
  have p1 : 0 < l1.length := List.length_pos_iff.2 h1
  have p2 : 0 < l2.length := List.length_pos_iff.2 h2
  obtain ⟨b, o, rfl, s0⟩ := hs 0 _ rfl
  have s1 := hs.at (i := 1) rfl
  obtain ⟨b1, o1, rfl, _⟩ := hc1 0 _ (ints_get (getElem_of_lt p1))
  obtain ⟨b2, o2, rfl, _⟩ := hc2 0 _ (ints_get (getElem_of_lt p2))
  refine vc81 _ _ _ w _ ⟨fun ls _ => match ls with | [.int _ s, .int _ i] => (i = 0 ∧ s = 0) ∨ (i = 1 ∧ s = l1.length) ∨ (i = 2 ∧ s = l1.length + l2.length) | _ => False, fun ls => match ls with | [_, .int _ i] => (2 - i).toNat | _ => 0, fun w2 _ _ => .inl ⟨rfl, rfl⟩, ?_⟩
  rintro s i w3 hb3 (⟨rfl, rfl⟩ | ⟨rfl, rfl⟩ | ⟨rfl, rfl⟩)
  · exact ⟨fun _ => ⟨b, o, rfl, by decide, _, _, _, cell_keep hb3 s0, by omega, fun h => by omega, fun _ => ⟨by decide, fun w6 hb6 _ => ⟨.inr (.inl ⟨by decide, by omega⟩), show (1 : Nat) < 2 by decide⟩⟩⟩, fun h => absurd h (by decide)⟩
  · exact ⟨fun _ => ⟨b, o, rfl, by decide, _, _, _, cell_keep hb3 s1, by omega, fun h => by omega, fun _ => ⟨by decide, fun w6 hb6 _ => ⟨.inr (.inr ⟨by decide, by omega⟩), show (0 : Nat) < 1 by decide⟩⟩⟩, fun h => absurd h (by decide)⟩
  refine ⟨fun h => absurd h (by decide), fun _ w7 hb7 hk7 => ?_⟩
  rw [show ((l1.length : Int) + (l2.length : Int)) = ((l1.length + l2.length : Nat) : Int) by omega]
  refine (grow_any (n := l1.length + l2.length) (by omega) (by omega) w7).mono fun e w8 he => ?_
  obtain ⟨g, gc, rfl, hb8, R8⟩ := he
  have R8' : Row 3 1 w.heap.size [] (some ⟨g, 0, none⟩) 0 gc [] w8 := R8.base hb7.size
  refine ⟨_, _, _, rfl, .all hb8, fun ls w' => match ls with | [.sl a n c, .int _ i] => (i = 0 ∧ n = 0 ∧ Row 3 1 w.heap.size [] a 0 c [] w') ∨ (i = 1 ∧ n = l1.length ∧ Row 3 1 w.heap.size [] a l1.length c (ints l1) w') ∨ (i = 2 ∧ n = l1.length + l2.length ∧ Row 3 1 w.heap.size [] a (l1.length + l2.length) c (ints (l1 ++ l2)) w') | _ => False, fun ls => match ls with | [_, .int _ i] => (2 - i).toNat | _ => 0,
    fun w10 hb10 hk10 => .inl ⟨rfl, rfl, R8'.chg (Chg.kept hk10) fun _ h => h⟩, ?_⟩
  rintro a n c i w11 hb11 (⟨rfl, rfl, R11⟩ | ⟨rfl, rfl, R11⟩ | ⟨rfl, rfl, R11⟩)
  · refine ⟨fun _ => ⟨b, o, rfl, by decide, _, _, _, cell_keep hb11 s0, fun w12 hb12 hk12 => ?_⟩, fun h => absurd h (by decide)⟩
    refine append_row (P := Try.prog) (bytes := 8) (by kernel_rfl) (by omega) (R11.chg (Chg.kept hk12) fun _ h => h) (m := l1.length) (news := ints l1) (hc1.keep hb12) (by simp [ints]) (by simp [ints] <;> intros <;> rfl) (by omega) (by omega) hb12.size (by simp) fun a2 c2 w13 R13 S cS hS => ?_
    refine ⟨_, _, _, rfl, cS.own (by simp) (by simp) (fun _ => ⟨hb12.size, fun b hb => (hS b hb).1⟩), by decide, fun w14 hb14 hk14 => ⟨.inr (.inl ⟨by decide, by omega, ?_⟩), show (1 : Nat) < 2 by decide⟩⟩
    rw [Nat.zero_add, List.nil_append] at R13
    exact R13.chg (Chg.kept hk14) fun _ h => h
  · refine ⟨fun _ => ⟨b, o, rfl, by decide, _, _, _, cell_keep hb11 s1, fun w12 hb12 hk12 => ?_⟩, fun h => absurd h (by decide)⟩
    refine append_row (P := Try.prog) (bytes := 8) (by kernel_rfl) (by omega) (R11.chg (Chg.kept hk12) fun _ h => h) (m := l2.length) (news := ints l2) (hc2.keep hb12) (by simp [ints]) (by simp [ints] <;> intros <;> rfl) (by omega) (by omega) hb12.size (by simp) fun a2 c2 w13 R13 S cS hS => ?_
    refine ⟨_, _, _, rfl, cS.own (by simp) (by simp) (fun _ => ⟨hb12.size, fun b hb => (hS b hb).1⟩), by decide, fun w14 hb14 hk14 => ⟨.inr (.inr ⟨by decide, by omega, ?_⟩), show (0 : Nat) < 1 by decide⟩⟩
    rw [show ints l1 ++ ints l2 = ints (l1 ++ l2) by simp [ints]] at R13
    exact R13.chg (Chg.kept hk14) fun _ h => h
  · refine ⟨fun h => absurd h (by decide), fun _ w15 hb15 hk15 => ⟨a, c, rfl, hb15, R11.chg (Chg.kept hk15) fun _ h => h⟩⟩

theorem gcd_any {a b : Int} (ha : 0 ≤ a) (hb : 0 ≤ b) (w : World) : Calls Try.prog 45 #[I a, I b] w (Pure w (I (Int.gcd a b : Nat))) := by
  refine vc45 _ _ w _ ⟨fun ls _ => match ls with | [.int _ x, .int _ y] => 0 ≤ x ∧ 0 ≤ y ∧ Int.gcd x y = Int.gcd a b | _ => False, fun ls => match ls with | [_, .int _ y] => y.toNat | _ => 0, fun w2 _ _ => ⟨ha, hb, rfl⟩, ?_⟩
  rintro x y w3 hb3 ⟨h1, h2, h3⟩
  refine ⟨fun hy => ⟨by omega, fun w4 hb4 _ => ⟨⟨h2, ?_, ?_⟩, ?_⟩⟩, fun hy w5 hb5 _ => ⟨?_, hb5⟩⟩
  · rw [Int.tmod_eq_emod_of_nonneg h1]; exact Int.emod_nonneg _ (by omega)
  · rw [← h3, Int.tmod_eq_emod_of_nonneg h1]
    have hx : x % y = ((x.toNat % y.toNat : Nat) : Int) := by rw [Int.natCast_emod, Int.toNat_of_nonneg h1, Int.toNat_of_nonneg h2]
    have h1' : x = (x.toNat : Int) := by omega
    have h2' : y = (y.toNat : Int) := by omega
    rw [hx]
    conv => lhs; rw [h2']
    conv => rhs; rw [h1', h2']
    show Nat.gcd y.toNat (x.toNat % y.toNat) = Nat.gcd x.toNat y.toNat
    rw [Nat.gcd_comm x.toNat, Nat.gcd_rec y.toNat x.toNat, Nat.gcd_comm]
  · show (x.tmod y).toNat < y.toNat
    rw [Int.tmod_eq_emod_of_nonneg h1]
    have := Int.emod_lt_of_pos x hy
    have := Int.emod_nonneg x (show y ≠ 0 by omega)
    omega
  · have : y = 0 := by omega
    subst this
    rw [← h3, Int.gcd_zero_right]
    congr 2
    omega
end Go.Proofs.R03
end
section
/- The conditions of the functions, printed by program; each is what the generator reckons (kernel_rfl). -/
namespace Go.Proofs
open Go.Vc
set_option maxRecDepth 100000 in
set_option maxHeartbeats 2000000 in
theorem vc58 (kb : Nat) (ko : Nat) (off : Nat) (ofi : List Value) (ofc : List Value) (w : World) (R : Ending → World → Prop) (h : ∀ (m1 : Nat), w.heap.size ≤ m1 → ∀ (m2 : Nat),
    w.heap.size ≤ m2 → ∀ (m3 : Nat), w.heap.size ≤ m3 → ∀ (w1 : World), KeptIn [(0, w.heap.size)] [m3, m2, m1] w w1 → Calls Try.prog 43 #[Value.pointer (some
    { block := kb, off := ko })] w1 fun (e1 : Ending) (w2 : World) => ∃ (x1 : Int), ∃ (x2 : Int), e1 = Ending.returned (Value.agg #[Value.int IntKind.i64 x1, Value.int IntKind.i64
    x2]) ∧ RowKit.Below w1.heap.size w1 w2 ∧ Callable Try.prog off ∧ ∀ (w3 : World), KeptIn [(0, w.heap.size), (w1.heap.size, w2.heap.size)] [m3, m2, m1] w2 w3 → Calls Try.prog off
    (ofi ++ [Value.agg #[Value.int IntKind.i64 x1, Value.int IntKind.i64 x2]] ++ ofc).toArray w3 fun (e2 : Ending) (w4 : World) => ∃ (x3 : Int), e2 = Ending.returned (Value.int
    IntKind.i64 x3) ∧ RowKit.Below w3.heap.size w3 w4 ∧ ∀ (m4 : Nat), w.heap.size ≤ m4 → m4 < w3.heap.size ∨ w4.heap.size ≤ m4 → m4 < w1.heap.size ∨ w2.heap.size ≤ m4 → ∃ (y1 :
    List (List Value)), ∃ (F2 : (Nat → Prop) → List Lf → Nat → World → Prop), ∃ (F3 : World → Prop), Iter Try.prog 82 [Value.pointer (some { block := kb, off := ko })] [] y1 F3 ∧
    (∀ (w7 : World), Kept [m4, m3, m2, m1] w4 w7 → F2 (fun _ => False) [] 0 w7) ∧ ∀ (m8 : Nat) (F4 F5 : Nat → Prop) (w8 w9 : World), F2 F4 [] m8 w8 → CalmFrom w.heap.size
    w8 w9 → (∀ (m11 : Nat), F4 m11 → F5 m11) → (∀ (m12 : Nat), F5 m12 → F4 m12 ∨ w8.heap.size ≤ m12) → (∀ (m13 : Nat), F5 m13 → w.heap.size ≤ m13 ∧ m13 < w9.heap.size) → F3 w9 ∧ (∀
    (y3 : List Value), y1[m8]? = some y3 → ∃ (a1 : Option Addr), y3 = [Value.pointer a1] ∧ ∀ (m15 : Nat) (w10 w11 : World), Kept [m4, m3, m2, m1] w9 w11 → ∀ (w12 : World), CalmFrom
    w.heap.size w11 w12 → ∀ (w13 : World), ∃ (m16 : Nat), ∃ (m17 : Nat), a1 = some { block := m16, off := m17 } ∧ True ∧ ∃ (x4 : Int), ∃ (x5 : Int), w12.cell?
    { block := m16, off := m17 } = some (Value.int IntKind.i64 x4) ∧ w12.cell? { block := m16, off := m17 + 1 } = some (Value.int IntKind.i64 x5) ∧ (m16 < w.heap.size ∨ m16 ≠ m4 ∧
    m16 ≠ m3 ∧ m16 ≠ m2 ∧ m16 ≠ m1) ∧ ∀ (m18 : Nat), w12.heap.size ≤ m18 → ∀ (w14 : World), Kept [m18, m4, m3, m2, m1] w12 w14 → Calls Try.prog 65 #[Value.int IntKind.i64 x4] w14
    fun (e3 : Ending) (w15 : World) => ∃ (x6 : Int), ∃ (x7 : Int), e3 = Ending.returned (Value.agg #[Value.int IntKind.i64 x6, Value.int IntKind.i64 x7]) ∧ KeepX false w.heap.size
    [m18, m4, m3, m2, m1] F5 w14 w15 ∧ ∃ (m19 : Nat), ∃ (m20 : Nat), a1 = some { block := m19, off := m20 } ∧ True ∧ ∀ (w16 : World), Kept [m18, m4, m3, m2, m1] w15 w16 → RunsTo
    Try.prog ((Instr.storeAt 95 (Value.pointer (some { block := m19, off := m20 })) (Value.agg #[Value.int IntKind.i64 x6, Value.int IntKind.i64 x7])) >>= fun _ => pure
    (Value.tuple #[])) w16 fun (v1 : Value) (w17 : World) => KeepX false w.heap.size [m18, m4, m3, m2, m1] F5 w16 w17 ∧ ∀ (w18 : World), KeptIn [(0, w17.heap.size)] [m18, m4, m3,
    m2, m1] w17 w18 → Calls Try.prog 43 #[Value.pointer (some { block := kb, off := ko })] w18 fun (e4 : Ending) (w19 : World) => ∃ (x8 : Int), ∃ (x9 : Int), e4 = Ending.returned
    (Value.agg #[Value.int IntKind.i64 x8, Value.int IntKind.i64 x9]) ∧ KeepX false w.heap.size [m18, m4, m3, m2, m1] F5 w18 w19 ∧ Callable Try.prog off ∧ ∀ (w20 : World), KeptIn
    [(0, w19.heap.size)] [m18, m4, m3, m2, m1] w19 w20 → Calls Try.prog off (ofi ++ [Value.agg #[Value.int IntKind.i64 x8, Value.int IntKind.i64 x9]] ++ ofc).toArray w20 fun (e5 :
    Ending) (w21 : World) => ∃ (x10 : Int), e5 = Ending.returned (Value.int IntKind.i64 x10) ∧ KeepX false w.heap.size [m18, m4, m3, m2, m1] F5 w20 w21 ∧ (x10 ≠ x3 → ∀ (w22 :
    World), Kept [m18, m4, m3, m2, m1] w21 w22 → Calls Try.prog 65 #[Value.int IntKind.i64 x5] w22 fun (e6 : Ending) (w23 : World) => ∃ (x11 : Int), ∃ (x12 : Int), e6 =
    Ending.returned (Value.agg #[Value.int IntKind.i64 x11, Value.int IntKind.i64 x12]) ∧ KeepX false w.heap.size [m18, m4, m3, m2, m1] F5 w22 w23 ∧ ∃ (m21 : Nat), ∃ (m22 : Nat),
    a1 = some { block := m21, off := m22 } ∧ True ∧ ∀ (w24 : World), Kept [m18, m4, m3, m2, m1] w23 w24 → RunsTo Try.prog ((Instr.storeAt 95 (Value.pointer (some
    { block := m21, off := m22 })) (Value.agg #[Value.int IntKind.i64 x11, Value.int IntKind.i64 x12])) >>= fun _ => pure (Value.tuple #[])) w24 fun (v2 : Value) (w25 : World) =>
    KeepX false w.heap.size [m18, m4, m3, m2, m1] F5 w24 w25 ∧ ∀ (w26 : World), Kept [m18, m4, m3, m2, m1] w25 w26 → F2 F5 [] (m8 + 1) w26) ∧ (x10 = x3 → ∀ (w27 : World), Kept
    [m18, m4, m3, m2, m1] w21 w27 → F2 F5 [] (m8 + 1) w27)) ∧ (m8 = y1.length → ∀ (w28 : World), Kept [m4, m3, m2, m1] w9 w28 → Calls Try.prog 90 #[Value.pointer (some
    { block := kb, off := ko })] w28 fun (e7 : Ending) (w29 : World) => ∃ (a2 : Option Addr), ∃ (m23 : Nat), ∃ (m24 : Nat), ∃ (x13 : Int), ∃ (x14 : Int), ∃ (x15 : Int), ∃ (x16 :
    Int), ∃ (x17 : Int), ∃ (x18 : Int), e7 = Ending.returned (Value.agg #[Value.slice a2 m23 m24, Value.int IntKind.i64 x13, Value.int IntKind.i64 x14, Value.int IntKind.i64 x15,
    Value.int IntKind.i64 x16, Value.int IntKind.i64 x17, Value.int IntKind.i64 x18]) ∧ KeepX false w.heap.size [m4, m3, m2, m1] F5 w28 w29 ∧ ∀ (w30 : World), Kept [m4, m3, m2, m1]
    w29 w30 → ∀ (w31 : World), CalmFrom w.heap.size w30 w31 → R (Ending.returned (Value.agg #[Value.slice a2 m23 m24, Value.int IntKind.i64 x13, Value.int IntKind.i64 x14,
    Value.int IntKind.i64 x15, Value.int IntKind.i64 x16, Value.int IntKind.i64 x17, Value.int IntKind.i64 x18])) w31)) : Calls Try.prog 58 #[Value.pointer (some
    { block := kb, off := ko }), Value.func (Fn.func off) ofi.toArray ofc.toArray] w R := calls_of_vc (pure := false) (wrapAt := []) (muts := []) (esc := []) (args := [SV.pv
    (PV.one (Lf.ptr kb ko)), SV.pv (PV.one (Lf.fv off ofi ofc))]) (vs := [Value.pointer (some { block := kb, off := ko }), Value.func (Fn.func off) ofi.toArray ofc.toArray])
    Try.func58 rfl rfl rfl (Eq.mp (by kernel_rfl) h) 
set_option maxRecDepth 100000 in
set_option maxHeartbeats 2000000 in
theorem vc59 (s0 : Int) (s1 : Int) (w : World) (R : Ending → World → Prop) (h : ∀ (m1 : Nat), w.heap.size ≤ m1 → ∀ (w1 : World), RowKit.Below w.heap.size w w1 → Kept [m1] w w1 → R
    (Ending.returned (Value.int IntKind.i64 s0)) w1) : Calls Try.prog 59 #[Value.agg #[Value.int IntKind.i64 s0, Value.int IntKind.i64 s1]] w R := calls_of_vc (pure := true)
    (wrapAt := []) (muts := []) (esc := []) (args := [SV.pv (PV.agg [Lf.int IntKind.i64 s0, Lf.int IntKind.i64 s1])]) (vs := [Value.agg #[Value.int IntKind.i64 s0, Value.int
    IntKind.i64 s1]]) Try.func59 rfl rfl rfl (Eq.mp (by kernel_rfl) h) 
set_option maxRecDepth 100000 in
set_option maxHeartbeats 2000000 in
theorem vc60 (s0 : Int) (s1 : Int) (w : World) (R : Ending → World → Prop) (h : ∀ (m1 : Nat), w.heap.size ≤ m1 → ∀ (w1 : World), RowKit.Below w.heap.size w w1 → Kept [m1] w w1 → R
    (Ending.returned (Value.int IntKind.i64 s1)) w1) : Calls Try.prog 60 #[Value.agg #[Value.int IntKind.i64 s0, Value.int IntKind.i64 s1]] w R := calls_of_vc (pure := true)
    (wrapAt := []) (muts := []) (esc := []) (args := [SV.pv (PV.agg [Lf.int IntKind.i64 s0, Lf.int IntKind.i64 s1])]) (vs := [Value.agg #[Value.int IntKind.i64 s0, Value.int
    IntKind.i64 s1]]) Try.func60 rfl rfl rfl (Eq.mp (by kernel_rfl) h) 
set_option maxRecDepth 100000 in
set_option maxHeartbeats 2000000 in
theorem vc23 (c0 : Int) (c1 : Int) (c2a : Option Addr) (c2n : Nat) (c2c : Nat) (c3 : Int) (c4 : Int) (c5 : Int) (c6 : Int) (b0 : Int) (b1 : Int) (b2 : Int) (b3 : Int) (b4 : Int)
    (b5 : Int) (b6 : Int) (b7 : Int) (w : World) (R : Ending → World → Prop) (h : ∀ (m1 : Nat), w.heap.size ≤ m1 → ∀ (m2 : Nat), w.heap.size ≤ m2 → ∀ (m3 : Nat), w.heap.size ≤ m3 →
    ∀ (m4 : Nat), w.heap.size ≤ m4 → ∀ (w1 : World), RowKit.Below w.heap.size w w1 → Kept [m4, m3, m2, m1] w w1 → Calls Try.prog 55 #[Value.agg #[Value.int IntKind.i64 c0,
    Value.int IntKind.i64 c1, Value.slice c2a c2n c2c, Value.int IntKind.i64 c3, Value.int IntKind.i64 c4, Value.int IntKind.i64 c5, Value.int IntKind.i64 c6], Value.agg
    #[Value.int IntKind.i64 b0, Value.int IntKind.i64 b1, Value.int IntKind.i64 b2, Value.int IntKind.i64 b3, Value.int IntKind.i64 b4, Value.int IntKind.i64 b5, Value.int
    IntKind.i64 b6, Value.int IntKind.i64 b7]] w1 fun (e1 : Ending) (w2 : World) => ∃ (a1 : Option Addr), ∃ (x1 : Int), e1 = Ending.returned (Value.tuple #[Value.pointer a1,
    Value.int IntKind.i64 x1]) ∧ KeepX true w.heap.size [m4, m3, m2, m1] (fun _ => False) w1 w2 ∧ (x1 ≠ 0 → ∀ (w3 : World), RowKit.Below w.heap.size w w3 → Kept [m4, m3,
    m2, m1] w2 w3 → R (Ending.returned (Value.tuple #[Value.agg #[Value.slice none 0 0, Value.int IntKind.i64 0, Value.int IntKind.i64 0, Value.int IntKind.i64 0, Value.int
    IntKind.i64 0, Value.int IntKind.i64 0, Value.int IntKind.i64 0], Value.agg #[Value.slice none 0 0, Value.int IntKind.i64 0, Value.int IntKind.i64 0, Value.int IntKind.i64 0,
    Value.int IntKind.i64 0, Value.int IntKind.i64 0, Value.int IntKind.i64 0], Value.int IntKind.i64 x1])) w3) ∧ (x1 = 0 → ∀ (w4 : World), RowKit.Below w.heap.size w w4 → Kept
    [m4, m3, m2, m1] w2 w4 → Calls Try.prog 57 #[Value.agg #[Value.int IntKind.i64 c0, Value.int IntKind.i64 c1, Value.slice c2a c2n c2c, Value.int IntKind.i64 c3, Value.int
    IntKind.i64 c4, Value.int IntKind.i64 c5, Value.int IntKind.i64 c6], Value.agg #[Value.int IntKind.i64 b0, Value.int IntKind.i64 b1, Value.int IntKind.i64 b2, Value.int
    IntKind.i64 b3, Value.int IntKind.i64 b4, Value.int IntKind.i64 b5, Value.int IntKind.i64 b6, Value.int IntKind.i64 b7]] w4 fun (e2 : Ending) (w5 : World) => ∃ (a2 : Option
    Addr), e2 = Ending.returned (Value.pointer a2) ∧ KeepX true w.heap.size [m4, m3, m2, m1] (fun _ => False) w4 w5 ∧ ∀ (w6 : World), RowKit.Below w.heap.size w w6 → Kept
    [m4, m3, m2, m1] w5 w6 → Calls Try.prog 58 #[Value.pointer a2, Value.func (Fn.func 59) #[] #[]] w6 fun (e3 : Ending) (w7 : World) => ∃ (a3 : Option Addr), ∃ (m7 : Nat), ∃ (m8 :
    Nat), ∃ (x2 : Int), ∃ (x3 : Int), ∃ (x4 : Int), ∃ (x5 : Int), ∃ (x6 : Int), ∃ (x7 : Int), e3 = Ending.returned (Value.agg #[Value.slice a3 m7 m8, Value.int IntKind.i64 x2,
    Value.int IntKind.i64 x3, Value.int IntKind.i64 x4, Value.int IntKind.i64 x5, Value.int IntKind.i64 x6, Value.int IntKind.i64 x7]) ∧ KeepX true w.heap.size [m4, m3, m2, m1]
    (fun _ => False) w6 w7 ∧ ∀ (w8 : World), RowKit.Below w.heap.size w w8 → Kept [m4, m3, m2, m1] w7 w8 → Calls Try.prog 57 #[Value.agg #[Value.int IntKind.i64 c0,
    Value.int IntKind.i64 c1, Value.slice c2a c2n c2c, Value.int IntKind.i64 c3, Value.int IntKind.i64 c4, Value.int IntKind.i64 c5, Value.int IntKind.i64 c6], Value.agg
    #[Value.int IntKind.i64 b0, Value.int IntKind.i64 b1, Value.int IntKind.i64 b2, Value.int IntKind.i64 b3, Value.int IntKind.i64 b4, Value.int IntKind.i64 b5, Value.int
    IntKind.i64 b6, Value.int IntKind.i64 b7]] w8 fun (e4 : Ending) (w9 : World) => ∃ (a4 : Option Addr), e4 = Ending.returned (Value.pointer a4) ∧ KeepX true w.heap.size [m4, m3,
    m2, m1] (fun _ => False) w8 w9 ∧ ∀ (w10 : World), RowKit.Below w.heap.size w w10 → Kept [m4, m3, m2, m1] w9 w10 → Calls Try.prog 58 #[Value.pointer a4, Value.func
    (Fn.func 60) #[] #[]] w10 fun (e5 : Ending) (w11 : World) => ∃ (a5 : Option Addr), ∃ (m11 : Nat), ∃ (m12 : Nat), ∃ (x8 : Int), ∃ (x9 : Int), ∃ (x10 : Int), ∃ (x11 : Int), ∃
    (x12 : Int), ∃ (x13 : Int), e5 = Ending.returned (Value.agg #[Value.slice a5 m11 m12, Value.int IntKind.i64 x8, Value.int IntKind.i64 x9, Value.int IntKind.i64 x10, Value.int
    IntKind.i64 x11, Value.int IntKind.i64 x12, Value.int IntKind.i64 x13]) ∧ KeepX true w.heap.size [m4, m3, m2, m1] (fun _ => False) w10 w11 ∧ ∀ (w12 : World),
    RowKit.Below w.heap.size w w12 → Kept [m4, m3, m2, m1] w11 w12 → R (Ending.returned (Value.tuple #[Value.agg #[Value.slice a3 m7 m8, Value.int IntKind.i64 x2, Value.int
    IntKind.i64 x3, Value.int IntKind.i64 x4, Value.int IntKind.i64 x5, Value.int IntKind.i64 x6, Value.int IntKind.i64 x7], Value.agg #[Value.slice a5 m11 m12, Value.int
    IntKind.i64 x8, Value.int IntKind.i64 x9, Value.int IntKind.i64 x10, Value.int IntKind.i64 x11, Value.int IntKind.i64 x12, Value.int IntKind.i64 x13], Value.int IntKind.i64
    0])) w12)) : Calls Try.prog 23 #[Value.agg #[Value.int IntKind.i64 c0, Value.int IntKind.i64 c1, Value.slice c2a c2n c2c, Value.int IntKind.i64 c3, Value.int IntKind.i64 c4,
    Value.int IntKind.i64 c5, Value.int IntKind.i64 c6], Value.agg #[Value.int IntKind.i64 b0, Value.int IntKind.i64 b1, Value.int IntKind.i64 b2, Value.int IntKind.i64 b3,
    Value.int IntKind.i64 b4, Value.int IntKind.i64 b5, Value.int IntKind.i64 b6, Value.int IntKind.i64 b7]] w R := calls_of_vc (pure := true) (wrapAt := []) (muts := []) (esc :=
    []) (args := [SV.pv (PV.agg [Lf.int IntKind.i64 c0, Lf.int IntKind.i64 c1, Lf.sl c2a c2n c2c, Lf.int IntKind.i64 c3, Lf.int IntKind.i64 c4, Lf.int IntKind.i64 c5, Lf.int
    IntKind.i64 c6]), SV.pv (PV.agg [Lf.int IntKind.i64 b0, Lf.int IntKind.i64 b1, Lf.int IntKind.i64 b2, Lf.int IntKind.i64 b3, Lf.int IntKind.i64 b4, Lf.int IntKind.i64 b5,
    Lf.int IntKind.i64 b6, Lf.int IntKind.i64 b7])]) (vs := [Value.agg #[Value.int IntKind.i64 c0, Value.int IntKind.i64 c1, Value.slice c2a c2n c2c, Value.int IntKind.i64 c3,
    Value.int IntKind.i64 c4, Value.int IntKind.i64 c5, Value.int IntKind.i64 c6], Value.agg #[Value.int IntKind.i64 b0, Value.int IntKind.i64 b1, Value.int IntKind.i64 b2,
    Value.int IntKind.i64 b3, Value.int IntKind.i64 b4, Value.int IntKind.i64 b5, Value.int IntKind.i64 b6, Value.int IntKind.i64 b7]]) Try.func23 rfl rfl rfl (Eq.mp (by
    kernel_rfl) h) 
end Go.Proofs
end
