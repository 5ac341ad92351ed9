/- Part 4: own lemmas, and the conditions of the functions. -/
import Derived.Test.YtonlamhfncoklaaProg
import Derived.Test.YtonlamhfncoklaaP03
section
/- The conditions of the functions, printed by program; each is what the generator reckons (kernel_rfl). -/
namespace Go.Proofs
open Go.Vc
set_option maxRecDepth 100000 in
set_option maxHeartbeats 2000000 in
theorem vc61 (sa : Option Addr) (sn : Nat) (sc : Nat) (ff : Nat) (fi : List Value) (fc : List Value) (w : World) (R : Ending → World → Prop) (h : ∀ (w1 : World), RowKit.Below
    w.heap.size w w1 → Kept [] w w1 → Calls Try.prog 76 #[Value.slice sa sn sc, Value.func (Fn.func ff) fi.toArray fc.toArray] w1 fun (e1 : Ending) (w2 : World) => ∃ (x1 : Int), e1
    = Ending.returned (Value.int IntKind.i64 x1) ∧ KeepX true w.heap.size [] (fun _ => False) w1 w2 ∧ ∀ (w3 : World), RowKit.Below w.heap.size w w3 → Kept [] w2 w3 → R
    (Ending.returned (Value.bool (decide (0 ≤ x1)))) w3) : Calls Try.prog 61 #[Value.slice sa sn sc, Value.func (Fn.func ff) fi.toArray fc.toArray] w R := calls_of_vc (pure :=
    true) (wrapAt := []) (muts := []) (esc := []) (args := [SV.pv (PV.one (Lf.sl sa sn sc)), SV.pv (PV.one (Lf.fv ff fi fc))]) (vs := [Value.slice sa sn sc, Value.func (Fn.func ff)
    fi.toArray fc.toArray]) Try.func61 rfl rfl rfl (Eq.mp (by kernel_rfl) h) 
set_option maxRecDepth 100000 in
set_option maxHeartbeats 2000000 in
theorem vc76 (sa : Option Addr) (sn : Nat) (sc : Nat) (ff : Nat) (fi : List Value) (fc : List Value) (w : World) (R : Ending → World → Prop) (h : ∃ (F1 : List Lf → World → Prop), ∃
    (F2 : List Lf → Nat), (∀ (w1 : World), RowKit.Below w.heap.size w w1 → Kept [] w w1 → F1 [Lf.int IntKind.i64 0, Lf.int IntKind.i64 0] w1) ∧ ∀ (x1 x2 : Int) (w2 : World),
    RowKit.Below w.heap.size w w2 → F1 [Lf.int IntKind.i64 x1, Lf.int IntKind.i64 x2] w2 → (x2 < (↑sn : Int) → ∃ (m1 : Nat), ∃ (m2 : Nat), sa = some { block := m1, off := m2 } ∧ (0
    ≤ x2 ∧ x2 < (↑sn : Int)) ∧ ∃ (x3 : Int), w2.cell? { block := m1, off := m2 + x2.toNat * 1 } = some (Value.int IntKind.i64 x3) ∧ Callable Try.prog ff ∧ ∀ (w3 : World),
    RowKit.Below w.heap.size w w3 → Kept [] w2 w3 → Calls Try.prog ff (fi ++ [Value.int IntKind.i64 x3] ++ fc).toArray w3 fun (e1 : Ending) (w4 : World) => ∃ (t1 : Bool), e1 =
    Ending.returned (Value.bool t1) ∧ KeepX true w.heap.size [] (fun _ => False) w3 w4 ∧ (t1 = true → ∀ (w5 : World), RowKit.Below w.heap.size w w5 → Kept [] w4 w5 → R
    (Ending.returned (Value.int IntKind.i64 x2)) w5) ∧ (t1 = false → (-9223372036854775808 ≤ x2 + 1 ∧ x2 + 1 ≤ 9223372036854775807) ∧ ∀ (w6 : World), RowKit.Below w.heap.size w w6
    → Kept [] w4 w6 → F1 [Lf.int IntKind.i64 x1, Lf.int IntKind.i64 (x2 + 1)] w6 ∧ F2 [Lf.int IntKind.i64 x1, Lf.int IntKind.i64 (x2 + 1)] < F2 [Lf.int IntKind.i64 x1, Lf.int
    IntKind.i64 x2])) ∧ ((↑sn : Int) ≤ x2 → ∀ (w7 : World), RowKit.Below w.heap.size w w7 → Kept [] w2 w7 → R (Ending.returned (Value.int IntKind.i64 (-1))) w7)) : Calls Try.prog
    76 #[Value.slice sa sn sc, Value.func (Fn.func ff) fi.toArray fc.toArray] w R := calls_of_vc (pure := true) (wrapAt := []) (muts := []) (esc := []) (args := [SV.pv (PV.one
    (Lf.sl sa sn sc)), SV.pv (PV.one (Lf.fv ff fi fc))]) (vs := [Value.slice sa sn sc, Value.func (Fn.func ff) fi.toArray fc.toArray]) Try.func76 rfl rfl rfl (Eq.mp (by kernel_rfl)
    h) 
set_option maxRecDepth 100000 in
set_option maxHeartbeats 2000000 in
theorem vc41 (least : Int) (most : Int) (la : Option Addr) (ln : Nat) (lc : Nat) (w : World) (R : Ending → World → Prop) (h : ∀ (m1 : Nat), w.heap.size ≤ m1 → ∀ (m2 : Nat),
    w.heap.size ≤ m2 → ∀ (w1 : World), RowKit.Below w.heap.size w w1 → Kept [m2, m1] w w1 → w1.heap[m1]? = some (Obj.cells #[Value.int IntKind.i64 least] 3) → w1.heap[m2]? = some
    (Obj.cells #[Value.int IntKind.i64 most] 3) → Calls Try.prog 61 #[Value.slice la ln lc, Value.func (Fn.func 62) #[] #[Value.pointer (some { block := m1, off := 0 }),
    Value.pointer (some { block := m2, off := 0 })]] w1 fun (e1 : Ending) (w2 : World) => ∃ (t1 : Bool), e1 = Ending.returned (Value.bool t1) ∧ KeepX true w.heap.size [m2, m1] (fun
    _ => False) w1 w2 ∧ ∀ (w3 : World), RowKit.Below w.heap.size w w3 → Kept [m2, m1] w2 w3 → R (Ending.returned (Value.bool !t1)) w3) : Calls Try.prog 41 #[Value.int IntKind.i64
    least, Value.int IntKind.i64 most, Value.slice la ln lc] w R := calls_of_vc (pure := true) (wrapAt := []) (muts := []) (esc := []) (args := [SV.pv (PV.one (Lf.int IntKind.i64
    least)), SV.pv (PV.one (Lf.int IntKind.i64 most)), SV.pv (PV.one (Lf.sl la ln lc))]) (vs := [Value.int IntKind.i64 least, Value.int IntKind.i64 most, Value.slice la ln lc])
    Try.func41 rfl rfl rfl (Eq.mp (by kernel_rfl) h) 
set_option maxRecDepth 100000 in
set_option maxHeartbeats 2000000 in
theorem vc42 (s0 : Int) (s1 : Int) (w : World) (R : Ending → World → Prop) (h : ∀ (m1 : Nat), w.heap.size ≤ m1 → ∀ (w1 : World), RowKit.Below w.heap.size w w1 → Kept [m1] w w1 →
    Calls Try.prog 63 #[Value.agg #[Value.int IntKind.i64 s0, Value.int IntKind.i64 s1], Value.int IntKind.i64 1, Value.int IntKind.i64 100] w1 fun (e1 : Ending) (w2 : World) => ∃
    (t1 : Bool), e1 = Ending.returned (Value.bool t1) ∧ KeepX true w.heap.size [m1] (fun _ => False) w1 w2 ∧ ∀ (w3 : World), RowKit.Below w.heap.size w w3 → Kept [m1] w2 w3 → R
    (Ending.returned (Value.bool t1)) w3) : Calls Try.prog 42 #[Value.agg #[Value.int IntKind.i64 s0, Value.int IntKind.i64 s1]] w R := calls_of_vc (pure := true) (wrapAt := [])
    (muts := []) (esc := []) (args := [SV.pv (PV.agg [Lf.int IntKind.i64 s0, Lf.int IntKind.i64 s1])]) (vs := [Value.agg #[Value.int IntKind.i64 s0, Value.int IntKind.i64 s1]])
    Try.func42 rfl rfl rfl (Eq.mp (by kernel_rfl) h) 
set_option maxRecDepth 100000 in
set_option maxHeartbeats 2000000 in
theorem vc43 (sa : Option Addr) (sn : Nat) (sc : Nat) (ff : Nat) (fi : List Value) (fc : List Value) (w : World) (R : Ending → World → Prop) (h : ∀ (w1 : World), RowKit.Below
    w.heap.size w w1 → Kept [] w w1 → Calls Try.prog 64 #[Value.slice sa sn sc, Value.func (Fn.func ff) fi.toArray fc.toArray] w1 fun (e1 : Ending) (w2 : World) => ∃ (x1 : Int), e1
    = Ending.returned (Value.int IntKind.i64 x1) ∧ KeepX true w.heap.size [] (fun _ => False) w1 w2 ∧ ∀ (w3 : World), RowKit.Below w.heap.size w w3 → Kept [] w2 w3 → R
    (Ending.returned (Value.bool (decide (0 ≤ x1)))) w3) : Calls Try.prog 43 #[Value.slice sa sn sc, Value.func (Fn.func ff) fi.toArray fc.toArray] w R := calls_of_vc (pure :=
    true) (wrapAt := []) (muts := []) (esc := []) (args := [SV.pv (PV.one (Lf.sl sa sn sc)), SV.pv (PV.one (Lf.fv ff fi fc))]) (vs := [Value.slice sa sn sc, Value.func (Fn.func ff)
    fi.toArray fc.toArray]) Try.func43 rfl rfl rfl (Eq.mp (by kernel_rfl) h) 
set_option maxRecDepth 100000 in
set_option maxHeartbeats 2000000 in
theorem vc44 (s0 : Int) (s1 : Int) (w : World) (R : Ending → World → Prop) (h : ∀ (m1 : Nat), w.heap.size ≤ m1 → ∀ (w1 : World), RowKit.Below w.heap.size w w1 → Kept [m1] w w1 →
    Calls Try.prog 42 #[Value.agg #[Value.int IntKind.i64 s0, Value.int IntKind.i64 s1]] w1 fun (e1 : Ending) (w2 : World) => ∃ (t1 : Bool), e1 = Ending.returned (Value.bool t1) ∧
    KeepX true w.heap.size [m1] (fun _ => False) w1 w2 ∧ ∀ (w3 : World), RowKit.Below w.heap.size w w3 → Kept [m1] w2 w3 → R (Ending.returned (Value.bool !t1)) w3) : Calls Try.prog
    44 #[Value.agg #[Value.int IntKind.i64 s0, Value.int IntKind.i64 s1]] w R := calls_of_vc (pure := true) (wrapAt := []) (muts := []) (esc := []) (args := [SV.pv (PV.agg [Lf.int
    IntKind.i64 s0, Lf.int IntKind.i64 s1])]) (vs := [Value.agg #[Value.int IntKind.i64 s0, Value.int IntKind.i64 s1]]) Try.func44 rfl rfl rfl (Eq.mp (by kernel_rfl) h) 
set_option maxRecDepth 100000 in
set_option maxHeartbeats 2000000 in
theorem vc62 (n : Int) (cap0b : Nat) (cap1b : Nat) (w : World) (R : Ending → World → Prop) (h : ∃ (x1 : Int), w.cell? { block := cap0b, off := 0 } = some (Value.int IntKind.i64 x1)
    ∧ (n < x1 → ∀ (w1 : World), RowKit.Below w.heap.size w w1 → Kept [] w w1 → R (Ending.returned (Value.bool true)) w1) ∧ (x1 ≤ n → ∃ (x2 : Int), w.cell?
    { block := cap1b, off := 0 } = some (Value.int IntKind.i64 x2) ∧ ∀ (w2 : World), RowKit.Below w.heap.size w w2 → Kept [] w w2 → R (Ending.returned (Value.bool (decide (x2 <
    n)))) w2)) : Calls Try.prog 62 #[Value.int IntKind.i64 n, Value.pointer (some { block := cap0b, off := 0 }), Value.pointer (some { block := cap1b, off := 0 })] w R :=
    calls_of_vc (pure := true) (wrapAt := []) (muts := []) (esc := []) (args := [SV.pv (PV.one (Lf.int IntKind.i64 n)), SV.pv (PV.one (Lf.ptr cap0b 0)), SV.pv (PV.one (Lf.ptr cap1b
    0))]) (vs := [Value.int IntKind.i64 n, Value.pointer (some { block := cap0b, off := 0 }), Value.pointer (some { block := cap1b, off := 0 })]) Try.func62 rfl rfl rfl (Eq.mp (by
    kernel_rfl) h) 
set_option maxRecDepth 100000 in
set_option maxHeartbeats 2000000 in
theorem vc63 (s0 : Int) (s1 : Int) (least : Int) (most : Int) (w : World) (R : Ending → World → Prop) (h : ∀ (m1 : Nat), w.heap.size ≤ m1 → (s0 ≤ s1 → ∀ (m2 : Nat), w.heap.size ≤
    m2 → ∀ (w1 : World), RowKit.Below w.heap.size w w1 → Kept [m2, m1] w w1 → w1.heap[m2]? = some (Obj.cells #[Value.int IntKind.i64 s0, Value.int IntKind.i64 s1] 3) → Calls
    Try.prog 41 #[Value.int IntKind.i64 least, Value.int IntKind.i64 most, Value.slice (some { block := m2, off := 0 }) 2 2] w1 fun (e1 : Ending) (w2 : World) => ∃ (t1 : Bool), e1
    = Ending.returned (Value.bool t1) ∧ KeepX true w.heap.size [m2, m1] (fun _ => False) w1 w2 ∧ ∀ (w3 : World), RowKit.Below w.heap.size w w3 → Kept [m2, m1] w2 w3 → R
    (Ending.returned (Value.bool t1)) w3) ∧ (s1 < s0 → ∀ (w4 : World), RowKit.Below w.heap.size w w4 → Kept [m1] w w4 → R (Ending.returned (Value.bool false)) w4)) : Calls Try.prog
    63 #[Value.agg #[Value.int IntKind.i64 s0, Value.int IntKind.i64 s1], Value.int IntKind.i64 least, Value.int IntKind.i64 most] w R := calls_of_vc (pure := true) (wrapAt := [])
    (muts := []) (esc := []) (args := [SV.pv (PV.agg [Lf.int IntKind.i64 s0, Lf.int IntKind.i64 s1]), SV.pv (PV.one (Lf.int IntKind.i64 least)), SV.pv (PV.one (Lf.int IntKind.i64
    most))]) (vs := [Value.agg #[Value.int IntKind.i64 s0, Value.int IntKind.i64 s1], Value.int IntKind.i64 least, Value.int IntKind.i64 most]) Try.func63 rfl rfl rfl (Eq.mp (by
    kernel_rfl) h) 
set_option maxRecDepth 100000 in
set_option maxHeartbeats 2000000 in
theorem vc64 (sa : Option Addr) (sn : Nat) (sc : Nat) (ff : Nat) (fi : List Value) (fc : List Value) (w : World) (R : Ending → World → Prop) (h : ∃ (F1 : List Lf → World → Prop), ∃
    (F2 : List Lf → Nat), (∀ (w1 : World), RowKit.Below w.heap.size w w1 → Kept [] w w1 → F1 [Lf.int IntKind.i64 0, Lf.int IntKind.i64 0] w1) ∧ ∀ (x1 x2 : Int) (w2 : World),
    RowKit.Below w.heap.size w w2 → F1 [Lf.int IntKind.i64 x1, Lf.int IntKind.i64 x2] w2 → (x2 < (↑sn : Int) → ∃ (m1 : Nat), ∃ (m2 : Nat), sa = some { block := m1, off := m2 } ∧ (0
    ≤ x2 ∧ x2 < (↑sn : Int)) ∧ ∃ (x3 : Int), ∃ (x4 : Int), w2.cell? { block := m1, off := m2 + x2.toNat * 2 } = some (Value.int IntKind.i64 x3) ∧ w2.cell?
    { block := m1, off := m2 + x2.toNat * 2 + 1 } = some (Value.int IntKind.i64 x4) ∧ Callable Try.prog ff ∧ ∀ (w3 : World), RowKit.Below w.heap.size w w3 → Kept [] w2 w3 → Calls
    Try.prog ff (fi ++ [Value.agg #[Value.int IntKind.i64 x3, Value.int IntKind.i64 x4]] ++ fc).toArray w3 fun (e1 : Ending) (w4 : World) => ∃ (t1 : Bool), e1 = Ending.returned
    (Value.bool t1) ∧ KeepX true w.heap.size [] (fun _ => False) w3 w4 ∧ (t1 = true → ∀ (w5 : World), RowKit.Below w.heap.size w w5 → Kept [] w4 w5 → R (Ending.returned (Value.int
    IntKind.i64 x2)) w5) ∧ (t1 = false → (-9223372036854775808 ≤ x2 + 1 ∧ x2 + 1 ≤ 9223372036854775807) ∧ ∀ (w6 : World), RowKit.Below w.heap.size w w6 → Kept [] w4 w6 → F1 [Lf.int
    IntKind.i64 x1, Lf.int IntKind.i64 (x2 + 1)] w6 ∧ F2 [Lf.int IntKind.i64 x1, Lf.int IntKind.i64 (x2 + 1)] < F2 [Lf.int IntKind.i64 x1, Lf.int IntKind.i64 x2])) ∧ ((↑sn : Int) ≤
    x2 → ∀ (w7 : World), RowKit.Below w.heap.size w w7 → Kept [] w2 w7 → R (Ending.returned (Value.int IntKind.i64 (-1))) w7)) : Calls Try.prog 64 #[Value.slice sa sn sc,
    Value.func (Fn.func ff) fi.toArray fc.toArray] w R := calls_of_vc (pure := true) (wrapAt := []) (muts := []) (esc := []) (args := [SV.pv (PV.one (Lf.sl sa sn sc)), SV.pv
    (PV.one (Lf.fv ff fi fc))]) (vs := [Value.slice sa sn sc, Value.func (Fn.func ff) fi.toArray fc.toArray]) Try.func64 rfl rfl rfl (Eq.mp (by kernel_rfl) h) 
set_option maxRecDepth 100000 in
set_option maxHeartbeats 2000000 in
theorem vc15 (r0 : Int) (r1 : Int) (r2 : Int) (r3 : Int) (r4 : Int) (r5a : Option Addr) (r5n : Nat) (r5c : Nat) (w : World) (R : Ending → World → Prop) (h : ∀ (m1 : Nat),
    w.heap.size ≤ m1 → (3 < (↑r5n : Int) → ∀ (w1 : World), RowKit.Below w.heap.size w w1 → Kept [m1] w w1 → R (Ending.returned (Value.int IntKind.i64 5)) w1) ∧ ((↑r5n : Int) ≤ 3 →
    ∀ (m2 : Nat), w.heap.size ≤ m2 → ∀ (w2 : World), RowKit.Below w.heap.size w w2 → Kept [m2, m1] w w2 → w2.heap[m2]? = some (Obj.cells #[Value.int IntKind.i64 r0] 3) → Calls
    Try.prog 41 #[Value.int IntKind.i64 0, Value.int IntKind.i64 300, Value.slice (some { block := m2, off := 0 }) 1 1] w2 fun (e1 : Ending) (w3 : World) => ∃ (t1 : Bool), e1 =
    Ending.returned (Value.bool t1) ∧ KeepX true w.heap.size [m2, m1] (fun _ => False) w2 w3 ∧ ((!t1) = true → ∀ (w4 : World), RowKit.Below w.heap.size w w4 → Kept [m2, m1] w3 w4 →
    R (Ending.returned (Value.int IntKind.i64 2)) w4) ∧ ((!t1) = false → ∀ (m3 : Nat), w3.heap.size ≤ m3 → ∀ (w5 : World), RowKit.Below w.heap.size w w5 → Kept [m3, m2, m1] w3 w5 →
    w5.heap[m3]? = some (Obj.cells #[Value.int IntKind.i64 r1] 3) → Calls Try.prog 41 #[Value.int IntKind.i64 0, Value.int IntKind.i64 50, Value.slice (some
    { block := m3, off := 0 }) 1 1] w5 fun (e2 : Ending) (w6 : World) => ∃ (t2 : Bool), e2 = Ending.returned (Value.bool t2) ∧ KeepX true w.heap.size [m3, m2, m1] (fun _ => False)
    w5 w6 ∧ ((!t2) = true → ∀ (w7 : World), RowKit.Below w.heap.size w w7 → Kept [m3, m2, m1] w6 w7 → R (Ending.returned (Value.int IntKind.i64 2)) w7) ∧ ((!t2) = false → ∀ (w8 :
    World), RowKit.Below w.heap.size w w8 → Kept [m3, m2, m1] w6 w8 → Calls Try.prog 42 #[Value.agg #[Value.int IntKind.i64 r2, Value.int IntKind.i64 r3]] w8 fun (e3 : Ending) (w9
    : World) => ∃ (t3 : Bool), e3 = Ending.returned (Value.bool t3) ∧ KeepX true w.heap.size [m3, m2, m1] (fun _ => False) w8 w9 ∧ ((!t3) = true → ∀ (w10 : World), RowKit.Below
    w.heap.size w w10 → Kept [m3, m2, m1] w9 w10 → R (Ending.returned (Value.int IntKind.i64 2)) w10) ∧ ((!t3) = false → ∀ (m4 : Nat), w9.heap.size ≤ m4 → ∀ (w11 : World),
    RowKit.Below w.heap.size w w11 → Kept [m4, m3, m2, m1] w9 w11 → w11.heap[m4]? = some (Obj.cells #[Value.int IntKind.i64 r4] 3) → Calls Try.prog 41 #[Value.int IntKind.i64 0,
    Value.int IntKind.i64 10, Value.slice (some { block := m4, off := 0 }) 1 1] w11 fun (e4 : Ending) (w12 : World) => ∃ (t4 : Bool), e4 = Ending.returned (Value.bool t4) ∧ KeepX
    true w.heap.size [m4, m3, m2, m1] (fun _ => False) w11 w12 ∧ ((!t4) = true → ∀ (w13 : World), RowKit.Below w.heap.size w w13 → Kept [m4, m3, m2, m1] w12 w13 → R
    (Ending.returned (Value.int IntKind.i64 2)) w13) ∧ ((!t4) = false → ∀ (w14 : World), RowKit.Below w.heap.size w w14 → Kept [m4, m3, m2, m1] w12 w14 → Calls Try.prog 43
    #[Value.slice r5a r5n r5c, Value.func (Fn.func 44) #[] #[]] w14 fun (e5 : Ending) (w15 : World) => ∃ (t5 : Bool), e5 = Ending.returned (Value.bool t5) ∧ KeepX true w.heap.size
    [m4, m3, m2, m1] (fun _ => False) w14 w15 ∧ (t5 = true → ∀ (w16 : World), RowKit.Below w.heap.size w w16 → Kept [m4, m3, m2, m1] w15 w16 → R (Ending.returned (Value.int
    IntKind.i64 2)) w16) ∧ (t5 = false → ∀ (w17 : World), RowKit.Below w.heap.size w w17 → Kept [m4, m3, m2, m1] w15 w17 → R (Ending.returned (Value.int IntKind.i64 0)) w17)))))))
    : Calls Try.prog 15 #[Value.agg #[Value.int IntKind.i64 r0, Value.int IntKind.i64 r1, Value.int IntKind.i64 r2, Value.int IntKind.i64 r3, Value.int IntKind.i64 r4, Value.slice
    r5a r5n r5c]] w R := calls_of_vc (pure := true) (wrapAt := []) (muts := []) (esc := []) (args := [SV.pv (PV.agg [Lf.int IntKind.i64 r0, Lf.int IntKind.i64 r1, Lf.int
    IntKind.i64 r2, Lf.int IntKind.i64 r3, Lf.int IntKind.i64 r4, Lf.sl r5a r5n r5c])]) (vs := [Value.agg #[Value.int IntKind.i64 r0, Value.int IntKind.i64 r1, Value.int
    IntKind.i64 r2, Value.int IntKind.i64 r3, Value.int IntKind.i64 r4, Value.slice r5a r5n r5c]]) Try.func15 rfl rfl rfl (Eq.mp (by kernel_rfl) h) 
set_option maxRecDepth 100000 in
set_option maxHeartbeats 2000000 in
theorem vc13 (r0 : Int) (r1 : Int) (r2 : Int) (r3 : Int) (r4 : Int) (r5a : Option Addr) (r5n : Nat) (r5c : Nat) (w : World) (R : Ending → World → Prop) (h : ∀ (m1 : Nat),
    w.heap.size ≤ m1 → ∀ (m2 : Nat), w.heap.size ≤ m2 → ∀ (m3 : Nat), w.heap.size ≤ m3 → ∀ (w1 : World), RowKit.Below w.heap.size w w1 → Kept [m3, m2, m1] w w1 → w1.heap[m3]? =
    some (Obj.cells #[] 23) → RunsTo Try.prog (Builtin.append_ #[24, 24] 24 #[Value.slice (some { block := m3, off := 0 }) 0 0, Value.slice r5a r5n r5c]) w1 fun (v1 : Value) (w2 :
    World) => ∃ (a1 : Option Addr), ∃ (m4 : Nat), ∃ (m5 : Nat), v1 = Value.slice a1 m4 m5 ∧ KeepX true w.heap.size [m3, m2, m1] (fun _ => False) w1 w2 ∧ ∀ (w3 : World),
    RowKit.Below w.heap.size w w3 → Kept [m3, m2, m1] w2 w3 → R (Ending.returned (Value.agg #[Value.int IntKind.i64 r0, Value.int IntKind.i64 r1, Value.int IntKind.i64 r2,
    Value.int IntKind.i64 r3, Value.int IntKind.i64 r4, Value.slice a1 m4 m5])) w3) : Calls Try.prog 13 #[Value.agg #[Value.int IntKind.i64 r0, Value.int IntKind.i64 r1, Value.int
    IntKind.i64 r2, Value.int IntKind.i64 r3, Value.int IntKind.i64 r4, Value.slice r5a r5n r5c]] w R := calls_of_vc (pure := true) (wrapAt := []) (muts := []) (esc := []) (args :=
    [SV.pv (PV.agg [Lf.int IntKind.i64 r0, Lf.int IntKind.i64 r1, Lf.int IntKind.i64 r2, Lf.int IntKind.i64 r3, Lf.int IntKind.i64 r4, Lf.sl r5a r5n r5c])]) (vs := [Value.agg
    #[Value.int IntKind.i64 r0, Value.int IntKind.i64 r1, Value.int IntKind.i64 r2, Value.int IntKind.i64 r3, Value.int IntKind.i64 r4, Value.slice r5a r5n r5c]]) Try.func13 rfl
    rfl rfl (Eq.mp (by kernel_rfl) h) 
set_option maxRecDepth 100000 in
set_option maxHeartbeats 2000000 in
theorem vc14 (s0 : Int) (s1 : Int) (s2a : Option Addr) (s2n : Nat) (s2c : Nat) (w : World) (R : Ending → World → Prop) (h : ∀ (m1 : Nat), w.heap.size ≤ m1 → ∀ (m2 : Nat),
    w.heap.size ≤ m2 → ∀ (m3 : Nat), w.heap.size ≤ m3 → ∀ (w1 : World), RowKit.Below w.heap.size w w1 → Kept [m3, m2, m1] w w1 → w1.heap[m3]? = some (Obj.cells #[] 4) → RunsTo
    Try.prog (Builtin.append_ #[27, 27] 27 #[Value.slice (some { block := m3, off := 0 }) 0 0, Value.slice s2a s2n s2c]) w1 fun (v1 : Value) (w2 : World) => ∃ (a1 : Option Addr), ∃
    (m4 : Nat), ∃ (m5 : Nat), v1 = Value.slice a1 m4 m5 ∧ KeepX true w.heap.size [m3, m2, m1] (fun _ => False) w1 w2 ∧ ∀ (w3 : World), RowKit.Below w.heap.size w w3 → Kept [m3, m2,
    m1] w2 w3 → R (Ending.returned (Value.agg #[Value.int IntKind.i64 s0, Value.int IntKind.i64 s1, Value.slice a1 m4 m5])) w3) : Calls Try.prog 14 #[Value.agg #[Value.int
    IntKind.i64 s0, Value.int IntKind.i64 s1, Value.slice s2a s2n s2c]] w R := calls_of_vc (pure := true) (wrapAt := []) (muts := []) (esc := []) (args := [SV.pv (PV.agg [Lf.int
    IntKind.i64 s0, Lf.int IntKind.i64 s1, Lf.sl s2a s2n s2c])]) (vs := [Value.agg #[Value.int IntKind.i64 s0, Value.int IntKind.i64 s1, Value.slice s2a s2n s2c]]) Try.func14 rfl
    rfl rfl (Eq.mp (by kernel_rfl) h) 
set_option maxRecDepth 100000 in
set_option maxHeartbeats 2000000 in
theorem vc77 (xa : Option Addr) (xn : Nat) (xc : Nat) (w : World) (R : Ending → World → Prop) (h : ((↑xn : Int) < 1 → ∀ (w1 : World), RowKit.Below w.heap.size w w1 → Kept [] w w1 →
    RunsTo Try.prog (Instr.makeInterface 9 (Value.string { data := #[115, 108, 105, 99, 101, 115, 46, 77, 105, 110, 58, 32, 101, 109, 112, 116, 121, 32, 108, 105, 115, 116] })) w1
    fun (v1 : Value) (w2 : World) => ∃ (v2 : Value), v1 = v2 ∧ KeepX true w.heap.size [] (fun _ => False) w1 w2 ∧ Unsup "an operation that is not plain") ∧ (1 ≤ (↑xn : Int) → ∃ (m1
    : Nat), ∃ (m2 : Nat), xa = some { block := m1, off := m2 } ∧ ((0 : Int) ≤ 0 ∧ 0 < (↑xn : Int)) ∧ ∃ (x1 : Int), w.cell? { block := m1, off := m2 + Int.toNat 0 * 1 } = some
    (Value.int IntKind.i64 x1) ∧ ∃ (F1 : List Lf → World → Prop), ∃ (F2 : List Lf → Nat), (∀ (w3 : World), RowKit.Below w.heap.size w w3 → Kept [] w w3 → F1 [Lf.int IntKind.i64 x1,
    Lf.int IntKind.i64 1] w3) ∧ ∀ (x2 x3 : Int) (w4 : World), RowKit.Below w.heap.size w w4 → F1 [Lf.int IntKind.i64 x2, Lf.int IntKind.i64 x3] w4 → (x3 < (↑xn : Int) → ∃ (m3 :
    Nat), ∃ (m4 : Nat), xa = some { block := m3, off := m4 } ∧ (0 ≤ x3 ∧ x3 < (↑xn : Int)) ∧ ∃ (x4 : Int), w4.cell? { block := m3, off := m4 + x3.toNat * 1 } = some (Value.int
    IntKind.i64 x4) ∧ (-9223372036854775808 ≤ x3 + 1 ∧ x3 + 1 ≤ 9223372036854775807) ∧ ∀ (w5 : World), RowKit.Below w.heap.size w w5 → Kept [] w4 w5 → F1 [Lf.int IntKind.i64 (min
    x2 x4), Lf.int IntKind.i64 (x3 + 1)] w5 ∧ F2 [Lf.int IntKind.i64 (min x2 x4), Lf.int IntKind.i64 (x3 + 1)] < F2 [Lf.int IntKind.i64 x2, Lf.int IntKind.i64 x3]) ∧ ((↑xn : Int) ≤
    x3 → ∀ (w6 : World), RowKit.Below w.heap.size w w6 → Kept [] w4 w6 → R (Ending.returned (Value.int IntKind.i64 x2)) w6))) : Calls Try.prog 77 #[Value.slice xa xn xc] w R :=
    calls_of_vc (pure := true) (wrapAt := []) (muts := []) (esc := []) (args := [SV.pv (PV.one (Lf.sl xa xn xc))]) (vs := [Value.slice xa xn xc]) Try.func77 rfl rfl rfl (Eq.mp (by
    kernel_rfl) h) 
set_option maxRecDepth 100000 in
set_option maxHeartbeats 2000000 in
theorem vc78 (xa : Option Addr) (xn : Nat) (xc : Nat) (w : World) (R : Ending → World → Prop) (h : ((↑xn : Int) < 1 → ∀ (w1 : World), RowKit.Below w.heap.size w w1 → Kept [] w w1 →
    RunsTo Try.prog (Instr.makeInterface 9 (Value.string { data := #[115, 108, 105, 99, 101, 115, 46, 77, 97, 120, 58, 32, 101, 109, 112, 116, 121, 32, 108, 105, 115, 116] })) w1
    fun (v1 : Value) (w2 : World) => ∃ (v2 : Value), v1 = v2 ∧ KeepX true w.heap.size [] (fun _ => False) w1 w2 ∧ Unsup "an operation that is not plain") ∧ (1 ≤ (↑xn : Int) → ∃ (m1
    : Nat), ∃ (m2 : Nat), xa = some { block := m1, off := m2 } ∧ ((0 : Int) ≤ 0 ∧ 0 < (↑xn : Int)) ∧ ∃ (x1 : Int), w.cell? { block := m1, off := m2 + Int.toNat 0 * 1 } = some
    (Value.int IntKind.i64 x1) ∧ ∃ (F1 : List Lf → World → Prop), ∃ (F2 : List Lf → Nat), (∀ (w3 : World), RowKit.Below w.heap.size w w3 → Kept [] w w3 → F1 [Lf.int IntKind.i64 x1,
    Lf.int IntKind.i64 1] w3) ∧ ∀ (x2 x3 : Int) (w4 : World), RowKit.Below w.heap.size w w4 → F1 [Lf.int IntKind.i64 x2, Lf.int IntKind.i64 x3] w4 → (x3 < (↑xn : Int) → ∃ (m3 :
    Nat), ∃ (m4 : Nat), xa = some { block := m3, off := m4 } ∧ (0 ≤ x3 ∧ x3 < (↑xn : Int)) ∧ ∃ (x4 : Int), w4.cell? { block := m3, off := m4 + x3.toNat * 1 } = some (Value.int
    IntKind.i64 x4) ∧ (-9223372036854775808 ≤ x3 + 1 ∧ x3 + 1 ≤ 9223372036854775807) ∧ ∀ (w5 : World), RowKit.Below w.heap.size w w5 → Kept [] w4 w5 → F1 [Lf.int IntKind.i64 (max
    x2 x4), Lf.int IntKind.i64 (x3 + 1)] w5 ∧ F2 [Lf.int IntKind.i64 (max x2 x4), Lf.int IntKind.i64 (x3 + 1)] < F2 [Lf.int IntKind.i64 x2, Lf.int IntKind.i64 x3]) ∧ ((↑xn : Int) ≤
    x3 → ∀ (w6 : World), RowKit.Below w.heap.size w w6 → Kept [] w4 w6 → R (Ending.returned (Value.int IntKind.i64 x2)) w6))) : Calls Try.prog 78 #[Value.slice xa xn xc] w R :=
    calls_of_vc (pure := true) (wrapAt := []) (muts := []) (esc := []) (args := [SV.pv (PV.one (Lf.sl xa xn xc))]) (vs := [Value.slice xa xn xc]) Try.func78 rfl rfl rfl (Eq.mp (by
    kernel_rfl) h) 
set_option maxRecDepth 100000 in
set_option maxHeartbeats 2000000 in
theorem vc34 (la : Option Addr) (ln : Nat) (lc : Nat) (i : Int) (w : World) (R : Ending → World → Prop) (h : ((↑ln : Int) = 0 → ∀ (w1 : World), RowKit.Below w.heap.size w w1 → Kept
    [] w w1 → R (Ending.returned (Value.int IntKind.i64 0)) w1) ∧ ((↑ln : Int) ≠ 0 → (↑ln : Int) ≠ 0 ∧ ∃ (m1 : Nat), ∃ (m2 : Nat), la = some { block := m1, off := m2 } ∧ (0 ≤
    i.tmod (↑ln : Int) ∧ i.tmod (↑ln : Int) < (↑ln : Int)) ∧ ∃ (x1 : Int), w.cell? { block := m1, off := m2 + (i.tmod (↑ln : Int)).toNat * 1 } = some (Value.int IntKind.u8 x1) ∧
    (-9223372036854775808 ≤ x1 ∧ x1 ≤ 9223372036854775807) ∧ ∀ (w2 : World), RowKit.Below w.heap.size w w2 → Kept [] w w2 → R (Ending.returned (Value.int IntKind.i64 x1)) w2)) :
    Calls Try.prog 34 #[Value.slice la ln lc, Value.int IntKind.i64 i] w R := calls_of_vc (pure := true) (wrapAt := []) (muts := []) (esc := []) (args := [SV.pv (PV.one (Lf.sl la
    ln lc)), SV.pv (PV.one (Lf.int IntKind.i64 i))]) (vs := [Value.slice la ln lc, Value.int IntKind.i64 i]) Try.func34 rfl rfl rfl (Eq.mp (by kernel_rfl) h) 
set_option maxRecDepth 100000 in
set_option maxHeartbeats 2000000 in
theorem vc68 (lb : Nat) (lo : Nat) (rate : Int) (w : World) (R : Ending → World → Prop) (h : (-9223372036854775808 ≤ rate + 300 ∧ rate + 300 ≤ 9223372036854775807) ∧ (0 ≤ rate +
    300 ∧ rate + 300 < (↑601 : Int)) ∧ ∀ (w1 : World), RowKit.Below w.heap.size w w1 → Kept [] w w1 → R (Ending.returned (Value.pointer (some
    { block := lb, off := lo + (rate + 300).toNat * 1 }))) w1) : Calls Try.prog 68 #[Value.pointer (some { block := lb, off := lo }), Value.int IntKind.i64 rate] w R := calls_of_vc
    (pure := true) (wrapAt := []) (muts := []) (esc := []) (args := [SV.pv (PV.one (Lf.ptr lb lo)), SV.pv (PV.one (Lf.int IntKind.i64 rate))]) (vs := [Value.pointer (some
    { block := lb, off := lo }), Value.int IntKind.i64 rate]) Try.func68 rfl rfl rfl (Eq.mp (by kernel_rfl) h) 
set_option maxRecDepth 100000 in
set_option maxHeartbeats 2000000 in
theorem vc48 (s : Int) (i : Int) (w : World) (R : Ending → World → Prop) (h : 0 ≤ i ∧ ∀ (w1 : World), RowKit.Below w.heap.size w w1 → Kept [] w w1 → R (Ending.returned (Value.bool
    (IntKind.i64.wrap (↑(BitVec.ofInt IntKind.i64.bits (s.fdiv (2 ^ min i.toNat IntKind.i64.bits)) &&& BitVec.ofInt IntKind.i64.bits 1).toNat : Int) == 1))) w1) : Calls Try.prog 48
    #[Value.int IntKind.i64 s, Value.int IntKind.i64 i] w R := calls_of_vc (pure := true) (wrapAt := []) (muts := []) (esc := []) (args := [SV.pv (PV.one (Lf.int IntKind.i64 s)),
    SV.pv (PV.one (Lf.int IntKind.i64 i))]) (vs := [Value.int IntKind.i64 s, Value.int IntKind.i64 i]) Try.func48 rfl rfl rfl (Eq.mp (by kernel_rfl) h) 
set_option maxRecDepth 100000 in
set_option maxHeartbeats 2000000 in
theorem vc66 (s : Int) (i : Int) (w : World) (R : Ending → World → Prop) (h : 0 ≤ i ∧ ∀ (w1 : World), RowKit.Below w.heap.size w w1 → Kept [] w w1 → R (Ending.returned (Value.int
    IntKind.i64 (IntKind.i64.wrap (↑(BitVec.ofInt IntKind.i64.bits s ||| BitVec.ofInt IntKind.i64.bits (IntKind.i64.wrap (1 * 2 ^ min i.toNat IntKind.i64.bits))).toNat : Int))))
    w1) : Calls Try.prog 66 #[Value.int IntKind.i64 s, Value.int IntKind.i64 i] w R := calls_of_vc (pure := true) (wrapAt := []) (muts := []) (esc := []) (args := [SV.pv (PV.one
    (Lf.int IntKind.i64 s)), SV.pv (PV.one (Lf.int IntKind.i64 i))]) (vs := [Value.int IntKind.i64 s, Value.int IntKind.i64 i]) Try.func66 rfl rfl rfl (Eq.mp (by kernel_rfl) h) 
set_option maxRecDepth 100000 in
set_option maxHeartbeats 2000000 in
theorem vc47 (useda : Option Addr) (usedn : Nat) (usedc : Nat) (w : World) (R : Ending → World → Prop) (h : ∃ (F1 : List Lf → World → Prop), ∃ (F2 : List Lf → Nat), (∀ (w1 :
    World), RowKit.Below w.heap.size w w1 → Kept [] w w1 → F1 [Lf.int IntKind.i64 0, Lf.int IntKind.i64 0] w1) ∧ ∀ (x1 x2 : Int) (w2 : World), RowKit.Below w.heap.size w w2 → F1
    [Lf.int IntKind.i64 x1, Lf.int IntKind.i64 x2] w2 → (x2 < (↑usedn : Int) → ∃ (m1 : Nat), ∃ (m2 : Nat), useda = some { block := m1, off := m2 } ∧ (0 ≤ x2 ∧ x2 < (↑usedn : Int))
    ∧ ∃ (t1 : Bool), w2.cell? { block := m1, off := m2 + x2.toNat * 1 } = some (Value.bool t1) ∧ (t1 = true → ∀ (w3 : World), RowKit.Below w.heap.size w w3 → Kept [] w2 w3 → Calls
    Try.prog 66 #[Value.int IntKind.i64 x1, Value.int IntKind.i64 x2] w3 fun (e1 : Ending) (w4 : World) => ∃ (x3 : Int), e1 = Ending.returned (Value.int IntKind.i64 x3) ∧ KeepX
    true w.heap.size [] (fun _ => False) w3 w4 ∧ (-9223372036854775808 ≤ x2 + 1 ∧ x2 + 1 ≤ 9223372036854775807) ∧ ∀ (w5 : World), RowKit.Below w.heap.size w w5 → Kept [] w4 w5 → F1
    [Lf.int IntKind.i64 x3, Lf.int IntKind.i64 (x2 + 1)] w5 ∧ F2 [Lf.int IntKind.i64 x3, Lf.int IntKind.i64 (x2 + 1)] < F2 [Lf.int IntKind.i64 x1, Lf.int IntKind.i64 x2]) ∧ (t1 =
    false → (-9223372036854775808 ≤ x2 + 1 ∧ x2 + 1 ≤ 9223372036854775807) ∧ ∀ (w6 : World), RowKit.Below w.heap.size w w6 → Kept [] w2 w6 → F1 [Lf.int IntKind.i64 x1, Lf.int
    IntKind.i64 (x2 + 1)] w6 ∧ F2 [Lf.int IntKind.i64 x1, Lf.int IntKind.i64 (x2 + 1)] < F2 [Lf.int IntKind.i64 x1, Lf.int IntKind.i64 x2])) ∧ ((↑usedn : Int) ≤ x2 → ∀ (w7 :
    World), RowKit.Below w.heap.size w w7 → Kept [] w2 w7 → R (Ending.returned (Value.int IntKind.i64 x1)) w7)) : Calls Try.prog 47 #[Value.slice useda usedn usedc] w R :=
    calls_of_vc (pure := true) (wrapAt := []) (muts := []) (esc := []) (args := [SV.pv (PV.one (Lf.sl useda usedn usedc))]) (vs := [Value.slice useda usedn usedc]) Try.func47 rfl
    rfl rfl (Eq.mp (by kernel_rfl) h) 
set_option maxRecDepth 100000 in
set_option maxHeartbeats 2000000 in
theorem vc73 (sb : Nat) (so : Nat) (w : World) (R : Ending → World → Prop) (h : ∃ (x1 : Int), w.cell? { block := sb, off := so + 0 + 1 } = some (Value.int IntKind.i64 x1) ∧
    (-9223372036854775808 ≤ 2 * x1 ∧ 2 * x1 ≤ 9223372036854775807) ∧ ∀ (w1 : World), RowKit.Below w.heap.size w w1 → Kept [] w w1 → R (Ending.returned (Value.int IntKind.i64 (2 *
    x1))) w1) : Calls Try.prog 73 #[Value.pointer (some { block := sb, off := so })] w R := calls_of_vc (pure := true) (wrapAt := []) (muts := []) (esc := []) (args := [SV.pv
    (PV.one (Lf.ptr sb so))]) (vs := [Value.pointer (some { block := sb, off := so })]) Try.func73 rfl rfl rfl (Eq.mp (by kernel_rfl) h) 
set_option maxRecDepth 100000 in
set_option maxHeartbeats 2000000 in
theorem vc72 (sb : Nat) (so : Nat) (rate : Int) (w : World) (R : Ending → World → Prop) (h : ∃ (x1 : Int), w.cell? { block := sb, off := so + 0 + 0 } = some (Value.int IntKind.i64
    x1) ∧ (-9223372036854775808 ≤ 0 - x1 ∧ 0 - x1 ≤ 9223372036854775807) ∧ ∃ (x2 : Int), w.cell? { block := sb, off := so + 0 + 0 } = some (Value.int IntKind.i64 x2) ∧ ∀ (m1 :
    Nat), w.heap.size ≤ m1 → ∀ (w1 : World), RowKit.Below w.heap.size w w1 → KeptIn [(0, w.heap.size)] [m1] w w1 → w1.heap[m1]? = some (Obj.cells #[Value.int IntKind.i64 rate] 3) →
    Calls Try.prog 41 #[Value.int IntKind.i64 (0 - x1), Value.int IntKind.i64 x2, Value.slice (some { block := m1, off := 0 }) 1 1] w1 fun (e1 : Ending) (w2 : World) => ∃ (t1 :
    Bool), e1 = Ending.returned (Value.bool t1) ∧ KeepX true w.heap.size [m1] (fun _ => False) w1 w2 ∧ (t1 = true → ∃ (x3 : Int), w2.cell? { block := sb, off := so + 0 + 0 } = some
    (Value.int IntKind.i64 x3) ∧ (sb < w.heap.size ∨ sb ≠ m1) ∧ ∀ (w3 : World), RowKit.Below w.heap.size w w3 → Kept [m1] w2 w3 → R (Ending.returned (Value.int IntKind.i64 x3)) w3)
    ∧ (t1 = false → (-9223372036854775808 ≤ rate - 1 ∧ rate - 1 ≤ 9223372036854775807) ∧ ∀ (w4 : World), RowKit.Below w.heap.size w w4 → Kept [m1] w2 w4 → R (Ending.returned
    (Value.int IntKind.i64 (rate - 1))) w4)) : Calls Try.prog 72 #[Value.pointer (some { block := sb, off := so }), Value.int IntKind.i64 rate] w R := calls_of_vc (pure := true)
    (wrapAt := []) (muts := []) (esc := []) (args := [SV.pv (PV.one (Lf.ptr sb so)), SV.pv (PV.one (Lf.int IntKind.i64 rate))]) (vs := [Value.pointer (some
    { block := sb, off := so }), Value.int IntKind.i64 rate]) Try.func72 rfl rfl rfl (Eq.mp (by kernel_rfl) h) 
set_option maxRecDepth 100000 in
set_option maxHeartbeats 2000000 in
theorem vc56 (sb : Nat) (so : Nat) (x0 : Int) (x1 : Int) (x2a : Option Addr) (x2n : Nat) (x2c : Nat) (w : World) (R : Ending → World → Prop) (h : ∀ (m1 : Nat), w.heap.size ≤ m1 → ∀
    (w1 : World), RowKit.Below w.heap.size w w1 → KeptIn [(0, w.heap.size)] [m1] w w1 → Calls Try.prog 63 #[Value.agg #[Value.int IntKind.i64 x0, Value.int IntKind.i64 x1],
    Value.int IntKind.i64 (-300), Value.int IntKind.i64 300] w1 fun (e1 : Ending) (w2 : World) => ∃ (t1 : Bool), e1 = Ending.returned (Value.bool t1) ∧ KeepX true w.heap.size [m1]
    (fun _ => False) w1 w2 ∧ (t1 = true → ∃ (a1 : Option Addr), ∃ (m2 : Nat), ∃ (m3 : Nat), w2.cell? { block := sb, off := so + 0 + 5 } = some (Value.slice a1 m2 m3) ∧ (sb <
    w.heap.size ∨ sb ≠ m1) ∧ ∀ (w3 : World), RowKit.Below w.heap.size w w3 → Kept [m1] w2 w3 → R (Ending.returned (Value.bool ((↑x2n : Int) == (↑m2 : Int)))) w3) ∧ (t1 = false → ∀
    (w4 : World), RowKit.Below w.heap.size w w4 → Kept [m1] w2 w4 → R (Ending.returned (Value.bool false)) w4)) : Calls Try.prog 56 #[Value.pointer (some
    { block := sb, off := so }), Value.agg #[Value.int IntKind.i64 x0, Value.int IntKind.i64 x1, Value.slice x2a x2n x2c]] w R := calls_of_vc (pure := true) (wrapAt := []) (muts :=
    []) (esc := []) (args := [SV.pv (PV.one (Lf.ptr sb so)), SV.pv (PV.agg [Lf.int IntKind.i64 x0, Lf.int IntKind.i64 x1, Lf.sl x2a x2n x2c])]) (vs := [Value.pointer (some
    { block := sb, off := so }), Value.agg #[Value.int IntKind.i64 x0, Value.int IntKind.i64 x1, Value.slice x2a x2n x2c]]) Try.func56 rfl rfl rfl (Eq.mp (by kernel_rfl) h) 
set_option maxRecDepth 100000 in
set_option maxHeartbeats 2000000 in
theorem vc45 (r0 : Int) (r1 : Int) (r2 : Int) (r3 : Int) (r4 : Int) (r5a : Option Addr) (r5n : Nat) (r5c : Nat) (x0 : Int) (x1 : Int) (x2a : Option Addr) (x2n : Nat) (x2c : Nat) (w
    : World) (R : Ending → World → Prop) (h : ∀ (m1 : Nat), w.heap.size ≤ m1 → ∀ (m2 : Nat), w.heap.size ≤ m2 → ∀ (w1 : World), RowKit.Below w.heap.size w w1 → Kept [m2, m1] w w1 →
    Calls Try.prog 55 #[Value.agg #[Value.int IntKind.i64 r0, Value.int IntKind.i64 r1, Value.int IntKind.i64 r2, Value.int IntKind.i64 r3, Value.int IntKind.i64 r4, Value.slice
    r5a r5n r5c]] w1 fun (e1 : Ending) (w2 : World) => ∃ (a1 : Option Addr), ∃ (x1_1 : Int), e1 = Ending.returned (Value.tuple #[Value.pointer a1, Value.int IntKind.i64 x1_1]) ∧
    KeepX true w.heap.size [m2, m1] (fun _ => False) w1 w2 ∧ (x1_1 = 0 → ∀ (w3 : World), RowKit.Below w.heap.size w w3 → Kept [m2, m1] w2 w3 → Calls Try.prog 56 #[Value.pointer a1,
    Value.agg #[Value.int IntKind.i64 x0, Value.int IntKind.i64 x1, Value.slice x2a x2n x2c]] w3 fun (e2 : Ending) (w4 : World) => ∃ (t1 : Bool), e2 = Ending.returned (Value.bool
    t1) ∧ KeepX true w.heap.size [m2, m1] (fun _ => False) w3 w4 ∧ ((!t1) = true → ∀ (w5 : World), RowKit.Below w.heap.size w w5 → Kept [m2, m1] w4 w5 → R (Ending.returned
    (Value.tuple #[Value.pointer a1, Value.int IntKind.i64 2])) w5) ∧ ((!t1) = false → ∀ (w6 : World), RowKit.Below w.heap.size w w6 → Kept [m2, m1] w4 w6 → R (Ending.returned
    (Value.tuple #[Value.pointer a1, Value.int IntKind.i64 x1_1])) w6)) ∧ (x1_1 ≠ 0 → ∀ (w7 : World), RowKit.Below w.heap.size w w7 → Kept [m2, m1] w2 w7 → R (Ending.returned
    (Value.tuple #[Value.pointer a1, Value.int IntKind.i64 x1_1])) w7)) : Calls Try.prog 45 #[Value.agg #[Value.int IntKind.i64 r0, Value.int IntKind.i64 r1, Value.int IntKind.i64
    r2, Value.int IntKind.i64 r3, Value.int IntKind.i64 r4, Value.slice r5a r5n r5c], Value.agg #[Value.int IntKind.i64 x0, Value.int IntKind.i64 x1, Value.slice x2a x2n x2c]] w R
    := calls_of_vc (pure := true) (wrapAt := []) (muts := []) (esc := []) (args := [SV.pv (PV.agg [Lf.int IntKind.i64 r0, Lf.int IntKind.i64 r1, Lf.int IntKind.i64 r2, Lf.int
    IntKind.i64 r3, Lf.int IntKind.i64 r4, Lf.sl r5a r5n r5c]), SV.pv (PV.agg [Lf.int IntKind.i64 x0, Lf.int IntKind.i64 x1, Lf.sl x2a x2n x2c])]) (vs := [Value.agg #[Value.int
    IntKind.i64 r0, Value.int IntKind.i64 r1, Value.int IntKind.i64 r2, Value.int IntKind.i64 r3, Value.int IntKind.i64 r4, Value.slice r5a r5n r5c], Value.agg #[Value.int
    IntKind.i64 x0, Value.int IntKind.i64 x1, Value.slice x2a x2n x2c]]) Try.func45 rfl rfl rfl (Eq.mp (by kernel_rfl) h) 
end Go.Proofs
end
section
/- Contracts of the small functions of rate. -/
namespace Go.Proofs.R07
open Go.Vc Go.RowKit Go.Proofs

abbrev I (n : Int) : Value := .int .i64 n

theorem getElem_of_lt {α : Type} {l : List α} {i : Nat} (h : i < l.length) : l[i]? = some l[i] := List.getElem?_eq_getElem h

def idx (l : List Int) (p : Int → Bool) : Int := if l.any p then ((l.findIdx p : Nat) : Int) else -1

def FnInt (f : Nat) (fi fc : List Value) (p : Int → Bool) (l : List Int) (B : Nat) (w0 : World) : Prop :=
  Callable Try.prog f ∧ ∀ x ∈ l, ∀ w, Below B w0 w → Calls Try.prog f (fi ++ [I x] ++ fc).toArray w (Pure w (.bool (p x)))

theorem index_int {a : Option Addr} {c f : Nat} {fi fc : List Value} {p : Int → Bool} {l : List Int} {w : World} (hc : Cells w a (ints l)) (hl : (l.length : Int) ≤ 9223372036854775807)
    (hf : FnInt f fi fc p l w.heap.size w) : ∃ r : Int, (0 ≤ r ↔ l.any p = true) ∧ Calls Try.prog 76 #[.slice a l.length c, .func (.func f) fi.toArray fc.toArray] w (Pure w (I r)) := by
  refine ⟨idx l p, ?_, ?_⟩
  · unfold idx; split <;> simp_all
  refine vc76 _ _ _ _ _ _ w _ ?_
  refine ⟨fun ls _ => match ls with | [.int _ _, .int _ x] => 0 ≤ x ∧ x ≤ l.length ∧ ∀ i, i < x.toNat → ∀ y, l[i]? = some y → p y = false | _ => False, fun ls => match ls with | [.int _ _, .int _ x] => l.length - x.toNat | _ => 0, fun w1 hb _ => ⟨by omega, by omega, fun i hi => by omega⟩, ?_⟩
  rintro x1 x2 w2 hb2 ⟨h0, hn, hno⟩
  refine ⟨fun hlt => ?_, fun hge w7 hb7 _ => ⟨?_, hb7⟩⟩
  · have hi : x2.toNat < l.length := by omega
    obtain ⟨b, o, rfl, hcell⟩ := hc x2.toNat _ (ints_get (getElem_of_lt hi))
    refine ⟨b, o, rfl, ⟨h0, hlt⟩, l[x2.toNat], cell_keep hb2 (by rw [Nat.mul_one]; exact hcell), hf.1, fun w3 hb3 _ => Pure.calls (hf.2 _ (List.getElem_mem hi) w3 hb3) fun w4 hb4 => ⟨p l[x2.toNat], rfl, .all hb4, fun ht w5 hb5 _ => ⟨?_, hb5⟩, fun ht => ⟨by omega, fun w6 hb6 _ => ⟨⟨by omega, by omega, fun i hi' y hy => ?_⟩, ?_⟩⟩⟩⟩
    · have hany : l.any p = true := List.any_eq_true.2 ⟨_, List.getElem_mem hi, ht⟩
      have hfi : l.findIdx p = x2.toNat := by
        refine (List.findIdx_eq hi).2 ⟨ht, fun j hj => ?_⟩
        exact hno j hj _ (getElem_of_lt (by omega))
      unfold idx
      rw [if_pos hany, hfi, Int.toNat_of_nonneg h0]
    · by_cases e : i < x2.toNat
      · exact hno i e y hy
      · have : i = x2.toNat := by omega
        subst this
        rw [getElem_of_lt hi] at hy
        obtain rfl := Option.some.inj hy
        exact ht
    · show l.length - (x2 + 1).toNat < l.length - x2.toNat
      omega
  · unfold idx
    rw [if_neg]
    intro hany
    obtain ⟨y, hy, hp⟩ := List.any_eq_true.1 hany
    obtain ⟨i, hi, rfl⟩ := List.mem_iff_getElem.1 hy
    rw [hno i (by omega) _ (getElem_of_lt hi)] at hp
    cases hp

theorem contains_int {a : Option Addr} {c f : Nat} {fi fc : List Value} {p : Int → Bool} {l : List Int} {w : World} (hc : Cells w a (ints l)) (hl : (l.length : Int) ≤ 9223372036854775807)
    (hf : FnInt f fi fc p l w.heap.size w) : Calls Try.prog 61 #[.slice a l.length c, .func (.func f) fi.toArray fc.toArray] w (Pure w (.bool (l.any p))) := by
  refine vc61 _ _ _ _ _ _ w _ fun w1 hb1 _ => ?_
  obtain ⟨r, hr, h⟩ := index_int (c := c) (hc.keep hb1) hl ⟨hf.1, fun x hx w' hw' => hf.2 x hx w' (hb1.trans (hw'.mono hb1.size))⟩
  refine Pure.calls h fun w2 hb2 => ⟨r, rfl, .all hb2, fun w3 hb3 _ => ⟨?_, hb3⟩⟩
  rw [show decide (0 ≤ r) = l.any p by rw [Bool.eq_iff_iff, decide_eq_true_iff, hr]]

def within (a b : Int) (l : List Int) : Bool := l.all fun n => decide (a ≤ n) && decide (n ≤ b)

theorem within_any {a b : Int} {la : Option Addr} {c : Nat} {l : List Int} {w : World} (hc : Cells w la (ints l)) (hl : (l.length : Int) ≤ 9223372036854775807) :
    Calls Try.prog 41 #[I a, I b, .slice la l.length c] w (Pure w (.bool (within a b l))) := by
  refine vc41 _ _ _ _ _ w _ fun m1 h1 m2 h2 w1 hb1 hk1 hc1 hc2 => ?_
  refine Pure.calls (contains_int (fi := []) (p := fun n => decide (n < a) || decide (b < n)) (hc.keep hb1) hl ⟨callOk_run (by rfl), fun x hx w2 hb2 => ?_⟩) fun w2 hb2 => ⟨_, rfl, .all hb2, fun w3 hb3 _ => ⟨?_, hb3⟩⟩
  · have k1 : w2.cell? ⟨m1, 0, none⟩ = some (I a) := cell_keep hb2 (cell_obj (vs := [I a]) hc1 rfl)
    have k2 : w2.cell? ⟨m2, 0, none⟩ = some (I b) := cell_keep hb2 (cell_obj (vs := [I b]) hc2 rfl)
    refine vc62 _ _ _ w2 _ ⟨a, k1, fun hlt w3 hb3 _ => ⟨?_, hb3⟩, fun hge => ⟨b, k2, fun w3 hb3 _ => ⟨?_, hb3⟩⟩⟩
    · simp [hlt]
    · simp [Int.not_lt.2 hge]
  · congr 2
    rw [Bool.eq_iff_iff]
    simp [within, List.all_eq_true]

def isSpan (s : Int × Int) (a b : Int) : Bool := decide (s.1 ≤ s.2) && within a b [s.1, s.2]

theorem isSpan_any (s : Int × Int) (a b : Int) (w : World) : Calls Try.prog 63 #[.agg #[I s.1, I s.2], I a, I b] w (Pure w (.bool (isSpan s a b))) := by
  refine vc63 _ _ _ _ w _ fun m1 h1 => ⟨fun hle m2 h2 w1 hb1 hk1 hc => ?_, fun hlt w4 hb4 _ => ⟨by simp [isSpan, Int.not_le.2 hlt], hb4⟩⟩
  exact Pure.calls (within_any (l := [s.1, s.2]) (Cells.obj (vs := [I s.1, I s.2]) hc) (by simp)) fun w2 hb2 => ⟨_, rfl, .all hb2, fun w3 hb3 _ => ⟨by simp [isSpan, hle], hb3⟩⟩

def isEffect (s : Int × Int) : Bool := isSpan s 1 100

theorem isEffect_any (s : Int × Int) (w : World) : Calls Try.prog 42 #[.agg #[I s.1, I s.2]] w (Pure w (.bool (isEffect s))) :=
  vc42 _ _ w _ fun m1 h1 w1 hb1 _ => Pure.calls (isSpan_any s 1 100 w1) fun w2 hb2 => ⟨_, rfl, .all hb2, fun w3 hb3 _ => ⟨rfl, hb3⟩⟩

theorem notEffect_any (s : Int × Int) (w : World) : Calls Try.prog 44 #[.agg #[I s.1, I s.2]] w (Pure w (.bool (!isEffect s))) :=
  vc44 _ _ w _ fun m1 h1 w1 hb1 _ => Pure.calls (isEffect_any s w1) fun w2 hb2 => ⟨_, rfl, .all hb2, fun w3 hb3 _ => ⟨rfl, hb3⟩⟩

end Go.Proofs.R07
end
section
/- Contracts: the error of rules. -/
namespace Go.Proofs.R07
open Go.Vc Go.RowKit Go.Proofs

abbrev Sp := Int × Int
structure Rules where
  limit : Int
  err : Int
  tlo : Int
  thi : Int
  turns : Int
  ws : List Sp

def spans (l : List Sp) : List Value := l.flatMap fun s => [I s.1, I s.2]
theorem spans_get {l : List Sp} {i : Nat} {x : Sp} (h : l[i]? = some x) : (spans l)[i * 2]? = some (I x.1) ∧ (spans l)[i * 2 + 1]? = some (I x.2) := by
  have hf : ∀ s : Sp, ([I s.1, I s.2] : List Value).length = 2 := fun _ => rfl
  exact ⟨by have := flat_get (j := 0) hf h (by omega); simpa [spans] using this, by have := flat_get (j := 1) hf h (by omega); simpa [spans] using this⟩

def OkR (r : Rules) : Prop := (0 ≤ r.limit ∧ r.limit ≤ 300) ∧ (0 ≤ r.err ∧ r.err ≤ 50) ∧ (1 ≤ r.tlo ∧ r.tlo ≤ r.thi ∧ r.thi ≤ 100) ∧ (0 ≤ r.turns ∧ r.turns ≤ 10) ∧ ∀ s ∈ r.ws, 1 ≤ s.1 ∧ s.1 ≤ s.2 ∧ s.2 ≤ 100
instance (r : Rules) : Decidable (OkR r) := by unfold OkR; infer_instance
def check (r : Rules) : Int := if 3 < r.ws.length then 5 else if OkR r then 0 else 2

def Rules.v (r : Rules) (a : Option Addr) (c : Nat) : Value := .agg #[I r.limit, I r.err, I r.tlo, I r.thi, I r.turns, .slice a r.ws.length c]

theorem isEffect_iff (s : Sp) : isEffect s = true ↔ 1 ≤ s.1 ∧ s.1 ≤ s.2 ∧ s.2 ≤ 100 := by
  simp [isEffect, isSpan, within]; omega
theorem within_one (a b x : Int) : within a b [x] = true ↔ a ≤ x ∧ x ≤ b := by simp [within]

theorem index_span {a : Option Addr} {c : Nat} {l : List Sp} {w : World} (hc : Cells w a (spans l)) (hl : (l.length : Int) ≤ 9223372036854775807) :
    ∃ r : Int, (0 ≤ r ↔ l.any (fun s => !isEffect s) = true) ∧ Calls Try.prog 64 #[.slice a l.length c, .func (.func 44) #[] #[]] w (Pure w (I r)) := by
  refine ⟨if l.any (fun s => !isEffect s) then ((l.findIdx (fun s => !isEffect s) : Nat) : Int) else -1, ?_, ?_⟩
  · split <;> simp_all
  refine vc64 (fi := []) (fc := []) _ _ _ _ w _ ?_
  refine ⟨fun ls _ => match ls with | [.int _ _, .int _ x] => 0 ≤ x ∧ x ≤ l.length ∧ ∀ i, i < x.toNat → ∀ y, l[i]? = some y → (!isEffect y) = false | _ => False, fun ls => match ls with | [.int _ _, .int _ x] => l.length - x.toNat | _ => 0, fun w1 hb _ => ⟨by omega, by omega, fun i hi => by omega⟩, ?_⟩
  rintro x1 x2 w2 hb2 ⟨h0, hn, hno⟩
  refine ⟨fun hlt => ?_, fun hge w7 hb7 _ => ⟨?_, hb7⟩⟩
  · have hi : x2.toNat < l.length := by omega
    obtain ⟨g1, g2⟩ := spans_get (getElem_of_lt hi)
    obtain ⟨b, o, rfl, hcell⟩ := hc _ _ g1
    have hcell2 := Cells.at hc g2
    refine ⟨b, o, rfl, ⟨h0, hlt⟩, _, _, cell_keep hb2 hcell, cell_keep hb2 hcell2, callOk_run (by rfl), fun w3 hb3 _ => Pure.calls (notEffect_any l[x2.toNat] w3) fun w4 hb4 => ⟨_, rfl, .all hb4, fun ht w5 hb5 _ => ⟨?_, hb5⟩, fun ht => ⟨by omega, fun w6 hb6 _ => ⟨⟨by omega, by omega, fun i hi' y hy => ?_⟩, ?_⟩⟩⟩⟩
    · have hany : l.any (fun s => !isEffect s) = true := List.any_eq_true.2 ⟨_, List.getElem_mem hi, ht⟩
      have hfi : l.findIdx (fun s => !isEffect s) = x2.toNat := by
        refine (List.findIdx_eq hi).2 ⟨ht, fun j hj => ?_⟩
        exact hno j hj _ (getElem_of_lt (by omega))
      rw [if_pos hany, hfi, Int.toNat_of_nonneg h0]
    · by_cases e : i < x2.toNat
      · exact hno i e y hy
      · have : i = x2.toNat := by omega
        subst this
        rw [getElem_of_lt hi] at hy
        obtain rfl := Option.some.inj hy
        exact ht
    · show l.length - (x2 + 1).toNat < l.length - x2.toNat
      omega
  · rw [if_neg]
    intro hany
    obtain ⟨y, hy, hp⟩ := List.any_eq_true.1 hany
    obtain ⟨i, hi, rfl⟩ := List.mem_iff_getElem.1 hy
    rw [hno i (by omega) _ (getElem_of_lt hi)] at hp
    cases hp

theorem contains_span {a : Option Addr} {c : Nat} {l : List Sp} {w : World} (hc : Cells w a (spans l)) (hl : (l.length : Int) ≤ 9223372036854775807) :
    Calls Try.prog 43 #[.slice a l.length c, .func (.func 44) #[] #[]] w (Pure w (.bool (l.any fun s => !isEffect s))) := by
  refine vc43 (fi := []) (fc := []) _ _ _ _ w _ fun w1 hb1 _ => ?_
  obtain ⟨r, hr, h⟩ := index_span (c := c) (hc.keep hb1) hl
  refine Pure.calls h fun w2 hb2 => ⟨r, rfl, .all hb2, fun w3 hb3 _ => ⟨?_, hb3⟩⟩
  rw [show decide (0 ≤ r) = l.any fun s => !isEffect s by rw [Bool.eq_iff_iff, decide_eq_true_iff, hr]]

theorem check_any (r : Rules) {a : Option Addr} {c : Nat} {w : World} (hc : Cells w a (spans r.ws)) : Calls Try.prog 15 #[r.v a c] w (Pure w (I (check r))) := by
  have two : ∀ {w' : World}, r.ws.length ≤ 3 → ¬ OkR r → Below w.heap.size w w' → Pure w (I (check r)) (.returned (I 2)) w' := fun h1 h2 hb => ⟨by rw [check, if_neg (by omega), if_neg h2], hb⟩
  refine vc15 _ _ _ _ _ _ _ _ w _ fun m1 h1 => ⟨fun hgt w1 hb1 _ => ⟨by rw [check, if_pos (by omega)], hb1⟩, fun hle m2 h2 w2 hb2 _ hc2 => ?_⟩
  have hlen : r.ws.length ≤ 3 := by omega
  have one : ∀ {w' : World} {m : Nat} {x y z : Int}, w'.heap[m]? = some (.cells #[I x] 3 (0, 0)) → Calls Try.prog 41 #[I y, I z, .slice (some ⟨m, 0, none⟩) 1 1] w' (Pure w' (.bool (within y z [x]))) := fun h => within_any (l := [_]) (Cells.obj (vs := [I _]) h) (by simp)
  refine Pure.calls (one hc2) fun w3 hb3 => ⟨_, rfl, .all hb3, fun ht w4 hb4 _ => two hlen (fun h => ?_) hb4, fun ht m3 h3 w5 hb5 _ hc5 => ?_⟩
  · have := (within_one 0 300 r.limit).2 h.1; simp [this] at ht
  have e1 := (within_one 0 300 r.limit).1 (by simpa using ht)
  refine Pure.calls (one hc5) fun w6 hb6 => ⟨_, rfl, .all hb6, fun ht w7 hb7 _ => two hlen (fun h => ?_) hb7, fun ht w8 hb8 _ => ?_⟩
  · have := (within_one 0 50 r.err).2 h.2.1; simp [this] at ht
  have e2 := (within_one 0 50 r.err).1 (by simpa using ht)
  refine Pure.calls (isEffect_any (r.tlo, r.thi) w8) fun w9 hb9 => ⟨_, rfl, .all hb9, fun ht w10 hb10 _ => two hlen (fun h => ?_) hb10, fun ht m4 h4 w11 hb11 _ hc11 => ?_⟩
  · have := (isEffect_iff (r.tlo, r.thi)).2 h.2.2.1; simp [this] at ht
  have e3 := (isEffect_iff (r.tlo, r.thi)).1 (by simpa using ht)
  refine Pure.calls (one hc11) fun w12 hb12 => ⟨_, rfl, .all hb12, fun ht w13 hb13 _ => two hlen (fun h => ?_) hb13, fun ht w14 hb14 _ => ?_⟩
  · have := (within_one 0 10 r.turns).2 h.2.2.2.1; simp [this] at ht
  have e4 := (within_one 0 10 r.turns).1 (by simpa using ht)
  refine Pure.calls (contains_span (hc.keep hb14) (by omega)) fun w15 hb15 => ⟨_, rfl, .all hb15, fun ht w16 hb16 _ => two hlen (fun h => ?_) hb16, fun ht w17 hb17 _ => ⟨?_, hb17⟩⟩
  · obtain ⟨s, hs, hn⟩ := List.any_eq_true.1 ht
    have := (isEffect_iff s).2 (h.2.2.2.2 s hs)
    simp [this] at hn
  · have e5 : ∀ s ∈ r.ws, 1 ≤ s.1 ∧ s.1 ≤ s.2 ∧ s.2 ≤ 100 := fun s hs => (isEffect_iff s).1 (by
      have := List.any_eq_false.1 ht s hs
      simpa using this)
    rw [check, if_neg (by omega), if_pos ⟨e1, e2, e3, e4, e5⟩]

end Go.Proofs.R07
end
section
/- The shop is opened. -/
namespace Go.Proofs.R07
open Go.Vc Go.RowKit Go.Proofs

theorem run_mkmap {w : World} {t : TypeId} {P : Program} : (Instr.makeMap t none).run P w = .ok (.map (some w.heap.size)) (w.alloc (.map #[] 0)) := run_makeMap t w

theorem heap_alloc_old {w : World} {o : Obj} {k : Nat} {x : Obj} (h : w.heap[k]? = some x) : (w.alloc o).heap[k]? = some x := by
  rw [Below.heap_alloc _ _ _ (lt_of_some h)]; exact h
theorem heap_keep {w w' : World} {k : Nat} {x : Obj} (hb : Below w.heap.size w w') (h : w.heap[k]? = some x) : w'.heap[k]? = some x := by
  rw [hb.block k (lt_of_some h)]; exact h

theorem exec_build_shop {ρ : Operand → Value} {d : Option Tmp} {ty : TypeId} {p : String} {af : Array Edge} {gd : Option (Nat × Bool)} {W : World} {x0 x1 x2 x3 x4 x5 : Value} {tm : Nat} (h4 : ρ (.tmp 4) = .agg #[x0, x1, x2, x3, x4, x5]) (h5 : ρ (.tmp 5) = .map (some tm)) :
    (execOp ρ { dst := d, op := .build 141 #[(0, .tmp 4), (1, .tmp 5)], type := ty, pos := p, after := af, guard := gd }).run Try.prog W = .ok (.value (.agg #[x0, x1, x2, x3, x4, x5, .map (some tm)])) W := by
  have h : (execOp (fun x => match x with | .tmp 4 => .agg #[x0, x1, x2, x3, x4, x5] | .tmp 5 => .map (some tm) | _ => undef) { dst := d, op := .build 141 #[(0, .tmp 4), (1, .tmp 5)], type := ty, pos := p, after := af, guard := gd }).run Try.prog W = .ok (.value (.agg #[x0, x1, x2, x3, x4, x5, .map (some tm)])) W := by kernel_rfl
  refine (congrArg (fun m => Sem.run Try.prog m W) (execOp_congr _ (by intro cs b h; cases h) fun x hx => ?_)).trans h
  simp [Op.operands] at hx
  rcases hx with rfl | rfl
  · exact h4
  · exact h5

/-- What the opened shop looks like. -/
structure Opened (r : Rules) (a : Option Addr) (c : Nat) (B sb tm : Nat) (w : World) : Prop where
  hsb : B ≤ sb
  htm : B ≤ tm
  shop : w.heap[sb]? = some (Obj.cells #[I r.limit, I r.err, I r.tlo, I r.thi, I r.turns, .slice a r.ws.length c, .map (some tm)] 141 (0, 0))
  map : w.heap[tm]? = some (Obj.map #[] 0)

theorem Opened.keep {r : Rules} {a : Option Addr} {c B sb tm : Nat} {w w' : World} (h : Opened r a c B sb tm w) (hb : Below w.heap.size w w') : Opened r a c B sb tm w' :=
  ⟨h.hsb, h.htm, heap_keep hb h.shop, heap_keep hb h.map⟩

def OpenPost (r : Rules) (a : Option Addr) (c : Nat) (w : World) (e : Ending) (w' : World) : Prop := ∃ sb tm, e = .returned (.tuple #[.pointer (some ⟨sb, 0, none⟩), I (check r)]) ∧ Below w.heap.size w w' ∧ Opened r a c w.heap.size sb tm w'

set_option maxRecDepth 100000 in
set_option maxHeartbeats 1000000 in
theorem open_any (r : Rules) {a : Option Addr} {c : Nat} {w : World} (hc : Cells w a (spans r.ws)) :
    Calls Try.prog 55 #[r.v a c] w (OpenPost r a c w) := by
  unfold Rules.v
  go_enter Try.func55, Try.ntmps55
  go_wp2
  have hbox : (w.alloc (Obj.cells #[I r.limit, I r.err, I r.tlo, I r.thi, I r.turns, .slice a r.ws.length c] 26 (0, 0))).heap[w.heap.size]? = some (Obj.cells #[I r.limit, I r.err, I r.tlo, I r.thi, I r.turns, .slice a r.ws.length c] 26 (0, 0)) := World.alloc_heap_new w (Obj.cells #[I r.limit, I r.err, I r.tlo, I r.thi, I r.turns, .slice a r.ws.length c] 26 (0, 0))
  refine region_inv (by kernel_rfl) (fun L ac w' => ∃ v2 v3 v4 v5 v6 v7 v8 v9 : Value, ac = { tmps := #[(Value.agg #[I r.limit, I r.err, I r.tlo, I r.thi, I r.turns, .slice a r.ws.length c]), .pointer (some ⟨w.heap.size, 0, none⟩), v2, v3, v4, v5, v6, v7, v8, v9], defers := [] } ∧ Below w.heap.size w w' ∧ w'.heap[w.heap.size]? = some (Obj.cells #[I r.limit, I r.err, I r.tlo, I r.thi, I r.turns, .slice a r.ws.length c] 26 (0, 0)) ∧
    (L 0 → v4 = (Value.agg #[I r.limit, I r.err, I r.tlo, I r.thi, I r.turns, .slice a r.ws.length c])) ∧ (L 1 → ∃ tm, v5 = .map (some tm) ∧ w.heap.size ≤ tm ∧ w'.heap[tm]? = some (Obj.map #[] 0)) ∧
    (L 2 → ∃ tm, v6 = .agg #[I r.limit, I r.err, I r.tlo, I r.thi, I r.turns, .slice a r.ws.length c, .map (some tm)] ∧ w.heap.size ≤ tm ∧ w'.heap[tm]? = some (Obj.map #[] 0)) ∧
    (L 3 → ∃ sb tm, v7 = .pointer (some ⟨sb, 0, none⟩) ∧ Opened r a c w.heap.size sb tm w') ∧ (L 4 → v8 = (Value.agg #[I r.limit, I r.err, I r.tlo, I r.thi, I r.turns, .slice a r.ws.length c])) ∧ (L 5 → v9 = I (check r)) ∧
    (L 6 → ∃ sb tm, v2 = .pointer (some ⟨sb, 0, none⟩) ∧ Opened r a c w.heap.size sb tm w') ∧ (L 7 → v3 = I (check r))) ?_ ?_ ?_
  · exact ⟨_, _, _, _, _, _, _, _, rfl, ((Below.refl _ w).alloc (Nat.le_refl _) _).drew, hbox, fun h => h.elim, fun h => h.elim, fun h => h.elim, fun h => h.elim, fun h => h.elim, fun h => h.elim, fun h => h.elim, fun h => h.elim⟩
  · rintro L ac W i o ⟨v2, v3, v4, v5, v6, v7, v8, v9, rfl, hb, hx, h0, h1, h2, h3, h4, h5, h6, h7⟩ ho hn he
    match i, ho with
    | 0, ho =>
      simp at ho; subst ho
      simp only [Region.wanted, if_true]
      unfold Oper.wp
      rw [exec_load rfl rfl (load_obj (vs := [I r.limit, I r.err, I r.tlo, I r.thi, I r.turns, .slice a r.ws.length c]) hx (by kernel_rfl) (by kernel_rfl) (by kernel_rfl)), Oper.upon_value]
      refine ⟨v2, v3, (Value.agg #[I r.limit, I r.err, I r.tlo, I r.thi, I r.turns, .slice a r.ws.length c]), v5, v6, v7, v8, v9, rfl, hb, hx, fun h => ?_, fun h => ?_, fun h => ?_, fun h => ?_, fun h => ?_, fun h => ?_, fun h => ?_, fun h => ?_⟩
      · rfl
      · exact h1 (by simpa using h)
      · exact h2 (by simpa using h)
      · exact h3 (by simpa using h)
      · exact h4 (by simpa using h)
      · exact h5 (by simpa using h)
      · exact h6 (by simpa using h)
      · exact h7 (by simpa using h)
    | 1, ho =>
      simp at ho; subst ho
      simp only [Region.wanted, if_true]
      unfold Oper.wp
      simp only [execOp, Option.map_none, Sem.run_bind, run_mkmap, Result.andThen_ok, Sem.run_pure, Oper.upon_value]
      have hb' : Below W.heap.size W (W.alloc (.map #[] 0)) := (Below.refl _ _).alloc (Nat.le_refl _) _
      refine ⟨v2, v3, v4, .map (some W.heap.size), v6, v7, v8, v9, rfl, hb.alloc hb.size _, heap_alloc_old hx, fun h => ?_, fun h => ?_, fun h => ?_, fun h => ?_, fun h => ?_, fun h => ?_, fun h => ?_, fun h => ?_⟩
      · exact h0 (by simpa using h)
      · exact ⟨_, rfl, hb.size, World.alloc_heap_new _ _⟩
      · obtain ⟨tm, e1, e2, e3⟩ := h2 (by simpa using h); exact ⟨tm, e1, e2, heap_alloc_old e3⟩
      · obtain ⟨sb, tm, e1, e2⟩ := h3 (by simpa using h); exact ⟨sb, tm, e1, e2.keep hb'⟩
      · exact h4 (by simpa using h)
      · exact h5 (by simpa using h)
      · obtain ⟨sb, tm, e1, e2⟩ := h6 (by simpa using h); exact ⟨sb, tm, e1, e2.keep hb'⟩
      · exact h7 (by simpa using h)
    | 2, ho =>
      simp at ho; subst ho
      simp only [Region.wanted, if_true]
      have l0 : L 0 := he { on := 0, ground := .data } (by simp) rfl
      have l1 : L 1 := he { on := 1, ground := .data } (by simp) rfl
      have e0 := h0 l0
      have hh := h1 l1
      obtain ⟨tm, e1, e2, e3⟩ := hh
      unfold Oper.wp
      rw [exec_build_shop (x0 := I r.limit) (x1 := I r.err) (x2 := I r.tlo) (x3 := I r.thi) (x4 := I r.turns) (x5 := .slice a r.ws.length c) (tm := tm) e0 e1, Oper.upon_value]
      refine ⟨v2, v3, v4, v5, _, v7, v8, v9, rfl, hb, hx, fun h => ?_, fun h => ?_, fun h => ?_, fun h => ?_, fun h => ?_, fun h => ?_, fun h => ?_, fun h => ?_⟩
      · exact e0
      · exact ⟨tm, e1, e2, e3⟩
      · exact ⟨tm, rfl, e2, e3⟩
      · exact h3 (by simpa using h)
      · exact h4 (by simpa using h)
      · exact h5 (by simpa using h)
      · exact h6 (by simpa using h)
      · exact h7 (by simpa using h)
    | 3, ho =>
      simp at ho; subst ho
      simp only [Region.wanted, if_true]
      have l2 : L 2 := he { on := 2, ground := .data } (by simp) rfl
      obtain ⟨tm, e1, e2, e3⟩ := h2 l2
      unfold Oper.wp
      rw [exec_box e1, Oper.upon_value]
      have hb2 : Below W.heap.size W (W.alloc (.cells #[I r.limit, I r.err, I r.tlo, I r.thi, I r.turns, .slice a r.ws.length c, .map (some tm)] 141 (0, 0))) := (Below.refl _ _).alloc (Nat.le_refl _) _
      refine ⟨v2, v3, v4, v5, v6, _, v8, v9, rfl, hb.trans (hb2.mono hb.size), heap_keep hb2 hx, fun h => ?_, fun h => ?_, fun h => ?_, fun h => ?_, fun h => ?_, fun h => ?_, fun h => ?_, fun h => ?_⟩
      · exact h0 (by simpa using h)
      · obtain ⟨tm, e1, e2, e3⟩ := h1 (by simpa using h); exact ⟨tm, e1, e2, heap_keep hb2 e3⟩
      · exact ⟨tm, e1, e2, heap_keep hb2 e3⟩
      · exact ⟨_, tm, rfl, ⟨hb.size, e2, World.alloc_heap_new _ _, heap_keep hb2 e3⟩⟩
      · exact h4 (by simpa using h)
      · exact h5 (by simpa using h)
      · obtain ⟨sb, tm, e1, e2⟩ := h6 (by simpa using h); exact ⟨sb, tm, e1, e2.keep hb2⟩
      · exact h7 (by simpa using h)
    | 4, ho =>
      simp at ho; subst ho
      simp only [Region.wanted, if_true]
      unfold Oper.wp
      rw [exec_load rfl rfl (load_obj (vs := [I r.limit, I r.err, I r.tlo, I r.thi, I r.turns, .slice a r.ws.length c]) hx (by kernel_rfl) (by kernel_rfl) (by kernel_rfl)), Oper.upon_value]
      refine ⟨v2, v3, v4, v5, v6, v7, (Value.agg #[I r.limit, I r.err, I r.tlo, I r.thi, I r.turns, .slice a r.ws.length c]), v9, rfl, hb, hx, fun h => ?_, fun h => ?_, fun h => ?_, fun h => ?_, fun h => ?_, fun h => ?_, fun h => ?_, fun h => ?_⟩
      · exact h0 (by simpa using h)
      · exact h1 (by simpa using h)
      · exact h2 (by simpa using h)
      · exact h3 (by simpa using h)
      · rfl
      · exact h5 (by simpa using h)
      · exact h6 (by simpa using h)
      · exact h7 (by simpa using h)
    | 5, ho =>
      simp at ho; subst ho
      simp only [Region.wanted, if_true]
      have l4 : L 4 := he { on := 4, ground := .data } (by simp) rfl
      have e4 := h4 l4
      unfold Oper.wp
      rw [exec_call (vs := [_]) (by exact congrArg (fun v => [v]) e4) rfl (by kernel_rfl), Oper.upon_enter]
      refine Pure.calls (check_any r (a := a) (c := c) (hc.keep hb)) fun W2 hb2 => ?_
      refine ⟨v2, v3, v4, v5, v6, v7, v8, _, rfl, hb.trans (hb2.mono hb.size), heap_keep hb2 hx, fun h => ?_, fun h => ?_, fun h => ?_, fun h => ?_, fun h => ?_, fun h => ?_, fun h => ?_, fun h => ?_⟩
      · exact h0 (by simpa using h)
      · obtain ⟨tm, e1, e2, e3⟩ := h1 (by simpa using h); exact ⟨tm, e1, e2, heap_keep hb2 e3⟩
      · obtain ⟨tm, e1, e2, e3⟩ := h2 (by simpa using h); exact ⟨tm, e1, e2, heap_keep hb2 e3⟩
      · obtain ⟨sb, tm, e1, e2⟩ := h3 (by simpa using h); exact ⟨sb, tm, e1, e2.keep hb2⟩
      · exact e4
      · rfl
      · obtain ⟨sb, tm, e1, e2⟩ := h6 (by simpa using h); exact ⟨sb, tm, e1, e2.keep hb2⟩
      · exact h7 (by simpa using h)
    | 6, ho =>
      simp at ho; subst ho
      simp only [Region.wanted, if_true]
      unfold Oper.wp
      rw [exec_assign, Oper.upon_value]
      refine ⟨v7, v3, v4, v5, v6, v7, v8, v9, rfl, hb, hx, fun h => ?_, fun h => ?_, fun h => ?_, fun h => ?_, fun h => ?_, fun h => ?_, fun h => ?_, fun h => ?_⟩
      · exact h0 (by simpa using h)
      · exact h1 (by simpa using h)
      · exact h2 (by simpa using h)
      · exact h3 (by simpa using h)
      · exact h4 (by simpa using h)
      · exact h5 (by simpa using h)
      · exact h3 (he { on := 3, ground := .data } (by simp) rfl)
      · exact h7 (by simpa using h)
    | 7, ho =>
      simp at ho; subst ho
      simp only [Region.wanted, if_true]
      unfold Oper.wp
      rw [exec_assign, Oper.upon_value]
      refine ⟨v2, v9, v4, v5, v6, v7, v8, v9, rfl, hb, hx, fun h => ?_, fun h => ?_, fun h => ?_, fun h => ?_, fun h => ?_, fun h => ?_, fun h => ?_, fun h => ?_⟩
      · exact h0 (by simpa using h)
      · exact h1 (by simpa using h)
      · exact h2 (by simpa using h)
      · exact h3 (by simpa using h)
      · exact h4 (by simpa using h)
      · exact h5 (by simpa using h)
      · exact h6 (by simpa using h)
      · exact h5 (he { on := 5, ground := .data } (by simp) rfl)
    | n + 8, ho => simp at ho
  · rintro L ac W ⟨v2, v3, v4, v5, v6, v7, v8, v9, rfl, hb, hx, h0, h1, h2, h3, h4, h5, h6, h7⟩ hn
    have l0 : L 0 := Classical.byContradiction fun h => hn 0 _ rfl h (by simp)
    have l1 : L 1 := Classical.byContradiction fun h => hn 1 _ rfl h (by simp)
    have l2 : L 2 := Classical.byContradiction fun h => hn 2 _ rfl h (by simp [l0, l1])
    have l3 : L 3 := Classical.byContradiction fun h => hn 3 _ rfl h (by simp [l2])
    have l4 : L 4 := Classical.byContradiction fun h => hn 4 _ rfl h (by simp)
    have l5 : L 5 := Classical.byContradiction fun h => hn 5 _ rfl h (by simp [l4])
    have l6 : L 6 := Classical.byContradiction fun h => hn 6 _ rfl h (by simp [l0, l1, l2, l3, l4, l5])
    have l7 : L 7 := Classical.byContradiction fun h => hn 7 _ rfl h (by simp [l0, l1, l2, l3, l4, l5, l6])
    obtain ⟨sb, tm, rfl, ho⟩ := h6 l6
    obtain rfl := h7 l7
    refine ‹∀ (a : Act) (w : World), _ → _› _ _ ?_
    go_wp2
    go_ret2
    exact ⟨sb, tm, rfl, hb, ho⟩
end Go.Proofs.R07
end
section
/- Sets of weights; states. -/
namespace Go.Proofs.R07
open Go.Vc Go.RowKit Go.Proofs

theorem eq_level (a b c d : Int) (w : World) : (Op.equal 103 (.agg #[I a, I b]) (.agg #[I c, I d])).run Try.prog w = .ok (decide ((a, b) = (c, d))) w := by
  have hS : Try.prog.underlying 103 = some (.struct (Try.prog.fieldsOf 103)) := by kernel_rfl
  show (Op.equalIn (9999 + 1) 103 _ _).run _ _ = _
  have hp : Try.prog.stoodInHeld 103 = false := by kernel_rfl
  rw [run_equalIn_agg w 9999 103 _ _ hS hp]
  simp only [Program.fieldsOf, Try.underlying103]
  have p1 : ∀ (x y : Int), (part 3 #[I x, I y] 0).run Try.prog w = .ok (I x) w := fun _ _ => by kernel_rfl
  have p2 : ∀ (x y : Int), (part 90 #[I x, I y] 1).run Try.prog w = .ok (I y) w := fun _ _ => by kernel_rfl
  have u3 : Try.prog.underlying 3 = some (.int .i64) := by kernel_rfl
  have u90 : Try.prog.underlying 90 = some (.int .i64) := by kernel_rfl
  have q1 : ∀ x y : Int, (Op.equalIn 9999 3 (I x) (I y)).run Try.prog w = .ok (x == y) w := fun x y => run_equalIn_int w 9998 3 _ _ _ _ u3
  have q2 : ∀ x y : Int, (Op.equalIn 9999 90 (I x) (I y)).run Try.prog w = .ok (x == y) w := fun x y => run_equalIn_int w 9998 90 _ _ _ _ u90
  by_cases h1 : a = c <;> by_cases h2 : b = d <;> simp [Op.eqFields, p1, p2, q1, q2, h1, h2, Sem.run_bind, Sem.run_pure]

def encL (k : Int × Int) : Value := .agg #[I k.1, I k.2]
theorem keyL : KeyLaw Try.prog 103 encL where
  st := ⟨Try.prog.fieldsOf 103, by kernel_rfl⟩
  chk := fun b k w => by
    cases b <;> kernel_rfl
  eq := fun k k' w => eq_level _ _ _ _ w

/- A set: a number below 8. -/
def has (s i : Nat) : Bool := s.testBit i
def put (s i : Nat) : Nat := s ||| 2 ^ i
def bitA (s i : Int) : Bool := IntKind.i64.wrap (↑(BitVec.ofInt IntKind.i64.bits (s.fdiv (2 ^ min i.toNat IntKind.i64.bits)) &&& BitVec.ofInt IntKind.i64.bits 1).toNat : Int) == 1
def orA (s i : Int) : Int := IntKind.i64.wrap (↑(BitVec.ofInt IntKind.i64.bits s ||| BitVec.ofInt IntKind.i64.bits (IntKind.i64.wrap (1 * 2 ^ min i.toNat IntKind.i64.bits))).toNat : Int)
theorem bit_all : ∀ s : Fin 8, ∀ i : Fin 3, bitA (s.val : Int) (i.val : Int) = has s.val i.val := by decide +kernel
theorem or_all : ∀ s : Fin 8, ∀ i : Fin 3, orA (s.val : Int) (i.val : Int) = (put s.val i.val : Nat) ∧ put s.val i.val < 8 := by decide +kernel

theorem has_any {s i : Nat} (hs : s < 8) (hi : i < 3) (w : World) : Calls Try.prog 48 #[I s, I i] w (Pure w (.bool (has s i))) := by
  refine vc48 _ _ w _ ⟨by omega, fun w1 hb _ => ⟨?_, hb⟩⟩
  have := bit_all ⟨s, hs⟩ ⟨i, hi⟩
  rw [← this]; rfl
theorem put_any {s i : Nat} (hs : s < 8) (hi : i < 3) (w : World) : Calls Try.prog 66 #[I s, I i] w (Pure w (I (put s i : Nat))) := by
  refine vc66 _ _ w _ ⟨by omega, fun w1 hb _ => ⟨?_, hb⟩⟩
  have := (or_all ⟨s, hs⟩ ⟨i, hi⟩).1
  rw [← this]; rfl
theorem put_lt {s i : Nat} (hs : s < 8) (hi : i < 3) : put s i < 8 := (or_all ⟨s, hs⟩ ⟨i, hi⟩).2

def bools (l : List Bool) : List Value := l.map Value.bool
theorem bools_get {l : List Bool} {i : Nat} {x : Bool} (h : l[i]? = some x) : (bools l)[i]? = some (.bool x) := by simp [bools, h]

/-- The set of the first n that are true. -/
def setTo (l : List Bool) : Nat → Nat
  | 0 => 0
  | n + 1 => if l[n]? = some true then put (setTo l n) n else setTo l n
def setOf (l : List Bool) : Nat := setTo l l.length
theorem setTo_lt {l : List Bool} : ∀ {n : Nat}, n ≤ 3 → setTo l n < 8
  | 0, _ => by simp [setTo]
  | n + 1, h => by
    simp only [setTo]
    split
    · exact put_lt (setTo_lt (by omega)) (by omega)
    · exact setTo_lt (by omega)
theorem setOf_lt {l : List Bool} (h : l.length ≤ 3) : setOf l < 8 := setTo_lt h

theorem newSet_any {l : List Bool} {a : Option Addr} {c : Nat} {w : World} (hc : Cells w a (bools l)) (hl : l.length ≤ 3) : Calls Try.prog 47 #[.slice a l.length c] w (Pure w (I (setOf l : Nat))) := by
  refine vc47 _ _ _ w _ ⟨fun ls _ => match ls with | [.int _ s, .int _ x] => 0 ≤ x ∧ x ≤ l.length ∧ s = (setTo l x.toNat : Nat) | _ => False, fun ls => match ls with | [.int _ _, .int _ x] => l.length - x.toNat | _ => 0, fun w1 hb _ => ⟨by omega, by omega, rfl⟩, ?_⟩
  rintro x1 x2 w2 hb2 ⟨h0, hn, rfl⟩
  refine ⟨fun hlt => ?_, fun hge w7 hb7 _ => ⟨?_, hb7⟩⟩
  · have hi : x2.toNat < l.length := by omega
    obtain ⟨b, o, rfl, hcell⟩ := hc x2.toNat _ (bools_get (getElem_of_lt hi))
    have hx : (x2 + 1).toNat = x2.toNat + 1 := by omega
    have hx2 : x2 = (x2.toNat : Int) := by omega
    refine ⟨b, o, rfl, ⟨h0, hlt⟩, l[x2.toNat], cell_keep hb2 (by rw [Nat.mul_one]; exact hcell), fun ht w3 hb3 _ => ?_, fun ht => ⟨by omega, fun w6 hb6 _ => ⟨⟨by omega, by omega, ?_⟩, ?_⟩⟩⟩
    · have := put_any (s := setTo l x2.toNat) (i := x2.toNat) (setTo_lt (by omega)) (by omega) w3
      rw [← hx2] at this
      refine Pure.calls this fun w4 hb4 => ⟨_, rfl, .all hb4, by omega, fun w5 hb5 _ => ⟨⟨by omega, by omega, ?_⟩, ?_⟩⟩
      · rw [hx, setTo, if_pos (by rw [getElem_of_lt hi, ht])]
      · show l.length - (x2 + 1).toNat < l.length - x2.toNat
        omega
    · rw [hx, setTo, if_neg (by rw [getElem_of_lt hi, ht]; simp)]
    · show l.length - (x2 + 1).toNat < l.length - x2.toNat
      omega
  · have : x2.toNat = l.length := by omega
    rw [this]; rfl

/- The shop in memory. -/
def ShopAt (r : Rules) (a : Option Addr) (c sb tm : Nat) (w : World) : Prop := w.heap[sb]? = some (Obj.cells #[I r.limit, I r.err, I r.tlo, I r.thi, I r.turns, .slice a r.ws.length c, .map (some tm)] 141 (0, 0))
theorem ShopAt.cell {r : Rules} {a : Option Addr} {c sb tm : Nat} {w : World} (h : ShopAt r a c sb tm w) {i : Nat} {v : Value} (hv : [I r.limit, I r.err, I r.tlo, I r.thi, I r.turns, .slice a r.ws.length c, .map (some tm)][i]? = some v) : w.cell? ⟨sb, 0 + i, none⟩ = some v := by
  rw [Nat.zero_add]; exact cell_obj (vs := [I r.limit, I r.err, I r.tlo, I r.thi, I r.turns, .slice a r.ws.length c, .map (some tm)]) h hv
theorem ShopAt.keep {r : Rules} {a : Option Addr} {c sb tm : Nat} {w w' : World} (h : ShopAt r a c sb tm w) (hb : Below w.heap.size w w') : ShopAt r a c sb tm w' := heap_keep hb h
theorem ShopAt.lt {r : Rules} {a : Option Addr} {c sb tm : Nat} {w : World} (h : ShopAt r a c sb tm w) : sb < w.heap.size := lt_of_some h

structure St where
  lo : Int
  hi : Int
  used : List Bool
def St.v (s : St) (a : Option Addr) (c : Nat) : Value := .agg #[I s.lo, I s.hi, .slice a s.used.length c]
def okSt (r : Rules) (s : St) : Bool := isSpan (s.lo, s.hi) (-300) 300 && s.used.length == r.ws.length

theorem isState_any {r : Rules} {a : Option Addr} {c sb tm : Nat} {w : World} (h : ShopAt r a c sb tm w) (s : St) (b : Option Addr) (d : Nat) : Calls Try.prog 56 #[.pointer (some ⟨sb, 0, none⟩), s.v b d] w (Pure w (.bool (okSt r s))) := by
  refine vc56 _ _ _ _ _ _ _ w _ fun m1 h1 w1 hb1 _ => ?_
  refine Pure.calls (isSpan_any (s.lo, s.hi) _ _ w1) fun w2 hb2 => ⟨_, rfl, .all hb2, fun ht => ⟨_, _, _, ((h.keep hb1).keep hb2).cell (i := 5) rfl, .inl h.lt, fun w3 hb3 _ => ⟨?_, hb3⟩⟩, fun ht w4 hb4 _ => ⟨?_, hb4⟩⟩
  · congr 2
    rw [okSt, ht, Bool.true_and, Bool.eq_iff_iff]
    simp
    omega
  · rw [okSt, ht]; rfl

def startErr (r : Rules) (s : St) : Int := if check r = 0 then (if okSt r s then 0 else 2) else check r

def StartPost (r : Rules) (s : St) (a : Option Addr) (c : Nat) (w : World) (e : Ending) (w' : World) : Prop :=
  ∃ sb tm, e = .returned (.tuple #[.pointer (some ⟨sb, 0, none⟩), I (startErr r s)]) ∧ Below w.heap.size w w' ∧ w.heap.size ≤ sb ∧ w.heap.size ≤ tm ∧ ShopAt r a c sb tm w' ∧ w'.heap[tm]? = some (.map #[] 0)

theorem start_any (r : Rules) (s : St) {a b : Option Addr} {c d : Nat} {w : World} (hc : Cells w a (spans r.ws)) : Calls Try.prog 45 #[r.v a c, s.v b d] w (StartPost r s a c w) := by
  refine vc45 _ _ _ _ _ _ _ _ _ _ _ _ _ w _ fun m1 h1 m2 h2 w1 hb1 hk1 => ?_
  refine (open_any r (c := c) (hc.keep hb1)).mono fun e w2 he => ?_
  obtain ⟨sb, tm, rfl, hb2, ho⟩ := he
  have hs1 := hb1.size
  have o1 := hk1.own m1 (by simp)
  have o2 := hk1.own m2 (by simp)
  have g1 := ho.hsb
  have g2 := ho.htm
  have kp : ∀ {w'}, Kept [m2, m1] w2 w' → ShopAt r a c sb tm w' ∧ w'.heap[tm]? = some (.map #[] 0) := fun {w'} hk =>
    ⟨(hk.block sb (lt_of_some ho.shop) (by simp; omega)).trans ho.shop, (hk.block tm (lt_of_some ho.map) (by simp; omega)).trans ho.map⟩
  have fin : ∀ {w'}, Below w.heap.size w w' → ShopAt r a c sb tm w' → w'.heap[tm]? = some (.map #[] 0) → ∀ n, n = startErr r s → StartPost r s a c w (.returned (.tuple #[.pointer (some ⟨sb, 0, none⟩), I n])) w' := fun {w'} hb q1 q2 n hn =>
    ⟨sb, tm, by rw [hn], hb, Nat.le_trans hs1 g1, Nat.le_trans hs1 g2, q1, q2⟩
  refine ⟨_, _, rfl, .all hb2, fun h0 w3 hb3 hk3 => ?_, fun h0 w7 hb7 hk7 => ?_⟩
  · obtain ⟨q1, q2⟩ := kp hk3
    have nx : ∀ {w4 w'}, Below w3.heap.size w3 w4 → Kept [m2, m1] w4 w' → ShopAt r a c sb tm w' ∧ w'.heap[tm]? = some (.map #[] 0) := fun {w4 w'} hb hk =>
      ⟨(hk.block sb (Nat.lt_of_lt_of_le (lt_of_some q1) hb.size) (by simp; omega)).trans (q1.keep hb), (hk.block tm (Nat.lt_of_lt_of_le (lt_of_some q2) hb.size) (by simp; omega)).trans (heap_keep hb q2)⟩
    refine Pure.calls (isState_any q1 s b d) fun w4 hb4 => ⟨_, rfl, .all hb4, fun ht w5 hb5 hk5 => ?_, fun ht w6 hb6 hk6 => ?_⟩
    · obtain ⟨r1, r2⟩ := nx hb4 hk5
      exact fin hb5 r1 r2 _ (by unfold startErr; rw [if_pos h0, if_neg (by simpa using ht)])
    · obtain ⟨r1, r2⟩ := nx hb4 hk6
      exact fin hb6 r1 r2 _ (by unfold startErr; rw [if_pos h0, if_pos (by simpa using ht), h0])
  · obtain ⟨q1, q2⟩ := kp hk7
    exact fin hb7 q1 q2 _ (by unfold startErr; rw [if_neg h0])
end Go.Proofs.R07
end
section
/- The conditions of the functions, printed by program; each is what the generator reckons (kernel_rfl). -/
namespace Go.Proofs
open Go.Vc
set_option maxRecDepth 100000 in
set_option maxHeartbeats 2000000 in
theorem vc65 (sb : Nat) (so : Nat) (a0 : Int) (a1 : Int) (used : Int) (w : World) (R : Ending → World → Prop) (h : ∀ (m1 : Nat), w.heap.size ≤ m1 → ∀ (m2 : Nat), w.heap.size ≤ m2 →
    (a1 ≠ -1 → ∃ (a1_1 : Option Addr), ∃ (m3 : Nat), ∃ (m4 : Nat), w.cell? { block := sb, off := so + 0 + 5 } = some (Value.slice a1_1 m3 m4) ∧ (sb < w.heap.size ∨ sb ≠ m2 ∧ sb ≠
    m1) ∧ (-9223372036854775808 ≤ (↑m3 : Int) - 1 ∧ (↑m3 : Int) - 1 ≤ 9223372036854775807) ∧ ∀ (m5 : Nat), w.heap.size ≤ m5 → ∀ (w1 : World), RowKit.Below w.heap.size w w1 → KeptIn
    [(0, w.heap.size)] [m5, m2, m1] w w1 → w1.heap[m5]? = some (Obj.cells #[Value.int IntKind.i64 a1] 3) → Calls Try.prog 41 #[Value.int IntKind.i64 0, Value.int IntKind.i64 ((↑m3
    : Int) - 1), Value.slice (some { block := m5, off := 0 }) 1 1] w1 fun (e1 : Ending) (w2 : World) => ∃ (t1 : Bool), e1 = Ending.returned (Value.bool t1) ∧ KeepX true w.heap.size
    [m5, m2, m1] (fun _ => False) w1 w2 ∧ ((!t1) = true → ∀ (w3 : World), RowKit.Below w.heap.size w w3 → Kept [m5, m2, m1] w2 w3 → R (Ending.returned (Value.tuple #[Value.agg
    #[Value.int IntKind.i64 0, Value.int IntKind.i64 0], Value.bool false])) w3) ∧ ((!t1) = false → ∀ (w4 : World), RowKit.Below w.heap.size w w4 → KeptIn [(0, w2.heap.size)] [m5,
    m2, m1] w2 w4 → Calls Try.prog 48 #[Value.int IntKind.i64 used, Value.int IntKind.i64 a1] w4 fun (e2 : Ending) (w5 : World) => ∃ (t2 : Bool), e2 = Ending.returned (Value.bool
    t2) ∧ KeepX true w.heap.size [m5, m2, m1] (fun _ => False) w4 w5 ∧ (t2 = true → ∀ (w6 : World), RowKit.Below w.heap.size w w6 → Kept [m5, m2, m1] w5 w6 → R (Ending.returned
    (Value.tuple #[Value.agg #[Value.int IntKind.i64 0, Value.int IntKind.i64 0], Value.bool false])) w6) ∧ (t2 = false → (a0 ≠ 0 → ∀ (w7 : World), RowKit.Below w.heap.size w w7 →
    Kept [m5, m2, m1] w5 w7 → R (Ending.returned (Value.tuple #[Value.agg #[Value.int IntKind.i64 0, Value.int IntKind.i64 0], Value.bool false])) w7) ∧ (a0 = 0 → ∃ (a2 : Option
    Addr), ∃ (m6 : Nat), ∃ (m7 : Nat), w5.cell? { block := sb, off := so + 0 + 5 } = some (Value.slice a2 m6 m7) ∧ (sb < w.heap.size ∨ sb ≠ m5 ∧ sb ≠ m2 ∧ sb ≠ m1) ∧ ∃ (m8 : Nat),
    ∃ (m9 : Nat), a2 = some { block := m8, off := m9 } ∧ (0 ≤ a1 ∧ a1 < (↑m6 : Int)) ∧ ∃ (x1 : Int), ∃ (x2 : Int), w5.cell? { block := m8, off := m9 + a1.toNat * 2 } = some
    (Value.int IntKind.i64 x1) ∧ w5.cell? { block := m8, off := m9 + a1.toNat * 2 + 1 } = some (Value.int IntKind.i64 x2) ∧ (m8 < w.heap.size ∨ m8 ≠ m5 ∧ m8 ≠ m2 ∧ m8 ≠ m1) ∧ ∀ (w8
    : World), RowKit.Below w.heap.size w w8 → Kept [m5, m2, m1] w5 w8 → R (Ending.returned (Value.tuple #[Value.agg #[Value.int IntKind.i64 x1, Value.int IntKind.i64 x2],
    Value.bool true])) w8)))) ∧ (a1 = -1 → ∃ (x3 : Int), w.cell? { block := sb, off := so + 0 + 2 + 0 } = some (Value.int IntKind.i64 x3) ∧ (sb < w.heap.size ∨ sb ≠ m2 ∧ sb ≠ m1) ∧
    ∃ (x4 : Int), w.cell? { block := sb, off := so + 0 + 2 + 1 } = some (Value.int IntKind.i64 x4) ∧ (sb < w.heap.size ∨ sb ≠ m2 ∧ sb ≠ m1) ∧ ∀ (m10 : Nat), w.heap.size ≤ m10 → ∀
    (w9 : World), RowKit.Below w.heap.size w w9 → KeptIn [(0, w.heap.size)] [m10, m2, m1] w w9 → w9.heap[m10]? = some (Obj.cells #[Value.int IntKind.i64 (IntKind.i64.wrap (a0 *
    x3)), Value.int IntKind.i64 (IntKind.i64.wrap (a0 * x4))] 149) → Calls Try.prog 77 #[Value.slice (some { block := m10, off := 0 }) 2 2] w9 fun (e3 : Ending) (w10 : World) => ∃
    (x5 : Int), e3 = Ending.returned (Value.int IntKind.i64 x5) ∧ RowKit.Below w9.heap.size w9 w10 ∧ ∀ (w11 : World), RowKit.Below w.heap.size w w11 → KeptIn [(0, w.heap.size),
    (w9.heap.size, w10.heap.size)] [m10, m2, m1] w10 w11 → w11.heap[m10]? = some (Obj.cells #[Value.int IntKind.i64 (IntKind.i64.wrap (a0 * x3)), Value.int IntKind.i64
    (IntKind.i64.wrap (a0 * x4))] 149) → Calls Try.prog 78 #[Value.slice (some { block := m10, off := 0 }) 2 2] w11 fun (e4 : Ending) (w12 : World) => ∃ (x6 : Int), e4 =
    Ending.returned (Value.int IntKind.i64 x6) ∧ RowKit.Below w11.heap.size w11 w12 ∧ ∃ (x7 : Int), w.cell? { block := sb, off := so + 0 + 4 } = some (Value.int IntKind.i64 x7) ∧
    (sb < w.heap.size ∨ sb ≠ m10 ∧ sb ≠ m2 ∧ sb ≠ m1) ∧ (-9223372036854775808 ≤ 0 - x7 ∧ 0 - x7 ≤ 9223372036854775807) ∧ ∃ (x8 : Int), w.cell? { block := sb, off := so + 0 + 4 } =
    some (Value.int IntKind.i64 x8) ∧ (sb < w.heap.size ∨ sb ≠ m10 ∧ sb ≠ m2 ∧ sb ≠ m1) ∧ ∀ (m11 : Nat), w.heap.size ≤ m11 → m11 < w11.heap.size ∨ w12.heap.size ≤ m11 → m11 <
    w9.heap.size ∨ w10.heap.size ≤ m11 → ∀ (w13 : World), RowKit.Below w.heap.size w w13 → KeptIn [(0, w.heap.size), (w11.heap.size, w12.heap.size), (w9.heap.size, w10.heap.size)]
    [m11, m10, m2, m1] w12 w13 → w13.heap[m11]? = some (Obj.cells #[Value.int IntKind.i64 a0] 3) → Calls Try.prog 41 #[Value.int IntKind.i64 (0 - x7), Value.int IntKind.i64 x8,
    Value.slice (some { block := m11, off := 0 }) 1 1] w13 fun (e5 : Ending) (w14 : World) => ∃ (t3 : Bool), e5 = Ending.returned (Value.bool t3) ∧ KeepX true w.heap.size [m11,
    m10, m2, m1] (fun _ => False) w13 w14 ∧ ∀ (w15 : World), RowKit.Below w.heap.size w w15 → Kept [m11, m10, m2, m1] w14 w15 → R (Ending.returned (Value.tuple #[Value.agg
    #[Value.int IntKind.i64 x5, Value.int IntKind.i64 x6], Value.bool t3])) w15)) : Calls Try.prog 65 #[Value.pointer (some { block := sb, off := so }), Value.agg #[Value.int
    IntKind.i64 a0, Value.int IntKind.i64 a1], Value.int IntKind.i64 used] w R := calls_of_vc (pure := true) (wrapAt := [53, 62]) (muts := []) (esc := []) (args := [SV.pv (PV.one
    (Lf.ptr sb so)), SV.pv (PV.agg [Lf.int IntKind.i64 a0, Lf.int IntKind.i64 a1]), SV.pv (PV.one (Lf.int IntKind.i64 used))]) (vs := [Value.pointer (some
    { block := sb, off := so }), Value.agg #[Value.int IntKind.i64 a0, Value.int IntKind.i64 a1], Value.int IntKind.i64 used]) Try.func65 rfl rfl rfl (Eq.mp (by kernel_rfl) h) 
set_option maxRecDepth 100000 in
set_option maxHeartbeats 2000000 in
theorem vc46 (sb : Nat) (so : Nat) (rate0 : Int) (rate1 : Int) (used : Int) (a0 : Int) (a1 : Int) (w : World) (R : Ending → World → Prop) (h : ∀ (m1 : Nat), w.heap.size ≤ m1 → ∀
    (m2 : Nat), w.heap.size ≤ m2 → ∀ (m3 : Nat), w.heap.size ≤ m3 → ∀ (w1 : World), RowKit.Below w.heap.size w w1 → Kept [m3, m2, m1] w w1 → Calls Try.prog 65 #[Value.pointer (some
    { block := sb, off := so }), Value.agg #[Value.int IntKind.i64 a0, Value.int IntKind.i64 a1], Value.int IntKind.i64 used] w1 fun (e1 : Ending) (w2 : World) => ∃ (x1 : Int), ∃
    (x2 : Int), ∃ (t1 : Bool), e1 = Ending.returned (Value.tuple #[Value.agg #[Value.int IntKind.i64 x1, Value.int IntKind.i64 x2], Value.bool t1]) ∧ KeepX true w.heap.size [m3,
    m2, m1] (fun _ => False) w1 w2 ∧ ∀ (m4 : Nat), w2.heap.size ≤ m4 → ((!t1) = true → ∀ (w3 : World), RowKit.Below w.heap.size w w3 → Kept [m4, m3, m2, m1] w2 w3 → R
    (Ending.returned (Value.tuple #[Value.agg #[Value.int IntKind.i64 0, Value.int IntKind.i64 0, Value.int IntKind.i64 0], Value.bool false])) w3) ∧ ((!t1) = false →
    (-9223372036854775808 ≤ rate0 + x1 ∧ rate0 + x1 ≤ 9223372036854775807) ∧ (-9223372036854775808 ≤ rate1 + x2 ∧ rate1 + x2 ≤ 9223372036854775807) ∧ (a1 ≠ -1 → ∀ (w4 : World),
    RowKit.Below w.heap.size w w4 → Kept [m4, m3, m2, m1] w2 w4 → Calls Try.prog 66 #[Value.int IntKind.i64 used, Value.int IntKind.i64 a1] w4 fun (e2 : Ending) (w5 : World) => ∃
    (x3 : Int), e2 = Ending.returned (Value.int IntKind.i64 x3) ∧ KeepX true w.heap.size [m4, m3, m2, m1] (fun _ => False) w4 w5 ∧ ∀ (w6 : World), RowKit.Below w.heap.size w w6 →
    KeptIn [(0, w5.heap.size)] [m4, m3, m2, m1] w5 w6 → Calls Try.prog 63 #[Value.agg #[Value.int IntKind.i64 (rate0 + x1), Value.int IntKind.i64 (rate1 + x2)], Value.int
    IntKind.i64 (-300), Value.int IntKind.i64 300] w6 fun (e3 : Ending) (w7 : World) => ∃ (t2 : Bool), e3 = Ending.returned (Value.bool t2) ∧ KeepX true w.heap.size [m4, m3, m2,
    m1] (fun _ => False) w6 w7 ∧ ∀ (w8 : World), RowKit.Below w.heap.size w w8 → Kept [m4, m3, m2, m1] w7 w8 → R (Ending.returned (Value.tuple #[Value.agg #[Value.int IntKind.i64
    (rate0 + x1), Value.int IntKind.i64 (rate1 + x2), Value.int IntKind.i64 x3], Value.bool t2])) w8) ∧ (a1 = -1 → ∀ (w9 : World), RowKit.Below w.heap.size w w9 → KeptIn [(0,
    w2.heap.size)] [m4, m3, m2, m1] w2 w9 → Calls Try.prog 63 #[Value.agg #[Value.int IntKind.i64 (rate0 + x1), Value.int IntKind.i64 (rate1 + x2)], Value.int IntKind.i64 (-300),
    Value.int IntKind.i64 300] w9 fun (e4 : Ending) (w10 : World) => ∃ (t3 : Bool), e4 = Ending.returned (Value.bool t3) ∧ KeepX true w.heap.size [m4, m3, m2, m1] (fun _ => False)
    w9 w10 ∧ ∀ (w11 : World), RowKit.Below w.heap.size w w11 → Kept [m4, m3, m2, m1] w10 w11 → R (Ending.returned (Value.tuple #[Value.agg #[Value.int IntKind.i64 (rate0 + x1),
    Value.int IntKind.i64 (rate1 + x2), Value.int IntKind.i64 used], Value.bool t3])) w11))) : Calls Try.prog 46 #[Value.pointer (some { block := sb, off := so }), Value.agg
    #[Value.int IntKind.i64 rate0, Value.int IntKind.i64 rate1], Value.int IntKind.i64 used, Value.agg #[Value.int IntKind.i64 a0, Value.int IntKind.i64 a1]] w R := calls_of_vc
    (pure := true) (wrapAt := []) (muts := []) (esc := []) (args := [SV.pv (PV.one (Lf.ptr sb so)), SV.pv (PV.agg [Lf.int IntKind.i64 rate0, Lf.int IntKind.i64 rate1]), SV.pv
    (PV.one (Lf.int IntKind.i64 used)), SV.pv (PV.agg [Lf.int IntKind.i64 a0, Lf.int IntKind.i64 a1])]) (vs := [Value.pointer (some { block := sb, off := so }), Value.agg
    #[Value.int IntKind.i64 rate0, Value.int IntKind.i64 rate1], Value.int IntKind.i64 used, Value.agg #[Value.int IntKind.i64 a0, Value.int IntKind.i64 a1]]) Try.func46 rfl rfl
    rfl (Eq.mp (by kernel_rfl) h) 
set_option maxRecDepth 100000 in
set_option maxHeartbeats 2000000 in
theorem vc80 (sb : Nat) (so : Nat) (tb : Nat) (to : Nat) (w : World) (R : Ending → World → Prop) (h : ∃ (F1 : List Lf → World → Prop), ∃ (F2 : List Lf → Nat), (∀ (w1 : World), Kept
    [] w w1 → F1 [Lf.int IntKind.i64 300] w1) ∧ ∀ (x1 : Int) (w2 : World), F1 [Lf.int IntKind.i64 x1] w2 → (-300 ≤ x1 → ∀ (w3 : World), Kept [] w2 w3 → Calls Try.prog 68
    #[Value.pointer (some { block := tb, off := to + 0 }), Value.int IntKind.i64 x1] w3 fun (e1 : Ending) (w4 : World) => ∃ (a1 : Option Addr), e1 = Ending.returned (Value.pointer
    a1) ∧ KeepX false w.heap.size [] (fun _ => False) w3 w4 ∧ ∃ (m1 : Nat), ∃ (m2 : Nat), a1 = some { block := m1, off := m2 } ∧ True ∧ ∃ (x2 : Int), w4.cell?
    { block := m1, off := m2 } = some (Value.int IntKind.i64 x2) ∧ ∀ (w5 : World), Kept [] w4 w5 → Calls Try.prog 73 #[Value.pointer (some { block := sb, off := so })] w5 fun (e2 :
    Ending) (w6 : World) => ∃ (x3 : Int), e2 = Ending.returned (Value.int IntKind.i64 x3) ∧ KeepX false w.heap.size [] (fun _ => False) w5 w6 ∧ (-9223372036854775808 ≤ x1 + x3 ∧ x1
    + x3 ≤ 9223372036854775807) ∧ (x1 + x3 ≤ x2 → (x1 < 300 → (-9223372036854775808 ≤ x1 + 1 ∧ x1 + 1 ≤ 9223372036854775807) ∧ ∀ (w7 : World), Kept [] w6 w7 → Calls Try.prog 68
    #[Value.pointer (some { block := tb, off := to + 601 }), Value.int IntKind.i64 (x1 + 1)] w7 fun (e3 : Ending) (w8 : World) => ∃ (a2 : Option Addr), e3 = Ending.returned
    (Value.pointer a2) ∧ KeepX false w.heap.size [] (fun _ => False) w7 w8 ∧ ∃ (m3 : Nat), ∃ (m4 : Nat), a2 = some { block := m3, off := m4 } ∧ True ∧ ∃ (x4 : Int), w8.cell?
    { block := m3, off := m4 } = some (Value.int IntKind.i64 x4) ∧ ∀ (w9 : World), Kept [] w8 w9 → Calls Try.prog 68 #[Value.pointer (some { block := tb, off := to + 601 }),
    Value.int IntKind.i64 x1] w9 fun (e4 : Ending) (w10 : World) => ∃ (a3 : Option Addr), e4 = Ending.returned (Value.pointer a3) ∧ KeepX false w.heap.size [] (fun _ => False) w9
    w10 ∧ ∃ (m5 : Nat), ∃ (m6 : Nat), a3 = some { block := m5, off := m6 } ∧ True ∧ ∀ (w11 : World), Kept [] w10 w11 → RunsTo Try.prog ((Instr.storeAt 3 (Value.pointer (some
    { block := m5, off := m6 })) (Value.int IntKind.i64 (max (x1 + x3) x4))) >>= fun _ => pure (Value.tuple #[])) w11 fun (v1 : Value) (w12 : World) => KeepX false w.heap.size []
    (fun _ => False) w11 w12 ∧ (-9223372036854775808 ≤ x1 - 1 ∧ x1 - 1 ≤ 9223372036854775807) ∧ ∀ (w13 : World), Kept [] w12 w13 → F1 [Lf.int IntKind.i64 (x1 - 1)] w13 ∧ F2 [Lf.int
    IntKind.i64 (x1 - 1)] < F2 [Lf.int IntKind.i64 x1]) ∧ (300 ≤ x1 → ∀ (w14 : World), Kept [] w6 w14 → Calls Try.prog 68 #[Value.pointer (some { block := tb, off := to + 601 }),
    Value.int IntKind.i64 x1] w14 fun (e5 : Ending) (w15 : World) => ∃ (a4 : Option Addr), e5 = Ending.returned (Value.pointer a4) ∧ KeepX false w.heap.size [] (fun _ => False) w14
    w15 ∧ ∃ (m7 : Nat), ∃ (m8 : Nat), a4 = some { block := m7, off := m8 } ∧ True ∧ ∀ (w16 : World), Kept [] w15 w16 → RunsTo Try.prog ((Instr.storeAt 3 (Value.pointer (some
    { block := m7, off := m8 })) (Value.int IntKind.i64 (x1 + x3))) >>= fun _ => pure (Value.tuple #[])) w16 fun (v2 : Value) (w17 : World) => KeepX false w.heap.size [] (fun _ =>
    False) w16 w17 ∧ (-9223372036854775808 ≤ x1 - 1 ∧ x1 - 1 ≤ 9223372036854775807) ∧ ∀ (w18 : World), Kept [] w17 w18 → F1 [Lf.int IntKind.i64 (x1 - 1)] w18 ∧ F2 [Lf.int
    IntKind.i64 (x1 - 1)] < F2 [Lf.int IntKind.i64 x1])) ∧ (x2 < x1 + x3 → ∀ (w19 : World), Kept [] w6 w19 → Calls Try.prog 68 #[Value.pointer (some
    { block := tb, off := to + 601 }), Value.int IntKind.i64 x1] w19 fun (e6 : Ending) (w20 : World) => ∃ (a5 : Option Addr), e6 = Ending.returned (Value.pointer a5) ∧ KeepX false
    w.heap.size [] (fun _ => False) w19 w20 ∧ ∃ (m9 : Nat), ∃ (m10 : Nat), a5 = some { block := m9, off := m10 } ∧ True ∧ ∀ (w21 : World), Kept [] w20 w21 → RunsTo Try.prog
    ((Instr.storeAt 3 (Value.pointer (some { block := m9, off := m10 })) (Value.int IntKind.i64 x2)) >>= fun _ => pure (Value.tuple #[])) w21 fun (v3 : Value) (w22 : World) =>
    KeepX false w.heap.size [] (fun _ => False) w21 w22 ∧ (-9223372036854775808 ≤ x1 - 1 ∧ x1 - 1 ≤ 9223372036854775807) ∧ ∀ (w23 : World), Kept [] w22 w23 → F1 [Lf.int IntKind.i64
    (x1 - 1)] w23 ∧ F2 [Lf.int IntKind.i64 (x1 - 1)] < F2 [Lf.int IntKind.i64 x1])) ∧ (x1 < -300 → ∀ (w24 : World), Kept [] w2 w24 → R (Ending.returned (Value.tuple #[])) w24)) :
    Calls Try.prog 80 #[Value.pointer (some { block := sb, off := so }), Value.pointer (some { block := tb, off := to })] w R := calls_of_vc (pure := false) (wrapAt := []) (muts :=
    []) (esc := []) (args := [SV.pv (PV.one (Lf.ptr sb so)), SV.pv (PV.one (Lf.ptr tb to))]) (vs := [Value.pointer (some { block := sb, off := so }), Value.pointer (some
    { block := tb, off := to })]) Try.func80 rfl rfl rfl (Eq.mp (by kernel_rfl) h) 
set_option maxRecDepth 100000 in
set_option maxHeartbeats 2000000 in
theorem vc69 (sb : Nat) (so : Nat) (yield : Value) (w : World) (R : Ending → World → Prop) (h : ∃ (x1 : Int), w.cell? { block := sb, off := so + 0 + 4 } = some (Value.int
    IntKind.i64 x1) ∧ (-9223372036854775808 ≤ 2 * x1 ∧ 2 * x1 ≤ 9223372036854775807) ∧ (-9223372036854775808 ≤ 2 * x1 + 1 ∧ 2 * x1 + 1 ≤ 9223372036854775807) ∧ ∃ (F1 : List Lf →
    World → Prop), ∃ (F2 : List Lf → Nat), (∀ (w1 : World), Kept [] w w1 → F1 [Lf.int IntKind.i64 0] w1) ∧ ∀ (x2 : Int) (w2 : World), F1 [Lf.int IntKind.i64 x2] w2 → (x2 < 2 * x1 +
    1 → ∃ (x3 : Int), w2.cell? { block := sb, off := so + 0 + 4 } = some (Value.int IntKind.i64 x3) ∧ (-9223372036854775808 ≤ x2 - x3 ∧ x2 - x3 ≤ 9223372036854775807) ∧ ∀ (w3 :
    World), Kept [] w2 w3 → ∃ (m1 : Nat), yield = Value.func (Fn.yield m1) #[] #[] ∧ YieldAt Fence.wide 0 Try.prog m1 #[Value.agg #[Value.int IntKind.i64 (x2 - x3), Value.int
    IntKind.i64 (-1)]] w3 fun (e1 : Ending) (w4 : World) => ∃ (t1 : Bool), e1 = Ending.returned (Value.bool t1) ∧ KeepX false w.heap.size [] (fun _ => False) w3 w4 ∧ ((!t1) = true
    → ∀ (w5 : World), Kept [] w4 w5 → R (Ending.returned (Value.tuple #[])) w5) ∧ ((!t1) = false → (-9223372036854775808 ≤ x2 + 1 ∧ x2 + 1 ≤ 9223372036854775807) ∧ ∀ (w6 : World),
    Kept [] w4 w6 → F1 [Lf.int IntKind.i64 (x2 + 1)] w6 ∧ F2 [Lf.int IntKind.i64 (x2 + 1)] < F2 [Lf.int IntKind.i64 x2])) ∧ (2 * x1 + 1 ≤ x2 → ∃ (a1 : Option Addr), ∃ (m2 : Nat), ∃
    (m3 : Nat), w2.cell? { block := sb, off := so + 0 + 5 } = some (Value.slice a1 m2 m3) ∧ ∃ (F3 : List Lf → World → Prop), ∃ (F4 : List Lf → Nat), (∀ (w7 : World), Kept [] w2 w7
    → F3 [Lf.int IntKind.i64 0] w7) ∧ ∀ (x4 : Int) (w8 : World), F3 [Lf.int IntKind.i64 x4] w8 → (x4 < (↑m2 : Int) → ∀ (w9 : World), Kept [] w8 w9 → ∃ (m4 : Nat), yield =
    Value.func (Fn.yield m4) #[] #[] ∧ YieldAt Fence.wide 0 Try.prog m4 #[Value.agg #[Value.int IntKind.i64 0, Value.int IntKind.i64 x4]] w9 fun (e2 : Ending) (w10 : World) => ∃
    (t2 : Bool), e2 = Ending.returned (Value.bool t2) ∧ KeepX false w.heap.size [] (fun _ => False) w9 w10 ∧ ((!t2) = true → ∀ (w11 : World), Kept [] w10 w11 → R (Ending.returned
    (Value.tuple #[])) w11) ∧ ((!t2) = false → (-9223372036854775808 ≤ x4 + 1 ∧ x4 + 1 ≤ 9223372036854775807) ∧ ∀ (w12 : World), Kept [] w10 w12 → F3 [Lf.int IntKind.i64 (x4 + 1)]
    w12 ∧ F4 [Lf.int IntKind.i64 (x4 + 1)] < F4 [Lf.int IntKind.i64 x4])) ∧ ((↑m2 : Int) ≤ x4 → ∀ (w13 : World), Kept [] w8 w13 → R (Ending.returned (Value.tuple #[])) w13))) :
    Calls Try.prog 69 #[Value.pointer (some { block := sb, off := so }), yield] w R := calls_of_vc (pure := false) (wrapAt := []) (muts := []) (esc := []) (args := [SV.pv (PV.one
    (Lf.ptr sb so)), SV.pv (PV.one (Lf.val yield))]) (vs := [Value.pointer (some { block := sb, off := so }), yield]) Try.func69 rfl rfl rfl (Eq.mp (by kernel_rfl) h) 
end Go.Proofs
end
section
/- Contracts: what an act does. -/
namespace Go.Proofs.R07
open Go.Vc Go.RowKit Go.Proofs

theorem min2 {x y : Int} {a : Option Addr} {c : Nat} {w : World} (hc : Cells w a (ints [x, y])) : Calls Try.prog 77 #[.slice a 2 c] w (Pure w (I (min x y))) := by
  refine vc77 _ _ _ w _ ⟨fun h => absurd h (by decide), fun _ => ?_⟩
  obtain ⟨b, o, rfl, hcell⟩ := hc 0 (I x) rfl
  have h1 := Cells.at hc (i := 1) (v := I y) rfl
  refine ⟨b, o, rfl, ⟨by omega, by omega⟩, x, hcell, fun ls _ => match ls with | [.int _ m, .int _ i] => (i = 1 ∧ m = x) ∨ (i = 2 ∧ m = min x y) | _ => False, fun ls => match ls with | [.int _ _, .int _ i] => 2 - i.toNat | _ => 0, fun w3 _ _ => .inl ⟨rfl, rfl⟩, ?_⟩
  rintro m i w4 hb4 (⟨rfl, rfl⟩ | ⟨rfl, rfl⟩)
  · exact ⟨fun _ => ⟨b, o, rfl, ⟨by omega, by omega⟩, y, cell_keep hb4 h1, by omega, fun w5 hb5 _ => ⟨.inr ⟨rfl, rfl⟩, by show (0 : Nat) < 1; omega⟩⟩, fun h => absurd h (by decide)⟩
  · exact ⟨fun h => absurd h (by decide), fun _ w6 hb6 _ => ⟨rfl, hb6⟩⟩
theorem max2 {x y : Int} {a : Option Addr} {c : Nat} {w : World} (hc : Cells w a (ints [x, y])) : Calls Try.prog 78 #[.slice a 2 c] w (Pure w (I (max x y))) := by
  refine vc78 _ _ _ w _ ⟨fun h => absurd h (by decide), fun _ => ?_⟩
  obtain ⟨b, o, rfl, hcell⟩ := hc 0 (I x) rfl
  have h1 := Cells.at hc (i := 1) (v := I y) rfl
  refine ⟨b, o, rfl, ⟨by omega, by omega⟩, x, hcell, fun ls _ => match ls with | [.int _ m, .int _ i] => (i = 1 ∧ m = x) ∨ (i = 2 ∧ m = max x y) | _ => False, fun ls => match ls with | [.int _ _, .int _ i] => 2 - i.toNat | _ => 0, fun w3 _ _ => .inl ⟨rfl, rfl⟩, ?_⟩
  rintro m i w4 hb4 (⟨rfl, rfl⟩ | ⟨rfl, rfl⟩)
  · exact ⟨fun _ => ⟨b, o, rfl, ⟨by omega, by omega⟩, y, cell_keep hb4 h1, by omega, fun w5 hb5 _ => ⟨.inr ⟨rfl, rfl⟩, by show (0 : Nat) < 1; omega⟩⟩, fun h => absurd h (by decide)⟩
  · exact ⟨fun h => absurd h (by decide), fun _ w6 hb6 _ => ⟨rfl, hb6⟩⟩

theorem one_in {w : World} {m : Nat} {x y z : Int} (h : w.heap[m]? = some (.cells #[I x] 3 (0, 0))) : Calls Try.prog 41 #[I y, I z, .slice (some ⟨m, 0, none⟩) 1 1] w (Pure w (.bool (within y z [x]))) := within_any (l := [_]) (Cells.obj (vs := [I _]) h) (by simp)

/-- What an act adds to a rate. -/
def shift (r : Rules) (u : Nat) (a : Int × Int) : Option Sp :=
  if a.2 = -1 then (if -r.turns ≤ a.1 ∧ a.1 ≤ r.turns then some (min (a.1 * r.tlo) (a.1 * r.thi), max (a.1 * r.tlo) (a.1 * r.thi)) else none)
  else if 0 ≤ a.2 ∧ a.2 < r.ws.length ∧ has u a.2.toNat = false ∧ a.1 = 0 then r.ws[a.2.toNat]? else none

def Good (r : Rules) : Prop := r.ws.length ≤ 3 ∧ OkR r
theorem good_of {r : Rules} (h : check r = 0) : Good r := by
  unfold check at h
  split at h
  · simp at h
  · split at h
    · exact ⟨by omega, ‹_›⟩
    · simp at h

theorem mul_bound {a t : Int} (h1 : -10 ≤ a) (h2 : a ≤ 10) (h3 : 1 ≤ t) (h4 : t ≤ 100) : -1000 ≤ a * t ∧ a * t ≤ 1000 := by
  have e1 := Int.mul_le_mul_of_nonneg_right h2 (show 0 ≤ t by omega)
  have e2 := Int.mul_le_mul_of_nonneg_right h1 (show 0 ≤ t by omega)
  omega

theorem shift_bound {r : Rules} (hr : Good r) {u : Nat} {a : Int × Int} {p : Sp} (h : shift r u a = some p) : -1000 ≤ p.1 ∧ p.1 ≤ p.2 ∧ p.2 ≤ 1000 := by
  obtain ⟨hl, h1, h2, h3, h4, h5⟩ := hr
  unfold shift at h
  split at h
  · split at h
    · rename_i ht
      obtain rfl := Option.some.inj h
      have b1 := mul_bound (a := a.1) (t := r.tlo) (by omega) (by omega) (by omega) (by omega)
      have b2 := mul_bound (a := a.1) (t := r.thi) (by omega) (by omega) (by omega) (by omega)
      simp only
      omega
    · cases h
  · split at h
    · have := h5 p (List.mem_of_getElem? h)
      omega
    · cases h

def ShiftPost (r : Rules) (u : Nat) (a : Int × Int) (w : World) (e : Ending) (w' : World) : Prop :=
  ∃ lo hi, e = .returned (.tuple #[.agg #[I lo, I hi], .bool (shift r u a).isSome]) ∧ Below w.heap.size w w' ∧ ∀ p, shift r u a = some p → p = (lo, hi)

theorem wrap_ok {x : Int} (h1 : -9223372036854775808 ≤ x) (h2 : x ≤ 9223372036854775807) : IntKind.i64.wrap x = x := by
  rw [IntKind.wrap_i64]; omega

theorem shift_any {r : Rules} (hr : Good r) {a : Option Addr} {c sb tm u : Nat} (hu : u < 8) {w : World} (h : ShopAt r a c sb tm w) (hc : Cells w a (spans r.ws)) (x : Int × Int) :
    Calls Try.prog 65 #[.pointer (some ⟨sb, 0, none⟩), .agg #[I x.1, I x.2], I u] w (ShiftPost r u x w) := by
  obtain ⟨x, y⟩ := x
  have hlen := hr.1
  have no : ∀ {w'}, Below w.heap.size w w' → shift r u (x, y) = none → ShiftPost r u (x, y) w (.returned (.tuple #[.agg #[I 0, I 0], .bool false])) w' := fun {w'} hb hn => ⟨0, 0, by rw [hn]; rfl, hb, fun p hp => by rw [hn] at hp; cases hp⟩
  refine vc65 _ _ _ _ _ w _ fun m1 h1 m2 h2 => ⟨fun hy => ?_, fun hy => ?_⟩
  · refine ⟨_, _, _, h.cell (i := 5) rfl, .inl h.lt, ⟨by omega, by omega⟩, fun m5 h5 w1 hb1 hk1 hc1 => ?_⟩
    have sh : ¬ (0 ≤ y ∧ y < r.ws.length ∧ has u y.toNat = false ∧ x = 0) → shift r u (x, y) = none := fun hn => by unfold shift; rw [if_neg hy, if_neg hn]
    refine Pure.calls (one_in hc1) fun w2 hb2 => ⟨_, rfl, .all hb2, fun ht w3 hb3 _ => no hb3 (sh fun hh => ?_), fun ht w4 hb4 _ => ?_⟩
    · have := (within_one 0 ((r.ws.length : Int) - 1) y).2 ⟨hh.1, by omega⟩
      rw [this] at ht; cases ht
    have hin := (within_one 0 ((r.ws.length : Int) - 1) y).1 (by simpa using ht)
    have hyn : y = (y.toNat : Int) := by omega
    have hhas := has_any hu (i := y.toNat) (by omega) w4
    rw [← hyn] at hhas
    refine Pure.calls hhas fun w5 hb5 => ⟨_, rfl, .all hb5, fun ht w6 hb6 _ => no hb6 (sh fun hh => ?_), fun hf => ⟨fun hx w7 hb7 _ => no hb7 (sh fun hh => hx hh.2.2.2), fun hx => ?_⟩⟩
    · rw [hh.2.2.1] at ht; cases ht
    · have hlt : y.toNat < r.ws.length := by omega
      obtain ⟨g1, g2⟩ := spans_get (getElem_of_lt hlt)
      obtain ⟨b, o, rfl, hcell⟩ := hc _ _ g1
      have hcell2 := Cells.at hc g2
      have hb : Below w.heap.size w w5 := hb4.trans (hb5.mono hb4.size)
      refine ⟨_, _, _, (h.keep hb).cell (i := 5) rfl, .inl h.lt, b, o, rfl, ⟨by omega, by omega⟩, _, _, cell_keep hb hcell, cell_keep hb hcell2, .inl (cell_lt hcell), fun w8 hb8 _ => ?_⟩
      have hs : shift r u (x, y) = some r.ws[y.toNat] := by
        unfold shift; rw [if_neg hy, if_pos ⟨hin.1, by show y < _; omega, hf, hx⟩]; exact getElem_of_lt hlt
      exact ⟨_, _, by rw [hs]; rfl, hb8, fun p hp => by rw [hs] at hp; exact (Option.some.inj hp).symm⟩
  · refine ⟨_, h.cell (i := 2) rfl, .inl h.lt, _, h.cell (i := 3) rfl, .inl h.lt, fun m3 h3 w9 hb9 hk9 hc9 => ?_⟩
    refine Pure.calls (min2 (Cells.obj (vs := [I _, I _]) hc9)) fun w10 hb10 => ⟨_, rfl, hb10, fun w11 hb11 hk11 hc11 => ?_⟩
    refine Pure.calls (max2 (Cells.obj (vs := [I _, I _]) hc11)) fun w12 hb12 => ⟨_, rfl, hb12, _, h.cell (i := 4) rfl, .inl h.lt, by have := hr.2.2.2.2.1; omega, _, h.cell (i := 4) rfl, .inl h.lt, fun m11 _ _ _ w13 hb13 hk13 hc13 => ?_⟩
    refine Pure.calls (one_in hc13) fun w14 hb14 => ⟨_, rfl, .all hb14, fun w15 hb15 _ => ?_⟩
    have hw := within_one (0 - r.turns) r.turns x
    obtain ⟨hl, h1, h2, h3, h4, h5⟩ := hr
    by_cases ht : -r.turns ≤ x ∧ x ≤ r.turns
    · have hs : shift r u (x, y) = some (min (x * r.tlo) (x * r.thi), max (x * r.tlo) (x * r.thi)) := by unfold shift; rw [if_pos hy, if_pos ht]
      have b1 := mul_bound (a := x) (t := r.tlo) (by omega) (by omega) (by omega) (by omega)
      have b2 := mul_bound (a := x) (t := r.thi) (by omega) (by omega) (by omega) (by omega)
      have : within (0 - r.turns) r.turns [x] = true := hw.2 (by omega)
      refine ⟨_, _, by rw [hs, this]; rfl, hb15, fun p hp => ?_⟩
      rw [hs] at hp
      have e1 := wrap_ok (x := x * r.tlo) (by omega) (by omega)
      have e2 := wrap_ok (x := x * r.thi) (by omega) (by omega)
      rw [← Option.some.inj hp, e1, e2]
    · have hs : shift r u (x, y) = none := by unfold shift; rw [if_pos hy, if_neg ht]
      have : within (0 - r.turns) r.turns [x] = false := by
        cases hb : within (0 - r.turns) r.turns [x]
        · rfl
        · exact absurd (hw.1 hb) (by omega)
      exact ⟨_, _, by rw [hs, this]; rfl, hb15, fun p hp => by rw [hs] at hp; cases hp⟩

/-- What an act makes of a span of rates, and of the weights that are used. -/
def move (r : Rules) (s : Sp) (u : Nat) (a : Int × Int) : Option (Sp × Nat) :=
  match shift r u a with
  | none => none
  | some p => if isSpan (s.1 + p.1, s.2 + p.2) (-300) 300 then some ((s.1 + p.1, s.2 + p.2), if a.2 = -1 then u else put u a.2.toNat) else none

theorem shift_weight {r : Rules} (hr : Good r) {u : Nat} {a : Int × Int} {p : Sp} (h : shift r u a = some p) (ha : a.2 ≠ -1) : 0 ≤ a.2 ∧ a.2 < 3 := by
  unfold shift at h
  rw [if_neg ha] at h
  split at h
  · have := hr.1; omega
  · cases h

def MovePost (r : Rules) (s : Sp) (u : Nat) (a : Int × Int) (w : World) (e : Ending) (w' : World) : Prop :=
  ∃ lo hi u', e = .returned (.tuple #[.agg #[I lo, I hi, I u'], .bool (move r s u a).isSome]) ∧ Below w.heap.size w w' ∧ ∀ p, move r s u a = some p → u' = (p.2 : Int) ∧ p.1 = (lo, hi)

theorem ShiftPost.calls {r : Rules} {u : Nat} {x : Int × Int} {w : World} {R : Ending → World → Prop} {f : FuncId} {args : Array Value} (h : Calls Try.prog f args w (ShiftPost r u x w))
    (k : ∀ lo hi w', Below w.heap.size w w' → (∀ p, shift r u x = some p → p = (lo, hi)) → R (.returned (.tuple #[.agg #[I lo, I hi], .bool (shift r u x).isSome])) w') : Calls Try.prog f args w R :=
  h.mono fun e w' he => by obtain ⟨lo, hi, rfl, hb, hp⟩ := he; exact k lo hi w' hb hp

theorem move_any {r : Rules} (hr : Good r) {a : Option Addr} {c sb tm u : Nat} (hu : u < 8) {w : World} (h : ShopAt r a c sb tm w) (hc : Cells w a (spans r.ws)) (s : Sp) (hs : -300 ≤ s.1 ∧ s.1 ≤ 300 ∧ -300 ≤ s.2 ∧ s.2 ≤ 300) (x : Int × Int) :
    Calls Try.prog 46 #[.pointer (some ⟨sb, 0, none⟩), .agg #[I s.1, I s.2], I u, .agg #[I x.1, I x.2]] w (MovePost r s u x w) := by
  obtain ⟨s1, s2⟩ := s
  obtain ⟨x, y⟩ := x
  simp only at hs
  refine vc46 _ _ _ _ _ _ _ w _ fun m1 h1 m2 h2 m3 h3 w1 hb1 hk1 => ?_
  refine ShiftPost.calls (shift_any hr hu (h.keep hb1) (hc.keep hb1) (x, y)) fun lo hi w2 hb2 hp => ⟨_, _, _, rfl, .all hb2, fun m4 h4 => ⟨fun ht w3 hb3 _ => ?_, fun ht => ?_⟩⟩
  · have hn : move r (s1, s2) u (x, y) = none := by
      unfold move
      cases hsh : shift r u (x, y)
      · rfl
      · rw [hsh] at ht; cases ht
    exact ⟨0, 0, 0, by rw [hn]; rfl, hb3, fun p hp => by rw [hn] at hp; cases hp⟩
  cases hsh : shift r u (x, y) with
  | none => rw [hsh] at ht; cases ht
  | some p =>
    have hpe := hp p hsh
    subst hpe
    have hbd := shift_bound hr hsh
    simp only at hbd
    have fin : ∀ {w' : World} {u' : Nat}, Below w.heap.size w w' → (u' = if y = -1 then u else put u y.toNat) → MovePost r (s1, s2) u (x, y) w (.returned (.tuple #[.agg #[I (s1 + lo), I (s2 + hi), I u'], .bool (isSpan (s1 + lo, s2 + hi) (-300) 300)])) w' := fun {w' u'} hb hu' => by
      have hm : move r (s1, s2) u (x, y) = if isSpan (s1 + lo, s2 + hi) (-300) 300 then some ((s1 + lo, s2 + hi), u') else none := by unfold move; rw [hsh, hu']
      refine ⟨s1 + lo, s2 + hi, u', ?_, hb, fun p hp => ?_⟩
      · rw [hm]; cases isSpan (s1 + lo, s2 + hi) (-300) 300 <;> rfl
      · rw [hm] at hp
        split at hp
        · obtain rfl := Option.some.inj hp; exact ⟨rfl, rfl⟩
        · cases hp
    refine ⟨by omega, by omega, fun hy w4 hb4 _ => ?_, fun hy w9 hb9 _ => ?_⟩
    · have hy3 := shift_weight hr hsh hy
      simp only at hy3
      have hyn : y = (y.toNat : Int) := by omega
      have hput := put_any hu (i := y.toNat) (by omega) w4
      rw [← hyn] at hput
      refine Pure.calls hput fun w5 hb5 => ⟨_, rfl, .all hb5, fun w6 hb6 _ => ?_⟩
      refine Pure.calls (isSpan_any (s1 + lo, s2 + hi) _ _ w6) fun w7 hb7 => ⟨_, rfl, .all hb7, fun w8 hb8 _ => fin hb8 (by rw [if_neg hy])⟩
    · refine Pure.calls (isSpan_any (s1 + lo, s2 + hi) _ _ w9) fun w10 hb10 => ⟨_, rfl, .all hb10, fun w11 hb11 _ => fin hb11 (by rw [if_pos hy])⟩

theorem at_any {lb lo : Nat} {x : Int} (h1 : -300 ≤ x) (h2 : x ≤ 300) (w : World) : Calls Try.prog 68 #[.pointer (some ⟨lb, lo, none⟩), I x] w (Pure w (.pointer (some ⟨lb, lo + (x + 300).toNat, none⟩))) := by
  refine vc68 _ _ _ w _ ⟨by omega, ⟨by omega, by show x + 300 < 601; omega⟩, fun w1 hb _ => ⟨?_, hb⟩⟩
  rw [Nat.mul_one]

def goodTo (r : Rules) (x : Int) : Int := if -r.limit ≤ x ∧ x ≤ r.limit then r.limit else x - 1
theorem good_any {r : Rules} (hr : Good r) {a : Option Addr} {c sb tm : Nat} {w : World} (h : ShopAt r a c sb tm w) {x : Int} (h1 : -300 ≤ x) (h2 : x ≤ 300) : Calls Try.prog 72 #[.pointer (some ⟨sb, 0, none⟩), I x] w (Pure w (I (goodTo r x))) := by
  have hl := hr.2.1
  refine vc72 _ _ _ w _ ⟨_, h.cell (i := 0) rfl, by omega, _, h.cell (i := 0) rfl, fun m1 hm1 w1 hb1 _ hc1 => ?_⟩
  have hw := within_one (0 - r.limit) r.limit x
  refine Pure.calls (one_in hc1) fun w2 hb2 => ⟨_, rfl, .all hb2, fun ht => ⟨_, ((h.keep hb1).keep hb2).cell (i := 0) rfl, .inl h.lt, fun w3 hb3 _ => ⟨?_, hb3⟩⟩, fun ht => ⟨by omega, fun w4 hb4 _ => ⟨?_, hb4⟩⟩⟩
  · rw [goodTo, if_pos (by have := hw.1 ht; omega)]
  · rw [goodTo, if_neg (fun hh => by rw [hw.2 (by omega)] at ht; cases ht)]
theorem window_any {r : Rules} (hr : Good r) {a : Option Addr} {c sb tm : Nat} {w : World} (h : ShopAt r a c sb tm w) : Calls Try.prog 73 #[.pointer (some ⟨sb, 0, none⟩)] w (Pure w (I (2 * r.err))) := by
  have hl := hr.2.2.1
  exact vc73 _ _ w _ ⟨_, h.cell (i := 1) rfl, by omega, fun w1 hb _ => ⟨rfl, hb⟩⟩
end Go.Proofs.R07
end
section
/- Tables: how they are filled. -/
namespace Go.Proofs.R07
open Go.Vc Go.RowKit Go.Proofs

theorem kept_nil {w w' : World} (h : Kept [] w w') : Below w.heap.size w w' := ⟨h.os, h.tape, h.output, h.size, fun k hk => h.block k hk (by simp)⟩

abbrev TT : TypeId := 130
def TabL (w : World) (tb : Nat) (l : List Int) : Prop := w.heap[tb]? = some (.cells (ints l).toArray TT (0, 0))
theorem TabL.cell {w : World} {tb : Nat} {l : List Int} (h : TabL w tb l) {i : Nat} {x : Int} (hx : l[i]? = some x) : w.cell? ⟨tb, i, none⟩ = some (I x) := cell_obj h (ints_get hx)
theorem TabL.keep {w w' : World} {tb : Nat} {l : List Int} (h : TabL w tb l) (hb : Below w.heap.size w w') : TabL w' tb l := heap_keep hb h

theorem store_tab {w : World} {tb k : Nat} {l : List Int} {x : Int} (h : TabL w tb l) (hk : k < l.length) {R : Value → World → Prop}
    (hR : ∀ w', TabL w' tb (l.set k x) → Chg [tb] w w' → R (.tuple #[]) w') : RunsTo Try.prog ((Instr.storeAt 3 (.pointer (some ⟨tb, k, none⟩)) (I x)) >>= fun _ => pure (Value.tuple #[])) w R := by
  obtain ⟨w', hr, S⟩ := run_storeCells (P := Try.prog) [I x] 0 k w _ h (by simp [ints]; omega) (by simp [OneV])
  refine ⟨.tuple #[], w', ?_, hR w' ?_ ⟨S.os, S.tape, S.output, Nat.le_of_eq S.size.symm, fun j _ hj => S.other j (by simpa using hj)⟩⟩
  · have h3 : (sizeOf 3).run Try.prog w = .ok 1 w := by kernel_rfl
    simp only [Instr.storeAt, Instr.sureAddr, storeVar, Sem.run_bind, Sem.run_pure, h3, Result.andThen_ok, Value.cells]
    simp [hr]
  · obtain ⟨cs', h1, h2, h3⟩ := S.here _ h
    unfold TabL
    rw [h1]
    congr 2
    apply Array.ext_getElem?
    intro i
    rw [h3 i]
    simp only [ints, List.getElem?_toArray, List.getElem?_map, List.length_singleton, List.getElem?_set]
    by_cases hi : k = i
    · subst hi; simp [hk]
    · rw [if_neg (by omega), if_neg hi]

def imgN (e : Int) (st : Int → Int) : Nat → Int
  | 0 => if 300 + e ≤ st 300 then 300 + e else st 300
  | n + 1 => if 299 - (n : Int) + e ≤ st (299 - n) then max (299 - (n : Int) + e) (imgN e st n) else st (299 - n)
def imgOf (e : Int) (st : Int → Int) (x : Int) : Int := imgN e st (300 - x).toNat

theorem imgOf_top {e : Int} {st : Int → Int} : imgOf e st 300 = if 300 + e ≤ st 300 then 300 + e else st 300 := rfl
theorem imgOf_step {e : Int} {st : Int → Int} {x : Int} (h : x < 300) : imgOf e st x = if x + e ≤ st x then max (x + e) (imgOf e st (x + 1)) else st x := by
  have h1 : (300 - x).toNat = (300 - (x + 1)).toNat + 1 := by omega
  unfold imgOf
  rw [h1, imgN]
  have h2 : 299 - ((300 - (x + 1)).toNat : Int) = x := by omega
  rw [h2]

/-- The states of a table, and the images. -/
def StOf (l : List Int) (st : Int → Int) : Prop := ∀ x : Int, -300 ≤ x → x ≤ 300 → l[(x + 300).toNat]? = some (st x)
def ImFrom (l : List Int) (im : Int → Int) (y : Int) : Prop := ∀ x : Int, -300 ≤ x → x ≤ 300 → y < x → l[601 + (x + 300).toNat]? = some (im x)

theorem ShopAt.chg {r : Rules} {a : Option Addr} {c sb tm : Nat} {w w' : World} {S : List Nat} (h : ShopAt r a c sb tm w) (hc : Chg S w w') (hs : sb ∉ S) : ShopAt r a c sb tm w' := (hc.keep sb h.lt hs).trans h

theorem fill_any {r : Rules} (hr : Good r) {a : Option Addr} {c sb tm tb : Nat} {w : World} (h : ShopAt r a c sb tm w) (hne : sb ≠ tb) {l : List Int} {st : Int → Int} (ht : TabL w tb l) (hl : l.length = 1202) (hst : StOf l st) (hb : ∀ x, -300 ≤ x → x ≤ 300 → -1000 ≤ st x ∧ st x ≤ 1000) :
    Calls Try.prog 80 #[.pointer (some ⟨sb, 0, none⟩), .pointer (some ⟨tb, 0, none⟩)] w fun e w' => e = .returned (.tuple #[]) ∧ Chg [tb] w w' ∧ ∃ l', TabL w' tb l' ∧ l'.length = 1202 ∧ StOf l' st ∧ ImFrom l' (imgOf (2 * r.err) st) (-301) := by
  have herr := hr.2.2.1
  refine vc80 _ _ _ _ w _ ⟨fun ls w' => match ls with | [.int _ x] => -301 ≤ x ∧ x ≤ 300 ∧ Chg [tb] w w' ∧ ∃ l', TabL w' tb l' ∧ l'.length = 1202 ∧ StOf l' st ∧ ImFrom l' (imgOf (2 * r.err) st) x | _ => False, fun ls => match ls with | [.int _ x] => (x + 301).toNat | _ => 0,
    fun w1 hk => ⟨by omega, by omega, .of_below (kept_nil hk), l, ht.keep (kept_nil hk), hl, hst, fun x _ h2 h3 => by omega⟩, ?_⟩
  rintro x w2 ⟨h1, h2, hc2, l2, ht2, hl2, hs2, hi2⟩
  refine ⟨fun h3 w3 hk3 => ?_, fun h3 w24 hk24 => ⟨rfl, hc2.trans (.of_below (kept_nil hk24)), l2, ht2.keep (kept_nil hk24), hl2, hs2, fun y hy1 hy2 _ => hi2 y hy1 hy2 (by omega)⟩⟩
  have hb3 := kept_nil hk3
  refine Pure.calls (at_any h3 h2 w3) fun w4 hb4 => ⟨_, rfl, .all hb4, tb, _, rfl, trivial, st x, ?_, fun w5 hk5 => ?_⟩
  · have := ((ht2.keep hb3).keep hb4).cell (hs2 x h3 h2)
    simpa using this
  have hb5 := kept_nil hk5
  have hB : Below w2.heap.size w2 w5 := (hb3.trans (hb4.mono hb3.size)).trans (hb5.mono (Nat.le_trans hb3.size hb4.size))
  have hsh : ∀ {w'}, Below w2.heap.size w2 w' → ShopAt r a c sb tm w' := fun hb => (h.chg hc2 (by simpa using hne)).keep hb
  refine Pure.calls (window_any hr (hsh hB)) fun w6 hb6 => ⟨_, rfl, .all hb6, by omega, ?_⟩
  have hB6 := hB.trans (hb6.mono hB.size)
  have bd := hb x h3 h2
  have fin : ∀ {wa wb : World} {v : Int}, Below w2.heap.size w2 wa → v = imgOf (2 * r.err) st x → (∀ wc, TabL wc tb (l2.set (601 + (x + 300).toNat) v) → Chg [tb] wa wc → KeepX false w.heap.size [] (fun _ => False) wa wc ∧ (-9223372036854775808 ≤ x - 1 ∧ x - 1 ≤ 9223372036854775807) ∧ ∀ wd, Kept [] wc wd →
      ((-301 ≤ x - 1 ∧ x - 1 ≤ 300 ∧ Chg [tb] w wd ∧ ∃ l', TabL wd tb l' ∧ l'.length = 1202 ∧ StOf l' st ∧ ImFrom l' (imgOf (2 * r.err) st) (x - 1)) ∧ (x - 1 + 301).toNat < (x + 301).toNat)) := fun {wa wb v} hba hv wc htc hcc =>
    ⟨hcc.own (by simp) (by simp) (by simp), by omega, fun wd hkd => ⟨⟨by omega, by omega, (hc2.trans (.of_below hba)).trans (hcc.trans (.of_below (kept_nil hkd))), _, htc.keep (kept_nil hkd), by simpa using hl2, fun y hy1 hy2 => by
      rw [List.getElem?_set_ne (by omega)]; exact hs2 y hy1 hy2, fun y hy1 hy2 hy3 => by
      by_cases hyx : y = x
      · subst hyx; rw [List.getElem?_set_self (by omega), hv]
      · rw [List.getElem?_set_ne (by omega)]; exact hi2 y hy1 hy2 (by omega)⟩, by omega⟩⟩
  refine ⟨fun hge => ⟨fun hlt => ⟨by omega, fun w7 hk7 => ?_⟩, fun hle w14 hk14 => ?_⟩, fun hlt w19 hk19 => ?_⟩
  · have hb7 := hB6.trans ((kept_nil hk7).mono hB6.size)
    refine Pure.calls (at_any (by omega) (by omega) w7) fun w8 hb8 => ⟨_, rfl, .all hb8, tb, _, rfl, trivial, imgOf (2 * r.err) st (x + 1), ?_, fun w9 hk9 => ?_⟩
    · have := ((ht2.keep hb7).keep hb8).cell (hi2 (x + 1) (by omega) (by omega) (by omega))
      rw [Nat.zero_add]; exact this
    have hb9 := (hb7.trans (hb8.mono hb7.size)).trans ((kept_nil hk9).mono (Nat.le_trans hb7.size hb8.size))
    refine Pure.calls (at_any (by omega) (by omega) w9) fun w10 hb10 => ⟨_, rfl, .all hb10, tb, _, rfl, trivial, fun w11 hk11 => ?_⟩
    have hb11 := (hb9.trans (hb10.mono hb9.size)).trans ((kept_nil hk11).mono (Nat.le_trans hb9.size hb10.size))
    rw [Nat.zero_add]
    refine store_tab (ht2.keep hb11) (by omega) (fin (wb := w) hb11 ?_)
    rw [imgOf_step (x := x) hlt, if_pos hge]
  · obtain rfl : x = 300 := by omega
    have hb7 := hB6.trans ((kept_nil hk14).mono hB6.size)
    refine Pure.calls (at_any (by omega) (by omega) w14) fun w15 hb15 => ⟨_, rfl, .all hb15, tb, _, rfl, trivial, fun w16 hk16 => ?_⟩
    have hb11 := (hb7.trans (hb15.mono hb7.size)).trans ((kept_nil hk16).mono (Nat.le_trans hb7.size hb15.size))
    rw [Nat.zero_add]
    refine store_tab (ht2.keep hb11) (by omega) (fin (wb := w) hb11 ?_)
    rw [imgOf_top, if_pos hge]
  · have hb7 := hB6.trans ((kept_nil hk19).mono hB6.size)
    refine Pure.calls (at_any (by omega) (by omega) w19) fun w20 hb20 => ⟨_, rfl, .all hb20, tb, _, rfl, trivial, fun w21 hk21 => ?_⟩
    have hb11 := (hb7.trans (hb20.mono hb7.size)).trans ((kept_nil hk21).mono (Nat.le_trans hb7.size hb20.size))
    rw [Nat.zero_add]
    refine store_tab (ht2.keep hb11) (by omega) (fin (wb := w) hb11 ?_)
    by_cases hx : x < 300
    · rw [imgOf_step hx, if_neg (by omega)]
    · obtain rfl : x = 300 := by omega
      rw [imgOf_top, if_neg (by omega)]
end Go.Proofs.R07
end
section
/- The conditions of the functions, printed by program; each is what the generator reckons (kernel_rfl). -/
namespace Go.Proofs
open Go.Vc
set_option maxRecDepth 100000 in
set_option maxHeartbeats 2000000 in
theorem vc67 (sb : Nat) (so : Nat) (l0 : Int) (l1 : Int) (w : World) (R : Ending → World → Prop) (h : ∀ (m1 : Nat), w.heap.size ≤ m1 → ∀ (m2 : Nat), w.heap.size ≤ m2 → ∃ (m3 :
    Nat), w.cell? { block := sb, off := so + 6 } = some (Value.map (some m3)) ∧ (sb < w.heap.size ∨ sb ≠ m2 ∧ sb ≠ m1) ∧ ∀ (w1 : World), KeptIn [(0, w.heap.size)] [m2, m1] w w1 →
    RunsTo Try.prog (Instr.lookup 139 (Value.map (some m3)) (Value.agg #[Value.int IntKind.i64 l0, Value.int IntKind.i64 l1]) true) w1 fun (v1 : Value) (w2 : World) => ∃ (a1 :
    Option Addr), ∃ (t1 : Bool), v1 = Value.tuple #[Value.pointer a1, Value.bool t1] ∧ KeepX false w.heap.size [m2, m1] (fun _ => False) w1 w2 ∧ (t1 = true → ∀ (w3 : World), Kept
    [m2, m1] w2 w3 → R (Ending.returned (Value.pointer a1)) w3) ∧ (t1 = false → ∀ (w4 : World), Kept [m2, m1] w2 w4 → ∀ (m4 : Nat) (w5 : World), m4 = w4.heap.size → w5 = w4.alloc
    (Obj.cells (List.replicate 1202 (Value.int IntKind.i64 0)).toArray 130) → ∀ (m5 : Nat), w5.heap.size ≤ m5 → ∃ (F1 : List Lf → World → Prop), ∃ (F2 : List Lf → Nat), (∀ (w6 :
    World), Kept [m5, m2, m1] w5 w6 → F1 [Lf.int IntKind.i64 (-300)] w6) ∧ ∀ (x1 : Int) (w7 : World), F1 [Lf.int IntKind.i64 x1] w7 → (x1 ≤ 300 → ∀ (w8 : World), KeptIn [(0,
    w7.heap.size)] [m5, m2, m1] w7 w8 → Calls Try.prog 68 #[Value.pointer (some { block := m4, off := 0 + 0 }), Value.int IntKind.i64 x1] w8 fun (e1 : Ending) (w9 : World) => ∃ (a2
    : Option Addr), e1 = Ending.returned (Value.pointer a2) ∧ KeepX false w.heap.size [m5, m2, m1] (fun _ => False) w8 w9 ∧ ∀ (w10 : World), KeptIn [(0, w9.heap.size)] [m5, m2, m1]
    w9 w10 → Calls Try.prog 72 #[Value.pointer (some { block := sb, off := so }), Value.int IntKind.i64 x1] w10 fun (e2 : Ending) (w11 : World) => ∃ (x2 : Int), e2 =
    Ending.returned (Value.int IntKind.i64 x2) ∧ KeepX false w.heap.size [m5, m2, m1] (fun _ => False) w10 w11 ∧ ∃ (m6 : Nat), ∃ (m7 : Nat), a2 = some { block := m6, off := m7 } ∧
    True ∧ ∀ (w12 : World), KeptIn [(0, w11.heap.size)] [m5, m2, m1] w11 w12 → RunsTo Try.prog ((Instr.storeAt 3 (Value.pointer (some { block := m6, off := m7 })) (Value.int
    IntKind.i64 x2)) >>= fun _ => pure (Value.tuple #[])) w12 fun (v2 : Value) (w13 : World) => KeepX false w.heap.size [m5, m2, m1] (fun _ => False) w12 w13 ∧
    (-9223372036854775808 ≤ x1 + 1 ∧ x1 + 1 ≤ 9223372036854775807) ∧ ∀ (w14 : World), Kept [m5, m2, m1] w13 w14 → F1 [Lf.int IntKind.i64 (x1 + 1)] w14 ∧ F2 [Lf.int IntKind.i64 (x1
    + 1)] < F2 [Lf.int IntKind.i64 x1]) ∧ (300 < x1 → (0 < l0 → ∃ (y1 : List (List Value)), ∃ (F3 : (Nat → Prop) → List Lf → Nat → World → Prop), ∃ (F4 : World → Prop), Iter
    Try.prog 69 [Value.pointer (some { block := sb, off := so })] [] y1 F4 ∧ (∀ (w15 : World), Kept [m5, m2, m1] w7 w15 → F3 (fun _ => False) [] 0 w15) ∧ ∀ (m8 : Nat) (F5 F6 : Nat
    → Prop) (w16 w17 : World), F3 F5 [] m8 w16 → CalmFrom w.heap.size w16 w17 → (∀ (m9 : Nat), F5 m9 → F6 m9) → (∀ (m10 : Nat), F6 m10 → F5 m10 ∨ w16.heap.size ≤ m10) → (∀ (m11 :
    Nat), F6 m11 → w.heap.size ≤ m11 ∧ m11 < w17.heap.size) → F4 w17 ∧ (∀ (y2 : List Value), y1[m8]? = some y2 → ∃ (x3 : Int), ∃ (x4 : Int), y2 = [Value.agg #[Value.int IntKind.i64
    x3, Value.int IntKind.i64 x4]] ∧ ∀ (m12 : Nat) (w18 : World) (m13 : Nat), w17.heap.size ≤ m13 → ∀ (w19 : World), Kept [m13, m5, m2, m1] w17 w19 → ∀ (w20 : World), CalmFrom
    w.heap.size w19 w20 → ∀ (w21 w22 : World), Kept [m13, m5, m2, m1] w20 w22 → Calls Try.prog 79 #[Value.pointer (some { block := sb, off := so }), Value.pointer (some
    { block := m4, off := 0 }), Value.agg #[Value.int IntKind.i64 l0, Value.int IntKind.i64 l1], Value.agg #[Value.int IntKind.i64 x3, Value.int IntKind.i64 x4]] w22 fun (e3 :
    Ending) (w23 : World) => e3 = Ending.returned (Value.tuple #[]) ∧ KeepX false w.heap.size [m13, m5, m2, m1] F6 w22 w23 ∧ ∀ (w24 : World), Kept [m13, m5, m2, m1] w23 w24 → F3 F6
    [] (m8 + 1) w24) ∧ (m8 = y1.length → ∀ (w25 : World), Kept [m5, m2, m1] w17 w25 → Calls Try.prog 80 #[Value.pointer (some { block := sb, off := so }), Value.pointer (some
    { block := m4, off := 0 })] w25 fun (e4 : Ending) (w26 : World) => e4 = Ending.returned (Value.tuple #[]) ∧ KeepX false w.heap.size [m5, m2, m1] F6 w25 w26 ∧ ∃ (m14 : Nat),
    w26.cell? { block := sb, off := so + 6 } = some (Value.map (some m14)) ∧ (sb < w.heap.size ∨ sb ≠ m5 ∧ sb ≠ m2 ∧ sb ≠ m1) ∧ ∀ (w27 : World), KeptIn [(0, w26.heap.size)] [m5,
    m2, m1] w26 w27 → RunsTo Try.prog ((Instr.mapUpdate 139 (Value.map (some m14)) (Value.agg #[Value.int IntKind.i64 l0, Value.int IntKind.i64 l1]) (Value.pointer (some
    { block := m4, off := 0 }))) >>= fun _ => pure (Value.tuple #[])) w27 fun (v3 : Value) (w28 : World) => KeepX false w.heap.size [m5, m2, m1] F6 w27 w28 ∧ ∀ (w29 : World), Kept
    [m5, m2, m1] w28 w29 → ∀ (w30 : World), CalmFrom w.heap.size w29 w30 → R (Ending.returned (Value.pointer (some { block := m4, off := 0 }))) w30)) ∧ (l0 ≤ 0 → ∀ (w31 : World),
    Kept [m5, m2, m1] w7 w31 → Calls Try.prog 80 #[Value.pointer (some { block := sb, off := so }), Value.pointer (some { block := m4, off := 0 })] w31 fun (e5 : Ending) (w32 :
    World) => e5 = Ending.returned (Value.tuple #[]) ∧ KeepX false w.heap.size [m5, m2, m1] (fun _ => False) w31 w32 ∧ ∃ (m15 : Nat), w32.cell? { block := sb, off := so + 6 } =
    some (Value.map (some m15)) ∧ (sb < w.heap.size ∨ sb ≠ m5 ∧ sb ≠ m2 ∧ sb ≠ m1) ∧ ∀ (w33 : World), KeptIn [(0, w32.heap.size)] [m5, m2, m1] w32 w33 → RunsTo Try.prog
    ((Instr.mapUpdate 139 (Value.map (some m15)) (Value.agg #[Value.int IntKind.i64 l0, Value.int IntKind.i64 l1]) (Value.pointer (some { block := m4, off := 0 }))) >>= fun _ =>
    pure (Value.tuple #[])) w33 fun (v4 : Value) (w34 : World) => KeepX false w.heap.size [m5, m2, m1] (fun _ => False) w33 w34 ∧ ∀ (w35 : World), Kept [m5, m2, m1] w34 w35 → R
    (Ending.returned (Value.pointer (some { block := m4, off := 0 }))) w35)))) : Calls Try.prog 67 #[Value.pointer (some { block := sb, off := so }), Value.agg #[Value.int
    IntKind.i64 l0, Value.int IntKind.i64 l1]] w R := calls_of_vc (pure := false) (wrapAt := []) (muts := []) (esc := [21, 22]) (args := [SV.pv (PV.one (Lf.ptr sb so)), SV.pv
    (PV.agg [Lf.int IntKind.i64 l0, Lf.int IntKind.i64 l1])]) (vs := [Value.pointer (some { block := sb, off := so }), Value.agg #[Value.int IntKind.i64 l0, Value.int IntKind.i64
    l1]]) Try.func67 rfl rfl rfl (Eq.mp (by kernel_rfl) h) 
set_option maxRecDepth 100000 in
set_option maxHeartbeats 2000000 in
theorem vc79 (sb : Nat) (so : Nat) (tb : Nat) (to : Nat) (l0 : Int) (l1 : Int) (a0 : Int) (a1 : Int) (w : World) (R : Ending → World → Prop) (h : ∀ (m1 : Nat), w.heap.size ≤ m1 → ∀
    (m2 : Nat), w.heap.size ≤ m2 → ∀ (w1 : World), Kept [m2, m1] w w1 → Calls Try.prog 65 #[Value.pointer (some { block := sb, off := so }), Value.agg #[Value.int IntKind.i64 a0,
    Value.int IntKind.i64 a1], Value.int IntKind.i64 l1] w1 fun (e1 : Ending) (w2 : World) => ∃ (x1 : Int), ∃ (x2 : Int), ∃ (t1 : Bool), e1 = Ending.returned (Value.tuple
    #[Value.agg #[Value.int IntKind.i64 x1, Value.int IntKind.i64 x2], Value.bool t1]) ∧ KeepX false w.heap.size [m2, m1] (fun _ => False) w1 w2 ∧ ∀ (m3 : Nat), w2.heap.size ≤ m3 →
    ((!t1) = true → ∀ (w3 : World), Kept [m3, m2, m1] w2 w3 → R (Ending.returned (Value.tuple #[])) w3) ∧ ((!t1) = false → (-9223372036854775808 ≤ l0 - 1 ∧ l0 - 1 ≤
    9223372036854775807) ∧ ∀ (m4 : Nat), w2.heap.size ≤ m4 → (a1 ≠ -1 → ∀ (w4 : World), Kept [m4, m3, m2, m1] w2 w4 → Calls Try.prog 66 #[Value.int IntKind.i64 l1, Value.int
    IntKind.i64 a1] w4 fun (e2 : Ending) (w5 : World) => ∃ (x3 : Int), e2 = Ending.returned (Value.int IntKind.i64 x3) ∧ KeepX false w.heap.size [m4, m3, m2, m1] (fun _ => False)
    w4 w5 ∧ ∀ (w6 : World), Kept [m4, m3, m2, m1] w5 w6 → Calls Try.prog 67 #[Value.pointer (some { block := sb, off := so }), Value.agg #[Value.int IntKind.i64 (l0 - 1), Value.int
    IntKind.i64 x3]] w6 fun (e3 : Ending) (w7 : World) => ∃ (a1 : Option Addr), e3 = Ending.returned (Value.pointer a1) ∧ KeepX false w.heap.size [m4, m3, m2, m1] (fun _ => False)
    w6 w7 ∧ ∃ (m5 : Nat), ∃ (m6 : Nat), a1 = some { block := m5, off := m6 } ∧ True ∧ ∃ (F1 : List Lf → World → Prop), ∃ (F2 : List Lf → Nat), (∀ (w8 : World), Kept [m4, m3, m2,
    m1] w7 w8 → F1 [Lf.int IntKind.i64 (-300)] w8) ∧ ∀ (x4 : Int) (w9 : World), F1 [Lf.int IntKind.i64 x4] w9 → (x4 ≤ 300 → (-9223372036854775808 ≤ x4 + x1 ∧ x4 + x1 ≤
    9223372036854775807) ∧ ∀ (m7 : Nat), w9.heap.size ≤ m7 → ∀ (w10 : World), Kept [m7, m4, m3, m2, m1] w9 w10 → w10.heap[m7]? = some (Obj.cells #[Value.int IntKind.i64 (x4 + x1)]
    3) → Calls Try.prog 41 #[Value.int IntKind.i64 (-300), Value.int IntKind.i64 300, Value.slice (some { block := m7, off := 0 }) 1 1] w10 fun (e4 : Ending) (w11 : World) => ∃ (t2
    : Bool), e4 = Ending.returned (Value.bool t2) ∧ KeepX false w.heap.size [m7, m4, m3, m2, m1] (fun _ => False) w10 w11 ∧ (t2 = true → ∀ (w12 : World), Kept [m7, m4, m3, m2, m1]
    w11 w12 → Calls Try.prog 68 #[Value.pointer (some { block := tb, off := to + 0 }), Value.int IntKind.i64 x4] w12 fun (e5 : Ending) (w13 : World) => ∃ (a2 : Option Addr), e5 =
    Ending.returned (Value.pointer a2) ∧ KeepX false w.heap.size [m7, m4, m3, m2, m1] (fun _ => False) w12 w13 ∧ ∀ (w14 : World), KeptIn [(0, w13.heap.size)] [m7, m4, m3, m2, m1]
    w13 w14 → Calls Try.prog 68 #[Value.pointer (some { block := m5, off := m6 + 601 }), Value.int IntKind.i64 (x4 + x1)] w14 fun (e6 : Ending) (w15 : World) => ∃ (a3 : Option
    Addr), e6 = Ending.returned (Value.pointer a3) ∧ RowKit.Below w14.heap.size w14 w15 ∧ ∃ (m8 : Nat), ∃ (m9 : Nat), a2 = some { block := m8, off := m9 } ∧ True ∧ ∃ (x5 : Int),
    w13.cell? { block := m8, off := m9 } = some (Value.int IntKind.i64 x5) ∧ (m8 < w.heap.size ∨ m8 ≠ m7 ∧ m8 ≠ m4 ∧ m8 ≠ m3 ∧ m8 ≠ m2 ∧ m8 ≠ m1) ∧ ∃ (m10 : Nat), ∃ (m11 : Nat), a3
    = some { block := m10, off := m11 } ∧ True ∧ ∃ (x6 : Int), w15.cell? { block := m10, off := m11 } = some (Value.int IntKind.i64 x6) ∧ (m10 < w.heap.size ∨ m10 ≠ m7 ∧ m10 ≠ m4 ∧
    m10 ≠ m3 ∧ m10 ≠ m2 ∧ m10 ≠ m1) ∧ (-9223372036854775808 ≤ x6 - x2 ∧ x6 - x2 ≤ 9223372036854775807) ∧ ∃ (m12 : Nat), ∃ (m13 : Nat), a2 = some { block := m12, off := m13 } ∧ True
    ∧ ∀ (w16 : World), KeptIn [(0, w13.heap.size), (w14.heap.size, w15.heap.size)] [m7, m4, m3, m2, m1] w15 w16 → RunsTo Try.prog ((Instr.storeAt 3 (Value.pointer (some
    { block := m12, off := m13 })) (Value.int IntKind.i64 (max x5 (min (x6 - x2) 300)))) >>= fun _ => pure (Value.tuple #[])) w16 fun (v1 : Value) (w17 : World) => KeepX false
    w.heap.size [m7, m4, m3, m2, m1] (fun _ => False) w16 w17 ∧ (-9223372036854775808 ≤ x4 + 1 ∧ x4 + 1 ≤ 9223372036854775807) ∧ ∀ (w18 : World), Kept [m7, m4, m3, m2, m1] w17 w18
    → F1 [Lf.int IntKind.i64 (x4 + 1)] w18 ∧ F2 [Lf.int IntKind.i64 (x4 + 1)] < F2 [Lf.int IntKind.i64 x4]) ∧ (t2 = false → (-9223372036854775808 ≤ x4 + 1 ∧ x4 + 1 ≤
    9223372036854775807) ∧ ∀ (w19 : World), Kept [m7, m4, m3, m2, m1] w11 w19 → F1 [Lf.int IntKind.i64 (x4 + 1)] w19 ∧ F2 [Lf.int IntKind.i64 (x4 + 1)] < F2 [Lf.int IntKind.i64
    x4])) ∧ (300 < x4 → ∀ (w20 : World), Kept [m4, m3, m2, m1] w9 w20 → R (Ending.returned (Value.tuple #[])) w20)) ∧ (a1 = -1 → ∀ (w21 : World), Kept [m4, m3, m2, m1] w2 w21 →
    Calls Try.prog 67 #[Value.pointer (some { block := sb, off := so }), Value.agg #[Value.int IntKind.i64 (l0 - 1), Value.int IntKind.i64 l1]] w21 fun (e7 : Ending) (w22 : World)
    => ∃ (a4 : Option Addr), e7 = Ending.returned (Value.pointer a4) ∧ KeepX false w.heap.size [m4, m3, m2, m1] (fun _ => False) w21 w22 ∧ ∃ (m14 : Nat), ∃ (m15 : Nat), a4 = some
    { block := m14, off := m15 } ∧ True ∧ ∃ (F3 : List Lf → World → Prop), ∃ (F4 : List Lf → Nat), (∀ (w23 : World), Kept [m4, m3, m2, m1] w22 w23 → F3 [Lf.int IntKind.i64 (-300)]
    w23) ∧ ∀ (x7 : Int) (w24 : World), F3 [Lf.int IntKind.i64 x7] w24 → (x7 ≤ 300 → (-9223372036854775808 ≤ x7 + x1 ∧ x7 + x1 ≤ 9223372036854775807) ∧ ∀ (m16 : Nat), w24.heap.size
    ≤ m16 → ∀ (w25 : World), Kept [m16, m4, m3, m2, m1] w24 w25 → w25.heap[m16]? = some (Obj.cells #[Value.int IntKind.i64 (x7 + x1)] 3) → Calls Try.prog 41 #[Value.int IntKind.i64
    (-300), Value.int IntKind.i64 300, Value.slice (some { block := m16, off := 0 }) 1 1] w25 fun (e8 : Ending) (w26 : World) => ∃ (t3 : Bool), e8 = Ending.returned (Value.bool t3)
    ∧ KeepX false w.heap.size [m16, m4, m3, m2, m1] (fun _ => False) w25 w26 ∧ (t3 = true → ∀ (w27 : World), Kept [m16, m4, m3, m2, m1] w26 w27 → Calls Try.prog 68 #[Value.pointer
    (some { block := tb, off := to + 0 }), Value.int IntKind.i64 x7] w27 fun (e9 : Ending) (w28 : World) => ∃ (a5 : Option Addr), e9 = Ending.returned (Value.pointer a5) ∧ KeepX
    false w.heap.size [m16, m4, m3, m2, m1] (fun _ => False) w27 w28 ∧ ∀ (w29 : World), KeptIn [(0, w28.heap.size)] [m16, m4, m3, m2, m1] w28 w29 → Calls Try.prog 68
    #[Value.pointer (some { block := m14, off := m15 + 601 }), Value.int IntKind.i64 (x7 + x1)] w29 fun (e10 : Ending) (w30 : World) => ∃ (a6 : Option Addr), e10 = Ending.returned
    (Value.pointer a6) ∧ RowKit.Below w29.heap.size w29 w30 ∧ ∃ (m17 : Nat), ∃ (m18 : Nat), a5 = some { block := m17, off := m18 } ∧ True ∧ ∃ (x8 : Int), w28.cell?
    { block := m17, off := m18 } = some (Value.int IntKind.i64 x8) ∧ (m17 < w.heap.size ∨ m17 ≠ m16 ∧ m17 ≠ m4 ∧ m17 ≠ m3 ∧ m17 ≠ m2 ∧ m17 ≠ m1) ∧ ∃ (m19 : Nat), ∃ (m20 : Nat), a6
    = some { block := m19, off := m20 } ∧ True ∧ ∃ (x9 : Int), w30.cell? { block := m19, off := m20 } = some (Value.int IntKind.i64 x9) ∧ (m19 < w.heap.size ∨ m19 ≠ m16 ∧ m19 ≠ m4
    ∧ m19 ≠ m3 ∧ m19 ≠ m2 ∧ m19 ≠ m1) ∧ (-9223372036854775808 ≤ x9 - x2 ∧ x9 - x2 ≤ 9223372036854775807) ∧ ∃ (m21 : Nat), ∃ (m22 : Nat), a5 = some { block := m21, off := m22 } ∧
    True ∧ ∀ (w31 : World), KeptIn [(0, w28.heap.size), (w29.heap.size, w30.heap.size)] [m16, m4, m3, m2, m1] w30 w31 → RunsTo Try.prog ((Instr.storeAt 3 (Value.pointer (some
    { block := m21, off := m22 })) (Value.int IntKind.i64 (max x8 (min (x9 - x2) 300)))) >>= fun _ => pure (Value.tuple #[])) w31 fun (v2 : Value) (w32 : World) => KeepX false
    w.heap.size [m16, m4, m3, m2, m1] (fun _ => False) w31 w32 ∧ (-9223372036854775808 ≤ x7 + 1 ∧ x7 + 1 ≤ 9223372036854775807) ∧ ∀ (w33 : World), Kept [m16, m4, m3, m2, m1] w32
    w33 → F3 [Lf.int IntKind.i64 (x7 + 1)] w33 ∧ F4 [Lf.int IntKind.i64 (x7 + 1)] < F4 [Lf.int IntKind.i64 x7]) ∧ (t3 = false → (-9223372036854775808 ≤ x7 + 1 ∧ x7 + 1 ≤
    9223372036854775807) ∧ ∀ (w34 : World), Kept [m16, m4, m3, m2, m1] w26 w34 → F3 [Lf.int IntKind.i64 (x7 + 1)] w34 ∧ F4 [Lf.int IntKind.i64 (x7 + 1)] < F4 [Lf.int IntKind.i64
    x7])) ∧ (300 < x7 → ∀ (w35 : World), Kept [m4, m3, m2, m1] w24 w35 → R (Ending.returned (Value.tuple #[])) w35)))) : Calls Try.prog 79 #[Value.pointer (some
    { block := sb, off := so }), Value.pointer (some { block := tb, off := to }), Value.agg #[Value.int IntKind.i64 l0, Value.int IntKind.i64 l1], Value.agg #[Value.int IntKind.i64
    a0, Value.int IntKind.i64 a1]] w R := calls_of_vc (pure := false) (wrapAt := []) (muts := []) (esc := []) (args := [SV.pv (PV.one (Lf.ptr sb so)), SV.pv (PV.one (Lf.ptr tb
    to)), SV.pv (PV.agg [Lf.int IntKind.i64 l0, Lf.int IntKind.i64 l1]), SV.pv (PV.agg [Lf.int IntKind.i64 a0, Lf.int IntKind.i64 a1])]) (vs := [Value.pointer (some
    { block := sb, off := so }), Value.pointer (some { block := tb, off := to }), Value.agg #[Value.int IntKind.i64 l0, Value.int IntKind.i64 l1], Value.agg #[Value.int IntKind.i64
    a0, Value.int IntKind.i64 a1]]) Try.func79 rfl rfl rfl (Eq.mp (by kernel_rfl) h) 
set_option maxRecDepth 100000 in
set_option maxHeartbeats 2000000 in
theorem vc50 (sb : Nat) (so : Nat) (rate0 : Int) (rate1 : Int) (used : Int) (w : World) (R : Ending → World → Prop) (h : ∀ (m1 : Nat), w.heap.size ≤ m1 → ∃ (F1 : List Lf → World →
    Prop), ∃ (F2 : List Lf → Nat), (∀ (w1 : World), Kept [m1] w w1 → F1 [Lf.int IntKind.i64 0, Lf.bool false, Lf.int IntKind.i64 0] w1) ∧ ∀ (x1 : Int) (t1 : Bool) (x2 : Int) (w2 :
    World), F1 [Lf.int IntKind.i64 x1, Lf.bool t1, Lf.int IntKind.i64 x2] w2 → (x2 < 7 → ∀ (w3 : World), KeptIn [(0, w2.heap.size)] [m1] w2 w3 → Calls Try.prog 67 #[Value.pointer
    (some { block := sb, off := so }), Value.agg #[Value.int IntKind.i64 x2, Value.int IntKind.i64 used]] w3 fun (e1 : Ending) (w4 : World) => ∃ (a1 : Option Addr), e1 =
    Ending.returned (Value.pointer a1) ∧ KeepX false w.heap.size [m1] (fun _ => False) w3 w4 ∧ ∃ (m2 : Nat), ∃ (m3 : Nat), a1 = some { block := m2, off := m3 } ∧ True ∧ ∀ (w5 :
    World), KeptIn [(0, w4.heap.size)] [m1] w4 w5 → Calls Try.prog 68 #[Value.pointer (some { block := m2, off := m3 + 0 }), Value.int IntKind.i64 rate0] w5 fun (e2 : Ending) (w6 :
    World) => ∃ (a2 : Option Addr), e2 = Ending.returned (Value.pointer a2) ∧ KeepX false w.heap.size [m1] (fun _ => False) w5 w6 ∧ ∃ (m4 : Nat), ∃ (m5 : Nat), a2 = some
    { block := m4, off := m5 } ∧ True ∧ ∃ (x3 : Int), w6.cell? { block := m4, off := m5 } = some (Value.int IntKind.i64 x3) ∧ (m4 < w.heap.size ∨ m4 ≠ m1) ∧ (rate1 ≤ x3 → ∀ (w7 :
    World), Kept [m1] w6 w7 → R (Ending.returned (Value.tuple #[Value.int IntKind.i64 x2, Value.bool true])) w7) ∧ (x3 < rate1 → (-9223372036854775808 ≤ x2 + 1 ∧ x2 + 1 ≤
    9223372036854775807) ∧ ∀ (w8 : World), Kept [m1] w6 w8 → F1 [Lf.int IntKind.i64 x1, Lf.bool t1, Lf.int IntKind.i64 (x2 + 1)] w8 ∧ F2 [Lf.int IntKind.i64 x1, Lf.bool t1, Lf.int
    IntKind.i64 (x2 + 1)] < F2 [Lf.int IntKind.i64 x1, Lf.bool t1, Lf.int IntKind.i64 x2])) ∧ (7 ≤ x2 → ∀ (w9 : World), Kept [m1] w2 w9 → R (Ending.returned (Value.tuple
    #[Value.int IntKind.i64 0, Value.bool false])) w9)) : Calls Try.prog 50 #[Value.pointer (some { block := sb, off := so }), Value.agg #[Value.int IntKind.i64 rate0, Value.int
    IntKind.i64 rate1], Value.int IntKind.i64 used] w R := calls_of_vc (pure := false) (wrapAt := []) (muts := []) (esc := []) (args := [SV.pv (PV.one (Lf.ptr sb so)), SV.pv
    (PV.agg [Lf.int IntKind.i64 rate0, Lf.int IntKind.i64 rate1]), SV.pv (PV.one (Lf.int IntKind.i64 used))]) (vs := [Value.pointer (some { block := sb, off := so }), Value.agg
    #[Value.int IntKind.i64 rate0, Value.int IntKind.i64 rate1], Value.int IntKind.i64 used]) Try.func50 rfl rfl rfl (Eq.mp (by kernel_rfl) h) 
set_option maxRecDepth 100000 in
set_option maxHeartbeats 2000000 in
theorem vc51 (sb : Nat) (so : Nat) (rate0 : Int) (rate1 : Int) (l0 : Int) (l1 : Int) (w : World) (R : Ending → World → Prop) (h : ∀ (m1 : Nat), w.heap.size ≤ m1 → ∀ (m2 : Nat),
    w.heap.size ≤ m2 → ∀ (m3 : Nat), w.heap.size ≤ m3 → ∀ (m4 : Nat), w.heap.size ≤ m4 → ∀ (m5 : Nat), w.heap.size ≤ m5 → ∃ (y1 : List (List Value)), ∃ (F1 : (Nat → Prop) → List Lf
    → Nat → World → Prop), ∃ (F2 : World → Prop), Iter Try.prog 69 [Value.pointer (some { block := sb, off := so })] [] y1 F2 ∧ (∀ (w1 : World), Kept [m5, m4, m3, m2, m1] w w1 →
    w1.heap[m4]? = some (Obj.cells #[Value.int IntKind.i64 0, Value.int IntKind.i64 0] 36) → w1.heap[m5]? = some (Obj.cells #[Value.int IntKind.i64 0, Value.int IntKind.i64 0,
    Value.int IntKind.i64 0] 92) → F1 (fun _ => False) [Lf.int IntKind.i64 0, Lf.int IntKind.i64 0, Lf.int IntKind.i64 0, Lf.int IntKind.i64 0, Lf.int IntKind.i64 0] 0 w1) ∧ ∀ (x1
    x2 x3 x4 x5 : Int) (m6 : Nat) (F3 F4 : Nat → Prop) (w2 w3 : World), F1 F3 [Lf.int IntKind.i64 x1, Lf.int IntKind.i64 x2, Lf.int IntKind.i64 x3, Lf.int IntKind.i64 x4, Lf.int
    IntKind.i64 x5] m6 w2 → CalmFrom w.heap.size w2 w3 → (∀ (m7 : Nat), F3 m7 → F4 m7) → (∀ (m8 : Nat), F4 m8 → F3 m8 ∨ w2.heap.size ≤ m8) → (∀ (m9 : Nat), F4 m9 → w.heap.size ≤ m9
    ∧ m9 < w3.heap.size) → F2 w3 ∧ (∀ (y2 : List Value), y1[m6]? = some y2 → ∃ (x6 : Int), ∃ (x7 : Int), y2 = [Value.agg #[Value.int IntKind.i64 x6, Value.int IntKind.i64 x7]] ∧ ∀
    (m10 : Nat) (w4 : World) (m11 : Nat), w3.heap.size ≤ m11 → ∀ (w5 : World), Kept [m11, m5, m4, m3, m2, m1] w3 w5 → ∀ (w6 : World), CalmFrom w.heap.size w5 w6 → ∀ (w7 w8 :
    World), Kept [m11, m5, m4, m3, m2, m1] w6 w8 → Calls Try.prog 46 #[Value.pointer (some { block := sb, off := so }), Value.agg #[Value.int IntKind.i64 rate0, Value.int
    IntKind.i64 rate1], Value.int IntKind.i64 l1, Value.agg #[Value.int IntKind.i64 x6, Value.int IntKind.i64 x7]] w8 fun (e1 : Ending) (w9 : World) => ∃ (x8 : Int), ∃ (x9 : Int),
    ∃ (x10 : Int), ∃ (t1 : Bool), e1 = Ending.returned (Value.tuple #[Value.agg #[Value.int IntKind.i64 x8, Value.int IntKind.i64 x9, Value.int IntKind.i64 x10], Value.bool t1]) ∧
    KeepX false w.heap.size [m11, m5, m4, m3, m2, m1] F4 w8 w9 ∧ ∀ (m12 : Nat), w9.heap.size ≤ m12 → (t1 = true → (-9223372036854775808 ≤ l0 - 1 ∧ l0 - 1 ≤ 9223372036854775807) ∧ ∀
    (w10 : World), KeptIn [(0, w9.heap.size)] [m12, m11, m5, m4, m3, m2, m1] w9 w10 → Calls Try.prog 67 #[Value.pointer (some { block := sb, off := so }), Value.agg #[Value.int
    IntKind.i64 (l0 - 1), Value.int IntKind.i64 x10]] w10 fun (e2 : Ending) (w11 : World) => ∃ (a1 : Option Addr), e2 = Ending.returned (Value.pointer a1) ∧ KeepX false w.heap.size
    [m12, m11, m5, m4, m3, m2, m1] F4 w10 w11 ∧ ∃ (m13 : Nat), ∃ (m14 : Nat), a1 = some { block := m13, off := m14 } ∧ True ∧ ∀ (w12 : World), KeptIn [(0, w11.heap.size)] [m12,
    m11, m5, m4, m3, m2, m1] w11 w12 → Calls Try.prog 68 #[Value.pointer (some { block := m13, off := m14 + 601 }), Value.int IntKind.i64 x8] w12 fun (e3 : Ending) (w13 : World) =>
    ∃ (a2 : Option Addr), e3 = Ending.returned (Value.pointer a2) ∧ KeepX false w.heap.size [m12, m11, m5, m4, m3, m2, m1] F4 w12 w13 ∧ ∃ (m15 : Nat), ∃ (m16 : Nat), a2 = some
    { block := m15, off := m16 } ∧ True ∧ ∃ (x11 : Int), w13.cell? { block := m15, off := m16 } = some (Value.int IntKind.i64 x11) ∧ (m15 < w.heap.size ∨ m15 ≠ m12 ∧ m15 ≠ m11 ∧
    m15 ≠ m5 ∧ m15 ≠ m4 ∧ m15 ≠ m3 ∧ m15 ≠ m2 ∧ m15 ≠ m1) ∧ (x9 ≤ x11 → ∀ (w14 : World), Kept [m12, m11, m5, m4, m3, m2, m1] w13 w14 → ∀ (F5 : Nat → Prop) (w15 : World), CalmFrom
    w.heap.size w14 w15 → (∀ (m17 : Nat), F4 m17 → F5 m17) → ∀ (w16 : World), Kept [m12, m11, m5, m4, m3, m2, m1] w15 w16 → ∀ (w17 : World), CalmFrom w.heap.size w16 w17 → R
    (Ending.returned (Value.tuple #[Value.agg #[Value.int IntKind.i64 x6, Value.int IntKind.i64 x7], Value.agg #[Value.int IntKind.i64 x8, Value.int IntKind.i64 x9, Value.int
    IntKind.i64 x10]])) w17) ∧ (x11 < x9 → ∀ (w18 : World), Kept [m12, m11, m5, m4, m3, m2, m1] w13 w18 → F1 F4 [Lf.int IntKind.i64 x1, Lf.int IntKind.i64 x2, Lf.int IntKind.i64
    x3, Lf.int IntKind.i64 x4, Lf.int IntKind.i64 x5] (m6 + 1) w18)) ∧ (t1 = false → ∀ (w19 : World), Kept [m12, m11, m5, m4, m3, m2, m1] w9 w19 → F1 F4 [Lf.int IntKind.i64 x1,
    Lf.int IntKind.i64 x2, Lf.int IntKind.i64 x3, Lf.int IntKind.i64 x4, Lf.int IntKind.i64 x5] (m6 + 1) w19)) ∧ (m6 = y1.length → ∀ (w20 : World), Kept [m5, m4, m3, m2, m1] w3 w20
    → ∀ (w21 : World), CalmFrom w.heap.size w20 w21 → R (Ending.returned (Value.tuple #[Value.agg #[Value.int IntKind.i64 0, Value.int IntKind.i64 (-1)], Value.agg #[Value.int
    IntKind.i64 rate0, Value.int IntKind.i64 rate1, Value.int IntKind.i64 l1]])) w21)) : Calls Try.prog 51 #[Value.pointer (some { block := sb, off := so }), Value.agg #[Value.int
    IntKind.i64 rate0, Value.int IntKind.i64 rate1], Value.agg #[Value.int IntKind.i64 l0, Value.int IntKind.i64 l1]] w R := calls_of_vc (pure := false) (wrapAt := []) (muts := [6,
    7]) (esc := []) (args := [SV.pv (PV.one (Lf.ptr sb so)), SV.pv (PV.agg [Lf.int IntKind.i64 rate0, Lf.int IntKind.i64 rate1]), SV.pv (PV.agg [Lf.int IntKind.i64 l0, Lf.int
    IntKind.i64 l1])]) (vs := [Value.pointer (some { block := sb, off := so }), Value.agg #[Value.int IntKind.i64 rate0, Value.int IntKind.i64 rate1], Value.agg #[Value.int
    IntKind.i64 l0, Value.int IntKind.i64 l1]]) Try.func51 rfl rfl rfl (Eq.mp (by kernel_rfl) h) 
set_option maxRecDepth 100000 in
set_option maxHeartbeats 2000000 in
theorem vc24 (r0 : Int) (r1 : Int) (r2 : Int) (r3 : Int) (r4 : Int) (r5a : Option Addr) (r5n : Nat) (r5c : Nat) (x0 : Int) (x1 : Int) (x2a : Option Addr) (x2n : Nat) (x2c : Nat) (w
    : World) (R : Ending → World → Prop) (h : ∀ (m1 : Nat), w.heap.size ≤ m1 → ∀ (m2 : Nat), w.heap.size ≤ m2 → ∀ (w1 : World), RowKit.Below w.heap.size w w1 → Kept [m2, m1] w w1 →
    Calls Try.prog 45 #[Value.agg #[Value.int IntKind.i64 r0, Value.int IntKind.i64 r1, Value.int IntKind.i64 r2, Value.int IntKind.i64 r3, Value.int IntKind.i64 r4, Value.slice
    r5a r5n r5c], Value.agg #[Value.int IntKind.i64 x0, Value.int IntKind.i64 x1, Value.slice x2a x2n x2c]] w1 fun (e1 : Ending) (w2 : World) => ∃ (a1 : Option Addr), ∃ (x1_1 :
    Int), e1 = Ending.returned (Value.tuple #[Value.pointer a1, Value.int IntKind.i64 x1_1]) ∧ KeepX true w.heap.size [m2, m1] (fun _ => False) w1 w2 ∧ (x1_1 ≠ 0 → ∀ (w3 : World),
    RowKit.Below w.heap.size w w3 → Kept [m2, m1] w2 w3 → R (Ending.returned (Value.tuple #[Value.int IntKind.i64 0, Value.int IntKind.i64 x1_1])) w3) ∧ (x1_1 = 0 → ∀ (w4 : World),
    RowKit.Below w.heap.size w w4 → KeptIn [(0, w2.heap.size)] [m2, m1] w2 w4 → Calls Try.prog 47 #[Value.slice x2a x2n x2c] w4 fun (e2 : Ending) (w5 : World) => ∃ (x2 : Int), e2 =
    Ending.returned (Value.int IntKind.i64 x2) ∧ KeepX true w.heap.size [m2, m1] (fun _ => False) w4 w5 ∧ ∀ (w6 : World), RowKit.Below w.heap.size w w6 → KeptIn [(0, w5.heap.size)]
    [m2, m1] w5 w6 → Calls Try.prog 50 #[Value.pointer a1, Value.agg #[Value.int IntKind.i64 x0, Value.int IntKind.i64 x1], Value.int IntKind.i64 x2] w6 fun (e3 : Ending) (w7 :
    World) => ∃ (x3 : Int), ∃ (t1 : Bool), e3 = Ending.returned (Value.tuple #[Value.int IntKind.i64 x3, Value.bool t1]) ∧ KeepX true w.heap.size [m2, m1] (fun _ => False) w6 w7 ∧
    ((!t1) = true → ∀ (w8 : World), RowKit.Below w.heap.size w w8 → Kept [m2, m1] w7 w8 → R (Ending.returned (Value.tuple #[Value.int IntKind.i64 0, Value.int IntKind.i64 7])) w8)
    ∧ ((!t1) = false → ∀ (w9 : World), RowKit.Below w.heap.size w w9 → Kept [m2, m1] w7 w9 → R (Ending.returned (Value.tuple #[Value.int IntKind.i64 x3, Value.int IntKind.i64 0]))
    w9))) : Calls Try.prog 24 #[Value.agg #[Value.int IntKind.i64 r0, Value.int IntKind.i64 r1, Value.int IntKind.i64 r2, Value.int IntKind.i64 r3, Value.int IntKind.i64 r4,
    Value.slice r5a r5n r5c], Value.agg #[Value.int IntKind.i64 x0, Value.int IntKind.i64 x1, Value.slice x2a x2n x2c]] w R := calls_of_vc (pure := true) (wrapAt := []) (muts :=
    []) (esc := []) (args := [SV.pv (PV.agg [Lf.int IntKind.i64 r0, Lf.int IntKind.i64 r1, Lf.int IntKind.i64 r2, Lf.int IntKind.i64 r3, Lf.int IntKind.i64 r4, Lf.sl r5a r5n r5c]),
    SV.pv (PV.agg [Lf.int IntKind.i64 x0, Lf.int IntKind.i64 x1, Lf.sl x2a x2n x2c])]) (vs := [Value.agg #[Value.int IntKind.i64 r0, Value.int IntKind.i64 r1, Value.int IntKind.i64
    r2, Value.int IntKind.i64 r3, Value.int IntKind.i64 r4, Value.slice r5a r5n r5c], Value.agg #[Value.int IntKind.i64 x0, Value.int IntKind.i64 x1, Value.slice x2a x2n x2c]])
    Try.func24 rfl rfl rfl (Eq.mp (by kernel_rfl) h) 
set_option maxRecDepth 100000 in
set_option maxHeartbeats 2000000 in
theorem vc25 (r0 : Int) (r1 : Int) (r2 : Int) (r3 : Int) (r4 : Int) (r5a : Option Addr) (r5n : Nat) (r5c : Nat) (x0 : Int) (x1 : Int) (x2a : Option Addr) (x2n : Nat) (x2c : Nat) (w
    : World) (R : Ending → World → Prop) (h : ∀ (m1 : Nat), w.heap.size ≤ m1 → ∀ (m2 : Nat), w.heap.size ≤ m2 → ∀ (m3 : Nat), w.heap.size ≤ m3 → ∀ (w1 : World), RowKit.Below
    w.heap.size w w1 → Kept [m3, m2, m1] w w1 → Calls Try.prog 45 #[Value.agg #[Value.int IntKind.i64 r0, Value.int IntKind.i64 r1, Value.int IntKind.i64 r2, Value.int IntKind.i64
    r3, Value.int IntKind.i64 r4, Value.slice r5a r5n r5c], Value.agg #[Value.int IntKind.i64 x0, Value.int IntKind.i64 x1, Value.slice x2a x2n x2c]] w1 fun (e1 : Ending) (w2 :
    World) => ∃ (a1 : Option Addr), ∃ (x1_1 : Int), e1 = Ending.returned (Value.tuple #[Value.pointer a1, Value.int IntKind.i64 x1_1]) ∧ KeepX true w.heap.size [m3, m2, m1] (fun _
    => False) w1 w2 ∧ (x1_1 ≠ 0 → ∀ (w3 : World), RowKit.Below w.heap.size w w3 → Kept [m3, m2, m1] w2 w3 → R (Ending.returned (Value.tuple #[Value.agg #[Value.int IntKind.i64 0,
    Value.int IntKind.i64 0], Value.int IntKind.i64 x1_1])) w3) ∧ (x1_1 = 0 → ∀ (w4 : World), RowKit.Below w.heap.size w w4 → Kept [m3, m2, m1] w2 w4 → Calls Try.prog 47
    #[Value.slice x2a x2n x2c] w4 fun (e2 : Ending) (w5 : World) => ∃ (x2 : Int), e2 = Ending.returned (Value.int IntKind.i64 x2) ∧ KeepX true w.heap.size [m3, m2, m1] (fun _ =>
    False) w4 w5 ∧ ∀ (w6 : World), RowKit.Below w.heap.size w w6 → Kept [m3, m2, m1] w5 w6 → Calls Try.prog 50 #[Value.pointer a1, Value.agg #[Value.int IntKind.i64 x0, Value.int
    IntKind.i64 x1], Value.int IntKind.i64 x2] w6 fun (e3 : Ending) (w7 : World) => ∃ (x3 : Int), ∃ (t1 : Bool), e3 = Ending.returned (Value.tuple #[Value.int IntKind.i64 x3,
    Value.bool t1]) ∧ KeepX true w.heap.size [m3, m2, m1] (fun _ => False) w6 w7 ∧ ((!t1) = true → ∀ (w8 : World), RowKit.Below w.heap.size w w8 → Kept [m3, m2, m1] w7 w8 → R
    (Ending.returned (Value.tuple #[Value.agg #[Value.int IntKind.i64 0, Value.int IntKind.i64 0], Value.int IntKind.i64 7])) w8) ∧ ((!t1) = false → (x3 = 0 → ∀ (w9 : World),
    RowKit.Below w.heap.size w w9 → Kept [m3, m2, m1] w7 w9 → R (Ending.returned (Value.tuple #[Value.agg #[Value.int IntKind.i64 0, Value.int IntKind.i64 0], Value.int IntKind.i64
    9])) w9) ∧ (x3 ≠ 0 → ∀ (w10 : World), RowKit.Below w.heap.size w w10 → Kept [m3, m2, m1] w7 w10 → Calls Try.prog 51 #[Value.pointer a1, Value.agg #[Value.int IntKind.i64 x0,
    Value.int IntKind.i64 x1], Value.agg #[Value.int IntKind.i64 x3, Value.int IntKind.i64 x2]] w10 fun (e4 : Ending) (w11 : World) => ∃ (x4 : Int), ∃ (x5 : Int), ∃ (x6 : Int), ∃
    (x7 : Int), ∃ (x8 : Int), e4 = Ending.returned (Value.tuple #[Value.agg #[Value.int IntKind.i64 x4, Value.int IntKind.i64 x5], Value.agg #[Value.int IntKind.i64 x6, Value.int
    IntKind.i64 x7, Value.int IntKind.i64 x8]]) ∧ KeepX true w.heap.size [m3, m2, m1] (fun _ => False) w10 w11 ∧ ∀ (w12 : World), RowKit.Below w.heap.size w w12 → Kept [m3, m2, m1]
    w11 w12 → R (Ending.returned (Value.tuple #[Value.agg #[Value.int IntKind.i64 x4, Value.int IntKind.i64 x5], Value.int IntKind.i64 0])) w12)))) : Calls Try.prog 25 #[Value.agg
    #[Value.int IntKind.i64 r0, Value.int IntKind.i64 r1, Value.int IntKind.i64 r2, Value.int IntKind.i64 r3, Value.int IntKind.i64 r4, Value.slice r5a r5n r5c], Value.agg
    #[Value.int IntKind.i64 x0, Value.int IntKind.i64 x1, Value.slice x2a x2n x2c]] w R := calls_of_vc (pure := true) (wrapAt := []) (muts := []) (esc := []) (args := [SV.pv
    (PV.agg [Lf.int IntKind.i64 r0, Lf.int IntKind.i64 r1, Lf.int IntKind.i64 r2, Lf.int IntKind.i64 r3, Lf.int IntKind.i64 r4, Lf.sl r5a r5n r5c]), SV.pv (PV.agg [Lf.int
    IntKind.i64 x0, Lf.int IntKind.i64 x1, Lf.sl x2a x2n x2c])]) (vs := [Value.agg #[Value.int IntKind.i64 r0, Value.int IntKind.i64 r1, Value.int IntKind.i64 r2, Value.int
    IntKind.i64 r3, Value.int IntKind.i64 r4, Value.slice r5a r5n r5c], Value.agg #[Value.int IntKind.i64 x0, Value.int IntKind.i64 x1, Value.slice x2a x2n x2c]]) Try.func25 rfl
    rfl rfl (Eq.mp (by kernel_rfl) h) 
set_option maxRecDepth 100000 in
set_option maxHeartbeats 2000000 in
theorem vc16 (r0 : Int) (r1 : Int) (r2 : Int) (r3 : Int) (r4 : Int) (r5a : Option Addr) (r5n : Nat) (r5c : Nat) (x0 : Int) (x1 : Int) (x2a : Option Addr) (x2n : Nat) (x2c : Nat)
    (a0 : Int) (a1 : Int) (seen : Int) (w : World) (R : Ending → World → Prop) (h : ∀ (m1 : Nat), w.heap.size ≤ m1 → ∀ (m2 : Nat), w.heap.size ≤ m2 → ∀ (m3 : Nat), w.heap.size ≤ m3
    → ∀ (m4 : Nat), w.heap.size ≤ m4 → ∀ (w1 : World), RowKit.Below w.heap.size w w1 → Kept [m4, m3, m2, m1] w w1 → Calls Try.prog 45 #[Value.agg #[Value.int IntKind.i64 r0,
    Value.int IntKind.i64 r1, Value.int IntKind.i64 r2, Value.int IntKind.i64 r3, Value.int IntKind.i64 r4, Value.slice r5a r5n r5c], Value.agg #[Value.int IntKind.i64 x0,
    Value.int IntKind.i64 x1, Value.slice x2a x2n x2c]] w1 fun (e1 : Ending) (w2 : World) => ∃ (a1_1 : Option Addr), ∃ (x1_1 : Int), e1 = Ending.returned (Value.tuple
    #[Value.pointer a1_1, Value.int IntKind.i64 x1_1]) ∧ KeepX true w.heap.size [m4, m3, m2, m1] (fun _ => False) w1 w2 ∧ (x1_1 ≠ 0 → ∀ (w3 : World), RowKit.Below w.heap.size w w3
    → Kept [m4, m3, m2, m1] w2 w3 → R (Ending.returned (Value.tuple #[Value.agg #[Value.int IntKind.i64 0, Value.int IntKind.i64 0, Value.slice none 0 0], Value.int IntKind.i64
    x1_1])) w3) ∧ (x1_1 = 0 → ∀ (w4 : World), RowKit.Below w.heap.size w w4 → KeptIn [(0, w2.heap.size)] [m4, m3, m2, m1] w2 w4 → Calls Try.prog 47 #[Value.slice x2a x2n x2c] w4
    fun (e2 : Ending) (w5 : World) => ∃ (x2 : Int), e2 = Ending.returned (Value.int IntKind.i64 x2) ∧ RowKit.Below w4.heap.size w4 w5 ∧ ∀ (w6 : World), RowKit.Below w.heap.size w
    w6 → KeptIn [(0, w2.heap.size), (w4.heap.size, w5.heap.size)] [m4, m3, m2, m1] w5 w6 → Calls Try.prog 46 #[Value.pointer a1_1, Value.agg #[Value.int IntKind.i64 x0, Value.int
    IntKind.i64 x1], Value.int IntKind.i64 x2, Value.agg #[Value.int IntKind.i64 a0, Value.int IntKind.i64 a1]] w6 fun (e3 : Ending) (w7 : World) => ∃ (x3 : Int), ∃ (x4 : Int), ∃
    (x5 : Int), ∃ (t1 : Bool), e3 = Ending.returned (Value.tuple #[Value.agg #[Value.int IntKind.i64 x3, Value.int IntKind.i64 x4, Value.int IntKind.i64 x5], Value.bool t1]) ∧
    RowKit.Below w6.heap.size w6 w7 ∧ ∀ (m5 : Nat), w2.heap.size ≤ m5 → m5 < w6.heap.size ∨ w7.heap.size ≤ m5 → m5 < w4.heap.size ∨ w5.heap.size ≤ m5 → ((!t1) = true → ∀ (w8 :
    World), RowKit.Below w.heap.size w w8 → Kept [m5, m4, m3, m2, m1] w7 w8 → R (Ending.returned (Value.tuple #[Value.agg #[Value.int IntKind.i64 0, Value.int IntKind.i64 0,
    Value.slice none 0 0], Value.int IntKind.i64 3])) w8) ∧ ((!t1) = false → (-9223372036854775808 ≤ x3 - r1 ∧ x3 - r1 ≤ 9223372036854775807) ∧ (-9223372036854775808 ≤ x4 + r1 ∧ x4
    + r1 ≤ 9223372036854775807) ∧ ∀ (m6 : Nat), w7.heap.size ≤ m6 → ∀ (w9 : World), RowKit.Below w.heap.size w w9 → Kept [m6, m5, m4, m3, m2, m1] w7 w9 → w9.heap[m6]? = some
    (Obj.cells #[Value.int IntKind.i64 seen] 3) → Calls Try.prog 41 #[Value.int IntKind.i64 (x3 - r1), Value.int IntKind.i64 (x4 + r1), Value.slice (some { block := m6, off := 0 })
    1 1] w9 fun (e4 : Ending) (w10 : World) => ∃ (t2 : Bool), e4 = Ending.returned (Value.bool t2) ∧ KeepX true w.heap.size [m6, m5, m4, m3, m2, m1] (fun _ => False) w9 w10 ∧
    ((!t2) = true → ∀ (w11 : World), RowKit.Below w.heap.size w w11 → Kept [m6, m5, m4, m3, m2, m1] w10 w11 → R (Ending.returned (Value.tuple #[Value.agg #[Value.int IntKind.i64 0,
    Value.int IntKind.i64 0, Value.slice none 0 0], Value.int IntKind.i64 9])) w11) ∧ ((!t2) = false → (-9223372036854775808 ≤ seen - r1 ∧ seen - r1 ≤ 9223372036854775807) ∧
    (-9223372036854775808 ≤ seen + r1 ∧ seen + r1 ≤ 9223372036854775807) ∧ ∃ (F1 : List Lf → World → Prop), ∃ (F2 : List Lf → Nat), (∀ (w12 : World), RowKit.Below w.heap.size w w12
    → Kept [m6, m5, m4, m3, m2, m1] w10 w12 → F1 [Lf.int IntKind.i64 0, Lf.int IntKind.i64 (max x3 (seen - r1)), Lf.int IntKind.i64 (min x4 (seen + r1)), Lf.sl none 0 0] w12) ∧ ∀
    (x6 x7 x8 : Int) (a2 : Option Addr) (m7 m8 : Nat) (w13 : World), RowKit.Below w.heap.size w w13 → F1 [Lf.int IntKind.i64 x6, Lf.int IntKind.i64 x7, Lf.int IntKind.i64 x8, Lf.sl
    a2 m7 m8] w13 → (x6 < (↑x2n : Int) → ∀ (w14 : World), RowKit.Below w.heap.size w w14 → KeptIn [(0, w13.heap.size)] [m6, m5, m4, m3, m2, m1] w13 w14 → Calls Try.prog 48
    #[Value.int IntKind.i64 x5, Value.int IntKind.i64 x6] w14 fun (e5 : Ending) (w15 : World) => ∃ (t3 : Bool), e5 = Ending.returned (Value.bool t3) ∧ KeepX true w.heap.size [m6,
    m5, m4, m3, m2, m1] (fun _ => False) w14 w15 ∧ ∀ (m9 : Nat), w15.heap.size ≤ m9 → ∀ (w16 : World), RowKit.Below w.heap.size w w16 → KeptIn [(0, w15.heap.size)] [m9, m6, m5, m4,
    m3, m2, m1] w15 w16 → w16.heap[m9]? = some (Obj.cells #[Value.bool t3] 4) → RunsTo Try.prog (Builtin.append_ #[27, 27] 27 #[Value.slice a2 m7 m8, Value.slice (some
    { block := m9, off := 0 }) 1 1]) w16 fun (v1 : Value) (w17 : World) => ∃ (a3 : Option Addr), ∃ (m10 : Nat), ∃ (m11 : Nat), v1 = Value.slice a3 m10 m11 ∧ KeepX true w.heap.size
    [m9, m6, m5, m4, m3, m2, m1] (fun _ => False) w16 w17 ∧ (-9223372036854775808 ≤ x6 + 1 ∧ x6 + 1 ≤ 9223372036854775807) ∧ ∀ (w18 : World), RowKit.Below w.heap.size w w18 → Kept
    [m9, m6, m5, m4, m3, m2, m1] w17 w18 → F1 [Lf.int IntKind.i64 (x6 + 1), Lf.int IntKind.i64 x7, Lf.int IntKind.i64 x8, Lf.sl a3 m10 m11] w18 ∧ F2 [Lf.int IntKind.i64 (x6 + 1),
    Lf.int IntKind.i64 x7, Lf.int IntKind.i64 x8, Lf.sl a3 m10 m11] < F2 [Lf.int IntKind.i64 x6, Lf.int IntKind.i64 x7, Lf.int IntKind.i64 x8, Lf.sl a2 m7 m8]) ∧ ((↑x2n : Int) ≤ x6
    → ∀ (w19 : World), RowKit.Below w.heap.size w w19 → Kept [m6, m5, m4, m3, m2, m1] w13 w19 → R (Ending.returned (Value.tuple #[Value.agg #[Value.int IntKind.i64 x7, Value.int
    IntKind.i64 x8, Value.slice a2 m7 m8], Value.int IntKind.i64 0])) w19))))) : Calls Try.prog 16 #[Value.agg #[Value.int IntKind.i64 r0, Value.int IntKind.i64 r1, Value.int
    IntKind.i64 r2, Value.int IntKind.i64 r3, Value.int IntKind.i64 r4, Value.slice r5a r5n r5c], Value.agg #[Value.int IntKind.i64 x0, Value.int IntKind.i64 x1, Value.slice x2a
    x2n x2c], Value.agg #[Value.int IntKind.i64 a0, Value.int IntKind.i64 a1], Value.int IntKind.i64 seen] w R := calls_of_vc (pure := true) (wrapAt := []) (muts := [8]) (esc :=
    []) (args := [SV.pv (PV.agg [Lf.int IntKind.i64 r0, Lf.int IntKind.i64 r1, Lf.int IntKind.i64 r2, Lf.int IntKind.i64 r3, Lf.int IntKind.i64 r4, Lf.sl r5a r5n r5c]), SV.pv
    (PV.agg [Lf.int IntKind.i64 x0, Lf.int IntKind.i64 x1, Lf.sl x2a x2n x2c]), SV.pv (PV.agg [Lf.int IntKind.i64 a0, Lf.int IntKind.i64 a1]), SV.pv (PV.one (Lf.int IntKind.i64
    seen))]) (vs := [Value.agg #[Value.int IntKind.i64 r0, Value.int IntKind.i64 r1, Value.int IntKind.i64 r2, Value.int IntKind.i64 r3, Value.int IntKind.i64 r4, Value.slice r5a
    r5n r5c], Value.agg #[Value.int IntKind.i64 x0, Value.int IntKind.i64 x1, Value.slice x2a x2n x2c], Value.agg #[Value.int IntKind.i64 a0, Value.int IntKind.i64 a1], Value.int
    IntKind.i64 seen]) Try.func16 rfl rfl rfl (Eq.mp (by kernel_rfl) h) 
end Go.Proofs
end
section
/- The acts, one after another. -/
namespace Go.Proofs.R07
open Go.Vc Go.RowKit Go.Proofs

def acts (r : Rules) : List (Int × Int) := (List.range (2 * r.turns + 1).toNat).map (fun (i : Nat) => ((i : Int) - r.turns, -1)) ++ (List.range r.ws.length).map (fun (i : Nat) => (0, (i : Int)))
def actV (a : Int × Int) : List Value := [.agg #[I a.1, I a.2]]
theorem acts_len (r : Rules) : (acts r).length = (2 * r.turns + 1).toNat + r.ws.length := by simp [acts]
theorem acts_turn {r : Rules} {x : Int} (h0 : 0 ≤ x) (h : x < 2 * r.turns + 1) : (acts r)[x.toNat]? = some (x - r.turns, -1) := by
  unfold acts
  rw [List.getElem?_append_left (by simp; omega)]
  simp [show x.toNat < (2 * r.turns + 1).toNat by omega]
  omega
theorem acts_weight {r : Rules} {x : Int} (h0 : 0 ≤ x) (h : x < r.ws.length) : (acts r)[(2 * r.turns + 1).toNat + x.toNat]? = some (0, x) := by
  unfold acts
  rw [List.getElem?_append_right (by simp)]
  simp [show x.toNat < r.ws.length by omega]
  omega

theorem calm_below {B : Nat} {w w' : World} (h : Below w.heap.size w w') : CalmFrom B w w' := ⟨h.os, h.tape, h.output, h.size, fun k o hk _ => (h.block k (lt_of_some hk)).trans hk⟩

theorem yield_mono {P : Program} {l : Nat} {args : Array Value} {w : World} {R S : Ending → World → Prop} (h : YieldAt Fence.wide 0 P l args w R) (hs : ∀ e w', R e w' → S e w') : YieldAt Fence.wide 0 P l args w S := by
  obtain ⟨fn, tmps, assign, body, hy, hR⟩ := h
  exact ⟨fn, tmps, assign, body, hy, hR.mono hs⟩

theorem acts_iter {r : Rules} (hr : Good r) {a : Option Addr} {c sb tm : Nat} : Iter Try.prog 69 [.pointer (some ⟨sb, 0, none⟩)] [] ((acts r).map actV) (ShopAt r a c sb tm) := by
  intro l J Jx W hJ hJx hInv hY h0
  have ht := hr.2.2.2.2.1
  have hlen := hr.1
  have mvJ : ∀ {G k w w'}, J G k w → Kept [] w w' → J G k w' := fun h hk => hJ _ _ _ _ _ h (calm_below (kept_nil hk)) (fun _ h => h) fun _ h => .inl h
  have mvX : ∀ {G k w w'}, Jx G k w → Kept [] w w' → Jx G k w' := fun h hk => hJx _ _ _ _ _ h (calm_below (kept_nil hk)) (fun _ h => h) fun _ h => .inl h
  have kx : ∀ {G : Nat → Prop} {w w' : World}, RoundKeeps G w w' → KeepX false W.heap.size [] (fun _ => False) w w' := fun h => .own h.os h.tape h.output h.size (by simp) (by simp) (by simp)
  refine vc69 _ _ _ W _ ⟨_, (hInv _ _ _ h0).cell (i := 4) rfl, by omega, by omega,
    fun ls w => match ls with | [.int _ x] => 0 ≤ x ∧ x ≤ 2 * r.turns + 1 ∧ J (fun _ => False) x.toNat w | _ => False, fun ls => match ls with | [.int _ x] => (2 * r.turns + 1 - x).toNat | _ => 0,
    fun w1 hk => ⟨by omega, by omega, mvJ h0 hk⟩, ?_⟩
  rintro x w2 ⟨h1, h2, hj⟩
  refine ⟨fun h3 => ⟨_, (hInv _ _ _ hj).cell (i := 4) rfl, by omega, fun w3 hk3 => ⟨l, rfl, ?_⟩⟩, fun h3 => ?_⟩
  · refine yield_mono (hY _ _ (actV (x - r.turns, -1)) _ (mvJ hj hk3) (fun _ h => h.elim) (by rw [List.getElem?_map, acts_turn h1 h3]; rfl)) fun e w4 he => ?_
    obtain ⟨t, rfl, hrk, hT, hF⟩ := he
    refine ⟨t, rfl, kx hrk, fun h w5 hk5 => ⟨⟨_, rfl⟩, _, .inr ⟨_, mvX (hF (by simpa using h)) hk5⟩⟩, fun h => ⟨by omega, fun w6 hk6 => ⟨⟨by omega, by omega, ?_⟩, ?_⟩⟩⟩
    · rw [show (x + 1).toNat = x.toNat + 1 by omega]
      exact mvJ (hT (by simpa using h)) hk6
    · show (2 * r.turns + 1 - (x + 1)).toNat < (2 * r.turns + 1 - x).toNat
      omega
  · obtain rfl : x = 2 * r.turns + 1 := by omega
    refine ⟨_, _, _, (hInv _ _ _ hj).cell (i := 5) rfl, fun ls w => match ls with | [.int _ y] => 0 ≤ y ∧ y ≤ r.ws.length ∧ J (fun _ => False) ((2 * r.turns + 1).toNat + y.toNat) w | _ => False, fun ls => match ls with | [.int _ y] => ((r.ws.length : Int) - y).toNat | _ => 0,
      fun w7 hk7 => ⟨by omega, by omega, mvJ hj hk7⟩, ?_⟩
    rintro y w8 ⟨g1, g2, hj8⟩
    refine ⟨fun g3 w9 hk9 => ⟨l, rfl, ?_⟩, fun g3 w13 hk13 => ⟨⟨_, rfl⟩, fun _ => False, .inl ?_⟩⟩
    · refine yield_mono (hY _ _ (actV (0, y)) _ (mvJ hj8 hk9) (fun _ h => h.elim) (by rw [List.getElem?_map, acts_weight g1 g3]; rfl)) fun e w10 he => ?_
      obtain ⟨t, rfl, hrk, hT, hF⟩ := he
      refine ⟨t, rfl, kx hrk, fun h w11 hk11 => ⟨⟨_, rfl⟩, _, .inr ⟨_, mvX (hF (by simpa using h)) hk11⟩⟩, fun h => ⟨by omega, fun w12 hk12 => ⟨⟨by omega, by omega, ?_⟩, ?_⟩⟩⟩
      · rw [show (2 * r.turns + 1).toNat + (y + 1).toNat = (2 * r.turns + 1).toNat + y.toNat + 1 by omega]
        exact mvJ (hT (by simpa using h)) hk12
      · show ((r.ws.length : Int) - (y + 1)).toNat < ((r.ws.length : Int) - y).toNat
        omega
    · have := mvJ hj8 hk13
      rw [List.length_map, acts_len]
      rw [show y.toNat = r.ws.length by omega] at this
      exact this
end Go.Proofs.R07
end
section
/- Tables: what they are, and what is kept of them. -/
namespace Go.Proofs.R07
open Go.Vc Go.RowKit Go.Proofs

def addTo (r : Rules) (u : Nat) (im : Nat → Int → Int) (a : Int × Int) (x t : Int) : Int :=
  match shift r u a with
  | none => t
  | some p => if -300 ≤ x + p.1 ∧ x + p.1 ≤ 300 then max t (min (im (if a.2 = -1 then u else put u a.2.toNat) (x + p.1) - p.2) 300) else t
def stateV (r : Rules) : Nat → Nat → Int → Int
  | 0, _, x => goodTo r x
  | v + 1, u, x => (acts r).foldl (fun t a => addTo r u (fun u' => imgOf (2 * r.err) (stateV r v u')) a x t) (goodTo r x)
def imageV (r : Rules) (v u : Nat) : Int → Int := imgOf (2 * r.err) (stateV r v u)
theorem stateV_succ (r : Rules) (v u : Nat) (x : Int) : stateV r (v + 1) u x = (acts r).foldl (fun t a => addTo r u (imageV r v) a x t) (goodTo r x) := rfl

theorem goodTo_bound {r : Rules} (hr : Good r) {x : Int} (h1 : -300 ≤ x) (h2 : x ≤ 300) : -301 ≤ goodTo r x ∧ goodTo r x ≤ 300 := by
  have := hr.2.1
  unfold goodTo
  split <;> omega
theorem addTo_bound {r : Rules} {u : Nat} {im : Nat → Int → Int} {a : Int × Int} {x t : Int} (h1 : -301 ≤ t) (h2 : t ≤ 300) : -301 ≤ addTo r u im a x t ∧ addTo r u im a x t ≤ 300 := by
  unfold addTo
  split
  · exact ⟨h1, h2⟩
  · split <;> omega
theorem fold_bound {r : Rules} {u : Nat} {im : Nat → Int → Int} {x : Int} : ∀ {l : List (Int × Int)} {t : Int}, -301 ≤ t → t ≤ 300 → -301 ≤ l.foldl (fun t a => addTo r u im a x t) t ∧ l.foldl (fun t a => addTo r u im a x t) t ≤ 300
  | [], t, h1, h2 => ⟨h1, h2⟩
  | a :: l, t, h1, h2 => fold_bound (l := l) (addTo_bound h1 h2).1 (addTo_bound h1 h2).2
theorem stateV_bound {r : Rules} (hr : Good r) {v u : Nat} {x : Int} (h1 : -300 ≤ x) (h2 : x ≤ 300) : -301 ≤ stateV r v u x ∧ stateV r v u x ≤ 300 := by
  have := goodTo_bound hr h1 h2
  cases v with
  | zero => exact this
  | succ v => exact fold_bound this.1 this.2
theorem imgN_bound {e : Int} (he : 0 ≤ e) {st : Int → Int} (hs : ∀ x, -300 ≤ x → x ≤ 300 → -301 ≤ st x ∧ st x ≤ 300) : ∀ {n : Nat}, n ≤ 600 → -301 ≤ imgN e st n ∧ imgN e st n ≤ 300
  | 0, _ => by have := hs 300 (by omega) (by omega); simp only [imgN]; split <;> omega
  | n + 1, h => by
    have h1 := hs (299 - n) (by omega) (by omega)
    have h2 := imgN_bound he hs (n := n) (by omega)
    simp only [imgN]
    split <;> omega
theorem imageV_bound {r : Rules} (hr : Good r) {v u : Nat} {x : Int} (h1 : -300 ≤ x) (h2 : x ≤ 300) : -301 ≤ imageV r v u x ∧ imageV r v u x ≤ 300 :=
  imgN_bound (by have := hr.2.2.1; omega) (fun _ h3 h4 => stateV_bound hr h3 h4) (by omega)

def FullT (w : World) (tb : Nat) (st im : Int → Int) : Prop := ∃ l, TabL w tb l ∧ l.length = 1202 ∧ StOf l st ∧ ImFrom l im (-301)
theorem FullT.lt {w : World} {tb : Nat} {st im : Int → Int} (h : FullT w tb st im) : tb < w.heap.size := by obtain ⟨l, h, _⟩ := h; exact lt_of_some h
theorem FullT.of {w w' : World} {tb : Nat} {st im : Int → Int} (h : FullT w tb st im) (hb : w'.heap[tb]? = w.heap[tb]?) : FullT w' tb st im := by obtain ⟨l, h, h2⟩ := h; exact ⟨l, hb.trans h, h2⟩
theorem FullT.st {w : World} {tb : Nat} {st im : Int → Int} (h : FullT w tb st im) {x : Int} (h1 : -300 ≤ x) (h2 : x ≤ 300) : w.cell? ⟨tb, (x + 300).toNat, none⟩ = some (I (st x)) := by
  obtain ⟨l, ht, _, hs, _⟩ := h; exact ht.cell (hs x h1 h2)
theorem FullT.im {w : World} {tb : Nat} {st im : Int → Int} (h : FullT w tb st im) {x : Int} (h1 : -300 ≤ x) (h2 : x ≤ 300) : w.cell? ⟨tb, 601 + (x + 300).toNat, none⟩ = some (I (im x)) := by
  obtain ⟨l, ht, _, _, hi⟩ := h; exact ht.cell (hi x h1 h2 (by omega))

def look (m : List ((Int × Int) × Value)) (k : Int × Int) : Option Value := @List.lookup _ _ instBEqOfDecidableEq k m
theorem look_add' {K : Type} [DecidableEq K] {m : List (K × Value)} {k k' : K} {v : Value} : (m ++ [(k, v)]).lookup k' = (m.lookup k').or (if k' = k then some v else none) := by
  rw [List.lookup_append]
  congr 1
  by_cases h : k' = k
  · subst h; simp [List.lookup]
  · have : (k' == k) = false := by simpa using h
    simp [List.lookup, h, this]
theorem look_add {m : List ((Int × Int) × Value)} {k k' : Int × Int} {v : Value} : look (m ++ [(k, v)]) k' = (look m k').or (if k' = k then some v else none) := look_add'

/-- The shop, and the tables that it has; 'ns' are blocks that are none of these. -/
structure Inv (r : Rules) (a : Option Addr) (c sb tm : Nat) (ks : List (Int × Int)) (ns : List Nat) (w : World) : Prop where
  shop : ShopAt r a c sb tm w
  sbn : sb ∉ ns
  tmn : tm ∉ ns
  cells : ∀ i v, (spans r.ws)[i]? = some v → ∃ b o, a = some ⟨b, o, none⟩ ∧ b ∉ ns ∧ w.cell? ⟨b, o + i, none⟩ = some v
  map : ∃ m, MapIs w tm encL m ∧ (∀ k v, look m k = some v → ∃ vis u tb : Nat, k = ((vis : Int), (u : Int)) ∧ v = .pointer (some ⟨tb, 0, none⟩) ∧ tb ∉ ns ∧ tb ≠ sb ∧ FullT w tb (stateV r vis u) (imageV r vis u)) ∧ ∀ k ∈ ks, look m k = none

section
variable {r : Rules} {a : Option Addr} {c sb tm : Nat} {ks : List (Int × Int)} {ns : List Nat} {w w' : World}

theorem Inv.tm_map (h : Inv r a c sb tm ks ns w) : ∃ es cl, w.heap[tm]? = some (.map es cl) := by
  obtain ⟨m, ⟨es, cl, h1, _⟩, _⟩ := h.map; exact ⟨es, cl, h1⟩
theorem Inv.row (h : Inv r a c sb tm ks ns w) : Cells w a (spans r.ws) := fun i v hi => by obtain ⟨b, o, h1, _, h2⟩ := h.cells i v hi; exact ⟨b, o, h1, h2⟩
theorem Inv.ne (h : Inv r a c sb tm ks ns w) : sb ≠ tm := fun e => by
  obtain ⟨es, cl, h1⟩ := h.tm_map
  have := h.shop
  unfold ShopAt at this
  rw [e, h1] at this; cases this
theorem Inv.tm_lt (h : Inv r a c sb tm ks ns w) : tm < w.heap.size := by obtain ⟨es, cl, h1⟩ := h.tm_map; exact lt_of_some h1
theorem tab_ne (h : Inv r a c sb tm ks ns w) {tb : Nat} {st im : Int → Int} (ht : FullT w tb st im) : tb ≠ tm := fun e => by
  obtain ⟨es, cl, h1⟩ := h.tm_map
  obtain ⟨l, h2, _⟩ := ht
  unfold TabL at h2
  rw [e, h1] at h2; cases h2
theorem tab_sb (h : Inv r a c sb tm ks ns w) {tb : Nat} {l : List Int} (ht : TabL w tb l) : tb ≠ sb := fun e => by
  have := h.shop
  unfold ShopAt at this; unfold TabL at ht
  rw [e, this] at ht
  simp only [Option.some.injEq, Obj.cells.injEq] at ht
  have := ht.2.1
  revert this; decide

/-- What is neither among these blocks nor in the map may change. -/
theorem Inv.keepIn (h : Inv r a c sb tm ks ns w) (hk : ∀ k o, w.heap[k]? = some o → isCtl o = false → k ∉ ns → w'.heap[k]? = some o) : Inv r a c sb tm ks ns w' := by
  obtain ⟨m, hm, hmt, hab⟩ := h.map
  have hmm := hm
  obtain ⟨es, cl, h1, h2⟩ := hm
  refine ⟨hk _ _ h.shop rfl h.sbn, h.sbn, h.tmn, fun i v hi => ?_, m, ⟨es, cl, hk _ _ h1 rfl h.tmn, h2⟩, fun k v hv => ?_, hab⟩
  · obtain ⟨b, o, e, hb, hc⟩ := h.cells i v hi
    refine ⟨b, o, e, hb, ?_⟩
    unfold World.cell? at hc ⊢
    simp only at hc ⊢
    split at hc
    · rename_i x1 x2 x3 hx; rw [hk _ _ hx rfl hb]; exact hc
    · cases hc
  · obtain ⟨vis, u, tb, e1, e2, e3, e4, l, e5, e6⟩ := hmt k v hv
    exact ⟨vis, u, tb, e1, e2, e3, e4, l, hk _ _ e5 rfl e3, e6⟩
theorem Inv.chg {S : List Nat} (h : Inv r a c sb tm ks ns w) (hc : Chg S w w') (hs : ∀ x ∈ S, x ∈ ns) : Inv r a c sb tm ks ns w' :=
  h.keepIn fun k o hk _ hn => (hc.keep k (lt_of_some hk) fun hm => hn (hs k hm)).trans hk
theorem Inv.below (h : Inv r a c sb tm ks ns w) (hb : Below w.heap.size w w') : Inv r a c sb tm ks ns w' := h.keepIn fun k o hk _ _ => heap_keep hb hk
theorem Inv.calm {B : Nat} (h : Inv r a c sb tm ks ns w) (hc : CalmFrom B w w') : Inv r a c sb tm ks ns w' := h.keepIn fun k o hk hn _ => hc.keep k o hk (.inl hn)
theorem Inv.more {ns' : List Nat} (h : Inv r a c sb tm ks ns w) (hn : ∀ n ∈ ns', n ∈ ns ∨ w.heap.size ≤ n) : Inv r a c sb tm ks ns' w := by
  have ok : ∀ {b}, b ∉ ns → b < w.heap.size → b ∉ ns' := fun h1 h2 hm => by rcases hn _ hm with h | h; exact h1 h; omega
  obtain ⟨m, hm, hmt, hab⟩ := h.map
  refine ⟨h.shop, ok h.sbn h.shop.lt, ok h.tmn h.tm_lt, fun i v hi => ?_, m, hm, fun k v hv => ?_, hab⟩
  · obtain ⟨b, o, e, hb, hc⟩ := h.cells i v hi
    exact ⟨b, o, e, ok hb (cell_lt hc), hc⟩
  · obtain ⟨vis, u, tb, e1, e2, e3, e4, e5⟩ := hmt k v hv
    exact ⟨vis, u, tb, e1, e2, ok e3 e5.lt, e4, e5⟩
theorem Inv.grow (h : Inv r a c sb tm ks ns w) {ms : List Nat} (hm : ∀ m ∈ ms, w.heap.size ≤ m) : Inv r a c sb tm ks (ms ++ ns) w := h.more fun n hn => by
  rcases List.mem_append.1 hn with hn | hn
  · exact .inr (hm n hn)
  · exact .inl hn
theorem Inv.less {ns' : List Nat} (h : Inv r a c sb tm ks ns w) (hn : ∀ n ∈ ns', n ∈ ns) : Inv r a c sb tm ks ns' w := h.more fun n hm => .inl (hn n hm)
theorem Inv.drop {ms : List Nat} (h : Inv r a c sb tm ks (ms ++ ns) w) : Inv r a c sb tm ks ns w := h.less fun n hn => List.mem_append_right _ hn
end

/-- One step more, of which what changes is allowed, or new. -/
theorem Chg.snoc {S T : List Nat} {a b c : World} (h : Chg S a b) (k : Chg T b c) (hs : ∀ x ∈ T, x ∈ S ∨ a.heap.size ≤ x) : Chg S a c :=
  ⟨k.os.trans h.os, k.tape.trans h.tape, k.output.trans h.output, Nat.le_trans h.size k.size, fun i hi hn => (k.keep i (Nat.lt_of_lt_of_le hi h.size) fun hm => by rcases hs i hm with h | h; exact hn h; omega).trans (h.keep i hi hn)⟩
theorem TabL.chg {S : List Nat} {w w' : World} {tb : Nat} {l : List Int} (h : TabL w tb l) (hc : Chg S w w') (hs : tb ∉ S) : TabL w' tb l := (hc.keep tb (lt_of_some h) hs).trans h
theorem FullT.chg {S : List Nat} {w w' : World} {tb : Nat} {st im : Int → Int} (h : FullT w tb st im) (hc : Chg S w w') (hs : tb ∉ S) : FullT w' tb st im := h.of (hc.keep tb h.lt hs)

/-- THE CONTRACT OF table. -/
def TablePost (r : Rules) (a : Option Addr) (c sb tm : Nat) (ks : List (Int × Int)) (ns : List Nat) (v u : Nat) (w : World) (e : Ending) (w' : World) : Prop :=
  ∃ tb, e = .returned (.pointer (some ⟨tb, 0, none⟩)) ∧ Chg [tm] w w' ∧ Inv r a c sb tm ks ns w' ∧ tb ∉ ns ∧ FullT w' tb (stateV r v u) (imageV r v u)
def TableOk (r : Rules) (v : Nat) : Prop := ∀ (a : Option Addr) (c sb tm : Nat) (ks : List (Int × Int)) (ns : List Nat) (u : Nat) (w : World), (∀ k ∈ ks, (v : Int) < k.1) → u < 8 → Inv r a c sb tm ks ns w → (∀ n ∈ ns, n < w.heap.size) → Calls Try.prog 67 #[.pointer (some ⟨sb, 0, none⟩), .agg #[I v, I u]] w (TablePost r a c sb tm ks ns v u w)
end Go.Proofs.R07
end
section
/- What an act adds to a table. -/
namespace Go.Proofs.R07
open Go.Vc Go.RowKit Go.Proofs

/-- add's loop: what is done of the table. -/
structure AddInv (r : Rules) (a : Option Addr) (c sb tm : Nat) (ks : List (Int × Int)) (NS : List Nat) (v u : Nat) (act : Int × Int) (tb : Nat) (t0 : Int → Int) (t2 u2 : Nat) (w0 : World) (x : Int) (w : World) : Prop where
  lo : -300 ≤ x
  hi : x ≤ 301
  inv : Inv r a c sb tm ks NS w
  chg : Chg [tm, tb] w0 w
  img : FullT w t2 (stateV r v u2) (imageV r v u2)
  tab : ∃ l, TabL w tb l ∧ l.length = 1202 ∧ ∀ y : Int, -300 ≤ y → y ≤ 300 → l[(y + 300).toNat]? = some (if y < x then addTo r u (imageV r v) act y (t0 y) else t0 y)

section
variable {r : Rules} {a : Option Addr} {c sb tm : Nat} {ks : List (Int × Int)} {NS : List Nat} {v u : Nat} {act : Int × Int} {tb : Nat} {t0 : Int → Int} {t2 u2 : Nat} {w0 : World} {x : Int} {w w' : World}
theorem AddInv.step (h : AddInv r a c sb tm ks NS v u act tb t0 t2 u2 w0 x w) {S : List Nat} (hc : Chg S w w') (hn : ∀ s ∈ S, s ∈ NS ∨ w.heap.size ≤ s) (h0 : ∀ s ∈ S, w0.heap.size ≤ s) (htb : tb < w0.heap.size) (ht2 : t2 ∉ NS) : AddInv r a c sb tm ks NS v u act tb t0 t2 u2 w0 x w' := by
  obtain ⟨l, e1, e2, e3⟩ := h.tab
  have hI := (h.inv.more (ns' := NS ++ S) fun n hm => by
    rcases List.mem_append.1 hm with hm | hm
    · exact .inl hm
    · exact hn n hm)
  refine ⟨h.lo, h.hi, (hI.chg hc fun s hs => List.mem_append_right _ hs).less fun n hn => List.mem_append_left _ hn, R07.Chg.snoc h.chg hc fun s hs => .inr (h0 s hs), h.img.chg hc fun hm => ?_, l, e1.chg hc fun hm => ?_, e2, e3⟩
  · rcases hn _ hm with hm | hm
    · exact ht2 hm
    · have := h.img.lt; omega
  · have := h0 _ hm; omega
theorem AddInv.grow (h : AddInv r a c sb tm ks NS v u act tb t0 t2 u2 w0 x w) {m : Nat} (hm : w.heap.size ≤ m) : AddInv r a c sb tm ks (m :: NS) v u act tb t0 t2 u2 w0 x w :=
  ⟨h.lo, h.hi, h.inv.grow (ms := [m]) (by simpa using hm), h.chg, h.img, h.tab⟩
theorem AddInv.drop {m : Nat} (h : AddInv r a c sb tm ks (m :: NS) v u act tb t0 t2 u2 w0 x w) : AddInv r a c sb tm ks NS v u act tb t0 t2 u2 w0 x w :=
  ⟨h.lo, h.hi, h.inv.drop (ms := [m]), h.chg, h.img, h.tab⟩
theorem AddInv.skip (h : AddInv r a c sb tm ks NS v u act tb t0 t2 u2 w0 x w) (hx : x ≤ 300) (he : addTo r u (imageV r v) act x (t0 x) = t0 x) : AddInv r a c sb tm ks NS v u act tb t0 t2 u2 w0 (x + 1) w := by
  obtain ⟨l, e1, e2, e3⟩ := h.tab
  have := h.lo
  refine ⟨by omega, by omega, h.inv, h.chg, h.img, l, e1, e2, fun y h1 h2 => ?_⟩
  rw [e3 y h1 h2]
  by_cases hy : y = x
  · subst hy; rw [if_neg (by omega), if_pos (by omega), he]
  · by_cases hyx : y < x
    · rw [if_pos hyx, if_pos (by omega)]
    · rw [if_neg hyx, if_neg (by omega)]
theorem AddInv.store (h : AddInv r a c sb tm ks NS v u act tb t0 t2 u2 w0 x w) (hx : x ≤ 300) {l : List Int} (hl : TabL w tb l) (hc : Chg [tb] w w') (htN : tb ∈ NS) (ht2 : t2 ≠ tb) (ht : TabL w' tb (l.set (x + 300).toNat (addTo r u (imageV r v) act x (t0 x)))) : AddInv r a c sb tm ks NS v u act tb t0 t2 u2 w0 (x + 1) w' := by
  obtain ⟨l', e1, e2, e3⟩ := h.tab
  have hll : l' = l := by
    unfold TabL at hl e1
    rw [e1] at hl
    simp only [Option.some.injEq, Obj.cells.injEq, ints] at hl
    have := hl.1
    have h2 : l'.map (Value.int .i64) = l.map (Value.int .i64) := by simpa using congrArg Array.toList this
    exact List.map_inj_right (fun x y h => by injection h) |>.1 h2
  subst hll
  have := h.lo
  refine ⟨by omega, by omega, h.inv.chg hc fun s hs => by rw [List.mem_singleton.1 hs]; exact htN, R07.Chg.snoc h.chg hc fun s hs => .inl (by simp at hs ⊢; exact .inr hs), h.img.chg hc (by simpa using ht2), _, ht, by simpa using e2, fun y h1 h2 => ?_⟩
  by_cases hy : y = x
  · subst hy; rw [List.getElem?_set_self (by omega), if_pos (by omega)]
  · rw [List.getElem?_set_ne (by omega), e3 y h1 h2]
    by_cases hyx : y < x
    · rw [if_pos hyx, if_pos (by omega)]
    · rw [if_neg hyx, if_neg (by omega)]
end

def AddPost (r : Rules) (a : Option Addr) (c sb tm : Nat) (ks : List (Int × Int)) (ns : List Nat) (v u : Nat) (act : Int × Int) (tb : Nat) (t0 : Int → Int) (w : World) (e : Ending) (w' : World) : Prop :=
  e = .returned (.tuple #[]) ∧ Chg [tm, tb] w w' ∧ Inv r a c sb tm ks (tb :: ns) w' ∧ ∃ l', TabL w' tb l' ∧ l'.length = 1202 ∧ StOf l' (fun x => addTo r u (imageV r v) act x (t0 x))

set_option maxHeartbeats 2000000 in
theorem add_any {r : Rules} (hr : Good r) {v : Nat} (hT : TableOk r v) {a : Option Addr} {c sb tm tb u : Nat} {ks : List (Int × Int)} {ns : List Nat} (hks : ∀ k ∈ ks, (v : Int) < k.1) (hu : u < 8) {w : World} (hI : Inv r a c sb tm ks (tb :: ns) w) (hns : ∀ n ∈ tb :: ns, n < w.heap.size)
    {l : List Int} {t0 : Int → Int} (ht : TabL w tb l) (hl : l.length = 1202) (hst : StOf l t0) (act : Int × Int) (hv : v < 100) :
    Calls Try.prog 79 #[.pointer (some ⟨sb, 0, none⟩), .pointer (some ⟨tb, 0, none⟩), .agg #[I ((v : Int) + 1), I u], .agg #[I act.1, I act.2]] w (AddPost r a c sb tm ks ns v u act tb t0 w) := by
  obtain ⟨a0, a1⟩ := act
  have htb := hns tb (by simp)
  have htm := hI.tm_lt
  have hne : tm ≠ tb := fun e => hI.tmn (by simp [e])
  refine vc79 _ _ _ _ _ _ _ _ w _ fun m1 h1 m2 h2 w1 hk1 => ?_
  have I1 : Inv r a c sb tm ks (m2 :: m1 :: tb :: ns) w1 := (hI.grow (ms := [m2, m1]) (by simp; omega)).chg (Chg.kept hk1) (by simp)
  have C1 : Chg [tm, tb] w w1 := R07.Chg.snoc (.refl _ _) (Chg.kept hk1) (by simp; omega)
  refine ShiftPost.calls (shift_any hr hu I1.shop I1.row (a0, a1)) fun lo hi w2 hb2 hp => ⟨_, _, _, rfl, .all hb2, fun m3 h3 => ⟨fun hf w3 hk3 => ?_, fun hf => ⟨by omega, fun m4 h4 => ?_⟩⟩⟩
  · have I3 := ((I1.below hb2).grow (ms := [m3]) (by simp; omega)).chg (Chg.kept hk3) (by simp)
    have C3 : Chg [tm, tb] w w3 := R07.Chg.snoc (R07.Chg.snoc C1 (.of_below (S := []) hb2) (by simp)) (Chg.kept hk3) (by have := C1.size; have := hb2.size; simp; omega)
    have hn : shift r u (a0, a1) = none := by
      cases hs : shift r u (a0, a1)
      · rfl
      · rw [hs] at hf; cases hf
    have hne3 : tb ∉ [m3, m2, m1] := by have := C1.size; have := hb2.size; simp; omega
    refine ⟨rfl, C3, I3.drop (ms := [m3, m2, m1]), l, ((ht.chg (Chg.kept hk1) (by simp; omega)).keep hb2).chg (Chg.kept hk3) hne3, hl, fun x hx1 hx2 => ?_⟩
    rw [hst x hx1 hx2]
    simp [addTo, hn]
  have s1 := C1.size
  have s2 := hb2.size
  cases hs : shift r u (a0, a1) with
  | none => rw [hs] at hf; cases hf
  | some p =>
  have hpe := hp p hs
  subst hpe
  have hbd := shift_bound hr hs
  simp only at hbd
  obtain ⟨NS, hNS⟩ : ∃ NS, NS = m4 :: m3 :: m2 :: m1 :: tb :: ns := ⟨_, rfl⟩
  have T2 : TabL w2 tb l := (ht.chg (Chg.kept hk1) (by simp; omega)).keep hb2
  have I2 : Inv r a c sb tm ks NS w2 := by rw [hNS]; exact (I1.below hb2).grow (ms := [m4, m3]) (by simp; omega)
  have C2 : Chg [tm, tb] w w2 := R07.Chg.snoc C1 (.of_below (S := []) hb2) (by simp)
  have hm : ∀ b ∈ [m4, m3, m2, m1], b ∈ NS ∧ w.heap.size ≤ b := by rw [hNS]; simp; omega
  have own1 := hk1.own
  obtain ⟨u2, hU⟩ : ∃ u2, u2 = if a1 = -1 then u else put u a1.toNat := ⟨_, rfl⟩
  have hu2 : u2 < 8 := by
    rw [hU]; split
    · exact hu
    · rename_i hy; have := shift_weight hr hs hy; exact put_lt hu (by simp only at this; omega)
  have hv1 : ((v : Int) + 1 - 1) = v := by omega
  -- the worlds before the call of table
  have pre : ∀ {w6 : World}, Chg [m4, m3, m2, m1] w2 w6 → (∀ b ∈ [m4, m3, m2, m1], b < w6.heap.size) → Inv r a c sb tm ks NS w6 ∧ Chg [tm, tb] w w6 ∧ TabL w6 tb l ∧ ∀ n ∈ NS, n < w6.heap.size := fun {w6} hc ho =>
    ⟨I2.chg hc fun b hb => (hm b hb).1, R07.Chg.snoc C2 hc fun b hb => .inr (hm b hb).2, T2.chg hc fun hb => by have := (hm _ hb).2; omega, fun n hn => by
      rw [hNS] at hn
      have := hc.size
      simp only [List.mem_cons] at hn
      rcases hn with rfl | rfl | rfl | rfl | hn
      · exact ho _ (by simp)
      · exact ho _ (by simp)
      · exact ho _ (by simp)
      · exact ho _ (by simp)
      · have := hns n (by simpa using hn); omega⟩
  refine ⟨fun hy w4 hk4 => ?_, fun hy w6 hk6 => ?_⟩
  · have hy3 := shift_weight hr hs hy
    simp only at hy3
    have hyn : a1 = (a1.toNat : Int) := by omega
    have hput := put_any hu (i := a1.toNat) (by omega) w4
    rw [← hyn] at hput
    refine Pure.calls hput fun w5 hb5 => ⟨_, rfl, .all hb5, fun w6 hk6 => ?_⟩
    obtain ⟨I6, C6, T6, N6⟩ := pre (w6 := w6) (((Chg.kept hk4).trans (.of_below hb5)).trans (Chg.kept hk6)) hk6.own
    have hcall := hT a c sb tm ks NS u2 w6 hks hu2 I6 N6
    have eU : (u2 : Int) = (put u a1.toNat : Nat) := by rw [hU, if_neg hy]
    rw [eU] at hcall
    rw [hv1]
    refine hcall.mono fun e w7 he => ?_
    obtain ⟨t2, rfl, hcT, I7, ht2, hF⟩ := he
    have s7 := hcT.size
    have htbN : tb ∈ NS := by rw [hNS]; simp
    have ht2b : t2 ≠ tb := fun e => ht2 (e ▸ htbN)
    refine ⟨_, rfl, hcT.own (fun b hb => ⟨N6 b (hm b hb).1, fun hm' => I6.tmn (by rw [← List.mem_singleton.1 hm']; exact (hm b hb).1)⟩) (by simp) (by simp), t2, 0, rfl, trivial, fun ls w' => match ls with | [.int _ x] => AddInv r a c sb tm ks NS v u (a0, a1) tb t0 t2 u2 w x w' | _ => False, fun ls => match ls with | [.int _ x] => (301 - x).toNat | _ => 0, fun w8 hk8 => ?_, ?_⟩
    · have A7 : AddInv r a c sb tm ks NS v u (a0, a1) tb t0 t2 u2 w (-300) w7 := ⟨by omega, by omega, I7, R07.Chg.snoc C6 hcT (by simp), hF, l, T6.chg hcT (by simpa using fun e => hne e.symm), hl, fun y hy1 hy2 => by rw [hst y hy1 hy2, if_neg (by omega)]⟩
      exact A7.step (Chg.kept hk8) (fun b hb => .inl (hm b hb).1) (fun b hb => (hm b hb).2) htb ht2
    rintro x w9 A9
    have hx0 := A9.lo
    have ht29 := A9.img.lt
    refine ⟨fun hx => ⟨by omega, fun m7 h7 w10 hk10 hc10 => ?_⟩, fun hx w20 hk20 => ?_⟩
    · have s9 := A9.chg.size
      have hM : ∀ b ∈ [m7, m4, m3, m2, m1], b ∈ m7 :: NS ∧ w.heap.size ≤ b := fun b hb => by
        rcases List.mem_cons.1 hb with rfl | hb
        · exact ⟨List.mem_cons_self, by omega⟩
        · exact ⟨List.mem_cons_of_mem _ (hm b hb).1, (hm b hb).2⟩
      have ht2' : t2 ∉ m7 :: NS := fun hh => by rcases List.mem_cons.1 hh with rfl | hh; exact absurd ht29 (by omega); exact ht2 hh
      have hbM : ∀ {b}, b < w.heap.size → b < w.heap.size ∨ b ≠ m7 ∧ b ≠ m4 ∧ b ≠ m3 ∧ b ≠ m2 ∧ b ≠ m1 := fun h => .inl h
      have ht2M : t2 ≠ m7 ∧ t2 ≠ m4 ∧ t2 ≠ m3 ∧ t2 ≠ m2 ∧ t2 ≠ m1 := ⟨by omega, fun e => ht2 (e ▸ (hm m4 (by simp)).1), fun e => ht2 (e ▸ (hm m3 (by simp)).1), fun e => ht2 (e ▸ (hm m2 (by simp)).1), fun e => ht2 (e ▸ (hm m1 (by simp)).1)⟩
      have go : ∀ {w'}, Chg [m7, m4, m3, m2, m1] w9 w' → AddInv r a c sb tm ks (m7 :: NS) v u (a0, a1) tb t0 t2 u2 w x w' := fun hc => (A9.grow h7).step hc (fun b hb => .inl (hM b hb).1) (fun b hb => (hM b hb).2) htb ht2'
      refine Pure.calls (one_in hc10) fun w11 hb11 => ⟨_, rfl, .all hb11, fun hin w12 hk12 => ?_, fun hin => ⟨by omega, fun w19 hk19 => ⟨?_, ?_⟩⟩⟩
      · have hin' := (within_one (-300) 300 (x + lo)).1 hin
        have c12 : Chg [m7, m4, m3, m2, m1] w9 w12 := ((Chg.kept hk10).trans (.of_below hb11)).trans (Chg.kept hk12)
        refine Pure.calls (at_any (by omega) (by omega) w12) fun w13 hb13 => ⟨_, rfl, .all hb13, fun w14 hk14 => ?_⟩
        have c13 := c12.trans (.of_below hb13)
        have c14 : Chg [m7, m4, m3, m2, m1] w13 w14 := ⟨hk14.os, hk14.tape, hk14.output, hk14.size, fun k hk hn => hk14.block k hk hn ⟨_, List.mem_cons_self, Nat.zero_le _, hk⟩⟩
        refine Pure.calls (at_any (by omega) (by omega) w14) fun w15 hb15 => ?_
        have s14 := c14.size
        have s15 := hb15.size
        have c15 := (c13.trans c14).trans (.of_below hb15)
        have hk2 : ∀ {w' : World}, KeptIn [(0, w13.heap.size), (w14.heap.size, w15.heap.size)] [m7, m4, m3, m2, m1] w15 w' → Chg [m7, m4, m3, m2, m1] w13 w' := fun {w'} hk => ⟨hk.os.trans ((hb15.os).trans hk14.os), hk.tape.trans ((hb15.tape).trans hk14.tape), hk.output.trans ((hb15.output).trans hk14.output), by have := hk.size; omega, fun k hk1 hn => by
          rw [hk.block k (by omega) hn ⟨_, List.mem_cons_self, Nat.zero_le _, hk1⟩, hb15.block k (by omega)]
          exact c14.keep k hk1 hn⟩
        obtain ⟨l13, e1, e2, e3⟩ := (go c13).tab
        have hx5 := e3 x hx0 hx
        rw [if_neg (by omega)] at hx5
        have im15 := (go c15).img.im (x := x + lo) hin'.1 hin'.2
        have bim := imageV_bound hr (v := v) (u := u2) hin'.1 hin'.2
        refine ⟨_, rfl, hb15, tb, _, rfl, trivial, t0 x, ?_, .inl htb, t2, _, rfl, trivial, imageV r v u2 (x + lo), ?_, .inr ht2M, by omega, tb, _, rfl, trivial, fun w16 hk16 => ?_⟩
        · have := e1.cell hx5; simpa using this
        · simpa using im15
        have c16 := c13.trans (hk2 hk16)
        have A16 := go c16
        obtain ⟨l16, g1, g2, g3⟩ := A16.tab
        have hval : max (t0 x) (min (imageV r v u2 (x + lo) - hi) 300) = addTo r u (imageV r v) (a0, a1) x (t0 x) := by
          unfold addTo; rw [hs]; simp only; rw [if_pos hin', hU]
        rw [hval, show 0 + 0 + (x + 300).toNat = (x + 300).toNat by omega]
        refine store_tab g1 (by omega) fun w17 h17 c17 => ?_
        have A17 := A16.store hx g1 c17 (List.mem_cons_of_mem _ htbN) ht2b h17
        have s16 := c16.size
        have own10 := hk10.own
        have hk12s := hk12.size
        have s11 := hb11.size
        have s13 := hb13.size
        have own16 := hk16.own
        refine ⟨c17.own (fun b hb => ⟨own16 b hb, fun hm' => by have := (hM b hb).2; have := List.mem_singleton.1 hm'; omega⟩) (by simp) (by simp), by omega, fun w18 hk18 => ⟨(A17.step (Chg.kept hk18) (fun b hb => .inl (hM b hb).1) (fun b hb => (hM b hb).2) htb ht2').drop, ?_⟩⟩
        show (301 - (x + 1)).toNat < (301 - x).toNat
        omega
      · refine ((go (((Chg.kept hk10).trans (.of_below hb11)).trans (Chg.kept hk19))).skip hx ?_).drop
        unfold addTo; rw [hs]; simp only
        rw [if_neg fun hh => by rw [(within_one (-300) 300 (x + lo)).2 hh] at hin; cases hin]
      · show (301 - (x + 1)).toNat < (301 - x).toNat
        omega
    · have A20 := A9.step (Chg.kept hk20) (fun b hb => .inl (hm b hb).1) (fun b hb => (hm b hb).2) htb ht2
      obtain ⟨l20, g1, g2, g3⟩ := A20.tab
      have hh := A20.hi
      refine ⟨rfl, A20.chg, (hNS ▸ A20.inv).drop (ms := [m4, m3, m2, m1]), l20, g1, g2, fun y hy1 hy2 => ?_⟩
      rw [g3 y hy1 hy2, if_pos (by omega)]
  · obtain ⟨I6, C6, T6, N6⟩ := pre (w6 := w6) (Chg.kept hk6) hk6.own
    have hcall := hT a c sb tm ks NS u2 w6 hks hu2 I6 N6
    have eU : (u2 : Int) = u := by rw [hU, if_pos hy]
    rw [eU] at hcall
    rw [hv1]
    refine hcall.mono fun e w7 he => ?_
    obtain ⟨t2, rfl, hcT, I7, ht2, hF⟩ := he
    have s7 := hcT.size
    have htbN : tb ∈ NS := by rw [hNS]; simp
    have ht2b : t2 ≠ tb := fun e => ht2 (e ▸ htbN)
    refine ⟨_, rfl, hcT.own (fun b hb => ⟨N6 b (hm b hb).1, fun hm' => I6.tmn (by rw [← List.mem_singleton.1 hm']; exact (hm b hb).1)⟩) (by simp) (by simp), t2, 0, rfl, trivial, fun ls w' => match ls with | [.int _ x] => AddInv r a c sb tm ks NS v u (a0, a1) tb t0 t2 u2 w x w' | _ => False, fun ls => match ls with | [.int _ x] => (301 - x).toNat | _ => 0, fun w8 hk8 => ?_, ?_⟩
    · have A7 : AddInv r a c sb tm ks NS v u (a0, a1) tb t0 t2 u2 w (-300) w7 := ⟨by omega, by omega, I7, R07.Chg.snoc C6 hcT (by simp), hF, l, T6.chg hcT (by simpa using fun e => hne e.symm), hl, fun y hy1 hy2 => by rw [hst y hy1 hy2, if_neg (by omega)]⟩
      exact A7.step (Chg.kept hk8) (fun b hb => .inl (hm b hb).1) (fun b hb => (hm b hb).2) htb ht2
    rintro x w9 A9
    have hx0 := A9.lo
    have ht29 := A9.img.lt
    refine ⟨fun hx => ⟨by omega, fun m7 h7 w10 hk10 hc10 => ?_⟩, fun hx w20 hk20 => ?_⟩
    · have s9 := A9.chg.size
      have hM : ∀ b ∈ [m7, m4, m3, m2, m1], b ∈ m7 :: NS ∧ w.heap.size ≤ b := fun b hb => by
        rcases List.mem_cons.1 hb with rfl | hb
        · exact ⟨List.mem_cons_self, by omega⟩
        · exact ⟨List.mem_cons_of_mem _ (hm b hb).1, (hm b hb).2⟩
      have ht2' : t2 ∉ m7 :: NS := fun hh => by rcases List.mem_cons.1 hh with rfl | hh; exact absurd ht29 (by omega); exact ht2 hh
      have hbM : ∀ {b}, b < w.heap.size → b < w.heap.size ∨ b ≠ m7 ∧ b ≠ m4 ∧ b ≠ m3 ∧ b ≠ m2 ∧ b ≠ m1 := fun h => .inl h
      have ht2M : t2 ≠ m7 ∧ t2 ≠ m4 ∧ t2 ≠ m3 ∧ t2 ≠ m2 ∧ t2 ≠ m1 := ⟨by omega, fun e => ht2 (e ▸ (hm m4 (by simp)).1), fun e => ht2 (e ▸ (hm m3 (by simp)).1), fun e => ht2 (e ▸ (hm m2 (by simp)).1), fun e => ht2 (e ▸ (hm m1 (by simp)).1)⟩
      have go : ∀ {w'}, Chg [m7, m4, m3, m2, m1] w9 w' → AddInv r a c sb tm ks (m7 :: NS) v u (a0, a1) tb t0 t2 u2 w x w' := fun hc => (A9.grow h7).step hc (fun b hb => .inl (hM b hb).1) (fun b hb => (hM b hb).2) htb ht2'
      refine Pure.calls (one_in hc10) fun w11 hb11 => ⟨_, rfl, .all hb11, fun hin w12 hk12 => ?_, fun hin => ⟨by omega, fun w19 hk19 => ⟨?_, ?_⟩⟩⟩
      · have hin' := (within_one (-300) 300 (x + lo)).1 hin
        have c12 : Chg [m7, m4, m3, m2, m1] w9 w12 := ((Chg.kept hk10).trans (.of_below hb11)).trans (Chg.kept hk12)
        refine Pure.calls (at_any (by omega) (by omega) w12) fun w13 hb13 => ⟨_, rfl, .all hb13, fun w14 hk14 => ?_⟩
        have c13 := c12.trans (.of_below hb13)
        have c14 : Chg [m7, m4, m3, m2, m1] w13 w14 := ⟨hk14.os, hk14.tape, hk14.output, hk14.size, fun k hk hn => hk14.block k hk hn ⟨_, List.mem_cons_self, Nat.zero_le _, hk⟩⟩
        refine Pure.calls (at_any (by omega) (by omega) w14) fun w15 hb15 => ?_
        have s14 := c14.size
        have s15 := hb15.size
        have c15 := (c13.trans c14).trans (.of_below hb15)
        have hk2 : ∀ {w' : World}, KeptIn [(0, w13.heap.size), (w14.heap.size, w15.heap.size)] [m7, m4, m3, m2, m1] w15 w' → Chg [m7, m4, m3, m2, m1] w13 w' := fun {w'} hk => ⟨hk.os.trans ((hb15.os).trans hk14.os), hk.tape.trans ((hb15.tape).trans hk14.tape), hk.output.trans ((hb15.output).trans hk14.output), by have := hk.size; omega, fun k hk1 hn => by
          rw [hk.block k (by omega) hn ⟨_, List.mem_cons_self, Nat.zero_le _, hk1⟩, hb15.block k (by omega)]
          exact c14.keep k hk1 hn⟩
        obtain ⟨l13, e1, e2, e3⟩ := (go c13).tab
        have hx5 := e3 x hx0 hx
        rw [if_neg (by omega)] at hx5
        have im15 := (go c15).img.im (x := x + lo) hin'.1 hin'.2
        have bim := imageV_bound hr (v := v) (u := u2) hin'.1 hin'.2
        refine ⟨_, rfl, hb15, tb, _, rfl, trivial, t0 x, ?_, .inl htb, t2, _, rfl, trivial, imageV r v u2 (x + lo), ?_, .inr ht2M, by omega, tb, _, rfl, trivial, fun w16 hk16 => ?_⟩
        · have := e1.cell hx5; simpa using this
        · simpa using im15
        have c16 := c13.trans (hk2 hk16)
        have A16 := go c16
        obtain ⟨l16, g1, g2, g3⟩ := A16.tab
        have hval : max (t0 x) (min (imageV r v u2 (x + lo) - hi) 300) = addTo r u (imageV r v) (a0, a1) x (t0 x) := by
          unfold addTo; rw [hs]; simp only; rw [if_pos hin', hU]
        rw [hval, show 0 + 0 + (x + 300).toNat = (x + 300).toNat by omega]
        refine store_tab g1 (by omega) fun w17 h17 c17 => ?_
        have A17 := A16.store hx g1 c17 (List.mem_cons_of_mem _ htbN) ht2b h17
        have s16 := c16.size
        have own10 := hk10.own
        have hk12s := hk12.size
        have s11 := hb11.size
        have s13 := hb13.size
        have own16 := hk16.own
        refine ⟨c17.own (fun b hb => ⟨own16 b hb, fun hm' => by have := (hM b hb).2; have := List.mem_singleton.1 hm'; omega⟩) (by simp) (by simp), by omega, fun w18 hk18 => ⟨(A17.step (Chg.kept hk18) (fun b hb => .inl (hM b hb).1) (fun b hb => (hM b hb).2) htb ht2').drop, ?_⟩⟩
        show (301 - (x + 1)).toNat < (301 - x).toNat
        omega
      · refine ((go (((Chg.kept hk10).trans (.of_below hb11)).trans (Chg.kept hk19))).skip hx ?_).drop
        unfold addTo; rw [hs]; simp only
        rw [if_neg fun hh => by rw [(within_one (-300) 300 (x + lo)).2 hh] at hin; cases hin]
      · show (301 - (x + 1)).toNat < (301 - x).toNat
        omega
    · have A20 := A9.step (Chg.kept hk20) (fun b hb => .inl (hm b hb).1) (fun b hb => (hm b hb).2) htb ht2
      obtain ⟨l20, g1, g2, g3⟩ := A20.tab
      have hh := A20.hi
      refine ⟨rfl, A20.chg, (hNS ▸ A20.inv).drop (ms := [m4, m3, m2, m1]), l20, g1, g2, fun y hy1 hy2 => ?_⟩
      rw [g3 y hy1 hy2, if_pos (by omega)]
end Go.Proofs.R07
end
section
/- table: it is what the document's tables are. -/
namespace Go.Proofs.R07
open Go.Vc Go.RowKit Go.Proofs

theorem chg_in {w w' : World} {rs : List (Nat × Nat)} {bs : List Nat} (hk : KeptIn ((0, w.heap.size) :: rs) bs w w') : Chg bs w w' :=
  ⟨hk.os, hk.tape, hk.output, hk.size, fun k h1 h2 => hk.block k h1 h2 ⟨_, List.mem_cons_self, Nat.zero_le _, h1⟩⟩
theorem chg_in' {u v w w' : World} {rs : List (Nat × Nat)} {bs : List Nat} (c : Chg bs u v) (hb : Below v.heap.size v w) (hk : KeptIn ((0, u.heap.size) :: rs) bs w w') : Chg bs u w' :=
  ⟨hk.os.trans (hb.os.trans c.os), hk.tape.trans (hb.tape.trans c.tape), hk.output.trans (hb.output.trans c.output), Nat.le_trans (Nat.le_trans c.size hb.size) hk.size, fun k h1 h2 => by
    have := c.size; have := hb.size
    rw [hk.block k (by omega) h2 ⟨_, List.mem_cons_self, Nat.zero_le _, h1⟩, hb.block k (by omega)]
    exact c.keep k h1 h2⟩
theorem Chg.calmStep {S : List Nat} {a b c : World} (h : Chg S a b) (hc : CalmFrom a.heap.size b c) : Chg S a c :=
  ⟨hc.os.trans h.os, hc.tape.trans h.tape, hc.output.trans h.output, Nat.le_trans h.size hc.size, fun k hk hn => by
    have h1 := h.keep k hk hn
    have ho := Array.getElem?_eq_getElem hk
    rw [ho] at h1
    rw [hc.keep k _ h1 (.inr hk), ho]⟩
theorem TabL.calm {B : Nat} {w w' : World} {tb : Nat} {l : List Int} (h : TabL w tb l) (hc : CalmFrom B w w') : TabL w' tb l := hc.keep _ _ h (.inl rfl)

theorem Inv.put {r : Rules} {a : Option Addr} {c sb tm v u m4 : Nat} {ks : List (Int × Int)} {NS : List Nat} {w : World} (h : Inv r a c sb tm (((v : Int), (u : Int)) :: ks) (m4 :: NS) w) (hF : FullT w m4 (stateV r v u) (imageV r v u))
    (hk : ∀ k ∈ ks, k ≠ ((v : Int), (u : Int))) (hN : m4 ∉ NS) {R : Value → World → Prop} (hR : ∀ w', Chg [tm] w w' → Inv r a c sb tm ks NS w' → FullT w' m4 (stateV r v u) (imageV r v u) → R (.tuple #[]) w') :
    RunsTo Try.prog ((Instr.mapUpdate 139 (.map (some tm)) (.agg #[I v, I u]) (.pointer (some ⟨m4, 0, none⟩))) >>= fun _ => pure (Value.tuple #[])) w R := by
  obtain ⟨m, hm, hmt, hab⟩ := h.map
  obtain ⟨o, hrun, hm'⟩ := run_update_map (P := Try.prog) keyL (mt := 139) (vt := 131) (by kernel_rfl) hm ((v : Int), (u : Int)) (.pointer (some ⟨m4, 0, none⟩)) (hab _ List.mem_cons_self)
  have hrun' : (Instr.mapUpdate 139 (.map (some tm)) (.agg #[I v, I u]) (.pointer (some ⟨m4, 0, none⟩))).run Try.prog w = .ok () (w.putObj tm o) := hrun
  have hcg : Chg [tm] w (w.putObj tm o) := Chg.putObj
  have hne := h.ne
  have hbn : ∀ {b}, b ∉ m4 :: NS → b ∉ NS := fun h1 h2 => h1 (List.mem_cons_of_mem _ h2)
  have hFt : ∀ {tb st im}, FullT w tb st im → FullT (w.putObj tm o) tb st im := fun hf => hf.chg hcg (by simpa using tab_ne h hf)
  refine ⟨.tuple #[], w.putObj tm o, by simp only [Sem.run_bind, hrun', Result.andThen_ok, Sem.run_pure], hR _ hcg ⟨h.shop.chg hcg (by simpa using hne), hbn h.sbn, hbn h.tmn, fun i x hi => ?_, m ++ [(((v : Int), (u : Int)), .pointer (some ⟨m4, 0, none⟩))], hm', fun k x hx => ?_, fun k hks => ?_⟩ (hFt hF)⟩
  · obtain ⟨b, o', e, hb, hc⟩ := h.cells i x hi
    refine ⟨b, o', e, hbn hb, hcg.cell (fun hh => ?_) hc⟩
    rw [List.mem_singleton.1 hh] at hc
    obtain ⟨es, cl, h1⟩ := h.tm_map
    unfold World.cell? at hc
    rw [h1] at hc; cases hc
  · rw [look_add] at hx
    cases hl : look m k with
    | some y =>
      rw [hl] at hx
      obtain rfl : y = x := by simpa using hx
      obtain ⟨vis, u', tb, e1, e2, e3, e4, e5⟩ := hmt k y hl
      exact ⟨vis, u', tb, e1, e2, hbn e3, e4, hFt e5⟩
    | none =>
      rw [hl, Option.none_or] at hx
      split at hx
      · rename_i hkk
        obtain rfl := Option.some.inj hx
        obtain ⟨l, hl1, hl2⟩ := hF
        exact ⟨v, u, m4, hkk, rfl, hN, tab_sb h hl1, hFt ⟨l, hl1, hl2⟩⟩
      · cases hx
  · rw [look_add, hab k (List.mem_cons_of_mem _ hks), if_neg (hk k hks)]; rfl

theorem alloc_size {w : World} {o : Obj} : (w.alloc o).heap.size = w.heap.size + 1 := by show (w.heap.push o).size = _; simp
theorem alloc_here {w : World} {o : Obj} : (w.alloc o).heap[w.heap.size]? = some o := by show (w.heap.push o)[w.heap.size]? = _; simp

/-- table's first loop. -/
structure StInv (r : Rules) (a : Option Addr) (c sb tm : Nat) (ks : List (Int × Int)) (NS M : List Nat) (m4 : Nat) (w0 : World) (x : Int) (w : World) : Prop where
  lo : -300 ≤ x
  hi : x ≤ 301
  inv : Inv r a c sb tm ks NS w
  chg : Chg [tm] w0 w
  own : ∀ b ∈ M, b < w.heap.size
  tab : ∃ l, TabL w m4 l ∧ l.length = 1202 ∧ ∀ y : Int, -300 ≤ y → y < x → l[(y + 300).toNat]? = some (goodTo r y)

theorem StInv.step {r : Rules} {a : Option Addr} {c sb tm : Nat} {ks : List (Int × Int)} {NS M : List Nat} {m4 : Nat} {w0 : World} {x : Int} {w w' : World} (h : StInv r a c sb tm ks NS M m4 w0 x w) (hc : Chg M w w')
    (hM : ∀ b ∈ M, b ∈ NS ∧ w0.heap.size ≤ b) (hm : m4 ∉ M) : StInv r a c sb tm ks NS M m4 w0 x w' := by
  obtain ⟨l, e1, e2, e3⟩ := h.tab
  exact ⟨h.lo, h.hi, h.inv.chg hc fun b hb => (hM b hb).1, R07.Chg.snoc h.chg hc fun b hb => .inr (hM b hb).2, fun b hb => Nat.lt_of_lt_of_le (h.own b hb) hc.size, l, e1.chg hc hm, e2, e3⟩

/-- Behind some of the acts. -/
structure FoInv (r : Rules) (a : Option Addr) (c sb tm : Nat) (ks : List (Int × Int)) (NS M : List Nat) (m4 v u : Nat) (w0 : World) (G : Nat → Prop) (k : Nat) (w : World) : Prop where
  inv : Inv r a c sb tm ks NS w
  chg : Chg [tm] w0 w
  own : ∀ b ∈ M, b < w.heap.size
  gh : ∀ b, G b → b ≠ m4
  tab : ∃ l, TabL w m4 l ∧ l.length = 1202 ∧ StOf l fun x => ((acts r).take k).foldl (fun t a => addTo r u (imageV r v) a x t) (goodTo r x)

set_option maxHeartbeats 4000000 in
theorem table_step {r : Rules} (hr : Good r) (v : Nat) (hv : v < 100) (ih : ∀ v', v = v' + 1 → TableOk r v') : TableOk r v := by
  intro a c sb tm ks ns u w hks hu hI hns
  refine vc67 _ _ _ _ w _ fun m1 h1 m2 h2 => ⟨tm, hI.shop.cell (i := 6) rfl, .inl hI.shop.lt, fun w1 hk1 => ?_⟩
  have c1 := chg_in hk1
  have I1 : Inv r a c sb tm ks (m2 :: m1 :: ns) w1 := (hI.grow (ms := [m2, m1]) (by simp; omega)).chg c1 (by simp)
  have C1 : Chg [tm] w w1 := R07.Chg.snoc (.refl _ _) c1 (by simp; omega)
  obtain ⟨m, hm, hmt, hab⟩ := I1.map
  have hz : (zeroValue 131).run Try.prog w1 = .ok (.pointer none) w1 := by kernel_rfl
  have hlk : (Instr.lookup 139 (.map (some tm)) (.agg #[I v, I u]) true).run Try.prog w1 = .ok (.tuple #[(look m ((v : Int), (u : Int))).getD (.pointer none), .bool (look m ((v : Int), (u : Int))).isSome]) w1 := (run_lookup_map (P := Try.prog) keyL (mt := 139) (vt := 131) (by kernel_rfl) hm ((v : Int), (u : Int)) hz).1
  refine ⟨_, _, hlk, ?_⟩
  cases hl : look m ((v : Int), (u : Int)) with
  | some val =>
    obtain ⟨vis, u', tb, e1, rfl, e3, e4, e5⟩ := hmt _ _ hl
    simp only [Prod.mk.injEq, Int.natCast_inj] at e1
    obtain ⟨rfl, rfl⟩ := e1
    refine ⟨some ⟨tb, 0, none⟩, true, rfl, .all (.refl _ _), fun _ w3 hk3 => ?_, fun h => by cases h⟩
    have I3 := I1.chg (Chg.kept hk3) (by simp)
    exact ⟨tb, rfl, R07.Chg.snoc C1 (Chg.kept hk3) (by simp; omega), I3.drop (ms := [m2, m1]), fun hh => e3 (by simp [hh]), e5.chg (Chg.kept hk3) fun hh => e3 (by simp at hh ⊢; omega)⟩
  | none =>
  rw [hl] at hlk
  refine ⟨none, false, rfl, .all (.refl _ _), fun h => (by cases h), fun _ w4 hk4 m4 w5 hm4 hw5 m5 h5 => ?_⟩
  have I1' : Inv r a c sb tm (((v : Int), (u : Int)) :: ks) (m2 :: m1 :: ns) w1 := ⟨I1.shop, I1.sbn, I1.tmn, I1.cells, m, hm, hmt, fun k hk => by
    rcases List.mem_cons.1 hk with rfl | hk
    · exact hl
    · exact hab k hk⟩
  have I4 := I1'.chg (Chg.kept hk4) (by simp)
  have C4 : Chg [tm] w w4 := R07.Chg.snoc C1 (Chg.kept hk4) (by simp; omega)
  have own4 := hk4.own
  have hb5 : Below w4.heap.size w4 w5 := by rw [hw5]; exact (Below.refl _ _).alloc (Nat.le_refl _) _
  have hs5 : w5.heap.size = w4.heap.size + 1 := by rw [hw5]; exact alloc_size
  have T5 : TabL w5 m4 (List.replicate 1202 0) := by
    unfold TabL; rw [hw5, hm4, alloc_here]
    unfold ints; rw [List.map_replicate]
  have s4 := C4.size
  have o1 := own4 m1 (by simp)
  have o2 := own4 m2 (by simp)
  obtain ⟨NS, hNS⟩ : ∃ NS, NS = m4 :: m5 :: m2 :: m1 :: ns := ⟨_, rfl⟩
  obtain ⟨KS, hKS⟩ : ∃ KS, KS = ((v : Int), (u : Int)) :: ks := ⟨_, rfl⟩
  have I5 : Inv r a c sb tm KS NS w5 := by
    rw [hNS, hKS]
    have h1 := ((I4.grow (ms := [m4]) (by simp; omega)).below hb5).grow (ms := [m5]) (by simpa using h5)
    exact h1.less fun n hn => by
      simp only [List.cons_append, List.nil_append, List.mem_cons] at hn ⊢
      rcases hn with h | h | h | h | h <;> simp [h]
  have hM : ∀ b ∈ [m5, m2, m1], b ∈ NS ∧ w.heap.size ≤ b := by rw [hNS]; simp; omega
  have hmM : m4 ∉ [m5, m2, m1] := by simp; omega
  have htmw := hI.tm_lt
  have hT4 : m4 ≠ tm := by omega
  refine ⟨fun ls w' => match ls with | [.int _ x] => StInv r a c sb tm KS NS [m5, m2, m1] m4 w x w' | _ => False, fun ls => match ls with | [.int _ x] => (301 - x).toNat | _ => 0, fun w6 hk6 => ?_, ?_⟩
  · have c6 := Chg.kept hk6
    exact ⟨by omega, by omega, I5.chg c6 fun b hb => (hM b hb).1, R07.Chg.snoc (R07.Chg.snoc C4 (.of_below (S := []) hb5) (by simp)) c6 fun b hb => .inr (hM b hb).2, hk6.own, _, T5.chg c6 hmM, List.length_replicate, fun y hy1 hy2 => by omega⟩
  rintro x w7 A7
  have hx0 := A7.lo
  refine ⟨fun hx w8 hk8 => ?_, fun hx => ?_⟩
  · have c8 := chg_in hk8
    refine Pure.calls (at_any hx0 hx w8) fun w9 hb9 => ⟨_, rfl, .all hb9, fun w10 hk10 => ?_⟩
    have c10 := (c8.trans (.of_below hb9)).trans (chg_in hk10)
    have A10 := A7.step c10 hM hmM
    refine Pure.calls (good_any hr A10.inv.shop hx0 hx) fun w11 hb11 => ⟨_, rfl, .all hb11, m4, _, rfl, trivial, fun w12 hk12 => ?_⟩
    have A12 := (A10.step (.of_below hb11) hM hmM).step (chg_in hk12) hM hmM
    obtain ⟨l, g1, g2, g3⟩ := A12.tab
    rw [show 0 + 0 + (x + 300).toNat = (x + 300).toNat by omega]
    refine store_tab g1 (by omega) fun w13 h13 c13 => ⟨c13.own (fun b hb => ⟨A12.own b hb, fun hh => hmM (List.mem_singleton.1 hh ▸ hb)⟩) (by simp) (by simp), by omega, fun w14 hk14 => ⟨?_, ?_⟩⟩
    · have A13 : StInv r a c sb tm KS NS [m5, m2, m1] m4 w (x + 1) w13 := ⟨by omega, by omega, A12.inv.chg c13 (by rw [hNS]; simp), R07.Chg.snoc A12.chg c13 (by simp; omega), fun b hb => Nat.lt_of_lt_of_le (A12.own b hb) c13.size, _, h13, by simpa using g2, fun y hy1 hy2 => by
        by_cases hyx : y = x
        · subst hyx; rw [List.getElem?_set_self (by omega)]
        · rw [List.getElem?_set_ne (by omega)]; exact g3 y hy1 (by omega)⟩
      exact A13.step (Chg.kept hk14) hM hmM
    · show (301 - (x + 1)).toNat < (301 - x).toNat
      omega
  -- the tables of one visit less; the images; the map
  have hm4n : m4 ∉ ns := fun hh => by have := hns m4 hh; omega
  have hkne : ∀ k ∈ ks, k ≠ ((v : Int), (u : Int)) := fun k hk e => by have := hks k hk; rw [e] at this; exact absurd this (Int.lt_irrefl _)
  have hx1 := A7.hi
  obtain rfl : x = 301 := by omega
  obtain ⟨l7, e1, e2, e3⟩ := A7.tab
  have hmn : m4 ∉ m5 :: m2 :: m1 :: ns := by simp only [List.mem_cons, not_or]; exact ⟨by omega, by omega, by omega, hm4n⟩
  refine ⟨fun hpos => ?_, fun hneg w31 hk31 => ?_⟩
  · obtain ⟨v', rfl⟩ : ∃ v', v = v' + 1 := ⟨v - 1, by omega⟩
    refine ⟨(acts r).map actV, fun G ls k w' => match ls with | [] => FoInv r a c sb tm KS NS [m5, m2, m1] m4 v' u w G k w' | _ => False, ShopAt r a c sb tm, acts_iter hr, fun w15 hk15 => ?_, ?_⟩
    · have A15 := A7.step (Chg.kept hk15) hM hmM
      exact ⟨A15.inv, A15.chg, A15.own, fun b hb => hb.elim, l7, e1.chg (Chg.kept hk15) hmM, e2, fun y hy1 hy2 => by rw [e3 y hy1 (by omega)]; rfl⟩
    rintro k G G' w16 w17 A16 hc17 hG1 hG2 hG3
    have A17 : FoInv r a c sb tm KS NS [m5, m2, m1] m4 v' u w G' k w17 := by
      obtain ⟨l, g1, g2, g3⟩ := A16.tab
      have := lt_of_some g1
      exact ⟨A16.inv.calm hc17, R07.Chg.calmStep A16.chg hc17, fun b hb => Nat.lt_of_lt_of_le (A16.own b hb) hc17.size, fun b hb => by
        rcases hG2 b hb with h | h
        · exact A16.gh b h
        · omega, l, g1.calm hc17, g2, g3⟩
    refine ⟨A17.inv.shop, fun y2 hy2 => ?_, fun hk w25 hk25 => ?_⟩
    · rw [List.getElem?_map] at hy2
      cases ha : (acts r)[k]? with
      | none => rw [ha] at hy2; cases hy2
      | some act =>
      rw [ha] at hy2
      obtain rfl := Option.some.inj hy2
      refine ⟨act.1, act.2, rfl, fun m12 w18 m13 h13 w19 hk19 w20 hc20 w21 w22 hk22 => ?_⟩
      obtain ⟨l, g1, g2, g3⟩ := A17.tab
      have hm417 := lt_of_some g1
      have hM' : ∀ b ∈ [m13, m5, m2, m1], b ∈ [m13] ++ NS ∧ w.heap.size ≤ b := fun b hb => by
        rcases List.mem_cons.1 hb with rfl | hb
        · exact ⟨by simp, by have := A17.chg.size; omega⟩
        · exact ⟨List.mem_append_right _ (hM b hb).1, (hM b hb).2⟩
      have hmM' : m4 ∉ [m13, m5, m2, m1] := by
        rw [List.mem_cons, not_or]; exact ⟨by omega, hmM⟩
      have I19 := (A17.inv.grow (ms := [m13]) (by simpa using h13)).chg (Chg.kept hk19) fun b hb => (hM' b hb).1
      have I22 := (I19.calm hc20).chg (Chg.kept hk22) fun b hb => (hM' b hb).1
      have T22 := ((g1.chg (Chg.kept hk19) hmM').calm hc20).chg (Chg.kept hk22) hmM'
      have C22 := R07.Chg.snoc (R07.Chg.calmStep (R07.Chg.snoc A17.chg (Chg.kept hk19) fun b hb => .inr (hM' b hb).2) hc20) (Chg.kept hk22) fun b hb => .inr (hM' b hb).2
      have own22 := hk22.own
      have s22 := C22.size
      have I22' : Inv r a c sb tm KS (m4 :: [m13, m5, m2, m1] ++ ns) w22 := I22.less fun n hn => by
        rw [hNS]
        simp only [List.cons_append, List.nil_append, List.mem_cons] at hn ⊢
        rcases hn with h | h | h | h | h | h <;> simp [h]
      have N22 : ∀ n ∈ m4 :: [m13, m5, m2, m1] ++ ns, n < w22.heap.size := fun n hn => by
        simp only [List.cons_append, List.mem_cons] at hn
        rcases hn with rfl | hn
        · exact lt_of_some T22
        · rcases hn with h | h | h | h | h
          · exact own22 n (by simp [h])
          · exact own22 n (by simp [h])
          · exact own22 n (by simp [h])
          · exact own22 n (by simp [h])
          · have := hns n h; omega
      have hks' : ∀ k ∈ KS, (v' : Int) < k.1 := fun k hk => by
        rw [hKS] at hk
        rcases List.mem_cons.1 hk with rfl | hk
        · show (v' : Int) < ((v' + 1 : Nat) : Int); omega
        · have := hks k hk; omega
      have hadd := add_any hr (ih v' rfl) hks' hu I22' N22 T22 g2 g3 act (by omega)
      refine hadd.mono fun e w23 he => ?_
      obtain ⟨rfl, cA, IA, l', q1, q2, q3⟩ := he
      refine ⟨rfl, cA.own (fun b hb => ⟨own22 b hb, fun hh => ?_⟩) (fun b hb => ⟨?_, fun hh => ?_⟩) (by simp), fun w24 hk24 => ?_⟩
      · have := (hM' b hb).2
        rcases List.mem_cons.1 hh with rfl | hh
        · omega
        · exact hmM' (List.mem_singleton.1 hh ▸ hb)
      · have := (hG3 b hb).2
        have := hk19.size; have := hc20.size; have := hk22.size
        omega
      · have h1 := hG3 b hb
        rcases List.mem_cons.1 hh with rfl | hh
        · omega
        · exact A17.gh b hb (List.mem_singleton.1 hh)
      · have IA' : Inv r a c sb tm KS ([m13] ++ NS) w23 := IA.less fun n hn => by
          rw [hNS] at hn
          simp only [List.cons_append, List.nil_append, List.mem_cons] at hn ⊢
          rcases hn with h | h | h | h | h | h <;> simp [h]
        have I24 := (IA'.chg (Chg.kept hk24) fun b hb => (hM' b hb).1).drop
        refine ⟨I24, R07.Chg.snoc (R07.Chg.snoc C22 cA fun b hb => by
          rcases List.mem_cons.1 hb with rfl | hb
          · exact .inl (by simp)
          · right; rw [List.mem_singleton.1 hb]; omega) (Chg.kept hk24) fun b hb => .inr (hM' b hb).2, fun b hb => hk24.own b (List.mem_cons_of_mem _ hb), A17.gh, l', q1.chg (Chg.kept hk24) hmM', q2, fun y hy1 hy2 => ?_⟩
        rw [q3 y hy1 hy2, List.take_add_one, ha]
        simp only [Option.toList_some, List.foldl_append, List.foldl_cons, List.foldl_nil]
    · have c25 := Chg.kept hk25
      have I25 := A17.inv.chg c25 fun b hb => (hM b hb).1
      have C25 := R07.Chg.snoc A17.chg c25 fun b hb => .inr (hM b hb).2
      obtain ⟨l, g1, g2, g3⟩ := A17.tab
      rw [hk, List.length_map, List.take_length] at g3
      have T25 := g1.chg c25 hmM
      have own25 := hk25.own
      have hfill := fill_any hr I25.shop (fun e => tab_sb I25 T25 e.symm) T25 g2 (st := stateV r (v' + 1) u) g3 (fun y hy1 hy2 => by have := stateV_bound hr (v := v' + 1) (u := u) hy1 hy2; omega)
      refine hfill.mono fun e w26 he => ?_
      obtain ⟨rfl, cF, l', q1, q2, q3, q4⟩ := he
      have IF := I25.chg cF (by rw [hNS]; simp)
      have CF := R07.Chg.snoc C25 cF (by simp; omega)
      have hgh : ∀ b, G' b → b < w25.heap.size ∧ b ∉ [m4] := fun b hb => ⟨by have := (hG3 b hb).2; have := c25.size; omega, by simpa using A17.gh b hb⟩
      refine ⟨rfl, cF.own (fun b hb => ⟨own25 b hb, fun hh => hmM (List.mem_singleton.1 hh ▸ hb)⟩) hgh (by simp), tm, IF.shop.cell (i := 6) rfl, .inl hI.shop.lt, fun w27 hk27 => ?_⟩
      have c27 := chg_in hk27
      have I27 := IF.chg c27 fun b hb => (hM b hb).1
      have C27 := R07.Chg.snoc CF c27 fun b hb => .inr (hM b hb).2
      rw [hNS, hKS] at I27
      have hF27 : FullT w27 m4 (stateV r (v' + 1) u) (imageV r (v' + 1) u) := ⟨l', q1.chg c27 hmM, q2, q3, q4⟩
      refine I27.put hF27 hkne hmn fun w28 c28 I28 F28 => ⟨c28.own (fun b hb => ⟨hk27.own b hb, fun hh => by have := (hM b hb).2; have := List.mem_singleton.1 hh; omega⟩) (fun b hb => ⟨by have := (hgh b hb).1; have := cF.size; have := c27.size; omega, fun hh => by have := (hG3 b hb).1; have := List.mem_singleton.1 hh; omega⟩) (by simp), fun w29 hk29 w30 hc30 => ?_⟩
      have C28 := R07.Chg.snoc C27 c28 fun b hb => .inl hb
      have c29 := Chg.kept hk29
      have I29 := I28.chg c29 fun b hb => by simp at hb ⊢; omega
      exact ⟨m4, rfl, R07.Chg.calmStep (R07.Chg.snoc C28 c29 fun b hb => .inr (hM b hb).2) hc30, (I29.calm hc30).drop (ms := [m5, m2, m1]), hm4n, by
        obtain ⟨l9, z1, z2⟩ := F28.chg c29 hmM
        exact ⟨l9, z1.calm hc30, z2⟩⟩
  · obtain rfl : v = 0 := by omega
    have A31 := A7.step (Chg.kept hk31) hM hmM
    obtain ⟨l, g1, g2, g3⟩ := A31.tab
    have hfill := fill_any hr A31.inv.shop (fun e => tab_sb A31.inv g1 e.symm) g1 g2 (st := stateV r 0 u) (fun y hy1 hy2 => by rw [g3 y hy1 (by omega)]; rfl) (fun y hy1 hy2 => by have := stateV_bound hr (v := 0) (u := u) hy1 hy2; omega)
    refine hfill.mono fun e w32 he => ?_
    obtain ⟨rfl, cF, l', q1, q2, q3, q4⟩ := he
    have IF := A31.inv.chg cF (by rw [hNS]; simp)
    have CF := R07.Chg.snoc A31.chg cF (by simp; omega)
    refine ⟨rfl, cF.own (fun b hb => ⟨A31.own b hb, fun hh => hmM (List.mem_singleton.1 hh ▸ hb)⟩) (by simp) (by simp), tm, IF.shop.cell (i := 6) rfl, .inl hI.shop.lt, fun w33 hk33 => ?_⟩
    have c33 := chg_in hk33
    have I33 := IF.chg c33 fun b hb => (hM b hb).1
    have C33 := R07.Chg.snoc CF c33 fun b hb => .inr (hM b hb).2
    rw [hNS, hKS] at I33
    have hF33 : FullT w33 m4 (stateV r 0 u) (imageV r 0 u) := ⟨l', q1.chg c33 hmM, q2, q3, q4⟩
    refine I33.put hF33 hkne hmn fun w34 c34 I34 F34 => ⟨c34.own (fun b hb => ⟨hk33.own b hb, fun hh => by have := (hM b hb).2; have := List.mem_singleton.1 hh; omega⟩) (by simp) (by simp), fun w35 hk35 => ?_⟩
    have c35 := Chg.kept hk35
    exact ⟨m4, rfl, R07.Chg.snoc (R07.Chg.snoc C33 c34 fun b hb => .inl hb) c35 fun b hb => .inr (hM b hb).2, (I34.chg c35 fun b hb => by simp at hb ⊢; omega).drop (ms := [m5, m2, m1]), hm4n, F34.chg c35 hmM⟩

theorem table_any {r : Rules} (hr : Good r) : ∀ v, v < 100 → TableOk r v
  | 0, h => table_step hr 0 h fun _ e => by omega
  | v + 1, h => table_step hr (v + 1) h fun v' e => by
    obtain rfl : v = v' := by omega
    exact table_any hr v (by omega)
end Go.Proofs.R07
end
section
/- Fewest and Act. -/
namespace Go.Proofs.R07
open Go.Vc Go.RowKit Go.Proofs

/-- How many visits are enough. -/
def few (r : Rules) (u : Nat) (s : Sp) : Option Nat := (List.range 7).find? fun n => decide (s.2 ≤ stateV r n u s.1)
theorem few_some {r : Rules} {u : Nat} {s : Sp} {n : Nat} (h : n < 7) (h1 : s.2 ≤ stateV r n u s.1) (h2 : ∀ k, k < n → stateV r k u s.1 < s.2) : few r u s = some n := by
  unfold few
  rw [List.find?_range_eq_some]
  exact ⟨by simpa using h1, by simpa using h, fun j hj => by simpa using h2 j hj⟩
theorem few_none {r : Rules} {u : Nat} {s : Sp} (h2 : ∀ k, k < 7 → stateV r k u s.1 < s.2) : few r u s = none := by
  unfold few
  rw [List.find?_range_eq_none]
  exact fun j hj => by simpa using h2 j hj
theorem few_lt {r : Rules} {u : Nat} {s : Sp} {n : Nat} (h : few r u s = some n) : n < 7 := by
  unfold few at h
  have := List.mem_of_find?_eq_some h
  simpa using this

/-- An act after which so many visits are enough. -/
def okAct (r : Rules) (v u : Nat) (s : Sp) (a : Int × Int) : Bool :=
  match move r s u a with
  | some (p, u') => decide (p.2 ≤ imageV r v u' p.1)
  | none => false
def firstAct (r : Rules) (v u : Nat) (s : Sp) : Option (Int × Int) := (acts r).find? (okAct r v u s)

theorem cell_at {w : World} {tb k : Nat} {v : Value} (h : w.cell? ⟨tb, k, none⟩ = some v) {j : Nat} (hj : j = k) : w.cell? ⟨tb, j, none⟩ = some v := by rw [hj]; exact h

def okSp (s : Sp) : Prop := -300 ≤ s.1 ∧ s.1 ≤ s.2 ∧ s.2 ≤ 300

def FewPost (r : Rules) (a : Option Addr) (c sb tm : Nat) (ns : List Nat) (u : Nat) (s : Sp) (w : World) (e : Ending) (w' : World) : Prop :=
  e = .returned (.tuple #[I ((few r u s).getD 0 : Nat), .bool (few r u s).isSome]) ∧ Chg [tm] w w' ∧ Inv r a c sb tm [] ns w'

theorem few_any {r : Rules} (hr : Good r) {a : Option Addr} {c sb tm u : Nat} {ns : List Nat} (hu : u < 8) {w : World} (hI : Inv r a c sb tm [] ns w) (hns : ∀ n ∈ ns, n < w.heap.size) {s : Sp} (hs : okSp s) :
    Calls Try.prog 50 #[.pointer (some ⟨sb, 0, none⟩), .agg #[I s.1, I s.2], I u] w (FewPost r a c sb tm ns u s w) := by
  obtain ⟨lo, hi⟩ := s
  obtain ⟨hs1, hs2, hs3⟩ := hs
  simp only at hs1 hs2 hs3
  have htm := hI.tm_lt
  refine vc50 _ _ _ _ _ w _ fun m1 h1 => ⟨fun ls w' => match ls with | [_, _, .int _ x] => 0 ≤ x ∧ x ≤ 7 ∧ (∀ k : Nat, (k : Int) < x → stateV r k u lo < hi) ∧ Inv r a c sb tm [] (m1 :: ns) w' ∧ Chg [tm] w w' ∧ m1 < w'.heap.size | _ => False, fun ls => match ls with | [_, _, .int _ x] => (7 - x).toNat | _ => 0, fun w1 hk1 => ?_, ?_⟩
  · exact ⟨by omega, by omega, fun k hk => by omega, (hI.grow (ms := [m1]) (by simpa using h1)).chg (Chg.kept hk1) (by simp), R07.Chg.snoc (.refl _ _) (Chg.kept hk1) (by simp; omega), hk1.own _ (by simp)⟩
  rintro x1 t1 x w2 ⟨h0, h7, hno, I2, C2, o2⟩
  refine ⟨fun hx w3 hk3 => ?_, fun hx w9 hk9 => ⟨?_, R07.Chg.snoc C2 (Chg.kept hk9) (by simp; omega), (I2.chg (Chg.kept hk9) (by simp)).drop (ms := [m1])⟩⟩
  · have c3 := chg_in hk3
    have I3 := I2.chg c3 (by simp)
    have C3 : Chg [tm] w w3 := R07.Chg.snoc C2 c3 (by simp; omega)
    have s3 := C3.size
    have N3 : ∀ n ∈ m1 :: ns, n < w3.heap.size := fun n hn => by
      rcases List.mem_cons.1 hn with rfl | hn
      · exact hk3.own _ (by simp)
      · have := hns n hn; omega
    have hT := table_any hr x.toNat (by omega) a c sb tm [] (m1 :: ns) u w3 (by simp) hu I3 N3
    rw [show ((x.toNat : Nat) : Int) = x by omega] at hT
    refine hT.mono fun e w4 he => ?_
    obtain ⟨tb, rfl, c4, I4, htb, hF⟩ := he
    refine ⟨_, rfl, c4.own (fun b hb => ⟨N3 b (by simp at hb ⊢; exact .inl hb), fun hh => by rw [List.mem_singleton.1 hb] at hh; have := List.mem_singleton.1 hh; omega⟩) (by simp) (by simp), tb, 0, rfl, trivial, fun w5 hk5 => ?_⟩
    have c5 := chg_in hk5
    have htb1 : tb ≠ m1 := fun e => htb (by simp [e])
    refine Pure.calls (at_any (by omega) (by omega) w5) fun w6 hb6 => ⟨_, rfl, .all hb6, tb, _, rfl, trivial, stateV r x.toNat u lo, cell_at (((hF.chg c5 (by simpa using htb1)).chg (.of_below (S := []) hb6) (by simp)).st hs1 (by omega)) (by omega), .inr htb1, fun hge w7 hk7 => ?_, fun hlt => ⟨by omega, fun w8 hk8 => ⟨⟨by omega, by omega, fun k hk => ?_, ?_⟩, ?_⟩⟩⟩
    · have hfew : few r u (lo, hi) = some x.toNat := few_some (by omega) hge fun k hk => hno k (by omega)
      refine ⟨by rw [hfew]; show _ = Ending.returned (.tuple #[I ((x.toNat : Nat) : Int), .bool true]); rw [show ((x.toNat : Nat) : Int) = x by omega], R07.Chg.snoc (R07.Chg.snoc (R07.Chg.snoc (R07.Chg.snoc C3 c4 (by simp)) c5 (by simp; omega)) (.of_below (S := []) hb6) (by simp)) (Chg.kept hk7) (by simp; omega), (((I4.chg c5 (by simp)).below hb6).chg (Chg.kept hk7) (by simp)).drop (ms := [m1])⟩
    · by_cases hkx : (k : Int) < x
      · exact hno k hkx
      · have : k = x.toNat := by omega
        rw [this]; exact hlt
    · exact ⟨((I4.chg c5 (by simp)).below hb6).chg (Chg.kept hk8) (by simp), R07.Chg.snoc (R07.Chg.snoc (R07.Chg.snoc (R07.Chg.snoc C3 c4 (by simp)) c5 (by simp; omega)) (.of_below (S := []) hb6) (by simp)) (Chg.kept hk8) (by simp; omega), hk8.own _ (by simp)⟩
    · show (7 - (x + 1)).toNat < (7 - x).toNat
      omega
  · have : few r u (lo, hi) = none := few_none fun k hk => hno k (by omega)
    rw [this]; rfl

theorem Inv.start {r : Rules} {a : Option Addr} {c sb tm : Nat} {ns : List Nat} {w0 w : World} (h1 : ShopAt r a c sb tm w) (h2 : w.heap[tm]? = some (.map #[] 0)) (hc : Cells w0 a (spans r.ws)) (hb : Below w0.heap.size w0 w) (hn : ∀ n ∈ ns, w0.heap.size ≤ n) (g1 : sb ∉ ns) (g2 : tm ∉ ns) : Inv r a c sb tm [] ns w :=
  ⟨h1, g1, g2, fun i v hi => by
    obtain ⟨b, o, e, hcell⟩ := hc i v hi
    exact ⟨b, o, e, fun hm => by have := cell_lt hcell; have := hn b hm; omega, cell_keep hb hcell⟩, [], ⟨#[], 0, h2, rfl⟩, fun k v hv => by simp [look] at hv, by simp⟩

theorem okSt_of {r : Rules} {s : St} (h : startErr r s = 0) : Good r ∧ okSp (s.lo, s.hi) ∧ s.used.length = r.ws.length := by
  unfold startErr at h
  split at h
  · rename_i hc
    split at h
    · rename_i ho
      unfold okSt at ho
      simp only [Bool.and_eq_true, beq_iff_eq] at ho
      refine ⟨good_of hc, ?_, ho.2⟩
      have := ho.1
      simp [isSpan, within] at this
      unfold okSp; simp only; omega
    · simp at h
  · contradiction

def fewestR (r : Rules) (s : St) : Int × Int :=
  if startErr r s ≠ 0 then (0, startErr r s) else match few r (setOf s.used) (s.lo, s.hi) with
    | none => (0, 7)
    | some n => (n, 0)

theorem fewest_any (r : Rules) (s : St) {a b : Option Addr} {c d : Nat} {w : World} (hc : Cells w a (spans r.ws)) (hs : Cells w b (bools s.used)) :
    Calls Try.prog 24 #[r.v a c, s.v b d] w (Pure w (.tuple #[I (fewestR r s).1, I (fewestR r s).2])) := by
  refine vc24 _ _ _ _ _ _ _ _ _ _ _ _ _ w _ fun m1 h1 m2 h2 w1 hb1 hk1 => ?_
  refine (start_any r s (c := c) (d := d) (hc.keep hb1)).mono fun e w2 he => ?_
  obtain ⟨sb, tm, rfl, hb2, g1, g2, q1, q2⟩ := he
  have o1 := hk1.own m1 (by simp)
  have o2 := hk1.own m2 (by simp)
  have s1 := hb1.size
  refine ⟨_, _, rfl, .all hb2, fun he w3 hb3 _ => ⟨by unfold fewestR; rw [if_pos he], hb3⟩, fun he w4 hb4 hk4 => ?_⟩
  obtain ⟨hr, hsp, hlen⟩ := okSt_of he
  have c4 := chg_in hk4
  have I4 : Inv r a c sb tm [] [m2, m1] w4 := Inv.start (q1.chg c4 (by simp; omega)) ((c4.keep tm (lt_of_some q2) (by simp; omega)).trans q2) hc hb4 (by simp; omega) (by simp; omega) (by simp; omega)
  refine Pure.calls (newSet_any (hs.keep hb4) (by have := hr.1; omega)) fun w5 hb5 => ⟨_, rfl, .all hb5, fun w6 hb6 hk6 => ?_⟩
  have I6 := (I4.below hb5).chg (chg_in hk6) (by simp)
  have N6 : ∀ n ∈ [m2, m1], n < w6.heap.size := hk6.own
  refine (few_any hr (setOf_lt (by have := hr.1; omega)) I6 N6 hsp).mono fun e w7 he7 => ?_
  obtain ⟨rfl, c7, I7⟩ := he7
  refine ⟨_, _, rfl, c7.own (fun b hb => ⟨N6 b hb, fun hh => I6.tmn (by rw [← List.mem_singleton.1 hh]; exact hb)⟩) (by simp) (fun _ => ⟨hb6.size, by simp; omega⟩), fun hf w8 hb8 _ => ⟨?_, hb8⟩, fun hf w9 hb9 _ => ⟨?_, hb9⟩⟩
  · unfold fewestR
    rw [if_neg (by omega)]
    cases hfew : few r (setOf s.used) (s.lo, s.hi)
    · rfl
    · rw [hfew] at hf; simp at hf
  · unfold fewestR
    rw [if_neg (by omega)]
    cases hfew : few r (setOf s.used) (s.lo, s.hi)
    · rw [hfew] at hf; simp at hf
    · rfl
end Go.Proofs.R07
end
section
/- Act and After. -/
namespace Go.Proofs.R07
open Go.Vc Go.RowKit Go.Proofs

def ActPost (r : Rules) (a : Option Addr) (c sb tm : Nat) (ns : List Nat) (v u : Nat) (s : Sp) (w : World) (e : Ending) (w' : World) : Prop :=
  ∃ (act : Int × Int) (m : Sp) (mu : Nat), e = .returned (.tuple #[.agg #[I act.1, I act.2], .agg #[I m.1, I m.2, I mu]]) ∧ Chg [tm] w w' ∧ Inv r a c sb tm [] ns w' ∧
    match firstAct r v u s with
    | some x => act = x ∧ move r s u x = some (m, mu)
    | none => act = (0, -1) ∧ m = s ∧ mu = u

theorem find_some {l : List (Int × Int)} {p : Int × Int → Bool} {k : Nat} {x : Int × Int} (hk : l[k]? = some x) (hp : p x = true) (hn : ∀ (j : Nat) y, j < k → l[j]? = some y → p y = false) : l.find? p = some x := by
  induction l generalizing k with
  | nil => simp at hk
  | cons y l ih =>
    cases k with
    | zero => simp at hk; subst hk; simp [hp]
    | succ k =>
      have h0 := hn 0 y (by omega) rfl
      rw [List.find?_cons, h0]
      exact ih (k := k) (by simpa using hk) fun j z hj hz => hn (j + 1) z (by omega) (by simpa using hz)
theorem find_none {l : List (Int × Int)} {p : Int × Int → Bool} (hn : ∀ (j : Nat) y, l[j]? = some y → p y = false) : l.find? p = none := by
  rw [List.find?_eq_none]
  intro x hx
  obtain ⟨i, hi, rfl⟩ := List.mem_iff_getElem.1 hx
  simp [hn i _ (getElem_of_lt hi)]

structure AcInv (r : Rules) (a : Option Addr) (c sb tm : Nat) (NS : List Nat) (v u : Nat) (s : Sp) (w0 : World) (k : Nat) (w : World) : Prop where
  inv : Inv r a c sb tm [] NS w
  chg : Chg [tm] w0 w
  no : ∀ (j : Nat) y, j < k → (acts r)[j]? = some y → okAct r v u s y = false

theorem MovePost.calls {r : Rules} {s : Sp} {u : Nat} {x : Int × Int} {w : World} {R : Ending → World → Prop} {f : FuncId} {args : Array Value} (h : Calls Try.prog f args w (MovePost r s u x w))
    (k : ∀ lo hi u' w', Below w.heap.size w w' → (∀ p, move r s u x = some p → u' = (p.2 : Int) ∧ p.1 = (lo, hi)) → R (.returned (.tuple #[.agg #[I lo, I hi, I u'], .bool (move r s u x).isSome])) w') : Calls Try.prog f args w R :=
  h.mono fun e w' he => by obtain ⟨lo, hi, u', rfl, hb, hp⟩ := he; exact k lo hi u' w' hb hp

theorem move_facts {r : Rules} (hr : Good r) {s : Sp} {u : Nat} (hu : u < 8) {x : Int × Int} {p : Sp} {u' : Nat} (h : move r s u x = some (p, u')) : u' < 8 ∧ okSp p := by
  unfold move at h
  split at h
  · cases h
  · rename_i q hq
    split at h
    · rename_i ho
      simp only [Option.some.injEq, Prod.mk.injEq] at h
      obtain ⟨rfl, rfl⟩ := h
      constructor
      · split
        · exact hu
        · rename_i hy; have := shift_weight hr hq hy; exact put_lt hu (by omega)
      · simp [isSpan, within] at ho
        unfold okSp; simp only; omega
    · cases h

set_option maxHeartbeats 2000000 in
theorem act_any {r : Rules} (hr : Good r) {a : Option Addr} {c sb tm u : Nat} {ns : List Nat} (hu : u < 8) {w : World} (hI : Inv r a c sb tm [] ns w) (hns : ∀ n ∈ ns, n < w.heap.size) {s : Sp} (hs : okSp s) {v : Nat} (hv : v < 7) :
    Calls Try.prog 51 #[.pointer (some ⟨sb, 0, none⟩), .agg #[I s.1, I s.2], .agg #[I ((v : Int) + 1), I u]] w (ActPost r a c sb tm ns v u s w) := by
  have htm := hI.tm_lt
  refine vc51 _ _ _ _ _ _ w _ fun m1 h1 m2 h2 m3 h3 m4 h4 m5 h5 => ?_
  obtain ⟨NS, hNS⟩ : ∃ NS, NS = m5 :: m4 :: m3 :: m2 :: m1 :: ns := ⟨_, rfl⟩
  have hM : ∀ b ∈ [m5, m4, m3, m2, m1], b ∈ NS ∧ w.heap.size ≤ b := by rw [hNS]; simp; omega
  refine ⟨(acts r).map actV, fun _ _ k w' => AcInv r a c sb tm NS v u s w k w' ∧ ∀ b ∈ [m5, m4, m3, m2, m1], b < w'.heap.size, ShopAt r a c sb tm, acts_iter hr, fun w1 hk1 _ _ => ?_, ?_⟩
  · have I1 : Inv r a c sb tm [] NS w := by rw [hNS]; exact hI.grow (ms := [m5, m4, m3, m2, m1]) fun b hb => (hM b hb).2
    exact ⟨⟨I1.chg (Chg.kept hk1) fun b hb => (hM b hb).1, R07.Chg.snoc (.refl _ _) (Chg.kept hk1) fun b hb => .inr (hM b hb).2, fun j y hj => by omega⟩, hk1.own⟩
  rintro x1 x2 x3 x4 x5 k G G' w2 w3 ⟨A2, O2⟩ hc3 hG1 hG2 hG3
  have A3 : AcInv r a c sb tm NS v u s w k w3 := ⟨A2.inv.calm hc3, R07.Chg.calmStep A2.chg hc3, A2.no⟩
  have O3 : ∀ b ∈ [m5, m4, m3, m2, m1], b < w3.heap.size := fun b hb => Nat.lt_of_lt_of_le (O2 b hb) hc3.size
  have hdrop : ∀ {w'}, Inv r a c sb tm [] NS w' → Inv r a c sb tm [] ns w' := fun h => by rw [hNS] at h; exact h.drop (ms := [m5, m4, m3, m2, m1])
  refine ⟨A3.inv.shop, fun y2 hy2 => ?_, fun hk w20 hk20 w21 hc21 => ?_⟩
  · rw [List.getElem?_map] at hy2
    cases ha : (acts r)[k]? with
    | none => rw [ha] at hy2; cases hy2
    | some act =>
    rw [ha] at hy2
    obtain rfl := Option.some.inj hy2
    refine ⟨act.1, act.2, rfl, fun m10 w4 m11 h11 w5 hk5 w6 hc6 w7 w8 hk8 => ?_⟩
    have s3 := A3.chg.size
    have hM' : ∀ b ∈ [m11, m5, m4, m3, m2, m1], b ∈ [m11] ++ NS ∧ w.heap.size ≤ b := fun b hb => by
      rcases List.mem_cons.1 hb with rfl | hb
      · exact ⟨by simp, by omega⟩
      · exact ⟨List.mem_append_right _ (hM b hb).1, (hM b hb).2⟩
    have I5 := (A3.inv.grow (ms := [m11]) (by simpa using h11)).chg (Chg.kept hk5) fun b hb => (hM' b hb).1
    have I8 := (I5.calm hc6).chg (Chg.kept hk8) fun b hb => (hM' b hb).1
    have C8 := R07.Chg.snoc (R07.Chg.calmStep (R07.Chg.snoc A3.chg (Chg.kept hk5) fun b hb => .inr (hM' b hb).2) hc6) (Chg.kept hk8) fun b hb => .inr (hM' b hb).2
    have O8 := hk8.own
    have s8 := C8.size
    have next : ∀ {w' : World}, Inv r a c sb tm [] ([m11] ++ NS) w' → Chg [tm] w w' → okAct r v u s act = false → (∀ b ∈ [m5, m4, m3, m2, m1], b < w'.heap.size) → AcInv r a c sb tm NS v u s w (k + 1) w' ∧ ∀ b ∈ [m5, m4, m3, m2, m1], b < w'.heap.size := fun hI' hC' hno hO => ⟨⟨hI'.drop, hC', fun j y hj hy => by
      by_cases hjk : j = k
      · subst hjk; rw [ha] at hy; obtain rfl := Option.some.inj hy; exact hno
      · exact A3.no j y (by omega) hy⟩, hO⟩
    refine MovePost.calls (move_any hr hu I8.shop I8.row s ⟨hs.1, by have := hs.2; omega, by have := hs.1; have := hs.2.1; omega, hs.2.2⟩ act) fun lo hi u' w9 hb9 hp => ⟨_, _, _, _, rfl, .all hb9, fun m12 h12 => ⟨fun ht => ⟨by omega, fun w10 hk10 => ?_⟩, fun hf w19 hk19 => ?_⟩⟩
    · cases hmv : move r s u act with
      | none => rw [hmv] at ht; cases ht
      | some q =>
      obtain ⟨q, mu⟩ := q
      obtain ⟨rfl, hq⟩ := hp _ hmv
      simp only at hq
      subst hq
      obtain ⟨hmu, hq1, hq2, hq3⟩ := move_facts hr hu hmv
      simp only at hq1 hq2 hq3
      have s9 := hb9.size
      have hM2 : ∀ b ∈ [m12, m11, m5, m4, m3, m2, m1], b ∈ [m12] ++ ([m11] ++ NS) ∧ w.heap.size ≤ b := fun b hb => by
        rcases List.mem_cons.1 hb with rfl | hb
        · exact ⟨by simp, by omega⟩
        · exact ⟨List.mem_append_right _ (hM' b hb).1, (hM' b hb).2⟩
      have c10 := chg_in hk10
      have I10 := ((I8.below hb9).grow (ms := [m12]) (by simpa using h12)).chg c10 fun b hb => (hM2 b hb).1
      have C10 := R07.Chg.snoc (R07.Chg.snoc C8 (.of_below (S := []) hb9) (by simp)) c10 fun b hb => .inr (hM2 b hb).2
      have O10 := hk10.own
      have N10 : ∀ n ∈ [m12] ++ ([m11] ++ NS), n < w10.heap.size := fun n hn => by
        rw [hNS] at hn
        simp only [List.cons_append, List.nil_append, List.mem_cons] at hn
        rcases hn with h | h | h | h | h | h | h | h
        · exact O10 n (by simp [h])
        · exact O10 n (by simp [h])
        · exact O10 n (by simp [h])
        · exact O10 n (by simp [h])
        · exact O10 n (by simp [h])
        · exact O10 n (by simp [h])
        · exact O10 n (by simp [h])
        · have := hns n h; have := c10.size; omega
      have hG9 : ∀ b, G' b → b < w9.heap.size ∧ w.heap.size ≤ b := fun b hb => by
        have := hG3 b hb; have := hk5.size; have := hc6.size; have := hk8.size; omega
      rw [show (v : Int) + 1 - 1 = v by omega]
      have hT := table_any hr v (by omega) a c sb tm [] _ mu w10 (by simp) hmu I10 N10
      refine hT.mono fun e w11 he => ?_
      obtain ⟨tb, rfl, c11, I11, htb, hF⟩ := he
      refine ⟨_, rfl, c11.own (fun b hb => ⟨O10 b hb, fun hh => by have := (hM2 b hb).2; have := List.mem_singleton.1 hh; omega⟩) (fun b hb => ⟨by have := (hG9 b hb).1; have := c10.size; omega, fun hh => by have := (hG9 b hb).2; have := List.mem_singleton.1 hh; omega⟩) (by simp), tb, 0, rfl, trivial, fun w12 hk12 => ?_⟩
      have c12 := chg_in hk12
      have htbM : tb ∉ [m12, m11, m5, m4, m3, m2, m1] := fun hh => htb (hM2 tb hh).1
      have I12 := I11.chg c12 fun b hb => (hM2 b hb).1
      have C12 := R07.Chg.snoc (R07.Chg.snoc C10 c11 fun b hb => .inl hb) c12 fun b hb => .inr (hM2 b hb).2
      refine Pure.calls (at_any hq1 (by omega) w12) fun w13 hb13 => ⟨_, rfl, .all hb13, tb, _, rfl, trivial, imageV r v mu lo, cell_at (((hF.chg c12 htbM).chg (.of_below (S := []) hb13) (by simp)).im hq1 (by omega)) (by omega), .inr (by simpa using htbM), fun hge w14 hk14 F5 w15 hc15 hG5 w16 hk16 w17 hc17 => ?_, fun hlt w18 hk18 => ?_⟩
      · have hok : okAct r v u s act = true := by unfold okAct; rw [hmv]; simpa using hge
        have hfa : firstAct r v u s = some act := find_some ha hok A3.no
        have I17 := ((((I12.below hb13).chg (Chg.kept hk14) fun b hb => (hM2 b hb).1).calm hc15).chg (Chg.kept hk16) fun b hb => (hM2 b hb).1).calm hc17
        have C17 := R07.Chg.calmStep (R07.Chg.snoc (R07.Chg.calmStep (R07.Chg.snoc (R07.Chg.snoc C12 (.of_below (S := []) hb13) (by simp)) (Chg.kept hk14) fun b hb => .inr (hM2 b hb).2) hc15) (Chg.kept hk16) fun b hb => .inr (hM2 b hb).2) hc17
        exact ⟨act, (lo, hi), mu, rfl, C17, hdrop (I17.drop (ms := [m12])).drop, by rw [hfa]; exact ⟨rfl, hmv⟩⟩
      · have hno : okAct r v u s act = false := by unfold okAct; rw [hmv]; simp; exact hlt
        have I18 := (I12.below hb13).chg (Chg.kept hk18) fun b hb => (hM2 b hb).1
        exact next (I18.drop (ms := [m12])) (R07.Chg.snoc (R07.Chg.snoc C12 (.of_below (S := []) hb13) (by simp)) (Chg.kept hk18) fun b hb => .inr (hM2 b hb).2) hno fun b hb => hk18.own b (List.mem_cons_of_mem _ (List.mem_cons_of_mem _ hb))
    · have hmv : move r s u act = none := by
        cases h : move r s u act
        · rfl
        · rw [h] at hf; cases hf
      have s9 := hb9.size
      have hM2 : ∀ b ∈ [m12, m11, m5, m4, m3, m2, m1], b ∈ [m12] ++ ([m11] ++ NS) ∧ w.heap.size ≤ b := fun b hb => by
        rcases List.mem_cons.1 hb with rfl | hb
        · exact ⟨by simp, by omega⟩
        · exact ⟨List.mem_append_right _ (hM' b hb).1, (hM' b hb).2⟩
      have I19 := ((I8.below hb9).grow (ms := [m12]) (by simpa using h12)).chg (Chg.kept hk19) fun b hb => (hM2 b hb).1
      exact next (I19.drop (ms := [m12])) (R07.Chg.snoc (R07.Chg.snoc C8 (.of_below (S := []) hb9) (by simp)) (Chg.kept hk19) fun b hb => .inr (hM2 b hb).2) (by unfold okAct; rw [hmv]) fun b hb => hk19.own b (List.mem_cons_of_mem _ (List.mem_cons_of_mem _ hb))
  · rw [List.length_map] at hk
    have hfa : firstAct r v u s = none := find_none fun j y hy => A3.no j y (by rw [hk]; exact (List.getElem?_eq_some_iff.1 hy).1) hy
    exact ⟨(0, -1), s, u, rfl, R07.Chg.calmStep (R07.Chg.snoc A3.chg (Chg.kept hk20) fun b hb => .inr (hM b hb).2) hc21, hdrop ((A3.inv.chg (Chg.kept hk20) fun b hb => (hM b hb).1).calm hc21), by rw [hfa]; exact ⟨rfl, rfl, rfl⟩⟩

def actR (r : Rules) (s : St) : (Int × Int) × Int :=
  if startErr r s ≠ 0 then ((0, 0), startErr r s) else match few r (setOf s.used) (s.lo, s.hi) with
    | none => ((0, 0), 7)
    | some 0 => ((0, 0), 9)
    | some (n + 1) => ((firstAct r n (setOf s.used) (s.lo, s.hi)).getD (0, -1), 0)

theorem actOf_any (r : Rules) (s : St) {a b : Option Addr} {c d : Nat} {w : World} (hc : Cells w a (spans r.ws)) (hs : Cells w b (bools s.used)) :
    Calls Try.prog 25 #[r.v a c, s.v b d] w (Pure w (.tuple #[.agg #[I (actR r s).1.1, I (actR r s).1.2], I (actR r s).2])) := by
  refine vc25 _ _ _ _ _ _ _ _ _ _ _ _ _ w _ fun m1 h1 m2 h2 m3 h3 w1 hb1 hk1 => ?_
  refine (start_any r s (c := c) (d := d) (hc.keep hb1)).mono fun e w2 he => ?_
  obtain ⟨sb, tm, rfl, hb2, g1, g2, q1, q2⟩ := he
  have o1 := hk1.own m1 (by simp)
  have o2 := hk1.own m2 (by simp)
  have o3 := hk1.own m3 (by simp)
  have s1 := hb1.size
  refine ⟨_, _, rfl, .all hb2, fun he w3 hb3 _ => ⟨by unfold actR; rw [if_pos he], hb3⟩, fun he w4 hb4 hk4 => ?_⟩
  obtain ⟨hr, hsp, hlen⟩ := okSt_of he
  have c4 := Chg.kept hk4
  have hl3 := hr.1
  have I4 : Inv r a c sb tm [] [m3, m2, m1] w4 := Inv.start (q1.chg c4 (by simp; omega)) ((c4.keep tm (lt_of_some q2) (by simp; omega)).trans q2) hc hb4 (by simp; omega) (by simp; omega) (by simp; omega)
  refine Pure.calls (newSet_any (hs.keep hb4) (by omega)) fun w5 hb5 => ⟨_, rfl, .all hb5, fun w6 hb6 hk6 => ?_⟩
  have I6 := (I4.below hb5).chg (Chg.kept hk6) (by simp)
  have N6 : ∀ n ∈ [m3, m2, m1], n < w6.heap.size := hk6.own
  have hu : setOf s.used < 8 := setOf_lt (by omega)
  refine (few_any hr hu I6 N6 hsp).mono fun e w7 he7 => ?_
  obtain ⟨rfl, c7, I7⟩ := he7
  refine ⟨_, _, rfl, c7.own (fun b hb => ⟨N6 b hb, fun hh => I6.tmn (by rw [← List.mem_singleton.1 hh]; exact hb)⟩) (by simp) (fun _ => ⟨hb6.size, by simp; omega⟩), fun hf w8 hb8 _ => ⟨?_, hb8⟩, fun hf => ⟨fun h0 w9 hb9 _ => ⟨?_, hb9⟩, fun h0 w10 hb10 hk10 => ?_⟩⟩
  · unfold actR
    rw [if_neg (by omega)]
    cases hfew : few r (setOf s.used) (s.lo, s.hi)
    · rfl
    · rw [hfew] at hf; simp at hf
  · unfold actR
    rw [if_neg (by omega)]
    cases hfew : few r (setOf s.used) (s.lo, s.hi) with
    | none => rw [hfew] at hf; simp at hf
    | some n =>
      rw [hfew] at h0
      obtain rfl : n = 0 := by simpa using h0
      rfl
  · cases hfew : few r (setOf s.used) (s.lo, s.hi) with
    | none => rw [hfew] at hf; simp at hf
    | some n =>
    rw [hfew] at h0
    cases n with
    | zero => simp at h0
    | succ n =>
    have hn7 := few_lt hfew
    have I10 := I7.chg (Chg.kept hk10) (by simp)
    have N10 : ∀ n ∈ [m3, m2, m1], n < w10.heap.size := hk10.own
    refine (act_any hr hu I10 N10 hsp (v := n) (by omega)).mono fun e w11 he11 => ?_
    obtain ⟨act, m, mu, rfl, c11, I11, hact⟩ := he11
    refine ⟨_, _, _, _, _, rfl, c11.own (fun b hb => ⟨N10 b hb, fun hh => I10.tmn (by rw [← List.mem_singleton.1 hh]; exact hb)⟩) (by simp) (fun _ => ⟨hb10.size, by simp; omega⟩), fun w12 hb12 _ => ⟨?_, hb12⟩⟩
    have : actR r s = (act, 0) := by
      unfold actR
      rw [if_neg (by omega), hfew]
      cases hfa : firstAct r n (setOf s.used) (s.lo, s.hi) with
      | none => rw [hfa] at hact; simp [hact.1]; exact hfa ▸ rfl
      | some x => rw [hfa] at hact; simp [hact.1]; exact hfa ▸ rfl
    rw [this]

/-- What is known after an act, and what is seen. -/
def afterR (r : Rules) (s : St) (act : Int × Int) (seen : Int) : St × Int :=
  if startErr r s ≠ 0 then (⟨0, 0, []⟩, startErr r s) else match move r (s.lo, s.hi) (setOf s.used) act with
    | none => (⟨0, 0, []⟩, 3)
    | some (m, u) => if within (m.1 - r.err) (m.2 + r.err) [seen] then (⟨max m.1 (seen - r.err), min m.2 (seen + r.err), (List.range s.used.length).map (has u)⟩, 0) else (⟨0, 0, []⟩, 9)

def AfterPost (x : St × Int) (w : World) (e : Ending) (w' : World) : Prop :=
  ∃ a c, e = .returned (.tuple #[x.1.v a c, I x.2]) ∧ Below w.heap.size w w' ∧ Cells w' a (bools x.1.used) ∧ ∀ b o, a = some ⟨b, o, none⟩ → w.heap.size ≤ b

set_option maxHeartbeats 1000000 in
theorem after_any (r : Rules) (s : St) {a b : Option Addr} {c d : Nat} {w : World} (hc : Cells w a (spans r.ws)) (hs : Cells w b (bools s.used)) (act : Int × Int) (seen : Int) :
    Calls Try.prog 16 #[r.v a c, s.v b d, .agg #[I act.1, I act.2], I seen] w (AfterPost (afterR r s act seen) w) := by
  have no : ∀ {w' : World} {n : Int}, Below w.heap.size w w' → afterR r s act seen = (⟨0, 0, []⟩, n) → AfterPost (afterR r s act seen) w (.returned (.tuple #[.agg #[I 0, I 0, .slice none 0 0], I n])) w' := fun hb he => by
    rw [he]; exact ⟨none, 0, rfl, hb, Cells.nil, fun _ _ h => by cases h⟩
  refine vc16 _ _ _ _ _ _ _ _ _ _ _ _ _ _ _ _ w _ fun m1 h1 m2 h2 m3 h3 m4 h4 w1 hb1 hk1 => ?_
  refine (start_any r s (c := c) (d := d) (hc.keep hb1)).mono fun e w2 he => ?_
  obtain ⟨sb, tm, rfl, hb2, g1, g2, q1, q2⟩ := he
  have o1 := hk1.own m1 (by simp)
  have o2 := hk1.own m2 (by simp)
  have o3 := hk1.own m3 (by simp)
  have o4 := hk1.own m4 (by simp)
  have s1 := hb1.size
  have s2 := hb2.size
  refine ⟨_, _, rfl, .all hb2, fun he w3 hb3 _ => no hb3 (by unfold afterR; rw [if_pos he]), fun he w4 hb4 hk4 => ?_⟩
  obtain ⟨hr, hsp, hlen⟩ := okSt_of he
  have hl3 := hr.1
  have herr := hr.2.2.1
  have c4 := chg_in hk4
  have S4 : ShopAt r a c sb tm w4 := q1.chg c4 (by simp; omega)
  have hu : setOf s.used < 8 := setOf_lt (by omega)
  refine Pure.calls (newSet_any (hs.keep hb4) (by omega)) fun w5 hb5 => ⟨_, rfl, by first | exact hb5 | exact .all hb5, fun w6 hb6 hk6 => ?_⟩
  have S6 : ShopAt r a c sb tm w6 := q1.chg (chg_in' c4 hb5 hk6) (by simp; omega)
  have hsp1 := hsp.1
  have hsp2 := hsp.2.1
  have hsp3 := hsp.2.2
  simp only at hsp1 hsp2 hsp3
  refine MovePost.calls (move_any hr hu S6 (hc.keep hb6) (s.lo, s.hi) ⟨by simp only; omega, by simp only; omega, by simp only; omega, by simp only; omega⟩ act) fun lo hi u' w7 hb7 hp => ⟨_, _, _, _, rfl, by first | exact hb7 | exact .all hb7, fun m5 h5 h5b h5c => ⟨fun hf w8 hb8 _ => no hb8 ?_, fun hf => ?_⟩⟩
  · unfold afterR
    rw [if_neg (by omega)]
    cases hm : move r (s.lo, s.hi) (setOf s.used) act
    · rfl
    · rw [hm] at hf; cases hf
  cases hm : move r (s.lo, s.hi) (setOf s.used) act with
  | none => rw [hm] at hf; cases hf
  | some q =>
  obtain ⟨q, mu⟩ := q
  obtain ⟨rfl, hq⟩ := hp _ hm
  simp only at hq
  subst hq
  obtain ⟨hmu, hq1, hq2, hq3⟩ := move_facts hr hu hm
  simp only at hq1 hq2 hq3
  have hval : afterR r s act seen = if within (lo - r.err) (hi + r.err) [seen] then (⟨max lo (seen - r.err), min hi (seen + r.err), (List.range s.used.length).map (has mu)⟩, 0) else (⟨0, 0, []⟩, 9) := by
    unfold afterR; rw [if_neg (by omega), hm]
  refine ⟨by omega, by omega, fun m6 h6 w9 hb9 hk9 hc9 => ?_⟩
  refine Pure.calls (one_in hc9) fun w10 hb10 => ⟨_, rfl, .all hb10, fun hin w11 hb11 _ => no hb11 ?_, fun hin => ?_⟩
  · rw [hval, if_neg (by simpa using hin)]
  have hin' := (within_one (lo - r.err) (hi + r.err) seen).1 (by simpa using hin)
  have s9 := hb9.size
  have hM : ∀ b ∈ [m6, m5, m4, m3, m2, m1], w.heap.size ≤ b := by simp; have := hb4.size; have := hb6.size; have := hb7.size; omega
  refine ⟨by omega, by omega, fun ls w' => match ls with | [.int _ x, .int _ y, .int _ z, .sl a' n' c'] => 0 ≤ x ∧ x ≤ s.used.length ∧ n' = x.toNat ∧ y = max lo (seen - r.err) ∧ z = min hi (seen + r.err) ∧ Row 4 1 w.heap.size [m6, m5, m4, m3, m2, m1] a' n' c' (bools ((List.range x.toNat).map (has mu))) w' ∧ ∀ b ∈ [m6, m5, m4, m3, m2, m1], b < w'.heap.size | _ => False,
    fun ls => match ls with | [.int _ x, _, _, _] => (s.used.length - x).toNat | _ => 0, fun w12 hb12 hk12 => ⟨by omega, by omega, rfl, rfl, rfl, Row.nil, hk12.own⟩, ?_⟩
  rintro x y z a' n' c' w13 hb13 ⟨h0, hn, rfl, rfl, rfl, hrow, hown⟩
  refine ⟨fun hx w14 hb14 hk14 => ?_, fun hx w19 hb19 hk19 => ?_⟩
  · have c14 := chg_in hk14
    have hxn : x = (x.toNat : Int) := by omega
    have hhas := has_any hmu (i := x.toNat) (by omega) w14
    rw [← hxn] at hhas
    refine Pure.calls hhas fun w15 hb15 => ⟨_, rfl, .all hb15, fun m9 h9 w16 hb16 hk16 hc16 => ?_⟩
    have hM9 : ∀ b ∈ [m9, m6, m5, m4, m3, m2, m1], b ∈ [m9] ++ [m6, m5, m4, m3, m2, m1] ∧ w.heap.size ≤ b := fun b hb => by
      rcases List.mem_cons.1 hb with rfl | hb
      · exact ⟨by simp, by have := hb14.size; have := hb15.size; omega⟩
      · exact ⟨List.mem_append_right _ hb, hM b hb⟩
    have R16 := ((((hrow.chg c14 fun b hb => hb).below hb15).grow (ms := [m9]) (by simpa using h9)).chg (chg_in hk16) fun b hb => (hM9 b hb).1)
    refine append_row (P := Try.prog) (bytes := 1) (by kernel_rfl) (by omega) R16 (m := 1) (news := bools [has mu x.toNat]) (Cells.obj (vs := [.bool _]) hc16) rfl (by simp [bools]; rfl) (by omega) (by omega) hb16.size hk16.own fun a2 c2 w17 R17 S cS hS => ?_
    refine ⟨a2, _, c2, rfl, cS.own (fun b hb => ⟨hk16.own b hb, fun hh => (hS b hh).2 hb⟩) (by simp) (fun _ => ⟨hb16.size, fun b hb => (hS b hb).1⟩), by omega, fun w18 hb18 hk18 => ⟨⟨by omega, by omega, by omega, rfl, rfl, ?_, fun b hb => hk18.own b (List.mem_cons_of_mem _ hb)⟩, ?_⟩⟩
    · have R18 := (R17.chg (Chg.kept hk18) fun b hb => (hM9 b hb).1).drop (ms := [m9])
      rw [show (x + 1).toNat = x.toNat + 1 by omega, List.range_succ, List.map_append]
      simpa [bools] using R18
    · show ((s.used.length : Int) - (x + 1)).toNat < ((s.used.length : Int) - x).toNat
      omega
  · have hxl : x.toNat = s.used.length := by omega
    rw [hval, if_pos (by simpa using hin)]
    have R19 := hrow.chg (Chg.kept hk19) fun b hb => hb
    refine ⟨a', c', ?_, hb19, ?_, fun b o e => (R19.lt b o e).1⟩
    · simp only [St.v, List.length_map, List.length_range, hxl]
    · have := R19.cells
      rw [hxl] at this
      exact this
end Go.Proofs.R07
end
