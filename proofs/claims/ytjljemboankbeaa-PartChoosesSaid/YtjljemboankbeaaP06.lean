/- Part 6: own lemmas, and the conditions of the functions. -/
import Derived.Test.YtjljemboankbeaaProg
import Derived.Test.YtjljemboankbeaaRows
import Derived.Test.YtjljemboankbeaaP05
section
/- The conditions of the functions, printed by program; each is what the generator reckons (kernel_rfl). -/
namespace Go.Proofs
open Go.Vc
set_option maxRecDepth 100000 in
set_option maxHeartbeats 2000000 in
theorem vc68 (p0w0a : Option Addr) (p0w0n : Nat) (p0w0c : Nat) (p0w1a : Option Addr) (p0w1n : Nat) (p0w1c : Nat) (x0 : Int) (x1a : Option Addr) (x1n : Nat) (x1c : Nat) (clock :
    Nat) (w : World) (R : Ending → World → Prop) (h : ∀ (m1 : Nat), w.heap.size ≤ m1 → ∀ (m2 : Nat), w.heap.size ≤ m2 → ∀ (m3 : Nat), w.heap.size ≤ m3 → ∀ (m4 : Nat), w.heap.size ≤
    m4 → ∀ (w1 : World), RowKit.Below w.heap.size w w1 → Kept [m4, m3, m2, m1] w w1 → Calls Try.prog 86 #[Value.agg #[Value.slice p0w0a p0w0n p0w0c, Value.slice p0w1a p0w1n p0w1c],
    Value.int IntKind.i64 x0] w1 fun (e1 : Ending) (w2 : World) => ∃ (v1 : Value), e1 = Ending.returned v1 ∧ KeepX true w.heap.size [m4, m3, m2, m1] (fun _ => False) w1 w2 ∧ ∃ (y1
    : List Value), v1 = Value.func (Fn.func 95) #[] y1.toArray ∧ ∃ (m6 : Nat), ∃ (F1 : Nat → List Value → World → Prop), ∃ (F3 : (Nat → Prop) → List Lf → Nat → World → Prop), ∃ (F4
    : World → Prop), IterY Try.prog 95 [] y1 m6 F1 F4 ∧ (∀ (w6 : World), RowKit.Below w.heap.size w w6 → Kept [m4, m3, m2, m1] w2 w6 → w6.heap[m4]? = some (Obj.cells #[Value.bool
    false] 4) → F3 (fun _ => False) [Lf.bool false] 0 w6) ∧ ∀ (t1 : Bool) (m12 : Nat) (F5 F6 : Nat → Prop) (w7 w8 : World), F3 F5 [Lf.bool t1] m12 w7 → CalmFrom w.heap.size w7 w8 →
    (∀ (m15 : Nat), F5 m15 → F6 m15) → (∀ (m16 : Nat), F6 m16 → F5 m16 ∨ w7.heap.size ≤ m16) → (∀ (m17 : Nat), F6 m17 → w.heap.size ≤ m17 ∧ m17 < w8.heap.size) → RowKit.Below
    w.heap.size w w8 → F4 w8 ∧ (∀ (y5 : List Value), m12 < m6 → F1 m12 y5 w8 → ∃ (x1 : Int), ∃ (v2 : Value), y5 = [Value.int IntKind.i64 x1, v2] ∧ ∀ (m18 : Nat) (w9 w10 : World),
    RowKit.Below w.heap.size w w10 → Kept [m4, m3, m2, m1] w8 w10 → ∀ (w11 : World), CalmFrom w.heap.size w10 w11 → ∀ (w12 w13 : World), RowKit.Below w.heap.size w w13 → Kept [m4,
    m3, m2, m1] w11 w13 → RunsTo Try.prog (Instr.lookup 138 (Value.map (some clock)) (Value.int IntKind.i64 x1) true) w13 fun (v3 : Value) (w14 : World) => ∃ (x2 : Int), ∃ (a1 :
    Option Addr), ∃ (m19 : Nat), ∃ (m20 : Nat), ∃ (t2 : Bool), v3 = Value.tuple #[Value.agg #[Value.int IntKind.i64 x2, Value.slice a1 m19 m20], Value.bool t2] ∧ KeepX true
    w.heap.size [m4, m3, m2, m1] F6 w13 w14 ∧ ∀ (m21 : Nat), w14.heap.size ≤ m21 → (t2 = true → ∃ (m22 : Nat), ∃ (y6 : List Value), ∃ (y7 : List Value), v2 = Value.func (Fn.func
    m22) y6.toArray y7.toArray ∧ Callable Try.prog m22 ∧ ∀ (w15 : World), RowKit.Below w.heap.size w w15 → Kept [m21, m4, m3, m2, m1] w14 w15 → Calls Try.prog m22 (y6 ++ [Value.agg
    #[Value.int IntKind.i64 x0, Value.slice x1a x1n x1c], Value.agg #[Value.int IntKind.i64 x2, Value.slice a1 m19 m20]] ++ y7).toArray w15 fun (e2 : Ending) (w16 : World) => ∃ (t3
    : Bool), e2 = Ending.returned (Value.bool t3) ∧ KeepX true w.heap.size [m21, m4, m3, m2, m1] F6 w15 w16 ∧ ((!t3) = true → ∀ (w17 : World), RowKit.Below w.heap.size w w17 → Kept
    [m21, m4, m3, m2, m1] w16 w17 → ∀ (F7 : Nat → Prop) (w18 : World), CalmFrom w.heap.size w17 w18 → (∀ (m24 : Nat), F6 m24 → F7 m24) → ∀ (w19 : World), RowKit.Below w.heap.size w
    w19 → Kept [m21, m4, m3, m2, m1] w18 w19 → ∀ (w20 : World), CalmFrom w.heap.size w19 w20 → R (Ending.returned (Value.bool false)) w20) ∧ ((!t3) = false → ∀ (w21 : World),
    RowKit.Below w.heap.size w w21 → Kept [m21, m4, m3, m2, m1] w16 w21 → F3 F6 [Lf.bool t1] (m12 + 1) w21)) ∧ (t2 = false → ∀ (w22 : World), RowKit.Below w.heap.size w w22 → Kept
    [m21, m4, m3, m2, m1] w14 w22 → F3 F6 [Lf.bool t1] (m12 + 1) w22)) ∧ (m12 = m6 → ∀ (w23 : World), RowKit.Below w.heap.size w w23 → Kept [m4, m3, m2, m1] w8 w23 → ∀ (w24 :
    World), CalmFrom w.heap.size w23 w24 → R (Ending.returned (Value.bool true)) w24)) : Calls Try.prog 68 #[Value.agg #[Value.slice p0w0a p0w0n p0w0c, Value.slice p0w1a p0w1n
    p0w1c], Value.agg #[Value.int IntKind.i64 x0, Value.slice x1a x1n x1c], Value.map (some clock)] w R := calls_of_vcj (pure := true) (wrapAt := []) (muts := [6]) (esc := [])
    (joins := [(6000095, []), (7000028, [])]) (args := [SV.pv (PV.agg [Lf.sl p0w0a p0w0n p0w0c, Lf.sl p0w1a p0w1n p0w1c]), SV.pv (PV.agg [Lf.int IntKind.i64 x0, Lf.sl x1a x1n
    x1c]), SV.pv (PV.one (Lf.map clock))]) (vs := [Value.agg #[Value.slice p0w0a p0w0n p0w0c, Value.slice p0w1a p0w1n p0w1c], Value.agg #[Value.int IntKind.i64 x0, Value.slice x1a
    x1n x1c], Value.map (some clock)]) Try.func68 rfl rfl rfl (Eq.mp (by kernel_rfl) h) 
set_option maxRecDepth 100000 in
set_option maxHeartbeats 2000000 in
theorem vc86 (p0w0a : Option Addr) (p0w0n : Nat) (p0w0c : Nat) (p0w1a : Option Addr) (p0w1n : Nat) (p0w1c : Nat) (pattern : Int) (w : World) (R : Ending → World → Prop) (h : ∀ (m1
    : Nat), w.heap.size ≤ m1 → ∀ (m2 : Nat), w.heap.size ≤ m2 → ∀ (w1 : World), RowKit.Below w.heap.size w w1 → Kept [m2, m1] w w1 → w1.heap[m1]? = some (Obj.cells #[Value.slice
    p0w0a p0w0n p0w0c, Value.slice p0w1a p0w1n p0w1c] 108) → w1.heap[m2]? = some (Obj.cells #[Value.int IntKind.i64 pattern] 3) → R (Ending.returned (Value.func (Fn.func 95) #[]
    #[Value.pointer (some { block := m1, off := 0 }), Value.pointer (some { block := m2, off := 0 })])) w1) : Calls Try.prog 86 #[Value.agg #[Value.slice p0w0a p0w0n p0w0c,
    Value.slice p0w1a p0w1n p0w1c], Value.int IntKind.i64 pattern] w R := calls_of_vc (pure := true) (wrapAt := []) (muts := []) (esc := []) (args := [SV.pv (PV.agg [Lf.sl p0w0a
    p0w0n p0w0c, Lf.sl p0w1a p0w1n p0w1c]), SV.pv (PV.one (Lf.int IntKind.i64 pattern))]) (vs := [Value.agg #[Value.slice p0w0a p0w0n p0w0c, Value.slice p0w1a p0w1n p0w1c],
    Value.int IntKind.i64 pattern]) Try.func86 rfl rfl rfl (Eq.mp (by kernel_rfl) h) 
set_option maxRecDepth 100000 in
set_option maxHeartbeats 2000000 in
theorem vc95 (yield : Value) (cap0b : Nat) (cap1b : Nat) (w : World) (R : Ending → World → Prop) (h : ∃ (a1 : Option Addr), ∃ (m1 : Nat), ∃ (m2 : Nat), w.cell?
    { block := cap0b, off := 0 + 0 + 1 } = some (Value.slice a1 m1 m2) ∧ ∃ (F1 : List Lf → World → Prop), ∃ (F2 : List Lf → Nat), (∀ (w2 : World), Kept [] w w2 → F1 [Lf.int
    IntKind.i64 0] w2) ∧ ∀ (x1 : Int) (w3 : World), F1 [Lf.int IntKind.i64 x1] w3 → (x1 < (↑m1 : Int) → ∃ (m3 : Nat), ∃ (m4 : Nat), a1 = some { block := m3, off := m4 } ∧ (0 ≤ x1 ∧
    x1 < (↑m1 : Int)) ∧ ∃ (x2 : Int), ∃ (x3 : Int), ∃ (x4 : Int), ∃ (x5 : Int), ∃ (x6 : Int), ∃ (x7 : Int), w3.cell? { block := m3, off := m4 + x1.toNat * 6 } = some (Value.int
    IntKind.i64 x2) ∧ w3.cell? { block := m3, off := m4 + x1.toNat * 6 + 1 } = some (Value.int IntKind.i64 x3) ∧ w3.cell? { block := m3, off := m4 + x1.toNat * 6 + 1 + 1 } = some
    (Value.int IntKind.i64 x4) ∧ w3.cell? { block := m3, off := m4 + x1.toNat * 6 + 1 + 1 + 1 } = some (Value.int IntKind.i64 x5) ∧ w3.cell?
    { block := m3, off := m4 + x1.toNat * 6 + 1 + 1 + 1 + 1 } = some (Value.int IntKind.i64 x6) ∧ w3.cell? { block := m3, off := m4 + x1.toNat * 6 + 1 + 1 + 1 + 1 + 1 } = some
    (Value.int IntKind.i64 x7) ∧ ∀ (w4 : World), Kept [] w3 w4 → ∀ (m5 : Nat) (w5 : World), m5 = w4.heap.size → w5 = w4.alloc (Obj.cells #[Value.int IntKind.i64 0, Value.int
    IntKind.i64 0, Value.int IntKind.i64 0, Value.int IntKind.i64 0, Value.int IntKind.i64 0, Value.int IntKind.i64 0] 67) → ∀ (w6 : World), Kept [] w5 w6 → RunsTo Try.prog
    ((Instr.storeAt 67 (Value.pointer (some { block := m5, off := 0 })) (Value.agg #[Value.int IntKind.i64 x2, Value.int IntKind.i64 x3, Value.int IntKind.i64 x4, Value.int
    IntKind.i64 x5, Value.int IntKind.i64 x6, Value.int IntKind.i64 x7])) >>= fun _ => pure (Value.tuple #[])) w6 fun (v1 : Value) (w7 : World) => KeepX false w.heap.size [] (fun _
    => False) w6 w7 ∧ ∃ (x8 : Int), w7.cell? { block := cap1b, off := 0 } = some (Value.int IntKind.i64 x8) ∧ ∃ (x9 : Int), w7.cell? { block := m5, off := 0 + 0 } = some (Value.int
    IntKind.i64 x9) ∧ (x8 = x9 → ∃ (x10 : Int), w7.cell? { block := m5, off := 0 + 2 } = some (Value.int IntKind.i64 x10) ∧ ∀ (w8 : World), Kept [] w7 w8 → ∃ (m7 : Nat), yield =
    Value.func (Fn.yield m7) #[] #[] ∧ YieldAt { fn := fun (m8 : Nat) => True, alive := false } 0 Try.prog m7 #[Value.int IntKind.i64 x10, Value.func (Fn.func 96) #[]
    #[Value.pointer (some { block := m5, off := 0 })]] w8 fun (e1 : Ending) (w9 : World) => ∃ (t1 : Bool), e1 = Ending.returned (Value.bool t1) ∧ KeepX false w.heap.size [] (fun _
    => False) w8 w9 ∧ ((!t1) = true → ∀ (w10 : World), Kept [] w9 w10 → R (Ending.returned (Value.tuple #[])) w10) ∧ ((!t1) = false → (-9223372036854775808 ≤ x1 + 1 ∧ x1 + (1 :
    Int) ≤ 9223372036854775807) ∧ ∀ (w11 : World), Kept [] w9 w11 → F1 [Lf.int IntKind.i64 (x1 + 1)] w11 ∧ F2 [Lf.int IntKind.i64 (x1 + 1)] < F2 [Lf.int IntKind.i64 x1])) ∧ (x8 ≠
    x9 → ∃ (x11 : Int), w7.cell? { block := m5, off := 0 + 2 } = some (Value.int IntKind.i64 x11) ∧ (x8 = x11 → ∃ (x12 : Int), w7.cell? { block := m5, off := 0 + 0 } = some
    (Value.int IntKind.i64 x12) ∧ ∀ (w12 : World), Kept [] w7 w12 → ∃ (m10 : Nat), yield = Value.func (Fn.yield m10) #[] #[] ∧ YieldAt
    { fn := fun (m11 : Nat) => True, alive := false } 0 Try.prog m10 #[Value.int IntKind.i64 x12, Value.func (Fn.func 97) #[] #[Value.pointer (some { block := m5, off := 0 })]] w12
    fun (e2 : Ending) (w13 : World) => ∃ (t2 : Bool), e2 = Ending.returned (Value.bool t2) ∧ KeepX false w.heap.size [] (fun _ => False) w12 w13 ∧ ((!t2) = true → ∀ (w14 : World),
    Kept [] w13 w14 → R (Ending.returned (Value.tuple #[])) w14) ∧ ((!t2) = false → (-9223372036854775808 ≤ x1 + 1 ∧ x1 + (1 : Int) ≤ 9223372036854775807) ∧ ∀ (w15 : World), Kept
    [] w13 w15 → F1 [Lf.int IntKind.i64 (x1 + 1)] w15 ∧ F2 [Lf.int IntKind.i64 (x1 + 1)] < F2 [Lf.int IntKind.i64 x1])) ∧ (x8 ≠ x11 → (-9223372036854775808 ≤ x1 + 1 ∧ x1 + (1 :
    Int) ≤ 9223372036854775807) ∧ ∀ (w16 : World), Kept [] w7 w16 → F1 [Lf.int IntKind.i64 (x1 + 1)] w16 ∧ F2 [Lf.int IntKind.i64 (x1 + 1)] < F2 [Lf.int IntKind.i64 x1]))) ∧ ((↑m1
    : Int) ≤ x1 → ∀ (w17 : World), Kept [] w3 w17 → R (Ending.returned (Value.tuple #[])) w17)) : Calls Try.prog 95 #[yield, Value.pointer (some { block := cap0b, off := 0 }),
    Value.pointer (some { block := cap1b, off := 0 })] w R := calls_of_vc (pure := false) (wrapAt := []) (muts := []) (esc := [5]) (args := [SV.pv (PV.one (Lf.val yield)), SV.pv
    (PV.one (Lf.ptr cap0b 0)), SV.pv (PV.one (Lf.ptr cap1b 0))]) (vs := [yield, Value.pointer (some { block := cap0b, off := 0 }), Value.pointer (some
    { block := cap1b, off := 0 })]) Try.func95 rfl rfl rfl (Eq.mp (by kernel_rfl) h) 
set_option maxRecDepth 100000 in
set_option maxHeartbeats 2000000 in
theorem vc96 (x0 : Int) (x1a : Option Addr) (x1n : Nat) (x1c : Nat) (mate0 : Int) (mate1a : Option Addr) (mate1n : Nat) (mate1c : Nat) (cap0b : Nat) (w : World) (R : Ending → World
    → Prop) (h : ∀ (m1 : Nat), w.heap.size ≤ m1 → ∀ (m2 : Nat), w.heap.size ≤ m2 → ∃ (x1 : Int), ∃ (x2 : Int), ∃ (x3 : Int), ∃ (x4 : Int), ∃ (x5 : Int), ∃ (x6 : Int), w.cell?
    { block := cap0b, off := 0 } = some (Value.int IntKind.i64 x1) ∧ w.cell? { block := cap0b, off := 0 + 1 } = some (Value.int IntKind.i64 x2) ∧ w.cell?
    { block := cap0b, off := 0 + 1 + 1 } = some (Value.int IntKind.i64 x3) ∧ w.cell? { block := cap0b, off := 0 + 1 + 1 + 1 } = some (Value.int IntKind.i64 x4) ∧ w.cell?
    { block := cap0b, off := 0 + 1 + 1 + 1 + 1 } = some (Value.int IntKind.i64 x5) ∧ w.cell? { block := cap0b, off := 0 + 1 + 1 + 1 + 1 + 1 } = some (Value.int IntKind.i64 x6) ∧
    (cap0b < w.heap.size ∨ cap0b ≠ m2 ∧ cap0b ≠ m1) ∧ ∃ (x7 : Int), w.cell? { block := cap0b, off := 0 + 1 } = some (Value.int IntKind.i64 x7) ∧ (cap0b < w.heap.size ∨ cap0b ≠ m2 ∧
    cap0b ≠ m1) ∧ ∃ (m3 : Nat), ∃ (m4 : Nat), x1a = some { block := m3, off := m4 } ∧ (0 ≤ x7 ∧ x7 < (↑x1n : Int)) ∧ ∃ (x8 : Int), w.cell? { block := m3, off := m4 + x7.toNat * 1 }
    = some (Value.int IntKind.i64 x8) ∧ (m3 < w.heap.size ∨ m3 ≠ m2 ∧ m3 ≠ m1) ∧ ∃ (x9 : Int), w.cell? { block := cap0b, off := 0 + 3 } = some (Value.int IntKind.i64 x9) ∧ (cap0b <
    w.heap.size ∨ cap0b ≠ m2 ∧ cap0b ≠ m1) ∧ ∃ (m5 : Nat), ∃ (m6 : Nat), mate1a = some { block := m5, off := m6 } ∧ (0 ≤ x9 ∧ x9 < (↑mate1n : Int)) ∧ ∃ (x10 : Int), w.cell?
    { block := m5, off := m6 + x9.toNat * 1 } = some (Value.int IntKind.i64 x10) ∧ (m5 < w.heap.size ∨ m5 ≠ m2 ∧ m5 ≠ m1) ∧ ∀ (w1 : World), RowKit.Below w.heap.size w w1 → KeptIn
    [(0, w.heap.size)] [m2, m1] w w1 → Calls Try.prog 83 #[Value.agg #[Value.int IntKind.i64 x1, Value.int IntKind.i64 x2, Value.int IntKind.i64 x3, Value.int IntKind.i64 x4,
    Value.int IntKind.i64 x5, Value.int IntKind.i64 x6], Value.int IntKind.i64 x8, Value.int IntKind.i64 x10] w1 fun (e1 : Ending) (w2 : World) => ∃ (t1 : Bool), e1 =
    Ending.returned (Value.bool t1) ∧ KeepX true w.heap.size [m2, m1] (fun _ => False) w1 w2 ∧ ∀ (w3 : World), RowKit.Below w.heap.size w w3 → Kept [m2, m1] w2 w3 → R
    (Ending.returned (Value.bool t1)) w3) : Calls Try.prog 96 #[Value.agg #[Value.int IntKind.i64 x0, Value.slice x1a x1n x1c], Value.agg #[Value.int IntKind.i64 mate0, Value.slice
    mate1a mate1n mate1c], Value.pointer (some { block := cap0b, off := 0 })] w R := calls_of_vc (pure := true) (wrapAt := []) (muts := []) (esc := []) (args := [SV.pv (PV.agg
    [Lf.int IntKind.i64 x0, Lf.sl x1a x1n x1c]), SV.pv (PV.agg [Lf.int IntKind.i64 mate0, Lf.sl mate1a mate1n mate1c]), SV.pv (PV.one (Lf.ptr cap0b 0))]) (vs := [Value.agg
    #[Value.int IntKind.i64 x0, Value.slice x1a x1n x1c], Value.agg #[Value.int IntKind.i64 mate0, Value.slice mate1a mate1n mate1c], Value.pointer (some
    { block := cap0b, off := 0 })]) Try.func96 rfl rfl rfl (Eq.mp (by kernel_rfl) h) 
set_option maxRecDepth 100000 in
set_option maxHeartbeats 2000000 in
theorem vc97 (x0 : Int) (x1a : Option Addr) (x1n : Nat) (x1c : Nat) (mate0 : Int) (mate1a : Option Addr) (mate1n : Nat) (mate1c : Nat) (cap0b : Nat) (w : World) (R : Ending → World
    → Prop) (h : ∀ (m1 : Nat), w.heap.size ≤ m1 → ∀ (m2 : Nat), w.heap.size ≤ m2 → ∃ (x1 : Int), ∃ (x2 : Int), ∃ (x3 : Int), ∃ (x4 : Int), ∃ (x5 : Int), ∃ (x6 : Int), w.cell?
    { block := cap0b, off := 0 } = some (Value.int IntKind.i64 x1) ∧ w.cell? { block := cap0b, off := 0 + 1 } = some (Value.int IntKind.i64 x2) ∧ w.cell?
    { block := cap0b, off := 0 + 1 + 1 } = some (Value.int IntKind.i64 x3) ∧ w.cell? { block := cap0b, off := 0 + 1 + 1 + 1 } = some (Value.int IntKind.i64 x4) ∧ w.cell?
    { block := cap0b, off := 0 + 1 + 1 + 1 + 1 } = some (Value.int IntKind.i64 x5) ∧ w.cell? { block := cap0b, off := 0 + 1 + 1 + 1 + 1 + 1 } = some (Value.int IntKind.i64 x6) ∧
    (cap0b < w.heap.size ∨ cap0b ≠ m2 ∧ cap0b ≠ m1) ∧ ∃ (x7 : Int), w.cell? { block := cap0b, off := 0 + 1 } = some (Value.int IntKind.i64 x7) ∧ (cap0b < w.heap.size ∨ cap0b ≠ m2 ∧
    cap0b ≠ m1) ∧ ∃ (m3 : Nat), ∃ (m4 : Nat), mate1a = some { block := m3, off := m4 } ∧ (0 ≤ x7 ∧ x7 < (↑mate1n : Int)) ∧ ∃ (x8 : Int), w.cell?
    { block := m3, off := m4 + x7.toNat * 1 } = some (Value.int IntKind.i64 x8) ∧ (m3 < w.heap.size ∨ m3 ≠ m2 ∧ m3 ≠ m1) ∧ ∃ (x9 : Int), w.cell? { block := cap0b, off := 0 + 3 } =
    some (Value.int IntKind.i64 x9) ∧ (cap0b < w.heap.size ∨ cap0b ≠ m2 ∧ cap0b ≠ m1) ∧ ∃ (m5 : Nat), ∃ (m6 : Nat), x1a = some { block := m5, off := m6 } ∧ (0 ≤ x9 ∧ x9 < (↑x1n :
    Int)) ∧ ∃ (x10 : Int), w.cell? { block := m5, off := m6 + x9.toNat * 1 } = some (Value.int IntKind.i64 x10) ∧ (m5 < w.heap.size ∨ m5 ≠ m2 ∧ m5 ≠ m1) ∧ ∀ (w1 : World),
    RowKit.Below w.heap.size w w1 → KeptIn [(0, w.heap.size)] [m2, m1] w w1 → Calls Try.prog 83 #[Value.agg #[Value.int IntKind.i64 x1, Value.int IntKind.i64 x2, Value.int
    IntKind.i64 x3, Value.int IntKind.i64 x4, Value.int IntKind.i64 x5, Value.int IntKind.i64 x6], Value.int IntKind.i64 x8, Value.int IntKind.i64 x10] w1 fun (e1 : Ending) (w2 :
    World) => ∃ (t1 : Bool), e1 = Ending.returned (Value.bool t1) ∧ KeepX true w.heap.size [m2, m1] (fun _ => False) w1 w2 ∧ ∀ (w3 : World), RowKit.Below w.heap.size w w3 → Kept
    [m2, m1] w2 w3 → R (Ending.returned (Value.bool t1)) w3) : Calls Try.prog 97 #[Value.agg #[Value.int IntKind.i64 x0, Value.slice x1a x1n x1c], Value.agg #[Value.int IntKind.i64
    mate0, Value.slice mate1a mate1n mate1c], Value.pointer (some { block := cap0b, off := 0 })] w R := calls_of_vc (pure := true) (wrapAt := []) (muts := []) (esc := []) (args :=
    [SV.pv (PV.agg [Lf.int IntKind.i64 x0, Lf.sl x1a x1n x1c]), SV.pv (PV.agg [Lf.int IntKind.i64 mate0, Lf.sl mate1a mate1n mate1c]), SV.pv (PV.one (Lf.ptr cap0b 0))]) (vs :=
    [Value.agg #[Value.int IntKind.i64 x0, Value.slice x1a x1n x1c], Value.agg #[Value.int IntKind.i64 mate0, Value.slice mate1a mate1n mate1c], Value.pointer (some
    { block := cap0b, off := 0 })]) Try.func97 rfl rfl rfl (Eq.mp (by kernel_rfl) h) 
set_option maxRecDepth 100000 in
set_option maxHeartbeats 2000000 in
theorem vc36 (p0w0a : Option Addr) (p0w0n : Nat) (p0w0c : Nat) (p0w1a : Option Addr) (p0w1n : Nat) (p0w1c : Nat) (clocka : Option Addr) (clockn : Nat) (clockc : Nat) (pattern :
    Int) (storea : Option Addr) (storen : Nat) (storec : Nat) (w : World) (R : Ending → World → Prop) (h : ∀ (m1 : Nat), w.heap.size ≤ m1 → ∀ (m2 : Nat), w.heap.size ≤ m2 → ∀ (w1 :
    World), RowKit.Below w.heap.size w w1 → Kept [m2, m1] w w1 → Calls Try.prog 16 #[Value.agg #[Value.slice p0w0a p0w0n p0w0c, Value.slice p0w1a p0w1n p0w1c]] w1 fun (e1 : Ending)
    (w2 : World) => ∃ (x1 : Int), e1 = Ending.returned (Value.int IntKind.i64 x1) ∧ KeepX true w.heap.size [m2, m1] (fun _ => False) w1 w2 ∧ (x1 ≠ 0 → ∀ (w3 : World), RowKit.Below
    w.heap.size w w3 → Kept [m2, m1] w2 w3 → R (Ending.returned (Value.tuple #[Value.slice none 0 0, Value.int IntKind.i64 2])) w3) ∧ (x1 = 0 → (-9223372036854775808 ≤ (↑p0w0n :
    Int) - 1 ∧ (↑p0w0n : Int) - (1 : Int) ≤ 9223372036854775807) ∧ ∀ (m4 : Nat), w2.heap.size ≤ m4 → ∀ (w4 : World), RowKit.Below w.heap.size w w4 → Kept [m4, m2, m1] w2 w4 →
    w4.heap[m4]? = some (Obj.cells #[Value.int IntKind.i64 pattern] 3) → Calls Try.prog 50 #[Value.int IntKind.i64 0, Value.int IntKind.i64 ((↑p0w0n : Int) - 1), Value.slice (some
    { block := m4, off := 0 }) 1 1] w4 fun (e2 : Ending) (w5 : World) => ∃ (t1 : Bool), e2 = Ending.returned (Value.bool t1) ∧ KeepX true w.heap.size [m4, m2, m1] (fun _ => False)
    w4 w5 ∧ ((!t1) = true → ∀ (w6 : World), RowKit.Below w.heap.size w w6 → Kept [m4, m2, m1] w5 w6 → R (Ending.returned (Value.tuple #[Value.slice none 0 0, Value.int IntKind.i64
    7])) w6) ∧ ((!t1) = false → (20 < (↑clockn : Int) → (20 < (↑clockn : Int) → ∀ (w7 : World), RowKit.Below w.heap.size w w7 → Kept [m4, m2, m1] w5 w7 → R (Ending.returned
    (Value.tuple #[Value.slice none 0 0, Value.int IntKind.i64 5])) w7) ∧ ((↑clockn : Int) ≤ 20 → ∀ (w8 : World), RowKit.Below w.heap.size w w8 → Kept [m4, m2, m1] w5 w8 → RunsTo
    Try.prog (Instr.makeMap 138 none) w8 fun (v1 : Value) (w9 : World) => ∃ (m7 : Nat), v1 = Value.map (some m7) ∧ KeepX true w.heap.size [m4, m2, m1] (fun _ => False) w8 w9 ∧ ∃
    (F1 : List Lf → World → Prop), ∃ (F2 : List Lf → Nat), (∀ (w11 : World), RowKit.Below w.heap.size w w11 → Kept [m4, m2, m1] w9 w11 → F1 [Lf.sl none 0 0, Lf.int IntKind.i64 0,
    Lf.int IntKind.i64 0] w11) ∧ ∀ (a1 : Option Addr) (m9 m10 : Nat) (x2 x3 : Int) (w12 : World), RowKit.Below w.heap.size w w12 → F1 [Lf.sl a1 m9 m10, Lf.int IntKind.i64 x2,
    Lf.int IntKind.i64 x3] w12 → (x3 < (↑clockn : Int) → ∃ (m11 : Nat), ∃ (m12 : Nat), clocka = some { block := m11, off := m12 } ∧ (0 ≤ x3 ∧ x3 < (↑clockn : Int)) ∧ ∃ (x4 : Int),
    ∃ (a2 : Option Addr), ∃ (m13 : Nat), ∃ (m14 : Nat), w12.cell? { block := m11, off := m12 + x3.toNat * 2 } = some (Value.int IntKind.i64 x4) ∧ w12.cell?
    { block := m11, off := m12 + x3.toNat * 2 + 1 } = some (Value.slice a2 m13 m14) ∧ (m11 < w.heap.size ∨ m11 ≠ m4 ∧ m11 ≠ m2 ∧ m11 ≠ m1) ∧ ∀ (m15 : Nat), w12.heap.size ≤ m15 → ∀
    (w13 : World), RowKit.Below w.heap.size w w13 → Kept [m4, m15, m2, m1] w12 w13 → Calls Try.prog 58 #[Value.agg #[Value.slice p0w0a p0w0n p0w0c, Value.slice p0w1a p0w1n p0w1c],
    Value.agg #[Value.int IntKind.i64 x4, Value.slice a2 m13 m14]] w13 fun (e3 : Ending) (w14 : World) => ∃ (x5 : Int), e3 = Ending.returned (Value.int IntKind.i64 x5) ∧ KeepX true
    w.heap.size [m4, m15, m2, m1] (fun _ => False) w13 w14 ∧ (x5 ≠ 0 → ∀ (w15 : World), RowKit.Below w.heap.size w w15 → Kept [m4, m15, m2, m1] w14 w15 → R (Ending.returned
    (Value.tuple #[Value.slice none 0 0, Value.int IntKind.i64 x5])) w15) ∧ (x5 = 0 → ∀ (w16 : World), RowKit.Below w.heap.size w w16 → Kept [m4, m15, m2, m1] w14 w16 → RunsTo
    Try.prog (Instr.lookup 138 (Value.map (some m7)) (Value.int IntKind.i64 x4) true) w16 fun (v2 : Value) (w17 : World) => ∃ (x6 : Int), ∃ (a3 : Option Addr), ∃ (m17 : Nat), ∃
    (m18 : Nat), ∃ (t2 : Bool), v2 = Value.tuple #[Value.agg #[Value.int IntKind.i64 x6, Value.slice a3 m17 m18], Value.bool t2] ∧ KeepX true w.heap.size [m4, m15, m2, m1] (fun _
    => False) w16 w17 ∧ ∀ (m20 : Nat), w17.heap.size ≤ m20 → (t2 = true → ∀ (w18 : World), RowKit.Below w.heap.size w w18 → Kept [m4, m20, m15, m2, m1] w17 w18 → R (Ending.returned
    (Value.tuple #[Value.slice none 0 0, Value.int IntKind.i64 6])) w18) ∧ (t2 = false → ∀ (w19 : World), RowKit.Below w.heap.size w w19 → Kept [m4, m20, m15, m2, m1] w17 w19 →
    RunsTo Try.prog ((Instr.mapUpdate 138 (Value.map (some m7)) (Value.int IntKind.i64 x4) (Value.agg #[Value.int IntKind.i64 x4, Value.slice a2 m13 m14])) >>= fun _ => pure
    (Value.tuple #[])) w19 fun (v3 : Value) (w20 : World) => KeepX true w.heap.size [m4, m20, m15, m2, m1] (fun _ => False) w19 w20 ∧ (-9223372036854775808 ≤ x3 + 1 ∧ x3 + (1 :
    Int) ≤ 9223372036854775807) ∧ ∀ (w21 : World), RowKit.Below w.heap.size w w21 → Kept [m4, m20, m15, m2, m1] w20 w21 → F1 [Lf.sl a1 m9 m10, Lf.int IntKind.i64 x2, Lf.int
    IntKind.i64 (x3 + 1)] w21 ∧ F2 [Lf.sl a1 m9 m10, Lf.int IntKind.i64 x2, Lf.int IntKind.i64 (x3 + 1)] < F2 [Lf.sl a1 m9 m10, Lf.int IntKind.i64 x2, Lf.int IntKind.i64 x3]))) ∧
    ((↑clockn : Int) ≤ x3 → ∃ (F3 : List Lf → World → Prop), ∃ (F4 : List Lf → Nat), (∀ (w23 : World), RowKit.Below w.heap.size w w23 → Kept [m4, m2, m1] w12 w23 → F3 [Lf.sl a1 m9
    m10, Lf.int IntKind.i64 x2, Lf.int IntKind.i64 0] w23) ∧ ∀ (a4 : Option Addr) (m22 m23 : Nat) (x7 x8 : Int) (w24 : World), RowKit.Below w.heap.size w w24 → F3 [Lf.sl a4 m22
    m23, Lf.int IntKind.i64 x7, Lf.int IntKind.i64 x8] w24 → (x8 < (↑storen : Int) → ∃ (m24 : Nat), ∃ (m25 : Nat), storea = some { block := m24, off := m25 } ∧ (0 ≤ x8 ∧ x8 <
    (↑storen : Int)) ∧ ∃ (x9 : Int), ∃ (a5 : Option Addr), ∃ (m26 : Nat), ∃ (m27 : Nat), w24.cell? { block := m24, off := m25 + x8.toNat * 2 } = some (Value.int IntKind.i64 x9) ∧
    w24.cell? { block := m24, off := m25 + x8.toNat * 2 + 1 } = some (Value.slice a5 m26 m27) ∧ (m24 < w.heap.size ∨ m24 ≠ m4 ∧ m24 ≠ m2 ∧ m24 ≠ m1) ∧ ∀ (m28 : Nat), w24.heap.size
    ≤ m28 → ∀ (w25 : World), RowKit.Below w.heap.size w w25 → Kept [m4, m28, m2, m1] w24 w25 → Calls Try.prog 58 #[Value.agg #[Value.slice p0w0a p0w0n p0w0c, Value.slice p0w1a
    p0w1n p0w1c], Value.agg #[Value.int IntKind.i64 x9, Value.slice a5 m26 m27]] w25 fun (e4 : Ending) (w26 : World) => ∃ (x10 : Int), e4 = Ending.returned (Value.int IntKind.i64
    x10) ∧ KeepX true w.heap.size [m4, m28, m2, m1] (fun _ => False) w25 w26 ∧ (x10 ≠ 0 → ∀ (w27 : World), RowKit.Below w.heap.size w w27 → Kept [m4, m28, m2, m1] w26 w27 → R
    (Ending.returned (Value.tuple #[Value.slice none 0 0, Value.int IntKind.i64 x10])) w27) ∧ (x10 = 0 → (x9 = pattern → ∀ (w28 : World), RowKit.Below w.heap.size w w28 → Kept [m4,
    m28, m2, m1] w26 w28 → Calls Try.prog 59 #[Value.agg #[Value.slice p0w0a p0w0n p0w0c, Value.slice p0w1a p0w1n p0w1c], Value.agg #[Value.int IntKind.i64 x9, Value.slice a5 m26
    m27]] w28 fun (e5 : Ending) (w29 : World) => ∃ (t3 : Bool), e5 = Ending.returned (Value.bool t3) ∧ KeepX true w.heap.size [m4, m28, m2, m1] (fun _ => False) w28 w29 ∧ (t3 =
    true → ∀ (w30 : World), RowKit.Below w.heap.size w w30 → Kept [m4, m28, m2, m1] w29 w30 → Calls Try.prog 68 #[Value.agg #[Value.slice p0w0a p0w0n p0w0c, Value.slice p0w1a p0w1n
    p0w1c], Value.agg #[Value.int IntKind.i64 x9, Value.slice a5 m26 m27], Value.map (some m7)] w30 fun (e6 : Ending) (w31 : World) => ∃ (t4 : Bool), e6 = Ending.returned
    (Value.bool t4) ∧ KeepX true w.heap.size [m4, m28, m2, m1] (fun _ => False) w30 w31 ∧ (t4 = true → ∀ (m32 : Nat), w31.heap.size ≤ m32 → ∀ (w32 : World), RowKit.Below
    w.heap.size w w32 → Kept [m32, m4, m28, m2, m1] w31 w32 → w32.heap[m32]? = some (Obj.cells #[Value.int IntKind.i64 x8] 3) → RunsTo Try.prog (Builtin.append_ #[38, 38] 38
    #[Value.slice a4 m22 m23, Value.slice (some { block := m32, off := 0 }) 1 1]) w32 fun (v4 : Value) (w33 : World) => ∃ (a6 : Option Addr), ∃ (m34 : Nat), ∃ (m35 : Nat), v4 =
    Value.slice a6 m34 m35 ∧ KeepX true w.heap.size [m32, m4, m28, m2, m1] (fun _ => False) w32 w33 ∧ (-9223372036854775808 ≤ x8 + 1 ∧ x8 + (1 : Int) ≤ 9223372036854775807) ∧ ∀
    (w34 : World), RowKit.Below w.heap.size w w34 → Kept [m32, m4, m28, m2, m1] w33 w34 → F3 [Lf.sl a6 m34 m35, Lf.int IntKind.i64 x7, Lf.int IntKind.i64 (x8 + 1)] w34 ∧ F4 [Lf.sl
    a6 m34 m35, Lf.int IntKind.i64 x7, Lf.int IntKind.i64 (x8 + 1)] < F4 [Lf.sl a4 m22 m23, Lf.int IntKind.i64 x7, Lf.int IntKind.i64 x8]) ∧ (t4 = false → (-9223372036854775808 ≤
    x8 + 1 ∧ x8 + (1 : Int) ≤ 9223372036854775807) ∧ ∀ (w35 : World), RowKit.Below w.heap.size w w35 → Kept [m4, m28, m2, m1] w31 w35 → F3 [Lf.sl a4 m22 m23, Lf.int IntKind.i64 x7,
    Lf.int IntKind.i64 (x8 + 1)] w35 ∧ F4 [Lf.sl a4 m22 m23, Lf.int IntKind.i64 x7, Lf.int IntKind.i64 (x8 + 1)] < F4 [Lf.sl a4 m22 m23, Lf.int IntKind.i64 x7, Lf.int IntKind.i64
    x8])) ∧ (t3 = false → (-9223372036854775808 ≤ x8 + 1 ∧ x8 + (1 : Int) ≤ 9223372036854775807) ∧ ∀ (w36 : World), RowKit.Below w.heap.size w w36 → Kept [m4, m28, m2, m1] w29 w36
    → F3 [Lf.sl a4 m22 m23, Lf.int IntKind.i64 x7, Lf.int IntKind.i64 (x8 + 1)] w36 ∧ F4 [Lf.sl a4 m22 m23, Lf.int IntKind.i64 x7, Lf.int IntKind.i64 (x8 + 1)] < F4 [Lf.sl a4 m22
    m23, Lf.int IntKind.i64 x7, Lf.int IntKind.i64 x8])) ∧ (x9 ≠ pattern → (-9223372036854775808 ≤ x8 + 1 ∧ x8 + (1 : Int) ≤ 9223372036854775807) ∧ ∀ (w37 : World), RowKit.Below
    w.heap.size w w37 → Kept [m4, m28, m2, m1] w26 w37 → F3 [Lf.sl a4 m22 m23, Lf.int IntKind.i64 x7, Lf.int IntKind.i64 (x8 + 1)] w37 ∧ F4 [Lf.sl a4 m22 m23, Lf.int IntKind.i64
    x7, Lf.int IntKind.i64 (x8 + 1)] < F4 [Lf.sl a4 m22 m23, Lf.int IntKind.i64 x7, Lf.int IntKind.i64 x8]))) ∧ ((↑storen : Int) ≤ x8 → ∀ (w38 : World), RowKit.Below w.heap.size w
    w38 → Kept [m4, m2, m1] w24 w38 → R (Ending.returned (Value.tuple #[Value.slice a4 m22 m23, Value.int IntKind.i64 0])) w38)))) ∧ ((↑clockn : Int) ≤ 20 → (200 < (↑storen : Int)
    → ∀ (w39 : World), RowKit.Below w.heap.size w w39 → Kept [m4, m2, m1] w5 w39 → R (Ending.returned (Value.tuple #[Value.slice none 0 0, Value.int IntKind.i64 5])) w39) ∧
    ((↑storen : Int) ≤ 200 → ∀ (w40 : World), RowKit.Below w.heap.size w w40 → Kept [m4, m2, m1] w5 w40 → RunsTo Try.prog (Instr.makeMap 138 none) w40 fun (v5 : Value) (w41 :
    World) => ∃ (m37 : Nat), v5 = Value.map (some m37) ∧ KeepX true w.heap.size [m4, m2, m1] (fun _ => False) w40 w41 ∧ ∃ (F5 : List Lf → World → Prop), ∃ (F6 : List Lf → Nat), (∀
    (w43 : World), RowKit.Below w.heap.size w w43 → Kept [m4, m2, m1] w41 w43 → F5 [Lf.sl none 0 0, Lf.int IntKind.i64 0, Lf.int IntKind.i64 0] w43) ∧ ∀ (a7 : Option Addr) (m39 m40
    : Nat) (x11 x12 : Int) (w44 : World), RowKit.Below w.heap.size w w44 → F5 [Lf.sl a7 m39 m40, Lf.int IntKind.i64 x11, Lf.int IntKind.i64 x12] w44 → (x12 < (↑clockn : Int) → ∃
    (m41 : Nat), ∃ (m42 : Nat), clocka = some { block := m41, off := m42 } ∧ (0 ≤ x12 ∧ x12 < (↑clockn : Int)) ∧ ∃ (x13 : Int), ∃ (a8 : Option Addr), ∃ (m43 : Nat), ∃ (m44 : Nat),
    w44.cell? { block := m41, off := m42 + x12.toNat * 2 } = some (Value.int IntKind.i64 x13) ∧ w44.cell? { block := m41, off := m42 + x12.toNat * 2 + 1 } = some (Value.slice a8
    m43 m44) ∧ (m41 < w.heap.size ∨ m41 ≠ m4 ∧ m41 ≠ m2 ∧ m41 ≠ m1) ∧ ∀ (m45 : Nat), w44.heap.size ≤ m45 → ∀ (w45 : World), RowKit.Below w.heap.size w w45 → Kept [m4, m45, m2, m1]
    w44 w45 → Calls Try.prog 58 #[Value.agg #[Value.slice p0w0a p0w0n p0w0c, Value.slice p0w1a p0w1n p0w1c], Value.agg #[Value.int IntKind.i64 x13, Value.slice a8 m43 m44]] w45 fun
    (e7 : Ending) (w46 : World) => ∃ (x14 : Int), e7 = Ending.returned (Value.int IntKind.i64 x14) ∧ KeepX true w.heap.size [m4, m45, m2, m1] (fun _ => False) w45 w46 ∧ (x14 ≠ 0 →
    ∀ (w47 : World), RowKit.Below w.heap.size w w47 → Kept [m4, m45, m2, m1] w46 w47 → R (Ending.returned (Value.tuple #[Value.slice none 0 0, Value.int IntKind.i64 x14])) w47) ∧
    (x14 = 0 → ∀ (w48 : World), RowKit.Below w.heap.size w w48 → Kept [m4, m45, m2, m1] w46 w48 → RunsTo Try.prog (Instr.lookup 138 (Value.map (some m37)) (Value.int IntKind.i64
    x13) true) w48 fun (v6 : Value) (w49 : World) => ∃ (x15 : Int), ∃ (a9 : Option Addr), ∃ (m47 : Nat), ∃ (m48 : Nat), ∃ (t5 : Bool), v6 = Value.tuple #[Value.agg #[Value.int
    IntKind.i64 x15, Value.slice a9 m47 m48], Value.bool t5] ∧ KeepX true w.heap.size [m4, m45, m2, m1] (fun _ => False) w48 w49 ∧ ∀ (m50 : Nat), w49.heap.size ≤ m50 → (t5 = true →
    ∀ (w50 : World), RowKit.Below w.heap.size w w50 → Kept [m4, m50, m45, m2, m1] w49 w50 → R (Ending.returned (Value.tuple #[Value.slice none 0 0, Value.int IntKind.i64 6])) w50)
    ∧ (t5 = false → ∀ (w51 : World), RowKit.Below w.heap.size w w51 → Kept [m4, m50, m45, m2, m1] w49 w51 → RunsTo Try.prog ((Instr.mapUpdate 138 (Value.map (some m37)) (Value.int
    IntKind.i64 x13) (Value.agg #[Value.int IntKind.i64 x13, Value.slice a8 m43 m44])) >>= fun _ => pure (Value.tuple #[])) w51 fun (v7 : Value) (w52 : World) => KeepX true
    w.heap.size [m4, m50, m45, m2, m1] (fun _ => False) w51 w52 ∧ (-9223372036854775808 ≤ x12 + 1 ∧ x12 + (1 : Int) ≤ 9223372036854775807) ∧ ∀ (w53 : World), RowKit.Below
    w.heap.size w w53 → Kept [m4, m50, m45, m2, m1] w52 w53 → F5 [Lf.sl a7 m39 m40, Lf.int IntKind.i64 x11, Lf.int IntKind.i64 (x12 + 1)] w53 ∧ F6 [Lf.sl a7 m39 m40, Lf.int
    IntKind.i64 x11, Lf.int IntKind.i64 (x12 + 1)] < F6 [Lf.sl a7 m39 m40, Lf.int IntKind.i64 x11, Lf.int IntKind.i64 x12]))) ∧ ((↑clockn : Int) ≤ x12 → ∃ (F7 : List Lf → World →
    Prop), ∃ (F8 : List Lf → Nat), (∀ (w55 : World), RowKit.Below w.heap.size w w55 → Kept [m4, m2, m1] w44 w55 → F7 [Lf.sl a7 m39 m40, Lf.int IntKind.i64 x11, Lf.int IntKind.i64
    0] w55) ∧ ∀ (a10 : Option Addr) (m52 m53 : Nat) (x16 x17 : Int) (w56 : World), RowKit.Below w.heap.size w w56 → F7 [Lf.sl a10 m52 m53, Lf.int IntKind.i64 x16, Lf.int
    IntKind.i64 x17] w56 → (x17 < (↑storen : Int) → ∃ (m54 : Nat), ∃ (m55 : Nat), storea = some { block := m54, off := m55 } ∧ (0 ≤ x17 ∧ x17 < (↑storen : Int)) ∧ ∃ (x18 : Int), ∃
    (a11 : Option Addr), ∃ (m56 : Nat), ∃ (m57 : Nat), w56.cell? { block := m54, off := m55 + x17.toNat * 2 } = some (Value.int IntKind.i64 x18) ∧ w56.cell?
    { block := m54, off := m55 + x17.toNat * 2 + 1 } = some (Value.slice a11 m56 m57) ∧ (m54 < w.heap.size ∨ m54 ≠ m4 ∧ m54 ≠ m2 ∧ m54 ≠ m1) ∧ ∀ (m58 : Nat), w56.heap.size ≤ m58 →
    ∀ (w57 : World), RowKit.Below w.heap.size w w57 → Kept [m4, m58, m2, m1] w56 w57 → Calls Try.prog 58 #[Value.agg #[Value.slice p0w0a p0w0n p0w0c, Value.slice p0w1a p0w1n
    p0w1c], Value.agg #[Value.int IntKind.i64 x18, Value.slice a11 m56 m57]] w57 fun (e8 : Ending) (w58 : World) => ∃ (x19 : Int), e8 = Ending.returned (Value.int IntKind.i64 x19)
    ∧ KeepX true w.heap.size [m4, m58, m2, m1] (fun _ => False) w57 w58 ∧ (x19 ≠ 0 → ∀ (w59 : World), RowKit.Below w.heap.size w w59 → Kept [m4, m58, m2, m1] w58 w59 → R
    (Ending.returned (Value.tuple #[Value.slice none 0 0, Value.int IntKind.i64 x19])) w59) ∧ (x19 = 0 → (x18 = pattern → ∀ (w60 : World), RowKit.Below w.heap.size w w60 → Kept
    [m4, m58, m2, m1] w58 w60 → Calls Try.prog 59 #[Value.agg #[Value.slice p0w0a p0w0n p0w0c, Value.slice p0w1a p0w1n p0w1c], Value.agg #[Value.int IntKind.i64 x18, Value.slice
    a11 m56 m57]] w60 fun (e9 : Ending) (w61 : World) => ∃ (t6 : Bool), e9 = Ending.returned (Value.bool t6) ∧ KeepX true w.heap.size [m4, m58, m2, m1] (fun _ => False) w60 w61 ∧
    (t6 = true → ∀ (w62 : World), RowKit.Below w.heap.size w w62 → Kept [m4, m58, m2, m1] w61 w62 → Calls Try.prog 68 #[Value.agg #[Value.slice p0w0a p0w0n p0w0c, Value.slice p0w1a
    p0w1n p0w1c], Value.agg #[Value.int IntKind.i64 x18, Value.slice a11 m56 m57], Value.map (some m37)] w62 fun (e10 : Ending) (w63 : World) => ∃ (t7 : Bool), e10 =
    Ending.returned (Value.bool t7) ∧ KeepX true w.heap.size [m4, m58, m2, m1] (fun _ => False) w62 w63 ∧ (t7 = true → ∀ (m62 : Nat), w63.heap.size ≤ m62 → ∀ (w64 : World),
    RowKit.Below w.heap.size w w64 → Kept [m62, m4, m58, m2, m1] w63 w64 → w64.heap[m62]? = some (Obj.cells #[Value.int IntKind.i64 x17] 3) → RunsTo Try.prog (Builtin.append_ #[38,
    38] 38 #[Value.slice a10 m52 m53, Value.slice (some { block := m62, off := 0 }) 1 1]) w64 fun (v8 : Value) (w65 : World) => ∃ (a12 : Option Addr), ∃ (m64 : Nat), ∃ (m65 : Nat),
    v8 = Value.slice a12 m64 m65 ∧ KeepX true w.heap.size [m62, m4, m58, m2, m1] (fun _ => False) w64 w65 ∧ (-9223372036854775808 ≤ x17 + 1 ∧ x17 + (1 : Int) ≤ 9223372036854775807)
    ∧ ∀ (w66 : World), RowKit.Below w.heap.size w w66 → Kept [m62, m4, m58, m2, m1] w65 w66 → F7 [Lf.sl a12 m64 m65, Lf.int IntKind.i64 x16, Lf.int IntKind.i64 (x17 + 1)] w66 ∧ F8
    [Lf.sl a12 m64 m65, Lf.int IntKind.i64 x16, Lf.int IntKind.i64 (x17 + 1)] < F8 [Lf.sl a10 m52 m53, Lf.int IntKind.i64 x16, Lf.int IntKind.i64 x17]) ∧ (t7 = false →
    (-9223372036854775808 ≤ x17 + 1 ∧ x17 + (1 : Int) ≤ 9223372036854775807) ∧ ∀ (w67 : World), RowKit.Below w.heap.size w w67 → Kept [m4, m58, m2, m1] w63 w67 → F7 [Lf.sl a10 m52
    m53, Lf.int IntKind.i64 x16, Lf.int IntKind.i64 (x17 + 1)] w67 ∧ F8 [Lf.sl a10 m52 m53, Lf.int IntKind.i64 x16, Lf.int IntKind.i64 (x17 + 1)] < F8 [Lf.sl a10 m52 m53, Lf.int
    IntKind.i64 x16, Lf.int IntKind.i64 x17])) ∧ (t6 = false → (-9223372036854775808 ≤ x17 + 1 ∧ x17 + (1 : Int) ≤ 9223372036854775807) ∧ ∀ (w68 : World), RowKit.Below w.heap.size
    w w68 → Kept [m4, m58, m2, m1] w61 w68 → F7 [Lf.sl a10 m52 m53, Lf.int IntKind.i64 x16, Lf.int IntKind.i64 (x17 + 1)] w68 ∧ F8 [Lf.sl a10 m52 m53, Lf.int IntKind.i64 x16,
    Lf.int IntKind.i64 (x17 + 1)] < F8 [Lf.sl a10 m52 m53, Lf.int IntKind.i64 x16, Lf.int IntKind.i64 x17])) ∧ (x18 ≠ pattern → (-9223372036854775808 ≤ x17 + 1 ∧ x17 + (1 : Int) ≤
    9223372036854775807) ∧ ∀ (w69 : World), RowKit.Below w.heap.size w w69 → Kept [m4, m58, m2, m1] w58 w69 → F7 [Lf.sl a10 m52 m53, Lf.int IntKind.i64 x16, Lf.int IntKind.i64 (x17
    + 1)] w69 ∧ F8 [Lf.sl a10 m52 m53, Lf.int IntKind.i64 x16, Lf.int IntKind.i64 (x17 + 1)] < F8 [Lf.sl a10 m52 m53, Lf.int IntKind.i64 x16, Lf.int IntKind.i64 x17]))) ∧ ((↑storen
    : Int) ≤ x17 → ∀ (w70 : World), RowKit.Below w.heap.size w w70 → Kept [m4, m2, m1] w56 w70 → R (Ending.returned (Value.tuple #[Value.slice a10 m52 m53, Value.int IntKind.i64
    0])) w70))))))) : Calls Try.prog 36 #[Value.agg #[Value.slice p0w0a p0w0n p0w0c, Value.slice p0w1a p0w1n p0w1c], Value.slice clocka clockn clockc, Value.int IntKind.i64
    pattern, Value.slice storea storen storec] w R := calls_of_vc (pure := true) (wrapAt := []) (muts := []) (esc := []) (args := [SV.pv (PV.agg [Lf.sl p0w0a p0w0n p0w0c, Lf.sl
    p0w1a p0w1n p0w1c]), SV.pv (PV.one (Lf.sl clocka clockn clockc)), SV.pv (PV.one (Lf.int IntKind.i64 pattern)), SV.pv (PV.one (Lf.sl storea storen storec))]) (vs := [Value.agg
    #[Value.slice p0w0a p0w0n p0w0c, Value.slice p0w1a p0w1n p0w1c], Value.slice clocka clockn clockc, Value.int IntKind.i64 pattern, Value.slice storea storen storec]) Try.func36
    rfl rfl rfl (Eq.mp (by kernel_rfl) h) 
end Go.Proofs
end
section
/- The mates of a pattern: the iterator, and its functions. -/
namespace Go.Proofs.R12
open Go.Vc Go.RowKit Go.Proofs

theorem below_kept0 {w w' : World} (h : Kept [] w w') : Below w.heap.size w w' := ⟨h.os, h.tape, h.output, h.size, fun k hk => h.block k hk (by simp)⟩
theorem calm_of_below {B : Nat} {w w' : World} (h : Below w.heap.size w w') : CalmFrom B w w' := ⟨h.os, h.tape, h.output, h.size, fun k o hk _ => (h.block k (lt_of_some hk)).trans hk⟩
theorem yield_mono {P : Program} {l : Nat} {args : Array Value} {w : World} {R S : Ending → World → Prop} (h : YieldAt Fence.wide 0 P l args w R) (hs : ∀ e w', R e w' → S e w') : YieldAt Fence.wide 0 P l args w S := by
  obtain ⟨fn, tmps, assign, body, hy, hR⟩ := h
  exact ⟨fn, tmps, assign, body, hy, hR.mono hs⟩

/-- The other pattern, the fit, and whether x is the hole. -/
def mate1 (p : Int) (f : Fit) : Option (Int × Fit × Bool) := if p = f.hole then some (f.shaft, f, true) else if p = f.shaft then some (f.hole, f, false) else none
def mateL (l : List Fit) (p : Int) : List (Int × Fit × Bool) := l.filterMap (mate1 p)
theorem mateL_step {l : List Fit} {p : Int} {x : Nat} (h : x < l.length) : mateL (l.take (x + 1)) p = mateL (l.take x) p ++ (mate1 p (l.getD x fit0)).toList := by
  unfold mateL
  rw [List.take_succ_eq_append_getElem h, List.filterMap_append]
  have : l.getD x fit0 = l[x] := by simp [List.getD_eq_getElem?_getD, h]
  rw [this]
  cases hm : mate1 p l[x] <;> simp [hm]
theorem mateL_get {l : List Fit} {p : Int} {x : Nat} (h : x < l.length) {m : Int × Fit × Bool} (hm : mate1 p (l.getD x fit0) = some m) : (mateL l p)[(mateL (l.take x) p).length]? = some m := by
  have e : mateL l p = mateL (l.take (x + 1)) p ++ mateL (l.drop (x + 1)) p := by
    unfold mateL
    rw [← List.filterMap_append, List.take_append_drop]
  rw [e, mateL_step h, hm]
  simp
def mateV (m : Int × Fit × Bool) (b : Nat) : List Value := [I m.1, .func (.func (if m.2.2 then 96 else 97)) #[] #[.pointer (some ⟨b, 0, none⟩)]]
def MateY (cb : Nat) (l : List Fit) (p : Int) (k : Nat) (x : List Value) (w : World) : Prop := ∃ m b, (mateL l p)[k]? = some m ∧ x = mateV m b ∧ cb < b ∧ w.heap[b]? = some (.cells m.2.1.cells.toArray 67 (0, 0))
structure MateInv (cb pb : Nat) (l : List Fit) (fa : Option Addr) (fc : Nat) (p : Int) (w : World) : Prop where
  c : w.cell? ⟨cb, 1, none⟩ = some (.slice fa l.length fc)
  f : Cells w fa (fitsV l)
  p : w.cell? ⟨pb, 0, none⟩ = some (I p)

set_option maxRecDepth 100000 in
theorem mates_iter {cb pb : Nat} {l : List Fit} {fa : Option Addr} {fc : Nat} {p : Int} (hl : l.length ≤ 1000) : IterY Try.prog 95 [] [.pointer (some ⟨cb, 0, none⟩), .pointer (some ⟨pb, 0, none⟩)] (mateL l p).length (MateY cb l p) (MateInv cb pb l fa fc p) := by
  intro y J Jx W hJ hJx hInv hY h0
  have mvJ : ∀ {G k w w'}, J G k w → Kept [] w w' → J G k w' := fun h hk => hJ _ _ _ _ _ h (calm_of_below (below_kept0 hk)) (fun _ h => h) fun _ h => .inl h
  have mvX : ∀ {G k w w'}, Jx G k w → Kept [] w w' → Jx G k w' := fun h hk => hJx _ _ _ _ _ h (calm_of_below (below_kept0 hk)) (fun _ h => h) fun _ h => .inl h
  have kx : ∀ {G : Nat → Prop} {w w' : World}, RoundKeeps G w w' → KeepX false W.heap.size [] (fun _ => False) w w' := fun h => .own h.os h.tape h.output h.size (by simp) (by simp) (by simp)
  refine vc95 _ _ _ W _ ⟨_, _, _, cell_at' (hInv _ _ _ h0).c (by omega),
    fun ls w' => match ls with | [.int _ x] => (0 ≤ x ∧ x ≤ l.length) ∧ W.heap.size ≤ w'.heap.size ∧ ∃ G : Nat → Prop, (∀ b, G b → W.heap.size ≤ b ∧ b < w'.heap.size) ∧ J G (mateL (l.take x.toNat) p).length w' | _ => False, fun ls => match ls with | [.int _ x] => (l.length - x).toNat | _ => 0,
    fun w2 hk => ⟨⟨by omega, by omega⟩, hk.size, fun _ => False, fun b h => h.elim, mvJ h0 hk⟩, ?_⟩
  rintro x1 w3 ⟨⟨x0, xl⟩, z3, G, hG, hj⟩
  refine ⟨fun hlt => ?_, fun hge w17 hk17 => ⟨⟨_, rfl⟩, G, .inl ?_⟩⟩
  rotate_left
  · have := mvJ hj hk17
    rwa [show x1.toNat = l.length by omega, List.take_length] at this
  have hx : x1.toNat < l.length := by omega
  refine load_fit (hInv _ _ _ hj).f (.refl _ _) ⟨x0, hlt⟩ fun m3 m4 _ => ?_
  generalize hf : l.getD x1.toNat ⟨0, 0, 0, 0, (0, 0)⟩ = f
  have hst : (mateL (l.take (x1 + 1).toNat) p) = mateL (l.take x1.toNat) p ++ (mate1 p f).toList := by
    rw [show (x1 + 1).toNat = x1.toNat + 1 by omega, mateL_step hx, ← hf]
  intro w4 hk4 m5 w5 h5 hw5 w6 hk6
  have z4 := hk4.size
  have z5 : w5.heap.size = w4.heap.size + 1 := by rw [hw5]; show (w4.heap.push _).size = _; exact Array.size_push _
  have z6 := hk6.size
  have d5 : Below w4.heap.size w4 w5 := by rw [hw5]; exact (Below.refl _ _).alloc (Nat.le_refl _) _
  have c6 : w6.heap[m5]? = some (.cells [I 0, I 0, I 0, I 0, I 0, I 0].toArray 67 (0, 0)) := by
    rw [hk6.block m5 (by omega) (by simp), hw5, h5]
    show (w4.heap.push _)[w4.heap.size]? = _
    simp
  refine obj_store (P := Try.prog) (t := 67) (vs := [I f.hole, I f.hs, I f.shaft, I f.ss, I f.gap.1, I f.gap.2]) c6 (by kernel_rfl) (by kernel_rfl) (by simp) rfl (fun u hu => by simp at hu; rcases hu with rfl | rfl | rfl | rfl | rfl | rfl <;> trivial) fun w7 c7 g7 => ?_
  have z7 := g7.size
  have d7 : Below w3.heap.size w3 w7 := ((below_kept0 hk4).trans (d5.mono z4)).trans (((below_kept0 hk6).mono (by omega)).trans (below_of_chg g7 (by omega) (by simp; omega)))
  have hj7 : J (fun b => G b ∨ b = m5) (mateL (l.take x1.toNat) p).length w7 := hJ _ _ _ _ _ hj (calm_of_below d7) (fun _ h => .inl h) fun b hb => by
    rcases hb with hb | rfl
    · exact .inl hb
    · exact .inr ⟨by omega, by omega⟩
  have hG7 : ∀ b, (G b ∨ b = m5) → W.heap.size ≤ b ∧ b < w7.heap.size := fun b hb => by
    rcases hb with hb | rfl
    · have := hG b hb; omega
    · omega
  have I7 := hInv _ _ _ hj7
  have c7' : ∀ {w8 : World}, Kept [] w7 w8 → w8.heap[m5]? = some (.cells f.cells.toArray 67 (0, 0)) := fun hk => by
    rw [hk.block m5 (by omega) (by simp)]; exact c7
  have c7a : ∀ {i : Nat} {v : Value}, f.cells[i]? = some v → w7.cell? ⟨m5, i, none⟩ = some v := fun h => cell_obj (vs := f.cells) c7 h
  have yld : ∀ {m : Int × Fit × Bool} {w8 : World}, mate1 p f = some m → m.2.1 = f → Kept [] w7 w8 → YieldAt Fence.wide 0 Try.prog y (mateV m m5).toArray w8 fun e w9 => ∃ t : Bool, e = .returned (.bool t) ∧ KeepX false W.heap.size [] (fun _ => False) w8 w9 ∧ w8.heap.size ≤ w9.heap.size ∧ (t = true → J (fun b => G b ∨ b = m5) ((mateL (l.take x1.toNat) p).length + 1) w9) ∧ (t = false → Jx (fun b => G b ∨ b = m5) ((mateL (l.take x1.toNat) p).length + 1) w9) := fun {m w8} hm hmf hk8 => by
    have hget := mateL_get hx (p := p) (m := m) (by rw [show l.getD x1.toNat fit0 = f from hf]; exact hm)
    refine yield_mono (hY _ _ (mateV m m5) _ (mvJ hj7 hk8) (fun b hb => by have := hG7 b hb; have := hk8.size; omega) (List.getElem?_eq_some_iff.1 hget).1 ⟨m, m5, hget, rfl, by have := cell_lt (hInv _ _ _ h0).c; omega, by rw [hmf]; exact c7' hk8⟩) fun e w9 he => ?_
    obtain ⟨t, rfl, hrk, hT, hF⟩ := he
    exact ⟨t, rfl, kx hrk, hrk.size, hT, hF⟩
  refine ⟨g7.own (by simp) (by simp) (fun h => by cases h), p, I7.p, f.hole, c7a (i := 0) rfl, fun he => ?_, fun hne => ?_⟩
  · have hm : mate1 p f = some (f.shaft, f, true) := by unfold mate1; rw [if_pos he]
    refine ⟨f.shaft, c7a (i := 2) rfl, fun w8 hk8 => ⟨y, rfl, yield_mono (yld hm rfl hk8) fun e w9 h9 => ?_⟩⟩
    obtain ⟨t, rfl, k9, s9, hT, hF⟩ := h9
    refine ⟨t, rfl, k9, fun h w10 hk10 => ⟨⟨_, rfl⟩, _, .inr ⟨_, mvX (hF (by simpa using h)) hk10⟩⟩, fun h => ⟨⟨by omega, by omega⟩, fun w11 hk11 => ⟨⟨⟨by omega, by omega⟩, by have := hk8.size; have := hk11.size; omega, _, fun b hb => by have := hG7 b hb; have := hk8.size; have := hk11.size; omega, ?_⟩, by simp only; omega⟩⟩⟩
    rw [hst, hm]
    simpa using mvJ (hT (by simpa using h)) hk11
  · refine ⟨f.shaft, c7a (i := 2) rfl, fun he => ?_, fun hne2 => ⟨⟨by omega, by omega⟩, fun w16 hk16 => ⟨⟨⟨by omega, by omega⟩, by have := hk16.size; omega, _, fun b hb => by have := hG7 b hb; have := hk16.size; omega, ?_⟩, by simp only; omega⟩⟩⟩
    · have hm : mate1 p f = some (f.hole, f, false) := by unfold mate1; rw [if_neg hne, if_pos he]
      refine ⟨f.hole, c7a (i := 0) rfl, fun w12 hk12 => ⟨y, rfl, yield_mono (yld hm rfl hk12) fun e w13 h13 => ?_⟩⟩
      obtain ⟨t, rfl, k13, s13, hT, hF⟩ := h13
      refine ⟨t, rfl, k13, fun h w14 hk14 => ⟨⟨_, rfl⟩, _, .inr ⟨_, mvX (hF (by simpa using h)) hk14⟩⟩, fun h => ⟨⟨by omega, by omega⟩, fun w15 hk15 => ⟨⟨⟨by omega, by omega⟩, by have := hk12.size; have := hk15.size; omega, _, fun b hb => by have := hG7 b hb; have := hk12.size; have := hk15.size; omega, ?_⟩, by simp only; omega⟩⟩⟩
      rw [hst, hm]
      simpa using mvJ (hT (by simpa using h)) hk15
    · have hm : mate1 p f = none := by unfold mate1; rw [if_neg hne, if_neg hne2]
      rw [hst, hm]
      simpa using mvJ hj7 hk16
end Go.Proofs.R12
end
section
/- Whether a piece goes into a clock. -/
namespace Go.Proofs.R12
open Go.Vc Go.RowKit Go.Proofs

def fitsQ (b : Bool) (f : Fit) (x q : List Int) : Prop := if b then isF f (x.getD f.hs.toNat 0) (q.getD f.ss.toNat 0) else isF f (q.getD f.hs.toNat 0) (x.getD f.ss.toNat 0)
instance (b : Bool) (f : Fit) (x q : List Int) : Decidable (fitsQ b f x q) := by unfold fitsQ; exact inferInstance
theorem sz_get {l : List Int} (h : ∀ x ∈ l, 0 ≤ x ∧ x ≤ 1000000) (i : Nat) : 0 ≤ l.getD i 0 ∧ l.getD i 0 ≤ 1000000 := by
  rw [List.getD_eq_getElem?_getD]
  cases e : l[i]? with
  | none => simp
  | some v => exact h v (List.mem_of_getElem? e)
/-- What a piece must have for a fit. -/
def inFit (b : Bool) (f : Fit) (x q : List Int) : Prop := if b then (0 ≤ f.hs ∧ f.hs < x.length) ∧ 0 ≤ f.ss ∧ f.ss < q.length else (0 ≤ f.hs ∧ f.hs < q.length) ∧ 0 ≤ f.ss ∧ f.ss < x.length

theorem load_o {w : World} {a : Option Addr} {l : List Int} {i : Int} {n : Nat} {X : Nat → Nat → Int → Prop} (h : Cells w a (ints l)) (hn : l.length = n) (hi0 : 0 ≤ i ∧ i < (n : Int)) (k : ∀ m o, m < w.heap.size → X m o (l.getD i.toNat 0)) :
    ∃ m o, a = some ⟨m, o, none⟩ ∧ (0 ≤ i ∧ i < (n : Int)) ∧ ∃ x0 : Int, w.cell? ⟨m, o + i.toNat * 1, none⟩ = some (I x0) ∧ X m o x0 := by
  subst hn
  exact load_int h (.refl _ _) hi0 k
set_option maxRecDepth 100000 in
theorem fits_any {w : World} {b : Bool} {f : Fit} {x q : List Int} {x0 q0 : Int} {xa qa : Option Addr} {xc qc cb : Nat} (hc : w.heap[cb]? = some (.cells f.cells.toArray 67 (0, 0))) (hx : Cells w xa (ints x)) (hq : Cells w qa (ints q)) (sx : ∀ s ∈ x, 0 ≤ s ∧ s ≤ 1000000) (sq : ∀ s ∈ q, 0 ≤ s ∧ s ≤ 1000000) (hi : inFit b f x q) :
    Calls Try.prog (if b then 96 else 97) #[.agg #[I x0, .slice xa x.length xc], .agg #[I q0, .slice qa q.length qc], .pointer (some ⟨cb, 0, none⟩)] w (Pure w (.bool (decide (fitsQ b f x q)))) := by
  have ca : ∀ {i : Nat} {v : Value}, f.cells[i]? = some v → w.cell? ⟨cb, i, none⟩ = some v := fun h => cell_obj (vs := f.cells) hc h
  have hlt := lt_of_some hc
  have bx := sz_get sx
  have bq := sz_get sq
  cases b with
  | true =>
    simp only [inFit, if_true] at hi
    refine vc96 _ _ _ _ _ _ _ _ _ w _ fun m1 g1 m2 g2 => ⟨_, _, _, _, _, _, cell_at' (ca (i := 0) rfl) (by omega), cell_at' (ca (i := 1) rfl) (by omega), cell_at' (ca (i := 2) rfl) (by omega), cell_at' (ca (i := 3) rfl) (by omega), cell_at' (ca (i := 4) rfl) (by omega), cell_at' (ca (i := 5) rfl) (by omega), .inl hlt, _, cell_at' (ca (i := 1) rfl) (by omega), .inl hlt, ?_⟩
    refine load_o hx rfl hi.1 fun m3 o3 h3 => ⟨.inl h3, _, cell_at' (ca (i := 3) rfl) (by omega), .inl hlt, ?_⟩
    refine load_o hq rfl hi.2 fun m5 o5 h5 => ⟨.inl h5, fun w1 hb1 hk1 => ?_⟩
    have := bx f.hs.toNat
    have := bq f.ss.toNat
    exact Pure.calls (is_any f _ _ (by omega) (by omega)) fun w2 hd => ⟨_, rfl, .all hd, fun w3 hb3 hk3 => ⟨by simp [fitsQ], hb3⟩⟩
  | false =>
    simp only [inFit, Bool.false_eq_true, if_false] at hi
    refine vc97 _ _ _ _ _ _ _ _ _ w _ fun m1 g1 m2 g2 => ⟨_, _, _, _, _, _, cell_at' (ca (i := 0) rfl) (by omega), cell_at' (ca (i := 1) rfl) (by omega), cell_at' (ca (i := 2) rfl) (by omega), cell_at' (ca (i := 3) rfl) (by omega), cell_at' (ca (i := 4) rfl) (by omega), cell_at' (ca (i := 5) rfl) (by omega), .inl hlt, _, cell_at' (ca (i := 1) rfl) (by omega), .inl hlt, ?_⟩
    refine load_o hq rfl hi.1 fun m3 o3 h3 => ⟨.inl h3, _, cell_at' (ca (i := 3) rfl) (by omega), .inl hlt, ?_⟩
    refine load_o hx rfl hi.2 fun m5 o5 h5 => ⟨.inl h5, fun w1 hb1 hk1 => ?_⟩
    have := bq f.hs.toNat
    have := bx f.ss.toNat
    exact Pure.calls (is_any f _ _ (by omega) (by omega)) fun w2 hd => ⟨_, rfl, .all hd, fun w3 hb3 hk3 => ⟨by simp [fitsQ], hb3⟩⟩

theorem mates_l {w : World} {W : Wk} {pa fa : Option Addr} {pc fc : Nat} {p : Int} : Calls Try.prog 86 #[W.v pa pc fa fc, I p] w fun e w' => Below w.heap.size w w' ∧ ∃ cb pb, e = .returned (.func (.func 95) #[] #[.pointer (some ⟨cb, 0, none⟩), .pointer (some ⟨pb, 0, none⟩)]) ∧ (w.heap.size ≤ cb ∧ w.heap.size ≤ pb) ∧ w'.heap[cb]? = some (.cells #[.slice pa W.pats.length pc, .slice fa W.fits.length fc] 108 (0, 0)) ∧ w'.heap[pb]? = some (.cells #[I p] 3 (0, 0)) :=
  vc86 _ _ _ _ _ _ _ w _ fun m1 g1 m2 g2 w1 hb1 hk1 h1 h2 => ⟨hb1, m1, m2, rfl, ⟨g1, g2⟩, h1, h2⟩

/-- A piece of a clock, as it lies there. -/
structure CP where
  p : Piece
  a : Option Addr
  c : Nat
def CP.v (q : CP) : Value := .agg #[I q.p.pat, .slice q.a q.p.sizes.length q.c]
def clockV (C : List CP) : List (Int × Value) := C.map fun q => (q.p.pat, q.v)
def lookC (C : List CP) (o : Int) : Option CP := C.find? fun q => o == q.p.pat
theorem clock_look (C : List CP) (o : Int) : (clockV C).lookup o = (lookC C o).map CP.v := by
  induction C with
  | nil => rfl
  | cons q r ih =>
    simp only [clockV, lookC, List.map_cons, List.lookup, List.find?] at ih ⊢
    cases o == q.p.pat
    · exact ih
    · rfl
def goesC (W : Wk) (x : Piece) (C : List CP) : Bool := (mateL W.fits x.pat).all fun m => match lookC C m.1 with | none => true | some q => decide (fitsQ m.2.2 m.2.1 x.sizes q.p.sizes)
theorem mate_mem {l : List Fit} {p : Int} {k : Nat} {m : Int × Fit × Bool} (h : (mateL l p)[k]? = some m) : m.2.1 ∈ l ∧ ((m.2.2 = true ∧ p = m.2.1.hole ∧ m.1 = m.2.1.shaft) ∨ (m.2.2 = false ∧ p = m.2.1.shaft ∧ m.1 = m.2.1.hole)) := by
  obtain ⟨f, hf, he⟩ := List.mem_filterMap.1 (List.mem_of_getElem? h)
  unfold mate1 at he
  split at he
  · obtain rfl := Option.some.inj he; exact ⟨hf, .inl ⟨rfl, by assumption, rfl⟩⟩
  · split at he
    · obtain rfl := Option.some.inj he; exact ⟨hf, .inr ⟨rfl, by assumption, rfl⟩⟩
    · cases he

set_option maxRecDepth 100000 in
theorem goes_any {w : World} {W : Wk} {x : Piece} {C : List CP} {pa fa xa : Option Addr} {pc fc xc tm : Nat} (hf : Cells w fa (fitsV W.fits)) (hW : OkW W) (hx : Cells w xa (ints x.sizes)) (ex : pieceErr W x = 0) (hm : MapC w tm I (clockV C)) (hC : ∀ q ∈ C, pieceErr W q.p = 0 ∧ Cells w q.a (ints q.p.sizes)) :
    Calls Try.prog 68 #[W.v pa pc fa fc, .agg #[I x.pat, .slice xa x.sizes.length xc], .map (some tm)] w (Pure w (.bool (goesC W x C))) := by
  obtain ⟨bxp, lx, sx⟩ := pieceErr_ok ex
  refine vc68 _ _ _ _ _ _ _ _ _ _ _ w _ fun m1 g1 m2 g2 m3 g3 m4 g4 w1 hb1 hk1 => mates_l.mono fun e1 w2 he => ?_
  obtain ⟨hb2, cb, pb, rfl, ⟨hcb, hpb⟩, hc2, hp2⟩ := he
  have hns : ∀ b, w1.heap.size ≤ b → b ∉ [m4, m3, m2, m1] := fun b hb hm => by
    have := hk1.own b hm
    omega
  have inv : ∀ {w' : World}, Below w.heap.size w w' → w'.heap[cb]? = some (.cells #[.slice pa W.pats.length pc, .slice fa W.fits.length fc] 108 (0, 0)) → w'.heap[pb]? = some (.cells #[I x.pat] 3 (0, 0)) → MateInv cb pb W.fits fa fc x.pat w' := fun hb h1 h2 =>
    ⟨cell_obj (vs := [.slice pa W.pats.length pc, .slice fa W.fits.length fc]) h1 rfl, hf.keep hb, cell_obj (vs := [I x.pat]) h2 rfl⟩
  let okM : Int × Fit × Bool → Bool := fun m => match lookC C m.1 with | none => true | some q => decide (fitsQ m.2.2 m.2.1 x.sizes q.p.sizes)
  refine ⟨_, rfl, .all hb2, _, rfl, (mateL W.fits x.pat).length, MateY cb W.fits x.pat, fun _ _ k w' => (∀ j m, j < k → (mateL W.fits x.pat)[j]? = some m → okM m = true) ∧ w'.heap[cb]? = some (.cells #[.slice pa W.pats.length pc, .slice fa W.fits.length fc] 108 (0, 0)) ∧ w'.heap[pb]? = some (.cells #[I x.pat] 3 (0, 0)), MateInv cb pb W.fits fa fc x.pat, mates_iter (Nat.le_trans hW.2.2.1 (by omega)), fun w6 hb6 hk6 hc6 => ?_, ?_⟩
  · exact ⟨fun j m h => by omega, (hk6.block cb (lt_of_some hc2) (hns cb hcb)).trans hc2, (hk6.block pb (lt_of_some hp2) (hns pb hpb)).trans hp2⟩
  rintro t1 k F5 F6 w7 w8 ⟨hok, hc7, hp7⟩ hcalm _ _ _ hb8
  have hc8 := hcalm.keep _ _ hc7 (.inl rfl)
  have hp8 := hcalm.keep _ _ hp7 (.inl rfl)
  refine ⟨inv hb8 hc8 hp8, fun y5 hk hY => ?_, fun hk w23 hb23 hk23 w24 hcalm24 => ?_⟩
  rotate_left
  · have hall : goesC W x C = true := by
      unfold goesC
      rw [List.all_eq_true]
      intro m hm
      obtain ⟨j, hj, he⟩ := List.getElem_of_mem hm
      exact hok j m (by omega) (by rw [List.getElem?_eq_getElem hj, he])
    rw [hall]
    exact ⟨rfl, hb23.trans (hcalm24.below hb23.size)⟩
  obtain ⟨m, b, hget, rfl, hlt, hcell⟩ := hY
  refine ⟨m.1, _, rfl, fun _ w9 w10 hb10 hk10 w11 hcalm11 w12 w13 hb13 hk13 => ?_⟩
  have mv : ∀ {b : Nat} {cs : Array Value} {T : TypeId}, w1.heap.size ≤ b → w8.heap[b]? = some (.cells cs T (0, 0)) → w13.heap[b]? = some (.cells cs T (0, 0)) := fun {b cs T} hb h => by
    have h10 := (hk10.block b (lt_of_some h) (hns b hb)).trans h
    have h11 := hcalm11.keep _ _ h10 (.inl rfl)
    exact (hk13.block b (lt_of_some h11) (hns b hb)).trans h11
  have hc13 := mv hcb hc8
  have hp13 := mv hpb hp8
  have hb13' := mv (by omega) hcell
  obtain ⟨hmf, hmm⟩ := mate_mem hget
  have okf := hW.2.2.2 _ hmf
  refine lookup_ok keyI (P := Try.prog) (mt := 138) (vt := 40) (by kernel_rfl) (hm.below hb13) m.1 (z := .agg #[I 0, .slice none 0 0]) (by kernel_rfl) ?_
  rw [clock_look]
  have stop : ∀ {w' : World}, okM m = false → Below w.heap.size w w' → Pure w (.bool (goesC W x C)) (.returned (.bool false)) w' := fun h hb => by
    have : goesC W x C = false := by
      unfold goesC
      rw [List.all_eq_false]
      exact ⟨m, List.mem_of_getElem? hget, by simpa using h⟩
    rw [this]; exact ⟨rfl, hb⟩
  have next : ∀ {w' : World}, okM m = true → (∀ (b : Nat) (o : Obj), w1.heap.size ≤ b → w13.heap[b]? = some o → w'.heap[b]? = some o) → (∀ j m, j < k + 1 → (mateL W.fits x.pat)[j]? = some m → okM m = true) ∧ w'.heap[cb]? = some (.cells #[.slice pa W.pats.length pc, .slice fa W.fits.length fc] 108 (0, 0)) ∧ w'.heap[pb]? = some (.cells #[I x.pat] 3 (0, 0)) := fun {w'} h mv2 => by
    refine ⟨fun j m' hj hm' => ?_, mv2 _ _ hcb hc13, mv2 _ _ hpb hp13⟩
    by_cases he : j = k
    · subst he; rw [hget] at hm'; obtain rfl := Option.some.inj hm'; exact h
    · exact hok j m' (by omega) hm'
  have out : ∀ {m21 : Nat}, w13.heap.size ≤ m21 → ∀ {b : Nat} {u : World} {o : Obj}, w13.heap[b]? = some o → u.heap.size = u.heap.size → w1.heap.size ≤ b → b ∉ [m21, m4, m3, m2, m1] := fun {m21} h {b u o} ho _ hb hm => by
    rcases List.mem_cons.1 hm with h' | h'
    · have := lt_of_some ho; omega
    · exact hns b hb h'
  cases hl : lookC C m.1 with
  | none =>
    refine ⟨0, none, 0, 0, false, rfl, .all (.refl _ _), fun m21 g21 => ⟨fun h => (by cases h), fun _ w22 hb22 hk22 => ?_⟩⟩
    exact next (by simp only [okM, hl]) fun b o hb ho => (hk22.block b (lt_of_some ho) (out g21 (u := w13) ho rfl hb)).trans ho
  | some q =>
    have hq := hC q (List.mem_of_find?_eq_some hl)
    obtain ⟨bqp, lq, sq⟩ := pieceErr_ok hq.1
    have hqp : m.1 = q.p.pat := by have := List.find?_some hl; simpa using this
    refine ⟨q.p.pat, q.a, q.p.sizes.length, q.c, true, rfl, .all (.refl _ _), fun m21 g21 => ⟨fun _ => ⟨if m.2.2 then 96 else 97, [], [.pointer (some ⟨b, 0, none⟩)], rfl, by cases m.2.2 <;> exact callOk_run (by rfl), fun w15 hb15 hk15 => ?_⟩, fun h => (by cases h)⟩⟩
    have hnb : b ∉ [m21, m4, m3, m2, m1] := fun hm => by
      rcases List.mem_cons.1 hm with h | h
      · have := lt_of_some hb13'; omega
      · exact hns b (by omega) h
    have hcell15 := (hk15.block b (lt_of_some hb13') hnb).trans hb13'
    have hin : inFit m.2.2 m.2.1 x.sizes q.p.sizes := by
      obtain ⟨_, ⟨_, o1, o2⟩, ⟨_, o3, o4⟩, _⟩ := okf
      unfold inFit
      rcases hmm with ⟨h1, h2, h3⟩ | ⟨h1, h2, h3⟩
      · rw [h1, if_pos rfl, lx, lq, h2, ← hqp, h3]; exact ⟨⟨o1, o2⟩, o3, o4⟩
      · rw [h1, if_neg (by simp), lx, lq, h2, ← hqp, h3]; exact ⟨⟨o1, o2⟩, o3, o4⟩
    refine Pure.calls (fits_any (b := m.2.2) (f := m.2.1) (x0 := x.pat) (q0 := q.p.pat) (xc := xc) (qc := q.c) hcell15 (hx.keep hb15) (hq.2.keep hb15) sx sq hin) fun w16 hd16 => ⟨_, rfl, .all hd16, fun ht w17 hb17 hk17 F7 w18 hcalm18 _ w19 hb19 hk19 w20 hcalm20 => ?_, fun ht w21 hb21 hk21 => ?_⟩
    · exact stop (by simp only [okM, hl]; simpa using ht) (hb19.trans (hcalm20.below hb19.size))
    · refine next (by simp only [okM, hl]; simpa using ht) fun b o hb ho => ?_
      have h15 := (hk15.block b (lt_of_some ho) (out g21 (u := w13) ho rfl hb)).trans ho
      have h16 := (hd16.block b (lt_of_some h15)).trans h15
      exact (hk21.block b (lt_of_some h16) (out g21 (u := w13) ho rfl hb)).trans h16
end Go.Proofs.R12
end
section
/- Choose. -/
namespace Go.Proofs.R12
open Go.Vc Go.RowKit Go.Proofs

abbrev piece0 : Piece := ⟨0, []⟩
def lookP (C : List Piece) (o : Int) : Option Piece := C.find? fun q => o == q.pat
def goesP (W : Wk) (x : Piece) (C : List Piece) : Bool := (mateL W.fits x.pat).all fun m => match lookP C m.1 with | none => true | some q => decide (fitsQ m.2.2 m.2.1 x.sizes q.sizes)
theorem look_cp (L : List CP) (o : Int) : lookP (L.map CP.p) o = (lookC L o).map CP.p := by
  unfold lookP lookC
  rw [List.find?_map]; rfl
theorem goesC_eq (W : Wk) (x : Piece) (L : List CP) : goesC W x L = goesP W x (L.map CP.p) := by
  unfold goesC goesP
  congr 1
  funext m
  rw [look_cp]
  cases lookC L m.1 <;> rfl
def clockErr (W : Wk) : List Piece → List Int → Int
  | [], _ => 0
  | q :: r, seen => if pieceErr W q ≠ 0 then pieceErr W q else if q.pat ∈ seen then 6 else clockErr W r (seen ++ [q.pat])
def storeErr (W : Wk) : List Piece → Int
  | [] => 0
  | q :: r => if pieceErr W q ≠ 0 then pieceErr W q else storeErr W r
def fitsIn (W : Wk) (p : Int) (C : List Piece) (x : Piece) : Bool := decide (x.pat = p) && (decide (goodM W x) && goesP W x C)
def chosen (W : Wk) (p : Int) (C St : List Piece) (j : Nat) : List Int := (idxs j).filter fun i => fitsIn W p C (St.getD i.toNat piece0)
def chooseM (W : Wk) (p : Int) (C St : List Piece) : List Int × Int :=
  if ¬ OkW W then ([], 2) else if ¬ (0 ≤ p ∧ p < W.pats.length) then ([], 7) else if 20 < C.length ∨ 200 < St.length then ([], 5) else if clockErr W C [] ≠ 0 then ([], clockErr W C []) else if storeErr W St ≠ 0 then ([], storeErr W St) else (chosen W p C St St.length, 0)
theorem chosen_succ (W : Wk) (p : Int) (C St : List Piece) (j : Nat) : chosen W p C St (j + 1) = chosen W p C St j ++ (if fitsIn W p C (St.getD j piece0) then [(j : Int)] else []) := by
  unfold chosen
  rw [idxs_succ, List.filter_append]
  congr 1
  simp [List.filter]
  cases fitsIn W p C (St[j]?.getD piece0) <;> simp
theorem chosen_len (W : Wk) (p : Int) (C St : List Piece) (j : Nat) : (chosen W p C St j).length ≤ j := Nat.le_trans (List.length_filter_le _ _) (by simp [idxs])
theorem drop_get {l : List Piece} {i : Nat} (h : i < l.length) : l.drop i = l.getD i piece0 :: l.drop (i + 1) := by
  rw [List.drop_eq_getElem_cons h]; simp [List.getD_eq_getElem?_getD, h]
theorem take_get {l : List Piece} {i : Nat} (h : i < l.length) : l.take (i + 1) = l.take i ++ [l.getD i piece0] := by
  rw [List.take_succ_eq_append_getElem h]; simp [List.getD_eq_getElem?_getD, h]
theorem clockV_keys (L : List CP) (k : Int) : (clockV L).lookup k = none ↔ k ∉ (L.map CP.p).map (·.pat) := by
  induction L with
  | nil => simp [clockV]
  | cons q r ih =>
    simp only [clockV, List.map_cons, List.lookup, List.mem_cons, not_or] at ih ⊢
    by_cases h : k = q.p.pat
    · subst h; simp
    · have : (k == q.p.pat) = false := by simpa using h
      rw [this]; simp only [h, not_false_iff, true_and]; exact ih
theorem clockV_add (L : List CP) (q : CP) : clockV L ++ [(q.p.pat, q.v)] = clockV (L ++ [q]) := by simp [clockV]

def PureL (w : World) (res : List Int × Int) (e : Ending) (w' : World) : Prop := ∃ a c, e = .returned (.tuple #[.slice a res.1.length c, I res.2]) ∧ Below w.heap.size w w' ∧ Lies [] w.heap.size w'.heap.size w' a (ints res.1)
theorem pureL_err {w w' : World} {res : List Int × Int} {x : Int} (h : res = ([], x)) (hb : Below w.heap.size w w') : PureL w res (.returned (.tuple #[.slice none 0 0, I x])) w' := by
  subst h
  exact ⟨none, 0, rfl, hb, fun i v hi => by simp [ints] at hi⟩

set_option maxRecDepth 100000 in
set_option maxHeartbeats 1000000 in
theorem Choose_l {w : World} {W : Wk} {pa fa ca sa : Option Addr} {pc fc cc sc : Nat} {p : Int} {C St : List Piece} (hp : CellsS w pa W.pats) (hf : Cells w fa (fitsV W.fits)) (hS : Small W) (hC : CellsP w ca C) (hT : CellsP w sa St) (lC : C.length ≤ 1000) (lT : St.length ≤ 1000) (xC : ∀ x ∈ C, x.sizes.length ≤ 17592186044000) (xT : ∀ x ∈ St, x.sizes.length ≤ 17592186044000) :
    Calls Try.prog 36 #[W.v pa pc fa fc, .slice ca C.length cc, I p, .slice sa St.length sc] w (PureL w (chooseM W p C St)) := by
  have hn := hS.n
  refine vc36 _ _ _ _ _ _ _ _ _ _ _ _ _ w _ fun m1 g1 m2 g2 w1 hb1 hk1 => ?_
  refine Pure.calls (check_any (hp.keep hb1) (hf.keep hb1) hS) fun w2 hd2 => ⟨_, rfl, .all hd2, fun h1 w3 hb3 _ => ?_, fun h1 => ?_⟩
  · exact pureL_err (by unfold chooseM; rw [if_pos (checkE_ne.1 h1)]) hb3
  have hok : OkW W := checkE_ok.1 h1
  have hb2 := hb1.trans (hd2.mono hb1.size)
  refine ⟨by omega, fun m4 g4 w4 hb4 hk4 hc4 => ?_⟩
  refine Pure.calls (in1_any hc4) fun w5 hd5 => ⟨_, rfl, .all hd5, fun h2 w6 hb6 _ => ?_, fun h2 => ?_⟩
  · refine pureL_err ?_ hb6
    simp only [Bool.not_eq_true', decide_eq_false_iff_not] at h2
    unfold chooseM; rw [if_neg (by simpa using hok), if_pos (by omega)]
  have hpn : 0 ≤ p ∧ p < W.pats.length := by
    simp only [Bool.not_eq_false', decide_eq_true_eq] at h2
    omega
  have e5 : (20 < C.length ∨ 200 < St.length) → chooseM W p C St = ([], 5) := fun h => by unfold chooseM; rw [if_neg (by simpa using hok), if_neg (by simpa using hpn), if_pos h]
  refine ⟨fun h20 => ⟨fun _ w7 hb7 _ => pureL_err (e5 (.inl (by omega))) hb7, fun h => by exfalso; omega⟩, fun h20 => ⟨fun h200 w9 hb9 _ => pureL_err (e5 (.inr (by omega))) hb9, fun h200 => ?_⟩⟩
  have hM : chooseM W p C St = if clockErr W C [] ≠ 0 then ([], clockErr W C []) else if storeErr W St ≠ 0 then ([], storeErr W St) else (chosen W p C St St.length, 0) := by
    unfold chooseM; rw [if_neg (by simpa using hok), if_neg (by simpa using hpn), if_neg (by omega)]
  intro w10 hb10 hk10
  have o1 := hk10.own m1 (by simp)
  have o2 := hk10.own m2 (by simp)
  have o4 := hk10.own m4 (by simp)
  have z10 := hb10.size
  refine mkMap (K := Int) (enc := I) fun w11 hd11 M11 => ⟨_, rfl, .all hd11, ?_⟩
  have l11 := M11.lt
  generalize w10.heap.size = tm at *
  have nt : tm ∉ [m4, m2, m1] := by simp only [List.mem_cons, List.not_mem_nil, or_false]; omega
  have gd : ∀ {l : List Piece} {i : Nat}, (∀ x ∈ l, x.sizes.length ≤ 17592186044000) → i < l.length → (l.getD i piece0).sizes.length ≤ 17592186044000 := fun {l i} h hi => h _ (by simp [List.getD_eq_getElem?_getD, hi])
  refine ⟨fun ls w' => match ls with | [.sl a n c, .int _ _, .int _ ii] => (0 ≤ ii ∧ ii ≤ C.length) ∧ (∃ L : List CP, L.map CP.p = C.take ii.toNat ∧ (∀ q ∈ L, pieceErr W q.p = 0 ∧ Cells w q.a (ints q.p.sizes)) ∧ MapC w' tm I (clockV L)) ∧ clockErr W C [] = clockErr W (C.drop ii.toNat) ((C.take ii.toNat).map (·.pat)) ∧ (a = none ∧ n = 0 ∧ c = 0) | _ => False,
    fun ls => match ls with | [_, _, .int _ ii] => (C.length - ii).toNat | _ => 0, fun w43 hb43 hk43 => ⟨⟨by omega, by omega⟩, ⟨[], rfl, by simp, M11.chg (Chg.kept hk43) nt⟩, rfl, rfl, rfl, rfl⟩, ?_⟩
  rintro a7 n7 c7 x11 x12 w44 hb44 ⟨⟨x0, xl⟩, ⟨L, hL, hLq, M44⟩, hE, rfl, rfl, rfl⟩
  have l44 := M44.lt
  refine ⟨fun hlt => ?_, fun hge => ?_⟩
  · have hi : x12.toNat < C.length := by omega
    refine load_piece hC hb44 ⟨x0, hlt⟩ fun m41 m42 hm a8 c8 hcell => ⟨.inl hm, fun m45 g45 w45 hb45 hk45 => ?_⟩
    have hq1 := gd xC hi
    have htk := take_get hi
    rw [drop_get hi] at hE
    generalize C.getD x12.toNat ⟨0, []⟩ = q at *
    have e1 : (x12 + 1).toNat = x12.toNat + 1 := by omega
    refine Pure.calls (pcheck_any q (hcell.keep hb45) hq1 (hp.keep hb45) hS) fun w46 hd46 => ⟨_, rfl, .all hd46, fun hx w47 hb47 _ => ?_, fun hx w48 hb48 hk48 => ?_⟩
    · have : clockErr W C [] = pieceErr W q := by rw [hE]; unfold clockErr; rw [if_pos hx]
      exact pureL_err (by rw [hM, this, if_pos hx]) hb47
    have nt5 : tm ∉ [m4, m45, m2, m1] := by simp only [List.mem_cons, List.not_mem_nil, or_false]; omega
    have M48 := ((M44.chg (Chg.kept hk45) nt5).below hd46).chg (Chg.kept hk48) nt5
    refine lookup_ok keyI (P := Try.prog) (mt := 138) (vt := 40) (by kernel_rfl) M48 q.pat (z := .agg #[I 0, .slice none 0 0]) (by kernel_rfl) ?_
    have hkeys := clockV_keys L q.pat
    rw [hL] at hkeys
    have hcl := clock_look L q.pat
    cases hl : lookC L q.pat with
    | some q' =>
      rw [hcl, hl]
      refine ⟨q'.p.pat, q'.a, q'.p.sizes.length, q'.c, true, rfl, .all (.refl _ _), fun m50 g50 => ⟨fun _ w50 hb50 _ => ?_, fun h => (by cases h)⟩⟩
      have hin : q.pat ∈ (C.take x12.toNat).map (·.pat) := Classical.byContradiction fun h => by
        have := hkeys.2 h
        rw [hcl, hl] at this
        cases this
      have : clockErr W C [] = 6 := by rw [hE]; unfold clockErr; rw [if_neg (by simpa using hx), if_pos hin]
      exact pureL_err (by rw [hM, this, if_pos (by omega)]) hb50
    | none =>
      rw [hcl, hl]
      have hln : (clockV L).lookup q.pat = none := by rw [hcl, hl]; rfl
      refine ⟨0, none, 0, 0, false, rfl, .all (.refl _ _), fun m50 g50 => ⟨fun h => (by cases h), fun _ w51 hb51 hk51 => ?_⟩⟩
      have nt6 : tm ∉ [m4, m50, m45, m2, m1] := by have := M48.lt; simp only [List.mem_cons, List.not_mem_nil, or_false]; omega
      have M51 := M48.chg (Chg.kept hk51) nt6
      refine update_new keyI (P := Try.prog) (mt := 138) (vt := 40) (by kernel_rfl) M51 q.pat (.agg #[I q.pat, .slice a8 q.sizes.length c8]) hln fun w52 M52 c52 => ?_
      refine ⟨c52.own (fun x hx => ⟨hk51.own x hx, fun h => nt6 (by simp only [List.mem_singleton] at h; subst h; exact hx)⟩) (by simp) (fun _ => ⟨hb51.size, fun x hx => by simp only [List.mem_singleton] at hx; omega⟩), ⟨by omega, by omega⟩, fun w53 hb53 hk53 => ⟨⟨⟨by omega, by omega⟩, ⟨L ++ [⟨q, a8, c8⟩], ?_, fun q' hq' => ?_, ?_⟩, ?_, rfl, rfl, rfl⟩, by simp only; omega⟩⟩
      · rw [e1, htk, List.map_append, hL]; rfl
      · rcases List.mem_append.1 hq' with hq' | hq'
        · exact hLq q' hq'
        · simp only [List.mem_singleton] at hq'
          subst hq'
          exact ⟨hx, hcell⟩
      · rw [← clockV_add]
        exact M52.chg (Chg.kept hk53) nt6
      · have hni := hkeys.1 hln
        rw [hE, e1, htk, List.map_append]
        show clockErr W (q :: C.drop (x12.toNat + 1)) ((C.take x12.toNat).map (·.pat)) = _
        rw [clockErr, if_neg (by simpa using hx), if_neg hni]
        rfl
  · have e12 : x12.toNat = C.length := by omega
    rw [e12, List.drop_length] at hE
    rw [e12, List.take_length] at hL
    have hE0 : clockErr W C [] = 0 := hE
    have hM2 : chooseM W p C St = if storeErr W St ≠ 0 then ([], storeErr W St) else (chosen W p C St St.length, 0) := by rw [hM, if_neg (by simpa using hE0)]
    refine ⟨fun ls w' => match ls with | [.sl a n c, .int _ _, .int _ jj] => (0 ≤ jj ∧ jj ≤ St.length) ∧ n = (chosen W p C St jj.toNat).length ∧ RowE 3 1 w44.heap.size [m4, m2, m1] a n c (ints (chosen W p C St jj.toNat)) w' ∧ MapC w' tm I (clockV L) ∧ storeErr W St = storeErr W (St.drop jj.toNat) ∧ w44.heap.size ≤ w'.heap.size | _ => False,
      fun ls => match ls with | [_, _, .int _ jj] => (St.length - jj).toNat | _ => 0, fun w55 hb55 hk55 => ⟨⟨by omega, by omega⟩, rfl, .inr Row.nil, M44.chg (Chg.kept hk55) nt, rfl, hk55.size⟩, ?_⟩
    rintro a10 n10 c10 x16 x17 w56 hb56 ⟨⟨y0, yl⟩, rfl, RR, M56, hSE, z56⟩
    have hcl := chosen_len W p C St x17.toNat
    have z44 := hb44.size
    refine ⟨fun hlt => ?_, fun hge w70 hb70 hk70 => ?_⟩
    rotate_left
    · have ej : x17.toNat = St.length := by omega
      rw [ej, List.drop_length] at hSE
      rw [ej] at RR ⊢
      have hSE0 : storeErr W St = 0 := hSE
      have hfin : chooseM W p C St = (chosen W p C St St.length, 0) := by rw [hM2, if_neg (by simpa using hSE0)]
      have R70 := RR.chg (Chg.kept hk70) (fun _ h => h)
      unfold PureL
      rw [hfin]
      exact ⟨_, _, rfl, hb70, rowE_lies R70 z44⟩
    have hj : x17.toNat < St.length := by omega
    refine load_piece hT hb56 ⟨y0, hlt⟩ fun m54 m55 hm a11 c11 hcell => ⟨.inl hm, fun m58 g58 w57 hb57 hk57 => ?_⟩
    have hq1 := gd xT hj
    have hch := chosen_succ W p C St x17.toNat
    rw [drop_get hj] at hSE
    generalize St.getD x17.toNat ⟨0, []⟩ = q at *
    have e1 : (x17 + 1).toNat = x17.toNat + 1 := by omega
    refine Pure.calls (pcheck_any q (hcell.keep hb57) hq1 (hp.keep hb57) hS) fun w58 hd58 => ⟨_, rfl, .all hd58, fun hx w59 hb59 _ => ?_, fun hx => ?_⟩
    · have : storeErr W St = pieceErr W q := by rw [hSE]; unfold storeErr; rw [if_pos hx]
      exact pureL_err (by rw [hM2, this, if_pos hx]) hb59
    have hSE' : storeErr W St = storeErr W (St.drop (x17 + 1).toNat) := by
      rw [hSE, e1]
      show storeErr W (q :: St.drop (x17.toNat + 1)) = _
      rw [storeErr, if_neg (by simpa using hx)]
    obtain ⟨bq, lq, _⟩ := pieceErr_ok hx
    have l56 := M56.lt
    have nt5 : tm ∉ [m4, m58, m2, m1] := by simp only [List.mem_cons, List.not_mem_nil, or_false]; omega
    have sub : ∀ x ∈ [m4, m58, m2, m1], x ∈ [m58] ++ [m4, m2, m1] := fun x hx => by simp only [List.mem_cons, List.mem_append, List.not_mem_nil, or_false] at hx ⊢; omega
    have R57 := (RR.grow (ms := [m58]) (allc g58 all0)).chg (Chg.kept hk57) sub
    have M57 := M56.chg (Chg.kept hk57) nt5
    have R58 := R57.chg (Chg.of_below (S := []) hd58) (by simp)
    have M58 := M57.below hd58
    have z57 := hk57.size
    have z58 := hd58.size
    have next : ∀ {w' : World}, fitsIn W p C q = false → RowE 3 1 w44.heap.size ([m58] ++ [m4, m2, m1]) a10 (chosen W p C St x17.toNat).length c10 (ints (chosen W p C St x17.toNat)) w' → MapC w' tm I (clockV L) → w44.heap.size ≤ w'.heap.size →
        ((0 ≤ x17 + 1 ∧ x17 + 1 ≤ St.length) ∧ (chosen W p C St x17.toNat).length = (chosen W p C St (x17 + 1).toNat).length ∧ RowE 3 1 w44.heap.size [m4, m2, m1] a10 (chosen W p C St x17.toNat).length c10 (ints (chosen W p C St (x17 + 1).toNat)) w' ∧ MapC w' tm I (clockV L) ∧ storeErr W St = storeErr W (St.drop (x17 + 1).toNat) ∧ w44.heap.size ≤ w'.heap.size) := fun {w'} hF hR hMm hz => by
      have : chosen W p C St (x17 + 1).toNat = chosen W p C St x17.toNat := by rw [e1, hch, hF]; simp
      rw [this]
      exact ⟨⟨by omega, by omega⟩, rfl, hR.less (by simp), hMm, hSE', hz⟩
    refine ⟨fun hpat w60 hb60 hk60 => ?_, fun hpat => ⟨⟨by omega, by omega⟩, fun w69 hb69 hk69 => ⟨next (by unfold fitsIn; rw [decide_eq_false hpat]; rfl) (R58.chg (Chg.kept hk69) sub) (M58.chg (Chg.kept hk69) nt5) (by have := hk69.size; omega), by simp only; omega⟩⟩⟩
    have R60 := R58.chg (Chg.kept hk60) sub
    have M60 := M58.chg (Chg.kept hk60) nt5
    have z60 := hk60.size
    refine Pure.calls (isGood_any q (hcell.keep hb60) hq1 (hp.keep hb60) hS bq lq) fun w61 hd61 => ⟨_, rfl, .all hd61, fun hg w62 hb62 hk62 => ?_, fun hg => ⟨⟨by omega, by omega⟩, fun w68 hb68 hk68 => ⟨next (by unfold fitsIn; rw [hg]; simp) ((R60.chg (Chg.of_below (S := []) hd61) (by simp)).chg (Chg.kept hk68) sub) ((M60.below hd61).chg (Chg.kept hk68) nt5) (by have := hk68.size; have := hd61.size; omega), by simp only; omega⟩⟩⟩
    have R62 := (R60.chg (Chg.of_below (S := []) hd61) (by simp)).chg (Chg.kept hk62) sub
    have M62 := (M60.below hd61).chg (Chg.kept hk62) nt5
    have z61 := hd61.size
    have z62 := hk62.size
    have hgo := goesC_eq W q L
    rw [hL] at hgo
    refine Pure.calls (goes_any (hf.keep hb62) hok (hcell.keep hb62) hx M62 (fun q' hq' => ⟨(hLq q' hq').1, (hLq q' hq').2.keep hb62⟩)) fun w63 hd63 => ⟨_, rfl, .all hd63, fun ht m62 g62 w64 hb64 hk64 hc64 => ?_, fun ht => ⟨⟨by omega, by omega⟩, fun w67 hb67 hk67 => ⟨next (by unfold fitsIn; rw [← hgo, ht]; simp) ((R62.chg (Chg.of_below (S := []) hd63) (by simp)).chg (Chg.kept hk67) sub) ((M62.below hd63).chg (Chg.kept hk67) nt5) (by have := hk67.size; have := hd63.size; omega), by simp only; omega⟩⟩⟩
    have z63 := hd63.size
    have z64 := hk64.size
    have sub2 : ∀ x ∈ [m62, m4, m58, m2, m1], x ∈ [m62] ++ ([m58] ++ [m4, m2, m1]) := fun x hx => by simp only [List.mem_cons, List.mem_append, List.not_mem_nil, or_false] at hx ⊢; omega
    have sub3 : ∀ x ∈ [m62] ++ ([m58] ++ [m4, m2, m1]), x ∈ [m62, m4, m58, m2, m1] := fun x hx => by simp only [List.mem_cons, List.mem_append, List.not_mem_nil, or_false] at hx ⊢; omega
    have R64 := ((R62.chg (Chg.of_below (S := []) hd63) (by simp)).grow (ms := [m62]) (allc g62 all0)).chg (Chg.kept hk64) sub2
    have M63 := M62.below hd63
    have l63 := M63.lt
    have nt6 : tm ∉ [m62, m4, m58, m2, m1] := by simp only [List.mem_cons, List.not_mem_nil, or_false]; omega
    have M64 := M63.chg (Chg.kept hk64) nt6
    have hF : fitsIn W p C q = true := by
      unfold fitsIn
      rw [← hgo, ht, decide_eq_true hpat, hg]; rfl
    have e2 : chosen W p C St (x17 + 1).toNat = chosen W p C St x17.toNat ++ [x17] := by
      rw [e1, hch, hF, if_pos rfl, Int.toNat_of_nonneg y0]
    refine append_rowE (P := Try.prog) (bytes := 8) (by kernel_rfl) (by omega) R64 (m := 1) (news := [I x17]) (Cells.obj (vs := [I x17]) hc64) rfl (List.forall_mem_cons.2 ⟨rfl, by simp⟩) (by omega) (by omega) (by omega) (fun x hx => hk64.own x (sub3 x hx)) (by omega) fun a12 c12 w65 R65 S65 cS65 hS65 => ?_
    have z65 := cS65.size
    refine ⟨_, _, _, rfl, cS65.own (fun x hx => ⟨hk64.own x hx, fun h => (hS65 x h).2 (sub2 x hx)⟩) (by simp) (fun _ => ⟨hb64.size, fun x hx => by have := (hS65 x hx).1; omega⟩), ⟨by omega, by omega⟩, fun w66 hb66 hk66 => ⟨⟨⟨by omega, by omega⟩, by rw [e2]; simp, ?_, ?_, hSE', by have := hk66.size; omega⟩, by simp only; omega⟩⟩
    · rw [e2, ints_append]
      exact .inr ((R65.chg (Chg.kept hk66) sub2).less (by simp))
    · exact (M64.chg cS65 (fun h => by have := (hS65 _ h).1; omega)).chg (Chg.kept hk66) nt6
end Go.Proofs.R12
end
section
/- The conditions of the functions, printed by program; each is what the generator reckons (kernel_rfl). -/
namespace Go.Proofs
open Go.Vc
set_option maxRecDepth 100000 in
set_option maxHeartbeats 2000000 in
theorem vc45  (w : World) (R : Ending → World → Prop) (h : ∀ (m1 : Nat), w.heap.size ≤ m1 → ∀ (w1 : World), RowKit.Below w.heap.size w w1 → Kept [m1] w w1 → Calls Try.prog 42
    #[Value.int IntKind.i64 1000, Value.int IntKind.i64 1010] w1 fun (e1 : Ending) (w2 : World) => ∃ (x1 : Int), ∃ (x2 : Int), e1 = Ending.returned (Value.agg #[Value.int
    IntKind.i64 x1, Value.int IntKind.i64 x2]) ∧ KeepX true w.heap.size [m1] (fun _ => False) w1 w2 ∧ ∀ (m3 : Nat), w2.heap.size ≤ m3 → ∀ (w3 : World), RowKit.Below w.heap.size w
    w3 → Kept [m3, m1] w2 w3 → Calls Try.prog 42 #[Value.int IntKind.i64 990, Value.int IntKind.i64 998] w3 fun (e2 : Ending) (w4 : World) => ∃ (x3 : Int), ∃ (x4 : Int), e2 =
    Ending.returned (Value.agg #[Value.int IntKind.i64 x3, Value.int IntKind.i64 x4]) ∧ KeepX true w.heap.size [m3, m1] (fun _ => False) w3 w4 ∧ ∀ (m5 : Nat), w4.heap.size ≤ m5 → ∀
    (m6 : Nat), w4.heap.size ≤ m6 → ∀ (w5 : World), RowKit.Below w.heap.size w w5 → Kept [m6, m5, m3, m1] w4 w5 → Calls Try.prog 42 #[Value.int IntKind.i64 2, Value.int IntKind.i64
    15] w5 fun (e3 : Ending) (w6 : World) => ∃ (x5 : Int), ∃ (x6 : Int), e3 = Ending.returned (Value.agg #[Value.int IntKind.i64 x5, Value.int IntKind.i64 x6]) ∧ KeepX true
    w.heap.size [m6, m5, m3, m1] (fun _ => False) w5 w6 ∧ ∀ (m8 : Nat), w6.heap.size ≤ m8 → ∀ (w7 : World), RowKit.Below w.heap.size w w7 → Kept [m8, m6, m5, m3, m1] w6 w7 →
    w7.heap[m6]? = some (Obj.cells #[Value.slice (some { block := m3, off := 0 }) 1 1, Value.slice (some { block := m5, off := 0 }) 1 1] 89) → w7.heap[m8]? = some (Obj.cells
    #[Value.int IntKind.i64 0, Value.int IntKind.i64 0, Value.int IntKind.i64 1, Value.int IntKind.i64 0, Value.int IntKind.i64 x5, Value.int IntKind.i64 x6] 67) → w7.heap[m3]? =
    some (Obj.cells #[Value.int IntKind.i64 x1, Value.int IntKind.i64 x2] 42) → w7.heap[m5]? = some (Obj.cells #[Value.int IntKind.i64 x3, Value.int IntKind.i64 x4] 42) → R
    (Ending.returned (Value.agg #[Value.slice (some { block := m6, off := 0 }) 2 2, Value.slice (some { block := m8, off := 0 }) 1 1])) w7) : Calls Try.prog 45 #[] w R :=
    calls_of_vc (pure := true) (wrapAt := []) (muts := []) (esc := []) (args := []) (vs := []) Try.func45 rfl rfl rfl (Eq.mp (by kernel_rfl) h) 
set_option maxRecDepth 100000 in
set_option maxHeartbeats 2000000 in
theorem vc14  (w : World) (R : Ending → World → Prop) (h : ∀ (w1 : World), RowKit.Below w.heap.size w w1 → Kept [] w w1 → Calls Try.prog 45 #[] w1 fun (e1 : Ending) (w2 : World) =>
    ∃ (a1 : Option Addr), ∃ (m1 : Nat), ∃ (m2 : Nat), ∃ (a2 : Option Addr), ∃ (m3 : Nat), ∃ (m4 : Nat), e1 = Ending.returned (Value.agg #[Value.slice a1 m1 m2, Value.slice a2 m3
    m4]) ∧ KeepX true w.heap.size [] (fun _ => False) w1 w2 ∧ ∀ (w3 : World), RowKit.Below w.heap.size w w3 → Kept [] w2 w3 → Calls Try.prog 17 #[Value.agg #[Value.slice a1 m1 m2,
    Value.slice a2 m3 m4]] w3 fun (e2 : Ending) (w4 : World) => ∃ (a3 : Option Addr), ∃ (m6 : Nat), ∃ (m7 : Nat), ∃ (x1 : Int), e2 = Ending.returned (Value.tuple #[Value.slice a3
    m6 m7, Value.int IntKind.i64 x1]) ∧ KeepX true w.heap.size [] (fun _ => False) w3 w4 ∧ ∀ (w5 : World), RowKit.Below w.heap.size w w5 → Kept [] w4 w5 → Calls Try.prog 45 #[] w5
    fun (e3 : Ending) (w6 : World) => ∃ (a4 : Option Addr), ∃ (m9 : Nat), ∃ (m10 : Nat), ∃ (a5 : Option Addr), ∃ (m11 : Nat), ∃ (m12 : Nat), e3 = Ending.returned (Value.agg
    #[Value.slice a4 m9 m10, Value.slice a5 m11 m12]) ∧ KeepX true w.heap.size [] (fun _ => False) w5 w6 ∧ ∀ (w7 : World), RowKit.Below w.heap.size w w7 → Kept [] w6 w7 → Calls
    Try.prog 42 #[Value.int IntKind.i64 (-2), Value.int IntKind.i64 1] w7 fun (e4 : Ending) (w8 : World) => ∃ (x2 : Int), ∃ (x3 : Int), e4 = Ending.returned (Value.agg #[Value.int
    IntKind.i64 x2, Value.int IntKind.i64 x3]) ∧ KeepX true w.heap.size [] (fun _ => False) w7 w8 ∧ ∀ (w9 : World), RowKit.Below w.heap.size w w9 → Kept [] w8 w9 → Calls Try.prog
    24 #[Value.agg #[Value.slice a4 m9 m10, Value.slice a5 m11 m12], Value.int IntKind.i64 0, Value.int IntKind.i64 0, Value.agg #[Value.int IntKind.i64 x2, Value.int IntKind.i64
    x3]] w9 fun (e5 : Ending) (w10 : World) => ∃ (x4 : Int), ∃ (x5 : Int), ∃ (x6 : Int), ∃ (x7 : Int), ∃ (x8 : Int), e5 = Ending.returned (Value.tuple #[Value.agg #[Value.int
    IntKind.i64 x4, Value.int IntKind.i64 x5], Value.agg #[Value.int IntKind.i64 x6, Value.int IntKind.i64 x7], Value.int IntKind.i64 x8]) ∧ KeepX true w.heap.size [] (fun _ =>
    False) w9 w10 ∧ ∀ (m16 : Nat), w10.heap.size ≤ m16 → ∀ (m17 : Nat), w10.heap.size ≤ m17 → ∀ (w11 : World), RowKit.Below w.heap.size w w11 → Kept [m17, m16] w10 w11 → Calls
    Try.prog 45 #[] w11 fun (e6 : Ending) (w12 : World) => ∃ (a6 : Option Addr), ∃ (m18 : Nat), ∃ (m19 : Nat), ∃ (a7 : Option Addr), ∃ (m20 : Nat), ∃ (m21 : Nat), e6 =
    Ending.returned (Value.agg #[Value.slice a6 m18 m19, Value.slice a7 m20 m21]) ∧ KeepX true w.heap.size [m17, m16] (fun _ => False) w11 w12 ∧ ∀ (m23 : Nat), w12.heap.size ≤ m23
    → ∀ (m24 : Nat), w12.heap.size ≤ m24 → ∀ (w13 : World), RowKit.Below w.heap.size w w13 → Kept [m24, m23, m17, m16] w12 w13 → w13.heap[m23]? = some (Obj.cells #[Value.int
    IntKind.i64 1000, Value.int IntKind.i64 1012, Value.int IntKind.i64 1001] 3) → w13.heap[m24]? = some (Obj.cells #[Value.int IntKind.i64 999, Value.int IntKind.i64 995,
    Value.int IntKind.i64 1003] 3) → Calls Try.prog 30 #[Value.agg #[Value.slice a6 m18 m19, Value.slice a7 m20 m21], Value.int IntKind.i64 0, Value.slice (some
    { block := m23, off := 0 }) 3 3, Value.slice (some { block := m24, off := 0 }) 3 3] w13 fun (e7 : Ending) (w14 : World) => ∃ (a8 : Option Addr), ∃ (m27 : Nat), ∃ (m28 : Nat), ∃
    (x9 : Int), e7 = Ending.returned (Value.tuple #[Value.slice a8 m27 m28, Value.int IntKind.i64 x9]) ∧ KeepX true w.heap.size [m24, m23, m17, m16] (fun _ => False) w13 w14 ∧ ∀
    (w15 : World), RowKit.Below w.heap.size w w15 → Kept [m24, m23, m17, m16] w14 w15 → Calls Try.prog 45 #[] w15 fun (e8 : Ending) (w16 : World) => ∃ (a9 : Option Addr), ∃ (m30 :
    Nat), ∃ (m31 : Nat), ∃ (a10 : Option Addr), ∃ (m32 : Nat), ∃ (m33 : Nat), e8 = Ending.returned (Value.agg #[Value.slice a9 m30 m31, Value.slice a10 m32 m33]) ∧ KeepX true
    w.heap.size [m24, m23, m17, m16] (fun _ => False) w15 w16 ∧ ∀ (m35 : Nat), w16.heap.size ≤ m35 → ∀ (m36 : Nat), w16.heap.size ≤ m36 → ∀ (w17 : World), RowKit.Below w.heap.size
    w w17 → Kept [m36, m35, m24, m23, m17, m16] w16 w17 → w17.heap[m35]? = some (Obj.cells #[Value.int IntKind.i64 1000, Value.int IntKind.i64 1030, Value.int IntKind.i64 1001] 3)
    → w17.heap[m36]? = some (Obj.cells #[Value.int IntKind.i64 995, Value.int IntKind.i64 996, Value.int IntKind.i64 997] 3) → Calls Try.prog 31 #[Value.agg #[Value.slice a9 m30
    m31, Value.slice a10 m32 m33], Value.int IntKind.i64 0, Value.slice (some { block := m35, off := 0 }) 3 3, Value.slice (some { block := m36, off := 0 }) 3 3] w17 fun (e9 :
    Ending) (w18 : World) => ∃ (a11 : Option Addr), ∃ (m39 : Nat), ∃ (m40 : Nat), ∃ (a12 : Option Addr), ∃ (m41 : Nat), ∃ (m42 : Nat), ∃ (x10 : Int), e9 = Ending.returned
    (Value.tuple #[Value.slice a11 m39 m40, Value.slice a12 m41 m42, Value.int IntKind.i64 x10]) ∧ KeepX true w.heap.size [m36, m35, m24, m23, m17, m16] (fun _ => False) w17 w18 ∧
    ∀ (w19 : World), RowKit.Below w.heap.size w w19 → Kept [m36, m35, m24, m23, m17, m16] w18 w19 → Calls Try.prog 45 #[] w19 fun (e10 : Ending) (w20 : World) => ∃ (a13 : Option
    Addr), ∃ (m44 : Nat), ∃ (m45 : Nat), ∃ (a14 : Option Addr), ∃ (m46 : Nat), ∃ (m47 : Nat), e10 = Ending.returned (Value.agg #[Value.slice a13 m44 m45, Value.slice a14 m46 m47])
    ∧ KeepX true w.heap.size [m36, m35, m24, m23, m17, m16] (fun _ => False) w19 w20 ∧ ∀ (m49 : Nat), w20.heap.size ≤ m49 → ∀ (m50 : Nat), w20.heap.size ≤ m50 → ∀ (m51 : Nat),
    w20.heap.size ≤ m51 → ∀ (m52 : Nat), w20.heap.size ≤ m52 → ∀ (m53 : Nat), w20.heap.size ≤ m53 → ∀ (m54 : Nat), w20.heap.size ≤ m54 → ∀ (w21 : World), RowKit.Below w.heap.size w
    w21 → Kept [m54, m53, m52, m51, m50, m49, m36, m35, m24, m23, m17, m16] w20 w21 → w21.heap[m50]? = some (Obj.cells #[Value.int IntKind.i64 0, Value.slice (some
    { block := m49, off := 0 }) 1 1] 40) → w21.heap[m54]? = some (Obj.cells #[Value.int IntKind.i64 1, Value.slice (some { block := m51, off := 0 }) 1 1, Value.int IntKind.i64 1,
    Value.slice (some { block := m52, off := 0 }) 1 1, Value.int IntKind.i64 1, Value.slice (some { block := m53, off := 0 }) 1 1] 40) → w21.heap[m49]? = some (Obj.cells
    #[Value.int IntKind.i64 1010] 3) → w21.heap[m51]? = some (Obj.cells #[Value.int IntKind.i64 990] 3) → w21.heap[m52]? = some (Obj.cells #[Value.int IntKind.i64 996] 3) →
    w21.heap[m53]? = some (Obj.cells #[Value.int IntKind.i64 999] 3) → Calls Try.prog 36 #[Value.agg #[Value.slice a13 m44 m45, Value.slice a14 m46 m47], Value.slice (some
    { block := m50, off := 0 }) 1 1, Value.int IntKind.i64 1, Value.slice (some { block := m54, off := 0 }) 3 3] w21 fun (e11 : Ending) (w22 : World) => ∃ (a15 : Option Addr), ∃
    (m61 : Nat), ∃ (m62 : Nat), ∃ (x11 : Int), e11 = Ending.returned (Value.tuple #[Value.slice a15 m61 m62, Value.int IntKind.i64 x11]) ∧ KeepX true w.heap.size [m54, m53, m52,
    m51, m50, m49, m36, m35, m24, m23, m17, m16] (fun _ => False) w21 w22 ∧ ∀ (w23 : World), RowKit.Below w.heap.size w w23 → Kept [m54, m53, m52, m51, m50, m49, m36, m35, m24,
    m23, m17, m16] w22 w23 → Calls Try.prog 42 #[Value.int IntKind.i64 5, Value.int IntKind.i64 9] w23 fun (e12 : Ending) (w24 : World) => ∃ (x12 : Int), ∃ (x13 : Int), e12 =
    Ending.returned (Value.agg #[Value.int IntKind.i64 x12, Value.int IntKind.i64 x13]) ∧ KeepX true w.heap.size [m54, m53, m52, m51, m50, m49, m36, m35, m24, m23, m17, m16] (fun _
    => False) w23 w24 ∧ ∀ (m65 : Nat), w24.heap.size ≤ m65 → ∀ (m66 : Nat), w24.heap.size ≤ m66 → ∀ (w25 : World), RowKit.Below w.heap.size w w25 → Kept [m66, m65, m54, m53, m52,
    m51, m50, m49, m36, m35, m24, m23, m17, m16] w24 w25 → w25.heap[m65]? = some (Obj.cells #[Value.int IntKind.i64 10, Value.int IntKind.i64 0, Value.int IntKind.i64 20] 80) →
    w25.heap[m66]? = some (Obj.cells #[Value.int IntKind.i64 3, Value.int IntKind.i64 12] 3) → Calls Try.prog 38 #[Value.agg #[Value.int IntKind.i64 x12, Value.int IntKind.i64
    x13], Value.slice (some { block := m65, off := 0 }) 1 1, Value.slice (some { block := m66, off := 0 }) 2 2] w25 fun (e13 : Ending) (w26 : World) => ∃ (a16 : Option Addr), ∃
    (m69 : Nat), ∃ (m70 : Nat), ∃ (x14 : Int), e13 = Ending.returned (Value.tuple #[Value.slice a16 m69 m70, Value.int IntKind.i64 x14]) ∧ KeepX true w.heap.size [m66, m65, m54,
    m53, m52, m51, m50, m49, m36, m35, m24, m23, m17, m16] (fun _ => False) w25 w26 ∧ ∀ (w27 : World), RowKit.Below w.heap.size w w27 → Kept [m66, m65, m54, m53, m52, m51, m50,
    m49, m36, m35, m24, m23, m17, m16] w26 w27 → Calls Try.prog 45 #[] w27 fun (e14 : Ending) (w28 : World) => ∃ (a17 : Option Addr), ∃ (m72 : Nat), ∃ (m73 : Nat), ∃ (a18 : Option
    Addr), ∃ (m74 : Nat), ∃ (m75 : Nat), e14 = Ending.returned (Value.agg #[Value.slice a17 m72 m73, Value.slice a18 m74 m75]) ∧ KeepX true w.heap.size [m66, m65, m54, m53, m52,
    m51, m50, m49, m36, m35, m24, m23, m17, m16] (fun _ => False) w27 w28 ∧ ∀ (m77 : Nat), w28.heap.size ≤ m77 → ∀ (w29 : World), RowKit.Below w.heap.size w w29 → Kept [m77, m66,
    m65, m54, m53, m52, m51, m50, m49, m36, m35, m24, m23, m17, m16] w28 w29 → w29.heap[m77]? = some (Obj.cells #[Value.int IntKind.i64 998] 3) → Calls Try.prog 23 #[Value.agg
    #[Value.slice a17 m72 m73, Value.slice a18 m74 m75], Value.agg #[Value.int IntKind.i64 1, Value.slice (some { block := m77, off := 0 }) 1 1]] w29 fun (e15 : Ending) (w30 :
    World) => ∃ (t1 : Bool), ∃ (x15 : Int), e15 = Ending.returned (Value.tuple #[Value.bool t1, Value.int IntKind.i64 x15]) ∧ KeepX true w.heap.size [m77, m66, m65, m54, m53, m52,
    m51, m50, m49, m36, m35, m24, m23, m17, m16] (fun _ => False) w29 w30 ∧ ∃ (F1 : List Lf → World → Prop), ((x1 ≠ 0 → ∀ (w32 : World), RowKit.Below w.heap.size w w32 → Kept [m77,
    m66, m65, m54, m53, m52, m51, m50, m49, m36, m35, m24, m23, m17, m16] w30 w32 → F1 [Lf.bool true] w32) ∧ (x1 = 0 → (x8 ≠ 0 → ∀ (w33 : World), RowKit.Below w.heap.size w w33 →
    Kept [m77, m66, m65, m54, m53, m52, m51, m50, m49, m36, m35, m24, m23, m17, m16] w30 w33 → F1 [Lf.bool true] w33) ∧ (x8 = 0 → (x9 ≠ 0 → ∀ (w34 : World), RowKit.Below
    w.heap.size w w34 → Kept [m77, m66, m65, m54, m53, m52, m51, m50, m49, m36, m35, m24, m23, m17, m16] w30 w34 → F1 [Lf.bool true] w34) ∧ (x9 = 0 → (x10 ≠ 0 → ∀ (w35 : World),
    RowKit.Below w.heap.size w w35 → Kept [m77, m66, m65, m54, m53, m52, m51, m50, m49, m36, m35, m24, m23, m17, m16] w30 w35 → F1 [Lf.bool true] w35) ∧ (x10 = 0 → (x11 ≠ 0 → ∀
    (w36 : World), RowKit.Below w.heap.size w w36 → Kept [m77, m66, m65, m54, m53, m52, m51, m50, m49, m36, m35, m24, m23, m17, m16] w30 w36 → F1 [Lf.bool true] w36) ∧ (x11 = 0 →
    (x14 ≠ 0 → ∀ (w37 : World), RowKit.Below w.heap.size w w37 → Kept [m77, m66, m65, m54, m53, m52, m51, m50, m49, m36, m35, m24, m23, m17, m16] w30 w37 → F1 [Lf.bool true] w37) ∧
    (x14 = 0 → (x15 ≠ 0 → ∀ (w38 : World), RowKit.Below w.heap.size w w38 → Kept [m77, m66, m65, m54, m53, m52, m51, m50, m49, m36, m35, m24, m23, m17, m16] w30 w38 → F1 [Lf.bool
    true] w38) ∧ (x15 = 0 → ((↑m6 : Int) ≠ 1 → ∀ (w39 : World), RowKit.Below w.heap.size w w39 → Kept [m77, m66, m65, m54, m53, m52, m51, m50, m49, m36, m35, m24, m23, m17, m16]
    w30 w39 → F1 [Lf.bool true] w39) ∧ ((↑m6 : Int) = 1 → ((↑m27 : Int) ≠ 3 → ∀ (w40 : World), RowKit.Below w.heap.size w w40 → Kept [m77, m66, m65, m54, m53, m52, m51, m50, m49,
    m36, m35, m24, m23, m17, m16] w30 w40 → F1 [Lf.bool true] w40) ∧ ((↑m27 : Int) = 3 → ((↑m39 : Int) ≠ 3 → ∀ (w41 : World), RowKit.Below w.heap.size w w41 → Kept [m77, m66, m65,
    m54, m53, m52, m51, m50, m49, m36, m35, m24, m23, m17, m16] w30 w41 → F1 [Lf.bool true] w41) ∧ ((↑m39 : Int) = 3 → ((↑m41 : Int) ≠ 2 → ∀ (w42 : World), RowKit.Below w.heap.size
    w w42 → Kept [m77, m66, m65, m54, m53, m52, m51, m50, m49, m36, m35, m24, m23, m17, m16] w30 w42 → F1 [Lf.bool true] w42) ∧ ((↑m41 : Int) = 2 → ((↑m61 : Int) ≠ 1 → ∀ (w43 :
    World), RowKit.Below w.heap.size w w43 → Kept [m77, m66, m65, m54, m53, m52, m51, m50, m49, m36, m35, m24, m23, m17, m16] w30 w43 → F1 [Lf.bool true] w43) ∧ ((↑m61 : Int) = 1 →
    ∀ (w44 : World), RowKit.Below w.heap.size w w44 → Kept [m77, m66, m65, m54, m53, m52, m51, m50, m49, m36, m35, m24, m23, m17, m16] w30 w44 → F1 [Lf.bool ((↑m69 : Int) != 2)]
    w44))))))))))))) ∧ ∀ (t2 : Bool) (w45 : World), RowKit.Below w.heap.size w w45 → F1 [Lf.bool t2] w45 → (t2 = true → ∀ (w46 : World), RowKit.Below w.heap.size w w46 → Kept [m77,
    m66, m65, m54, m53, m52, m51, m50, m49, m36, m35, m24, m23, m17, m16] w45 w46 → R (Ending.returned (Value.bool false)) w46) ∧ (t2 = false → ∃ (m80 : Nat), ∃ (m81 : Nat), a3 =
    some { block := m80, off := m81 } ∧ ((0 : Int) ≤ 0 ∧ 0 < (↑m6 : Int)) ∧ ∃ (x16 : Int), ∃ (x17 : Int), ∃ (x18 : Int), w45.cell? { block := m80, off := m81 + Int.toNat 0 * 3 } =
    some (Value.int IntKind.i64 x16) ∧ w45.cell? { block := m80, off := m81 + Int.toNat 0 * 3 + 1 } = some (Value.int IntKind.i64 x17) ∧ w45.cell?
    { block := m80, off := m81 + Int.toNat 0 * 3 + 1 + 1 } = some (Value.int IntKind.i64 x18) ∧ (m80 < w.heap.size ∨ m80 ≠ m77 ∧ m80 ≠ m66 ∧ m80 ≠ m65 ∧ m80 ≠ m54 ∧ m80 ≠ m53 ∧ m80
    ≠ m52 ∧ m80 ≠ m51 ∧ m80 ≠ m50 ∧ m80 ≠ m49 ∧ m80 ≠ m36 ∧ m80 ≠ m35 ∧ m80 ≠ m24 ∧ m80 ≠ m23 ∧ m80 ≠ m17 ∧ m80 ≠ m16) ∧ ∀ (w47 : World), RowKit.Below w.heap.size w w47 → KeptIn
    [(0, w45.heap.size)] [m77, m66, m65, m54, m53, m52, m51, m50, m49, m36, m35, m24, m23, m17, m16] w45 w47 → RunsTo Try.prog ((eqGuard BinOp.eql 37 (Operand.tmp 132) (Operand.tmp
    133) (Value.agg #[Value.int IntKind.i64 x16, Value.int IntKind.i64 x17, Value.int IntKind.i64 x18]) (Value.agg #[Value.int IntKind.i64 0, Value.int IntKind.i64 1006, Value.int
    IntKind.i64 990])) >>= fun _ => binOp BinOp.eql 37 (Value.agg #[Value.int IntKind.i64 x16, Value.int IntKind.i64 x17, Value.int IntKind.i64 x18]) (Value.agg #[Value.int
    IntKind.i64 0, Value.int IntKind.i64 1006, Value.int IntKind.i64 990])) w47 fun (v1 : Value) (w48 : World) => ∃ (t3 : Bool), v1 = Value.bool t3 ∧ KeepX true w.heap.size [m77,
    m66, m65, m54, m53, m52, m51, m50, m49, m36, m35, m24, m23, m17, m16] (fun _ => False) w47 w48 ∧ (t3 = true → ∀ (w49 : World), RowKit.Below w.heap.size w w49 → KeptIn [(0,
    w48.heap.size)] [m77, m66, m65, m54, m53, m52, m51, m50, m49, m36, m35, m24, m23, m17, m16] w48 w49 → Calls Try.prog 42 #[Value.int IntKind.i64 1001, Value.int IntKind.i64
    1008] w49 fun (e16 : Ending) (w50 : World) => ∃ (x19 : Int), ∃ (x20 : Int), e16 = Ending.returned (Value.agg #[Value.int IntKind.i64 x19, Value.int IntKind.i64 x20]) ∧ KeepX
    true w.heap.size [m77, m66, m65, m54, m53, m52, m51, m50, m49, m36, m35, m24, m23, m17, m16] (fun _ => False) w49 w50 ∧ ∀ (w51 : World), RowKit.Below w.heap.size w w51 → KeptIn
    [(0, w50.heap.size)] [m77, m66, m65, m54, m53, m52, m51, m50, m49, m36, m35, m24, m23, m17, m16] w50 w51 → RunsTo Try.prog ((eqGuard BinOp.eql 42 (Operand.tmp 136) (Operand.tmp
    137) (Value.agg #[Value.int IntKind.i64 x4, Value.int IntKind.i64 x5]) (Value.agg #[Value.int IntKind.i64 x19, Value.int IntKind.i64 x20])) >>= fun _ => binOp BinOp.eql 42
    (Value.agg #[Value.int IntKind.i64 x4, Value.int IntKind.i64 x5]) (Value.agg #[Value.int IntKind.i64 x19, Value.int IntKind.i64 x20])) w51 fun (v2 : Value) (w52 : World) => ∃
    (t4 : Bool), v2 = Value.bool t4 ∧ KeepX true w.heap.size [m77, m66, m65, m54, m53, m52, m51, m50, m49, m36, m35, m24, m23, m17, m16] (fun _ => False) w51 w52 ∧ (t4 = true → ∀
    (w53 : World), RowKit.Below w.heap.size w w53 → KeptIn [(0, w52.heap.size)] [m77, m66, m65, m54, m53, m52, m51, m50, m49, m36, m35, m24, m23, m17, m16] w52 w53 → Calls Try.prog
    42 #[Value.int IntKind.i64 998, Value.int IntKind.i64 1011] w53 fun (e17 : Ending) (w54 : World) => ∃ (x21 : Int), ∃ (x22 : Int), e17 = Ending.returned (Value.agg #[Value.int
    IntKind.i64 x21, Value.int IntKind.i64 x22]) ∧ KeepX true w.heap.size [m77, m66, m65, m54, m53, m52, m51, m50, m49, m36, m35, m24, m23, m17, m16] (fun _ => False) w53 w54 ∧ ∀
    (w55 : World), RowKit.Below w.heap.size w w55 → KeptIn [(0, w54.heap.size)] [m77, m66, m65, m54, m53, m52, m51, m50, m49, m36, m35, m24, m23, m17, m16] w54 w55 → RunsTo
    Try.prog ((eqGuard BinOp.eql 42 (Operand.tmp 141) (Operand.tmp 142) (Value.agg #[Value.int IntKind.i64 x6, Value.int IntKind.i64 x7]) (Value.agg #[Value.int IntKind.i64 x21,
    Value.int IntKind.i64 x22])) >>= fun _ => binOp BinOp.eql 42 (Value.agg #[Value.int IntKind.i64 x6, Value.int IntKind.i64 x7]) (Value.agg #[Value.int IntKind.i64 x21, Value.int
    IntKind.i64 x22])) w55 fun (v3 : Value) (w56 : World) => ∃ (t5 : Bool), v3 = Value.bool t5 ∧ KeepX true w.heap.size [m77, m66, m65, m54, m53, m52, m51, m50, m49, m36, m35, m24,
    m23, m17, m16] (fun _ => False) w55 w56 ∧ (t5 = true → ∃ (m87 : Nat), ∃ (m88 : Nat), a8 = some { block := m87, off := m88 } ∧ ((0 : Int) ≤ 0 ∧ 0 < (↑m27 : Int)) ∧ ∃ (x23 :
    Int), ∃ (x24 : Int), w56.cell? { block := m87, off := m88 + Int.toNat 0 * 2 } = some (Value.int IntKind.i64 x23) ∧ w56.cell? { block := m87, off := m88 + Int.toNat 0 * 2 + 1 }
    = some (Value.int IntKind.i64 x24) ∧ (m87 < w.heap.size ∨ m87 ≠ m77 ∧ m87 ≠ m66 ∧ m87 ≠ m65 ∧ m87 ≠ m54 ∧ m87 ≠ m53 ∧ m87 ≠ m52 ∧ m87 ≠ m51 ∧ m87 ≠ m50 ∧ m87 ≠ m49 ∧ m87 ≠ m36
    ∧ m87 ≠ m35 ∧ m87 ≠ m24 ∧ m87 ≠ m23 ∧ m87 ≠ m17 ∧ m87 ≠ m16) ∧ ∀ (w57 : World), RowKit.Below w.heap.size w w57 → KeptIn [(0, w56.heap.size)] [m77, m66, m65, m54, m53, m52, m51,
    m50, m49, m36, m35, m24, m23, m17, m16] w56 w57 → RunsTo Try.prog ((eqGuard BinOp.eql 68 (Operand.tmp 148) (Operand.tmp 149) (Value.agg #[Value.int IntKind.i64 x23, Value.int
    IntKind.i64 x24]) (Value.agg #[Value.int IntKind.i64 0, Value.int IntKind.i64 2])) >>= fun _ => binOp BinOp.eql 68 (Value.agg #[Value.int IntKind.i64 x23, Value.int IntKind.i64
    x24]) (Value.agg #[Value.int IntKind.i64 0, Value.int IntKind.i64 2])) w57 fun (v4 : Value) (w58 : World) => ∃ (t6 : Bool), v4 = Value.bool t6 ∧ KeepX true w.heap.size [m77,
    m66, m65, m54, m53, m52, m51, m50, m49, m36, m35, m24, m23, m17, m16] (fun _ => False) w57 w58 ∧ (t6 = true → ∃ (m90 : Nat), ∃ (m91 : Nat), a8 = some
    { block := m90, off := m91 } ∧ ((0 : Int) ≤ 2 ∧ 2 < (↑m27 : Int)) ∧ ∃ (x25 : Int), ∃ (x26 : Int), w58.cell? { block := m90, off := m91 + Int.toNat 2 * 2 } = some (Value.int
    IntKind.i64 x25) ∧ w58.cell? { block := m90, off := m91 + Int.toNat 2 * 2 + 1 } = some (Value.int IntKind.i64 x26) ∧ (m90 < w.heap.size ∨ m90 ≠ m77 ∧ m90 ≠ m66 ∧ m90 ≠ m65 ∧
    m90 ≠ m54 ∧ m90 ≠ m53 ∧ m90 ≠ m52 ∧ m90 ≠ m51 ∧ m90 ≠ m50 ∧ m90 ≠ m49 ∧ m90 ≠ m36 ∧ m90 ≠ m35 ∧ m90 ≠ m24 ∧ m90 ≠ m23 ∧ m90 ≠ m17 ∧ m90 ≠ m16) ∧ ∀ (w59 : World), RowKit.Below
    w.heap.size w w59 → KeptIn [(0, w58.heap.size)] [m77, m66, m65, m54, m53, m52, m51, m50, m49, m36, m35, m24, m23, m17, m16] w58 w59 → RunsTo Try.prog ((eqGuard BinOp.eql 68
    (Operand.tmp 155) (Operand.tmp 156) (Value.agg #[Value.int IntKind.i64 x25, Value.int IntKind.i64 x26]) (Value.agg #[Value.int IntKind.i64 2, Value.int IntKind.i64 1])) >>= fun
    _ => binOp BinOp.eql 68 (Value.agg #[Value.int IntKind.i64 x25, Value.int IntKind.i64 x26]) (Value.agg #[Value.int IntKind.i64 2, Value.int IntKind.i64 1])) w59 fun (v5 :
    Value) (w60 : World) => ∃ (t7 : Bool), v5 = Value.bool t7 ∧ KeepX true w.heap.size [m77, m66, m65, m54, m53, m52, m51, m50, m49, m36, m35, m24, m23, m17, m16] (fun _ => False)
    w59 w60 ∧ (t7 = true → ∃ (m93 : Nat), ∃ (m94 : Nat), a12 = some { block := m93, off := m94 } ∧ ((0 : Int) ≤ 1 ∧ 1 < (↑m41 : Int)) ∧ ∃ (x27 : Int), w60.cell?
    { block := m93, off := m94 + Int.toNat 1 * 1 } = some (Value.int IntKind.i64 x27) ∧ (m93 < w.heap.size ∨ m93 ≠ m77 ∧ m93 ≠ m66 ∧ m93 ≠ m65 ∧ m93 ≠ m54 ∧ m93 ≠ m53 ∧ m93 ≠ m52 ∧
    m93 ≠ m51 ∧ m93 ≠ m50 ∧ m93 ≠ m49 ∧ m93 ≠ m36 ∧ m93 ≠ m35 ∧ m93 ≠ m24 ∧ m93 ≠ m23 ∧ m93 ≠ m17 ∧ m93 ≠ m16) ∧ (x27 = 2 → ∃ (m95 : Nat), ∃ (m96 : Nat), a15 = some
    { block := m95, off := m96 } ∧ ((0 : Int) ≤ 0 ∧ 0 < (↑m61 : Int)) ∧ ∃ (x28 : Int), w60.cell? { block := m95, off := m96 + Int.toNat 0 * 1 } = some (Value.int IntKind.i64 x28) ∧
    (m95 < w.heap.size ∨ m95 ≠ m77 ∧ m95 ≠ m66 ∧ m95 ≠ m65 ∧ m95 ≠ m54 ∧ m95 ≠ m53 ∧ m95 ≠ m52 ∧ m95 ≠ m51 ∧ m95 ≠ m50 ∧ m95 ≠ m49 ∧ m95 ≠ m36 ∧ m95 ≠ m35 ∧ m95 ≠ m24 ∧ m95 ≠ m23 ∧
    m95 ≠ m17 ∧ m95 ≠ m16) ∧ (x28 = 1 → ∃ (m97 : Nat), ∃ (m98 : Nat), a16 = some { block := m97, off := m98 } ∧ ((0 : Int) ≤ 0 ∧ 0 < (↑m69 : Int)) ∧ ∃ (x29 : Int), w60.cell?
    { block := m97, off := m98 + Int.toNat 0 * 1 } = some (Value.int IntKind.i64 x29) ∧ (m97 < w.heap.size ∨ m97 ≠ m77 ∧ m97 ≠ m66 ∧ m97 ≠ m65 ∧ m97 ≠ m54 ∧ m97 ≠ m53 ∧ m97 ≠ m52 ∧
    m97 ≠ m51 ∧ m97 ≠ m50 ∧ m97 ≠ m49 ∧ m97 ≠ m36 ∧ m97 ≠ m35 ∧ m97 ≠ m24 ∧ m97 ≠ m23 ∧ m97 ≠ m17 ∧ m97 ≠ m16) ∧ (x29 = 20 → ∃ (m99 : Nat), ∃ (m100 : Nat), a16 = some
    { block := m99, off := m100 } ∧ ((0 : Int) ≤ 1 ∧ 1 < (↑m69 : Int)) ∧ ∃ (x30 : Int), w60.cell? { block := m99, off := m100 + Int.toNat 1 * 1 } = some (Value.int IntKind.i64 x30)
    ∧ (m99 < w.heap.size ∨ m99 ≠ m77 ∧ m99 ≠ m66 ∧ m99 ≠ m65 ∧ m99 ≠ m54 ∧ m99 ≠ m53 ∧ m99 ≠ m52 ∧ m99 ≠ m51 ∧ m99 ≠ m50 ∧ m99 ≠ m49 ∧ m99 ≠ m36 ∧ m99 ≠ m35 ∧ m99 ≠ m24 ∧ m99 ≠ m23
    ∧ m99 ≠ m17 ∧ m99 ≠ m16) ∧ (x30 = 10 → ∀ (w61 : World), RowKit.Below w.heap.size w w61 → Kept [m77, m66, m65, m54, m53, m52, m51, m50, m49, m36, m35, m24, m23, m17, m16] w60
    w61 → R (Ending.returned (Value.bool t1)) w61) ∧ (x30 ≠ 10 → ∀ (w62 : World), RowKit.Below w.heap.size w w62 → Kept [m77, m66, m65, m54, m53, m52, m51, m50, m49, m36, m35, m24,
    m23, m17, m16] w60 w62 → R (Ending.returned (Value.bool false)) w62)) ∧ (x29 ≠ 20 → ∀ (w63 : World), RowKit.Below w.heap.size w w63 → Kept [m77, m66, m65, m54, m53, m52, m51,
    m50, m49, m36, m35, m24, m23, m17, m16] w60 w63 → R (Ending.returned (Value.bool false)) w63)) ∧ (x28 ≠ 1 → ∀ (w64 : World), RowKit.Below w.heap.size w w64 → Kept [m77, m66,
    m65, m54, m53, m52, m51, m50, m49, m36, m35, m24, m23, m17, m16] w60 w64 → R (Ending.returned (Value.bool false)) w64)) ∧ (x27 ≠ 2 → ∀ (w65 : World), RowKit.Below w.heap.size w
    w65 → Kept [m77, m66, m65, m54, m53, m52, m51, m50, m49, m36, m35, m24, m23, m17, m16] w60 w65 → R (Ending.returned (Value.bool false)) w65)) ∧ (t7 = false → ∀ (w66 : World),
    RowKit.Below w.heap.size w w66 → Kept [m77, m66, m65, m54, m53, m52, m51, m50, m49, m36, m35, m24, m23, m17, m16] w60 w66 → R (Ending.returned (Value.bool false)) w66)) ∧ (t6 =
    false → ∀ (w67 : World), RowKit.Below w.heap.size w w67 → Kept [m77, m66, m65, m54, m53, m52, m51, m50, m49, m36, m35, m24, m23, m17, m16] w58 w67 → R (Ending.returned
    (Value.bool false)) w67)) ∧ (t5 = false → ∀ (w68 : World), RowKit.Below w.heap.size w w68 → Kept [m77, m66, m65, m54, m53, m52, m51, m50, m49, m36, m35, m24, m23, m17, m16] w56
    w68 → R (Ending.returned (Value.bool false)) w68)) ∧ (t4 = false → ∀ (w69 : World), RowKit.Below w.heap.size w w69 → Kept [m77, m66, m65, m54, m53, m52, m51, m50, m49, m36,
    m35, m24, m23, m17, m16] w52 w69 → R (Ending.returned (Value.bool false)) w69)) ∧ (t3 = false → ∀ (w70 : World), RowKit.Below w.heap.size w w70 → Kept [m77, m66, m65, m54, m53,
    m52, m51, m50, m49, m36, m35, m24, m23, m17, m16] w48 w70 → R (Ending.returned (Value.bool false)) w70))) : Calls Try.prog 14 #[] w R := calls_of_vcj (pure := true) (wrapAt :=
    []) (muts := []) (esc := []) (joins := [(2000008, [(129, 4)])]) (args := []) (vs := []) Try.func14 rfl rfl rfl (Eq.mp (by kernel_rfl) h) 
end Go.Proofs
end
section
/- The example of the laws. -/
namespace Go.Proofs.R12
open Go.Vc Go.RowKit Go.Proofs

def oneW : Wk := ⟨[[(1000, 1010)], [(990, 998)]], [⟨0, 0, 1, 0, (2, 15)⟩]⟩
theorem oneW_ok : OkW oneW := by decide +kernel
theorem oneW_small : Small oneW := ⟨by decide, by decide, by decide⟩

set_option maxRecDepth 100000 in
theorem one_l {w : World} : Calls Try.prog 45 #[] w fun e w' => ∃ pa pc fa fc, e = .returned (oneW.v pa pc fa fc) ∧ Below w.heap.size w w' ∧ LiesS w.heap.size w'.heap.size w' pa oneW.pats ∧ Lies [] w.heap.size w'.heap.size w' fa (fitsV oneW.fits) := by
  refine vc45 w _ fun m1 g1 w1 hb1 hk1 => Pure.calls (span_any _ _) fun w2 hd2 => ⟨_, _, rfl, .all hd2, fun m3 g3 w3 hb3 hk3 => Pure.calls (span_any _ _) fun w4 hd4 => ⟨_, _, rfl, .all hd4, fun m5 g5 m6 g6 w5 hb5 hk5 => Pure.calls (span_any _ _) fun w6 hd6 => ⟨_, _, rfl, .all hd6, fun m8 g8 w7 hb7 hk7 h6 h8 h3 h5 => ?_⟩⟩⟩
  have z2 := hb1.size
  have z3 := hb3.size
  have z4 := hb5.size
  have y2 := hd2.size
  have y4 := hd4.size
  have y6 := hd6.size
  have l3 := lt_of_some h3
  have l5 := lt_of_some h5
  have l6 := lt_of_some h6
  have l8 := lt_of_some h8
  have lies : ∀ {b : Nat} {vs : List Value}, w.heap.size ≤ b → b < w7.heap.size → Cells w7 (some ⟨b, 0, none⟩) vs → Lies [] w.heap.size w7.heap.size w7 (some ⟨b, 0, none⟩) vs := fun {b vs} h1 h2 hc i v hi => by
    obtain ⟨b', o', e, hcell⟩ := hc i v hi
    simp only [Option.some.injEq, Addr.mk.injEq, and_true] at e
    obtain ⟨rfl, rfl⟩ := e
    exact ⟨_, _, rfl, ⟨by simp, h1, h2⟩, hcell⟩
  refine ⟨some ⟨m6, 0, none⟩, 2, some ⟨m8, 0, none⟩, 1, rfl, hb7, fun i p hi => ?_, ?_⟩
  · match i, hi with
    | 0, hi =>
      obtain rfl := Option.some.inj hi
      exact ⟨m6, 0, some ⟨m3, 0, none⟩, 1, rfl, ⟨by omega, l6⟩, cell_obj (vs := [.slice (some ⟨m3, 0, none⟩) 1 1, .slice (some ⟨m5, 0, none⟩) 1 1]) h6 rfl, lies (by omega) l3 (Cells.obj (vs := spansV [(1000, 1010)]) h3)⟩
    | 1, hi =>
      obtain rfl := Option.some.inj hi
      exact ⟨m6, 0, some ⟨m5, 0, none⟩, 1, rfl, ⟨by omega, l6⟩, cell_obj (vs := [.slice (some ⟨m3, 0, none⟩) 1 1, .slice (some ⟨m5, 0, none⟩) 1 1]) h6 rfl, lies (by omega) l5 (Cells.obj (vs := spansV [(990, 998)]) h5)⟩
    | j + 2, hi => simp [oneW] at hi
  · exact lies (by omega) l8 (Cells.obj (vs := fitsV oneW.fits) h8)
end Go.Proofs.R12
end
section
/- What the example's calls return. -/
namespace Go.Proofs.R12
open Go.Vc Go.RowKit Go.Proofs

def kH : List Int := [1000, 1012, 1001]
def kS : List Int := [999, 995, 1003]
def lH : List Int := [1000, 1030, 1001]
def lS : List Int := [995, 996, 997]
theorem ex_gauge : gaugeM oneW 0 0 (-2, 1) = ((1001, 1008), (998, 1011), 0) := by decide +kernel
theorem ex_loose : LooseM oneW = [⟨0, 1006, 990⟩] := by decide +kernel
theorem ex_spares : SparesM (5, 9) [⟨10, 0, 20⟩] [3, 12] = ([20, 10], 0) := by decide +kernel
theorem ex_good : GoodM oneW ⟨1, [998]⟩ = (true, 0) := by decide +kernel
theorem ex_box : boxE oneW 0 kH kS = 0 := by decide +kernel
theorem ex_box2 : boxE oneW 0 lH lS = 0 := by decide +kernel
theorem ex_pair : pairM oneW 0 kH kS = [(0, 2), (1, 0), (2, 1)] := by decide +kernel
theorem ex_choose : chooseM oneW 1 [⟨0, [1010]⟩] [⟨1, [990]⟩, ⟨1, [996]⟩, ⟨1, [999]⟩] = ([1], 0) := by decide +kernel
theorem ex_pairK : pairK (fitOf oneW 0) lH lS = [(0, 0), (1, 2)] := by decide +kernel
theorem ex_lack : lackM oneW 0 lH lS = ([0, 1, 2], [0, 2]) := by
  have hp := ex_pairK
  have s2 : Short (fitOf oneW 0) lH lS [(0, 0), (1, 2)] 2 := .free (by decide) (by decide) (by decide)
  have s0 : Short (fitOf oneW 0) lH lS [(0, 0), (1, 2)] 0 := .next (h := 0) s2 (by decide) (by decide) (by decide +kernel) (by decide)
  have s1 : Short (fitOf oneW 0) lH lS [(0, 0), (1, 2)] 1 := .next (h := 2) s2 (by decide) (by decide) (by decide +kernel) (by decide)
  have f0 : FitS (fitOf oneW 0) lH lS [(0, 0), (1, 2)] 0 := ⟨by decide, 2, s2, by decide +kernel⟩
  have f2 : FitS (fitOf oneW 0) lH lS [(0, 0), (1, 2)] 2 := ⟨by decide, 2, s2, by decide +kernel⟩
  have ok : PsOk [(0, 0), (1, 2)] lS.length lH.length := by rw [← hp]; exact pairK_ok _ _ _
  have f1 : ¬ FitS (fitOf oneW 0) lH lS [(0, 0), (1, 2)] 1 := fun ⟨_, s, h1, h2⟩ => by
    obtain ⟨a, b⟩ := h1.in ok
    have : s = 0 ∨ s = 1 ∨ s = 2 := by simp only [lS, List.length_cons, List.length_nil] at b; omega
    rcases this with rfl | rfl | rfl <;> revert h2 <;> decide +kernel
  unfold lackM
  rw [if_pos ex_box2]
  unfold shortL fitL
  rw [hp]
  have i3 : idxs lS.length = [0, 1, 2] := rfl
  have i3' : idxs lH.length = [0, 1, 2] := rfl
  rw [i3, i3']
  simp [List.filter, s0, s1, s2, f0, f1, f2]
end Go.Proofs.R12
end
section
/- The example of the laws, checked. -/
namespace Go.Proofs.R12
open Go.Vc Go.RowKit Go.Proofs
theorem liesS_chg {lo hi : Nat} {w w' : World} {a : Option Addr} {ps : List (List Sp)} {S : List Nat} (h : LiesS lo hi w a ps) (hc : Chg S w w') (hs : ∀ x ∈ S, x < lo ∨ hi ≤ x) : CellsS w' a ps := fun i p hi => by
  obtain ⟨b, o, a', c, e, hb, h1, h2⟩ := h i p hi
  exact ⟨b, o, a', c, e, hc.cell (fun hm => by have := hs b hm; omega) h1, (h2.out hc hs).cells⟩
set_option maxRecDepth 100000 in
set_option maxHeartbeats 2000000 in
theorem known_any {w : World} : Calls Try.prog 14 #[] w (Pure w (.bool true)) := by
  refine vc14 w _ ?_
  intro w1 hb1 hk1
  have z1 := hk1.size
  have x1 := hb1.size
  have o1 := hk1.own
  simp only [List.not_mem_nil, false_implies, implies_true] at o1
  refine one_l.mono fun e1 w2 he => ?_
  obtain ⟨pa2, pc2, fa2, fc2, rfl, hd2, P2, F2⟩ := he
  have y2 := hd2.size
  refine ⟨_, _, _, _, _, _, rfl, .all hd2, ?_⟩
  intro w3 hb3 hk3
  have z3 := hk3.size
  have x3 := hb3.size
  have o3 := hk3.own
  simp only [List.not_mem_nil, false_implies, implies_true] at o3
  have PC3 : CellsS w3 pa2 oneW.pats := liesS_chg P2 (Chg.kept hk3) (by simp)
  have FC3 : Cells w3 fa2 (fitsV oneW.fits) := (F2.out (Chg.kept hk3) (by simp)).cells
  refine (Loose_l PC3 FC3 oneW_small).mono fun e2 w4 he => ?_
  rw [ex_loose, show checkE oneW = 0 from checkE_ok.2 oneW_ok] at he
  obtain ⟨aL, cL, rfl, hd4, D4⟩ := he
  have y4 := hd4.size
  refine ⟨_, _, _, _, rfl, .all hd4, ?_⟩
  intro w5 hb5 hk5
  have z5 := hk5.size
  have x5 := hb5.size
  have o5 := hk5.own
  simp only [List.not_mem_nil, false_implies, implies_true] at o5
  refine one_l.mono fun e3 w6 he => ?_
  obtain ⟨pa6, pc6, fa6, fc6, rfl, hd6, P6, F6⟩ := he
  have y6 := hd6.size
  refine ⟨_, _, _, _, _, _, rfl, .all hd6, ?_⟩
  intro w7 hb7 hk7
  have z7 := hk7.size
  have x7 := hb7.size
  have o7 := hk7.own
  simp only [List.not_mem_nil, false_implies, implies_true] at o7
  refine Pure.calls (span_any _ _) fun w8 hd8 => ⟨_, _, rfl, .all hd8, ?_⟩
  have y8 := hd8.size
  intro w9 hb9 hk9
  have z9 := hk9.size
  have x9 := hb9.size
  have o9 := hk9.own
  simp only [List.not_mem_nil, false_implies, implies_true] at o9
  have PC9 : CellsS w9 pa6 oneW.pats := liesS_chg P6 (((Chg.kept hk7).trans (Chg.of_below hd8)).trans (Chg.kept hk9)) (by simp)
  have FC9 : Cells w9 fa6 (fitsV oneW.fits) := (F6.out (((Chg.kept hk7).trans (Chg.of_below hd8)).trans (Chg.kept hk9)) (by simp)).cells
  refine Pure.calls (gauge_any 0 0 (-2, 1) PC9 FC9 oneW_small) fun w10 hd10 => ?_
  have y10 := hd10.size
  rw [ex_gauge]
  refine ⟨_, _, _, _, _, rfl, .all hd10, ?_⟩
  intro m16 g_m16
  intro m17 g_m17
  intro w11 hb11 hk11
  have z11 := hk11.size
  have x11 := hb11.size
  have o11 := hk11.own
  simp only [List.mem_cons, List.not_mem_nil, or_false, forall_eq_or_imp, forall_eq] at o11
  refine one_l.mono fun e6 w12 he => ?_
  obtain ⟨pa12, pc12, fa12, fc12, rfl, hd12, P12, F12⟩ := he
  have y12 := hd12.size
  refine ⟨_, _, _, _, _, _, rfl, .all hd12, ?_⟩
  intro m23 g_m23
  intro m24 g_m24
  intro w13 hb13 hk13 hc_m23 hc_m24
  have z13 := hk13.size
  have x13 := hb13.size
  have o13 := hk13.own
  simp only [List.mem_cons, List.not_mem_nil, or_false, forall_eq_or_imp, forall_eq] at o13
  have PC13 : CellsS w13 pa12 oneW.pats := liesS_chg P12 (Chg.kept hk13) (by simp only [List.mem_cons, List.not_mem_nil, or_false, forall_eq_or_imp, forall_eq]; omega)
  have FC13 : Cells w13 fa12 (fitsV oneW.fits) := (F12.out (Chg.kept hk13) (by simp only [List.mem_cons, List.not_mem_nil, or_false, forall_eq_or_imp, forall_eq]; omega)).cells
  refine (Pair_l (n := 0) (H := kH) (S := kS) PC13 FC13 oneW_small (Cells.obj (vs := ints kH) hc_m23) (Cells.obj (vs := ints kS) hc_m24) (by decide) (by decide) (fun _ => by decide)).mono fun e7 w14 he => ?_
  rw [ex_pair, ex_box] at he
  obtain ⟨aP, cP, rfl, hd14, D14⟩ := he
  have y14 := hd14.size
  refine ⟨_, _, _, _, rfl, .all hd14, ?_⟩
  intro w15 hb15 hk15
  have z15 := hk15.size
  have x15 := hb15.size
  have o15 := hk15.own
  simp only [List.mem_cons, List.not_mem_nil, or_false, forall_eq_or_imp, forall_eq] at o15
  refine one_l.mono fun e8 w16 he => ?_
  obtain ⟨pa16, pc16, fa16, fc16, rfl, hd16, P16, F16⟩ := he
  have y16 := hd16.size
  refine ⟨_, _, _, _, _, _, rfl, .all hd16, ?_⟩
  intro m35 g_m35
  intro m36 g_m36
  intro w17 hb17 hk17 hc_m35 hc_m36
  have z17 := hk17.size
  have x17 := hb17.size
  have o17 := hk17.own
  simp only [List.mem_cons, List.not_mem_nil, or_false, forall_eq_or_imp, forall_eq] at o17
  have PC17 : CellsS w17 pa16 oneW.pats := liesS_chg P16 (Chg.kept hk17) (by simp only [List.mem_cons, List.not_mem_nil, or_false, forall_eq_or_imp, forall_eq]; omega)
  have FC17 : Cells w17 fa16 (fitsV oneW.fits) := (F16.out (Chg.kept hk17) (by simp only [List.mem_cons, List.not_mem_nil, or_false, forall_eq_or_imp, forall_eq]; omega)).cells
  refine (Lack_l (n := 0) (H := lH) (S := lS) PC17 FC17 oneW_small (Cells.obj (vs := ints lH) hc_m35) (Cells.obj (vs := ints lS) hc_m36) (by decide) (by decide) (fun _ => by decide)).mono fun e9 w18 he => ?_
  rw [ex_lack, ex_box2] at he
  obtain ⟨aF, cF, aA, cA, rfl, hd18, D18, E18⟩ := he
  have y18 := hd18.size
  refine ⟨_, _, _, _, _, _, _, rfl, .all hd18, ?_⟩
  intro w19 hb19 hk19
  have z19 := hk19.size
  have x19 := hb19.size
  have o19 := hk19.own
  simp only [List.mem_cons, List.not_mem_nil, or_false, forall_eq_or_imp, forall_eq] at o19
  refine one_l.mono fun e10 w20 he => ?_
  obtain ⟨pa20, pc20, fa20, fc20, rfl, hd20, P20, F20⟩ := he
  have y20 := hd20.size
  refine ⟨_, _, _, _, _, _, rfl, .all hd20, ?_⟩
  intro m49 g_m49
  intro m50 g_m50
  intro m51 g_m51
  intro m52 g_m52
  intro m53 g_m53
  intro m54 g_m54
  intro w21 hb21 hk21 hc_m50 hc_m54 hc_m49 hc_m51 hc_m52 hc_m53
  have z21 := hk21.size
  have x21 := hb21.size
  have o21 := hk21.own
  simp only [List.mem_cons, List.not_mem_nil, or_false, forall_eq_or_imp, forall_eq] at o21
  have PC21 : CellsS w21 pa20 oneW.pats := liesS_chg P20 (Chg.kept hk21) (by simp only [List.mem_cons, List.not_mem_nil, or_false, forall_eq_or_imp, forall_eq]; omega)
  have FC21 : Cells w21 fa20 (fitsV oneW.fits) := (F20.out (Chg.kept hk21) (by simp only [List.mem_cons, List.not_mem_nil, or_false, forall_eq_or_imp, forall_eq]; omega)).cells
  have KC : CellsP w21 (some ⟨m50, 0, none⟩) [⟨0, [1010]⟩] := fun i p hi => by
    match i, hi with
    | 0, hi =>
      obtain rfl := Option.some.inj hi
      exact ⟨m50, 0, some ⟨m49, 0, none⟩, 1, rfl, cell_obj (vs := [I 0, .slice (some ⟨m49, 0, none⟩) 1 1]) hc_m50 rfl, cell_obj (vs := [I 0, .slice (some ⟨m49, 0, none⟩) 1 1]) hc_m50 rfl, Cells.obj (vs := ints [1010]) hc_m49⟩
    | j + 1, hi => simp at hi
  have KT : CellsP w21 (some ⟨m54, 0, none⟩) [⟨1, [990]⟩, ⟨1, [996]⟩, ⟨1, [999]⟩] := fun i p hi => by
    match i, hi with
    | 0, hi =>
      obtain rfl := Option.some.inj hi
      exact ⟨m54, 0, some ⟨m51, 0, none⟩, 1, rfl, cell_obj (vs := [I 1, .slice (some ⟨m51, 0, none⟩) 1 1, I 1, .slice (some ⟨m52, 0, none⟩) 1 1, I 1, .slice (some ⟨m53, 0, none⟩) 1 1]) hc_m54 rfl, cell_obj (vs := [I 1, .slice (some ⟨m51, 0, none⟩) 1 1, I 1, .slice (some ⟨m52, 0, none⟩) 1 1, I 1, .slice (some ⟨m53, 0, none⟩) 1 1]) hc_m54 rfl, Cells.obj (vs := ints [990]) hc_m51⟩
    | 1, hi =>
      obtain rfl := Option.some.inj hi
      exact ⟨m54, 0, some ⟨m52, 0, none⟩, 1, rfl, cell_obj (vs := [I 1, .slice (some ⟨m51, 0, none⟩) 1 1, I 1, .slice (some ⟨m52, 0, none⟩) 1 1, I 1, .slice (some ⟨m53, 0, none⟩) 1 1]) hc_m54 rfl, cell_obj (vs := [I 1, .slice (some ⟨m51, 0, none⟩) 1 1, I 1, .slice (some ⟨m52, 0, none⟩) 1 1, I 1, .slice (some ⟨m53, 0, none⟩) 1 1]) hc_m54 rfl, Cells.obj (vs := ints [996]) hc_m52⟩
    | 2, hi =>
      obtain rfl := Option.some.inj hi
      exact ⟨m54, 0, some ⟨m53, 0, none⟩, 1, rfl, cell_obj (vs := [I 1, .slice (some ⟨m51, 0, none⟩) 1 1, I 1, .slice (some ⟨m52, 0, none⟩) 1 1, I 1, .slice (some ⟨m53, 0, none⟩) 1 1]) hc_m54 rfl, cell_obj (vs := [I 1, .slice (some ⟨m51, 0, none⟩) 1 1, I 1, .slice (some ⟨m52, 0, none⟩) 1 1, I 1, .slice (some ⟨m53, 0, none⟩) 1 1]) hc_m54 rfl, Cells.obj (vs := ints [999]) hc_m53⟩
    | j + 3, hi => simp at hi
  refine (Choose_l (p := 1) (C := [⟨0, [1010]⟩]) (St := [⟨1, [990]⟩, ⟨1, [996]⟩, ⟨1, [999]⟩]) PC21 FC21 oneW_small KC KT (by decide) (by decide) (by decide) (by decide)).mono fun e11 w22 he => ?_
  unfold PureL at he
  rw [ex_choose] at he
  obtain ⟨aC, cC, rfl, hd22, D22⟩ := he
  have y22 := hd22.size
  refine ⟨_, _, _, _, rfl, .all hd22, ?_⟩
  intro w23 hb23 hk23
  have z23 := hk23.size
  have x23 := hb23.size
  have o23 := hk23.own
  simp only [List.mem_cons, List.not_mem_nil, or_false, forall_eq_or_imp, forall_eq] at o23
  refine Pure.calls (span_any _ _) fun w24 hd24 => ⟨_, _, rfl, .all hd24, ?_⟩
  have y24 := hd24.size
  intro m65 g_m65
  intro m66 g_m66
  intro w25 hb25 hk25 hc_m65 hc_m66
  have z25 := hk25.size
  have x25 := hb25.size
  have o25 := hk25.own
  simp only [List.mem_cons, List.not_mem_nil, or_false, forall_eq_or_imp, forall_eq] at o25
  refine (spares_l (5, 9) (l := [⟨10, 0, 20⟩]) (orders := [3, 12]) (Cells.obj (vs := consV [⟨10, 0, 20⟩]) hc_m65) (Cells.obj (vs := ints [3, 12]) hc_m66) (by decide) (by decide) (by decide)).mono fun e13 w26 he => ?_
  rw [ex_spares] at he
  obtain ⟨aS, cS, rfl, hd26, D26⟩ := he
  have y26 := hd26.size
  refine ⟨_, _, _, _, rfl, .all hd26, ?_⟩
  intro w27 hb27 hk27
  have z27 := hk27.size
  have x27 := hb27.size
  have o27 := hk27.own
  simp only [List.mem_cons, List.not_mem_nil, or_false, forall_eq_or_imp, forall_eq] at o27
  refine one_l.mono fun e14 w28 he => ?_
  obtain ⟨pa28, pc28, fa28, fc28, rfl, hd28, P28, F28⟩ := he
  have y28 := hd28.size
  refine ⟨_, _, _, _, _, _, rfl, .all hd28, ?_⟩
  intro m77 g_m77
  intro w29 hb29 hk29 hc_m77
  have z29 := hk29.size
  have x29 := hb29.size
  have o29 := hk29.own
  simp only [List.mem_cons, List.not_mem_nil, or_false, forall_eq_or_imp, forall_eq] at o29
  have PC29 : CellsS w29 pa28 oneW.pats := liesS_chg P28 (Chg.kept hk29) (by simp only [List.mem_cons, List.not_mem_nil, or_false, forall_eq_or_imp, forall_eq]; omega)
  have FC29 : Cells w29 fa28 (fitsV oneW.fits) := (F28.out (Chg.kept hk29) (by simp only [List.mem_cons, List.not_mem_nil, or_false, forall_eq_or_imp, forall_eq]; omega)).cells
  refine Pure.calls (Good_any ⟨1, [998]⟩ (Cells.obj (vs := ints [998]) hc_m77) (by decide) PC29 FC29 oneW_small) fun w30 hd30 => ?_
  have y30 := hd30.size
  rw [ex_good]
  refine ⟨_, _, rfl, .all hd30, ?_⟩
  have hs : ∀ {own : List Nat} {u v : World}, Kept own u v → (∀ x ∈ own, x ∈ [m77, m66, m65, m54, m53, m52, m51, m50, m49, m36, m35, m24, m23, m17, m16]) → Chg [m77, m66, m65, m54, m53, m52, m51, m50, m49, m36, m35, m24, m23, m17, m16] u v := fun hk h => (Chg.kept hk).mono fun x hx => .inl (h x hx)
  have hbl : ∀ {u v : World}, Below u.heap.size u v → Chg [m77, m66, m65, m54, m53, m52, m51, m50, m49, m36, m35, m24, m23, m17, m16] u v := fun h => Chg.of_below h
  have C4_14 : Chg [m77, m66, m65, m54, m53, m52, m51, m50, m49, m36, m35, m24, m23, m17, m16] w4 w14 := ((hs hk5 (by simp)).trans ((hbl hd6).trans ((hs hk7 (by simp)).trans ((hbl hd8).trans ((hs hk9 (by simp)).trans ((hbl hd10).trans ((hs hk11 (by simp)).trans ((hbl hd12).trans ((hs hk13 (by simp)).trans (hbl hd14))))))))))
  have C14_18 : Chg [m77, m66, m65, m54, m53, m52, m51, m50, m49, m36, m35, m24, m23, m17, m16] w14 w18 := ((hs hk15 (by simp)).trans ((hbl hd16).trans ((hs hk17 (by simp)).trans (hbl hd18))))
  have C18_22 : Chg [m77, m66, m65, m54, m53, m52, m51, m50, m49, m36, m35, m24, m23, m17, m16] w18 w22 := ((hs hk19 (by simp)).trans ((hbl hd20).trans ((hs hk21 (by simp)).trans (hbl hd22))))
  have C22_26 : Chg [m77, m66, m65, m54, m53, m52, m51, m50, m49, m36, m35, m24, m23, m17, m16] w22 w26 := ((hs hk23 (by simp)).trans ((hbl hd24).trans ((hs hk25 (by simp)).trans (hbl hd26))))
  have C26_30 : Chg [m77, m66, m65, m54, m53, m52, m51, m50, m49, m36, m35, m24, m23, m17, m16] w26 w30 := ((hs hk27 (by simp)).trans ((hbl hd28).trans ((hs hk29 (by simp)).trans (hbl hd30))))
  have D30 := D26.out C26_30 (by simp only [List.mem_cons, List.not_mem_nil, or_false, forall_eq_or_imp, forall_eq]; omega)
  have DC30 := (D22.out C22_26 (by simp only [List.mem_cons, List.not_mem_nil, or_false, forall_eq_or_imp, forall_eq]; omega)).out C26_30 (by simp only [List.mem_cons, List.not_mem_nil, or_false, forall_eq_or_imp, forall_eq]; omega)
  have DA30 := ((E18.out C18_22 (by simp only [List.mem_cons, List.not_mem_nil, or_false, forall_eq_or_imp, forall_eq]; omega)).out C22_26 (by simp only [List.mem_cons, List.not_mem_nil, or_false, forall_eq_or_imp, forall_eq]; omega)).out C26_30 (by simp only [List.mem_cons, List.not_mem_nil, or_false, forall_eq_or_imp, forall_eq]; omega)
  have DP30 := (((D14.out C14_18 (by simp only [List.mem_cons, List.not_mem_nil, or_false, forall_eq_or_imp, forall_eq]; omega)).out C18_22 (by simp only [List.mem_cons, List.not_mem_nil, or_false, forall_eq_or_imp, forall_eq]; omega)).out C22_26 (by simp only [List.mem_cons, List.not_mem_nil, or_false, forall_eq_or_imp, forall_eq]; omega)).out C26_30 (by simp only [List.mem_cons, List.not_mem_nil, or_false, forall_eq_or_imp, forall_eq]; omega)
  have DL30 := ((((D4.out C4_14 (by simp only [List.mem_cons, List.not_mem_nil, or_false, forall_eq_or_imp, forall_eq]; omega)).out C14_18 (by simp only [List.mem_cons, List.not_mem_nil, or_false, forall_eq_or_imp, forall_eq]; omega)).out C18_22 (by simp only [List.mem_cons, List.not_mem_nil, or_false, forall_eq_or_imp, forall_eq]; omega)).out C22_26 (by simp only [List.mem_cons, List.not_mem_nil, or_false, forall_eq_or_imp, forall_eq]; omega)).out C26_30 (by simp only [List.mem_cons, List.not_mem_nil, or_false, forall_eq_or_imp, forall_eq]; omega)
  refine ⟨fun ls w' => match ls with | [.bool t] => t = false ∧ Chg [m77, m66, m65, m54, m53, m52, m51, m50, m49, m36, m35, m24, m23, m17, m16] w30 w' | _ => False, ⟨fun h => absurd rfl h, fun _ => ⟨fun h => absurd rfl h, fun _ => ⟨fun h => absurd rfl h, fun _ => ⟨fun h => absurd rfl h, fun _ => ⟨fun h => absurd rfl h, fun _ => ⟨fun h => absurd rfl h, fun _ => ⟨fun h => absurd rfl h, fun _ => ⟨fun h => absurd rfl h, fun _ => ⟨fun h => absurd rfl h, fun _ => ⟨fun h => absurd rfl h, fun _ => ⟨fun h => absurd rfl h, fun _ => ⟨fun h => absurd rfl h, fun _ => fun w44 hb44 hk44 => ⟨rfl, hs hk44 (fun _ h => h)⟩⟩⟩⟩⟩⟩⟩⟩⟩⟩⟩⟩⟩, ?_⟩
  rintro t2 w45 hb45 ⟨rfl, c45⟩
  refine ⟨fun h => (by cases h), fun _ => ?_⟩
  have z45 := c45.size
  have D45 := D30.out c45 (by simp only [List.mem_cons, List.not_mem_nil, or_false, forall_eq_or_imp, forall_eq]; omega)
  have DC45 := DC30.out c45 (by simp only [List.mem_cons, List.not_mem_nil, or_false, forall_eq_or_imp, forall_eq]; omega)
  have DA45 := DA30.out c45 (by simp only [List.mem_cons, List.not_mem_nil, or_false, forall_eq_or_imp, forall_eq]; omega)
  have DP45 := DP30.out c45 (by simp only [List.mem_cons, List.not_mem_nil, or_false, forall_eq_or_imp, forall_eq]; omega)
  have DL45 := DL30.out c45 (by simp only [List.mem_cons, List.not_mem_nil, or_false, forall_eq_or_imp, forall_eq]; omega)
  obtain ⟨b1, p1, rfl, ⟨_, l1, h1⟩, q1⟩ := DL45 0 _ rfl
  refine ⟨b1, p1, rfl, ⟨by omega, by decide⟩, 0, 1006, 990, cell_at' q1 (by simp), cell_at' (DL45.at (i := 1) rfl).2 (by simp), cell_at' (DL45.at (i := 2) rfl).2 (by simp), .inr ⟨by omega, by omega, by omega, by omega, by omega, by omega, by omega, by omega, by omega, by omega, by omega, by omega, by omega, by omega, by omega⟩, fun w47 hb47 hk47 => eqlr_gap ⟨true, rfl, .all (.refl _ _), fun _ => ?_, fun h => (by cases h)⟩⟩
  intro w49 hb49 hk49
  refine Pure.calls (span_any _ _) fun w50 hd50 => ⟨_, _, rfl, .all hd50, fun w51 hb51 hk51 => eqlr_span ⟨true, rfl, .all (.refl _ _), fun _ => ?_, fun h => (by cases h)⟩⟩
  intro w53 hb53 hk53
  refine Pure.calls (span_any _ _) fun w54 hd54 => ⟨_, _, rfl, .all hd54, fun w55 hb55 hk55 => eqlr_span ⟨true, rfl, .all (.refl _ _), fun _ => ?_, fun h => (by cases h)⟩⟩
  have c55 : Chg [m77, m66, m65, m54, m53, m52, m51, m50, m49, m36, m35, m24, m23, m17, m16] w45 w55 := hk47.chg.trans (hk49.chg.trans ((hbl hd50).trans (hk51.chg.trans (hk53.chg.trans ((hbl hd54).trans hk55.chg)))))
  have D55 := D45.out c55 (by simp only [List.mem_cons, List.not_mem_nil, or_false, forall_eq_or_imp, forall_eq]; omega)
  have DC55 := DC45.out c55 (by simp only [List.mem_cons, List.not_mem_nil, or_false, forall_eq_or_imp, forall_eq]; omega)
  have DA55 := DA45.out c55 (by simp only [List.mem_cons, List.not_mem_nil, or_false, forall_eq_or_imp, forall_eq]; omega)
  have DP55 := DP45.out c55 (by simp only [List.mem_cons, List.not_mem_nil, or_false, forall_eq_or_imp, forall_eq]; omega)
  obtain ⟨b2, p2, rfl, ⟨_, l2, h2⟩, q2⟩ := DP55 0 _ rfl
  refine ⟨b2, p2, rfl, ⟨by omega, by decide⟩, 0, 2, cell_at' q2 (by simp), cell_at' (DP55.at (i := 1) rfl).2 (by simp), .inr ⟨by omega, by omega, by omega, by omega, by omega, by omega, by omega, by omega, by omega, by omega, by omega, by omega, by omega, by omega, by omega⟩, fun w57 hb57 hk57 => ⟨.bool true, w57, by kernel_rfl, true, rfl, .all (.refl _ _), fun _ => ?_, fun h => (by cases h)⟩⟩
  have DP57 := DP55.out hk57.chg (by simp only [List.mem_cons, List.not_mem_nil, or_false, forall_eq_or_imp, forall_eq]; omega)
  refine ⟨b2, p2, rfl, ⟨by omega, by decide⟩, 2, 1, cell_at' (DP57.at (i := 4) rfl).2 (by simp), cell_at' (DP57.at (i := 5) rfl).2 (by simp), .inr ⟨by omega, by omega, by omega, by omega, by omega, by omega, by omega, by omega, by omega, by omega, by omega, by omega, by omega, by omega, by omega⟩, fun w59 hb59 hk59 => ⟨.bool true, w59, by kernel_rfl, true, rfl, .all (.refl _ _), fun _ => ?_, fun h => (by cases h)⟩⟩
  have D59 := (D55.out hk57.chg (by simp only [List.mem_cons, List.not_mem_nil, or_false, forall_eq_or_imp, forall_eq]; omega)).out hk59.chg (by simp only [List.mem_cons, List.not_mem_nil, or_false, forall_eq_or_imp, forall_eq]; omega)
  have DC59 := (DC55.out hk57.chg (by simp only [List.mem_cons, List.not_mem_nil, or_false, forall_eq_or_imp, forall_eq]; omega)).out hk59.chg (by simp only [List.mem_cons, List.not_mem_nil, or_false, forall_eq_or_imp, forall_eq]; omega)
  have DA59 := (DA55.out hk57.chg (by simp only [List.mem_cons, List.not_mem_nil, or_false, forall_eq_or_imp, forall_eq]; omega)).out hk59.chg (by simp only [List.mem_cons, List.not_mem_nil, or_false, forall_eq_or_imp, forall_eq]; omega)
  obtain ⟨b3, p3, rfl, ⟨_, l3, h3⟩, q3⟩ := DA59 0 _ rfl
  obtain ⟨b4, p4, rfl, ⟨_, l4, h4⟩, q4⟩ := DC59 0 _ rfl
  obtain ⟨b5, p5, rfl, ⟨_, l5, h5⟩, q5⟩ := D59 0 _ rfl
  refine ⟨b3, p3, rfl, ⟨by omega, by decide⟩, 2, cell_at' (DA59.at (i := 1) rfl).2 (by simp), .inr ⟨by omega, by omega, by omega, by omega, by omega, by omega, by omega, by omega, by omega, by omega, by omega, by omega, by omega, by omega, by omega⟩, fun _ => ?_, fun h => absurd rfl h⟩
  refine ⟨b4, p4, rfl, ⟨by omega, by decide⟩, 1, cell_at' q4 (by simp), .inr ⟨by omega, by omega, by omega, by omega, by omega, by omega, by omega, by omega, by omega, by omega, by omega, by omega, by omega, by omega, by omega⟩, fun _ => ?_, fun h => absurd rfl h⟩
  refine ⟨b5, p5, rfl, ⟨by omega, by decide⟩, 20, cell_at' q5 (by simp), .inr ⟨by omega, by omega, by omega, by omega, by omega, by omega, by omega, by omega, by omega, by omega, by omega, by omega, by omega, by omega, by omega⟩, fun _ => ?_, fun h => absurd rfl h⟩
  refine ⟨b5, p5, rfl, ⟨by omega, by decide⟩, 10, cell_at' (D59.at (i := 1) rfl).2 (by simp), .inr ⟨by omega, by omega, by omega, by omega, by omega, by omega, by omega, by omega, by omega, by omega, by omega, by omega, by omega, by omega, by omega⟩, fun _ w61 hb61 _ => ⟨rfl, hb61⟩, fun h => absurd rfl h⟩
end Go.Proofs.R12
end
section
/- The conditions of the functions, printed by program; each is what the generator reckons (kernel_rfl). -/
namespace Go.Proofs
open Go.Vc
end Go.Proofs
end
section
/- The law PartSpares, walked. -/
namespace Go.Proofs.R12
open Go.Vc Go.RowKit Go.Proofs
end Go.Proofs.R12
end
section
/- The laws' arguments, opened. -/
namespace Go.Proofs.R12
open Go.Vc Go.RowKit Go.Proofs

theorem Try.own : ownKnob Try.prog.godebug = none := by kernel_rfl
theorem Try.laidOut : laidOutB Try.prog = true := by kernel_rfl
abbrev Li : Leaf := .int .i64
def In64 (x : Int) : Prop := rng .i64 x
section
variable {w : World}
theorem take_int {ls : List Leaf} {cs : List Value} (h : LeavesAre w (Li :: ls) cs) : ∃ x r, cs = I x :: r ∧ In64 x ∧ LeavesAre w ls r := by
  obtain ⟨v, r, rfl, h1, h2⟩ := h.cons'
  obtain ⟨x, rfl, hx⟩ := h1.int'
  exact ⟨x, r, rfl, hx, h2⟩
theorem ints_flat (l : List Int) : (l.flatMap fun x => [I x]) = ints l := by
  induction l with
  | nil => rfl
  | cons b l ih => rw [List.flatMap_cons, ih]; rfl
end
section
variable {w : World} {H : Type} {enc : TypeId × Value → H} {base b0 : Nat} {held : Bool} {spare : Nat → Bool} {reach : Reach}
end
end Go.Proofs.R12
end
section
/- The laws PartLooses and PartGauges, walked. -/
namespace Go.Proofs.R12
open Go.Vc Go.RowKit Go.Proofs
theorem LiesS.out {lo hi : Nat} {w w' : World} {a : Option Addr} {ps : List (List Sp)} {S : List Nat} (h : LiesS lo hi w a ps) (hc : Chg S w w') (hs : ∀ x ∈ S, x < lo ∨ hi ≤ x) : LiesS lo hi w' a ps := fun i p hi => by
  obtain ⟨b, o, a', c, e, hb, h1, h2⟩ := h i p hi
  exact ⟨b, o, a', c, e, hb, hc.cell (fun hm => by have := hs b hm; omega) h1, h2.out hc hs⟩
theorem LiesS.ko {lo hi : Nat} {w w' : World} {a : Option Addr} {ps : List (List Sp)} {bs : List Nat} (h : LiesS lo hi w a ps) (hk : Kept bs w w') (hs : ∀ x ∈ bs, x < lo ∨ hi ≤ x) : LiesS lo hi w' a ps := h.out (Chg.kept hk) hs
theorem LiesS.below {lo hi : Nat} {w w' : World} {a : Option Addr} {ps : List (List Sp)} (h : LiesS lo hi w a ps) (hb : Below w.heap.size w w') : LiesS lo hi w' a ps := h.out (S := []) (Chg.of_below hb) (by simp)
theorem LiesP.out {lo hi : Nat} {w w' : World} {a : Option Addr} {ps : List Piece} {S : List Nat} (h : LiesP lo hi w a ps) (hc : Chg S w w') (hs : ∀ x ∈ S, x < lo ∨ hi ≤ x) : LiesP lo hi w' a ps := fun i p hi => by
  obtain ⟨b, o, a', c, e, hb, h0, h1, h2⟩ := h i p hi
  exact ⟨b, o, a', c, e, hb, hc.cell (fun hm => by have := hs b hm; omega) h0, hc.cell (fun hm => by have := hs b hm; omega) h1, h2.out hc hs⟩
theorem LiesP.ko {lo hi : Nat} {w w' : World} {a : Option Addr} {ps : List Piece} {bs : List Nat} (h : LiesP lo hi w a ps) (hk : Kept bs w w') (hs : ∀ x ∈ bs, x < lo ∨ hi ≤ x) : LiesP lo hi w' a ps := h.out (Chg.kept hk) hs
theorem LiesP.below {lo hi : Nat} {w w' : World} {a : Option Addr} {ps : List Piece} (h : LiesP lo hi w a ps) (hb : Below w.heap.size w w') : LiesP lo hi w' a ps := h.out (S := []) (Chg.of_below hb) (by simp)
theorem kio_cell {lo hi b o : Nat} {w w' : World} {rs : List (Nat × Nat)} {bs : List Nat} {v : Value} (hk : KeptIn rs bs w w') (hs : ∀ x ∈ bs, x < lo ∨ hi ≤ x) (hin : ∃ r ∈ rs, r.1 ≤ lo ∧ hi ≤ r.2) (hb : lo ≤ b ∧ b < hi) (hc : w.cell? ⟨b, o, none⟩ = some v) : w'.cell? ⟨b, o, none⟩ = some v := by
  obtain ⟨r, hr1, hr2, hr3⟩ := hin
  have := hk.block b (cell_lt hc) (fun hm => by have := hs b hm; omega) ⟨r, hr1, by omega, by omega⟩
  unfold World.cell? at hc ⊢
  simp only [this]; exact hc
theorem LiesS.kio {lo hi : Nat} {w w' : World} {a : Option Addr} {ps : List (List Sp)} {rs : List (Nat × Nat)} {bs : List Nat} (h : LiesS lo hi w a ps) (hk : KeptIn rs bs w w') (hs : ∀ x ∈ bs, x < lo ∨ hi ≤ x) (hin : ∃ r ∈ rs, r.1 ≤ lo ∧ hi ≤ r.2) : LiesS lo hi w' a ps := fun i p hi => by
  obtain ⟨b, o, a', c, e, hb, h1, h2⟩ := h i p hi
  exact ⟨b, o, a', c, e, hb, kio_cell hk hs hin hb h1, h2.kio hk hs hin⟩
theorem LiesP.kio {lo hi : Nat} {w w' : World} {a : Option Addr} {ps : List Piece} {rs : List (Nat × Nat)} {bs : List Nat} (h : LiesP lo hi w a ps) (hk : KeptIn rs bs w w') (hs : ∀ x ∈ bs, x < lo ∨ hi ≤ x) (hin : ∃ r ∈ rs, r.1 ≤ lo ∧ hi ≤ r.2) : LiesP lo hi w' a ps := fun i p hi => by
  obtain ⟨b, o, a', c, e, hb, h0, h1, h2⟩ := h i p hi
  exact ⟨b, o, a', c, e, hb, kio_cell hk hs hin hb h0, kio_cell hk hs hin hb h1, h2.kio hk hs hin⟩
theorem lim_small {W : Wk} (h : ¬¬ Lim W) : Small W := by
  have h := Decidable.not_not.1 h
  exact ⟨by have := h.1; omega, by have := h.2.1; omega, fun p hp => by have := h.2.2 p hp; omega⟩
end Go.Proofs.R12
end
section
/- The laws' arguments, opened: works, pieces. -/
namespace Go.Proofs.R12
open Go.Vc Go.RowKit Go.Proofs
theorem leaves_works : leaves Try.prog 7 25 = some [.sl [.sl [Li, Li]], .sl [Li, Li, Li, Li, Li, Li]] := by kernel_rfl
theorem agg_works : isAggB Try.prog 25 = true := by kernel_rfl
theorem agg_pieces : isAggB Try.prog 45 = false := by kernel_rfl
theorem agg_store : isAggB Try.prog 73 = true := by kernel_rfl
section
variable {w : World}
theorem flat_map1 {α : Type} {f : α → Value} (l : List α) : (l.flatMap fun y => [f y]) = l.map f := by
  induction l with
  | nil => rfl
  | cons a l ih => rw [List.flatMap_cons, ih]; rfl
theorem flat_one {α : Type} {f : α → Value} {l : List α} {i : Nat} {x : α} (h : l[i]? = some x) : (l.flatMap fun y => [f y])[i]? = some (f x) := by
  rw [flat_map1, List.getElem?_map, h]; rfl
theorem take_pats {v : Value} (h : LeafIs w (.sl [.sl [Li, Li]]) v) : ∃ a c, ∃ ps : List (List Sp), v = .slice a ps.length c ∧ ps.length ≤ maxLen ∧ CellsS w a ps := by
  obtain ⟨a, c, l, rfl, h1, h2, h3, h4⟩ := h.sl' (fun x : (Option Addr × Nat) × List Sp => [.slice x.1.1 x.2.length x.1.2]) (fun x => Cells w x.1.1 (spansV x.2)) fun x hx => by
    obtain ⟨v, r, rfl, g1, hx⟩ := hx.cons'
    rw [hx.nil']
    obtain ⟨a, c, l, rfl, k1, k2, k3, _⟩ := g1.sl' (fun s : Sp => [I s.1, I s.2]) (fun _ => True) fun x hx => by
      obtain ⟨x0, _, rfl, g0, hx⟩ := take_int hx
      obtain ⟨x1, _, rfl, g1, hx⟩ := take_int hx
      rw [hx.nil']
      exact ⟨(x0, x1), rfl, trivial⟩
    exact ⟨((a, c), l), rfl, k3⟩
  refine ⟨a, c, l.map (·.2), by rw [List.length_map], by rw [List.length_map]; omega, fun i p hi => ?_⟩
  rw [List.getElem?_map] at hi
  obtain ⟨x, hx, rfl⟩ := Option.map_eq_some_iff.1 hi
  obtain ⟨b, o, e, hc⟩ := h3 i _ (flat_one hx)
  exact ⟨b, o, _, _, e, hc, h4 x (List.mem_of_getElem? hx)⟩
theorem take_fits {v : Value} (h : LeafIs w (.sl [Li, Li, Li, Li, Li, Li]) v) : ∃ a c, ∃ l : List Fit, v = .slice a l.length c ∧ l.length ≤ maxLen ∧ Cells w a (fitsV l) := by
  obtain ⟨a, c, l, rfl, h1, h2, h3, _⟩ := h.sl' (fun f : Fit => f.cells) (fun _ => True) fun x hx => by
    obtain ⟨x0, _, rfl, g0, hx⟩ := take_int hx
    obtain ⟨x1, _, rfl, g1, hx⟩ := take_int hx
    obtain ⟨x2, _, rfl, g2, hx⟩ := take_int hx
    obtain ⟨x3, _, rfl, g3, hx⟩ := take_int hx
    obtain ⟨x4, _, rfl, g4, hx⟩ := take_int hx
    obtain ⟨x5, _, rfl, g5, hx⟩ := take_int hx
    rw [hx.nil']
    exact ⟨⟨x0, x1, x2, x3, (x4, x5)⟩, rfl, trivial⟩
  exact ⟨a, c, l, rfl, Nat.le_trans h1 h2, h3⟩
end
section
variable {w : World} {H : Type} {enc : TypeId × Value → H} {base b0 : Nat} {held : Bool} {spare : Nat → Bool} {reach : Reach}
set_option maxRecDepth 100000 in
theorem open_works {v : Value} {d : DataW H} {ps : List MemPlace} (hv : Value.okWide Try.prog w reach b0 25 v) (hd : DataW.Trod enc Try.prog w base spare held 25 v d ps) : ∃ W : Wk, ∃ pa pc fa fc, v = W.v pa pc fa fc ∧ CellsS w pa W.pats ∧ Cells w fa (fitsV W.fits) := by
  obtain ⟨cs, rfl, h⟩ := open_agg agg_works leaves_works hv hd
  obtain ⟨v0, r, rfl, h1, h⟩ := h.cons'
  obtain ⟨v1, r, rfl, h2, h⟩ := h.cons'
  rw [h.nil']
  obtain ⟨pa, pc, ps, rfl, _, hp⟩ := take_pats h1
  obtain ⟨fa, fc, fs, rfl, _, hf⟩ := take_fits h2
  exact ⟨⟨ps, fs⟩, pa, pc, fa, fc, rfl, hp, hf⟩
end
end Go.Proofs.R12
end
section
/- The laws' arguments, opened with the bytes that they take. -/
namespace Go.Proofs.R12
open Go.Vc Go.RowKit Go.Proofs
abbrev Lb : LeafB := .int .i64
theorem leavesB_pieces : leavesB Try.prog 7 45 = some [.sl 32 [Lb, .sl 8 [Lb]]] := by kernel_rfl
theorem leavesB_store : leavesB Try.prog 7 73 = some [Lb, .sl 32 [Lb, .sl 8 [Lb]]] := by kernel_rfl
section
variable {w : World}
theorem take_intB {ls : List LeafB} {cs : List Value} (h : LeavesAreB w (Lb :: ls) cs) : ∃ x r, cs = I x :: r ∧ In64 x ∧ LeavesAreB w ls r := by
  obtain ⟨v, r, rfl, h1, h2⟩ := h.cons'
  obtain ⟨x, rfl, hx⟩ := h1.int'
  exact ⟨x, r, rfl, hx, h2⟩
theorem take_intsB {v : Value} (h : LeafIsB w (.sl 8 [Lb]) v) : ∃ a c, ∃ l : List Int, v = .slice a l.length c ∧ l.length ≤ 17592186044000 ∧ Cells w a (ints l) := by
  obtain ⟨a, c, l, rfl, h1, h2, hb, h3, _⟩ := h.sl' (fun b : Int => [I b]) (fun _ => True) fun x hx => by
    obtain ⟨x0, r, rfl, g0, hx⟩ := take_intB hx
    rw [hx.nil']
    exact ⟨x0, rfl, trivial⟩
  refine ⟨a, c, l, rfl, by unfold reachBytes at hb; omega, ?_⟩
  rw [← ints_flat]
  exact h3
theorem take_piecesB {v : Value} (h : LeafIsB w (.sl 32 [Lb, .sl 8 [Lb]]) v) : ∃ a c, ∃ l : List Piece, v = .slice a l.length c ∧ (∀ x ∈ l, x.sizes.length ≤ 17592186044000) ∧ CellsP w a l := by
  obtain ⟨a, c, l, rfl, h1, h2, _, h3, h4⟩ := h.sl' (fun x : (Option Addr × Nat) × Piece => [I x.2.pat, .slice x.1.1 x.2.sizes.length x.1.2]) (fun x => Cells w x.1.1 (ints x.2.sizes) ∧ x.2.sizes.length ≤ 17592186044000) fun x hx => by
    obtain ⟨x0, _, rfl, g0, hx⟩ := take_intB hx
    obtain ⟨v, r, rfl, g1, hx⟩ := hx.cons'
    rw [hx.nil']
    obtain ⟨a, c, l, rfl, k1, k2⟩ := take_intsB g1
    exact ⟨((a, c), ⟨x0, l⟩), rfl, k2, k1⟩
  refine ⟨a, c, l.map (·.2), by rw [List.length_map], fun x hx => ?_, fun i p hi => ?_⟩
  · obtain ⟨y, hy, rfl⟩ := List.mem_map.1 hx
    exact (h4 y hy).2
  · rw [List.getElem?_map] at hi
    obtain ⟨x, hx, rfl⟩ := Option.map_eq_some_iff.1 hi
    obtain ⟨b, o, e, d0⟩ := h3 (i * 2 + 0) _ (flat_get (k := 2) (f := fun x : (Option Addr × Nat) × Piece => [I x.2.pat, .slice x.1.1 x.2.sizes.length x.1.2]) (fun _ => rfl) hx (by omega))
    obtain ⟨b1, o1, e1, d1⟩ := h3 (i * 2 + 1) _ (flat_get (k := 2) (f := fun x : (Option Addr × Nat) × Piece => [I x.2.pat, .slice x.1.1 x.2.sizes.length x.1.2]) (fun _ => rfl) hx (by omega))
    obtain ⟨rfl, rfl⟩ : b = b1 ∧ o = o1 := by rw [e] at e1; simpa using e1
    exact ⟨b, o, _, _, e, d0, d1, (h4 x (List.mem_of_getElem? hx)).1⟩
end
section
variable {w : World} {H : Type} {enc : TypeId × Value → H} {base b0 : Nat} {held : Bool} {spare : Nat → Bool} {reach : Reach}
set_option maxRecDepth 100000 in
theorem open_piecesB {v : Value} {d : DataW H} {ps : List MemPlace} (hv : Value.okWide Try.prog w reach b0 45 v) (hd : DataW.Trod enc Try.prog w base spare held 45 v d ps) (hw : ∀ z ∈ d.weights Try.prog 45, z ≤ reachBytes) : ∃ a c, ∃ l : List Piece, v = .slice a l.length c ∧ (∀ x ∈ l, x.sizes.length ≤ 17592186044000) ∧ CellsP w a l := take_piecesB (open_oneB agg_pieces leavesB_pieces hv hd hw)
set_option maxRecDepth 100000 in
theorem open_storeB {v : Value} {d : DataW H} {ps : List MemPlace} (hv : Value.okWide Try.prog w reach b0 73 v) (hd : DataW.Trod enc Try.prog w base spare held 73 v d ps) (hw : ∀ z ∈ d.weights Try.prog 73, z ≤ reachBytes) : ∃ x : Int, ∃ a c, ∃ l : List Piece, v = .agg #[I x, .slice a l.length c] ∧ (∀ x ∈ l, x.sizes.length ≤ 17592186044000) ∧ CellsP w a l := by
  obtain ⟨cs, rfl, h⟩ := open_aggB agg_store leavesB_store hv hd hw
  obtain ⟨x0, _, rfl, g0, h⟩ := take_intB h
  obtain ⟨v1, r, rfl, h1, h⟩ := h.cons'
  rw [h.nil']
  obtain ⟨a, c, l, rfl, k2, hc⟩ := take_piecesB h1
  exact ⟨x0, a, c, l, rfl, k2, hc⟩
end
end Go.Proofs.R12
end
section
/- The conditions of the functions, printed by program; each is what the generator reckons (kernel_rfl). -/
namespace Go.Proofs
open Go.Vc
set_option maxRecDepth 100000 in
set_option maxHeartbeats 2000000 in
theorem vc37 (p0w0a : Option Addr) (p0w0n : Nat) (p0w0c : Nat) (p0w1a : Option Addr) (p0w1n : Nat) (p0w1c : Nat) (clocka : Option Addr) (clockn : Nat) (clockc : Nat) (pattern :
    Int) (storea : Option Addr) (storen : Nat) (storec : Nat) (w : World) (R : Ending → World → Prop) (h : ∀ (m1 : Nat), w.heap.size ≤ m1 → ∀ (w1 : World), RowKit.Below w.heap.size
    w w1 → Kept [m1] w w1 → Calls Try.prog 19 #[Value.agg #[Value.slice p0w0a p0w0n p0w0c, Value.slice p0w1a p0w1n p0w1c]] w1 fun (e1 : Ending) (w2 : World) => ∃ (t1 : Bool), e1 =
    Ending.returned (Value.bool t1) ∧ KeepX true w.heap.size [m1] (fun _ => False) w1 w2 ∧ ((!t1) = true → ∀ (w3 : World), RowKit.Below w.heap.size w w3 → Kept [m1] w2 w3 → R
    (Ending.returned (Value.tuple #[Value.slice none 0 0, Value.int IntKind.i64 2])) w3) ∧ ((!t1) = false → (-9223372036854775808 ≤ (↑p0w0n : Int) - 1 ∧ (↑p0w0n : Int) - (1 : Int)
    ≤ 9223372036854775807) ∧ ∀ (w4 : World), RowKit.Below w.heap.size w w4 → Kept [m1] w2 w4 → Calls Try.prog 54 #[Value.int IntKind.i64 pattern, Value.int IntKind.i64 0, Value.int
    IntKind.i64 ((↑p0w0n : Int) - 1)] w4 fun (e2 : Ending) (w5 : World) => ∃ (t2 : Bool), e2 = Ending.returned (Value.bool t2) ∧ KeepX true w.heap.size [m1] (fun _ => False) w4 w5
    ∧ ((!t2) = true → ∀ (w6 : World), RowKit.Below w.heap.size w w6 → Kept [m1] w5 w6 → R (Ending.returned (Value.tuple #[Value.slice none 0 0, Value.int IntKind.i64 7])) w6) ∧
    ((!t2) = false → (20 < (↑clockn : Int) → ∀ (w7 : World), RowKit.Below w.heap.size w w7 → Kept [m1] w5 w7 → R (Ending.returned (Value.tuple #[Value.slice none 0 0, Value.int
    IntKind.i64 5])) w7) ∧ ((↑clockn : Int) ≤ 20 → (200 < (↑storen : Int) → ∀ (w8 : World), RowKit.Below w.heap.size w w8 → Kept [m1] w5 w8 → R (Ending.returned (Value.tuple
    #[Value.slice none 0 0, Value.int IntKind.i64 5])) w8) ∧ ((↑storen : Int) ≤ 200 → ∃ (F1 : List Lf → World → Prop), ∃ (F2 : List Lf → Nat), (∀ (w10 : World), RowKit.Below
    w.heap.size w w10 → Kept [m1] w5 w10 → F1 [Lf.sl none 0 0, Lf.int IntKind.i64 0, Lf.int IntKind.i64 0] w10) ∧ ∀ (a1 : Option Addr) (m4 m5 : Nat) (x1 x2 : Int) (w11 : World),
    RowKit.Below w.heap.size w w11 → F1 [Lf.sl a1 m4 m5, Lf.int IntKind.i64 x1, Lf.int IntKind.i64 x2] w11 → (x2 < (↑clockn : Int) → ∃ (m6 : Nat), ∃ (m7 : Nat), clocka = some
    { block := m6, off := m7 } ∧ (0 ≤ x2 ∧ x2 < (↑clockn : Int)) ∧ ∃ (x3 : Int), ∃ (a2 : Option Addr), ∃ (m8 : Nat), ∃ (m9 : Nat), w11.cell?
    { block := m6, off := m7 + x2.toNat * 2 } = some (Value.int IntKind.i64 x3) ∧ w11.cell? { block := m6, off := m7 + x2.toNat * 2 + 1 } = some (Value.slice a2 m8 m9) ∧ (m6 <
    w.heap.size ∨ m6 ≠ m1) ∧ ∀ (w12 : World), RowKit.Below w.heap.size w w12 → KeptIn [(0, w11.heap.size)] [m1] w11 w12 → Calls Try.prog 27 #[Value.agg #[Value.slice p0w0a p0w0n
    p0w0c, Value.slice p0w1a p0w1n p0w1c], Value.agg #[Value.int IntKind.i64 x3, Value.slice a2 m8 m9]] w12 fun (e3 : Ending) (w13 : World) => ∃ (x4 : Int), e3 = Ending.returned
    (Value.int IntKind.i64 x4) ∧ KeepX true w.heap.size [m1] (fun _ => False) w12 w13 ∧ (x4 ≠ 0 → ∀ (w14 : World), RowKit.Below w.heap.size w w14 → Kept [m1] w13 w14 → R
    (Ending.returned (Value.tuple #[Value.slice none 0 0, Value.int IntKind.i64 x4])) w14) ∧ (x4 = 0 → ∃ (F3 : List Lf → World → Prop), ∃ (F4 : List Lf → Nat), (∀ (w16 : World),
    RowKit.Below w.heap.size w w16 → Kept [m1] w13 w16 → F3 [Lf.sl a1 m4 m5, Lf.int IntKind.i64 x1, Lf.int IntKind.i64 0] w16) ∧ ∀ (a3 : Option Addr) (m11 m12 : Nat) (x5 x6 : Int)
    (w17 : World), RowKit.Below w.heap.size w w17 → F3 [Lf.sl a3 m11 m12, Lf.int IntKind.i64 x5, Lf.int IntKind.i64 x6] w17 → (x6 < x2 → ∃ (m13 : Nat), ∃ (m14 : Nat), clocka = some
    { block := m13, off := m14 } ∧ (0 ≤ x6 ∧ x6 < (↑clockn : Int)) ∧ ∃ (x7 : Int), w17.cell? { block := m13, off := m14 + x6.toNat * 2 + 0 } = some (Value.int IntKind.i64 x7) ∧
    (m13 < w.heap.size ∨ m13 ≠ m1) ∧ ∃ (m15 : Nat), ∃ (m16 : Nat), clocka = some { block := m15, off := m16 } ∧ (0 ≤ x2 ∧ x2 < (↑clockn : Int)) ∧ ∃ (x8 : Int), w17.cell?
    { block := m15, off := m16 + x2.toNat * 2 + 0 } = some (Value.int IntKind.i64 x8) ∧ (m15 < w.heap.size ∨ m15 ≠ m1) ∧ (x7 = x8 → ∀ (w18 : World), RowKit.Below w.heap.size w w18
    → Kept [m1] w17 w18 → R (Ending.returned (Value.tuple #[Value.slice none 0 0, Value.int IntKind.i64 6])) w18) ∧ (x7 ≠ x8 → (-9223372036854775808 ≤ x6 + 1 ∧ x6 + (1 : Int) ≤
    9223372036854775807) ∧ ∀ (w19 : World), RowKit.Below w.heap.size w w19 → Kept [m1] w17 w19 → F3 [Lf.sl a3 m11 m12, Lf.int IntKind.i64 x5, Lf.int IntKind.i64 (x6 + 1)] w19 ∧ F4
    [Lf.sl a3 m11 m12, Lf.int IntKind.i64 x5, Lf.int IntKind.i64 (x6 + 1)] < F4 [Lf.sl a3 m11 m12, Lf.int IntKind.i64 x5, Lf.int IntKind.i64 x6])) ∧ (x2 ≤ x6 →
    (-9223372036854775808 ≤ x2 + 1 ∧ x2 + (1 : Int) ≤ 9223372036854775807) ∧ ∀ (w20 : World), RowKit.Below w.heap.size w w20 → Kept [m1] w17 w20 → F1 [Lf.sl a3 m11 m12, Lf.int
    IntKind.i64 x5, Lf.int IntKind.i64 (x2 + 1)] w20 ∧ F2 [Lf.sl a3 m11 m12, Lf.int IntKind.i64 x5, Lf.int IntKind.i64 (x2 + 1)] < F2 [Lf.sl a1 m4 m5, Lf.int IntKind.i64 x1, Lf.int
    IntKind.i64 x2]))) ∧ ((↑clockn : Int) ≤ x2 → ∃ (F5 : List Lf → World → Prop), ∃ (F6 : List Lf → Nat), (∀ (w22 : World), RowKit.Below w.heap.size w w22 → Kept [m1] w11 w22 → F5
    [Lf.sl a1 m4 m5, Lf.int IntKind.i64 x1, Lf.int IntKind.i64 0] w22) ∧ ∀ (a4 : Option Addr) (m17 m18 : Nat) (x9 x10 : Int) (w23 : World), RowKit.Below w.heap.size w w23 → F5
    [Lf.sl a4 m17 m18, Lf.int IntKind.i64 x9, Lf.int IntKind.i64 x10] w23 → (x10 < (↑storen : Int) → ∃ (m19 : Nat), ∃ (m20 : Nat), storea = some { block := m19, off := m20 } ∧ (0 ≤
    x10 ∧ x10 < (↑storen : Int)) ∧ ∃ (x11 : Int), ∃ (a5 : Option Addr), ∃ (m21 : Nat), ∃ (m22 : Nat), w23.cell? { block := m19, off := m20 + x10.toNat * 2 } = some (Value.int
    IntKind.i64 x11) ∧ w23.cell? { block := m19, off := m20 + x10.toNat * 2 + 1 } = some (Value.slice a5 m21 m22) ∧ (m19 < w.heap.size ∨ m19 ≠ m1) ∧ ∀ (w24 : World), RowKit.Below
    w.heap.size w w24 → KeptIn [(0, w23.heap.size)] [m1] w23 w24 → Calls Try.prog 27 #[Value.agg #[Value.slice p0w0a p0w0n p0w0c, Value.slice p0w1a p0w1n p0w1c], Value.agg
    #[Value.int IntKind.i64 x11, Value.slice a5 m21 m22]] w24 fun (e4 : Ending) (w25 : World) => ∃ (x12 : Int), e4 = Ending.returned (Value.int IntKind.i64 x12) ∧ KeepX true
    w.heap.size [m1] (fun _ => False) w24 w25 ∧ (x12 ≠ 0 → ∀ (w26 : World), RowKit.Below w.heap.size w w26 → Kept [m1] w25 w26 → R (Ending.returned (Value.tuple #[Value.slice none
    0 0, Value.int IntKind.i64 x12])) w26) ∧ (x12 = 0 → (-9223372036854775808 ≤ x10 + 1 ∧ x10 + (1 : Int) ≤ 9223372036854775807) ∧ ∀ (w27 : World), RowKit.Below w.heap.size w w27 →
    Kept [m1] w25 w27 → F5 [Lf.sl a4 m17 m18, Lf.int IntKind.i64 x9, Lf.int IntKind.i64 (x10 + 1)] w27 ∧ F6 [Lf.sl a4 m17 m18, Lf.int IntKind.i64 x9, Lf.int IntKind.i64 (x10 + 1)]
    < F6 [Lf.sl a4 m17 m18, Lf.int IntKind.i64 x9, Lf.int IntKind.i64 x10])) ∧ ((↑storen : Int) ≤ x10 → ∀ (m24 : Nat), w23.heap.size ≤ m24 → ∃ (F7 : List Lf → World → Prop), ∃ (F8
    : List Lf → Nat), (∀ (w29 : World), RowKit.Below w.heap.size w w29 → Kept [m24, m1] w23 w29 → w29.heap[m24]? = some (Obj.cells #[] 3) → F7 [Lf.sl (some
    { block := m24, off := 0 }) 0 0, Lf.int IntKind.i64 0] w29) ∧ ∀ (a6 : Option Addr) (m26 m27 : Nat) (x13 : Int) (w30 : World), RowKit.Below w.heap.size w w30 → F7 [Lf.sl a6 m26
    m27, Lf.int IntKind.i64 x13] w30 → (x13 < (↑storen : Int) → ∃ (F9 : List Lf → World → Prop), (∃ (m28 : Nat), ∃ (m29 : Nat), storea = some { block := m28, off := m29 } ∧ (0 ≤
    x13 ∧ x13 < (↑storen : Int)) ∧ ∃ (x14 : Int), w30.cell? { block := m28, off := m29 + x13.toNat * 2 + 0 } = some (Value.int IntKind.i64 x14) ∧ (m28 < w.heap.size ∨ m28 ≠ m1) ∧
    (x14 = pattern → ∃ (m30 : Nat), ∃ (m31 : Nat), storea = some { block := m30, off := m31 } ∧ (0 ≤ x13 ∧ x13 < (↑storen : Int)) ∧ ∃ (x15 : Int), ∃ (a7 : Option Addr), ∃ (m32 :
    Nat), ∃ (m33 : Nat), w30.cell? { block := m30, off := m31 + x13.toNat * 2 } = some (Value.int IntKind.i64 x15) ∧ w30.cell? { block := m30, off := m31 + x13.toNat * 2 + 1 } =
    some (Value.slice a7 m32 m33) ∧ (m30 < w.heap.size ∨ m30 ≠ m1) ∧ ∀ (w32 : World), RowKit.Below w.heap.size w w32 → KeptIn [(0, w30.heap.size)] [m1] w30 w32 → Calls Try.prog 28
    #[Value.agg #[Value.slice p0w0a p0w0n p0w0c, Value.slice p0w1a p0w1n p0w1c], Value.agg #[Value.int IntKind.i64 x15, Value.slice a7 m32 m33]] w32 fun (e5 : Ending) (w33 : World)
    => ∃ (t3 : Bool), e5 = Ending.returned (Value.bool t3) ∧ KeepX true w.heap.size [m1] (fun _ => False) w32 w33 ∧ ∀ (w34 : World), RowKit.Below w.heap.size w w34 → Kept [m1] w33
    w34 → F9 [Lf.bool t3] w34) ∧ (x14 ≠ pattern → ∀ (w35 : World), RowKit.Below w.heap.size w w35 → Kept [m1] w30 w35 → F9 [Lf.bool false] w35)) ∧ ∀ (t4 : Bool) (w36 : World),
    RowKit.Below w.heap.size w w36 → F9 [Lf.bool t4] w36 → ∃ (F10 : List Lf → World → Prop), ∃ (F11 : List Lf → Nat), (∀ (w38 : World), RowKit.Below w.heap.size w w38 → Kept [m1]
    w36 w38 → F10 [Lf.bool t4, Lf.int IntKind.i64 0] w38) ∧ ∀ (t5 : Bool) (x16 : Int) (w39 : World), RowKit.Below w.heap.size w w39 → F10 [Lf.bool t5, Lf.int IntKind.i64 x16] w39 →
    ∃ (F12 : List Lf → World → Prop), ((x16 < (↑p0w1n : Int) → ∀ (w41 : World), RowKit.Below w.heap.size w w41 → Kept [m1] w39 w41 → w41.heap[m1]? = some (Obj.cells #[Value.slice
    p0w0a p0w0n p0w0c, Value.slice p0w1a p0w1n p0w1c] 25) → F12 [Lf.bool t5] w41) ∧ ((↑p0w1n : Int) ≤ x16 → ∀ (w42 : World), RowKit.Below w.heap.size w w42 → Kept [m1] w39 w42 →
    w42.heap[m1]? = some (Obj.cells #[Value.slice p0w0a p0w0n p0w0c, Value.slice p0w1a p0w1n p0w1c] 25) → F12 [Lf.bool false] w42)) ∧ ∀ (t6 : Bool) (w43 : World), RowKit.Below
    w.heap.size w w43 → F12 [Lf.bool t6] w43 → (t6 = true → ∃ (m37 : Nat), ∃ (m38 : Nat), p0w1a = some { block := m37, off := m38 } ∧ (0 ≤ x16 ∧ x16 < (↑p0w1n : Int)) ∧ ∃ (x17 :
    Int), ∃ (x18 : Int), ∃ (x19 : Int), ∃ (x20 : Int), ∃ (x21 : Int), ∃ (x22 : Int), w43.cell? { block := m37, off := m38 + x16.toNat * 6 } = some (Value.int IntKind.i64 x17) ∧
    w43.cell? { block := m37, off := m38 + x16.toNat * 6 + 1 } = some (Value.int IntKind.i64 x18) ∧ w43.cell? { block := m37, off := m38 + x16.toNat * 6 + 1 + 1 } = some (Value.int
    IntKind.i64 x19) ∧ w43.cell? { block := m37, off := m38 + x16.toNat * 6 + 1 + 1 + 1 } = some (Value.int IntKind.i64 x20) ∧ w43.cell?
    { block := m37, off := m38 + x16.toNat * 6 + 1 + 1 + 1 + 1 } = some (Value.int IntKind.i64 x21) ∧ w43.cell? { block := m37, off := m38 + x16.toNat * 6 + 1 + 1 + 1 + 1 + 1 } =
    some (Value.int IntKind.i64 x22) ∧ (m37 < w.heap.size ∨ m37 ≠ m1) ∧ ∀ (m39 : Nat), w43.heap.size ≤ m39 → ∃ (F13 : List Lf → World → Prop), ∃ (F14 : List Lf → Nat), (∀ (w45 :
    World), RowKit.Below w.heap.size w w45 → Kept [m39, m1] w43 w45 → F13 [Lf.bool t5, Lf.int IntKind.i64 0] w45) ∧ ∀ (t7 : Bool) (x23 : Int) (w46 : World), RowKit.Below
    w.heap.size w w46 → F13 [Lf.bool t7, Lf.int IntKind.i64 x23] w46 → (x23 < (↑clockn : Int) → ∃ (F15 : List Lf → World → Prop), ((x17 = pattern → ∃ (m40 : Nat), ∃ (m41 : Nat),
    clocka = some { block := m40, off := m41 } ∧ (0 ≤ x23 ∧ x23 < (↑clockn : Int)) ∧ ∃ (x24 : Int), w46.cell? { block := m40, off := m41 + x23.toNat * 2 + 0 } = some (Value.int
    IntKind.i64 x24) ∧ (m40 < w.heap.size ∨ m40 ≠ m39 ∧ m40 ≠ m1) ∧ ∀ (w48 : World), RowKit.Below w.heap.size w w48 → Kept [m39, m1] w46 w48 → w48.heap[m39]? = some (Obj.cells
    #[Value.int IntKind.i64 x17, Value.int IntKind.i64 x18, Value.int IntKind.i64 x19, Value.int IntKind.i64 x20, Value.int IntKind.i64 x21, Value.int IntKind.i64 x22] 67) →
    w48.heap[m39]? = some (Obj.cells #[Value.int IntKind.i64 x17, Value.int IntKind.i64 x18, Value.int IntKind.i64 x19, Value.int IntKind.i64 x20, Value.int IntKind.i64 x21,
    Value.int IntKind.i64 x22] 67) → F15 [Lf.bool (x19 == x24)] w48) ∧ (x17 ≠ pattern → ∀ (w49 : World), RowKit.Below w.heap.size w w49 → Kept [m39, m1] w46 w49 → w49.heap[m39]? =
    some (Obj.cells #[Value.int IntKind.i64 x17, Value.int IntKind.i64 x18, Value.int IntKind.i64 x19, Value.int IntKind.i64 x20, Value.int IntKind.i64 x21, Value.int IntKind.i64
    x22] 67) → F15 [Lf.bool false] w49)) ∧ ∀ (t8 : Bool) (w50 : World), RowKit.Below w.heap.size w w50 → F15 [Lf.bool t8] w50 → ∃ (F16 : List Lf → World → Prop), ((t8 = true → ∃
    (F17 : List Lf → World → Prop), ((t7 = true → ∃ (m45 : Nat), ∃ (m46 : Nat), storea = some { block := m45, off := m46 } ∧ (0 ≤ x13 ∧ x13 < (↑storen : Int)) ∧ ∃ (a8 : Option
    Addr), ∃ (m47 : Nat), ∃ (m48 : Nat), w50.cell? { block := m45, off := m46 + x13.toNat * 2 + 1 } = some (Value.slice a8 m47 m48) ∧ (m45 < w.heap.size ∨ m45 ≠ m39 ∧ m45 ≠ m1) ∧ ∃
    (m49 : Nat), ∃ (m50 : Nat), a8 = some { block := m49, off := m50 } ∧ (0 ≤ x18 ∧ x18 < (↑m47 : Int)) ∧ ∃ (x25 : Int), w50.cell? { block := m49, off := m50 + x18.toNat * 1 } =
    some (Value.int IntKind.i64 x25) ∧ (m49 < w.heap.size ∨ m49 ≠ m39 ∧ m49 ≠ m1) ∧ ∃ (m51 : Nat), ∃ (m52 : Nat), clocka = some { block := m51, off := m52 } ∧ (0 ≤ x23 ∧ x23 <
    (↑clockn : Int)) ∧ ∃ (a9 : Option Addr), ∃ (m53 : Nat), ∃ (m54 : Nat), w50.cell? { block := m51, off := m52 + x23.toNat * 2 + 1 } = some (Value.slice a9 m53 m54) ∧ (m51 <
    w.heap.size ∨ m51 ≠ m39 ∧ m51 ≠ m1) ∧ ∃ (m55 : Nat), ∃ (m56 : Nat), a9 = some { block := m55, off := m56 } ∧ (0 ≤ x20 ∧ x20 < (↑m53 : Int)) ∧ ∃ (x26 : Int), w50.cell?
    { block := m55, off := m56 + x20.toNat * 1 } = some (Value.int IntKind.i64 x26) ∧ (m55 < w.heap.size ∨ m55 ≠ m39 ∧ m55 ≠ m1) ∧ ∀ (w53 : World), RowKit.Below w.heap.size w w53 →
    KeptIn [(0, w50.heap.size)] [m39, m1] w50 w53 → Calls Try.prog 66 #[Value.agg #[Value.int IntKind.i64 x17, Value.int IntKind.i64 x18, Value.int IntKind.i64 x19, Value.int
    IntKind.i64 x20, Value.int IntKind.i64 x21, Value.int IntKind.i64 x22], Value.int IntKind.i64 x25, Value.int IntKind.i64 x26] w53 fun (e6 : Ending) (w54 : World) => ∃ (t9 :
    Bool), e6 = Ending.returned (Value.bool t9) ∧ KeepX true w.heap.size [m39, m1] (fun _ => False) w53 w54 ∧ ∀ (w55 : World), RowKit.Below w.heap.size w w55 → Kept [m39, m1] w54
    w55 → w55.heap[m39]? = some (Obj.cells #[Value.int IntKind.i64 x17, Value.int IntKind.i64 x18, Value.int IntKind.i64 x19, Value.int IntKind.i64 x20, Value.int IntKind.i64 x21,
    Value.int IntKind.i64 x22] 67) → w55.heap[m39]? = some (Obj.cells #[Value.int IntKind.i64 x17, Value.int IntKind.i64 x18, Value.int IntKind.i64 x19, Value.int IntKind.i64 x20,
    Value.int IntKind.i64 x21, Value.int IntKind.i64 x22] 67) → F17 [Lf.bool t9] w55) ∧ (t7 = false → ∀ (w56 : World), RowKit.Below w.heap.size w w56 → Kept [m39, m1] w50 w56 → F17
    [Lf.bool false] w56)) ∧ ∀ (t10 : Bool) (w57 : World), RowKit.Below w.heap.size w w57 → F17 [Lf.bool t10] w57 → ∀ (w58 : World), RowKit.Below w.heap.size w w58 → Kept [m39, m1]
    w57 w58 → F16 [Lf.bool t10] w58) ∧ (t8 = false → ∀ (w59 : World), RowKit.Below w.heap.size w w59 → Kept [m39, m1] w50 w59 → F16 [Lf.bool t7] w59)) ∧ ∀ (t11 : Bool) (w60 :
    World), RowKit.Below w.heap.size w w60 → F16 [Lf.bool t11] w60 → ∃ (F18 : List Lf → World → Prop), ((x19 = pattern → ∃ (m60 : Nat), ∃ (m61 : Nat), clocka = some
    { block := m60, off := m61 } ∧ (0 ≤ x23 ∧ x23 < (↑clockn : Int)) ∧ ∃ (x27 : Int), w60.cell? { block := m60, off := m61 + x23.toNat * 2 + 0 } = some (Value.int IntKind.i64 x27)
    ∧ (m60 < w.heap.size ∨ m60 ≠ m39 ∧ m60 ≠ m1) ∧ ∀ (w62 : World), RowKit.Below w.heap.size w w62 → Kept [m39, m1] w60 w62 → w62.heap[m39]? = some (Obj.cells #[Value.int
    IntKind.i64 x17, Value.int IntKind.i64 x18, Value.int IntKind.i64 x19, Value.int IntKind.i64 x20, Value.int IntKind.i64 x21, Value.int IntKind.i64 x22] 67) → w62.heap[m39]? =
    some (Obj.cells #[Value.int IntKind.i64 x17, Value.int IntKind.i64 x18, Value.int IntKind.i64 x19, Value.int IntKind.i64 x20, Value.int IntKind.i64 x21, Value.int IntKind.i64
    x22] 67) → F18 [Lf.bool (x17 == x27)] w62) ∧ (x19 ≠ pattern → ∀ (w63 : World), RowKit.Below w.heap.size w w63 → Kept [m39, m1] w60 w63 → w63.heap[m39]? = some (Obj.cells
    #[Value.int IntKind.i64 x17, Value.int IntKind.i64 x18, Value.int IntKind.i64 x19, Value.int IntKind.i64 x20, Value.int IntKind.i64 x21, Value.int IntKind.i64 x22] 67) → F18
    [Lf.bool false] w63)) ∧ ∀ (t12 : Bool) (w64 : World), RowKit.Below w.heap.size w w64 → F18 [Lf.bool t12] w64 → ∃ (F19 : List Lf → World → Prop), ((t12 = true → ∃ (F20 : List Lf
    → World → Prop), ((t11 = true → ∃ (m65 : Nat), ∃ (m66 : Nat), clocka = some { block := m65, off := m66 } ∧ (0 ≤ x23 ∧ x23 < (↑clockn : Int)) ∧ ∃ (a10 : Option Addr), ∃ (m67 :
    Nat), ∃ (m68 : Nat), w64.cell? { block := m65, off := m66 + x23.toNat * 2 + 1 } = some (Value.slice a10 m67 m68) ∧ (m65 < w.heap.size ∨ m65 ≠ m39 ∧ m65 ≠ m1) ∧ ∃ (m69 : Nat), ∃
    (m70 : Nat), a10 = some { block := m69, off := m70 } ∧ (0 ≤ x18 ∧ x18 < (↑m67 : Int)) ∧ ∃ (x28 : Int), w64.cell? { block := m69, off := m70 + x18.toNat * 1 } = some (Value.int
    IntKind.i64 x28) ∧ (m69 < w.heap.size ∨ m69 ≠ m39 ∧ m69 ≠ m1) ∧ ∃ (m71 : Nat), ∃ (m72 : Nat), storea = some { block := m71, off := m72 } ∧ (0 ≤ x13 ∧ x13 < (↑storen : Int)) ∧ ∃
    (a11 : Option Addr), ∃ (m73 : Nat), ∃ (m74 : Nat), w64.cell? { block := m71, off := m72 + x13.toNat * 2 + 1 } = some (Value.slice a11 m73 m74) ∧ (m71 < w.heap.size ∨ m71 ≠ m39
    ∧ m71 ≠ m1) ∧ ∃ (m75 : Nat), ∃ (m76 : Nat), a11 = some { block := m75, off := m76 } ∧ (0 ≤ x20 ∧ x20 < (↑m73 : Int)) ∧ ∃ (x29 : Int), w64.cell?
    { block := m75, off := m76 + x20.toNat * 1 } = some (Value.int IntKind.i64 x29) ∧ (m75 < w.heap.size ∨ m75 ≠ m39 ∧ m75 ≠ m1) ∧ ∀ (w67 : World), RowKit.Below w.heap.size w w67 →
    KeptIn [(0, w64.heap.size)] [m39, m1] w64 w67 → Calls Try.prog 66 #[Value.agg #[Value.int IntKind.i64 x17, Value.int IntKind.i64 x18, Value.int IntKind.i64 x19, Value.int
    IntKind.i64 x20, Value.int IntKind.i64 x21, Value.int IntKind.i64 x22], Value.int IntKind.i64 x28, Value.int IntKind.i64 x29] w67 fun (e7 : Ending) (w68 : World) => ∃ (t13 :
    Bool), e7 = Ending.returned (Value.bool t13) ∧ KeepX true w.heap.size [m39, m1] (fun _ => False) w67 w68 ∧ ∀ (w69 : World), RowKit.Below w.heap.size w w69 → Kept [m39, m1] w68
    w69 → w69.heap[m39]? = some (Obj.cells #[Value.int IntKind.i64 x17, Value.int IntKind.i64 x18, Value.int IntKind.i64 x19, Value.int IntKind.i64 x20, Value.int IntKind.i64 x21,
    Value.int IntKind.i64 x22] 67) → w69.heap[m39]? = some (Obj.cells #[Value.int IntKind.i64 x17, Value.int IntKind.i64 x18, Value.int IntKind.i64 x19, Value.int IntKind.i64 x20,
    Value.int IntKind.i64 x21, Value.int IntKind.i64 x22] 67) → F20 [Lf.bool t13] w69) ∧ (t11 = false → ∀ (w70 : World), RowKit.Below w.heap.size w w70 → Kept [m39, m1] w64 w70 →
    F20 [Lf.bool false] w70)) ∧ ∀ (t14 : Bool) (w71 : World), RowKit.Below w.heap.size w w71 → F20 [Lf.bool t14] w71 → ∀ (w72 : World), RowKit.Below w.heap.size w w72 → Kept [m39,
    m1] w71 w72 → F19 [Lf.bool t14] w72) ∧ (t12 = false → ∀ (w73 : World), RowKit.Below w.heap.size w w73 → Kept [m39, m1] w64 w73 → F19 [Lf.bool t11] w73)) ∧ ∀ (t15 : Bool) (w74 :
    World), RowKit.Below w.heap.size w w74 → F19 [Lf.bool t15] w74 → (-9223372036854775808 ≤ x23 + 1 ∧ x23 + (1 : Int) ≤ 9223372036854775807) ∧ ∀ (w75 : World), RowKit.Below
    w.heap.size w w75 → Kept [m39, m1] w74 w75 → F13 [Lf.bool t15, Lf.int IntKind.i64 (x23 + 1)] w75 ∧ F14 [Lf.bool t15, Lf.int IntKind.i64 (x23 + 1)] < F14 [Lf.bool t7, Lf.int
    IntKind.i64 x23]) ∧ ((↑clockn : Int) ≤ x23 → (-9223372036854775808 ≤ x16 + 1 ∧ x16 + (1 : Int) ≤ 9223372036854775807) ∧ ∀ (w76 : World), RowKit.Below w.heap.size w w76 → Kept
    [m39, m1] w46 w76 → F10 [Lf.bool t7, Lf.int IntKind.i64 (x16 + 1)] w76 ∧ F11 [Lf.bool t7, Lf.int IntKind.i64 (x16 + 1)] < F11 [Lf.bool t5, Lf.int IntKind.i64 x16])) ∧ (t6 =
    false → (t5 = true → ∀ (m80 : Nat), w43.heap.size ≤ m80 → ∀ (w77 : World), RowKit.Below w.heap.size w w77 → Kept [m80, m1] w43 w77 → w77.heap[m80]? = some (Obj.cells
    #[Value.int IntKind.i64 x13] 3) → RunsTo Try.prog (Builtin.append_ #[38, 38] 38 #[Value.slice a6 m26 m27, Value.slice (some { block := m80, off := 0 }) 1 1]) w77 fun (v1 :
    Value) (w78 : World) => ∃ (a12 : Option Addr), ∃ (m82 : Nat), ∃ (m83 : Nat), v1 = Value.slice a12 m82 m83 ∧ KeepX true w.heap.size [m80, m1] (fun _ => False) w77 w78 ∧
    (-9223372036854775808 ≤ x13 + 1 ∧ x13 + (1 : Int) ≤ 9223372036854775807) ∧ ∀ (w79 : World), RowKit.Below w.heap.size w w79 → Kept [m80, m1] w78 w79 → F7 [Lf.sl a12 m82 m83,
    Lf.int IntKind.i64 (x13 + 1)] w79 ∧ F8 [Lf.sl a12 m82 m83, Lf.int IntKind.i64 (x13 + 1)] < F8 [Lf.sl a6 m26 m27, Lf.int IntKind.i64 x13]) ∧ (t5 = false → (-9223372036854775808
    ≤ x13 + 1 ∧ x13 + (1 : Int) ≤ 9223372036854775807) ∧ ∀ (w80 : World), RowKit.Below w.heap.size w w80 → Kept [m1] w43 w80 → F7 [Lf.sl a6 m26 m27, Lf.int IntKind.i64 (x13 + 1)]
    w80 ∧ F8 [Lf.sl a6 m26 m27, Lf.int IntKind.i64 (x13 + 1)] < F8 [Lf.sl a6 m26 m27, Lf.int IntKind.i64 x13]))) ∧ ((↑storen : Int) ≤ x13 → ∀ (w81 : World), RowKit.Below
    w.heap.size w w81 → Kept [m1] w30 w81 → R (Ending.returned (Value.tuple #[Value.slice a6 m26 m27, Value.int IntKind.i64 0])) w81)))))))) : Calls Try.prog 37 #[Value.agg
    #[Value.slice p0w0a p0w0n p0w0c, Value.slice p0w1a p0w1n p0w1c], Value.slice clocka clockn clockc, Value.int IntKind.i64 pattern, Value.slice storea storen storec] w R :=
    calls_of_vcj (pure := true) (wrapAt := []) (muts := []) (esc := []) (joins := [(2000028, [(17, 4)]), (2000030, [(114, 4)]), (2000036, [(141, 4)]), (141, [(17, 4)]), (2000037,
    [(17, 4)]), (2000038, [(178, 4)]), (178, [(17, 4)]), (2000039, [(17, 4)])]) (args := [SV.pv (PV.agg [Lf.sl p0w0a p0w0n p0w0c, Lf.sl p0w1a p0w1n p0w1c]), SV.pv (PV.one (Lf.sl
    clocka clockn clockc)), SV.pv (PV.one (Lf.int IntKind.i64 pattern)), SV.pv (PV.one (Lf.sl storea storen storec))]) (vs := [Value.agg #[Value.slice p0w0a p0w0n p0w0c,
    Value.slice p0w1a p0w1n p0w1c], Value.slice clocka clockn clockc, Value.int IntKind.i64 pattern, Value.slice storea storen storec]) Try.func37 rfl rfl rfl (Eq.mp (by
    kernel_rfl) h) 
end Go.Proofs
end
section
/- The reference's Choose. -/
namespace Go.Proofs.R12
open Go.Vc Go.RowKit Go.Proofs
/-- Since a world: nothing but one block of what was there has turned. -/
structure Since (m : Nat) (u w : World) : Prop where
  h : Chg [m] u w
section
variable {m : Nat} {u w w' : World}
theorem Since.step {S : List Nat} (h : Since m u w) (hc : Chg S w w') (hs : ∀ x ∈ S, x = m ∨ u.heap.size ≤ x) : Since m u w' := by
  have h1 := h.h
  have h2 : Chg (m :: S) u w' := (h1.mono (T := m :: S) fun x hx => .inl (by simp only [List.mem_singleton] at hx; subst hx; simp)).trans (hc.mono fun x hx => .inl (List.mem_cons_of_mem _ hx))
  exact ⟨h2.mono fun x hx => by
    rcases List.mem_cons.1 hx with rfl | hx
    · exact .inl (by simp)
    · rcases hs x hx with rfl | h
      · exact .inl (by simp)
      · exact .inr h⟩
theorem Since.ko {bs : List Nat} (h : Since m u w) (hk : Kept bs w w') (hs : ∀ x ∈ bs, x = m ∨ u.heap.size ≤ x) : Since m u w' := h.step (Chg.kept hk) hs
theorem Since.kio {bs : List Nat} {rs : List (Nat × Nat)} (h : Since m u w) (hk : KeptIn ((0, w.heap.size) :: rs) bs w w') (hs : ∀ x ∈ bs, x = m ∨ u.heap.size ≤ x) : Since m u w' := h.step hk.chg hs
theorem Since.below (h : Since m u w) (hb : Below w.heap.size w w') : Since m u w' := h.step (S := []) (Chg.of_below hb) (by simp)
theorem Since.size (h : Since m u w) : u.heap.size ≤ w.heap.size := h.h.size
end
def hOk (p : Int) (f : Fit) (x q : Piece) : Prop := f.hole = p ∧ f.shaft = q.pat → isF f (x.sizes.getD f.hs.toNat 0) (q.sizes.getD f.ss.toNat 0)
def sOk (p : Int) (f : Fit) (x q : Piece) : Prop := f.shaft = p ∧ f.hole = q.pat → isF f (q.sizes.getD f.hs.toNat 0) (x.sizes.getD f.ss.toNat 0)
instance (p : Int) (f : Fit) (x q : Piece) : Decidable (hOk p f x q) := by unfold hOk; exact inferInstance
instance (p : Int) (f : Fit) (x q : Piece) : Decidable (sOk p f x q) := by unfold sOk; exact inferInstance
def bothOk (p : Int) (f : Fit) (x : Piece) (C : List Piece) : Prop := ∀ j : Nat, j < C.length → hOk p f x (C.getD j ⟨0, []⟩) ∧ sOk p f x (C.getD j ⟨0, []⟩)
instance (p : Int) (f : Fit) (x : Piece) (C : List Piece) : Decidable (bothOk p f x C) := by unfold bothOk; exact inferInstance
theorem clock_all {W : Wk} : ∀ {C : List Piece} {seen : List Int}, clockErr W C seen = 0 → (∀ q ∈ C, pieceErr W q = 0 ∧ q.pat ∉ seen) ∧ (C.map (·.pat)).Nodup
  | [], _, _ => ⟨by simp, by simp⟩
  | q :: r, seen, h => by
    unfold clockErr at h
    by_cases h1 : pieceErr W q = 0
    · rw [if_neg (by simpa using h1)] at h
      by_cases h2 : q.pat ∈ seen
      · rw [if_pos h2] at h; cases h
      · rw [if_neg h2] at h
        obtain ⟨a, b⟩ := clock_all h
        refine ⟨fun y hy => ?_, ?_⟩
        · rcases List.mem_cons.1 hy with rfl | hy
          · exact ⟨h1, h2⟩
          · exact ⟨(a y hy).1, fun hm => (a y hy).2 (List.mem_append_left _ hm)⟩
        · rw [List.map_cons, List.nodup_cons]
          refine ⟨fun hm => ?_, b⟩
          obtain ⟨y, hy, e⟩ := List.mem_map.1 hm
          exact (a y hy).2 (by rw [e]; simp)
    · rw [if_pos h1] at h; exact absurd h h1
theorem store_all {W : Wk} : ∀ {C : List Piece}, storeErr W C = 0 → ∀ q ∈ C, pieceErr W q = 0
  | [], _ => by simp
  | q :: r, h => by
    unfold storeErr at h
    by_cases h1 : pieceErr W q = 0
    · rw [if_neg (by simpa using h1)] at h
      intro y hy
      rcases List.mem_cons.1 hy with rfl | hy
      · exact h1
      · exact store_all h y hy
    · rw [if_pos h1] at h; exact absurd h h1
theorem getD_in {C : List Piece} {j : Nat} (hj : j < C.length) : C.getD j ⟨0, []⟩ ∈ C := by
  rw [List.getD_eq_getElem?_getD, getElem_of_lt hj]; exact List.getElem_mem hj
theorem find_nodup {C : List Piece} (hn : (C.map (·.pat)).Nodup) {q : Piece} (hq : q ∈ C) : lookP C q.pat = some q := by
  unfold lookP
  induction C with
  | nil => simp at hq
  | cons a C ih =>
    rw [List.map_cons, List.nodup_cons] at hn
    by_cases h : q.pat = a.pat
    · rcases List.mem_cons.1 hq with rfl | hq
      · simp
      · exact absurd (List.mem_map.2 ⟨q, hq, h⟩) hn.1
    · rcases List.mem_cons.1 hq with rfl | hq
      · exact absurd rfl h
      · rw [List.find?_cons_of_neg (by simpa using h)]; exact ih hn.2 hq
theorem ix_in {W : Wk} (hW : OkW W) {i : Nat} (hi : i < W.fits.length) {y : Piece} (he : pieceErr W y = 0) : ((W.fits.getD i ⟨0, 0, 0, 0, (0, 0)⟩).hole = y.pat → 0 ≤ (W.fits.getD i ⟨0, 0, 0, 0, (0, 0)⟩).hs ∧ (W.fits.getD i ⟨0, 0, 0, 0, (0, 0)⟩).hs < y.sizes.length) ∧ ((W.fits.getD i ⟨0, 0, 0, 0, (0, 0)⟩).shaft = y.pat → 0 ≤ (W.fits.getD i ⟨0, 0, 0, 0, (0, 0)⟩).ss ∧ (W.fits.getD i ⟨0, 0, 0, 0, (0, 0)⟩).ss < y.sizes.length) := by
  obtain ⟨_, h1, h2, _⟩ := OkW.fit hW hi
  obtain ⟨_, h3, _⟩ := pieceErr_ok he
  refine ⟨fun e => ?_, fun e => ?_⟩
  · have := h1.2; rw [e] at this; omega
  · have := h2.2; rw [e] at this; omega
theorem sz_ok {W : Wk} {y : Piece} (he : pieceErr W y = 0) (i : Nat) : -10000000 ≤ y.sizes.getD i 0 ∧ y.sizes.getD i 0 ≤ 10000000 := by
  have := sz_get (pieceErr_ok he).2.2 i; omega
theorem fitsIn_eq {W : Wk} {p : Int} {C : List Piece} {x : Piece} (hW : OkW W) (hC : clockErr W C [] = 0) : fitsIn W p C x = decide ((x.pat = p ∧ goodM W x) ∧ ∀ i : Nat, i < W.fits.length → bothOk p (W.fits.getD i ⟨0, 0, 0, 0, (0, 0)⟩) x C) := by
  obtain ⟨hall, hnd⟩ := clock_all hC
  rw [Bool.eq_iff_iff]
  unfold fitsIn goesP
  simp only [Bool.and_eq_true, decide_eq_true_eq, List.all_eq_true]
  constructor
  · rintro ⟨hp, hg, hm⟩
    refine ⟨⟨hp, hg⟩, fun i hi j hj => ?_⟩
    have hf : W.fits.getD i ⟨0, 0, 0, 0, (0, 0)⟩ ∈ W.fits := by rw [List.getD_eq_getElem?_getD, getElem_of_lt hi]; exact List.getElem_mem hi
    have hne := (OkW.fit hW hi).1
    generalize W.fits.getD i ⟨0, 0, 0, 0, (0, 0)⟩ = f at *
    have hq := getD_in hj
    generalize C.getD j ⟨0, []⟩ = q at *
    constructor
    · rintro ⟨e1, e2⟩
      have := hm (f.shaft, f, true) (List.mem_filterMap.2 ⟨f, hf, by unfold mate1; rw [if_pos (by omega)]⟩)
      simp only [e2, find_nodup hnd hq, decide_eq_true_eq] at this
      exact this
    · rintro ⟨e1, e2⟩
      have := hm (f.hole, f, false) (List.mem_filterMap.2 ⟨f, hf, by unfold mate1; rw [if_neg (by omega), if_pos (by omega)]⟩)
      simp only [e2, find_nodup hnd hq, decide_eq_true_eq] at this
      exact this
  · rintro ⟨⟨hp, hg⟩, hm⟩
    refine ⟨hp, hg, fun m hmem => ?_⟩
    obtain ⟨f, hf, he⟩ := List.mem_filterMap.1 hmem
    obtain ⟨i, hi, rfl⟩ := List.mem_iff_getElem.1 hf
    have hb := hm i hi
    rw [show W.fits.getD i ⟨0, 0, 0, 0, (0, 0)⟩ = W.fits[i] by rw [List.getD_eq_getElem?_getD, getElem_of_lt hi]; rfl] at hb
    cases hl : lookP C m.1 with
    | none => rfl
    | some q =>
      have hq : q ∈ C := List.mem_of_find?_eq_some hl
      have hqp : m.1 = q.pat := by have := List.find?_some hl; simpa using this
      obtain ⟨j, hj, rfl⟩ := List.mem_iff_getElem.1 hq
      have hb := hb j hj
      rw [show C.getD j ⟨0, []⟩ = C[j] by rw [List.getD_eq_getElem?_getD, getElem_of_lt hj]; rfl] at hb
      simp only [decide_eq_true_eq]
      unfold mate1 at he
      split at he
      · obtain rfl := Option.some.inj he
        exact hb.1 ⟨by omega, hqp⟩
      · split at he
        · obtain rfl := Option.some.inj he
          exact hb.2 ⟨by omega, hqp⟩
        · cases he

theorem clock_step {W : Wk} {C : List Piece} {x : Nat} (hE : clockErr W C [] = clockErr W (C.getD x piece0 :: C.drop (x + 1)) ((C.take x).map (·.pat))) (h0 : pieceErr W (C.getD x ⟨0, []⟩) = 0) (hx : x < C.length) (hN : ∀ j : Nat, j < x → (C.getD j ⟨0, []⟩).pat ≠ (C.getD x ⟨0, []⟩).pat) : clockErr W C [] = clockErr W (C.drop (x + 1)) ((C.take (x + 1)).map (·.pat)) := by
  rw [hE, clockErr, if_neg (by simpa using h0), if_neg, take_get hx, List.map_append]
  · rfl
  · intro hm
    obtain ⟨y, hy, e⟩ := List.mem_map.1 hm
    obtain ⟨j, hj, rfl⟩ := List.mem_iff_getElem.1 hy
    rw [List.length_take] at hj
    refine hN j (by omega) ?_
    rw [List.getElem_take] at e
    rw [← e, List.getD_eq_getElem?_getD, getElem_of_lt (by omega)]; rfl
theorem clock_dup {W : Wk} {C : List Piece} {x j : Nat} (hE : clockErr W C [] = clockErr W (C.getD x piece0 :: C.drop (x + 1)) ((C.take x).map (·.pat))) (h0 : pieceErr W (C.getD x ⟨0, []⟩) = 0) (hx : x < C.length) (hj : j < x) (e : (C.getD j ⟨0, []⟩).pat = (C.getD x ⟨0, []⟩).pat) : clockErr W C [] = 6 := by
  rw [hE, clockErr, if_neg (by simpa using h0), if_pos]
  refine List.mem_map.2 ⟨C.getD j ⟨0, []⟩, ?_, e⟩
  rw [List.mem_iff_getElem]
  refine ⟨j, by rw [List.length_take]; omega, ?_⟩
  rw [List.getElem_take, List.getD_eq_getElem?_getD, getElem_of_lt (by omega)]; rfl
theorem store_step {W : Wk} {C : List Piece} {x : Int} (hE : storeErr W C = storeErr W (C.drop x.toNat)) (h0 : pieceErr W (C.getD x.toNat ⟨0, []⟩) = 0) (hx : x < C.length) (x0 : 0 ≤ x) : storeErr W C = storeErr W (C.drop (x + 1).toNat) := by
  rw [hE, drop_get (by omega), storeErr, if_neg (by simpa using h0), show (x + 1).toNat = x.toNat + 1 by omega]
theorem chosen_hit {W : Wk} {p : Int} {C St : List Piece} {j : Nat} (h : fitsIn W p C (St.getD j ⟨0, []⟩) = true) : chosen W p C St (j + 1) = chosen W p C St j ++ [(j : Int)] := by
  rw [chosen_succ, if_pos h]
theorem chosen_miss {W : Wk} {p : Int} {C St : List Piece} {j : Nat} (h : fitsIn W p C (St.getD j ⟨0, []⟩) = false) : chosen W p C St (j + 1) = chosen W p C St j := by
  rw [chosen_succ, if_neg (by rw [h]; decide), List.append_nil]
theorem fits_end {W : Wk} {p : Int} {C : List Piece} {x : Piece} {n : Nat} {t : Bool} (hW : OkW W) (hC : clockErr W C [] = 0) (ht : t = decide ((x.pat = p ∧ goodM W x) ∧ ∀ i : Nat, i < n → bothOk p (W.fits.getD i ⟨0, 0, 0, 0, (0, 0)⟩) x C)) (hn : n ≤ W.fits.length) (h : t = true → n = W.fits.length) : fitsIn W p C x = t := by
  rw [fitsIn_eq hW hC]
  cases t with
  | true => rw [← h rfl, ← ht]
  | false =>
    rw [decide_eq_false_iff_not]
    have := of_decide_eq_false ht.symm
    exact fun g => this ⟨g.1, fun i hi => g.2 i (by omega)⟩
set_option maxRecDepth 100000 in
set_option maxHeartbeats 4000000 in
theorem rChoose_l {w : World} {W : Wk} {pa fa clocka storea : Option Addr} {pc fc cc sc : Nat} {p : Int} {C St : List Piece} (hp : CellsS w pa W.pats) (hf : Cells w fa (fitsV W.fits)) (hS : Small W) (hC : CellsP w clocka C) (hT : CellsP w storea St) (lC : C.length ≤ 1000) (lT : St.length ≤ 1000) (xC : ∀ x ∈ C, x.sizes.length ≤ 17592186044000) (xT : ∀ x ∈ St, x.sizes.length ≤ 17592186044000) : Calls Try.prog 37 #[W.v pa pc fa fc, .slice clocka C.length cc, I p, .slice storea St.length sc] w (PureL w (chooseM W p C St)) := by
  have hn := hS.n
  have hm := hS.m
  refine vc37 _ _ _ _ _ _ _ _ _ _ _ _ _ w _ ?_
  intro m1 g_m1 w1 hb1 hk1
  have y1 := hb1.size
  have z1 := hk1.size; have o1 := hk1.own
  simp only [List.mem_cons, List.not_mem_nil, or_false, forall_eq] at o1
  refine Pure.calls (rWorks_any (hp.keep hb1) (hf.keep hb1) hS) fun w2 hd2 => ?_
  have hb2 := hb1.trans (hd2.mono hb1.size)
  refine ⟨_, rfl, .all hd2, ?_, ?_⟩
  · intro h1 w3 hb3 hk3
    try simp only [Bool.not_eq_true', decide_eq_false_iff_not] at h1
    have y3 := hb3.size
    have z3 := hk3.size; have o3 := hk3.own
    simp only [List.mem_cons, List.not_mem_nil, or_false, forall_eq] at o3
    exact pureL_err (by unfold chooseM; rw [if_pos (show ¬ OkW W by assumption)]) hb3
  · intro h2
    try simp only [Bool.not_eq_false', decide_eq_true_eq] at h2
    refine ⟨(by first | omega | (simp only; omega)), ?_⟩
    intro w4 hb4 hk4
    have y4 := hb4.size
    have z4 := hk4.size; have o4 := hk4.own
    simp only [List.mem_cons, List.not_mem_nil, or_false, forall_eq] at o4
    refine Pure.calls (rIn_any _ _ _) fun w5 hd5 => ?_
    have hb5 := hb4.trans (hd5.mono hb4.size)
    refine ⟨_, rfl, .all hd5, ?_, ?_⟩
    · intro h3 w6 hb6 hk6
      try simp only [Bool.not_eq_true', decide_eq_false_iff_not] at h3
      have y6 := hb6.size
      have z6 := hk6.size; have o6 := hk6.own
      simp only [List.mem_cons, List.not_mem_nil, or_false, forall_eq] at o6
      have hW : OkW W := by assumption
      exact pureL_err (by unfold chooseM; rw [if_neg (show ¬¬ OkW W by simpa using hW), if_pos (by omega)]) hb6
    · intro h4
      try simp only [Bool.not_eq_false', decide_eq_true_eq] at h4
      refine ⟨?_, ?_⟩
      · intro h5 w7 hb7 hk7
        try simp only [Bool.not_eq_true', Bool.not_eq_false', decide_eq_true_eq, decide_eq_false_iff_not] at h5
        have y7 := hb7.size
        have z7 := hk7.size; have o7 := hk7.own
        simp only [List.mem_cons, List.not_mem_nil, or_false, forall_eq] at o7
        have hW : OkW W := by assumption
        exact pureL_err (by unfold chooseM; rw [if_neg (show ¬¬ OkW W by simpa using hW), if_neg (by omega), if_pos (.inl (by omega))]) hb7
      · intro h6
        try simp only [Bool.not_eq_true', Bool.not_eq_false', decide_eq_true_eq, decide_eq_false_iff_not] at h6
        refine ⟨?_, ?_⟩
        · intro h7 w8 hb8 hk8
          try simp only [Bool.not_eq_true', Bool.not_eq_false', decide_eq_true_eq, decide_eq_false_iff_not] at h7
          have y8 := hb8.size
          have z8 := hk8.size; have o8 := hk8.own
          simp only [List.mem_cons, List.not_mem_nil, or_false, forall_eq] at o8
          have hW : OkW W := by assumption
          exact pureL_err (by unfold chooseM; rw [if_neg (show ¬¬ OkW W by simpa using hW), if_neg (by omega), if_pos (.inr (by omega))]) hb8
        · intro h8
          try simp only [Bool.not_eq_true', Bool.not_eq_false', decide_eq_true_eq, decide_eq_false_iff_not] at h8
          have hW : OkW W := by assumption
          refine ⟨fun ls _ => match ls with | [_, _, .int _ ii] => (0 ≤ ii ∧ ii ≤ C.length) ∧ clockErr W C [] = clockErr W (C.drop ii.toNat) ((C.take ii.toNat).map (·.pat)) | _ => False, fun ls => match ls with | [_, _, .int _ ii] => (C.length - ii).toNat | _ => 0, ?_, ?_⟩
          · intro w10 hb10 hk10
            have y10 := hb10.size
            have z10 := hk10.size; have o10 := hk10.own
            simp only [List.mem_cons, List.not_mem_nil, or_false, forall_eq] at o10
            exact ⟨⟨by omega, by omega⟩, rfl⟩
          rintro a1 m4 m5 x1 x2 w11 hb11 ⟨⟨x0, xl⟩, hE⟩
          have y11 := hb11.size
          refine ⟨?_, ?_⟩
          · intro h9
            try simp only [Bool.not_eq_true', Bool.not_eq_false', decide_eq_true_eq, decide_eq_false_iff_not] at h9
            refine load_piece hC hb11 (by omega) fun m6 m7 hm1 a2 m9 hs1 => ⟨.inl hm1, ?_⟩
            intro w12 hb12 hk12
            have y12 := hb12.size
            have z12 := hk12.size; have o12 := hk12.own
            simp only [List.mem_cons, List.not_mem_nil, or_false, forall_eq] at o12
            refine Pure.calls (rPiece_any (C.getD x2.toNat ⟨0, []⟩) (hs1.keep hb12) (piece_len xC) (hp.keep hb12) hS) fun w13 hd13 => ?_
            have hb13 := hb12.trans (hd13.mono hb12.size)
            refine ⟨_, rfl, .all hd13, ?_, ?_⟩
            · intro h10 w14 hb14 hk14
              try simp only [Bool.not_eq_true', Bool.not_eq_false', decide_eq_true_eq, decide_eq_false_iff_not] at h10
              have y14 := hb14.size
              have z14 := hk14.size; have o14 := hk14.own
              simp only [List.mem_cons, List.not_mem_nil, or_false, forall_eq] at o14
              have hce : clockErr W C [] = pieceErr W (C.getD x2.toNat ⟨0, []⟩) := by rw [hE, drop_get (by omega), clockErr, if_pos (by assumption)]
              exact pureL_err (by unfold chooseM; rw [if_neg (show ¬¬ OkW W by simpa using hW), if_neg (by omega), if_neg (by omega), hce, if_pos (by assumption)]) hb14
            · intro h11
              try simp only [Bool.not_eq_true', Bool.not_eq_false', decide_eq_true_eq, decide_eq_false_iff_not] at h11
              rw [drop_get (by omega)] at hE
              refine ⟨fun ls _ => match ls with | [_, _, .int _ jj] => (0 ≤ jj ∧ jj ≤ x2) ∧ ∀ j : Nat, j < jj.toNat → (C.getD j ⟨0, []⟩).pat ≠ (C.getD x2.toNat ⟨0, []⟩).pat | _ => False, fun ls => match ls with | [_, _, .int _ jj] => (x2 - jj).toNat | _ => 0, ?_, ?_⟩
              · intro w16 hb16 hk16
                have y16 := hb16.size
                have z16 := hk16.size; have o16 := hk16.own
                simp only [List.mem_cons, List.not_mem_nil, or_false, forall_eq] at o16
                exact ⟨⟨by omega, by omega⟩, fun j hj => by omega⟩
              rintro a3 m11 m12 x5 x6 w17 hb17 ⟨⟨y0, yl⟩, hN⟩
              have y17 := hb17.size
              refine ⟨?_, ?_⟩
              · intro h12
                try simp only [Bool.not_eq_true', Bool.not_eq_false', decide_eq_true_eq, decide_eq_false_iff_not] at h12
                refine load_piece_0 hC hb17 (by omega) fun m13 m14 hm2 => ⟨.inl hm2, ?_⟩
                refine load_piece_0 hC hb17 (by omega) fun m15 m16 hm3 => ⟨.inl hm3, ?_⟩
                refine ⟨?_, ?_⟩
                · intro h13 w18 hb18 hk18
                  try simp only [Bool.not_eq_true', Bool.not_eq_false', decide_eq_true_eq, decide_eq_false_iff_not] at h13
                  have y18 := hb18.size
                  have z18 := hk18.size; have o18 := hk18.own
                  simp only [List.mem_cons, List.not_mem_nil, or_false, forall_eq] at o18
                  have hce : clockErr W C [] = 6 := clock_dup hE (by assumption) (by omega) (j := x6.toNat) (by omega) (by assumption)
                  exact pureL_err (by unfold chooseM; rw [if_neg (show ¬¬ OkW W by simpa using hW), if_neg (by omega), if_neg (by omega), hce, if_pos (by decide)]) hb18
                · intro h14
                  try simp only [Bool.not_eq_true', Bool.not_eq_false', decide_eq_true_eq, decide_eq_false_iff_not] at h14
                  refine ⟨(by first | omega | (simp only; omega)), ?_⟩
                  intro w19 hb19 hk19
                  have y19 := hb19.size
                  have z19 := hk19.size; have o19 := hk19.own
                  simp only [List.mem_cons, List.not_mem_nil, or_false, forall_eq] at o19
                  refine ⟨?_, (by first | omega | (simp only; omega))⟩
                  exact ⟨⟨by omega, by omega⟩, all_step y0 hN (by assumption)⟩
              · intro h15
                try simp only [Bool.not_eq_true', Bool.not_eq_false', decide_eq_true_eq, decide_eq_false_iff_not] at h15
                refine ⟨(by first | omega | (simp only; omega)), ?_⟩
                intro w20 hb20 hk20
                have y20 := hb20.size
                have z20 := hk20.size; have o20 := hk20.own
                simp only [List.mem_cons, List.not_mem_nil, or_false, forall_eq] at o20
                refine ⟨?_, (by first | omega | (simp only; omega))⟩
                exact ⟨⟨by omega, by omega⟩, by rw [show (x2 + 1).toNat = x2.toNat + 1 by omega]; exact clock_step hE (by assumption) (by omega) (by rw [show x6.toNat = x2.toNat by omega] at hN; exact hN)⟩
          · intro h16
            try simp only [Bool.not_eq_true', Bool.not_eq_false', decide_eq_true_eq, decide_eq_false_iff_not] at h16
            have hE0 : clockErr W C [] = 0 := by rw [hE, show x2.toNat = C.length by omega, List.drop_length]; rfl
            refine ⟨fun ls _ => match ls with | [_, _, .int _ ii] => (0 ≤ ii ∧ ii ≤ St.length) ∧ storeErr W St = storeErr W (St.drop ii.toNat) | _ => False, fun ls => match ls with | [_, _, .int _ ii] => (St.length - ii).toNat | _ => 0, ?_, ?_⟩
            · intro w22 hb22 hk22
              have y22 := hb22.size
              have z22 := hk22.size; have o22 := hk22.own
              simp only [List.mem_cons, List.not_mem_nil, or_false, forall_eq] at o22
              exact ⟨⟨by omega, by omega⟩, rfl⟩
            rintro a4 m17 m18 x9 x10 w23 hb23 ⟨⟨u0, ul⟩, hSE⟩
            have y23 := hb23.size
            refine ⟨?_, ?_⟩
            · intro h17
              try simp only [Bool.not_eq_true', Bool.not_eq_false', decide_eq_true_eq, decide_eq_false_iff_not] at h17
              refine load_piece hT hb23 (by omega) fun m19 m20 hm4 a5 m22 hs4 => ⟨.inl hm4, ?_⟩
              intro w24 hb24 hk24
              have y24 := hb24.size
              have z24 := hk24.size; have o24 := hk24.own
              simp only [List.mem_cons, List.not_mem_nil, or_false, forall_eq] at o24
              refine Pure.calls (rPiece_any (St.getD x10.toNat ⟨0, []⟩) (hs4.keep hb24) (piece_len xT) (hp.keep hb24) hS) fun w25 hd25 => ?_
              have hb25 := hb24.trans (hd25.mono hb24.size)
              refine ⟨_, rfl, .all hd25, ?_, ?_⟩
              · intro h18 w26 hb26 hk26
                try simp only [Bool.not_eq_true', Bool.not_eq_false', decide_eq_true_eq, decide_eq_false_iff_not] at h18
                have y26 := hb26.size
                have z26 := hk26.size; have o26 := hk26.own
                simp only [List.mem_cons, List.not_mem_nil, or_false, forall_eq] at o26
                have hse : storeErr W St = pieceErr W (St.getD x10.toNat ⟨0, []⟩) := by rw [hSE, drop_get (by omega), storeErr, if_pos (by assumption)]
                exact pureL_err (by unfold chooseM; rw [if_neg (show ¬¬ OkW W by simpa using hW), if_neg (by omega), if_neg (by omega), hE0, if_neg (by decide), hse, if_pos (by assumption)]) hb26
              · intro h19
                try simp only [Bool.not_eq_true', Bool.not_eq_false', decide_eq_true_eq, decide_eq_false_iff_not] at h19
                refine ⟨(by first | omega | (simp only; omega)), ?_⟩
                intro w27 hb27 hk27
                have y27 := hb27.size
                have z27 := hk27.size; have o27 := hk27.own
                simp only [List.mem_cons, List.not_mem_nil, or_false, forall_eq] at o27
                refine ⟨?_, (by first | omega | (simp only; omega))⟩
                exact ⟨⟨by omega, by omega⟩, store_step hSE (by assumption) (by omega) (by omega)⟩
            · intro h20 m24 g_m24
              try simp only [Bool.not_eq_true', Bool.not_eq_false', decide_eq_true_eq, decide_eq_false_iff_not] at h20
              have hS0 : storeErr W St = 0 := by rw [hSE, show x10.toNat = St.length by omega, List.drop_length]; rfl
              refine ⟨fun ls w' => match ls with | [.sl a n c, .int _ ii] => (0 ≤ ii ∧ ii ≤ St.length) ∧ n = (chosen W p C St ii.toNat).length ∧ RowE 3 1 w.heap.size [m1] a n c (ints (chosen W p C St ii.toNat)) w' | _ => False, fun ls => match ls with | [_, .int _ ii] => (St.length - ii).toNat | _ => 0, ?_, ?_⟩
              · intro w29 hb29 hk29 hc29_m24
                have y29 := hb29.size
                have z29 := hk29.size; have o29 := hk29.own
                simp only [List.mem_cons, List.not_mem_nil, or_false, forall_eq_or_imp, forall_eq] at o29
                exact ⟨⟨by omega, by omega⟩, rfl, .lit⟩
              rintro a6 m26 m27 x13 w30 hb30 ⟨⟨v0, vl⟩, hnn, RR⟩
              have y30 := hb30.size
              have hlc := chosen_len W p C St x13.toNat
              subst hnn
              have S : Since m1 w30 w30 := ⟨⟨rfl, rfl, rfl, Nat.le_refl _, fun _ _ _ => rfl⟩⟩
              refine ⟨?_, ?_⟩
              · intro h21
                try simp only [Bool.not_eq_true', Bool.not_eq_false', decide_eq_true_eq, decide_eq_false_iff_not] at h21
                refine ⟨fun ls w' => match ls with | [.bool t] => t = (decide ((St.getD x13.toNat ⟨0, []⟩).pat = p ∧ goodM W (St.getD x13.toNat ⟨0, []⟩))) ∧ Since m1 w30 w' | _ => False, ?_, ?_⟩
                · refine load_piece_0 hT hb30 (by omega) fun m28 m29 hm5 => ⟨.inl hm5, ?_⟩
                  refine ⟨?_, ?_⟩
                  · intro h22
                    try simp only [Bool.not_eq_true', Bool.not_eq_false', decide_eq_true_eq, decide_eq_false_iff_not] at h22
                    refine load_piece hT hb30 (by omega) fun m30 m31 hm6 a7 m33 hs6 => ⟨.inl hm6, ?_⟩
                    have hx0 : pieceErr W (St.getD x13.toNat ⟨0, []⟩) = 0 := store_all hS0 _ (getD_in (by omega))
                    intro w32 hb32 hk32
                    have y32 := hb32.size
                    have z32 := hk32.size; have o32 := hk32.own
                    simp only [List.mem_cons, List.not_mem_nil, or_false, forall_eq] at o32
                    have S_32 := S.kio hk32 (allc (.inl (by omega)) all0)
                    have RR_32 := RR.chg (KeptIn.chg hk32) (fun _ h => h)
                    refine Pure.calls (rGood_any (St.getD x13.toNat ⟨0, []⟩) (hs6.keep hb32) (piece_len xT) (hp.keep hb32) hS (pieceErr_ok hx0).1 (pieceErr_ok hx0).2.1) fun w33 hd33 => ?_
                    have hb33 := hb32.trans (hd33.mono hb32.size)
                    have z33 := hd33.size
                    have S_33 := S_32.below hd33
                    have RR_33 := RR_32.below hd33
                    refine ⟨_, rfl, .all hd33, ?_⟩
                    intro w34 hb34 hk34
                    have y34 := hb34.size
                    have z34 := hk34.size; have o34 := hk34.own
                    simp only [List.mem_cons, List.not_mem_nil, or_false, forall_eq] at o34
                    have S_34 := S_33.ko hk34 (allc (.inl (by omega)) all0)
                    have RR_34 := RR_33.chg (Chg.kept hk34) (fun _ h => h)
                    exact ⟨(by rw [decide_eq_decide]; exact ⟨fun g => ⟨by assumption, g⟩, fun g => g.2⟩), S_34⟩
                  · intro h23 w35 hb35 hk35
                    try simp only [Bool.not_eq_true', Bool.not_eq_false', decide_eq_true_eq, decide_eq_false_iff_not] at h23
                    have y35 := hb35.size
                    have z35 := hk35.size; have o35 := hk35.own
                    simp only [List.mem_cons, List.not_mem_nil, or_false, forall_eq] at o35
                    have S_35 := S.ko hk35 (allc (.inl (by omega)) all0)
                    have RR_35 := RR.chg (Chg.kept hk35) (fun _ h => h)
                    exact ⟨(by symm; rw [decide_eq_false_iff_not]; exact fun g => absurd g.1 (by assumption)), S_35⟩
                rintro t4 w36 hb36 ⟨ht4, S⟩
                have y36 := hb36.size
                have zzht4 := S.size
                refine ⟨fun ls w' => match ls with | [.bool t, .int _ ii] => (0 ≤ ii ∧ ii ≤ W.fits.length) ∧ t = decide (((St.getD x13.toNat ⟨0, []⟩).pat = p ∧ goodM W (St.getD x13.toNat ⟨0, []⟩)) ∧ ∀ i : Nat, i < ii.toNat → bothOk p (W.fits.getD i ⟨0, 0, 0, 0, (0, 0)⟩) (St.getD x13.toNat ⟨0, []⟩) C) ∧ Since m1 w30 w' | _ => False, fun ls => match ls with | [_, .int _ ii] => (W.fits.length - ii).toNat | _ => 0, ?_, ?_⟩
                · intro w38 hb38 hk38
                  have y38 := hb38.size
                  have z38 := hk38.size; have o38 := hk38.own
                  simp only [List.mem_cons, List.not_mem_nil, or_false, forall_eq] at o38
                  have S_38 := S.ko hk38 (allc (.inl (by omega)) all0)
                  exact ⟨⟨by omega, by omega⟩, by rw [ht4, decide_eq_decide]; exact ⟨fun g => ⟨g, fun i hi => by omega⟩, fun g => g.1⟩, S_38⟩
                rintro t5 x16 w39 hb39 ⟨⟨f0, fl⟩, ht5, S⟩
                have y39 := hb39.size
                have zz10 := S.size
                refine ⟨fun ls w' => match ls with | [.bool t] => t = (decide (x16 < (W.fits.length : Int)) && t5) ∧ Since m1 w30 w' | _ => False, ?_, ?_⟩
                · refine ⟨?_, ?_⟩
                  · intro h24 w41 hb41 hk41 hc41_m1
                    try simp only [Bool.not_eq_true', Bool.not_eq_false', decide_eq_true_eq, decide_eq_false_iff_not] at h24
                    have y41 := hb41.size
                    have z41 := hk41.size; have o41 := hk41.own
                    simp only [List.mem_cons, List.not_mem_nil, or_false, forall_eq] at o41
                    have S_41 := S.ko hk41 (allc (.inl (by omega)) all0)
                    exact ⟨by rw [decide_eq_true (by assumption), Bool.true_and], S_41⟩
                  · intro h25 w42 hb42 hk42 hc42_m1
                    try simp only [Bool.not_eq_true', Bool.not_eq_false', decide_eq_true_eq, decide_eq_false_iff_not] at h25
                    have y42 := hb42.size
                    have z42 := hk42.size; have o42 := hk42.own
                    simp only [List.mem_cons, List.not_mem_nil, or_false, forall_eq] at o42
                    have S_42 := S.ko hk42 (allc (.inl (by omega)) all0)
                    exact ⟨by rw [decide_eq_false (by omega), Bool.false_and], S_42⟩
                rintro t6 w43 hb43 ⟨ht6, S⟩
                have y43 := hb43.size
                have zz12 := S.size
                have RS := RR.chg S.h (by simp)
                have hend : (t6 = false) → fitsIn W p C (St.getD x13.toNat ⟨0, []⟩) = t5 := fun h6 => fits_end hW hE0 ht5 (by omega) (fun h => by rw [h, Bool.and_true] at ht6; have := of_decide_eq_false (ht6.symm.trans h6); omega)
                refine ⟨?_, ?_⟩
                · intro h26
                  try simp only [Bool.not_eq_true', Bool.not_eq_false', decide_eq_true_eq, decide_eq_false_iff_not] at h26
                  refine load_fit hf hb43 (by have := ht6.symm.trans (by assumption : t6 = true); simp only [Bool.and_eq_true, decide_eq_true_eq] at this; omega) fun m37 m38 hm7 => ⟨.inl hm7, ?_⟩
                  have hk6 : x16 < (W.fits.length : Int) ∧ t5 = true := by have := ht6.symm.trans (by assumption : t6 = true); simpa using this
                  intro m39 g_m39
                  refine ⟨fun ls w' => match ls with | [.bool t, .int _ ii] => (0 ≤ ii ∧ ii ≤ C.length) ∧ t = decide (∀ j : Nat, j < ii.toNat → hOk p (W.fits.getD x16.toNat ⟨0, 0, 0, 0, (0, 0)⟩) (St.getD x13.toNat ⟨0, []⟩) (C.getD j ⟨0, []⟩) ∧ sOk p (W.fits.getD x16.toNat ⟨0, 0, 0, 0, (0, 0)⟩) (St.getD x13.toNat ⟨0, []⟩) (C.getD j ⟨0, []⟩)) ∧ Since m1 w30 w' | _ => False, fun ls => match ls with | [_, .int _ ii] => (C.length - ii).toNat | _ => 0, ?_, ?_⟩
                  · intro w45 hb45 hk45
                    have y45 := hb45.size
                    have z45 := hk45.size; have o45 := hk45.own
                    simp only [List.mem_cons, List.not_mem_nil, or_false, forall_eq_or_imp, forall_eq] at o45
                    have S_45 := S.ko hk45 (allc (.inr (by omega)) (allc (.inl (by omega)) all0))
                    have RS_45 := (RS.grow (ms := [m39]) (allc g_m39 all0)).chg (Chg.kept hk45) (fun _ h => h)
                    exact ⟨⟨by omega, by omega⟩, by rw [hk6.2]; symm; rw [decide_eq_true_eq]; exact fun j hj => by omega, S_45⟩
                  rintro t7 x23 w46 hb46 ⟨⟨c0, cl⟩, ht7, S⟩
                  have y46 := hb46.size
                  have zz13 := S.size
                  refine ⟨?_, ?_⟩
                  · intro h27
                    try simp only [Bool.not_eq_true', Bool.not_eq_false', decide_eq_true_eq, decide_eq_false_iff_not] at h27
                    refine ⟨fun ls w' => match ls with | [.bool t] => t = (decide ((W.fits.getD x16.toNat ⟨0, 0, 0, 0, (0, 0)⟩).hole = p ∧ (W.fits.getD x16.toNat ⟨0, 0, 0, 0, (0, 0)⟩).shaft = (C.getD x23.toNat ⟨0, []⟩).pat)) ∧ Since m1 w30 w' | _ => False, ?_, ?_⟩
                    · refine ⟨?_, ?_⟩
                      · intro h28
                        try simp only [Bool.not_eq_true', Bool.not_eq_false', decide_eq_true_eq, decide_eq_false_iff_not] at h28
                        refine load_piece_0 hC hb46 (by omega) fun m40 m41 hm8 => ?_
                        refine ⟨(by first | omega | (simp only; omega)), ?_⟩
                        intro w48 hb48 hk48 hc48_m39 hc48_m39'
                        have y48 := hb48.size
                        have z48 := hk48.size; have o48 := hk48.own
                        simp only [List.mem_cons, List.not_mem_nil, or_false, forall_eq_or_imp, forall_eq] at o48
                        have S_48 := S.ko hk48 (allc (.inr (by omega)) (allc (.inl (by omega)) all0))
                        exact ⟨(by show decide (_ = _) = _; rw [decide_eq_decide]; exact ⟨fun g => ⟨by assumption, g⟩, fun g => g.2⟩), S_48⟩
                      · intro h29 w49 hb49 hk49 hc49_m39
                        try simp only [Bool.not_eq_true', Bool.not_eq_false', decide_eq_true_eq, decide_eq_false_iff_not] at h29
                        have y49 := hb49.size
                        have z49 := hk49.size; have o49 := hk49.own
                        simp only [List.mem_cons, List.not_mem_nil, or_false, forall_eq_or_imp, forall_eq] at o49
                        have S_49 := S.ko hk49 (allc (.inr (by omega)) (allc (.inl (by omega)) all0))
                        exact ⟨(by symm; rw [decide_eq_false_iff_not]; exact fun g => absurd g.1 (by assumption)), S_49⟩
                    rintro t8 w50 hb50 ⟨ht8, S⟩
                    have y50 := hb50.size
                    have zzht8 := S.size
                    refine ⟨fun ls w' => match ls with | [.bool t] => t = (decide ((∀ j : Nat, j < x23.toNat → hOk p (W.fits.getD x16.toNat ⟨0, 0, 0, 0, (0, 0)⟩) (St.getD x13.toNat ⟨0, []⟩) (C.getD j ⟨0, []⟩) ∧ sOk p (W.fits.getD x16.toNat ⟨0, 0, 0, 0, (0, 0)⟩) (St.getD x13.toNat ⟨0, []⟩) (C.getD j ⟨0, []⟩)) ∧ hOk p (W.fits.getD x16.toNat ⟨0, 0, 0, 0, (0, 0)⟩) (St.getD x13.toNat ⟨0, []⟩) (C.getD x23.toNat ⟨0, []⟩))) ∧ Since m1 w30 w' | _ => False, ?_, ?_⟩
                    · refine ⟨?_, ?_⟩
                      · intro h30
                        try simp only [Bool.not_eq_true', Bool.not_eq_false', decide_eq_true_eq, decide_eq_false_iff_not] at h30
                        refine ⟨fun ls w' => match ls with | [.bool t] => t = (t7 && decide (isF (W.fits.getD x16.toNat ⟨0, 0, 0, 0, (0, 0)⟩) ((St.getD x13.toNat ⟨0, []⟩).sizes.getD (W.fits.getD x16.toNat ⟨0, 0, 0, 0, (0, 0)⟩).hs.toNat 0) ((C.getD x23.toNat ⟨0, []⟩).sizes.getD (W.fits.getD x16.toNat ⟨0, 0, 0, 0, (0, 0)⟩).ss.toNat 0))) ∧ Since m1 w30 w' | _ => False, ?_, ?_⟩
                        · refine ⟨?_, ?_⟩
                          · intro h31
                            try simp only [Bool.not_eq_true', Bool.not_eq_false', decide_eq_true_eq, decide_eq_false_iff_not] at h31
                            refine load_piece_1 hT hb50 (by omega) fun m45 m46 hm9 a8 m48 hs9 => ?_
                            have h8 := of_decide_eq_true (ht8.symm.trans (by assumption : t8 = true))
                            have hx0 : pieceErr W (St.getD x13.toNat ⟨0, []⟩) = 0 := store_all hS0 _ (getD_in (by omega))
                            have hq0 : pieceErr W (C.getD x23.toNat ⟨0, []⟩) = 0 := ((clock_all hE0).1 _ (getD_in (by omega))).1
                            have hxp := (of_decide_eq_true (ht5.symm.trans hk6.2)).1.1
                            refine ⟨(by first | omega | (simp only; omega)), ?_⟩
                            refine load_int hs9 hb50 (by exact (ix_in hW (by omega) hx0).1 (by omega)) fun m49 m50 hm10 => ?_
                            refine ⟨(by first | omega | (simp only; omega)), ?_⟩
                            refine load_piece_1 hC hb50 (by omega) fun m51 m52 hm11 a9 m54 hs11 => ?_
                            refine ⟨(by first | omega | (simp only; omega)), ?_⟩
                            refine load_int hs11 hb50 (by exact (ix_in hW (by omega) hq0).2 (by omega)) fun m55 m56 hm12 => ?_
                            refine ⟨(by first | omega | (simp only; omega)), ?_⟩
                            intro w53 hb53 hk53
                            have y53 := hb53.size
                            have z53 := hk53.size; have o53 := hk53.own
                            simp only [List.mem_cons, List.not_mem_nil, or_false, forall_eq_or_imp, forall_eq] at o53
                            have S_53 := S.kio hk53 (allc (.inr (by omega)) (allc (.inl (by omega)) all0))
                            refine Pure.calls (rFits_any (W.fits.getD x16.toNat ⟨0, 0, 0, 0, (0, 0)⟩) _ _ (sz_ok hx0 _) (sz_ok hq0 _)) fun w54 hd54 => ?_
                            have hb54 := hb53.trans (hd54.mono hb53.size)
                            have z54 := hd54.size
                            have S_54 := S_53.below hd54
                            refine ⟨_, rfl, .all hd54, ?_⟩
                            intro w55 hb55 hk55 hc55_m39 hc55_m39'
                            have y55 := hb55.size
                            have z55 := hk55.size; have o55 := hk55.own
                            simp only [List.mem_cons, List.not_mem_nil, or_false, forall_eq_or_imp, forall_eq] at o55
                            have S_55 := S_54.ko hk55 (allc (.inr (by omega)) (allc (.inl (by omega)) all0))
                            exact ⟨by rw [show t7 = true by assumption, Bool.true_and], S_55⟩
                          · intro h32 w56 hb56 hk56
                            try simp only [Bool.not_eq_true', Bool.not_eq_false', decide_eq_true_eq, decide_eq_false_iff_not] at h32
                            have y56 := hb56.size
                            have z56 := hk56.size; have o56 := hk56.own
                            simp only [List.mem_cons, List.not_mem_nil, or_false, forall_eq_or_imp, forall_eq] at o56
                            have S_56 := S.ko hk56 (allc (.inr (by omega)) (allc (.inl (by omega)) all0))
                            exact ⟨by rw [show t7 = false by assumption, Bool.false_and], S_56⟩
                        rintro t10 w57 hb57 ⟨ht10, S⟩
                        have y57 := hb57.size
                        have zzht10 := S.size
                        intro w58 hb58 hk58
                        have y58 := hb58.size
                        have z58 := hk58.size; have o58 := hk58.own
                        simp only [List.mem_cons, List.not_mem_nil, or_false, forall_eq_or_imp, forall_eq] at o58
                        have S_58 := S.ko hk58 (allc (.inr (by omega)) (allc (.inl (by omega)) all0))
                        exact ⟨by rw [ht10, ht7, Bool.eq_iff_iff, Bool.and_eq_true, decide_eq_true_eq, decide_eq_true_eq, decide_eq_true_eq]; have h8 := of_decide_eq_true (ht8.symm.trans (by assumption)); exact ⟨fun g => ⟨g.1, fun _ => g.2⟩, fun g => ⟨g.1, g.2 h8⟩⟩, S_58⟩
                      · intro h33 w59 hb59 hk59
                        try simp only [Bool.not_eq_true', Bool.not_eq_false', decide_eq_true_eq, decide_eq_false_iff_not] at h33
                        have y59 := hb59.size
                        have z59 := hk59.size; have o59 := hk59.own
                        simp only [List.mem_cons, List.not_mem_nil, or_false, forall_eq_or_imp, forall_eq] at o59
                        have S_59 := S.ko hk59 (allc (.inr (by omega)) (allc (.inl (by omega)) all0))
                        exact ⟨by rw [ht7, decide_eq_decide]; have h8 := of_decide_eq_false (ht8.symm.trans (by assumption)); exact ⟨fun g => ⟨g, fun k => absurd k h8⟩, fun g => g.1⟩, S_59⟩
                    rintro t11 w60 hb60 ⟨ht11, S⟩
                    have y60 := hb60.size
                    have zzht11 := S.size
                    refine ⟨fun ls w' => match ls with | [.bool t] => t = (decide ((W.fits.getD x16.toNat ⟨0, 0, 0, 0, (0, 0)⟩).shaft = p ∧ (W.fits.getD x16.toNat ⟨0, 0, 0, 0, (0, 0)⟩).hole = (C.getD x23.toNat ⟨0, []⟩).pat)) ∧ Since m1 w30 w' | _ => False, ?_, ?_⟩
                    · refine ⟨?_, ?_⟩
                      · intro h34
                        try simp only [Bool.not_eq_true', Bool.not_eq_false', decide_eq_true_eq, decide_eq_false_iff_not] at h34
                        refine load_piece_0 hC hb60 (by omega) fun m60 m61 hm13 => ?_
                        refine ⟨(by first | omega | (simp only; omega)), ?_⟩
                        intro w62 hb62 hk62 hc62_m39 hc62_m39'
                        have y62 := hb62.size
                        have z62 := hk62.size; have o62 := hk62.own
                        simp only [List.mem_cons, List.not_mem_nil, or_false, forall_eq_or_imp, forall_eq] at o62
                        have S_62 := S.ko hk62 (allc (.inr (by omega)) (allc (.inl (by omega)) all0))
                        exact ⟨(by show decide (_ = _) = _; rw [decide_eq_decide]; exact ⟨fun g => ⟨by assumption, g⟩, fun g => g.2⟩), S_62⟩
                      · intro h35 w63 hb63 hk63 hc63_m39
                        try simp only [Bool.not_eq_true', Bool.not_eq_false', decide_eq_true_eq, decide_eq_false_iff_not] at h35
                        have y63 := hb63.size
                        have z63 := hk63.size; have o63 := hk63.own
                        simp only [List.mem_cons, List.not_mem_nil, or_false, forall_eq_or_imp, forall_eq] at o63
                        have S_63 := S.ko hk63 (allc (.inr (by omega)) (allc (.inl (by omega)) all0))
                        exact ⟨(by symm; rw [decide_eq_false_iff_not]; exact fun g => absurd g.1 (by assumption)), S_63⟩
                    rintro t12 w64 hb64 ⟨ht12, S⟩
                    have y64 := hb64.size
                    have zzht12 := S.size
                    refine ⟨fun ls w' => match ls with | [.bool t] => t = (decide (((∀ j : Nat, j < x23.toNat → hOk p (W.fits.getD x16.toNat ⟨0, 0, 0, 0, (0, 0)⟩) (St.getD x13.toNat ⟨0, []⟩) (C.getD j ⟨0, []⟩) ∧ sOk p (W.fits.getD x16.toNat ⟨0, 0, 0, 0, (0, 0)⟩) (St.getD x13.toNat ⟨0, []⟩) (C.getD j ⟨0, []⟩)) ∧ hOk p (W.fits.getD x16.toNat ⟨0, 0, 0, 0, (0, 0)⟩) (St.getD x13.toNat ⟨0, []⟩) (C.getD x23.toNat ⟨0, []⟩)) ∧ sOk p (W.fits.getD x16.toNat ⟨0, 0, 0, 0, (0, 0)⟩) (St.getD x13.toNat ⟨0, []⟩) (C.getD x23.toNat ⟨0, []⟩))) ∧ Since m1 w30 w' | _ => False, ?_, ?_⟩
                    · refine ⟨?_, ?_⟩
                      · intro h36
                        try simp only [Bool.not_eq_true', Bool.not_eq_false', decide_eq_true_eq, decide_eq_false_iff_not] at h36
                        refine ⟨fun ls w' => match ls with | [.bool t] => t = (t11 && decide (isF (W.fits.getD x16.toNat ⟨0, 0, 0, 0, (0, 0)⟩) ((C.getD x23.toNat ⟨0, []⟩).sizes.getD (W.fits.getD x16.toNat ⟨0, 0, 0, 0, (0, 0)⟩).hs.toNat 0) ((St.getD x13.toNat ⟨0, []⟩).sizes.getD (W.fits.getD x16.toNat ⟨0, 0, 0, 0, (0, 0)⟩).ss.toNat 0))) ∧ Since m1 w30 w' | _ => False, ?_, ?_⟩
                        · refine ⟨?_, ?_⟩
                          · intro h37
                            try simp only [Bool.not_eq_true', Bool.not_eq_false', decide_eq_true_eq, decide_eq_false_iff_not] at h37
                            refine load_piece_1 hC hb64 (by omega) fun m65 m66 hm14 a10 m68 hs14 => ?_
                            have h12 := of_decide_eq_true (ht12.symm.trans (by assumption : t12 = true))
                            have hx0 : pieceErr W (St.getD x13.toNat ⟨0, []⟩) = 0 := store_all hS0 _ (getD_in (by omega))
                            have hq0 : pieceErr W (C.getD x23.toNat ⟨0, []⟩) = 0 := ((clock_all hE0).1 _ (getD_in (by omega))).1
                            have hxp := (of_decide_eq_true (ht5.symm.trans hk6.2)).1.1
                            refine ⟨(by first | omega | (simp only; omega)), ?_⟩
                            refine load_int hs14 hb64 (by exact (ix_in hW (by omega) hq0).1 (by omega)) fun m69 m70 hm15 => ?_
                            refine ⟨(by first | omega | (simp only; omega)), ?_⟩
                            refine load_piece_1 hT hb64 (by omega) fun m71 m72 hm16 a11 m74 hs16 => ?_
                            refine ⟨(by first | omega | (simp only; omega)), ?_⟩
                            refine load_int hs16 hb64 (by exact (ix_in hW (by omega) hx0).2 (by omega)) fun m75 m76 hm17 => ?_
                            refine ⟨(by first | omega | (simp only; omega)), ?_⟩
                            intro w67 hb67 hk67
                            have y67 := hb67.size
                            have z67 := hk67.size; have o67 := hk67.own
                            simp only [List.mem_cons, List.not_mem_nil, or_false, forall_eq_or_imp, forall_eq] at o67
                            have S_67 := S.kio hk67 (allc (.inr (by omega)) (allc (.inl (by omega)) all0))
                            refine Pure.calls (rFits_any (W.fits.getD x16.toNat ⟨0, 0, 0, 0, (0, 0)⟩) _ _ (sz_ok hq0 _) (sz_ok hx0 _)) fun w68 hd68 => ?_
                            have hb68 := hb67.trans (hd68.mono hb67.size)
                            have z68 := hd68.size
                            have S_68 := S_67.below hd68
                            refine ⟨_, rfl, .all hd68, ?_⟩
                            intro w69 hb69 hk69 hc69_m39 hc69_m39'
                            have y69 := hb69.size
                            have z69 := hk69.size; have o69 := hk69.own
                            simp only [List.mem_cons, List.not_mem_nil, or_false, forall_eq_or_imp, forall_eq] at o69
                            have S_69 := S_68.ko hk69 (allc (.inr (by omega)) (allc (.inl (by omega)) all0))
                            exact ⟨by rw [show t11 = true by assumption, Bool.true_and], S_69⟩
                          · intro h38 w70 hb70 hk70
                            try simp only [Bool.not_eq_true', Bool.not_eq_false', decide_eq_true_eq, decide_eq_false_iff_not] at h38
                            have y70 := hb70.size
                            have z70 := hk70.size; have o70 := hk70.own
                            simp only [List.mem_cons, List.not_mem_nil, or_false, forall_eq_or_imp, forall_eq] at o70
                            have S_70 := S.ko hk70 (allc (.inr (by omega)) (allc (.inl (by omega)) all0))
                            exact ⟨by rw [show t11 = false by assumption, Bool.false_and], S_70⟩
                        rintro t14 w71 hb71 ⟨ht14, S⟩
                        have y71 := hb71.size
                        have zzht14 := S.size
                        intro w72 hb72 hk72
                        have y72 := hb72.size
                        have z72 := hk72.size; have o72 := hk72.own
                        simp only [List.mem_cons, List.not_mem_nil, or_false, forall_eq_or_imp, forall_eq] at o72
                        have S_72 := S.ko hk72 (allc (.inr (by omega)) (allc (.inl (by omega)) all0))
                        exact ⟨by rw [ht14, ht11, Bool.eq_iff_iff, Bool.and_eq_true, decide_eq_true_eq, decide_eq_true_eq, decide_eq_true_eq]; have h12 := of_decide_eq_true (ht12.symm.trans (by assumption)); exact ⟨fun g => ⟨g.1, fun _ => g.2⟩, fun g => ⟨g.1, g.2 h12⟩⟩, S_72⟩
                      · intro h39 w73 hb73 hk73
                        try simp only [Bool.not_eq_true', Bool.not_eq_false', decide_eq_true_eq, decide_eq_false_iff_not] at h39
                        have y73 := hb73.size
                        have z73 := hk73.size; have o73 := hk73.own
                        simp only [List.mem_cons, List.not_mem_nil, or_false, forall_eq_or_imp, forall_eq] at o73
                        have S_73 := S.ko hk73 (allc (.inr (by omega)) (allc (.inl (by omega)) all0))
                        exact ⟨by rw [ht11, decide_eq_decide]; have h12 := of_decide_eq_false (ht12.symm.trans (by assumption)); exact ⟨fun g => ⟨g, fun k => absurd k h12⟩, fun g => g.1⟩, S_73⟩
                    rintro t15 w74 hb74 ⟨ht15, S⟩
                    have y74 := hb74.size
                    have zzht15 := S.size
                    refine ⟨(by first | omega | (simp only; omega)), ?_⟩
                    intro w75 hb75 hk75
                    have y75 := hb75.size
                    have z75 := hk75.size; have o75 := hk75.own
                    simp only [List.mem_cons, List.not_mem_nil, or_false, forall_eq_or_imp, forall_eq] at o75
                    have S_75 := S.ko hk75 (allc (.inr (by omega)) (allc (.inl (by omega)) all0))
                    refine ⟨?_, (by first | omega | (simp only; omega))⟩
                    exact ⟨⟨by omega, by omega⟩, by rw [ht15, decide_eq_decide]; exact ⟨fun g => all_step c0 g.1.1 ⟨g.1.2, g.2⟩, fun g => ⟨⟨fun j hj => g j (by omega), (g x23.toNat (by omega)).1⟩, (g x23.toNat (by omega)).2⟩⟩, S_75⟩
                  · intro h40
                    try simp only [Bool.not_eq_true', Bool.not_eq_false', decide_eq_true_eq, decide_eq_false_iff_not] at h40
                    refine ⟨(by first | omega | (simp only; omega)), ?_⟩
                    intro w76 hb76 hk76
                    have y76 := hb76.size
                    have z76 := hk76.size; have o76 := hk76.own
                    simp only [List.mem_cons, List.not_mem_nil, or_false, forall_eq_or_imp, forall_eq] at o76
                    have S_76 := S.ko hk76 (allc (.inr (by omega)) (allc (.inl (by omega)) all0))
                    refine ⟨?_, (by first | omega | (simp only; omega))⟩
                    exact ⟨⟨by omega, by omega⟩, by have hl : x23.toNat = C.length := (by omega); rw [hl] at ht7; rw [ht7, decide_eq_decide]; have h5 := of_decide_eq_true (ht5.symm.trans hk6.2); exact ⟨fun g => ⟨h5.1, all_step f0 h5.2 g⟩, fun g => g.2 x16.toNat (by omega)⟩, S_76⟩
                · intro h41
                  try simp only [Bool.not_eq_true', Bool.not_eq_false', decide_eq_true_eq, decide_eq_false_iff_not] at h41
                  refine ⟨?_, ?_⟩
                  · intro h42 m80 g_m80 w77 hb77 hk77 hc77_m80
                    try simp only [Bool.not_eq_true', Bool.not_eq_false', decide_eq_true_eq, decide_eq_false_iff_not] at h42
                    have y77 := hb77.size
                    have z77 := hk77.size; have o77 := hk77.own
                    simp only [List.mem_cons, List.not_mem_nil, or_false, forall_eq_or_imp, forall_eq] at o77
                    have S_77 := S.ko hk77 (allc (.inr (by omega)) (allc (.inl (by omega)) all0))
                    have RS_77 := (RS.grow (ms := [m80]) (allc g_m80 all0)).chg (Chg.kept hk77) (fun _ h => h)
                    refine append_rowE (P := Try.prog) (bytes := 8) (by kernel_rfl) (by omega) RS_77 (m := 1) (news := [I _]) (Cells.obj (vs := [I _]) hc77_m80) rfl (List.forall_mem_cons.2 ⟨rfl, by simp⟩) (by omega) (by omega) (by have := hb77.size; omega) hk77.own (by omega) fun aR78 cR78 w78 RS_78r S78 cS78 hS78 => ?_
                    have RS_78 : RowE _ _ _ _ _ _ _ _ _ := .inr RS_78r
                    have z78 := cS78.size
                    have kx78 : KeepX true w.heap.size [m80, m1] (fun _ => False) w77 w78 := cS78.own (fun x hx => ⟨hk77.own x hx, fun h => (hS78 x h).2 hx⟩) (by simp) (fun _ => ⟨hb77.size, fun x hx => by have := (hS78 x hx).1; omega⟩)
                    refine ⟨_, _, _, rfl, kx78, (by first | omega | (simp only; omega)), ?_⟩
                    intro w79 hb79 hk79
                    have y79 := hb79.size
                    have z79 := hk79.size; have o79 := hk79.own
                    simp only [List.mem_cons, List.not_mem_nil, or_false, forall_eq_or_imp, forall_eq] at o79
                    have RS_79 := RS_78.chg (Chg.kept hk79) (fun _ h => h)
                    refine ⟨?_, (by first | omega | (simp only; omega))⟩
                    exact ⟨⟨by omega, by omega⟩, by rw [show (x13 + 1).toNat = x13.toNat + 1 by omega, chosen_hit ((hend (by assumption)).trans (by assumption)), List.length_append]; rfl, by rw [show (x13 + 1).toNat = x13.toNat + 1 by omega, chosen_hit ((hend (by assumption)).trans (by assumption)), ints_append]; rw [Int.toNat_of_nonneg v0]; exact RS_79.less (by simp)⟩
                  · intro h43
                    try simp only [Bool.not_eq_true', Bool.not_eq_false', decide_eq_true_eq, decide_eq_false_iff_not] at h43
                    refine ⟨(by first | omega | (simp only; omega)), ?_⟩
                    intro w80 hb80 hk80
                    have y80 := hb80.size
                    have z80 := hk80.size; have o80 := hk80.own
                    simp only [List.mem_cons, List.not_mem_nil, or_false, forall_eq] at o80
                    have S_80 := S.ko hk80 (allc (.inl (by omega)) all0)
                    have RS_80 := RS.chg (Chg.kept hk80) (fun _ h => h)
                    refine ⟨?_, (by first | omega | (simp only; omega))⟩
                    exact ⟨⟨by omega, by omega⟩, by rw [show (x13 + 1).toNat = x13.toNat + 1 by omega, chosen_miss ((hend (by assumption)).trans (by assumption))], by rw [show (x13 + 1).toNat = x13.toNat + 1 by omega, chosen_miss ((hend (by assumption)).trans (by assumption))]; exact RS_80.less (by simp)⟩
              · intro h44 w81 hb81 hk81
                try simp only [Bool.not_eq_true', Bool.not_eq_false', decide_eq_true_eq, decide_eq_false_iff_not] at h44
                have y81 := hb81.size
                have z81 := hk81.size; have o81 := hk81.own
                simp only [List.mem_cons, List.not_mem_nil, or_false, forall_eq] at o81
                have S_81 := S.ko hk81 (allc (.inl (by omega)) all0)
                have RR_81 := RR.chg (Chg.kept hk81) (fun _ h => h)
                have hfin : chooseM W p C St = (chosen W p C St St.length, 0) := by unfold chooseM; rw [if_neg (show ¬¬ OkW W by simpa using hW), if_neg (by omega), if_neg (by omega), hE0, if_neg (by decide), hS0, if_neg (by decide)]
                have hj : x13.toNat = St.length := by omega
                rw [hj] at RR_81 ⊢
                unfold PureL; rw [hfin]
                exact ⟨_, _, rfl, hb81, rowE_lies RR_81 (Nat.le_refl _)⟩
end Go.Proofs.R12
end
section
/- The conditions of the functions, printed by program; each is what the generator reckons (kernel_rfl). -/
namespace Go.Proofs
open Go.Vc
set_option maxRecDepth 100000 in
set_option maxHeartbeats 2000000 in
theorem vc6 (p0w0a : Option Addr) (p0w0n : Nat) (p0w0c : Nat) (p0w1a : Option Addr) (p0w1n : Nat) (p0w1c : Nat) (clocka : Option Addr) (clockn : Nat) (clockc : Nat) (x0 : Int) (x1a
    : Option Addr) (x1n : Nat) (x1c : Nat) (w : World) (R : Ending → World → Prop) (h : ∀ (m1 : Nat), w.heap.size ≤ m1 → ∀ (m2 : Nat), w.heap.size ≤ m2 → ∀ (w1 : World),
    RowKit.Below w.heap.size w w1 → Kept [m2, m1] w w1 → Calls Try.prog 13 #[Value.agg #[Value.slice p0w0a p0w0n p0w0c, Value.slice p0w1a p0w1n p0w1c]] w1 fun (e1 : Ending) (w2 :
    World) => ∃ (t1 : Bool), e1 = Ending.returned (Value.bool t1) ∧ KeepX true w.heap.size [m2, m1] (fun _ => False) w1 w2 ∧ (t1 = true → ∀ (w3 : World), RowKit.Below w.heap.size w
    w3 → Kept [m2, m1] w2 w3 → Calls Try.prog 14 #[] w3 fun (e2 : Ending) (w4 : World) => ∃ (t2 : Bool), e2 = Ending.returned (Value.bool t2) ∧ KeepX true w.heap.size [m2, m1] (fun
    _ => False) w3 w4 ∧ ∀ (w5 : World), RowKit.Below w.heap.size w w5 → Kept [m2, m1] w4 w5 → R (Ending.returned (Value.bool t2)) w5) ∧ (t1 = false → (25 < (↑clockn : Int) → ∀ (w6
    : World), RowKit.Below w.heap.size w w6 → Kept [m2, m1] w2 w6 → Calls Try.prog 14 #[] w6 fun (e3 : Ending) (w7 : World) => ∃ (t3 : Bool), e3 = Ending.returned (Value.bool t3) ∧
    KeepX true w.heap.size [m2, m1] (fun _ => False) w6 w7 ∧ ∀ (w8 : World), RowKit.Below w.heap.size w w8 → Kept [m2, m1] w7 w8 → R (Ending.returned (Value.bool t3)) w8) ∧
    ((↑clockn : Int) ≤ 25 → (30 < (↑x1n : Int) → ((↑x1n : Int) ≤ 200 → ∀ (w9 : World), RowKit.Below w.heap.size w w9 → Kept [m2, m1] w2 w9 → Calls Try.prog 14 #[] w9 fun (e4 :
    Ending) (w10 : World) => ∃ (t4 : Bool), e4 = Ending.returned (Value.bool t4) ∧ KeepX true w.heap.size [m2, m1] (fun _ => False) w9 w10 ∧ ∀ (w11 : World), RowKit.Below
    w.heap.size w w11 → Kept [m2, m1] w10 w11 → R (Ending.returned (Value.bool t4)) w11) ∧ (200 < (↑x1n : Int) → (205 < (↑x1n : Int) → ∀ (w12 : World), RowKit.Below w.heap.size w
    w12 → Kept [m2, m1] w2 w12 → Calls Try.prog 14 #[] w12 fun (e5 : Ending) (w13 : World) => ∃ (t5 : Bool), e5 = Ending.returned (Value.bool t5) ∧ KeepX true w.heap.size [m2, m1]
    (fun _ => False) w12 w13 ∧ ∀ (w14 : World), RowKit.Below w.heap.size w w14 → Kept [m2, m1] w13 w14 → R (Ending.returned (Value.bool t5)) w14) ∧ ((↑x1n : Int) ≤ 205 → ∀ (w15 :
    World), RowKit.Below w.heap.size w w15 → KeptIn [(0, w2.heap.size)] [m2, m1] w2 w15 → Calls Try.prog 22 #[Value.slice clocka clockn clockc] w15 fun (e6 : Ending) (w16 : World)
    => ∃ (a1 : Option Addr), ∃ (m8 : Nat), ∃ (m9 : Nat), e6 = Ending.returned (Value.slice a1 m8 m9) ∧ KeepX true w.heap.size [m2, m1] (fun _ => False) w15 w16 ∧ ∀ (w17 : World),
    RowKit.Below w.heap.size w w17 → KeptIn [(0, w16.heap.size)] [m2, m1] w16 w17 → Calls Try.prog 22 #[Value.slice x1a x1n x1c] w17 fun (e7 : Ending) (w18 : World) => ∃ (a2 :
    Option Addr), ∃ (m11 : Nat), ∃ (m12 : Nat), e7 = Ending.returned (Value.slice a2 m11 m12) ∧ KeepX true w.heap.size [m2, m1] (fun _ => False) w17 w18 ∧ ∀ (w19 : World),
    RowKit.Below w.heap.size w w19 → KeptIn [(0, w18.heap.size)] [m2, m1] w18 w19 → Calls Try.prog 15 #[Value.agg #[Value.slice p0w0a p0w0n p0w0c, Value.slice p0w1a p0w1n p0w1c]]
    w19 fun (e8 : Ending) (w20 : World) => ∃ (a3 : Option Addr), ∃ (m14 : Nat), ∃ (m15 : Nat), ∃ (a4 : Option Addr), ∃ (m16 : Nat), ∃ (m17 : Nat), e8 = Ending.returned (Value.agg
    #[Value.slice a3 m14 m15, Value.slice a4 m16 m17]) ∧ KeepX true w.heap.size [m2, m1] (fun _ => False) w19 w20 ∧ ∀ (w21 : World), RowKit.Below w.heap.size w w21 → KeptIn [(0,
    w20.heap.size)] [m2, m1] w20 w21 → Calls Try.prog 36 #[Value.agg #[Value.slice a3 m14 m15, Value.slice a4 m16 m17], Value.slice a1 m8 m9, Value.int IntKind.i64 x0, Value.slice
    a2 m11 m12] w21 fun (e9 : Ending) (w22 : World) => ∃ (a5 : Option Addr), ∃ (m19 : Nat), ∃ (m20 : Nat), ∃ (x1 : Int), e9 = Ending.returned (Value.tuple #[Value.slice a5 m19 m20,
    Value.int IntKind.i64 x1]) ∧ KeepX true w.heap.size [m2, m1] (fun _ => False) w21 w22 ∧ ∀ (w23 : World), RowKit.Below w.heap.size w w23 → Kept [m2, m1] w22 w23 → Calls Try.prog
    37 #[Value.agg #[Value.slice p0w0a p0w0n p0w0c, Value.slice p0w1a p0w1n p0w1c], Value.slice clocka clockn clockc, Value.int IntKind.i64 x0, Value.slice x1a x1n x1c] w23 fun
    (e10 : Ending) (w24 : World) => ∃ (a6 : Option Addr), ∃ (m22 : Nat), ∃ (m23 : Nat), ∃ (x2 : Int), e10 = Ending.returned (Value.tuple #[Value.slice a6 m22 m23, Value.int
    IntKind.i64 x2]) ∧ KeepX true w.heap.size [m2, m1] (fun _ => False) w23 w24 ∧ ∀ (w25 : World), RowKit.Below w.heap.size w w25 → Kept [m2, m1] w24 w25 → Calls Try.prog 26
    #[Value.slice a1 m8 m9, Value.slice clocka clockn clockc] w25 fun (e11 : Ending) (w26 : World) => ∃ (t6 : Bool), e11 = Ending.returned (Value.bool t6) ∧ KeepX true w.heap.size
    [m2, m1] (fun _ => False) w25 w26 ∧ (t6 = true → ∀ (w27 : World), RowKit.Below w.heap.size w w27 → Kept [m2, m1] w26 w27 → Calls Try.prog 26 #[Value.slice a2 m11 m12,
    Value.slice x1a x1n x1c] w27 fun (e12 : Ending) (w28 : World) => ∃ (t7 : Bool), e12 = Ending.returned (Value.bool t7) ∧ KeepX true w.heap.size [m2, m1] (fun _ => False) w27 w28
    ∧ (t7 = true → (x1 = x2 → ∀ (w29 : World), RowKit.Below w.heap.size w w29 → Kept [m2, m1] w28 w29 → Calls Try.prog 32 #[Value.slice a5 m19 m20, Value.slice a6 m22 m23] w29 fun
    (e13 : Ending) (w30 : World) => ∃ (t8 : Bool), e13 = Ending.returned (Value.bool t8) ∧ KeepX true w.heap.size [m2, m1] (fun _ => False) w29 w30 ∧ (t8 = true → ∀ (w31 : World),
    RowKit.Below w.heap.size w w31 → Kept [m2, m1] w30 w31 → Calls Try.prog 14 #[] w31 fun (e14 : Ending) (w32 : World) => ∃ (t9 : Bool), e14 = Ending.returned (Value.bool t9) ∧
    KeepX true w.heap.size [m2, m1] (fun _ => False) w31 w32 ∧ ∀ (w33 : World), RowKit.Below w.heap.size w w33 → Kept [m2, m1] w32 w33 → R (Ending.returned (Value.bool t9)) w33) ∧
    (t8 = false → ∀ (w34 : World), RowKit.Below w.heap.size w w34 → Kept [m2, m1] w30 w34 → R (Ending.returned (Value.bool false)) w34)) ∧ (x1 ≠ x2 → ∀ (w35 : World), RowKit.Below
    w.heap.size w w35 → Kept [m2, m1] w28 w35 → R (Ending.returned (Value.bool false)) w35)) ∧ (t7 = false → ∀ (w36 : World), RowKit.Below w.heap.size w w36 → Kept [m2, m1] w28 w36
    → R (Ending.returned (Value.bool false)) w36)) ∧ (t6 = false → ∀ (w37 : World), RowKit.Below w.heap.size w w37 → Kept [m2, m1] w26 w37 → R (Ending.returned (Value.bool false))
    w37)))) ∧ ((↑x1n : Int) ≤ 30 → (205 < (↑x1n : Int) → ∀ (w38 : World), RowKit.Below w.heap.size w w38 → Kept [m2, m1] w2 w38 → Calls Try.prog 14 #[] w38 fun (e15 : Ending) (w39
    : World) => ∃ (t10 : Bool), e15 = Ending.returned (Value.bool t10) ∧ KeepX true w.heap.size [m2, m1] (fun _ => False) w38 w39 ∧ ∀ (w40 : World), RowKit.Below w.heap.size w w40
    → Kept [m2, m1] w39 w40 → R (Ending.returned (Value.bool t10)) w40) ∧ ((↑x1n : Int) ≤ 205 → ∀ (w41 : World), RowKit.Below w.heap.size w w41 → KeptIn [(0, w2.heap.size)] [m2,
    m1] w2 w41 → Calls Try.prog 22 #[Value.slice clocka clockn clockc] w41 fun (e16 : Ending) (w42 : World) => ∃ (a7 : Option Addr), ∃ (m30 : Nat), ∃ (m31 : Nat), e16 =
    Ending.returned (Value.slice a7 m30 m31) ∧ KeepX true w.heap.size [m2, m1] (fun _ => False) w41 w42 ∧ ∀ (w43 : World), RowKit.Below w.heap.size w w43 → KeptIn [(0,
    w42.heap.size)] [m2, m1] w42 w43 → Calls Try.prog 22 #[Value.slice x1a x1n x1c] w43 fun (e17 : Ending) (w44 : World) => ∃ (a8 : Option Addr), ∃ (m33 : Nat), ∃ (m34 : Nat), e17
    = Ending.returned (Value.slice a8 m33 m34) ∧ KeepX true w.heap.size [m2, m1] (fun _ => False) w43 w44 ∧ ∀ (w45 : World), RowKit.Below w.heap.size w w45 → KeptIn [(0,
    w44.heap.size)] [m2, m1] w44 w45 → Calls Try.prog 15 #[Value.agg #[Value.slice p0w0a p0w0n p0w0c, Value.slice p0w1a p0w1n p0w1c]] w45 fun (e18 : Ending) (w46 : World) => ∃ (a9
    : Option Addr), ∃ (m36 : Nat), ∃ (m37 : Nat), ∃ (a10 : Option Addr), ∃ (m38 : Nat), ∃ (m39 : Nat), e18 = Ending.returned (Value.agg #[Value.slice a9 m36 m37, Value.slice a10
    m38 m39]) ∧ KeepX true w.heap.size [m2, m1] (fun _ => False) w45 w46 ∧ ∀ (w47 : World), RowKit.Below w.heap.size w w47 → KeptIn [(0, w46.heap.size)] [m2, m1] w46 w47 → Calls
    Try.prog 36 #[Value.agg #[Value.slice a9 m36 m37, Value.slice a10 m38 m39], Value.slice a7 m30 m31, Value.int IntKind.i64 x0, Value.slice a8 m33 m34] w47 fun (e19 : Ending)
    (w48 : World) => ∃ (a11 : Option Addr), ∃ (m41 : Nat), ∃ (m42 : Nat), ∃ (x3 : Int), e19 = Ending.returned (Value.tuple #[Value.slice a11 m41 m42, Value.int IntKind.i64 x3]) ∧
    KeepX true w.heap.size [m2, m1] (fun _ => False) w47 w48 ∧ ∀ (w49 : World), RowKit.Below w.heap.size w w49 → Kept [m2, m1] w48 w49 → Calls Try.prog 37 #[Value.agg #[Value.slice
    p0w0a p0w0n p0w0c, Value.slice p0w1a p0w1n p0w1c], Value.slice clocka clockn clockc, Value.int IntKind.i64 x0, Value.slice x1a x1n x1c] w49 fun (e20 : Ending) (w50 : World) =>
    ∃ (a12 : Option Addr), ∃ (m44 : Nat), ∃ (m45 : Nat), ∃ (x4 : Int), e20 = Ending.returned (Value.tuple #[Value.slice a12 m44 m45, Value.int IntKind.i64 x4]) ∧ KeepX true
    w.heap.size [m2, m1] (fun _ => False) w49 w50 ∧ ∀ (w51 : World), RowKit.Below w.heap.size w w51 → Kept [m2, m1] w50 w51 → Calls Try.prog 26 #[Value.slice a7 m30 m31,
    Value.slice clocka clockn clockc] w51 fun (e21 : Ending) (w52 : World) => ∃ (t11 : Bool), e21 = Ending.returned (Value.bool t11) ∧ KeepX true w.heap.size [m2, m1] (fun _ =>
    False) w51 w52 ∧ (t11 = true → ∀ (w53 : World), RowKit.Below w.heap.size w w53 → Kept [m2, m1] w52 w53 → Calls Try.prog 26 #[Value.slice a8 m33 m34, Value.slice x1a x1n x1c]
    w53 fun (e22 : Ending) (w54 : World) => ∃ (t12 : Bool), e22 = Ending.returned (Value.bool t12) ∧ KeepX true w.heap.size [m2, m1] (fun _ => False) w53 w54 ∧ (t12 = true → (x3 =
    x4 → ∀ (w55 : World), RowKit.Below w.heap.size w w55 → Kept [m2, m1] w54 w55 → Calls Try.prog 32 #[Value.slice a11 m41 m42, Value.slice a12 m44 m45] w55 fun (e23 : Ending) (w56
    : World) => ∃ (t13 : Bool), e23 = Ending.returned (Value.bool t13) ∧ KeepX true w.heap.size [m2, m1] (fun _ => False) w55 w56 ∧ (t13 = true → ∀ (w57 : World), RowKit.Below
    w.heap.size w w57 → Kept [m2, m1] w56 w57 → Calls Try.prog 14 #[] w57 fun (e24 : Ending) (w58 : World) => ∃ (t14 : Bool), e24 = Ending.returned (Value.bool t14) ∧ KeepX true
    w.heap.size [m2, m1] (fun _ => False) w57 w58 ∧ ∀ (w59 : World), RowKit.Below w.heap.size w w59 → Kept [m2, m1] w58 w59 → R (Ending.returned (Value.bool t14)) w59) ∧ (t13 =
    false → ∀ (w60 : World), RowKit.Below w.heap.size w w60 → Kept [m2, m1] w56 w60 → R (Ending.returned (Value.bool false)) w60)) ∧ (x3 ≠ x4 → ∀ (w61 : World), RowKit.Below
    w.heap.size w w61 → Kept [m2, m1] w54 w61 → R (Ending.returned (Value.bool false)) w61)) ∧ (t12 = false → ∀ (w62 : World), RowKit.Below w.heap.size w w62 → Kept [m2, m1] w54
    w62 → R (Ending.returned (Value.bool false)) w62)) ∧ (t11 = false → ∀ (w63 : World), RowKit.Below w.heap.size w w63 → Kept [m2, m1] w52 w63 → R (Ending.returned (Value.bool
    false)) w63)))))) : Calls Try.prog 6 #[Value.agg #[Value.slice p0w0a p0w0n p0w0c, Value.slice p0w1a p0w1n p0w1c], Value.slice clocka clockn clockc, Value.agg #[Value.int
    IntKind.i64 x0, Value.slice x1a x1n x1c]] w R := calls_of_vc (pure := true) (wrapAt := []) (muts := []) (esc := []) (args := [SV.pv (PV.agg [Lf.sl p0w0a p0w0n p0w0c, Lf.sl
    p0w1a p0w1n p0w1c]), SV.pv (PV.one (Lf.sl clocka clockn clockc)), SV.pv (PV.agg [Lf.int IntKind.i64 x0, Lf.sl x1a x1n x1c])]) (vs := [Value.agg #[Value.slice p0w0a p0w0n p0w0c,
    Value.slice p0w1a p0w1n p0w1c], Value.slice clocka clockn clockc, Value.agg #[Value.int IntKind.i64 x0, Value.slice x1a x1n x1c]]) Try.func6 rfl rfl rfl (Eq.mp (by kernel_rfl)
    h) 
end Go.Proofs
end
