/- Part 6: own lemmas, and the conditions of the functions. -/
import Derived.Test.YtjljemboankbeaaProg
import Derived.Test.YtjljemboankbeaaRows
import Derived.Test.YtjljemboankbeaaP05
section
/- The conditions of the functions, printed by program; each is what the generator reckons (kernel_rfl). -/
namespace Go.Proofs
open Go.Vc
set_option maxRecDepth 100000 in
set_option maxHeartbeats 2000000 in
theorem vc68 (p0w0a : Option Addr) (p0w0n : Nat) (p0w0c : Nat) (p0w1a : Option Addr) (p0w1n : Nat) (p0w1c : Nat) (x0 : Int) (x1a : Option Addr) (x1n : Nat) (x1c : Nat) (clock :
    Nat) (w : World) (R : Ending → World → Prop) (h : ∀ (m1 : Nat), w.heap.size ≤ m1 → ∀ (m2 : Nat), w.heap.size ≤ m2 → ∀ (m3 : Nat), w.heap.size ≤ m3 → ∀ (m4 : Nat), w.heap.size ≤
    m4 → ∀ (w1 : World), RowKit.Below w.heap.size w w1 → Kept [m4, m3, m2, m1] w w1 → Calls Try.prog 86 #[Value.agg #[Value.slice p0w0a p0w0n p0w0c, Value.slice p0w1a p0w1n p0w1c],
    Value.int IntKind.i64 x0] w1 fun (e1 : Ending) (w2 : World) => ∃ (v1 : Value), e1 = Ending.returned v1 ∧ KeepX true w.heap.size [m4, m3, m2, m1] (fun _ => False) w1 w2 ∧ ∃ (y1
    : List Value), v1 = Value.func (Fn.func 95) #[] y1.toArray ∧ ∃ (m6 : Nat), ∃ (F1 : Nat → List Value → World → Prop), ∃ (F3 : (Nat → Prop) → List Lf → Nat → World → Prop), ∃ (F4
    : World → Prop), IterY Try.prog 95 [] y1 m6 F1 F4 ∧ (∀ (w6 : World), RowKit.Below w.heap.size w w6 → Kept [m4, m3, m2, m1] w2 w6 → w6.heap[m4]? = some (Obj.cells #[Value.bool
    false] 4) → F3 (fun _ => False) [Lf.bool false] 0 w6) ∧ ∀ (t1 : Bool) (m12 : Nat) (F5 F6 : Nat → Prop) (w7 w8 : World), F3 F5 [Lf.bool t1] m12 w7 → CalmFrom w.heap.size w7 w8 →
    (∀ (m15 : Nat), F5 m15 → F6 m15) → (∀ (m16 : Nat), F6 m16 → F5 m16 ∨ w7.heap.size ≤ m16) → (∀ (m17 : Nat), F6 m17 → w.heap.size ≤ m17 ∧ m17 < w8.heap.size) → RowKit.Below
    w.heap.size w w8 → F4 w8 ∧ (∀ (y5 : List Value), m12 < m6 → F1 m12 y5 w8 → ∃ (x1 : Int), ∃ (v2 : Value), y5 = [Value.int IntKind.i64 x1, v2] ∧ ∀ (m18 : Nat) (w9 w10 : World),
    RowKit.Below w.heap.size w w10 → Kept [m4, m3, m2, m1] w8 w10 → ∀ (w11 : World), CalmFrom w.heap.size w10 w11 → ∀ (w12 w13 : World), RowKit.Below w.heap.size w w13 → Kept [m4,
    m3, m2, m1] w11 w13 → RunsTo Try.prog (Instr.lookup 138 (Value.map (some clock)) (Value.int IntKind.i64 x1) true) w13 fun (v3 : Value) (w14 : World) => ∃ (x2 : Int), ∃ (a1 :
    Option Addr), ∃ (m19 : Nat), ∃ (m20 : Nat), ∃ (t2 : Bool), v3 = Value.tuple #[Value.agg #[Value.int IntKind.i64 x2, Value.slice a1 m19 m20], Value.bool t2] ∧ KeepX true
    w.heap.size [m4, m3, m2, m1] F6 w13 w14 ∧ ∀ (m21 : Nat), w14.heap.size ≤ m21 → (t2 = true → ∃ (m22 : Nat), ∃ (y6 : List Value), ∃ (y7 : List Value), v2 = Value.func (Fn.func
    m22) y6.toArray y7.toArray ∧ Callable Try.prog m22 ∧ ∀ (w15 : World), RowKit.Below w.heap.size w w15 → Kept [m21, m4, m3, m2, m1] w14 w15 → Calls Try.prog m22 (y6 ++ [Value.agg
    #[Value.int IntKind.i64 x0, Value.slice x1a x1n x1c], Value.agg #[Value.int IntKind.i64 x2, Value.slice a1 m19 m20]] ++ y7).toArray w15 fun (e2 : Ending) (w16 : World) => ∃ (t3
    : Bool), e2 = Ending.returned (Value.bool t3) ∧ KeepX true w.heap.size [m21, m4, m3, m2, m1] F6 w15 w16 ∧ ((!t3) = true → ∀ (w17 : World), RowKit.Below w.heap.size w w17 → Kept
    [m21, m4, m3, m2, m1] w16 w17 → ∀ (F7 : Nat → Prop) (w18 : World), CalmFrom w.heap.size w17 w18 → (∀ (m24 : Nat), F6 m24 → F7 m24) → ∀ (w19 : World), RowKit.Below w.heap.size w
    w19 → Kept [m21, m4, m3, m2, m1] w18 w19 → ∀ (w20 : World), CalmFrom w.heap.size w19 w20 → R (Ending.returned (Value.bool false)) w20) ∧ ((!t3) = false → ∀ (w21 : World),
    RowKit.Below w.heap.size w w21 → Kept [m21, m4, m3, m2, m1] w16 w21 → F3 F6 [Lf.bool t1] (m12 + 1) w21)) ∧ (t2 = false → ∀ (w22 : World), RowKit.Below w.heap.size w w22 → Kept
    [m21, m4, m3, m2, m1] w14 w22 → F3 F6 [Lf.bool t1] (m12 + 1) w22)) ∧ (m12 = m6 → ∀ (w23 : World), RowKit.Below w.heap.size w w23 → Kept [m4, m3, m2, m1] w8 w23 → ∀ (w24 :
    World), CalmFrom w.heap.size w23 w24 → R (Ending.returned (Value.bool true)) w24)) : Calls Try.prog 68 #[Value.agg #[Value.slice p0w0a p0w0n p0w0c, Value.slice p0w1a p0w1n
    p0w1c], Value.agg #[Value.int IntKind.i64 x0, Value.slice x1a x1n x1c], Value.map (some clock)] w R := calls_of_vcj (pure := true) (wrapAt := []) (muts := [6]) (esc := [])
    (joins := [(6000095, []), (7000028, [])]) (args := [SV.pv (PV.agg [Lf.sl p0w0a p0w0n p0w0c, Lf.sl p0w1a p0w1n p0w1c]), SV.pv (PV.agg [Lf.int IntKind.i64 x0, Lf.sl x1a x1n
    x1c]), SV.pv (PV.one (Lf.map clock))]) (vs := [Value.agg #[Value.slice p0w0a p0w0n p0w0c, Value.slice p0w1a p0w1n p0w1c], Value.agg #[Value.int IntKind.i64 x0, Value.slice x1a
    x1n x1c], Value.map (some clock)]) Try.func68 rfl rfl rfl (Eq.mp (by kernel_rfl) h) 
set_option maxRecDepth 100000 in
set_option maxHeartbeats 2000000 in
theorem vc86 (p0w0a : Option Addr) (p0w0n : Nat) (p0w0c : Nat) (p0w1a : Option Addr) (p0w1n : Nat) (p0w1c : Nat) (pattern : Int) (w : World) (R : Ending → World → Prop) (h : ∀ (m1
    : Nat), w.heap.size ≤ m1 → ∀ (m2 : Nat), w.heap.size ≤ m2 → ∀ (w1 : World), RowKit.Below w.heap.size w w1 → Kept [m2, m1] w w1 → w1.heap[m1]? = some (Obj.cells #[Value.slice
    p0w0a p0w0n p0w0c, Value.slice p0w1a p0w1n p0w1c] 108) → w1.heap[m2]? = some (Obj.cells #[Value.int IntKind.i64 pattern] 3) → R (Ending.returned (Value.func (Fn.func 95) #[]
    #[Value.pointer (some { block := m1, off := 0 }), Value.pointer (some { block := m2, off := 0 })])) w1) : Calls Try.prog 86 #[Value.agg #[Value.slice p0w0a p0w0n p0w0c,
    Value.slice p0w1a p0w1n p0w1c], Value.int IntKind.i64 pattern] w R := calls_of_vc (pure := true) (wrapAt := []) (muts := []) (esc := []) (args := [SV.pv (PV.agg [Lf.sl p0w0a
    p0w0n p0w0c, Lf.sl p0w1a p0w1n p0w1c]), SV.pv (PV.one (Lf.int IntKind.i64 pattern))]) (vs := [Value.agg #[Value.slice p0w0a p0w0n p0w0c, Value.slice p0w1a p0w1n p0w1c],
    Value.int IntKind.i64 pattern]) Try.func86 rfl rfl rfl (Eq.mp (by kernel_rfl) h) 
set_option maxRecDepth 100000 in
set_option maxHeartbeats 2000000 in
theorem vc95 (yield : Value) (cap0b : Nat) (cap1b : Nat) (w : World) (R : Ending → World → Prop) (h : ∃ (a1 : Option Addr), ∃ (m1 : Nat), ∃ (m2 : Nat), w.cell?
    { block := cap0b, off := 0 + 0 + 1 } = some (Value.slice a1 m1 m2) ∧ ∃ (F1 : List Lf → World → Prop), ∃ (F2 : List Lf → Nat), (∀ (w2 : World), Kept [] w w2 → F1 [Lf.int
    IntKind.i64 0] w2) ∧ ∀ (x1 : Int) (w3 : World), F1 [Lf.int IntKind.i64 x1] w3 → (x1 < (↑m1 : Int) → ∃ (m3 : Nat), ∃ (m4 : Nat), a1 = some { block := m3, off := m4 } ∧ (0 ≤ x1 ∧
    x1 < (↑m1 : Int)) ∧ ∃ (x2 : Int), ∃ (x3 : Int), ∃ (x4 : Int), ∃ (x5 : Int), ∃ (x6 : Int), ∃ (x7 : Int), w3.cell? { block := m3, off := m4 + x1.toNat * 6 } = some (Value.int
    IntKind.i64 x2) ∧ w3.cell? { block := m3, off := m4 + x1.toNat * 6 + 1 } = some (Value.int IntKind.i64 x3) ∧ w3.cell? { block := m3, off := m4 + x1.toNat * 6 + 1 + 1 } = some
    (Value.int IntKind.i64 x4) ∧ w3.cell? { block := m3, off := m4 + x1.toNat * 6 + 1 + 1 + 1 } = some (Value.int IntKind.i64 x5) ∧ w3.cell?
    { block := m3, off := m4 + x1.toNat * 6 + 1 + 1 + 1 + 1 } = some (Value.int IntKind.i64 x6) ∧ w3.cell? { block := m3, off := m4 + x1.toNat * 6 + 1 + 1 + 1 + 1 + 1 } = some
    (Value.int IntKind.i64 x7) ∧ ∀ (w4 : World), Kept [] w3 w4 → ∀ (m5 : Nat) (w5 : World), m5 = w4.heap.size → w5 = w4.alloc (Obj.cells #[Value.int IntKind.i64 0, Value.int
    IntKind.i64 0, Value.int IntKind.i64 0, Value.int IntKind.i64 0, Value.int IntKind.i64 0, Value.int IntKind.i64 0] 67) → ∀ (w6 : World), Kept [] w5 w6 → RunsTo Try.prog
    ((Instr.storeAt 67 (Value.pointer (some { block := m5, off := 0 })) (Value.agg #[Value.int IntKind.i64 x2, Value.int IntKind.i64 x3, Value.int IntKind.i64 x4, Value.int
    IntKind.i64 x5, Value.int IntKind.i64 x6, Value.int IntKind.i64 x7])) >>= fun _ => pure (Value.tuple #[])) w6 fun (v1 : Value) (w7 : World) => KeepX false w.heap.size [] (fun _
    => False) w6 w7 ∧ ∃ (x8 : Int), w7.cell? { block := cap1b, off := 0 } = some (Value.int IntKind.i64 x8) ∧ ∃ (x9 : Int), w7.cell? { block := m5, off := 0 + 0 } = some (Value.int
    IntKind.i64 x9) ∧ (x8 = x9 → ∃ (x10 : Int), w7.cell? { block := m5, off := 0 + 2 } = some (Value.int IntKind.i64 x10) ∧ ∀ (w8 : World), Kept [] w7 w8 → ∃ (m7 : Nat), yield =
    Value.func (Fn.yield m7) #[] #[] ∧ YieldAt { fn := fun (m8 : Nat) => True, alive := false } 0 Try.prog m7 #[Value.int IntKind.i64 x10, Value.func (Fn.func 96) #[]
    #[Value.pointer (some { block := m5, off := 0 })]] w8 fun (e1 : Ending) (w9 : World) => ∃ (t1 : Bool), e1 = Ending.returned (Value.bool t1) ∧ KeepX false w.heap.size [] (fun _
    => False) w8 w9 ∧ ((!t1) = true → ∀ (w10 : World), Kept [] w9 w10 → R (Ending.returned (Value.tuple #[])) w10) ∧ ((!t1) = false → (-9223372036854775808 ≤ x1 + 1 ∧ x1 + (1 :
    Int) ≤ 9223372036854775807) ∧ ∀ (w11 : World), Kept [] w9 w11 → F1 [Lf.int IntKind.i64 (x1 + 1)] w11 ∧ F2 [Lf.int IntKind.i64 (x1 + 1)] < F2 [Lf.int IntKind.i64 x1])) ∧ (x8 ≠
    x9 → ∃ (x11 : Int), w7.cell? { block := m5, off := 0 + 2 } = some (Value.int IntKind.i64 x11) ∧ (x8 = x11 → ∃ (x12 : Int), w7.cell? { block := m5, off := 0 + 0 } = some
    (Value.int IntKind.i64 x12) ∧ ∀ (w12 : World), Kept [] w7 w12 → ∃ (m10 : Nat), yield = Value.func (Fn.yield m10) #[] #[] ∧ YieldAt
    { fn := fun (m11 : Nat) => True, alive := false } 0 Try.prog m10 #[Value.int IntKind.i64 x12, Value.func (Fn.func 97) #[] #[Value.pointer (some { block := m5, off := 0 })]] w12
    fun (e2 : Ending) (w13 : World) => ∃ (t2 : Bool), e2 = Ending.returned (Value.bool t2) ∧ KeepX false w.heap.size [] (fun _ => False) w12 w13 ∧ ((!t2) = true → ∀ (w14 : World),
    Kept [] w13 w14 → R (Ending.returned (Value.tuple #[])) w14) ∧ ((!t2) = false → (-9223372036854775808 ≤ x1 + 1 ∧ x1 + (1 : Int) ≤ 9223372036854775807) ∧ ∀ (w15 : World), Kept
    [] w13 w15 → F1 [Lf.int IntKind.i64 (x1 + 1)] w15 ∧ F2 [Lf.int IntKind.i64 (x1 + 1)] < F2 [Lf.int IntKind.i64 x1])) ∧ (x8 ≠ x11 → (-9223372036854775808 ≤ x1 + 1 ∧ x1 + (1 :
    Int) ≤ 9223372036854775807) ∧ ∀ (w16 : World), Kept [] w7 w16 → F1 [Lf.int IntKind.i64 (x1 + 1)] w16 ∧ F2 [Lf.int IntKind.i64 (x1 + 1)] < F2 [Lf.int IntKind.i64 x1]))) ∧ ((↑m1
    : Int) ≤ x1 → ∀ (w17 : World), Kept [] w3 w17 → R (Ending.returned (Value.tuple #[])) w17)) : Calls Try.prog 95 #[yield, Value.pointer (some { block := cap0b, off := 0 }),
    Value.pointer (some { block := cap1b, off := 0 })] w R := calls_of_vc (pure := false) (wrapAt := []) (muts := []) (esc := [5]) (args := [SV.pv (PV.one (Lf.val yield)), SV.pv
    (PV.one (Lf.ptr cap0b 0)), SV.pv (PV.one (Lf.ptr cap1b 0))]) (vs := [yield, Value.pointer (some { block := cap0b, off := 0 }), Value.pointer (some
    { block := cap1b, off := 0 })]) Try.func95 rfl rfl rfl (Eq.mp (by kernel_rfl) h) 
set_option maxRecDepth 100000 in
set_option maxHeartbeats 2000000 in
theorem vc96 (x0 : Int) (x1a : Option Addr) (x1n : Nat) (x1c : Nat) (mate0 : Int) (mate1a : Option Addr) (mate1n : Nat) (mate1c : Nat) (cap0b : Nat) (w : World) (R : Ending → World
    → Prop) (h : ∀ (m1 : Nat), w.heap.size ≤ m1 → ∀ (m2 : Nat), w.heap.size ≤ m2 → ∃ (x1 : Int), ∃ (x2 : Int), ∃ (x3 : Int), ∃ (x4 : Int), ∃ (x5 : Int), ∃ (x6 : Int), w.cell?
    { block := cap0b, off := 0 } = some (Value.int IntKind.i64 x1) ∧ w.cell? { block := cap0b, off := 0 + 1 } = some (Value.int IntKind.i64 x2) ∧ w.cell?
    { block := cap0b, off := 0 + 1 + 1 } = some (Value.int IntKind.i64 x3) ∧ w.cell? { block := cap0b, off := 0 + 1 + 1 + 1 } = some (Value.int IntKind.i64 x4) ∧ w.cell?
    { block := cap0b, off := 0 + 1 + 1 + 1 + 1 } = some (Value.int IntKind.i64 x5) ∧ w.cell? { block := cap0b, off := 0 + 1 + 1 + 1 + 1 + 1 } = some (Value.int IntKind.i64 x6) ∧
    (cap0b < w.heap.size ∨ cap0b ≠ m2 ∧ cap0b ≠ m1) ∧ ∃ (x7 : Int), w.cell? { block := cap0b, off := 0 + 1 } = some (Value.int IntKind.i64 x7) ∧ (cap0b < w.heap.size ∨ cap0b ≠ m2 ∧
    cap0b ≠ m1) ∧ ∃ (m3 : Nat), ∃ (m4 : Nat), x1a = some { block := m3, off := m4 } ∧ (0 ≤ x7 ∧ x7 < (↑x1n : Int)) ∧ ∃ (x8 : Int), w.cell? { block := m3, off := m4 + x7.toNat * 1 }
    = some (Value.int IntKind.i64 x8) ∧ (m3 < w.heap.size ∨ m3 ≠ m2 ∧ m3 ≠ m1) ∧ ∃ (x9 : Int), w.cell? { block := cap0b, off := 0 + 3 } = some (Value.int IntKind.i64 x9) ∧ (cap0b <
    w.heap.size ∨ cap0b ≠ m2 ∧ cap0b ≠ m1) ∧ ∃ (m5 : Nat), ∃ (m6 : Nat), mate1a = some { block := m5, off := m6 } ∧ (0 ≤ x9 ∧ x9 < (↑mate1n : Int)) ∧ ∃ (x10 : Int), w.cell?
    { block := m5, off := m6 + x9.toNat * 1 } = some (Value.int IntKind.i64 x10) ∧ (m5 < w.heap.size ∨ m5 ≠ m2 ∧ m5 ≠ m1) ∧ ∀ (w1 : World), RowKit.Below w.heap.size w w1 → KeptIn
    [(0, w.heap.size)] [m2, m1] w w1 → Calls Try.prog 83 #[Value.agg #[Value.int IntKind.i64 x1, Value.int IntKind.i64 x2, Value.int IntKind.i64 x3, Value.int IntKind.i64 x4,
    Value.int IntKind.i64 x5, Value.int IntKind.i64 x6], Value.int IntKind.i64 x8, Value.int IntKind.i64 x10] w1 fun (e1 : Ending) (w2 : World) => ∃ (t1 : Bool), e1 =
    Ending.returned (Value.bool t1) ∧ KeepX true w.heap.size [m2, m1] (fun _ => False) w1 w2 ∧ ∀ (w3 : World), RowKit.Below w.heap.size w w3 → Kept [m2, m1] w2 w3 → R
    (Ending.returned (Value.bool t1)) w3) : Calls Try.prog 96 #[Value.agg #[Value.int IntKind.i64 x0, Value.slice x1a x1n x1c], Value.agg #[Value.int IntKind.i64 mate0, Value.slice
    mate1a mate1n mate1c], Value.pointer (some { block := cap0b, off := 0 })] w R := calls_of_vc (pure := true) (wrapAt := []) (muts := []) (esc := []) (args := [SV.pv (PV.agg
    [Lf.int IntKind.i64 x0, Lf.sl x1a x1n x1c]), SV.pv (PV.agg [Lf.int IntKind.i64 mate0, Lf.sl mate1a mate1n mate1c]), SV.pv (PV.one (Lf.ptr cap0b 0))]) (vs := [Value.agg
    #[Value.int IntKind.i64 x0, Value.slice x1a x1n x1c], Value.agg #[Value.int IntKind.i64 mate0, Value.slice mate1a mate1n mate1c], Value.pointer (some
    { block := cap0b, off := 0 })]) Try.func96 rfl rfl rfl (Eq.mp (by kernel_rfl) h) 
set_option maxRecDepth 100000 in
set_option maxHeartbeats 2000000 in
theorem vc97 (x0 : Int) (x1a : Option Addr) (x1n : Nat) (x1c : Nat) (mate0 : Int) (mate1a : Option Addr) (mate1n : Nat) (mate1c : Nat) (cap0b : Nat) (w : World) (R : Ending → World
    → Prop) (h : ∀ (m1 : Nat), w.heap.size ≤ m1 → ∀ (m2 : Nat), w.heap.size ≤ m2 → ∃ (x1 : Int), ∃ (x2 : Int), ∃ (x3 : Int), ∃ (x4 : Int), ∃ (x5 : Int), ∃ (x6 : Int), w.cell?
    { block := cap0b, off := 0 } = some (Value.int IntKind.i64 x1) ∧ w.cell? { block := cap0b, off := 0 + 1 } = some (Value.int IntKind.i64 x2) ∧ w.cell?
    { block := cap0b, off := 0 + 1 + 1 } = some (Value.int IntKind.i64 x3) ∧ w.cell? { block := cap0b, off := 0 + 1 + 1 + 1 } = some (Value.int IntKind.i64 x4) ∧ w.cell?
    { block := cap0b, off := 0 + 1 + 1 + 1 + 1 } = some (Value.int IntKind.i64 x5) ∧ w.cell? { block := cap0b, off := 0 + 1 + 1 + 1 + 1 + 1 } = some (Value.int IntKind.i64 x6) ∧
    (cap0b < w.heap.size ∨ cap0b ≠ m2 ∧ cap0b ≠ m1) ∧ ∃ (x7 : Int), w.cell? { block := cap0b, off := 0 + 1 } = some (Value.int IntKind.i64 x7) ∧ (cap0b < w.heap.size ∨ cap0b ≠ m2 ∧
    cap0b ≠ m1) ∧ ∃ (m3 : Nat), ∃ (m4 : Nat), mate1a = some { block := m3, off := m4 } ∧ (0 ≤ x7 ∧ x7 < (↑mate1n : Int)) ∧ ∃ (x8 : Int), w.cell?
    { block := m3, off := m4 + x7.toNat * 1 } = some (Value.int IntKind.i64 x8) ∧ (m3 < w.heap.size ∨ m3 ≠ m2 ∧ m3 ≠ m1) ∧ ∃ (x9 : Int), w.cell? { block := cap0b, off := 0 + 3 } =
    some (Value.int IntKind.i64 x9) ∧ (cap0b < w.heap.size ∨ cap0b ≠ m2 ∧ cap0b ≠ m1) ∧ ∃ (m5 : Nat), ∃ (m6 : Nat), x1a = some { block := m5, off := m6 } ∧ (0 ≤ x9 ∧ x9 < (↑x1n :
    Int)) ∧ ∃ (x10 : Int), w.cell? { block := m5, off := m6 + x9.toNat * 1 } = some (Value.int IntKind.i64 x10) ∧ (m5 < w.heap.size ∨ m5 ≠ m2 ∧ m5 ≠ m1) ∧ ∀ (w1 : World),
    RowKit.Below w.heap.size w w1 → KeptIn [(0, w.heap.size)] [m2, m1] w w1 → Calls Try.prog 83 #[Value.agg #[Value.int IntKind.i64 x1, Value.int IntKind.i64 x2, Value.int
    IntKind.i64 x3, Value.int IntKind.i64 x4, Value.int IntKind.i64 x5, Value.int IntKind.i64 x6], Value.int IntKind.i64 x8, Value.int IntKind.i64 x10] w1 fun (e1 : Ending) (w2 :
    World) => ∃ (t1 : Bool), e1 = Ending.returned (Value.bool t1) ∧ KeepX true w.heap.size [m2, m1] (fun _ => False) w1 w2 ∧ ∀ (w3 : World), RowKit.Below w.heap.size w w3 → Kept
    [m2, m1] w2 w3 → R (Ending.returned (Value.bool t1)) w3) : Calls Try.prog 97 #[Value.agg #[Value.int IntKind.i64 x0, Value.slice x1a x1n x1c], Value.agg #[Value.int IntKind.i64
    mate0, Value.slice mate1a mate1n mate1c], Value.pointer (some { block := cap0b, off := 0 })] w R := calls_of_vc (pure := true) (wrapAt := []) (muts := []) (esc := []) (args :=
    [SV.pv (PV.agg [Lf.int IntKind.i64 x0, Lf.sl x1a x1n x1c]), SV.pv (PV.agg [Lf.int IntKind.i64 mate0, Lf.sl mate1a mate1n mate1c]), SV.pv (PV.one (Lf.ptr cap0b 0))]) (vs :=
    [Value.agg #[Value.int IntKind.i64 x0, Value.slice x1a x1n x1c], Value.agg #[Value.int IntKind.i64 mate0, Value.slice mate1a mate1n mate1c], Value.pointer (some
    { block := cap0b, off := 0 })]) Try.func97 rfl rfl rfl (Eq.mp (by kernel_rfl) h) 
set_option maxRecDepth 100000 in
set_option maxHeartbeats 2000000 in
theorem vc36 (p0w0a : Option Addr) (p0w0n : Nat) (p0w0c : Nat) (p0w1a : Option Addr) (p0w1n : Nat) (p0w1c : Nat) (clocka : Option Addr) (clockn : Nat) (clockc : Nat) (pattern :
    Int) (storea : Option Addr) (storen : Nat) (storec : Nat) (w : World) (R : Ending → World → Prop) (h : ∀ (m1 : Nat), w.heap.size ≤ m1 → ∀ (m2 : Nat), w.heap.size ≤ m2 → ∀ (w1 :
    World), RowKit.Below w.heap.size w w1 → Kept [m2, m1] w w1 → Calls Try.prog 16 #[Value.agg #[Value.slice p0w0a p0w0n p0w0c, Value.slice p0w1a p0w1n p0w1c]] w1 fun (e1 : Ending)
    (w2 : World) => ∃ (x1 : Int), e1 = Ending.returned (Value.int IntKind.i64 x1) ∧ KeepX true w.heap.size [m2, m1] (fun _ => False) w1 w2 ∧ (x1 ≠ 0 → ∀ (w3 : World), RowKit.Below
    w.heap.size w w3 → Kept [m2, m1] w2 w3 → R (Ending.returned (Value.tuple #[Value.slice none 0 0, Value.int IntKind.i64 2])) w3) ∧ (x1 = 0 → (-9223372036854775808 ≤ (↑p0w0n :
    Int) - 1 ∧ (↑p0w0n : Int) - (1 : Int) ≤ 9223372036854775807) ∧ ∀ (m4 : Nat), w2.heap.size ≤ m4 → ∀ (w4 : World), RowKit.Below w.heap.size w w4 → Kept [m4, m2, m1] w2 w4 →
    w4.heap[m4]? = some (Obj.cells #[Value.int IntKind.i64 pattern] 3) → Calls Try.prog 50 #[Value.int IntKind.i64 0, Value.int IntKind.i64 ((↑p0w0n : Int) - 1), Value.slice (some
    { block := m4, off := 0 }) 1 1] w4 fun (e2 : Ending) (w5 : World) => ∃ (t1 : Bool), e2 = Ending.returned (Value.bool t1) ∧ KeepX true w.heap.size [m4, m2, m1] (fun _ => False)
    w4 w5 ∧ ((!t1) = true → ∀ (w6 : World), RowKit.Below w.heap.size w w6 → Kept [m4, m2, m1] w5 w6 → R (Ending.returned (Value.tuple #[Value.slice none 0 0, Value.int IntKind.i64
    7])) w6) ∧ ((!t1) = false → (20 < (↑clockn : Int) → (20 < (↑clockn : Int) → ∀ (w7 : World), RowKit.Below w.heap.size w w7 → Kept [m4, m2, m1] w5 w7 → R (Ending.returned
    (Value.tuple #[Value.slice none 0 0, Value.int IntKind.i64 5])) w7) ∧ ((↑clockn : Int) ≤ 20 → ∀ (w8 : World), RowKit.Below w.heap.size w w8 → Kept [m4, m2, m1] w5 w8 → RunsTo
    Try.prog (Instr.makeMap 138 none) w8 fun (v1 : Value) (w9 : World) => ∃ (m7 : Nat), v1 = Value.map (some m7) ∧ KeepX true w.heap.size [m4, m2, m1] (fun _ => False) w8 w9 ∧ ∃
    (F1 : List Lf → World → Prop), ∃ (F2 : List Lf → Nat), (∀ (w11 : World), RowKit.Below w.heap.size w w11 → Kept [m4, m2, m1] w9 w11 → F1 [Lf.sl none 0 0, Lf.int IntKind.i64 0,
    Lf.int IntKind.i64 0] w11) ∧ ∀ (a1 : Option Addr) (m9 m10 : Nat) (x2 x3 : Int) (w12 : World), RowKit.Below w.heap.size w w12 → F1 [Lf.sl a1 m9 m10, Lf.int IntKind.i64 x2,
    Lf.int IntKind.i64 x3] w12 → (x3 < (↑clockn : Int) → ∃ (m11 : Nat), ∃ (m12 : Nat), clocka = some { block := m11, off := m12 } ∧ (0 ≤ x3 ∧ x3 < (↑clockn : Int)) ∧ ∃ (x4 : Int),
    ∃ (a2 : Option Addr), ∃ (m13 : Nat), ∃ (m14 : Nat), w12.cell? { block := m11, off := m12 + x3.toNat * 2 } = some (Value.int IntKind.i64 x4) ∧ w12.cell?
    { block := m11, off := m12 + x3.toNat * 2 + 1 } = some (Value.slice a2 m13 m14) ∧ (m11 < w.heap.size ∨ m11 ≠ m4 ∧ m11 ≠ m2 ∧ m11 ≠ m1) ∧ ∀ (m15 : Nat), w12.heap.size ≤ m15 → ∀
    (w13 : World), RowKit.Below w.heap.size w w13 → Kept [m4, m15, m2, m1] w12 w13 → Calls Try.prog 58 #[Value.agg #[Value.slice p0w0a p0w0n p0w0c, Value.slice p0w1a p0w1n p0w1c],
    Value.agg #[Value.int IntKind.i64 x4, Value.slice a2 m13 m14]] w13 fun (e3 : Ending) (w14 : World) => ∃ (x5 : Int), e3 = Ending.returned (Value.int IntKind.i64 x5) ∧ KeepX true
    w.heap.size [m4, m15, m2, m1] (fun _ => False) w13 w14 ∧ (x5 ≠ 0 → ∀ (w15 : World), RowKit.Below w.heap.size w w15 → Kept [m4, m15, m2, m1] w14 w15 → R (Ending.returned
    (Value.tuple #[Value.slice none 0 0, Value.int IntKind.i64 x5])) w15) ∧ (x5 = 0 → ∀ (w16 : World), RowKit.Below w.heap.size w w16 → Kept [m4, m15, m2, m1] w14 w16 → RunsTo
    Try.prog (Instr.lookup 138 (Value.map (some m7)) (Value.int IntKind.i64 x4) true) w16 fun (v2 : Value) (w17 : World) => ∃ (x6 : Int), ∃ (a3 : Option Addr), ∃ (m17 : Nat), ∃
    (m18 : Nat), ∃ (t2 : Bool), v2 = Value.tuple #[Value.agg #[Value.int IntKind.i64 x6, Value.slice a3 m17 m18], Value.bool t2] ∧ KeepX true w.heap.size [m4, m15, m2, m1] (fun _
    => False) w16 w17 ∧ ∀ (m20 : Nat), w17.heap.size ≤ m20 → (t2 = true → ∀ (w18 : World), RowKit.Below w.heap.size w w18 → Kept [m4, m20, m15, m2, m1] w17 w18 → R (Ending.returned
    (Value.tuple #[Value.slice none 0 0, Value.int IntKind.i64 6])) w18) ∧ (t2 = false → ∀ (w19 : World), RowKit.Below w.heap.size w w19 → Kept [m4, m20, m15, m2, m1] w17 w19 →
    RunsTo Try.prog ((Instr.mapUpdate 138 (Value.map (some m7)) (Value.int IntKind.i64 x4) (Value.agg #[Value.int IntKind.i64 x4, Value.slice a2 m13 m14])) >>= fun _ => pure
    (Value.tuple #[])) w19 fun (v3 : Value) (w20 : World) => KeepX true w.heap.size [m4, m20, m15, m2, m1] (fun _ => False) w19 w20 ∧ (-9223372036854775808 ≤ x3 + 1 ∧ x3 + (1 :
    Int) ≤ 9223372036854775807) ∧ ∀ (w21 : World), RowKit.Below w.heap.size w w21 → Kept [m4, m20, m15, m2, m1] w20 w21 → F1 [Lf.sl a1 m9 m10, Lf.int IntKind.i64 x2, Lf.int
    IntKind.i64 (x3 + 1)] w21 ∧ F2 [Lf.sl a1 m9 m10, Lf.int IntKind.i64 x2, Lf.int IntKind.i64 (x3 + 1)] < F2 [Lf.sl a1 m9 m10, Lf.int IntKind.i64 x2, Lf.int IntKind.i64 x3]))) ∧
    ((↑clockn : Int) ≤ x3 → ∃ (F3 : List Lf → World → Prop), ∃ (F4 : List Lf → Nat), (∀ (w23 : World), RowKit.Below w.heap.size w w23 → Kept [m4, m2, m1] w12 w23 → F3 [Lf.sl a1 m9
    m10, Lf.int IntKind.i64 x2, Lf.int IntKind.i64 0] w23) ∧ ∀ (a4 : Option Addr) (m22 m23 : Nat) (x7 x8 : Int) (w24 : World), RowKit.Below w.heap.size w w24 → F3 [Lf.sl a4 m22
    m23, Lf.int IntKind.i64 x7, Lf.int IntKind.i64 x8] w24 → (x8 < (↑storen : Int) → ∃ (m24 : Nat), ∃ (m25 : Nat), storea = some { block := m24, off := m25 } ∧ (0 ≤ x8 ∧ x8 <
    (↑storen : Int)) ∧ ∃ (x9 : Int), ∃ (a5 : Option Addr), ∃ (m26 : Nat), ∃ (m27 : Nat), w24.cell? { block := m24, off := m25 + x8.toNat * 2 } = some (Value.int IntKind.i64 x9) ∧
    w24.cell? { block := m24, off := m25 + x8.toNat * 2 + 1 } = some (Value.slice a5 m26 m27) ∧ (m24 < w.heap.size ∨ m24 ≠ m4 ∧ m24 ≠ m2 ∧ m24 ≠ m1) ∧ ∀ (m28 : Nat), w24.heap.size
    ≤ m28 → ∀ (w25 : World), RowKit.Below w.heap.size w w25 → Kept [m4, m28, m2, m1] w24 w25 → Calls Try.prog 58 #[Value.agg #[Value.slice p0w0a p0w0n p0w0c, Value.slice p0w1a
    p0w1n p0w1c], Value.agg #[Value.int IntKind.i64 x9, Value.slice a5 m26 m27]] w25 fun (e4 : Ending) (w26 : World) => ∃ (x10 : Int), e4 = Ending.returned (Value.int IntKind.i64
    x10) ∧ KeepX true w.heap.size [m4, m28, m2, m1] (fun _ => False) w25 w26 ∧ (x10 ≠ 0 → ∀ (w27 : World), RowKit.Below w.heap.size w w27 → Kept [m4, m28, m2, m1] w26 w27 → R
    (Ending.returned (Value.tuple #[Value.slice none 0 0, Value.int IntKind.i64 x10])) w27) ∧ (x10 = 0 → (x9 = pattern → ∀ (w28 : World), RowKit.Below w.heap.size w w28 → Kept [m4,
    m28, m2, m1] w26 w28 → Calls Try.prog 59 #[Value.agg #[Value.slice p0w0a p0w0n p0w0c, Value.slice p0w1a p0w1n p0w1c], Value.agg #[Value.int IntKind.i64 x9, Value.slice a5 m26
    m27]] w28 fun (e5 : Ending) (w29 : World) => ∃ (t3 : Bool), e5 = Ending.returned (Value.bool t3) ∧ KeepX true w.heap.size [m4, m28, m2, m1] (fun _ => False) w28 w29 ∧ (t3 =
    true → ∀ (w30 : World), RowKit.Below w.heap.size w w30 → Kept [m4, m28, m2, m1] w29 w30 → Calls Try.prog 68 #[Value.agg #[Value.slice p0w0a p0w0n p0w0c, Value.slice p0w1a p0w1n
    p0w1c], Value.agg #[Value.int IntKind.i64 x9, Value.slice a5 m26 m27], Value.map (some m7)] w30 fun (e6 : Ending) (w31 : World) => ∃ (t4 : Bool), e6 = Ending.returned
    (Value.bool t4) ∧ KeepX true w.heap.size [m4, m28, m2, m1] (fun _ => False) w30 w31 ∧ (t4 = true → ∀ (m32 : Nat), w31.heap.size ≤ m32 → ∀ (w32 : World), RowKit.Below
    w.heap.size w w32 → Kept [m32, m4, m28, m2, m1] w31 w32 → w32.heap[m32]? = some (Obj.cells #[Value.int IntKind.i64 x8] 3) → RunsTo Try.prog (Builtin.append_ #[38, 38] 38
    #[Value.slice a4 m22 m23, Value.slice (some { block := m32, off := 0 }) 1 1]) w32 fun (v4 : Value) (w33 : World) => ∃ (a6 : Option Addr), ∃ (m34 : Nat), ∃ (m35 : Nat), v4 =
    Value.slice a6 m34 m35 ∧ KeepX true w.heap.size [m32, m4, m28, m2, m1] (fun _ => False) w32 w33 ∧ (-9223372036854775808 ≤ x8 + 1 ∧ x8 + (1 : Int) ≤ 9223372036854775807) ∧ ∀
    (w34 : World), RowKit.Below w.heap.size w w34 → Kept [m32, m4, m28, m2, m1] w33 w34 → F3 [Lf.sl a6 m34 m35, Lf.int IntKind.i64 x7, Lf.int IntKind.i64 (x8 + 1)] w34 ∧ F4 [Lf.sl
    a6 m34 m35, Lf.int IntKind.i64 x7, Lf.int IntKind.i64 (x8 + 1)] < F4 [Lf.sl a4 m22 m23, Lf.int IntKind.i64 x7, Lf.int IntKind.i64 x8]) ∧ (t4 = false → (-9223372036854775808 ≤
    x8 + 1 ∧ x8 + (1 : Int) ≤ 9223372036854775807) ∧ ∀ (w35 : World), RowKit.Below w.heap.size w w35 → Kept [m4, m28, m2, m1] w31 w35 → F3 [Lf.sl a4 m22 m23, Lf.int IntKind.i64 x7,
    Lf.int IntKind.i64 (x8 + 1)] w35 ∧ F4 [Lf.sl a4 m22 m23, Lf.int IntKind.i64 x7, Lf.int IntKind.i64 (x8 + 1)] < F4 [Lf.sl a4 m22 m23, Lf.int IntKind.i64 x7, Lf.int IntKind.i64
    x8])) ∧ (t3 = false → (-9223372036854775808 ≤ x8 + 1 ∧ x8 + (1 : Int) ≤ 9223372036854775807) ∧ ∀ (w36 : World), RowKit.Below w.heap.size w w36 → Kept [m4, m28, m2, m1] w29 w36
    → F3 [Lf.sl a4 m22 m23, Lf.int IntKind.i64 x7, Lf.int IntKind.i64 (x8 + 1)] w36 ∧ F4 [Lf.sl a4 m22 m23, Lf.int IntKind.i64 x7, Lf.int IntKind.i64 (x8 + 1)] < F4 [Lf.sl a4 m22
    m23, Lf.int IntKind.i64 x7, Lf.int IntKind.i64 x8])) ∧ (x9 ≠ pattern → (-9223372036854775808 ≤ x8 + 1 ∧ x8 + (1 : Int) ≤ 9223372036854775807) ∧ ∀ (w37 : World), RowKit.Below
    w.heap.size w w37 → Kept [m4, m28, m2, m1] w26 w37 → F3 [Lf.sl a4 m22 m23, Lf.int IntKind.i64 x7, Lf.int IntKind.i64 (x8 + 1)] w37 ∧ F4 [Lf.sl a4 m22 m23, Lf.int IntKind.i64
    x7, Lf.int IntKind.i64 (x8 + 1)] < F4 [Lf.sl a4 m22 m23, Lf.int IntKind.i64 x7, Lf.int IntKind.i64 x8]))) ∧ ((↑storen : Int) ≤ x8 → ∀ (w38 : World), RowKit.Below w.heap.size w
    w38 → Kept [m4, m2, m1] w24 w38 → R (Ending.returned (Value.tuple #[Value.slice a4 m22 m23, Value.int IntKind.i64 0])) w38)))) ∧ ((↑clockn : Int) ≤ 20 → (200 < (↑storen : Int)
    → ∀ (w39 : World), RowKit.Below w.heap.size w w39 → Kept [m4, m2, m1] w5 w39 → R (Ending.returned (Value.tuple #[Value.slice none 0 0, Value.int IntKind.i64 5])) w39) ∧
    ((↑storen : Int) ≤ 200 → ∀ (w40 : World), RowKit.Below w.heap.size w w40 → Kept [m4, m2, m1] w5 w40 → RunsTo Try.prog (Instr.makeMap 138 none) w40 fun (v5 : Value) (w41 :
    World) => ∃ (m37 : Nat), v5 = Value.map (some m37) ∧ KeepX true w.heap.size [m4, m2, m1] (fun _ => False) w40 w41 ∧ ∃ (F5 : List Lf → World → Prop), ∃ (F6 : List Lf → Nat), (∀
    (w43 : World), RowKit.Below w.heap.size w w43 → Kept [m4, m2, m1] w41 w43 → F5 [Lf.sl none 0 0, Lf.int IntKind.i64 0, Lf.int IntKind.i64 0] w43) ∧ ∀ (a7 : Option Addr) (m39 m40
    : Nat) (x11 x12 : Int) (w44 : World), RowKit.Below w.heap.size w w44 → F5 [Lf.sl a7 m39 m40, Lf.int IntKind.i64 x11, Lf.int IntKind.i64 x12] w44 → (x12 < (↑clockn : Int) → ∃
    (m41 : Nat), ∃ (m42 : Nat), clocka = some { block := m41, off := m42 } ∧ (0 ≤ x12 ∧ x12 < (↑clockn : Int)) ∧ ∃ (x13 : Int), ∃ (a8 : Option Addr), ∃ (m43 : Nat), ∃ (m44 : Nat),
    w44.cell? { block := m41, off := m42 + x12.toNat * 2 } = some (Value.int IntKind.i64 x13) ∧ w44.cell? { block := m41, off := m42 + x12.toNat * 2 + 1 } = some (Value.slice a8
    m43 m44) ∧ (m41 < w.heap.size ∨ m41 ≠ m4 ∧ m41 ≠ m2 ∧ m41 ≠ m1) ∧ ∀ (m45 : Nat), w44.heap.size ≤ m45 → ∀ (w45 : World), RowKit.Below w.heap.size w w45 → Kept [m4, m45, m2, m1]
    w44 w45 → Calls Try.prog 58 #[Value.agg #[Value.slice p0w0a p0w0n p0w0c, Value.slice p0w1a p0w1n p0w1c], Value.agg #[Value.int IntKind.i64 x13, Value.slice a8 m43 m44]] w45 fun
    (e7 : Ending) (w46 : World) => ∃ (x14 : Int), e7 = Ending.returned (Value.int IntKind.i64 x14) ∧ KeepX true w.heap.size [m4, m45, m2, m1] (fun _ => False) w45 w46 ∧ (x14 ≠ 0 →
    ∀ (w47 : World), RowKit.Below w.heap.size w w47 → Kept [m4, m45, m2, m1] w46 w47 → R (Ending.returned (Value.tuple #[Value.slice none 0 0, Value.int IntKind.i64 x14])) w47) ∧
    (x14 = 0 → ∀ (w48 : World), RowKit.Below w.heap.size w w48 → Kept [m4, m45, m2, m1] w46 w48 → RunsTo Try.prog (Instr.lookup 138 (Value.map (some m37)) (Value.int IntKind.i64
    x13) true) w48 fun (v6 : Value) (w49 : World) => ∃ (x15 : Int), ∃ (a9 : Option Addr), ∃ (m47 : Nat), ∃ (m48 : Nat), ∃ (t5 : Bool), v6 = Value.tuple #[Value.agg #[Value.int
    IntKind.i64 x15, Value.slice a9 m47 m48], Value.bool t5] ∧ KeepX true w.heap.size [m4, m45, m2, m1] (fun _ => False) w48 w49 ∧ ∀ (m50 : Nat), w49.heap.size ≤ m50 → (t5 = true →
    ∀ (w50 : World), RowKit.Below w.heap.size w w50 → Kept [m4, m50, m45, m2, m1] w49 w50 → R (Ending.returned (Value.tuple #[Value.slice none 0 0, Value.int IntKind.i64 6])) w50)
    ∧ (t5 = false → ∀ (w51 : World), RowKit.Below w.heap.size w w51 → Kept [m4, m50, m45, m2, m1] w49 w51 → RunsTo Try.prog ((Instr.mapUpdate 138 (Value.map (some m37)) (Value.int
    IntKind.i64 x13) (Value.agg #[Value.int IntKind.i64 x13, Value.slice a8 m43 m44])) >>= fun _ => pure (Value.tuple #[])) w51 fun (v7 : Value) (w52 : World) => KeepX true
    w.heap.size [m4, m50, m45, m2, m1] (fun _ => False) w51 w52 ∧ (-9223372036854775808 ≤ x12 + 1 ∧ x12 + (1 : Int) ≤ 9223372036854775807) ∧ ∀ (w53 : World), RowKit.Below
    w.heap.size w w53 → Kept [m4, m50, m45, m2, m1] w52 w53 → F5 [Lf.sl a7 m39 m40, Lf.int IntKind.i64 x11, Lf.int IntKind.i64 (x12 + 1)] w53 ∧ F6 [Lf.sl a7 m39 m40, Lf.int
    IntKind.i64 x11, Lf.int IntKind.i64 (x12 + 1)] < F6 [Lf.sl a7 m39 m40, Lf.int IntKind.i64 x11, Lf.int IntKind.i64 x12]))) ∧ ((↑clockn : Int) ≤ x12 → ∃ (F7 : List Lf → World →
    Prop), ∃ (F8 : List Lf → Nat), (∀ (w55 : World), RowKit.Below w.heap.size w w55 → Kept [m4, m2, m1] w44 w55 → F7 [Lf.sl a7 m39 m40, Lf.int IntKind.i64 x11, Lf.int IntKind.i64
    0] w55) ∧ ∀ (a10 : Option Addr) (m52 m53 : Nat) (x16 x17 : Int) (w56 : World), RowKit.Below w.heap.size w w56 → F7 [Lf.sl a10 m52 m53, Lf.int IntKind.i64 x16, Lf.int
    IntKind.i64 x17] w56 → (x17 < (↑storen : Int) → ∃ (m54 : Nat), ∃ (m55 : Nat), storea = some { block := m54, off := m55 } ∧ (0 ≤ x17 ∧ x17 < (↑storen : Int)) ∧ ∃ (x18 : Int), ∃
    (a11 : Option Addr), ∃ (m56 : Nat), ∃ (m57 : Nat), w56.cell? { block := m54, off := m55 + x17.toNat * 2 } = some (Value.int IntKind.i64 x18) ∧ w56.cell?
    { block := m54, off := m55 + x17.toNat * 2 + 1 } = some (Value.slice a11 m56 m57) ∧ (m54 < w.heap.size ∨ m54 ≠ m4 ∧ m54 ≠ m2 ∧ m54 ≠ m1) ∧ ∀ (m58 : Nat), w56.heap.size ≤ m58 →
    ∀ (w57 : World), RowKit.Below w.heap.size w w57 → Kept [m4, m58, m2, m1] w56 w57 → Calls Try.prog 58 #[Value.agg #[Value.slice p0w0a p0w0n p0w0c, Value.slice p0w1a p0w1n
    p0w1c], Value.agg #[Value.int IntKind.i64 x18, Value.slice a11 m56 m57]] w57 fun (e8 : Ending) (w58 : World) => ∃ (x19 : Int), e8 = Ending.returned (Value.int IntKind.i64 x19)
    ∧ KeepX true w.heap.size [m4, m58, m2, m1] (fun _ => False) w57 w58 ∧ (x19 ≠ 0 → ∀ (w59 : World), RowKit.Below w.heap.size w w59 → Kept [m4, m58, m2, m1] w58 w59 → R
    (Ending.returned (Value.tuple #[Value.slice none 0 0, Value.int IntKind.i64 x19])) w59) ∧ (x19 = 0 → (x18 = pattern → ∀ (w60 : World), RowKit.Below w.heap.size w w60 → Kept
    [m4, m58, m2, m1] w58 w60 → Calls Try.prog 59 #[Value.agg #[Value.slice p0w0a p0w0n p0w0c, Value.slice p0w1a p0w1n p0w1c], Value.agg #[Value.int IntKind.i64 x18, Value.slice
    a11 m56 m57]] w60 fun (e9 : Ending) (w61 : World) => ∃ (t6 : Bool), e9 = Ending.returned (Value.bool t6) ∧ KeepX true w.heap.size [m4, m58, m2, m1] (fun _ => False) w60 w61 ∧
    (t6 = true → ∀ (w62 : World), RowKit.Below w.heap.size w w62 → Kept [m4, m58, m2, m1] w61 w62 → Calls Try.prog 68 #[Value.agg #[Value.slice p0w0a p0w0n p0w0c, Value.slice p0w1a
    p0w1n p0w1c], Value.agg #[Value.int IntKind.i64 x18, Value.slice a11 m56 m57], Value.map (some m37)] w62 fun (e10 : Ending) (w63 : World) => ∃ (t7 : Bool), e10 =
    Ending.returned (Value.bool t7) ∧ KeepX true w.heap.size [m4, m58, m2, m1] (fun _ => False) w62 w63 ∧ (t7 = true → ∀ (m62 : Nat), w63.heap.size ≤ m62 → ∀ (w64 : World),
    RowKit.Below w.heap.size w w64 → Kept [m62, m4, m58, m2, m1] w63 w64 → w64.heap[m62]? = some (Obj.cells #[Value.int IntKind.i64 x17] 3) → RunsTo Try.prog (Builtin.append_ #[38,
    38] 38 #[Value.slice a10 m52 m53, Value.slice (some { block := m62, off := 0 }) 1 1]) w64 fun (v8 : Value) (w65 : World) => ∃ (a12 : Option Addr), ∃ (m64 : Nat), ∃ (m65 : Nat),
    v8 = Value.slice a12 m64 m65 ∧ KeepX true w.heap.size [m62, m4, m58, m2, m1] (fun _ => False) w64 w65 ∧ (-9223372036854775808 ≤ x17 + 1 ∧ x17 + (1 : Int) ≤ 9223372036854775807)
    ∧ ∀ (w66 : World), RowKit.Below w.heap.size w w66 → Kept [m62, m4, m58, m2, m1] w65 w66 → F7 [Lf.sl a12 m64 m65, Lf.int IntKind.i64 x16, Lf.int IntKind.i64 (x17 + 1)] w66 ∧ F8
    [Lf.sl a12 m64 m65, Lf.int IntKind.i64 x16, Lf.int IntKind.i64 (x17 + 1)] < F8 [Lf.sl a10 m52 m53, Lf.int IntKind.i64 x16, Lf.int IntKind.i64 x17]) ∧ (t7 = false →
    (-9223372036854775808 ≤ x17 + 1 ∧ x17 + (1 : Int) ≤ 9223372036854775807) ∧ ∀ (w67 : World), RowKit.Below w.heap.size w w67 → Kept [m4, m58, m2, m1] w63 w67 → F7 [Lf.sl a10 m52
    m53, Lf.int IntKind.i64 x16, Lf.int IntKind.i64 (x17 + 1)] w67 ∧ F8 [Lf.sl a10 m52 m53, Lf.int IntKind.i64 x16, Lf.int IntKind.i64 (x17 + 1)] < F8 [Lf.sl a10 m52 m53, Lf.int
    IntKind.i64 x16, Lf.int IntKind.i64 x17])) ∧ (t6 = false → (-9223372036854775808 ≤ x17 + 1 ∧ x17 + (1 : Int) ≤ 9223372036854775807) ∧ ∀ (w68 : World), RowKit.Below w.heap.size
    w w68 → Kept [m4, m58, m2, m1] w61 w68 → F7 [Lf.sl a10 m52 m53, Lf.int IntKind.i64 x16, Lf.int IntKind.i64 (x17 + 1)] w68 ∧ F8 [Lf.sl a10 m52 m53, Lf.int IntKind.i64 x16,
    Lf.int IntKind.i64 (x17 + 1)] < F8 [Lf.sl a10 m52 m53, Lf.int IntKind.i64 x16, Lf.int IntKind.i64 x17])) ∧ (x18 ≠ pattern → (-9223372036854775808 ≤ x17 + 1 ∧ x17 + (1 : Int) ≤
    9223372036854775807) ∧ ∀ (w69 : World), RowKit.Below w.heap.size w w69 → Kept [m4, m58, m2, m1] w58 w69 → F7 [Lf.sl a10 m52 m53, Lf.int IntKind.i64 x16, Lf.int IntKind.i64 (x17
    + 1)] w69 ∧ F8 [Lf.sl a10 m52 m53, Lf.int IntKind.i64 x16, Lf.int IntKind.i64 (x17 + 1)] < F8 [Lf.sl a10 m52 m53, Lf.int IntKind.i64 x16, Lf.int IntKind.i64 x17]))) ∧ ((↑storen
    : Int) ≤ x17 → ∀ (w70 : World), RowKit.Below w.heap.size w w70 → Kept [m4, m2, m1] w56 w70 → R (Ending.returned (Value.tuple #[Value.slice a10 m52 m53, Value.int IntKind.i64
    0])) w70))))))) : Calls Try.prog 36 #[Value.agg #[Value.slice p0w0a p0w0n p0w0c, Value.slice p0w1a p0w1n p0w1c], Value.slice clocka clockn clockc, Value.int IntKind.i64
    pattern, Value.slice storea storen storec] w R := calls_of_vc (pure := true) (wrapAt := []) (muts := []) (esc := []) (args := [SV.pv (PV.agg [Lf.sl p0w0a p0w0n p0w0c, Lf.sl
    p0w1a p0w1n p0w1c]), SV.pv (PV.one (Lf.sl clocka clockn clockc)), SV.pv (PV.one (Lf.int IntKind.i64 pattern)), SV.pv (PV.one (Lf.sl storea storen storec))]) (vs := [Value.agg
    #[Value.slice p0w0a p0w0n p0w0c, Value.slice p0w1a p0w1n p0w1c], Value.slice clocka clockn clockc, Value.int IntKind.i64 pattern, Value.slice storea storen storec]) Try.func36
    rfl rfl rfl (Eq.mp (by kernel_rfl) h) 
end Go.Proofs
end
section
/- The mates of a pattern: the iterator, and its functions. -/
namespace Go.Proofs.R12
open Go.Vc Go.RowKit Go.Proofs

theorem below_kept0 {w w' : World} (h : Kept [] w w') : Below w.heap.size w w' := ⟨h.os, h.tape, h.output, h.size, fun k hk => h.block k hk (by simp)⟩
theorem calm_of_below {B : Nat} {w w' : World} (h : Below w.heap.size w w') : CalmFrom B w w' := ⟨h.os, h.tape, h.output, h.size, fun k o hk _ => (h.block k (lt_of_some hk)).trans hk⟩
theorem yield_mono {P : Program} {l : Nat} {args : Array Value} {w : World} {R S : Ending → World → Prop} (h : YieldAt Fence.wide 0 P l args w R) (hs : ∀ e w', R e w' → S e w') : YieldAt Fence.wide 0 P l args w S := by
  obtain ⟨fn, tmps, assign, body, hy, hR⟩ := h
  exact ⟨fn, tmps, assign, body, hy, hR.mono hs⟩

/-- The other pattern, the fit, and whether x is the hole. -/
def mate1 (p : Int) (f : Fit) : Option (Int × Fit × Bool) := if p = f.hole then some (f.shaft, f, true) else if p = f.shaft then some (f.hole, f, false) else none
def mateL (l : List Fit) (p : Int) : List (Int × Fit × Bool) := l.filterMap (mate1 p)
theorem mateL_step {l : List Fit} {p : Int} {x : Nat} (h : x < l.length) : mateL (l.take (x + 1)) p = mateL (l.take x) p ++ (mate1 p (l.getD x fit0)).toList := by
  unfold mateL
  rw [List.take_succ_eq_append_getElem h, List.filterMap_append]
  have : l.getD x fit0 = l[x] := by simp [List.getD_eq_getElem?_getD, h]
  rw [this]
  cases hm : mate1 p l[x] <;> simp [hm]
theorem mateL_get {l : List Fit} {p : Int} {x : Nat} (h : x < l.length) {m : Int × Fit × Bool} (hm : mate1 p (l.getD x fit0) = some m) : (mateL l p)[(mateL (l.take x) p).length]? = some m := by
  have e : mateL l p = mateL (l.take (x + 1)) p ++ mateL (l.drop (x + 1)) p := by
    unfold mateL
    rw [← List.filterMap_append, List.take_append_drop]
  rw [e, mateL_step h, hm]
  simp
def mateV (m : Int × Fit × Bool) (b : Nat) : List Value := [I m.1, .func (.func (if m.2.2 then 96 else 97)) #[] #[.pointer (some ⟨b, 0, none⟩)]]
def MateY (cb : Nat) (l : List Fit) (p : Int) (k : Nat) (x : List Value) (w : World) : Prop := ∃ m b, (mateL l p)[k]? = some m ∧ x = mateV m b ∧ cb < b ∧ w.heap[b]? = some (.cells m.2.1.cells.toArray 67 (0, 0))
structure MateInv (cb pb : Nat) (l : List Fit) (fa : Option Addr) (fc : Nat) (p : Int) (w : World) : Prop where
  c : w.cell? ⟨cb, 1, none⟩ = some (.slice fa l.length fc)
  f : Cells w fa (fitsV l)
  p : w.cell? ⟨pb, 0, none⟩ = some (I p)

set_option maxRecDepth 100000 in
theorem mates_iter {cb pb : Nat} {l : List Fit} {fa : Option Addr} {fc : Nat} {p : Int} (hl : l.length ≤ 1000) : IterY Try.prog 95 [] [.pointer (some ⟨cb, 0, none⟩), .pointer (some ⟨pb, 0, none⟩)] (mateL l p).length (MateY cb l p) (MateInv cb pb l fa fc p) := by
  intro y J Jx W hJ hJx hInv hY h0
  have mvJ : ∀ {G k w w'}, J G k w → Kept [] w w' → J G k w' := fun h hk => hJ _ _ _ _ _ h (calm_of_below (below_kept0 hk)) (fun _ h => h) fun _ h => .inl h
  have mvX : ∀ {G k w w'}, Jx G k w → Kept [] w w' → Jx G k w' := fun h hk => hJx _ _ _ _ _ h (calm_of_below (below_kept0 hk)) (fun _ h => h) fun _ h => .inl h
  have kx : ∀ {G : Nat → Prop} {w w' : World}, RoundKeeps G w w' → KeepX false W.heap.size [] (fun _ => False) w w' := fun h => .own h.os h.tape h.output h.size (by simp) (by simp) (by simp)
  refine vc95 _ _ _ W _ ⟨_, _, _, cell_at' (hInv _ _ _ h0).c (by omega),
    fun ls w' => match ls with | [.int _ x] => (0 ≤ x ∧ x ≤ l.length) ∧ W.heap.size ≤ w'.heap.size ∧ ∃ G : Nat → Prop, (∀ b, G b → W.heap.size ≤ b ∧ b < w'.heap.size) ∧ J G (mateL (l.take x.toNat) p).length w' | _ => False, fun ls => match ls with | [.int _ x] => (l.length - x).toNat | _ => 0,
    fun w2 hk => ⟨⟨by omega, by omega⟩, hk.size, fun _ => False, fun b h => h.elim, mvJ h0 hk⟩, ?_⟩
  rintro x1 w3 ⟨⟨x0, xl⟩, z3, G, hG, hj⟩
  refine ⟨fun hlt => ?_, fun hge w17 hk17 => ⟨⟨_, rfl⟩, G, .inl ?_⟩⟩
  rotate_left
  · have := mvJ hj hk17
    rwa [show x1.toNat = l.length by omega, List.take_length] at this
  have hx : x1.toNat < l.length := by omega
  refine load_fit (hInv _ _ _ hj).f (.refl _ _) ⟨x0, hlt⟩ fun m3 m4 _ => ?_
  generalize hf : l.getD x1.toNat ⟨0, 0, 0, 0, (0, 0)⟩ = f
  have hst : (mateL (l.take (x1 + 1).toNat) p) = mateL (l.take x1.toNat) p ++ (mate1 p f).toList := by
    rw [show (x1 + 1).toNat = x1.toNat + 1 by omega, mateL_step hx, ← hf]
  intro w4 hk4 m5 w5 h5 hw5 w6 hk6
  have z4 := hk4.size
  have z5 : w5.heap.size = w4.heap.size + 1 := by rw [hw5]; show (w4.heap.push _).size = _; exact Array.size_push _
  have z6 := hk6.size
  have d5 : Below w4.heap.size w4 w5 := by rw [hw5]; exact (Below.refl _ _).alloc (Nat.le_refl _) _
  have c6 : w6.heap[m5]? = some (.cells [I 0, I 0, I 0, I 0, I 0, I 0].toArray 67 (0, 0)) := by
    rw [hk6.block m5 (by omega) (by simp), hw5, h5]
    show (w4.heap.push _)[w4.heap.size]? = _
    simp
  refine obj_store (P := Try.prog) (t := 67) (vs := [I f.hole, I f.hs, I f.shaft, I f.ss, I f.gap.1, I f.gap.2]) c6 (by kernel_rfl) (by kernel_rfl) (by simp) rfl (fun u hu => by simp at hu; rcases hu with rfl | rfl | rfl | rfl | rfl | rfl <;> trivial) fun w7 c7 g7 => ?_
  have z7 := g7.size
  have d7 : Below w3.heap.size w3 w7 := ((below_kept0 hk4).trans (d5.mono z4)).trans (((below_kept0 hk6).mono (by omega)).trans (below_of_chg g7 (by omega) (by simp; omega)))
  have hj7 : J (fun b => G b ∨ b = m5) (mateL (l.take x1.toNat) p).length w7 := hJ _ _ _ _ _ hj (calm_of_below d7) (fun _ h => .inl h) fun b hb => by
    rcases hb with hb | rfl
    · exact .inl hb
    · exact .inr ⟨by omega, by omega⟩
  have hG7 : ∀ b, (G b ∨ b = m5) → W.heap.size ≤ b ∧ b < w7.heap.size := fun b hb => by
    rcases hb with hb | rfl
    · have := hG b hb; omega
    · omega
  have I7 := hInv _ _ _ hj7
  have c7' : ∀ {w8 : World}, Kept [] w7 w8 → w8.heap[m5]? = some (.cells f.cells.toArray 67 (0, 0)) := fun hk => by
    rw [hk.block m5 (by omega) (by simp)]; exact c7
  have c7a : ∀ {i : Nat} {v : Value}, f.cells[i]? = some v → w7.cell? ⟨m5, i, none⟩ = some v := fun h => cell_obj (vs := f.cells) c7 h
  have yld : ∀ {m : Int × Fit × Bool} {w8 : World}, mate1 p f = some m → m.2.1 = f → Kept [] w7 w8 → YieldAt Fence.wide 0 Try.prog y (mateV m m5).toArray w8 fun e w9 => ∃ t : Bool, e = .returned (.bool t) ∧ KeepX false W.heap.size [] (fun _ => False) w8 w9 ∧ w8.heap.size ≤ w9.heap.size ∧ (t = true → J (fun b => G b ∨ b = m5) ((mateL (l.take x1.toNat) p).length + 1) w9) ∧ (t = false → Jx (fun b => G b ∨ b = m5) ((mateL (l.take x1.toNat) p).length + 1) w9) := fun {m w8} hm hmf hk8 => by
    have hget := mateL_get hx (p := p) (m := m) (by rw [show l.getD x1.toNat fit0 = f from hf]; exact hm)
    refine yield_mono (hY _ _ (mateV m m5) _ (mvJ hj7 hk8) (fun b hb => by have := hG7 b hb; have := hk8.size; omega) (List.getElem?_eq_some_iff.1 hget).1 ⟨m, m5, hget, rfl, by have := cell_lt (hInv _ _ _ h0).c; omega, by rw [hmf]; exact c7' hk8⟩) fun e w9 he => ?_
    obtain ⟨t, rfl, hrk, hT, hF⟩ := he
    exact ⟨t, rfl, kx hrk, hrk.size, hT, hF⟩
  refine ⟨g7.own (by simp) (by simp) (fun h => by cases h), p, I7.p, f.hole, c7a (i := 0) rfl, fun he => ?_, fun hne => ?_⟩
  · have hm : mate1 p f = some (f.shaft, f, true) := by unfold mate1; rw [if_pos he]
    refine ⟨f.shaft, c7a (i := 2) rfl, fun w8 hk8 => ⟨y, rfl, yield_mono (yld hm rfl hk8) fun e w9 h9 => ?_⟩⟩
    obtain ⟨t, rfl, k9, s9, hT, hF⟩ := h9
    refine ⟨t, rfl, k9, fun h w10 hk10 => ⟨⟨_, rfl⟩, _, .inr ⟨_, mvX (hF (by simpa using h)) hk10⟩⟩, fun h => ⟨⟨by omega, by omega⟩, fun w11 hk11 => ⟨⟨⟨by omega, by omega⟩, by have := hk8.size; have := hk11.size; omega, _, fun b hb => by have := hG7 b hb; have := hk8.size; have := hk11.size; omega, ?_⟩, by simp only; omega⟩⟩⟩
    rw [hst, hm]
    simpa using mvJ (hT (by simpa using h)) hk11
  · refine ⟨f.shaft, c7a (i := 2) rfl, fun he => ?_, fun hne2 => ⟨⟨by omega, by omega⟩, fun w16 hk16 => ⟨⟨⟨by omega, by omega⟩, by have := hk16.size; omega, _, fun b hb => by have := hG7 b hb; have := hk16.size; omega, ?_⟩, by simp only; omega⟩⟩⟩
    · have hm : mate1 p f = some (f.hole, f, false) := by unfold mate1; rw [if_neg hne, if_pos he]
      refine ⟨f.hole, c7a (i := 0) rfl, fun w12 hk12 => ⟨y, rfl, yield_mono (yld hm rfl hk12) fun e w13 h13 => ?_⟩⟩
      obtain ⟨t, rfl, k13, s13, hT, hF⟩ := h13
      refine ⟨t, rfl, k13, fun h w14 hk14 => ⟨⟨_, rfl⟩, _, .inr ⟨_, mvX (hF (by simpa using h)) hk14⟩⟩, fun h => ⟨⟨by omega, by omega⟩, fun w15 hk15 => ⟨⟨⟨by omega, by omega⟩, by have := hk12.size; have := hk15.size; omega, _, fun b hb => by have := hG7 b hb; have := hk12.size; have := hk15.size; omega, ?_⟩, by simp only; omega⟩⟩⟩
      rw [hst, hm]
      simpa using mvJ (hT (by simpa using h)) hk15
    · have hm : mate1 p f = none := by unfold mate1; rw [if_neg hne, if_neg hne2]
      rw [hst, hm]
      simpa using mvJ hj7 hk16
end Go.Proofs.R12
end
section
/- Whether a piece goes into a clock. -/
namespace Go.Proofs.R12
open Go.Vc Go.RowKit Go.Proofs

def fitsQ (b : Bool) (f : Fit) (x q : List Int) : Prop := if b then isF f (x.getD f.hs.toNat 0) (q.getD f.ss.toNat 0) else isF f (q.getD f.hs.toNat 0) (x.getD f.ss.toNat 0)
instance (b : Bool) (f : Fit) (x q : List Int) : Decidable (fitsQ b f x q) := by unfold fitsQ; exact inferInstance
theorem sz_get {l : List Int} (h : ∀ x ∈ l, 0 ≤ x ∧ x ≤ 1000000) (i : Nat) : 0 ≤ l.getD i 0 ∧ l.getD i 0 ≤ 1000000 := by
  rw [List.getD_eq_getElem?_getD]
  cases e : l[i]? with
  | none => simp
  | some v => exact h v (List.mem_of_getElem? e)
/-- What a piece must have for a fit. -/
def inFit (b : Bool) (f : Fit) (x q : List Int) : Prop := if b then (0 ≤ f.hs ∧ f.hs < x.length) ∧ 0 ≤ f.ss ∧ f.ss < q.length else (0 ≤ f.hs ∧ f.hs < q.length) ∧ 0 ≤ f.ss ∧ f.ss < x.length

theorem load_o {w : World} {a : Option Addr} {l : List Int} {i : Int} {n : Nat} {X : Nat → Nat → Int → Prop} (h : Cells w a (ints l)) (hn : l.length = n) (hi0 : 0 ≤ i ∧ i < (n : Int)) (k : ∀ m o, m < w.heap.size → X m o (l.getD i.toNat 0)) :
    ∃ m o, a = some ⟨m, o, none⟩ ∧ (0 ≤ i ∧ i < (n : Int)) ∧ ∃ x0 : Int, w.cell? ⟨m, o + i.toNat * 1, none⟩ = some (I x0) ∧ X m o x0 := by
  subst hn
  exact load_int h (.refl _ _) hi0 k
set_option maxRecDepth 100000 in
theorem fits_any {w : World} {b : Bool} {f : Fit} {x q : List Int} {x0 q0 : Int} {xa qa : Option Addr} {xc qc cb : Nat} (hc : w.heap[cb]? = some (.cells f.cells.toArray 67 (0, 0))) (hx : Cells w xa (ints x)) (hq : Cells w qa (ints q)) (sx : ∀ s ∈ x, 0 ≤ s ∧ s ≤ 1000000) (sq : ∀ s ∈ q, 0 ≤ s ∧ s ≤ 1000000) (hi : inFit b f x q) :
    Calls Try.prog (if b then 96 else 97) #[.agg #[I x0, .slice xa x.length xc], .agg #[I q0, .slice qa q.length qc], .pointer (some ⟨cb, 0, none⟩)] w (Pure w (.bool (decide (fitsQ b f x q)))) := by
  have ca : ∀ {i : Nat} {v : Value}, f.cells[i]? = some v → w.cell? ⟨cb, i, none⟩ = some v := fun h => cell_obj (vs := f.cells) hc h
  have hlt := lt_of_some hc
  have bx := sz_get sx
  have bq := sz_get sq
  cases b with
  | true =>
    simp only [inFit, if_true] at hi
    refine vc96 _ _ _ _ _ _ _ _ _ w _ fun m1 g1 m2 g2 => ⟨_, _, _, _, _, _, cell_at' (ca (i := 0) rfl) (by omega), cell_at' (ca (i := 1) rfl) (by omega), cell_at' (ca (i := 2) rfl) (by omega), cell_at' (ca (i := 3) rfl) (by omega), cell_at' (ca (i := 4) rfl) (by omega), cell_at' (ca (i := 5) rfl) (by omega), .inl hlt, _, cell_at' (ca (i := 1) rfl) (by omega), .inl hlt, ?_⟩
    refine load_o hx rfl hi.1 fun m3 o3 h3 => ⟨.inl h3, _, cell_at' (ca (i := 3) rfl) (by omega), .inl hlt, ?_⟩
    refine load_o hq rfl hi.2 fun m5 o5 h5 => ⟨.inl h5, fun w1 hb1 hk1 => ?_⟩
    have := bx f.hs.toNat
    have := bq f.ss.toNat
    exact Pure.calls (is_any f _ _ (by omega) (by omega)) fun w2 hd => ⟨_, rfl, .all hd, fun w3 hb3 hk3 => ⟨by simp [fitsQ], hb3⟩⟩
  | false =>
    simp only [inFit, Bool.false_eq_true, if_false] at hi
    refine vc97 _ _ _ _ _ _ _ _ _ w _ fun m1 g1 m2 g2 => ⟨_, _, _, _, _, _, cell_at' (ca (i := 0) rfl) (by omega), cell_at' (ca (i := 1) rfl) (by omega), cell_at' (ca (i := 2) rfl) (by omega), cell_at' (ca (i := 3) rfl) (by omega), cell_at' (ca (i := 4) rfl) (by omega), cell_at' (ca (i := 5) rfl) (by omega), .inl hlt, _, cell_at' (ca (i := 1) rfl) (by omega), .inl hlt, ?_⟩
    refine load_o hq rfl hi.1 fun m3 o3 h3 => ⟨.inl h3, _, cell_at' (ca (i := 3) rfl) (by omega), .inl hlt, ?_⟩
    refine load_o hx rfl hi.2 fun m5 o5 h5 => ⟨.inl h5, fun w1 hb1 hk1 => ?_⟩
    have := bq f.hs.toNat
    have := bx f.ss.toNat
    exact Pure.calls (is_any f _ _ (by omega) (by omega)) fun w2 hd => ⟨_, rfl, .all hd, fun w3 hb3 hk3 => ⟨by simp [fitsQ], hb3⟩⟩

theorem mates_l {w : World} {W : Wk} {pa fa : Option Addr} {pc fc : Nat} {p : Int} : Calls Try.prog 86 #[W.v pa pc fa fc, I p] w fun e w' => Below w.heap.size w w' ∧ ∃ cb pb, e = .returned (.func (.func 95) #[] #[.pointer (some ⟨cb, 0, none⟩), .pointer (some ⟨pb, 0, none⟩)]) ∧ (w.heap.size ≤ cb ∧ w.heap.size ≤ pb) ∧ w'.heap[cb]? = some (.cells #[.slice pa W.pats.length pc, .slice fa W.fits.length fc] 108 (0, 0)) ∧ w'.heap[pb]? = some (.cells #[I p] 3 (0, 0)) :=
  vc86 _ _ _ _ _ _ _ w _ fun m1 g1 m2 g2 w1 hb1 hk1 h1 h2 => ⟨hb1, m1, m2, rfl, ⟨g1, g2⟩, h1, h2⟩

/-- A piece of a clock, as it lies there. -/
structure CP where
  p : Piece
  a : Option Addr
  c : Nat
def CP.v (q : CP) : Value := .agg #[I q.p.pat, .slice q.a q.p.sizes.length q.c]
def clockV (C : List CP) : List (Int × Value) := C.map fun q => (q.p.pat, q.v)
def lookC (C : List CP) (o : Int) : Option CP := C.find? fun q => o == q.p.pat
theorem clock_look (C : List CP) (o : Int) : (clockV C).lookup o = (lookC C o).map CP.v := by
  induction C with
  | nil => rfl
  | cons q r ih =>
    simp only [clockV, lookC, List.map_cons, List.lookup, List.find?] at ih ⊢
    cases o == q.p.pat
    · exact ih
    · rfl
def goesC (W : Wk) (x : Piece) (C : List CP) : Bool := (mateL W.fits x.pat).all fun m => match lookC C m.1 with | none => true | some q => decide (fitsQ m.2.2 m.2.1 x.sizes q.p.sizes)
theorem mate_mem {l : List Fit} {p : Int} {k : Nat} {m : Int × Fit × Bool} (h : (mateL l p)[k]? = some m) : m.2.1 ∈ l ∧ ((m.2.2 = true ∧ p = m.2.1.hole ∧ m.1 = m.2.1.shaft) ∨ (m.2.2 = false ∧ p = m.2.1.shaft ∧ m.1 = m.2.1.hole)) := by
  obtain ⟨f, hf, he⟩ := List.mem_filterMap.1 (List.mem_of_getElem? h)
  unfold mate1 at he
  split at he
  · obtain rfl := Option.some.inj he; exact ⟨hf, .inl ⟨rfl, by assumption, rfl⟩⟩
  · split at he
    · obtain rfl := Option.some.inj he; exact ⟨hf, .inr ⟨rfl, by assumption, rfl⟩⟩
    · cases he

set_option maxRecDepth 100000 in
theorem goes_any {w : World} {W : Wk} {x : Piece} {C : List CP} {pa fa xa : Option Addr} {pc fc xc tm : Nat} (hf : Cells w fa (fitsV W.fits)) (hW : OkW W) (hx : Cells w xa (ints x.sizes)) (ex : pieceErr W x = 0) (hm : MapC w tm I (clockV C)) (hC : ∀ q ∈ C, pieceErr W q.p = 0 ∧ Cells w q.a (ints q.p.sizes)) :
    Calls Try.prog 68 #[W.v pa pc fa fc, .agg #[I x.pat, .slice xa x.sizes.length xc], .map (some tm)] w (Pure w (.bool (goesC W x C))) := by
  obtain ⟨bxp, lx, sx⟩ := pieceErr_ok ex
  refine vc68 _ _ _ _ _ _ _ _ _ _ _ w _ fun m1 g1 m2 g2 m3 g3 m4 g4 w1 hb1 hk1 => mates_l.mono fun e1 w2 he => ?_
  obtain ⟨hb2, cb, pb, rfl, ⟨hcb, hpb⟩, hc2, hp2⟩ := he
  have hns : ∀ b, w1.heap.size ≤ b → b ∉ [m4, m3, m2, m1] := fun b hb hm => by
    have := hk1.own b hm
    omega
  have inv : ∀ {w' : World}, Below w.heap.size w w' → w'.heap[cb]? = some (.cells #[.slice pa W.pats.length pc, .slice fa W.fits.length fc] 108 (0, 0)) → w'.heap[pb]? = some (.cells #[I x.pat] 3 (0, 0)) → MateInv cb pb W.fits fa fc x.pat w' := fun hb h1 h2 =>
    ⟨cell_obj (vs := [.slice pa W.pats.length pc, .slice fa W.fits.length fc]) h1 rfl, hf.keep hb, cell_obj (vs := [I x.pat]) h2 rfl⟩
  let okM : Int × Fit × Bool → Bool := fun m => match lookC C m.1 with | none => true | some q => decide (fitsQ m.2.2 m.2.1 x.sizes q.p.sizes)
  refine ⟨_, rfl, .all hb2, _, rfl, (mateL W.fits x.pat).length, MateY cb W.fits x.pat, fun _ _ k w' => (∀ j m, j < k → (mateL W.fits x.pat)[j]? = some m → okM m = true) ∧ w'.heap[cb]? = some (.cells #[.slice pa W.pats.length pc, .slice fa W.fits.length fc] 108 (0, 0)) ∧ w'.heap[pb]? = some (.cells #[I x.pat] 3 (0, 0)), MateInv cb pb W.fits fa fc x.pat, mates_iter (Nat.le_trans hW.2.2.1 (by omega)), fun w6 hb6 hk6 hc6 => ?_, ?_⟩
  · exact ⟨fun j m h => by omega, (hk6.block cb (lt_of_some hc2) (hns cb hcb)).trans hc2, (hk6.block pb (lt_of_some hp2) (hns pb hpb)).trans hp2⟩
  rintro t1 k F5 F6 w7 w8 ⟨hok, hc7, hp7⟩ hcalm _ _ _ hb8
  have hc8 := hcalm.keep _ _ hc7 (.inl rfl)
  have hp8 := hcalm.keep _ _ hp7 (.inl rfl)
  refine ⟨inv hb8 hc8 hp8, fun y5 hk hY => ?_, fun hk w23 hb23 hk23 w24 hcalm24 => ?_⟩
  rotate_left
  · have hall : goesC W x C = true := by
      unfold goesC
      rw [List.all_eq_true]
      intro m hm
      obtain ⟨j, hj, he⟩ := List.getElem_of_mem hm
      exact hok j m (by omega) (by rw [List.getElem?_eq_getElem hj, he])
    rw [hall]
    exact ⟨rfl, hb23.trans (hcalm24.below hb23.size)⟩
  obtain ⟨m, b, hget, rfl, hlt, hcell⟩ := hY
  refine ⟨m.1, _, rfl, fun _ w9 w10 hb10 hk10 w11 hcalm11 w12 w13 hb13 hk13 => ?_⟩
  have mv : ∀ {b : Nat} {cs : Array Value} {T : TypeId}, w1.heap.size ≤ b → w8.heap[b]? = some (.cells cs T (0, 0)) → w13.heap[b]? = some (.cells cs T (0, 0)) := fun {b cs T} hb h => by
    have h10 := (hk10.block b (lt_of_some h) (hns b hb)).trans h
    have h11 := hcalm11.keep _ _ h10 (.inl rfl)
    exact (hk13.block b (lt_of_some h11) (hns b hb)).trans h11
  have hc13 := mv hcb hc8
  have hp13 := mv hpb hp8
  have hb13' := mv (by omega) hcell
  obtain ⟨hmf, hmm⟩ := mate_mem hget
  have okf := hW.2.2.2 _ hmf
  refine lookup_ok keyI (P := Try.prog) (mt := 138) (vt := 40) (by kernel_rfl) (hm.below hb13) m.1 (z := .agg #[I 0, .slice none 0 0]) (by kernel_rfl) ?_
  rw [clock_look]
  have stop : ∀ {w' : World}, okM m = false → Below w.heap.size w w' → Pure w (.bool (goesC W x C)) (.returned (.bool false)) w' := fun h hb => by
    have : goesC W x C = false := by
      unfold goesC
      rw [List.all_eq_false]
      exact ⟨m, List.mem_of_getElem? hget, by simpa using h⟩
    rw [this]; exact ⟨rfl, hb⟩
  have next : ∀ {w' : World}, okM m = true → (∀ (b : Nat) (o : Obj), w1.heap.size ≤ b → w13.heap[b]? = some o → w'.heap[b]? = some o) → (∀ j m, j < k + 1 → (mateL W.fits x.pat)[j]? = some m → okM m = true) ∧ w'.heap[cb]? = some (.cells #[.slice pa W.pats.length pc, .slice fa W.fits.length fc] 108 (0, 0)) ∧ w'.heap[pb]? = some (.cells #[I x.pat] 3 (0, 0)) := fun {w'} h mv2 => by
    refine ⟨fun j m' hj hm' => ?_, mv2 _ _ hcb hc13, mv2 _ _ hpb hp13⟩
    by_cases he : j = k
    · subst he; rw [hget] at hm'; obtain rfl := Option.some.inj hm'; exact h
    · exact hok j m' (by omega) hm'
  have out : ∀ {m21 : Nat}, w13.heap.size ≤ m21 → ∀ {b : Nat} {u : World} {o : Obj}, w13.heap[b]? = some o → u.heap.size = u.heap.size → w1.heap.size ≤ b → b ∉ [m21, m4, m3, m2, m1] := fun {m21} h {b u o} ho _ hb hm => by
    rcases List.mem_cons.1 hm with h' | h'
    · have := lt_of_some ho; omega
    · exact hns b hb h'
  cases hl : lookC C m.1 with
  | none =>
    refine ⟨0, none, 0, 0, false, rfl, .all (.refl _ _), fun m21 g21 => ⟨fun h => (by cases h), fun _ w22 hb22 hk22 => ?_⟩⟩
    exact next (by simp only [okM, hl]) fun b o hb ho => (hk22.block b (lt_of_some ho) (out g21 (u := w13) ho rfl hb)).trans ho
  | some q =>
    have hq := hC q (List.mem_of_find?_eq_some hl)
    obtain ⟨bqp, lq, sq⟩ := pieceErr_ok hq.1
    have hqp : m.1 = q.p.pat := by have := List.find?_some hl; simpa using this
    refine ⟨q.p.pat, q.a, q.p.sizes.length, q.c, true, rfl, .all (.refl _ _), fun m21 g21 => ⟨fun _ => ⟨if m.2.2 then 96 else 97, [], [.pointer (some ⟨b, 0, none⟩)], rfl, by cases m.2.2 <;> exact callOk_run (by rfl), fun w15 hb15 hk15 => ?_⟩, fun h => (by cases h)⟩⟩
    have hnb : b ∉ [m21, m4, m3, m2, m1] := fun hm => by
      rcases List.mem_cons.1 hm with h | h
      · have := lt_of_some hb13'; omega
      · exact hns b (by omega) h
    have hcell15 := (hk15.block b (lt_of_some hb13') hnb).trans hb13'
    have hin : inFit m.2.2 m.2.1 x.sizes q.p.sizes := by
      obtain ⟨_, ⟨_, o1, o2⟩, ⟨_, o3, o4⟩, _⟩ := okf
      unfold inFit
      rcases hmm with ⟨h1, h2, h3⟩ | ⟨h1, h2, h3⟩
      · rw [h1, if_pos rfl, lx, lq, h2, ← hqp, h3]; exact ⟨⟨o1, o2⟩, o3, o4⟩
      · rw [h1, if_neg (by simp), lx, lq, h2, ← hqp, h3]; exact ⟨⟨o1, o2⟩, o3, o4⟩
    refine Pure.calls (fits_any (b := m.2.2) (f := m.2.1) (x0 := x.pat) (q0 := q.p.pat) (xc := xc) (qc := q.c) hcell15 (hx.keep hb15) (hq.2.keep hb15) sx sq hin) fun w16 hd16 => ⟨_, rfl, .all hd16, fun ht w17 hb17 hk17 F7 w18 hcalm18 _ w19 hb19 hk19 w20 hcalm20 => ?_, fun ht w21 hb21 hk21 => ?_⟩
    · exact stop (by simp only [okM, hl]; simpa using ht) (hb19.trans (hcalm20.below hb19.size))
    · refine next (by simp only [okM, hl]; simpa using ht) fun b o hb ho => ?_
      have h15 := (hk15.block b (lt_of_some ho) (out g21 (u := w13) ho rfl hb)).trans ho
      have h16 := (hd16.block b (lt_of_some h15)).trans h15
      exact (hk21.block b (lt_of_some h16) (out g21 (u := w13) ho rfl hb)).trans h16
end Go.Proofs.R12
end
section
/- Choose. -/
namespace Go.Proofs.R12
open Go.Vc Go.RowKit Go.Proofs

abbrev piece0 : Piece := ⟨0, []⟩
def lookP (C : List Piece) (o : Int) : Option Piece := C.find? fun q => o == q.pat
def goesP (W : Wk) (x : Piece) (C : List Piece) : Bool := (mateL W.fits x.pat).all fun m => match lookP C m.1 with | none => true | some q => decide (fitsQ m.2.2 m.2.1 x.sizes q.sizes)
theorem look_cp (L : List CP) (o : Int) : lookP (L.map CP.p) o = (lookC L o).map CP.p := by
  unfold lookP lookC
  rw [List.find?_map]; rfl
theorem goesC_eq (W : Wk) (x : Piece) (L : List CP) : goesC W x L = goesP W x (L.map CP.p) := by
  unfold goesC goesP
  congr 1
  funext m
  rw [look_cp]
  cases lookC L m.1 <;> rfl
def clockErr (W : Wk) : List Piece → List Int → Int
  | [], _ => 0
  | q :: r, seen => if pieceErr W q ≠ 0 then pieceErr W q else if q.pat ∈ seen then 6 else clockErr W r (seen ++ [q.pat])
def storeErr (W : Wk) : List Piece → Int
  | [] => 0
  | q :: r => if pieceErr W q ≠ 0 then pieceErr W q else storeErr W r
def fitsIn (W : Wk) (p : Int) (C : List Piece) (x : Piece) : Bool := decide (x.pat = p) && (decide (goodM W x) && goesP W x C)
def chosen (W : Wk) (p : Int) (C St : List Piece) (j : Nat) : List Int := (idxs j).filter fun i => fitsIn W p C (St.getD i.toNat piece0)
def chooseM (W : Wk) (p : Int) (C St : List Piece) : List Int × Int :=
  if ¬ OkW W then ([], 2) else if ¬ (0 ≤ p ∧ p < W.pats.length) then ([], 7) else if 20 < C.length ∨ 200 < St.length then ([], 5) else if clockErr W C [] ≠ 0 then ([], clockErr W C []) else if storeErr W St ≠ 0 then ([], storeErr W St) else (chosen W p C St St.length, 0)
theorem chosen_succ (W : Wk) (p : Int) (C St : List Piece) (j : Nat) : chosen W p C St (j + 1) = chosen W p C St j ++ (if fitsIn W p C (St.getD j piece0) then [(j : Int)] else []) := by
  unfold chosen
  rw [idxs_succ, List.filter_append]
  congr 1
  simp [List.filter]
  cases fitsIn W p C (St[j]?.getD piece0) <;> simp
theorem chosen_len (W : Wk) (p : Int) (C St : List Piece) (j : Nat) : (chosen W p C St j).length ≤ j := Nat.le_trans (List.length_filter_le _ _) (by simp [idxs])
theorem drop_get {l : List Piece} {i : Nat} (h : i < l.length) : l.drop i = l.getD i piece0 :: l.drop (i + 1) := by
  rw [List.drop_eq_getElem_cons h]; simp [List.getD_eq_getElem?_getD, h]
theorem take_get {l : List Piece} {i : Nat} (h : i < l.length) : l.take (i + 1) = l.take i ++ [l.getD i piece0] := by
  rw [List.take_succ_eq_append_getElem h]; simp [List.getD_eq_getElem?_getD, h]
theorem clockV_keys (L : List CP) (k : Int) : (clockV L).lookup k = none ↔ k ∉ (L.map CP.p).map (·.pat) := by
  induction L with
  | nil => simp [clockV]
  | cons q r ih =>
    simp only [clockV, List.map_cons, List.lookup, List.mem_cons, not_or] at ih ⊢
    by_cases h : k = q.p.pat
    · subst h; simp
    · have : (k == q.p.pat) = false := by simpa using h
      rw [this]; simp only [h, not_false_iff, true_and]; exact ih
theorem clockV_add (L : List CP) (q : CP) : clockV L ++ [(q.p.pat, q.v)] = clockV (L ++ [q]) := by simp [clockV]

def PureL (w : World) (res : List Int × Int) (e : Ending) (w' : World) : Prop := ∃ a c, e = .returned (.tuple #[.slice a res.1.length c, I res.2]) ∧ Below w.heap.size w w' ∧ Lies [] w.heap.size w'.heap.size w' a (ints res.1)
theorem pureL_err {w w' : World} {res : List Int × Int} {x : Int} (h : res = ([], x)) (hb : Below w.heap.size w w') : PureL w res (.returned (.tuple #[.slice none 0 0, I x])) w' := by
  subst h
  exact ⟨none, 0, rfl, hb, fun i v hi => by simp [ints] at hi⟩

set_option maxRecDepth 100000 in
set_option maxHeartbeats 1000000 in
theorem Choose_l {w : World} {W : Wk} {pa fa ca sa : Option Addr} {pc fc cc sc : Nat} {p : Int} {C St : List Piece} (hp : CellsS w pa W.pats) (hf : Cells w fa (fitsV W.fits)) (hS : Small W) (hC : CellsP w ca C) (hT : CellsP w sa St) (lC : C.length ≤ 1000) (lT : St.length ≤ 1000) (xC : ∀ x ∈ C, x.sizes.length ≤ 17592186044000) (xT : ∀ x ∈ St, x.sizes.length ≤ 17592186044000) :
    Calls Try.prog 36 #[W.v pa pc fa fc, .slice ca C.length cc, I p, .slice sa St.length sc] w (PureL w (chooseM W p C St)) := by
  have hn := hS.n
  refine vc36 _ _ _ _ _ _ _ _ _ _ _ _ _ w _ fun m1 g1 m2 g2 w1 hb1 hk1 => ?_
  refine Pure.calls (check_any (hp.keep hb1) (hf.keep hb1) hS) fun w2 hd2 => ⟨_, rfl, .all hd2, fun h1 w3 hb3 _ => ?_, fun h1 => ?_⟩
  · exact pureL_err (by unfold chooseM; rw [if_pos (checkE_ne.1 h1)]) hb3
  have hok : OkW W := checkE_ok.1 h1
  have hb2 := hb1.trans (hd2.mono hb1.size)
  refine ⟨by omega, fun m4 g4 w4 hb4 hk4 hc4 => ?_⟩
  refine Pure.calls (in1_any hc4) fun w5 hd5 => ⟨_, rfl, .all hd5, fun h2 w6 hb6 _ => ?_, fun h2 => ?_⟩
  · refine pureL_err ?_ hb6
    simp only [Bool.not_eq_true', decide_eq_false_iff_not] at h2
    unfold chooseM; rw [if_neg (by simpa using hok), if_pos (by omega)]
  have hpn : 0 ≤ p ∧ p < W.pats.length := by
    simp only [Bool.not_eq_false', decide_eq_true_eq] at h2
    omega
  have e5 : (20 < C.length ∨ 200 < St.length) → chooseM W p C St = ([], 5) := fun h => by unfold chooseM; rw [if_neg (by simpa using hok), if_neg (by simpa using hpn), if_pos h]
  refine ⟨fun h20 => ⟨fun _ w7 hb7 _ => pureL_err (e5 (.inl (by omega))) hb7, fun h => by exfalso; omega⟩, fun h20 => ⟨fun h200 w9 hb9 _ => pureL_err (e5 (.inr (by omega))) hb9, fun h200 => ?_⟩⟩
  have hM : chooseM W p C St = if clockErr W C [] ≠ 0 then ([], clockErr W C []) else if storeErr W St ≠ 0 then ([], storeErr W St) else (chosen W p C St St.length, 0) := by
    unfold chooseM; rw [if_neg (by simpa using hok), if_neg (by simpa using hpn), if_neg (by omega)]
  intro w10 hb10 hk10
  have o1 := hk10.own m1 (by simp)
  have o2 := hk10.own m2 (by simp)
  have o4 := hk10.own m4 (by simp)
  have z10 := hb10.size
  refine mkMap (K := Int) (enc := I) fun w11 hd11 M11 => ⟨_, rfl, .all hd11, ?_⟩
  have l11 := M11.lt
  generalize w10.heap.size = tm at *
  have nt : tm ∉ [m4, m2, m1] := by simp only [List.mem_cons, List.not_mem_nil, or_false]; omega
  have gd : ∀ {l : List Piece} {i : Nat}, (∀ x ∈ l, x.sizes.length ≤ 17592186044000) → i < l.length → (l.getD i piece0).sizes.length ≤ 17592186044000 := fun {l i} h hi => h _ (by simp [List.getD_eq_getElem?_getD, hi])
  refine ⟨fun ls w' => match ls with | [.sl a n c, .int _ _, .int _ ii] => (0 ≤ ii ∧ ii ≤ C.length) ∧ (∃ L : List CP, L.map CP.p = C.take ii.toNat ∧ (∀ q ∈ L, pieceErr W q.p = 0 ∧ Cells w q.a (ints q.p.sizes)) ∧ MapC w' tm I (clockV L)) ∧ clockErr W C [] = clockErr W (C.drop ii.toNat) ((C.take ii.toNat).map (·.pat)) ∧ (a = none ∧ n = 0 ∧ c = 0) | _ => False,
    fun ls => match ls with | [_, _, .int _ ii] => (C.length - ii).toNat | _ => 0, fun w43 hb43 hk43 => ⟨⟨by omega, by omega⟩, ⟨[], rfl, by simp, M11.chg (Chg.kept hk43) nt⟩, rfl, rfl, rfl, rfl⟩, ?_⟩
  rintro a7 n7 c7 x11 x12 w44 hb44 ⟨⟨x0, xl⟩, ⟨L, hL, hLq, M44⟩, hE, rfl, rfl, rfl⟩
  have l44 := M44.lt
  refine ⟨fun hlt => ?_, fun hge => ?_⟩
  · have hi : x12.toNat < C.length := by omega
    refine load_piece hC hb44 ⟨x0, hlt⟩ fun m41 m42 hm a8 c8 hcell => ⟨.inl hm, fun m45 g45 w45 hb45 hk45 => ?_⟩
    have hq1 := gd xC hi
    have htk := take_get hi
    rw [drop_get hi] at hE
    generalize C.getD x12.toNat ⟨0, []⟩ = q at *
    have e1 : (x12 + 1).toNat = x12.toNat + 1 := by omega
    refine Pure.calls (pcheck_any q (hcell.keep hb45) hq1 (hp.keep hb45) hS) fun w46 hd46 => ⟨_, rfl, .all hd46, fun hx w47 hb47 _ => ?_, fun hx w48 hb48 hk48 => ?_⟩
    · have : clockErr W C [] = pieceErr W q := by rw [hE]; unfold clockErr; rw [if_pos hx]
      exact pureL_err (by rw [hM, this, if_pos hx]) hb47
    have nt5 : tm ∉ [m4, m45, m2, m1] := by simp only [List.mem_cons, List.not_mem_nil, or_false]; omega
    have M48 := ((M44.chg (Chg.kept hk45) nt5).below hd46).chg (Chg.kept hk48) nt5
    refine lookup_ok keyI (P := Try.prog) (mt := 138) (vt := 40) (by kernel_rfl) M48 q.pat (z := .agg #[I 0, .slice none 0 0]) (by kernel_rfl) ?_
    have hkeys := clockV_keys L q.pat
    rw [hL] at hkeys
    have hcl := clock_look L q.pat
    cases hl : lookC L q.pat with
    | some q' =>
      rw [hcl, hl]
      refine ⟨q'.p.pat, q'.a, q'.p.sizes.length, q'.c, true, rfl, .all (.refl _ _), fun m50 g50 => ⟨fun _ w50 hb50 _ => ?_, fun h => (by cases h)⟩⟩
      have hin : q.pat ∈ (C.take x12.toNat).map (·.pat) := Classical.byContradiction fun h => by
        have := hkeys.2 h
        rw [hcl, hl] at this
        cases this
      have : clockErr W C [] = 6 := by rw [hE]; unfold clockErr; rw [if_neg (by simpa using hx), if_pos hin]
      exact pureL_err (by rw [hM, this, if_pos (by omega)]) hb50
    | none =>
      rw [hcl, hl]
      have hln : (clockV L).lookup q.pat = none := by rw [hcl, hl]; rfl
      refine ⟨0, none, 0, 0, false, rfl, .all (.refl _ _), fun m50 g50 => ⟨fun h => (by cases h), fun _ w51 hb51 hk51 => ?_⟩⟩
      have nt6 : tm ∉ [m4, m50, m45, m2, m1] := by have := M48.lt; simp only [List.mem_cons, List.not_mem_nil, or_false]; omega
      have M51 := M48.chg (Chg.kept hk51) nt6
      refine update_new keyI (P := Try.prog) (mt := 138) (vt := 40) (by kernel_rfl) M51 q.pat (.agg #[I q.pat, .slice a8 q.sizes.length c8]) hln fun w52 M52 c52 => ?_
      refine ⟨c52.own (fun x hx => ⟨hk51.own x hx, fun h => nt6 (by simp only [List.mem_singleton] at h; subst h; exact hx)⟩) (by simp) (fun _ => ⟨hb51.size, fun x hx => by simp only [List.mem_singleton] at hx; omega⟩), ⟨by omega, by omega⟩, fun w53 hb53 hk53 => ⟨⟨⟨by omega, by omega⟩, ⟨L ++ [⟨q, a8, c8⟩], ?_, fun q' hq' => ?_, ?_⟩, ?_, rfl, rfl, rfl⟩, by simp only; omega⟩⟩
      · rw [e1, htk, List.map_append, hL]; rfl
      · rcases List.mem_append.1 hq' with hq' | hq'
        · exact hLq q' hq'
        · simp only [List.mem_singleton] at hq'
          subst hq'
          exact ⟨hx, hcell⟩
      · rw [← clockV_add]
        exact M52.chg (Chg.kept hk53) nt6
      · have hni := hkeys.1 hln
        rw [hE, e1, htk, List.map_append]
        show clockErr W (q :: C.drop (x12.toNat + 1)) ((C.take x12.toNat).map (·.pat)) = _
        rw [clockErr, if_neg (by simpa using hx), if_neg hni]
        rfl
  · have e12 : x12.toNat = C.length := by omega
    rw [e12, List.drop_length] at hE
    rw [e12, List.take_length] at hL
    have hE0 : clockErr W C [] = 0 := hE
    have hM2 : chooseM W p C St = if storeErr W St ≠ 0 then ([], storeErr W St) else (chosen W p C St St.length, 0) := by rw [hM, if_neg (by simpa using hE0)]
    refine ⟨fun ls w' => match ls with | [.sl a n c, .int _ _, .int _ jj] => (0 ≤ jj ∧ jj ≤ St.length) ∧ n = (chosen W p C St jj.toNat).length ∧ RowE 3 1 w44.heap.size [m4, m2, m1] a n c (ints (chosen W p C St jj.toNat)) w' ∧ MapC w' tm I (clockV L) ∧ storeErr W St = storeErr W (St.drop jj.toNat) ∧ w44.heap.size ≤ w'.heap.size | _ => False,
      fun ls => match ls with | [_, _, .int _ jj] => (St.length - jj).toNat | _ => 0, fun w55 hb55 hk55 => ⟨⟨by omega, by omega⟩, rfl, .inr Row.nil, M44.chg (Chg.kept hk55) nt, rfl, hk55.size⟩, ?_⟩
    rintro a10 n10 c10 x16 x17 w56 hb56 ⟨⟨y0, yl⟩, rfl, RR, M56, hSE, z56⟩
    have hcl := chosen_len W p C St x17.toNat
    have z44 := hb44.size
    refine ⟨fun hlt => ?_, fun hge w70 hb70 hk70 => ?_⟩
    rotate_left
    · have ej : x17.toNat = St.length := by omega
      rw [ej, List.drop_length] at hSE
      rw [ej] at RR ⊢
      have hSE0 : storeErr W St = 0 := hSE
      have hfin : chooseM W p C St = (chosen W p C St St.length, 0) := by rw [hM2, if_neg (by simpa using hSE0)]
      have R70 := RR.chg (Chg.kept hk70) (fun _ h => h)
      unfold PureL
      rw [hfin]
      exact ⟨_, _, rfl, hb70, rowE_lies R70 z44⟩
    have hj : x17.toNat < St.length := by omega
    refine load_piece hT hb56 ⟨y0, hlt⟩ fun m54 m55 hm a11 c11 hcell => ⟨.inl hm, fun m58 g58 w57 hb57 hk57 => ?_⟩
    have hq1 := gd xT hj
    have hch := chosen_succ W p C St x17.toNat
    rw [drop_get hj] at hSE
    generalize St.getD x17.toNat ⟨0, []⟩ = q at *
    have e1 : (x17 + 1).toNat = x17.toNat + 1 := by omega
    refine Pure.calls (pcheck_any q (hcell.keep hb57) hq1 (hp.keep hb57) hS) fun w58 hd58 => ⟨_, rfl, .all hd58, fun hx w59 hb59 _ => ?_, fun hx => ?_⟩
    · have : storeErr W St = pieceErr W q := by rw [hSE]; unfold storeErr; rw [if_pos hx]
      exact pureL_err (by rw [hM2, this, if_pos hx]) hb59
    have hSE' : storeErr W St = storeErr W (St.drop (x17 + 1).toNat) := by
      rw [hSE, e1]
      show storeErr W (q :: St.drop (x17.toNat + 1)) = _
      rw [storeErr, if_neg (by simpa using hx)]
    obtain ⟨bq, lq, _⟩ := pieceErr_ok hx
    have l56 := M56.lt
    have nt5 : tm ∉ [m4, m58, m2, m1] := by simp only [List.mem_cons, List.not_mem_nil, or_false]; omega
    have sub : ∀ x ∈ [m4, m58, m2, m1], x ∈ [m58] ++ [m4, m2, m1] := fun x hx => by simp only [List.mem_cons, List.mem_append, List.not_mem_nil, or_false] at hx ⊢; omega
    have R57 := (RR.grow (ms := [m58]) (allc g58 all0)).chg (Chg.kept hk57) sub
    have M57 := M56.chg (Chg.kept hk57) nt5
    have R58 := R57.chg (Chg.of_below (S := []) hd58) (by simp)
    have M58 := M57.below hd58
    have z57 := hk57.size
    have z58 := hd58.size
    have next : ∀ {w' : World}, fitsIn W p C q = false → RowE 3 1 w44.heap.size ([m58] ++ [m4, m2, m1]) a10 (chosen W p C St x17.toNat).length c10 (ints (chosen W p C St x17.toNat)) w' → MapC w' tm I (clockV L) → w44.heap.size ≤ w'.heap.size →
        ((0 ≤ x17 + 1 ∧ x17 + 1 ≤ St.length) ∧ (chosen W p C St x17.toNat).length = (chosen W p C St (x17 + 1).toNat).length ∧ RowE 3 1 w44.heap.size [m4, m2, m1] a10 (chosen W p C St x17.toNat).length c10 (ints (chosen W p C St (x17 + 1).toNat)) w' ∧ MapC w' tm I (clockV L) ∧ storeErr W St = storeErr W (St.drop (x17 + 1).toNat) ∧ w44.heap.size ≤ w'.heap.size) := fun {w'} hF hR hMm hz => by
      have : chosen W p C St (x17 + 1).toNat = chosen W p C St x17.toNat := by rw [e1, hch, hF]; simp
      rw [this]
      exact ⟨⟨by omega, by omega⟩, rfl, hR.less (by simp), hMm, hSE', hz⟩
    refine ⟨fun hpat w60 hb60 hk60 => ?_, fun hpat => ⟨⟨by omega, by omega⟩, fun w69 hb69 hk69 => ⟨next (by unfold fitsIn; rw [decide_eq_false hpat]; rfl) (R58.chg (Chg.kept hk69) sub) (M58.chg (Chg.kept hk69) nt5) (by have := hk69.size; omega), by simp only; omega⟩⟩⟩
    have R60 := R58.chg (Chg.kept hk60) sub
    have M60 := M58.chg (Chg.kept hk60) nt5
    have z60 := hk60.size
    refine Pure.calls (isGood_any q (hcell.keep hb60) hq1 (hp.keep hb60) hS bq lq) fun w61 hd61 => ⟨_, rfl, .all hd61, fun hg w62 hb62 hk62 => ?_, fun hg => ⟨⟨by omega, by omega⟩, fun w68 hb68 hk68 => ⟨next (by unfold fitsIn; rw [hg]; simp) ((R60.chg (Chg.of_below (S := []) hd61) (by simp)).chg (Chg.kept hk68) sub) ((M60.below hd61).chg (Chg.kept hk68) nt5) (by have := hk68.size; have := hd61.size; omega), by simp only; omega⟩⟩⟩
    have R62 := (R60.chg (Chg.of_below (S := []) hd61) (by simp)).chg (Chg.kept hk62) sub
    have M62 := (M60.below hd61).chg (Chg.kept hk62) nt5
    have z61 := hd61.size
    have z62 := hk62.size
    have hgo := goesC_eq W q L
    rw [hL] at hgo
    refine Pure.calls (goes_any (hf.keep hb62) hok (hcell.keep hb62) hx M62 (fun q' hq' => ⟨(hLq q' hq').1, (hLq q' hq').2.keep hb62⟩)) fun w63 hd63 => ⟨_, rfl, .all hd63, fun ht m62 g62 w64 hb64 hk64 hc64 => ?_, fun ht => ⟨⟨by omega, by omega⟩, fun w67 hb67 hk67 => ⟨next (by unfold fitsIn; rw [← hgo, ht]; simp) ((R62.chg (Chg.of_below (S := []) hd63) (by simp)).chg (Chg.kept hk67) sub) ((M62.below hd63).chg (Chg.kept hk67) nt5) (by have := hk67.size; have := hd63.size; omega), by simp only; omega⟩⟩⟩
    have z63 := hd63.size
    have z64 := hk64.size
    have sub2 : ∀ x ∈ [m62, m4, m58, m2, m1], x ∈ [m62] ++ ([m58] ++ [m4, m2, m1]) := fun x hx => by simp only [List.mem_cons, List.mem_append, List.not_mem_nil, or_false] at hx ⊢; omega
    have sub3 : ∀ x ∈ [m62] ++ ([m58] ++ [m4, m2, m1]), x ∈ [m62, m4, m58, m2, m1] := fun x hx => by simp only [List.mem_cons, List.mem_append, List.not_mem_nil, or_false] at hx ⊢; omega
    have R64 := ((R62.chg (Chg.of_below (S := []) hd63) (by simp)).grow (ms := [m62]) (allc g62 all0)).chg (Chg.kept hk64) sub2
    have M63 := M62.below hd63
    have l63 := M63.lt
    have nt6 : tm ∉ [m62, m4, m58, m2, m1] := by simp only [List.mem_cons, List.not_mem_nil, or_false]; omega
    have M64 := M63.chg (Chg.kept hk64) nt6
    have hF : fitsIn W p C q = true := by
      unfold fitsIn
      rw [← hgo, ht, decide_eq_true hpat, hg]; rfl
    have e2 : chosen W p C St (x17 + 1).toNat = chosen W p C St x17.toNat ++ [x17] := by
      rw [e1, hch, hF, if_pos rfl, Int.toNat_of_nonneg y0]
    refine append_rowE (P := Try.prog) (bytes := 8) (by kernel_rfl) (by omega) R64 (m := 1) (news := [I x17]) (Cells.obj (vs := [I x17]) hc64) rfl (List.forall_mem_cons.2 ⟨rfl, by simp⟩) (by omega) (by omega) (by omega) (fun x hx => hk64.own x (sub3 x hx)) (by omega) fun a12 c12 w65 R65 S65 cS65 hS65 => ?_
    have z65 := cS65.size
    refine ⟨_, _, _, rfl, cS65.own (fun x hx => ⟨hk64.own x hx, fun h => (hS65 x h).2 (sub2 x hx)⟩) (by simp) (fun _ => ⟨hb64.size, fun x hx => by have := (hS65 x hx).1; omega⟩), ⟨by omega, by omega⟩, fun w66 hb66 hk66 => ⟨⟨⟨by omega, by omega⟩, by rw [e2]; simp, ?_, ?_, hSE', by have := hk66.size; omega⟩, by simp only; omega⟩⟩
    · rw [e2, ints_append]
      exact .inr ((R65.chg (Chg.kept hk66) sub2).less (by simp))
    · exact (M64.chg cS65 (fun h => by have := (hS65 _ h).1; omega)).chg (Chg.kept hk66) nt6
end Go.Proofs.R12
end
section
/- The conditions of the functions, printed by program; each is what the generator reckons (kernel_rfl). -/
namespace Go.Proofs
open Go.Vc
set_option maxRecDepth 100000 in
set_option maxHeartbeats 2000000 in
theorem vc45  (w : World) (R : Ending → World → Prop) (h : ∀ (m1 : Nat), w.heap.size ≤ m1 → ∀ (w1 : World), RowKit.Below w.heap.size w w1 → Kept [m1] w w1 → Calls Try.prog 42
    #[Value.int IntKind.i64 1000, Value.int IntKind.i64 1010] w1 fun (e1 : Ending) (w2 : World) => ∃ (x1 : Int), ∃ (x2 : Int), e1 = Ending.returned (Value.agg #[Value.int
    IntKind.i64 x1, Value.int IntKind.i64 x2]) ∧ KeepX true w.heap.size [m1] (fun _ => False) w1 w2 ∧ ∀ (m3 : Nat), w2.heap.size ≤ m3 → ∀ (w3 : World), RowKit.Below w.heap.size w
    w3 → Kept [m3, m1] w2 w3 → Calls Try.prog 42 #[Value.int IntKind.i64 990, Value.int IntKind.i64 998] w3 fun (e2 : Ending) (w4 : World) => ∃ (x3 : Int), ∃ (x4 : Int), e2 =
    Ending.returned (Value.agg #[Value.int IntKind.i64 x3, Value.int IntKind.i64 x4]) ∧ KeepX true w.heap.size [m3, m1] (fun _ => False) w3 w4 ∧ ∀ (m5 : Nat), w4.heap.size ≤ m5 → ∀
    (m6 : Nat), w4.heap.size ≤ m6 → ∀ (w5 : World), RowKit.Below w.heap.size w w5 → Kept [m6, m5, m3, m1] w4 w5 → Calls Try.prog 42 #[Value.int IntKind.i64 2, Value.int IntKind.i64
    15] w5 fun (e3 : Ending) (w6 : World) => ∃ (x5 : Int), ∃ (x6 : Int), e3 = Ending.returned (Value.agg #[Value.int IntKind.i64 x5, Value.int IntKind.i64 x6]) ∧ KeepX true
    w.heap.size [m6, m5, m3, m1] (fun _ => False) w5 w6 ∧ ∀ (m8 : Nat), w6.heap.size ≤ m8 → ∀ (w7 : World), RowKit.Below w.heap.size w w7 → Kept [m8, m6, m5, m3, m1] w6 w7 →
    w7.heap[m6]? = some (Obj.cells #[Value.slice (some { block := m3, off := 0 }) 1 1, Value.slice (some { block := m5, off := 0 }) 1 1] 89) → w7.heap[m8]? = some (Obj.cells
    #[Value.int IntKind.i64 0, Value.int IntKind.i64 0, Value.int IntKind.i64 1, Value.int IntKind.i64 0, Value.int IntKind.i64 x5, Value.int IntKind.i64 x6] 67) → w7.heap[m3]? =
    some (Obj.cells #[Value.int IntKind.i64 x1, Value.int IntKind.i64 x2] 42) → w7.heap[m5]? = some (Obj.cells #[Value.int IntKind.i64 x3, Value.int IntKind.i64 x4] 42) → R
    (Ending.returned (Value.agg #[Value.slice (some { block := m6, off := 0 }) 2 2, Value.slice (some { block := m8, off := 0 }) 1 1])) w7) : Calls Try.prog 45 #[] w R :=
    calls_of_vc (pure := true) (wrapAt := []) (muts := []) (esc := []) (args := []) (vs := []) Try.func45 rfl rfl rfl (Eq.mp (by kernel_rfl) h) 
set_option maxRecDepth 100000 in
set_option maxHeartbeats 2000000 in
theorem vc14  (w : World) (R : Ending → World → Prop) (h : ∀ (w1 : World), RowKit.Below w.heap.size w w1 → Kept [] w w1 → Calls Try.prog 45 #[] w1 fun (e1 : Ending) (w2 : World) =>
    ∃ (a1 : Option Addr), ∃ (m1 : Nat), ∃ (m2 : Nat), ∃ (a2 : Option Addr), ∃ (m3 : Nat), ∃ (m4 : Nat), e1 = Ending.returned (Value.agg #[Value.slice a1 m1 m2, Value.slice a2 m3
    m4]) ∧ KeepX true w.heap.size [] (fun _ => False) w1 w2 ∧ ∀ (w3 : World), RowKit.Below w.heap.size w w3 → Kept [] w2 w3 → Calls Try.prog 17 #[Value.agg #[Value.slice a1 m1 m2,
    Value.slice a2 m3 m4]] w3 fun (e2 : Ending) (w4 : World) => ∃ (a3 : Option Addr), ∃ (m6 : Nat), ∃ (m7 : Nat), ∃ (x1 : Int), e2 = Ending.returned (Value.tuple #[Value.slice a3
    m6 m7, Value.int IntKind.i64 x1]) ∧ KeepX true w.heap.size [] (fun _ => False) w3 w4 ∧ ∀ (w5 : World), RowKit.Below w.heap.size w w5 → Kept [] w4 w5 → Calls Try.prog 45 #[] w5
    fun (e3 : Ending) (w6 : World) => ∃ (a4 : Option Addr), ∃ (m9 : Nat), ∃ (m10 : Nat), ∃ (a5 : Option Addr), ∃ (m11 : Nat), ∃ (m12 : Nat), e3 = Ending.returned (Value.agg
    #[Value.slice a4 m9 m10, Value.slice a5 m11 m12]) ∧ KeepX true w.heap.size [] (fun _ => False) w5 w6 ∧ ∀ (w7 : World), RowKit.Below w.heap.size w w7 → Kept [] w6 w7 → Calls
    Try.prog 42 #[Value.int IntKind.i64 (-2), Value.int IntKind.i64 1] w7 fun (e4 : Ending) (w8 : World) => ∃ (x2 : Int), ∃ (x3 : Int), e4 = Ending.returned (Value.agg #[Value.int
    IntKind.i64 x2, Value.int IntKind.i64 x3]) ∧ KeepX true w.heap.size [] (fun _ => False) w7 w8 ∧ ∀ (w9 : World), RowKit.Below w.heap.size w w9 → Kept [] w8 w9 → Calls Try.prog
    24 #[Value.agg #[Value.slice a4 m9 m10, Value.slice a5 m11 m12], Value.int IntKind.i64 0, Value.int IntKind.i64 0, Value.agg #[Value.int IntKind.i64 x2, Value.int IntKind.i64
    x3]] w9 fun (e5 : Ending) (w10 : World) => ∃ (x4 : Int), ∃ (x5 : Int), ∃ (x6 : Int), ∃ (x7 : Int), ∃ (x8 : Int), e5 = Ending.returned (Value.tuple #[Value.agg #[Value.int
    IntKind.i64 x4, Value.int IntKind.i64 x5], Value.agg #[Value.int IntKind.i64 x6, Value.int IntKind.i64 x7], Value.int IntKind.i64 x8]) ∧ KeepX true w.heap.size [] (fun _ =>
    False) w9 w10 ∧ ∀ (m16 : Nat), w10.heap.size ≤ m16 → ∀ (m17 : Nat), w10.heap.size ≤ m17 → ∀ (w11 : World), RowKit.Below w.heap.size w w11 → Kept [m17, m16] w10 w11 → Calls
    Try.prog 45 #[] w11 fun (e6 : Ending) (w12 : World) => ∃ (a6 : Option Addr), ∃ (m18 : Nat), ∃ (m19 : Nat), ∃ (a7 : Option Addr), ∃ (m20 : Nat), ∃ (m21 : Nat), e6 =
    Ending.returned (Value.agg #[Value.slice a6 m18 m19, Value.slice a7 m20 m21]) ∧ KeepX true w.heap.size [m17, m16] (fun _ => False) w11 w12 ∧ ∀ (m23 : Nat), w12.heap.size ≤ m23
    → ∀ (m24 : Nat), w12.heap.size ≤ m24 → ∀ (w13 : World), RowKit.Below w.heap.size w w13 → Kept [m24, m23, m17, m16] w12 w13 → w13.heap[m23]? = some (Obj.cells #[Value.int
    IntKind.i64 1000, Value.int IntKind.i64 1012, Value.int IntKind.i64 1001] 3) → w13.heap[m24]? = some (Obj.cells #[Value.int IntKind.i64 999, Value.int IntKind.i64 995,
    Value.int IntKind.i64 1003] 3) → Calls Try.prog 30 #[Value.agg #[Value.slice a6 m18 m19, Value.slice a7 m20 m21], Value.int IntKind.i64 0, Value.slice (some
    { block := m23, off := 0 }) 3 3, Value.slice (some { block := m24, off := 0 }) 3 3] w13 fun (e7 : Ending) (w14 : World) => ∃ (a8 : Option Addr), ∃ (m27 : Nat), ∃ (m28 : Nat), ∃
    (x9 : Int), e7 = Ending.returned (Value.tuple #[Value.slice a8 m27 m28, Value.int IntKind.i64 x9]) ∧ KeepX true w.heap.size [m24, m23, m17, m16] (fun _ => False) w13 w14 ∧ ∀
    (w15 : World), RowKit.Below w.heap.size w w15 → Kept [m24, m23, m17, m16] w14 w15 → Calls Try.prog 45 #[] w15 fun (e8 : Ending) (w16 : World) => ∃ (a9 : Option Addr), ∃ (m30 :
    Nat), ∃ (m31 : Nat), ∃ (a10 : Option Addr), ∃ (m32 : Nat), ∃ (m33 : Nat), e8 = Ending.returned (Value.agg #[Value.slice a9 m30 m31, Value.slice a10 m32 m33]) ∧ KeepX true
    w.heap.size [m24, m23, m17, m16] (fun _ => False) w15 w16 ∧ ∀ (m35 : Nat), w16.heap.size ≤ m35 → ∀ (m36 : Nat), w16.heap.size ≤ m36 → ∀ (w17 : World), RowKit.Below w.heap.size
    w w17 → Kept [m36, m35, m24, m23, m17, m16] w16 w17 → w17.heap[m35]? = some (Obj.cells #[Value.int IntKind.i64 1000, Value.int IntKind.i64 1030, Value.int IntKind.i64 1001] 3)
    → w17.heap[m36]? = some (Obj.cells #[Value.int IntKind.i64 995, Value.int IntKind.i64 996, Value.int IntKind.i64 997] 3) → Calls Try.prog 31 #[Value.agg #[Value.slice a9 m30
    m31, Value.slice a10 m32 m33], Value.int IntKind.i64 0, Value.slice (some { block := m35, off := 0 }) 3 3, Value.slice (some { block := m36, off := 0 }) 3 3] w17 fun (e9 :
    Ending) (w18 : World) => ∃ (a11 : Option Addr), ∃ (m39 : Nat), ∃ (m40 : Nat), ∃ (a12 : Option Addr), ∃ (m41 : Nat), ∃ (m42 : Nat), ∃ (x10 : Int), e9 = Ending.returned
    (Value.tuple #[Value.slice a11 m39 m40, Value.slice a12 m41 m42, Value.int IntKind.i64 x10]) ∧ KeepX true w.heap.size [m36, m35, m24, m23, m17, m16] (fun _ => False) w17 w18 ∧
    ∀ (w19 : World), RowKit.Below w.heap.size w w19 → Kept [m36, m35, m24, m23, m17, m16] w18 w19 → Calls Try.prog 45 #[] w19 fun (e10 : Ending) (w20 : World) => ∃ (a13 : Option
    Addr), ∃ (m44 : Nat), ∃ (m45 : Nat), ∃ (a14 : Option Addr), ∃ (m46 : Nat), ∃ (m47 : Nat), e10 = Ending.returned (Value.agg #[Value.slice a13 m44 m45, Value.slice a14 m46 m47])
    ∧ KeepX true w.heap.size [m36, m35, m24, m23, m17, m16] (fun _ => False) w19 w20 ∧ ∀ (m49 : Nat), w20.heap.size ≤ m49 → ∀ (m50 : Nat), w20.heap.size ≤ m50 → ∀ (m51 : Nat),
    w20.heap.size ≤ m51 → ∀ (m52 : Nat), w20.heap.size ≤ m52 → ∀ (m53 : Nat), w20.heap.size ≤ m53 → ∀ (m54 : Nat), w20.heap.size ≤ m54 → ∀ (w21 : World), RowKit.Below w.heap.size w
    w21 → Kept [m54, m53, m52, m51, m50, m49, m36, m35, m24, m23, m17, m16] w20 w21 → w21.heap[m50]? = some (Obj.cells #[Value.int IntKind.i64 0, Value.slice (some
    { block := m49, off := 0 }) 1 1] 40) → w21.heap[m54]? = some (Obj.cells #[Value.int IntKind.i64 1, Value.slice (some { block := m51, off := 0 }) 1 1, Value.int IntKind.i64 1,
    Value.slice (some { block := m52, off := 0 }) 1 1, Value.int IntKind.i64 1, Value.slice (some { block := m53, off := 0 }) 1 1] 40) → w21.heap[m49]? = some (Obj.cells
    #[Value.int IntKind.i64 1010] 3) → w21.heap[m51]? = some (Obj.cells #[Value.int IntKind.i64 990] 3) → w21.heap[m52]? = some (Obj.cells #[Value.int IntKind.i64 996] 3) →
    w21.heap[m53]? = some (Obj.cells #[Value.int IntKind.i64 999] 3) → Calls Try.prog 36 #[Value.agg #[Value.slice a13 m44 m45, Value.slice a14 m46 m47], Value.slice (some
    { block := m50, off := 0 }) 1 1, Value.int IntKind.i64 1, Value.slice (some { block := m54, off := 0 }) 3 3] w21 fun (e11 : Ending) (w22 : World) => ∃ (a15 : Option Addr), ∃
    (m61 : Nat), ∃ (m62 : Nat), ∃ (x11 : Int), e11 = Ending.returned (Value.tuple #[Value.slice a15 m61 m62, Value.int IntKind.i64 x11]) ∧ KeepX true w.heap.size [m54, m53, m52,
    m51, m50, m49, m36, m35, m24, m23, m17, m16] (fun _ => False) w21 w22 ∧ ∀ (w23 : World), RowKit.Below w.heap.size w w23 → Kept [m54, m53, m52, m51, m50, m49, m36, m35, m24,
    m23, m17, m16] w22 w23 → Calls Try.prog 42 #[Value.int IntKind.i64 5, Value.int IntKind.i64 9] w23 fun (e12 : Ending) (w24 : World) => ∃ (x12 : Int), ∃ (x13 : Int), e12 =
    Ending.returned (Value.agg #[Value.int IntKind.i64 x12, Value.int IntKind.i64 x13]) ∧ KeepX true w.heap.size [m54, m53, m52, m51, m50, m49, m36, m35, m24, m23, m17, m16] (fun _
    => False) w23 w24 ∧ ∀ (m65 : Nat), w24.heap.size ≤ m65 → ∀ (m66 : Nat), w24.heap.size ≤ m66 → ∀ (w25 : World), RowKit.Below w.heap.size w w25 → Kept [m66, m65, m54, m53, m52,
    m51, m50, m49, m36, m35, m24, m23, m17, m16] w24 w25 → w25.heap[m65]? = some (Obj.cells #[Value.int IntKind.i64 10, Value.int IntKind.i64 0, Value.int IntKind.i64 20] 80) →
    w25.heap[m66]? = some (Obj.cells #[Value.int IntKind.i64 3, Value.int IntKind.i64 12] 3) → Calls Try.prog 38 #[Value.agg #[Value.int IntKind.i64 x12, Value.int IntKind.i64
    x13], Value.slice (some { block := m65, off := 0 }) 1 1, Value.slice (some { block := m66, off := 0 }) 2 2] w25 fun (e13 : Ending) (w26 : World) => ∃ (a16 : Option Addr), ∃
    (m69 : Nat), ∃ (m70 : Nat), ∃ (x14 : Int), e13 = Ending.returned (Value.tuple #[Value.slice a16 m69 m70, Value.int IntKind.i64 x14]) ∧ KeepX true w.heap.size [m66, m65, m54,
    m53, m52, m51, m50, m49, m36, m35, m24, m23, m17, m16] (fun _ => False) w25 w26 ∧ ∀ (w27 : World), RowKit.Below w.heap.size w w27 → Kept [m66, m65, m54, m53, m52, m51, m50,
    m49, m36, m35, m24, m23, m17, m16] w26 w27 → Calls Try.prog 45 #[] w27 fun (e14 : Ending) (w28 : World) => ∃ (a17 : Option Addr), ∃ (m72 : Nat), ∃ (m73 : Nat), ∃ (a18 : Option
    Addr), ∃ (m74 : Nat), ∃ (m75 : Nat), e14 = Ending.returned (Value.agg #[Value.slice a17 m72 m73, Value.slice a18 m74 m75]) ∧ KeepX true w.heap.size [m66, m65, m54, m53, m52,
    m51, m50, m49, m36, m35, m24, m23, m17, m16] (fun _ => False) w27 w28 ∧ ∀ (m77 : Nat), w28.heap.size ≤ m77 → ∀ (w29 : World), RowKit.Below w.heap.size w w29 → Kept [m77, m66,
    m65, m54, m53, m52, m51, m50, m49, m36, m35, m24, m23, m17, m16] w28 w29 → w29.heap[m77]? = some (Obj.cells #[Value.int IntKind.i64 998] 3) → Calls Try.prog 23 #[Value.agg
    #[Value.slice a17 m72 m73, Value.slice a18 m74 m75], Value.agg #[Value.int IntKind.i64 1, Value.slice (some { block := m77, off := 0 }) 1 1]] w29 fun (e15 : Ending) (w30 :
    World) => ∃ (t1 : Bool), ∃ (x15 : Int), e15 = Ending.returned (Value.tuple #[Value.bool t1, Value.int IntKind.i64 x15]) ∧ KeepX true w.heap.size [m77, m66, m65, m54, m53, m52,
    m51, m50, m49, m36, m35, m24, m23, m17, m16] (fun _ => False) w29 w30 ∧ ∃ (F1 : List Lf → World → Prop), ((x1 ≠ 0 → ∀ (w32 : World), RowKit.Below w.heap.size w w32 → Kept [m77,
    m66, m65, m54, m53, m52, m51, m50, m49, m36, m35, m24, m23, m17, m16] w30 w32 → F1 [Lf.bool true] w32) ∧ (x1 = 0 → (x8 ≠ 0 → ∀ (w33 : World), RowKit.Below w.heap.size w w33 →
    Kept [m77, m66, m65, m54, m53, m52, m51, m50, m49, m36, m35, m24, m23, m17, m16] w30 w33 → F1 [Lf.bool true] w33) ∧ (x8 = 0 → (x9 ≠ 0 → ∀ (w34 : World), RowKit.Below
    w.heap.size w w34 → Kept [m77, m66, m65, m54, m53, m52, m51, m50, m49, m36, m35, m24, m23, m17, m16] w30 w34 → F1 [Lf.bool true] w34) ∧ (x9 = 0 → (x10 ≠ 0 → ∀ (w35 : World),
    RowKit.Below w.heap.size w w35 → Kept [m77, m66, m65, m54, m53, m52, m51, m50, m49, m36, m35, m24, m23, m17, m16] w30 w35 → F1 [Lf.bool true] w35) ∧ (x10 = 0 → (x11 ≠ 0 → ∀
    (w36 : World), RowKit.Below w.heap.size w w36 → Kept [m77, m66, m65, m54, m53, m52, m51, m50, m49, m36, m35, m24, m23, m17, m16] w30 w36 → F1 [Lf.bool true] w36) ∧ (x11 = 0 →
    (x14 ≠ 0 → ∀ (w37 : World), RowKit.Below w.heap.size w w37 → Kept [m77, m66, m65, m54, m53, m52, m51, m50, m49, m36, m35, m24, m23, m17, m16] w30 w37 → F1 [Lf.bool true] w37) ∧
    (x14 = 0 → (x15 ≠ 0 → ∀ (w38 : World), RowKit.Below w.heap.size w w38 → Kept [m77, m66, m65, m54, m53, m52, m51, m50, m49, m36, m35, m24, m23, m17, m16] w30 w38 → F1 [Lf.bool
    true] w38) ∧ (x15 = 0 → ((↑m6 : Int) ≠ 1 → ∀ (w39 : World), RowKit.Below w.heap.size w w39 → Kept [m77, m66, m65, m54, m53, m52, m51, m50, m49, m36, m35, m24, m23, m17, m16]
    w30 w39 → F1 [Lf.bool true] w39) ∧ ((↑m6 : Int) = 1 → ((↑m27 : Int) ≠ 3 → ∀ (w40 : World), RowKit.Below w.heap.size w w40 → Kept [m77, m66, m65, m54, m53, m52, m51, m50, m49,
    m36, m35, m24, m23, m17, m16] w30 w40 → F1 [Lf.bool true] w40) ∧ ((↑m27 : Int) = 3 → ((↑m39 : Int) ≠ 3 → ∀ (w41 : World), RowKit.Below w.heap.size w w41 → Kept [m77, m66, m65,
    m54, m53, m52, m51, m50, m49, m36, m35, m24, m23, m17, m16] w30 w41 → F1 [Lf.bool true] w41) ∧ ((↑m39 : Int) = 3 → ((↑m41 : Int) ≠ 2 → ∀ (w42 : World), RowKit.Below w.heap.size
    w w42 → Kept [m77, m66, m65, m54, m53, m52, m51, m50, m49, m36, m35, m24, m23, m17, m16] w30 w42 → F1 [Lf.bool true] w42) ∧ ((↑m41 : Int) = 2 → ((↑m61 : Int) ≠ 1 → ∀ (w43 :
    World), RowKit.Below w.heap.size w w43 → Kept [m77, m66, m65, m54, m53, m52, m51, m50, m49, m36, m35, m24, m23, m17, m16] w30 w43 → F1 [Lf.bool true] w43) ∧ ((↑m61 : Int) = 1 →
    ∀ (w44 : World), RowKit.Below w.heap.size w w44 → Kept [m77, m66, m65, m54, m53, m52, m51, m50, m49, m36, m35, m24, m23, m17, m16] w30 w44 → F1 [Lf.bool ((↑m69 : Int) != 2)]
    w44))))))))))))) ∧ ∀ (t2 : Bool) (w45 : World), RowKit.Below w.heap.size w w45 → F1 [Lf.bool t2] w45 → (t2 = true → ∀ (w46 : World), RowKit.Below w.heap.size w w46 → Kept [m77,
    m66, m65, m54, m53, m52, m51, m50, m49, m36, m35, m24, m23, m17, m16] w45 w46 → R (Ending.returned (Value.bool false)) w46) ∧ (t2 = false → ∃ (m80 : Nat), ∃ (m81 : Nat), a3 =
    some { block := m80, off := m81 } ∧ ((0 : Int) ≤ 0 ∧ 0 < (↑m6 : Int)) ∧ ∃ (x16 : Int), ∃ (x17 : Int), ∃ (x18 : Int), w45.cell? { block := m80, off := m81 + Int.toNat 0 * 3 } =
    some (Value.int IntKind.i64 x16) ∧ w45.cell? { block := m80, off := m81 + Int.toNat 0 * 3 + 1 } = some (Value.int IntKind.i64 x17) ∧ w45.cell?
    { block := m80, off := m81 + Int.toNat 0 * 3 + 1 + 1 } = some (Value.int IntKind.i64 x18) ∧ (m80 < w.heap.size ∨ m80 ≠ m77 ∧ m80 ≠ m66 ∧ m80 ≠ m65 ∧ m80 ≠ m54 ∧ m80 ≠ m53 ∧ m80
    ≠ m52 ∧ m80 ≠ m51 ∧ m80 ≠ m50 ∧ m80 ≠ m49 ∧ m80 ≠ m36 ∧ m80 ≠ m35 ∧ m80 ≠ m24 ∧ m80 ≠ m23 ∧ m80 ≠ m17 ∧ m80 ≠ m16) ∧ ∀ (w47 : World), RowKit.Below w.heap.size w w47 → KeptIn
    [(0, w45.heap.size)] [m77, m66, m65, m54, m53, m52, m51, m50, m49, m36, m35, m24, m23, m17, m16] w45 w47 → RunsTo Try.prog ((eqGuard BinOp.eql 37 (Operand.tmp 132) (Operand.tmp
    133) (Value.agg #[Value.int IntKind.i64 x16, Value.int IntKind.i64 x17, Value.int IntKind.i64 x18]) (Value.agg #[Value.int IntKind.i64 0, Value.int IntKind.i64 1006, Value.int
    IntKind.i64 990])) >>= fun _ => binOp BinOp.eql 37 (Value.agg #[Value.int IntKind.i64 x16, Value.int IntKind.i64 x17, Value.int IntKind.i64 x18]) (Value.agg #[Value.int
    IntKind.i64 0, Value.int IntKind.i64 1006, Value.int IntKind.i64 990])) w47 fun (v1 : Value) (w48 : World) => ∃ (t3 : Bool), v1 = Value.bool t3 ∧ KeepX true w.heap.size [m77,
    m66, m65, m54, m53, m52, m51, m50, m49, m36, m35, m24, m23, m17, m16] (fun _ => False) w47 w48 ∧ (t3 = true → ∀ (w49 : World), RowKit.Below w.heap.size w w49 → KeptIn [(0,
    w48.heap.size)] [m77, m66, m65, m54, m53, m52, m51, m50, m49, m36, m35, m24, m23, m17, m16] w48 w49 → Calls Try.prog 42 #[Value.int IntKind.i64 1001, Value.int IntKind.i64
    1008] w49 fun (e16 : Ending) (w50 : World) => ∃ (x19 : Int), ∃ (x20 : Int), e16 = Ending.returned (Value.agg #[Value.int IntKind.i64 x19, Value.int IntKind.i64 x20]) ∧ KeepX
    true w.heap.size [m77, m66, m65, m54, m53, m52, m51, m50, m49, m36, m35, m24, m23, m17, m16] (fun _ => False) w49 w50 ∧ ∀ (w51 : World), RowKit.Below w.heap.size w w51 → KeptIn
    [(0, w50.heap.size)] [m77, m66, m65, m54, m53, m52, m51, m50, m49, m36, m35, m24, m23, m17, m16] w50 w51 → RunsTo Try.prog ((eqGuard BinOp.eql 42 (Operand.tmp 136) (Operand.tmp
    137) (Value.agg #[Value.int IntKind.i64 x4, Value.int IntKind.i64 x5]) (Value.agg #[Value.int IntKind.i64 x19, Value.int IntKind.i64 x20])) >>= fun _ => binOp BinOp.eql 42
    (Value.agg #[Value.int IntKind.i64 x4, Value.int IntKind.i64 x5]) (Value.agg #[Value.int IntKind.i64 x19, Value.int IntKind.i64 x20])) w51 fun (v2 : Value) (w52 : World) => ∃
    (t4 : Bool), v2 = Value.bool t4 ∧ KeepX true w.heap.size [m77, m66, m65, m54, m53, m52, m51, m50, m49, m36, m35, m24, m23, m17, m16] (fun _ => False) w51 w52 ∧ (t4 = true → ∀
    (w53 : World), RowKit.Below w.heap.size w w53 → KeptIn [(0, w52.heap.size)] [m77, m66, m65, m54, m53, m52, m51, m50, m49, m36, m35, m24, m23, m17, m16] w52 w53 → Calls Try.prog
    42 #[Value.int IntKind.i64 998, Value.int IntKind.i64 1011] w53 fun (e17 : Ending) (w54 : World) => ∃ (x21 : Int), ∃ (x22 : Int), e17 = Ending.returned (Value.agg #[Value.int
    IntKind.i64 x21, Value.int IntKind.i64 x22]) ∧ KeepX true w.heap.size [m77, m66, m65, m54, m53, m52, m51, m50, m49, m36, m35, m24, m23, m17, m16] (fun _ => False) w53 w54 ∧ ∀
    (w55 : World), RowKit.Below w.heap.size w w55 → KeptIn [(0, w54.heap.size)] [m77, m66, m65, m54, m53, m52, m51, m50, m49, m36, m35, m24, m23, m17, m16] w54 w55 → RunsTo
    Try.prog ((eqGuard BinOp.eql 42 (Operand.tmp 141) (Operand.tmp 142) (Value.agg #[Value.int IntKind.i64 x6, Value.int IntKind.i64 x7]) (Value.agg #[Value.int IntKind.i64 x21,
    Value.int IntKind.i64 x22])) >>= fun _ => binOp BinOp.eql 42 (Value.agg #[Value.int IntKind.i64 x6, Value.int IntKind.i64 x7]) (Value.agg #[Value.int IntKind.i64 x21, Value.int
    IntKind.i64 x22])) w55 fun (v3 : Value) (w56 : World) => ∃ (t5 : Bool), v3 = Value.bool t5 ∧ KeepX true w.heap.size [m77, m66, m65, m54, m53, m52, m51, m50, m49, m36, m35, m24,
    m23, m17, m16] (fun _ => False) w55 w56 ∧ (t5 = true → ∃ (m87 : Nat), ∃ (m88 : Nat), a8 = some { block := m87, off := m88 } ∧ ((0 : Int) ≤ 0 ∧ 0 < (↑m27 : Int)) ∧ ∃ (x23 :
    Int), ∃ (x24 : Int), w56.cell? { block := m87, off := m88 + Int.toNat 0 * 2 } = some (Value.int IntKind.i64 x23) ∧ w56.cell? { block := m87, off := m88 + Int.toNat 0 * 2 + 1 }
    = some (Value.int IntKind.i64 x24) ∧ (m87 < w.heap.size ∨ m87 ≠ m77 ∧ m87 ≠ m66 ∧ m87 ≠ m65 ∧ m87 ≠ m54 ∧ m87 ≠ m53 ∧ m87 ≠ m52 ∧ m87 ≠ m51 ∧ m87 ≠ m50 ∧ m87 ≠ m49 ∧ m87 ≠ m36
    ∧ m87 ≠ m35 ∧ m87 ≠ m24 ∧ m87 ≠ m23 ∧ m87 ≠ m17 ∧ m87 ≠ m16) ∧ ∀ (w57 : World), RowKit.Below w.heap.size w w57 → KeptIn [(0, w56.heap.size)] [m77, m66, m65, m54, m53, m52, m51,
    m50, m49, m36, m35, m24, m23, m17, m16] w56 w57 → RunsTo Try.prog ((eqGuard BinOp.eql 68 (Operand.tmp 148) (Operand.tmp 149) (Value.agg #[Value.int IntKind.i64 x23, Value.int
    IntKind.i64 x24]) (Value.agg #[Value.int IntKind.i64 0, Value.int IntKind.i64 2])) >>= fun _ => binOp BinOp.eql 68 (Value.agg #[Value.int IntKind.i64 x23, Value.int IntKind.i64
    x24]) (Value.agg #[Value.int IntKind.i64 0, Value.int IntKind.i64 2])) w57 fun (v4 : Value) (w58 : World) => ∃ (t6 : Bool), v4 = Value.bool t6 ∧ KeepX true w.heap.size [m77,
    m66, m65, m54, m53, m52, m51, m50, m49, m36, m35, m24, m23, m17, m16] (fun _ => False) w57 w58 ∧ (t6 = true → ∃ (m90 : Nat), ∃ (m91 : Nat), a8 = some
    { block := m90, off := m91 } ∧ ((0 : Int) ≤ 2 ∧ 2 < (↑m27 : Int)) ∧ ∃ (x25 : Int), ∃ (x26 : Int), w58.cell? { block := m90, off := m91 + Int.toNat 2 * 2 } = some (Value.int
    IntKind.i64 x25) ∧ w58.cell? { block := m90, off := m91 + Int.toNat 2 * 2 + 1 } = some (Value.int IntKind.i64 x26) ∧ (m90 < w.heap.size ∨ m90 ≠ m77 ∧ m90 ≠ m66 ∧ m90 ≠ m65 ∧
    m90 ≠ m54 ∧ m90 ≠ m53 ∧ m90 ≠ m52 ∧ m90 ≠ m51 ∧ m90 ≠ m50 ∧ m90 ≠ m49 ∧ m90 ≠ m36 ∧ m90 ≠ m35 ∧ m90 ≠ m24 ∧ m90 ≠ m23 ∧ m90 ≠ m17 ∧ m90 ≠ m16) ∧ ∀ (w59 : World), RowKit.Below
    w.heap.size w w59 → KeptIn [(0, w58.heap.size)] [m77, m66, m65, m54, m53, m52, m51, m50, m49, m36, m35, m24, m23, m17, m16] w58 w59 → RunsTo Try.prog ((eqGuard BinOp.eql 68
    (Operand.tmp 155) (Operand.tmp 156) (Value.agg #[Value.int IntKind.i64 x25, Value.int IntKind.i64 x26]) (Value.agg #[Value.int IntKind.i64 2, Value.int IntKind.i64 1])) >>= fun
    _ => binOp BinOp.eql 68 (Value.agg #[Value.int IntKind.i64 x25, Value.int IntKind.i64 x26]) (Value.agg #[Value.int IntKind.i64 2, Value.int IntKind.i64 1])) w59 fun (v5 :
    Value) (w60 : World) => ∃ (t7 : Bool), v5 = Value.bool t7 ∧ KeepX true w.heap.size [m77, m66, m65, m54, m53, m52, m51, m50, m49, m36, m35, m24, m23, m17, m16] (fun _ => False)
    w59 w60 ∧ (t7 = true → ∃ (m93 : Nat), ∃ (m94 : Nat), a12 = some { block := m93, off := m94 } ∧ ((0 : Int) ≤ 1 ∧ 1 < (↑m41 : Int)) ∧ ∃ (x27 : Int), w60.cell?
    { block := m93, off := m94 + Int.toNat 1 * 1 } = some (Value.int IntKind.i64 x27) ∧ (m93 < w.heap.size ∨ m93 ≠ m77 ∧ m93 ≠ m66 ∧ m93 ≠ m65 ∧ m93 ≠ m54 ∧ m93 ≠ m53 ∧ m93 ≠ m52 ∧
    m93 ≠ m51 ∧ m93 ≠ m50 ∧ m93 ≠ m49 ∧ m93 ≠ m36 ∧ m93 ≠ m35 ∧ m93 ≠ m24 ∧ m93 ≠ m23 ∧ m93 ≠ m17 ∧ m93 ≠ m16) ∧ (x27 = 2 → ∃ (m95 : Nat), ∃ (m96 : Nat), a15 = some
    { block := m95, off := m96 } ∧ ((0 : Int) ≤ 0 ∧ 0 < (↑m61 : Int)) ∧ ∃ (x28 : Int), w60.cell? { block := m95, off := m96 + Int.toNat 0 * 1 } = some (Value.int IntKind.i64 x28) ∧
    (m95 < w.heap.size ∨ m95 ≠ m77 ∧ m95 ≠ m66 ∧ m95 ≠ m65 ∧ m95 ≠ m54 ∧ m95 ≠ m53 ∧ m95 ≠ m52 ∧ m95 ≠ m51 ∧ m95 ≠ m50 ∧ m95 ≠ m49 ∧ m95 ≠ m36 ∧ m95 ≠ m35 ∧ m95 ≠ m24 ∧ m95 ≠ m23 ∧
    m95 ≠ m17 ∧ m95 ≠ m16) ∧ (x28 = 1 → ∃ (m97 : Nat), ∃ (m98 : Nat), a16 = some { block := m97, off := m98 } ∧ ((0 : Int) ≤ 0 ∧ 0 < (↑m69 : Int)) ∧ ∃ (x29 : Int), w60.cell?
    { block := m97, off := m98 + Int.toNat 0 * 1 } = some (Value.int IntKind.i64 x29) ∧ (m97 < w.heap.size ∨ m97 ≠ m77 ∧ m97 ≠ m66 ∧ m97 ≠ m65 ∧ m97 ≠ m54 ∧ m97 ≠ m53 ∧ m97 ≠ m52 ∧
    m97 ≠ m51 ∧ m97 ≠ m50 ∧ m97 ≠ m49 ∧ m97 ≠ m36 ∧ m97 ≠ m35 ∧ m97 ≠ m24 ∧ m97 ≠ m23 ∧ m97 ≠ m17 ∧ m97 ≠ m16) ∧ (x29 = 20 → ∃ (m99 : Nat), ∃ (m100 : Nat), a16 = some
    { block := m99, off := m100 } ∧ ((0 : Int) ≤ 1 ∧ 1 < (↑m69 : Int)) ∧ ∃ (x30 : Int), w60.cell? { block := m99, off := m100 + Int.toNat 1 * 1 } = some (Value.int IntKind.i64 x30)
    ∧ (m99 < w.heap.size ∨ m99 ≠ m77 ∧ m99 ≠ m66 ∧ m99 ≠ m65 ∧ m99 ≠ m54 ∧ m99 ≠ m53 ∧ m99 ≠ m52 ∧ m99 ≠ m51 ∧ m99 ≠ m50 ∧ m99 ≠ m49 ∧ m99 ≠ m36 ∧ m99 ≠ m35 ∧ m99 ≠ m24 ∧ m99 ≠ m23
    ∧ m99 ≠ m17 ∧ m99 ≠ m16) ∧ (x30 = 10 → ∀ (w61 : World), RowKit.Below w.heap.size w w61 → Kept [m77, m66, m65, m54, m53, m52, m51, m50, m49, m36, m35, m24, m23, m17, m16] w60
    w61 → R (Ending.returned (Value.bool t1)) w61) ∧ (x30 ≠ 10 → ∀ (w62 : World), RowKit.Below w.heap.size w w62 → Kept [m77, m66, m65, m54, m53, m52, m51, m50, m49, m36, m35, m24,
    m23, m17, m16] w60 w62 → R (Ending.returned (Value.bool false)) w62)) ∧ (x29 ≠ 20 → ∀ (w63 : World), RowKit.Below w.heap.size w w63 → Kept [m77, m66, m65, m54, m53, m52, m51,
    m50, m49, m36, m35, m24, m23, m17, m16] w60 w63 → R (Ending.returned (Value.bool false)) w63)) ∧ (x28 ≠ 1 → ∀ (w64 : World), RowKit.Below w.heap.size w w64 → Kept [m77, m66,
    m65, m54, m53, m52, m51, m50, m49, m36, m35, m24, m23, m17, m16] w60 w64 → R (Ending.returned (Value.bool false)) w64)) ∧ (x27 ≠ 2 → ∀ (w65 : World), RowKit.Below w.heap.size w
    w65 → Kept [m77, m66, m65, m54, m53, m52, m51, m50, m49, m36, m35, m24, m23, m17, m16] w60 w65 → R (Ending.returned (Value.bool false)) w65)) ∧ (t7 = false → ∀ (w66 : World),
    RowKit.Below w.heap.size w w66 → Kept [m77, m66, m65, m54, m53, m52, m51, m50, m49, m36, m35, m24, m23, m17, m16] w60 w66 → R (Ending.returned (Value.bool false)) w66)) ∧ (t6 =
    false → ∀ (w67 : World), RowKit.Below w.heap.size w w67 → Kept [m77, m66, m65, m54, m53, m52, m51, m50, m49, m36, m35, m24, m23, m17, m16] w58 w67 → R (Ending.returned
    (Value.bool false)) w67)) ∧ (t5 = false → ∀ (w68 : World), RowKit.Below w.heap.size w w68 → Kept [m77, m66, m65, m54, m53, m52, m51, m50, m49, m36, m35, m24, m23, m17, m16] w56
    w68 → R (Ending.returned (Value.bool false)) w68)) ∧ (t4 = false → ∀ (w69 : World), RowKit.Below w.heap.size w w69 → Kept [m77, m66, m65, m54, m53, m52, m51, m50, m49, m36,
    m35, m24, m23, m17, m16] w52 w69 → R (Ending.returned (Value.bool false)) w69)) ∧ (t3 = false → ∀ (w70 : World), RowKit.Below w.heap.size w w70 → Kept [m77, m66, m65, m54, m53,
    m52, m51, m50, m49, m36, m35, m24, m23, m17, m16] w48 w70 → R (Ending.returned (Value.bool false)) w70))) : Calls Try.prog 14 #[] w R := calls_of_vcj (pure := true) (wrapAt :=
    []) (muts := []) (esc := []) (joins := [(2000008, [(129, 4)])]) (args := []) (vs := []) Try.func14 rfl rfl rfl (Eq.mp (by kernel_rfl) h) 
end Go.Proofs
end
section
/- The example of the laws. -/
namespace Go.Proofs.R12
open Go.Vc Go.RowKit Go.Proofs

def oneW : Wk := ⟨[[(1000, 1010)], [(990, 998)]], [⟨0, 0, 1, 0, (2, 15)⟩]⟩
theorem oneW_ok : OkW oneW := by decide +kernel
theorem oneW_small : Small oneW := ⟨by decide, by decide, by decide⟩

set_option maxRecDepth 100000 in
theorem one_l {w : World} : Calls Try.prog 45 #[] w fun e w' => ∃ pa pc fa fc, e = .returned (oneW.v pa pc fa fc) ∧ Below w.heap.size w w' ∧ LiesS w.heap.size w'.heap.size w' pa oneW.pats ∧ Lies [] w.heap.size w'.heap.size w' fa (fitsV oneW.fits) := by
  refine vc45 w _ fun m1 g1 w1 hb1 hk1 => Pure.calls (span_any _ _) fun w2 hd2 => ⟨_, _, rfl, .all hd2, fun m3 g3 w3 hb3 hk3 => Pure.calls (span_any _ _) fun w4 hd4 => ⟨_, _, rfl, .all hd4, fun m5 g5 m6 g6 w5 hb5 hk5 => Pure.calls (span_any _ _) fun w6 hd6 => ⟨_, _, rfl, .all hd6, fun m8 g8 w7 hb7 hk7 h6 h8 h3 h5 => ?_⟩⟩⟩
  have z2 := hb1.size
  have z3 := hb3.size
  have z4 := hb5.size
  have y2 := hd2.size
  have y4 := hd4.size
  have y6 := hd6.size
  have l3 := lt_of_some h3
  have l5 := lt_of_some h5
  have l6 := lt_of_some h6
  have l8 := lt_of_some h8
  have lies : ∀ {b : Nat} {vs : List Value}, w.heap.size ≤ b → b < w7.heap.size → Cells w7 (some ⟨b, 0, none⟩) vs → Lies [] w.heap.size w7.heap.size w7 (some ⟨b, 0, none⟩) vs := fun {b vs} h1 h2 hc i v hi => by
    obtain ⟨b', o', e, hcell⟩ := hc i v hi
    simp only [Option.some.injEq, Addr.mk.injEq, and_true] at e
    obtain ⟨rfl, rfl⟩ := e
    exact ⟨_, _, rfl, ⟨by simp, h1, h2⟩, hcell⟩
  refine ⟨some ⟨m6, 0, none⟩, 2, some ⟨m8, 0, none⟩, 1, rfl, hb7, fun i p hi => ?_, ?_⟩
  · match i, hi with
    | 0, hi =>
      obtain rfl := Option.some.inj hi
      exact ⟨m6, 0, some ⟨m3, 0, none⟩, 1, rfl, ⟨by omega, l6⟩, cell_obj (vs := [.slice (some ⟨m3, 0, none⟩) 1 1, .slice (some ⟨m5, 0, none⟩) 1 1]) h6 rfl, lies (by omega) l3 (Cells.obj (vs := spansV [(1000, 1010)]) h3)⟩
    | 1, hi =>
      obtain rfl := Option.some.inj hi
      exact ⟨m6, 0, some ⟨m5, 0, none⟩, 1, rfl, ⟨by omega, l6⟩, cell_obj (vs := [.slice (some ⟨m3, 0, none⟩) 1 1, .slice (some ⟨m5, 0, none⟩) 1 1]) h6 rfl, lies (by omega) l5 (Cells.obj (vs := spansV [(990, 998)]) h5)⟩
    | j + 2, hi => simp [oneW] at hi
  · exact lies (by omega) l8 (Cells.obj (vs := fitsV oneW.fits) h8)
end Go.Proofs.R12
end
section
/- What the example's calls return. -/
namespace Go.Proofs.R12
open Go.Vc Go.RowKit Go.Proofs

def kH : List Int := [1000, 1012, 1001]
def kS : List Int := [999, 995, 1003]
def lH : List Int := [1000, 1030, 1001]
def lS : List Int := [995, 996, 997]
theorem ex_gauge : gaugeM oneW 0 0 (-2, 1) = ((1001, 1008), (998, 1011), 0) := by decide +kernel
theorem ex_loose : LooseM oneW = [⟨0, 1006, 990⟩] := by decide +kernel
theorem ex_spares : SparesM (5, 9) [⟨10, 0, 20⟩] [3, 12] = ([20, 10], 0) := by decide +kernel
theorem ex_good : GoodM oneW ⟨1, [998]⟩ = (true, 0) := by decide +kernel
theorem ex_box : boxE oneW 0 kH kS = 0 := by decide +kernel
theorem ex_box2 : boxE oneW 0 lH lS = 0 := by decide +kernel
theorem ex_pair : pairM oneW 0 kH kS = [(0, 2), (1, 0), (2, 1)] := by decide +kernel
theorem ex_choose : chooseM oneW 1 [⟨0, [1010]⟩] [⟨1, [990]⟩, ⟨1, [996]⟩, ⟨1, [999]⟩] = ([1], 0) := by decide +kernel
theorem ex_pairK : pairK (fitOf oneW 0) lH lS = [(0, 0), (1, 2)] := by decide +kernel
theorem ex_lack : lackM oneW 0 lH lS = ([0, 1, 2], [0, 2]) := by
  have hp := ex_pairK
  have s2 : Short (fitOf oneW 0) lH lS [(0, 0), (1, 2)] 2 := .free (by decide) (by decide) (by decide)
  have s0 : Short (fitOf oneW 0) lH lS [(0, 0), (1, 2)] 0 := .next (h := 0) s2 (by decide) (by decide) (by decide +kernel) (by decide)
  have s1 : Short (fitOf oneW 0) lH lS [(0, 0), (1, 2)] 1 := .next (h := 2) s2 (by decide) (by decide) (by decide +kernel) (by decide)
  have f0 : FitS (fitOf oneW 0) lH lS [(0, 0), (1, 2)] 0 := ⟨by decide, 2, s2, by decide +kernel⟩
  have f2 : FitS (fitOf oneW 0) lH lS [(0, 0), (1, 2)] 2 := ⟨by decide, 2, s2, by decide +kernel⟩
  have ok : PsOk [(0, 0), (1, 2)] lS.length lH.length := by rw [← hp]; exact pairK_ok _ _ _
  have f1 : ¬ FitS (fitOf oneW 0) lH lS [(0, 0), (1, 2)] 1 := fun ⟨_, s, h1, h2⟩ => by
    obtain ⟨a, b⟩ := h1.in ok
    have : s = 0 ∨ s = 1 ∨ s = 2 := by simp only [lS, List.length_cons, List.length_nil] at b; omega
    rcases this with rfl | rfl | rfl <;> revert h2 <;> decide +kernel
  unfold lackM
  rw [if_pos ex_box2]
  unfold shortL fitL
  rw [hp]
  have i3 : idxs lS.length = [0, 1, 2] := rfl
  have i3' : idxs lH.length = [0, 1, 2] := rfl
  rw [i3, i3']
  simp [List.filter, s0, s1, s2, f0, f1, f2]
end Go.Proofs.R12
end
section
/- The example of the laws, checked. -/
namespace Go.Proofs.R12
open Go.Vc Go.RowKit Go.Proofs
theorem liesS_chg {lo hi : Nat} {w w' : World} {a : Option Addr} {ps : List (List Sp)} {S : List Nat} (h : LiesS lo hi w a ps) (hc : Chg S w w') (hs : ∀ x ∈ S, x < lo ∨ hi ≤ x) : CellsS w' a ps := fun i p hi => by
  obtain ⟨b, o, a', c, e, hb, h1, h2⟩ := h i p hi
  exact ⟨b, o, a', c, e, hc.cell (fun hm => by have := hs b hm; omega) h1, (h2.out hc hs).cells⟩
set_option maxRecDepth 100000 in
set_option maxHeartbeats 2000000 in
theorem known_any {w : World} : Calls Try.prog 14 #[] w (Pure w (.bool true)) := by
  refine vc14 w _ ?_
  intro w1 hb1 hk1
  have z1 := hk1.size
  have x1 := hb1.size
  have o1 := hk1.own
  simp only [List.not_mem_nil, false_implies, implies_true] at o1
  refine one_l.mono fun e1 w2 he => ?_
  obtain ⟨pa2, pc2, fa2, fc2, rfl, hd2, P2, F2⟩ := he
  have y2 := hd2.size
  refine ⟨_, _, _, _, _, _, rfl, .all hd2, ?_⟩
  intro w3 hb3 hk3
  have z3 := hk3.size
  have x3 := hb3.size
  have o3 := hk3.own
  simp only [List.not_mem_nil, false_implies, implies_true] at o3
  have PC3 : CellsS w3 pa2 oneW.pats := liesS_chg P2 (Chg.kept hk3) (by simp)
  have FC3 : Cells w3 fa2 (fitsV oneW.fits) := (F2.out (Chg.kept hk3) (by simp)).cells
  refine (Loose_l PC3 FC3 oneW_small).mono fun e2 w4 he => ?_
  rw [ex_loose, show checkE oneW = 0 from checkE_ok.2 oneW_ok] at he
  obtain ⟨aL, cL, rfl, hd4, D4⟩ := he
  have y4 := hd4.size
  refine ⟨_, _, _, _, rfl, .all hd4, ?_⟩
  intro w5 hb5 hk5
  have z5 := hk5.size
  have x5 := hb5.size
  have o5 := hk5.own
  simp only [List.not_mem_nil, false_implies, implies_true] at o5
  refine one_l.mono fun e3 w6 he => ?_
  obtain ⟨pa6, pc6, fa6, fc6, rfl, hd6, P6, F6⟩ := he
  have y6 := hd6.size
  refine ⟨_, _, _, _, _, _, rfl, .all hd6, ?_⟩
  intro w7 hb7 hk7
  have z7 := hk7.size
  have x7 := hb7.size
  have o7 := hk7.own
  simp only [List.not_mem_nil, false_implies, implies_true] at o7
  refine Pure.calls (span_any _ _) fun w8 hd8 => ⟨_, _, rfl, .all hd8, ?_⟩
  have y8 := hd8.size
  intro w9 hb9 hk9
  have z9 := hk9.size
  have x9 := hb9.size
  have o9 := hk9.own
  simp only [List.not_mem_nil, false_implies, implies_true] at o9
  have PC9 : CellsS w9 pa6 oneW.pats := liesS_chg P6 (((Chg.kept hk7).trans (Chg.of_below hd8)).trans (Chg.kept hk9)) (by simp)
  have FC9 : Cells w9 fa6 (fitsV oneW.fits) := (F6.out (((Chg.kept hk7).trans (Chg.of_below hd8)).trans (Chg.kept hk9)) (by simp)).cells
  refine Pure.calls (gauge_any 0 0 (-2, 1) PC9 FC9 oneW_small) fun w10 hd10 => ?_
  have y10 := hd10.size
  rw [ex_gauge]
  refine ⟨_, _, _, _, _, rfl, .all hd10, ?_⟩
  intro m16 g_m16
  intro m17 g_m17
  intro w11 hb11 hk11
  have z11 := hk11.size
  have x11 := hb11.size
  have o11 := hk11.own
  simp only [List.mem_cons, List.not_mem_nil, or_false, forall_eq_or_imp, forall_eq] at o11
  refine one_l.mono fun e6 w12 he => ?_
  obtain ⟨pa12, pc12, fa12, fc12, rfl, hd12, P12, F12⟩ := he
  have y12 := hd12.size
  refine ⟨_, _, _, _, _, _, rfl, .all hd12, ?_⟩
  intro m23 g_m23
  intro m24 g_m24
  intro w13 hb13 hk13 hc_m23 hc_m24
  have z13 := hk13.size
  have x13 := hb13.size
  have o13 := hk13.own
  simp only [List.mem_cons, List.not_mem_nil, or_false, forall_eq_or_imp, forall_eq] at o13
  have PC13 : CellsS w13 pa12 oneW.pats := liesS_chg P12 (Chg.kept hk13) (by simp only [List.mem_cons, List.not_mem_nil, or_false, forall_eq_or_imp, forall_eq]; omega)
  have FC13 : Cells w13 fa12 (fitsV oneW.fits) := (F12.out (Chg.kept hk13) (by simp only [List.mem_cons, List.not_mem_nil, or_false, forall_eq_or_imp, forall_eq]; omega)).cells
  refine (Pair_l (n := 0) (H := kH) (S := kS) PC13 FC13 oneW_small (Cells.obj (vs := ints kH) hc_m23) (Cells.obj (vs := ints kS) hc_m24) (by decide) (by decide) (fun _ => by decide)).mono fun e7 w14 he => ?_
  rw [ex_pair, ex_box] at he
  obtain ⟨aP, cP, rfl, hd14, D14⟩ := he
  have y14 := hd14.size
  refine ⟨_, _, _, _, rfl, .all hd14, ?_⟩
  intro w15 hb15 hk15
  have z15 := hk15.size
  have x15 := hb15.size
  have o15 := hk15.own
  simp only [List.mem_cons, List.not_mem_nil, or_false, forall_eq_or_imp, forall_eq] at o15
  refine one_l.mono fun e8 w16 he => ?_
  obtain ⟨pa16, pc16, fa16, fc16, rfl, hd16, P16, F16⟩ := he
  have y16 := hd16.size
  refine ⟨_, _, _, _, _, _, rfl, .all hd16, ?_⟩
  intro m35 g_m35
  intro m36 g_m36
  intro w17 hb17 hk17 hc_m35 hc_m36
  have z17 := hk17.size
  have x17 := hb17.size
  have o17 := hk17.own
  simp only [List.mem_cons, List.not_mem_nil, or_false, forall_eq_or_imp, forall_eq] at o17
  have PC17 : CellsS w17 pa16 oneW.pats := liesS_chg P16 (Chg.kept hk17) (by simp only [List.mem_cons, List.not_mem_nil, or_false, forall_eq_or_imp, forall_eq]; omega)
  have FC17 : Cells w17 fa16 (fitsV oneW.fits) := (F16.out (Chg.kept hk17) (by simp only [List.mem_cons, List.not_mem_nil, or_false, forall_eq_or_imp, forall_eq]; omega)).cells
  refine (Lack_l (n := 0) (H := lH) (S := lS) PC17 FC17 oneW_small (Cells.obj (vs := ints lH) hc_m35) (Cells.obj (vs := ints lS) hc_m36) (by decide) (by decide) (fun _ => by decide)).mono fun e9 w18 he => ?_
  rw [ex_lack, ex_box2] at he
  obtain ⟨aF, cF, aA, cA, rfl, hd18, D18, E18⟩ := he
  have y18 := hd18.size
  refine ⟨_, _, _, _, _, _, _, rfl, .all hd18, ?_⟩
  intro w19 hb19 hk19
  have z19 := hk19.size
  have x19 := hb19.size
  have o19 := hk19.own
  simp only [List.mem_cons, List.not_mem_nil, or_false, forall_eq_or_imp, forall_eq] at o19
  refine one_l.mono fun e10 w20 he => ?_
  obtain ⟨pa20, pc20, fa20, fc20, rfl, hd20, P20, F20⟩ := he
  have y20 := hd20.size
  refine ⟨_, _, _, _, _, _, rfl, .all hd20, ?_⟩
  intro m49 g_m49
  intro m50 g_m50
  intro m51 g_m51
  intro m52 g_m52
  intro m53 g_m53
  intro m54 g_m54
  intro w21 hb21 hk21 hc_m50 hc_m54 hc_m49 hc_m51 hc_m52 hc_m53
  have z21 := hk21.size
  have x21 := hb21.size
  have o21 := hk21.own
  simp only [List.mem_cons, List.not_mem_nil, or_false, forall_eq_or_imp, forall_eq] at o21
  have PC21 : CellsS w21 pa20 oneW.pats := liesS_chg P20 (Chg.kept hk21) (by simp only [List.mem_cons, List.not_mem_nil, or_false, forall_eq_or_imp, forall_eq]; omega)
  have FC21 : Cells w21 fa20 (fitsV oneW.fits) := (F20.out (Chg.kept hk21) (by simp only [List.mem_cons, List.not_mem_nil, or_false, forall_eq_or_imp, forall_eq]; omega)).cells
  have KC : CellsP w21 (some ⟨m50, 0, none⟩) [⟨0, [1010]⟩] := fun i p hi => by
    match i, hi with
    | 0, hi =>
      obtain rfl := Option.some.inj hi
      exact ⟨m50, 0, some ⟨m49, 0, none⟩, 1, rfl, cell_obj (vs := [I 0, .slice (some ⟨m49, 0, none⟩) 1 1]) hc_m50 rfl, cell_obj (vs := [I 0, .slice (some ⟨m49, 0, none⟩) 1 1]) hc_m50 rfl, Cells.obj (vs := ints [1010]) hc_m49⟩
    | j + 1, hi => simp at hi
  have KT : CellsP w21 (some ⟨m54, 0, none⟩) [⟨1, [990]⟩, ⟨1, [996]⟩, ⟨1, [999]⟩] := fun i p hi => by
    match i, hi with
    | 0, hi =>
      obtain rfl := Option.some.inj hi
      exact ⟨m54, 0, some ⟨m51, 0, none⟩, 1, rfl, cell_obj (vs := [I 1, .slice (some ⟨m51, 0, none⟩) 1 1, I 1, .slice (some ⟨m52, 0, none⟩) 1 1, I 1, .slice (some ⟨m53, 0, none⟩) 1 1]) hc_m54 rfl, cell_obj (vs := [I 1, .slice (some ⟨m51, 0, none⟩) 1 1, I 1, .slice (some ⟨m52, 0, none⟩) 1 1, I 1, .slice (some ⟨m53, 0, none⟩) 1 1]) hc_m54 rfl, Cells.obj (vs := ints [990]) hc_m51⟩
    | 1, hi =>
      obtain rfl := Option.some.inj hi
      exact ⟨m54, 0, some ⟨m52, 0, none⟩, 1, rfl, cell_obj (vs := [I 1, .slice (some ⟨m51, 0, none⟩) 1 1, I 1, .slice (some ⟨m52, 0, none⟩) 1 1, I 1, .slice (some ⟨m53, 0, none⟩) 1 1]) hc_m54 rfl, cell_obj (vs := [I 1, .slice (some ⟨m51, 0, none⟩) 1 1, I 1, .slice (some ⟨m52, 0, none⟩) 1 1, I 1, .slice (some ⟨m53, 0, none⟩) 1 1]) hc_m54 rfl, Cells.obj (vs := ints [996]) hc_m52⟩
    | 2, hi =>
      obtain rfl := Option.some.inj hi
      exact ⟨m54, 0, some ⟨m53, 0, none⟩, 1, rfl, cell_obj (vs := [I 1, .slice (some ⟨m51, 0, none⟩) 1 1, I 1, .slice (some ⟨m52, 0, none⟩) 1 1, I 1, .slice (some ⟨m53, 0, none⟩) 1 1]) hc_m54 rfl, cell_obj (vs := [I 1, .slice (some ⟨m51, 0, none⟩) 1 1, I 1, .slice (some ⟨m52, 0, none⟩) 1 1, I 1, .slice (some ⟨m53, 0, none⟩) 1 1]) hc_m54 rfl, Cells.obj (vs := ints [999]) hc_m53⟩
    | j + 3, hi => simp at hi
  refine (Choose_l (p := 1) (C := [⟨0, [1010]⟩]) (St := [⟨1, [990]⟩, ⟨1, [996]⟩, ⟨1, [999]⟩]) PC21 FC21 oneW_small KC KT (by decide) (by decide) (by decide) (by decide)).mono fun e11 w22 he => ?_
  unfold PureL at he
  rw [ex_choose] at he
  obtain ⟨aC, cC, rfl, hd22, D22⟩ := he
  have y22 := hd22.size
  refine ⟨_, _, _, _, rfl, .all hd22, ?_⟩
  intro w23 hb23 hk23
  have z23 := hk23.size
  have x23 := hb23.size
  have o23 := hk23.own
  simp only [List.mem_cons, List.not_mem_nil, or_false, forall_eq_or_imp, forall_eq] at o23
  refine Pure.calls (span_any _ _) fun w24 hd24 => ⟨_, _, rfl, .all hd24, ?_⟩
  have y24 := hd24.size
  intro m65 g_m65
  intro m66 g_m66
  intro w25 hb25 hk25 hc_m65 hc_m66
  have z25 := hk25.size
  have x25 := hb25.size
  have o25 := hk25.own
  simp only [List.mem_cons, List.not_mem_nil, or_false, forall_eq_or_imp, forall_eq] at o25
  refine (spares_l (5, 9) (l := [⟨10, 0, 20⟩]) (orders := [3, 12]) (Cells.obj (vs := consV [⟨10, 0, 20⟩]) hc_m65) (Cells.obj (vs := ints [3, 12]) hc_m66) (by decide) (by decide) (by decide)).mono fun e13 w26 he => ?_
  rw [ex_spares] at he
  obtain ⟨aS, cS, rfl, hd26, D26⟩ := he
  have y26 := hd26.size
  refine ⟨_, _, _, _, rfl, .all hd26, ?_⟩
  intro w27 hb27 hk27
  have z27 := hk27.size
  have x27 := hb27.size
  have o27 := hk27.own
  simp only [List.mem_cons, List.not_mem_nil, or_false, forall_eq_or_imp, forall_eq] at o27
  refine one_l.mono fun e14 w28 he => ?_
  obtain ⟨pa28, pc28, fa28, fc28, rfl, hd28, P28, F28⟩ := he
  have y28 := hd28.size
  refine ⟨_, _, _, _, _, _, rfl, .all hd28, ?_⟩
  intro m77 g_m77
  intro w29 hb29 hk29 hc_m77
  have z29 := hk29.size
  have x29 := hb29.size
  have o29 := hk29.own
  simp only [List.mem_cons, List.not_mem_nil, or_false, forall_eq_or_imp, forall_eq] at o29
  have PC29 : CellsS w29 pa28 oneW.pats := liesS_chg P28 (Chg.kept hk29) (by simp only [List.mem_cons, List.not_mem_nil, or_false, forall_eq_or_imp, forall_eq]; omega)
  have FC29 : Cells w29 fa28 (fitsV oneW.fits) := (F28.out (Chg.kept hk29) (by simp only [List.mem_cons, List.not_mem_nil, or_false, forall_eq_or_imp, forall_eq]; omega)).cells
  refine Pure.calls (Good_any ⟨1, [998]⟩ (Cells.obj (vs := ints [998]) hc_m77) (by decide) PC29 FC29 oneW_small) fun w30 hd30 => ?_
  have y30 := hd30.size
  rw [ex_good]
  refine ⟨_, _, rfl, .all hd30, ?_⟩
  have hs : ∀ {own : List Nat} {u v : World}, Kept own u v → (∀ x ∈ own, x ∈ [m77, m66, m65, m54, m53, m52, m51, m50, m49, m36, m35, m24, m23, m17, m16]) → Chg [m77, m66, m65, m54, m53, m52, m51, m50, m49, m36, m35, m24, m23, m17, m16] u v := fun hk h => (Chg.kept hk).mono fun x hx => .inl (h x hx)
  have hbl : ∀ {u v : World}, Below u.heap.size u v → Chg [m77, m66, m65, m54, m53, m52, m51, m50, m49, m36, m35, m24, m23, m17, m16] u v := fun h => Chg.of_below h
  have C4_14 : Chg [m77, m66, m65, m54, m53, m52, m51, m50, m49, m36, m35, m24, m23, m17, m16] w4 w14 := ((hs hk5 (by simp)).trans ((hbl hd6).trans ((hs hk7 (by simp)).trans ((hbl hd8).trans ((hs hk9 (by simp)).trans ((hbl hd10).trans ((hs hk11 (by simp)).trans ((hbl hd12).trans ((hs hk13 (by simp)).trans (hbl hd14))))))))))
  have C14_18 : Chg [m77, m66, m65, m54, m53, m52, m51, m50, m49, m36, m35, m24, m23, m17, m16] w14 w18 := ((hs hk15 (by simp)).trans ((hbl hd16).trans ((hs hk17 (by simp)).trans (hbl hd18))))
  have C18_22 : Chg [m77, m66, m65, m54, m53, m52, m51, m50, m49, m36, m35, m24, m23, m17, m16] w18 w22 := ((hs hk19 (by simp)).trans ((hbl hd20).trans ((hs hk21 (by simp)).trans (hbl hd22))))
  have C22_26 : Chg [m77, m66, m65, m54, m53, m52, m51, m50, m49, m36, m35, m24, m23, m17, m16] w22 w26 := ((hs hk23 (by simp)).trans ((hbl hd24).trans ((hs hk25 (by simp)).trans (hbl hd26))))
  have C26_30 : Chg [m77, m66, m65, m54, m53, m52, m51, m50, m49, m36, m35, m24, m23, m17, m16] w26 w30 := ((hs hk27 (by simp)).trans ((hbl hd28).trans ((hs hk29 (by simp)).trans (hbl hd30))))
  have D30 := D26.out C26_30 (by simp only [List.mem_cons, List.not_mem_nil, or_false, forall_eq_or_imp, forall_eq]; omega)
  have DC30 := (D22.out C22_26 (by simp only [List.mem_cons, List.not_mem_nil, or_false, forall_eq_or_imp, forall_eq]; omega)).out C26_30 (by simp only [List.mem_cons, List.not_mem_nil, or_false, forall_eq_or_imp, forall_eq]; omega)
  have DA30 := ((E18.out C18_22 (by simp only [List.mem_cons, List.not_mem_nil, or_false, forall_eq_or_imp, forall_eq]; omega)).out C22_26 (by simp only [List.mem_cons, List.not_mem_nil, or_false, forall_eq_or_imp, forall_eq]; omega)).out C26_30 (by simp only [List.mem_cons, List.not_mem_nil, or_false, forall_eq_or_imp, forall_eq]; omega)
  have DP30 := (((D14.out C14_18 (by simp only [List.mem_cons, List.not_mem_nil, or_false, forall_eq_or_imp, forall_eq]; omega)).out C18_22 (by simp only [List.mem_cons, List.not_mem_nil, or_false, forall_eq_or_imp, forall_eq]; omega)).out C22_26 (by simp only [List.mem_cons, List.not_mem_nil, or_false, forall_eq_or_imp, forall_eq]; omega)).out C26_30 (by simp only [List.mem_cons, List.not_mem_nil, or_false, forall_eq_or_imp, forall_eq]; omega)
  have DL30 := ((((D4.out C4_14 (by simp only [List.mem_cons, List.not_mem_nil, or_false, forall_eq_or_imp, forall_eq]; omega)).out C14_18 (by simp only [List.mem_cons, List.not_mem_nil, or_false, forall_eq_or_imp, forall_eq]; omega)).out C18_22 (by simp only [List.mem_cons, List.not_mem_nil, or_false, forall_eq_or_imp, forall_eq]; omega)).out C22_26 (by simp only [List.mem_cons, List.not_mem_nil, or_false, forall_eq_or_imp, forall_eq]; omega)).out C26_30 (by simp only [List.mem_cons, List.not_mem_nil, or_false, forall_eq_or_imp, forall_eq]; omega)
  refine ⟨fun ls w' => match ls with | [.bool t] => t = false ∧ Chg [m77, m66, m65, m54, m53, m52, m51, m50, m49, m36, m35, m24, m23, m17, m16] w30 w' | _ => False, ⟨fun h => absurd rfl h, fun _ => ⟨fun h => absurd rfl h, fun _ => ⟨fun h => absurd rfl h, fun _ => ⟨fun h => absurd rfl h, fun _ => ⟨fun h => absurd rfl h, fun _ => ⟨fun h => absurd rfl h, fun _ => ⟨fun h => absurd rfl h, fun _ => ⟨fun h => absurd rfl h, fun _ => ⟨fun h => absurd rfl h, fun _ => ⟨fun h => absurd rfl h, fun _ => ⟨fun h => absurd rfl h, fun _ => ⟨fun h => absurd rfl h, fun _ => fun w44 hb44 hk44 => ⟨rfl, hs hk44 (fun _ h => h)⟩⟩⟩⟩⟩⟩⟩⟩⟩⟩⟩⟩⟩, ?_⟩
  rintro t2 w45 hb45 ⟨rfl, c45⟩
  refine ⟨fun h => (by cases h), fun _ => ?_⟩
  have z45 := c45.size
  have D45 := D30.out c45 (by simp only [List.mem_cons, List.not_mem_nil, or_false, forall_eq_or_imp, forall_eq]; omega)
  have DC45 := DC30.out c45 (by simp only [List.mem_cons, List.not_mem_nil, or_false, forall_eq_or_imp, forall_eq]; omega)
  have DA45 := DA30.out c45 (by simp only [List.mem_cons, List.not_mem_nil, or_false, forall_eq_or_imp, forall_eq]; omega)
  have DP45 := DP30.out c45 (by simp only [List.mem_cons, List.not_mem_nil, or_false, forall_eq_or_imp, forall_eq]; omega)
  have DL45 := DL30.out c45 (by simp only [List.mem_cons, List.not_mem_nil, or_false, forall_eq_or_imp, forall_eq]; omega)
  obtain ⟨b1, p1, rfl, ⟨_, l1, h1⟩, q1⟩ := DL45 0 _ rfl
  refine ⟨b1, p1, rfl, ⟨by omega, by decide⟩, 0, 1006, 990, cell_at' q1 (by simp), cell_at' (DL45.at (i := 1) rfl).2 (by simp), cell_at' (DL45.at (i := 2) rfl).2 (by simp), .inr ⟨by omega, by omega, by omega, by omega, by omega, by omega, by omega, by omega, by omega, by omega, by omega, by omega, by omega, by omega, by omega⟩, fun w47 hb47 hk47 => eqlr_gap ⟨true, rfl, .all (.refl _ _), fun _ => ?_, fun h => (by cases h)⟩⟩
  intro w49 hb49 hk49
  refine Pure.calls (span_any _ _) fun w50 hd50 => ⟨_, _, rfl, .all hd50, fun w51 hb51 hk51 => eqlr_span ⟨true, rfl, .all (.refl _ _), fun _ => ?_, fun h => (by cases h)⟩⟩
  intro w53 hb53 hk53
  refine Pure.calls (span_any _ _) fun w54 hd54 => ⟨_, _, rfl, .all hd54, fun w55 hb55 hk55 => eqlr_span ⟨true, rfl, .all (.refl _ _), fun _ => ?_, fun h => (by cases h)⟩⟩
  have c55 : Chg [m77, m66, m65, m54, m53, m52, m51, m50, m49, m36, m35, m24, m23, m17, m16] w45 w55 := hk47.chg.trans (hk49.chg.trans ((hbl hd50).trans (hk51.chg.trans (hk53.chg.trans ((hbl hd54).trans hk55.chg)))))
  have D55 := D45.out c55 (by simp only [List.mem_cons, List.not_mem_nil, or_false, forall_eq_or_imp, forall_eq]; omega)
  have DC55 := DC45.out c55 (by simp only [List.mem_cons, List.not_mem_nil, or_false, forall_eq_or_imp, forall_eq]; omega)
  have DA55 := DA45.out c55 (by simp only [List.mem_cons, List.not_mem_nil, or_false, forall_eq_or_imp, forall_eq]; omega)
  have DP55 := DP45.out c55 (by simp only [List.mem_cons, List.not_mem_nil, or_false, forall_eq_or_imp, forall_eq]; omega)
  obtain ⟨b2, p2, rfl, ⟨_, l2, h2⟩, q2⟩ := DP55 0 _ rfl
  refine ⟨b2, p2, rfl, ⟨by omega, by decide⟩, 0, 2, cell_at' q2 (by simp), cell_at' (DP55.at (i := 1) rfl).2 (by simp), .inr ⟨by omega, by omega, by omega, by omega, by omega, by omega, by omega, by omega, by omega, by omega, by omega, by omega, by omega, by omega, by omega⟩, fun w57 hb57 hk57 => ⟨.bool true, w57, by kernel_rfl, true, rfl, .all (.refl _ _), fun _ => ?_, fun h => (by cases h)⟩⟩
  have DP57 := DP55.out hk57.chg (by simp only [List.mem_cons, List.not_mem_nil, or_false, forall_eq_or_imp, forall_eq]; omega)
  refine ⟨b2, p2, rfl, ⟨by omega, by decide⟩, 2, 1, cell_at' (DP57.at (i := 4) rfl).2 (by simp), cell_at' (DP57.at (i := 5) rfl).2 (by simp), .inr ⟨by omega, by omega, by omega, by omega, by omega, by omega, by omega, by omega, by omega, by omega, by omega, by omega, by omega, by omega, by omega⟩, fun w59 hb59 hk59 => ⟨.bool true, w59, by kernel_rfl, true, rfl, .all (.refl _ _), fun _ => ?_, fun h => (by cases h)⟩⟩
  have D59 := (D55.out hk57.chg (by simp only [List.mem_cons, List.not_mem_nil, or_false, forall_eq_or_imp, forall_eq]; omega)).out hk59.chg (by simp only [List.mem_cons, List.not_mem_nil, or_false, forall_eq_or_imp, forall_eq]; omega)
  have DC59 := (DC55.out hk57.chg (by simp only [List.mem_cons, List.not_mem_nil, or_false, forall_eq_or_imp, forall_eq]; omega)).out hk59.chg (by simp only [List.mem_cons, List.not_mem_nil, or_false, forall_eq_or_imp, forall_eq]; omega)
  have DA59 := (DA55.out hk57.chg (by simp only [List.mem_cons, List.not_mem_nil, or_false, forall_eq_or_imp, forall_eq]; omega)).out hk59.chg (by simp only [List.mem_cons, List.not_mem_nil, or_false, forall_eq_or_imp, forall_eq]; omega)
  obtain ⟨b3, p3, rfl, ⟨_, l3, h3⟩, q3⟩ := DA59 0 _ rfl
  obtain ⟨b4, p4, rfl, ⟨_, l4, h4⟩, q4⟩ := DC59 0 _ rfl
  obtain ⟨b5, p5, rfl, ⟨_, l5, h5⟩, q5⟩ := D59 0 _ rfl
  refine ⟨b3, p3, rfl, ⟨by omega, by decide⟩, 2, cell_at' (DA59.at (i := 1) rfl).2 (by simp), .inr ⟨by omega, by omega, by omega, by omega, by omega, by omega, by omega, by omega, by omega, by omega, by omega, by omega, by omega, by omega, by omega⟩, fun _ => ?_, fun h => absurd rfl h⟩
  refine ⟨b4, p4, rfl, ⟨by omega, by decide⟩, 1, cell_at' q4 (by simp), .inr ⟨by omega, by omega, by omega, by omega, by omega, by omega, by omega, by omega, by omega, by omega, by omega, by omega, by omega, by omega, by omega⟩, fun _ => ?_, fun h => absurd rfl h⟩
  refine ⟨b5, p5, rfl, ⟨by omega, by decide⟩, 20, cell_at' q5 (by simp), .inr ⟨by omega, by omega, by omega, by omega, by omega, by omega, by omega, by omega, by omega, by omega, by omega, by omega, by omega, by omega, by omega⟩, fun _ => ?_, fun h => absurd rfl h⟩
  refine ⟨b5, p5, rfl, ⟨by omega, by decide⟩, 10, cell_at' (D59.at (i := 1) rfl).2 (by simp), .inr ⟨by omega, by omega, by omega, by omega, by omega, by omega, by omega, by omega, by omega, by omega, by omega, by omega, by omega, by omega, by omega⟩, fun _ w61 hb61 _ => ⟨rfl, hb61⟩, fun h => absurd rfl h⟩
end Go.Proofs.R12
end
section
/- The conditions of the functions, printed by program; each is what the generator reckons (kernel_rfl). -/
namespace Go.Proofs
open Go.Vc
set_option maxRecDepth 100000 in
set_option maxHeartbeats 2000000 in
theorem vc4 (p0w0a : Option Addr) (p0w0n : Nat) (p0w0c : Nat) (p0w1a : Option Addr) (p0w1n : Nat) (p0w1c : Nat) (x0 : Int) (x1a : Option Addr) (x1n : Nat) (x1c : Nat) (r0 : Int)
    (r1 : Int) (r2 : Int) (r3 : Int) (w : World) (R : Ending → World → Prop) (h : ∀ (m1 : Nat), w.heap.size ≤ m1 → ∀ (m2 : Nat), w.heap.size ≤ m2 → ∀ (m3 : Nat), w.heap.size ≤ m3 →
    ∀ (w1 : World), RowKit.Below w.heap.size w w1 → Kept [m3, m2, m1] w w1 → Calls Try.prog 13 #[Value.agg #[Value.slice p0w0a p0w0n p0w0c, Value.slice p0w1a p0w1n p0w1c]] w1 fun
    (e1 : Ending) (w2 : World) => ∃ (t1 : Bool), e1 = Ending.returned (Value.bool t1) ∧ KeepX true w.heap.size [m3, m2, m1] (fun _ => False) w1 w2 ∧ (t1 = true → ∀ (w3 : World),
    RowKit.Below w.heap.size w w3 → Kept [m3, m2, m1] w2 w3 → Calls Try.prog 14 #[] w3 fun (e2 : Ending) (w4 : World) => ∃ (t2 : Bool), e2 = Ending.returned (Value.bool t2) ∧ KeepX
    true w.heap.size [m3, m2, m1] (fun _ => False) w3 w4 ∧ ∀ (w5 : World), RowKit.Below w.heap.size w w5 → Kept [m3, m2, m1] w4 w5 → R (Ending.returned (Value.bool t2)) w5) ∧ (t1 =
    false → (15 < (↑x1n : Int) → ∀ (w6 : World), RowKit.Below w.heap.size w w6 → Kept [m3, m2, m1] w2 w6 → Calls Try.prog 14 #[] w6 fun (e3 : Ending) (w7 : World) => ∃ (t3 : Bool),
    e3 = Ending.returned (Value.bool t3) ∧ KeepX true w.heap.size [m3, m2, m1] (fun _ => False) w6 w7 ∧ ∀ (w8 : World), RowKit.Below w.heap.size w w8 → Kept [m3, m2, m1] w7 w8 → R
    (Ending.returned (Value.bool t3)) w8) ∧ ((↑x1n : Int) ≤ 15 → ∀ (m7 : Nat), w2.heap.size ≤ m7 → ∀ (w9 : World), RowKit.Below w.heap.size w w9 → Kept [m7, m3, m2, m1] w2 w9 →
    w9.heap[m7]? = some (Obj.cells #[Value.int IntKind.i64 x0, Value.slice x1a x1n x1c] 40) → Calls Try.prog 22 #[Value.slice (some { block := m7, off := 0 }) 1 1] w9 fun (e4 :
    Ending) (w10 : World) => ∃ (a1 : Option Addr), ∃ (m9 : Nat), ∃ (m10 : Nat), e4 = Ending.returned (Value.slice a1 m9 m10) ∧ KeepX true w.heap.size [m7, m3, m2, m1] (fun _ =>
    False) w9 w10 ∧ ∀ (w11 : World), RowKit.Below w.heap.size w w11 → KeptIn [(0, w10.heap.size)] [m7, m3, m2, m1] w10 w11 → Calls Try.prog 15 #[Value.agg #[Value.slice p0w0a p0w0n
    p0w0c, Value.slice p0w1a p0w1n p0w1c]] w11 fun (e5 : Ending) (w12 : World) => ∃ (a2 : Option Addr), ∃ (m12 : Nat), ∃ (m13 : Nat), ∃ (a3 : Option Addr), ∃ (m14 : Nat), ∃ (m15 :
    Nat), e5 = Ending.returned (Value.agg #[Value.slice a2 m12 m13, Value.slice a3 m14 m15]) ∧ RowKit.Below w11.heap.size w11 w12 ∧ ∃ (m16 : Nat), ∃ (m17 : Nat), a1 = some
    { block := m16, off := m17 } ∧ ((0 : Int) ≤ 0 ∧ 0 < (↑m9 : Int)) ∧ ∃ (x1 : Int), ∃ (a4 : Option Addr), ∃ (m18 : Nat), ∃ (m19 : Nat), w10.cell?
    { block := m16, off := m17 + Int.toNat 0 * 2 } = some (Value.int IntKind.i64 x1) ∧ w10.cell? { block := m16, off := m17 + Int.toNat 0 * 2 + 1 } = some (Value.slice a4 m18 m19)
    ∧ (m16 < w.heap.size ∨ m16 ≠ m7 ∧ m16 ≠ m3 ∧ m16 ≠ m2 ∧ m16 ≠ m1) ∧ ∀ (w13 : World), RowKit.Below w.heap.size w w13 → KeptIn [(0, w10.heap.size), (w11.heap.size,
    w12.heap.size)] [m7, m3, m2, m1] w12 w13 → Calls Try.prog 23 #[Value.agg #[Value.slice a2 m12 m13, Value.slice a3 m14 m15], Value.agg #[Value.int IntKind.i64 x1, Value.slice a4
    m18 m19]] w13 fun (e6 : Ending) (w14 : World) => ∃ (t4 : Bool), ∃ (x2 : Int), e6 = Ending.returned (Value.tuple #[Value.bool t4, Value.int IntKind.i64 x2]) ∧ KeepX true
    w.heap.size [m7, m3, m2, m1] (fun _ => False) w13 w14 ∧ ∀ (w15 : World), RowKit.Below w.heap.size w w15 → KeptIn [(0, w14.heap.size)] [m7, m3, m2, m1] w14 w15 → Calls Try.prog
    15 #[Value.agg #[Value.slice p0w0a p0w0n p0w0c, Value.slice p0w1a p0w1n p0w1c]] w15 fun (e7 : Ending) (w16 : World) => ∃ (a5 : Option Addr), ∃ (m21 : Nat), ∃ (m22 : Nat), ∃ (a6
    : Option Addr), ∃ (m23 : Nat), ∃ (m24 : Nat), e7 = Ending.returned (Value.agg #[Value.slice a5 m21 m22, Value.slice a6 m23 m24]) ∧ RowKit.Below w15.heap.size w15 w16 ∧ ∀ (w17 :
    World), RowKit.Below w.heap.size w w17 → KeptIn [(0, w14.heap.size), (w15.heap.size, w16.heap.size)] [m7, m3, m2, m1] w16 w17 → Calls Try.prog 24 #[Value.agg #[Value.slice a5
    m21 m22, Value.slice a6 m23 m24], Value.int IntKind.i64 r0, Value.int IntKind.i64 r1, Value.agg #[Value.int IntKind.i64 r2, Value.int IntKind.i64 r3]] w17 fun (e8 : Ending)
    (w18 : World) => ∃ (x3 : Int), ∃ (x4 : Int), ∃ (x5 : Int), ∃ (x6 : Int), ∃ (x7 : Int), e8 = Ending.returned (Value.tuple #[Value.agg #[Value.int IntKind.i64 x3, Value.int
    IntKind.i64 x4], Value.agg #[Value.int IntKind.i64 x5, Value.int IntKind.i64 x6], Value.int IntKind.i64 x7]) ∧ RowKit.Below w17.heap.size w17 w18 ∧ ∀ (m25 : Nat), w14.heap.size
    ≤ m25 → m25 < w17.heap.size ∨ w18.heap.size ≤ m25 → m25 < w15.heap.size ∨ w16.heap.size ≤ m25 → ∀ (m26 : Nat), w14.heap.size ≤ m26 → m26 < w17.heap.size ∨ w18.heap.size ≤ m26 →
    m26 < w15.heap.size ∨ w16.heap.size ≤ m26 → ∀ (w19 : World), RowKit.Below w.heap.size w w19 → Kept [m7, m26, m25, m3, m2, m1] w18 w19 → Calls Try.prog 25 #[Value.agg
    #[Value.slice p0w0a p0w0n p0w0c, Value.slice p0w1a p0w1n p0w1c], Value.int IntKind.i64 r0, Value.int IntKind.i64 r1, Value.agg #[Value.int IntKind.i64 r2, Value.int IntKind.i64
    r3]] w19 fun (e9 : Ending) (w20 : World) => ∃ (x8 : Int), ∃ (x9 : Int), ∃ (x10 : Int), ∃ (x11 : Int), ∃ (x12 : Int), e9 = Ending.returned (Value.tuple #[Value.agg #[Value.int
    IntKind.i64 x8, Value.int IntKind.i64 x9], Value.agg #[Value.int IntKind.i64 x10, Value.int IntKind.i64 x11], Value.int IntKind.i64 x12]) ∧ KeepX true w.heap.size [m7, m26,
    m25, m3, m2, m1] (fun _ => False) w19 w20 ∧ ∀ (m28 : Nat), w20.heap.size ≤ m28 → ∀ (m29 : Nat), w20.heap.size ≤ m29 → ∀ (w21 : World), RowKit.Below w.heap.size w w21 → Kept
    [m7, m29, m28, m26, m25, m3, m2, m1] w20 w21 → RunsTo Try.prog ((eqGuard BinOp.neq 42 (Operand.tmp 63) (Operand.tmp 64) (Value.agg #[Value.int IntKind.i64 x3, Value.int
    IntKind.i64 x4]) (Value.agg #[Value.int IntKind.i64 x8, Value.int IntKind.i64 x9])) >>= fun _ => binOp BinOp.neq 42 (Value.agg #[Value.int IntKind.i64 x3, Value.int IntKind.i64
    x4]) (Value.agg #[Value.int IntKind.i64 x8, Value.int IntKind.i64 x9])) w21 fun (v1 : Value) (w22 : World) => ∃ (t5 : Bool), v1 = Value.bool t5 ∧ KeepX true w.heap.size [m7,
    m29, m28, m26, m25, m3, m2, m1] (fun _ => False) w21 w22 ∧ (t5 = true → ∀ (w23 : World), RowKit.Below w.heap.size w w23 → Kept [m7, m29, m28, m26, m25, m3, m2, m1] w22 w23 → R
    (Ending.returned (Value.bool false)) w23) ∧ (t5 = false → ∀ (w24 : World), RowKit.Below w.heap.size w w24 → Kept [m7, m29, m28, m26, m25, m3, m2, m1] w22 w24 → RunsTo Try.prog
    ((eqGuard BinOp.neq 42 (Operand.tmp 67) (Operand.tmp 68) (Value.agg #[Value.int IntKind.i64 x5, Value.int IntKind.i64 x6]) (Value.agg #[Value.int IntKind.i64 x10, Value.int
    IntKind.i64 x11])) >>= fun _ => binOp BinOp.neq 42 (Value.agg #[Value.int IntKind.i64 x5, Value.int IntKind.i64 x6]) (Value.agg #[Value.int IntKind.i64 x10, Value.int
    IntKind.i64 x11])) w24 fun (v2 : Value) (w25 : World) => ∃ (t6 : Bool), v2 = Value.bool t6 ∧ KeepX true w.heap.size [m7, m29, m28, m26, m25, m3, m2, m1] (fun _ => False) w24
    w25 ∧ (t6 = true → ∀ (w26 : World), RowKit.Below w.heap.size w w26 → Kept [m7, m29, m28, m26, m25, m3, m2, m1] w25 w26 → R (Ending.returned (Value.bool false)) w26) ∧ (t6 =
    false → (x7 ≠ x12 → ∀ (w27 : World), RowKit.Below w.heap.size w w27 → Kept [m7, m29, m28, m26, m25, m3, m2, m1] w25 w27 → R (Ending.returned (Value.bool false)) w27) ∧ (x7 =
    x12 → ∀ (m32 : Nat), w25.heap.size ≤ m32 → ∀ (w28 : World), RowKit.Below w.heap.size w w28 → Kept [m32, m7, m29, m28, m26, m25, m3, m2, m1] w25 w28 → w28.heap[m32]? = some
    (Obj.cells #[Value.int IntKind.i64 x0, Value.slice x1a x1n x1c] 40) → Calls Try.prog 26 #[Value.slice a1 m9 m10, Value.slice (some { block := m32, off := 0 }) 1 1] w28 fun (e10
    : Ending) (w29 : World) => ∃ (t7 : Bool), e10 = Ending.returned (Value.bool t7) ∧ KeepX true w.heap.size [m32, m7, m29, m28, m26, m25, m3, m2, m1] (fun _ => False) w28 w29 ∧
    ((!t7) = true → ∀ (w30 : World), RowKit.Below w.heap.size w w30 → Kept [m32, m7, m29, m28, m26, m25, m3, m2, m1] w29 w30 → R (Ending.returned (Value.bool false)) w30) ∧ ((!t7)
    = false → ∀ (w31 : World), RowKit.Below w.heap.size w w31 → Kept [m32, m7, m29, m28, m26, m25, m3, m2, m1] w29 w31 → Calls Try.prog 19 #[Value.agg #[Value.slice p0w0a p0w0n
    p0w0c, Value.slice p0w1a p0w1n p0w1c]] w31 fun (e11 : Ending) (w32 : World) => ∃ (t8 : Bool), e11 = Ending.returned (Value.bool t8) ∧ KeepX true w.heap.size [m32, m7, m29, m28,
    m26, m25, m3, m2, m1] (fun _ => False) w31 w32 ∧ (t8 = true → ∀ (w33 : World), RowKit.Below w.heap.size w w33 → Kept [m32, m7, m29, m28, m26, m25, m3, m2, m1] w32 w33 → Calls
    Try.prog 27 #[Value.agg #[Value.slice p0w0a p0w0n p0w0c, Value.slice p0w1a p0w1n p0w1c], Value.agg #[Value.int IntKind.i64 x0, Value.slice x1a x1n x1c]] w33 fun (e12 : Ending)
    (w34 : World) => ∃ (x13 : Int), e12 = Ending.returned (Value.int IntKind.i64 x13) ∧ KeepX true w.heap.size [m32, m7, m29, m28, m26, m25, m3, m2, m1] (fun _ => False) w33 w34 ∧
    (x13 ≠ 0 → (x2 = x13 → ((!t4) = true → ∀ (w35 : World), RowKit.Below w.heap.size w w35 → Kept [m32, m7, m29, m28, m26, m25, m3, m2, m1] w34 w35 → Calls Try.prog 14 #[] w35 fun
    (e13 : Ending) (w36 : World) => ∃ (t9 : Bool), e13 = Ending.returned (Value.bool t9) ∧ KeepX true w.heap.size [m32, m7, m29, m28, m26, m25, m3, m2, m1] (fun _ => False) w35 w36
    ∧ ∀ (w37 : World), RowKit.Below w.heap.size w w37 → Kept [m32, m7, m29, m28, m26, m25, m3, m2, m1] w36 w37 → R (Ending.returned (Value.bool t9)) w37) ∧ ((!t4) = false → ∀ (w38
    : World), RowKit.Below w.heap.size w w38 → Kept [m32, m7, m29, m28, m26, m25, m3, m2, m1] w34 w38 → R (Ending.returned (Value.bool false)) w38)) ∧ (x2 ≠ x13 → ∀ (w39 : World),
    RowKit.Below w.heap.size w w39 → Kept [m32, m7, m29, m28, m26, m25, m3, m2, m1] w34 w39 → R (Ending.returned (Value.bool false)) w39)) ∧ (x13 = 0 → (x2 = 0 → ∀ (w40 : World),
    RowKit.Below w.heap.size w w40 → Kept [m32, m7, m29, m28, m26, m25, m3, m2, m1] w34 w40 → Calls Try.prog 28 #[Value.agg #[Value.slice p0w0a p0w0n p0w0c, Value.slice p0w1a p0w1n
    p0w1c], Value.agg #[Value.int IntKind.i64 x0, Value.slice x1a x1n x1c]] w40 fun (e14 : Ending) (w41 : World) => ∃ (t10 : Bool), e14 = Ending.returned (Value.bool t10) ∧ KeepX
    true w.heap.size [m32, m7, m29, m28, m26, m25, m3, m2, m1] (fun _ => False) w40 w41 ∧ ((t4 == t10) = true → ∀ (w42 : World), RowKit.Below w.heap.size w w42 → Kept [m32, m7,
    m29, m28, m26, m25, m3, m2, m1] w41 w42 → Calls Try.prog 14 #[] w42 fun (e15 : Ending) (w43 : World) => ∃ (t11 : Bool), e15 = Ending.returned (Value.bool t11) ∧ KeepX true
    w.heap.size [m32, m7, m29, m28, m26, m25, m3, m2, m1] (fun _ => False) w42 w43 ∧ ∀ (w44 : World), RowKit.Below w.heap.size w w44 → Kept [m32, m7, m29, m28, m26, m25, m3, m2,
    m1] w43 w44 → R (Ending.returned (Value.bool t11)) w44) ∧ ((t4 == t10) = false → ∀ (w45 : World), RowKit.Below w.heap.size w w45 → Kept [m32, m7, m29, m28, m26, m25, m3, m2,
    m1] w41 w45 → R (Ending.returned (Value.bool false)) w45)) ∧ (x2 ≠ 0 → ∀ (w46 : World), RowKit.Below w.heap.size w w46 → Kept [m32, m7, m29, m28, m26, m25, m3, m2, m1] w34 w46
    → R (Ending.returned (Value.bool false)) w46))) ∧ (t8 = false → ((2 : Int) ≠ 0 → (x2 = 2 → ((!t4) = true → ∀ (w47 : World), RowKit.Below w.heap.size w w47 → Kept [m32, m7, m29,
    m28, m26, m25, m3, m2, m1] w32 w47 → Calls Try.prog 14 #[] w47 fun (e16 : Ending) (w48 : World) => ∃ (t12 : Bool), e16 = Ending.returned (Value.bool t12) ∧ KeepX true
    w.heap.size [m32, m7, m29, m28, m26, m25, m3, m2, m1] (fun _ => False) w47 w48 ∧ ∀ (w49 : World), RowKit.Below w.heap.size w w49 → Kept [m32, m7, m29, m28, m26, m25, m3, m2,
    m1] w48 w49 → R (Ending.returned (Value.bool t12)) w49) ∧ ((!t4) = false → ∀ (w50 : World), RowKit.Below w.heap.size w w50 → Kept [m32, m7, m29, m28, m26, m25, m3, m2, m1] w32
    w50 → R (Ending.returned (Value.bool false)) w50)) ∧ (x2 ≠ 2 → ∀ (w51 : World), RowKit.Below w.heap.size w w51 → Kept [m32, m7, m29, m28, m26, m25, m3, m2, m1] w32 w51 → R
    (Ending.returned (Value.bool false)) w51)) ∧ ((2 : Int) = 0 → (x2 = 0 → ∀ (w52 : World), RowKit.Below w.heap.size w w52 → Kept [m32, m7, m29, m28, m26, m25, m3, m2, m1] w32 w52
    → Calls Try.prog 28 #[Value.agg #[Value.slice p0w0a p0w0n p0w0c, Value.slice p0w1a p0w1n p0w1c], Value.agg #[Value.int IntKind.i64 x0, Value.slice x1a x1n x1c]] w52 fun (e17 :
    Ending) (w53 : World) => ∃ (t13 : Bool), e17 = Ending.returned (Value.bool t13) ∧ KeepX true w.heap.size [m32, m7, m29, m28, m26, m25, m3, m2, m1] (fun _ => False) w52 w53 ∧
    ((t4 == t13) = true → ∀ (w54 : World), RowKit.Below w.heap.size w w54 → Kept [m32, m7, m29, m28, m26, m25, m3, m2, m1] w53 w54 → Calls Try.prog 14 #[] w54 fun (e18 : Ending)
    (w55 : World) => ∃ (t14 : Bool), e18 = Ending.returned (Value.bool t14) ∧ KeepX true w.heap.size [m32, m7, m29, m28, m26, m25, m3, m2, m1] (fun _ => False) w54 w55 ∧ ∀ (w56 :
    World), RowKit.Below w.heap.size w w56 → Kept [m32, m7, m29, m28, m26, m25, m3, m2, m1] w55 w56 → R (Ending.returned (Value.bool t14)) w56) ∧ ((t4 == t13) = false → ∀ (w57 :
    World), RowKit.Below w.heap.size w w57 → Kept [m32, m7, m29, m28, m26, m25, m3, m2, m1] w53 w57 → R (Ending.returned (Value.bool false)) w57)) ∧ (x2 ≠ 0 → ∀ (w58 : World),
    RowKit.Below w.heap.size w w58 → Kept [m32, m7, m29, m28, m26, m25, m3, m2, m1] w32 w58 → R (Ending.returned (Value.bool false)) w58)))))))))) : Calls Try.prog 4 #[Value.agg
    #[Value.slice p0w0a p0w0n p0w0c, Value.slice p0w1a p0w1n p0w1c], Value.agg #[Value.int IntKind.i64 x0, Value.slice x1a x1n x1c], Value.agg #[Value.int IntKind.i64 r0, Value.int
    IntKind.i64 r1, Value.int IntKind.i64 r2, Value.int IntKind.i64 r3]] w R := calls_of_vc (pure := true) (wrapAt := []) (muts := []) (esc := []) (args := [SV.pv (PV.agg [Lf.sl
    p0w0a p0w0n p0w0c, Lf.sl p0w1a p0w1n p0w1c]), SV.pv (PV.agg [Lf.int IntKind.i64 x0, Lf.sl x1a x1n x1c]), SV.pv (PV.agg [Lf.int IntKind.i64 r0, Lf.int IntKind.i64 r1, Lf.int
    IntKind.i64 r2, Lf.int IntKind.i64 r3])]) (vs := [Value.agg #[Value.slice p0w0a p0w0n p0w0c, Value.slice p0w1a p0w1n p0w1c], Value.agg #[Value.int IntKind.i64 x0, Value.slice
    x1a x1n x1c], Value.agg #[Value.int IntKind.i64 r0, Value.int IntKind.i64 r1, Value.int IntKind.i64 r2, Value.int IntKind.i64 r3]]) Try.func4 rfl rfl rfl (Eq.mp (by kernel_rfl)
    h) 
end Go.Proofs
end
section
/- The law PartSpares, walked. -/
namespace Go.Proofs.R12
open Go.Vc Go.RowKit Go.Proofs
end Go.Proofs.R12
end
section
/- The laws' arguments, opened. -/
namespace Go.Proofs.R12
open Go.Vc Go.RowKit Go.Proofs

theorem Try.own : ownKnob Try.prog.godebug = none := by kernel_rfl
theorem Try.laidOut : laidOutB Try.prog = true := by kernel_rfl
abbrev Li : Leaf := .int .i64
def In64 (x : Int) : Prop := rng .i64 x
section
variable {w : World}
theorem take_int {ls : List Leaf} {cs : List Value} (h : LeavesAre w (Li :: ls) cs) : ∃ x r, cs = I x :: r ∧ In64 x ∧ LeavesAre w ls r := by
  obtain ⟨v, r, rfl, h1, h2⟩ := h.cons'
  obtain ⟨x, rfl, hx⟩ := h1.int'
  exact ⟨x, r, rfl, hx, h2⟩
theorem ints_flat (l : List Int) : (l.flatMap fun x => [I x]) = ints l := by
  induction l with
  | nil => rfl
  | cons b l ih => rw [List.flatMap_cons, ih]; rfl
theorem take_ints {v : Value} (h : LeafIs w (.sl [Li]) v) : ∃ a c, ∃ l : List Int, v = .slice a l.length c ∧ l.length ≤ maxLen ∧ Cells w a (ints l) := by
  obtain ⟨a, c, l, rfl, h1, h2, h3, _⟩ := h.sl' (fun b : Int => [I b]) (fun _ => True) fun x hx => by
    obtain ⟨x0, r, rfl, g0, hx⟩ := take_int hx
    rw [hx.nil']
    exact ⟨x0, rfl, trivial⟩
  refine ⟨a, c, l, rfl, Nat.le_trans h1 h2, ?_⟩
  rw [← ints_flat]
  exact h3
end
section
variable {w : World} {H : Type} {enc : TypeId × Value → H} {base b0 : Nat} {held : Bool} {spare : Nat → Bool} {reach : Reach}
end
end Go.Proofs.R12
end
section
/- The laws PartLooses and PartGauges, walked. -/
namespace Go.Proofs.R12
open Go.Vc Go.RowKit Go.Proofs
theorem LiesS.out {lo hi : Nat} {w w' : World} {a : Option Addr} {ps : List (List Sp)} {S : List Nat} (h : LiesS lo hi w a ps) (hc : Chg S w w') (hs : ∀ x ∈ S, x < lo ∨ hi ≤ x) : LiesS lo hi w' a ps := fun i p hi => by
  obtain ⟨b, o, a', c, e, hb, h1, h2⟩ := h i p hi
  exact ⟨b, o, a', c, e, hb, hc.cell (fun hm => by have := hs b hm; omega) h1, h2.out hc hs⟩
theorem LiesS.ko {lo hi : Nat} {w w' : World} {a : Option Addr} {ps : List (List Sp)} {bs : List Nat} (h : LiesS lo hi w a ps) (hk : Kept bs w w') (hs : ∀ x ∈ bs, x < lo ∨ hi ≤ x) : LiesS lo hi w' a ps := h.out (Chg.kept hk) hs
theorem LiesS.below {lo hi : Nat} {w w' : World} {a : Option Addr} {ps : List (List Sp)} (h : LiesS lo hi w a ps) (hb : Below w.heap.size w w') : LiesS lo hi w' a ps := h.out (S := []) (Chg.of_below hb) (by simp)
theorem LiesP.out {lo hi : Nat} {w w' : World} {a : Option Addr} {ps : List Piece} {S : List Nat} (h : LiesP lo hi w a ps) (hc : Chg S w w') (hs : ∀ x ∈ S, x < lo ∨ hi ≤ x) : LiesP lo hi w' a ps := fun i p hi => by
  obtain ⟨b, o, a', c, e, hb, h0, h1, h2⟩ := h i p hi
  exact ⟨b, o, a', c, e, hb, hc.cell (fun hm => by have := hs b hm; omega) h0, hc.cell (fun hm => by have := hs b hm; omega) h1, h2.out hc hs⟩
theorem LiesP.ko {lo hi : Nat} {w w' : World} {a : Option Addr} {ps : List Piece} {bs : List Nat} (h : LiesP lo hi w a ps) (hk : Kept bs w w') (hs : ∀ x ∈ bs, x < lo ∨ hi ≤ x) : LiesP lo hi w' a ps := h.out (Chg.kept hk) hs
theorem LiesP.below {lo hi : Nat} {w w' : World} {a : Option Addr} {ps : List Piece} (h : LiesP lo hi w a ps) (hb : Below w.heap.size w w') : LiesP lo hi w' a ps := h.out (S := []) (Chg.of_below hb) (by simp)
theorem kio_cell {lo hi b o : Nat} {w w' : World} {rs : List (Nat × Nat)} {bs : List Nat} {v : Value} (hk : KeptIn rs bs w w') (hs : ∀ x ∈ bs, x < lo ∨ hi ≤ x) (hin : ∃ r ∈ rs, r.1 ≤ lo ∧ hi ≤ r.2) (hb : lo ≤ b ∧ b < hi) (hc : w.cell? ⟨b, o, none⟩ = some v) : w'.cell? ⟨b, o, none⟩ = some v := by
  obtain ⟨r, hr1, hr2, hr3⟩ := hin
  have := hk.block b (cell_lt hc) (fun hm => by have := hs b hm; omega) ⟨r, hr1, by omega, by omega⟩
  unfold World.cell? at hc ⊢
  simp only [this]; exact hc
theorem LiesS.kio {lo hi : Nat} {w w' : World} {a : Option Addr} {ps : List (List Sp)} {rs : List (Nat × Nat)} {bs : List Nat} (h : LiesS lo hi w a ps) (hk : KeptIn rs bs w w') (hs : ∀ x ∈ bs, x < lo ∨ hi ≤ x) (hin : ∃ r ∈ rs, r.1 ≤ lo ∧ hi ≤ r.2) : LiesS lo hi w' a ps := fun i p hi => by
  obtain ⟨b, o, a', c, e, hb, h1, h2⟩ := h i p hi
  exact ⟨b, o, a', c, e, hb, kio_cell hk hs hin hb h1, h2.kio hk hs hin⟩
theorem LiesP.kio {lo hi : Nat} {w w' : World} {a : Option Addr} {ps : List Piece} {rs : List (Nat × Nat)} {bs : List Nat} (h : LiesP lo hi w a ps) (hk : KeptIn rs bs w w') (hs : ∀ x ∈ bs, x < lo ∨ hi ≤ x) (hin : ∃ r ∈ rs, r.1 ≤ lo ∧ hi ≤ r.2) : LiesP lo hi w' a ps := fun i p hi => by
  obtain ⟨b, o, a', c, e, hb, h0, h1, h2⟩ := h i p hi
  exact ⟨b, o, a', c, e, hb, kio_cell hk hs hin hb h0, kio_cell hk hs hin hb h1, h2.kio hk hs hin⟩
theorem lim_small {W : Wk} (h : ¬¬ Lim W) : Small W := by
  have h := Decidable.not_not.1 h
  exact ⟨by have := h.1; omega, by have := h.2.1; omega, fun p hp => by have := h.2.2 p hp; omega⟩
theorem checkE_or (W : Wk) : (checkE W = 0 ∧ OkW W) ∨ (checkE W = 2 ∧ ¬ OkW W) := by
  unfold checkE; by_cases h : OkW W
  · rw [if_pos h]; exact .inl ⟨rfl, h⟩
  · rw [if_neg h]; exact .inr ⟨rfl, h⟩
theorem good_cases (W : Wk) (x : Piece) : (¬ OkW W ∧ GoodM W x = (false, 2)) ∨ (OkW W ∧ GoodM W x = (false, pieceErr W x) ∧ pieceErr W x ≠ 0) ∨ (OkW W ∧ GoodM W x = (decide (goodM W x), 0) ∧ pieceErr W x = 0) := by
  unfold GoodM
  rcases checkE_or W with ⟨q0, q1⟩ | ⟨q0, q1⟩
  · rw [if_neg (by omega)]
    by_cases hp : pieceErr W x = 0
    · rw [if_neg (by omega)]; exact .inr (.inr ⟨q1, rfl, hp⟩)
    · rw [if_pos hp]; exact .inr (.inl ⟨q1, rfl, hp⟩)
  · rw [if_pos (by omega)]; exact .inl ⟨q1, rfl⟩
theorem CellsP.one {w : World} {m c : Nat} {x : Piece} {a : Option Addr} (h : w.heap[m]? = some (.cells #[I x.pat, .slice a x.sizes.length c] 40 (0, 0))) (hc : Cells w a (ints x.sizes)) : CellsP w (some ⟨m, 0, none⟩) [x] := fun i p hi => by
  match i, hi with
  | 0, hi =>
    obtain rfl := Option.some.inj hi
    exact ⟨m, 0, a, c, rfl, cell_obj (vs := [I x.pat, .slice a x.sizes.length c]) h rfl, cell_obj (vs := [I x.pat, .slice a x.sizes.length c]) h rfl, hc⟩
  | j + 1, hi => simp at hi
theorem load_piece1L {lo hi : Nat} {w : World} {a : Option Addr} {x : Piece} {X : Nat → Nat → Int → Option Addr → Nat → Nat → Prop} (h : LiesP lo hi w a [x]) (_ : True) (k : ∀ m o, lo ≤ m ∧ m < hi → ∀ a1 c1, Lies [] lo hi w a1 (ints x.sizes) → X m o x.pat a1 x.sizes.length c1) :
    ∃ m o, a = some ⟨m, o, none⟩ ∧ ((0 : Int) ≤ 0 ∧ 0 < (([x].length : Nat) : Int)) ∧ ∃ x0 a1 n1 c1, w.cell? ⟨m, o + Int.toNat 0 * 2, none⟩ = some (I x0) ∧ w.cell? ⟨m, o + Int.toNat 0 * 2 + 1, none⟩ = some (.slice a1 n1 c1) ∧ X m o x0 a1 n1 c1 := by
  obtain ⟨b, o, a', c, e, q, d0, d1, D⟩ := h 0 x rfl
  exact ⟨b, o, e, ⟨by omega, by simp⟩, _, _, _, _, cell_at' d0 (by simp), cell_at' d1 (by simp), k b o q a' c D⟩
set_option maxRecDepth 100000 in
set_option maxHeartbeats 4000000 in
theorem law4 {w : World} {W : Wk} {pa fa : Option Addr} {pc fc : Nat} (hp : CellsS w pa W.pats) (hf : Cells w fa (fitsV W.fits)) {x : Piece} {xa : Option Addr} {xc : Nat} (hx : Cells w xa (ints x.sizes)) (p q r s : Int) : Calls Try.prog 4 #[W.v pa pc fa fc, .agg #[I x.pat, .slice xa x.sizes.length xc], .agg #[I p, I q, I r, I s]] w (Pure w (.bool true)) := by
  refine vc4 _ _ _ _ _ _ _ _ _ _ _ _ _ _ w _ ?_
  intro m1 g_m1 m2 g_m2 m3 g_m3 w1 hb1 hk1
  have y1 := hb1.size
  have z1 := hk1.size; have o1 := hk1.own
  simp only [List.mem_cons, List.not_mem_nil, or_false, forall_eq_or_imp, forall_eq] at o1
  refine Pure.calls (large_any (hp.keep hb1) (hf.keep hb1)) fun w2 hd2 => ?_
  have hb2 := hb1.trans (hd2.mono hb1.size)
  refine ⟨_, rfl, .all hd2, ?_, ?_⟩
  · intro h1 w3 hb3 hk3
    try simp only [decide_eq_true_eq] at h1
    have y3 := hb3.size
    have z3 := hk3.size; have o3 := hk3.own
    simp only [List.mem_cons, List.not_mem_nil, or_false, forall_eq_or_imp, forall_eq] at o3
    refine Pure.calls (known_any) fun w4 hd4 => ?_
    have hb4 := hb3.trans (hd4.mono hb3.size)
    refine ⟨_, rfl, .all hd4, ?_⟩
    intro w5 hb5 hk5
    have y5 := hb5.size
    have z5 := hk5.size; have o5 := hk5.own
    simp only [List.mem_cons, List.not_mem_nil, or_false, forall_eq_or_imp, forall_eq] at o5
    exact ⟨by first | rfl | exact absurd rfl (by assumption) | (exfalso; rcases good_cases W x with ⟨q0, q1⟩ | ⟨q0, q1, q2⟩ | ⟨q0, q1, q2⟩ <;> simp [q0, q1] at h1 <;> (first | omega | (simp [q2] at h1; done) | (simp [q2] at h1; omega))), hb5⟩
  · intro h2
    try simp only [decide_eq_false_iff_not] at h2
    refine ⟨?_, ?_⟩
    · intro h3 w6 hb6 hk6
      try simp only [Bool.not_eq_true', Bool.not_eq_false', decide_eq_true_eq, decide_eq_false_iff_not] at h3
      have y6 := hb6.size
      have z6 := hk6.size; have o6 := hk6.own
      simp only [List.mem_cons, List.not_mem_nil, or_false, forall_eq_or_imp, forall_eq] at o6
      refine Pure.calls (known_any) fun w7 hd7 => ?_
      have hb7 := hb6.trans (hd7.mono hb6.size)
      refine ⟨_, rfl, .all hd7, ?_⟩
      intro w8 hb8 hk8
      have y8 := hb8.size
      have z8 := hk8.size; have o8 := hk8.own
      simp only [List.mem_cons, List.not_mem_nil, or_false, forall_eq_or_imp, forall_eq] at o8
      exact ⟨by first | rfl | exact absurd rfl (by assumption) | (exfalso; rcases good_cases W x with ⟨q0, q1⟩ | ⟨q0, q1, q2⟩ | ⟨q0, q1, q2⟩ <;> simp [q0, q1] at h2 h3 <;> (first | omega | (simp [q2] at h2 h3; done) | (simp [q2] at h2 h3; omega))), hb8⟩
    · intro h4 m7 g_m7 w9 hb9 hk9 hc9_m7
      try simp only [Bool.not_eq_true', Bool.not_eq_false', decide_eq_true_eq, decide_eq_false_iff_not] at h4
      have y9 := hb9.size
      have z9 := hk9.size; have o9 := hk9.own
      simp only [List.mem_cons, List.not_mem_nil, or_false, forall_eq_or_imp, forall_eq] at o9
      refine (pieces_l (CellsP.one hc9_m7 (hx.keep hb9)) (by simp) (fun y hy => by obtain rfl := List.mem_singleton.1 hy; omega)).mono fun e10 w10 he => ?_
      obtain ⟨a10, c10, rfl, hd10, X10_10⟩ := he
      have hb10 := hb9.trans (hd10.mono hb9.size)
      have z10 := hd10.size
      refine ⟨_, _, _, rfl, .all hd10, ?_⟩
      intro w11 hb11 hk11
      have y11 := hb11.size
      have z11 := hk11.size; have o11 := hk11.own
      simp only [List.mem_cons, List.not_mem_nil, or_false, forall_eq_or_imp, forall_eq] at o11
      have X10_11 := X10_10.kio hk11 (allc (.inl (by omega)) (allc (.inl (by omega)) (allc (.inl (by omega)) (allc (.inl (by omega)) all0)))) ⟨(0, w10.heap.size), by simp, by simp only; omega, by simp only; omega⟩
      refine (works_l (hp.keep hb11) (hf.keep hb11) (lim_small (by assumption))).mono fun e12 w12 he => ?_
      obtain ⟨paN12, pcN12, faN12, fcN12, rfl, hd12, P12_12, F12_12⟩ := he
      have hb12 := hb11.trans (hd12.mono hb11.size)
      have z12 := hd12.size
      have X10_12 := X10_11.below hd12
      refine ⟨_, _, _, _, _, _, rfl, hd12, ?_⟩
      refine load_piece1L X10_10 (by trivial) fun m16 m17 hm1 a4 m19 hs1 => ?_
      have hs1_10 := hs1
      have hs1_11 := hs1_10.out hk11.chg (allc (.inl (by omega)) (allc (.inl (by omega)) (allc (.inl (by omega)) (allc (.inl (by omega)) all0))))
      have hs1_12 := hs1_11.below hd12
      refine ⟨(by first | omega | (simp only; omega)), ?_⟩
      intro w13 hb13 hk13
      have y13 := hb13.size
      have z13 := hk13.size; have o13 := hk13.own
      simp only [List.mem_cons, List.not_mem_nil, or_false, forall_eq_or_imp, forall_eq] at o13
      have X10_13 := X10_12.kio hk13 (allc (.inl (by omega)) (allc (.inl (by omega)) (allc (.inl (by omega)) (allc (.inl (by omega)) all0)))) ⟨(0, w10.heap.size), by simp, by simp only; omega, by simp only; omega⟩
      have P12_13 := P12_12.kio hk13 (allc (.inl (by omega)) (allc (.inl (by omega)) (allc (.inl (by omega)) (allc (.inl (by omega)) all0)))) ⟨(w11.heap.size, w12.heap.size), by simp, by simp only; omega, by simp only; omega⟩
      have F12_13 := F12_12.kio hk13 (allc (.inl (by omega)) (allc (.inl (by omega)) (allc (.inl (by omega)) (allc (.inl (by omega)) all0)))) ⟨(w11.heap.size, w12.heap.size), by simp, by simp only; omega, by simp only; omega⟩
      have hs1_13 := hs1_12.kio hk13 (allc (.inl (by omega)) (allc (.inl (by omega)) (allc (.inl (by omega)) (allc (.inl (by omega)) all0)))) ⟨(0, w10.heap.size), by simp, by simp only; omega, by simp only; omega⟩
      refine Pure.calls (Good_any x hs1_13.cells (by omega) P12_13.cells F12_13.cells (lim_small (by assumption))) fun w14 hd14 => ?_
      have hb14 := hb13.trans (hd14.mono hb13.size)
      have z14 := hd14.size
      have X10_14 := X10_13.below hd14
      have P12_14 := P12_13.below hd14
      have F12_14 := F12_13.below hd14
      have hs1_14 := hs1_13.below hd14
      refine ⟨_, _, rfl, .all hd14, ?_⟩
      intro w15 hb15 hk15
      have y15 := hb15.size
      have z15 := hk15.size; have o15 := hk15.own
      simp only [List.mem_cons, List.not_mem_nil, or_false, forall_eq_or_imp, forall_eq] at o15
      have X10_15 := X10_14.kio hk15 (allc (.inl (by omega)) (allc (.inl (by omega)) (allc (.inl (by omega)) (allc (.inl (by omega)) all0)))) ⟨(0, w14.heap.size), by simp, by simp only; omega, by simp only; omega⟩
      have P12_15 := P12_14.kio hk15 (allc (.inl (by omega)) (allc (.inl (by omega)) (allc (.inl (by omega)) (allc (.inl (by omega)) all0)))) ⟨(0, w14.heap.size), by simp, by simp only; omega, by simp only; omega⟩
      have F12_15 := F12_14.kio hk15 (allc (.inl (by omega)) (allc (.inl (by omega)) (allc (.inl (by omega)) (allc (.inl (by omega)) all0)))) ⟨(0, w14.heap.size), by simp, by simp only; omega, by simp only; omega⟩
      have hs1_15 := hs1_14.kio hk15 (allc (.inl (by omega)) (allc (.inl (by omega)) (allc (.inl (by omega)) (allc (.inl (by omega)) all0)))) ⟨(0, w14.heap.size), by simp, by simp only; omega, by simp only; omega⟩
      refine (works_l (hp.keep hb15) (hf.keep hb15) (lim_small (by assumption))).mono fun e16 w16 he => ?_
      obtain ⟨paN16, pcN16, faN16, fcN16, rfl, hd16, P16_16, F16_16⟩ := he
      have hb16 := hb15.trans (hd16.mono hb15.size)
      have z16 := hd16.size
      have X10_16 := X10_15.below hd16
      have P12_16 := P12_15.below hd16
      have F12_16 := F12_15.below hd16
      have hs1_16 := hs1_15.below hd16
      refine ⟨_, _, _, _, _, _, rfl, hd16, ?_⟩
      intro w17 hb17 hk17
      have y17 := hb17.size
      have z17 := hk17.size; have o17 := hk17.own
      simp only [List.mem_cons, List.not_mem_nil, or_false, forall_eq_or_imp, forall_eq] at o17
      have X10_17 := X10_16.kio hk17 (allc (.inl (by omega)) (allc (.inl (by omega)) (allc (.inl (by omega)) (allc (.inl (by omega)) all0)))) ⟨(0, w14.heap.size), by simp, by simp only; omega, by simp only; omega⟩
      have P12_17 := P12_16.kio hk17 (allc (.inl (by omega)) (allc (.inl (by omega)) (allc (.inl (by omega)) (allc (.inl (by omega)) all0)))) ⟨(0, w14.heap.size), by simp, by simp only; omega, by simp only; omega⟩
      have F12_17 := F12_16.kio hk17 (allc (.inl (by omega)) (allc (.inl (by omega)) (allc (.inl (by omega)) (allc (.inl (by omega)) all0)))) ⟨(0, w14.heap.size), by simp, by simp only; omega, by simp only; omega⟩
      have hs1_17 := hs1_16.kio hk17 (allc (.inl (by omega)) (allc (.inl (by omega)) (allc (.inl (by omega)) (allc (.inl (by omega)) all0)))) ⟨(0, w14.heap.size), by simp, by simp only; omega, by simp only; omega⟩
      have P16_17 := P16_16.kio hk17 (allc (.inl (by omega)) (allc (.inl (by omega)) (allc (.inl (by omega)) (allc (.inl (by omega)) all0)))) ⟨(w15.heap.size, w16.heap.size), by simp, by simp only; omega, by simp only; omega⟩
      have F16_17 := F16_16.kio hk17 (allc (.inl (by omega)) (allc (.inl (by omega)) (allc (.inl (by omega)) (allc (.inl (by omega)) all0)))) ⟨(w15.heap.size, w16.heap.size), by simp, by simp only; omega, by simp only; omega⟩
      refine Pure.calls (gauge_any p q (r, s) P16_17.cells F16_17.cells (lim_small (by assumption))) fun w18 hd18 => ?_
      have hb18 := hb17.trans (hd18.mono hb17.size)
      have z18 := hd18.size
      have X10_18 := X10_17.below hd18
      have P12_18 := P12_17.below hd18
      have F12_18 := F12_17.below hd18
      have hs1_18 := hs1_17.below hd18
      have P16_18 := P16_17.below hd18
      have F16_18 := F16_17.below hd18
      refine ⟨_, _, _, _, _, rfl, hd18, ?_⟩
      intro m25 g_m25 d0_m25 d1_m25 m26 g_m26 d0_m26 d1_m26 w19 hb19 hk19
      have y19 := hb19.size
      have z19 := hk19.size; have o19 := hk19.own
      simp only [List.mem_cons, List.not_mem_nil, or_false, forall_eq_or_imp, forall_eq] at o19
      have X10_19 := X10_18.ko hk19 (allc (.inl (by omega)) (allc (.inr (by omega)) (allc (.inr (by omega)) (allc (.inl (by omega)) (allc (.inl (by omega)) (allc (.inl (by omega)) all0))))))
      have P12_19 := P12_18.ko hk19 (allc (.inl (by omega)) (allc (.inr (by omega)) (allc (.inr (by omega)) (allc (.inl (by omega)) (allc (.inl (by omega)) (allc (.inl (by omega)) all0))))))
      have F12_19 := F12_18.ko hk19 (allc (.inl (by omega)) (allc (.inr (by omega)) (allc (.inr (by omega)) (allc (.inl (by omega)) (allc (.inl (by omega)) (allc (.inl (by omega)) all0))))))
      have hs1_19 := hs1_18.ko hk19 (allc (.inl (by omega)) (allc (.inr (by omega)) (allc (.inr (by omega)) (allc (.inl (by omega)) (allc (.inl (by omega)) (allc (.inl (by omega)) all0))))))
      have P16_19 := P16_18.ko hk19 (allc (.inl (by omega)) (allc d1_m26 (allc d1_m25 (allc (.inl (by omega)) (allc (.inl (by omega)) (allc (.inl (by omega)) all0))))))
      have F16_19 := F16_18.ko hk19 (allc (.inl (by omega)) (allc d1_m26 (allc d1_m25 (allc (.inl (by omega)) (allc (.inl (by omega)) (allc (.inl (by omega)) all0))))))
      refine Pure.calls (rGauge_any p q (r, s) (hp.keep hb19) (hf.keep hb19) (lim_small (by assumption))) fun w20 hd20 => ?_
      have hb20 := hb19.trans (hd20.mono hb19.size)
      have z20 := hd20.size
      have X10_20 := X10_19.below hd20
      have P12_20 := P12_19.below hd20
      have F12_20 := F12_19.below hd20
      have hs1_20 := hs1_19.below hd20
      have P16_20 := P16_19.below hd20
      have F16_20 := F16_19.below hd20
      refine ⟨_, _, _, _, _, rfl, .all hd20, ?_⟩
      intro m28 g_m28 m29 g_m29 w21 hb21 hk21
      have y21 := hb21.size
      have z21 := hk21.size; have o21 := hk21.own
      simp only [List.mem_cons, List.not_mem_nil, or_false, forall_eq_or_imp, forall_eq] at o21
      have X10_21 := X10_20.ko hk21 (allc (.inl (by omega)) (allc (.inr (by omega)) (allc (.inr (by omega)) (allc (.inr (by omega)) (allc (.inr (by omega)) (allc (.inl (by omega)) (allc (.inl (by omega)) (allc (.inl (by omega)) all0))))))))
      have P12_21 := P12_20.ko hk21 (allc (.inl (by omega)) (allc (.inr (by omega)) (allc (.inr (by omega)) (allc (.inr (by omega)) (allc (.inr (by omega)) (allc (.inl (by omega)) (allc (.inl (by omega)) (allc (.inl (by omega)) all0))))))))
      have F12_21 := F12_20.ko hk21 (allc (.inl (by omega)) (allc (.inr (by omega)) (allc (.inr (by omega)) (allc (.inr (by omega)) (allc (.inr (by omega)) (allc (.inl (by omega)) (allc (.inl (by omega)) (allc (.inl (by omega)) all0))))))))
      have hs1_21 := hs1_20.ko hk21 (allc (.inl (by omega)) (allc (.inr (by omega)) (allc (.inr (by omega)) (allc (.inr (by omega)) (allc (.inr (by omega)) (allc (.inl (by omega)) (allc (.inl (by omega)) (allc (.inl (by omega)) all0))))))))
      have P16_21 := P16_20.ko hk21 (allc (.inl (by omega)) (allc (.inr (by omega)) (allc (.inr (by omega)) (allc d1_m26 (allc d1_m25 (allc (.inl (by omega)) (allc (.inl (by omega)) (allc (.inl (by omega)) all0))))))))
      have F16_21 := F16_20.ko hk21 (allc (.inl (by omega)) (allc (.inr (by omega)) (allc (.inr (by omega)) (allc d1_m26 (allc d1_m25 (allc (.inl (by omega)) (allc (.inl (by omega)) (allc (.inl (by omega)) all0))))))))
      refine neqr_span ?_
      refine ⟨_, rfl, .all (.refl _ _), ?_, ?_⟩
      · intro h5 w23 hb23 hk23
        try simp only [Bool.not_eq_true', Bool.not_eq_false', decide_eq_true_eq, decide_eq_false_iff_not] at h5
        have y23 := hb23.size
        have z23 := hk23.size; have o23 := hk23.own
        simp only [List.mem_cons, List.not_mem_nil, or_false, forall_eq_or_imp, forall_eq] at o23
        have X10_23 := X10_21.ko hk23 (allc (.inl (by omega)) (allc (.inr (by omega)) (allc (.inr (by omega)) (allc (.inr (by omega)) (allc (.inr (by omega)) (allc (.inl (by omega)) (allc (.inl (by omega)) (allc (.inl (by omega)) all0))))))))
        have P12_23 := P12_21.ko hk23 (allc (.inl (by omega)) (allc (.inr (by omega)) (allc (.inr (by omega)) (allc (.inr (by omega)) (allc (.inr (by omega)) (allc (.inl (by omega)) (allc (.inl (by omega)) (allc (.inl (by omega)) all0))))))))
        have F12_23 := F12_21.ko hk23 (allc (.inl (by omega)) (allc (.inr (by omega)) (allc (.inr (by omega)) (allc (.inr (by omega)) (allc (.inr (by omega)) (allc (.inl (by omega)) (allc (.inl (by omega)) (allc (.inl (by omega)) all0))))))))
        have hs1_23 := hs1_21.ko hk23 (allc (.inl (by omega)) (allc (.inr (by omega)) (allc (.inr (by omega)) (allc (.inr (by omega)) (allc (.inr (by omega)) (allc (.inl (by omega)) (allc (.inl (by omega)) (allc (.inl (by omega)) all0))))))))
        have P16_23 := P16_21.ko hk23 (allc (.inl (by omega)) (allc (.inr (by omega)) (allc (.inr (by omega)) (allc d1_m26 (allc d1_m25 (allc (.inl (by omega)) (allc (.inl (by omega)) (allc (.inl (by omega)) all0))))))))
        have F16_23 := F16_21.ko hk23 (allc (.inl (by omega)) (allc (.inr (by omega)) (allc (.inr (by omega)) (allc d1_m26 (allc d1_m25 (allc (.inl (by omega)) (allc (.inl (by omega)) (allc (.inl (by omega)) all0))))))))
        exact ⟨by first | rfl | exact absurd rfl (by assumption) | (exfalso; rcases good_cases W x with ⟨q0, q1⟩ | ⟨q0, q1, q2⟩ | ⟨q0, q1, q2⟩ <;> simp [] at h2 h4 h5 <;> (first | omega | (simp [q2] at h2 h4 h5; done) | (simp [q2] at h2 h4 h5; omega))), hb23⟩
      · intro h6 w24 hb24 hk24
        try simp only [] at h6
        have y24 := hb24.size
        have z24 := hk24.size; have o24 := hk24.own
        simp only [List.mem_cons, List.not_mem_nil, or_false, forall_eq_or_imp, forall_eq] at o24
        have X10_24 := X10_21.ko hk24 (allc (.inl (by omega)) (allc (.inr (by omega)) (allc (.inr (by omega)) (allc (.inr (by omega)) (allc (.inr (by omega)) (allc (.inl (by omega)) (allc (.inl (by omega)) (allc (.inl (by omega)) all0))))))))
        have P12_24 := P12_21.ko hk24 (allc (.inl (by omega)) (allc (.inr (by omega)) (allc (.inr (by omega)) (allc (.inr (by omega)) (allc (.inr (by omega)) (allc (.inl (by omega)) (allc (.inl (by omega)) (allc (.inl (by omega)) all0))))))))
        have F12_24 := F12_21.ko hk24 (allc (.inl (by omega)) (allc (.inr (by omega)) (allc (.inr (by omega)) (allc (.inr (by omega)) (allc (.inr (by omega)) (allc (.inl (by omega)) (allc (.inl (by omega)) (allc (.inl (by omega)) all0))))))))
        have hs1_24 := hs1_21.ko hk24 (allc (.inl (by omega)) (allc (.inr (by omega)) (allc (.inr (by omega)) (allc (.inr (by omega)) (allc (.inr (by omega)) (allc (.inl (by omega)) (allc (.inl (by omega)) (allc (.inl (by omega)) all0))))))))
        have P16_24 := P16_21.ko hk24 (allc (.inl (by omega)) (allc (.inr (by omega)) (allc (.inr (by omega)) (allc d1_m26 (allc d1_m25 (allc (.inl (by omega)) (allc (.inl (by omega)) (allc (.inl (by omega)) all0))))))))
        have F16_24 := F16_21.ko hk24 (allc (.inl (by omega)) (allc (.inr (by omega)) (allc (.inr (by omega)) (allc d1_m26 (allc d1_m25 (allc (.inl (by omega)) (allc (.inl (by omega)) (allc (.inl (by omega)) all0))))))))
        refine neqr_span ?_
        refine ⟨_, rfl, .all (.refl _ _), ?_, ?_⟩
        · intro h7 w26 hb26 hk26
          try simp only [Bool.not_eq_true', Bool.not_eq_false', decide_eq_true_eq, decide_eq_false_iff_not] at h7
          have y26 := hb26.size
          have z26 := hk26.size; have o26 := hk26.own
          simp only [List.mem_cons, List.not_mem_nil, or_false, forall_eq_or_imp, forall_eq] at o26
          have X10_26 := X10_24.ko hk26 (allc (.inl (by omega)) (allc (.inr (by omega)) (allc (.inr (by omega)) (allc (.inr (by omega)) (allc (.inr (by omega)) (allc (.inl (by omega)) (allc (.inl (by omega)) (allc (.inl (by omega)) all0))))))))
          have P12_26 := P12_24.ko hk26 (allc (.inl (by omega)) (allc (.inr (by omega)) (allc (.inr (by omega)) (allc (.inr (by omega)) (allc (.inr (by omega)) (allc (.inl (by omega)) (allc (.inl (by omega)) (allc (.inl (by omega)) all0))))))))
          have F12_26 := F12_24.ko hk26 (allc (.inl (by omega)) (allc (.inr (by omega)) (allc (.inr (by omega)) (allc (.inr (by omega)) (allc (.inr (by omega)) (allc (.inl (by omega)) (allc (.inl (by omega)) (allc (.inl (by omega)) all0))))))))
          have hs1_26 := hs1_24.ko hk26 (allc (.inl (by omega)) (allc (.inr (by omega)) (allc (.inr (by omega)) (allc (.inr (by omega)) (allc (.inr (by omega)) (allc (.inl (by omega)) (allc (.inl (by omega)) (allc (.inl (by omega)) all0))))))))
          have P16_26 := P16_24.ko hk26 (allc (.inl (by omega)) (allc (.inr (by omega)) (allc (.inr (by omega)) (allc d1_m26 (allc d1_m25 (allc (.inl (by omega)) (allc (.inl (by omega)) (allc (.inl (by omega)) all0))))))))
          have F16_26 := F16_24.ko hk26 (allc (.inl (by omega)) (allc (.inr (by omega)) (allc (.inr (by omega)) (allc d1_m26 (allc d1_m25 (allc (.inl (by omega)) (allc (.inl (by omega)) (allc (.inl (by omega)) all0))))))))
          exact ⟨by first | rfl | exact absurd rfl (by assumption) | (exfalso; rcases good_cases W x with ⟨q0, q1⟩ | ⟨q0, q1, q2⟩ | ⟨q0, q1, q2⟩ <;> simp [] at h2 h4 h6 h7 <;> (first | omega | (simp [q2] at h2 h4 h6 h7; done) | (simp [q2] at h2 h4 h6 h7; omega))), hb26⟩
        · intro h8
          try simp only [] at h8
          refine ⟨?_, ?_⟩
          · intro h9 w27 hb27 hk27
            try simp only [Bool.not_eq_true', Bool.not_eq_false', decide_eq_true_eq, decide_eq_false_iff_not] at h9
            have y27 := hb27.size
            have z27 := hk27.size; have o27 := hk27.own
            simp only [List.mem_cons, List.not_mem_nil, or_false, forall_eq_or_imp, forall_eq] at o27
            have X10_27 := X10_24.ko hk27 (allc (.inl (by omega)) (allc (.inr (by omega)) (allc (.inr (by omega)) (allc (.inr (by omega)) (allc (.inr (by omega)) (allc (.inl (by omega)) (allc (.inl (by omega)) (allc (.inl (by omega)) all0))))))))
            have P12_27 := P12_24.ko hk27 (allc (.inl (by omega)) (allc (.inr (by omega)) (allc (.inr (by omega)) (allc (.inr (by omega)) (allc (.inr (by omega)) (allc (.inl (by omega)) (allc (.inl (by omega)) (allc (.inl (by omega)) all0))))))))
            have F12_27 := F12_24.ko hk27 (allc (.inl (by omega)) (allc (.inr (by omega)) (allc (.inr (by omega)) (allc (.inr (by omega)) (allc (.inr (by omega)) (allc (.inl (by omega)) (allc (.inl (by omega)) (allc (.inl (by omega)) all0))))))))
            have hs1_27 := hs1_24.ko hk27 (allc (.inl (by omega)) (allc (.inr (by omega)) (allc (.inr (by omega)) (allc (.inr (by omega)) (allc (.inr (by omega)) (allc (.inl (by omega)) (allc (.inl (by omega)) (allc (.inl (by omega)) all0))))))))
            have P16_27 := P16_24.ko hk27 (allc (.inl (by omega)) (allc (.inr (by omega)) (allc (.inr (by omega)) (allc d1_m26 (allc d1_m25 (allc (.inl (by omega)) (allc (.inl (by omega)) (allc (.inl (by omega)) all0))))))))
            have F16_27 := F16_24.ko hk27 (allc (.inl (by omega)) (allc (.inr (by omega)) (allc (.inr (by omega)) (allc d1_m26 (allc d1_m25 (allc (.inl (by omega)) (allc (.inl (by omega)) (allc (.inl (by omega)) all0))))))))
            exact ⟨by first | rfl | exact absurd rfl (by assumption) | (exfalso; rcases good_cases W x with ⟨q0, q1⟩ | ⟨q0, q1, q2⟩ | ⟨q0, q1, q2⟩ <;> simp [q0, q1] at h2 h4 h6 h8 h9 <;> (first | omega | (simp [q2] at h2 h4 h6 h8 h9; done) | (simp [q2] at h2 h4 h6 h8 h9; omega))), hb27⟩
          · intro h10 m32 g_m32 w28 hb28 hk28 hc28_m32
            try simp only [] at h10
            have y28 := hb28.size
            have z28 := hk28.size; have o28 := hk28.own
            simp only [List.mem_cons, List.not_mem_nil, or_false, forall_eq_or_imp, forall_eq] at o28
            have X10_28 := X10_24.ko hk28 (allc (.inr (by omega)) (allc (.inl (by omega)) (allc (.inr (by omega)) (allc (.inr (by omega)) (allc (.inr (by omega)) (allc (.inr (by omega)) (allc (.inl (by omega)) (allc (.inl (by omega)) (allc (.inl (by omega)) all0)))))))))
            have P12_28 := P12_24.ko hk28 (allc (.inr (by omega)) (allc (.inl (by omega)) (allc (.inr (by omega)) (allc (.inr (by omega)) (allc (.inr (by omega)) (allc (.inr (by omega)) (allc (.inl (by omega)) (allc (.inl (by omega)) (allc (.inl (by omega)) all0)))))))))
            have F12_28 := F12_24.ko hk28 (allc (.inr (by omega)) (allc (.inl (by omega)) (allc (.inr (by omega)) (allc (.inr (by omega)) (allc (.inr (by omega)) (allc (.inr (by omega)) (allc (.inl (by omega)) (allc (.inl (by omega)) (allc (.inl (by omega)) all0)))))))))
            have hs1_28 := hs1_24.ko hk28 (allc (.inr (by omega)) (allc (.inl (by omega)) (allc (.inr (by omega)) (allc (.inr (by omega)) (allc (.inr (by omega)) (allc (.inr (by omega)) (allc (.inl (by omega)) (allc (.inl (by omega)) (allc (.inl (by omega)) all0)))))))))
            have P16_28 := P16_24.ko hk28 (allc (.inr (by omega)) (allc (.inl (by omega)) (allc (.inr (by omega)) (allc (.inr (by omega)) (allc d1_m26 (allc d1_m25 (allc (.inl (by omega)) (allc (.inl (by omega)) (allc (.inl (by omega)) all0)))))))))
            have F16_28 := F16_24.ko hk28 (allc (.inr (by omega)) (allc (.inl (by omega)) (allc (.inr (by omega)) (allc (.inr (by omega)) (allc d1_m26 (allc d1_m25 (allc (.inl (by omega)) (allc (.inl (by omega)) (allc (.inl (by omega)) all0)))))))))
            refine Pure.calls (same_any X10_28.cells (CellsP.one hc28_m32 (hx.keep hb28)) (by simp) (fun y hy => by obtain rfl := List.mem_singleton.1 hy; omega)) fun w29 hd29 => ?_
            have hb29 := hb28.trans (hd29.mono hb28.size)
            have z29 := hd29.size
            have X10_29 := X10_28.below hd29
            have P12_29 := P12_28.below hd29
            have F12_29 := F12_28.below hd29
            have hs1_29 := hs1_28.below hd29
            have P16_29 := P16_28.below hd29
            have F16_29 := F16_28.below hd29
            refine ⟨_, rfl, .all hd29, ?_, ?_⟩
            · intro h11 w30 hb30 hk30
              try simp only [Bool.not_eq_true'] at h11
              have y30 := hb30.size
              have z30 := hk30.size; have o30 := hk30.own
              simp only [List.mem_cons, List.not_mem_nil, or_false, forall_eq_or_imp, forall_eq] at o30
              have X10_30 := X10_29.ko hk30 (allc (.inr (by omega)) (allc (.inl (by omega)) (allc (.inr (by omega)) (allc (.inr (by omega)) (allc (.inr (by omega)) (allc (.inr (by omega)) (allc (.inl (by omega)) (allc (.inl (by omega)) (allc (.inl (by omega)) all0)))))))))
              have P12_30 := P12_29.ko hk30 (allc (.inr (by omega)) (allc (.inl (by omega)) (allc (.inr (by omega)) (allc (.inr (by omega)) (allc (.inr (by omega)) (allc (.inr (by omega)) (allc (.inl (by omega)) (allc (.inl (by omega)) (allc (.inl (by omega)) all0)))))))))
              have F12_30 := F12_29.ko hk30 (allc (.inr (by omega)) (allc (.inl (by omega)) (allc (.inr (by omega)) (allc (.inr (by omega)) (allc (.inr (by omega)) (allc (.inr (by omega)) (allc (.inl (by omega)) (allc (.inl (by omega)) (allc (.inl (by omega)) all0)))))))))
              have hs1_30 := hs1_29.ko hk30 (allc (.inr (by omega)) (allc (.inl (by omega)) (allc (.inr (by omega)) (allc (.inr (by omega)) (allc (.inr (by omega)) (allc (.inr (by omega)) (allc (.inl (by omega)) (allc (.inl (by omega)) (allc (.inl (by omega)) all0)))))))))
              have P16_30 := P16_29.ko hk30 (allc (.inr (by omega)) (allc (.inl (by omega)) (allc (.inr (by omega)) (allc (.inr (by omega)) (allc d1_m26 (allc d1_m25 (allc (.inl (by omega)) (allc (.inl (by omega)) (allc (.inl (by omega)) all0)))))))))
              have F16_30 := F16_29.ko hk30 (allc (.inr (by omega)) (allc (.inl (by omega)) (allc (.inr (by omega)) (allc (.inr (by omega)) (allc d1_m26 (allc d1_m25 (allc (.inl (by omega)) (allc (.inl (by omega)) (allc (.inl (by omega)) all0)))))))))
              exact ⟨by first | rfl | exact absurd rfl (by assumption) | (exfalso; rcases good_cases W x with ⟨q0, q1⟩ | ⟨q0, q1, q2⟩ | ⟨q0, q1, q2⟩ <;> simp [] at h2 h4 h6 h8 h10 h11 <;> (first | omega | (simp [q2] at h2 h4 h6 h8 h10 h11; done) | (simp [q2] at h2 h4 h6 h8 h10 h11; omega))), hb30⟩
            · intro h12 w31 hb31 hk31
              try simp only [Bool.not_eq_false'] at h12
              have y31 := hb31.size
              have z31 := hk31.size; have o31 := hk31.own
              simp only [List.mem_cons, List.not_mem_nil, or_false, forall_eq_or_imp, forall_eq] at o31
              have X10_31 := X10_29.ko hk31 (allc (.inr (by omega)) (allc (.inl (by omega)) (allc (.inr (by omega)) (allc (.inr (by omega)) (allc (.inr (by omega)) (allc (.inr (by omega)) (allc (.inl (by omega)) (allc (.inl (by omega)) (allc (.inl (by omega)) all0)))))))))
              have P12_31 := P12_29.ko hk31 (allc (.inr (by omega)) (allc (.inl (by omega)) (allc (.inr (by omega)) (allc (.inr (by omega)) (allc (.inr (by omega)) (allc (.inr (by omega)) (allc (.inl (by omega)) (allc (.inl (by omega)) (allc (.inl (by omega)) all0)))))))))
              have F12_31 := F12_29.ko hk31 (allc (.inr (by omega)) (allc (.inl (by omega)) (allc (.inr (by omega)) (allc (.inr (by omega)) (allc (.inr (by omega)) (allc (.inr (by omega)) (allc (.inl (by omega)) (allc (.inl (by omega)) (allc (.inl (by omega)) all0)))))))))
              have hs1_31 := hs1_29.ko hk31 (allc (.inr (by omega)) (allc (.inl (by omega)) (allc (.inr (by omega)) (allc (.inr (by omega)) (allc (.inr (by omega)) (allc (.inr (by omega)) (allc (.inl (by omega)) (allc (.inl (by omega)) (allc (.inl (by omega)) all0)))))))))
              have P16_31 := P16_29.ko hk31 (allc (.inr (by omega)) (allc (.inl (by omega)) (allc (.inr (by omega)) (allc (.inr (by omega)) (allc d1_m26 (allc d1_m25 (allc (.inl (by omega)) (allc (.inl (by omega)) (allc (.inl (by omega)) all0)))))))))
              have F16_31 := F16_29.ko hk31 (allc (.inr (by omega)) (allc (.inl (by omega)) (allc (.inr (by omega)) (allc (.inr (by omega)) (allc d1_m26 (allc d1_m25 (allc (.inl (by omega)) (allc (.inl (by omega)) (allc (.inl (by omega)) all0)))))))))
              refine Pure.calls (rWorks_any (hp.keep hb31) (hf.keep hb31) (lim_small (by assumption))) fun w32 hd32 => ?_
              have hb32 := hb31.trans (hd32.mono hb31.size)
              have z32 := hd32.size
              have X10_32 := X10_31.below hd32
              have P12_32 := P12_31.below hd32
              have F12_32 := F12_31.below hd32
              have hs1_32 := hs1_31.below hd32
              have P16_32 := P16_31.below hd32
              have F16_32 := F16_31.below hd32
              refine ⟨_, rfl, .all hd32, ?_, ?_⟩
              · intro h13 w33 hb33 hk33
                try simp only [decide_eq_true_eq] at h13
                have y33 := hb33.size
                have z33 := hk33.size; have o33 := hk33.own
                simp only [List.mem_cons, List.not_mem_nil, or_false, forall_eq_or_imp, forall_eq] at o33
                have X10_33 := X10_32.ko hk33 (allc (.inr (by omega)) (allc (.inl (by omega)) (allc (.inr (by omega)) (allc (.inr (by omega)) (allc (.inr (by omega)) (allc (.inr (by omega)) (allc (.inl (by omega)) (allc (.inl (by omega)) (allc (.inl (by omega)) all0)))))))))
                have P12_33 := P12_32.ko hk33 (allc (.inr (by omega)) (allc (.inl (by omega)) (allc (.inr (by omega)) (allc (.inr (by omega)) (allc (.inr (by omega)) (allc (.inr (by omega)) (allc (.inl (by omega)) (allc (.inl (by omega)) (allc (.inl (by omega)) all0)))))))))
                have F12_33 := F12_32.ko hk33 (allc (.inr (by omega)) (allc (.inl (by omega)) (allc (.inr (by omega)) (allc (.inr (by omega)) (allc (.inr (by omega)) (allc (.inr (by omega)) (allc (.inl (by omega)) (allc (.inl (by omega)) (allc (.inl (by omega)) all0)))))))))
                have hs1_33 := hs1_32.ko hk33 (allc (.inr (by omega)) (allc (.inl (by omega)) (allc (.inr (by omega)) (allc (.inr (by omega)) (allc (.inr (by omega)) (allc (.inr (by omega)) (allc (.inl (by omega)) (allc (.inl (by omega)) (allc (.inl (by omega)) all0)))))))))
                have P16_33 := P16_32.ko hk33 (allc (.inr (by omega)) (allc (.inl (by omega)) (allc (.inr (by omega)) (allc (.inr (by omega)) (allc d1_m26 (allc d1_m25 (allc (.inl (by omega)) (allc (.inl (by omega)) (allc (.inl (by omega)) all0)))))))))
                have F16_33 := F16_32.ko hk33 (allc (.inr (by omega)) (allc (.inl (by omega)) (allc (.inr (by omega)) (allc (.inr (by omega)) (allc d1_m26 (allc d1_m25 (allc (.inl (by omega)) (allc (.inl (by omega)) (allc (.inl (by omega)) all0)))))))))
                refine Pure.calls (rPiece_any x (hx.keep hb33) (by omega) (hp.keep hb33) (lim_small (by assumption))) fun w34 hd34 => ?_
                have hb34 := hb33.trans (hd34.mono hb33.size)
                have z34 := hd34.size
                have X10_34 := X10_33.below hd34
                have P12_34 := P12_33.below hd34
                have F12_34 := F12_33.below hd34
                have hs1_34 := hs1_33.below hd34
                have P16_34 := P16_33.below hd34
                have F16_34 := F16_33.below hd34
                refine ⟨_, rfl, .all hd34, ?_, ?_⟩
                · intro h14
                  try simp only [Bool.not_eq_true', Bool.not_eq_false', decide_eq_true_eq, decide_eq_false_iff_not] at h14
                  refine ⟨?_, ?_⟩
                  · intro h15
                    try simp only [Bool.not_eq_true', Bool.not_eq_false', decide_eq_true_eq, decide_eq_false_iff_not] at h15
                    refine ⟨?_, ?_⟩
                    · intro h16 w35 hb35 hk35
                      try simp only [Bool.not_eq_true'] at h16
                      have y35 := hb35.size
                      have z35 := hk35.size; have o35 := hk35.own
                      simp only [List.mem_cons, List.not_mem_nil, or_false, forall_eq_or_imp, forall_eq] at o35
                      have X10_35 := X10_34.ko hk35 (allc (.inr (by omega)) (allc (.inl (by omega)) (allc (.inr (by omega)) (allc (.inr (by omega)) (allc (.inr (by omega)) (allc (.inr (by omega)) (allc (.inl (by omega)) (allc (.inl (by omega)) (allc (.inl (by omega)) all0)))))))))
                      have P12_35 := P12_34.ko hk35 (allc (.inr (by omega)) (allc (.inl (by omega)) (allc (.inr (by omega)) (allc (.inr (by omega)) (allc (.inr (by omega)) (allc (.inr (by omega)) (allc (.inl (by omega)) (allc (.inl (by omega)) (allc (.inl (by omega)) all0)))))))))
                      have F12_35 := F12_34.ko hk35 (allc (.inr (by omega)) (allc (.inl (by omega)) (allc (.inr (by omega)) (allc (.inr (by omega)) (allc (.inr (by omega)) (allc (.inr (by omega)) (allc (.inl (by omega)) (allc (.inl (by omega)) (allc (.inl (by omega)) all0)))))))))
                      have hs1_35 := hs1_34.ko hk35 (allc (.inr (by omega)) (allc (.inl (by omega)) (allc (.inr (by omega)) (allc (.inr (by omega)) (allc (.inr (by omega)) (allc (.inr (by omega)) (allc (.inl (by omega)) (allc (.inl (by omega)) (allc (.inl (by omega)) all0)))))))))
                      have P16_35 := P16_34.ko hk35 (allc (.inr (by omega)) (allc (.inl (by omega)) (allc (.inr (by omega)) (allc (.inr (by omega)) (allc d1_m26 (allc d1_m25 (allc (.inl (by omega)) (allc (.inl (by omega)) (allc (.inl (by omega)) all0)))))))))
                      have F16_35 := F16_34.ko hk35 (allc (.inr (by omega)) (allc (.inl (by omega)) (allc (.inr (by omega)) (allc (.inr (by omega)) (allc d1_m26 (allc d1_m25 (allc (.inl (by omega)) (allc (.inl (by omega)) (allc (.inl (by omega)) all0)))))))))
                      refine Pure.calls (known_any) fun w36 hd36 => ?_
                      have hb36 := hb35.trans (hd36.mono hb35.size)
                      have z36 := hd36.size
                      have X10_36 := X10_35.below hd36
                      have P12_36 := P12_35.below hd36
                      have F12_36 := F12_35.below hd36
                      have hs1_36 := hs1_35.below hd36
                      have P16_36 := P16_35.below hd36
                      have F16_36 := F16_35.below hd36
                      refine ⟨_, rfl, .all hd36, ?_⟩
                      intro w37 hb37 hk37
                      have y37 := hb37.size
                      have z37 := hk37.size; have o37 := hk37.own
                      simp only [List.mem_cons, List.not_mem_nil, or_false, forall_eq_or_imp, forall_eq] at o37
                      have X10_37 := X10_36.ko hk37 (allc (.inr (by omega)) (allc (.inl (by omega)) (allc (.inr (by omega)) (allc (.inr (by omega)) (allc (.inr (by omega)) (allc (.inr (by omega)) (allc (.inl (by omega)) (allc (.inl (by omega)) (allc (.inl (by omega)) all0)))))))))
                      have P12_37 := P12_36.ko hk37 (allc (.inr (by omega)) (allc (.inl (by omega)) (allc (.inr (by omega)) (allc (.inr (by omega)) (allc (.inr (by omega)) (allc (.inr (by omega)) (allc (.inl (by omega)) (allc (.inl (by omega)) (allc (.inl (by omega)) all0)))))))))
                      have F12_37 := F12_36.ko hk37 (allc (.inr (by omega)) (allc (.inl (by omega)) (allc (.inr (by omega)) (allc (.inr (by omega)) (allc (.inr (by omega)) (allc (.inr (by omega)) (allc (.inl (by omega)) (allc (.inl (by omega)) (allc (.inl (by omega)) all0)))))))))
                      have hs1_37 := hs1_36.ko hk37 (allc (.inr (by omega)) (allc (.inl (by omega)) (allc (.inr (by omega)) (allc (.inr (by omega)) (allc (.inr (by omega)) (allc (.inr (by omega)) (allc (.inl (by omega)) (allc (.inl (by omega)) (allc (.inl (by omega)) all0)))))))))
                      have P16_37 := P16_36.ko hk37 (allc (.inr (by omega)) (allc (.inl (by omega)) (allc (.inr (by omega)) (allc (.inr (by omega)) (allc d1_m26 (allc d1_m25 (allc (.inl (by omega)) (allc (.inl (by omega)) (allc (.inl (by omega)) all0)))))))))
                      have F16_37 := F16_36.ko hk37 (allc (.inr (by omega)) (allc (.inl (by omega)) (allc (.inr (by omega)) (allc (.inr (by omega)) (allc d1_m26 (allc d1_m25 (allc (.inl (by omega)) (allc (.inl (by omega)) (allc (.inl (by omega)) all0)))))))))
                      exact ⟨by first | rfl | exact absurd rfl (by assumption) | (exfalso; rcases good_cases W x with ⟨q0, q1⟩ | ⟨q0, q1, q2⟩ | ⟨q0, q1, q2⟩ <;> simp [q0, q1] at h2 h4 h6 h8 h10 h12 h13 h14 h15 h16 <;> (first | omega | (simp [q2] at h2 h4 h6 h8 h10 h12 h13 h14 h15 h16; done) | (simp [q2] at h2 h4 h6 h8 h10 h12 h13 h14 h15 h16; omega))), hb37⟩
                    · intro h17 w38 hb38 hk38
                      try simp only [Bool.not_eq_false'] at h17
                      have y38 := hb38.size
                      have z38 := hk38.size; have o38 := hk38.own
                      simp only [List.mem_cons, List.not_mem_nil, or_false, forall_eq_or_imp, forall_eq] at o38
                      have X10_38 := X10_34.ko hk38 (allc (.inr (by omega)) (allc (.inl (by omega)) (allc (.inr (by omega)) (allc (.inr (by omega)) (allc (.inr (by omega)) (allc (.inr (by omega)) (allc (.inl (by omega)) (allc (.inl (by omega)) (allc (.inl (by omega)) all0)))))))))
                      have P12_38 := P12_34.ko hk38 (allc (.inr (by omega)) (allc (.inl (by omega)) (allc (.inr (by omega)) (allc (.inr (by omega)) (allc (.inr (by omega)) (allc (.inr (by omega)) (allc (.inl (by omega)) (allc (.inl (by omega)) (allc (.inl (by omega)) all0)))))))))
                      have F12_38 := F12_34.ko hk38 (allc (.inr (by omega)) (allc (.inl (by omega)) (allc (.inr (by omega)) (allc (.inr (by omega)) (allc (.inr (by omega)) (allc (.inr (by omega)) (allc (.inl (by omega)) (allc (.inl (by omega)) (allc (.inl (by omega)) all0)))))))))
                      have hs1_38 := hs1_34.ko hk38 (allc (.inr (by omega)) (allc (.inl (by omega)) (allc (.inr (by omega)) (allc (.inr (by omega)) (allc (.inr (by omega)) (allc (.inr (by omega)) (allc (.inl (by omega)) (allc (.inl (by omega)) (allc (.inl (by omega)) all0)))))))))
                      have P16_38 := P16_34.ko hk38 (allc (.inr (by omega)) (allc (.inl (by omega)) (allc (.inr (by omega)) (allc (.inr (by omega)) (allc d1_m26 (allc d1_m25 (allc (.inl (by omega)) (allc (.inl (by omega)) (allc (.inl (by omega)) all0)))))))))
                      have F16_38 := F16_34.ko hk38 (allc (.inr (by omega)) (allc (.inl (by omega)) (allc (.inr (by omega)) (allc (.inr (by omega)) (allc d1_m26 (allc d1_m25 (allc (.inl (by omega)) (allc (.inl (by omega)) (allc (.inl (by omega)) all0)))))))))
                      exact ⟨by first | rfl | exact absurd rfl (by assumption) | (exfalso; rcases good_cases W x with ⟨q0, q1⟩ | ⟨q0, q1, q2⟩ | ⟨q0, q1, q2⟩ <;> simp [q0, q1] at h2 h4 h6 h8 h10 h12 h13 h14 h15 h17 <;> (first | omega | (simp [q2] at h2 h4 h6 h8 h10 h12 h13 h14 h15 h17; done) | (simp [q2] at h2 h4 h6 h8 h10 h12 h13 h14 h15 h17; omega))), hb38⟩
                  · intro h18 w39 hb39 hk39
                    try simp only [Bool.not_eq_true', Bool.not_eq_false', decide_eq_true_eq, decide_eq_false_iff_not] at h18
                    have y39 := hb39.size
                    have z39 := hk39.size; have o39 := hk39.own
                    simp only [List.mem_cons, List.not_mem_nil, or_false, forall_eq_or_imp, forall_eq] at o39
                    have X10_39 := X10_34.ko hk39 (allc (.inr (by omega)) (allc (.inl (by omega)) (allc (.inr (by omega)) (allc (.inr (by omega)) (allc (.inr (by omega)) (allc (.inr (by omega)) (allc (.inl (by omega)) (allc (.inl (by omega)) (allc (.inl (by omega)) all0)))))))))
                    have P12_39 := P12_34.ko hk39 (allc (.inr (by omega)) (allc (.inl (by omega)) (allc (.inr (by omega)) (allc (.inr (by omega)) (allc (.inr (by omega)) (allc (.inr (by omega)) (allc (.inl (by omega)) (allc (.inl (by omega)) (allc (.inl (by omega)) all0)))))))))
                    have F12_39 := F12_34.ko hk39 (allc (.inr (by omega)) (allc (.inl (by omega)) (allc (.inr (by omega)) (allc (.inr (by omega)) (allc (.inr (by omega)) (allc (.inr (by omega)) (allc (.inl (by omega)) (allc (.inl (by omega)) (allc (.inl (by omega)) all0)))))))))
                    have hs1_39 := hs1_34.ko hk39 (allc (.inr (by omega)) (allc (.inl (by omega)) (allc (.inr (by omega)) (allc (.inr (by omega)) (allc (.inr (by omega)) (allc (.inr (by omega)) (allc (.inl (by omega)) (allc (.inl (by omega)) (allc (.inl (by omega)) all0)))))))))
                    have P16_39 := P16_34.ko hk39 (allc (.inr (by omega)) (allc (.inl (by omega)) (allc (.inr (by omega)) (allc (.inr (by omega)) (allc d1_m26 (allc d1_m25 (allc (.inl (by omega)) (allc (.inl (by omega)) (allc (.inl (by omega)) all0)))))))))
                    have F16_39 := F16_34.ko hk39 (allc (.inr (by omega)) (allc (.inl (by omega)) (allc (.inr (by omega)) (allc (.inr (by omega)) (allc d1_m26 (allc d1_m25 (allc (.inl (by omega)) (allc (.inl (by omega)) (allc (.inl (by omega)) all0)))))))))
                    exact ⟨by first | rfl | exact absurd rfl (by assumption) | (exfalso; rcases good_cases W x with ⟨q0, q1⟩ | ⟨q0, q1, q2⟩ | ⟨q0, q1, q2⟩ <;> simp [q0, q1] at h2 h4 h6 h8 h10 h12 h13 h14 h18 <;> (first | omega | (simp [q2] at h2 h4 h6 h8 h10 h12 h13 h14 h18; done) | (simp [q2] at h2 h4 h6 h8 h10 h12 h13 h14 h18; omega))), hb39⟩
                · intro h19
                  try simp only [Bool.not_eq_true', Bool.not_eq_false', decide_eq_true_eq, decide_eq_false_iff_not] at h19
                  refine ⟨?_, ?_⟩
                  · intro h20 w40 hb40 hk40
                    try simp only [Bool.not_eq_true', Bool.not_eq_false', decide_eq_true_eq, decide_eq_false_iff_not] at h20
                    have y40 := hb40.size
                    have z40 := hk40.size; have o40 := hk40.own
                    simp only [List.mem_cons, List.not_mem_nil, or_false, forall_eq_or_imp, forall_eq] at o40
                    have X10_40 := X10_34.ko hk40 (allc (.inr (by omega)) (allc (.inl (by omega)) (allc (.inr (by omega)) (allc (.inr (by omega)) (allc (.inr (by omega)) (allc (.inr (by omega)) (allc (.inl (by omega)) (allc (.inl (by omega)) (allc (.inl (by omega)) all0)))))))))
                    have P12_40 := P12_34.ko hk40 (allc (.inr (by omega)) (allc (.inl (by omega)) (allc (.inr (by omega)) (allc (.inr (by omega)) (allc (.inr (by omega)) (allc (.inr (by omega)) (allc (.inl (by omega)) (allc (.inl (by omega)) (allc (.inl (by omega)) all0)))))))))
                    have F12_40 := F12_34.ko hk40 (allc (.inr (by omega)) (allc (.inl (by omega)) (allc (.inr (by omega)) (allc (.inr (by omega)) (allc (.inr (by omega)) (allc (.inr (by omega)) (allc (.inl (by omega)) (allc (.inl (by omega)) (allc (.inl (by omega)) all0)))))))))
                    have hs1_40 := hs1_34.ko hk40 (allc (.inr (by omega)) (allc (.inl (by omega)) (allc (.inr (by omega)) (allc (.inr (by omega)) (allc (.inr (by omega)) (allc (.inr (by omega)) (allc (.inl (by omega)) (allc (.inl (by omega)) (allc (.inl (by omega)) all0)))))))))
                    have P16_40 := P16_34.ko hk40 (allc (.inr (by omega)) (allc (.inl (by omega)) (allc (.inr (by omega)) (allc (.inr (by omega)) (allc d1_m26 (allc d1_m25 (allc (.inl (by omega)) (allc (.inl (by omega)) (allc (.inl (by omega)) all0)))))))))
                    have F16_40 := F16_34.ko hk40 (allc (.inr (by omega)) (allc (.inl (by omega)) (allc (.inr (by omega)) (allc (.inr (by omega)) (allc d1_m26 (allc d1_m25 (allc (.inl (by omega)) (allc (.inl (by omega)) (allc (.inl (by omega)) all0)))))))))
                    refine Pure.calls (rGood_any x (hx.keep hb40) (by omega) (hp.keep hb40) (lim_small (by assumption)) (pieceErr_ok (by assumption)).1 (pieceErr_ok (by assumption)).2.1) fun w41 hd41 => ?_
                    have hb41 := hb40.trans (hd41.mono hb40.size)
                    have z41 := hd41.size
                    have X10_41 := X10_40.below hd41
                    have P12_41 := P12_40.below hd41
                    have F12_41 := F12_40.below hd41
                    have hs1_41 := hs1_40.below hd41
                    have P16_41 := P16_40.below hd41
                    have F16_41 := F16_40.below hd41
                    refine ⟨_, rfl, .all hd41, ?_, ?_⟩
                    · intro h21 w42 hb42 hk42
                      try simp only [Bool.not_eq_true', Bool.not_eq_false', decide_eq_true_eq, decide_eq_false_iff_not] at h21
                      have y42 := hb42.size
                      have z42 := hk42.size; have o42 := hk42.own
                      simp only [List.mem_cons, List.not_mem_nil, or_false, forall_eq_or_imp, forall_eq] at o42
                      have X10_42 := X10_41.ko hk42 (allc (.inr (by omega)) (allc (.inl (by omega)) (allc (.inr (by omega)) (allc (.inr (by omega)) (allc (.inr (by omega)) (allc (.inr (by omega)) (allc (.inl (by omega)) (allc (.inl (by omega)) (allc (.inl (by omega)) all0)))))))))
                      have P12_42 := P12_41.ko hk42 (allc (.inr (by omega)) (allc (.inl (by omega)) (allc (.inr (by omega)) (allc (.inr (by omega)) (allc (.inr (by omega)) (allc (.inr (by omega)) (allc (.inl (by omega)) (allc (.inl (by omega)) (allc (.inl (by omega)) all0)))))))))
                      have F12_42 := F12_41.ko hk42 (allc (.inr (by omega)) (allc (.inl (by omega)) (allc (.inr (by omega)) (allc (.inr (by omega)) (allc (.inr (by omega)) (allc (.inr (by omega)) (allc (.inl (by omega)) (allc (.inl (by omega)) (allc (.inl (by omega)) all0)))))))))
                      have hs1_42 := hs1_41.ko hk42 (allc (.inr (by omega)) (allc (.inl (by omega)) (allc (.inr (by omega)) (allc (.inr (by omega)) (allc (.inr (by omega)) (allc (.inr (by omega)) (allc (.inl (by omega)) (allc (.inl (by omega)) (allc (.inl (by omega)) all0)))))))))
                      have P16_42 := P16_41.ko hk42 (allc (.inr (by omega)) (allc (.inl (by omega)) (allc (.inr (by omega)) (allc (.inr (by omega)) (allc d1_m26 (allc d1_m25 (allc (.inl (by omega)) (allc (.inl (by omega)) (allc (.inl (by omega)) all0)))))))))
                      have F16_42 := F16_41.ko hk42 (allc (.inr (by omega)) (allc (.inl (by omega)) (allc (.inr (by omega)) (allc (.inr (by omega)) (allc d1_m26 (allc d1_m25 (allc (.inl (by omega)) (allc (.inl (by omega)) (allc (.inl (by omega)) all0)))))))))
                      refine Pure.calls (known_any) fun w43 hd43 => ?_
                      have hb43 := hb42.trans (hd43.mono hb42.size)
                      have z43 := hd43.size
                      have X10_43 := X10_42.below hd43
                      have P12_43 := P12_42.below hd43
                      have F12_43 := F12_42.below hd43
                      have hs1_43 := hs1_42.below hd43
                      have P16_43 := P16_42.below hd43
                      have F16_43 := F16_42.below hd43
                      refine ⟨_, rfl, .all hd43, ?_⟩
                      intro w44 hb44 hk44
                      have y44 := hb44.size
                      have z44 := hk44.size; have o44 := hk44.own
                      simp only [List.mem_cons, List.not_mem_nil, or_false, forall_eq_or_imp, forall_eq] at o44
                      have X10_44 := X10_43.ko hk44 (allc (.inr (by omega)) (allc (.inl (by omega)) (allc (.inr (by omega)) (allc (.inr (by omega)) (allc (.inr (by omega)) (allc (.inr (by omega)) (allc (.inl (by omega)) (allc (.inl (by omega)) (allc (.inl (by omega)) all0)))))))))
                      have P12_44 := P12_43.ko hk44 (allc (.inr (by omega)) (allc (.inl (by omega)) (allc (.inr (by omega)) (allc (.inr (by omega)) (allc (.inr (by omega)) (allc (.inr (by omega)) (allc (.inl (by omega)) (allc (.inl (by omega)) (allc (.inl (by omega)) all0)))))))))
                      have F12_44 := F12_43.ko hk44 (allc (.inr (by omega)) (allc (.inl (by omega)) (allc (.inr (by omega)) (allc (.inr (by omega)) (allc (.inr (by omega)) (allc (.inr (by omega)) (allc (.inl (by omega)) (allc (.inl (by omega)) (allc (.inl (by omega)) all0)))))))))
                      have hs1_44 := hs1_43.ko hk44 (allc (.inr (by omega)) (allc (.inl (by omega)) (allc (.inr (by omega)) (allc (.inr (by omega)) (allc (.inr (by omega)) (allc (.inr (by omega)) (allc (.inl (by omega)) (allc (.inl (by omega)) (allc (.inl (by omega)) all0)))))))))
                      have P16_44 := P16_43.ko hk44 (allc (.inr (by omega)) (allc (.inl (by omega)) (allc (.inr (by omega)) (allc (.inr (by omega)) (allc d1_m26 (allc d1_m25 (allc (.inl (by omega)) (allc (.inl (by omega)) (allc (.inl (by omega)) all0)))))))))
                      have F16_44 := F16_43.ko hk44 (allc (.inr (by omega)) (allc (.inl (by omega)) (allc (.inr (by omega)) (allc (.inr (by omega)) (allc d1_m26 (allc d1_m25 (allc (.inl (by omega)) (allc (.inl (by omega)) (allc (.inl (by omega)) all0)))))))))
                      exact ⟨by first | rfl | exact absurd rfl (by assumption) | (exfalso; rcases good_cases W x with ⟨q0, q1⟩ | ⟨q0, q1, q2⟩ | ⟨q0, q1, q2⟩ <;> simp [q0, q1] at h2 h4 h6 h8 h10 h12 h13 h19 h20 h21 <;> (first | omega | (simp [q2] at h2 h4 h6 h8 h10 h12 h13 h19 h20 h21; done) | (simp [q2] at h2 h4 h6 h8 h10 h12 h13 h19 h20 h21; omega))), hb44⟩
                    · intro h22 w45 hb45 hk45
                      try simp only [Bool.not_eq_true', Bool.not_eq_false', decide_eq_true_eq, decide_eq_false_iff_not] at h22
                      have y45 := hb45.size
                      have z45 := hk45.size; have o45 := hk45.own
                      simp only [List.mem_cons, List.not_mem_nil, or_false, forall_eq_or_imp, forall_eq] at o45
                      have X10_45 := X10_41.ko hk45 (allc (.inr (by omega)) (allc (.inl (by omega)) (allc (.inr (by omega)) (allc (.inr (by omega)) (allc (.inr (by omega)) (allc (.inr (by omega)) (allc (.inl (by omega)) (allc (.inl (by omega)) (allc (.inl (by omega)) all0)))))))))
                      have P12_45 := P12_41.ko hk45 (allc (.inr (by omega)) (allc (.inl (by omega)) (allc (.inr (by omega)) (allc (.inr (by omega)) (allc (.inr (by omega)) (allc (.inr (by omega)) (allc (.inl (by omega)) (allc (.inl (by omega)) (allc (.inl (by omega)) all0)))))))))
                      have F12_45 := F12_41.ko hk45 (allc (.inr (by omega)) (allc (.inl (by omega)) (allc (.inr (by omega)) (allc (.inr (by omega)) (allc (.inr (by omega)) (allc (.inr (by omega)) (allc (.inl (by omega)) (allc (.inl (by omega)) (allc (.inl (by omega)) all0)))))))))
                      have hs1_45 := hs1_41.ko hk45 (allc (.inr (by omega)) (allc (.inl (by omega)) (allc (.inr (by omega)) (allc (.inr (by omega)) (allc (.inr (by omega)) (allc (.inr (by omega)) (allc (.inl (by omega)) (allc (.inl (by omega)) (allc (.inl (by omega)) all0)))))))))
                      have P16_45 := P16_41.ko hk45 (allc (.inr (by omega)) (allc (.inl (by omega)) (allc (.inr (by omega)) (allc (.inr (by omega)) (allc d1_m26 (allc d1_m25 (allc (.inl (by omega)) (allc (.inl (by omega)) (allc (.inl (by omega)) all0)))))))))
                      have F16_45 := F16_41.ko hk45 (allc (.inr (by omega)) (allc (.inl (by omega)) (allc (.inr (by omega)) (allc (.inr (by omega)) (allc d1_m26 (allc d1_m25 (allc (.inl (by omega)) (allc (.inl (by omega)) (allc (.inl (by omega)) all0)))))))))
                      exact ⟨by first | rfl | exact absurd rfl (by assumption) | (exfalso; rcases good_cases W x with ⟨q0, q1⟩ | ⟨q0, q1, q2⟩ | ⟨q0, q1, q2⟩ <;> simp [q0, q1] at h2 h4 h6 h8 h10 h12 h13 h19 h20 h22 <;> (first | omega | (simp [q2] at h2 h4 h6 h8 h10 h12 h13 h19 h20 h22; done) | (simp [q2] at h2 h4 h6 h8 h10 h12 h13 h19 h20 h22; omega))), hb45⟩
                  · intro h23 w46 hb46 hk46
                    try simp only [Bool.not_eq_true', Bool.not_eq_false', decide_eq_true_eq, decide_eq_false_iff_not] at h23
                    have y46 := hb46.size
                    have z46 := hk46.size; have o46 := hk46.own
                    simp only [List.mem_cons, List.not_mem_nil, or_false, forall_eq_or_imp, forall_eq] at o46
                    have X10_46 := X10_34.ko hk46 (allc (.inr (by omega)) (allc (.inl (by omega)) (allc (.inr (by omega)) (allc (.inr (by omega)) (allc (.inr (by omega)) (allc (.inr (by omega)) (allc (.inl (by omega)) (allc (.inl (by omega)) (allc (.inl (by omega)) all0)))))))))
                    have P12_46 := P12_34.ko hk46 (allc (.inr (by omega)) (allc (.inl (by omega)) (allc (.inr (by omega)) (allc (.inr (by omega)) (allc (.inr (by omega)) (allc (.inr (by omega)) (allc (.inl (by omega)) (allc (.inl (by omega)) (allc (.inl (by omega)) all0)))))))))
                    have F12_46 := F12_34.ko hk46 (allc (.inr (by omega)) (allc (.inl (by omega)) (allc (.inr (by omega)) (allc (.inr (by omega)) (allc (.inr (by omega)) (allc (.inr (by omega)) (allc (.inl (by omega)) (allc (.inl (by omega)) (allc (.inl (by omega)) all0)))))))))
                    have hs1_46 := hs1_34.ko hk46 (allc (.inr (by omega)) (allc (.inl (by omega)) (allc (.inr (by omega)) (allc (.inr (by omega)) (allc (.inr (by omega)) (allc (.inr (by omega)) (allc (.inl (by omega)) (allc (.inl (by omega)) (allc (.inl (by omega)) all0)))))))))
                    have P16_46 := P16_34.ko hk46 (allc (.inr (by omega)) (allc (.inl (by omega)) (allc (.inr (by omega)) (allc (.inr (by omega)) (allc d1_m26 (allc d1_m25 (allc (.inl (by omega)) (allc (.inl (by omega)) (allc (.inl (by omega)) all0)))))))))
                    have F16_46 := F16_34.ko hk46 (allc (.inr (by omega)) (allc (.inl (by omega)) (allc (.inr (by omega)) (allc (.inr (by omega)) (allc d1_m26 (allc d1_m25 (allc (.inl (by omega)) (allc (.inl (by omega)) (allc (.inl (by omega)) all0)))))))))
                    exact ⟨by first | rfl | exact absurd rfl (by assumption) | (exfalso; rcases good_cases W x with ⟨q0, q1⟩ | ⟨q0, q1, q2⟩ | ⟨q0, q1, q2⟩ <;> simp [q0, q1] at h2 h4 h6 h8 h10 h12 h13 h19 h23 <;> (first | omega | (simp [q2] at h2 h4 h6 h8 h10 h12 h13 h19 h23; done) | (simp [q2] at h2 h4 h6 h8 h10 h12 h13 h19 h23; omega))), hb46⟩
              · intro h24
                try simp only [decide_eq_false_iff_not] at h24
                refine ⟨?_, (fun hx => absurd hx (by first | assumption | (intro hx0; omega) | (intro hx0; simp_all; done) | grind))⟩
                intro h25
                try simp only [Bool.not_eq_true', Bool.not_eq_false', decide_eq_true_eq, decide_eq_false_iff_not] at h25
                refine ⟨?_, ?_⟩
                · intro h26
                  try simp only [Bool.not_eq_true', Bool.not_eq_false', decide_eq_true_eq, decide_eq_false_iff_not] at h26
                  refine ⟨?_, ?_⟩
                  · intro h27 w47 hb47 hk47
                    try simp only [Bool.not_eq_true'] at h27
                    have y47 := hb47.size
                    have z47 := hk47.size; have o47 := hk47.own
                    simp only [List.mem_cons, List.not_mem_nil, or_false, forall_eq_or_imp, forall_eq] at o47
                    have X10_47 := X10_32.ko hk47 (allc (.inr (by omega)) (allc (.inl (by omega)) (allc (.inr (by omega)) (allc (.inr (by omega)) (allc (.inr (by omega)) (allc (.inr (by omega)) (allc (.inl (by omega)) (allc (.inl (by omega)) (allc (.inl (by omega)) all0)))))))))
                    have P12_47 := P12_32.ko hk47 (allc (.inr (by omega)) (allc (.inl (by omega)) (allc (.inr (by omega)) (allc (.inr (by omega)) (allc (.inr (by omega)) (allc (.inr (by omega)) (allc (.inl (by omega)) (allc (.inl (by omega)) (allc (.inl (by omega)) all0)))))))))
                    have F12_47 := F12_32.ko hk47 (allc (.inr (by omega)) (allc (.inl (by omega)) (allc (.inr (by omega)) (allc (.inr (by omega)) (allc (.inr (by omega)) (allc (.inr (by omega)) (allc (.inl (by omega)) (allc (.inl (by omega)) (allc (.inl (by omega)) all0)))))))))
                    have hs1_47 := hs1_32.ko hk47 (allc (.inr (by omega)) (allc (.inl (by omega)) (allc (.inr (by omega)) (allc (.inr (by omega)) (allc (.inr (by omega)) (allc (.inr (by omega)) (allc (.inl (by omega)) (allc (.inl (by omega)) (allc (.inl (by omega)) all0)))))))))
                    have P16_47 := P16_32.ko hk47 (allc (.inr (by omega)) (allc (.inl (by omega)) (allc (.inr (by omega)) (allc (.inr (by omega)) (allc d1_m26 (allc d1_m25 (allc (.inl (by omega)) (allc (.inl (by omega)) (allc (.inl (by omega)) all0)))))))))
                    have F16_47 := F16_32.ko hk47 (allc (.inr (by omega)) (allc (.inl (by omega)) (allc (.inr (by omega)) (allc (.inr (by omega)) (allc d1_m26 (allc d1_m25 (allc (.inl (by omega)) (allc (.inl (by omega)) (allc (.inl (by omega)) all0)))))))))
                    refine Pure.calls (known_any) fun w48 hd48 => ?_
                    have hb48 := hb47.trans (hd48.mono hb47.size)
                    have z48 := hd48.size
                    have X10_48 := X10_47.below hd48
                    have P12_48 := P12_47.below hd48
                    have F12_48 := F12_47.below hd48
                    have hs1_48 := hs1_47.below hd48
                    have P16_48 := P16_47.below hd48
                    have F16_48 := F16_47.below hd48
                    refine ⟨_, rfl, .all hd48, ?_⟩
                    intro w49 hb49 hk49
                    have y49 := hb49.size
                    have z49 := hk49.size; have o49 := hk49.own
                    simp only [List.mem_cons, List.not_mem_nil, or_false, forall_eq_or_imp, forall_eq] at o49
                    have X10_49 := X10_48.ko hk49 (allc (.inr (by omega)) (allc (.inl (by omega)) (allc (.inr (by omega)) (allc (.inr (by omega)) (allc (.inr (by omega)) (allc (.inr (by omega)) (allc (.inl (by omega)) (allc (.inl (by omega)) (allc (.inl (by omega)) all0)))))))))
                    have P12_49 := P12_48.ko hk49 (allc (.inr (by omega)) (allc (.inl (by omega)) (allc (.inr (by omega)) (allc (.inr (by omega)) (allc (.inr (by omega)) (allc (.inr (by omega)) (allc (.inl (by omega)) (allc (.inl (by omega)) (allc (.inl (by omega)) all0)))))))))
                    have F12_49 := F12_48.ko hk49 (allc (.inr (by omega)) (allc (.inl (by omega)) (allc (.inr (by omega)) (allc (.inr (by omega)) (allc (.inr (by omega)) (allc (.inr (by omega)) (allc (.inl (by omega)) (allc (.inl (by omega)) (allc (.inl (by omega)) all0)))))))))
                    have hs1_49 := hs1_48.ko hk49 (allc (.inr (by omega)) (allc (.inl (by omega)) (allc (.inr (by omega)) (allc (.inr (by omega)) (allc (.inr (by omega)) (allc (.inr (by omega)) (allc (.inl (by omega)) (allc (.inl (by omega)) (allc (.inl (by omega)) all0)))))))))
                    have P16_49 := P16_48.ko hk49 (allc (.inr (by omega)) (allc (.inl (by omega)) (allc (.inr (by omega)) (allc (.inr (by omega)) (allc d1_m26 (allc d1_m25 (allc (.inl (by omega)) (allc (.inl (by omega)) (allc (.inl (by omega)) all0)))))))))
                    have F16_49 := F16_48.ko hk49 (allc (.inr (by omega)) (allc (.inl (by omega)) (allc (.inr (by omega)) (allc (.inr (by omega)) (allc d1_m26 (allc d1_m25 (allc (.inl (by omega)) (allc (.inl (by omega)) (allc (.inl (by omega)) all0)))))))))
                    exact ⟨by first | rfl | exact absurd rfl (by assumption) | (exfalso; rcases good_cases W x with ⟨q0, q1⟩ | ⟨q0, q1, q2⟩ | ⟨q0, q1, q2⟩ <;> simp [q0, q1] at h2 h4 h6 h8 h10 h12 h24 h25 h26 h27 <;> (first | omega | (simp [q2] at h2 h4 h6 h8 h10 h12 h24 h25 h26 h27; done) | (simp [q2] at h2 h4 h6 h8 h10 h12 h24 h25 h26 h27; omega))), hb49⟩
                  · intro h28 w50 hb50 hk50
                    try simp only [Bool.not_eq_false'] at h28
                    have y50 := hb50.size
                    have z50 := hk50.size; have o50 := hk50.own
                    simp only [List.mem_cons, List.not_mem_nil, or_false, forall_eq_or_imp, forall_eq] at o50
                    have X10_50 := X10_32.ko hk50 (allc (.inr (by omega)) (allc (.inl (by omega)) (allc (.inr (by omega)) (allc (.inr (by omega)) (allc (.inr (by omega)) (allc (.inr (by omega)) (allc (.inl (by omega)) (allc (.inl (by omega)) (allc (.inl (by omega)) all0)))))))))
                    have P12_50 := P12_32.ko hk50 (allc (.inr (by omega)) (allc (.inl (by omega)) (allc (.inr (by omega)) (allc (.inr (by omega)) (allc (.inr (by omega)) (allc (.inr (by omega)) (allc (.inl (by omega)) (allc (.inl (by omega)) (allc (.inl (by omega)) all0)))))))))
                    have F12_50 := F12_32.ko hk50 (allc (.inr (by omega)) (allc (.inl (by omega)) (allc (.inr (by omega)) (allc (.inr (by omega)) (allc (.inr (by omega)) (allc (.inr (by omega)) (allc (.inl (by omega)) (allc (.inl (by omega)) (allc (.inl (by omega)) all0)))))))))
                    have hs1_50 := hs1_32.ko hk50 (allc (.inr (by omega)) (allc (.inl (by omega)) (allc (.inr (by omega)) (allc (.inr (by omega)) (allc (.inr (by omega)) (allc (.inr (by omega)) (allc (.inl (by omega)) (allc (.inl (by omega)) (allc (.inl (by omega)) all0)))))))))
                    have P16_50 := P16_32.ko hk50 (allc (.inr (by omega)) (allc (.inl (by omega)) (allc (.inr (by omega)) (allc (.inr (by omega)) (allc d1_m26 (allc d1_m25 (allc (.inl (by omega)) (allc (.inl (by omega)) (allc (.inl (by omega)) all0)))))))))
                    have F16_50 := F16_32.ko hk50 (allc (.inr (by omega)) (allc (.inl (by omega)) (allc (.inr (by omega)) (allc (.inr (by omega)) (allc d1_m26 (allc d1_m25 (allc (.inl (by omega)) (allc (.inl (by omega)) (allc (.inl (by omega)) all0)))))))))
                    exact ⟨by first | rfl | exact absurd rfl (by assumption) | (exfalso; rcases good_cases W x with ⟨q0, q1⟩ | ⟨q0, q1, q2⟩ | ⟨q0, q1, q2⟩ <;> simp [q0, q1] at h2 h4 h6 h8 h10 h12 h24 h25 h26 h28 <;> (first | omega | (simp [q2] at h2 h4 h6 h8 h10 h12 h24 h25 h26 h28; done) | (simp [q2] at h2 h4 h6 h8 h10 h12 h24 h25 h26 h28; omega))), hb50⟩
                · intro h29 w51 hb51 hk51
                  try simp only [Bool.not_eq_true', Bool.not_eq_false', decide_eq_true_eq, decide_eq_false_iff_not] at h29
                  have y51 := hb51.size
                  have z51 := hk51.size; have o51 := hk51.own
                  simp only [List.mem_cons, List.not_mem_nil, or_false, forall_eq_or_imp, forall_eq] at o51
                  have X10_51 := X10_32.ko hk51 (allc (.inr (by omega)) (allc (.inl (by omega)) (allc (.inr (by omega)) (allc (.inr (by omega)) (allc (.inr (by omega)) (allc (.inr (by omega)) (allc (.inl (by omega)) (allc (.inl (by omega)) (allc (.inl (by omega)) all0)))))))))
                  have P12_51 := P12_32.ko hk51 (allc (.inr (by omega)) (allc (.inl (by omega)) (allc (.inr (by omega)) (allc (.inr (by omega)) (allc (.inr (by omega)) (allc (.inr (by omega)) (allc (.inl (by omega)) (allc (.inl (by omega)) (allc (.inl (by omega)) all0)))))))))
                  have F12_51 := F12_32.ko hk51 (allc (.inr (by omega)) (allc (.inl (by omega)) (allc (.inr (by omega)) (allc (.inr (by omega)) (allc (.inr (by omega)) (allc (.inr (by omega)) (allc (.inl (by omega)) (allc (.inl (by omega)) (allc (.inl (by omega)) all0)))))))))
                  have hs1_51 := hs1_32.ko hk51 (allc (.inr (by omega)) (allc (.inl (by omega)) (allc (.inr (by omega)) (allc (.inr (by omega)) (allc (.inr (by omega)) (allc (.inr (by omega)) (allc (.inl (by omega)) (allc (.inl (by omega)) (allc (.inl (by omega)) all0)))))))))
                  have P16_51 := P16_32.ko hk51 (allc (.inr (by omega)) (allc (.inl (by omega)) (allc (.inr (by omega)) (allc (.inr (by omega)) (allc d1_m26 (allc d1_m25 (allc (.inl (by omega)) (allc (.inl (by omega)) (allc (.inl (by omega)) all0)))))))))
                  have F16_51 := F16_32.ko hk51 (allc (.inr (by omega)) (allc (.inl (by omega)) (allc (.inr (by omega)) (allc (.inr (by omega)) (allc d1_m26 (allc d1_m25 (allc (.inl (by omega)) (allc (.inl (by omega)) (allc (.inl (by omega)) all0)))))))))
                  exact ⟨by first | rfl | exact absurd rfl (by assumption) | (exfalso; rcases good_cases W x with ⟨q0, q1⟩ | ⟨q0, q1, q2⟩ | ⟨q0, q1, q2⟩ <;> simp [q0, q1] at h2 h4 h6 h8 h10 h12 h24 h25 h29 <;> (first | omega | (simp [q2] at h2 h4 h6 h8 h10 h12 h24 h25 h29; done) | (simp [q2] at h2 h4 h6 h8 h10 h12 h24 h25 h29; omega))), hb51⟩
end Go.Proofs.R12
end
section
/- The laws' arguments, opened: works, pieces. -/
namespace Go.Proofs.R12
open Go.Vc Go.RowKit Go.Proofs
theorem leaves_works : leaves Try.prog 7 25 = some [.sl [.sl [Li, Li]], .sl [Li, Li, Li, Li, Li, Li]] := by kernel_rfl
theorem agg_works : isAggB Try.prog 25 = true := by kernel_rfl
theorem leaves_piece : leaves Try.prog 5 40 = some [Li, .sl [Li]] := by kernel_rfl
theorem agg_piece : isAggB Try.prog 40 = true := by kernel_rfl
theorem leaves_read : leaves Try.prog 5 44 = some [Li, Li, Li, Li] := by kernel_rfl
theorem agg_read : isAggB Try.prog 44 = true := by kernel_rfl
section
variable {w : World}
theorem flat_map1 {α : Type} {f : α → Value} (l : List α) : (l.flatMap fun y => [f y]) = l.map f := by
  induction l with
  | nil => rfl
  | cons a l ih => rw [List.flatMap_cons, ih]; rfl
theorem flat_one {α : Type} {f : α → Value} {l : List α} {i : Nat} {x : α} (h : l[i]? = some x) : (l.flatMap fun y => [f y])[i]? = some (f x) := by
  rw [flat_map1, List.getElem?_map, h]; rfl
theorem take_pats {v : Value} (h : LeafIs w (.sl [.sl [Li, Li]]) v) : ∃ a c, ∃ ps : List (List Sp), v = .slice a ps.length c ∧ ps.length ≤ maxLen ∧ CellsS w a ps := by
  obtain ⟨a, c, l, rfl, h1, h2, h3, h4⟩ := h.sl' (fun x : (Option Addr × Nat) × List Sp => [.slice x.1.1 x.2.length x.1.2]) (fun x => Cells w x.1.1 (spansV x.2)) fun x hx => by
    obtain ⟨v, r, rfl, g1, hx⟩ := hx.cons'
    rw [hx.nil']
    obtain ⟨a, c, l, rfl, k1, k2, k3, _⟩ := g1.sl' (fun s : Sp => [I s.1, I s.2]) (fun _ => True) fun x hx => by
      obtain ⟨x0, _, rfl, g0, hx⟩ := take_int hx
      obtain ⟨x1, _, rfl, g1, hx⟩ := take_int hx
      rw [hx.nil']
      exact ⟨(x0, x1), rfl, trivial⟩
    exact ⟨((a, c), l), rfl, k3⟩
  refine ⟨a, c, l.map (·.2), by rw [List.length_map], by rw [List.length_map]; omega, fun i p hi => ?_⟩
  rw [List.getElem?_map] at hi
  obtain ⟨x, hx, rfl⟩ := Option.map_eq_some_iff.1 hi
  obtain ⟨b, o, e, hc⟩ := h3 i _ (flat_one hx)
  exact ⟨b, o, _, _, e, hc, h4 x (List.mem_of_getElem? hx)⟩
theorem take_fits {v : Value} (h : LeafIs w (.sl [Li, Li, Li, Li, Li, Li]) v) : ∃ a c, ∃ l : List Fit, v = .slice a l.length c ∧ l.length ≤ maxLen ∧ Cells w a (fitsV l) := by
  obtain ⟨a, c, l, rfl, h1, h2, h3, _⟩ := h.sl' (fun f : Fit => f.cells) (fun _ => True) fun x hx => by
    obtain ⟨x0, _, rfl, g0, hx⟩ := take_int hx
    obtain ⟨x1, _, rfl, g1, hx⟩ := take_int hx
    obtain ⟨x2, _, rfl, g2, hx⟩ := take_int hx
    obtain ⟨x3, _, rfl, g3, hx⟩ := take_int hx
    obtain ⟨x4, _, rfl, g4, hx⟩ := take_int hx
    obtain ⟨x5, _, rfl, g5, hx⟩ := take_int hx
    rw [hx.nil']
    exact ⟨⟨x0, x1, x2, x3, (x4, x5)⟩, rfl, trivial⟩
  exact ⟨a, c, l, rfl, Nat.le_trans h1 h2, h3⟩
end
section
variable {w : World} {H : Type} {enc : TypeId × Value → H} {base b0 : Nat} {held : Bool} {spare : Nat → Bool} {reach : Reach}
set_option maxRecDepth 100000 in
theorem open_works {v : Value} {d : DataW H} {ps : List MemPlace} (hv : Value.okWide Try.prog w reach b0 25 v) (hd : DataW.Trod enc Try.prog w base spare held 25 v d ps) : ∃ W : Wk, ∃ pa pc fa fc, v = W.v pa pc fa fc ∧ CellsS w pa W.pats ∧ Cells w fa (fitsV W.fits) := by
  obtain ⟨cs, rfl, h⟩ := open_agg agg_works leaves_works hv hd
  obtain ⟨v0, r, rfl, h1, h⟩ := h.cons'
  obtain ⟨v1, r, rfl, h2, h⟩ := h.cons'
  rw [h.nil']
  obtain ⟨pa, pc, ps, rfl, _, hp⟩ := take_pats h1
  obtain ⟨fa, fc, fs, rfl, _, hf⟩ := take_fits h2
  exact ⟨⟨ps, fs⟩, pa, pc, fa, fc, rfl, hp, hf⟩
set_option maxRecDepth 100000 in
theorem open_piece {v : Value} {d : DataW H} {ps : List MemPlace} (hv : Value.okWide Try.prog w reach b0 40 v) (hd : DataW.Trod enc Try.prog w base spare held 40 v d ps) : ∃ x : Piece, ∃ a c, v = .agg #[I x.pat, .slice a x.sizes.length c] ∧ Cells w a (ints x.sizes) := by
  obtain ⟨cs, rfl, h⟩ := open_agg agg_piece leaves_piece hv hd
  obtain ⟨x0, _, rfl, g0, h⟩ := take_int h
  obtain ⟨v1, r, rfl, h1, h⟩ := h.cons'
  rw [h.nil']
  obtain ⟨a, c, l, rfl, _, hc⟩ := take_ints h1
  exact ⟨⟨x0, l⟩, a, c, rfl, hc⟩
set_option maxRecDepth 100000 in
theorem open_read {v : Value} {d : DataW H} {ps : List MemPlace} (hv : Value.okWide Try.prog w reach b0 44 v) (hd : DataW.Trod enc Try.prog w base spare held 44 v d ps) : ∃ x0 x1 x2 x3 : Int, v = .agg #[I x0, I x1, I x2, I x3] := by
  obtain ⟨cs, rfl, h⟩ := open_agg agg_read leaves_read hv hd
  obtain ⟨x0, _, rfl, g0, h⟩ := take_int h
  obtain ⟨x1, _, rfl, g1, h⟩ := take_int h
  obtain ⟨x2, _, rfl, g2, h⟩ := take_int h
  obtain ⟨x3, _, rfl, g3, h⟩ := take_int h
  rw [h.nil']
  exact ⟨x0, x1, x2, x3, rfl⟩
end
end Go.Proofs.R12
end
