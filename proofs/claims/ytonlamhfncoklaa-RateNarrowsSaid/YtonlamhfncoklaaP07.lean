/- Part 7: own lemmas, and the conditions of the functions. -/
import Derived.Test.YtonlamhfncoklaaProg
import Derived.Test.YtonlamhfncoklaaP06
section
/- The conditions of the functions, printed by program; each is what the generator reckons (kernel_rfl). -/
namespace Go.Proofs
open Go.Vc
set_option maxRecDepth 100000 in
set_option maxHeartbeats 2000000 in
theorem vc31 (s0 : Int) (s1 : Int) (s2 : Int) (s3 : Int) (s4 : Int) (s5a : Option Addr) (s5n : Nat) (s5c : Nat) (w : World) (R : Ending → World → Prop) (h : ∀ (m1 : Nat),
    w.heap.size ≤ m1 → ∀ (m2 : Nat), w.heap.size ≤ m2 → (-9223372036854775808 ≤ s0 ∧ s0 ≤ 9223372036854775807) ∧ (20 : Int) ≠ 0 ∧ (-9223372036854775808 ≤ s1 ∧ s1 ≤
    9223372036854775807) ∧ (5 : Int) ≠ 0 ∧ (-9223372036854775808 ≤ s2 ∧ s2 ≤ 9223372036854775807) ∧ (30 : Int) ≠ 0 ∧ ((-9223372036854775808 : Int) ≤ 1 + s2.tmod 30 ∧ 1 + s2.tmod
    (30 : Int) ≤ 9223372036854775807) ∧ (-9223372036854775808 ≤ s4 ∧ s4 ≤ 9223372036854775807) ∧ (5 : Int) ≠ 0 ∧ ∀ (m3 : Nat), w.heap.size ≤ m3 → (-9223372036854775808 ≤ s3 ∧ s3 ≤
    9223372036854775807) ∧ (10 : Int) ≠ 0 ∧ ((-9223372036854775808 : Int) ≤ 1 + s2.tmod 30 + s3.tmod 10 ∧ 1 + s2.tmod 30 + s3.tmod (10 : Int) ≤ 9223372036854775807) ∧ ∃ (F1 : List
    Lf → World → Prop), ∃ (F2 : List Lf → Nat), (∀ (w2 : World), RowKit.Below w.heap.size w w2 → Kept [m3, m2, m1] w w2 → F1 [Lf.int IntKind.i64 0, Lf.int IntKind.i64 (s0.tmod 20),
    Lf.int IntKind.i64 (s1.tmod 5), Lf.int IntKind.i64 (1 + s2.tmod 30), Lf.int IntKind.i64 (1 + s2.tmod 30 + s3.tmod 10), Lf.int IntKind.i64 (s4.tmod 5), Lf.sl none 0 0] w2) ∧ ∀
    (x1 x2 x3 x4 x5 x6 : Int) (a1 : Option Addr) (m4 m5 : Nat) (w3 : World), RowKit.Below w.heap.size w w3 → F1 [Lf.int IntKind.i64 x1, Lf.int IntKind.i64 x2, Lf.int IntKind.i64
    x3, Lf.int IntKind.i64 x4, Lf.int IntKind.i64 x5, Lf.int IntKind.i64 x6, Lf.sl a1 m4 m5] w3 → (x1 < (↑s5n : Int) → (x1 < 2 → ∃ (m6 : Nat), ∃ (m7 : Nat), s5a = some
    { block := m6, off := m7 } ∧ (0 ≤ x1 ∧ x1 < (↑s5n : Int)) ∧ ((0 : Int) ≤ 0 ∧ 0 < (↑2 : Int)) ∧ ∃ (x7 : Int), w3.cell?
    { block := m6, off := m7 + x1.toNat * 2 + Int.toNat 0 * 1 } = some (Value.int IntKind.u8 x7) ∧ (m6 < w.heap.size ∨ m6 ≠ m3 ∧ m6 ≠ m2 ∧ m6 ≠ m1) ∧ (-9223372036854775808 ≤ x7 ∧
    x7 ≤ 9223372036854775807) ∧ (20 : Int) ≠ 0 ∧ ((-9223372036854775808 : Int) ≤ 1 + x7.tmod 20 ∧ 1 + x7.tmod (20 : Int) ≤ 9223372036854775807) ∧ ∃ (m8 : Nat), ∃ (m9 : Nat), s5a =
    some { block := m8, off := m9 } ∧ (0 ≤ x1 ∧ x1 < (↑s5n : Int)) ∧ ((0 : Int) ≤ 1 ∧ 1 < (↑2 : Int)) ∧ ∃ (x8 : Int), w3.cell?
    { block := m8, off := m9 + x1.toNat * 2 + Int.toNat 1 * 1 } = some (Value.int IntKind.u8 x8) ∧ (m8 < w.heap.size ∨ m8 ≠ m3 ∧ m8 ≠ m2 ∧ m8 ≠ m1) ∧ (-9223372036854775808 ≤ x8 ∧
    x8 ≤ 9223372036854775807) ∧ (6 : Int) ≠ 0 ∧ ((-9223372036854775808 : Int) ≤ 1 + x7.tmod 20 + x8.tmod 6 ∧ 1 + x7.tmod 20 + x8.tmod (6 : Int) ≤ 9223372036854775807) ∧ ∀ (m10 :
    Nat), w3.heap.size ≤ m10 → ∀ (w4 : World), RowKit.Below w.heap.size w w4 → KeptIn [(0, w3.heap.size)] [m10, m3, m2, m1] w3 w4 → w4.heap[m10]? = some (Obj.cells #[Value.int
    IntKind.i64 (1 + x7.tmod 20), Value.int IntKind.i64 (1 + x7.tmod 20 + x8.tmod 6)] 23) → RunsTo Try.prog (Builtin.append_ #[24, 24] 24 #[Value.slice a1 m4 m5, Value.slice (some
    { block := m10, off := 0 }) 1 1]) w4 fun (v1 : Value) (w5 : World) => ∃ (a2 : Option Addr), ∃ (m12 : Nat), ∃ (m13 : Nat), v1 = Value.slice a2 m12 m13 ∧ KeepX true w.heap.size
    [m10, m3, m2, m1] (fun (m14 : Nat) => False) w4 w5 ∧ (-9223372036854775808 ≤ x1 + 1 ∧ x1 + (1 : Int) ≤ 9223372036854775807) ∧ ∀ (w6 : World), RowKit.Below w.heap.size w w6 →
    Kept [m10, m3, m2, m1] w5 w6 → F1 [Lf.int IntKind.i64 (x1 + 1), Lf.int IntKind.i64 x2, Lf.int IntKind.i64 x3, Lf.int IntKind.i64 x4, Lf.int IntKind.i64 x5, Lf.int IntKind.i64
    x6, Lf.sl a2 m12 m13] w6 ∧ F2 [Lf.int IntKind.i64 (x1 + 1), Lf.int IntKind.i64 x2, Lf.int IntKind.i64 x3, Lf.int IntKind.i64 x4, Lf.int IntKind.i64 x5, Lf.int IntKind.i64 x6,
    Lf.sl a2 m12 m13] < F2 [Lf.int IntKind.i64 x1, Lf.int IntKind.i64 x2, Lf.int IntKind.i64 x3, Lf.int IntKind.i64 x4, Lf.int IntKind.i64 x5, Lf.int IntKind.i64 x6, Lf.sl a1 m4
    m5]) ∧ (2 ≤ x1 → ∀ (w7 : World), RowKit.Below w.heap.size w w7 → Kept [m3, m2, m1] w3 w7 → R (Ending.returned (Value.agg #[Value.int IntKind.i64 x2, Value.int IntKind.i64 x3,
    Value.int IntKind.i64 x4, Value.int IntKind.i64 x5, Value.int IntKind.i64 x6, Value.slice a1 m4 m5])) w7)) ∧ ((↑s5n : Int) ≤ x1 → ∀ (w8 : World), RowKit.Below w.heap.size w w8
    → Kept [m3, m2, m1] w3 w8 → R (Ending.returned (Value.agg #[Value.int IntKind.i64 x2, Value.int IntKind.i64 x3, Value.int IntKind.i64 x4, Value.int IntKind.i64 x5, Value.int
    IntKind.i64 x6, Value.slice a1 m4 m5])) w8)) : Calls Try.prog 31 #[Value.agg #[Value.int IntKind.u8 s0, Value.int IntKind.u8 s1, Value.int IntKind.u8 s2, Value.int IntKind.u8
    s3, Value.int IntKind.u8 s4, Value.slice s5a s5n s5c]] w R := calls_of_vc (pure := true) (wrapAt := []) (muts := [3]) (esc := []) (args := [SV.pv (PV.agg [Lf.int IntKind.u8 s0,
    Lf.int IntKind.u8 s1, Lf.int IntKind.u8 s2, Lf.int IntKind.u8 s3, Lf.int IntKind.u8 s4, Lf.sl s5a s5n s5c])]) (vs := [Value.agg #[Value.int IntKind.u8 s0, Value.int IntKind.u8
    s1, Value.int IntKind.u8 s2, Value.int IntKind.u8 s3, Value.int IntKind.u8 s4, Value.slice s5a s5n s5c]]) Try.func31 rfl rfl rfl (Eq.mp (by kernel_rfl) h) 
set_option maxRecDepth 100000 in
set_option maxHeartbeats 2000000 in
theorem vc32 (r0 : Int) (r1 : Int) (r2 : Int) (r3 : Int) (r4 : Int) (r5a : Option Addr) (r5n : Nat) (r5c : Nat) (p1by0 : Int) (p1by1 : Int) (p1by2 : Int) (w : World) (R : Ending →
    World → Prop) (h : ∀ (m1 : Nat), w.heap.size ≤ m1 → ∀ (m2 : Nat), w.heap.size ≤ m2 → ∀ (m3 : Nat), w.heap.size ≤ m3 → (-9223372036854775808 ≤ p1by0 ∧ p1by0 ≤
    9223372036854775807) ∧ (-9223372036854775808 ≤ p1by0 - 128 ∧ p1by0 - (128 : Int) ≤ 9223372036854775807) ∧ ∀ (m4 : Nat), w.heap.size ≤ m4 → (-9223372036854775808 ≤ p1by1 ∧ p1by1
    ≤ 9223372036854775807) ∧ (30 : Int) ≠ 0 ∧ (-9223372036854775808 ≤ p1by0 - 128 + p1by1.tmod 30 ∧ p1by0 - 128 + p1by1.tmod (30 : Int) ≤ 9223372036854775807) ∧ ∃ (F1 : List Lf →
    World → Prop), ∃ (F2 : List Lf → Nat), (∀ (w2 : World), RowKit.Below w.heap.size w w2 → Kept [m4, m3, m2, m1] w w2 → F1 [Lf.int IntKind.i64 0, Lf.int IntKind.i64 (p1by0 - 128),
    Lf.int IntKind.i64 (p1by0 - 128 + p1by1.tmod 30), Lf.sl none 0 0] w2) ∧ ∀ (x1 x2 x3 : Int) (a1 : Option Addr) (m5 m6 : Nat) (w3 : World), RowKit.Below w.heap.size w w3 → F1
    [Lf.int IntKind.i64 x1, Lf.int IntKind.i64 x2, Lf.int IntKind.i64 x3, Lf.sl a1 m5 m6] w3 → (x1 < (↑r5n : Int) → (0 ≤ x1 ∧ x1 ≤ 18446744073709551615) ∧ 0 ≤ x1 ∧ ∀ (m7 : Nat),
    w3.heap.size ≤ m7 → ∀ (w4 : World), RowKit.Below w.heap.size w w4 → Kept [m7, m4, m3, m2, m1] w3 w4 → w4.heap[m7]? = some (Obj.cells #[Value.bool (IntKind.u8.wrap
    (↑(BitVec.ofInt IntKind.u8.bits (p1by2.fdiv (2 ^ min x1.toNat IntKind.u8.bits)) &&& BitVec.ofInt IntKind.u8.bits 1).toNat : Int) == 1)] 4) → RunsTo Try.prog (Builtin.append_
    #[27, 27] 27 #[Value.slice a1 m5 m6, Value.slice (some { block := m7, off := 0 }) 1 1]) w4 fun (v1 : Value) (w5 : World) => ∃ (a2 : Option Addr), ∃ (m9 : Nat), ∃ (m10 : Nat),
    v1 = Value.slice a2 m9 m10 ∧ KeepX true w.heap.size [m7, m4, m3, m2, m1] (fun (m11 : Nat) => False) w4 w5 ∧ (-9223372036854775808 ≤ x1 + 1 ∧ x1 + (1 : Int) ≤
    9223372036854775807) ∧ ∀ (w6 : World), RowKit.Below w.heap.size w w6 → Kept [m7, m4, m3, m2, m1] w5 w6 → F1 [Lf.int IntKind.i64 (x1 + 1), Lf.int IntKind.i64 x2, Lf.int
    IntKind.i64 x3, Lf.sl a2 m9 m10] w6 ∧ F2 [Lf.int IntKind.i64 (x1 + 1), Lf.int IntKind.i64 x2, Lf.int IntKind.i64 x3, Lf.sl a2 m9 m10] < F2 [Lf.int IntKind.i64 x1, Lf.int
    IntKind.i64 x2, Lf.int IntKind.i64 x3, Lf.sl a1 m5 m6]) ∧ ((↑r5n : Int) ≤ x1 → ∀ (w7 : World), RowKit.Below w.heap.size w w7 → Kept [m4, m3, m2, m1] w3 w7 → R (Ending.returned
    (Value.agg #[Value.int IntKind.i64 x2, Value.int IntKind.i64 x3, Value.slice a1 m5 m6])) w7)) : Calls Try.prog 32 #[Value.agg #[Value.int IntKind.i64 r0, Value.int IntKind.i64
    r1, Value.int IntKind.i64 r2, Value.int IntKind.i64 r3, Value.int IntKind.i64 r4, Value.slice r5a r5n r5c], Value.agg #[Value.int IntKind.u8 p1by0, Value.int IntKind.u8 p1by1,
    Value.int IntKind.u8 p1by2]] w R := calls_of_vc (pure := true) (wrapAt := []) (muts := [5]) (esc := []) (args := [SV.pv (PV.agg [Lf.int IntKind.i64 r0, Lf.int IntKind.i64 r1,
    Lf.int IntKind.i64 r2, Lf.int IntKind.i64 r3, Lf.int IntKind.i64 r4, Lf.sl r5a r5n r5c]), SV.pv (PV.agg [Lf.int IntKind.u8 p1by0, Lf.int IntKind.u8 p1by1, Lf.int IntKind.u8
    p1by2])]) (vs := [Value.agg #[Value.int IntKind.i64 r0, Value.int IntKind.i64 r1, Value.int IntKind.i64 r2, Value.int IntKind.i64 r3, Value.int IntKind.i64 r4, Value.slice r5a
    r5n r5c], Value.agg #[Value.int IntKind.u8 p1by0, Value.int IntKind.u8 p1by1, Value.int IntKind.u8 p1by2]]) Try.func32 rfl rfl rfl (Eq.mp (by kernel_rfl) h) 
set_option maxRecDepth 100000 in
set_option maxHeartbeats 2000000 in
theorem vc33 (low : Int) (high : Int) (n : Int) (w : World) (R : Ending → World → Prop) (h : (-9223372036854775808 ≤ high - low ∧ high - low ≤ 9223372036854775807) ∧
    (-9223372036854775808 ≤ n * (high - low) ∧ n * (high - low) ≤ 9223372036854775807) ∧ ((255 : Int) ≠ 0 ∧ -9223372036854775808 ≤ (n * (high - low)).tdiv 255 ∧ (n * (high -
    low)).tdiv (255 : Int) ≤ 9223372036854775807) ∧ (-9223372036854775808 ≤ low + (n * (high - low)).tdiv 255 ∧ low + (n * (high - low)).tdiv (255 : Int) ≤ 9223372036854775807) ∧ ∀
    (w1 : World), RowKit.Below w.heap.size w w1 → Kept [] w w1 → R (Ending.returned (Value.int IntKind.i64 (low + (n * (high - low)).tdiv 255))) w1) : Calls Try.prog 33 #[Value.int
    IntKind.i64 low, Value.int IntKind.i64 high, Value.int IntKind.i64 n] w R := calls_of_vc (pure := true) (wrapAt := []) (muts := []) (esc := []) (args := [SV.pv (PV.one (Lf.int
    IntKind.i64 low)), SV.pv (PV.one (Lf.int IntKind.i64 high)), SV.pv (PV.one (Lf.int IntKind.i64 n))]) (vs := [Value.int IntKind.i64 low, Value.int IntKind.i64 high, Value.int
    IntKind.i64 n]) Try.func33 rfl rfl rfl (Eq.mp (by kernel_rfl) h) 
set_option maxRecDepth 100000 in
set_option maxHeartbeats 2000000 in
theorem vc35 (r0 : Int) (r1 : Int) (r2 : Int) (r3 : Int) (r4 : Int) (r5a : Option Addr) (r5n : Nat) (r5c : Nat) (a0 : Int) (a1 : Int) (w : World) (R : Ending → World → Prop) (h : ∀
    (m1 : Nat), w.heap.size ≤ m1 → ∀ (m2 : Nat), w.heap.size ≤ m2 → (0 ≤ a1 → ((↑r5n : Int) ≤ a1 → ∀ (w1 : World), RowKit.Below w.heap.size w w1 → Kept [m2, m1] w w1 → R
    (Ending.returned (Value.tuple #[Value.int IntKind.i64 0, Value.int IntKind.i64 0, Value.bool false])) w1) ∧ (a1 < (↑r5n : Int) → (a0 ≠ 0 → ∀ (w2 : World), RowKit.Below
    w.heap.size w w2 → Kept [m2, m1] w w2 → R (Ending.returned (Value.tuple #[Value.int IntKind.i64 0, Value.int IntKind.i64 0, Value.bool false])) w2) ∧ (a0 = 0 → ∃ (m3 : Nat), ∃
    (m4 : Nat), r5a = some { block := m3, off := m4 } ∧ (0 ≤ a1 ∧ a1 < (↑r5n : Int)) ∧ ∃ (x1 : Int), w.cell? { block := m3, off := m4 + a1.toNat * 2 + 0 } = some (Value.int
    IntKind.i64 x1) ∧ (m3 < w.heap.size ∨ m3 ≠ m2 ∧ m3 ≠ m1) ∧ ∃ (m5 : Nat), ∃ (m6 : Nat), r5a = some { block := m5, off := m6 } ∧ (0 ≤ a1 ∧ a1 < (↑r5n : Int)) ∧ ∃ (x2 : Int),
    w.cell? { block := m5, off := m6 + a1.toNat * 2 + 1 } = some (Value.int IntKind.i64 x2) ∧ (m5 < w.heap.size ∨ m5 ≠ m2 ∧ m5 ≠ m1) ∧ ∀ (w3 : World), RowKit.Below w.heap.size w w3
    → Kept [m2, m1] w w3 → R (Ending.returned (Value.tuple #[Value.int IntKind.i64 x1, Value.int IntKind.i64 x2, Value.bool true])) w3))) ∧ (a1 < 0 → (-9223372036854775808 ≤ a0 *
    r2 ∧ a0 * r2 ≤ 9223372036854775807) ∧ (-9223372036854775808 ≤ a0 * r3 ∧ a0 * r3 ≤ 9223372036854775807) ∧ (a1 = -1 → ((-9223372036854775808 : Int) ≤ 0 - r4 ∧ 0 - r4 ≤
    9223372036854775807) ∧ (0 - r4 ≤ a0 → ∀ (w4 : World), RowKit.Below w.heap.size w w4 → Kept [m2, m1] w w4 → R (Ending.returned (Value.tuple #[Value.int IntKind.i64 (min (a0 *
    r2) (a0 * r3)), Value.int IntKind.i64 (max (a0 * r2) (a0 * r3)), Value.bool (decide (a0 ≤ r4))])) w4) ∧ (a0 < 0 - r4 → ∀ (w5 : World), RowKit.Below w.heap.size w w5 → Kept [m2,
    m1] w w5 → R (Ending.returned (Value.tuple #[Value.int IntKind.i64 (min (a0 * r2) (a0 * r3)), Value.int IntKind.i64 (max (a0 * r2) (a0 * r3)), Value.bool false])) w5)) ∧ (a1 ≠
    -1 → ∀ (w6 : World), RowKit.Below w.heap.size w w6 → Kept [m2, m1] w w6 → R (Ending.returned (Value.tuple #[Value.int IntKind.i64 (min (a0 * r2) (a0 * r3)), Value.int
    IntKind.i64 (max (a0 * r2) (a0 * r3)), Value.bool false])) w6))) : Calls Try.prog 35 #[Value.agg #[Value.int IntKind.i64 r0, Value.int IntKind.i64 r1, Value.int IntKind.i64 r2,
    Value.int IntKind.i64 r3, Value.int IntKind.i64 r4, Value.slice r5a r5n r5c], Value.agg #[Value.int IntKind.i64 a0, Value.int IntKind.i64 a1]] w R := calls_of_vc (pure := true)
    (wrapAt := []) (muts := []) (esc := []) (args := [SV.pv (PV.agg [Lf.int IntKind.i64 r0, Lf.int IntKind.i64 r1, Lf.int IntKind.i64 r2, Lf.int IntKind.i64 r3, Lf.int IntKind.i64
    r4, Lf.sl r5a r5n r5c]), SV.pv (PV.agg [Lf.int IntKind.i64 a0, Lf.int IntKind.i64 a1])]) (vs := [Value.agg #[Value.int IntKind.i64 r0, Value.int IntKind.i64 r1, Value.int
    IntKind.i64 r2, Value.int IntKind.i64 r3, Value.int IntKind.i64 r4, Value.slice r5a r5n r5c], Value.agg #[Value.int IntKind.i64 a0, Value.int IntKind.i64 a1]]) Try.func35 rfl
    rfl rfl (Eq.mp (by kernel_rfl) h) 
set_option maxRecDepth 100000 in
set_option maxHeartbeats 2000000 in
theorem vc36 (s0 : Int) (s1 : Int) (p1by : Int) (w : World) (R : Ending → World → Prop) (h : ∀ (m1 : Nat), w.heap.size ≤ m1 → ∀ (m2 : Nat), w.heap.size ≤ m2 → (-9223372036854775808
    ≤ s1 - s0 ∧ s1 - s0 ≤ 9223372036854775807) ∧ (-9223372036854775808 ≤ p1by * (s1 - s0) ∧ p1by * (s1 - s0) ≤ 9223372036854775807) ∧ ((255 : Int) ≠ 0 ∧ -9223372036854775808 ≤
    (p1by * (s1 - s0)).tdiv 255 ∧ (p1by * (s1 - s0)).tdiv (255 : Int) ≤ 9223372036854775807) ∧ (-9223372036854775808 ≤ s0 + (p1by * (s1 - s0)).tdiv 255 ∧ s0 + (p1by * (s1 -
    s0)).tdiv (255 : Int) ≤ 9223372036854775807) ∧ (-9223372036854775808 ≤ s0 + (s0 + (p1by * (s1 - s0)).tdiv 255) ∧ s0 + (s0 + (p1by * (s1 - s0)).tdiv 255) ≤ 9223372036854775807)
    ∧ (0 : Int) ≤ 1 ∧ (-9223372036854775808 ≤ s1 + (s0 + (p1by * (s1 - s0)).tdiv 255) ∧ s1 + (s0 + (p1by * (s1 - s0)).tdiv 255) ≤ 9223372036854775807) ∧ (-9223372036854775808 ≤ s1
    + (s0 + (p1by * (s1 - s0)).tdiv 255) + 1 ∧ s1 + (s0 + (p1by * (s1 - s0)).tdiv 255) + (1 : Int) ≤ 9223372036854775807) ∧ (0 : Int) ≤ 1 ∧ ∀ (w1 : World), RowKit.Below w.heap.size
    w w1 → Kept [m2, m1] w w1 → R (Ending.returned (Value.agg #[Value.int IntKind.i64 ((s0 + (s0 + (p1by * (s1 - s0)).tdiv 255)).fdiv (2 ^ min (Int.toNat 1) IntKind.i64.bits)),
    Value.int IntKind.i64 ((s1 + (s0 + (p1by * (s1 - s0)).tdiv 255) + 1).fdiv (2 ^ min (Int.toNat 1) IntKind.i64.bits))])) w1) : Calls Try.prog 36 #[Value.agg #[Value.int
    IntKind.i64 s0, Value.int IntKind.i64 s1], Value.int IntKind.i64 p1by] w R := calls_of_vc (pure := true) (wrapAt := []) (muts := []) (esc := []) (args := [SV.pv (PV.agg [Lf.int
    IntKind.i64 s0, Lf.int IntKind.i64 s1]), SV.pv (PV.one (Lf.int IntKind.i64 p1by))]) (vs := [Value.agg #[Value.int IntKind.i64 s0, Value.int IntKind.i64 s1], Value.int
    IntKind.i64 p1by]) Try.func36 rfl rfl rfl (Eq.mp (by kernel_rfl) h) 
set_option maxRecDepth 100000 in
set_option maxHeartbeats 2000000 in
theorem vc6 (x0 : Int) (x1 : Int) (x2 : Int) (x3 : Int) (x4 : Int) (x5a : Option Addr) (x5n : Nat) (x5c : Nat) (p1at0 : Int) (p1at1 : Int) (p1at2 : Int) (p2bya : Option Addr)
    (p2byn : Nat) (p2byc : Nat) (w : World) (R : Ending → World → Prop) (h : ∀ (m1 : Nat), w.heap.size ≤ m1 → ∀ (m2 : Nat), w.heap.size ≤ m2 → ∀ (w1 : World), RowKit.Below
    w.heap.size w w1 → Kept [m2, m1] w w1 → Calls Try.prog 31 #[Value.agg #[Value.int IntKind.u8 x0, Value.int IntKind.u8 x1, Value.int IntKind.u8 x2, Value.int IntKind.u8 x3,
    Value.int IntKind.u8 x4, Value.slice x5a x5n x5c]] w1 fun (e1 : Ending) (w2 : World) => ∃ (x1 : Int), ∃ (x2 : Int), ∃ (x3 : Int), ∃ (x4 : Int), ∃ (x5 : Int), ∃ (a1 : Option
    Addr), ∃ (m3 : Nat), ∃ (m4 : Nat), e1 = Ending.returned (Value.agg #[Value.int IntKind.i64 x1, Value.int IntKind.i64 x2, Value.int IntKind.i64 x3, Value.int IntKind.i64 x4,
    Value.int IntKind.i64 x5, Value.slice a1 m3 m4]) ∧ KeepX true w.heap.size [m2, m1] (fun (m5 : Nat) => False) w1 w2 ∧ ∀ (m6 : Nat), w2.heap.size ≤ m6 → ∀ (w3 : World),
    RowKit.Below w.heap.size w w3 → Kept [m6, m2, m1] w2 w3 → Calls Try.prog 32 #[Value.agg #[Value.int IntKind.i64 x1, Value.int IntKind.i64 x2, Value.int IntKind.i64 x3,
    Value.int IntKind.i64 x4, Value.int IntKind.i64 x5, Value.slice a1 m3 m4], Value.agg #[Value.int IntKind.u8 p1at0, Value.int IntKind.u8 p1at1, Value.int IntKind.u8 p1at2]] w3
    fun (e2 : Ending) (w4 : World) => ∃ (x6 : Int), ∃ (x7 : Int), ∃ (a2 : Option Addr), ∃ (m7 : Nat), ∃ (m8 : Nat), e2 = Ending.returned (Value.agg #[Value.int IntKind.i64 x6,
    Value.int IntKind.i64 x7, Value.slice a2 m7 m8]) ∧ KeepX true w.heap.size [m6, m2, m1] (fun (m9 : Nat) => False) w3 w4 ∧ ∀ (m10 : Nat), w4.heap.size ≤ m10 → ∀ (w5 : World),
    RowKit.Below w.heap.size w w5 → KeptIn [(0, w4.heap.size)] [m10, m6, m2, m1] w4 w5 → Calls Try.prog 13 #[Value.agg #[Value.int IntKind.i64 x1, Value.int IntKind.i64 x2,
    Value.int IntKind.i64 x3, Value.int IntKind.i64 x4, Value.int IntKind.i64 x5, Value.slice a1 m3 m4]] w5 fun (e3 : Ending) (w6 : World) => ∃ (x8 : Int), ∃ (x9 : Int), ∃ (x10 :
    Int), ∃ (x11 : Int), ∃ (x12 : Int), ∃ (a3 : Option Addr), ∃ (m11 : Nat), ∃ (m12 : Nat), e3 = Ending.returned (Value.agg #[Value.int IntKind.i64 x8, Value.int IntKind.i64 x9,
    Value.int IntKind.i64 x10, Value.int IntKind.i64 x11, Value.int IntKind.i64 x12, Value.slice a3 m11 m12]) ∧ KeepX true w.heap.size [m10, m6, m2, m1] (fun (m13 : Nat) => False)
    w5 w6 ∧ ∀ (w7 : World), RowKit.Below w.heap.size w w7 → KeptIn [(0, w6.heap.size)] [m10, m6, m2, m1] w6 w7 → Calls Try.prog 14 #[Value.agg #[Value.int IntKind.i64 x6, Value.int
    IntKind.i64 x7, Value.slice a2 m7 m8]] w7 fun (e4 : Ending) (w8 : World) => ∃ (x13 : Int), ∃ (x14 : Int), ∃ (a4 : Option Addr), ∃ (m14 : Nat), ∃ (m15 : Nat), e4 =
    Ending.returned (Value.agg #[Value.int IntKind.i64 x13, Value.int IntKind.i64 x14, Value.slice a4 m14 m15]) ∧ KeepX true w.heap.size [m10, m6, m2, m1] (fun (m16 : Nat) =>
    False) w7 w8 ∧ ∀ (w9 : World), RowKit.Below w.heap.size w w9 → KeptIn [(0, w8.heap.size)] [m10, m6, m2, m1] w8 w9 → Calls Try.prog 24 #[Value.agg #[Value.int IntKind.i64 x8,
    Value.int IntKind.i64 x9, Value.int IntKind.i64 x10, Value.int IntKind.i64 x11, Value.int IntKind.i64 x12, Value.slice a3 m11 m12], Value.agg #[Value.int IntKind.i64 x13,
    Value.int IntKind.i64 x14, Value.slice a4 m14 m15]] w9 fun (e5 : Ending) (w10 : World) => ∃ (x15 : Int), ∃ (x16 : Int), e5 = Ending.returned (Value.tuple #[Value.int
    IntKind.i64 x15, Value.int IntKind.i64 x16]) ∧ KeepX true w.heap.size [m10, m6, m2, m1] (fun (m17 : Nat) => False) w9 w10 ∧ (x16 ≠ 0 → ∀ (w11 : World), RowKit.Below w.heap.size
    w w11 → KeptIn [(0, w10.heap.size)] [m10, m6, m2, m1] w10 w11 → Calls Try.prog 13 #[Value.agg #[Value.int IntKind.i64 x1, Value.int IntKind.i64 x2, Value.int IntKind.i64 x3,
    Value.int IntKind.i64 x4, Value.int IntKind.i64 x5, Value.slice a1 m3 m4]] w11 fun (e6 : Ending) (w12 : World) => ∃ (x17 : Int), ∃ (x18 : Int), ∃ (x19 : Int), ∃ (x20 : Int), ∃
    (x21 : Int), ∃ (a5 : Option Addr), ∃ (m18 : Nat), ∃ (m19 : Nat), e6 = Ending.returned (Value.agg #[Value.int IntKind.i64 x17, Value.int IntKind.i64 x18, Value.int IntKind.i64
    x19, Value.int IntKind.i64 x20, Value.int IntKind.i64 x21, Value.slice a5 m18 m19]) ∧ RowKit.Below w11.heap.size w11 w12 ∧ ∀ (w13 : World), RowKit.Below w.heap.size w w13 →
    KeptIn [(0, w10.heap.size), (w11.heap.size, w12.heap.size)] [m10, m6, m2, m1] w12 w13 → Calls Try.prog 14 #[Value.agg #[Value.int IntKind.i64 x6, Value.int IntKind.i64 x7,
    Value.slice a2 m7 m8]] w13 fun (e7 : Ending) (w14 : World) => ∃ (x22 : Int), ∃ (x23 : Int), ∃ (a6 : Option Addr), ∃ (m20 : Nat), ∃ (m21 : Nat), e7 = Ending.returned (Value.agg
    #[Value.int IntKind.i64 x22, Value.int IntKind.i64 x23, Value.slice a6 m20 m21]) ∧ RowKit.Below w13.heap.size w13 w14 ∧ ∀ (w15 : World), RowKit.Below w.heap.size w w15 → KeptIn
    [(0, w10.heap.size), (w13.heap.size, w14.heap.size), (w11.heap.size, w12.heap.size)] [m10, m6, m2, m1] w14 w15 → Calls Try.prog 25 #[Value.agg #[Value.int IntKind.i64 x17,
    Value.int IntKind.i64 x18, Value.int IntKind.i64 x19, Value.int IntKind.i64 x20, Value.int IntKind.i64 x21, Value.slice a5 m18 m19], Value.agg #[Value.int IntKind.i64 x22,
    Value.int IntKind.i64 x23, Value.slice a6 m20 m21]] w15 fun (e8 : Ending) (w16 : World) => ∃ (x24 : Int), ∃ (x25 : Int), ∃ (x26 : Int), e8 = Ending.returned (Value.tuple
    #[Value.agg #[Value.int IntKind.i64 x24, Value.int IntKind.i64 x25], Value.int IntKind.i64 x26]) ∧ RowKit.Below w15.heap.size w15 w16 ∧ ∀ (m22 : Nat), w10.heap.size ≤ m22 → m22
    < w15.heap.size ∨ w16.heap.size ≤ m22 → m22 < w13.heap.size ∨ w14.heap.size ≤ m22 → m22 < w11.heap.size ∨ w12.heap.size ≤ m22 → (x16 = 7 → (x26 = x16 → (x15 = 0 → ∀ (w17 :
    World), RowKit.Below w.heap.size w w17 → Kept [m22, m10, m6, m2, m1] w16 w17 → Calls Try.prog 12 #[] w17 fun (e9 : Ending) (w18 : World) => ∃ (t1 : Bool), e9 = Ending.returned
    (Value.bool t1) ∧ KeepX true w.heap.size [m22, m10, m6, m2, m1] (fun (m23 : Nat) => False) w17 w18 ∧ ∀ (w19 : World), RowKit.Below w.heap.size w w19 → Kept [m22, m10, m6, m2,
    m1] w18 w19 → R (Ending.returned (Value.bool t1)) w19) ∧ (x15 ≠ 0 → ∀ (w20 : World), RowKit.Below w.heap.size w w20 → Kept [m22, m10, m6, m2, m1] w16 w20 → R (Ending.returned
    (Value.bool false)) w20)) ∧ (x26 ≠ x16 → ∀ (w21 : World), RowKit.Below w.heap.size w w21 → Kept [m22, m10, m6, m2, m1] w16 w21 → R (Ending.returned (Value.bool false)) w21)) ∧
    (x16 ≠ 7 → ∀ (w22 : World), RowKit.Below w.heap.size w w22 → Kept [m22, m10, m6, m2, m1] w16 w22 → R (Ending.returned (Value.bool false)) w22)) ∧ (x16 = 0 → (x15 < 0 → ∀ (w23 :
    World), RowKit.Below w.heap.size w w23 → Kept [m10, m6, m2, m1] w10 w23 → R (Ending.returned (Value.bool false)) w23) ∧ (0 ≤ x15 → (6 < x15 → ∀ (w24 : World), RowKit.Below
    w.heap.size w w24 → Kept [m10, m6, m2, m1] w10 w24 → R (Ending.returned (Value.bool false)) w24) ∧ (x15 ≤ 6 → ∀ (w25 : World), RowKit.Below w.heap.size w w25 → KeptIn [(0,
    w10.heap.size)] [m10, m6, m2, m1] w10 w25 → Calls Try.prog 34 #[Value.slice p2bya p2byn p2byc, Value.int IntKind.i64 0] w25 fun (e10 : Ending) (w26 : World) => ∃ (x27 : Int),
    e10 = Ending.returned (Value.int IntKind.i64 x27) ∧ KeepX true w.heap.size [m10, m6, m2, m1] (fun (m24 : Nat) => False) w25 w26 ∧ ∀ (w27 : World), RowKit.Below w.heap.size w
    w27 → KeptIn [(0, w26.heap.size)] [m10, m6, m2, m1] w26 w27 → Calls Try.prog 33 #[Value.int IntKind.i64 x6, Value.int IntKind.i64 x7, Value.int IntKind.i64 x27] w27 fun (e11 :
    Ending) (w28 : World) => ∃ (x28 : Int), e11 = Ending.returned (Value.int IntKind.i64 x28) ∧ KeepX true w.heap.size [m10, m6, m2, m1] (fun (m25 : Nat) => False) w27 w28 ∧ ∃ (F1
    : List Lf → World → Prop), ∃ (F2 : List Lf → Nat), (∀ (w30 : World), RowKit.Below w.heap.size w w30 → Kept [m10, m6, m2, m1] w28 w30 → F1 [Lf.bool false, Lf.int IntKind.i64
    x15, Lf.int IntKind.i64 x28, Lf.int IntKind.i64 0, Lf.int IntKind.i64 x6, Lf.int IntKind.i64 x7, Lf.sl a2 m7 m8] w30) ∧ ∀ (t2 : Bool) (x29 x30 x31 x32 x33 : Int) (a7 : Option
    Addr) (m26 m27 : Nat) (w31 : World), RowKit.Below w.heap.size w w31 → F1 [Lf.bool t2, Lf.int IntKind.i64 x29, Lf.int IntKind.i64 x30, Lf.int IntKind.i64 x31, Lf.int IntKind.i64
    x32, Lf.int IntKind.i64 x33, Lf.sl a7 m26 m27] w31 → (0 < x29 → ∀ (w32 : World), RowKit.Below w.heap.size w w32 → KeptIn [(0, w31.heap.size)] [m10, m6, m2, m1] w31 w32 → Calls
    Try.prog 13 #[Value.agg #[Value.int IntKind.i64 x1, Value.int IntKind.i64 x2, Value.int IntKind.i64 x3, Value.int IntKind.i64 x4, Value.int IntKind.i64 x5, Value.slice a1 m3
    m4]] w32 fun (e12 : Ending) (w33 : World) => ∃ (x34 : Int), ∃ (x35 : Int), ∃ (x36 : Int), ∃ (x37 : Int), ∃ (x38 : Int), ∃ (a8 : Option Addr), ∃ (m28 : Nat), ∃ (m29 : Nat), e12
    = Ending.returned (Value.agg #[Value.int IntKind.i64 x34, Value.int IntKind.i64 x35, Value.int IntKind.i64 x36, Value.int IntKind.i64 x37, Value.int IntKind.i64 x38,
    Value.slice a8 m28 m29]) ∧ RowKit.Below w32.heap.size w32 w33 ∧ ∀ (w34 : World), RowKit.Below w.heap.size w w34 → KeptIn [(0, w31.heap.size), (w32.heap.size, w33.heap.size)]
    [m10, m6, m2, m1] w33 w34 → Calls Try.prog 14 #[Value.agg #[Value.int IntKind.i64 x32, Value.int IntKind.i64 x33, Value.slice a7 m26 m27]] w34 fun (e13 : Ending) (w35 : World)
    => ∃ (x39 : Int), ∃ (x40 : Int), ∃ (a9 : Option Addr), ∃ (m30 : Nat), ∃ (m31 : Nat), e13 = Ending.returned (Value.agg #[Value.int IntKind.i64 x39, Value.int IntKind.i64 x40,
    Value.slice a9 m30 m31]) ∧ RowKit.Below w34.heap.size w34 w35 ∧ ∀ (w36 : World), RowKit.Below w.heap.size w w36 → KeptIn [(0, w31.heap.size), (w34.heap.size, w35.heap.size),
    (w32.heap.size, w33.heap.size)] [m10, m6, m2, m1] w35 w36 → Calls Try.prog 25 #[Value.agg #[Value.int IntKind.i64 x34, Value.int IntKind.i64 x35, Value.int IntKind.i64 x36,
    Value.int IntKind.i64 x37, Value.int IntKind.i64 x38, Value.slice a8 m28 m29], Value.agg #[Value.int IntKind.i64 x39, Value.int IntKind.i64 x40, Value.slice a9 m30 m31]] w36
    fun (e14 : Ending) (w37 : World) => ∃ (x41 : Int), ∃ (x42 : Int), ∃ (x43 : Int), e14 = Ending.returned (Value.tuple #[Value.agg #[Value.int IntKind.i64 x41, Value.int
    IntKind.i64 x42], Value.int IntKind.i64 x43]) ∧ RowKit.Below w36.heap.size w36 w37 ∧ ∀ (m32 : Nat), w31.heap.size ≤ m32 → m32 < w36.heap.size ∨ w37.heap.size ≤ m32 → m32 <
    w34.heap.size ∨ w35.heap.size ≤ m32 → m32 < w32.heap.size ∨ w33.heap.size ≤ m32 → ∀ (w38 : World), RowKit.Below w.heap.size w w38 → Kept [m32, m10, m6, m2, m1] w37 w38 → Calls
    Try.prog 35 #[Value.agg #[Value.int IntKind.i64 x1, Value.int IntKind.i64 x2, Value.int IntKind.i64 x3, Value.int IntKind.i64 x4, Value.int IntKind.i64 x5, Value.slice a1 m3
    m4], Value.agg #[Value.int IntKind.i64 x41, Value.int IntKind.i64 x42]] w38 fun (e15 : Ending) (w39 : World) => ∃ (x44 : Int), ∃ (x45 : Int), ∃ (t3 : Bool), e15 =
    Ending.returned (Value.tuple #[Value.int IntKind.i64 x44, Value.int IntKind.i64 x45, Value.bool t3]) ∧ KeepX true w.heap.size [m32, m10, m6, m2, m1] (fun (m33 : Nat) => False)
    w38 w39 ∧ (x43 ≠ 0 → ∀ (w40 : World), RowKit.Below w.heap.size w w40 → Kept [m32, m10, m6, m2, m1] w39 w40 → R (Ending.returned (Value.bool false)) w40) ∧ (x43 = 0 → ((!t3) =
    true → ∀ (w41 : World), RowKit.Below w.heap.size w w41 → Kept [m32, m10, m6, m2, m1] w39 w41 → R (Ending.returned (Value.bool false)) w41) ∧ ((!t3) = false →
    ((-9223372036854775808 : Int) ≤ 3 * x31 ∧ 3 * x31 ≤ 9223372036854775807) ∧ ((-9223372036854775808 : Int) ≤ 3 * x31 + 1 ∧ 3 * x31 + (1 : Int) ≤ 9223372036854775807) ∧ ∀ (w42 :
    World), RowKit.Below w.heap.size w w42 → Kept [m32, m10, m6, m2, m1] w39 w42 → Calls Try.prog 34 #[Value.slice p2bya p2byn p2byc, Value.int IntKind.i64 (3 * x31 + 1)] w42 fun
    (e16 : Ending) (w43 : World) => ∃ (x46 : Int), e16 = Ending.returned (Value.int IntKind.i64 x46) ∧ KeepX true w.heap.size [m32, m10, m6, m2, m1] (fun (m34 : Nat) => False) w42
    w43 ∧ ∀ (w44 : World), RowKit.Below w.heap.size w w44 → Kept [m32, m10, m6, m2, m1] w43 w44 → Calls Try.prog 33 #[Value.int IntKind.i64 x44, Value.int IntKind.i64 x45,
    Value.int IntKind.i64 x46] w44 fun (e17 : Ending) (w45 : World) => ∃ (x47 : Int), e17 = Ending.returned (Value.int IntKind.i64 x47) ∧ KeepX true w.heap.size [m32, m10, m6, m2,
    m1] (fun (m35 : Nat) => False) w44 w45 ∧ (-9223372036854775808 ≤ x30 + x47 ∧ x30 + x47 ≤ 9223372036854775807) ∧ ((-9223372036854775808 : Int) ≤ 3 * x31 ∧ 3 * x31 ≤
    9223372036854775807) ∧ ((-9223372036854775808 : Int) ≤ 3 * x31 + 2 ∧ 3 * x31 + (2 : Int) ≤ 9223372036854775807) ∧ ∀ (w46 : World), RowKit.Below w.heap.size w w46 → KeptIn [(0,
    w45.heap.size)] [m32, m10, m6, m2, m1] w45 w46 → Calls Try.prog 34 #[Value.slice p2bya p2byn p2byc, Value.int IntKind.i64 (3 * x31 + 2)] w46 fun (e18 : Ending) (w47 : World) =>
    ∃ (x48 : Int), e18 = Ending.returned (Value.int IntKind.i64 x48) ∧ KeepX true w.heap.size [m32, m10, m6, m2, m1] (fun (m36 : Nat) => False) w46 w47 ∧ ((-9223372036854775808 :
    Int) ≤ 0 - x2 ∧ 0 - x2 ≤ 9223372036854775807) ∧ ∀ (w48 : World), RowKit.Below w.heap.size w w48 → KeptIn [(0, w47.heap.size)] [m32, m10, m6, m2, m1] w47 w48 → Calls Try.prog 33
    #[Value.int IntKind.i64 (0 - x2), Value.int IntKind.i64 x2, Value.int IntKind.i64 x48] w48 fun (e19 : Ending) (w49 : World) => ∃ (x49 : Int), e19 = Ending.returned (Value.int
    IntKind.i64 x49) ∧ KeepX true w.heap.size [m32, m10, m6, m2, m1] (fun (m37 : Nat) => False) w48 w49 ∧ (-9223372036854775808 ≤ x30 + x47 + x49 ∧ x30 + x47 + x49 ≤
    9223372036854775807) ∧ ∀ (w50 : World), RowKit.Below w.heap.size w w50 → KeptIn [(0, w49.heap.size)] [m32, m10, m6, m2, m1] w49 w50 → Calls Try.prog 13 #[Value.agg #[Value.int
    IntKind.i64 x1, Value.int IntKind.i64 x2, Value.int IntKind.i64 x3, Value.int IntKind.i64 x4, Value.int IntKind.i64 x5, Value.slice a1 m3 m4]] w50 fun (e20 : Ending) (w51 :
    World) => ∃ (x50 : Int), ∃ (x51 : Int), ∃ (x52 : Int), ∃ (x53 : Int), ∃ (x54 : Int), ∃ (a10 : Option Addr), ∃ (m38 : Nat), ∃ (m39 : Nat), e20 = Ending.returned (Value.agg
    #[Value.int IntKind.i64 x50, Value.int IntKind.i64 x51, Value.int IntKind.i64 x52, Value.int IntKind.i64 x53, Value.int IntKind.i64 x54, Value.slice a10 m38 m39]) ∧
    RowKit.Below w50.heap.size w50 w51 ∧ ∀ (w52 : World), RowKit.Below w.heap.size w w52 → KeptIn [(0, w49.heap.size), (w50.heap.size, w51.heap.size)] [m32, m10, m6, m2, m1] w51
    w52 → Calls Try.prog 14 #[Value.agg #[Value.int IntKind.i64 x32, Value.int IntKind.i64 x33, Value.slice a7 m26 m27]] w52 fun (e21 : Ending) (w53 : World) => ∃ (x55 : Int), ∃
    (x56 : Int), ∃ (a11 : Option Addr), ∃ (m40 : Nat), ∃ (m41 : Nat), e21 = Ending.returned (Value.agg #[Value.int IntKind.i64 x55, Value.int IntKind.i64 x56, Value.slice a11 m40
    m41]) ∧ RowKit.Below w52.heap.size w52 w53 ∧ ∀ (w54 : World), RowKit.Below w.heap.size w w54 → KeptIn [(0, w49.heap.size), (w52.heap.size, w53.heap.size), (w50.heap.size,
    w51.heap.size)] [m32, m10, m6, m2, m1] w53 w54 → Calls Try.prog 16 #[Value.agg #[Value.int IntKind.i64 x50, Value.int IntKind.i64 x51, Value.int IntKind.i64 x52, Value.int
    IntKind.i64 x53, Value.int IntKind.i64 x54, Value.slice a10 m38 m39], Value.agg #[Value.int IntKind.i64 x55, Value.int IntKind.i64 x56, Value.slice a11 m40 m41], Value.agg
    #[Value.int IntKind.i64 x41, Value.int IntKind.i64 x42], Value.int IntKind.i64 (x30 + x47 + x49)] w54 fun (e22 : Ending) (w55 : World) => ∃ (x57 : Int), ∃ (x58 : Int), ∃ (a12 :
    Option Addr), ∃ (m42 : Nat), ∃ (m43 : Nat), ∃ (x59 : Int), e22 = Ending.returned (Value.tuple #[Value.agg #[Value.int IntKind.i64 x57, Value.int IntKind.i64 x58, Value.slice
    a12 m42 m43], Value.int IntKind.i64 x59]) ∧ RowKit.Below w54.heap.size w54 w55 ∧ ∀ (m44 : Nat), w49.heap.size ≤ m44 → m44 < w54.heap.size ∨ w55.heap.size ≤ m44 → m44 <
    w52.heap.size ∨ w53.heap.size ≤ m44 → m44 < w50.heap.size ∨ w51.heap.size ≤ m44 → (x59 ≠ 0 → ∀ (w56 : World), RowKit.Below w.heap.size w w56 → Kept [m44, m32, m10, m6, m2, m1]
    w55 w56 → R (Ending.returned (Value.bool false)) w56) ∧ (x59 = 0 → ((↑m42 : Int) ≠ (↑m26 : Int) → ∀ (w57 : World), RowKit.Below w.heap.size w w57 → Kept [m44, m32, m10, m6, m2,
    m1] w55 w57 → R (Ending.returned (Value.bool false)) w57) ∧ ((↑m42 : Int) = (↑m26 : Int) → (x30 + x47 < x57 → ∀ (w58 : World), RowKit.Below w.heap.size w w58 → Kept [m44, m32,
    m10, m6, m2, m1] w55 w58 → R (Ending.returned (Value.bool false)) w58) ∧ (x57 ≤ x30 + x47 → (x58 < x30 + x47 → ∀ (w59 : World), RowKit.Below w.heap.size w w59 → Kept [m44, m32,
    m10, m6, m2, m1] w55 w59 → R (Ending.returned (Value.bool false)) w59) ∧ (x30 + x47 ≤ x58 → ∀ (w60 : World), RowKit.Below w.heap.size w w60 → KeptIn [(0, w55.heap.size)] [m44,
    m32, m10, m6, m2, m1] w55 w60 → Calls Try.prog 13 #[Value.agg #[Value.int IntKind.i64 x1, Value.int IntKind.i64 x2, Value.int IntKind.i64 x3, Value.int IntKind.i64 x4,
    Value.int IntKind.i64 x5, Value.slice a1 m3 m4]] w60 fun (e23 : Ending) (w61 : World) => ∃ (x60 : Int), ∃ (x61 : Int), ∃ (x62 : Int), ∃ (x63 : Int), ∃ (x64 : Int), ∃ (a13 :
    Option Addr), ∃ (m45 : Nat), ∃ (m46 : Nat), e23 = Ending.returned (Value.agg #[Value.int IntKind.i64 x60, Value.int IntKind.i64 x61, Value.int IntKind.i64 x62, Value.int
    IntKind.i64 x63, Value.int IntKind.i64 x64, Value.slice a13 m45 m46]) ∧ KeepX true w.heap.size [m44, m32, m10, m6, m2, m1] (fun (m47 : Nat) => False) w60 w61 ∧ ∀ (w62 : World),
    RowKit.Below w.heap.size w w62 → KeptIn [(0, w61.heap.size)] [m44, m32, m10, m6, m2, m1] w61 w62 → Calls Try.prog 14 #[Value.agg #[Value.int IntKind.i64 x57, Value.int
    IntKind.i64 x58, Value.slice a12 m42 m43]] w62 fun (e24 : Ending) (w63 : World) => ∃ (x65 : Int), ∃ (x66 : Int), ∃ (a14 : Option Addr), ∃ (m48 : Nat), ∃ (m49 : Nat), e24 =
    Ending.returned (Value.agg #[Value.int IntKind.i64 x65, Value.int IntKind.i64 x66, Value.slice a14 m48 m49]) ∧ KeepX true w.heap.size [m44, m32, m10, m6, m2, m1] (fun (m50 :
    Nat) => False) w62 w63 ∧ ∀ (w64 : World), RowKit.Below w.heap.size w w64 → KeptIn [(0, w63.heap.size)] [m44, m32, m10, m6, m2, m1] w63 w64 → Calls Try.prog 24 #[Value.agg
    #[Value.int IntKind.i64 x60, Value.int IntKind.i64 x61, Value.int IntKind.i64 x62, Value.int IntKind.i64 x63, Value.int IntKind.i64 x64, Value.slice a13 m45 m46], Value.agg
    #[Value.int IntKind.i64 x65, Value.int IntKind.i64 x66, Value.slice a14 m48 m49]] w64 fun (e25 : Ending) (w65 : World) => ∃ (x67 : Int), ∃ (x68 : Int), e25 = Ending.returned
    (Value.tuple #[Value.int IntKind.i64 x67, Value.int IntKind.i64 x68]) ∧ KeepX true w.heap.size [m44, m32, m10, m6, m2, m1] (fun (m51 : Nat) => False) w64 w65 ∧ (x68 ≠ 0 → ∀
    (w66 : World), RowKit.Below w.heap.size w w66 → Kept [m44, m32, m10, m6, m2, m1] w65 w66 → R (Ending.returned (Value.bool false)) w66) ∧ (x68 = 0 → (x29 ≤ x67 → ∀ (w67 :
    World), RowKit.Below w.heap.size w w67 → Kept [m44, m32, m10, m6, m2, m1] w65 w67 → R (Ending.returned (Value.bool false)) w67) ∧ (x67 < x29 → (-9223372036854775808 ≤ x31 + 1 ∧
    x31 + (1 : Int) ≤ 9223372036854775807) ∧ ∀ (w68 : World), RowKit.Below w.heap.size w w68 → Kept [m44, m32, m10, m6, m2, m1] w65 w68 → F1 [Lf.bool t2, Lf.int IntKind.i64 x67,
    Lf.int IntKind.i64 (x30 + x47), Lf.int IntKind.i64 (x31 + 1), Lf.int IntKind.i64 x57, Lf.int IntKind.i64 x58, Lf.sl a12 m42 m43] w68 ∧ F2 [Lf.bool t2, Lf.int IntKind.i64 x67,
    Lf.int IntKind.i64 (x30 + x47), Lf.int IntKind.i64 (x31 + 1), Lf.int IntKind.i64 x57, Lf.int IntKind.i64 x58, Lf.sl a12 m42 m43] < F2 [Lf.bool t2, Lf.int IntKind.i64 x29,
    Lf.int IntKind.i64 x30, Lf.int IntKind.i64 x31, Lf.int IntKind.i64 x32, Lf.int IntKind.i64 x33, Lf.sl a7 m26 m27]))))))))) ∧ (x29 ≤ 0 → ((-9223372036854775808 : Int) ≤ 0 - x1 ∧
    0 - x1 ≤ 9223372036854775807) ∧ (0 - x1 ≤ x32 → (x33 ≤ x1 → ((-9223372036854775808 : Int) ≤ 0 - x1 ∧ 0 - x1 ≤ 9223372036854775807) ∧ (0 - x1 ≤ x30 → (x30 ≤ x1 → ∀ (w69 :
    World), RowKit.Below w.heap.size w w69 → Kept [m10, m6, m2, m1] w31 w69 → Calls Try.prog 12 #[] w69 fun (e26 : Ending) (w70 : World) => ∃ (t4 : Bool), e26 = Ending.returned
    (Value.bool t4) ∧ KeepX true w.heap.size [m10, m6, m2, m1] (fun (m52 : Nat) => False) w69 w70 ∧ ∀ (w71 : World), RowKit.Below w.heap.size w w71 → Kept [m10, m6, m2, m1] w70 w71
    → R (Ending.returned (Value.bool t4)) w71) ∧ (x1 < x30 → ∀ (w72 : World), RowKit.Below w.heap.size w w72 → Kept [m10, m6, m2, m1] w31 w72 → R (Ending.returned (Value.bool
    false)) w72)) ∧ (x30 < 0 - x1 → ∀ (w73 : World), RowKit.Below w.heap.size w w73 → Kept [m10, m6, m2, m1] w31 w73 → R (Ending.returned (Value.bool false)) w73)) ∧ (x1 < x33 → ∀
    (w74 : World), RowKit.Below w.heap.size w w74 → Kept [m10, m6, m2, m1] w31 w74 → R (Ending.returned (Value.bool false)) w74)) ∧ (x32 < 0 - x1 → ∀ (w75 : World), RowKit.Below
    w.heap.size w w75 → Kept [m10, m6, m2, m1] w31 w75 → R (Ending.returned (Value.bool false)) w75)))))) : Calls Try.prog 6 #[Value.agg #[Value.int IntKind.u8 x0, Value.int
    IntKind.u8 x1, Value.int IntKind.u8 x2, Value.int IntKind.u8 x3, Value.int IntKind.u8 x4, Value.slice x5a x5n x5c], Value.agg #[Value.int IntKind.u8 p1at0, Value.int IntKind.u8
    p1at1, Value.int IntKind.u8 p1at2], Value.slice p2bya p2byn p2byc] w R := calls_of_vc (pure := true) (wrapAt := []) (muts := [8]) (esc := []) (args := [SV.pv (PV.agg [Lf.int
    IntKind.u8 x0, Lf.int IntKind.u8 x1, Lf.int IntKind.u8 x2, Lf.int IntKind.u8 x3, Lf.int IntKind.u8 x4, Lf.sl x5a x5n x5c]), SV.pv (PV.agg [Lf.int IntKind.u8 p1at0, Lf.int
    IntKind.u8 p1at1, Lf.int IntKind.u8 p1at2]), SV.pv (PV.one (Lf.sl p2bya p2byn p2byc))]) (vs := [Value.agg #[Value.int IntKind.u8 x0, Value.int IntKind.u8 x1, Value.int
    IntKind.u8 x2, Value.int IntKind.u8 x3, Value.int IntKind.u8 x4, Value.slice x5a x5n x5c], Value.agg #[Value.int IntKind.u8 p1at0, Value.int IntKind.u8 p1at1, Value.int
    IntKind.u8 p1at2], Value.slice p2bya p2byn p2byc]) Try.func6 rfl rfl rfl (Eq.mp (by kernel_rfl) h) 
end Go.Proofs
end
section
/- Rules and states by small numbers. -/
namespace Go.Proofs.R07
open Go.Vc Go.RowKit Go.Proofs

abbrev J (n : Int) : Value := .int .u8 n
def U8 (x : Int) : Prop := 0 ≤ x ∧ x ≤ 255
def bytes (l : List Int) : List Value := l.map J
theorem bytes_get {l : List Int} {i : Nat} {x : Int} (h : l[i]? = some x) : (bytes l)[i]? = some (J x) := by simp [bytes, h]
def pairs8 (l : List Sp) : List Value := l.flatMap fun s => [J s.1, J s.2]
theorem pairs8_get {l : List Sp} {i : Nat} {x : Sp} (h : l[i]? = some x) : (pairs8 l)[i * 2]? = some (J x.1) ∧ (pairs8 l)[i * 2 + 1]? = some (J x.2) :=
  ⟨flat_get (k := 2) (j := 0) (fun _ => rfl) h (by omega), flat_get (k := 2) (j := 1) (fun _ => rfl) h (by omega)⟩
def mkW (p : Sp) : Sp := (1 + p.1 % 20, 1 + p.1 % 20 + p.2 % 6)
def mkR (x0 x1 x2 x3 x4 : Int) (l : List Sp) : Rules := ⟨x0 % 20, x1 % 5, 1 + x2 % 30, 1 + x2 % 30 + x3 % 10, x4 % 5, (l.take 2).map mkW⟩

theorem mkR_good (x0 x1 x2 x3 x4 : Int) (l : List Sp) : Good (mkR x0 x1 x2 x3 x4 l) := by
  refine ⟨?_, ⟨by show 0 ≤ x0 % 20 ∧ x0 % 20 ≤ 300; omega, by show 0 ≤ x1 % 5 ∧ x1 % 5 ≤ 50; omega, by show 1 ≤ 1 + x2 % 30 ∧ 1 + x2 % 30 ≤ 1 + x2 % 30 + x3 % 10 ∧ 1 + x2 % 30 + x3 % 10 ≤ 100; omega, by show 0 ≤ x4 % 5 ∧ x4 % 5 ≤ 10; omega, fun s hs => ?_⟩⟩
  · simp [mkR]; omega
  · obtain ⟨p, _, rfl⟩ := List.mem_map.1 hs
    simp only [mkW]; omega

theorem spans_one (s : Sp) : spans [s] = [I s.1, I s.2] := rfl
theorem spans_app (l m : List Sp) : spans (l ++ m) = spans l ++ spans m := by simp [spans]

set_option maxHeartbeats 1000000 in
theorem rules_any {x0 x1 x2 x3 x4 : Int} (h0 : U8 x0) (h1 : U8 x1) (h2 : U8 x2) (h3 : U8 x3) (h4 : U8 x4) {l : List Sp} (hl : ∀ p ∈ l, U8 p.1 ∧ U8 p.2) {a : Option Addr} {c : Nat} {w : World} (hc : Cells w a (pairs8 l)) :
    Calls Try.prog 31 #[.agg #[J x0, J x1, J x2, J x3, J x4, .slice a l.length c]] w (RulesPost (mkR x0 x1 x2 x3 x4 l) w) := by
  unfold U8 at h0 h1 h2 h3 h4
  have e0 : x0.tmod 20 = x0 % 20 := Int.tmod_eq_emod_of_nonneg h0.1
  have e1 : x1.tmod 5 = x1 % 5 := Int.tmod_eq_emod_of_nonneg h1.1
  have e2 : x2.tmod 30 = x2 % 30 := Int.tmod_eq_emod_of_nonneg h2.1
  have e3 : x3.tmod 10 = x3 % 10 := Int.tmod_eq_emod_of_nonneg h3.1
  have e4 : x4.tmod 5 = x4 % 5 := Int.tmod_eq_emod_of_nonneg h4.1
  refine vc31 _ _ _ _ _ _ _ _ w _ fun m1 g1 m2 g2 => ?_
  rw [e0, e1, e2, e3, e4]
  refine ⟨by omega, by decide, by omega, by decide, by omega, by decide, by omega, by omega, by decide, fun m3 g3 => ⟨by omega, by decide, by omega, ?_⟩⟩
  refine ⟨fun ls w' => match ls with | [.int _ i, .int _ y0, .int _ y1, .int _ y2, .int _ y3, .int _ y4, .sl a' n c'] => 0 ≤ i ∧ i ≤ l.length ∧ i ≤ 2 ∧ y0 = x0 % 20 ∧ y1 = x1 % 5 ∧ y2 = 1 + x2 % 30 ∧ y3 = 1 + x2 % 30 + x3 % 10 ∧ y4 = x4 % 5 ∧ n = i.toNat ∧ Row 23 2 w.heap.size [m3, m2, m1] a' n c' (spans ((l.take i.toNat).map mkW)) w' ∧ (∀ b ∈ [m3, m2, m1], b < w'.heap.size) | _ => False,
    fun ls => match ls with | .int _ i :: _ => (2 - i).toNat | _ => 0, fun w2 hb2 hk2 => ⟨by omega, by omega, by omega, rfl, rfl, rfl, rfl, rfl, rfl, Row.nil, hk2.own⟩, ?_⟩
  rintro i y0 y1 y2 y3 y4 a1 n1 c1 w3 hb3 ⟨i0, il, i2, rfl, rfl, rfl, rfl, rfl, rfl, hrow, ho⟩
  have fin : ∀ w7, Below w.heap.size w w7 → Kept [m3, m2, m1] w3 w7 → (l.take i.toNat).map mkW = (mkR x0 x1 x2 x3 x4 l).ws →
      RulesPost (mkR x0 x1 x2 x3 x4 l) w (.returned (.agg #[I (x0 % 20), I (x1 % 5), I (1 + x2 % 30), I (1 + x2 % 30 + x3 % 10), I (x4 % 5), .slice a1 i.toNat c1])) w7 := fun w7 hb7 hk7 hw => by
    have R7 := hrow.chg (Chg.kept hk7) fun b hb => hb
    have hn : i.toNat = (mkR x0 x1 x2 x3 x4 l).ws.length := by rw [← hw]; simp; omega
    rw [hw] at R7
    refine ⟨a1, c1, ?_, hb7, R7.cells, ?_, ?_⟩
    · rw [hn]; rfl
    · cases a1 with
      | none => exact .inl rfl
      | some ad =>
        rcases R7.own.2 with ⟨he, _⟩ | ⟨g, cap, cur, he, _⟩
        · cases he
        · simp only [Value.slice.injEq] at he; exact .inr ⟨g, 0, he.1⟩
    · exact .inr fun b o e => (R7.lt b o e).1
  refine ⟨fun hi => ⟨fun hi2 => ?_, fun hi2 w7 hb7 hk7 => fin w7 hb7 hk7 ?_⟩, fun hi w8 hb8 hk8 => fin w8 hb8 hk8 ?_⟩
  · have hix : i.toNat < l.length := by omega
    obtain ⟨p, hp⟩ : ∃ p, l[i.toNat]? = some p := ⟨_, getElem_of_lt hix⟩
    obtain ⟨q1, q2⟩ := pairs8_get hp
    obtain ⟨b1, o1, rfl, c1'⟩ := hc _ _ q1
    obtain ⟨_, _, he, c2'⟩ := hc _ _ q2
    cases he
    obtain ⟨u1, u2⟩ := hl p (List.mem_of_getElem? hp)
    unfold U8 at u1 u2
    have f1 : p.1.tmod 20 = p.1 % 20 := Int.tmod_eq_emod_of_nonneg u1.1
    have f2 : p.2.tmod 6 = p.2 % 6 := Int.tmod_eq_emod_of_nonneg u2.1
    refine ⟨b1, o1, rfl, by omega, by decide, p.1, cell_at (cell_below hb3 (cell_lt c1') c1') (by simp <;> omega), .inl (cell_lt c1'), by omega, by decide, by omega, b1, o1, rfl, by omega, by decide, p.2, cell_at (cell_below hb3 (cell_lt c2') c2') (by simp <;> omega), .inl (cell_lt c2'), by omega, by decide, by omega, fun m10 h10 w4 hb4 hk4 hc4 => ?_⟩
    rw [f1, f2] at hc4
    have R4 := (hrow.grow (ms := [m10]) (by simpa using h10)).chg (chg_in hk4) fun b hb => hb
    refine append_row (P := Try.prog) (bytes := 16) (by kernel_rfl) (by omega) R4 (m := 1) (news := spans [mkW p]) (Cells.obj (vs := [I _, I _]) hc4) rfl (by simp [spans_one] <;> exact ⟨rfl, rfl⟩) (by omega) (by omega) hb4.size hk4.own fun a2 c2 w5 R5 S cS hS => ?_
    refine ⟨a2, _, c2, rfl, cS.own (fun b hb => ⟨hk4.own b hb, fun hh => (hS b hh).2 hb⟩) (by simp) (fun _ => ⟨hb4.size, fun b hb => (hS b hb).1⟩), by omega, fun w6 hb6 hk6 => ⟨⟨by omega, by omega, by omega, rfl, rfl, rfl, rfl, rfl, by omega, ?_, fun b hb => hk6.own b (List.mem_cons_of_mem _ hb)⟩, ?_⟩⟩
    · have R6 := (R5.chg (Chg.kept hk6) fun b hb => hb).drop (ms := [m10])
      rw [show (i + 1).toNat = i.toNat + 1 by omega, List.take_add_one, hp, List.map_append, spans_app]
      exact R6
    · show (2 - (i + 1)).toNat < (2 - i).toNat
      omega
  · show _ = (l.take 2).map mkW
    rw [show i.toNat = 2 by omega]
  · show _ = (l.take 2).map mkW
    rw [show i.toNat = l.length by omega, List.take_of_length_le (Nat.le_refl _), List.take_of_length_le (by omega)]

/-- Which weights are used, by a small number. -/
def bitU (x i : Int) : Bool := IntKind.u8.wrap (↑(BitVec.ofInt IntKind.u8.bits (x.fdiv (2 ^ min i.toNat IntKind.u8.bits)) &&& BitVec.ofInt IntKind.u8.bits 1).toNat : Int) == 1
def mkS (x0 x1 x2 : Int) (n : Nat) : St := ⟨x0 - 128, x0 - 128 + x1 % 30, (List.range n).map fun i => bitU x2 (i : Nat)⟩
theorem bools_app (l m : List Bool) : bools (l ++ m) = bools l ++ bools m := by simp [bools]

set_option maxHeartbeats 1000000 in
theorem begin_any (r : Rules) (hn : r.ws.length ≤ 1000) {x0 x1 x2 : Int} (h0 : U8 x0) (h1 : U8 x1) {a : Option Addr} {c : Nat} {w : World} :
    Calls Try.prog 32 #[r.v a c, .agg #[J x0, J x1, J x2]] w (StPost (mkS x0 x1 x2 r.ws.length) w) := by
  unfold U8 at h0 h1
  have e1 : x1.tmod 30 = x1 % 30 := Int.tmod_eq_emod_of_nonneg h1.1
  refine vc32 _ _ _ _ _ _ _ _ _ _ _ w _ fun m1 g1 m2 g2 m3 g3 => ?_
  rw [e1]
  refine ⟨by omega, by omega, fun m4 g4 => ⟨by omega, by decide, by omega, ?_⟩⟩
  refine ⟨fun ls w' => match ls with | [.int _ i, .int _ y0, .int _ y1, .sl a' n c'] => 0 ≤ i ∧ i ≤ r.ws.length ∧ y0 = x0 - 128 ∧ y1 = x0 - 128 + x1 % 30 ∧ n = i.toNat ∧ Row 4 1 w.heap.size [m4, m3, m2, m1] a' n c' (bools ((List.range i.toNat).map fun i => bitU x2 (i : Nat))) w' ∧ (∀ b ∈ [m4, m3, m2, m1], b < w'.heap.size) | _ => False,
    fun ls => match ls with | .int _ i :: _ => (r.ws.length - i).toNat | _ => 0, fun w2 hb2 hk2 => ⟨by omega, by omega, rfl, rfl, rfl, Row.nil, hk2.own⟩, ?_⟩
  rintro i y0 y1 a1 n1 c1 w3 hb3 ⟨i0, il, rfl, rfl, rfl, hrow, ho⟩
  refine ⟨fun hi => ⟨by omega, i0, fun m7 h7 w4 hb4 hk4 hc4 => ?_⟩, fun hi w7 hb7 hk7 => ?_⟩
  · have R4 := (hrow.grow (ms := [m7]) (by simpa using h7)).chg (Chg.kept hk4) fun b hb => hb
    refine append_row (P := Try.prog) (bytes := 1) (by kernel_rfl) (by omega) R4 (m := 1) (news := bools [bitU x2 i]) (Cells.obj (vs := [.bool _]) hc4) rfl (by simp [bools] <;> rfl) (by omega) (by omega) hb4.size hk4.own fun a2 c2 w5 R5 S cS hS => ?_
    refine ⟨a2, _, c2, rfl, cS.own (fun b hb => ⟨hk4.own b hb, fun hh => (hS b hh).2 hb⟩) (by simp) (fun _ => ⟨hb4.size, fun b hb => (hS b hb).1⟩), by omega, fun w6 hb6 hk6 => ⟨⟨by omega, by omega, rfl, rfl, by omega, ?_, fun b hb => hk6.own b (List.mem_cons_of_mem _ hb)⟩, ?_⟩⟩
    · have R6 := (R5.chg (Chg.kept hk6) fun b hb => hb).drop (ms := [m7])
      rw [show (i + 1).toNat = i.toNat + 1 by omega, List.range_succ, List.map_append, bools_app]
      simp only [List.map_cons, List.map_nil]
      rw [show ((i.toNat : Nat) : Int) = i by omega]
      exact R6
    · show ((r.ws.length : Int) - (i + 1)).toNat < ((r.ws.length : Int) - i).toNat
      omega
  · have R7 := hrow.chg (Chg.kept hk7) fun b hb => hb
    have hi' : i.toNat = r.ws.length := by omega
    rw [hi'] at R7 ⊢
    refine ⟨a1, c1, ?_, hb7, R7.cells, ?_, ?_⟩
    · simp [St.v, mkS]
    · cases a1 with
      | none => exact .inl rfl
      | some ad =>
        rcases R7.own.2 with ⟨he, _⟩ | ⟨g, cap, cur, he, _⟩
        · cases he
        · simp only [Value.slice.injEq] at he; exact .inr ⟨g, 0, he.1⟩
    · exact .inr fun b o e => (R7.lt b o e).1

def inside (lo hi n : Int) : Int := lo + n * (hi - lo) / 255
theorem inside_in {lo hi n : Int} (h : lo ≤ hi) (h0 : U8 n) : lo ≤ inside lo hi n ∧ inside lo hi n ≤ hi := by
  unfold U8 at h0
  have g1 : 0 ≤ n * (hi - lo) := Int.mul_nonneg h0.1 (by omega)
  have g2 : n * (hi - lo) ≤ 255 * (hi - lo) := Int.mul_le_mul_of_nonneg_right h0.2 (by omega)
  unfold inside
  generalize n * (hi - lo) = z at *
  omega
theorem inside_any {lo hi n : Int} (h : lo ≤ hi) (h1 : -100000 ≤ lo) (h2 : hi ≤ 100000) (h0 : U8 n) (w : World) : Calls Try.prog 33 #[I lo, I hi, I n] w (Pure w (I (inside lo hi n))) := by
  unfold U8 at h0
  have g1 : 0 ≤ n * (hi - lo) := Int.mul_nonneg h0.1 (by omega)
  have g2 : n * (hi - lo) ≤ 255 * (hi - lo) := Int.mul_le_mul_of_nonneg_right h0.2 (by omega)
  have e : (n * (hi - lo)).tdiv 255 = n * (hi - lo) / 255 := Int.tdiv_eq_ediv_of_nonneg g1
  refine vc33 _ _ _ w _ ?_
  rw [e]
  have : inside lo hi n = lo + n * (hi - lo) / 255 := rfl
  rw [← this]
  have hin := inside_in h h0
  rw [this] at hin ⊢
  generalize n * (hi - lo) = z at *
  exact ⟨by omega, by omega, ⟨by decide, by omega, by omega⟩, by omega, fun w1 hb _ => ⟨rfl, hb⟩⟩

def byteAt (l : List Int) (i : Nat) : Int := if l.length = 0 then 0 else (l[i % l.length]?).getD 0
theorem byteAt_u8 {l : List Int} (h : ∀ x ∈ l, U8 x) (i : Nat) : U8 (byteAt l i) := by
  unfold byteAt
  split
  · exact ⟨by omega, by omega⟩
  · rename_i hl
    have : i % l.length < l.length := Nat.mod_lt _ (by omega)
    rw [getElem_of_lt this]
    exact h _ (List.getElem_mem this)
theorem byteOf_any {l : List Int} (h : ∀ x ∈ l, U8 x) {i : Int} (hi : 0 ≤ i) (hi2 : i ≤ 1000000) {a : Option Addr} {c : Nat} {w : World} (hc : Cells w a (bytes l)) : Calls Try.prog 34 #[.slice a l.length c, I i] w (Pure w (I (byteAt l i.toNat))) := by
  refine vc34 _ _ _ _ w _ ⟨fun h0 w1 hb _ => ⟨?_, hb⟩, fun h0 => ⟨h0, ?_⟩⟩
  · unfold byteAt; rw [if_pos (by omega)]
  · have e : i.tmod (l.length : Int) = ((i.toNat % l.length : Nat) : Int) := by rw [Int.tmod_eq_emod_of_nonneg hi, Int.natCast_emod, Int.toNat_of_nonneg hi]
    have hlt : i.toNat % l.length < l.length := Nat.mod_lt _ (by omega)
    obtain ⟨b, o, rfl, c1⟩ := hc _ _ (bytes_get (getElem_of_lt hlt))
    have hu := h _ (List.getElem_mem hlt)
    rw [e]
    refine ⟨b, o, rfl, by omega, _, cell_at c1 (by rw [Int.toNat_natCast, Nat.mul_one]), by unfold U8 at hu; omega, fun w2 hb _ => ⟨?_, hb⟩⟩
    unfold byteAt
    rw [if_neg (by omega), getElem_of_lt hlt]; rfl
end Go.Proofs.R07
end
section
/- Small numbers, opened. -/
namespace Go.Proofs.R07
open Go.Vc Go.RowKit Go.Proofs

abbrev L8 : Leaf := .int .u8
theorem leaves_shop : leaves Try.prog 5 64 = some [L8, L8, L8, L8, L8, .sl [L8, L8]] := by kernel_rfl
theorem leaves_b3 : leaves Try.prog 5 65 = some [L8, L8, L8] := by kernel_rfl
theorem leaves_b2 : leaves Try.prog 5 74 = some [L8, L8] := by kernel_rfl
theorem leaves_b4 : leaves Try.prog 5 76 = some [L8, L8, L8, L8] := by kernel_rfl
theorem leaves_bs : leaves Try.prog 5 66 = some [.sl [L8]] := by kernel_rfl
theorem agg_shop : isAggB Try.prog 64 = true := by kernel_rfl
theorem agg_b3 : isAggB Try.prog 65 = true := by kernel_rfl
theorem agg_b2 : isAggB Try.prog 74 = true := by kernel_rfl
theorem agg_b4 : isAggB Try.prog 76 = true := by kernel_rfl
theorem agg_bs : isAggB Try.prog 66 = false := by kernel_rfl
section
variable {w : World}
theorem take_u8 {ls : List Leaf} {cs : List Value} (h : LeavesAre w (L8 :: ls) cs) : ∃ x r, cs = J x :: r ∧ U8 x ∧ LeavesAre w ls r := by
  obtain ⟨v, r, rfl, h1, h2⟩ := h.cons'
  obtain ⟨x, rfl, hx⟩ := h1.int'
  exact ⟨x, r, rfl, hx, h2⟩
theorem take_pairs8 {v : Value} (h : LeafIs w (.sl [L8, L8]) v) : ∃ a c, ∃ l : List Sp, v = .slice a l.length c ∧ Cells w a (pairs8 l) ∧ ∀ s ∈ l, U8 s.1 ∧ U8 s.2 := by
  obtain ⟨a, c, l, rfl, h1, h2, h3, h4⟩ := h.sl' (fun s : Sp => [J s.1, J s.2]) (fun s => U8 s.1 ∧ U8 s.2) fun x hx => by
    obtain ⟨p, r, rfl, up, h⟩ := take_u8 hx
    obtain ⟨q, r, rfl, uq, h⟩ := take_u8 h
    rw [h.nil']
    exact ⟨(p, q), rfl, up, uq⟩
  exact ⟨a, c, l, rfl, h3, h4⟩
theorem bytes_flat (l : List Int) : (l.flatMap fun b => [J b]) = bytes l := by
  induction l with
  | nil => rfl
  | cons b l ih => rw [List.flatMap_cons, ih]; rfl
theorem take_bytes {v : Value} (h : LeafIs w (.sl [L8]) v) : ∃ a c, ∃ l : List Int, v = .slice a l.length c ∧ Cells w a (bytes l) ∧ ∀ x ∈ l, U8 x := by
  obtain ⟨a, c, l, rfl, h1, h2, h3, h4⟩ := h.sl' (fun b : Int => [J b]) U8 fun x hx => by
    obtain ⟨p, r, rfl, up, h⟩ := take_u8 hx
    rw [h.nil']
    exact ⟨p, rfl, up⟩
  rw [bytes_flat] at h3
  exact ⟨a, c, l, rfl, h3, h4⟩
variable {H : Type} {enc : TypeId × Value → H} {base b0 : Nat} {held : Bool} {spare : Nat → Bool} {reach : Reach}
set_option maxRecDepth 100000 in
theorem open_shop {v : Value} {d : DataW H} {ps : List MemPlace} (hv : Value.okWide Try.prog w reach b0 64 v) (hd : DataW.Trod enc Try.prog w base spare held 64 v d ps) :
    ∃ (x0 x1 x2 x3 x4 : Int) (a : Option Addr) (c : Nat) (l : List Sp), v = .agg #[J x0, J x1, J x2, J x3, J x4, .slice a l.length c] ∧ U8 x0 ∧ U8 x1 ∧ U8 x2 ∧ U8 x3 ∧ U8 x4 ∧ Cells w a (pairs8 l) ∧ ∀ s ∈ l, U8 s.1 ∧ U8 s.2 := by
  obtain ⟨cs, rfl, h⟩ := open_agg agg_shop leaves_shop hv hd
  obtain ⟨x0, _, rfl, h0, h⟩ := take_u8 h
  obtain ⟨x1, _, rfl, h1, h⟩ := take_u8 h
  obtain ⟨x2, _, rfl, h2, h⟩ := take_u8 h
  obtain ⟨x3, _, rfl, h3, h⟩ := take_u8 h
  obtain ⟨x4, _, rfl, h4, h⟩ := take_u8 h
  obtain ⟨v, rest, rfl, h5, h6⟩ := h.cons'
  obtain ⟨a, c, l, rfl, g1, g2⟩ := take_pairs8 h5
  rw [h6.nil']
  exact ⟨x0, x1, x2, x3, x4, a, c, l, rfl, h0, h1, h2, h3, h4, g1, g2⟩
set_option maxRecDepth 100000 in
theorem open_b3 {v : Value} {d : DataW H} {ps : List MemPlace} (hv : Value.okWide Try.prog w reach b0 65 v) (hd : DataW.Trod enc Try.prog w base spare held 65 v d ps) :
    ∃ x y z : Int, v = .agg #[J x, J y, J z] ∧ U8 x ∧ U8 y ∧ U8 z := by
  obtain ⟨cs, rfl, h⟩ := open_agg agg_b3 leaves_b3 hv hd
  obtain ⟨x, _, rfl, hx, h⟩ := take_u8 h
  obtain ⟨y, _, rfl, hy, h⟩ := take_u8 h
  obtain ⟨z, _, rfl, hz, h⟩ := take_u8 h
  rw [h.nil']
  exact ⟨x, y, z, rfl, hx, hy, hz⟩
set_option maxRecDepth 100000 in
theorem open_b2 {v : Value} {d : DataW H} {ps : List MemPlace} (hv : Value.okWide Try.prog w reach b0 74 v) (hd : DataW.Trod enc Try.prog w base spare held 74 v d ps) :
    ∃ x y : Int, v = .agg #[J x, J y] ∧ U8 x ∧ U8 y := by
  obtain ⟨cs, rfl, h⟩ := open_agg agg_b2 leaves_b2 hv hd
  obtain ⟨x, _, rfl, hx, h⟩ := take_u8 h
  obtain ⟨y, _, rfl, hy, h⟩ := take_u8 h
  rw [h.nil']
  exact ⟨x, y, rfl, hx, hy⟩
set_option maxRecDepth 100000 in
theorem open_b4 {v : Value} {d : DataW H} {ps : List MemPlace} (hv : Value.okWide Try.prog w reach b0 76 v) (hd : DataW.Trod enc Try.prog w base spare held 76 v d ps) :
    ∃ x y z u : Int, v = .agg #[J x, J y, J z, J u] ∧ U8 x ∧ U8 y ∧ U8 z ∧ U8 u := by
  obtain ⟨cs, rfl, h⟩ := open_agg agg_b4 leaves_b4 hv hd
  obtain ⟨x, _, rfl, hx, h⟩ := take_u8 h
  obtain ⟨y, _, rfl, hy, h⟩ := take_u8 h
  obtain ⟨z, _, rfl, hz, h⟩ := take_u8 h
  obtain ⟨u, _, rfl, hu, h⟩ := take_u8 h
  rw [h.nil']
  exact ⟨x, y, z, u, rfl, hx, hy, hz, hu⟩
set_option maxRecDepth 100000 in
theorem open_bytes {v : Value} {d : DataW H} {ps : List MemPlace} (hv : Value.okWide Try.prog w reach b0 66 v) (hd : DataW.Trod enc Try.prog w base spare held 66 v d ps) :
    ∃ a c, ∃ l : List Int, v = .slice a l.length c ∧ Cells w a (bytes l) ∧ ∀ x ∈ l, U8 x := take_bytes (open_one agg_bs leaves_bs hv hd)
end
end Go.Proofs.R07
end
section
/- Lemmas for the laws without the reference. -/
namespace Go.Proofs.R07
open Go.Vc Go.RowKit Go.Proofs

theorem check_good {r : Rules} (hr : Good r) : check r = 0 := by
  unfold check; rw [if_neg (by have := hr.1; omega), if_pos hr.2]
theorem start_ok {r : Rules} (hr : Good r) {s : St} (hs : okSp (s.lo, s.hi)) (hl : s.used.length = r.ws.length) : startErr r s = 0 := by
  have h2 : okSt r s = true := by
    unfold okSt
    rw [Bool.and_eq_true, beq_iff_eq]
    exact ⟨(isSpan_iff (s.lo, s.hi) (-300) 300).2 hs, hl⟩
  unfold startErr
  rw [if_pos (check_good hr), if_pos h2]

theorem fewestR_none {r : Rules} {s : St} (h : startErr r s = 0) (hf : few r (setOf s.used) (s.lo, s.hi) = none) : fewestR r s = (0, 7) := by
  unfold fewestR; rw [if_neg (by omega), hf]
theorem fewestR_some {r : Rules} {s : St} {n : Nat} (h : startErr r s = 0) (hf : few r (setOf s.used) (s.lo, s.hi) = some n) : fewestR r s = (((n : Nat) : Int), 0) := by
  unfold fewestR; rw [if_neg (by omega), hf]
theorem actR_none {r : Rules} {s : St} (h : startErr r s = 0) (hf : few r (setOf s.used) (s.lo, s.hi) = none) : actR r s = ((0, 0), 7) := by
  unfold actR; rw [if_neg (by omega), hf]
theorem actR_some {r : Rules} {s : St} {n : Nat} {a : Int × Int} (h : startErr r s = 0) (hf : few r (setOf s.used) (s.lo, s.hi) = some (n + 1)) (ha : firstAct r n (setOf s.used) (s.lo, s.hi) = some a) : actR r s = (a, 0) := by
  unfold actR; rw [if_neg (by omega), hf]; simp only [ha, Option.getD_some]

theorem few_le {r : Rules} (hr : Good r) {n u : Nat} (hn : n < 7) {s : Sp} (hs : okSp s) (h : Enough r n u s) : ∃ k, k ≤ n ∧ few r u s = some k := by
  rw [few_eq hr hs]
  cases hf : (List.range 7).find? fun n => enoughB r n u s with
  | none =>
    rw [List.find?_eq_none] at hf
    exact absurd (enoughB_iff.2 h) (hf n (List.mem_range.2 hn))
  | some k =>
    refine ⟨k, Nat.le_of_not_lt fun hlt => ?_, rfl⟩
    rw [List.find?_range_eq_some] at hf
    have := hf.2.2 n hlt
    rw [enoughB_iff.2 h] at this
    simp at this
theorem few_enough {r : Rules} (hr : Good r) {n u : Nat} {s : Sp} (hs : okSp s) (h : few r u s = some n) : Enough r n u s ∧ n < 7 ∧ ∀ k, k < n → ¬ Enough r k u s := by
  rw [few_eq hr hs, List.find?_range_eq_some] at h
  exact ⟨enoughB_iff.1 h.1, List.mem_range.1 h.2.1, fun k hk he => by have := h.2.2 k hk; rw [enoughB_iff.2 he] at this; simp at this⟩
theorem few_no {r : Rules} (hr : Good r) {u : Nat} {s : Sp} (hs : okSp s) (h : few r u s = none) {k : Nat} (hk : k < 7) : ¬ Enough r k u s := fun he => by
  obtain ⟨j, _, hj⟩ := few_le hr hk hs he
  rw [h] at hj; cases hj
theorem act_of_few {r : Rules} (hr : Good r) {n u : Nat} (hu : u < 8) {s : Sp} (hs : okSp s) (h : few r u s = some (n + 1)) : ∃ a img u', firstAct r n u s = some a ∧ move r s u a = some (img, u') ∧
    ∀ seen : Int, img.1 - r.err ≤ seen → seen ≤ img.2 + r.err → max img.1 (seen - r.err) ≤ min img.2 (seen + r.err) → Enough r n u' (max img.1 (seen - r.err), min img.2 (seen + r.err)) := by
  obtain ⟨he, _, hno⟩ := few_enough hr hs h
  have h0 := hno 0 (by omega)
  simp only [Enough] at he h0
  rcases he with he | ⟨a, ha, img, u', hm, hall⟩
  · exact absurd he h0
  · have hd : doesB r n u s a = true := by
      unfold doesB; rw [hm]; simp only
      exact seenAll_iff.2 fun seen q1 q2 q3 => enoughB_iff.2 (hall seen q1 q2 q3)
    cases hf : firstAct r n u s with
    | none =>
      rw [firstAct_eq hr hu, List.find?_eq_none] at hf
      exact absurd hd (hf a ha)
    | some b =>
      have hb : doesB r n u s b = true := by
        rw [firstAct_eq hr hu] at hf
        exact List.find?_some hf
      unfold doesB at hb
      split at hb
      · cases hb
      · rename_i img2 u2 hm2
        exact ⟨b, img2, u2, rfl, hm2, fun seen q1 q2 q3 => enoughB_iff.1 (seenAll_iff.1 hb seen q1 q2 q3)⟩

theorem after_ok {r : Rules} (hr : Good r) {s : St} (hs : okSp (s.lo, s.hi)) (hl : s.used.length = r.ws.length) {a : Int × Int} {img : Sp} {u' : Nat} (hm : move r (s.lo, s.hi) (setOf s.used) a = some (img, u')) {seen : Int} (h1 : img.1 - r.err ≤ seen) (h2 : seen ≤ img.2 + r.err) :
    afterR r s a seen = (nextR r s a.2 img seen, 0) := by
  unfold afterR
  rw [if_neg (by rw [start_ok hr hs hl]; omega), hm]
  simp only
  rw [if_pos (by simp [within]; omega), (move_next hr hl hm).2]
  rfl

theorem mkS_ok (x0 x1 x2 : Int) (n : Nat) (h0 : U8 x0) : okSp ((mkS x0 x1 x2 n).lo, (mkS x0 x1 x2 n).hi) := by
  unfold U8 at h0
  show -300 ≤ x0 - 128 ∧ x0 - 128 ≤ x0 - 128 + x1 % 30 ∧ x0 - 128 + x1 % 30 ≤ 300
  omega
theorem mkS_len (x0 x1 x2 : Int) (n : Nat) : (mkS x0 x1 x2 n).used.length = n := by simp [mkS]

set_option maxHeartbeats 1000000 in
/-- What an act makes of a rate, by the law's own function. -/
theorem effect_any {r : Rules} (hr : Good r) {u : Nat} {x : Int × Int} {p : Sp} (hp : shift r u x = some p) {a : Option Addr} {c : Nat} {w : World} (hc : Cells w a (spans r.ws)) :
    Calls Try.prog 35 #[r.v a c, .agg #[I x.1, I x.2]] w (Pure w (.tuple #[I p.1, I p.2, .bool true])) := by
  obtain ⟨x, y⟩ := x
  show Calls Try.prog 35 #[r.v a c, .agg #[I x, I y]] w _
  refine vc35 _ _ _ _ _ _ _ _ _ _ w _ fun m1 g1 m2 g2 => ?_
  unfold shift at hp
  simp only at hp
  refine ⟨fun hy => ?_, fun hy => ?_⟩
  · rw [if_neg (by omega)] at hp
    split at hp
    · rename_i hh
      obtain ⟨h0, h1, h2, h3⟩ := hh
      refine ⟨fun h => by omega, fun _ => ⟨fun h => absurd h3 h, fun _ => ?_⟩⟩
      obtain ⟨q1, q2⟩ := spans_get hp
      obtain ⟨b, o, rfl, c1⟩ := hc _ _ q1
      obtain ⟨_, _, e, c2⟩ := hc _ _ q2
      cases e
      exact ⟨b, o, rfl, by omega, p.1, cell_at c1 (by omega), .inl (cell_lt c1), b, o, rfl, by omega, p.2, cell_at c2 (by omega), .inl (cell_lt c2), fun w3 hb _ => ⟨rfl, hb⟩⟩
    · cases hp
  · split at hp
    · rename_i hy1
      split at hp
      · rename_i hh
        simp only [Option.some.injEq] at hp
        subst hp
        have hturn := hr.2.2.2.1
        have hturns := hr.2.2.2.2.1
        have b1 := mul_bound (a := x) (t := r.tlo) (by omega) (by omega) (by omega) (by omega)
        have b2 := mul_bound (a := x) (t := r.thi) (by omega) (by omega) (by omega) (by omega)
        exact ⟨by omega, by omega, fun _ => ⟨by omega, fun _ w4 hb _ => ⟨by rw [decide_eq_true (show x ≤ r.turns by omega)], hb⟩, fun h => by omega⟩, fun h => absurd hy1 h⟩
      · cases hp
    · rename_i hy1
      split at hp
      · rename_i hh; omega
      · cases hp
end Go.Proofs.R07
end
section
/- RateEnough: the walk. -/
namespace Go.Proofs.R07
open Go.Vc Go.RowKit Go.Proofs

/-- Copies of rules and of a state, made in one statement ahead of a call. -/
theorem copies_own {r : Rules} {s : St} {bs : List Nat} {w w5 : World} {a1 a2 : Option Addr} {c1 c2 : Nat} (hR : Lies bs 0 w5.heap.size w5 a1 (spans r.ws)) (hS : Lies bs 0 w5.heap.size w5 a2 (bools s.used)) (hn : r.ws.length ≤ 100000) (hm : s.used.length ≤ 100000) (ho : ∀ x ∈ bs, x < w5.heap.size)
    {K : Int → Int → Int → Int → Int → Option Addr → Nat → Nat → Int → Int → Option Addr → Nat → Nat → World → World → World → World → Prop}
    (h : ∀ a3 c3 a4 c4 w6 w7 w8 w9, Chg bs w5 w9 → Below w.heap.size w w9 → Cells w9 a3 (spans r.ws) → Cells w9 a4 (bools s.used) → (∀ x ∈ bs, x < w9.heap.size) → K r.limit r.err r.tlo r.thi r.turns a3 r.ws.length c3 s.lo s.hi a4 s.used.length c4 w6 w7 w8 w9) :
    Calls Try.prog 13 #[.agg #[I r.limit, I r.err, I r.tlo, I r.thi, I r.turns, .slice a1 r.ws.length c1]] w5 fun e w6 => ∃ (x8 x9 x10 x11 x12 : Int) (a3 : Option Addr) (m11 m12 : Nat), e = .returned (.agg #[I x8, I x9, I x10, I x11, I x12, .slice a3 m11 m12]) ∧ KeepX true w.heap.size bs (fun _ => False) w5 w6 ∧
      ∀ w7 : World, Below w.heap.size w w7 → KeptIn [(0, w6.heap.size)] bs w6 w7 → Calls Try.prog 14 #[.agg #[I s.lo, I s.hi, .slice a2 s.used.length c2]] w7 fun e w8 => ∃ (x13 x14 : Int) (a4 : Option Addr) (m14 m15 : Nat), e = .returned (.agg #[I x13, I x14, .slice a4 m14 m15]) ∧ KeepX true w.heap.size bs (fun _ => False) w7 w8 ∧
        ∀ w9 : World, Below w.heap.size w w9 → KeptIn [(0, w8.heap.size)] bs w8 w9 → K x8 x9 x10 x11 x12 a3 m11 m12 x13 x14 a4 m14 m15 w6 w7 w8 w9 := by
  refine (copied_any r hR.cells hn).mono fun e w6 he => ?_
  obtain ⟨a3, c3, rfl, b6, A6, _, N6⟩ := he
  refine ⟨_, _, _, _, _, a3, _, c3, rfl, .all b6, fun w7 B7 k7 => ?_⟩
  have P7 := (Lies.new A6 N6 ho).chg k7.chg
  have S7 := (hS.below b6).chg k7.chg
  refine (state_any s S7.cells hm).mono fun e w8 he => ?_
  obtain ⟨a4, c4, rfl, b8, D8, _, N8⟩ := he
  refine ⟨_, _, a4, _, c4, rfl, .all b8, fun w9 B9 k9 => ?_⟩
  have Q9 := (Lies.new D8 N8 k7.own).chg k9.chg
  exact h a3 c3 a4 c4 w6 w7 w8 w9 ((((Chg.of_below b6).trans k7.chg).trans (Chg.of_below b8)).trans k9.chg) B9 ((P7.below b8).chg k9.chg).cells Q9.cells k9.own

theorem copies_low {r : Rules} {s : St} {bs : List Nat} {w w5 : World} {n : Nat} {a1 a2 : Option Addr} {c1 c2 : Nat} (hR : Lies bs 0 n w5 a1 (spans r.ws)) (hS : Lies bs 0 n w5 a2 (bools s.used)) (hn : r.ws.length ≤ 100000) (hm : s.used.length ≤ 100000) (ho : ∀ x ∈ bs, x < n) (hlt : n ≤ w5.heap.size)
    {K : Int → Int → Int → Int → Int → Option Addr → Nat → Nat → Int → Int → Option Addr → Nat → Nat → World → World → World → World → Prop}
    (h : ∀ a3 c3 a4 c4 w6 w7 w8 w9, LowK n bs w5 w9 → n ≤ w9.heap.size → w5.heap.size ≤ w6.heap.size → w6.heap.size ≤ w7.heap.size → w7.heap.size ≤ w8.heap.size → w8.heap.size ≤ w9.heap.size → Below w.heap.size w w9 → Cells w9 a3 (spans r.ws) → Cells w9 a4 (bools s.used) → K r.limit r.err r.tlo r.thi r.turns a3 r.ws.length c3 s.lo s.hi a4 s.used.length c4 w6 w7 w8 w9) :
    Calls Try.prog 13 #[.agg #[I r.limit, I r.err, I r.tlo, I r.thi, I r.turns, .slice a1 r.ws.length c1]] w5 fun e w6 => ∃ (x8 x9 x10 x11 x12 : Int) (a3 : Option Addr) (m11 m12 : Nat), e = .returned (.agg #[I x8, I x9, I x10, I x11, I x12, .slice a3 m11 m12]) ∧ Below w5.heap.size w5 w6 ∧
      ∀ w7 : World, Below w.heap.size w w7 → KeptIn [(0, n), (w5.heap.size, w6.heap.size)] bs w6 w7 → Calls Try.prog 14 #[.agg #[I s.lo, I s.hi, .slice a2 s.used.length c2]] w7 fun e w8 => ∃ (x13 x14 : Int) (a4 : Option Addr) (m14 m15 : Nat), e = .returned (.agg #[I x13, I x14, .slice a4 m14 m15]) ∧ Below w7.heap.size w7 w8 ∧
        ∀ w9 : World, Below w.heap.size w w9 → KeptIn [(0, n), (w7.heap.size, w8.heap.size), (w5.heap.size, w6.heap.size)] bs w8 w9 → K x8 x9 x10 x11 x12 a3 m11 m12 x13 x14 a4 m14 m15 w6 w7 w8 w9 := by
  refine (copied_any r hR.cells hn).mono fun e w6 he => ?_
  obtain ⟨a3, c3, rfl, b6, A6, _, N6⟩ := he
  have z6 := b6.size
  refine ⟨_, _, _, _, _, a3, _, c3, rfl, b6, fun w7 B7 k7 => ?_⟩
  have z7 := k7.size
  have P7 := (Lies.new A6 N6 fun x hx => by have := ho x hx; omega).kin k7 ⟨_, List.mem_cons_of_mem _ List.mem_cons_self, Nat.le_refl _, Nat.le_refl _⟩
  have S7 := (hS.below b6).low (k7.low (by omega)) (Nat.le_refl _)
  refine (state_any s S7.cells hm).mono fun e w8 he => ?_
  obtain ⟨a4, c4, rfl, b8, D8, _, N8⟩ := he
  have z8 := b8.size
  refine ⟨_, _, a4, _, c4, rfl, b8, fun w9 B9 k9 => ?_⟩
  have z9 := k9.size
  have Q9 := (Lies.new D8 N8 k7.own).kin k9 ⟨_, List.mem_cons_of_mem _ List.mem_cons_self, Nat.le_refl _, Nat.le_refl _⟩
  have P9 := (P7.below b8).kin k9 ⟨_, List.mem_cons_of_mem _ (List.mem_cons_of_mem _ List.mem_cons_self), Nat.le_refl _, Nat.le_refl _⟩
  exact h a3 c3 a4 c4 w6 w7 w8 w9 ((((LowK.of_below b6 (by omega)).trans (k7.low (by omega))).trans (LowK.of_below b8 (by omega))).trans (k9.low (by omega))) (by omega) z6 z7 z8 z9 B9 P9.cells Q9.cells

/-- What holds between two visits. -/
structure Visit (r : Rules) (bs : List Nat) (a1 : Option Addr) (s : St) (n t k : Int) (a : Option Addr) (w : World) : Prop where
  sp : okSp (s.lo, s.hi)
  len : s.used.length = r.ws.length
  few : ∃ n' : Nat, n = n' ∧ few r (setOf s.used) (s.lo, s.hi) = some n' ∧ 0 ≤ k ∧ k + n' ≤ 6
  truth : s.lo ≤ t ∧ t ≤ s.hi
  own : ∀ x ∈ bs, x < w.heap.size
  rules : Lies bs 0 w.heap.size w a1 (spans r.ws)
  used : Lies bs 0 w.heap.size w a (bools s.used)

set_option maxRecDepth 100000 in
set_option maxHeartbeats 4000000 in
theorem rateEnough_any {x0 x1 x2 x3 x4 : Int} (h0 : U8 x0) (h1 : U8 x1) (h2 : U8 x2) (h3 : U8 x3) (h4 : U8 x4) {l : List Sp} (hl : ∀ p ∈ l, U8 p.1 ∧ U8 p.2) {y0 y1 y2 : Int} (g0 : U8 y0) (g1 : U8 y1) {by_ : List Int} (hby : ∀ x ∈ by_, U8 x)
    {a b : Option Addr} {c d : Nat} {w : World} (hc : Cells w a (pairs8 l)) (hb : Cells w b (bytes by_)) :
    Calls Try.prog 6 #[.agg #[J x0, J x1, J x2, J x3, J x4, .slice a l.length c], .agg #[J y0, J y1, J y2], .slice b by_.length d] w (Pure w (.bool true)) := by
  refine vc6 _ _ _ _ _ _ _ _ _ _ _ _ _ _ w _ fun m1 i1 m2 i2 w1 B1 k1 => ?_
  refine (rules_any h0 h1 h2 h3 h4 hl (hc.keep B1)).mono fun e w2 he => ?_
  obtain ⟨a1, c1, rfl, b2, A2, _, N2⟩ := he
  have hr := mkR_good x0 x1 x2 x3 x4 l
  generalize mkR x0 x1 x2 x3 x4 l = r at *
  have hlen := hr.1
  refine ⟨_, _, _, _, _, a1, _, c1, rfl, .all b2, fun m6 i6 w3 B3 k3 => ?_⟩
  have R3 := (((Lies.new A2 N2 k1.own).push (.inr i6)).kept k3).now
  refine (begin_any r (by omega) g0 g1).mono fun e w4 he => ?_
  obtain ⟨a2, c2, rfl, b4, D4, _, N4⟩ := he
  have hsp := mkS_ok y0 y1 y2 r.ws.length g0
  have hul := mkS_len y0 y1 y2 r.ws.length
  generalize mkS y0 y1 y2 r.ws.length = s at *
  have hse := start_ok hr hsp hul
  refine ⟨_, _, a2, _, c2, rfl, .all b4, fun m10 i10 w5 B5 k5 => ?_⟩
  have R5 := (((R3.below b4).now.push (.inr i10)).chg k5.chg).now
  have S5 := (((Lies.new D4 N4 k3.own).push (.inr i10)).chg k5.chg).now
  refine copies_own R5 S5 (by omega) (by omega) k5.own fun a3 c3 a4 c4 w6 w7 w8 w9 C9 B9 P9 Q9 o9 => ?_
  refine Pure.calls (fewest_any r s P9 Q9) fun w10 b10 => ⟨_, _, rfl, .all b10, ?_⟩
  have C10 := C9.trans (Chg.of_below b10)
  have R10 := (R5.chg C10).now
  have S10 := (S5.chg C10).now
  have z10 := b10.size
  have o10 : ∀ x ∈ [m10, m6, m2, m1], x < w10.heap.size := fun x hx => by have := o9 x hx; omega
  cases hf : few r (setOf s.used) (s.lo, s.hi) with
  | none =>
    rw [fewestR_none hse hf]
    refine ⟨fun _ w11 B11 k11 => ?_, fun h => absurd h (by decide)⟩
    have z11 := k11.size
    have R11 := R10.chg k11.chg
    have S11 := S10.chg k11.chg
    refine copies_low R11 S11 (by omega) (by omega) o10 (by omega) fun a5 c5 a6 c6 w12 w13 w14 w15 L15 n15 _ _ _ _ B15 P15 Q15 => ?_
    refine Pure.calls (actOf_any r s P15 Q15) fun w16 b16 => ?_
    rw [actR_none hse hf]
    exact ⟨_, _, _, rfl, b16, fun m22 _ _ _ _ => ⟨fun _ => ⟨fun _ => ⟨fun _ w17 B17 k17 => known_tail, fun h => absurd rfl h⟩, fun h => absurd rfl h⟩, fun h => absurd rfl h⟩⟩
  | some n =>
    rw [fewestR_some hse hf]
    have hn7 := few_lt hf
    refine ⟨fun h => absurd rfl h, fun _ => ⟨fun h => by simp only at h; omega, fun _ => ⟨fun h => by simp only at h; omega, fun _ w25 B25 k25 => ?_⟩⟩⟩
    have R25 := (R10.chg k25.chg).now
    have S25 := (S10.chg k25.chg).now
    refine Pure.calls (byteOf_any hby (by omega) (by omega) (hb.keep B25)) fun w26 b26 => ⟨_, rfl, .all b26, fun w27 B27 k27 => ?_⟩
    have u0 := byteAt_u8 hby (0 : Int).toNat
    generalize byteAt by_ (0 : Int).toNat = q0 at *
    have hsp' := hsp
    obtain ⟨v1, v2, v3⟩ := hsp'
    simp only at v1 v2 v3
    refine Pure.calls (inside_any (lo := s.lo) (hi := s.hi) (by omega) (by omega) (by omega) u0 w27) fun w28 b28 => ⟨_, rfl, .all b28, ?_⟩
    have hin := inside_in v2 u0
    have C28 := ((Chg.of_below b26).trans k27.chg).trans (Chg.of_below b28)
    refine ⟨fun ls w' => match ls with | [.bool _, .int _ n, .int _ t, .int _ k, .int _ lo, .int _ hi, .sl a' m c'] => ∃ s' : St, lo = s'.lo ∧ hi = s'.hi ∧ m = s'.used.length ∧ Visit r [m10, m6, m2, m1] a1 s' n t k a' w' | _ => False,
      fun ls => match ls with | [_, .int _ n, _, _, _, _, _] => n.toNat | _ => 0, fun w30 B30 k30 => ⟨s, rfl, rfl, rfl, hsp, hul, ⟨n, rfl, hf, by omega, by omega⟩, hin, k30.own, ((R25.chg C28).kept k30).now, ((S25.chg C28).kept k30).now⟩, ?_⟩
    rintro t2 n2 truth k lo hi a7 ul c7 w31 B31 ⟨s', rfl, rfl, rfl, V⟩
    obtain ⟨n', rfl, hf', hk0, hk6⟩ := V.few
    have hse' := start_ok hr V.sp V.len
    have hlim := hr.2.1
    obtain ⟨t1, t2⟩ := V.truth
    obtain ⟨e1, e2, e3⟩ := V.sp
    simp only at e1 e2 e3
    refine ⟨fun hpos w32 B32 k32 => ?_, fun hz => ?_⟩
    · have z32 := k32.size
      have hul' := V.len
      refine copies_low (V.rules.chg k32.chg) (V.used.chg k32.chg) (by omega) (by omega) V.own (by omega) fun a8 c8 a9 c9 w33 w34 w35 w36 L36 n36 z33 z34 z35 z36 B36 P36 Q36 => ?_
      cases n' with
      | zero => omega
      | succ n' =>
      have hu8 : setOf s'.used < 8 := setOf_lt (by omega)
      obtain ⟨act, img, u', hfa, hmv, hall⟩ := act_of_few hr hu8 V.sp hf'
      refine Pure.calls (actOf_any r s' P36 Q36) fun w37 b37 => ?_
      rw [actR_some hse' hf' hfa]
      refine ⟨_, _, _, rfl, b37, fun m32 j1 j2 j3 j4 w38 B38 k38 => ?_⟩
      have z37 := b37.size
      have L37 := L36.trans (LowK.of_below b37 n36)
      have R38 := ((((V.rules.chg k32.chg).low L37 (Nat.le_refl _)).push (.inr j1)).kept k38).now
      have S38 := ((((V.used.chg k32.chg).low L37 (Nat.le_refl _)).push (.inr j1)).kept k38).now
      obtain ⟨p, hsh, himg⟩ : ∃ p, shift r (setOf s'.used) act = some p ∧ img = (s'.lo + p.1, s'.hi + p.2) := by
        unfold move at hmv
        split at hmv
        · cases hmv
        · rename_i p hp
          split at hmv
          · simp only [Option.some.injEq, Prod.mk.injEq] at hmv; exact ⟨p, hp, hmv.1.symm⟩
          · cases hmv
      have hpb := shift_bound hr hsh
      have hio := (move_facts hr hu8 hmv).2
      refine Pure.calls (effect_any hr hsh R38.cells) fun w39 b39 => ⟨_, _, _, rfl, .all b39, fun h => absurd rfl h, fun _ => ⟨fun h => by simp at h, fun _ => ⟨by omega, by omega, fun w42 B42 k42 => ?_⟩⟩⟩
      refine Pure.calls (byteOf_any hby (by omega) (by omega) (hb.keep B42)) fun w43 b43 => ⟨_, rfl, .all b43, fun w44 B44 k44 => ?_⟩
      have u1 := byteAt_u8 hby (3 * k + 1).toNat
      generalize byteAt by_ (3 * k + 1).toNat = q1 at *
      refine Pure.calls (inside_any (lo := p.1) (hi := p.2) (by omega) (by omega) (by omega) u1 w44) fun w45 b45 => ⟨_, rfl, .all b45, ?_⟩
      have hin1 := inside_in hpb.2.1 u1
      generalize inside p.1 p.2 q1 = d1 at *
      refine ⟨by omega, by omega, by omega, fun w46 B46 k46 => ?_⟩
      refine Pure.calls (byteOf_any hby (by omega) (by omega) (hb.keep B46)) fun w47 b47 => ⟨_, rfl, .all b47, ?_⟩
      have u2 := byteAt_u8 hby (3 * k + 2).toNat
      generalize byteAt by_ (3 * k + 2).toNat = q2 at *
      have herr := hr.2.2.1
      refine ⟨by omega, fun w48 B48 k48 => ?_⟩
      refine Pure.calls (inside_any (lo := 0 - r.err) (hi := r.err) (by omega) (by omega) (by omega) u2 w48) fun w49 b49 => ⟨_, rfl, .all b49, ?_⟩
      have hin2 := inside_in (lo := 0 - r.err) (hi := r.err) (by omega) u2
      generalize inside (0 - r.err) r.err q2 = d2 at *
      refine ⟨by omega, fun w50 B50 k50 => ?_⟩
      have C49 := ((((((((Chg.of_below b39).trans (Chg.kept k42)).trans (Chg.of_below b43)).trans (Chg.kept k44)).trans (Chg.of_below b45)).trans k46.chg).trans (Chg.of_below b47)).trans k48.chg).trans (Chg.of_below b49)
      have R49 := (R38.chg C49).now
      have S49 := (S38.chg C49).now
      have z49 := b49.size
      have z50 := k50.size
      have o49 : ∀ x ∈ [m32, m10, m6, m2, m1], x < w49.heap.size := fun x hx => by have := k48.own x hx; omega
      refine copies_low (R49.chg k50.chg) (S49.chg k50.chg) (by omega) (by omega) o49 (by omega) fun a10 c10 a11 c11 w51 w52 w53 w54 L54 n54 z51 z52 z53 z54 B54 P54 Q54 => ?_
      have hs1 : img.1 - r.err ≤ truth + d1 + d2 := by rw [himg]; simp only; omega
      have hs2 : truth + d1 + d2 ≤ img.2 + r.err := by rw [himg]; simp only; omega
      refine (after_any r s' P54 Q54 act (truth + d1 + d2)).mono fun e w55 he => ?_
      rw [after_ok hr V.sp V.len hmv hs1 hs2] at he
      obtain ⟨a12, c12, rfl, b55, D55, N55⟩ := he
      have hset := move_set hr V.len hmv img (truth + d1 + d2)
      have hin3 : max img.1 (truth + d1 + d2 - r.err) ≤ truth + d1 ∧ truth + d1 ≤ min img.2 (truth + d1 + d2 + r.err) := by rw [himg]; simp only; omega
      have hEn := hall _ hs1 hs2 (by omega)
      have hspN : okSp ((nextR r s' act.2 img (truth + d1 + d2)).lo, (nextR r s' act.2 img (truth + d1 + d2)).hi) := by
        obtain ⟨o1, o2, o3⟩ := hio
        show -300 ≤ max img.1 _ ∧ max img.1 (truth + d1 + d2 - r.err) ≤ min img.2 (truth + d1 + d2 + r.err) ∧ min img.2 _ ≤ 300
        omega
      have hloN : (nextR r s' act.2 img (truth + d1 + d2)).lo = max img.1 (truth + d1 + d2 - r.err) := rfl
      have hhiN : (nextR r s' act.2 img (truth + d1 + d2)).hi = min img.2 (truth + d1 + d2 + r.err) := rfl
      rw [← hset.1, ← hloN, ← hhiN] at hEn
      rw [← hloN, ← hhiN] at hin3
      have hulN : (nextR r s' act.2 img (truth + d1 + d2)).used.length = r.ws.length := hset.2.trans V.len
      have hsl := hset.2
      generalize nextR r s' act.2 img (truth + d1 + d2) = sN at *
      refine ⟨_, _, a12, _, c12, _, rfl, b55, fun m44 l1 l2 l3 l4 => ⟨fun h => absurd rfl h, fun _ => ⟨fun h => absurd (by rw [hsl]) h, fun _ => ⟨fun h => by simp only at h; omega, fun _ => ⟨fun h => by simp only at h; omega, fun _ w60 B60 k60 => ?_⟩⟩⟩⟩⟩
      have z55 := b55.size
      have R55 := ((((R49.chg k50.chg).low L54 (Nat.le_refl _)).below b55).push (.inr l1)).now
      have N55' := (Lies.new (bs := [m32, m10, m6, m2, m1]) D55 (n := w54.heap.size) (.inr N55) fun x hx => by have := o49 x hx; omega).push (m := m44) (by omega)
      have R60 := (R55.chg k60.chg).now
      have N60 := (N55'.chg k60.chg).now
      refine copies_own R60 N60 (by omega) (by omega) k60.own fun a13 c13 a14 c14 w61 w62 w63 w64 C64 B64 P64 Q64 o64 => ?_
      obtain ⟨kN, hkN, hfN⟩ := few_le hr (by omega) hspN hEn
      refine Pure.calls (fewest_any r sN P64 Q64) fun w65 b65 => ?_
      rw [fewestR_some (start_ok hr hspN hulN) hfN]
      refine ⟨_, _, rfl, .all b65, fun h => absurd rfl h, fun _ => ⟨fun h => by simp only at h; omega, fun _ => ⟨by omega, fun w68 B68 k68 => ⟨⟨sN, rfl, rfl, rfl, hspN, hulN, ⟨kN, rfl, hfN, by omega, by omega⟩, hin3, fun x hx => k68.own x (List.mem_cons_of_mem _ (List.mem_cons_of_mem _ hx)), ?_, ?_⟩, ?_⟩⟩⟩⟩
      · exact ((R60.chg (C64.trans (Chg.of_below b65))).kept k68).pop.pop.now
      · exact ((N60.chg (C64.trans (Chg.of_below b65))).kept k68).pop.pop.now
      · show (kN : Int).toNat < ((n' + 1 : Nat) : Int).toNat
        omega
    · have hz' : n' = 0 := by omega
      subst hz'
      have hg := (few_enough hr V.sp hf').1
      simp only [Enough] at hg
      have hg1 := hg.1
      have hg2 := hg.2
      refine ⟨by omega, fun _ => ⟨fun _ => ⟨by omega, fun _ => ⟨fun _ w69 B69 k69 => known_tail, fun h => by omega⟩, fun h => by omega⟩, fun h => by omega⟩, fun h => by omega⟩
end Go.Proofs.R07
end
section
/- The conditions of the functions, printed by program; each is what the generator reckons (kernel_rfl). -/
namespace Go.Proofs
open Go.Vc
set_option maxRecDepth 100000 in
set_option maxHeartbeats 2000000 in
theorem vc7 (x0 : Int) (x1 : Int) (x2 : Int) (x3 : Int) (x4 : Int) (x5a : Option Addr) (x5n : Nat) (x5c : Nat) (p1at0 : Int) (p1at1 : Int) (p1at2 : Int) (act0 : Int) (act1 : Int)
    (w : World) (R : Ending → World → Prop) (h : ∀ (m1 : Nat), w.heap.size ≤ m1 → ∀ (m2 : Nat), w.heap.size ≤ m2 → ∀ (m3 : Nat), w.heap.size ≤ m3 → ∀ (w1 : World), RowKit.Below
    w.heap.size w w1 → Kept [m3, m2, m1] w w1 → Calls Try.prog 31 #[Value.agg #[Value.int IntKind.u8 x0, Value.int IntKind.u8 x1, Value.int IntKind.u8 x2, Value.int IntKind.u8 x3,
    Value.int IntKind.u8 x4, Value.slice x5a x5n x5c]] w1 fun (e1 : Ending) (w2 : World) => ∃ (x1 : Int), ∃ (x2 : Int), ∃ (x3 : Int), ∃ (x4 : Int), ∃ (x5 : Int), ∃ (a1 : Option
    Addr), ∃ (m4 : Nat), ∃ (m5 : Nat), e1 = Ending.returned (Value.agg #[Value.int IntKind.i64 x1, Value.int IntKind.i64 x2, Value.int IntKind.i64 x3, Value.int IntKind.i64 x4,
    Value.int IntKind.i64 x5, Value.slice a1 m4 m5]) ∧ KeepX true w.heap.size [m3, m2, m1] (fun (m6 : Nat) => False) w1 w2 ∧ ∀ (m7 : Nat), w2.heap.size ≤ m7 → ∀ (w3 : World),
    RowKit.Below w.heap.size w w3 → Kept [m7, m3, m2, m1] w2 w3 → Calls Try.prog 32 #[Value.agg #[Value.int IntKind.i64 x1, Value.int IntKind.i64 x2, Value.int IntKind.i64 x3,
    Value.int IntKind.i64 x4, Value.int IntKind.i64 x5, Value.slice a1 m4 m5], Value.agg #[Value.int IntKind.u8 p1at0, Value.int IntKind.u8 p1at1, Value.int IntKind.u8 p1at2]] w3
    fun (e2 : Ending) (w4 : World) => ∃ (x6 : Int), ∃ (x7 : Int), ∃ (a2 : Option Addr), ∃ (m8 : Nat), ∃ (m9 : Nat), e2 = Ending.returned (Value.agg #[Value.int IntKind.i64 x6,
    Value.int IntKind.i64 x7, Value.slice a2 m8 m9]) ∧ KeepX true w.heap.size [m7, m3, m2, m1] (fun (m10 : Nat) => False) w3 w4 ∧ ∀ (m11 : Nat), w4.heap.size ≤ m11 → ∀ (w5 :
    World), RowKit.Below w.heap.size w w5 → KeptIn [(0, w4.heap.size)] [m11, m7, m3, m2, m1] w4 w5 → Calls Try.prog 13 #[Value.agg #[Value.int IntKind.i64 x1, Value.int IntKind.i64
    x2, Value.int IntKind.i64 x3, Value.int IntKind.i64 x4, Value.int IntKind.i64 x5, Value.slice a1 m4 m5]] w5 fun (e3 : Ending) (w6 : World) => ∃ (x8 : Int), ∃ (x9 : Int), ∃ (x10
    : Int), ∃ (x11 : Int), ∃ (x12 : Int), ∃ (a3 : Option Addr), ∃ (m12 : Nat), ∃ (m13 : Nat), e3 = Ending.returned (Value.agg #[Value.int IntKind.i64 x8, Value.int IntKind.i64 x9,
    Value.int IntKind.i64 x10, Value.int IntKind.i64 x11, Value.int IntKind.i64 x12, Value.slice a3 m12 m13]) ∧ KeepX true w.heap.size [m11, m7, m3, m2, m1] (fun (m14 : Nat) =>
    False) w5 w6 ∧ ∀ (w7 : World), RowKit.Below w.heap.size w w7 → KeptIn [(0, w6.heap.size)] [m11, m7, m3, m2, m1] w6 w7 → Calls Try.prog 14 #[Value.agg #[Value.int IntKind.i64
    x6, Value.int IntKind.i64 x7, Value.slice a2 m8 m9]] w7 fun (e4 : Ending) (w8 : World) => ∃ (x13 : Int), ∃ (x14 : Int), ∃ (a4 : Option Addr), ∃ (m15 : Nat), ∃ (m16 : Nat), e4 =
    Ending.returned (Value.agg #[Value.int IntKind.i64 x13, Value.int IntKind.i64 x14, Value.slice a4 m15 m16]) ∧ KeepX true w.heap.size [m11, m7, m3, m2, m1] (fun (m17 : Nat) =>
    False) w7 w8 ∧ ∀ (w9 : World), RowKit.Below w.heap.size w w9 → KeptIn [(0, w8.heap.size)] [m11, m7, m3, m2, m1] w8 w9 → Calls Try.prog 24 #[Value.agg #[Value.int IntKind.i64
    x8, Value.int IntKind.i64 x9, Value.int IntKind.i64 x10, Value.int IntKind.i64 x11, Value.int IntKind.i64 x12, Value.slice a3 m12 m13], Value.agg #[Value.int IntKind.i64 x13,
    Value.int IntKind.i64 x14, Value.slice a4 m15 m16]] w9 fun (e5 : Ending) (w10 : World) => ∃ (x15 : Int), ∃ (x16 : Int), e5 = Ending.returned (Value.tuple #[Value.int
    IntKind.i64 x15, Value.int IntKind.i64 x16]) ∧ KeepX true w.heap.size [m11, m7, m3, m2, m1] (fun (m18 : Nat) => False) w9 w10 ∧ ∃ (F1 : List Lf → World → Prop), ((x16 ≠ 0 → ∀
    (w12 : World), RowKit.Below w.heap.size w w12 → Kept [m11, m7, m3, m2, m1] w10 w12 → F1 [Lf.bool (x16 != 7)] w12) ∧ (x16 = 0 → ∀ (w13 : World), RowKit.Below w.heap.size w w13 →
    Kept [m11, m7, m3, m2, m1] w10 w13 → F1 [Lf.bool false] w13)) ∧ ∀ (t1 : Bool) (w14 : World), RowKit.Below w.heap.size w w14 → F1 [Lf.bool t1] w14 → (t1 = true → ∀ (w15 :
    World), RowKit.Below w.heap.size w w15 → Kept [m11, m7, m3, m2, m1] w14 w15 → R (Ending.returned (Value.bool false)) w15) ∧ (t1 = false → ∃ (F2 : List Lf → World → Prop), ((x16
    = 7 → ∀ (w17 : World), RowKit.Below w.heap.size w w17 → Kept [m11, m7, m3, m2, m1] w14 w17 → F2 [Lf.int IntKind.i64 7] w17) ∧ (x16 ≠ 7 → ∀ (w18 : World), RowKit.Below
    w.heap.size w w18 → Kept [m11, m7, m3, m2, m1] w14 w18 → F2 [Lf.int IntKind.i64 x15] w18)) ∧ ∀ (x17 : Int) (w19 : World), RowKit.Below w.heap.size w w19 → F2 [Lf.int
    IntKind.i64 x17] w19 → (-9223372036854775808 ≤ act0 ∧ act0 ≤ 9223372036854775807) ∧ ((-9223372036854775808 : Int) ≤ 2 * x5 ∧ 2 * x5 ≤ 9223372036854775807) ∧
    ((-9223372036854775808 : Int) ≤ 2 * x5 + 1 ∧ 2 * x5 + (1 : Int) ≤ 9223372036854775807) ∧ 2 * x5 + (1 : Int) ≠ 0 ∧ (-9223372036854775808 ≤ act0.tmod (2 * x5 + 1) - x5 ∧
    act0.tmod (2 * x5 + 1) - x5 ≤ 9223372036854775807) ∧ ∀ (m19 : Nat), w19.heap.size ≤ m19 → ∃ (F3 : List Lf → World → Prop), ((0 < (↑m4 : Int) → (3 : Int) ≠ 0 ∧ ∀ (w21 : World),
    RowKit.Below w.heap.size w w21 → Kept [m19, m11, m7, m3, m2, m1] w19 w21 → w21.heap[m7]? = some (Obj.cells #[Value.int IntKind.i64 x1, Value.int IntKind.i64 x2, Value.int
    IntKind.i64 x3, Value.int IntKind.i64 x4, Value.int IntKind.i64 x5, Value.slice a1 m4 m5] 26) → w21.heap[m3]? = some (Obj.cells #[Value.int IntKind.u8 act0, Value.int
    IntKind.u8 act1] 74) → F3 [Lf.bool (act1.tmod 3 == 0), Lf.int IntKind.i64 (act0.tmod (2 * x5 + 1) - x5), Lf.int IntKind.i64 (-1)] w21) ∧ ((↑m4 : Int) ≤ 0 → ∀ (w22 : World),
    RowKit.Below w.heap.size w w22 → Kept [m19, m11, m7, m3, m2, m1] w19 w22 → w22.heap[m7]? = some (Obj.cells #[Value.int IntKind.i64 x1, Value.int IntKind.i64 x2, Value.int
    IntKind.i64 x3, Value.int IntKind.i64 x4, Value.int IntKind.i64 x5, Value.slice a1 m4 m5] 26) → F3 [Lf.bool false, Lf.int IntKind.i64 (act0.tmod (2 * x5 + 1) - x5), Lf.int
    IntKind.i64 (-1)] w22)) ∧ ∀ (t2 : Bool) (x18 x19 : Int) (w23 : World), RowKit.Below w.heap.size w w23 → F3 [Lf.bool t2, Lf.int IntKind.i64 x18, Lf.int IntKind.i64 x19] w23 → ∃
    (F4 : List Lf → World → Prop), ((t2 = true → (-9223372036854775808 ≤ act1 ∧ act1 ≤ 9223372036854775807) ∧ ((3 : Int) ≠ 0 ∧ -9223372036854775808 ≤ act1.tdiv 3 ∧ act1.tdiv (3 :
    Int) ≤ 9223372036854775807) ∧ (↑m4 : Int) ≠ 0 ∧ ∀ (w25 : World), RowKit.Below w.heap.size w w25 → Kept [m19, m11, m7, m3, m2, m1] w23 w25 → w25.heap[m3]? = some (Obj.cells
    #[Value.int IntKind.u8 act0, Value.int IntKind.u8 act1] 74) → w25.heap[m7]? = some (Obj.cells #[Value.int IntKind.i64 x1, Value.int IntKind.i64 x2, Value.int IntKind.i64 x3,
    Value.int IntKind.i64 x4, Value.int IntKind.i64 x5, Value.slice a1 m4 m5] 26) → F4 [Lf.int IntKind.i64 0, Lf.int IntKind.i64 ((act1.tdiv 3).tmod (↑m4 : Int))] w25) ∧ (t2 =
    false → ∀ (w26 : World), RowKit.Below w.heap.size w w26 → Kept [m19, m11, m7, m3, m2, m1] w23 w26 → F4 [Lf.int IntKind.i64 x18, Lf.int IntKind.i64 x19] w26)) ∧ ∀ (x20 x21 :
    Int) (w27 : World), RowKit.Below w.heap.size w w27 → F4 [Lf.int IntKind.i64 x20, Lf.int IntKind.i64 x21] w27 → ∀ (w28 : World), RowKit.Below w.heap.size w w28 → Kept [m19, m11,
    m7, m3, m2, m1] w27 w28 → Calls Try.prog 35 #[Value.agg #[Value.int IntKind.i64 x1, Value.int IntKind.i64 x2, Value.int IntKind.i64 x3, Value.int IntKind.i64 x4, Value.int
    IntKind.i64 x5, Value.slice a1 m4 m5], Value.agg #[Value.int IntKind.i64 x20, Value.int IntKind.i64 x21]] w28 fun (e6 : Ending) (w29 : World) => ∃ (x22 : Int), ∃ (x23 : Int), ∃
    (t3 : Bool), e6 = Ending.returned (Value.tuple #[Value.int IntKind.i64 x22, Value.int IntKind.i64 x23, Value.bool t3]) ∧ KeepX true w.heap.size [m19, m11, m7, m3, m2, m1] (fun
    (m25 : Nat) => False) w28 w29 ∧ (-9223372036854775808 ≤ x22 + x6 ∧ x22 + x6 ≤ 9223372036854775807) ∧ (-9223372036854775808 ≤ x23 + x7 ∧ x23 + x7 ≤ 9223372036854775807) ∧ ∃ (F5
    : List Lf → World → Prop), ((-300 ≤ x22 + x6 → (x23 + x7 ≤ 300 → (x21 < 0 → ∀ (w31 : World), RowKit.Below w.heap.size w w31 → Kept [m19, m11, m7, m3, m2, m1] w29 w31 →
    w31.heap[m19]? = some (Obj.cells #[Value.int IntKind.i64 x20, Value.int IntKind.i64 x21] 36) → F5 [Lf.bool true, Lf.int IntKind.i64 x20, Lf.int IntKind.i64 x21] w31) ∧ (0 ≤ x21
    → ∃ (m27 : Nat), ∃ (m28 : Nat), a2 = some { block := m27, off := m28 } ∧ (0 ≤ x21 ∧ x21 < (↑m8 : Int)) ∧ ∃ (t4 : Bool), w29.cell? { block := m27, off := m28 + x21.toNat * 1 } =
    some (Value.bool t4) ∧ (m27 < w.heap.size ∨ m27 ≠ m19 ∧ m27 ≠ m11 ∧ m27 ≠ m7 ∧ m27 ≠ m3 ∧ m27 ≠ m2 ∧ m27 ≠ m1) ∧ ∀ (w32 : World), RowKit.Below w.heap.size w w32 → Kept [m19,
    m11, m7, m3, m2, m1] w29 w32 → w32.heap[m19]? = some (Obj.cells #[Value.int IntKind.i64 x20, Value.int IntKind.i64 x21] 36) → w32.heap[m11]? = some (Obj.cells #[Value.int
    IntKind.i64 x6, Value.int IntKind.i64 x7, Value.slice a2 m8 m9] 29) → w32.heap[m19]? = some (Obj.cells #[Value.int IntKind.i64 x20, Value.int IntKind.i64 x21] 36) → F5 [Lf.bool
    !t4, Lf.int IntKind.i64 x20, Lf.int IntKind.i64 x21] w32)) ∧ (300 < x23 + x7 → ∀ (w33 : World), RowKit.Below w.heap.size w w33 → Kept [m19, m11, m7, m3, m2, m1] w29 w33 → F5
    [Lf.bool false, Lf.int IntKind.i64 x20, Lf.int IntKind.i64 x21] w33)) ∧ (x22 + x6 < -300 → ∀ (w34 : World), RowKit.Below w.heap.size w w34 → Kept [m19, m11, m7, m3, m2, m1] w29
    w34 → F5 [Lf.bool false, Lf.int IntKind.i64 x20, Lf.int IntKind.i64 x21] w34)) ∧ ∀ (t5 : Bool) (x24 x25 : Int) (w35 : World), RowKit.Below w.heap.size w w35 → F5 [Lf.bool t5,
    Lf.int IntKind.i64 x24, Lf.int IntKind.i64 x25] w35 → (-9223372036854775808 ≤ x22 + x6 - x2 ∧ x22 + x6 - x2 ≤ 9223372036854775807) ∧ ∃ (F6 : List Lf → World → Prop), ∃ (F7 :
    List Lf → Nat), (∀ (w37 : World), RowKit.Below w.heap.size w w37 → Kept [m19, m11, m7, m3, m2, m1] w35 w37 → F6 [Lf.bool false, Lf.int IntKind.i64 0, Lf.int IntKind.i64 (x22 +
    x6 - x2), Lf.int IntKind.i64 x24, Lf.int IntKind.i64 x25] w37) ∧ ∀ (t6 : Bool) (x26 x27 x28 x29 : Int) (w38 : World), RowKit.Below w.heap.size w w38 → F6 [Lf.bool t6, Lf.int
    IntKind.i64 x26, Lf.int IntKind.i64 x27, Lf.int IntKind.i64 x28, Lf.int IntKind.i64 x29] w38 → (-9223372036854775808 ≤ x23 + x7 + x2 ∧ x23 + x7 + x2 ≤ 9223372036854775807) ∧
    (x27 ≤ x23 + x7 + x2 → (-9223372036854775808 ≤ x17 - 1 ∧ x17 - (1 : Int) ≤ 9223372036854775807) ∧ (x26 < x17 - 1 → ∀ (w39 : World), RowKit.Below w.heap.size w w39 → KeptIn [(0,
    w38.heap.size)] [m19, m11, m7, m3, m2, m1] w38 w39 → Calls Try.prog 13 #[Value.agg #[Value.int IntKind.i64 x1, Value.int IntKind.i64 x2, Value.int IntKind.i64 x3, Value.int
    IntKind.i64 x4, Value.int IntKind.i64 x5, Value.slice a1 m4 m5]] w39 fun (e7 : Ending) (w40 : World) => ∃ (x30 : Int), ∃ (x31 : Int), ∃ (x32 : Int), ∃ (x33 : Int), ∃ (x34 :
    Int), ∃ (a5 : Option Addr), ∃ (m32 : Nat), ∃ (m33 : Nat), e7 = Ending.returned (Value.agg #[Value.int IntKind.i64 x30, Value.int IntKind.i64 x31, Value.int IntKind.i64 x32,
    Value.int IntKind.i64 x33, Value.int IntKind.i64 x34, Value.slice a5 m32 m33]) ∧ RowKit.Below w39.heap.size w39 w40 ∧ ∀ (w41 : World), RowKit.Below w.heap.size w w41 → KeptIn
    [(0, w38.heap.size), (w39.heap.size, w40.heap.size)] [m19, m11, m7, m3, m2, m1] w40 w41 → Calls Try.prog 14 #[Value.agg #[Value.int IntKind.i64 x6, Value.int IntKind.i64 x7,
    Value.slice a2 m8 m9]] w41 fun (e8 : Ending) (w42 : World) => ∃ (x35 : Int), ∃ (x36 : Int), ∃ (a6 : Option Addr), ∃ (m34 : Nat), ∃ (m35 : Nat), e8 = Ending.returned (Value.agg
    #[Value.int IntKind.i64 x35, Value.int IntKind.i64 x36, Value.slice a6 m34 m35]) ∧ RowKit.Below w41.heap.size w41 w42 ∧ ∀ (w43 : World), RowKit.Below w.heap.size w w43 → KeptIn
    [(0, w38.heap.size), (w41.heap.size, w42.heap.size), (w39.heap.size, w40.heap.size)] [m19, m11, m7, m3, m2, m1] w42 w43 → Calls Try.prog 16 #[Value.agg #[Value.int IntKind.i64
    x30, Value.int IntKind.i64 x31, Value.int IntKind.i64 x32, Value.int IntKind.i64 x33, Value.int IntKind.i64 x34, Value.slice a5 m32 m33], Value.agg #[Value.int IntKind.i64 x35,
    Value.int IntKind.i64 x36, Value.slice a6 m34 m35], Value.agg #[Value.int IntKind.i64 x28, Value.int IntKind.i64 x29], Value.int IntKind.i64 x27] w43 fun (e9 : Ending) (w44 :
    World) => ∃ (x37 : Int), ∃ (x38 : Int), ∃ (a7 : Option Addr), ∃ (m36 : Nat), ∃ (m37 : Nat), ∃ (x39 : Int), e9 = Ending.returned (Value.tuple #[Value.agg #[Value.int IntKind.i64
    x37, Value.int IntKind.i64 x38, Value.slice a7 m36 m37], Value.int IntKind.i64 x39]) ∧ RowKit.Below w43.heap.size w43 w44 ∧ ∀ (m38 : Nat), w38.heap.size ≤ m38 → m38 <
    w43.heap.size ∨ w44.heap.size ≤ m38 → m38 < w41.heap.size ∨ w42.heap.size ≤ m38 → m38 < w39.heap.size ∨ w40.heap.size ≤ m38 → ((!t5) = true → (x39 = 3 → ∀ (w45 : World),
    RowKit.Below w.heap.size w w45 → Kept [m38, m19, m11, m7, m3, m2, m1] w44 w45 → Calls Try.prog 12 #[] w45 fun (e10 : Ending) (w46 : World) => ∃ (t7 : Bool), e10 =
    Ending.returned (Value.bool t7) ∧ KeepX true w.heap.size [m38, m19, m11, m7, m3, m2, m1] (fun (m39 : Nat) => False) w45 w46 ∧ ∀ (w47 : World), RowKit.Below w.heap.size w w47 →
    Kept [m38, m19, m11, m7, m3, m2, m1] w46 w47 → R (Ending.returned (Value.bool t7)) w47) ∧ (x39 ≠ 3 → ∀ (w48 : World), RowKit.Below w.heap.size w w48 → Kept [m38, m19, m11, m7,
    m3, m2, m1] w44 w48 → R (Ending.returned (Value.bool false)) w48)) ∧ ((!t5) = false → (x39 ≠ 0 → ∀ (w49 : World), RowKit.Below w.heap.size w w49 → Kept [m38, m19, m11, m7, m3,
    m2, m1] w44 w49 → R (Ending.returned (Value.bool false)) w49) ∧ (x39 = 0 → (x37 < x22 + x6 → ∀ (w50 : World), RowKit.Below w.heap.size w w50 → Kept [m38, m19, m11, m7, m3, m2,
    m1] w44 w50 → R (Ending.returned (Value.bool false)) w50) ∧ (x22 + x6 ≤ x37 → (x23 + x7 < x38 → ∀ (w51 : World), RowKit.Below w.heap.size w w51 → Kept [m38, m19, m11, m7, m3,
    m2, m1] w44 w51 → R (Ending.returned (Value.bool false)) w51) ∧ (x38 ≤ x23 + x7 → (x38 < x37 → ∀ (w52 : World), RowKit.Below w.heap.size w w52 → Kept [m38, m19, m11, m7, m3,
    m2, m1] w44 w52 → R (Ending.returned (Value.bool false)) w52) ∧ (x37 ≤ x38 → (-9223372036854775808 ≤ x38 - x37 ∧ x38 - x37 ≤ 9223372036854775807) ∧ ((-9223372036854775808 :
    Int) ≤ 2 * x2 ∧ 2 * x2 ≤ 9223372036854775807) ∧ (2 * x2 < x38 - x37 → ∀ (w53 : World), RowKit.Below w.heap.size w w53 → Kept [m38, m19, m11, m7, m3, m2, m1] w44 w53 → R
    (Ending.returned (Value.bool false)) w53) ∧ (x38 - x37 ≤ 2 * x2 → ∀ (w54 : World), RowKit.Below w.heap.size w w54 → KeptIn [(0, w44.heap.size)] [m38, m19, m11, m7, m3, m2, m1]
    w44 w54 → Calls Try.prog 13 #[Value.agg #[Value.int IntKind.i64 x1, Value.int IntKind.i64 x2, Value.int IntKind.i64 x3, Value.int IntKind.i64 x4, Value.int IntKind.i64 x5,
    Value.slice a1 m4 m5]] w54 fun (e11 : Ending) (w55 : World) => ∃ (x40 : Int), ∃ (x41 : Int), ∃ (x42 : Int), ∃ (x43 : Int), ∃ (x44 : Int), ∃ (a8 : Option Addr), ∃ (m40 : Nat), ∃
    (m41 : Nat), e11 = Ending.returned (Value.agg #[Value.int IntKind.i64 x40, Value.int IntKind.i64 x41, Value.int IntKind.i64 x42, Value.int IntKind.i64 x43, Value.int
    IntKind.i64 x44, Value.slice a8 m40 m41]) ∧ KeepX true w.heap.size [m38, m19, m11, m7, m3, m2, m1] (fun (m42 : Nat) => False) w54 w55 ∧ ∀ (w56 : World), RowKit.Below
    w.heap.size w w56 → KeptIn [(0, w55.heap.size)] [m38, m19, m11, m7, m3, m2, m1] w55 w56 → Calls Try.prog 14 #[Value.agg #[Value.int IntKind.i64 x37, Value.int IntKind.i64 x38,
    Value.slice a7 m36 m37]] w56 fun (e12 : Ending) (w57 : World) => ∃ (x45 : Int), ∃ (x46 : Int), ∃ (a9 : Option Addr), ∃ (m43 : Nat), ∃ (m44 : Nat), e12 = Ending.returned
    (Value.agg #[Value.int IntKind.i64 x45, Value.int IntKind.i64 x46, Value.slice a9 m43 m44]) ∧ KeepX true w.heap.size [m38, m19, m11, m7, m3, m2, m1] (fun (m45 : Nat) => False)
    w56 w57 ∧ ∀ (w58 : World), RowKit.Below w.heap.size w w58 → KeptIn [(0, w57.heap.size)] [m38, m19, m11, m7, m3, m2, m1] w57 w58 → Calls Try.prog 24 #[Value.agg #[Value.int
    IntKind.i64 x40, Value.int IntKind.i64 x41, Value.int IntKind.i64 x42, Value.int IntKind.i64 x43, Value.int IntKind.i64 x44, Value.slice a8 m40 m41], Value.agg #[Value.int
    IntKind.i64 x45, Value.int IntKind.i64 x46, Value.slice a9 m43 m44]] w58 fun (e13 : Ending) (w59 : World) => ∃ (x47 : Int), ∃ (x48 : Int), e13 = Ending.returned (Value.tuple
    #[Value.int IntKind.i64 x47, Value.int IntKind.i64 x48]) ∧ KeepX true w.heap.size [m38, m19, m11, m7, m3, m2, m1] (fun (m46 : Nat) => False) w58 w59 ∧ (x48 = 7 →
    (-9223372036854775808 ≤ x27 + 1 ∧ x27 + (1 : Int) ≤ 9223372036854775807) ∧ ∀ (w60 : World), RowKit.Below w.heap.size w w60 → Kept [m38, m19, m11, m7, m3, m2, m1] w59 w60 → F6
    [Lf.bool t6, Lf.int IntKind.i64 (max x26 7), Lf.int IntKind.i64 (x27 + 1), Lf.int IntKind.i64 x28, Lf.int IntKind.i64 x29] w60 ∧ F7 [Lf.bool t6, Lf.int IntKind.i64 (max x26 7),
    Lf.int IntKind.i64 (x27 + 1), Lf.int IntKind.i64 x28, Lf.int IntKind.i64 x29] < F7 [Lf.bool t6, Lf.int IntKind.i64 x26, Lf.int IntKind.i64 x27, Lf.int IntKind.i64 x28, Lf.int
    IntKind.i64 x29]) ∧ (x48 ≠ 7 → (x48 ≠ 0 → ∀ (w61 : World), RowKit.Below w.heap.size w w61 → Kept [m38, m19, m11, m7, m3, m2, m1] w59 w61 → R (Ending.returned (Value.bool
    false)) w61) ∧ (x48 = 0 → (-9223372036854775808 ≤ x27 + 1 ∧ x27 + (1 : Int) ≤ 9223372036854775807) ∧ ∀ (w62 : World), RowKit.Below w.heap.size w w62 → Kept [m38, m19, m11, m7,
    m3, m2, m1] w59 w62 → F6 [Lf.bool t6, Lf.int IntKind.i64 (max x26 x47), Lf.int IntKind.i64 (x27 + 1), Lf.int IntKind.i64 x28, Lf.int IntKind.i64 x29] w62 ∧ F7 [Lf.bool t6,
    Lf.int IntKind.i64 (max x26 x47), Lf.int IntKind.i64 (x27 + 1), Lf.int IntKind.i64 x28, Lf.int IntKind.i64 x29] < F7 [Lf.bool t6, Lf.int IntKind.i64 x26, Lf.int IntKind.i64
    x27, Lf.int IntKind.i64 x28, Lf.int IntKind.i64 x29]))))))))) ∧ (x17 - 1 ≤ x26 → (x17 = 0 → ∀ (w63 : World), RowKit.Below w.heap.size w w63 → Kept [m19, m11, m7, m3, m2, m1]
    w38 w63 → Calls Try.prog 12 #[] w63 fun (e14 : Ending) (w64 : World) => ∃ (t8 : Bool), e14 = Ending.returned (Value.bool t8) ∧ KeepX true w.heap.size [m19, m11, m7, m3, m2, m1]
    (fun (m47 : Nat) => False) w63 w64 ∧ ∀ (w65 : World), RowKit.Below w.heap.size w w65 → Kept [m19, m11, m7, m3, m2, m1] w64 w65 → R (Ending.returned (Value.bool t8)) w65) ∧ (x17
    ≠ 0 → (-9223372036854775808 ≤ x17 - 1 ∧ x17 - (1 : Int) ≤ 9223372036854775807) ∧ (x17 - 1 ≤ x26 → ∀ (w66 : World), RowKit.Below w.heap.size w w66 → Kept [m19, m11, m7, m3, m2,
    m1] w38 w66 → Calls Try.prog 12 #[] w66 fun (e15 : Ending) (w67 : World) => ∃ (t9 : Bool), e15 = Ending.returned (Value.bool t9) ∧ KeepX true w.heap.size [m19, m11, m7, m3, m2,
    m1] (fun (m48 : Nat) => False) w66 w67 ∧ ∀ (w68 : World), RowKit.Below w.heap.size w w68 → Kept [m19, m11, m7, m3, m2, m1] w67 w68 → R (Ending.returned (Value.bool t9)) w68) ∧
    (x26 < x17 - 1 → ∀ (w69 : World), RowKit.Below w.heap.size w w69 → Kept [m19, m11, m7, m3, m2, m1] w38 w69 → R (Ending.returned (Value.bool false)) w69)))) ∧ (x23 + x7 + x2 <
    x27 → (x17 = 0 → ∀ (w70 : World), RowKit.Below w.heap.size w w70 → Kept [m19, m11, m7, m3, m2, m1] w38 w70 → Calls Try.prog 12 #[] w70 fun (e16 : Ending) (w71 : World) => ∃
    (t10 : Bool), e16 = Ending.returned (Value.bool t10) ∧ KeepX true w.heap.size [m19, m11, m7, m3, m2, m1] (fun (m49 : Nat) => False) w70 w71 ∧ ∀ (w72 : World), RowKit.Below
    w.heap.size w w72 → Kept [m19, m11, m7, m3, m2, m1] w71 w72 → R (Ending.returned (Value.bool t10)) w72) ∧ (x17 ≠ 0 → (-9223372036854775808 ≤ x17 - 1 ∧ x17 - (1 : Int) ≤
    9223372036854775807) ∧ (x17 - 1 ≤ x26 → ∀ (w73 : World), RowKit.Below w.heap.size w w73 → Kept [m19, m11, m7, m3, m2, m1] w38 w73 → Calls Try.prog 12 #[] w73 fun (e17 : Ending)
    (w74 : World) => ∃ (t11 : Bool), e17 = Ending.returned (Value.bool t11) ∧ KeepX true w.heap.size [m19, m11, m7, m3, m2, m1] (fun (m50 : Nat) => False) w73 w74 ∧ ∀ (w75 :
    World), RowKit.Below w.heap.size w w75 → Kept [m19, m11, m7, m3, m2, m1] w74 w75 → R (Ending.returned (Value.bool t11)) w75) ∧ (x26 < x17 - 1 → ∀ (w76 : World), RowKit.Below
    w.heap.size w w76 → Kept [m19, m11, m7, m3, m2, m1] w38 w76 → R (Ending.returned (Value.bool false)) w76))))) : Calls Try.prog 7 #[Value.agg #[Value.int IntKind.u8 x0,
    Value.int IntKind.u8 x1, Value.int IntKind.u8 x2, Value.int IntKind.u8 x3, Value.int IntKind.u8 x4, Value.slice x5a x5n x5c], Value.agg #[Value.int IntKind.u8 p1at0, Value.int
    IntKind.u8 p1at1, Value.int IntKind.u8 p1at2], Value.agg #[Value.int IntKind.u8 act0, Value.int IntKind.u8 act1]] w R := calls_of_vcj (pure := true) (wrapAt := []) (muts :=
    [11]) (esc := []) (joins := [(2000004, [(40, 4)]), (42, [(9, 3)]), (2000009, [(64, 4)]), (64, []), (2000013, [(15, 4)])]) (args := [SV.pv (PV.agg [Lf.int IntKind.u8 x0, Lf.int
    IntKind.u8 x1, Lf.int IntKind.u8 x2, Lf.int IntKind.u8 x3, Lf.int IntKind.u8 x4, Lf.sl x5a x5n x5c]), SV.pv (PV.agg [Lf.int IntKind.u8 p1at0, Lf.int IntKind.u8 p1at1, Lf.int
    IntKind.u8 p1at2]), SV.pv (PV.agg [Lf.int IntKind.u8 act0, Lf.int IntKind.u8 act1])]) (vs := [Value.agg #[Value.int IntKind.u8 x0, Value.int IntKind.u8 x1, Value.int IntKind.u8
    x2, Value.int IntKind.u8 x3, Value.int IntKind.u8 x4, Value.slice x5a x5n x5c], Value.agg #[Value.int IntKind.u8 p1at0, Value.int IntKind.u8 p1at1, Value.int IntKind.u8 p1at2],
    Value.agg #[Value.int IntKind.u8 act0, Value.int IntKind.u8 act1]]) Try.func7 rfl rfl rfl (Eq.mp (by kernel_rfl) h) 
end Go.Proofs
end
section
/- RateNoFewer: the walk. -/
namespace Go.Proofs.R07
open Go.Vc Go.RowKit Go.Proofs

theorem enough_more {r : Rules} : ∀ {v v' u : Nat} {s : Sp}, v ≤ v' → Enough r v u s → Enough r v' u s
  | 0, 0, _, _, _, h => h
  | 0, v' + 1, _, _, _, h => .inl h
  | v + 1, 0, _, _, hv, _ => by omega
  | v + 1, v' + 1, _, _, hv, h => h.imp id fun ⟨a, ha, img, u', hm, hall⟩ => ⟨a, ha, img, u', hm, fun seen q1 q2 q3 => enough_more (by omega) (hall seen q1 q2 q3)⟩

/-- Rules and a state in memory, besides the call's own variables. -/
structure Base (r : Rules) (s : St) (bs : List Nat) (a1 a2 : Option Addr) (w : World) : Prop where
  own : ∀ x ∈ bs, x < w.heap.size
  rules : Lies bs 0 w.heap.size w a1 (spans r.ws)
  used : Lies bs 0 w.heap.size w a2 (bools s.used)
section
variable {r : Rules} {s : St} {bs : List Nat} {a1 a2 : Option Addr} {w w' : World}
theorem Base.chg (h : Base r s bs a1 a2 w) (c : Chg bs w w') : Base r s bs a1 a2 w' := ⟨fun x hx => Nat.lt_of_lt_of_le (h.own x hx) c.size, (h.rules.chg c).now, (h.used.chg c).now⟩
theorem Base.kept (h : Base r s bs a1 a2 w) (k : Kept bs w w') : Base r s bs a1 a2 w' := h.chg (Chg.kept k)
theorem Base.below (h : Base r s bs a1 a2 w) (b : Below w.heap.size w w') : Base r s bs a1 a2 w' := h.chg (Chg.of_below b)
theorem Base.push (h : Base r s bs a1 a2 w) {m : Nat} (hm : w.heap.size ≤ m) (k : Kept (m :: bs) w w') : Base r s (m :: bs) a1 a2 w' := ⟨k.own, ((h.rules.push (.inr hm)).kept k).now, ((h.used.push (.inr hm)).kept k).now⟩
theorem Base.pop {m : Nat} (h : Base r s (m :: bs) a1 a2 w) : Base r s bs a1 a2 w := ⟨fun x hx => h.own x (List.mem_cons_of_mem _ hx), h.rules.pop, h.used.pop⟩
end

/-- An act that there is, allowed or not. -/
def ValidAct (r : Rules) (x : Int × Int) : Prop := (x.2 = -1 ∧ -r.turns ≤ x.1 ∧ x.1 ≤ r.turns) ∨ (x.1 = 0 ∧ 0 ≤ x.2 ∧ x.2 < r.ws.length)
def effR (r : Rules) (x : Int × Int) : Sp := if x.2 = -1 then (min (x.1 * r.tlo) (x.1 * r.thi), max (x.1 * r.tlo) (x.1 * r.thi)) else (r.ws[x.2.toNat]?).getD (0, 0)
def usedAt (s : St) (y : Int) : Bool := decide (0 ≤ y) && (s.used[y.toNat]?).getD false
theorem shift_valid {r : Rules} {s : St} (hl : s.used.length = r.ws.length) {x : Int × Int} (hx : ValidAct r x) : shift r (setOf s.used) x = if usedAt s x.2 then none else some (effR r x) := by
  unfold shift effR usedAt
  rcases hx with ⟨h1, h2⟩ | ⟨h1, h2, h3⟩
  · rw [if_pos h1, if_pos h2, if_pos h1, h1]; rfl
  · have hne : x.2 ≠ -1 := by omega
    rw [if_neg hne, if_neg hne]
    have hi : x.2.toNat < s.used.length := by omega
    rw [getElem_of_lt hi, has_setOf hi, getElem_of_lt (show x.2.toNat < r.ws.length by omega), decide_eq_true h2]
    cases hb : s.used[x.2.toNat] with
    | true => simp
    | false => simp; omega
theorem effR_bound {r : Rules} (hr : Good r) {x : Int × Int} (hx : ValidAct r x) : -1000 ≤ (effR r x).1 ∧ (effR r x).1 ≤ (effR r x).2 ∧ (effR r x).2 ≤ 1000 := by
  have h0 : shift r 0 x = some (effR r x) := by
    unfold shift effR
    rcases hx with ⟨h1, h2⟩ | ⟨h1, h2, h3⟩
    · rw [if_pos h1, if_pos h2, if_pos h1]
    · rw [if_neg (show x.2 ≠ -1 by omega), if_neg (show x.2 ≠ -1 by omega), if_pos ⟨h2, by omega, by simp [has], h1⟩, getElem_of_lt (show x.2.toNat < r.ws.length by omega)]; rfl
  exact shift_bound hr h0

set_option maxHeartbeats 1000000 in
theorem effect2_any {r : Rules} (hr : Good r) {x : Int × Int} (hx : ValidAct r x) {a : Option Addr} {c : Nat} {w : World} (hc : Cells w a (spans r.ws)) :
    Calls Try.prog 35 #[r.v a c, .agg #[I x.1, I x.2]] w (Pure w (.tuple #[I (effR r x).1, I (effR r x).2, .bool true])) := by
  have h0 : shift r 0 x = some (effR r x) := by
    unfold shift effR
    rcases hx with ⟨h1, h2⟩ | ⟨h1, h2, h3⟩
    · rw [if_pos h1, if_pos h2, if_pos h1]
    · rw [if_neg (show x.2 ≠ -1 by omega), if_neg (show x.2 ≠ -1 by omega), if_pos ⟨h2, by omega, by simp [has], h1⟩, getElem_of_lt (show x.2.toNat < r.ws.length by omega)]; rfl
  exact effect_any hr h0 hc

/-- Is an act that there is allowed? -/
def allowedB (r : Rules) (s : St) (x : Int × Int) : Bool := decide (-300 ≤ (effR r x).1 + s.lo) && (decide ((effR r x).2 + s.hi ≤ 300) && !usedAt s x.2)
theorem move_allowed {r : Rules} (hr : Good r) {s : St} (hs : okSp (s.lo, s.hi)) (hl : s.used.length = r.ws.length) {x : Int × Int} (hx : ValidAct r x) :
    if allowedB r s x then ∃ u', move r (s.lo, s.hi) (setOf s.used) x = some (((effR r x).1 + s.lo, (effR r x).2 + s.hi), u') else move r (s.lo, s.hi) (setOf s.used) x = none := by
  have hb := effR_bound hr hx
  obtain ⟨k1, k2, k3⟩ := hs
  simp only at k1 k2 k3
  unfold move allowedB
  rw [shift_valid hl hx]
  cases hu : usedAt s x.2 with
  | true => simp
  | false =>
    simp only [Bool.false_eq_true, if_false, Bool.not_false, Bool.and_true, Bool.and_eq_true, decide_eq_true_eq]
    have hsp := isSpan_iff (s.lo + (effR r x).1, s.hi + (effR r x).2) (-300) 300
    simp only at hsp
    by_cases hh : -300 ≤ (effR r x).1 + s.lo ∧ (effR r x).2 + s.hi ≤ 300
    · rw [if_pos hh, if_pos (hsp.2 (by omega))]
      exact ⟨_, by rw [Int.add_comm s.lo, Int.add_comm s.hi]⟩
    · rw [if_neg hh, if_neg fun h => hh (by have := hsp.1 h; omega)]

/-- How many visits are needed; 7 if there are not enough. -/
def need (r : Rules) (s : St) : Nat := (few r (setOf s.used) (s.lo, s.hi)).getD 7
theorem need_le {r : Rules} {s : St} : need r s ≤ 7 := by
  unfold need
  cases h : few r (setOf s.used) (s.lo, s.hi) with
  | none => simp
  | some n => have := few_lt h; simp; omega
theorem need_enough {r : Rules} (hr : Good r) {s : St} (hs : okSp (s.lo, s.hi)) {k : Nat} (h : need r s ≤ k) (hk : k < 7) : Enough r k (setOf s.used) (s.lo, s.hi) := by
  unfold need at h
  cases hf : few r (setOf s.used) (s.lo, s.hi) with
  | none => rw [hf] at h; simp at h; omega
  | some n =>
    rw [hf] at h
    exact enough_more h (few_enough hr hs hf).1
theorem enough_need {r : Rules} (hr : Good r) {s : St} (hs : okSp (s.lo, s.hi)) {k : Nat} (hk : k < 7) (h : Enough r k (setOf s.used) (s.lo, s.hi)) : need r s ≤ k := by
  obtain ⟨j, hj, hf⟩ := few_le hr hk hs h
  unfold need; rw [hf]; exact hj

theorem acts_valid {r : Rules} {x : Int × Int} (hx : ValidAct r x) : x ∈ acts r := by
  rcases hx with ⟨h1, h2, h3⟩ | ⟨h1, h2, h3⟩
  · have := acts_turn (r := r) (x := x.1 + r.turns) (by omega) (by omega)
    rw [show x.1 + r.turns - r.turns = x.1 by omega, ← h1] at this
    exact List.mem_of_getElem? this
  · have := acts_weight (r := r) (x := x.2) h2 h3
    rw [← h1] at this
    exact List.mem_of_getElem? this
end Go.Proofs.R07
end
section
/- RateNoFewer: the walk. -/
namespace Go.Proofs.R07
open Go.Vc Go.RowKit Go.Proofs

theorem after_no {r : Rules} {s : St} (h : startErr r s = 0) {x : Int × Int} {seen : Int} (hm : move r (s.lo, s.hi) (setOf s.used) x = none) : afterR r s x seen = (⟨0, 0, []⟩, 3) := by
  unfold afterR
  rw [if_neg (by omega), hm]

/-- What is known between two sights. -/
structure Sights (r : Rules) (s : St) (x : Int × Int) (most seen : Int) : Prop where
  lo : (effR r x).1 + s.lo - r.err ≤ seen
  hi : seen ≤ (effR r x).2 + s.hi + r.err + 1
  bound : 0 ≤ most ∧ most ≤ 7
  no : allowedB r s x = false → seen = (effR r x).1 + s.lo - r.err
  all : allowedB r s x = true → ∀ seen' : Int, (effR r x).1 + s.lo - r.err ≤ seen' → seen' < seen → (need r (nextR r s x.2 ((effR r x).1 + s.lo, (effR r x).2 + s.hi) seen') : Int) ≤ most

theorem no_fewer {r : Rules} (hr : Good r) {s : St} (hs : okSp (s.lo, s.hi)) (hl : s.used.length = r.ws.length) {x : Int × Int} (hx : ValidAct r x) {most seen : Int} (V : Sights r s x most seen) (h : (effR r x).2 + s.hi + r.err < seen) : ¬ most < (need r s : Int) - 1 := fun hlt => by
  have hb := effR_bound hr hx
  have herr := hr.2.2.1
  have hm := move_allowed hr hs hl hx
  have hn7 := need_le (r := r) (s := s)
  have hs' := hs
  obtain ⟨k1, k2, k3⟩ := hs'
  simp only at k1 k2 k3
  have hmost := V.bound
  cases hal : allowedB r s x with
  | false => have := V.no hal; omega
  | true =>
    rw [if_pos hal] at hm
    obtain ⟨u', hm⟩ := hm
    have hio := (move_facts hr (setOf_lt (by have := hr.1; omega)) hm).2
    obtain ⟨o1, o2, o3⟩ := hio
    simp only at o1 o2 o3
    have hE : Enough r (need r s - 2 + 1) (setOf s.used) (s.lo, s.hi) := by
      refine .inr ⟨x, acts_valid hx, _, _, hm, fun seen' q1 q2 q3 => ?_⟩
      simp only at q1 q2 q3 ⊢
      have hset := move_set hr hl hm ((effR r x).1 + s.lo, (effR r x).2 + s.hi) seen'
      have hnd := V.all hal seen' q1 (by omega)
      have hsp : okSp ((nextR r s x.2 ((effR r x).1 + s.lo, (effR r x).2 + s.hi) seen').lo, (nextR r s x.2 ((effR r x).1 + s.lo, (effR r x).2 + s.hi) seen').hi) := by
        show -300 ≤ max _ _ ∧ max ((effR r x).1 + s.lo) (seen' - r.err) ≤ min ((effR r x).2 + s.hi) (seen' + r.err) ∧ min _ _ ≤ 300
        omega
      have := need_enough hr hsp (k := need r s - 2) (by omega) (by omega)
      rw [hset.1] at this
      exact this
    have := enough_need hr hs (by omega) hE
    omega

set_option maxRecDepth 100000 in
set_option maxHeartbeats 4000000 in
theorem rateNoFewer_any {x0 x1 x2 x3 x4 : Int} (h0 : U8 x0) (h1 : U8 x1) (h2 : U8 x2) (h3 : U8 x3) (h4 : U8 x4) {l : List Sp} (hl : ∀ p ∈ l, U8 p.1 ∧ U8 p.2) {y0 y1 y2 : Int} (g0 : U8 y0) (g1 : U8 y1) {c0 c1 : Int} (e0 : U8 c0) (e1 : U8 c1)
    {a : Option Addr} {c : Nat} {w : World} (hc : Cells w a (pairs8 l)) :
    Calls Try.prog 7 #[.agg #[J x0, J x1, J x2, J x3, J x4, .slice a l.length c], .agg #[J y0, J y1, J y2], .agg #[J c0, J c1]] w (Pure w (.bool true)) := by
  refine vc7 _ _ _ _ _ _ _ _ _ _ _ _ _ w _ fun m1 i1 m2 i2 m3 i3 w1 B1 k1 => ?_
  refine (rules_any h0 h1 h2 h3 h4 hl (hc.keep B1)).mono fun e w2 he => ?_
  obtain ⟨a1, c1', rfl, b2, A2, _, N2⟩ := he
  have hr := mkR_good x0 x1 x2 x3 x4 l
  generalize mkR x0 x1 x2 x3 x4 l = r at *
  have hlen := hr.1
  refine ⟨_, _, _, _, _, a1, _, c1', rfl, .all b2, fun m7 i7 w3 B3 k3 => ?_⟩
  have R3 := (((Lies.new A2 N2 k1.own).push (.inr i7)).kept k3).now
  refine (begin_any r (by omega) g0 g1).mono fun e w4 he => ?_
  obtain ⟨a2, c2, rfl, b4, D4, _, N4⟩ := he
  have hsp := mkS_ok y0 y1 y2 r.ws.length g0
  have hul := mkS_len y0 y1 y2 r.ws.length
  generalize mkS y0 y1 y2 r.ws.length = s at *
  have hse := start_ok hr hsp hul
  refine ⟨_, _, a2, _, c2, rfl, .all b4, fun m11 i11 w5 B5 k5 => ?_⟩
  have b5 : Base r s [m11, m7, m3, m2, m1] a1 a2 w5 := ⟨k5.own, (((R3.below b4).now.push (.inr i11)).chg k5.chg).now, (((Lies.new D4 N4 k3.own).push (.inr i11)).chg k5.chg).now⟩
  refine copies_own b5.rules b5.used (by omega) (by omega) k5.own fun a3 c3 a4 c4 w6 w7 w8 w9 C9 B9 P9 Q9 o9 => ?_
  refine Pure.calls (fewest_any r s P9 Q9) fun w10 b10' => ⟨_, _, rfl, .all b10', ?_⟩
  have b10 := b5.chg (C9.trans (Chg.of_below b10'))
  have hcase : ((fewestR r s).2 = 7 ∧ need r s = 7) ∨ ((fewestR r s).2 = 0 ∧ (fewestR r s).1 = (need r s : Nat)) := by
    unfold need
    cases hf : few r (setOf s.used) (s.lo, s.hi) with
    | none => left; rw [fewestR_none hse hf]; exact ⟨rfl, rfl⟩
    | some n => right; rw [fewestR_some hse hf]; exact ⟨rfl, rfl⟩
  generalize fewestR r s = fr at *
  have hn7 := need_le (r := r) (s := s)
  have herr := hr.2.2.1
  have hturns := hr.2.2.2.2.1
  have hs' := hsp
  obtain ⟨v1, v2, v3⟩ := hs'
  simp only at v1 v2 v3
  unfold U8 at e0 e1
  refine ⟨fun ls w' => match ls with | [.bool t] => t = false ∧ Base r s [m11, m7, m3, m2, m1] a1 a2 w' | _ => False, ⟨fun hne w12 B12 k12 => ⟨?_, b10.kept k12⟩, fun _ w13 B13 k13 => ⟨rfl, b10.kept k13⟩⟩, ?_⟩
  · rcases hcase with ⟨h, _⟩ | ⟨h, _⟩
    · rw [h]; rfl
    · exact absurd h hne
  rintro t1 w14 B14 ⟨rfl, b14⟩
  refine ⟨fun h => absurd h (by decide), fun _ => ⟨fun ls w' => match ls with | [.int _ n] => n = (need r s : Nat) ∧ Base r s [m11, m7, m3, m2, m1] a1 a2 w' | _ => False, ⟨fun h7 w17 B17 k17 => ⟨by omega, b14.kept k17⟩, fun h7 w18 B18 k18 => ⟨by omega, b14.kept k18⟩⟩, ?_⟩⟩
  rintro x17 w19 B19 ⟨rfl, b19⟩
  have et : c0.tmod (2 * r.turns + 1) = c0 % (2 * r.turns + 1) := Int.tmod_eq_emod_of_nonneg e0.1
  have et1 := Int.emod_nonneg c0 (show 2 * r.turns + 1 ≠ 0 by omega)
  have et2 := Int.emod_lt_of_pos c0 (show 0 < 2 * r.turns + 1 by omega)
  rw [et]
  generalize c0 % (2 * r.turns + 1) = z at *
  refine ⟨by omega, by omega, by omega, by omega, by omega, fun m19 i19 => ?_⟩
  refine ⟨fun ls w' => match ls with | [.bool t, .int _ p, .int _ q] => p = z - r.turns ∧ q = -1 ∧ (t = true → 0 < r.ws.length) ∧ Base r s [m19, m11, m7, m3, m2, m1] a1 a2 w' | _ => False,
    ⟨fun hpos => ⟨by decide, fun w21 B21 k21 _ _ => ⟨rfl, rfl, fun _ => by omega, b19.push i19 k21⟩⟩, fun hle w22 B22 k22 _ => ⟨rfl, rfl, fun h => absurd h (by decide), b19.push i19 k22⟩⟩, ?_⟩
  rintro t2 x18 x19 w23 B23 ⟨rfl, rfl, ht2, b23⟩
  have ed : c1.tdiv 3 = c1 / 3 := Int.tdiv_eq_ediv_of_nonneg e1.1
  rw [ed]
  refine ⟨fun ls w' => match ls with | [.int _ p, .int _ q] => ValidAct r (p, q) ∧ Base r s [m19, m11, m7, m3, m2, m1] a1 a2 w' | _ => False,
    ⟨fun ht => ⟨by omega, ⟨by decide, by omega, by omega⟩, by have := ht2 ht; omega, fun w25 B25 k25 _ _ => ⟨.inr ⟨rfl, ?_, ?_⟩, b23.kept k25⟩⟩, fun _ w26 B26 k26 => ⟨.inl ⟨rfl, by show -r.turns ≤ z - r.turns; omega, by show z - r.turns ≤ r.turns; omega⟩, b23.kept k26⟩⟩, ?_⟩
  · exact Int.tmod_nonneg _ (by omega)
  · exact Int.tmod_lt_of_pos _ (by have := ht2 ht; omega)
  rintro x20 x21 w27 B27 ⟨hva, b27⟩
  intro w28 B28 k28
  have b28 := b27.kept k28
  have hb := effR_bound hr hva
  refine Pure.calls (effect2_any hr hva b28.rules.cells) fun w29 b29' => ⟨_, _, _, rfl, .all b29', by omega, by omega, ?_⟩
  have b29 := b28.below b29'
  refine ⟨fun ls w' => match ls with | [.bool t, .int _ p, .int _ q] => t = allowedB r s (x20, x21) ∧ p = x20 ∧ q = x21 ∧ Base r s [m19, m11, m7, m3, m2, m1] a1 a2 w' | _ => False,
    ⟨fun q1 => ⟨fun q2 => ⟨fun q3 w31 B31 k31 _ => ⟨?_, rfl, rfl, b29.kept k31⟩, fun q3 => ?_⟩, fun q2 w33 B33 k33 => ⟨?_, rfl, rfl, b29.kept k33⟩⟩, fun q1 w34 B34 k34 => ⟨?_, rfl, rfl, b29.kept k34⟩⟩, ?_⟩
  · unfold allowedB usedAt
    rw [decide_eq_true q1, decide_eq_true q2, decide_eq_false (show ¬ 0 ≤ x21 by omega)]; rfl
  · have hi : x21.toNat < s.used.length := by
      rcases hva with ⟨h, _⟩ | ⟨_, h, h'⟩
      · simp only at h; omega
      · simp only at h h'; omega
    obtain ⟨p, q, rfl, ⟨hn, _, _⟩, cc⟩ := b29.used x21.toNat _ (bools_get (getElem_of_lt hi))
    refine ⟨p, q, rfl, ⟨q3, by omega⟩, s.used[x21.toNat], cell_at cc (by omega), .inr (by simpa using hn), fun w32 B32 k32 _ _ _ => ⟨?_, rfl, rfl, b29.kept k32⟩⟩
    unfold allowedB usedAt
    rw [decide_eq_true q1, decide_eq_true q2, decide_eq_true (show 0 ≤ x21 by omega), getElem_of_lt hi]; rfl
  · unfold allowedB
    rw [decide_eq_true q1, decide_eq_false (show ¬ (effR r (x20, x21)).2 + s.hi ≤ 300 by omega)]; rfl
  · unfold allowedB
    rw [decide_eq_false (show ¬ -300 ≤ (effR r (x20, x21)).1 + s.lo by omega)]; rfl
  rintro t5 x24 x25 w35 B35 ⟨rfl, rfl, rfl, b35⟩
  refine ⟨by omega, fun ls w' => match ls with | [.bool _, .int _ most, .int _ seen, .int _ p, .int _ q] => p = x24 ∧ q = x25 ∧ Sights r s (x24, x25) most seen ∧ Base r s [m19, m11, m7, m3, m2, m1] a1 a2 w' | _ => False,
    fun ls => match ls with | [_, _, .int _ seen, _, _] => ((effR r (x24, x25)).2 + s.hi + r.err + 1 - seen).toNat | _ => 0, fun w37 B37 k37 => ⟨rfl, rfl, ⟨by omega, by omega, by omega, fun _ => rfl, fun _ seen' q1 q2 => by omega⟩, b35.kept k37⟩, ?_⟩
  rintro t6 most seen x28 x29 w38 B38 ⟨rfl, rfl, V, b38⟩
  have V1 := V.lo
  have V2 := V.hi
  have V3 := V.bound
  refine ⟨by omega, fun hle => ⟨by omega, fun hmost w39 B39 k39 => ?_, fun hge => ⟨fun _ w63 B63 k63 => known_tail, fun _ => ⟨by omega, fun _ w66 B66 k66 => known_tail, fun h => by omega⟩⟩⟩, fun hgt => ⟨fun _ w70 B70 k70 => known_tail, fun _ => ⟨by omega, fun _ w73 B73 k73 => known_tail, fun h => absurd h (no_fewer hr hsp hul hva V hgt)⟩⟩⟩
  have z39 := k39.size
  refine copies_low (b38.rules.chg k39.chg) (b38.used.chg k39.chg) (by omega) (by omega) b38.own (by omega) fun a5 c5 a6 c6 w40 w41 w42 w43 L43 n43 z40 z41 z42 z43 B43 P43 Q43 => ?_
  refine (after_any r s P43 Q43 (x28, x29) seen).mono fun e w44 he => ?_
  have hm := move_allowed hr hsp hul hva
  cases hal : allowedB r s (x28, x29) with
  | false =>
    rw [hal, if_neg (by decide)] at hm
    rw [after_no hse hm] at he
    obtain ⟨a7, c7, rfl, b44, D44, N44⟩ := he
    exact ⟨_, _, a7, _, c7, _, rfl, b44, fun m38 j1 j2 j3 j4 => ⟨fun _ => ⟨fun _ w45 B45 k45 => known_tail, fun h => absurd rfl h⟩, fun h => absurd h (by decide)⟩⟩
  | true =>
    rw [if_pos hal] at hm
    obtain ⟨u', hm⟩ := hm
    have hio := (move_facts hr (setOf_lt (by omega)) hm).2
    rw [after_ok hr hsp hul hm (by simp only; omega) (by simp only; omega)] at he
    obtain ⟨a7, c7, rfl, b44, D44, N44⟩ := he
    have hset := move_set hr hul hm ((effR r (x28, x29)).1 + s.lo, (effR r (x28, x29)).2 + s.hi) seen
    have Vall := V.all hal
    have hloN : (nextR r s x29 ((effR r (x28, x29)).1 + s.lo, (effR r (x28, x29)).2 + s.hi) seen).lo = max ((effR r (x28, x29)).1 + s.lo) (seen - r.err) := rfl
    have hhiN : (nextR r s x29 ((effR r (x28, x29)).1 + s.lo, (effR r (x28, x29)).2 + s.hi) seen).hi = min ((effR r (x28, x29)).2 + s.hi) (seen + r.err) := rfl
    have hulN := hset.2.trans hul
    have step : ∀ m : Int, (need r (nextR r s x29 ((effR r (x28, x29)).1 + s.lo, (effR r (x28, x29)).2 + s.hi) seen) : Int) ≤ m → m ≤ 7 → Sights r s (x28, x29) (max most m) (seen + 1) := fun m hm1 hm7 => ⟨by omega, by omega, by omega, fun h => (by rw [hal] at h; cases h), fun _ seen' q1 q2 => by
      by_cases he : seen' = seen
      · subst he; have : m ≤ max most m := Int.le_max_right _ _; exact Int.le_trans hm1 this
      · exact Int.le_trans (Vall seen' q1 (by omega)) (Int.le_max_left _ _)⟩
    simp only at D44
    generalize nextR r s x29 ((effR r (x28, x29)).1 + s.lo, (effR r (x28, x29)).2 + s.hi) seen = sN at *
    obtain ⟨o1, o2, o3⟩ := hio
    simp only at o1 o2 o3
    have hspN : okSp (sN.lo, sN.hi) := by
      show -300 ≤ sN.lo ∧ sN.lo ≤ sN.hi ∧ sN.hi ≤ 300
      omega
    refine ⟨_, _, a7, _, c7, _, rfl, b44, fun m38 j1 j2 j3 j4 => ⟨fun h => absurd h (by decide), fun _ => ⟨fun h => absurd rfl h, fun _ => ⟨fun h => by simp only at h; omega, fun _ => ⟨fun h => by simp only at h; omega, fun _ => ⟨fun h => by simp only at h; omega, fun _ => ⟨by simp only; omega, by omega, fun h => by simp only at h; omega, fun _ w54 B54 k54 => ?_⟩⟩⟩⟩⟩⟩⟩
    have z44 := b44.size
    have R44 := ((((b38.rules.chg k39.chg).low L43 (Nat.le_refl _)).below b44).push (.inr j1)).now
    have S44 := ((((b38.used.chg k39.chg).low L43 (Nat.le_refl _)).below b44).push (.inr j1)).now
    have N44' := (Lies.new (bs := [m19, m11, m7, m3, m2, m1]) D44 (n := w43.heap.size) (.inr N44) fun x hx => by have := b38.own x hx; omega).push (m := m38) (by omega)
    have b54 : Base r s [m38, m19, m11, m7, m3, m2, m1] a1 a2 w54 := ⟨k54.own, (R44.chg k54.chg).now, (S44.chg k54.chg).now⟩
    refine copies_own (s := sN) b54.rules (N44'.chg k54.chg).now (by omega) (by omega) k54.own fun a8 c8 a9 c9 w55 w56 w57 w58 C58 B58 P58 Q58 o58 => ?_
    refine Pure.calls (fewest_any r sN P58 Q58) fun w59 b59 => ?_
    have hseN := start_ok hr hspN hulN
    have b59' := b54.chg (C58.trans (Chg.of_below b59))
    have hneed : need r sN = (few r (setOf sN.used) (sN.lo, sN.hi)).getD 7 := rfl
    have meas : ((effR r (x28, x29)).2 + s.hi + r.err + 1 - (seen + 1)).toNat < ((effR r (x28, x29)).2 + s.hi + r.err + 1 - seen).toNat := by omega
    cases hf : few r (setOf sN.used) (sN.lo, sN.hi) with
    | none =>
      rw [hf] at hneed
      rw [fewestR_none hseN hf]
      exact ⟨_, _, rfl, .all b59, fun _ => ⟨by omega, fun w60 B60 k60 => ⟨⟨rfl, rfl, step 7 (by rw [hneed]; decide) (by omega), (b59'.kept k60).pop⟩, meas⟩⟩, fun h => absurd rfl h⟩
    | some n =>
      have hn := few_lt hf
      rw [hf] at hneed
      rw [fewestR_some hseN hf]
      exact ⟨_, _, rfl, .all b59, fun h => (by simp at h), fun _ => ⟨fun h => absurd rfl h, fun _ => ⟨by omega, fun w62 B62 k62 => ⟨⟨rfl, rfl, step _ (by rw [hneed]; exact Int.le_refl _) (by simp only; omega), (b59'.kept k62).pop⟩, meas⟩⟩⟩⟩
end Go.Proofs.R07
end
section
/- The conditions of the functions, printed by program; each is what the generator reckons (kernel_rfl). -/
namespace Go.Proofs
open Go.Vc
set_option maxRecDepth 100000 in
set_option maxHeartbeats 2000000 in
theorem vc8 (x0 : Int) (x1 : Int) (x2 : Int) (x3 : Int) (x4 : Int) (x5a : Option Addr) (x5n : Nat) (x5c : Nat) (p1at0 : Int) (p1at1 : Int) (p1at2 : Int) (p2by0 : Int) (p2by1 : Int)
    (p2by2 : Int) (p2by3 : Int) (w : World) (R : Ending → World → Prop) (h : ∀ (m1 : Nat), w.heap.size ≤ m1 → ∀ (m2 : Nat), w.heap.size ≤ m2 → ∀ (w1 : World), RowKit.Below
    w.heap.size w w1 → Kept [m2, m1] w w1 → ∀ (m3 : Nat) (w2 : World), m3 = w1.heap.size → w2 = w1.alloc (Obj.cells #[Value.int IntKind.u8 p2by0, Value.int IntKind.u8 p2by1,
    Value.int IntKind.u8 p2by2, Value.int IntKind.u8 p2by3] 76) → ∀ (w3 : World), RowKit.Below w.heap.size w w3 → Kept [m2, m1] w2 w3 → Calls Try.prog 31 #[Value.agg #[Value.int
    IntKind.u8 x0, Value.int IntKind.u8 x1, Value.int IntKind.u8 x2, Value.int IntKind.u8 x3, Value.int IntKind.u8 x4, Value.slice x5a x5n x5c]] w3 fun (e1 : Ending) (w4 : World)
    => ∃ (x1 : Int), ∃ (x2 : Int), ∃ (x3 : Int), ∃ (x4 : Int), ∃ (x5 : Int), ∃ (a1 : Option Addr), ∃ (m4 : Nat), ∃ (m5 : Nat), e1 = Ending.returned (Value.agg #[Value.int
    IntKind.i64 x1, Value.int IntKind.i64 x2, Value.int IntKind.i64 x3, Value.int IntKind.i64 x4, Value.int IntKind.i64 x5, Value.slice a1 m4 m5]) ∧ KeepX true w.heap.size [m2, m1]
    (fun (m6 : Nat) => False) w3 w4 ∧ ∀ (m7 : Nat), w4.heap.size ≤ m7 → ∀ (w5 : World), RowKit.Below w.heap.size w w5 → Kept [m7, m2, m1] w4 w5 → Calls Try.prog 32 #[Value.agg
    #[Value.int IntKind.i64 x1, Value.int IntKind.i64 x2, Value.int IntKind.i64 x3, Value.int IntKind.i64 x4, Value.int IntKind.i64 x5, Value.slice a1 m4 m5], Value.agg #[Value.int
    IntKind.u8 p1at0, Value.int IntKind.u8 p1at1, Value.int IntKind.u8 p1at2]] w5 fun (e2 : Ending) (w6 : World) => ∃ (x6 : Int), ∃ (x7 : Int), ∃ (a2 : Option Addr), ∃ (m8 : Nat),
    ∃ (m9 : Nat), e2 = Ending.returned (Value.agg #[Value.int IntKind.i64 x6, Value.int IntKind.i64 x7, Value.slice a2 m8 m9]) ∧ KeepX true w.heap.size [m7, m2, m1] (fun (m10 :
    Nat) => False) w5 w6 ∧ ∀ (m11 : Nat), w6.heap.size ≤ m11 → ∀ (w7 : World), RowKit.Below w.heap.size w w7 → KeptIn [(0, w6.heap.size)] [m11, m7, m2, m1] w6 w7 → Calls Try.prog
    13 #[Value.agg #[Value.int IntKind.i64 x1, Value.int IntKind.i64 x2, Value.int IntKind.i64 x3, Value.int IntKind.i64 x4, Value.int IntKind.i64 x5, Value.slice a1 m4 m5]] w7 fun
    (e3 : Ending) (w8 : World) => ∃ (x8 : Int), ∃ (x9 : Int), ∃ (x10 : Int), ∃ (x11 : Int), ∃ (x12 : Int), ∃ (a3 : Option Addr), ∃ (m12 : Nat), ∃ (m13 : Nat), e3 = Ending.returned
    (Value.agg #[Value.int IntKind.i64 x8, Value.int IntKind.i64 x9, Value.int IntKind.i64 x10, Value.int IntKind.i64 x11, Value.int IntKind.i64 x12, Value.slice a3 m12 m13]) ∧
    KeepX true w.heap.size [m11, m7, m2, m1] (fun (m14 : Nat) => False) w7 w8 ∧ ∀ (w9 : World), RowKit.Below w.heap.size w w9 → KeptIn [(0, w8.heap.size)] [m11, m7, m2, m1] w8 w9 →
    Calls Try.prog 14 #[Value.agg #[Value.int IntKind.i64 x6, Value.int IntKind.i64 x7, Value.slice a2 m8 m9]] w9 fun (e4 : Ending) (w10 : World) => ∃ (x13 : Int), ∃ (x14 : Int), ∃
    (a4 : Option Addr), ∃ (m15 : Nat), ∃ (m16 : Nat), e4 = Ending.returned (Value.agg #[Value.int IntKind.i64 x13, Value.int IntKind.i64 x14, Value.slice a4 m15 m16]) ∧ KeepX true
    w.heap.size [m11, m7, m2, m1] (fun (m17 : Nat) => False) w9 w10 ∧ ∀ (w11 : World), RowKit.Below w.heap.size w w11 → KeptIn [(0, w10.heap.size)] [m11, m7, m2, m1] w10 w11 →
    Calls Try.prog 24 #[Value.agg #[Value.int IntKind.i64 x8, Value.int IntKind.i64 x9, Value.int IntKind.i64 x10, Value.int IntKind.i64 x11, Value.int IntKind.i64 x12, Value.slice
    a3 m12 m13], Value.agg #[Value.int IntKind.i64 x13, Value.int IntKind.i64 x14, Value.slice a4 m15 m16]] w11 fun (e5 : Ending) (w12 : World) => ∃ (x15 : Int), ∃ (x16 : Int), e5
    = Ending.returned (Value.tuple #[Value.int IntKind.i64 x15, Value.int IntKind.i64 x16]) ∧ KeepX true w.heap.size [m11, m7, m2, m1] (fun (m18 : Nat) => False) w11 w12 ∧ (x16 ≠ 0
    → (x16 = 7 → (x15 = 0 → ∀ (w13 : World), RowKit.Below w.heap.size w w13 → Kept [m11, m7, m2, m1] w12 w13 → Calls Try.prog 12 #[] w13 fun (e6 : Ending) (w14 : World) => ∃ (t1 :
    Bool), e6 = Ending.returned (Value.bool t1) ∧ KeepX true w.heap.size [m11, m7, m2, m1] (fun (m19 : Nat) => False) w13 w14 ∧ ∀ (w15 : World), RowKit.Below w.heap.size w w15 →
    Kept [m11, m7, m2, m1] w14 w15 → R (Ending.returned (Value.bool t1)) w15) ∧ (x15 ≠ 0 → ∀ (w16 : World), RowKit.Below w.heap.size w w16 → Kept [m11, m7, m2, m1] w12 w16 → R
    (Ending.returned (Value.bool false)) w16)) ∧ (x16 ≠ 7 → ∀ (w17 : World), RowKit.Below w.heap.size w w17 → Kept [m11, m7, m2, m1] w12 w17 → R (Ending.returned (Value.bool
    false)) w17)) ∧ (x16 = 0 → ∀ (w18 : World), RowKit.Below w.heap.size w w18 → KeptIn [(0, w12.heap.size)] [m11, m7, m2, m1] w12 w18 → Calls Try.prog 13 #[Value.agg #[Value.int
    IntKind.i64 x1, Value.int IntKind.i64 x2, Value.int IntKind.i64 x3, Value.int IntKind.i64 x4, Value.int IntKind.i64 x5, Value.slice a1 m4 m5]] w18 fun (e7 : Ending) (w19 :
    World) => ∃ (x17 : Int), ∃ (x18 : Int), ∃ (x19 : Int), ∃ (x20 : Int), ∃ (x21 : Int), ∃ (a5 : Option Addr), ∃ (m20 : Nat), ∃ (m21 : Nat), e7 = Ending.returned (Value.agg
    #[Value.int IntKind.i64 x17, Value.int IntKind.i64 x18, Value.int IntKind.i64 x19, Value.int IntKind.i64 x20, Value.int IntKind.i64 x21, Value.slice a5 m20 m21]) ∧ RowKit.Below
    w18.heap.size w18 w19 ∧ ∀ (w20 : World), RowKit.Below w.heap.size w w20 → KeptIn [(0, w12.heap.size), (w18.heap.size, w19.heap.size)] [m11, m7, m2, m1] w19 w20 → Calls Try.prog
    14 #[Value.agg #[Value.int IntKind.i64 x6, Value.int IntKind.i64 x7, Value.slice a2 m8 m9]] w20 fun (e8 : Ending) (w21 : World) => ∃ (x22 : Int), ∃ (x23 : Int), ∃ (a6 : Option
    Addr), ∃ (m22 : Nat), ∃ (m23 : Nat), e8 = Ending.returned (Value.agg #[Value.int IntKind.i64 x22, Value.int IntKind.i64 x23, Value.slice a6 m22 m23]) ∧ RowKit.Below
    w20.heap.size w20 w21 ∧ ∀ (m24 : Nat), w12.heap.size ≤ m24 → m24 < w20.heap.size ∨ w21.heap.size ≤ m24 → m24 < w18.heap.size ∨ w19.heap.size ≤ m24 → ∀ (m25 : Nat),
    w12.heap.size ≤ m25 → m25 < w20.heap.size ∨ w21.heap.size ≤ m25 → m25 < w18.heap.size ∨ w19.heap.size ≤ m25 → ((0 : Int) ≤ 0 ∧ 0 < (↑4 : Int)) ∧ ∃ (x24 : Int), w21.cell?
    { block := m3, off := 0 + Int.toNat 0 * 1 } = some (Value.int IntKind.u8 x24) ∧ (m3 < w.heap.size ∨ m3 ≠ m25 ∧ m3 ≠ m24 ∧ m3 ≠ m11 ∧ m3 ≠ m7 ∧ m3 ≠ m2 ∧ m3 ≠ m1) ∧ (6 : Int) ≠
    0 ∧ ∃ (F1 : List Lf → World → Prop), ((x24.tmod (6 : Int) = 0 → ((0 : Int) ≤ 1 ∧ 1 < (↑4 : Int)) ∧ ∃ (x25 : Int), w21.cell? { block := m3, off := 0 + Int.toNat 1 * 1 } = some
    (Value.int IntKind.u8 x25) ∧ (m3 < w.heap.size ∨ m3 ≠ m25 ∧ m3 ≠ m24 ∧ m3 ≠ m11 ∧ m3 ≠ m7 ∧ m3 ≠ m2 ∧ m3 ≠ m1) ∧ (-9223372036854775808 ≤ x25 ∧ x25 ≤ 9223372036854775807) ∧ ∀
    (w23 : World), RowKit.Below w.heap.size w w23 → Kept [m25, m24, m11, m7, m2, m1] w21 w23 → Calls Try.prog 36 #[Value.agg #[Value.int IntKind.i64 x22, Value.int IntKind.i64
    x23], Value.int IntKind.i64 x25] w23 fun (e9 : Ending) (w24 : World) => ∃ (x26 : Int), ∃ (x27 : Int), e9 = Ending.returned (Value.agg #[Value.int IntKind.i64 x26, Value.int
    IntKind.i64 x27]) ∧ KeepX true w.heap.size [m25, m24, m11, m7, m2, m1] (fun (m26 : Nat) => False) w23 w24 ∧ ∀ (w25 : World), RowKit.Below w.heap.size w w25 → Kept [m25, m24,
    m11, m7, m2, m1] w24 w25 → w25.heap[m25]? = some (Obj.cells #[Value.int IntKind.i64 x26, Value.int IntKind.i64 x27, Value.slice a6 m22 m23] 29) → w25.heap[m25]? = some
    (Obj.cells #[Value.int IntKind.i64 x26, Value.int IntKind.i64 x27, Value.slice a6 m22 m23] 29) → F1 [Lf.int IntKind.i64 x17, Lf.int IntKind.i64 x18, Lf.int IntKind.i64 x19,
    Lf.int IntKind.i64 x20, Lf.int IntKind.i64 x21, Lf.sl a5 m20 m21, Lf.int IntKind.i64 x26, Lf.int IntKind.i64 x27, Lf.sl a6 m22 m23] w25) ∧ (x24.tmod (6 : Int) ≠ 0 → (x24.tmod
    (6 : Int) = 1 → ∃ (F2 : List Lf → World → Prop), ∃ (F3 : List Lf → Nat), (∀ (w27 : World), RowKit.Below w.heap.size w w27 → Kept [m25, m24, m11, m7, m2, m1] w21 w27 → F2
    [Lf.int IntKind.i64 0, Lf.int IntKind.i64 x17, Lf.int IntKind.i64 x18, Lf.int IntKind.i64 x19, Lf.int IntKind.i64 x20, Lf.int IntKind.i64 x21, Lf.sl a5 m20 m21, Lf.int
    IntKind.i64 x22, Lf.int IntKind.i64 x23, Lf.sl a6 m22 m23] w27) ∧ ∀ (x28 x29 x30 x31 x32 x33 : Int) (a7 : Option Addr) (m29 m30 : Nat) (x34 x35 : Int) (a8 : Option Addr) (m31
    m32 : Nat) (w28 : World), RowKit.Below w.heap.size w w28 → F2 [Lf.int IntKind.i64 x28, Lf.int IntKind.i64 x29, Lf.int IntKind.i64 x30, Lf.int IntKind.i64 x31, Lf.int
    IntKind.i64 x32, Lf.int IntKind.i64 x33, Lf.sl a7 m29 m30, Lf.int IntKind.i64 x34, Lf.int IntKind.i64 x35, Lf.sl a8 m31 m32] w28 → (x28 < (↑m31 : Int) → ∃ (m33 : Nat), ∃ (m34 :
    Nat), a8 = some { block := m33, off := m34 } ∧ (0 ≤ x28 ∧ x28 < (↑m31 : Int)) ∧ ∃ (t2 : Bool), w28.cell? { block := m33, off := m34 + x28.toNat * 1 } = some (Value.bool t2) ∧
    (m33 < w.heap.size ∨ m33 ≠ m25 ∧ m33 ≠ m24 ∧ m33 ≠ m11 ∧ m33 ≠ m7 ∧ m33 ≠ m2 ∧ m33 ≠ m1) ∧ (t2 = true → ((0 : Int) ≤ 1 ∧ 1 < (↑4 : Int)) ∧ ∃ (x36 : Int), w28.cell?
    { block := m3, off := 0 + Int.toNat 1 * 1 } = some (Value.int IntKind.u8 x36) ∧ (m3 < w.heap.size ∨ m3 ≠ m25 ∧ m3 ≠ m24 ∧ m3 ≠ m11 ∧ m3 ≠ m7 ∧ m3 ≠ m2 ∧ m3 ≠ m1) ∧ (0 ≤ x28 ∧
    x28 ≤ 18446744073709551615) ∧ 0 ≤ x28 ∧ ∃ (m35 : Nat), ∃ (m36 : Nat), a8 = some { block := m35, off := m36 } ∧ (0 ≤ x28 ∧ x28 < (↑m31 : Int)) ∧ ∀ (w29 : World), RowKit.Below
    w.heap.size w w29 → KeptIn [(0, w28.heap.size)] [m25, m24, m11, m7, m2, m1] w28 w29 → RunsTo Try.prog ((Instr.storeAt 4 (Value.pointer (some
    { block := m35, off := m36 + x28.toNat * 1 })) (Value.bool (IntKind.u8.wrap (↑(BitVec.ofInt IntKind.u8.bits (x36.fdiv (2 ^ min x28.toNat IntKind.u8.bits)) &&& BitVec.ofInt
    IntKind.u8.bits 1).toNat : Int) == 1))) >>= fun _ => pure (Value.tuple #[])) w29 fun (v1 : Value) (w30 : World) => KeepX true w.heap.size [m25, m24, m11, m7, m2, m1] (fun (m37
    : Nat) => False) w29 w30 ∧ (-9223372036854775808 ≤ x28 + 1 ∧ x28 + (1 : Int) ≤ 9223372036854775807) ∧ ∀ (w31 : World), RowKit.Below w.heap.size w w31 → Kept [m25, m24, m11, m7,
    m2, m1] w30 w31 → F2 [Lf.int IntKind.i64 (x28 + 1), Lf.int IntKind.i64 x29, Lf.int IntKind.i64 x30, Lf.int IntKind.i64 x31, Lf.int IntKind.i64 x32, Lf.int IntKind.i64 x33,
    Lf.sl a7 m29 m30, Lf.int IntKind.i64 x34, Lf.int IntKind.i64 x35, Lf.sl a8 m31 m32] w31 ∧ F3 [Lf.int IntKind.i64 (x28 + 1), Lf.int IntKind.i64 x29, Lf.int IntKind.i64 x30,
    Lf.int IntKind.i64 x31, Lf.int IntKind.i64 x32, Lf.int IntKind.i64 x33, Lf.sl a7 m29 m30, Lf.int IntKind.i64 x34, Lf.int IntKind.i64 x35, Lf.sl a8 m31 m32] < F3 [Lf.int
    IntKind.i64 x28, Lf.int IntKind.i64 x29, Lf.int IntKind.i64 x30, Lf.int IntKind.i64 x31, Lf.int IntKind.i64 x32, Lf.int IntKind.i64 x33, Lf.sl a7 m29 m30, Lf.int IntKind.i64
    x34, Lf.int IntKind.i64 x35, Lf.sl a8 m31 m32]) ∧ (t2 = false → ∃ (m38 : Nat), ∃ (m39 : Nat), a8 = some { block := m38, off := m39 } ∧ (0 ≤ x28 ∧ x28 < (↑m31 : Int)) ∧ ∀ (w32 :
    World), RowKit.Below w.heap.size w w32 → KeptIn [(0, w28.heap.size)] [m25, m24, m11, m7, m2, m1] w28 w32 → RunsTo Try.prog ((Instr.storeAt 4 (Value.pointer (some
    { block := m38, off := m39 + x28.toNat * 1 })) (Value.bool false)) >>= fun _ => pure (Value.tuple #[])) w32 fun (v2 : Value) (w33 : World) => KeepX true w.heap.size [m25, m24,
    m11, m7, m2, m1] (fun (m40 : Nat) => False) w32 w33 ∧ (-9223372036854775808 ≤ x28 + 1 ∧ x28 + (1 : Int) ≤ 9223372036854775807) ∧ ∀ (w34 : World), RowKit.Below w.heap.size w w34
    → Kept [m25, m24, m11, m7, m2, m1] w33 w34 → F2 [Lf.int IntKind.i64 (x28 + 1), Lf.int IntKind.i64 x29, Lf.int IntKind.i64 x30, Lf.int IntKind.i64 x31, Lf.int IntKind.i64 x32,
    Lf.int IntKind.i64 x33, Lf.sl a7 m29 m30, Lf.int IntKind.i64 x34, Lf.int IntKind.i64 x35, Lf.sl a8 m31 m32] w34 ∧ F3 [Lf.int IntKind.i64 (x28 + 1), Lf.int IntKind.i64 x29,
    Lf.int IntKind.i64 x30, Lf.int IntKind.i64 x31, Lf.int IntKind.i64 x32, Lf.int IntKind.i64 x33, Lf.sl a7 m29 m30, Lf.int IntKind.i64 x34, Lf.int IntKind.i64 x35, Lf.sl a8 m31
    m32] < F3 [Lf.int IntKind.i64 x28, Lf.int IntKind.i64 x29, Lf.int IntKind.i64 x30, Lf.int IntKind.i64 x31, Lf.int IntKind.i64 x32, Lf.int IntKind.i64 x33, Lf.sl a7 m29 m30,
    Lf.int IntKind.i64 x34, Lf.int IntKind.i64 x35, Lf.sl a8 m31 m32])) ∧ ((↑m31 : Int) ≤ x28 → ∀ (w35 : World), RowKit.Below w.heap.size w w35 → Kept [m25, m24, m11, m7, m2, m1]
    w28 w35 → w35.heap[m25]? = some (Obj.cells #[Value.int IntKind.i64 x34, Value.int IntKind.i64 x35, Value.slice a8 m31 m32] 29) → F1 [Lf.int IntKind.i64 x29, Lf.int IntKind.i64
    x30, Lf.int IntKind.i64 x31, Lf.int IntKind.i64 x32, Lf.int IntKind.i64 x33, Lf.sl a7 m29 m30, Lf.int IntKind.i64 x34, Lf.int IntKind.i64 x35, Lf.sl a8 m31 m32] w35)) ∧
    (x24.tmod (6 : Int) ≠ 1 → (x24.tmod (6 : Int) = 2 → ((0 : Int) ≤ 1 ∧ 1 < (↑4 : Int)) ∧ ∃ (x37 : Int), w21.cell? { block := m3, off := 0 + Int.toNat 1 * 1 } = some (Value.int
    IntKind.u8 x37) ∧ (m3 < w.heap.size ∨ m3 ≠ m25 ∧ m3 ≠ m24 ∧ m3 ≠ m11 ∧ m3 ≠ m7 ∧ m3 ≠ m2 ∧ m3 ≠ m1) ∧ (-9223372036854775808 ≤ x37 ∧ x37 ≤ 9223372036854775807) ∧
    (-9223372036854775808 ≤ x18 * x37 ∧ x18 * x37 ≤ 9223372036854775807) ∧ ((255 : Int) ≠ 0 ∧ -9223372036854775808 ≤ (x18 * x37).tdiv 255 ∧ (x18 * x37).tdiv (255 : Int) ≤
    9223372036854775807) ∧ ∀ (w36 : World), RowKit.Below w.heap.size w w36 → Kept [m25, m24, m11, m7, m2, m1] w21 w36 → w36.heap[m24]? = some (Obj.cells #[Value.int IntKind.i64
    x17, Value.int IntKind.i64 ((x18 * x37).tdiv 255), Value.int IntKind.i64 x19, Value.int IntKind.i64 x20, Value.int IntKind.i64 x21, Value.slice a5 m20 m21] 26) → w36.heap[m24]?
    = some (Obj.cells #[Value.int IntKind.i64 x17, Value.int IntKind.i64 ((x18 * x37).tdiv 255), Value.int IntKind.i64 x19, Value.int IntKind.i64 x20, Value.int IntKind.i64 x21,
    Value.slice a5 m20 m21] 26) → F1 [Lf.int IntKind.i64 x17, Lf.int IntKind.i64 ((x18 * x37).tdiv 255), Lf.int IntKind.i64 x19, Lf.int IntKind.i64 x20, Lf.int IntKind.i64 x21,
    Lf.sl a5 m20 m21, Lf.int IntKind.i64 x22, Lf.int IntKind.i64 x23, Lf.sl a6 m22 m23] w36) ∧ (x24.tmod (6 : Int) ≠ 2 → (x24.tmod (6 : Int) = 3 → ((0 : Int) ≤ 1 ∧ 1 < (↑4 : Int))
    ∧ ∃ (x38 : Int), w21.cell? { block := m3, off := 0 + Int.toNat 1 * 1 } = some (Value.int IntKind.u8 x38) ∧ (m3 < w.heap.size ∨ m3 ≠ m25 ∧ m3 ≠ m24 ∧ m3 ≠ m11 ∧ m3 ≠ m7 ∧ m3 ≠
    m2 ∧ m3 ≠ m1) ∧ (-9223372036854775808 ≤ x38 ∧ x38 ≤ 9223372036854775807) ∧ ∀ (w37 : World), RowKit.Below w.heap.size w w37 → Kept [m25, m24, m11, m7, m2, m1] w21 w37 → Calls
    Try.prog 36 #[Value.agg #[Value.int IntKind.i64 x19, Value.int IntKind.i64 x20], Value.int IntKind.i64 x38] w37 fun (e10 : Ending) (w38 : World) => ∃ (x39 : Int), ∃ (x40 :
    Int), e10 = Ending.returned (Value.agg #[Value.int IntKind.i64 x39, Value.int IntKind.i64 x40]) ∧ KeepX true w.heap.size [m25, m24, m11, m7, m2, m1] (fun (m44 : Nat) => False)
    w37 w38 ∧ ∀ (w39 : World), RowKit.Below w.heap.size w w39 → Kept [m25, m24, m11, m7, m2, m1] w38 w39 → w39.heap[m24]? = some (Obj.cells #[Value.int IntKind.i64 x17, Value.int
    IntKind.i64 x18, Value.int IntKind.i64 x39, Value.int IntKind.i64 x40, Value.int IntKind.i64 x21, Value.slice a5 m20 m21] 26) → w39.heap[m24]? = some (Obj.cells #[Value.int
    IntKind.i64 x17, Value.int IntKind.i64 x18, Value.int IntKind.i64 x39, Value.int IntKind.i64 x40, Value.int IntKind.i64 x21, Value.slice a5 m20 m21] 26) → F1 [Lf.int
    IntKind.i64 x17, Lf.int IntKind.i64 x18, Lf.int IntKind.i64 x39, Lf.int IntKind.i64 x40, Lf.int IntKind.i64 x21, Lf.sl a5 m20 m21, Lf.int IntKind.i64 x22, Lf.int IntKind.i64
    x23, Lf.sl a6 m22 m23] w39) ∧ (x24.tmod (6 : Int) ≠ 3 → (x24.tmod (6 : Int) = 4 → ∃ (F4 : List Lf → World → Prop), ∃ (F5 : List Lf → Nat), (∀ (w41 : World), RowKit.Below
    w.heap.size w w41 → Kept [m25, m24, m11, m7, m2, m1] w21 w41 → F4 [Lf.int IntKind.i64 0, Lf.int IntKind.i64 x17, Lf.int IntKind.i64 x18, Lf.int IntKind.i64 x19, Lf.int
    IntKind.i64 x20, Lf.int IntKind.i64 x21, Lf.sl a5 m20 m21, Lf.int IntKind.i64 x22, Lf.int IntKind.i64 x23, Lf.sl a6 m22 m23] w41) ∧ ∀ (x41 x42 x43 x44 x45 x46 : Int) (a9 :
    Option Addr) (m47 m48 : Nat) (x47 x48 : Int) (a10 : Option Addr) (m49 m50 : Nat) (w42 : World), RowKit.Below w.heap.size w w42 → F4 [Lf.int IntKind.i64 x41, Lf.int IntKind.i64
    x42, Lf.int IntKind.i64 x43, Lf.int IntKind.i64 x44, Lf.int IntKind.i64 x45, Lf.int IntKind.i64 x46, Lf.sl a9 m47 m48, Lf.int IntKind.i64 x47, Lf.int IntKind.i64 x48, Lf.sl a10
    m49 m50] w42 → (x41 < (↑m47 : Int) → ∃ (m51 : Nat), ∃ (m52 : Nat), a9 = some { block := m51, off := m52 } ∧ (0 ≤ x41 ∧ x41 < (↑m47 : Int)) ∧ ∃ (x49 : Int), ∃ (x50 : Int),
    w42.cell? { block := m51, off := m52 + x41.toNat * 2 } = some (Value.int IntKind.i64 x49) ∧ w42.cell? { block := m51, off := m52 + x41.toNat * 2 + 1 } = some (Value.int
    IntKind.i64 x50) ∧ (m51 < w.heap.size ∨ m51 ≠ m25 ∧ m51 ≠ m24 ∧ m51 ≠ m11 ∧ m51 ≠ m7 ∧ m51 ≠ m2 ∧ m51 ≠ m1) ∧ (3 : Int) ≠ 0 ∧ ((-9223372036854775808 : Int) ≤ 1 + x41.tmod 3 ∧ 1
    + x41.tmod (3 : Int) ≤ 9223372036854775807) ∧ ((0 : Int) ≤ 1 + x41.tmod 3 ∧ 1 + x41.tmod 3 < (↑4 : Int)) ∧ ∃ (x51 : Int), w42.cell?
    { block := m3, off := 0 + (1 + x41.tmod 3).toNat * 1 } = some (Value.int IntKind.u8 x51) ∧ (m3 < w.heap.size ∨ m3 ≠ m25 ∧ m3 ≠ m24 ∧ m3 ≠ m11 ∧ m3 ≠ m7 ∧ m3 ≠ m2 ∧ m3 ≠ m1) ∧
    (-9223372036854775808 ≤ x51 ∧ x51 ≤ 9223372036854775807) ∧ ∀ (w43 : World), RowKit.Below w.heap.size w w43 → KeptIn [(0, w42.heap.size)] [m25, m24, m11, m7, m2, m1] w42 w43 →
    Calls Try.prog 36 #[Value.agg #[Value.int IntKind.i64 x49, Value.int IntKind.i64 x50], Value.int IntKind.i64 x51] w43 fun (e11 : Ending) (w44 : World) => ∃ (x52 : Int), ∃ (x53
    : Int), e11 = Ending.returned (Value.agg #[Value.int IntKind.i64 x52, Value.int IntKind.i64 x53]) ∧ KeepX true w.heap.size [m25, m24, m11, m7, m2, m1] (fun (m53 : Nat) =>
    False) w43 w44 ∧ ∃ (m54 : Nat), ∃ (m55 : Nat), a9 = some { block := m54, off := m55 } ∧ (0 ≤ x41 ∧ x41 < (↑m47 : Int)) ∧ ∀ (w45 : World), RowKit.Below w.heap.size w w45 →
    KeptIn [(0, w44.heap.size)] [m25, m24, m11, m7, m2, m1] w44 w45 → RunsTo Try.prog ((Instr.storeAt 23 (Value.pointer (some { block := m54, off := m55 + x41.toNat * 2 }))
    (Value.agg #[Value.int IntKind.i64 x52, Value.int IntKind.i64 x53])) >>= fun _ => pure (Value.tuple #[])) w45 fun (v3 : Value) (w46 : World) => KeepX true w.heap.size [m25,
    m24, m11, m7, m2, m1] (fun (m56 : Nat) => False) w45 w46 ∧ (-9223372036854775808 ≤ x41 + 1 ∧ x41 + (1 : Int) ≤ 9223372036854775807) ∧ ∀ (w47 : World), RowKit.Below w.heap.size
    w w47 → Kept [m25, m24, m11, m7, m2, m1] w46 w47 → F4 [Lf.int IntKind.i64 (x41 + 1), Lf.int IntKind.i64 x42, Lf.int IntKind.i64 x43, Lf.int IntKind.i64 x44, Lf.int IntKind.i64
    x45, Lf.int IntKind.i64 x46, Lf.sl a9 m47 m48, Lf.int IntKind.i64 x47, Lf.int IntKind.i64 x48, Lf.sl a10 m49 m50] w47 ∧ F5 [Lf.int IntKind.i64 (x41 + 1), Lf.int IntKind.i64
    x42, Lf.int IntKind.i64 x43, Lf.int IntKind.i64 x44, Lf.int IntKind.i64 x45, Lf.int IntKind.i64 x46, Lf.sl a9 m47 m48, Lf.int IntKind.i64 x47, Lf.int IntKind.i64 x48, Lf.sl a10
    m49 m50] < F5 [Lf.int IntKind.i64 x41, Lf.int IntKind.i64 x42, Lf.int IntKind.i64 x43, Lf.int IntKind.i64 x44, Lf.int IntKind.i64 x45, Lf.int IntKind.i64 x46, Lf.sl a9 m47 m48,
    Lf.int IntKind.i64 x47, Lf.int IntKind.i64 x48, Lf.sl a10 m49 m50]) ∧ ((↑m47 : Int) ≤ x41 → ∀ (w48 : World), RowKit.Below w.heap.size w w48 → Kept [m25, m24, m11, m7, m2, m1]
    w42 w48 → w48.heap[m24]? = some (Obj.cells #[Value.int IntKind.i64 x42, Value.int IntKind.i64 x43, Value.int IntKind.i64 x44, Value.int IntKind.i64 x45, Value.int IntKind.i64
    x46, Value.slice a9 m47 m48] 26) → F1 [Lf.int IntKind.i64 x42, Lf.int IntKind.i64 x43, Lf.int IntKind.i64 x44, Lf.int IntKind.i64 x45, Lf.int IntKind.i64 x46, Lf.sl a9 m47 m48,
    Lf.int IntKind.i64 x47, Lf.int IntKind.i64 x48, Lf.sl a10 m49 m50] w48)) ∧ (x24.tmod (6 : Int) ≠ 4 → ((0 : Int) ≤ 1 ∧ 1 < (↑4 : Int)) ∧ ∃ (x54 : Int), w21.cell?
    { block := m3, off := 0 + Int.toNat 1 * 1 } = some (Value.int IntKind.u8 x54) ∧ (m3 < w.heap.size ∨ m3 ≠ m25 ∧ m3 ≠ m24 ∧ m3 ≠ m11 ∧ m3 ≠ m7 ∧ m3 ≠ m2 ∧ m3 ≠ m1) ∧
    (-9223372036854775808 ≤ x54 ∧ x54 ≤ 9223372036854775807) ∧ (20 : Int) ≠ 0 ∧ (-9223372036854775808 ≤ x17 + x54.tmod 20 ∧ x17 + x54.tmod (20 : Int) ≤ 9223372036854775807) ∧ ∀
    (w49 : World), RowKit.Below w.heap.size w w49 → Kept [m25, m24, m11, m7, m2, m1] w21 w49 → w49.heap[m24]? = some (Obj.cells #[Value.int IntKind.i64 (x17 + x54.tmod 20),
    Value.int IntKind.i64 x18, Value.int IntKind.i64 x19, Value.int IntKind.i64 x20, Value.int IntKind.i64 x21, Value.slice a5 m20 m21] 26) → w49.heap[m24]? = some (Obj.cells
    #[Value.int IntKind.i64 (x17 + x54.tmod 20), Value.int IntKind.i64 x18, Value.int IntKind.i64 x19, Value.int IntKind.i64 x20, Value.int IntKind.i64 x21, Value.slice a5 m20 m21]
    26) → F1 [Lf.int IntKind.i64 (x17 + x54.tmod 20), Lf.int IntKind.i64 x18, Lf.int IntKind.i64 x19, Lf.int IntKind.i64 x20, Lf.int IntKind.i64 x21, Lf.sl a5 m20 m21, Lf.int
    IntKind.i64 x22, Lf.int IntKind.i64 x23, Lf.sl a6 m22 m23] w49)))))) ∧ ∀ (x55 x56 x57 x58 x59 : Int) (a11 : Option Addr) (m60 m61 : Nat) (x60 x61 : Int) (a12 : Option Addr)
    (m62 m63 : Nat) (w50 : World), RowKit.Below w.heap.size w w50 → F1 [Lf.int IntKind.i64 x55, Lf.int IntKind.i64 x56, Lf.int IntKind.i64 x57, Lf.int IntKind.i64 x58, Lf.int
    IntKind.i64 x59, Lf.sl a11 m60 m61, Lf.int IntKind.i64 x60, Lf.int IntKind.i64 x61, Lf.sl a12 m62 m63] w50 → ∀ (w51 : World), RowKit.Below w.heap.size w w51 → KeptIn [(0,
    w50.heap.size)] [m25, m24, m11, m7, m2, m1] w50 w51 → Calls Try.prog 13 #[Value.agg #[Value.int IntKind.i64 x55, Value.int IntKind.i64 x56, Value.int IntKind.i64 x57, Value.int
    IntKind.i64 x58, Value.int IntKind.i64 x59, Value.slice a11 m60 m61]] w51 fun (e12 : Ending) (w52 : World) => ∃ (x62 : Int), ∃ (x63 : Int), ∃ (x64 : Int), ∃ (x65 : Int), ∃ (x66
    : Int), ∃ (a13 : Option Addr), ∃ (m64 : Nat), ∃ (m65 : Nat), e12 = Ending.returned (Value.agg #[Value.int IntKind.i64 x62, Value.int IntKind.i64 x63, Value.int IntKind.i64 x64,
    Value.int IntKind.i64 x65, Value.int IntKind.i64 x66, Value.slice a13 m64 m65]) ∧ KeepX true w.heap.size [m25, m24, m11, m7, m2, m1] (fun (m66 : Nat) => False) w51 w52 ∧ ∀ (w53
    : World), RowKit.Below w.heap.size w w53 → KeptIn [(0, w52.heap.size)] [m25, m24, m11, m7, m2, m1] w52 w53 → Calls Try.prog 14 #[Value.agg #[Value.int IntKind.i64 x60,
    Value.int IntKind.i64 x61, Value.slice a12 m62 m63]] w53 fun (e13 : Ending) (w54 : World) => ∃ (x67 : Int), ∃ (x68 : Int), ∃ (a14 : Option Addr), ∃ (m67 : Nat), ∃ (m68 : Nat),
    e13 = Ending.returned (Value.agg #[Value.int IntKind.i64 x67, Value.int IntKind.i64 x68, Value.slice a14 m67 m68]) ∧ KeepX true w.heap.size [m25, m24, m11, m7, m2, m1] (fun
    (m69 : Nat) => False) w53 w54 ∧ ∀ (w55 : World), RowKit.Below w.heap.size w w55 → KeptIn [(0, w54.heap.size)] [m25, m24, m11, m7, m2, m1] w54 w55 → Calls Try.prog 24
    #[Value.agg #[Value.int IntKind.i64 x62, Value.int IntKind.i64 x63, Value.int IntKind.i64 x64, Value.int IntKind.i64 x65, Value.int IntKind.i64 x66, Value.slice a13 m64 m65],
    Value.agg #[Value.int IntKind.i64 x67, Value.int IntKind.i64 x68, Value.slice a14 m67 m68]] w55 fun (e14 : Ending) (w56 : World) => ∃ (x69 : Int), ∃ (x70 : Int), e14 =
    Ending.returned (Value.tuple #[Value.int IntKind.i64 x69, Value.int IntKind.i64 x70]) ∧ KeepX true w.heap.size [m25, m24, m11, m7, m2, m1] (fun (m70 : Nat) => False) w55 w56 ∧
    (x70 = 0 → (x69 ≤ x15 → ∀ (w57 : World), RowKit.Below w.heap.size w w57 → Kept [m25, m24, m11, m7, m2, m1] w56 w57 → Calls Try.prog 12 #[] w57 fun (e15 : Ending) (w58 : World)
    => ∃ (t3 : Bool), e15 = Ending.returned (Value.bool t3) ∧ KeepX true w.heap.size [m25, m24, m11, m7, m2, m1] (fun (m71 : Nat) => False) w57 w58 ∧ ∀ (w59 : World), RowKit.Below
    w.heap.size w w59 → Kept [m25, m24, m11, m7, m2, m1] w58 w59 → R (Ending.returned (Value.bool t3)) w59) ∧ (x15 < x69 → ∀ (w60 : World), RowKit.Below w.heap.size w w60 → Kept
    [m25, m24, m11, m7, m2, m1] w56 w60 → R (Ending.returned (Value.bool false)) w60)) ∧ (x70 ≠ 0 → ∀ (w61 : World), RowKit.Below w.heap.size w w61 → Kept [m25, m24, m11, m7, m2,
    m1] w56 w61 → R (Ending.returned (Value.bool false)) w61))) : Calls Try.prog 8 #[Value.agg #[Value.int IntKind.u8 x0, Value.int IntKind.u8 x1, Value.int IntKind.u8 x2,
    Value.int IntKind.u8 x3, Value.int IntKind.u8 x4, Value.slice x5a x5n x5c], Value.agg #[Value.int IntKind.u8 p1at0, Value.int IntKind.u8 p1at1, Value.int IntKind.u8 p1at2],
    Value.agg #[Value.int IntKind.u8 p2by0, Value.int IntKind.u8 p2by1, Value.int IntKind.u8 p2by2, Value.int IntKind.u8 p2by3]] w R := calls_of_vcj (pure := true) (wrapAt := [])
    (muts := [11, 12]) (esc := [5]) (joins := [(1000000, [])]) (args := [SV.pv (PV.agg [Lf.int IntKind.u8 x0, Lf.int IntKind.u8 x1, Lf.int IntKind.u8 x2, Lf.int IntKind.u8 x3,
    Lf.int IntKind.u8 x4, Lf.sl x5a x5n x5c]), SV.pv (PV.agg [Lf.int IntKind.u8 p1at0, Lf.int IntKind.u8 p1at1, Lf.int IntKind.u8 p1at2]), SV.pv (PV.agg [Lf.int IntKind.u8 p2by0,
    Lf.int IntKind.u8 p2by1, Lf.int IntKind.u8 p2by2, Lf.int IntKind.u8 p2by3])]) (vs := [Value.agg #[Value.int IntKind.u8 x0, Value.int IntKind.u8 x1, Value.int IntKind.u8 x2,
    Value.int IntKind.u8 x3, Value.int IntKind.u8 x4, Value.slice x5a x5n x5c], Value.agg #[Value.int IntKind.u8 p1at0, Value.int IntKind.u8 p1at1, Value.int IntKind.u8 p1at2],
    Value.agg #[Value.int IntKind.u8 p2by0, Value.int IntKind.u8 p2by1, Value.int IntKind.u8 p2by2, Value.int IntKind.u8 p2by3]]) Try.func8 rfl rfl rfl (Eq.mp (by kernel_rfl) h) 
end Go.Proofs
end
section
/- RateNarrows: lemmas. -/
namespace Go.Proofs.R07
open Go.Vc Go.RowKit Go.Proofs

/-- Rules and a state that are known better. -/
structure Nar (r q : Rules) (u u' : Nat) (s t : Sp) : Prop where
  limit : r.limit ≤ q.limit
  err : q.err ≤ r.err
  turn : r.tlo ≤ q.tlo ∧ q.thi ≤ r.thi
  turns : q.turns = r.turns
  len : q.ws.length = r.ws.length
  ws : ∀ i (h : i < r.ws.length) (h' : i < q.ws.length), (r.ws[i]).1 ≤ (q.ws[i]).1 ∧ (q.ws[i]).2 ≤ (r.ws[i]).2
  used : ∀ i, i < r.ws.length → has u' i = true → has u i = true
  span : s.1 ≤ t.1 ∧ t.2 ≤ s.2

theorem mul_in {a x y z : Int} (h1 : x ≤ y) (h2 : y ≤ z) : min (a * x) (a * z) ≤ a * y ∧ a * y ≤ max (a * x) (a * z) := by
  rcases Int.le_total 0 a with h | h
  · have g1 := Int.mul_le_mul_of_nonneg_left h1 h
    have g2 := Int.mul_le_mul_of_nonneg_left h2 h
    omega
  · have g1 := Int.mul_le_mul_of_nonpos_left h h1
    have g2 := Int.mul_le_mul_of_nonpos_left h h2
    omega

theorem shift_nar {r q : Rules} (hq : Good q) {u u' : Nat} {s t : Sp} (N : Nar r q u u' s t) {a : Int × Int} {p : Sp} (h : shift r u a = some p) : ∃ p', shift q u' a = some p' ∧ p.1 ≤ p'.1 ∧ p'.2 ≤ p.2 := by
  have hqt := hq.2.2.2.1
  have ht := N.turn
  unfold shift at h ⊢
  by_cases hy : a.2 = -1
  · rw [if_pos hy] at h ⊢
    rw [N.turns]
    split at h
    · simp only [Option.some.injEq] at h
      subst h
      rename_i hh
      rw [if_pos hh]
      have g1 := mul_in (a := a.1) (x := r.tlo) (y := q.tlo) (z := r.thi) (by omega) (by omega)
      have g2 := mul_in (a := a.1) (x := r.tlo) (y := q.thi) (z := r.thi) (by omega) (by omega)
      refine ⟨_, rfl, ?_, ?_⟩
      · show min (a.1 * r.tlo) (a.1 * r.thi) ≤ min (a.1 * q.tlo) (a.1 * q.thi)
        omega
      · show max (a.1 * q.tlo) (a.1 * q.thi) ≤ max (a.1 * r.tlo) (a.1 * r.thi)
        omega
    · cases h
  · rw [if_neg hy] at h ⊢
    split at h
    · rename_i hh
      obtain ⟨h0, h1, h2, h3⟩ := hh
      have hi : a.2.toNat < r.ws.length := by omega
      have hi' : a.2.toNat < q.ws.length := by have := N.len; omega
      have hf : has u' a.2.toNat = false := by
        cases hb : has u' a.2.toNat with
        | false => rfl
        | true => rw [N.used _ hi hb] at h2; cases h2
      rw [if_pos ⟨h0, by rw [N.len]; exact h1, hf, h3⟩, getElem_of_lt hi']
      rw [getElem_of_lt hi] at h
      simp only [Option.some.injEq] at h
      subst h
      exact ⟨_, rfl, N.ws _ hi hi'⟩
    · cases h

theorem acts_nar {r q : Rules} (h1 : q.turns = r.turns) (h2 : q.ws.length = r.ws.length) : acts q = acts r := by unfold acts; rw [h1, h2]

theorem move_nar {r q : Rules} (hr : Good r) (hq : Good q) {u u' : Nat} (hu' : u' < 8) {s t : Sp} (ht : okSp t) (N : Nar r q u u' s t) {a : Int × Int} {img : Sp} {v : Nat} (h : move r s u a = some (img, v)) :
    ∃ img' v', move q t u' a = some (img', v') ∧ Nar r q v v' img img' := by
  unfold move at h
  split at h
  · cases h
  · rename_i p hp
    obtain ⟨p', hp', g1, g2⟩ := shift_nar hq N hp
    have hb' := shift_bound hq hp'
    split at h
    · rename_i hok
      simp only [Option.some.injEq, Prod.mk.injEq] at h
      obtain ⟨rfl, rfl⟩ := h
      have hsp := (isSpan_iff _ _ _).1 hok
      simp only at hsp
      obtain ⟨t1, t2, t3⟩ := ht
      have hs := N.span
      have hok' : isSpan (t.1 + p'.1, t.2 + p'.2) (-300) 300 = true := (isSpan_iff _ _ _).2 (by simp only; omega)
      refine ⟨(t.1 + p'.1, t.2 + p'.2), _, by unfold move; rw [hp']; simp only; rw [if_pos hok'], ⟨N.limit, N.err, N.turn, N.turns, N.len, N.ws, fun i hi hh => ?_, by simp only; omega⟩⟩
      by_cases hy : a.2 = -1
      · rw [if_pos hy] at hh ⊢
        exact N.used i hi hh
      · rw [if_neg hy] at hh ⊢
        rw [has_put] at hh ⊢
        rw [Bool.or_eq_true] at hh ⊢
        exact hh.imp (N.used i hi) id
    · cases h

theorem enough_nar {r q : Rules} (hr : Good r) (hq : Good q) : ∀ {v u u' : Nat} {s t : Sp}, u < 8 → u' < 8 → okSp t → Nar r q u u' s t → Enough r v u s → Enough q v u' t
  | 0, _, _, s, t, _, _, _, N, h => by
    have := N.limit
    have := N.span
    simp only [Enough] at h ⊢
    omega
  | v + 1, u, u', s, t, hu, hu', ht, N, h => by
    have hl := N.limit
    have hsp := N.span
    have he := N.err
    have hqe := hq.2.2.1
    simp only [Enough] at h ⊢
    rcases h with h | ⟨a, ha, img, u1, hm, hall⟩
    · left; omega
    · right
      obtain ⟨img', u1', hm', N'⟩ := move_nar hr hq hu' ht N hm
      rw [acts_nar N.turns N.len]
      have f1 := move_facts hr hu hm
      have f2 := move_facts hq hu' hm'
      have hsp' := N'.span
      refine ⟨a, ha, img', u1', hm', fun seen q1 q2 q3 => ?_⟩
      obtain ⟨k1, k2, k3⟩ := f2.2
      refine enough_nar hr hq (s := (max img.1 (seen - r.err), min img.2 (seen + r.err))) f1.1 f2.1 ?_ ⟨N'.limit, N'.err, N'.turn, N'.turns, N'.len, N'.ws, N'.used, ?_⟩ (hall seen (by omega) (by omega) (by omega))
      · show -300 ≤ max _ _ ∧ max img'.1 (seen - q.err) ≤ min img'.2 (seen + q.err) ∧ min _ _ ≤ 300
        omega
      · show max img.1 (seen - r.err) ≤ max img'.1 (seen - q.err) ∧ min img'.2 (seen + q.err) ≤ min img.2 (seen + r.err)
        omega

/-- A span around one of its integers. -/
def narrowR (s : Sp) (n : Int) : Sp := ((s.1 + (s.1 + n * (s.2 - s.1) / 255)) / 2, (s.2 + (s.1 + n * (s.2 - s.1) / 255) + 1) / 2)
theorem narrow_in {s : Sp} {n : Int} (h : s.1 ≤ s.2) (h0 : U8 n) : s.1 ≤ (narrowR s n).1 ∧ (narrowR s n).1 ≤ (narrowR s n).2 ∧ (narrowR s n).2 ≤ s.2 := by
  have := inside_in h h0
  unfold inside at this
  unfold narrowR
  generalize n * (s.2 - s.1) / 255 = z at *
  simp only
  omega
theorem narrow_any {s : Sp} {n : Int} (h : s.1 ≤ s.2) (h1 : -100000 ≤ s.1) (h2 : s.2 ≤ 100000) (h0 : U8 n) (w : World) : Calls Try.prog 36 #[.agg #[I s.1, I s.2], I n] w (Pure w (.agg #[I (narrowR s n).1, I (narrowR s n).2])) := by
  obtain ⟨lo, hi⟩ := s
  simp only at h h1 h2
  unfold U8 at h0
  have g1 : 0 ≤ n * (hi - lo) := Int.mul_nonneg h0.1 (by omega)
  have g2 : n * (hi - lo) ≤ 255 * (hi - lo) := Int.mul_le_mul_of_nonneg_right h0.2 (by omega)
  have e : (n * (hi - lo)).tdiv 255 = n * (hi - lo) / 255 := Int.tdiv_eq_ediv_of_nonneg g1
  show Calls Try.prog 36 #[.agg #[I lo, I hi], I n] w _
  refine vc36 _ _ _ w _ fun m1 i1 m2 i2 => ?_
  rw [e]
  have hd : ∀ x : Int, x.fdiv (2 ^ min (Int.toNat 1) IntKind.i64.bits) = x / 2 := fun x => by
    show x.fdiv 2 = x / 2
    exact Int.fdiv_eq_ediv_of_nonneg x (by omega)
  rw [hd, hd]
  have : narrowR (lo, hi) n = ((lo + (lo + n * (hi - lo) / 255)) / 2, (hi + (lo + n * (hi - lo) / 255) + 1) / 2) := rfl
  rw [this]
  generalize n * (hi - lo) = z at *
  exact ⟨by omega, by omega, ⟨by decide, by omega, by omega⟩, by omega, by omega, by decide, by omega, by omega, by decide, fun w1 hb _ => ⟨rfl, hb⟩⟩

/-- Copies that may be written. -/
theorem copied2_any (r : Rules) {a : Option Addr} {c : Nat} {w : World} (hc : Cells w a (spans r.ws)) (hn : r.ws.length ≤ 100000) : Calls Try.prog 13 #[r.v a c] w fun e w' => ∃ a c, e = .returned (r.v a c) ∧ Below w.heap.size w w' ∧ RowZ 23 2 w.heap.size [] a r.ws.length c (spans r.ws) w' := by
  refine vc13 _ _ _ _ _ _ _ _ w _ fun m1 h1 m2 h2 m3 h3 w1 hb1 hk1 hc1 => ?_
  refine append_copy (P := Try.prog) (e := 23) (size := 2) (bytes := 16) (by kernel_rfl) (by omega) (hc.keep hb1) (spans_len r.ws) (by omega) (by omega) (fun a' c' w2 hb2 hcells hnew hpl hrow => ⟨a', _, c', rfl, .all hb2, fun w3 hb3 hk3 => ?_⟩)
  refine ⟨a', c', rfl, hb3, ?_⟩
  by_cases h0 : r.ws.length = 0
  · exact .inl ⟨h0, by rw [List.length_eq_zero_iff.1 h0]; rfl⟩
  · rcases hrow with h | h
    · exact absurd h h0
    · refine .inr (Row.base (B := w1.heap.size) ⟨(h.of (w' := w3) fun b o e => hk3.block b (h.lt b o e).2 fun hm => ?_).own, by simp⟩ hb1.size)
      have := (h.lt b o e).1
      have := hk1.own b hm
      omega
theorem state2_any (s : St) {a : Option Addr} {c : Nat} {w : World} (hc : Cells w a (bools s.used)) (hn : s.used.length ≤ 100000) : Calls Try.prog 14 #[s.v a c] w fun e w' => ∃ a c, e = .returned (s.v a c) ∧ Below w.heap.size w w' ∧ RowZ 4 1 w.heap.size [] a s.used.length c (bools s.used) w' := by
  refine vc14 _ _ _ _ _ w _ fun m1 h1 m2 h2 m3 h3 w1 hb1 hk1 hc1 => ?_
  refine append_copy (P := Try.prog) (e := 4) (size := 1) (bytes := 1) (by kernel_rfl) (by omega) (hc.keep hb1) (by simp [bools]) (by omega) (by omega) (fun a' c' w2 hb2 hcells hnew hpl hrow => ⟨a', _, c', rfl, .all hb2, fun w3 hb3 hk3 => ?_⟩)
  refine ⟨a', c', rfl, hb3, ?_⟩
  by_cases h0 : s.used.length = 0
  · exact .inl ⟨h0, by rw [List.length_eq_zero_iff.1 h0]; rfl⟩
  · rcases hrow with h | h
    · exact absurd h h0
    · refine .inr (Row.base (B := w1.heap.size) ⟨(h.of (w' := w3) fun b o e => hk3.block b (h.lt b o e).2 fun hm => ?_).own, by simp⟩ hb1.size)
      have := (h.lt b o e).1
      have := hk1.own b hm
      omega

/-- The weights that are used, some of them struck. -/
def strike (x : Int) (k : Nat) (l : List Bool) : List Bool := l.mapIdx fun i b => if i < k then b && bitU x (i : Nat) else b
theorem strike_len (x : Int) (k : Nat) (l : List Bool) : (strike x k l).length = l.length := by simp [strike]
theorem strike_get (x : Int) (k : Nat) {l : List Bool} {i : Nat} (h : i < l.length) : (strike x k l)[i]? = some (if i < k then l[i] && bitU x (i : Nat) else l[i]) := by
  simp [strike, List.getElem?_mapIdx, h]
theorem strike_zero (x : Int) (l : List Bool) : strike x 0 l = l := by
  apply List.ext_getElem?; intro i
  by_cases h : i < l.length
  · rw [strike_get x 0 h, if_neg (by omega), getElem_of_lt h]
  · rw [List.getElem?_eq_none (by rw [strike_len]; omega), List.getElem?_eq_none (by omega)]
theorem strike_step (x : Int) {k : Nat} {l : List Bool} (h : k < l.length) : strike x (k + 1) l = (strike x k l).set k (l[k] && bitU x (k : Nat)) := by
  apply List.ext_getElem?; intro i
  rw [List.getElem?_set]
  by_cases hi : i < l.length
  · rw [strike_get x _ hi]
    by_cases he : k = i
    · subst he; rw [if_pos (show k < k + 1 by omega), if_pos rfl, if_pos (by rw [strike_len]; exact h)]
    · rw [if_neg he, strike_get x _ hi]
      by_cases hik : i < k
      · rw [if_pos hik, if_pos (by omega)]
      · rw [if_neg hik, if_neg (by omega)]
  · rw [List.getElem?_eq_none (by rw [strike_len]; omega), if_neg (by omega), List.getElem?_eq_none (by rw [strike_len]; omega)]

/-- The weights, some of them narrower. -/
def thin (f : Nat → Int) (k : Nat) (l : List Sp) : List Sp := l.mapIdx fun i p => if i < k then narrowR p (f i) else p
theorem thin_len (f : Nat → Int) (k : Nat) (l : List Sp) : (thin f k l).length = l.length := by simp [thin]
theorem thin_get (f : Nat → Int) (k : Nat) {l : List Sp} {i : Nat} (h : i < l.length) : (thin f k l)[i]? = some (if i < k then narrowR l[i] (f i) else l[i]) := by
  simp [thin, List.getElem?_mapIdx, h]
theorem thin_zero (f : Nat → Int) (l : List Sp) : thin f 0 l = l := by
  apply List.ext_getElem?; intro i
  by_cases h : i < l.length
  · rw [thin_get f 0 h, if_neg (by omega), getElem_of_lt h]
  · rw [List.getElem?_eq_none (by rw [thin_len]; omega), List.getElem?_eq_none (by omega)]
theorem thin_step (f : Nat → Int) {k : Nat} {l : List Sp} (h : k < l.length) : thin f (k + 1) l = (thin f k l).take k ++ [narrowR l[k] (f k)] ++ (thin f k l).drop (k + 1) := by
  apply List.ext_getElem?; intro i
  by_cases hi : i < l.length
  · rw [thin_get f _ hi]
    by_cases h1 : i < k
    · rw [if_pos (by omega), List.append_assoc, List.getElem?_append_left (by simp [thin_len]; omega), List.getElem?_take, if_pos h1, thin_get f _ hi, if_pos h1]
    · by_cases he : i = k
      · subst he
        rw [if_pos (by omega), List.append_assoc, List.getElem?_append_right (by simp [thin_len]; omega), List.getElem?_append_left (by simp [thin_len]; omega)]
        simp only [List.length_take, thin_len]
        rw [show i - min i l.length = 0 by omega]; rfl
      · rw [if_neg (by omega), List.getElem?_append_right (by simp [thin_len]; omega), List.getElem?_drop]
        simp only [List.length_append, List.length_take, thin_len, List.length_cons, List.length_nil]
        rw [show k + 1 + (i - (min k l.length + (0 + 1))) = i by omega, thin_get f _ hi, if_neg h1]
  · rw [List.getElem?_eq_none (by rw [thin_len]; omega), List.getElem?_eq_none (by simp [thin_len]; omega)]
theorem spans_put {l : List Sp} {k : Nat} {p : Sp} (h : k < l.length) : (spans l).take (k * 2) ++ [I p.1, I p.2] ++ (spans l).drop (k * 2 + 2) = spans (l.take k ++ [p] ++ l.drop (k + 1)) := by
  have hl : l = l.take k ++ (l[k] :: l.drop (k + 1)) := by rw [← List.drop_eq_getElem_cons h, List.take_append_drop]
  have e1 : (spans l).take (k * 2) = spans (l.take k) := by
    conv => lhs; rw [hl]
    rw [spans_app, List.take_append_of_le_length (by rw [spans_len]; simp; omega), List.take_of_length_le (by rw [spans_len]; simp; omega)]
  have e2 : (spans l).drop (k * 2 + 2) = spans (l.drop (k + 1)) := by
    conv => lhs; rw [hl]
    rw [spans_app, List.drop_append, List.drop_of_length_le (by rw [spans_len]; simp; omega), List.nil_append, spans_len]
    have : k * 2 + 2 - (l.take k).length * 2 = 2 := by simp; omega
    rw [this]; rfl
  rw [e1, e2, spans_app, spans_app]; rfl
end Go.Proofs.R07
end
section
/- RateNarrows: the walk. -/
namespace Go.Proofs.R07
open Go.Vc Go.RowKit Go.Proofs

/-- Rules and a state that are known better, in memory. -/
structure NarAt (r : Rules) (s : St) (q : Rules) (t : St) (bs : List Nat) (a a' : Option Addr) (w : World) : Prop where
  good : Good q
  sp : okSp (t.lo, t.hi)
  len : t.used.length = q.ws.length
  nar : Nar r q (setOf s.used) (setOf t.used) (s.lo, s.hi) (t.lo, t.hi)
  own : ∀ x ∈ bs, x < w.heap.size
  ws : Lies bs 0 w.heap.size w a (spans q.ws)
  used : Lies bs 0 w.heap.size w a' (bools t.used)

/-- Between two rounds: what is written, and what is not. -/
structure LoopA (bs : List Nat) (lo5 hi5 lo6 n12 m3 : Nat) (zs : List Int) (a5 a6 : Option Addr) (n c : Nat) (ws : List Sp) (used : List Bool) (w : World) : Prop where
  row : RowZ 4 1 lo6 bs a6 n c (bools used) w
  ws : Lies bs lo5 hi5 w a5 (spans ws)
  small : Lies bs 0 n12 w (some ⟨m3, 0, none⟩) (bytes zs)
  own : ∀ x ∈ bs, x < w.heap.size
structure LoopB (bs : List Nat) (lo5 lo6 hi6 n12 m3 : Nat) (zs : List Int) (a5 a6 : Option Addr) (n c : Nat) (ws : List Sp) (used : List Bool) (w : World) : Prop where
  row : RowZ 23 2 lo5 bs a5 n c (spans ws) w
  used : Lies bs lo6 hi6 w a6 (bools used)
  small : Lies bs 0 n12 w (some ⟨m3, 0, none⟩) (bytes zs)
  own : ∀ x ∈ bs, x < w.heap.size
section
variable {bs : List Nat} {lo5 hi5 lo6 hi6 n12 m3 : Nat} {zs : List Int} {a5 a6 : Option Addr} {n c : Nat} {ws : List Sp} {used : List Bool} {w w' : World}
theorem LoopA.chg (h : LoopA bs lo5 hi5 lo6 n12 m3 zs a5 a6 n c ws used w) (k : Chg bs w w') : LoopA bs lo5 hi5 lo6 n12 m3 zs a5 a6 n c ws used w' := ⟨h.row.chg k fun _ h => h, h.ws.chg k, h.small.chg k, fun x hx => Nat.lt_of_lt_of_le (h.own x hx) k.size⟩
theorem LoopB.chg (h : LoopB bs lo5 lo6 hi6 n12 m3 zs a5 a6 n c ws used w) (k : Chg bs w w') : LoopB bs lo5 lo6 hi6 n12 m3 zs a5 a6 n c ws used w' := ⟨h.row.chg k fun _ h => h, h.used.chg k, h.small.chg k, fun x hx => Nat.lt_of_lt_of_le (h.own x hx) k.size⟩
end

theorem Nar.refl (r : Rules) (u : Nat) (s : Sp) : Nar r r u u s s := ⟨Int.le_refl _, Int.le_refl _, ⟨Int.le_refl _, Int.le_refl _⟩, rfl, rfl, fun _ _ _ => ⟨Int.le_refl _, Int.le_refl _⟩, fun _ _ h => h, ⟨Int.le_refl _, Int.le_refl _⟩⟩

/-- The byte by which a weight is made narrower. -/
def wByte (z1 z2 z3 : Int) (i : Nat) : Int := if i % 3 = 0 then z1 else if i % 3 = 1 then z2 else z3
theorem wByte_u8 {z1 z2 z3 : Int} (h1 : U8 z1) (h2 : U8 z2) (h3 : U8 z3) (i : Nat) : U8 (wByte z1 z2 z3 i) := by
  unfold wByte; split
  · exact h1
  · split
    · exact h2
    · exact h3
theorem wByte_get {z0 z1 z2 z3 : Int} (i : Nat) : (bytes [z0, z1, z2, z3])[1 + i % 3]? = some (J (wByte z1 z2 z3 i)) := by
  unfold wByte
  have : i % 3 = 0 ∨ i % 3 = 1 ∨ i % 3 = 2 := by omega
  rcases this with h | h | h <;> rw [h] <;> rfl

theorem good_thin {r : Rules} (hr : Good r) {f : Nat → Int} (hf : ∀ i, U8 (f i)) (k : Nat) : Good { r with ws := thin f k r.ws } := by
  refine ⟨by show (thin f k r.ws).length ≤ 3; rw [thin_len]; exact hr.1, hr.2.1, hr.2.2.1, hr.2.2.2.1, hr.2.2.2.2.1, fun p hp => ?_⟩
  obtain ⟨i, hi, rfl⟩ := List.getElem_of_mem hp
  have hi' : i < r.ws.length := by rw [← thin_len f k r.ws]; exact hi
  have hg := thin_get f k hi'
  rw [getElem_of_lt hi] at hg
  simp only [Option.some.injEq] at hg
  rw [hg]
  have h0 := hr.2.2.2.2.2 _ (List.getElem_mem hi')
  split
  · have := narrow_in h0.2.1 (hf i); omega
  · exact h0
theorem nar_thin {r : Rules} (hr : Good r) {f : Nat → Int} (hf : ∀ i, U8 (f i)) (k : Nat) (u : Nat) (s : Sp) : Nar r { r with ws := thin f k r.ws } u u s s := by
  refine ⟨Int.le_refl _, Int.le_refl _, ⟨Int.le_refl _, Int.le_refl _⟩, rfl, thin_len _ _ _, fun i h h' => ?_, fun _ _ h => h, ⟨Int.le_refl _, Int.le_refl _⟩⟩
  have hg := thin_get f k h
  have h'' : i < (thin f k r.ws).length := h'
  rw [getElem_of_lt h''] at hg
  simp only [Option.some.injEq] at hg
  show _ ≤ ((thin f k r.ws)[i]).1 ∧ ((thin f k r.ws)[i]).2 ≤ _
  rw [hg]
  have h0 := hr.2.2.2.2.2 _ (List.getElem_mem h)
  split
  · have := narrow_in h0.2.1 (hf i); omega
  · exact ⟨Int.le_refl _, Int.le_refl _⟩
theorem nar_strike {r : Rules} {l : List Bool} (hl : l.length = r.ws.length) (x : Int) (k : Nat) (s : Sp) : Nar r r (setOf l) (setOf (strike x k l)) s s := by
  refine ⟨Int.le_refl _, Int.le_refl _, ⟨Int.le_refl _, Int.le_refl _⟩, rfl, rfl, fun _ _ _ => ⟨Int.le_refl _, Int.le_refl _⟩, fun i hi h => ?_, ⟨Int.le_refl _, Int.le_refl _⟩⟩
  have h1 : i < l.length := by omega
  have h2 : i < (strike x k l).length := by rw [strike_len]; exact h1
  rw [has_setOf h1]
  rw [has_setOf h2] at h
  have hg := strike_get x k h1
  rw [getElem_of_lt h2] at hg
  simp only [Option.some.injEq] at hg
  rw [hg] at h
  split at h
  · rw [Bool.and_eq_true] at h; exact h.1
  · exact h

set_option maxRecDepth 100000 in
set_option maxHeartbeats 8000000 in
theorem rateNarrows_any {x0 x1 x2 x3 x4 : Int} (h0 : U8 x0) (h1 : U8 x1) (h2 : U8 x2) (h3 : U8 x3) (h4 : U8 x4) {l : List Sp} (hl : ∀ p ∈ l, U8 p.1 ∧ U8 p.2) {y0 y1 y2 : Int} (g0 : U8 y0) (g1 : U8 y1) {z0 z1 z2 z3 : Int} (e0 : U8 z0) (e1 : U8 z1) (e2 : U8 z2) (e3 : U8 z3)
    {a : Option Addr} {c : Nat} {w : World} (hc : Cells w a (pairs8 l)) :
    Calls Try.prog 8 #[.agg #[J x0, J x1, J x2, J x3, J x4, .slice a l.length c], .agg #[J y0, J y1, J y2], .agg #[J z0, J z1, J z2, J z3]] w (Pure w (.bool true)) := by
  refine vc8 _ _ _ _ _ _ _ _ _ _ _ _ _ _ _ w _ fun m1 i1 m2 i2 w1 B1 k1 m3 w2 hm3 hw2 w3 B3 k3 => ?_
  have b12 : Lies [m2, m1] 0 w2.heap.size w2 (some ⟨m3, 0, none⟩) (bytes [z0, z1, z2, z3]) := by
    have hh : w2.heap[m3]? = some (.cells (bytes [z0, z1, z2, z3]).toArray 76 (0, 0)) := by rw [hw2, hm3]; exact alloc_here
    intro i v hv
    refine ⟨m3, 0, rfl, ⟨fun hm => ?_, Nat.zero_le _, lt_of_some hh⟩, by rw [Nat.zero_add]; exact cell_obj hh hv⟩
    have := k1.own _ hm; omega
  have b3 := (b12.kept k3).now
  refine (rules_any h0 h1 h2 h3 h4 hl (hc.keep B3)).mono fun e w4 he => ?_
  obtain ⟨a1, c1', rfl, b4, A4, _, N4⟩ := he
  have hr := mkR_good x0 x1 x2 x3 x4 l
  have hlim : (mkR x0 x1 x2 x3 x4 l).limit ≤ 19 := by show x0 % 20 ≤ 19; omega
  generalize mkR x0 x1 x2 x3 x4 l = r at *
  have hlen := hr.1
  refine ⟨_, _, _, _, _, a1, _, c1', rfl, .all b4, fun m7 i7 w5 B5 k5 => ?_⟩
  have R5 := (((Lies.new A4 N4 k3.own).push (.inr i7)).kept k5).now
  have V5 := (((b3.below b4).now.push (.inr i7)).kept k5).now
  refine (begin_any r (by omega) g0 g1).mono fun e w6 he => ?_
  obtain ⟨a2, c2, rfl, b6, D6, _, N6⟩ := he
  have hsp := mkS_ok y0 y1 y2 r.ws.length g0
  have hul := mkS_len y0 y1 y2 r.ws.length
  generalize mkS y0 y1 y2 r.ws.length = s at *
  have hse := start_ok hr hsp hul
  refine ⟨_, _, a2, _, c2, rfl, .all b6, fun m11 i11 w7 B7 k7 => ?_⟩
  have b7 : Base r s [m11, m7, m2, m1] a1 a2 w7 := ⟨k7.own, (((R5.below b6).now.push (.inr i11)).chg k7.chg).now, (((Lies.new D6 N6 k5.own).push (.inr i11)).chg k7.chg).now⟩
  have V7 := (((V5.below b6).now.push (.inr i11)).chg k7.chg).now
  refine copies_own b7.rules b7.used (by omega) (by omega) k7.own fun a3 c3 a4 c4 w8 w9 w10 w11 C11 B11 P11 Q11 o11 => ?_
  refine Pure.calls (fewest_any r s P11 Q11) fun w12 b12' => ⟨_, _, rfl, .all b12', ?_⟩
  have b12 := b7.chg (C11.trans (Chg.of_below b12'))
  have V12 := (V7.chg (C11.trans (Chg.of_below b12'))).now
  have hs' := hsp
  obtain ⟨v1, v2, v3⟩ := hs'
  simp only at v1 v2 v3
  cases hf : few r (setOf s.used) (s.lo, s.hi) with
  | none =>
    rw [fewestR_none hse hf]
    exact ⟨fun _ => ⟨fun _ => ⟨fun _ w13 B13 k13 => known_tail, fun h => absurd rfl h⟩, fun h => absurd rfl h⟩, fun h => absurd h (by decide)⟩
  | some n =>
    have hn7 := few_lt hf
    rw [fewestR_some hse hf]
    refine ⟨fun h => absurd rfl h, fun _ w18 B18 k18 => ?_⟩
    have o12 := b12.own
    have z18 := k18.size
    refine (copied2_any r (b12.rules.chg k18.chg).cells (by omega)).mono fun e w19 he => ?_
    obtain ⟨a5, c5, rfl, b19, Q19⟩ := he
    have z19 := b19.size
    have q5 := fun h => Q19.in h
    refine ⟨_, _, _, _, _, a5, _, c5, rfl, b19, fun w20 B20 k20 => ?_⟩
    have z20 := k20.size
    have Q20 := (Q19.names (ms := [m11, m7, m2, m1]) fun h b o e hm => by have := q5 h b o e; have := o12 b hm; omega).kin k20 (lo := w18.heap.size) (hi := w19.heap.size) (by simp) q5
    have L20 := (k18.chg.low (Nat.le_refl _)).trans ((LowK.of_below b19 z18).trans (k20.low (by omega)))
    refine (state2_any s (b12.used.low L20 (Nat.le_refl _)).cells (by omega)).mono fun e w21 he => ?_
    obtain ⟨a6, c6, rfl, b21, T21⟩ := he
    have z21 := b21.size
    have q6 := fun h => T21.in h
    refine ⟨_, _, a6, _, c6, rfl, b21, fun m24 j1 j2 j3 m25 l1 l2 l3 => ?_⟩
    have Q21 : RowZ 23 2 w18.heap.size [m25, m24, m11, m7, m2, m1] a5 r.ws.length c5 (spans r.ws) w21 := (Q20.below b21).names fun h b o e hm => by
      have := q5 h b o e
      rcases List.mem_cons.1 hm with rfl | hm
      · omega
      · rcases List.mem_cons.1 hm with rfl | hm
        · omega
        · have := o12 b hm; omega
    have T21 : RowZ 4 1 w20.heap.size [m25, m24, m11, m7, m2, m1] a6 s.used.length c6 (bools s.used) w21 := T21.names fun h b o e hm => by
      have := q6 h b o e
      rcases List.mem_cons.1 hm with rfl | hm
      · omega
      · rcases List.mem_cons.1 hm with rfl | hm
        · omega
        · have := o12 b hm; omega
    have V21 := ((V12.low (L20.trans (LowK.of_below b21 (by omega))) (Nat.le_refl _)).push (.inr j1)).push (.inr l1)
    have A21 := Q21.lies q5
    have D21 := T21.lies q6
    obtain ⟨n0, v0⟩ := V21.at (i := 0) rfl
    obtain ⟨_, v1'⟩ := V21.at (i := 1) rfl
    have nm3 : m3 ≠ m25 ∧ m3 ≠ m24 ∧ m3 ≠ m11 ∧ m3 ≠ m7 ∧ m3 ≠ m2 ∧ m3 ≠ m1 := by simpa using n0
    have wle : w.heap.size ≤ w18.heap.size := B18.size
    have sh : ∀ (q : Rules) (t : St) (w' : World), Good q → okSp (t.lo, t.hi) → Nar r q (setOf s.used) (setOf t.used) (s.lo, s.hi) (t.lo, t.hi) → q.ws = r.ws → t.used = s.used → Kept [m25, m24, m11, m7, m2, m1] w21 w' → NarAt r s q t [m25, m24, m11, m7, m2, m1] a5 a6 w' := fun q t w' f1 f2 f3 f4 f5 k =>
      ⟨f1, f2, by rw [f4, f5]; exact hul, f3, k.own, by rw [f4]; exact (A21.kept k).now, by rw [f5]; exact (D21.kept k).now⟩
    unfold U8 at e0 e1
    have em : z0.tmod 6 = z0 % 6 := Int.tmod_eq_emod_of_nonneg e0.1
    refine ⟨by decide, z0, cell_at v0 (by simp), .inr nm3, by decide, ?_⟩
    rw [em]
    refine ⟨fun ls w' => match ls with | [.int _ li, .int _ er, .int _ tl, .int _ th, .int _ tu, .sl b n c, .int _ lo, .int _ hi, .sl b' n' c'] => ∃ (q : Rules) (t : St), li = q.limit ∧ er = q.err ∧ tl = q.tlo ∧ th = q.thi ∧ tu = q.turns ∧ n = q.ws.length ∧ lo = t.lo ∧ hi = t.hi ∧ n' = t.used.length ∧ NarAt r s q t [m25, m24, m11, m7, m2, m1] b b' w' | _ => False, ⟨fun c0 => ?_, fun c0 => ⟨fun c1 => ?_, fun c1 => ⟨fun c2 => ?_, fun c2 => ⟨fun c3 => ?_, fun c3 => ⟨fun c4 => ?_, fun c4 => ?_⟩⟩⟩⟩⟩, ?_⟩
    · refine ⟨by decide, z1, cell_at v1' (by simp), .inr nm3, by omega, fun w23 B23 k23 => ?_⟩
      refine Pure.calls (narrow_any (s := (s.lo, s.hi)) v2 (by simp only; omega) (by simp only; omega) e1 w23) fun w24 b24 => ⟨_, _, rfl, .all b24, fun w25 B25 k25 _ _ => ?_⟩
      have hn := narrow_in (s := (s.lo, s.hi)) v2 e1
      generalize narrowR (s.lo, s.hi) z1 = p at *
      have kk : Kept [m25, m24, m11, m7, m2, m1] w21 w25 := ⟨(k25.os.trans b24.os).trans k23.os, (k25.tape.trans b24.tape).trans k23.tape, (k25.output.trans b24.output).trans k23.output, Nat.le_trans k23.size (Nat.le_trans b24.size k25.size), fun x hx hn => ((k25.block x (Nat.lt_of_lt_of_le hx (Nat.le_trans k23.size b24.size)) hn).trans (b24.block x (Nat.lt_of_lt_of_le hx k23.size))).trans (k23.block x hx hn), k25.own⟩
      exact ⟨r, ⟨p.1, p.2, s.used⟩, rfl, rfl, rfl, rfl, rfl, rfl, rfl, rfl, rfl, sh _ _ _ hr ⟨by simp only at hn ⊢; omega, by simp only at hn ⊢; omega, by simp only at hn ⊢; omega⟩ ⟨Int.le_refl _, Int.le_refl _, ⟨Int.le_refl _, Int.le_refl _⟩, rfl, rfl, fun _ _ _ => ⟨Int.le_refl _, Int.le_refl _⟩, fun _ _ h => h, ⟨hn.1, hn.2.2⟩⟩ rfl rfl kk⟩
    · refine ⟨fun ls w' => match ls with | [.int _ i, .int _ li, .int _ er, .int _ tl, .int _ th, .int _ tu, .sl b n _, .int _ lo, .int _ hi, .sl b' n' c'] => 0 ≤ i ∧ i ≤ s.used.length ∧ li = r.limit ∧ er = r.err ∧ tl = r.tlo ∧ th = r.thi ∧ tu = r.turns ∧ b = a5 ∧ n = r.ws.length ∧ lo = s.lo ∧ hi = s.hi ∧ b' = a6 ∧ n' = s.used.length ∧ LoopA [m25, m24, m11, m7, m2, m1] w18.heap.size w19.heap.size w20.heap.size w12.heap.size m3 [z0, z1, z2, z3] a5 a6 s.used.length c' r.ws (strike z1 i.toNat s.used) w' | _ => False,
        fun ls => match ls with | .int _ i :: _ => (s.used.length - i).toNat | _ => 0, fun w27 B27 k27 => ⟨by omega, by omega, rfl, rfl, rfl, rfl, rfl, rfl, rfl, rfl, rfl, rfl, rfl, by rw [show (0 : Int).toNat = 0 from rfl, strike_zero]; exact ⟨T21.chg (Chg.kept k27) fun _ h => h, A21.kept k27, V21.kept k27, k27.own⟩⟩, ?_⟩
      rintro i li er tl th tu b n b_c lo hi b' n' c' w28 B28 ⟨i0, il, rfl, rfl, rfl, rfl, rfl, rfl, rfl, rfl, rfl, rfl, rfl, L28⟩
      refine ⟨fun hi => ?_, fun hi w35 B35 k35 _ => ?_⟩
      · have hix : i.toNat < s.used.length := by omega
        obtain ⟨g, rfl, R28⟩ := L28.row.at (by omega)
        have hg := q6 (by omega) g 0 rfl
        have hgn := R28.ns g 0 rfl
        have cg := R28.cells i.toNat _ (bools_get ((strike_get z1 i.toNat hix).trans (by rw [if_neg (by omega)])))
        obtain ⟨_, _, e, cg⟩ := cg
        cases e
        obtain ⟨_, w1c⟩ := L28.small.at (i := 1) rfl
        have fin : ∀ w29 w30 w31 : World, ∀ v : Bool, v = (s.used[i.toNat] && bitU z1 i) → KeptIn [(0, w28.heap.size)] [m25, m24, m11, m7, m2, m1] w28 w29 → Row 4 1 w20.heap.size [m25, m24, m11, m7, m2, m1] (some ⟨g, 0, none⟩) s.used.length c' ((bools (strike z1 i.toNat s.used)).set i.toNat (.bool v)) w30 → Chg [g] w29 w30 → Kept [m25, m24, m11, m7, m2, m1] w30 w31 →
            LoopA [m25, m24, m11, m7, m2, m1] w18.heap.size w19.heap.size w20.heap.size w12.heap.size m3 [z0, z1, z2, z3] b (some ⟨g, 0, none⟩) s.used.length c' r.ws (strike z1 (i + 1).toNat s.used) w31 := fun w29 w30 w31 v hv k29 R30 C30 k31 => by
          have L29 := L28.chg k29.chg
          refine ⟨.inr ?_, (L29.ws.out C30 (by simp; omega)).kept k31, (L29.small.out C30 (by simp; omega)).kept k31, k31.own⟩
          have := R30.chg (Chg.kept k31) fun _ h => h
          rw [show (i + 1).toNat = i.toNat + 1 by omega, strike_step z1 hix]
          rw [show ((i.toNat : Nat) : Int) = i by omega, ← hv]
          unfold bools at this ⊢
          rw [List.map_set]; exact this
        have meas : ((s.used.length : Int) - (i + 1)).toNat < ((s.used.length : Int) - i).toNat := by omega
        refine ⟨g, 0, rfl, ⟨i0, hi⟩, s.used[i.toNat], cell_at cg (by omega), .inr (by simpa using hgn), fun ht => ⟨by decide, z1, cell_at w1c (by simp), .inr nm3, ⟨by omega, by omega⟩, i0, g, 0, rfl, ⟨i0, hi⟩, fun w29 B29 k29 => ?_⟩, fun ht => ⟨g, 0, rfl, ⟨i0, hi⟩, fun w29 B29 k29 => ?_⟩⟩
        · rw [show 0 + i.toNat * 1 = i.toNat by omega]
          refine row_set (P := Try.prog) (t := 4) (by kernel_rfl) (by kernel_rfl) (R28.chg k29.chg fun _ h => h) (i := i.toNat) (by omega) (v := .bool _) trivial fun w30 R30 c30 => ?_
          exact ⟨c30.own (fun b hb => ⟨k29.own b hb, fun hh => hgn (List.mem_singleton.1 hh ▸ hb)⟩) (by simp) (fun _ => ⟨B29.size, by simp; omega⟩), by omega, fun w31 B31 k31 => ⟨⟨by omega, by omega, rfl, rfl, rfl, rfl, rfl, rfl, rfl, rfl, rfl, rfl, rfl, fin w29 w30 w31 _ (by rw [ht]; rfl) k29 R30 c30 k31⟩, meas⟩⟩
        · rw [show 0 + i.toNat * 1 = i.toNat by omega]
          refine row_set (P := Try.prog) (t := 4) (by kernel_rfl) (by kernel_rfl) (R28.chg k29.chg fun _ h => h) (i := i.toNat) (by omega) (v := .bool _) trivial fun w30 R30 c30 => ?_
          exact ⟨c30.own (fun b hb => ⟨k29.own b hb, fun hh => hgn (List.mem_singleton.1 hh ▸ hb)⟩) (by simp) (fun _ => ⟨B29.size, by simp; omega⟩), by omega, fun w31 B31 k31 => ⟨⟨by omega, by omega, rfl, rfl, rfl, rfl, rfl, rfl, rfl, rfl, rfl, rfl, rfl, fin w29 w30 w31 _ (by rw [ht]; rfl) k29 R30 c30 k31⟩, meas⟩⟩
      · have L35 := L28.chg (Chg.kept k35)
        exact ⟨r, ⟨s.lo, s.hi, strike z1 i.toNat s.used⟩, rfl, rfl, rfl, rfl, rfl, rfl, rfl, rfl, (strike_len _ _ _).symm, ⟨hr, hsp, (strike_len _ _ _).trans hul, nar_strike hul _ _ _, k35.own, L35.ws.now, (L35.row.lies q6).now⟩⟩
    · refine ⟨by decide, z1, cell_at v1' (by simp), .inr nm3, by omega, ?_⟩
      have hre := hr.2.2.1
      have p1 : 0 ≤ r.err * z1 := Int.mul_nonneg (by omega) (by omega)
      have p2 : r.err * z1 ≤ r.err * 255 := Int.mul_le_mul_of_nonneg_left (by omega) (by omega)
      have ed : (r.err * z1).tdiv 255 = r.err * z1 / 255 := Int.tdiv_eq_ediv_of_nonneg p1
      rw [ed]
      generalize r.err * z1 = z at *
      refine ⟨by omega, ⟨by decide, by omega, by omega⟩, fun w36 B36 k36 _ _ => ⟨{ r with err := z / 255 }, s, rfl, rfl, rfl, rfl, rfl, rfl, rfl, rfl, rfl, sh _ _ _ ⟨hr.1, hr.2.1, by show 0 ≤ z / 255 ∧ z / 255 ≤ 50; omega, hr.2.2.2⟩ hsp ⟨Int.le_refl _, by show z / 255 ≤ r.err; omega, ⟨Int.le_refl _, Int.le_refl _⟩, rfl, rfl, fun _ _ _ => ⟨Int.le_refl _, Int.le_refl _⟩, fun _ _ h => h, ⟨Int.le_refl _, Int.le_refl _⟩⟩ rfl rfl k36⟩⟩
    · refine ⟨by decide, z1, cell_at v1' (by simp), .inr nm3, by omega, fun w37 B37 k37 => ?_⟩
      have hrt := hr.2.2.2.1
      refine Pure.calls (narrow_any (s := (r.tlo, r.thi)) (by simp only; omega) (by simp only; omega) (by simp only; omega) e1 w37) fun w38 b38 => ⟨_, _, rfl, .all b38, fun w39 B39 k39 _ _ => ?_⟩
      have hn := narrow_in (s := (r.tlo, r.thi)) (by simp only; omega) e1
      generalize narrowR (r.tlo, r.thi) z1 = p at *
      simp only at hn
      have kk : Kept [m25, m24, m11, m7, m2, m1] w21 w39 := ⟨(k39.os.trans b38.os).trans k37.os, (k39.tape.trans b38.tape).trans k37.tape, (k39.output.trans b38.output).trans k37.output, Nat.le_trans k37.size (Nat.le_trans b38.size k39.size), fun x hx hn => ((k39.block x (Nat.lt_of_lt_of_le hx (Nat.le_trans k37.size b38.size)) hn).trans (b38.block x (Nat.lt_of_lt_of_le hx k37.size))).trans (k37.block x hx hn), k39.own⟩
      exact ⟨{ r with tlo := p.1, thi := p.2 }, s, rfl, rfl, rfl, rfl, rfl, rfl, rfl, rfl, rfl, sh _ _ _ ⟨hr.1, hr.2.1, hr.2.2.1, by show 1 ≤ p.1 ∧ p.1 ≤ p.2 ∧ p.2 ≤ 100; omega, hr.2.2.2.2⟩ hsp ⟨Int.le_refl _, Int.le_refl _, ⟨hn.1, hn.2.2⟩, rfl, rfl, fun _ _ _ => ⟨Int.le_refl _, Int.le_refl _⟩, fun _ _ h => h, ⟨Int.le_refl _, Int.le_refl _⟩⟩ rfl rfl kk⟩
    · refine ⟨fun ls w' => match ls with | [.int _ i, .int _ li, .int _ er, .int _ tl, .int _ th, .int _ tu, .sl b n c', .int _ lo, .int _ hi, .sl b' n' _] => 0 ≤ i ∧ i ≤ r.ws.length ∧ li = r.limit ∧ er = r.err ∧ tl = r.tlo ∧ th = r.thi ∧ tu = r.turns ∧ b = a5 ∧ n = r.ws.length ∧ lo = s.lo ∧ hi = s.hi ∧ b' = a6 ∧ n' = s.used.length ∧ LoopB [m25, m24, m11, m7, m2, m1] w18.heap.size w20.heap.size w21.heap.size w12.heap.size m3 [z0, z1, z2, z3] a5 a6 r.ws.length c' (thin (wByte z1 z2 z3) i.toNat r.ws) s.used w' | _ => False,
        fun ls => match ls with | .int _ i :: _ => (r.ws.length - i).toNat | _ => 0, fun w41 B41 k41 => ⟨by omega, by omega, rfl, rfl, rfl, rfl, rfl, rfl, rfl, rfl, rfl, rfl, rfl, by rw [show (0 : Int).toNat = 0 from rfl, thin_zero]; exact ⟨Q21.chg (Chg.kept k41) fun _ h => h, D21.kept k41, V21.kept k41, k41.own⟩⟩, ?_⟩
      have hf8 := wByte_u8 e1 e2 e3
      rintro i li er tl th tu b n b_c lo hi b' n' c' w42 B42 ⟨i0, il, rfl, rfl, rfl, rfl, rfl, rfl, rfl, rfl, rfl, rfl, rfl, L42⟩
      refine ⟨fun hi => ?_, fun hi w48 B48 k48 _ => ?_⟩
      · have hix : i.toNat < r.ws.length := by omega
        obtain ⟨g, rfl, R42⟩ := L42.row.at (by omega)
        have hg := q5 (by omega) g 0 rfl
        have hgn := R42.ns g 0 rfl
        have hget := (thin_get (wByte z1 z2 z3) i.toNat hix).trans (by rw [if_neg (by omega)])
        obtain ⟨t1, t2⟩ := spans_get hget
        obtain ⟨_, _, e, cg1⟩ := R42.cells _ _ t1
        cases e
        obtain ⟨_, _, e, cg2⟩ := R42.cells _ _ t2
        cases e
        have em3 : i.tmod 3 = i % 3 := Int.tmod_eq_emod_of_nonneg i0
        obtain ⟨_, w1c⟩ := L42.small.at (wByte_get i.toNat)
        have hwi := hr.2.2.2.2.2 _ (List.getElem_mem hix)
        have hb8 := hf8 i.toNat
        have hb8' := hb8
        unfold U8 at hb8'
        rw [em3]
        refine ⟨g, 0, rfl, ⟨i0, hi⟩, (r.ws[i.toNat]).1, (r.ws[i.toNat]).2, cell_at cg1 (by omega), cell_at cg2 (by omega), .inr (by simpa using hgn), by decide, by omega, ⟨by omega, by omega⟩, _, cell_at w1c (by omega), .inr nm3, by omega, fun w43 B43 k43 => ?_⟩
        refine Pure.calls (narrow_any (s := r.ws[i.toNat]) hwi.2.1 (by omega) (by omega) hb8 w43) fun w44 b44 => ⟨_, _, rfl, .all b44, g, 0, rfl, ⟨i0, hi⟩, fun w45 B45 k45 => ?_⟩
        have C45 := (k43.chg.trans (Chg.of_below b44)).trans k45.chg
        have L45 := L42.chg C45
        have z45 := C45.size
        rw [show 0 + i.toNat * 2 = i.toNat * 2 by omega]
        refine row_put (P := Try.prog) (t := 23) (size := 2) (by kernel_rfl) (by kernel_rfl) (R42.chg C45 fun _ h => h) (i := i.toNat) (by omega) (vs := [I _, I _]) rfl rfl (by simp; exact ⟨trivial, trivial⟩) fun w46 R46 c46 => ?_
        refine ⟨c46.own (fun b hb => ⟨k45.own b hb, fun hh => hgn (List.mem_singleton.1 hh ▸ hb)⟩) (by simp) (fun _ => ⟨B45.size, by simp; omega⟩), by omega, fun w47 B47 k47 => ⟨⟨by omega, by omega, rfl, rfl, rfl, rfl, rfl, rfl, rfl, rfl, rfl, rfl, rfl, ⟨.inr ?_, (L45.used.out c46 (by simp; omega)).kept k47, (L45.small.out c46 (by simp; omega)).kept k47, k47.own⟩⟩, ?_⟩⟩
        · have := R46.chg (Chg.kept k47) fun _ h => h
          rw [spans_put (by rw [thin_len]; exact hix)] at this
          rw [show (i + 1).toNat = i.toNat + 1 by omega, thin_step _ hix]
          exact this
        · show ((r.ws.length : Int) - (i + 1)).toNat < ((r.ws.length : Int) - i).toNat
          omega
      · have L48 := L42.chg (Chg.kept k48)
        exact ⟨{ r with ws := thin (wByte z1 z2 z3) i.toNat r.ws }, s, rfl, rfl, rfl, rfl, rfl, (thin_len _ _ _).symm, rfl, rfl, rfl, ⟨good_thin hr hf8 _, hsp, hul.trans (thin_len _ _ _).symm, nar_thin hr hf8 _ _ _, k48.own, (L48.row.lies q5).now, L48.used.now⟩⟩
    · refine ⟨by decide, z1, cell_at v1' (by simp), .inr nm3, by omega, by decide, ?_⟩
      have ez : z1.tmod 20 = z1 % 20 := Int.tmod_eq_emod_of_nonneg e1.1
      have hrl := hr.2.1
      rw [ez]
      refine ⟨by omega, fun w49 B49 k49 _ _ => ⟨{ r with limit := r.limit + z1 % 20 }, s, rfl, rfl, rfl, rfl, rfl, rfl, rfl, rfl, rfl, sh _ _ _ ⟨hr.1, by show 0 ≤ r.limit + z1 % 20 ∧ r.limit + z1 % 20 ≤ 300; omega, hr.2.2⟩ hsp ⟨by show r.limit ≤ r.limit + z1 % 20; omega, Int.le_refl _, ⟨Int.le_refl _, Int.le_refl _⟩, rfl, rfl, fun _ _ _ => ⟨Int.le_refl _, Int.le_refl _⟩, fun _ _ h => h, ⟨Int.le_refl _, Int.le_refl _⟩⟩ rfl rfl k49⟩⟩
    · rintro li er tl th tu b n' c' lo hi b' n'' c'' w50 B50 ⟨q, t, rfl, rfl, rfl, rfl, rfl, rfl, rfl, rfl, rfl, N⟩
      intro w51 B51 k51
      have hql := N.good.1
      have htl := N.len
      have z51 := k51.size
      refine copies_own (r := q) (s := t) (N.ws.chg k51.chg).now (N.used.chg k51.chg).now (by omega) (by omega) k51.own fun a13 c13 a14 c14 w52 w53 w54 w55 C55 B55 P55 Q55 o55 => ?_
      refine Pure.calls (fewest_any q t P55 Q55) fun w56 b56 => ?_
      have hE := enough_nar hr N.good (setOf_lt (by omega)) (setOf_lt (by omega)) N.sp N.nar (few_enough hr hsp hf).1
      obtain ⟨k, hk, hfk⟩ := few_le N.good hn7 N.sp hE
      rw [fewestR_some (start_ok N.good N.sp N.len) hfk]
      exact ⟨_, _, rfl, .all b56, fun _ => ⟨fun _ w57 B57 k57 => known_tail, fun h => by simp only at h; omega⟩, fun h => absurd rfl h⟩
end Go.Proofs.R07
end
