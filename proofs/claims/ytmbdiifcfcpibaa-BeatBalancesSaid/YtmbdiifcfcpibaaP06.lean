/- Part 6: own lemmas, and the conditions of the functions. -/
import Derived.Test.YtmbdiifcfcpibaaProg
import Derived.Test.YtmbdiifcfcpibaaP05
section
/- The conditions of the functions, printed by program; each is what the generator reckons (kernel_rfl). -/
namespace Go.Proofs
open Go.Vc
set_option maxRecDepth 100000 in
set_option maxHeartbeats 2000000 in
theorem vc68 (c0 : Int) (c1 : Int) (c2a : Option Addr) (c2n : Nat) (c2c : Nat) (c3 : Int) (c4 : Int) (c5 : Int) (c6 : Int) (w : World) (R : Ending → World → Prop) (h : ∀ (m1 :
    Nat), w.heap.size ≤ m1 → ∀ (m2 : Nat), w.heap.size ≤ m2 → ∀ (m3 : Nat), w.heap.size ≤ m3 → ∀ (m4 : Nat), w.heap.size ≤ m4 → ∃ (F1 : List Lf → World → Prop), ∃ (F2 : List Lf →
    Nat), (∀ (w2 : World), RowKit.Below w.heap.size w w2 → Kept [m4, m3, m2, m1] w w2 → w2.heap[m3]? = some (Obj.cells #[] 3) → w2.heap[m4]? = some (Obj.cells #[] 3) → F1 [Lf.sl
    (some { block := m3, off := 0 }) 0 0, Lf.sl (some { block := m4, off := 0 }) 0 0, Lf.int IntKind.i64 0] w2) ∧ ∀ (a1 : Option Addr) (m7 m8 : Nat) (a2 : Option Addr) (m9 m10 :
    Nat) (x1 : Int) (w3 : World), RowKit.Below w.heap.size w w3 → F1 [Lf.sl a1 m7 m8, Lf.sl a2 m9 m10, Lf.int IntKind.i64 x1] w3 → (x1 < (↑c2n : Int) → ∃ (m11 : Nat), ∃ (m12 :
    Nat), c2a = some { block := m11, off := m12 } ∧ (0 ≤ x1 ∧ x1 < (↑c2n : Int)) ∧ ∃ (x2 : Int), ∃ (x3 : Int), w3.cell? { block := m11, off := m12 + x1.toNat * 4 + 1 } = some
    (Value.int IntKind.i64 x2) ∧ w3.cell? { block := m11, off := m12 + x1.toNat * 4 + 1 + 1 } = some (Value.int IntKind.i64 x3) ∧ (m11 < w.heap.size ∨ m11 ≠ m2 ∧ m11 ≠ m1) ∧ ∀ (m13
    : Nat), w3.heap.size ≤ m13 → ∃ (m14 : Nat), ∃ (m15 : Nat), c2a = some { block := m14, off := m15 } ∧ (0 ≤ x1 ∧ x1 < (↑c2n : Int)) ∧ ∃ (t1 : Bool), w3.cell?
    { block := m14, off := m15 + x1.toNat * 4 + 3 } = some (Value.bool t1) ∧ (m14 < w.heap.size ∨ m14 ≠ m13 ∧ m14 ≠ m2 ∧ m14 ≠ m1) ∧ (t1 = true → ∀ (m16 : Nat), w3.heap.size ≤ m16
    → ∀ (w4 : World), RowKit.Below w.heap.size w w4 → KeptIn [(0, w3.heap.size)] [m16, m13, m2, m1] w3 w4 → w4.heap[m16]? = some (Obj.cells #[Value.int IntKind.i64 x3] 3) → RunsTo
    Try.prog (Builtin.append_ #[28, 28] 28 #[Value.slice a1 m7 m8, Value.slice (some { block := m16, off := 0 }) 1 1]) w4 fun (v1 : Value) (w5 : World) => ∃ (a3 : Option Addr), ∃
    (m18 : Nat), ∃ (m19 : Nat), v1 = Value.slice a3 m18 m19 ∧ KeepX true w.heap.size [m16, m13, m2, m1] (fun (m20 : Nat) => False ∨ w3.heap.size ≤ m20 ∧ m20 < w4.heap.size) w4 w5 ∧
    ∀ (m21 : Nat), w3.heap.size ≤ m21 → m21 < w4.heap.size ∨ w5.heap.size ≤ m21 → ∀ (w6 : World), RowKit.Below w.heap.size w w6 → KeptIn [(0, w3.heap.size), (w4.heap.size,
    w5.heap.size)] [m21, m16, m13, m2, m1] w5 w6 → w6.heap[m21]? = some (Obj.cells #[Value.int IntKind.i64 x2] 3) → RunsTo Try.prog (Builtin.append_ #[28, 28] 28 #[Value.slice a2
    m9 m10, Value.slice (some { block := m21, off := 0 }) 1 1]) w6 fun (v2 : Value) (w7 : World) => ∃ (a4 : Option Addr), ∃ (m23 : Nat), ∃ (m24 : Nat), v2 = Value.slice a4 m23 m24
    ∧ KeepX true w.heap.size [m21, m16, m13, m2, m1] (fun _ => False) w6 w7 ∧ (-9223372036854775808 ≤ x1 + 1 ∧ x1 + (1 : Int) ≤ 9223372036854775807) ∧ ∀ (w8 : World), RowKit.Below
    w.heap.size w w8 → Kept [m21, m16, m13, m2, m1] w7 w8 → F1 [Lf.sl a3 m18 m19, Lf.sl a4 m23 m24, Lf.int IntKind.i64 (x1 + 1)] w8 ∧ F2 [Lf.sl a3 m18 m19, Lf.sl a4 m23 m24, Lf.int
    IntKind.i64 (x1 + 1)] < F2 [Lf.sl a1 m7 m8, Lf.sl a2 m9 m10, Lf.int IntKind.i64 x1]) ∧ (t1 = false → ∀ (m26 : Nat), w3.heap.size ≤ m26 → ∀ (w9 : World), RowKit.Below
    w.heap.size w w9 → KeptIn [(0, w3.heap.size)] [m26, m13, m2, m1] w3 w9 → w9.heap[m26]? = some (Obj.cells #[Value.int IntKind.i64 x2] 3) → RunsTo Try.prog (Builtin.append_ #[28,
    28] 28 #[Value.slice a1 m7 m8, Value.slice (some { block := m26, off := 0 }) 1 1]) w9 fun (v3 : Value) (w10 : World) => ∃ (a5 : Option Addr), ∃ (m28 : Nat), ∃ (m29 : Nat), v3 =
    Value.slice a5 m28 m29 ∧ KeepX true w.heap.size [m26, m13, m2, m1] (fun (m30 : Nat) => False ∨ w3.heap.size ≤ m30 ∧ m30 < w9.heap.size) w9 w10 ∧ ∀ (m31 : Nat), w3.heap.size ≤
    m31 → m31 < w9.heap.size ∨ w10.heap.size ≤ m31 → ∀ (w11 : World), RowKit.Below w.heap.size w w11 → KeptIn [(0, w3.heap.size), (w9.heap.size, w10.heap.size)] [m31, m26, m13, m2,
    m1] w10 w11 → w11.heap[m31]? = some (Obj.cells #[Value.int IntKind.i64 x3] 3) → RunsTo Try.prog (Builtin.append_ #[28, 28] 28 #[Value.slice a2 m9 m10, Value.slice (some
    { block := m31, off := 0 }) 1 1]) w11 fun (v4 : Value) (w12 : World) => ∃ (a6 : Option Addr), ∃ (m33 : Nat), ∃ (m34 : Nat), v4 = Value.slice a6 m33 m34 ∧ KeepX true w.heap.size
    [m31, m26, m13, m2, m1] (fun _ => False) w11 w12 ∧ (-9223372036854775808 ≤ x1 + 1 ∧ x1 + (1 : Int) ≤ 9223372036854775807) ∧ ∀ (w13 : World), RowKit.Below w.heap.size w w13 →
    Kept [m31, m26, m13, m2, m1] w12 w13 → F1 [Lf.sl a5 m28 m29, Lf.sl a6 m33 m34, Lf.int IntKind.i64 (x1 + 1)] w13 ∧ F2 [Lf.sl a5 m28 m29, Lf.sl a6 m33 m34, Lf.int IntKind.i64 (x1
    + 1)] < F2 [Lf.sl a1 m7 m8, Lf.sl a2 m9 m10, Lf.int IntKind.i64 x1])) ∧ ((↑c2n : Int) ≤ x1 → ∀ (w14 : World), RowKit.Below w.heap.size w w14 → KeptIn [(0, w3.heap.size)] [m2,
    m1] w3 w14 → Calls Try.prog 54 #[Value.agg #[Value.int IntKind.i64 c0, Value.int IntKind.i64 c1, Value.slice c2a c2n c2c, Value.int IntKind.i64 c3, Value.int IntKind.i64 c4,
    Value.int IntKind.i64 c5, Value.int IntKind.i64 c6], Value.slice a1 m7 m8] w14 fun (e1 : Ending) (w15 : World) => ∃ (x4 : Int), e1 = Ending.returned (Value.int IntKind.i64 x4)
    ∧ KeepX true w.heap.size [m2, m1] (fun _ => False) w14 w15 ∧ ∀ (w16 : World), RowKit.Below w.heap.size w w16 → KeptIn [(0, w15.heap.size)] [m2, m1] w15 w16 → Calls Try.prog 54
    #[Value.agg #[Value.int IntKind.i64 c0, Value.int IntKind.i64 c1, Value.slice c2a c2n c2c, Value.int IntKind.i64 c3, Value.int IntKind.i64 c4, Value.int IntKind.i64 c5,
    Value.int IntKind.i64 c6], Value.slice a2 m9 m10] w16 fun (e2 : Ending) (w17 : World) => ∃ (x5 : Int), e2 = Ending.returned (Value.int IntKind.i64 x5) ∧ KeepX true w.heap.size
    [m2, m1] (fun _ => False) w16 w17 ∧ ∀ (w18 : World), RowKit.Below w.heap.size w w18 → Kept [m2, m1] w17 w18 → R (Ending.returned (Value.agg #[Value.int IntKind.i64 x4,
    Value.int IntKind.i64 x5])) w18)) : Calls Try.prog 68 #[Value.agg #[Value.int IntKind.i64 c0, Value.int IntKind.i64 c1, Value.slice c2a c2n c2c, Value.int IntKind.i64 c3,
    Value.int IntKind.i64 c4, Value.int IntKind.i64 c5, Value.int IntKind.i64 c6]] w R := calls_of_vcj (pure := true) (wrapAt := []) (muts := []) (esc := []) (joins := [(3000000,
    [])]) (args := [SV.pv (PV.agg [Lf.int IntKind.i64 c0, Lf.int IntKind.i64 c1, Lf.sl c2a c2n c2c, Lf.int IntKind.i64 c3, Lf.int IntKind.i64 c4, Lf.int IntKind.i64 c5, Lf.int
    IntKind.i64 c6])]) (vs := [Value.agg #[Value.int IntKind.i64 c0, Value.int IntKind.i64 c1, Value.slice c2a c2n c2c, Value.int IntKind.i64 c3, Value.int IntKind.i64 c4,
    Value.int IntKind.i64 c5, Value.int IntKind.i64 c6]]) Try.func68 rfl rfl rfl (Eq.mp (by kernel_rfl) h) 
set_option maxRecDepth 100000 in
set_option maxHeartbeats 2000000 in
theorem vc32 (c0 : Int) (c1 : Int) (c2a : Option Addr) (c2n : Nat) (c2c : Nat) (c3 : Int) (c4 : Int) (c5 : Int) (c6 : Int) (rod : Int) (w : World) (R : Ending → World → Prop) (h :
    ∀ (m1 : Nat), w.heap.size ≤ m1 → ∀ (m2 : Nat), w.heap.size ≤ m2 → ∀ (w1 : World), RowKit.Below w.heap.size w w1 → Kept [m2, m1] w w1 → w1.heap[m2]? = some (Obj.cells #[] 80) →
    RunsTo Try.prog (Builtin.append_ #[23, 23] 23 #[Value.slice (some { block := m2, off := 0 }) 0 0, Value.slice c2a c2n c2c]) w1 fun (v1 : Value) (w2 : World) => ∃ (a1 : Option
    Addr), ∃ (m4 : Nat), ∃ (m5 : Nat), v1 = Value.slice a1 m4 m5 ∧ KeepX true w.heap.size [m2, m1] (fun _ => False) w1 w2 ∧ ∃ (F1 : List Lf → World → Prop), ∃ (F2 : List Lf → Nat),
    (∀ (w4 : World), RowKit.Below w.heap.size w w4 → Kept [m2, m1] w2 w4 → F1 [Lf.int IntKind.i64 0, Lf.int IntKind.i64 0, Lf.int IntKind.i64 1] w4) ∧ ∀ (x1 x2 x3 : Int) (w5 :
    World), RowKit.Below w.heap.size w w5 → F1 [Lf.int IntKind.i64 x1, Lf.int IntKind.i64 x2, Lf.int IntKind.i64 x3] w5 → (x3 ≤ 100000 → ∃ (m7 : Nat), ∃ (m8 : Nat), a1 = some
    { block := m7, off := m8 } ∧ (0 ≤ rod ∧ rod < (↑m4 : Int)) ∧ ∀ (w6 : World), RowKit.Below w.heap.size w w6 → Kept [m2, m1] w5 w6 → RunsTo Try.prog ((Instr.storeAt 3
    (Value.pointer (some { block := m7, off := m8 + rod.toNat * 4 + 0 })) (Value.int IntKind.i64 x3)) >>= fun _ => pure (Value.tuple #[])) w6 fun (v2 : Value) (w7 : World) => KeepX
    true w.heap.size [m2, m1] (fun _ => False) w6 w7 ∧ ∀ (w8 : World), RowKit.Below w.heap.size w w8 → Kept [m2, m1] w7 w8 → Calls Try.prog 21 #[Value.agg #[Value.int IntKind.i64
    c0, Value.int IntKind.i64 c1, Value.slice a1 m4 m5, Value.int IntKind.i64 c3, Value.int IntKind.i64 c4, Value.int IntKind.i64 c5, Value.int IntKind.i64 c6]] w8 fun (e1 :
    Ending) (w9 : World) => ∃ (x4 : Int), e1 = Ending.returned (Value.int IntKind.i64 x4) ∧ KeepX true w.heap.size [m2, m1] (fun _ => False) w8 w9 ∧ (x4 < 100 →
    (-9223372036854775808 ≤ x3 + 1 ∧ x3 + (1 : Int) ≤ 9223372036854775807) ∧ ∀ (w10 : World), RowKit.Below w.heap.size w w10 → Kept [m2, m1] w9 w10 → F1 [Lf.int IntKind.i64 x1,
    Lf.int IntKind.i64 x2, Lf.int IntKind.i64 (x3 + 1)] w10 ∧ F2 [Lf.int IntKind.i64 x1, Lf.int IntKind.i64 x2, Lf.int IntKind.i64 (x3 + 1)] < F2 [Lf.int IntKind.i64 x1, Lf.int
    IntKind.i64 x2, Lf.int IntKind.i64 x3]) ∧ (100 ≤ x4 → (100000 < x4 → (-9223372036854775808 ≤ x3 + 1 ∧ x3 + (1 : Int) ≤ 9223372036854775807) ∧ ∀ (w11 : World), RowKit.Below
    w.heap.size w w11 → Kept [m2, m1] w9 w11 → F1 [Lf.int IntKind.i64 x1, Lf.int IntKind.i64 x2, Lf.int IntKind.i64 (x3 + 1)] w11 ∧ F2 [Lf.int IntKind.i64 x1, Lf.int IntKind.i64
    x2, Lf.int IntKind.i64 (x3 + 1)] < F2 [Lf.int IntKind.i64 x1, Lf.int IntKind.i64 x2, Lf.int IntKind.i64 x3]) ∧ (x4 ≤ 100000 → ∀ (w12 : World), RowKit.Below w.heap.size w w12 →
    Kept [m2, m1] w9 w12 → Calls Try.prog 68 #[Value.agg #[Value.int IntKind.i64 c0, Value.int IntKind.i64 c1, Value.slice a1 m4 m5, Value.int IntKind.i64 c3, Value.int IntKind.i64
    c4, Value.int IntKind.i64 c5, Value.int IntKind.i64 c6]] w12 fun (e2 : Ending) (w13 : World) => ∃ (x5 : Int), ∃ (x6 : Int), e2 = Ending.returned (Value.agg #[Value.int
    IntKind.i64 x5, Value.int IntKind.i64 x6]) ∧ KeepX true w.heap.size [m2, m1] (fun _ => False) w12 w13 ∧ ∀ (m12 : Nat), w13.heap.size ≤ m12 → ((-9223372036854775808 : Int) ≤ 0 -
    x5 ∧ 0 - x5 ≤ 9223372036854775807) ∧ (x1 = 0 → (-9223372036854775808 ≤ x3 + 1 ∧ x3 + (1 : Int) ≤ 9223372036854775807) ∧ ∀ (w14 : World), RowKit.Below w.heap.size w w14 → Kept
    [m2, m12, m1] w13 w14 → F1 [Lf.int IntKind.i64 x3, Lf.int IntKind.i64 (max x6 (0 - x5)), Lf.int IntKind.i64 (x3 + 1)] w14 ∧ F2 [Lf.int IntKind.i64 x3, Lf.int IntKind.i64 (max
    x6 (0 - x5)), Lf.int IntKind.i64 (x3 + 1)] < F2 [Lf.int IntKind.i64 x1, Lf.int IntKind.i64 x2, Lf.int IntKind.i64 x3]) ∧ (x1 ≠ 0 → (max x6 (0 - x5) < x2 → (-9223372036854775808
    ≤ x3 + 1 ∧ x3 + (1 : Int) ≤ 9223372036854775807) ∧ ∀ (w15 : World), RowKit.Below w.heap.size w w15 → Kept [m2, m12, m1] w13 w15 → F1 [Lf.int IntKind.i64 x3, Lf.int IntKind.i64
    (max x6 (0 - x5)), Lf.int IntKind.i64 (x3 + 1)] w15 ∧ F2 [Lf.int IntKind.i64 x3, Lf.int IntKind.i64 (max x6 (0 - x5)), Lf.int IntKind.i64 (x3 + 1)] < F2 [Lf.int IntKind.i64 x1,
    Lf.int IntKind.i64 x2, Lf.int IntKind.i64 x3]) ∧ (x2 ≤ max x6 (0 - x5) → (-9223372036854775808 ≤ x3 + 1 ∧ x3 + (1 : Int) ≤ 9223372036854775807) ∧ ∀ (w16 : World), RowKit.Below
    w.heap.size w w16 → Kept [m2, m12, m1] w13 w16 → F1 [Lf.int IntKind.i64 x1, Lf.int IntKind.i64 x2, Lf.int IntKind.i64 (x3 + 1)] w16 ∧ F2 [Lf.int IntKind.i64 x1, Lf.int
    IntKind.i64 x2, Lf.int IntKind.i64 (x3 + 1)] < F2 [Lf.int IntKind.i64 x1, Lf.int IntKind.i64 x2, Lf.int IntKind.i64 x3]))))) ∧ (100000 < x3 → ∀ (w17 : World), RowKit.Below
    w.heap.size w w17 → Kept [m2, m1] w5 w17 → R (Ending.returned (Value.tuple #[Value.int IntKind.i64 x1, Value.int IntKind.i64 x2])) w17)) : Calls Try.prog 32 #[Value.agg
    #[Value.int IntKind.i64 c0, Value.int IntKind.i64 c1, Value.slice c2a c2n c2c, Value.int IntKind.i64 c3, Value.int IntKind.i64 c4, Value.int IntKind.i64 c5, Value.int
    IntKind.i64 c6], Value.int IntKind.i64 rod] w R := calls_of_vc (pure := true) (wrapAt := []) (muts := []) (esc := []) (args := [SV.pv (PV.agg [Lf.int IntKind.i64 c0, Lf.int
    IntKind.i64 c1, Lf.sl c2a c2n c2c, Lf.int IntKind.i64 c3, Lf.int IntKind.i64 c4, Lf.int IntKind.i64 c5, Lf.int IntKind.i64 c6]), SV.pv (PV.one (Lf.int IntKind.i64 rod))]) (vs
    := [Value.agg #[Value.int IntKind.i64 c0, Value.int IntKind.i64 c1, Value.slice c2a c2n c2c, Value.int IntKind.i64 c3, Value.int IntKind.i64 c4, Value.int IntKind.i64 c5,
    Value.int IntKind.i64 c6], Value.int IntKind.i64 rod]) Try.func32 rfl rfl rfl (Eq.mp (by kernel_rfl) h) 
set_option maxRecDepth 100000 in
set_option maxHeartbeats 2000000 in
theorem vc6 (c0 : Int) (c1 : Int) (c2a : Option Addr) (c2n : Nat) (c2c : Nat) (c3 : Int) (c4 : Int) (c5 : Int) (c6 : Int) (rod : Int) (w : World) (R : Ending → World → Prop) (h : ∀
    (m1 : Nat), w.heap.size ≤ m1 → ∃ (F1 : List Lf → World → Prop), ((3 < (↑c2n : Int) → ((↑c2n : Int) ≤ 8 → ∀ (w2 : World), RowKit.Below w.heap.size w w2 → Kept [m1] w w2 →
    w2.heap[m1]? = some (Obj.cells #[Value.int IntKind.i64 c0, Value.int IntKind.i64 c1, Value.slice c2a c2n c2c, Value.int IntKind.i64 c3, Value.int IntKind.i64 c4, Value.int
    IntKind.i64 c5, Value.int IntKind.i64 c6] 27) → w2.heap[m1]? = some (Obj.cells #[Value.int IntKind.i64 c0, Value.int IntKind.i64 c1, Value.slice c2a c2n c2c, Value.int
    IntKind.i64 c3, Value.int IntKind.i64 c4, Value.int IntKind.i64 c5, Value.int IntKind.i64 c6] 27) → F1 [Lf.bool true] w2) ∧ (8 < (↑c2n : Int) → ∀ (w3 : World), RowKit.Below
    w.heap.size w w3 → Kept [m1] w w3 → w3.heap[m1]? = some (Obj.cells #[Value.int IntKind.i64 c0, Value.int IntKind.i64 c1, Value.slice c2a c2n c2c, Value.int IntKind.i64 c3,
    Value.int IntKind.i64 c4, Value.int IntKind.i64 c5, Value.int IntKind.i64 c6] 27) → w3.heap[m1]? = some (Obj.cells #[Value.int IntKind.i64 c0, Value.int IntKind.i64 c1,
    Value.slice c2a c2n c2c, Value.int IntKind.i64 c3, Value.int IntKind.i64 c4, Value.int IntKind.i64 c5, Value.int IntKind.i64 c6] 27) → w3.heap[m1]? = some (Obj.cells
    #[Value.int IntKind.i64 c0, Value.int IntKind.i64 c1, Value.slice c2a c2n c2c, Value.int IntKind.i64 c3, Value.int IntKind.i64 c4, Value.int IntKind.i64 c5, Value.int
    IntKind.i64 c6] 27) → F1 [Lf.bool (decide (12 < (↑c2n : Int)))] w3)) ∧ ((↑c2n : Int) ≤ 3 → ∀ (w4 : World), RowKit.Below w.heap.size w w4 → Kept [m1] w w4 → w4.heap[m1]? = some
    (Obj.cells #[Value.int IntKind.i64 c0, Value.int IntKind.i64 c1, Value.slice c2a c2n c2c, Value.int IntKind.i64 c3, Value.int IntKind.i64 c4, Value.int IntKind.i64 c5,
    Value.int IntKind.i64 c6] 27) → w4.heap[m1]? = some (Obj.cells #[Value.int IntKind.i64 c0, Value.int IntKind.i64 c1, Value.slice c2a c2n c2c, Value.int IntKind.i64 c3,
    Value.int IntKind.i64 c4, Value.int IntKind.i64 c5, Value.int IntKind.i64 c6] 27) → F1 [Lf.bool (decide (12 < (↑c2n : Int)))] w4)) ∧ ∀ (t1 : Bool) (w5 : World), RowKit.Below
    w.heap.size w w5 → F1 [Lf.bool t1] w5 → (t1 = true → ∀ (w6 : World), RowKit.Below w.heap.size w w6 → Kept [m1] w5 w6 → Calls Try.prog 12 #[] w6 fun (e1 : Ending) (w7 : World)
    => ∃ (t2 : Bool), e1 = Ending.returned (Value.bool t2) ∧ KeepX true w.heap.size [m1] (fun _ => False) w6 w7 ∧ ∀ (w8 : World), RowKit.Below w.heap.size w w8 → Kept [m1] w7 w8 →
    R (Ending.returned (Value.bool t2)) w8) ∧ (t1 = false → ∀ (w9 : World), RowKit.Below w.heap.size w w9 → Kept [m1] w5 w9 → Calls Try.prog 13 #[Value.agg #[Value.int IntKind.i64
    c0, Value.int IntKind.i64 c1, Value.slice c2a c2n c2c, Value.int IntKind.i64 c3, Value.int IntKind.i64 c4, Value.int IntKind.i64 c5, Value.int IntKind.i64 c6]] w9 fun (e2 :
    Ending) (w10 : World) => ∃ (x3 : Int), ∃ (x4 : Int), ∃ (a1 : Option Addr), ∃ (m14 : Nat), ∃ (m15 : Nat), ∃ (x5 : Int), ∃ (x6 : Int), ∃ (x7 : Int), ∃ (x8 : Int), e2 =
    Ending.returned (Value.agg #[Value.int IntKind.i64 x3, Value.int IntKind.i64 x4, Value.slice a1 m14 m15, Value.int IntKind.i64 x5, Value.int IntKind.i64 x6, Value.int
    IntKind.i64 x7, Value.int IntKind.i64 x8]) ∧ KeepX true w.heap.size [m1] (fun _ => False) w9 w10 ∧ ∀ (m17 : Nat), w10.heap.size ≤ m17 → ∀ (w11 : World), RowKit.Below
    w.heap.size w w11 → Kept [m17, m1] w10 w11 → Calls Try.prog 31 #[Value.agg #[Value.int IntKind.i64 x3, Value.int IntKind.i64 x4, Value.slice a1 m14 m15, Value.int IntKind.i64
    x5, Value.int IntKind.i64 x6, Value.int IntKind.i64 x7, Value.int IntKind.i64 x8], Value.int IntKind.i64 rod] w11 fun (e3 : Ending) (w12 : World) => ∃ (x9 : Int), ∃ (x10 :
    Int), ∃ (x11 : Int), e3 = Ending.returned (Value.tuple #[Value.int IntKind.i64 x9, Value.int IntKind.i64 x10, Value.int IntKind.i64 x11]) ∧ KeepX true w.heap.size [m17, m1]
    (fun _ => False) w11 w12 ∧ ∀ (w13 : World), RowKit.Below w.heap.size w w13 → Kept [m17, m1] w12 w13 → Calls Try.prog 15 #[Value.agg #[Value.int IntKind.i64 c0, Value.int
    IntKind.i64 c1, Value.slice c2a c2n c2c, Value.int IntKind.i64 c3, Value.int IntKind.i64 c4, Value.int IntKind.i64 c5, Value.int IntKind.i64 c6]] w13 fun (e4 : Ending) (w14 :
    World) => ∃ (x12 : Int), e4 = Ending.returned (Value.int IntKind.i64 x12) ∧ KeepX true w.heap.size [m17, m1] (fun _ => False) w13 w14 ∧ ∃ (F2 : List Lf → World → Prop), ((x12 =
    0 → (rod < 0 → ∀ (w16 : World), RowKit.Below w.heap.size w w16 → Kept [m17, m1] w14 w16 → F2 [Lf.bool true] w16) ∧ (0 ≤ rod → ∀ (w17 : World), RowKit.Below w.heap.size w w17 →
    Kept [m17, m1] w14 w17 → w17.heap[m1]? = some (Obj.cells #[Value.int IntKind.i64 c0, Value.int IntKind.i64 c1, Value.slice c2a c2n c2c, Value.int IntKind.i64 c3, Value.int
    IntKind.i64 c4, Value.int IntKind.i64 c5, Value.int IntKind.i64 c6] 27) → F2 [Lf.bool (decide ((↑c2n : Int) ≤ rod))] w17)) ∧ (x12 ≠ 0 → ∀ (w18 : World), RowKit.Below
    w.heap.size w w18 → Kept [m17, m1] w14 w18 → F2 [Lf.bool false] w18)) ∧ ∀ (t3 : Bool) (w19 : World), RowKit.Below w.heap.size w w19 → F2 [Lf.bool t3] w19 → ∃ (F3 : List Lf →
    World → Prop), ((t3 = true → ∀ (w21 : World), RowKit.Below w.heap.size w w21 → Kept [m17, m1] w19 w21 → F3 [Lf.int IntKind.i64 7] w21) ∧ (t3 = false → ∀ (w22 : World),
    RowKit.Below w.heap.size w w22 → Kept [m17, m1] w19 w22 → F3 [Lf.int IntKind.i64 x12] w22)) ∧ ∀ (x14 : Int) (w23 : World), RowKit.Below w.heap.size w w23 → F3 [Lf.int
    IntKind.i64 x14] w23 → ∀ (w24 : World), RowKit.Below w.heap.size w w24 → Kept [m17, m1] w23 w24 → Calls Try.prog 16 #[Value.agg #[Value.int IntKind.i64 x3, Value.int
    IntKind.i64 x4, Value.slice a1 m14 m15, Value.int IntKind.i64 x5, Value.int IntKind.i64 x6, Value.int IntKind.i64 x7, Value.int IntKind.i64 x8], Value.agg #[Value.int
    IntKind.i64 c0, Value.int IntKind.i64 c1, Value.slice c2a c2n c2c, Value.int IntKind.i64 c3, Value.int IntKind.i64 c4, Value.int IntKind.i64 c5, Value.int IntKind.i64 c6]] w24
    fun (e5 : Ending) (w25 : World) => ∃ (t4 : Bool), e5 = Ending.returned (Value.bool t4) ∧ KeepX true w.heap.size [m17, m1] (fun _ => False) w24 w25 ∧ ((!t4) = true → ∀ (w26 :
    World), RowKit.Below w.heap.size w w26 → Kept [m17, m1] w25 w26 → R (Ending.returned (Value.bool false)) w26) ∧ ((!t4) = false → (x14 ≠ 0 → ∃ (F4 : List Lf → World → Prop),
    ((x11 = x14 → (x9 = 0 → (x10 = 0 → ∀ (w28 : World), RowKit.Below w.heap.size w w28 → Kept [m17, m1] w25 w28 → Calls Try.prog 12 #[] w28 fun (e6 : Ending) (w29 : World) => ∃ (t5
    : Bool), e6 = Ending.returned (Value.bool t5) ∧ KeepX true w.heap.size [m17, m1] (fun _ => False) w28 w29 ∧ ∀ (w30 : World), RowKit.Below w.heap.size w w30 → Kept [m17, m1] w29
    w30 → F4 [Lf.bool t5] w30) ∧ (x10 ≠ 0 → ∀ (w31 : World), RowKit.Below w.heap.size w w31 → Kept [m17, m1] w25 w31 → F4 [Lf.bool false] w31)) ∧ (x9 ≠ 0 → ∀ (w32 : World),
    RowKit.Below w.heap.size w w32 → Kept [m17, m1] w25 w32 → F4 [Lf.bool false] w32)) ∧ (x11 ≠ x14 → ∀ (w33 : World), RowKit.Below w.heap.size w w33 → Kept [m17, m1] w25 w33 → F4
    [Lf.bool false] w33)) ∧ ∀ (t6 : Bool) (w34 : World), RowKit.Below w.heap.size w w34 → F4 [Lf.bool t6] w34 → ∀ (w35 : World), RowKit.Below w.heap.size w w35 → Kept [m17, m1] w34
    w35 → R (Ending.returned (Value.bool t6)) w35) ∧ (x14 = 0 → ∀ (w36 : World), RowKit.Below w.heap.size w w36 → Kept [m17, m1] w25 w36 → Calls Try.prog 32 #[Value.agg #[Value.int
    IntKind.i64 c0, Value.int IntKind.i64 c1, Value.slice c2a c2n c2c, Value.int IntKind.i64 c3, Value.int IntKind.i64 c4, Value.int IntKind.i64 c5, Value.int IntKind.i64 c6],
    Value.int IntKind.i64 rod] w36 fun (e7 : Ending) (w37 : World) => ∃ (x15 : Int), ∃ (x16 : Int), e7 = Ending.returned (Value.tuple #[Value.int IntKind.i64 x15, Value.int
    IntKind.i64 x16]) ∧ KeepX true w.heap.size [m17, m1] (fun _ => False) w36 w37 ∧ ∃ (F5 : List Lf → World → Prop), ((x11 = 0 → (x9 = x15 → (x10 = x16 → ∀ (w39 : World),
    RowKit.Below w.heap.size w w39 → Kept [m17, m1] w37 w39 → Calls Try.prog 12 #[] w39 fun (e8 : Ending) (w40 : World) => ∃ (t7 : Bool), e8 = Ending.returned (Value.bool t7) ∧
    KeepX true w.heap.size [m17, m1] (fun _ => False) w39 w40 ∧ ∀ (w41 : World), RowKit.Below w.heap.size w w41 → Kept [m17, m1] w40 w41 → F5 [Lf.bool t7] w41) ∧ (x10 ≠ x16 → ∀
    (w42 : World), RowKit.Below w.heap.size w w42 → Kept [m17, m1] w37 w42 → F5 [Lf.bool false] w42)) ∧ (x9 ≠ x15 → ∀ (w43 : World), RowKit.Below w.heap.size w w43 → Kept [m17, m1]
    w37 w43 → F5 [Lf.bool false] w43)) ∧ (x11 ≠ 0 → ∀ (w44 : World), RowKit.Below w.heap.size w w44 → Kept [m17, m1] w37 w44 → F5 [Lf.bool false] w44)) ∧ ∀ (t8 : Bool) (w45 :
    World), RowKit.Below w.heap.size w w45 → F5 [Lf.bool t8] w45 → ∀ (w46 : World), RowKit.Below w.heap.size w w46 → Kept [m17, m1] w45 w46 → R (Ending.returned (Value.bool t8))
    w46)))) : Calls Try.prog 6 #[Value.agg #[Value.int IntKind.i64 c0, Value.int IntKind.i64 c1, Value.slice c2a c2n c2c, Value.int IntKind.i64 c3, Value.int IntKind.i64 c4,
    Value.int IntKind.i64 c5, Value.int IntKind.i64 c6], Value.int IntKind.i64 rod] w R := calls_of_vcj (pure := true) (wrapAt := []) (muts := []) (esc := []) (joins := [(2000001,
    [(27, 4)]), (2000006, [(52, 4)]), (52, [(9, 35)]), (2000011, [(4, 4)]), (2000013, [(4, 4)])]) (args := [SV.pv (PV.agg [Lf.int IntKind.i64 c0, Lf.int IntKind.i64 c1, Lf.sl c2a
    c2n c2c, Lf.int IntKind.i64 c3, Lf.int IntKind.i64 c4, Lf.int IntKind.i64 c5, Lf.int IntKind.i64 c6]), SV.pv (PV.one (Lf.int IntKind.i64 rod))]) (vs := [Value.agg #[Value.int
    IntKind.i64 c0, Value.int IntKind.i64 c1, Value.slice c2a c2n c2c, Value.int IntKind.i64 c3, Value.int IntKind.i64 c4, Value.int IntKind.i64 c5, Value.int IntKind.i64 c6],
    Value.int IntKind.i64 rod]) Try.func6 rfl rfl rfl (Eq.mp (by kernel_rfl) h) 
end Go.Proofs
end
section
/- The reference's Sums and Balance. -/
namespace Go.Proofs.R03
open Go.Vc Go.RowKit Go.Proofs

def loG (r : Rod) : Int := if r.up then r.hi else r.lo
def hiG (r : Rod) : Int := if r.up then r.lo else r.hi
theorem loG_C (r : Rod) : sgn r * (r.len * loG r) = loC r := by unfold loG loC sgn; split <;> omega
theorem hiG_C (r : Rod) : sgn r * (r.len * hiG r) = hiC r := by unfold hiG hiC sgn; split <;> omega
theorem sumT_map {f g : Rod → Int} (h : ∀ r, sgn r * (r.len * f r) = g r) (l : List Rod) : ∀ n, n ≤ l.length → sumT l (l.map f) n = sumF g (l.take n)
  | 0, _ => rfl
  | n + 1, hn => by
    have hx : n < l.length := by omega
    unfold sumT
    rw [sumT_map h l n (by omega), sumF_take g l hx, List.getElem?_map, getElem_of_lt hx]
    simp only [Option.map_some]
    rw [h]
theorem map_take_step (f : Rod → Int) (l : List Rod) {n : Nat} (h : n < l.length) : (l.take (n + 1)).map f = (l.take n).map f ++ [f l[n]] := by
  rw [List.take_add_one, getElem_of_lt h, List.map_append]; rfl

def blkOf : Option Addr → List Nat
  | some ad => [ad.block]
  | none => []
set_option maxHeartbeats 2000000 in
theorem rsums_any (c : Clk) {ra : Option Addr} {rc : Nat} {w : World} (hc : Cells w ra (rods c.rods)) (hl : c.rods.length ≤ 1000) (hr : ∀ r ∈ c.rods, 1 ≤ r.len ∧ r.len ≤ 100000) (hg : ∀ r ∈ c.rods, (-40000 ≤ r.lo ∧ r.lo ≤ 40000) ∧ (-40000 ≤ r.hi ∧ r.hi ≤ 40000)) :
    Calls Try.prog 68 #[c.v ra rc] w (Pure w (spv (sumF loC c.rods, sumF hiC c.rods))) := by
  refine vc68 _ _ _ _ _ _ _ _ _ w _ fun m1 h1 m2 h2 m3 h3 m4 h4 => ?_
  refine ⟨fun ls w' => match ls with | [.sl a n g, .sl a' n' g', .int _ i] => 0 ≤ i ∧ i ≤ c.rods.length ∧ n = i.toNat ∧ n' = i.toNat ∧ (∀ y ∈ [m2, m1], y < w'.heap.size) ∧ (∃ B, RowE 3 1 w.heap.size [m2, m1] a n g (ints ((c.rods.take i.toNat).map loG)) w' ∧ RowE 3 1 w.heap.size [m2, m1] a' n' g' (ints ((c.rods.take i.toNat).map hiG)) w' ∧ B = 0) ∧ (∀ b o b' o', n ≠ 0 → a = some ⟨b, o, none⟩ → a' = some ⟨b', o', none⟩ → b ≠ b') ∧ (n = 0 → (∃ b0, a = some ⟨b0, 0, none⟩ ∧ g = 0) ∧ ∃ b0, a' = some ⟨b0, 0, none⟩ ∧ g' = 0) | _ => False,
    fun ls => match ls with | [_, _, .int _ i] => (c.rods.length - i).toNat | _ => 0, fun w2 hb2 hk2 _ _ => ⟨by omega, by omega, rfl, rfl, fun y hy => hk2.own y (by simp at hy ⊢; omega), ⟨0, RowE.lit, RowE.lit, rfl⟩, fun b o b' o' h => absurd rfl h, fun _ => ⟨⟨m3, rfl, rfl⟩, ⟨m4, rfl, rfl⟩⟩⟩, ?_⟩
  rintro a n g a' n' g' i w3 hb3 ⟨i0, il, rfl, rfl, ho3, ⟨_, R, R', _⟩, hne, hlit⟩
  have z3 := hb3.size
  refine ⟨fun hi => ?_, fun hi w14 hb14 hk14 => ?_⟩
  · have hix : i.toNat < c.rods.length := by omega
    obtain ⟨b1, o1, e1, hlt, c1, c2, c3, c4⟩ := rods_at hc (getElem_of_lt hix)
    have st1 := map_take_step loG c.rods hix
    have st2 := map_take_step hiG c.rods hix
    generalize c.rods[i.toNat] = r at *
    refine ⟨b1, o1, e1, ⟨i0, hi⟩, _, _, cell_keep hb3 c2, cell_keep hb3 c3, .inl hlt, fun m13 h13 => ⟨b1, o1, e1, ⟨i0, hi⟩, _, cell_keep hb3 c4, .inl hlt, ?_⟩⟩
    -- both ways alike
    have main : ∀ (x y : Int) (ms : List Nat), x = loG r → y = hiG r → (∀ z ∈ ms, w3.heap.size ≤ z ∨ z ∈ [m2, m1]) → (∀ z ∈ [m2, m1], z ∈ ms) → ∀ (m16 : Nat), w3.heap.size ≤ m16 → ∀ (w4 : World), Below w.heap.size w w4 → KeptIn [(0, w3.heap.size)] (m16 :: ms) w3 w4 → w4.heap[m16]? = some (Obj.cells #[I x] 3 (0, 0)) →
        RunsTo Try.prog (Builtin.append_ #[28, 28] 28 #[.slice a i.toNat g, .slice (some ⟨m16, 0, none⟩) 1 1]) w4 fun v1 w5 => ∃ a3 m18 m19, v1 = .slice a3 m18 m19 ∧ KeepX true w.heap.size (m16 :: ms) (fun k => False ∨ w3.heap.size ≤ k ∧ k < w4.heap.size) w4 w5 ∧
          ∀ m21, w3.heap.size ≤ m21 → (m21 < w4.heap.size ∨ w5.heap.size ≤ m21) → ∀ w6, Below w.heap.size w w6 → KeptIn [(0, w3.heap.size), (w4.heap.size, w5.heap.size)] (m21 :: m16 :: ms) w5 w6 → w6.heap[m21]? = some (Obj.cells #[I y] 3 (0, 0)) →
          RunsTo Try.prog (Builtin.append_ #[28, 28] 28 #[.slice a' i.toNat g', .slice (some ⟨m21, 0, none⟩) 1 1]) w6 fun v2 w7 => ∃ a4 m23 m24, v2 = .slice a4 m23 m24 ∧ KeepX true w.heap.size (m21 :: m16 :: ms) (fun _ => False) w6 w7 ∧ (-9223372036854775808 ≤ i + 1 ∧ i + 1 ≤ 9223372036854775807) ∧
          ∀ w8, Below w.heap.size w w8 → Kept (m21 :: m16 :: ms) w7 w8 → (0 ≤ i + 1 ∧ i + 1 ≤ c.rods.length ∧ m18 = (i + 1).toNat ∧ m23 = (i + 1).toNat ∧ (∀ y ∈ [m2, m1], y < w8.heap.size) ∧ (∃ B, RowE 3 1 w.heap.size [m2, m1] a3 m18 m19 (ints ((c.rods.take (i + 1).toNat).map loG)) w8 ∧ RowE 3 1 w.heap.size [m2, m1] a4 m23 m24 (ints ((c.rods.take (i + 1).toNat).map hiG)) w8 ∧ B = 0) ∧ (∀ b o b' o', m18 ≠ 0 → a3 = some ⟨b, o, none⟩ → a4 = some ⟨b', o', none⟩ → b ≠ b') ∧ (m18 = 0 → (∃ b0, a3 = some ⟨b0, 0, none⟩ ∧ m19 = 0) ∧ ∃ b0, a4 = some ⟨b0, 0, none⟩ ∧ m24 = 0)) ∧ ((c.rods.length : Int) - (i + 1)).toNat < ((c.rods.length : Int) - i).toNat := by
      intro x y ms hx hy hms hms2 m16 h16 w4 hb4 hk4 hc4
      have z4 := hk4.size
      have o4 := hk4.own
      -- where the rows lie
      have hrows : (i.toNat = 0 ∧ (∃ b0, a = some ⟨b0, 0, none⟩) ∧ g = 0 ∧ (∃ b0, a' = some ⟨b0, 0, none⟩) ∧ g' = 0) ∨ (i.toNat ≠ 0 ∧ Row 3 1 w.heap.size [m2, m1] a i.toNat g (ints ((c.rods.take i.toNat).map loG)) w3 ∧ Row 3 1 w.heap.size [m2, m1] a' i.toNat g' (ints ((c.rods.take i.toNat).map hiG)) w3) := by
        by_cases h0 : i.toNat = 0
        · obtain ⟨⟨p, h1, h2⟩, q, h3, h4⟩ := hlit h0
          exact .inl ⟨h0, ⟨p, h1⟩, h2, ⟨q, h3⟩, h4⟩
        · refine .inr ⟨h0, ?_, ?_⟩
          · rcases R with ⟨_, h, _⟩ | h
            · exact absurd h h0
            · exact h
          · rcases R' with ⟨_, h, _⟩ | h
            · exact absurd h h0
            · exact h
      obtain ⟨ns, hns⟩ : ∃ ns : List Nat, ns = (if i.toNat = 0 then [] else blkOf a') ++ (List.range' w3.heap.size (w4.heap.size - w3.heap.size) ++ m16 :: ms) := ⟨_, rfl⟩
      have hnsm : ∀ z ∈ m16 :: ms, z ∈ ns := fun z hz => by rw [hns]; exact List.mem_append_right _ (List.mem_append_right _ hz)
      have hnsk : ∀ k, w3.heap.size ≤ k → k < w4.heap.size → k ∈ ns := fun k h1 h2 => by
        rw [hns]
        refine List.mem_append_right _ (List.mem_append_left _ ?_)
        rw [List.mem_range'_1]; omega
      have hnslt : ∀ z ∈ ns, z < w4.heap.size := fun z hz => by
        rw [hns] at hz
        rcases List.mem_append.1 hz with hz | hz
        · split at hz
          · simp at hz
          · rename_i h0
            rcases hrows with ⟨h, _⟩ | ⟨_, _, h⟩
            · exact absurd h h0
            · rcases h.own.2 with ⟨e1, e2⟩ | ⟨b2, _, _, he, _⟩
              · exact absurd e2 h0
              · cases he
                simp [blkOf] at hz
                have := (h.lt b2 0 rfl).2
                omega
        · rcases List.mem_append.1 hz with hz | hz
          · rw [List.mem_range'_1] at hz; omega
          · exact o4 z hz
      have hK4 : ∀ z ∈ m16 :: ms, w3.heap.size ≤ z ∨ z ∈ [m2, m1] := fun z hz => by
        rcases List.mem_cons.1 hz with rfl | hz
        · exact .inl h16
        · exact hms z hz
      have low : ∀ {b : Nat}, b < w3.heap.size → b ∉ [m2, m1] → b ∉ m16 :: ms := fun {b} h1 h2 h3 => by
        rcases hK4 b h3 with h | h
        · omega
        · exact h2 h
      have hRE : RowE 3 1 w.heap.size ns a i.toNat g (ints ((c.rods.take i.toNat).map loG)) w4 := by
        rcases hrows with ⟨h0, ⟨b0, rfl⟩, rfl, _⟩ | ⟨h0, h, h'⟩
        · rw [h0]; exact RowE.lit
        · refine .inr ⟨(h.of (w' := w4) fun b o e => hk4.chg.keep b (h.lt b o e).2 (low (h.lt b o e).2 (h.ns b o e))).own, fun b o e hm => ?_⟩
          have hlt := (h.lt b o e).2
          rw [hns, if_neg h0] at hm
          rcases List.mem_append.1 hm with hm | hm
          · rcases h'.own.2 with ⟨e1, e2⟩ | ⟨b2, _, _, he, _⟩
            · exact absurd e2 h0
            · cases he
              simp [blkOf] at hm
              exact hne b o b2 0 h0 e rfl hm
          · rcases List.mem_append.1 hm with hm | hm
            · rw [List.mem_range'_1] at hm; omega
            · exact low hlt (h.ns b o e) hm
      refine append_rowE (P := Try.prog) (bytes := 8) (by kernel_rfl) (by omega) hRE (m := 1) (news := ints [x]) (Cells.obj (vs := [I _]) hc4) rfl (by simp [ints] <;> rfl) (by omega) (by omega) hb4.size hnslt (by omega) fun a3 g3 w5 R5 S cS hS => ?_
      have z5 := cS.size
      obtain ⟨b3, rfl⟩ : ∃ b3, a3 = some ⟨b3, 0, none⟩ := by
        rcases R5.own.2 with ⟨_, e2⟩ | ⟨b2, _, _, he, _⟩
        · omega
        · cases he; exact ⟨b2, rfl⟩
      have hb3 := R5.lt b3 0 rfl
      have hn3 := R5.ns b3 0 rfl
      refine ⟨_, _, g3, rfl, cS.own (fun b hb => ⟨o4 b hb, fun hh => (hS b hh).2 (hnsm b hb)⟩) (fun b hb => by
        rcases hb with hb | hb
        · exact hb.elim
        · exact ⟨hb.2, fun hh => (hS b hh).2 (hnsk b hb.1 hb.2)⟩) (fun _ => ⟨hb4.size, fun b hb => (hS b hb).1⟩), fun m21 h21 d21 w6 hb6 hk6 hc6 => ?_⟩
      have z6 := hk6.size
      have o6 := hk6.own
      -- the other row, there
      have hRE' : RowE 3 1 w.heap.size (b3 :: m21 :: m16 :: ms) a' i.toNat g' (ints ((c.rods.take i.toNat).map hiG)) w6 := by
        rcases hrows with ⟨h0, _, _, ⟨b0, rfl⟩, rfl⟩ | ⟨h0, h, h'⟩
        · rw [h0]; exact RowE.lit
        · obtain ⟨b', rfl⟩ : ∃ b', a' = some ⟨b', 0, none⟩ := by
            rcases h'.own.2 with ⟨_, e2⟩ | ⟨b2, _, _, he, _⟩
            · exact absurd e2 h0
            · cases he; exact ⟨b2, rfl⟩
          have hlt := (h'.lt b' 0 rfl).2
          have hnn := h'.ns b' 0 rfl
          have hl := low hlt hnn
          have hbn : b' ∈ ns := by rw [hns, if_neg h0]; exact List.mem_append_left _ (by simp [blkOf])
          refine .inr ⟨(h'.of (w' := w6) fun b o e => by
            cases e
            have k1 := hk4.chg.keep b' hlt hl
            have k2 := cS.keep b' (by omega) (fun hm => (hS b' hm).2 hbn)
            have k3 := hk6.block b' (by omega) (fun hm => by
              rcases List.mem_cons.1 hm with rfl | hm
              · omega
              · exact hl hm) ⟨_, List.mem_cons_self, Nat.zero_le _, hlt⟩
            rw [k3, k2, k1]).own, fun b o e hm => ?_⟩
          cases e
          rcases List.mem_cons.1 hm with rfl | hm
          · exact hn3 hbn
          · rcases List.mem_cons.1 hm with rfl | hm
            · omega
            · exact hl hm
      have R6 : Row 3 1 w.heap.size ns (some ⟨b3, 0, none⟩) (i.toNat + 1) g3 (ints ((c.rods.take i.toNat).map loG) ++ ints [x]) w6 := R5.of fun b o e => by
        cases e
        refine hk6.block b3 hb3.2 (fun hm => ?_) ?_
        · rcases List.mem_cons.1 hm with rfl | hm
          · rcases d21 with h | h
            · exact hn3 (hnsk _ h21 h)
            · omega
          · exact hn3 (hnsm b3 hm)
        · by_cases h : b3 < w3.heap.size
          · exact ⟨_, List.mem_cons_self, Nat.zero_le _, h⟩
          · refine ⟨(w4.heap.size, w5.heap.size), by simp, ?_, hb3.2⟩
            show w4.heap.size ≤ b3
            exact Nat.le_of_not_lt fun h2 => hn3 (hnsk b3 (by omega) h2)
      refine append_rowE (P := Try.prog) (bytes := 8) (by kernel_rfl) (by omega) hRE' (m := 1) (news := ints [y]) (Cells.obj (vs := [I _]) hc6) rfl (by simp [ints] <;> rfl) (by omega) (by omega) hb6.size (fun z hz => by
        rcases List.mem_cons.1 hz with rfl | hz
        · omega
        · exact o6 z hz) (by omega) fun a4 g4 w7 R7 S2 cS2 hS2 => ?_
      refine ⟨_, _, g4, rfl, cS2.own (fun b hb => ⟨o6 b hb, fun hh => (hS2 b hh).2 (List.mem_cons_of_mem _ hb)⟩) (by simp) (fun _ => ⟨hb6.size, fun b hb => (hS2 b hb).1⟩), by omega, fun w8 hb8 hk8 => ⟨⟨by omega, by omega, by omega, by omega, fun z hz => hk8.own z (List.mem_cons_of_mem _ (List.mem_cons_of_mem _ (hms2 z hz))), ⟨0, ?_, ?_, rfl⟩, ?_, fun h => by omega⟩, by omega⟩⟩
      · have hb3m : b3 ∉ m21 :: m16 :: ms := fun hm => by
          rcases List.mem_cons.1 hm with rfl | hm
          · rcases d21 with h | h
            · exact hn3 (hnsk _ h21 h)
            · omega
          · exact hn3 (hnsm b3 hm)
        have R7' := R6.of (w' := w7) fun b o e => by
          cases e
          exact cS2.keep b3 (by omega) (fun hm => (hS2 b3 hm).2 List.mem_cons_self)
        have z7 := cS2.size
        have R8 := R7'.of (w' := w8) fun b o e => by
          cases e
          exact hk8.block b3 (by omega) hb3m
        rw [show (i + 1).toNat = i.toNat + 1 by omega, st1, ints_app, ← hx]
        exact .inr (R8.less fun z hz => hnsm z (List.mem_cons_of_mem _ (hms2 z hz)))
      · have R8 := R7.chg (Chg.kept hk8) (fun z hz => List.mem_cons_of_mem _ hz)
        rw [show (i + 1).toNat = i.toNat + 1 by omega, st2, ints_app, ← hy]
        exact .inr (R8.less fun z hz => List.mem_cons_of_mem _ (List.mem_cons_of_mem _ (List.mem_cons_of_mem _ (hms2 z hz))))
      · intro b o b' o' _ e1 e2 hbb
        cases e1
        exact R7.ns b' o' e2 (by rw [← hbb]; exact List.mem_cons_self)
    exact ⟨fun hu m16 h16 w4 hb4 hk4 hc4 => main _ _ [m13, m2, m1] (by unfold loG; rw [if_pos hu]) (by unfold hiG; rw [if_pos hu]) (by simp; omega) (by simp) m16 h16 w4 hb4 hk4 hc4, fun hu m16 h16 w4 hb4 hk4 hc4 => main _ _ [m13, m2, m1] (by unfold loG; rw [if_neg (by rw [hu]; decide)]) (by unfold hiG; rw [if_neg (by rw [hu]; decide)]) (by simp; omega) (by simp) m16 h16 w4 hb4 hk4 hc4⟩
  · have hi' : i.toNat = c.rods.length := by omega
    rw [hi', List.take_length] at R R'
    have hgl : (c.rods.map loG).length = c.rods.length := List.length_map ..
    have hgh : (c.rods.map hiG).length = c.rods.length := List.length_map ..
    have C14 := (R.chg hk14.chg fun y hy => hy).cells
    have R14 := R'.chg hk14.chg fun y hy => hy
    rw [hi']
    have b1 : ∀ x ∈ c.rods.map loG, -40000 ≤ x ∧ x ≤ 40000 := fun x hx => by
      obtain ⟨r, h, rfl⟩ := List.mem_map.1 hx
      have := hg r h
      unfold loG; split <;> omega
    have b2 : ∀ x ∈ c.rods.map hiG, -40000 ≤ x ∧ x ≤ 40000 := fun x hx => by
      obtain ⟨r, h, rfl⟩ := List.mem_map.1 hx
      have := hg r h
      unfold hiG; split <;> omega
    have k1 := rsum_any c (n := rc) (g := c.rods.map loG) (gc := g) (hc.keep hb14) C14 hgl hl hr b1
    rw [hgl] at k1
    refine Pure.calls k1 fun w15 hb15 => ⟨_, rfl, .all hb15, fun w16 hb16 hk16 => ?_⟩
    have C16 := ((R14.below hb15).chg hk16.chg fun y hy => hy).cells
    have k2 := rsum_any c (n := rc) (g := c.rods.map hiG) (gc := g') (hc.keep hb16) C16 hgh hl hr b2
    rw [hgh] at k2
    refine Pure.calls k2 fun w17 hb17 => ⟨_, rfl, .all hb17, fun w18 hb18 _ => ⟨?_, hb18⟩⟩
    rw [sumT_map loG_C c.rods _ (Nat.le_refl _), sumT_map hiG_C c.rods _ (Nat.le_refl _), List.take_length]
end Go.Proofs.R03
end
section
/- The reference's Balance; BeatBalances. -/
namespace Go.Proofs.R03
open Go.Vc Go.RowKit Go.Proofs

def CutOk (c : Clk) (i : Nat) (m : Int) : Prop := (1 ≤ m ∧ m ≤ 100000) ∧ LenOk (cutL c i m)
/-- The best one of the lengths below n. -/
def BestN (c : Clk) (i : Nat) (n best least : Int) : Prop :=
  (best = 0 ∧ ∀ m, m < n → ¬CutOk c i m) ∨ (best ≠ 0 ∧ CutOk c i best ∧ best < n ∧ least = effC c i best ∧ ∀ m, m < n → CutOk c i m → (m < best → effC c i best < effC c i m) ∧ (best < m → effC c i best ≤ effC c i m))
theorem BestN.skip {c : Clk} {i : Nat} {n best least : Int} (h : BestN c i n best least) (hn : ¬CutOk c i n) : BestN c i (n + 1) best least := by
  rcases h with ⟨h1, h2⟩ | ⟨h1, h2, h3, h4, h5⟩
  · exact .inl ⟨h1, fun m hm => by
      by_cases e : m = n
      · rw [e]; exact hn
      · exact h2 m (by omega)⟩
  · exact .inr ⟨h1, h2, by omega, h4, fun m hm hv => by
      by_cases e : m = n
      · rw [e] at hv; exact absurd hv hn
      · exact h5 m (by omega) hv⟩
theorem BestN.first {c : Clk} {i : Nat} {n best least : Int} (h : BestN c i n best least) (hv : CutOk c i n) (hb : best = 0) : BestN c i (n + 1) n (effC c i n) := by
  rcases h with ⟨_, h2⟩ | ⟨h1, _⟩
  · exact .inr ⟨by have := hv.1; omega, hv, by omega, rfl, fun m hm hm2 => by
      by_cases e : m = n
      · subst e; exact ⟨fun h => by omega, fun h => by omega⟩
      · exact absurd hm2 (h2 m (by omega))⟩
  · exact absurd hb h1
theorem BestN.take {c : Clk} {i : Nat} {n best least : Int} (h : BestN c i n best least) (hv : CutOk c i n) (hb : best ≠ 0) (hl : effC c i n < least) : BestN c i (n + 1) n (effC c i n) := by
  rcases h with ⟨h1, _⟩ | ⟨h1, h2, h3, h4, h5⟩
  · exact absurd h1 hb
  · refine .inr ⟨by have := hv.1; omega, hv, by omega, rfl, fun m hm hm2 => ?_⟩
    by_cases e : m = n
    · subst e; exact ⟨fun h => by omega, fun h => by omega⟩
    · have := h5 m (by omega) hm2
      refine ⟨fun _ => ?_, fun h => by omega⟩
      by_cases e2 : m = best
      · rw [e2]; omega
      · omega
theorem BestN.leave {c : Clk} {i : Nat} {n best least : Int} (h : BestN c i n best least) (hb : best ≠ 0) (hl : least ≤ effC c i n) : BestN c i (n + 1) best least := by
  rcases h with ⟨h1, _⟩ | ⟨h1, h2, h3, h4, h5⟩
  · exact absurd h1 hb
  · refine .inr ⟨h1, h2, by omega, h4, fun m hm hm2 => ?_⟩
    by_cases e : m = n
    · subst e; exact ⟨fun h => by omega, fun _ => by omega⟩
    · exact h5 m (by omega) hm2

set_option maxHeartbeats 2000000 in
theorem rbalance_any {c : Clk} (hk : check c = 0) {i : Nat} (hi : i < c.rods.length) {ra : Option Addr} {rc : Nat} {w : World} (hc : Cells w ra (rods c.rods)) : Calls Try.prog 32 #[c.v ra rc, I (i : Int)] w fun e w' => ∃ best least, e = .returned (.tuple #[I best, I least]) ∧ Below w.heap.size w w' ∧ BestN c i 100001 best least := by
  obtain ⟨h8, hrn, hrod, hlen, hbase, hair, hdr⟩ := check_len hk
  refine vc32 _ _ _ _ _ _ _ _ _ _ w _ fun m1 h1 m2 h2 w1 hb1 hk1 hc1 => ?_
  have own1 := hk1.own
  refine append_copy (P := Try.prog) (e := 80) (size := 4) (bytes := 32) (by kernel_rfl) (by omega) (hc.keep hb1) (rods_len c.rods) (by omega) (by omega) (fun a' c' w2 hb2 _ _ _ hrow => ⟨a', _, c', rfl, .all hb2, ?_⟩)
  have R2 : Row 80 4 w1.heap.size [] a' c.rods.length c' (rods c.rods) w2 := by
    rcases hrow with h | h
    · omega
    · exact h
  obtain ⟨g, rfl, hg, W2⟩ := WRow.row (.inr R2) (by omega)
  have z1 := hb1.size; have z2 := hb2.size
  have nG : g ∉ [m2, m1] := fun hm => by have := own1 g hm; omega
  have hrl := (hrod _ (List.getElem_mem hi)).1
  generalize hold : c.rods[i].len = old at *
  have hinit : rods c.rods = rods (cutL c i old) := by rw [← hold, cut_self hi]
  refine ⟨fun ls w' => match ls with | [.int _ best, .int _ least, .int _ n] => 1 ≤ n ∧ n ≤ 100001 ∧ BestN c i n best least ∧ ∃ l, WRow 80 g (rods (cutL c i l)) w' | _ => False, fun ls => match ls with | [_, _, .int _ n] => (100001 - n).toNat | _ => 0,
    fun w4 hb4 hk4 => ⟨by omega, by omega, .inl ⟨rfl, fun m hm hv => by have := hv.1; omega⟩, old, by rw [← hinit]; exact W2.chg (Chg.kept hk4) nG⟩, ?_⟩
  rintro best least n w5 hb5 ⟨n1, n2, hB, l, W5⟩
  refine ⟨fun hn => ⟨g, 0, rfl, ⟨by omega, by omega⟩, fun w6 hb6 hk6 => ?_⟩, fun hn w17 hb17 _ => ⟨_, _, rfl, hb17, by rw [show (100001 : Int) = n by omega]; exact hB⟩⟩
  have W6 := W5.chg (Chg.kept hk6) nG
  have hil : i < (cutC c i l).rods.length := by show i < (cutL c i l).length; rw [cutL_len]; exact hi
  refine store_len (c := cutC c i l) W6 hil n (by omega) fun w7 W7 c7 => ?_
  rw [cut_cut _ _ _ _ hi] at W7
  have hcl : (cutC c i n).rods.length ≤ 1000 := by show (cutL c i n).length ≤ _; rw [cutL_len]; omega
  have hlens : ∀ r ∈ (cutC c i n).rods, 1 ≤ r.len ∧ r.len ≤ 100000 := fun r hr => by
    rcases cut_mem hr hi with hr | rfl
    · exact (hrod r hr).1
    · exact ⟨n1, hn⟩
  have hgr : ∀ r ∈ (cutC c i n).rods, (-40000 ≤ r.lo ∧ r.lo ≤ 40000) ∧ (-40000 ≤ r.hi ∧ r.hi ≤ 40000) := fun r hr => by
    rcases cut_mem hr hi with hr | rfl
    · have := (hrod r hr).2; simp only [okS] at this; omega
    · have := (hrod _ (List.getElem_mem hi)).2; simp only [okS] at this; simp only; omega
  refine ⟨c7.own (fun x hx => ⟨hk6.own x hx, fun h => by rw [List.mem_singleton.1 h] at hx; exact nG hx⟩) (by simp) (fun _ => ⟨hb6.size, fun x hx => by rw [List.mem_singleton.1 hx]; omega⟩), fun w8 hb8 hk8 => ?_⟩
  have W8 := W7.chg (Chg.kept hk8) nG
  have hcall := rlength_any (cutC c i n) (n := c') W8.cells hcl hlens
  rw [← cut_v] at hcall
  refine Pure.calls hcall fun w9 hb9 => ⟨_, rfl, .all hb9, ?_⟩
  have W9 := W8.below hb9
  have hdec : (100001 - (n + 1)).toNat < (100001 - n).toNat := by omega
  have hlc : lenC (cutC c i n).rods = lenC (cutL c i n) := rfl
  refine ⟨fun hlt => ⟨by omega, fun w10 hb10 hk10 => ⟨⟨by omega, by omega, hB.skip fun h => by have := h.2.1; omega, n, W9.chg (Chg.kept hk10) nG⟩, hdec⟩⟩, fun hge => ⟨fun hlt => ⟨by omega, fun w11 hb11 hk11 => ⟨⟨by omega, by omega, hB.skip fun h => by have := h.2.2; omega, n, W9.chg (Chg.kept hk11) nG⟩, hdec⟩⟩, fun hle w12 hb12 hk12 => ?_⟩⟩
  have hv : CutOk c i n := ⟨⟨n1, hn⟩, ⟨hge, hle⟩⟩
  have W12 := W9.chg (Chg.kept hk12) nG
  have hcall2 := rsums_any (cutC c i n) (rc := c') W12.cells hcl hlens hgr
  rw [← cut_v] at hcall2
  have hE : max (sumF hiC (cutC c i n).rods) (0 - sumF loC (cutC c i n).rods) = effC c i n := (effC_L hk hi (n := n) (by omega)).symm
  have hbd := effC_bd hk hi (n := n) hv.1 hv.2
  have hslo := sumF_bd (f := loC) (l := (cutC c i n).rods) (A := 4000000000) fun r hr => by
    have g0 := hlens r hr; have g1 := hgr r hr
    have e1 := mul_bd (a := r.len) (b := r.lo) (A := 100000) (B := 40000) (by omega) (by omega)
    have e2 := mul_bd (a := r.len) (b := r.hi) (A := 100000) (B := 40000) (by omega) (by omega)
    unfold loC; split <;> omega
  have hcl2 : (((cutC c i n).rods.length : Nat) : Int) ≤ 1000 := by omega
  refine Pure.calls hcall2 fun w13 hb13 => ⟨_, _, rfl, .all hb13, fun m12 h12 => ⟨by have hh := hslo; clear hgr hlens hrn hrod; omega, ?_⟩⟩
  have W13 := W12.below hb13
  have hglt := W12.lt
  have z13 := hb13.size
  have nG3 : g ∉ [m2, m12, m1] := fun hm => by
    simp only [List.mem_cons, List.not_mem_nil, or_false] at hm nG
    omega
  simp only [hE]
  exact ⟨fun h0 => ⟨by omega, fun w14 hb14 hk14 => ⟨⟨by omega, by omega, hB.first hv h0, n, W13.chg (Chg.kept hk14) nG3⟩, hdec⟩⟩, fun h0 => ⟨fun hlt => ⟨by omega, fun w15 hb15 hk15 => ⟨⟨by omega, by omega, hB.take hv h0 hlt, n, W13.chg (Chg.kept hk15) nG3⟩, hdec⟩⟩, fun hle => ⟨by omega, fun w16 hb16 hk16 => ⟨⟨by omega, by omega, hB.leave h0 hle, n, W13.chg (Chg.kept hk16) nG3⟩, hdec⟩⟩⟩⟩
end Go.Proofs.R03
end
section
/- BeatBalances. -/
namespace Go.Proofs.R03
open Go.Vc Go.RowKit Go.Proofs

/-- The best length is the one that its neighbours do not better. -/
theorem best_bal {c : Clk} (hk : check c = 0) {i : Nat} (hi : i < c.rods.length) {best least n : Int} (hB : BestN c i 100001 best least) (h : BalS c i n) : n = best ∧ effC c i n = least := by
  rcases hB with ⟨_, h2⟩ | ⟨h1, h2, h3, h4, h5⟩
  · exact absurd ⟨h.bd, h.ok⟩ (h2 n (by have := h.bd; omega))
  · have e := bal_first hk hi h h2.1 h2.2
    have f := h5 n (by have := h.bd; omega) ⟨h.bd, h.ok⟩
    have : n = best := by
      by_cases e2 : n = best
      · exact e2
      · exfalso; omega
    subst this
    exact ⟨rfl, h4.symm⟩

set_option maxHeartbeats 2000000 in
theorem balances_any (c : Clk) (rod : Int) {ra : Option Addr} {rc : Nat} {w : World} (hc : Cells w ra (rods c.rods)) : Calls Try.prog 6 #[c.v ra rc, I rod] w (Pure w (.bool true)) := by
  refine vc6 _ _ _ _ _ _ _ _ _ _ w _ fun m1 h1 => ?_
  refine ⟨fun ls _ => match ls with | [.bool t] => t = false → c.rods.length ≤ 12 | _ => False, ⟨fun g1 => ⟨fun g2 w2 _ _ _ _ h => (by cases h), fun g2 w3 _ _ _ _ _ h => by simp at h; omega⟩, fun g1 w4 _ _ _ _ h => by omega⟩, ?_⟩
  rintro t1 w5 hb5 hF
  refine ⟨fun _ w6 hb6 _ => Pure.calls (known_any w6) fun w7 hb7 => ⟨true, rfl, .all hb7, fun w8 hb8 _ => ⟨rfl, hb8⟩⟩, fun hf w9 hb9 hk9 => ?_⟩
  have hn := hF hf
  have o9 := hk9.own
  refine (copied_l c (hc.keep hb9) (by omega)).mono fun e w10 he => ?_
  obtain ⟨aC, nC, rfl, hb10, C10⟩ := he
  have z10 := hb10.size
  refine ⟨_, _, _, _, _, _, _, _, _, rfl, .all hb10, fun m17 h17 w11 hb11 hk11 => ?_⟩
  have z11 := hk11.size
  have o11 := hk11.own
  have sC : ∀ x ∈ [m17, m1], x < w9.heap.size ∨ w10.heap.size ≤ x := allc (.inr h17) (fun y hy => .inl (o9 y hy))
  have C11 := Lies.ko C10 hk11 sC
  refine (balance_any c rod (rc := nC) C11.cells).mono fun e w12 he => ?_
  obtain ⟨n, worst, err, rfl, hb12, hO⟩ := he
  refine ⟨_, _, _, rfl, .all hb12, fun w13 hb13 hk13 => ?_⟩
  have C13 := Lies.ko (C11.below hb12) hk13 sC
  refine Pure.calls (rcheck_any c (hc.keep hb13)) fun w14 hb14 => ⟨_, rfl, .all hb14, ?_⟩
  have C14 := C13.below hb14
  refine ⟨fun ls u => match ls with | [.bool t] => t = (decide (check c = 0) && !decide (0 ≤ rod ∧ rod < c.rods.length)) ∧ Lies [] w9.heap.size w10.heap.size u aC (rods c.rods) | _ => False, ⟨fun h0 => ⟨fun hr w16 hb16 hk16 => ⟨?_, C14.ko hk16 sC⟩, fun hr w17 hb17 hk17 _ => ⟨?_, C14.ko hk17 sC⟩⟩, fun h0 w18 hb18 hk18 => ⟨?_, C14.ko hk18 sC⟩⟩, ?_⟩
  · rw [decide_eq_true h0, decide_eq_false (by omega)]; rfl
  · rw [decide_eq_true h0, Bool.true_and, ← decide_not]; exact decide_eq_decide.2 (by omega)
  · rw [decide_eq_false h0]; rfl
  rintro t3 w19 hb19 ⟨rfl, C19⟩
  refine ⟨fun ls u => match ls with | [.int _ x] => x = (if check c = 0 ∧ ¬(0 ≤ rod ∧ rod < c.rods.length) then 7 else check c) ∧ Lies [] w9.heap.size w10.heap.size u aC (rods c.rods) | _ => False, ⟨fun h w21 hb21 hk21 => ⟨?_, C19.ko hk21 sC⟩, fun h w22 hb22 hk22 => ⟨?_, C19.ko hk22 sC⟩⟩, ?_⟩
  · simp only [Bool.and_eq_true, decide_eq_true_eq, Bool.not_eq_true', decide_eq_false_iff_not] at h
    rw [if_pos h]
  · rw [if_neg]
    intro hh
    rw [decide_eq_true hh.1, decide_eq_false hh.2] at h
    exact absurd h (by simp)
  rintro x14 w23 hb23 ⟨rfl, C23⟩ w24 hb24 hk24
  have C24 := C23.ko hk24 sC
  refine Pure.calls (same_any c c C24.cells (hc.keep hb24) (by omega)) fun w25 hb25 => ⟨_, rfl, .all hb25, fun h => absurd h (by simp), fun _ => ?_⟩
  unfold BalOk at hO
  refine ⟨fun hne => ?_, fun h0 => ?_⟩
  · have hE : n = 0 ∧ worst = 0 ∧ err = (if check c = 0 ∧ ¬(0 ≤ rod ∧ rod < c.rods.length) then 7 else check c) := by
      by_cases hk : check c = 0
      · by_cases hr : 0 ≤ rod ∧ rod < c.rods.length
        · rw [if_neg (fun h => h.2 hr)] at hne; exact absurd hk hne
        · rw [if_neg (by simp [hk]), if_neg (by omega)] at hO
          rw [if_pos ⟨hk, hr⟩]; exact hO
      · rw [if_pos hk] at hO
        rw [if_neg (fun h => hk h.1)]; exact hO
    obtain ⟨rfl, rfl, hE⟩ := hE
    refine ⟨fun ls _ => match ls with | [.bool t] => t = true | _ => False, ⟨fun _ => ⟨fun _ => ⟨fun _ w28 hb28 hk28 => Pure.calls (known_any w28) fun w29 hb29 => ⟨true, rfl, .all hb29, fun w30 _ _ => rfl⟩, fun h => absurd rfl h⟩, fun h => absurd rfl h⟩, fun h => absurd hE h⟩, ?_⟩
    rintro t w34 hb34 rfl w35 hb35 _
    exact ⟨rfl, hb35⟩
  · have hck : check c = 0 := by
      by_cases hk : check c = 0
      · exact hk
      · rw [if_neg (fun h => hk h.1)] at h0; exact h0
    have hr : 0 ≤ rod ∧ rod < c.rods.length := by
      by_cases hr : 0 ≤ rod ∧ rod < c.rods.length
      · exact hr
      · rw [if_pos ⟨hck, hr⟩] at h0; exact absurd h0 (by decide)
    rw [if_neg (by simp [hck]), if_pos (by omega)] at hO
    obtain ⟨hS, rfl, rfl⟩ := hO
    intro w36 hb36 hk36
    have hi : rod.toNat < c.rods.length := by omega
    have hcall := rbalance_any hck hi (ra := ra) (rc := rc) (w := w36) (hc.keep hb36)
    rw [show ((rod.toNat : Nat) : Int) = rod by omega] at hcall
    refine hcall.mono fun e w37 he => ?_
    obtain ⟨best, least, rfl, hb37, hB⟩ := he
    obtain ⟨e1, e2⟩ := best_bal hck hi hB hS
    refine ⟨_, _, rfl, .all hb37, ?_⟩
    refine ⟨fun ls _ => match ls with | [.bool t] => t = true | _ => False, ⟨fun _ => ⟨fun _ => ⟨fun _ w39 hb39 hk39 => Pure.calls (known_any w39) fun w40 hb40 => ⟨true, rfl, .all hb40, fun w41 _ _ => rfl⟩, fun h => absurd e2 h⟩, fun h => absurd e1 h⟩, fun h => absurd rfl h⟩, ?_⟩
    rintro t w45 hb45 rfl w46 hb46 _
    exact ⟨rfl, hb46⟩
end Go.Proofs.R03
end
