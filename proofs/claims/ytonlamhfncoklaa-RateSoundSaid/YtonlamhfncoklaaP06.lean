/- Part 6: own lemmas, and the conditions of the functions. -/
import Derived.Test.YtonlamhfncoklaaProg
import Derived.Test.YtonlamhfncoklaaP05
section
/- The conditions of the functions, printed by program; each is what the generator reckons (kernel_rfl). -/
namespace Go.Proofs
open Go.Vc
set_option maxRecDepth 100000 in
set_option maxHeartbeats 2000000 in
theorem vc37 (r0 : Int) (r1 : Int) (r2 : Int) (r3 : Int) (r4 : Int) (r5a : Option Addr) (r5n : Nat) (r5c : Nat) (x0 : Int) (x1 : Int) (x2a : Option Addr) (x2n : Nat) (x2c : Nat) (w
    : World) (R : Ending → World → Prop) (h : ∀ (m1 : Nat), w.heap.size ≤ m1 → ∀ (m2 : Nat), w.heap.size ≤ m2 → ∀ (w1 : World), RowKit.Below w.heap.size w w1 → Kept [m2, m1] w w1 →
    Calls Try.prog 45 #[Value.agg #[Value.int IntKind.i64 r0, Value.int IntKind.i64 r1, Value.int IntKind.i64 r2, Value.int IntKind.i64 r3, Value.int IntKind.i64 r4, Value.slice
    r5a r5n r5c], Value.agg #[Value.int IntKind.i64 x0, Value.int IntKind.i64 x1, Value.slice x2a x2n x2c]] w1 fun (e1 : Ending) (w2 : World) => ∃ (a1 : Option Addr), ∃ (x1_1 :
    Int), e1 = Ending.returned (Value.tuple #[Value.pointer a1, Value.int IntKind.i64 x1_1]) ∧ KeepX true w.heap.size [m2, m1] (fun _ => False) w1 w2 ∧ (x1_1 ≠ 0 → ∀ (w3 : World),
    RowKit.Below w.heap.size w w3 → Kept [m2, m1] w2 w3 → R (Ending.returned (Value.tuple #[Value.slice none 0 0, Value.int IntKind.i64 x1_1])) w3) ∧ (x1_1 = 0 → ∀ (w4 : World),
    RowKit.Below w.heap.size w w4 → Kept [m2, m1] w2 w4 → Calls Try.prog 47 #[Value.slice x2a x2n x2c] w4 fun (e2 : Ending) (w5 : World) => ∃ (x2 : Int), e2 = Ending.returned
    (Value.int IntKind.i64 x2) ∧ KeepX true w.heap.size [m2, m1] (fun _ => False) w4 w5 ∧ ∀ (w6 : World), RowKit.Below w.heap.size w w6 → Kept [m2, m1] w5 w6 → Calls Try.prog 50
    #[Value.pointer a1, Value.agg #[Value.int IntKind.i64 x0, Value.int IntKind.i64 x1], Value.int IntKind.i64 x2] w6 fun (e3 : Ending) (w7 : World) => ∃ (x3 : Int), ∃ (t1 : Bool),
    e3 = Ending.returned (Value.tuple #[Value.int IntKind.i64 x3, Value.bool t1]) ∧ KeepX true w.heap.size [m2, m1] (fun _ => False) w6 w7 ∧ ((!t1) = true → ∀ (w8 : World),
    RowKit.Below w.heap.size w w8 → Kept [m2, m1] w7 w8 → R (Ending.returned (Value.tuple #[Value.slice none 0 0, Value.int IntKind.i64 7])) w8) ∧ ((!t1) = false → ∀ (w9 : World),
    RowKit.Below w.heap.size w w9 → Kept [m2, m1] w7 w9 → RunsTo Try.prog (Instr.makeMap 117 none) w9 fun (v1 : Value) (w10 : World) => ∃ (m6 : Nat), v1 = Value.map (some m6) ∧
    KeepX true w.heap.size [m2, m1] (fun _ => False) w9 w10 ∧ ∀ (w11 : World), RowKit.Below w.heap.size w w11 → Kept [m2, m1] w10 w11 → ∀ (m8 : Nat) (w12 : World), m8 =
    w11.heap.size → w12 = w11.alloc (Obj.cells #[Value.pointer a1, Value.slice none 0 0, Value.map (some m6)] 119) → ∀ (w13 : World), RowKit.Below w.heap.size w w13 → Kept [m2, m1]
    w12 w13 → Calls Try.prog 60 #[Value.pointer (some { block := m8, off := 0 }), Value.agg #[Value.int IntKind.i64 x0, Value.int IntKind.i64 x1], Value.int IntKind.i64 x2] w13 fun
    (e4 : Ending) (w14 : World) => e4 = Ending.returned (Value.tuple #[]) ∧ KeepX true w.heap.size [m2, m1] (fun _ => False) w13 w14 ∧ ∃ (a2 : Option Addr), ∃ (m10 : Nat), ∃ (m11 :
    Nat), w14.cell? { block := m8, off := 0 + 1 } = some (Value.slice a2 m10 m11) ∧ (m8 < w.heap.size ∨ m8 ≠ m2 ∧ m8 ≠ m1) ∧ ∀ (w15 : World), RowKit.Below w.heap.size w w15 → Kept
    [m2, m1] w14 w15 → R (Ending.returned (Value.tuple #[Value.slice a2 m10 m11, Value.int IntKind.i64 0])) w15))) : Calls Try.prog 37 #[Value.agg #[Value.int IntKind.i64 r0,
    Value.int IntKind.i64 r1, Value.int IntKind.i64 r2, Value.int IntKind.i64 r3, Value.int IntKind.i64 r4, Value.slice r5a r5n r5c], Value.agg #[Value.int IntKind.i64 x0,
    Value.int IntKind.i64 x1, Value.slice x2a x2n x2c]] w R := calls_of_vc (pure := true) (wrapAt := []) (muts := []) (esc := [37]) (args := [SV.pv (PV.agg [Lf.int IntKind.i64 r0,
    Lf.int IntKind.i64 r1, Lf.int IntKind.i64 r2, Lf.int IntKind.i64 r3, Lf.int IntKind.i64 r4, Lf.sl r5a r5n r5c]), SV.pv (PV.agg [Lf.int IntKind.i64 x0, Lf.int IntKind.i64 x1,
    Lf.sl x2a x2n x2c])]) (vs := [Value.agg #[Value.int IntKind.i64 r0, Value.int IntKind.i64 r1, Value.int IntKind.i64 r2, Value.int IntKind.i64 r3, Value.int IntKind.i64 r4,
    Value.slice r5a r5n r5c], Value.agg #[Value.int IntKind.i64 x0, Value.int IntKind.i64 x1, Value.slice x2a x2n x2c]]) Try.func37 rfl rfl rfl (Eq.mp (by kernel_rfl) h) 
set_option maxRecDepth 100000 in
set_option maxHeartbeats 2000000 in
theorem vc60 (pb : Nat) (po : Nat) (rate0 : Int) (rate1 : Int) (used : Int) (w : World) (R : Ending → World → Prop) (h : ∀ (m1 : Nat), w.heap.size ≤ m1 → ∀ (m2 : Nat), w.heap.size
    ≤ m2 → ∃ (m3 : Nat), w.cell? { block := pb, off := po + 2 } = some (Value.map (some m3)) ∧ (pb < w.heap.size ∨ pb ≠ m2 ∧ pb ≠ m1) ∧ ∀ (w1 : World), KeptIn [(0, w.heap.size)]
    [m2, m1] w w1 → RunsTo Try.prog (Instr.lookup 117 (Value.map (some m3)) (Value.agg #[Value.int IntKind.i64 rate0, Value.int IntKind.i64 rate1, Value.int IntKind.i64 used])
    false) w1 fun (v1 : Value) (w2 : World) => ∃ (t1 : Bool), v1 = Value.bool t1 ∧ KeepX false w.heap.size [m2, m1] (fun _ => False) w1 w2 ∧ (t1 = true → ∀ (w3 : World), Kept [m2,
    m1] w2 w3 → R (Ending.returned (Value.tuple #[])) w3) ∧ (t1 = false → ∃ (m5 : Nat), w2.cell? { block := pb, off := po + 2 } = some (Value.map (some m5)) ∧ (pb < w.heap.size ∨
    pb ≠ m2 ∧ pb ≠ m1) ∧ ∀ (w4 : World), KeptIn [(0, w2.heap.size)] [m2, m1] w2 w4 → RunsTo Try.prog ((Instr.mapUpdate 117 (Value.map (some m5)) (Value.agg #[Value.int IntKind.i64
    rate0, Value.int IntKind.i64 rate1, Value.int IntKind.i64 used]) (Value.bool true)) >>= fun _ => pure (Value.tuple #[])) w4 fun (v2 : Value) (w5 : World) => KeepX false
    w.heap.size [m2, m1] (fun _ => False) w4 w5 ∧ ∃ (a1 : Option Addr), w5.cell? { block := pb, off := po + 0 } = some (Value.pointer a1) ∧ (pb < w.heap.size ∨ pb ≠ m2 ∧ pb ≠ m1) ∧
    ∀ (w6 : World), KeptIn [(0, w5.heap.size)] [m2, m1] w5 w6 → Calls Try.prog 50 #[Value.pointer a1, Value.agg #[Value.int IntKind.i64 rate0, Value.int IntKind.i64 rate1],
    Value.int IntKind.i64 used] w6 fun (e1 : Ending) (w7 : World) => ∃ (x1 : Int), ∃ (t2 : Bool), e1 = Ending.returned (Value.tuple #[Value.int IntKind.i64 x1, Value.bool t2]) ∧
    KeepX false w.heap.size [m2, m1] (fun _ => False) w6 w7 ∧ ∃ (a2 : Option Addr), w7.cell? { block := pb, off := po + 0 } = some (Value.pointer a2) ∧ (pb < w.heap.size ∨ pb ≠ m2
    ∧ pb ≠ m1) ∧ ∀ (w8 : World), KeptIn [(0, w7.heap.size)] [m2, m1] w7 w8 → Calls Try.prog 75 #[Value.pointer a2, Value.int IntKind.i64 used] w8 fun (e2 : Ending) (w9 : World) =>
    ∃ (a3 : Option Addr), ∃ (m8 : Nat), ∃ (m9 : Nat), e2 = Ending.returned (Value.slice a3 m8 m9) ∧ (KeepX false w.heap.size [m2, m1] (fun (m10 : Nat) => False ∨ w7.heap.size ≤ m10
    ∧ m10 < w8.heap.size) w8 w9 ∧ ∀ (m11 : Nat), (∃ (y2 : Array Value), ∃ (m12 : Nat), ∃ (y3 : Nat × Nat), w8.heap[m11]? = some (Obj.cells y2 m12 y3)) → w9.heap[m11]? =
    w8.heap[m11]?) ∧ ∀ (m16 : Nat), w7.heap.size ≤ m16 → m16 < w8.heap.size ∨ w9.heap.size ≤ m16 → (x1 = 0 → ∃ (a4 : Option Addr), ∃ (m17 : Nat), ∃ (m18 : Nat), w9.cell?
    { block := pb, off := po + 1 } = some (Value.slice a4 m17 m18) ∧ (pb < w.heap.size ∨ pb ≠ m16 ∧ pb ≠ m2 ∧ pb ≠ m1) ∧ ∀ (m19 : Nat), w9.heap.size ≤ m19 → ∀ (w10 : World), KeptIn
    [(0, w9.heap.size)] [m19, m16, m2, m1] w9 w10 → w10.heap[m19]? = some (Obj.cells #[Value.int IntKind.i64 rate0, Value.int IntKind.i64 rate1, Value.slice a3 m8 m9, Value.int
    IntKind.i64 x1, Value.int IntKind.i64 0, Value.int IntKind.i64 (-1)] 56) → RunsTo Try.prog (Builtin.append_ #[54, 54] 54 #[Value.slice a4 m17 m18, Value.slice (some
    { block := m19, off := 0 }) 1 1]) w10 fun (v3 : Value) (w11 : World) => ∃ (a5 : Option Addr), ∃ (m21 : Nat), ∃ (m22 : Nat), v3 = Value.slice a5 m21 m22 ∧ KeepX false
    w.heap.size [m19, m16, m2, m1] (fun _ => False) w10 w11 ∧ ∀ (w12 : World), KeptIn [(0, w11.heap.size)] [m19, m16, m2, m1] w11 w12 → RunsTo Try.prog ((Instr.storeAt 54
    (Value.pointer (some { block := pb, off := po + 1 })) (Value.slice a5 m21 m22)) >>= fun _ => pure (Value.tuple #[])) w12 fun (v4 : Value) (w13 : World) => KeepX false
    w.heap.size [m19, m16, m2, m1] (fun _ => False) w12 w13 ∧ ∀ (w14 : World), Kept [m19, m16, m2, m1] w13 w14 → R (Ending.returned (Value.tuple #[])) w14) ∧ (x1 ≠ 0 → ∃ (a6 :
    Option Addr), w9.cell? { block := pb, off := po + 0 } = some (Value.pointer a6) ∧ (pb < w.heap.size ∨ pb ≠ m16 ∧ pb ≠ m2 ∧ pb ≠ m1) ∧ ∀ (w15 : World), KeptIn [(0,
    w9.heap.size)] [m16, m2, m1] w9 w15 → Calls Try.prog 51 #[Value.pointer a6, Value.agg #[Value.int IntKind.i64 rate0, Value.int IntKind.i64 rate1], Value.agg #[Value.int
    IntKind.i64 x1, Value.int IntKind.i64 used]] w15 fun (e3 : Ending) (w16 : World) => ∃ (x2 : Int), ∃ (x3 : Int), ∃ (x4 : Int), ∃ (x5 : Int), ∃ (x6 : Int), e3 = Ending.returned
    (Value.tuple #[Value.agg #[Value.int IntKind.i64 x2, Value.int IntKind.i64 x3], Value.agg #[Value.int IntKind.i64 x4, Value.int IntKind.i64 x5, Value.int IntKind.i64 x6]]) ∧
    (KeepX false w.heap.size [m16, m2, m1] (fun (m25 : Nat) => False ∨ w9.heap.size ≤ m25 ∧ m25 < w15.heap.size) w15 w16 ∧ ∀ (m26 : Nat), (∃ (y9 : Array Value), ∃ (m27 : Nat), ∃
    (y10 : Nat × Nat), w15.heap[m26]? = some (Obj.cells y9 m27 y10)) → w16.heap[m26]? = w15.heap[m26]?) ∧ ∀ (m31 : Nat), w9.heap.size ≤ m31 → m31 < w15.heap.size ∨ w16.heap.size ≤
    m31 → ∀ (m32 : Nat), w9.heap.size ≤ m32 → m32 < w15.heap.size ∨ w16.heap.size ≤ m32 → ∃ (a7 : Option Addr), ∃ (m33 : Nat), ∃ (m34 : Nat), w16.cell?
    { block := pb, off := po + 1 } = some (Value.slice a7 m33 m34) ∧ (pb < w.heap.size ∨ pb ≠ m32 ∧ pb ≠ m31 ∧ pb ≠ m16 ∧ pb ≠ m2 ∧ pb ≠ m1) ∧ ∀ (m35 : Nat), w16.heap.size ≤ m35 →
    ∀ (w17 : World), KeptIn [(0, w16.heap.size)] [m35, m32, m31, m16, m2, m1] w16 w17 → w17.heap[m35]? = some (Obj.cells #[Value.int IntKind.i64 rate0, Value.int IntKind.i64 rate1,
    Value.slice a3 m8 m9, Value.int IntKind.i64 x1, Value.int IntKind.i64 x2, Value.int IntKind.i64 x3] 56) → RunsTo Try.prog (Builtin.append_ #[54, 54] 54 #[Value.slice a7 m33
    m34, Value.slice (some { block := m35, off := 0 }) 1 1]) w17 fun (v5 : Value) (w18 : World) => ∃ (a8 : Option Addr), ∃ (m37 : Nat), ∃ (m38 : Nat), v5 = Value.slice a8 m37 m38 ∧
    KeepX false w.heap.size [m35, m32, m31, m16, m2, m1] (fun _ => False) w17 w18 ∧ ∀ (w19 : World), KeptIn [(0, w18.heap.size)] [m35, m32, m31, m16, m2, m1] w18 w19 → RunsTo
    Try.prog ((Instr.storeAt 54 (Value.pointer (some { block := pb, off := po + 1 })) (Value.slice a8 m37 m38)) >>= fun _ => pure (Value.tuple #[])) w19 fun (v6 : Value) (w20 :
    World) => KeepX false w.heap.size [m35, m32, m31, m16, m2, m1] (fun _ => False) w19 w20 ∧ ∃ (a9 : Option Addr), w20.cell? { block := pb, off := po + 0 } = some (Value.pointer
    a9) ∧ (pb < w.heap.size ∨ pb ≠ m35 ∧ pb ≠ m32 ∧ pb ≠ m31 ∧ pb ≠ m16 ∧ pb ≠ m2 ∧ pb ≠ m1) ∧ (-9223372036854775808 ≤ x1 - 1 ∧ x1 - (1 : Int) ≤ 9223372036854775807) ∧ ∀ (w21 :
    World), KeptIn [(0, w20.heap.size)] [m35, m32, m31, m16, m2, m1] w20 w21 → Calls Try.prog 67 #[Value.pointer a9, Value.agg #[Value.int IntKind.i64 (x1 - 1), Value.int
    IntKind.i64 x6]] w21 fun (e4 : Ending) (w22 : World) => ∃ (a10 : Option Addr), e4 = Ending.returned (Value.pointer a10) ∧ KeepX false w.heap.size [m35, m32, m31, m16, m2, m1]
    (fun _ => False) w21 w22 ∧ ∃ (m42 : Nat), ∃ (m43 : Nat), a10 = some { block := m42, off := m43 } ∧ True ∧ ∃ (F1 : List Lf → World → Prop), ∃ (F2 : List Lf → Nat), (∀ (w24 :
    World), Kept [m35, m32, m31, m16, m2, m1] w22 w24 → F1 [Lf.int IntKind.i64 x4] w24) ∧ ∀ (x7 : Int) (w25 : World), F1 [Lf.int IntKind.i64 x7] w25 → ∃ (a11 : Option Addr),
    w25.cell? { block := pb, off := po + 0 } = some (Value.pointer a11) ∧ (pb < w.heap.size ∨ pb ≠ m35 ∧ pb ≠ m32 ∧ pb ≠ m31 ∧ pb ≠ m16 ∧ pb ≠ m2 ∧ pb ≠ m1) ∧ ∀ (w26 : World),
    KeptIn [(0, w25.heap.size)] [m35, m32, m31, m16, m2, m1] w25 w26 → Calls Try.prog 73 #[Value.pointer a11] w26 fun (e5 : Ending) (w27 : World) => ∃ (x8 : Int), e5 =
    Ending.returned (Value.int IntKind.i64 x8) ∧ KeepX false w.heap.size [m35, m32, m31, m16, m2, m1] (fun _ => False) w26 w27 ∧ (-9223372036854775808 ≤ x5 - x8 ∧ x5 - x8 ≤
    9223372036854775807) ∧ (x7 ≤ max x4 (x5 - x8) → ∀ (w28 : World), Kept [m35, m32, m31, m16, m2, m1] w27 w28 → Calls Try.prog 68 #[Value.pointer (some
    { block := m42, off := m43 + 0 }), Value.int IntKind.i64 x7] w28 fun (e6 : Ending) (w29 : World) => ∃ (a12 : Option Addr), e6 = Ending.returned (Value.pointer a12) ∧ KeepX
    false w.heap.size [m35, m32, m31, m16, m2, m1] (fun _ => False) w28 w29 ∧ ∃ (m46 : Nat), ∃ (m47 : Nat), a12 = some { block := m46, off := m47 } ∧ True ∧ ∃ (x9 : Int), w29.cell?
    { block := m46, off := m47 } = some (Value.int IntKind.i64 x9) ∧ (m46 < w.heap.size ∨ m46 ≠ m35 ∧ m46 ≠ m32 ∧ m46 ≠ m31 ∧ m46 ≠ m16 ∧ m46 ≠ m2 ∧ m46 ≠ m1) ∧ ∀ (w30 : World),
    Kept [m35, m32, m31, m16, m2, m1] w29 w30 → Calls Try.prog 60 #[Value.pointer (some { block := pb, off := po }), Value.agg #[Value.int IntKind.i64 x7, Value.int IntKind.i64
    x9], Value.int IntKind.i64 x6] w30 fun (e7 : Ending) (w31 : World) => e7 = Ending.returned (Value.tuple #[]) ∧ KeepX false w.heap.size [m35, m32, m31, m16, m2, m1] (fun _ =>
    False) w30 w31 ∧ (x5 ≤ x9 → ∀ (w32 : World), Kept [m35, m32, m31, m16, m2, m1] w31 w32 → R (Ending.returned (Value.tuple #[])) w32) ∧ (x9 < x5 → ∃ (a13 : Option Addr),
    w31.cell? { block := pb, off := po + 0 } = some (Value.pointer a13) ∧ (pb < w.heap.size ∨ pb ≠ m35 ∧ pb ≠ m32 ∧ pb ≠ m31 ∧ pb ≠ m16 ∧ pb ≠ m2 ∧ pb ≠ m1) ∧ ∀ (w33 : World), Kept
    [m35, m32, m31, m16, m2, m1] w31 w33 → Calls Try.prog 73 #[Value.pointer a13] w33 fun (e8 : Ending) (w34 : World) => ∃ (x10 : Int), e8 = Ending.returned (Value.int IntKind.i64
    x10) ∧ KeepX false w.heap.size [m35, m32, m31, m16, m2, m1] (fun _ => False) w33 w34 ∧ (-9223372036854775808 ≤ x9 - x10 ∧ x9 - x10 ≤ 9223372036854775807) ∧
    (-9223372036854775808 ≤ max x7 (x9 - x10) + 1 ∧ max x7 (x9 - x10) + (1 : Int) ≤ 9223372036854775807) ∧ ∀ (w35 : World), Kept [m35, m32, m31, m16, m2, m1] w34 w35 → F1 [Lf.int
    IntKind.i64 (max x7 (x9 - x10) + 1)] w35 ∧ F2 [Lf.int IntKind.i64 (max x7 (x9 - x10) + 1)] < F2 [Lf.int IntKind.i64 x7])) ∧ (max x4 (x5 - x8) < x7 → ∀ (w36 : World), Kept [m35,
    m32, m31, m16, m2, m1] w27 w36 → R (Ending.returned (Value.tuple #[])) w36)))) : Calls Try.prog 60 #[Value.pointer (some { block := pb, off := po }), Value.agg #[Value.int
    IntKind.i64 rate0, Value.int IntKind.i64 rate1], Value.int IntKind.i64 used] w R := calls_of_vcj (pure := false) (wrapAt := []) (muts := []) (esc := []) (joins := [(5000000,
    [])]) (args := [SV.pv (PV.one (Lf.ptr pb po)), SV.pv (PV.agg [Lf.int IntKind.i64 rate0, Lf.int IntKind.i64 rate1]), SV.pv (PV.one (Lf.int IntKind.i64 used))]) (vs :=
    [Value.pointer (some { block := pb, off := po }), Value.agg #[Value.int IntKind.i64 rate0, Value.int IntKind.i64 rate1], Value.int IntKind.i64 used]) Try.func60 rfl rfl rfl
    (Eq.mp (by kernel_rfl) h) 
set_option maxRecDepth 100000 in
set_option maxHeartbeats 2000000 in
theorem vc75 (sb : Nat) (so : Nat) (of : Int) (w : World) (R : Ending → World → Prop) (h : ∃ (a1 : Option Addr), ∃ (m1 : Nat), ∃ (m2 : Nat), w.cell?
    { block := sb, off := so + 0 + 5 } = some (Value.slice a1 m1 m2) ∧ ∃ (F1 : List Lf → World → Prop), ∃ (F2 : List Lf → Nat), (∀ (w2 : World), RowKit.Below w.heap.size w w2 →
    Kept [] w w2 → F1 [Lf.sl none 0 0, Lf.int IntKind.i64 0] w2) ∧ ∀ (a2 : Option Addr) (m3 m4 : Nat) (x1 : Int) (w3 : World), RowKit.Below w.heap.size w w3 → F1 [Lf.sl a2 m3 m4,
    Lf.int IntKind.i64 x1] w3 → (x1 < (↑m1 : Int) → ∀ (w4 : World), RowKit.Below w.heap.size w w4 → Kept [] w3 w4 → Calls Try.prog 48 #[Value.int IntKind.i64 of, Value.int
    IntKind.i64 x1] w4 fun (e1 : Ending) (w5 : World) => ∃ (t1 : Bool), e1 = Ending.returned (Value.bool t1) ∧ KeepX true w.heap.size [] (fun _ => False) w4 w5 ∧ ∀ (m6 : Nat),
    w5.heap.size ≤ m6 → ∀ (w6 : World), RowKit.Below w.heap.size w w6 → Kept [m6] w5 w6 → w6.heap[m6]? = some (Obj.cells #[Value.bool t1] 4) → RunsTo Try.prog (Builtin.append_
    #[27, 27] 27 #[Value.slice a2 m3 m4, Value.slice (some { block := m6, off := 0 }) 1 1]) w6 fun (v1 : Value) (w7 : World) => ∃ (a3 : Option Addr), ∃ (m8 : Nat), ∃ (m9 : Nat), v1
    = Value.slice a3 m8 m9 ∧ KeepX true w.heap.size [m6] (fun _ => False) w6 w7 ∧ (-9223372036854775808 ≤ x1 + 1 ∧ x1 + (1 : Int) ≤ 9223372036854775807) ∧ ∀ (w8 : World),
    RowKit.Below w.heap.size w w8 → Kept [m6] w7 w8 → F1 [Lf.sl a3 m8 m9, Lf.int IntKind.i64 (x1 + 1)] w8 ∧ F2 [Lf.sl a3 m8 m9, Lf.int IntKind.i64 (x1 + 1)] < F2 [Lf.sl a2 m3 m4,
    Lf.int IntKind.i64 x1]) ∧ ((↑m1 : Int) ≤ x1 → ∀ (w9 : World), RowKit.Below w.heap.size w w9 → Kept [] w3 w9 → R (Ending.returned (Value.slice a2 m3 m4)) w9)) : Calls Try.prog
    75 #[Value.pointer (some { block := sb, off := so }), Value.int IntKind.i64 of] w R := calls_of_vc (pure := true) (wrapAt := []) (muts := []) (esc := []) (args := [SV.pv
    (PV.one (Lf.ptr sb so)), SV.pv (PV.one (Lf.int IntKind.i64 of))]) (vs := [Value.pointer (some { block := sb, off := so }), Value.int IntKind.i64 of]) Try.func75 rfl rfl rfl
    (Eq.mp (by kernel_rfl) h) 
end Go.Proofs
end
section
/- Claims in memory: the map of the keys, the row of the claims. -/
namespace Go.Proofs.R07
open Go.Vc Go.RowKit Go.Proofs

theorem eq_span9 (a b c d : Int) (w : World) : (Op.equalIn 9999 23 (.agg #[I a, I b]) (.agg #[I c, I d])).run Try.prog w = .ok (decide ((a, b) = (c, d))) w := by
  have hS : Try.prog.underlying 23 = some (.struct (Try.prog.fieldsOf 23)) := by kernel_rfl
  show (Op.equalIn (9998 + 1) 23 _ _).run _ _ = _
  have hp : Try.prog.stoodInHeld 23 = false := by kernel_rfl
  rw [run_equalIn_agg w 9998 23 _ _ hS hp]
  simp only [Program.fieldsOf, Try.underlying23]
  have p1 : ∀ (x y : Int), (part 3 #[I x, I y] 0).run Try.prog w = .ok (I x) w := fun _ _ => by kernel_rfl
  have p2 : ∀ (x y : Int), (part 3 #[I x, I y] 1).run Try.prog w = .ok (I y) w := fun _ _ => by kernel_rfl
  have u3 : Try.prog.underlying 3 = some (.int .i64) := by kernel_rfl
  have q1 : ∀ x y : Int, (Op.equalIn 9998 3 (I x) (I y)).run Try.prog w = .ok (x == y) w := fun x y => run_equalIn_int w 9997 3 _ _ _ _ u3
  by_cases h1 : a = c <;> by_cases h2 : b = d <;> simp [Op.eqFields, p1, p2, q1, h1, h2, Sem.run_bind, Sem.run_pure]
theorem eq_known (a b c a' b' c' : Int) (w : World) : (Op.equal 146 (.agg #[I a, I b, I c]) (.agg #[I a', I b', I c'])).run Try.prog w = .ok (decide (((a, b), c) = ((a', b'), c'))) w := by
  have hS : Try.prog.underlying 146 = some (.struct (Try.prog.fieldsOf 146)) := by kernel_rfl
  show (Op.equalIn (9999 + 1) 146 _ _).run _ _ = _
  have hp : Try.prog.stoodInHeld 146 = false := by kernel_rfl
  rw [run_equalIn_agg w 9999 146 _ _ hS hp]
  simp only [Program.fieldsOf, Try.underlying146]
  have p1 : ∀ (x y z : Int), (part 23 #[I x, I y, I z] 0).run Try.prog w = .ok (.agg #[I x, I y]) w := fun _ _ _ => by kernel_rfl
  have p2 : ∀ (x y z : Int), (part 90 #[I x, I y, I z] 2).run Try.prog w = .ok (I z) w := fun _ _ _ => by kernel_rfl
  have u3 : Try.prog.underlying 90 = some (.int .i64) := by kernel_rfl
  have q1 : ∀ x y : Int, (Op.equalIn 9999 90 (I x) (I y)).run Try.prog w = .ok (x == y) w := fun x y => run_equalIn_int w 9998 90 _ _ _ _ u3
  by_cases h1 : a = a' <;> by_cases h2 : b = b' <;> by_cases h3 : c = c' <;> simp [Op.eqFields, p1, p2, q1, eq_span9, h1, h2, h3, Sem.run_bind, Sem.run_pure]
def encN (k : Key) : Value := .agg #[I k.1.1, I k.1.2, I (k.2 : Nat)]
theorem keyN : KeyLaw Try.prog 146 encN where
  st := ⟨Try.prog.fieldsOf 146, by kernel_rfl⟩
  chk := fun b k w => by
    cases b <;> kernel_rfl
  eq := fun k k' w => by
    obtain ⟨⟨a, b⟩, c⟩ := k
    obtain ⟨⟨a', b'⟩, c'⟩ := k'
    refine (eq_known _ _ _ _ _ _ w).trans ?_
    congr 1
    simp only [decide_eq_decide, Prod.mk.injEq]
    omega

/-- The block of a slice. -/
def blk (a : Option Addr) : List Nat := match a with | some ad => [ad.block] | none => []

theorem append_own {P : Program} {t ty e : TypeId} {size B bytes : Nat} {a : Option Addr} {n c : Nat} {xs : List Value} {w : World} (hE : elemB P t e size bytes = true) (hsz : 0 < size) (h : Row e size B [] a n c xs w) {b o m cc : Nat} {news : List Value} (hc : Cells w (some ⟨b, o, none⟩) news)
    (hl : news.length = m * size) (h1 : ∀ u ∈ news, u.oneCell' = true) (hn1 : n + m ≤ 140737488355328) (hn : (n + m) * bytes ≤ 140737488355328) (hB : B ≤ w.heap.size) {R : Value → World → Prop}
    (hR : ∀ a' c' w', Row e size B [] a' (n + m) c' (xs ++ news) w' → Chg (blk a) w w' → (∀ g ∈ blk a', g ∈ blk a ∨ w.heap.size ≤ g) → R (.slice a' (n + m) c') w') :
    RunsTo P (Builtin.append_ #[t, t] ty #[.slice a n c, .slice (some ⟨b, o, none⟩) m cc]) w R := by
  refine append_row hE hsz (ns := (List.range w.heap.size).filter fun k => decide (k ∉ blk a)) ⟨h.own, fun b' o' ha hm => ?_⟩ hc hl h1 hn1 hn hB (fun x hx => List.mem_range.1 (List.mem_filter.1 hx).1) fun a' c' w' hrow S cS hS => ?_
  · have := of_decide_eq_true (List.mem_filter.1 hm).2
    exact this (by rw [ha]; simp [blk])
  · have key : ∀ g, g ∉ (List.range w.heap.size).filter (fun k => decide (k ∉ blk a)) → g ∈ blk a ∨ w.heap.size ≤ g := fun g hg => by
      by_cases hlt : g < w.heap.size
      · refine .inl ?_
        by_cases hb : g ∈ blk a
        · exact hb
        · exact absurd (List.mem_filter.2 ⟨List.mem_range.2 hlt, decide_eq_true hb⟩) hg
      · exact .inr (by omega)
    refine hR a' c' w' ⟨hrow.own, fun _ _ _ hm => by cases hm⟩ ⟨cS.os, cS.tape, cS.output, cS.size, fun k hk hn => cS.keep k hk fun hm => ?_⟩ fun g hg => key g fun hm => ?_
    · rcases key k (hS k hm).2 with h | h
      · exact hn h
      · omega
    · cases a' with
      | none => simp [blk] at hg
      | some ad =>
        simp only [blk, List.mem_singleton] at hg
        rcases hrow.own.2 with ⟨he, _⟩ | ⟨g', cap, cur, he, _⟩
        · cases he
        · simp only [Value.slice.injEq, Option.some.injEq] at he
          obtain ⟨rfl, _⟩ := he
          simp only at hg
          subst hg
          exact hrow.ns _ _ rfl hm
end Go.Proofs.R07
end
section
/- A proof that is made: the state of function 60. -/
namespace Go.Proofs.R07
open Go.Vc Go.RowKit Go.Proofs

def ub (U : List (Option Addr × List Bool)) : List Nat := U.flatMap fun y => blk y.1
theorem mem_blk {a : Option Addr} {b o : Nat} (h : a = some ⟨b, o, none⟩) : b ∈ blk a := by rw [h]; simp [blk]
def hdV (sb pm : Nat) (hd : Option Addr × Nat × Nat) : List Value := [.pointer (some ⟨sb, 0, none⟩), .slice hd.1 hd.2.1 hd.2.2, .map (some pm)]

/-- What a proof holds: its shop, its keys, its claims (and the lists of weights that were made for them); ns are blocks of others. -/
structure PI (r : Rules) (a : Option Addr) (c sb tm pb pm B : Nat) (K : List Key) (L : List ClM) (U : List (Option Addr × List Bool)) (la : Option Addr) (lc : Nat) (hd : Option Addr × Nat × Nat) (ns : List Nat) (w : World) : Prop where
  inv : Inv r a c sb tm [] (pb :: pm :: (blk la ++ (ub U ++ ns))) w
  pbh : w.heap[pb]? = some (.cells (hdV sb pm hd).toArray 119 (0, 0))
  map : MapIs w pm encN (K.map fun k => (k, Value.bool true))
  row : Row 56 6 B [] la L.length lc (L.flatMap clV) w
  sub : ∀ x ∈ L, (x.2.1, x.1.st.used) ∈ U
  used : ∀ y ∈ U, Cells w y.1 (bools y.2)
  pd : pb ≠ pm ∧ pb ∉ blk la ∧ pm ∉ blk la
  ud : ∀ n ∈ ub U, n ≠ pb ∧ n ≠ pm ∧ n ∉ blk la
  ul : ∀ n ∈ ub U, n < w.heap.size
  nd : ∀ n ∈ ns, n ≠ pb ∧ n ≠ pm ∧ n ∉ blk la ∧ n ∉ ub U
  low : B ≤ tm ∧ B ≤ pb ∧ B ≤ pm ∧ B ≤ w.heap.size
  ulo : ∀ n ∈ ub U, B ≤ n
section
variable {r : Rules} {a : Option Addr} {c sb tm pb pm B : Nat} {K : List Key} {L : List ClM} {U : List (Option Addr × List Bool)} {la : Option Addr} {lc : Nat} {hd : Option Addr × Nat × Nat} {ns : List Nat} {w w' : World}
theorem PI.pb_lt (h : PI r a c sb tm pb pm B K L U la lc hd ns w) : pb < w.heap.size := lt_of_some h.pbh
theorem PI.pm_lt (h : PI r a c sb tm pb pm B K L U la lc hd ns w) : pm < w.heap.size := h.map.lt
theorem PI.la_lt (h : PI r a c sb tm pb pm B K L U la lc hd ns w) : ∀ n ∈ blk la, n < w.heap.size := fun n hn => by
  rcases h.row.own.2 with ⟨he, _⟩ | ⟨g, cap, cur, he, _, hg, _⟩
  · simp only [Value.slice.injEq] at he; rw [he.1] at hn; simp [blk] at hn
  · simp only [Value.slice.injEq] at he
    rw [he.1] at hn
    simp only [blk, List.mem_singleton] at hn
    subst hn; exact lt_of_some hg
theorem PI.la_low (h : PI r a c sb tm pb pm B K L U la lc hd ns w) : ∀ n ∈ blk la, B ≤ n := fun n hn => by
  rcases h.row.own.2 with ⟨he, _⟩ | ⟨g, cap, cur, he, hB, _⟩
  · simp only [Value.slice.injEq] at he; rw [he.1] at hn; simp [blk] at hn
  · simp only [Value.slice.injEq] at he
    rw [he.1] at hn
    simp only [blk, List.mem_singleton] at hn
    subst hn; exact hB
theorem cells_blk {vs : List Value} {a : Option Addr} {S : List Nat} (h : Cells w a vs) (hc : Chg S w w') (hs : ∀ n ∈ blk a, n ∉ S) : Cells w' a vs := fun i v hi => by
  obtain ⟨b, o, e, hcell⟩ := h i v hi
  exact ⟨b, o, e, hc.cell (hs b (mem_blk e)) hcell⟩
/-- Blocks of others have changed. -/
theorem PI.chg {S : List Nat} (h : PI r a c sb tm pb pm B K L U la lc hd ns w) (hc : Chg S w w') (hs : ∀ x ∈ S, x ∈ ns) : PI r a c sb tm pb pm B K L U la lc hd ns w' :=
  ⟨h.inv.chg hc fun x hx => by simp [hs x hx], (hc.keep pb h.pb_lt fun hm => (h.nd _ (hs _ hm)).1 rfl).trans h.pbh, h.map.keep (hc.keep pm h.pm_lt fun hm => (h.nd _ (hs _ hm)).2.1 rfl),
   h.row.of fun b o e => hc.keep b (h.la_lt b (mem_blk e)) fun hm => (h.nd _ (hs _ hm)).2.2.1 (mem_blk e), h.sub, fun y hy => cells_blk (h.used y hy) hc fun n hn hm => (h.nd _ (hs _ hm)).2.2.2 (List.mem_flatMap.2 ⟨y, hy, hn⟩),
   h.pd, h.ud, fun n hn => Nat.lt_of_lt_of_le (h.ul n hn) hc.size, h.nd, ⟨h.low.1, h.low.2.1, h.low.2.2.1, Nat.le_trans h.low.2.2.2 hc.size⟩, h.ulo⟩
theorem PI.below (h : PI r a c sb tm pb pm B K L U la lc hd ns w) (hb : Below w.heap.size w w') : PI r a c sb tm pb pm B K L U la lc hd ns w' := h.chg (S := []) (Chg.of_below hb) (by simp)
theorem PI.more {ns' : List Nat} (h : PI r a c sb tm pb pm B K L U la lc hd ns w) (hn : ∀ n ∈ ns', n ∈ ns ∨ w.heap.size ≤ n) : PI r a c sb tm pb pm B K L U la lc hd ns' w :=
  ⟨h.inv.more fun n hm => by
    simp only [List.mem_cons, List.mem_append] at hm ⊢
    rcases hm with hm | hm | hm | hm | hm
    · exact .inl (.inl hm)
    · exact .inl (.inr (.inl hm))
    · exact .inl (.inr (.inr (.inl hm)))
    · exact .inl (.inr (.inr (.inr (.inl hm))))
    · exact (hn n hm).imp (fun h => .inr (.inr (.inr (.inr h)))) id, h.pbh, h.map, h.row, h.sub, h.used, h.pd, h.ud, h.ul, fun n hm => by
    rcases hn n hm with h1 | h1
    · exact h.nd n h1
    · have := h.pb_lt; have := h.pm_lt
      exact ⟨by omega, by omega, fun hh => by have := h.la_lt n hh; omega, fun hh => by have := h.ul n hh; omega⟩, h.low, h.ulo⟩
theorem PI.grow {ms : List Nat} (h : PI r a c sb tm pb pm B K L U la lc hd ns w) (hm : ∀ n ∈ ms, w.heap.size ≤ n) : PI r a c sb tm pb pm B K L U la lc hd (ms ++ ns) w := h.more fun n hn => (List.mem_append.1 hn).symm.imp id (hm n)
theorem PI.drop {ms : List Nat} (h : PI r a c sb tm pb pm B K L U la lc hd (ms ++ ns) w) : PI r a c sb tm pb pm B K L U la lc hd ns w := h.more fun n hn => .inl (List.mem_append_right _ hn)
/-- The shop's tables have changed. -/
theorem PI.tabs (h : PI r a c sb tm pb pm B K L U la lc hd ns w) (hc : Chg [tm] w w') (hI : Inv r a c sb tm [] (pb :: pm :: (blk la ++ (ub U ++ ns))) w') : PI r a c sb tm pb pm B K L U la lc hd ns w' := by
  have ht := h.inv.tmn
  simp only [List.mem_cons, List.mem_append, not_or] at ht
  have hne : ∀ {n}, n ≠ tm → n ∉ [tm] := fun h => by simpa using h
  exact ⟨hI, (hc.keep pb h.pb_lt (hne fun e => ht.1 e.symm)).trans h.pbh, h.map.keep (hc.keep pm h.pm_lt (hne fun e => ht.2.1 e.symm)),
   h.row.of fun b o e => hc.keep b (h.la_lt b (mem_blk e)) (hne fun e' => ht.2.2.1 (e' ▸ mem_blk e)), h.sub, fun y hy => cells_blk (h.used y hy) hc fun n hn => hne fun e' => ht.2.2.2.1 (e' ▸ List.mem_flatMap.2 ⟨y, hy, hn⟩),
   h.pd, h.ud, fun n hn => Nat.lt_of_lt_of_le (h.ul n hn) hc.size, h.nd, ⟨h.low.1, h.low.2.1, h.low.2.2.1, Nat.le_trans h.low.2.2.2 hc.size⟩, h.ulo⟩
theorem PI.all_lt (h : PI r a c sb tm pb pm B K L U la lc hd ns w) (hns : ∀ n ∈ ns, n < w.heap.size) : ∀ n ∈ pb :: pm :: (blk la ++ (ub U ++ ns)), n < w.heap.size := fun n hn => by
  simp only [List.mem_cons, List.mem_append] at hn
  rcases hn with rfl | rfl | hn | hn | hn
  · exact h.pb_lt
  · exact h.pm_lt
  · exact h.la_lt n hn
  · exact h.ul n hn
  · exact hns n hn
theorem PI.cell (h : PI r a c sb tm pb pm B K L U la lc hd ns w) {i : Nat} {v : Value} (hv : (hdV sb pm hd)[i]? = some v) : w.cell? ⟨pb, 0 + i, none⟩ = some v := by
  rw [Nat.zero_add]; exact cell_obj h.pbh hv
theorem look_keys' {T : Type} [DecidableEq T] {l : List T} {k : T} : ((l.map fun k => (k, Value.bool true)).lookup k) = if k ∈ l then some (.bool true) else none := by
  induction l with
  | nil => rfl
  | cons x l ih =>
    simp only [List.map_cons, List.lookup]
    by_cases e : k = x
    · subst e; simp
    · have : (k == x) = false := by simpa using e
      rw [this, ih]
      simp [e]
theorem PI.has (h : PI r a c sb tm pb pm B K L U la lc hd ns w) (k : Key) {R : Value → World → Prop} (hR : R (.bool (decide (k ∈ K))) w) : RunsTo Try.prog (Instr.lookup 117 (.map (some pm)) (encN k) false) w R := by
  have hr := (run_lookup_map keyN (mt := 117) (vt := 4) (by kernel_rfl) h.map k (z := .bool false) (by kernel_rfl)).2
  refine ⟨_, w, hr, ?_⟩
  rw [look_keys']
  by_cases e : k ∈ K
  · rw [if_pos e]; rw [decide_eq_true e] at hR; exact hR
  · rw [if_neg e]; rw [decide_eq_false e] at hR; exact hR
theorem PI.put (h : PI r a c sb tm pb pm B K L U la lc hd ns w) {k : Key} (hk : k ∉ K) {R : Value → World → Prop} (hR : ∀ w', PI r a c sb tm pb pm B (K ++ [k]) L U la lc hd ns w' → Chg [pm] w w' → R (.tuple #[]) w') : RunsTo Try.prog ((Instr.mapUpdate 117 (.map (some pm)) (encN k) (.bool true)) >>= fun _ => pure (Value.tuple #[])) w R := by
  obtain ⟨o, hr, hm⟩ := run_update_map keyN (mt := 117) (vt := 4) (by kernel_rfl) h.map k (.bool true) (by rw [look_keys', if_neg hk])
  have hc : Chg [pm] w (w.putObj pm o) := ⟨rfl, rfl, rfl, by simp [World.putObj], fun j hj hn => World.putObj_heap_other (by simpa using hn)⟩
  refine ⟨.tuple #[], w.putObj pm o, by simp only [Sem.run_bind, hr, Result.andThen_ok, Sem.run_pure], hR _ ?_ hc⟩
  have hne : ∀ {n}, n ≠ pm → n ∉ [pm] := fun h => by simpa using h
  exact ⟨h.inv.chg hc (by simp), (hc.keep pb h.pb_lt (hne h.pd.1)).trans h.pbh, by simpa using hm,
   h.row.of fun b o e => hc.keep b (h.la_lt b (mem_blk e)) (hne fun e' => h.pd.2.2 (e' ▸ mem_blk e)), h.sub, fun y hy => cells_blk (h.used y hy) hc fun n hn => hne (h.ud n (List.mem_flatMap.2 ⟨y, hy, hn⟩)).2.1,
   h.pd, h.ud, fun n hn => Nat.lt_of_lt_of_le (h.ul n hn) hc.size, h.nd, ⟨h.low.1, h.low.2.1, h.low.2.2.1, Nat.le_trans h.low.2.2.2 hc.size⟩, h.ulo⟩
/-- A list of weights that was made anew. -/
theorem PI.mint (h : PI r a c sb tm pb pm B K L U la lc hd ns w) (hb : Below w.heap.size w w') {ua : Option Addr} {l : List Bool} (hu : Cells w' ua (bools l)) (hn : ∀ n ∈ blk ua, w.heap.size ≤ n ∧ n < w'.heap.size) (hns : ∀ n ∈ ns, n < w.heap.size ∨ w'.heap.size ≤ n) : PI r a c sb tm pb pm B K L ((ua, l) :: U) la lc hd ns w' := by
  have H := h.below hb
  have hI : Inv r a c sb tm [] (pb :: pm :: (blk la ++ (ub ((ua, l) :: U) ++ ns))) w := h.inv.more fun n hm => by
    simp only [List.mem_cons, List.mem_append, ub, List.flatMap_cons] at hm ⊢
    rcases hm with hm | hm | hm | (hm | hm) | hm
    · exact .inl (.inl hm)
    · exact .inl (.inr (.inl hm))
    · exact .inl (.inr (.inr (.inl hm)))
    · exact .inr (hn n hm).1
    · exact .inl (.inr (.inr (.inr (.inl hm))))
    · exact .inl (.inr (.inr (.inr (.inr hm))))
  have new : ∀ n ∈ ub ((ua, l) :: U), n ∈ blk ua ∨ n ∈ ub U := fun n hn => by simpa [ub] using hn
  have p1 := h.pb_lt; have p2 := h.pm_lt
  refine ⟨hI.below hb, H.pbh, H.map, H.row, fun x hx => List.mem_cons_of_mem _ (H.sub x hx), fun y hy => ?_, H.pd, fun n hm => ?_, fun n hm => ?_, fun n hm => ?_, H.low, fun n hm => (new n hm).elim (fun h1 => by have := hn n h1; have := h.low.2.2.2; omega) (h.ulo n)⟩
  · rcases List.mem_cons.1 hy with rfl | hy
    · exact hu
    · exact H.used y hy
  · rcases new n hm with h1 | h1
    · have := hn n h1
      exact ⟨by omega, by omega, fun hh => by have := h.la_lt n hh; omega⟩
    · exact H.ud n h1
  · rcases new n hm with h1 | h1
    · exact (hn n h1).2
    · exact H.ul n h1
  · obtain ⟨g1, g2, g3, g4⟩ := H.nd n hm
    refine ⟨g1, g2, g3, fun hh => ?_⟩
    rcases new n hh with h1 | h1
    · have := hn n h1; rcases hns n hm with h2 | h2 <;> omega
    · exact g4 h1
theorem flat_snoc (L : List ClM) (x : ClM) : (L ++ [x]).flatMap clV = L.flatMap clV ++ clV x := by simp
/-- One claim more. -/
theorem PI.append (h : PI r a c sb tm pb pm B K L U la lc hd ns w) {x : ClM} (hx : (x.2.1, x.1.st.used) ∈ U) (hns : ∀ n ∈ ns, n < w.heap.size) (hlen : L.length ≤ 100000) {b cc : Nat} (hc : Cells w (some ⟨b, 0, none⟩) (clV x)) {R : Value → World → Prop}
    (hR : ∀ la' lc' w', PI r a c sb tm pb pm B K (L ++ [x]) U la' lc' hd ns w' → Chg (blk la) w w' → (∀ g ∈ blk la', g ∈ blk la ∨ w.heap.size ≤ g) → R (.slice la' (L.length + 1) lc') w') :
    RunsTo Try.prog (Builtin.append_ #[54, 54] 54 #[.slice la L.length lc, .slice (some ⟨b, 0, none⟩) 1 cc]) w R := by
  refine append_own (bytes := 64) (by kernel_rfl) (by omega) h.row hc (by simp [clV]) (by simp [clV, Value.oneCell']) (by omega) (by omega) h.low.2.2.2 fun la' lc' w' hrow hcg hnew => ?_
  refine hR la' lc' w' ⟨?_, (hcg.keep pb h.pb_lt h.pd.2.1).trans h.pbh, h.map.keep (hcg.keep pm h.pm_lt h.pd.2.2), by rw [flat_snoc, List.length_append]; exact hrow, fun y hy => ?_, fun y hy => cells_blk (h.used y hy) hcg fun n hn => (h.ud n (List.mem_flatMap.2 ⟨y, hy, hn⟩)).2.2, ?_, fun n hn => ?_, fun n hn => Nat.lt_of_lt_of_le (h.ul n hn) hcg.size, fun n hn => ?_, ⟨h.low.1, h.low.2.1, h.low.2.2.1, Nat.le_trans h.low.2.2.2 hcg.size⟩, h.ulo⟩ hcg hnew
  · have hI : Inv r a c sb tm [] (pb :: pm :: ((blk la ++ blk la') ++ (ub U ++ ns))) w := h.inv.more fun n hm => by
      simp only [List.mem_cons, List.mem_append] at hm ⊢
      rcases hm with hm | hm | (hm | hm) | hm
      · exact .inl (.inl hm)
      · exact .inl (.inr (.inl hm))
      · exact .inl (.inr (.inr (.inl hm)))
      · exact (hnew n hm).imp (fun h => .inr (.inr (.inl h))) id
      · exact .inl (.inr (.inr (.inr hm)))
    exact (hI.chg hcg fun n hn => by simp [hn]).less fun n hn => by
      simp only [List.mem_cons, List.mem_append] at hn ⊢
      rcases hn with hn | hn | hn | hn
      · exact .inl hn
      · exact .inr (.inl hn)
      · exact .inr (.inr (.inl (.inr hn)))
      · exact .inr (.inr (.inr hn))
  · rcases List.mem_append.1 hy with hy | hy
    · exact h.sub y hy
    · rw [List.mem_singleton.1 hy]; exact hx
  · have p1 := h.pb_lt; have p2 := h.pm_lt
    exact ⟨h.pd.1, fun hh => (hnew _ hh).elim h.pd.2.1 (by omega), fun hh => (hnew _ hh).elim h.pd.2.2 (by omega)⟩
  · obtain ⟨g1, g2, g3⟩ := h.ud n hn
    have := h.ul n hn
    exact ⟨g1, g2, fun hh => (hnew _ hh).elim g3 (by omega)⟩
  · obtain ⟨g1, g2, g3, g4⟩ := h.nd n hn
    have := hns n hn
    exact ⟨g1, g2, fun hh => (hnew _ hh).elim g3 (by omega), g4⟩
/-- The row's head is written. -/
theorem PI.store (h : PI r a c sb tm pb pm B K L U la lc hd ns w) {off : Nat} (ho : off = 1) {x : Option Addr × Nat × Nat} {R : Value → World → Prop} (hR : ∀ w', PI r a c sb tm pb pm B K L U la lc x ns w' → Chg [pb] w w' → R (.tuple #[]) w') :
    RunsTo Try.prog ((Instr.storeAt 54 (.pointer (some ⟨pb, off, none⟩)) (.slice x.1 x.2.1 x.2.2)) >>= fun _ => pure (Value.tuple #[])) w R := by
  subst ho
  refine obj_store (cs := hdV sb pm hd) (vs := [.slice x.1 x.2.1 x.2.2]) h.pbh (by kernel_rfl) (by kernel_rfl) (by simp [hdV]) rfl (by simp; trivial) fun w' hh hc => hR w' ?_ hc
  have hne : ∀ {n}, n ≠ pb → n ∉ [pb] := fun h => by simpa using h
  exact ⟨h.inv.chg hc (by simp), hh, h.map.keep (hc.keep pm h.pm_lt (hne fun e => h.pd.1 e.symm)),
   h.row.of fun b o e => hc.keep b (h.la_lt b (mem_blk e)) (hne fun e' => h.pd.2.1 (e' ▸ mem_blk e)), h.sub, fun y hy => cells_blk (h.used y hy) hc fun n hn => hne (h.ud n (List.mem_flatMap.2 ⟨y, hy, hn⟩)).1,
   h.pd, h.ud, fun n hn => Nat.lt_of_lt_of_le (h.ul n hn) hc.size, h.nd, ⟨h.low.1, h.low.2.1, h.low.2.2.1, Nat.le_trans h.low.2.2.2 hc.size⟩, h.ulo⟩
end
end Go.Proofs.R07
end
section
/- Functions 75 (used) and 60 (add): walked. -/
namespace Go.Proofs.R07
open Go.Vc Go.RowKit Go.Proofs

def UsedPost (l : List Bool) (w : World) (e : Ending) (w' : World) : Prop := ∃ a c, e = .returned (.slice a l.length c) ∧ Below w.heap.size w w' ∧ Cells w' a (bools l) ∧ ∀ n ∈ blk a, w.heap.size ≤ n ∧ n < w'.heap.size
theorem used_any {r : Rules} (hr : Good r) {a : Option Addr} {c sb tm : Nat} {w : World} (h : ShopAt r a c sb tm w) {u : Nat} (hu : u < 8) : Calls Try.prog 75 #[.pointer (some ⟨sb, 0, none⟩), I u] w (UsedPost (usedL r u) w) := by
  have h3 := hr.1
  refine vc75 _ _ _ w _ ⟨_, _, _, h.cell (i := 5) rfl, fun ls w' => match ls with | [.sl a' n' c', .int _ x] => 0 ≤ x ∧ x ≤ r.ws.length ∧ n' = x.toNat ∧ Row 4 1 w.heap.size [] a' n' c' (bools ((List.range x.toNat).map (has u))) w' | _ => False,
    fun ls => match ls with | [_, .int _ x] => (r.ws.length - x).toNat | _ => 0, fun w2 hb2 hk2 => ⟨by omega, by omega, rfl, Row.nil⟩, ?_⟩
  rintro a' n' c' x w3 hb3 ⟨h0, hn, rfl, hrow⟩
  refine ⟨fun hx w4 hb4 hk4 => ?_, fun hx w9 hb9 hk9 => ?_⟩
  · have hxn : x = (x.toNat : Int) := by omega
    have hhas := has_any hu (i := x.toNat) (by omega) w4
    rw [← hxn] at hhas
    refine Pure.calls hhas fun w5 hb5 => ⟨_, rfl, .all hb5, fun m6 h6 w6 hb6 hk6 hc6 => ?_⟩
    have R6 := (((hrow.chg (Chg.kept hk4) fun b hb => hb).below hb5).grow (ms := [m6]) (by simpa using h6)).chg (Chg.kept hk6) fun b hb => by simpa using hb
    refine append_row (P := Try.prog) (bytes := 1) (by kernel_rfl) (by omega) R6 (m := 1) (news := bools [has u x.toNat]) (Cells.obj (vs := [.bool _]) hc6) rfl (by simp [bools]; rfl) (by omega) (by omega) hb6.size (by simpa using hk6.own) fun a2 c2 w7 R7 S cS hS => ?_
    refine ⟨a2, _, c2, rfl, cS.own (fun b hb => ⟨hk6.own b hb, fun hh => (hS b hh).2 (by simpa using hb)⟩) (by simp) (fun _ => ⟨hb6.size, fun b hb => (hS b hb).1⟩), by omega, fun w8 hb8 hk8 => ⟨⟨by omega, by omega, by omega, ?_⟩, ?_⟩⟩
    · have R8 := (R7.chg (Chg.kept hk8) fun b hb => by simpa using hb).less (ns' := []) (by simp)
      rw [show (x + 1).toNat = x.toNat + 1 by omega, List.range_succ, List.map_append]
      simpa [bools] using R8
    · show ((r.ws.length : Int) - (x + 1)).toNat < ((r.ws.length : Int) - x).toNat
      omega
  · have hxl : x.toNat = r.ws.length := by omega
    have R9 := hrow.chg (Chg.kept hk9) fun b hb => hb
    refine ⟨a', c', by rw [usedL_len, hxl], hb9, by have := R9.cells; rw [hxl] at this; exact this, fun n hn => ?_⟩
    cases a' with
    | none => simp [blk] at hn
    | some ad =>
      simp only [blk, List.mem_singleton] at hn
      subst hn
      rcases R9.own.2 with ⟨he, _⟩ | ⟨g, cap, cur, he, _⟩
      · cases he
      · simp only [Value.slice.injEq, Option.some.injEq] at he
        obtain ⟨rfl, _⟩ := he
        exact R9.lt _ _ rfl

/-- What has been built, as lists without memory. -/
def plainL (L : List ClM) : List Cl := L.map (·.1)
theorem plainL_append (L L' : List ClM) : plainL (L ++ L') = plainL L ++ plainL L' := by simp [plainL]
def Keys (r : Rules) (k0 : Key) (K : List Key) : Prop := ∀ x ∈ K, x = k0 ∨ (GoodKey r x ∧ LoopKey r x)
theorem keys_few {r : Rules} (hr : Good r) {k0 : Key} {K : List Key} (hn : K.Nodup) (h : Keys r k0 K) : K.length ≤ 28849 := by
  have := nodup_le (m := allKeys r k0) hn fun x hx => by
    rcases h x hx with rfl | ⟨⟨⟨g1, g2, g3⟩, gu⟩, v, hv, e⟩
    · exact List.mem_cons_self
    · have := two_le hr
      refine List.mem_cons_of_mem _ (List.mem_flatMap.2 ⟨v, List.mem_range.2 hv, List.mem_flatMap.2 ⟨x.2, List.mem_range.2 (by omega), List.mem_map.2 ⟨(x.1.1 + 300).toNat, List.mem_range.2 (by omega), ?_⟩⟩⟩)
      rw [show ((x.1.1 + 300).toNat : Int) - 300 = x.1.1 by omega, ← e]
  rw [allKeys_len] at this
  exact this
def Add2Post (r : Rules) (a : Option Addr) (c sb tm pb pm B : Nat) (n : Nat) (k : Key) (K : List Key) (L : List ClM) (la : Option Addr) (ns : List Nat) (w : World) (e : Ending) (w' : World) : Prop :=
  e = .returned (.tuple #[]) ∧ ∃ K2 L2 U2 la2 lc2, Chg (tm :: pb :: pm :: blk la) w w' ∧ (∀ g ∈ blk la2, g ∈ blk la ∨ w.heap.size ≤ g) ∧ PI r a c sb tm pb pm B (K ++ K2) (L ++ L2) U2 la2 lc2 (la2, (L ++ L2).length, lc2) ns w' ∧ Added r n k K (plainL L) K2 (plainL L2)
def Add2Ok (r : Rules) (n : Nat) : Prop := ∀ (a : Option Addr) (c sb tm pb pm B : Nat) (k0 k : Key) (K : List Key) (L : List ClM) (U : List (Option Addr × List Bool)) (la : Option Addr) (lc : Nat) (ns : List Nat) (w : World),
  GoodKey r k → few r k.2 k.1 = some n → K.Nodup → Keys r k0 K → (k = k0 ∨ LoopKey r k) → L.length ≤ K.length → Known r n K (plainL L) → PI r a c sb tm pb pm B K L U la lc (la, L.length, lc) ns w → (∀ x ∈ ns, x < w.heap.size) →
  Calls Try.prog 60 #[.pointer (some ⟨pb, 0, none⟩), .agg #[I k.1.1, I k.1.2], I k.2] w (Add2Post r a c sb tm pb pm B n k K L la ns w)
end Go.Proofs.R07
end
section
/- Function 60 (add): walked. -/
namespace Go.Proofs.R07
open Go.Vc Go.RowKit Go.Proofs

/-- Between two claims. -/
structure AddLoop (r : Rules) (a : Option Addr) (c sb tm pb pm B : Nat) (K1 : List Key) (L1 : List ClM) (la : Option Addr) (NS : List Nat) (w0 : World) (v : Nat) (img : Sp) (mu tb : Nat) (f : Int)
    (K3 : List Key) (L3 : List ClM) (U3 : List (Option Addr × List Bool)) (la3 : Option Addr) (lc3 : Nat) (w : World) : Prop where
  pi : PI r a c sb tm pb pm B (K1 ++ K3) (L1 ++ L3) U3 la3 lc3 (la3, (L1 ++ L3).length, lc3) NS w
  chg : Chg (tm :: pb :: pm :: blk la) w0 w
  new : ∀ g ∈ blk la3, g ∈ blk la ∨ w0.heap.size ≤ g
  own : ∀ n ∈ NS, n < w.heap.size
  gr : Grown r v K1 (plainL L1) K3 (plainL L3)
  lk : ∀ k' ∈ K3, LoopKey r k'
  cov : Cov r v img mu (plainL (L1 ++ L3)) f
  tab : FullT w tb (stateV r v mu) (imageV r v mu)
  tbn : tb ∉ pb :: pm :: blk la3 ∧ tb ∉ NS
  lo : img.1 ≤ f
section
variable {r : Rules} {a : Option Addr} {c sb tm pb pm B : Nat} {K1 : List Key} {L1 : List ClM} {la : Option Addr} {NS : List Nat} {w0 : World} {v : Nat} {img : Sp} {mu tb : Nat} {f : Int}
    {K3 : List Key} {L3 : List ClM} {U3 : List (Option Addr × List Bool)} {la3 : Option Addr} {lc3 : Nat} {w w' : World}
theorem AddLoop.step {S : List Nat} (h : AddLoop r a c sb tm pb pm B K1 L1 la NS w0 v img mu tb f K3 L3 U3 la3 lc3 w) (hc : Chg S w w') (hs : ∀ x ∈ S, x ∈ NS ∧ w0.heap.size ≤ x) : AddLoop r a c sb tm pb pm B K1 L1 la NS w0 v img mu tb f K3 L3 U3 la3 lc3 w' :=
  ⟨h.pi.chg hc fun x hx => (hs x hx).1, R07.Chg.snoc h.chg hc fun x hx => .inr (hs x hx).2, h.new, fun n hn => Nat.lt_of_lt_of_le (h.own n hn) hc.size, h.gr, h.lk, h.cov, h.tab.chg hc fun hm => h.tbn.2 (hs _ hm).1, h.tbn, h.lo⟩
theorem AddLoop.below (h : AddLoop r a c sb tm pb pm B K1 L1 la NS w0 v img mu tb f K3 L3 U3 la3 lc3 w) (hb : Below w.heap.size w w') : AddLoop r a c sb tm pb pm B K1 L1 la NS w0 v img mu tb f K3 L3 U3 la3 lc3 w' := h.step (S := []) (Chg.of_below hb) (by simp)
end

set_option maxRecDepth 100000 in
set_option maxHeartbeats 8000000 in
theorem add2_step {r : Rules} (hr : Good r) (n : Nat) (ih : ∀ m, m < n → Add2Ok r m) : Add2Ok r n := by
  intro a c sb tm pb pm B k0 k K L U la lc ns w hk hf hnd hkeys hk0 hLK hkn hP hns
  obtain ⟨⟨lo, hi⟩, u⟩ := k
  have hk' := hk
  obtain ⟨⟨hs1, hs2, hs3⟩, hu⟩ := hk'
  have h28 := two_le hr
  simp only at hs1 hs2 hs3 hu hf
  have hu8 : u < 8 := by omega
  have h7 := few_lt hf
  have hpb := hP.pb_lt
  have hpm := hP.pm_lt
  have htm := hP.inv.tm_lt
  have hlen : L.length ≤ 28849 := Nat.le_trans hLK (keys_few hr hnd hkeys)
  show Calls Try.prog 60 #[.pointer (some ⟨pb, 0, none⟩), .agg #[I lo, I hi], I u] w _
  refine vc60 _ _ _ _ _ w _ fun m1 h1 m2 h2 => ⟨pm, hP.cell (i := 2) rfl, .inl hpb, fun w1 hk1 => ?_⟩
  have s1 := hk1.size
  have o1 := hk1.own
  have P1 := (hP.grow (ms := [m2, m1]) (by simp; omega)).chg (chg_in hk1) fun x hx => List.mem_append_left _ hx
  have N1 : ∀ x ∈ [m2, m1] ++ ns, x < w1.heap.size := fun x hx => by
    rcases List.mem_append.1 hx with hx | hx
    · exact o1 x hx
    · have := hns x hx; omega
  have C1 : Chg (tm :: pb :: pm :: blk la) w w1 := R07.Chg.snoc (.refl _ _) (chg_in hk1) (by simp; omega)
  refine P1.has ((lo, hi), u) ⟨_, rfl, .all (Below.refl _ _), fun ht w3 hk3 => ?_, fun ht => ?_⟩
  · have hmem := of_decide_eq_true ht
    have P3 := (P1.chg (Chg.kept hk3) fun x hx => List.mem_append_left _ hx).drop (ms := [m2, m1])
    refine ⟨rfl, [], [], U, la, lc, R07.Chg.snoc C1 (Chg.kept hk3) (by simp; omega), fun g hg => .inl hg, by simpa using P3, Grown.nil hnd, ?_, by simp, fun hno => absurd hmem hno⟩
    obtain ⟨cl, hcl, hc2⟩ := hkn _ hmem n hf (Nat.le_refl _)
    exact ⟨cl, by simpa [plainL] using hcl, hc2⟩
  have hnk : ((lo, hi), u) ∉ K := of_decide_eq_false ht
  refine ⟨pm, P1.cell (i := 2) rfl, .inl hpb, fun w4 hk4 => ?_⟩
  have s4 := hk4.size
  have o4 := hk4.own
  have P4 := P1.chg (chg_in hk4) fun x hx => List.mem_append_left _ hx
  have C4 := R07.Chg.snoc C1 (chg_in hk4) (by simp; omega)
  refine P4.put hnk fun w5 P5 c5 => ⟨c5.own (fun b hb => ⟨o4 b hb, by simp at hb ⊢; omega⟩) (by simp) (by simp), _, P5.cell (i := 0) rfl, .inl hpb, fun w6 hk6 => ?_⟩
  have s5 := c5.size
  have s6 := hk6.size
  have o6 := hk6.own
  have P6 := P5.chg (chg_in hk6) fun x hx => List.mem_append_left _ hx
  have C6 := R07.Chg.snoc (R07.Chg.snoc C4 c5 (by simp)) (chg_in hk6) (by simp; omega)
  have N6 : ∀ x ∈ [m2, m1] ++ ns, x < w6.heap.size := fun x hx => by have := N1 x hx; omega
  refine (few_any hr hu8 P6.inv (P6.all_lt N6) (s := (lo, hi)) ⟨hs1, hs2, hs3⟩).mono fun e w7 he => ?_
  obtain ⟨rfl, c7, I7⟩ := he
  rw [hf, Option.getD_some]
  have P7 := P6.tabs c7 I7
  have C7 := R07.Chg.snoc C6 c7 (by simp)
  have s7 := c7.size
  refine ⟨_, _, rfl, c7.own (fun b hb => ⟨o6 b hb, by simp at hb ⊢; omega⟩) (by simp) (by simp), _, P7.cell (i := 0) rfl, .inl hpb, fun w8 hk8 => ?_⟩
  have s8 := hk8.size
  have o8 := hk8.own
  have P8 := P7.chg (chg_in hk8) fun x hx => List.mem_append_left _ hx
  refine (used_any hr P8.inv.shop hu8).mono fun e w9 he => ?_
  obtain ⟨ua, uc, rfl, b9, hu9, hn9⟩ := he
  have s9 := b9.size
  refine ⟨ua, _, uc, rfl, ⟨.all b9, fun m hm => b9.block m (by obtain ⟨_, _, _, hm⟩ := hm; exact lt_of_some hm)⟩, fun m16 g1 g2 => ?_⟩
  have Q8 := (P7.grow (ms := [m16]) (by simpa using g1)).chg (chg_in hk8) fun x hx => List.mem_append_right _ (List.mem_append_left _ hx)
  have P9 := Q8.mint b9 hu9 hn9 fun x hx => by
    rcases List.mem_append.1 hx with hx | hx
    · rw [List.mem_singleton.1 hx]; exact g2
    · have := N6 x hx; exact .inl (by omega)
  have C9 : Chg (tm :: pb :: pm :: blk la) w w9 := R07.Chg.snoc (R07.Chg.snoc C7 (chg_in hk8) (by simp; omega)) (.of_below (S := []) b9) (by simp)
  have hUm : ∀ (v : Int) (x : Int × Int) (q : Nat), (((clOf r ((lo, hi), u) v x, ua, uc) : ClM).2.1, ((clOf r ((lo, hi), u) v x, ua, uc) : ClM).1.st.used) ∈ (ua, usedL r u) :: U := fun _ _ _ => List.mem_cons_self
  refine ⟨fun hz => ?_, fun hz => ?_⟩
  · -- no visit
    have hz0 : n = 0 := by simpa using hz
    subst hz0
    refine ⟨_, _, _, P9.cell (i := 1) rfl, .inl hpb, fun m19 g3 w10 hk10 hc10 => ?_⟩
    have s10 := hk10.size
    have o10 := hk10.own
    have P10 := (P9.grow (ms := [m19]) (by simpa using g3)).chg (chg_in hk10) fun x hx => by
      simp only [List.mem_cons, List.not_mem_nil, or_false] at hx
      simp only [List.mem_append, List.mem_cons, List.not_mem_nil, or_false]
      omega
    have N10 : ∀ x ∈ [m19] ++ ([m16] ++ ([m2, m1] ++ ns)), x < w10.heap.size := fun x hx => by
      simp only [List.mem_append] at hx
      rcases hx with hx | hx | hx | hx
      · exact o10 x (by simp at hx ⊢; omega)
      · exact o10 x (by simp at hx ⊢; omega)
      · exact o10 x (by simp at hx ⊢; omega)
      · have := hns x hx; omega
    have C10 := R07.Chg.snoc C9 (chg_in hk10) (by simp; omega)
    refine P10.append (x := (clOf r ((lo, hi), u) (0 : Nat) (0, -1), ua, uc)) (hUm _ _ 0) N10 (by omega) (Cells.obj hc10) fun la' lc' w11 P11 c11 hnew => ?_
    have s11 := c11.size
    have nla : ∀ b ∈ [m19, m16, m2, m1], b < w10.heap.size ∧ b ∉ blk la := fun b hb => ⟨o10 b hb, (P10.nd b (by simp at hb ⊢; omega)).2.2.1⟩
    refine ⟨la', _, lc', rfl, c11.own nla (by simp) (by simp), fun w12 hk12 => ?_⟩
    have o12 := hk12.own
    have s12 := hk12.size
    have P12 := P11.chg (chg_in hk12) fun x hx => by
      simp only [List.mem_cons, List.not_mem_nil, or_false] at hx
      simp only [List.mem_append, List.mem_cons, List.not_mem_nil, or_false]
      omega
    refine P12.store (off := 0 + 1) rfl (x := (la', L.length + 1, lc')) fun w13 P13 c13 => ⟨c13.own (fun b hb => ⟨o12 b hb, by simp at hb ⊢; omega⟩) (by simp) (by simp), fun w14 hk14 => ?_⟩
    have P14 := P13.chg (Chg.kept hk14) fun x hx => by
      simp only [List.mem_cons, List.not_mem_nil, or_false] at hx
      simp only [List.mem_append, List.mem_cons, List.not_mem_nil, or_false]
      omega
    have P14' := ((P14.drop (ms := [m19])).drop (ms := [m16])).drop (ms := [m2, m1])
    have hg : hi ≤ goodTo r lo := by
      have h := hf
      unfold few at h
      have h := List.find?_some h
      exact of_decide_eq_true h
    refine ⟨rfl, [((lo, hi), u)], [(clOf r ((lo, hi), u) (0 : Nat) (0, -1), ua, uc)], _, la', lc', ?_, fun g hg => (hnew g hg).imp id fun h => by omega, by simpa using P14', added_zero hnd hnk hk hf hg⟩
    exact R07.Chg.snoc (R07.Chg.snoc (R07.Chg.snoc (R07.Chg.snoc C10 c11 (fun x hx => .inl (by simp [hx]))) (chg_in hk12) (by simp; omega)) c13 (by simp)) (Chg.kept hk14) (by simp; omega)
  -- some visits
  have hz0 : n ≠ 0 := by simpa using hz
  obtain ⟨v, rfl⟩ : ∃ v, n = v + 1 := ⟨n - 1, by omega⟩
  obtain ⟨act, img, mu, hfa, hmv, himg, hwin⟩ := act_windows hr hu8 (s := (lo, hi)) ⟨hs1, hs2, hs3⟩ hf
  have hmu := move_used hr hu hmv
  have hmu8 : mu < 8 := by omega
  obtain ⟨i1, i2, i3⟩ := himg
  have herr := hr.2.2.1
  refine ⟨_, P9.cell (i := 0) rfl, .inl hpb, fun w15 hk15 => ?_⟩
  have s15 := hk15.size
  have o15 := hk15.own
  have P15 := (P9.grow (ms := List.range' w9.heap.size (w15.heap.size - w9.heap.size)) (fun x hx => (List.mem_range'_1.1 hx).1)).chg (chg_in hk15) fun x hx => by
    simp only [List.mem_cons, List.not_mem_nil, or_false] at hx
    simp only [List.mem_append, List.mem_cons, List.not_mem_nil, or_false]
    omega
  have C15 := R07.Chg.snoc C9 (chg_in hk15) (by simp; omega)
  have N15 : ∀ x ∈ List.range' w9.heap.size (w15.heap.size - w9.heap.size) ++ ([m16] ++ ([m2, m1] ++ ns)), x < w15.heap.size := fun x hx => by
    simp only [List.mem_append] at hx
    rcases hx with hx | hx | hx | hx
    · have := (List.mem_range'_1.1 hx).2; omega
    · exact o15 x (by simp at hx ⊢; omega)
    · exact o15 x (by simp at hx ⊢; omega)
    · have := hns x hx; omega
  have hact := act_any hr hu8 P15.inv (P15.all_lt N15) (s := (lo, hi)) ⟨hs1, hs2, hs3⟩ (v := v) (by omega)
  rw [show ((v : Int) + 1) = ((v + 1 : Nat) : Int) by omega] at hact
  refine hact.mono fun e w16 he => ?_
  obtain ⟨act', img', mu', rfl, c16, I16, hm16⟩ := he
  rw [hfa] at hm16
  obtain ⟨hae, hm16⟩ := hm16
  subst act'
  rw [hmv] at hm16
  obtain ⟨e16, e17⟩ : img = img' ∧ mu = mu' := by simpa using hm16
  subst img'
  subst mu'
  have P16 := P15.tabs c16 I16
  have C16 := R07.Chg.snoc C15 c16 (by simp)
  have s16 := c16.size
  obtain ⟨es, cl, hmap⟩ := P15.inv.tm_map
  refine ⟨_, _, _, _, _, rfl, ⟨c16.own (fun b hb => ⟨o15 b hb, by simp at hb ⊢; omega⟩) (fun b hb => by
      rcases hb with hb | hb
      · exact hb.elim
      · exact ⟨by omega, by simp; omega⟩) (by simp), fun m hm => c16.keep m (by obtain ⟨_, _, _, hm⟩ := hm; exact lt_of_some hm) (by
      obtain ⟨_, _, _, hm⟩ := hm
      intro hh
      rw [List.mem_singleton.1 hh, hmap] at hm
      cases hm)⟩, fun m31 g3 g4 m32 g5 g6 => ⟨_, _, _, P16.cell (i := 1) rfl, .inl hpb, fun m35 g7 w17 hk17 hc17 => ?_⟩⟩
  have s17 := hk17.size
  have o17 := hk17.own
  have M16 : PI r a c sb tm pb pm B (K ++ [((lo, hi), u)]) L ((ua, usedL r u) :: U) la lc (la, L.length, lc) ([m35, m32, m31, m16, m2, m1] ++ ns) w16 := P16.more fun x hx => by
    simp only [List.mem_append, List.mem_cons, List.not_mem_nil, or_false] at hx ⊢
    rcases hx with (rfl | rfl | rfl | rfl | rfl | rfl) | hx
    · exact .inr g7
    · rcases g6 with g | g
      · exact .inl (.inl (List.mem_range'_1.2 (by omega)))
      · exact .inr g
    · rcases g4 with g | g
      · exact .inl (.inl (List.mem_range'_1.2 (by omega)))
      · exact .inr g
    · exact .inl (.inr (.inl rfl))
    · exact .inl (.inr (.inr (.inl (.inl rfl))))
    · exact .inl (.inr (.inr (.inl (.inr rfl))))
    · exact .inl (.inr (.inr (.inr hx)))
  obtain ⟨NS, hNS⟩ : ∃ NS, NS = [m35, m32, m31, m16, m2, m1] ++ ns := ⟨_, rfl⟩
  rw [← hNS] at M16
  have hM : ∀ b ∈ [m35, m32, m31, m16, m2, m1], b ∈ NS ∧ w.heap.size ≤ b := fun b hb => ⟨by rw [hNS]; exact List.mem_append_left _ hb, by simp at hb; omega⟩
  have ownNS : ∀ {w' : World}, w.heap.size ≤ w'.heap.size → (∀ b ∈ [m35, m32, m31, m16, m2, m1], b < w'.heap.size) → ∀ x ∈ NS, x < w'.heap.size := fun hsz ho x hx => by
    rw [hNS] at hx
    rcases List.mem_append.1 hx with hx | hx
    · exact ho x hx
    · have := hns x hx; omega
  have P17 := M16.chg (chg_in hk17) fun x hx => (hM x hx).1
  have N17 := ownNS (by omega) o17
  have C17 := R07.Chg.snoc C16 (chg_in hk17) fun x hx => .inr (hM x hx).2
  refine P17.append (x := (clOf r ((lo, hi), u) (v + 1 : Nat) act, ua, uc)) (hUm _ _ 0) N17 (by omega) (Cells.obj hc17) fun la' lc' w18 P18 c18 hnew => ?_
  have s18 := c18.size
  refine ⟨la', _, lc', rfl, c18.own (fun b hb => ⟨o17 b hb, (P17.nd b (hM b hb).1).2.2.1⟩) (by simp) (by simp), fun w19 hk19 => ?_⟩
  have s19 := hk19.size
  have o19 := hk19.own
  have P19 := P18.chg (chg_in hk19) fun x hx => (hM x hx).1
  have C19 := R07.Chg.snoc (R07.Chg.snoc C17 c18 (fun x hx => .inl (by simp [hx]))) (chg_in hk19) fun x hx => .inr (hM x hx).2
  refine P19.store (off := 0 + 1) rfl (x := (la', L.length + 1, lc')) fun w20 P20 c20 => ⟨c20.own (fun b hb => ⟨o19 b hb, fun hh => (P19.nd b (hM b hb).1).1 (List.mem_singleton.1 hh)⟩) (by simp) (by simp), _, P20.cell (i := 0) rfl, .inl hpb, by omega, fun w21 hk21 => ?_⟩
  have s20 := c20.size
  have s21 := hk21.size
  have o21 := hk21.own
  have P21 := P20.chg (chg_in hk21) fun x hx => (hM x hx).1
  have C21 := R07.Chg.snoc (R07.Chg.snoc C19 c20 (by simp)) (chg_in hk21) fun x hx => .inr (hM x hx).2
  have N21 := ownNS (by omega) o21
  rw [show (((v + 1 : Nat) : Int) - 1) = (v : Int) by omega]
  refine (table_any hr v (by omega) a c sb tm [] _ mu w21 (by simp) hmu8 P21.inv (P21.all_lt N21)).mono fun e w22 he => ?_
  obtain ⟨tb, rfl, c22, I22, htb, hF⟩ := he
  have s22 := c22.size
  have P22 := P21.tabs c22 I22
  have C22 := R07.Chg.snoc C21 c22 (by simp)
  simp only [List.mem_cons, List.mem_append, not_or] at htb
  have ownNe : ∀ {K' : List Key} {L' : List ClM} {U' : List (Option Addr × List Bool)} {la'' : Option Addr} {lc'' : Nat} {hd : Option Addr × Nat × Nat} {w' : World}, PI r a c sb tm pb pm B K' L' U' la'' lc'' hd NS w' → ∀ b ∈ [m35, m32, m31, m16, m2, m1], b ∉ tm :: pb :: pm :: blk la'' := fun Q b hb hh => by
    obtain ⟨q1, q2, q3, _⟩ := Q.nd b (hM b hb).1
    simp only [List.mem_cons] at hh
    rcases hh with hh | hh | hh | hh
    · exact Q.inv.tmn (by rw [← hh]; simp [(hM b hb).1])
    · exact q1 hh
    · exact q2 hh
    · exact q3 hh
  refine ⟨_, rfl, c22.own (fun b hb => ⟨o21 b hb, fun hh => ownNe P21 b hb (by rw [List.mem_singleton.1 hh]; simp)⟩) (by simp) (by simp), tb, 0, rfl, trivial,
    fun ls w' => match ls with | [.int _ f] => ∃ K3 L3 U3 la3 lc3, AddLoop r a c sb tm pb pm B (K ++ [((lo, hi), u)]) (L ++ [(clOf r ((lo, hi), u) (v + 1 : Nat) act, ua, uc)]) la NS w v img mu tb f K3 L3 U3 la3 lc3 w' | _ => False,
    fun ls => match ls with | [.int _ f] => (302 - f).toNat | _ => 0, fun w24 hk24 => ?_, ?_⟩
  · have hnd1 : (K ++ [((lo, hi), u)]).Nodup := by
      rw [List.nodup_append]
      exact ⟨hnd, by simp, fun x hx y hy e => hnk (by rw [List.mem_singleton] at hy; rw [← hy, ← e]; exact hx)⟩
    have A22 : AddLoop r a c sb tm pb pm B (K ++ [((lo, hi), u)]) (L ++ [(clOf r ((lo, hi), u) (v + 1 : Nat) act, ua, uc)]) la NS w v img mu tb img.1 [] [] ((ua, usedL r u) :: U) la' lc' w22 :=
      ⟨by simpa using P22, C22, fun g hg => (hnew g hg).imp id fun h => by omega, fun x hx => by have := N21 x hx; omega, Grown.nil hnd1, by simp, fun g q1 q2 => by omega, hF, ⟨by simp only [List.mem_cons, not_or]; exact ⟨htb.1, htb.2.1, htb.2.2.1⟩, htb.2.2.2.2⟩, Int.le_refl _⟩
    exact ⟨[], [], _, la', lc', A22.step (Chg.kept hk24) hM⟩
  rintro f w25 ⟨K3, L3, U3, la3, lc3, A⟩
  -- the end of the way
  have finish : ∀ {K5 : List Key} {L5 : List ClM} {U5 : List (Option Addr × List Bool)} {la5 : Option Addr} {lc5 : Nat} {w' : World}, PI r a c sb tm pb pm B ((K ++ [((lo, hi), u)]) ++ K5) ((L ++ [(clOf r ((lo, hi), u) (v + 1 : Nat) act, ua, uc)]) ++ L5) U5 la5 lc5 (la5, ((L ++ [(clOf r ((lo, hi), u) (v + 1 : Nat) act, ua, uc)]) ++ L5).length, lc5) NS w' →
      Chg (tm :: pb :: pm :: blk la) w w' → (∀ g ∈ blk la5, g ∈ blk la ∨ w.heap.size ≤ g) → Grown r v (K ++ [((lo, hi), u)]) (plainL (L ++ [(clOf r ((lo, hi), u) (v + 1 : Nat) act, ua, uc)])) K5 (plainL L5) → (∀ k' ∈ K5, LoopKey r k') → (∀ g, Cov r v img mu (plainL ((L ++ [(clOf r ((lo, hi), u) (v + 1 : Nat) act, ua, uc)]) ++ L5)) g) →
      Add2Post r a c sb tm pb pm B (v + 1) ((lo, hi), u) K L la ns w (.returned (.tuple #[])) w' := fun {K5 L5 U5 la5 lc5 w'} Q q1 q2 q3 q4 q5 => by
    rw [hNS] at Q
    refine ⟨rfl, ((lo, hi), u) :: K5, (clOf r ((lo, hi), u) (v + 1 : Nat) act, ua, uc) :: L5, U5, la5, lc5, q1, q2, by simpa using Q.drop (ms := [m35, m32, m31, m16, m2, m1]), ?_⟩
    refine added_more hr hnk hk hf hmv (by simpa [plainL] using q3) q4 fun g => by simpa [plainL] using q5 g
  refine ⟨_, A.pi.cell (i := 0) rfl, .inl hpb, fun w26 hk26 => ?_⟩
  have A26 := A.step (chg_in hk26) hM
  refine Pure.calls (window_any hr A26.pi.inv.shop) fun w27 b27 => ⟨_, rfl, .all b27, by omega, fun hle w28 hk28 => ?_, fun hgt w36 hk36 => ?_⟩
  · have A28 := (A26.below b27).step (Chg.kept hk28) hM
    have hlo := A.lo
    have hf3 : f ≤ 300 := by omega
    refine Pure.calls (at_any (by omega) hf3 w28) fun w29 b29 => ⟨_, rfl, .all b29, tb, _, rfl, trivial, stateV r v mu f, ?_, .inr ?_, fun w30 hk30 => ?_⟩
    · have := (A28.below b29).tab.st (x := f) (by omega) hf3
      simpa using this
    · have := A28.tbn.2
      rw [hNS] at this
      simp only [List.mem_append, List.mem_cons, List.not_mem_nil, or_false, not_or] at this
      exact ⟨this.1.1, this.1.2.1, this.1.2.2.1, this.1.2.2.2.1, this.1.2.2.2.2.1, this.1.2.2.2.2.2⟩
    have A30 := (A28.below b29).step (Chg.kept hk30) hM
    have hto := hwin f hlo hle
    have hst := stateV_bound hr (v := v) (u := mu) (x := f) (by omega) hf3
    obtain ⟨to, hto'⟩ : ∃ to, to = stateV r v mu f := ⟨_, rfl⟩
    rw [← hto'] at hto hst ⊢
    have hsp : okSp (f, to) := ⟨by show -300 ≤ f; omega, by show f ≤ to; omega, hst.2⟩
    obtain ⟨m, hmv', hfm⟩ := few_le hr (n := v) (u := mu) (by omega) hsp ((enough_iff hr _ _ _ hsp).2 (by simp only; omega))
    have hlk : LoopKey r ((f, to), mu) := ⟨v, by omega, hto'⟩
    have gk : GoodKey r ((f, to), mu) := ⟨hsp, hmu⟩
    have hlen1 := A30.gr.len
    have hlenA : ((L ++ [(clOf r ((lo, hi), u) (v + 1 : Nat) act, ua, uc)]) ++ L3).length ≤ ((K ++ [((lo, hi), u)]) ++ K3).length := by
      have : L3.length = K3.length := by simpa [plainL] using hlen1
      simp only [List.length_append, List.length_cons, List.length_nil]; omega
    have hkeysA : Keys r k0 ((K ++ [((lo, hi), u)]) ++ K3) := fun x hx => by
      rcases List.mem_append.1 hx with hx | hx
      · rcases List.mem_append.1 hx with hx | hx
        · exact hkeys x hx
        · rw [List.mem_singleton.1 hx]
          exact hk0.imp id fun h => ⟨hk, h⟩
      · exact .inr ⟨(A30.gr.keys x hx).1, A30.lk x hx⟩
    have hknA : Known r m ((K ++ [((lo, hi), u)]) ++ K3) (plainL ((L ++ [(clOf r ((lo, hi), u) (v + 1 : Nat) act, ua, uc)]) ++ L3)) := fun x hx j hj hjm => by
      rcases List.mem_append.1 hx with hx | hx
      · rcases List.mem_append.1 hx with hx | hx
        · obtain ⟨cl, hcl, e⟩ := hkn x hx j hj (by omega)
          exact ⟨cl, by rw [plainL_append, plainL_append]; exact List.mem_append_left _ (List.mem_append_left _ hcl), e⟩
        · rw [List.mem_singleton.1 hx] at hj
          simp only at hj
          rw [hf] at hj
          simp only [Option.some.injEq] at hj
          omega
      · obtain ⟨_, j', e1, e2, cl, hcl, e3⟩ := A30.gr.keys x hx
        rw [hj] at e1
        simp only [Option.some.injEq] at e1
        subst e1
        exact ⟨cl, by rw [plainL_append]; exact List.mem_append_right _ hcl, e3⟩
    refine (ih m (by omega) a c sb tm pb pm B k0 ((f, to), mu) _ _ U3 la3 lc3 NS w30 gk hfm A30.gr.nod hkeysA (.inr hlk) hlenA hknA A30.pi A30.own).mono fun e w31 he => ?_
    obtain ⟨rfl, K4, L4, U4, la4, lc4, c31, new4, P31, G4, hcl4, hlk4, _⟩ := he
    have s31 := c31.size
    have o30 := hk30.own
    have C31 : Chg (tm :: pb :: pm :: blk la) w w31 := R07.Chg.snoc A30.chg c31 fun x hx => by
      simp only [List.mem_cons] at hx ⊢
      rcases hx with hx | hx | hx | hx
      · exact .inl (.inl hx)
      · exact .inl (.inr (.inl hx))
      · exact .inl (.inr (.inr (.inl hx)))
      · exact (A30.new x hx).imp (fun h => .inr (.inr (.inr h))) id
    have G34 := A30.gr.trans (by rw [← plainL_append]; exact G4) hmv'
    have new34 : ∀ g ∈ blk la4, g ∈ blk la ∨ w.heap.size ≤ g := fun g hg => by
      rcases new4 g hg with h | h
      · exact A30.new g h
      · have := A30.chg.size; exact .inr (by omega)
    have lk34 : ∀ k' ∈ K3 ++ K4, LoopKey r k' := fun k' hk' => by
      rcases List.mem_append.1 hk' with h | h
      · exact A30.lk k' h
      · rcases hlk4 k' h with rfl | h
        · exact hlk
        · exact h
    obtain ⟨cl, hclm, hcle⟩ := hcl4
    rw [← plainL_append] at hclm
    obtain ⟨cov1, cov2⟩ := Cov.step hr hmu (A30.cov.mono (M' := plainL (((L ++ [(clOf r ((lo, hi), u) (v + 1 : Nat) act, ua, uc)]) ++ L3) ++ L4)) fun x hx => by rw [plainL_append]; exact List.mem_append_left _ hx) hclm hmv' hcle hto
    have P31' := P31
    rw [List.append_assoc (K ++ [((lo, hi), u)]), List.append_assoc (L ++ [(clOf r ((lo, hi), u) (v + 1 : Nat) act, ua, uc)])] at P31'
    rw [List.append_assoc (L ++ [(clOf r ((lo, hi), u) (v + 1 : Nat) act, ua, uc)])] at cov1 cov2
    have T31 : FullT w31 tb (stateV r v mu) (imageV r v mu) := A30.tab.chg c31 fun hh => by
      rcases List.mem_cons.1 hh with hh | hh
      · exact tab_ne A30.pi.inv A30.tab hh
      · exact A30.tbn.1 hh
    have A31 : AddLoop r a c sb tm pb pm B (K ++ [((lo, hi), u)]) (L ++ [(clOf r ((lo, hi), u) (v + 1 : Nat) act, ua, uc)]) la NS w v img mu tb (max f (to - 2 * r.err) + 1) (K3 ++ K4) (L3 ++ L4) U4 la4 lc4 w31 :=
      ⟨P31', C31, new34, fun x hx => by have := A30.own x hx; omega, by rw [show plainL (L3 ++ L4) = plainL L3 ++ plainL L4 from plainL_append _ _]; exact G34, lk34, cov1, T31, ⟨fun hh => by
        simp only [List.mem_cons] at hh
        have h1 := A30.tbn.1
        simp only [List.mem_cons, not_or] at h1
        rcases hh with hh | hh | hh
        · exact h1.1 hh
        · exact h1.2.1 hh
        · rcases new4 tb hh with h | h
          · exact h1.2.2 h
          · have := A30.tab.lt; omega, A30.tbn.2⟩, by omega⟩
    refine ⟨rfl, c31.own (fun b hb => ⟨o30 b hb, ownNe A30.pi b hb⟩) (by simp) (by simp), fun hge w32 hk32 => ?_, fun hlt => ⟨_, A31.pi.cell (i := 0) rfl, .inl hpb, fun w33 hk33 => ?_⟩⟩
    · have A32 := A31.step (Chg.kept hk32) hM
      exact finish A32.pi A32.chg A32.new A32.gr A32.lk (cov2 hge)
    · have A33 := A31.step (Chg.kept hk33) hM
      refine Pure.calls (window_any hr A33.pi.inv.shop) fun w34 b34 => ⟨_, rfl, .all b34, by omega, by omega, fun w35 hk35 => ⟨⟨_, _, _, _, _, (A33.below b34).step (Chg.kept hk35) hM⟩, ?_⟩⟩
      show (302 - (max f (to - 2 * r.err) + 1)).toNat < (302 - f).toNat
      omega
  · have A36 := (A26.below b27).step (Chg.kept hk36) hM
    exact finish A36.pi A36.chg A36.new A36.gr A36.lk fun f' g q1 _ q3 => A36.cov g q1 (by omega) q3
theorem add2_any {r : Rules} (hr : Good r) (n : Nat) : Add2Ok r n := by
  induction n using Nat.strongRecOn with
  | _ n ih => exact add2_step hr n ih
end Go.Proofs.R07
end
section
/- Function 37 (Proof): walked. -/
namespace Go.Proofs.R07
open Go.Vc Go.RowKit Go.Proofs

/-- Claims in memory between two places. -/
structure ClsIn (lo hi : Nat) (w : World) (la : Option Addr) (L : List ClM) : Prop where
  row : Cells w la (L.flatMap clV)
  used : ∀ x ∈ L, Cells w x.2.1 (bools x.1.st.used)
  rb : ∀ n ∈ blk la, lo ≤ n ∧ n < hi
  ub : ∀ x ∈ L, ∀ n ∈ blk x.2.1, lo ≤ n ∧ n < hi
theorem ClsIn.chg {lo hi : Nat} {w w' : World} {la : Option Addr} {L : List ClM} {S : List Nat} (h : ClsIn lo hi w la L) (hc : Chg S w w') (hs : ∀ x ∈ S, x < lo ∨ hi ≤ x) : ClsIn lo hi w' la L :=
  ⟨cells_blk h.row hc fun n hn hm => by have := h.rb n hn; have := hs n hm; omega, fun x hx => cells_blk (h.used x hx) hc fun n hn hm => by have := h.ub x hx n hn; have := hs n hm; omega, h.rb, h.ub⟩
theorem ClsIn.at {lo hi : Nat} {w : World} {la : Option Addr} {L : List ClM} (h : ClsIn lo hi w la L) : ClsAt w la L := ⟨h.row, h.used⟩
def keyOf (s : St) : Key := ((s.lo, s.hi), setOf s.used)
/-- What Proof says: an error and no claims, or claims that were made. -/
def Proved (r : Rules) (s : St) (L : List ClM) (e : Int) : Prop :=
  (startErr r s ≠ 0 ∧ L = [] ∧ e = startErr r s) ∨ (startErr r s = 0 ∧ few r (setOf s.used) (s.lo, s.hi) = none ∧ L = [] ∧ e = 7) ∨
  (startErr r s = 0 ∧ e = 0 ∧ ∃ n K2, few r (setOf s.used) (s.lo, s.hi) = some n ∧ Added r n (keyOf s) [] [] K2 (plainL L))
def ProofPost (r : Rules) (s : St) (w : World) (e : Ending) (w' : World) : Prop := ∃ la lc, ∃ L : List ClM, ∃ er : Int, e = .returned (.tuple #[.slice la L.length lc, I er]) ∧ Below w.heap.size w w' ∧ ClsIn w.heap.size w'.heap.size w' la L ∧ Proved r s L er
theorem clsIn_nil {lo hi : Nat} {w : World} : ClsIn lo hi w none [] := ⟨Cells.nil, by simp, by simp [blk], by simp⟩
set_option maxRecDepth 100000 in
set_option maxHeartbeats 2000000 in
theorem proof_any (r : Rules) (s : St) {a b : Option Addr} {c d : Nat} {w : World} (hc : Cells w a (spans r.ws)) (hs : Cells w b (bools s.used)) : Calls Try.prog 37 #[r.v a c, s.v b d] w (ProofPost r s w) := by
  refine vc37 _ _ _ _ _ _ _ _ _ _ _ _ _ w _ fun m1 h1 m2 h2 w1 hb1 hk1 => ?_
  have s1 := hb1.size
  refine (start_any r s (c := c) (d := d) (hc.keep hb1)).mono fun e w2 he => ?_
  obtain ⟨sb, tm, rfl, b2, g1, g2, q1, q2⟩ := he
  have s2 := b2.size
  have o1 := hk1.own
  refine ⟨_, _, rfl, .all b2, fun h0 w3 hb3 hk3 => ⟨none, 0, [], _, rfl, hb3, clsIn_nil, .inl ⟨h0, rfl, rfl⟩⟩, fun h0 w4 hb4 hk4 => ?_⟩
  have s4 := hk4.size
  obtain ⟨hr, hsp, hul⟩ := okSt_of h0
  have h3 := hr.1
  have hu8 : setOf s.used < 8 := setOf_lt (by omega)
  have om : ∀ x ∈ [m2, m1], w.heap.size ≤ x ∧ x < w1.heap.size := fun x hx => ⟨by simp at hx; omega, o1 x hx⟩
  have nsb : ∀ {x}, x = sb ∨ x = tm → x ∉ [m2, m1] := fun {x} hx hm => by have := om x hm; omega
  have S4 : ShopAt r a c sb tm w4 := q1.chg (Chg.kept hk4) (nsb (.inl rfl))
  have T4 : w4.heap[tm]? = some (.map #[] 0) := (hk4.block tm (lt_of_some q2) (nsb (.inr rfl))).trans q2
  refine Pure.calls (newSet_any (hs.keep hb4) (by omega)) fun w5 b5 => ⟨_, rfl, .all b5, fun w6 hb6 hk6 => ?_⟩
  have s5 := b5.size
  have s6 := hk6.size
  have o6 := hk6.own
  have S6 : ShopAt r a c sb tm w6 := (S4.keep b5).chg (Chg.kept hk6) (nsb (.inl rfl))
  have T6 : w6.heap[tm]? = some (.map #[] 0) := (hk6.block tm (by have := lt_of_some T4; omega) (nsb (.inr rfl))).trans (heap_keep b5 T4)
  have I6 : Inv r a c sb tm [] [m2, m1] w6 := Inv.start S6 T6 hc hb6 (fun n hn => (om n hn).1) (nsb (.inl rfl)) (nsb (.inr rfl))
  refine (few_any hr hu8 I6 o6 hsp).mono fun e w7 he => ?_
  obtain ⟨rfl, c7, I7⟩ := he
  have s7 := c7.size
  refine ⟨_, _, rfl, c7.own (fun x hx => ⟨o6 x hx, fun hh => nsb (.inr (List.mem_singleton.1 hh)) hx⟩) (by simp) (fun _ => ⟨hb6.size, fun x hx => by rw [List.mem_singleton.1 hx]; omega⟩), fun ht w8 hb8 hk8 => ?_, fun ht w9 hb9 hk9 => ?_⟩
  · refine ⟨none, 0, [], 7, rfl, hb8, clsIn_nil, .inr (.inl ⟨h0, ?_, rfl, rfl⟩)⟩
    cases hf : few r (setOf s.used) (s.lo, s.hi) with
    | none => rfl
    | some n => rw [hf] at ht; cases ht
  cases hf : few r (setOf s.used) (s.lo, s.hi) with
  | none => rw [hf] at ht; cases ht
  | some n =>
  have I9 := I7.chg (Chg.kept hk9) fun x hx => hx
  have s9 := hk9.size
  have o9 := hk9.own
  refine ⟨_, _, run_makeMap 117 w9, w9.heap.size, rfl, .all ((Below.refl _ _).alloc (Nat.le_refl _) _), fun w11 hb11 hk11 m8 w12 e8 e12 w13 hb13 hk13 => ?_⟩
  have sA : (w9.alloc (.map #[] 0)).heap.size = w9.heap.size + 1 := alloc_size
  have s11 := hk11.size
  rw [sA] at s11
  subst e8
  have sB : w12.heap.size = w11.heap.size + 1 := by rw [e12]; exact alloc_size
  have s13 := hk13.size
  have o13 := hk13.own
  have M11 : w11.heap[w9.heap.size]? = some (.map #[] 0) := (hk11.block _ (by omega) (fun hm => by have := o9 _ hm; omega)).trans alloc_here
  have b12 : Below w11.heap.size w11 w12 := by rw [e12]; exact (Below.refl _ _).alloc (Nat.le_refl _) _
  have M13 : w13.heap[w9.heap.size]? = some (.map #[] 0) := (hk13.block _ (by omega) (fun hm => by have := o9 _ hm; omega)).trans (heap_keep b12 M11)
  have P13 : w13.heap[w11.heap.size]? = some (.cells #[.pointer (some ⟨sb, 0, none⟩), .slice none 0 0, .map (some w9.heap.size)] 119 (0, 0)) := by
    refine (hk13.block _ (by omega) (fun hm => by have := hk11.own _ hm; omega)).trans ?_
    rw [e12]; exact alloc_here
  have J9 : Inv r a c sb tm [] [w11.heap.size, w9.heap.size, m2, m1] w9 := I9.more fun x hx => by
    simp only [List.mem_cons, List.not_mem_nil, or_false] at hx ⊢
    omega
  have b10 : Below w9.heap.size w9 (w9.alloc (.map #[] 0)) := (Below.refl _ _).alloc (Nat.le_refl _) _
  have J13 := (((J9.below b10).chg (Chg.kept hk11) (by simp)).below b12).chg (Chg.kept hk13) (by simp)
  have hPI : PI r a c sb tm w11.heap.size w9.heap.size w.heap.size [] [] [] none 0 (none, 0, 0) [m2, m1] w13 :=
    ⟨by simpa [blk, ub] using J13, P13, ⟨#[], 0, M13, rfl⟩, Row.nil, by simp, by simp, ⟨by omega, by simp [blk], by simp [blk]⟩, by simp [ub], by simp [ub], fun x hx => ⟨by have := hk11.own x hx; omega, by have := o9 x hx; omega, by simp [blk], by simp [ub]⟩, ⟨by omega, by have := hb11.size; omega, by have := hb9.size; omega, by have := hb13.size; omega⟩, by simp [ub]⟩
  have gk : GoodKey r (keyOf s) := ⟨hsp, by
    have : setOf s.used < 2 ^ s.used.length := setTo_two
    rw [hul] at this
    exact this⟩
  refine (add2_any hr n a c sb tm _ _ w.heap.size (keyOf s) (keyOf s) [] [] [] none 0 [m2, m1] w13 gk hf (by simp) (fun x hx => by cases hx) (.inl rfl) (by simp) (fun x hx => by cases hx) hPI o13).mono fun e w14 he => ?_
  obtain ⟨rfl, K2, L2, U2, la2, lc2, c14, new14, P14, A14⟩ := he
  have s14 := c14.size
  refine ⟨rfl, c14.own (fun x hx => ⟨o13 x hx, ?_⟩) (by simp) (fun _ => ⟨hb13.size, fun x hx => ?_⟩), _, _, _, P14.cell (i := 1) rfl, .inr ?_, fun w15 hb15 hk15 => ?_⟩
  · simp only [blk, List.mem_cons, List.not_mem_nil, or_false, not_or]
    have := hk11.own x hx; have := o9 x hx
    exact ⟨fun e => nsb (.inr e) hx, by omega, by omega⟩
  · simp only [blk, List.mem_cons, List.not_mem_nil, or_false] at hx
    have := hb11.size; have := hb9.size
    omega
  · have := hk11.own m1 (by simp); have := hk11.own m2 (by simp); omega
  · have P15 := P14.chg (Chg.kept hk15) fun x hx => hx
    refine ⟨la2, lc2, L2, 0, rfl, hb15, ⟨by simpa using P15.row.cells, fun x hx => P15.used _ (P15.sub x (by simpa using hx)), fun n hn => ⟨P15.la_low n hn, P15.la_lt n hn⟩, fun x hx n hn => ?_⟩, .inr (.inr ⟨h0, rfl, n, K2, hf, by simpa [plainL] using A14⟩)⟩
    have hm : n ∈ ub U2 := List.mem_flatMap.2 ⟨_, P15.sub x (by simpa using hx), hn⟩
    exact ⟨P15.ulo n hm, P15.ul n hm⟩
end Go.Proofs.R07
end
section
/- RateProofs: the walk. -/
namespace Go.Proofs.R07
open Go.Vc Go.RowKit Go.Proofs

/-- The cells of one claim. -/
theorem cl_cells {l : List ClM} {la : Option Addr} {w : World} (hl : Cells w la (l.flatMap clV)) {x : Int} (h0 : 0 ≤ x) (hx : x < l.length) :
    ∃ (b o : Nat) (cl : ClM), la = some ⟨b, o, none⟩ ∧ l[x.toNat]? = some cl ∧ cl ∈ l ∧ b < w.heap.size ∧ ∀ {j : Nat} {v : Value} {k : Nat}, (clV cl)[j]? = some v → j < 6 → k = o + x.toNat * 6 + j → w.cell? ⟨b, k, none⟩ = some v := by
  have hix : x.toNat < l.length := by omega
  obtain ⟨b, o, e, d0⟩ := hl _ _ (cl_get (getElem_of_lt hix) (j := 0) (v := I l[x.toNat].1.st.lo) rfl (by omega))
  subst e
  refine ⟨b, o, l[x.toNat], rfl, getElem_of_lt hix, List.getElem_mem hix, cell_lt d0, fun hv hj hk => ?_⟩
  exact cell_at (Cells.at hl (cl_get (getElem_of_lt hix) hv hj)) (by omega)

def claimsErr (r : Rules) (l : List Cl) : Int := if 30000 < l.length then 5 else if l.all (okClB r) = false then 2 else 0

theorem firstNot_none {r : Rules} {l : List Cl} (hy : ∀ y ∈ l, followsR r l y = true) : firstNot r l = -1 := by
  unfold firstNot
  have hfi : l.findIdx? (fun c => !followsR r l c) = none := by
    rw [List.findIdx?_eq_none_iff]
    intro c hc
    rw [hy c hc]; rfl
  rw [hfi]

theorem proves_split (r : Rules) (l : List Cl) (hok : check r = 0) : provesR r l = if claimsErr r l ≠ 0 then (0, claimsErr r l) else (firstNot r l, 0) := by
  unfold provesR claimsErr
  rw [if_neg (by omega)]
  by_cases h1 : 30000 < l.length
  · rw [if_pos h1, if_pos h1]; rfl
  · rw [if_neg h1, if_neg h1]
    by_cases h2 : l.all (okClB r) = false
    · rw [if_pos h2, if_pos h2]; rfl
    · rw [if_neg h2, if_neg h2]; rfl

end Go.Proofs.R07
end
section
/- The conditions of the functions, printed by program; each is what the generator reckons (kernel_rfl). -/
namespace Go.Proofs
open Go.Vc
end Go.Proofs
end
section
/- RateProves: the walk. -/
namespace Go.Proofs.R07
open Go.Vc Go.RowKit Go.Proofs

/-- What is known of the claims that were made. -/
structure ProofIs (r : Rules) (s : St) (n : Nat) (L : List ClM) : Prop where
  head : ∃ (x : ClM) (T : List ClM), L = x :: T ∧ x.1.st = s ∧ x.1.visits = n
  few : L.length ≤ 30000
  ok : ∀ x ∈ L, okCl r x.1
  sat : ∀ x ∈ L, Sat r (plainL L) x.1
theorem proofIs {r : Rules} (hr : Good r) {s : St} (hl : s.used.length = r.ws.length) {n : Nat} {K2 : List Key} {L : List ClM} (h : Added r n (keyOf s) [] [] K2 (plainL L)) : ProofIs r s n L := by
  have hf := added_few hr h
  obtain ⟨G, _, _, hh⟩ := h
  obtain ⟨c, hc, a, rfl⟩ := hh (by simp)
  have hok : ∀ x ∈ L, okCl r x.1 ∧ Sat r (plainL L) x.1 := fun x hx => by
    have := G.ok x.1 (List.mem_map.2 ⟨x, hx, rfl⟩)
    simpa using this
  refine ⟨?_, by simpa [plainL] using hf, fun x hx => (hok x hx).1, fun x hx => (hok x hx).2⟩
  cases L with
  | nil => simp [plainL] at hc
  | cons x T =>
    simp only [plainL, List.map_cons, List.head?_cons, Option.some.injEq] at hc
    refine ⟨x, T, rfl, ?_, by rw [hc]; rfl⟩
    rw [hc]
    obtain ⟨lo, hi, us⟩ := s
    simp only [clOf, keyOf, St.mk.injEq, true_and]
    exact usedL_setOf hl
theorem ProofIs.noErr {r : Rules} {s : St} {n : Nat} {L : List ClM} (h : ProofIs r s n L) : claimsErr r (plainL L) = 0 := by
  unfold claimsErr
  have : (plainL L).all (okClB r) = true := List.all_eq_true.2 fun y hy => by
    obtain ⟨z, hz, rfl⟩ := List.mem_map.1 hy
    exact okClB_iff.2 (h.ok z hz)
  rw [if_neg (by have := h.few; simp only [plainL, List.length_map]; omega), if_neg (by rw [this]; simp)]
theorem ProofIs.all {r : Rules} (hr : Good r) {s : St} {n : Nat} {L : List ClM} (h : ProofIs r s n L) : firstNot r (plainL L) = -1 := firstNot_none fun y hy => by
  have hok : ∀ c ∈ plainL L, okCl r c := fun c hc => by obtain ⟨z, hz, rfl⟩ := List.mem_map.1 hc; exact h.ok z hz
  obtain ⟨z, hz, rfl⟩ := List.mem_map.1 hy
  exact (sat_iff hr hok (h.ok z hz)).2 (h.sat z hz)

end Go.Proofs.R07
end
section
/- RateSound: what the walk needs. -/
namespace Go.Proofs.R07
open Go.Vc Go.RowKit Go.Proofs

theorem firstNot_range (r : Rules) (l : List Cl) : firstNot r l = -1 ∨ (0 ≤ firstNot r l ∧ firstNot r l < l.length) := by
  unfold firstNot
  cases h : l.findIdx? (fun c => !followsR r l c) with
  | none => exact .inl rfl
  | some i =>
    obtain ⟨hi, _⟩ := List.findIdx?_eq_some_iff_getElem.1 h
    simp only
    omega
theorem firstNot_neg {r : Rules} {l : List Cl} (h : firstNot r l = -1) : ∀ c ∈ l, followsR r l c = true := fun c hc => by
  unfold firstNot at h
  cases hf : l.findIdx? (fun c => !followsR r l c) with
  | none =>
    rw [List.findIdx?_eq_none_iff] at hf
    simpa using hf c hc
  | some i => rw [hf] at h; simp only at h; omega
/-- A list of claims that is a proof says enough. -/
theorem proof_sound {r : Rules} (hr : Good r) {l : List Cl} (hok : ∀ c ∈ l, okCl r c) (h : firstNot r l = -1) {c : Cl} (hc : c ∈ l) : ∃ k : Nat, (k : Int) ≤ c.visits ∧ few r (setOf c.st.used) (c.st.lo, c.st.hi) = some k := by
  have hs : ∀ c ∈ l, Sat r l c := fun c hc => (sat_iff hr hok (hok c hc)).1 (firstNot_neg h c hc)
  obtain ⟨hsp, _⟩ := okCl_facts hr (hok c hc)
  have hv := (hok c hc).2
  have he := sat_sound hr hok hs c.visits.toNat c hc (by omega)
  obtain ⟨k, hk, hf⟩ := few_le hr (n := c.visits.toNat) (by omega) hsp he
  exact ⟨k, by omega, hf⟩
theorem claims_noErr {r : Rules} {l : List Cl} (hn : l.length ≤ 30000) (hok : ∀ c ∈ l, okCl r c) : claimsErr r l = 0 := by
  unfold claimsErr
  have : l.all (okClB r) = true := List.all_eq_true.2 fun y hy => okClB_iff.2 (hok y hy)
  rw [if_neg (by omega), if_neg (by rw [this]; simp)]

/-- Some of the claims, some of which say less. -/
def PartOf (L M : List ClM) : Prop := ∀ x ∈ M, ∃ y ∈ L, x.2 = y.2 ∧ x.1.st = y.1.st ∧ (x.1.visits = y.1.visits ∨ x.1.visits = max 0 (y.1.visits - 1))
theorem PartOf.ok {r : Rules} {L M : List ClM} (h : PartOf L M) (hL : ∀ x ∈ L, okCl r x.1) : ∀ x ∈ M, okCl r x.1 := fun x hx => by
  obtain ⟨y, hy, _, e, hv⟩ := h x hx
  obtain ⟨g1, g2, g3⟩ := hL y hy
  exact ⟨by rw [e]; exact g1, by omega, by omega⟩
theorem PartOf.used {L M : List ClM} {w : World} (h : PartOf L M) (hL : ∀ y ∈ L, Cells w y.2.1 (bools y.1.st.used)) : ∀ x ∈ M, Cells w x.2.1 (bools x.1.st.used) := fun x hx => by
  obtain ⟨y, hy, e1, e2, _⟩ := h x hx
  rw [e1, e2]; exact hL y hy
theorem PartOf.add {L M : List ClM} (h : PartOf L M) {x y : ClM} (hy : y ∈ L) (e1 : x.2 = y.2) (e2 : x.1.st = y.1.st) (e3 : x.1.visits = y.1.visits ∨ x.1.visits = max 0 (y.1.visits - 1)) : PartOf L (M ++ [x]) := fun z hz => by
  rcases List.mem_append.1 hz with hz | hz
  · exact h z hz
  · rw [List.mem_singleton.1 hz]; exact ⟨y, hy, e1, e2, e3⟩
/-- The first claim says another number of visits. -/
def setV (x : ClM) (v : Int) : ClM := (⟨x.1.st, v, x.1.turns, x.1.weight⟩, x.2)
theorem first_store {w : World} {x : ClM} {T : List ClM} {B n c : Nat} {ns : List Nat} {b : Nat} (h : Row 56 6 B ns (some ⟨b, 0, none⟩) n c ((x :: T).flatMap clV) w) {v : Int} {off : Nat} (ho : off = 3) {R : Value → World → Prop}
    (hR : ∀ w', Cells w' (some ⟨b, 0, none⟩) ((setV x v :: T).flatMap clV) → Chg [b] w w' → R (.tuple #[]) w') : RunsTo Try.prog ((Instr.storeAt 3 (.pointer (some ⟨b, off, none⟩)) (I v)) >>= fun _ => pure (Value.tuple #[])) w R := by
  subst ho
  rcases h.own.2 with ⟨he, _⟩ | ⟨g, cap, cur, he, hB, hg, h2, h3, h4, h5⟩
  · cases he
  simp only [Value.slice.injEq, Option.some.injEq, Addr.mk.injEq, and_true, true_and] at he
  obtain ⟨rfl, rfl⟩ := he
  have hl := h.own.1
  have hn : 6 ≤ n * 6 := by rw [← hl]; simp [clV]
  have hcs : n * 6 ≤ cur.size := by rw [h4]; exact Nat.mul_le_mul_right _ h2
  refine obj_store (cs := cur.toList) (vs := [I v]) (T := 56) (by simpa using hg) (by kernel_rfl) (by kernel_rfl) (by simp; omega) rfl (by simp; trivial) fun w' hh hc => hR w' (fun i u hi => ?_) hc
  refine ⟨b, 0, rfl, ?_⟩
  rw [Nat.zero_add]
  refine cell_obj hh ?_
  have e1 : (setV x v :: T).flatMap clV = ((x :: T).flatMap clV).set 3 (I v) := by simp [clV, setV]
  have e2 : cur.toList.take 3 ++ [I v] ++ cur.toList.drop (3 + [I v].length) = cur.toList.set 3 (I v) := by
    rw [List.set_eq_take_append_cons_drop, if_pos (by simp; omega)]
    simp
  rw [e1, List.getElem?_set] at hi
  rw [e2, List.getElem?_set]
  split at hi
  · rename_i e
    subst e
    rw [if_pos (by omega)] at hi
    rw [if_pos rfl, if_pos (by simp; omega)]
    exact hi
  · rename_i e
    rw [if_neg e]
    rw [← h5] at hi
    rw [List.getElem?_take] at hi
    split at hi
    · exact hi
    · cases hi
end Go.Proofs.R07
end
section
/- The conditions of the functions, printed by program; each is what the generator reckons (kernel_rfl). -/
namespace Go.Proofs
open Go.Vc
set_option maxRecDepth 100000 in
set_option maxHeartbeats 2000000 in
theorem vc10 (x0 : Int) (x1 : Int) (x2 : Int) (x3 : Int) (x4 : Int) (x5a : Option Addr) (x5n : Nat) (x5c : Nat) (p1at0 : Int) (p1at1 : Int) (p1at2 : Int) (somea : Option Addr)
    (somen : Nat) (somec : Nat) (w : World) (R : Ending → World → Prop) (h : ∀ (m1 : Nat), w.heap.size ≤ m1 → ∀ (m2 : Nat), w.heap.size ≤ m2 → ∀ (w1 : World), RowKit.Below
    w.heap.size w w1 → Kept [m2, m1] w w1 → Calls Try.prog 31 #[Value.agg #[Value.int IntKind.u8 x0, Value.int IntKind.u8 x1, Value.int IntKind.u8 x2, Value.int IntKind.u8 x3,
    Value.int IntKind.u8 x4, Value.slice x5a x5n x5c]] w1 fun (e1 : Ending) (w2 : World) => ∃ (x1 : Int), ∃ (x2 : Int), ∃ (x3 : Int), ∃ (x4 : Int), ∃ (x5 : Int), ∃ (a1 : Option
    Addr), ∃ (m3 : Nat), ∃ (m4 : Nat), e1 = Ending.returned (Value.agg #[Value.int IntKind.i64 x1, Value.int IntKind.i64 x2, Value.int IntKind.i64 x3, Value.int IntKind.i64 x4,
    Value.int IntKind.i64 x5, Value.slice a1 m3 m4]) ∧ KeepX true w.heap.size [m2, m1] (fun _ => False) w1 w2 ∧ ∀ (m6 : Nat), w2.heap.size ≤ m6 → ∀ (w3 : World), RowKit.Below
    w.heap.size w w3 → Kept [m6, m2, m1] w2 w3 → Calls Try.prog 32 #[Value.agg #[Value.int IntKind.i64 x1, Value.int IntKind.i64 x2, Value.int IntKind.i64 x3, Value.int IntKind.i64
    x4, Value.int IntKind.i64 x5, Value.slice a1 m3 m4], Value.agg #[Value.int IntKind.u8 p1at0, Value.int IntKind.u8 p1at1, Value.int IntKind.u8 p1at2]] w3 fun (e2 : Ending) (w4 :
    World) => ∃ (x6 : Int), ∃ (x7 : Int), ∃ (a2 : Option Addr), ∃ (m7 : Nat), ∃ (m8 : Nat), e2 = Ending.returned (Value.agg #[Value.int IntKind.i64 x6, Value.int IntKind.i64 x7,
    Value.slice a2 m7 m8]) ∧ KeepX true w.heap.size [m6, m2, m1] (fun _ => False) w3 w4 ∧ ∀ (m10 : Nat), w4.heap.size ≤ m10 → ∀ (w5 : World), RowKit.Below w.heap.size w w5 → KeptIn
    [(0, w4.heap.size)] [m10, m6, m2, m1] w4 w5 → Calls Try.prog 13 #[Value.agg #[Value.int IntKind.i64 x1, Value.int IntKind.i64 x2, Value.int IntKind.i64 x3, Value.int
    IntKind.i64 x4, Value.int IntKind.i64 x5, Value.slice a1 m3 m4]] w5 fun (e3 : Ending) (w6 : World) => ∃ (x8 : Int), ∃ (x9 : Int), ∃ (x10 : Int), ∃ (x11 : Int), ∃ (x12 : Int), ∃
    (a3 : Option Addr), ∃ (m11 : Nat), ∃ (m12 : Nat), e3 = Ending.returned (Value.agg #[Value.int IntKind.i64 x8, Value.int IntKind.i64 x9, Value.int IntKind.i64 x10, Value.int
    IntKind.i64 x11, Value.int IntKind.i64 x12, Value.slice a3 m11 m12]) ∧ KeepX true w.heap.size [m10, m6, m2, m1] (fun _ => False) w5 w6 ∧ ∀ (w7 : World), RowKit.Below
    w.heap.size w w7 → KeptIn [(0, w6.heap.size)] [m10, m6, m2, m1] w6 w7 → Calls Try.prog 14 #[Value.agg #[Value.int IntKind.i64 x6, Value.int IntKind.i64 x7, Value.slice a2 m7
    m8]] w7 fun (e4 : Ending) (w8 : World) => ∃ (x13 : Int), ∃ (x14 : Int), ∃ (a4 : Option Addr), ∃ (m14 : Nat), ∃ (m15 : Nat), e4 = Ending.returned (Value.agg #[Value.int
    IntKind.i64 x13, Value.int IntKind.i64 x14, Value.slice a4 m14 m15]) ∧ KeepX true w.heap.size [m10, m6, m2, m1] (fun _ => False) w7 w8 ∧ ∀ (w9 : World), RowKit.Below
    w.heap.size w w9 → KeptIn [(0, w8.heap.size)] [m10, m6, m2, m1] w8 w9 → Calls Try.prog 37 #[Value.agg #[Value.int IntKind.i64 x8, Value.int IntKind.i64 x9, Value.int
    IntKind.i64 x10, Value.int IntKind.i64 x11, Value.int IntKind.i64 x12, Value.slice a3 m11 m12], Value.agg #[Value.int IntKind.i64 x13, Value.int IntKind.i64 x14, Value.slice a4
    m14 m15]] w9 fun (e5 : Ending) (w10 : World) => ∃ (a5 : Option Addr), ∃ (m17 : Nat), ∃ (m18 : Nat), ∃ (x15 : Int), e5 = Ending.returned (Value.tuple #[Value.slice a5 m17 m18,
    Value.int IntKind.i64 x15]) ∧ KeepX true w.heap.size [m10, m6, m2, m1] (fun _ => False) w9 w10 ∧ (x15 ≠ 0 → (x15 = 7 → ((↑m17 : Int) = 0 → ∀ (w11 : World), RowKit.Below
    w.heap.size w w11 → Kept [m10, m6, m2, m1] w10 w11 → Calls Try.prog 12 #[] w11 fun (e6 : Ending) (w12 : World) => ∃ (t1 : Bool), e6 = Ending.returned (Value.bool t1) ∧ KeepX
    true w.heap.size [m10, m6, m2, m1] (fun _ => False) w11 w12 ∧ ∀ (w13 : World), RowKit.Below w.heap.size w w13 → Kept [m10, m6, m2, m1] w12 w13 → R (Ending.returned (Value.bool
    t1)) w13) ∧ ((↑m17 : Int) ≠ 0 → ∀ (w14 : World), RowKit.Below w.heap.size w w14 → Kept [m10, m6, m2, m1] w10 w14 → R (Ending.returned (Value.bool false)) w14)) ∧ (x15 ≠ 7 → ∀
    (w15 : World), RowKit.Below w.heap.size w w15 → Kept [m10, m6, m2, m1] w10 w15 → R (Ending.returned (Value.bool false)) w15)) ∧ (x15 = 0 → ∀ (w16 : World), RowKit.Below
    w.heap.size w w16 → KeptIn [(0, w10.heap.size)] [m10, m6, m2, m1] w10 w16 → Calls Try.prog 13 #[Value.agg #[Value.int IntKind.i64 x1, Value.int IntKind.i64 x2, Value.int
    IntKind.i64 x3, Value.int IntKind.i64 x4, Value.int IntKind.i64 x5, Value.slice a1 m3 m4]] w16 fun (e7 : Ending) (w17 : World) => ∃ (x16 : Int), ∃ (x17 : Int), ∃ (x18 : Int), ∃
    (x19 : Int), ∃ (x20 : Int), ∃ (a6 : Option Addr), ∃ (m21 : Nat), ∃ (m22 : Nat), e7 = Ending.returned (Value.agg #[Value.int IntKind.i64 x16, Value.int IntKind.i64 x17,
    Value.int IntKind.i64 x18, Value.int IntKind.i64 x19, Value.int IntKind.i64 x20, Value.slice a6 m21 m22]) ∧ KeepX true w.heap.size [m10, m6, m2, m1] (fun _ => False) w16 w17 ∧
    ∀ (w18 : World), RowKit.Below w.heap.size w w18 → KeptIn [(0, w17.heap.size)] [m10, m6, m2, m1] w17 w18 → Calls Try.prog 14 #[Value.agg #[Value.int IntKind.i64 x6, Value.int
    IntKind.i64 x7, Value.slice a2 m7 m8]] w18 fun (e8 : Ending) (w19 : World) => ∃ (x21 : Int), ∃ (x22 : Int), ∃ (a7 : Option Addr), ∃ (m24 : Nat), ∃ (m25 : Nat), e8 =
    Ending.returned (Value.agg #[Value.int IntKind.i64 x21, Value.int IntKind.i64 x22, Value.slice a7 m24 m25]) ∧ KeepX true w.heap.size [m10, m6, m2, m1] (fun _ => False) w18 w19
    ∧ ∀ (w20 : World), RowKit.Below w.heap.size w w20 → KeptIn [(0, w19.heap.size)] [m10, m6, m2, m1] w19 w20 → Calls Try.prog 24 #[Value.agg #[Value.int IntKind.i64 x16, Value.int
    IntKind.i64 x17, Value.int IntKind.i64 x18, Value.int IntKind.i64 x19, Value.int IntKind.i64 x20, Value.slice a6 m21 m22], Value.agg #[Value.int IntKind.i64 x21, Value.int
    IntKind.i64 x22, Value.slice a7 m24 m25]] w20 fun (e9 : Ending) (w21 : World) => ∃ (x23 : Int), ∃ (x24 : Int), e9 = Ending.returned (Value.tuple #[Value.int IntKind.i64 x23,
    Value.int IntKind.i64 x24]) ∧ KeepX true w.heap.size [m10, m6, m2, m1] (fun _ => False) w20 w21 ∧ ∀ (w22 : World), RowKit.Below w.heap.size w w22 → Kept [m10, m6, m2, m1] w21
    w22 → Calls Try.prog 13 #[Value.agg #[Value.int IntKind.i64 x1, Value.int IntKind.i64 x2, Value.int IntKind.i64 x3, Value.int IntKind.i64 x4, Value.int IntKind.i64 x5,
    Value.slice a1 m3 m4]] w22 fun (e10 : Ending) (w23 : World) => ∃ (x25 : Int), ∃ (x26 : Int), ∃ (x27 : Int), ∃ (x28 : Int), ∃ (x29 : Int), ∃ (a8 : Option Addr), ∃ (m28 : Nat), ∃
    (m29 : Nat), e10 = Ending.returned (Value.agg #[Value.int IntKind.i64 x25, Value.int IntKind.i64 x26, Value.int IntKind.i64 x27, Value.int IntKind.i64 x28, Value.int
    IntKind.i64 x29, Value.slice a8 m28 m29]) ∧ KeepX true w.heap.size [m10, m6, m2, m1] (fun _ => False) w22 w23 ∧ ∀ (w24 : World), RowKit.Below w.heap.size w w24 → Kept [m10, m6,
    m2, m1] w23 w24 → Calls Try.prog 27 #[Value.slice a5 m17 m18] w24 fun (e11 : Ending) (w25 : World) => ∃ (a9 : Option Addr), ∃ (m31 : Nat), ∃ (m32 : Nat), e11 = Ending.returned
    (Value.slice a9 m31 m32) ∧ KeepX true w.heap.size [m10, m6, m2, m1] (fun _ => False) w24 w25 ∧ ∀ (w26 : World), RowKit.Below w.heap.size w w26 → Kept [m10, m6, m2, m1] w25 w26
    → Calls Try.prog 28 #[Value.agg #[Value.int IntKind.i64 x25, Value.int IntKind.i64 x26, Value.int IntKind.i64 x27, Value.int IntKind.i64 x28, Value.int IntKind.i64 x29,
    Value.slice a8 m28 m29], Value.slice a9 m31 m32] w26 fun (e12 : Ending) (w27 : World) => ∃ (x30 : Int), ∃ (x31 : Int), e12 = Ending.returned (Value.tuple #[Value.int
    IntKind.i64 x30, Value.int IntKind.i64 x31]) ∧ KeepX true w.heap.size [m10, m6, m2, m1] (fun _ => False) w26 w27 ∧ (x24 ≠ 0 → ∀ (w28 : World), RowKit.Below w.heap.size w w28 →
    Kept [m10, m6, m2, m1] w27 w28 → R (Ending.returned (Value.bool false)) w28) ∧ (x24 = 0 → (x31 ≠ 0 → ∀ (w29 : World), RowKit.Below w.heap.size w w29 → Kept [m10, m6, m2, m1]
    w27 w29 → R (Ending.returned (Value.bool false)) w29) ∧ (x31 = 0 → (x30 ≠ -1 → ∀ (w30 : World), RowKit.Below w.heap.size w w30 → Kept [m10, m6, m2, m1] w27 w30 → R
    (Ending.returned (Value.bool false)) w30) ∧ (x30 = -1 → ((↑m17 : Int) = 0 → ∀ (w31 : World), RowKit.Below w.heap.size w w31 → Kept [m10, m6, m2, m1] w27 w31 → R
    (Ending.returned (Value.bool false)) w31) ∧ ((↑m17 : Int) ≠ 0 → ∃ (m35 : Nat), ∃ (m36 : Nat), a5 = some { block := m35, off := m36 } ∧ ((0 : Int) ≤ 0 ∧ 0 < (↑m17 : Int)) ∧ ∃
    (x32 : Int), w27.cell? { block := m35, off := m36 + Int.toNat 0 * 6 + 3 } = some (Value.int IntKind.i64 x32) ∧ (m35 < w.heap.size ∨ m35 ≠ m10 ∧ m35 ≠ m6 ∧ m35 ≠ m2 ∧ m35 ≠ m1)
    ∧ (x32 ≠ x23 → ∀ (w32 : World), RowKit.Below w.heap.size w w32 → Kept [m10, m6, m2, m1] w27 w32 → R (Ending.returned (Value.bool false)) w32) ∧ (x32 = x23 → ∀ (m37 : Nat),
    w27.heap.size ≤ m37 → ∃ (F1 : List Lf → World → Prop), ∃ (F2 : List Lf → Nat), (∀ (w34 : World), RowKit.Below w.heap.size w w34 → Kept [m37, m10, m6, m2, m1] w27 w34 →
    w34.heap[m37]? = some (Obj.cells #[] 56) → F1 [Lf.sl (some { block := m37, off := 0 }) 0 0, Lf.int IntKind.i64 0] w34) ∧ ∀ (a10 : Option Addr) (m39 m40 : Nat) (x33 : Int) (w35
    : World), RowKit.Below w.heap.size w w35 → F1 [Lf.sl a10 m39 m40, Lf.int IntKind.i64 x33] w35 → (x33 < (↑m17 : Int) → ∃ (m41 : Nat), ∃ (m42 : Nat), a5 = some
    { block := m41, off := m42 } ∧ (0 ≤ x33 ∧ x33 < (↑m17 : Int)) ∧ ∃ (x34 : Int), ∃ (x35 : Int), ∃ (a11 : Option Addr), ∃ (m43 : Nat), ∃ (m44 : Nat), ∃ (x36 : Int), ∃ (x37 : Int),
    ∃ (x38 : Int), w35.cell? { block := m41, off := m42 + x33.toNat * 6 } = some (Value.int IntKind.i64 x34) ∧ w35.cell? { block := m41, off := m42 + x33.toNat * 6 + 1 } = some
    (Value.int IntKind.i64 x35) ∧ w35.cell? { block := m41, off := m42 + x33.toNat * 6 + 1 + 1 } = some (Value.slice a11 m43 m44) ∧ w35.cell?
    { block := m41, off := m42 + x33.toNat * 6 + 1 + 1 + 1 } = some (Value.int IntKind.i64 x36) ∧ w35.cell? { block := m41, off := m42 + x33.toNat * 6 + 1 + 1 + 1 + 1 } = some
    (Value.int IntKind.i64 x37) ∧ w35.cell? { block := m41, off := m42 + x33.toNat * 6 + 1 + 1 + 1 + 1 + 1 } = some (Value.int IntKind.i64 x38) ∧ (m41 < w.heap.size ∨ m41 ≠ m10 ∧
    m41 ≠ m6 ∧ m41 ≠ m2 ∧ m41 ≠ m1) ∧ ∀ (m45 : Nat), w35.heap.size ≤ m45 → ∀ (w36 : World), RowKit.Below w.heap.size w w36 → Kept [m45, m10, m6, m2, m1] w35 w36 → Calls Try.prog 34
    #[Value.slice somea somen somec, Value.int IntKind.i64 x33] w36 fun (e13 : Ending) (w37 : World) => ∃ (x39 : Int), e13 = Ending.returned (Value.int IntKind.i64 x39) ∧ KeepX
    true w.heap.size [m45, m10, m6, m2, m1] (fun _ => False) w36 w37 ∧ (0 < (↑somen : Int) → (8 : Int) ≠ 0 ∧ (x39.tmod (8 : Int) = 1 → (-9223372036854775808 ≤ x33 + 1 ∧ x33 + (1 :
    Int) ≤ 9223372036854775807) ∧ ∀ (w38 : World), RowKit.Below w.heap.size w w38 → Kept [m45, m10, m6, m2, m1] w37 w38 → F1 [Lf.sl a10 m39 m40, Lf.int IntKind.i64 (x33 + 1)] w38 ∧
    F2 [Lf.sl a10 m39 m40, Lf.int IntKind.i64 (x33 + 1)] < F2 [Lf.sl a10 m39 m40, Lf.int IntKind.i64 x33]) ∧ (x39.tmod (8 : Int) ≠ 1 → (0 < (↑somen : Int) → (8 : Int) ≠ 0 ∧
    (x39.tmod (8 : Int) = 2 → (-9223372036854775808 ≤ x36 - 1 ∧ x36 - (1 : Int) ≤ 9223372036854775807) ∧ ∀ (m47 : Nat), w37.heap.size ≤ m47 → ∀ (w39 : World), RowKit.Below
    w.heap.size w w39 → Kept [m47, m45, m10, m6, m2, m1] w37 w39 → w39.heap[m47]? = some (Obj.cells #[Value.int IntKind.i64 x34, Value.int IntKind.i64 x35, Value.slice a11 m43 m44,
    Value.int IntKind.i64 (max 0 (x36 - 1)), Value.int IntKind.i64 x37, Value.int IntKind.i64 x38] 56) → RunsTo Try.prog (Builtin.append_ #[54, 54] 54 #[Value.slice a10 m39 m40,
    Value.slice (some { block := m47, off := 0 }) 1 1]) w39 fun (v1 : Value) (w40 : World) => ∃ (a12 : Option Addr), ∃ (m49 : Nat), ∃ (m50 : Nat), v1 = Value.slice a12 m49 m50 ∧
    KeepX true w.heap.size [m47, m45, m10, m6, m2, m1] (fun _ => False) w39 w40 ∧ (-9223372036854775808 ≤ x33 + 1 ∧ x33 + (1 : Int) ≤ 9223372036854775807) ∧ ∀ (w41 : World),
    RowKit.Below w.heap.size w w41 → Kept [m47, m45, m10, m6, m2, m1] w40 w41 → F1 [Lf.sl a12 m49 m50, Lf.int IntKind.i64 (x33 + 1)] w41 ∧ F2 [Lf.sl a12 m49 m50, Lf.int IntKind.i64
    (x33 + 1)] < F2 [Lf.sl a10 m39 m40, Lf.int IntKind.i64 x33]) ∧ (x39.tmod (8 : Int) ≠ 2 → ∀ (m52 : Nat), w37.heap.size ≤ m52 → ∀ (w42 : World), RowKit.Below w.heap.size w w42 →
    Kept [m52, m45, m10, m6, m2, m1] w37 w42 → w42.heap[m52]? = some (Obj.cells #[Value.int IntKind.i64 x34, Value.int IntKind.i64 x35, Value.slice a11 m43 m44, Value.int
    IntKind.i64 x36, Value.int IntKind.i64 x37, Value.int IntKind.i64 x38] 56) → RunsTo Try.prog (Builtin.append_ #[54, 54] 54 #[Value.slice a10 m39 m40, Value.slice (some
    { block := m52, off := 0 }) 1 1]) w42 fun (v2 : Value) (w43 : World) => ∃ (a13 : Option Addr), ∃ (m54 : Nat), ∃ (m55 : Nat), v2 = Value.slice a13 m54 m55 ∧ KeepX true
    w.heap.size [m52, m45, m10, m6, m2, m1] (fun _ => False) w42 w43 ∧ (-9223372036854775808 ≤ x33 + 1 ∧ x33 + (1 : Int) ≤ 9223372036854775807) ∧ ∀ (w44 : World), RowKit.Below
    w.heap.size w w44 → Kept [m52, m45, m10, m6, m2, m1] w43 w44 → F1 [Lf.sl a13 m54 m55, Lf.int IntKind.i64 (x33 + 1)] w44 ∧ F2 [Lf.sl a13 m54 m55, Lf.int IntKind.i64 (x33 + 1)] <
    F2 [Lf.sl a10 m39 m40, Lf.int IntKind.i64 x33])) ∧ ((↑somen : Int) ≤ 0 → ∀ (m57 : Nat), w37.heap.size ≤ m57 → ∀ (w45 : World), RowKit.Below w.heap.size w w45 → Kept [m57, m45,
    m10, m6, m2, m1] w37 w45 → w45.heap[m57]? = some (Obj.cells #[Value.int IntKind.i64 x34, Value.int IntKind.i64 x35, Value.slice a11 m43 m44, Value.int IntKind.i64 x36,
    Value.int IntKind.i64 x37, Value.int IntKind.i64 x38] 56) → RunsTo Try.prog (Builtin.append_ #[54, 54] 54 #[Value.slice a10 m39 m40, Value.slice (some
    { block := m57, off := 0 }) 1 1]) w45 fun (v3 : Value) (w46 : World) => ∃ (a14 : Option Addr), ∃ (m59 : Nat), ∃ (m60 : Nat), v3 = Value.slice a14 m59 m60 ∧ KeepX true
    w.heap.size [m57, m45, m10, m6, m2, m1] (fun _ => False) w45 w46 ∧ (-9223372036854775808 ≤ x33 + 1 ∧ x33 + (1 : Int) ≤ 9223372036854775807) ∧ ∀ (w47 : World), RowKit.Below
    w.heap.size w w47 → Kept [m57, m45, m10, m6, m2, m1] w46 w47 → F1 [Lf.sl a14 m59 m60, Lf.int IntKind.i64 (x33 + 1)] w47 ∧ F2 [Lf.sl a14 m59 m60, Lf.int IntKind.i64 (x33 + 1)] <
    F2 [Lf.sl a10 m39 m40, Lf.int IntKind.i64 x33]))) ∧ ((↑somen : Int) ≤ 0 → (0 < (↑somen : Int) → (8 : Int) ≠ 0 ∧ (x39.tmod (8 : Int) = 2 → (-9223372036854775808 ≤ x36 - 1 ∧ x36
    - (1 : Int) ≤ 9223372036854775807) ∧ ∀ (m62 : Nat), w37.heap.size ≤ m62 → ∀ (w48 : World), RowKit.Below w.heap.size w w48 → Kept [m62, m45, m10, m6, m2, m1] w37 w48 →
    w48.heap[m62]? = some (Obj.cells #[Value.int IntKind.i64 x34, Value.int IntKind.i64 x35, Value.slice a11 m43 m44, Value.int IntKind.i64 (max 0 (x36 - 1)), Value.int IntKind.i64
    x37, Value.int IntKind.i64 x38] 56) → RunsTo Try.prog (Builtin.append_ #[54, 54] 54 #[Value.slice a10 m39 m40, Value.slice (some { block := m62, off := 0 }) 1 1]) w48 fun (v4 :
    Value) (w49 : World) => ∃ (a15 : Option Addr), ∃ (m64 : Nat), ∃ (m65 : Nat), v4 = Value.slice a15 m64 m65 ∧ KeepX true w.heap.size [m62, m45, m10, m6, m2, m1] (fun _ => False)
    w48 w49 ∧ (-9223372036854775808 ≤ x33 + 1 ∧ x33 + (1 : Int) ≤ 9223372036854775807) ∧ ∀ (w50 : World), RowKit.Below w.heap.size w w50 → Kept [m62, m45, m10, m6, m2, m1] w49 w50
    → F1 [Lf.sl a15 m64 m65, Lf.int IntKind.i64 (x33 + 1)] w50 ∧ F2 [Lf.sl a15 m64 m65, Lf.int IntKind.i64 (x33 + 1)] < F2 [Lf.sl a10 m39 m40, Lf.int IntKind.i64 x33]) ∧ (x39.tmod
    (8 : Int) ≠ 2 → ∀ (m67 : Nat), w37.heap.size ≤ m67 → ∀ (w51 : World), RowKit.Below w.heap.size w w51 → Kept [m67, m45, m10, m6, m2, m1] w37 w51 → w51.heap[m67]? = some
    (Obj.cells #[Value.int IntKind.i64 x34, Value.int IntKind.i64 x35, Value.slice a11 m43 m44, Value.int IntKind.i64 x36, Value.int IntKind.i64 x37, Value.int IntKind.i64 x38] 56)
    → RunsTo Try.prog (Builtin.append_ #[54, 54] 54 #[Value.slice a10 m39 m40, Value.slice (some { block := m67, off := 0 }) 1 1]) w51 fun (v5 : Value) (w52 : World) => ∃ (a16 :
    Option Addr), ∃ (m69 : Nat), ∃ (m70 : Nat), v5 = Value.slice a16 m69 m70 ∧ KeepX true w.heap.size [m67, m45, m10, m6, m2, m1] (fun _ => False) w51 w52 ∧ (-9223372036854775808 ≤
    x33 + 1 ∧ x33 + (1 : Int) ≤ 9223372036854775807) ∧ ∀ (w53 : World), RowKit.Below w.heap.size w w53 → Kept [m67, m45, m10, m6, m2, m1] w52 w53 → F1 [Lf.sl a16 m69 m70, Lf.int
    IntKind.i64 (x33 + 1)] w53 ∧ F2 [Lf.sl a16 m69 m70, Lf.int IntKind.i64 (x33 + 1)] < F2 [Lf.sl a10 m39 m40, Lf.int IntKind.i64 x33])) ∧ ((↑somen : Int) ≤ 0 → ∀ (m72 : Nat),
    w37.heap.size ≤ m72 → ∀ (w54 : World), RowKit.Below w.heap.size w w54 → Kept [m72, m45, m10, m6, m2, m1] w37 w54 → w54.heap[m72]? = some (Obj.cells #[Value.int IntKind.i64 x34,
    Value.int IntKind.i64 x35, Value.slice a11 m43 m44, Value.int IntKind.i64 x36, Value.int IntKind.i64 x37, Value.int IntKind.i64 x38] 56) → RunsTo Try.prog (Builtin.append_
    #[54, 54] 54 #[Value.slice a10 m39 m40, Value.slice (some { block := m72, off := 0 }) 1 1]) w54 fun (v6 : Value) (w55 : World) => ∃ (a17 : Option Addr), ∃ (m74 : Nat), ∃ (m75 :
    Nat), v6 = Value.slice a17 m74 m75 ∧ KeepX true w.heap.size [m72, m45, m10, m6, m2, m1] (fun _ => False) w54 w55 ∧ (-9223372036854775808 ≤ x33 + 1 ∧ x33 + (1 : Int) ≤
    9223372036854775807) ∧ ∀ (w56 : World), RowKit.Below w.heap.size w w56 → Kept [m72, m45, m10, m6, m2, m1] w55 w56 → F1 [Lf.sl a17 m74 m75, Lf.int IntKind.i64 (x33 + 1)] w56 ∧
    F2 [Lf.sl a17 m74 m75, Lf.int IntKind.i64 (x33 + 1)] < F2 [Lf.sl a10 m39 m40, Lf.int IntKind.i64 x33]))) ∧ ((↑m17 : Int) ≤ x33 → ∀ (w57 : World), RowKit.Below w.heap.size w w57
    → Kept [m10, m6, m2, m1] w35 w57 → Calls Try.prog 13 #[Value.agg #[Value.int IntKind.i64 x1, Value.int IntKind.i64 x2, Value.int IntKind.i64 x3, Value.int IntKind.i64 x4,
    Value.int IntKind.i64 x5, Value.slice a1 m3 m4]] w57 fun (e14 : Ending) (w58 : World) => ∃ (x40 : Int), ∃ (x41 : Int), ∃ (x42 : Int), ∃ (x43 : Int), ∃ (x44 : Int), ∃ (a18 :
    Option Addr), ∃ (m77 : Nat), ∃ (m78 : Nat), e14 = Ending.returned (Value.agg #[Value.int IntKind.i64 x40, Value.int IntKind.i64 x41, Value.int IntKind.i64 x42, Value.int
    IntKind.i64 x43, Value.int IntKind.i64 x44, Value.slice a18 m77 m78]) ∧ KeepX true w.heap.size [m10, m6, m2, m1] (fun _ => False) w57 w58 ∧ ∀ (w59 : World), RowKit.Below
    w.heap.size w w59 → Kept [m10, m6, m2, m1] w58 w59 → Calls Try.prog 27 #[Value.slice a10 m39 m40] w59 fun (e15 : Ending) (w60 : World) => ∃ (a19 : Option Addr), ∃ (m80 : Nat),
    ∃ (m81 : Nat), e15 = Ending.returned (Value.slice a19 m80 m81) ∧ KeepX true w.heap.size [m10, m6, m2, m1] (fun _ => False) w59 w60 ∧ ∀ (w61 : World), RowKit.Below w.heap.size w
    w61 → Kept [m10, m6, m2, m1] w60 w61 → Calls Try.prog 28 #[Value.agg #[Value.int IntKind.i64 x40, Value.int IntKind.i64 x41, Value.int IntKind.i64 x42, Value.int IntKind.i64
    x43, Value.int IntKind.i64 x44, Value.slice a18 m77 m78], Value.slice a19 m80 m81] w61 fun (e16 : Ending) (w62 : World) => ∃ (x45 : Int), ∃ (x46 : Int), e16 = Ending.returned
    (Value.tuple #[Value.int IntKind.i64 x45, Value.int IntKind.i64 x46]) ∧ KeepX true w.heap.size [m10, m6, m2, m1] (fun _ => False) w61 w62 ∧ (x46 ≠ 0 → ∀ (w63 : World),
    RowKit.Below w.heap.size w w63 → Kept [m10, m6, m2, m1] w62 w63 → R (Ending.returned (Value.bool false)) w63) ∧ (x46 = 0 → (x45 < -1 → ∀ (w64 : World), RowKit.Below w.heap.size
    w w64 → Kept [m10, m6, m2, m1] w62 w64 → R (Ending.returned (Value.bool false)) w64) ∧ (-1 ≤ x45 → ((↑m39 : Int) ≤ x45 → ∀ (w65 : World), RowKit.Below w.heap.size w w65 → Kept
    [m10, m6, m2, m1] w62 w65 → R (Ending.returned (Value.bool false)) w65) ∧ (x45 < (↑m39 : Int) → ∃ (F3 : List Lf → World → Prop), ∃ (F4 : List Lf → Nat), (∀ (w67 : World),
    RowKit.Below w.heap.size w w67 → Kept [m10, m6, m2, m1] w62 w67 → F3 [Lf.bool false, Lf.int IntKind.i64 0] w67) ∧ ∀ (t2 : Bool) (x47 : Int) (w68 : World), RowKit.Below
    w.heap.size w w68 → F3 [Lf.bool t2, Lf.int IntKind.i64 x47] w68 → (x47 < (↑m39 : Int) → (x47 < 12 → (x45 = -1 → ∀ (w69 : World), RowKit.Below w.heap.size w w69 → KeptIn [(0,
    w68.heap.size)] [m10, m6, m2, m1] w68 w69 → Calls Try.prog 13 #[Value.agg #[Value.int IntKind.i64 x1, Value.int IntKind.i64 x2, Value.int IntKind.i64 x3, Value.int IntKind.i64
    x4, Value.int IntKind.i64 x5, Value.slice a1 m3 m4]] w69 fun (e17 : Ending) (w70 : World) => ∃ (x48 : Int), ∃ (x49 : Int), ∃ (x50 : Int), ∃ (x51 : Int), ∃ (x52 : Int), ∃ (a20 :
    Option Addr), ∃ (m84 : Nat), ∃ (m85 : Nat), e17 = Ending.returned (Value.agg #[Value.int IntKind.i64 x48, Value.int IntKind.i64 x49, Value.int IntKind.i64 x50, Value.int
    IntKind.i64 x51, Value.int IntKind.i64 x52, Value.slice a20 m84 m85]) ∧ RowKit.Below w69.heap.size w69 w70 ∧ ∃ (m86 : Nat), ∃ (m87 : Nat), a10 = some
    { block := m86, off := m87 } ∧ (0 ≤ x47 ∧ x47 < (↑m39 : Int)) ∧ ∃ (x53 : Int), ∃ (x54 : Int), ∃ (a21 : Option Addr), ∃ (m88 : Nat), ∃ (m89 : Nat), w68.cell?
    { block := m86, off := m87 + x47.toNat * 6 + 0 } = some (Value.int IntKind.i64 x53) ∧ w68.cell? { block := m86, off := m87 + x47.toNat * 6 + 0 + 1 } = some (Value.int
    IntKind.i64 x54) ∧ w68.cell? { block := m86, off := m87 + x47.toNat * 6 + 0 + 1 + 1 } = some (Value.slice a21 m88 m89) ∧ (m86 < w.heap.size ∨ m86 ≠ m10 ∧ m86 ≠ m6 ∧ m86 ≠ m2 ∧
    m86 ≠ m1) ∧ ∀ (w71 : World), RowKit.Below w.heap.size w w71 → KeptIn [(0, w68.heap.size), (w69.heap.size, w70.heap.size)] [m10, m6, m2, m1] w70 w71 → Calls Try.prog 14
    #[Value.agg #[Value.int IntKind.i64 x53, Value.int IntKind.i64 x54, Value.slice a21 m88 m89]] w71 fun (e18 : Ending) (w72 : World) => ∃ (x55 : Int), ∃ (x56 : Int), ∃ (a22 :
    Option Addr), ∃ (m90 : Nat), ∃ (m91 : Nat), e18 = Ending.returned (Value.agg #[Value.int IntKind.i64 x55, Value.int IntKind.i64 x56, Value.slice a22 m90 m91]) ∧ KeepX true
    w.heap.size [m10, m6, m2, m1] (fun _ => False) w71 w72 ∧ ∀ (w73 : World), RowKit.Below w.heap.size w w73 → KeptIn [(0, w72.heap.size)] [m10, m6, m2, m1] w72 w73 → Calls
    Try.prog 24 #[Value.agg #[Value.int IntKind.i64 x48, Value.int IntKind.i64 x49, Value.int IntKind.i64 x50, Value.int IntKind.i64 x51, Value.int IntKind.i64 x52, Value.slice a20
    m84 m85], Value.agg #[Value.int IntKind.i64 x55, Value.int IntKind.i64 x56, Value.slice a22 m90 m91]] w73 fun (e19 : Ending) (w74 : World) => ∃ (x57 : Int), ∃ (x58 : Int), e19
    = Ending.returned (Value.tuple #[Value.int IntKind.i64 x57, Value.int IntKind.i64 x58]) ∧ KeepX true w.heap.size [m10, m6, m2, m1] (fun _ => False) w73 w74 ∧ (x58 ≠ 0 → ∀ (w75
    : World), RowKit.Below w.heap.size w w75 → Kept [m10, m6, m2, m1] w74 w75 → R (Ending.returned (Value.bool false)) w75) ∧ (x58 = 0 → ∃ (m94 : Nat), ∃ (m95 : Nat), a10 = some
    { block := m94, off := m95 } ∧ (0 ≤ x47 ∧ x47 < (↑m39 : Int)) ∧ ∃ (x59 : Int), w74.cell? { block := m94, off := m95 + x47.toNat * 6 + 3 } = some (Value.int IntKind.i64 x59) ∧
    (m94 < w.heap.size ∨ m94 ≠ m10 ∧ m94 ≠ m6 ∧ m94 ≠ m2 ∧ m94 ≠ m1) ∧ (x59 < x57 → ∀ (w76 : World), RowKit.Below w.heap.size w w76 → Kept [m10, m6, m2, m1] w74 w76 → R
    (Ending.returned (Value.bool false)) w76) ∧ (x57 ≤ x59 → (-9223372036854775808 ≤ x47 + 1 ∧ x47 + (1 : Int) ≤ 9223372036854775807) ∧ ∀ (w77 : World), RowKit.Below w.heap.size w
    w77 → Kept [m10, m6, m2, m1] w74 w77 → F3 [Lf.bool t2, Lf.int IntKind.i64 (x47 + 1)] w77 ∧ F4 [Lf.bool t2, Lf.int IntKind.i64 (x47 + 1)] < F4 [Lf.bool t2, Lf.int IntKind.i64
    x47]))) ∧ (x45 ≠ -1 → (x23 = 0 → ∀ (w78 : World), RowKit.Below w.heap.size w w78 → Kept [m10, m6, m2, m1] w68 w78 → Calls Try.prog 12 #[] w78 fun (e20 : Ending) (w79 : World)
    => ∃ (t3 : Bool), e20 = Ending.returned (Value.bool t3) ∧ KeepX true w.heap.size [m10, m6, m2, m1] (fun _ => False) w78 w79 ∧ ∀ (w80 : World), RowKit.Below w.heap.size w w80 →
    Kept [m10, m6, m2, m1] w79 w80 → R (Ending.returned (Value.bool t3)) w80) ∧ (x23 ≠ 0 → ∀ (w81 : World), RowKit.Below w.heap.size w w81 → Kept [m10, m6, m2, m1] w68 w81 → Calls
    Try.prog 27 #[Value.slice a5 m17 m18] w81 fun (e21 : Ending) (w82 : World) => ∃ (a23 : Option Addr), ∃ (m97 : Nat), ∃ (m98 : Nat), e21 = Ending.returned (Value.slice a23 m97
    m98) ∧ KeepX true w.heap.size [m10, m6, m2, m1] (fun _ => False) w81 w82 ∧ ∃ (m100 : Nat), ∃ (m101 : Nat), a23 = some { block := m100, off := m101 } ∧ ((0 : Int) ≤ 0 ∧ 0 <
    (↑m97 : Int)) ∧ ∃ (x60 : Int), w82.cell? { block := m100, off := m101 + Int.toNat 0 * 6 + 3 } = some (Value.int IntKind.i64 x60) ∧ (m100 < w.heap.size ∨ m100 ≠ m10 ∧ m100 ≠ m6
    ∧ m100 ≠ m2 ∧ m100 ≠ m1) ∧ (-9223372036854775808 ≤ x60 - 1 ∧ x60 - (1 : Int) ≤ 9223372036854775807) ∧ ∃ (m102 : Nat), ∃ (m103 : Nat), a23 = some { block := m102, off := m103 }
    ∧ ((0 : Int) ≤ 0 ∧ 0 < (↑m97 : Int)) ∧ ∀ (w83 : World), RowKit.Below w.heap.size w w83 → Kept [m10, m6, m2, m1] w82 w83 → RunsTo Try.prog ((Instr.storeAt 3 (Value.pointer (some
    { block := m102, off := m103 + Int.toNat 0 * 6 + 3 })) (Value.int IntKind.i64 (x60 - 1))) >>= fun _ => pure (Value.tuple #[])) w83 fun (v7 : Value) (w84 : World) => KeepX true
    w.heap.size [m10, m6, m2, m1] (fun _ => False) w83 w84 ∧ ∀ (w85 : World), RowKit.Below w.heap.size w w85 → Kept [m10, m6, m2, m1] w84 w85 → Calls Try.prog 13 #[Value.agg
    #[Value.int IntKind.i64 x1, Value.int IntKind.i64 x2, Value.int IntKind.i64 x3, Value.int IntKind.i64 x4, Value.int IntKind.i64 x5, Value.slice a1 m3 m4]] w85 fun (e22 :
    Ending) (w86 : World) => ∃ (x61 : Int), ∃ (x62 : Int), ∃ (x63 : Int), ∃ (x64 : Int), ∃ (x65 : Int), ∃ (a24 : Option Addr), ∃ (m105 : Nat), ∃ (m106 : Nat), e22 = Ending.returned
    (Value.agg #[Value.int IntKind.i64 x61, Value.int IntKind.i64 x62, Value.int IntKind.i64 x63, Value.int IntKind.i64 x64, Value.int IntKind.i64 x65, Value.slice a24 m105 m106])
    ∧ KeepX true w.heap.size [m10, m6, m2, m1] (fun _ => False) w85 w86 ∧ ∀ (w87 : World), RowKit.Below w.heap.size w w87 → Kept [m10, m6, m2, m1] w86 w87 → Calls Try.prog 28
    #[Value.agg #[Value.int IntKind.i64 x61, Value.int IntKind.i64 x62, Value.int IntKind.i64 x63, Value.int IntKind.i64 x64, Value.int IntKind.i64 x65, Value.slice a24 m105 m106],
    Value.slice a23 m97 m98] w87 fun (e23 : Ending) (w88 : World) => ∃ (x66 : Int), ∃ (x67 : Int), e23 = Ending.returned (Value.tuple #[Value.int IntKind.i64 x66, Value.int
    IntKind.i64 x67]) ∧ KeepX true w.heap.size [m10, m6, m2, m1] (fun _ => False) w87 w88 ∧ (x67 = 0 → (0 ≤ x66 → ∀ (w89 : World), RowKit.Below w.heap.size w w89 → Kept [m10, m6,
    m2, m1] w88 w89 → Calls Try.prog 12 #[] w89 fun (e24 : Ending) (w90 : World) => ∃ (t4 : Bool), e24 = Ending.returned (Value.bool t4) ∧ KeepX true w.heap.size [m10, m6, m2, m1]
    (fun _ => False) w89 w90 ∧ ∀ (w91 : World), RowKit.Below w.heap.size w w91 → Kept [m10, m6, m2, m1] w90 w91 → R (Ending.returned (Value.bool t4)) w91) ∧ (x66 < 0 → ∀ (w92 :
    World), RowKit.Below w.heap.size w w92 → Kept [m10, m6, m2, m1] w88 w92 → R (Ending.returned (Value.bool false)) w92)) ∧ (x67 ≠ 0 → ∀ (w93 : World), RowKit.Below w.heap.size w
    w93 → Kept [m10, m6, m2, m1] w88 w93 → R (Ending.returned (Value.bool false)) w93)))) ∧ (12 ≤ x47 → (x23 = 0 → ∀ (w94 : World), RowKit.Below w.heap.size w w94 → Kept [m10, m6,
    m2, m1] w68 w94 → Calls Try.prog 12 #[] w94 fun (e25 : Ending) (w95 : World) => ∃ (t5 : Bool), e25 = Ending.returned (Value.bool t5) ∧ KeepX true w.heap.size [m10, m6, m2, m1]
    (fun _ => False) w94 w95 ∧ ∀ (w96 : World), RowKit.Below w.heap.size w w96 → Kept [m10, m6, m2, m1] w95 w96 → R (Ending.returned (Value.bool t5)) w96) ∧ (x23 ≠ 0 → ∀ (w97 :
    World), RowKit.Below w.heap.size w w97 → Kept [m10, m6, m2, m1] w68 w97 → Calls Try.prog 27 #[Value.slice a5 m17 m18] w97 fun (e26 : Ending) (w98 : World) => ∃ (a25 : Option
    Addr), ∃ (m111 : Nat), ∃ (m112 : Nat), e26 = Ending.returned (Value.slice a25 m111 m112) ∧ KeepX true w.heap.size [m10, m6, m2, m1] (fun _ => False) w97 w98 ∧ ∃ (m114 : Nat), ∃
    (m115 : Nat), a25 = some { block := m114, off := m115 } ∧ ((0 : Int) ≤ 0 ∧ 0 < (↑m111 : Int)) ∧ ∃ (x68 : Int), w98.cell? { block := m114, off := m115 + Int.toNat 0 * 6 + 3 } =
    some (Value.int IntKind.i64 x68) ∧ (m114 < w.heap.size ∨ m114 ≠ m10 ∧ m114 ≠ m6 ∧ m114 ≠ m2 ∧ m114 ≠ m1) ∧ (-9223372036854775808 ≤ x68 - 1 ∧ x68 - (1 : Int) ≤
    9223372036854775807) ∧ ∃ (m116 : Nat), ∃ (m117 : Nat), a25 = some { block := m116, off := m117 } ∧ ((0 : Int) ≤ 0 ∧ 0 < (↑m111 : Int)) ∧ ∀ (w99 : World), RowKit.Below
    w.heap.size w w99 → Kept [m10, m6, m2, m1] w98 w99 → RunsTo Try.prog ((Instr.storeAt 3 (Value.pointer (some { block := m116, off := m117 + Int.toNat 0 * 6 + 3 })) (Value.int
    IntKind.i64 (x68 - 1))) >>= fun _ => pure (Value.tuple #[])) w99 fun (v8 : Value) (w100 : World) => KeepX true w.heap.size [m10, m6, m2, m1] (fun _ => False) w99 w100 ∧ ∀ (w101
    : World), RowKit.Below w.heap.size w w101 → Kept [m10, m6, m2, m1] w100 w101 → Calls Try.prog 13 #[Value.agg #[Value.int IntKind.i64 x1, Value.int IntKind.i64 x2, Value.int
    IntKind.i64 x3, Value.int IntKind.i64 x4, Value.int IntKind.i64 x5, Value.slice a1 m3 m4]] w101 fun (e27 : Ending) (w102 : World) => ∃ (x69 : Int), ∃ (x70 : Int), ∃ (x71 :
    Int), ∃ (x72 : Int), ∃ (x73 : Int), ∃ (a26 : Option Addr), ∃ (m119 : Nat), ∃ (m120 : Nat), e27 = Ending.returned (Value.agg #[Value.int IntKind.i64 x69, Value.int IntKind.i64
    x70, Value.int IntKind.i64 x71, Value.int IntKind.i64 x72, Value.int IntKind.i64 x73, Value.slice a26 m119 m120]) ∧ KeepX true w.heap.size [m10, m6, m2, m1] (fun _ => False)
    w101 w102 ∧ ∀ (w103 : World), RowKit.Below w.heap.size w w103 → Kept [m10, m6, m2, m1] w102 w103 → Calls Try.prog 28 #[Value.agg #[Value.int IntKind.i64 x69, Value.int
    IntKind.i64 x70, Value.int IntKind.i64 x71, Value.int IntKind.i64 x72, Value.int IntKind.i64 x73, Value.slice a26 m119 m120], Value.slice a25 m111 m112] w103 fun (e28 : Ending)
    (w104 : World) => ∃ (x74 : Int), ∃ (x75 : Int), e28 = Ending.returned (Value.tuple #[Value.int IntKind.i64 x74, Value.int IntKind.i64 x75]) ∧ KeepX true w.heap.size [m10, m6,
    m2, m1] (fun _ => False) w103 w104 ∧ (x75 = 0 → (0 ≤ x74 → ∀ (w105 : World), RowKit.Below w.heap.size w w105 → Kept [m10, m6, m2, m1] w104 w105 → Calls Try.prog 12 #[] w105 fun
    (e29 : Ending) (w106 : World) => ∃ (t6 : Bool), e29 = Ending.returned (Value.bool t6) ∧ KeepX true w.heap.size [m10, m6, m2, m1] (fun _ => False) w105 w106 ∧ ∀ (w107 : World),
    RowKit.Below w.heap.size w w107 → Kept [m10, m6, m2, m1] w106 w107 → R (Ending.returned (Value.bool t6)) w107) ∧ (x74 < 0 → ∀ (w108 : World), RowKit.Below w.heap.size w w108 →
    Kept [m10, m6, m2, m1] w104 w108 → R (Ending.returned (Value.bool false)) w108)) ∧ (x75 ≠ 0 → ∀ (w109 : World), RowKit.Below w.heap.size w w109 → Kept [m10, m6, m2, m1] w104
    w109 → R (Ending.returned (Value.bool false)) w109)))) ∧ ((↑m39 : Int) ≤ x47 → (x23 = 0 → ∀ (w110 : World), RowKit.Below w.heap.size w w110 → Kept [m10, m6, m2, m1] w68 w110 →
    Calls Try.prog 12 #[] w110 fun (e30 : Ending) (w111 : World) => ∃ (t7 : Bool), e30 = Ending.returned (Value.bool t7) ∧ KeepX true w.heap.size [m10, m6, m2, m1] (fun _ => False)
    w110 w111 ∧ ∀ (w112 : World), RowKit.Below w.heap.size w w112 → Kept [m10, m6, m2, m1] w111 w112 → R (Ending.returned (Value.bool t7)) w112) ∧ (x23 ≠ 0 → ∀ (w113 : World),
    RowKit.Below w.heap.size w w113 → Kept [m10, m6, m2, m1] w68 w113 → Calls Try.prog 27 #[Value.slice a5 m17 m18] w113 fun (e31 : Ending) (w114 : World) => ∃ (a27 : Option Addr),
    ∃ (m125 : Nat), ∃ (m126 : Nat), e31 = Ending.returned (Value.slice a27 m125 m126) ∧ KeepX true w.heap.size [m10, m6, m2, m1] (fun _ => False) w113 w114 ∧ ∃ (m128 : Nat), ∃
    (m129 : Nat), a27 = some { block := m128, off := m129 } ∧ ((0 : Int) ≤ 0 ∧ 0 < (↑m125 : Int)) ∧ ∃ (x76 : Int), w114.cell? { block := m128, off := m129 + Int.toNat 0 * 6 + 3 } =
    some (Value.int IntKind.i64 x76) ∧ (m128 < w.heap.size ∨ m128 ≠ m10 ∧ m128 ≠ m6 ∧ m128 ≠ m2 ∧ m128 ≠ m1) ∧ (-9223372036854775808 ≤ x76 - 1 ∧ x76 - (1 : Int) ≤
    9223372036854775807) ∧ ∃ (m130 : Nat), ∃ (m131 : Nat), a27 = some { block := m130, off := m131 } ∧ ((0 : Int) ≤ 0 ∧ 0 < (↑m125 : Int)) ∧ ∀ (w115 : World), RowKit.Below
    w.heap.size w w115 → Kept [m10, m6, m2, m1] w114 w115 → RunsTo Try.prog ((Instr.storeAt 3 (Value.pointer (some { block := m130, off := m131 + Int.toNat 0 * 6 + 3 })) (Value.int
    IntKind.i64 (x76 - 1))) >>= fun _ => pure (Value.tuple #[])) w115 fun (v9 : Value) (w116 : World) => KeepX true w.heap.size [m10, m6, m2, m1] (fun _ => False) w115 w116 ∧ ∀
    (w117 : World), RowKit.Below w.heap.size w w117 → Kept [m10, m6, m2, m1] w116 w117 → Calls Try.prog 13 #[Value.agg #[Value.int IntKind.i64 x1, Value.int IntKind.i64 x2,
    Value.int IntKind.i64 x3, Value.int IntKind.i64 x4, Value.int IntKind.i64 x5, Value.slice a1 m3 m4]] w117 fun (e32 : Ending) (w118 : World) => ∃ (x77 : Int), ∃ (x78 : Int), ∃
    (x79 : Int), ∃ (x80 : Int), ∃ (x81 : Int), ∃ (a28 : Option Addr), ∃ (m133 : Nat), ∃ (m134 : Nat), e32 = Ending.returned (Value.agg #[Value.int IntKind.i64 x77, Value.int
    IntKind.i64 x78, Value.int IntKind.i64 x79, Value.int IntKind.i64 x80, Value.int IntKind.i64 x81, Value.slice a28 m133 m134]) ∧ KeepX true w.heap.size [m10, m6, m2, m1] (fun _
    => False) w117 w118 ∧ ∀ (w119 : World), RowKit.Below w.heap.size w w119 → Kept [m10, m6, m2, m1] w118 w119 → Calls Try.prog 28 #[Value.agg #[Value.int IntKind.i64 x77,
    Value.int IntKind.i64 x78, Value.int IntKind.i64 x79, Value.int IntKind.i64 x80, Value.int IntKind.i64 x81, Value.slice a28 m133 m134], Value.slice a27 m125 m126] w119 fun (e33
    : Ending) (w120 : World) => ∃ (x82 : Int), ∃ (x83 : Int), e33 = Ending.returned (Value.tuple #[Value.int IntKind.i64 x82, Value.int IntKind.i64 x83]) ∧ KeepX true w.heap.size
    [m10, m6, m2, m1] (fun _ => False) w119 w120 ∧ (x83 = 0 → (0 ≤ x82 → ∀ (w121 : World), RowKit.Below w.heap.size w w121 → Kept [m10, m6, m2, m1] w120 w121 → Calls Try.prog 12
    #[] w121 fun (e34 : Ending) (w122 : World) => ∃ (t8 : Bool), e34 = Ending.returned (Value.bool t8) ∧ KeepX true w.heap.size [m10, m6, m2, m1] (fun _ => False) w121 w122 ∧ ∀
    (w123 : World), RowKit.Below w.heap.size w w123 → Kept [m10, m6, m2, m1] w122 w123 → R (Ending.returned (Value.bool t8)) w123) ∧ (x82 < 0 → ∀ (w124 : World), RowKit.Below
    w.heap.size w w124 → Kept [m10, m6, m2, m1] w120 w124 → R (Ending.returned (Value.bool false)) w124)) ∧ (x83 ≠ 0 → ∀ (w125 : World), RowKit.Below w.heap.size w w125 → Kept
    [m10, m6, m2, m1] w120 w125 → R (Ending.returned (Value.bool false)) w125)))))))))))))) : Calls Try.prog 10 #[Value.agg #[Value.int IntKind.u8 x0, Value.int IntKind.u8 x1,
    Value.int IntKind.u8 x2, Value.int IntKind.u8 x3, Value.int IntKind.u8 x4, Value.slice x5a x5n x5c], Value.agg #[Value.int IntKind.u8 p1at0, Value.int IntKind.u8 p1at1,
    Value.int IntKind.u8 p1at2], Value.slice somea somen somec] w R := calls_of_vc (pure := true) (wrapAt := []) (muts := []) (esc := []) (args := [SV.pv (PV.agg [Lf.int IntKind.u8
    x0, Lf.int IntKind.u8 x1, Lf.int IntKind.u8 x2, Lf.int IntKind.u8 x3, Lf.int IntKind.u8 x4, Lf.sl x5a x5n x5c]), SV.pv (PV.agg [Lf.int IntKind.u8 p1at0, Lf.int IntKind.u8
    p1at1, Lf.int IntKind.u8 p1at2]), SV.pv (PV.one (Lf.sl somea somen somec))]) (vs := [Value.agg #[Value.int IntKind.u8 x0, Value.int IntKind.u8 x1, Value.int IntKind.u8 x2,
    Value.int IntKind.u8 x3, Value.int IntKind.u8 x4, Value.slice x5a x5n x5c], Value.agg #[Value.int IntKind.u8 p1at0, Value.int IntKind.u8 p1at1, Value.int IntKind.u8 p1at2],
    Value.slice somea somen somec]) Try.func10 rfl rfl rfl (Eq.mp (by kernel_rfl) h) 
end Go.Proofs
end
section
/- RateSound: the walk. -/
namespace Go.Proofs.R07
open Go.Vc Go.RowKit Go.Proofs

set_option maxRecDepth 100000 in
set_option maxHeartbeats 8000000 in
theorem rateSound_any {x0 x1 x2 x3 x4 : Int} (h0 : U8 x0) (h1 : U8 x1) (h2 : U8 x2) (h3 : U8 x3) (h4 : U8 x4) {l : List Sp} (hl : ∀ p ∈ l, U8 p.1 ∧ U8 p.2) {y0 y1 y2 : Int} (q0 : U8 y0) (q1 : U8 y1) {some_ : List Int} (hso : ∀ x ∈ some_, U8 x)
    {a b : Option Addr} {c d : Nat} {w : World} (hc : Cells w a (pairs8 l)) (hb : Cells w b (bytes some_)) :
    Calls Try.prog 10 #[.agg #[J x0, J x1, J x2, J x3, J x4, .slice a l.length c], .agg #[J y0, J y1, J y2], .slice b some_.length d] w (Pure w (.bool true)) := by
  refine vc10 _ _ _ _ _ _ _ _ _ _ _ _ _ _ w _ fun m1 i1 m2 i2 w1 B1 k1 => ?_
  have z1 := k1.size
  have o1 := k1.own
  refine (rules_any h0 h1 h2 h3 h4 hl (hc.keep B1)).mono fun e w2 he => ?_
  obtain ⟨a1, c1, rfl, b2, A2, _, N2⟩ := he
  have z2 := b2.size
  have hr := mkR_good x0 x1 x2 x3 x4 l
  generalize mkR x0 x1 x2 x3 x4 l = r at *
  have hlen := hr.1
  have hchk := check_good hr
  refine ⟨_, _, _, _, _, a1, _, c1, rfl, .all b2, fun m6 i6 w3 B3 k3 => ?_⟩
  have z3 := k3.size
  have o3 := k3.own
  have R2 : Lies [] w1.heap.size w2.heap.size w2 a1 (spans r.ws) := Lies.new A2 N2 (by simp)
  have R3 := R2.out (Chg.kept k3) (fun x hx => by
    have q1 := o1 m1 (by simp); have q2 := o1 m2 (by simp)
    simp only [List.mem_cons, List.not_mem_nil, or_false] at hx
    omega)
  refine (begin_any r (by omega) q0 q1).mono fun e w4 he => ?_
  obtain ⟨a2, c2, rfl, b4, D4, _, N4⟩ := he
  have z4 := b4.size
  have hsp := mkS_ok y0 y1 y2 r.ws.length q0
  have hul := mkS_len y0 y1 y2 r.ws.length
  generalize mkS y0 y1 y2 r.ws.length = s at *
  have hse := start_ok hr hsp hul
  refine ⟨_, _, a2, _, c2, rfl, .all b4, fun m10 i10 w5 B5 k5 => ?_⟩
  have z5 := k5.size
  have o5 := k5.own
  have S4 : Lies [] w3.heap.size w4.heap.size w4 a2 (bools s.used) := Lies.new D4 N4 (by simp)
  have mb1 : m1 < w1.heap.size := o1 _ (by simp)
  have mb2 : m2 < w1.heap.size := o1 _ (by simp)
  have mb6 : m6 < w3.heap.size := o3 _ (by simp)
  have mb10 : m10 < w5.heap.size := o5 _ (by simp)
  have outR : ∀ x ∈ [m10, m6, m2, m1], x < w1.heap.size ∨ w2.heap.size ≤ x := fun x hx => by simp at hx; omega
  have outS : ∀ x ∈ [m10, m6, m2, m1], x < w3.heap.size ∨ w4.heap.size ≤ x := fun x hx => by simp at hx; omega
  have own : ∀ {w' : World}, w5.heap.size ≤ w'.heap.size → ∀ x ∈ [m10, m6, m2, m1], x < w'.heap.size := fun h x hx => Nat.lt_of_lt_of_le (o5 x hx) h
  have R5 := (R3.below b4).out k5.chg outR
  have S5 := S4.out k5.chg outS
  refine (copied_any r R5.cells (by omega)).mono fun e w6 he => ?_
  obtain ⟨a3, c3, rfl, b6, A6, _, N6⟩ := he
  have z6 := b6.size
  refine ⟨_, _, _, _, _, a3, _, c3, rfl, .all b6, fun w7 B7 k7 => ?_⟩
  have z7 := k7.size
  have P7 := (Lies.new A6 N6 k5.own).chg k7.chg
  have R7 := (R5.below b6).out k7.chg outR
  have S7 := (S5.below b6).out k7.chg outS
  refine (state_any s S7.cells (by omega)).mono fun e w8 he => ?_
  obtain ⟨a4, c4, rfl, b8, D8, _, N8⟩ := he
  have z8 := b8.size
  refine ⟨_, _, a4, _, c4, rfl, .all b8, fun w9 B9 k9 => ?_⟩
  have z9 := k9.size
  have Q9 := (Lies.new D8 N8 k7.own).chg k9.chg
  have P9 := (P7.below b8).chg k9.chg
  have R9 := (R7.below b8).out k9.chg outR
  have S9 := (S7.below b8).out k9.chg outS
  refine (proof_any r s P9.cells Q9.cells).mono fun e w10 he => ?_
  obtain ⟨la, lc, L, er, rfl, b10, H10, hPr⟩ := he
  have z10 := b10.size
  have outH : ∀ x ∈ [m10, m6, m2, m1], x < w9.heap.size ∨ w10.heap.size ≤ x := fun x hx => .inl (own (by omega) x hx)
  refine ⟨la, _, lc, er, rfl, .all b10, ?_⟩
  -- what lives on
  obtain ⟨Live, hLive⟩ : ∃ Live : World → Prop, Live = fun w' => Lies [] w1.heap.size w2.heap.size w' a1 (spans r.ws) ∧ Lies [] w3.heap.size w4.heap.size w' a2 (bools s.used) ∧ ClsIn w9.heap.size w10.heap.size w' la L ∧ w10.heap.size ≤ w'.heap.size := ⟨_, rfl⟩
  have L10 : Live w10 := by rw [hLive]; exact ⟨R9.below b10, S9.below b10, H10, Nat.le_refl _⟩
  have lchg : ∀ {w' w'' : World} {S : List Nat}, Live w' → Chg S w' w'' → (∀ x ∈ S, x ∈ [m10, m6, m2, m1] ∨ w10.heap.size ≤ x) → Live w'' := fun {w' w'' S} h hc hs => by
    rw [hLive] at h ⊢
    obtain ⟨g1, g2, g3, g4⟩ := h
    refine ⟨g1.out hc fun x hx => ?_, g2.out hc fun x hx => ?_, g3.chg hc fun x hx => ?_, Nat.le_trans g4 hc.size⟩
    · rcases hs x hx with h | h
      · exact outR x h
      · exact .inr (by omega)
    · rcases hs x hx with h | h
      · exact outS x h
      · exact .inr (by omega)
    · rcases hs x hx with h | h
      · exact outH x h
      · exact .inr h
  have lkeep : ∀ {w' w'' : World}, Live w' → Kept [m10, m6, m2, m1] w' w'' → Live w'' := fun h hk => lchg h (Chg.kept hk) fun x hx => .inl hx
  have lin : ∀ {w' w'' : World} {rs : List (Nat × Nat)}, Live w' → KeptIn ((0, w'.heap.size) :: rs) [m10, m6, m2, m1] w' w'' → Live w'' := fun h hk => lchg h hk.chg fun x hx => .inl hx
  have lbel : ∀ {w' w'' : World}, Live w' → Below w'.heap.size w' w'' → Live w'' := fun h hk => lchg h (S := []) (Chg.of_below hk) (by simp)
  have lR : ∀ {w'}, Live w' → Cells w' a1 (spans r.ws) := fun h => by rw [hLive] at h; exact h.1.cells
  have lS : ∀ {w'}, Live w' → Cells w' a2 (bools s.used) := fun h => by rw [hLive] at h; exact h.2.1.cells
  have lH : ∀ {w'}, Live w' → ClsIn w9.heap.size w10.heap.size w' la L := fun h => by rw [hLive] at h; exact h.2.2.1
  have lz : ∀ {w'}, Live w' → w10.heap.size ≤ w'.heap.size := fun h => by rw [hLive] at h; exact h.2.2.2
  clear hLive
  rcases hPr with ⟨he, rfl, rfl⟩ | ⟨he, hf, rfl, rfl⟩ | ⟨he, rfl, n, K2, hf, hA⟩
  · exact absurd hse he
  · exact ⟨fun _ => ⟨fun _ => ⟨fun _ w11 B11 k11 => known_tail, fun h => absurd rfl h⟩, fun h => absurd rfl h⟩, fun h => absurd h (by decide)⟩
  have hP := proofIs hr hul hA
  have hfew := hP.few
  have hn7 := few_lt hf
  obtain ⟨x, T, hL, hx1, hx2⟩ := hP.head
  have hpos : 0 < L.length := by rw [hL]; simp
  have hxm : x ∈ L := by rw [hL]; exact List.mem_cons_self
  have hu10 : ∀ y ∈ L, y.1.st.used.length ≤ 100000 := fun y hy => by have := (okCl_facts hr (hP.ok y hy)).2; omega
  -- the end: one visit less
  have tail : ∀ (w8 : World), Live w8 → (((n : Nat) : Int) = 0 → ∀ (w110 : World), RowKit.Below w.heap.size w w110 → Kept [m10, m6, m2, m1] w8 w110 → Calls Try.prog 12 #[] w110 fun (e30 : Ending) (w111 : World) => ∃ (t7 : Bool), e30 = Ending.returned (Value.bool t7) ∧ KeepX true w.heap.size [m10, m6, m2, m1] (fun _ => False) w110 w111 ∧ ∀ (w112 : World), RowKit.Below w.heap.size w w112 → Kept [m10, m6, m2, m1] w111 w112 → (Pure w (.bool true)) (Ending.returned (Value.bool t7)) w112) ∧ (((n : Nat) : Int) ≠ 0 → ∀ (w113 : World), RowKit.Below w.heap.size w w113 → Kept [m10, m6, m2, m1] w8 w113 → Calls Try.prog 27 #[Value.slice la L.length lc] w113 fun (e31 : Ending) (w114 : World) => ∃ (a27 : Option Addr), ∃ (m125 : Nat), ∃ (m126 : Nat), e31 = Ending.returned (Value.slice a27 m125 m126) ∧ KeepX true w.heap.size [m10, m6, m2, m1] (fun _ => False) w113 w114 ∧ ∃ (m128 : Nat), ∃ (m129 : Nat), a27 = some { block := m128, off := m129 } ∧ ((0 : Int) ≤ 0 ∧ 0 < (↑m125 : Int)) ∧ ∃ (x76 : Int), w114.cell? { block := m128, off := m129 + Int.toNat 0 * 6 + 3 } = some (Value.int IntKind.i64 x76) ∧ (m128 < w.heap.size ∨ m128 ≠ m10 ∧ m128 ≠ m6 ∧ m128 ≠ m2 ∧ m128 ≠ m1) ∧ (-9223372036854775808 ≤ x76 - 1 ∧ x76 - (1 : Int) ≤ 9223372036854775807) ∧ ∃ (m130 : Nat), ∃ (m131 : Nat), a27 = some { block := m130, off := m131 } ∧ ((0 : Int) ≤ 0 ∧ 0 < (↑m125 : Int)) ∧ ∀ (w115 : World), RowKit.Below w.heap.size w w115 → Kept [m10, m6, m2, m1] w114 w115 → RunsTo Try.prog ((Instr.storeAt 3 (Value.pointer (some { block := m130, off := m131 + Int.toNat 0 * 6 + 3 })) (Value.int IntKind.i64 (x76 - 1))) >>= fun _ => pure (Value.tuple #[])) w115 fun (v9 : Value) (w116 : World) => KeepX true w.heap.size [m10, m6, m2, m1] (fun _ => False) w115 w116 ∧ ∀ (w117 : World), RowKit.Below w.heap.size w w117 → Kept [m10, m6, m2, m1] w116 w117 → Calls Try.prog 13 #[Value.agg #[Value.int IntKind.i64 r.limit, Value.int IntKind.i64 r.err, Value.int IntKind.i64 r.tlo, Value.int IntKind.i64 r.thi, Value.int IntKind.i64 r.turns, Value.slice a1 r.ws.length c1]] w117 fun (e32 : Ending) (w118 : World) => ∃ (x77 : Int), ∃ (x78 : Int), ∃ (x79 : Int), ∃ (x80 : Int), ∃ (x81 : Int), ∃ (a28 : Option Addr), ∃ (m133 : Nat), ∃ (m134 : Nat), e32 = Ending.returned (Value.agg #[Value.int IntKind.i64 x77, Value.int IntKind.i64 x78, Value.int IntKind.i64 x79, Value.int IntKind.i64 x80, Value.int IntKind.i64 x81, Value.slice a28 m133 m134]) ∧ KeepX true w.heap.size [m10, m6, m2, m1] (fun _ => False) w117 w118 ∧ ∀ (w119 : World), RowKit.Below w.heap.size w w119 → Kept [m10, m6, m2, m1] w118 w119 → Calls Try.prog 28 #[Value.agg #[Value.int IntKind.i64 x77, Value.int IntKind.i64 x78, Value.int IntKind.i64 x79, Value.int IntKind.i64 x80, Value.int IntKind.i64 x81, Value.slice a28 m133 m134], Value.slice a27 m125 m126] w119 fun (e33 : Ending) (w120 : World) => ∃ (x82 : Int), ∃ (x83 : Int), e33 = Ending.returned (Value.tuple #[Value.int IntKind.i64 x82, Value.int IntKind.i64 x83]) ∧ KeepX true w.heap.size [m10, m6, m2, m1] (fun _ => False) w119 w120 ∧ (x83 = 0 → (0 ≤ x82 → ∀ (w121 : World), RowKit.Below w.heap.size w w121 → Kept [m10, m6, m2, m1] w120 w121 → Calls Try.prog 12 #[] w121 fun (e34 : Ending) (w122 : World) => ∃ (t8 : Bool), e34 = Ending.returned (Value.bool t8) ∧ KeepX true w.heap.size [m10, m6, m2, m1] (fun _ => False) w121 w122 ∧ ∀ (w123 : World), RowKit.Below w.heap.size w w123 → Kept [m10, m6, m2, m1] w122 w123 → (Pure w (.bool true)) (Ending.returned (Value.bool t8)) w123) ∧ (x82 < 0 → ∀ (w124 : World), RowKit.Below w.heap.size w w124 → Kept [m10, m6, m2, m1] w120 w124 → (Pure w (.bool true)) (Ending.returned (Value.bool false)) w124)) ∧ (x83 ≠ 0 → ∀ (w125 : World), RowKit.Below w.heap.size w w125 → Kept [m10, m6, m2, m1] w120 w125 → (Pure w (.bool true)) (Ending.returned (Value.bool false)) w125)) := by
    intro w8 l8
    refine ⟨fun _ w110 B110 k110 => known_tail, fun hn0 w113 B113 k113 => ?_⟩
    have l113 := lkeep l8 k113
    have z113 := lz l113
    refine (claims2_any (lH l113).at (by omega) hu10).mono fun e w114 he => ?_
    obtain ⟨a8, c8, l', rfl, b114, hl2, R114, U114⟩ := he
    have hlen' : l'.length = L.length := by have := congrArg List.length hl2; simpa using this
    obtain ⟨x', T', hL', hx'⟩ : ∃ x' T', l' = x' :: T' ∧ x'.1 = x.1 ∧ T'.map (·.1) = T.map (·.1) := by
      cases l' with
      | nil => simp only [List.length_nil] at hlen'; omega
      | cons x' T' =>
        rw [hL] at hl2
        simp only [List.map_cons, List.cons.injEq] at hl2
        exact ⟨x', T', rfl, hl2.1, hl2.2⟩
    subst hL'
    obtain ⟨hx', hT'⟩ := hx'
    have R114' : Row 56 6 w113.heap.size (ubs (x' :: T')) a8 L.length c8 ((x' :: T').flatMap clV) w114 := by
      rcases R114 with ⟨_, h, _⟩ | h
      · omega
      · exact h
    obtain ⟨g, hg⟩ : ∃ g, a8 = some ⟨g, 0, none⟩ := by
      rcases R114'.own.2 with ⟨he, hn⟩ | ⟨g, cap, cur, he, _⟩
      · omega
      · simp only [Value.slice.injEq] at he
        exact ⟨g, he.1⟩
    subst hg
    have gz := R114'.lt g 0 rfl
    have gne : g ∉ ubs (x' :: T') := R114'.ns g 0 rfl
    have cell3 : w114.cell? ⟨g, 0 + Int.toNat 0 * 6 + 3, none⟩ = some (I (n : Int)) := by
      have := Cells.at R114'.cells (i := 3) (v := I x'.1.visits) (by simp [clV])
      rw [hx', hx2] at this
      exact cell_at this (by omega)
    have mo : ∀ z ∈ [m10, m6, m2, m1], z < w113.heap.size := k113.own
    have gout : g ≠ m10 ∧ g ≠ m6 ∧ g ≠ m2 ∧ g ≠ m1 := by
      have := mo m10 (by simp); have := mo m6 (by simp); have := mo m2 (by simp); have := mo m1 (by simp)
      exact ⟨by omega, by omega, by omega, by omega⟩
    refine ⟨_, _, c8, rfl, .all b114, g, 0, rfl, ⟨by omega, by omega⟩, _, cell3, .inr gout, by omega, g, 0, rfl, ⟨by omega, by omega⟩, fun w115 B115 k115 => ?_⟩
    have z114 := b114.size
    have z115 := k115.size
    have Row115 := R114'.of (w' := w115) fun b o e => by
      simp only [Option.some.injEq, Addr.mk.injEq, and_true] at e
      obtain ⟨rfl, rfl⟩ := e
      exact k115.block g gz.2 fun hm => by have := mo g hm; omega
    have U115 := U114.chg (Chg.kept k115) fun nn hnn hm => by have := (U114.ub hnn).1; have := mo nn hm; omega
    refine first_store Row115 (by omega) fun w116 A116 c116 => ?_
    have U116 := U115.chg c116 fun nn hnn hm => gne (by rw [← List.mem_singleton.1 hm]; exact hnn)
    have l116 := lchg (lkeep (lbel l113 b114) k115) c116 (fun z hz => by rw [List.mem_singleton.1 hz]; exact .inr (by omega))
    have z116 := c116.size
    refine ⟨c116.own (fun z hz => ⟨by have := mo z hz; omega, fun hm => by have := mo z hz; rw [List.mem_singleton.1 hm] at this; omega⟩) (by simp) (fun _ => ⟨B115.size, fun z hz => by rw [List.mem_singleton.1 hz]; have := B113.size; omega⟩), fun w117 B117 k117 => ?_⟩
    have l117 := lkeep l116 k117
    have A117 := cells_blk A116 (Chg.kept k117) (fun z hz hm => by simp only [blk, List.mem_singleton] at hz; subst hz; have := mo z hm; omega)
    have U117 := U116.chg (Chg.kept k117) fun nn hnn hm => by have := (U114.ub hnn).1; have := mo nn hm; omega
    refine (copied_any r (lR l117) (by omega)).mono fun e w118 he => ?_
    obtain ⟨a28, c28, rfl, b118, A118, _, N118⟩ := he
    refine ⟨_, _, _, _, _, a28, _, c28, rfl, .all b118, fun w119 B119 k119 => ?_⟩
    have P119 := (Lies.new A118 N118 k117.own).chg (Chg.kept k119)
    have A119 := cells_blk (A117.keep b118) (Chg.kept k119) (fun z hz hm => by simp only [blk, List.mem_singleton] at hz; subst hz; have := mo z hm; omega)
    have U119 := (U117.chg (Chg.of_below (S := []) b118) (by simp)).chg (Chg.kept k119) fun nn hnn hm => by have := (U114.ub hnn).1; have := mo nn hm; omega
    have hcls : ClsAt w119 (some ⟨g, 0, none⟩) (setV x' ((n : Int) - 1) :: T') := ⟨A119, fun z hz => by
      rcases List.mem_cons.1 hz with rfl | hz
      · exact (U119 x' List.mem_cons_self).1
      · exact (U119 z (List.mem_cons_of_mem _ hz)).1⟩
    have hlT : (setV x' ((n : Int) - 1) :: T').length = L.length := by rw [← hlen']; rfl
    have hpv := proves_any r (c := c28) P119.cells (lc := c8) hcls (by omega)
    rw [hlT] at hpv
    have hokL : ∀ z ∈ (setV x' ((n : Int) - 1) :: T').map (·.1), okCl r z := fun z hz => by
      simp only [List.map_cons, List.mem_cons] at hz
      rcases hz with rfl | hz
      · obtain ⟨g1, g2, g3⟩ := hP.ok x hxm
        refine ⟨by show okSt r x'.1.st = true; rw [hx']; exact g1, by show 0 ≤ (n : Int) - 1; omega, by show (n : Int) - 1 ≤ 6; omega⟩
      · rw [hT'] at hz
        obtain ⟨y, hy, rfl⟩ := List.mem_map.1 hz
        exact hP.ok y (by rw [hL]; exact List.mem_cons_of_mem _ hy)
    have hlm : ((setV x' ((n : Int) - 1) :: T').map (·.1)).length = L.length := by rw [List.length_map, hlT]
    rw [proves_split r _ hchk, claims_noErr (by omega) hokL, if_neg (by simp)] at hpv
    have hge : 0 ≤ firstNot r ((setV x' ((n : Int) - 1) :: T').map (·.1)) := by
      rcases firstNot_range r ((setV x' ((n : Int) - 1) :: T').map (·.1)) with h | h
      · obtain ⟨k, hk, hfk⟩ := proof_sound hr hokL h (c := (setV x' ((n : Int) - 1)).1) (by simp)
        have hst : (setV x' ((n : Int) - 1)).1.st = s := by show x'.1.st = s; rw [hx']; exact hx1
        rw [hst, hf] at hfk
        simp only [Option.some.injEq] at hfk
        have : (setV x' ((n : Int) - 1)).1.visits = (n : Int) - 1 := rfl
        omega
      · exact h.1
    exact Pure.calls hpv fun w120 b120 => ⟨_, _, rfl, .all b120, fun _ => ⟨fun _ w121 B121 k121 => known_tail, fun h => by omega⟩, fun h => absurd rfl h⟩
  refine ⟨fun h => absurd rfl h, fun _ w16 B16 k16 => ?_⟩
  have l16 := lin L10 k16
  have z16 := lz l16
  refine (copied_any r (lR l16) (by omega)).mono fun e w17 he => ?_
  obtain ⟨a6, c6, rfl, b17, A17, _, N17⟩ := he
  refine ⟨_, _, _, _, _, a6, _, c6, rfl, .all b17, fun w18 B18 k18 => ?_⟩
  have P18 := (Lies.new A17 N17 k16.own).chg k18.chg
  have l18 := lin (lbel l16 b17) k18
  refine (state_any s (lS l18) (by omega)).mono fun e w19 he => ?_
  obtain ⟨a7, c7, rfl, b19, D19, _, N19⟩ := he
  refine ⟨_, _, a7, _, c7, rfl, .all b19, fun w20 B20 k20 => ?_⟩
  have Q20 := (Lies.new D19 N19 k18.own).chg k20.chg
  have P20 := (P18.below b19).chg k20.chg
  have l20 := lin (lbel l18 b19) k20
  refine Pure.calls (fewest_any r s P20.cells Q20.cells) fun w21 b21 => ?_
  rw [fewestR_some hse hf]
  refine ⟨_, _, rfl, .all b21, fun w22 B22 k22 => ?_⟩
  have l22 := lkeep (lbel l20 b21) k22
  refine (copied_any r (lR l22) (by omega)).mono fun e w23 he => ?_
  obtain ⟨a8, c8, rfl, b23, A23, _, N23⟩ := he
  refine ⟨_, _, _, _, _, a8, _, c8, rfl, .all b23, fun w24 B24 k24 => ?_⟩
  have P24 := (Lies.new A23 N23 k22.own).chg (Chg.kept k24)
  have l24 := lkeep (lbel l22 b23) k24
  refine (claims_any (lH l24).at (by omega) hu10).mono fun e w25 he => ?_
  obtain ⟨a9, c9, l', rfl, b25, hl2, A25, R25, U25⟩ := he
  refine ⟨a9, _, c9, rfl, .all b25, fun w26 B26 k26 => ?_⟩
  have o24 := k24.own
  have A26 := R25.cells A25 (Chg.kept k26) (fun x hx => .inl (o24 x hx))
  have U26 := U25.chg (Chg.kept k26) fun nn hnn hm => by have := (U25.ub hnn).1; have := o24 nn hm; omega
  have l26 := lkeep (lbel l24 b25) k26
  have P26 := (P24.below b25).chg (Chg.kept k26)
  have hlen' : l'.length = L.length := by have := congrArg List.length hl2; simpa using this
  have hpv := proves_any r (c := c8) P26.cells (la := a9) (lc := c9) (ClsPost.at A26 U26) (by omega)
  have hl3 : l'.map (·.1) = plainL L := hl2
  rw [hl3, hlen', proves_split r _ hchk, hP.noErr, if_neg (by simp), hP.all hr] at hpv
  refine Pure.calls hpv fun w27 b27 => ⟨_, _, rfl, .all b27, fun h => absurd rfl h, fun _ => ⟨fun h => absurd rfl h, fun _ => ⟨fun h => absurd rfl h, fun _ => ⟨fun h => by omega, fun _ => ?_⟩⟩⟩⟩
  have l27 := lbel l26 b27
  have z27 := lz l27
  obtain ⟨bb, o, cl, hla, hget, hmem, hlt, gj⟩ := cl_cells (lH l27).row (x := 0) (by omega) (by omega)
  have hcl : cl = x := by
    rw [hL] at hget
    simpa using hget.symm
  subst hcl
  have hbb : ∀ {b' o' : Nat}, la = some ⟨b', o', none⟩ → b' < w.heap.size ∨ b' ≠ m10 ∧ b' ≠ m6 ∧ b' ≠ m2 ∧ b' ≠ m1 := fun {b' o'} e => by
    have h1 := (lH l27).rb b' (mem_blk e)
    have := own (w' := w9) (by omega) m10 (by simp); have := own (w' := w9) (by omega) m6 (by simp); have := own (w' := w9) (by omega) m2 (by simp); have := own (w' := w9) (by omega) m1 (by simp)
    exact .inr ⟨by omega, by omega, by omega, by omega⟩
  refine ⟨bb, o, hla, ⟨by omega, by omega⟩, _, gj (j := 3) rfl (by omega) (by simp), hbb hla, fun h => absurd hx2 h, fun _ m37 i37 => ?_⟩
  refine ⟨fun ls w' => match ls with | [.sl a' n' c', .int _ j] => 0 ≤ j ∧ j ≤ L.length ∧ Live w' ∧ w27.heap.size ≤ w'.heap.size ∧ ∃ M : List ClM, n' = M.length ∧ (M.length : Int) ≤ j ∧ PartOf L M ∧ RowE 56 6 w27.heap.size [m10, m6, m2, m1] a' n' c' (M.flatMap clV) w' | _ => False,
    fun ls => match ls with | [_, .int _ j] => (L.length - j).toNat | _ => 0, fun w34 B34 k34 _ => ⟨by omega, by omega, lchg l27 (Chg.kept k34) (fun z hz => by
      rcases List.mem_cons.1 hz with rfl | hz
      · exact .inr (by omega)
      · exact .inl hz), k34.size, [], rfl, by simp, fun z hz => (by cases hz), RowE.lit⟩, ?_⟩
  rintro a10 n10 c10 j w35 B35 ⟨j0, jn, l35, y35, M, rfl, hMj, hM, hrow⟩
  have z35 := lz l35
  refine ⟨fun hj => ?_, fun hj w57 B57 k57 => ?_⟩
  · obtain ⟨b3, o3', cl3, hla3, hget3, hmem3, hlt3, gj3⟩ := cl_cells (lH l35).row j0 hj
    refine ⟨b3, o3', hla3, ⟨j0, hj⟩, _, _, _, _, _, _, _, _, gj3 (j := 0) rfl (by omega) (by omega), gj3 (j := 1) rfl (by omega) (by omega), gj3 (j := 2) rfl (by omega) (by omega), gj3 (j := 3) rfl (by omega) (by omega), gj3 (j := 4) rfl (by omega) (by omega), gj3 (j := 5) rfl (by omega) (by omega), hbb hla3, fun m45 i45 w36 B36 k36 => ?_⟩
    have z36 := k36.size
    have o36 := k36.own
    refine Pure.calls (byteOf_any hso j0 (by omega) (hb.keep B36)) fun w37 b37 => ⟨_, rfl, .all b37, ?_⟩
    have z37 := b37.size
    generalize byteAt some_ j.toNat = q
    have hcv := hP.ok cl3 hmem3
    have out45 : ∀ x ∈ [m45, m10, m6, m2, m1], x ∈ [m10, m6, m2, m1] ∨ w10.heap.size ≤ x := fun z hz => by
      rcases List.mem_cons.1 hz with rfl | hz
      · exact .inr (by omega)
      · exact .inl hz
    have l37 := lbel (lchg l35 (Chg.kept k36) out45) b37
    have R37 : RowE 56 6 w27.heap.size [m45, m10, m6, m2, m1] a10 M.length c10 (M.flatMap clV) w37 := ((hrow.grow (ms := [m45]) (by simpa using i45)).chg (Chg.kept k36) (fun z hz => by simpa using hz)).below b37
    have skip : ∀ w38 : World, Below w.heap.size w w38 → Kept [m45, m10, m6, m2, m1] w37 w38 → (0 ≤ j + 1 ∧ j + 1 ≤ L.length ∧ Live w38 ∧ w27.heap.size ≤ w38.heap.size ∧ ∃ M' : List ClM, M.length = M'.length ∧ (M'.length : Int) ≤ j + 1 ∧ PartOf L M' ∧ RowE 56 6 w27.heap.size [m10, m6, m2, m1] a10 M.length c10 (M'.flatMap clV) w38) ∧ ((L.length : Int) - (j + 1)).toNat < ((L.length : Int) - j).toNat := fun w38 B38 k38 =>
      ⟨⟨by omega, by omega, lchg l37 (Chg.kept k38) out45, by have := k38.size; omega, M, rfl, by omega, hM, (R37.chg (Chg.kept k38) fun z hz => hz).less fun z hz => List.mem_cons_of_mem _ hz⟩, by omega⟩
    have app : ∀ v : Int, (v = cl3.1.visits ∨ v = max 0 (cl3.1.visits - 1)) → ∀ m47 : Nat, w37.heap.size ≤ m47 → ∀ w39 : World, Below w.heap.size w w39 → Kept [m47, m45, m10, m6, m2, m1] w37 w39 → w39.heap[m47]? = some (Obj.cells #[I cl3.1.st.lo, I cl3.1.st.hi, .slice cl3.2.1 cl3.1.st.used.length cl3.2.2, I v, I cl3.1.turns, I cl3.1.weight] 56) →
        RunsTo Try.prog (Builtin.append_ #[54, 54] 54 #[.slice a10 M.length c10, .slice (some { block := m47, off := 0 }) 1 1]) w39 fun v1 w40 => ∃ (a12 : Option Addr) (m49 m50 : Nat), v1 = .slice a12 m49 m50 ∧ KeepX true w.heap.size [m47, m45, m10, m6, m2, m1] (fun _ => False) w39 w40 ∧ (-9223372036854775808 ≤ j + 1 ∧ j + 1 ≤ 9223372036854775807) ∧ ∀ w41 : World, Below w.heap.size w w41 → Kept [m47, m45, m10, m6, m2, m1] w40 w41 →
          (0 ≤ j + 1 ∧ j + 1 ≤ L.length ∧ Live w41 ∧ w27.heap.size ≤ w41.heap.size ∧ ∃ M' : List ClM, m49 = M'.length ∧ (M'.length : Int) ≤ j + 1 ∧ PartOf L M' ∧ RowE 56 6 w27.heap.size [m10, m6, m2, m1] a12 m49 m50 (M'.flatMap clV) w41) ∧ ((L.length : Int) - (j + 1)).toNat < ((L.length : Int) - j).toNat := fun v hv m47 i47 w39 B39 k39 h39 => by
      have o39 := k39.own
      have out47 : ∀ x ∈ [m47, m45, m10, m6, m2, m1], x ∈ [m10, m6, m2, m1] ∨ w10.heap.size ≤ x := fun z hz => by
        rcases List.mem_cons.1 hz with rfl | hz
        · exact .inr (by omega)
        · exact out45 z hz
      have R39 : RowE 56 6 w27.heap.size [m47, m45, m10, m6, m2, m1] a10 M.length c10 (M.flatMap clV) w39 := (R37.grow (ms := [m47]) (by simpa using i47)).chg (Chg.kept k39) fun z hz => by simpa using hz
      have l39 := lchg l37 (Chg.kept k39) out47
      have z39 := k39.size
      refine append_rowE (P := Try.prog) (bytes := 64) (by kernel_rfl) (by omega) R39 (m := 1) (news := clV (setV cl3 v)) (Cells.obj (vs := clV (setV cl3 v)) h39) rfl (by simp [clV, Value.oneCell']) (by omega) (by omega) (by omega) o39 (by omega) fun a12 c12 w40 R40 S cS hS => ?_
      have z40 := cS.size
      have l40 := lchg l39 cS fun z hz => .inr (by have := (hS z hz).1; omega)
      refine ⟨a12, _, c12, rfl, cS.own (fun z hz => ⟨o39 z hz, fun hm => (hS z hm).2 hz⟩) (by simp) (fun _ => ⟨B39.size, fun z hz => by have := (hS z hz).1; have := B26.size; have := b27.size; omega⟩), by omega, fun w41 B41 k41 => ⟨⟨by omega, by omega, lchg l40 (Chg.kept k41) out47, by have := k41.size; omega, M ++ [setV cl3 v], by simp, by simp; omega, hM.add hmem3 rfl rfl hv, ?_⟩, by omega⟩⟩
      rw [flat_snoc]
      exact (RowE.chg (.inr R40) (Chg.kept k41) fun z hz => hz).less fun z hz => List.mem_cons_of_mem _ (List.mem_cons_of_mem _ hz)
    exact ⟨fun hpos => ⟨by omega, fun h1 => ⟨by omega, skip⟩, fun h1 => ⟨fun _ => ⟨by omega, fun h2 => ⟨by have := hcv.2; omega, app _ (.inr rfl)⟩, fun h2 => app _ (.inl rfl)⟩, fun _ => app _ (.inl rfl)⟩⟩, fun hneg => ⟨fun hpos => by omega, fun _ => app _ (.inl rfl)⟩⟩
  -- the part, tried
  have l57 := lkeep l35 k57
  have R57 := hrow.chg (Chg.kept k57) fun z hz => hz
  have hMok := hM.ok hP.ok
  refine (copied_any r (lR l57) (by omega)).mono fun e w58 he => ?_
  obtain ⟨a18, c18, rfl, b58, A58, _, N58⟩ := he
  refine ⟨_, _, _, _, _, a18, _, c18, rfl, .all b58, fun w59 B59 k59 => ?_⟩
  have P59 := (Lies.new A58 N58 k57.own).chg (Chg.kept k59)
  have l59 := lkeep (lbel l57 b58) k59
  have R59 := (R57.below b58).chg (Chg.kept k59) fun z hz => hz
  have hMu : ∀ {w' : World}, Live w' → ∀ z ∈ M, Cells w' z.2.1 (bools z.1.st.used) := fun h => hM.used (lH h).used
  refine (claims_any ⟨R59.cells, hMu l59⟩ (by omega) (fun y hy => by have := (okCl_facts hr (hMok y hy)).2; omega)).mono fun e w60 he => ?_
  obtain ⟨a19, c19, M2, rfl, b60, hM2, A60, RR60, U60⟩ := he
  refine ⟨a19, _, c19, rfl, .all b60, fun w61 B61 k61 => ?_⟩
  have o59 := k59.own
  have A61 := RR60.cells A60 (Chg.kept k61) (fun x hx => .inl (o59 x hx))
  have U61 := U60.chg (Chg.kept k61) fun nn hnn hm => by have := (U60.ub hnn).1; have := o59 nn hm; omega
  have l61 := lkeep (lbel l59 b60) k61
  have R61 := (R59.below b60).chg (Chg.kept k61) fun z hz => hz
  have P61 := (P59.below b60).chg (Chg.kept k61)
  have hlM : M2.length = M.length := by have := congrArg List.length hM2; simpa using this
  have hpv2 := proves_any r (c := c18) P61.cells (la := a19) (lc := c19) (ClsPost.at A61 U61) (by omega)
  have hokM : ∀ z ∈ M.map (·.1), okCl r z := fun z hz => by obtain ⟨y, hy, rfl⟩ := List.mem_map.1 hz; exact hMok y hy
  rw [hM2, hlM, proves_split r _ hchk, claims_noErr (by rw [List.length_map]; omega) hokM, if_neg (by simp)] at hpv2
  have hrg := firstNot_range r (M.map (·.1))
  rw [List.length_map] at hrg
  obtain ⟨fn, hfn⟩ : ∃ fn, fn = firstNot r (M.map (·.1)) := ⟨_, rfl⟩
  rw [← hfn] at hpv2 hrg
  refine Pure.calls hpv2 fun w62 b62 => ⟨_, _, rfl, .all b62, fun h => absurd rfl h, fun _ => ⟨fun h => by omega, fun _ => ⟨fun h => by omega, fun _ => ?_⟩⟩⟩
  have l62 := lbel l61 b62
  have R62 := R61.below b62
  refine ⟨fun ls w' => match ls with | [.bool _, .int _ t] => 0 ≤ t ∧ t ≤ M.length ∧ Live w' ∧ RowE 56 6 w27.heap.size [m10, m6, m2, m1] a10 M.length c10 (M.flatMap clV) w' | _ => False,
    fun ls => match ls with | [_, .int _ t] => ((M.length : Int) - t).toNat | _ => 0, fun w67 B67 k67 => ⟨by omega, by omega, lkeep l62 k67, R62.chg (Chg.kept k67) fun z hz => hz⟩, ?_⟩
  rintro t2 t w68 B68 ⟨t0, tn, l68, R68⟩
  refine ⟨fun htl => ⟨fun h12 => ⟨fun heq w69 B69 k69 => ?_, fun _ => tail w68 l68⟩, fun _ => tail w68 l68⟩, fun _ => tail w68 l68⟩
  have z68 := lz l68
  have l69 := lin l68 k69
  refine (copied_any r (lR l69) (by omega)).mono fun e w70 he => ?_
  obtain ⟨a20, c20, rfl, b70, A70, _, N70⟩ := he
  obtain ⟨b4', o4', cl4, ha4, hget4, hmem4, hlt4, gj4⟩ := cl_cells R68.cells t0 htl
  have hb4' : ∀ {b' o' : Nat}, a10 = some ⟨b', o', none⟩ → b' < w.heap.size ∨ b' ≠ m10 ∧ b' ≠ m6 ∧ b' ≠ m2 ∧ b' ≠ m1 := fun {b' o'} e => by
    rcases R68 with ⟨_, h, _⟩ | h
    · omega
    · obtain rfl : o' = 0 := by
        rcases h.own.2 with ⟨he, hn⟩ | ⟨g, cap, cur, he, _⟩
        · rw [e] at he; cases he
        · rw [e] at he; simp only [Value.slice.injEq, Option.some.injEq, Addr.mk.injEq, and_true] at he; exact he.1.2
      have := h.ns b' 0 e
      simp only [List.mem_cons, List.not_mem_nil, or_false, not_or] at this
      exact .inr this
  refine ⟨_, _, _, _, _, a20, _, c20, rfl, b70, b4', o4', ha4, ⟨t0, htl⟩, _, _, _, _, _, gj4 (j := 0) rfl (by omega) (by omega), gj4 (j := 1) rfl (by omega) (by omega), gj4 (j := 2) rfl (by omega) (by omega), hb4' ha4, fun w71 B71 k71 => ?_⟩
  have C71 := chg_in' (chg_in k69) b70 k71
  have l71 := lchg l68 C71 fun z hz => .inl hz
  have R71 := R68.chg C71 fun z hz => hz
  have P71 := (Lies.new A70 N70 k69.own).kin k71 ⟨(w69.heap.size, w70.heap.size), by simp, Nat.le_refl _, Nat.le_refl _⟩
  have hok4 := hMok cl4 hmem4
  obtain ⟨hsp4, hul4⟩ := okCl_facts hr hok4
  refine (state_any cl4.1.st (hMu l71 cl4 hmem4) (by omega)).mono fun e w72 he => ?_
  obtain ⟨a22, c22, rfl, b72, D72, _, N72⟩ := he
  refine ⟨_, _, a22, _, c22, rfl, .all b72, fun w73 B73 k73 => ?_⟩
  have Q73 := (Lies.new D72 N72 k71.own).chg k73.chg
  have P73 := (P71.below b72).chg k73.chg
  have l73 := lin (lbel l71 b72) k73
  have R73 := (R71.below b72).chg k73.chg fun z hz => hz
  obtain ⟨kk, hkk, hfk⟩ := proof_sound hr hokM (by omega) (c := cl4.1) (List.mem_map.2 ⟨cl4, hmem4, rfl⟩)
  have hul5 : cl4.1.st.used.length = r.ws.length := by
    have h := hok4.1
    unfold okSt at h
    simp only [Bool.and_eq_true, beq_iff_eq] at h
    exact h.2
  have hse4 := start_ok hr hsp4 hul5
  refine Pure.calls (fewest_any r cl4.1.st P73.cells Q73.cells) fun w74 b74 => ?_
  rw [fewestR_some hse4 hfk]
  have R74 := R73.below b74
  have l74 := lbel l73 b74
  obtain ⟨b5', o5', cl5, ha5, hget5, hmem5, hlt5, gj5⟩ := cl_cells R74.cells t0 htl
  rw [hget4] at hget5
  obtain rfl := Option.some.inj hget5
  refine ⟨_, _, rfl, .all b74, fun h => absurd rfl h, fun _ => ⟨b5', o5', ha5, ⟨t0, htl⟩, _, gj5 (j := 3) rfl (by omega) (by omega), hb4' ha5, fun h => by omega, fun _ => ⟨by omega, fun w77 B77 k77 => ⟨⟨by omega, by omega, lkeep l74 k77, R74.chg (Chg.kept k77) fun z hz => hz⟩, ?_⟩⟩⟩⟩
  show ((M.length : Int) - (t + 1)).toNat < ((M.length : Int) - t).toNat
  omega
end Go.Proofs.R07
end
