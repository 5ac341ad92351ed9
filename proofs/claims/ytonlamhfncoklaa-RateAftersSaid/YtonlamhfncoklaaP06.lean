/- Part 6: own lemmas, and the conditions of the functions. -/
import Derived.Test.YtonlamhfncoklaaProg
import Derived.Test.YtonlamhfncoklaaRows
import Derived.Test.YtonlamhfncoklaaP05
section
/- The conditions of the functions, printed by program; each is what the generator reckons (kernel_rfl). -/
namespace Go.Proofs
open Go.Vc
set_option maxRecDepth 100000 in
set_option maxHeartbeats 2000000 in
theorem vc12  (w : World) (R : Ending → World → Prop) (h : ∀ (w1 : World), RowKit.Below w.heap.size w w1 → Kept [] w w1 → Calls Try.prog 38 #[] w1 fun (e1 : Ending) (w2 : World) =>
    ∃ (x1 : Int), ∃ (x2 : Int), ∃ (x3 : Int), ∃ (x4 : Int), ∃ (x5 : Int), ∃ (a1 : Option Addr), ∃ (m1 : Nat), ∃ (m2 : Nat), e1 = Ending.returned (Value.agg #[Value.int IntKind.i64
    x1, Value.int IntKind.i64 x2, Value.int IntKind.i64 x3, Value.int IntKind.i64 x4, Value.int IntKind.i64 x5, Value.slice a1 m1 m2]) ∧ KeepX true w.heap.size [] (fun _ => False)
    w1 w2 ∧ ∀ (w3 : World), RowKit.Below w.heap.size w w3 → Kept [] w2 w3 → Calls Try.prog 39 #[Value.int IntKind.i64 8, Value.int IntKind.i64 18, Value.bool false] w3 fun (e2 :
    Ending) (w4 : World) => ∃ (x6 : Int), ∃ (x7 : Int), ∃ (a2 : Option Addr), ∃ (m3 : Nat), ∃ (m4 : Nat), e2 = Ending.returned (Value.agg #[Value.int IntKind.i64 x6, Value.int
    IntKind.i64 x7, Value.slice a2 m3 m4]) ∧ KeepX true w.heap.size [] (fun _ => False) w3 w4 ∧ ∀ (w5 : World), RowKit.Below w.heap.size w w5 → Kept [] w4 w5 → Calls Try.prog 24
    #[Value.agg #[Value.int IntKind.i64 x1, Value.int IntKind.i64 x2, Value.int IntKind.i64 x3, Value.int IntKind.i64 x4, Value.int IntKind.i64 x5, Value.slice a1 m1 m2], Value.agg
    #[Value.int IntKind.i64 x6, Value.int IntKind.i64 x7, Value.slice a2 m3 m4]] w5 fun (e3 : Ending) (w6 : World) => ∃ (x8 : Int), ∃ (x9 : Int), e3 = Ending.returned (Value.tuple
    #[Value.int IntKind.i64 x8, Value.int IntKind.i64 x9]) ∧ KeepX true w.heap.size [] (fun _ => False) w5 w6 ∧ ∀ (w7 : World), RowKit.Below w.heap.size w w7 → Kept [] w6 w7 →
    Calls Try.prog 38 #[] w7 fun (e4 : Ending) (w8 : World) => ∃ (x10 : Int), ∃ (x11 : Int), ∃ (x12 : Int), ∃ (x13 : Int), ∃ (x14 : Int), ∃ (a3 : Option Addr), ∃ (m5 : Nat), ∃ (m6
    : Nat), e4 = Ending.returned (Value.agg #[Value.int IntKind.i64 x10, Value.int IntKind.i64 x11, Value.int IntKind.i64 x12, Value.int IntKind.i64 x13, Value.int IntKind.i64 x14,
    Value.slice a3 m5 m6]) ∧ KeepX true w.heap.size [] (fun _ => False) w7 w8 ∧ ∀ (w9 : World), RowKit.Below w.heap.size w w9 → Kept [] w8 w9 → Calls Try.prog 39 #[Value.int
    IntKind.i64 8, Value.int IntKind.i64 18, Value.bool false] w9 fun (e5 : Ending) (w10 : World) => ∃ (x15 : Int), ∃ (x16 : Int), ∃ (a4 : Option Addr), ∃ (m7 : Nat), ∃ (m8 : Nat),
    e5 = Ending.returned (Value.agg #[Value.int IntKind.i64 x15, Value.int IntKind.i64 x16, Value.slice a4 m7 m8]) ∧ KeepX true w.heap.size [] (fun _ => False) w9 w10 ∧ ∀ (w11 :
    World), RowKit.Below w.heap.size w w11 → Kept [] w10 w11 → Calls Try.prog 25 #[Value.agg #[Value.int IntKind.i64 x10, Value.int IntKind.i64 x11, Value.int IntKind.i64 x12,
    Value.int IntKind.i64 x13, Value.int IntKind.i64 x14, Value.slice a3 m5 m6], Value.agg #[Value.int IntKind.i64 x15, Value.int IntKind.i64 x16, Value.slice a4 m7 m8]] w11 fun
    (e6 : Ending) (w12 : World) => ∃ (x17 : Int), ∃ (x18 : Int), ∃ (x19 : Int), e6 = Ending.returned (Value.tuple #[Value.agg #[Value.int IntKind.i64 x17, Value.int IntKind.i64
    x18], Value.int IntKind.i64 x19]) ∧ KeepX true w.heap.size [] (fun _ => False) w11 w12 ∧ ∀ (m9 : Nat), w12.heap.size ≤ m9 → ∀ (w13 : World), RowKit.Below w.heap.size w w13 →
    Kept [m9] w12 w13 → Calls Try.prog 38 #[] w13 fun (e7 : Ending) (w14 : World) => ∃ (x20 : Int), ∃ (x21 : Int), ∃ (x22 : Int), ∃ (x23 : Int), ∃ (x24 : Int), ∃ (a5 : Option
    Addr), ∃ (m10 : Nat), ∃ (m11 : Nat), e7 = Ending.returned (Value.agg #[Value.int IntKind.i64 x20, Value.int IntKind.i64 x21, Value.int IntKind.i64 x22, Value.int IntKind.i64
    x23, Value.int IntKind.i64 x24, Value.slice a5 m10 m11]) ∧ KeepX true w.heap.size [m9] (fun _ => False) w13 w14 ∧ ∀ (w15 : World), RowKit.Below w.heap.size w w15 → Kept [m9]
    w14 w15 → Calls Try.prog 39 #[Value.int IntKind.i64 (-6), Value.int IntKind.i64 (-4), Value.bool false] w15 fun (e8 : Ending) (w16 : World) => ∃ (x25 : Int), ∃ (x26 : Int), ∃
    (a6 : Option Addr), ∃ (m12 : Nat), ∃ (m13 : Nat), e8 = Ending.returned (Value.agg #[Value.int IntKind.i64 x25, Value.int IntKind.i64 x26, Value.slice a6 m12 m13]) ∧ KeepX true
    w.heap.size [m9] (fun _ => False) w15 w16 ∧ ∀ (w17 : World), RowKit.Below w.heap.size w w17 → Kept [m9] w16 w17 → Calls Try.prog 25 #[Value.agg #[Value.int IntKind.i64 x20,
    Value.int IntKind.i64 x21, Value.int IntKind.i64 x22, Value.int IntKind.i64 x23, Value.int IntKind.i64 x24, Value.slice a5 m10 m11], Value.agg #[Value.int IntKind.i64 x25,
    Value.int IntKind.i64 x26, Value.slice a6 m12 m13]] w17 fun (e9 : Ending) (w18 : World) => ∃ (x27 : Int), ∃ (x28 : Int), ∃ (x29 : Int), e9 = Ending.returned (Value.tuple
    #[Value.agg #[Value.int IntKind.i64 x27, Value.int IntKind.i64 x28], Value.int IntKind.i64 x29]) ∧ KeepX true w.heap.size [m9] (fun _ => False) w17 w18 ∧ ∀ (m14 : Nat),
    w18.heap.size ≤ m14 → ∀ (w19 : World), RowKit.Below w.heap.size w w19 → Kept [m14, m9] w18 w19 → Calls Try.prog 38 #[] w19 fun (e10 : Ending) (w20 : World) => ∃ (x30 : Int), ∃
    (x31 : Int), ∃ (x32 : Int), ∃ (x33 : Int), ∃ (x34 : Int), ∃ (a7 : Option Addr), ∃ (m15 : Nat), ∃ (m16 : Nat), e10 = Ending.returned (Value.agg #[Value.int IntKind.i64 x30,
    Value.int IntKind.i64 x31, Value.int IntKind.i64 x32, Value.int IntKind.i64 x33, Value.int IntKind.i64 x34, Value.slice a7 m15 m16]) ∧ KeepX true w.heap.size [m14, m9] (fun _
    => False) w19 w20 ∧ ∀ (w21 : World), RowKit.Below w.heap.size w w21 → Kept [m14, m9] w20 w21 → Calls Try.prog 39 #[Value.int IntKind.i64 8, Value.int IntKind.i64 18, Value.bool
    true] w21 fun (e11 : Ending) (w22 : World) => ∃ (x35 : Int), ∃ (x36 : Int), ∃ (a8 : Option Addr), ∃ (m17 : Nat), ∃ (m18 : Nat), e11 = Ending.returned (Value.agg #[Value.int
    IntKind.i64 x35, Value.int IntKind.i64 x36, Value.slice a8 m17 m18]) ∧ KeepX true w.heap.size [m14, m9] (fun _ => False) w21 w22 ∧ ∀ (w23 : World), RowKit.Below w.heap.size w
    w23 → Kept [m14, m9] w22 w23 → Calls Try.prog 24 #[Value.agg #[Value.int IntKind.i64 x30, Value.int IntKind.i64 x31, Value.int IntKind.i64 x32, Value.int IntKind.i64 x33,
    Value.int IntKind.i64 x34, Value.slice a7 m15 m16], Value.agg #[Value.int IntKind.i64 x35, Value.int IntKind.i64 x36, Value.slice a8 m17 m18]] w23 fun (e12 : Ending) (w24 :
    World) => ∃ (x37 : Int), ∃ (x38 : Int), e12 = Ending.returned (Value.tuple #[Value.int IntKind.i64 x37, Value.int IntKind.i64 x38]) ∧ KeepX true w.heap.size [m14, m9] (fun _ =>
    False) w23 w24 ∧ ∀ (w25 : World), RowKit.Below w.heap.size w w25 → Kept [m14, m9] w24 w25 → Calls Try.prog 38 #[] w25 fun (e13 : Ending) (w26 : World) => ∃ (x39 : Int), ∃ (x40
    : Int), ∃ (x41 : Int), ∃ (x42 : Int), ∃ (x43 : Int), ∃ (a9 : Option Addr), ∃ (m19 : Nat), ∃ (m20 : Nat), e13 = Ending.returned (Value.agg #[Value.int IntKind.i64 x39, Value.int
    IntKind.i64 x40, Value.int IntKind.i64 x41, Value.int IntKind.i64 x42, Value.int IntKind.i64 x43, Value.slice a9 m19 m20]) ∧ KeepX true w.heap.size [m14, m9] (fun _ => False)
    w25 w26 ∧ ∀ (w27 : World), RowKit.Below w.heap.size w w27 → Kept [m14, m9] w26 w27 → Calls Try.prog 39 #[Value.int IntKind.i64 8, Value.int IntKind.i64 18, Value.bool false]
    w27 fun (e14 : Ending) (w28 : World) => ∃ (x44 : Int), ∃ (x45 : Int), ∃ (a10 : Option Addr), ∃ (m21 : Nat), ∃ (m22 : Nat), e14 = Ending.returned (Value.agg #[Value.int
    IntKind.i64 x44, Value.int IntKind.i64 x45, Value.slice a10 m21 m22]) ∧ KeepX true w.heap.size [m14, m9] (fun _ => False) w27 w28 ∧ ∀ (w29 : World), RowKit.Below w.heap.size w
    w29 → Kept [m14, m9] w28 w29 → Calls Try.prog 16 #[Value.agg #[Value.int IntKind.i64 x39, Value.int IntKind.i64 x40, Value.int IntKind.i64 x41, Value.int IntKind.i64 x42,
    Value.int IntKind.i64 x43, Value.slice a9 m19 m20], Value.agg #[Value.int IntKind.i64 x44, Value.int IntKind.i64 x45, Value.slice a10 m21 m22], Value.agg #[Value.int
    IntKind.i64 (-2), Value.int IntKind.i64 (-1)], Value.int IntKind.i64 3] w29 fun (e15 : Ending) (w30 : World) => ∃ (x46 : Int), ∃ (x47 : Int), ∃ (a11 : Option Addr), ∃ (m23 :
    Nat), ∃ (m24 : Nat), ∃ (x48 : Int), e15 = Ending.returned (Value.tuple #[Value.agg #[Value.int IntKind.i64 x46, Value.int IntKind.i64 x47, Value.slice a11 m23 m24], Value.int
    IntKind.i64 x48]) ∧ KeepX true w.heap.size [m14, m9] (fun _ => False) w29 w30 ∧ ∀ (m25 : Nat), w30.heap.size ≤ m25 → ∀ (w31 : World), RowKit.Below w.heap.size w w31 → Kept
    [m25, m14, m9] w30 w31 → Calls Try.prog 38 #[] w31 fun (e16 : Ending) (w32 : World) => ∃ (x49 : Int), ∃ (x50 : Int), ∃ (x51 : Int), ∃ (x52 : Int), ∃ (x53 : Int), ∃ (a12 :
    Option Addr), ∃ (m26 : Nat), ∃ (m27 : Nat), e16 = Ending.returned (Value.agg #[Value.int IntKind.i64 x49, Value.int IntKind.i64 x50, Value.int IntKind.i64 x51, Value.int
    IntKind.i64 x52, Value.int IntKind.i64 x53, Value.slice a12 m26 m27]) ∧ KeepX true w.heap.size [m25, m14, m9] (fun _ => False) w31 w32 ∧ ∀ (w33 : World), RowKit.Below
    w.heap.size w w33 → Kept [m25, m14, m9] w32 w33 → Calls Try.prog 40 #[Value.int IntKind.i64 8, Value.int IntKind.i64 10, Value.int IntKind.i64 1, Value.int IntKind.i64 (-1)]
    w33 fun (e17 : Ending) (w34 : World) => ∃ (x54 : Int), ∃ (x55 : Int), ∃ (a13 : Option Addr), ∃ (m28 : Nat), ∃ (m29 : Nat), ∃ (x56 : Int), ∃ (x57 : Int), ∃ (x58 : Int), e17 =
    Ending.returned (Value.agg #[Value.int IntKind.i64 x54, Value.int IntKind.i64 x55, Value.slice a13 m28 m29, Value.int IntKind.i64 x56, Value.int IntKind.i64 x57, Value.int
    IntKind.i64 x58]) ∧ KeepX true w.heap.size [m25, m14, m9] (fun _ => False) w33 w34 ∧ ∀ (w35 : World), RowKit.Below w.heap.size w w35 → Kept [m25, m14, m9] w34 w35 → Calls
    Try.prog 40 #[Value.int IntKind.i64 (-2), Value.int IntKind.i64 0, Value.int IntKind.i64 0, Value.int IntKind.i64 0] w35 fun (e18 : Ending) (w36 : World) => ∃ (x59 : Int), ∃
    (x60 : Int), ∃ (a14 : Option Addr), ∃ (m30 : Nat), ∃ (m31 : Nat), ∃ (x61 : Int), ∃ (x62 : Int), ∃ (x63 : Int), e18 = Ending.returned (Value.agg #[Value.int IntKind.i64 x59,
    Value.int IntKind.i64 x60, Value.slice a14 m30 m31, Value.int IntKind.i64 x61, Value.int IntKind.i64 x62, Value.int IntKind.i64 x63]) ∧ KeepX true w.heap.size [m25, m14, m9]
    (fun _ => False) w35 w36 ∧ ∀ (w37 : World), RowKit.Below w.heap.size w w37 → Kept [m25, m14, m9] w36 w37 → Calls Try.prog 40 #[Value.int IntKind.i64 0, Value.int IntKind.i64 2,
    Value.int IntKind.i64 0, Value.int IntKind.i64 0] w37 fun (e19 : Ending) (w38 : World) => ∃ (x64 : Int), ∃ (x65 : Int), ∃ (a15 : Option Addr), ∃ (m32 : Nat), ∃ (m33 : Nat), ∃
    (x66 : Int), ∃ (x67 : Int), ∃ (x68 : Int), e19 = Ending.returned (Value.agg #[Value.int IntKind.i64 x64, Value.int IntKind.i64 x65, Value.slice a15 m32 m33, Value.int
    IntKind.i64 x66, Value.int IntKind.i64 x67, Value.int IntKind.i64 x68]) ∧ KeepX true w.heap.size [m25, m14, m9] (fun _ => False) w37 w38 ∧ ∀ (m34 : Nat), w38.heap.size ≤ m34 →
    ∀ (w39 : World), RowKit.Below w.heap.size w w39 → Kept [m34, m25, m14, m9] w38 w39 → w39.heap[m34]? = some (Obj.cells #[Value.int IntKind.i64 x54, Value.int IntKind.i64 x55,
    Value.slice a13 m28 m29, Value.int IntKind.i64 x56, Value.int IntKind.i64 x57, Value.int IntKind.i64 x58, Value.int IntKind.i64 x59, Value.int IntKind.i64 x60, Value.slice a14
    m30 m31, Value.int IntKind.i64 x61, Value.int IntKind.i64 x62, Value.int IntKind.i64 x63, Value.int IntKind.i64 x64, Value.int IntKind.i64 x65, Value.slice a15 m32 m33,
    Value.int IntKind.i64 x66, Value.int IntKind.i64 x67, Value.int IntKind.i64 x68] 56) → Calls Try.prog 28 #[Value.agg #[Value.int IntKind.i64 x49, Value.int IntKind.i64 x50,
    Value.int IntKind.i64 x51, Value.int IntKind.i64 x52, Value.int IntKind.i64 x53, Value.slice a12 m26 m27], Value.slice (some { block := m34, off := 0 }) 3 3] w39 fun (e20 :
    Ending) (w40 : World) => ∃ (x69 : Int), ∃ (x70 : Int), e20 = Ending.returned (Value.tuple #[Value.int IntKind.i64 x69, Value.int IntKind.i64 x70]) ∧ KeepX true w.heap.size
    [m34, m25, m14, m9] (fun _ => False) w39 w40 ∧ ∀ (w41 : World), RowKit.Below w.heap.size w w41 → Kept [m34, m25, m14, m9] w40 w41 → Calls Try.prog 38 #[] w41 fun (e21 : Ending)
    (w42 : World) => ∃ (x71 : Int), ∃ (x72 : Int), ∃ (x73 : Int), ∃ (x74 : Int), ∃ (x75 : Int), ∃ (a16 : Option Addr), ∃ (m35 : Nat), ∃ (m36 : Nat), e21 = Ending.returned
    (Value.agg #[Value.int IntKind.i64 x71, Value.int IntKind.i64 x72, Value.int IntKind.i64 x73, Value.int IntKind.i64 x74, Value.int IntKind.i64 x75, Value.slice a16 m35 m36]) ∧
    KeepX true w.heap.size [m34, m25, m14, m9] (fun _ => False) w41 w42 ∧ ∀ (w43 : World), RowKit.Below w.heap.size w w43 → Kept [m34, m25, m14, m9] w42 w43 → Calls Try.prog 40
    #[Value.int IntKind.i64 8, Value.int IntKind.i64 10, Value.int IntKind.i64 1, Value.int IntKind.i64 (-1)] w43 fun (e22 : Ending) (w44 : World) => ∃ (x76 : Int), ∃ (x77 : Int),
    ∃ (a17 : Option Addr), ∃ (m37 : Nat), ∃ (m38 : Nat), ∃ (x78 : Int), ∃ (x79 : Int), ∃ (x80 : Int), e22 = Ending.returned (Value.agg #[Value.int IntKind.i64 x76, Value.int
    IntKind.i64 x77, Value.slice a17 m37 m38, Value.int IntKind.i64 x78, Value.int IntKind.i64 x79, Value.int IntKind.i64 x80]) ∧ KeepX true w.heap.size [m34, m25, m14, m9] (fun _
    => False) w43 w44 ∧ ∀ (w45 : World), RowKit.Below w.heap.size w w45 → Kept [m34, m25, m14, m9] w44 w45 → Calls Try.prog 40 #[Value.int IntKind.i64 (-2), Value.int IntKind.i64
    0, Value.int IntKind.i64 0, Value.int IntKind.i64 0] w45 fun (e23 : Ending) (w46 : World) => ∃ (x81 : Int), ∃ (x82 : Int), ∃ (a18 : Option Addr), ∃ (m39 : Nat), ∃ (m40 : Nat),
    ∃ (x83 : Int), ∃ (x84 : Int), ∃ (x85 : Int), e23 = Ending.returned (Value.agg #[Value.int IntKind.i64 x81, Value.int IntKind.i64 x82, Value.slice a18 m39 m40, Value.int
    IntKind.i64 x83, Value.int IntKind.i64 x84, Value.int IntKind.i64 x85]) ∧ KeepX true w.heap.size [m34, m25, m14, m9] (fun _ => False) w45 w46 ∧ ∀ (w47 : World), RowKit.Below
    w.heap.size w w47 → Kept [m34, m25, m14, m9] w46 w47 → Calls Try.prog 40 #[Value.int IntKind.i64 0, Value.int IntKind.i64 2, Value.int IntKind.i64 0, Value.int IntKind.i64 0]
    w47 fun (e24 : Ending) (w48 : World) => ∃ (x86 : Int), ∃ (x87 : Int), ∃ (a19 : Option Addr), ∃ (m41 : Nat), ∃ (m42 : Nat), ∃ (x88 : Int), ∃ (x89 : Int), ∃ (x90 : Int), e24 =
    Ending.returned (Value.agg #[Value.int IntKind.i64 x86, Value.int IntKind.i64 x87, Value.slice a19 m41 m42, Value.int IntKind.i64 x88, Value.int IntKind.i64 x89, Value.int
    IntKind.i64 x90]) ∧ KeepX true w.heap.size [m34, m25, m14, m9] (fun _ => False) w47 w48 ∧ ∀ (w49 : World), RowKit.Below w.heap.size w w49 → Kept [m34, m25, m14, m9] w48 w49 →
    Calls Try.prog 40 #[Value.int IntKind.i64 (-1), Value.int IntKind.i64 1, Value.int IntKind.i64 0, Value.int IntKind.i64 0] w49 fun (e25 : Ending) (w50 : World) => ∃ (x91 :
    Int), ∃ (x92 : Int), ∃ (a20 : Option Addr), ∃ (m43 : Nat), ∃ (m44 : Nat), ∃ (x93 : Int), ∃ (x94 : Int), ∃ (x95 : Int), e25 = Ending.returned (Value.agg #[Value.int IntKind.i64
    x91, Value.int IntKind.i64 x92, Value.slice a20 m43 m44, Value.int IntKind.i64 x93, Value.int IntKind.i64 x94, Value.int IntKind.i64 x95]) ∧ KeepX true w.heap.size [m34, m25,
    m14, m9] (fun _ => False) w49 w50 ∧ ∀ (m45 : Nat), w50.heap.size ≤ m45 → ∀ (w51 : World), RowKit.Below w.heap.size w w51 → Kept [m45, m34, m25, m14, m9] w50 w51 →
    w51.heap[m45]? = some (Obj.cells #[Value.int IntKind.i64 x76, Value.int IntKind.i64 x77, Value.slice a17 m37 m38, Value.int IntKind.i64 x78, Value.int IntKind.i64 x79,
    Value.int IntKind.i64 x80, Value.int IntKind.i64 x81, Value.int IntKind.i64 x82, Value.slice a18 m39 m40, Value.int IntKind.i64 x83, Value.int IntKind.i64 x84, Value.int
    IntKind.i64 x85, Value.int IntKind.i64 x86, Value.int IntKind.i64 x87, Value.slice a19 m41 m42, Value.int IntKind.i64 x88, Value.int IntKind.i64 x89, Value.int IntKind.i64 x90,
    Value.int IntKind.i64 x91, Value.int IntKind.i64 x92, Value.slice a20 m43 m44, Value.int IntKind.i64 x93, Value.int IntKind.i64 x94, Value.int IntKind.i64 x95] 56) → Calls
    Try.prog 28 #[Value.agg #[Value.int IntKind.i64 x71, Value.int IntKind.i64 x72, Value.int IntKind.i64 x73, Value.int IntKind.i64 x74, Value.int IntKind.i64 x75, Value.slice a16
    m35 m36], Value.slice (some { block := m45, off := 0 }) 4 4] w51 fun (e26 : Ending) (w52 : World) => ∃ (x96 : Int), ∃ (x97 : Int), e26 = Ending.returned (Value.tuple
    #[Value.int IntKind.i64 x96, Value.int IntKind.i64 x97]) ∧ KeepX true w.heap.size [m45, m34, m25, m14, m9] (fun _ => False) w51 w52 ∧ (x9 ≠ 0 → ∀ (w53 : World), RowKit.Below
    w.heap.size w w53 → Kept [m45, m34, m25, m14, m9] w52 w53 → R (Ending.returned (Value.bool false)) w53) ∧ (x9 = 0 → (x19 ≠ 0 → ∀ (w54 : World), RowKit.Below w.heap.size w w54 →
    Kept [m45, m34, m25, m14, m9] w52 w54 → R (Ending.returned (Value.bool false)) w54) ∧ (x19 = 0 → (x29 ≠ 0 → ∀ (w55 : World), RowKit.Below w.heap.size w w55 → Kept [m45, m34,
    m25, m14, m9] w52 w55 → R (Ending.returned (Value.bool false)) w55) ∧ (x29 = 0 → (x38 ≠ 7 → ∀ (w56 : World), RowKit.Below w.heap.size w w56 → Kept [m45, m34, m25, m14, m9] w52
    w56 → R (Ending.returned (Value.bool false)) w56) ∧ (x38 = 7 → (x48 ≠ 0 → ∀ (w57 : World), RowKit.Below w.heap.size w w57 → Kept [m45, m34, m25, m14, m9] w52 w57 → R
    (Ending.returned (Value.bool false)) w57) ∧ (x48 = 0 → (x70 ≠ 0 → ∀ (w58 : World), RowKit.Below w.heap.size w w58 → Kept [m45, m34, m25, m14, m9] w52 w58 → R (Ending.returned
    (Value.bool false)) w58) ∧ (x70 = 0 → (x97 ≠ 0 → ∀ (w59 : World), RowKit.Below w.heap.size w w59 → Kept [m45, m34, m25, m14, m9] w52 w59 → R (Ending.returned (Value.bool
    false)) w59) ∧ (x97 = 0 → (x8 = 2 → ∀ (w60 : World), RowKit.Below w.heap.size w w60 → KeptIn [(0, w52.heap.size)] [m45, m34, m25, m14, m9] w52 w60 → RunsTo Try.prog ((eqGuard
    BinOp.eql 36 (Operand.tmp 94) (Operand.tmp 95) (Value.agg #[Value.int IntKind.i64 x17, Value.int IntKind.i64 x18]) (Value.agg #[Value.int IntKind.i64 (-2), Value.int
    IntKind.i64 (-1)])) >>= fun _ => binOp BinOp.eql 36 (Value.agg #[Value.int IntKind.i64 x17, Value.int IntKind.i64 x18]) (Value.agg #[Value.int IntKind.i64 (-2), Value.int
    IntKind.i64 (-1)])) w60 fun (v1 : Value) (w61 : World) => ∃ (t1 : Bool), v1 = Value.bool t1 ∧ KeepX true w.heap.size [m45, m34, m25, m14, m9] (fun _ => False) w60 w61 ∧ (t1 =
    true → ∀ (w62 : World), RowKit.Below w.heap.size w w62 → KeptIn [(0, w61.heap.size)] [m45, m34, m25, m14, m9] w61 w62 → RunsTo Try.prog ((eqGuard BinOp.eql 36 (Operand.tmp 99)
    (Operand.tmp 100) (Value.agg #[Value.int IntKind.i64 x27, Value.int IntKind.i64 x28]) (Value.agg #[Value.int IntKind.i64 0, Value.int IntKind.i64 0])) >>= fun _ => binOp
    BinOp.eql 36 (Value.agg #[Value.int IntKind.i64 x27, Value.int IntKind.i64 x28]) (Value.agg #[Value.int IntKind.i64 0, Value.int IntKind.i64 0])) w62 fun (v2 : Value) (w63 :
    World) => ∃ (t2 : Bool), v2 = Value.bool t2 ∧ KeepX true w.heap.size [m45, m34, m25, m14, m9] (fun _ => False) w62 w63 ∧ (t2 = true → ∀ (w64 : World), RowKit.Below w.heap.size
    w w64 → KeptIn [(0, w63.heap.size)] [m45, m34, m25, m14, m9] w63 w64 → Calls Try.prog 39 #[Value.int IntKind.i64 2, Value.int IntKind.i64 2, Value.bool false] w64 fun (e27 :
    Ending) (w65 : World) => ∃ (x98 : Int), ∃ (x99 : Int), ∃ (a21 : Option Addr), ∃ (m46 : Nat), ∃ (m47 : Nat), e27 = Ending.returned (Value.agg #[Value.int IntKind.i64 x98,
    Value.int IntKind.i64 x99, Value.slice a21 m46 m47]) ∧ KeepX true w.heap.size [m45, m34, m25, m14, m9] (fun _ => False) w64 w65 ∧ ∀ (w66 : World), RowKit.Below w.heap.size w
    w66 → KeptIn [(0, w65.heap.size)] [m45, m34, m25, m14, m9] w65 w66 → Calls Try.prog 19 #[Value.agg #[Value.int IntKind.i64 x46, Value.int IntKind.i64 x47, Value.slice a11 m23
    m24], Value.agg #[Value.int IntKind.i64 x98, Value.int IntKind.i64 x99, Value.slice a21 m46 m47]] w66 fun (e28 : Ending) (w67 : World) => ∃ (t3 : Bool), e28 = Ending.returned
    (Value.bool t3) ∧ KeepX true w.heap.size [m45, m34, m25, m14, m9] (fun _ => False) w66 w67 ∧ (t3 = true → (x69 = 0 → ∀ (w68 : World), RowKit.Below w.heap.size w w68 → Kept
    [m45, m34, m25, m14, m9] w67 w68 → R (Ending.returned (Value.bool (x96 == -1))) w68) ∧ (x69 ≠ 0 → ∀ (w69 : World), RowKit.Below w.heap.size w w69 → Kept [m45, m34, m25, m14,
    m9] w67 w69 → R (Ending.returned (Value.bool false)) w69)) ∧ (t3 = false → ∀ (w70 : World), RowKit.Below w.heap.size w w70 → Kept [m45, m34, m25, m14, m9] w67 w70 → R
    (Ending.returned (Value.bool false)) w70)) ∧ (t2 = false → ∀ (w71 : World), RowKit.Below w.heap.size w w71 → Kept [m45, m34, m25, m14, m9] w63 w71 → R (Ending.returned
    (Value.bool false)) w71)) ∧ (t1 = false → ∀ (w72 : World), RowKit.Below w.heap.size w w72 → Kept [m45, m34, m25, m14, m9] w61 w72 → R (Ending.returned (Value.bool false)) w72))
    ∧ (x8 ≠ 2 → ∀ (w73 : World), RowKit.Below w.heap.size w w73 → Kept [m45, m34, m25, m14, m9] w52 w73 → R (Ending.returned (Value.bool false)) w73))))))))) : Calls Try.prog 12
    #[] w R := calls_of_vc (pure := true) (wrapAt := []) (muts := []) (esc := []) (args := []) (vs := []) Try.func12 rfl rfl rfl (Eq.mp (by kernel_rfl) h) 
set_option maxRecDepth 100000 in
set_option maxHeartbeats 2000000 in
theorem vc3 (r0 : Int) (r1 : Int) (r2 : Int) (r3 : Int) (r4 : Int) (r5a : Option Addr) (r5n : Nat) (r5c : Nat) (s0 : Int) (s1 : Int) (s2a : Option Addr) (s2n : Nat) (s2c : Nat) (x0
    : Int) (x1 : Int) (x2 : Int) (w : World) (R : Ending → World → Prop) (h : ∀ (m1 : Nat), w.heap.size ≤ m1 → ∀ (m2 : Nat), w.heap.size ≤ m2 → ∀ (m3 : Nat), w.heap.size ≤ m3 → ∀
    (w1 : World), RowKit.Below w.heap.size w w1 → Kept [m3, m2, m1] w w1 → Calls Try.prog 11 #[Value.agg #[Value.int IntKind.i64 r0, Value.int IntKind.i64 r1, Value.int IntKind.i64
    r2, Value.int IntKind.i64 r3, Value.int IntKind.i64 r4, Value.slice r5a r5n r5c], Value.agg #[Value.int IntKind.i64 s0, Value.int IntKind.i64 s1, Value.slice s2a s2n s2c]] w1
    fun (e1 : Ending) (w2 : World) => ∃ (t1 : Bool), e1 = Ending.returned (Value.bool t1) ∧ KeepX true w.heap.size [m3, m2, m1] (fun _ => False) w1 w2 ∧ (t1 = true → ∀ (w3 :
    World), RowKit.Below w.heap.size w w3 → Kept [m3, m2, m1] w2 w3 → Calls Try.prog 12 #[] w3 fun (e2 : Ending) (w4 : World) => ∃ (t2 : Bool), e2 = Ending.returned (Value.bool t2)
    ∧ KeepX true w.heap.size [m3, m2, m1] (fun _ => False) w3 w4 ∧ ∀ (w5 : World), RowKit.Below w.heap.size w w5 → Kept [m3, m2, m1] w4 w5 → R (Ending.returned (Value.bool t2)) w5)
    ∧ (t1 = false → ∀ (w6 : World), RowKit.Below w.heap.size w w6 → KeptIn [(0, w2.heap.size)] [m3, m2, m1] w2 w6 → Calls Try.prog 13 #[Value.agg #[Value.int IntKind.i64 r0,
    Value.int IntKind.i64 r1, Value.int IntKind.i64 r2, Value.int IntKind.i64 r3, Value.int IntKind.i64 r4, Value.slice r5a r5n r5c]] w6 fun (e3 : Ending) (w7 : World) => ∃ (x1_1 :
    Int), ∃ (x2_1 : Int), ∃ (x3 : Int), ∃ (x4 : Int), ∃ (x5 : Int), ∃ (a1 : Option Addr), ∃ (m4 : Nat), ∃ (m5 : Nat), e3 = Ending.returned (Value.agg #[Value.int IntKind.i64 x1_1,
    Value.int IntKind.i64 x2_1, Value.int IntKind.i64 x3, Value.int IntKind.i64 x4, Value.int IntKind.i64 x5, Value.slice a1 m4 m5]) ∧ RowKit.Below w6.heap.size w6 w7 ∧ ∀ (w8 :
    World), RowKit.Below w.heap.size w w8 → KeptIn [(0, w2.heap.size), (w6.heap.size, w7.heap.size)] [m3, m2, m1] w7 w8 → Calls Try.prog 14 #[Value.agg #[Value.int IntKind.i64 s0,
    Value.int IntKind.i64 s1, Value.slice s2a s2n s2c]] w8 fun (e4 : Ending) (w9 : World) => ∃ (x6 : Int), ∃ (x7 : Int), ∃ (a2 : Option Addr), ∃ (m6 : Nat), ∃ (m7 : Nat), e4 =
    Ending.returned (Value.agg #[Value.int IntKind.i64 x6, Value.int IntKind.i64 x7, Value.slice a2 m6 m7]) ∧ RowKit.Below w8.heap.size w8 w9 ∧ ∀ (m8 : Nat), w2.heap.size ≤ m8 → m8
    < w8.heap.size ∨ w9.heap.size ≤ m8 → m8 < w6.heap.size ∨ w7.heap.size ≤ m8 → ∀ (m9 : Nat), w2.heap.size ≤ m9 → m9 < w8.heap.size ∨ w9.heap.size ≤ m9 → m9 < w6.heap.size ∨
    w7.heap.size ≤ m9 → ∀ (m10 : Nat), w2.heap.size ≤ m10 → m10 < w8.heap.size ∨ w9.heap.size ≤ m10 → m10 < w6.heap.size ∨ w7.heap.size ≤ m10 → ∀ (w10 : World), RowKit.Below
    w.heap.size w w10 → Kept [m10, m9, m8, m3, m2, m1] w9 w10 → Calls Try.prog 15 #[Value.agg #[Value.int IntKind.i64 x1_1, Value.int IntKind.i64 x2_1, Value.int IntKind.i64 x3,
    Value.int IntKind.i64 x4, Value.int IntKind.i64 x5, Value.slice a1 m4 m5]] w10 fun (e5 : Ending) (w11 : World) => ∃ (x8 : Int), e5 = Ending.returned (Value.int IntKind.i64 x8)
    ∧ KeepX true w.heap.size [m10, m9, m8, m3, m2, m1] (fun _ => False) w10 w11 ∧ ∀ (w12 : World), RowKit.Below w.heap.size w w12 → Kept [m10, m9, m8, m3, m2, m1] w11 w12 → Calls
    Try.prog 16 #[Value.agg #[Value.int IntKind.i64 x1_1, Value.int IntKind.i64 x2_1, Value.int IntKind.i64 x3, Value.int IntKind.i64 x4, Value.int IntKind.i64 x5, Value.slice a1
    m4 m5], Value.agg #[Value.int IntKind.i64 x6, Value.int IntKind.i64 x7, Value.slice a2 m6 m7], Value.agg #[Value.int IntKind.i64 x0, Value.int IntKind.i64 x1], Value.int
    IntKind.i64 x2] w12 fun (e6 : Ending) (w13 : World) => ∃ (x9 : Int), ∃ (x10 : Int), ∃ (a3 : Option Addr), ∃ (m11 : Nat), ∃ (m12 : Nat), ∃ (x11 : Int), e6 = Ending.returned
    (Value.tuple #[Value.agg #[Value.int IntKind.i64 x9, Value.int IntKind.i64 x10, Value.slice a3 m11 m12], Value.int IntKind.i64 x11]) ∧ KeepX true w.heap.size [m10, m9, m8, m3,
    m2, m1] (fun _ => False) w12 w13 ∧ ∀ (m13 : Nat), w13.heap.size ≤ m13 → ∀ (w14 : World), RowKit.Below w.heap.size w w14 → Kept [m13, m10, m9, m8, m3, m2, m1] w13 w14 → Calls
    Try.prog 17 #[Value.agg #[Value.int IntKind.i64 r0, Value.int IntKind.i64 r1, Value.int IntKind.i64 r2, Value.int IntKind.i64 r3, Value.int IntKind.i64 r4, Value.slice r5a r5n
    r5c]] w14 fun (e7 : Ending) (w15 : World) => ∃ (x12 : Int), e7 = Ending.returned (Value.int IntKind.i64 x12) ∧ KeepX true w.heap.size [m13, m10, m9, m8, m3, m2, m1] (fun _ =>
    False) w14 w15 ∧ ∀ (w16 : World), RowKit.Below w.heap.size w w16 → Kept [m13, m10, m9, m8, m3, m2, m1] w15 w16 → Calls Try.prog 18 #[Value.agg #[Value.int IntKind.i64 x1_1,
    Value.int IntKind.i64 x2_1, Value.int IntKind.i64 x3, Value.int IntKind.i64 x4, Value.int IntKind.i64 x5, Value.slice a1 m4 m5], Value.agg #[Value.int IntKind.i64 r0, Value.int
    IntKind.i64 r1, Value.int IntKind.i64 r2, Value.int IntKind.i64 r3, Value.int IntKind.i64 r4, Value.slice r5a r5n r5c]] w16 fun (e8 : Ending) (w17 : World) => ∃ (t3 : Bool), e8
    = Ending.returned (Value.bool t3) ∧ KeepX true w.heap.size [m13, m10, m9, m8, m3, m2, m1] (fun _ => False) w16 w17 ∧ ((!t3) = true → ∀ (w18 : World), RowKit.Below w.heap.size w
    w18 → Kept [m13, m10, m9, m8, m3, m2, m1] w17 w18 → R (Ending.returned (Value.bool false)) w18) ∧ ((!t3) = false → ∀ (w19 : World), RowKit.Below w.heap.size w w19 → Kept [m13,
    m10, m9, m8, m3, m2, m1] w17 w19 → Calls Try.prog 19 #[Value.agg #[Value.int IntKind.i64 x6, Value.int IntKind.i64 x7, Value.slice a2 m6 m7], Value.agg #[Value.int IntKind.i64
    s0, Value.int IntKind.i64 s1, Value.slice s2a s2n s2c]] w19 fun (e9 : Ending) (w20 : World) => ∃ (t4 : Bool), e9 = Ending.returned (Value.bool t4) ∧ KeepX true w.heap.size
    [m13, m10, m9, m8, m3, m2, m1] (fun _ => False) w19 w20 ∧ ((!t4) = true → ∀ (w21 : World), RowKit.Below w.heap.size w w21 → Kept [m13, m10, m9, m8, m3, m2, m1] w20 w21 → R
    (Ending.returned (Value.bool false)) w21) ∧ ((!t4) = false → (x8 ≠ x12 → ∀ (w22 : World), RowKit.Below w.heap.size w w22 → Kept [m13, m10, m9, m8, m3, m2, m1] w20 w22 → R
    (Ending.returned (Value.bool false)) w22) ∧ (x8 = x12 → (x12 = 0 → ∀ (w23 : World), RowKit.Below w.heap.size w w23 → Kept [m13, m10, m9, m8, m3, m2, m1] w20 w23 → Calls
    Try.prog 20 #[Value.agg #[Value.int IntKind.i64 r0, Value.int IntKind.i64 r1, Value.int IntKind.i64 r2, Value.int IntKind.i64 r3, Value.int IntKind.i64 r4, Value.slice r5a r5n
    r5c], Value.agg #[Value.int IntKind.i64 s0, Value.int IntKind.i64 s1, Value.slice s2a s2n s2c]] w23 fun (e10 : Ending) (w24 : World) => ∃ (t5 : Bool), e10 = Ending.returned
    (Value.bool t5) ∧ KeepX true w.heap.size [m13, m10, m9, m8, m3, m2, m1] (fun _ => False) w23 w24 ∧ ((!t5) = true → ∀ (m14 : Nat), w24.heap.size ≤ m14 → ((2 : Int) = 0 → ∀ (w25
    : World), RowKit.Below w.heap.size w w25 → Kept [m14, m13, m10, m9, m8, m3, m2, m1] w24 w25 → Calls Try.prog 21 #[Value.agg #[Value.int IntKind.i64 r0, Value.int IntKind.i64
    r1, Value.int IntKind.i64 r2, Value.int IntKind.i64 r3, Value.int IntKind.i64 r4, Value.slice r5a r5n r5c], Value.agg #[Value.int IntKind.i64 s0, Value.int IntKind.i64 s1,
    Value.slice s2a s2n s2c], Value.agg #[Value.int IntKind.i64 x0, Value.int IntKind.i64 x1]] w25 fun (e11 : Ending) (w26 : World) => ∃ (x13 : Int), ∃ (x14 : Int), ∃ (t6 : Bool),
    e11 = Ending.returned (Value.tuple #[Value.agg #[Value.int IntKind.i64 x13, Value.int IntKind.i64 x14], Value.bool t6]) ∧ KeepX true w.heap.size [m14, m13, m10, m9, m8, m3, m2,
    m1] (fun _ => False) w25 w26 ∧ ∀ (m15 : Nat), w26.heap.size ≤ m15 → ((!t6) = true → (x11 = 3 → ∀ (w27 : World), RowKit.Below w.heap.size w w27 → Kept [m15, m14, m13, m10, m9,
    m8, m3, m2, m1] w26 w27 → Calls Try.prog 19 #[Value.agg #[Value.int IntKind.i64 x9, Value.int IntKind.i64 x10, Value.slice a3 m11 m12], Value.agg #[Value.int IntKind.i64 0,
    Value.int IntKind.i64 0, Value.slice none 0 0]] w27 fun (e12 : Ending) (w28 : World) => ∃ (t7 : Bool), e12 = Ending.returned (Value.bool t7) ∧ KeepX true w.heap.size [m15, m14,
    m13, m10, m9, m8, m3, m2, m1] (fun _ => False) w27 w28 ∧ (t7 = true → ∀ (w29 : World), RowKit.Below w.heap.size w w29 → Kept [m15, m14, m13, m10, m9, m8, m3, m2, m1] w28 w29 →
    Calls Try.prog 12 #[] w29 fun (e13 : Ending) (w30 : World) => ∃ (t8 : Bool), e13 = Ending.returned (Value.bool t8) ∧ KeepX true w.heap.size [m15, m14, m13, m10, m9, m8, m3, m2,
    m1] (fun _ => False) w29 w30 ∧ ∀ (w31 : World), RowKit.Below w.heap.size w w31 → Kept [m15, m14, m13, m10, m9, m8, m3, m2, m1] w30 w31 → R (Ending.returned (Value.bool t8))
    w31) ∧ (t7 = false → ∀ (w32 : World), RowKit.Below w.heap.size w w32 → Kept [m15, m14, m13, m10, m9, m8, m3, m2, m1] w28 w32 → R (Ending.returned (Value.bool false)) w32)) ∧
    (x11 ≠ 3 → ∀ (w33 : World), RowKit.Below w.heap.size w w33 → Kept [m15, m14, m13, m10, m9, m8, m3, m2, m1] w26 w33 → R (Ending.returned (Value.bool false)) w33)) ∧ ((!t6) =
    false → (-9223372036854775808 ≤ x13 - r1 ∧ x13 - r1 ≤ 9223372036854775807) ∧ (x2 < x13 - r1 → (x11 = 9 → ∀ (w34 : World), RowKit.Below w.heap.size w w34 → Kept [m15, m14, m13,
    m10, m9, m8, m3, m2, m1] w26 w34 → Calls Try.prog 19 #[Value.agg #[Value.int IntKind.i64 x9, Value.int IntKind.i64 x10, Value.slice a3 m11 m12], Value.agg #[Value.int
    IntKind.i64 0, Value.int IntKind.i64 0, Value.slice none 0 0]] w34 fun (e14 : Ending) (w35 : World) => ∃ (t9 : Bool), e14 = Ending.returned (Value.bool t9) ∧ KeepX true
    w.heap.size [m15, m14, m13, m10, m9, m8, m3, m2, m1] (fun _ => False) w34 w35 ∧ (t9 = true → ∀ (w36 : World), RowKit.Below w.heap.size w w36 → Kept [m15, m14, m13, m10, m9, m8,
    m3, m2, m1] w35 w36 → Calls Try.prog 12 #[] w36 fun (e15 : Ending) (w37 : World) => ∃ (t10 : Bool), e15 = Ending.returned (Value.bool t10) ∧ KeepX true w.heap.size [m15, m14,
    m13, m10, m9, m8, m3, m2, m1] (fun _ => False) w36 w37 ∧ ∀ (w38 : World), RowKit.Below w.heap.size w w38 → Kept [m15, m14, m13, m10, m9, m8, m3, m2, m1] w37 w38 → R
    (Ending.returned (Value.bool t10)) w38) ∧ (t9 = false → ∀ (w39 : World), RowKit.Below w.heap.size w w39 → Kept [m15, m14, m13, m10, m9, m8, m3, m2, m1] w35 w39 → R
    (Ending.returned (Value.bool false)) w39)) ∧ (x11 ≠ 9 → ∀ (w40 : World), RowKit.Below w.heap.size w w40 → Kept [m15, m14, m13, m10, m9, m8, m3, m2, m1] w26 w40 → R
    (Ending.returned (Value.bool false)) w40)) ∧ (x13 - r1 ≤ x2 → (-9223372036854775808 ≤ x14 + r1 ∧ x14 + r1 ≤ 9223372036854775807) ∧ (x14 + r1 < x2 → (x11 = 9 → ∀ (w41 : World),
    RowKit.Below w.heap.size w w41 → Kept [m15, m14, m13, m10, m9, m8, m3, m2, m1] w26 w41 → Calls Try.prog 19 #[Value.agg #[Value.int IntKind.i64 x9, Value.int IntKind.i64 x10,
    Value.slice a3 m11 m12], Value.agg #[Value.int IntKind.i64 0, Value.int IntKind.i64 0, Value.slice none 0 0]] w41 fun (e16 : Ending) (w42 : World) => ∃ (t11 : Bool), e16 =
    Ending.returned (Value.bool t11) ∧ KeepX true w.heap.size [m15, m14, m13, m10, m9, m8, m3, m2, m1] (fun _ => False) w41 w42 ∧ (t11 = true → ∀ (w43 : World), RowKit.Below
    w.heap.size w w43 → Kept [m15, m14, m13, m10, m9, m8, m3, m2, m1] w42 w43 → Calls Try.prog 12 #[] w43 fun (e17 : Ending) (w44 : World) => ∃ (t12 : Bool), e17 = Ending.returned
    (Value.bool t12) ∧ KeepX true w.heap.size [m15, m14, m13, m10, m9, m8, m3, m2, m1] (fun _ => False) w43 w44 ∧ ∀ (w45 : World), RowKit.Below w.heap.size w w45 → Kept [m15, m14,
    m13, m10, m9, m8, m3, m2, m1] w44 w45 → R (Ending.returned (Value.bool t12)) w45) ∧ (t11 = false → ∀ (w46 : World), RowKit.Below w.heap.size w w46 → Kept [m15, m14, m13, m10,
    m9, m8, m3, m2, m1] w42 w46 → R (Ending.returned (Value.bool false)) w46)) ∧ (x11 ≠ 9 → ∀ (w47 : World), RowKit.Below w.heap.size w w47 → Kept [m15, m14, m13, m10, m9, m8, m3,
    m2, m1] w26 w47 → R (Ending.returned (Value.bool false)) w47)) ∧ (x2 ≤ x14 + r1 → ∀ (w48 : World), RowKit.Below w.heap.size w w48 → Kept [m15, m14, m13, m10, m9, m8, m3, m2,
    m1] w26 w48 → Calls Try.prog 22 #[Value.agg #[Value.int IntKind.i64 r0, Value.int IntKind.i64 r1, Value.int IntKind.i64 r2, Value.int IntKind.i64 r3, Value.int IntKind.i64 r4,
    Value.slice r5a r5n r5c], Value.agg #[Value.int IntKind.i64 s0, Value.int IntKind.i64 s1, Value.slice s2a s2n s2c], Value.agg #[Value.int IntKind.i64 x0, Value.int IntKind.i64
    x1], Value.agg #[Value.int IntKind.i64 x13, Value.int IntKind.i64 x14], Value.int IntKind.i64 x2] w48 fun (e18 : Ending) (w49 : World) => ∃ (x15 : Int), ∃ (x16 : Int), ∃ (a4 :
    Option Addr), ∃ (m16 : Nat), ∃ (m17 : Nat), ∃ (t13 : Bool), e18 = Ending.returned (Value.tuple #[Value.agg #[Value.int IntKind.i64 x15, Value.int IntKind.i64 x16, Value.slice
    a4 m16 m17], Value.bool t13]) ∧ KeepX true w.heap.size [m15, m14, m13, m10, m9, m8, m3, m2, m1] (fun _ => False) w48 w49 ∧ ∀ (m18 : Nat), w49.heap.size ≤ m18 → (x11 = 2 → ∀
    (w50 : World), RowKit.Below w.heap.size w w50 → Kept [m18, m15, m14, m13, m10, m9, m8, m3, m2, m1] w49 w50 → Calls Try.prog 19 #[Value.agg #[Value.int IntKind.i64 x9, Value.int
    IntKind.i64 x10, Value.slice a3 m11 m12], Value.agg #[Value.int IntKind.i64 x15, Value.int IntKind.i64 x16, Value.slice a4 m16 m17]] w50 fun (e19 : Ending) (w51 : World) => ∃
    (t14 : Bool), e19 = Ending.returned (Value.bool t14) ∧ KeepX true w.heap.size [m18, m15, m14, m13, m10, m9, m8, m3, m2, m1] (fun _ => False) w50 w51 ∧ (t14 = true → ∀ (w52 :
    World), RowKit.Below w.heap.size w w52 → Kept [m18, m15, m14, m13, m10, m9, m8, m3, m2, m1] w51 w52 → Calls Try.prog 12 #[] w52 fun (e20 : Ending) (w53 : World) => ∃ (t15 :
    Bool), e20 = Ending.returned (Value.bool t15) ∧ KeepX true w.heap.size [m18, m15, m14, m13, m10, m9, m8, m3, m2, m1] (fun _ => False) w52 w53 ∧ ∀ (w54 : World), RowKit.Below
    w.heap.size w w54 → Kept [m18, m15, m14, m13, m10, m9, m8, m3, m2, m1] w53 w54 → R (Ending.returned (Value.bool t15)) w54) ∧ (t14 = false → ∀ (w55 : World), RowKit.Below
    w.heap.size w w55 → Kept [m18, m15, m14, m13, m10, m9, m8, m3, m2, m1] w51 w55 → R (Ending.returned (Value.bool false)) w55)) ∧ (x11 ≠ 2 → ∀ (w56 : World), RowKit.Below
    w.heap.size w w56 → Kept [m18, m15, m14, m13, m10, m9, m8, m3, m2, m1] w49 w56 → R (Ending.returned (Value.bool false)) w56))))) ∧ ((2 : Int) ≠ 0 → (x11 = 2 → ∀ (w57 : World),
    RowKit.Below w.heap.size w w57 → Kept [m14, m13, m10, m9, m8, m3, m2, m1] w24 w57 → Calls Try.prog 19 #[Value.agg #[Value.int IntKind.i64 x9, Value.int IntKind.i64 x10,
    Value.slice a3 m11 m12], Value.agg #[Value.int IntKind.i64 0, Value.int IntKind.i64 0, Value.slice none 0 0]] w57 fun (e21 : Ending) (w58 : World) => ∃ (t16 : Bool), e21 =
    Ending.returned (Value.bool t16) ∧ KeepX true w.heap.size [m14, m13, m10, m9, m8, m3, m2, m1] (fun _ => False) w57 w58 ∧ (t16 = true → ∀ (w59 : World), RowKit.Below w.heap.size
    w w59 → Kept [m14, m13, m10, m9, m8, m3, m2, m1] w58 w59 → Calls Try.prog 12 #[] w59 fun (e22 : Ending) (w60 : World) => ∃ (t17 : Bool), e22 = Ending.returned (Value.bool t17)
    ∧ KeepX true w.heap.size [m14, m13, m10, m9, m8, m3, m2, m1] (fun _ => False) w59 w60 ∧ ∀ (w61 : World), RowKit.Below w.heap.size w w61 → Kept [m14, m13, m10, m9, m8, m3, m2,
    m1] w60 w61 → R (Ending.returned (Value.bool t17)) w61) ∧ (t16 = false → ∀ (w62 : World), RowKit.Below w.heap.size w w62 → Kept [m14, m13, m10, m9, m8, m3, m2, m1] w58 w62 → R
    (Ending.returned (Value.bool false)) w62)) ∧ (x11 ≠ 2 → ∀ (w63 : World), RowKit.Below w.heap.size w w63 → Kept [m14, m13, m10, m9, m8, m3, m2, m1] w24 w63 → R (Ending.returned
    (Value.bool false)) w63))) ∧ ((!t5) = false → ∀ (m19 : Nat), w24.heap.size ≤ m19 → (x12 = 0 → ∀ (w64 : World), RowKit.Below w.heap.size w w64 → Kept [m19, m13, m10, m9, m8, m3,
    m2, m1] w24 w64 → Calls Try.prog 21 #[Value.agg #[Value.int IntKind.i64 r0, Value.int IntKind.i64 r1, Value.int IntKind.i64 r2, Value.int IntKind.i64 r3, Value.int IntKind.i64
    r4, Value.slice r5a r5n r5c], Value.agg #[Value.int IntKind.i64 s0, Value.int IntKind.i64 s1, Value.slice s2a s2n s2c], Value.agg #[Value.int IntKind.i64 x0, Value.int
    IntKind.i64 x1]] w64 fun (e23 : Ending) (w65 : World) => ∃ (x17 : Int), ∃ (x18 : Int), ∃ (t18 : Bool), e23 = Ending.returned (Value.tuple #[Value.agg #[Value.int IntKind.i64
    x17, Value.int IntKind.i64 x18], Value.bool t18]) ∧ KeepX true w.heap.size [m19, m13, m10, m9, m8, m3, m2, m1] (fun _ => False) w64 w65 ∧ ∀ (m20 : Nat), w65.heap.size ≤ m20 →
    ((!t18) = true → (x11 = 3 → ∀ (w66 : World), RowKit.Below w.heap.size w w66 → Kept [m20, m19, m13, m10, m9, m8, m3, m2, m1] w65 w66 → Calls Try.prog 19 #[Value.agg #[Value.int
    IntKind.i64 x9, Value.int IntKind.i64 x10, Value.slice a3 m11 m12], Value.agg #[Value.int IntKind.i64 0, Value.int IntKind.i64 0, Value.slice none 0 0]] w66 fun (e24 : Ending)
    (w67 : World) => ∃ (t19 : Bool), e24 = Ending.returned (Value.bool t19) ∧ KeepX true w.heap.size [m20, m19, m13, m10, m9, m8, m3, m2, m1] (fun _ => False) w66 w67 ∧ (t19 = true
    → ∀ (w68 : World), RowKit.Below w.heap.size w w68 → Kept [m20, m19, m13, m10, m9, m8, m3, m2, m1] w67 w68 → Calls Try.prog 12 #[] w68 fun (e25 : Ending) (w69 : World) => ∃ (t20
    : Bool), e25 = Ending.returned (Value.bool t20) ∧ KeepX true w.heap.size [m20, m19, m13, m10, m9, m8, m3, m2, m1] (fun _ => False) w68 w69 ∧ ∀ (w70 : World), RowKit.Below
    w.heap.size w w70 → Kept [m20, m19, m13, m10, m9, m8, m3, m2, m1] w69 w70 → R (Ending.returned (Value.bool t20)) w70) ∧ (t19 = false → ∀ (w71 : World), RowKit.Below w.heap.size
    w w71 → Kept [m20, m19, m13, m10, m9, m8, m3, m2, m1] w67 w71 → R (Ending.returned (Value.bool false)) w71)) ∧ (x11 ≠ 3 → ∀ (w72 : World), RowKit.Below w.heap.size w w72 → Kept
    [m20, m19, m13, m10, m9, m8, m3, m2, m1] w65 w72 → R (Ending.returned (Value.bool false)) w72)) ∧ ((!t18) = false → (-9223372036854775808 ≤ x17 - r1 ∧ x17 - r1 ≤
    9223372036854775807) ∧ (x2 < x17 - r1 → (x11 = 9 → ∀ (w73 : World), RowKit.Below w.heap.size w w73 → Kept [m20, m19, m13, m10, m9, m8, m3, m2, m1] w65 w73 → Calls Try.prog 19
    #[Value.agg #[Value.int IntKind.i64 x9, Value.int IntKind.i64 x10, Value.slice a3 m11 m12], Value.agg #[Value.int IntKind.i64 0, Value.int IntKind.i64 0, Value.slice none 0 0]]
    w73 fun (e26 : Ending) (w74 : World) => ∃ (t21 : Bool), e26 = Ending.returned (Value.bool t21) ∧ KeepX true w.heap.size [m20, m19, m13, m10, m9, m8, m3, m2, m1] (fun _ =>
    False) w73 w74 ∧ (t21 = true → ∀ (w75 : World), RowKit.Below w.heap.size w w75 → Kept [m20, m19, m13, m10, m9, m8, m3, m2, m1] w74 w75 → Calls Try.prog 12 #[] w75 fun (e27 :
    Ending) (w76 : World) => ∃ (t22 : Bool), e27 = Ending.returned (Value.bool t22) ∧ KeepX true w.heap.size [m20, m19, m13, m10, m9, m8, m3, m2, m1] (fun _ => False) w75 w76 ∧ ∀
    (w77 : World), RowKit.Below w.heap.size w w77 → Kept [m20, m19, m13, m10, m9, m8, m3, m2, m1] w76 w77 → R (Ending.returned (Value.bool t22)) w77) ∧ (t21 = false → ∀ (w78 :
    World), RowKit.Below w.heap.size w w78 → Kept [m20, m19, m13, m10, m9, m8, m3, m2, m1] w74 w78 → R (Ending.returned (Value.bool false)) w78)) ∧ (x11 ≠ 9 → ∀ (w79 : World),
    RowKit.Below w.heap.size w w79 → Kept [m20, m19, m13, m10, m9, m8, m3, m2, m1] w65 w79 → R (Ending.returned (Value.bool false)) w79)) ∧ (x17 - r1 ≤ x2 → (-9223372036854775808 ≤
    x18 + r1 ∧ x18 + r1 ≤ 9223372036854775807) ∧ (x18 + r1 < x2 → (x11 = 9 → ∀ (w80 : World), RowKit.Below w.heap.size w w80 → Kept [m20, m19, m13, m10, m9, m8, m3, m2, m1] w65 w80
    → Calls Try.prog 19 #[Value.agg #[Value.int IntKind.i64 x9, Value.int IntKind.i64 x10, Value.slice a3 m11 m12], Value.agg #[Value.int IntKind.i64 0, Value.int IntKind.i64 0,
    Value.slice none 0 0]] w80 fun (e28 : Ending) (w81 : World) => ∃ (t23 : Bool), e28 = Ending.returned (Value.bool t23) ∧ KeepX true w.heap.size [m20, m19, m13, m10, m9, m8, m3,
    m2, m1] (fun _ => False) w80 w81 ∧ (t23 = true → ∀ (w82 : World), RowKit.Below w.heap.size w w82 → Kept [m20, m19, m13, m10, m9, m8, m3, m2, m1] w81 w82 → Calls Try.prog 12 #[]
    w82 fun (e29 : Ending) (w83 : World) => ∃ (t24 : Bool), e29 = Ending.returned (Value.bool t24) ∧ KeepX true w.heap.size [m20, m19, m13, m10, m9, m8, m3, m2, m1] (fun _ =>
    False) w82 w83 ∧ ∀ (w84 : World), RowKit.Below w.heap.size w w84 → Kept [m20, m19, m13, m10, m9, m8, m3, m2, m1] w83 w84 → R (Ending.returned (Value.bool t24)) w84) ∧ (t23 =
    false → ∀ (w85 : World), RowKit.Below w.heap.size w w85 → Kept [m20, m19, m13, m10, m9, m8, m3, m2, m1] w81 w85 → R (Ending.returned (Value.bool false)) w85)) ∧ (x11 ≠ 9 → ∀
    (w86 : World), RowKit.Below w.heap.size w w86 → Kept [m20, m19, m13, m10, m9, m8, m3, m2, m1] w65 w86 → R (Ending.returned (Value.bool false)) w86)) ∧ (x2 ≤ x18 + r1 → ∀ (w87 :
    World), RowKit.Below w.heap.size w w87 → Kept [m20, m19, m13, m10, m9, m8, m3, m2, m1] w65 w87 → Calls Try.prog 22 #[Value.agg #[Value.int IntKind.i64 r0, Value.int IntKind.i64
    r1, Value.int IntKind.i64 r2, Value.int IntKind.i64 r3, Value.int IntKind.i64 r4, Value.slice r5a r5n r5c], Value.agg #[Value.int IntKind.i64 s0, Value.int IntKind.i64 s1,
    Value.slice s2a s2n s2c], Value.agg #[Value.int IntKind.i64 x0, Value.int IntKind.i64 x1], Value.agg #[Value.int IntKind.i64 x17, Value.int IntKind.i64 x18], Value.int
    IntKind.i64 x2] w87 fun (e30 : Ending) (w88 : World) => ∃ (x19 : Int), ∃ (x20 : Int), ∃ (a5 : Option Addr), ∃ (m21 : Nat), ∃ (m22 : Nat), ∃ (t25 : Bool), e30 = Ending.returned
    (Value.tuple #[Value.agg #[Value.int IntKind.i64 x19, Value.int IntKind.i64 x20, Value.slice a5 m21 m22], Value.bool t25]) ∧ KeepX true w.heap.size [m20, m19, m13, m10, m9, m8,
    m3, m2, m1] (fun _ => False) w87 w88 ∧ ∀ (m23 : Nat), w88.heap.size ≤ m23 → (x11 = x12 → ∀ (w89 : World), RowKit.Below w.heap.size w w89 → Kept [m23, m20, m19, m13, m10, m9,
    m8, m3, m2, m1] w88 w89 → Calls Try.prog 19 #[Value.agg #[Value.int IntKind.i64 x9, Value.int IntKind.i64 x10, Value.slice a3 m11 m12], Value.agg #[Value.int IntKind.i64 x19,
    Value.int IntKind.i64 x20, Value.slice a5 m21 m22]] w89 fun (e31 : Ending) (w90 : World) => ∃ (t26 : Bool), e31 = Ending.returned (Value.bool t26) ∧ KeepX true w.heap.size
    [m23, m20, m19, m13, m10, m9, m8, m3, m2, m1] (fun _ => False) w89 w90 ∧ (t26 = true → ∀ (w91 : World), RowKit.Below w.heap.size w w91 → Kept [m23, m20, m19, m13, m10, m9, m8,
    m3, m2, m1] w90 w91 → Calls Try.prog 12 #[] w91 fun (e32 : Ending) (w92 : World) => ∃ (t27 : Bool), e32 = Ending.returned (Value.bool t27) ∧ KeepX true w.heap.size [m23, m20,
    m19, m13, m10, m9, m8, m3, m2, m1] (fun _ => False) w91 w92 ∧ ∀ (w93 : World), RowKit.Below w.heap.size w w93 → Kept [m23, m20, m19, m13, m10, m9, m8, m3, m2, m1] w92 w93 → R
    (Ending.returned (Value.bool t27)) w93) ∧ (t26 = false → ∀ (w94 : World), RowKit.Below w.heap.size w w94 → Kept [m23, m20, m19, m13, m10, m9, m8, m3, m2, m1] w90 w94 → R
    (Ending.returned (Value.bool false)) w94)) ∧ (x11 ≠ x12 → ∀ (w95 : World), RowKit.Below w.heap.size w w95 → Kept [m23, m20, m19, m13, m10, m9, m8, m3, m2, m1] w88 w95 → R
    (Ending.returned (Value.bool false)) w95))))) ∧ (x12 ≠ 0 → (x11 = x12 → ∀ (w96 : World), RowKit.Below w.heap.size w w96 → Kept [m19, m13, m10, m9, m8, m3, m2, m1] w24 w96 →
    Calls Try.prog 19 #[Value.agg #[Value.int IntKind.i64 x9, Value.int IntKind.i64 x10, Value.slice a3 m11 m12], Value.agg #[Value.int IntKind.i64 0, Value.int IntKind.i64 0,
    Value.slice none 0 0]] w96 fun (e33 : Ending) (w97 : World) => ∃ (t28 : Bool), e33 = Ending.returned (Value.bool t28) ∧ KeepX true w.heap.size [m19, m13, m10, m9, m8, m3, m2,
    m1] (fun _ => False) w96 w97 ∧ (t28 = true → ∀ (w98 : World), RowKit.Below w.heap.size w w98 → Kept [m19, m13, m10, m9, m8, m3, m2, m1] w97 w98 → Calls Try.prog 12 #[] w98 fun
    (e34 : Ending) (w99 : World) => ∃ (t29 : Bool), e34 = Ending.returned (Value.bool t29) ∧ KeepX true w.heap.size [m19, m13, m10, m9, m8, m3, m2, m1] (fun _ => False) w98 w99 ∧ ∀
    (w100 : World), RowKit.Below w.heap.size w w100 → Kept [m19, m13, m10, m9, m8, m3, m2, m1] w99 w100 → R (Ending.returned (Value.bool t29)) w100) ∧ (t28 = false → ∀ (w101 :
    World), RowKit.Below w.heap.size w w101 → Kept [m19, m13, m10, m9, m8, m3, m2, m1] w97 w101 → R (Ending.returned (Value.bool false)) w101)) ∧ (x11 ≠ x12 → ∀ (w102 : World),
    RowKit.Below w.heap.size w w102 → Kept [m19, m13, m10, m9, m8, m3, m2, m1] w24 w102 → R (Ending.returned (Value.bool false)) w102)))) ∧ (x12 ≠ 0 → ∀ (m24 : Nat), w20.heap.size
    ≤ m24 → (x12 = 0 → ∀ (w103 : World), RowKit.Below w.heap.size w w103 → Kept [m24, m13, m10, m9, m8, m3, m2, m1] w20 w103 → Calls Try.prog 21 #[Value.agg #[Value.int IntKind.i64
    r0, Value.int IntKind.i64 r1, Value.int IntKind.i64 r2, Value.int IntKind.i64 r3, Value.int IntKind.i64 r4, Value.slice r5a r5n r5c], Value.agg #[Value.int IntKind.i64 s0,
    Value.int IntKind.i64 s1, Value.slice s2a s2n s2c], Value.agg #[Value.int IntKind.i64 x0, Value.int IntKind.i64 x1]] w103 fun (e35 : Ending) (w104 : World) => ∃ (x21 : Int), ∃
    (x22 : Int), ∃ (t30 : Bool), e35 = Ending.returned (Value.tuple #[Value.agg #[Value.int IntKind.i64 x21, Value.int IntKind.i64 x22], Value.bool t30]) ∧ KeepX true w.heap.size
    [m24, m13, m10, m9, m8, m3, m2, m1] (fun _ => False) w103 w104 ∧ ∀ (m25 : Nat), w104.heap.size ≤ m25 → ((!t30) = true → (x11 = 3 → ∀ (w105 : World), RowKit.Below w.heap.size w
    w105 → Kept [m25, m24, m13, m10, m9, m8, m3, m2, m1] w104 w105 → Calls Try.prog 19 #[Value.agg #[Value.int IntKind.i64 x9, Value.int IntKind.i64 x10, Value.slice a3 m11 m12],
    Value.agg #[Value.int IntKind.i64 0, Value.int IntKind.i64 0, Value.slice none 0 0]] w105 fun (e36 : Ending) (w106 : World) => ∃ (t31 : Bool), e36 = Ending.returned (Value.bool
    t31) ∧ KeepX true w.heap.size [m25, m24, m13, m10, m9, m8, m3, m2, m1] (fun _ => False) w105 w106 ∧ (t31 = true → ∀ (w107 : World), RowKit.Below w.heap.size w w107 → Kept [m25,
    m24, m13, m10, m9, m8, m3, m2, m1] w106 w107 → Calls Try.prog 12 #[] w107 fun (e37 : Ending) (w108 : World) => ∃ (t32 : Bool), e37 = Ending.returned (Value.bool t32) ∧ KeepX
    true w.heap.size [m25, m24, m13, m10, m9, m8, m3, m2, m1] (fun _ => False) w107 w108 ∧ ∀ (w109 : World), RowKit.Below w.heap.size w w109 → Kept [m25, m24, m13, m10, m9, m8, m3,
    m2, m1] w108 w109 → R (Ending.returned (Value.bool t32)) w109) ∧ (t31 = false → ∀ (w110 : World), RowKit.Below w.heap.size w w110 → Kept [m25, m24, m13, m10, m9, m8, m3, m2,
    m1] w106 w110 → R (Ending.returned (Value.bool false)) w110)) ∧ (x11 ≠ 3 → ∀ (w111 : World), RowKit.Below w.heap.size w w111 → Kept [m25, m24, m13, m10, m9, m8, m3, m2, m1]
    w104 w111 → R (Ending.returned (Value.bool false)) w111)) ∧ ((!t30) = false → (-9223372036854775808 ≤ x21 - r1 ∧ x21 - r1 ≤ 9223372036854775807) ∧ (x2 < x21 - r1 → (x11 = 9 → ∀
    (w112 : World), RowKit.Below w.heap.size w w112 → Kept [m25, m24, m13, m10, m9, m8, m3, m2, m1] w104 w112 → Calls Try.prog 19 #[Value.agg #[Value.int IntKind.i64 x9, Value.int
    IntKind.i64 x10, Value.slice a3 m11 m12], Value.agg #[Value.int IntKind.i64 0, Value.int IntKind.i64 0, Value.slice none 0 0]] w112 fun (e38 : Ending) (w113 : World) => ∃ (t33
    : Bool), e38 = Ending.returned (Value.bool t33) ∧ KeepX true w.heap.size [m25, m24, m13, m10, m9, m8, m3, m2, m1] (fun _ => False) w112 w113 ∧ (t33 = true → ∀ (w114 : World),
    RowKit.Below w.heap.size w w114 → Kept [m25, m24, m13, m10, m9, m8, m3, m2, m1] w113 w114 → Calls Try.prog 12 #[] w114 fun (e39 : Ending) (w115 : World) => ∃ (t34 : Bool), e39
    = Ending.returned (Value.bool t34) ∧ KeepX true w.heap.size [m25, m24, m13, m10, m9, m8, m3, m2, m1] (fun _ => False) w114 w115 ∧ ∀ (w116 : World), RowKit.Below w.heap.size w
    w116 → Kept [m25, m24, m13, m10, m9, m8, m3, m2, m1] w115 w116 → R (Ending.returned (Value.bool t34)) w116) ∧ (t33 = false → ∀ (w117 : World), RowKit.Below w.heap.size w w117 →
    Kept [m25, m24, m13, m10, m9, m8, m3, m2, m1] w113 w117 → R (Ending.returned (Value.bool false)) w117)) ∧ (x11 ≠ 9 → ∀ (w118 : World), RowKit.Below w.heap.size w w118 → Kept
    [m25, m24, m13, m10, m9, m8, m3, m2, m1] w104 w118 → R (Ending.returned (Value.bool false)) w118)) ∧ (x21 - r1 ≤ x2 → (-9223372036854775808 ≤ x22 + r1 ∧ x22 + r1 ≤
    9223372036854775807) ∧ (x22 + r1 < x2 → (x11 = 9 → ∀ (w119 : World), RowKit.Below w.heap.size w w119 → Kept [m25, m24, m13, m10, m9, m8, m3, m2, m1] w104 w119 → Calls Try.prog
    19 #[Value.agg #[Value.int IntKind.i64 x9, Value.int IntKind.i64 x10, Value.slice a3 m11 m12], Value.agg #[Value.int IntKind.i64 0, Value.int IntKind.i64 0, Value.slice none 0
    0]] w119 fun (e40 : Ending) (w120 : World) => ∃ (t35 : Bool), e40 = Ending.returned (Value.bool t35) ∧ KeepX true w.heap.size [m25, m24, m13, m10, m9, m8, m3, m2, m1] (fun _ =>
    False) w119 w120 ∧ (t35 = true → ∀ (w121 : World), RowKit.Below w.heap.size w w121 → Kept [m25, m24, m13, m10, m9, m8, m3, m2, m1] w120 w121 → Calls Try.prog 12 #[] w121 fun
    (e41 : Ending) (w122 : World) => ∃ (t36 : Bool), e41 = Ending.returned (Value.bool t36) ∧ KeepX true w.heap.size [m25, m24, m13, m10, m9, m8, m3, m2, m1] (fun _ => False) w121
    w122 ∧ ∀ (w123 : World), RowKit.Below w.heap.size w w123 → Kept [m25, m24, m13, m10, m9, m8, m3, m2, m1] w122 w123 → R (Ending.returned (Value.bool t36)) w123) ∧ (t35 = false →
    ∀ (w124 : World), RowKit.Below w.heap.size w w124 → Kept [m25, m24, m13, m10, m9, m8, m3, m2, m1] w120 w124 → R (Ending.returned (Value.bool false)) w124)) ∧ (x11 ≠ 9 → ∀ (w125
    : World), RowKit.Below w.heap.size w w125 → Kept [m25, m24, m13, m10, m9, m8, m3, m2, m1] w104 w125 → R (Ending.returned (Value.bool false)) w125)) ∧ (x2 ≤ x22 + r1 → ∀ (w126 :
    World), RowKit.Below w.heap.size w w126 → Kept [m25, m24, m13, m10, m9, m8, m3, m2, m1] w104 w126 → Calls Try.prog 22 #[Value.agg #[Value.int IntKind.i64 r0, Value.int
    IntKind.i64 r1, Value.int IntKind.i64 r2, Value.int IntKind.i64 r3, Value.int IntKind.i64 r4, Value.slice r5a r5n r5c], Value.agg #[Value.int IntKind.i64 s0, Value.int
    IntKind.i64 s1, Value.slice s2a s2n s2c], Value.agg #[Value.int IntKind.i64 x0, Value.int IntKind.i64 x1], Value.agg #[Value.int IntKind.i64 x21, Value.int IntKind.i64 x22],
    Value.int IntKind.i64 x2] w126 fun (e42 : Ending) (w127 : World) => ∃ (x23 : Int), ∃ (x24 : Int), ∃ (a6 : Option Addr), ∃ (m26 : Nat), ∃ (m27 : Nat), ∃ (t37 : Bool), e42 =
    Ending.returned (Value.tuple #[Value.agg #[Value.int IntKind.i64 x23, Value.int IntKind.i64 x24, Value.slice a6 m26 m27], Value.bool t37]) ∧ KeepX true w.heap.size [m25, m24,
    m13, m10, m9, m8, m3, m2, m1] (fun _ => False) w126 w127 ∧ ∀ (m28 : Nat), w127.heap.size ≤ m28 → (x11 = x12 → ∀ (w128 : World), RowKit.Below w.heap.size w w128 → Kept [m28,
    m25, m24, m13, m10, m9, m8, m3, m2, m1] w127 w128 → Calls Try.prog 19 #[Value.agg #[Value.int IntKind.i64 x9, Value.int IntKind.i64 x10, Value.slice a3 m11 m12], Value.agg
    #[Value.int IntKind.i64 x23, Value.int IntKind.i64 x24, Value.slice a6 m26 m27]] w128 fun (e43 : Ending) (w129 : World) => ∃ (t38 : Bool), e43 = Ending.returned (Value.bool
    t38) ∧ KeepX true w.heap.size [m28, m25, m24, m13, m10, m9, m8, m3, m2, m1] (fun _ => False) w128 w129 ∧ (t38 = true → ∀ (w130 : World), RowKit.Below w.heap.size w w130 → Kept
    [m28, m25, m24, m13, m10, m9, m8, m3, m2, m1] w129 w130 → Calls Try.prog 12 #[] w130 fun (e44 : Ending) (w131 : World) => ∃ (t39 : Bool), e44 = Ending.returned (Value.bool t39)
    ∧ KeepX true w.heap.size [m28, m25, m24, m13, m10, m9, m8, m3, m2, m1] (fun _ => False) w130 w131 ∧ ∀ (w132 : World), RowKit.Below w.heap.size w w132 → Kept [m28, m25, m24,
    m13, m10, m9, m8, m3, m2, m1] w131 w132 → R (Ending.returned (Value.bool t39)) w132) ∧ (t38 = false → ∀ (w133 : World), RowKit.Below w.heap.size w w133 → Kept [m28, m25, m24,
    m13, m10, m9, m8, m3, m2, m1] w129 w133 → R (Ending.returned (Value.bool false)) w133)) ∧ (x11 ≠ x12 → ∀ (w134 : World), RowKit.Below w.heap.size w w134 → Kept [m28, m25, m24,
    m13, m10, m9, m8, m3, m2, m1] w127 w134 → R (Ending.returned (Value.bool false)) w134))))) ∧ (x12 ≠ 0 → (x11 = x12 → ∀ (w135 : World), RowKit.Below w.heap.size w w135 → Kept
    [m24, m13, m10, m9, m8, m3, m2, m1] w20 w135 → Calls Try.prog 19 #[Value.agg #[Value.int IntKind.i64 x9, Value.int IntKind.i64 x10, Value.slice a3 m11 m12], Value.agg
    #[Value.int IntKind.i64 0, Value.int IntKind.i64 0, Value.slice none 0 0]] w135 fun (e45 : Ending) (w136 : World) => ∃ (t40 : Bool), e45 = Ending.returned (Value.bool t40) ∧
    KeepX true w.heap.size [m24, m13, m10, m9, m8, m3, m2, m1] (fun _ => False) w135 w136 ∧ (t40 = true → ∀ (w137 : World), RowKit.Below w.heap.size w w137 → Kept [m24, m13, m10,
    m9, m8, m3, m2, m1] w136 w137 → Calls Try.prog 12 #[] w137 fun (e46 : Ending) (w138 : World) => ∃ (t41 : Bool), e46 = Ending.returned (Value.bool t41) ∧ KeepX true w.heap.size
    [m24, m13, m10, m9, m8, m3, m2, m1] (fun _ => False) w137 w138 ∧ ∀ (w139 : World), RowKit.Below w.heap.size w w139 → Kept [m24, m13, m10, m9, m8, m3, m2, m1] w138 w139 → R
    (Ending.returned (Value.bool t41)) w139) ∧ (t40 = false → ∀ (w140 : World), RowKit.Below w.heap.size w w140 → Kept [m24, m13, m10, m9, m8, m3, m2, m1] w136 w140 → R
    (Ending.returned (Value.bool false)) w140)) ∧ (x11 ≠ x12 → ∀ (w141 : World), RowKit.Below w.heap.size w w141 → Kept [m24, m13, m10, m9, m8, m3, m2, m1] w20 w141 → R
    (Ending.returned (Value.bool false)) w141)))))))) : Calls Try.prog 3 #[Value.agg #[Value.int IntKind.i64 r0, Value.int IntKind.i64 r1, Value.int IntKind.i64 r2, Value.int
    IntKind.i64 r3, Value.int IntKind.i64 r4, Value.slice r5a r5n r5c], Value.agg #[Value.int IntKind.i64 s0, Value.int IntKind.i64 s1, Value.slice s2a s2n s2c], Value.agg
    #[Value.int IntKind.i64 x0, Value.int IntKind.i64 x1, Value.int IntKind.i64 x2]] w R := calls_of_vc (pure := true) (wrapAt := []) (muts := []) (esc := []) (args := [SV.pv
    (PV.agg [Lf.int IntKind.i64 r0, Lf.int IntKind.i64 r1, Lf.int IntKind.i64 r2, Lf.int IntKind.i64 r3, Lf.int IntKind.i64 r4, Lf.sl r5a r5n r5c]), SV.pv (PV.agg [Lf.int
    IntKind.i64 s0, Lf.int IntKind.i64 s1, Lf.sl s2a s2n s2c]), SV.pv (PV.agg [Lf.int IntKind.i64 x0, Lf.int IntKind.i64 x1, Lf.int IntKind.i64 x2])]) (vs := [Value.agg #[Value.int
    IntKind.i64 r0, Value.int IntKind.i64 r1, Value.int IntKind.i64 r2, Value.int IntKind.i64 r3, Value.int IntKind.i64 r4, Value.slice r5a r5n r5c], Value.agg #[Value.int
    IntKind.i64 s0, Value.int IntKind.i64 s1, Value.slice s2a s2n s2c], Value.agg #[Value.int IntKind.i64 x0, Value.int IntKind.i64 x1, Value.int IntKind.i64 x2]]) Try.func3 rfl
    rfl rfl (Eq.mp (by kernel_rfl) h) 
end Go.Proofs
end
section
/- The documents' examples: values, and their calls. -/
namespace Go.Proofs.R07
open Go.Vc Go.RowKit Go.Proofs

def ClV (c : Cl) (a : Option Addr) (n : Nat) : Value := .agg #[I c.st.lo, I c.st.hi, .slice a c.st.used.length n, I c.visits, I c.turns, I c.weight]

theorem one_any (w : World) : Calls Try.prog 38 #[] w fun e w' => ∃ a c, e = .returned (oneR.v a c) ∧ Below w.heap.size w w' ∧ Cells w' a (spans oneR.ws) ∧ NewV w (spans oneR.ws) a := by
  refine vc38 w _ fun m1 h1 m2 h2 w1 hb1 hk1 hc1 => ⟨some ⟨m2, 0, none⟩, 1, rfl, hb1, Cells.obj (vs := [I 4, I 6]) hc1, .inr fun b o e => ?_⟩
  simp only [Option.some.injEq, Addr.mk.injEq, and_true] at e
  omega
theorem from_any (lo hi : Int) (u : Bool) (w : World) : Calls Try.prog 39 #[I lo, I hi, .bool u] w fun e w' => ∃ a c, e = .returned (St.v ⟨lo, hi, [u]⟩ a c) ∧ Below w.heap.size w w' ∧ Cells w' a (bools [u]) ∧ NewV w (bools [u]) a := by
  refine vc39 _ _ _ w _ fun m1 h1 m2 h2 w1 hb1 hk1 hc1 => ⟨some ⟨m2, 0, none⟩, 1, rfl, hb1, Cells.obj (vs := [.bool u]) hc1, .inr fun b o e => ?_⟩
  simp only [Option.some.injEq, Addr.mk.injEq, and_true] at e
  omega
def exCl (lo hi v t : Int) : Cl := ⟨⟨lo, hi, [false]⟩, v, t, -1⟩
theorem claim_any (lo hi v t : Int) (w : World) : Calls Try.prog 40 #[I lo, I hi, I v, I t] w fun e w' => ∃ a c, e = .returned (ClV (exCl lo hi v t) a c) ∧ Below w.heap.size w w' ∧ Cells w' a (bools [false]) ∧ NewV w (bools [false]) a := by
  refine vc40 _ _ _ _ w _ fun m1 h1 w1 hb1 hk1 => (from_any lo hi false w1).mono fun e w2 he => ?_
  obtain ⟨a, c, rfl, b2, A2, N2⟩ := he
  refine ⟨_, _, a, _, c, rfl, .all b2, fun w3 hb3 hk3 => ⟨a, c, rfl, hb3, cells_pass A2 hk3 N2 fun x hx => .inl (hk1.own x hx), N2.to hb1.size⟩⟩

theorem ex_start1 : startErr oneR ⟨8, 18, [false]⟩ = 0 := by decide +kernel
theorem ex_start2 : startErr oneR ⟨-6, -4, [false]⟩ = 0 := by decide +kernel
theorem ex_start3 : startErr oneR ⟨8, 18, [true]⟩ = 0 := by decide +kernel
theorem ex_f1 : fewestR oneR ⟨8, 18, [false]⟩ = (2, 0) := by
  have h : few oneR (setOf (St.mk 8 18 [false]).used) ((St.mk 8 18 [false]).lo, (St.mk 8 18 [false]).hi) = some 2 := ex_few0
  unfold fewestR; rw [if_neg (by rw [ex_start1]; decide), h]; rfl
theorem ex_f2 : fewestR oneR ⟨8, 18, [true]⟩ = (0, 7) := by
  have h : few oneR (setOf (St.mk 8 18 [true]).used) ((St.mk 8 18 [true]).lo, (St.mk 8 18 [true]).hi) = none := ex_few1
  unfold fewestR; rw [if_neg (by rw [ex_start3]; decide), h]
theorem ex_a1 : actR oneR ⟨8, 18, [false]⟩ = ((-2, -1), 0) := by
  have h : few oneR (setOf (St.mk 8 18 [false]).used) ((St.mk 8 18 [false]).lo, (St.mk 8 18 [false]).hi) = some (1 + 1) := ex_few0
  have h2 : firstAct oneR 1 (setOf (St.mk 8 18 [false]).used) ((St.mk 8 18 [false]).lo, (St.mk 8 18 [false]).hi) = some (-2, -1) := (firstAct_eq one_good (show 0 < 8 by omega)).trans ex_act
  unfold actR; rw [if_neg (by rw [ex_start1]; decide), h]
  simp only
  rw [h2]; rfl
theorem ex_few2 : (List.range 7).find? (fun n => enoughB oneR n 0 (-6, -4)) = some 1 := by decide +kernel
theorem ex_act2 : (acts oneR).find? (doesB oneR 0 0 (-6, -4)) = some (0, 0) := by decide +kernel
theorem ex_a2 : actR oneR ⟨-6, -4, [false]⟩ = ((0, 0), 0) := by
  have h0 : few oneR 0 (-6, -4) = some 1 := by rw [few_eq one_good (show okSp (-6, -4) from ⟨by decide, by decide, by decide⟩)]; exact ex_few2
  have h : few oneR (setOf (St.mk (-6) (-4) [false]).used) ((St.mk (-6) (-4) [false]).lo, (St.mk (-6) (-4) [false]).hi) = some (0 + 1) := h0
  have h2 : firstAct oneR 0 (setOf (St.mk (-6) (-4) [false]).used) ((St.mk (-6) (-4) [false]).lo, (St.mk (-6) (-4) [false]).hi) = some (0, 0) := (firstAct_eq one_good (show 0 < 8 by omega)).trans ex_act2
  unfold actR; rw [if_neg (by rw [ex_start2]; decide), h]
  simp only
  rw [h2]; rfl
theorem ex_after : afterR oneR ⟨8, 18, [false]⟩ (-2, -1) 3 = (⟨2, 2, [false]⟩, 0) := by kernel_rfl
theorem ex_p1 : provesR oneR [exCl 8 10 1 (-1), exCl (-2) 0 0 0, exCl 0 2 0 0] = (0, 0) := by decide +kernel
theorem ex_p2 : provesR oneR [exCl 8 10 1 (-1), exCl (-2) 0 0 0, exCl 0 2 0 0, exCl (-1) 1 0 0] = (-1, 0) := by decide +kernel
end Go.Proofs.R07
end
section
/- The documents' examples, called. -/
namespace Go.Proofs.R07
open Go.Vc Go.RowKit Go.Proofs

/-- What a slice holds, in none of some blocks. -/
def Held (bs : List Nat) (w : World) (a : Option Addr) (vs : List Value) : Prop := ∀ i v, vs[i]? = some v → ∃ b o, a = some ⟨b, o, none⟩ ∧ b ∉ bs ∧ w.cell? ⟨b, o + i, none⟩ = some v
section
variable {bs : List Nat} {w w' u : World} {a : Option Addr} {vs : List Value}
theorem Held.cells (h : Held bs w a vs) : Cells w a vs := fun i v hi => by obtain ⟨b, o, e, _, hc⟩ := h i v hi; exact ⟨b, o, e, hc⟩
theorem Held.new (h : Cells w a vs) (hn : NewV u vs a) (hb : ∀ x ∈ bs, x < u.heap.size) : Held bs w a vs := fun i v hi => by
  obtain ⟨b, o, e, hc⟩ := h i v hi
  refine ⟨b, o, e, fun hm => ?_, hc⟩
  rcases hn with rfl | hn
  · simp at hi
  · have := hn b o e; have := hb b hm; omega
theorem Held.chg (h : Held bs w a vs) (hc : Chg bs w w') : Held bs w' a vs := fun i v hi => by
  obtain ⟨b, o, e, hb, hv⟩ := h i v hi; exact ⟨b, o, e, hb, hc.cell hb hv⟩
theorem Held.kept (h : Held bs w a vs) (hc : Kept bs w w') : Held bs w' a vs := h.chg (Chg.kept hc)
theorem Held.below (h : Held bs w a vs) (hb : Below w.heap.size w w') : Held bs w' a vs := h.chg (Chg.of_below hb)
theorem Held.push (h : Held bs w a vs) {m : Nat} (hm : w.heap.size ≤ m) : Held (m :: bs) w a vs := fun i v hi => by
  obtain ⟨b, o, e, hb, hv⟩ := h i v hi
  exact ⟨b, o, e, fun hx => by
    rcases List.mem_cons.1 hx with rfl | hx
    · have := cell_lt hv; omega
    · exact hb hx, hv⟩
end
theorem ClsAt.of {w : World} {l : List ClM} (h : ∀ x ∈ l, Cells w x.2.1 (bools x.1.st.used)) {b : Nat} {T : TypeId} (hr : w.heap[b]? = some (.cells (l.flatMap clV).toArray T (0, 0))) : ClsAt w (some ⟨b, 0, none⟩) l := ⟨Cells.obj hr, h⟩

set_option maxRecDepth 100000 in
set_option maxHeartbeats 4000000 in
theorem known_any (w : World) : Calls Try.prog 12 #[] w (Pure w (.bool true)) := by
  refine vc12 w _ fun w1 B1 k1 => ?_
  refine (one_any w1).mono fun e w2 he => ?_
  obtain ⟨a1, c1, rfl, b2, A2, N2⟩ := he
  refine ⟨_, _, _, _, _, a1, _, c1, rfl, .all b2, fun w3 B3 k3 => ?_⟩
  have A3 := (Held.new A2 N2 k1.own).kept k3
  refine (from_any 8 18 false w3).mono fun e w4 he => ?_
  obtain ⟨a3, c3, rfl, b4, D4, M4⟩ := he
  refine ⟨_, _, a3, _, c3, rfl, .all b4, fun w5 B5 k5 => ?_⟩
  have A5 := (A3.below b4).kept k5
  have D5 := (Held.new D4 M4 k3.own).kept k5
  refine Pure.calls (fewest_any oneR ⟨8, 18, [false]⟩ A5.cells D5.cells) fun w6 b6 => ?_
  rw [ex_f1]
  refine ⟨_, _, rfl, .all b6, fun w7 B7 k7 => ?_⟩
  refine (one_any w7).mono fun e w8 he => ?_
  obtain ⟨a7, c7, rfl, b8, A8, N8⟩ := he
  refine ⟨_, _, _, _, _, a7, _, c7, rfl, .all b8, fun w9 B9 k9 => ?_⟩
  have A9 := (Held.new A8 N8 k7.own).kept k9
  refine (from_any 8 18 false w9).mono fun e w10 he => ?_
  obtain ⟨a9, c9, rfl, b10, D10, M10⟩ := he
  refine ⟨_, _, a9, _, c9, rfl, .all b10, fun w11 B11 k11 => ?_⟩
  have A11 := (A9.below b10).kept k11
  have D11 := (Held.new D10 M10 k9.own).kept k11
  refine Pure.calls (actOf_any oneR ⟨8, 18, [false]⟩ A11.cells D11.cells) fun w12 b12 => ?_
  rw [ex_a1]
  refine ⟨_, _, _, rfl, .all b12, fun m9 h9 w13 B13 k13 => ?_⟩
  refine (one_any w13).mono fun e w14 he => ?_
  obtain ⟨a13, c13, rfl, b14, A14, N14⟩ := he
  refine ⟨_, _, _, _, _, a13, _, c13, rfl, .all b14, fun w15 B15 k15 => ?_⟩
  have A15 := (Held.new A14 N14 k13.own).kept k15
  refine (from_any (-6) (-4) false w15).mono fun e w16 he => ?_
  obtain ⟨a15, c15, rfl, b16, D16, M16⟩ := he
  refine ⟨_, _, a15, _, c15, rfl, .all b16, fun w17 B17 k17 => ?_⟩
  have A17 := (A15.below b16).kept k17
  have D17 := (Held.new D16 M16 k15.own).kept k17
  refine Pure.calls (actOf_any oneR ⟨-6, -4, [false]⟩ A17.cells D17.cells) fun w18 b18 => ?_
  rw [ex_a2]
  refine ⟨_, _, _, rfl, .all b18, fun m14 h14 w19 B19 k19 => ?_⟩
  refine (one_any w19).mono fun e w20 he => ?_
  obtain ⟨a19, c19, rfl, b20, A20, N20⟩ := he
  refine ⟨_, _, _, _, _, a19, _, c19, rfl, .all b20, fun w21 B21 k21 => ?_⟩
  have A21 := (Held.new A20 N20 k19.own).kept k21
  refine (from_any 8 18 true w21).mono fun e w22 he => ?_
  obtain ⟨a21, c21, rfl, b22, D22, M22⟩ := he
  refine ⟨_, _, a21, _, c21, rfl, .all b22, fun w23 B23 k23 => ?_⟩
  have A23 := (A21.below b22).kept k23
  have D23 := (Held.new D22 M22 k21.own).kept k23
  refine Pure.calls (fewest_any oneR ⟨8, 18, [true]⟩ A23.cells D23.cells) fun w24 b24 => ?_
  rw [ex_f2]
  refine ⟨_, _, rfl, .all b24, fun w25 B25 k25 => ?_⟩
  refine (one_any w25).mono fun e w26 he => ?_
  obtain ⟨a25, c25, rfl, b26, A26, N26⟩ := he
  refine ⟨_, _, _, _, _, a25, _, c25, rfl, .all b26, fun w27 B27 k27 => ?_⟩
  have A27 := (Held.new A26 N26 k25.own).kept k27
  refine (from_any 8 18 false w27).mono fun e w28 he => ?_
  obtain ⟨a27, c27, rfl, b28, D28, M28⟩ := he
  refine ⟨_, _, a27, _, c27, rfl, .all b28, fun w29 B29 k29 => ?_⟩
  have A29 := (A27.below b28).kept k29
  have D29 := (Held.new D28 M28 k27.own).kept k29
  refine (after_any oneR ⟨8, 18, [false]⟩ A29.cells D29.cells (-2, -1) 3).mono fun e w30 he => ?_
  rw [ex_after] at he
  obtain ⟨aF, cF, rfl, b30, F30', NF⟩ := he
  have F30 : Held [m14, m9] w30 aF (bools [false]) := Held.new F30' (.inr NF) k29.own
  refine ⟨_, _, aF, _, cF, _, rfl, .all b30, fun m25 h25 w31 B31 k31 => ?_⟩
  have F31 := (F30.push h25).kept k31
  refine (one_any w31).mono fun e w32 he => ?_
  obtain ⟨a31, c31, rfl, b32, A32, N32⟩ := he
  refine ⟨_, _, _, _, _, a31, _, c31, rfl, .all b32, fun w33 B33 k33 => ?_⟩
  have F33 := (F31.below b32).kept k33
  have A33 := (Held.new A32 N32 k31.own).kept k33
  refine (claim_any 8 10 1 (-1) w33).mono fun e w34 he => ?_
  obtain ⟨a33, c33, rfl, b34, G34, P34⟩ := he
  refine ⟨_, _, a33, _, c33, _, _, _, rfl, .all b34, fun w35 B35 k35 => ?_⟩
  have F35 := (F33.below b34).kept k35
  have A35 := (A33.below b34).kept k35
  have G35 := (Held.new G34 P34 k33.own).kept k35
  refine (claim_any (-2) 0 0 0 w35).mono fun e w36 he => ?_
  obtain ⟨a35, c35, rfl, b36, H36, Q36⟩ := he
  refine ⟨_, _, a35, _, c35, _, _, _, rfl, .all b36, fun w37 B37 k37 => ?_⟩
  have F37 := (F35.below b36).kept k37
  have A37 := (A35.below b36).kept k37
  have G37 := (G35.below b36).kept k37
  have H37 := (Held.new H36 Q36 k35.own).kept k37
  refine (claim_any 0 2 0 0 w37).mono fun e w38 he => ?_
  obtain ⟨a37, c37, rfl, b38, J38, S38⟩ := he
  refine ⟨_, _, a37, _, c37, _, _, _, rfl, .all b38, fun m34 h34 w39 B39 k39 o39 => ?_⟩
  have F39 := ((F37.below b38).push h34).kept k39
  have A39 := ((A37.below b38).push h34).kept k39
  have G39 := ((G37.below b38).push h34).kept k39
  have H39 := ((H37.below b38).push h34).kept k39
  have J39 := ((Held.new J38 S38 k37.own).push h34).kept k39
  refine Pure.calls (proves_any oneR (c := c31) A39.cells (la := some ⟨m34, 0, none⟩) (lc := 3) (l := [(exCl 8 10 1 (-1), a33, c33), (exCl (-2) 0 0 0, a35, c35), (exCl 0 2 0 0, a37, c37)]) (ClsAt.of (fun x hx => by
    simp only [List.mem_cons, List.not_mem_nil, or_false] at hx
    rcases hx with rfl | rfl | rfl
    · exact G39.cells
    · exact H39.cells
    · exact J39.cells) o39) (by simp)) fun w40 b40 => ?_
  rw [show List.map (fun x : ClM => x.1) [(exCl 8 10 1 (-1), a33, c33), (exCl (-2) 0 0 0, a35, c35), (exCl 0 2 0 0, a37, c37)] = [exCl 8 10 1 (-1), exCl (-2) 0 0 0, exCl 0 2 0 0] from rfl, ex_p1]
  refine ⟨_, _, rfl, .all b40, fun w41 B41 k41 => ?_⟩
  have F41 := (F39.below b40).kept k41
  refine (one_any w41).mono fun e w42 he => ?_
  obtain ⟨a41, c41, rfl, b42, A42, N42⟩ := he
  refine ⟨_, _, _, _, _, a41, _, c41, rfl, .all b42, fun w43 B43 k43 => ?_⟩
  have F43 := (F41.below b42).kept k43
  have A43 := (Held.new A42 N42 k41.own).kept k43
  refine (claim_any 8 10 1 (-1) w43).mono fun e w44 he => ?_
  obtain ⟨a43, c43, rfl, b44, G44, P44⟩ := he
  refine ⟨_, _, a43, _, c43, _, _, _, rfl, .all b44, fun w45 B45 k45 => ?_⟩
  have F45 := (F43.below b44).kept k45
  have A45 := (A43.below b44).kept k45
  have G45 := (Held.new G44 P44 k43.own).kept k45
  refine (claim_any (-2) 0 0 0 w45).mono fun e w46 he => ?_
  obtain ⟨a45, c45, rfl, b46, H46, Q46⟩ := he
  refine ⟨_, _, a45, _, c45, _, _, _, rfl, .all b46, fun w47 B47 k47 => ?_⟩
  have F47 := (F45.below b46).kept k47
  have A47 := (A45.below b46).kept k47
  have G47 := (G45.below b46).kept k47
  have H47 := (Held.new H46 Q46 k45.own).kept k47
  refine (claim_any 0 2 0 0 w47).mono fun e w48 he => ?_
  obtain ⟨a47, c47, rfl, b48, J48, S48⟩ := he
  refine ⟨_, _, a47, _, c47, _, _, _, rfl, .all b48, fun w49 B49 k49 => ?_⟩
  have F49 := (F47.below b48).kept k49
  have A49 := (A47.below b48).kept k49
  have G49 := (G47.below b48).kept k49
  have H49 := (H47.below b48).kept k49
  have J49 := (Held.new J48 S48 k47.own).kept k49
  refine (claim_any (-1) 1 0 0 w49).mono fun e w50 he => ?_
  obtain ⟨a49, c49, rfl, b50, L50, T50⟩ := he
  refine ⟨_, _, a49, _, c49, _, _, _, rfl, .all b50, fun m45 h45 w51 B51 k51 o51 => ?_⟩
  have F51 := ((F49.below b50).push h45).kept k51
  have A51 := ((A49.below b50).push h45).kept k51
  have G51 := ((G49.below b50).push h45).kept k51
  have H51 := ((H49.below b50).push h45).kept k51
  have J51 := ((J49.below b50).push h45).kept k51
  have L51 := ((Held.new L50 T50 k49.own).push h45).kept k51
  refine Pure.calls (proves_any oneR (c := c41) A51.cells (la := some ⟨m45, 0, none⟩) (lc := 4) (l := [(exCl 8 10 1 (-1), a43, c43), (exCl (-2) 0 0 0, a45, c45), (exCl 0 2 0 0, a47, c47), (exCl (-1) 1 0 0, a49, c49)]) (ClsAt.of (fun x hx => by
    simp only [List.mem_cons, List.not_mem_nil, or_false] at hx
    rcases hx with rfl | rfl | rfl | rfl
    · exact G51.cells
    · exact H51.cells
    · exact J51.cells
    · exact L51.cells) o51) (by simp)) fun w52 b52 => ?_
  rw [show List.map (fun x : ClM => x.1) [(exCl 8 10 1 (-1), a43, c43), (exCl (-2) 0 0 0, a45, c45), (exCl 0 2 0 0, a47, c47), (exCl (-1) 1 0 0, a49, c49)] = [exCl 8 10 1 (-1), exCl (-2) 0 0 0, exCl 0 2 0 0, exCl (-1) 1 0 0] from rfl, ex_p2]
  have F52 := F51.below b52
  refine ⟨_, _, rfl, .all b52, fun h => absurd rfl h, fun _ => ⟨fun h => absurd rfl h, fun _ => ⟨fun h => absurd rfl h, fun _ => ⟨fun h => absurd rfl h, fun _ => ⟨fun h => absurd rfl h, fun _ => ⟨fun h => absurd rfl h, fun _ => ⟨fun h => absurd rfl h, fun _ => ⟨fun _ w60 B60 k60 => ?_, fun h => absurd rfl h⟩⟩⟩⟩⟩⟩⟩⟩
  refine eql_act ⟨_, rfl, .all (.refl _ _), fun _ w62 B62 k62 => eql_act ⟨_, rfl, .all (.refl _ _), fun _ w64 B64 k64 => ?_, fun h => absurd h (by decide)⟩, fun h => absurd h (by decide)⟩
  have F64 := ((F52.chg (chg_in k60)).chg (chg_in k62)).chg (chg_in k64)
  refine (from_any 2 2 false w64).mono fun e w65 he => ?_
  obtain ⟨a64, c64, rfl, b65, E65, U65⟩ := he
  refine ⟨_, _, a64, _, c64, rfl, .all b65, fun w66 B66 k66 => ?_⟩
  have F66 := (F64.below b65).chg (chg_in k66)
  refine Pure.calls (same_any ⟨2, 2, [false]⟩ ⟨2, 2, [false]⟩ F66.cells ((Held.new E65 U65 k64.own).chg (chg_in k66)).cells (by decide)) fun w67 b67 => ⟨_, rfl, .all b67, fun _ => ⟨fun _ w68 B68 k68 => ⟨rfl, B68⟩, fun h => absurd rfl h⟩, fun h => ?_⟩
  simp at h
end Go.Proofs.R07
end
section
/- RateAfters: the walk. -/
namespace Go.Proofs.R07
open Go.Vc Go.RowKit Go.Proofs

/-- In which blocks a slice may lie. -/
def Rng (lo hi : Nat) (vs : List Value) (a : Option Addr) : Prop := vs = [] ∨ ∀ b o, a = some ⟨b, o, none⟩ → lo ≤ b ∧ b < hi
section
variable {bs : List Nat} {w w' u : World} {a : Option Addr} {vs : List Value} {lo hi : Nat}
theorem Rng.of (h : Cells w a vs) (hn : NewV u vs a) : Rng u.heap.size w.heap.size vs a := by
  rcases hn with hn | hn
  · exact .inl hn
  · by_cases h0 : vs = []
    · exact .inl h0
    · refine .inr fun b o e => ⟨hn b o e, ?_⟩
      obtain ⟨b', o', e', hc⟩ := h 0 _ (List.getElem?_eq_getElem (List.length_pos_iff.2 h0))
      rw [e] at e'
      simp only [Option.some.injEq, Addr.mk.injEq, and_true] at e'
      rw [e'.1]; exact cell_lt hc
theorem Rng.cells (hr : Rng lo hi vs a) (h : Cells w a vs) (hk : Chg bs w w') (hb : ∀ x ∈ bs, x < lo ∨ hi ≤ x) : Cells w' a vs := fun i v hi => by
  obtain ⟨b, o, e, hc⟩ := h i v hi
  refine ⟨b, o, e, hk.cell (fun hm => ?_) hc⟩
  rcases hr with rfl | hr
  · simp at hi
  · have := hr b o e; have := hb b hm; omega
theorem Rng.kin (hr : Rng lo hi vs a) (h : Cells w a vs) {rs : List (Nat × Nat)} (hk : KeptIn rs bs w w') (hb : ∀ x ∈ bs, x < lo ∨ hi ≤ x) (hin : ∃ r ∈ rs, r.1 ≤ lo ∧ hi ≤ r.2) : Cells w' a vs := fun i v hi => by
  obtain ⟨b, o, e, hc⟩ := h i v hi
  refine ⟨b, o, e, ?_⟩
  rcases hr with rfl | hr
  · simp at hi
  · have h1 := hr b o e
    obtain ⟨r, hr1, hr2, hr3⟩ := hin
    have := hk.block b (cell_lt hc) (fun hm => by have := hb b hm; omega) ⟨r, hr1, by omega, by omega⟩
    unfold World.cell? at hc ⊢
    simp only [this]; exact hc
end

/-- The law's end: the same states, and the examples. -/
theorem tail_any {bs : List Nat} {w w' : World} {x y : St} {a b : Option Addr} {c d : Nat} (ha : Cells w' a (bools x.used)) (hb : Cells w' b (bools y.used)) (hn : (x.used.length : Int) ≤ 9223372036854775807) (hxy : x = y) :
    Calls Try.prog 19 #[x.v a c, y.v b d] w' fun e1 w1 => ∃ t : Bool, e1 = .returned (.bool t) ∧ KeepX true w.heap.size bs (fun _ => False) w' w1 ∧
      (t = true → ∀ w2 : World, Below w.heap.size w w2 → Kept bs w1 w2 → Calls Try.prog 12 #[] w2 fun e2 w3 => ∃ t2 : Bool, e2 = .returned (.bool t2) ∧ KeepX true w.heap.size bs (fun _ => False) w2 w3 ∧
        ∀ w4 : World, Below w.heap.size w w4 → Kept bs w3 w4 → Pure w (.bool true) (.returned (.bool t2)) w4) ∧
      (t = false → ∀ w5 : World, Below w.heap.size w w5 → Kept bs w1 w5 → Pure w (.bool true) (.returned (.bool false)) w5) := by
  refine Pure.calls (same_any x y ha hb hn) fun w1 hb1 => ⟨_, rfl, .all hb1, fun _ w2 hb2 _ => Pure.calls (known_any w2) fun w3 hb3 => ⟨_, rfl, .all hb3, fun w4 hb4 _ => ⟨rfl, hb4⟩⟩, fun h => ?_⟩
  simp [hxy] at h

theorem has_put {u i j : Nat} : has (put u i) j = (has u j || decide (i = j)) := by
  unfold has put
  rw [Nat.testBit_or, Nat.testBit_two_pow]
theorem move_next {r : Rules} (hr : Good r) {s : St} (hl : s.used.length = r.ws.length) {p : Sp} {x y : Int} {mu : Nat} {sp : Sp} (hm : move r sp (setOf s.used) (x, y) = some (p, mu)) :
    y < s.used.length ∧ (List.range s.used.length).map (has mu) = if 0 ≤ y then s.used.set y.toNat true else s.used := by
  have same : (List.range s.used.length).map (has (setOf s.used)) = s.used := by
    apply List.ext_getElem
    · simp
    · intro i h1 h2
      simp [has_setOf h2]
  unfold move at hm
  split at hm
  · cases hm
  · rename_i q hq
    split at hm
    · simp only [Option.some.injEq, Prod.mk.injEq] at hm
      obtain ⟨_, rfl⟩ := hm
      unfold shift at hq
      split at hq
      · rename_i hy
        simp only at hy
        subst hy
        refine ⟨by omega, ?_⟩
        rw [if_pos rfl, same, if_neg (by omega)]
      · rename_i hy
        simp only at hy
        split at hq
        · rename_i hh
          obtain ⟨h0, h1, h2, h3⟩ := hh
          simp only at h0 h1
          refine ⟨by omega, ?_⟩
          simp only [if_neg hy]
          rw [if_pos h0]
          apply List.ext_getElem
          · simp
          · intro i g1 g2
            have hi : i < s.used.length := by simpa using g1
            simp only [List.getElem_map, List.getElem_range, has_put, has_setOf hi, List.getElem_set]
            by_cases e : y.toNat = i
            · rw [if_pos e, decide_eq_true e, Bool.or_true]
            · rw [if_neg e, decide_eq_false e, Bool.or_false]
        · cases hq
    · cases hm

set_option maxRecDepth 100000 in
set_option maxHeartbeats 4000000 in
theorem afters_any (r : Rules) (s : St) {a b : Option Addr} {c d : Nat} {w : World} (hc : Cells w a (spans r.ws)) (hs : Cells w b (bools s.used)) (x0 x1 x2 : Int) :
    Calls Try.prog 3 #[r.v a c, s.v b d, .agg #[I x0, I x1, I x2]] w (Pure w (.bool true)) := by
  refine vc3 _ _ _ _ _ _ _ _ _ _ _ _ _ _ _ _ w _ fun m1 g1 m2 g2 m3 g3 w1 B1 k1 => ?_
  refine Pure.calls (long_any r s) fun w2 b2 => ⟨_, rfl, .all b2, fun _ w3 B3 k3 => Pure.calls (known_any w3) fun w4 b4 => ⟨_, rfl, .all b4, fun w5 B5 k5 => ⟨rfl, B5⟩⟩, fun hlong w6 B6 k6 => ?_⟩
  have hlen : r.ws.length ≤ 10 ∧ s.used.length ≤ 10 := by
    simp [longR] at hlong; omega
  refine (copied_any r (hc.keep B6) (by omega)).mono fun e w7 he => ?_
  obtain ⟨a1, c1, rfl, b7, A7, _, N1⟩ := he
  have R1 := Rng.of A7 N1
  refine ⟨_, _, _, _, _, a1, _, c1, rfl, b7, fun w8 B8 k8 => ?_⟩
  have o1 := k1.own m1 (by simp)
  have o2 := k1.own m2 (by simp)
  have o3 := k1.own m3 (by simp)
  have z2 := b2.size
  have z6 := k6.size
  have z7 := b7.size
  have z8 := k8.size
  have A8 := R1.kin A7 k8 (by simp; omega) ⟨(w6.heap.size, w7.heap.size), by simp, Nat.le_refl _, Nat.le_refl _⟩
  refine (state_any s (hs.keep B8) (by omega)).mono fun e w9 he => ?_
  obtain ⟨a2, c2, rfl, b9, D9, _, N2⟩ := he
  have R2 := Rng.of D9 N2
  have z9 := b9.size
  refine ⟨_, _, a2, _, c2, rfl, b9, fun m8 e8 f8 i8 m9 e9 f9 i9 m10 e10 f10 i10 w10 B10 k10 => ?_⟩
  have z10 := k10.size
  have A10 := R1.cells (A8.keep b9) (Chg.kept k10) (by simp; omega)
  have D10 := R2.cells D9 (Chg.kept k10) (by simp; omega)
  refine Pure.calls (check_any r A10) fun w11 b11 => ⟨_, rfl, .all b11, fun w12 B12 k12 => ?_⟩
  have A12 := R1.cells (A10.keep b11) (Chg.kept k12) (by simp; omega)
  have D12 := R2.cells (D10.keep b11) (Chg.kept k12) (by simp; omega)
  have z11 := b11.size
  have z12 := k12.size
  have q1 := k12.own m1 (by simp)
  have q2 := k12.own m2 (by simp)
  have q3 := k12.own m3 (by simp)
  have q8 := k12.own m8 (by simp)
  have q9 := k12.own m9 (by simp)
  have q10 := k12.own m10 (by simp)
  refine (after_any r s A12 D12 (x0, x1) x2).mono fun e w13 he => ?_
  obtain ⟨a3, c3, rfl, b13, F13, NF⟩ := he
  have R3 := Rng.of F13 (.inr NF)
  have z13 := b13.size
  refine ⟨_, _, a3, _, c3, _, rfl, .all b13, fun m13 g13 w14 B14 k14 => ?_⟩
  have z14 := k14.size
  have A14 := R1.cells (A12.keep b13) (Chg.kept k14) (by simp; omega)
  have D14 := R2.cells (D12.keep b13) (Chg.kept k14) (by simp; omega)
  have F14 := R3.cells F13 (Chg.kept k14) (by simp; omega)
  refine Pure.calls (refCheck_any r (hc.keep B14)) fun w15 b15 => ⟨_, rfl, .all b15, fun w16 B16 k16 => ?_⟩
  have z15 := b15.size
  have z16 := k16.size
  have A16 := R1.cells (A14.keep b15) (Chg.kept k16) (by simp; omega)
  have D16 := R2.cells (D14.keep b15) (Chg.kept k16) (by simp; omega)
  have F16 := R3.cells (F14.keep b15) (Chg.kept k16) (by simp; omega)
  refine Pure.calls (equal_any r r A16 (hc.keep B16) (by omega)) fun w17 b17 => ⟨_, rfl, .all b17, fun h => by simp at h, fun _ w19 B19 k19 => ?_⟩
  have z17 := b17.size
  have z19 := k19.size
  have D19 := R2.cells (D16.keep b17) (Chg.kept k19) (by simp; omega)
  have F19 := R3.cells (F16.keep b17) (Chg.kept k19) (by simp; omega)
  refine Pure.calls (same_any s s D19 (hs.keep B19) (by omega)) fun w20 b20 => ⟨_, rfl, .all b20, fun h => by simp at h, fun _ => ?_⟩
  have z20 := b20.size
  have F20 := F19.keep b20
  have no : ∀ n, afterR r s (x0, x1) x2 = (⟨0, 0, []⟩, n) → ∀ {bs : List Nat} {w' : World}, Cells w' a3 (bools (afterR r s (x0, x1) x2).1.used) → _ := fun n he {bs} {w'} hcl => tail_any (bs := bs) (w := w) (x := (afterR r s (x0, x1) x2).1) (y := ⟨0, 0, []⟩) (a := a3) (b := none) (c := c3) (d := 0) hcl Cells.nil (by rw [he]; simp) (by rw [he])
  refine ⟨fun h => absurd rfl h, fun _ => ⟨fun hck => ?_, fun hck m24 g24 => ⟨fun h => absurd h hck, fun _ => ?_⟩⟩⟩
  · refine fun w23 B23 k23 => Pure.calls (refState_any r s) fun w24 b24 => ⟨_, rfl, .all b24, fun hst m14 g14 => ⟨fun h => absurd h (by decide), fun _ => ?_⟩, fun hst m19 g19 => ⟨fun _ w64 B64 k64 => ?_, fun h => absurd hck h⟩⟩
    · have he : afterR r s (x0, x1) x2 = (⟨0, 0, []⟩, 2) := by
        have : startErr r s = 2 := by unfold startErr; rw [if_pos hck, if_neg (by simpa using hst)]
        unfold afterR; rw [this]; rfl
      have z23 := k23.size
      have z24 := b24.size
      exact ⟨fun _ w57 B57 k57 => no _ he (R3.cells ((R3.cells F20 (Chg.kept k23) (by simp; omega)).keep b24) (Chg.kept k57) (by simp; omega)), fun h => absurd (by rw [he]) h⟩
    · have z23 := k23.size
      have z24 := b24.size
      have z64 := k64.size
      have F64 := R3.cells ((R3.cells F20 (Chg.kept k23) (by simp; omega)).keep b24) (Chg.kept k64) (by simp; omega)
      have hse : startErr r s = 0 := by unfold startErr; rw [if_pos hck, if_pos (by simpa using hst)]
      obtain ⟨hr, hsp, hul⟩ := okSt_of hse
      refine (image_any hr hsp hul (hc.keep B64) (hs.keep B64) x0 x1).mono fun e w65 he => ?_
      obtain ⟨lo, hi, rfl, b65, himg⟩ := he
      have z65 := b65.size
      refine ⟨_, _, _, rfl, .all b65, fun m20 g20 => ⟨fun hmv => ?_, fun hmv => ?_⟩⟩
      · have he : afterR r s (x0, x1) x2 = (⟨0, 0, []⟩, 3) := by
          unfold afterR; rw [if_neg (by omega)]
          cases hm : move r (s.lo, s.hi) (setOf s.used) (x0, x1) with
          | none => rfl
          | some q => rw [hm] at hmv; cases hmv
        exact ⟨fun _ w66 B66 k66 => no _ he (R3.cells (F64.keep b65) (Chg.kept k66) (by simp; omega)), fun h => absurd (by rw [he]) h⟩
      · cases hm : move r (s.lo, s.hi) (setOf s.used) (x0, x1) with
        | none => rw [hm] at hmv; cases hmv
        | some q =>
          obtain ⟨q, mu⟩ := q
          obtain rfl : q = (lo, hi) := himg _ hm
          have hu : setOf s.used < 8 := setOf_lt (by have := hr.1; omega)
          obtain ⟨hmu, hq1, hq2, hq3⟩ := move_facts hr hu hm
          simp only at hq1 hq2 hq3
          have herr := hr.2.2.1
          have hval : afterR r s (x0, x1) x2 = if within (lo - r.err) (hi + r.err) [x2] then (⟨max lo (x2 - r.err), min hi (x2 + r.err), (List.range s.used.length).map (has mu)⟩, 0) else (⟨0, 0, []⟩, 9) := by
            unfold afterR; rw [if_neg (by omega), hm]
          have hno : ¬ (lo - r.err ≤ x2 ∧ x2 ≤ hi + r.err) → afterR r s (x0, x1) x2 = (⟨0, 0, []⟩, 9) := fun h => by
            rw [hval, if_neg fun hh => h ((within_one _ _ _).1 hh)]
          refine ⟨by omega, fun hlo => ⟨fun _ w73 B73 k73 => no _ (hno (by omega)) (R3.cells (F64.keep b65) (Chg.kept k73) (by simp; omega)), fun h => absurd (by rw [hno (by omega)]) h⟩, fun hlo => ⟨by omega, fun hhi => ⟨fun _ w80 B80 k80 => no _ (hno (by omega)) (R3.cells (F64.keep b65) (Chg.kept k80) (by simp; omega)), fun h => absurd (by rw [hno (by omega)]) h⟩, fun hhi w87 B87 k87 => ?_⟩⟩
          obtain ⟨hx1, hset⟩ := move_next hr hul hm
          refine (next_any r s (hs.keep B87) (by omega) x0 x1 hx1 (lo, hi) x2 (by omega) (by omega) (by omega) (by omega)).mono fun e w88 he => ?_
          obtain ⟨a4, c4, rfl, b88, G88, _, N4⟩ := he
          have R4 := Rng.of G88 N4
          have z88 := b88.size
          have z87 := k87.size
          have hv : afterR r s (x0, x1) x2 = (nextR r s x1 (lo, hi) x2, 0) := by
            rw [hval, if_pos ((within_one _ _ _).2 ⟨by omega, by omega⟩), hset]; rfl
          have u1 := k87.own m1 (by simp)
          have u2 := k87.own m2 (by simp)
          have u3 := k87.own m3 (by simp)
          have u8 := k87.own m8 (by simp)
          have u9 := k87.own m9 (by simp)
          have u10 := k87.own m10 (by simp)
          have u13 := k87.own m13 (by simp)
          have u19 := k87.own m19 (by simp)
          have u20 := k87.own m20 (by simp)
          refine ⟨_, _, a4, _, c4, _, rfl, .all b88, fun m28 g28 => ⟨fun _ w89 B89 k89 => ?_, fun h => absurd (by rw [hv, hck]) h⟩⟩
          refine tail_any (R3.cells ((R3.cells (F64.keep b65) (Chg.kept k87) (by simp; omega)).keep b88) (Chg.kept k89) (by simp; omega)) (R4.cells G88 (Chg.kept k89) (by simp; omega)) ?_ (by rw [hv])
          rw [hv]
          simp only [nextR]
          split
          · rw [List.length_set]; omega
          · omega
  · have he : afterR r s (x0, x1) x2 = (⟨0, 0, []⟩, check r) := by
      have : startErr r s = check r := by unfold startErr; rw [if_neg hck]
      unfold afterR; rw [this, if_pos hck]
    exact ⟨fun _ w57 B57 k57 => no _ he (R3.cells F20 (Chg.kept k57) (by simp; omega)), fun h => absurd (by rw [he]) h⟩
end Go.Proofs.R07
end
section
/- The laws' arguments, opened. -/
namespace Go.Proofs.R07
open Go.Vc Go.RowKit Go.Proofs

theorem Try.own : ownKnob Try.prog.godebug = none := by kernel_rfl
theorem Try.laidOut : laidOutB Try.prog = true := by kernel_rfl

abbrev Li : Leaf := .int .i64
theorem leaves_rules : leaves Try.prog 5 26 = some [Li, Li, Li, Li, Li, .sl [Li, Li]] := by kernel_rfl
theorem leaves_st : leaves Try.prog 5 29 = some [Li, Li, .sl [.bool]] := by kernel_rfl
theorem leaves_three : leaves Try.prog 5 30 = some [Li, Li, Li] := by kernel_rfl

theorem agg_rules : isAggB Try.prog 26 = true := by kernel_rfl
theorem agg_st : isAggB Try.prog 29 = true := by kernel_rfl
theorem agg_three : isAggB Try.prog 30 = true := by kernel_rfl

def In64 (x : Int) : Prop := rng .i64 x
section
variable {w : World}
theorem take_int {ls : List Leaf} {cs : List Value} (h : LeavesAre w (Li :: ls) cs) : ∃ x r, cs = I x :: r ∧ In64 x ∧ LeavesAre w ls r := by
  obtain ⟨v, r, rfl, h1, h2⟩ := h.cons'
  obtain ⟨x, rfl, hx⟩ := h1.int'
  exact ⟨x, r, rfl, hx, h2⟩
theorem take_span {cs : List Value} (h : LeavesAre w [Li, Li] cs) : ∃ s : Sp, cs = [I s.1, I s.2] ∧ In64 s.1 ∧ In64 s.2 := by
  obtain ⟨x, r, rfl, hx, h⟩ := take_int h
  obtain ⟨y, r, rfl, hy, h⟩ := take_int h
  rw [h.nil']
  exact ⟨(x, y), rfl, hx, hy⟩
theorem take_spans {v : Value} (h : LeafIs w (.sl [Li, Li]) v) : ∃ a c, ∃ l : List Sp, v = .slice a l.length c ∧ l.length ≤ maxLen ∧ Cells w a (spans l) ∧ ∀ s ∈ l, In64 s.1 ∧ In64 s.2 := by
  obtain ⟨a, c, l, rfl, h1, h2, h3, h4⟩ := h.sl' (fun s : Sp => [I s.1, I s.2]) (fun s => In64 s.1 ∧ In64 s.2) fun x hx => take_span hx
  exact ⟨a, c, l, rfl, Nat.le_trans h1 h2, h3, h4⟩
theorem bools_flat (l : List Bool) : (l.flatMap fun b => [Value.bool b]) = bools l := by
  induction l with
  | nil => rfl
  | cons b l ih => rw [List.flatMap_cons, ih]; rfl
theorem take_bools {v : Value} (h : LeafIs w (.sl [.bool]) v) : ∃ a c, ∃ l : List Bool, v = .slice a l.length c ∧ l.length ≤ maxLen ∧ Cells w a (bools l) := by
  obtain ⟨a, c, l, rfl, h1, h2, h3, _⟩ := h.sl' (fun b : Bool => [Value.bool b]) (fun _ => True) fun x hx => by
    obtain ⟨v, r, rfl, g1, g2⟩ := hx.cons'
    obtain ⟨b, rfl⟩ := g1.bool'
    rw [g2.nil']
    exact ⟨b, rfl, trivial⟩
  refine ⟨a, c, l, rfl, Nat.le_trans h1 h2, ?_⟩
  rw [← bools_flat]
  exact h3

def Rules64 (r : Rules) : Prop := In64 r.limit ∧ In64 r.err ∧ In64 r.tlo ∧ In64 r.thi ∧ In64 r.turns ∧ (∀ s ∈ r.ws, In64 s.1 ∧ In64 s.2) ∧ r.ws.length ≤ maxLen
def St64 (s : St) : Prop := In64 s.lo ∧ In64 s.hi ∧ s.used.length ≤ maxLen
theorem take_rules {ls : List Leaf} {cs : List Value} (h : LeavesAre w (Li :: Li :: Li :: Li :: Li :: .sl [Li, Li] :: ls) cs) : ∃ (r : Rules) (a : Option Addr) (c : Nat) (rest : List Value), cs = I r.limit :: I r.err :: I r.tlo :: I r.thi :: I r.turns :: .slice a r.ws.length c :: rest ∧ Rules64 r ∧ Cells w a (spans r.ws) ∧ LeavesAre w ls rest := by
  obtain ⟨x0, _, rfl, h0, h⟩ := take_int h
  obtain ⟨x1, _, rfl, h1, h⟩ := take_int h
  obtain ⟨x2, _, rfl, h2, h⟩ := take_int h
  obtain ⟨x3, _, rfl, h3, h⟩ := take_int h
  obtain ⟨x4, _, rfl, h4, h⟩ := take_int h
  obtain ⟨v, rest, rfl, h5, h6⟩ := h.cons'
  obtain ⟨a, c, l, rfl, g1, g2, g3⟩ := take_spans h5
  exact ⟨⟨x0, x1, x2, x3, x4, l⟩, a, c, rest, rfl, ⟨h0, h1, h2, h3, h4, g3, g1⟩, g2, h6⟩
theorem take_st {ls : List Leaf} {cs : List Value} (h : LeavesAre w (Li :: Li :: .sl [.bool] :: ls) cs) : ∃ (s : St) (a : Option Addr) (c : Nat) (rest : List Value), cs = I s.lo :: I s.hi :: .slice a s.used.length c :: rest ∧ St64 s ∧ Cells w a (bools s.used) ∧ LeavesAre w ls rest := by
  obtain ⟨x0, _, rfl, h0, h⟩ := take_int h
  obtain ⟨x1, _, rfl, h1, h⟩ := take_int h
  obtain ⟨v, rest, rfl, h5, h6⟩ := h.cons'
  obtain ⟨a, c, l, rfl, g1, g2⟩ := take_bools h5
  exact ⟨⟨x0, x1, l⟩, a, c, rest, rfl, ⟨h0, h1, g1⟩, g2, h6⟩

variable {H : Type} {enc : TypeId × Value → H} {base b0 : Nat} {held : Bool} {spare : Nat → Bool} {reach : Reach}
set_option maxRecDepth 100000 in
theorem open_rules {v : Value} {d : DataW H} {ps : List MemPlace} (hv : Value.okWide Try.prog w reach b0 26 v) (hd : DataW.Trod enc Try.prog w base spare held 26 v d ps) :
    ∃ (r : Rules) (a : Option Addr) (c : Nat), v = r.v a c ∧ Rules64 r ∧ Cells w a (spans r.ws) := by
  obtain ⟨cs, rfl, h⟩ := open_agg agg_rules leaves_rules hv hd
  obtain ⟨r, a, c, rest, rfl, h1, h2, h3⟩ := take_rules h
  rw [h3.nil']
  exact ⟨r, a, c, rfl, h1, h2⟩
set_option maxRecDepth 100000 in
theorem open_st {v : Value} {d : DataW H} {ps : List MemPlace} (hv : Value.okWide Try.prog w reach b0 29 v) (hd : DataW.Trod enc Try.prog w base spare held 29 v d ps) :
    ∃ (s : St) (a : Option Addr) (c : Nat), v = s.v a c ∧ St64 s ∧ Cells w a (bools s.used) := by
  obtain ⟨cs, rfl, h⟩ := open_agg agg_st leaves_st hv hd
  obtain ⟨s, a, c, rest, rfl, h1, h2, h3⟩ := take_st h
  rw [h3.nil']
  exact ⟨s, a, c, rfl, h1, h2⟩
set_option maxRecDepth 100000 in
theorem open_three {v : Value} {d : DataW H} {ps : List MemPlace} (hv : Value.okWide Try.prog w reach b0 30 v) (hd : DataW.Trod enc Try.prog w base spare held 30 v d ps) :
    ∃ x y z : Int, v = .agg #[I x, I y, I z] ∧ In64 x ∧ In64 y ∧ In64 z := by
  obtain ⟨cs, rfl, h⟩ := open_agg agg_three leaves_three hv hd
  obtain ⟨x, _, rfl, hx, h⟩ := take_int h
  obtain ⟨y, _, rfl, hy, h⟩ := take_int h
  obtain ⟨z, _, rfl, hz, h⟩ := take_int h
  rw [h.nil']
  exact ⟨x, y, z, rfl, hx, hy, hz⟩
end
end Go.Proofs.R07
end
