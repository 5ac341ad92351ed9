/- Part 6: own lemmas, and the conditions of the functions. -/
import Derived.Test.YtonlamhfncoklaaProg
import Derived.Test.YtonlamhfncoklaaRows
import Derived.Test.YtonlamhfncoklaaP05
section
/- The conditions of the functions, printed by program; each is what the generator reckons (kernel_rfl). -/
namespace Go.Proofs
open Go.Vc
set_option maxRecDepth 100000 in
set_option maxHeartbeats 2000000 in
theorem vc12  (w : World) (R : Ending → World → Prop) (h : ∀ (w1 : World), RowKit.Below w.heap.size w w1 → Kept [] w w1 → Calls Try.prog 38 #[] w1 fun (e1 : Ending) (w2 : World) =>
    ∃ (x1 : Int), ∃ (x2 : Int), ∃ (x3 : Int), ∃ (x4 : Int), ∃ (x5 : Int), ∃ (a1 : Option Addr), ∃ (m1 : Nat), ∃ (m2 : Nat), e1 = Ending.returned (Value.agg #[Value.int IntKind.i64
    x1, Value.int IntKind.i64 x2, Value.int IntKind.i64 x3, Value.int IntKind.i64 x4, Value.int IntKind.i64 x5, Value.slice a1 m1 m2]) ∧ KeepX true w.heap.size [] (fun _ => False)
    w1 w2 ∧ ∀ (w3 : World), RowKit.Below w.heap.size w w3 → Kept [] w2 w3 → Calls Try.prog 39 #[Value.int IntKind.i64 8, Value.int IntKind.i64 18, Value.bool false] w3 fun (e2 :
    Ending) (w4 : World) => ∃ (x6 : Int), ∃ (x7 : Int), ∃ (a2 : Option Addr), ∃ (m3 : Nat), ∃ (m4 : Nat), e2 = Ending.returned (Value.agg #[Value.int IntKind.i64 x6, Value.int
    IntKind.i64 x7, Value.slice a2 m3 m4]) ∧ KeepX true w.heap.size [] (fun _ => False) w3 w4 ∧ ∀ (w5 : World), RowKit.Below w.heap.size w w5 → Kept [] w4 w5 → Calls Try.prog 24
    #[Value.agg #[Value.int IntKind.i64 x1, Value.int IntKind.i64 x2, Value.int IntKind.i64 x3, Value.int IntKind.i64 x4, Value.int IntKind.i64 x5, Value.slice a1 m1 m2], Value.agg
    #[Value.int IntKind.i64 x6, Value.int IntKind.i64 x7, Value.slice a2 m3 m4]] w5 fun (e3 : Ending) (w6 : World) => ∃ (x8 : Int), ∃ (x9 : Int), e3 = Ending.returned (Value.tuple
    #[Value.int IntKind.i64 x8, Value.int IntKind.i64 x9]) ∧ KeepX true w.heap.size [] (fun _ => False) w5 w6 ∧ ∀ (w7 : World), RowKit.Below w.heap.size w w7 → Kept [] w6 w7 →
    Calls Try.prog 38 #[] w7 fun (e4 : Ending) (w8 : World) => ∃ (x10 : Int), ∃ (x11 : Int), ∃ (x12 : Int), ∃ (x13 : Int), ∃ (x14 : Int), ∃ (a3 : Option Addr), ∃ (m5 : Nat), ∃ (m6
    : Nat), e4 = Ending.returned (Value.agg #[Value.int IntKind.i64 x10, Value.int IntKind.i64 x11, Value.int IntKind.i64 x12, Value.int IntKind.i64 x13, Value.int IntKind.i64 x14,
    Value.slice a3 m5 m6]) ∧ KeepX true w.heap.size [] (fun _ => False) w7 w8 ∧ ∀ (w9 : World), RowKit.Below w.heap.size w w9 → Kept [] w8 w9 → Calls Try.prog 39 #[Value.int
    IntKind.i64 8, Value.int IntKind.i64 18, Value.bool false] w9 fun (e5 : Ending) (w10 : World) => ∃ (x15 : Int), ∃ (x16 : Int), ∃ (a4 : Option Addr), ∃ (m7 : Nat), ∃ (m8 : Nat),
    e5 = Ending.returned (Value.agg #[Value.int IntKind.i64 x15, Value.int IntKind.i64 x16, Value.slice a4 m7 m8]) ∧ KeepX true w.heap.size [] (fun _ => False) w9 w10 ∧ ∀ (w11 :
    World), RowKit.Below w.heap.size w w11 → Kept [] w10 w11 → Calls Try.prog 25 #[Value.agg #[Value.int IntKind.i64 x10, Value.int IntKind.i64 x11, Value.int IntKind.i64 x12,
    Value.int IntKind.i64 x13, Value.int IntKind.i64 x14, Value.slice a3 m5 m6], Value.agg #[Value.int IntKind.i64 x15, Value.int IntKind.i64 x16, Value.slice a4 m7 m8]] w11 fun
    (e6 : Ending) (w12 : World) => ∃ (x17 : Int), ∃ (x18 : Int), ∃ (x19 : Int), e6 = Ending.returned (Value.tuple #[Value.agg #[Value.int IntKind.i64 x17, Value.int IntKind.i64
    x18], Value.int IntKind.i64 x19]) ∧ KeepX true w.heap.size [] (fun _ => False) w11 w12 ∧ ∀ (m9 : Nat), w12.heap.size ≤ m9 → ∀ (w13 : World), RowKit.Below w.heap.size w w13 →
    Kept [m9] w12 w13 → Calls Try.prog 38 #[] w13 fun (e7 : Ending) (w14 : World) => ∃ (x20 : Int), ∃ (x21 : Int), ∃ (x22 : Int), ∃ (x23 : Int), ∃ (x24 : Int), ∃ (a5 : Option
    Addr), ∃ (m10 : Nat), ∃ (m11 : Nat), e7 = Ending.returned (Value.agg #[Value.int IntKind.i64 x20, Value.int IntKind.i64 x21, Value.int IntKind.i64 x22, Value.int IntKind.i64
    x23, Value.int IntKind.i64 x24, Value.slice a5 m10 m11]) ∧ KeepX true w.heap.size [m9] (fun _ => False) w13 w14 ∧ ∀ (w15 : World), RowKit.Below w.heap.size w w15 → Kept [m9]
    w14 w15 → Calls Try.prog 39 #[Value.int IntKind.i64 (-6), Value.int IntKind.i64 (-4), Value.bool false] w15 fun (e8 : Ending) (w16 : World) => ∃ (x25 : Int), ∃ (x26 : Int), ∃
    (a6 : Option Addr), ∃ (m12 : Nat), ∃ (m13 : Nat), e8 = Ending.returned (Value.agg #[Value.int IntKind.i64 x25, Value.int IntKind.i64 x26, Value.slice a6 m12 m13]) ∧ KeepX true
    w.heap.size [m9] (fun _ => False) w15 w16 ∧ ∀ (w17 : World), RowKit.Below w.heap.size w w17 → Kept [m9] w16 w17 → Calls Try.prog 25 #[Value.agg #[Value.int IntKind.i64 x20,
    Value.int IntKind.i64 x21, Value.int IntKind.i64 x22, Value.int IntKind.i64 x23, Value.int IntKind.i64 x24, Value.slice a5 m10 m11], Value.agg #[Value.int IntKind.i64 x25,
    Value.int IntKind.i64 x26, Value.slice a6 m12 m13]] w17 fun (e9 : Ending) (w18 : World) => ∃ (x27 : Int), ∃ (x28 : Int), ∃ (x29 : Int), e9 = Ending.returned (Value.tuple
    #[Value.agg #[Value.int IntKind.i64 x27, Value.int IntKind.i64 x28], Value.int IntKind.i64 x29]) ∧ KeepX true w.heap.size [m9] (fun _ => False) w17 w18 ∧ ∀ (m14 : Nat),
    w18.heap.size ≤ m14 → ∀ (w19 : World), RowKit.Below w.heap.size w w19 → Kept [m14, m9] w18 w19 → Calls Try.prog 38 #[] w19 fun (e10 : Ending) (w20 : World) => ∃ (x30 : Int), ∃
    (x31 : Int), ∃ (x32 : Int), ∃ (x33 : Int), ∃ (x34 : Int), ∃ (a7 : Option Addr), ∃ (m15 : Nat), ∃ (m16 : Nat), e10 = Ending.returned (Value.agg #[Value.int IntKind.i64 x30,
    Value.int IntKind.i64 x31, Value.int IntKind.i64 x32, Value.int IntKind.i64 x33, Value.int IntKind.i64 x34, Value.slice a7 m15 m16]) ∧ KeepX true w.heap.size [m14, m9] (fun _
    => False) w19 w20 ∧ ∀ (w21 : World), RowKit.Below w.heap.size w w21 → Kept [m14, m9] w20 w21 → Calls Try.prog 39 #[Value.int IntKind.i64 8, Value.int IntKind.i64 18, Value.bool
    true] w21 fun (e11 : Ending) (w22 : World) => ∃ (x35 : Int), ∃ (x36 : Int), ∃ (a8 : Option Addr), ∃ (m17 : Nat), ∃ (m18 : Nat), e11 = Ending.returned (Value.agg #[Value.int
    IntKind.i64 x35, Value.int IntKind.i64 x36, Value.slice a8 m17 m18]) ∧ KeepX true w.heap.size [m14, m9] (fun _ => False) w21 w22 ∧ ∀ (w23 : World), RowKit.Below w.heap.size w
    w23 → Kept [m14, m9] w22 w23 → Calls Try.prog 24 #[Value.agg #[Value.int IntKind.i64 x30, Value.int IntKind.i64 x31, Value.int IntKind.i64 x32, Value.int IntKind.i64 x33,
    Value.int IntKind.i64 x34, Value.slice a7 m15 m16], Value.agg #[Value.int IntKind.i64 x35, Value.int IntKind.i64 x36, Value.slice a8 m17 m18]] w23 fun (e12 : Ending) (w24 :
    World) => ∃ (x37 : Int), ∃ (x38 : Int), e12 = Ending.returned (Value.tuple #[Value.int IntKind.i64 x37, Value.int IntKind.i64 x38]) ∧ KeepX true w.heap.size [m14, m9] (fun _ =>
    False) w23 w24 ∧ ∀ (w25 : World), RowKit.Below w.heap.size w w25 → Kept [m14, m9] w24 w25 → Calls Try.prog 38 #[] w25 fun (e13 : Ending) (w26 : World) => ∃ (x39 : Int), ∃ (x40
    : Int), ∃ (x41 : Int), ∃ (x42 : Int), ∃ (x43 : Int), ∃ (a9 : Option Addr), ∃ (m19 : Nat), ∃ (m20 : Nat), e13 = Ending.returned (Value.agg #[Value.int IntKind.i64 x39, Value.int
    IntKind.i64 x40, Value.int IntKind.i64 x41, Value.int IntKind.i64 x42, Value.int IntKind.i64 x43, Value.slice a9 m19 m20]) ∧ KeepX true w.heap.size [m14, m9] (fun _ => False)
    w25 w26 ∧ ∀ (w27 : World), RowKit.Below w.heap.size w w27 → Kept [m14, m9] w26 w27 → Calls Try.prog 39 #[Value.int IntKind.i64 8, Value.int IntKind.i64 18, Value.bool false]
    w27 fun (e14 : Ending) (w28 : World) => ∃ (x44 : Int), ∃ (x45 : Int), ∃ (a10 : Option Addr), ∃ (m21 : Nat), ∃ (m22 : Nat), e14 = Ending.returned (Value.agg #[Value.int
    IntKind.i64 x44, Value.int IntKind.i64 x45, Value.slice a10 m21 m22]) ∧ KeepX true w.heap.size [m14, m9] (fun _ => False) w27 w28 ∧ ∀ (w29 : World), RowKit.Below w.heap.size w
    w29 → Kept [m14, m9] w28 w29 → Calls Try.prog 16 #[Value.agg #[Value.int IntKind.i64 x39, Value.int IntKind.i64 x40, Value.int IntKind.i64 x41, Value.int IntKind.i64 x42,
    Value.int IntKind.i64 x43, Value.slice a9 m19 m20], Value.agg #[Value.int IntKind.i64 x44, Value.int IntKind.i64 x45, Value.slice a10 m21 m22], Value.agg #[Value.int
    IntKind.i64 (-2), Value.int IntKind.i64 (-1)], Value.int IntKind.i64 3] w29 fun (e15 : Ending) (w30 : World) => ∃ (x46 : Int), ∃ (x47 : Int), ∃ (a11 : Option Addr), ∃ (m23 :
    Nat), ∃ (m24 : Nat), ∃ (x48 : Int), e15 = Ending.returned (Value.tuple #[Value.agg #[Value.int IntKind.i64 x46, Value.int IntKind.i64 x47, Value.slice a11 m23 m24], Value.int
    IntKind.i64 x48]) ∧ KeepX true w.heap.size [m14, m9] (fun _ => False) w29 w30 ∧ ∀ (m25 : Nat), w30.heap.size ≤ m25 → ∀ (w31 : World), RowKit.Below w.heap.size w w31 → Kept
    [m25, m14, m9] w30 w31 → Calls Try.prog 38 #[] w31 fun (e16 : Ending) (w32 : World) => ∃ (x49 : Int), ∃ (x50 : Int), ∃ (x51 : Int), ∃ (x52 : Int), ∃ (x53 : Int), ∃ (a12 :
    Option Addr), ∃ (m26 : Nat), ∃ (m27 : Nat), e16 = Ending.returned (Value.agg #[Value.int IntKind.i64 x49, Value.int IntKind.i64 x50, Value.int IntKind.i64 x51, Value.int
    IntKind.i64 x52, Value.int IntKind.i64 x53, Value.slice a12 m26 m27]) ∧ KeepX true w.heap.size [m25, m14, m9] (fun _ => False) w31 w32 ∧ ∀ (w33 : World), RowKit.Below
    w.heap.size w w33 → Kept [m25, m14, m9] w32 w33 → Calls Try.prog 40 #[Value.int IntKind.i64 8, Value.int IntKind.i64 10, Value.int IntKind.i64 1, Value.int IntKind.i64 (-1)]
    w33 fun (e17 : Ending) (w34 : World) => ∃ (x54 : Int), ∃ (x55 : Int), ∃ (a13 : Option Addr), ∃ (m28 : Nat), ∃ (m29 : Nat), ∃ (x56 : Int), ∃ (x57 : Int), ∃ (x58 : Int), e17 =
    Ending.returned (Value.agg #[Value.int IntKind.i64 x54, Value.int IntKind.i64 x55, Value.slice a13 m28 m29, Value.int IntKind.i64 x56, Value.int IntKind.i64 x57, Value.int
    IntKind.i64 x58]) ∧ KeepX true w.heap.size [m25, m14, m9] (fun _ => False) w33 w34 ∧ ∀ (w35 : World), RowKit.Below w.heap.size w w35 → Kept [m25, m14, m9] w34 w35 → Calls
    Try.prog 40 #[Value.int IntKind.i64 (-2), Value.int IntKind.i64 0, Value.int IntKind.i64 0, Value.int IntKind.i64 0] w35 fun (e18 : Ending) (w36 : World) => ∃ (x59 : Int), ∃
    (x60 : Int), ∃ (a14 : Option Addr), ∃ (m30 : Nat), ∃ (m31 : Nat), ∃ (x61 : Int), ∃ (x62 : Int), ∃ (x63 : Int), e18 = Ending.returned (Value.agg #[Value.int IntKind.i64 x59,
    Value.int IntKind.i64 x60, Value.slice a14 m30 m31, Value.int IntKind.i64 x61, Value.int IntKind.i64 x62, Value.int IntKind.i64 x63]) ∧ KeepX true w.heap.size [m25, m14, m9]
    (fun _ => False) w35 w36 ∧ ∀ (w37 : World), RowKit.Below w.heap.size w w37 → Kept [m25, m14, m9] w36 w37 → Calls Try.prog 40 #[Value.int IntKind.i64 0, Value.int IntKind.i64 2,
    Value.int IntKind.i64 0, Value.int IntKind.i64 0] w37 fun (e19 : Ending) (w38 : World) => ∃ (x64 : Int), ∃ (x65 : Int), ∃ (a15 : Option Addr), ∃ (m32 : Nat), ∃ (m33 : Nat), ∃
    (x66 : Int), ∃ (x67 : Int), ∃ (x68 : Int), e19 = Ending.returned (Value.agg #[Value.int IntKind.i64 x64, Value.int IntKind.i64 x65, Value.slice a15 m32 m33, Value.int
    IntKind.i64 x66, Value.int IntKind.i64 x67, Value.int IntKind.i64 x68]) ∧ KeepX true w.heap.size [m25, m14, m9] (fun _ => False) w37 w38 ∧ ∀ (m34 : Nat), w38.heap.size ≤ m34 →
    ∀ (w39 : World), RowKit.Below w.heap.size w w39 → Kept [m34, m25, m14, m9] w38 w39 → w39.heap[m34]? = some (Obj.cells #[Value.int IntKind.i64 x54, Value.int IntKind.i64 x55,
    Value.slice a13 m28 m29, Value.int IntKind.i64 x56, Value.int IntKind.i64 x57, Value.int IntKind.i64 x58, Value.int IntKind.i64 x59, Value.int IntKind.i64 x60, Value.slice a14
    m30 m31, Value.int IntKind.i64 x61, Value.int IntKind.i64 x62, Value.int IntKind.i64 x63, Value.int IntKind.i64 x64, Value.int IntKind.i64 x65, Value.slice a15 m32 m33,
    Value.int IntKind.i64 x66, Value.int IntKind.i64 x67, Value.int IntKind.i64 x68] 56) → Calls Try.prog 28 #[Value.agg #[Value.int IntKind.i64 x49, Value.int IntKind.i64 x50,
    Value.int IntKind.i64 x51, Value.int IntKind.i64 x52, Value.int IntKind.i64 x53, Value.slice a12 m26 m27], Value.slice (some { block := m34, off := 0 }) 3 3] w39 fun (e20 :
    Ending) (w40 : World) => ∃ (x69 : Int), ∃ (x70 : Int), e20 = Ending.returned (Value.tuple #[Value.int IntKind.i64 x69, Value.int IntKind.i64 x70]) ∧ KeepX true w.heap.size
    [m34, m25, m14, m9] (fun _ => False) w39 w40 ∧ ∀ (w41 : World), RowKit.Below w.heap.size w w41 → Kept [m34, m25, m14, m9] w40 w41 → Calls Try.prog 38 #[] w41 fun (e21 : Ending)
    (w42 : World) => ∃ (x71 : Int), ∃ (x72 : Int), ∃ (x73 : Int), ∃ (x74 : Int), ∃ (x75 : Int), ∃ (a16 : Option Addr), ∃ (m35 : Nat), ∃ (m36 : Nat), e21 = Ending.returned
    (Value.agg #[Value.int IntKind.i64 x71, Value.int IntKind.i64 x72, Value.int IntKind.i64 x73, Value.int IntKind.i64 x74, Value.int IntKind.i64 x75, Value.slice a16 m35 m36]) ∧
    KeepX true w.heap.size [m34, m25, m14, m9] (fun _ => False) w41 w42 ∧ ∀ (w43 : World), RowKit.Below w.heap.size w w43 → Kept [m34, m25, m14, m9] w42 w43 → Calls Try.prog 40
    #[Value.int IntKind.i64 8, Value.int IntKind.i64 10, Value.int IntKind.i64 1, Value.int IntKind.i64 (-1)] w43 fun (e22 : Ending) (w44 : World) => ∃ (x76 : Int), ∃ (x77 : Int),
    ∃ (a17 : Option Addr), ∃ (m37 : Nat), ∃ (m38 : Nat), ∃ (x78 : Int), ∃ (x79 : Int), ∃ (x80 : Int), e22 = Ending.returned (Value.agg #[Value.int IntKind.i64 x76, Value.int
    IntKind.i64 x77, Value.slice a17 m37 m38, Value.int IntKind.i64 x78, Value.int IntKind.i64 x79, Value.int IntKind.i64 x80]) ∧ KeepX true w.heap.size [m34, m25, m14, m9] (fun _
    => False) w43 w44 ∧ ∀ (w45 : World), RowKit.Below w.heap.size w w45 → Kept [m34, m25, m14, m9] w44 w45 → Calls Try.prog 40 #[Value.int IntKind.i64 (-2), Value.int IntKind.i64
    0, Value.int IntKind.i64 0, Value.int IntKind.i64 0] w45 fun (e23 : Ending) (w46 : World) => ∃ (x81 : Int), ∃ (x82 : Int), ∃ (a18 : Option Addr), ∃ (m39 : Nat), ∃ (m40 : Nat),
    ∃ (x83 : Int), ∃ (x84 : Int), ∃ (x85 : Int), e23 = Ending.returned (Value.agg #[Value.int IntKind.i64 x81, Value.int IntKind.i64 x82, Value.slice a18 m39 m40, Value.int
    IntKind.i64 x83, Value.int IntKind.i64 x84, Value.int IntKind.i64 x85]) ∧ KeepX true w.heap.size [m34, m25, m14, m9] (fun _ => False) w45 w46 ∧ ∀ (w47 : World), RowKit.Below
    w.heap.size w w47 → Kept [m34, m25, m14, m9] w46 w47 → Calls Try.prog 40 #[Value.int IntKind.i64 0, Value.int IntKind.i64 2, Value.int IntKind.i64 0, Value.int IntKind.i64 0]
    w47 fun (e24 : Ending) (w48 : World) => ∃ (x86 : Int), ∃ (x87 : Int), ∃ (a19 : Option Addr), ∃ (m41 : Nat), ∃ (m42 : Nat), ∃ (x88 : Int), ∃ (x89 : Int), ∃ (x90 : Int), e24 =
    Ending.returned (Value.agg #[Value.int IntKind.i64 x86, Value.int IntKind.i64 x87, Value.slice a19 m41 m42, Value.int IntKind.i64 x88, Value.int IntKind.i64 x89, Value.int
    IntKind.i64 x90]) ∧ KeepX true w.heap.size [m34, m25, m14, m9] (fun _ => False) w47 w48 ∧ ∀ (w49 : World), RowKit.Below w.heap.size w w49 → Kept [m34, m25, m14, m9] w48 w49 →
    Calls Try.prog 40 #[Value.int IntKind.i64 (-1), Value.int IntKind.i64 1, Value.int IntKind.i64 0, Value.int IntKind.i64 0] w49 fun (e25 : Ending) (w50 : World) => ∃ (x91 :
    Int), ∃ (x92 : Int), ∃ (a20 : Option Addr), ∃ (m43 : Nat), ∃ (m44 : Nat), ∃ (x93 : Int), ∃ (x94 : Int), ∃ (x95 : Int), e25 = Ending.returned (Value.agg #[Value.int IntKind.i64
    x91, Value.int IntKind.i64 x92, Value.slice a20 m43 m44, Value.int IntKind.i64 x93, Value.int IntKind.i64 x94, Value.int IntKind.i64 x95]) ∧ KeepX true w.heap.size [m34, m25,
    m14, m9] (fun _ => False) w49 w50 ∧ ∀ (m45 : Nat), w50.heap.size ≤ m45 → ∀ (w51 : World), RowKit.Below w.heap.size w w51 → Kept [m45, m34, m25, m14, m9] w50 w51 →
    w51.heap[m45]? = some (Obj.cells #[Value.int IntKind.i64 x76, Value.int IntKind.i64 x77, Value.slice a17 m37 m38, Value.int IntKind.i64 x78, Value.int IntKind.i64 x79,
    Value.int IntKind.i64 x80, Value.int IntKind.i64 x81, Value.int IntKind.i64 x82, Value.slice a18 m39 m40, Value.int IntKind.i64 x83, Value.int IntKind.i64 x84, Value.int
    IntKind.i64 x85, Value.int IntKind.i64 x86, Value.int IntKind.i64 x87, Value.slice a19 m41 m42, Value.int IntKind.i64 x88, Value.int IntKind.i64 x89, Value.int IntKind.i64 x90,
    Value.int IntKind.i64 x91, Value.int IntKind.i64 x92, Value.slice a20 m43 m44, Value.int IntKind.i64 x93, Value.int IntKind.i64 x94, Value.int IntKind.i64 x95] 56) → Calls
    Try.prog 28 #[Value.agg #[Value.int IntKind.i64 x71, Value.int IntKind.i64 x72, Value.int IntKind.i64 x73, Value.int IntKind.i64 x74, Value.int IntKind.i64 x75, Value.slice a16
    m35 m36], Value.slice (some { block := m45, off := 0 }) 4 4] w51 fun (e26 : Ending) (w52 : World) => ∃ (x96 : Int), ∃ (x97 : Int), e26 = Ending.returned (Value.tuple
    #[Value.int IntKind.i64 x96, Value.int IntKind.i64 x97]) ∧ KeepX true w.heap.size [m45, m34, m25, m14, m9] (fun _ => False) w51 w52 ∧ (x9 ≠ 0 → ∀ (w53 : World), RowKit.Below
    w.heap.size w w53 → Kept [m45, m34, m25, m14, m9] w52 w53 → R (Ending.returned (Value.bool false)) w53) ∧ (x9 = 0 → (x19 ≠ 0 → ∀ (w54 : World), RowKit.Below w.heap.size w w54 →
    Kept [m45, m34, m25, m14, m9] w52 w54 → R (Ending.returned (Value.bool false)) w54) ∧ (x19 = 0 → (x29 ≠ 0 → ∀ (w55 : World), RowKit.Below w.heap.size w w55 → Kept [m45, m34,
    m25, m14, m9] w52 w55 → R (Ending.returned (Value.bool false)) w55) ∧ (x29 = 0 → (x38 ≠ 7 → ∀ (w56 : World), RowKit.Below w.heap.size w w56 → Kept [m45, m34, m25, m14, m9] w52
    w56 → R (Ending.returned (Value.bool false)) w56) ∧ (x38 = 7 → (x48 ≠ 0 → ∀ (w57 : World), RowKit.Below w.heap.size w w57 → Kept [m45, m34, m25, m14, m9] w52 w57 → R
    (Ending.returned (Value.bool false)) w57) ∧ (x48 = 0 → (x70 ≠ 0 → ∀ (w58 : World), RowKit.Below w.heap.size w w58 → Kept [m45, m34, m25, m14, m9] w52 w58 → R (Ending.returned
    (Value.bool false)) w58) ∧ (x70 = 0 → (x97 ≠ 0 → ∀ (w59 : World), RowKit.Below w.heap.size w w59 → Kept [m45, m34, m25, m14, m9] w52 w59 → R (Ending.returned (Value.bool
    false)) w59) ∧ (x97 = 0 → (x8 = 2 → ∀ (w60 : World), RowKit.Below w.heap.size w w60 → KeptIn [(0, w52.heap.size)] [m45, m34, m25, m14, m9] w52 w60 → RunsTo Try.prog ((eqGuard
    BinOp.eql 36 (Operand.tmp 94) (Operand.tmp 95) (Value.agg #[Value.int IntKind.i64 x17, Value.int IntKind.i64 x18]) (Value.agg #[Value.int IntKind.i64 (-2), Value.int
    IntKind.i64 (-1)])) >>= fun _ => binOp BinOp.eql 36 (Value.agg #[Value.int IntKind.i64 x17, Value.int IntKind.i64 x18]) (Value.agg #[Value.int IntKind.i64 (-2), Value.int
    IntKind.i64 (-1)])) w60 fun (v1 : Value) (w61 : World) => ∃ (t1 : Bool), v1 = Value.bool t1 ∧ KeepX true w.heap.size [m45, m34, m25, m14, m9] (fun _ => False) w60 w61 ∧ (t1 =
    true → ∀ (w62 : World), RowKit.Below w.heap.size w w62 → KeptIn [(0, w61.heap.size)] [m45, m34, m25, m14, m9] w61 w62 → RunsTo Try.prog ((eqGuard BinOp.eql 36 (Operand.tmp 99)
    (Operand.tmp 100) (Value.agg #[Value.int IntKind.i64 x27, Value.int IntKind.i64 x28]) (Value.agg #[Value.int IntKind.i64 0, Value.int IntKind.i64 0])) >>= fun _ => binOp
    BinOp.eql 36 (Value.agg #[Value.int IntKind.i64 x27, Value.int IntKind.i64 x28]) (Value.agg #[Value.int IntKind.i64 0, Value.int IntKind.i64 0])) w62 fun (v2 : Value) (w63 :
    World) => ∃ (t2 : Bool), v2 = Value.bool t2 ∧ KeepX true w.heap.size [m45, m34, m25, m14, m9] (fun _ => False) w62 w63 ∧ (t2 = true → ∀ (w64 : World), RowKit.Below w.heap.size
    w w64 → KeptIn [(0, w63.heap.size)] [m45, m34, m25, m14, m9] w63 w64 → Calls Try.prog 39 #[Value.int IntKind.i64 2, Value.int IntKind.i64 2, Value.bool false] w64 fun (e27 :
    Ending) (w65 : World) => ∃ (x98 : Int), ∃ (x99 : Int), ∃ (a21 : Option Addr), ∃ (m46 : Nat), ∃ (m47 : Nat), e27 = Ending.returned (Value.agg #[Value.int IntKind.i64 x98,
    Value.int IntKind.i64 x99, Value.slice a21 m46 m47]) ∧ KeepX true w.heap.size [m45, m34, m25, m14, m9] (fun _ => False) w64 w65 ∧ ∀ (w66 : World), RowKit.Below w.heap.size w
    w66 → KeptIn [(0, w65.heap.size)] [m45, m34, m25, m14, m9] w65 w66 → Calls Try.prog 19 #[Value.agg #[Value.int IntKind.i64 x46, Value.int IntKind.i64 x47, Value.slice a11 m23
    m24], Value.agg #[Value.int IntKind.i64 x98, Value.int IntKind.i64 x99, Value.slice a21 m46 m47]] w66 fun (e28 : Ending) (w67 : World) => ∃ (t3 : Bool), e28 = Ending.returned
    (Value.bool t3) ∧ KeepX true w.heap.size [m45, m34, m25, m14, m9] (fun _ => False) w66 w67 ∧ (t3 = true → (x69 = 0 → ∀ (w68 : World), RowKit.Below w.heap.size w w68 → Kept
    [m45, m34, m25, m14, m9] w67 w68 → R (Ending.returned (Value.bool (x96 == -1))) w68) ∧ (x69 ≠ 0 → ∀ (w69 : World), RowKit.Below w.heap.size w w69 → Kept [m45, m34, m25, m14,
    m9] w67 w69 → R (Ending.returned (Value.bool false)) w69)) ∧ (t3 = false → ∀ (w70 : World), RowKit.Below w.heap.size w w70 → Kept [m45, m34, m25, m14, m9] w67 w70 → R
    (Ending.returned (Value.bool false)) w70)) ∧ (t2 = false → ∀ (w71 : World), RowKit.Below w.heap.size w w71 → Kept [m45, m34, m25, m14, m9] w63 w71 → R (Ending.returned
    (Value.bool false)) w71)) ∧ (t1 = false → ∀ (w72 : World), RowKit.Below w.heap.size w w72 → Kept [m45, m34, m25, m14, m9] w61 w72 → R (Ending.returned (Value.bool false)) w72))
    ∧ (x8 ≠ 2 → ∀ (w73 : World), RowKit.Below w.heap.size w w73 → Kept [m45, m34, m25, m14, m9] w52 w73 → R (Ending.returned (Value.bool false)) w73))))))))) : Calls Try.prog 12
    #[] w R := calls_of_vc (pure := true) (wrapAt := []) (muts := []) (esc := []) (args := []) (vs := []) Try.func12 rfl rfl rfl (Eq.mp (by kernel_rfl) h) 
set_option maxRecDepth 100000 in
set_option maxHeartbeats 2000000 in
theorem vc3 (r0 : Int) (r1 : Int) (r2 : Int) (r3 : Int) (r4 : Int) (r5a : Option Addr) (r5n : Nat) (r5c : Nat) (s0 : Int) (s1 : Int) (s2a : Option Addr) (s2n : Nat) (s2c : Nat) (x0
    : Int) (x1 : Int) (x2 : Int) (w : World) (R : Ending → World → Prop) (h : ∀ (m1 : Nat), w.heap.size ≤ m1 → ∀ (m2 : Nat), w.heap.size ≤ m2 → ∀ (m3 : Nat), w.heap.size ≤ m3 → ∀
    (w1 : World), RowKit.Below w.heap.size w w1 → Kept [m3, m2, m1] w w1 → Calls Try.prog 11 #[Value.agg #[Value.int IntKind.i64 r0, Value.int IntKind.i64 r1, Value.int IntKind.i64
    r2, Value.int IntKind.i64 r3, Value.int IntKind.i64 r4, Value.slice r5a r5n r5c], Value.agg #[Value.int IntKind.i64 s0, Value.int IntKind.i64 s1, Value.slice s2a s2n s2c]] w1
    fun (e1 : Ending) (w2 : World) => ∃ (t1 : Bool), e1 = Ending.returned (Value.bool t1) ∧ KeepX true w.heap.size [m3, m2, m1] (fun _ => False) w1 w2 ∧ (t1 = true → ∀ (w3 :
    World), RowKit.Below w.heap.size w w3 → Kept [m3, m2, m1] w2 w3 → Calls Try.prog 12 #[] w3 fun (e2 : Ending) (w4 : World) => ∃ (t2 : Bool), e2 = Ending.returned (Value.bool t2)
    ∧ KeepX true w.heap.size [m3, m2, m1] (fun _ => False) w3 w4 ∧ ∀ (w5 : World), RowKit.Below w.heap.size w w5 → Kept [m3, m2, m1] w4 w5 → R (Ending.returned (Value.bool t2)) w5)
    ∧ (t1 = false → ∀ (w6 : World), RowKit.Below w.heap.size w w6 → KeptIn [(0, w2.heap.size)] [m3, m2, m1] w2 w6 → Calls Try.prog 13 #[Value.agg #[Value.int IntKind.i64 r0,
    Value.int IntKind.i64 r1, Value.int IntKind.i64 r2, Value.int IntKind.i64 r3, Value.int IntKind.i64 r4, Value.slice r5a r5n r5c]] w6 fun (e3 : Ending) (w7 : World) => ∃ (x1_1 :
    Int), ∃ (x2_1 : Int), ∃ (x3 : Int), ∃ (x4 : Int), ∃ (x5 : Int), ∃ (a1 : Option Addr), ∃ (m4 : Nat), ∃ (m5 : Nat), e3 = Ending.returned (Value.agg #[Value.int IntKind.i64 x1_1,
    Value.int IntKind.i64 x2_1, Value.int IntKind.i64 x3, Value.int IntKind.i64 x4, Value.int IntKind.i64 x5, Value.slice a1 m4 m5]) ∧ RowKit.Below w6.heap.size w6 w7 ∧ ∀ (w8 :
    World), RowKit.Below w.heap.size w w8 → KeptIn [(0, w2.heap.size), (w6.heap.size, w7.heap.size)] [m3, m2, m1] w7 w8 → Calls Try.prog 14 #[Value.agg #[Value.int IntKind.i64 s0,
    Value.int IntKind.i64 s1, Value.slice s2a s2n s2c]] w8 fun (e4 : Ending) (w9 : World) => ∃ (x6 : Int), ∃ (x7 : Int), ∃ (a2 : Option Addr), ∃ (m6 : Nat), ∃ (m7 : Nat), e4 =
    Ending.returned (Value.agg #[Value.int IntKind.i64 x6, Value.int IntKind.i64 x7, Value.slice a2 m6 m7]) ∧ RowKit.Below w8.heap.size w8 w9 ∧ ∀ (m8 : Nat), w2.heap.size ≤ m8 → m8
    < w8.heap.size ∨ w9.heap.size ≤ m8 → m8 < w6.heap.size ∨ w7.heap.size ≤ m8 → ∀ (m9 : Nat), w2.heap.size ≤ m9 → m9 < w8.heap.size ∨ w9.heap.size ≤ m9 → m9 < w6.heap.size ∨
    w7.heap.size ≤ m9 → ∀ (m10 : Nat), w2.heap.size ≤ m10 → m10 < w8.heap.size ∨ w9.heap.size ≤ m10 → m10 < w6.heap.size ∨ w7.heap.size ≤ m10 → ∀ (w10 : World), RowKit.Below
    w.heap.size w w10 → Kept [m10, m9, m8, m3, m2, m1] w9 w10 → Calls Try.prog 15 #[Value.agg #[Value.int IntKind.i64 x1_1, Value.int IntKind.i64 x2_1, Value.int IntKind.i64 x3,
    Value.int IntKind.i64 x4, Value.int IntKind.i64 x5, Value.slice a1 m4 m5]] w10 fun (e5 : Ending) (w11 : World) => ∃ (x8 : Int), e5 = Ending.returned (Value.int IntKind.i64 x8)
    ∧ KeepX true w.heap.size [m10, m9, m8, m3, m2, m1] (fun _ => False) w10 w11 ∧ ∀ (w12 : World), RowKit.Below w.heap.size w w12 → Kept [m10, m9, m8, m3, m2, m1] w11 w12 → Calls
    Try.prog 16 #[Value.agg #[Value.int IntKind.i64 x1_1, Value.int IntKind.i64 x2_1, Value.int IntKind.i64 x3, Value.int IntKind.i64 x4, Value.int IntKind.i64 x5, Value.slice a1
    m4 m5], Value.agg #[Value.int IntKind.i64 x6, Value.int IntKind.i64 x7, Value.slice a2 m6 m7], Value.agg #[Value.int IntKind.i64 x0, Value.int IntKind.i64 x1], Value.int
    IntKind.i64 x2] w12 fun (e6 : Ending) (w13 : World) => ∃ (x9 : Int), ∃ (x10 : Int), ∃ (a3 : Option Addr), ∃ (m11 : Nat), ∃ (m12 : Nat), ∃ (x11 : Int), e6 = Ending.returned
    (Value.tuple #[Value.agg #[Value.int IntKind.i64 x9, Value.int IntKind.i64 x10, Value.slice a3 m11 m12], Value.int IntKind.i64 x11]) ∧ KeepX true w.heap.size [m10, m9, m8, m3,
    m2, m1] (fun _ => False) w12 w13 ∧ ∀ (m13 : Nat), w13.heap.size ≤ m13 → ∀ (w14 : World), RowKit.Below w.heap.size w w14 → Kept [m13, m10, m9, m8, m3, m2, m1] w13 w14 → Calls
    Try.prog 17 #[Value.agg #[Value.int IntKind.i64 r0, Value.int IntKind.i64 r1, Value.int IntKind.i64 r2, Value.int IntKind.i64 r3, Value.int IntKind.i64 r4, Value.slice r5a r5n
    r5c]] w14 fun (e7 : Ending) (w15 : World) => ∃ (x12 : Int), e7 = Ending.returned (Value.int IntKind.i64 x12) ∧ KeepX true w.heap.size [m13, m10, m9, m8, m3, m2, m1] (fun _ =>
    False) w14 w15 ∧ ∀ (w16 : World), RowKit.Below w.heap.size w w16 → Kept [m13, m10, m9, m8, m3, m2, m1] w15 w16 → Calls Try.prog 18 #[Value.agg #[Value.int IntKind.i64 x1_1,
    Value.int IntKind.i64 x2_1, Value.int IntKind.i64 x3, Value.int IntKind.i64 x4, Value.int IntKind.i64 x5, Value.slice a1 m4 m5], Value.agg #[Value.int IntKind.i64 r0, Value.int
    IntKind.i64 r1, Value.int IntKind.i64 r2, Value.int IntKind.i64 r3, Value.int IntKind.i64 r4, Value.slice r5a r5n r5c]] w16 fun (e8 : Ending) (w17 : World) => ∃ (t3 : Bool), e8
    = Ending.returned (Value.bool t3) ∧ KeepX true w.heap.size [m13, m10, m9, m8, m3, m2, m1] (fun _ => False) w16 w17 ∧ ((!t3) = true → ∀ (w18 : World), RowKit.Below w.heap.size w
    w18 → Kept [m13, m10, m9, m8, m3, m2, m1] w17 w18 → R (Ending.returned (Value.bool false)) w18) ∧ ((!t3) = false → ∀ (w19 : World), RowKit.Below w.heap.size w w19 → Kept [m13,
    m10, m9, m8, m3, m2, m1] w17 w19 → Calls Try.prog 19 #[Value.agg #[Value.int IntKind.i64 x6, Value.int IntKind.i64 x7, Value.slice a2 m6 m7], Value.agg #[Value.int IntKind.i64
    s0, Value.int IntKind.i64 s1, Value.slice s2a s2n s2c]] w19 fun (e9 : Ending) (w20 : World) => ∃ (t4 : Bool), e9 = Ending.returned (Value.bool t4) ∧ KeepX true w.heap.size
    [m13, m10, m9, m8, m3, m2, m1] (fun _ => False) w19 w20 ∧ ((!t4) = true → ∀ (w21 : World), RowKit.Below w.heap.size w w21 → Kept [m13, m10, m9, m8, m3, m2, m1] w20 w21 → R
    (Ending.returned (Value.bool false)) w21) ∧ ((!t4) = false → (x8 ≠ x12 → ∀ (w22 : World), RowKit.Below w.heap.size w w22 → Kept [m13, m10, m9, m8, m3, m2, m1] w20 w22 → R
    (Ending.returned (Value.bool false)) w22) ∧ (x8 = x12 → (x12 = 0 → ∀ (w23 : World), RowKit.Below w.heap.size w w23 → Kept [m13, m10, m9, m8, m3, m2, m1] w20 w23 → Calls
    Try.prog 20 #[Value.agg #[Value.int IntKind.i64 r0, Value.int IntKind.i64 r1, Value.int IntKind.i64 r2, Value.int IntKind.i64 r3, Value.int IntKind.i64 r4, Value.slice r5a r5n
    r5c], Value.agg #[Value.int IntKind.i64 s0, Value.int IntKind.i64 s1, Value.slice s2a s2n s2c]] w23 fun (e10 : Ending) (w24 : World) => ∃ (t5 : Bool), e10 = Ending.returned
    (Value.bool t5) ∧ KeepX true w.heap.size [m13, m10, m9, m8, m3, m2, m1] (fun _ => False) w23 w24 ∧ ((!t5) = true → ∀ (m14 : Nat), w24.heap.size ≤ m14 → ((2 : Int) = 0 → ∀ (w25
    : World), RowKit.Below w.heap.size w w25 → Kept [m14, m13, m10, m9, m8, m3, m2, m1] w24 w25 → Calls Try.prog 21 #[Value.agg #[Value.int IntKind.i64 r0, Value.int IntKind.i64
    r1, Value.int IntKind.i64 r2, Value.int IntKind.i64 r3, Value.int IntKind.i64 r4, Value.slice r5a r5n r5c], Value.agg #[Value.int IntKind.i64 s0, Value.int IntKind.i64 s1,
    Value.slice s2a s2n s2c], Value.agg #[Value.int IntKind.i64 x0, Value.int IntKind.i64 x1]] w25 fun (e11 : Ending) (w26 : World) => ∃ (x13 : Int), ∃ (x14 : Int), ∃ (t6 : Bool),
    e11 = Ending.returned (Value.tuple #[Value.agg #[Value.int IntKind.i64 x13, Value.int IntKind.i64 x14], Value.bool t6]) ∧ KeepX true w.heap.size [m14, m13, m10, m9, m8, m3, m2,
    m1] (fun _ => False) w25 w26 ∧ ∀ (m15 : Nat), w26.heap.size ≤ m15 → ((!t6) = true → (x11 = 3 → ∀ (w27 : World), RowKit.Below w.heap.size w w27 → Kept [m15, m14, m13, m10, m9,
    m8, m3, m2, m1] w26 w27 → Calls Try.prog 19 #[Value.agg #[Value.int IntKind.i64 x9, Value.int IntKind.i64 x10, Value.slice a3 m11 m12], Value.agg #[Value.int IntKind.i64 0,
    Value.int IntKind.i64 0, Value.slice none 0 0]] w27 fun (e12 : Ending) (w28 : World) => ∃ (t7 : Bool), e12 = Ending.returned (Value.bool t7) ∧ KeepX true w.heap.size [m15, m14,
    m13, m10, m9, m8, m3, m2, m1] (fun _ => False) w27 w28 ∧ (t7 = true → ∀ (w29 : World), RowKit.Below w.heap.size w w29 → Kept [m15, m14, m13, m10, m9, m8, m3, m2, m1] w28 w29 →
    Calls Try.prog 12 #[] w29 fun (e13 : Ending) (w30 : World) => ∃ (t8 : Bool), e13 = Ending.returned (Value.bool t8) ∧ KeepX true w.heap.size [m15, m14, m13, m10, m9, m8, m3, m2,
    m1] (fun _ => False) w29 w30 ∧ ∀ (w31 : World), RowKit.Below w.heap.size w w31 → Kept [m15, m14, m13, m10, m9, m8, m3, m2, m1] w30 w31 → R (Ending.returned (Value.bool t8))
    w31) ∧ (t7 = false → ∀ (w32 : World), RowKit.Below w.heap.size w w32 → Kept [m15, m14, m13, m10, m9, m8, m3, m2, m1] w28 w32 → R (Ending.returned (Value.bool false)) w32)) ∧
    (x11 ≠ 3 → ∀ (w33 : World), RowKit.Below w.heap.size w w33 → Kept [m15, m14, m13, m10, m9, m8, m3, m2, m1] w26 w33 → R (Ending.returned (Value.bool false)) w33)) ∧ ((!t6) =
    false → (-9223372036854775808 ≤ x13 - r1 ∧ x13 - r1 ≤ 9223372036854775807) ∧ (x2 < x13 - r1 → (x11 = 9 → ∀ (w34 : World), RowKit.Below w.heap.size w w34 → Kept [m15, m14, m13,
    m10, m9, m8, m3, m2, m1] w26 w34 → Calls Try.prog 19 #[Value.agg #[Value.int IntKind.i64 x9, Value.int IntKind.i64 x10, Value.slice a3 m11 m12], Value.agg #[Value.int
    IntKind.i64 0, Value.int IntKind.i64 0, Value.slice none 0 0]] w34 fun (e14 : Ending) (w35 : World) => ∃ (t9 : Bool), e14 = Ending.returned (Value.bool t9) ∧ KeepX true
    w.heap.size [m15, m14, m13, m10, m9, m8, m3, m2, m1] (fun _ => False) w34 w35 ∧ (t9 = true → ∀ (w36 : World), RowKit.Below w.heap.size w w36 → Kept [m15, m14, m13, m10, m9, m8,
    m3, m2, m1] w35 w36 → Calls Try.prog 12 #[] w36 fun (e15 : Ending) (w37 : World) => ∃ (t10 : Bool), e15 = Ending.returned (Value.bool t10) ∧ KeepX true w.heap.size [m15, m14,
    m13, m10, m9, m8, m3, m2, m1] (fun _ => False) w36 w37 ∧ ∀ (w38 : World), RowKit.Below w.heap.size w w38 → Kept [m15, m14, m13, m10, m9, m8, m3, m2, m1] w37 w38 → R
    (Ending.returned (Value.bool t10)) w38) ∧ (t9 = false → ∀ (w39 : World), RowKit.Below w.heap.size w w39 → Kept [m15, m14, m13, m10, m9, m8, m3, m2, m1] w35 w39 → R
    (Ending.returned (Value.bool false)) w39)) ∧ (x11 ≠ 9 → ∀ (w40 : World), RowKit.Below w.heap.size w w40 → Kept [m15, m14, m13, m10, m9, m8, m3, m2, m1] w26 w40 → R
    (Ending.returned (Value.bool false)) w40)) ∧ (x13 - r1 ≤ x2 → (-9223372036854775808 ≤ x14 + r1 ∧ x14 + r1 ≤ 9223372036854775807) ∧ (x14 + r1 < x2 → (x11 = 9 → ∀ (w41 : World),
    RowKit.Below w.heap.size w w41 → Kept [m15, m14, m13, m10, m9, m8, m3, m2, m1] w26 w41 → Calls Try.prog 19 #[Value.agg #[Value.int IntKind.i64 x9, Value.int IntKind.i64 x10,
    Value.slice a3 m11 m12], Value.agg #[Value.int IntKind.i64 0, Value.int IntKind.i64 0, Value.slice none 0 0]] w41 fun (e16 : Ending) (w42 : World) => ∃ (t11 : Bool), e16 =
    Ending.returned (Value.bool t11) ∧ KeepX true w.heap.size [m15, m14, m13, m10, m9, m8, m3, m2, m1] (fun _ => False) w41 w42 ∧ (t11 = true → ∀ (w43 : World), RowKit.Below
    w.heap.size w w43 → Kept [m15, m14, m13, m10, m9, m8, m3, m2, m1] w42 w43 → Calls Try.prog 12 #[] w43 fun (e17 : Ending) (w44 : World) => ∃ (t12 : Bool), e17 = Ending.returned
    (Value.bool t12) ∧ KeepX true w.heap.size [m15, m14, m13, m10, m9, m8, m3, m2, m1] (fun _ => False) w43 w44 ∧ ∀ (w45 : World), RowKit.Below w.heap.size w w45 → Kept [m15, m14,
    m13, m10, m9, m8, m3, m2, m1] w44 w45 → R (Ending.returned (Value.bool t12)) w45) ∧ (t11 = false → ∀ (w46 : World), RowKit.Below w.heap.size w w46 → Kept [m15, m14, m13, m10,
    m9, m8, m3, m2, m1] w42 w46 → R (Ending.returned (Value.bool false)) w46)) ∧ (x11 ≠ 9 → ∀ (w47 : World), RowKit.Below w.heap.size w w47 → Kept [m15, m14, m13, m10, m9, m8, m3,
    m2, m1] w26 w47 → R (Ending.returned (Value.bool false)) w47)) ∧ (x2 ≤ x14 + r1 → ∀ (w48 : World), RowKit.Below w.heap.size w w48 → Kept [m15, m14, m13, m10, m9, m8, m3, m2,
    m1] w26 w48 → Calls Try.prog 22 #[Value.agg #[Value.int IntKind.i64 r0, Value.int IntKind.i64 r1, Value.int IntKind.i64 r2, Value.int IntKind.i64 r3, Value.int IntKind.i64 r4,
    Value.slice r5a r5n r5c], Value.agg #[Value.int IntKind.i64 s0, Value.int IntKind.i64 s1, Value.slice s2a s2n s2c], Value.agg #[Value.int IntKind.i64 x0, Value.int IntKind.i64
    x1], Value.agg #[Value.int IntKind.i64 x13, Value.int IntKind.i64 x14], Value.int IntKind.i64 x2] w48 fun (e18 : Ending) (w49 : World) => ∃ (x15 : Int), ∃ (x16 : Int), ∃ (a4 :
    Option Addr), ∃ (m16 : Nat), ∃ (m17 : Nat), ∃ (t13 : Bool), e18 = Ending.returned (Value.tuple #[Value.agg #[Value.int IntKind.i64 x15, Value.int IntKind.i64 x16, Value.slice
    a4 m16 m17], Value.bool t13]) ∧ KeepX true w.heap.size [m15, m14, m13, m10, m9, m8, m3, m2, m1] (fun _ => False) w48 w49 ∧ ∀ (m18 : Nat), w49.heap.size ≤ m18 → (x11 = 2 → ∀
    (w50 : World), RowKit.Below w.heap.size w w50 → Kept [m18, m15, m14, m13, m10, m9, m8, m3, m2, m1] w49 w50 → Calls Try.prog 19 #[Value.agg #[Value.int IntKind.i64 x9, Value.int
    IntKind.i64 x10, Value.slice a3 m11 m12], Value.agg #[Value.int IntKind.i64 x15, Value.int IntKind.i64 x16, Value.slice a4 m16 m17]] w50 fun (e19 : Ending) (w51 : World) => ∃
    (t14 : Bool), e19 = Ending.returned (Value.bool t14) ∧ KeepX true w.heap.size [m18, m15, m14, m13, m10, m9, m8, m3, m2, m1] (fun _ => False) w50 w51 ∧ (t14 = true → ∀ (w52 :
    World), RowKit.Below w.heap.size w w52 → Kept [m18, m15, m14, m13, m10, m9, m8, m3, m2, m1] w51 w52 → Calls Try.prog 12 #[] w52 fun (e20 : Ending) (w53 : World) => ∃ (t15 :
    Bool), e20 = Ending.returned (Value.bool t15) ∧ KeepX true w.heap.size [m18, m15, m14, m13, m10, m9, m8, m3, m2, m1] (fun _ => False) w52 w53 ∧ ∀ (w54 : World), RowKit.Below
    w.heap.size w w54 → Kept [m18, m15, m14, m13, m10, m9, m8, m3, m2, m1] w53 w54 → R (Ending.returned (Value.bool t15)) w54) ∧ (t14 = false → ∀ (w55 : World), RowKit.Below
    w.heap.size w w55 → Kept [m18, m15, m14, m13, m10, m9, m8, m3, m2, m1] w51 w55 → R (Ending.returned (Value.bool false)) w55)) ∧ (x11 ≠ 2 → ∀ (w56 : World), RowKit.Below
    w.heap.size w w56 → Kept [m18, m15, m14, m13, m10, m9, m8, m3, m2, m1] w49 w56 → R (Ending.returned (Value.bool false)) w56))))) ∧ ((2 : Int) ≠ 0 → (x11 = 2 → ∀ (w57 : World),
    RowKit.Below w.heap.size w w57 → Kept [m14, m13, m10, m9, m8, m3, m2, m1] w24 w57 → Calls Try.prog 19 #[Value.agg #[Value.int IntKind.i64 x9, Value.int IntKind.i64 x10,
    Value.slice a3 m11 m12], Value.agg #[Value.int IntKind.i64 0, Value.int IntKind.i64 0, Value.slice none 0 0]] w57 fun (e21 : Ending) (w58 : World) => ∃ (t16 : Bool), e21 =
    Ending.returned (Value.bool t16) ∧ KeepX true w.heap.size [m14, m13, m10, m9, m8, m3, m2, m1] (fun _ => False) w57 w58 ∧ (t16 = true → ∀ (w59 : World), RowKit.Below w.heap.size
    w w59 → Kept [m14, m13, m10, m9, m8, m3, m2, m1] w58 w59 → Calls Try.prog 12 #[] w59 fun (e22 : Ending) (w60 : World) => ∃ (t17 : Bool), e22 = Ending.returned (Value.bool t17)
    ∧ KeepX true w.heap.size [m14, m13, m10, m9, m8, m3, m2, m1] (fun _ => False) w59 w60 ∧ ∀ (w61 : World), RowKit.Below w.heap.size w w61 → Kept [m14, m13, m10, m9, m8, m3, m2,
    m1] w60 w61 → R (Ending.returned (Value.bool t17)) w61) ∧ (t16 = false → ∀ (w62 : World), RowKit.Below w.heap.size w w62 → Kept [m14, m13, m10, m9, m8, m3, m2, m1] w58 w62 → R
    (Ending.returned (Value.bool false)) w62)) ∧ (x11 ≠ 2 → ∀ (w63 : World), RowKit.Below w.heap.size w w63 → Kept [m14, m13, m10, m9, m8, m3, m2, m1] w24 w63 → R (Ending.returned
    (Value.bool false)) w63))) ∧ ((!t5) = false → ∀ (m19 : Nat), w24.heap.size ≤ m19 → (x12 = 0 → ∀ (w64 : World), RowKit.Below w.heap.size w w64 → Kept [m19, m13, m10, m9, m8, m3,
    m2, m1] w24 w64 → Calls Try.prog 21 #[Value.agg #[Value.int IntKind.i64 r0, Value.int IntKind.i64 r1, Value.int IntKind.i64 r2, Value.int IntKind.i64 r3, Value.int IntKind.i64
    r4, Value.slice r5a r5n r5c], Value.agg #[Value.int IntKind.i64 s0, Value.int IntKind.i64 s1, Value.slice s2a s2n s2c], Value.agg #[Value.int IntKind.i64 x0, Value.int
    IntKind.i64 x1]] w64 fun (e23 : Ending) (w65 : World) => ∃ (x17 : Int), ∃ (x18 : Int), ∃ (t18 : Bool), e23 = Ending.returned (Value.tuple #[Value.agg #[Value.int IntKind.i64
    x17, Value.int IntKind.i64 x18], Value.bool t18]) ∧ KeepX true w.heap.size [m19, m13, m10, m9, m8, m3, m2, m1] (fun _ => False) w64 w65 ∧ ∀ (m20 : Nat), w65.heap.size ≤ m20 →
    ((!t18) = true → (x11 = 3 → ∀ (w66 : World), RowKit.Below w.heap.size w w66 → Kept [m20, m19, m13, m10, m9, m8, m3, m2, m1] w65 w66 → Calls Try.prog 19 #[Value.agg #[Value.int
    IntKind.i64 x9, Value.int IntKind.i64 x10, Value.slice a3 m11 m12], Value.agg #[Value.int IntKind.i64 0, Value.int IntKind.i64 0, Value.slice none 0 0]] w66 fun (e24 : Ending)
    (w67 : World) => ∃ (t19 : Bool), e24 = Ending.returned (Value.bool t19) ∧ KeepX true w.heap.size [m20, m19, m13, m10, m9, m8, m3, m2, m1] (fun _ => False) w66 w67 ∧ (t19 = true
    → ∀ (w68 : World), RowKit.Below w.heap.size w w68 → Kept [m20, m19, m13, m10, m9, m8, m3, m2, m1] w67 w68 → Calls Try.prog 12 #[] w68 fun (e25 : Ending) (w69 : World) => ∃ (t20
    : Bool), e25 = Ending.returned (Value.bool t20) ∧ KeepX true w.heap.size [m20, m19, m13, m10, m9, m8, m3, m2, m1] (fun _ => False) w68 w69 ∧ ∀ (w70 : World), RowKit.Below
    w.heap.size w w70 → Kept [m20, m19, m13, m10, m9, m8, m3, m2, m1] w69 w70 → R (Ending.returned (Value.bool t20)) w70) ∧ (t19 = false → ∀ (w71 : World), RowKit.Below w.heap.size
    w w71 → Kept [m20, m19, m13, m10, m9, m8, m3, m2, m1] w67 w71 → R (Ending.returned (Value.bool false)) w71)) ∧ (x11 ≠ 3 → ∀ (w72 : World), RowKit.Below w.heap.size w w72 → Kept
    [m20, m19, m13, m10, m9, m8, m3, m2, m1] w65 w72 → R (Ending.returned (Value.bool false)) w72)) ∧ ((!t18) = false → (-9223372036854775808 ≤ x17 - r1 ∧ x17 - r1 ≤
    9223372036854775807) ∧ (x2 < x17 - r1 → (x11 = 9 → ∀ (w73 : World), RowKit.Below w.heap.size w w73 → Kept [m20, m19, m13, m10, m9, m8, m3, m2, m1] w65 w73 → Calls Try.prog 19
    #[Value.agg #[Value.int IntKind.i64 x9, Value.int IntKind.i64 x10, Value.slice a3 m11 m12], Value.agg #[Value.int IntKind.i64 0, Value.int IntKind.i64 0, Value.slice none 0 0]]
    w73 fun (e26 : Ending) (w74 : World) => ∃ (t21 : Bool), e26 = Ending.returned (Value.bool t21) ∧ KeepX true w.heap.size [m20, m19, m13, m10, m9, m8, m3, m2, m1] (fun _ =>
    False) w73 w74 ∧ (t21 = true → ∀ (w75 : World), RowKit.Below w.heap.size w w75 → Kept [m20, m19, m13, m10, m9, m8, m3, m2, m1] w74 w75 → Calls Try.prog 12 #[] w75 fun (e27 :
    Ending) (w76 : World) => ∃ (t22 : Bool), e27 = Ending.returned (Value.bool t22) ∧ KeepX true w.heap.size [m20, m19, m13, m10, m9, m8, m3, m2, m1] (fun _ => False) w75 w76 ∧ ∀
    (w77 : World), RowKit.Below w.heap.size w w77 → Kept [m20, m19, m13, m10, m9, m8, m3, m2, m1] w76 w77 → R (Ending.returned (Value.bool t22)) w77) ∧ (t21 = false → ∀ (w78 :
    World), RowKit.Below w.heap.size w w78 → Kept [m20, m19, m13, m10, m9, m8, m3, m2, m1] w74 w78 → R (Ending.returned (Value.bool false)) w78)) ∧ (x11 ≠ 9 → ∀ (w79 : World),
    RowKit.Below w.heap.size w w79 → Kept [m20, m19, m13, m10, m9, m8, m3, m2, m1] w65 w79 → R (Ending.returned (Value.bool false)) w79)) ∧ (x17 - r1 ≤ x2 → (-9223372036854775808 ≤
    x18 + r1 ∧ x18 + r1 ≤ 9223372036854775807) ∧ (x18 + r1 < x2 → (x11 = 9 → ∀ (w80 : World), RowKit.Below w.heap.size w w80 → Kept [m20, m19, m13, m10, m9, m8, m3, m2, m1] w65 w80
    → Calls Try.prog 19 #[Value.agg #[Value.int IntKind.i64 x9, Value.int IntKind.i64 x10, Value.slice a3 m11 m12], Value.agg #[Value.int IntKind.i64 0, Value.int IntKind.i64 0,
    Value.slice none 0 0]] w80 fun (e28 : Ending) (w81 : World) => ∃ (t23 : Bool), e28 = Ending.returned (Value.bool t23) ∧ KeepX true w.heap.size [m20, m19, m13, m10, m9, m8, m3,
    m2, m1] (fun _ => False) w80 w81 ∧ (t23 = true → ∀ (w82 : World), RowKit.Below w.heap.size w w82 → Kept [m20, m19, m13, m10, m9, m8, m3, m2, m1] w81 w82 → Calls Try.prog 12 #[]
    w82 fun (e29 : Ending) (w83 : World) => ∃ (t24 : Bool), e29 = Ending.returned (Value.bool t24) ∧ KeepX true w.heap.size [m20, m19, m13, m10, m9, m8, m3, m2, m1] (fun _ =>
    False) w82 w83 ∧ ∀ (w84 : World), RowKit.Below w.heap.size w w84 → Kept [m20, m19, m13, m10, m9, m8, m3, m2, m1] w83 w84 → R (Ending.returned (Value.bool t24)) w84) ∧ (t23 =
    false → ∀ (w85 : World), RowKit.Below w.heap.size w w85 → Kept [m20, m19, m13, m10, m9, m8, m3, m2, m1] w81 w85 → R (Ending.returned (Value.bool false)) w85)) ∧ (x11 ≠ 9 → ∀
    (w86 : World), RowKit.Below w.heap.size w w86 → Kept [m20, m19, m13, m10, m9, m8, m3, m2, m1] w65 w86 → R (Ending.returned (Value.bool false)) w86)) ∧ (x2 ≤ x18 + r1 → ∀ (w87 :
    World), RowKit.Below w.heap.size w w87 → Kept [m20, m19, m13, m10, m9, m8, m3, m2, m1] w65 w87 → Calls Try.prog 22 #[Value.agg #[Value.int IntKind.i64 r0, Value.int IntKind.i64
    r1, Value.int IntKind.i64 r2, Value.int IntKind.i64 r3, Value.int IntKind.i64 r4, Value.slice r5a r5n r5c], Value.agg #[Value.int IntKind.i64 s0, Value.int IntKind.i64 s1,
    Value.slice s2a s2n s2c], Value.agg #[Value.int IntKind.i64 x0, Value.int IntKind.i64 x1], Value.agg #[Value.int IntKind.i64 x17, Value.int IntKind.i64 x18], Value.int
    IntKind.i64 x2] w87 fun (e30 : Ending) (w88 : World) => ∃ (x19 : Int), ∃ (x20 : Int), ∃ (a5 : Option Addr), ∃ (m21 : Nat), ∃ (m22 : Nat), ∃ (t25 : Bool), e30 = Ending.returned
    (Value.tuple #[Value.agg #[Value.int IntKind.i64 x19, Value.int IntKind.i64 x20, Value.slice a5 m21 m22], Value.bool t25]) ∧ KeepX true w.heap.size [m20, m19, m13, m10, m9, m8,
    m3, m2, m1] (fun _ => False) w87 w88 ∧ ∀ (m23 : Nat), w88.heap.size ≤ m23 → (x11 = x12 → ∀ (w89 : World), RowKit.Below w.heap.size w w89 → Kept [m23, m20, m19, m13, m10, m9,
    m8, m3, m2, m1] w88 w89 → Calls Try.prog 19 #[Value.agg #[Value.int IntKind.i64 x9, Value.int IntKind.i64 x10, Value.slice a3 m11 m12], Value.agg #[Value.int IntKind.i64 x19,
    Value.int IntKind.i64 x20, Value.slice a5 m21 m22]] w89 fun (e31 : Ending) (w90 : World) => ∃ (t26 : Bool), e31 = Ending.returned (Value.bool t26) ∧ KeepX true w.heap.size
    [m23, m20, m19, m13, m10, m9, m8, m3, m2, m1] (fun _ => False) w89 w90 ∧ (t26 = true → ∀ (w91 : World), RowKit.Below w.heap.size w w91 → Kept [m23, m20, m19, m13, m10, m9, m8,
    m3, m2, m1] w90 w91 → Calls Try.prog 12 #[] w91 fun (e32 : Ending) (w92 : World) => ∃ (t27 : Bool), e32 = Ending.returned (Value.bool t27) ∧ KeepX true w.heap.size [m23, m20,
    m19, m13, m10, m9, m8, m3, m2, m1] (fun _ => False) w91 w92 ∧ ∀ (w93 : World), RowKit.Below w.heap.size w w93 → Kept [m23, m20, m19, m13, m10, m9, m8, m3, m2, m1] w92 w93 → R
    (Ending.returned (Value.bool t27)) w93) ∧ (t26 = false → ∀ (w94 : World), RowKit.Below w.heap.size w w94 → Kept [m23, m20, m19, m13, m10, m9, m8, m3, m2, m1] w90 w94 → R
    (Ending.returned (Value.bool false)) w94)) ∧ (x11 ≠ x12 → ∀ (w95 : World), RowKit.Below w.heap.size w w95 → Kept [m23, m20, m19, m13, m10, m9, m8, m3, m2, m1] w88 w95 → R
    (Ending.returned (Value.bool false)) w95))))) ∧ (x12 ≠ 0 → (x11 = x12 → ∀ (w96 : World), RowKit.Below w.heap.size w w96 → Kept [m19, m13, m10, m9, m8, m3, m2, m1] w24 w96 →
    Calls Try.prog 19 #[Value.agg #[Value.int IntKind.i64 x9, Value.int IntKind.i64 x10, Value.slice a3 m11 m12], Value.agg #[Value.int IntKind.i64 0, Value.int IntKind.i64 0,
    Value.slice none 0 0]] w96 fun (e33 : Ending) (w97 : World) => ∃ (t28 : Bool), e33 = Ending.returned (Value.bool t28) ∧ KeepX true w.heap.size [m19, m13, m10, m9, m8, m3, m2,
    m1] (fun _ => False) w96 w97 ∧ (t28 = true → ∀ (w98 : World), RowKit.Below w.heap.size w w98 → Kept [m19, m13, m10, m9, m8, m3, m2, m1] w97 w98 → Calls Try.prog 12 #[] w98 fun
    (e34 : Ending) (w99 : World) => ∃ (t29 : Bool), e34 = Ending.returned (Value.bool t29) ∧ KeepX true w.heap.size [m19, m13, m10, m9, m8, m3, m2, m1] (fun _ => False) w98 w99 ∧ ∀
    (w100 : World), RowKit.Below w.heap.size w w100 → Kept [m19, m13, m10, m9, m8, m3, m2, m1] w99 w100 → R (Ending.returned (Value.bool t29)) w100) ∧ (t28 = false → ∀ (w101 :
    World), RowKit.Below w.heap.size w w101 → Kept [m19, m13, m10, m9, m8, m3, m2, m1] w97 w101 → R (Ending.returned (Value.bool false)) w101)) ∧ (x11 ≠ x12 → ∀ (w102 : World),
    RowKit.Below w.heap.size w w102 → Kept [m19, m13, m10, m9, m8, m3, m2, m1] w24 w102 → R (Ending.returned (Value.bool false)) w102)))) ∧ (x12 ≠ 0 → ∀ (m24 : Nat), w20.heap.size
    ≤ m24 → (x12 = 0 → ∀ (w103 : World), RowKit.Below w.heap.size w w103 → Kept [m24, m13, m10, m9, m8, m3, m2, m1] w20 w103 → Calls Try.prog 21 #[Value.agg #[Value.int IntKind.i64
    r0, Value.int IntKind.i64 r1, Value.int IntKind.i64 r2, Value.int IntKind.i64 r3, Value.int IntKind.i64 r4, Value.slice r5a r5n r5c], Value.agg #[Value.int IntKind.i64 s0,
    Value.int IntKind.i64 s1, Value.slice s2a s2n s2c], Value.agg #[Value.int IntKind.i64 x0, Value.int IntKind.i64 x1]] w103 fun (e35 : Ending) (w104 : World) => ∃ (x21 : Int), ∃
    (x22 : Int), ∃ (t30 : Bool), e35 = Ending.returned (Value.tuple #[Value.agg #[Value.int IntKind.i64 x21, Value.int IntKind.i64 x22], Value.bool t30]) ∧ KeepX true w.heap.size
    [m24, m13, m10, m9, m8, m3, m2, m1] (fun _ => False) w103 w104 ∧ ∀ (m25 : Nat), w104.heap.size ≤ m25 → ((!t30) = true → (x11 = 3 → ∀ (w105 : World), RowKit.Below w.heap.size w
    w105 → Kept [m25, m24, m13, m10, m9, m8, m3, m2, m1] w104 w105 → Calls Try.prog 19 #[Value.agg #[Value.int IntKind.i64 x9, Value.int IntKind.i64 x10, Value.slice a3 m11 m12],
    Value.agg #[Value.int IntKind.i64 0, Value.int IntKind.i64 0, Value.slice none 0 0]] w105 fun (e36 : Ending) (w106 : World) => ∃ (t31 : Bool), e36 = Ending.returned (Value.bool
    t31) ∧ KeepX true w.heap.size [m25, m24, m13, m10, m9, m8, m3, m2, m1] (fun _ => False) w105 w106 ∧ (t31 = true → ∀ (w107 : World), RowKit.Below w.heap.size w w107 → Kept [m25,
    m24, m13, m10, m9, m8, m3, m2, m1] w106 w107 → Calls Try.prog 12 #[] w107 fun (e37 : Ending) (w108 : World) => ∃ (t32 : Bool), e37 = Ending.returned (Value.bool t32) ∧ KeepX
    true w.heap.size [m25, m24, m13, m10, m9, m8, m3, m2, m1] (fun _ => False) w107 w108 ∧ ∀ (w109 : World), RowKit.Below w.heap.size w w109 → Kept [m25, m24, m13, m10, m9, m8, m3,
    m2, m1] w108 w109 → R (Ending.returned (Value.bool t32)) w109) ∧ (t31 = false → ∀ (w110 : World), RowKit.Below w.heap.size w w110 → Kept [m25, m24, m13, m10, m9, m8, m3, m2,
    m1] w106 w110 → R (Ending.returned (Value.bool false)) w110)) ∧ (x11 ≠ 3 → ∀ (w111 : World), RowKit.Below w.heap.size w w111 → Kept [m25, m24, m13, m10, m9, m8, m3, m2, m1]
    w104 w111 → R (Ending.returned (Value.bool false)) w111)) ∧ ((!t30) = false → (-9223372036854775808 ≤ x21 - r1 ∧ x21 - r1 ≤ 9223372036854775807) ∧ (x2 < x21 - r1 → (x11 = 9 → ∀
    (w112 : World), RowKit.Below w.heap.size w w112 → Kept [m25, m24, m13, m10, m9, m8, m3, m2, m1] w104 w112 → Calls Try.prog 19 #[Value.agg #[Value.int IntKind.i64 x9, Value.int
    IntKind.i64 x10, Value.slice a3 m11 m12], Value.agg #[Value.int IntKind.i64 0, Value.int IntKind.i64 0, Value.slice none 0 0]] w112 fun (e38 : Ending) (w113 : World) => ∃ (t33
    : Bool), e38 = Ending.returned (Value.bool t33) ∧ KeepX true w.heap.size [m25, m24, m13, m10, m9, m8, m3, m2, m1] (fun _ => False) w112 w113 ∧ (t33 = true → ∀ (w114 : World),
    RowKit.Below w.heap.size w w114 → Kept [m25, m24, m13, m10, m9, m8, m3, m2, m1] w113 w114 → Calls Try.prog 12 #[] w114 fun (e39 : Ending) (w115 : World) => ∃ (t34 : Bool), e39
    = Ending.returned (Value.bool t34) ∧ KeepX true w.heap.size [m25, m24, m13, m10, m9, m8, m3, m2, m1] (fun _ => False) w114 w115 ∧ ∀ (w116 : World), RowKit.Below w.heap.size w
    w116 → Kept [m25, m24, m13, m10, m9, m8, m3, m2, m1] w115 w116 → R (Ending.returned (Value.bool t34)) w116) ∧ (t33 = false → ∀ (w117 : World), RowKit.Below w.heap.size w w117 →
    Kept [m25, m24, m13, m10, m9, m8, m3, m2, m1] w113 w117 → R (Ending.returned (Value.bool false)) w117)) ∧ (x11 ≠ 9 → ∀ (w118 : World), RowKit.Below w.heap.size w w118 → Kept
    [m25, m24, m13, m10, m9, m8, m3, m2, m1] w104 w118 → R (Ending.returned (Value.bool false)) w118)) ∧ (x21 - r1 ≤ x2 → (-9223372036854775808 ≤ x22 + r1 ∧ x22 + r1 ≤
    9223372036854775807) ∧ (x22 + r1 < x2 → (x11 = 9 → ∀ (w119 : World), RowKit.Below w.heap.size w w119 → Kept [m25, m24, m13, m10, m9, m8, m3, m2, m1] w104 w119 → Calls Try.prog
    19 #[Value.agg #[Value.int IntKind.i64 x9, Value.int IntKind.i64 x10, Value.slice a3 m11 m12], Value.agg #[Value.int IntKind.i64 0, Value.int IntKind.i64 0, Value.slice none 0
    0]] w119 fun (e40 : Ending) (w120 : World) => ∃ (t35 : Bool), e40 = Ending.returned (Value.bool t35) ∧ KeepX true w.heap.size [m25, m24, m13, m10, m9, m8, m3, m2, m1] (fun _ =>
    False) w119 w120 ∧ (t35 = true → ∀ (w121 : World), RowKit.Below w.heap.size w w121 → Kept [m25, m24, m13, m10, m9, m8, m3, m2, m1] w120 w121 → Calls Try.prog 12 #[] w121 fun
    (e41 : Ending) (w122 : World) => ∃ (t36 : Bool), e41 = Ending.returned (Value.bool t36) ∧ KeepX true w.heap.size [m25, m24, m13, m10, m9, m8, m3, m2, m1] (fun _ => False) w121
    w122 ∧ ∀ (w123 : World), RowKit.Below w.heap.size w w123 → Kept [m25, m24, m13, m10, m9, m8, m3, m2, m1] w122 w123 → R (Ending.returned (Value.bool t36)) w123) ∧ (t35 = false →
    ∀ (w124 : World), RowKit.Below w.heap.size w w124 → Kept [m25, m24, m13, m10, m9, m8, m3, m2, m1] w120 w124 → R (Ending.returned (Value.bool false)) w124)) ∧ (x11 ≠ 9 → ∀ (w125
    : World), RowKit.Below w.heap.size w w125 → Kept [m25, m24, m13, m10, m9, m8, m3, m2, m1] w104 w125 → R (Ending.returned (Value.bool false)) w125)) ∧ (x2 ≤ x22 + r1 → ∀ (w126 :
    World), RowKit.Below w.heap.size w w126 → Kept [m25, m24, m13, m10, m9, m8, m3, m2, m1] w104 w126 → Calls Try.prog 22 #[Value.agg #[Value.int IntKind.i64 r0, Value.int
    IntKind.i64 r1, Value.int IntKind.i64 r2, Value.int IntKind.i64 r3, Value.int IntKind.i64 r4, Value.slice r5a r5n r5c], Value.agg #[Value.int IntKind.i64 s0, Value.int
    IntKind.i64 s1, Value.slice s2a s2n s2c], Value.agg #[Value.int IntKind.i64 x0, Value.int IntKind.i64 x1], Value.agg #[Value.int IntKind.i64 x21, Value.int IntKind.i64 x22],
    Value.int IntKind.i64 x2] w126 fun (e42 : Ending) (w127 : World) => ∃ (x23 : Int), ∃ (x24 : Int), ∃ (a6 : Option Addr), ∃ (m26 : Nat), ∃ (m27 : Nat), ∃ (t37 : Bool), e42 =
    Ending.returned (Value.tuple #[Value.agg #[Value.int IntKind.i64 x23, Value.int IntKind.i64 x24, Value.slice a6 m26 m27], Value.bool t37]) ∧ KeepX true w.heap.size [m25, m24,
    m13, m10, m9, m8, m3, m2, m1] (fun _ => False) w126 w127 ∧ ∀ (m28 : Nat), w127.heap.size ≤ m28 → (x11 = x12 → ∀ (w128 : World), RowKit.Below w.heap.size w w128 → Kept [m28,
    m25, m24, m13, m10, m9, m8, m3, m2, m1] w127 w128 → Calls Try.prog 19 #[Value.agg #[Value.int IntKind.i64 x9, Value.int IntKind.i64 x10, Value.slice a3 m11 m12], Value.agg
    #[Value.int IntKind.i64 x23, Value.int IntKind.i64 x24, Value.slice a6 m26 m27]] w128 fun (e43 : Ending) (w129 : World) => ∃ (t38 : Bool), e43 = Ending.returned (Value.bool
    t38) ∧ KeepX true w.heap.size [m28, m25, m24, m13, m10, m9, m8, m3, m2, m1] (fun _ => False) w128 w129 ∧ (t38 = true → ∀ (w130 : World), RowKit.Below w.heap.size w w130 → Kept
    [m28, m25, m24, m13, m10, m9, m8, m3, m2, m1] w129 w130 → Calls Try.prog 12 #[] w130 fun (e44 : Ending) (w131 : World) => ∃ (t39 : Bool), e44 = Ending.returned (Value.bool t39)
    ∧ KeepX true w.heap.size [m28, m25, m24, m13, m10, m9, m8, m3, m2, m1] (fun _ => False) w130 w131 ∧ ∀ (w132 : World), RowKit.Below w.heap.size w w132 → Kept [m28, m25, m24,
    m13, m10, m9, m8, m3, m2, m1] w131 w132 → R (Ending.returned (Value.bool t39)) w132) ∧ (t38 = false → ∀ (w133 : World), RowKit.Below w.heap.size w w133 → Kept [m28, m25, m24,
    m13, m10, m9, m8, m3, m2, m1] w129 w133 → R (Ending.returned (Value.bool false)) w133)) ∧ (x11 ≠ x12 → ∀ (w134 : World), RowKit.Below w.heap.size w w134 → Kept [m28, m25, m24,
    m13, m10, m9, m8, m3, m2, m1] w127 w134 → R (Ending.returned (Value.bool false)) w134))))) ∧ (x12 ≠ 0 → (x11 = x12 → ∀ (w135 : World), RowKit.Below w.heap.size w w135 → Kept
    [m24, m13, m10, m9, m8, m3, m2, m1] w20 w135 → Calls Try.prog 19 #[Value.agg #[Value.int IntKind.i64 x9, Value.int IntKind.i64 x10, Value.slice a3 m11 m12], Value.agg
    #[Value.int IntKind.i64 0, Value.int IntKind.i64 0, Value.slice none 0 0]] w135 fun (e45 : Ending) (w136 : World) => ∃ (t40 : Bool), e45 = Ending.returned (Value.bool t40) ∧
    KeepX true w.heap.size [m24, m13, m10, m9, m8, m3, m2, m1] (fun _ => False) w135 w136 ∧ (t40 = true → ∀ (w137 : World), RowKit.Below w.heap.size w w137 → Kept [m24, m13, m10,
    m9, m8, m3, m2, m1] w136 w137 → Calls Try.prog 12 #[] w137 fun (e46 : Ending) (w138 : World) => ∃ (t41 : Bool), e46 = Ending.returned (Value.bool t41) ∧ KeepX true w.heap.size
    [m24, m13, m10, m9, m8, m3, m2, m1] (fun _ => False) w137 w138 ∧ ∀ (w139 : World), RowKit.Below w.heap.size w w139 → Kept [m24, m13, m10, m9, m8, m3, m2, m1] w138 w139 → R
    (Ending.returned (Value.bool t41)) w139) ∧ (t40 = false → ∀ (w140 : World), RowKit.Below w.heap.size w w140 → Kept [m24, m13, m10, m9, m8, m3, m2, m1] w136 w140 → R
    (Ending.returned (Value.bool false)) w140)) ∧ (x11 ≠ x12 → ∀ (w141 : World), RowKit.Below w.heap.size w w141 → Kept [m24, m13, m10, m9, m8, m3, m2, m1] w20 w141 → R
    (Ending.returned (Value.bool false)) w141)))))))) : Calls Try.prog 3 #[Value.agg #[Value.int IntKind.i64 r0, Value.int IntKind.i64 r1, Value.int IntKind.i64 r2, Value.int
    IntKind.i64 r3, Value.int IntKind.i64 r4, Value.slice r5a r5n r5c], Value.agg #[Value.int IntKind.i64 s0, Value.int IntKind.i64 s1, Value.slice s2a s2n s2c], Value.agg
    #[Value.int IntKind.i64 x0, Value.int IntKind.i64 x1, Value.int IntKind.i64 x2]] w R := calls_of_vc (pure := true) (wrapAt := []) (muts := []) (esc := []) (args := [SV.pv
    (PV.agg [Lf.int IntKind.i64 r0, Lf.int IntKind.i64 r1, Lf.int IntKind.i64 r2, Lf.int IntKind.i64 r3, Lf.int IntKind.i64 r4, Lf.sl r5a r5n r5c]), SV.pv (PV.agg [Lf.int
    IntKind.i64 s0, Lf.int IntKind.i64 s1, Lf.sl s2a s2n s2c]), SV.pv (PV.agg [Lf.int IntKind.i64 x0, Lf.int IntKind.i64 x1, Lf.int IntKind.i64 x2])]) (vs := [Value.agg #[Value.int
    IntKind.i64 r0, Value.int IntKind.i64 r1, Value.int IntKind.i64 r2, Value.int IntKind.i64 r3, Value.int IntKind.i64 r4, Value.slice r5a r5n r5c], Value.agg #[Value.int
    IntKind.i64 s0, Value.int IntKind.i64 s1, Value.slice s2a s2n s2c], Value.agg #[Value.int IntKind.i64 x0, Value.int IntKind.i64 x1, Value.int IntKind.i64 x2]]) Try.func3 rfl
    rfl rfl (Eq.mp (by kernel_rfl) h) 
end Go.Proofs
end
section
/- The documents' examples: values, and their calls. -/
namespace Go.Proofs.R07
open Go.Vc Go.RowKit Go.Proofs

def ClV (c : Cl) (a : Option Addr) (n : Nat) : Value := .agg #[I c.st.lo, I c.st.hi, .slice a c.st.used.length n, I c.visits, I c.turns, I c.weight]

theorem one_any (w : World) : Calls Try.prog 38 #[] w fun e w' => ∃ a c, e = .returned (oneR.v a c) ∧ Below w.heap.size w w' ∧ Cells w' a (spans oneR.ws) ∧ NewV w (spans oneR.ws) a := by
  refine vc38 w _ fun m1 h1 m2 h2 w1 hb1 hk1 hc1 => ⟨some ⟨m2, 0, none⟩, 1, rfl, hb1, Cells.obj (vs := [I 4, I 6]) hc1, .inr fun b o e => ?_⟩
  simp only [Option.some.injEq, Addr.mk.injEq, and_true] at e
  omega
theorem from_any (lo hi : Int) (u : Bool) (w : World) : Calls Try.prog 39 #[I lo, I hi, .bool u] w fun e w' => ∃ a c, e = .returned (St.v ⟨lo, hi, [u]⟩ a c) ∧ Below w.heap.size w w' ∧ Cells w' a (bools [u]) ∧ NewV w (bools [u]) a := by
  refine vc39 _ _ _ w _ fun m1 h1 m2 h2 w1 hb1 hk1 hc1 => ⟨some ⟨m2, 0, none⟩, 1, rfl, hb1, Cells.obj (vs := [.bool u]) hc1, .inr fun b o e => ?_⟩
  simp only [Option.some.injEq, Addr.mk.injEq, and_true] at e
  omega
def exCl (lo hi v t : Int) : Cl := ⟨⟨lo, hi, [false]⟩, v, t, -1⟩
theorem claim_any (lo hi v t : Int) (w : World) : Calls Try.prog 40 #[I lo, I hi, I v, I t] w fun e w' => ∃ a c, e = .returned (ClV (exCl lo hi v t) a c) ∧ Below w.heap.size w w' ∧ Cells w' a (bools [false]) ∧ NewV w (bools [false]) a := by
  refine vc40 _ _ _ _ w _ fun m1 h1 w1 hb1 hk1 => (from_any lo hi false w1).mono fun e w2 he => ?_
  obtain ⟨a, c, rfl, b2, A2, N2⟩ := he
  refine ⟨_, _, a, _, c, rfl, .all b2, fun w3 hb3 hk3 => ⟨a, c, rfl, hb3, cells_pass A2 hk3 N2 fun x hx => .inl (hk1.own x hx), N2.to hb1.size⟩⟩

theorem ex_start1 : startErr oneR ⟨8, 18, [false]⟩ = 0 := by decide +kernel
theorem ex_start2 : startErr oneR ⟨-6, -4, [false]⟩ = 0 := by decide +kernel
theorem ex_start3 : startErr oneR ⟨8, 18, [true]⟩ = 0 := by decide +kernel
theorem ex_f1 : fewestR oneR ⟨8, 18, [false]⟩ = (2, 0) := by
  have h : few oneR (setOf (St.mk 8 18 [false]).used) ((St.mk 8 18 [false]).lo, (St.mk 8 18 [false]).hi) = some 2 := ex_few0
  unfold fewestR; rw [if_neg (by rw [ex_start1]; decide), h]; rfl
theorem ex_f2 : fewestR oneR ⟨8, 18, [true]⟩ = (0, 7) := by
  have h : few oneR (setOf (St.mk 8 18 [true]).used) ((St.mk 8 18 [true]).lo, (St.mk 8 18 [true]).hi) = none := ex_few1
  unfold fewestR; rw [if_neg (by rw [ex_start3]; decide), h]
theorem ex_a1 : actR oneR ⟨8, 18, [false]⟩ = ((-2, -1), 0) := by
  have h : few oneR (setOf (St.mk 8 18 [false]).used) ((St.mk 8 18 [false]).lo, (St.mk 8 18 [false]).hi) = some (1 + 1) := ex_few0
  have h2 : firstAct oneR 1 (setOf (St.mk 8 18 [false]).used) ((St.mk 8 18 [false]).lo, (St.mk 8 18 [false]).hi) = some (-2, -1) := (firstAct_eq one_good (show 0 < 8 by omega)).trans ex_act
  unfold actR; rw [if_neg (by rw [ex_start1]; decide), h]
  simp only
  rw [h2]; rfl
theorem ex_few2 : (List.range 7).find? (fun n => enoughB oneR n 0 (-6, -4)) = some 1 := by decide +kernel
theorem ex_act2 : (acts oneR).find? (doesB oneR 0 0 (-6, -4)) = some (0, 0) := by decide +kernel
theorem ex_a2 : actR oneR ⟨-6, -4, [false]⟩ = ((0, 0), 0) := by
  have h0 : few oneR 0 (-6, -4) = some 1 := by rw [few_eq one_good (show okSp (-6, -4) from ⟨by decide, by decide, by decide⟩)]; exact ex_few2
  have h : few oneR (setOf (St.mk (-6) (-4) [false]).used) ((St.mk (-6) (-4) [false]).lo, (St.mk (-6) (-4) [false]).hi) = some (0 + 1) := h0
  have h2 : firstAct oneR 0 (setOf (St.mk (-6) (-4) [false]).used) ((St.mk (-6) (-4) [false]).lo, (St.mk (-6) (-4) [false]).hi) = some (0, 0) := (firstAct_eq one_good (show 0 < 8 by omega)).trans ex_act2
  unfold actR; rw [if_neg (by rw [ex_start2]; decide), h]
  simp only
  rw [h2]; rfl
theorem ex_after : afterR oneR ⟨8, 18, [false]⟩ (-2, -1) 3 = (⟨2, 2, [false]⟩, 0) := by kernel_rfl
theorem ex_p1 : provesR oneR [exCl 8 10 1 (-1), exCl (-2) 0 0 0, exCl 0 2 0 0] = (0, 0) := by decide +kernel
theorem ex_p2 : provesR oneR [exCl 8 10 1 (-1), exCl (-2) 0 0 0, exCl 0 2 0 0, exCl (-1) 1 0 0] = (-1, 0) := by decide +kernel
end Go.Proofs.R07
end
section
/- The documents' examples, called. -/
namespace Go.Proofs.R07
open Go.Vc Go.RowKit Go.Proofs

/-- What a slice holds, in none of some blocks. -/
def Held (bs : List Nat) (w : World) (a : Option Addr) (vs : List Value) : Prop := ∀ i v, vs[i]? = some v → ∃ b o, a = some ⟨b, o, none⟩ ∧ b ∉ bs ∧ w.cell? ⟨b, o + i, none⟩ = some v
section
variable {bs : List Nat} {w w' u : World} {a : Option Addr} {vs : List Value}
theorem Held.cells (h : Held bs w a vs) : Cells w a vs := fun i v hi => by obtain ⟨b, o, e, _, hc⟩ := h i v hi; exact ⟨b, o, e, hc⟩
theorem Held.new (h : Cells w a vs) (hn : NewV u vs a) (hb : ∀ x ∈ bs, x < u.heap.size) : Held bs w a vs := fun i v hi => by
  obtain ⟨b, o, e, hc⟩ := h i v hi
  refine ⟨b, o, e, fun hm => ?_, hc⟩
  rcases hn with rfl | hn
  · simp at hi
  · have := hn b o e; have := hb b hm; omega
theorem Held.chg (h : Held bs w a vs) (hc : Chg bs w w') : Held bs w' a vs := fun i v hi => by
  obtain ⟨b, o, e, hb, hv⟩ := h i v hi; exact ⟨b, o, e, hb, hc.cell hb hv⟩
theorem Held.kept (h : Held bs w a vs) (hc : Kept bs w w') : Held bs w' a vs := h.chg (Chg.kept hc)
theorem Held.below (h : Held bs w a vs) (hb : Below w.heap.size w w') : Held bs w' a vs := h.chg (Chg.of_below hb)
theorem Held.push (h : Held bs w a vs) {m : Nat} (hm : w.heap.size ≤ m) : Held (m :: bs) w a vs := fun i v hi => by
  obtain ⟨b, o, e, hb, hv⟩ := h i v hi
  exact ⟨b, o, e, fun hx => by
    rcases List.mem_cons.1 hx with rfl | hx
    · have := cell_lt hv; omega
    · exact hb hx, hv⟩
end
theorem ClsAt.of {w : World} {l : List ClM} (h : ∀ x ∈ l, Cells w x.2.1 (bools x.1.st.used)) {b : Nat} {T : TypeId} (hr : w.heap[b]? = some (.cells (l.flatMap clV).toArray T (0, 0))) : ClsAt w (some ⟨b, 0, none⟩) l := ⟨Cells.obj hr, h⟩

set_option maxRecDepth 100000 in
set_option maxHeartbeats 4000000 in
theorem known_any (w : World) : Calls Try.prog 12 #[] w (Pure w (.bool true)) := by
  refine vc12 w _ fun w1 B1 k1 => ?_
  refine (one_any w1).mono fun e w2 he => ?_
  obtain ⟨a1, c1, rfl, b2, A2, N2⟩ := he
  refine ⟨_, _, _, _, _, a1, _, c1, rfl, .all b2, fun w3 B3 k3 => ?_⟩
  have A3 := (Held.new A2 N2 k1.own).kept k3
  refine (from_any 8 18 false w3).mono fun e w4 he => ?_
  obtain ⟨a3, c3, rfl, b4, D4, M4⟩ := he
  refine ⟨_, _, a3, _, c3, rfl, .all b4, fun w5 B5 k5 => ?_⟩
  have A5 := (A3.below b4).kept k5
  have D5 := (Held.new D4 M4 k3.own).kept k5
  refine Pure.calls (fewest_any oneR ⟨8, 18, [false]⟩ A5.cells D5.cells) fun w6 b6 => ?_
  rw [ex_f1]
  refine ⟨_, _, rfl, .all b6, fun w7 B7 k7 => ?_⟩
  refine (one_any w7).mono fun e w8 he => ?_
  obtain ⟨a7, c7, rfl, b8, A8, N8⟩ := he
  refine ⟨_, _, _, _, _, a7, _, c7, rfl, .all b8, fun w9 B9 k9 => ?_⟩
  have A9 := (Held.new A8 N8 k7.own).kept k9
  refine (from_any 8 18 false w9).mono fun e w10 he => ?_
  obtain ⟨a9, c9, rfl, b10, D10, M10⟩ := he
  refine ⟨_, _, a9, _, c9, rfl, .all b10, fun w11 B11 k11 => ?_⟩
  have A11 := (A9.below b10).kept k11
  have D11 := (Held.new D10 M10 k9.own).kept k11
  refine Pure.calls (actOf_any oneR ⟨8, 18, [false]⟩ A11.cells D11.cells) fun w12 b12 => ?_
  rw [ex_a1]
  refine ⟨_, _, _, rfl, .all b12, fun m9 h9 w13 B13 k13 => ?_⟩
  refine (one_any w13).mono fun e w14 he => ?_
  obtain ⟨a13, c13, rfl, b14, A14, N14⟩ := he
  refine ⟨_, _, _, _, _, a13, _, c13, rfl, .all b14, fun w15 B15 k15 => ?_⟩
  have A15 := (Held.new A14 N14 k13.own).kept k15
  refine (from_any (-6) (-4) false w15).mono fun e w16 he => ?_
  obtain ⟨a15, c15, rfl, b16, D16, M16⟩ := he
  refine ⟨_, _, a15, _, c15, rfl, .all b16, fun w17 B17 k17 => ?_⟩
  have A17 := (A15.below b16).kept k17
  have D17 := (Held.new D16 M16 k15.own).kept k17
  refine Pure.calls (actOf_any oneR ⟨-6, -4, [false]⟩ A17.cells D17.cells) fun w18 b18 => ?_
  rw [ex_a2]
  refine ⟨_, _, _, rfl, .all b18, fun m14 h14 w19 B19 k19 => ?_⟩
  refine (one_any w19).mono fun e w20 he => ?_
  obtain ⟨a19, c19, rfl, b20, A20, N20⟩ := he
  refine ⟨_, _, _, _, _, a19, _, c19, rfl, .all b20, fun w21 B21 k21 => ?_⟩
  have A21 := (Held.new A20 N20 k19.own).kept k21
  refine (from_any 8 18 true w21).mono fun e w22 he => ?_
  obtain ⟨a21, c21, rfl, b22, D22, M22⟩ := he
  refine ⟨_, _, a21, _, c21, rfl, .all b22, fun w23 B23 k23 => ?_⟩
  have A23 := (A21.below b22).kept k23
  have D23 := (Held.new D22 M22 k21.own).kept k23
  refine Pure.calls (fewest_any oneR ⟨8, 18, [true]⟩ A23.cells D23.cells) fun w24 b24 => ?_
  rw [ex_f2]
  refine ⟨_, _, rfl, .all b24, fun w25 B25 k25 => ?_⟩
  refine (one_any w25).mono fun e w26 he => ?_
  obtain ⟨a25, c25, rfl, b26, A26, N26⟩ := he
  refine ⟨_, _, _, _, _, a25, _, c25, rfl, .all b26, fun w27 B27 k27 => ?_⟩
  have A27 := (Held.new A26 N26 k25.own).kept k27
  refine (from_any 8 18 false w27).mono fun e w28 he => ?_
  obtain ⟨a27, c27, rfl, b28, D28, M28⟩ := he
  refine ⟨_, _, a27, _, c27, rfl, .all b28, fun w29 B29 k29 => ?_⟩
  have A29 := (A27.below b28).kept k29
  have D29 := (Held.new D28 M28 k27.own).kept k29
  refine (after_any oneR ⟨8, 18, [false]⟩ A29.cells D29.cells (-2, -1) 3).mono fun e w30 he => ?_
  rw [ex_after] at he
  obtain ⟨aF, cF, rfl, b30, F30', NF⟩ := he
  have F30 : Held [m14, m9] w30 aF (bools [false]) := Held.new F30' (.inr NF) k29.own
  refine ⟨_, _, aF, _, cF, _, rfl, .all b30, fun m25 h25 w31 B31 k31 => ?_⟩
  have F31 := (F30.push h25).kept k31
  refine (one_any w31).mono fun e w32 he => ?_
  obtain ⟨a31, c31, rfl, b32, A32, N32⟩ := he
  refine ⟨_, _, _, _, _, a31, _, c31, rfl, .all b32, fun w33 B33 k33 => ?_⟩
  have F33 := (F31.below b32).kept k33
  have A33 := (Held.new A32 N32 k31.own).kept k33
  refine (claim_any 8 10 1 (-1) w33).mono fun e w34 he => ?_
  obtain ⟨a33, c33, rfl, b34, G34, P34⟩ := he
  refine ⟨_, _, a33, _, c33, _, _, _, rfl, .all b34, fun w35 B35 k35 => ?_⟩
  have F35 := (F33.below b34).kept k35
  have A35 := (A33.below b34).kept k35
  have G35 := (Held.new G34 P34 k33.own).kept k35
  refine (claim_any (-2) 0 0 0 w35).mono fun e w36 he => ?_
  obtain ⟨a35, c35, rfl, b36, H36, Q36⟩ := he
  refine ⟨_, _, a35, _, c35, _, _, _, rfl, .all b36, fun w37 B37 k37 => ?_⟩
  have F37 := (F35.below b36).kept k37
  have A37 := (A35.below b36).kept k37
  have G37 := (G35.below b36).kept k37
  have H37 := (Held.new H36 Q36 k35.own).kept k37
  refine (claim_any 0 2 0 0 w37).mono fun e w38 he => ?_
  obtain ⟨a37, c37, rfl, b38, J38, S38⟩ := he
  refine ⟨_, _, a37, _, c37, _, _, _, rfl, .all b38, fun m34 h34 w39 B39 k39 o39 => ?_⟩
  have F39 := ((F37.below b38).push h34).kept k39
  have A39 := ((A37.below b38).push h34).kept k39
  have G39 := ((G37.below b38).push h34).kept k39
  have H39 := ((H37.below b38).push h34).kept k39
  have J39 := ((Held.new J38 S38 k37.own).push h34).kept k39
  refine Pure.calls (proves_any oneR (c := c31) A39.cells (la := some ⟨m34, 0, none⟩) (lc := 3) (l := [(exCl 8 10 1 (-1), a33, c33), (exCl (-2) 0 0 0, a35, c35), (exCl 0 2 0 0, a37, c37)]) (ClsAt.of (fun x hx => by
    simp only [List.mem_cons, List.not_mem_nil, or_false] at hx
    rcases hx with rfl | rfl | rfl
    · exact G39.cells
    · exact H39.cells
    · exact J39.cells) o39) (by simp)) fun w40 b40 => ?_
  rw [show List.map (fun x : ClM => x.1) [(exCl 8 10 1 (-1), a33, c33), (exCl (-2) 0 0 0, a35, c35), (exCl 0 2 0 0, a37, c37)] = [exCl 8 10 1 (-1), exCl (-2) 0 0 0, exCl 0 2 0 0] from rfl, ex_p1]
  refine ⟨_, _, rfl, .all b40, fun w41 B41 k41 => ?_⟩
  have F41 := (F39.below b40).kept k41
  refine (one_any w41).mono fun e w42 he => ?_
  obtain ⟨a41, c41, rfl, b42, A42, N42⟩ := he
  refine ⟨_, _, _, _, _, a41, _, c41, rfl, .all b42, fun w43 B43 k43 => ?_⟩
  have F43 := (F41.below b42).kept k43
  have A43 := (Held.new A42 N42 k41.own).kept k43
  refine (claim_any 8 10 1 (-1) w43).mono fun e w44 he => ?_
  obtain ⟨a43, c43, rfl, b44, G44, P44⟩ := he
  refine ⟨_, _, a43, _, c43, _, _, _, rfl, .all b44, fun w45 B45 k45 => ?_⟩
  have F45 := (F43.below b44).kept k45
  have A45 := (A43.below b44).kept k45
  have G45 := (Held.new G44 P44 k43.own).kept k45
  refine (claim_any (-2) 0 0 0 w45).mono fun e w46 he => ?_
  obtain ⟨a45, c45, rfl, b46, H46, Q46⟩ := he
  refine ⟨_, _, a45, _, c45, _, _, _, rfl, .all b46, fun w47 B47 k47 => ?_⟩
  have F47 := (F45.below b46).kept k47
  have A47 := (A45.below b46).kept k47
  have G47 := (G45.below b46).kept k47
  have H47 := (Held.new H46 Q46 k45.own).kept k47
  refine (claim_any 0 2 0 0 w47).mono fun e w48 he => ?_
  obtain ⟨a47, c47, rfl, b48, J48, S48⟩ := he
  refine ⟨_, _, a47, _, c47, _, _, _, rfl, .all b48, fun w49 B49 k49 => ?_⟩
  have F49 := (F47.below b48).kept k49
  have A49 := (A47.below b48).kept k49
  have G49 := (G47.below b48).kept k49
  have H49 := (H47.below b48).kept k49
  have J49 := (Held.new J48 S48 k47.own).kept k49
  refine (claim_any (-1) 1 0 0 w49).mono fun e w50 he => ?_
  obtain ⟨a49, c49, rfl, b50, L50, T50⟩ := he
  refine ⟨_, _, a49, _, c49, _, _, _, rfl, .all b50, fun m45 h45 w51 B51 k51 o51 => ?_⟩
  have F51 := ((F49.below b50).push h45).kept k51
  have A51 := ((A49.below b50).push h45).kept k51
  have G51 := ((G49.below b50).push h45).kept k51
  have H51 := ((H49.below b50).push h45).kept k51
  have J51 := ((J49.below b50).push h45).kept k51
  have L51 := ((Held.new L50 T50 k49.own).push h45).kept k51
  refine Pure.calls (proves_any oneR (c := c41) A51.cells (la := some ⟨m45, 0, none⟩) (lc := 4) (l := [(exCl 8 10 1 (-1), a43, c43), (exCl (-2) 0 0 0, a45, c45), (exCl 0 2 0 0, a47, c47), (exCl (-1) 1 0 0, a49, c49)]) (ClsAt.of (fun x hx => by
    simp only [List.mem_cons, List.not_mem_nil, or_false] at hx
    rcases hx with rfl | rfl | rfl | rfl
    · exact G51.cells
    · exact H51.cells
    · exact J51.cells
    · exact L51.cells) o51) (by simp)) fun w52 b52 => ?_
  rw [show List.map (fun x : ClM => x.1) [(exCl 8 10 1 (-1), a43, c43), (exCl (-2) 0 0 0, a45, c45), (exCl 0 2 0 0, a47, c47), (exCl (-1) 1 0 0, a49, c49)] = [exCl 8 10 1 (-1), exCl (-2) 0 0 0, exCl 0 2 0 0, exCl (-1) 1 0 0] from rfl, ex_p2]
  have F52 := F51.below b52
  refine ⟨_, _, rfl, .all b52, fun h => absurd rfl h, fun _ => ⟨fun h => absurd rfl h, fun _ => ⟨fun h => absurd rfl h, fun _ => ⟨fun h => absurd rfl h, fun _ => ⟨fun h => absurd rfl h, fun _ => ⟨fun h => absurd rfl h, fun _ => ⟨fun h => absurd rfl h, fun _ => ⟨fun _ w60 B60 k60 => ?_, fun h => absurd rfl h⟩⟩⟩⟩⟩⟩⟩⟩
  refine eql_act ⟨_, rfl, .all (.refl _ _), fun _ w62 B62 k62 => eql_act ⟨_, rfl, .all (.refl _ _), fun _ w64 B64 k64 => ?_, fun h => absurd h (by decide)⟩, fun h => absurd h (by decide)⟩
  have F64 := ((F52.chg (chg_in k60)).chg (chg_in k62)).chg (chg_in k64)
  refine (from_any 2 2 false w64).mono fun e w65 he => ?_
  obtain ⟨a64, c64, rfl, b65, E65, U65⟩ := he
  refine ⟨_, _, a64, _, c64, rfl, .all b65, fun w66 B66 k66 => ?_⟩
  have F66 := (F64.below b65).chg (chg_in k66)
  refine Pure.calls (same_any ⟨2, 2, [false]⟩ ⟨2, 2, [false]⟩ F66.cells ((Held.new E65 U65 k64.own).chg (chg_in k66)).cells (by decide)) fun w67 b67 => ⟨_, rfl, .all b67, fun _ => ⟨fun _ w68 B68 k68 => ⟨rfl, B68⟩, fun h => absurd rfl h⟩, fun h => ?_⟩
  simp at h
end Go.Proofs.R07
end
section
/- RateAfters: the walk. -/
namespace Go.Proofs.R07
open Go.Vc Go.RowKit Go.Proofs

/-- In which blocks a slice may lie. -/
def Rng (lo hi : Nat) (vs : List Value) (a : Option Addr) : Prop := vs = [] ∨ ∀ b o, a = some ⟨b, o, none⟩ → lo ≤ b ∧ b < hi
section
variable {bs : List Nat} {w w' u : World} {a : Option Addr} {vs : List Value} {lo hi : Nat}
theorem Rng.of (h : Cells w a vs) (hn : NewV u vs a) : Rng u.heap.size w.heap.size vs a := by
  rcases hn with hn | hn
  · exact .inl hn
  · by_cases h0 : vs = []
    · exact .inl h0
    · refine .inr fun b o e => ⟨hn b o e, ?_⟩
      obtain ⟨b', o', e', hc⟩ := h 0 _ (List.getElem?_eq_getElem (List.length_pos_iff.2 h0))
      rw [e] at e'
      simp only [Option.some.injEq, Addr.mk.injEq, and_true] at e'
      rw [e'.1]; exact cell_lt hc
theorem Rng.cells (hr : Rng lo hi vs a) (h : Cells w a vs) (hk : Chg bs w w') (hb : ∀ x ∈ bs, x < lo ∨ hi ≤ x) : Cells w' a vs := fun i v hi => by
  obtain ⟨b, o, e, hc⟩ := h i v hi
  refine ⟨b, o, e, hk.cell (fun hm => ?_) hc⟩
  rcases hr with rfl | hr
  · simp at hi
  · have := hr b o e; have := hb b hm; omega
theorem Rng.kin (hr : Rng lo hi vs a) (h : Cells w a vs) {rs : List (Nat × Nat)} (hk : KeptIn rs bs w w') (hb : ∀ x ∈ bs, x < lo ∨ hi ≤ x) (hin : ∃ r ∈ rs, r.1 ≤ lo ∧ hi ≤ r.2) : Cells w' a vs := fun i v hi => by
  obtain ⟨b, o, e, hc⟩ := h i v hi
  refine ⟨b, o, e, ?_⟩
  rcases hr with rfl | hr
  · simp at hi
  · have h1 := hr b o e
    obtain ⟨r, hr1, hr2, hr3⟩ := hin
    have := hk.block b (cell_lt hc) (fun hm => by have := hb b hm; omega) ⟨r, hr1, by omega, by omega⟩
    unfold World.cell? at hc ⊢
    simp only [this]; exact hc
end

/-- The law's end: the same states, and the examples. -/
theorem tail_any {bs : List Nat} {w w' : World} {x y : St} {a b : Option Addr} {c d : Nat} (ha : Cells w' a (bools x.used)) (hb : Cells w' b (bools y.used)) (hn : (x.used.length : Int) ≤ 9223372036854775807) (hxy : x = y) :
    Calls Try.prog 19 #[x.v a c, y.v b d] w' fun e1 w1 => ∃ t : Bool, e1 = .returned (.bool t) ∧ KeepX true w.heap.size bs (fun _ => False) w' w1 ∧
      (t = true → ∀ w2 : World, Below w.heap.size w w2 → Kept bs w1 w2 → Calls Try.prog 12 #[] w2 fun e2 w3 => ∃ t2 : Bool, e2 = .returned (.bool t2) ∧ KeepX true w.heap.size bs (fun _ => False) w2 w3 ∧
        ∀ w4 : World, Below w.heap.size w w4 → Kept bs w3 w4 → Pure w (.bool true) (.returned (.bool t2)) w4) ∧
      (t = false → ∀ w5 : World, Below w.heap.size w w5 → Kept bs w1 w5 → Pure w (.bool true) (.returned (.bool false)) w5) := by
  refine Pure.calls (same_any x y ha hb hn) fun w1 hb1 => ⟨_, rfl, .all hb1, fun _ w2 hb2 _ => Pure.calls (known_any w2) fun w3 hb3 => ⟨_, rfl, .all hb3, fun w4 hb4 _ => ⟨rfl, hb4⟩⟩, fun h => ?_⟩
  simp [hxy] at h

theorem has_put {u i j : Nat} : has (put u i) j = (has u j || decide (i = j)) := by
  unfold has put
  rw [Nat.testBit_or, Nat.testBit_two_pow]
theorem move_next {r : Rules} (hr : Good r) {s : St} (hl : s.used.length = r.ws.length) {p : Sp} {x y : Int} {mu : Nat} {sp : Sp} (hm : move r sp (setOf s.used) (x, y) = some (p, mu)) :
    y < s.used.length ∧ (List.range s.used.length).map (has mu) = if 0 ≤ y then s.used.set y.toNat true else s.used := by
  have same : (List.range s.used.length).map (has (setOf s.used)) = s.used := by
    apply List.ext_getElem
    · simp
    · intro i h1 h2
      simp [has_setOf h2]
  unfold move at hm
  split at hm
  · cases hm
  · rename_i q hq
    split at hm
    · simp only [Option.some.injEq, Prod.mk.injEq] at hm
      obtain ⟨_, rfl⟩ := hm
      unfold shift at hq
      split at hq
      · rename_i hy
        simp only at hy
        subst hy
        refine ⟨by omega, ?_⟩
        rw [if_pos rfl, same, if_neg (by omega)]
      · rename_i hy
        simp only at hy
        split at hq
        · rename_i hh
          obtain ⟨h0, h1, h2, h3⟩ := hh
          simp only at h0 h1
          refine ⟨by omega, ?_⟩
          simp only [if_neg hy]
          rw [if_pos h0]
          apply List.ext_getElem
          · simp
          · intro i g1 g2
            have hi : i < s.used.length := by simpa using g1
            simp only [List.getElem_map, List.getElem_range, has_put, has_setOf hi, List.getElem_set]
            by_cases e : y.toNat = i
            · rw [if_pos e, decide_eq_true e, Bool.or_true]
            · rw [if_neg e, decide_eq_false e, Bool.or_false]
        · cases hq
    · cases hm

set_option maxRecDepth 100000 in
set_option maxHeartbeats 4000000 in
theorem afters_any (r : Rules) (s : St) {a b : Option Addr} {c d : Nat} {w : World} (hc : Cells w a (spans r.ws)) (hs : Cells w b (bools s.used)) (x0 x1 x2 : Int) :
    Calls Try.prog 3 #[r.v a c, s.v b d, .agg #[I x0, I x1, I x2]] w (Pure w (.bool true)) := by
  refine vc3 _ _ _ _ _ _ _ _ _ _ _ _ _ _ _ _ w _ fun m1 g1 m2 g2 m3 g3 w1 B1 k1 => ?_
  refine Pure.calls (long_any r s) fun w2 b2 => ⟨_, rfl, .all b2, fun _ w3 B3 k3 => Pure.calls (known_any w3) fun w4 b4 => ⟨_, rfl, .all b4, fun w5 B5 k5 => ⟨rfl, B5⟩⟩, fun hlong w6 B6 k6 => ?_⟩
  have hlen : r.ws.length ≤ 10 ∧ s.used.length ≤ 10 := by
    simp [longR] at hlong; omega
  refine (copied_any r (hc.keep B6) (by omega)).mono fun e w7 he => ?_
  obtain ⟨a1, c1, rfl, b7, A7, _, N1⟩ := he
  have R1 := Rng.of A7 N1
  refine ⟨_, _, _, _, _, a1, _, c1, rfl, b7, fun w8 B8 k8 => ?_⟩
  have o1 := k1.own m1 (by simp)
  have o2 := k1.own m2 (by simp)
  have o3 := k1.own m3 (by simp)
  have z2 := b2.size
  have z6 := k6.size
  have z7 := b7.size
  have z8 := k8.size
  have A8 := R1.kin A7 k8 (by simp; omega) ⟨(w6.heap.size, w7.heap.size), by simp, Nat.le_refl _, Nat.le_refl _⟩
  refine (state_any s (hs.keep B8) (by omega)).mono fun e w9 he => ?_
  obtain ⟨a2, c2, rfl, b9, D9, _, N2⟩ := he
  have R2 := Rng.of D9 N2
  have z9 := b9.size
  refine ⟨_, _, a2, _, c2, rfl, b9, fun m8 e8 f8 i8 m9 e9 f9 i9 m10 e10 f10 i10 w10 B10 k10 => ?_⟩
  have z10 := k10.size
  have A10 := R1.cells (A8.keep b9) (Chg.kept k10) (by simp; omega)
  have D10 := R2.cells D9 (Chg.kept k10) (by simp; omega)
  refine Pure.calls (check_any r A10) fun w11 b11 => ⟨_, rfl, .all b11, fun w12 B12 k12 => ?_⟩
  have A12 := R1.cells (A10.keep b11) (Chg.kept k12) (by simp; omega)
  have D12 := R2.cells (D10.keep b11) (Chg.kept k12) (by simp; omega)
  have z11 := b11.size
  have z12 := k12.size
  have q1 := k12.own m1 (by simp)
  have q2 := k12.own m2 (by simp)
  have q3 := k12.own m3 (by simp)
  have q8 := k12.own m8 (by simp)
  have q9 := k12.own m9 (by simp)
  have q10 := k12.own m10 (by simp)
  refine (after_any r s A12 D12 (x0, x1) x2).mono fun e w13 he => ?_
  obtain ⟨a3, c3, rfl, b13, F13, NF⟩ := he
  have R3 := Rng.of F13 (.inr NF)
  have z13 := b13.size
  refine ⟨_, _, a3, _, c3, _, rfl, .all b13, fun m13 g13 w14 B14 k14 => ?_⟩
  have z14 := k14.size
  have A14 := R1.cells (A12.keep b13) (Chg.kept k14) (by simp; omega)
  have D14 := R2.cells (D12.keep b13) (Chg.kept k14) (by simp; omega)
  have F14 := R3.cells F13 (Chg.kept k14) (by simp; omega)
  refine Pure.calls (refCheck_any r (hc.keep B14)) fun w15 b15 => ⟨_, rfl, .all b15, fun w16 B16 k16 => ?_⟩
  have z15 := b15.size
  have z16 := k16.size
  have A16 := R1.cells (A14.keep b15) (Chg.kept k16) (by simp; omega)
  have D16 := R2.cells (D14.keep b15) (Chg.kept k16) (by simp; omega)
  have F16 := R3.cells (F14.keep b15) (Chg.kept k16) (by simp; omega)
  refine Pure.calls (equal_any r r A16 (hc.keep B16) (by omega)) fun w17 b17 => ⟨_, rfl, .all b17, fun h => by simp at h, fun _ w19 B19 k19 => ?_⟩
  have z17 := b17.size
  have z19 := k19.size
  have D19 := R2.cells (D16.keep b17) (Chg.kept k19) (by simp; omega)
  have F19 := R3.cells (F16.keep b17) (Chg.kept k19) (by simp; omega)
  refine Pure.calls (same_any s s D19 (hs.keep B19) (by omega)) fun w20 b20 => ⟨_, rfl, .all b20, fun h => by simp at h, fun _ => ?_⟩
  have z20 := b20.size
  have F20 := F19.keep b20
  have no : ∀ n, afterR r s (x0, x1) x2 = (⟨0, 0, []⟩, n) → ∀ {bs : List Nat} {w' : World}, Cells w' a3 (bools (afterR r s (x0, x1) x2).1.used) → _ := fun n he {bs} {w'} hcl => tail_any (bs := bs) (w := w) (x := (afterR r s (x0, x1) x2).1) (y := ⟨0, 0, []⟩) (a := a3) (b := none) (c := c3) (d := 0) hcl Cells.nil (by rw [he]; simp) (by rw [he])
  refine ⟨fun h => absurd rfl h, fun _ => ⟨fun hck => ?_, fun hck m24 g24 => ⟨fun h => absurd h hck, fun _ => ?_⟩⟩⟩
  · refine fun w23 B23 k23 => Pure.calls (refState_any r s) fun w24 b24 => ⟨_, rfl, .all b24, fun hst m14 g14 => ⟨fun h => absurd h (by decide), fun _ => ?_⟩, fun hst m19 g19 => ⟨fun _ w64 B64 k64 => ?_, fun h => absurd hck h⟩⟩
    · have he : afterR r s (x0, x1) x2 = (⟨0, 0, []⟩, 2) := by
        have : startErr r s = 2 := by unfold startErr; rw [if_pos hck, if_neg (by simpa using hst)]
        unfold afterR; rw [this]; rfl
      have z23 := k23.size
      have z24 := b24.size
      exact ⟨fun _ w57 B57 k57 => no _ he (R3.cells ((R3.cells F20 (Chg.kept k23) (by simp; omega)).keep b24) (Chg.kept k57) (by simp; omega)), fun h => absurd (by rw [he]) h⟩
    · have z23 := k23.size
      have z24 := b24.size
      have z64 := k64.size
      have F64 := R3.cells ((R3.cells F20 (Chg.kept k23) (by simp; omega)).keep b24) (Chg.kept k64) (by simp; omega)
      have hse : startErr r s = 0 := by unfold startErr; rw [if_pos hck, if_pos (by simpa using hst)]
      obtain ⟨hr, hsp, hul⟩ := okSt_of hse
      refine (image_any hr hsp hul (hc.keep B64) (hs.keep B64) x0 x1).mono fun e w65 he => ?_
      obtain ⟨lo, hi, rfl, b65, himg, _⟩ := he
      have z65 := b65.size
      refine ⟨_, _, _, rfl, .all b65, fun m20 g20 => ⟨fun hmv => ?_, fun hmv => ?_⟩⟩
      · have he : afterR r s (x0, x1) x2 = (⟨0, 0, []⟩, 3) := by
          unfold afterR; rw [if_neg (by omega)]
          cases hm : move r (s.lo, s.hi) (setOf s.used) (x0, x1) with
          | none => rfl
          | some q => rw [hm] at hmv; cases hmv
        exact ⟨fun _ w66 B66 k66 => no _ he (R3.cells (F64.keep b65) (Chg.kept k66) (by simp; omega)), fun h => absurd (by rw [he]) h⟩
      · cases hm : move r (s.lo, s.hi) (setOf s.used) (x0, x1) with
        | none => rw [hm] at hmv; cases hmv
        | some q =>
          obtain ⟨q, mu⟩ := q
          obtain rfl : q = (lo, hi) := himg _ hm
          have hu : setOf s.used < 8 := setOf_lt (by have := hr.1; omega)
          obtain ⟨hmu, hq1, hq2, hq3⟩ := move_facts hr hu hm
          simp only at hq1 hq2 hq3
          have herr := hr.2.2.1
          have hval : afterR r s (x0, x1) x2 = if within (lo - r.err) (hi + r.err) [x2] then (⟨max lo (x2 - r.err), min hi (x2 + r.err), (List.range s.used.length).map (has mu)⟩, 0) else (⟨0, 0, []⟩, 9) := by
            unfold afterR; rw [if_neg (by omega), hm]
          have hno : ¬ (lo - r.err ≤ x2 ∧ x2 ≤ hi + r.err) → afterR r s (x0, x1) x2 = (⟨0, 0, []⟩, 9) := fun h => by
            rw [hval, if_neg fun hh => h ((within_one _ _ _).1 hh)]
          refine ⟨by omega, fun hlo => ⟨fun _ w73 B73 k73 => no _ (hno (by omega)) (R3.cells (F64.keep b65) (Chg.kept k73) (by simp; omega)), fun h => absurd (by rw [hno (by omega)]) h⟩, fun hlo => ⟨by omega, fun hhi => ⟨fun _ w80 B80 k80 => no _ (hno (by omega)) (R3.cells (F64.keep b65) (Chg.kept k80) (by simp; omega)), fun h => absurd (by rw [hno (by omega)]) h⟩, fun hhi w87 B87 k87 => ?_⟩⟩
          obtain ⟨hx1, hset⟩ := move_next hr hul hm
          refine (next_any r s (hs.keep B87) (by omega) x0 x1 hx1 (lo, hi) x2 (by omega) (by omega) (by omega) (by omega)).mono fun e w88 he => ?_
          obtain ⟨a4, c4, rfl, b88, G88, _, N4⟩ := he
          have R4 := Rng.of G88 N4
          have z88 := b88.size
          have z87 := k87.size
          have hv : afterR r s (x0, x1) x2 = (nextR r s x1 (lo, hi) x2, 0) := by
            rw [hval, if_pos ((within_one _ _ _).2 ⟨by omega, by omega⟩), hset]; rfl
          have u1 := k87.own m1 (by simp)
          have u2 := k87.own m2 (by simp)
          have u3 := k87.own m3 (by simp)
          have u8 := k87.own m8 (by simp)
          have u9 := k87.own m9 (by simp)
          have u10 := k87.own m10 (by simp)
          have u13 := k87.own m13 (by simp)
          have u19 := k87.own m19 (by simp)
          have u20 := k87.own m20 (by simp)
          refine ⟨_, _, a4, _, c4, _, rfl, .all b88, fun m28 g28 => ⟨fun _ w89 B89 k89 => ?_, fun h => absurd (by rw [hv, hck]) h⟩⟩
          refine tail_any (R3.cells ((R3.cells (F64.keep b65) (Chg.kept k87) (by simp; omega)).keep b88) (Chg.kept k89) (by simp; omega)) (R4.cells G88 (Chg.kept k89) (by simp; omega)) ?_ (by rw [hv])
          rw [hv]
          simp only [nextR]
          split
          · rw [List.length_set]; omega
          · omega
  · have he : afterR r s (x0, x1) x2 = (⟨0, 0, []⟩, check r) := by
      have : startErr r s = check r := by unfold startErr; rw [if_neg hck]
      unfold afterR; rw [this, if_pos hck]
    exact ⟨fun _ w57 B57 k57 => no _ he (R3.cells F20 (Chg.kept k57) (by simp; omega)), fun h => absurd (by rw [he]) h⟩
end Go.Proofs.R07
end
section
/- The laws' arguments, opened. -/
namespace Go.Proofs.R07
open Go.Vc Go.RowKit Go.Proofs

theorem Try.own : ownKnob Try.prog.godebug = none := by kernel_rfl
theorem Try.laidOut : laidOutB Try.prog = true := by kernel_rfl

abbrev Li : Leaf := .int .i64
theorem leaves_rules : leaves Try.prog 5 26 = some [Li, Li, Li, Li, Li, .sl [Li, Li]] := by kernel_rfl
theorem leaves_st : leaves Try.prog 5 29 = some [Li, Li, .sl [.bool]] := by kernel_rfl
theorem leaves_three : leaves Try.prog 5 30 = some [Li, Li, Li] := by kernel_rfl

theorem agg_rules : isAggB Try.prog 26 = true := by kernel_rfl
theorem agg_st : isAggB Try.prog 29 = true := by kernel_rfl
theorem agg_three : isAggB Try.prog 30 = true := by kernel_rfl

def In64 (x : Int) : Prop := rng .i64 x
section
variable {w : World}
theorem take_int {ls : List Leaf} {cs : List Value} (h : LeavesAre w (Li :: ls) cs) : ∃ x r, cs = I x :: r ∧ In64 x ∧ LeavesAre w ls r := by
  obtain ⟨v, r, rfl, h1, h2⟩ := h.cons'
  obtain ⟨x, rfl, hx⟩ := h1.int'
  exact ⟨x, r, rfl, hx, h2⟩
theorem take_span {cs : List Value} (h : LeavesAre w [Li, Li] cs) : ∃ s : Sp, cs = [I s.1, I s.2] ∧ In64 s.1 ∧ In64 s.2 := by
  obtain ⟨x, r, rfl, hx, h⟩ := take_int h
  obtain ⟨y, r, rfl, hy, h⟩ := take_int h
  rw [h.nil']
  exact ⟨(x, y), rfl, hx, hy⟩
theorem take_spans {v : Value} (h : LeafIs w (.sl [Li, Li]) v) : ∃ a c, ∃ l : List Sp, v = .slice a l.length c ∧ l.length ≤ maxLen ∧ Cells w a (spans l) ∧ ∀ s ∈ l, In64 s.1 ∧ In64 s.2 := by
  obtain ⟨a, c, l, rfl, h1, h2, h3, h4⟩ := h.sl' (fun s : Sp => [I s.1, I s.2]) (fun s => In64 s.1 ∧ In64 s.2) fun x hx => take_span hx
  exact ⟨a, c, l, rfl, Nat.le_trans h1 h2, h3, h4⟩
theorem bools_flat (l : List Bool) : (l.flatMap fun b => [Value.bool b]) = bools l := by
  induction l with
  | nil => rfl
  | cons b l ih => rw [List.flatMap_cons, ih]; rfl
theorem take_bools {v : Value} (h : LeafIs w (.sl [.bool]) v) : ∃ a c, ∃ l : List Bool, v = .slice a l.length c ∧ l.length ≤ maxLen ∧ Cells w a (bools l) := by
  obtain ⟨a, c, l, rfl, h1, h2, h3, _⟩ := h.sl' (fun b : Bool => [Value.bool b]) (fun _ => True) fun x hx => by
    obtain ⟨v, r, rfl, g1, g2⟩ := hx.cons'
    obtain ⟨b, rfl⟩ := g1.bool'
    rw [g2.nil']
    exact ⟨b, rfl, trivial⟩
  refine ⟨a, c, l, rfl, Nat.le_trans h1 h2, ?_⟩
  rw [← bools_flat]
  exact h3

def Rules64 (r : Rules) : Prop := In64 r.limit ∧ In64 r.err ∧ In64 r.tlo ∧ In64 r.thi ∧ In64 r.turns ∧ (∀ s ∈ r.ws, In64 s.1 ∧ In64 s.2) ∧ r.ws.length ≤ maxLen
def St64 (s : St) : Prop := In64 s.lo ∧ In64 s.hi ∧ s.used.length ≤ maxLen
theorem take_rules {ls : List Leaf} {cs : List Value} (h : LeavesAre w (Li :: Li :: Li :: Li :: Li :: .sl [Li, Li] :: ls) cs) : ∃ (r : Rules) (a : Option Addr) (c : Nat) (rest : List Value), cs = I r.limit :: I r.err :: I r.tlo :: I r.thi :: I r.turns :: .slice a r.ws.length c :: rest ∧ Rules64 r ∧ Cells w a (spans r.ws) ∧ LeavesAre w ls rest := by
  obtain ⟨x0, _, rfl, h0, h⟩ := take_int h
  obtain ⟨x1, _, rfl, h1, h⟩ := take_int h
  obtain ⟨x2, _, rfl, h2, h⟩ := take_int h
  obtain ⟨x3, _, rfl, h3, h⟩ := take_int h
  obtain ⟨x4, _, rfl, h4, h⟩ := take_int h
  obtain ⟨v, rest, rfl, h5, h6⟩ := h.cons'
  obtain ⟨a, c, l, rfl, g1, g2, g3⟩ := take_spans h5
  exact ⟨⟨x0, x1, x2, x3, x4, l⟩, a, c, rest, rfl, ⟨h0, h1, h2, h3, h4, g3, g1⟩, g2, h6⟩
theorem take_st {ls : List Leaf} {cs : List Value} (h : LeavesAre w (Li :: Li :: .sl [.bool] :: ls) cs) : ∃ (s : St) (a : Option Addr) (c : Nat) (rest : List Value), cs = I s.lo :: I s.hi :: .slice a s.used.length c :: rest ∧ St64 s ∧ Cells w a (bools s.used) ∧ LeavesAre w ls rest := by
  obtain ⟨x0, _, rfl, h0, h⟩ := take_int h
  obtain ⟨x1, _, rfl, h1, h⟩ := take_int h
  obtain ⟨v, rest, rfl, h5, h6⟩ := h.cons'
  obtain ⟨a, c, l, rfl, g1, g2⟩ := take_bools h5
  exact ⟨⟨x0, x1, l⟩, a, c, rest, rfl, ⟨h0, h1, g1⟩, g2, h6⟩

variable {H : Type} {enc : TypeId × Value → H} {base b0 : Nat} {held : Bool} {spare : Nat → Bool} {reach : Reach}
set_option maxRecDepth 100000 in
theorem open_rules {v : Value} {d : DataW H} {ps : List MemPlace} (hv : Value.okWide Try.prog w reach b0 26 v) (hd : DataW.Trod enc Try.prog w base spare held 26 v d ps) :
    ∃ (r : Rules) (a : Option Addr) (c : Nat), v = r.v a c ∧ Rules64 r ∧ Cells w a (spans r.ws) := by
  obtain ⟨cs, rfl, h⟩ := open_agg agg_rules leaves_rules hv hd
  obtain ⟨r, a, c, rest, rfl, h1, h2, h3⟩ := take_rules h
  rw [h3.nil']
  exact ⟨r, a, c, rfl, h1, h2⟩
set_option maxRecDepth 100000 in
theorem open_st {v : Value} {d : DataW H} {ps : List MemPlace} (hv : Value.okWide Try.prog w reach b0 29 v) (hd : DataW.Trod enc Try.prog w base spare held 29 v d ps) :
    ∃ (s : St) (a : Option Addr) (c : Nat), v = s.v a c ∧ St64 s ∧ Cells w a (bools s.used) := by
  obtain ⟨cs, rfl, h⟩ := open_agg agg_st leaves_st hv hd
  obtain ⟨s, a, c, rest, rfl, h1, h2, h3⟩ := take_st h
  rw [h3.nil']
  exact ⟨s, a, c, rfl, h1, h2⟩
set_option maxRecDepth 100000 in
theorem open_three {v : Value} {d : DataW H} {ps : List MemPlace} (hv : Value.okWide Try.prog w reach b0 30 v) (hd : DataW.Trod enc Try.prog w base spare held 30 v d ps) :
    ∃ x y z : Int, v = .agg #[I x, I y, I z] ∧ In64 x ∧ In64 y ∧ In64 z := by
  obtain ⟨cs, rfl, h⟩ := open_agg agg_three leaves_three hv hd
  obtain ⟨x, _, rfl, hx, h⟩ := take_int h
  obtain ⟨y, _, rfl, hy, h⟩ := take_int h
  obtain ⟨z, _, rfl, hz, h⟩ := take_int h
  rw [h.nil']
  exact ⟨x, y, z, rfl, hx, hy, hz⟩
end
end Go.Proofs.R07
end
section
/- The conditions of the functions, printed by program; each is what the generator reckons (kernel_rfl). -/
namespace Go.Proofs
open Go.Vc
set_option maxRecDepth 100000 in
set_option maxHeartbeats 2000000 in
theorem vc70 (r0 : Int) (r1 : Int) (r2 : Int) (r3 : Int) (r4 : Int) (r5a : Option Addr) (r5n : Nat) (r5c : Nat) (s0 : Int) (s1 : Int) (s2a : Option Addr) (s2n : Nat) (s2c : Nat) (w
    : World) (R : Ending → World → Prop) (h : ∀ (m1 : Nat), w.heap.size ≤ m1 → ∀ (m2 : Nat), w.heap.size ≤ m2 → (-9223372036854775808 ≤ 0 - r0 ∧ 0 - r0 ≤ 9223372036854775807) ∧ (0
    - r0 ≤ s0 → ∀ (w1 : World), RowKit.Below w.heap.size w w1 → Kept [m2, m1] w w1 → R (Ending.returned (Value.bool (decide (s1 ≤ r0)))) w1) ∧ (s0 < 0 - r0 → ∀ (w2 : World),
    RowKit.Below w.heap.size w w2 → Kept [m2, m1] w w2 → R (Ending.returned (Value.bool false)) w2)) : Calls Try.prog 70 #[Value.agg #[Value.int IntKind.i64 r0, Value.int
    IntKind.i64 r1, Value.int IntKind.i64 r2, Value.int IntKind.i64 r3, Value.int IntKind.i64 r4, Value.slice r5a r5n r5c], Value.agg #[Value.int IntKind.i64 s0, Value.int
    IntKind.i64 s1, Value.slice s2a s2n s2c]] w R := calls_of_vc (pure := true) (wrapAt := []) (muts := []) (esc := []) (args := [SV.pv (PV.agg [Lf.int IntKind.i64 r0, Lf.int
    IntKind.i64 r1, Lf.int IntKind.i64 r2, Lf.int IntKind.i64 r3, Lf.int IntKind.i64 r4, Lf.sl r5a r5n r5c]), SV.pv (PV.agg [Lf.int IntKind.i64 s0, Lf.int IntKind.i64 s1, Lf.sl s2a
    s2n s2c])]) (vs := [Value.agg #[Value.int IntKind.i64 r0, Value.int IntKind.i64 r1, Value.int IntKind.i64 r2, Value.int IntKind.i64 r3, Value.int IntKind.i64 r4, Value.slice
    r5a r5n r5c], Value.agg #[Value.int IntKind.i64 s0, Value.int IntKind.i64 s1, Value.slice s2a s2n s2c]]) Try.func70 rfl rfl rfl (Eq.mp (by kernel_rfl) h) 
set_option maxRecDepth 100000 in
set_option maxHeartbeats 2000000 in
theorem vc71 (s0 : Int) (s1 : Int) (s2a : Option Addr) (s2n : Nat) (s2c : Nat) (visits : Int) (w : World) (R : Ending → World → Prop) (h : ∀ (m1 : Nat), w.heap.size ≤ m1 → ∀ (m2 :
    Nat), w.heap.size ≤ m2 → ∀ (m3 : Nat), w.heap.size ≤ m3 → ∃ (F1 : List Lf → World → Prop), ∃ (F2 : List Lf → Nat), (∀ (w1 : World), RowKit.Below w.heap.size w w1 → Kept [m3,
    m2, m1] w w1 → F1 [Lf.int IntKind.i64 0, Lf.int IntKind.i64 s0, Lf.int IntKind.i64 s1, Lf.int IntKind.i64 0, Lf.int IntKind.i64 visits] w1) ∧ ∀ (x1 x2 x3 x4 x5 : Int) (w2 :
    World), RowKit.Below w.heap.size w w2 → F1 [Lf.int IntKind.i64 x1, Lf.int IntKind.i64 x2, Lf.int IntKind.i64 x3, Lf.int IntKind.i64 x4, Lf.int IntKind.i64 x5] w2 → (x1 < (↑s2n
    : Int) → ∃ (m4 : Nat), ∃ (m5 : Nat), s2a = some { block := m4, off := m5 } ∧ (0 ≤ x1 ∧ x1 < (↑s2n : Int)) ∧ ∃ (t1 : Bool), w2.cell? { block := m4, off := m5 + x1.toNat * 1 } =
    some (Value.bool t1) ∧ (m4 < w.heap.size ∨ m4 ≠ m3 ∧ m4 ≠ m2 ∧ m4 ≠ m1) ∧ (t1 = true → (0 ≤ x1 ∧ x1 ≤ 18446744073709551615) ∧ 0 ≤ x1 ∧ (-9223372036854775808 ≤ x4 +
    IntKind.i64.wrap (1 * 2 ^ min x1.toNat IntKind.i64.bits) ∧ x4 + IntKind.i64.wrap (1 * 2 ^ min x1.toNat IntKind.i64.bits) ≤ 9223372036854775807) ∧ (-9223372036854775808 ≤ x1 + 1
    ∧ x1 + 1 ≤ 9223372036854775807) ∧ ∀ (w3 : World), RowKit.Below w.heap.size w w3 → Kept [m3, m2, m1] w2 w3 → F1 [Lf.int IntKind.i64 (x1 + 1), Lf.int IntKind.i64 x2, Lf.int
    IntKind.i64 x3, Lf.int IntKind.i64 (x4 + IntKind.i64.wrap (1 * 2 ^ min x1.toNat IntKind.i64.bits)), Lf.int IntKind.i64 x5] w3 ∧ F2 [Lf.int IntKind.i64 (x1 + 1), Lf.int
    IntKind.i64 x2, Lf.int IntKind.i64 x3, Lf.int IntKind.i64 (x4 + IntKind.i64.wrap (1 * 2 ^ min x1.toNat IntKind.i64.bits)), Lf.int IntKind.i64 x5] < F2 [Lf.int IntKind.i64 x1,
    Lf.int IntKind.i64 x2, Lf.int IntKind.i64 x3, Lf.int IntKind.i64 x4, Lf.int IntKind.i64 x5]) ∧ (t1 = false → (-9223372036854775808 ≤ x1 + 1 ∧ x1 + 1 ≤ 9223372036854775807) ∧ ∀
    (w4 : World), RowKit.Below w.heap.size w w4 → Kept [m3, m2, m1] w2 w4 → F1 [Lf.int IntKind.i64 (x1 + 1), Lf.int IntKind.i64 x2, Lf.int IntKind.i64 x3, Lf.int IntKind.i64 x4,
    Lf.int IntKind.i64 x5] w4 ∧ F2 [Lf.int IntKind.i64 (x1 + 1), Lf.int IntKind.i64 x2, Lf.int IntKind.i64 x3, Lf.int IntKind.i64 x4, Lf.int IntKind.i64 x5] < F2 [Lf.int
    IntKind.i64 x1, Lf.int IntKind.i64 x2, Lf.int IntKind.i64 x3, Lf.int IntKind.i64 x4, Lf.int IntKind.i64 x5])) ∧ ((↑s2n : Int) ≤ x1 → ∀ (w5 : World), RowKit.Below w.heap.size w
    w5 → Kept [m3, m2, m1] w2 w5 → R (Ending.returned (Value.agg #[Value.int IntKind.i64 x2, Value.int IntKind.i64 x3, Value.int IntKind.i64 x4, Value.int IntKind.i64 x5])) w5)) :
    Calls Try.prog 71 #[Value.agg #[Value.int IntKind.i64 s0, Value.int IntKind.i64 s1, Value.slice s2a s2n s2c], Value.int IntKind.i64 visits] w R := calls_of_vc (pure := true)
    (wrapAt := []) (muts := [5]) (esc := []) (args := [SV.pv (PV.agg [Lf.int IntKind.i64 s0, Lf.int IntKind.i64 s1, Lf.sl s2a s2n s2c]), SV.pv (PV.one (Lf.int IntKind.i64
    visits))]) (vs := [Value.agg #[Value.int IntKind.i64 s0, Value.int IntKind.i64 s1, Value.slice s2a s2n s2c], Value.int IntKind.i64 visits]) Try.func71 rfl rfl rfl (Eq.mp (by
    kernel_rfl) h) 
set_option maxRecDepth 100000 in
set_option maxHeartbeats 2000000 in
theorem vc53 (r0 : Int) (r1 : Int) (r2 : Int) (r3 : Int) (r4 : Int) (r5a : Option Addr) (r5n : Nat) (r5c : Nat) (w : World) (R : Ending → World → Prop) (h : ∀ (m1 : Nat),
    w.heap.size ≤ m1 → ∀ (m2 : Nat), w.heap.size ≤ m2 → (-9223372036854775808 ≤ 0 - r4 ∧ 0 - r4 ≤ 9223372036854775807) ∧ ∃ (F1 : List Lf → World → Prop), ∃ (F2 : List Lf → Nat), (∀
    (w1 : World), RowKit.Below w.heap.size w w1 → Kept [m2, m1] w w1 → w1.heap[m2]? = some (Obj.cells #[] 36) → F1 [Lf.sl (some { block := m2, off := 0 }) 0 0, Lf.int IntKind.i64
    (0 - r4)] w1) ∧ ∀ (a1 : Option Addr) (m3 m4 : Nat) (x1 : Int) (w2 : World), RowKit.Below w.heap.size w w2 → F1 [Lf.sl a1 m3 m4, Lf.int IntKind.i64 x1] w2 → (x1 ≤ r4 → ∀ (m5 :
    Nat), w2.heap.size ≤ m5 → ∀ (w3 : World), RowKit.Below w.heap.size w w3 → Kept [m5, m1] w2 w3 → w3.heap[m5]? = some (Obj.cells #[Value.int IntKind.i64 x1, Value.int IntKind.i64
    (-1)] 36) → RunsTo Try.prog (Builtin.append_ #[106, 106] 106 #[Value.slice a1 m3 m4, Value.slice (some { block := m5, off := 0 }) 1 1]) w3 fun (v1 : Value) (w4 : World) => ∃
    (a2 : Option Addr), ∃ (m6 : Nat), ∃ (m7 : Nat), v1 = Value.slice a2 m6 m7 ∧ KeepX true w.heap.size [m5, m1] (fun _ => False) w3 w4 ∧ (-9223372036854775808 ≤ x1 + 1 ∧ x1 + 1 ≤
    9223372036854775807) ∧ ∀ (w5 : World), RowKit.Below w.heap.size w w5 → Kept [m5, m1] w4 w5 → F1 [Lf.sl a2 m6 m7, Lf.int IntKind.i64 (x1 + 1)] w5 ∧ F2 [Lf.sl a2 m6 m7, Lf.int
    IntKind.i64 (x1 + 1)] < F2 [Lf.sl a1 m3 m4, Lf.int IntKind.i64 x1]) ∧ (r4 < x1 → ∃ (F3 : List Lf → World → Prop), ∃ (F4 : List Lf → Nat), (∀ (w6 : World), RowKit.Below
    w.heap.size w w6 → Kept [m1] w2 w6 → F3 [Lf.sl a1 m3 m4, Lf.int IntKind.i64 0] w6) ∧ ∀ (a3 : Option Addr) (m8 m9 : Nat) (x2 : Int) (w7 : World), RowKit.Below w.heap.size w w7 →
    F3 [Lf.sl a3 m8 m9, Lf.int IntKind.i64 x2] w7 → (x2 < (↑r5n : Int) → ∀ (m10 : Nat), w7.heap.size ≤ m10 → ∀ (w8 : World), RowKit.Below w.heap.size w w8 → Kept [m10, m1] w7 w8 →
    w8.heap[m10]? = some (Obj.cells #[Value.int IntKind.i64 0, Value.int IntKind.i64 x2] 36) → RunsTo Try.prog (Builtin.append_ #[106, 106] 106 #[Value.slice a3 m8 m9, Value.slice
    (some { block := m10, off := 0 }) 1 1]) w8 fun (v2 : Value) (w9 : World) => ∃ (a4 : Option Addr), ∃ (m11 : Nat), ∃ (m12 : Nat), v2 = Value.slice a4 m11 m12 ∧ KeepX true
    w.heap.size [m10, m1] (fun _ => False) w8 w9 ∧ (-9223372036854775808 ≤ x2 + 1 ∧ x2 + 1 ≤ 9223372036854775807) ∧ ∀ (w10 : World), RowKit.Below w.heap.size w w10 → Kept [m10, m1]
    w9 w10 → F3 [Lf.sl a4 m11 m12, Lf.int IntKind.i64 (x2 + 1)] w10 ∧ F4 [Lf.sl a4 m11 m12, Lf.int IntKind.i64 (x2 + 1)] < F4 [Lf.sl a3 m8 m9, Lf.int IntKind.i64 x2]) ∧ ((↑r5n :
    Int) ≤ x2 → ∀ (w11 : World), RowKit.Below w.heap.size w w11 → Kept [m1] w7 w11 → R (Ending.returned (Value.slice a3 m8 m9)) w11))) : Calls Try.prog 53 #[Value.agg #[Value.int
    IntKind.i64 r0, Value.int IntKind.i64 r1, Value.int IntKind.i64 r2, Value.int IntKind.i64 r3, Value.int IntKind.i64 r4, Value.slice r5a r5n r5c]] w R := calls_of_vc (pure :=
    true) (wrapAt := []) (muts := []) (esc := []) (args := [SV.pv (PV.agg [Lf.int IntKind.i64 r0, Lf.int IntKind.i64 r1, Lf.int IntKind.i64 r2, Lf.int IntKind.i64 r3, Lf.int
    IntKind.i64 r4, Lf.sl r5a r5n r5c])]) (vs := [Value.agg #[Value.int IntKind.i64 r0, Value.int IntKind.i64 r1, Value.int IntKind.i64 r2, Value.int IntKind.i64 r3, Value.int
    IntKind.i64 r4, Value.slice r5a r5n r5c]]) Try.func53 rfl rfl rfl (Eq.mp (by kernel_rfl) h) 
set_option maxRecDepth 100000 in
set_option maxHeartbeats 2000000 in
theorem vc52 (r0 : Int) (r1 : Int) (r2 : Int) (r3 : Int) (r4 : Int) (r5a : Option Addr) (r5n : Nat) (r5c : Nat) (s0 : Int) (s1 : Int) (s2a : Option Addr) (s2n : Nat) (s2c : Nat)
    (visits : Int) (done : Nat) (w : World) (R : Ending → World → Prop) (h : ∀ (m1 : Nat), w.heap.size ≤ m1 → ∀ (m2 : Nat), w.heap.size ≤ m2 → ∀ (w1 : World), Kept [m2, m1] w w1 →
    Calls Try.prog 70 #[Value.agg #[Value.int IntKind.i64 r0, Value.int IntKind.i64 r1, Value.int IntKind.i64 r2, Value.int IntKind.i64 r3, Value.int IntKind.i64 r4, Value.slice
    r5a r5n r5c], Value.agg #[Value.int IntKind.i64 s0, Value.int IntKind.i64 s1, Value.slice s2a s2n s2c]] w1 fun (e1 : Ending) (w2 : World) => ∃ (t1 : Bool), e1 = Ending.returned
    (Value.bool t1) ∧ KeepX false w.heap.size [m2, m1] (fun _ => False) w1 w2 ∧ (t1 = true → ∀ (w3 : World), Kept [m2, m1] w2 w3 → R (Ending.returned (Value.bool true)) w3) ∧ (t1 =
    false → (visits = 0 → ∀ (w4 : World), Kept [m2, m1] w2 w4 → R (Ending.returned (Value.bool false)) w4) ∧ (visits ≠ 0 → ∀ (w5 : World), Kept [m2, m1] w2 w5 → Calls Try.prog 71
    #[Value.agg #[Value.int IntKind.i64 s0, Value.int IntKind.i64 s1, Value.slice s2a s2n s2c], Value.int IntKind.i64 visits] w5 fun (e2 : Ending) (w6 : World) => ∃ (x1 : Int), ∃
    (x2 : Int), ∃ (x3 : Int), ∃ (x4 : Int), e2 = Ending.returned (Value.agg #[Value.int IntKind.i64 x1, Value.int IntKind.i64 x2, Value.int IntKind.i64 x3, Value.int IntKind.i64
    x4]) ∧ KeepX false w.heap.size [m2, m1] (fun _ => False) w5 w6 ∧ ∀ (m3 : Nat), w6.heap.size ≤ m3 → ∀ (w7 : World), Kept [m3, m2, m1] w6 w7 → RunsTo Try.prog (Instr.lookup 104
    (Value.map (some done)) (Value.agg #[Value.int IntKind.i64 x1, Value.int IntKind.i64 x2, Value.int IntKind.i64 x3, Value.int IntKind.i64 x4]) true) w7 fun (v1 : Value) (w8 :
    World) => ∃ (t2 : Bool), ∃ (t3 : Bool), v1 = Value.tuple #[Value.bool t2, Value.bool t3] ∧ KeepX false w.heap.size [m3, m2, m1] (fun _ => False) w7 w8 ∧ (t3 = true → ∀ (w9 :
    World), Kept [m3, m2, m1] w8 w9 → R (Ending.returned (Value.bool t2)) w9) ∧ (t3 = false → ∀ (w10 : World), Kept [m3, m2, m1] w8 w10 → Calls Try.prog 53 #[Value.agg #[Value.int
    IntKind.i64 r0, Value.int IntKind.i64 r1, Value.int IntKind.i64 r2, Value.int IntKind.i64 r3, Value.int IntKind.i64 r4, Value.slice r5a r5n r5c]] w10 fun (e3 : Ending) (w11 :
    World) => ∃ (a1 : Option Addr), ∃ (m4 : Nat), ∃ (m5 : Nat), e3 = Ending.returned (Value.slice a1 m4 m5) ∧ KeepX false w.heap.size [m3, m2, m1] (fun _ => False) w10 w11 ∧ ∃ (F1
    : List Lf → World → Prop), ∃ (F2 : List Lf → Nat), (∀ (w12 : World), Kept [m3, m2, m1] w11 w12 → F1 [Lf.bool false, Lf.int IntKind.i64 0] w12) ∧ ∀ (t4 : Bool) (x5 : Int) (w13 :
    World), F1 [Lf.bool t4, Lf.int IntKind.i64 x5] w13 → (x5 < (↑m4 : Int) → ((!t4) = true → ∃ (m6 : Nat), ∃ (m7 : Nat), a1 = some { block := m6, off := m7 } ∧ (0 ≤ x5 ∧ x5 < (↑m4
    : Int)) ∧ ∃ (x6 : Int), ∃ (x7 : Int), w13.cell? { block := m6, off := m7 + x5.toNat * 2 } = some (Value.int IntKind.i64 x6) ∧ w13.cell?
    { block := m6, off := m7 + x5.toNat * 2 + 1 } = some (Value.int IntKind.i64 x7) ∧ (m6 < w.heap.size ∨ m6 ≠ m3 ∧ m6 ≠ m2 ∧ m6 ≠ m1) ∧ ∀ (w14 : World), KeptIn [(0,
    w13.heap.size)] [m3, m2, m1] w13 w14 → Calls Try.prog 54 #[Value.agg #[Value.int IntKind.i64 r0, Value.int IntKind.i64 r1, Value.int IntKind.i64 r2, Value.int IntKind.i64 r3,
    Value.int IntKind.i64 r4, Value.slice r5a r5n r5c], Value.agg #[Value.int IntKind.i64 s0, Value.int IntKind.i64 s1, Value.slice s2a s2n s2c], Value.agg #[Value.int IntKind.i64
    x6, Value.int IntKind.i64 x7], Value.int IntKind.i64 visits, Value.map (some done)] w14 fun (e4 : Ending) (w15 : World) => ∃ (t5 : Bool), e4 = Ending.returned (Value.bool t5) ∧
    KeepX false w.heap.size [m3, m2, m1] (fun _ => False) w14 w15 ∧ (-9223372036854775808 ≤ x5 + 1 ∧ x5 + 1 ≤ 9223372036854775807) ∧ ∀ (w16 : World), Kept [m3, m2, m1] w15 w16 → F1
    [Lf.bool t5, Lf.int IntKind.i64 (x5 + 1)] w16 ∧ F2 [Lf.bool t5, Lf.int IntKind.i64 (x5 + 1)] < F2 [Lf.bool t4, Lf.int IntKind.i64 x5]) ∧ ((!t4) = false → ∀ (w17 : World), Kept
    [m3, m2, m1] w13 w17 → RunsTo Try.prog ((Instr.mapUpdate 104 (Value.map (some done)) (Value.agg #[Value.int IntKind.i64 x1, Value.int IntKind.i64 x2, Value.int IntKind.i64 x3,
    Value.int IntKind.i64 x4]) (Value.bool t4)) >>= fun _ => pure (Value.tuple #[])) w17 fun (v2 : Value) (w18 : World) => KeepX false w.heap.size [m3, m2, m1] (fun _ => False) w17
    w18 ∧ ∀ (w19 : World), Kept [m3, m2, m1] w18 w19 → R (Ending.returned (Value.bool t4)) w19)) ∧ ((↑m4 : Int) ≤ x5 → ∀ (w20 : World), Kept [m3, m2, m1] w13 w20 → RunsTo Try.prog
    ((Instr.mapUpdate 104 (Value.map (some done)) (Value.agg #[Value.int IntKind.i64 x1, Value.int IntKind.i64 x2, Value.int IntKind.i64 x3, Value.int IntKind.i64 x4]) (Value.bool
    t4)) >>= fun _ => pure (Value.tuple #[])) w20 fun (v3 : Value) (w21 : World) => KeepX false w.heap.size [m3, m2, m1] (fun _ => False) w20 w21 ∧ ∀ (w22 : World), Kept [m3, m2,
    m1] w21 w22 → R (Ending.returned (Value.bool t4)) w22))))) : Calls Try.prog 52 #[Value.agg #[Value.int IntKind.i64 r0, Value.int IntKind.i64 r1, Value.int IntKind.i64 r2,
    Value.int IntKind.i64 r3, Value.int IntKind.i64 r4, Value.slice r5a r5n r5c], Value.agg #[Value.int IntKind.i64 s0, Value.int IntKind.i64 s1, Value.slice s2a s2n s2c],
    Value.int IntKind.i64 visits, Value.map (some done)] w R := calls_of_vc (pure := false) (wrapAt := []) (muts := []) (esc := []) (args := [SV.pv (PV.agg [Lf.int IntKind.i64 r0,
    Lf.int IntKind.i64 r1, Lf.int IntKind.i64 r2, Lf.int IntKind.i64 r3, Lf.int IntKind.i64 r4, Lf.sl r5a r5n r5c]), SV.pv (PV.agg [Lf.int IntKind.i64 s0, Lf.int IntKind.i64 s1,
    Lf.sl s2a s2n s2c]), SV.pv (PV.one (Lf.int IntKind.i64 visits)), SV.pv (PV.one (Lf.map done))]) (vs := [Value.agg #[Value.int IntKind.i64 r0, Value.int IntKind.i64 r1,
    Value.int IntKind.i64 r2, Value.int IntKind.i64 r3, Value.int IntKind.i64 r4, Value.slice r5a r5n r5c], Value.agg #[Value.int IntKind.i64 s0, Value.int IntKind.i64 s1,
    Value.slice s2a s2n s2c], Value.int IntKind.i64 visits, Value.map (some done)]) Try.func52 rfl rfl rfl (Eq.mp (by kernel_rfl) h) 
set_option maxRecDepth 100000 in
set_option maxHeartbeats 2000000 in
theorem vc54 (r0 : Int) (r1 : Int) (r2 : Int) (r3 : Int) (r4 : Int) (r5a : Option Addr) (r5n : Nat) (r5c : Nat) (s0 : Int) (s1 : Int) (s2a : Option Addr) (s2n : Nat) (s2c : Nat)
    (a0 : Int) (a1 : Int) (visits : Int) (done : Nat) (w : World) (R : Ending → World → Prop) (h : ∀ (m1 : Nat), w.heap.size ≤ m1 → ∀ (m2 : Nat), w.heap.size ≤ m2 → ∀ (m3 : Nat),
    w.heap.size ≤ m3 → ∀ (w1 : World), Kept [m3, m2, m1] w w1 → Calls Try.prog 21 #[Value.agg #[Value.int IntKind.i64 r0, Value.int IntKind.i64 r1, Value.int IntKind.i64 r2,
    Value.int IntKind.i64 r3, Value.int IntKind.i64 r4, Value.slice r5a r5n r5c], Value.agg #[Value.int IntKind.i64 s0, Value.int IntKind.i64 s1, Value.slice s2a s2n s2c],
    Value.agg #[Value.int IntKind.i64 a0, Value.int IntKind.i64 a1]] w1 fun (e1 : Ending) (w2 : World) => ∃ (x1 : Int), ∃ (x2 : Int), ∃ (t1 : Bool), e1 = Ending.returned
    (Value.tuple #[Value.agg #[Value.int IntKind.i64 x1, Value.int IntKind.i64 x2], Value.bool t1]) ∧ KeepX false w.heap.size [m3, m2, m1] (fun _ => False) w1 w2 ∧ ∀ (m4 : Nat),
    w2.heap.size ≤ m4 → (-9223372036854775808 ≤ x1 - r1 ∧ x1 - r1 ≤ 9223372036854775807) ∧ ∃ (F1 : List Lf → World → Prop), ∃ (F2 : List Lf → Nat), (∀ (w3 : World), Kept [m4, m3,
    m2, m1] w2 w3 → F1 [Lf.bool false, Lf.int IntKind.i64 (x1 - r1)] w3) ∧ ∀ (t2 : Bool) (x3 : Int) (w4 : World), F1 [Lf.bool t2, Lf.int IntKind.i64 x3] w4 → (t1 = true →
    (-9223372036854775808 ≤ x2 + r1 ∧ x2 + r1 ≤ 9223372036854775807) ∧ (x3 ≤ x2 + r1 → ∀ (w5 : World), Kept [m4, m3, m2, m1] w4 w5 → Calls Try.prog 22 #[Value.agg #[Value.int
    IntKind.i64 r0, Value.int IntKind.i64 r1, Value.int IntKind.i64 r2, Value.int IntKind.i64 r3, Value.int IntKind.i64 r4, Value.slice r5a r5n r5c], Value.agg #[Value.int
    IntKind.i64 s0, Value.int IntKind.i64 s1, Value.slice s2a s2n s2c], Value.agg #[Value.int IntKind.i64 a0, Value.int IntKind.i64 a1], Value.agg #[Value.int IntKind.i64 x1,
    Value.int IntKind.i64 x2], Value.int IntKind.i64 x3] w5 fun (e2 : Ending) (w6 : World) => ∃ (x4 : Int), ∃ (x5 : Int), ∃ (a1 : Option Addr), ∃ (m5 : Nat), ∃ (m6 : Nat), ∃ (t3 :
    Bool), e2 = Ending.returned (Value.tuple #[Value.agg #[Value.int IntKind.i64 x4, Value.int IntKind.i64 x5, Value.slice a1 m5 m6], Value.bool t3]) ∧ KeepX false w.heap.size [m4,
    m3, m2, m1] (fun _ => False) w5 w6 ∧ ∀ (m7 : Nat), w6.heap.size ≤ m7 → (t3 = true → (-9223372036854775808 ≤ visits - 1 ∧ visits - 1 ≤ 9223372036854775807) ∧ ∀ (w7 : World),
    Kept [m7, m4, m3, m2, m1] w6 w7 → Calls Try.prog 52 #[Value.agg #[Value.int IntKind.i64 r0, Value.int IntKind.i64 r1, Value.int IntKind.i64 r2, Value.int IntKind.i64 r3,
    Value.int IntKind.i64 r4, Value.slice r5a r5n r5c], Value.agg #[Value.int IntKind.i64 x4, Value.int IntKind.i64 x5, Value.slice a1 m5 m6], Value.int IntKind.i64 (visits - 1),
    Value.map (some done)] w7 fun (e3 : Ending) (w8 : World) => ∃ (t4 : Bool), e3 = Ending.returned (Value.bool t4) ∧ KeepX false w.heap.size [m7, m4, m3, m2, m1] (fun _ => False)
    w7 w8 ∧ ((!t4) = true → ∀ (w9 : World), Kept [m7, m4, m3, m2, m1] w8 w9 → R (Ending.returned (Value.bool false)) w9) ∧ ((!t4) = false → (-9223372036854775808 ≤ x3 + 1 ∧ x3 + 1
    ≤ 9223372036854775807) ∧ ∀ (w10 : World), Kept [m7, m4, m3, m2, m1] w8 w10 → F1 [Lf.bool t2, Lf.int IntKind.i64 (x3 + 1)] w10 ∧ F2 [Lf.bool t2, Lf.int IntKind.i64 (x3 + 1)] <
    F2 [Lf.bool t2, Lf.int IntKind.i64 x3])) ∧ (t3 = false → (-9223372036854775808 ≤ x3 + 1 ∧ x3 + 1 ≤ 9223372036854775807) ∧ ∀ (w11 : World), Kept [m7, m4, m3, m2, m1] w6 w11 → F1
    [Lf.bool t2, Lf.int IntKind.i64 (x3 + 1)] w11 ∧ F2 [Lf.bool t2, Lf.int IntKind.i64 (x3 + 1)] < F2 [Lf.bool t2, Lf.int IntKind.i64 x3])) ∧ (x2 + r1 < x3 → ∀ (w12 : World), Kept
    [m4, m3, m2, m1] w4 w12 → R (Ending.returned (Value.bool t1)) w12)) ∧ (t1 = false → ∀ (w13 : World), Kept [m4, m3, m2, m1] w4 w13 → R (Ending.returned (Value.bool t1)) w13)) :
    Calls Try.prog 54 #[Value.agg #[Value.int IntKind.i64 r0, Value.int IntKind.i64 r1, Value.int IntKind.i64 r2, Value.int IntKind.i64 r3, Value.int IntKind.i64 r4, Value.slice
    r5a r5n r5c], Value.agg #[Value.int IntKind.i64 s0, Value.int IntKind.i64 s1, Value.slice s2a s2n s2c], Value.agg #[Value.int IntKind.i64 a0, Value.int IntKind.i64 a1],
    Value.int IntKind.i64 visits, Value.map (some done)] w R := calls_of_vc (pure := false) (wrapAt := []) (muts := []) (esc := []) (args := [SV.pv (PV.agg [Lf.int IntKind.i64 r0,
    Lf.int IntKind.i64 r1, Lf.int IntKind.i64 r2, Lf.int IntKind.i64 r3, Lf.int IntKind.i64 r4, Lf.sl r5a r5n r5c]), SV.pv (PV.agg [Lf.int IntKind.i64 s0, Lf.int IntKind.i64 s1,
    Lf.sl s2a s2n s2c]), SV.pv (PV.agg [Lf.int IntKind.i64 a0, Lf.int IntKind.i64 a1]), SV.pv (PV.one (Lf.int IntKind.i64 visits)), SV.pv (PV.one (Lf.map done))]) (vs := [Value.agg
    #[Value.int IntKind.i64 r0, Value.int IntKind.i64 r1, Value.int IntKind.i64 r2, Value.int IntKind.i64 r3, Value.int IntKind.i64 r4, Value.slice r5a r5n r5c], Value.agg
    #[Value.int IntKind.i64 s0, Value.int IntKind.i64 s1, Value.slice s2a s2n s2c], Value.agg #[Value.int IntKind.i64 a0, Value.int IntKind.i64 a1], Value.int IntKind.i64 visits,
    Value.map (some done)]) Try.func54 rfl rfl rfl (Eq.mp (by kernel_rfl) h) 
set_option maxRecDepth 100000 in
set_option maxHeartbeats 2000000 in
theorem vc26 (r0 : Int) (r1 : Int) (r2 : Int) (r3 : Int) (r4 : Int) (r5a : Option Addr) (r5n : Nat) (r5c : Nat) (s0 : Int) (s1 : Int) (s2a : Option Addr) (s2n : Nat) (s2c : Nat)
    (most : Int) (w : World) (R : Ending → World → Prop) (h : ∀ (m1 : Nat), w.heap.size ≤ m1 → ∀ (m2 : Nat), w.heap.size ≤ m2 → ∀ (m3 : Nat), w.heap.size ≤ m3 → ∀ (w1 : World),
    RowKit.Below w.heap.size w w1 → Kept [m3, m2, m1] w w1 → RunsTo Try.prog (Instr.makeMap 104 none) w1 fun (v1 : Value) (w2 : World) => ∃ (m4 : Nat), v1 = Value.map (some m4) ∧
    KeepX true w.heap.size [m3, m2, m1] (fun _ => False) w1 w2 ∧ ∃ (F1 : List Lf → World → Prop), ∃ (F2 : List Lf → Nat), (∀ (w3 : World), RowKit.Below w.heap.size w w3 → Kept [m3,
    m2, m1] w2 w3 → F1 [Lf.int IntKind.i64 0, Lf.bool false, Lf.int IntKind.i64 0, Lf.int IntKind.i64 0, Lf.int IntKind.i64 0] w3) ∧ ∀ (x1 : Int) (t1 : Bool) (x2 x3 x4 : Int) (w4 :
    World), RowKit.Below w.heap.size w w4 → F1 [Lf.int IntKind.i64 x1, Lf.bool t1, Lf.int IntKind.i64 x2, Lf.int IntKind.i64 x3, Lf.int IntKind.i64 x4] w4 → (x2 ≤ most → ∀ (w5 :
    World), RowKit.Below w.heap.size w w5 → Kept [m3, m2, m1] w4 w5 → Calls Try.prog 52 #[Value.agg #[Value.int IntKind.i64 r0, Value.int IntKind.i64 r1, Value.int IntKind.i64 r2,
    Value.int IntKind.i64 r3, Value.int IntKind.i64 r4, Value.slice r5a r5n r5c], Value.agg #[Value.int IntKind.i64 s0, Value.int IntKind.i64 s1, Value.slice s2a s2n s2c],
    Value.int IntKind.i64 x2, Value.map (some m4)] w5 fun (e1 : Ending) (w6 : World) => ∃ (t2 : Bool), e1 = Ending.returned (Value.bool t2) ∧ KeepX true w.heap.size [m3, m2, m1]
    (fun _ => False) w5 w6 ∧ ((!t2) = true → (-9223372036854775808 ≤ x2 + 1 ∧ x2 + 1 ≤ 9223372036854775807) ∧ ∀ (w7 : World), RowKit.Below w.heap.size w w7 → Kept [m3, m2, m1] w6
    w7 → F1 [Lf.int IntKind.i64 x1, Lf.bool t1, Lf.int IntKind.i64 (x2 + 1), Lf.int IntKind.i64 x3, Lf.int IntKind.i64 x4] w7 ∧ F2 [Lf.int IntKind.i64 x1, Lf.bool t1, Lf.int
    IntKind.i64 (x2 + 1), Lf.int IntKind.i64 x3, Lf.int IntKind.i64 x4] < F2 [Lf.int IntKind.i64 x1, Lf.bool t1, Lf.int IntKind.i64 x2, Lf.int IntKind.i64 x3, Lf.int IntKind.i64
    x4]) ∧ ((!t2) = false → ∀ (w8 : World), RowKit.Below w.heap.size w w8 → Kept [m3, m2, m1] w6 w8 → Calls Try.prog 53 #[Value.agg #[Value.int IntKind.i64 r0, Value.int
    IntKind.i64 r1, Value.int IntKind.i64 r2, Value.int IntKind.i64 r3, Value.int IntKind.i64 r4, Value.slice r5a r5n r5c]] w8 fun (e2 : Ending) (w9 : World) => ∃ (a1 : Option
    Addr), ∃ (m5 : Nat), ∃ (m6 : Nat), e2 = Ending.returned (Value.slice a1 m5 m6) ∧ KeepX true w.heap.size [m3, m2, m1] (fun _ => False) w8 w9 ∧ ∃ (F3 : List Lf → World → Prop), ∃
    (F4 : List Lf → Nat), (∀ (w10 : World), RowKit.Below w.heap.size w w10 → Kept [m3, m2, m1] w9 w10 → F3 [Lf.int IntKind.i64 x1, Lf.bool t1, Lf.int IntKind.i64 0, Lf.int
    IntKind.i64 x3, Lf.int IntKind.i64 x4] w10) ∧ ∀ (x5 : Int) (t3 : Bool) (x6 x7 x8 : Int) (w11 : World), RowKit.Below w.heap.size w w11 → F3 [Lf.int IntKind.i64 x5, Lf.bool t3,
    Lf.int IntKind.i64 x6, Lf.int IntKind.i64 x7, Lf.int IntKind.i64 x8] w11 → (x6 < (↑m5 : Int) → (0 < x2 → ∃ (m7 : Nat), ∃ (m8 : Nat), a1 = some { block := m7, off := m8 } ∧ (0 ≤
    x6 ∧ x6 < (↑m5 : Int)) ∧ ∃ (x9 : Int), ∃ (x10 : Int), w11.cell? { block := m7, off := m8 + x6.toNat * 2 } = some (Value.int IntKind.i64 x9) ∧ w11.cell?
    { block := m7, off := m8 + x6.toNat * 2 + 1 } = some (Value.int IntKind.i64 x10) ∧ (m7 < w.heap.size ∨ m7 ≠ m3 ∧ m7 ≠ m2 ∧ m7 ≠ m1) ∧ ∀ (w12 : World), RowKit.Below w.heap.size
    w w12 → KeptIn [(0, w11.heap.size)] [m3, m2, m1] w11 w12 → Calls Try.prog 54 #[Value.agg #[Value.int IntKind.i64 r0, Value.int IntKind.i64 r1, Value.int IntKind.i64 r2,
    Value.int IntKind.i64 r3, Value.int IntKind.i64 r4, Value.slice r5a r5n r5c], Value.agg #[Value.int IntKind.i64 s0, Value.int IntKind.i64 s1, Value.slice s2a s2n s2c],
    Value.agg #[Value.int IntKind.i64 x9, Value.int IntKind.i64 x10], Value.int IntKind.i64 x2, Value.map (some m4)] w12 fun (e3 : Ending) (w13 : World) => ∃ (t4 : Bool), e3 =
    Ending.returned (Value.bool t4) ∧ KeepX true w.heap.size [m3, m2, m1] (fun _ => False) w12 w13 ∧ (t4 = true → ∃ (m9 : Nat), ∃ (m10 : Nat), a1 = some { block := m9, off := m10 }
    ∧ (0 ≤ x6 ∧ x6 < (↑m5 : Int)) ∧ ∃ (x11 : Int), ∃ (x12 : Int), w13.cell? { block := m9, off := m10 + x6.toNat * 2 } = some (Value.int IntKind.i64 x11) ∧ w13.cell?
    { block := m9, off := m10 + x6.toNat * 2 + 1 } = some (Value.int IntKind.i64 x12) ∧ (m9 < w.heap.size ∨ m9 ≠ m3 ∧ m9 ≠ m2 ∧ m9 ≠ m1) ∧ ∀ (w14 : World), RowKit.Below w.heap.size
    w w14 → Kept [m3, m2, m1] w13 w14 → R (Ending.returned (Value.tuple #[Value.int IntKind.i64 x2, Value.agg #[Value.int IntKind.i64 x11, Value.int IntKind.i64 x12], Value.bool
    true])) w14) ∧ (t4 = false → (-9223372036854775808 ≤ x6 + 1 ∧ x6 + 1 ≤ 9223372036854775807) ∧ ∀ (w15 : World), RowKit.Below w.heap.size w w15 → Kept [m3, m2, m1] w13 w15 → F3
    [Lf.int IntKind.i64 x5, Lf.bool t3, Lf.int IntKind.i64 (x6 + 1), Lf.int IntKind.i64 x7, Lf.int IntKind.i64 x8] w15 ∧ F4 [Lf.int IntKind.i64 x5, Lf.bool t3, Lf.int IntKind.i64
    (x6 + 1), Lf.int IntKind.i64 x7, Lf.int IntKind.i64 x8] < F4 [Lf.int IntKind.i64 x5, Lf.bool t3, Lf.int IntKind.i64 x6, Lf.int IntKind.i64 x7, Lf.int IntKind.i64 x8])) ∧ (x2 ≤
    0 → ∀ (w16 : World), RowKit.Below w.heap.size w w16 → Kept [m3, m2, m1] w11 w16 → R (Ending.returned (Value.tuple #[Value.int IntKind.i64 x2, Value.agg #[Value.int IntKind.i64
    0, Value.int IntKind.i64 (-1)], Value.bool true])) w16)) ∧ ((↑m5 : Int) ≤ x6 → ∀ (w17 : World), RowKit.Below w.heap.size w w17 → Kept [m3, m2, m1] w11 w17 → R (Ending.returned
    (Value.tuple #[Value.int IntKind.i64 x2, Value.agg #[Value.int IntKind.i64 0, Value.int IntKind.i64 (-1)], Value.bool true])) w17))) ∧ (most < x2 → ∀ (w18 : World),
    RowKit.Below w.heap.size w w18 → Kept [m3, m2, m1] w4 w18 → R (Ending.returned (Value.tuple #[Value.int IntKind.i64 0, Value.agg #[Value.int IntKind.i64 0, Value.int
    IntKind.i64 0], Value.bool false])) w18)) : Calls Try.prog 26 #[Value.agg #[Value.int IntKind.i64 r0, Value.int IntKind.i64 r1, Value.int IntKind.i64 r2, Value.int IntKind.i64
    r3, Value.int IntKind.i64 r4, Value.slice r5a r5n r5c], Value.agg #[Value.int IntKind.i64 s0, Value.int IntKind.i64 s1, Value.slice s2a s2n s2c], Value.int IntKind.i64 most] w
    R := calls_of_vc (pure := true) (wrapAt := []) (muts := [7]) (esc := []) (args := [SV.pv (PV.agg [Lf.int IntKind.i64 r0, Lf.int IntKind.i64 r1, Lf.int IntKind.i64 r2, Lf.int
    IntKind.i64 r3, Lf.int IntKind.i64 r4, Lf.sl r5a r5n r5c]), SV.pv (PV.agg [Lf.int IntKind.i64 s0, Lf.int IntKind.i64 s1, Lf.sl s2a s2n s2c]), SV.pv (PV.one (Lf.int IntKind.i64
    most))]) (vs := [Value.agg #[Value.int IntKind.i64 r0, Value.int IntKind.i64 r1, Value.int IntKind.i64 r2, Value.int IntKind.i64 r3, Value.int IntKind.i64 r4, Value.slice r5a
    r5n r5c], Value.agg #[Value.int IntKind.i64 s0, Value.int IntKind.i64 s1, Value.slice s2a s2n s2c], Value.int IntKind.i64 most]) Try.func26 rfl rfl rfl (Eq.mp (by kernel_rfl)
    h) 
set_option maxRecDepth 100000 in
set_option maxHeartbeats 2000000 in
theorem vc23 (r0 : Int) (r1 : Int) (r2 : Int) (r3 : Int) (r4 : Int) (r5a : Option Addr) (r5n : Nat) (r5c : Nat) (s0 : Int) (s1 : Int) (s2a : Option Addr) (s2n : Nat) (s2c : Nat) (w
    : World) (R : Ending → World → Prop) (h : ∀ (m1 : Nat), w.heap.size ≤ m1 → ∀ (m2 : Nat), w.heap.size ≤ m2 → ∀ (w1 : World), RowKit.Below w.heap.size w w1 → Kept [m2, m1] w w1 →
    Calls Try.prog 17 #[Value.agg #[Value.int IntKind.i64 r0, Value.int IntKind.i64 r1, Value.int IntKind.i64 r2, Value.int IntKind.i64 r3, Value.int IntKind.i64 r4, Value.slice
    r5a r5n r5c]] w1 fun (e1 : Ending) (w2 : World) => ∃ (x1 : Int), e1 = Ending.returned (Value.int IntKind.i64 x1) ∧ KeepX true w.heap.size [m2, m1] (fun _ => False) w1 w2 ∧ (x1
    ≠ 0 → ∀ (w3 : World), RowKit.Below w.heap.size w w3 → Kept [m2, m1] w2 w3 → R (Ending.returned (Value.bool false)) w3) ∧ (x1 = 0 → ∀ (w4 : World), RowKit.Below w.heap.size w w4
    → Kept [m2, m1] w2 w4 → Calls Try.prog 20 #[Value.agg #[Value.int IntKind.i64 r0, Value.int IntKind.i64 r1, Value.int IntKind.i64 r2, Value.int IntKind.i64 r3, Value.int
    IntKind.i64 r4, Value.slice r5a r5n r5c], Value.agg #[Value.int IntKind.i64 s0, Value.int IntKind.i64 s1, Value.slice s2a s2n s2c]] w4 fun (e2 : Ending) (w5 : World) => ∃ (t1 :
    Bool), e2 = Ending.returned (Value.bool t1) ∧ KeepX true w.heap.size [m2, m1] (fun _ => False) w4 w5 ∧ ((!t1) = true → ∀ (w6 : World), RowKit.Below w.heap.size w w6 → Kept [m2,
    m1] w5 w6 → R (Ending.returned (Value.bool false)) w6) ∧ ((!t1) = false → ∃ (F1 : List Lf → World → Prop), ∃ (F2 : List Lf → Nat), (∀ (w7 : World), RowKit.Below w.heap.size w
    w7 → Kept [m2, m1] w5 w7 → F1 [Lf.bool false, Lf.int IntKind.i64 0] w7) ∧ ∀ (t2 : Bool) (x2 : Int) (w8 : World), RowKit.Below w.heap.size w w8 → F1 [Lf.bool t2, Lf.int
    IntKind.i64 x2] w8 → (x2 < (↑r5n : Int) → ∃ (m3 : Nat), ∃ (m4 : Nat), r5a = some { block := m3, off := m4 } ∧ (0 ≤ x2 ∧ x2 < (↑r5n : Int)) ∧ ∃ (x3 : Int), w8.cell?
    { block := m3, off := m4 + x2.toNat * 2 + 1 } = some (Value.int IntKind.i64 x3) ∧ (m3 < w.heap.size ∨ m3 ≠ m2 ∧ m3 ≠ m1) ∧ (20 < x3 → ∀ (w9 : World), RowKit.Below w.heap.size w
    w9 → Kept [m2, m1] w8 w9 → R (Ending.returned (Value.bool true)) w9) ∧ (x3 ≤ 20 → (-9223372036854775808 ≤ x2 + 1 ∧ x2 + 1 ≤ 9223372036854775807) ∧ ∀ (w10 : World), RowKit.Below
    w.heap.size w w10 → Kept [m2, m1] w8 w10 → F1 [Lf.bool t2, Lf.int IntKind.i64 (x2 + 1)] w10 ∧ F2 [Lf.bool t2, Lf.int IntKind.i64 (x2 + 1)] < F2 [Lf.bool t2, Lf.int IntKind.i64
    x2])) ∧ ((↑r5n : Int) ≤ x2 → (3 < r1 → ∀ (w11 : World), RowKit.Below w.heap.size w w11 → Kept [m2, m1] w8 w11 → R (Ending.returned (Value.bool true)) w11) ∧ (r1 ≤ 3 → (2 < r4 →
    ∀ (w12 : World), RowKit.Below w.heap.size w w12 → Kept [m2, m1] w8 w12 → R (Ending.returned (Value.bool true)) w12) ∧ (r4 ≤ 2 → (2 < (↑r5n : Int) → ∀ (w13 : World),
    RowKit.Below w.heap.size w w13 → Kept [m2, m1] w8 w13 → R (Ending.returned (Value.bool true)) w13) ∧ ((↑r5n : Int) ≤ 2 → (20 < r3 → ∀ (w14 : World), RowKit.Below w.heap.size w
    w14 → Kept [m2, m1] w8 w14 → R (Ending.returned (Value.bool true)) w14) ∧ (r3 ≤ 20 → (-9223372036854775808 ≤ s1 - s0 ∧ s1 - s0 ≤ 9223372036854775807) ∧ ∀ (w15 : World),
    RowKit.Below w.heap.size w w15 → Kept [m2, m1] w8 w15 → R (Ending.returned (Value.bool (decide (15 < s1 - s0)))) w15)))))))) : Calls Try.prog 23 #[Value.agg #[Value.int
    IntKind.i64 r0, Value.int IntKind.i64 r1, Value.int IntKind.i64 r2, Value.int IntKind.i64 r3, Value.int IntKind.i64 r4, Value.slice r5a r5n r5c], Value.agg #[Value.int
    IntKind.i64 s0, Value.int IntKind.i64 s1, Value.slice s2a s2n s2c]] w R := calls_of_vc (pure := true) (wrapAt := []) (muts := []) (esc := []) (args := [SV.pv (PV.agg [Lf.int
    IntKind.i64 r0, Lf.int IntKind.i64 r1, Lf.int IntKind.i64 r2, Lf.int IntKind.i64 r3, Lf.int IntKind.i64 r4, Lf.sl r5a r5n r5c]), SV.pv (PV.agg [Lf.int IntKind.i64 s0, Lf.int
    IntKind.i64 s1, Lf.sl s2a s2n s2c])]) (vs := [Value.agg #[Value.int IntKind.i64 r0, Value.int IntKind.i64 r1, Value.int IntKind.i64 r2, Value.int IntKind.i64 r3, Value.int
    IntKind.i64 r4, Value.slice r5a r5n r5c], Value.agg #[Value.int IntKind.i64 s0, Value.int IntKind.i64 s1, Value.slice s2a s2n s2c]]) Try.func23 rfl rfl rfl (Eq.mp (by
    kernel_rfl) h) 
end Go.Proofs
end
section
/- The reference's search: what is known already, keys, acts. -/
namespace Go.Proofs.R07
open Go.Vc Go.RowKit Go.Proofs

abbrev K4 := Int × Int × Int × Int
theorem eq_key (a b c d a' b' c' d' : Int) (w : World) : (Op.equal 136 (.agg #[I a, I b, I c, I d]) (.agg #[I a', I b', I c', I d'])).run Try.prog w = .ok (decide ((a, b, c, d) = (a', b', c', d'))) w := by
  have hS : Try.prog.underlying 136 = some (.struct (Try.prog.fieldsOf 136)) := by kernel_rfl
  show (Op.equalIn (9999 + 1) 136 _ _).run _ _ = _
  have hp : Try.prog.stoodInHeld 136 = false := by kernel_rfl
  rw [run_equalIn_agg w 9999 136 _ _ hS hp]
  simp only [Program.fieldsOf, Try.underlying136]
  have p1 : ∀ (x y z u : Int), (part 3 #[I x, I y, I z, I u] 0).run Try.prog w = .ok (I x) w := fun _ _ _ _ => by kernel_rfl
  have p2 : ∀ (x y z u : Int), (part 3 #[I x, I y, I z, I u] 1).run Try.prog w = .ok (I y) w := fun _ _ _ _ => by kernel_rfl
  have p3 : ∀ (x y z u : Int), (part 3 #[I x, I y, I z, I u] 2).run Try.prog w = .ok (I z) w := fun _ _ _ _ => by kernel_rfl
  have p4 : ∀ (x y z u : Int), (part 3 #[I x, I y, I z, I u] 3).run Try.prog w = .ok (I u) w := fun _ _ _ _ => by kernel_rfl
  have u3 : Try.prog.underlying 3 = some (.int .i64) := by kernel_rfl
  have q1 : ∀ x y : Int, (Op.equalIn 9999 3 (I x) (I y)).run Try.prog w = .ok (x == y) w := fun x y => run_equalIn_int w 9998 3 _ _ _ _ u3
  by_cases h1 : a = a' <;> by_cases h2 : b = b' <;> by_cases h3 : c = c' <;> by_cases h4 : d = d' <;> simp [Op.eqFields, p1, p2, p3, p4, q1, h1, h2, h3, h4, Sem.run_bind, Sem.run_pure]

def encK (k : K4) : Value := .agg #[I k.1, I k.2.1, I k.2.2.1, I k.2.2.2]
theorem keyK : KeyLaw Try.prog 136 encK where
  st := ⟨Try.prog.fieldsOf 136, by kernel_rfl⟩
  chk := fun b k w => by
    cases b <;> kernel_rfl
  eq := fun k k' w => eq_key _ _ _ _ _ _ _ _ w

theorem good2_any {r : Rules} (hr : Good r) (s : St) {a b : Option Addr} {c d : Nat} {w : World} : Calls Try.prog 70 #[r.v a c, s.v b d] w (Pure w (.bool (decide (-r.limit ≤ s.lo) && decide (s.hi ≤ r.limit)))) := by
  have := hr.2.1
  refine vc70 _ _ _ _ _ _ _ _ _ _ _ _ _ w _ fun m1 h1 m2 h2 => ⟨by omega, fun h w1 hb _ => ⟨?_, hb⟩, fun h w2 hb _ => ⟨?_, hb⟩⟩
  · rw [decide_eq_true (show -r.limit ≤ s.lo by omega)]; rfl
  · rw [decide_eq_false (show ¬ -r.limit ≤ s.lo by omega)]; rfl

theorem setTo_step {l : List Bool} {n : Nat} (h : n < l.length) : setTo l (n + 1) = if l[n] then put (setTo l n) n else setTo l n := by
  rw [setTo, getElem_of_lt h]
  cases l[n] <;> rfl
theorem put_add {s i : Nat} (h : s < 2 ^ i) : put s i = s + 2 ^ i := by
  have := Nat.two_pow_add_eq_or_of_lt h 1
  rw [Nat.mul_one] at this
  unfold put
  rw [Nat.or_comm, ← this, Nat.add_comm]

theorem key_any (s : St) {b : Option Addr} {d : Nat} {w : World} (hu : Cells w b (bools s.used)) (hl : s.used.length ≤ 3) (v : Int) : Calls Try.prog 71 #[s.v b d, I v] w (Pure w (encK (s.lo, s.hi, (setOf s.used : Nat), v))) := by
  refine vc71 _ _ _ _ _ _ w _ fun m1 h1 m2 h2 m3 h3 => ?_
  refine ⟨fun ls _ => match ls with | [.int _ i, .int _ x, .int _ y, .int _ u, .int _ z] => 0 ≤ i ∧ i ≤ s.used.length ∧ x = s.lo ∧ y = s.hi ∧ z = v ∧ u = (setTo s.used i.toNat : Nat) | _ => False, fun ls => match ls with | .int _ i :: _ => (s.used.length - i).toNat | _ => 0, fun w1 hb _ => ⟨by omega, by omega, rfl, rfl, rfl, rfl⟩, ?_⟩
  rintro i x y u z w2 hb2 ⟨h0, hn, rfl, rfl, rfl, rfl⟩
  refine ⟨fun hi => ?_, fun hi w5 hb5 _ => ⟨?_, hb5⟩⟩
  · have hix : i.toNat < s.used.length := by omega
    obtain ⟨p, q, rfl, c1⟩ := hu i.toNat _ (bools_get (getElem_of_lt hix))
    have hst := setTo_step hix
    have hlt : setTo s.used i.toNat < 2 ^ i.toNat := setTo_two
    have hsum := put_add hlt
    have hw : IntKind.i64.wrap (1 * 2 ^ min i.toNat IntKind.i64.bits) = ((2 ^ i.toNat : Nat) : Int) := by
      have : i.toNat = 0 ∨ i.toNat = 1 ∨ i.toNat = 2 := by omega
      rcases this with h | h | h <;> rw [h] <;> rfl
    have h2 : 2 ^ i.toNat ≤ 4 := by
      have : i.toNat = 0 ∨ i.toNat = 1 ∨ i.toNat = 2 := by omega
      rcases this with h | h | h <;> rw [h] <;> decide
    have hsucc : (i + 1).toNat = i.toNat + 1 := by omega
    refine ⟨p, q, rfl, ⟨h0, hi⟩, s.used[i.toNat], cell_at (cell_keep hb2 c1) (by omega), .inl (cell_lt c1), fun ht => ⟨by omega, h0, by rw [hw]; omega, by omega, fun w3 hb3 _ => ⟨⟨by omega, by omega, rfl, rfl, rfl, ?_⟩, ?_⟩⟩, fun ht => ⟨by omega, fun w4 hb4 _ => ⟨⟨by omega, by omega, rfl, rfl, rfl, ?_⟩, ?_⟩⟩⟩
    · rw [hw, hsucc, hst, if_pos ht, hsum]; omega
    · show ((s.used.length : Int) - (i + 1)).toNat < ((s.used.length : Int) - i).toNat
      omega
    · rw [hsucc, hst, if_neg (by rw [ht]; simp)]
    · show ((s.used.length : Int) - (i + 1)).toNat < ((s.used.length : Int) - i).toNat
      omega
  · have : i.toNat = s.used.length := by omega
    rw [this]; rfl

def actW (a : Int × Int) : List Value := [I a.1, I a.2]
def ActsPost (r : Rules) (w : World) (e : Ending) (w' : World) : Prop := ∃ a c, e = .returned (.slice a (acts r).length c) ∧ Below w.heap.size w w' ∧ Cells w' a ((acts r).flatMap actW) ∧ NewV w ((acts r).flatMap actW) a

theorem acts_step1 {r : Rules} {x : Int} (h0 : 0 ≤ x) (h : x < 2 * r.turns + 1) : (acts r).take (x + 1).toNat = (acts r).take x.toNat ++ [(x - r.turns, -1)] := by
  rw [show (x + 1).toNat = x.toNat + 1 by omega, List.take_add_one, acts_turn h0 h]; rfl
theorem acts_step2 {r : Rules} {y : Int} (h0 : 0 ≤ y) (h : y < r.ws.length) : (acts r).take ((2 * r.turns + 1).toNat + (y + 1).toNat) = (acts r).take ((2 * r.turns + 1).toNat + y.toNat) ++ [(0, y)] := by
  rw [show (2 * r.turns + 1).toNat + (y + 1).toNat = (2 * r.turns + 1).toNat + y.toNat + 1 by omega, List.take_add_one, acts_weight h0 h]; rfl

set_option maxHeartbeats 1000000 in
theorem acts_any {r : Rules} (hr : Good r) {a : Option Addr} {c : Nat} {w : World} : Calls Try.prog 53 #[r.v a c] w (ActsPost r w) := by
  have ht := hr.2.2.2.2.1
  have hlen := hr.1
  refine vc53 _ _ _ _ _ _ _ _ w _ fun m1 h1 m2 h2 => ⟨by omega, ?_⟩
  refine ⟨fun ls w' => match ls with | [.sl a' n c', .int _ x] => ∃ k : Int, x = k - r.turns ∧ 0 ≤ k ∧ k ≤ 2 * r.turns + 1 ∧ n = k.toNat ∧ RowE 36 2 w.heap.size [m1] a' n c' (((acts r).take k.toNat).flatMap actW) w' ∧ m1 < w'.heap.size | _ => False, fun ls => match ls with | [_, .int _ x] => (r.turns + 1 - x).toNat | _ => 0,
    fun w1 hb hk _ => ⟨0, by omega, by omega, by omega, rfl, RowE.lit, hk.own m1 (by simp)⟩, ?_⟩
  rintro a1 n1 c1 x w2 hb2 ⟨k, rfl, h0, hn, rfl, hrow, hm1⟩
  refine ⟨fun hx m5 h5 w3 hb3 hk3 hc3 => ?_, fun hx => ?_⟩
  · have R3 := (hrow.grow (ms := [m5]) (by simpa using h5)).chg (Chg.kept hk3) fun b hb => hb
    refine append_rowE (P := Try.prog) (bytes := 16) (by kernel_rfl) (by omega) R3 (m := 1) (news := actW (k - r.turns, -1)) (Cells.obj (vs := [I _, I _]) hc3) rfl (by simp [actW]; exact ⟨rfl, rfl⟩) (by omega) (by omega) hb3.size hk3.own (by omega) fun a2 c2 w4 R4 S cS hS => ?_
    refine ⟨a2, _, c2, rfl, cS.own (fun b hb => ⟨hk3.own b hb, fun hh => (hS b hh).2 hb⟩) (by simp) (fun _ => ⟨hb3.size, fun b hb => (hS b hb).1⟩), by omega, fun w5 hb5 hk5 => ⟨⟨k + 1, by omega, by omega, by omega, by omega, ?_, hk5.own m1 (by simp)⟩, ?_⟩⟩
    · have R5 := (R4.chg (Chg.kept hk5) fun b hb => hb).drop (ms := [m5])
      rw [acts_step1 h0 (by omega), List.flatMap_append]
      simp only [List.flatMap_cons, List.flatMap_nil, List.append_nil]
      exact .inr R5
    · show (r.turns + 1 - (k - r.turns + 1)).toNat < (r.turns + 1 - (k - r.turns)).toNat
      omega
  · obtain rfl : k = 2 * r.turns + 1 := by omega
    refine ⟨fun ls w' => match ls with | [.sl a' n c', .int _ y] => 0 ≤ y ∧ y ≤ r.ws.length ∧ n = (2 * r.turns + 1).toNat + y.toNat ∧ RowE 36 2 w.heap.size [m1] a' n c' (((acts r).take ((2 * r.turns + 1).toNat + y.toNat)).flatMap actW) w' ∧ m1 < w'.heap.size | _ => False, fun ls => match ls with | [_, .int _ y] => ((r.ws.length : Int) - y).toNat | _ => 0,
      fun w6 hb6 hk6 => ⟨by omega, by omega, rfl, hrow.chg (Chg.kept hk6) fun b hb => hb, hk6.own m1 (by simp)⟩, ?_⟩
    rintro a3 n3 c3 y w7 hb7 ⟨g0, gn, rfl, hrow7, hm7⟩
    refine ⟨fun hy m10 h10 w8 hb8 hk8 hc8 => ?_, fun hy w11 hb11 hk11 => ?_⟩
    · have R8 := (hrow7.grow (ms := [m10]) (by simpa using h10)).chg (Chg.kept hk8) fun b hb => hb
      refine append_rowE (P := Try.prog) (bytes := 16) (by kernel_rfl) (by omega) R8 (m := 1) (news := actW (0, y)) (Cells.obj (vs := [I _, I _]) hc8) rfl (by simp [actW]; exact ⟨rfl, rfl⟩) (by omega) (by omega) hb8.size hk8.own (by omega) fun a4 c4 w9 R9 S cS hS => ?_
      refine ⟨a4, _, c4, rfl, cS.own (fun b hb => ⟨hk8.own b hb, fun hh => (hS b hh).2 hb⟩) (by simp) (fun _ => ⟨hb8.size, fun b hb => (hS b hb).1⟩), by omega, fun w10 hb10 hk10 => ⟨⟨by omega, by omega, by omega, ?_, hk10.own m1 (by simp)⟩, ?_⟩⟩
      · have R10 := (R9.chg (Chg.kept hk10) fun b hb => hb).drop (ms := [m10])
        rw [acts_step2 g0 (by omega), List.flatMap_append]
        simp only [List.flatMap_cons, List.flatMap_nil, List.append_nil]
        exact .inr R10
      · show ((r.ws.length : Int) - (y + 1)).toNat < ((r.ws.length : Int) - y).toNat
        omega
    · have R11 := hrow7.chg (Chg.kept hk11) fun b hb => hb
      have hfull : (2 * r.turns + 1).toNat + y.toNat = (acts r).length := by rw [acts_len]; omega
      rw [hfull, List.take_length] at R11
      exact ⟨a3, c3, by rw [hfull], hb11, R11.cells, R11.new⟩
end Go.Proofs.R07
end
section
/- The reference's search: Does and Enough. -/
namespace Go.Proofs.R07
open Go.Vc Go.RowKit Go.Proofs

def look4 (m : List (K4 × Value)) (k : K4) : Option Value := @List.lookup _ _ instBEqOfDecidableEq k m
theorem look4_add {m : List (K4 × Value)} {k k' : K4} {v : Value} : look4 (m ++ [(k, v)]) k' = (look4 m k').or (if k' = k then some v else none) := look_add'
def MemoOk (r : Rules) (m : List (K4 × Value)) : Prop := ∀ (k : K4) v, look4 m k = some v → v = .bool (enoughB r k.2.2.2.toNat k.2.2.1.toNat (k.1, k.2.1))
/-- What is known behind a call: more, and nothing new above a number of visits. -/
structure Memo (r : Rules) (dm : Nat) (v : Nat) (m : List (K4 × Value)) (w0 w : World) : Prop where
  chg : Chg [dm] w0 w
  ex : ∃ m', MapIs w dm encK m' ∧ MemoOk r m' ∧ ∀ k : K4, (v : Int) < k.2.2.2 → look4 m' k = look4 m k

section
variable {r : Rules} {dm v : Nat} {m : List (K4 × Value)} {w0 w w' : World} {S : List Nat} {a : Option Addr} {vs : List Value}
theorem MapIs.not {K : Type} {enc : K → Value} {l : List (K × Value)} (h : MapIs w dm enc l) {b o : Nat} {v : Value} (hc : w.cell? ⟨b, o, none⟩ = some v) : b ≠ dm := fun e => by
  obtain ⟨es, cl, h1, _⟩ := h
  subst e
  unfold World.cell? at hc
  simp only [h1] at hc
  cases hc
theorem Memo.chg' (h : Memo r dm v m w0 w) (hc : Chg S w w') (hs : ∀ x ∈ S, w0.heap.size ≤ x) (hd : dm < w0.heap.size) : Memo r dm v m w0 w' := by
  obtain ⟨m', h1, h2, h3⟩ := h.ex
  exact ⟨Chg.snoc h.chg hc fun x hx => .inr (hs x hx), m', h1.keep (hc.keep dm h1.lt fun hm => by have := hs dm hm; omega), h2, h3⟩
theorem Memo.cells (h : Memo r dm v m w0 w) (hm : MapIs w0 dm encK m) (hc : Cells w0 a vs) : Cells w a vs := fun i u hi => by
  obtain ⟨b, o, e, hcell⟩ := hc i u hi
  exact ⟨b, o, e, h.chg.cell (by simpa using MapIs.not hm hcell) hcell⟩
theorem Memo.start (hm : MapIs w dm encK m) (hk : MemoOk r m) : Memo r dm v m w w := ⟨Chg.refl _ _, m, hm, hk, fun _ _ => rfl⟩
end

def EnPost (r : Rules) (dm v : Nat) (m : List (K4 × Value)) (t : Bool) (w : World) (e : Ending) (w' : World) : Prop := e = .returned (.bool t) ∧ Memo r dm v m w w'

/-- What Enough does at so many visits. -/
def EnoughC (r : Rules) (v : Nat) : Prop := ∀ (dm : Nat) (s : St) (a b : Option Addr) (c d : Nat) (w : World) (m : List (K4 × Value)), okSp (s.lo, s.hi) → s.used.length = r.ws.length → Cells w a (spans r.ws) → Cells w b (bools s.used) → MapIs w dm encK m → MemoOk r m →
  Calls Try.prog 52 #[r.v a c, s.v b d, I (v : Nat), .map (some dm)] w (EnPost r dm v m (enoughB r v (setOf s.used) (s.lo, s.hi)) w)
def DoesC (r : Rules) (v : Nat) : Prop := ∀ (dm : Nat) (s : St) (a b : Option Addr) (c d : Nat) (w : World) (m : List (K4 × Value)) (x y : Int), okSp (s.lo, s.hi) → s.used.length = r.ws.length → Cells w a (spans r.ws) → Cells w b (bools s.used) → MapIs w dm encK m → MemoOk r m →
  Calls Try.prog 54 #[r.v a c, s.v b d, .agg #[I x, I y], I ((v + 1 : Nat) : Int), .map (some dm)] w (EnPost r dm v m (doesB r v (setOf s.used) (s.lo, s.hi) (x, y)) w)

theorem move_set {r : Rules} (hr : Good r) {s : St} (hl : s.used.length = r.ws.length) {p : Sp} {x y : Int} {mu : Nat} {sp : Sp} (hm : move r sp (setOf s.used) (x, y) = some (p, mu)) (img : Sp) (seen : Int) :
    setOf (nextR r s y img seen).used = mu ∧ (nextR r s y img seen).used.length = s.used.length := by
  obtain ⟨hy, hset⟩ := move_next hr hl hm
  have hu : setOf s.used < 8 := setOf_lt (by have := hr.1; omega)
  have hmu : mu < 2 ^ s.used.length := by
    have h1 : setOf s.used < 2 ^ s.used.length := setTo_two
    unfold move at hm
    split at hm
    · cases hm
    · rename_i q hq
      split at hm
      · simp only [Option.some.injEq, Prod.mk.injEq] at hm
        obtain ⟨_, rfl⟩ := hm
        by_cases hy1 : y = -1
        · rw [if_pos hy1]; exact h1
        · rw [if_neg hy1]
          have hw := shift_weight hr hq hy1
          unfold put
          refine Nat.or_lt_two_pow h1 (Nat.pow_lt_pow_right (by omega) ?_)
          simp only at hw
          omega
      · cases hm
  have hlen : (nextR r s y img seen).used.length = s.used.length := by
    simp only [nextR]; split <;> simp
  refine ⟨?_, hlen⟩
  have hused : (nextR r s y img seen).used = (List.range s.used.length).map (has mu) := by rw [hset]; rfl
  apply Nat.eq_of_testBit_eq
  intro i
  by_cases hi : i < s.used.length
  · have hi' : i < (nextR r s y img seen).used.length := by rw [hlen]; exact hi
    have := has_setOf hi'
    unfold has at this
    rw [this]
    simp only [hused, List.getElem_map, List.getElem_range]
    rfl
  · have h1 : setOf (nextR r s y img seen).used < 2 ^ i := Nat.lt_of_lt_of_le setTo_two (Nat.pow_le_pow_right (by omega) (by omega))
    have h2 : mu < 2 ^ i := Nat.lt_of_lt_of_le hmu (Nat.pow_le_pow_right (by omega) (by omega))
    rw [Nat.testBit_lt_two_pow h1, Nat.testBit_lt_two_pow h2]

set_option maxHeartbeats 2000000 in
theorem does_any {r : Rules} (hr : Good r) {v : Nat} (hv : v < 1000) (hE : EnoughC r v) : DoesC r v := by
  intro dm s a b c d w m x y hsp hul hc hu hm hk
  have hdm := hm.lt
  have herr := hr.2.2.1
  obtain ⟨q1, q2, q3⟩ := hsp
  simp only at q1 q2 q3
  refine vc54 _ _ _ _ _ _ _ _ _ _ _ _ _ _ _ _ _ w _ fun m1 h1 m2 h2 m3 h3 w1 k1 => ?_
  have M1 : Memo r dm v m w w1 := (Memo.start hm hk).chg' (Chg.kept k1) (by simp; omega) hdm
  refine (image_any hr ⟨q1, q2, q3⟩ hul (M1.cells hm hc) (M1.cells hm hu) x y).mono fun e w2 he => ?_
  obtain ⟨lo, hi, rfl, b2, himg, n1, n2, n3, n4⟩ := he
  have M2 := M1.chg' (Chg.of_below (S := []) b2) (by simp) hdm
  have z2 := M2.chg.size
  refine ⟨_, _, _, rfl, .all b2, fun m4 h4 => ⟨by omega, ?_⟩⟩
  cases hmv : move r (s.lo, s.hi) (setOf s.used) (x, y) with
  | none =>
    have hval : doesB r v (setOf s.used) (s.lo, s.hi) (x, y) = false := by unfold doesB; rw [hmv]
    refine ⟨fun ls w' => match ls with | [_, .int _ _] => Memo r dm v m w w' | _ => False, fun _ => 0, fun w3 k3 => M2.chg' (Chg.kept k3) (by simp; omega) hdm, ?_⟩
    rintro t x3 w4 hM
    exact ⟨fun h => (by cases h), fun _ w13 k13 => ⟨by rw [hval]; rfl, hM.chg' (Chg.kept k13) (by simp; omega) hdm⟩⟩
  | some q =>
    obtain ⟨q, mu⟩ := q
    obtain rfl : q = (lo, hi) := himg _ hmv
    have huu : setOf s.used < 8 := setOf_lt (by have := hr.1; omega)
    obtain ⟨hmu, p1, p2, p3⟩ := move_facts hr huu hmv
    simp only at p1 p2 p3
    have hval : doesB r v (setOf s.used) (s.lo, s.hi) (x, y) = seenAll r (lo, hi) (enoughB r v mu) := by unfold doesB; rw [hmv]
    let good (i : Nat) : Bool := !decide ((nextSp r (lo, hi) (lo - r.err + i)).1 ≤ (nextSp r (lo, hi) (lo - r.err + i)).2) || enoughB r v mu (nextSp r (lo, hi) (lo - r.err + i))
    refine ⟨fun ls w' => match ls with | [_, .int _ z] => ∃ k : Nat, z = lo - r.err + k ∧ k ≤ (hi - lo + 2 * r.err + 1).toNat ∧ (∀ i, i < k → good i = true) ∧ Memo r dm v m w w' ∧ m1 < w'.heap.size ∧ m2 < w'.heap.size ∧ m3 < w'.heap.size ∧ m4 < w'.heap.size | _ => False, fun ls => match ls with | [_, .int _ z] => (hi + r.err + 1 - z).toNat | _ => 0,
      fun w3 k3 => ⟨0, by omega, by omega, fun i hi => by omega, M2.chg' (Chg.kept k3) (by simp; omega) hdm, k3.own m1 (by simp), k3.own m2 (by simp), k3.own m3 (by simp), k3.own m4 (by simp)⟩, ?_⟩
    rintro t z w4 ⟨k, rfl, hkn, hgood, M4, o1, o2, o3, o4⟩
    refine ⟨fun _ => ⟨by omega, fun hz w5 k5 => ?_, fun hz w12 k12 => ⟨?_, M4.chg' (Chg.kept k12) (by simp; omega) hdm⟩⟩, fun h => (by cases h)⟩
    · have M5 := M4.chg' (Chg.kept k5) (by simp; omega) hdm
      have hy := (move_next hr hul hmv).1
      refine (next_any r s (M5.cells hm hu) (by have := hr.1; omega) x y hy (lo, hi) (lo - r.err + k) (by omega) (by omega) (by omega) (by omega)).mono fun e w6 he => ?_
      obtain ⟨a5, c5, rfl, b6, A6, _, N6⟩ := he
      have M6 := M5.chg' (Chg.of_below (S := []) b6) (by simp) hdm
      have z5 := k5.size
      have z6 := b6.size
      have R6 := Rng.of A6 N6
      refine ⟨_, _, a5, _, c5, _, rfl, .all b6, fun m7 h7 => ⟨fun hle => ⟨by omega, fun w7 k7 => ?_⟩, fun hle => ⟨by omega, fun w11 k11 => ⟨⟨k + 1, by omega, by omega, fun i hi' => ?_, M6.chg' (Chg.kept k11) (by simp; omega) hdm, k11.own m1 (by simp), k11.own m2 (by simp), k11.own m3 (by simp), k11.own m4 (by simp)⟩, ?_⟩⟩⟩⟩
      · have M7 := M6.chg' (Chg.kept k7) (by simp; omega) hdm
        have hsum : ((v + 1 : Nat) : Int) - 1 = (v : Nat) := by omega
        rw [hsum]
        obtain ⟨m7', g1, g2, g3⟩ := M7.ex
        obtain ⟨hset, hlen7⟩ := move_set hr hul hmv (lo, hi) (lo - r.err + k)
        have hle' : (nextR r s y (lo, hi) (lo - r.err + k)).lo ≤ (nextR r s y (lo, hi) (lo - r.err + k)).hi := by simpa using hle
        have hnsp : nextSp r (lo, hi) (lo - r.err + k) = ((nextR r s y (lo, hi) (lo - r.err + k)).lo, (nextR r s y (lo, hi) (lo - r.err + k)).hi) := rfl
        have hok : okSp ((nextR r s y (lo, hi) (lo - r.err + k)).lo, (nextR r s y (lo, hi) (lo - r.err + k)).hi) := by
          refine ⟨?_, hle', ?_⟩ <;> simp only [nextR] <;> omega
        have A7 := R6.cells A6 (Chg.kept k7) (by
          have t1 := k5.own m1 (by simp)
          have t2 := k5.own m2 (by simp)
          have t3 := k5.own m3 (by simp)
          have t4 := k5.own m4 (by simp)
          simp; omega)
        refine (hE dm (nextR r s y (lo, hi) (lo - r.err + k)) a a5 c c5 w7 m7' hok (hlen7.trans hul) (M7.cells hm hc) A7 g1 g2).mono fun e w8 he => ?_
        obtain ⟨rfl, E8⟩ := he
        rw [hset]
        have M8 : Memo r dm v m w w8 := by
          obtain ⟨m8, f1, f2, f3⟩ := E8.ex
          exact ⟨Chg.snoc M7.chg E8.chg fun x hx => .inl hx, m8, f1, f2, fun k hk => (f3 k hk).trans (g3 k hk)⟩
        have u1 := k7.own m1 (by simp)
        have u2 := k7.own m2 (by simp)
        have u3 := k7.own m3 (by simp)
        have u4 := k7.own m4 (by simp)
        have u7 := k7.own m7 (by simp)
        refine ⟨_, rfl, E8.chg.own (by simp; omega) (by simp) (by simp), fun hf w9 k9 => ⟨?_, M8.chg' (Chg.kept k9) (by simp; omega) hdm⟩, fun ht => ⟨by omega, fun w10 k10 => ⟨⟨k + 1, by omega, by omega, fun i hi' => ?_, M8.chg' (Chg.kept k10) (by simp; omega) hdm, k10.own m1 (by simp), k10.own m2 (by simp), k10.own m3 (by simp), k10.own m4 (by simp)⟩, ?_⟩⟩⟩
        · rw [hval]
          have : seenAll r (lo, hi) (enoughB r v mu) = false := by
            rw [Bool.eq_false_iff]
            intro hs
            have := (List.all_eq_true.1 hs) k (List.mem_range.2 (by simp only; omega))
            rw [hnsp, decide_eq_true hle'] at this
            rw [Bool.not_true, Bool.false_or] at this
            rw [this] at hf
            cases hf
          rw [this]
        · by_cases e : i < k
          · exact hgood i e
          · obtain rfl : i = k := by omega
            show (_ || _) = true
            rw [hnsp]
            have : enoughB r v mu ((nextR r s y (lo, hi) (lo - r.err + i)).lo, (nextR r s y (lo, hi) (lo - r.err + i)).hi) = true := by simpa using ht
            rw [this, Bool.or_true]
        · show (hi + r.err + 1 - (lo - r.err + k + 1)).toNat < (hi + r.err + 1 - (lo - r.err + k)).toNat
          omega
      · by_cases e : i < k
        · exact hgood i e
        · obtain rfl : i = k := by omega
          show (_ || _) = true
          have : decide ((nextSp r (lo, hi) (lo - r.err + i)).1 ≤ (nextSp r (lo, hi) (lo - r.err + i)).2) = false := hle
          rw [this]; rfl
      · show (hi + r.err + 1 - (lo - r.err + k + 1)).toNat < (hi + r.err + 1 - (lo - r.err + k)).toNat
        omega
    · rw [hval]
      have hk' : k = (hi - lo + 2 * r.err + 1).toNat := by omega
      have : seenAll r (lo, hi) (enoughB r v mu) = true := List.all_eq_true.2 fun i hi' => hgood i (by have := List.mem_range.1 hi'; simp only at this; omega)
      rw [this]; rfl
end Go.Proofs.R07
end
section
/- The reference's search: Enough, and Fewest. -/
namespace Go.Proofs.R07
open Go.Vc Go.RowKit Go.Proofs

theorem zero_bool (w : World) : (zeroValue 4).run Try.prog w = .ok (.bool false) w := by kernel_rfl

theorem memo_update {r : Rules} {dm : Nat} {m : List (K4 × Value)} {w : World} (hm : MapIs w dm encK m) (k : K4) (b : Bool) (hn : look4 m k = none) {R : Value → World → Prop}
    (hR : ∀ w', Chg [dm] w w' → MapIs w' dm encK (m ++ [(k, .bool b)]) → R (.tuple #[]) w') :
    RunsTo Try.prog ((Instr.mapUpdate 104 (.map (some dm)) (encK k) (.bool b)) >>= fun _ => pure (Value.tuple #[])) w R := by
  obtain ⟨o, hrun, hm'⟩ := run_update_map (P := Try.prog) keyK (mt := 104) (vt := 4) (by kernel_rfl) hm k (.bool b) hn
  refine ⟨_, _, ?_, hR _ Chg.putObj hm'⟩
  simp only [Sem.run_bind, hrun, Result.andThen_ok, Sem.run_pure]

theorem memoOk_add {r : Rules} {m : List (K4 × Value)} (h : MemoOk r m) {k : K4} (hn : look4 m k = none) : MemoOk r (m ++ [(k, .bool (enoughB r k.2.2.2.toNat k.2.2.1.toNat (k.1, k.2.1)))]) := fun k' v hv => by
  rw [look4_add] at hv
  cases hl : look4 m k' with
  | some u => rw [hl] at hv; simp only [Option.some_or, Option.some.injEq] at hv; subst hv; exact h k' u hl
  | none =>
    rw [hl] at hv
    simp only [Option.none_or] at hv
    split at hv
    · rename_i e
      subst e
      exact (Option.some.inj hv).symm
    · cases hv

set_option maxHeartbeats 2000000 in
theorem enough_zero {r : Rules} (hr : Good r) : EnoughC r 0 := by
  intro dm s a b c d w m hsp hul hc hu hm hk
  have hdm := hm.lt
  refine vc52 _ _ _ _ _ _ _ _ _ _ _ _ _ _ _ w _ fun m1 h1 m2 h2 w1 k1 => ?_
  have M1 : Memo r dm 0 m w w1 := (Memo.start hm hk).chg' (Chg.kept k1) (by simp; omega) hdm
  refine Pure.calls (good2_any hr s) fun w2 b2 => ?_
  have M2 := M1.chg' (Chg.of_below (S := []) b2) (by simp) hdm
  have z2 := M2.chg.size
  refine ⟨_, rfl, .all b2, fun ht w3 k3 => ⟨?_, M2.chg' (Chg.kept k3) (by simp; omega) hdm⟩, fun hf => ⟨fun _ w4 k4 => ⟨?_, M2.chg' (Chg.kept k4) (by simp; omega) hdm⟩, fun h => absurd rfl h⟩⟩
  · rw [show enoughB r 0 (setOf s.used) (s.lo, s.hi) = true from ht]
  · rw [show enoughB r 0 (setOf s.used) (s.lo, s.hi) = false from hf]

theorem flat_act {l : List (Int × Int)} {i : Nat} {x : Int × Int} (h : l[i]? = some x) : (l.flatMap actW)[i * 2]? = some (I x.1) ∧ (l.flatMap actW)[i * 2 + 1]? = some (I x.2) := by
  have hf : ∀ s : Int × Int, (actW s).length = 2 := fun _ => rfl
  exact ⟨by have := flat_get (j := 0) hf h (by omega); simpa [actW] using this, by have := flat_get (j := 1) hf h (by omega); simpa [actW] using this⟩

/-- The same, with one key not yet there. -/
def Mem2 (r : Rules) (dm v : Nat) (m : List (K4 × Value)) (key : K4) (w0 w : World) : Prop :=
  Chg [dm] w0 w ∧ ∃ m', MapIs w dm encK m' ∧ MemoOk r m' ∧ (∀ k : K4, ((v + 1 : Nat) : Int) < k.2.2.2 → look4 m' k = look4 m k) ∧ look4 m' key = none
theorem Mem2.chg' {r : Rules} {dm v : Nat} {m : List (K4 × Value)} {key : K4} {w0 w w' : World} {S : List Nat} (h : Mem2 r dm v m key w0 w) (hc : Chg S w w') (hs : ∀ x ∈ S, w0.heap.size ≤ x) (hd : dm < w0.heap.size) : Mem2 r dm v m key w0 w' := by
  obtain ⟨C, m', h1, h2, h3, h4⟩ := h
  exact ⟨Chg.snoc C hc fun x hx => .inr (hs x hx), m', h1.keep (hc.keep dm h1.lt fun hm => by have := hs dm hm; omega), h2, h3, h4⟩

set_option maxHeartbeats 4000000 in
theorem enough_succ {r : Rules} (hr : Good r) {v : Nat} (hv : v < 1000) (hD : DoesC r v) : EnoughC r (v + 1) := by
  intro dm s a b c d w m hsp hul hc hu hm hk
  have hdm := hm.lt
  have hl3 := hr.1
  have hal : (acts r).length ≤ 24 := by rw [acts_len]; have := hr.2.2.2.2.1; omega
  have hval : enoughB r (v + 1) (setOf s.used) (s.lo, s.hi) = ((decide (-r.limit ≤ s.lo) && decide (s.hi ≤ r.limit)) || (acts r).any (doesB r v (setOf s.used) (s.lo, s.hi))) := rfl
  refine vc52 _ _ _ _ _ _ _ _ _ _ _ _ _ _ _ w _ fun m1 h1 m2 h2 w1 k1 => ?_
  have M1 : Memo r dm (v + 1) m w w1 := (Memo.start hm hk).chg' (Chg.kept k1) (by simp; omega) hdm
  refine Pure.calls (good2_any hr s) fun w2 b2 => ?_
  have M2 := M1.chg' (Chg.of_below (S := []) b2) (by simp) hdm
  have z2 := M2.chg.size
  refine ⟨_, rfl, .all b2, fun ht w3 k3 => ⟨by rw [hval, ht]; rfl, M2.chg' (Chg.kept k3) (by simp; omega) hdm⟩, fun hf => ⟨fun h => absurd h (by omega), fun _ w5 k5 => ?_⟩⟩
  rw [hf, Bool.false_or] at hval
  have M5 := M2.chg' (Chg.kept k5) (by simp; omega) hdm
  refine Pure.calls (key_any s (M5.cells hm hu) (by omega) _) fun w6 b6 => ?_
  have M6 := M5.chg' (Chg.of_below (S := []) b6) (by simp) hdm
  have z6 := M6.chg.size
  refine ⟨_, _, _, _, rfl, .all b6, fun m3 h3 w7 k7 => ?_⟩
  have M7 := M6.chg' (Chg.kept k7) (by simp; omega) hdm
  obtain ⟨m7, g1, g2, g3⟩ := M7.ex
  have hlk := (run_lookup_map (P := Try.prog) keyK (mt := 104) (vt := 4) (by kernel_rfl) g1 (s.lo, s.hi, ((setOf s.used : Nat) : Int), ((v + 1 : Nat) : Int)) (zero_bool w7)).1
  have hlk' : (Instr.lookup 104 (.map (some dm)) (encK (s.lo, s.hi, ((setOf s.used : Nat) : Int), ((v + 1 : Nat) : Int))) true).run Try.prog w7 = .ok (.tuple #[(look4 m7 (s.lo, s.hi, ((setOf s.used : Nat) : Int), ((v + 1 : Nat) : Int))).getD (.bool false), .bool (look4 m7 (s.lo, s.hi, ((setOf s.used : Nat) : Int), ((v + 1 : Nat) : Int))).isSome]) w7 := hlk
  refine ⟨_, w7, hlk', ?_⟩
  cases hlook : look4 m7 (s.lo, s.hi, ((setOf s.used : Nat) : Int), ((v + 1 : Nat) : Int)) with
  | some u =>
    have hu' := g2 _ _ hlook
    simp only [Int.toNat_natCast] at hu'
    subst hu'
    exact ⟨_, _, rfl, .all (.refl _ _), fun _ w9 k9 => ⟨rfl, M7.chg' (Chg.kept k9) (by simp; omega) hdm⟩, fun h => (by cases h)⟩
  | none =>
    refine ⟨_, _, rfl, .all (.refl _ _), fun h => (by cases h), fun _ w10 k10 => ?_⟩
    have Q10 : Mem2 r dm v m (s.lo, s.hi, ((setOf s.used : Nat) : Int), ((v + 1 : Nat) : Int)) w w10 := Mem2.chg' ⟨M7.chg, m7, g1, g2, g3, hlook⟩ (Chg.kept k10) (by simp; omega) hdm
    refine (acts_any hr).mono fun e w11 he => ?_
    obtain ⟨a1, c1, rfl, b11, A11, N11⟩ := he
    have Q11 := Q10.chg' (Chg.of_below (S := []) b11) (by simp) hdm
    have R11 := Rng.of A11 N11
    have z10 := k10.size
    have z11 := b11.size
    have o1 := k10.own m1 (by simp)
    have o2 := k10.own m2 (by simp)
    have o3 := k10.own m3 (by simp)
    refine ⟨a1, _, c1, rfl, .all b11, fun ls w' => match ls with | [.bool t, .int _ x] => 0 ≤ x ∧ x ≤ (acts r).length ∧ t = ((acts r).take x.toNat).any (doesB r v (setOf s.used) (s.lo, s.hi)) ∧ Mem2 r dm v m (s.lo, s.hi, ((setOf s.used : Nat) : Int), ((v + 1 : Nat) : Int)) w w' ∧ Cells w' a1 ((acts r).flatMap actW) ∧ m1 < w'.heap.size ∧ m2 < w'.heap.size ∧ m3 < w'.heap.size | _ => False,
      fun ls => match ls with | [_, .int _ x] => ((acts r).length - x).toNat | _ => 0, fun w12 k12 => ⟨by omega, by omega, rfl, Q11.chg' (Chg.kept k12) (by simp; omega) hdm, R11.cells A11 (Chg.kept k12) (by simp; omega), k12.own m1 (by simp), k12.own m2 (by simp), k12.own m3 (by simp)⟩, ?_⟩
    have fin : ∀ {w17 : World} {t : Bool}, t = (acts r).any (doesB r v (setOf s.used) (s.lo, s.hi)) → Mem2 r dm v m (s.lo, s.hi, ((setOf s.used : Nat) : Int), ((v + 1 : Nat) : Int)) w w17 → m1 < w17.heap.size ∧ m2 < w17.heap.size ∧ m3 < w17.heap.size →
        RunsTo Try.prog ((Instr.mapUpdate 104 (.map (some dm)) (encK (s.lo, s.hi, ((setOf s.used : Nat) : Int), ((v + 1 : Nat) : Int))) (.bool t)) >>= fun _ => pure (Value.tuple #[])) w17 fun _ w18 => KeepX false w.heap.size [m3, m2, m1] (fun _ => False) w17 w18 ∧
          ∀ w19 : World, Kept [m3, m2, m1] w18 w19 → EnPost r dm (v + 1) m (enoughB r (v + 1) (setOf s.used) (s.lo, s.hi)) w (.returned (.bool t)) w19 := by
      rintro w17 t rfl ⟨C, m', f1, f2, f3, f4⟩ ho
      refine memo_update (r := r) f1 _ _ f4 fun w18 C18 f18 => ⟨C18.own (by simp; omega) (by simp) (by simp), fun w19 k19 => ⟨by rw [hval], ?_⟩⟩
      have hadd := memoOk_add f2 f4
      simp only [Int.toNat_natCast] at hadd
      rw [hval] at hadd
      refine Memo.chg' (w := w18) ⟨Chg.snoc C C18 fun x hx => .inl hx, _, f18, hadd, fun k hk => ?_⟩ (Chg.kept k19) (by simp; omega) hdm
      rw [look4_add, f3 k hk, if_neg, Option.or_none]
      rintro rfl
      simp at hk
    rintro t x w13 ⟨h0, hn, rfl, Q13, A13, e1, e2, e3⟩
    refine ⟨fun hx => ⟨fun ht => ?_, fun ht w17 k17 => ?_⟩, fun hx w20 k20 => ?_⟩
    · have hix : x.toNat < (acts r).length := by omega
      obtain ⟨f1, f2⟩ := flat_act (getElem_of_lt hix)
      obtain ⟨p, q, rfl, cl1⟩ := A13 _ _ f1
      have cl2 := Cells.at A13 f2
      have hpR : w10.heap.size ≤ p ∧ p < w11.heap.size := by
        rcases R11 with h | h
        · rw [h] at f1; simp at f1
        · exact h p q rfl
      refine ⟨p, q, rfl, ⟨h0, hx⟩, _, _, cell_at cl1 rfl, cell_at cl2 (by omega), .inr ⟨by omega, by omega, by omega⟩, fun w14 k14 => ?_⟩
      have C14 := chg_in k14
      have Q14 := Q13.chg' C14 (by simp; omega) hdm
      obtain ⟨C, m', u1, u2, u3, u4⟩ := Q14
      have M14 : Memo r dm (v + 1) m w w14 := ⟨C, m', u1, u2, u3⟩
      refine (hD dm s a b c d w14 m' _ _ hsp hul (M14.cells hm hc) (M14.cells hm hu) u1 u2).mono fun e w15 he => ?_
      obtain ⟨rfl, E15⟩ := he
      have p1 := k14.own m1 (by simp)
      have p2 := k14.own m2 (by simp)
      have p3 := k14.own m3 (by simp)
      have Q15 : Mem2 r dm v m (s.lo, s.hi, ((setOf s.used : Nat) : Int), ((v + 1 : Nat) : Int)) w w15 := by
        obtain ⟨m'', y1, y2, y3⟩ := E15.ex
        exact ⟨Chg.snoc C E15.chg fun x hx => .inl hx, m'', y1, y2, fun k hk => (y3 k (by omega)).trans (u3 k hk), (y3 _ (by simp; omega)).trans u4⟩
      refine ⟨_, rfl, E15.chg.own (by simp; omega) (by simp) (by simp), by omega, fun w16 k16 => ⟨⟨by omega, by omega, ?_, Q15.chg' (Chg.kept k16) (by simp; omega) hdm, ?_, k16.own m1 (by simp), k16.own m2 (by simp), k16.own m3 (by simp)⟩, ?_⟩⟩
      · rw [show (x + 1).toNat = x.toNat + 1 by omega, List.take_add_one, List.any_append, getElem_of_lt hix]
        have ht' : ((acts r).take x.toNat).any (doesB r v (setOf s.used) (s.lo, s.hi)) = false := by simpa using ht
        rw [ht', Bool.false_or]
        simp
      · exact R11.cells (R11.cells (R11.cells A13 C14 (by simp; omega)) E15.chg (by simp; omega)) (Chg.kept k16) (by simp; omega)
      · show (((acts r).length : Int) - (x + 1)).toNat < (((acts r).length : Int) - x).toNat
        omega
    · have ht' : ((acts r).take x.toNat).any (doesB r v (setOf s.used) (s.lo, s.hi)) = true := by simpa using ht
      refine fin ?_ (Q13.chg' (Chg.kept k17) (by simp; omega) hdm) ⟨k17.own m1 (by simp), k17.own m2 (by simp), k17.own m3 (by simp)⟩
      rw [ht']
      symm
      obtain ⟨z, hz, hd⟩ := List.any_eq_true.1 ht'
      exact List.any_eq_true.2 ⟨z, List.mem_of_mem_take hz, hd⟩
    · refine fin ?_ (Q13.chg' (Chg.kept k20) (by simp; omega) hdm) ⟨k20.own m1 (by simp), k20.own m2 (by simp), k20.own m3 (by simp)⟩
      rw [List.take_of_length_le (by omega)]

theorem search_any {r : Rules} (hr : Good r) : ∀ v : Nat, v ≤ 1000 → EnoughC r v
  | 0, _ => enough_zero hr
  | v + 1, hv => enough_succ hr (by omega) (does_any hr (by omega) (search_any hr v (by omega)))
end Go.Proofs.R07
end
section
/- The reference's Fewest. -/
namespace Go.Proofs.R07
open Go.Vc Go.RowKit Go.Proofs

def refFewR (r : Rules) (s : St) (most : Nat) : Int × (Int × Int) × Bool :=
  match (List.range (most + 1)).find? fun n => enoughB r n (setOf s.used) (s.lo, s.hi) with
  | none => (0, (0, 0), false)
  | some 0 => (0, (0, -1), true)
  | some (k + 1) => ((k + 1 : Nat), ((acts r).find? (doesB r k (setOf s.used) (s.lo, s.hi))).getD (0, -1), true)

theorem find_range {p : Nat → Bool} {n k : Nat} (hk : k < n) (hp : p k = true) (hno : ∀ i, i < k → p i = false) : (List.range n).find? p = some k := by
  rw [List.find?_range_eq_some]
  exact ⟨hp, List.mem_range.2 hk, fun i hi => by rw [hno i hi]; rfl⟩

set_option maxHeartbeats 4000000 in
theorem refFewest_any {r : Rules} (hr : Good r) {s : St} (hsp : okSp (s.lo, s.hi)) (hul : s.used.length = r.ws.length) {a b : Option Addr} {c d : Nat} {w : World} (hc : Cells w a (spans r.ws)) (hu : Cells w b (bools s.used)) {most : Nat} (hmost : most ≤ 900) :
    Calls Try.prog 26 #[r.v a c, s.v b d, I (most : Nat)] w (Pure w (.tuple #[I (refFewR r s most).1, .agg #[I (refFewR r s most).2.1.1, I (refFewR r s most).2.1.2], .bool (refFewR r s most).2.2])) := by
  have hal : (acts r).length ≤ 24 := by rw [acts_len]; have := hr.2.2.2.2.1; have := hr.1; omega
  refine vc26 _ _ _ _ _ _ _ _ _ _ _ _ _ _ w _ fun m1 h1 m2 h2 m3 h3 w1 B1 k1 => ?_
  have z1 := B1.size
  have q1 := k1.own m1 (by simp)
  have q2 := k1.own m2 (by simp)
  have q3 := k1.own m3 (by simp)
  refine ⟨_, _, run_mkmap, ?_⟩
  have b2 : Below w1.heap.size w1 (w1.alloc (.map #[] 0)) := (Below.refl _ _).alloc (Nat.le_refl _) _
  refine ⟨_, rfl, .all b2, ?_⟩
  let Kn (w' : World) : Prop := ∃ m, MapIs w' w1.heap.size encK m ∧ MemoOk r m
  have knK : ∀ {w' w'' : World} {S : List Nat}, Kn w' → Chg S w' w'' → w1.heap.size ∉ S → Kn w'' := fun {w' w'' S} h hcg hs => by
    obtain ⟨m, g1, g2⟩ := h
    exact ⟨m, g1.keep (hcg.keep _ g1.lt hs), g2⟩
  have kn2 : Kn (w1.alloc (.map #[] 0)) := ⟨[], ⟨#[], 0, Go.heap_alloc_new w1 _, rfl⟩, fun k v h => by simp [look4] at h⟩
  have hns : w1.heap.size ∉ [m3, m2, m1] := by simp; omega
  have no : ∀ k : Nat, (∀ i : Nat, i < k → enoughB r i (setOf s.used) (s.lo, s.hi) = false) → enoughB r k (setOf s.used) (s.lo, s.hi) = true → k ≤ most → (List.range (most + 1)).find? (fun n => enoughB r n (setOf s.used) (s.lo, s.hi)) = some k := fun k h1 h2 h3 => find_range (by omega) h2 h1
  refine ⟨fun ls w' => match ls with | [_, _, .int _ n, _, _] => ∃ k : Nat, n = k ∧ k ≤ most + 1 ∧ (∀ i : Nat, i < k → enoughB r i (setOf s.used) (s.lo, s.hi) = false) ∧ Kn w' ∧ m1 < w'.heap.size ∧ m2 < w'.heap.size ∧ m3 < w'.heap.size | _ => False,
    fun ls => match ls with | [_, _, .int _ n, _, _] => (most + 1 - n).toNat | _ => 0, fun w3 B3 k3 => ⟨0, rfl, by omega, fun i hi => by omega, knK kn2 (Chg.kept k3) hns, k3.own m1 (by simp), k3.own m2 (by simp), k3.own m3 (by simp)⟩, ?_⟩
  rintro x1 t1 x2 x3 x4 w4 B4 ⟨k, rfl, hk, hno, K4, e1, e2, e3⟩
  refine ⟨fun hle w5 B5 k5 => ?_, fun hgt w18 B18 k18 => ⟨?_, B18⟩⟩
  · have K5 := knK K4 (Chg.kept k5) hns
    obtain ⟨m, g1, g2⟩ := K5
    refine (search_any hr k (by omega) _ s a b c d w5 m hsp hul (hc.keep B5) (hu.keep B5) g1 g2).mono fun e w6 he => ?_
    obtain ⟨rfl, E6⟩ := he
    have K6 : Kn w6 := by obtain ⟨m', f1, f2, _⟩ := E6.ex; exact ⟨m', f1, f2⟩
    have o1 := k5.own m1 (by simp)
    have o2 := k5.own m2 (by simp)
    have o3 := k5.own m3 (by simp)
    have z5 := B5.size
    have hg := g1.lt
    refine ⟨_, rfl, E6.chg.own (by simp; omega) (by simp) (fun _ => ⟨z5, by simp; omega⟩), fun hf => ⟨by omega, fun w7 B7 k7 => ⟨⟨k + 1, by omega, by omega, fun i hi => ?_, knK K6 (Chg.kept k7) hns, k7.own m1 (by simp), k7.own m2 (by simp), k7.own m3 (by simp)⟩, ?_⟩⟩, fun ht w8 B8 k8 => ?_⟩
    · by_cases e : i < k
      · exact hno i e
      · obtain rfl : i = k := by omega
        simpa using hf
    · show ((most : Int) + 1 - (k + 1)).toNat < ((most : Int) + 1 - k).toNat
      omega
    · have K8 := knK K6 (Chg.kept k8) hns
      have hen : enoughB r k (setOf s.used) (s.lo, s.hi) = true := by simpa using ht
      have hfind := no k hno hen (by omega)
      refine (acts_any hr).mono fun e w9 he => ?_
      obtain ⟨a1, c1, rfl, b9, A9, N9⟩ := he
      have R9 := Rng.of A9 N9
      have K9 := knK K8 (Chg.of_below (S := []) b9) (by simp)
      have o1' := k8.own m1 (by simp)
      have o2' := k8.own m2 (by simp)
      have o3' := k8.own m3 (by simp)
      have z8 := k8.size
      have z6 := E6.chg.size
      have z9 := b9.size
      refine ⟨a1, _, c1, rfl, .all b9, fun ls w' => match ls with | [_, _, .int _ x, _, _] => 0 ≤ x ∧ x ≤ (acts r).length ∧ (∀ (i : Nat) y, (i : Int) < x → (acts r)[i]? = some y → ∀ k', k = k' + 1 → doesB r k' (setOf s.used) (s.lo, s.hi) y = false) ∧ Kn w' ∧ Cells w' a1 ((acts r).flatMap actW) ∧ m1 < w'.heap.size ∧ m2 < w'.heap.size ∧ m3 < w'.heap.size | _ => False,
        fun ls => match ls with | [_, _, .int _ x, _, _] => ((acts r).length - x).toNat | _ => 0, fun w10 B10 k10 => ⟨by omega, by omega, fun i y hi => by omega, knK K9 (Chg.kept k10) hns, R9.cells A9 (Chg.kept k10) (by simp; omega), k10.own m1 (by simp), k10.own m2 (by simp), k10.own m3 (by simp)⟩, ?_⟩
      rintro x5 t3 x6 x7 x8 w11 B11 ⟨h0, hn, hnone, K11, A11, f1, f2, f3⟩
      refine ⟨fun hx => ⟨fun hpos => ?_, fun hz w16 B16 k16 => ⟨?_, B16⟩⟩, fun hx w17 B17 k17 => ⟨?_, B17⟩⟩
      · obtain ⟨k', rfl⟩ : ∃ k', k = k' + 1 := ⟨k - 1, by omega⟩
        have hix : x6.toNat < (acts r).length := by omega
        obtain ⟨g3, g4⟩ := flat_act (getElem_of_lt hix)
        obtain ⟨p, q, rfl, cl1⟩ := A11 _ _ g3
        have cl2 := Cells.at A11 g4
        have hpR : w8.heap.size ≤ p ∧ p < w9.heap.size := by
          rcases R9 with h | h
          · rw [h] at g3; simp at g3
          · exact h p q rfl
        refine ⟨p, q, rfl, ⟨h0, hx⟩, _, _, cell_at cl1 rfl, cell_at cl2 (by omega), .inr ⟨by omega, by omega, by omega⟩, fun w12 B12 k12 => ?_⟩
        have C12 := chg_in k12
        have K12 := knK K11 C12 hns
        obtain ⟨m', u1, u2⟩ := K12
        refine (does_any hr (by omega) (search_any hr k' (by omega)) _ s a b c d w12 m' _ _ hsp hul (hc.keep B12) (hu.keep B12) u1 u2).mono fun e w13 he => ?_
        obtain ⟨rfl, E13⟩ := he
        have K13 : Kn w13 := by obtain ⟨m', f1, f2, _⟩ := E13.ex; exact ⟨m', f1, f2⟩
        have A13 := R9.cells (R9.cells A11 C12 (by simp; omega)) E13.chg (by simp; omega)
        have p1 := k12.own m1 (by simp)
        have p2 := k12.own m2 (by simp)
        have p3 := k12.own m3 (by simp)
        have z12 := B12.size
        have hg' := u1.lt
        refine ⟨_, rfl, E13.chg.own (by simp; omega) (by simp) (fun _ => ⟨z12, by simp; omega⟩), fun hd => ⟨p, q, rfl, ⟨h0, hx⟩, _, _, cell_at (Cells.at A13 g3) rfl, cell_at (Cells.at A13 g4) (by omega), .inr ⟨by omega, by omega, by omega⟩, fun w14 B14 k14 => ⟨?_, B14⟩⟩, fun hd => ⟨by omega, fun w15 B15 k15 => ⟨⟨by omega, by omega, fun i y hi hy k'' hk'' => ?_, knK K13 (Chg.kept k15) hns, R9.cells A13 (Chg.kept k15) (by simp; omega), k15.own m1 (by simp), k15.own m2 (by simp), k15.own m3 (by simp)⟩, ?_⟩⟩⟩
        · have hfa : (acts r).find? (doesB r k' (setOf s.used) (s.lo, s.hi)) = some (acts r)[x6.toNat] := find_some (getElem_of_lt hix) hd fun j y hj hy => hnone j y (by omega) hy k' rfl
          unfold refFewR
          rw [hfind]
          simp only [hfa, Option.getD_some]
        · obtain rfl : k'' = k' := by omega
          by_cases e : (i : Int) < x6
          · exact hnone i y e hy k'' rfl
          · obtain rfl : i = x6.toNat := by omega
            rw [getElem_of_lt hix] at hy
            obtain rfl := Option.some.inj hy
            exact hd
        · show (((acts r).length : Int) - (x6 + 1)).toNat < (((acts r).length : Int) - x6).toNat
          omega
      · obtain rfl : k = 0 := by omega
        unfold refFewR
        rw [hfind]; rfl
      · have hxl : x6 = (acts r).length := by omega
        unfold refFewR
        rw [hfind]
        cases k with
        | zero => rfl
        | succ k' =>
          have hfa : (acts r).find? (doesB r k' (setOf s.used) (s.lo, s.hi)) = none := find_none fun j y hy => hnone j y (by have := (List.getElem?_eq_some_iff.1 hy).1; omega) hy k' rfl
          simp only [hfa]; rfl
  · have hfind : (List.range (most + 1)).find? (fun n => enoughB r n (setOf s.used) (s.lo, s.hi)) = none := by
      rw [List.find?_eq_none]
      intro i hi
      rw [hno i (by have := List.mem_range.1 hi; omega)]
      simp
    unfold refFewR
    rw [hfind]
end Go.Proofs.R07
end
section
/- The conditions of the functions, printed by program; each is what the generator reckons (kernel_rfl). -/
namespace Go.Proofs
open Go.Vc
set_option maxRecDepth 100000 in
set_option maxHeartbeats 2000000 in
theorem vc4 (r0 : Int) (r1 : Int) (r2 : Int) (r3 : Int) (r4 : Int) (r5a : Option Addr) (r5n : Nat) (r5c : Nat) (s0 : Int) (s1 : Int) (s2a : Option Addr) (s2n : Nat) (s2c : Nat) (w
    : World) (R : Ending → World → Prop) (h : ∀ (m1 : Nat), w.heap.size ≤ m1 → ∀ (m2 : Nat), w.heap.size ≤ m2 → ∀ (w1 : World), RowKit.Below w.heap.size w w1 → Kept [m2, m1] w w1 →
    Calls Try.prog 11 #[Value.agg #[Value.int IntKind.i64 r0, Value.int IntKind.i64 r1, Value.int IntKind.i64 r2, Value.int IntKind.i64 r3, Value.int IntKind.i64 r4, Value.slice
    r5a r5n r5c], Value.agg #[Value.int IntKind.i64 s0, Value.int IntKind.i64 s1, Value.slice s2a s2n s2c]] w1 fun (e1 : Ending) (w2 : World) => ∃ (t1 : Bool), e1 = Ending.returned
    (Value.bool t1) ∧ KeepX true w.heap.size [m2, m1] (fun _ => False) w1 w2 ∧ (t1 = true → ∀ (w3 : World), RowKit.Below w.heap.size w w3 → Kept [m2, m1] w2 w3 → Calls Try.prog 12
    #[] w3 fun (e2 : Ending) (w4 : World) => ∃ (t2 : Bool), e2 = Ending.returned (Value.bool t2) ∧ KeepX true w.heap.size [m2, m1] (fun _ => False) w3 w4 ∧ ∀ (w5 : World),
    RowKit.Below w.heap.size w w5 → Kept [m2, m1] w4 w5 → R (Ending.returned (Value.bool t2)) w5) ∧ (t1 = false → ∀ (w6 : World), RowKit.Below w.heap.size w w6 → Kept [m2, m1] w2
    w6 → Calls Try.prog 23 #[Value.agg #[Value.int IntKind.i64 r0, Value.int IntKind.i64 r1, Value.int IntKind.i64 r2, Value.int IntKind.i64 r3, Value.int IntKind.i64 r4,
    Value.slice r5a r5n r5c], Value.agg #[Value.int IntKind.i64 s0, Value.int IntKind.i64 s1, Value.slice s2a s2n s2c]] w6 fun (e3 : Ending) (w7 : World) => ∃ (t3 : Bool), e3 =
    Ending.returned (Value.bool t3) ∧ KeepX true w.heap.size [m2, m1] (fun _ => False) w6 w7 ∧ (t3 = true → ∀ (w8 : World), RowKit.Below w.heap.size w w8 → Kept [m2, m1] w7 w8 →
    Calls Try.prog 12 #[] w8 fun (e4 : Ending) (w9 : World) => ∃ (t4 : Bool), e4 = Ending.returned (Value.bool t4) ∧ KeepX true w.heap.size [m2, m1] (fun _ => False) w8 w9 ∧ ∀ (w10
    : World), RowKit.Below w.heap.size w w10 → Kept [m2, m1] w9 w10 → R (Ending.returned (Value.bool t4)) w10) ∧ (t3 = false → ∀ (w11 : World), RowKit.Below w.heap.size w w11 →
    KeptIn [(0, w7.heap.size)] [m2, m1] w7 w11 → Calls Try.prog 13 #[Value.agg #[Value.int IntKind.i64 r0, Value.int IntKind.i64 r1, Value.int IntKind.i64 r2, Value.int IntKind.i64
    r3, Value.int IntKind.i64 r4, Value.slice r5a r5n r5c]] w11 fun (e5 : Ending) (w12 : World) => ∃ (x1 : Int), ∃ (x2 : Int), ∃ (x3 : Int), ∃ (x4 : Int), ∃ (x5 : Int), ∃ (a1 :
    Option Addr), ∃ (m3 : Nat), ∃ (m4 : Nat), e5 = Ending.returned (Value.agg #[Value.int IntKind.i64 x1, Value.int IntKind.i64 x2, Value.int IntKind.i64 x3, Value.int IntKind.i64
    x4, Value.int IntKind.i64 x5, Value.slice a1 m3 m4]) ∧ KeepX true w.heap.size [m2, m1] (fun _ => False) w11 w12 ∧ ∀ (w13 : World), RowKit.Below w.heap.size w w13 → KeptIn [(0,
    w12.heap.size)] [m2, m1] w12 w13 → Calls Try.prog 14 #[Value.agg #[Value.int IntKind.i64 s0, Value.int IntKind.i64 s1, Value.slice s2a s2n s2c]] w13 fun (e6 : Ending) (w14 :
    World) => ∃ (x6 : Int), ∃ (x7 : Int), ∃ (a2 : Option Addr), ∃ (m5 : Nat), ∃ (m6 : Nat), e6 = Ending.returned (Value.agg #[Value.int IntKind.i64 x6, Value.int IntKind.i64 x7,
    Value.slice a2 m5 m6]) ∧ KeepX true w.heap.size [m2, m1] (fun _ => False) w13 w14 ∧ ∀ (w15 : World), RowKit.Below w.heap.size w w15 → KeptIn [(0, w14.heap.size)] [m2, m1] w14
    w15 → Calls Try.prog 24 #[Value.agg #[Value.int IntKind.i64 x1, Value.int IntKind.i64 x2, Value.int IntKind.i64 x3, Value.int IntKind.i64 x4, Value.int IntKind.i64 x5,
    Value.slice a1 m3 m4], Value.agg #[Value.int IntKind.i64 x6, Value.int IntKind.i64 x7, Value.slice a2 m5 m6]] w15 fun (e7 : Ending) (w16 : World) => ∃ (x8 : Int), ∃ (x9 : Int),
    e7 = Ending.returned (Value.tuple #[Value.int IntKind.i64 x8, Value.int IntKind.i64 x9]) ∧ KeepX true w.heap.size [m2, m1] (fun _ => False) w15 w16 ∧ ∀ (w17 : World),
    RowKit.Below w.heap.size w w17 → KeptIn [(0, w16.heap.size)] [m2, m1] w16 w17 → Calls Try.prog 13 #[Value.agg #[Value.int IntKind.i64 r0, Value.int IntKind.i64 r1, Value.int
    IntKind.i64 r2, Value.int IntKind.i64 r3, Value.int IntKind.i64 r4, Value.slice r5a r5n r5c]] w17 fun (e8 : Ending) (w18 : World) => ∃ (x10 : Int), ∃ (x11 : Int), ∃ (x12 :
    Int), ∃ (x13 : Int), ∃ (x14 : Int), ∃ (a3 : Option Addr), ∃ (m7 : Nat), ∃ (m8 : Nat), e8 = Ending.returned (Value.agg #[Value.int IntKind.i64 x10, Value.int IntKind.i64 x11,
    Value.int IntKind.i64 x12, Value.int IntKind.i64 x13, Value.int IntKind.i64 x14, Value.slice a3 m7 m8]) ∧ RowKit.Below w17.heap.size w17 w18 ∧ ∀ (w19 : World), RowKit.Below
    w.heap.size w w19 → KeptIn [(0, w16.heap.size), (w17.heap.size, w18.heap.size)] [m2, m1] w18 w19 → Calls Try.prog 14 #[Value.agg #[Value.int IntKind.i64 s0, Value.int
    IntKind.i64 s1, Value.slice s2a s2n s2c]] w19 fun (e9 : Ending) (w20 : World) => ∃ (x15 : Int), ∃ (x16 : Int), ∃ (a4 : Option Addr), ∃ (m9 : Nat), ∃ (m10 : Nat), e9 =
    Ending.returned (Value.agg #[Value.int IntKind.i64 x15, Value.int IntKind.i64 x16, Value.slice a4 m9 m10]) ∧ RowKit.Below w19.heap.size w19 w20 ∧ ∀ (w21 : World), RowKit.Below
    w.heap.size w w21 → KeptIn [(0, w16.heap.size), (w19.heap.size, w20.heap.size), (w17.heap.size, w18.heap.size)] [m2, m1] w20 w21 → Calls Try.prog 25 #[Value.agg #[Value.int
    IntKind.i64 x10, Value.int IntKind.i64 x11, Value.int IntKind.i64 x12, Value.int IntKind.i64 x13, Value.int IntKind.i64 x14, Value.slice a3 m7 m8], Value.agg #[Value.int
    IntKind.i64 x15, Value.int IntKind.i64 x16, Value.slice a4 m9 m10]] w21 fun (e10 : Ending) (w22 : World) => ∃ (x17 : Int), ∃ (x18 : Int), ∃ (x19 : Int), e10 = Ending.returned
    (Value.tuple #[Value.agg #[Value.int IntKind.i64 x17, Value.int IntKind.i64 x18], Value.int IntKind.i64 x19]) ∧ RowKit.Below w21.heap.size w21 w22 ∧ ∀ (m11 : Nat),
    w16.heap.size ≤ m11 → m11 < w21.heap.size ∨ w22.heap.size ≤ m11 → m11 < w19.heap.size ∨ w20.heap.size ≤ m11 → m11 < w17.heap.size ∨ w18.heap.size ≤ m11 → ∀ (w23 : World),
    RowKit.Below w.heap.size w w23 → Kept [m11, m2, m1] w22 w23 → Calls Try.prog 17 #[Value.agg #[Value.int IntKind.i64 r0, Value.int IntKind.i64 r1, Value.int IntKind.i64 r2,
    Value.int IntKind.i64 r3, Value.int IntKind.i64 r4, Value.slice r5a r5n r5c]] w23 fun (e11 : Ending) (w24 : World) => ∃ (x20 : Int), e11 = Ending.returned (Value.int
    IntKind.i64 x20) ∧ KeepX true w.heap.size [m11, m2, m1] (fun _ => False) w23 w24 ∧ (x20 = 0 → ∀ (w25 : World), RowKit.Below w.heap.size w w25 → Kept [m11, m2, m1] w24 w25 →
    Calls Try.prog 20 #[Value.agg #[Value.int IntKind.i64 r0, Value.int IntKind.i64 r1, Value.int IntKind.i64 r2, Value.int IntKind.i64 r3, Value.int IntKind.i64 r4, Value.slice
    r5a r5n r5c], Value.agg #[Value.int IntKind.i64 s0, Value.int IntKind.i64 s1, Value.slice s2a s2n s2c]] w25 fun (e12 : Ending) (w26 : World) => ∃ (t5 : Bool), e12 =
    Ending.returned (Value.bool t5) ∧ KeepX true w.heap.size [m11, m2, m1] (fun _ => False) w25 w26 ∧ ((!t5) = true → ((2 : Int) ≠ 0 → (x9 = 2 → (x19 = 2 → (x8 = 0 → ∀ (w27 :
    World), RowKit.Below w.heap.size w w27 → Kept [m11, m2, m1] w26 w27 → RunsTo Try.prog ((eqGuard BinOp.eql 36 (Operand.tmp 63) (Operand.tmp 64) (Value.agg #[Value.int
    IntKind.i64 x17, Value.int IntKind.i64 x18]) (Value.agg #[Value.int IntKind.i64 0, Value.int IntKind.i64 0])) >>= fun _ => binOp BinOp.eql 36 (Value.agg #[Value.int IntKind.i64
    x17, Value.int IntKind.i64 x18]) (Value.agg #[Value.int IntKind.i64 0, Value.int IntKind.i64 0])) w27 fun (v1 : Value) (w28 : World) => ∃ (t6 : Bool), v1 = Value.bool t6 ∧
    KeepX true w.heap.size [m11, m2, m1] (fun _ => False) w27 w28 ∧ (t6 = true → ∀ (w29 : World), RowKit.Below w.heap.size w w29 → Kept [m11, m2, m1] w28 w29 → Calls Try.prog 12
    #[] w29 fun (e13 : Ending) (w30 : World) => ∃ (t7 : Bool), e13 = Ending.returned (Value.bool t7) ∧ KeepX true w.heap.size [m11, m2, m1] (fun _ => False) w29 w30 ∧ ∀ (w31 :
    World), RowKit.Below w.heap.size w w31 → Kept [m11, m2, m1] w30 w31 → R (Ending.returned (Value.bool t7)) w31) ∧ (t6 = false → ∀ (w32 : World), RowKit.Below w.heap.size w w32 →
    Kept [m11, m2, m1] w28 w32 → R (Ending.returned (Value.bool false)) w32)) ∧ (x8 ≠ 0 → ∀ (w33 : World), RowKit.Below w.heap.size w w33 → Kept [m11, m2, m1] w26 w33 → R
    (Ending.returned (Value.bool false)) w33)) ∧ (x19 ≠ 2 → ∀ (w34 : World), RowKit.Below w.heap.size w w34 → Kept [m11, m2, m1] w26 w34 → R (Ending.returned (Value.bool false))
    w34)) ∧ (x9 ≠ 2 → ∀ (w35 : World), RowKit.Below w.heap.size w w35 → Kept [m11, m2, m1] w26 w35 → R (Ending.returned (Value.bool false)) w35)) ∧ ((2 : Int) = 0 → ∀ (w36 :
    World), RowKit.Below w.heap.size w w36 → Kept [m11, m2, m1] w26 w36 → Calls Try.prog 26 #[Value.agg #[Value.int IntKind.i64 r0, Value.int IntKind.i64 r1, Value.int IntKind.i64
    r2, Value.int IntKind.i64 r3, Value.int IntKind.i64 r4, Value.slice r5a r5n r5c], Value.agg #[Value.int IntKind.i64 s0, Value.int IntKind.i64 s1, Value.slice s2a s2n s2c],
    Value.int IntKind.i64 3] w36 fun (e14 : Ending) (w37 : World) => ∃ (x21 : Int), ∃ (x22 : Int), ∃ (x23 : Int), ∃ (t8 : Bool), e14 = Ending.returned (Value.tuple #[Value.int
    IntKind.i64 x21, Value.agg #[Value.int IntKind.i64 x22, Value.int IntKind.i64 x23], Value.bool t8]) ∧ KeepX true w.heap.size [m11, m2, m1] (fun _ => False) w36 w37 ∧ ∀ (m12 :
    Nat), w37.heap.size ≤ m12 → ((!t8) = true → (x9 = 7 → (x19 = x9 → (x8 = 0 → ∀ (w38 : World), RowKit.Below w.heap.size w w38 → Kept [m12, m11, m2, m1] w37 w38 → RunsTo Try.prog
    ((eqGuard BinOp.eql 36 (Operand.tmp 91) (Operand.tmp 92) (Value.agg #[Value.int IntKind.i64 x17, Value.int IntKind.i64 x18]) (Value.agg #[Value.int IntKind.i64 0, Value.int
    IntKind.i64 0])) >>= fun _ => binOp BinOp.eql 36 (Value.agg #[Value.int IntKind.i64 x17, Value.int IntKind.i64 x18]) (Value.agg #[Value.int IntKind.i64 0, Value.int IntKind.i64
    0])) w38 fun (v2 : Value) (w39 : World) => ∃ (t9 : Bool), v2 = Value.bool t9 ∧ KeepX true w.heap.size [m12, m11, m2, m1] (fun _ => False) w38 w39 ∧ (t9 = true → ∀ (w40 :
    World), RowKit.Below w.heap.size w w40 → Kept [m12, m11, m2, m1] w39 w40 → Calls Try.prog 12 #[] w40 fun (e15 : Ending) (w41 : World) => ∃ (t10 : Bool), e15 = Ending.returned
    (Value.bool t10) ∧ KeepX true w.heap.size [m12, m11, m2, m1] (fun _ => False) w40 w41 ∧ ∀ (w42 : World), RowKit.Below w.heap.size w w42 → Kept [m12, m11, m2, m1] w41 w42 → R
    (Ending.returned (Value.bool t10)) w42) ∧ (t9 = false → (x9 = 0 → (x19 = x9 → (3 < x8 → (x8 ≤ 6 → ∀ (w43 : World), RowKit.Below w.heap.size w w43 → Kept [m12, m11, m2, m1] w39
    w43 → Calls Try.prog 12 #[] w43 fun (e16 : Ending) (w44 : World) => ∃ (t11 : Bool), e16 = Ending.returned (Value.bool t11) ∧ KeepX true w.heap.size [m12, m11, m2, m1] (fun _ =>
    False) w43 w44 ∧ ∀ (w45 : World), RowKit.Below w.heap.size w w45 → Kept [m12, m11, m2, m1] w44 w45 → R (Ending.returned (Value.bool t11)) w45) ∧ (6 < x8 → ∀ (w46 : World),
    RowKit.Below w.heap.size w w46 → Kept [m12, m11, m2, m1] w39 w46 → R (Ending.returned (Value.bool false)) w46)) ∧ (x8 ≤ 3 → ∀ (w47 : World), RowKit.Below w.heap.size w w47 →
    Kept [m12, m11, m2, m1] w39 w47 → R (Ending.returned (Value.bool false)) w47)) ∧ (x19 ≠ x9 → ∀ (w48 : World), RowKit.Below w.heap.size w w48 → Kept [m12, m11, m2, m1] w39 w48 →
    R (Ending.returned (Value.bool false)) w48)) ∧ (x9 ≠ 0 → ∀ (w49 : World), RowKit.Below w.heap.size w w49 → Kept [m12, m11, m2, m1] w39 w49 → R (Ending.returned (Value.bool
    false)) w49))) ∧ (x8 ≠ 0 → (x9 = 0 → (x19 = x9 → (3 < x8 → (x8 ≤ 6 → ∀ (w50 : World), RowKit.Below w.heap.size w w50 → Kept [m12, m11, m2, m1] w37 w50 → Calls Try.prog 12 #[]
    w50 fun (e17 : Ending) (w51 : World) => ∃ (t12 : Bool), e17 = Ending.returned (Value.bool t12) ∧ KeepX true w.heap.size [m12, m11, m2, m1] (fun _ => False) w50 w51 ∧ ∀ (w52 :
    World), RowKit.Below w.heap.size w w52 → Kept [m12, m11, m2, m1] w51 w52 → R (Ending.returned (Value.bool t12)) w52) ∧ (6 < x8 → ∀ (w53 : World), RowKit.Below w.heap.size w w53
    → Kept [m12, m11, m2, m1] w37 w53 → R (Ending.returned (Value.bool false)) w53)) ∧ (x8 ≤ 3 → ∀ (w54 : World), RowKit.Below w.heap.size w w54 → Kept [m12, m11, m2, m1] w37 w54 →
    R (Ending.returned (Value.bool false)) w54)) ∧ (x19 ≠ x9 → ∀ (w55 : World), RowKit.Below w.heap.size w w55 → Kept [m12, m11, m2, m1] w37 w55 → R (Ending.returned (Value.bool
    false)) w55)) ∧ (x9 ≠ 0 → ∀ (w56 : World), RowKit.Below w.heap.size w w56 → Kept [m12, m11, m2, m1] w37 w56 → R (Ending.returned (Value.bool false)) w56))) ∧ (x19 ≠ x9 → (x9 =
    0 → (x19 = x9 → (3 < x8 → (x8 ≤ 6 → ∀ (w57 : World), RowKit.Below w.heap.size w w57 → Kept [m12, m11, m2, m1] w37 w57 → Calls Try.prog 12 #[] w57 fun (e18 : Ending) (w58 :
    World) => ∃ (t13 : Bool), e18 = Ending.returned (Value.bool t13) ∧ KeepX true w.heap.size [m12, m11, m2, m1] (fun _ => False) w57 w58 ∧ ∀ (w59 : World), RowKit.Below
    w.heap.size w w59 → Kept [m12, m11, m2, m1] w58 w59 → R (Ending.returned (Value.bool t13)) w59) ∧ (6 < x8 → ∀ (w60 : World), RowKit.Below w.heap.size w w60 → Kept [m12, m11,
    m2, m1] w37 w60 → R (Ending.returned (Value.bool false)) w60)) ∧ (x8 ≤ 3 → ∀ (w61 : World), RowKit.Below w.heap.size w w61 → Kept [m12, m11, m2, m1] w37 w61 → R
    (Ending.returned (Value.bool false)) w61)) ∧ (x19 ≠ x9 → ∀ (w62 : World), RowKit.Below w.heap.size w w62 → Kept [m12, m11, m2, m1] w37 w62 → R (Ending.returned (Value.bool
    false)) w62)) ∧ (x9 ≠ 0 → ∀ (w63 : World), RowKit.Below w.heap.size w w63 → Kept [m12, m11, m2, m1] w37 w63 → R (Ending.returned (Value.bool false)) w63))) ∧ (x9 ≠ 7 → (x9 = 0
    → (x19 = x9 → (3 < x8 → (x8 ≤ 6 → ∀ (w64 : World), RowKit.Below w.heap.size w w64 → Kept [m12, m11, m2, m1] w37 w64 → Calls Try.prog 12 #[] w64 fun (e19 : Ending) (w65 : World)
    => ∃ (t14 : Bool), e19 = Ending.returned (Value.bool t14) ∧ KeepX true w.heap.size [m12, m11, m2, m1] (fun _ => False) w64 w65 ∧ ∀ (w66 : World), RowKit.Below w.heap.size w w66
    → Kept [m12, m11, m2, m1] w65 w66 → R (Ending.returned (Value.bool t14)) w66) ∧ (6 < x8 → ∀ (w67 : World), RowKit.Below w.heap.size w w67 → Kept [m12, m11, m2, m1] w37 w67 → R
    (Ending.returned (Value.bool false)) w67)) ∧ (x8 ≤ 3 → ∀ (w68 : World), RowKit.Below w.heap.size w w68 → Kept [m12, m11, m2, m1] w37 w68 → R (Ending.returned (Value.bool
    false)) w68)) ∧ (x19 ≠ x9 → ∀ (w69 : World), RowKit.Below w.heap.size w w69 → Kept [m12, m11, m2, m1] w37 w69 → R (Ending.returned (Value.bool false)) w69)) ∧ (x9 ≠ 0 → ∀ (w70
    : World), RowKit.Below w.heap.size w w70 → Kept [m12, m11, m2, m1] w37 w70 → R (Ending.returned (Value.bool false)) w70))) ∧ ((!t8) = false → (x21 = 0 → (x9 = 0 → (x8 = 0 →
    (x19 = 9 → ∀ (w71 : World), RowKit.Below w.heap.size w w71 → Kept [m12, m11, m2, m1] w37 w71 → RunsTo Try.prog ((eqGuard BinOp.eql 36 (Operand.tmp 128) (Operand.tmp 129)
    (Value.agg #[Value.int IntKind.i64 x17, Value.int IntKind.i64 x18]) (Value.agg #[Value.int IntKind.i64 0, Value.int IntKind.i64 0])) >>= fun _ => binOp BinOp.eql 36 (Value.agg
    #[Value.int IntKind.i64 x17, Value.int IntKind.i64 x18]) (Value.agg #[Value.int IntKind.i64 0, Value.int IntKind.i64 0])) w71 fun (v3 : Value) (w72 : World) => ∃ (t15 : Bool),
    v3 = Value.bool t15 ∧ KeepX true w.heap.size [m12, m11, m2, m1] (fun _ => False) w71 w72 ∧ (t15 = true → ∀ (w73 : World), RowKit.Below w.heap.size w w73 → Kept [m12, m11, m2,
    m1] w72 w73 → Calls Try.prog 12 #[] w73 fun (e20 : Ending) (w74 : World) => ∃ (t16 : Bool), e20 = Ending.returned (Value.bool t16) ∧ KeepX true w.heap.size [m12, m11, m2, m1]
    (fun _ => False) w73 w74 ∧ ∀ (w75 : World), RowKit.Below w.heap.size w w75 → Kept [m12, m11, m2, m1] w74 w75 → R (Ending.returned (Value.bool t16)) w75) ∧ (t15 = false → ∀ (w76
    : World), RowKit.Below w.heap.size w w76 → Kept [m12, m11, m2, m1] w72 w76 → R (Ending.returned (Value.bool false)) w76)) ∧ (x19 ≠ 9 → ∀ (w77 : World), RowKit.Below w.heap.size
    w w77 → Kept [m12, m11, m2, m1] w37 w77 → R (Ending.returned (Value.bool false)) w77)) ∧ (x8 ≠ 0 → ∀ (w78 : World), RowKit.Below w.heap.size w w78 → Kept [m12, m11, m2, m1] w37
    w78 → R (Ending.returned (Value.bool false)) w78)) ∧ (x9 ≠ 0 → ∀ (w79 : World), RowKit.Below w.heap.size w w79 → Kept [m12, m11, m2, m1] w37 w79 → R (Ending.returned
    (Value.bool false)) w79)) ∧ (x21 ≠ 0 → (x9 = 0 → (x19 = 0 → (x8 = x21 → ∀ (w80 : World), RowKit.Below w.heap.size w w80 → Kept [m12, m11, m2, m1] w37 w80 → RunsTo Try.prog
    ((eqGuard BinOp.eql 36 (Operand.tmp 147) (Operand.tmp 148) (Value.agg #[Value.int IntKind.i64 x17, Value.int IntKind.i64 x18]) (Value.agg #[Value.int IntKind.i64 x22, Value.int
    IntKind.i64 x23])) >>= fun _ => binOp BinOp.eql 36 (Value.agg #[Value.int IntKind.i64 x17, Value.int IntKind.i64 x18]) (Value.agg #[Value.int IntKind.i64 x22, Value.int
    IntKind.i64 x23])) w80 fun (v4 : Value) (w81 : World) => ∃ (t17 : Bool), v4 = Value.bool t17 ∧ KeepX true w.heap.size [m12, m11, m2, m1] (fun _ => False) w80 w81 ∧ (t17 = true
    → ∀ (w82 : World), RowKit.Below w.heap.size w w82 → Kept [m12, m11, m2, m1] w81 w82 → Calls Try.prog 12 #[] w82 fun (e21 : Ending) (w83 : World) => ∃ (t18 : Bool), e21 =
    Ending.returned (Value.bool t18) ∧ KeepX true w.heap.size [m12, m11, m2, m1] (fun _ => False) w82 w83 ∧ ∀ (w84 : World), RowKit.Below w.heap.size w w84 → Kept [m12, m11, m2,
    m1] w83 w84 → R (Ending.returned (Value.bool t18)) w84) ∧ (t17 = false → ∀ (w85 : World), RowKit.Below w.heap.size w w85 → Kept [m12, m11, m2, m1] w81 w85 → R (Ending.returned
    (Value.bool false)) w85)) ∧ (x8 ≠ x21 → ∀ (w86 : World), RowKit.Below w.heap.size w w86 → Kept [m12, m11, m2, m1] w37 w86 → R (Ending.returned (Value.bool false)) w86)) ∧ (x19
    ≠ 0 → ∀ (w87 : World), RowKit.Below w.heap.size w w87 → Kept [m12, m11, m2, m1] w37 w87 → R (Ending.returned (Value.bool false)) w87)) ∧ (x9 ≠ 0 → ∀ (w88 : World), RowKit.Below
    w.heap.size w w88 → Kept [m12, m11, m2, m1] w37 w88 → R (Ending.returned (Value.bool false)) w88))))) ∧ ((!t5) = false → (x20 ≠ 0 → (x9 = x20 → (x19 = x20 → (x8 = 0 → ∀ (w89 :
    World), RowKit.Below w.heap.size w w89 → Kept [m11, m2, m1] w26 w89 → RunsTo Try.prog ((eqGuard BinOp.eql 36 (Operand.tmp 63) (Operand.tmp 64) (Value.agg #[Value.int
    IntKind.i64 x17, Value.int IntKind.i64 x18]) (Value.agg #[Value.int IntKind.i64 0, Value.int IntKind.i64 0])) >>= fun _ => binOp BinOp.eql 36 (Value.agg #[Value.int IntKind.i64
    x17, Value.int IntKind.i64 x18]) (Value.agg #[Value.int IntKind.i64 0, Value.int IntKind.i64 0])) w89 fun (v5 : Value) (w90 : World) => ∃ (t19 : Bool), v5 = Value.bool t19 ∧
    KeepX true w.heap.size [m11, m2, m1] (fun _ => False) w89 w90 ∧ (t19 = true → ∀ (w91 : World), RowKit.Below w.heap.size w w91 → Kept [m11, m2, m1] w90 w91 → Calls Try.prog 12
    #[] w91 fun (e22 : Ending) (w92 : World) => ∃ (t20 : Bool), e22 = Ending.returned (Value.bool t20) ∧ KeepX true w.heap.size [m11, m2, m1] (fun _ => False) w91 w92 ∧ ∀ (w93 :
    World), RowKit.Below w.heap.size w w93 → Kept [m11, m2, m1] w92 w93 → R (Ending.returned (Value.bool t20)) w93) ∧ (t19 = false → ∀ (w94 : World), RowKit.Below w.heap.size w w94
    → Kept [m11, m2, m1] w90 w94 → R (Ending.returned (Value.bool false)) w94)) ∧ (x8 ≠ 0 → ∀ (w95 : World), RowKit.Below w.heap.size w w95 → Kept [m11, m2, m1] w26 w95 → R
    (Ending.returned (Value.bool false)) w95)) ∧ (x19 ≠ x20 → ∀ (w96 : World), RowKit.Below w.heap.size w w96 → Kept [m11, m2, m1] w26 w96 → R (Ending.returned (Value.bool false))
    w96)) ∧ (x9 ≠ x20 → ∀ (w97 : World), RowKit.Below w.heap.size w w97 → Kept [m11, m2, m1] w26 w97 → R (Ending.returned (Value.bool false)) w97)) ∧ (x20 = 0 → ∀ (w98 : World),
    RowKit.Below w.heap.size w w98 → Kept [m11, m2, m1] w26 w98 → Calls Try.prog 26 #[Value.agg #[Value.int IntKind.i64 r0, Value.int IntKind.i64 r1, Value.int IntKind.i64 r2,
    Value.int IntKind.i64 r3, Value.int IntKind.i64 r4, Value.slice r5a r5n r5c], Value.agg #[Value.int IntKind.i64 s0, Value.int IntKind.i64 s1, Value.slice s2a s2n s2c],
    Value.int IntKind.i64 3] w98 fun (e23 : Ending) (w99 : World) => ∃ (x24 : Int), ∃ (x25 : Int), ∃ (x26 : Int), ∃ (t21 : Bool), e23 = Ending.returned (Value.tuple #[Value.int
    IntKind.i64 x24, Value.agg #[Value.int IntKind.i64 x25, Value.int IntKind.i64 x26], Value.bool t21]) ∧ KeepX true w.heap.size [m11, m2, m1] (fun _ => False) w98 w99 ∧ ∀ (m13 :
    Nat), w99.heap.size ≤ m13 → ((!t21) = true → (x9 = 7 → (x19 = x9 → (x8 = 0 → ∀ (w100 : World), RowKit.Below w.heap.size w w100 → Kept [m13, m11, m2, m1] w99 w100 → RunsTo
    Try.prog ((eqGuard BinOp.eql 36 (Operand.tmp 91) (Operand.tmp 92) (Value.agg #[Value.int IntKind.i64 x17, Value.int IntKind.i64 x18]) (Value.agg #[Value.int IntKind.i64 0,
    Value.int IntKind.i64 0])) >>= fun _ => binOp BinOp.eql 36 (Value.agg #[Value.int IntKind.i64 x17, Value.int IntKind.i64 x18]) (Value.agg #[Value.int IntKind.i64 0, Value.int
    IntKind.i64 0])) w100 fun (v6 : Value) (w101 : World) => ∃ (t22 : Bool), v6 = Value.bool t22 ∧ KeepX true w.heap.size [m13, m11, m2, m1] (fun _ => False) w100 w101 ∧ (t22 =
    true → ∀ (w102 : World), RowKit.Below w.heap.size w w102 → Kept [m13, m11, m2, m1] w101 w102 → Calls Try.prog 12 #[] w102 fun (e24 : Ending) (w103 : World) => ∃ (t23 : Bool),
    e24 = Ending.returned (Value.bool t23) ∧ KeepX true w.heap.size [m13, m11, m2, m1] (fun _ => False) w102 w103 ∧ ∀ (w104 : World), RowKit.Below w.heap.size w w104 → Kept [m13,
    m11, m2, m1] w103 w104 → R (Ending.returned (Value.bool t23)) w104) ∧ (t22 = false → (x9 = 0 → (x19 = x9 → (3 < x8 → (x8 ≤ 6 → ∀ (w105 : World), RowKit.Below w.heap.size w w105
    → Kept [m13, m11, m2, m1] w101 w105 → Calls Try.prog 12 #[] w105 fun (e25 : Ending) (w106 : World) => ∃ (t24 : Bool), e25 = Ending.returned (Value.bool t24) ∧ KeepX true
    w.heap.size [m13, m11, m2, m1] (fun _ => False) w105 w106 ∧ ∀ (w107 : World), RowKit.Below w.heap.size w w107 → Kept [m13, m11, m2, m1] w106 w107 → R (Ending.returned
    (Value.bool t24)) w107) ∧ (6 < x8 → ∀ (w108 : World), RowKit.Below w.heap.size w w108 → Kept [m13, m11, m2, m1] w101 w108 → R (Ending.returned (Value.bool false)) w108)) ∧ (x8
    ≤ 3 → ∀ (w109 : World), RowKit.Below w.heap.size w w109 → Kept [m13, m11, m2, m1] w101 w109 → R (Ending.returned (Value.bool false)) w109)) ∧ (x19 ≠ x9 → ∀ (w110 : World),
    RowKit.Below w.heap.size w w110 → Kept [m13, m11, m2, m1] w101 w110 → R (Ending.returned (Value.bool false)) w110)) ∧ (x9 ≠ 0 → ∀ (w111 : World), RowKit.Below w.heap.size w
    w111 → Kept [m13, m11, m2, m1] w101 w111 → R (Ending.returned (Value.bool false)) w111))) ∧ (x8 ≠ 0 → (x9 = 0 → (x19 = x9 → (3 < x8 → (x8 ≤ 6 → ∀ (w112 : World), RowKit.Below
    w.heap.size w w112 → Kept [m13, m11, m2, m1] w99 w112 → Calls Try.prog 12 #[] w112 fun (e26 : Ending) (w113 : World) => ∃ (t25 : Bool), e26 = Ending.returned (Value.bool t25) ∧
    KeepX true w.heap.size [m13, m11, m2, m1] (fun _ => False) w112 w113 ∧ ∀ (w114 : World), RowKit.Below w.heap.size w w114 → Kept [m13, m11, m2, m1] w113 w114 → R
    (Ending.returned (Value.bool t25)) w114) ∧ (6 < x8 → ∀ (w115 : World), RowKit.Below w.heap.size w w115 → Kept [m13, m11, m2, m1] w99 w115 → R (Ending.returned (Value.bool
    false)) w115)) ∧ (x8 ≤ 3 → ∀ (w116 : World), RowKit.Below w.heap.size w w116 → Kept [m13, m11, m2, m1] w99 w116 → R (Ending.returned (Value.bool false)) w116)) ∧ (x19 ≠ x9 → ∀
    (w117 : World), RowKit.Below w.heap.size w w117 → Kept [m13, m11, m2, m1] w99 w117 → R (Ending.returned (Value.bool false)) w117)) ∧ (x9 ≠ 0 → ∀ (w118 : World), RowKit.Below
    w.heap.size w w118 → Kept [m13, m11, m2, m1] w99 w118 → R (Ending.returned (Value.bool false)) w118))) ∧ (x19 ≠ x9 → (x9 = 0 → (x19 = x9 → (3 < x8 → (x8 ≤ 6 → ∀ (w119 : World),
    RowKit.Below w.heap.size w w119 → Kept [m13, m11, m2, m1] w99 w119 → Calls Try.prog 12 #[] w119 fun (e27 : Ending) (w120 : World) => ∃ (t26 : Bool), e27 = Ending.returned
    (Value.bool t26) ∧ KeepX true w.heap.size [m13, m11, m2, m1] (fun _ => False) w119 w120 ∧ ∀ (w121 : World), RowKit.Below w.heap.size w w121 → Kept [m13, m11, m2, m1] w120 w121
    → R (Ending.returned (Value.bool t26)) w121) ∧ (6 < x8 → ∀ (w122 : World), RowKit.Below w.heap.size w w122 → Kept [m13, m11, m2, m1] w99 w122 → R (Ending.returned (Value.bool
    false)) w122)) ∧ (x8 ≤ 3 → ∀ (w123 : World), RowKit.Below w.heap.size w w123 → Kept [m13, m11, m2, m1] w99 w123 → R (Ending.returned (Value.bool false)) w123)) ∧ (x19 ≠ x9 → ∀
    (w124 : World), RowKit.Below w.heap.size w w124 → Kept [m13, m11, m2, m1] w99 w124 → R (Ending.returned (Value.bool false)) w124)) ∧ (x9 ≠ 0 → ∀ (w125 : World), RowKit.Below
    w.heap.size w w125 → Kept [m13, m11, m2, m1] w99 w125 → R (Ending.returned (Value.bool false)) w125))) ∧ (x9 ≠ 7 → (x9 = 0 → (x19 = x9 → (3 < x8 → (x8 ≤ 6 → ∀ (w126 : World),
    RowKit.Below w.heap.size w w126 → Kept [m13, m11, m2, m1] w99 w126 → Calls Try.prog 12 #[] w126 fun (e28 : Ending) (w127 : World) => ∃ (t27 : Bool), e28 = Ending.returned
    (Value.bool t27) ∧ KeepX true w.heap.size [m13, m11, m2, m1] (fun _ => False) w126 w127 ∧ ∀ (w128 : World), RowKit.Below w.heap.size w w128 → Kept [m13, m11, m2, m1] w127 w128
    → R (Ending.returned (Value.bool t27)) w128) ∧ (6 < x8 → ∀ (w129 : World), RowKit.Below w.heap.size w w129 → Kept [m13, m11, m2, m1] w99 w129 → R (Ending.returned (Value.bool
    false)) w129)) ∧ (x8 ≤ 3 → ∀ (w130 : World), RowKit.Below w.heap.size w w130 → Kept [m13, m11, m2, m1] w99 w130 → R (Ending.returned (Value.bool false)) w130)) ∧ (x19 ≠ x9 → ∀
    (w131 : World), RowKit.Below w.heap.size w w131 → Kept [m13, m11, m2, m1] w99 w131 → R (Ending.returned (Value.bool false)) w131)) ∧ (x9 ≠ 0 → ∀ (w132 : World), RowKit.Below
    w.heap.size w w132 → Kept [m13, m11, m2, m1] w99 w132 → R (Ending.returned (Value.bool false)) w132))) ∧ ((!t21) = false → (x24 = 0 → (x9 = 0 → (x8 = 0 → (x19 = 9 → ∀ (w133 :
    World), RowKit.Below w.heap.size w w133 → Kept [m13, m11, m2, m1] w99 w133 → RunsTo Try.prog ((eqGuard BinOp.eql 36 (Operand.tmp 128) (Operand.tmp 129) (Value.agg #[Value.int
    IntKind.i64 x17, Value.int IntKind.i64 x18]) (Value.agg #[Value.int IntKind.i64 0, Value.int IntKind.i64 0])) >>= fun _ => binOp BinOp.eql 36 (Value.agg #[Value.int IntKind.i64
    x17, Value.int IntKind.i64 x18]) (Value.agg #[Value.int IntKind.i64 0, Value.int IntKind.i64 0])) w133 fun (v7 : Value) (w134 : World) => ∃ (t28 : Bool), v7 = Value.bool t28 ∧
    KeepX true w.heap.size [m13, m11, m2, m1] (fun _ => False) w133 w134 ∧ (t28 = true → ∀ (w135 : World), RowKit.Below w.heap.size w w135 → Kept [m13, m11, m2, m1] w134 w135 →
    Calls Try.prog 12 #[] w135 fun (e29 : Ending) (w136 : World) => ∃ (t29 : Bool), e29 = Ending.returned (Value.bool t29) ∧ KeepX true w.heap.size [m13, m11, m2, m1] (fun _ =>
    False) w135 w136 ∧ ∀ (w137 : World), RowKit.Below w.heap.size w w137 → Kept [m13, m11, m2, m1] w136 w137 → R (Ending.returned (Value.bool t29)) w137) ∧ (t28 = false → ∀ (w138 :
    World), RowKit.Below w.heap.size w w138 → Kept [m13, m11, m2, m1] w134 w138 → R (Ending.returned (Value.bool false)) w138)) ∧ (x19 ≠ 9 → ∀ (w139 : World), RowKit.Below
    w.heap.size w w139 → Kept [m13, m11, m2, m1] w99 w139 → R (Ending.returned (Value.bool false)) w139)) ∧ (x8 ≠ 0 → ∀ (w140 : World), RowKit.Below w.heap.size w w140 → Kept [m13,
    m11, m2, m1] w99 w140 → R (Ending.returned (Value.bool false)) w140)) ∧ (x9 ≠ 0 → ∀ (w141 : World), RowKit.Below w.heap.size w w141 → Kept [m13, m11, m2, m1] w99 w141 → R
    (Ending.returned (Value.bool false)) w141)) ∧ (x24 ≠ 0 → (x9 = 0 → (x19 = 0 → (x8 = x24 → ∀ (w142 : World), RowKit.Below w.heap.size w w142 → Kept [m13, m11, m2, m1] w99 w142 →
    RunsTo Try.prog ((eqGuard BinOp.eql 36 (Operand.tmp 147) (Operand.tmp 148) (Value.agg #[Value.int IntKind.i64 x17, Value.int IntKind.i64 x18]) (Value.agg #[Value.int
    IntKind.i64 x25, Value.int IntKind.i64 x26])) >>= fun _ => binOp BinOp.eql 36 (Value.agg #[Value.int IntKind.i64 x17, Value.int IntKind.i64 x18]) (Value.agg #[Value.int
    IntKind.i64 x25, Value.int IntKind.i64 x26])) w142 fun (v8 : Value) (w143 : World) => ∃ (t30 : Bool), v8 = Value.bool t30 ∧ KeepX true w.heap.size [m13, m11, m2, m1] (fun _ =>
    False) w142 w143 ∧ (t30 = true → ∀ (w144 : World), RowKit.Below w.heap.size w w144 → Kept [m13, m11, m2, m1] w143 w144 → Calls Try.prog 12 #[] w144 fun (e30 : Ending) (w145 :
    World) => ∃ (t31 : Bool), e30 = Ending.returned (Value.bool t31) ∧ KeepX true w.heap.size [m13, m11, m2, m1] (fun _ => False) w144 w145 ∧ ∀ (w146 : World), RowKit.Below
    w.heap.size w w146 → Kept [m13, m11, m2, m1] w145 w146 → R (Ending.returned (Value.bool t31)) w146) ∧ (t30 = false → ∀ (w147 : World), RowKit.Below w.heap.size w w147 → Kept
    [m13, m11, m2, m1] w143 w147 → R (Ending.returned (Value.bool false)) w147)) ∧ (x8 ≠ x24 → ∀ (w148 : World), RowKit.Below w.heap.size w w148 → Kept [m13, m11, m2, m1] w99 w148
    → R (Ending.returned (Value.bool false)) w148)) ∧ (x19 ≠ 0 → ∀ (w149 : World), RowKit.Below w.heap.size w w149 → Kept [m13, m11, m2, m1] w99 w149 → R (Ending.returned
    (Value.bool false)) w149)) ∧ (x9 ≠ 0 → ∀ (w150 : World), RowKit.Below w.heap.size w w150 → Kept [m13, m11, m2, m1] w99 w150 → R (Ending.returned (Value.bool false)) w150))))))
    ∧ (x20 ≠ 0 → (x20 ≠ 0 → (x9 = x20 → (x19 = x20 → (x8 = 0 → ∀ (w151 : World), RowKit.Below w.heap.size w w151 → Kept [m11, m2, m1] w24 w151 → RunsTo Try.prog ((eqGuard BinOp.eql
    36 (Operand.tmp 63) (Operand.tmp 64) (Value.agg #[Value.int IntKind.i64 x17, Value.int IntKind.i64 x18]) (Value.agg #[Value.int IntKind.i64 0, Value.int IntKind.i64 0])) >>=
    fun _ => binOp BinOp.eql 36 (Value.agg #[Value.int IntKind.i64 x17, Value.int IntKind.i64 x18]) (Value.agg #[Value.int IntKind.i64 0, Value.int IntKind.i64 0])) w151 fun (v9 :
    Value) (w152 : World) => ∃ (t32 : Bool), v9 = Value.bool t32 ∧ KeepX true w.heap.size [m11, m2, m1] (fun _ => False) w151 w152 ∧ (t32 = true → ∀ (w153 : World), RowKit.Below
    w.heap.size w w153 → Kept [m11, m2, m1] w152 w153 → Calls Try.prog 12 #[] w153 fun (e31 : Ending) (w154 : World) => ∃ (t33 : Bool), e31 = Ending.returned (Value.bool t33) ∧
    KeepX true w.heap.size [m11, m2, m1] (fun _ => False) w153 w154 ∧ ∀ (w155 : World), RowKit.Below w.heap.size w w155 → Kept [m11, m2, m1] w154 w155 → R (Ending.returned
    (Value.bool t33)) w155) ∧ (t32 = false → ∀ (w156 : World), RowKit.Below w.heap.size w w156 → Kept [m11, m2, m1] w152 w156 → R (Ending.returned (Value.bool false)) w156)) ∧ (x8
    ≠ 0 → ∀ (w157 : World), RowKit.Below w.heap.size w w157 → Kept [m11, m2, m1] w24 w157 → R (Ending.returned (Value.bool false)) w157)) ∧ (x19 ≠ x20 → ∀ (w158 : World),
    RowKit.Below w.heap.size w w158 → Kept [m11, m2, m1] w24 w158 → R (Ending.returned (Value.bool false)) w158)) ∧ (x9 ≠ x20 → ∀ (w159 : World), RowKit.Below w.heap.size w w159 →
    Kept [m11, m2, m1] w24 w159 → R (Ending.returned (Value.bool false)) w159)) ∧ (x20 = 0 → ∀ (w160 : World), RowKit.Below w.heap.size w w160 → Kept [m11, m2, m1] w24 w160 → Calls
    Try.prog 26 #[Value.agg #[Value.int IntKind.i64 r0, Value.int IntKind.i64 r1, Value.int IntKind.i64 r2, Value.int IntKind.i64 r3, Value.int IntKind.i64 r4, Value.slice r5a r5n
    r5c], Value.agg #[Value.int IntKind.i64 s0, Value.int IntKind.i64 s1, Value.slice s2a s2n s2c], Value.int IntKind.i64 3] w160 fun (e32 : Ending) (w161 : World) => ∃ (x27 :
    Int), ∃ (x28 : Int), ∃ (x29 : Int), ∃ (t34 : Bool), e32 = Ending.returned (Value.tuple #[Value.int IntKind.i64 x27, Value.agg #[Value.int IntKind.i64 x28, Value.int IntKind.i64
    x29], Value.bool t34]) ∧ KeepX true w.heap.size [m11, m2, m1] (fun _ => False) w160 w161 ∧ ∀ (m14 : Nat), w161.heap.size ≤ m14 → ((!t34) = true → (x9 = 7 → (x19 = x9 → (x8 = 0
    → ∀ (w162 : World), RowKit.Below w.heap.size w w162 → Kept [m14, m11, m2, m1] w161 w162 → RunsTo Try.prog ((eqGuard BinOp.eql 36 (Operand.tmp 91) (Operand.tmp 92) (Value.agg
    #[Value.int IntKind.i64 x17, Value.int IntKind.i64 x18]) (Value.agg #[Value.int IntKind.i64 0, Value.int IntKind.i64 0])) >>= fun _ => binOp BinOp.eql 36 (Value.agg #[Value.int
    IntKind.i64 x17, Value.int IntKind.i64 x18]) (Value.agg #[Value.int IntKind.i64 0, Value.int IntKind.i64 0])) w162 fun (v10 : Value) (w163 : World) => ∃ (t35 : Bool), v10 =
    Value.bool t35 ∧ KeepX true w.heap.size [m14, m11, m2, m1] (fun _ => False) w162 w163 ∧ (t35 = true → ∀ (w164 : World), RowKit.Below w.heap.size w w164 → Kept [m14, m11, m2,
    m1] w163 w164 → Calls Try.prog 12 #[] w164 fun (e33 : Ending) (w165 : World) => ∃ (t36 : Bool), e33 = Ending.returned (Value.bool t36) ∧ KeepX true w.heap.size [m14, m11, m2,
    m1] (fun _ => False) w164 w165 ∧ ∀ (w166 : World), RowKit.Below w.heap.size w w166 → Kept [m14, m11, m2, m1] w165 w166 → R (Ending.returned (Value.bool t36)) w166) ∧ (t35 =
    false → (x9 = 0 → (x19 = x9 → (3 < x8 → (x8 ≤ 6 → ∀ (w167 : World), RowKit.Below w.heap.size w w167 → Kept [m14, m11, m2, m1] w163 w167 → Calls Try.prog 12 #[] w167 fun (e34 :
    Ending) (w168 : World) => ∃ (t37 : Bool), e34 = Ending.returned (Value.bool t37) ∧ KeepX true w.heap.size [m14, m11, m2, m1] (fun _ => False) w167 w168 ∧ ∀ (w169 : World),
    RowKit.Below w.heap.size w w169 → Kept [m14, m11, m2, m1] w168 w169 → R (Ending.returned (Value.bool t37)) w169) ∧ (6 < x8 → ∀ (w170 : World), RowKit.Below w.heap.size w w170 →
    Kept [m14, m11, m2, m1] w163 w170 → R (Ending.returned (Value.bool false)) w170)) ∧ (x8 ≤ 3 → ∀ (w171 : World), RowKit.Below w.heap.size w w171 → Kept [m14, m11, m2, m1] w163
    w171 → R (Ending.returned (Value.bool false)) w171)) ∧ (x19 ≠ x9 → ∀ (w172 : World), RowKit.Below w.heap.size w w172 → Kept [m14, m11, m2, m1] w163 w172 → R (Ending.returned
    (Value.bool false)) w172)) ∧ (x9 ≠ 0 → ∀ (w173 : World), RowKit.Below w.heap.size w w173 → Kept [m14, m11, m2, m1] w163 w173 → R (Ending.returned (Value.bool false)) w173))) ∧
    (x8 ≠ 0 → (x9 = 0 → (x19 = x9 → (3 < x8 → (x8 ≤ 6 → ∀ (w174 : World), RowKit.Below w.heap.size w w174 → Kept [m14, m11, m2, m1] w161 w174 → Calls Try.prog 12 #[] w174 fun (e35
    : Ending) (w175 : World) => ∃ (t38 : Bool), e35 = Ending.returned (Value.bool t38) ∧ KeepX true w.heap.size [m14, m11, m2, m1] (fun _ => False) w174 w175 ∧ ∀ (w176 : World),
    RowKit.Below w.heap.size w w176 → Kept [m14, m11, m2, m1] w175 w176 → R (Ending.returned (Value.bool t38)) w176) ∧ (6 < x8 → ∀ (w177 : World), RowKit.Below w.heap.size w w177 →
    Kept [m14, m11, m2, m1] w161 w177 → R (Ending.returned (Value.bool false)) w177)) ∧ (x8 ≤ 3 → ∀ (w178 : World), RowKit.Below w.heap.size w w178 → Kept [m14, m11, m2, m1] w161
    w178 → R (Ending.returned (Value.bool false)) w178)) ∧ (x19 ≠ x9 → ∀ (w179 : World), RowKit.Below w.heap.size w w179 → Kept [m14, m11, m2, m1] w161 w179 → R (Ending.returned
    (Value.bool false)) w179)) ∧ (x9 ≠ 0 → ∀ (w180 : World), RowKit.Below w.heap.size w w180 → Kept [m14, m11, m2, m1] w161 w180 → R (Ending.returned (Value.bool false)) w180))) ∧
    (x19 ≠ x9 → (x9 = 0 → (x19 = x9 → (3 < x8 → (x8 ≤ 6 → ∀ (w181 : World), RowKit.Below w.heap.size w w181 → Kept [m14, m11, m2, m1] w161 w181 → Calls Try.prog 12 #[] w181 fun
    (e36 : Ending) (w182 : World) => ∃ (t39 : Bool), e36 = Ending.returned (Value.bool t39) ∧ KeepX true w.heap.size [m14, m11, m2, m1] (fun _ => False) w181 w182 ∧ ∀ (w183 :
    World), RowKit.Below w.heap.size w w183 → Kept [m14, m11, m2, m1] w182 w183 → R (Ending.returned (Value.bool t39)) w183) ∧ (6 < x8 → ∀ (w184 : World), RowKit.Below w.heap.size
    w w184 → Kept [m14, m11, m2, m1] w161 w184 → R (Ending.returned (Value.bool false)) w184)) ∧ (x8 ≤ 3 → ∀ (w185 : World), RowKit.Below w.heap.size w w185 → Kept [m14, m11, m2,
    m1] w161 w185 → R (Ending.returned (Value.bool false)) w185)) ∧ (x19 ≠ x9 → ∀ (w186 : World), RowKit.Below w.heap.size w w186 → Kept [m14, m11, m2, m1] w161 w186 → R
    (Ending.returned (Value.bool false)) w186)) ∧ (x9 ≠ 0 → ∀ (w187 : World), RowKit.Below w.heap.size w w187 → Kept [m14, m11, m2, m1] w161 w187 → R (Ending.returned (Value.bool
    false)) w187))) ∧ (x9 ≠ 7 → (x9 = 0 → (x19 = x9 → (3 < x8 → (x8 ≤ 6 → ∀ (w188 : World), RowKit.Below w.heap.size w w188 → Kept [m14, m11, m2, m1] w161 w188 → Calls Try.prog 12
    #[] w188 fun (e37 : Ending) (w189 : World) => ∃ (t40 : Bool), e37 = Ending.returned (Value.bool t40) ∧ KeepX true w.heap.size [m14, m11, m2, m1] (fun _ => False) w188 w189 ∧ ∀
    (w190 : World), RowKit.Below w.heap.size w w190 → Kept [m14, m11, m2, m1] w189 w190 → R (Ending.returned (Value.bool t40)) w190) ∧ (6 < x8 → ∀ (w191 : World), RowKit.Below
    w.heap.size w w191 → Kept [m14, m11, m2, m1] w161 w191 → R (Ending.returned (Value.bool false)) w191)) ∧ (x8 ≤ 3 → ∀ (w192 : World), RowKit.Below w.heap.size w w192 → Kept
    [m14, m11, m2, m1] w161 w192 → R (Ending.returned (Value.bool false)) w192)) ∧ (x19 ≠ x9 → ∀ (w193 : World), RowKit.Below w.heap.size w w193 → Kept [m14, m11, m2, m1] w161 w193
    → R (Ending.returned (Value.bool false)) w193)) ∧ (x9 ≠ 0 → ∀ (w194 : World), RowKit.Below w.heap.size w w194 → Kept [m14, m11, m2, m1] w161 w194 → R (Ending.returned
    (Value.bool false)) w194))) ∧ ((!t34) = false → (x27 = 0 → (x9 = 0 → (x8 = 0 → (x19 = 9 → ∀ (w195 : World), RowKit.Below w.heap.size w w195 → Kept [m14, m11, m2, m1] w161 w195
    → RunsTo Try.prog ((eqGuard BinOp.eql 36 (Operand.tmp 128) (Operand.tmp 129) (Value.agg #[Value.int IntKind.i64 x17, Value.int IntKind.i64 x18]) (Value.agg #[Value.int
    IntKind.i64 0, Value.int IntKind.i64 0])) >>= fun _ => binOp BinOp.eql 36 (Value.agg #[Value.int IntKind.i64 x17, Value.int IntKind.i64 x18]) (Value.agg #[Value.int IntKind.i64
    0, Value.int IntKind.i64 0])) w195 fun (v11 : Value) (w196 : World) => ∃ (t41 : Bool), v11 = Value.bool t41 ∧ KeepX true w.heap.size [m14, m11, m2, m1] (fun _ => False) w195
    w196 ∧ (t41 = true → ∀ (w197 : World), RowKit.Below w.heap.size w w197 → Kept [m14, m11, m2, m1] w196 w197 → Calls Try.prog 12 #[] w197 fun (e38 : Ending) (w198 : World) => ∃
    (t42 : Bool), e38 = Ending.returned (Value.bool t42) ∧ KeepX true w.heap.size [m14, m11, m2, m1] (fun _ => False) w197 w198 ∧ ∀ (w199 : World), RowKit.Below w.heap.size w w199
    → Kept [m14, m11, m2, m1] w198 w199 → R (Ending.returned (Value.bool t42)) w199) ∧ (t41 = false → ∀ (w200 : World), RowKit.Below w.heap.size w w200 → Kept [m14, m11, m2, m1]
    w196 w200 → R (Ending.returned (Value.bool false)) w200)) ∧ (x19 ≠ 9 → ∀ (w201 : World), RowKit.Below w.heap.size w w201 → Kept [m14, m11, m2, m1] w161 w201 → R
    (Ending.returned (Value.bool false)) w201)) ∧ (x8 ≠ 0 → ∀ (w202 : World), RowKit.Below w.heap.size w w202 → Kept [m14, m11, m2, m1] w161 w202 → R (Ending.returned (Value.bool
    false)) w202)) ∧ (x9 ≠ 0 → ∀ (w203 : World), RowKit.Below w.heap.size w w203 → Kept [m14, m11, m2, m1] w161 w203 → R (Ending.returned (Value.bool false)) w203)) ∧ (x27 ≠ 0 →
    (x9 = 0 → (x19 = 0 → (x8 = x27 → ∀ (w204 : World), RowKit.Below w.heap.size w w204 → Kept [m14, m11, m2, m1] w161 w204 → RunsTo Try.prog ((eqGuard BinOp.eql 36 (Operand.tmp
    147) (Operand.tmp 148) (Value.agg #[Value.int IntKind.i64 x17, Value.int IntKind.i64 x18]) (Value.agg #[Value.int IntKind.i64 x28, Value.int IntKind.i64 x29])) >>= fun _ =>
    binOp BinOp.eql 36 (Value.agg #[Value.int IntKind.i64 x17, Value.int IntKind.i64 x18]) (Value.agg #[Value.int IntKind.i64 x28, Value.int IntKind.i64 x29])) w204 fun (v12 :
    Value) (w205 : World) => ∃ (t43 : Bool), v12 = Value.bool t43 ∧ KeepX true w.heap.size [m14, m11, m2, m1] (fun _ => False) w204 w205 ∧ (t43 = true → ∀ (w206 : World),
    RowKit.Below w.heap.size w w206 → Kept [m14, m11, m2, m1] w205 w206 → Calls Try.prog 12 #[] w206 fun (e39 : Ending) (w207 : World) => ∃ (t44 : Bool), e39 = Ending.returned
    (Value.bool t44) ∧ KeepX true w.heap.size [m14, m11, m2, m1] (fun _ => False) w206 w207 ∧ ∀ (w208 : World), RowKit.Below w.heap.size w w208 → Kept [m14, m11, m2, m1] w207 w208
    → R (Ending.returned (Value.bool t44)) w208) ∧ (t43 = false → ∀ (w209 : World), RowKit.Below w.heap.size w w209 → Kept [m14, m11, m2, m1] w205 w209 → R (Ending.returned
    (Value.bool false)) w209)) ∧ (x8 ≠ x27 → ∀ (w210 : World), RowKit.Below w.heap.size w w210 → Kept [m14, m11, m2, m1] w161 w210 → R (Ending.returned (Value.bool false)) w210)) ∧
    (x19 ≠ 0 → ∀ (w211 : World), RowKit.Below w.heap.size w w211 → Kept [m14, m11, m2, m1] w161 w211 → R (Ending.returned (Value.bool false)) w211)) ∧ (x9 ≠ 0 → ∀ (w212 : World),
    RowKit.Below w.heap.size w w212 → Kept [m14, m11, m2, m1] w161 w212 → R (Ending.returned (Value.bool false)) w212)))))))) : Calls Try.prog 4 #[Value.agg #[Value.int IntKind.i64
    r0, Value.int IntKind.i64 r1, Value.int IntKind.i64 r2, Value.int IntKind.i64 r3, Value.int IntKind.i64 r4, Value.slice r5a r5n r5c], Value.agg #[Value.int IntKind.i64 s0,
    Value.int IntKind.i64 s1, Value.slice s2a s2n s2c]] w R := calls_of_vc (pure := true) (wrapAt := []) (muts := []) (esc := []) (args := [SV.pv (PV.agg [Lf.int IntKind.i64 r0,
    Lf.int IntKind.i64 r1, Lf.int IntKind.i64 r2, Lf.int IntKind.i64 r3, Lf.int IntKind.i64 r4, Lf.sl r5a r5n r5c]), SV.pv (PV.agg [Lf.int IntKind.i64 s0, Lf.int IntKind.i64 s1,
    Lf.sl s2a s2n s2c])]) (vs := [Value.agg #[Value.int IntKind.i64 r0, Value.int IntKind.i64 r1, Value.int IntKind.i64 r2, Value.int IntKind.i64 r3, Value.int IntKind.i64 r4,
    Value.slice r5a r5n r5c], Value.agg #[Value.int IntKind.i64 s0, Value.int IntKind.i64 s1, Value.slice s2a s2n s2c]]) Try.func4 rfl rfl rfl (Eq.mp (by kernel_rfl) h) 
end Go.Proofs
end
section
/- RateFewest: the walk. -/
namespace Go.Proofs.R07
open Go.Vc Go.RowKit Go.Proofs

theorem known_tail {bs : List Nat} {w w' : World} : Calls Try.prog 12 #[] w' fun e1 w1 => ∃ t : Bool, e1 = .returned (.bool t) ∧ KeepX true w.heap.size bs (fun _ => False) w' w1 ∧
    ∀ w2 : World, Below w.heap.size w w2 → Kept bs w1 w2 → Pure w (.bool true) (.returned (.bool t)) w2 :=
  Pure.calls (known_any w') fun w1 hb1 => ⟨_, rfl, .all hb1, fun w2 hb2 _ => ⟨rfl, hb2⟩⟩

theorem act_tail {bs : List Nat} {w w' : World} {x y : Operand} {a b c d : Int} (h : a = c ∧ b = d) {F : World → Prop} :
    RunsTo Try.prog ((eqGuard .eql 36 x y (.agg #[I a, I b]) (.agg #[I c, I d])) >>= fun _ => binOp .eql 36 (.agg #[I a, I b]) (.agg #[I c, I d])) w' fun v w1 => ∃ t : Bool, v = .bool t ∧ KeepX true w.heap.size bs (fun _ => False) w' w1 ∧
      (t = true → ∀ w2 : World, Below w.heap.size w w2 → Kept bs w1 w2 → Calls Try.prog 12 #[] w2 fun e1 w3 => ∃ t2 : Bool, e1 = .returned (.bool t2) ∧ KeepX true w.heap.size bs (fun _ => False) w2 w3 ∧
        ∀ w4 : World, Below w.heap.size w w4 → Kept bs w3 w4 → Pure w (.bool true) (.returned (.bool t2)) w4) ∧ (t = false → F w1) := by
  obtain ⟨rfl, rfl⟩ := h
  refine eql_act ⟨_, rfl, .all (.refl _ _), fun _ w2 _ _ => known_tail, fun h => ?_⟩
  simp at h

theorem heavy_any (r : Rules) (s : St) {a b : Option Addr} {c d : Nat} {w : World} (hc : Cells w a (spans r.ws)) : Calls Try.prog 23 #[r.v a c, s.v b d] w fun e w' => ∃ t : Bool, Pure w (.bool t) e w' := by
  refine vc23 _ _ _ _ _ _ _ _ _ _ _ _ _ w _ fun m1 h1 m2 h2 w1 hb1 hk1 => ?_
  refine Pure.calls (refCheck_any r (hc.keep hb1)) fun w2 hb2 => ⟨_, rfl, .all hb2, fun _ w3 hb3 _ => ⟨_, rfl, hb3⟩, fun hck w4 hb4 _ => Pure.calls (refState_any r s) fun w5 hb5 => ⟨_, rfl, .all hb5, fun _ w6 hb6 _ => ⟨_, rfl, hb6⟩, fun hst => ?_⟩⟩
  have hse : startErr r s = 0 := by unfold startErr; rw [if_pos hck, if_pos (by simpa using hst)]
  obtain ⟨hr, ⟨q1, q2, q3⟩, _⟩ := okSt_of hse
  have := hr.1
  simp only at q1 q2 q3
  refine ⟨fun ls _ => match ls with | [_, .int _ x] => 0 ≤ x ∧ x ≤ r.ws.length | _ => False, fun ls => match ls with | [_, .int _ x] => (r.ws.length - x).toNat | _ => 0, fun w7 hb7 _ => ⟨by omega, by omega⟩, ?_⟩
  rintro t x w8 hb8 ⟨h0, hn⟩
  refine ⟨fun hx => ?_, fun hx => ⟨fun _ w11 hb _ => ⟨_, rfl, hb⟩, fun _ => ⟨fun _ w12 hb _ => ⟨_, rfl, hb⟩, fun _ => ⟨fun _ w13 hb _ => ⟨_, rfl, hb⟩, fun _ => ⟨fun _ w14 hb _ => ⟨_, rfl, hb⟩, fun _ => ⟨by omega, fun w15 hb _ => ⟨_, rfl, hb⟩⟩⟩⟩⟩⟩⟩
  have hix : x.toNat < r.ws.length := by omega
  obtain ⟨g1, g2⟩ := spans_get (getElem_of_lt hix)
  obtain ⟨p, q, rfl, c1⟩ := hc _ _ g2
  have c1' := cell_keep hb8 c1
  refine ⟨p, q, rfl, ⟨h0, hx⟩, _, cell_at c1' (by omega), .inl (cell_lt c1), fun _ w9 hb9 _ => ⟨_, rfl, hb9⟩, fun _ => ⟨by omega, fun w10 hb10 _ => ⟨⟨by omega, by omega⟩, ?_⟩⟩⟩
  show ((r.ws.length : Int) - (x + 1)).toNat < ((r.ws.length : Int) - x).toNat
  omega

/-- What the two searches say together. -/
theorem few_cases {r : Rules} {s : St} (hr : Good r) (hsp : okSp (s.lo, s.hi)) (hul : s.used.length = r.ws.length) (he : startErr r s = 0) :
    ((refFewR r s 3).2.2 = false ∧ ((fewestR r s = (0, 7) ∧ actR r s = ((0, 0), 7)) ∨ ∃ k : Nat, 3 < k ∧ k ≤ 6 ∧ fewestR r s = (((k : Nat) : Int), 0) ∧ (actR r s).2 = 0)) ∨
    ((refFewR r s 3) = (0, (0, -1), true) ∧ fewestR r s = (0, 0) ∧ actR r s = ((0, 0), 9)) ∨
    ∃ (k : Nat) (x : Int × Int), refFewR r s 3 = (((k + 1 : Nat) : Int), x, true) ∧ fewestR r s = (((k + 1 : Nat) : Int), 0) ∧ actR r s = (x, 0) := by
  have hu : setOf s.used < 8 := setOf_lt (by have := hr.1; omega)
  have hfew := few_eq hr (u := setOf s.used) hsp
  have hne : ¬ startErr r s ≠ 0 := by omega
  unfold refFewR fewestR actR
  rw [if_neg hne, if_neg hne, hfew]
  cases h4 : (List.range 4).find? (fun n => enoughB r n (setOf s.used) (s.lo, s.hi)) with
  | none =>
    left
    refine ⟨rfl, ?_⟩
    cases h7 : (List.range 7).find? (fun n => enoughB r n (setOf s.used) (s.lo, s.hi)) with
    | none => exact .inl ⟨rfl, rfl⟩
    | some k =>
      right
      rw [List.find?_range_eq_some] at h7
      obtain ⟨g1, g2, g3⟩ := h7
      have hk : 3 < k := by
        refine Nat.lt_of_not_le fun hle => ?_
        rw [List.find?_eq_none] at h4
        exact h4 k (List.mem_range.2 (by omega)) g1
      refine ⟨k, hk, by have := List.mem_range.1 g2; omega, rfl, ?_⟩
      cases k with
      | zero => omega
      | succ k => rfl
  | some k =>
    right
    rw [List.find?_range_eq_some] at h4
    obtain ⟨g1, g2, g3⟩ := h4
    have h7 : (List.range 7).find? (fun n => enoughB r n (setOf s.used) (s.lo, s.hi)) = some k := by
      rw [List.find?_range_eq_some]
      exact ⟨g1, List.mem_range.2 (by have := List.mem_range.1 g2; omega), g3⟩
    rw [h7]
    cases k with
    | zero => exact .inl ⟨rfl, rfl, rfl⟩
    | succ k =>
      right
      refine ⟨k, _, rfl, rfl, ?_⟩
      simp only [firstAct_eq hr hu]

set_option maxRecDepth 100000 in
set_option maxHeartbeats 4000000 in
theorem rateFewest_any (r : Rules) (s : St) {a b : Option Addr} {c d : Nat} {w : World} (hc : Cells w a (spans r.ws)) (hs : Cells w b (bools s.used)) :
    Calls Try.prog 4 #[r.v a c, s.v b d] w (Pure w (.bool true)) := by
  refine vc4 _ _ _ _ _ _ _ _ _ _ _ _ _ w _ fun m1 g1 m2 g2 w1 B1 k1 => ?_
  refine Pure.calls (long_any r s) fun w2 b2 => ⟨_, rfl, .all b2, fun _ w3 B3 k3 => known_tail, fun hlong w6 B6 k6 => ?_⟩
  have hlen : r.ws.length ≤ 10 ∧ s.used.length ≤ 10 := by
    simp [longR] at hlong; omega
  refine (heavy_any r s (hc.keep B6)).mono fun e w7 he => ?_
  obtain ⟨t3, rfl, b7⟩ := he
  refine ⟨t3, rfl, .all b7, fun _ w8 B8 k8 => known_tail, fun _ w11 B11 k11 => ?_⟩
  refine (copied_any r (hc.keep B11) (by omega)).mono fun e w12 he => ?_
  obtain ⟨a1, c1, rfl, b12, A12, _, N1⟩ := he
  have R1 := Rng.of A12 N1
  have z11 := b12.size
  have o1 := k11.own m1 (by simp)
  have o2 := k11.own m2 (by simp)
  refine ⟨_, _, _, _, _, a1, _, c1, rfl, .all b12, fun w13 B13 k13 => ?_⟩
  have A13 := R1.cells A12 (chg_in k13) (by simp; omega)
  refine (state_any s (hs.keep B13) (by omega)).mono fun e w14 he => ?_
  obtain ⟨a2, c2, rfl, b14, D14, _, N2⟩ := he
  have R2 := Rng.of D14 N2
  have z13 := k13.size
  have z14 := b14.size
  refine ⟨_, _, a2, _, c2, rfl, .all b14, fun w15 B15 k15 => ?_⟩
  have A15 := R1.cells (A13.keep b14) (chg_in k15) (by simp; omega)
  have D15 := R2.cells D14 (chg_in k15) (by simp; omega)
  refine Pure.calls (fewest_any r s A15 D15) fun w16 b16 => ⟨_, _, rfl, .all b16, fun w17 B17 k17 => ?_⟩
  have z15 := k15.size
  have z16 := b16.size
  have z17 := k17.size
  refine (copied_any r (hc.keep B17) (by omega)).mono fun e w18 he => ?_
  obtain ⟨a3, c3, rfl, b18, A18, _, N3⟩ := he
  have R3 := Rng.of A18 N3
  have z18 := b18.size
  refine ⟨_, _, _, _, _, a3, _, c3, rfl, b18, fun w19 B19 k19 => ?_⟩
  have A19 := R3.kin A18 k19 (by simp; omega) ⟨(w17.heap.size, w18.heap.size), by simp, Nat.le_refl _, Nat.le_refl _⟩
  refine (state_any s (hs.keep B19) (by omega)).mono fun e w20 he => ?_
  obtain ⟨a4, c4, rfl, b20, D20, _, N4⟩ := he
  have R4 := Rng.of D20 N4
  have z19 := k19.size
  have z20 := b20.size
  refine ⟨_, _, a4, _, c4, rfl, b20, fun w21 B21 k21 => ?_⟩
  have A21 := R3.kin (A19.keep b20) k21 (by simp; omega) ⟨(w17.heap.size, w18.heap.size), by simp, Nat.le_refl _, Nat.le_refl _⟩
  have D21 := R4.kin D20 k21 (by simp; omega) ⟨(w19.heap.size, w20.heap.size), by simp, Nat.le_refl _, Nat.le_refl _⟩
  refine Pure.calls (actOf_any r s A21 D21) fun w22 b22 => ⟨_, _, _, rfl, b22, fun m11 _ _ _ _ w23 B23 k23 => ?_⟩
  have bad : startErr r s ≠ 0 → fewestR r s = (0, startErr r s) ∧ actR r s = ((0, 0), startErr r s) := fun h => by
    unfold fewestR actR; rw [if_pos h, if_pos h]; exact ⟨rfl, rfl⟩
  refine Pure.calls (refCheck_any r (hc.keep B23)) fun w24 b24 => ⟨_, rfl, .all b24, fun hck w25 B25 k25 => ?_, fun hck => ⟨fun _ => ?_, fun h => absurd h hck⟩⟩
  · refine Pure.calls (refState_any r s) fun w26 b26 => ⟨_, rfl, .all b26, fun hst => ⟨fun _ => ?_, fun h => absurd h (by decide)⟩, fun hst => ⟨fun h => absurd hck h, fun _ w98 B98 k98 => ?_⟩⟩
    · have he : startErr r s = 2 := by unfold startErr; rw [if_pos hck, if_neg (by simpa using hst)]
      obtain ⟨e1, e2⟩ := bad (by omega)
      rw [e1, e2, he]
      exact ⟨fun _ => ⟨fun _ => ⟨fun _ w27 B27 k27 => act_tail ⟨rfl, rfl⟩, fun h => absurd rfl h⟩, fun h => absurd rfl h⟩, fun h => absurd rfl h⟩
    · have he : startErr r s = 0 := by unfold startErr; rw [if_pos hck, if_pos (by simpa using hst)]
      obtain ⟨hr, hsp, hul⟩ := okSt_of he
      refine Pure.calls (refFewest_any hr hsp hul (hc.keep B98) (hs.keep B98) (most := 3) (by omega)) fun w99 b99 => ⟨_, _, _, _, rfl, .all b99, fun m13 _ => ?_⟩
      rcases few_cases hr hsp hul he with ⟨h1, ⟨h2, h3⟩ | ⟨k, hk1, hk2, h2, h3⟩⟩ | ⟨h1, h2, h3⟩ | ⟨k, x, h1, h2, h3⟩
      · rw [h2, h3]
        refine ⟨fun _ => ⟨fun _ => ⟨fun _ => ⟨fun _ w100 B100 k100 => act_tail ⟨rfl, rfl⟩, fun h => absurd rfl h⟩, fun h => absurd rfl h⟩, fun h => absurd rfl h⟩, fun h => ?_⟩
        rw [h1] at h; cases h
      · rw [h2, h3]
        refine ⟨fun _ => ⟨fun h => absurd h (show ¬ (0 : Int) = 7 by decide), fun _ => ⟨fun _ => ⟨fun _ => ⟨fun _ => ⟨fun _ w B k => known_tail, fun h => absurd h (by simp only; omega)⟩, fun h => absurd h (by simp only; omega)⟩, fun h => absurd rfl h⟩, fun h => absurd rfl h⟩⟩, fun h => ?_⟩
        rw [h1] at h; cases h
      · rw [h1, h2, h3]
        exact ⟨fun h => (by cases h), fun _ => ⟨fun _ => ⟨fun _ => ⟨fun _ => ⟨fun _ w B k => act_tail ⟨rfl, rfl⟩, fun h => absurd rfl h⟩, fun h => absurd rfl h⟩, fun h => absurd rfl h⟩, fun h => absurd rfl h⟩⟩
      · rw [h1, h2, h3]
        exact ⟨fun h => (by cases h), fun _ => ⟨fun h => absurd h (by simp only; omega), fun _ => ⟨fun _ => ⟨fun _ => ⟨fun _ w B k => act_tail ⟨rfl, rfl⟩, fun h => absurd rfl h⟩, fun h => absurd rfl h⟩, fun h => absurd rfl h⟩⟩⟩
  · have he : startErr r s = check r := by unfold startErr; rw [if_neg hck]
    obtain ⟨e1, e2⟩ := bad (by omega)
    rw [e1, e2, he]
    exact ⟨fun _ => ⟨fun _ => ⟨fun _ w27 B27 k27 => act_tail ⟨rfl, rfl⟩, fun h => absurd rfl h⟩, fun h => absurd rfl h⟩, fun h => absurd rfl h⟩
end Go.Proofs.R07
end
